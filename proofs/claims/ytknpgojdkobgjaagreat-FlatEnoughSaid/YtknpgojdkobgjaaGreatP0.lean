/- A part of the proof. -/
import Derived.Test.YtknpgojdkobgjaaGreatG2
set_option linter.unusedVariables false
set_option linter.unusedSimpArgs false
namespace Go.Proofs.YtknpgojdkobgjaaGreat.W
open Go Go.Wb
abbrev big : Nat := 1000000
theorem Z3q {α : Type} (P Q : List α) (x : α) (i : Int) (h : i = (P.length : Int)) : lget (P ++ x :: Q) i = some x := by
 subst h
 rw [Znl, List.getElem?_append_right (Nat.le_refl _)]; simp
theorem Z75 {α : Type} (P Q : List α) (x y : α) (i : Nat) (h : i = P.length) : List.set (P ++ x :: Q) i y = P ++ y :: Q := by
 subst h
 rw [List.set_append_right _ _ (Nat.le_refl _)]; simp
theorem wr {n : Int} (h1 : -4611686018427387904 ≤ n) (h2 : n ≤ 4611686018427387904) : IntKind.i64.wrap n = n := Z3m (by omega) (by omega)
theorem Z8k (n : Nat) (h : n ≤ 4611686018427387904) : IntKind.i64.wrap ((BitVec.ofNat 64 n).toNat : Int) = (n : Int) := by
 have : (BitVec.ofNat 64 n).toNat = n := by rw [BitVec.toNat_ofNat]; omega
 rw [this, wr (by omega) (by omega)]
theorem Zi6 (k : Int) (n : Nat) (hk : k = (n : Int)) (h : n ≤ 4611686018427387904) : Z2c (BitVec.ofInt 64 (IntKind.i64.wrap k)) ((1 : BitVec 64).toNat : Int) = some (BitVec.ofNat 64 (n / 2)) := by
 subst hk
 rw [wr (by omega) (by omega), show ((1 : BitVec 64).toNat : Int) = ((1 : Nat) : Int) from rfl]
 unfold Z2c
 rw [decide_eq_false (by omega), cond_false, BitVec.ofInt_natCast, Int.toNat_natCast]
 congr 1
 apply BitVec.eq_of_toNat_eq
 rw [BitVec.toNat_ushiftRight, BitVec.toNat_ofNat, BitVec.toNat_ofNat, Nat.shiftRight_eq_div_pow]
 omega
theorem Zs4 (n a b : Nat) : ∀ (U V P M Q : List Action) (i f : Nat), U.length = V.length → P.length = a + i → P.length + U.length + M.length = b + i → i + U.length = n → U.length < f → (P ++ U ++ M ++ V ++ Q).length ≤ big →
  Z85 (n : Int) (b : Int) (a : Int) f (P ++ U ++ M ++ V ++ Q) (i : Int) = some (P ++ V ++ M ++ U ++ Q)
 | [], V, P, M, Q, i, f, h1, h2, h3, h4, h5, h6 => by
  have hV : V = [] := List.eq_nil_of_length_eq_zero (by simpa using h1.symm)
  subst hV
  obtain ⟨f, rfl⟩ : ∃ k, f = k + 1 := ⟨f - 1, by simp at h5; omega⟩
  rw [Z85, decide_eq_false (by simp at h4; omega), cond_false]
 | u :: U, [], P, M, Q, i, f, h1, h2, h3, h4, h5, h6 => by simp at h1
 | u :: U, v :: V, P, M, Q, i, f, h1, h2, h3, h4, h5, h6 => by
  obtain ⟨f, rfl⟩ : ∃ k, f = k + 1 := ⟨f - 1, by simp at h5; omega⟩
  simp only [List.length_cons, List.length_append] at h1 h3 h4 h5 h6
  have hbig : big = 1000000 := rfl
  have ea : IntKind.i64.wrap ((a : Int) + (i : Int)) = (P.length : Int) := by rw [wr (by omega) (by omega)]; omega
  have eb : IntKind.i64.wrap ((b : Int) + (i : Int)) = ((P ++ u :: U ++ M).length : Int) := by
   rw [wr (by omega) (by omega)]; simp only [List.length_append, List.length_cons]; omega
  have e1 : P ++ u :: U ++ M ++ v :: V ++ Q = (P ++ u :: U ++ M) ++ v :: (V ++ Q) := by simp
  have e2 : P ++ u :: U ++ M ++ v :: V ++ Q = P ++ u :: (U ++ M ++ v :: V ++ Q) := by simp
  have e3 : P ++ v :: (U ++ M ++ v :: V ++ Q) = (P ++ v :: U ++ M) ++ v :: (V ++ Q) := by simp
  have e4 : (P ++ v :: U ++ M) ++ u :: (V ++ Q) = (P ++ [v]) ++ U ++ (M ++ [u]) ++ V ++ Q := by simp
  have g1 : lget (P ++ u :: U ++ M ++ v :: V ++ Q) ((P ++ u :: U ++ M).length : Int) = some v := by rw [e1]; exact Z3q _ _ _ _ rfl
  have g2 : lget (P ++ u :: U ++ M ++ v :: V ++ Q) (P.length : Int) = some u := by rw [e2]; exact Z3q _ _ _ _ rfl
  have s1 : List.set (P ++ u :: U ++ M ++ v :: V ++ Q) ((P.length : Int)).toNat v = (P ++ v :: U ++ M) ++ v :: (V ++ Q) := by
   rw [e2, Int.toNat_natCast, Z75 _ _ _ _ _ rfl, e3]
  have hl : (P ++ u :: U ++ M).length = (P ++ v :: U ++ M).length := by simp
  have g3 : lget ((P ++ v :: U ++ M) ++ v :: (V ++ Q)) ((P ++ u :: U ++ M).length : Int) = some v := Z3q _ _ _ _ (by rw [hl])
  have s2 : List.set ((P ++ v :: U ++ M) ++ v :: (V ++ Q)) (((P ++ u :: U ++ M).length : Int)).toNat u = (P ++ [v]) ++ U ++ (M ++ [u]) ++ V ++ Q := by
   rw [Int.toNat_natCast, Z75 _ _ _ _ _ hl, e4]
  have ei : IntKind.i64.wrap ((i : Int) + 1) = ((i + 1 : Nat) : Int) := by rw [wr (by omega) (by omega)]; omega
  rw [Z85, decide_eq_true (by omega), cond_true, eb, g1, Option.bind_some, ea, g2, Option.bind_some, Option.bind_some, s1, g3, Option.bind_some, s2, ei,
   Zs4 n a b U V (P ++ [v]) (M ++ [u]) Q (i + 1) f (by omega) (by simp only [List.length_append, List.length_cons, List.length_nil]; omega) (by simp only [List.length_append, List.length_cons, List.length_nil]; omega) (by omega) (by omega) (by simp only [List.length_append, List.length_cons, List.length_nil]; omega)]
  simp
theorem Znn (U V P M Q : List Action) (cmp : Action → Action → Option Int) (a b n : Int) (h : U.length = V.length) (ha : a = (P.length : Int)) (hb : b = ((P ++ U ++ M).length : Int)) (hn : n = (U.length : Int)) (hl : (P ++ U ++ M ++ V ++ Q).length ≤ big) :
  Z9u (P ++ U ++ M ++ V ++ Q) a b n cmp = some (P ++ V ++ M ++ U ++ Q) := by
 subst ha hb hn
 unfold Z9u
 exact Zs4 U.length P.length (P ++ U ++ M).length U V P M Q 0 _ h rfl (by simp only [List.length_append]; omega) (by omega) (by omega) hl
theorem Zk0 (cmp : Action → Action → Option Int) : ∀ (f : Nat) (X Y P Q : List Action) (m : Nat), 0 < X.length → 0 < Y.length → X.length + Y.length ≤ f → P.length + X.length = m → (P ++ X ++ Y ++ Q).length ≤ big →
  Z7m (m : Int) cmp f (P ++ X ++ Y ++ Q) (X.length : Int) (Y.length : Int) = some (P ++ Y ++ X ++ Q)
 | 0, X, Y, P, Q, m, h1, h2, h3, h4, h5 => by omega
 | f + 1, X, Y, P, Q, m, h1, h2, h3, h4, h5 => by
  have hbig : big = 1000000 := rfl
  simp only [List.length_append] at h5
  have em : IntKind.i64.wrap ((m : Int) - (X.length : Int)) = (P.length : Int) := by rw [wr (by omega) (by omega)]; omega
  rw [Z7m, em]
  by_cases he : X.length = Y.length
  ·rw [decide_eq_false (by omega), cond_false]
   have := Znn X Y P [] Q cmp (P.length : Int) (m : Int) (X.length : Int) he rfl (by simp; omega) rfl (by simp only [List.length_append, List.length_nil]; omega)
   simp only [List.append_nil] at this
   rw [this]; rfl
  ·rw [decide_eq_true (by omega), cond_true]
   by_cases hg : X.length > Y.length
   ·rw [decide_eq_true (by omega), cond_true]
    have hx : X = X.take Y.length ++ X.drop Y.length := (List.take_append_drop ..).symm
    generalize hX1 : X.take Y.length = X1 at hx
    generalize hX2 : X.drop Y.length = X2 at hx
    have l1 : X1.length = Y.length := by rw [← hX1]; simp; omega
    have l2 : X2.length = X.length - Y.length := by rw [← hX2]; simp
    have := Znn X1 Y P X2 Q cmp (P.length : Int) (m : Int) (Y.length : Int) l1 rfl (by simp only [List.length_append]; omega) (by omega) (by simp only [List.length_append]; omega)
    have e1 : P ++ X ++ Y ++ Q = P ++ X1 ++ X2 ++ Y ++ Q := by rw [hx]; simp
    have e2 : P ++ Y ++ X2 ++ X1 ++ Q = (P ++ Y) ++ X2 ++ X1 ++ Q := by simp
    have e3 : IntKind.i64.wrap ((X.length : Int) - (Y.length : Int)) = (X2.length : Int) := by rw [wr (by omega) (by omega)]; omega
    have e4 : ((Y.length : Nat) : Int) = (X1.length : Int) := by omega
    rw [e1, this, Option.bind_some, e2, e3, e4, Zk0 cmp f X2 X1 (P ++ Y) Q m (by omega) (by omega) (by omega) (by simp only [List.length_append]; omega) (by simp only [List.length_append]; omega)]
    rw [hx]; simp
   ·rw [decide_eq_false (by omega), cond_false]
    have hy : Y = Y.take (Y.length - X.length) ++ Y.drop (Y.length - X.length) := (List.take_append_drop ..).symm
    generalize hY1 : Y.take (Y.length - X.length) = Y1 at hy
    generalize hY2 : Y.drop (Y.length - X.length) = Y2 at hy
    have l1 : Y1.length = Y.length - X.length := by rw [← hY1]; simp
    have l2 : Y2.length = X.length := by rw [← hY2]; simp; omega
    have hb : IntKind.i64.wrap (IntKind.i64.wrap ((m : Int) + (Y.length : Int)) - (X.length : Int)) = ((P ++ X ++ Y1).length : Int) := by
     rw [wr (n := (m : Int) + (Y.length : Int)) (by omega) (by omega), wr (by omega) (by omega)]; simp only [List.length_append]; omega
    have := Znn X Y2 P Y1 Q cmp (P.length : Int) ((P ++ X ++ Y1).length : Int) (X.length : Int) (by omega) rfl rfl rfl (by simp only [List.length_append]; omega)
    have e1 : P ++ X ++ Y ++ Q = P ++ X ++ Y1 ++ Y2 ++ Q := by rw [hy]; simp
    have e2 : P ++ Y2 ++ Y1 ++ X ++ Q = P ++ Y2 ++ Y1 ++ (X ++ Q) := by simp
    have e3 : IntKind.i64.wrap ((Y.length : Int) - (X.length : Int)) = (Y1.length : Int) := by rw [wr (by omega) (by omega)]; omega
    have e4 : ((X.length : Nat) : Int) = (Y2.length : Int) := by omega
    rw [hb, e1, this, Option.bind_some, e2, e3, e4, Zk0 cmp f Y2 Y1 P (X ++ Q) m (by omega) (by omega) (by omega) (by omega) (by simp only [List.length_append]; omega)]
    rw [hy]; simp
theorem Y07 (cmp : Action → Action → Option Int) (X Y P Q : List Action) (a m b : Int) (h1 : 0 < X.length) (h2 : 0 < Y.length) (ha : a = (P.length : Int)) (hm : m = ((P ++ X).length : Int)) (hb : b = ((P ++ X ++ Y).length : Int)) (hl : (P ++ X ++ Y ++ Q).length ≤ big) :
  Zce (P ++ X ++ Y ++ Q) a m b cmp = some (P ++ Y ++ X ++ Q) := by
 subst ha hm hb
 have hbig : big = 1000000 := rfl
 simp only [List.length_append] at hl
 unfold Zce
 have e1 : IntKind.i64.wrap (((P ++ X).length : Int) - (P.length : Int)) = (X.length : Int) := by rw [wr (by simp only [List.length_append]; omega) (by simp only [List.length_append]; omega)]; simp only [List.length_append]; omega
 have e2 : IntKind.i64.wrap (((P ++ X ++ Y).length : Int) - ((P ++ X).length : Int)) = (Y.length : Int) := by rw [wr (by simp only [List.length_append]; omega) (by simp only [List.length_append]; omega)]; simp only [List.length_append]; omega
 rw [e1, e2]
 exact Zk0 cmp Z18 X Y P Q _ h1 h2 (by unfold Z18; omega) (by simp) (by simp only [List.length_append]; omega)
theorem Zg4 {β : Type} (G : Nat → Int → Int → Option β) (K : Int → Option β) (t : Nat → Bool) (lo s hi : Nat)
  (step : ∀ (f i j : Nat), lo ≤ i → i < j → j ≤ hi → G (f + 1) (i : Int) (j : Int) = bif t ((i + j) / 2) then G f (((i + j) / 2 + 1 : Nat) : Int) (j : Int) else G f (i : Int) (((i + j) / 2 : Nat) : Int))
  (stop : ∀ (f i : Nat), lo ≤ i → i ≤ hi → G (f + 1) (i : Int) (i : Int) = K (i : Int)) (ht : ∀ c, lo ≤ c → c < s → t c = true) (hf : ∀ c, s ≤ c → c < hi → t c = false) :
  ∀ (f i j : Nat), lo ≤ i → i ≤ s → s ≤ j → j ≤ hi → j - i < f → G f (i : Int) (j : Int) = K (s : Int)
 | 0, i, j, _, _, _, _, h => by omega
 | f + 1, i, j, h1, h2, h3, h4, h5 => by
  by_cases hij : i < j
  ·rw [step f i j h1 hij h4]
   by_cases hc : (i + j) / 2 < s
   ·rw [ht _ (by omega) hc, cond_true]
    exact Zg4 G K t lo s hi step stop ht hf f _ j (by omega) (by omega) h3 h4 (by omega)
   ·rw [hf _ (by omega) (by omega), cond_false]
    exact Zg4 G K t lo s hi step stop ht hf f i _ h1 h2 (by omega) (by omega) (by omega)
  ·have e1 : i = s := by omega
   have e2 : j = s := by omega
   rw [e1, e2]
   exact stop f s (by omega) (by omega)
theorem Zgx (t : Nat → Bool) (lo : Nat) : ∀ (n : Nat), (∀ c d, lo ≤ c → c ≤ d → d < lo + n → t c = false → t d = false) → ∃ s, lo ≤ s ∧ s ≤ lo + n ∧ (∀ c, lo ≤ c → c < s → t c = true) ∧ ∀ c, s ≤ c → c < lo + n → t c = false
 | 0, _ => ⟨lo, Nat.le_refl _, Nat.le_refl _, fun c h1 h2 => by omega, fun c h1 h2 => by omega⟩
 | n + 1, hm => by
  obtain ⟨s, h1, h2, h3, h4⟩ := Zgx t lo n fun c d a b e f => hm c d a b (by omega) f
  by_cases hs : s < lo + n
  ·refine ⟨s, h1, by omega, h3, fun c a b => ?_⟩
   by_cases hc : c < lo + n
   ·exact h4 c a hc
   ·exact hm s c h1 a b (h4 s (Nat.le_refl _) hs)
  ·have : s = lo + n := by omega
   subst this
   cases ht : t (lo + n)
   ·exact ⟨lo + n, h1, by omega, h3, fun c a b => by rw [show c = lo + n by omega, ht]⟩
   ·refine ⟨lo + n + 1, by omega, by omega, fun c a b => ?_, fun c a b => by omega⟩
    by_cases hc : c < lo + n
    ·exact h3 c a hc
    ·have : c = lo + n := by omega
     rw [this, ht]
end Go.Proofs.YtknpgojdkobgjaaGreat.W
namespace Go.Proofs.YtknpgojdkobgjaaGreat.W
open Go Go.Wb
section sym
variable (lt : Action → Action → Bool) (cmp : Action → Action → Option Int)
def Z4h : Prop := ∀ x y, ∃ c, cmp x y = some c ∧ decide (c < 0) = lt x y
variable {lt cmp}
theorem Zpd (e : Nat) : ∀ (Y P Q : List Action) (x : Action) (k f : Nat), k = P.length → k + Y.length + 1 = e → Y.length < f → (P ++ x :: (Y ++ Q)).length ≤ big →
  Z5b (e : Int) f (P ++ x :: (Y ++ Q)) (k : Int) = some (P ++ Y ++ x :: Q)
 | [], P, Q, x, k, f, h1, h2, h3, h4 => by
  obtain ⟨f, rfl⟩ : ∃ k, f = k + 1 := ⟨f - 1, by simp at h3; omega⟩
  have hbig : big = 1000000 := rfl
  simp only [List.length_append, List.length_cons, List.length_nil] at h2 h4
  rw [Z5b, wr (by omega) (by omega), decide_eq_false (by omega), cond_false]
  simp
 | y :: Y, P, Q, x, k, f, h1, h2, h3, h4 => by
  obtain ⟨f, rfl⟩ : ∃ k, f = k + 1 := ⟨f - 1, by simp at h3; omega⟩
  have hbig : big = 1000000 := rfl
  simp only [List.length_append, List.length_cons] at h2 h3 h4
  have ek : IntKind.i64.wrap ((k : Int) + 1) = ((k + 1 : Nat) : Int) := by rw [wr (by omega) (by omega)]; omega
  have e1 : P ++ x :: (y :: Y ++ Q) = (P ++ [x]) ++ y :: (Y ++ Q) := by simp
  have e2 : (P ++ [y]) ++ y :: (Y ++ Q) = P ++ y :: (y :: (Y ++ Q)) := by simp
  have g1 : lget (P ++ x :: (y :: Y ++ Q)) ((k + 1 : Nat) : Int) = some y := by rw [e1]; exact Z3q _ _ _ _ (by simp; omega)
  have g2 : lget (P ++ x :: (y :: Y ++ Q)) (k : Int) = some x := Z3q _ _ _ _ (by omega)
  have s1 : List.set (P ++ x :: (y :: Y ++ Q)) ((k : Int)).toNat y = (P ++ [y]) ++ y :: (Y ++ Q) := by rw [Int.toNat_natCast, Z75 _ _ _ _ _ h1]; simp
  have g3 : lget ((P ++ [y]) ++ y :: (Y ++ Q)) ((k + 1 : Nat) : Int) = some y := Z3q _ _ _ _ (by simp; omega)
  have s2 : List.set ((P ++ [y]) ++ y :: (Y ++ Q)) (((k + 1 : Nat) : Int)).toNat x = (P ++ [y]) ++ x :: (Y ++ Q) := by rw [Int.toNat_natCast, Z75 _ _ _ _ _ (by simp; omega)]
  rw [Z5b, wr (n := (e : Int) - 1) (by omega) (by omega), decide_eq_true (by omega), cond_true, ek, g1, Option.bind_some, g2, Option.bind_some, Option.bind_some, s1, g3, Option.bind_some, s2,
   Zpd e Y (P ++ [y]) Q x (k + 1) f (by simp; omega) (by omega) (by omega) (by simp only [List.length_append, List.length_cons, List.length_nil]; omega)]
  simp
theorem Zsm (s : Nat) : ∀ (R P Q : List Action) (x : Action) (k f : Nat), k = s + R.length → P.length = s → R.length < f → (P ++ R.reverse ++ x :: Q).length ≤ big →
  Z5e (s : Int) f (P ++ R.reverse ++ x :: Q) (k : Int) = some (P ++ x :: (R.reverse ++ Q))
 | [], P, Q, x, k, f, h1, h2, h3, h4 => by
  obtain ⟨f, rfl⟩ : ∃ k, f = k + 1 := ⟨f - 1, by simp at h3; omega⟩
  rw [Z5e, decide_eq_false (by simp at h1; omega), cond_false]
  simp
 | y :: R, P, Q, x, k, f, h1, h2, h3, h4 => by
  obtain ⟨f, rfl⟩ : ∃ k, f = k + 1 := ⟨f - 1, by simp at h3; omega⟩
  have hbig : big = 1000000 := rfl
  simp only [List.length_append, List.length_cons, List.length_reverse] at h1 h3 h4
  have ek : IntKind.i64.wrap ((k : Int) - 1) = ((k - 1 : Nat) : Int) := by rw [wr (by omega) (by omega)]; omega
  have e1 : P ++ (y :: R).reverse ++ x :: Q = (P ++ R.reverse) ++ y :: (x :: Q) := by simp
  have e1' : P ++ (y :: R).reverse ++ x :: Q = (P ++ R.reverse ++ [y]) ++ x :: Q := by simp
  have g1 : lget (P ++ (y :: R).reverse ++ x :: Q) ((k - 1 : Nat) : Int) = some y := by rw [e1]; exact Z3q _ _ _ _ (by simp; omega)
  have g2 : lget (P ++ (y :: R).reverse ++ x :: Q) (k : Int) = some x := by rw [e1']; exact Z3q _ _ _ _ (by simp; omega)
  have s1 : List.set (P ++ (y :: R).reverse ++ x :: Q) ((k : Int)).toNat y = (P ++ R.reverse) ++ y :: (y :: Q) := by rw [e1', Int.toNat_natCast, Z75 _ _ _ _ _ (by simp; omega)]; simp
  have g3 : lget ((P ++ R.reverse) ++ y :: (y :: Q)) ((k - 1 : Nat) : Int) = some y := Z3q _ _ _ _ (by simp; omega)
  have s2 : List.set ((P ++ R.reverse) ++ y :: (y :: Q)) (((k - 1 : Nat) : Int)).toNat x = P ++ R.reverse ++ x :: (y :: Q) := by rw [Int.toNat_natCast, Z75 _ _ _ _ _ (by simp; omega)]
  rw [Z5e, decide_eq_true (by omega), cond_true, ek, g1, Option.bind_some, g2, Option.bind_some, Option.bind_some, s1, g3, Option.bind_some, s2,
   Zsm s R P (y :: Q) x (k - 1) f (by omega) h2 (by omega) (by simp only [List.length_append, List.length_cons, List.length_reverse]; omega)]
  simp
theorem Zi8 {α : Type} (P X Q : List α) (c : Nat) (h1 : P.length ≤ c) (h2 : c < P.length + X.length) : lget (P ++ X ++ Q) (c : Int) = some (X[c - P.length]'(by omega)) := by
 rw [Znl, List.append_assoc, List.getElem?_append_right h1, List.getElem?_append_left (by omega), List.getElem?_eq_getElem]
theorem Y8s {l : List Action} (h : Z0q lt l) {i j : Nat} (hi : i < l.length) (hj : j < l.length) (hij : i < j) : lt l[j] l[i] = false := (List.pairwise_iff_getElem.1 h) i j hi hj hij
theorem Z8r (hs : Swo lt) {l : List Action} (h : Z0q lt l) {i j : Nat} (hi : i < l.length) (hj : j < l.length) (hij : i ≤ j) : lt l[j] l[i] = false := by
 rcases Nat.lt_or_eq_of_le hij with h1 | h1
 ·exact Y8s h hi hj h1
 ·subst h1
  have := Z73 hs l[i]
  unfold eqv at this
  simpa using this
theorem Zik {A B : List Action} (h : Z0q lt (A ++ B)) : Z0q lt A := (List.pairwise_append.1 h).1
theorem Zh7 {A B : List Action} (h : Z0q lt (A ++ B)) : Z0q lt B := (List.pairwise_append.1 h).2.1
theorem Y21 (hs : Swo lt) (hc : Z4h lt cmp) (x : Action) (Y P Q : List Action) (hY : Z0q lt Y) (hl : (P ++ x :: (Y ++ Q)).length ≤ big) :
  Z5f (P ++ x :: (Y ++ Q)) (P.length : Int) cmp ((((P.length + 1 + Y.length : Nat) : Int) - ((P.length + 1 : Nat) : Int)).toNat + 1) ((P.length + 1 : Nat) : Int) ((P.length + 1 + Y.length : Nat) : Int) = some (P ++ srt lt (x :: Y) ++ Q) := by
 have hbig : big = 1000000 := rfl
 simp only [List.length_append, List.length_cons] at hl
 have eD : P ++ x :: (Y ++ Q) = (P ++ [x]) ++ Y ++ Q := by simp
 let t : Nat → Bool := fun c => if h : c - (P.length + 1) < Y.length then lt Y[c - (P.length + 1)] x else false
 have htv : ∀ c (h : c - (P.length + 1) < Y.length), t c = lt Y[c - (P.length + 1)] x := fun c h => by simp only [t]; rw [dif_pos h]
 obtain ⟨s, s1, s2, s3, s4⟩ := Zgx t (P.length + 1) Y.length fun c d h1 h2 h3 h4 => by
  rw [htv c (by omega)] at h4
  rw [htv d (by omega)]
  exact hs.neg _ _ _ (Z8r hs hY (by omega) (by omega) (by omega)) h4
 have key := Zg4 (Z5f (P ++ x :: (Y ++ Q)) (P.length : Int) cmp) (fun i => Z5b i ((((IntKind.i64.wrap (i - 1)) : Int) - (P.length : Int)).toNat + 1) (P ++ x :: (Y ++ Q)) (P.length : Int)) t (P.length + 1) s (P.length + 1 + Y.length)
  (fun f i j h1 h2 h3 => by
   obtain ⟨c, hc1, hc2⟩ := hc (Y[(i + j) / 2 - (P.length + 1)]'(by omega)) x
   have gx : lget (P ++ x :: (Y ++ Q)) (P.length : Int) = some x := Z3q _ _ _ _ rfl
   have gy : lget (P ++ x :: (Y ++ Q)) (((i + j) / 2 : Nat) : Int) = some (Y[(i + j) / 2 - (P.length + 1)]'(by omega)) := by
    rw [eD, Zi8 (P ++ [x]) Y Q _ (by simp; omega) (by simp; omega)]
    simp
   have e1 : IntKind.i64.wrap ((((i + j) / 2 : Nat) : Int) + 1) = (((i + j) / 2 + 1 : Nat) : Int) := by rw [wr (by omega) (by omega)]; omega
   rw [Z5f, decide_eq_true (by omega), cond_true, Zi6 _ (i + j) (by omega) (by omega), Option.bind_some, Z8k _ (by omega), gy, Option.bind_some, gx, Option.bind_some, hc1, Option.bind_some, hc2, htv _ (by omega), e1])
  (fun f i h1 h2 => by rw [Z5f, decide_eq_false (by omega), cond_false]) s3 (fun c h1 h2 => s4 c h1 h2)
 rw [key _ _ _ (Nat.le_refl _) s1 s2 (Nat.le_refl _) (by omega)]
 have hy : Y = Y.take (s - (P.length + 1)) ++ Y.drop (s - (P.length + 1)) := (List.take_append_drop ..).symm
 have l1 : (Y.take (s - (P.length + 1))).length = s - (P.length + 1) := by simp; omega
 have hm := Zpd s (Y.take (s - (P.length + 1))) P (Y.drop (s - (P.length + 1)) ++ Q) x P.length ((((IntKind.i64.wrap ((s : Int) - 1)) : Int) - (P.length : Int)).toNat + 1) rfl (by omega) (by rw [wr (by omega) (by omega)]; omega) (by simp only [List.length_append, List.length_cons, List.length_drop]; omega)
 rw [← List.append_assoc, ← hy] at hm
 show Z5b (s : Int) _ _ _ = _
 rw [hm]
 have h1 : ∀ y ∈ Y.take (s - (P.length + 1)), lt y x = true := fun y hy1 => by
  obtain ⟨i, hi, rfl⟩ := List.getElem_of_mem hy1
  rw [l1] at hi
  have := s3 (i + (P.length + 1)) (by omega) (by omega)
  rw [htv _ (by omega)] at this
  simpa using this
 have h2 : ∀ y ∈ Y.drop (s - (P.length + 1)), lt y x = false := fun y hy1 => by
  obtain ⟨i, hi, rfl⟩ := List.getElem_of_mem hy1
  rw [List.length_drop] at hi
  have := s4 (s + i) (by omega) (by omega)
  rw [htv _ (by omega)] at this
  rw [List.getElem_drop]
  have e : s + i - (P.length + 1) = s - (P.length + 1) + i := by omega
  simpa [e] using this
 have hY' := hY
 rw [hy] at hY'
 have h3 := Zm6 hs (X1 := []) (X2 := [x]) (Y1 := Y.take (s - (P.length + 1))) (Y2 := Y.drop (s - (P.length + 1))) (by simp [Z0q]) hY' (by simp) (fun y hy1 u hu => by rw [show u = x by simpa using hu]; exact h1 y hy1)
 simp only [List.nil_append, ← hy] at h3
 have h4 : srt lt ([x] ++ Y.drop (s - (P.length + 1))) = [x] ++ Y.drop (s - (P.length + 1)) := Zd5 hs (by
  unfold Z0q
  rw [List.pairwise_append]
  exact ⟨by simp, (Zh7 hY'), fun u hu v hv => by rw [show u = x by simpa using hu]; exact h2 v hv⟩)
 rw [h4, Zd5 hs (Zik hY')] at h3
 rw [show x :: Y = [x] ++ Y from rfl, h3]
 simp
theorem Zx3 (hs : Swo lt) (hc : Z4h lt cmp) (x : Action) (X P Q : List Action) (hX : Z0q lt X) (hl : (P ++ X ++ x :: Q).length ≤ big) :
  Z5g (P ++ X ++ x :: Q) ((P.length + X.length : Nat) : Int) cmp ((((P.length + X.length : Nat) : Int) - (P.length : Int)).toNat + 1) (P.length : Int) ((P.length + X.length : Nat) : Int) = some (P ++ srt lt (X ++ [x]) ++ Q) := by
 have hbig : big = 1000000 := rfl
 simp only [List.length_append, List.length_cons] at hl
 let t : Nat → Bool := fun c => if h : c - P.length < X.length then !lt x X[c - P.length] else false
 have htv : ∀ c (h : c - P.length < X.length), t c = !lt x X[c - P.length] := fun c h => by simp only [t]; rw [dif_pos h]
 obtain ⟨s, s1, s2, s3, s4⟩ := Zgx t P.length X.length fun c d h1 h2 h3 h4 => by
  rw [htv c (by omega)] at h4
  rw [htv d (by omega)]
  simp only [Bool.not_eq_false'] at h4 ⊢
  cases hd : lt x X[d - P.length]
  ·have := hs.neg _ _ _ hd (Z8r hs hX (i := c - P.length) (j := d - P.length) (by omega) (by omega) (by omega))
   rw [this] at h4; cases h4
  ·rfl
 have key := Zg4 (Z5g (P ++ X ++ x :: Q) ((P.length + X.length : Nat) : Int) cmp) (fun i => Z5e i (((((P.length + X.length : Nat) : Int) : Int) - i).toNat + 1) (P ++ X ++ x :: Q) ((P.length + X.length : Nat) : Int)) t P.length s (P.length + X.length)
  (fun f i j h1 h2 h3 => by
   obtain ⟨c, hc1, hc2⟩ := hc x (X[(i + j) / 2 - P.length]'(by omega))
   have gx : lget (P ++ X ++ x :: Q) ((P.length + X.length : Nat) : Int) = some x := Z3q _ _ _ _ (by simp)
   have gy : lget (P ++ X ++ x :: Q) (((i + j) / 2 : Nat) : Int) = some (X[(i + j) / 2 - P.length]'(by omega)) := Zi8 P X (x :: Q) _ (by omega) (by omega)
   have e1 : IntKind.i64.wrap ((((i + j) / 2 : Nat) : Int) + 1) = (((i + j) / 2 + 1 : Nat) : Int) := by rw [wr (by omega) (by omega)]; omega
   rw [Z5g, decide_eq_true (by omega), cond_true, Zi6 _ (i + j) (by omega) (by omega), Option.bind_some, Z8k _ (by omega), gx, Option.bind_some, gy, Option.bind_some, hc1, Option.bind_some, hc2, htv _ (by omega), e1])
  (fun f i h1 h2 => by rw [Z5g, decide_eq_false (by omega), cond_false]) s3 (fun c h1 h2 => s4 c h1 h2)
 rw [key _ _ _ (Nat.le_refl _) s1 s2 (Nat.le_refl _) (by omega)]
 have hx : X = X.take (s - P.length) ++ X.drop (s - P.length) := (List.take_append_drop ..).symm
 have l1 : (X.take (s - P.length)).length = s - P.length := by simp; omega
 have hm := Zsm s (X.drop (s - P.length)).reverse (P ++ X.take (s - P.length)) Q x (P.length + X.length) (((((P.length + X.length : Nat) : Int) : Int) - (s : Int)).toNat + 1) (by simp; omega) (by simp; omega) (by simp; omega) (by simp only [List.length_append, List.length_cons, List.length_reverse, List.length_drop, List.length_take]; omega)
 rw [List.reverse_reverse, List.append_assoc P, ← hx] at hm
 show Z5e (s : Int) _ _ _ = _
 rw [hm]
 have h1 : ∀ u ∈ X.take (s - P.length), lt x u = false := fun u hu => by
  obtain ⟨i, hi, rfl⟩ := List.getElem_of_mem hu
  rw [l1] at hi
  have := s3 (i + P.length) (by omega) (by omega)
  rw [htv _ (by omega)] at this
  simpa using this
 have h2 : ∀ u ∈ X.drop (s - P.length), lt x u = true := fun u hu => by
  obtain ⟨i, hi, rfl⟩ := List.getElem_of_mem hu
  rw [List.length_drop] at hi
  have := s4 (s + i) (by omega) (by omega)
  rw [htv _ (by omega)] at this
  rw [List.getElem_drop]
  have e : s + i - P.length = s - P.length + i := by omega
  simpa [e] using this
 have hX' := hX
 rw [hx] at hX'
 have h3 := Zm6 hs (X1 := X.take (s - P.length)) (X2 := X.drop (s - P.length)) (Y1 := [x]) (Y2 := []) hX' (by simp [Z0q]) (by simp) (fun y hy1 u hu => by rw [show y = x by simpa using hy1]; exact h2 u hu)
 simp only [List.append_nil, ← hx] at h3
 have h4 : srt lt (X.take (s - P.length) ++ [x]) = X.take (s - P.length) ++ [x] := Zd5 hs (by
  unfold Z0q
  rw [List.pairwise_append]
  exact ⟨(Zik hX'), by simp, fun u hu v hv => by rw [show v = x by simpa using hv]; exact h1 u hu⟩)
 rw [h4, Zd5 hs (Zh7 hX')] at h3
 rw [h3]
 simp
end sym
end Go.Proofs.YtknpgojdkobgjaaGreat.W
namespace Go.Proofs.YtknpgojdkobgjaaGreat.W
open Go Go.Wb
section sym
variable {lt : Action → Action → Bool} {cmp : Action → Action → Option Int}
def Zji (lt : Action → Action → Bool) (cmp : Action → Action → Option Int) (f : Nat) (R : List Action → Int → Int → Int → (Action → Action → Option Int) → Option (List Action)) : Prop :=
 ∀ (P X Y Q : List Action) (a m b : Int), a = (P.length : Int) → m = (P.length : Int) + (X.length : Int) → b = (P.length : Int) + (X.length : Int) + (Y.length : Int) → 0 < X.length → 0 < Y.length → X.length + Y.length ≤ f → Z0q lt X → Z0q lt Y → (P ++ X ++ Y ++ Q).length ≤ big →
  R (P ++ X ++ Y ++ Q) a m b cmp = some (P ++ srt lt (X ++ Y) ++ Q)
theorem Ztg (hs : Swo lt) {X Y : List Action} (hX : Z0q lt X) (hY : Z0q lt Y) (h : ¬ (0 < X.length ∧ 0 < Y.length)) : srt lt (X ++ Y) = X ++ Y := by
 cases X with
 | nil => exact Zd5 hs hY
 | cons x X =>
  cases Y with
  | nil => rw [List.append_nil]; exact Zd5 hs hX
  | cons y Y => exact absurd ⟨by simp, by simp⟩ h
theorem Y3l (hs : Swo lt) {f : Nat} {R : List Action → Int → Int → Int → (Action → Action → Option Int) → Option (List Action)} (hR : Zji lt cmp f R) (P X2 Y2 Q : List Action) (mid : Nat) (m start b : Int)
  (h1 : mid = P.length) (h2 : (mid : Int) + m - start = (P.length : Int) + (X2.length : Int)) (h3 : b = (P.length : Int) + (X2.length : Int) + (Y2.length : Int)) (hm : 0 ≤ m ∧ m ≤ big) (hst : 0 ≤ start ∧ start ≤ big) (hf : X2.length + Y2.length ≤ f) (hX : Z0q lt X2) (hY : Z0q lt Y2) (hl : (P ++ X2 ++ Y2 ++ Q).length ≤ big) :
  Zbt (BitVec.ofNat 64 mid) m start b R cmp (P ++ X2 ++ Y2 ++ Q) = some (P ++ srt lt (X2 ++ Y2) ++ Q) := by
 have hbig : big = 1000000 := rfl
 have hl' := hl
 simp only [List.length_append] at hl'
 unfold Zbt
 rw [Z8k mid (by omega)]
 have e1 : IntKind.i64.wrap (IntKind.i64.wrap ((mid : Int) + m) - start) = (P.length : Int) + (X2.length : Int) := by
  rw [wr (n := (mid : Int) + m) (by omega) (by omega), wr (by omega) (by omega), h2]
 rw [e1]
 by_cases hc : 0 < X2.length ∧ 0 < Y2.length
 ·rw [decide_eq_true (by omega), decide_eq_true (by omega), Bool.and_true, cond_true, hR P X2 Y2 Q _ _ _ (by omega) rfl h3 hc.1 hc.2 hf hX hY hl]
  rfl
 ·have : (decide ((mid : Int) < (P.length : Int) + (X2.length : Int)) && decide ((P.length : Int) + (X2.length : Int) < b)) = false := by
   rw [Bool.and_eq_false_iff, decide_eq_false_iff_not, decide_eq_false_iff_not]
   by_cases h : 0 < X2.length
   ·exact .inr (fun h' => hc ⟨h, by omega⟩)
   ·exact .inl (by omega)
  rw [this, cond_false, Ztg hs hX hY hc]
  simp
theorem Y61 (hs : Swo lt) {f : Nat} {R : List Action → Int → Int → Int → (Action → Action → Option Int) → Option (List Action)} (hR : Zji lt cmp f R) (P X1 Y1 X2 Y2 Q : List Action) (mid : Nat) (a m start b : Int)
  (ha : a = (P.length : Int)) (h1 : mid = P.length + X1.length + Y1.length) (hs1 : start = (P.length : Int) + (X1.length : Int)) (hm : m = start + (X2.length : Int)) (h3 : b = (mid : Int) + (X2.length : Int) + (Y2.length : Int))
  (hf1 : X1.length + Y1.length ≤ f) (hf2 : X2.length + Y2.length ≤ f) (hX1 : Z0q lt X1) (hY1 : Z0q lt Y1) (hX2 : Z0q lt X2) (hY2 : Z0q lt Y2) (hl : (P ++ X1 ++ Y1 ++ X2 ++ Y2 ++ Q).length ≤ big) :
  Z93 a start (BitVec.ofNat 64 mid) R cmp m b (P ++ X1 ++ Y1 ++ X2 ++ Y2 ++ Q) = some (P ++ srt lt (X1 ++ Y1) ++ srt lt (X2 ++ Y2) ++ Q) := by
 have hbig : big = 1000000 := rfl
 have hl' := hl
 simp only [List.length_append] at hl'
 have hlen : (srt lt (X1 ++ Y1)).length = X1.length + Y1.length := by rw [Z22 hs]; simp
 have last := Y3l hs hR (P ++ srt lt (X1 ++ Y1)) X2 Y2 Q mid m start b (by simp only [List.length_append, hlen]; omega) (by simp only [List.length_append, hlen]; omega) (by simp only [List.length_append, hlen]; omega) (by omega) (by omega) hf2 hX2 hY2 (by simp only [List.length_append, hlen]; omega)
 unfold Z93
 rw [Z8k mid (by omega)]
 by_cases hc : 0 < X1.length ∧ 0 < Y1.length
 ·have hr := hR P X1 Y1 (X2 ++ Y2 ++ Q) a start (mid : Int) ha hs1 (by omega) hc.1 hc.2 hf1 hX1 hY1 (by simp only [List.length_append]; omega)
  have e : P ++ X1 ++ Y1 ++ X2 ++ Y2 ++ Q = P ++ X1 ++ Y1 ++ (X2 ++ Y2 ++ Q) := by simp
  have e' : P ++ srt lt (X1 ++ Y1) ++ (X2 ++ Y2 ++ Q) = P ++ srt lt (X1 ++ Y1) ++ X2 ++ Y2 ++ Q := by simp
  rw [decide_eq_true (by omega), decide_eq_true (by omega), Bool.and_true, cond_true, e, hr, Option.bind_some, e', last]
 ·have hd : (decide (a < start) && decide (start < (mid : Int))) = false := by
   rw [Bool.and_eq_false_iff, decide_eq_false_iff_not, decide_eq_false_iff_not]
   by_cases h : 0 < X1.length
   ·exact .inr (fun h' => hc ⟨h, by omega⟩)
   ·exact .inl (by omega)
  rw [hd, cond_false]
  rw [Ztg hs hX1 hY1 hc] at last ⊢
  have e : P ++ X1 ++ Y1 ++ X2 ++ Y2 ++ Q = P ++ (X1 ++ Y1) ++ X2 ++ Y2 ++ Q := by simp
  rw [e, last]
theorem Zqu (hs : Swo lt) (hc : Z4h lt cmp) {f : Nat} {R : List Action → Int → Int → Int → (Action → Action → Option Int) → Option (List Action)} (hR : Zji lt cmp f R) (P X Y Q : List Action) (mid lo hi : Nat)
  (hmid : mid = (P.length + (P.length + X.length + Y.length)) / 2) (h2 : 2 ≤ X.length) (h2' : 2 ≤ Y.length) (hf : X.length + Y.length ≤ f + 1) (hX : Z0q lt X) (hY : Z0q lt Y) (hl : (P ++ X ++ Y ++ Q).length ≤ big)
  (hlh : (mid < P.length + X.length ∧ lo + (P.length + X.length + Y.length) = mid + (P.length + X.length) ∧ hi = mid) ∨ (P.length + X.length ≤ mid ∧ lo = P.length ∧ hi = P.length + X.length)) :
  Zcm (P ++ X ++ Y ++ Q) (BitVec.ofNat 64 mid) ((P.length : Int) + (X.length : Int)) cmp (P.length : Int) R ((P.length : Int) + (X.length : Int) + (Y.length : Int)) (lo : Int) (hi : Int) = some (P ++ srt lt (X ++ Y) ++ Q) := by
 have hbig : big = 1000000 := rfl
 have hl' := hl
 simp only [List.length_append] at hl'
 have hin : ∀ c, lo ≤ c → c < hi → P.length ≤ c ∧ c < P.length + X.length ∧ P.length + X.length ≤ mid + (P.length + X.length) - 1 - c ∧ mid + (P.length + X.length) - 1 - c < P.length + X.length + Y.length := fun c a b => by rcases hlh with h | h <;> omega
 let t : Nat → Bool := fun c => if h : (c - P.length < X.length ∧ (mid + (P.length + X.length) - 1 - c) - (P.length + X.length) < Y.length) then !lt (Y[(mid + (P.length + X.length) - 1 - c) - (P.length + X.length)]'h.2) (X[c - P.length]'h.1) else false
 have htv : ∀ c (h1 : c - P.length < X.length) (h2 : (mid + (P.length + X.length) - 1 - c) - (P.length + X.length) < Y.length), t c = !lt (Y[(mid + (P.length + X.length) - 1 - c) - (P.length + X.length)]'h2) (X[c - P.length]'h1) := fun c h1 h2 => by simp only [t]; rw [dif_pos ⟨h1, h2⟩]
 have hlohi : lo ≤ hi := by rcases hlh with h | h <;> omega
 obtain ⟨s, s1, s2, s3, s4⟩ := Zgx t lo (hi - lo) fun c d h1 h2 h3 h4 => by
  have a1 := hin c h1 (by omega)
  have a2 := hin d (by omega) (by omega)
  rw [htv c (by omega) (by omega)] at h4
  rw [htv d (by omega) (by omega)]
  simp only [Bool.not_eq_false'] at h4 ⊢
  cases hd : lt (Y[(mid + (P.length + X.length) - 1 - d) - (P.length + X.length)]'(by omega)) (X[d - P.length]'(by omega))
  ·have b1 := Z8r hs hX (i := c - P.length) (j := d - P.length) (by omega) (by omega) (by omega)
   have b2 := Z8r hs hY (i := (mid + (P.length + X.length) - 1 - d) - (P.length + X.length)) (j := (mid + (P.length + X.length) - 1 - c) - (P.length + X.length)) (by omega) (by omega) (by omega)
   rw [hs.neg _ _ _ (hs.neg _ _ _ b2 hd) b1] at h4; cases h4
  ·rfl
 have e0 : lo + (hi - lo) = hi := by omega
 rw [e0] at s2 s4
 unfold Zcm
 have key := Zg4 (Z67 (P ++ X ++ Y ++ Q) (BitVec.ofNat 64 mid) ((P.length : Int) + (X.length : Int)) cmp (P.length : Int) R ((P.length : Int) + (X.length : Int) + (Y.length : Int)))
  (fun start => bif ((decide (start < ((P.length : Int) + (X.length : Int)))) && (decide (((P.length : Int) + (X.length : Int)) < (IntKind.i64.wrap ((IntKind.i64.wrap ((IntKind.i64.wrap ((BitVec.ofNat 64 mid).toNat : Int)) + ((P.length : Int) + (X.length : Int)))) - start))))) then (Zce (P ++ X ++ Y ++ Q) start ((P.length : Int) + (X.length : Int)) (IntKind.i64.wrap ((IntKind.i64.wrap ((IntKind.i64.wrap ((BitVec.ofNat 64 mid).toNat : Int)) + ((P.length : Int) + (X.length : Int)))) - start)) cmp).bind fun l59 => Z93 (P.length : Int) start (BitVec.ofNat 64 mid) R cmp ((P.length : Int) + (X.length : Int)) ((P.length : Int) + (X.length : Int) + (Y.length : Int)) l59 else Z93 (P.length : Int) start (BitVec.ofNat 64 mid) R cmp ((P.length : Int) + (X.length : Int)) ((P.length : Int) + (X.length : Int) + (Y.length : Int)) (P ++ X ++ Y ++ Q))
  t lo s hi
  (fun f i j h1 h2 h3 => by
   have a1 := hin ((i + j) / 2) (by omega) (by omega)
   obtain ⟨c, hc1, hc2⟩ := hc (Y[(mid + (P.length + X.length) - 1 - (i + j) / 2) - (P.length + X.length)]'(by omega)) (X[(i + j) / 2 - P.length]'(by omega))
   have gx : lget (P ++ X ++ Y ++ Q) (((i + j) / 2 : Nat) : Int) = some (X[(i + j) / 2 - P.length]'(by omega)) := by
    rw [List.append_assoc (P ++ X)]
    exact Zi8 P X (Y ++ Q) _ a1.1 a1.2.1
   have ep : IntKind.i64.wrap (IntKind.i64.wrap (IntKind.i64.wrap ((mid : Int) + ((P.length : Int) + (X.length : Int))) - 1) - (((i + j) / 2 : Nat) : Int)) = ((mid + (P.length + X.length) - 1 - (i + j) / 2 : Nat) : Int) := by
    rw [wr (n := (mid : Int) + ((P.length : Int) + (X.length : Int))) (by omega) (by omega), wr (n := (mid : Int) + ((P.length : Int) + (X.length : Int)) - 1) (by omega) (by omega), wr (by omega) (by omega)]; omega
   have gy : lget (P ++ X ++ Y ++ Q) ((mid + (P.length + X.length) - 1 - (i + j) / 2 : Nat) : Int) = some (Y[(mid + (P.length + X.length) - 1 - (i + j) / 2) - (P.length + X.length)]'(by omega)) := by
    rw [Zi8 (P ++ X) Y Q _ (by simp; omega) (by simp; omega)]
    simp
   have e1 : IntKind.i64.wrap ((((i + j) / 2 : Nat) : Int) + 1) = (((i + j) / 2 + 1 : Nat) : Int) := by rw [wr (by omega) (by omega)]; omega
   rw [Z67, decide_eq_true (by omega), cond_true, Zi6 _ (i + j) (by omega) (by omega), Option.bind_some, Z8k mid (by omega), Z8k ((i + j) / 2) (by omega), ep, gy, Option.bind_some, gx, Option.bind_some, hc1, Option.bind_some, hc2, htv _ (by omega) (by omega), e1])
  (fun f i h1 h2 => by rw [Z67, decide_eq_false (by omega), cond_false]) s3 (fun c h1 h2 => s4 c h1 h2)
 rw [key _ _ _ (Nat.le_refl _) s1 s2 (Nat.le_refl _) (by omega)]
 have hsm : P.length ≤ s ∧ s ≤ P.length + X.length ∧ s ≤ mid ∧ mid + X.length ≤ s + (X.length + Y.length) := by rcases hlh with h | h <;> omega
 have hx : X = X.take (s - P.length) ++ X.drop (s - P.length) := (List.take_append_drop ..).symm
 have hy : Y = Y.take (mid - s) ++ Y.drop (mid - s) := (List.take_append_drop ..).symm
 have l1 : (X.take (s - P.length)).length = s - P.length := by simp; omega
 have l2 : (X.drop (s - P.length)).length = P.length + X.length - s := by simp; omega
 have l3 : (Y.take (mid - s)).length = mid - s := by simp; omega
 have l4 : (Y.drop (mid - s)).length = Y.length - (mid - s) := by simp
 have hX' := hX
 rw [hx] at hX'
 have hY' := hY
 rw [hy] at hY'
 have hx1 : ∀ x ∈ X.take (s - P.length), ∀ y ∈ Y.drop (mid - s), lt y x = false := fun x hxm y hym => by
  obtain ⟨i, hii, rfl⟩ := List.getElem_of_mem hxm
  obtain ⟨j, hj, rfl⟩ := List.getElem_of_mem hym
  rw [l1] at hii
  rw [l4] at hj
  have hc' : lo ≤ s - 1 := by rcases hlh with h | h <;> omega
  have a1 := hin (s - 1) hc' (by omega)
  have := s3 (s - 1) hc' (by omega)
  rw [htv _ (by omega) (by omega), Bool.not_eq_true'] at this
  rw [List.getElem_drop, List.getElem_take]
  have b1 := Z8r hs hX (i := i) (j := s - 1 - P.length) (by omega) (by omega) (by omega)
  have b2 := Z8r hs hY (i := (mid + (P.length + X.length) - 1 - (s - 1)) - (P.length + X.length)) (j := mid - s + j) (by omega) (by omega) (by omega)
  exact hs.neg _ _ _ (hs.neg _ _ _ b2 this) b1
 have hx2 : ∀ y ∈ Y.take (mid - s), ∀ x ∈ X.drop (s - P.length), lt y x = true := fun y hym x hxm => by
  obtain ⟨i, hii, rfl⟩ := List.getElem_of_mem hxm
  obtain ⟨j, hj, rfl⟩ := List.getElem_of_mem hym
  rw [l3] at hj
  rw [l2] at hii
  have hc' : s < hi := by rcases hlh with h | h <;> omega
  have a1 := hin s s1 hc'
  have := s4 s (Nat.le_refl _) hc'
  rw [htv _ (by omega) (by omega), Bool.not_eq_false'] at this
  rw [List.getElem_drop, List.getElem_take]
  have b1 := Z8r hs hX (i := s - P.length) (j := s - P.length + i) (by omega) (by omega) (by omega)
  have b2 := Z8r hs hY (i := j) (j := (mid + (P.length + X.length) - 1 - s) - (P.length + X.length)) (by omega) (by omega) (by omega)
  cases hd : lt (Y[j]'(by omega)) (X[s - P.length + i]'(by omega))
  ·rw [hs.neg _ _ _ (hs.neg _ _ _ b2 hd) b1] at this; cases this
  ·rfl
 have hsp := Zm6 hs hX' hY' hx1 hx2
 rw [← hx, ← hy] at hsp
 rw [hsp]
 generalize X.take (s - P.length) = X1 at *
 generalize X.drop (s - P.length) = X2 at *
 generalize Y.take (mid - s) = Y1 at *
 generalize Y.drop (mid - s) = Y2 at *
 have last := Y61 hs hR P X1 Y1 X2 Y2 Q mid (P.length : Int) ((P.length : Int) + (X.length : Int)) (s : Int) ((P.length : Int) + (X.length : Int) + (Y.length : Int)) rfl (by omega) (by omega) (by omega) (by omega) (by omega) (by omega) (Zik hX') (Zik hY') (Zh7 hX') (Zh7 hY') (by simp only [List.length_append]; omega)
 have ee : IntKind.i64.wrap (IntKind.i64.wrap ((mid : Int) + ((P.length : Int) + (X.length : Int))) - (s : Int)) = ((P ++ X1 ++ X2 ++ Y1).length : Int) := by
  rw [wr (n := (mid : Int) + ((P.length : Int) + (X.length : Int))) (by omega) (by omega), wr (by omega) (by omega)]; simp only [List.length_append]; omega
 have eres : P ++ srt lt (X1 ++ Y1) ++ srt lt (X2 ++ Y2) ++ Q = P ++ (srt lt (X1 ++ Y1) ++ srt lt (X2 ++ Y2)) ++ Q := by simp
 rw [eres] at last
 show (bif _ then _ else _) = _
 rw [Z8k mid (by omega), ee]
 have hlen4 : (P ++ X1 ++ X2 ++ Y1).length = P.length + X1.length + X2.length + Y1.length := by simp only [List.length_append]
 by_cases hcc : 0 < X2.length ∧ 0 < Y1.length
 ·have eL : P ++ X ++ Y ++ Q = (P ++ X1) ++ X2 ++ Y1 ++ (Y2 ++ Q) := by rw [hx, hy]; simp
  have hr := Y07 cmp X2 Y1 (P ++ X1) (Y2 ++ Q) (s : Int) ((P.length : Int) + (X.length : Int)) ((P ++ X1 ++ X2 ++ Y1).length : Int) hcc.1 hcc.2 (by simp only [List.length_append]; omega) (by simp only [List.length_append]; omega) rfl (by simp only [List.length_append]; omega)
  have eR : (P ++ X1) ++ Y1 ++ X2 ++ (Y2 ++ Q) = P ++ X1 ++ Y1 ++ X2 ++ Y2 ++ Q := by simp
  rw [decide_eq_true (by omega), decide_eq_true (by omega), Bool.and_true, cond_true, eL, hr, Option.bind_some, eR, last]
 ·have hd : (decide ((s : Int) < (P.length : Int) + (X.length : Int)) && decide ((P.length : Int) + (X.length : Int) < ((P ++ X1 ++ X2 ++ Y1).length : Int))) = false := by
   rw [Bool.and_eq_false_iff, decide_eq_false_iff_not, decide_eq_false_iff_not]
   by_cases h : 0 < X2.length
   ·exact .inr (fun h' => hcc ⟨h, by omega⟩)
   ·exact .inl (by omega)
  have eL : P ++ X ++ Y ++ Q = P ++ X1 ++ Y1 ++ X2 ++ Y2 ++ Q := by
   rw [hx, hy]
   have : X2 = [] ∨ Y1 = [] := by
    rcases Nat.eq_zero_or_pos X2.length with h | h
    ·exact .inl (List.eq_nil_of_length_eq_zero h)
    ·rcases Nat.eq_zero_or_pos Y1.length with h' | h'
     ·exact .inr (List.eq_nil_of_length_eq_zero h')
     ·exact absurd ⟨h, h'⟩ hcc
   rcases this with h | h
   ·subst h; simp
   ·subst h; simp
  rw [hd, cond_false, eL, last]
theorem Zn6 (hs : Swo lt) (hc : Z4h lt cmp) : ∀ f, Zji lt cmp f (Zcx f)
 | 0 => fun P X Y Q a m b _ _ _ h1 h2 h3 => by omega
 | f + 1 => by
  intro P X Y Q a m b ha hm hb h1 h2 h3 hX hY hl
  subst ha hm hb
  have hbig : big = 1000000 := rfl
  have hl' := hl
  simp only [List.length_append] at hl'
  show Zf0 (Zcx f) _ _ _ _ _ = _
  unfold Zf0
  have e1 : IntKind.i64.wrap ((P.length : Int) + (X.length : Int) - (P.length : Int)) = (X.length : Int) := by rw [wr (by omega) (by omega)]; omega
  have e2 : IntKind.i64.wrap ((P.length : Int) + (X.length : Int) + (Y.length : Int) - ((P.length : Int) + (X.length : Int))) = (Y.length : Int) := by rw [wr (by omega) (by omega)]; omega
  rw [e1, e2]
  by_cases hx1 : X.length = 1
  ·obtain ⟨x, rfl⟩ : ∃ x, X = [x] := List.length_eq_one_iff.1 hx1
   have := Y21 hs hc x Y P Q hY (by simpa using hl)
   rw [decide_eq_true (by omega), cond_true]
   have e : P ++ [x] ++ Y ++ Q = P ++ x :: (Y ++ Q) := by simp
   have e4 : (P.length : Int) + ([x].length : Int) = ((P.length + 1 : Nat) : Int) := by simp
   have e5 : ((P.length + 1 : Nat) : Int) + (Y.length : Int) = ((P.length + 1 + Y.length : Nat) : Int) := by omega
   rw [e, e4, e5, this]; rfl
  ·rw [decide_eq_false (by omega), cond_false]
   by_cases hy1 : Y.length = 1
   ·obtain ⟨y, rfl⟩ : ∃ y, Y = [y] := List.length_eq_one_iff.1 hy1
    have := Zx3 hs hc y X P Q hX (by simpa using hl)
    rw [decide_eq_true (by omega), cond_true]
    have e : P ++ X ++ [y] ++ Q = P ++ X ++ y :: Q := by simp
    have e4 : (P.length : Int) + (X.length : Int) = ((P.length + X.length : Nat) : Int) := by omega
    rw [e, e4, this]
   ·rw [decide_eq_false (by omega), cond_false, Zi6 _ (P.length + (P.length + X.length + Y.length)) (by omega) (by omega), Option.bind_some, Z8k _ (by omega)]
    by_cases hmm : (P.length + (P.length + X.length + Y.length)) / 2 < P.length + X.length
    ·rw [decide_eq_true (by omega), cond_true]
     have e3 : IntKind.i64.wrap (IntKind.i64.wrap ((((P.length + (P.length + X.length + Y.length)) / 2 : Nat) : Int) + ((P.length : Int) + (X.length : Int))) - ((P.length : Int) + (X.length : Int) + (Y.length : Int))) = (((P.length + (P.length + X.length + Y.length)) / 2 + (P.length + X.length) - (P.length + X.length + Y.length) : Nat) : Int) := by
      rw [wr (n := (((P.length + (P.length + X.length + Y.length)) / 2 : Nat) : Int) + ((P.length : Int) + (X.length : Int))) (by omega) (by omega), wr (by omega) (by omega)]; omega
     rw [e3]
     exact Zqu hs hc (Zn6 hs hc f) P X Y Q _ _ _ rfl (by omega) (by omega) (by omega) hX hY hl (.inl ⟨hmm, by omega, rfl⟩)
    ·rw [decide_eq_false (by omega), cond_false]
     have e4 : (P.length : Int) + (X.length : Int) = ((P.length + X.length : Nat) : Int) := by omega
     have := Zqu hs hc (Zn6 hs hc f) P X Y Q _ P.length (P.length + X.length) rfl (by omega) (by omega) (by omega) hX hY hl (.inr ⟨by omega, rfl, rfl⟩)
     rw [← e4] at this
     exact this
theorem Zsf (hs : Swo lt) (hc : Z4h lt cmp) (P X Y Q : List Action) (a m b : Int) (ha : a = (P.length : Int)) (hm : m = (P.length : Int) + (X.length : Int)) (hb : b = (P.length : Int) + (X.length : Int) + (Y.length : Int)) (h1 : 0 < X.length) (h2 : 0 < Y.length) (hX : Z0q lt X) (hY : Z0q lt Y) (hl : (P ++ X ++ Y ++ Q).length ≤ big) :
  Zis (P ++ X ++ Y ++ Q) a m b cmp = some (P ++ srt lt (X ++ Y) ++ Q) :=
 Zn6 hs hc Z18 P X Y Q a m b ha hm hb h1 h2 (by have hbig : big = 1000000 := rfl; simp only [List.length_append] at hl; unfold Z18; omega) hX hY hl
end sym
end Go.Proofs.YtknpgojdkobgjaaGreat.W
namespace Go.Proofs.YtknpgojdkobgjaaGreat.W
open Go Go.Wb
section ins
variable {lt : Action → Action → Bool} {cmp : Action → Action → Option Int}
theorem Zt9 (hc : Z4h lt cmp) (go : List Action → Int → Option (List Action)) (i : Int) (P : List Action) (x : Action) : ∀ (R S : List Action) (m : Nat), R.length < m → (P ++ R.reverse ++ x :: S).length ≤ big →
  Z82 (P.length : Int) cmp go i m (P ++ R.reverse ++ x :: S) ((P.length + R.length : Nat) : Int) = go (P ++ (Z1a lt x R).reverse ++ S) (IntKind.i64.wrap (i + 1))
 | [], S, m, h, _ => by
  obtain ⟨m, rfl⟩ : ∃ k, m = k + 1 := ⟨m - 1, by simp at h; omega⟩
  rw [Z82, decide_eq_false (by simp)]
  simp [opt, Z1a]
 | y :: R, S, m, h, hl => by
  have hbig : big = 1000000 := rfl
  simp only [List.length_cons, List.length_append, List.length_reverse] at h hl
  obtain ⟨m, rfl⟩ : ∃ k, m = k + 1 := ⟨m - 1, by omega⟩
  have e0 : P ++ (y :: R).reverse ++ x :: S = (P ++ R.reverse) ++ y :: (x :: S) := by simp
  have ej : IntKind.i64.wrap (((P.length + (y :: R).length : Nat) : Int) - 1) = ((P.length + R.length : Nat) : Int) := by rw [wr (by simp only [List.length_cons]; omega) (by simp only [List.length_cons]; omega)]; simp only [List.length_cons]; omega
  have g1 : ∀ a b : Action, lget ((P ++ R.reverse) ++ a :: (b :: S)) ((P.length + (y :: R).length : Nat) : Int) = some b := fun a b => by
   have : (P ++ R.reverse) ++ a :: (b :: S) = (P ++ R.reverse ++ [a]) ++ b :: S := by simp
   rw [this]; exact Z3q _ _ _ _ (by simp)
  have g0 : ∀ a b : Action, lget ((P ++ R.reverse) ++ a :: (b :: S)) ((P.length + R.length : Nat) : Int) = some a := fun a b => Z3q _ _ _ _ (by simp)
  have s1 : ∀ a b c : Action, List.set ((P ++ R.reverse) ++ a :: (b :: S)) (((P.length + (y :: R).length : Nat) : Int)).toNat c = (P ++ R.reverse) ++ a :: (c :: S) := fun a b c => by
   have : (P ++ R.reverse) ++ a :: (b :: S) = (P ++ R.reverse ++ [a]) ++ b :: S := by simp
   rw [this, Int.toNat_natCast, Z75 _ _ _ _ _ (by simp)]; simp
  have s0 : ∀ a b c : Action, List.set ((P ++ R.reverse) ++ a :: (b :: S)) (((P.length + R.length : Nat) : Int)).toNat c = (P ++ R.reverse) ++ c :: (b :: S) := fun a b c => by
   rw [Int.toNat_natCast, Z75 _ _ _ _ _ (by simp)]
  obtain ⟨c, hc1, hc2⟩ := hc x y
  rw [e0, Z82, decide_eq_true (by simp only [List.length_cons]; omega), Z7x, g1, Option.bind_some, Z7x, ej, g0, Option.bind_some, Z7x, hc1, Option.bind_some, Bool.true_and, hc2, Z1a]
  cases lt x y
  ·rw [cond_false, cond_false]
   simp
  ·rw [cond_true, cond_true, Option.bind_some, Option.bind_some, Option.bind_some, s1, g0, Option.bind_some, s0, Zt9 hc go i P x R (y :: S) m (by omega) (by simp only [List.length_append, List.length_cons, List.length_reverse]; omega)]
   simp
theorem Zkm (x : Action) (R : List Action) : (Z1a lt x R).length = R.length + 1 := by
 induction R with
 | nil => rfl
 | cons y R ih => rw [Z1a]; cases lt x y <;> simp [ih]
theorem Zph (hc : Z4h lt cmp) (P Q : List Action) : ∀ (T R : List Action) (m : Nat), T.length < m → (P ++ R.reverse ++ T ++ Q).length ≤ big →
  Z6i ((P.length + R.length + T.length : Nat) : Int) (P.length : Int) cmp m (P ++ R.reverse ++ T ++ Q) ((P.length + R.length : Nat) : Int) = some (P ++ (T.foldl (fun R x => Z1a lt x R) R).reverse ++ Q)
 | [], R, m, h, _ => by
  obtain ⟨m, rfl⟩ : ∃ k, m = k + 1 := ⟨m - 1, by simp at h; omega⟩
  rw [Z6i, decide_eq_false (by simp), cond_false]
  simp
 | x :: T, R, m, h, h2 => by
  have hbig : big = 1000000 := rfl
  simp only [List.length_cons, List.length_append, List.length_reverse] at h h2
  obtain ⟨m, rfl⟩ : ∃ k, m = k + 1 := ⟨m - 1, by omega⟩
  have e : IntKind.i64.wrap (((P.length + R.length : Nat) : Int) + 1) = ((P.length + (Z1a lt x R).length : Nat) : Int) := by rw [Zkm, wr (by omega) (by omega)]; omega
  have hn : P.length + R.length + (x :: T).length = P.length + (Z1a lt x R).length + T.length := by rw [Zkm, List.length_cons]; omega
  have e0 : P ++ R.reverse ++ x :: T ++ Q = P ++ R.reverse ++ x :: (T ++ Q) := by simp
  rw [Z6i, decide_eq_true (by simp only [List.length_cons]; omega), cond_true, e0, Zt9 hc _ _ P x R (T ++ Q) Z18 (by unfold Z18; omega) (by simp only [List.length_append, List.length_cons, List.length_reverse]; omega), e, hn,
   ← List.append_assoc, Zph hc P Q T (Z1a lt x R) m (by omega) (by simp only [List.length_append, List.length_reverse, Zkm]; omega), List.foldl_cons]
theorem Zuj (hc : Z4h lt cmp) (P L Q : List Action) (a b : Int) (ha : a = (P.length : Int)) (hb : b = (P.length : Int) + (L.length : Int)) (h : (P ++ L ++ Q).length ≤ big) : Zaz (P ++ L ++ Q) a b cmp = some (P ++ srt lt L ++ Q) := by
 subst ha hb
 have hbig : big = 1000000 := rfl
 have h' := h
 simp only [List.length_append] at h'
 unfold Zaz srt
 cases L with
 | nil =>
  rw [wr (by omega) (by omega)]
  obtain ⟨m, hm⟩ : ∃ m, (((P.length : Int) + (([] : List Action).length : Int)) - ((P.length : Int) + 1)).toNat + 1 = m + 1 := ⟨_, rfl⟩
  rw [hm, Z6i, decide_eq_false (by simp only [List.length_nil]; omega), cond_false]
  rfl
 | cons x L =>
  simp only [List.length_cons] at h'
  have := Zph hc P Q L [x] ((((P.length : Int) + ((x :: L).length : Int)) - ((P.length : Int) + 1)).toNat + 1) (by simp only [List.length_cons]; omega) (by simp only [List.length_append, List.length_reverse, List.length_cons, List.length_nil]; omega)
  have e1 : ((P.length + [x].length + L.length : Nat) : Int) = (P.length : Int) + ((x :: L).length : Int) := by simp; omega
  have e2 : ((P.length + [x].length : Nat) : Int) = (P.length : Int) + 1 := by simp
  have e3 : P ++ [x].reverse ++ L ++ Q = P ++ x :: L ++ Q := by simp
  rw [e1, e2, e3] at this
  rw [wr (by omega) (by omega), this]
  rfl
end ins
end Go.Proofs.YtknpgojdkobgjaaGreat.W
namespace Go.Proofs.YtknpgojdkobgjaaGreat.W
open Go Go.Wb
section stable
variable {lt : Action → Action → Bool} {cmp : Action → Action → Option Int}
def Z3g (lt : Action → Action → Bool) (s : Nat) (L : List Action) : List Action :=
 if h : s = 0 ∨ L.length < s then srt lt L else srt lt (L.take s) ++ Z3g lt s (L.drop s)
termination_by L.length
decreasing_by simp; omega
theorem Z9w {s : Nat} {L : List Action} (h : L.length < s) : Z3g lt s L = srt lt L := by rw [Z3g, dif_pos (.inr h)]
theorem Zag {s : Nat} {A L : List Action} (hA : A.length = s) (h0 : 0 < s) : Z3g lt s (A ++ L) = srt lt A ++ Z3g lt s L := by
 subst hA
 rw [Z3g, dif_neg (by rw [List.length_append]; omega), List.take_left, List.drop_left]
theorem Y3r : srt lt ([] : List Action) = [] := rfl
theorem Zrj {s : Nat} {L : List Action} (h : L.length ≤ s) (h0 : 0 < s) : Z3g lt s L = srt lt L := by
 rcases Nat.lt_or_eq_of_le h with h1 | h1
 ·exact Z9w h1
 ·have := Zag (lt := lt) (L := []) h1 h0
  have e : Z3g lt s [] = srt lt [] := Z9w (by simpa using h0)
  rw [List.append_nil, e, Y3r, List.append_nil] at this
  exact this
theorem Zpz (hs : Swo lt) (s : Nat) (h0 : 0 < s) : ∀ (n : Nat) (L : List Action), L.length ≤ n → (Z3g lt s L).length = L.length
 | 0, L, h => by rw [Z9w (by omega), Z22 hs]
 | n + 1, L, h => by
  by_cases hl : L.length < s
  ·rw [Z9w hl, Z22 hs]
  ·have e : L = L.take s ++ L.drop s := (List.take_append_drop ..).symm
   have h1 : (L.take s).length = s := by simp; omega
   rw [e, Zag h1 h0, List.length_append, Z22 hs, Zpz hs s h0 n (L.drop s) (by simp; omega), List.length_append]
theorem Zs7 (hs : Swo lt) (hc : Z4h lt cmp) (n : Nat) : ∀ (k : Nat) (D L : List Action) (f : Nat), L.length ≤ k → D.length + L.length = n → n ≤ 100000 → L.length < f * 20 →
  Z86 (n : Int) cmp f (D ++ L) (D.length : Int) ((D.length + 20 : Nat) : Int) = Z70 (n : Int) cmp (((n : Int) - 20).toNat + 1) (D ++ Z3g lt 20 L) 20
 | k, D, L, 0, _, _, _, h => by omega
 | k, D, L, f + 1, hk, hn, hb, hf => by
  have hbig : big = 1000000 := rfl
  rw [Z86]
  by_cases hl : L.length < 20
  ·have := Zuj hc D L [] (D.length : Int) (n : Int) rfl (by omega) (by simp only [List.length_append, List.length_nil]; omega)
   simp only [List.append_nil] at this
   rw [decide_eq_false (by omega), cond_false, this, Option.bind_some, Z9w hl]
  ·obtain ⟨k, rfl⟩ : ∃ j, k = j + 1 := ⟨k - 1, by omega⟩
   have e : L = L.take 20 ++ L.drop 20 := (List.take_append_drop ..).symm
   have h1 : (L.take 20).length = 20 := by simp; omega
   have h2 : (L.drop 20).length = L.length - 20 := by simp
   generalize L.take 20 = A at *
   generalize L.drop 20 = B at *
   subst e
   have := Zuj hc D A B (D.length : Int) ((D.length + 20 : Nat) : Int) rfl (by omega) (by simp only [List.length_append] at hn ⊢; omega)
   have e20 : IntKind.i64.wrap (((D.length + 20 : Nat) : Int) + 20) = (((D ++ srt lt A).length + 20 : Nat) : Int) := by rw [wr (by omega) (by omega), List.length_append, Z22 hs]; omega
   have e21 : ((D.length + 20 : Nat) : Int) = ((D ++ srt lt A).length : Int) := by rw [List.length_append, Z22 hs]; omega
   simp only [List.length_append] at hn hl hf hk
   rw [decide_eq_true (by omega), cond_true, ← List.append_assoc, this, Option.bind_some, e20, e21,
    Zs7 hs hc n k (D ++ srt lt A) B f (by omega) (by simp only [List.length_append, Z22 hs]; omega) hb (by omega), Zag h1 (by omega)]
   simp
theorem Zox (hs : Swo lt) (hc : Z4h lt cmp) (go : List Action → Int → Option (List Action)) (n s : Nat) (hs0 : 0 < s) (hs1 : s ≤ 100000) : ∀ (k : Nat) (D L : List Action) (f : Nat), L.length ≤ k → D.length + L.length = n → n ≤ 100000 → L.length < f * (2 * s) →
  Z8n (n : Int) (s : Int) cmp go f (D ++ Z3g lt s L) (D.length : Int) ((D.length + 2 * s : Nat) : Int) = go (D ++ Z3g lt (2 * s) L) ((2 * s : Nat) : Int)
 | k, D, L, 0, _, _, _, h => by omega
 | k, D, L, f + 1, hk, hn, hb, hf => by
  have hbig : big = 1000000 := rfl
  rw [Z8n]
  have em : IntKind.i64.wrap ((D.length : Int) + (s : Int)) = ((D.length + s : Nat) : Int) := by rw [wr (by omega) (by omega)]; omega
  have eg : IntKind.i64.wrap ((s : Int) * 2) = ((2 * s : Nat) : Int) := by rw [wr (by omega) (by omega)]; omega
  by_cases hl : L.length < 2 * s
  ·rw [decide_eq_false (by omega), cond_false, em, eg, Z9w hl]
   by_cases hl2 : s < L.length
   ·have e : L = L.take s ++ L.drop s := (List.take_append_drop ..).symm
    have h1 : (L.take s).length = s := by simp; omega
    have h2 : (L.drop s).length = L.length - s := by simp
    generalize L.take s = A at *
    generalize L.drop s = B at *
    subst e
    simp only [List.length_append] at hn hl hl2
    rw [Zag h1 hs0, Z9w (by omega)]
    have := Zsf hs hc D (srt lt A) (srt lt B) [] (D.length : Int) ((D.length + s : Nat) : Int) (n : Int) rfl (by rw [Z22 hs]; omega) (by rw [Z22 hs, Z22 hs]; omega) (by rw [Z22 hs]; omega) (by rw [Z22 hs]; omega) (Z7c hs _) (Z7c hs _)
     (by simp only [List.length_append, Z22 hs, List.length_nil]; omega)
    simp only [List.append_nil, List.append_assoc] at this
    rw [decide_eq_true (by omega), cond_true, this, Option.bind_some, Zrr hs]
   ·rw [decide_eq_false (by omega), cond_false, Zrj (by omega) hs0]
  ·obtain ⟨k, rfl⟩ : ∃ j, k = j + 1 := ⟨k - 1, by omega⟩
   have e : L = L.take s ++ ((L.drop s).take s ++ (L.drop s).drop s) := by rw [List.take_append_drop, List.take_append_drop]
   have h1 : (L.take s).length = s := by simp; omega
   have h2 : ((L.drop s).take s).length = s := by simp; omega
   have h3 : ((L.drop s).drop s).length = L.length - 2 * s := by simp; omega
   generalize L.take s = A at *
   generalize (L.drop s).take s = B at *
   generalize (L.drop s).drop s = E at *
   subst e
   simp only [List.length_append] at hn hl hk hf
   have hf' : E.length < f * (2 * s) := by rw [Nat.add_mul] at hf; omega
   have hE := Zpz hs s hs0 E.length E (Nat.le_refl _)
   have := Zsf hs hc D (srt lt A) (srt lt B) (Z3g lt s E) (D.length : Int) ((D.length + s : Nat) : Int) ((D.length + 2 * s : Nat) : Int) rfl (by rw [Z22 hs]; omega) (by rw [Z22 hs, Z22 hs]; omega) (by rw [Z22 hs]; omega) (by rw [Z22 hs]; omega) (Z7c hs _) (Z7c hs _)
    (by simp only [List.length_append, Z22 hs, hE]; omega)
   have e2 : D ++ Z3g lt s (A ++ (B ++ E)) = D ++ srt lt A ++ srt lt B ++ Z3g lt s E := by rw [Zag h1 hs0, Zag h2 hs0]; simp
   have e3 : IntKind.i64.wrap (((D.length + 2 * s : Nat) : Int) + IntKind.i64.wrap (2 * (s : Int))) = (((D ++ srt lt (A ++ B)).length + 2 * s : Nat) : Int) := by
    rw [wr (n := 2 * (s : Int)) (by omega) (by omega), wr (by omega) (by omega), List.length_append, Z22 hs, List.length_append]; omega
   have e4 : ((D.length + 2 * s : Nat) : Int) = ((D ++ srt lt (A ++ B)).length : Int) := by rw [List.length_append, Z22 hs, List.length_append]; omega
   rw [decide_eq_true (by omega), cond_true, em, e2, this, Option.bind_some, Zrr hs, e3, e4,
    Zox hs hc go n s hs0 hs1 k (D ++ srt lt (A ++ B)) E f (by omega) (by simp only [List.length_append, Z22 hs]; omega) hb hf']
   have e5 : A ++ (B ++ E) = (A ++ B) ++ E := by simp
   rw [e5, Zag (by simp; omega) (by omega)]
   simp
theorem Zq3 (hs : Swo lt) (hc : Z4h lt cmp) (L : List Action) (hb : L.length ≤ 100000) : ∀ (f s : Nat), 0 < f → 0 < s → s ≤ 200000 → L.length < f + s →
  Z70 (L.length : Int) cmp f (Z3g lt s L) (s : Int) = some (srt lt L)
 | 0, s, hf, h0, h1, h2 => by omega
 | f + 1, s, hf, h0, h1, h2 => by
  rw [Z70]
  by_cases hl : s < L.length
  ·have e2 : IntKind.i64.wrap (2 * (s : Int)) = ((2 * s : Nat) : Int) := by rw [wr (by omega) (by omega)]; omega
   have := Zox hs hc (Z70 (L.length : Int) cmp f) L.length s h0 (by omega) L.length [] L ((((L.length : Int) : Int) - ((2 * s : Nat) : Int)).toNat + 2) (Nat.le_refl _) (by simp) hb (by
    have h3 : L.length < (L.length - 2 * s + 2) * (2 * s) := by
     have : L.length - 2 * s + 2 ≤ (L.length - 2 * s + 2) * (2 * s) := Nat.le_mul_of_pos_right _ (by omega)
     by_cases hc : L.length < 2 * s
     ·have : 2 * (2 * s) ≤ (L.length - 2 * s + 2) * (2 * s) := Nat.mul_le_mul_right _ (by omega)
      omega
     ·have e : (L.length - 2 * s + 2) * (2 * s) = (L.length - 2 * s + 1) * (2 * s) + 2 * s := by rw [show L.length - 2 * s + 2 = (L.length - 2 * s + 1) + 1 from rfl, Nat.add_mul, Nat.one_mul]
      have : L.length - 2 * s + 1 ≤ (L.length - 2 * s + 1) * (2 * s) := Nat.le_mul_of_pos_right _ (by omega)
      omega
    have e : (((L.length : Int) : Int) - ((2 * s : Nat) : Int)).toNat + 2 = L.length - 2 * s + 2 := by omega
    rw [e]; exact h3)
   simp only [List.nil_append, List.length_nil, Nat.zero_add] at this
   rw [decide_eq_true (by omega), cond_true, e2]
   have e0 : ((0 : Nat) : Int) = 0 := rfl
   rw [e0] at this
   rw [this, Zq3 hs hc L hb f (2 * s) (by omega) (by omega) (by omega) (by omega)]
  ·rw [decide_eq_false (by omega), cond_false, Zrj (by omega) h0]
theorem Y0x (hs : Swo lt) (hc : Z4h lt cmp) (L : List Action) (hb : L.length ≤ 100000) : Zdg L cmp = some (srt lt L) := by
 unfold Zdg Zig
 have h1 := Zs7 hs hc L.length L.length [] L ((((L.length : Int) : Int) - 20).toNat + 2) (Nat.le_refl _) (by simp) hb (by omega)
 have h2 := Zq3 hs hc L hb ((((L.length : Int) : Int) - 20).toNat + 1) 20 (by omega) (by omega) (by omega) (by omega)
 simp only [List.nil_append, List.length_nil, Nat.zero_add] at h1
 have e0 : ((0 : Nat) : Int) = 0 := rfl
 have e20 : ((20 : Nat) : Int) = 20 := rfl
 rw [e0, e20] at h1
 rw [e20] at h2
 rw [h1, h2]; rfl
end stable
end Go.Proofs.YtknpgojdkobgjaaGreat.W
namespace Go.Proofs.YtknpgojdkobgjaaGreat.W
open Go Go.Wb
def Z2a (a b : Wide) : Wide := ⟨a.Hi &&& b.Hi, a.Lo &&& b.Lo⟩
def wor (a b : Wide) : Wide := ⟨a.Hi ||| b.Hi, a.Lo ||| b.Lo⟩
def Z6r (a b : Wide) : Wide := ⟨a.Hi ^^^ b.Hi, a.Lo ^^^ b.Lo⟩
def Z3r (a b : Wide) : Wide := ⟨a.Hi &&& ~~~b.Hi, a.Lo &&& ~~~b.Lo⟩
def wt (a : Wide) (i : Nat) : Bool := bif Nat.blt i 64 then a.Lo.getLsbD i else a.Hi.getLsbD (i - 64)
def Z42 (i : Nat) : Wide := bif Nat.blt i 64 then ⟨0, 1#64 <<< i⟩ else ⟨1#64 <<< (i - 64), 0⟩
theorem Za0 {i n : Nat} (h : i < n) : Nat.blt i n = true := by simpa using h
theorem Zau {i n : Nat} (h : ¬ i < n) : Nat.blt i n = false := by
 cases hb : Nat.blt i n
 ·rfl
 ·exact absurd (by simpa using hb) h
theorem Z4j (a b : Wide) (i : Nat) : wt (Z2a a b) i = (wt a i && wt b i) := by
 unfold wt Z2a
 cases Nat.blt i 64 <;> simp
theorem Zef (a b : Wide) (i : Nat) : wt (wor a b) i = (wt a i || wt b i) := by
 unfold wt wor
 cases Nat.blt i 64 <;> simp
theorem Ze8 (a b : Wide) (i : Nat) : wt (Z6r a b) i = (wt a i != wt b i) := by
 unfold wt Z6r
 cases Nat.blt i 64 <;> simp
theorem Ziz (a b : Wide) (i : Nat) (h : i < 128) : wt (Z3r a b) i = (wt a i && !wt b i) := by
 unfold wt Z3r
 by_cases hi : i < 64
 ·rw [Za0 hi]; simp [hi]
 ·rw [Zau hi]; simp [show i - 64 < 64 by omega]
theorem Zc2 (i j : Nat) (hi : i < 128) (hj : j < 128) : wt (Z42 i) j = decide (i = j) := by
 unfold wt Z42
 by_cases h1 : i < 64
 ·rw [Za0 h1, cond_true]
  by_cases h2 : j < 64
  ·rw [Za0 h2, cond_true, BitVec.getLsbD_shiftLeft]
   by_cases e : i = j
   ·subst e; simp [h2]
   ·simp [h2, e, BitVec.getLsbD_one]; omega
  ·rw [Zau h2, cond_false]
   have : i ≠ j := by omega
   simp [this]
 ·rw [Zau h1, cond_false]
  by_cases h2 : j < 64
  ·rw [Za0 h2, cond_true]
   have : i ≠ j := by omega
   simp [this]
  ·rw [Zau h2, cond_false, BitVec.getLsbD_shiftLeft]
   by_cases e : i = j
   ·subst e; simp [show i - 64 < 64 by omega]
   ·simp [show j - 64 < 64 by omega, e, BitVec.getLsbD_one]; omega
def Z2q (a : Wide) : Bool := decide ((a.Hi ||| a.Lo) = (0 : BitVec 64))
theorem Zb4 (a : Wide) : Z2q a = true ↔ ∀ i, i < 128 → wt a i = false := by
 unfold Z2q
 rw [decide_eq_true_eq]
 constructor
 ·intro h i hi
  have hb : ∀ j, (a.Hi.getLsbD j || a.Lo.getLsbD j) = false := fun j => by rw [← BitVec.getLsbD_or, h]; simp
  unfold wt
  by_cases h1 : i < 64
  ·rw [Za0 h1, cond_true]
   have := hb i
   simp only [Bool.or_eq_false_iff] at this
   exact this.2
  ·rw [Zau h1, cond_false]
   have := hb (i - 64)
   simp only [Bool.or_eq_false_iff] at this
   exact this.1
 ·intro h
  apply BitVec.eq_of_getLsbD_eq
  intro j hj
  have h1 := h j (by omega)
  have h2 := h (j + 64) (by omega)
  unfold wt at h1 h2
  rw [Za0 hj] at h1
  rw [Zau (by omega)] at h2
  simp at h1 h2
  simp [h1, h2]
theorem Y25 {a : Wide} : Z2q a = false ↔ ∃ i, i < 128 ∧ wt a i = true := by
 rw [← Bool.not_eq_true, Zb4]
 constructor
 ·intro h
  apply Classical.byContradiction
  intro hn
  exact h fun i hi => by
   cases hw : wt a i
   ·rfl
   ·exact absurd ⟨i, hi, hw⟩ hn
 ·rintro ⟨i, hi, hw⟩ h
  rw [h i hi] at hw; cases hw
theorem Y42 (a : Wide) (i : Nat) (h : i < 128) : (!Z2q (Z2a a (Z42 i))) = wt a i := by
 cases hw : wt a i
 ·have : Z2q (Z2a a (Z42 i)) = true := by
   rw [Zb4]
   intro j hj
   rw [Z4j, Zc2 i j h hj]
   by_cases e : i = j
   ·subst e; rw [hw]; rfl
   ·simp [e]
  rw [this]; rfl
 ·have : Z2q (Z2a a (Z42 i)) = false := by
   rw [Y25]
   exact ⟨i, h, by rw [Z4j, Zc2 i i h h, hw]; simp⟩
  rw [this]; rfl
theorem Zt0 (x : BitVec 64) (n : Nat) : Z9c x (n : Int) = some (x <<< n) := by
 unfold Z9c
 rw [decide_eq_false (by omega)]
 simp
theorem Zzq (x : BitVec 64) (n : Nat) : Z2c x (n : Int) = some (x >>> n) := by
 unfold Z2c
 rw [decide_eq_false (by omega)]
 simp
theorem Zxw (a b : Wide) : Za9 a b = some (Z2a a b) := rfl
theorem Zpe (a b : Wide) : Z80 a b = some (wor a b) := rfl
theorem Zlf (a b : Wide) : Z8b a b = some (Z3r a b) := rfl
theorem Zjt (i : Nat) (h : i < 128) : Z8t (i : Int) = some (Z42 i) := by
 unfold Z8t
 have h1 : (decide ((i : Int) < 0) || decide ((i : Int) > 127)) = false := by simp; omega
 have hq : Z7z .i64 (i : Int) 64 = some ((i / 64 : Nat) : Int) := by
  unfold Z7z
  rw [decide_eq_false (by decide)]
  show some (IntKind.i64.wrap ((i / 64 : Nat) : Int)) = _
  rw [Z3m (by omega) (by omega)]
 have hm : Z9k (i : Int) 64 = some ((i % 64 : Nat) : Int) := Y34 i 64 (by omega)
 rw [h1, cond_false, hq, Option.bind_some, hm, Option.bind_some, Zt0, Option.bind_some, Z2p (by omega), Option.bind_some]
 unfold Z42
 by_cases h2 : i < 64
 ·rw [Za0 h2, cond_true]
  have e1 : i / 64 = 0 := by omega
  have e2 : i % 64 = i := by omega
  simp only [e1, e2]
  rfl
 ·rw [Zau h2, cond_false]
  have e1 : i / 64 = 1 := by omega
  have e2 : i % 64 = i - 64 := by omega
  simp only [e1, e2]
  rfl
abbrev Cube := Vector Tern 24
abbrev Header := Vector Wide 24
def Z1c (t : Tern) : Tern := ⟨Z2a t.Value t.Mask, t.Mask⟩
theorem Zhe (t : Tern) : Z4x t = some (Z1c t) := rfl
def Z1n (c : Cube) : Cube := Vector.ofFn fun i => Z1c (ve c i.1)
theorem Ztb (c : Cube) (i : Nat) (h : i < 24) : ve (Z1n c) i = Z1c (ve c i) := Zap (fun i => Z1c (ve c i)) i h
def Z9a (a b : Tern) : Tern := ⟨wor (Z3r (Z1c a).Value b.Mask) (Z1c b).Value, wor a.Mask b.Mask⟩
theorem Zo0 (a b : Tern) : Zfz a b = some (Z9a a b) := rfl
def Zn5 (a b : Cube) : Cube := Vector.ofFn fun i => Z9a (ve a i.1) (ve b i.1)
theorem Zty (f : Int → Option Tern) (g : Nat → Tern) (hf : ∀ i : Nat, i < 24 → f (i : Int) = some (g i)) (b : Cube) : ∀ (m i : Nat), i + m = 24 → Z5d f m i (Z3x g b i) = some (Vector.ofFn (fun i => g i.1))
 | 0, i, h => by
  have : i = 24 := by omega
  subst this
  rw [Z5d, Zgi]
 | m + 1, i, h => by
  rw [Z5d, hf i (by omega), Option.bind_some, Z2p (by omega), Option.bind_some]
  show Z5d f m (i + 1) (Vector.set (Z3x g b i) i (g i) _) = _
  rw [Zie g b i (by omega), Zty f g hf b m (i + 1) (by omega)]
theorem Zoh (f : Int → Option Tern) (g : Nat → Tern) (hf : ∀ i : Nat, i < 24 → f (i : Int) = some (g i)) : Zd8 f = some (Vector.ofFn (fun i => g i.1)) := by
 unfold Zd8
 have := Zty f g hf (Vector.replicate 24 Z0h) 24 0 rfl
 rw [Zgr] at this
 exact this
theorem Zpb (r : Cube) : Z8o r = some (Z1n r) := by
 unfold Z8o
 rw [Zoh (fun x => Zd2 x r) (fun i => Z1c (ve r i)) (fun i hi => by unfold Zd2; rw [Z2p hi, Option.bind_some, Z3y, Zhe]; rfl)]
 rfl
def Za1 (r : Cube) (f : Int) (v m : Wide) : Cube := bif decide (f ≥ 0) && decide (f < 24) then Vector.ofFn fun i => if f.toNat = i.1 then Z9a (ve (Z1n r) f.toNat) ⟨v, m⟩ else ve (Z1n r) i.1 else Z1n r
theorem Zgg (r : Cube) (f : Int) (v m : Wide) : Z7g r f v m = some (Za1 r f v m) := by
 unfold Z7g Za1 Z6k
 rw [Zpb, Option.bind_some, Option.bind_some]
 cases hc : (decide (f ≥ 0) && decide (f < 24))
 ·rfl
 ·simp only [Bool.and_eq_true, decide_eq_true_eq] at hc
  obtain ⟨n, rfl⟩ : ∃ n : Nat, f = (n : Int) := ⟨f.toNat, by omega⟩
  have hn : n < 24 := by omega
  have e : Vector.set (Z1n r) n (Z9a (ve (Z1n r) n) ⟨v, m⟩) hn = Vector.ofFn fun i : _root_.Fin 24 => if n = i.1 then Z9a (ve (Z1n r) n) ⟨v, m⟩ else ve (Z1n r) i.1 := Zcl fun j hj => by
   rw [Zhb _ _ _ _ _ hj]
   exact (Zap (fun i => if n = i then Z9a (ve (Z1n r) n) ⟨v, m⟩ else ve (Z1n r) i) j hj).symm
  rw [cond_true, cond_true, Z2p hn, Option.bind_some, Z3y, Zo0, Option.bind_some, Option.bind_some, Int.toNat_natCast]
  exact congrArg some e
theorem Zuc (n : Int) : ∃ x, Zct n = some x := by
 unfold Zct
 cases decide (n ≥ 64)
 ·have h0 : 0 ≤ Z19 n 0 := by
   unfold Z19
   by_cases h : (0 : Int) > n
   ·simp [h]
   ·simp [h]; omega
  obtain ⟨k, hk⟩ : ∃ k : Nat, Z19 n 0 = (k : Int) := ⟨(Z19 n 0).toNat, by omega⟩
  rw [cond_false, hk, Zt0]
  exact ⟨_, rfl⟩
 ·exact ⟨_, rfl⟩
def Zfj (n : Int) : Wide := (Z7o n).getD Zy
theorem Zm9 (n : Int) : Z7o n = some (Zfj n) := by
 obtain ⟨x, hx⟩ := Zuc (IntKind.i64.wrap ((Z32 (Z19 n 0) 128) - 64))
 obtain ⟨y, hy⟩ := Zuc (Z32 (Z19 n 0) 128)
 have : Z7o n = some ⟨x, y⟩ := by unfold Z7o; rw [hx, Option.bind_some, hy]; rfl
 unfold Zfj
 rw [this]; rfl
def Zng (n : Int) : Int := (Z9v n).getD 0
theorem Y49 : ∃ v, Zg0 = some v := by unfold Zg0; exact ⟨_, rfl⟩
theorem Y8o (n : Int) : Z9v n = some (Zng n) := by
 have : ∃ x, Z9v n = some x := by
  unfold Z9v Zh0 Z6k
  rw [Option.bind_some]
  cases hc : (decide (n ≥ 0) && decide (n < 24))
  ·exact ⟨_, rfl⟩
  ·simp only [Bool.and_eq_true, decide_eq_true_eq] at hc
   obtain ⟨k, rfl⟩ : ∃ k : Nat, n = (k : Int) := ⟨n.toNat, by omega⟩
   obtain ⟨v, hv⟩ := Y49
   rw [Bool.not_true, cond_false, hv, Option.bind_some, Z4b (by simp; omega), Option.bind_some, Option.bind_some]
   exact ⟨_, rfl⟩
 obtain ⟨x, hx⟩ := this
 unfold Zng
 rw [hx]; rfl
def oxT (o : Oxm) : Tern := bif decide (o.Field ≥ 0) && decide (o.Field < 24) then (bif o.Masked then ⟨o.Value, o.Mask⟩ else ⟨o.Value, Zfj (Zng o.Field)⟩) else ⟨Zy, Zy⟩
theorem Zop (o : Oxm) : Zc1 o = some (oxT o) := by
 unfold Zc1 oxT Z6k
 rw [Option.bind_some]
 cases decide (o.Field ≥ 0) && decide (o.Field < 24)
 ·rfl
 ·rw [Bool.not_true, cond_false, cond_true]
  cases o.Masked
  ·rw [cond_false, cond_false, Y8o, Option.bind_some, Zm9]; rfl
  ·rfl
def Z44 : Cube := Vector.replicate 24 Z0h
def Zj5 (a : Action) : Cube :=
 bif decide (a.Kind = 25) then Za1 Z44 a.Oxm.Field (oxT a.Oxm).Value (oxT a.Oxm).Mask
 else bif decide (a.Kind = 17) then Za1 Z44 5 (Z42 12) (Z42 12)
 else bif decide (a.Kind = 18) then Za1 (Za1 Z44 5 ⟨0, 0⟩ (Zfj 13)) 6 ⟨0, 0⟩ (Zfj 3)
 else Z44
theorem Y8f (a : Action) : Zfo a = some (Zj5 a) := by
 unfold Zfo Zj5
 rw [show Zbc = some Z44 from rfl, Option.bind_some]
 cases decide (a.Kind = 25)
 ·rw [cond_false, cond_false]
  cases decide (a.Kind = 17)
  ·rw [cond_false, cond_false]
   cases decide (a.Kind = 18)
   ·rfl
   ·rw [cond_true, cond_true, Zm9, Option.bind_some, Zgg, Option.bind_some, Zm9, Option.bind_some, Zgg]; rfl
  ·rw [cond_true, cond_true, show (12 : Int) = ((12 : Nat) : Int) from rfl, Zjt 12 (by decide), Option.bind_some, Option.bind_some, Zgg]; rfl
 ·rw [cond_true, cond_true, Zop, Option.bind_some, Zgg]; rfl
def Zs0 (a : Action) : Int := bif decide (a.Port = 4294967293) then a.Max else 0
theorem Zv2 {α : Type} (p : α → Bool) : ∀ l : List α, 0 ≤ Z08 p l → (l.take ((Z08 p l).toNat + 1)).filter (fun x => !p x) = l.take (Z08 p l).toNat
 | [], h => by simp [Z08] at h
 | x :: l, h => by
  unfold Z08 at h ⊢
  cases hp : p x
  ·rw [hp] at h
   by_cases h' : Z08 p l < 0
   ·simp [h'] at h
   ·simp only [cond_false, decide_eq_false h']
    have e : (Z08 p l + 1).toNat = (Z08 p l).toNat + 1 := by omega
    rw [e, List.take_succ_cons, List.take_succ_cons, List.filter_cons_of_pos (by simp [hp]), Zv2 p l (by omega)]
  ·simp [hp]
theorem Y5j {α : Type} (p : α → Bool) (l : List α) (h : Z08 p l < 0) : l.filter (fun x => !p x) = l := by
 rw [List.filter_eq_self]
 intro x hx
 rw [Zo2 p l h x hx]; rfl
theorem Zls {α : Type} (p : α → Bool) : ∀ l : List α, (Z08 p l < 0 ∧ l.find? p = none) ∨ ∃ n : Nat, Z08 p l = (n : Int) ∧ ∃ h : n < l.length, l.find? p = some l[n] ∧ p l[n] = true
 | [] => .inl ⟨by simp [Z08], rfl⟩
 | x :: l => by
  unfold Z08
  cases hp : p x
  ·rw [cond_false, List.find?_cons_of_neg (by simp [hp])]
   rcases Zls p l with ⟨h1, h2⟩ | ⟨n, h1, h2, h3, h4⟩
   ·left; rw [decide_eq_true h1]; exact ⟨by show (-1 : Int) < 0; decide, h2⟩
   ·right
    rw [decide_eq_false (by omega)]
    exact ⟨n + 1, by show Z08 p l + 1 = _; omega, by simp; omega, by simpa using h3, by simpa using h4⟩
  ·right
   exact ⟨0, rfl, by simp, by rw [List.find?_cons_of_pos hp]; rfl, hp⟩
theorem Znq (s : List Action) (f : Action → Option Bool) (p : Action → Bool) (hf : ∀ x ∈ s, f x = some (p x)) : Za6 s f = some (Z08 p s) := by
 unfold Za6
 rw [show ((s.length : Int)).toNat = s.length by omega]
 exact Zcj p (fun i => by rw [Z7u]) (fun m i => by rw [Z7u]) hf
theorem Zs8 (s : List Group) (f : Group → Option Bool) (p : Group → Bool) (hf : ∀ x ∈ s, f x = some (p x)) : Zda s f = some (Z08 p s) := by
 unfold Zda
 rw [show ((s.length : Int)).toNat = s.length by omega]
 exact Zcj p (fun i => by rw [Z79]) (fun m i => by rw [Z79]) hf
theorem Zz5 (s : List Bucket) (f : Bucket → Option Bool) (p : Bucket → Bool) (hf : ∀ x ∈ s, f x = some (p x)) : Ze1 s f = some (Z08 p s) := by
 unfold Ze1
 rw [show ((s.length : Int)).toNat = s.length by omega]
 exact Zcj p (fun i => by rw [Z7t]) (fun m i => by rw [Z7t]) hf
theorem Zv5 (s : List Int) (v : Int) : Ze4 s v = some (Z08 (fun x => decide (v = x)) s) := by
 unfold Ze4
 rw [show ((s.length : Int)).toNat = s.length by omega]
 exact Zcj (f := fun x => some (decide (v = x))) (fun x => decide (v = x)) (fun i => by rw [Z81]) (fun m i => by rw [Z81]; rfl) (fun _ _ => rfl)
theorem Y1r (s : List Action) (f : Action → Option Bool) (p : Action → Bool) (hf : ∀ x ∈ s, f x = some (p x)) (hl : s.length ≤ lim) : Zed s f = some (s.filter (fun x => !p x)) := by
 have hlim : lim = 4294967296 := rfl
 unfold Zed
 rw [Znq s f p hf, Option.bind_some]
 by_cases h : Z08 p s < 0
 ·have := Zf9 p s
  rw [decide_eq_true (by omega), cond_true, Y5j p s h]
 ·have hlt := Ziy p s
  rw [decide_eq_false (by omega), cond_false, Z3m (by omega) (by omega)]
  have key := Y64 (z := Zjl) (G := Z7a f) (s := s) (f := f) p (fun m l i j => by rw [Z7a]) hf hl (((s.length : Int) - (Z08 p s + 1)).toNat + 1) s (Z08 p s).toNat ((Z08 p s).toNat + 1) (by omega) (by omega) (by omega) rfl rfl (Zv2 p s (by omega)).symm
  rw [show ((Z08 p s).toNat : Int) = Z08 p s by omega, show (((Z08 p s).toNat + 1 : Nat) : Int) = Z08 p s + 1 by omega] at key
  exact key
theorem Y4d (s : List Action) (f : Action → Option Bool) (p : Action → Bool) (hf : ∀ x ∈ s, f x = some (p x)) : Zgc s f = some (s.any p) := by
 unfold Zgc; rw [Znq s f p hf, Option.bind_some, Zcw]
def Z0r (a : Action) : aset_spot := bif decide (a.Kind = 25) then ⟨a.Kind, a.Oxm.Field⟩ else ⟨a.Kind, 0⟩
theorem Zj4 (a : Action) : Z8v a = some (Z0r a) := by
 unfold Z8v Z0r
 cases decide (a.Kind = 25) <;> rfl
theorem Y5h (b c : Action) : Z9f b c = some (decide (Z0r c = Z0r b)) := by
 unfold Z9f
 rw [Zj4, Option.bind_some, Zj4]; rfl
def wr1 (l : List Action) (x : Action) : List Action := bif decide (Z08 (fun b => decide (Z0r x = Z0r b)) l < 0) then l ++ [x] else l.set (Z08 (fun b => decide (Z0r x = Z0r b)) l).toNat x
theorem Zo4 (l : List Action) (x : Action) : (wr1 l x).length ≤ l.length + 1 := by
 unfold wr1
 cases decide (Z08 (fun b => decide (Z0r x = Z0r b)) l < 0) <;> simp
theorem Zl8 : ∀ (l : List Action) (i : Nat) (acc : List Action), acc.length + l.length ≤ lim → Z5r l i acc = some (l.foldl wr1 acc)
 | [], i, acc, _ => by rw [Z5r]; rfl
 | x :: l, i, acc, h => by
  simp only [List.length_cons] at h
  have hw := Zo4 acc x
  rw [Z5r, Znq acc (fun y => Z9f y x) (fun b => decide (Z0r x = Z0r b)) (fun y _ => Y5h y x), Option.bind_some, List.foldl_cons]
  have hi := Ziy (fun b => decide (Z0r x = Z0r b)) acc
  by_cases hc : Z08 (fun b => decide (Z0r x = Z0r b)) acc < 0
  ·rw [decide_eq_true hc, cond_true, Z2t (by simp; omega), Option.bind_some, Zl8 l (i + 1) _ (by simp; omega)]
   unfold wr1
   rw [decide_eq_true hc, cond_true]
  ·obtain ⟨n, hn⟩ : ∃ n : Nat, Z08 (fun b => decide (Z0r x = Z0r b)) acc = (n : Int) := ⟨(Z08 (fun b => decide (Z0r x = Z0r b)) acc).toNat, by omega⟩
   rw [decide_eq_false hc, cond_false, hn, Z4b (by omega), Option.bind_some, Zl8 l (i + 1) _ (by simp; omega)]
   unfold wr1
   rw [decide_eq_false hc, cond_false, hn]
theorem Zwh (s l : List Action) (h : s.length + l.length ≤ lim) : Zg6 s l = some (l.foldl wr1 s) := by
 unfold Zg6 Z5v
 rw [Z2t (by simp; omega), Option.bind_some, List.nil_append, Zl8 l 0 s h]
theorem Zoq : ∀ (l s : List Action), (l.foldl wr1 s).length ≤ s.length + l.length
 | [], s => by simp
 | x :: l, s => by
  have h1 := Zoq l (wr1 s x)
  have h2 := Zo4 s x
  rw [List.foldl_cons, List.length_cons]; omega
def Z2z (k : Int) : Int := Z08 (fun x => decide (k = x)) [18, 17, 25, 22, 0]
theorem Zlk (k : Int) : Zax k = some (Z2z k) := by
 unfold Zax Z2z
 rw [Zv5]; rfl
def Zgk (goes : Bool) (a : Action) : Bool := !(decide (Z2z a.Kind < 0) || (goes && decide (a.Kind = 0)))
def Zee (a b : Action) : Int :=
 bif decide (IntKind.i64.wrap (Z2z (Z0r a).kind - Z2z (Z0r b).kind) ≠ 0) then IntKind.i64.wrap (Z2z (Z0r a).kind - Z2z (Z0r b).kind)
 else bif decide ((Z0r a).field < (Z0r b).field) then -1 else bif decide ((Z0r a).field > (Z0r b).field) then 1 else 0
theorem Zwg (a b : Action) : Zd9 a b = some (Zee a b) := by
 unfold Zd9 Zee
 rw [Zj4, Option.bind_some, Zj4, Option.bind_some, Zlk, Option.bind_some, Zlk, Option.bind_some]
 cases decide (IntKind.i64.wrap (Z2z (Z0r a).kind - Z2z (Z0r b).kind) ≠ 0)
 ·rw [cond_false, cond_false]
  cases decide ((Z0r a).field < (Z0r b).field)
  ·rw [cond_false, cond_false]
   cases decide ((Z0r a).field > (Z0r b).field) <;> rfl
  ·rfl
 ·rfl
def ltA (a b : Action) : Bool := decide (Zee a b < 0)
def Zba (s : List Action) : List Action := srt ltA (s.filter (Zgk (s.any fun a => decide (a.Kind = 22))))
def Zmr (bs : List Bucket) : Prop := bs.length ≤ 3 ∧ ∀ x ∈ bs, x.Acts.length ≤ 12
def Z87 (l : List Group) : Prop := l.length ≤ 9 ∧ ∀ g ∈ l, Zmr g.Buckets
theorem Zpf (bs : List Bucket) (h : ∀ x ∈ bs, x.Acts.length ≤ 12) : ∀ (m i : Nat), i + m = bs.length → Z65 m i bs = some bs
 | 0, i, _ => by rw [Z65]
 | m + 1, i, hi => by
  have hlim : lim = 4294967296 := rfl
  have hlt : i < bs.length := by omega
  have ha := h bs[i] (List.getElem_mem hlt)
  have e : List.set bs ((i : Int)).toNat { bs[i] with Acts := bs[i].Acts } = bs := by
   rw [Int.toNat_natCast]; exact List.set_getElem_self hlt
  rw [Z65, Z4b hlt, Option.bind_some]
  unfold Z5v
  rw [Z2t (by simp; omega), Option.bind_some, Option.bind_some, List.nil_append, e]
  exact Zpf bs h m (i + 1) (by omega)
theorem Y4w (bs : List Bucket) (h : Zmr bs) : Zfc bs = some bs := by
 have hlim : lim = 4294967296 := rfl
 have := h.1
 unfold Zfc Zgl
 rw [Z2t (by simp; omega), Option.bind_some, List.nil_append, show ((bs.length : Int)).toNat = bs.length by omega]
 exact Zpf bs h.2 bs.length 0 (by omega)
theorem Zwz (g : Group) (h : Zmr g.Buckets) : Zf5 [g] = some [g] := by
 unfold Zf5 Zjj
 rw [Z2t (by simp [lim]), Option.bind_some]
 show Z7i 1 0 [g] = _
 rw [Z7i]
 show ((some g).bind fun e8 => _) = _
 rw [Option.bind_some, Y4w _ h, Option.bind_some]
 rfl
def Zih (l : List Group) (id : Int) : Option Group := l.find? fun g => decide (g.ID = id)
theorem Y7n (l : List Group) (id : Int) (hl : Z87 l) : Zeh l id = some (match Zih l id with | none => ((⟨0, 0, []⟩ : Group), false) | some g => (g, true)) := by
 have h9 := hl.1
 unfold Zeh Zhl Zih
 rw [Zs8 l (fun x => Zf8 x id) (fun g => decide (g.ID = id)) (fun _ _ => rfl), Option.bind_some, Option.bind_some]
 rcases Zls (fun g : Group => decide (g.ID = id)) l with ⟨h1, h2⟩ | ⟨n, h1, h2, h3, h4⟩
 ·rw [decide_eq_true h1, cond_true, h2]
 ·have hs : Zb9 l (n : Int) (IntKind.i64.wrap ((n : Int) + 1)) = some [l[n]] := by
   rw [Z3m (by omega) (by omega)]
   unfold Zb9
   rw [decide_eq_true (by omega), decide_eq_true (by omega), Nat.ble_eq_true_of_le (by omega)]
   show some _ = some _
   have e2 : ((n : Int) + 1).toNat = n + 1 := by omega
   have e3 : (l.take n).length = n := by simp; omega
   rw [e2, Int.toNat_natCast, List.take_succ_eq_append_getElem h2, List.drop_append, e3, List.drop_of_length_le (by omega), Nat.sub_self]
   rfl
  rw [decide_eq_false (by omega), cond_false, h1, hs, Option.bind_some, Zwz _ (hl.2 _ (List.getElem_mem h2)), Option.bind_some, h3]
  rfl
def Zl9 (l : List Action) : Nat := l.countP fun a => decide (a.Kind = 0) || decide (a.Kind = 22)
end Go.Proofs.YtknpgojdkobgjaaGreat.W
namespace Go.Proofs.YtknpgojdkobgjaaGreat.W
open Go Go.Wb
theorem Y79 (a b : Cube) : Zfw a b = some (Zn5 a b) := by
 unfold Zfw
 rw [Zoh (fun x => Zcz x a b) (fun i => Z9a (ve a i) (ve b i)) (fun i hi => by unfold Zcz; rw [Z2p hi, Option.bind_some, Option.bind_some, Z3y, Z3y, Zo0]; rfl)]
 rfl
def Zmm (r : Cube) (a : Action) : Atom := bif decide (a.Kind = 0) then ⟨r, false, a.Port, Zs0 a⟩ else ⟨r, true, a.Group, 0⟩
def Zch (a : Action) : Bool := decide (a.Kind = 0) || decide (a.Kind = 22)
def doT : List Action → Cube → List Atom × Cube
 | [], r => ([], r)
 | a :: l, r => bif Zch a then (Zmm r a :: (doT l r).1, (doT l r).2) else doT l (Zn5 r (Zj5 a))
theorem Y6v (r : Cube) (o : List Atom) (a : Action) (h : o.length + 1 ≤ lim) : Z9n ⟨r, o⟩ a = some (bif Zch a then ⟨r, o ++ [Zmm r a]⟩ else ⟨Zn5 r (Zj5 a), o⟩) := by
 have hj : ∀ x : Atom, Zaw ⟨r, o⟩ x = some ⟨r, o ++ [x]⟩ := fun x => by
  unfold Zaw
  rw [Z2t (by simpa using h), Option.bind_some]
 unfold Z9n Zch Zmm Zs0
 cases decide (a.Kind = 0)
 ·rw [cond_false]
  cases decide (a.Kind = 22)
  ·rw [cond_false, Y8f, Option.bind_some, Y79]; rfl
  ·rw [cond_true, hj]; rfl
 ·rw [cond_true]
  cases decide (a.Port = 4294967293)
  ·rw [cond_false, hj]; rfl
  ·rw [cond_true, hj]; rfl
theorem Zmg : ∀ (l : List Action) (i : Nat) (r : Cube) (o : List Atom), o.length + l.length ≤ lim → Z6x Z4a (fun s x => Z9n s x) l i ⟨r, o⟩ = some ⟨(doT l r).2, o ++ (doT l r).1⟩
 | [], i, r, o, _ => by rw [Z6x]; simp [doT]
 | a :: l, i, r, o, h => by
  simp only [List.length_cons] at h
  rw [Z6x, Y6v r o a (by omega), Option.bind_some, doT]
  cases Zch a
  ·rw [cond_false, cond_false, Zmg l (i + 1) _ o (by omega)]
  ·rw [cond_true, cond_true, Zmg l (i + 1) _ _ (by simp; omega)]
   simp
theorem Y38 (acts : List Action) (r : Cube) (h : acts.length ≤ lim) : Zgh acts r = some (doT acts (Z1n r)) := by
 unfold Zgh Zhy
 rw [Zpb, Option.bind_some, Zmg acts 0 _ [] (by simpa using h), Option.bind_some]
 rfl
theorem Zi7 : ∀ (l : List Action) (r : Cube), (doT l r).1.length = Zl9 l
 | [], r => rfl
 | a :: l, r => by
  have ih := Zi7 l
  unfold Zl9 at ih ⊢
  rw [doT, List.countP_cons]
  show _ = _ + if Zch a = true then 1 else 0
  cases Zch a
  ·simp [ih]
  ·simp [ih]
end Go.Proofs.YtknpgojdkobgjaaGreat.W
namespace Go.Proofs.YtknpgojdkobgjaaGreat.W
open Go Go.Wb
end Go.Proofs.YtknpgojdkobgjaaGreat.W
namespace Go.Proofs.YtknpgojdkobgjaaGreat.W
open Go Go.Wb
theorem Zyn (s : List Bucket) (f : Bucket → Option Bool) (p : Bucket → Bool) (hf : ∀ x ∈ s, f x = some (p x)) : Zey s f = some (s.any p) := by
 unfold Zey; rw [Zz5 s f p hf, Option.bind_some, Zcw]
theorem Zzx (s : List Group) (f : Group → Option Bool) (p : Group → Bool) (hf : ∀ x ∈ s, f x = some (p x)) : Zff s f = some (s.any p) := by
 unfold Zff; rw [Zs8 s f p hf, Option.bind_some, Zcw]
def Zbr (bs : List Bucket) (many : Int) : Bool := decide ((bs.length : Int) ≤ many) && !(bs.any fun x => !decide ((x.Acts.length : Int) ≤ 12))
theorem Zxm (bs : List Bucket) (many : Int) : Zg7 bs many = some (Zbr bs many) := by
 unfold Zg7 Zbr
 rw [Zyn bs Zhp (fun x => !decide ((x.Acts.length : Int) ≤ 12)) (fun x _ => rfl)]
 cases decide ((bs.length : Int) ≤ many) <;> rfl
def Zcf (l : List Group) (many bm : Int) : Bool := decide ((l.length : Int) ≤ many) && !(l.any fun g => !Zbr g.Buckets bm)
theorem Zyk (l : List Group) (many bm : Int) : Zeu l many bm = some (Zcf l many bm) := by
 unfold Zeu Zcf
 rw [Zzx l (fun x => Zd4 x bm) (fun g => !Zbr g.Buckets bm) (fun g _ => by unfold Zd4; rw [Zxm]; rfl)]
 cases decide ((l.length : Int) ≤ many) <;> rfl
theorem Y15 {l : List Group} (h : Zcf l 9 3 = true) : Z87 l := by
 unfold Zcf at h
 simp only [Bool.and_eq_true, decide_eq_true_eq, Bool.not_eq_true', List.any_eq_false] at h
 refine ⟨by omega, fun g hg => ?_⟩
 have h1 : Zbr g.Buckets 3 = true := by simpa using h.2 g hg
 unfold Zbr at h1
 simp only [Bool.and_eq_true, decide_eq_true_eq, Bool.not_eq_true', List.any_eq_false] at h1
 refine ⟨by omega, fun x hx => ?_⟩
 have h2 : decide ((x.Acts.length : Int) ≤ 12) = true := by simpa using h1.2 x hx
 rw [decide_eq_true_eq] at h2
 omega
end Go.Proofs.YtknpgojdkobgjaaGreat.W
namespace Go.Proofs.YtknpgojdkobgjaaGreat.W
open Go Go.Wb
theorem inc (n : Nat) (h : n < 9223372036854775807) : IntKind.i64.wrap ((n : Int) + 1) = ((n + 1 : Nat) : Int) := by rw [Z3m (by omega) (by omega)]; omega
end Go.Proofs.YtknpgojdkobgjaaGreat.W
namespace Go.Proofs.YtknpgojdkobgjaaGreat.W
open Go Go.Wb
end Go.Proofs.YtknpgojdkobgjaaGreat.W
namespace Go.Proofs.YtknpgojdkobgjaaGreat.W
open Go Go.Wb
end Go.Proofs.YtknpgojdkobgjaaGreat.W
namespace Go.Proofs.YtknpgojdkobgjaaGreat.W
open Go Go.Wb
end Go.Proofs.YtknpgojdkobgjaaGreat.W
namespace Go.Proofs.YtknpgojdkobgjaaGreat.W
open Go Go.Wb
end Go.Proofs.YtknpgojdkobgjaaGreat.W
namespace Go.Proofs.YtknpgojdkobgjaaGreat.W
open Go Go.Wb
theorem Zq5 (a : Wide) : Zcr a = some (Z2q a) := rfl
theorem Zsp (a : Wide) (i : Nat) (h : i < 128) : Zd0 a (i : Int) = some (wt a i) := by
 unfold Zd0
 rw [Zjt i h, Option.bind_some, Zxw, Option.bind_some, Zq5, Option.bind_some, Y42 a i h]
theorem Y3z (n : Nat) (h : n < 18446744073709551616) : Zjx .and .i64 (IntKind.i64.wrap (n : Int)) 127 = ((n % 128 : Nat) : Int) := by
 have e : (BitVec.ofInt 64 (IntKind.i64.wrap (n : Int)) &&& BitVec.ofInt 64 127).toNat = n % 128 := by
  have e1 : BitVec.ofInt 64 (IntKind.i64.wrap (n : Int)) = BitVec.ofNat 64 n := by
   apply BitVec.eq_of_toNat_eq
   rw [BitVec.toNat_ofInt, BitVec.toNat_ofNat]
   simp only [IntKind.wrap, IntKind.signed, IntKind.bits]
   simp
   omega
  have e2 : BitVec.ofInt 64 127 = BitVec.ofNat 64 127 := rfl
  rw [e1, e2, BitVec.toNat_and, BitVec.toNat_ofNat, BitVec.toNat_ofNat, Nat.mod_eq_of_lt h]
  exact Nat.and_two_pow_sub_one_eq_mod n 7
 show IntKind.i64.wrap ((BitVec.ofInt 64 (IntKind.i64.wrap (n : Int)) &&& BitVec.ofInt 64 127).toNat : Int) = _
 rw [e, Z3m (by omega) (by omega)]
def cnt (x : BitVec 64) : Nat := ds 1 64 x.toNat
theorem Zq4 (x : BitVec 64) : Zd7 x = some (cnt x : Int) := by
 obtain ⟨h0, ha, hb, hbb, hd, he, hf⟩ := Zz7 x.toNat x.isLt
 have sh : ∀ (x : BitVec 64) (n : BitVec 64), Z2c x (n.toNat : Int) = some (x >>> n.toNat) := fun x n => Zzq x n.toNat
 unfold Zd7
 simp only [sh, Option.bind_some]
 congr 1
 have t1 : ((1 : BitVec 64)).toNat = 1 := rfl
 have t2 : ((2 : BitVec 64)).toNat = 2 := rfl
 have t4 : ((4 : BitVec 64)).toNat = 4 := rfl
 have t8 : ((8 : BitVec 64)).toNat = 8 := rfl
 have t16 : ((16 : BitVec 64)).toNat = 16 := rfl
 have t32 : ((32 : BitVec 64)).toNat = 32 := rfl
 rw [t1, t2, t4, t8, t16, t32]
 generalize hA : (x >>> 1 &&& (6148914691236517205 : BitVec 64)) + (x &&& (6148914691236517205 : BitVec 64)) = A
 have eA : A.toNat = (x.toNat / 2 &&& 6148914691236517205) + (x.toNat &&& 6148914691236517205) := by
  rw [← hA, BitVec.toNat_add, BitVec.toNat_and, BitVec.toNat_and, BitVec.toNat_ushiftRight, Nat.shiftRight_eq_div_pow]
  exact Nat.mod_eq_of_lt ha
 generalize hB : (A >>> 2 &&& (3689348814741910323 : BitVec 64)) + (A &&& (3689348814741910323 : BitVec 64)) = B
 have eB : B.toNat = (A.toNat / 4 &&& 3689348814741910323) + (A.toNat &&& 3689348814741910323) := by
  rw [← hB, BitVec.toNat_add, BitVec.toNat_and, BitVec.toNat_and, BitVec.toNat_ushiftRight, Nat.shiftRight_eq_div_pow]
  rw [eA]
  exact Nat.mod_eq_of_lt hb
 generalize hC : (B >>> 4 + B) &&& (1085102592571150095 : BitVec 64) = D
 have eC : D.toNat = (B.toNat / 16 + B.toNat) &&& 1085102592571150095 := by
  rw [← hC, BitVec.toNat_and, BitVec.toNat_add, BitVec.toNat_ushiftRight, Nat.shiftRight_eq_div_pow]
  have : (B.toNat / 2 ^ 4 + B.toNat) % 2 ^ 64 = B.toNat / 16 + B.toNat := by
   rw [eB, eA]
   exact Nat.mod_eq_of_lt hbb
  rw [this]; rfl
 rw [← eA, ← eB, ← eC] at hd he hf h0
 generalize hE : D + D >>> 8 = E
 have eE : E.toNat = D.toNat + D.toNat / 256 := by
  rw [← hE, BitVec.toNat_add, BitVec.toNat_ushiftRight, Nat.shiftRight_eq_div_pow]
  exact Nat.mod_eq_of_lt hd
 rw [← eE] at he hf h0
 generalize hG : E + E >>> 16 = G
 have eG : G.toNat = E.toNat + E.toNat / 65536 := by
  rw [← hG, BitVec.toNat_add, BitVec.toNat_ushiftRight, Nat.shiftRight_eq_div_pow]
  exact Nat.mod_eq_of_lt he
 rw [← eG] at hf h0
 generalize hK : G + G >>> 32 = K
 have eK : K.toNat = G.toNat + G.toNat / 4294967296 := by
  rw [← hK, BitVec.toNat_add, BitVec.toNat_ushiftRight, Nat.shiftRight_eq_div_pow]
  exact Nat.mod_eq_of_lt hf
 rw [← eK] at h0
 rw [Y3z _ K.isLt, h0]
 rfl
theorem Zsr (x : BitVec 64) : cnt x ≤ 64 := by
 unfold cnt
 rw [Zho]
 exact Nat.le_trans (List.length_filter_le ..) (by simp)
def Z61 (a : Wide) : List Nat := (List.range 128).filter (wt a)
theorem Zyl (a : Wide) : (Z61 a).length = cnt a.Lo + cnt a.Hi := by
 have e : List.range (64 + 64) = List.range 64 ++ (List.range 64).map (64 + ·) := List.range_add
 unfold Z61 cnt
 rw [show (128 : Nat) = 64 + 64 from rfl, e, List.filter_append, List.length_append, Zho, Zho, List.filter_map, List.length_map]
 congr 2
theorem Zqw (a : Wide) : Zbn a = some ((Z61 a).length : Int) := by
 have h1 := Zsr a.Hi
 have h2 := Zsr a.Lo
 rw [Zyl]
 unfold Zbn
 rw [Zq4, Option.bind_some, Zq4, Option.bind_some]
 generalize cnt a.Hi = p at *
 generalize cnt a.Lo = q at *
 rw [Z3m (by omega) (by omega)]
 congr 1
 omega
def Z2y (a : Wide) : Nat → List Int
 | 0 => []
 | n + 1 => bif wt a n then (n : Int) :: Z2y a n else Z2y a n
theorem Zez (a : Wide) : ∀ n, (Z2y a n).length = ((List.range n).filter (wt a)).length
 | 0 => rfl
 | n + 1 => by
  rw [List.range_succ, List.filter_append, List.length_append, Z2y, ← Zez a n]
  cases h : wt a n <;> simp [h]
theorem Zck (a : Wide) : ∀ (n : Nat) (i : Int), i ∈ Z2y a n ↔ ∃ k : Nat, i = (k : Int) ∧ k < n ∧ wt a k = true
 | 0, i => by simp [Z2y]
 | n + 1, i => by
  rw [Z2y]
  cases h : wt a n
  ·rw [cond_false, Zck a n i]
   constructor
   ·rintro ⟨k, rfl, h1, h2⟩; exact ⟨k, rfl, by omega, h2⟩
   ·rintro ⟨k, rfl, h1, h2⟩
    have : k ≠ n := fun e => by rw [e, h] at h2; cases h2
    exact ⟨k, rfl, by omega, h2⟩
  ·rw [cond_true, List.mem_cons, Zck a n i]
   constructor
   ·rintro (rfl | ⟨k, rfl, h1, h2⟩)
    ·exact ⟨n, rfl, by omega, h⟩
    ·exact ⟨k, rfl, by omega, h2⟩
   ·rintro ⟨k, rfl, h1, h2⟩
    by_cases e : k = n
    ·left; rw [e]
    ·right; exact ⟨k, rfl, by omega, h2⟩
theorem Zvc (a : Wide) : ∀ (n m : Nat) (acc : List Int), n ≤ 128 → n < m → acc.length + (Z2y a n).length = (Z61 a).length → Z6w a m acc ((n : Int) - 1) = some (acc ++ Z2y a n) := by
 have hlim : lim = 4294967296 := rfl
 have hup : (Z61 a).length ≤ 128 := by
  unfold Z61; exact Nat.le_trans (List.length_filter_le ..) (by simp)
 intro n
 induction n with
 | zero =>
  intro m acc h1 h2 h3
  obtain ⟨m, rfl⟩ : ∃ k, m = k + 1 := ⟨m - 1, by omega⟩
  rw [Z6w, decide_eq_false (by omega), Zym, Option.bind_some, Bool.false_and, cond_false]
  simp [Z2y]
 | succ n ih =>
  intro m acc h1 h2 h3
  obtain ⟨m, rfl⟩ : ∃ k, m = k + 1 := ⟨m - 1, by omega⟩
  have e : ((n + 1 : Nat) : Int) - 1 = (n : Int) := by omega
  rw [e, Z6w, decide_eq_true (by omega), Z7x, Zqw, Option.bind_some, Bool.true_and]
  by_cases hc : acc.length < (Z61 a).length
  ·have e2 : IntKind.i64.wrap ((n : Int) - 1) = (n : Int) - 1 := Z3m (by omega) (by omega)
   rw [decide_eq_true (by omega), cond_true, Zsp a n (by omega), Option.bind_some, e2, Z2y]
   rw [Z2y] at h3
   cases hw : wt a n
   ·rw [hw, cond_false] at h3
    rw [cond_false, cond_false, ih m acc (by omega) (by omega) h3]
   ·rw [hw, cond_true, List.length_cons] at h3
    rw [cond_true, cond_true, Z2t (by simp; omega), Option.bind_some, ih m _ (by omega) (by omega) (by simp; omega)]
    simp
  ·rw [decide_eq_false (by omega), cond_false]
   have : Z2y a (n + 1) = [] := List.eq_nil_of_length_eq_zero (by omega)
   rw [this]; simp
end Go.Proofs.YtknpgojdkobgjaaGreat.W
namespace Go.Proofs.YtknpgojdkobgjaaGreat.W
open Go Go.Wb
theorem Zrm (f : Int → Option (Tern × Bool)) (g : Nat → Tern) (hf : ∀ i : Nat, i < 24 → f (i : Int) = some (g i, true)) (b : Cube) : ∀ (m i : Nat), i + m = 24 → Z43 f m i (Z3x g b i) = some (Vector.ofFn (fun i => g i.1), true)
 | 0, i, h => by
  have : i = 24 := by omega
  subst this
  rw [Z43, Zgi]
 | m + 1, i, h => by
  rw [Z43, hf i (by omega), Option.bind_some, Bool.not_true, cond_false, Z2p (by omega), Option.bind_some]
  show Z43 f m (i + 1) (Vector.set (Z3x g b i) i (g i) _) = _
  rw [Zie g b i (by omega), Zrm f g hf b m (i + 1) (by omega)]
theorem Zrs (c : Cube) : Z92 c = some (Z1n c) := by
 unfold Z92 Za7
 have := Zrm (fun x => Zco x c) (fun i => Z1c (ve c i)) (fun i hi => by unfold Zco; rw [Z2p hi, Option.bind_some, Z3y, Zhe]; rfl) (Vector.replicate 24 Z0h) 24 0 rfl
 rw [Zgr] at this
 rw [show ((24 : Int)).toNat = 24 from rfl, this]
 rfl
def Zyi (x y : Tern) : Bool := !Z2q (Z2a (Z2a x.Mask y.Mask) (Z6r x.Value y.Value))
def apart (a b : Atom) : Bool := !(a.Group == b.Group) || decide (a.Port ≠ b.Port) || decide (a.Max ≠ b.Max) || (List.range' 0 24).any fun f => Zyi (ve a.Rewrite f) (ve b.Rewrite f)
def Z3t (t : Tern) (i : Nat) (on : Bool) : Tern := bif on then ⟨wor (Z3r (Z1c t).Value (Z42 i)) (Z42 i), wor (Z1c t).Mask (Z42 i)⟩ else ⟨Z3r (Z1c t).Value (Z42 i), wor (Z1c t).Mask (Z42 i)⟩
theorem Zte (t : Tern) (i : Nat) (h : i < 128) (on : Bool) : Zc7 t (i : Int) on = some (Z3t t i on) := by
 unfold Zc7
 rw [Zjt i h, Option.bind_some, Zhe, Option.bind_some, Zpe, Option.bind_some, Zlf, Option.bind_some]
 cases on
 ·rfl
 ·rw [cond_true, Zpe]; rfl
def Zyc (c : Cube) (f bit : Nat) (on : Bool) : Option Cube :=
 bif wt (ve c f).Mask bit && (wt (ve c f).Value bit == on) then none else some (Vector.ofFn fun k => if f = k.1 then Z3t (ve c f) bit (!on) else ve c k.1)
theorem Y73 (c : Cube) (f : Nat) (hf : f < 24) (t : Tern) : Vector.set c f t hf = Vector.ofFn fun k => if f = k.1 then t else ve c k.1 := Zcl fun j hj => by
 rw [Zhb _ _ _ _ _ hj, Zap (fun k => if f = k then t else ve c k) j hj]
def sgl (x y : Tern) (k : Nat) : Bool × Bool := bif wt x.Mask k == wt y.Mask k then (false, false) else (true, bif wt x.Mask k then wt x.Value k else wt y.Value k)
def rp (c : Cube) (x y : Tern) (f k : Nat) : Option Cube := bif (sgl x y k).1 then Zyc c f k (sgl x y k).2 else none
def Z3i (t : Tern) (v : Wide) : Bool := Z2q (Z2a (Z6r t.Value v) t.Mask)
theorem Z4p (t : Tern) (v : Wide) : Z3i t v = true ↔ ∀ k, k < 128 → wt t.Mask k = true → wt t.Value k = wt v k := by
 unfold Z3i
 rw [Zb4]
 constructor
 ·intro h k hk hm
  have := h k hk
  rw [Z4j, Ze8, hm] at this
  revert this
  cases wt t.Value k <;> cases wt v k <;> decide
 ·intro h k hk
  rw [Z4j, Ze8]
  cases hm : wt t.Mask k
  ·simp
  ·rw [h k hk hm]; simp
theorem Y5o (t : Tern) (v : Wide) : Zet t v = some (Z3i t v) := rfl
def Z1i (c : Cube) (h : Header) : Bool := (List.range' 0 24).all fun f => Z3i (ve c f) (ve h f)
theorem Z5k (c : Cube) (h : Header) : Z1i c h = true ↔ ∀ f, f < 24 → Z3i (ve c f) (ve h f) = true := by
 unfold Z1i
 rw [List.all_eq_true]
 constructor
 ·intro hh f hf
  exact hh f (by rw [List.mem_range'_1]; omega)
 ·intro hh f hf
  exact hh f (by have := (List.mem_range'_1.1 hf).2; omega)
theorem Zrv (t : Tern) (v : Wide) : Z3i (Z1c t) v = Z3i t v := by
 rw [Bool.eq_iff_iff, Z4p, Z4p]
 unfold Z1c
 constructor
 ·intro h k hk hm
  have := h k hk hm
  rw [Z4j, hm, Bool.and_true] at this
  exact this
 ·intro h k hk hm
  have hm' : wt t.Mask k = true := hm
  rw [Z4j, hm', Bool.and_true]
  exact h k hk hm'
theorem Y89 (c : Cube) (h : Header) : Z1i (Z1n c) h = Z1i c h := by
 rw [Bool.eq_iff_iff, Z5k, Z5k]
 constructor
 ·intro hh f hf
  have := hh f hf
  rwa [Ztb _ _ hf, Zrv] at this
 ·intro hh f hf
  rw [Ztb _ _ hf, Zrv]
  exact hh f hf
theorem Zyq (t : Tern) (i : Nat) (hi : i < 128) (on : Bool) (v : Wide) : Z3i (Z3t t i on) v = true ↔ (∀ k, k < 128 → k ≠ i → wt t.Mask k = true → wt t.Value k = wt v k) ∧ wt v i = on := by
 have hm : ∀ k, k < 128 → wt (Z3t t i on).Mask k = (wt t.Mask k || decide (i = k)) := fun k hk => by
  unfold Z3t Z1c
  cases on <;> simp only [cond_true, cond_false, Zef, Zc2 i k hi hk]
 have hv : ∀ k, k < 128 → wt (Z3t t i on).Value k = if i = k then on else (wt t.Value k && wt t.Mask k) := fun k hk => by
  unfold Z3t Z1c
  by_cases e : i = k
  ·subst e
   cases on <;> simp [cond_true, cond_false, Zef, Ziz _ _ _ hk, Z4j, Zc2 i i hi hi]
  ·cases on <;> simp [cond_true, cond_false, Zef, Ziz _ _ _ hk, Z4j, Zc2 i k hi hk, e]
 rw [Z4p]
 constructor
 ·intro h
  refine ⟨fun k hk hne hmk => ?_, ?_⟩
  ·have := h k hk (by rw [hm k hk, hmk]; rfl)
   rw [hv k hk, if_neg (fun e => hne e.symm), hmk, Bool.and_true] at this
   exact this
  ·have := h i hi (by rw [hm i hi]; simp)
   rw [hv i hi, if_pos rfl] at this
   exact this.symm
 ·rintro ⟨h1, h2⟩ k hk hmk
  rw [hv k hk]
  by_cases e : i = k
  ·subst e; rw [if_pos rfl, h2]
  ·rw [if_neg e]
   rw [hm k hk] at hmk
   have hmk' : wt t.Mask k = true := by simpa [e] using hmk
   rw [hmk', Bool.and_true]
   exact h1 k hk (fun e' => e e'.symm) hmk'
end Go.Proofs.YtknpgojdkobgjaaGreat.W
namespace Go.Proofs.YtknpgojdkobgjaaGreat.W
open Go Go.Wb
end Go.Proofs.YtknpgojdkobgjaaGreat.W
namespace Go.Proofs.YtknpgojdkobgjaaGreat.W
open Go Go.Wb
theorem Zq7 (k : Int) : -1 ≤ Z2z k ∧ Z2z k ≤ 4 := by
 unfold Z2z
 have h1 := Zf9 (fun x => decide (k = x)) [18, 17, 25, 22, 0]
 have h2 := Ziy (fun x => decide (k = x)) [18, 17, 25, 22, 0]
 simp only [List.length_cons, List.length_nil] at h2
 omega
theorem Zhf (a b : Action) : ltA a b = decide (Z2z (Z0r a).kind < Z2z (Z0r b).kind ∨ (Z2z (Z0r a).kind = Z2z (Z0r b).kind ∧ (Z0r a).field < (Z0r b).field)) := by
 have h1 := Zq7 (Z0r a).kind
 have h2 := Zq7 (Z0r b).kind
 unfold ltA Zee
 rw [wr (by omega) (by omega)]
 generalize Z2z (Z0r a).kind = x at *
 generalize Z2z (Z0r b).kind = y at *
 generalize (Z0r a).field = f at *
 generalize (Z0r b).field = g at *
 by_cases e : x - y = 0
 ·have e1 : decide (x - y ≠ 0) = false := decide_eq_false (by omega)
  rw [e1, cond_false]
  by_cases h3 : f < g
  ·have e2 : decide (f < g) = true := decide_eq_true h3
   rw [e2, cond_true]
   simp; omega
  ·have e2 : decide (f < g) = false := decide_eq_false h3
   rw [e2, cond_false]
   by_cases h4 : f > g
   ·have e3 : decide (f > g) = true := decide_eq_true h4
    rw [e3, cond_true]
    simp; omega
   ·have e3 : decide (f > g) = false := decide_eq_false h4
    rw [e3, cond_false]
    simp; omega
 ·have e1 : decide (x - y ≠ 0) = true := decide_eq_true (by omega)
  rw [e1, cond_true, decide_eq_decide]
  omega
theorem Zpq : Swo ltA where
 asym := fun a b h => by
  rw [Zhf, decide_eq_true_eq] at h
  rw [Zhf, decide_eq_false_iff_not]
  omega
 neg := fun a b c h k => by
  rw [Zhf, decide_eq_false_iff_not] at h k
  rw [Zhf, decide_eq_false_iff_not]
  omega
theorem Y28 : Z4h ltA Zd9 := fun x y => ⟨Zee x y, Zwg x y, rfl⟩
theorem Y13 (s : List Action) (h : s.length ≤ 100000) : Zcu s = some (Zba s) := by
 have hlim : lim = 4294967296 := rfl
 unfold Zcu Z5v Zba
 rw [Y4d s Zjk (fun a => decide (a.Kind = 22)) (fun _ _ => rfl), Option.bind_some, Z2t (by simp; omega), Option.bind_some, List.nil_append]
 have hf : ∀ a : Action, Zdc a (s.any fun a => decide (a.Kind = 22)) = some (!Zgk (s.any fun a => decide (a.Kind = 22)) a) := fun a => by
  unfold Zdc Zgk
  rw [Zlk, Option.bind_some, Bool.not_not]
 rw [Y1r s _ (fun a => !Zgk (s.any fun a => decide (a.Kind = 22)) a) (fun a _ => hf a) (by omega), Option.bind_some]
 simp only [Bool.not_not]
 rw [Y0x Zpq Y28 _ (Nat.le_trans (List.length_filter_le ..) h)]
 rfl
theorem Zst (s : List Action) : (Zba s).length ≤ s.length := by
 unfold Zba
 rw [Z22 Zpq]
 exact List.length_filter_le ..
def Z3a (a b : Tern) : Option Tern := bif Z2q (Z2a (Z6r a.Value b.Value) (Z2a a.Mask b.Mask)) then some ⟨wor (Z1c a).Value (Z1c b).Value, wor a.Mask b.Mask⟩ else none
def Z3f {α : Type} (z : α) : Option α → α × Bool
 | some a => (a, true)
 | none => (z, false)
theorem Znt (a b : Tern) : Zbe a b = some (Z3f Z0h (Z3a a b)) := by
 have h : Zbe a b = bif !(Z2q (Z2a (Z6r a.Value b.Value) (Z2a a.Mask b.Mask))) then some (Z0h, false) else some (⟨wor (Z1c a).Value (Z1c b).Value, wor a.Mask b.Mask⟩, true) := rfl
 rw [h]
 unfold Z3a
 cases Z2q (Z2a (Z6r a.Value b.Value) (Z2a a.Mask b.Mask)) <;> rfl
def Z53 (g : Nat → Option Tern) : Option Cube := bif (List.range 24).all (fun i => (g i).isSome) then some (Vector.ofFn fun i => (g i.1).getD Z0h) else none
theorem Zeg {g : Nat → Option Tern} {c : Cube} (h : Z53 g = some c) (i : Nat) (hi : i < 24) : g i = some (ve c i) := by
 unfold Z53 at h
 cases ha : (List.range 24).all (fun i => (g i).isSome)
 ·rw [ha] at h; cases h
 ·rw [ha, cond_true] at h
  rw [List.all_eq_true] at ha
  have h1 := ha i (by simpa using hi)
  obtain ⟨x, hx⟩ := Option.isSome_iff_exists.1 h1
  rw [← Option.some.inj h, Zap (fun i => (g i).getD Z0h) i hi, hx]; rfl
theorem Zs2 {g : Nat → Option Tern} (h : Z53 g = none) : ∃ i, i < 24 ∧ g i = none := by
 unfold Z53 at h
 cases ha : (List.range 24).all (fun i => (g i).isSome)
 ·rw [List.all_eq_false] at ha
  obtain ⟨i, hi, h1⟩ := ha
  exact ⟨i, by simpa using hi, by simpa using h1⟩
 ·rw [ha] at h; cases h
theorem Y3x {g : Nat → Option Tern} {c : Cube} (h : ∀ i, i < 24 → g i = some (ve c i)) : Z53 g = some c := by
 cases hc : Z53 g with
 | none => obtain ⟨i, hi, h1⟩ := Zs2 hc; rw [h i hi] at h1; cases h1
 | some d =>
  congr 1
  refine Zcl fun i hi => ?_
  have := Zeg hc i hi
  rw [h i hi] at this
  exact (Option.some.inj this).symm
theorem Y02 {g : Nat → Option Tern} (i : Nat) (hi : i < 24) (h : g i = none) : Z53 g = none := by
 cases hc : Z53 g with
 | none => rfl
 | some c => have := Zeg hc i hi; rw [h] at this; cases this
theorem Zr6 (f : Int → Option (Tern × Bool)) (g : Nat → Option Tern) (hf : ∀ i : Nat, i < 24 → f (i : Int) = some (Z3f Z0h (g i))) : ∀ (m i : Nat) (b : Cube), i + m = 24 → (∀ j, j < i → g j = some (ve b j)) →
  Z43 f m i b = some (Z3f Z44 (Z53 g))
 | 0, i, b, h, hb => by
  rw [Z43, Y3x (c := b) (fun j hj => hb j (by omega))]; rfl
 | m + 1, i, b, h, hb => by
  rw [Z43, hf i (by omega), Option.bind_some]
  cases hg : g i with
  | none =>
   rw [Y02 i (by omega) hg]; rfl
  | some t =>
   show (chk 24 (i : Int)).bind _ = _
   rw [Z2p (by omega), Option.bind_some]
   refine Zr6 f g hf m (i + 1) _ (by omega) fun j hj => ?_
   rw [Zhb _ _ _ _ _ (by omega)]
   by_cases e : i = j
   ·subst e; rw [if_pos rfl, hg]; rfl
   ·rw [if_neg e]; exact hb j (by omega)
theorem Y1s (f : Int → Option (Tern × Bool)) (g : Nat → Option Tern) (hf : ∀ i : Nat, i < 24 → f (i : Int) = some (Z3f Z0h (g i))) : Za7 f = some (Z3f Z44 (Z53 g)) := by
 unfold Za7
 exact Zr6 f g hf 24 0 _ rfl fun j hj => by omega
def Z4m (a b : Cube) : Option Cube := Z53 fun i => Z3a (ve a i) (ve b i)
theorem Zgu (a b : Cube) : Z7b a b = some (Z3f Z44 (Z4m a b)) := by
 unfold Z7b
 rw [Y1s _ (fun i => Z3a (ve a i) (ve b i)) (fun i hi => by unfold Zfl; rw [Z2p hi, Option.bind_some, Option.bind_some, Z3y, Z3y, Znt]; rfl)]
 rfl
def Zbo (r c : Cube) : Option Cube := bif (List.range 24).all (fun i => (Z3a (ve r i) (ve c i)).isSome) then some (Vector.ofFn fun i => Z1c ⟨(ve c i.1).Value, Z3r (ve c i.1).Mask (ve r i.1).Mask⟩) else none
theorem Zqz (f : Int → Option Tern) (g : Nat → Tern) (hf : ∀ i : Nat, i < 24 → f (i : Int) = some (g i)) (b : Cube) : ∀ (m i : Nat), i + m = 24 → Z5i f m i (Z3x g b i) = some (Vector.ofFn (fun i => g i.1))
 | 0, i, h => by
  have : i = 24 := by omega
  subst this
  rw [Z5i, Zgi]
 | m + 1, i, h => by
  rw [Z5i, hf i (by omega), Option.bind_some, Z2p (by omega), Option.bind_some]
  show Z5i f m (i + 1) (Vector.set (Z3x g b i) i (g i) _) = _
  rw [Zie g b i (by omega), Zqz f g hf b m (i + 1) (by omega)]
theorem Y37 (f : Int → Option Tern) (g : Nat → Tern) (hf : ∀ i : Nat, i < 24 → f (i : Int) = some (g i)) : Zg5 f = some (Vector.ofFn (fun i => g i.1)) := by
 unfold Zg5
 have := Zqz f g hf (Vector.replicate 24 Z0h) 24 0 rfl
 rw [Zgr] at this
 exact this
theorem Zqn (r c : Cube) : ∀ (l : List Tern) (i : Nat), i + l.length = 24 → l = (Vector.toList r).drop i → (∀ j, j < i → (Z3a (ve r j) (ve c j)).isSome = true) → Z6z c r l i = some (Z3f Z44 (Zbo r c))
 | [], i, h1, h2, h3 => by
  have hi : i = 24 := by simpa using h1
  subst hi
  have hall : (List.range 24).all (fun i => (Z3a (ve r i) (ve c i)).isSome) = true := by
   rw [List.all_eq_true]; intro i hi; exact h3 i (by simpa using hi)
  unfold Zbo
  rw [hall, cond_true, Z6z, Y37 _ (fun i => Z1c ⟨(ve c i).Value, Z3r (ve c i).Mask (ve r i).Mask⟩) (fun i hi => by
   unfold Zei
   rw [Z2p hi, Option.bind_some, Option.bind_some, Option.bind_some, Z3y, Z3y]; rfl)]
  rfl
 | x :: l, i, h1, h2, h3 => by
  simp only [List.length_cons] at h1
  have hi : i < (Vector.toList r).length := by simp; omega
  rw [List.drop_eq_getElem_cons hi] at h2
  obtain ⟨rfl, h4⟩ := List.cons.inj h2
  have hx : (Vector.toList r)[i] = ve r i := by rw [Vector.getElem_toList, Z6e _ _ (by omega)]
  rw [Z6z, hx, Z2p (by omega), Option.bind_some, Z3y, Znt, Option.bind_some]
  cases hm : Z3a (ve r i) (ve c i) with
  | none =>
   have hall : (List.range 24).all (fun i => (Z3a (ve r i) (ve c i)).isSome) = false := by
    rw [List.all_eq_false]
    exact ⟨i, by simp; omega, by simp [hm]⟩
   unfold Zbo
   rw [hall]; rfl
  | some t =>
   exact Zqn r c l (i + 1) (by omega) h4 fun j hj => by
    by_cases e : j = i
    ·subst e; rw [hm]; rfl
    ·exact h3 j (by omega)
theorem Zxr (r c : Cube) : Zex r c = some (Z3f Z44 (Zbo r c)) := by
 unfold Zex
 exact Zqn r c (Vector.toList r) 0 (by simp) rfl fun j hj => by omega
def Zb3 (c : Cube) (o : Oxm) : Cube := if h : 0 ≤ o.Field ∧ o.Field.toNat < 24 then Vector.set c o.Field.toNat (oxT o) h.2 else c
theorem Zzr (c : Cube) (o : Oxm) (n : Nat) (hn : o.Field = (n : Int)) (h : n < 24) : Zb3 c o = Vector.set c n (oxT o) h := by
 unfold Zb3
 rw [dif_pos (by omega)]
 simp [hn]
theorem Y2p (c : Cube) (o : Oxm) (h : ¬ (0 ≤ o.Field ∧ o.Field < 24)) : Zb3 c o = c := by
 unfold Zb3
 rw [dif_neg (by omega)]
theorem Zk8 : ∀ (l : List Oxm) (i : Nat) (c : Cube), Z71 l i c = some (l.foldl Zb3 c)
 | [], i, c => rfl
 | o :: l, i, c => by
  rw [Z71, List.foldl_cons]
  unfold Z6k
  rw [Option.bind_some]
  by_cases h : 0 ≤ o.Field ∧ o.Field < 24
  ·obtain ⟨n, hn⟩ : ∃ n : Nat, o.Field = (n : Int) := ⟨o.Field.toNat, by omega⟩
   have hn24 : n < 24 := by have := h.2; omega
   have hd : (decide (o.Field ≥ 0) && decide (o.Field < 24)) = true := by simp; omega
   have hc : chk 24 o.Field = some ⟨n, hn24⟩ := by rw [hn]; exact Z2p hn24
   rw [hd, cond_true, Zop, Option.bind_some, hc, Option.bind_some, Zzr c o n hn hn24, Zk8 l (i + 1)]
  ·have hd : (decide (o.Field ≥ 0) && decide (o.Field < 24)) = false := by
    rw [Bool.and_eq_false_iff, decide_eq_false_iff_not, decide_eq_false_iff_not]; omega
   rw [hd, cond_false, Y2p c o h, Zk8 l (i + 1)]
def Zz3 (l : List Oxm) : Cube := l.foldl Zb3 Z44
def Zmc (f : Flow) : Cube := Z1n (Zz3 f.Match)
theorem Zzi (f : Flow) : Zdp f = some (Zmc f) := by
 unfold Zdp Zix Zc9
 rw [Option.bind_some, Zk8, Option.bind_some, Zrs]; rfl
def ofI (l : List Inst) (k : Int) : Option Inst := l.find? fun i => decide (i.Kind = k)
theorem Zr7 (s : List Inst) (f : Inst → Option Bool) (p : Inst → Bool) (hf : ∀ x ∈ s, f x = some (p x)) : Zbx s f = some (Z08 p s) := by
 unfold Zbx
 rw [show ((s.length : Int)).toNat = s.length by omega]
 exact Zcj p (fun i => by rw [Z7v]) (fun m i => by rw [Z7v]) hf
def Y74 : Inst := ⟨0, 0, Zy, Zy, []⟩
theorem Zdz (l : List Inst) (k : Int) (hl : ∀ i ∈ l, i.Acts.length ≤ 12) : Z7n l k = some (Z3f Y74 (ofI l k)) := by
 have hlim : lim = 4294967296 := rfl
 unfold Z7n ofI
 rw [Zr7 l (fun x => Zdt x k) (fun i => decide (i.Kind = k)) (fun _ _ => rfl), Option.bind_some]
 rcases Zls (fun i : Inst => decide (i.Kind = k)) l with ⟨h1, h2⟩ | ⟨n, h1, h2, h3, h4⟩
 ·rw [decide_eq_true h1, cond_true, h2]; rfl
 ·have := hl _ (List.getElem_mem h2)
  rw [decide_eq_false (by omega), cond_false, h1, Z4b h2, Option.bind_some, h3]
  unfold Z5v
  rw [Z2t (by simp; omega), Option.bind_some]
  rfl
theorem Zib {l : List Inst} {k : Int} {i : Inst} (h : ofI l k = some i) : i ∈ l := List.mem_of_find?_eq_some h
end Go.Proofs.YtknpgojdkobgjaaGreat.W
namespace Go.Proofs.YtknpgojdkobgjaaGreat.W
open Go Go.Wb
theorem Y7g {a : Wide} (h : Z2q a = false) : ∃ k, k < 128 ∧ wt a k = true := by
 by_cases hx : ∃ k, k < 128 ∧ wt a k = true
 ·exact hx
 ·exfalso
  have : Z2q a = true := (Zb4 a).2 fun k hk => by
   cases hq : wt a k
   ·rfl
   ·exact absurd ⟨k, hk, hq⟩ hx
  rw [this] at h; cases h
theorem Zle {a b c : Tern} (h : Z3a a b = some c) (v : Wide) : Z3i c v = true ↔ Z3i a v = true ∧ Z3i b v = true := by
 unfold Z3a at h
 cases hz : Z2q (Z2a (Z6r a.Value b.Value) (Z2a a.Mask b.Mask))
 ·rw [hz] at h; cases h
 ·rw [hz, cond_true] at h
  rw [Zb4] at hz
  obtain rfl := Option.some.inj h
  rw [Z4p, Z4p, Z4p]
  unfold Z1c
  simp only [Zef, Z4j]
  simp only [Z4j, Ze8] at hz
  constructor
  ·intro h1
   refine ⟨fun k hk hm => ?_, fun k hk hm => ?_⟩
   ·have h2 := h1 k hk
    have h3 := hz k hk
    revert h2 h3
    rw [hm]
    cases wt b.Mask k <;> cases wt a.Value k <;> cases wt b.Value k <;> cases wt v k <;> simp
   ·have h2 := h1 k hk
    have h3 := hz k hk
    revert h2 h3
    rw [hm]
    cases wt a.Mask k <;> cases wt a.Value k <;> cases wt b.Value k <;> cases wt v k <;> simp
  ·rintro ⟨ha, hb⟩ k hk hm
   have h1 := ha k hk
   have h2 := hb k hk
   revert hm h1 h2
   cases wt a.Mask k <;> cases wt b.Mask k <;> cases wt a.Value k <;> cases wt b.Value k <;> cases wt v k <;> simp
theorem Zya {a b : Tern} (h : Z3a a b = none) (v : Wide) (ha : Z3i a v = true) (hb : Z3i b v = true) : False := by
 unfold Z3a at h
 cases hz : Z2q (Z2a (Z6r a.Value b.Value) (Z2a a.Mask b.Mask))
 ·obtain ⟨k, hk, h1⟩ := Y7g hz
  have h2 := (Z4p a v).1 ha k hk
  have h3 := (Z4p b v).1 hb k hk
  simp only [Z4j, Ze8] at h1
  revert h1 h2 h3
  cases wt a.Mask k <;> cases wt b.Mask k <;> cases wt a.Value k <;> cases wt b.Value k <;> cases wt v k <;> simp
 ·rw [hz] at h; cases h
theorem Y1v {a b c : Cube} (h : Z4m a b = some c) (v : Header) : Z1i c v = true ↔ Z1i a v = true ∧ Z1i b v = true := by
 unfold Z4m at h
 rw [Z5k, Z5k, Z5k]
 constructor
 ·intro h1
  exact ⟨fun f hf => ((Zle (Zeg h f hf) _).1 (h1 f hf)).1, fun f hf => ((Zle (Zeg h f hf) _).1 (h1 f hf)).2⟩
 ·rintro ⟨ha, hb⟩ f hf
  exact (Zle (Zeg h f hf) _).2 ⟨ha f hf, hb f hf⟩
theorem Zxd {a b : Cube} (h : Z4m a b = none) (v : Header) (ha : Z1i a v = true) (hb : Z1i b v = true) : False := by
 unfold Z4m at h
 obtain ⟨f, hf, h1⟩ := Zs2 h
 exact Zya h1 (ve v f) ((Z5k _ _).1 ha f hf) ((Z5k _ _).1 hb f hf)
end Go.Proofs.YtknpgojdkobgjaaGreat.W
namespace Go.Proofs.YtknpgojdkobgjaaGreat.W
open Go Go.Wb
def Z83 (x a : Tern) : List Int := Z2y (Z3r x.Mask a.Mask) 128
theorem Y3i (a x : Tern) : Zgf a x = some (Z83 x a) := by
 unfold Zgf Z83
 rw [Zlf, Option.bind_some]
 have := Zvc (Z3r x.Mask a.Mask) 128 Z18 [] (by omega) (by unfold Z18; omega) (by rw [Zez]; simp [Z61])
 simpa using this
def Z7q (c : Cube) (f : Nat) (t : Tern) : Cube := Vector.ofFn fun k => if f = k.1 then t else ve c k.1
theorem Zpr (c : Cube) (f : Nat) (hf : f < 24) (t : Tern) : Vector.set c f t hf = Z7q c f t := Y73 c f hf t
theorem Zjc (c : Cube) (f : Nat) (t : Tern) (g : Nat) (hg : g < 24) : ve (Z7q c f t) g = if f = g then t else ve c g := Zap (fun k => if f = k then t else ve c k) g hg
def Z3z (xv : Wide) (f : Nat) : List Int → Cube → List Cube × Cube
 | [], left => ([], left)
 | i :: l, left => (Z7q left f (Z3t (ve left f) i.toNat (!wt xv i.toNat)) :: (Z3z xv f l (Z7q left f (Z3t (ve left f) i.toNat (wt xv i.toNat)))).1, (Z3z xv f l (Z7q left f (Z3t (ve left f) i.toNat (wt xv i.toNat)))).2)
def Z7e (x : Cube) : Nat → Nat → Cube → List Cube
 | 0, f, left => []
 | m + 1, f, left => (Z3z (ve x f).Value f (Z83 (ve x f) (ve left f)) left).1 ++ Z7e x m (f + 1) (Z3z (ve x f).Value f (Z83 (ve x f) (ve left f)) left).2
def Z1h (a x : Cube) : Bool := (Z4m a x).isSome
def Z3j (a x : Cube) : List Cube := bif Z1h a x then Z7e x 24 0 (Z1n a) else [Z1n a]
def Zmn (l : List Int) : Prop := ∀ i ∈ l, ∃ k : Nat, i = (k : Int) ∧ k < 128
theorem Zo7 (x a : Tern) : Zmn (Z83 x a) := fun i hi => by
 obtain ⟨k, h1, h2, _⟩ := (Zck _ _ _).1 hi
 exact ⟨k, h1, h2⟩
theorem Zq8 (sg : Type) (y : sg → Cube → Option (Lp sg)) (go : Nat → Cube → Lp sg → Option (Lp sg)) (f : Nat) (hf : f < 24) (x : Tern) : ∀ (l : List Int) (k : Nat) (left : Cube) (s : sg), Zmn l →
  Z7s sg go f x y l k left (.go s) = (yf y (Z3z x.Value f l left).1 s).bind fun r => match r with
   | .go s' => go (f + 1) (Z3z x.Value f l left).2 (.go s')
   | .out c s' => some (.out c s')
 | [], k, left, s, _ => rfl
 | i :: l, k, left, s, hl => by
  obtain ⟨b, rfl, hb⟩ := hl i (by simp)
  have ih := fun left s => Zq8 sg y go f hf x l (k + 1) left s fun j hj => hl j (by simp [hj])
  rw [Z7s, Zsp _ b hb, Option.bind_some, Z2p hf, Option.bind_some, Z3y, Zte _ b hb, Option.bind_some, Option.bind_some, Zpr]
  rw [Z3z, Int.toNat_natCast, yf]
  show (y s _).bind _ = _
  cases y s (Z7q left f (Z3t (ve left f) b (!wt x.Value b))) with
  | none => rfl
  | some r =>
   cases r with
   | out c q => rfl
   | go q =>
    simp only [Option.bind_some, Lp.isGo, Bool.not_true, cond_false]
    rw [Z3y, Zte _ b hb, Option.bind_some, Zpr, ih]
theorem Zqr (sg : Type) (y : sg → Cube → Option (Lp sg)) (x : Cube) : ∀ (l : List Tern) (f : Nat) (left : Cube) (s : sg), f + l.length = 24 → l = (Vector.toList x).drop f →
  Z6o sg y l f left (.go s) = yf y (Z7e x l.length f left) s
 | [], f, left, s, h1, h2 => rfl
 | t :: l, f, left, s, h1, h2 => by
  simp only [List.length_cons] at h1
  have hi : f < (Vector.toList x).length := by simp; omega
  rw [List.drop_eq_getElem_cons hi] at h2
  obtain ⟨rfl, h3⟩ := List.cons.inj h2
  have hx : (Vector.toList x)[f] = ve x f := by rw [Vector.getElem_toList, Z6e _ _ (by omega)]
  have ih := fun left s => Zqr sg y x l (f + 1) left s (by omega) h3
  rw [Z6o, Z2p (by omega), Option.bind_some, Z3y, hx, Y3i, Option.bind_some, List.length_cons, Z7e, Zlv]
  cases hb : Z83 (ve x f) (ve left f) with
  | nil =>
   rw [decide_eq_true (by simp), cond_true, ih]
   rfl
  | cons i bl =>
   rw [decide_eq_false (by simp; omega), cond_false, Zq8 sg y _ f (by omega) (ve x f) _ 0 left s (by rw [← hb]; exact Zo7 _ _)]
   cases yf y (Z3z (ve x f).Value f (i :: bl) left).1 s with
   | none => rfl
   | some r =>
    cases r with
    | out c q => rfl
    | go q => exact ih _ q
theorem Zvm (sg : Type) (y : sg → Cube → Option (Lp sg)) (a x : Cube) (s : sg) : Z97 sg y (.go s) a x = yf y (Z3j a x) s := by
 unfold Z97 Z3j Z1h
 rw [Zrs, Option.bind_some, Zgu, Option.bind_some]
 cases Z4m a x with
 | none =>
  show (bif (!false) then _ else _) = yf y [Z1n a] s
  rw [Bool.not_false, cond_true, yf]
  show (y s (Z1n a)).bind _ = _
  cases y s (Z1n a) with
  | none => rfl
  | some r => cases r <;> rfl
 | some z =>
  show (bif (!true) then _ else _) = yf y (Z7e x 24 0 (Z1n a)) s
  rw [Bool.not_true, cond_false]
  have := Zqr sg y x (Vector.toList x) 0 (Z1n a) s (by simp) rfl
  rw [this]; simp
theorem Znv (xv : Wide) (f : Nat) : ∀ (l : List Int) (left : Cube), (Z3z xv f l left).1.length = l.length
 | [], left => rfl
 | i :: l, left => by rw [Z3z, List.length_cons, List.length_cons, Znv xv f l]
theorem Y1h (a x : Cube) : Z1h a x = (List.range' 0 24).all fun f => (Z3a (ve a f) (ve x f)).isSome := by
 unfold Z1h Z4m Z53
 rw [List.range_eq_range']
 cases (List.range' 0 24).all fun f => (Z3a (ve a f) (ve x f)).isSome <;> rfl
end Go.Proofs.YtknpgojdkobgjaaGreat.W
namespace Go.Proofs.YtknpgojdkobgjaaGreat.W
open Go Go.Wb
def Zbg (a b : Tern) : Bool := Z2q (Z3r b.Mask a.Mask) && Z3i b a.Value
theorem Y7d (a b : Tern) : Zg2 a b = some (Zbg a b) := by
 unfold Zg2 Zbg
 rw [Zlf, Option.bind_some, Zq5, Option.bind_some, Y5o]
 cases Z2q (Z3r b.Mask a.Mask) <;> rfl
def Z55 (a b : Cube) : Bool := (List.range' 0 24).all fun f => Zbg (ve a f) (ve b f)
theorem Zu7 (a b : Cube) : ∀ (l : List Tern) (i : Nat), i + l.length = 24 → l = (Vector.toList a).drop i → Z6t b l i = some ((List.range' i l.length).all fun f => Zbg (ve a f) (ve b f))
 | [], i, h1, h2 => by rw [Z6t]; rfl
 | x :: l, i, h1, h2 => by
  simp only [List.length_cons] at h1
  have hi : i < (Vector.toList a).length := by simp; omega
  rw [List.drop_eq_getElem_cons hi] at h2
  obtain ⟨rfl, h3⟩ := List.cons.inj h2
  have hx : (Vector.toList a)[i] = ve a i := by rw [Vector.getElem_toList, Z6e _ _ (by omega)]
  rw [Z6t, Z2p (by omega), Option.bind_some, Z3y, Y7d, Option.bind_some, Zu7 a b l (i + 1) (by omega) h3, List.length_cons, List.range'_succ, List.all_cons, hx]
  cases Zbg (ve a i) (ve b i) <;> rfl
theorem Zzh (a b : Cube) : Zdj a b = some (Z55 a b) := by
 unfold Zdj Z55
 have := Zu7 a b (Vector.toList a) 0 (by simp) rfl
 rw [this]; simp
theorem Y8r {a b : Cube} (h : Z55 a b = true) : Z1h a b = true := by
 rw [Y1h]
 unfold Z55 at h
 rw [List.all_eq_true] at h ⊢
 intro f hf
 have h1 := h f hf
 unfold Zbg at h1
 rw [Bool.and_eq_true] at h1
 have h2 := (Z4p _ _).1 h1.2
 unfold Z3a
 have : Z2q (Z2a (Z6r (ve a f).Value (ve b f).Value) (Z2a (ve a f).Mask (ve b f).Mask)) = true := (Zb4 _).2 fun k hk => by
  have h3 := h2 k hk
  simp only [Z4j, Ze8]
  revert h3
  cases wt (ve b f).Mask k <;> cases wt (ve a f).Mask k <;> cases wt (ve a f).Value k <;> cases wt (ve b f).Value k <;> simp
 rw [this]; rfl
def Zcs (c : Cube) : Header := Vector.ofFn fun f => (Z1c (ve c f.1)).Value
theorem Zpx (c : Cube) (b : Header) : ∀ (l : List Tern) (i : Nat), i + l.length = 24 → l = (Vector.toList c).drop i → Z5u l i (Z3x (fun f => (Z1c (ve c f)).Value) b i) = some (Zcs c)
 | [], i, h1, h2 => by
  have : i = 24 := by simpa using h1
  subst this
  rw [Z5u, Zgi]; rfl
 | x :: l, i, h1, h2 => by
  simp only [List.length_cons] at h1
  have hi : i < (Vector.toList c).length := by simp; omega
  rw [List.drop_eq_getElem_cons hi] at h2
  obtain ⟨rfl, h3⟩ := List.cons.inj h2
  have hx : (Vector.toList c)[i] = ve c i := by rw [Vector.getElem_toList, Z6e _ _ (by omega)]
  rw [Z5u, Zhe, Option.bind_some, Z2p (by omega), Option.bind_some, hx]
  show Z5u l (i + 1) (Vector.set (Z3x (fun f => (Z1c (ve c f)).Value) b i) i ((Z1c (ve c i)).Value) _) = _
  rw [Zie (fun f => (Z1c (ve c f)).Value) b i (by omega), Zpx c b l (i + 1) (by omega) h3]
theorem Zx2 (c : Cube) : Zfd c = some (Zcs c) := by
 unfold Zfd
 have := Zpx c (Vector.replicate 24 Zy) (Vector.toList c) 0 (by simp) rfl
 rw [Zgr] at this
 exact this
def Z2x : Header := Vector.replicate 24 Zy
def Z39 (c : Cube) : List Cube → Nat → Option Nat
 | [], i => none
 | x :: l, i => bif Z1h c x then some i else Z39 c l (i + 1)
def Z2i (R : Cube → Int → Header × Bool × Int) : List Cube → Int → Header × Bool × Int
 | [], n => (Z2x, false, n)
 | p :: ps, n => bif (R p n).2.1 || decide ((R p n).2.2 < 0) then R p n else Z2i R ps (R p n).2.2
def Z2v (free : Bool) : Nat → Cube → List Cube → Int → Header × Bool × Int
 | 0, _, _, _ => (Z2x, false, -1)
 | d + 1, c, l, n => bif !free && decide (n < 1) then (Z2x, false, -1) else
   bif l.any (Z55 c) then (Z2x, false, bif free then n else n - 1) else
    match Z39 c l 0 with
    | none => (Zcs c, true, bif free then n else n - 1)
    | some i => match l[i]? with
     | none => (Z2x, false, -1)
     | some x => Z2i (fun p m => Z2v free d p (l.drop (i + 1)) m) (Z3j c x) (bif free then n else n - 1)
theorem Zm3 (c : Cube) : ∀ (l : List Cube) (k : Nat), match Z39 c l k with
  | none => ∀ x ∈ l, Z1h c x = false
  | some i => ∃ j, i = k + j ∧ ∃ h : j < l.length, Z1h c l[j] = true ∧ ∀ x ∈ l.take j, Z1h c x = false
 | [], k => by simp [Z39]
 | x :: l, k => by
  rw [Z39]
  cases hm : Z1h c x
  ·rw [cond_false]
   have ih := Zm3 c l (k + 1)
   cases hf : Z39 c l (k + 1) with
   | none =>
    rw [hf] at ih
    intro y hy
    rcases List.mem_cons.1 hy with rfl | hy
    ·exact hm
    ·exact ih y hy
   | some i =>
    rw [hf] at ih
    obtain ⟨j, h1, h2, h3, h4⟩ := ih
    refine ⟨j + 1, by omega, by simpa using h2, by simpa using h3, fun y hy => ?_⟩
    rw [List.take_succ_cons] at hy
    rcases List.mem_cons.1 hy with rfl | hy
    ·exact hm
    ·exact h4 y hy
  ·rw [cond_true]
   exact ⟨0, by omega, by simp, by simpa using hm, by simp⟩
theorem Zmz {R : Cube → Int → Header × Bool × Int} (hR : ∀ p m, (R p m).2.1 = false → (R p m).1 = Z2x) : ∀ (ps : List Cube) (n : Int), (Z2i R ps n).2.1 = false → (Z2i R ps n).1 = Z2x
 | [], n, _ => rfl
 | p :: ps, n, h => by
  rw [Z2i] at h ⊢
  cases hc : (R p n).2.1 || decide ((R p n).2.2 < 0)
  ·rw [hc, cond_false] at h
   rw [cond_false]
   exact Zmz hR ps _ h
  ·rw [hc, cond_true] at h
   rw [cond_true]
   exact hR _ _ h
theorem Zk7 (free : Bool) : ∀ (d : Nat) (c : Cube) (l : List Cube) (n : Int), (Z2v free d c l n).2.1 = false → (Z2v free d c l n).1 = Z2x
 | 0, c, l, n, _ => rfl
 | d + 1, c, l, n, h => by
  rw [Z2v] at h ⊢
  cases h1 : !free && decide (n < 1)
  ·rw [h1, cond_false] at h
   rw [cond_false]
   cases h2 : l.any (Z55 c)
   ·rw [h2, cond_false] at h
    rw [cond_false]
    cases h3 : Z39 c l 0 with
    | none => rw [h3] at h; cases h
    | some i =>
     rw [h3] at h
     simp only at h ⊢
     cases h4 : l[i]? with
     | none => rfl
     | some x =>
      rw [h4] at h
      simp only at h ⊢
      exact Zmz (fun p m => Zk7 free d p _ m) _ _ h
   ·rfl
  ·rfl
end Go.Proofs.YtknpgojdkobgjaaGreat.W
namespace Go.Proofs.YtknpgojdkobgjaaGreat.W
open Go Go.Wb
theorem Zob {α : Type} (z : α) (o : Option α) : (Z3f z o).2 = o.isSome := by cases o <;> rfl
def Z8a (c : Cube) (l : List Cube) (i : Nat) (first : Int) : Int := bif decide (first < 0) then (match Z39 c l i with | none => first | some k => (k : Int)) else first
theorem Zhh (c : Cube) : ∀ (l : List Cube) (i : Nat) (first : Int), ∃ j : Int, Z4t c l i first = some (bif l.any (Z55 c) then (true, j) else (false, Z8a c l i first))
 | [], i, first => by
  refine ⟨0, ?_⟩
  rw [Z4t]
  unfold Z8a Z39
  cases decide (first < 0) <;> rfl
 | x :: l, i, first => by
  rw [Z4t, Zgu, Option.bind_some, Zob, List.any_cons]
  show ∃ j, (bif !(Z1h c x) then _ else _) = _
  cases hm : Z1h c x
  ·have hw : Z55 c x = false := by
    cases hw : Z55 c x
    ·rfl
    ·rw [Y8r hw] at hm; cases hm
   obtain ⟨j, hj⟩ := Zhh c l (i + 1) first
   refine ⟨j, ?_⟩
   rw [Bool.not_false, cond_true, hw, Bool.false_or, hj]
   unfold Z8a
   rw [Z39, hm, cond_false]
  ·rw [Bool.not_true, cond_false, Zzh, Option.bind_some]
   cases hw : Z55 c x
   ·rw [cond_false, Bool.false_or]
    have hf : ∀ f : Int, Z8a c (x :: l) i f = bif decide (f < 0) then (i : Int) else f := fun f => by
     unfold Z8a
     rw [Z39, hm, cond_true]
    by_cases h : first < 0
    ·obtain ⟨j, hj⟩ := Zhh c l (i + 1) (i : Int)
     refine ⟨j, ?_⟩
     rw [decide_eq_true h, cond_true, hj, hf, decide_eq_true h, cond_true]
     unfold Z8a
     rw [decide_eq_false (by omega), cond_false]
    ·obtain ⟨j, hj⟩ := Zhh c l (i + 1) first
     refine ⟨j, ?_⟩
     rw [decide_eq_false h, cond_false, hj, hf, decide_eq_false h, cond_false]
     unfold Z8a
     rw [decide_eq_false h, cond_false]
   ·exact ⟨_, rfl⟩
theorem Ztk {α : Type} (l : List α) (i : Nat) (h : i ≤ l.length) : Z58 l (i : Int) = some (l.drop i) := by
 unfold Z58
 rw [decide_eq_true (by omega), Int.toNat_natCast, Nat.ble_eq_true_of_le h]; rfl
def cl (n : Int) (free : Bool) : cover_look := ⟨⟨n, free⟩⟩
def Zbb (free : Bool) (N : Int) (f : Option (Header × Bool × Bool × cover_look)) (n : Int) (r : Header × Bool × Int) : Prop :=
 ∃ s', f = some (r.1, r.2.1, decide (0 ≤ r.2.2), s') ∧ (0 ≤ r.2.2 → s' = cl r.2.2 free ∧ r.2.2 ≤ N)
theorem Zrp (free : Bool) (N : Int) (l : List Cube) (i : Nat) (hi : i < l.length) (hN : N < 9223372036854775808) (x10 : Bool × Int) (hx : x10.2 = (i : Int)) (hl : l.length < 4294967296) (R : cover_look → Cube → List Cube → Option (Header × Bool × Bool × cover_look)) (R' : Cube → Int → Header × Bool × Int)
  (hR : ∀ p n, 0 ≤ n → n ≤ N → Zbb free N (R (cl n free) p (l.drop (i + 1))) n (R' p n)) (hn : ∀ p m, (R' p m).2.1 = false → (R' p m).1 = Z2x) : ∀ (ps : List Cube) (n : Int), 0 ≤ n → n ≤ N →
  ∃ s', yf (fun (s : cover_look × Header × Bool × Bool) x => Z7r l x10 R s.1 s.2.1 s.2.2.1 s.2.2.2 x) ps (cl n free, Z2x, false, true) =
   some (bif (Z2i R' ps n).2.1 || decide ((Z2i R' ps n).2.2 < 0) then .out (.exit 1) (s', (Z2i R' ps n).1, (Z2i R' ps n).2.1, decide (0 ≤ (Z2i R' ps n).2.2)) else .go (s', Z2x, false, true)) ∧ (0 ≤ (Z2i R' ps n).2.2 → s' = cl (Z2i R' ps n).2.2 free ∧ (Z2i R' ps n).2.2 ≤ N)
 | [], n, h0, h1 => by
  refine ⟨cl n free, ?_, fun _ => ⟨rfl, h1⟩⟩
  rw [yf, Z2i, decide_eq_false (by show ¬ (n < 0); omega)]; rfl
 | p :: ps, n, h0, h1 => by
  obtain ⟨s', h2, h3⟩ := hR p n h0 h1
  have hb : Z7r l x10 R (cl n free) Z2x false true p = some (bif (R' p n).2.1 || decide ((R' p n).2.2 < 0) then .out (.exit 1) (s', (R' p n).1, (R' p n).2.1, decide (0 ≤ (R' p n).2.2)) else .go (s', (R' p n).1, (R' p n).2.1, decide (0 ≤ (R' p n).2.2))) := by
   unfold Z7r
   rw [hx, inc i (by omega), Ztk _ _ (by omega), Option.bind_some, h2, Option.bind_some]
   have : (!decide (0 ≤ (R' p n).2.2)) = decide ((R' p n).2.2 < 0) := by
    by_cases h : (R' p n).2.2 < 0
    ·rw [decide_eq_true h, decide_eq_false (by omega)]; rfl
    ·rw [decide_eq_false h, decide_eq_true (by omega)]; rfl
   show (bif ((R' p n).2.1 || !decide (0 ≤ (R' p n).2.2)) then _ else _) = _
   rw [this]
   cases (R' p n).2.1 || decide ((R' p n).2.2 < 0) <;> rfl
  rw [yf]
  show ∃ s'', (Z7r l x10 R (cl n free) Z2x false true p).bind _ = _ ∧ _
  rw [hb, Option.bind_some, Z2i]
  cases hc : (R' p n).2.1 || decide ((R' p n).2.2 < 0)
  ·rw [Bool.or_eq_false_iff, decide_eq_false_iff_not] at hc
   have h4 : 0 ≤ (R' p n).2.2 := by omega
   obtain ⟨h5, h6⟩ := h3 h4
   obtain ⟨s'', h7, h8⟩ := Zrp free N l i hi hN x10 hx hl R R' hR hn ps (R' p n).2.2 h4 h6
   refine ⟨s'', ?_, h8⟩
   rw [cond_false, cond_false, h5, hn p n hc.1, hc.1, decide_eq_true h4]
   exact h7
  ·refine ⟨s', ?_, h3⟩
   rw [cond_true, cond_true, hc]; rfl
theorem Y0g (free : Bool) (N : Int) (hN : N < 9223372036854775808) (d fuel : Nat) (c : Cube) (l : List Cube) (hl : l.length < 4294967296) (n : Int) (h0 : 0 ≤ n) (h1 : n ≤ N)
  (ih : ∀ i, i < l.length → ∀ p n, 0 ≤ n → n ≤ N → Zbb free N (Z5w fuel (cl n free) p (l.drop (i + 1))) n (Z2v free d p (l.drop (i + 1)) n)) :
  Zbb free N (Z5w (fuel + 1) (cl n free) c l) n (Z2v free (d + 1) c l n) := by
 show Zbb free N (Zdr (Z5w fuel) (cl n free) c l) n _
 unfold Zdr
 have hpay : Zfk (cl n free).purse = some (!(!free && decide (n < 1)), ⟨bif free then n else n - 1, free⟩) := by
  unfold Zfk
  cases free
  ·have e : IntKind.i64.wrap (n - 1) = n - 1 := Z3m (by omega) (by omega)
   show some (decide (IntKind.i64.wrap (n - 1) ≥ 0), (⟨IntKind.i64.wrap (n - 1), false⟩ : cover_purse)) = _
   rw [e]
   by_cases h : n < 1
   ·rw [decide_eq_true h, decide_eq_false (by omega)]; rfl
   ·rw [decide_eq_false h, decide_eq_true (by omega)]; rfl
  ·rfl
 rw [hpay, Option.bind_some, Z2v]
 cases hp : !free && decide (n < 1)
 ·have hn1 : 0 ≤ (bif free then n else n - 1) ∧ (bif free then n else n - 1) ≤ N := by
   cases free
   ·simp only [Bool.not_false, Bool.true_and, decide_eq_false_iff_not] at hp
    simp only [cond_false]; omega
   ·simp only [cond_true]; omega
  generalize (bif free then n else n - 1) = n1 at hn1 ⊢
  simp only [Bool.not_false, Bool.not_true, cond_false]
  obtain ⟨j, hj⟩ := Zhh c l 0 (-1)
  unfold Zit
  rw [hj, Option.bind_some]
  cases hw : l.any (Z55 c)
  ·simp only [cond_false]
   have hfi : Z8a c l 0 (-1) = match Z39 c l 0 with | none => -1 | some k => (k : Int) := rfl
   rw [hfi]
   have hsp := Zm3 c l 0
   cases hf : Z39 c l 0 with
   | none =>
    simp only
    rw [show decide ((-1 : Int) < 0) = true from rfl, cond_true, Zx2, Option.bind_some]
    exact ⟨cl n1 free, by rw [decide_eq_true hn1.1]; rfl, fun _ => ⟨rfl, hn1.2⟩⟩
   | some i =>
    rw [hf] at hsp
    obtain ⟨j', hj1, hj2, hj3, hj4⟩ := hsp
    have hij : i = j' := by omega
    subst hij
    simp only
    rw [decide_eq_false (by omega), cond_false, Z4b hj2, Option.bind_some, List.getElem?_eq_getElem hj2]
    unfold Zgy
    rw [Option.bind_some]
    obtain ⟨s', h2, h3⟩ := Zrp free N l i hj2 hN (false, (i : Int)) rfl hl (Z5w fuel) (fun p m => Z2v free d p (l.drop (i + 1)) m) (fun p n a b => ih i hj2 p n a b) (fun p m h => Zk7 free d p _ m h) (Z3j c l[i]) n1 hn1.1 hn1.2
    show Zbb free N ((Z97 (cover_look × Header × Bool × Bool) (fun s x => Z7r l (false, (i : Int)) (Z5w fuel) s.1 s.2.1 s.2.2.1 s.2.2.2 x) (.go (cl n1 free, Z2x, false, true)) c l[i]).bind _) n (Z2i (fun p m => Z2v free d p (l.drop (i + 1)) m) (Z3j c l[i]) n1)
    rw [Zvm, h2, Option.bind_some]
    have hnn := Zmz (R := fun p m => Z2v free d p (l.drop (i + 1)) m) (fun p m h => Zk7 free d p _ m h) (Z3j c l[i]) n1
    generalize Z2i (fun p m => Z2v free d p (l.drop (i + 1)) m) (Z3j c l[i]) n1 = r at *
    cases hc : r.2.1 || decide (r.2.2 < 0)
    ·rw [Bool.or_eq_false_iff, decide_eq_false_iff_not] at hc
     refine ⟨s', ?_, h3⟩
     rw [hnn hc.1, hc.1, decide_eq_true (show 0 ≤ r.2.2 by omega)]; rfl
    ·exact ⟨s', rfl, h3⟩
  ·refine ⟨cl n1 free, ?_, fun _ => ⟨rfl, hn1.2⟩⟩
   show some (Z2x, false, true, cl n1 free) = some (Z2x, false, decide (0 ≤ n1), cl n1 free)
   rw [decide_eq_true hn1.1]
 ·exact ⟨_, rfl, fun h => by simp at h⟩
theorem Zt5 (free : Bool) (N : Int) (hN : N < 9223372036854775808) : ∀ (d fuel : Nat) (c : Cube) (l : List Cube) (n : Int), l.length < d → d ≤ fuel → l.length < 4294967296 → 0 ≤ n → n ≤ N →
  Zbb free N (Z5w fuel (cl n free) c l) n (Z2v free d c l n)
 | 0, fuel, c, l, n, h, _, _, _, _ => by omega
 | d + 1, 0, c, l, n, _, h, _, _, _ => by omega
 | d + 1, fuel + 1, c, l, n, h1, h2, h3, h4, h5 =>
  Y0g free N hN d fuel c l h3 n h4 h5 fun i hi p m h6 h7 => Zt5 free N hN d fuel p (l.drop (i + 1)) m (by rw [List.length_drop]; omega) (by omega) (by rw [List.length_drop]; omega) h6 h7
end Go.Proofs.YtknpgojdkobgjaaGreat.W
namespace Go.Proofs.YtknpgojdkobgjaaGreat.W
open Go Go.Wb
end Go.Proofs.YtknpgojdkobgjaaGreat.W
namespace Go.Proofs.YtknpgojdkobgjaaGreat.W
open Go Go.Wb
theorem Zlz (a : Wide) : ∀ n, (Z2y a n).Nodup
 | 0 => List.nodup_nil
 | n + 1 => by
  rw [Z2y]
  cases wt a n
  ·exact Zlz a n
  ·rw [cond_true, List.nodup_cons]
   refine ⟨fun h => ?_, Zlz a n⟩
   obtain ⟨k, h1, h2, _⟩ := (Zck _ _ _).1 h
   omega
theorem Y1f (t : Tern) (i : Nat) (hi : i < 128) (on : Bool) (k : Nat) (hk : k < 128) : wt (Z3t t i on).Mask k = (wt t.Mask k || decide (i = k)) := by
 unfold Z3t Z1c
 cases on <;> simp only [cond_true, cond_false, Zef, Zc2 i k hi hk]
theorem Y1o {c : Cube} {f : Nat} (hf : f < 24) {t : Tern} {h : Header} : Z1i (Z7q c f t) h = true ↔ (∀ g, g < 24 → g ≠ f → Z3i (ve c g) (ve h g) = true) ∧ Z3i t (ve h f) = true := by
 rw [Z5k]
 constructor
 ·intro hh
  refine ⟨fun g hg hne => ?_, ?_⟩
  ·have := hh g hg
   rwa [Zjc _ _ _ _ hg, if_neg (fun e => hne e.symm)] at this
  ·have := hh f hf
   rwa [Zjc _ _ _ _ hf, if_pos rfl] at this
 ·rintro ⟨h1, h2⟩ g hg
  rw [Zjc _ _ _ _ hg]
  by_cases e : f = g
  ·subst e; rw [if_pos rfl]; exact h2
  ·rw [if_neg e]; exact h1 g hg fun e' => e e'.symm
theorem Zka {c : Cube} {f b : Nat} (hf : f < 24) (hb : b < 128) {on : Bool} {h : Header} (hm : wt (ve c f).Mask b = false) (hh : Z1i (Z7q c f (Z3t (ve c f) b on)) h = true) : Z1i c h = true ∧ wt (ve h f) b = on := by
 obtain ⟨h1, h2⟩ := (Y1o hf).1 hh
 obtain ⟨h3, h4⟩ := (Zyq _ _ hb _ _).1 h2
 refine ⟨(Z5k _ _).2 fun g hg => ?_, h4⟩
 by_cases e : g = f
 ·subst e
  exact (Z4p _ _).2 fun k hk hmk => h3 k hk (fun e => by rw [e, hm] at hmk; cases hmk) hmk
 ·exact h1 g hg e
theorem Zov (xv : Wide) (f : Nat) (hf : f < 24) (h : Header) : ∀ (l : List Int) (left : Cube), Zmn l → l.Nodup → (∀ i ∈ l, wt (ve left f).Mask i.toNat = false) →
  (∀ p ∈ (Z3z xv f l left).1, Z1i p h = true → Z1i left h = true ∧ ∃ i ∈ l, wt (ve h f) i.toNat = !wt xv i.toNat) ∧ (Z1i (Z3z xv f l left).2 h = true → Z1i left h = true)
 | [], left, _, _, _ => ⟨fun p hp => (List.not_mem_nil hp).elim, fun hh => hh⟩
 | i :: l, left, hl, hn, hm => by
  obtain ⟨b, rfl, hb⟩ := hl i (by simp)
  rw [List.nodup_cons] at hn
  have hmb := hm _ (List.mem_cons_self ..)
  rw [Int.toNat_natCast] at hmb
  have ih := Zov xv f hf h l (Z7q left f (Z3t (ve left f) b (wt xv b))) (fun j hj => hl j (by simp [hj])) hn.2 (fun j hj => by
   obtain ⟨k, rfl, hk⟩ := hl j (by simp [hj])
   have h1 := hm _ (List.mem_cons_of_mem _ hj)
   rw [Int.toNat_natCast] at h1 ⊢
   rw [Zjc _ _ _ _ hf, if_pos rfl, Y1f _ _ hb _ _ hk, h1, Bool.false_or, decide_eq_false_iff_not]
   intro e
   subst e
   exact hn.1 hj)
  rw [Z3z, Int.toNat_natCast]
  refine ⟨fun p hp hh => ?_, fun hh => (Zka hf hb hmb (ih.2 hh)).1⟩
  rcases List.mem_cons.1 hp with rfl | hp
  ·obtain ⟨h1, h2⟩ := Zka hf hb hmb hh
   exact ⟨h1, (b : Int), by simp, by rw [Int.toNat_natCast]; exact h2⟩
  ·obtain ⟨h1, i, hi, h2⟩ := ih.1 p hp hh
   exact ⟨(Zka hf hb hmb h1).1, i, by simp [hi], h2⟩
theorem Zom (x : Cube) (h : Header) : ∀ (m f : Nat) (left : Cube), f + m = 24 → ∀ p ∈ Z7e x m f left, Z1i p h = true → Z1i left h = true ∧ Z1i x h = false
 | 0, f, left, _, p, hp => by cases hp
 | m + 1, f, left, hm, p, hp => by
  intro hh
  have hf : f < 24 := by omega
  have hs := Zov (ve x f).Value f hf h (Z83 (ve x f) (ve left f)) left (Zo7 _ _) (Zlz _ _) (fun i hi => by
   obtain ⟨k, rfl, hk, hw⟩ := (Zck _ _ _).1 hi
   rw [Ziz _ _ _ hk] at hw
   rw [Int.toNat_natCast]
   cases hq : wt (ve left f).Mask k
   ·rfl
   ·rw [hq] at hw; simp at hw)
  rw [Z7e] at hp
  rcases List.mem_append.1 hp with hp | hp
  ·obtain ⟨h1, i, hi, h2⟩ := hs.1 p hp hh
   obtain ⟨k, rfl, hk, hw⟩ := (Zck _ _ _).1 hi
   rw [Ziz _ _ _ hk, Bool.and_eq_true] at hw
   rw [Int.toNat_natCast] at h2
   refine ⟨h1, ?_⟩
   cases hx : Z1i x h
   ·rfl
   ·have := (Z4p _ _).1 ((Z5k _ _).1 hx f hf) k hk hw.1
    rw [h2] at this
    cases hv : wt (ve x f).Value k <;> rw [hv] at this <;> simp at this
  ·obtain ⟨h1, h2⟩ := Zom x h m (f + 1) _ (by omega) p hp hh
   exact ⟨hs.2 h1, h2⟩
theorem Zye {a x : Cube} (hm : Z1h a x = true) {h : Header} {p : Cube} (hp : p ∈ Z3j a x) (hh : Z1i p h = true) : Z1i a h = true ∧ Z1i x h = false := by
 unfold Z3j at hp
 rw [hm, cond_true] at hp
 have := Zom x h 24 0 (Z1n a) rfl p hp hh
 rwa [Y89] at this
theorem Y7r (c : Cube) : Z1i c (Zcs c) = true := (Z5k _ _).2 fun f hf => (Z4p _ _).2 fun k hk hm => by
 unfold Zcs
 rw [Zap (fun f => (Z1c (ve c f)).Value) f hf]
 unfold Z1c
 rw [Z4j, hm, Bool.and_true]
theorem Y0j {a x : Cube} (hm : Z1h a x = false) {h : Header} (h1 : Z1i a h = true) : Z1i x h = false := by
 cases hx : Z1i x h
 ·rfl
 ·unfold Z1h at hm
  cases hc : Z4m a x with
  | none => exact (Zxd hc h h1 hx).elim
  | some z => rw [hc] at hm; cases hm
def Z90 (c : Cube) (l : List Cube) (most : Int) : Header × Bool × Int := Z2v (decide (most ≥ 1099511627776)) (l.length + 1) c l (Z19 most 0)
def Z2k (c : Cube) (l : List Cube) (most : Int) : Header × Bool × Int := bif decide ((Z90 c l most).2.2 < 0) then (Z2x, false, 5) else ((Z90 c l most).1, (Z90 c l most).2.1, 0)
theorem Y22 (m : Int) : 0 ≤ Z19 m 0 ∧ Z19 m 0 ≤ max m 0 := by
 unfold Z19
 by_cases h : (0 : Int) > m
 ·rw [decide_eq_true h, cond_true]; omega
 ·rw [decide_eq_false h, cond_false]; omega
theorem Y2h (c : Cube) (l : List Cube) (most : Int) (hm : most ≤ 9223372036854775807) (hl : l.length ≤ 1000000) : Zfx c l most = some (Z2k c l most) := by
 have hi := Y22 most
 unfold Zfx Zni Z2k
 obtain ⟨s', h1, h2⟩ := Zt5 (decide (most ≥ 1099511627776)) (Z19 most 0) (by omega) (l.length + 1) Z18 c l (Z19 most 0) (by omega) (by unfold Z18; omega) (by omega) hi.1 (by omega)
 show (Z5w Z18 (cl (Z19 most 0) (decide (most ≥ 1099511627776))) c l).bind _ = _
 rw [h1, Option.bind_some]
 show (bif !(decide (0 ≤ (Z90 c l most).2.2)) then _ else _) = _
 by_cases h : (Z90 c l most).2.2 < 0
 ·rw [decide_eq_true h, decide_eq_false (by omega)]; rfl
 ·rw [decide_eq_false h, decide_eq_true (by omega)]; rfl
theorem Zu9 : ∀ (l : List Rule) (pre : List Cube), Z6y l pre.length (pre ++ List.replicate l.length (Vector.replicate 24 Z0h)) = some (pre ++ l.map (·.Cube))
 | [], pre => by simp [Z6y]
 | r :: l, pre => by
  have hlt : pre.length < (pre ++ List.replicate (r :: l).length (Vector.replicate 24 Z0h)).length := by simp
  rw [Z6y, Z4b hlt, Option.bind_some, Int.toNat_natCast]
  have e : List.set (pre ++ List.replicate (r :: l).length (Vector.replicate 24 Z0h)) pre.length r.Cube = (pre ++ [r.Cube]) ++ List.replicate l.length (Vector.replicate 24 Z0h) := by
   rw [List.length_cons, List.replicate_succ, List.set_append_right _ _ (Nat.le_refl _)]; simp
  have ih := Zu9 l (pre ++ [r.Cube])
  rw [e]
  rw [List.length_append, List.length_singleton] at ih
  rw [ih]; simp
theorem Y7z (n : Nat) (h : n ≤ lim) : omk (n : Int) = some () := by
 unfold omk
 rw [decide_eq_false (by omega), decide_eq_false (by omega)]; rfl
theorem Zw3 (l : List Rule) (h : l.length ≤ 1000000) : Zfy l = some (l.map (·.Cube)) := by
 have hlim : lim = 4294967296 := rfl
 unfold Zfy
 rw [Y7z _ (by omega), Option.bind_some, Int.toNat_natCast]
 exact Zu9 l []
theorem Y2e {α : Type} (l : List α) (i : Nat) (h : i ≤ l.length) : Z3v l (i : Int) = some (l.take i) := by
 unfold Z3v
 simp [Nat.ble_eq_true_of_le h]
end Go.Proofs.YtknpgojdkobgjaaGreat.W
namespace Go.Proofs.YtknpgojdkobgjaaGreat.W
open Go Go.Wb
section ins
def Zga (lt : Int → Int → Bool) (cmp : Int → Int → Option Int) (A : List Int) : Prop := ∀ x ∈ A, ∀ y ∈ A, ∃ c, cmp x y = some c ∧ decide (c < 0) = lt x y
variable {lt : Int → Int → Bool} {cmp : Int → Int → Option Int}
theorem Zrn {A : List Int} (hc : Zga lt cmp A) (go : List Int → Int → Option (List Int)) (i : Int) (P : List Int) (x : Int) (hx : x ∈ A) : ∀ (R S : List Int) (m : Nat), (∀ y ∈ R, y ∈ A) → R.length < m → (P ++ R.reverse ++ x :: S).length ≤ big →
  Z78 (P.length : Int) cmp go i m (P ++ R.reverse ++ x :: S) ((P.length + R.length : Nat) : Int) = go (P ++ (Z1a lt x R).reverse ++ S) (IntKind.i64.wrap (i + 1))
 | [], S, m, _, h, _ => by
  obtain ⟨m, rfl⟩ : ∃ k, m = k + 1 := ⟨m - 1, by simp at h; omega⟩
  rw [Z78, decide_eq_false (by simp)]
  simp [opt, Z1a]
 | y :: R, S, m, hR, h, hl => by
  have hbig : big = 1000000 := rfl
  simp only [List.length_cons, List.length_append, List.length_reverse] at h hl
  obtain ⟨m, rfl⟩ : ∃ k, m = k + 1 := ⟨m - 1, by omega⟩
  have e0 : P ++ (y :: R).reverse ++ x :: S = (P ++ R.reverse) ++ y :: (x :: S) := by simp
  have ej : IntKind.i64.wrap (((P.length + (y :: R).length : Nat) : Int) - 1) = ((P.length + R.length : Nat) : Int) := by rw [wr (by simp only [List.length_cons]; omega) (by simp only [List.length_cons]; omega)]; simp only [List.length_cons]; omega
  have g1 : ∀ a b : Int, lget ((P ++ R.reverse) ++ a :: (b :: S)) ((P.length + (y :: R).length : Nat) : Int) = some b := fun a b => by
   have : (P ++ R.reverse) ++ a :: (b :: S) = (P ++ R.reverse ++ [a]) ++ b :: S := by simp
   rw [this]; exact Z3q _ _ _ _ (by simp)
  have g0 : ∀ a b : Int, lget ((P ++ R.reverse) ++ a :: (b :: S)) ((P.length + R.length : Nat) : Int) = some a := fun a b => Z3q _ _ _ _ (by simp)
  have s1 : ∀ a b c : Int, List.set ((P ++ R.reverse) ++ a :: (b :: S)) (((P.length + (y :: R).length : Nat) : Int)).toNat c = (P ++ R.reverse) ++ a :: (c :: S) := fun a b c => by
   have : (P ++ R.reverse) ++ a :: (b :: S) = (P ++ R.reverse ++ [a]) ++ b :: S := by simp
   rw [this, Int.toNat_natCast, Z75 _ _ _ _ _ (by simp)]; simp
  have s0 : ∀ a b c : Int, List.set ((P ++ R.reverse) ++ a :: (b :: S)) (((P.length + R.length : Nat) : Int)).toNat c = (P ++ R.reverse) ++ c :: (b :: S) := fun a b c => by
   rw [Int.toNat_natCast, Z75 _ _ _ _ _ (by simp)]
  obtain ⟨c, hc1, hc2⟩ := hc x hx y (hR y (by simp))
  rw [e0, Z78, decide_eq_true (by simp only [List.length_cons]; omega), Z7x, g1, Option.bind_some, Z7x, ej, g0, Option.bind_some, Z7x, hc1, Option.bind_some, Bool.true_and, hc2, Z1a]
  cases lt x y
  ·rw [cond_false, cond_false]
   simp
  ·rw [cond_true, cond_true, Option.bind_some, Option.bind_some, Option.bind_some, s1, g0, Option.bind_some, s0, Zrn hc go i P x hx R (y :: S) m (fun z hz => hR z (by simp [hz])) (by omega) (by simp only [List.length_append, List.length_cons, List.length_reverse]; omega)]
   simp
theorem Zkk (x : Int) (R : List Int) : (Z1a lt x R).length = R.length + 1 := by
 induction R with
 | nil => rfl
 | cons y R ih => rw [Z1a]; cases lt x y <;> simp [ih]
theorem Zul {A : List Int} (hc : Zga lt cmp A) (P Q : List Int) : ∀ (T R : List Int) (m : Nat), (∀ y ∈ T, y ∈ A) → (∀ y ∈ R, y ∈ A) → T.length < m → (P ++ R.reverse ++ T ++ Q).length ≤ big →
  Z6g ((P.length + R.length + T.length : Nat) : Int) (P.length : Int) cmp m (P ++ R.reverse ++ T ++ Q) ((P.length + R.length : Nat) : Int) = some (P ++ (T.foldl (fun R x => Z1a lt x R) R).reverse ++ Q)
 | [], R, m, _, _, h, _ => by
  obtain ⟨m, rfl⟩ : ∃ k, m = k + 1 := ⟨m - 1, by simp at h; omega⟩
  rw [Z6g, decide_eq_false (by simp), cond_false]
  simp
 | x :: T, R, m, hT, hR, h, h2 => by
  have hbig : big = 1000000 := rfl
  simp only [List.length_cons, List.length_append, List.length_reverse] at h h2
  obtain ⟨m, rfl⟩ : ∃ k, m = k + 1 := ⟨m - 1, by omega⟩
  have e : IntKind.i64.wrap (((P.length + R.length : Nat) : Int) + 1) = ((P.length + (Z1a lt x R).length : Nat) : Int) := by rw [Zkk, wr (by omega) (by omega)]; omega
  have hn : P.length + R.length + (x :: T).length = P.length + (Z1a lt x R).length + T.length := by rw [Zkk, List.length_cons]; omega
  have e0 : P ++ R.reverse ++ x :: T ++ Q = P ++ R.reverse ++ x :: (T ++ Q) := by simp
  rw [Z6g, decide_eq_true (by simp only [List.length_cons]; omega), cond_true, e0, Zrn hc _ _ P x (hT x (by simp)) R (T ++ Q) Z18 hR (by unfold Z18; omega) (by simp only [List.length_append, List.length_cons, List.length_reverse]; omega), e, hn,
   ← List.append_assoc, Zul hc P Q T (Z1a lt x R) m (fun y hy => hT y (by simp [hy])) (fun y hy => by rcases Zl0.1 hy with e | e; rw [e]; exact hT x (by simp); exact hR y e) (by omega) (by simp only [List.length_append, List.length_reverse, Zkk]; omega), List.foldl_cons]
theorem Y5k (P L Q : List Int) (hc : Zga lt cmp L) (a b : Int) (ha : a = (P.length : Int)) (hb : b = (P.length : Int) + (L.length : Int)) (h : (P ++ L ++ Q).length ≤ big) : Zcp (P ++ L ++ Q) a b cmp = some (P ++ srt lt L ++ Q) := by
 subst ha hb
 have hbig : big = 1000000 := rfl
 have h' := h
 simp only [List.length_append] at h'
 unfold Zcp srt
 cases L with
 | nil =>
  rw [wr (by omega) (by omega)]
  obtain ⟨m, hm⟩ : ∃ m, (((P.length : Int) + (([] : List Int).length : Int)) - ((P.length : Int) + 1)).toNat + 1 = m + 1 := ⟨_, rfl⟩
  rw [hm, Z6g, decide_eq_false (by simp only [List.length_nil]; omega), cond_false]
  rfl
 | cons x L =>
  simp only [List.length_cons] at h'
  have := Zul hc P Q L [x] ((((P.length : Int) + ((x :: L).length : Int)) - ((P.length : Int) + 1)).toNat + 1) (fun y hy => by simp [hy]) (fun y hy => by simp at hy; simp [hy]) (by simp only [List.length_cons]; omega) (by simp only [List.length_append, List.length_reverse, List.length_cons, List.length_nil]; omega)
  have e1 : ((P.length + [x].length + L.length : Nat) : Int) = (P.length : Int) + ((x :: L).length : Int) := by simp; omega
  have e2 : ((P.length + [x].length : Nat) : Int) = (P.length : Int) + 1 := by simp
  have e3 : P ++ [x].reverse ++ L ++ Q = P ++ x :: L ++ Q := by simp
  rw [e1, e2, e3] at this
  rw [wr (by omega) (by omega), this]
  rfl
theorem Y6n (L : List Int) (hc : Zga lt cmp L) (h : L.length < 20) : Ze0 L cmp = some (srt lt L) := by
 unfold Ze0 Zje
 obtain ⟨m, hm⟩ : ∃ m, (((L.length : Int) : Int) - 20).toNat + 2 = m + 1 := ⟨_, rfl⟩
 have := Y5k [] L [] hc 0 (L.length : Int) rfl (by simp) (by simp only [List.nil_append, List.append_nil]; show _ ≤ 1000000; omega)
 simp only [List.nil_append, List.append_nil] at this
 rw [hm, Zat, decide_eq_false (by omega), cond_false, this, Option.bind_some]
 obtain ⟨k, hk⟩ : ∃ m, (((L.length : Int) : Int) - 20).toNat + 1 = m + 1 := ⟨_, rfl⟩
 rw [hk, Z9o, decide_eq_false (by omega), cond_false]
 rfl
end ins
end Go.Proofs.YtknpgojdkobgjaaGreat.W
namespace Go.Proofs.YtknpgojdkobgjaaGreat.W
open Go Go.Wb
def Zi4 (t : List Flow) (i : Int) : Int := match t[i.toNat]? with
 | some f => f.Priority
 | none => 0
def ltP (t : List Flow) (i j : Int) : Bool := decide (Zi4 t i > Zi4 t j)
theorem Zpl (t : List Flow) : Swo (ltP t) where
 asym := fun a b h => by
  unfold ltP at *
  rw [decide_eq_true_eq] at h
  rw [decide_eq_false_iff_not]; omega
 neg := fun a b c h k => by
  unfold ltP at *
  rw [decide_eq_false_iff_not] at *; omega
def places (n : Nat) : List Int := (List.range n).map fun (i : Nat) => (i : Int)
theorem Zl5 {n : Nat} {i : Int} : i ∈ places n ↔ ∃ k : Nat, k < n ∧ i = (k : Int) := by
 unfold places
 simp only [List.mem_map, List.mem_range]
 exact ⟨fun ⟨k, h1, h2⟩ => ⟨k, h1, h2.symm⟩, fun ⟨k, h1, h2⟩ => ⟨k, h1, h2.symm⟩⟩
def Z8d (t : List Flow) : List Int := srt (ltP t) (places t.length)
theorem Y2d {t : List Flow} {i : Int} : i ∈ Z8d t ↔ ∃ k : Nat, k < t.length ∧ i = (k : Int) := by
 unfold Z8d
 rw [Zts (Zpl t), Zl5]
theorem Zxe (t : List Flow) : (Z8d t).length = t.length := by
 unfold Z8d
 rw [Z22 (Zpl t)]; simp [places]
theorem Zru {t : List Flow} {k : Nat} (h : k < t.length) : Zi4 t (k : Int) = t[k].Priority := by
 unfold Zi4
 rw [Int.toNat_natCast, List.getElem?_eq_getElem h]
theorem Y4k (t : List Flow) : Zga (ltP t) (fun x z => Zb7 x z t) (places t.length) := fun x hx y hy => by
 obtain ⟨i, hi, rfl⟩ := Zl5.1 hx
 obtain ⟨j, hj, rfl⟩ := Zl5.1 hy
 unfold Zb7 ltP
 dsimp only
 rw [Z4b hi, Option.bind_some, Z4b hj, Option.bind_some, Zru hi, Zru hj, Option.bind_some, Option.bind_some]
 by_cases h1 : t[i].Priority > t[j].Priority
 ·rw [decide_eq_true h1, cond_true]; exact ⟨_, rfl, rfl⟩
 ·rw [decide_eq_false h1, cond_false]
  by_cases h2 : t[i].Priority < t[j].Priority
  ·rw [decide_eq_true h2, cond_true]; exact ⟨_, rfl, rfl⟩
  ·rw [decide_eq_false h2, cond_false]; exact ⟨_, rfl, rfl⟩
theorem Zra (t : List Flow) (ht : t.length < 20) : ∀ (m i : Nat), i + m = t.length → Z6j t m i (places i) = some (Z8d t)
 | 0, i, h => by
  have : i = t.length := by omega
  subst this
  rw [Z6j, Y6n _ (Y4k t) (by simpa [places] using ht)]; rfl
 | m + 1, i, h => by
  have hlim : lim = 4294967296 := rfl
  have e : places i ++ [(i : Int)] = places (i + 1) := by unfold places; rw [List.range_succ, List.map_append]; rfl
  rw [Z6j, Z2t (by simp [places]; omega), Option.bind_some, e]
  exact Zra t ht m (i + 1) (by omega)
theorem Y6w (n : Nat) (h : n ≤ lim) : omk (n : Int) = some () := by
 unfold omk
 rw [decide_eq_false (by omega), decide_eq_false (by omega)]; rfl
theorem Y5x (t : List Flow) (ht : t.length < 20) : Zew t = some (Z8d t) := by
 have hlim : lim = 4294967296 := rfl
 unfold Zew
 rw [Y6w _ (by omega), Option.bind_some, show ((t.length : Int)).toNat = t.length by omega]
 exact Zra t ht t.length 0 (by omega)
def Zmw (w : walk_way) (l : List Action) : walk_way := { w with atoms := w.atoms ++ (doT l (Z1n w.got)).1, got := (doT l (Z1n w.got)).2 }
theorem Y87 {α : Type} (l : List α) : Z3v l (l.length : Int) = some l := by
 unfold Z3v
 simp [Nat.ble_eq_true_of_le (Nat.le_refl _)]
theorem Zku (l : List Action) : Zl9 l ≤ l.length := List.countP_le_length
theorem Zpt (w : walk_way) (l : List Action) (h : w.atoms.length + l.length ≤ 100000) : Z9z w l = some (Zmw w l) := by
 have hlim : lim = 4294967296 := rfl
 have h1 := Zku l
 unfold Z9z
 rw [Y38 l w.got (by omega), Option.bind_some, Y87, Option.bind_some, Z2t (by rw [Zi7]; omega), Option.bind_some]; rfl
def Za2 (w : walk_way) (f : Flow) : Option walk_way := (Zbo w.got (Zmc f)).bind fun b => (Z4m b w.cube).map fun c => { w with cube := c }
theorem Zza (w : walk_way) (f : Flow) : ∃ z, Zfb w f = some (Z3f z (Za2 w f)) := by
 unfold Zfb Za2
 rw [Zzi, Option.bind_some, Zxr, Option.bind_some]
 cases Zbo w.got (Zmc f) with
 | none => exact ⟨_, rfl⟩
 | some b =>
  show ∃ z, (Z7b b w.cube).bind _ = some (Z3f z ((Z4m b w.cube).map _))
  rw [Zgu, Option.bind_some]
  cases Z4m b w.cube with
  | none => exact ⟨_, rfl⟩
  | some c => exact ⟨w, rfl⟩
def Z50 (w : walk_way) (l : List Inst) : walk_way := match ofI l 4 with
 | some i => Zmw w i.Acts
 | none => w
def Z59 (w : walk_way) (l : List Inst) : walk_way := match ofI l 5 with
 | some _ => { w with set := [] }
 | none => w
def Z56 (w : walk_way) (l : List Inst) : walk_way := match ofI l 3 with
 | some i => { w with set := i.Acts.foldl wr1 w.set }
 | none => w
def Z4o (w : walk_way) (l : List Inst) : walk_way := match ofI l 2 with
 | some i => { w with got := Za1 w.got 1 i.Value i.Mask }
 | none => w
def wdo (w : walk_way) (l : List Inst) : walk_way := Z4o (Z56 (Z59 (Z50 w l) l) l) l
def Z3b (at_ : Nat) (l : List Inst) : Option Nat := match ofI l 1 with
 | some i => if i.Table > (at_ : Int) ∧ i.Table < 4 then some i.Table.toNat else none
 | none => none
theorem Y4c {at_ : Nat} {l : List Inst} {i : Inst} (h : ofI l 1 = some i) (hc : i.Table > (at_ : Int) ∧ i.Table < 4) : Z3b at_ l = some i.Table.toNat := by
 unfold Z3b; rw [h]; exact if_pos hc
theorem Zvf {at_ : Nat} {l : List Inst} {i : Inst} (h : ofI l 1 = some i) (hc : ¬ (i.Table > (at_ : Int) ∧ i.Table < 4)) : Z3b at_ l = none := by
 unfold Z3b; rw [h]; exact if_neg hc
theorem Y2f {at_ : Nat} {l : List Inst} (h : ofI l 1 = none) : Z3b at_ l = none := by
 unfold Z3b; rw [h]
theorem Zmh {at_ n : Nat} {l : List Inst} (h : Z3b at_ l = some n) : at_ < n ∧ n < 4 := by
 unfold Z3b at h
 split at h
 ·split at h
  ·cases h; omega
  ·cases h
 ·cases h
def Z5o (w : walk_way) : walk_way := Zmw w (Zba w.set)
def Z77 (l : List Inst) : Prop := ∀ i ∈ l, i.Acts.length ≤ 12
theorem Zt3 (w : walk_way) {l : List Inst} (hl : Z77 l) : (Z50 w l).atoms.length ≤ w.atoms.length + 12 ∧ (Z50 w l).set = w.set ∧ (Z50 w l).cube = w.cube := by
 unfold Z50
 split
 ·rename_i i hi
  have h1 := hl i (Zib hi)
  have h2 := Zku i.Acts
  refine ⟨?_, rfl, rfl⟩
  show (w.atoms ++ _).length ≤ _
  rw [List.length_append, Zi7]; omega
 ·exact ⟨by omega, rfl, rfl⟩
theorem Zk1 (w : walk_way) (l : List Inst) : (Z59 w l).atoms = w.atoms ∧ (Z59 w l).set.length ≤ w.set.length ∧ (Z59 w l).cube = w.cube := by
 unfold Z59
 split
 ·exact ⟨rfl, by simp, rfl⟩
 ·exact ⟨rfl, by omega, rfl⟩
theorem Zkh (w : walk_way) {l : List Inst} (hl : Z77 l) : (Z56 w l).atoms = w.atoms ∧ (Z56 w l).set.length ≤ w.set.length + 12 ∧ (Z56 w l).cube = w.cube := by
 unfold Z56
 split
 ·rename_i i hi
  have h1 := hl i (Zib hi)
  have h2 := Zoq i.Acts w.set
  exact ⟨rfl, by show (i.Acts.foldl wr1 w.set).length ≤ _; omega, rfl⟩
 ·exact ⟨rfl, by omega, rfl⟩
theorem Zsa (w : walk_way) (l : List Inst) : (Z4o w l).atoms = w.atoms ∧ (Z4o w l).set = w.set ∧ (Z4o w l).cube = w.cube := by
 unfold Z4o
 split
 ·exact ⟨rfl, rfl, rfl⟩
 ·exact ⟨rfl, rfl, rfl⟩
theorem Zne (w : walk_way) {l : List Inst} (hl : Z77 l) : (wdo w l).atoms.length ≤ w.atoms.length + 12 ∧ (wdo w l).set.length ≤ w.set.length + 12 ∧ (wdo w l).cube = w.cube := by
 have h1 := Zt3 w hl
 have h2 := Zk1 (Z50 w l) l
 have h3 := Zkh (Z59 (Z50 w l) l) hl
 have h4 := Zsa (Z56 (Z59 (Z50 w l) l) l) l
 unfold wdo
 refine ⟨?_, ?_, ?_⟩
 ·rw [h4.1, h3.1, h2.1]; exact h1.1
 ·rw [h4.2.1]
  have := h3.2.1
  have := h2.2.1
  rw [h1.2.1] at this
  omega
 ·rw [h4.2.2, h3.2.2, h2.2.2, h1.2.2]
theorem Zvu (w : walk_way) (at_ : Nat) (l : List Inst) (hl : Z77 l) (ha : w.atoms.length ≤ 1000) (hs : w.set.length ≤ 1000) :
  Zg3 w (at_ : Int) l = some (match Z3b at_ l with | some n => (wdo w l, (n : Int), true) | none => (Z5o (wdo w l), 0, false)) := by
 have hlim : lim = 4294967296 := rfl
 have b1 := Zt3 w hl
 have b2 := Zk1 (Z50 w l) l
 have b3 := Zkh (Z59 (Z50 w l) l) hl
 have b4 := Zne w hl
 have j4 : ∀ b : walk_way, b.atoms.length ≤ 2000 → b.set.length ≤ 2000 → Zb6 l (at_ : Int) b = some (match Z3b at_ l with | some n => (b, (n : Int), true) | none => (Z5o b, 0, false)) := fun b h1 h2 => by
  unfold Zb6
  rw [Zdz l 1 hl, Option.bind_some]
  have hend : ((Zcu b.set).bind fun x12 => (Z9z b x12).bind fun x13 => some (x13, (0 : Int), false)) = some (Z5o b, 0, false) := by
   have := Zst b.set
   rw [Y13 _ (by omega), Option.bind_some, Zpt b _ (by omega)]; rfl
  cases hi : ofI l 1 with
  | none => rw [Y2f hi]; exact hend
  | some i =>
   show (bif ((true && decide (i.Table > (at_ : Int))) && decide (i.Table < 4)) then some (b, i.Table, true) else _) = _
   rw [Bool.true_and]
   by_cases hc : i.Table > (at_ : Int) ∧ i.Table < 4
   ·have hd : (decide (i.Table > (at_ : Int)) && decide (i.Table < 4)) = true := by
     rw [Bool.and_eq_true, decide_eq_true_eq, decide_eq_true_eq]; exact hc
    have : ((i.Table.toNat : Nat) : Int) = i.Table := by omega
    rw [Y4c hi hc, hd, cond_true]
    simp [this]
   ·have hd : (decide (i.Table > (at_ : Int)) && decide (i.Table < 4)) = false := by
     rw [Bool.and_eq_false_iff, decide_eq_false_iff_not, decide_eq_false_iff_not]; omega
    rw [Zvf hi hc, hd, cond_false]
    exact hend
 have j3 : ∀ b : walk_way, b.atoms.length ≤ 2000 → b.set.length ≤ 2000 → Zb8 l (at_ : Int) b = some (match Z3b at_ l with | some n => (Z4o b l, (n : Int), true) | none => (Z5o (Z4o b l), 0, false)) := fun b h1 h2 => by
  have b5 := Zsa b l
  unfold Zb8
  rw [Zdz l 2 hl, Option.bind_some, ← j4 (Z4o b l) (by rw [b5.1]; omega) (by rw [b5.2.1]; omega)]
  unfold Z4o
  cases hi : ofI l 2 with
  | none => rfl
  | some i =>
   simp only [Z3f, cond_true]
   rw [Zgg]; rfl
 have j2 : ∀ b : walk_way, b.atoms.length ≤ 1500 → b.set.length ≤ 1500 → Zbj l (at_ : Int) b = some (match Z3b at_ l with | some n => (Z4o (Z56 b l) l, (n : Int), true) | none => (Z5o (Z4o (Z56 b l) l), 0, false)) := fun b h1 h2 => by
  have b5 := Zkh b hl
  unfold Zbj
  rw [Zdz l 3 hl, Option.bind_some, ← j3 (Z56 b l) (by rw [b5.1]; omega) (by have := b5.2.1; omega)]
  unfold Z56
  cases hi : ofI l 3 with
  | none => rfl
  | some i =>
   have := hl i (Zib hi)
   simp only [Z3f, cond_true]
   rw [Zwh _ _ (by omega)]; rfl
 have j1 : ∀ b : walk_way, b.atoms.length ≤ 1500 → b.set.length ≤ 1500 → Zbp l (at_ : Int) b = some (match Z3b at_ l with | some n => (Z4o (Z56 (Z59 b l) l) l, (n : Int), true) | none => (Z5o (Z4o (Z56 (Z59 b l) l) l), 0, false)) := fun b h1 h2 => by
  have b5 := Zk1 b l
  unfold Zbp
  rw [Zdz l 5 hl, Option.bind_some, ← j2 (Z59 b l) (by rw [b5.1]; omega) (by have := b5.2.1; omega)]
  unfold Z59
  cases hi : ofI l 5 with
  | none => rfl
  | some i => rfl
 unfold Zg3
 rw [Zdz l 4 hl, Option.bind_some]
 have := j1 (Z50 w l) (by omega) (by rw [b1.2.1]; omega)
 unfold wdo
 rw [← this]
 unfold Z50
 cases hi : ofI l 4 with
 | none => rfl
 | some i =>
  have := hl i (Zib hi)
  simp only [Z3f, cond_true]
  rw [Zpt w _ (by omega)]; rfl
def Z0w (s : Switch) (i : Nat) : List Flow := if h : i < 4 then Vector.get s.Tables ⟨i, h⟩ else []
theorem Zm1 (s : Switch) (i : Nat) (h : i < 4) : Vector.get s.Tables ⟨i, h⟩ = Z0w s i := by unfold Z0w; rw [dif_pos h]
def Z5n (w : walk_way) : Rule := ⟨w.cube, w.atoms⟩
def Z8e (R : Nat → walk_way → List Rule) (t : List Flow) (at_ : Nat) (w : walk_way) (i : Int) : List Rule := match t[i.toNat]? with
 | none => []
 | some f => match Za2 w f with
  | none => []
  | some x => match Z3b at_ f.Insts with
   | some n => R n (wdo x f.Insts)
   | none => [Z5n (Z5o (wdo x f.Insts))]
def Z4c (s : Switch) : Nat → Nat → walk_way → List Rule
 | 0, _, w => [Z5n w]
 | d + 1, at_, w => (Z8d (Z0w s at_)).flatMap (Z8e (Z4c s d) (Z0w s at_) at_ w) ++ [Z5n w]
def Zre (t : List Flow) : Prop := t.length < 20 ∧ ∀ f ∈ t, Z77 f.Insts
def Zaf (s : Switch) : Prop := ∀ i, i < 4 → Zre (Z0w s i)
def Zbl (at_ : Nat) (w : walk_way) : Prop := w.atoms.length ≤ 12 * at_ ∧ w.set.length ≤ 12 * at_
theorem Zo1 (w : walk_way) (h : w.atoms.length ≤ 100000) : Zci w = some (Z5n w) := by
 have hlim : lim = 4294967296 := rfl
 unfold Zci Z9q
 rw [Z2t (by simp; omega)]; rfl
theorem Zsj {w x : walk_way} {f : Flow} (h : Za2 w f = some x) : x.atoms = w.atoms ∧ x.set = w.set := by
 unfold Za2 at h
 obtain ⟨b, h1, h2⟩ := Option.bind_eq_some_iff.1 h
 obtain ⟨c, h3, h4⟩ := Option.map_eq_some_iff.1 h2
 subst h4
 exact ⟨rfl, rfl⟩
theorem Ztv (w : walk_way) : (Z5o w).atoms.length ≤ w.atoms.length + w.set.length := by
 have h1 := Zst w.set
 have h2 := Zku (Zba w.set)
 show (w.atoms ++ _).length ≤ _
 rw [List.length_append, Zi7]; omega
def goP {σ : Type} (r : Lp σ) : Bool × Lp σ := (r.isGo, r)
theorem Zsz (sg : Type) (y : sg → Rule → Option (Lp sg)) (s : Switch) (at_ : Nat) (ha : at_ < 4) (hs : Zre (Z0w s at_)) (w : walk_way) (hw : Zbl at_ w) (R : Lp sg → Switch → Int → walk_way → Option (Bool × Lp sg)) (Rm : Nat → walk_way → List Rule)
  (hR : ∀ (n : Nat) (x : walk_way) (z : sg), at_ < n → n < 4 → Zbl n x → R (.go z) s (n : Int) x = (yf y (Rm n x) z).map goP) :
  ∀ (l : List Int) (i : Nat) (z : sg), (∀ j ∈ l, ∃ k : Nat, k < (Z0w s at_).length ∧ j = (k : Int)) → Z4k sg w y (at_ : Int) s R l i (.go z) = (yf y (l.flatMap (Z8e Rm (Z0w s at_) at_ w) ++ [Z5n w]) z).map goP
 | [], i, z, _ => by
  rw [Z4k, Zo1 w (by have := hw.1; omega), Option.bind_some]
  show (y z (Z5n w)).bind _ = _
  rw [List.flatMap_nil, List.nil_append, yf]
  cases y z (Z5n w) with
  | none => rfl
  | some r => cases r <;> rfl
 | j :: l, i, z, hl => by
  obtain ⟨k, hk, rfl⟩ := hl j (by simp)
  have ih := fun z => Zsz sg y s at_ ha hs w hw R Rm hR l (i + 1) z fun j hj => hl j (by simp [hj])
  have tail : ∀ (L : List Rule), ((yf y L z).map goP).bind (fun b24 => Zej sg (Z4k sg w y (at_ : Int) s R l) i b24.2 b24.1) = (yf y (L ++ (l.flatMap (Z8e Rm (Z0w s at_) at_ w) ++ [Z5n w])) z).map goP := fun L => by
   rw [Zlv]
   cases yf y L z with
   | none => rfl
   | some r =>
    cases r with
    | out c q => rfl
    | go q => exact ih q
  rw [Z4k, Z2p ha, Option.bind_some, Zm1, Z4b hk, Option.bind_some, List.flatMap_cons, List.append_assoc]
  have hf := hs.2 _ (List.getElem_mem hk)
  have hrule : Z8e Rm (Z0w s at_) at_ w (k : Int) = match Za2 w (Z0w s at_)[k] with
    | none => []
    | some x => match Z3b at_ (Z0w s at_)[k].Insts with
     | some n => Rm n (wdo x (Z0w s at_)[k].Insts)
     | none => [Z5n (Z5o (wdo x (Z0w s at_)[k].Insts))] := by
   unfold Z8e
   rw [Int.toNat_natCast, List.getElem?_eq_getElem hk]
  obtain ⟨zz, hz⟩ := Zza w (Z0w s at_)[k]
  rw [hrule, hz, Option.bind_some]
  cases hm : Za2 w (Z0w s at_)[k] with
  | none => exact ih z
  | some x =>
   have hx := Zsj hm
   have hwx : Zbl at_ x := by unfold Zbl; rw [hx.1, hx.2]; exact hw
   have hd := Zne x hf
   simp only [Z3f, Bool.not_true, cond_false]
   rw [Zvu x at_ _ hf (by have := hwx.1; omega) (by have := hwx.2; omega), Option.bind_some]
   cases hn : Z3b at_ (Z0w s at_)[k].Insts with
   | some n =>
    have hnb := Zmh hn
    simp only [cond_true]
    rw [hR n _ z hnb.1 hnb.2 ⟨by have := hwx.1; have := hd.1; omega, by have := hwx.2; have := hd.2.1; omega⟩]
    exact tail _
   | none =>
    simp only [cond_false]
    have he := Ztv (wdo x (Z0w s at_)[k].Insts)
    rw [Zo1 _ (by have := hwx.1; have := hwx.2; have := hd.1; have := hd.2.1; omega), Option.bind_some, ← tail]
    show (y z (Z5n _)).bind _ = _
    rw [yf]
    cases y z (Z5n (Z5o (wdo x (Z0w s at_)[k].Insts))) with
    | none => rfl
    | some r => cases r <;> rfl
theorem Zp8 (sg : Type) (y : sg → Rule → Option (Lp sg)) (s : Switch) (hs : Zaf s) : ∀ (d f at_ : Nat) (w : walk_way) (z : sg), 4 ≤ at_ + d → at_ < 4 → d ≤ f → Zbl at_ w →
  Z9t sg y f (.go z) s (at_ : Int) w = (yf y (Z4c s d at_ w) z).map goP
 | 0, f, at_, w, z, h0, h1, _, _ => by omega
 | d + 1, 0, at_, w, z, _, _, h2, _ => by omega
 | d + 1, f + 1, at_, w, z, h1, ha, h2, hw => by
  have hl := hs at_ ha
  show Zfa sg y (Z9t sg y f) (.go z) s (at_ : Int) w = _
  unfold Zfa
  rw [Z2p ha, Option.bind_some, Zm1, Y5x _ hl.1, Option.bind_some, Z4c]
  exact Zsz sg y s at_ ha hl w hw _ (Z4c s d) (fun n x q h3 h4 h5 => Zp8 sg y s hs d f n x q (by omega) h4 (by omega) h5) _ 0 z fun j hj => Y2d.1 hj
def Z5l : walk_way := ⟨Z44, Z44, [], []⟩
def Z0p (s : Switch) : List Rule := Z4c s 4 0 Z5l
theorem Y6h (sg : Type) (y : sg → Rule → Option (Lp sg)) (s : Switch) (hs : Zaf s) (z : sg) : Zao sg y (.go z) s = yf y (Z0p s) z := by
 unfold Zao Zc9 Zbc Znh
 rw [Option.bind_some, Option.bind_some]
 have := Zp8 sg y s hs 4 Z18 0 Z5l z (by omega) (by omega) (by unfold Z18; omega) ⟨by simp [Z5l], by simp [Z5l]⟩
 show (Z9t sg y Z18 (.go z) s ((0 : Nat) : Int) Z5l).bind _ = _
 rw [this]
 show _ = yf y (Z4c s 4 0 Z5l) z
 cases yf y (Z4c s 4 0 Z5l) z <;> rfl
def Z3w (s : Switch) : Nat → Nat → Nat
 | 0, _ => 1
 | d + 1, at_ => ((Z0w s at_).length + 1) * Z3w s d (at_ + 1)
theorem Zpj (s : Switch) : ∀ (d at_ : Nat), 1 ≤ Z3w s d at_
 | 0, _ => Nat.le_refl _
 | d + 1, at_ => Nat.le_trans (Zpj s d (at_ + 1)) (Nat.le_mul_of_pos_left _ (by omega))
theorem Zpy (s : Switch) : ∀ (d at_ n : Nat), at_ + d = 4 → at_ ≤ n → n ≤ 4 → Z3w s (4 - n) n ≤ Z3w s d at_
 | 0, at_, n, h1, h2, h3 => by
  have : n = 4 := by omega
  subst this
  exact Nat.le_refl _
 | d + 1, at_, n, h1, h2, h3 => by
  by_cases e : n = at_
  ·subst e
   have : 4 - n = d + 1 := by omega
   rw [this]; exact Nat.le_refl _
  ·rw [Z3w]
   exact Nat.le_trans (Zpy s d (at_ + 1) n (by omega) (by omega) h3) (Nat.le_mul_of_pos_left _ (by omega))
theorem Zu2 {α β : Type} (f : α → List β) (k : Nat) : ∀ l : List α, (∀ x ∈ l, (f x).length ≤ k) → (l.flatMap f).length ≤ l.length * k
 | [], _ => by simp
 | x :: l, h => by
  rw [List.flatMap_cons, List.length_append, List.length_cons, Nat.add_mul, Nat.one_mul]
  have h1 := h x (by simp)
  have h2 := Zu2 f k l fun y hy => h y (by simp [hy])
  omega
theorem Zoi (s : Switch) : ∀ (d at_ : Nat) (w : walk_way), 4 ≤ at_ + d → at_ < 4 → (Z4c s d at_ w).length ≤ Z3w s (4 - at_) at_
 | 0, at_, w, h, h' => by omega
 | d + 1, at_, w, h, h' => by
  have e : 4 - at_ = (4 - (at_ + 1)) + 1 := by omega
  rw [Z4c, List.length_append, List.length_singleton, e, Z3w, Nat.add_mul, Nat.one_mul]
  have h1 := Zpj s (4 - (at_ + 1)) (at_ + 1)
  have h2 := Zu2 (Z8e (Z4c s d) (Z0w s at_) at_ w) (Z3w s (4 - (at_ + 1)) (at_ + 1)) (Z8d (Z0w s at_)) fun i hi => by
   unfold Z8e
   split
   ·simp
   ·split
    ·simp
    ·split
     ·rename_i n hn
      have hb := Zmh hn
      refine Nat.le_trans (Zoi s d n _ (by omega) hb.2) ?_
      exact Zpy s (4 - (at_ + 1)) (at_ + 1) n (by omega) (by omega) (by omega)
     ·simpa using h1
  rw [Zxe] at h2
  omega
theorem Zl3 (s : Switch) : (Z0p s).length ≤ Z3w s 4 0 := Zoi s 4 0 Z5l (by omega) (by omega)
theorem Y26 (s : Switch) (hs : Zaf s) (h : Z3w s 4 0 ≤ lim) : Zah s = some (Z0p s) := by
 unfold Zah Zhd Zhq Zil
 rw [Option.bind_some, Zy6 (Z0p s) _ (fun y z => Y6h _ y s hs z) (Nat.le_trans (Zl3 s) h)]
 rfl
theorem Y91 (s : Switch) : ∃ l, Z0p s = l ++ [⟨Z44, []⟩] := ⟨_, rfl⟩
end Go.Proofs.YtknpgojdkobgjaaGreat.W
namespace Go.Proofs.YtknpgojdkobgjaaGreat.W
open Go Go.Wb
def Zes (l : List Inst) : Bool := decide ((l.length : Int) ≤ 8) && !(l.any fun i => !decide ((i.Acts.length : Int) ≤ 12))
theorem Y5a (s : List Inst) (f : Inst → Option Bool) (p : Inst → Bool) (hf : ∀ x ∈ s, f x = some (p x)) : Zdl s f = some (s.any p) := by
 unfold Zdl; rw [Zr7 s f p hf, Option.bind_some, Zcw]
theorem Y43 (l : List Inst) : Zdn l = some (Zes l) := by
 unfold Zdn Zes
 rw [Y5a l Zht (fun i => !decide ((i.Acts.length : Int) ≤ 12)) (fun x _ => rfl)]
 cases decide ((l.length : Int) ≤ 8) <;> rfl
def Zc4 (f : Flow) : Bool := decide ((f.Match.length : Int) ≤ 30) && Zes f.Insts
theorem Zw6 (f : Flow) : Zf4 f = some (Zc4 f) := by
 unfold Zf4 Zc4
 rw [Y43]
 cases decide ((f.Match.length : Int) ≤ 30) <;> rfl
theorem Y2r (s : List Flow) (f : Flow → Option Bool) (p : Flow → Bool) (hf : ∀ x ∈ s, f x = some (p x)) : Zfs s f = some (Z08 p s) := by
 unfold Zfs
 rw [show ((s.length : Int)).toNat = s.length by omega]
 exact Zcj p (fun i => by rw [Z7d]) (fun m i => by rw [Z7d]) hf
theorem Y7m (s : List Flow) (f : Flow → Option Bool) (p : Flow → Bool) (hf : ∀ x ∈ s, f x = some (p x)) : Zf6 s f = some (s.any p) := by
 unfold Zf6; rw [Y2r s f p hf, Option.bind_some, Zcw]
def Z9h (t : List Flow) (many : Int) : Bool := decide ((t.length : Int) ≤ many) && !(t.any fun f => !Zc4 f)
theorem Y76 (t : List Flow) (many : Int) : Zem t many = some (Z9h t many) := by
 unfold Zem Z9h
 rw [Y7m t Ze3 (fun f => !Zc4 f) (fun f _ => by unfold Ze3; rw [Zw6]; rfl)]
 cases decide ((t.length : Int) ≤ many) <;> rfl
def Zar (s : Switch) (many : Int) : Bool := (Vector.toList s.Tables).all (fun t => Z9h t many) && Zcf s.Groups 9 3
theorem Ztm (s : Switch) (many : Int) : ∀ (l : List (List Flow)) (i : Nat), Z60 s many l i = some (l.all (fun t => Z9h t many) && Zcf s.Groups 9 3)
 | [], i => by rw [Z60, Zyk]; rfl
 | t :: l, i => by
  rw [Z60, Y76, Option.bind_some, Ztm s many l (i + 1), List.all_cons]
  cases Z9h t many <;> rfl
theorem Y50 (s : Switch) (many : Int) : Zhm s many = some (Zar s many) := Ztm s many _ 0
theorem Zly (s : Switch) (i : Nat) (h : i < 4) : Z0w s i = (Vector.toList s.Tables)[i]'(by simp; exact h) := by
 rw [← Zm1 s i h, Vector.getElem_toList]; rfl
theorem Y5w (s : Switch) (i : Nat) (h : i < 4) : Z0w s i ∈ Vector.toList s.Tables := by
 rw [Zly s i h]; exact List.getElem_mem _
theorem Y5s {l : List Inst} (h : Zes l = true) : l.length ≤ 8 ∧ Z77 l := by
 unfold Zes at h
 simp only [Bool.and_eq_true, decide_eq_true_eq, Bool.not_eq_true', List.any_eq_false] at h
 refine ⟨by omega, fun i hi => ?_⟩
 have h1 : decide ((i.Acts.length : Int) ≤ 12) = true := by simpa using h.2 i hi
 rw [decide_eq_true_eq] at h1
 omega
theorem Y2v {f : Flow} (h : Zc4 f = true) : f.Match.length ≤ 30 ∧ f.Insts.length ≤ 8 ∧ Z77 f.Insts := by
 unfold Zc4 at h
 rw [Bool.and_eq_true, decide_eq_true_eq] at h
 exact ⟨by omega, Y5s h.2⟩
theorem Y3t {t : List Flow} {many : Nat} (h : Z9h t (many : Int) = true) : t.length ≤ many ∧ ∀ f ∈ t, f.Match.length ≤ 30 ∧ f.Insts.length ≤ 8 ∧ Z77 f.Insts := by
 unfold Z9h at h
 simp only [Bool.and_eq_true, decide_eq_true_eq, Bool.not_eq_true', List.any_eq_false] at h
 exact ⟨by omega, fun f hf => Y2v (by simpa using h.2 f hf)⟩
theorem Zcy {s : Switch} {many : Nat} (h : Zar s (many : Int) = true) : (∀ i, i < 4 → (Z0w s i).length ≤ many ∧ ∀ f ∈ Z0w s i, f.Match.length ≤ 30 ∧ f.Insts.length ≤ 8 ∧ Z77 f.Insts) ∧ Z87 s.Groups := by
 unfold Zar at h
 rw [Bool.and_eq_true, List.all_eq_true] at h
 exact ⟨fun i hi => Y3t (h.1 _ (Y5w s i hi)), Y15 h.2⟩
theorem Y40 {s : Switch} {many : Nat} (h : Zar s (many : Int) = true) (hm : many < 20) : Zaf s := fun i hi => ⟨by have := ((Zcy h).1 i hi).1; omega, fun f hf => (((Zcy h).1 i hi).2 f hf).2.2⟩
theorem Zxg (s : Switch) (m : Nat) (h : ∀ i, i < 4 → (Z0w s i).length ≤ m) : Z3w s 4 0 ≤ (m + 1) * ((m + 1) * ((m + 1) * ((m + 1) * 1))) := by
 show ((Z0w s 0).length + 1) * (((Z0w s 1).length + 1) * (((Z0w s 2).length + 1) * (((Z0w s 3).length + 1) * 1))) ≤ _
 have h0 := h 0 (by omega)
 have h1 := h 1 (by omega)
 have h2 := h 2 (by omega)
 have h3 := h 3 (by omega)
 exact Nat.mul_le_mul (by omega) (Nat.mul_le_mul (by omega) (Nat.mul_le_mul (by omega) (Nat.mul_le_mul (by omega) (Nat.le_refl _))))
end Go.Proofs.YtknpgojdkobgjaaGreat.W
namespace Go.Proofs.YtknpgojdkobgjaaGreat.W
open Go Go.Wb
end Go.Proofs.YtknpgojdkobgjaaGreat.W
namespace Go.Proofs.YtknpgojdkobgjaaGreat.W
open Go Go.Wb
end Go.Proofs.YtknpgojdkobgjaaGreat.W
namespace Go.Proofs.YtknpgojdkobgjaaGreat.W
open Go Go.Wb
end Go.Proofs.YtknpgojdkobgjaaGreat.W
namespace Go.Proofs.YtknpgojdkobgjaaGreat.W
open Go Go.Wb
theorem Zny (s : Switch) (hs : Zaf s) : ∀ (d at_ : Nat) (w : walk_way), at_ < 4 → Zbl at_ w → ∀ r ∈ Z4c s d at_ w, r.Atoms.length ≤ 1000
 | 0, at_, w, h4, hw, r, hr => by
  rw [Z4c, List.mem_singleton] at hr
  rw [hr]
  have := hw.1
  show w.atoms.length ≤ 1000
  omega
 | d + 1, at_, w, h4, hw, r, hr => by
  have h0 := hw.1
  have h1 := hw.2
  rw [Z4c] at hr
  rcases List.mem_append.1 hr with hr | hr
  ·obtain ⟨i, hi, hr⟩ := List.mem_flatMap.1 hr
   unfold Z8e at hr
   split at hr
   ·cases hr
   ·rename_i f hf
    have hfi := (hs at_ h4).2 f (List.mem_of_getElem? hf)
    split at hr
    ·cases hr
    ·rename_i x hx
     have hx := Zsj hx
     have hd := Zne x hfi
     rw [hx.1, hx.2] at hd
     split at hr
     ·rename_i n hn
      have hb := Zmh hn
      exact Zny s hs d _ _ hb.2 ⟨by omega, by omega⟩ r hr
     ·rw [List.mem_singleton] at hr
      rw [hr]
      have := Ztv (wdo x f.Insts)
      show (Z5o (wdo x f.Insts)).atoms.length ≤ 1000
      omega
  ·rw [List.mem_singleton] at hr
   rw [hr]
   show w.atoms.length ≤ 1000
   omega
theorem Y5f (s : Switch) (hs : Zaf s) : ∀ r ∈ Z0p s, r.Atoms.length ≤ 1000 := Zny s hs 4 0 Z5l (by omega) ⟨by simp [Z5l], by simp [Z5l]⟩
theorem Zwl {s : Switch} {many : Nat} (h : Zar s (many : Int) = true) : ∀ i, i < 4 → ∀ f ∈ Z0w s i, f.Insts.length ≤ 100000 ∧ f.Match.length ≤ 100000 := fun i hi f hf => by
 have := ((Zcy h).1 i hi).2 f hf
 omega
end Go.Proofs.YtknpgojdkobgjaaGreat.W
namespace Go.Proofs.YtknpgojdkobgjaaGreat.W
open Go Go.Wb
def nb (t : Tern) : Nat := (Z61 t.Mask).length
def Z76 (x : Cube) : Nat → Nat → Nat
 | 0, _ => 0
 | m + 1, f => nb (ve x f) + Z76 x m (f + 1)
def Z4v (x : Cube) : Nat := Z76 x 24 0
theorem Zsd (t : Tern) : nb t ≤ 128 := by
 unfold nb Z61
 exact Nat.le_trans (List.length_filter_le ..) (by simp)
theorem Zpw (x : Cube) : ∀ (m f : Nat), Z76 x m f ≤ 128 * m
 | 0, _ => Nat.le_refl _
 | m + 1, f => by
  have h1 := Zpw x m (f + 1)
  have h2 := Zsd (ve x f)
  rw [Z76]; omega
theorem Y4n (x : Cube) : Z4v x ≤ 3072 := Zpw x 24 0
theorem Zrt (x : Cube) : ∀ (l : List Tern) (f : Nat) (n : Nat), f + l.length = 24 → l = (Vector.toList x).drop f → n ≤ 128 * f → Z5m l f (n : Int) = some ((n + Z76 x l.length f : Nat) : Int)
 | [], f, n, h1, h2, h3 => by simp [Z5m, Z76]
 | t :: l, f, n, h1, h2, h3 => by
  simp only [List.length_cons] at h1
  have hf : f < (Vector.toList x).length := by simp; omega
  rw [List.drop_eq_getElem_cons hf] at h2
  obtain ⟨e1, e2⟩ := List.cons.inj h2
  have e3 : ve x f = t := by
   rw [e1]
   unfold ve
   rw [dif_pos (by omega)]; simp
  have hb := Zsd t
  rw [Z5m, Zqw, Option.bind_some]
  show Z5m l (f + 1) (IntKind.i64.wrap ((n : Int) + (nb t : Int))) = _
  rw [Z3m (by omega) (by omega), show (n : Int) + (nb t : Int) = ((n + nb t : Nat) : Int) by omega, Zrt x l (f + 1) (n + nb t) (by omega) e2 (by omega), List.length_cons, Z76, e3]
  congr 2; omega
theorem Y2l (x : Cube) : Zdi x = some (Z4v x : Int) := by
 unfold Zdi
 have := Zrt x (Vector.toList x) 0 0 (by simp) rfl (by omega)
 rw [show (Vector.toList x).length = 24 by simp, Nat.zero_add] at this
 exact this
theorem Y6b (a b : Wide) (h : ∀ i, wt a i = true → wt b i = true) (n : Nat) : (Z2y a n).length ≤ (Z2y b n).length := by
 rw [Zez, Zez, ← List.countP_eq_length_filter, ← List.countP_eq_length_filter]
 exact List.countP_mono_left fun i _ => h i
theorem Zzc {a b : Wide} {i : Nat} (h : wt (Z3r a b) i = true) : wt a i = true := by
 unfold wt Z3r at *
 simp only at h
 cases hb : Nat.blt i 64 <;> rw [hb] at h <;> simp at h ⊢ <;> exact h.1
theorem Zrc (x : Cube) : ∀ (m f : Nat) (left : Cube), (Z7e x m f left).length ≤ Z76 x m f
 | 0, f, left => Nat.le_refl _
 | m + 1, f, left => by
  have h1 := Zrc x m (f + 1) (Z3z (ve x f).Value f (Z83 (ve x f) (ve left f)) left).2
  have h2 : (Z83 (ve x f) (ve left f)).length ≤ nb (ve x f) := by
   have := Y6b (Z3r (ve x f).Mask (ve left f).Mask) (ve x f).Mask (fun i h => Zzc h) 128
   rw [Zez (ve x f).Mask] at this
   exact this
  rw [Z7e, List.length_append, Znv, Z76]
  omega
theorem Y77 {a x : Cube} (h : Z1h a x = true) : (Z3j a x).length ≤ Z4v x := by
 unfold Z3j
 rw [h, cond_true]
 exact Zrc x 24 0 (Z1n a)
def U : Int := 1099511627776
def Z3n : List Cube → Nat
 | [] => 1
 | x :: l => max (Z4v x) 1 * Z3n l
theorem Zdy : ∀ l, 1 ≤ Z3n l
 | [] => Nat.le_refl _
 | x :: l => by
  rw [Z3n]
  exact Nat.le_trans (Zdy l) (Nat.le_mul_of_pos_left _ (by omega))
theorem Zlx : ∀ {l m : List Cube}, List.Sublist l m → Z3n l ≤ Z3n m
 | _, _, .slnil => Nat.le_refl _
 | _, _, .cons x h => Nat.le_trans (Zlx h) (by rw [Z3n]; exact Nat.le_mul_of_pos_left _ (by omega))
 | _, _, .cons_cons x h => by rw [Z3n, Z3n]; exact Nat.mul_le_mul_left _ (Zlx h)
def Z9m (l : List Cube) : Nat := (l.length + 1) * Z3n l
theorem Zoy {l m : List Cube} (h : List.Sublist l m) : Z9m l ≤ Z9m m := Nat.mul_le_mul (Nat.succ_le_succ h.length_le) (Zlx h)
theorem Zki (l : List Cube) : 1 ≤ Z9m l := Nat.le_trans (Zdy l) (Nat.le_mul_of_pos_left _ (by omega))
def Z1y (c : Cube) (l : List Cube) : List Cube := l.filter (Z1h c)
def Z29 (c : Cube) (l : List Cube) : Nat := Z9m (Z1y c l)
theorem Zui {a b : Cube} : Z1h a b = true ↔ ∃ h, Z1i a h = true ∧ Z1i b h = true := by
 constructor
 ·intro h
  unfold Z1h at h
  cases hc : Z4m a b with
  | none => rw [hc] at h; cases h
  | some z => exact ⟨Zcs z, (Y1v hc _).1 (Y7r z)⟩
 ·rintro ⟨h, h1, h2⟩
  cases hm : Z1h a b
  ·rw [Y0j hm h1] at h2; cases h2
  ·rfl
theorem Zva {c x p : Cube} (hm : Z1h c x = true) (hp : p ∈ Z3j c x) (l : List Cube) : Z29 p l ≤ Z29 c l := by
 refine Zoy ?_
 unfold Z1y
 have : l.filter (Z1h p) = (l.filter (Z1h c)).filter (Z1h p) := by
  rw [List.filter_filter]
  refine List.filter_congr fun y _ => ?_
  cases hy : Z1h p y
  ·rfl
  ·obtain ⟨h, h1, h2⟩ := Zui.1 hy
   rw [Zui.2 ⟨h, (Zye hm hp h1).1, h2⟩]; rfl
 rw [this]
 exact List.filter_sublist
theorem Zuw {R : Cube → Int → Header × Bool × Int} (B : Int) (hB : 0 ≤ B) : ∀ (ps : List Cube) (n : Int), (∀ p ∈ ps, ∀ m, B ≤ m → m - B ≤ (R p m).2.2) → (ps.length : Int) * B ≤ n → n - (ps.length : Int) * B ≤ (Z2i R ps n).2.2
 | [], n, _, h => by simp [Z2i]
 | p :: ps, n, hR, h => by
  have e : ((p :: ps).length : Int) * B = (ps.length : Int) * B + B := by
   rw [List.length_cons, Int.natCast_add, Int.add_mul]; simp
  have h0 : 0 ≤ (ps.length : Int) * B := Int.mul_nonneg (by omega) hB
  rw [e] at h ⊢
  have h1 := hR p (by simp) n (by omega)
  rw [Z2i]
  cases hc : (R p n).2.1 || decide ((R p n).2.2 < 0)
  ·rw [cond_false]
   have h2 := Zuw B hB ps (R p n).2.2 (fun q hq => hR q (by simp [hq])) (by omega)
   omega
  ·rw [cond_true]; omega
theorem Zvn {c : Cube} {l : List Cube} {i : Nat} (h : Z39 c l 0 = some i) : ∃ hi : i < l.length, Z1h c l[i] = true ∧ Z1y c l = l[i] :: Z1y c (l.drop (i + 1)) := by
 have hs := Zm3 c l 0
 rw [h] at hs
 obtain ⟨j, h1, h2, h3, h4⟩ := hs
 have : i = j := by omega
 subst this
 refine ⟨h2, h3, ?_⟩
 have e : l = l.take i ++ l[i] :: l.drop (i + 1) := by
  rw [← List.drop_eq_getElem_cons h2, List.take_append_drop]
 have e0 : (l.take i).filter (Z1h c) = [] := List.filter_eq_nil_iff.2 fun x hx => by rw [h4 x hx]; simp
 have : Z1y c (l.take i ++ l[i] :: l.drop (i + 1)) = l[i] :: Z1y c (l.drop (i + 1)) := by
  unfold Z1y
  rw [List.filter_append, e0, List.nil_append, List.filter_cons, if_pos h3]
 rw [← e] at this
 exact this
theorem Zoz : ∀ (d : Nat) (c : Cube) (l : List Cube) (n : Int), l.length < d → (Z29 c l : Int) ≤ n → n - (Z29 c l : Int) ≤ (Z2v false d c l n).2.2
 | 0, c, l, n, h, _ => by omega
 | d + 1, c, l, n, hd, h => by
  have hp := Zki (Z1y c l)
  have hb : Z29 c l = Z9m (Z1y c l) := rfl
  rw [Z2v, decide_eq_false (show ¬ n < 1 by omega), Bool.and_false, cond_false]
  cases h2 : l.any (Z55 c)
  ·rw [cond_false]
   cases h3 : Z39 c l 0 with
   | none => show n - _ ≤ (cond false n (n - 1)); rw [cond_false]; omega
   | some i =>
    obtain ⟨hi, hm, he⟩ := Zvn h3
    have e2 : Z29 c l = ((Z1y c (l.drop (i + 1))).length + 2) * (max (Z4v l[i]) 1 * Z3n (Z1y c (l.drop (i + 1)))) := by
     rw [hb, he]; rfl
    have hs := Y77 hm
    have hP := Zdy (Z1y c (l.drop (i + 1)))
    simp only [List.getElem?_eq_getElem hi, cond_false]
    have h4 : (Z3j c l[i]).length * Z29 c (l.drop (i + 1)) + 1 ≤ Z29 c l := by
     rw [e2]
     show _ * (((Z1y c (l.drop (i + 1))).length + 1) * Z3n (Z1y c (l.drop (i + 1)))) + 1 ≤ _
     generalize Z3n (Z1y c (l.drop (i + 1))) = P at *
     generalize (Z1y c (l.drop (i + 1))).length = k at *
     generalize (Z3j c l[i]).length = a at *
     generalize hz : max (Z4v l[i]) 1 = z at *
     have h5 : a * ((k + 1) * P) ≤ z * ((k + 1) * P) := Nat.mul_le_mul_right _ (by omega)
     have h6 : z * ((k + 1) * P) = (k + 1) * (z * P) := Nat.mul_left_comm ..
     have h7 : (k + 2) * (z * P) = (k + 1) * (z * P) + z * P := Nat.succ_mul ..
     have h8 : 1 ≤ z * P := Nat.le_trans hP (Nat.le_mul_of_pos_left _ (by omega))
     omega
    have h9 : ((Z3j c l[i]).length : Int) * (Z29 c (l.drop (i + 1)) : Int) + 1 ≤ (Z29 c l : Int) := by
     rw [← Int.natCast_mul]; omega
    have h10 := Zuw (Z29 c (l.drop (i + 1)) : Int) (by omega) (R := fun p m => Z2v false d p (l.drop (i + 1)) m) (Z3j c l[i]) (n - 1) (fun p hp m hm' => by
     have h11 := Zva hm hp (l.drop (i + 1))
     have h12 := Zoz d p (l.drop (i + 1)) m (by rw [List.length_drop]; omega) (by omega)
     show _ ≤ (Z2v false d p (l.drop (i + 1)) m).2.2
     omega) (by omega)
    omega
  ·rw [cond_true]
   show n - _ ≤ (cond false n (n - 1)); rw [cond_false]; omega
def Z3d (k : Nat) : Nat := min k 1099511627776
theorem Zpn (a b : Nat) : Z19 (a : Int) (b : Int) = ((max a b : Nat) : Int) := by
 unfold Z19
 by_cases h : (b : Int) > (a : Int)
 ·rw [decide_eq_true h, cond_true]; omega
 ·rw [decide_eq_false h, cond_false]; omega
theorem Zpa (a : Nat) : Z32 (a : Int) 1099511627776 = (Z3d a : Int) := by
 unfold Z32 Z3d
 by_cases h : (1099511627776 : Int) < (a : Int)
 ·rw [decide_eq_true h, cond_true]; omega
 ·rw [decide_eq_false h, cond_false]; omega
theorem Zub (a P : Nat) (hP : 1 ≤ P) : Z3d (Z3d a * P) = Z3d (a * P) := by
 unfold Z3d
 by_cases h : a ≤ 1099511627776
 ·rw [Nat.min_eq_left h]
 ·have h1 : 1099511627776 * 1 ≤ 1099511627776 * P := Nat.mul_le_mul_left _ hP
  have h2 : 1099511627776 * P ≤ a * P := Nat.mul_le_mul_right _ (by omega)
  rw [Nat.min_eq_right (show 1099511627776 ≤ a by omega)]; omega
theorem Y54 (n : Nat) (x : Cube) (hn : n ≤ 1099511627776) : Z32 (IntKind.i64.wrap ((n : Int) * Z19 (Z4v x : Int) 1)) 1099511627776 = (Z3d (n * max (Z4v x) 1) : Int) := by
 have h1 := Y4n x
 have h2 : Z19 (Z4v x : Int) 1 = ((max (Z4v x) 1 : Nat) : Int) := Zpn (Z4v x) 1
 have h3 : n * max (Z4v x) 1 ≤ 1099511627776 * 3072 := Nat.mul_le_mul hn (by omega)
 rw [h2, ← Int.natCast_mul, Z3m (by omega) (by omega), Zpa]
theorem Zta (n : Nat) : Z3d n ≤ 1099511627776 := Nat.min_le_right ..
theorem Znb (c : Cube) : ∀ (l : List Cube) (i : Nat) (acc : List Cube), acc.length + l.length ≤ 1000000 → Z5h c l i acc = some (acc ++ Z1y c l)
 | [], i, acc, _ => by simp [Z5h, Z1y]
 | x :: l, i, acc, h => by
  have hlim : lim = 4294967296 := rfl
  simp only [List.length_cons] at h
  rw [Z5h, Zgu, Option.bind_some, Zob]
  unfold Z1y
  rw [List.filter_cons]
  show (bif Z1h c x then _ else _) = _
  cases Z1h c x
  ·rw [cond_false, Znb c l (i + 1) acc (by omega)]; rfl
  ·rw [cond_true, Z2t (by simp; omega), Option.bind_some, Znb c l (i + 1) _ (by simp; omega)]
   simp [Z1y]
theorem Zq6 : ∀ (l : List Cube) (i n : Nat), n ≤ 1099511627776 → Z6s l i (n : Int) = some (Z3d (n * Z3n l) : Int)
 | [], i, n, h => by
  rw [Z6s, Z3n, Nat.mul_one]
  unfold Z3d
  rw [Nat.min_eq_left h]
 | x :: l, i, n, h => by
  rw [Z6s, Y2l, Option.bind_some, Y54 _ _ h, Zq6 l (i + 1) _ (Zta _), Zub _ _ (Zdy l), Z3n, Nat.mul_assoc]
theorem Y12 (c : Cube) (l : List Cube) : (Z1y c l).length ≤ l.length := List.length_filter_le ..
theorem Y1p (c : Cube) (l : List Cube) (h : l.length ≤ 1000000) : Zdm c l = some (Z3d (Z29 c l) : Int) := by
 unfold Zdm Zgn
 have hl := Y12 c l
 rw [Znb c l 0 [] (by simpa using h), Option.bind_some, List.nil_append, inc _ (by omega), Zpa, Zq6 _ _ _ (Zta _), Zub _ _ (Zdy _)]; rfl
def Z8g (all : List Cube) : List Cube → Nat → Nat → Nat
 | [], _, n => n
 | x :: l, i, n => Z8g all l (i + 1) (max n (Z3d (Z29 x (all.take i))))
theorem Zue (all : List Cube) : ∀ (l : List Cube) (i n : Nat), n ≤ Z8g all l i n
 | [], i, n => Nat.le_refl _
 | x :: l, i, n => Nat.le_trans (Nat.le_max_left ..) (Zue all l (i + 1) _)
theorem Zr0 (all : List Cube) : ∀ (l : List Cube) (i n j : Nat) (h : j < l.length), Z3d (Z29 l[j] (all.take (i + j))) ≤ Z8g all l i n
 | x :: l, i, n, 0, h => by
  rw [Z8g, List.getElem_cons_zero, Nat.add_zero]
  exact Nat.le_trans (Nat.le_max_right ..) (Zue all l (i + 1) _)
 | x :: l, i, n, j + 1, h => by
  rw [Z8g, List.getElem_cons_succ, show i + (j + 1) = i + 1 + j by omega]
  exact Zr0 all l (i + 1) _ j (by simpa using h)
def Zpg (l : List Rule) : Nat := Z8g (l.map (·.Cube)) (l.map (·.Cube)) 0 0
theorem Zr1 (all : List Cube) (hl : all.length ≤ 1000000) : ∀ (l : List Cube) (i n : Nat), i + l.length = all.length → Z84 all l i (n : Int) = some (Z8g all l i n : Int)
 | [], i, n, _ => rfl
 | x :: l, i, n, h => by
  simp only [List.length_cons] at h
  rw [Z84, Y2e _ _ (by omega), Option.bind_some, Y1p _ _ (by rw [List.length_take]; omega), Option.bind_some, Zpn, Zr1 all hl l (i + 1) _ (by omega)]; rfl
theorem Zww (l : List Rule) (h : l.length ≤ 1000000) : Zfi l = some (Zpg l : Int) := by
 unfold Zfi
 rw [Zw3 l h, Option.bind_some]
 exact Zr1 _ (by simpa using h) _ 0 0 (by simp)
theorem Zuq {m : Int} (h : 0 ≤ m) : Z19 m 0 = m := by
 unfold Z19
 rw [decide_eq_false (by omega)]; rfl
theorem Zvr (c : Cube) (l : List Cube) (most : Int) : (Z2k c l most).2.2 = 0 ∨ Z2k c l most = (Z2x, false, 5) := by
 unfold Z2k
 cases decide ((Z90 c l most).2.2 < 0)
 ·exact .inl rfl
 ·exact .inr rfl
theorem Zsh {c : Cube} {l : List Cube} {most : Int} (hu : most < 1099511627776) (h : (Z29 c l : Int) ≤ most) : (Z2k c l most).2.2 = 0 := by
 have h1 := Zki (Z1y c l)
 have hb : Z29 c l = Z9m (Z1y c l) := rfl
 have e0 : decide (most ≥ 1099511627776) = false := decide_eq_false (by omega)
 unfold Z2k Z90
 rw [e0, Zuq (by omega)]
 have := Zoz (l.length + 1) c l most (by omega) h
 rw [decide_eq_false (by omega)]; rfl
def Z2l (most : Int) : List Rule → List Rule → List Rule × Int
 | [], kept => (kept, 0)
 | r :: l, kept => bif decide ((Z2k r.Cube (kept.map (·.Cube)) most).2.2 ≠ 0) then ([], 5) else bif (Z2k r.Cube (kept.map (·.Cube)) most).2.1 then Z2l most l (kept ++ [r]) else Z2l most l kept
theorem Zqi (l : List Rule) (h : ∀ r ∈ l, r.Atoms.length ≤ 1000000) : ∀ (m i : Nat), i + m = l.length → Z6n m i l = some l
 | 0, i, _ => by rw [Z6n]
 | m + 1, i, hi => by
  have hlim : lim = 4294967296 := rfl
  have hlt : i < l.length := by omega
  have ha := h l[i] (List.getElem_mem hlt)
  have e : List.set l ((i : Int)).toNat { l[i] with Atoms := l[i].Atoms } = l := by
   rw [Int.toNat_natCast]; exact List.set_getElem_self hlt
  rw [Z6n, Z4b hlt, Option.bind_some]
  unfold Z9q
  rw [Z2t (by simp; omega), Option.bind_some, Option.bind_some, List.nil_append, e]
  exact Zqi l h m (i + 1) (by omega)
theorem Y3g (l : List Rule) (hl : l.length ≤ 1000000) (h : ∀ r ∈ l, r.Atoms.length ≤ 1000000) : Zec l = some l := by
 have hlim : lim = 4294967296 := rfl
 unfold Zec Ziu
 rw [Z2t (by simp; omega), Option.bind_some, List.nil_append, show ((l.length : Int)).toNat = l.length by omega]
 exact Zqi l h l.length 0 (by omega)
theorem Zmj (most : Int) (hm : most ≤ 9223372036854775807) : ∀ (l : List Rule) (i : Nat) (kept : List Rule), kept.length + l.length ≤ 1000000 → (∀ r ∈ kept, r.Atoms.length ≤ 1000000) → (∀ r ∈ l, r.Atoms.length ≤ 1000000) →
  Z5z most l i kept (kept.map (·.Cube)) = some (Z2l most l kept)
 | [], i, kept, h, h1, _ => by
  rw [Z5z, Y3g kept (by simpa using h) h1]; rfl
 | r :: l, i, kept, h, h1, h2 => by
  have hlim : lim = 4294967296 := rfl
  simp only [List.length_cons] at h
  rw [Z5z, Y2h _ _ _ hm (by simp; omega), Option.bind_some, Z2l]
  rcases Zvr r.Cube (kept.map (·.Cube)) most with he | he
  ·rw [he, decide_eq_false (by omega), cond_false, cond_false]
   cases (Z2k r.Cube (kept.map (·.Cube)) most).2.1
   ·exact Zmj most hm l (i + 1) kept (by omega) h1 fun q hq => h2 q (by simp [hq])
   ·rw [Bool.not_true, cond_false, cond_true, Z2t (by simp; omega), Option.bind_some, Z2t (by simp; omega), Option.bind_some]
    have := Zmj most hm l (i + 1) (kept ++ [r]) (by simp; omega) (fun q hq => by
     rcases List.mem_append.1 hq with hq | hq
     ·exact h1 q hq
     ·rw [List.mem_singleton.1 hq]; exact h2 r (by simp)) fun q hq => h2 q (by simp [hq])
    rw [List.map_append] at this
    exact this
  ·rw [he]; rfl
theorem Zmq (most : Int) : ∀ (l kept : List Rule), (Z2l most l kept).2 = 0 ∨ Z2l most l kept = ([], 5)
 | [], kept => .inl rfl
 | r :: l, kept => by
  rw [Z2l]
  cases decide ((Z2k r.Cube (kept.map (·.Cube)) most).2.2 ≠ 0)
  ·cases (Z2k r.Cube (kept.map (·.Cube)) most).2.1
   ·exact Zmq most l kept
   ·exact Zmq most l _
  ·exact .inr rfl
theorem Y0a {c : Cube} {l m : List Cube} (h : List.Sublist l m) : Z29 c l ≤ Z29 c m := Zoy (h.filter _)
theorem Zgt {most : Int} (hu : most < 1099511627776) (all : List Rule) (hb : ∀ j (h : j < all.length), (Z29 all[j].Cube ((all.take j).map (·.Cube)) : Int) ≤ most) : ∀ (m i : Nat) (kept : List Rule), i + m = all.length → List.Sublist kept (all.take i) → (Z2l most (all.drop i) kept).2 = 0 ∧ List.Sublist kept (Z2l most (all.drop i) kept).1
 | 0, i, kept, h, hk => by
  rw [List.drop_of_length_le (by omega)]
  exact ⟨rfl, List.Sublist.refl _⟩
 | m + 1, i, kept, h, hk => by
  have hi : i < all.length := by omega
  have h1 := hb i hi
  have h2 := Y0a (c := all[i].Cube) (hk.map (·.Cube))
  have h3 := Zsh (c := all[i].Cube) (l := kept.map (·.Cube)) hu (by omega)
  have e : all.take (i + 1) = all.take i ++ [all[i]] := by rw [List.take_succ_eq_append_getElem hi]
  rw [List.drop_eq_getElem_cons hi, Z2l, h3, decide_eq_false (by omega), cond_false]
  cases (Z2k all[i].Cube (kept.map (·.Cube)) most).2.1
  ·exact Zgt hu all hb m (i + 1) kept (by omega) (by rw [e]; exact hk.trans (List.sublist_append_left ..))
  ·have := Zgt hu all hb m (i + 1) (kept ++ [all[i]]) (by omega) (by rw [e]; exact hk.append (List.Sublist.refl _))
   exact ⟨this.1, (List.sublist_append_left ..).trans this.2⟩
theorem Zm7 (most : Int) : ∀ (l kept : List Rule), (Z2l most l kept).1.length ≤ kept.length + l.length ∧ ∀ r ∈ (Z2l most l kept).1, r ∈ kept ∨ r ∈ l
 | [], kept => ⟨by simp [Z2l], fun r hr => .inl hr⟩
 | r :: l, kept => by
  rw [Z2l]
  cases decide ((Z2k r.Cube (kept.map (·.Cube)) most).2.2 ≠ 0)
  ·cases (Z2k r.Cube (kept.map (·.Cube)) most).2.1
   ·have := Zm7 most l kept
    rw [cond_false, cond_false]
    exact ⟨by simp; omega, fun q hq => (this.2 q hq).imp id fun h => by simp [h]⟩
   ·have := Zm7 most l (kept ++ [r])
    rw [cond_false, cond_true]
    refine ⟨by have := this.1; simp at this ⊢; omega, fun q hq => ?_⟩
    rcases this.2 q hq with h | h
    ·rcases List.mem_append.1 h with h | h
     ·exact .inl h
     ·rw [List.mem_singleton.1 h]; exact .inr (by simp)
    ·exact .inr (by simp [h])
  ·exact ⟨by simp, fun q hq => by simp at hq⟩
end Go.Proofs.YtknpgojdkobgjaaGreat.W
namespace Go.Proofs.YtknpgojdkobgjaaGreat.W
open Go Go.Wb
abbrev unb : Nat := 1099511627776
def Z8x : List Nat → Nat → Nat
 | [], n => n
 | k :: l, n => if k ≥ unb / n then unb else Z8x l (n * (k + 1))
theorem Zw8 (n : Nat) (h : 1 ≤ n) : Z7z .i64 1099511627776 (n : Int) = some ((unb / n : Nat) : Int) := by
 have h1 : unb / n ≤ unb := Nat.div_le_self _ _
 have hu : unb = 1099511627776 := rfl
 unfold Z7z
 rw [decide_eq_false (by omega), cond_false]
 show some (IntKind.i64.wrap ((unb / n : Nat) : Int)) = _
 generalize unb / n = k at h1 ⊢
 rw [wr (by omega) (by omega)]
theorem Zsb : ∀ (l : List (List Flow)) (i n : Nat), 1 ≤ n → n ≤ unb → (∀ t ∈ l, t.length ≤ 65536) → Z6v l i (n : Int) = some ((Z8x (l.map List.length) n : Nat) : Int)
 | [], i, n, h1, h2, _ => by
  have hu : unb = 1099511627776 := rfl
  rw [Z6v]
  unfold Z32
  by_cases h : n = unb
  ·subst h; rfl
  ·have hd : decide ((1099511627776 : Int) < (n : Int)) = false := decide_eq_false (by omega)
   rw [hd]; rfl
 | t :: l, i, n, h1, h2, h3 => by
  have hu : unb = 1099511627776 := rfl
  have ht := h3 t (by simp)
  rw [Z6v, Zw8 n h1, Option.bind_some, List.map_cons, Z8x]
  by_cases h : t.length ≥ unb / n
  ·rw [if_pos h, decide_eq_true (by omega), cond_true]; rfl
  ·have h4 : n * (t.length + 1) ≤ unb := Nat.le_trans (Nat.mul_le_mul_left n (show t.length + 1 ≤ unb / n by omega)) (Nat.mul_div_le unb n)
   have e1 : IntKind.i64.wrap ((t.length : Int) + 1) = ((t.length + 1 : Nat) : Int) := by rw [wr (by omega) (by omega)]; omega
   have e2 : IntKind.i64.wrap ((n : Int) * ((t.length + 1 : Nat) : Int)) = ((n * (t.length + 1) : Nat) : Int) := by rw [← Int.natCast_mul, wr (by omega) (by omega)]
   rw [if_neg h, decide_eq_false (by omega), cond_false, e1, e2, Zsb l (i + 1) _ (Nat.mul_pos h1 (by omega)) h4 fun t ht => h3 t (by simp [ht])]
def Z6p (s : Switch) : List Nat := (Vector.toList s.Tables).map List.length
theorem Y4v (s : Switch) (h : ∀ t ∈ Vector.toList s.Tables, t.length ≤ 65536) : Zh4 s = some ((Z8x (Z6p s) 1 : Nat) : Int) := Zsb _ 0 1 (by decide) (by decide) h
theorem Zhs (s : Switch) (i : Nat) (h : i < 4) : (Z6p s).drop i = (Z0w s i).length :: (Z6p s).drop (i + 1) := by
 have hl : i < (Z6p s).length := by unfold Z6p; simp; exact h
 rw [List.drop_eq_getElem_cons hl]
 congr 1
 rw [Zly s i h]
 exact List.getElem_map ..
theorem Zut : ∀ (l : List Nat) (n : Nat), (∀ k ∈ l, k ≤ 19) → 1 ≤ n → n * 20 ^ l.length < unb → Z8x l n = n * (l.map (· + 1)).prod
 | [], n, _, _, _ => by simp [Z8x]
 | k :: l, n, h, h1, h2 => by
  have hu : unb = 1099511627776 := rfl
  have hk := h k (by simp)
  rw [List.length_cons, Nat.pow_succ, Nat.mul_comm (20 ^ l.length), ← Nat.mul_assoc] at h2
  have hp : 1 ≤ 20 ^ l.length := Nat.pow_pos (by decide)
  have h4 : n * (k + 1) ≤ n * 20 := Nat.mul_le_mul_left n (by omega)
  have h5 : n * 20 * 1 ≤ n * 20 * 20 ^ l.length := Nat.mul_le_mul_left _ hp
  have h6 : k < unb / n := by
   rw [Nat.lt_div_iff_mul_lt (by omega)]
   have : k * n ≤ 19 * n := Nat.mul_le_mul_right n hk
   omega
  rw [Z8x, if_neg (by omega), Zut l (n * (k + 1)) (fun k hk => h k (by simp [hk])) (Nat.mul_pos h1 (by omega)) (Nat.lt_of_le_of_lt (Nat.mul_le_mul_right _ h4) h2)]
  simp [Nat.mul_assoc]
theorem Y5y (s : Switch) (h : ∀ i, i < 4 → (Z0w s i).length ≤ 19) : Z8x (Z6p s) 1 = Z3w s 4 0 := by
 have e : Z6p s = [(Z0w s 0).length, (Z0w s 1).length, (Z0w s 2).length, (Z0w s 3).length] := by
  have h4 : (Z6p s).drop 4 = [] := List.drop_of_length_le (by unfold Z6p; simp)
  rw [← List.drop_zero (l := Z6p s), Zhs s 0 (by omega), Zhs s 1 (by omega), Zhs s 2 (by omega), Zhs s 3 (by omega), h4]
 rw [e, Zut _ 1 (fun k hk => by
  simp only [List.mem_cons, List.not_mem_nil, or_false] at hk
  rcases hk with rfl | rfl | rfl | rfl
  ·exact h 0 (by omega)
  ·exact h 1 (by omega)
  ·exact h 2 (by omega)
  ·exact h 3 (by omega)) (by decide) (by show 1 * 20 ^ 4 < unb; decide)]
 simp [Z3w, Nat.mul_assoc]
end Go.Proofs.YtknpgojdkobgjaaGreat.W
namespace Go.Proofs.YtknpgojdkobgjaaGreat.W
open Go Go.Wb
theorem Y59 {l : List Group} (h : Z87 l) (i : Nat) : Z87 (l.drop i) := ⟨by have := h.1; rw [List.length_drop]; omega, fun g hg => h.2 g (List.mem_of_mem_drop hg)⟩
theorem Ztw (G : List Group) (hG : Z87 G) : ∀ (l : List Group) (i : Nat) (acc : List Group), l = G.drop i → acc.length + l.length ≤ 1000 → Z64 G l i acc = some (acc ++ l)
 | [], i, acc, _, _ => by simp [Z64]
 | g :: l, i, acc, h, hl => by
  have hlim : lim = 4294967296 := rfl
  have hi : i < G.length := by
   have := congrArg List.length h
   simp at this; omega
  simp only [List.length_cons] at hl
  have h2 := h
  rw [List.drop_eq_getElem_cons hi] at h2
  obtain ⟨e1, e2⟩ := List.cons.inj h2
  have hf : Zih (G.drop i) g.ID = some g := by
   unfold Zih
   rw [← h, List.find?_cons_of_pos (by simp)]
  rw [Z64, Ztk _ _ (by omega), Option.bind_some, Y7n _ _ (Y59 hG i), hf, Option.bind_some]
  show (Z1o acc [g]).bind _ = _
  rw [Z2t (by simp; omega), Option.bind_some, Ztw G hG l (i + 1) _ e2 (by simp; omega)]
  simp
theorem Y3q (G : List Group) (hG : Z87 G) : Zf2 G = some G := by
 unfold Zf2
 have h9 := hG.1
 exact Ztw G hG G 0 [] rfl (by simp; omega)
structure SW (s : Switch) : Prop where
 lt : Zaf s
 G : Z87 s.Groups
 I : ∀ i, i < 4 → ∀ f ∈ Z0w s i, f.Insts.length ≤ 100000 ∧ f.Match.length ≤ 100000
 most : Z3w s 4 0 ≤ 6561
theorem Y8t {s : Switch} {m : Nat} (h : Zar s (m : Int) = true) (hm : m ≤ 8) : SW s := ⟨Y40 h (by omega), (Zcy h).2, Zwl h, by
 have h1 := Zxg s 8 fun i hi => by have := ((Zcy h).1 i hi).1; omega
 omega⟩
theorem SW.len {s : Switch} (h : SW s) : (Z0p s).length ≤ 6561 := Nat.le_trans (Zl3 s) h.most
theorem SW.walk {s : Switch} (h : SW s) : Zah s = some (Z0p s) := Y26 s h.lt (by have := h.most; have hlim : lim = 4294967296 := rfl; omega)
def Z4u (s : Switch) (most : Int) : List Rule × Int := Z2l most (Z0p s) []
def Zjh (s : Switch) (most : Int) : Flat × Int := bif decide ((Z4u s most).2 ≠ 0) then (⟨[], []⟩, 5) else (⟨(Z4u s most).1, s.Groups⟩, 0)
theorem Zz6 (s : Switch) (h : SW s) (most : Int) (hm : most ≤ 9223372036854775807) : Zi0 (Z0p s) most = some (Z4u s most) := by
 have h1 := h.len
 have h2 := Y5f s h.lt
 exact Zmj most hm (Z0p s) 0 [] (by simp; omega) (by simp) fun r hr => by have := h2 r hr; omega
theorem Y27 (s : Switch) (h : SW s) (most : Int) (hm : most ≤ 9223372036854775807) : Zal s most = some (Zjh s most) := by
 unfold Zal Zjh
 rw [h.walk, Option.bind_some, Zz6 s h most hm, Option.bind_some]
 rcases Zmq most (Z0p s) [] with he | he
 ·rw [show (Z4u s most).2 = 0 from he, decide_eq_false (by omega), cond_false, cond_false, Y3q _ h.G]; rfl
 ·rw [show Z4u s most = ([], 5) from he]; rfl
def Z4q (s : Switch) : Nat := Zpg (Z0p s)
theorem Y8q (s : Switch) (h : SW s) : Zan s = some (Z4q s : Int) := by
 unfold Zan
 rw [h.walk, Option.bind_some, Zww _ (by have := h.len; omega)]; rfl
set_option maxRecDepth 100000 in
theorem Y83 : Zg8 = some true := by decide +kernel
theorem Y1b {n : Nat} (h : Z3d n ≤ 4096) : n = Z3d n := by unfold Z3d at *; omega
theorem Y2k {s : Switch} {most : Int} (hb : Z4q s ≤ 4096) (hm : (Z4q s : Int) ≤ most) (hu : most < 1099511627776) : (Z4u s most).2 = 0 ∧ 1 ≤ (Z4u s most).1.length := by
 have hall : ∀ j (h : j < (Z0p s).length), (Z29 (Z0p s)[j].Cube (((Z0p s).take j).map (·.Cube)) : Int) ≤ most := fun j hj => by
  have h1 := Zr0 ((Z0p s).map (·.Cube)) ((Z0p s).map (·.Cube)) 0 0 j (by simpa using hj)
  rw [Nat.zero_add, List.getElem_map, ← List.map_take] at h1
  have h2 : Z8g ((Z0p s).map (·.Cube)) ((Z0p s).map (·.Cube)) 0 0 = Z4q s := rfl
  have h3 := Y1b (n := Z29 (Z0p s)[j].Cube (((Z0p s).take j).map (·.Cube))) (by omega)
  omega
 have h1 := Zgt hu (Z0p s) hall (Z0p s).length 0 [] (by omega) (by simp)
 rw [List.drop_zero] at h1
 refine ⟨h1.1, ?_⟩
 obtain ⟨l, hl⟩ := Y91 s
 -- the first rule is hit
 have hpos : 0 < (Z0p s).length := by rw [hl]; simp
 have h2 := hall 0 hpos
 have e0 : (Z0p s) = (Z0p s)[0] :: (Z0p s).drop 1 := by rw [← List.drop_eq_getElem_cons hpos, List.drop_zero]
 have hlk : (Z2k (Z0p s)[0].Cube [] most).2.2 = 0 := Zsh hu (by simpa using h2)
 have hfd : (Z2k (Z0p s)[0].Cube [] most).2.1 = true := by
  have hn : 1 ≤ most := by
   have := Zki (Z1y (Z0p s)[0].Cube (((Z0p s).take 0).map (·.Cube)))
   have h5 : Z29 (Z0p s)[0].Cube (((Z0p s).take 0).map (·.Cube)) = Z9m (Z1y (Z0p s)[0].Cube (((Z0p s).take 0).map (·.Cube))) := rfl
   omega
  have e1 : decide (most ≥ 1099511627776) = false := decide_eq_false (by omega)
  unfold Z2k Z90
  rw [e1, Zuq (by omega)]
  rw [Z2v, decide_eq_false (show ¬ most < 1 by omega)]
  simp only [Bool.and_false, cond_false, List.any_nil, Z39]
  rw [decide_eq_false (by omega)]; rfl
 have e2 : Z4u s most = Z2l most ((Z0p s).drop 1) [(Z0p s)[0]] := by
  refine (congrArg (fun L => Z2l most L []) e0).trans ?_
  show Z2l most (_ :: _) [] = _
  rw [Z2l]
  show (bif decide ((Z2k (Z0p s)[0].Cube [] most).2.2 ≠ 0) then _ else bif (Z2k (Z0p s)[0].Cube [] most).2.1 then _ else _) = _
  rw [hlk, hfd, decide_eq_false (by omega), cond_false, cond_true, List.nil_append] <;> rfl
 have h3 := Zgt hu (Z0p s) hall ((Z0p s).length - 1) 1 [(Z0p s)[0]] (by omega) (by
  have : (Z0p s).take 1 = [(Z0p s)[0]] := by rw [List.take_succ_eq_append_getElem hpos]; rfl
  rw [this]; exact List.Sublist.refl _)
 rw [e2]
 have := h3.2.length_le
 simpa using this
theorem Y17 (s : Switch) (more : Int) (h0 : 0 ≤ more) (h1 : more ≤ 65535) : Zbk s more = some true := by
 unfold Zbk
 rw [Y50, Option.bind_some, Y83]
 cases hf : Zar s 3
 ·rfl
 ·have h := Y8t (m := 3) hf (by omega)
  rw [Bool.not_true, Bool.not_false, Z7x, Y8q s h, Option.bind_some, Bool.false_or]
  by_cases hb : (Z4q s : Int) > 4096
  ·rw [decide_eq_true hb]; rfl
  ·rw [decide_eq_false hb, cond_false, Option.bind_some, Z3m (n := more) (by omega) (by omega), Z3m (by omega) (by omega), Y27 s h _ (by omega), Option.bind_some]
   have hd := Y2k (s := s) (most := (Z4q s : Int) + more) (by omega) (by omega) (by omega)
   have e : Zjh s ((Z4q s : Int) + more) = (⟨(Z4u s ((Z4q s : Int) + more)).1, s.Groups⟩, 0) := by
    unfold Zjh
    rw [hd.1]; rfl
   have hl := (Zcy (many := 3) hf).1
   have hsub := (Zm7 ((Z4q s : Int) + more) (Z0p s) []).1
   have hlen := Zl3 s
   have hmost := Y5y s fun i hi => by have := (hl i hi).1; omega
   rw [e, Y4v s (fun t ht => by
    obtain ⟨i, hi, e⟩ := List.getElem_of_mem ht
    have hi4 : i < 4 := by simpa using hi
    rw [← e, ← Zly s i hi4]
    have := (hl i hi4).1; omega), hmost]
   have d1 : decide (((Z4u s ((Z4q s : Int) + more)).1.length : Int) ≥ 1) = true := decide_eq_true (by omega)
   have d2 : decide (((Z4u s ((Z4q s : Int) + more)).1.length : Int) ≤ ((Z3w s 4 0 : Nat) : Int)) = true := decide_eq_true (by
    have : (Z4u s ((Z4q s : Int) + more)).1.length ≤ (Z0p s).length := by
     rw [List.length_nil, Nat.zero_add] at hsub; exact hsub
    omega)
   simp only [decide_true, d1, Bool.and_self, Z7x, Option.bind_some, d2]
theorem Y06 {W : World} {H M : HS} {v : Value} (s : Switch) (more : Int) (h : (rd (Z0 .u16) more).R W H M v) : Zbk s more = some true := Y17 s more (Z0g h).2.1 (Z0g h).2.2
end Go.Proofs.YtknpgojdkobgjaaGreat.W
