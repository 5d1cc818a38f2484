/- A part of the proof. -/
import Derived.Test.YtknpgojdkobgjaaGreatG2
set_option linter.unusedVariables false
set_option linter.unusedSimpArgs false
namespace Go.Proofs.YtknpgojdkobgjaaGreat.W
open Go Go.Wb
abbrev big : Nat := 1000000
theorem Z5l {α : Type} (P Q : List α) (x : α) (i : Int) (h : i = (P.length : Int)) : lget (P ++ x :: Q) i = some x := by
 subst h
 rw [Zks, List.getElem?_append_right (Nat.le_refl _)]; simp
theorem Z8c {α : Type} (P Q : List α) (x y : α) (i : Nat) (h : i = P.length) : List.set (P ++ x :: Q) i y = P ++ y :: Q := by
 subst h
 rw [List.set_append_right _ _ (Nat.le_refl _)]; simp
theorem wr {n : Int} (h1 : -4611686018427387904 ≤ n) (h2 : n ≤ 4611686018427387904) : IntKind.i64.wrap n = n := Z2m (by omega) (by omega)
theorem Zc6 (n : Nat) (h : n ≤ 4611686018427387904) : IntKind.i64.wrap ((BitVec.ofNat 64 n).toNat : Int) = (n : Int) := by
 have : (BitVec.ofNat 64 n).toNat = n := by rw [BitVec.toNat_ofNat]; omega
 rw [this, wr (by omega) (by omega)]
theorem Zm9 (k : Int) (n : Nat) (hk : k = (n : Int)) (h : n ≤ 4611686018427387904) : Z3a (BitVec.ofInt 64 (IntKind.i64.wrap k)) ((1 : BitVec 64).toNat : Int) = some (BitVec.ofNat 64 (n / 2)) := by
 subst hk
 rw [wr (by omega) (by omega), show ((1 : BitVec 64).toNat : Int) = ((1 : Nat) : Int) from rfl]
 unfold Z3a
 rw [decide_eq_false (by omega), cond_false, BitVec.ofInt_natCast, Int.toNat_natCast]
 congr 1
 apply BitVec.eq_of_toNat_eq
 rw [BitVec.toNat_ushiftRight, BitVec.toNat_ofNat, BitVec.toNat_ofNat, Nat.shiftRight_eq_div_pow]
 omega
theorem Y3d (n a b : Nat) : ∀ (U V P M Q : List Action) (i f : Nat), U.length = V.length → P.length = a + i → P.length + U.length + M.length = b + i → i + U.length = n → U.length < f → (P ++ U ++ M ++ V ++ Q).length ≤ big →
  Zdg (n : Int) (b : Int) (a : Int) f (P ++ U ++ M ++ V ++ Q) (i : Int) = some (P ++ V ++ M ++ U ++ Q)
 | [], V, P, M, Q, i, f, h1, h2, h3, h4, h5, h6 => by
  have hV : V = [] := List.eq_nil_of_length_eq_zero (by simpa using h1.symm)
  subst hV
  obtain ⟨f, rfl⟩ : ∃ k, f = k + 1 := ⟨f - 1, by simp at h5; omega⟩
  rw [Zdg, decide_eq_false (by simp at h4; omega), cond_false]
 | u :: U, [], P, M, Q, i, f, h1, h2, h3, h4, h5, h6 => by simp at h1
 | u :: U, v :: V, P, M, Q, i, f, h1, h2, h3, h4, h5, h6 => by
  obtain ⟨f, rfl⟩ : ∃ k, f = k + 1 := ⟨f - 1, by simp at h5; omega⟩
  simp only [List.length_cons, List.length_append] at h1 h3 h4 h5 h6
  have hbig : big = 1000000 := rfl
  have ea : IntKind.i64.wrap ((a : Int) + (i : Int)) = (P.length : Int) := by rw [wr (by omega) (by omega)]; omega
  have eb : IntKind.i64.wrap ((b : Int) + (i : Int)) = ((P ++ u :: U ++ M).length : Int) := by
   rw [wr (by omega) (by omega)]; simp only [List.length_append, List.length_cons]; omega
  have e1 : P ++ u :: U ++ M ++ v :: V ++ Q = (P ++ u :: U ++ M) ++ v :: (V ++ Q) := by simp
  have e2 : P ++ u :: U ++ M ++ v :: V ++ Q = P ++ u :: (U ++ M ++ v :: V ++ Q) := by simp
  have e3 : P ++ v :: (U ++ M ++ v :: V ++ Q) = (P ++ v :: U ++ M) ++ v :: (V ++ Q) := by simp
  have e4 : (P ++ v :: U ++ M) ++ u :: (V ++ Q) = (P ++ [v]) ++ U ++ (M ++ [u]) ++ V ++ Q := by simp
  have g1 : lget (P ++ u :: U ++ M ++ v :: V ++ Q) ((P ++ u :: U ++ M).length : Int) = some v := by rw [e1]; exact Z5l _ _ _ _ rfl
  have g2 : lget (P ++ u :: U ++ M ++ v :: V ++ Q) (P.length : Int) = some u := by rw [e2]; exact Z5l _ _ _ _ rfl
  have s1 : List.set (P ++ u :: U ++ M ++ v :: V ++ Q) ((P.length : Int)).toNat v = (P ++ v :: U ++ M) ++ v :: (V ++ Q) := by
   rw [e2, Int.toNat_natCast, Z8c _ _ _ _ _ rfl, e3]
  have hl : (P ++ u :: U ++ M).length = (P ++ v :: U ++ M).length := by simp
  have g3 : lget ((P ++ v :: U ++ M) ++ v :: (V ++ Q)) ((P ++ u :: U ++ M).length : Int) = some v := Z5l _ _ _ _ (by rw [hl])
  have s2 : List.set ((P ++ v :: U ++ M) ++ v :: (V ++ Q)) (((P ++ u :: U ++ M).length : Int)).toNat u = (P ++ [v]) ++ U ++ (M ++ [u]) ++ V ++ Q := by
   rw [Int.toNat_natCast, Z8c _ _ _ _ _ hl, e4]
  have ei : IntKind.i64.wrap ((i : Int) + 1) = ((i + 1 : Nat) : Int) := by rw [wr (by omega) (by omega)]; omega
  rw [Zdg, decide_eq_true (by omega), cond_true, eb, g1, Option.bind_some, ea, g2, Option.bind_some, Option.bind_some, s1, g3, Option.bind_some, s2, ei,
   Y3d n a b U V (P ++ [v]) (M ++ [u]) Q (i + 1) f (by omega) (by simp only [List.length_append, List.length_cons, List.length_nil]; omega) (by simp only [List.length_append, List.length_cons, List.length_nil]; omega) (by omega) (by omega) (by simp only [List.length_append, List.length_cons, List.length_nil]; omega)]
  simp
theorem Zq5 (U V P M Q : List Action) (cmp : Action → Action → Option Int) (a b n : Int) (h : U.length = V.length) (ha : a = (P.length : Int)) (hb : b = ((P ++ U ++ M).length : Int)) (hn : n = (U.length : Int)) (hl : (P ++ U ++ M ++ V ++ Q).length ≤ big) :
  Zdi (P ++ U ++ M ++ V ++ Q) a b n cmp = some (P ++ V ++ M ++ U ++ Q) := by
 subst ha hb hn
 unfold Zdi
 exact Y3d U.length P.length (P ++ U ++ M).length U V P M Q 0 _ h rfl (by simp only [List.length_append]; omega) (by omega) (by omega) hl
theorem Zs9 (cmp : Action → Action → Option Int) : ∀ (f : Nat) (X Y P Q : List Action) (m : Nat), 0 < X.length → 0 < Y.length → X.length + Y.length ≤ f → P.length + X.length = m → (P ++ X ++ Y ++ Q).length ≤ big →
  Zer (m : Int) cmp f (P ++ X ++ Y ++ Q) (X.length : Int) (Y.length : Int) = some (P ++ Y ++ X ++ Q)
 | 0, X, Y, P, Q, m, h1, h2, h3, h4, h5 => by omega
 | f + 1, X, Y, P, Q, m, h1, h2, h3, h4, h5 => by
  have hbig : big = 1000000 := rfl
  simp only [List.length_append] at h5
  have em : IntKind.i64.wrap ((m : Int) - (X.length : Int)) = (P.length : Int) := by rw [wr (by omega) (by omega)]; omega
  rw [Zer, em]
  by_cases he : X.length = Y.length
  ·rw [decide_eq_false (by omega), cond_false]
   have := Zq5 X Y P [] Q cmp (P.length : Int) (m : Int) (X.length : Int) he rfl (by simp; omega) rfl (by simp only [List.length_append, List.length_nil]; omega)
   simp only [List.append_nil] at this
   rw [this]; rfl
  ·rw [decide_eq_true (by omega), cond_true]
   by_cases hg : X.length > Y.length
   ·rw [decide_eq_true (by omega), cond_true]
    have hx : X = X.take Y.length ++ X.drop Y.length := (List.take_append_drop ..).symm
    generalize hX1 : X.take Y.length = X1 at hx
    generalize hX2 : X.drop Y.length = X2 at hx
    have l1 : X1.length = Y.length := by rw [← hX1]; simp; omega
    have l2 : X2.length = X.length - Y.length := by rw [← hX2]; simp
    have := Zq5 X1 Y P X2 Q cmp (P.length : Int) (m : Int) (Y.length : Int) l1 rfl (by simp only [List.length_append]; omega) (by omega) (by simp only [List.length_append]; omega)
    have e1 : P ++ X ++ Y ++ Q = P ++ X1 ++ X2 ++ Y ++ Q := by rw [hx]; simp
    have e2 : P ++ Y ++ X2 ++ X1 ++ Q = (P ++ Y) ++ X2 ++ X1 ++ Q := by simp
    have e3 : IntKind.i64.wrap ((X.length : Int) - (Y.length : Int)) = (X2.length : Int) := by rw [wr (by omega) (by omega)]; omega
    have e4 : ((Y.length : Nat) : Int) = (X1.length : Int) := by omega
    rw [e1, this, Option.bind_some, e2, e3, e4, Zs9 cmp f X2 X1 (P ++ Y) Q m (by omega) (by omega) (by omega) (by simp only [List.length_append]; omega) (by simp only [List.length_append]; omega)]
    rw [hx]; simp
   ·rw [decide_eq_false (by omega), cond_false]
    have hy : Y = Y.take (Y.length - X.length) ++ Y.drop (Y.length - X.length) := (List.take_append_drop ..).symm
    generalize hY1 : Y.take (Y.length - X.length) = Y1 at hy
    generalize hY2 : Y.drop (Y.length - X.length) = Y2 at hy
    have l1 : Y1.length = Y.length - X.length := by rw [← hY1]; simp
    have l2 : Y2.length = X.length := by rw [← hY2]; simp; omega
    have hb : IntKind.i64.wrap (IntKind.i64.wrap ((m : Int) + (Y.length : Int)) - (X.length : Int)) = ((P ++ X ++ Y1).length : Int) := by
     rw [wr (n := (m : Int) + (Y.length : Int)) (by omega) (by omega), wr (by omega) (by omega)]; simp only [List.length_append]; omega
    have := Zq5 X Y2 P Y1 Q cmp (P.length : Int) ((P ++ X ++ Y1).length : Int) (X.length : Int) (by omega) rfl rfl rfl (by simp only [List.length_append]; omega)
    have e1 : P ++ X ++ Y ++ Q = P ++ X ++ Y1 ++ Y2 ++ Q := by rw [hy]; simp
    have e2 : P ++ Y2 ++ Y1 ++ X ++ Q = P ++ Y2 ++ Y1 ++ (X ++ Q) := by simp
    have e3 : IntKind.i64.wrap ((Y.length : Int) - (X.length : Int)) = (Y1.length : Int) := by rw [wr (by omega) (by omega)]; omega
    have e4 : ((X.length : Nat) : Int) = (Y2.length : Int) := by omega
    rw [hb, e1, this, Option.bind_some, e2, e3, e4, Zs9 cmp f Y2 Y1 P (X ++ Q) m (by omega) (by omega) (by omega) (by omega) (by simp only [List.length_append]; omega)]
    rw [hy]; simp
theorem Yei (cmp : Action → Action → Option Int) (X Y P Q : List Action) (a m b : Int) (h1 : 0 < X.length) (h2 : 0 < Y.length) (ha : a = (P.length : Int)) (hm : m = ((P ++ X).length : Int)) (hb : b = ((P ++ X ++ Y).length : Int)) (hl : (P ++ X ++ Y ++ Q).length ≤ big) :
  Zh9 (P ++ X ++ Y ++ Q) a m b cmp = some (P ++ Y ++ X ++ Q) := by
 subst ha hm hb
 have hbig : big = 1000000 := rfl
 simp only [List.length_append] at hl
 unfold Zh9
 have e1 : IntKind.i64.wrap (((P ++ X).length : Int) - (P.length : Int)) = (X.length : Int) := by rw [wr (by simp only [List.length_append]; omega) (by simp only [List.length_append]; omega)]; simp only [List.length_append]; omega
 have e2 : IntKind.i64.wrap (((P ++ X ++ Y).length : Int) - ((P ++ X).length : Int)) = (Y.length : Int) := by rw [wr (by simp only [List.length_append]; omega) (by simp only [List.length_append]; omega)]; simp only [List.length_append]; omega
 rw [e1, e2]
 exact Zs9 cmp Z0l X Y P Q _ h1 h2 (by unfold Z0l; omega) (by simp) (by simp only [List.length_append]; omega)
theorem Zio {β : Type} (G : Nat → Int → Int → Option β) (K : Int → Option β) (t : Nat → Bool) (lo s hi : Nat)
  (step : ∀ (f i j : Nat), lo ≤ i → i < j → j ≤ hi → G (f + 1) (i : Int) (j : Int) = bif t ((i + j) / 2) then G f (((i + j) / 2 + 1 : Nat) : Int) (j : Int) else G f (i : Int) (((i + j) / 2 : Nat) : Int))
  (stop : ∀ (f i : Nat), lo ≤ i → i ≤ hi → G (f + 1) (i : Int) (i : Int) = K (i : Int)) (ht : ∀ c, lo ≤ c → c < s → t c = true) (hf : ∀ c, s ≤ c → c < hi → t c = false) :
  ∀ (f i j : Nat), lo ≤ i → i ≤ s → s ≤ j → j ≤ hi → j - i < f → G f (i : Int) (j : Int) = K (s : Int)
 | 0, i, j, _, _, _, _, h => by omega
 | f + 1, i, j, h1, h2, h3, h4, h5 => by
  by_cases hij : i < j
  ·rw [step f i j h1 hij h4]
   by_cases hc : (i + j) / 2 < s
   ·rw [ht _ (by omega) hc, cond_true]
    exact Zio G K t lo s hi step stop ht hf f _ j (by omega) (by omega) h3 h4 (by omega)
   ·rw [hf _ (by omega) (by omega), cond_false]
    exact Zio G K t lo s hi step stop ht hf f i _ h1 h2 (by omega) (by omega) (by omega)
  ·have e1 : i = s := by omega
   have e2 : j = s := by omega
   rw [e1, e2]
   exact stop f s (by omega) (by omega)
theorem Zn3 (t : Nat → Bool) (lo : Nat) : ∀ (n : Nat), (∀ c d, lo ≤ c → c ≤ d → d < lo + n → t c = false → t d = false) → ∃ s, lo ≤ s ∧ s ≤ lo + n ∧ (∀ c, lo ≤ c → c < s → t c = true) ∧ ∀ c, s ≤ c → c < lo + n → t c = false
 | 0, _ => ⟨lo, Nat.le_refl _, Nat.le_refl _, fun c h1 h2 => by omega, fun c h1 h2 => by omega⟩
 | n + 1, hm => by
  obtain ⟨s, h1, h2, h3, h4⟩ := Zn3 t lo n fun c d a b e f => hm c d a b (by omega) f
  by_cases hs : s < lo + n
  ·refine ⟨s, h1, by omega, h3, fun c a b => ?_⟩
   by_cases hc : c < lo + n
   ·exact h4 c a hc
   ·exact hm s c h1 a b (h4 s (Nat.le_refl _) hs)
  ·have : s = lo + n := by omega
   subst this
   cases ht : t (lo + n)
   ·exact ⟨lo + n, h1, by omega, h3, fun c a b => by rw [show c = lo + n by omega, ht]⟩
   ·refine ⟨lo + n + 1, by omega, by omega, fun c a b => ?_, fun c a b => by omega⟩
    by_cases hc : c < lo + n
    ·exact h3 c a hc
    ·have : c = lo + n := by omega
     rw [this, ht]
end Go.Proofs.YtknpgojdkobgjaaGreat.W
namespace Go.Proofs.YtknpgojdkobgjaaGreat.W
open Go Go.Wb
section sym
variable (lt : Action → Action → Bool) (cmp : Action → Action → Option Int)
def Z6e : Prop := ∀ x y, ∃ c, cmp x y = some c ∧ decide (c < 0) = lt x y
variable {lt cmp}
theorem Zwu (e : Nat) : ∀ (Y P Q : List Action) (x : Action) (k f : Nat), k = P.length → k + Y.length + 1 = e → Y.length < f → (P ++ x :: (Y ++ Q)).length ≤ big →
  Z9b (e : Int) f (P ++ x :: (Y ++ Q)) (k : Int) = some (P ++ Y ++ x :: Q)
 | [], P, Q, x, k, f, h1, h2, h3, h4 => by
  obtain ⟨f, rfl⟩ : ∃ k, f = k + 1 := ⟨f - 1, by simp at h3; omega⟩
  have hbig : big = 1000000 := rfl
  simp only [List.length_append, List.length_cons, List.length_nil] at h2 h4
  rw [Z9b, wr (by omega) (by omega), decide_eq_false (by omega), cond_false]
  simp
 | y :: Y, P, Q, x, k, f, h1, h2, h3, h4 => by
  obtain ⟨f, rfl⟩ : ∃ k, f = k + 1 := ⟨f - 1, by simp at h3; omega⟩
  have hbig : big = 1000000 := rfl
  simp only [List.length_append, List.length_cons] at h2 h3 h4
  have ek : IntKind.i64.wrap ((k : Int) + 1) = ((k + 1 : Nat) : Int) := by rw [wr (by omega) (by omega)]; omega
  have e1 : P ++ x :: (y :: Y ++ Q) = (P ++ [x]) ++ y :: (Y ++ Q) := by simp
  have e2 : (P ++ [y]) ++ y :: (Y ++ Q) = P ++ y :: (y :: (Y ++ Q)) := by simp
  have g1 : lget (P ++ x :: (y :: Y ++ Q)) ((k + 1 : Nat) : Int) = some y := by rw [e1]; exact Z5l _ _ _ _ (by simp; omega)
  have g2 : lget (P ++ x :: (y :: Y ++ Q)) (k : Int) = some x := Z5l _ _ _ _ (by omega)
  have s1 : List.set (P ++ x :: (y :: Y ++ Q)) ((k : Int)).toNat y = (P ++ [y]) ++ y :: (Y ++ Q) := by rw [Int.toNat_natCast, Z8c _ _ _ _ _ h1]; simp
  have g3 : lget ((P ++ [y]) ++ y :: (Y ++ Q)) ((k + 1 : Nat) : Int) = some y := Z5l _ _ _ _ (by simp; omega)
  have s2 : List.set ((P ++ [y]) ++ y :: (Y ++ Q)) (((k + 1 : Nat) : Int)).toNat x = (P ++ [y]) ++ x :: (Y ++ Q) := by rw [Int.toNat_natCast, Z8c _ _ _ _ _ (by simp; omega)]
  rw [Z9b, wr (n := (e : Int) - 1) (by omega) (by omega), decide_eq_true (by omega), cond_true, ek, g1, Option.bind_some, g2, Option.bind_some, Option.bind_some, s1, g3, Option.bind_some, s2,
   Zwu e Y (P ++ [y]) Q x (k + 1) f (by simp; omega) (by omega) (by omega) (by simp only [List.length_append, List.length_cons, List.length_nil]; omega)]
  simp
theorem Y3a (s : Nat) : ∀ (R P Q : List Action) (x : Action) (k f : Nat), k = s + R.length → P.length = s → R.length < f → (P ++ R.reverse ++ x :: Q).length ≤ big →
  Z9u (s : Int) f (P ++ R.reverse ++ x :: Q) (k : Int) = some (P ++ x :: (R.reverse ++ Q))
 | [], P, Q, x, k, f, h1, h2, h3, h4 => by
  obtain ⟨f, rfl⟩ : ∃ k, f = k + 1 := ⟨f - 1, by simp at h3; omega⟩
  rw [Z9u, decide_eq_false (by simp at h1; omega), cond_false]
  simp
 | y :: R, P, Q, x, k, f, h1, h2, h3, h4 => by
  obtain ⟨f, rfl⟩ : ∃ k, f = k + 1 := ⟨f - 1, by simp at h3; omega⟩
  have hbig : big = 1000000 := rfl
  simp only [List.length_append, List.length_cons, List.length_reverse] at h1 h3 h4
  have ek : IntKind.i64.wrap ((k : Int) - 1) = ((k - 1 : Nat) : Int) := by rw [wr (by omega) (by omega)]; omega
  have e1 : P ++ (y :: R).reverse ++ x :: Q = (P ++ R.reverse) ++ y :: (x :: Q) := by simp
  have e1' : P ++ (y :: R).reverse ++ x :: Q = (P ++ R.reverse ++ [y]) ++ x :: Q := by simp
  have g1 : lget (P ++ (y :: R).reverse ++ x :: Q) ((k - 1 : Nat) : Int) = some y := by rw [e1]; exact Z5l _ _ _ _ (by simp; omega)
  have g2 : lget (P ++ (y :: R).reverse ++ x :: Q) (k : Int) = some x := by rw [e1']; exact Z5l _ _ _ _ (by simp; omega)
  have s1 : List.set (P ++ (y :: R).reverse ++ x :: Q) ((k : Int)).toNat y = (P ++ R.reverse) ++ y :: (y :: Q) := by rw [e1', Int.toNat_natCast, Z8c _ _ _ _ _ (by simp; omega)]; simp
  have g3 : lget ((P ++ R.reverse) ++ y :: (y :: Q)) ((k - 1 : Nat) : Int) = some y := Z5l _ _ _ _ (by simp; omega)
  have s2 : List.set ((P ++ R.reverse) ++ y :: (y :: Q)) (((k - 1 : Nat) : Int)).toNat x = P ++ R.reverse ++ x :: (y :: Q) := by rw [Int.toNat_natCast, Z8c _ _ _ _ _ (by simp; omega)]
  rw [Z9u, decide_eq_true (by omega), cond_true, ek, g1, Option.bind_some, g2, Option.bind_some, Option.bind_some, s1, g3, Option.bind_some, s2,
   Y3a s R P (y :: Q) x (k - 1) f (by omega) h2 (by omega) (by simp only [List.length_append, List.length_cons, List.length_reverse]; omega)]
  simp
theorem Zof {α : Type} (P X Q : List α) (c : Nat) (h1 : P.length ≤ c) (h2 : c < P.length + X.length) : lget (P ++ X ++ Q) (c : Int) = some (X[c - P.length]'(by omega)) := by
 rw [Zks, List.append_assoc, List.getElem?_append_right h1, List.getElem?_append_left (by omega), List.getElem?_eq_getElem]
theorem Y8v {l : List Action} (h : Z17 lt l) {i j : Nat} (hi : i < l.length) (hj : j < l.length) (hij : i < j) : lt l[j] l[i] = false := (List.pairwise_iff_getElem.1 h) i j hi hj hij
theorem Zab (hs : Swo lt) {l : List Action} (h : Z17 lt l) {i j : Nat} (hi : i < l.length) (hj : j < l.length) (hij : i ≤ j) : lt l[j] l[i] = false := by
 rcases Nat.lt_or_eq_of_le hij with h1 | h1
 ·exact Y8v h hi hj h1
 ·subst h1
  have := Z8e hs l[i]
  unfold eqv at this
  simpa using this
theorem Zp4 {A B : List Action} (h : Z17 lt (A ++ B)) : Z17 lt A := (List.pairwise_append.1 h).1
theorem Zmc {A B : List Action} (h : Z17 lt (A ++ B)) : Z17 lt B := (List.pairwise_append.1 h).2.1
theorem Y90 (hs : Swo lt) (hc : Z6e lt cmp) (x : Action) (Y P Q : List Action) (hY : Z17 lt Y) (hl : (P ++ x :: (Y ++ Q)).length ≤ big) :
  Z98 (P ++ x :: (Y ++ Q)) (P.length : Int) cmp ((((P.length + 1 + Y.length : Nat) : Int) - ((P.length + 1 : Nat) : Int)).toNat + 1) ((P.length + 1 : Nat) : Int) ((P.length + 1 + Y.length : Nat) : Int) = some (P ++ srt lt (x :: Y) ++ Q) := by
 have hbig : big = 1000000 := rfl
 simp only [List.length_append, List.length_cons] at hl
 have eD : P ++ x :: (Y ++ Q) = (P ++ [x]) ++ Y ++ Q := by simp
 let t : Nat → Bool := fun c => if h : c - (P.length + 1) < Y.length then lt Y[c - (P.length + 1)] x else false
 have htv : ∀ c (h : c - (P.length + 1) < Y.length), t c = lt Y[c - (P.length + 1)] x := fun c h => by simp only [t]; rw [dif_pos h]
 obtain ⟨s, s1, s2, s3, s4⟩ := Zn3 t (P.length + 1) Y.length fun c d h1 h2 h3 h4 => by
  rw [htv c (by omega)] at h4
  rw [htv d (by omega)]
  exact hs.neg _ _ _ (Zab hs hY (by omega) (by omega) (by omega)) h4
 have key := Zio (Z98 (P ++ x :: (Y ++ Q)) (P.length : Int) cmp) (fun i => Z9b i ((((IntKind.i64.wrap (i - 1)) : Int) - (P.length : Int)).toNat + 1) (P ++ x :: (Y ++ Q)) (P.length : Int)) t (P.length + 1) s (P.length + 1 + Y.length)
  (fun f i j h1 h2 h3 => by
   obtain ⟨c, hc1, hc2⟩ := hc (Y[(i + j) / 2 - (P.length + 1)]'(by omega)) x
   have gx : lget (P ++ x :: (Y ++ Q)) (P.length : Int) = some x := Z5l _ _ _ _ rfl
   have gy : lget (P ++ x :: (Y ++ Q)) (((i + j) / 2 : Nat) : Int) = some (Y[(i + j) / 2 - (P.length + 1)]'(by omega)) := by
    rw [eD, Zof (P ++ [x]) Y Q _ (by simp; omega) (by simp; omega)]
    simp
   have e1 : IntKind.i64.wrap ((((i + j) / 2 : Nat) : Int) + 1) = (((i + j) / 2 + 1 : Nat) : Int) := by rw [wr (by omega) (by omega)]; omega
   rw [Z98, decide_eq_true (by omega), cond_true, Zm9 _ (i + j) (by omega) (by omega), Option.bind_some, Zc6 _ (by omega), gy, Option.bind_some, gx, Option.bind_some, hc1, Option.bind_some, hc2, htv _ (by omega), e1])
  (fun f i h1 h2 => by rw [Z98, decide_eq_false (by omega), cond_false]) s3 (fun c h1 h2 => s4 c h1 h2)
 rw [key _ _ _ (Nat.le_refl _) s1 s2 (Nat.le_refl _) (by omega)]
 have hy : Y = Y.take (s - (P.length + 1)) ++ Y.drop (s - (P.length + 1)) := (List.take_append_drop ..).symm
 have l1 : (Y.take (s - (P.length + 1))).length = s - (P.length + 1) := by simp; omega
 have hm := Zwu s (Y.take (s - (P.length + 1))) P (Y.drop (s - (P.length + 1)) ++ Q) x P.length ((((IntKind.i64.wrap ((s : Int) - 1)) : Int) - (P.length : Int)).toNat + 1) rfl (by omega) (by rw [wr (by omega) (by omega)]; omega) (by simp only [List.length_append, List.length_cons, List.length_drop]; omega)
 rw [← List.append_assoc, ← hy] at hm
 show Z9b (s : Int) _ _ _ = _
 rw [hm]
 have h1 : ∀ y ∈ Y.take (s - (P.length + 1)), lt y x = true := fun y hy1 => by
  obtain ⟨i, hi, rfl⟩ := List.getElem_of_mem hy1
  rw [l1] at hi
  have := s3 (i + (P.length + 1)) (by omega) (by omega)
  rw [htv _ (by omega)] at this
  simpa using this
 have h2 : ∀ y ∈ Y.drop (s - (P.length + 1)), lt y x = false := fun y hy1 => by
  obtain ⟨i, hi, rfl⟩ := List.getElem_of_mem hy1
  rw [List.length_drop] at hi
  have := s4 (s + i) (by omega) (by omega)
  rw [htv _ (by omega)] at this
  rw [List.getElem_drop]
  have e : s + i - (P.length + 1) = s - (P.length + 1) + i := by omega
  simpa [e] using this
 have hY' := hY
 rw [hy] at hY'
 have h3 := Zr7 hs (X1 := []) (X2 := [x]) (Y1 := Y.take (s - (P.length + 1))) (Y2 := Y.drop (s - (P.length + 1))) (by simp [Z17]) hY' (by simp) (fun y hy1 u hu => by rw [show u = x by simpa using hu]; exact h1 y hy1)
 simp only [List.nil_append, ← hy] at h3
 have h4 : srt lt ([x] ++ Y.drop (s - (P.length + 1))) = [x] ++ Y.drop (s - (P.length + 1)) := Zgl hs (by
  unfold Z17
  rw [List.pairwise_append]
  exact ⟨by simp, (Zmc hY'), fun u hu v hv => by rw [show u = x by simpa using hu]; exact h2 v hv⟩)
 rw [h4, Zgl hs (Zp4 hY')] at h3
 rw [show x :: Y = [x] ++ Y from rfl, h3]
 simp
theorem Yew (hs : Swo lt) (hc : Z6e lt cmp) (x : Action) (X P Q : List Action) (hX : Z17 lt X) (hl : (P ++ X ++ x :: Q).length ≤ big) :
  Z9w (P ++ X ++ x :: Q) ((P.length + X.length : Nat) : Int) cmp ((((P.length + X.length : Nat) : Int) - (P.length : Int)).toNat + 1) (P.length : Int) ((P.length + X.length : Nat) : Int) = some (P ++ srt lt (X ++ [x]) ++ Q) := by
 have hbig : big = 1000000 := rfl
 simp only [List.length_append, List.length_cons] at hl
 let t : Nat → Bool := fun c => if h : c - P.length < X.length then !lt x X[c - P.length] else false
 have htv : ∀ c (h : c - P.length < X.length), t c = !lt x X[c - P.length] := fun c h => by simp only [t]; rw [dif_pos h]
 obtain ⟨s, s1, s2, s3, s4⟩ := Zn3 t P.length X.length fun c d h1 h2 h3 h4 => by
  rw [htv c (by omega)] at h4
  rw [htv d (by omega)]
  simp only [Bool.not_eq_false'] at h4 ⊢
  cases hd : lt x X[d - P.length]
  ·have := hs.neg _ _ _ hd (Zab hs hX (i := c - P.length) (j := d - P.length) (by omega) (by omega) (by omega))
   rw [this] at h4; cases h4
  ·rfl
 have key := Zio (Z9w (P ++ X ++ x :: Q) ((P.length + X.length : Nat) : Int) cmp) (fun i => Z9u i (((((P.length + X.length : Nat) : Int) : Int) - i).toNat + 1) (P ++ X ++ x :: Q) ((P.length + X.length : Nat) : Int)) t P.length s (P.length + X.length)
  (fun f i j h1 h2 h3 => by
   obtain ⟨c, hc1, hc2⟩ := hc x (X[(i + j) / 2 - P.length]'(by omega))
   have gx : lget (P ++ X ++ x :: Q) ((P.length + X.length : Nat) : Int) = some x := Z5l _ _ _ _ (by simp)
   have gy : lget (P ++ X ++ x :: Q) (((i + j) / 2 : Nat) : Int) = some (X[(i + j) / 2 - P.length]'(by omega)) := Zof P X (x :: Q) _ (by omega) (by omega)
   have e1 : IntKind.i64.wrap ((((i + j) / 2 : Nat) : Int) + 1) = (((i + j) / 2 + 1 : Nat) : Int) := by rw [wr (by omega) (by omega)]; omega
   rw [Z9w, decide_eq_true (by omega), cond_true, Zm9 _ (i + j) (by omega) (by omega), Option.bind_some, Zc6 _ (by omega), gx, Option.bind_some, gy, Option.bind_some, hc1, Option.bind_some, hc2, htv _ (by omega), e1])
  (fun f i h1 h2 => by rw [Z9w, decide_eq_false (by omega), cond_false]) s3 (fun c h1 h2 => s4 c h1 h2)
 rw [key _ _ _ (Nat.le_refl _) s1 s2 (Nat.le_refl _) (by omega)]
 have hx : X = X.take (s - P.length) ++ X.drop (s - P.length) := (List.take_append_drop ..).symm
 have l1 : (X.take (s - P.length)).length = s - P.length := by simp; omega
 have hm := Y3a s (X.drop (s - P.length)).reverse (P ++ X.take (s - P.length)) Q x (P.length + X.length) (((((P.length + X.length : Nat) : Int) : Int) - (s : Int)).toNat + 1) (by simp; omega) (by simp; omega) (by simp; omega) (by simp only [List.length_append, List.length_cons, List.length_reverse, List.length_drop, List.length_take]; omega)
 rw [List.reverse_reverse, List.append_assoc P, ← hx] at hm
 show Z9u (s : Int) _ _ _ = _
 rw [hm]
 have h1 : ∀ u ∈ X.take (s - P.length), lt x u = false := fun u hu => by
  obtain ⟨i, hi, rfl⟩ := List.getElem_of_mem hu
  rw [l1] at hi
  have := s3 (i + P.length) (by omega) (by omega)
  rw [htv _ (by omega)] at this
  simpa using this
 have h2 : ∀ u ∈ X.drop (s - P.length), lt x u = true := fun u hu => by
  obtain ⟨i, hi, rfl⟩ := List.getElem_of_mem hu
  rw [List.length_drop] at hi
  have := s4 (s + i) (by omega) (by omega)
  rw [htv _ (by omega)] at this
  rw [List.getElem_drop]
  have e : s + i - P.length = s - P.length + i := by omega
  simpa [e] using this
 have hX' := hX
 rw [hx] at hX'
 have h3 := Zr7 hs (X1 := X.take (s - P.length)) (X2 := X.drop (s - P.length)) (Y1 := [x]) (Y2 := []) hX' (by simp [Z17]) (by simp) (fun y hy1 u hu => by rw [show y = x by simpa using hy1]; exact h2 u hu)
 simp only [List.append_nil, ← hx] at h3
 have h4 : srt lt (X.take (s - P.length) ++ [x]) = X.take (s - P.length) ++ [x] := Zgl hs (by
  unfold Z17
  rw [List.pairwise_append]
  exact ⟨(Zp4 hX'), by simp, fun u hu v hv => by rw [show v = x by simpa using hv]; exact h1 u hu⟩)
 rw [h4, Zgl hs (Zmc hX')] at h3
 rw [h3]
 simp
end sym
end Go.Proofs.YtknpgojdkobgjaaGreat.W
namespace Go.Proofs.YtknpgojdkobgjaaGreat.W
open Go Go.Wb
section sym
variable {lt : Action → Action → Bool} {cmp : Action → Action → Option Int}
def Zp8 (lt : Action → Action → Bool) (cmp : Action → Action → Option Int) (f : Nat) (R : List Action → Int → Int → Int → (Action → Action → Option Int) → Option (List Action)) : Prop :=
 ∀ (P X Y Q : List Action) (a m b : Int), a = (P.length : Int) → m = (P.length : Int) + (X.length : Int) → b = (P.length : Int) + (X.length : Int) + (Y.length : Int) → 0 < X.length → 0 < Y.length → X.length + Y.length ≤ f → Z17 lt X → Z17 lt Y → (P ++ X ++ Y ++ Q).length ≤ big →
  R (P ++ X ++ Y ++ Q) a m b cmp = some (P ++ srt lt (X ++ Y) ++ Q)
theorem Y3y (hs : Swo lt) {X Y : List Action} (hX : Z17 lt X) (hY : Z17 lt Y) (h : ¬ (0 < X.length ∧ 0 < Y.length)) : srt lt (X ++ Y) = X ++ Y := by
 cases X with
 | nil => exact Zgl hs hY
 | cons x X =>
  cases Y with
  | nil => rw [List.append_nil]; exact Zgl hs hX
  | cons y Y => exact absurd ⟨by simp, by simp⟩ h
theorem Y9n (hs : Swo lt) {f : Nat} {R : List Action → Int → Int → Int → (Action → Action → Option Int) → Option (List Action)} (hR : Zp8 lt cmp f R) (P X2 Y2 Q : List Action) (mid : Nat) (m start b : Int)
  (h1 : mid = P.length) (h2 : (mid : Int) + m - start = (P.length : Int) + (X2.length : Int)) (h3 : b = (P.length : Int) + (X2.length : Int) + (Y2.length : Int)) (hm : 0 ≤ m ∧ m ≤ big) (hst : 0 ≤ start ∧ start ≤ big) (hf : X2.length + Y2.length ≤ f) (hX : Z17 lt X2) (hY : Z17 lt Y2) (hl : (P ++ X2 ++ Y2 ++ Q).length ≤ big) :
  Zhh (BitVec.ofNat 64 mid) m start b R cmp (P ++ X2 ++ Y2 ++ Q) = some (P ++ srt lt (X2 ++ Y2) ++ Q) := by
 have hbig : big = 1000000 := rfl
 have hl' := hl
 simp only [List.length_append] at hl'
 unfold Zhh
 rw [Zc6 mid (by omega)]
 have e1 : IntKind.i64.wrap (IntKind.i64.wrap ((mid : Int) + m) - start) = (P.length : Int) + (X2.length : Int) := by
  rw [wr (n := (mid : Int) + m) (by omega) (by omega), wr (by omega) (by omega), h2]
 rw [e1]
 by_cases hc : 0 < X2.length ∧ 0 < Y2.length
 ·rw [decide_eq_true (by omega), decide_eq_true (by omega), Bool.and_true, cond_true, hR P X2 Y2 Q _ _ _ (by omega) rfl h3 hc.1 hc.2 hf hX hY hl]
  rfl
 ·have : (decide ((mid : Int) < (P.length : Int) + (X2.length : Int)) && decide ((P.length : Int) + (X2.length : Int) < b)) = false := by
   rw [Bool.and_eq_false_iff, decide_eq_false_iff_not, decide_eq_false_iff_not]
   by_cases h : 0 < X2.length
   ·exact .inr (fun h' => hc ⟨h, by omega⟩)
   ·exact .inl (by omega)
  rw [this, cond_false, Y3y hs hX hY hc]
  simp
theorem Yes (hs : Swo lt) {f : Nat} {R : List Action → Int → Int → Int → (Action → Action → Option Int) → Option (List Action)} (hR : Zp8 lt cmp f R) (P X1 Y1 X2 Y2 Q : List Action) (mid : Nat) (a m start b : Int)
  (ha : a = (P.length : Int)) (h1 : mid = P.length + X1.length + Y1.length) (hs1 : start = (P.length : Int) + (X1.length : Int)) (hm : m = start + (X2.length : Int)) (h3 : b = (mid : Int) + (X2.length : Int) + (Y2.length : Int))
  (hf1 : X1.length + Y1.length ≤ f) (hf2 : X2.length + Y2.length ≤ f) (hX1 : Z17 lt X1) (hY1 : Z17 lt Y1) (hX2 : Z17 lt X2) (hY2 : Z17 lt Y2) (hl : (P ++ X1 ++ Y1 ++ X2 ++ Y2 ++ Q).length ≤ big) :
  Zb1 a start (BitVec.ofNat 64 mid) R cmp m b (P ++ X1 ++ Y1 ++ X2 ++ Y2 ++ Q) = some (P ++ srt lt (X1 ++ Y1) ++ srt lt (X2 ++ Y2) ++ Q) := by
 have hbig : big = 1000000 := rfl
 have hl' := hl
 simp only [List.length_append] at hl'
 have hlen : (srt lt (X1 ++ Y1)).length = X1.length + Y1.length := by rw [Z2z hs]; simp
 have last := Y9n hs hR (P ++ srt lt (X1 ++ Y1)) X2 Y2 Q mid m start b (by simp only [List.length_append, hlen]; omega) (by simp only [List.length_append, hlen]; omega) (by simp only [List.length_append, hlen]; omega) (by omega) (by omega) hf2 hX2 hY2 (by simp only [List.length_append, hlen]; omega)
 unfold Zb1
 rw [Zc6 mid (by omega)]
 by_cases hc : 0 < X1.length ∧ 0 < Y1.length
 ·have hr := hR P X1 Y1 (X2 ++ Y2 ++ Q) a start (mid : Int) ha hs1 (by omega) hc.1 hc.2 hf1 hX1 hY1 (by simp only [List.length_append]; omega)
  have e : P ++ X1 ++ Y1 ++ X2 ++ Y2 ++ Q = P ++ X1 ++ Y1 ++ (X2 ++ Y2 ++ Q) := by simp
  have e' : P ++ srt lt (X1 ++ Y1) ++ (X2 ++ Y2 ++ Q) = P ++ srt lt (X1 ++ Y1) ++ X2 ++ Y2 ++ Q := by simp
  rw [decide_eq_true (by omega), decide_eq_true (by omega), Bool.and_true, cond_true, e, hr, Option.bind_some, e', last]
 ·have hd : (decide (a < start) && decide (start < (mid : Int))) = false := by
   rw [Bool.and_eq_false_iff, decide_eq_false_iff_not, decide_eq_false_iff_not]
   by_cases h : 0 < X1.length
   ·exact .inr (fun h' => hc ⟨h, by omega⟩)
   ·exact .inl (by omega)
  rw [hd, cond_false]
  rw [Y3y hs hX1 hY1 hc] at last ⊢
  have e : P ++ X1 ++ Y1 ++ X2 ++ Y2 ++ Q = P ++ (X1 ++ Y1) ++ X2 ++ Y2 ++ Q := by simp
  rw [e, last]
theorem Zxt (hs : Swo lt) (hc : Z6e lt cmp) {f : Nat} {R : List Action → Int → Int → Int → (Action → Action → Option Int) → Option (List Action)} (hR : Zp8 lt cmp f R) (P X Y Q : List Action) (mid lo hi : Nat)
  (hmid : mid = (P.length + (P.length + X.length + Y.length)) / 2) (h2 : 2 ≤ X.length) (h2' : 2 ≤ Y.length) (hf : X.length + Y.length ≤ f + 1) (hX : Z17 lt X) (hY : Z17 lt Y) (hl : (P ++ X ++ Y ++ Q).length ≤ big)
  (hlh : (mid < P.length + X.length ∧ lo + (P.length + X.length + Y.length) = mid + (P.length + X.length) ∧ hi = mid) ∨ (P.length + X.length ≤ mid ∧ lo = P.length ∧ hi = P.length + X.length)) :
  Zfy (P ++ X ++ Y ++ Q) (BitVec.ofNat 64 mid) ((P.length : Int) + (X.length : Int)) cmp (P.length : Int) R ((P.length : Int) + (X.length : Int) + (Y.length : Int)) (lo : Int) (hi : Int) = some (P ++ srt lt (X ++ Y) ++ Q) := by
 have hbig : big = 1000000 := rfl
 have hl' := hl
 simp only [List.length_append] at hl'
 have hin : ∀ c, lo ≤ c → c < hi → P.length ≤ c ∧ c < P.length + X.length ∧ P.length + X.length ≤ mid + (P.length + X.length) - 1 - c ∧ mid + (P.length + X.length) - 1 - c < P.length + X.length + Y.length := fun c a b => by rcases hlh with h | h <;> omega
 let t : Nat → Bool := fun c => if h : (c - P.length < X.length ∧ (mid + (P.length + X.length) - 1 - c) - (P.length + X.length) < Y.length) then !lt (Y[(mid + (P.length + X.length) - 1 - c) - (P.length + X.length)]'h.2) (X[c - P.length]'h.1) else false
 have htv : ∀ c (h1 : c - P.length < X.length) (h2 : (mid + (P.length + X.length) - 1 - c) - (P.length + X.length) < Y.length), t c = !lt (Y[(mid + (P.length + X.length) - 1 - c) - (P.length + X.length)]'h2) (X[c - P.length]'h1) := fun c h1 h2 => by simp only [t]; rw [dif_pos ⟨h1, h2⟩]
 have hlohi : lo ≤ hi := by rcases hlh with h | h <;> omega
 obtain ⟨s, s1, s2, s3, s4⟩ := Zn3 t lo (hi - lo) fun c d h1 h2 h3 h4 => by
  have a1 := hin c h1 (by omega)
  have a2 := hin d (by omega) (by omega)
  rw [htv c (by omega) (by omega)] at h4
  rw [htv d (by omega) (by omega)]
  simp only [Bool.not_eq_false'] at h4 ⊢
  cases hd : lt (Y[(mid + (P.length + X.length) - 1 - d) - (P.length + X.length)]'(by omega)) (X[d - P.length]'(by omega))
  ·have b1 := Zab hs hX (i := c - P.length) (j := d - P.length) (by omega) (by omega) (by omega)
   have b2 := Zab hs hY (i := (mid + (P.length + X.length) - 1 - d) - (P.length + X.length)) (j := (mid + (P.length + X.length) - 1 - c) - (P.length + X.length)) (by omega) (by omega) (by omega)
   rw [hs.neg _ _ _ (hs.neg _ _ _ b2 hd) b1] at h4; cases h4
  ·rfl
 have e0 : lo + (hi - lo) = hi := by omega
 rw [e0] at s2 s4
 unfold Zfy
 have key := Zio (Zc5 (P ++ X ++ Y ++ Q) (BitVec.ofNat 64 mid) ((P.length : Int) + (X.length : Int)) cmp (P.length : Int) R ((P.length : Int) + (X.length : Int) + (Y.length : Int)))
  (fun start => bif ((decide (start < ((P.length : Int) + (X.length : Int)))) && (decide (((P.length : Int) + (X.length : Int)) < (IntKind.i64.wrap ((IntKind.i64.wrap ((IntKind.i64.wrap ((BitVec.ofNat 64 mid).toNat : Int)) + ((P.length : Int) + (X.length : Int)))) - start))))) then (Zh9 (P ++ X ++ Y ++ Q) start ((P.length : Int) + (X.length : Int)) (IntKind.i64.wrap ((IntKind.i64.wrap ((IntKind.i64.wrap ((BitVec.ofNat 64 mid).toNat : Int)) + ((P.length : Int) + (X.length : Int)))) - start)) cmp).bind fun l59 => Zb1 (P.length : Int) start (BitVec.ofNat 64 mid) R cmp ((P.length : Int) + (X.length : Int)) ((P.length : Int) + (X.length : Int) + (Y.length : Int)) l59 else Zb1 (P.length : Int) start (BitVec.ofNat 64 mid) R cmp ((P.length : Int) + (X.length : Int)) ((P.length : Int) + (X.length : Int) + (Y.length : Int)) (P ++ X ++ Y ++ Q))
  t lo s hi
  (fun f i j h1 h2 h3 => by
   have a1 := hin ((i + j) / 2) (by omega) (by omega)
   obtain ⟨c, hc1, hc2⟩ := hc (Y[(mid + (P.length + X.length) - 1 - (i + j) / 2) - (P.length + X.length)]'(by omega)) (X[(i + j) / 2 - P.length]'(by omega))
   have gx : lget (P ++ X ++ Y ++ Q) (((i + j) / 2 : Nat) : Int) = some (X[(i + j) / 2 - P.length]'(by omega)) := by
    rw [List.append_assoc (P ++ X)]
    exact Zof P X (Y ++ Q) _ a1.1 a1.2.1
   have ep : IntKind.i64.wrap (IntKind.i64.wrap (IntKind.i64.wrap ((mid : Int) + ((P.length : Int) + (X.length : Int))) - 1) - (((i + j) / 2 : Nat) : Int)) = ((mid + (P.length + X.length) - 1 - (i + j) / 2 : Nat) : Int) := by
    rw [wr (n := (mid : Int) + ((P.length : Int) + (X.length : Int))) (by omega) (by omega), wr (n := (mid : Int) + ((P.length : Int) + (X.length : Int)) - 1) (by omega) (by omega), wr (by omega) (by omega)]; omega
   have gy : lget (P ++ X ++ Y ++ Q) ((mid + (P.length + X.length) - 1 - (i + j) / 2 : Nat) : Int) = some (Y[(mid + (P.length + X.length) - 1 - (i + j) / 2) - (P.length + X.length)]'(by omega)) := by
    rw [Zof (P ++ X) Y Q _ (by simp; omega) (by simp; omega)]
    simp
   have e1 : IntKind.i64.wrap ((((i + j) / 2 : Nat) : Int) + 1) = (((i + j) / 2 + 1 : Nat) : Int) := by rw [wr (by omega) (by omega)]; omega
   rw [Zc5, decide_eq_true (by omega), cond_true, Zm9 _ (i + j) (by omega) (by omega), Option.bind_some, Zc6 mid (by omega), Zc6 ((i + j) / 2) (by omega), ep, gy, Option.bind_some, gx, Option.bind_some, hc1, Option.bind_some, hc2, htv _ (by omega) (by omega), e1])
  (fun f i h1 h2 => by rw [Zc5, decide_eq_false (by omega), cond_false]) s3 (fun c h1 h2 => s4 c h1 h2)
 rw [key _ _ _ (Nat.le_refl _) s1 s2 (Nat.le_refl _) (by omega)]
 have hsm : P.length ≤ s ∧ s ≤ P.length + X.length ∧ s ≤ mid ∧ mid + X.length ≤ s + (X.length + Y.length) := by rcases hlh with h | h <;> omega
 have hx : X = X.take (s - P.length) ++ X.drop (s - P.length) := (List.take_append_drop ..).symm
 have hy : Y = Y.take (mid - s) ++ Y.drop (mid - s) := (List.take_append_drop ..).symm
 have l1 : (X.take (s - P.length)).length = s - P.length := by simp; omega
 have l2 : (X.drop (s - P.length)).length = P.length + X.length - s := by simp; omega
 have l3 : (Y.take (mid - s)).length = mid - s := by simp; omega
 have l4 : (Y.drop (mid - s)).length = Y.length - (mid - s) := by simp
 have hX' := hX
 rw [hx] at hX'
 have hY' := hY
 rw [hy] at hY'
 have hx1 : ∀ x ∈ X.take (s - P.length), ∀ y ∈ Y.drop (mid - s), lt y x = false := fun x hxm y hym => by
  obtain ⟨i, hii, rfl⟩ := List.getElem_of_mem hxm
  obtain ⟨j, hj, rfl⟩ := List.getElem_of_mem hym
  rw [l1] at hii
  rw [l4] at hj
  have hc' : lo ≤ s - 1 := by rcases hlh with h | h <;> omega
  have a1 := hin (s - 1) hc' (by omega)
  have := s3 (s - 1) hc' (by omega)
  rw [htv _ (by omega) (by omega), Bool.not_eq_true'] at this
  rw [List.getElem_drop, List.getElem_take]
  have b1 := Zab hs hX (i := i) (j := s - 1 - P.length) (by omega) (by omega) (by omega)
  have b2 := Zab hs hY (i := (mid + (P.length + X.length) - 1 - (s - 1)) - (P.length + X.length)) (j := mid - s + j) (by omega) (by omega) (by omega)
  exact hs.neg _ _ _ (hs.neg _ _ _ b2 this) b1
 have hx2 : ∀ y ∈ Y.take (mid - s), ∀ x ∈ X.drop (s - P.length), lt y x = true := fun y hym x hxm => by
  obtain ⟨i, hii, rfl⟩ := List.getElem_of_mem hxm
  obtain ⟨j, hj, rfl⟩ := List.getElem_of_mem hym
  rw [l3] at hj
  rw [l2] at hii
  have hc' : s < hi := by rcases hlh with h | h <;> omega
  have a1 := hin s s1 hc'
  have := s4 s (Nat.le_refl _) hc'
  rw [htv _ (by omega) (by omega), Bool.not_eq_false'] at this
  rw [List.getElem_drop, List.getElem_take]
  have b1 := Zab hs hX (i := s - P.length) (j := s - P.length + i) (by omega) (by omega) (by omega)
  have b2 := Zab hs hY (i := j) (j := (mid + (P.length + X.length) - 1 - s) - (P.length + X.length)) (by omega) (by omega) (by omega)
  cases hd : lt (Y[j]'(by omega)) (X[s - P.length + i]'(by omega))
  ·rw [hs.neg _ _ _ (hs.neg _ _ _ b2 hd) b1] at this; cases this
  ·rfl
 have hsp := Zr7 hs hX' hY' hx1 hx2
 rw [← hx, ← hy] at hsp
 rw [hsp]
 generalize X.take (s - P.length) = X1 at *
 generalize X.drop (s - P.length) = X2 at *
 generalize Y.take (mid - s) = Y1 at *
 generalize Y.drop (mid - s) = Y2 at *
 have last := Yes hs hR P X1 Y1 X2 Y2 Q mid (P.length : Int) ((P.length : Int) + (X.length : Int)) (s : Int) ((P.length : Int) + (X.length : Int) + (Y.length : Int)) rfl (by omega) (by omega) (by omega) (by omega) (by omega) (by omega) (Zp4 hX') (Zp4 hY') (Zmc hX') (Zmc hY') (by simp only [List.length_append]; omega)
 have ee : IntKind.i64.wrap (IntKind.i64.wrap ((mid : Int) + ((P.length : Int) + (X.length : Int))) - (s : Int)) = ((P ++ X1 ++ X2 ++ Y1).length : Int) := by
  rw [wr (n := (mid : Int) + ((P.length : Int) + (X.length : Int))) (by omega) (by omega), wr (by omega) (by omega)]; simp only [List.length_append]; omega
 have eres : P ++ srt lt (X1 ++ Y1) ++ srt lt (X2 ++ Y2) ++ Q = P ++ (srt lt (X1 ++ Y1) ++ srt lt (X2 ++ Y2)) ++ Q := by simp
 rw [eres] at last
 show (bif _ then _ else _) = _
 rw [Zc6 mid (by omega), ee]
 have hlen4 : (P ++ X1 ++ X2 ++ Y1).length = P.length + X1.length + X2.length + Y1.length := by simp only [List.length_append]
 by_cases hcc : 0 < X2.length ∧ 0 < Y1.length
 ·have eL : P ++ X ++ Y ++ Q = (P ++ X1) ++ X2 ++ Y1 ++ (Y2 ++ Q) := by rw [hx, hy]; simp
  have hr := Yei cmp X2 Y1 (P ++ X1) (Y2 ++ Q) (s : Int) ((P.length : Int) + (X.length : Int)) ((P ++ X1 ++ X2 ++ Y1).length : Int) hcc.1 hcc.2 (by simp only [List.length_append]; omega) (by simp only [List.length_append]; omega) rfl (by simp only [List.length_append]; omega)
  have eR : (P ++ X1) ++ Y1 ++ X2 ++ (Y2 ++ Q) = P ++ X1 ++ Y1 ++ X2 ++ Y2 ++ Q := by simp
  rw [decide_eq_true (by omega), decide_eq_true (by omega), Bool.and_true, cond_true, eL, hr, Option.bind_some, eR, last]
 ·have hd : (decide ((s : Int) < (P.length : Int) + (X.length : Int)) && decide ((P.length : Int) + (X.length : Int) < ((P ++ X1 ++ X2 ++ Y1).length : Int))) = false := by
   rw [Bool.and_eq_false_iff, decide_eq_false_iff_not, decide_eq_false_iff_not]
   by_cases h : 0 < X2.length
   ·exact .inr (fun h' => hcc ⟨h, by omega⟩)
   ·exact .inl (by omega)
  have eL : P ++ X ++ Y ++ Q = P ++ X1 ++ Y1 ++ X2 ++ Y2 ++ Q := by
   rw [hx, hy]
   have : X2 = [] ∨ Y1 = [] := by
    rcases Nat.eq_zero_or_pos X2.length with h | h
    ·exact .inl (List.eq_nil_of_length_eq_zero h)
    ·rcases Nat.eq_zero_or_pos Y1.length with h' | h'
     ·exact .inr (List.eq_nil_of_length_eq_zero h')
     ·exact absurd ⟨h, h'⟩ hcc
   rcases this with h | h
   ·subst h; simp
   ·subst h; simp
  rw [hd, cond_false, eL, last]
theorem Ztw (hs : Swo lt) (hc : Z6e lt cmp) : ∀ f, Zp8 lt cmp f (Zf7 f)
 | 0 => fun P X Y Q a m b _ _ _ h1 h2 h3 => by omega
 | f + 1 => by
  intro P X Y Q a m b ha hm hb h1 h2 h3 hX hY hl
  subst ha hm hb
  have hbig : big = 1000000 := rfl
  have hl' := hl
  simp only [List.length_append] at hl'
  show Zkv (Zf7 f) _ _ _ _ _ = _
  unfold Zkv
  have e1 : IntKind.i64.wrap ((P.length : Int) + (X.length : Int) - (P.length : Int)) = (X.length : Int) := by rw [wr (by omega) (by omega)]; omega
  have e2 : IntKind.i64.wrap ((P.length : Int) + (X.length : Int) + (Y.length : Int) - ((P.length : Int) + (X.length : Int))) = (Y.length : Int) := by rw [wr (by omega) (by omega)]; omega
  rw [e1, e2]
  by_cases hx1 : X.length = 1
  ·obtain ⟨x, rfl⟩ : ∃ x, X = [x] := List.length_eq_one_iff.1 hx1
   have := Y90 hs hc x Y P Q hY (by simpa using hl)
   rw [decide_eq_true (by omega), cond_true]
   have e : P ++ [x] ++ Y ++ Q = P ++ x :: (Y ++ Q) := by simp
   have e4 : (P.length : Int) + ([x].length : Int) = ((P.length + 1 : Nat) : Int) := by simp
   have e5 : ((P.length + 1 : Nat) : Int) + (Y.length : Int) = ((P.length + 1 + Y.length : Nat) : Int) := by omega
   rw [e, e4, e5, this]; rfl
  ·rw [decide_eq_false (by omega), cond_false]
   by_cases hy1 : Y.length = 1
   ·obtain ⟨y, rfl⟩ : ∃ y, Y = [y] := List.length_eq_one_iff.1 hy1
    have := Yew hs hc y X P Q hX (by simpa using hl)
    rw [decide_eq_true (by omega), cond_true]
    have e : P ++ X ++ [y] ++ Q = P ++ X ++ y :: Q := by simp
    have e4 : (P.length : Int) + (X.length : Int) = ((P.length + X.length : Nat) : Int) := by omega
    rw [e, e4, this]
   ·rw [decide_eq_false (by omega), cond_false, Zm9 _ (P.length + (P.length + X.length + Y.length)) (by omega) (by omega), Option.bind_some, Zc6 _ (by omega)]
    by_cases hmm : (P.length + (P.length + X.length + Y.length)) / 2 < P.length + X.length
    ·rw [decide_eq_true (by omega), cond_true]
     have e3 : IntKind.i64.wrap (IntKind.i64.wrap ((((P.length + (P.length + X.length + Y.length)) / 2 : Nat) : Int) + ((P.length : Int) + (X.length : Int))) - ((P.length : Int) + (X.length : Int) + (Y.length : Int))) = (((P.length + (P.length + X.length + Y.length)) / 2 + (P.length + X.length) - (P.length + X.length + Y.length) : Nat) : Int) := by
      rw [wr (n := (((P.length + (P.length + X.length + Y.length)) / 2 : Nat) : Int) + ((P.length : Int) + (X.length : Int))) (by omega) (by omega), wr (by omega) (by omega)]; omega
     rw [e3]
     exact Zxt hs hc (Ztw hs hc f) P X Y Q _ _ _ rfl (by omega) (by omega) (by omega) hX hY hl (.inl ⟨hmm, by omega, rfl⟩)
    ·rw [decide_eq_false (by omega), cond_false]
     have e4 : (P.length : Int) + (X.length : Int) = ((P.length + X.length : Nat) : Int) := by omega
     have := Zxt hs hc (Ztw hs hc f) P X Y Q _ P.length (P.length + X.length) rfl (by omega) (by omega) (by omega) hX hY hl (.inr ⟨by omega, rfl, rfl⟩)
     rw [← e4] at this
     exact this
theorem Y3k (hs : Swo lt) (hc : Z6e lt cmp) (P X Y Q : List Action) (a m b : Int) (ha : a = (P.length : Int)) (hm : m = (P.length : Int) + (X.length : Int)) (hb : b = (P.length : Int) + (X.length : Int) + (Y.length : Int)) (h1 : 0 < X.length) (h2 : 0 < Y.length) (hX : Z17 lt X) (hY : Z17 lt Y) (hl : (P ++ X ++ Y ++ Q).length ≤ big) :
  Zpi (P ++ X ++ Y ++ Q) a m b cmp = some (P ++ srt lt (X ++ Y) ++ Q) :=
 Ztw hs hc Z0l P X Y Q a m b ha hm hb h1 h2 (by have hbig : big = 1000000 := rfl; simp only [List.length_append] at hl; unfold Z0l; omega) hX hY hl
end sym
end Go.Proofs.YtknpgojdkobgjaaGreat.W
namespace Go.Proofs.YtknpgojdkobgjaaGreat.W
open Go Go.Wb
section ins
variable {lt : Action → Action → Bool} {cmp : Action → Action → Option Int}
theorem Y19 (hc : Z6e lt cmp) (go : List Action → Int → Option (List Action)) (i : Int) (P : List Action) (x : Action) : ∀ (R S : List Action) (m : Nat), R.length < m → (P ++ R.reverse ++ x :: S).length ≤ big →
  Z8y (P.length : Int) cmp go i m (P ++ R.reverse ++ x :: S) ((P.length + R.length : Nat) : Int) = go (P ++ (Z1a lt x R).reverse ++ S) (IntKind.i64.wrap (i + 1))
 | [], S, m, h, _ => by
  obtain ⟨m, rfl⟩ : ∃ k, m = k + 1 := ⟨m - 1, by simp at h; omega⟩
  rw [Z8y, decide_eq_false (by simp)]
  simp [opt, Z1a]
 | y :: R, S, m, h, hl => by
  have hbig : big = 1000000 := rfl
  simp only [List.length_cons, List.length_append, List.length_reverse] at h hl
  obtain ⟨m, rfl⟩ : ∃ k, m = k + 1 := ⟨m - 1, by omega⟩
  have e0 : P ++ (y :: R).reverse ++ x :: S = (P ++ R.reverse) ++ y :: (x :: S) := by simp
  have ej : IntKind.i64.wrap (((P.length + (y :: R).length : Nat) : Int) - 1) = ((P.length + R.length : Nat) : Int) := by rw [wr (by simp only [List.length_cons]; omega) (by simp only [List.length_cons]; omega)]; simp only [List.length_cons]; omega
  have g1 : ∀ a b : Action, lget ((P ++ R.reverse) ++ a :: (b :: S)) ((P.length + (y :: R).length : Nat) : Int) = some b := fun a b => by
   have : (P ++ R.reverse) ++ a :: (b :: S) = (P ++ R.reverse ++ [a]) ++ b :: S := by simp
   rw [this]; exact Z5l _ _ _ _ (by simp)
  have g0 : ∀ a b : Action, lget ((P ++ R.reverse) ++ a :: (b :: S)) ((P.length + R.length : Nat) : Int) = some a := fun a b => Z5l _ _ _ _ (by simp)
  have s1 : ∀ a b c : Action, List.set ((P ++ R.reverse) ++ a :: (b :: S)) (((P.length + (y :: R).length : Nat) : Int)).toNat c = (P ++ R.reverse) ++ a :: (c :: S) := fun a b c => by
   have : (P ++ R.reverse) ++ a :: (b :: S) = (P ++ R.reverse ++ [a]) ++ b :: S := by simp
   rw [this, Int.toNat_natCast, Z8c _ _ _ _ _ (by simp)]; simp
  have s0 : ∀ a b c : Action, List.set ((P ++ R.reverse) ++ a :: (b :: S)) (((P.length + R.length : Nat) : Int)).toNat c = (P ++ R.reverse) ++ c :: (b :: S) := fun a b c => by
   rw [Int.toNat_natCast, Z8c _ _ _ _ _ (by simp)]
  obtain ⟨c, hc1, hc2⟩ := hc x y
  rw [e0, Z8y, decide_eq_true (by simp only [List.length_cons]; omega), Z7u, g1, Option.bind_some, Z7u, ej, g0, Option.bind_some, Z7u, hc1, Option.bind_some, Bool.true_and, hc2, Z1a]
  cases lt x y
  ·rw [cond_false, cond_false]
   simp
  ·rw [cond_true, cond_true, Option.bind_some, Option.bind_some, Option.bind_some, s1, g0, Option.bind_some, s0, Y19 hc go i P x R (y :: S) m (by omega) (by simp only [List.length_append, List.length_cons, List.length_reverse]; omega)]
   simp
theorem Zsj (x : Action) (R : List Action) : (Z1a lt x R).length = R.length + 1 := by
 induction R with
 | nil => rfl
 | cons y R ih => rw [Z1a]; cases lt x y <;> simp [ih]
theorem Y14 (hc : Z6e lt cmp) (P Q : List Action) : ∀ (T R : List Action) (m : Nat), T.length < m → (P ++ R.reverse ++ T ++ Q).length ≤ big →
  Z71 ((P.length + R.length + T.length : Nat) : Int) (P.length : Int) cmp m (P ++ R.reverse ++ T ++ Q) ((P.length + R.length : Nat) : Int) = some (P ++ (T.foldl (fun R x => Z1a lt x R) R).reverse ++ Q)
 | [], R, m, h, _ => by
  obtain ⟨m, rfl⟩ : ∃ k, m = k + 1 := ⟨m - 1, by simp at h; omega⟩
  rw [Z71, decide_eq_false (by simp), cond_false]
  simp
 | x :: T, R, m, h, h2 => by
  have hbig : big = 1000000 := rfl
  simp only [List.length_cons, List.length_append, List.length_reverse] at h h2
  obtain ⟨m, rfl⟩ : ∃ k, m = k + 1 := ⟨m - 1, by omega⟩
  have e : IntKind.i64.wrap (((P.length + R.length : Nat) : Int) + 1) = ((P.length + (Z1a lt x R).length : Nat) : Int) := by rw [Zsj, wr (by omega) (by omega)]; omega
  have hn : P.length + R.length + (x :: T).length = P.length + (Z1a lt x R).length + T.length := by rw [Zsj, List.length_cons]; omega
  have e0 : P ++ R.reverse ++ x :: T ++ Q = P ++ R.reverse ++ x :: (T ++ Q) := by simp
  rw [Z71, decide_eq_true (by simp only [List.length_cons]; omega), cond_true, e0, Y19 hc _ _ P x R (T ++ Q) Z0l (by unfold Z0l; omega) (by simp only [List.length_append, List.length_cons, List.length_reverse]; omega), e, hn,
   ← List.append_assoc, Y14 hc P Q T (Z1a lt x R) m (by omega) (by simp only [List.length_append, List.length_reverse, Zsj]; omega), List.foldl_cons]
theorem Y07 (hc : Z6e lt cmp) (P L Q : List Action) (a b : Int) (ha : a = (P.length : Int)) (hb : b = (P.length : Int) + (L.length : Int)) (h : (P ++ L ++ Q).length ≤ big) : Zc4 (P ++ L ++ Q) a b cmp = some (P ++ srt lt L ++ Q) := by
 subst ha hb
 have hbig : big = 1000000 := rfl
 have h' := h
 simp only [List.length_append] at h'
 unfold Zc4 srt
 cases L with
 | nil =>
  rw [wr (by omega) (by omega)]
  obtain ⟨m, hm⟩ : ∃ m, (((P.length : Int) + (([] : List Action).length : Int)) - ((P.length : Int) + 1)).toNat + 1 = m + 1 := ⟨_, rfl⟩
  rw [hm, Z71, decide_eq_false (by simp only [List.length_nil]; omega), cond_false]
  rfl
 | cons x L =>
  simp only [List.length_cons] at h'
  have := Y14 hc P Q L [x] ((((P.length : Int) + ((x :: L).length : Int)) - ((P.length : Int) + 1)).toNat + 1) (by simp only [List.length_cons]; omega) (by simp only [List.length_append, List.length_reverse, List.length_cons, List.length_nil]; omega)
  have e1 : ((P.length + [x].length + L.length : Nat) : Int) = (P.length : Int) + ((x :: L).length : Int) := by simp; omega
  have e2 : ((P.length + [x].length : Nat) : Int) = (P.length : Int) + 1 := by simp
  have e3 : P ++ [x].reverse ++ L ++ Q = P ++ x :: L ++ Q := by simp
  rw [e1, e2, e3] at this
  rw [wr (by omega) (by omega), this]
  rfl
end ins
end Go.Proofs.YtknpgojdkobgjaaGreat.W
namespace Go.Proofs.YtknpgojdkobgjaaGreat.W
open Go Go.Wb
section stable
variable {lt : Action → Action → Bool} {cmp : Action → Action → Option Int}
def Z5d (lt : Action → Action → Bool) (s : Nat) (L : List Action) : List Action :=
 if h : s = 0 ∨ L.length < s then srt lt L else srt lt (L.take s) ++ Z5d lt s (L.drop s)
termination_by L.length
decreasing_by simp; omega
theorem Zez {s : Nat} {L : List Action} (h : L.length < s) : Z5d lt s L = srt lt L := by rw [Z5d, dif_pos (.inr h)]
theorem Zdn {s : Nat} {A L : List Action} (hA : A.length = s) (h0 : 0 < s) : Z5d lt s (A ++ L) = srt lt A ++ Z5d lt s L := by
 subst hA
 rw [Z5d, dif_neg (by rw [List.length_append]; omega), List.take_left, List.drop_left]
theorem Yac : srt lt ([] : List Action) = [] := rfl
theorem Y26 {s : Nat} {L : List Action} (h : L.length ≤ s) (h0 : 0 < s) : Z5d lt s L = srt lt L := by
 rcases Nat.lt_or_eq_of_le h with h1 | h1
 ·exact Zez h1
 ·have := Zdn (lt := lt) (L := []) h1 h0
  have e : Z5d lt s [] = srt lt [] := Zez (by simpa using h0)
  rw [List.append_nil, e, Yac, List.append_nil] at this
  exact this
theorem Zy7 (hs : Swo lt) (s : Nat) (h0 : 0 < s) : ∀ (n : Nat) (L : List Action), L.length ≤ n → (Z5d lt s L).length = L.length
 | 0, L, h => by rw [Zez (by omega), Z2z hs]
 | n + 1, L, h => by
  by_cases hl : L.length < s
  ·rw [Zez hl, Z2z hs]
  ·have e : L = L.take s ++ L.drop s := (List.take_append_drop ..).symm
   have h1 : (L.take s).length = s := by simp; omega
   rw [e, Zdn h1 h0, List.length_append, Z2z hs, Zy7 hs s h0 n (L.drop s) (by simp; omega), List.length_append]
theorem Zvt (hs : Swo lt) (hc : Z6e lt cmp) (n : Nat) : ∀ (k : Nat) (D L : List Action) (f : Nat), L.length ≤ k → D.length + L.length = n → n ≤ 100000 → L.length < f * 20 →
  Zdo (n : Int) cmp f (D ++ L) (D.length : Int) ((D.length + 20 : Nat) : Int) = Z8w (n : Int) cmp (((n : Int) - 20).toNat + 1) (D ++ Z5d lt 20 L) 20
 | k, D, L, 0, _, _, _, h => by omega
 | k, D, L, f + 1, hk, hn, hb, hf => by
  have hbig : big = 1000000 := rfl
  rw [Zdo]
  by_cases hl : L.length < 20
  ·have := Y07 hc D L [] (D.length : Int) (n : Int) rfl (by omega) (by simp only [List.length_append, List.length_nil]; omega)
   simp only [List.append_nil] at this
   rw [decide_eq_false (by omega), cond_false, this, Option.bind_some, Zez hl]
  ·obtain ⟨k, rfl⟩ : ∃ j, k = j + 1 := ⟨k - 1, by omega⟩
   have e : L = L.take 20 ++ L.drop 20 := (List.take_append_drop ..).symm
   have h1 : (L.take 20).length = 20 := by simp; omega
   have h2 : (L.drop 20).length = L.length - 20 := by simp
   generalize L.take 20 = A at *
   generalize L.drop 20 = B at *
   subst e
   have := Y07 hc D A B (D.length : Int) ((D.length + 20 : Nat) : Int) rfl (by omega) (by simp only [List.length_append] at hn ⊢; omega)
   have e20 : IntKind.i64.wrap (((D.length + 20 : Nat) : Int) + 20) = (((D ++ srt lt A).length + 20 : Nat) : Int) := by rw [wr (by omega) (by omega), List.length_append, Z2z hs]; omega
   have e21 : ((D.length + 20 : Nat) : Int) = ((D ++ srt lt A).length : Int) := by rw [List.length_append, Z2z hs]; omega
   simp only [List.length_append] at hn hl hf hk
   rw [decide_eq_true (by omega), cond_true, ← List.append_assoc, this, Option.bind_some, e20, e21,
    Zvt hs hc n k (D ++ srt lt A) B f (by omega) (by simp only [List.length_append, Z2z hs]; omega) hb (by omega), Zdn h1 (by omega)]
   simp
theorem Y23 (hs : Swo lt) (hc : Z6e lt cmp) (go : List Action → Int → Option (List Action)) (n s : Nat) (hs0 : 0 < s) (hs1 : s ≤ 100000) : ∀ (k : Nat) (D L : List Action) (f : Nat), L.length ≤ k → D.length + L.length = n → n ≤ 100000 → L.length < f * (2 * s) →
  Zh2 (n : Int) (s : Int) cmp go f (D ++ Z5d lt s L) (D.length : Int) ((D.length + 2 * s : Nat) : Int) = go (D ++ Z5d lt (2 * s) L) ((2 * s : Nat) : Int)
 | k, D, L, 0, _, _, _, h => by omega
 | k, D, L, f + 1, hk, hn, hb, hf => by
  have hbig : big = 1000000 := rfl
  rw [Zh2]
  have em : IntKind.i64.wrap ((D.length : Int) + (s : Int)) = ((D.length + s : Nat) : Int) := by rw [wr (by omega) (by omega)]; omega
  have eg : IntKind.i64.wrap ((s : Int) * 2) = ((2 * s : Nat) : Int) := by rw [wr (by omega) (by omega)]; omega
  by_cases hl : L.length < 2 * s
  ·rw [decide_eq_false (by omega), cond_false, em, eg, Zez hl]
   by_cases hl2 : s < L.length
   ·have e : L = L.take s ++ L.drop s := (List.take_append_drop ..).symm
    have h1 : (L.take s).length = s := by simp; omega
    have h2 : (L.drop s).length = L.length - s := by simp
    generalize L.take s = A at *
    generalize L.drop s = B at *
    subst e
    simp only [List.length_append] at hn hl hl2
    rw [Zdn h1 hs0, Zez (by omega)]
    have := Y3k hs hc D (srt lt A) (srt lt B) [] (D.length : Int) ((D.length + s : Nat) : Int) (n : Int) rfl (by rw [Z2z hs]; omega) (by rw [Z2z hs, Z2z hs]; omega) (by rw [Z2z hs]; omega) (by rw [Z2z hs]; omega) (Z9h hs _) (Z9h hs _)
     (by simp only [List.length_append, Z2z hs, List.length_nil]; omega)
    simp only [List.append_nil, List.append_assoc] at this
    rw [decide_eq_true (by omega), cond_true, this, Option.bind_some, Y57 hs]
   ·rw [decide_eq_false (by omega), cond_false, Y26 (by omega) hs0]
  ·obtain ⟨k, rfl⟩ : ∃ j, k = j + 1 := ⟨k - 1, by omega⟩
   have e : L = L.take s ++ ((L.drop s).take s ++ (L.drop s).drop s) := by rw [List.take_append_drop, List.take_append_drop]
   have h1 : (L.take s).length = s := by simp; omega
   have h2 : ((L.drop s).take s).length = s := by simp; omega
   have h3 : ((L.drop s).drop s).length = L.length - 2 * s := by simp; omega
   generalize L.take s = A at *
   generalize (L.drop s).take s = B at *
   generalize (L.drop s).drop s = E at *
   subst e
   simp only [List.length_append] at hn hl hk hf
   have hf' : E.length < f * (2 * s) := by rw [Nat.add_mul] at hf; omega
   have hE := Zy7 hs s hs0 E.length E (Nat.le_refl _)
   have := Y3k hs hc D (srt lt A) (srt lt B) (Z5d lt s E) (D.length : Int) ((D.length + s : Nat) : Int) ((D.length + 2 * s : Nat) : Int) rfl (by rw [Z2z hs]; omega) (by rw [Z2z hs, Z2z hs]; omega) (by rw [Z2z hs]; omega) (by rw [Z2z hs]; omega) (Z9h hs _) (Z9h hs _)
    (by simp only [List.length_append, Z2z hs, hE]; omega)
   have e2 : D ++ Z5d lt s (A ++ (B ++ E)) = D ++ srt lt A ++ srt lt B ++ Z5d lt s E := by rw [Zdn h1 hs0, Zdn h2 hs0]; simp
   have e3 : IntKind.i64.wrap (((D.length + 2 * s : Nat) : Int) + IntKind.i64.wrap (2 * (s : Int))) = (((D ++ srt lt (A ++ B)).length + 2 * s : Nat) : Int) := by
    rw [wr (n := 2 * (s : Int)) (by omega) (by omega), wr (by omega) (by omega), List.length_append, Z2z hs, List.length_append]; omega
   have e4 : ((D.length + 2 * s : Nat) : Int) = ((D ++ srt lt (A ++ B)).length : Int) := by rw [List.length_append, Z2z hs, List.length_append]; omega
   rw [decide_eq_true (by omega), cond_true, em, e2, this, Option.bind_some, Y57 hs, e3, e4,
    Y23 hs hc go n s hs0 hs1 k (D ++ srt lt (A ++ B)) E f (by omega) (by simp only [List.length_append, Z2z hs]; omega) hb hf']
   have e5 : A ++ (B ++ E) = (A ++ B) ++ E := by simp
   rw [e5, Zdn (by simp; omega) (by omega)]
   simp
theorem Zxb (hs : Swo lt) (hc : Z6e lt cmp) (L : List Action) (hb : L.length ≤ 100000) : ∀ (f s : Nat), 0 < f → 0 < s → s ≤ 200000 → L.length < f + s →
  Z8w (L.length : Int) cmp f (Z5d lt s L) (s : Int) = some (srt lt L)
 | 0, s, hf, h0, h1, h2 => by omega
 | f + 1, s, hf, h0, h1, h2 => by
  rw [Z8w]
  by_cases hl : s < L.length
  ·have e2 : IntKind.i64.wrap (2 * (s : Int)) = ((2 * s : Nat) : Int) := by rw [wr (by omega) (by omega)]; omega
   have := Y23 hs hc (Z8w (L.length : Int) cmp f) L.length s h0 (by omega) L.length [] L ((((L.length : Int) : Int) - ((2 * s : Nat) : Int)).toNat + 2) (Nat.le_refl _) (by simp) hb (by
    have h3 : L.length < (L.length - 2 * s + 2) * (2 * s) := by
     have : L.length - 2 * s + 2 ≤ (L.length - 2 * s + 2) * (2 * s) := Nat.le_mul_of_pos_right _ (by omega)
     by_cases hc : L.length < 2 * s
     ·have : 2 * (2 * s) ≤ (L.length - 2 * s + 2) * (2 * s) := Nat.mul_le_mul_right _ (by omega)
      omega
     ·have e : (L.length - 2 * s + 2) * (2 * s) = (L.length - 2 * s + 1) * (2 * s) + 2 * s := by rw [show L.length - 2 * s + 2 = (L.length - 2 * s + 1) + 1 from rfl, Nat.add_mul, Nat.one_mul]
      have : L.length - 2 * s + 1 ≤ (L.length - 2 * s + 1) * (2 * s) := Nat.le_mul_of_pos_right _ (by omega)
      omega
    have e : (((L.length : Int) : Int) - ((2 * s : Nat) : Int)).toNat + 2 = L.length - 2 * s + 2 := by omega
    rw [e]; exact h3)
   simp only [List.nil_append, List.length_nil, Nat.zero_add] at this
   rw [decide_eq_true (by omega), cond_true, e2]
   have e0 : ((0 : Nat) : Int) = 0 := rfl
   rw [e0] at this
   rw [this, Zxb hs hc L hb f (2 * s) (by omega) (by omega) (by omega) (by omega)]
  ·rw [decide_eq_false (by omega), cond_false, Y26 (by omega) h0]
theorem Ymu (hs : Swo lt) (hc : Z6e lt cmp) (L : List Action) (hb : L.length ≤ 100000) : Zdj L cmp = some (srt lt L) := by
 unfold Zdj Zkh
 have h1 := Zvt hs hc L.length L.length [] L ((((L.length : Int) : Int) - 20).toNat + 2) (Nat.le_refl _) (by simp) hb (by omega)
 have h2 := Zxb hs hc L hb ((((L.length : Int) : Int) - 20).toNat + 1) 20 (by omega) (by omega) (by omega) (by omega)
 simp only [List.nil_append, List.length_nil, Nat.zero_add] at h1
 have e0 : ((0 : Nat) : Int) = 0 := rfl
 have e20 : ((20 : Nat) : Int) = 20 := rfl
 rw [e0, e20] at h1
 rw [e20] at h2
 rw [h1, h2]; rfl
end stable
end Go.Proofs.YtknpgojdkobgjaaGreat.W
namespace Go.Proofs.YtknpgojdkobgjaaGreat.W
open Go Go.Wb
def Z27 (a b : Wide) : Wide := ⟨a.Hi &&& b.Hi, a.Lo &&& b.Lo⟩
def wor (a b : Wide) : Wide := ⟨a.Hi ||| b.Hi, a.Lo ||| b.Lo⟩
def Z6v (a b : Wide) : Wide := ⟨a.Hi ^^^ b.Hi, a.Lo ^^^ b.Lo⟩
def Z4a (a b : Wide) : Wide := ⟨a.Hi &&& ~~~b.Hi, a.Lo &&& ~~~b.Lo⟩
def wt (a : Wide) (i : Nat) : Bool := bif Nat.blt i 64 then a.Lo.getLsbD i else a.Hi.getLsbD (i - 64)
def Z5y (i : Nat) : Wide := bif Nat.blt i 64 then ⟨0, 1#64 <<< i⟩ else ⟨1#64 <<< (i - 64), 0⟩
theorem Zax {i n : Nat} (h : i < n) : Nat.blt i n = true := by simpa using h
theorem Zbz {i n : Nat} (h : ¬ i < n) : Nat.blt i n = false := by
 cases hb : Nat.blt i n
 ·rfl
 ·exact absurd (by simpa using hb) h
theorem Zbo {a b : Wide} (h : ∀ i, i < 128 → wt a i = wt b i) : a = b := by
 obtain ⟨ah, al⟩ := a
 obtain ⟨bh, bl⟩ := b
 have h1 : ah = bh := BitVec.eq_of_getLsbD_eq fun i hi => by
  have := h (i + 64) (by omega)
  unfold wt at this
  rw [Zbz (by omega)] at this
  simpa using this
 have h2 : al = bl := BitVec.eq_of_getLsbD_eq fun i hi => by
  have := h i (by omega)
  unfold wt at this
  rw [Zax (by omega)] at this
  simpa using this
 rw [h1, h2]
theorem Z2y (a b : Wide) (i : Nat) : wt (Z27 a b) i = (wt a i && wt b i) := by
 unfold wt Z27
 cases Nat.blt i 64 <;> simp
theorem Z5n (a b : Wide) (i : Nat) : wt (wor a b) i = (wt a i || wt b i) := by
 unfold wt wor
 cases Nat.blt i 64 <;> simp
theorem Zd7 (a b : Wide) (i : Nat) : wt (Z6v a b) i = (wt a i != wt b i) := by
 unfold wt Z6v
 cases Nat.blt i 64 <;> simp
theorem Z4v (a b : Wide) (i : Nat) (h : i < 128) : wt (Z4a a b) i = (wt a i && !wt b i) := by
 unfold wt Z4a
 by_cases hi : i < 64
 ·rw [Zax hi]; simp [hi]
 ·rw [Zbz hi]; simp [show i - 64 < 64 by omega]
theorem Zra (i : Nat) : wt Z0j i = false := by
 unfold wt Z0j
 cases Nat.blt i 64 <;> simp
theorem Zhd (i j : Nat) (hi : i < 128) (hj : j < 128) : wt (Z5y i) j = decide (i = j) := by
 unfold wt Z5y
 by_cases h1 : i < 64
 ·rw [Zax h1, cond_true]
  by_cases h2 : j < 64
  ·rw [Zax h2, cond_true, BitVec.getLsbD_shiftLeft]
   by_cases e : i = j
   ·subst e; simp [h2]
   ·simp [h2, e, BitVec.getLsbD_one]; omega
  ·rw [Zbz h2, cond_false]
   have : i ≠ j := by omega
   simp [this]
 ·rw [Zbz h1, cond_false]
  by_cases h2 : j < 64
  ·rw [Zax h2, cond_true]
   have : i ≠ j := by omega
   simp [this]
  ·rw [Zbz h2, cond_false, BitVec.getLsbD_shiftLeft]
   by_cases e : i = j
   ·subst e; simp [show i - 64 < 64 by omega]
   ·simp [show j - 64 < 64 by omega, e, BitVec.getLsbD_one]; omega
def Z3u (a : Wide) : Bool := decide ((a.Hi ||| a.Lo) = (0 : BitVec 64))
theorem Zan (a : Wide) : Z3u a = true ↔ ∀ i, i < 128 → wt a i = false := by
 unfold Z3u
 rw [decide_eq_true_eq]
 constructor
 ·intro h i hi
  have hb : ∀ j, (a.Hi.getLsbD j || a.Lo.getLsbD j) = false := fun j => by rw [← BitVec.getLsbD_or, h]; simp
  unfold wt
  by_cases h1 : i < 64
  ·rw [Zax h1, cond_true]
   have := hb i
   simp only [Bool.or_eq_false_iff] at this
   exact this.2
  ·rw [Zbz h1, cond_false]
   have := hb (i - 64)
   simp only [Bool.or_eq_false_iff] at this
   exact this.1
 ·intro h
  apply BitVec.eq_of_getLsbD_eq
  intro j hj
  have h1 := h j (by omega)
  have h2 := h (j + 64) (by omega)
  unfold wt at h1 h2
  rw [Zax hj] at h1
  rw [Zbz (by omega)] at h2
  simp at h1 h2
  simp [h1, h2]
theorem Yji {a : Wide} : Z3u a = false ↔ ∃ i, i < 128 ∧ wt a i = true := by
 rw [← Bool.not_eq_true, Zan]
 constructor
 ·intro h
  apply Classical.byContradiction
  intro hn
  exact h fun i hi => by
   cases hw : wt a i
   ·rfl
   ·exact absurd ⟨i, hi, hw⟩ hn
 ·rintro ⟨i, hi, hw⟩ h
  rw [h i hi] at hw; cases hw
theorem Yjw (a : Wide) (i : Nat) (h : i < 128) : (!Z3u (Z27 a (Z5y i))) = wt a i := by
 cases hw : wt a i
 ·have : Z3u (Z27 a (Z5y i)) = true := by
   rw [Zan]
   intro j hj
   rw [Z2y, Zhd i j h hj]
   by_cases e : i = j
   ·subst e; rw [hw]; rfl
   ·simp [e]
  rw [this]; rfl
 ·have : Z3u (Z27 a (Z5y i)) = false := by
   rw [Yji]
   exact ⟨i, h, by rw [Z2y, Zhd i i h h, hw]; simp⟩
  rw [this]; rfl
theorem Zwm (x : BitVec 64) (n : Nat) : Zdf x (n : Int) = some (x <<< n) := by
 unfold Zdf
 rw [decide_eq_false (by omega)]
 simp
theorem Yc1 (x : BitVec 64) (n : Nat) : Z3a x (n : Int) = some (x >>> n) := by
 unfold Z3a
 rw [decide_eq_false (by omega)]
 simp
theorem Zwr (a b : Wide) : Zc0 a b = some (Z27 a b) := rfl
theorem Ztf (a b : Wide) : Z8s a b = some (wor a b) := rfl
theorem Znf (a b : Wide) : Z9t a b = some (Z4a a b) := rfl
theorem Zuj (i : Nat) (h : i < 128) : Zb8 (i : Int) = some (Z5y i) := by
 unfold Zb8
 have h1 : (decide ((i : Int) < 0) || decide ((i : Int) > 127)) = false := by simp; omega
 have hq : Zg2 .i64 (i : Int) 64 = some ((i / 64 : Nat) : Int) := by
  unfold Zg2
  rw [decide_eq_false (by decide)]
  show some (IntKind.i64.wrap ((i / 64 : Nat) : Int)) = _
  rw [Z2m (by omega) (by omega)]
 have hm : Z94 (i : Int) 64 = some ((i % 64 : Nat) : Int) := Yg4 i 64 (by omega)
 rw [h1, cond_false, hq, Option.bind_some, hm, Option.bind_some, Zwm, Option.bind_some, Z3j (by omega), Option.bind_some]
 unfold Z5y
 by_cases h2 : i < 64
 ·rw [Zax h2, cond_true]
  have e1 : i / 64 = 0 := by omega
  have e2 : i % 64 = i := by omega
  simp only [e1, e2]
  rfl
 ·rw [Zbz h2, cond_false]
  have e1 : i / 64 = 1 := by omega
  have e2 : i % 64 = i - 64 := by omega
  simp only [e1, e2]
  rfl
abbrev Cube := Vector Tern 24
abbrev Header := Vector Wide 24
def Z1g (t : Tern) : Tern := ⟨Z27 t.Value t.Mask, t.Mask⟩
theorem Zn5 (t : Tern) : Z7e t = some (Z1g t) := rfl
def Z0i (c : Cube) : Cube := Vector.ofFn fun i => Z1g (ve c i.1)
theorem Za7 (c : Cube) (i : Nat) (h : i < 24) : ve (Z0i c) i = Z1g (ve c i) := Z7m (fun i => Z1g (ve c i)) i h
theorem Y8u (t : Tern) : Z1g (Z1g t) = Z1g t := by
 unfold Z1g
 congr 1
 exact Zbo fun i hi => by simp only [Z2y]; cases wt t.Value i <;> cases wt t.Mask i <;> rfl
theorem Yj6 (c : Cube) : Z0i (Z0i c) = Z0i c := Z7f fun i hi => by
 rw [Za7 _ _ hi, Za7 _ _ hi, Y8u]
def Z4y (a b : Tern) : Tern := ⟨wor (Z4a (Z1g a).Value b.Mask) (Z1g b).Value, wor a.Mask b.Mask⟩
theorem Zxp (a b : Tern) : Zjo a b = some (Z4y a b) := rfl
def Z5t (a b : Cube) : Cube := Vector.ofFn fun i => Z4y (ve a i.1) (ve b i.1)
theorem Ymg (a b : Cube) (i : Nat) (h : i < 24) : ve (Z5t a b) i = Z4y (ve a i) (ve b i) := Z7m (fun i => Z4y (ve a i) (ve b i)) i h
theorem Zv1 (f : Int → Option Tern) (g : Nat → Tern) (hf : ∀ i : Nat, i < 24 → f (i : Int) = some (g i)) (b : Cube) : ∀ (m i : Nat), i + m = 24 → Za0 f m i (Z5e g b i) = some (Vector.ofFn (fun i => g i.1))
 | 0, i, h => by
  have : i = 24 := by omega
  subst this
  rw [Za0, Zlc]
 | m + 1, i, h => by
  rw [Za0, hf i (by omega), Option.bind_some, Z3j (by omega), Option.bind_some]
  show Za0 f m (i + 1) (Vector.set (Z5e g b i) i (g i) _) = _
  rw [Zl0 g b i (by omega), Zv1 f g hf b m (i + 1) (by omega)]
theorem Y28 (f : Int → Option Tern) (g : Nat → Tern) (hf : ∀ i : Nat, i < 24 → f (i : Int) = some (g i)) : Zfg f = some (Vector.ofFn (fun i => g i.1)) := by
 unfold Zfg
 have := Zv1 f g hf (Vector.replicate 24 zTern) 24 0 rfl
 rw [Zkf] at this
 exact this
theorem Zs5 (r : Cube) : Ze9 r = some (Z0i r) := by
 unfold Ze9
 rw [Y28 (fun x => Zf5 x r) (fun i => Z1g (ve r i)) (fun i hi => by unfold Zf5; rw [Z3j hi, Option.bind_some, Z55, Zn5]; rfl)]
 rfl
def Z11 (r : Cube) (h : Header) : Header := Vector.ofFn fun f => wor (Z4a (ve h f.1) (ve r f.1).Mask) (Z27 (ve r f.1).Value (ve r f.1).Mask)
theorem Z6k (r : Cube) (h : Header) (f : Nat) (hf : f < 24) : ve (Z11 r h) f = wor (Z4a (ve h f) (ve r f).Mask) (Z27 (ve r f).Value (ve r f).Mask) := Z7m (fun f => wor (Z4a (ve h f) (ve r f).Mask) (Z27 (ve r f).Value (ve r f).Mask)) f hf
theorem Y3b (r : Cube) (h : Header) : ∀ (l : List Tern) (i : Nat), i + l.length = 24 → l = (Vector.toList r).drop i → Zbv l i (Z5e (fun f => wor (Z4a (ve h f) (ve r f).Mask) (Z27 (ve r f).Value (ve r f).Mask)) h i) = some (Z11 r h)
 | [], i, h1, h2 => by
  have : i = 24 := by simpa using h1
  subst this
  rw [Zbv, Zlc]; rfl
 | x :: l, i, h1, h2 => by
  simp only [List.length_cons] at h1
  have hi : i < (Vector.toList r).length := by simp; omega
  rw [List.drop_eq_getElem_cons hi] at h2
  obtain ⟨rfl, h3⟩ := List.cons.inj h2
  have hx : (Vector.toList r)[i] = ve r i := by rw [Vector.getElem_toList, Z6l _ _ (by omega)]
  rw [Zbv, hx, Z3j (by omega), Option.bind_some, Z55, Znf, Option.bind_some, Zwr, Option.bind_some, Ztf, Option.bind_some, Option.bind_some, Zjv _ _ _ _ (by omega), if_neg (by omega)]
  have := Zl0 (fun f => wor (Z4a (ve h f) (ve r f).Mask) (Z27 (ve r f).Value (ve r f).Mask)) h i (by omega)
  rw [this]
  exact Y3b r h l (i + 1) (by omega) h3
theorem Ztq (r : Cube) (h : Header) : Zdz r h = some (Z11 r h) := by
 unfold Zdz
 have := Y3b r h (Vector.toList r) 0 (by simp) rfl
 rw [Zkf] at this
 exact this
def Z4c (r : Cube) (f : Int) (v m : Wide) : Cube := bif decide (f ≥ 0) && decide (f < 24) then Vector.ofFn fun i => if f.toNat = i.1 then Z4y (ve (Z0i r) f.toNat) ⟨v, m⟩ else ve (Z0i r) i.1 else Z0i r
theorem Zdt (r : Cube) (f : Int) (v m : Wide) : Z73 r f v m = some (Z4c r f v m) := by
 unfold Z73 Z4c Z8g
 rw [Zs5, Option.bind_some, Option.bind_some]
 cases hc : (decide (f ≥ 0) && decide (f < 24))
 ·rfl
 ·simp only [Bool.and_eq_true, decide_eq_true_eq] at hc
  obtain ⟨n, rfl⟩ : ∃ n : Nat, f = (n : Int) := ⟨f.toNat, by omega⟩
  have hn : n < 24 := by omega
  have e : Vector.set (Z0i r) n (Z4y (ve (Z0i r) n) ⟨v, m⟩) hn = Vector.ofFn fun i : _root_.Fin 24 => if n = i.1 then Z4y (ve (Z0i r) n) ⟨v, m⟩ else ve (Z0i r) i.1 := Z7f fun j hj => by
   rw [Zlm _ _ _ _ _ hj]
   exact (Z7m (fun i => if n = i then Z4y (ve (Z0i r) n) ⟨v, m⟩ else ve (Z0i r) i) j hj).symm
  rw [cond_true, cond_true, Z3j hn, Option.bind_some, Z55, Zxp, Option.bind_some, Option.bind_some, Int.toNat_natCast]
  exact congrArg some e
theorem Y1y (n : Int) : ∃ x, Zha n = some x := by
 unfold Zha
 cases decide (n ≥ 64)
 ·have h0 : 0 ≤ Z1f n 0 := by
   unfold Z1f
   by_cases h : (0 : Int) > n
   ·simp [h]
   ·simp [h]; omega
  obtain ⟨k, hk⟩ : ∃ k : Nat, Z1f n 0 = (k : Int) := ⟨(Z1f n 0).toNat, by omega⟩
  rw [cond_false, hk, Zwm]
  exact ⟨_, rfl⟩
 ·exact ⟨_, rfl⟩
def Z62 (n : Int) : Wide := (Z7t n).getD Z0j
theorem Zng (n : Int) : Z7t n = some (Z62 n) := by
 obtain ⟨x, hx⟩ := Y1y (IntKind.i64.wrap ((Z3q (Z1f n 0) 128) - 64))
 obtain ⟨y, hy⟩ := Y1y (Z3q (Z1f n 0) 128)
 have : Z7t n = some ⟨x, y⟩ := by unfold Z7t; rw [hx, Option.bind_some, hy]; rfl
 unfold Z62
 rw [this]; rfl
def Zrm (n : Int) : Int := (Ze3 n).getD 0
theorem Yo0 : ∃ v, Zkb = some v := by unfold Zkb; exact ⟨_, rfl⟩
theorem Ydz (n : Int) : Ze3 n = some (Zrm n) := by
 have : ∃ x, Ze3 n = some x := by
  unfold Ze3 Zn1 Z8g
  rw [Option.bind_some]
  cases hc : (decide (n ≥ 0) && decide (n < 24))
  ·exact ⟨_, rfl⟩
  ·simp only [Bool.and_eq_true, decide_eq_true_eq] at hc
   obtain ⟨k, rfl⟩ : ∃ k : Nat, n = (k : Int) := ⟨n.toNat, by omega⟩
   obtain ⟨v, hv⟩ := Yo0
   rw [Bool.not_true, cond_false, hv, Option.bind_some, Z37 (by simp; omega), Option.bind_some, Option.bind_some]
   exact ⟨_, rfl⟩
 obtain ⟨x, hx⟩ := this
 unfold Zrm
 rw [hx]; rfl
def oxT (o : Oxm) : Tern := bif decide (o.Field ≥ 0) && decide (o.Field < 24) then (bif o.Masked then ⟨o.Value, o.Mask⟩ else ⟨o.Value, Z62 (Zrm o.Field)⟩) else ⟨Z0j, Z0j⟩
theorem Zvp (o : Oxm) : Zg9 o = some (oxT o) := by
 unfold Zg9 oxT Z8g
 rw [Option.bind_some]
 cases decide (o.Field ≥ 0) && decide (o.Field < 24)
 ·rfl
 ·rw [Bool.not_true, cond_false, cond_true]
  cases o.Masked
  ·rw [cond_false, cond_false, Ydz, Option.bind_some, Zng]; rfl
  ·rfl
def Z2d : Cube := Vector.replicate 24 zTern
def Zhp (a : Action) : Cube :=
 bif decide (a.Kind = 25) then Z4c Z2d a.Oxm.Field (oxT a.Oxm).Value (oxT a.Oxm).Mask
 else bif decide (a.Kind = 17) then Z4c Z2d 5 (Z5y 12) (Z5y 12)
 else bif decide (a.Kind = 18) then Z4c (Z4c Z2d 5 ⟨0, 0⟩ (Z62 13)) 6 ⟨0, 0⟩ (Z62 3)
 else Z2d
theorem Zve (a : Action) : Zgm a = some (Zhp a) := by
 unfold Zgm Zhp
 rw [show Z9j = some Z2d from rfl, Option.bind_some]
 cases decide (a.Kind = 25)
 ·rw [cond_false, cond_false]
  cases decide (a.Kind = 17)
  ·rw [cond_false, cond_false]
   cases decide (a.Kind = 18)
   ·rfl
   ·rw [cond_true, cond_true, Zng, Option.bind_some, Zdt, Option.bind_some, Zng, Option.bind_some, Zdt]; rfl
  ·rw [cond_true, cond_true, show (12 : Int) = ((12 : Nat) : Int) from rfl, Zuj 12 (by decide), Option.bind_some, Option.bind_some, Zdt]; rfl
 ·rw [cond_true, cond_true, Zvp, Option.bind_some, Zdt]; rfl
def Zjx (a : Action) : Int := bif decide (a.Port = 4294967293) then a.Max else 0
theorem Yaz (a : Action) : Zjz a = some (Zjx a) := by
 unfold Zjz Zjx
 cases decide (a.Port = 4294967293) <;> rfl
theorem Y3t {α : Type} (p : α → Bool) : ∀ l : List α, 0 ≤ Z08 p l → (l.take ((Z08 p l).toNat + 1)).filter (fun x => !p x) = l.take (Z08 p l).toNat
 | [], h => by simp [Z08] at h
 | x :: l, h => by
  unfold Z08 at h ⊢
  cases hp : p x
  ·rw [hp] at h
   by_cases h' : Z08 p l < 0
   ·simp [h'] at h
   ·simp only [cond_false, decide_eq_false h']
    have e : (Z08 p l + 1).toNat = (Z08 p l).toNat + 1 := by omega
    rw [e, List.take_succ_cons, List.take_succ_cons, List.filter_cons_of_pos (by simp [hp]), Y3t p l (by omega)]
  ·simp [hp]
theorem Yka {α : Type} (p : α → Bool) (l : List α) (h : Z08 p l < 0) : l.filter (fun x => !p x) = l := by
 rw [List.filter_eq_self]
 intro x hx
 rw [Y2s p l h x hx]; rfl
theorem Zch {α : Type} (p : α → Bool) : ∀ l : List α, (Z08 p l < 0 ∧ l.find? p = none) ∨ ∃ n : Nat, Z08 p l = (n : Int) ∧ ∃ h : n < l.length, l.find? p = some l[n] ∧ p l[n] = true
 | [] => .inl ⟨by simp [Z08], rfl⟩
 | x :: l => by
  unfold Z08
  cases hp : p x
  ·rw [cond_false, List.find?_cons_of_neg (by simp [hp])]
   rcases Zch p l with ⟨h1, h2⟩ | ⟨n, h1, h2, h3, h4⟩
   ·left; rw [decide_eq_true h1]; exact ⟨by show (-1 : Int) < 0; decide, h2⟩
   ·right
    rw [decide_eq_false (by omega)]
    exact ⟨n + 1, by show Z08 p l + 1 = _; omega, by simp; omega, by simpa using h3, by simpa using h4⟩
  ·right
   exact ⟨0, rfl, by simp, by rw [List.find?_cons_of_pos hp]; rfl, hp⟩
theorem Zto (s : List Action) (f : Action → Option Bool) (p : Action → Bool) (hf : ∀ x ∈ s, f x = some (p x)) : Zdx s f = some (Z08 p s) := by
 unfold Zdx
 rw [show ((s.length : Int)).toNat = s.length by omega]
 exact Zal p (fun i => by rw [Zcx]) (fun m i => by rw [Zcx]) hf
theorem Zrk (s : List Group) (f : Group → Option Bool) (p : Group → Bool) (hf : ∀ x ∈ s, f x = some (p x)) : Ze7 s f = some (Z08 p s) := by
 unfold Ze7
 rw [show ((s.length : Int)).toNat = s.length by omega]
 exact Zal p (fun i => by rw [Zdr]) (fun m i => by rw [Zdr]) hf
theorem Y03 (s : List Bucket) (f : Bucket → Option Bool) (p : Bucket → Bool) (hf : ∀ x ∈ s, f x = some (p x)) : Zhr s f = some (Z08 p s) := by
 unfold Zhr
 rw [show ((s.length : Int)).toNat = s.length by omega]
 exact Zal p (fun i => by rw [Zej]) (fun m i => by rw [Zej]) hf
theorem Y38 (s : List Int) (v : Int) : Zga s v = some (Z08 (fun x => decide (v = x)) s) := by
 unfold Zga
 rw [show ((s.length : Int)).toNat = s.length by omega]
 exact Zal (f := fun x => some (decide (v = x))) (fun x => decide (v = x)) (fun i => by rw [Zed]) (fun m i => by rw [Zed]; rfl) (fun _ _ => rfl)
theorem Yht (s : List Int) (v : Int) : Zk1 s v = some (s.contains v) := by
 unfold Zk1; rw [Y38, Option.bind_some, Zc8]
 congr 1
 rw [Bool.eq_iff_iff, List.any_eq_true, List.contains_iff_mem]
 simp
theorem Y7e (e : Env) (n : Int) : Zl7 e n = some (!e.Down.contains n) := by
 unfold Zl7; rw [Yht]; rfl
theorem Y49 (s : List Action) (f : Action → Option Bool) (p : Action → Bool) (hf : ∀ x ∈ s, f x = some (p x)) (hl : s.length ≤ lim) : Zin s f = some (s.filter (fun x => !p x)) := by
 have hlim : lim = 4294967296 := rfl
 unfold Zin
 rw [Zto s f p hf, Option.bind_some]
 by_cases h : Z08 p s < 0
 ·have := Zf6 p s
  rw [decide_eq_true (by omega), cond_true, Yka p s h]
 ·have hlt := Zl1 p s
  rw [decide_eq_false (by omega), cond_false, Z2m (by omega) (by omega)]
  have key := Ydj (z := Zn7) (G := Zem f) (s := s) (f := f) p (fun m l i j => by rw [Zem]) hf hl (((s.length : Int) - (Z08 p s + 1)).toNat + 1) s (Z08 p s).toNat ((Z08 p s).toNat + 1) (by omega) (by omega) (by omega) rfl rfl (Y3t p s (by omega)).symm
  rw [show ((Z08 p s).toNat : Int) = Z08 p s by omega, show (((Z08 p s).toNat + 1 : Nat) : Int) = Z08 p s + 1 by omega] at key
  exact key
theorem Y53 (s : List Action) (f : Action → Option Bool) (p : Action → Bool) (hf : ∀ x ∈ s, f x = some (p x)) : Zkj s f = some (s.any p) := by
 unfold Zkj; rw [Zto s f p hf, Option.bind_some, Zc8]
def Z0s (a : Action) : aset_spot := bif decide (a.Kind = 25) then ⟨a.Kind, a.Oxm.Field⟩ else ⟨a.Kind, 0⟩
theorem Znn (a : Action) : Zbp a = some (Z0s a) := by
 unfold Zbp Z0s
 cases decide (a.Kind = 25) <;> rfl
theorem Ymv (b c : Action) : Zeo b c = some (decide (Z0s c = Z0s b)) := by
 unfold Zeo
 rw [Znn, Option.bind_some, Znn]; rfl
def wr1 (l : List Action) (x : Action) : List Action := bif decide (Z08 (fun b => decide (Z0s x = Z0s b)) l < 0) then l ++ [x] else l.set (Z08 (fun b => decide (Z0s x = Z0s b)) l).toNat x
theorem Y47 (l : List Action) (x : Action) : (wr1 l x).length ≤ l.length + 1 := by
 unfold wr1
 cases decide (Z08 (fun b => decide (Z0s x = Z0s b)) l < 0) <;> simp
theorem Zsb : ∀ (l : List Action) (i : Nat) (acc : List Action), acc.length + l.length ≤ lim → Za6 l i acc = some (l.foldl wr1 acc)
 | [], i, acc, _ => by rw [Za6]; rfl
 | x :: l, i, acc, h => by
  simp only [List.length_cons] at h
  have hw := Y47 acc x
  rw [Za6, Zto acc (fun y => Zeo y x) (fun b => decide (Z0s x = Z0s b)) (fun y _ => Ymv y x), Option.bind_some, List.foldl_cons]
  have hi := Zl1 (fun b => decide (Z0s x = Z0s b)) acc
  by_cases hc : Z08 (fun b => decide (Z0s x = Z0s b)) acc < 0
  ·rw [decide_eq_true hc, cond_true, Z23 (by simp; omega), Option.bind_some, Zsb l (i + 1) _ (by simp; omega)]
   unfold wr1
   rw [decide_eq_true hc, cond_true]
  ·obtain ⟨n, hn⟩ : ∃ n : Nat, Z08 (fun b => decide (Z0s x = Z0s b)) acc = (n : Int) := ⟨(Z08 (fun b => decide (Z0s x = Z0s b)) acc).toNat, by omega⟩
   rw [decide_eq_false hc, cond_false, hn, Z37 (by omega), Option.bind_some, Zsb l (i + 1) _ (by simp; omega)]
   unfold wr1
   rw [decide_eq_false hc, cond_false, hn]
theorem Znu (s l : List Action) (h : s.length + l.length ≤ lim) : Zby s l = some (l.foldl wr1 s) := by
 unfold Zby Z6w
 rw [Z23 (by simp; omega), Option.bind_some, List.nil_append, Zsb l 0 s h]
theorem Zic : ∀ (l s : List Action), (l.foldl wr1 s).length ≤ s.length + l.length
 | [], s => by simp
 | x :: l, s => by
  have h1 := Zic l (wr1 s x)
  have h2 := Y47 s x
  rw [List.foldl_cons, List.length_cons]; omega
theorem Yn0 (l : List Action) (x : Action) (h : (l.map Z0s).Nodup) : ((wr1 l x).map Z0s).Nodup := by
 unfold wr1
 rcases Zch (fun b => decide (Z0s x = Z0s b)) l with ⟨h1, h2⟩ | ⟨n, h1, h2, h3, h4⟩
 ·rw [decide_eq_true h1, cond_true, List.map_append, List.nodup_append]
  refine ⟨h, by simp, ?_⟩
  intro a ha b hb e
  simp only [List.map_cons, List.map_nil, List.mem_singleton] at hb
  subst e; subst hb
  obtain ⟨y, hy, hk⟩ := List.mem_map.1 ha
  have := List.find?_eq_none.1 h2 y hy
  simp [hk] at this
 ·rw [decide_eq_false (by omega), cond_false, h1, Int.toNat_natCast]
  have hk : Z0s x = Z0s l[n] := by simpa using h4
  have : (l.set n x).map Z0s = l.map Z0s := by
   rw [List.map_set, hk]
   apply List.ext_getElem
   ·simp
   ·intro i h5 h6
    rw [List.getElem_set]
    split
    ·rename_i e; subst e; simp
    ·rfl
  rw [this]; exact h
theorem Y4s : ∀ (l s : List Action), (s.map Z0s).Nodup → ((l.foldl wr1 s).map Z0s).Nodup
 | [], s, h => h
 | x :: l, s, h => Y4s l _ (Yn0 s x h)
def Z4l (k : Int) : Int := Z08 (fun x => decide (k = x)) [18, 17, 25, 22, 0]
theorem Zo4 (k : Int) : Zda k = some (Z4l k) := by
 unfold Zda Z4l
 rw [Y38]; rfl
def Zam (goes : Bool) (a : Action) : Bool := !(decide (Z4l a.Kind < 0) || (goes && decide (a.Kind = 0)))
def Zke (a b : Action) : Int :=
 bif decide (IntKind.i64.wrap (Z4l (Z0s a).kind - Z4l (Z0s b).kind) ≠ 0) then IntKind.i64.wrap (Z4l (Z0s a).kind - Z4l (Z0s b).kind)
 else bif decide ((Z0s a).field < (Z0s b).field) then -1 else bif decide ((Z0s a).field > (Z0s b).field) then 1 else 0
theorem Y1d (a b : Action) : Z8k a b = some (Zke a b) := by
 unfold Z8k Zke
 rw [Znn, Option.bind_some, Znn, Option.bind_some, Zo4, Option.bind_some, Zo4, Option.bind_some]
 cases decide (IntKind.i64.wrap (Z4l (Z0s a).kind - Z4l (Z0s b).kind) ≠ 0)
 ·rw [cond_false, cond_false]
  cases decide ((Z0s a).field < (Z0s b).field)
  ·rw [cond_false, cond_false]
   cases decide ((Z0s a).field > (Z0s b).field) <;> rfl
  ·rfl
 ·rfl
theorem Zsw {α : Type} (lt : α → α → Bool) (x : α) : ∀ R : List α, (Z1a lt x R).Perm (x :: R)
 | [] => List.Perm.refl _
 | y :: R => by
  rw [Z1a]
  cases lt x y
  ·exact List.Perm.refl _
  ·exact ((Zsw lt x R).cons y).trans (List.Perm.swap x y R)
theorem Y2j {α : Type} (lt : α → α → Bool) : ∀ (l R : List α), (l.foldl (fun R x => Z1a lt x R) R).Perm (l ++ R)
 | [], R => List.Perm.refl _
 | x :: l, R => by
  rw [List.foldl_cons]
  refine (Y2j lt l _).trans ?_
  refine ((Zsw lt x R).append_left l).trans ?_
  exact List.perm_middle
theorem Y0a {α : Type} (lt : α → α → Bool) (l : List α) : (srt lt l).Perm l := by
 unfold srt
 refine (List.reverse_perm _).trans ?_
 have := Y2j lt l []
 rwa [List.append_nil] at this
theorem Zo5 {α : Type} (lt : α → α → Bool) (x : α) (R : List α) : (Z1a lt x R).length = R.length + 1 := by
 have := (Zsw lt x R).length_eq
 simpa using this
def ltA (a b : Action) : Bool := decide (Zke a b < 0)
theorem Zw1 (go : List Action → Int → Option (List Action)) (i : Int) (x : Action) : ∀ (R S : List Action) (m : Nat), R.length < m → R.length ≤ lim →
  Z8y 0 Z8k go i m (R.reverse ++ x :: S) (R.length : Int) = go ((Z1a ltA x R).reverse ++ S) (IntKind.i64.wrap (i + 1))
 | [], S, m, h, _ => by
  obtain ⟨m, rfl⟩ : ∃ k, m = k + 1 := ⟨m - 1, by simp at h; omega⟩
  rw [Z8y]
  simp [opt, Z1a]
 | y :: R, S, m, h, hl => by
  have hlim : lim = 4294967296 := rfl
  simp only [List.length_cons] at h hl
  obtain ⟨m, rfl⟩ : ∃ k, m = k + 1 := ⟨m - 1, by omega⟩
  have e0 : (y :: R).reverse ++ x :: S = R.reverse ++ y :: x :: S := by simp
  have ej : IntKind.i64.wrap (((y :: R).length : Int) - 1) = (R.length : Int) := by rw [Z2m (by simp only [List.length_cons]; omega) (by simp only [List.length_cons]; omega)]; simp only [List.length_cons]; omega
  have hlen : ∀ a b : Action, (R.reverse ++ a :: b :: S).length = R.length + (S.length + 2) := fun a b => by simp
  have g1 : ∀ a b : Action, lget (R.reverse ++ a :: b :: S) (((y :: R).length : Int)) = some b := fun a b => by
   rw [Zks, List.getElem?_append_right (by simp)]; first | done | simp
  have g0 : ∀ a b : Action, lget (R.reverse ++ a :: b :: S) ((R.length : Int)) = some a := fun a b => by
   rw [Zks, List.getElem?_append_right (by simp)]; first | done | simp
  have s1 : ∀ a b c : Action, List.set (R.reverse ++ a :: b :: S) (((y :: R).length : Int)).toNat c = R.reverse ++ a :: c :: S := fun a b c => by
   rw [Int.toNat_natCast, List.set_append_right _ _ (by simp)]; first | done | simp
  have s0 : ∀ a b c : Action, List.set (R.reverse ++ a :: b :: S) ((R.length : Int)).toNat c = R.reverse ++ c :: b :: S := fun a b c => by
   rw [Int.toNat_natCast, List.set_append_right _ _ (by simp)]; first | done | simp
  rw [e0, Z8y, decide_eq_true (by simp only [List.length_cons]; omega), Z7u, g1, Option.bind_some, Z7u, ej, g0, Option.bind_some, Z7u, Y1d, Option.bind_some, Bool.true_and, Z1a]
  show (bif ltA x y then _ else _) = _
  cases ltA x y
  ·rw [cond_false, cond_false]
   simp
  ·rw [cond_true, cond_true, Option.bind_some, Option.bind_some, Option.bind_some, s1, g0, Option.bind_some, s0, Zw1 go i x R (y :: S) m (by omega) (by omega)]
   simp
theorem Y4c : ∀ (T R : List Action) (m : Nat), T.length < m → 1 ≤ R.length → R.length + T.length ≤ 1000 →
  Z71 ((R.length + T.length : Nat) : Int) 0 Z8k m (R.reverse ++ T) (R.length : Int) = some ((T.foldl (fun R x => Z1a ltA x R) R).reverse)
 | [], R, m, h, _, _ => by
  obtain ⟨m, rfl⟩ : ∃ k, m = k + 1 := ⟨m - 1, by simp at h; omega⟩
  rw [Z71, decide_eq_false (by simp), cond_false]
  simp
 | x :: T, R, m, h, h1, h2 => by
  have hlim : lim = 4294967296 := rfl
  simp only [List.length_cons] at h h2
  obtain ⟨m, rfl⟩ : ∃ k, m = k + 1 := ⟨m - 1, by omega⟩
  have e : IntKind.i64.wrap ((R.length : Int) + 1) = (((Z1a ltA x R).length : Nat) : Int) := by rw [Zo5, Z2m (by omega) (by omega)]; omega
  have hn : R.length + (x :: T).length = (Z1a ltA x R).length + T.length := by rw [Zo5, List.length_cons]; omega
  rw [Z71, decide_eq_true (by simp; omega), cond_true, Zw1 _ _ x R T Z0l (by unfold Z0l; omega) (by omega), e, hn, Y4c T (Z1a ltA x R) m (by omega) (by rw [Zo5]; omega) (by rw [Zo5]; omega), List.foldl_cons]
theorem Yhb (l : List Action) (h : l.length ≤ 1000) : Zc4 l 0 (l.length : Int) Z8k = some (srt ltA l) := by
 unfold Zc4 srt
 have e : IntKind.i64.wrap ((0 : Int) + 1) = 1 := by decide
 rw [e]
 cases l with
 | nil => rfl
 | cons x l =>
  simp only [List.length_cons] at h
  have := Y4c l [x] ((((x :: l).length : Int) - 1).toNat + 1) (by simp) (by simp) (by simp; omega)
  have e2 : (([x].length + l.length : Nat) : Int) = ((x :: l).length : Int) := by simp; omega
  rw [e2] at this
  simp only [List.reverse_singleton, List.singleton_append] at this
  rw [List.foldl_cons]
  exact this
theorem Ydq (l : List Action) (h : l.length < 20) : Zdj l Z8k = some (srt ltA l) := by
 unfold Zdj Zkh
 obtain ⟨m, hm⟩ : ∃ m, (((l.length : Int) : Int) - 20).toNat + 2 = m + 1 := ⟨_, rfl⟩
 rw [hm, Zdo, decide_eq_false (by omega), cond_false, Yhb l (by omega), Option.bind_some]
 obtain ⟨k, hk⟩ : ∃ m, (((l.length : Int) : Int) - 20).toNat + 1 = m + 1 := ⟨_, rfl⟩
 rw [hk, Z8w, decide_eq_false (by omega), cond_false]
 rfl
def Z5i (s : List Action) : List Action := srt ltA (s.filter (Zam (s.any fun a => decide (a.Kind = 22))))
theorem Y5q (s : List Action) (h : s.length < 20) : Z7d s = some (Z5i s) := by
 have hlim : lim = 4294967296 := rfl
 unfold Z7d Z6w Z5i
 rw [Y53 s Zjf (fun a => decide (a.Kind = 22)) (fun _ _ => rfl), Option.bind_some, Z23 (by simp; omega), Option.bind_some, List.nil_append]
 have hf : ∀ a : Action, Zb6 a (s.any fun a => decide (a.Kind = 22)) = some (!Zam (s.any fun a => decide (a.Kind = 22)) a) := fun a => by
  unfold Zb6 Zam
  rw [Zo4, Option.bind_some, Bool.not_not]
 rw [Y49 s _ (fun a => !Zam (s.any fun a => decide (a.Kind = 22)) a) (fun a _ => hf a) (by omega), Option.bind_some]
 simp only [Bool.not_not]
 rw [Ydq _ (Nat.lt_of_le_of_lt (List.length_filter_le ..) h)]
 rfl
def Zdu (bs : List Bucket) : Prop := bs.length ≤ 3 ∧ ∀ x ∈ bs, x.Acts.length ≤ 12
def Z3f (l : List Group) : Prop := l.length ≤ 9 ∧ ∀ g ∈ l, Zdu g.Buckets
theorem Y16 (bs : List Bucket) (h : ∀ x ∈ bs, x.Acts.length ≤ 12) : ∀ (m i : Nat), i + m = bs.length → Zbc m i bs = some bs
 | 0, i, _ => by rw [Zbc]
 | m + 1, i, hi => by
  have hlim : lim = 4294967296 := rfl
  have hlt : i < bs.length := by omega
  have ha := h bs[i] (List.getElem_mem hlt)
  have e : List.set bs ((i : Int)).toNat { bs[i] with Acts := bs[i].Acts } = bs := by
   rw [Int.toNat_natCast]; exact List.set_getElem_self hlt
  rw [Zbc, Z37 hlt, Option.bind_some]
  unfold Z6w
  rw [Z23 (by simp; omega), Option.bind_some, Option.bind_some, List.nil_append, e]
  exact Y16 bs h m (i + 1) (by omega)
theorem Ykg (bs : List Bucket) (h : Zdu bs) : Zlf bs = some bs := by
 have hlim : lim = 4294967296 := rfl
 have := h.1
 unfold Zlf Zoc
 rw [Z23 (by simp; omega), Option.bind_some, List.nil_append, show ((bs.length : Int)).toNat = bs.length by omega]
 exact Y16 bs h.2 bs.length 0 (by omega)
theorem Ykn (g : Group) (h : Zdu g.Buckets) : Zjr [g] = some [g] := by
 unfold Zjr Zno
 rw [Z23 (by simp [lim]), Option.bind_some]
 show Zea 1 0 [g] = _
 rw [Zea]
 show ((some g).bind fun e8 => _) = _
 rw [Option.bind_some, Ykg _ h, Option.bind_some]
 rfl
def Z6i (l : List Group) (id : Int) : Option Group := l.find? fun g => decide (g.ID = id)
theorem Zj8 (l : List Group) (id : Int) (hl : Z3f l) : Zcf l id = some (match Z6i l id with | none => ((⟨0, 0, []⟩ : Group), false) | some g => (g, true)) := by
 have h9 := hl.1
 unfold Zcf Znq Z6i
 rw [Zrk l (fun x => Zif x id) (fun g => decide (g.ID = id)) (fun _ _ => rfl), Option.bind_some, Option.bind_some]
 rcases Zch (fun g : Group => decide (g.ID = id)) l with ⟨h1, h2⟩ | ⟨n, h1, h2, h3, h4⟩
 ·rw [decide_eq_true h1, cond_true, h2]
 ·have hs : Zg3 l (n : Int) (IntKind.i64.wrap ((n : Int) + 1)) = some [l[n]] := by
   rw [Z2m (by omega) (by omega)]
   unfold Zg3
   rw [decide_eq_true (by omega), decide_eq_true (by omega), Nat.ble_eq_true_of_le (by omega)]
   show some _ = some _
   have e2 : ((n : Int) + 1).toNat = n + 1 := by omega
   have e3 : (l.take n).length = n := by simp; omega
   rw [e2, Int.toNat_natCast, List.take_succ_eq_append_getElem h2, List.drop_append, e3, List.drop_of_length_le (by omega), Nat.sub_self]
   rfl
  rw [decide_eq_false (by omega), cond_false, h1, hs, Option.bind_some, Ykn _ (hl.2 _ (List.getElem_mem h2)), Option.bind_some, h3]
  rfl
theorem Znl {l : List Group} {id : Int} {g : Group} (h : Z6i l id = some g) : g ∈ l := List.mem_of_find?_eq_some h
def Ze0 (e : Env) (n : Nat) : Int := (Ze1 e (n : Int)).getD 0
theorem Y3s (e : Env) (n : Nat) (hn : 0 < n) (hn2 : n ≤ 1000) : Ze1 e (n : Int) = some (Ze0 e n) ∧ 0 ≤ Ze0 e n ∧ Ze0 e n < n := by
 have key : ∃ t, Ze1 e (n : Int) = some t ∧ 0 ≤ t ∧ t < n := by
  unfold Ze1 Z94
  rw [decide_eq_false (by omega), cond_false, decide_eq_false (by omega), cond_false, Option.bind_some]
  have h1 := Int.tmod_lt_of_pos e.Turn (show (0 : Int) < n by omega)
  have h2 : -(n : Int) < e.Turn.tmod (n : Int) := by
   have := Int.lt_tmod_of_pos e.Turn (show (0 : Int) < n by omega)
   exact this
  by_cases hc : e.Turn.tmod (n : Int) < 0
  ·rw [decide_eq_true hc, cond_true, Z2m (by omega) (by omega)]
   exact ⟨_, rfl, by omega, by omega⟩
  ·rw [decide_eq_false hc, cond_false]
   exact ⟨_, rfl, by omega, by omega⟩
 obtain ⟨t, ht, h1, h2⟩ := key
 have e : Ze0 e n = t := by unfold Ze0; rw [ht]; rfl
 rw [e]
 exact ⟨ht, h1, h2⟩
def Zhb (e : Env) (bs : List Bucket) : Int := Z08 (fun x => !e.Down.contains x.Watch) bs
def Z3y (e : Env) (g : Group) : List Int :=
 bif decide (g.Buckets.length = 0) then []
 else bif decide (g.Kind = 0) then (List.range' 0 g.Buckets.length).map fun (i : Nat) => (i : Int)
 else bif decide (g.Kind = 1) then [Ze0 e g.Buckets.length]
 else bif decide (g.Kind = 2) then [0]
 else bif decide (g.Kind = 3) then (bif decide (Zhb e g.Buckets ≥ 0) then [Zhb e g.Buckets] else [])
 else []
theorem Y18 : ∀ (m i : Nat) (acc : List Int), acc.length + m ≤ lim → Zaw m i acc = some (acc ++ (List.range' i m).map fun (i : Nat) => (i : Int))
 | 0, i, acc, _ => by rw [Zaw]; simp
 | m + 1, i, acc, h => by
  rw [Zaw, Z23 (by simp; omega), Option.bind_some, Y18 m (i + 1) _ (by simp; omega), List.range'_succ]
  simp
theorem Y32 (e : Env) (g : Group) (h : Zdu g.Buckets) : Zfs e g = some (Z3y e g) := by
 have hlim : lim = 4294967296 := rfl
 have h3 := h.1
 unfold Zfs Z3y
 simp only
 have hz : decide ((g.Buckets.length : Int) = 0) = decide (g.Buckets.length = 0) := by
  rw [decide_eq_decide]; omega
 rw [hz]
 by_cases h0 : g.Buckets.length = 0
 ·rw [decide_eq_true h0]; rfl
 ·rw [decide_eq_false h0, cond_false, cond_false]
  cases decide (g.Kind = 0)
  ·rw [cond_false, cond_false]
   cases decide (g.Kind = 1)
   ·rw [cond_false, cond_false]
    cases decide (g.Kind = 2)
    ·rw [cond_false, cond_false]
     cases decide (g.Kind = 3)
     ·rfl
     ·rw [cond_true, cond_true]
      unfold Zmt Zhb
      simp only
      rw [Y03 g.Buckets (fun x => Zgn x (⟨e, g⟩ : env_world)) (fun x => !e.Down.contains x.Watch) (fun x _ => by unfold Zgn; rw [Y7e]; rfl), Option.bind_some, Option.bind_some]
      cases decide (Z08 (fun x => !e.Down.contains x.Watch) g.Buckets ≥ 0) <;> rfl
    ·rfl
   ·rw [cond_true, cond_true, (Y3s e g.Buckets.length (by omega) (by omega)).1]; rfl
  ·rw [cond_true, cond_true, show ((g.Buckets.length : Int)).toNat = g.Buckets.length by omega, Y18 _ 0 [] (by simp; omega)]
   rfl
theorem Zoh (e : Env) (g : Group) (h : Zdu g.Buckets) : (Z3y e g).length ≤ 3 ∧ ∀ i ∈ Z3y e g, ∃ n : Nat, i = (n : Int) ∧ n < g.Buckets.length := by
 have h3 := h.1
 unfold Z3y
 by_cases h0 : g.Buckets.length = 0
 ·rw [decide_eq_true h0]; simp
 ·rw [decide_eq_false h0, cond_false]
  cases decide (g.Kind = 0)
  ·rw [cond_false]
   cases decide (g.Kind = 1)
   ·rw [cond_false]
    cases decide (g.Kind = 2)
    ·rw [cond_false]
     cases decide (g.Kind = 3)
     ·simp
     ·rw [cond_true]
      have hlt := Zl1 (fun x : Bucket => !e.Down.contains x.Watch) g.Buckets
      by_cases hc : Zhb e g.Buckets ≥ 0
      ·rw [decide_eq_true hc, cond_true]
       refine ⟨by simp, fun i hi => ?_⟩
       rw [List.mem_singleton] at hi
       subst hi
       exact ⟨(Zhb e g.Buckets).toNat, by omega, by unfold Zhb at hc ⊢; omega⟩
      ·rw [decide_eq_false hc, cond_false]; simp
    ·refine ⟨by simp, fun i hi => ?_⟩
     simp only [cond_true, List.mem_singleton] at hi
     subst hi
     exact ⟨0, rfl, by omega⟩
   ·obtain ⟨_, h1, h2⟩ := Y3s e g.Buckets.length (by omega) (by omega)
    refine ⟨by simp, fun i hi => ?_⟩
    simp only [cond_true, List.mem_singleton] at hi
    subst hi
    exact ⟨(Ze0 e g.Buckets.length).toNat, by omega, by omega⟩
  ·refine ⟨by simp; omega, fun i hi => ?_⟩
   simp only [cond_true, List.mem_map] at hi
   obtain ⟨n, hn, rfl⟩ := hi
   exact ⟨n, rfl, by have := (List.mem_range'_1.1 hn).2; omega⟩
def Z3h (acts : List Action) : List Action := Z5i (acts.foldl wr1 [])
def Z3l (l : List Action) : Nat := l.countP fun a => decide (a.Kind = 0) || decide (a.Kind = 22)
theorem Ynq {a b : Action} (ha : a.Kind ≠ 25) (h : a.Kind = b.Kind) : Z0s a = Z0s b := by
 unfold Z0s
 rw [decide_eq_false ha, decide_eq_false (h ▸ ha), h]; rfl
theorem Zue (k : Int) (hk : k ≠ 25) : ∀ l : List Action, (l.map Z0s).Nodup → (l.countP fun a => decide (a.Kind = k)) ≤ 1
 | [], _ => by simp
 | a :: l, h => by
  rw [List.map_cons, List.nodup_cons] at h
  rw [List.countP_cons]
  have ih := Zue k hk l h.2
  by_cases ha : a.Kind = k
  ·have : (l.countP fun a => decide (a.Kind = k)) = 0 := by
    rw [List.countP_eq_zero]
    intro b hb hbk
    have hbk' : b.Kind = k := by simpa using hbk
    exact h.1 (List.mem_map.2 ⟨b, hb, (Ynq (by rw [ha]; exact hk) (by rw [ha, hbk'])).symm⟩)
   rw [this, decide_eq_true ha]; simp
  ·rw [decide_eq_false ha]; simpa using ih
theorem Y9p {l m : List Action} (h : l.Perm m) : Z3l l = Z3l m := h.countP_eq _
theorem Zpj (acts : List Action) : Z3l (Z3h acts) ≤ 1 := by
 unfold Z3h Z5i
 rw [Y9p (Y0a _ _)]
 have hn := Y4s acts [] (by simp)
 generalize acts.foldl wr1 [] = s at *
 unfold Z3l
 rw [List.countP_filter]
 cases hg : s.any (fun a => decide (a.Kind = 22))
 ·refine Nat.le_trans (List.countP_mono_left fun a ha h => ?_) (Zue 0 (by decide) s hn)
  rw [List.any_eq_false] at hg
  have := hg a ha
  simp only [Bool.and_eq_true, Bool.or_eq_true, decide_eq_true_eq] at h
  rcases h.1 with h | h
  ·simpa using h
  ·exact absurd (by simpa using h) this
 ·refine Nat.le_trans (List.countP_mono_left fun a ha h => ?_) (Zue 22 (by decide) s hn)
  simp only [Bool.and_eq_true, Bool.or_eq_true, decide_eq_true_eq] at h
  rcases h.1 with h1 | h1
  ·have h2 := h.2
   unfold Zam at h2
   simp [h1] at h2
  ·simpa using h1
def doA (G : Int → Header → List Out) : List Action → List Out → Header → List Out × Header
 | [], o, h => (o, h)
 | a :: l, o, h => bif decide (a.Kind = 0) then doA G l (o ++ [⟨a.Port, Zjx a, h⟩]) h
  else bif decide (a.Kind = 22) then doA G l (o ++ G a.Group h) h
  else doA G l o (Z11 (Zhp a) h)
def Z4m (bs : List Bucket) (i : Int) : List Action := match bs[i.toNat]? with
 | some b => b.Acts
 | none => []
def goG (l : List Group) (e : Env) : Nat → Int → Header → List Out
 | 0, _, _ => []
 | d + 1, id, h => match Z6i l id with
  | none => []
  | some g => (Z3y e g).flatMap fun i => (doA (goG l e d) (Z3h (Z4m g.Buckets i)) [] h).1
theorem Z90 (G : Int → Header → List Out) : ∀ (l : List Action) (o : List Out) (h : Header), doA G l o h = (o ++ (doA G l [] h).1, (doA G l [] h).2)
 | [], o, h => by simp [doA]
 | a :: l, o, h => by
  rw [doA, doA]
  cases decide (a.Kind = 0)
  ·rw [cond_false, cond_false]
   cases decide (a.Kind = 22)
   ·rw [cond_false, cond_false]; exact Z90 G l o _
   ·rw [cond_true, cond_true, Z90 G l (o ++ _), Z90 G l ([] ++ _)]; simp
  ·rw [cond_true, cond_true, Z90 G l (o ++ _), Z90 G l ([] ++ _)]; simp
theorem Zn9 (G : Int → Header → List Out) (B : Nat) (hB : 1 ≤ B) (hG : ∀ id h, (G id h).length ≤ B) : ∀ (l : List Action) (h : Header), (doA G l [] h).1.length ≤ Z3l l * B
 | [], h => by simp [doA]
 | a :: l, h => by
  have ih := Zn9 G B hB hG l
  unfold Z3l at ih ⊢
  rw [doA, List.countP_cons]
  by_cases h0 : a.Kind = 0
  ·rw [decide_eq_true h0, cond_true, Z90]
   simp only [List.nil_append, List.length_append, List.length_cons, List.length_nil, Bool.true_or, if_true]
   have := ih h
   rw [Nat.add_mul, Nat.one_mul]; omega
  ·rw [decide_eq_false h0, cond_false]
   by_cases h1 : a.Kind = 22
   ·rw [decide_eq_true h1, cond_true, Z90]
    have h2 := hG a.Group h
    simp only [List.nil_append, List.length_append, Bool.or_true, if_true]
    have := ih h
    rw [Nat.add_mul, Nat.one_mul]; omega
   ·rw [decide_eq_false h1, cond_false]
    have := ih (Z11 (Zhp a) h)
    simpa using this
theorem Ztb {α β : Type} (f : α → List β) (k : Nat) : ∀ l : List α, (∀ x ∈ l, (f x).length ≤ k) → (l.flatMap f).length ≤ l.length * k
 | [], _ => by simp
 | x :: l, h => by
  rw [List.flatMap_cons, List.length_append, List.length_cons, Nat.succ_mul]
  have h1 := h x (by simp)
  have h2 := Ztb f k l fun y hy => h y (by simp [hy])
  omega
theorem Zkw (l : List Group) (e : Env) (hl : Z3f l) : ∀ (d : Nat) (id : Int) (h : Header), (goG l e d id h).length ≤ 3 ^ d
 | 0, id, h => by simp [goG]
 | d + 1, id, h => by
  rw [goG]
  cases hf : Z6i l id with
  | none => simp
  | some g =>
   have hb := hl.2 g (Znl hf)
   have ht := (Zoh e g hb).1
   have h1 : 1 ≤ 3 ^ d := Nat.pow_pos (by decide)
   have := Ztb (fun i => (doA (goG l e d) (Z3h (Z4m g.Buckets i)) [] h).1) (3 ^ d) (Z3y e g) fun i _ => by
    have h2 := Zn9 (goG l e d) (3 ^ d) h1 (Zkw l e hl d) (Z3h (Z4m g.Buckets i)) h
    have h3 := Zpj (Z4m g.Buckets i)
    have h4 : Z3l (Z3h (Z4m g.Buckets i)) * 3 ^ d ≤ 1 * 3 ^ d := Nat.mul_le_mul_right _ h3
    omega
   have h5 : (Z3y e g).length * 3 ^ d ≤ 3 * 3 ^ d := Nat.mul_le_mul_right _ ht
   have e1 : 3 ^ (d + 1) = 3 * 3 ^ d := by rw [Nat.pow_succ, Nat.mul_comm]
   show ((Z3y e g).flatMap _).length ≤ _
   omega
theorem Zk7 (R : Z0m → Int → Option Z0m) (G : Int → Header → List Out) (e : Env) (l : List Group) (dep : Int) (B : Nat) (hB : 1 ≤ B) (hG : ∀ id h, (G id h).length ≤ B)
  (hR : ∀ o id h, o.length + B ≤ lim → R ⟨e, l, o, h, dep⟩ id = some ⟨e, l, o ++ G id h, h, dep⟩) :
  ∀ (acts : List Action) (i : Nat) (o : List Out) (h : Header), o.length + Z3l acts * B ≤ lim → Z89 R acts i o e l h dep = some ⟨e, l, (doA G acts o h).1, (doA G acts o h).2, dep⟩
 | [], i, o, h, _ => by rw [Z89]; rfl
 | a :: acts, i, o, h, hb => by
  unfold Z3l at hb
  rw [List.countP_cons] at hb
  rw [Z89, doA]
  by_cases h0 : a.Kind = 0
  ·simp only [decide_eq_true h0, Bool.true_or, if_true, Nat.add_mul, Nat.one_mul] at hb
   rw [decide_eq_true h0, cond_true, cond_true, Yaz, Option.bind_some, Z23 (by simp; omega), Option.bind_some]
   exact Zk7 R G e l dep B hB hG hR acts (i + 1) _ h (by unfold Z3l; simp; omega)
  ·rw [decide_eq_false h0, cond_false, cond_false]
   by_cases h1 : a.Kind = 22
   ·simp only [decide_eq_true h1, Bool.or_true, if_true, Nat.add_mul, Nat.one_mul] at hb
    have h2 := hG a.Group h
    rw [decide_eq_true h1, cond_true, cond_true, hR o a.Group h (by omega), Option.bind_some]
    exact Zk7 R G e l dep B hB hG hR acts (i + 1) _ h (by unfold Z3l; simp; omega)
   ·simp only [decide_eq_false h0, decide_eq_false h1, Bool.or_self] at hb
    rw [decide_eq_false h1, cond_false, cond_false, Zve, Option.bind_some, Ztq, Option.bind_some]
    exact Zk7 R G e l dep B hB hG hR acts (i + 1) o _ (by unfold Z3l; simpa using hb)
theorem Zwk (R : Z0m → List Action → Option Z0m) (G : Int → Header → List Out) (e : Env) (l : List Group) (g : Group) (hg : Zdu g.Buckets) (r1 : Z0m) (dep : Int) (hd : 0 ≤ dep ∧ dep ≤ 9) (B : Nat) (hB : 1 ≤ B) (hG : ∀ id h, (G id h).length ≤ B)
  (hR : ∀ o acts, Z3l acts ≤ 1 → o.length + B ≤ lim → R ⟨e, l, o, r1.header, dep⟩ acts = some ⟨e, l, (doA G acts o r1.header).1, (doA G acts o r1.header).2, dep⟩) :
  ∀ (ts : List Int) (i : Nat) (o : List Out), (∀ t ∈ ts, ∃ n : Nat, t = (n : Int) ∧ n < g.Buckets.length) → o.length + ts.length * B ≤ lim →
   Zak (g, true) R r1 ts i o e l r1.header dep = some ⟨e, l, o ++ ts.flatMap fun i => (doA G (Z3h (Z4m g.Buckets i)) [] r1.header).1, r1.header, dep - 1⟩
 | [], i, o, _, _ => by rw [Zak, Z2m (by omega) (by omega)]; simp
 | t :: ts, i, o, ht, hb => by
  have hlim : lim = 4294967296 := rfl
  obtain ⟨n, rfl, hn⟩ := ht t (by simp)
  simp only [List.length_cons, Nat.add_mul, Nat.one_mul] at hb
  have hacts := hg.2 g.Buckets[n] (List.getElem_mem hn)
  have hba : Z4m g.Buckets (n : Int) = g.Buckets[n].Acts := by
   unfold Z4m
   rw [Int.toNat_natCast, List.getElem?_eq_getElem hn]
  have hwl := Zic g.Buckets[n].Acts []
  simp only [List.length_nil, Nat.zero_add] at hwl
  have hlen := Zn9 G B hB hG (Z3h g.Buckets[n].Acts) r1.header
  have hout := Zpj g.Buckets[n].Acts
  have hmul : Z3l (Z3h g.Buckets[n].Acts) * B ≤ 1 * B := Nat.mul_le_mul_right _ hout
  rw [Zak]
  simp only
  rw [Z37 hn, Option.bind_some, Znu _ _ (by simp; omega), Option.bind_some, Y5q _ (by omega), Option.bind_some, show Z5i (g.Buckets[n].Acts.foldl wr1 []) = Z3h g.Buckets[n].Acts from rfl, hR o _ hout (by omega), Option.bind_some]
  simp only
  rw [Z90]
  simp only
  rw [Zwk R G e l g hg r1 dep hd B hB hG hR ts (i + 1) _ (fun t h => ht t (by simp [h])) (by rw [List.length_append]; omega), List.flatMap_cons, hba]
  simp
theorem Yeo (l : List Group) (e : Env) (hl : Z3f l) : ∀ (d : Nat), d ≤ 8 →
  (∀ n o id h, 2 * d + 1 ≤ n → o.length + 3 ^ d ≤ lim → (Z30 n).2 ⟨e, l, o, h, ((8 - d : Nat) : Int)⟩ id = some ⟨e, l, o ++ goG l e d id h, h, ((8 - d : Nat) : Int)⟩) ∧
  (∀ n o acts h, 2 * d + 2 ≤ n → o.length + Z3l acts * 3 ^ d ≤ lim → (Z30 n).1 ⟨e, l, o, h, ((8 - d : Nat) : Int)⟩ acts = some ⟨e, l, (doA (goG l e d) acts o h).1, (doA (goG l e d) acts o h).2, ((8 - d : Nat) : Int)⟩) := by
 have hlim : lim = 4294967296 := rfl
 intro d
 induction d with
 | zero =>
  intro hd
  have h1 : ∀ n o id h, 2 * 0 + 1 ≤ n → o.length + 3 ^ 0 ≤ lim → (Z30 n).2 ⟨e, l, o, h, ((8 - 0 : Nat) : Int)⟩ id = some ⟨e, l, o ++ goG l e 0 id h, h, ((8 - 0 : Nat) : Int)⟩ := by
   intro n o id h hn _
   obtain ⟨n, rfl⟩ : ∃ k, n = k + 1 := ⟨n - 1, by omega⟩
   show Zdp (Z30 n).1 (Z30 n).2 _ _ = _
   unfold Zdp
   simp only
   rw [Zj8 l id hl, Option.bind_some]
   have : ∀ x : Group × Bool, ((!x.2) || decide (((8 - 0 : Nat) : Int) ≥ 8)) = true := fun x => by simp
   rw [this]
   simp [goG]
  refine ⟨h1, ?_⟩
  intro n o acts h hn hb
  obtain ⟨n, rfl⟩ : ∃ k, n = k + 1 := ⟨n - 1, by omega⟩
  show Zcg (Z30 n).1 (Z30 n).2 _ _ = _
  unfold Zcg
  exact Zk7 _ (goG l e 0) e l _ (3 ^ 0) (by decide) (Zkw l e hl 0) (fun o id h hb => h1 n o id h (by omega) hb) acts 0 o h hb
 | succ d ih =>
  intro hd
  obtain ⟨ih1, ih2⟩ := ih (by omega)
  have hp : 3 ^ (d + 1) = 3 * 3 ^ d := by rw [Nat.pow_succ, Nat.mul_comm]
  have h1 : ∀ n o id h, 2 * (d + 1) + 1 ≤ n → o.length + 3 ^ (d + 1) ≤ lim → (Z30 n).2 ⟨e, l, o, h, ((8 - (d + 1) : Nat) : Int)⟩ id = some ⟨e, l, o ++ goG l e (d + 1) id h, h, ((8 - (d + 1) : Nat) : Int)⟩ := by
   intro n o id h hn hb
   obtain ⟨n, rfl⟩ : ∃ k, n = k + 1 := ⟨n - 1, by omega⟩
   show Zdp (Z30 n).1 (Z30 n).2 _ _ = _
   unfold Zdp
   simp only
   rw [Zj8 l id hl, Option.bind_some, goG]
   cases hf : Z6i l id with
   | none => simp
   | some g =>
    have hg := hl.2 g (Znl hf)
    obtain ⟨t1, t2⟩ := Zoh e g hg
    simp only [Bool.not_true, Bool.false_or]
    rw [decide_eq_false (by omega), cond_false, Y32 e g hg, Option.bind_some]
    have ew : IntKind.i64.wrap (((8 - (d + 1) : Nat) : Int) + 1) = ((8 - d : Nat) : Int) := by rw [Z2m (by omega) (by omega)]; omega
    rw [ew]
    have hmul : (Z3y e g).length * 3 ^ d ≤ 3 * 3 ^ d := Nat.mul_le_mul_right _ t1
    have := Zwk (Z30 n).1 (goG l e d) e l g hg ⟨e, l, o, h, ((8 - (d + 1) : Nat) : Int)⟩ ((8 - d : Nat) : Int) (by omega) (3 ^ d) (Nat.pow_pos (by decide)) (Zkw l e hl d)
     (fun o acts ho hb => ih2 n o acts h (by omega) (by
      have : Z3l acts * 3 ^ d ≤ 1 * 3 ^ d := Nat.mul_le_mul_right _ ho
      omega)) (Z3y e g) 0 o t2 (by omega)
    simp only at this
    rw [this]
    congr 2
    omega
  refine ⟨h1, ?_⟩
  intro n o acts h hn hb
  obtain ⟨n, rfl⟩ : ∃ k, n = k + 1 := ⟨n - 1, by omega⟩
  show Zcg (Z30 n).1 (Z30 n).2 _ _ = _
  unfold Zcg
  exact Zk7 _ (goG l e (d + 1)) e l _ (3 ^ (d + 1)) (Nat.pow_pos (by decide)) (Zkw l e hl (d + 1)) (fun o id h hb => h1 n o id h (by omega) hb) acts 0 o h hb
theorem Ykj (l : List Group) (e : Env) (acts : List Action) (h : Header) (hl : Z3f l) (ha : acts.length ≤ 100) : Zg7 l e acts h = some (doA (goG l e 8) acts [] h) := by
 have hlim : lim = 4294967296 := rfl
 unfold Zg7 Zrd
 have ho : Z3l acts ≤ 100 := Nat.le_trans List.countP_le_length ha
 have hm : Z3l acts * 3 ^ 8 ≤ 100 * 3 ^ 8 := Nat.mul_le_mul_right _ ho
 have := (Yeo l e hl 8 (by decide)).2 Z0l [] acts h (by unfold Z0l; omega) (by simp only [List.length_nil]; omega)
 rw [show (((8 - 8 : Nat)) : Int) = 0 from rfl] at this
 rw [this]
 rfl
end Go.Proofs.YtknpgojdkobgjaaGreat.W
namespace Go.Proofs.YtknpgojdkobgjaaGreat.W
open Go Go.Wb
theorem Y0v (a b : Cube) : Zfm a b = some (Z5t a b) := by
 unfold Zfm
 rw [Y28 (fun x => Zgg x a b) (fun i => Z4y (ve a i) (ve b i)) (fun i hi => by unfold Zgg; rw [Z3j hi, Option.bind_some, Option.bind_some, Z55, Z55, Zxp]; rfl)]
 rfl
def Zn0 (r : Cube) (a : Action) : Atom := bif decide (a.Kind = 0) then ⟨r, false, a.Port, Zjx a⟩ else ⟨r, true, a.Group, 0⟩
def Zeg (a : Action) : Bool := decide (a.Kind = 0) || decide (a.Kind = 22)
def doT : List Action → Cube → List Atom × Cube
 | [], r => ([], r)
 | a :: l, r => bif Zeg a then (Zn0 r a :: (doT l r).1, (doT l r).2) else doT l (Z5t r (Zhp a))
theorem Yg0 (r : Cube) (o : List Atom) (a : Action) (h : o.length + 1 ≤ lim) : Zd6 ⟨r, o⟩ a = some (bif Zeg a then ⟨r, o ++ [Zn0 r a]⟩ else ⟨Z5t r (Zhp a), o⟩) := by
 have hj : ∀ x : Atom, Zen ⟨r, o⟩ x = some ⟨r, o ++ [x]⟩ := fun x => by
  unfold Zen
  rw [Z23 (by simpa using h), Option.bind_some]
 unfold Zd6 Zeg Zn0 Zjx
 cases decide (a.Kind = 0)
 ·rw [cond_false]
  cases decide (a.Kind = 22)
  ·rw [cond_false, Zve, Option.bind_some, Y0v]; rfl
  ·rw [cond_true, hj]; rfl
 ·rw [cond_true]
  cases decide (a.Port = 4294967293)
  ·rw [cond_false, hj]; rfl
  ·rw [cond_true, hj]; rfl
theorem Ztk : ∀ (l : List Action) (i : Nat) (r : Cube) (o : List Atom), o.length + l.length ≤ lim → Zbf Z6d (fun s x => Zd6 s x) l i ⟨r, o⟩ = some ⟨(doT l r).2, o ++ (doT l r).1⟩
 | [], i, r, o, _ => by rw [Zbf]; simp [doT]
 | a :: l, i, r, o, h => by
  simp only [List.length_cons] at h
  rw [Zbf, Yg0 r o a (by omega), Option.bind_some, doT]
  cases Zeg a
  ·rw [cond_false, cond_false, Ztk l (i + 1) _ o (by omega)]
  ·rw [cond_true, cond_true, Ztk l (i + 1) _ _ (by simp; omega)]
   simp
theorem Y17 (acts : List Action) (r : Cube) (h : acts.length ≤ lim) : Zhc acts r = some (doT acts (Z0i r)) := by
 unfold Zhc Znj
 rw [Zs5, Option.bind_some, Ztk acts 0 _ [] (by simpa using h), Option.bind_some]
 rfl
theorem Zgx : ∀ (l : List Action) (r : Cube), (doT l r).1.length = Z3l l
 | [], r => rfl
 | a :: l, r => by
  have ih := Zgx l
  unfold Z3l at ih ⊢
  rw [doT, List.countP_cons]
  show _ = _ + if Zeg a = true then 1 else 0
  cases Zeg a
  ·simp [ih]
  ·simp [ih]
end Go.Proofs.YtknpgojdkobgjaaGreat.W
namespace Go.Proofs.YtknpgojdkobgjaaGreat.W
open Go Go.Wb
def Z2v (G : Int → Cube → List Atom) : List Atom → List Atom
 | [] => []
 | x :: l => (bif x.Group then G x.Port x.Rewrite else [{ x with Rewrite := Z0i x.Rewrite }]) ++ Z2v G l
def goN (l : List Group) (e : Env) : Nat → Int → Cube → List Atom
 | 0, _, _ => []
 | d + 1, id, r => match Z6i l id with
  | none => []
  | some g => (Z3y e g).flatMap fun i => Z2v (goN l e d) (doT (Z3h (Z4m g.Buckets i)) (Z0i r)).1
theorem Zuf (G : Int → Cube → List Atom) (B : Nat) (hB : 1 ≤ B) (hG : ∀ id r, (G id r).length ≤ B) : ∀ a : List Atom, (Z2v G a).length ≤ a.length * B
 | [] => by simp [Z2v]
 | x :: a => by
  have ih := Zuf G B hB hG a
  rw [Z2v, List.length_append, List.length_cons, Nat.add_mul, Nat.one_mul]
  have : (bif x.Group then G x.Port x.Rewrite else [{ x with Rewrite := Z0i x.Rewrite }]).length ≤ B := by
   cases x.Group
   ·simpa using hB
   ·exact hG _ _
  omega
theorem Zob (l : List Group) (e : Env) (hl : Z3f l) : ∀ (d : Nat) (id : Int) (r : Cube), (goN l e d id r).length ≤ 3 ^ d
 | 0, id, r => by simp [goN]
 | d + 1, id, r => by
  rw [goN]
  cases hf : Z6i l id with
  | none => simp
  | some g =>
   have hb := hl.2 g (Znl hf)
   have ht := (Zoh e g hb).1
   have h1 : 1 ≤ 3 ^ d := Nat.pow_pos (by decide)
   have := Ztb (fun i => Z2v (goN l e d) (doT (Z3h (Z4m g.Buckets i)) (Z0i r)).1) (3 ^ d) (Z3y e g) fun i _ => by
    have h2 := Zuf (goN l e d) (3 ^ d) h1 (Zob l e hl d) (doT (Z3h (Z4m g.Buckets i)) (Z0i r)).1
    rw [Zgx] at h2
    have h3 := Zpj (Z4m g.Buckets i)
    have h4 : Z3l (Z3h (Z4m g.Buckets i)) * 3 ^ d ≤ 1 * 3 ^ d := Nat.mul_le_mul_right _ h3
    omega
   have h5 : (Z3y e g).length * 3 ^ d ≤ 3 * 3 ^ d := Nat.mul_le_mul_right _ ht
   have e1 : 3 ^ (d + 1) = 3 * 3 ^ d := by rw [Nat.pow_succ, Nat.mul_comm]
   show ((Z3y e g).flatMap _).length ≤ _
   omega
theorem Zo7 (R : norm_world → Int → Cube → Option (List Atom)) (w : norm_world) (G : Int → Cube → List Atom) (B : Nat) (hB : 1 ≤ B) (hG : ∀ id r, (G id r).length ≤ B) (hR : ∀ id r, R w id r = some (G id r)) :
  ∀ (a : List Atom) (i : Nat) (acc : List Atom), acc.length + a.length * B ≤ lim → Z96 R w a i acc = some (acc ++ Z2v G a)
 | [], i, acc, _ => by rw [Z96]; simp [Z2v]
 | x :: a, i, acc, h => by
  simp only [List.length_cons, Nat.add_mul, Nat.one_mul] at h
  rw [Z96, Z2v]
  cases x.Group
  ·rw [cond_false, cond_false, Zs5, Option.bind_some, Z23 (by simp; omega), Option.bind_some, Zo7 R w G B hB hG hR a (i + 1) _ (by simp; omega)]
   simp
  ·have h2 := hG x.Port x.Rewrite
   rw [cond_true, cond_true, hR, Option.bind_some, Z23 (by omega), Option.bind_some, Zo7 R w G B hB hG hR a (i + 1) _ (by rw [List.length_append]; omega)]
   simp
theorem Zux (R : norm_world → List Atom → Option (List Atom)) (w w2 : norm_world) (hw : { w with depth := (IntKind.i64.wrap (w.depth + 1)) } = w2) (G : Int → Cube → List Atom) (r : Cube) (g : Group) (hg : Zdu g.Buckets) (B : Nat) (hB : 1 ≤ B) (hG : ∀ id r, (G id r).length ≤ B)
  (hR : ∀ a : List Atom, a.length ≤ 1 → R w2 a = some (Z2v G a)) :
  ∀ (ts : List Int) (i : Nat) (acc : List Atom), (∀ t ∈ ts, ∃ n : Nat, t = (n : Int) ∧ n < g.Buckets.length) → acc.length + ts.length * B ≤ lim →
   Zad (g, true) r R w ts i acc = some (acc ++ ts.flatMap fun i => Z2v G (doT (Z3h (Z4m g.Buckets i)) (Z0i r)).1)
 | [], i, acc, _, _ => by rw [Zad]; simp
 | t :: ts, i, acc, ht, hb => by
  have hlim : lim = 4294967296 := rfl
  obtain ⟨n, rfl, hn⟩ := ht t (by simp)
  simp only [List.length_cons, Nat.add_mul, Nat.one_mul] at hb
  have hacts := hg.2 g.Buckets[n] (List.getElem_mem hn)
  have hba : Z4m g.Buckets (n : Int) = g.Buckets[n].Acts := by
   unfold Z4m
   rw [Int.toNat_natCast, List.getElem?_eq_getElem hn]
  have hwl := Zic g.Buckets[n].Acts []
  simp only [List.length_nil, Nat.zero_add] at hwl
  have hsl : (Z3h g.Buckets[n].Acts).length ≤ 12 := by
   unfold Z3h Z5i
   rw [(Y0a _ _).length_eq]
   exact Nat.le_trans (List.length_filter_le ..) (by omega)
  have hout := Zpj g.Buckets[n].Acts
  have h1 : (doT (Z3h g.Buckets[n].Acts) (Z0i r)).1.length ≤ 1 := by rw [Zgx]; exact hout
  have h2 := Zuf G B hB hG (doT (Z3h g.Buckets[n].Acts) (Z0i r)).1
  have h3 : (doT (Z3h g.Buckets[n].Acts) (Z0i r)).1.length * B ≤ 1 * B := Nat.mul_le_mul_right _ h1
  rw [Zad]
  simp only
  rw [Z37 hn, Option.bind_some, Znu _ _ (by simp; omega), Option.bind_some, Y5q _ (by omega), Option.bind_some, show Z5i (g.Buckets[n].Acts.foldl wr1 []) = Z3h g.Buckets[n].Acts from rfl, Y17 _ r (by omega), Option.bind_some, hw, hR _ h1, Option.bind_some, Z23 (by omega), Option.bind_some,
   Zux R w w2 hw G r g hg B hB hG hR ts (i + 1) _ (fun t h => ht t (by simp [h])) (by rw [List.length_append]; omega), List.flatMap_cons, hba]
  simp
theorem Yd8 (l : List Group) (e : Env) (hl : Z3f l) : ∀ (d : Nat), d ≤ 8 →
  (∀ n id r, 2 * d + 1 ≤ n → (Z2w n).2 ⟨e, l, ((8 - d : Nat) : Int)⟩ id r = some (goN l e d id r)) ∧
  (∀ n a, 2 * d + 2 ≤ n → a.length * 3 ^ d ≤ lim → (Z2w n).1 ⟨e, l, ((8 - d : Nat) : Int)⟩ a = some (Z2v (goN l e d) a)) := by
 have hlim : lim = 4294967296 := rfl
 intro d
 induction d with
 | zero =>
  intro hd
  have h1 : ∀ n id r, 2 * 0 + 1 ≤ n → (Z2w n).2 ⟨e, l, ((8 - 0 : Nat) : Int)⟩ id r = some (goN l e 0 id r) := by
   intro n id r hn
   obtain ⟨n, rfl⟩ : ∃ k, n = k + 1 := ⟨n - 1, by omega⟩
   show Zee (Z2w n).1 (Z2w n).2 _ _ _ = _
   unfold Zee
   simp only
   rw [Zj8 l id hl, Option.bind_some]
   have : ∀ x : Group × Bool, ((!x.2) || decide (((8 - 0 : Nat) : Int) ≥ 8)) = true := fun x => by simp
   rw [this]
   rfl
  refine ⟨h1, ?_⟩
  intro n a hn hb
  obtain ⟨n, rfl⟩ : ∃ k, n = k + 1 := ⟨n - 1, by omega⟩
  show Zd8 (Z2w n).1 (Z2w n).2 _ _ = _
  unfold Zd8
  exact Zo7 _ _ (goN l e 0) (3 ^ 0) (by decide) (Zob l e hl 0) (fun id r => h1 n id r (by omega)) a 0 [] (by simp only [List.length_nil]; omega)
 | succ d ih =>
  intro hd
  obtain ⟨ih1, ih2⟩ := ih (by omega)
  have hp : 3 ^ (d + 1) = 3 * 3 ^ d := by rw [Nat.pow_succ, Nat.mul_comm]
  have hp8 : 3 ^ d ≤ 3 ^ 8 := Nat.pow_le_pow_right (by decide) (by omega)
  have hp9 : (3 : Nat) ^ 8 = 6561 := by decide
  have h1 : ∀ n id r, 2 * (d + 1) + 1 ≤ n → (Z2w n).2 ⟨e, l, ((8 - (d + 1) : Nat) : Int)⟩ id r = some (goN l e (d + 1) id r) := by
   intro n id r hn
   obtain ⟨n, rfl⟩ : ∃ k, n = k + 1 := ⟨n - 1, by omega⟩
   show Zee (Z2w n).1 (Z2w n).2 _ _ _ = _
   unfold Zee
   simp only
   rw [Zj8 l id hl, Option.bind_some, goN]
   cases hf : Z6i l id with
   | none => simp
   | some g =>
    have hg := hl.2 g (Znl hf)
    obtain ⟨t1, t2⟩ := Zoh e g hg
    simp only [Bool.not_true, Bool.false_or]
    rw [decide_eq_false (by omega), cond_false, Y32 e g hg, Option.bind_some]
    have ew : IntKind.i64.wrap (((8 - (d + 1) : Nat) : Int) + 1) = ((8 - d : Nat) : Int) := by rw [Z2m (by omega) (by omega)]; omega
    have hmul : (Z3y e g).length * 3 ^ d ≤ 3 * 3 ^ d := Nat.mul_le_mul_right _ t1
    have := Zux (Z2w n).1 ⟨e, l, ((8 - (d + 1) : Nat) : Int)⟩ ⟨e, l, ((8 - d : Nat) : Int)⟩ (by simp only [ew]) (goN l e d) r g hg (3 ^ d) (Nat.pow_pos (by decide)) (Zob l e hl d)
     (fun a ha => ih2 n a (by omega) (by
      have : a.length * 3 ^ d ≤ 1 * 3 ^ d := Nat.mul_le_mul_right _ ha
      omega)) (Z3y e g) 0 [] t2 (by simp only [List.length_nil]; omega)
    rw [this]
    rfl
  refine ⟨h1, ?_⟩
  intro n a hn hb
  obtain ⟨n, rfl⟩ : ∃ k, n = k + 1 := ⟨n - 1, by omega⟩
  show Zd8 (Z2w n).1 (Z2w n).2 _ _ = _
  unfold Zd8
  exact Zo7 _ _ (goN l e (d + 1)) (3 ^ (d + 1)) (Nat.pow_pos (by decide)) (Zob l e hl (d + 1)) (fun id r => h1 n id r (by omega)) a 0 [] (by simp only [List.length_nil]; omega)
theorem Yk0 (l : List Group) (e : Env) (a : List Atom) (hl : Z3f l) (ha : a.length ≤ 200000) : Zg0 l e a = some (Z2v (goN l e 8) a) := by
 have hlim : lim = 4294967296 := rfl
 have hp9 : (3 : Nat) ^ 8 = 6561 := by decide
 have hm : a.length * 3 ^ 8 ≤ 200000 * 3 ^ 8 := Nat.mul_le_mul_right _ ha
 unfold Zg0 Zqh
 have := (Yd8 l e hl 8 (by decide)).2 Z0l a (by unfold Z0l; omega) (by rw [hp9] at hm ⊢; omega)
 rw [show (((8 - 8 : Nat)) : Int) = 0 from rfl] at this
 rw [this]
 rfl
def Zrt (a : Atom) : Prop := a.Group = false ∧ Z0i a.Rewrite = a.Rewrite
theorem Zqc (G : Int → Cube → List Atom) (hG : ∀ id r, ∀ x ∈ G id r, Zrt x) : ∀ a : List Atom, ∀ x ∈ Z2v G a, Zrt x
 | [], x, h => by simp [Z2v] at h
 | y :: a, x, h => by
  rw [Z2v, List.mem_append] at h
  rcases h with h | h
  ·cases hy : y.Group
   ·rw [hy] at h
    simp only [cond_false, List.mem_singleton] at h
    subst h
    exact ⟨rfl, Yj6 _⟩
   ·rw [hy] at h
    exact hG _ _ x h
  ·exact Zqc G hG a x h
theorem Zuo (l : List Group) (e : Env) : ∀ (d : Nat) (id : Int) (r : Cube), ∀ x ∈ goN l e d id r, Zrt x
 | 0, id, r, x, h => by simp [goN] at h
 | d + 1, id, r, x, h => by
  rw [goN] at h
  cases hf : Z6i l id with
  | none => rw [hf] at h; simp at h
  | some g =>
   rw [hf] at h
   have h' : x ∈ (Z3y e g).flatMap fun i => Z2v (goN l e d) (doT (Z3h (Z4m g.Buckets i)) (Z0i r)).1 := h
   obtain ⟨i, _, hx⟩ := List.mem_flatMap.1 h'
   exact Zqc _ (Zuo l e d) _ x hx
end Go.Proofs.YtknpgojdkobgjaaGreat.W
namespace Go.Proofs.YtknpgojdkobgjaaGreat.W
open Go Go.Wb
theorem Ybh (s : List Bucket) (f : Bucket → Option Bool) (p : Bucket → Bool) (hf : ∀ x ∈ s, f x = some (p x)) : Ziz s f = some (s.any p) := by
 unfold Ziz; rw [Y03 s f p hf, Option.bind_some, Zc8]
theorem Yix (s : List Group) (f : Group → Option Bool) (p : Group → Bool) (hf : ∀ x ∈ s, f x = some (p x)) : Zkz s f = some (s.any p) := by
 unfold Zkz; rw [Zrk s f p hf, Option.bind_some, Zc8]
def Zfc (bs : List Bucket) (many : Int) : Bool := decide ((bs.length : Int) ≤ many) && !(bs.any fun x => !decide ((x.Acts.length : Int) ≤ 12))
theorem Yfj (bs : List Bucket) (many : Int) : Zik bs many = some (Zfc bs many) := by
 unfold Zik Zfc
 rw [Ybh bs Zn8 (fun x => !decide ((x.Acts.length : Int) ≤ 12)) (fun x _ => rfl)]
 cases decide ((bs.length : Int) ≤ many) <;> rfl
def Zgp (l : List Group) (many bm : Int) : Bool := decide ((l.length : Int) ≤ many) && !(l.any fun g => !Zfc g.Buckets bm)
theorem Ydo (l : List Group) (many bm : Int) : Zjh l many bm = some (Zgp l many bm) := by
 unfold Zjh Zgp
 rw [Yix l (fun x => Zh8 x bm) (fun g => !Zfc g.Buckets bm) (fun g _ => by unfold Zh8; rw [Yfj]; rfl)]
 cases decide ((l.length : Int) ≤ many) <;> rfl
theorem Ynr {l : List Group} (h : Zgp l 9 3 = true) : Z3f l := by
 unfold Zgp at h
 simp only [Bool.and_eq_true, decide_eq_true_eq, Bool.not_eq_true', List.any_eq_false] at h
 refine ⟨by omega, fun g hg => ?_⟩
 have h1 : Zfc g.Buckets 3 = true := by simpa using h.2 g hg
 unfold Zfc at h1
 simp only [Bool.and_eq_true, decide_eq_true_eq, Bool.not_eq_true', List.any_eq_false] at h1
 refine ⟨by omega, fun x hx => ?_⟩
 have h2 : decide ((x.Acts.length : Int) ≤ 12) = true := by simpa using h1.2 x hx
 rw [decide_eq_true_eq] at h2
 omega
end Go.Proofs.YtknpgojdkobgjaaGreat.W
namespace Go.Proofs.YtknpgojdkobgjaaGreat.W
open Go Go.Wb
theorem inc (n : Nat) (h : n < 9223372036854775807) : IntKind.i64.wrap ((n : Int) + 1) = ((n + 1 : Nat) : Int) := by rw [Z2m (by omega) (by omega)]; omega
theorem Zu8 {α : Type} (p : α → Bool) : ∀ (l : List α) (w : Nat), Z08 p l = (w : Int) → ∃ h : w < l.length, p l[w] = true ∧ ∀ (i : Nat) (hi : i < l.length), i < w → p l[i] = false
 | [], w, h => by unfold Z08 at h; omega
 | x :: l, w, h => by
  unfold Z08 at h
  cases hp : p x
  ·rw [hp, cond_false] at h
   by_cases hn : Z08 p l < 0
   ·rw [decide_eq_true hn, cond_true] at h; omega
   ·rw [decide_eq_false hn, cond_false] at h
    obtain ⟨v, rfl⟩ : ∃ v, w = v + 1 := ⟨w - 1, by have := Zf6 p l; omega⟩
    obtain ⟨h1, h2, h3⟩ := Zu8 p l v (by omega)
    refine ⟨by simpa using h1, by simpa using h2, fun i hi hlt => ?_⟩
    cases i with
    | zero => exact hp
    | succ i => exact h3 i (by simpa using hi) (by omega)
  ·rw [hp, cond_true] at h
   obtain rfl : w = 0 := by omega
   exact ⟨by simp, hp, fun i hi hlt => by omega⟩
end Go.Proofs.YtknpgojdkobgjaaGreat.W
namespace Go.Proofs.YtknpgojdkobgjaaGreat.W
open Go Go.Wb
def Z5a (G : Int → Header → List Out) (h : Header) (x : Atom) : List Out := bif x.Group then G x.Port (Z11 x.Rewrite h) else [⟨x.Port, x.Max, Z11 x.Rewrite h⟩]
end Go.Proofs.YtknpgojdkobgjaaGreat.W
namespace Go.Proofs.YtknpgojdkobgjaaGreat.W
open Go Go.Wb
end Go.Proofs.YtknpgojdkobgjaaGreat.W
namespace Go.Proofs.YtknpgojdkobgjaaGreat.W
open Go Go.Wb
theorem Zso (r s : Cube) (h : Header) : Z11 (Z5t r s) h = Z11 s (Z11 r h) := Z7f fun f hf => by
 rw [Z6k _ _ _ hf, Z6k _ _ _ hf, Z6k _ _ _ hf, Ymg _ _ _ hf]
 unfold Z4y Z1g
 exact Zbo fun i hi => by
  simp only [Z2y, Z5n, Z4v _ _ _ hi]
  cases wt (ve h f) i <;> cases wt (ve r f).Value i <;> cases wt (ve r f).Mask i <;> cases wt (ve s f).Value i <;> cases wt (ve s f).Mask i <;> rfl
theorem Zqs (r : Cube) (h : Header) : Z11 (Z0i r) h = Z11 r h := Z7f fun f hf => by
 rw [Z6k _ _ _ hf, Z6k _ _ _ hf, Za7 _ _ hf]
 unfold Z1g
 exact Zbo fun i hi => by
  simp only [Z2y, Z5n, Z4v _ _ _ hi]
  cases wt (ve h f) i <;> cases wt (ve r f).Value i <;> cases wt (ve r f).Mask i <;> rfl
theorem Zjb (G : Int → Header → List Out) (h : Header) : ∀ (l : List Action) (r : Cube), doA G l [] (Z11 r h) = ((doT l r).1.flatMap (Z5a G h), Z11 (doT l r).2 h)
 | [], r => rfl
 | a :: l, r => by
  rw [doA, doT]
  unfold Zeg Zn0
  by_cases h0 : a.Kind = 0
  ·rw [decide_eq_true h0]
   simp only [cond_true, Bool.true_or, List.flatMap_cons]
   rw [Z90, Zjb G h l r]
   rfl
  ·rw [decide_eq_false h0]
   by_cases h1 : a.Kind = 22
   ·rw [decide_eq_true h1]
    simp only [cond_true, cond_false, Bool.false_or, List.flatMap_cons]
    rw [Z90, Zjb G h l r]
    rfl
   ·rw [decide_eq_false h1]
    simp only [cond_false, Bool.false_or]
    rw [← Zso, Zjb G h l _]
end Go.Proofs.YtknpgojdkobgjaaGreat.W
namespace Go.Proofs.YtknpgojdkobgjaaGreat.W
open Go Go.Wb
end Go.Proofs.YtknpgojdkobgjaaGreat.W
namespace Go.Proofs.YtknpgojdkobgjaaGreat.W
open Go Go.Wb
theorem Zy0 (a : Wide) : Zgr a = some (Z3u a) := rfl
theorem Zyx (a : Wide) (i : Nat) (h : i < 128) : Zfn a (i : Int) = some (wt a i) := by
 unfold Zfn
 rw [Zuj i h, Option.bind_some, Zwr, Option.bind_some, Zy0, Option.bind_some, Yjw a i h]
theorem Yg8 (n : Nat) (h : n < 18446744073709551616) : Zsh .and .i64 (IntKind.i64.wrap (n : Int)) 127 = ((n % 128 : Nat) : Int) := by
 have e : (BitVec.ofInt 64 (IntKind.i64.wrap (n : Int)) &&& BitVec.ofInt 64 127).toNat = n % 128 := by
  have e1 : BitVec.ofInt 64 (IntKind.i64.wrap (n : Int)) = BitVec.ofNat 64 n := by
   apply BitVec.eq_of_toNat_eq
   rw [BitVec.toNat_ofInt, BitVec.toNat_ofNat]
   simp only [IntKind.wrap, IntKind.signed, IntKind.bits]
   simp
   omega
  have e2 : BitVec.ofInt 64 127 = BitVec.ofNat 64 127 := rfl
  rw [e1, e2, BitVec.toNat_and, BitVec.toNat_ofNat, BitVec.toNat_ofNat, Nat.mod_eq_of_lt h]
  exact Nat.and_two_pow_sub_one_eq_mod n 7
 show IntKind.i64.wrap ((BitVec.ofInt 64 (IntKind.i64.wrap (n : Int)) &&& BitVec.ofInt 64 127).toNat : Int) = _
 rw [e, Z2m (by omega) (by omega)]
def cnt (x : BitVec 64) : Nat := ds 1 64 x.toNat
theorem Y3h (x : BitVec 64) : Zgq x = some (cnt x : Int) := by
 obtain ⟨h0, ha, hb, hbb, hd, he, hf⟩ := Yge x.toNat x.isLt
 have sh : ∀ (x : BitVec 64) (n : BitVec 64), Z3a x (n.toNat : Int) = some (x >>> n.toNat) := fun x n => Yc1 x n.toNat
 unfold Zgq
 simp only [sh, Option.bind_some]
 congr 1
 have t1 : ((1 : BitVec 64)).toNat = 1 := rfl
 have t2 : ((2 : BitVec 64)).toNat = 2 := rfl
 have t4 : ((4 : BitVec 64)).toNat = 4 := rfl
 have t8 : ((8 : BitVec 64)).toNat = 8 := rfl
 have t16 : ((16 : BitVec 64)).toNat = 16 := rfl
 have t32 : ((32 : BitVec 64)).toNat = 32 := rfl
 rw [t1, t2, t4, t8, t16, t32]
 generalize hA : (x >>> 1 &&& (6148914691236517205 : BitVec 64)) + (x &&& (6148914691236517205 : BitVec 64)) = A
 have eA : A.toNat = (x.toNat / 2 &&& 6148914691236517205) + (x.toNat &&& 6148914691236517205) := by
  rw [← hA, BitVec.toNat_add, BitVec.toNat_and, BitVec.toNat_and, BitVec.toNat_ushiftRight, Nat.shiftRight_eq_div_pow]
  exact Nat.mod_eq_of_lt ha
 generalize hB : (A >>> 2 &&& (3689348814741910323 : BitVec 64)) + (A &&& (3689348814741910323 : BitVec 64)) = B
 have eB : B.toNat = (A.toNat / 4 &&& 3689348814741910323) + (A.toNat &&& 3689348814741910323) := by
  rw [← hB, BitVec.toNat_add, BitVec.toNat_and, BitVec.toNat_and, BitVec.toNat_ushiftRight, Nat.shiftRight_eq_div_pow]
  rw [eA]
  exact Nat.mod_eq_of_lt hb
 generalize hC : (B >>> 4 + B) &&& (1085102592571150095 : BitVec 64) = D
 have eC : D.toNat = (B.toNat / 16 + B.toNat) &&& 1085102592571150095 := by
  rw [← hC, BitVec.toNat_and, BitVec.toNat_add, BitVec.toNat_ushiftRight, Nat.shiftRight_eq_div_pow]
  have : (B.toNat / 2 ^ 4 + B.toNat) % 2 ^ 64 = B.toNat / 16 + B.toNat := by
   rw [eB, eA]
   exact Nat.mod_eq_of_lt hbb
  rw [this]; rfl
 rw [← eA, ← eB, ← eC] at hd he hf h0
 generalize hE : D + D >>> 8 = E
 have eE : E.toNat = D.toNat + D.toNat / 256 := by
  rw [← hE, BitVec.toNat_add, BitVec.toNat_ushiftRight, Nat.shiftRight_eq_div_pow]
  exact Nat.mod_eq_of_lt hd
 rw [← eE] at he hf h0
 generalize hG : E + E >>> 16 = G
 have eG : G.toNat = E.toNat + E.toNat / 65536 := by
  rw [← hG, BitVec.toNat_add, BitVec.toNat_ushiftRight, Nat.shiftRight_eq_div_pow]
  exact Nat.mod_eq_of_lt he
 rw [← eG] at hf h0
 generalize hK : G + G >>> 32 = K
 have eK : K.toNat = G.toNat + G.toNat / 4294967296 := by
  rw [← hK, BitVec.toNat_add, BitVec.toNat_ushiftRight, Nat.shiftRight_eq_div_pow]
  exact Nat.mod_eq_of_lt hf
 rw [← eK] at h0
 rw [Yg8 _ K.isLt, h0]
 rfl
theorem Zyk (x : BitVec 64) : cnt x ≤ 64 := by
 unfold cnt
 rw [Zni]
 exact Nat.le_trans (List.length_filter_le ..) (by simp)
def Zbu (a : Wide) : List Nat := (List.range 128).filter (wt a)
theorem Y8e (a : Wide) : (Zbu a).length = cnt a.Lo + cnt a.Hi := by
 have e : List.range (64 + 64) = List.range 64 ++ (List.range 64).map (64 + ·) := List.range_add
 unfold Zbu cnt
 rw [show (128 : Nat) = 64 + 64 from rfl, e, List.filter_append, List.length_append, Zni, Zni, List.filter_map, List.length_map]
 congr 2
theorem Yhc (a : Wide) : Zl3 a = some ((Zbu a).length : Int) := by
 have h1 := Zyk a.Hi
 have h2 := Zyk a.Lo
 rw [Y8e]
 unfold Zl3
 rw [Y3h, Option.bind_some, Y3h, Option.bind_some]
 generalize cnt a.Hi = p at *
 generalize cnt a.Lo = q at *
 rw [Z2m (by omega) (by omega)]
 congr 1
 omega
def Z50 (a : Wide) : Nat → List Int
 | 0 => []
 | n + 1 => bif wt a n then (n : Int) :: Z50 a n else Z50 a n
theorem Y1w (a : Wide) : ∀ n, (Z50 a n).length = ((List.range n).filter (wt a)).length
 | 0 => rfl
 | n + 1 => by
  rw [List.range_succ, List.filter_append, List.length_append, Z50, ← Y1w a n]
  cases h : wt a n <;> simp [h]
theorem Zac (a : Wide) : ∀ (n : Nat) (i : Int), i ∈ Z50 a n ↔ ∃ k : Nat, i = (k : Int) ∧ k < n ∧ wt a k = true
 | 0, i => by simp [Z50]
 | n + 1, i => by
  rw [Z50]
  cases h : wt a n
  ·rw [cond_false, Zac a n i]
   constructor
   ·rintro ⟨k, rfl, h1, h2⟩; exact ⟨k, rfl, by omega, h2⟩
   ·rintro ⟨k, rfl, h1, h2⟩
    have : k ≠ n := fun e => by rw [e, h] at h2; cases h2
    exact ⟨k, rfl, by omega, h2⟩
  ·rw [cond_true, List.mem_cons, Zac a n i]
   constructor
   ·rintro (rfl | ⟨k, rfl, h1, h2⟩)
    ·exact ⟨n, rfl, by omega, h⟩
    ·exact ⟨k, rfl, by omega, h2⟩
   ·rintro ⟨k, rfl, h1, h2⟩
    by_cases e : k = n
    ·left; rw [e]
    ·right; exact ⟨k, rfl, by omega, h2⟩
theorem Y8f (a : Wide) : ∀ (n m : Nat) (acc : List Int), n ≤ 128 → n < m → acc.length + (Z50 a n).length = (Zbu a).length → Zb4 a m acc ((n : Int) - 1) = some (acc ++ Z50 a n) := by
 have hlim : lim = 4294967296 := rfl
 have hup : (Zbu a).length ≤ 128 := by
  unfold Zbu; exact Nat.le_trans (List.length_filter_le ..) (by simp)
 intro n
 induction n with
 | zero =>
  intro m acc h1 h2 h3
  obtain ⟨m, rfl⟩ : ∃ k, m = k + 1 := ⟨m - 1, by omega⟩
  rw [Zb4, decide_eq_false (by omega), Yag, Option.bind_some, Bool.false_and, cond_false]
  simp [Z50]
 | succ n ih =>
  intro m acc h1 h2 h3
  obtain ⟨m, rfl⟩ : ∃ k, m = k + 1 := ⟨m - 1, by omega⟩
  have e : ((n + 1 : Nat) : Int) - 1 = (n : Int) := by omega
  rw [e, Zb4, decide_eq_true (by omega), Z7u, Yhc, Option.bind_some, Bool.true_and]
  by_cases hc : acc.length < (Zbu a).length
  ·have e2 : IntKind.i64.wrap ((n : Int) - 1) = (n : Int) - 1 := Z2m (by omega) (by omega)
   rw [decide_eq_true (by omega), cond_true, Zyx a n (by omega), Option.bind_some, e2, Z50]
   rw [Z50] at h3
   cases hw : wt a n
   ·rw [hw, cond_false] at h3
    rw [cond_false, cond_false, ih m acc (by omega) (by omega) h3]
   ·rw [hw, cond_true, List.length_cons] at h3
    rw [cond_true, cond_true, Z23 (by simp; omega), Option.bind_some, ih m _ (by omega) (by omega) (by simp; omega)]
    simp
  ·rw [decide_eq_false (by omega), cond_false]
   have : Z50 a (n + 1) = [] := List.eq_nil_of_length_eq_zero (by omega)
   rw [this]; simp
end Go.Proofs.YtknpgojdkobgjaaGreat.W
namespace Go.Proofs.YtknpgojdkobgjaaGreat.W
open Go Go.Wb
theorem Y21 (f : Int → Option (Tern × Bool)) (g : Nat → Tern) (hf : ∀ i : Nat, i < 24 → f (i : Int) = some (g i, true)) (b : Cube) : ∀ (m i : Nat), i + m = 24 → Z7g f m i (Z5e g b i) = some (Vector.ofFn (fun i => g i.1), true)
 | 0, i, h => by
  have : i = 24 := by omega
  subst this
  rw [Z7g, Zlc]
 | m + 1, i, h => by
  rw [Z7g, hf i (by omega), Option.bind_some, Bool.not_true, cond_false, Z3j (by omega), Option.bind_some]
  show Z7g f m (i + 1) (Vector.set (Z5e g b i) i (g i) _) = _
  rw [Zl0 g b i (by omega), Y21 f g hf b m (i + 1) (by omega)]
theorem Zls (c : Cube) : Zca c = some (Z0i c) := by
 unfold Zca Zco
 have := Y21 (fun x => Zh7 x c) (fun i => Z1g (ve c i)) (fun i hi => by unfold Zh7; rw [Z3j hi, Option.bind_some, Z55, Zn5]; rfl) (Vector.replicate 24 zTern) 24 0 rfl
 rw [Zkf] at this
 rw [show ((24 : Int)).toNat = 24 from rfl, this]
 rfl
def Y8a (x y : Tern) : Bool := !Z3u (Z27 (Z27 x.Mask y.Mask) (Z6v x.Value y.Value))
def apart (a b : Atom) : Bool := !(a.Group == b.Group) || decide (a.Port ≠ b.Port) || decide (a.Max ≠ b.Max) || (List.range' 0 24).any fun f => Y8a (ve a.Rewrite f) (ve b.Rewrite f)
def Z3c (t : Tern) (i : Nat) (on : Bool) : Tern := bif on then ⟨wor (Z4a (Z1g t).Value (Z5y i)) (Z5y i), wor (Z1g t).Mask (Z5y i)⟩ else ⟨Z4a (Z1g t).Value (Z5y i), wor (Z1g t).Mask (Z5y i)⟩
theorem Zxg (t : Tern) (i : Nat) (h : i < 128) (on : Bool) : Zhy t (i : Int) on = some (Z3c t i on) := by
 unfold Zhy
 rw [Zuj i h, Option.bind_some, Zn5, Option.bind_some, Ztf, Option.bind_some, Znf, Option.bind_some]
 cases on
 ·rfl
 ·rw [cond_true, Ztf]; rfl
def Ymq (c : Cube) (f bit : Nat) (on : Bool) : Option Cube :=
 bif wt (ve c f).Mask bit && (wt (ve c f).Value bit == on) then none else some (Vector.ofFn fun k => if f = k.1 then Z3c (ve c f) bit (!on) else ve c k.1)
theorem Yet (c : Cube) (f : Nat) (hf : f < 24) (t : Tern) : Vector.set c f t hf = Vector.ofFn fun k => if f = k.1 then t else ve c k.1 := Z7f fun j hj => by
 rw [Zlm _ _ _ _ _ hj, Z7m (fun k => if f = k then t else ve c k) j hj]
def sgl (x y : Tern) (k : Nat) : Bool × Bool := bif wt x.Mask k == wt y.Mask k then (false, false) else (true, bif wt x.Mask k then wt x.Value k else wt y.Value k)
def rp (c : Cube) (x y : Tern) (f k : Nat) : Option Cube := bif (sgl x y k).1 then Ymq c f k (sgl x y k).2 else none
def Z3g (t : Tern) (v : Wide) : Bool := Z3u (Z27 (Z6v t.Value v) t.Mask)
theorem Z3o (t : Tern) (v : Wide) : Z3g t v = true ↔ ∀ k, k < 128 → wt t.Mask k = true → wt t.Value k = wt v k := by
 unfold Z3g
 rw [Zan]
 constructor
 ·intro h k hk hm
  have := h k hk
  rw [Z2y, Zd7, hm] at this
  revert this
  cases wt t.Value k <;> cases wt v k <;> decide
 ·intro h k hk
  rw [Z2y, Zd7]
  cases hm : wt t.Mask k
  ·simp
  ·rw [h k hk hm]; simp
theorem Y0x (t : Tern) (v : Wide) : Zfa t v = some (Z3g t v) := rfl
def Zt (c : Cube) (h : Header) : Bool := (List.range' 0 24).all fun f => Z3g (ve c f) (ve h f)
theorem Y5e (c : Cube) (h : Header) : ∀ (l : List Tern) (i : Nat), i + l.length = 24 → l = (Vector.toList c).drop i → Zbn h l i = some ((List.range' i l.length).all fun f => Z3g (ve c f) (ve h f))
 | [], i, h1, h2 => by rw [Zbn]; rfl
 | x :: l, i, h1, h2 => by
  simp only [List.length_cons] at h1
  have hi : i < (Vector.toList c).length := by simp; omega
  rw [List.drop_eq_getElem_cons hi] at h2
  obtain ⟨rfl, h3⟩ := List.cons.inj h2
  have hx : (Vector.toList c)[i] = ve c i := by rw [Vector.getElem_toList, Z6l _ _ (by omega)]
  rw [Zbn, Z3j (by omega), Option.bind_some, Z55, Y0x, Option.bind_some, Y5e c h l (i + 1) (by omega) h3, List.length_cons, List.range'_succ, List.all_cons, hx]
  cases Z3g (ve c i) (ve h i) <;> rfl
theorem Zoz (c : Cube) (h : Header) : Zav c h = some (Zt c h) := by
 unfold Zav Zt
 have := Y5e c h (Vector.toList c) 0 (by simp) rfl
 rw [this]
 simp
theorem Z42 (c : Cube) (h : Header) : Zt c h = true ↔ ∀ f, f < 24 → Z3g (ve c f) (ve h f) = true := by
 unfold Zt
 rw [List.all_eq_true]
 constructor
 ·intro hh f hf
  exact hh f (by rw [List.mem_range'_1]; omega)
 ·intro hh f hf
  exact hh f (by have := (List.mem_range'_1.1 hf).2; omega)
theorem Zpx (t : Tern) (v : Wide) : Z3g (Z1g t) v = Z3g t v := by
 rw [Bool.eq_iff_iff, Z3o, Z3o]
 unfold Z1g
 constructor
 ·intro h k hk hm
  have := h k hk hm
  rw [Z2y, hm, Bool.and_true] at this
  exact this
 ·intro h k hk hm
  have hm' : wt t.Mask k = true := hm
  rw [Z2y, hm', Bool.and_true]
  exact h k hk hm'
theorem Zkp (c : Cube) (h : Header) : Zt (Z0i c) h = Zt c h := by
 rw [Bool.eq_iff_iff, Z42, Z42]
 constructor
 ·intro hh f hf
  have := hh f hf
  rwa [Za7 _ _ hf, Zpx] at this
 ·intro hh f hf
  rw [Za7 _ _ hf, Zpx]
  exact hh f hf
theorem Y1t (t : Tern) (i : Nat) (hi : i < 128) (on : Bool) (v : Wide) : Z3g (Z3c t i on) v = true ↔ (∀ k, k < 128 → k ≠ i → wt t.Mask k = true → wt t.Value k = wt v k) ∧ wt v i = on := by
 have hm : ∀ k, k < 128 → wt (Z3c t i on).Mask k = (wt t.Mask k || decide (i = k)) := fun k hk => by
  unfold Z3c Z1g
  cases on <;> simp only [cond_true, cond_false, Z5n, Zhd i k hi hk]
 have hv : ∀ k, k < 128 → wt (Z3c t i on).Value k = if i = k then on else (wt t.Value k && wt t.Mask k) := fun k hk => by
  unfold Z3c Z1g
  by_cases e : i = k
  ·subst e
   cases on <;> simp [cond_true, cond_false, Z5n, Z4v _ _ _ hk, Z2y, Zhd i i hi hi]
  ·cases on <;> simp [cond_true, cond_false, Z5n, Z4v _ _ _ hk, Z2y, Zhd i k hi hk, e]
 rw [Z3o]
 constructor
 ·intro h
  refine ⟨fun k hk hne hmk => ?_, ?_⟩
  ·have := h k hk (by rw [hm k hk, hmk]; rfl)
   rw [hv k hk, if_neg (fun e => hne e.symm), hmk, Bool.and_true] at this
   exact this
  ·have := h i hi (by rw [hm i hi]; simp)
   rw [hv i hi, if_pos rfl] at this
   exact this.symm
 ·rintro ⟨h1, h2⟩ k hk hmk
  rw [hv k hk]
  by_cases e : i = k
  ·subst e; rw [if_pos rfl, h2]
  ·rw [if_neg e]
   rw [hm k hk] at hmk
   have hmk' : wt t.Mask k = true := by simpa [e] using hmk
   rw [hmk', Bool.and_true]
   exact h1 k hk (fun e' => e e'.symm) hmk'
end Go.Proofs.YtknpgojdkobgjaaGreat.W
namespace Go.Proofs.YtknpgojdkobgjaaGreat.W
open Go Go.Wb
def Z31 (h : Header) (r : Rule) : Bool := Zt r.Cube h
end Go.Proofs.YtknpgojdkobgjaaGreat.W
namespace Go.Proofs.YtknpgojdkobgjaaGreat.W
open Go Go.Wb
theorem Y5d (k : Int) : -1 ≤ Z4l k ∧ Z4l k ≤ 4 := by
 unfold Z4l
 have h1 := Zf6 (fun x => decide (k = x)) [18, 17, 25, 22, 0]
 have h2 := Zl1 (fun x => decide (k = x)) [18, 17, 25, 22, 0]
 simp only [List.length_cons, List.length_nil] at h2
 omega
theorem Znc (a b : Action) : ltA a b = decide (Z4l (Z0s a).kind < Z4l (Z0s b).kind ∨ (Z4l (Z0s a).kind = Z4l (Z0s b).kind ∧ (Z0s a).field < (Z0s b).field)) := by
 have h1 := Y5d (Z0s a).kind
 have h2 := Y5d (Z0s b).kind
 unfold ltA Zke
 rw [wr (by omega) (by omega)]
 generalize Z4l (Z0s a).kind = x at *
 generalize Z4l (Z0s b).kind = y at *
 generalize (Z0s a).field = f at *
 generalize (Z0s b).field = g at *
 by_cases e : x - y = 0
 ·have e1 : decide (x - y ≠ 0) = false := decide_eq_false (by omega)
  rw [e1, cond_false]
  by_cases h3 : f < g
  ·have e2 : decide (f < g) = true := decide_eq_true h3
   rw [e2, cond_true]
   simp; omega
  ·have e2 : decide (f < g) = false := decide_eq_false h3
   rw [e2, cond_false]
   by_cases h4 : f > g
   ·have e3 : decide (f > g) = true := decide_eq_true h4
    rw [e3, cond_true]
    simp; omega
   ·have e3 : decide (f > g) = false := decide_eq_false h4
    rw [e3, cond_false]
    simp; omega
 ·have e1 : decide (x - y ≠ 0) = true := decide_eq_true (by omega)
  rw [e1, cond_true, decide_eq_decide]
  omega
theorem Zzk : Swo ltA where
 asym := fun a b h => by
  rw [Znc, decide_eq_true_eq] at h
  rw [Znc, decide_eq_false_iff_not]
  omega
 neg := fun a b c h k => by
  rw [Znc, decide_eq_false_iff_not] at h k
  rw [Znc, decide_eq_false_iff_not]
  omega
theorem Yau : Z6e ltA Z8k := fun x y => ⟨Zke x y, Y1d x y, rfl⟩
theorem Y2r (s : List Action) (h : s.length ≤ 100000) : Z7d s = some (Z5i s) := by
 have hlim : lim = 4294967296 := rfl
 unfold Z7d Z6w Z5i
 rw [Y53 s Zjf (fun a => decide (a.Kind = 22)) (fun _ _ => rfl), Option.bind_some, Z23 (by simp; omega), Option.bind_some, List.nil_append]
 have hf : ∀ a : Action, Zb6 a (s.any fun a => decide (a.Kind = 22)) = some (!Zam (s.any fun a => decide (a.Kind = 22)) a) := fun a => by
  unfold Zb6 Zam
  rw [Zo4, Option.bind_some, Bool.not_not]
 rw [Y49 s _ (fun a => !Zam (s.any fun a => decide (a.Kind = 22)) a) (fun a _ => hf a) (by omega), Option.bind_some]
 simp only [Bool.not_not]
 rw [Ymu Zzk Yau _ (Nat.le_trans (List.length_filter_le ..) h)]
 rfl
theorem Zti (s : List Action) : (Z5i s).length ≤ s.length := by
 unfold Z5i
 rw [Z2z Zzk]
 exact List.length_filter_le ..
def Z3x (a b : Tern) : Option Tern := bif Z3u (Z27 (Z6v a.Value b.Value) (Z27 a.Mask b.Mask)) then some ⟨wor (Z1g a).Value (Z1g b).Value, wor a.Mask b.Mask⟩ else none
def Z3k {α : Type} (z : α) : Option α → α × Bool
 | some a => (a, true)
 | none => (z, false)
theorem Zwe (a b : Tern) : Zfh a b = some (Z3k zTern (Z3x a b)) := by
 have h : Zfh a b = bif !(Z3u (Z27 (Z6v a.Value b.Value) (Z27 a.Mask b.Mask))) then some (zTern, false) else some (⟨wor (Z1g a).Value (Z1g b).Value, wor a.Mask b.Mask⟩, true) := rfl
 rw [h]
 unfold Z3x
 cases Z3u (Z27 (Z6v a.Value b.Value) (Z27 a.Mask b.Mask)) <;> rfl
def Z6y (g : Nat → Option Tern) : Option Cube := bif (List.range 24).all (fun i => (g i).isSome) then some (Vector.ofFn fun i => (g i.1).getD zTern) else none
theorem Zfl {g : Nat → Option Tern} {c : Cube} (h : Z6y g = some c) (i : Nat) (hi : i < 24) : g i = some (ve c i) := by
 unfold Z6y at h
 cases ha : (List.range 24).all (fun i => (g i).isSome)
 ·rw [ha] at h; cases h
 ·rw [ha, cond_true] at h
  rw [List.all_eq_true] at ha
  have h1 := ha i (by simpa using hi)
  obtain ⟨x, hx⟩ := Option.isSome_iff_exists.1 h1
  rw [← Option.some.inj h, Z7m (fun i => (g i).getD zTern) i hi, hx]; rfl
theorem Y0u {g : Nat → Option Tern} (h : Z6y g = none) : ∃ i, i < 24 ∧ g i = none := by
 unfold Z6y at h
 cases ha : (List.range 24).all (fun i => (g i).isSome)
 ·rw [List.all_eq_false] at ha
  obtain ⟨i, hi, h1⟩ := ha
  exact ⟨i, by simpa using hi, by simpa using h1⟩
 ·rw [ha] at h; cases h
theorem Ybc {g : Nat → Option Tern} {c : Cube} (h : ∀ i, i < 24 → g i = some (ve c i)) : Z6y g = some c := by
 cases hc : Z6y g with
 | none => obtain ⟨i, hi, h1⟩ := Y0u hc; rw [h i hi] at h1; cases h1
 | some d =>
  congr 1
  refine Z7f fun i hi => ?_
  have := Zfl hc i hi
  rw [h i hi] at this
  exact (Option.some.inj this).symm
theorem Yez {g : Nat → Option Tern} (i : Nat) (hi : i < 24) (h : g i = none) : Z6y g = none := by
 cases hc : Z6y g with
 | none => rfl
 | some c => have := Zfl hc i hi; rw [h] at this; cases this
theorem Y59 (f : Int → Option (Tern × Bool)) (g : Nat → Option Tern) (hf : ∀ i : Nat, i < 24 → f (i : Int) = some (Z3k zTern (g i))) : ∀ (m i : Nat) (b : Cube), i + m = 24 → (∀ j, j < i → g j = some (ve b j)) →
  Z7g f m i b = some (Z3k Z2d (Z6y g))
 | 0, i, b, h, hb => by
  rw [Z7g, Ybc (c := b) (fun j hj => hb j (by omega))]; rfl
 | m + 1, i, b, h, hb => by
  rw [Z7g, hf i (by omega), Option.bind_some]
  cases hg : g i with
  | none =>
   rw [Yez i (by omega) hg]; rfl
  | some t =>
   show (chk 24 (i : Int)).bind _ = _
   rw [Z3j (by omega), Option.bind_some]
   refine Y59 f g hf m (i + 1) _ (by omega) fun j hj => ?_
   rw [Zlm _ _ _ _ _ (by omega)]
   by_cases e : i = j
   ·subst e; rw [if_pos rfl, hg]; rfl
   ·rw [if_neg e]; exact hb j (by omega)
theorem Yie (f : Int → Option (Tern × Bool)) (g : Nat → Option Tern) (hf : ∀ i : Nat, i < 24 → f (i : Int) = some (Z3k zTern (g i))) : Zco f = some (Z3k Z2d (Z6y g)) := by
 unfold Zco
 exact Y59 f g hf 24 0 _ rfl fun j hj => by omega
def Z53 (a b : Cube) : Option Cube := Z6y fun i => Z3x (ve a i) (ve b i)
theorem Zos (a b : Cube) : Z7q a b = some (Z3k Z2d (Z53 a b)) := by
 unfold Z7q
 rw [Yie _ (fun i => Z3x (ve a i) (ve b i)) (fun i hi => by unfold Zka; rw [Z3j hi, Option.bind_some, Option.bind_some, Z55, Z55, Zwe]; rfl)]
 rfl
def Z5o (r c : Cube) : Option Cube := bif (List.range 24).all (fun i => (Z3x (ve r i) (ve c i)).isSome) then some (Vector.ofFn fun i => Z1g ⟨(ve c i.1).Value, Z4a (ve c i.1).Mask (ve r i.1).Mask⟩) else none
theorem Y0t (f : Int → Option Tern) (g : Nat → Tern) (hf : ∀ i : Nat, i < 24 → f (i : Int) = some (g i)) (b : Cube) : ∀ (m i : Nat), i + m = 24 → Z9x f m i (Z5e g b i) = some (Vector.ofFn (fun i => g i.1))
 | 0, i, h => by
  have : i = 24 := by omega
  subst this
  rw [Z9x, Zlc]
 | m + 1, i, h => by
  rw [Z9x, hf i (by omega), Option.bind_some, Z3j (by omega), Option.bind_some]
  show Z9x f m (i + 1) (Vector.set (Z5e g b i) i (g i) _) = _
  rw [Zl0 g b i (by omega), Y0t f g hf b m (i + 1) (by omega)]
theorem Ynb (f : Int → Option Tern) (g : Nat → Tern) (hf : ∀ i : Nat, i < 24 → f (i : Int) = some (g i)) : Zll f = some (Vector.ofFn (fun i => g i.1)) := by
 unfold Zll
 have := Y0t f g hf (Vector.replicate 24 zTern) 24 0 rfl
 rw [Zkf] at this
 exact this
theorem Zw3 (r c : Cube) : ∀ (l : List Tern) (i : Nat), i + l.length = 24 → l = (Vector.toList r).drop i → (∀ j, j < i → (Z3x (ve r j) (ve c j)).isSome = true) → Zbe c r l i = some (Z3k Z2d (Z5o r c))
 | [], i, h1, h2, h3 => by
  have hi : i = 24 := by simpa using h1
  subst hi
  have hall : (List.range 24).all (fun i => (Z3x (ve r i) (ve c i)).isSome) = true := by
   rw [List.all_eq_true]; intro i hi; exact h3 i (by simpa using hi)
  unfold Z5o
  rw [hall, cond_true, Zbe, Ynb _ (fun i => Z1g ⟨(ve c i).Value, Z4a (ve c i).Mask (ve r i).Mask⟩) (fun i hi => by
   unfold Zjt
   rw [Z3j hi, Option.bind_some, Option.bind_some, Option.bind_some, Z55, Z55]; rfl)]
  rfl
 | x :: l, i, h1, h2, h3 => by
  simp only [List.length_cons] at h1
  have hi : i < (Vector.toList r).length := by simp; omega
  rw [List.drop_eq_getElem_cons hi] at h2
  obtain ⟨rfl, h4⟩ := List.cons.inj h2
  have hx : (Vector.toList r)[i] = ve r i := by rw [Vector.getElem_toList, Z6l _ _ (by omega)]
  rw [Zbe, hx, Z3j (by omega), Option.bind_some, Z55, Zwe, Option.bind_some]
  cases hm : Z3x (ve r i) (ve c i) with
  | none =>
   have hall : (List.range 24).all (fun i => (Z3x (ve r i) (ve c i)).isSome) = false := by
    rw [List.all_eq_false]
    exact ⟨i, by simp; omega, by simp [hm]⟩
   unfold Z5o
   rw [hall]; rfl
  | some t =>
   exact Zw3 r c l (i + 1) (by omega) h4 fun j hj => by
    by_cases e : j = i
    ·subst e; rw [hm]; rfl
    ·exact h3 j (by omega)
theorem Zyt (r c : Cube) : Zhi r c = some (Z3k Z2d (Z5o r c)) := by
 unfold Zhi
 exact Zw3 r c (Vector.toList r) 0 (by simp) rfl fun j hj => by omega
def Zgo (c : Cube) (o : Oxm) : Cube := if h : 0 ≤ o.Field ∧ o.Field.toNat < 24 then Vector.set c o.Field.toNat (oxT o) h.2 else c
theorem Y6w (c : Cube) (o : Oxm) (n : Nat) (hn : o.Field = (n : Int)) (h : n < 24) : Zgo c o = Vector.set c n (oxT o) h := by
 unfold Zgo
 rw [dif_pos (by omega)]
 simp [hn]
theorem Yln (c : Cube) (o : Oxm) (h : ¬ (0 ≤ o.Field ∧ o.Field < 24)) : Zgo c o = c := by
 unfold Zgo
 rw [dif_neg (by omega)]
theorem Ztv : ∀ (l : List Oxm) (i : Nat) (c : Cube), Zbi l i c = some (l.foldl Zgo c)
 | [], i, c => rfl
 | o :: l, i, c => by
  rw [Zbi, List.foldl_cons]
  unfold Z8g
  rw [Option.bind_some]
  by_cases h : 0 ≤ o.Field ∧ o.Field < 24
  ·obtain ⟨n, hn⟩ : ∃ n : Nat, o.Field = (n : Int) := ⟨o.Field.toNat, by omega⟩
   have hn24 : n < 24 := by have := h.2; omega
   have hd : (decide (o.Field ≥ 0) && decide (o.Field < 24)) = true := by simp; omega
   have hc : chk 24 o.Field = some ⟨n, hn24⟩ := by rw [hn]; exact Z3j hn24
   rw [hd, cond_true, Zvp, Option.bind_some, hc, Option.bind_some, Y6w c o n hn hn24, Ztv l (i + 1)]
  ·have hd : (decide (o.Field ≥ 0) && decide (o.Field < 24)) = false := by
    rw [Bool.and_eq_false_iff, decide_eq_false_iff_not, decide_eq_false_iff_not]; omega
   rw [hd, cond_false, Yln c o h, Ztv l (i + 1)]
def Ym2 (l : List Oxm) : Cube := l.foldl Zgo Z2d
def Z8h (f : Flow) : Cube := Z0i (Ym2 f.Match)
theorem Y5a (f : Flow) : Zfd f = some (Z8h f) := by
 unfold Zfd Zlv Zbm
 rw [Option.bind_some, Ztv, Option.bind_some, Zls]; rfl
def ofI (l : List Inst) (k : Int) : Option Inst := l.find? fun i => decide (i.Kind = k)
theorem Zxc (s : List Inst) (f : Inst → Option Bool) (p : Inst → Bool) (hf : ∀ x ∈ s, f x = some (p x)) : Zgz s f = some (Z08 p s) := by
 unfold Zgz
 rw [show ((s.length : Int)).toNat = s.length by omega]
 exact Zal p (fun i => by rw [Zcj]) (fun m i => by rw [Zcj]) hf
def Ykx : Inst := ⟨0, 0, Z0j, Z0j, []⟩
theorem Z81 (l : List Inst) (k : Int) (hl : ∀ i ∈ l, i.Acts.length ≤ 12) : Z69 l k = some (Z3k Ykx (ofI l k)) := by
 have hlim : lim = 4294967296 := rfl
 unfold Z69 ofI
 rw [Zxc l (fun x => Zlp x k) (fun i => decide (i.Kind = k)) (fun _ _ => rfl), Option.bind_some]
 rcases Zch (fun i : Inst => decide (i.Kind = k)) l with ⟨h1, h2⟩ | ⟨n, h1, h2, h3, h4⟩
 ·rw [decide_eq_true h1, cond_true, h2]; rfl
 ·have := hl _ (List.getElem_mem h2)
  rw [decide_eq_false (by omega), cond_false, h1, Z37 h2, Option.bind_some, h3]
  unfold Z6w
  rw [Z23 (by simp; omega), Option.bind_some]
  rfl
theorem Zbk {l : List Inst} {k : Int} {i : Inst} (h : ofI l k = some i) : i ∈ l := List.mem_of_find?_eq_some h
end Go.Proofs.YtknpgojdkobgjaaGreat.W
namespace Go.Proofs.YtknpgojdkobgjaaGreat.W
open Go Go.Wb
theorem Zvf {a : Wide} (h : Z3u a = false) : ∃ k, k < 128 ∧ wt a k = true := by
 by_cases hx : ∃ k, k < 128 ∧ wt a k = true
 ·exact hx
 ·exfalso
  have : Z3u a = true := (Zan a).2 fun k hk => by
   cases hq : wt a k
   ·rfl
   ·exact absurd ⟨k, hk, hq⟩ hx
  rw [this] at h; cases h
theorem Ztj {a b c : Tern} (h : Z3x a b = some c) (v : Wide) : Z3g c v = true ↔ Z3g a v = true ∧ Z3g b v = true := by
 unfold Z3x at h
 cases hz : Z3u (Z27 (Z6v a.Value b.Value) (Z27 a.Mask b.Mask))
 ·rw [hz] at h; cases h
 ·rw [hz, cond_true] at h
  rw [Zan] at hz
  obtain rfl := Option.some.inj h
  rw [Z3o, Z3o, Z3o]
  unfold Z1g
  simp only [Z5n, Z2y]
  simp only [Z2y, Zd7] at hz
  constructor
  ·intro h1
   refine ⟨fun k hk hm => ?_, fun k hk hm => ?_⟩
   ·have h2 := h1 k hk
    have h3 := hz k hk
    revert h2 h3
    rw [hm]
    cases wt b.Mask k <;> cases wt a.Value k <;> cases wt b.Value k <;> cases wt v k <;> simp
   ·have h2 := h1 k hk
    have h3 := hz k hk
    revert h2 h3
    rw [hm]
    cases wt a.Mask k <;> cases wt a.Value k <;> cases wt b.Value k <;> cases wt v k <;> simp
  ·rintro ⟨ha, hb⟩ k hk hm
   have h1 := ha k hk
   have h2 := hb k hk
   revert hm h1 h2
   cases wt a.Mask k <;> cases wt b.Mask k <;> cases wt a.Value k <;> cases wt b.Value k <;> cases wt v k <;> simp
theorem Yc7 {a b : Tern} (h : Z3x a b = none) (v : Wide) (ha : Z3g a v = true) (hb : Z3g b v = true) : False := by
 unfold Z3x at h
 cases hz : Z3u (Z27 (Z6v a.Value b.Value) (Z27 a.Mask b.Mask))
 ·obtain ⟨k, hk, h1⟩ := Zvf hz
  have h2 := (Z3o a v).1 ha k hk
  have h3 := (Z3o b v).1 hb k hk
  simp only [Z2y, Zd7] at h1
  revert h1 h2 h3
  cases wt a.Mask k <;> cases wt b.Mask k <;> cases wt a.Value k <;> cases wt b.Value k <;> cases wt v k <;> simp
 ·rw [hz] at h; cases h
theorem Y0i {a b c : Cube} (h : Z53 a b = some c) (v : Header) : Zt c v = true ↔ Zt a v = true ∧ Zt b v = true := by
 unfold Z53 at h
 rw [Z42, Z42, Z42]
 constructor
 ·intro h1
  exact ⟨fun f hf => ((Ztj (Zfl h f hf) _).1 (h1 f hf)).1, fun f hf => ((Ztj (Zfl h f hf) _).1 (h1 f hf)).2⟩
 ·rintro ⟨ha, hb⟩ f hf
  exact (Ztj (Zfl h f hf) _).2 ⟨ha f hf, hb f hf⟩
theorem Zqg {a b : Cube} (h : Z53 a b = none) (v : Header) (ha : Zt a v = true) (hb : Zt b v = true) : False := by
 unfold Z53 at h
 obtain ⟨f, hf, h1⟩ := Y0u h
 exact Yc7 h1 (ve v f) ((Z42 _ _).1 ha f hf) ((Z42 _ _).1 hb f hf)
theorem Zzg {a b : Tern} (h : (Z3x a b).isSome = true) (k : Nat) (hk : k < 128) : ((wt a.Value k != wt b.Value k) && (wt a.Mask k && wt b.Mask k)) = false := by
 unfold Z3x at h
 cases hz : Z3u (Z27 (Z6v a.Value b.Value) (Z27 a.Mask b.Mask))
 ·rw [hz] at h; cases h
 ·rw [Zan] at hz
  have := hz k hk
  simpa only [Z2y, Zd7] using this
end Go.Proofs.YtknpgojdkobgjaaGreat.W
namespace Go.Proofs.YtknpgojdkobgjaaGreat.W
open Go Go.Wb
def Z8x (x a : Tern) : List Int := Z50 (Z4a x.Mask a.Mask) 128
theorem Yfa (a x : Tern) : Ziy a x = some (Z8x x a) := by
 unfold Ziy Z8x
 rw [Znf, Option.bind_some]
 have := Y8f (Z4a x.Mask a.Mask) 128 Z0l [] (by omega) (by unfold Z0l; omega) (by rw [Y1w]; simp [Zbu])
 simpa using this
def Z52 (c : Cube) (f : Nat) (t : Tern) : Cube := Vector.ofFn fun k => if f = k.1 then t else ve c k.1
theorem Y27 (c : Cube) (f : Nat) (hf : f < 24) (t : Tern) : Vector.set c f t hf = Z52 c f t := Yet c f hf t
theorem Zgh (c : Cube) (f : Nat) (t : Tern) (g : Nat) (hg : g < 24) : ve (Z52 c f t) g = if f = g then t else ve c g := Z7m (fun k => if f = k then t else ve c k) g hg
def Z34 (xv : Wide) (f : Nat) : List Int → Cube → List Cube × Cube
 | [], left => ([], left)
 | i :: l, left => (Z52 left f (Z3c (ve left f) i.toNat (!wt xv i.toNat)) :: (Z34 xv f l (Z52 left f (Z3c (ve left f) i.toNat (wt xv i.toNat)))).1, (Z34 xv f l (Z52 left f (Z3c (ve left f) i.toNat (wt xv i.toNat)))).2)
def Z7h (x : Cube) : Nat → Nat → Cube → List Cube
 | 0, f, left => []
 | m + 1, f, left => (Z34 (ve x f).Value f (Z8x (ve x f) (ve left f)) left).1 ++ Z7h x m (f + 1) (Z34 (ve x f).Value f (Z8x (ve x f) (ve left f)) left).2
def Z3r (a x : Cube) : Bool := (Z53 a x).isSome
def Z3s (a x : Cube) : List Cube := bif Z3r a x then Z7h x 24 0 (Z0i a) else [Z0i a]
def Zld (l : List Int) : Prop := ∀ i ∈ l, ∃ k : Nat, i = (k : Int) ∧ k < 128
theorem Zpf (x a : Tern) : Zld (Z8x x a) := fun i hi => by
 obtain ⟨k, h1, h2, _⟩ := (Zac _ _ _).1 hi
 exact ⟨k, h1, h2⟩
theorem Zvi (sg : Type) (y : sg → Cube → Option (Lp sg)) (go : Nat → Cube → Lp sg → Option (Lp sg)) (f : Nat) (hf : f < 24) (x : Tern) : ∀ (l : List Int) (k : Nat) (left : Cube) (s : sg), Zld l →
  Zd4 sg go f x y l k left (.go s) = (yf y (Z34 x.Value f l left).1 s).bind fun r => match r with
   | .go s' => go (f + 1) (Z34 x.Value f l left).2 (.go s')
   | .out c s' => some (.out c s')
 | [], k, left, s, _ => rfl
 | i :: l, k, left, s, hl => by
  obtain ⟨b, rfl, hb⟩ := hl i (by simp)
  have ih := fun left s => Zvi sg y go f hf x l (k + 1) left s fun j hj => hl j (by simp [hj])
  rw [Zd4, Zyx _ b hb, Option.bind_some, Z3j hf, Option.bind_some, Z55, Zxg _ b hb, Option.bind_some, Option.bind_some, Y27]
  rw [Z34, Int.toNat_natCast, yf]
  show (y s _).bind _ = _
  cases y s (Z52 left f (Z3c (ve left f) b (!wt x.Value b))) with
  | none => rfl
  | some r =>
   cases r with
   | out c q => rfl
   | go q =>
    simp only [Option.bind_some, Lp.isGo, Bool.not_true, cond_false]
    rw [Z55, Zxg _ b hb, Option.bind_some, Y27, ih]
theorem Y1k (sg : Type) (y : sg → Cube → Option (Lp sg)) (x : Cube) : ∀ (l : List Tern) (f : Nat) (left : Cube) (s : sg), f + l.length = 24 → l = (Vector.toList x).drop f →
  Z9q sg y l f left (.go s) = yf y (Z7h x l.length f left) s
 | [], f, left, s, h1, h2 => rfl
 | t :: l, f, left, s, h1, h2 => by
  simp only [List.length_cons] at h1
  have hi : f < (Vector.toList x).length := by simp; omega
  rw [List.drop_eq_getElem_cons hi] at h2
  obtain ⟨rfl, h3⟩ := List.cons.inj h2
  have hx : (Vector.toList x)[f] = ve x f := by rw [Vector.getElem_toList, Z6l _ _ (by omega)]
  have ih := fun left s => Y1k sg y x l (f + 1) left s (by omega) h3
  rw [Z9q, Z3j (by omega), Option.bind_some, Z55, hx, Yfa, Option.bind_some, List.length_cons, Z7h, Zqz]
  cases hb : Z8x (ve x f) (ve left f) with
  | nil =>
   rw [decide_eq_true (by simp), cond_true, ih]
   rfl
  | cons i bl =>
   rw [decide_eq_false (by simp; omega), cond_false, Zvi sg y _ f (by omega) (ve x f) _ 0 left s (by rw [← hb]; exact Zpf _ _)]
   cases yf y (Z34 (ve x f).Value f (i :: bl) left).1 s with
   | none => rfl
   | some r =>
    cases r with
    | out c q => rfl
    | go q => exact ih _ q
theorem Zxn (sg : Type) (y : sg → Cube → Option (Lp sg)) (a x : Cube) (s : sg) : Zbr sg y (.go s) a x = yf y (Z3s a x) s := by
 unfold Zbr Z3s Z3r
 rw [Zls, Option.bind_some, Zos, Option.bind_some]
 cases Z53 a x with
 | none =>
  show (bif (!false) then _ else _) = yf y [Z0i a] s
  rw [Bool.not_false, cond_true, yf]
  show (y s (Z0i a)).bind _ = _
  cases y s (Z0i a) with
  | none => rfl
  | some r => cases r <;> rfl
 | some z =>
  show (bif (!true) then _ else _) = yf y (Z7h x 24 0 (Z0i a)) s
  rw [Bool.not_true, cond_false]
  have := Y1k sg y x (Vector.toList x) 0 (Z0i a) s (by simp) rfl
  rw [this]; simp
theorem Y1e (xv : Wide) (f : Nat) : ∀ (l : List Int) (left : Cube) (g : Nat), g < 24 → g ≠ f → ve (Z34 xv f l left).2 g = ve left g
 | [], left, g, _, _ => rfl
 | i :: l, left, g, hg, hne => by
  rw [Z34]
  show ve (Z34 xv f l _).2 g = _
  rw [Y1e xv f l _ g hg hne, Zgh _ _ _ _ hg, if_neg (fun e => hne e.symm)]
theorem Ya1 (a x : Cube) : Z3r a x = (List.range' 0 24).all fun f => (Z3x (ve a f) (ve x f)).isSome := by
 unfold Z3r Z53 Z6y
 rw [List.range_eq_range']
 cases (List.range' 0 24).all fun f => (Z3x (ve a f) (ve x f)).isSome <;> rfl
end Go.Proofs.YtknpgojdkobgjaaGreat.W
namespace Go.Proofs.YtknpgojdkobgjaaGreat.W
open Go Go.Wb
def Zev (a b : Tern) : Bool := Z3u (Z4a b.Mask a.Mask) && Z3g b a.Value
theorem Ykh (a b : Tern) : Zlg a b = some (Zev a b) := by
 unfold Zlg Zev
 rw [Znf, Option.bind_some, Zy0, Option.bind_some, Y0x]
 cases Z3u (Z4a b.Mask a.Mask) <;> rfl
def Z6b (a b : Cube) : Bool := (List.range' 0 24).all fun f => Zev (ve a f) (ve b f)
theorem Zwq (a b : Cube) : ∀ (l : List Tern) (i : Nat), i + l.length = 24 → l = (Vector.toList a).drop i → Zao b l i = some ((List.range' i l.length).all fun f => Zev (ve a f) (ve b f))
 | [], i, h1, h2 => by rw [Zao]; rfl
 | x :: l, i, h1, h2 => by
  simp only [List.length_cons] at h1
  have hi : i < (Vector.toList a).length := by simp; omega
  rw [List.drop_eq_getElem_cons hi] at h2
  obtain ⟨rfl, h3⟩ := List.cons.inj h2
  have hx : (Vector.toList a)[i] = ve a i := by rw [Vector.getElem_toList, Z6l _ _ (by omega)]
  rw [Zao, Z3j (by omega), Option.bind_some, Z55, Ykh, Option.bind_some, Zwq a b l (i + 1) (by omega) h3, List.length_cons, List.range'_succ, List.all_cons, hx]
  cases Zev (ve a i) (ve b i) <;> rfl
theorem Yiv (a b : Cube) : Zkn a b = some (Z6b a b) := by
 unfold Zkn Z6b
 have := Zwq a b (Vector.toList a) 0 (by simp) rfl
 rw [this]; simp
theorem Yl5 {a b : Cube} (h : Z6b a b = true) : Z3r a b = true := by
 rw [Ya1]
 unfold Z6b at h
 rw [List.all_eq_true] at h ⊢
 intro f hf
 have h1 := h f hf
 unfold Zev at h1
 rw [Bool.and_eq_true] at h1
 have h2 := (Z3o _ _).1 h1.2
 unfold Z3x
 have : Z3u (Z27 (Z6v (ve a f).Value (ve b f).Value) (Z27 (ve a f).Mask (ve b f).Mask)) = true := (Zan _).2 fun k hk => by
  have h3 := h2 k hk
  simp only [Z2y, Zd7]
  revert h3
  cases wt (ve b f).Mask k <;> cases wt (ve a f).Mask k <;> cases wt (ve a f).Value k <;> cases wt (ve b f).Value k <;> simp
 rw [this]; rfl
def Zs4 (c : Cube) : Header := Vector.ofFn fun f => (Z1g (ve c f.1)).Value
theorem Y1j (c : Cube) (b : Header) : ∀ (l : List Tern) (i : Nat), i + l.length = 24 → l = (Vector.toList c).drop i → Z9r l i (Z5e (fun f => (Z1g (ve c f)).Value) b i) = some (Zs4 c)
 | [], i, h1, h2 => by
  have : i = 24 := by simpa using h1
  subst this
  rw [Z9r, Zlc]; rfl
 | x :: l, i, h1, h2 => by
  simp only [List.length_cons] at h1
  have hi : i < (Vector.toList c).length := by simp; omega
  rw [List.drop_eq_getElem_cons hi] at h2
  obtain ⟨rfl, h3⟩ := List.cons.inj h2
  have hx : (Vector.toList c)[i] = ve c i := by rw [Vector.getElem_toList, Z6l _ _ (by omega)]
  rw [Z9r, Zn5, Option.bind_some, Z3j (by omega), Option.bind_some, hx]
  show Z9r l (i + 1) (Vector.set (Z5e (fun f => (Z1g (ve c f)).Value) b i) i ((Z1g (ve c i)).Value) _) = _
  rw [Zl0 (fun f => (Z1g (ve c f)).Value) b i (by omega), Y1j c b l (i + 1) (by omega) h3]
theorem Yks (c : Cube) : Zi6 c = some (Zs4 c) := by
 unfold Zi6
 have := Y1j c (Vector.replicate 24 Z0j) (Vector.toList c) 0 (by simp) rfl
 rw [Zkf] at this
 exact this
def Z4h : Header := Vector.replicate 24 Z0j
def Z5f (c : Cube) : List Cube → Nat → Option Nat
 | [], i => none
 | x :: l, i => bif Z3r c x then some i else Z5f c l (i + 1)
def Z41 (R : Cube → Int → Header × Bool × Int) : List Cube → Int → Header × Bool × Int
 | [], n => (Z4h, false, n)
 | p :: ps, n => bif (R p n).2.1 || decide ((R p n).2.2 < 0) then R p n else Z41 R ps (R p n).2.2
def Z4w (free : Bool) : Nat → Cube → List Cube → Int → Header × Bool × Int
 | 0, _, _, _ => (Z4h, false, -1)
 | d + 1, c, l, n => bif !free && decide (n < 1) then (Z4h, false, -1) else
   bif l.any (Z6b c) then (Z4h, false, bif free then n else n - 1) else
    match Z5f c l 0 with
    | none => (Zs4 c, true, bif free then n else n - 1)
    | some i => match l[i]? with
     | none => (Z4h, false, -1)
     | some x => Z41 (fun p m => Z4w free d p (l.drop (i + 1)) m) (Z3s c x) (bif free then n else n - 1)
theorem Zui (c : Cube) : ∀ (l : List Cube) (k : Nat), match Z5f c l k with
  | none => ∀ x ∈ l, Z3r c x = false
  | some i => ∃ j, i = k + j ∧ ∃ h : j < l.length, Z3r c l[j] = true ∧ ∀ x ∈ l.take j, Z3r c x = false
 | [], k => by simp [Z5f]
 | x :: l, k => by
  rw [Z5f]
  cases hm : Z3r c x
  ·rw [cond_false]
   have ih := Zui c l (k + 1)
   cases hf : Z5f c l (k + 1) with
   | none =>
    rw [hf] at ih
    intro y hy
    rcases List.mem_cons.1 hy with rfl | hy
    ·exact hm
    ·exact ih y hy
   | some i =>
    rw [hf] at ih
    obtain ⟨j, h1, h2, h3, h4⟩ := ih
    refine ⟨j + 1, by omega, by simpa using h2, by simpa using h3, fun y hy => ?_⟩
    rw [List.take_succ_cons] at hy
    rcases List.mem_cons.1 hy with rfl | hy
    ·exact hm
    ·exact h4 y hy
  ·rw [cond_true]
   exact ⟨0, by omega, by simp, by simpa using hm, by simp⟩
theorem Ztu {R : Cube → Int → Header × Bool × Int} (hR : ∀ p m, (R p m).2.1 = false → (R p m).1 = Z4h) : ∀ (ps : List Cube) (n : Int), (Z41 R ps n).2.1 = false → (Z41 R ps n).1 = Z4h
 | [], n, _ => rfl
 | p :: ps, n, h => by
  rw [Z41] at h ⊢
  cases hc : (R p n).2.1 || decide ((R p n).2.2 < 0)
  ·rw [hc, cond_false] at h
   rw [cond_false]
   exact Ztu hR ps _ h
  ·rw [hc, cond_true] at h
   rw [cond_true]
   exact hR _ _ h
theorem Zru (free : Bool) : ∀ (d : Nat) (c : Cube) (l : List Cube) (n : Int), (Z4w free d c l n).2.1 = false → (Z4w free d c l n).1 = Z4h
 | 0, c, l, n, _ => rfl
 | d + 1, c, l, n, h => by
  rw [Z4w] at h ⊢
  cases h1 : !free && decide (n < 1)
  ·rw [h1, cond_false] at h
   rw [cond_false]
   cases h2 : l.any (Z6b c)
   ·rw [h2, cond_false] at h
    rw [cond_false]
    cases h3 : Z5f c l 0 with
    | none => rw [h3] at h; cases h
    | some i =>
     rw [h3] at h
     simp only at h ⊢
     cases h4 : l[i]? with
     | none => rfl
     | some x =>
      rw [h4] at h
      simp only at h ⊢
      exact Ztu (fun p m => Zru free d p _ m) _ _ h
   ·rfl
  ·rfl
end Go.Proofs.YtknpgojdkobgjaaGreat.W
namespace Go.Proofs.YtknpgojdkobgjaaGreat.W
open Go Go.Wb
theorem Y9q {α : Type} (z : α) (o : Option α) : (Z3k z o).2 = o.isSome := by cases o <;> rfl
def Zae (c : Cube) (l : List Cube) (i : Nat) (first : Int) : Int := bif decide (first < 0) then (match Z5f c l i with | none => first | some k => (k : Int)) else first
theorem Zo8 (c : Cube) : ∀ (l : List Cube) (i : Nat) (first : Int), ∃ j : Int, Z8o c l i first = some (bif l.any (Z6b c) then (true, j) else (false, Zae c l i first))
 | [], i, first => by
  refine ⟨0, ?_⟩
  rw [Z8o]
  unfold Zae Z5f
  cases decide (first < 0) <;> rfl
 | x :: l, i, first => by
  rw [Z8o, Zos, Option.bind_some, Y9q, List.any_cons]
  show ∃ j, (bif !(Z3r c x) then _ else _) = _
  cases hm : Z3r c x
  ·have hw : Z6b c x = false := by
    cases hw : Z6b c x
    ·rfl
    ·rw [Yl5 hw] at hm; cases hm
   obtain ⟨j, hj⟩ := Zo8 c l (i + 1) first
   refine ⟨j, ?_⟩
   rw [Bool.not_false, cond_true, hw, Bool.false_or, hj]
   unfold Zae
   rw [Z5f, hm, cond_false]
  ·rw [Bool.not_true, cond_false, Yiv, Option.bind_some]
   cases hw : Z6b c x
   ·rw [cond_false, Bool.false_or]
    have hf : ∀ f : Int, Zae c (x :: l) i f = bif decide (f < 0) then (i : Int) else f := fun f => by
     unfold Zae
     rw [Z5f, hm, cond_true]
    by_cases h : first < 0
    ·obtain ⟨j, hj⟩ := Zo8 c l (i + 1) (i : Int)
     refine ⟨j, ?_⟩
     rw [decide_eq_true h, cond_true, hj, hf, decide_eq_true h, cond_true]
     unfold Zae
     rw [decide_eq_false (by omega), cond_false]
    ·obtain ⟨j, hj⟩ := Zo8 c l (i + 1) first
     refine ⟨j, ?_⟩
     rw [decide_eq_false h, cond_false, hj, hf, decide_eq_false h, cond_false]
     unfold Zae
     rw [decide_eq_false h, cond_false]
   ·exact ⟨_, rfl⟩
theorem Zv0 {α : Type} (l : List α) (i : Nat) (h : i ≤ l.length) : Z7i l (i : Int) = some (l.drop i) := by
 unfold Z7i
 rw [decide_eq_true (by omega), Int.toNat_natCast, Nat.ble_eq_true_of_le h]; rfl
def cl (n : Int) (free : Bool) : cover_look := ⟨⟨n, free⟩⟩
def Zf8 (free : Bool) (N : Int) (f : Option (Header × Bool × Bool × cover_look)) (n : Int) (r : Header × Bool × Int) : Prop :=
 ∃ s', f = some (r.1, r.2.1, decide (0 ≤ r.2.2), s') ∧ (0 ≤ r.2.2 → s' = cl r.2.2 free ∧ r.2.2 ≤ N)
theorem Zvg (free : Bool) (N : Int) (l : List Cube) (i : Nat) (hi : i < l.length) (hN : N < 9223372036854775808) (x10 : Bool × Int) (hx : x10.2 = (i : Int)) (hl : l.length < 4294967296) (R : cover_look → Cube → List Cube → Option (Header × Bool × Bool × cover_look)) (R' : Cube → Int → Header × Bool × Int)
  (hR : ∀ p n, 0 ≤ n → n ≤ N → Zf8 free N (R (cl n free) p (l.drop (i + 1))) n (R' p n)) (hn : ∀ p m, (R' p m).2.1 = false → (R' p m).1 = Z4h) : ∀ (ps : List Cube) (n : Int), 0 ≤ n → n ≤ N →
  ∃ s', yf (fun (s : cover_look × Header × Bool × Bool) x => Za5 l x10 R s.1 s.2.1 s.2.2.1 s.2.2.2 x) ps (cl n free, Z4h, false, true) =
   some (bif (Z41 R' ps n).2.1 || decide ((Z41 R' ps n).2.2 < 0) then .out (.exit 1) (s', (Z41 R' ps n).1, (Z41 R' ps n).2.1, decide (0 ≤ (Z41 R' ps n).2.2)) else .go (s', Z4h, false, true)) ∧ (0 ≤ (Z41 R' ps n).2.2 → s' = cl (Z41 R' ps n).2.2 free ∧ (Z41 R' ps n).2.2 ≤ N)
 | [], n, h0, h1 => by
  refine ⟨cl n free, ?_, fun _ => ⟨rfl, h1⟩⟩
  rw [yf, Z41, decide_eq_false (by show ¬ (n < 0); omega)]; rfl
 | p :: ps, n, h0, h1 => by
  obtain ⟨s', h2, h3⟩ := hR p n h0 h1
  have hb : Za5 l x10 R (cl n free) Z4h false true p = some (bif (R' p n).2.1 || decide ((R' p n).2.2 < 0) then .out (.exit 1) (s', (R' p n).1, (R' p n).2.1, decide (0 ≤ (R' p n).2.2)) else .go (s', (R' p n).1, (R' p n).2.1, decide (0 ≤ (R' p n).2.2))) := by
   unfold Za5
   rw [hx, inc i (by omega), Zv0 _ _ (by omega), Option.bind_some, h2, Option.bind_some]
   have : (!decide (0 ≤ (R' p n).2.2)) = decide ((R' p n).2.2 < 0) := by
    by_cases h : (R' p n).2.2 < 0
    ·rw [decide_eq_true h, decide_eq_false (by omega)]; rfl
    ·rw [decide_eq_false h, decide_eq_true (by omega)]; rfl
   show (bif ((R' p n).2.1 || !decide (0 ≤ (R' p n).2.2)) then _ else _) = _
   rw [this]
   cases (R' p n).2.1 || decide ((R' p n).2.2 < 0) <;> rfl
  rw [yf]
  show ∃ s'', (Za5 l x10 R (cl n free) Z4h false true p).bind _ = _ ∧ _
  rw [hb, Option.bind_some, Z41]
  cases hc : (R' p n).2.1 || decide ((R' p n).2.2 < 0)
  ·rw [Bool.or_eq_false_iff, decide_eq_false_iff_not] at hc
   have h4 : 0 ≤ (R' p n).2.2 := by omega
   obtain ⟨h5, h6⟩ := h3 h4
   obtain ⟨s'', h7, h8⟩ := Zvg free N l i hi hN x10 hx hl R R' hR hn ps (R' p n).2.2 h4 h6
   refine ⟨s'', ?_, h8⟩
   rw [cond_false, cond_false, h5, hn p n hc.1, hc.1, decide_eq_true h4]
   exact h7
  ·refine ⟨s', ?_, h3⟩
   rw [cond_true, cond_true, hc]; rfl
theorem Yn4 (free : Bool) (N : Int) (hN : N < 9223372036854775808) (d fuel : Nat) (c : Cube) (l : List Cube) (hl : l.length < 4294967296) (n : Int) (h0 : 0 ≤ n) (h1 : n ≤ N)
  (ih : ∀ i, i < l.length → ∀ p n, 0 ≤ n → n ≤ N → Zf8 free N (Z7w fuel (cl n free) p (l.drop (i + 1))) n (Z4w free d p (l.drop (i + 1)) n)) :
  Zf8 free N (Z7w (fuel + 1) (cl n free) c l) n (Z4w free (d + 1) c l n) := by
 show Zf8 free N (Zjs (Z7w fuel) (cl n free) c l) n _
 unfold Zjs
 have hpay : Zjm (cl n free).purse = some (!(!free && decide (n < 1)), ⟨bif free then n else n - 1, free⟩) := by
  unfold Zjm
  cases free
  ·have e : IntKind.i64.wrap (n - 1) = n - 1 := Z2m (by omega) (by omega)
   show some (decide (IntKind.i64.wrap (n - 1) ≥ 0), (⟨IntKind.i64.wrap (n - 1), false⟩ : cover_purse)) = _
   rw [e]
   by_cases h : n < 1
   ·rw [decide_eq_true h, decide_eq_false (by omega)]; rfl
   ·rw [decide_eq_false h, decide_eq_true (by omega)]; rfl
  ·rfl
 rw [hpay, Option.bind_some, Z4w]
 cases hp : !free && decide (n < 1)
 ·have hn1 : 0 ≤ (bif free then n else n - 1) ∧ (bif free then n else n - 1) ≤ N := by
   cases free
   ·simp only [Bool.not_false, Bool.true_and, decide_eq_false_iff_not] at hp
    simp only [cond_false]; omega
   ·simp only [cond_true]; omega
  generalize (bif free then n else n - 1) = n1 at hn1 ⊢
  simp only [Bool.not_false, Bool.not_true, cond_false]
  obtain ⟨j, hj⟩ := Zo8 c l 0 (-1)
  unfold Zoe
  rw [hj, Option.bind_some]
  cases hw : l.any (Z6b c)
  ·simp only [cond_false]
   have hfi : Zae c l 0 (-1) = match Z5f c l 0 with | none => -1 | some k => (k : Int) := rfl
   rw [hfi]
   have hsp := Zui c l 0
   cases hf : Z5f c l 0 with
   | none =>
    simp only
    rw [show decide ((-1 : Int) < 0) = true from rfl, cond_true, Yks, Option.bind_some]
    exact ⟨cl n1 free, by rw [decide_eq_true hn1.1]; rfl, fun _ => ⟨rfl, hn1.2⟩⟩
   | some i =>
    rw [hf] at hsp
    obtain ⟨j', hj1, hj2, hj3, hj4⟩ := hsp
    have hij : i = j' := by omega
    subst hij
    simp only
    rw [decide_eq_false (by omega), cond_false, Z37 hj2, Option.bind_some, List.getElem?_eq_getElem hj2]
    unfold Zlo
    rw [Option.bind_some]
    obtain ⟨s', h2, h3⟩ := Zvg free N l i hj2 hN (false, (i : Int)) rfl hl (Z7w fuel) (fun p m => Z4w free d p (l.drop (i + 1)) m) (fun p n a b => ih i hj2 p n a b) (fun p m h => Zru free d p _ m h) (Z3s c l[i]) n1 hn1.1 hn1.2
    show Zf8 free N ((Zbr (cover_look × Header × Bool × Bool) (fun s x => Za5 l (false, (i : Int)) (Z7w fuel) s.1 s.2.1 s.2.2.1 s.2.2.2 x) (.go (cl n1 free, Z4h, false, true)) c l[i]).bind _) n (Z41 (fun p m => Z4w free d p (l.drop (i + 1)) m) (Z3s c l[i]) n1)
    rw [Zxn, h2, Option.bind_some]
    have hnn := Ztu (R := fun p m => Z4w free d p (l.drop (i + 1)) m) (fun p m h => Zru free d p _ m h) (Z3s c l[i]) n1
    generalize Z41 (fun p m => Z4w free d p (l.drop (i + 1)) m) (Z3s c l[i]) n1 = r at *
    cases hc : r.2.1 || decide (r.2.2 < 0)
    ·rw [Bool.or_eq_false_iff, decide_eq_false_iff_not] at hc
     refine ⟨s', ?_, h3⟩
     rw [hnn hc.1, hc.1, decide_eq_true (show 0 ≤ r.2.2 by omega)]; rfl
    ·exact ⟨s', rfl, h3⟩
  ·refine ⟨cl n1 free, ?_, fun _ => ⟨rfl, hn1.2⟩⟩
   show some (Z4h, false, true, cl n1 free) = some (Z4h, false, decide (0 ≤ n1), cl n1 free)
   rw [decide_eq_true hn1.1]
 ·exact ⟨_, rfl, fun h => by simp at h⟩
theorem Zzp (free : Bool) (N : Int) (hN : N < 9223372036854775808) : ∀ (d fuel : Nat) (c : Cube) (l : List Cube) (n : Int), l.length < d → d ≤ fuel → l.length < 4294967296 → 0 ≤ n → n ≤ N →
  Zf8 free N (Z7w fuel (cl n free) c l) n (Z4w free d c l n)
 | 0, fuel, c, l, n, h, _, _, _, _ => by omega
 | d + 1, 0, c, l, n, _, h, _, _, _ => by omega
 | d + 1, fuel + 1, c, l, n, h1, h2, h3, h4, h5 =>
  Yn4 free N hN d fuel c l h3 n h4 h5 fun i hi p m h6 h7 => Zzp free N hN d fuel p (l.drop (i + 1)) m (by rw [List.length_drop]; omega) (by omega) (by rw [List.length_drop]; omega) h6 h7
end Go.Proofs.YtknpgojdkobgjaaGreat.W
namespace Go.Proofs.YtknpgojdkobgjaaGreat.W
open Go Go.Wb
def Zig (l : List Rule) (h : Header) : Int × Bool := (Z1f (Z08 (Z31 h) l) 0, decide (Z08 (Z31 h) l ≥ 0))
theorem Yhe {x : Int} (h : x < 0) : Z1f x 0 = 0 := by unfold Z1f; rw [decide_eq_true (show (0 : Int) > x by omega)]; rfl
theorem Yo4 (k : Nat) : Z1f (k : Int) 0 = (k : Int) := by unfold Z1f; rw [decide_eq_false (show ¬ ((0 : Int) > (k : Int)) by omega)]; rfl
theorem Ybx (l : List Rule) (h : Header) : (Zig l h = (0, false) ∧ l.find? (Z31 h) = none) ∨ ∃ n : Nat, ∃ hn : n < l.length, Zig l h = ((n : Int), true) ∧ l.find? (Z31 h) = some l[n] := by
 unfold Zig
 rcases Zch (Z31 h) l with ⟨h1, h2⟩ | ⟨n, h1, h2, h3, h4⟩
 ·left
  refine ⟨?_, h2⟩
  rw [Yhe h1, decide_eq_false (by omega)]
 ·right
  refine ⟨n, h2, ?_, h3⟩
  rw [h1, Yo4, decide_eq_true (show (n : Int) ≥ 0 by omega)]
end Go.Proofs.YtknpgojdkobgjaaGreat.W
namespace Go.Proofs.YtknpgojdkobgjaaGreat.W
open Go Go.Wb
theorem Zm5 (a : Wide) : ∀ n, (Z50 a n).Nodup
 | 0 => List.nodup_nil
 | n + 1 => by
  rw [Z50]
  cases wt a n
  ·exact Zm5 a n
  ·rw [cond_true, List.nodup_cons]
   refine ⟨fun h => ?_, Zm5 a n⟩
   obtain ⟨k, h1, h2, _⟩ := (Zac _ _ _).1 h
   omega
theorem Zy1 (t : Tern) (i : Nat) (hi : i < 128) (on : Bool) (k : Nat) (hk : k < 128) : wt (Z3c t i on).Mask k = (wt t.Mask k || decide (i = k)) := by
 unfold Z3c Z1g
 cases on <;> simp only [cond_true, cond_false, Z5n, Zhd i k hi hk]
theorem Zy9 {c : Cube} {f : Nat} (hf : f < 24) {t : Tern} {h : Header} : Zt (Z52 c f t) h = true ↔ (∀ g, g < 24 → g ≠ f → Z3g (ve c g) (ve h g) = true) ∧ Z3g t (ve h f) = true := by
 rw [Z42]
 constructor
 ·intro hh
  refine ⟨fun g hg hne => ?_, ?_⟩
  ·have := hh g hg
   rwa [Zgh _ _ _ _ hg, if_neg (fun e => hne e.symm)] at this
  ·have := hh f hf
   rwa [Zgh _ _ _ _ hf, if_pos rfl] at this
 ·rintro ⟨h1, h2⟩ g hg
  rw [Zgh _ _ _ _ hg]
  by_cases e : f = g
  ·subst e; rw [if_pos rfl]; exact h2
  ·rw [if_neg e]; exact h1 g hg fun e' => e e'.symm
theorem Zjp {c : Cube} {f b : Nat} (hf : f < 24) (hb : b < 128) {on : Bool} {h : Header} (hm : wt (ve c f).Mask b = false) (hh : Zt (Z52 c f (Z3c (ve c f) b on)) h = true) : Zt c h = true ∧ wt (ve h f) b = on := by
 obtain ⟨h1, h2⟩ := (Zy9 hf).1 hh
 obtain ⟨h3, h4⟩ := (Y1t _ _ hb _ _).1 h2
 refine ⟨(Z42 _ _).2 fun g hg => ?_, h4⟩
 by_cases e : g = f
 ·subst e
  exact (Z3o _ _).2 fun k hk hmk => h3 k hk (fun e => by rw [e, hm] at hmk; cases hmk) hmk
 ·exact h1 g hg e
theorem Y2y (xv : Wide) (f : Nat) (hf : f < 24) (h : Header) : ∀ (l : List Int) (left : Cube), Zld l → l.Nodup → (∀ i ∈ l, wt (ve left f).Mask i.toNat = false) →
  (∀ p ∈ (Z34 xv f l left).1, Zt p h = true → Zt left h = true ∧ ∃ i ∈ l, wt (ve h f) i.toNat = !wt xv i.toNat) ∧ (Zt (Z34 xv f l left).2 h = true → Zt left h = true)
 | [], left, _, _, _ => ⟨fun p hp => (List.not_mem_nil hp).elim, fun hh => hh⟩
 | i :: l, left, hl, hn, hm => by
  obtain ⟨b, rfl, hb⟩ := hl i (by simp)
  rw [List.nodup_cons] at hn
  have hmb := hm _ (List.mem_cons_self ..)
  rw [Int.toNat_natCast] at hmb
  have ih := Y2y xv f hf h l (Z52 left f (Z3c (ve left f) b (wt xv b))) (fun j hj => hl j (by simp [hj])) hn.2 (fun j hj => by
   obtain ⟨k, rfl, hk⟩ := hl j (by simp [hj])
   have h1 := hm _ (List.mem_cons_of_mem _ hj)
   rw [Int.toNat_natCast] at h1 ⊢
   rw [Zgh _ _ _ _ hf, if_pos rfl, Zy1 _ _ hb _ _ hk, h1, Bool.false_or, decide_eq_false_iff_not]
   intro e
   subst e
   exact hn.1 hj)
  rw [Z34, Int.toNat_natCast]
  refine ⟨fun p hp hh => ?_, fun hh => (Zjp hf hb hmb (ih.2 hh)).1⟩
  rcases List.mem_cons.1 hp with rfl | hp
  ·obtain ⟨h1, h2⟩ := Zjp hf hb hmb hh
   exact ⟨h1, (b : Int), by simp, by rw [Int.toNat_natCast]; exact h2⟩
  ·obtain ⟨h1, i, hi, h2⟩ := ih.1 p hp hh
   exact ⟨(Zjp hf hb hmb h1).1, i, by simp [hi], h2⟩
theorem Y1m (x : Cube) (h : Header) : ∀ (m f : Nat) (left : Cube), f + m = 24 → ∀ p ∈ Z7h x m f left, Zt p h = true → Zt left h = true ∧ Zt x h = false
 | 0, f, left, _, p, hp => by cases hp
 | m + 1, f, left, hm, p, hp => by
  intro hh
  have hf : f < 24 := by omega
  have hs := Y2y (ve x f).Value f hf h (Z8x (ve x f) (ve left f)) left (Zpf _ _) (Zm5 _ _) (fun i hi => by
   obtain ⟨k, rfl, hk, hw⟩ := (Zac _ _ _).1 hi
   rw [Z4v _ _ _ hk] at hw
   rw [Int.toNat_natCast]
   cases hq : wt (ve left f).Mask k
   ·rfl
   ·rw [hq] at hw; simp at hw)
  rw [Z7h] at hp
  rcases List.mem_append.1 hp with hp | hp
  ·obtain ⟨h1, i, hi, h2⟩ := hs.1 p hp hh
   obtain ⟨k, rfl, hk, hw⟩ := (Zac _ _ _).1 hi
   rw [Z4v _ _ _ hk, Bool.and_eq_true] at hw
   rw [Int.toNat_natCast] at h2
   refine ⟨h1, ?_⟩
   cases hx : Zt x h
   ·rfl
   ·have := (Z3o _ _).1 ((Z42 _ _).1 hx f hf) k hk hw.1
    rw [h2] at this
    cases hv : wt (ve x f).Value k <;> rw [hv] at this <;> simp at this
  ·obtain ⟨h1, h2⟩ := Y1m x h m (f + 1) _ (by omega) p hp hh
   exact ⟨hs.2 h1, h2⟩
theorem Yao {a x : Cube} (hm : Z3r a x = true) {h : Header} {p : Cube} (hp : p ∈ Z3s a x) (hh : Zt p h = true) : Zt a h = true ∧ Zt x h = false := by
 unfold Z3s at hp
 rw [hm, cond_true] at hp
 have := Y1m x h 24 0 (Z0i a) rfl p hp hh
 rwa [Zkp] at this
theorem Ya9 {a x : Cube} (hm : Z3r a x = false) {h : Header} (h1 : Zt a h = true) : Zt x h = false := by
 cases hx : Zt x h
 ·rfl
 ·unfold Z3r at hm
  cases hc : Z53 a x with
  | none => exact (Zqg hc h h1 hx).elim
  | some z => rw [hc] at hm; cases hm
def Zel (c : Cube) (l : List Cube) (most : Int) : Header × Bool × Int := Z4w (decide (most ≥ 1099511627776)) (l.length + 1) c l (Z1f most 0)
def Z56 (c : Cube) (l : List Cube) (most : Int) : Header × Bool × Int := bif decide ((Zel c l most).2.2 < 0) then (Z4h, false, 5) else ((Zel c l most).1, (Zel c l most).2.1, 0)
theorem Y12 (m : Int) : 0 ≤ Z1f m 0 ∧ Z1f m 0 ≤ max m 0 := by
 unfold Z1f
 by_cases h : (0 : Int) > m
 ·rw [decide_eq_true h, cond_true]; omega
 ·rw [decide_eq_false h, cond_false]; omega
theorem Yam (c : Cube) (l : List Cube) (most : Int) (hm : most ≤ 9223372036854775807) (hl : l.length ≤ 1000000) : Ziq c l most = some (Z56 c l most) := by
 have hi := Y12 most
 unfold Ziq Zq8 Z56
 obtain ⟨s', h1, h2⟩ := Zzp (decide (most ≥ 1099511627776)) (Z1f most 0) (by omega) (l.length + 1) Z0l c l (Z1f most 0) (by omega) (by unfold Z0l; omega) (by omega) hi.1 (by omega)
 show (Z7w Z0l (cl (Z1f most 0) (decide (most ≥ 1099511627776))) c l).bind _ = _
 rw [h1, Option.bind_some]
 show (bif !(decide (0 ≤ (Zel c l most).2.2)) then _ else _) = _
 by_cases h : (Zel c l most).2.2 < 0
 ·rw [decide_eq_true h, decide_eq_false (by omega)]; rfl
 ·rw [decide_eq_false h, decide_eq_true (by omega)]; rfl
theorem Y6j {α : Type} (l : List α) (i : Nat) (h : i ≤ l.length) : Z5b l (i : Int) = some (l.take i) := by
 unfold Z5b
 simp [Nat.ble_eq_true_of_le h]
end Go.Proofs.YtknpgojdkobgjaaGreat.W
namespace Go.Proofs.YtknpgojdkobgjaaGreat.W
open Go Go.Wb
section ins
def Zl2 (lt : Int → Int → Bool) (cmp : Int → Int → Option Int) (A : List Int) : Prop := ∀ x ∈ A, ∀ y ∈ A, ∃ c, cmp x y = some c ∧ decide (c < 0) = lt x y
variable {lt : Int → Int → Bool} {cmp : Int → Int → Option Int}
theorem Y2n {A : List Int} (hc : Zl2 lt cmp A) (go : List Int → Int → Option (List Int)) (i : Int) (P : List Int) (x : Int) (hx : x ∈ A) : ∀ (R S : List Int) (m : Nat), (∀ y ∈ R, y ∈ A) → R.length < m → (P ++ R.reverse ++ x :: S).length ≤ big →
  Zcu (P.length : Int) cmp go i m (P ++ R.reverse ++ x :: S) ((P.length + R.length : Nat) : Int) = go (P ++ (Z1a lt x R).reverse ++ S) (IntKind.i64.wrap (i + 1))
 | [], S, m, _, h, _ => by
  obtain ⟨m, rfl⟩ : ∃ k, m = k + 1 := ⟨m - 1, by simp at h; omega⟩
  rw [Zcu, decide_eq_false (by simp)]
  simp [opt, Z1a]
 | y :: R, S, m, hR, h, hl => by
  have hbig : big = 1000000 := rfl
  simp only [List.length_cons, List.length_append, List.length_reverse] at h hl
  obtain ⟨m, rfl⟩ : ∃ k, m = k + 1 := ⟨m - 1, by omega⟩
  have e0 : P ++ (y :: R).reverse ++ x :: S = (P ++ R.reverse) ++ y :: (x :: S) := by simp
  have ej : IntKind.i64.wrap (((P.length + (y :: R).length : Nat) : Int) - 1) = ((P.length + R.length : Nat) : Int) := by rw [wr (by simp only [List.length_cons]; omega) (by simp only [List.length_cons]; omega)]; simp only [List.length_cons]; omega
  have g1 : ∀ a b : Int, lget ((P ++ R.reverse) ++ a :: (b :: S)) ((P.length + (y :: R).length : Nat) : Int) = some b := fun a b => by
   have : (P ++ R.reverse) ++ a :: (b :: S) = (P ++ R.reverse ++ [a]) ++ b :: S := by simp
   rw [this]; exact Z5l _ _ _ _ (by simp)
  have g0 : ∀ a b : Int, lget ((P ++ R.reverse) ++ a :: (b :: S)) ((P.length + R.length : Nat) : Int) = some a := fun a b => Z5l _ _ _ _ (by simp)
  have s1 : ∀ a b c : Int, List.set ((P ++ R.reverse) ++ a :: (b :: S)) (((P.length + (y :: R).length : Nat) : Int)).toNat c = (P ++ R.reverse) ++ a :: (c :: S) := fun a b c => by
   have : (P ++ R.reverse) ++ a :: (b :: S) = (P ++ R.reverse ++ [a]) ++ b :: S := by simp
   rw [this, Int.toNat_natCast, Z8c _ _ _ _ _ (by simp)]; simp
  have s0 : ∀ a b c : Int, List.set ((P ++ R.reverse) ++ a :: (b :: S)) (((P.length + R.length : Nat) : Int)).toNat c = (P ++ R.reverse) ++ c :: (b :: S) := fun a b c => by
   rw [Int.toNat_natCast, Z8c _ _ _ _ _ (by simp)]
  obtain ⟨c, hc1, hc2⟩ := hc x hx y (hR y (by simp))
  rw [e0, Zcu, decide_eq_true (by simp only [List.length_cons]; omega), Z7u, g1, Option.bind_some, Z7u, ej, g0, Option.bind_some, Z7u, hc1, Option.bind_some, Bool.true_and, hc2, Z1a]
  cases lt x y
  ·rw [cond_false, cond_false]
   simp
  ·rw [cond_true, cond_true, Option.bind_some, Option.bind_some, Option.bind_some, s1, g0, Option.bind_some, s0, Y2n hc go i P x hx R (y :: S) m (fun z hz => hR z (by simp [hz])) (by omega) (by simp only [List.length_append, List.length_cons, List.length_reverse]; omega)]
   simp
theorem Zsz (x : Int) (R : List Int) : (Z1a lt x R).length = R.length + 1 := by
 induction R with
 | nil => rfl
 | cons y R ih => rw [Z1a]; cases lt x y <;> simp [ih]
theorem Y4n {A : List Int} (hc : Zl2 lt cmp A) (P Q : List Int) : ∀ (T R : List Int) (m : Nat), (∀ y ∈ T, y ∈ A) → (∀ y ∈ R, y ∈ A) → T.length < m → (P ++ R.reverse ++ T ++ Q).length ≤ big →
  Z9d ((P.length + R.length + T.length : Nat) : Int) (P.length : Int) cmp m (P ++ R.reverse ++ T ++ Q) ((P.length + R.length : Nat) : Int) = some (P ++ (T.foldl (fun R x => Z1a lt x R) R).reverse ++ Q)
 | [], R, m, _, _, h, _ => by
  obtain ⟨m, rfl⟩ : ∃ k, m = k + 1 := ⟨m - 1, by simp at h; omega⟩
  rw [Z9d, decide_eq_false (by simp), cond_false]
  simp
 | x :: T, R, m, hT, hR, h, h2 => by
  have hbig : big = 1000000 := rfl
  simp only [List.length_cons, List.length_append, List.length_reverse] at h h2
  obtain ⟨m, rfl⟩ : ∃ k, m = k + 1 := ⟨m - 1, by omega⟩
  have e : IntKind.i64.wrap (((P.length + R.length : Nat) : Int) + 1) = ((P.length + (Z1a lt x R).length : Nat) : Int) := by rw [Zsz, wr (by omega) (by omega)]; omega
  have hn : P.length + R.length + (x :: T).length = P.length + (Z1a lt x R).length + T.length := by rw [Zsz, List.length_cons]; omega
  have e0 : P ++ R.reverse ++ x :: T ++ Q = P ++ R.reverse ++ x :: (T ++ Q) := by simp
  rw [Z9d, decide_eq_true (by simp only [List.length_cons]; omega), cond_true, e0, Y2n hc _ _ P x (hT x (by simp)) R (T ++ Q) Z0l hR (by unfold Z0l; omega) (by simp only [List.length_append, List.length_cons, List.length_reverse]; omega), e, hn,
   ← List.append_assoc, Y4n hc P Q T (Z1a lt x R) m (fun y hy => hT y (by simp [hy])) (fun y hy => by rcases Ztc.1 hy with e | e; rw [e]; exact hT x (by simp); exact hR y e) (by omega) (by simp only [List.length_append, List.length_reverse, Zsz]; omega), List.foldl_cons]
theorem Yey (P L Q : List Int) (hc : Zl2 lt cmp L) (a b : Int) (ha : a = (P.length : Int)) (hb : b = (P.length : Int) + (L.length : Int)) (h : (P ++ L ++ Q).length ≤ big) : Zg8 (P ++ L ++ Q) a b cmp = some (P ++ srt lt L ++ Q) := by
 subst ha hb
 have hbig : big = 1000000 := rfl
 have h' := h
 simp only [List.length_append] at h'
 unfold Zg8 srt
 cases L with
 | nil =>
  rw [wr (by omega) (by omega)]
  obtain ⟨m, hm⟩ : ∃ m, (((P.length : Int) + (([] : List Int).length : Int)) - ((P.length : Int) + 1)).toNat + 1 = m + 1 := ⟨_, rfl⟩
  rw [hm, Z9d, decide_eq_false (by simp only [List.length_nil]; omega), cond_false]
  rfl
 | cons x L =>
  simp only [List.length_cons] at h'
  have := Y4n hc P Q L [x] ((((P.length : Int) + ((x :: L).length : Int)) - ((P.length : Int) + 1)).toNat + 1) (fun y hy => by simp [hy]) (fun y hy => by simp at hy; simp [hy]) (by simp only [List.length_cons]; omega) (by simp only [List.length_append, List.length_reverse, List.length_cons, List.length_nil]; omega)
  have e1 : ((P.length + [x].length + L.length : Nat) : Int) = (P.length : Int) + ((x :: L).length : Int) := by simp; omega
  have e2 : ((P.length + [x].length : Nat) : Int) = (P.length : Int) + 1 := by simp
  have e3 : P ++ [x].reverse ++ L ++ Q = P ++ x :: L ++ Q := by simp
  rw [e1, e2, e3] at this
  rw [wr (by omega) (by omega), this]
  rfl
theorem Yfn (L : List Int) (hc : Zl2 lt cmp L) (h : L.length < 20) : Zla L cmp = some (srt lt L) := by
 unfold Zla Znd
 obtain ⟨m, hm⟩ : ∃ m, (((L.length : Int) : Int) - 20).toNat + 2 = m + 1 := ⟨_, rfl⟩
 have := Yey [] L [] hc 0 (L.length : Int) rfl (by simp) (by simp only [List.nil_append, List.append_nil]; show _ ≤ 1000000; omega)
 simp only [List.nil_append, List.append_nil] at this
 rw [hm, Zlk, decide_eq_false (by omega), cond_false, this, Option.bind_some]
 obtain ⟨k, hk⟩ : ∃ m, (((L.length : Int) : Int) - 20).toNat + 1 = m + 1 := ⟨_, rfl⟩
 rw [hk, Zhj, decide_eq_false (by omega), cond_false]
 rfl
end ins
end Go.Proofs.YtknpgojdkobgjaaGreat.W
namespace Go.Proofs.YtknpgojdkobgjaaGreat.W
open Go Go.Wb
def Zne (t : List Flow) (i : Int) : Int := match t[i.toNat]? with
 | some f => f.Priority
 | none => 0
def ltP (t : List Flow) (i j : Int) : Bool := decide (Zne t i > Zne t j)
theorem Zvb (t : List Flow) : Swo (ltP t) where
 asym := fun a b h => by
  unfold ltP at *
  rw [decide_eq_true_eq] at h
  rw [decide_eq_false_iff_not]; omega
 neg := fun a b c h k => by
  unfold ltP at *
  rw [decide_eq_false_iff_not] at *; omega
def places (n : Nat) : List Int := (List.range n).map fun (i : Nat) => (i : Int)
theorem Zre {n : Nat} {i : Int} : i ∈ places n ↔ ∃ k : Nat, k < n ∧ i = (k : Int) := by
 unfold places
 simp only [List.mem_map, List.mem_range]
 exact ⟨fun ⟨k, h1, h2⟩ => ⟨k, h1, h2.symm⟩, fun ⟨k, h1, h2⟩ => ⟨k, h1, h2.symm⟩⟩
def Z85 (t : List Flow) : List Int := srt (ltP t) (places t.length)
theorem Zmm {t : List Flow} {i : Int} : i ∈ Z85 t ↔ ∃ k : Nat, k < t.length ∧ i = (k : Int) := by
 unfold Z85
 rw [Y58 (Zvb t), Zre]
theorem Yb9 (t : List Flow) : (Z85 t).length = t.length := by
 unfold Z85
 rw [Z2z (Zvb t)]; simp [places]
theorem Zus {t : List Flow} {k : Nat} (h : k < t.length) : Zne t (k : Int) = t[k].Priority := by
 unfold Zne
 rw [Int.toNat_natCast, List.getElem?_eq_getElem h]
theorem Yi0 (t : List Flow) : Zl2 (ltP t) (fun x z => Zgf x z t) (places t.length) := fun x hx y hy => by
 obtain ⟨i, hi, rfl⟩ := Zre.1 hx
 obtain ⟨j, hj, rfl⟩ := Zre.1 hy
 unfold Zgf ltP
 dsimp only
 rw [Z37 hi, Option.bind_some, Z37 hj, Option.bind_some, Zus hi, Zus hj, Option.bind_some, Option.bind_some]
 by_cases h1 : t[i].Priority > t[j].Priority
 ·rw [decide_eq_true h1, cond_true]; exact ⟨_, rfl, rfl⟩
 ·rw [decide_eq_false h1, cond_false]
  by_cases h2 : t[i].Priority < t[j].Priority
  ·rw [decide_eq_true h2, cond_true]; exact ⟨_, rfl, rfl⟩
  ·rw [decide_eq_false h2, cond_false]; exact ⟨_, rfl, rfl⟩
theorem Y1l (t : List Flow) (ht : t.length < 20) : ∀ (m i : Nat), i + m = t.length → Zap t m i (places i) = some (Z85 t)
 | 0, i, h => by
  have : i = t.length := by omega
  subst this
  rw [Zap, Yfn _ (Yi0 t) (by simpa [places] using ht)]; rfl
 | m + 1, i, h => by
  have hlim : lim = 4294967296 := rfl
  have e : places i ++ [(i : Int)] = places (i + 1) := by unfold places; rw [List.range_succ, List.map_append]; rfl
  rw [Zap, Z23 (by simp [places]; omega), Option.bind_some, e]
  exact Y1l t ht m (i + 1) (by omega)
theorem Yjc (n : Nat) (h : n ≤ lim) : omk (n : Int) = some () := by
 unfold omk
 rw [decide_eq_false (by omega), decide_eq_false (by omega)]; rfl
theorem Y44 (t : List Flow) (ht : t.length < 20) : Zfw t = some (Z85 t) := by
 have hlim : lim = 4294967296 := rfl
 unfold Zfw
 rw [Yjc _ (by omega), Option.bind_some, show ((t.length : Int)).toNat = t.length by omega]
 exact Y1l t ht t.length 0 (by omega)
def Znr (w : walk_way) (l : List Action) : walk_way := { w with atoms := w.atoms ++ (doT l (Z0i w.got)).1, got := (doT l (Z0i w.got)).2 }
theorem Ygt {α : Type} (l : List α) : Z5b l (l.length : Int) = some l := by
 unfold Z5b
 simp [Nat.ble_eq_true_of_le (Nat.le_refl _)]
theorem Zm4 (l : List Action) : Z3l l ≤ l.length := List.countP_le_length
theorem Zy8 (w : walk_way) (l : List Action) (h : w.atoms.length + l.length ≤ 100000) : Zeu w l = some (Znr w l) := by
 have hlim : lim = 4294967296 := rfl
 have h1 := Zm4 l
 unfold Zeu
 rw [Y17 l w.got (by omega), Option.bind_some, Ygt, Option.bind_some, Z23 (by rw [Zgx]; omega), Option.bind_some]; rfl
def Z6h (w : walk_way) (f : Flow) : Option walk_way := (Z5o w.got (Z8h f)).bind fun b => (Z53 b w.cube).map fun c => { w with cube := c }
theorem Yle (w : walk_way) (f : Flow) : ∃ z, Zjg w f = some (Z3k z (Z6h w f)) := by
 unfold Zjg Z6h
 rw [Y5a, Option.bind_some, Zyt, Option.bind_some]
 cases Z5o w.got (Z8h f) with
 | none => exact ⟨_, rfl⟩
 | some b =>
  show ∃ z, (Z7q b w.cube).bind _ = some (Z3k z ((Z53 b w.cube).map _))
  rw [Zos, Option.bind_some]
  cases Z53 b w.cube with
  | none => exact ⟨_, rfl⟩
  | some c => exact ⟨w, rfl⟩
def Z4j (w : walk_way) (l : List Inst) : walk_way := match ofI l 4 with
 | some i => Znr w i.Acts
 | none => w
def Z4s (w : walk_way) (l : List Inst) : walk_way := match ofI l 5 with
 | some _ => { w with set := [] }
 | none => w
def Z58 (w : walk_way) (l : List Inst) : walk_way := match ofI l 3 with
 | some i => { w with set := i.Acts.foldl wr1 w.set }
 | none => w
def Z5r (w : walk_way) (l : List Inst) : walk_way := match ofI l 2 with
 | some i => { w with got := Z4c w.got 1 i.Value i.Mask }
 | none => w
def wdo (w : walk_way) (l : List Inst) : walk_way := Z5r (Z58 (Z4s (Z4j w l) l) l) l
def Z2b (at_ : Nat) (l : List Inst) : Option Nat := match ofI l 1 with
 | some i => if i.Table > (at_ : Int) ∧ i.Table < 4 then some i.Table.toNat else none
 | none => none
theorem Zzl {at_ : Nat} {l : List Inst} {i : Inst} (h : ofI l 1 = some i) (hc : i.Table > (at_ : Int) ∧ i.Table < 4) : Z2b at_ l = some i.Table.toNat := by
 unfold Z2b; rw [h]; exact if_pos hc
theorem Zz3 {at_ : Nat} {l : List Inst} {i : Inst} (h : ofI l 1 = some i) (hc : ¬ (i.Table > (at_ : Int) ∧ i.Table < 4)) : Z2b at_ l = none := by
 unfold Z2b; rw [h]; exact if_neg hc
theorem Zy6 {at_ : Nat} {l : List Inst} (h : ofI l 1 = none) : Z2b at_ l = none := by
 unfold Z2b; rw [h]
theorem Zp6 {at_ n : Nat} {l : List Inst} (h : Z2b at_ l = some n) : at_ < n ∧ n < 4 := by
 unfold Z2b at h
 split at h
 ·split at h
  ·cases h; omega
  ·cases h
 ·cases h
def Z5m (w : walk_way) : walk_way := Znr w (Z5i w.set)
def Z6n (l : List Inst) : Prop := ∀ i ∈ l, i.Acts.length ≤ 12
theorem Y31 (w : walk_way) {l : List Inst} (hl : Z6n l) : (Z4j w l).atoms.length ≤ w.atoms.length + 12 ∧ (Z4j w l).set = w.set ∧ (Z4j w l).cube = w.cube := by
 unfold Z4j
 split
 ·rename_i i hi
  have h1 := hl i (Zbk hi)
  have h2 := Zm4 i.Acts
  refine ⟨?_, rfl, rfl⟩
  show (w.atoms ++ _).length ≤ _
  rw [List.length_append, Zgx]; omega
 ·exact ⟨by omega, rfl, rfl⟩
theorem Zua (w : walk_way) (l : List Inst) : (Z4s w l).atoms = w.atoms ∧ (Z4s w l).set.length ≤ w.set.length ∧ (Z4s w l).cube = w.cube := by
 unfold Z4s
 split
 ·exact ⟨rfl, by simp, rfl⟩
 ·exact ⟨rfl, by omega, rfl⟩
theorem Ztx (w : walk_way) {l : List Inst} (hl : Z6n l) : (Z58 w l).atoms = w.atoms ∧ (Z58 w l).set.length ≤ w.set.length + 12 ∧ (Z58 w l).cube = w.cube := by
 unfold Z58
 split
 ·rename_i i hi
  have h1 := hl i (Zbk hi)
  have h2 := Zic i.Acts w.set
  exact ⟨rfl, by show (i.Acts.foldl wr1 w.set).length ≤ _; omega, rfl⟩
 ·exact ⟨rfl, by omega, rfl⟩
theorem Zwz (w : walk_way) (l : List Inst) : (Z5r w l).atoms = w.atoms ∧ (Z5r w l).set = w.set ∧ (Z5r w l).cube = w.cube := by
 unfold Z5r
 split
 ·exact ⟨rfl, rfl, rfl⟩
 ·exact ⟨rfl, rfl, rfl⟩
theorem Zqu (w : walk_way) {l : List Inst} (hl : Z6n l) : (wdo w l).atoms.length ≤ w.atoms.length + 12 ∧ (wdo w l).set.length ≤ w.set.length + 12 ∧ (wdo w l).cube = w.cube := by
 have h1 := Y31 w hl
 have h2 := Zua (Z4j w l) l
 have h3 := Ztx (Z4s (Z4j w l) l) hl
 have h4 := Zwz (Z58 (Z4s (Z4j w l) l) l) l
 unfold wdo
 refine ⟨?_, ?_, ?_⟩
 ·rw [h4.1, h3.1, h2.1]; exact h1.1
 ·rw [h4.2.1]
  have := h3.2.1
  have := h2.2.1
  rw [h1.2.1] at this
  omega
 ·rw [h4.2.2, h3.2.2, h2.2.2, h1.2.2]
theorem Yg3 (w : walk_way) (at_ : Nat) (l : List Inst) (hl : Z6n l) (ha : w.atoms.length ≤ 1000) (hs : w.set.length ≤ 1000) :
  Zj4 w (at_ : Int) l = some (match Z2b at_ l with | some n => (wdo w l, (n : Int), true) | none => (Z5m (wdo w l), 0, false)) := by
 have hlim : lim = 4294967296 := rfl
 have b1 := Y31 w hl
 have b2 := Zua (Z4j w l) l
 have b3 := Ztx (Z4s (Z4j w l) l) hl
 have b4 := Zqu w hl
 have j4 : ∀ b : walk_way, b.atoms.length ≤ 2000 → b.set.length ≤ 2000 → Zff l (at_ : Int) b = some (match Z2b at_ l with | some n => (b, (n : Int), true) | none => (Z5m b, 0, false)) := fun b h1 h2 => by
  unfold Zff
  rw [Z81 l 1 hl, Option.bind_some]
  have hend : ((Z7d b.set).bind fun x12 => (Zeu b x12).bind fun x13 => some (x13, (0 : Int), false)) = some (Z5m b, 0, false) := by
   have := Zti b.set
   rw [Y2r _ (by omega), Option.bind_some, Zy8 b _ (by omega)]; rfl
  cases hi : ofI l 1 with
  | none => rw [Zy6 hi]; exact hend
  | some i =>
   show (bif ((true && decide (i.Table > (at_ : Int))) && decide (i.Table < 4)) then some (b, i.Table, true) else _) = _
   rw [Bool.true_and]
   by_cases hc : i.Table > (at_ : Int) ∧ i.Table < 4
   ·have hd : (decide (i.Table > (at_ : Int)) && decide (i.Table < 4)) = true := by
     rw [Bool.and_eq_true, decide_eq_true_eq, decide_eq_true_eq]; exact hc
    have : ((i.Table.toNat : Nat) : Int) = i.Table := by omega
    rw [Zzl hi hc, hd, cond_true]
    simp [this]
   ·have hd : (decide (i.Table > (at_ : Int)) && decide (i.Table < 4)) = false := by
     rw [Bool.and_eq_false_iff, decide_eq_false_iff_not, decide_eq_false_iff_not]; omega
    rw [Zz3 hi hc, hd, cond_false]
    exact hend
 have j3 : ∀ b : walk_way, b.atoms.length ≤ 2000 → b.set.length ≤ 2000 → Zho l (at_ : Int) b = some (match Z2b at_ l with | some n => (Z5r b l, (n : Int), true) | none => (Z5m (Z5r b l), 0, false)) := fun b h1 h2 => by
  have b5 := Zwz b l
  unfold Zho
  rw [Z81 l 2 hl, Option.bind_some, ← j4 (Z5r b l) (by rw [b5.1]; omega) (by rw [b5.2.1]; omega)]
  unfold Z5r
  cases hi : ofI l 2 with
  | none => rfl
  | some i =>
   simp only [Z3k, cond_true]
   rw [Zdt]; rfl
 have j2 : ∀ b : walk_way, b.atoms.length ≤ 1500 → b.set.length ≤ 1500 → Zfo l (at_ : Int) b = some (match Z2b at_ l with | some n => (Z5r (Z58 b l) l, (n : Int), true) | none => (Z5m (Z5r (Z58 b l) l), 0, false)) := fun b h1 h2 => by
  have b5 := Ztx b hl
  unfold Zfo
  rw [Z81 l 3 hl, Option.bind_some, ← j3 (Z58 b l) (by rw [b5.1]; omega) (by have := b5.2.1; omega)]
  unfold Z58
  cases hi : ofI l 3 with
  | none => rfl
  | some i =>
   have := hl i (Zbk hi)
   simp only [Z3k, cond_true]
   rw [Znu _ _ (by omega)]; rfl
 have j1 : ∀ b : walk_way, b.atoms.length ≤ 1500 → b.set.length ≤ 1500 → Zfj l (at_ : Int) b = some (match Z2b at_ l with | some n => (Z5r (Z58 (Z4s b l) l) l, (n : Int), true) | none => (Z5m (Z5r (Z58 (Z4s b l) l) l), 0, false)) := fun b h1 h2 => by
  have b5 := Zua b l
  unfold Zfj
  rw [Z81 l 5 hl, Option.bind_some, ← j2 (Z4s b l) (by rw [b5.1]; omega) (by have := b5.2.1; omega)]
  unfold Z4s
  cases hi : ofI l 5 with
  | none => rfl
  | some i => rfl
 unfold Zj4
 rw [Z81 l 4 hl, Option.bind_some]
 have := j1 (Z4j w l) (by omega) (by rw [b1.2.1]; omega)
 unfold wdo
 rw [← this]
 unfold Z4j
 cases hi : ofI l 4 with
 | none => rfl
 | some i =>
  have := hl i (Zbk hi)
  simp only [Z3k, cond_true]
  rw [Zy8 w _ (by omega)]; rfl
def Z0b (s : Switch) (i : Nat) : List Flow := if h : i < 4 then Vector.get s.Tables ⟨i, h⟩ else []
theorem Zk4 (s : Switch) (i : Nat) (h : i < 4) : Vector.get s.Tables ⟨i, h⟩ = Z0b s i := by unfold Z0b; rw [dif_pos h]
def Z57 (w : walk_way) : Rule := ⟨w.cube, w.atoms⟩
def Z5q (R : Nat → walk_way → List Rule) (t : List Flow) (at_ : Nat) (w : walk_way) (i : Int) : List Rule := match t[i.toNat]? with
 | none => []
 | some f => match Z6h w f with
  | none => []
  | some x => match Z2b at_ f.Insts with
   | some n => R n (wdo x f.Insts)
   | none => [Z57 (Z5m (wdo x f.Insts))]
def Z2r (s : Switch) : Nat → Nat → walk_way → List Rule
 | 0, _, w => [Z57 w]
 | d + 1, at_, w => (Z85 (Z0b s at_)).flatMap (Z5q (Z2r s d) (Z0b s at_) at_ w) ++ [Z57 w]
def Y0m (t : List Flow) : Prop := t.length < 20 ∧ ∀ f ∈ t, Z6n f.Insts
def Z99 (s : Switch) : Prop := ∀ i, i < 4 → Y0m (Z0b s i)
def Zg1 (at_ : Nat) (w : walk_way) : Prop := w.atoms.length ≤ 12 * at_ ∧ w.set.length ≤ 12 * at_
theorem Zvz (w : walk_way) (h : w.atoms.length ≤ 100000) : Zgt w = some (Z57 w) := by
 have hlim : lim = 4294967296 := rfl
 unfold Zgt Zd9
 rw [Z23 (by simp; omega)]; rfl
theorem Y2p {w x : walk_way} {f : Flow} (h : Z6h w f = some x) : x.atoms = w.atoms ∧ x.set = w.set := by
 unfold Z6h at h
 obtain ⟨b, h1, h2⟩ := Option.bind_eq_some_iff.1 h
 obtain ⟨c, h3, h4⟩ := Option.map_eq_some_iff.1 h2
 subst h4
 exact ⟨rfl, rfl⟩
theorem Y4w (w : walk_way) : (Z5m w).atoms.length ≤ w.atoms.length + w.set.length := by
 have h1 := Zti w.set
 have h2 := Zm4 (Z5i w.set)
 show (w.atoms ++ _).length ≤ _
 rw [List.length_append, Zgx]; omega
def goP {σ : Type} (r : Lp σ) : Bool × Lp σ := (r.isGo, r)
theorem Zx0 (sg : Type) (y : sg → Rule → Option (Lp sg)) (s : Switch) (at_ : Nat) (ha : at_ < 4) (hs : Y0m (Z0b s at_)) (w : walk_way) (hw : Zg1 at_ w) (R : Lp sg → Switch → Int → walk_way → Option (Bool × Lp sg)) (Rm : Nat → walk_way → List Rule)
  (hR : ∀ (n : Nat) (x : walk_way) (z : sg), at_ < n → n < 4 → Zg1 n x → R (.go z) s (n : Int) x = (yf y (Rm n x) z).map goP) :
  ∀ (l : List Int) (i : Nat) (z : sg), (∀ j ∈ l, ∃ k : Nat, k < (Z0b s at_).length ∧ j = (k : Int)) → Z7c sg w y (at_ : Int) s R l i (.go z) = (yf y (l.flatMap (Z5q Rm (Z0b s at_) at_ w) ++ [Z57 w]) z).map goP
 | [], i, z, _ => by
  rw [Z7c, Zvz w (by have := hw.1; omega), Option.bind_some]
  show (y z (Z57 w)).bind _ = _
  rw [List.flatMap_nil, List.nil_append, yf]
  cases y z (Z57 w) with
  | none => rfl
  | some r => cases r <;> rfl
 | j :: l, i, z, hl => by
  obtain ⟨k, hk, rfl⟩ := hl j (by simp)
  have ih := fun z => Zx0 sg y s at_ ha hs w hw R Rm hR l (i + 1) z fun j hj => hl j (by simp [hj])
  have tail : ∀ (L : List Rule), ((yf y L z).map goP).bind (fun b24 => Zl9 sg (Z7c sg w y (at_ : Int) s R l) i b24.2 b24.1) = (yf y (L ++ (l.flatMap (Z5q Rm (Z0b s at_) at_ w) ++ [Z57 w])) z).map goP := fun L => by
   rw [Zqz]
   cases yf y L z with
   | none => rfl
   | some r =>
    cases r with
    | out c q => rfl
    | go q => exact ih q
  rw [Z7c, Z3j ha, Option.bind_some, Zk4, Z37 hk, Option.bind_some, List.flatMap_cons, List.append_assoc]
  have hf := hs.2 _ (List.getElem_mem hk)
  have hrule : Z5q Rm (Z0b s at_) at_ w (k : Int) = match Z6h w (Z0b s at_)[k] with
    | none => []
    | some x => match Z2b at_ (Z0b s at_)[k].Insts with
     | some n => Rm n (wdo x (Z0b s at_)[k].Insts)
     | none => [Z57 (Z5m (wdo x (Z0b s at_)[k].Insts))] := by
   unfold Z5q
   rw [Int.toNat_natCast, List.getElem?_eq_getElem hk]
  obtain ⟨zz, hz⟩ := Yle w (Z0b s at_)[k]
  rw [hrule, hz, Option.bind_some]
  cases hm : Z6h w (Z0b s at_)[k] with
  | none => exact ih z
  | some x =>
   have hx := Y2p hm
   have hwx : Zg1 at_ x := by unfold Zg1; rw [hx.1, hx.2]; exact hw
   have hd := Zqu x hf
   simp only [Z3k, Bool.not_true, cond_false]
   rw [Yg3 x at_ _ hf (by have := hwx.1; omega) (by have := hwx.2; omega), Option.bind_some]
   cases hn : Z2b at_ (Z0b s at_)[k].Insts with
   | some n =>
    have hnb := Zp6 hn
    simp only [cond_true]
    rw [hR n _ z hnb.1 hnb.2 ⟨by have := hwx.1; have := hd.1; omega, by have := hwx.2; have := hd.2.1; omega⟩]
    exact tail _
   | none =>
    simp only [cond_false]
    have he := Y4w (wdo x (Z0b s at_)[k].Insts)
    rw [Zvz _ (by have := hwx.1; have := hwx.2; have := hd.1; have := hd.2.1; omega), Option.bind_some, ← tail]
    show (y z (Z57 _)).bind _ = _
    rw [yf]
    cases y z (Z57 (Z5m (wdo x (Z0b s at_)[k].Insts))) with
    | none => rfl
    | some r => cases r <;> rfl
theorem Y0q (sg : Type) (y : sg → Rule → Option (Lp sg)) (s : Switch) (hs : Z99 s) : ∀ (d f at_ : Nat) (w : walk_way) (z : sg), 4 ≤ at_ + d → at_ < 4 → d ≤ f → Zg1 at_ w →
  Zcm sg y f (.go z) s (at_ : Int) w = (yf y (Z2r s d at_ w) z).map goP
 | 0, f, at_, w, z, h0, h1, _, _ => by omega
 | d + 1, 0, at_, w, z, _, _, h2, _ => by omega
 | d + 1, f + 1, at_, w, z, h1, ha, h2, hw => by
  have hl := hs at_ ha
  show Zk5 sg y (Zcm sg y f) (.go z) s (at_ : Int) w = _
  unfold Zk5
  rw [Z3j ha, Option.bind_some, Zk4, Y44 _ hl.1, Option.bind_some, Z2r]
  exact Zx0 sg y s at_ ha hl w hw _ (Z2r s d) (fun n x q h3 h4 h5 => Y0q sg y s hs d f n x q (by omega) h4 (by omega) h5) _ 0 z fun j hj => Zmm.1 hj
def Z6s : walk_way := ⟨Z2d, Z2d, [], []⟩
def Z4k (s : Switch) : List Rule := Z2r s 4 0 Z6s
theorem Y93 (sg : Type) (y : sg → Rule → Option (Lp sg)) (s : Switch) (hs : Z99 s) (z : sg) : Zci sg y (.go z) s = yf y (Z4k s) z := by
 unfold Zci Zbm Z9j Zrc
 rw [Option.bind_some, Option.bind_some]
 have := Y0q sg y s hs 4 Z0l 0 Z6s z (by omega) (by omega) (by unfold Z0l; omega) ⟨by simp [Z6s], by simp [Z6s]⟩
 show (Zcm sg y Z0l (.go z) s ((0 : Nat) : Int) Z6s).bind _ = _
 rw [this]
 show _ = yf y (Z2r s 4 0 Z6s) z
 cases yf y (Z2r s 4 0 Z6s) z <;> rfl
def Z6x (s : Switch) : Nat → Nat → Nat
 | 0, _ => 1
 | d + 1, at_ => ((Z0b s at_).length + 1) * Z6x s d (at_ + 1)
theorem Zx9 (s : Switch) : ∀ (d at_ : Nat), 1 ≤ Z6x s d at_
 | 0, _ => Nat.le_refl _
 | d + 1, at_ => Nat.le_trans (Zx9 s d (at_ + 1)) (Nat.le_mul_of_pos_left _ (by omega))
theorem Zy5 (s : Switch) : ∀ (d at_ n : Nat), at_ + d = 4 → at_ ≤ n → n ≤ 4 → Z6x s (4 - n) n ≤ Z6x s d at_
 | 0, at_, n, h1, h2, h3 => by
  have : n = 4 := by omega
  subst this
  exact Nat.le_refl _
 | d + 1, at_, n, h1, h2, h3 => by
  by_cases e : n = at_
  ·subst e
   have : 4 - n = d + 1 := by omega
   rw [this]; exact Nat.le_refl _
  ·rw [Z6x]
   exact Nat.le_trans (Zy5 s d (at_ + 1) n (by omega) (by omega) h3) (Nat.le_mul_of_pos_left _ (by omega))
theorem Zxq {α β : Type} (f : α → List β) (k : Nat) : ∀ l : List α, (∀ x ∈ l, (f x).length ≤ k) → (l.flatMap f).length ≤ l.length * k
 | [], _ => by simp
 | x :: l, h => by
  rw [List.flatMap_cons, List.length_append, List.length_cons, Nat.add_mul, Nat.one_mul]
  have h1 := h x (by simp)
  have h2 := Zxq f k l fun y hy => h y (by simp [hy])
  omega
theorem Y3g (s : Switch) : ∀ (d at_ : Nat) (w : walk_way), 4 ≤ at_ + d → at_ < 4 → (Z2r s d at_ w).length ≤ Z6x s (4 - at_) at_
 | 0, at_, w, h, h' => by omega
 | d + 1, at_, w, h, h' => by
  have e : 4 - at_ = (4 - (at_ + 1)) + 1 := by omega
  rw [Z2r, List.length_append, List.length_singleton, e, Z6x, Nat.add_mul, Nat.one_mul]
  have h1 := Zx9 s (4 - (at_ + 1)) (at_ + 1)
  have h2 := Zxq (Z5q (Z2r s d) (Z0b s at_) at_ w) (Z6x s (4 - (at_ + 1)) (at_ + 1)) (Z85 (Z0b s at_)) fun i hi => by
   unfold Z5q
   split
   ·simp
   ·split
    ·simp
    ·split
     ·rename_i n hn
      have hb := Zp6 hn
      refine Nat.le_trans (Y3g s d n _ (by omega) hb.2) ?_
      exact Zy5 s (4 - (at_ + 1)) (at_ + 1) n (by omega) (by omega) (by omega)
     ·simpa using h1
  rw [Yb9] at h2
  omega
theorem Zzf (s : Switch) : (Z4k s).length ≤ Z6x s 4 0 := Y3g s 4 0 Z6s (by omega) (by omega)
theorem Y6q (s : Switch) (hs : Z99 s) (h : Z6x s 4 0 ≤ lim) : Zhu s = some (Z4k s) := by
 unfold Zhu Znm Znw Zm2
 rw [Option.bind_some, Yjm (Z4k s) _ (fun y z => Y93 _ y s hs z) (Nat.le_trans (Zzf s) h)]
 rfl
end Go.Proofs.YtknpgojdkobgjaaGreat.W
namespace Go.Proofs.YtknpgojdkobgjaaGreat.W
open Go Go.Wb
def Zjn (l : List Inst) : Bool := decide ((l.length : Int) ≤ 8) && !(l.any fun i => !decide ((i.Acts.length : Int) ≤ 12))
theorem Y6c (s : List Inst) (f : Inst → Option Bool) (p : Inst → Bool) (hf : ∀ x ∈ s, f x = some (p x)) : Ziv s f = some (s.any p) := by
 unfold Ziv; rw [Zxc s f p hf, Option.bind_some, Zc8]
theorem Yak (l : List Inst) : Zi3 l = some (Zjn l) := by
 unfold Zi3 Zjn
 rw [Y6c l Zod (fun i => !decide ((i.Acts.length : Int) ≤ 12)) (fun x _ => rfl)]
 cases decide ((l.length : Int) ≤ 8) <;> rfl
def Zgj (f : Flow) : Bool := decide ((f.Match.length : Int) ≤ 30) && Zjn f.Insts
theorem Yky (f : Flow) : Zji f = some (Zgj f) := by
 unfold Zji Zgj
 rw [Yak]
 cases decide ((f.Match.length : Int) ≤ 30) <;> rfl
theorem Yer (s : List Flow) (f : Flow → Option Bool) (p : Flow → Bool) (hf : ∀ x ∈ s, f x = some (p x)) : Zki s f = some (Z08 p s) := by
 unfold Zki
 rw [show ((s.length : Int)).toNat = s.length by omega]
 exact Zal p (fun i => by rw [Ze6]) (fun m i => by rw [Ze6]) hf
theorem Yg6 (s : List Flow) (f : Flow → Option Bool) (p : Flow → Bool) (hf : ∀ x ∈ s, f x = some (p x)) : Zjq s f = some (s.any p) := by
 unfold Zjq; rw [Yer s f p hf, Option.bind_some, Zc8]
def Ze8 (t : List Flow) (many : Int) : Bool := decide ((t.length : Int) ≤ many) && !(t.any fun f => !Zgj f)
theorem Yga (t : List Flow) (many : Int) : Zky t many = some (Ze8 t many) := by
 unfold Zky Ze8
 rw [Yg6 t Zkq (fun f => !Zgj f) (fun f _ => by unfold Zkq; rw [Yky]; rfl)]
 cases decide ((t.length : Int) ≤ many) <;> rfl
def Z9g (s : Switch) (many : Int) : Bool := (Vector.toList s.Tables).all (fun t => Ze8 t many) && Zgp s.Groups 9 3
theorem Zy3 (s : Switch) (many : Int) : ∀ (l : List (List Flow)) (i : Nat), Zc2 s many l i = some (l.all (fun t => Ze8 t many) && Zgp s.Groups 9 3)
 | [], i => by rw [Zc2, Ydo]; rfl
 | t :: l, i => by
  rw [Zc2, Yga, Option.bind_some, Zy3 s many l (i + 1), List.all_cons]
  cases Ze8 t many <;> rfl
theorem Yjn (s : Switch) (many : Int) : Zph s many = some (Z9g s many) := Zy3 s many _ 0
theorem Ylb (s : Switch) (i : Nat) (h : i < 4) : Z0b s i = (Vector.toList s.Tables)[i]'(by simp; exact h) := by
 rw [← Zk4 s i h, Vector.getElem_toList]; rfl
theorem Y9l (s : Switch) (i : Nat) (h : i < 4) : Z0b s i ∈ Vector.toList s.Tables := by
 rw [Ylb s i h]; exact List.getElem_mem _
theorem Ye6 {l : List Inst} (h : Zjn l = true) : l.length ≤ 8 ∧ Z6n l := by
 unfold Zjn at h
 simp only [Bool.and_eq_true, decide_eq_true_eq, Bool.not_eq_true', List.any_eq_false] at h
 refine ⟨by omega, fun i hi => ?_⟩
 have h1 : decide ((i.Acts.length : Int) ≤ 12) = true := by simpa using h.2 i hi
 rw [decide_eq_true_eq] at h1
 omega
theorem Ynd {f : Flow} (h : Zgj f = true) : f.Match.length ≤ 30 ∧ f.Insts.length ≤ 8 ∧ Z6n f.Insts := by
 unfold Zgj at h
 rw [Bool.and_eq_true, decide_eq_true_eq] at h
 exact ⟨by omega, Ye6 h.2⟩
theorem Y70 {t : List Flow} {many : Nat} (h : Ze8 t (many : Int) = true) : t.length ≤ many ∧ ∀ f ∈ t, f.Match.length ≤ 30 ∧ f.Insts.length ≤ 8 ∧ Z6n f.Insts := by
 unfold Ze8 at h
 simp only [Bool.and_eq_true, decide_eq_true_eq, Bool.not_eq_true', List.any_eq_false] at h
 exact ⟨by omega, fun f hf => Ynd (by simpa using h.2 f hf)⟩
theorem Zjw {s : Switch} {many : Nat} (h : Z9g s (many : Int) = true) : (∀ i, i < 4 → (Z0b s i).length ≤ many ∧ ∀ f ∈ Z0b s i, f.Match.length ≤ 30 ∧ f.Insts.length ≤ 8 ∧ Z6n f.Insts) ∧ Z3f s.Groups := by
 unfold Z9g at h
 rw [Bool.and_eq_true, List.all_eq_true] at h
 exact ⟨fun i hi => Y70 (h.1 _ (Y9l s i hi)), Ynr h.2⟩
theorem Yic {s : Switch} {many : Nat} (h : Z9g s (many : Int) = true) (hm : many < 20) : Z99 s := fun i hi => ⟨by have := ((Zjw h).1 i hi).1; omega, fun f hf => (((Zjw h).1 i hi).2 f hf).2.2⟩
theorem Ya0 (s : Switch) (m : Nat) (h : ∀ i, i < 4 → (Z0b s i).length ≤ m) : Z6x s 4 0 ≤ (m + 1) * ((m + 1) * ((m + 1) * ((m + 1) * 1))) := by
 show ((Z0b s 0).length + 1) * (((Z0b s 1).length + 1) * (((Z0b s 2).length + 1) * (((Z0b s 3).length + 1) * 1))) ≤ _
 have h0 := h 0 (by omega)
 have h1 := h 1 (by omega)
 have h2 := h 2 (by omega)
 have h3 := h 3 (by omega)
 exact Nat.mul_le_mul (by omega) (Nat.mul_le_mul (by omega) (Nat.mul_le_mul (by omega) (Nat.mul_le_mul (by omega) (Nat.le_refl _))))
end Go.Proofs.YtknpgojdkobgjaaGreat.W
namespace Go.Proofs.YtknpgojdkobgjaaGreat.W
open Go Go.Wb
def Z9l (t : List Flow) (h : Header) (i : Int) : Bool := match t[i.toNat]? with
 | some f => Zt (Z8h f) h
 | none => false
theorem Zma {t : List Flow} {h : Header} {k : Nat} (hk : k < t.length) : Z9l t h (k : Int) = Zt (Z8h t[k]) h := by
 unfold Z9l
 rw [Int.toNat_natCast, List.getElem?_eq_getElem hk]
def Z8d (t : List Flow) (h : Header) : Option Int := (Z85 t).find? (Z9l t h)
theorem Zya (sg : Type) (t : List Flow) (h : Header) (y : sg → Int → Option (Lp sg)) : ∀ (l : List Int) (i : Nat) (z : sg), (∀ j ∈ l, ∃ k : Nat, k < t.length ∧ j = (k : Int)) → Zaj sg t h y l i (.go z) = yf y (l.filter (Z9l t h)) z
 | [], i, z, _ => rfl
 | j :: l, i, z, hl => by
  obtain ⟨k, hk, rfl⟩ := hl j (by simp)
  have ih := fun z => Zya sg t h y l (i + 1) z fun j hj => hl j (by simp [hj])
  rw [Zaj, Z37 hk, Option.bind_some, Y5a, Option.bind_some, Zoz, Option.bind_some]
  cases hc : Zt (Z8h t[k]) h
  ·rw [Bool.not_false, cond_true, List.filter_cons_of_neg (by rw [Zma hk, hc]; simp)]
   exact ih z
  ·rw [Bool.not_true, cond_false, List.filter_cons_of_pos (by rw [Zma hk, hc])]
   show (y z (k : Int)).bind _ = _
   rw [yf]
   cases y z (k : Int) with
   | none => rfl
   | some r => cases r with
    | go q => exact ih q
    | out c q => rfl
theorem Yns (t : List Flow) (h : Header) (ht : t.length < 20) : Zkg t h = some (Z3k 0 (Z8d t h)) := by
 unfold Zkg Zom
 rw [Option.bind_some]
 show (Zcn (Int × Bool) (fun s x => Zk3 s.1 s.2 x) (.go (0, false)) t h).bind _ = _
 unfold Zcn
 rw [Y44 t ht, Option.bind_some, Zya _ t h _ _ _ _ fun j hj => Zmm.1 hj]
 unfold Z8d
 generalize Z85 t = l
 induction l with
 | nil => rfl
 | cons j l ih =>
  cases hj : Z9l t h j
  ·rw [List.filter_cons_of_neg (by simp [hj]), List.find?_cons_of_neg (by simp [hj])]; exact ih
  ·rw [List.filter_cons_of_pos hj, List.find?_cons_of_pos hj]; rfl
theorem Y4v {t : List Flow} {h : Header} {i : Int} (hf : Z8d t h = some i) : ∃ k : Nat, ∃ hk : k < t.length, i = (k : Int) ∧ Zt (Z8h t[k]) h = true := by
 obtain ⟨k, hk, rfl⟩ := Zmm.1 (List.mem_of_find?_eq_some hf)
 have := List.find?_some hf
 rw [Zma hk] at this
 exact ⟨k, hk, rfl, this⟩
def inT (t : List Flow) (l : List Int) : Prop := ∀ j ∈ l, ∃ k : Nat, k < t.length ∧ j = (k : Int)
end Go.Proofs.YtknpgojdkobgjaaGreat.W
namespace Go.Proofs.YtknpgojdkobgjaaGreat.W
open Go Go.Wb
end Go.Proofs.YtknpgojdkobgjaaGreat.W
namespace Go.Proofs.YtknpgojdkobgjaaGreat.W
open Go Go.Wb
end Go.Proofs.YtknpgojdkobgjaaGreat.W
