/- A part of the proof. -/
import Derived.Test.YtknpgojdkobgjaaGreatG2
set_option linter.unusedVariables false
set_option linter.unusedSimpArgs false
namespace Go.Proofs.YtknpgojdkobgjaaGreat.W
open Go Go.Wb
abbrev big : Nat := 1000000
theorem Z5x {α : Type} (P Q : List α) (x : α) (i : Int) (h : i = (P.length : Int)) : lget (P ++ x :: Q) i = some x := by
 subst h
 rw [Zk1, List.getElem?_append_right (Nat.le_refl _)]; simp
theorem Z8d {α : Type} (P Q : List α) (x y : α) (i : Nat) (h : i = P.length) : List.set (P ++ x :: Q) i y = P ++ y :: Q := by
 subst h
 rw [List.set_append_right _ _ (Nat.le_refl _)]; simp
theorem wr {n : Int} (h1 : -4611686018427387904 ≤ n) (h2 : n ≤ 4611686018427387904) : IntKind.i64.wrap n = n := Z2s (by omega) (by omega)
theorem Zad (n : Nat) (h : n ≤ 4611686018427387904) : IntKind.i64.wrap ((BitVec.ofNat 64 n).toNat : Int) = (n : Int) := by
 have : (BitVec.ofNat 64 n).toNat = n := by rw [BitVec.toNat_ofNat]; omega
 rw [this, wr (by omega) (by omega)]
theorem Zna (k : Int) (n : Nat) (hk : k = (n : Int)) (h : n ≤ 4611686018427387904) : Z3i (BitVec.ofInt 64 (IntKind.i64.wrap k)) ((1 : BitVec 64).toNat : Int) = some (BitVec.ofNat 64 (n / 2)) := by
 subst hk
 rw [wr (by omega) (by omega), show ((1 : BitVec 64).toNat : Int) = ((1 : Nat) : Int) from rfl]
 unfold Z3i
 rw [decide_eq_false (by omega), cond_false, BitVec.ofInt_natCast, Int.toNat_natCast]
 congr 1
 apply BitVec.eq_of_toNat_eq
 rw [BitVec.toNat_ushiftRight, BitVec.toNat_ofNat, BitVec.toNat_ofNat, Nat.shiftRight_eq_div_pow]
 omega
theorem Zxf (n a b : Nat) : ∀ (U V P M Q : List Action) (i f : Nat), U.length = V.length → P.length = a + i → P.length + U.length + M.length = b + i → i + U.length = n → U.length < f → (P ++ U ++ M ++ V ++ Q).length ≤ big →
  Zem (n : Int) (b : Int) (a : Int) f (P ++ U ++ M ++ V ++ Q) (i : Int) = some (P ++ V ++ M ++ U ++ Q)
 | [], V, P, M, Q, i, f, h1, h2, h3, h4, h5, h6 => by
  have hV : V = [] := List.eq_nil_of_length_eq_zero (by simpa using h1.symm)
  subst hV
  obtain ⟨f, rfl⟩ : ∃ k, f = k + 1 := ⟨f - 1, by simp at h5; omega⟩
  rw [Zem, decide_eq_false (by simp at h4; omega), cond_false]
 | u :: U, [], P, M, Q, i, f, h1, h2, h3, h4, h5, h6 => by simp at h1
 | u :: U, v :: V, P, M, Q, i, f, h1, h2, h3, h4, h5, h6 => by
  obtain ⟨f, rfl⟩ : ∃ k, f = k + 1 := ⟨f - 1, by simp at h5; omega⟩
  simp only [List.length_cons, List.length_append] at h1 h3 h4 h5 h6
  have hbig : big = 1000000 := rfl
  have ea : IntKind.i64.wrap ((a : Int) + (i : Int)) = (P.length : Int) := by rw [wr (by omega) (by omega)]; omega
  have eb : IntKind.i64.wrap ((b : Int) + (i : Int)) = ((P ++ u :: U ++ M).length : Int) := by
   rw [wr (by omega) (by omega)]; simp only [List.length_append, List.length_cons]; omega
  have e1 : P ++ u :: U ++ M ++ v :: V ++ Q = (P ++ u :: U ++ M) ++ v :: (V ++ Q) := by simp
  have e2 : P ++ u :: U ++ M ++ v :: V ++ Q = P ++ u :: (U ++ M ++ v :: V ++ Q) := by simp
  have e3 : P ++ v :: (U ++ M ++ v :: V ++ Q) = (P ++ v :: U ++ M) ++ v :: (V ++ Q) := by simp
  have e4 : (P ++ v :: U ++ M) ++ u :: (V ++ Q) = (P ++ [v]) ++ U ++ (M ++ [u]) ++ V ++ Q := by simp
  have g1 : lget (P ++ u :: U ++ M ++ v :: V ++ Q) ((P ++ u :: U ++ M).length : Int) = some v := by rw [e1]; exact Z5x _ _ _ _ rfl
  have g2 : lget (P ++ u :: U ++ M ++ v :: V ++ Q) (P.length : Int) = some u := by rw [e2]; exact Z5x _ _ _ _ rfl
  have s1 : List.set (P ++ u :: U ++ M ++ v :: V ++ Q) ((P.length : Int)).toNat v = (P ++ v :: U ++ M) ++ v :: (V ++ Q) := by
   rw [e2, Int.toNat_natCast, Z8d _ _ _ _ _ rfl, e3]
  have hl : (P ++ u :: U ++ M).length = (P ++ v :: U ++ M).length := by simp
  have g3 : lget ((P ++ v :: U ++ M) ++ v :: (V ++ Q)) ((P ++ u :: U ++ M).length : Int) = some v := Z5x _ _ _ _ (by rw [hl])
  have s2 : List.set ((P ++ v :: U ++ M) ++ v :: (V ++ Q)) (((P ++ u :: U ++ M).length : Int)).toNat u = (P ++ [v]) ++ U ++ (M ++ [u]) ++ V ++ Q := by
   rw [Int.toNat_natCast, Z8d _ _ _ _ _ hl, e4]
  have ei : IntKind.i64.wrap ((i : Int) + 1) = ((i + 1 : Nat) : Int) := by rw [wr (by omega) (by omega)]; omega
  rw [Zem, decide_eq_true (by omega), cond_true, eb, g1, Option.bind_some, ea, g2, Option.bind_some, Option.bind_some, s1, g3, Option.bind_some, s2, ei,
   Zxf n a b U V (P ++ [v]) (M ++ [u]) Q (i + 1) f (by omega) (by simp only [List.length_append, List.length_cons, List.length_nil]; omega) (by simp only [List.length_append, List.length_cons, List.length_nil]; omega) (by omega) (by omega) (by simp only [List.length_append, List.length_cons, List.length_nil]; omega)]
  simp
theorem Zuh (U V P M Q : List Action) (cmp : Action → Action → Option Int) (a b n : Int) (h : U.length = V.length) (ha : a = (P.length : Int)) (hb : b = ((P ++ U ++ M).length : Int)) (hn : n = (U.length : Int)) (hl : (P ++ U ++ M ++ V ++ Q).length ≤ big) :
  Ze4 (P ++ U ++ M ++ V ++ Q) a b n cmp = some (P ++ V ++ M ++ U ++ Q) := by
 subst ha hb hn
 unfold Ze4
 exact Zxf U.length P.length (P ++ U ++ M).length U V P M Q 0 _ h rfl (by simp only [List.length_append]; omega) (by omega) (by omega) hl
theorem Zrz (cmp : Action → Action → Option Int) : ∀ (f : Nat) (X Y P Q : List Action) (m : Nat), 0 < X.length → 0 < Y.length → X.length + Y.length ≤ f → P.length + X.length = m → (P ++ X ++ Y ++ Q).length ≤ big →
  Zci (m : Int) cmp f (P ++ X ++ Y ++ Q) (X.length : Int) (Y.length : Int) = some (P ++ Y ++ X ++ Q)
 | 0, X, Y, P, Q, m, h1, h2, h3, h4, h5 => by omega
 | f + 1, X, Y, P, Q, m, h1, h2, h3, h4, h5 => by
  have hbig : big = 1000000 := rfl
  simp only [List.length_append] at h5
  have em : IntKind.i64.wrap ((m : Int) - (X.length : Int)) = (P.length : Int) := by rw [wr (by omega) (by omega)]; omega
  rw [Zci, em]
  by_cases he : X.length = Y.length
  ·rw [decide_eq_false (by omega), cond_false]
   have := Zuh X Y P [] Q cmp (P.length : Int) (m : Int) (X.length : Int) he rfl (by simp; omega) rfl (by simp only [List.length_append, List.length_nil]; omega)
   simp only [List.append_nil] at this
   rw [this]; rfl
  ·rw [decide_eq_true (by omega), cond_true]
   by_cases hg : X.length > Y.length
   ·rw [decide_eq_true (by omega), cond_true]
    have hx : X = X.take Y.length ++ X.drop Y.length := (List.take_append_drop ..).symm
    generalize hX1 : X.take Y.length = X1 at hx
    generalize hX2 : X.drop Y.length = X2 at hx
    have l1 : X1.length = Y.length := by rw [← hX1]; simp; omega
    have l2 : X2.length = X.length - Y.length := by rw [← hX2]; simp
    have := Zuh X1 Y P X2 Q cmp (P.length : Int) (m : Int) (Y.length : Int) l1 rfl (by simp only [List.length_append]; omega) (by omega) (by simp only [List.length_append]; omega)
    have e1 : P ++ X ++ Y ++ Q = P ++ X1 ++ X2 ++ Y ++ Q := by rw [hx]; simp
    have e2 : P ++ Y ++ X2 ++ X1 ++ Q = (P ++ Y) ++ X2 ++ X1 ++ Q := by simp
    have e3 : IntKind.i64.wrap ((X.length : Int) - (Y.length : Int)) = (X2.length : Int) := by rw [wr (by omega) (by omega)]; omega
    have e4 : ((Y.length : Nat) : Int) = (X1.length : Int) := by omega
    rw [e1, this, Option.bind_some, e2, e3, e4, Zrz cmp f X2 X1 (P ++ Y) Q m (by omega) (by omega) (by omega) (by simp only [List.length_append]; omega) (by simp only [List.length_append]; omega)]
    rw [hx]; simp
   ·rw [decide_eq_false (by omega), cond_false]
    have hy : Y = Y.take (Y.length - X.length) ++ Y.drop (Y.length - X.length) := (List.take_append_drop ..).symm
    generalize hY1 : Y.take (Y.length - X.length) = Y1 at hy
    generalize hY2 : Y.drop (Y.length - X.length) = Y2 at hy
    have l1 : Y1.length = Y.length - X.length := by rw [← hY1]; simp
    have l2 : Y2.length = X.length := by rw [← hY2]; simp; omega
    have hb : IntKind.i64.wrap (IntKind.i64.wrap ((m : Int) + (Y.length : Int)) - (X.length : Int)) = ((P ++ X ++ Y1).length : Int) := by
     rw [wr (n := (m : Int) + (Y.length : Int)) (by omega) (by omega), wr (by omega) (by omega)]; simp only [List.length_append]; omega
    have := Zuh X Y2 P Y1 Q cmp (P.length : Int) ((P ++ X ++ Y1).length : Int) (X.length : Int) (by omega) rfl rfl rfl (by simp only [List.length_append]; omega)
    have e1 : P ++ X ++ Y ++ Q = P ++ X ++ Y1 ++ Y2 ++ Q := by rw [hy]; simp
    have e2 : P ++ Y2 ++ Y1 ++ X ++ Q = P ++ Y2 ++ Y1 ++ (X ++ Q) := by simp
    have e3 : IntKind.i64.wrap ((Y.length : Int) - (X.length : Int)) = (Y1.length : Int) := by rw [wr (by omega) (by omega)]; omega
    have e4 : ((X.length : Nat) : Int) = (Y2.length : Int) := by omega
    rw [hb, e1, this, Option.bind_some, e2, e3, e4, Zrz cmp f Y2 Y1 P (X ++ Q) m (by omega) (by omega) (by omega) (by omega) (by simp only [List.length_append]; omega)]
    rw [hy]; simp
theorem Y9o (cmp : Action → Action → Option Int) (X Y P Q : List Action) (a m b : Int) (h1 : 0 < X.length) (h2 : 0 < Y.length) (ha : a = (P.length : Int)) (hm : m = ((P ++ X).length : Int)) (hb : b = ((P ++ X ++ Y).length : Int)) (hl : (P ++ X ++ Y ++ Q).length ≤ big) :
  Zhg (P ++ X ++ Y ++ Q) a m b cmp = some (P ++ Y ++ X ++ Q) := by
 subst ha hm hb
 have hbig : big = 1000000 := rfl
 simp only [List.length_append] at hl
 unfold Zhg
 have e1 : IntKind.i64.wrap (((P ++ X).length : Int) - (P.length : Int)) = (X.length : Int) := by rw [wr (by simp only [List.length_append]; omega) (by simp only [List.length_append]; omega)]; simp only [List.length_append]; omega
 have e2 : IntKind.i64.wrap (((P ++ X ++ Y).length : Int) - ((P ++ X).length : Int)) = (Y.length : Int) := by rw [wr (by simp only [List.length_append]; omega) (by simp only [List.length_append]; omega)]; simp only [List.length_append]; omega
 rw [e1, e2]
 exact Zrz cmp Z0k X Y P Q _ h1 h2 (by unfold Z0k; omega) (by simp) (by simp only [List.length_append]; omega)
theorem Zi7 {β : Type} (G : Nat → Int → Int → Option β) (K : Int → Option β) (t : Nat → Bool) (lo s hi : Nat)
  (step : ∀ (f i j : Nat), lo ≤ i → i < j → j ≤ hi → G (f + 1) (i : Int) (j : Int) = bif t ((i + j) / 2) then G f (((i + j) / 2 + 1 : Nat) : Int) (j : Int) else G f (i : Int) (((i + j) / 2 : Nat) : Int))
  (stop : ∀ (f i : Nat), lo ≤ i → i ≤ hi → G (f + 1) (i : Int) (i : Int) = K (i : Int)) (ht : ∀ c, lo ≤ c → c < s → t c = true) (hf : ∀ c, s ≤ c → c < hi → t c = false) :
  ∀ (f i j : Nat), lo ≤ i → i ≤ s → s ≤ j → j ≤ hi → j - i < f → G f (i : Int) (j : Int) = K (s : Int)
 | 0, i, j, _, _, _, _, h => by omega
 | f + 1, i, j, h1, h2, h3, h4, h5 => by
  by_cases hij : i < j
  ·rw [step f i j h1 hij h4]
   by_cases hc : (i + j) / 2 < s
   ·rw [ht _ (by omega) hc, cond_true]
    exact Zi7 G K t lo s hi step stop ht hf f _ j (by omega) (by omega) h3 h4 (by omega)
   ·rw [hf _ (by omega) (by omega), cond_false]
    exact Zi7 G K t lo s hi step stop ht hf f i _ h1 h2 (by omega) (by omega) (by omega)
  ·have e1 : i = s := by omega
   have e2 : j = s := by omega
   rw [e1, e2]
   exact stop f s (by omega) (by omega)
theorem Zob (t : Nat → Bool) (lo : Nat) : ∀ (n : Nat), (∀ c d, lo ≤ c → c ≤ d → d < lo + n → t c = false → t d = false) → ∃ s, lo ≤ s ∧ s ≤ lo + n ∧ (∀ c, lo ≤ c → c < s → t c = true) ∧ ∀ c, s ≤ c → c < lo + n → t c = false
 | 0, _ => ⟨lo, Nat.le_refl _, Nat.le_refl _, fun c h1 h2 => by omega, fun c h1 h2 => by omega⟩
 | n + 1, hm => by
  obtain ⟨s, h1, h2, h3, h4⟩ := Zob t lo n fun c d a b e f => hm c d a b (by omega) f
  by_cases hs : s < lo + n
  ·refine ⟨s, h1, by omega, h3, fun c a b => ?_⟩
   by_cases hc : c < lo + n
   ·exact h4 c a hc
   ·exact hm s c h1 a b (h4 s (Nat.le_refl _) hs)
  ·have : s = lo + n := by omega
   subst this
   cases ht : t (lo + n)
   ·exact ⟨lo + n, h1, by omega, h3, fun c a b => by rw [show c = lo + n by omega, ht]⟩
   ·refine ⟨lo + n + 1, by omega, by omega, fun c a b => ?_, fun c a b => by omega⟩
    by_cases hc : c < lo + n
    ·exact h3 c a hc
    ·have : c = lo + n := by omega
     rw [this, ht]
end Go.Proofs.YtknpgojdkobgjaaGreat.W
namespace Go.Proofs.YtknpgojdkobgjaaGreat.W
open Go Go.Wb
section sym
variable (lt : Action → Action → Bool) (cmp : Action → Action → Option Int)
def Z6e : Prop := ∀ x y, ∃ c, cmp x y = some c ∧ decide (c < 0) = lt x y
variable {lt cmp}
theorem Y2r (e : Nat) : ∀ (Y P Q : List Action) (x : Action) (k f : Nat), k = P.length → k + Y.length + 1 = e → Y.length < f → (P ++ x :: (Y ++ Q)).length ≤ big →
  Z9n (e : Int) f (P ++ x :: (Y ++ Q)) (k : Int) = some (P ++ Y ++ x :: Q)
 | [], P, Q, x, k, f, h1, h2, h3, h4 => by
  obtain ⟨f, rfl⟩ : ∃ k, f = k + 1 := ⟨f - 1, by simp at h3; omega⟩
  have hbig : big = 1000000 := rfl
  simp only [List.length_append, List.length_cons, List.length_nil] at h2 h4
  rw [Z9n, wr (by omega) (by omega), decide_eq_false (by omega), cond_false]
  simp
 | y :: Y, P, Q, x, k, f, h1, h2, h3, h4 => by
  obtain ⟨f, rfl⟩ : ∃ k, f = k + 1 := ⟨f - 1, by simp at h3; omega⟩
  have hbig : big = 1000000 := rfl
  simp only [List.length_append, List.length_cons] at h2 h3 h4
  have ek : IntKind.i64.wrap ((k : Int) + 1) = ((k + 1 : Nat) : Int) := by rw [wr (by omega) (by omega)]; omega
  have e1 : P ++ x :: (y :: Y ++ Q) = (P ++ [x]) ++ y :: (Y ++ Q) := by simp
  have e2 : (P ++ [y]) ++ y :: (Y ++ Q) = P ++ y :: (y :: (Y ++ Q)) := by simp
  have g1 : lget (P ++ x :: (y :: Y ++ Q)) ((k + 1 : Nat) : Int) = some y := by rw [e1]; exact Z5x _ _ _ _ (by simp; omega)
  have g2 : lget (P ++ x :: (y :: Y ++ Q)) (k : Int) = some x := Z5x _ _ _ _ (by omega)
  have s1 : List.set (P ++ x :: (y :: Y ++ Q)) ((k : Int)).toNat y = (P ++ [y]) ++ y :: (Y ++ Q) := by rw [Int.toNat_natCast, Z8d _ _ _ _ _ h1]; simp
  have g3 : lget ((P ++ [y]) ++ y :: (Y ++ Q)) ((k + 1 : Nat) : Int) = some y := Z5x _ _ _ _ (by simp; omega)
  have s2 : List.set ((P ++ [y]) ++ y :: (Y ++ Q)) (((k + 1 : Nat) : Int)).toNat x = (P ++ [y]) ++ x :: (Y ++ Q) := by rw [Int.toNat_natCast, Z8d _ _ _ _ _ (by simp; omega)]
  rw [Z9n, wr (n := (e : Int) - 1) (by omega) (by omega), decide_eq_true (by omega), cond_true, ek, g1, Option.bind_some, g2, Option.bind_some, Option.bind_some, s1, g3, Option.bind_some, s2,
   Y2r e Y (P ++ [y]) Q x (k + 1) f (by simp; omega) (by omega) (by omega) (by simp only [List.length_append, List.length_cons, List.length_nil]; omega)]
  simp
theorem Y13 (s : Nat) : ∀ (R P Q : List Action) (x : Action) (k f : Nat), k = s + R.length → P.length = s → R.length < f → (P ++ R.reverse ++ x :: Q).length ≤ big →
  Z9g (s : Int) f (P ++ R.reverse ++ x :: Q) (k : Int) = some (P ++ x :: (R.reverse ++ Q))
 | [], P, Q, x, k, f, h1, h2, h3, h4 => by
  obtain ⟨f, rfl⟩ : ∃ k, f = k + 1 := ⟨f - 1, by simp at h3; omega⟩
  rw [Z9g, decide_eq_false (by simp at h1; omega), cond_false]
  simp
 | y :: R, P, Q, x, k, f, h1, h2, h3, h4 => by
  obtain ⟨f, rfl⟩ : ∃ k, f = k + 1 := ⟨f - 1, by simp at h3; omega⟩
  have hbig : big = 1000000 := rfl
  simp only [List.length_append, List.length_cons, List.length_reverse] at h1 h3 h4
  have ek : IntKind.i64.wrap ((k : Int) - 1) = ((k - 1 : Nat) : Int) := by rw [wr (by omega) (by omega)]; omega
  have e1 : P ++ (y :: R).reverse ++ x :: Q = (P ++ R.reverse) ++ y :: (x :: Q) := by simp
  have e1' : P ++ (y :: R).reverse ++ x :: Q = (P ++ R.reverse ++ [y]) ++ x :: Q := by simp
  have g1 : lget (P ++ (y :: R).reverse ++ x :: Q) ((k - 1 : Nat) : Int) = some y := by rw [e1]; exact Z5x _ _ _ _ (by simp; omega)
  have g2 : lget (P ++ (y :: R).reverse ++ x :: Q) (k : Int) = some x := by rw [e1']; exact Z5x _ _ _ _ (by simp; omega)
  have s1 : List.set (P ++ (y :: R).reverse ++ x :: Q) ((k : Int)).toNat y = (P ++ R.reverse) ++ y :: (y :: Q) := by rw [e1', Int.toNat_natCast, Z8d _ _ _ _ _ (by simp; omega)]; simp
  have g3 : lget ((P ++ R.reverse) ++ y :: (y :: Q)) ((k - 1 : Nat) : Int) = some y := Z5x _ _ _ _ (by simp; omega)
  have s2 : List.set ((P ++ R.reverse) ++ y :: (y :: Q)) (((k - 1 : Nat) : Int)).toNat x = P ++ R.reverse ++ x :: (y :: Q) := by rw [Int.toNat_natCast, Z8d _ _ _ _ _ (by simp; omega)]
  rw [Z9g, decide_eq_true (by omega), cond_true, ek, g1, Option.bind_some, g2, Option.bind_some, Option.bind_some, s1, g3, Option.bind_some, s2,
   Y13 s R P (y :: Q) x (k - 1) f (by omega) h2 (by omega) (by simp only [List.length_append, List.length_cons, List.length_reverse]; omega)]
  simp
theorem Zmp {α : Type} (P X Q : List α) (c : Nat) (h1 : P.length ≤ c) (h2 : c < P.length + X.length) : lget (P ++ X ++ Q) (c : Int) = some (X[c - P.length]'(by omega)) := by
 rw [Zk1, List.append_assoc, List.getElem?_append_right h1, List.getElem?_append_left (by omega), List.getElem?_eq_getElem]
theorem Ykm {l : List Action} (h : Z18 lt l) {i j : Nat} (hi : i < l.length) (hj : j < l.length) (hij : i < j) : lt l[j] l[i] = false := (List.pairwise_iff_getElem.1 h) i j hi hj hij
theorem Zao (hs : Swo lt) {l : List Action} (h : Z18 lt l) {i j : Nat} (hi : i < l.length) (hj : j < l.length) (hij : i ≤ j) : lt l[j] l[i] = false := by
 rcases Nat.lt_or_eq_of_le hij with h1 | h1
 ·exact Ykm h hi hj h1
 ·subst h1
  have := Z8f hs l[i]
  unfold eqv at this
  simpa using this
theorem Zo7 {A B : List Action} (h : Z18 lt (A ++ B)) : Z18 lt A := (List.pairwise_append.1 h).1
theorem Zoa {A B : List Action} (h : Z18 lt (A ++ B)) : Z18 lt B := (List.pairwise_append.1 h).2.1
theorem Yhl (hs : Swo lt) (hc : Z6e lt cmp) (x : Action) (Y P Q : List Action) (hY : Z18 lt Y) (hl : (P ++ x :: (Y ++ Q)).length ≤ big) :
  Z9x (P ++ x :: (Y ++ Q)) (P.length : Int) cmp ((((P.length + 1 + Y.length : Nat) : Int) - ((P.length + 1 : Nat) : Int)).toNat + 1) ((P.length + 1 : Nat) : Int) ((P.length + 1 + Y.length : Nat) : Int) = some (P ++ srt lt (x :: Y) ++ Q) := by
 have hbig : big = 1000000 := rfl
 simp only [List.length_append, List.length_cons] at hl
 have eD : P ++ x :: (Y ++ Q) = (P ++ [x]) ++ Y ++ Q := by simp
 let t : Nat → Bool := fun c => if h : c - (P.length + 1) < Y.length then lt Y[c - (P.length + 1)] x else false
 have htv : ∀ c (h : c - (P.length + 1) < Y.length), t c = lt Y[c - (P.length + 1)] x := fun c h => by simp only [t]; rw [dif_pos h]
 obtain ⟨s, s1, s2, s3, s4⟩ := Zob t (P.length + 1) Y.length fun c d h1 h2 h3 h4 => by
  rw [htv c (by omega)] at h4
  rw [htv d (by omega)]
  exact hs.neg _ _ _ (Zao hs hY (by omega) (by omega) (by omega)) h4
 have key := Zi7 (Z9x (P ++ x :: (Y ++ Q)) (P.length : Int) cmp) (fun i => Z9n i ((((IntKind.i64.wrap (i - 1)) : Int) - (P.length : Int)).toNat + 1) (P ++ x :: (Y ++ Q)) (P.length : Int)) t (P.length + 1) s (P.length + 1 + Y.length)
  (fun f i j h1 h2 h3 => by
   obtain ⟨c, hc1, hc2⟩ := hc (Y[(i + j) / 2 - (P.length + 1)]'(by omega)) x
   have gx : lget (P ++ x :: (Y ++ Q)) (P.length : Int) = some x := Z5x _ _ _ _ rfl
   have gy : lget (P ++ x :: (Y ++ Q)) (((i + j) / 2 : Nat) : Int) = some (Y[(i + j) / 2 - (P.length + 1)]'(by omega)) := by
    rw [eD, Zmp (P ++ [x]) Y Q _ (by simp; omega) (by simp; omega)]
    simp
   have e1 : IntKind.i64.wrap ((((i + j) / 2 : Nat) : Int) + 1) = (((i + j) / 2 + 1 : Nat) : Int) := by rw [wr (by omega) (by omega)]; omega
   rw [Z9x, decide_eq_true (by omega), cond_true, Zna _ (i + j) (by omega) (by omega), Option.bind_some, Zad _ (by omega), gy, Option.bind_some, gx, Option.bind_some, hc1, Option.bind_some, hc2, htv _ (by omega), e1])
  (fun f i h1 h2 => by rw [Z9x, decide_eq_false (by omega), cond_false]) s3 (fun c h1 h2 => s4 c h1 h2)
 rw [key _ _ _ (Nat.le_refl _) s1 s2 (Nat.le_refl _) (by omega)]
 have hy : Y = Y.take (s - (P.length + 1)) ++ Y.drop (s - (P.length + 1)) := (List.take_append_drop ..).symm
 have l1 : (Y.take (s - (P.length + 1))).length = s - (P.length + 1) := by simp; omega
 have hm := Y2r s (Y.take (s - (P.length + 1))) P (Y.drop (s - (P.length + 1)) ++ Q) x P.length ((((IntKind.i64.wrap ((s : Int) - 1)) : Int) - (P.length : Int)).toNat + 1) rfl (by omega) (by rw [wr (by omega) (by omega)]; omega) (by simp only [List.length_append, List.length_cons, List.length_drop]; omega)
 rw [← List.append_assoc, ← hy] at hm
 show Z9n (s : Int) _ _ _ = _
 rw [hm]
 have h1 : ∀ y ∈ Y.take (s - (P.length + 1)), lt y x = true := fun y hy1 => by
  obtain ⟨i, hi, rfl⟩ := List.getElem_of_mem hy1
  rw [l1] at hi
  have := s3 (i + (P.length + 1)) (by omega) (by omega)
  rw [htv _ (by omega)] at this
  simpa using this
 have h2 : ∀ y ∈ Y.drop (s - (P.length + 1)), lt y x = false := fun y hy1 => by
  obtain ⟨i, hi, rfl⟩ := List.getElem_of_mem hy1
  rw [List.length_drop] at hi
  have := s4 (s + i) (by omega) (by omega)
  rw [htv _ (by omega)] at this
  rw [List.getElem_drop]
  have e : s + i - (P.length + 1) = s - (P.length + 1) + i := by omega
  simpa [e] using this
 have hY' := hY
 rw [hy] at hY'
 have h3 := Zrp hs (X1 := []) (X2 := [x]) (Y1 := Y.take (s - (P.length + 1))) (Y2 := Y.drop (s - (P.length + 1))) (by simp [Z18]) hY' (by simp) (fun y hy1 u hu => by rw [show u = x by simpa using hu]; exact h1 y hy1)
 simp only [List.nil_append, ← hy] at h3
 have h4 : srt lt ([x] ++ Y.drop (s - (P.length + 1))) = [x] ++ Y.drop (s - (P.length + 1)) := Zhf hs (by
  unfold Z18
  rw [List.pairwise_append]
  exact ⟨by simp, (Zoa hY'), fun u hu v hv => by rw [show u = x by simpa using hu]; exact h2 v hv⟩)
 rw [h4, Zhf hs (Zo7 hY')] at h3
 rw [show x :: Y = [x] ++ Y from rfl, h3]
 simp
theorem Y74 (hs : Swo lt) (hc : Z6e lt cmp) (x : Action) (X P Q : List Action) (hX : Z18 lt X) (hl : (P ++ X ++ x :: Q).length ≤ big) :
  Z9t (P ++ X ++ x :: Q) ((P.length + X.length : Nat) : Int) cmp ((((P.length + X.length : Nat) : Int) - (P.length : Int)).toNat + 1) (P.length : Int) ((P.length + X.length : Nat) : Int) = some (P ++ srt lt (X ++ [x]) ++ Q) := by
 have hbig : big = 1000000 := rfl
 simp only [List.length_append, List.length_cons] at hl
 let t : Nat → Bool := fun c => if h : c - P.length < X.length then !lt x X[c - P.length] else false
 have htv : ∀ c (h : c - P.length < X.length), t c = !lt x X[c - P.length] := fun c h => by simp only [t]; rw [dif_pos h]
 obtain ⟨s, s1, s2, s3, s4⟩ := Zob t P.length X.length fun c d h1 h2 h3 h4 => by
  rw [htv c (by omega)] at h4
  rw [htv d (by omega)]
  simp only [Bool.not_eq_false'] at h4 ⊢
  cases hd : lt x X[d - P.length]
  ·have := hs.neg _ _ _ hd (Zao hs hX (i := c - P.length) (j := d - P.length) (by omega) (by omega) (by omega))
   rw [this] at h4; cases h4
  ·rfl
 have key := Zi7 (Z9t (P ++ X ++ x :: Q) ((P.length + X.length : Nat) : Int) cmp) (fun i => Z9g i (((((P.length + X.length : Nat) : Int) : Int) - i).toNat + 1) (P ++ X ++ x :: Q) ((P.length + X.length : Nat) : Int)) t P.length s (P.length + X.length)
  (fun f i j h1 h2 h3 => by
   obtain ⟨c, hc1, hc2⟩ := hc x (X[(i + j) / 2 - P.length]'(by omega))
   have gx : lget (P ++ X ++ x :: Q) ((P.length + X.length : Nat) : Int) = some x := Z5x _ _ _ _ (by simp)
   have gy : lget (P ++ X ++ x :: Q) (((i + j) / 2 : Nat) : Int) = some (X[(i + j) / 2 - P.length]'(by omega)) := Zmp P X (x :: Q) _ (by omega) (by omega)
   have e1 : IntKind.i64.wrap ((((i + j) / 2 : Nat) : Int) + 1) = (((i + j) / 2 + 1 : Nat) : Int) := by rw [wr (by omega) (by omega)]; omega
   rw [Z9t, decide_eq_true (by omega), cond_true, Zna _ (i + j) (by omega) (by omega), Option.bind_some, Zad _ (by omega), gx, Option.bind_some, gy, Option.bind_some, hc1, Option.bind_some, hc2, htv _ (by omega), e1])
  (fun f i h1 h2 => by rw [Z9t, decide_eq_false (by omega), cond_false]) s3 (fun c h1 h2 => s4 c h1 h2)
 rw [key _ _ _ (Nat.le_refl _) s1 s2 (Nat.le_refl _) (by omega)]
 have hx : X = X.take (s - P.length) ++ X.drop (s - P.length) := (List.take_append_drop ..).symm
 have l1 : (X.take (s - P.length)).length = s - P.length := by simp; omega
 have hm := Y13 s (X.drop (s - P.length)).reverse (P ++ X.take (s - P.length)) Q x (P.length + X.length) (((((P.length + X.length : Nat) : Int) : Int) - (s : Int)).toNat + 1) (by simp; omega) (by simp; omega) (by simp; omega) (by simp only [List.length_append, List.length_cons, List.length_reverse, List.length_drop, List.length_take]; omega)
 rw [List.reverse_reverse, List.append_assoc P, ← hx] at hm
 show Z9g (s : Int) _ _ _ = _
 rw [hm]
 have h1 : ∀ u ∈ X.take (s - P.length), lt x u = false := fun u hu => by
  obtain ⟨i, hi, rfl⟩ := List.getElem_of_mem hu
  rw [l1] at hi
  have := s3 (i + P.length) (by omega) (by omega)
  rw [htv _ (by omega)] at this
  simpa using this
 have h2 : ∀ u ∈ X.drop (s - P.length), lt x u = true := fun u hu => by
  obtain ⟨i, hi, rfl⟩ := List.getElem_of_mem hu
  rw [List.length_drop] at hi
  have := s4 (s + i) (by omega) (by omega)
  rw [htv _ (by omega)] at this
  rw [List.getElem_drop]
  have e : s + i - P.length = s - P.length + i := by omega
  simpa [e] using this
 have hX' := hX
 rw [hx] at hX'
 have h3 := Zrp hs (X1 := X.take (s - P.length)) (X2 := X.drop (s - P.length)) (Y1 := [x]) (Y2 := []) hX' (by simp [Z18]) (by simp) (fun y hy1 u hu => by rw [show y = x by simpa using hy1]; exact h2 u hu)
 simp only [List.append_nil, ← hx] at h3
 have h4 : srt lt (X.take (s - P.length) ++ [x]) = X.take (s - P.length) ++ [x] := Zhf hs (by
  unfold Z18
  rw [List.pairwise_append]
  exact ⟨(Zo7 hX'), by simp, fun u hu v hv => by rw [show v = x by simpa using hv]; exact h1 u hu⟩)
 rw [h4, Zhf hs (Zoa hX')] at h3
 rw [h3]
 simp
end sym
end Go.Proofs.YtknpgojdkobgjaaGreat.W
namespace Go.Proofs.YtknpgojdkobgjaaGreat.W
open Go Go.Wb
section sym
variable {lt : Action → Action → Bool} {cmp : Action → Action → Option Int}
def Zod (lt : Action → Action → Bool) (cmp : Action → Action → Option Int) (f : Nat) (R : List Action → Int → Int → Int → (Action → Action → Option Int) → Option (List Action)) : Prop :=
 ∀ (P X Y Q : List Action) (a m b : Int), a = (P.length : Int) → m = (P.length : Int) + (X.length : Int) → b = (P.length : Int) + (X.length : Int) + (Y.length : Int) → 0 < X.length → 0 < Y.length → X.length + Y.length ≤ f → Z18 lt X → Z18 lt Y → (P ++ X ++ Y ++ Q).length ≤ big →
  R (P ++ X ++ Y ++ Q) a m b cmp = some (P ++ srt lt (X ++ Y) ++ Q)
theorem Zz3 (hs : Swo lt) {X Y : List Action} (hX : Z18 lt X) (hY : Z18 lt Y) (h : ¬ (0 < X.length ∧ 0 < Y.length)) : srt lt (X ++ Y) = X ++ Y := by
 cases X with
 | nil => exact Zhf hs hY
 | cons x X =>
  cases Y with
  | nil => rw [List.append_nil]; exact Zhf hs hX
  | cons y Y => exact absurd ⟨by simp, by simp⟩ h
theorem Yib (hs : Swo lt) {f : Nat} {R : List Action → Int → Int → Int → (Action → Action → Option Int) → Option (List Action)} (hR : Zod lt cmp f R) (P X2 Y2 Q : List Action) (mid : Nat) (m start b : Int)
  (h1 : mid = P.length) (h2 : (mid : Int) + m - start = (P.length : Int) + (X2.length : Int)) (h3 : b = (P.length : Int) + (X2.length : Int) + (Y2.length : Int)) (hm : 0 ≤ m ∧ m ≤ big) (hst : 0 ≤ start ∧ start ≤ big) (hf : X2.length + Y2.length ≤ f) (hX : Z18 lt X2) (hY : Z18 lt Y2) (hl : (P ++ X2 ++ Y2 ++ Q).length ≤ big) :
  Zg3 (BitVec.ofNat 64 mid) m start b R cmp (P ++ X2 ++ Y2 ++ Q) = some (P ++ srt lt (X2 ++ Y2) ++ Q) := by
 have hbig : big = 1000000 := rfl
 have hl' := hl
 simp only [List.length_append] at hl'
 unfold Zg3
 rw [Zad mid (by omega)]
 have e1 : IntKind.i64.wrap (IntKind.i64.wrap ((mid : Int) + m) - start) = (P.length : Int) + (X2.length : Int) := by
  rw [wr (n := (mid : Int) + m) (by omega) (by omega), wr (by omega) (by omega), h2]
 rw [e1]
 by_cases hc : 0 < X2.length ∧ 0 < Y2.length
 ·rw [decide_eq_true (by omega), decide_eq_true (by omega), Bool.and_true, cond_true, hR P X2 Y2 Q _ _ _ (by omega) rfl h3 hc.1 hc.2 hf hX hY hl]
  rfl
 ·have : (decide ((mid : Int) < (P.length : Int) + (X2.length : Int)) && decide ((P.length : Int) + (X2.length : Int) < b)) = false := by
   rw [Bool.and_eq_false_iff, decide_eq_false_iff_not, decide_eq_false_iff_not]
   by_cases h : 0 < X2.length
   ·exact .inr (fun h' => hc ⟨h, by omega⟩)
   ·exact .inl (by omega)
  rw [this, cond_false, Zz3 hs hX hY hc]
  simp
theorem Yif (hs : Swo lt) {f : Nat} {R : List Action → Int → Int → Int → (Action → Action → Option Int) → Option (List Action)} (hR : Zod lt cmp f R) (P X1 Y1 X2 Y2 Q : List Action) (mid : Nat) (a m start b : Int)
  (ha : a = (P.length : Int)) (h1 : mid = P.length + X1.length + Y1.length) (hs1 : start = (P.length : Int) + (X1.length : Int)) (hm : m = start + (X2.length : Int)) (h3 : b = (mid : Int) + (X2.length : Int) + (Y2.length : Int))
  (hf1 : X1.length + Y1.length ≤ f) (hf2 : X2.length + Y2.length ≤ f) (hX1 : Z18 lt X1) (hY1 : Z18 lt Y1) (hX2 : Z18 lt X2) (hY2 : Z18 lt Y2) (hl : (P ++ X1 ++ Y1 ++ X2 ++ Y2 ++ Q).length ≤ big) :
  Zbf a start (BitVec.ofNat 64 mid) R cmp m b (P ++ X1 ++ Y1 ++ X2 ++ Y2 ++ Q) = some (P ++ srt lt (X1 ++ Y1) ++ srt lt (X2 ++ Y2) ++ Q) := by
 have hbig : big = 1000000 := rfl
 have hl' := hl
 simp only [List.length_append] at hl'
 have hlen : (srt lt (X1 ++ Y1)).length = X1.length + Y1.length := by rw [Z2y hs]; simp
 have last := Yib hs hR (P ++ srt lt (X1 ++ Y1)) X2 Y2 Q mid m start b (by simp only [List.length_append, hlen]; omega) (by simp only [List.length_append, hlen]; omega) (by simp only [List.length_append, hlen]; omega) (by omega) (by omega) hf2 hX2 hY2 (by simp only [List.length_append, hlen]; omega)
 unfold Zbf
 rw [Zad mid (by omega)]
 by_cases hc : 0 < X1.length ∧ 0 < Y1.length
 ·have hr := hR P X1 Y1 (X2 ++ Y2 ++ Q) a start (mid : Int) ha hs1 (by omega) hc.1 hc.2 hf1 hX1 hY1 (by simp only [List.length_append]; omega)
  have e : P ++ X1 ++ Y1 ++ X2 ++ Y2 ++ Q = P ++ X1 ++ Y1 ++ (X2 ++ Y2 ++ Q) := by simp
  have e' : P ++ srt lt (X1 ++ Y1) ++ (X2 ++ Y2 ++ Q) = P ++ srt lt (X1 ++ Y1) ++ X2 ++ Y2 ++ Q := by simp
  rw [decide_eq_true (by omega), decide_eq_true (by omega), Bool.and_true, cond_true, e, hr, Option.bind_some, e', last]
 ·have hd : (decide (a < start) && decide (start < (mid : Int))) = false := by
   rw [Bool.and_eq_false_iff, decide_eq_false_iff_not, decide_eq_false_iff_not]
   by_cases h : 0 < X1.length
   ·exact .inr (fun h' => hc ⟨h, by omega⟩)
   ·exact .inl (by omega)
  rw [hd, cond_false]
  rw [Zz3 hs hX1 hY1 hc] at last ⊢
  have e : P ++ X1 ++ Y1 ++ X2 ++ Y2 ++ Q = P ++ (X1 ++ Y1) ++ X2 ++ Y2 ++ Q := by simp
  rw [e, last]
theorem Zzf (hs : Swo lt) (hc : Z6e lt cmp) {f : Nat} {R : List Action → Int → Int → Int → (Action → Action → Option Int) → Option (List Action)} (hR : Zod lt cmp f R) (P X Y Q : List Action) (mid lo hi : Nat)
  (hmid : mid = (P.length + (P.length + X.length + Y.length)) / 2) (h2 : 2 ≤ X.length) (h2' : 2 ≤ Y.length) (hf : X.length + Y.length ≤ f + 1) (hX : Z18 lt X) (hY : Z18 lt Y) (hl : (P ++ X ++ Y ++ Q).length ≤ big)
  (hlh : (mid < P.length + X.length ∧ lo + (P.length + X.length + Y.length) = mid + (P.length + X.length) ∧ hi = mid) ∨ (P.length + X.length ≤ mid ∧ lo = P.length ∧ hi = P.length + X.length)) :
  Zhx (P ++ X ++ Y ++ Q) (BitVec.ofNat 64 mid) ((P.length : Int) + (X.length : Int)) cmp (P.length : Int) R ((P.length : Int) + (X.length : Int) + (Y.length : Int)) (lo : Int) (hi : Int) = some (P ++ srt lt (X ++ Y) ++ Q) := by
 have hbig : big = 1000000 := rfl
 have hl' := hl
 simp only [List.length_append] at hl'
 have hin : ∀ c, lo ≤ c → c < hi → P.length ≤ c ∧ c < P.length + X.length ∧ P.length + X.length ≤ mid + (P.length + X.length) - 1 - c ∧ mid + (P.length + X.length) - 1 - c < P.length + X.length + Y.length := fun c a b => by rcases hlh with h | h <;> omega
 let t : Nat → Bool := fun c => if h : (c - P.length < X.length ∧ (mid + (P.length + X.length) - 1 - c) - (P.length + X.length) < Y.length) then !lt (Y[(mid + (P.length + X.length) - 1 - c) - (P.length + X.length)]'h.2) (X[c - P.length]'h.1) else false
 have htv : ∀ c (h1 : c - P.length < X.length) (h2 : (mid + (P.length + X.length) - 1 - c) - (P.length + X.length) < Y.length), t c = !lt (Y[(mid + (P.length + X.length) - 1 - c) - (P.length + X.length)]'h2) (X[c - P.length]'h1) := fun c h1 h2 => by simp only [t]; rw [dif_pos ⟨h1, h2⟩]
 have hlohi : lo ≤ hi := by rcases hlh with h | h <;> omega
 obtain ⟨s, s1, s2, s3, s4⟩ := Zob t lo (hi - lo) fun c d h1 h2 h3 h4 => by
  have a1 := hin c h1 (by omega)
  have a2 := hin d (by omega) (by omega)
  rw [htv c (by omega) (by omega)] at h4
  rw [htv d (by omega) (by omega)]
  simp only [Bool.not_eq_false'] at h4 ⊢
  cases hd : lt (Y[(mid + (P.length + X.length) - 1 - d) - (P.length + X.length)]'(by omega)) (X[d - P.length]'(by omega))
  ·have b1 := Zao hs hX (i := c - P.length) (j := d - P.length) (by omega) (by omega) (by omega)
   have b2 := Zao hs hY (i := (mid + (P.length + X.length) - 1 - d) - (P.length + X.length)) (j := (mid + (P.length + X.length) - 1 - c) - (P.length + X.length)) (by omega) (by omega) (by omega)
   rw [hs.neg _ _ _ (hs.neg _ _ _ b2 hd) b1] at h4; cases h4
  ·rfl
 have e0 : lo + (hi - lo) = hi := by omega
 rw [e0] at s2 s4
 unfold Zhx
 have key := Zi7 (Zaj (P ++ X ++ Y ++ Q) (BitVec.ofNat 64 mid) ((P.length : Int) + (X.length : Int)) cmp (P.length : Int) R ((P.length : Int) + (X.length : Int) + (Y.length : Int)))
  (fun start => bif ((decide (start < ((P.length : Int) + (X.length : Int)))) && (decide (((P.length : Int) + (X.length : Int)) < (IntKind.i64.wrap ((IntKind.i64.wrap ((IntKind.i64.wrap ((BitVec.ofNat 64 mid).toNat : Int)) + ((P.length : Int) + (X.length : Int)))) - start))))) then (Zhg (P ++ X ++ Y ++ Q) start ((P.length : Int) + (X.length : Int)) (IntKind.i64.wrap ((IntKind.i64.wrap ((IntKind.i64.wrap ((BitVec.ofNat 64 mid).toNat : Int)) + ((P.length : Int) + (X.length : Int)))) - start)) cmp).bind fun l59 => Zbf (P.length : Int) start (BitVec.ofNat 64 mid) R cmp ((P.length : Int) + (X.length : Int)) ((P.length : Int) + (X.length : Int) + (Y.length : Int)) l59 else Zbf (P.length : Int) start (BitVec.ofNat 64 mid) R cmp ((P.length : Int) + (X.length : Int)) ((P.length : Int) + (X.length : Int) + (Y.length : Int)) (P ++ X ++ Y ++ Q))
  t lo s hi
  (fun f i j h1 h2 h3 => by
   have a1 := hin ((i + j) / 2) (by omega) (by omega)
   obtain ⟨c, hc1, hc2⟩ := hc (Y[(mid + (P.length + X.length) - 1 - (i + j) / 2) - (P.length + X.length)]'(by omega)) (X[(i + j) / 2 - P.length]'(by omega))
   have gx : lget (P ++ X ++ Y ++ Q) (((i + j) / 2 : Nat) : Int) = some (X[(i + j) / 2 - P.length]'(by omega)) := by
    rw [List.append_assoc (P ++ X)]
    exact Zmp P X (Y ++ Q) _ a1.1 a1.2.1
   have ep : IntKind.i64.wrap (IntKind.i64.wrap (IntKind.i64.wrap ((mid : Int) + ((P.length : Int) + (X.length : Int))) - 1) - (((i + j) / 2 : Nat) : Int)) = ((mid + (P.length + X.length) - 1 - (i + j) / 2 : Nat) : Int) := by
    rw [wr (n := (mid : Int) + ((P.length : Int) + (X.length : Int))) (by omega) (by omega), wr (n := (mid : Int) + ((P.length : Int) + (X.length : Int)) - 1) (by omega) (by omega), wr (by omega) (by omega)]; omega
   have gy : lget (P ++ X ++ Y ++ Q) ((mid + (P.length + X.length) - 1 - (i + j) / 2 : Nat) : Int) = some (Y[(mid + (P.length + X.length) - 1 - (i + j) / 2) - (P.length + X.length)]'(by omega)) := by
    rw [Zmp (P ++ X) Y Q _ (by simp; omega) (by simp; omega)]
    simp
   have e1 : IntKind.i64.wrap ((((i + j) / 2 : Nat) : Int) + 1) = (((i + j) / 2 + 1 : Nat) : Int) := by rw [wr (by omega) (by omega)]; omega
   rw [Zaj, decide_eq_true (by omega), cond_true, Zna _ (i + j) (by omega) (by omega), Option.bind_some, Zad mid (by omega), Zad ((i + j) / 2) (by omega), ep, gy, Option.bind_some, gx, Option.bind_some, hc1, Option.bind_some, hc2, htv _ (by omega) (by omega), e1])
  (fun f i h1 h2 => by rw [Zaj, decide_eq_false (by omega), cond_false]) s3 (fun c h1 h2 => s4 c h1 h2)
 rw [key _ _ _ (Nat.le_refl _) s1 s2 (Nat.le_refl _) (by omega)]
 have hsm : P.length ≤ s ∧ s ≤ P.length + X.length ∧ s ≤ mid ∧ mid + X.length ≤ s + (X.length + Y.length) := by rcases hlh with h | h <;> omega
 have hx : X = X.take (s - P.length) ++ X.drop (s - P.length) := (List.take_append_drop ..).symm
 have hy : Y = Y.take (mid - s) ++ Y.drop (mid - s) := (List.take_append_drop ..).symm
 have l1 : (X.take (s - P.length)).length = s - P.length := by simp; omega
 have l2 : (X.drop (s - P.length)).length = P.length + X.length - s := by simp; omega
 have l3 : (Y.take (mid - s)).length = mid - s := by simp; omega
 have l4 : (Y.drop (mid - s)).length = Y.length - (mid - s) := by simp
 have hX' := hX
 rw [hx] at hX'
 have hY' := hY
 rw [hy] at hY'
 have hx1 : ∀ x ∈ X.take (s - P.length), ∀ y ∈ Y.drop (mid - s), lt y x = false := fun x hxm y hym => by
  obtain ⟨i, hii, rfl⟩ := List.getElem_of_mem hxm
  obtain ⟨j, hj, rfl⟩ := List.getElem_of_mem hym
  rw [l1] at hii
  rw [l4] at hj
  have hc' : lo ≤ s - 1 := by rcases hlh with h | h <;> omega
  have a1 := hin (s - 1) hc' (by omega)
  have := s3 (s - 1) hc' (by omega)
  rw [htv _ (by omega) (by omega), Bool.not_eq_true'] at this
  rw [List.getElem_drop, List.getElem_take]
  have b1 := Zao hs hX (i := i) (j := s - 1 - P.length) (by omega) (by omega) (by omega)
  have b2 := Zao hs hY (i := (mid + (P.length + X.length) - 1 - (s - 1)) - (P.length + X.length)) (j := mid - s + j) (by omega) (by omega) (by omega)
  exact hs.neg _ _ _ (hs.neg _ _ _ b2 this) b1
 have hx2 : ∀ y ∈ Y.take (mid - s), ∀ x ∈ X.drop (s - P.length), lt y x = true := fun y hym x hxm => by
  obtain ⟨i, hii, rfl⟩ := List.getElem_of_mem hxm
  obtain ⟨j, hj, rfl⟩ := List.getElem_of_mem hym
  rw [l3] at hj
  rw [l2] at hii
  have hc' : s < hi := by rcases hlh with h | h <;> omega
  have a1 := hin s s1 hc'
  have := s4 s (Nat.le_refl _) hc'
  rw [htv _ (by omega) (by omega), Bool.not_eq_false'] at this
  rw [List.getElem_drop, List.getElem_take]
  have b1 := Zao hs hX (i := s - P.length) (j := s - P.length + i) (by omega) (by omega) (by omega)
  have b2 := Zao hs hY (i := j) (j := (mid + (P.length + X.length) - 1 - s) - (P.length + X.length)) (by omega) (by omega) (by omega)
  cases hd : lt (Y[j]'(by omega)) (X[s - P.length + i]'(by omega))
  ·rw [hs.neg _ _ _ (hs.neg _ _ _ b2 hd) b1] at this; cases this
  ·rfl
 have hsp := Zrp hs hX' hY' hx1 hx2
 rw [← hx, ← hy] at hsp
 rw [hsp]
 generalize X.take (s - P.length) = X1 at *
 generalize X.drop (s - P.length) = X2 at *
 generalize Y.take (mid - s) = Y1 at *
 generalize Y.drop (mid - s) = Y2 at *
 have last := Yif hs hR P X1 Y1 X2 Y2 Q mid (P.length : Int) ((P.length : Int) + (X.length : Int)) (s : Int) ((P.length : Int) + (X.length : Int) + (Y.length : Int)) rfl (by omega) (by omega) (by omega) (by omega) (by omega) (by omega) (Zo7 hX') (Zo7 hY') (Zoa hX') (Zoa hY') (by simp only [List.length_append]; omega)
 have ee : IntKind.i64.wrap (IntKind.i64.wrap ((mid : Int) + ((P.length : Int) + (X.length : Int))) - (s : Int)) = ((P ++ X1 ++ X2 ++ Y1).length : Int) := by
  rw [wr (n := (mid : Int) + ((P.length : Int) + (X.length : Int))) (by omega) (by omega), wr (by omega) (by omega)]; simp only [List.length_append]; omega
 have eres : P ++ srt lt (X1 ++ Y1) ++ srt lt (X2 ++ Y2) ++ Q = P ++ (srt lt (X1 ++ Y1) ++ srt lt (X2 ++ Y2)) ++ Q := by simp
 rw [eres] at last
 show (bif _ then _ else _) = _
 rw [Zad mid (by omega), ee]
 have hlen4 : (P ++ X1 ++ X2 ++ Y1).length = P.length + X1.length + X2.length + Y1.length := by simp only [List.length_append]
 by_cases hcc : 0 < X2.length ∧ 0 < Y1.length
 ·have eL : P ++ X ++ Y ++ Q = (P ++ X1) ++ X2 ++ Y1 ++ (Y2 ++ Q) := by rw [hx, hy]; simp
  have hr := Y9o cmp X2 Y1 (P ++ X1) (Y2 ++ Q) (s : Int) ((P.length : Int) + (X.length : Int)) ((P ++ X1 ++ X2 ++ Y1).length : Int) hcc.1 hcc.2 (by simp only [List.length_append]; omega) (by simp only [List.length_append]; omega) rfl (by simp only [List.length_append]; omega)
  have eR : (P ++ X1) ++ Y1 ++ X2 ++ (Y2 ++ Q) = P ++ X1 ++ Y1 ++ X2 ++ Y2 ++ Q := by simp
  rw [decide_eq_true (by omega), decide_eq_true (by omega), Bool.and_true, cond_true, eL, hr, Option.bind_some, eR, last]
 ·have hd : (decide ((s : Int) < (P.length : Int) + (X.length : Int)) && decide ((P.length : Int) + (X.length : Int) < ((P ++ X1 ++ X2 ++ Y1).length : Int))) = false := by
   rw [Bool.and_eq_false_iff, decide_eq_false_iff_not, decide_eq_false_iff_not]
   by_cases h : 0 < X2.length
   ·exact .inr (fun h' => hcc ⟨h, by omega⟩)
   ·exact .inl (by omega)
  have eL : P ++ X ++ Y ++ Q = P ++ X1 ++ Y1 ++ X2 ++ Y2 ++ Q := by
   rw [hx, hy]
   have : X2 = [] ∨ Y1 = [] := by
    rcases Nat.eq_zero_or_pos X2.length with h | h
    ·exact .inl (List.eq_nil_of_length_eq_zero h)
    ·rcases Nat.eq_zero_or_pos Y1.length with h' | h'
     ·exact .inr (List.eq_nil_of_length_eq_zero h')
     ·exact absurd ⟨h, h'⟩ hcc
   rcases this with h | h
   ·subst h; simp
   ·subst h; simp
  rw [hd, cond_false, eL, last]
theorem Zte (hs : Swo lt) (hc : Z6e lt cmp) : ∀ f, Zod lt cmp f (Zh2 f)
 | 0 => fun P X Y Q a m b _ _ _ h1 h2 h3 => by omega
 | f + 1 => by
  intro P X Y Q a m b ha hm hb h1 h2 h3 hX hY hl
  subst ha hm hb
  have hbig : big = 1000000 := rfl
  have hl' := hl
  simp only [List.length_append] at hl'
  show Zjf (Zh2 f) _ _ _ _ _ = _
  unfold Zjf
  have e1 : IntKind.i64.wrap ((P.length : Int) + (X.length : Int) - (P.length : Int)) = (X.length : Int) := by rw [wr (by omega) (by omega)]; omega
  have e2 : IntKind.i64.wrap ((P.length : Int) + (X.length : Int) + (Y.length : Int) - ((P.length : Int) + (X.length : Int))) = (Y.length : Int) := by rw [wr (by omega) (by omega)]; omega
  rw [e1, e2]
  by_cases hx1 : X.length = 1
  ·obtain ⟨x, rfl⟩ : ∃ x, X = [x] := List.length_eq_one_iff.1 hx1
   have := Yhl hs hc x Y P Q hY (by simpa using hl)
   rw [decide_eq_true (by omega), cond_true]
   have e : P ++ [x] ++ Y ++ Q = P ++ x :: (Y ++ Q) := by simp
   have e4 : (P.length : Int) + ([x].length : Int) = ((P.length + 1 : Nat) : Int) := by simp
   have e5 : ((P.length + 1 : Nat) : Int) + (Y.length : Int) = ((P.length + 1 + Y.length : Nat) : Int) := by omega
   rw [e, e4, e5, this]; rfl
  ·rw [decide_eq_false (by omega), cond_false]
   by_cases hy1 : Y.length = 1
   ·obtain ⟨y, rfl⟩ : ∃ y, Y = [y] := List.length_eq_one_iff.1 hy1
    have := Y74 hs hc y X P Q hX (by simpa using hl)
    rw [decide_eq_true (by omega), cond_true]
    have e : P ++ X ++ [y] ++ Q = P ++ X ++ y :: Q := by simp
    have e4 : (P.length : Int) + (X.length : Int) = ((P.length + X.length : Nat) : Int) := by omega
    rw [e, e4, this]
   ·rw [decide_eq_false (by omega), cond_false, Zna _ (P.length + (P.length + X.length + Y.length)) (by omega) (by omega), Option.bind_some, Zad _ (by omega)]
    by_cases hmm : (P.length + (P.length + X.length + Y.length)) / 2 < P.length + X.length
    ·rw [decide_eq_true (by omega), cond_true]
     have e3 : IntKind.i64.wrap (IntKind.i64.wrap ((((P.length + (P.length + X.length + Y.length)) / 2 : Nat) : Int) + ((P.length : Int) + (X.length : Int))) - ((P.length : Int) + (X.length : Int) + (Y.length : Int))) = (((P.length + (P.length + X.length + Y.length)) / 2 + (P.length + X.length) - (P.length + X.length + Y.length) : Nat) : Int) := by
      rw [wr (n := (((P.length + (P.length + X.length + Y.length)) / 2 : Nat) : Int) + ((P.length : Int) + (X.length : Int))) (by omega) (by omega), wr (by omega) (by omega)]; omega
     rw [e3]
     exact Zzf hs hc (Zte hs hc f) P X Y Q _ _ _ rfl (by omega) (by omega) (by omega) hX hY hl (.inl ⟨hmm, by omega, rfl⟩)
    ·rw [decide_eq_false (by omega), cond_false]
     have e4 : (P.length : Int) + (X.length : Int) = ((P.length + X.length : Nat) : Int) := by omega
     have := Zzf hs hc (Zte hs hc f) P X Y Q _ P.length (P.length + X.length) rfl (by omega) (by omega) (by omega) hX hY hl (.inr ⟨by omega, rfl, rfl⟩)
     rw [← e4] at this
     exact this
theorem Y2q (hs : Swo lt) (hc : Z6e lt cmp) (P X Y Q : List Action) (a m b : Int) (ha : a = (P.length : Int)) (hm : m = (P.length : Int) + (X.length : Int)) (hb : b = (P.length : Int) + (X.length : Int) + (Y.length : Int)) (h1 : 0 < X.length) (h2 : 0 < Y.length) (hX : Z18 lt X) (hY : Z18 lt Y) (hl : (P ++ X ++ Y ++ Q).length ≤ big) :
  Zp3 (P ++ X ++ Y ++ Q) a m b cmp = some (P ++ srt lt (X ++ Y) ++ Q) :=
 Zte hs hc Z0k P X Y Q a m b ha hm hb h1 h2 (by have hbig : big = 1000000 := rfl; simp only [List.length_append] at hl; unfold Z0k; omega) hX hY hl
end sym
end Go.Proofs.YtknpgojdkobgjaaGreat.W
namespace Go.Proofs.YtknpgojdkobgjaaGreat.W
open Go Go.Wb
section ins
variable {lt : Action → Action → Bool} {cmp : Action → Action → Option Int}
theorem Y2n (hc : Z6e lt cmp) (go : List Action → Int → Option (List Action)) (i : Int) (P : List Action) (x : Action) : ∀ (R S : List Action) (m : Nat), R.length < m → (P ++ R.reverse ++ x :: S).length ≤ big →
  Z89 (P.length : Int) cmp go i m (P ++ R.reverse ++ x :: S) ((P.length + R.length : Nat) : Int) = go (P ++ (Z1c lt x R).reverse ++ S) (IntKind.i64.wrap (i + 1))
 | [], S, m, h, _ => by
  obtain ⟨m, rfl⟩ : ∃ k, m = k + 1 := ⟨m - 1, by simp at h; omega⟩
  rw [Z89, decide_eq_false (by simp)]
  simp [opt, Z1c]
 | y :: R, S, m, h, hl => by
  have hbig : big = 1000000 := rfl
  simp only [List.length_cons, List.length_append, List.length_reverse] at h hl
  obtain ⟨m, rfl⟩ : ∃ k, m = k + 1 := ⟨m - 1, by omega⟩
  have e0 : P ++ (y :: R).reverse ++ x :: S = (P ++ R.reverse) ++ y :: (x :: S) := by simp
  have ej : IntKind.i64.wrap (((P.length + (y :: R).length : Nat) : Int) - 1) = ((P.length + R.length : Nat) : Int) := by rw [wr (by simp only [List.length_cons]; omega) (by simp only [List.length_cons]; omega)]; simp only [List.length_cons]; omega
  have g1 : ∀ a b : Action, lget ((P ++ R.reverse) ++ a :: (b :: S)) ((P.length + (y :: R).length : Nat) : Int) = some b := fun a b => by
   have : (P ++ R.reverse) ++ a :: (b :: S) = (P ++ R.reverse ++ [a]) ++ b :: S := by simp
   rw [this]; exact Z5x _ _ _ _ (by simp)
  have g0 : ∀ a b : Action, lget ((P ++ R.reverse) ++ a :: (b :: S)) ((P.length + R.length : Nat) : Int) = some a := fun a b => Z5x _ _ _ _ (by simp)
  have s1 : ∀ a b c : Action, List.set ((P ++ R.reverse) ++ a :: (b :: S)) (((P.length + (y :: R).length : Nat) : Int)).toNat c = (P ++ R.reverse) ++ a :: (c :: S) := fun a b c => by
   have : (P ++ R.reverse) ++ a :: (b :: S) = (P ++ R.reverse ++ [a]) ++ b :: S := by simp
   rw [this, Int.toNat_natCast, Z8d _ _ _ _ _ (by simp)]; simp
  have s0 : ∀ a b c : Action, List.set ((P ++ R.reverse) ++ a :: (b :: S)) (((P.length + R.length : Nat) : Int)).toNat c = (P ++ R.reverse) ++ c :: (b :: S) := fun a b c => by
   rw [Int.toNat_natCast, Z8d _ _ _ _ _ (by simp)]
  obtain ⟨c, hc1, hc2⟩ := hc x y
  rw [e0, Z89, decide_eq_true (by simp only [List.length_cons]; omega), Z7o, g1, Option.bind_some, Z7o, ej, g0, Option.bind_some, Z7o, hc1, Option.bind_some, Bool.true_and, hc2, Z1c]
  cases lt x y
  ·rw [cond_false, cond_false]
   simp
  ·rw [cond_true, cond_true, Option.bind_some, Option.bind_some, Option.bind_some, s1, g0, Option.bind_some, s0, Y2n hc go i P x R (y :: S) m (by omega) (by simp only [List.length_append, List.length_cons, List.length_reverse]; omega)]
   simp
theorem Zt0 (x : Action) (R : List Action) : (Z1c lt x R).length = R.length + 1 := by
 induction R with
 | nil => rfl
 | cons y R ih => rw [Z1c]; cases lt x y <;> simp [ih]
theorem Y1l (hc : Z6e lt cmp) (P Q : List Action) : ∀ (T R : List Action) (m : Nat), T.length < m → (P ++ R.reverse ++ T ++ Q).length ≤ big →
  Z6t ((P.length + R.length + T.length : Nat) : Int) (P.length : Int) cmp m (P ++ R.reverse ++ T ++ Q) ((P.length + R.length : Nat) : Int) = some (P ++ (T.foldl (fun R x => Z1c lt x R) R).reverse ++ Q)
 | [], R, m, h, _ => by
  obtain ⟨m, rfl⟩ : ∃ k, m = k + 1 := ⟨m - 1, by simp at h; omega⟩
  rw [Z6t, decide_eq_false (by simp), cond_false]
  simp
 | x :: T, R, m, h, h2 => by
  have hbig : big = 1000000 := rfl
  simp only [List.length_cons, List.length_append, List.length_reverse] at h h2
  obtain ⟨m, rfl⟩ : ∃ k, m = k + 1 := ⟨m - 1, by omega⟩
  have e : IntKind.i64.wrap (((P.length + R.length : Nat) : Int) + 1) = ((P.length + (Z1c lt x R).length : Nat) : Int) := by rw [Zt0, wr (by omega) (by omega)]; omega
  have hn : P.length + R.length + (x :: T).length = P.length + (Z1c lt x R).length + T.length := by rw [Zt0, List.length_cons]; omega
  have e0 : P ++ R.reverse ++ x :: T ++ Q = P ++ R.reverse ++ x :: (T ++ Q) := by simp
  rw [Z6t, decide_eq_true (by simp only [List.length_cons]; omega), cond_true, e0, Y2n hc _ _ P x R (T ++ Q) Z0k (by unfold Z0k; omega) (by simp only [List.length_append, List.length_cons, List.length_reverse]; omega), e, hn,
   ← List.append_assoc, Y1l hc P Q T (Z1c lt x R) m (by omega) (by simp only [List.length_append, List.length_reverse, Zt0]; omega), List.foldl_cons]
theorem Y2d (hc : Z6e lt cmp) (P L Q : List Action) (a b : Int) (ha : a = (P.length : Int)) (hb : b = (P.length : Int) + (L.length : Int)) (h : (P ++ L ++ Q).length ≤ big) : Zbs (P ++ L ++ Q) a b cmp = some (P ++ srt lt L ++ Q) := by
 subst ha hb
 have hbig : big = 1000000 := rfl
 have h' := h
 simp only [List.length_append] at h'
 unfold Zbs srt
 cases L with
 | nil =>
  rw [wr (by omega) (by omega)]
  obtain ⟨m, hm⟩ : ∃ m, (((P.length : Int) + (([] : List Action).length : Int)) - ((P.length : Int) + 1)).toNat + 1 = m + 1 := ⟨_, rfl⟩
  rw [hm, Z6t, decide_eq_false (by simp only [List.length_nil]; omega), cond_false]
  rfl
 | cons x L =>
  simp only [List.length_cons] at h'
  have := Y1l hc P Q L [x] ((((P.length : Int) + ((x :: L).length : Int)) - ((P.length : Int) + 1)).toNat + 1) (by simp only [List.length_cons]; omega) (by simp only [List.length_append, List.length_reverse, List.length_cons, List.length_nil]; omega)
  have e1 : ((P.length + [x].length + L.length : Nat) : Int) = (P.length : Int) + ((x :: L).length : Int) := by simp; omega
  have e2 : ((P.length + [x].length : Nat) : Int) = (P.length : Int) + 1 := by simp
  have e3 : P ++ [x].reverse ++ L ++ Q = P ++ x :: L ++ Q := by simp
  rw [e1, e2, e3] at this
  rw [wr (by omega) (by omega), this]
  rfl
end ins
end Go.Proofs.YtknpgojdkobgjaaGreat.W
namespace Go.Proofs.YtknpgojdkobgjaaGreat.W
open Go Go.Wb
section stable
variable {lt : Action → Action → Bool} {cmp : Action → Action → Option Int}
def Z51 (lt : Action → Action → Bool) (s : Nat) (L : List Action) : List Action :=
 if h : s = 0 ∨ L.length < s then srt lt L else srt lt (L.take s) ++ Z51 lt s (L.drop s)
termination_by L.length
decreasing_by simp; omega
theorem Zev {s : Nat} {L : List Action} (h : L.length < s) : Z51 lt s L = srt lt L := by rw [Z51, dif_pos (.inr h)]
theorem Zcc {s : Nat} {A L : List Action} (hA : A.length = s) (h0 : 0 < s) : Z51 lt s (A ++ L) = srt lt A ++ Z51 lt s L := by
 subst hA
 rw [Z51, dif_neg (by rw [List.length_append]; omega), List.take_left, List.drop_left]
theorem Y7r : srt lt ([] : List Action) = [] := rfl
theorem Zwh {s : Nat} {L : List Action} (h : L.length ≤ s) (h0 : 0 < s) : Z51 lt s L = srt lt L := by
 rcases Nat.lt_or_eq_of_le h with h1 | h1
 ·exact Zev h1
 ·have := Zcc (lt := lt) (L := []) h1 h0
  have e : Z51 lt s [] = srt lt [] := Zev (by simpa using h0)
  rw [List.append_nil, e, Y7r, List.append_nil] at this
  exact this
theorem Y2t (hs : Swo lt) (s : Nat) (h0 : 0 < s) : ∀ (n : Nat) (L : List Action), L.length ≤ n → (Z51 lt s L).length = L.length
 | 0, L, h => by rw [Zev (by omega), Z2y hs]
 | n + 1, L, h => by
  by_cases hl : L.length < s
  ·rw [Zev hl, Z2y hs]
  ·have e : L = L.take s ++ L.drop s := (List.take_append_drop ..).symm
   have h1 : (L.take s).length = s := by simp; omega
   rw [e, Zcc h1 h0, List.length_append, Z2y hs, Y2t hs s h0 n (L.drop s) (by simp; omega), List.length_append]
theorem Y0n (hs : Swo lt) (hc : Z6e lt cmp) (n : Nat) : ∀ (k : Nat) (D L : List Action) (f : Nat), L.length ≤ k → D.length + L.length = n → n ≤ 100000 → L.length < f * 20 →
  Zck (n : Int) cmp f (D ++ L) (D.length : Int) ((D.length + 20 : Nat) : Int) = Z8t (n : Int) cmp (((n : Int) - 20).toNat + 1) (D ++ Z51 lt 20 L) 20
 | k, D, L, 0, _, _, _, h => by omega
 | k, D, L, f + 1, hk, hn, hb, hf => by
  have hbig : big = 1000000 := rfl
  rw [Zck]
  by_cases hl : L.length < 20
  ·have := Y2d hc D L [] (D.length : Int) (n : Int) rfl (by omega) (by simp only [List.length_append, List.length_nil]; omega)
   simp only [List.append_nil] at this
   rw [decide_eq_false (by omega), cond_false, this, Option.bind_some, Zev hl]
  ·obtain ⟨k, rfl⟩ : ∃ j, k = j + 1 := ⟨k - 1, by omega⟩
   have e : L = L.take 20 ++ L.drop 20 := (List.take_append_drop ..).symm
   have h1 : (L.take 20).length = 20 := by simp; omega
   have h2 : (L.drop 20).length = L.length - 20 := by simp
   generalize L.take 20 = A at *
   generalize L.drop 20 = B at *
   subst e
   have := Y2d hc D A B (D.length : Int) ((D.length + 20 : Nat) : Int) rfl (by omega) (by simp only [List.length_append] at hn ⊢; omega)
   have e20 : IntKind.i64.wrap (((D.length + 20 : Nat) : Int) + 20) = (((D ++ srt lt A).length + 20 : Nat) : Int) := by rw [wr (by omega) (by omega), List.length_append, Z2y hs]; omega
   have e21 : ((D.length + 20 : Nat) : Int) = ((D ++ srt lt A).length : Int) := by rw [List.length_append, Z2y hs]; omega
   simp only [List.length_append] at hn hl hf hk
   rw [decide_eq_true (by omega), cond_true, ← List.append_assoc, this, Option.bind_some, e20, e21,
    Y0n hs hc n k (D ++ srt lt A) B f (by omega) (by simp only [List.length_append, Z2y hs]; omega) hb (by omega), Zcc h1 (by omega)]
   simp
theorem Zw5 (hs : Swo lt) (hc : Z6e lt cmp) (go : List Action → Int → Option (List Action)) (n s : Nat) (hs0 : 0 < s) (hs1 : s ≤ 100000) : ∀ (k : Nat) (D L : List Action) (f : Nat), L.length ≤ k → D.length + L.length = n → n ≤ 100000 → L.length < f * (2 * s) →
  Zh4 (n : Int) (s : Int) cmp go f (D ++ Z51 lt s L) (D.length : Int) ((D.length + 2 * s : Nat) : Int) = go (D ++ Z51 lt (2 * s) L) ((2 * s : Nat) : Int)
 | k, D, L, 0, _, _, _, h => by omega
 | k, D, L, f + 1, hk, hn, hb, hf => by
  have hbig : big = 1000000 := rfl
  rw [Zh4]
  have em : IntKind.i64.wrap ((D.length : Int) + (s : Int)) = ((D.length + s : Nat) : Int) := by rw [wr (by omega) (by omega)]; omega
  have eg : IntKind.i64.wrap ((s : Int) * 2) = ((2 * s : Nat) : Int) := by rw [wr (by omega) (by omega)]; omega
  by_cases hl : L.length < 2 * s
  ·rw [decide_eq_false (by omega), cond_false, em, eg, Zev hl]
   by_cases hl2 : s < L.length
   ·have e : L = L.take s ++ L.drop s := (List.take_append_drop ..).symm
    have h1 : (L.take s).length = s := by simp; omega
    have h2 : (L.drop s).length = L.length - s := by simp
    generalize L.take s = A at *
    generalize L.drop s = B at *
    subst e
    simp only [List.length_append] at hn hl hl2
    rw [Zcc h1 hs0, Zev (by omega)]
    have := Y2q hs hc D (srt lt A) (srt lt B) [] (D.length : Int) ((D.length + s : Nat) : Int) (n : Int) rfl (by rw [Z2y hs]; omega) (by rw [Z2y hs, Z2y hs]; omega) (by rw [Z2y hs]; omega) (by rw [Z2y hs]; omega) (Z9a hs _) (Z9a hs _)
     (by simp only [List.length_append, Z2y hs, List.length_nil]; omega)
    simp only [List.append_nil, List.append_assoc] at this
    rw [decide_eq_true (by omega), cond_true, this, Option.bind_some, Y3y hs]
   ·rw [decide_eq_false (by omega), cond_false, Zwh (by omega) hs0]
  ·obtain ⟨k, rfl⟩ : ∃ j, k = j + 1 := ⟨k - 1, by omega⟩
   have e : L = L.take s ++ ((L.drop s).take s ++ (L.drop s).drop s) := by rw [List.take_append_drop, List.take_append_drop]
   have h1 : (L.take s).length = s := by simp; omega
   have h2 : ((L.drop s).take s).length = s := by simp; omega
   have h3 : ((L.drop s).drop s).length = L.length - 2 * s := by simp; omega
   generalize L.take s = A at *
   generalize (L.drop s).take s = B at *
   generalize (L.drop s).drop s = E at *
   subst e
   simp only [List.length_append] at hn hl hk hf
   have hf' : E.length < f * (2 * s) := by rw [Nat.add_mul] at hf; omega
   have hE := Y2t hs s hs0 E.length E (Nat.le_refl _)
   have := Y2q hs hc D (srt lt A) (srt lt B) (Z51 lt s E) (D.length : Int) ((D.length + s : Nat) : Int) ((D.length + 2 * s : Nat) : Int) rfl (by rw [Z2y hs]; omega) (by rw [Z2y hs, Z2y hs]; omega) (by rw [Z2y hs]; omega) (by rw [Z2y hs]; omega) (Z9a hs _) (Z9a hs _)
    (by simp only [List.length_append, Z2y hs, hE]; omega)
   have e2 : D ++ Z51 lt s (A ++ (B ++ E)) = D ++ srt lt A ++ srt lt B ++ Z51 lt s E := by rw [Zcc h1 hs0, Zcc h2 hs0]; simp
   have e3 : IntKind.i64.wrap (((D.length + 2 * s : Nat) : Int) + IntKind.i64.wrap (2 * (s : Int))) = (((D ++ srt lt (A ++ B)).length + 2 * s : Nat) : Int) := by
    rw [wr (n := 2 * (s : Int)) (by omega) (by omega), wr (by omega) (by omega), List.length_append, Z2y hs, List.length_append]; omega
   have e4 : ((D.length + 2 * s : Nat) : Int) = ((D ++ srt lt (A ++ B)).length : Int) := by rw [List.length_append, Z2y hs, List.length_append]; omega
   rw [decide_eq_true (by omega), cond_true, em, e2, this, Option.bind_some, Y3y hs, e3, e4,
    Zw5 hs hc go n s hs0 hs1 k (D ++ srt lt (A ++ B)) E f (by omega) (by simp only [List.length_append, Z2y hs]; omega) hb hf']
   have e5 : A ++ (B ++ E) = (A ++ B) ++ E := by simp
   rw [e5, Zcc (by simp; omega) (by omega)]
   simp
theorem Y07 (hs : Swo lt) (hc : Z6e lt cmp) (L : List Action) (hb : L.length ≤ 100000) : ∀ (f s : Nat), 0 < f → 0 < s → s ≤ 200000 → L.length < f + s →
  Z8t (L.length : Int) cmp f (Z51 lt s L) (s : Int) = some (srt lt L)
 | 0, s, hf, h0, h1, h2 => by omega
 | f + 1, s, hf, h0, h1, h2 => by
  rw [Z8t]
  by_cases hl : s < L.length
  ·have e2 : IntKind.i64.wrap (2 * (s : Int)) = ((2 * s : Nat) : Int) := by rw [wr (by omega) (by omega)]; omega
   have := Zw5 hs hc (Z8t (L.length : Int) cmp f) L.length s h0 (by omega) L.length [] L ((((L.length : Int) : Int) - ((2 * s : Nat) : Int)).toNat + 2) (Nat.le_refl _) (by simp) hb (by
    have h3 : L.length < (L.length - 2 * s + 2) * (2 * s) := by
     have : L.length - 2 * s + 2 ≤ (L.length - 2 * s + 2) * (2 * s) := Nat.le_mul_of_pos_right _ (by omega)
     by_cases hc : L.length < 2 * s
     ·have : 2 * (2 * s) ≤ (L.length - 2 * s + 2) * (2 * s) := Nat.mul_le_mul_right _ (by omega)
      omega
     ·have e : (L.length - 2 * s + 2) * (2 * s) = (L.length - 2 * s + 1) * (2 * s) + 2 * s := by rw [show L.length - 2 * s + 2 = (L.length - 2 * s + 1) + 1 from rfl, Nat.add_mul, Nat.one_mul]
      have : L.length - 2 * s + 1 ≤ (L.length - 2 * s + 1) * (2 * s) := Nat.le_mul_of_pos_right _ (by omega)
      omega
    have e : (((L.length : Int) : Int) - ((2 * s : Nat) : Int)).toNat + 2 = L.length - 2 * s + 2 := by omega
    rw [e]; exact h3)
   simp only [List.nil_append, List.length_nil, Nat.zero_add] at this
   rw [decide_eq_true (by omega), cond_true, e2]
   have e0 : ((0 : Nat) : Int) = 0 := rfl
   rw [e0] at this
   rw [this, Y07 hs hc L hb f (2 * s) (by omega) (by omega) (by omega) (by omega)]
  ·rw [decide_eq_false (by omega), cond_false, Zwh (by omega) h0]
theorem Yf7 (hs : Swo lt) (hc : Z6e lt cmp) (L : List Action) (hb : L.length ≤ 100000) : Zep L cmp = some (srt lt L) := by
 unfold Zep Zky
 have h1 := Y0n hs hc L.length L.length [] L ((((L.length : Int) : Int) - 20).toNat + 2) (Nat.le_refl _) (by simp) hb (by omega)
 have h2 := Y07 hs hc L hb ((((L.length : Int) : Int) - 20).toNat + 1) 20 (by omega) (by omega) (by omega) (by omega)
 simp only [List.nil_append, List.length_nil, Nat.zero_add] at h1
 have e0 : ((0 : Nat) : Int) = 0 := rfl
 have e20 : ((20 : Nat) : Int) = 20 := rfl
 rw [e0, e20] at h1
 rw [e20] at h2
 rw [h1, h2]; rfl
end stable
end Go.Proofs.YtknpgojdkobgjaaGreat.W
namespace Go.Proofs.YtknpgojdkobgjaaGreat.W
open Go Go.Wb
def Z27 (a b : Wide) : Wide := ⟨a.Hi &&& b.Hi, a.Lo &&& b.Lo⟩
def wor (a b : Wide) : Wide := ⟨a.Hi ||| b.Hi, a.Lo ||| b.Lo⟩
def Z6z (a b : Wide) : Wide := ⟨a.Hi ^^^ b.Hi, a.Lo ^^^ b.Lo⟩
def Z4b (a b : Wide) : Wide := ⟨a.Hi &&& ~~~b.Hi, a.Lo &&& ~~~b.Lo⟩
def wt (a : Wide) (i : Nat) : Bool := bif Nat.blt i 64 then a.Lo.getLsbD i else a.Hi.getLsbD (i - 64)
def Z61 (i : Nat) : Wide := bif Nat.blt i 64 then ⟨0, 1#64 <<< i⟩ else ⟨1#64 <<< (i - 64), 0⟩
theorem Zbt {i n : Nat} (h : i < n) : Nat.blt i n = true := by simpa using h
theorem Zc2 {i n : Nat} (h : ¬ i < n) : Nat.blt i n = false := by
 cases hb : Nat.blt i n
 ·rfl
 ·exact absurd (by simpa using hb) h
theorem Zat {a b : Wide} (h : ∀ i, i < 128 → wt a i = wt b i) : a = b := by
 obtain ⟨ah, al⟩ := a
 obtain ⟨bh, bl⟩ := b
 have h1 : ah = bh := BitVec.eq_of_getLsbD_eq fun i hi => by
  have := h (i + 64) (by omega)
  unfold wt at this
  rw [Zc2 (by omega)] at this
  simpa using this
 have h2 : al = bl := BitVec.eq_of_getLsbD_eq fun i hi => by
  have := h i (by omega)
  unfold wt at this
  rw [Zbt (by omega)] at this
  simpa using this
 rw [h1, h2]
theorem Z2w (a b : Wide) (i : Nat) : wt (Z27 a b) i = (wt a i && wt b i) := by
 unfold wt Z27
 cases Nat.blt i 64 <;> simp
theorem Z5i (a b : Wide) (i : Nat) : wt (wor a b) i = (wt a i || wt b i) := by
 unfold wt wor
 cases Nat.blt i 64 <;> simp
theorem Zdz (a b : Wide) (i : Nat) : wt (Z6z a b) i = (wt a i != wt b i) := by
 unfold wt Z6z
 cases Nat.blt i 64 <;> simp
theorem Z4v (a b : Wide) (i : Nat) (h : i < 128) : wt (Z4b a b) i = (wt a i && !wt b i) := by
 unfold wt Z4b
 by_cases hi : i < 64
 ·rw [Zbt hi]; simp [hi]
 ·rw [Zc2 hi]; simp [show i - 64 < 64 by omega]
theorem Zr6 (i : Nat) : wt Z0j i = false := by
 unfold wt Z0j
 cases Nat.blt i 64 <;> simp
theorem Zgp (i j : Nat) (hi : i < 128) (hj : j < 128) : wt (Z61 i) j = decide (i = j) := by
 unfold wt Z61
 by_cases h1 : i < 64
 ·rw [Zbt h1, cond_true]
  by_cases h2 : j < 64
  ·rw [Zbt h2, cond_true, BitVec.getLsbD_shiftLeft]
   by_cases e : i = j
   ·subst e; simp [h2]
   ·simp [h2, e, BitVec.getLsbD_one]; omega
  ·rw [Zc2 h2, cond_false]
   have : i ≠ j := by omega
   simp [this]
 ·rw [Zc2 h1, cond_false]
  by_cases h2 : j < 64
  ·rw [Zbt h2, cond_true]
   have : i ≠ j := by omega
   simp [this]
  ·rw [Zc2 h2, cond_false, BitVec.getLsbD_shiftLeft]
   by_cases e : i = j
   ·subst e; simp [show i - 64 < 64 by omega]
   ·simp [show j - 64 < 64 by omega, e, BitVec.getLsbD_one]; omega
def Z3y (a : Wide) : Bool := decide ((a.Hi ||| a.Lo) = (0 : BitVec 64))
theorem Zb3 (a : Wide) : Z3y a = true ↔ ∀ i, i < 128 → wt a i = false := by
 unfold Z3y
 rw [decide_eq_true_eq]
 constructor
 ·intro h i hi
  have hb : ∀ j, (a.Hi.getLsbD j || a.Lo.getLsbD j) = false := fun j => by rw [← BitVec.getLsbD_or, h]; simp
  unfold wt
  by_cases h1 : i < 64
  ·rw [Zbt h1, cond_true]
   have := hb i
   simp only [Bool.or_eq_false_iff] at this
   exact this.2
  ·rw [Zc2 h1, cond_false]
   have := hb (i - 64)
   simp only [Bool.or_eq_false_iff] at this
   exact this.1
 ·intro h
  apply BitVec.eq_of_getLsbD_eq
  intro j hj
  have h1 := h j (by omega)
  have h2 := h (j + 64) (by omega)
  unfold wt at h1 h2
  rw [Zbt hj] at h1
  rw [Zc2 (by omega)] at h2
  simp at h1 h2
  simp [h1, h2]
theorem Y8m {a : Wide} : Z3y a = false ↔ ∃ i, i < 128 ∧ wt a i = true := by
 rw [← Bool.not_eq_true, Zb3]
 constructor
 ·intro h
  apply Classical.byContradiction
  intro hn
  exact h fun i hi => by
   cases hw : wt a i
   ·rfl
   ·exact absurd ⟨i, hi, hw⟩ hn
 ·rintro ⟨i, hi, hw⟩ h
  rw [h i hi] at hw; cases hw
theorem Ya1 (a : Wide) (i : Nat) (h : i < 128) : (!Z3y (Z27 a (Z61 i))) = wt a i := by
 cases hw : wt a i
 ·have : Z3y (Z27 a (Z61 i)) = true := by
   rw [Zb3]
   intro j hj
   rw [Z2w, Zgp i j h hj]
   by_cases e : i = j
   ·subst e; rw [hw]; rfl
   ·simp [e]
  rw [this]; rfl
 ·have : Z3y (Z27 a (Z61 i)) = false := by
   rw [Y8m]
   exact ⟨i, h, by rw [Z2w, Zgp i i h h, hw]; simp⟩
  rw [this]; rfl
theorem Zyt (x : BitVec 64) (n : Nat) : Ze9 x (n : Int) = some (x <<< n) := by
 unfold Ze9
 rw [decide_eq_false (by omega)]
 simp
theorem Y9h (x : BitVec 64) (n : Nat) : Z3i x (n : Int) = some (x >>> n) := by
 unfold Z3i
 rw [decide_eq_false (by omega)]
 simp
theorem Zxe (a b : Wide) : Zbi a b = some (Z27 a b) := rfl
theorem Ztl (a b : Wide) : Z8k a b = some (wor a b) := rfl
theorem Zoj (a b : Wide) : Z9f a b = some (Z4b a b) := rfl
theorem Zrr (i : Nat) (h : i < 128) : Zbh (i : Int) = some (Z61 i) := by
 unfold Zbh
 have h1 : (decide ((i : Int) < 0) || decide ((i : Int) > 127)) = false := by simp; omega
 have hq : Zgy .i64 (i : Int) 64 = some ((i / 64 : Nat) : Int) := by
  unfold Zgy
  rw [decide_eq_false (by decide)]
  show some (IntKind.i64.wrap ((i / 64 : Nat) : Int)) = _
  rw [Z2s (by omega) (by omega)]
 have hm : Za1 (i : Int) 64 = some ((i % 64 : Nat) : Int) := Y67 i 64 (by omega)
 rw [h1, cond_false, hq, Option.bind_some, hm, Option.bind_some, Zyt, Option.bind_some, Z3h (by omega), Option.bind_some]
 unfold Z61
 by_cases h2 : i < 64
 ·rw [Zbt h2, cond_true]
  have e1 : i / 64 = 0 := by omega
  have e2 : i % 64 = i := by omega
  simp only [e1, e2]
  rfl
 ·rw [Zc2 h2, cond_false]
  have e1 : i / 64 = 1 := by omega
  have e2 : i % 64 = i - 64 := by omega
  simp only [e1, e2]
  rfl
abbrev Cube := Vector Tern 24
abbrev Header := Vector Wide 24
def Z19 (t : Tern) : Tern := ⟨Z27 t.Value t.Mask, t.Mask⟩
theorem Znf (t : Tern) : Z7b t = some (Z19 t) := rfl
def Z0g (c : Cube) : Cube := Vector.ofFn fun i => Z19 (ve c i.1)
theorem Z9b (c : Cube) (i : Nat) (h : i < 24) : ve (Z0g c) i = Z19 (ve c i) := Z75 (fun i => Z19 (ve c i)) i h
theorem Yhb (t : Tern) : Z19 (Z19 t) = Z19 t := by
 unfold Z19
 congr 1
 exact Zat fun i hi => by simp only [Z2w]; cases wt t.Value i <;> cases wt t.Mask i <;> rfl
theorem Yl9 (c : Cube) : Z0g (Z0g c) = Z0g c := Z74 fun i hi => by
 rw [Z9b _ _ hi, Z9b _ _ hi, Yhb]
def Z4q (a b : Tern) : Tern := ⟨wor (Z4b (Z19 a).Value b.Mask) (Z19 b).Value, wor a.Mask b.Mask⟩
theorem Zz0 (a b : Tern) : Zjn a b = some (Z4q a b) := rfl
def Z5j (a b : Cube) : Cube := Vector.ofFn fun i => Z4q (ve a i.1) (ve b i.1)
theorem Ynx (a b : Cube) (i : Nat) (h : i < 24) : ve (Z5j a b) i = Z4q (ve a i) (ve b i) := Z75 (fun i => Z4q (ve a i) (ve b i)) i h
theorem Y4c (f : Int → Option Tern) (g : Nat → Tern) (hf : ∀ i : Nat, i < 24 → f (i : Int) = some (g i)) (b : Cube) : ∀ (m i : Nat), i + m = 24 → Z9i f m i (Z5o g b i) = some (Vector.ofFn (fun i => g i.1))
 | 0, i, h => by
  have : i = 24 := by omega
  subst this
  rw [Z9i, Zjc]
 | m + 1, i, h => by
  rw [Z9i, hf i (by omega), Option.bind_some, Z3h (by omega), Option.bind_some]
  show Z9i f m (i + 1) (Vector.set (Z5o g b i) i (g i) _) = _
  rw [Zku g b i (by omega), Y4c f g hf b m (i + 1) (by omega)]
theorem Zxr (f : Int → Option Tern) (g : Nat → Tern) (hf : ∀ i : Nat, i < 24 → f (i : Int) = some (g i)) : Zhr f = some (Vector.ofFn (fun i => g i.1)) := by
 unfold Zhr
 have := Y4c f g hf (Vector.replicate 24 zTern) 24 0 rfl
 rw [Zlb] at this
 exact this
theorem Zu3 (r : Cube) : Zd1 r = some (Z0g r) := by
 unfold Zd1
 rw [Zxr (fun x => Zfi x r) (fun i => Z19 (ve r i)) (fun i hi => by unfold Zfi; rw [Z3h hi, Option.bind_some, Z55, Znf]; rfl)]
 rfl
def Z12 (r : Cube) (h : Header) : Header := Vector.ofFn fun f => wor (Z4b (ve h f.1) (ve r f.1).Mask) (Z27 (ve r f.1).Value (ve r f.1).Mask)
theorem Z6n (r : Cube) (h : Header) (f : Nat) (hf : f < 24) : ve (Z12 r h) f = wor (Z4b (ve h f) (ve r f).Mask) (Z27 (ve r f).Value (ve r f).Mask) := Z75 (fun f => wor (Z4b (ve h f) (ve r f).Mask) (Z27 (ve r f).Value (ve r f).Mask)) f hf
theorem Zws (r : Cube) (h : Header) : ∀ (l : List Tern) (i : Nat), i + l.length = 24 → l = (Vector.toList r).drop i → Zaf l i (Z5o (fun f => wor (Z4b (ve h f) (ve r f).Mask) (Z27 (ve r f).Value (ve r f).Mask)) h i) = some (Z12 r h)
 | [], i, h1, h2 => by
  have : i = 24 := by simpa using h1
  subst this
  rw [Zaf, Zjc]; rfl
 | x :: l, i, h1, h2 => by
  simp only [List.length_cons] at h1
  have hi : i < (Vector.toList r).length := by simp; omega
  rw [List.drop_eq_getElem_cons hi] at h2
  obtain ⟨rfl, h3⟩ := List.cons.inj h2
  have hx : (Vector.toList r)[i] = ve r i := by rw [Vector.getElem_toList, Z6o _ _ (by omega)]
  rw [Zaf, hx, Z3h (by omega), Option.bind_some, Z55, Zoj, Option.bind_some, Zxe, Option.bind_some, Ztl, Option.bind_some, Option.bind_some, Zju _ _ _ _ (by omega), if_neg (by omega)]
  have := Zku (fun f => wor (Z4b (ve h f) (ve r f).Mask) (Z27 (ve r f).Value (ve r f).Mask)) h i (by omega)
  rw [this]
  exact Zws r h l (i + 1) (by omega) h3
theorem Zrt (r : Cube) (h : Header) : Zcf r h = some (Z12 r h) := by
 unfold Zcf
 have := Zws r h (Vector.toList r) 0 (by simp) rfl
 rw [Zlb] at this
 exact this
def Z42 (r : Cube) (f : Int) (v m : Wide) : Cube := bif decide (f ≥ 0) && decide (f < 24) then Vector.ofFn fun i => if f.toNat = i.1 then Z4q (ve (Z0g r) f.toNat) ⟨v, m⟩ else ve (Z0g r) i.1 else Z0g r
theorem Zdg (r : Cube) (f : Int) (v m : Wide) : Z6p r f v m = some (Z42 r f v m) := by
 unfold Z6p Z42 Z8c
 rw [Zu3, Option.bind_some, Option.bind_some]
 cases hc : (decide (f ≥ 0) && decide (f < 24))
 ·rfl
 ·simp only [Bool.and_eq_true, decide_eq_true_eq] at hc
  obtain ⟨n, rfl⟩ : ∃ n : Nat, f = (n : Int) := ⟨f.toNat, by omega⟩
  have hn : n < 24 := by omega
  have e : Vector.set (Z0g r) n (Z4q (ve (Z0g r) n) ⟨v, m⟩) hn = Vector.ofFn fun i : _root_.Fin 24 => if n = i.1 then Z4q (ve (Z0g r) n) ⟨v, m⟩ else ve (Z0g r) i.1 := Z74 fun j hj => by
   rw [Zkd _ _ _ _ _ hj]
   exact (Z75 (fun i => if n = i then Z4q (ve (Z0g r) n) ⟨v, m⟩ else ve (Z0g r) i) j hj).symm
  rw [cond_true, cond_true, Z3h hn, Option.bind_some, Z55, Zz0, Option.bind_some, Option.bind_some, Int.toNat_natCast]
  exact congrArg some e
theorem Y3c (n : Int) : ∃ x, Zgm n = some x := by
 unfold Zgm
 cases decide (n ≥ 64)
 ·have h0 : 0 ≤ Z1f n 0 := by
   unfold Z1f
   by_cases h : (0 : Int) > n
   ·simp [h]
   ·simp [h]; omega
  obtain ⟨k, hk⟩ : ∃ k : Nat, Z1f n 0 = (k : Int) := ⟨(Z1f n 0).toNat, by omega⟩
  rw [cond_false, hk, Zyt]
  exact ⟨_, rfl⟩
 ·exact ⟨_, rfl⟩
def Z5z (n : Int) : Wide := (Z81 n).getD Z0j
theorem Zlx (n : Int) : Z81 n = some (Z5z n) := by
 obtain ⟨x, hx⟩ := Y3c (IntKind.i64.wrap ((Z3a (Z1f n 0) 128) - 64))
 obtain ⟨y, hy⟩ := Y3c (Z3a (Z1f n 0) 128)
 have : Z81 n = some ⟨x, y⟩ := by unfold Z81; rw [hx, Option.bind_some, hy]; rfl
 unfold Z5z
 rw [this]; rfl
def Ztb (n : Int) : Int := (Zeu n).getD 0
theorem Ynk : ∃ v, Zlr = some v := by unfold Zlr; exact ⟨_, rfl⟩
theorem Y95 (n : Int) : Zeu n = some (Ztb n) := by
 have : ∃ x, Zeu n = some x := by
  unfold Zeu Zmh Z8c
  rw [Option.bind_some]
  cases hc : (decide (n ≥ 0) && decide (n < 24))
  ·exact ⟨_, rfl⟩
  ·simp only [Bool.and_eq_true, decide_eq_true_eq] at hc
   obtain ⟨k, rfl⟩ : ∃ k : Nat, n = (k : Int) := ⟨n.toNat, by omega⟩
   obtain ⟨v, hv⟩ := Ynk
   rw [Bool.not_true, cond_false, hv, Option.bind_some, Z39 (by simp; omega), Option.bind_some, Option.bind_some]
   exact ⟨_, rfl⟩
 obtain ⟨x, hx⟩ := this
 unfold Ztb
 rw [hx]; rfl
def oxT (o : Oxm) : Tern := bif decide (o.Field ≥ 0) && decide (o.Field < 24) then (bif o.Masked then ⟨o.Value, o.Mask⟩ else ⟨o.Value, Z5z (Ztb o.Field)⟩) else ⟨Z0j, Z0j⟩
theorem Zw2 (o : Oxm) : Zgc o = some (oxT o) := by
 unfold Zgc oxT Z8c
 rw [Option.bind_some]
 cases decide (o.Field ≥ 0) && decide (o.Field < 24)
 ·rfl
 ·rw [Bool.not_true, cond_false, cond_true]
  cases o.Masked
  ·rw [cond_false, cond_false, Y95, Option.bind_some, Zlx]; rfl
  ·rfl
def Z2a : Cube := Vector.replicate 24 zTern
def Zgf (a : Action) : Cube :=
 bif decide (a.Kind = 25) then Z42 Z2a a.Oxm.Field (oxT a.Oxm).Value (oxT a.Oxm).Mask
 else bif decide (a.Kind = 17) then Z42 Z2a 5 (Z61 12) (Z61 12)
 else bif decide (a.Kind = 18) then Z42 (Z42 Z2a 5 ⟨0, 0⟩ (Z5z 13)) 6 ⟨0, 0⟩ (Z5z 3)
 else Z2a
theorem Zyn (a : Action) : Zht a = some (Zgf a) := by
 unfold Zht Zgf
 rw [show Z94 = some Z2a from rfl, Option.bind_some]
 cases decide (a.Kind = 25)
 ·rw [cond_false, cond_false]
  cases decide (a.Kind = 17)
  ·rw [cond_false, cond_false]
   cases decide (a.Kind = 18)
   ·rfl
   ·rw [cond_true, cond_true, Zlx, Option.bind_some, Zdg, Option.bind_some, Zlx, Option.bind_some, Zdg]; rfl
  ·rw [cond_true, cond_true, show (12 : Int) = ((12 : Nat) : Int) from rfl, Zrr 12 (by decide), Option.bind_some, Option.bind_some, Zdg]; rfl
 ·rw [cond_true, cond_true, Zw2, Option.bind_some, Zdg]; rfl
def Zl7 (a : Action) : Int := bif decide (a.Port = 4294967293) then a.Max else 0
theorem Ynh (a : Action) : Zkf a = some (Zl7 a) := by
 unfold Zkf Zl7
 cases decide (a.Port = 4294967293) <;> rfl
theorem Zx6 {α : Type} (p : α → Bool) : ∀ l : List α, 0 ≤ Z08 p l → (l.take ((Z08 p l).toNat + 1)).filter (fun x => !p x) = l.take (Z08 p l).toNat
 | [], h => by simp [Z08] at h
 | x :: l, h => by
  unfold Z08 at h ⊢
  cases hp : p x
  ·rw [hp] at h
   by_cases h' : Z08 p l < 0
   ·simp [h'] at h
   ·simp only [cond_false, decide_eq_false h']
    have e : (Z08 p l + 1).toNat = (Z08 p l).toNat + 1 := by omega
    rw [e, List.take_succ_cons, List.take_succ_cons, List.filter_cons_of_pos (by simp [hp]), Zx6 p l (by omega)]
  ·simp [hp]
theorem Y64 {α : Type} (p : α → Bool) (l : List α) (h : Z08 p l < 0) : l.filter (fun x => !p x) = l := by
 rw [List.filter_eq_self]
 intro x hx
 rw [Zy6 p l h x hx]; rfl
theorem Zd9 {α : Type} (p : α → Bool) : ∀ l : List α, (Z08 p l < 0 ∧ l.find? p = none) ∨ ∃ n : Nat, Z08 p l = (n : Int) ∧ ∃ h : n < l.length, l.find? p = some l[n] ∧ p l[n] = true
 | [] => .inl ⟨by simp [Z08], rfl⟩
 | x :: l => by
  unfold Z08
  cases hp : p x
  ·rw [cond_false, List.find?_cons_of_neg (by simp [hp])]
   rcases Zd9 p l with ⟨h1, h2⟩ | ⟨n, h1, h2, h3, h4⟩
   ·left; rw [decide_eq_true h1]; exact ⟨by show (-1 : Int) < 0; decide, h2⟩
   ·right
    rw [decide_eq_false (by omega)]
    exact ⟨n + 1, by show Z08 p l + 1 = _; omega, by simp; omega, by simpa using h3, by simpa using h4⟩
  ·right
   exact ⟨0, rfl, by simp, by rw [List.find?_cons_of_pos hp]; rfl, hp⟩
theorem Zug (s : List Action) (f : Action → Option Bool) (p : Action → Bool) (hf : ∀ x ∈ s, f x = some (p x)) : Ze8 s f = some (Z08 p s) := by
 unfold Ze8
 rw [show ((s.length : Int)).toNat = s.length by omega]
 exact Zba p (fun i => by rw [Zex]) (fun m i => by rw [Zex]) hf
theorem Ztz (s : List Group) (f : Group → Option Bool) (p : Group → Bool) (hf : ∀ x ∈ s, f x = some (p x)) : Zdu s f = some (Z08 p s) := by
 unfold Zdu
 rw [show ((s.length : Int)).toNat = s.length by omega]
 exact Zba p (fun i => by rw [Zcp]) (fun m i => by rw [Zcp]) hf
theorem Zvb (s : List Bucket) (f : Bucket → Option Bool) (p : Bucket → Bool) (hf : ∀ x ∈ s, f x = some (p x)) : Zgl s f = some (Z08 p s) := by
 unfold Zgl
 rw [show ((s.length : Int)).toNat = s.length by omega]
 exact Zba p (fun i => by rw [Zej]) (fun m i => by rw [Zej]) hf
theorem Zxb (s : List Int) (v : Int) : Zhu s v = some (Z08 (fun x => decide (v = x)) s) := by
 unfold Zhu
 rw [show ((s.length : Int)).toNat = s.length by omega]
 exact Zba (f := fun x => some (decide (v = x))) (fun x => decide (v = x)) (fun i => by rw [Zcy]) (fun m i => by rw [Zcy]; rfl) (fun _ _ => rfl)
theorem Yho (s : List Int) (v : Int) : Zj5 s v = some (s.contains v) := by
 unfold Zj5; rw [Zxb, Option.bind_some, Zb1]
 congr 1
 rw [Bool.eq_iff_iff, List.any_eq_true, List.contains_iff_mem]
 simp
theorem Y6x (e : Env) (n : Int) : Zjj e n = some (!e.Down.contains n) := by
 unfold Zjj; rw [Yho]; rfl
theorem Y1a (s : List Action) (f : Action → Option Bool) (p : Action → Bool) (hf : ∀ x ∈ s, f x = some (p x)) (hl : s.length ≤ lim) : Zic s f = some (s.filter (fun x => !p x)) := by
 have hlim : lim = 4294967296 := rfl
 unfold Zic
 rw [Zug s f p hf, Option.bind_some]
 by_cases h : Z08 p s < 0
 ·have := Zfb p s
  rw [decide_eq_true (by omega), cond_true, Y64 p s h]
 ·have hlt := Zl8 p s
  rw [decide_eq_false (by omega), cond_false, Z2s (by omega) (by omega)]
  have key := Ymn (z := Zm9) (G := Zec f) (s := s) (f := f) p (fun m l i j => by rw [Zec]) hf hl (((s.length : Int) - (Z08 p s + 1)).toNat + 1) s (Z08 p s).toNat ((Z08 p s).toNat + 1) (by omega) (by omega) (by omega) rfl rfl (Zx6 p s (by omega)).symm
  rw [show ((Z08 p s).toNat : Int) = Z08 p s by omega, show (((Z08 p s).toNat + 1 : Nat) : Int) = Z08 p s + 1 by omega] at key
  exact key
theorem Zxq (s : List Action) (f : Action → Option Bool) (p : Action → Bool) (hf : ∀ x ∈ s, f x = some (p x)) : Zij s f = some (s.any p) := by
 unfold Zij; rw [Zug s f p hf, Option.bind_some, Zb1]
def Z0p (a : Action) : aset_spot := bif decide (a.Kind = 25) then ⟨a.Kind, a.Oxm.Field⟩ else ⟨a.Kind, 0⟩
theorem Zne (a : Action) : Zb6 a = some (Z0p a) := by
 unfold Zb6 Z0p
 cases decide (a.Kind = 25) <;> rfl
theorem Yl4 (b c : Action) : Zdn b c = some (decide (Z0p c = Z0p b)) := by
 unfold Zdn
 rw [Zne, Option.bind_some, Zne]; rfl
def wr1 (l : List Action) (x : Action) : List Action := bif decide (Z08 (fun b => decide (Z0p x = Z0p b)) l < 0) then l ++ [x] else l.set (Z08 (fun b => decide (Z0p x = Z0p b)) l).toNat x
theorem Y2s (l : List Action) (x : Action) : (wr1 l x).length ≤ l.length + 1 := by
 unfold wr1
 cases decide (Z08 (fun b => decide (Z0p x = Z0p b)) l < 0) <;> simp
theorem Zta : ∀ (l : List Action) (i : Nat) (acc : List Action), acc.length + l.length ≤ lim → Z9y l i acc = some (l.foldl wr1 acc)
 | [], i, acc, _ => by rw [Z9y]; rfl
 | x :: l, i, acc, h => by
  simp only [List.length_cons] at h
  have hw := Y2s acc x
  rw [Z9y, Zug acc (fun y => Zdn y x) (fun b => decide (Z0p x = Z0p b)) (fun y _ => Yl4 y x), Option.bind_some, List.foldl_cons]
  have hi := Zl8 (fun b => decide (Z0p x = Z0p b)) acc
  by_cases hc : Z08 (fun b => decide (Z0p x = Z0p b)) acc < 0
  ·rw [decide_eq_true hc, cond_true, Z23 (by simp; omega), Option.bind_some, Zta l (i + 1) _ (by simp; omega)]
   unfold wr1
   rw [decide_eq_true hc, cond_true]
  ·obtain ⟨n, hn⟩ : ∃ n : Nat, Z08 (fun b => decide (Z0p x = Z0p b)) acc = (n : Int) := ⟨(Z08 (fun b => decide (Z0p x = Z0p b)) acc).toNat, by omega⟩
   rw [decide_eq_false hc, cond_false, hn, Z39 (by omega), Option.bind_some, Zta l (i + 1) _ (by simp; omega)]
   unfold wr1
   rw [decide_eq_false hc, cond_false, hn]
theorem Zmb (s l : List Action) (h : s.length + l.length ≤ lim) : Zbl s l = some (l.foldl wr1 s) := by
 unfold Zbl Z71
 rw [Z23 (by simp; omega), Option.bind_some, List.nil_append, Zta l 0 s h]
theorem Zio : ∀ (l s : List Action), (l.foldl wr1 s).length ≤ s.length + l.length
 | [], s => by simp
 | x :: l, s => by
  have h1 := Zio l (wr1 s x)
  have h2 := Y2s s x
  rw [List.foldl_cons, List.length_cons]; omega
theorem Ygs (l : List Action) (x : Action) (h : (l.map Z0p).Nodup) : ((wr1 l x).map Z0p).Nodup := by
 unfold wr1
 rcases Zd9 (fun b => decide (Z0p x = Z0p b)) l with ⟨h1, h2⟩ | ⟨n, h1, h2, h3, h4⟩
 ·rw [decide_eq_true h1, cond_true, List.map_append, List.nodup_append]
  refine ⟨h, by simp, ?_⟩
  intro a ha b hb e
  simp only [List.map_cons, List.map_nil, List.mem_singleton] at hb
  subst e; subst hb
  obtain ⟨y, hy, hk⟩ := List.mem_map.1 ha
  have := List.find?_eq_none.1 h2 y hy
  simp [hk] at this
 ·rw [decide_eq_false (by omega), cond_false, h1, Int.toNat_natCast]
  have hk : Z0p x = Z0p l[n] := by simpa using h4
  have : (l.set n x).map Z0p = l.map Z0p := by
   rw [List.map_set, hk]
   apply List.ext_getElem
   ·simp
   ·intro i h5 h6
    rw [List.getElem_set]
    split
    ·rename_i e; subst e; simp
    ·rfl
  rw [this]; exact h
theorem Y2k : ∀ (l s : List Action), (s.map Z0p).Nodup → ((l.foldl wr1 s).map Z0p).Nodup
 | [], s, h => h
 | x :: l, s, h => Y2k l _ (Ygs s x h)
def Z4d (k : Int) : Int := Z08 (fun x => decide (k = x)) [18, 17, 25, 22, 0]
theorem Zop (k : Int) : Zdq k = some (Z4d k) := by
 unfold Zdq Z4d
 rw [Zxb]; rfl
def Zai (goes : Bool) (a : Action) : Bool := !(decide (Z4d a.Kind < 0) || (goes && decide (a.Kind = 0)))
def Zkr (a b : Action) : Int :=
 bif decide (IntKind.i64.wrap (Z4d (Z0p a).kind - Z4d (Z0p b).kind) ≠ 0) then IntKind.i64.wrap (Z4d (Z0p a).kind - Z4d (Z0p b).kind)
 else bif decide ((Z0p a).field < (Z0p b).field) then -1 else bif decide ((Z0p a).field > (Z0p b).field) then 1 else 0
theorem Y3k (a b : Action) : Z8s a b = some (Zkr a b) := by
 unfold Z8s Zkr
 rw [Zne, Option.bind_some, Zne, Option.bind_some, Zop, Option.bind_some, Zop, Option.bind_some]
 cases decide (IntKind.i64.wrap (Z4d (Z0p a).kind - Z4d (Z0p b).kind) ≠ 0)
 ·rw [cond_false, cond_false]
  cases decide ((Z0p a).field < (Z0p b).field)
  ·rw [cond_false, cond_false]
   cases decide ((Z0p a).field > (Z0p b).field) <;> rfl
  ·rfl
 ·rfl
theorem Zqk {α : Type} (lt : α → α → Bool) (x : α) : ∀ R : List α, (Z1c lt x R).Perm (x :: R)
 | [] => List.Perm.refl _
 | y :: R => by
  rw [Z1c]
  cases lt x y
  ·exact List.Perm.refl _
  ·exact ((Zqk lt x R).cons y).trans (List.Perm.swap x y R)
theorem Y4b {α : Type} (lt : α → α → Bool) : ∀ (l R : List α), (l.foldl (fun R x => Z1c lt x R) R).Perm (l ++ R)
 | [], R => List.Perm.refl _
 | x :: l, R => by
  rw [List.foldl_cons]
  refine (Y4b lt l _).trans ?_
  refine ((Zqk lt x R).append_left l).trans ?_
  exact List.perm_middle
theorem Zzk {α : Type} (lt : α → α → Bool) (l : List α) : (srt lt l).Perm l := by
 unfold srt
 refine (List.reverse_perm _).trans ?_
 have := Y4b lt l []
 rwa [List.append_nil] at this
theorem Zmm {α : Type} (lt : α → α → Bool) (x : α) (R : List α) : (Z1c lt x R).length = R.length + 1 := by
 have := (Zqk lt x R).length_eq
 simpa using this
def ltA (a b : Action) : Bool := decide (Zkr a b < 0)
theorem Zvo (go : List Action → Int → Option (List Action)) (i : Int) (x : Action) : ∀ (R S : List Action) (m : Nat), R.length < m → R.length ≤ lim →
  Z89 0 Z8s go i m (R.reverse ++ x :: S) (R.length : Int) = go ((Z1c ltA x R).reverse ++ S) (IntKind.i64.wrap (i + 1))
 | [], S, m, h, _ => by
  obtain ⟨m, rfl⟩ : ∃ k, m = k + 1 := ⟨m - 1, by simp at h; omega⟩
  rw [Z89]
  simp [opt, Z1c]
 | y :: R, S, m, h, hl => by
  have hlim : lim = 4294967296 := rfl
  simp only [List.length_cons] at h hl
  obtain ⟨m, rfl⟩ : ∃ k, m = k + 1 := ⟨m - 1, by omega⟩
  have e0 : (y :: R).reverse ++ x :: S = R.reverse ++ y :: x :: S := by simp
  have ej : IntKind.i64.wrap (((y :: R).length : Int) - 1) = (R.length : Int) := by rw [Z2s (by simp only [List.length_cons]; omega) (by simp only [List.length_cons]; omega)]; simp only [List.length_cons]; omega
  have hlen : ∀ a b : Action, (R.reverse ++ a :: b :: S).length = R.length + (S.length + 2) := fun a b => by simp
  have g1 : ∀ a b : Action, lget (R.reverse ++ a :: b :: S) (((y :: R).length : Int)) = some b := fun a b => by
   rw [Zk1, List.getElem?_append_right (by simp)]; first | done | simp
  have g0 : ∀ a b : Action, lget (R.reverse ++ a :: b :: S) ((R.length : Int)) = some a := fun a b => by
   rw [Zk1, List.getElem?_append_right (by simp)]; first | done | simp
  have s1 : ∀ a b c : Action, List.set (R.reverse ++ a :: b :: S) (((y :: R).length : Int)).toNat c = R.reverse ++ a :: c :: S := fun a b c => by
   rw [Int.toNat_natCast, List.set_append_right _ _ (by simp)]; first | done | simp
  have s0 : ∀ a b c : Action, List.set (R.reverse ++ a :: b :: S) ((R.length : Int)).toNat c = R.reverse ++ c :: b :: S := fun a b c => by
   rw [Int.toNat_natCast, List.set_append_right _ _ (by simp)]; first | done | simp
  rw [e0, Z89, decide_eq_true (by simp only [List.length_cons]; omega), Z7o, g1, Option.bind_some, Z7o, ej, g0, Option.bind_some, Z7o, Y3k, Option.bind_some, Bool.true_and, Z1c]
  show (bif ltA x y then _ else _) = _
  cases ltA x y
  ·rw [cond_false, cond_false]
   simp
  ·rw [cond_true, cond_true, Option.bind_some, Option.bind_some, Option.bind_some, s1, g0, Option.bind_some, s0, Zvo go i x R (y :: S) m (by omega) (by omega)]
   simp
theorem Y1c : ∀ (T R : List Action) (m : Nat), T.length < m → 1 ≤ R.length → R.length + T.length ≤ 1000 →
  Z6t ((R.length + T.length : Nat) : Int) 0 Z8s m (R.reverse ++ T) (R.length : Int) = some ((T.foldl (fun R x => Z1c ltA x R) R).reverse)
 | [], R, m, h, _, _ => by
  obtain ⟨m, rfl⟩ : ∃ k, m = k + 1 := ⟨m - 1, by simp at h; omega⟩
  rw [Z6t, decide_eq_false (by simp), cond_false]
  simp
 | x :: T, R, m, h, h1, h2 => by
  have hlim : lim = 4294967296 := rfl
  simp only [List.length_cons] at h h2
  obtain ⟨m, rfl⟩ : ∃ k, m = k + 1 := ⟨m - 1, by omega⟩
  have e : IntKind.i64.wrap ((R.length : Int) + 1) = (((Z1c ltA x R).length : Nat) : Int) := by rw [Zmm, Z2s (by omega) (by omega)]; omega
  have hn : R.length + (x :: T).length = (Z1c ltA x R).length + T.length := by rw [Zmm, List.length_cons]; omega
  rw [Z6t, decide_eq_true (by simp; omega), cond_true, Zvo _ _ x R T Z0k (by unfold Z0k; omega) (by omega), e, hn, Y1c T (Z1c ltA x R) m (by omega) (by rw [Zmm]; omega) (by rw [Zmm]; omega), List.foldl_cons]
theorem Yel (l : List Action) (h : l.length ≤ 1000) : Zbs l 0 (l.length : Int) Z8s = some (srt ltA l) := by
 unfold Zbs srt
 have e : IntKind.i64.wrap ((0 : Int) + 1) = 1 := by decide
 rw [e]
 cases l with
 | nil => rfl
 | cons x l =>
  simp only [List.length_cons] at h
  have := Y1c l [x] ((((x :: l).length : Int) - 1).toNat + 1) (by simp) (by simp) (by simp; omega)
  have e2 : (([x].length + l.length : Nat) : Int) = ((x :: l).length : Int) := by simp; omega
  rw [e2] at this
  simp only [List.reverse_singleton, List.singleton_append] at this
  rw [List.foldl_cons]
  exact this
theorem Yn1 (l : List Action) (h : l.length < 20) : Zep l Z8s = some (srt ltA l) := by
 unfold Zep Zky
 obtain ⟨m, hm⟩ : ∃ m, (((l.length : Int) : Int) - 20).toNat + 2 = m + 1 := ⟨_, rfl⟩
 rw [hm, Zck, decide_eq_false (by omega), cond_false, Yel l (by omega), Option.bind_some]
 obtain ⟨k, hk⟩ : ∃ m, (((l.length : Int) : Int) - 20).toNat + 1 = m + 1 := ⟨_, rfl⟩
 rw [hk, Z8t, decide_eq_false (by omega), cond_false]
 rfl
def Z5r (s : List Action) : List Action := srt ltA (s.filter (Zai (s.any fun a => decide (a.Kind = 22))))
theorem Zuw (s : List Action) (h : s.length < 20) : Z79 s = some (Z5r s) := by
 have hlim : lim = 4294967296 := rfl
 unfold Z79 Z71 Z5r
 rw [Zxq s Zji (fun a => decide (a.Kind = 22)) (fun _ _ => rfl), Option.bind_some, Z23 (by simp; omega), Option.bind_some, List.nil_append]
 have hf : ∀ a : Action, Zb4 a (s.any fun a => decide (a.Kind = 22)) = some (!Zai (s.any fun a => decide (a.Kind = 22)) a) := fun a => by
  unfold Zb4 Zai
  rw [Zop, Option.bind_some, Bool.not_not]
 rw [Y1a s _ (fun a => !Zai (s.any fun a => decide (a.Kind = 22)) a) (fun a _ => hf a) (by omega), Option.bind_some]
 simp only [Bool.not_not]
 rw [Yn1 _ (Nat.lt_of_le_of_lt (List.length_filter_le ..) h)]
 rfl
def Zdv (bs : List Bucket) : Prop := bs.length ≤ 3 ∧ ∀ x ∈ bs, x.Acts.length ≤ 12
def Z3d (l : List Group) : Prop := l.length ≤ 9 ∧ ∀ g ∈ l, Zdv g.Buckets
theorem Y3p (bs : List Bucket) (h : ∀ x ∈ bs, x.Acts.length ≤ 12) : ∀ (m i : Nat), i + m = bs.length → Zb0 m i bs = some bs
 | 0, i, _ => by rw [Zb0]
 | m + 1, i, hi => by
  have hlim : lim = 4294967296 := rfl
  have hlt : i < bs.length := by omega
  have ha := h bs[i] (List.getElem_mem hlt)
  have e : List.set bs ((i : Int)).toNat { bs[i] with Acts := bs[i].Acts } = bs := by
   rw [Int.toNat_natCast]; exact List.set_getElem_self hlt
  rw [Zb0, Z39 hlt, Option.bind_some]
  unfold Z71
  rw [Z23 (by simp; omega), Option.bind_some, Option.bind_some, List.nil_append, e]
  exact Y3p bs h m (i + 1) (by omega)
theorem Yo4 (bs : List Bucket) (h : Zdv bs) : Zi6 bs = some bs := by
 have hlim : lim = 4294967296 := rfl
 have := h.1
 unfold Zi6 Znh
 rw [Z23 (by simp; omega), Option.bind_some, List.nil_append, show ((bs.length : Int)).toNat = bs.length by omega]
 exact Y3p bs h.2 bs.length 0 (by omega)
theorem Yka (g : Group) (h : Zdv g.Buckets) : Zjy [g] = some [g] := by
 unfold Zjy Zps
 rw [Z23 (by simp [lim]), Option.bind_some]
 show Ze6 1 0 [g] = _
 rw [Ze6]
 show ((some g).bind fun e8 => _) = _
 rw [Option.bind_some, Yo4 _ h, Option.bind_some]
 rfl
def Z6g (l : List Group) (id : Int) : Option Group := l.find? fun g => decide (g.ID = id)
theorem Zkz (l : List Group) (id : Int) (hl : Z3d l) : Zeg l id = some (match Z6g l id with | none => ((⟨0, 0, []⟩ : Group), false) | some g => (g, true)) := by
 have h9 := hl.1
 unfold Zeg Zny Z6g
 rw [Ztz l (fun x => Zl1 x id) (fun g => decide (g.ID = id)) (fun _ _ => rfl), Option.bind_some, Option.bind_some]
 rcases Zd9 (fun g : Group => decide (g.ID = id)) l with ⟨h1, h2⟩ | ⟨n, h1, h2, h3, h4⟩
 ·rw [decide_eq_true h1, cond_true, h2]
 ·have hs : Zgs l (n : Int) (IntKind.i64.wrap ((n : Int) + 1)) = some [l[n]] := by
   rw [Z2s (by omega) (by omega)]
   unfold Zgs
   rw [decide_eq_true (by omega), decide_eq_true (by omega), Nat.ble_eq_true_of_le (by omega)]
   show some _ = some _
   have e2 : ((n : Int) + 1).toNat = n + 1 := by omega
   have e3 : (l.take n).length = n := by simp; omega
   rw [e2, Int.toNat_natCast, List.take_succ_eq_append_getElem h2, List.drop_append, e3, List.drop_of_length_le (by omega), Nat.sub_self]
   rfl
  rw [decide_eq_false (by omega), cond_false, h1, hs, Option.bind_some, Yka _ (hl.2 _ (List.getElem_mem h2)), Option.bind_some, h3]
  rfl
theorem Zo9 {l : List Group} {id : Int} {g : Group} (h : Z6g l id = some g) : g ∈ l := List.mem_of_find?_eq_some h
def Zd3 (e : Env) (n : Nat) : Int := (Zca e (n : Int)).getD 0
theorem Y02 (e : Env) (n : Nat) (hn : 0 < n) (hn2 : n ≤ 1000) : Zca e (n : Int) = some (Zd3 e n) ∧ 0 ≤ Zd3 e n ∧ Zd3 e n < n := by
 have key : ∃ t, Zca e (n : Int) = some t ∧ 0 ≤ t ∧ t < n := by
  unfold Zca Za1
  rw [decide_eq_false (by omega), cond_false, decide_eq_false (by omega), cond_false, Option.bind_some]
  have h1 := Int.tmod_lt_of_pos e.Turn (show (0 : Int) < n by omega)
  have h2 : -(n : Int) < e.Turn.tmod (n : Int) := by
   have := Int.lt_tmod_of_pos e.Turn (show (0 : Int) < n by omega)
   exact this
  by_cases hc : e.Turn.tmod (n : Int) < 0
  ·rw [decide_eq_true hc, cond_true, Z2s (by omega) (by omega)]
   exact ⟨_, rfl, by omega, by omega⟩
  ·rw [decide_eq_false hc, cond_false]
   exact ⟨_, rfl, by omega, by omega⟩
 obtain ⟨t, ht, h1, h2⟩ := key
 have e : Zd3 e n = t := by unfold Zd3; rw [ht]; rfl
 rw [e]
 exact ⟨ht, h1, h2⟩
def Zhd (e : Env) (bs : List Bucket) : Int := Z08 (fun x => !e.Down.contains x.Watch) bs
def Z40 (e : Env) (g : Group) : List Int :=
 bif decide (g.Buckets.length = 0) then []
 else bif decide (g.Kind = 0) then (List.range' 0 g.Buckets.length).map fun (i : Nat) => (i : Int)
 else bif decide (g.Kind = 1) then [Zd3 e g.Buckets.length]
 else bif decide (g.Kind = 2) then [0]
 else bif decide (g.Kind = 3) then (bif decide (Zhd e g.Buckets ≥ 0) then [Zhd e g.Buckets] else [])
 else []
theorem Zyo : ∀ (m i : Nat) (acc : List Int), acc.length + m ≤ lim → Za9 m i acc = some (acc ++ (List.range' i m).map fun (i : Nat) => (i : Int))
 | 0, i, acc, _ => by rw [Za9]; simp
 | m + 1, i, acc, h => by
  rw [Za9, Z23 (by simp; omega), Option.bind_some, Zyo m (i + 1) _ (by simp; omega), List.range'_succ]
  simp
theorem Y56 (e : Env) (g : Group) (h : Zdv g.Buckets) : Zgo e g = some (Z40 e g) := by
 have hlim : lim = 4294967296 := rfl
 have h3 := h.1
 unfold Zgo Z40
 simp only
 have hz : decide ((g.Buckets.length : Int) = 0) = decide (g.Buckets.length = 0) := by
  rw [decide_eq_decide]; omega
 rw [hz]
 by_cases h0 : g.Buckets.length = 0
 ·rw [decide_eq_true h0]; rfl
 ·rw [decide_eq_false h0, cond_false, cond_false]
  cases decide (g.Kind = 0)
  ·rw [cond_false, cond_false]
   cases decide (g.Kind = 1)
   ·rw [cond_false, cond_false]
    cases decide (g.Kind = 2)
    ·rw [cond_false, cond_false]
     cases decide (g.Kind = 3)
     ·rfl
     ·rw [cond_true, cond_true]
      unfold Znv Zhd
      simp only
      rw [Zvb g.Buckets (fun x => Zf4 x (⟨e, g⟩ : env_world)) (fun x => !e.Down.contains x.Watch) (fun x _ => by unfold Zf4; rw [Y6x]; rfl), Option.bind_some, Option.bind_some]
      cases decide (Z08 (fun x => !e.Down.contains x.Watch) g.Buckets ≥ 0) <;> rfl
    ·rfl
   ·rw [cond_true, cond_true, (Y02 e g.Buckets.length (by omega) (by omega)).1]; rfl
  ·rw [cond_true, cond_true, show ((g.Buckets.length : Int)).toNat = g.Buckets.length by omega, Zyo _ 0 [] (by simp; omega)]
   rfl
theorem Zpj (e : Env) (g : Group) (h : Zdv g.Buckets) : (Z40 e g).length ≤ 3 ∧ ∀ i ∈ Z40 e g, ∃ n : Nat, i = (n : Int) ∧ n < g.Buckets.length := by
 have h3 := h.1
 unfold Z40
 by_cases h0 : g.Buckets.length = 0
 ·rw [decide_eq_true h0]; simp
 ·rw [decide_eq_false h0, cond_false]
  cases decide (g.Kind = 0)
  ·rw [cond_false]
   cases decide (g.Kind = 1)
   ·rw [cond_false]
    cases decide (g.Kind = 2)
    ·rw [cond_false]
     cases decide (g.Kind = 3)
     ·simp
     ·rw [cond_true]
      have hlt := Zl8 (fun x : Bucket => !e.Down.contains x.Watch) g.Buckets
      by_cases hc : Zhd e g.Buckets ≥ 0
      ·rw [decide_eq_true hc, cond_true]
       refine ⟨by simp, fun i hi => ?_⟩
       rw [List.mem_singleton] at hi
       subst hi
       exact ⟨(Zhd e g.Buckets).toNat, by omega, by unfold Zhd at hc ⊢; omega⟩
      ·rw [decide_eq_false hc, cond_false]; simp
    ·refine ⟨by simp, fun i hi => ?_⟩
     simp only [cond_true, List.mem_singleton] at hi
     subst hi
     exact ⟨0, rfl, by omega⟩
   ·obtain ⟨_, h1, h2⟩ := Y02 e g.Buckets.length (by omega) (by omega)
    refine ⟨by simp, fun i hi => ?_⟩
    simp only [cond_true, List.mem_singleton] at hi
    subst hi
    exact ⟨(Zd3 e g.Buckets.length).toNat, by omega, by omega⟩
  ·refine ⟨by simp; omega, fun i hi => ?_⟩
   simp only [cond_true, List.mem_map] at hi
   obtain ⟨n, hn, rfl⟩ := hi
   exact ⟨n, rfl, by have := (List.mem_range'_1.1 hn).2; omega⟩
def Z3j (acts : List Action) : List Action := Z5r (acts.foldl wr1 [])
def Z3k (l : List Action) : Nat := l.countP fun a => decide (a.Kind = 0) || decide (a.Kind = 22)
theorem Yam {a b : Action} (ha : a.Kind ≠ 25) (h : a.Kind = b.Kind) : Z0p a = Z0p b := by
 unfold Z0p
 rw [decide_eq_false ha, decide_eq_false (h ▸ ha), h]; rfl
theorem Zr4 (k : Int) (hk : k ≠ 25) : ∀ l : List Action, (l.map Z0p).Nodup → (l.countP fun a => decide (a.Kind = k)) ≤ 1
 | [], _ => by simp
 | a :: l, h => by
  rw [List.map_cons, List.nodup_cons] at h
  rw [List.countP_cons]
  have ih := Zr4 k hk l h.2
  by_cases ha : a.Kind = k
  ·have : (l.countP fun a => decide (a.Kind = k)) = 0 := by
    rw [List.countP_eq_zero]
    intro b hb hbk
    have hbk' : b.Kind = k := by simpa using hbk
    exact h.1 (List.mem_map.2 ⟨b, hb, (Yam (by rw [ha]; exact hk) (by rw [ha, hbk'])).symm⟩)
   rw [this, decide_eq_true ha]; simp
  ·rw [decide_eq_false ha]; simpa using ih
theorem Y7c {l m : List Action} (h : l.Perm m) : Z3k l = Z3k m := h.countP_eq _
theorem Zoe (acts : List Action) : Z3k (Z3j acts) ≤ 1 := by
 unfold Z3j Z5r
 rw [Y7c (Zzk _ _)]
 have hn := Y2k acts [] (by simp)
 generalize acts.foldl wr1 [] = s at *
 unfold Z3k
 rw [List.countP_filter]
 cases hg : s.any (fun a => decide (a.Kind = 22))
 ·refine Nat.le_trans (List.countP_mono_left fun a ha h => ?_) (Zr4 0 (by decide) s hn)
  rw [List.any_eq_false] at hg
  have := hg a ha
  simp only [Bool.and_eq_true, Bool.or_eq_true, decide_eq_true_eq] at h
  rcases h.1 with h | h
  ·simpa using h
  ·exact absurd (by simpa using h) this
 ·refine Nat.le_trans (List.countP_mono_left fun a ha h => ?_) (Zr4 22 (by decide) s hn)
  simp only [Bool.and_eq_true, Bool.or_eq_true, decide_eq_true_eq] at h
  rcases h.1 with h1 | h1
  ·have h2 := h.2
   unfold Zai at h2
   simp [h1] at h2
  ·simpa using h1
def doA (G : Int → Header → List Out) : List Action → List Out → Header → List Out × Header
 | [], o, h => (o, h)
 | a :: l, o, h => bif decide (a.Kind = 0) then doA G l (o ++ [⟨a.Port, Zl7 a, h⟩]) h
  else bif decide (a.Kind = 22) then doA G l (o ++ G a.Group h) h
  else doA G l o (Z12 (Zgf a) h)
def Z4r (bs : List Bucket) (i : Int) : List Action := match bs[i.toNat]? with
 | some b => b.Acts
 | none => []
def goG (l : List Group) (e : Env) : Nat → Int → Header → List Out
 | 0, _, _ => []
 | d + 1, id, h => match Z6g l id with
  | none => []
  | some g => (Z40 e g).flatMap fun i => (doA (goG l e d) (Z3j (Z4r g.Buckets i)) [] h).1
theorem Z86 (G : Int → Header → List Out) : ∀ (l : List Action) (o : List Out) (h : Header), doA G l o h = (o ++ (doA G l [] h).1, (doA G l [] h).2)
 | [], o, h => by simp [doA]
 | a :: l, o, h => by
  rw [doA, doA]
  cases decide (a.Kind = 0)
  ·rw [cond_false, cond_false]
   cases decide (a.Kind = 22)
   ·rw [cond_false, cond_false]; exact Z86 G l o _
   ·rw [cond_true, cond_true, Z86 G l (o ++ _), Z86 G l ([] ++ _)]; simp
  ·rw [cond_true, cond_true, Z86 G l (o ++ _), Z86 G l ([] ++ _)]; simp
theorem Znp (G : Int → Header → List Out) (B : Nat) (hB : 1 ≤ B) (hG : ∀ id h, (G id h).length ≤ B) : ∀ (l : List Action) (h : Header), (doA G l [] h).1.length ≤ Z3k l * B
 | [], h => by simp [doA]
 | a :: l, h => by
  have ih := Znp G B hB hG l
  unfold Z3k at ih ⊢
  rw [doA, List.countP_cons]
  by_cases h0 : a.Kind = 0
  ·rw [decide_eq_true h0, cond_true, Z86]
   simp only [List.nil_append, List.length_append, List.length_cons, List.length_nil, Bool.true_or, if_true]
   have := ih h
   rw [Nat.add_mul, Nat.one_mul]; omega
  ·rw [decide_eq_false h0, cond_false]
   by_cases h1 : a.Kind = 22
   ·rw [decide_eq_true h1, cond_true, Z86]
    have h2 := hG a.Group h
    simp only [List.nil_append, List.length_append, Bool.or_true, if_true]
    have := ih h
    rw [Nat.add_mul, Nat.one_mul]; omega
   ·rw [decide_eq_false h1, cond_false]
    have := ih (Z12 (Zgf a) h)
    simpa using this
theorem Ztr {α β : Type} (f : α → List β) (k : Nat) : ∀ l : List α, (∀ x ∈ l, (f x).length ≤ k) → (l.flatMap f).length ≤ l.length * k
 | [], _ => by simp
 | x :: l, h => by
  rw [List.flatMap_cons, List.length_append, List.length_cons, Nat.succ_mul]
  have h1 := h x (by simp)
  have h2 := Ztr f k l fun y hy => h y (by simp [hy])
  omega
theorem Zkb (l : List Group) (e : Env) (hl : Z3d l) : ∀ (d : Nat) (id : Int) (h : Header), (goG l e d id h).length ≤ 3 ^ d
 | 0, id, h => by simp [goG]
 | d + 1, id, h => by
  rw [goG]
  cases hf : Z6g l id with
  | none => simp
  | some g =>
   have hb := hl.2 g (Zo9 hf)
   have ht := (Zpj e g hb).1
   have h1 : 1 ≤ 3 ^ d := Nat.pow_pos (by decide)
   have := Ztr (fun i => (doA (goG l e d) (Z3j (Z4r g.Buckets i)) [] h).1) (3 ^ d) (Z40 e g) fun i _ => by
    have h2 := Znp (goG l e d) (3 ^ d) h1 (Zkb l e hl d) (Z3j (Z4r g.Buckets i)) h
    have h3 := Zoe (Z4r g.Buckets i)
    have h4 : Z3k (Z3j (Z4r g.Buckets i)) * 3 ^ d ≤ 1 * 3 ^ d := Nat.mul_le_mul_right _ h3
    omega
   have h5 : (Z40 e g).length * 3 ^ d ≤ 3 * 3 ^ d := Nat.mul_le_mul_right _ ht
   have e1 : 3 ^ (d + 1) = 3 * 3 ^ d := by rw [Nat.pow_succ, Nat.mul_comm]
   show ((Z40 e g).flatMap _).length ≤ _
   omega
theorem Zls (R : Z0l → Int → Option Z0l) (G : Int → Header → List Out) (e : Env) (l : List Group) (dep : Int) (B : Nat) (hB : 1 ≤ B) (hG : ∀ id h, (G id h).length ≤ B)
  (hR : ∀ o id h, o.length + B ≤ lim → R ⟨e, l, o, h, dep⟩ id = some ⟨e, l, o ++ G id h, h, dep⟩) :
  ∀ (acts : List Action) (i : Nat) (o : List Out) (h : Header), o.length + Z3k acts * B ≤ lim → Z8o R acts i o e l h dep = some ⟨e, l, (doA G acts o h).1, (doA G acts o h).2, dep⟩
 | [], i, o, h, _ => by rw [Z8o]; rfl
 | a :: acts, i, o, h, hb => by
  unfold Z3k at hb
  rw [List.countP_cons] at hb
  rw [Z8o, doA]
  by_cases h0 : a.Kind = 0
  ·simp only [decide_eq_true h0, Bool.true_or, if_true, Nat.add_mul, Nat.one_mul] at hb
   rw [decide_eq_true h0, cond_true, cond_true, Ynh, Option.bind_some, Z23 (by simp; omega), Option.bind_some]
   exact Zls R G e l dep B hB hG hR acts (i + 1) _ h (by unfold Z3k; simp; omega)
  ·rw [decide_eq_false h0, cond_false, cond_false]
   by_cases h1 : a.Kind = 22
   ·simp only [decide_eq_true h1, Bool.or_true, if_true, Nat.add_mul, Nat.one_mul] at hb
    have h2 := hG a.Group h
    rw [decide_eq_true h1, cond_true, cond_true, hR o a.Group h (by omega), Option.bind_some]
    exact Zls R G e l dep B hB hG hR acts (i + 1) _ h (by unfold Z3k; simp; omega)
   ·simp only [decide_eq_false h0, decide_eq_false h1, Bool.or_self] at hb
    rw [decide_eq_false h1, cond_false, cond_false, Zyn, Option.bind_some, Zrt, Option.bind_some]
    exact Zls R G e l dep B hB hG hR acts (i + 1) o _ (by unfold Z3k; simpa using hb)
theorem Y4i (R : Z0l → List Action → Option Z0l) (G : Int → Header → List Out) (e : Env) (l : List Group) (g : Group) (hg : Zdv g.Buckets) (r1 : Z0l) (dep : Int) (hd : 0 ≤ dep ∧ dep ≤ 9) (B : Nat) (hB : 1 ≤ B) (hG : ∀ id h, (G id h).length ≤ B)
  (hR : ∀ o acts, Z3k acts ≤ 1 → o.length + B ≤ lim → R ⟨e, l, o, r1.header, dep⟩ acts = some ⟨e, l, (doA G acts o r1.header).1, (doA G acts o r1.header).2, dep⟩) :
  ∀ (ts : List Int) (i : Nat) (o : List Out), (∀ t ∈ ts, ∃ n : Nat, t = (n : Int) ∧ n < g.Buckets.length) → o.length + ts.length * B ≤ lim →
   Za6 (g, true) R r1 ts i o e l r1.header dep = some ⟨e, l, o ++ ts.flatMap fun i => (doA G (Z3j (Z4r g.Buckets i)) [] r1.header).1, r1.header, dep - 1⟩
 | [], i, o, _, _ => by rw [Za6, Z2s (by omega) (by omega)]; simp
 | t :: ts, i, o, ht, hb => by
  have hlim : lim = 4294967296 := rfl
  obtain ⟨n, rfl, hn⟩ := ht t (by simp)
  simp only [List.length_cons, Nat.add_mul, Nat.one_mul] at hb
  have hacts := hg.2 g.Buckets[n] (List.getElem_mem hn)
  have hba : Z4r g.Buckets (n : Int) = g.Buckets[n].Acts := by
   unfold Z4r
   rw [Int.toNat_natCast, List.getElem?_eq_getElem hn]
  have hwl := Zio g.Buckets[n].Acts []
  simp only [List.length_nil, Nat.zero_add] at hwl
  have hlen := Znp G B hB hG (Z3j g.Buckets[n].Acts) r1.header
  have hout := Zoe g.Buckets[n].Acts
  have hmul : Z3k (Z3j g.Buckets[n].Acts) * B ≤ 1 * B := Nat.mul_le_mul_right _ hout
  rw [Za6]
  simp only
  rw [Z39 hn, Option.bind_some, Zmb _ _ (by simp; omega), Option.bind_some, Zuw _ (by omega), Option.bind_some, show Z5r (g.Buckets[n].Acts.foldl wr1 []) = Z3j g.Buckets[n].Acts from rfl, hR o _ hout (by omega), Option.bind_some]
  simp only
  rw [Z86]
  simp only
  rw [Y4i R G e l g hg r1 dep hd B hB hG hR ts (i + 1) _ (fun t h => ht t (by simp [h])) (by rw [List.length_append]; omega), List.flatMap_cons, hba]
  simp
theorem Yb6 (l : List Group) (e : Env) (hl : Z3d l) : ∀ (d : Nat), d ≤ 8 →
  (∀ n o id h, 2 * d + 1 ≤ n → o.length + 3 ^ d ≤ lim → (Z2z n).2 ⟨e, l, o, h, ((8 - d : Nat) : Int)⟩ id = some ⟨e, l, o ++ goG l e d id h, h, ((8 - d : Nat) : Int)⟩) ∧
  (∀ n o acts h, 2 * d + 2 ≤ n → o.length + Z3k acts * 3 ^ d ≤ lim → (Z2z n).1 ⟨e, l, o, h, ((8 - d : Nat) : Int)⟩ acts = some ⟨e, l, (doA (goG l e d) acts o h).1, (doA (goG l e d) acts o h).2, ((8 - d : Nat) : Int)⟩) := by
 have hlim : lim = 4294967296 := rfl
 intro d
 induction d with
 | zero =>
  intro hd
  have h1 : ∀ n o id h, 2 * 0 + 1 ≤ n → o.length + 3 ^ 0 ≤ lim → (Z2z n).2 ⟨e, l, o, h, ((8 - 0 : Nat) : Int)⟩ id = some ⟨e, l, o ++ goG l e 0 id h, h, ((8 - 0 : Nat) : Int)⟩ := by
   intro n o id h hn _
   obtain ⟨n, rfl⟩ : ∃ k, n = k + 1 := ⟨n - 1, by omega⟩
   show Zdm (Z2z n).1 (Z2z n).2 _ _ = _
   unfold Zdm
   simp only
   rw [Zkz l id hl, Option.bind_some]
   have : ∀ x : Group × Bool, ((!x.2) || decide (((8 - 0 : Nat) : Int) ≥ 8)) = true := fun x => by simp
   rw [this]
   simp [goG]
  refine ⟨h1, ?_⟩
  intro n o acts h hn hb
  obtain ⟨n, rfl⟩ : ∃ k, n = k + 1 := ⟨n - 1, by omega⟩
  show Zde (Z2z n).1 (Z2z n).2 _ _ = _
  unfold Zde
  exact Zls _ (goG l e 0) e l _ (3 ^ 0) (by decide) (Zkb l e hl 0) (fun o id h hb => h1 n o id h (by omega) hb) acts 0 o h hb
 | succ d ih =>
  intro hd
  obtain ⟨ih1, ih2⟩ := ih (by omega)
  have hp : 3 ^ (d + 1) = 3 * 3 ^ d := by rw [Nat.pow_succ, Nat.mul_comm]
  have h1 : ∀ n o id h, 2 * (d + 1) + 1 ≤ n → o.length + 3 ^ (d + 1) ≤ lim → (Z2z n).2 ⟨e, l, o, h, ((8 - (d + 1) : Nat) : Int)⟩ id = some ⟨e, l, o ++ goG l e (d + 1) id h, h, ((8 - (d + 1) : Nat) : Int)⟩ := by
   intro n o id h hn hb
   obtain ⟨n, rfl⟩ : ∃ k, n = k + 1 := ⟨n - 1, by omega⟩
   show Zdm (Z2z n).1 (Z2z n).2 _ _ = _
   unfold Zdm
   simp only
   rw [Zkz l id hl, Option.bind_some, goG]
   cases hf : Z6g l id with
   | none => simp
   | some g =>
    have hg := hl.2 g (Zo9 hf)
    obtain ⟨t1, t2⟩ := Zpj e g hg
    simp only [Bool.not_true, Bool.false_or]
    rw [decide_eq_false (by omega), cond_false, Y56 e g hg, Option.bind_some]
    have ew : IntKind.i64.wrap (((8 - (d + 1) : Nat) : Int) + 1) = ((8 - d : Nat) : Int) := by rw [Z2s (by omega) (by omega)]; omega
    rw [ew]
    have hmul : (Z40 e g).length * 3 ^ d ≤ 3 * 3 ^ d := Nat.mul_le_mul_right _ t1
    have := Y4i (Z2z n).1 (goG l e d) e l g hg ⟨e, l, o, h, ((8 - (d + 1) : Nat) : Int)⟩ ((8 - d : Nat) : Int) (by omega) (3 ^ d) (Nat.pow_pos (by decide)) (Zkb l e hl d)
     (fun o acts ho hb => ih2 n o acts h (by omega) (by
      have : Z3k acts * 3 ^ d ≤ 1 * 3 ^ d := Nat.mul_le_mul_right _ ho
      omega)) (Z40 e g) 0 o t2 (by omega)
    simp only at this
    rw [this]
    congr 2
    omega
  refine ⟨h1, ?_⟩
  intro n o acts h hn hb
  obtain ⟨n, rfl⟩ : ∃ k, n = k + 1 := ⟨n - 1, by omega⟩
  show Zde (Z2z n).1 (Z2z n).2 _ _ = _
  unfold Zde
  exact Zls _ (goG l e (d + 1)) e l _ (3 ^ (d + 1)) (Nat.pow_pos (by decide)) (Zkb l e hl (d + 1)) (fun o id h hb => h1 n o id h (by omega) hb) acts 0 o h hb
theorem Yga (l : List Group) (e : Env) (acts : List Action) (h : Header) (hl : Z3d l) (ha : acts.length ≤ 100) : Zhm l e acts h = some (doA (goG l e 8) acts [] h) := by
 have hlim : lim = 4294967296 := rfl
 unfold Zhm Zrj
 have ho : Z3k acts ≤ 100 := Nat.le_trans List.countP_le_length ha
 have hm : Z3k acts * 3 ^ 8 ≤ 100 * 3 ^ 8 := Nat.mul_le_mul_right _ ho
 have := (Yb6 l e hl 8 (by decide)).2 Z0k [] acts h (by unfold Z0k; omega) (by simp only [List.length_nil]; omega)
 rw [show (((8 - 8 : Nat)) : Int) = 0 from rfl] at this
 rw [this]
 rfl
end Go.Proofs.YtknpgojdkobgjaaGreat.W
namespace Go.Proofs.YtknpgojdkobgjaaGreat.W
open Go Go.Wb
theorem Y3n (a b : Cube) : Zhk a b = some (Z5j a b) := by
 unfold Zhk
 rw [Zxr (fun x => Zf5 x a b) (fun i => Z4q (ve a i) (ve b i)) (fun i hi => by unfold Zf5; rw [Z3h hi, Option.bind_some, Option.bind_some, Z55, Z55, Zz0]; rfl)]
 rfl
def Zlw (r : Cube) (a : Action) : Atom := bif decide (a.Kind = 0) then ⟨r, false, a.Port, Zl7 a⟩ else ⟨r, true, a.Group, 0⟩
def Zeo (a : Action) : Bool := decide (a.Kind = 0) || decide (a.Kind = 22)
def doT : List Action → Cube → List Atom × Cube
 | [], r => ([], r)
 | a :: l, r => bif Zeo a then (Zlw r a :: (doT l r).1, (doT l r).2) else doT l (Z5j r (Zgf a))
theorem Yb3 (r : Cube) (o : List Atom) (a : Action) (h : o.length + 1 ≤ lim) : Zdf ⟨r, o⟩ a = some (bif Zeo a then ⟨r, o ++ [Zlw r a]⟩ else ⟨Z5j r (Zgf a), o⟩) := by
 have hj : ∀ x : Atom, Zdc ⟨r, o⟩ x = some ⟨r, o ++ [x]⟩ := fun x => by
  unfold Zdc
  rw [Z23 (by simpa using h), Option.bind_some]
 unfold Zdf Zeo Zlw Zl7
 cases decide (a.Kind = 0)
 ·rw [cond_false]
  cases decide (a.Kind = 22)
  ·rw [cond_false, Zyn, Option.bind_some, Y3n]; rfl
  ·rw [cond_true, hj]; rfl
 ·rw [cond_true]
  cases decide (a.Port = 4294967293)
  ·rw [cond_false, hj]; rfl
  ·rw [cond_true, hj]; rfl
theorem Zrx : ∀ (l : List Action) (i : Nat) (r : Cube) (o : List Atom), o.length + l.length ≤ lim → Zc0 Z68 (fun s x => Zdf s x) l i ⟨r, o⟩ = some ⟨(doT l r).2, o ++ (doT l r).1⟩
 | [], i, r, o, _ => by rw [Zc0]; simp [doT]
 | a :: l, i, r, o, h => by
  simp only [List.length_cons] at h
  rw [Zc0, Yb3 r o a (by omega), Option.bind_some, doT]
  cases Zeo a
  ·rw [cond_false, cond_false, Zrx l (i + 1) _ o (by omega)]
  ·rw [cond_true, cond_true, Zrx l (i + 1) _ _ (by simp; omega)]
   simp
theorem Y43 (acts : List Action) (r : Cube) (h : acts.length ≤ lim) : Zfq acts r = some (doT acts (Z0g r)) := by
 unfold Zfq Zo6
 rw [Zu3, Option.bind_some, Zrx acts 0 _ [] (by simpa using h), Option.bind_some]
 rfl
theorem Zgv : ∀ (l : List Action) (r : Cube), (doT l r).1.length = Z3k l
 | [], r => rfl
 | a :: l, r => by
  have ih := Zgv l
  unfold Z3k at ih ⊢
  rw [doT, List.countP_cons]
  show _ = _ + if Zeo a = true then 1 else 0
  cases Zeo a
  ·simp [ih]
  ·simp [ih]
end Go.Proofs.YtknpgojdkobgjaaGreat.W
namespace Go.Proofs.YtknpgojdkobgjaaGreat.W
open Go Go.Wb
def Z2v (G : Int → Cube → List Atom) : List Atom → List Atom
 | [] => []
 | x :: l => (bif x.Group then G x.Port x.Rewrite else [{ x with Rewrite := Z0g x.Rewrite }]) ++ Z2v G l
def goN (l : List Group) (e : Env) : Nat → Int → Cube → List Atom
 | 0, _, _ => []
 | d + 1, id, r => match Z6g l id with
  | none => []
  | some g => (Z40 e g).flatMap fun i => Z2v (goN l e d) (doT (Z3j (Z4r g.Buckets i)) (Z0g r)).1
theorem Zr0 (G : Int → Cube → List Atom) (B : Nat) (hB : 1 ≤ B) (hG : ∀ id r, (G id r).length ≤ B) : ∀ a : List Atom, (Z2v G a).length ≤ a.length * B
 | [] => by simp [Z2v]
 | x :: a => by
  have ih := Zr0 G B hB hG a
  rw [Z2v, List.length_append, List.length_cons, Nat.add_mul, Nat.one_mul]
  have : (bif x.Group then G x.Port x.Rewrite else [{ x with Rewrite := Z0g x.Rewrite }]).length ≤ B := by
   cases x.Group
   ·simpa using hB
   ·exact hG _ _
  omega
theorem Zpr (l : List Group) (e : Env) (hl : Z3d l) : ∀ (d : Nat) (id : Int) (r : Cube), (goN l e d id r).length ≤ 3 ^ d
 | 0, id, r => by simp [goN]
 | d + 1, id, r => by
  rw [goN]
  cases hf : Z6g l id with
  | none => simp
  | some g =>
   have hb := hl.2 g (Zo9 hf)
   have ht := (Zpj e g hb).1
   have h1 : 1 ≤ 3 ^ d := Nat.pow_pos (by decide)
   have := Ztr (fun i => Z2v (goN l e d) (doT (Z3j (Z4r g.Buckets i)) (Z0g r)).1) (3 ^ d) (Z40 e g) fun i _ => by
    have h2 := Zr0 (goN l e d) (3 ^ d) h1 (Zpr l e hl d) (doT (Z3j (Z4r g.Buckets i)) (Z0g r)).1
    rw [Zgv] at h2
    have h3 := Zoe (Z4r g.Buckets i)
    have h4 : Z3k (Z3j (Z4r g.Buckets i)) * 3 ^ d ≤ 1 * 3 ^ d := Nat.mul_le_mul_right _ h3
    omega
   have h5 : (Z40 e g).length * 3 ^ d ≤ 3 * 3 ^ d := Nat.mul_le_mul_right _ ht
   have e1 : 3 ^ (d + 1) = 3 * 3 ^ d := by rw [Nat.pow_succ, Nat.mul_comm]
   show ((Z40 e g).flatMap _).length ≤ _
   omega
theorem Zlz (R : norm_world → Int → Cube → Option (List Atom)) (w : norm_world) (G : Int → Cube → List Atom) (B : Nat) (hB : 1 ≤ B) (hG : ∀ id r, (G id r).length ≤ B) (hR : ∀ id r, R w id r = some (G id r)) :
  ∀ (a : List Atom) (i : Nat) (acc : List Atom), acc.length + a.length * B ≤ lim → Z9r R w a i acc = some (acc ++ Z2v G a)
 | [], i, acc, _ => by rw [Z9r]; simp [Z2v]
 | x :: a, i, acc, h => by
  simp only [List.length_cons, Nat.add_mul, Nat.one_mul] at h
  rw [Z9r, Z2v]
  cases x.Group
  ·rw [cond_false, cond_false, Zu3, Option.bind_some, Z23 (by simp; omega), Option.bind_some, Zlz R w G B hB hG hR a (i + 1) _ (by simp; omega)]
   simp
  ·have h2 := hG x.Port x.Rewrite
   rw [cond_true, cond_true, hR, Option.bind_some, Z23 (by omega), Option.bind_some, Zlz R w G B hB hG hR a (i + 1) _ (by rw [List.length_append]; omega)]
   simp
theorem Y3l (R : norm_world → List Atom → Option (List Atom)) (w w2 : norm_world) (hw : { w with depth := (IntKind.i64.wrap (w.depth + 1)) } = w2) (G : Int → Cube → List Atom) (r : Cube) (g : Group) (hg : Zdv g.Buckets) (B : Nat) (hB : 1 ≤ B) (hG : ∀ id r, (G id r).length ≤ B)
  (hR : ∀ a : List Atom, a.length ≤ 1 → R w2 a = some (Z2v G a)) :
  ∀ (ts : List Int) (i : Nat) (acc : List Atom), (∀ t ∈ ts, ∃ n : Nat, t = (n : Int) ∧ n < g.Buckets.length) → acc.length + ts.length * B ≤ lim →
   Zc4 (g, true) r R w ts i acc = some (acc ++ ts.flatMap fun i => Z2v G (doT (Z3j (Z4r g.Buckets i)) (Z0g r)).1)
 | [], i, acc, _, _ => by rw [Zc4]; simp
 | t :: ts, i, acc, ht, hb => by
  have hlim : lim = 4294967296 := rfl
  obtain ⟨n, rfl, hn⟩ := ht t (by simp)
  simp only [List.length_cons, Nat.add_mul, Nat.one_mul] at hb
  have hacts := hg.2 g.Buckets[n] (List.getElem_mem hn)
  have hba : Z4r g.Buckets (n : Int) = g.Buckets[n].Acts := by
   unfold Z4r
   rw [Int.toNat_natCast, List.getElem?_eq_getElem hn]
  have hwl := Zio g.Buckets[n].Acts []
  simp only [List.length_nil, Nat.zero_add] at hwl
  have hsl : (Z3j g.Buckets[n].Acts).length ≤ 12 := by
   unfold Z3j Z5r
   rw [(Zzk _ _).length_eq]
   exact Nat.le_trans (List.length_filter_le ..) (by omega)
  have hout := Zoe g.Buckets[n].Acts
  have h1 : (doT (Z3j g.Buckets[n].Acts) (Z0g r)).1.length ≤ 1 := by rw [Zgv]; exact hout
  have h2 := Zr0 G B hB hG (doT (Z3j g.Buckets[n].Acts) (Z0g r)).1
  have h3 : (doT (Z3j g.Buckets[n].Acts) (Z0g r)).1.length * B ≤ 1 * B := Nat.mul_le_mul_right _ h1
  rw [Zc4]
  simp only
  rw [Z39 hn, Option.bind_some, Zmb _ _ (by simp; omega), Option.bind_some, Zuw _ (by omega), Option.bind_some, show Z5r (g.Buckets[n].Acts.foldl wr1 []) = Z3j g.Buckets[n].Acts from rfl, Y43 _ r (by omega), Option.bind_some, hw, hR _ h1, Option.bind_some, Z23 (by omega), Option.bind_some,
   Y3l R w w2 hw G r g hg B hB hG hR ts (i + 1) _ (fun t h => ht t (by simp [h])) (by rw [List.length_append]; omega), List.flatMap_cons, hba]
  simp
theorem Yhs (l : List Group) (e : Env) (hl : Z3d l) : ∀ (d : Nat), d ≤ 8 →
  (∀ n id r, 2 * d + 1 ≤ n → (Z33 n).2 ⟨e, l, ((8 - d : Nat) : Int)⟩ id r = some (goN l e d id r)) ∧
  (∀ n a, 2 * d + 2 ≤ n → a.length * 3 ^ d ≤ lim → (Z33 n).1 ⟨e, l, ((8 - d : Nat) : Int)⟩ a = some (Z2v (goN l e d) a)) := by
 have hlim : lim = 4294967296 := rfl
 intro d
 induction d with
 | zero =>
  intro hd
  have h1 : ∀ n id r, 2 * 0 + 1 ≤ n → (Z33 n).2 ⟨e, l, ((8 - 0 : Nat) : Int)⟩ id r = some (goN l e 0 id r) := by
   intro n id r hn
   obtain ⟨n, rfl⟩ : ∃ k, n = k + 1 := ⟨n - 1, by omega⟩
   show Zer (Z33 n).1 (Z33 n).2 _ _ _ = _
   unfold Zer
   simp only
   rw [Zkz l id hl, Option.bind_some]
   have : ∀ x : Group × Bool, ((!x.2) || decide (((8 - 0 : Nat) : Int) ≥ 8)) = true := fun x => by simp
   rw [this]
   rfl
  refine ⟨h1, ?_⟩
  intro n a hn hb
  obtain ⟨n, rfl⟩ : ∃ k, n = k + 1 := ⟨n - 1, by omega⟩
  show Zdt (Z33 n).1 (Z33 n).2 _ _ = _
  unfold Zdt
  exact Zlz _ _ (goN l e 0) (3 ^ 0) (by decide) (Zpr l e hl 0) (fun id r => h1 n id r (by omega)) a 0 [] (by simp only [List.length_nil]; omega)
 | succ d ih =>
  intro hd
  obtain ⟨ih1, ih2⟩ := ih (by omega)
  have hp : 3 ^ (d + 1) = 3 * 3 ^ d := by rw [Nat.pow_succ, Nat.mul_comm]
  have hp8 : 3 ^ d ≤ 3 ^ 8 := Nat.pow_le_pow_right (by decide) (by omega)
  have hp9 : (3 : Nat) ^ 8 = 6561 := by decide
  have h1 : ∀ n id r, 2 * (d + 1) + 1 ≤ n → (Z33 n).2 ⟨e, l, ((8 - (d + 1) : Nat) : Int)⟩ id r = some (goN l e (d + 1) id r) := by
   intro n id r hn
   obtain ⟨n, rfl⟩ : ∃ k, n = k + 1 := ⟨n - 1, by omega⟩
   show Zer (Z33 n).1 (Z33 n).2 _ _ _ = _
   unfold Zer
   simp only
   rw [Zkz l id hl, Option.bind_some, goN]
   cases hf : Z6g l id with
   | none => simp
   | some g =>
    have hg := hl.2 g (Zo9 hf)
    obtain ⟨t1, t2⟩ := Zpj e g hg
    simp only [Bool.not_true, Bool.false_or]
    rw [decide_eq_false (by omega), cond_false, Y56 e g hg, Option.bind_some]
    have ew : IntKind.i64.wrap (((8 - (d + 1) : Nat) : Int) + 1) = ((8 - d : Nat) : Int) := by rw [Z2s (by omega) (by omega)]; omega
    have hmul : (Z40 e g).length * 3 ^ d ≤ 3 * 3 ^ d := Nat.mul_le_mul_right _ t1
    have := Y3l (Z33 n).1 ⟨e, l, ((8 - (d + 1) : Nat) : Int)⟩ ⟨e, l, ((8 - d : Nat) : Int)⟩ (by simp only [ew]) (goN l e d) r g hg (3 ^ d) (Nat.pow_pos (by decide)) (Zpr l e hl d)
     (fun a ha => ih2 n a (by omega) (by
      have : a.length * 3 ^ d ≤ 1 * 3 ^ d := Nat.mul_le_mul_right _ ha
      omega)) (Z40 e g) 0 [] t2 (by simp only [List.length_nil]; omega)
    rw [this]
    rfl
  refine ⟨h1, ?_⟩
  intro n a hn hb
  obtain ⟨n, rfl⟩ : ∃ k, n = k + 1 := ⟨n - 1, by omega⟩
  show Zdt (Z33 n).1 (Z33 n).2 _ _ = _
  unfold Zdt
  exact Zlz _ _ (goN l e (d + 1)) (3 ^ (d + 1)) (Nat.pow_pos (by decide)) (Zpr l e hl (d + 1)) (fun id r => h1 n id r (by omega)) a 0 [] (by simp only [List.length_nil]; omega)
theorem Ycl (l : List Group) (e : Env) (a : List Atom) (hl : Z3d l) (ha : a.length ≤ 200000) : Zh0 l e a = some (Z2v (goN l e 8) a) := by
 have hlim : lim = 4294967296 := rfl
 have hp9 : (3 : Nat) ^ 8 = 6561 := by decide
 have hm : a.length * 3 ^ 8 ≤ 200000 * 3 ^ 8 := Nat.mul_le_mul_right _ ha
 unfold Zh0 Zu7
 have := (Yhs l e hl 8 (by decide)).2 Z0k a (by unfold Z0k; omega) (by rw [hp9] at hm ⊢; omega)
 rw [show (((8 - 8 : Nat)) : Int) = 0 from rfl] at this
 rw [this]
 rfl
def Zth (a : Atom) : Prop := a.Group = false ∧ Z0g a.Rewrite = a.Rewrite
theorem Zt3 (G : Int → Cube → List Atom) (hG : ∀ id r, ∀ x ∈ G id r, Zth x) : ∀ a : List Atom, ∀ x ∈ Z2v G a, Zth x
 | [], x, h => by simp [Z2v] at h
 | y :: a, x, h => by
  rw [Z2v, List.mem_append] at h
  rcases h with h | h
  ·cases hy : y.Group
   ·rw [hy] at h
    simp only [cond_false, List.mem_singleton] at h
    subst h
    exact ⟨rfl, Yl9 _⟩
   ·rw [hy] at h
    exact hG _ _ x h
  ·exact Zt3 G hG a x h
theorem Zzn (l : List Group) (e : Env) : ∀ (d : Nat) (id : Int) (r : Cube), ∀ x ∈ goN l e d id r, Zth x
 | 0, id, r, x, h => by simp [goN] at h
 | d + 1, id, r, x, h => by
  rw [goN] at h
  cases hf : Z6g l id with
  | none => rw [hf] at h; simp at h
  | some g =>
   rw [hf] at h
   have h' : x ∈ (Z40 e g).flatMap fun i => Z2v (goN l e d) (doT (Z3j (Z4r g.Buckets i)) (Z0g r)).1 := h
   obtain ⟨i, _, hx⟩ := List.mem_flatMap.1 h'
   exact Zt3 _ (Zzn l e d) _ x hx
end Go.Proofs.YtknpgojdkobgjaaGreat.W
namespace Go.Proofs.YtknpgojdkobgjaaGreat.W
open Go Go.Wb
theorem Ycc (s : List Bucket) (f : Bucket → Option Bool) (p : Bucket → Bool) (hf : ∀ x ∈ s, f x = some (p x)) : Zia s f = some (s.any p) := by
 unfold Zia; rw [Zvb s f p hf, Option.bind_some, Zb1]
theorem Yee (s : List Group) (f : Group → Option Bool) (p : Group → Bool) (hf : ∀ x ∈ s, f x = some (p x)) : Zl5 s f = some (s.any p) := by
 unfold Zl5; rw [Ztz s f p hf, Option.bind_some, Zb1]
def Zgq (bs : List Bucket) (many : Int) : Bool := decide ((bs.length : Int) ≤ many) && !(bs.any fun x => !decide ((x.Acts.length : Int) ≤ 12))
theorem Yi7 (bs : List Bucket) (many : Int) : Zi3 bs many = some (Zgq bs many) := by
 unfold Zi3 Zgq
 rw [Ycc bs Zpu (fun x => !decide ((x.Acts.length : Int) ≤ 12)) (fun x _ => rfl)]
 cases decide ((bs.length : Int) ≤ many) <;> rfl
def Zfk (l : List Group) (many bm : Int) : Bool := decide ((l.length : Int) ≤ many) && !(l.any fun g => !Zgq g.Buckets bm)
theorem Ydy (l : List Group) (many bm : Int) : Zln l many bm = some (Zfk l many bm) := by
 unfold Zln Zfk
 rw [Yee l (fun x => Zfg x bm) (fun g => !Zgq g.Buckets bm) (fun g _ => by unfold Zfg; rw [Yi7]; rfl)]
 cases decide ((l.length : Int) ≤ many) <;> rfl
theorem Yiq {l : List Group} (h : Zfk l 9 3 = true) : Z3d l := by
 unfold Zfk at h
 simp only [Bool.and_eq_true, decide_eq_true_eq, Bool.not_eq_true', List.any_eq_false] at h
 refine ⟨by omega, fun g hg => ?_⟩
 have h1 : Zgq g.Buckets 3 = true := by simpa using h.2 g hg
 unfold Zgq at h1
 simp only [Bool.and_eq_true, decide_eq_true_eq, Bool.not_eq_true', List.any_eq_false] at h1
 refine ⟨by omega, fun x hx => ?_⟩
 have h2 : decide ((x.Acts.length : Int) ≤ 12) = true := by simpa using h1.2 x hx
 rw [decide_eq_true_eq] at h2
 omega
end Go.Proofs.YtknpgojdkobgjaaGreat.W
namespace Go.Proofs.YtknpgojdkobgjaaGreat.W
open Go Go.Wb
theorem inc (n : Nat) (h : n < 9223372036854775807) : IntKind.i64.wrap ((n : Int) + 1) = ((n + 1 : Nat) : Int) := by rw [Z2s (by omega) (by omega)]; omega
theorem Zqp {α : Type} (p : α → Bool) : ∀ (l : List α) (w : Nat), Z08 p l = (w : Int) → ∃ h : w < l.length, p l[w] = true ∧ ∀ (i : Nat) (hi : i < l.length), i < w → p l[i] = false
 | [], w, h => by unfold Z08 at h; omega
 | x :: l, w, h => by
  unfold Z08 at h
  cases hp : p x
  ·rw [hp, cond_false] at h
   by_cases hn : Z08 p l < 0
   ·rw [decide_eq_true hn, cond_true] at h; omega
   ·rw [decide_eq_false hn, cond_false] at h
    obtain ⟨v, rfl⟩ : ∃ v, w = v + 1 := ⟨w - 1, by have := Zfb p l; omega⟩
    obtain ⟨h1, h2, h3⟩ := Zqp p l v (by omega)
    refine ⟨by simpa using h1, by simpa using h2, fun i hi hlt => ?_⟩
    cases i with
    | zero => exact hp
    | succ i => exact h3 i (by simpa using hi) (by omega)
  ·rw [hp, cond_true] at h
   obtain rfl : w = 0 := by omega
   exact ⟨by simp, hp, fun i hi hlt => by omega⟩
end Go.Proofs.YtknpgojdkobgjaaGreat.W
namespace Go.Proofs.YtknpgojdkobgjaaGreat.W
open Go Go.Wb
def Z5a (G : Int → Header → List Out) (h : Header) (x : Atom) : List Out := bif x.Group then G x.Port (Z12 x.Rewrite h) else [⟨x.Port, x.Max, Z12 x.Rewrite h⟩]
end Go.Proofs.YtknpgojdkobgjaaGreat.W
namespace Go.Proofs.YtknpgojdkobgjaaGreat.W
open Go Go.Wb
end Go.Proofs.YtknpgojdkobgjaaGreat.W
namespace Go.Proofs.YtknpgojdkobgjaaGreat.W
open Go Go.Wb
theorem Zr1 (r s : Cube) (h : Header) : Z12 (Z5j r s) h = Z12 s (Z12 r h) := Z74 fun f hf => by
 rw [Z6n _ _ _ hf, Z6n _ _ _ hf, Z6n _ _ _ hf, Ynx _ _ _ hf]
 unfold Z4q Z19
 exact Zat fun i hi => by
  simp only [Z2w, Z5i, Z4v _ _ _ hi]
  cases wt (ve h f) i <;> cases wt (ve r f).Value i <;> cases wt (ve r f).Mask i <;> cases wt (ve s f).Value i <;> cases wt (ve s f).Mask i <;> rfl
theorem Zti (r : Cube) (h : Header) : Z12 (Z0g r) h = Z12 r h := Z74 fun f hf => by
 rw [Z6n _ _ _ hf, Z6n _ _ _ hf, Z9b _ _ hf]
 unfold Z19
 exact Zat fun i hi => by
  simp only [Z2w, Z5i, Z4v _ _ _ hi]
  cases wt (ve h f) i <;> cases wt (ve r f).Value i <;> cases wt (ve r f).Mask i <;> rfl
theorem Zj1 (G : Int → Header → List Out) (h : Header) : ∀ (l : List Action) (r : Cube), doA G l [] (Z12 r h) = ((doT l r).1.flatMap (Z5a G h), Z12 (doT l r).2 h)
 | [], r => rfl
 | a :: l, r => by
  rw [doA, doT]
  unfold Zeo Zlw
  by_cases h0 : a.Kind = 0
  ·rw [decide_eq_true h0]
   simp only [cond_true, Bool.true_or, List.flatMap_cons]
   rw [Z86, Zj1 G h l r]
   rfl
  ·rw [decide_eq_false h0]
   by_cases h1 : a.Kind = 22
   ·rw [decide_eq_true h1]
    simp only [cond_true, cond_false, Bool.false_or, List.flatMap_cons]
    rw [Z86, Zj1 G h l r]
    rfl
   ·rw [decide_eq_false h1]
    simp only [cond_false, Bool.false_or]
    rw [← Zr1, Zj1 G h l _]
end Go.Proofs.YtknpgojdkobgjaaGreat.W
namespace Go.Proofs.YtknpgojdkobgjaaGreat.W
open Go Go.Wb
end Go.Proofs.YtknpgojdkobgjaaGreat.W
namespace Go.Proofs.YtknpgojdkobgjaaGreat.W
open Go Go.Wb
theorem Zyg (a : Wide) : Zfp a = some (Z3y a) := rfl
theorem Y00 (a : Wide) (i : Nat) (h : i < 128) : Zhi a (i : Int) = some (wt a i) := by
 unfold Zhi
 rw [Zrr i h, Option.bind_some, Zxe, Option.bind_some, Zyg, Option.bind_some, Ya1 a i h]
theorem Y7t (n : Nat) (h : n < 18446744073709551616) : Ztf .and .i64 (IntKind.i64.wrap (n : Int)) 127 = ((n % 128 : Nat) : Int) := by
 have e : (BitVec.ofInt 64 (IntKind.i64.wrap (n : Int)) &&& BitVec.ofInt 64 127).toNat = n % 128 := by
  have e1 : BitVec.ofInt 64 (IntKind.i64.wrap (n : Int)) = BitVec.ofNat 64 n := by
   apply BitVec.eq_of_toNat_eq
   rw [BitVec.toNat_ofInt, BitVec.toNat_ofNat]
   simp only [IntKind.wrap, IntKind.signed, IntKind.bits]
   simp
   omega
  have e2 : BitVec.ofInt 64 127 = BitVec.ofNat 64 127 := rfl
  rw [e1, e2, BitVec.toNat_and, BitVec.toNat_ofNat, BitVec.toNat_ofNat, Nat.mod_eq_of_lt h]
  exact Nat.and_two_pow_sub_one_eq_mod n 7
 show IntKind.i64.wrap ((BitVec.ofInt 64 (IntKind.i64.wrap (n : Int)) &&& BitVec.ofInt 64 127).toNat : Int) = _
 rw [e, Z2s (by omega) (by omega)]
def cnt (x : BitVec 64) : Nat := ds 1 64 x.toNat
theorem Y1i (x : BitVec 64) : Zhe x = some (cnt x : Int) := by
 obtain ⟨h0, ha, hb, hbb, hd, he, hf⟩ := Yeb x.toNat x.isLt
 have sh : ∀ (x : BitVec 64) (n : BitVec 64), Z3i x (n.toNat : Int) = some (x >>> n.toNat) := fun x n => Y9h x n.toNat
 unfold Zhe
 simp only [sh, Option.bind_some]
 congr 1
 have t1 : ((1 : BitVec 64)).toNat = 1 := rfl
 have t2 : ((2 : BitVec 64)).toNat = 2 := rfl
 have t4 : ((4 : BitVec 64)).toNat = 4 := rfl
 have t8 : ((8 : BitVec 64)).toNat = 8 := rfl
 have t16 : ((16 : BitVec 64)).toNat = 16 := rfl
 have t32 : ((32 : BitVec 64)).toNat = 32 := rfl
 rw [t1, t2, t4, t8, t16, t32]
 generalize hA : (x >>> 1 &&& (6148914691236517205 : BitVec 64)) + (x &&& (6148914691236517205 : BitVec 64)) = A
 have eA : A.toNat = (x.toNat / 2 &&& 6148914691236517205) + (x.toNat &&& 6148914691236517205) := by
  rw [← hA, BitVec.toNat_add, BitVec.toNat_and, BitVec.toNat_and, BitVec.toNat_ushiftRight, Nat.shiftRight_eq_div_pow]
  exact Nat.mod_eq_of_lt ha
 generalize hB : (A >>> 2 &&& (3689348814741910323 : BitVec 64)) + (A &&& (3689348814741910323 : BitVec 64)) = B
 have eB : B.toNat = (A.toNat / 4 &&& 3689348814741910323) + (A.toNat &&& 3689348814741910323) := by
  rw [← hB, BitVec.toNat_add, BitVec.toNat_and, BitVec.toNat_and, BitVec.toNat_ushiftRight, Nat.shiftRight_eq_div_pow]
  rw [eA]
  exact Nat.mod_eq_of_lt hb
 generalize hC : (B >>> 4 + B) &&& (1085102592571150095 : BitVec 64) = D
 have eC : D.toNat = (B.toNat / 16 + B.toNat) &&& 1085102592571150095 := by
  rw [← hC, BitVec.toNat_and, BitVec.toNat_add, BitVec.toNat_ushiftRight, Nat.shiftRight_eq_div_pow]
  have : (B.toNat / 2 ^ 4 + B.toNat) % 2 ^ 64 = B.toNat / 16 + B.toNat := by
   rw [eB, eA]
   exact Nat.mod_eq_of_lt hbb
  rw [this]; rfl
 rw [← eA, ← eB, ← eC] at hd he hf h0
 generalize hE : D + D >>> 8 = E
 have eE : E.toNat = D.toNat + D.toNat / 256 := by
  rw [← hE, BitVec.toNat_add, BitVec.toNat_ushiftRight, Nat.shiftRight_eq_div_pow]
  exact Nat.mod_eq_of_lt hd
 rw [← eE] at he hf h0
 generalize hG : E + E >>> 16 = G
 have eG : G.toNat = E.toNat + E.toNat / 65536 := by
  rw [← hG, BitVec.toNat_add, BitVec.toNat_ushiftRight, Nat.shiftRight_eq_div_pow]
  exact Nat.mod_eq_of_lt he
 rw [← eG] at hf h0
 generalize hK : G + G >>> 32 = K
 have eK : K.toNat = G.toNat + G.toNat / 4294967296 := by
  rw [← hK, BitVec.toNat_add, BitVec.toNat_ushiftRight, Nat.shiftRight_eq_div_pow]
  exact Nat.mod_eq_of_lt hf
 rw [← eK] at h0
 rw [Y7t _ K.isLt, h0]
 rfl
theorem Zx0 (x : BitVec 64) : cnt x ≤ 64 := by
 unfold cnt
 rw [Zo0]
 exact Nat.le_trans (List.length_filter_le ..) (by simp)
def Za8 (a : Wide) : List Nat := (List.range 128).filter (wt a)
theorem Y9n (a : Wide) : (Za8 a).length = cnt a.Lo + cnt a.Hi := by
 have e : List.range (64 + 64) = List.range 64 ++ (List.range 64).map (64 + ·) := List.range_add
 unfold Za8 cnt
 rw [show (128 : Nat) = 64 + 64 from rfl, e, List.filter_append, List.length_append, Zo0, Zo0, List.filter_map, List.length_map]
 congr 2
theorem Ylz (a : Wide) : Zk0 a = some ((Za8 a).length : Int) := by
 have h1 := Zx0 a.Hi
 have h2 := Zx0 a.Lo
 rw [Y9n]
 unfold Zk0
 rw [Y1i, Option.bind_some, Y1i, Option.bind_some]
 generalize cnt a.Hi = p at *
 generalize cnt a.Lo = q at *
 rw [Z2s (by omega) (by omega)]
 congr 1
 omega
def Z50 (a : Wide) : Nat → List Int
 | 0 => []
 | n + 1 => bif wt a n then (n : Int) :: Z50 a n else Z50 a n
theorem Y1r (a : Wide) : ∀ n, (Z50 a n).length = ((List.range n).filter (wt a)).length
 | 0 => rfl
 | n + 1 => by
  rw [List.range_succ, List.filter_append, List.length_append, Z50, ← Y1r a n]
  cases h : wt a n <;> simp [h]
theorem Zaa (a : Wide) : ∀ (n : Nat) (i : Int), i ∈ Z50 a n ↔ ∃ k : Nat, i = (k : Int) ∧ k < n ∧ wt a k = true
 | 0, i => by simp [Z50]
 | n + 1, i => by
  rw [Z50]
  cases h : wt a n
  ·rw [cond_false, Zaa a n i]
   constructor
   ·rintro ⟨k, rfl, h1, h2⟩; exact ⟨k, rfl, by omega, h2⟩
   ·rintro ⟨k, rfl, h1, h2⟩
    have : k ≠ n := fun e => by rw [e, h] at h2; cases h2
    exact ⟨k, rfl, by omega, h2⟩
  ·rw [cond_true, List.mem_cons, Zaa a n i]
   constructor
   ·rintro (rfl | ⟨k, rfl, h1, h2⟩)
    ·exact ⟨n, rfl, by omega, h⟩
    ·exact ⟨k, rfl, by omega, h2⟩
   ·rintro ⟨k, rfl, h1, h2⟩
    by_cases e : k = n
    ·left; rw [e]
    ·right; exact ⟨k, rfl, by omega, h2⟩
theorem Y9d (a : Wide) : ∀ (n m : Nat) (acc : List Int), n ≤ 128 → n < m → acc.length + (Z50 a n).length = (Za8 a).length → Zbe a m acc ((n : Int) - 1) = some (acc ++ Z50 a n) := by
 have hlim : lim = 4294967296 := rfl
 have hup : (Za8 a).length ≤ 128 := by
  unfold Za8; exact Nat.le_trans (List.length_filter_le ..) (by simp)
 intro n
 induction n with
 | zero =>
  intro m acc h1 h2 h3
  obtain ⟨m, rfl⟩ : ∃ k, m = k + 1 := ⟨m - 1, by omega⟩
  rw [Zbe, decide_eq_false (by omega), Yna, Option.bind_some, Bool.false_and, cond_false]
  simp [Z50]
 | succ n ih =>
  intro m acc h1 h2 h3
  obtain ⟨m, rfl⟩ : ∃ k, m = k + 1 := ⟨m - 1, by omega⟩
  have e : ((n + 1 : Nat) : Int) - 1 = (n : Int) := by omega
  rw [e, Zbe, decide_eq_true (by omega), Z7o, Ylz, Option.bind_some, Bool.true_and]
  by_cases hc : acc.length < (Za8 a).length
  ·have e2 : IntKind.i64.wrap ((n : Int) - 1) = (n : Int) - 1 := Z2s (by omega) (by omega)
   rw [decide_eq_true (by omega), cond_true, Y00 a n (by omega), Option.bind_some, e2, Z50]
   rw [Z50] at h3
   cases hw : wt a n
   ·rw [hw, cond_false] at h3
    rw [cond_false, cond_false, ih m acc (by omega) (by omega) h3]
   ·rw [hw, cond_true, List.length_cons] at h3
    rw [cond_true, cond_true, Z23 (by simp; omega), Option.bind_some, ih m _ (by omega) (by omega) (by simp; omega)]
    simp
  ·rw [decide_eq_false (by omega), cond_false]
   have : Z50 a (n + 1) = [] := List.eq_nil_of_length_eq_zero (by omega)
   rw [this]; simp
end Go.Proofs.YtknpgojdkobgjaaGreat.W
namespace Go.Proofs.YtknpgojdkobgjaaGreat.W
open Go Go.Wb
theorem Zvf (f : Int → Option (Tern × Bool)) (g : Nat → Tern) (hf : ∀ i : Nat, i < 24 → f (i : Int) = some (g i, true)) (b : Cube) : ∀ (m i : Nat), i + m = 24 → Z6x f m i (Z5o g b i) = some (Vector.ofFn (fun i => g i.1), true)
 | 0, i, h => by
  have : i = 24 := by omega
  subst this
  rw [Z6x, Zjc]
 | m + 1, i, h => by
  rw [Z6x, hf i (by omega), Option.bind_some, Bool.not_true, cond_false, Z3h (by omega), Option.bind_some]
  show Z6x f m (i + 1) (Vector.set (Z5o g b i) i (g i) _) = _
  rw [Zku g b i (by omega), Zvf f g hf b m (i + 1) (by omega)]
theorem Zoo (c : Cube) : Zbd c = some (Z0g c) := by
 unfold Zbd Zef
 have := Zvf (fun x => Zg8 x c) (fun i => Z19 (ve c i)) (fun i hi => by unfold Zg8; rw [Z3h hi, Option.bind_some, Z55, Znf]; rfl) (Vector.replicate 24 zTern) 24 0 rfl
 rw [Zlb] at this
 rw [show ((24 : Int)).toNat = 24 from rfl, this]
 rfl
def Yj2 (x y : Tern) : Bool := !Z3y (Z27 (Z27 x.Mask y.Mask) (Z6z x.Value y.Value))
def apart (a b : Atom) : Bool := !(a.Group == b.Group) || decide (a.Port ≠ b.Port) || decide (a.Max ≠ b.Max) || (List.range' 0 24).any fun f => Yj2 (ve a.Rewrite f) (ve b.Rewrite f)
def Z3g (t : Tern) (i : Nat) (on : Bool) : Tern := bif on then ⟨wor (Z4b (Z19 t).Value (Z61 i)) (Z61 i), wor (Z19 t).Mask (Z61 i)⟩ else ⟨Z4b (Z19 t).Value (Z61 i), wor (Z19 t).Mask (Z61 i)⟩
theorem Y54 (t : Tern) (i : Nat) (h : i < 128) (on : Bool) : Zgr t (i : Int) on = some (Z3g t i on) := by
 unfold Zgr
 rw [Zrr i h, Option.bind_some, Znf, Option.bind_some, Ztl, Option.bind_some, Zoj, Option.bind_some]
 cases on
 ·rfl
 ·rw [cond_true, Ztl]; rfl
def Yf0 (c : Cube) (f bit : Nat) (on : Bool) : Option Cube :=
 bif wt (ve c f).Mask bit && (wt (ve c f).Value bit == on) then none else some (Vector.ofFn fun k => if f = k.1 then Z3g (ve c f) bit (!on) else ve c k.1)
theorem Ye3 (c : Cube) (f : Nat) (hf : f < 24) (t : Tern) : Vector.set c f t hf = Vector.ofFn fun k => if f = k.1 then t else ve c k.1 := Z74 fun j hj => by
 rw [Zkd _ _ _ _ _ hj, Z75 (fun k => if f = k then t else ve c k) j hj]
def sgl (x y : Tern) (k : Nat) : Bool × Bool := bif wt x.Mask k == wt y.Mask k then (false, false) else (true, bif wt x.Mask k then wt x.Value k else wt y.Value k)
def rp (c : Cube) (x y : Tern) (f k : Nat) : Option Cube := bif (sgl x y k).1 then Yf0 c f k (sgl x y k).2 else none
def Z3n (t : Tern) (v : Wide) : Bool := Z3y (Z27 (Z6z t.Value v) t.Mask)
theorem Z3b (t : Tern) (v : Wide) : Z3n t v = true ↔ ∀ k, k < 128 → wt t.Mask k = true → wt t.Value k = wt v k := by
 unfold Z3n
 rw [Zb3]
 constructor
 ·intro h k hk hm
  have := h k hk
  rw [Z2w, Zdz, hm] at this
  revert this
  cases wt t.Value k <;> cases wt v k <;> decide
 ·intro h k hk
  rw [Z2w, Zdz]
  cases hm : wt t.Mask k
  ·simp
  ·rw [h k hk hm]; simp
theorem Zxk (t : Tern) (v : Wide) : Zfl t v = some (Z3n t v) := rfl
def Zq (c : Cube) (h : Header) : Bool := (List.range' 0 24).all fun f => Z3n (ve c f) (ve h f)
theorem Zyy (c : Cube) (h : Header) : ∀ (l : List Tern) (i : Nat), i + l.length = 24 → l = (Vector.toList c).drop i → Zay h l i = some ((List.range' i l.length).all fun f => Z3n (ve c f) (ve h f))
 | [], i, h1, h2 => by rw [Zay]; rfl
 | x :: l, i, h1, h2 => by
  simp only [List.length_cons] at h1
  have hi : i < (Vector.toList c).length := by simp; omega
  rw [List.drop_eq_getElem_cons hi] at h2
  obtain ⟨rfl, h3⟩ := List.cons.inj h2
  have hx : (Vector.toList c)[i] = ve c i := by rw [Vector.getElem_toList, Z6o _ _ (by omega)]
  rw [Zay, Z3h (by omega), Option.bind_some, Z55, Zxk, Option.bind_some, Zyy c h l (i + 1) (by omega) h3, List.length_cons, List.range'_succ, List.all_cons, hx]
  cases Z3n (ve c i) (ve h i) <;> rfl
theorem Y4s (c : Cube) (h : Header) : Zek c h = some (Zq c h) := by
 unfold Zek Zq
 have := Zyy c h (Vector.toList c) 0 (by simp) rfl
 rw [this]
 simp
theorem Z3s (c : Cube) (h : Header) : Zq c h = true ↔ ∀ f, f < 24 → Z3n (ve c f) (ve h f) = true := by
 unfold Zq
 rw [List.all_eq_true]
 constructor
 ·intro hh f hf
  exact hh f (by rw [List.mem_range'_1]; omega)
 ·intro hh f hf
  exact hh f (by have := (List.mem_range'_1.1 hf).2; omega)
theorem Zt2 (t : Tern) (v : Wide) : Z3n (Z19 t) v = Z3n t v := by
 rw [Bool.eq_iff_iff, Z3b, Z3b]
 unfold Z19
 constructor
 ·intro h k hk hm
  have := h k hk hm
  rw [Z2w, hm, Bool.and_true] at this
  exact this
 ·intro h k hk hm
  have hm' : wt t.Mask k = true := hm
  rw [Z2w, hm', Bool.and_true]
  exact h k hk hm'
theorem Zjd (c : Cube) (h : Header) : Zq (Z0g c) h = Zq c h := by
 rw [Bool.eq_iff_iff, Z3s, Z3s]
 constructor
 ·intro hh f hf
  have := hh f hf
  rwa [Z9b _ _ hf, Zt2] at this
 ·intro hh f hf
  rw [Z9b _ _ hf, Zt2]
  exact hh f hf
theorem Zya (t : Tern) (i : Nat) (hi : i < 128) (on : Bool) (v : Wide) : Z3n (Z3g t i on) v = true ↔ (∀ k, k < 128 → k ≠ i → wt t.Mask k = true → wt t.Value k = wt v k) ∧ wt v i = on := by
 have hm : ∀ k, k < 128 → wt (Z3g t i on).Mask k = (wt t.Mask k || decide (i = k)) := fun k hk => by
  unfold Z3g Z19
  cases on <;> simp only [cond_true, cond_false, Z5i, Zgp i k hi hk]
 have hv : ∀ k, k < 128 → wt (Z3g t i on).Value k = if i = k then on else (wt t.Value k && wt t.Mask k) := fun k hk => by
  unfold Z3g Z19
  by_cases e : i = k
  ·subst e
   cases on <;> simp [cond_true, cond_false, Z5i, Z4v _ _ _ hk, Z2w, Zgp i i hi hi]
  ·cases on <;> simp [cond_true, cond_false, Z5i, Z4v _ _ _ hk, Z2w, Zgp i k hi hk, e]
 rw [Z3b]
 constructor
 ·intro h
  refine ⟨fun k hk hne hmk => ?_, ?_⟩
  ·have := h k hk (by rw [hm k hk, hmk]; rfl)
   rw [hv k hk, if_neg (fun e => hne e.symm), hmk, Bool.and_true] at this
   exact this
  ·have := h i hi (by rw [hm i hi]; simp)
   rw [hv i hi, if_pos rfl] at this
   exact this.symm
 ·rintro ⟨h1, h2⟩ k hk hmk
  rw [hv k hk]
  by_cases e : i = k
  ·subst e; rw [if_pos rfl, h2]
  ·rw [if_neg e]
   rw [hm k hk] at hmk
   have hmk' : wt t.Mask k = true := by simpa [e] using hmk
   rw [hmk', Bool.and_true]
   exact h1 k hk (fun e' => e e'.symm) hmk'
end Go.Proofs.YtknpgojdkobgjaaGreat.W
namespace Go.Proofs.YtknpgojdkobgjaaGreat.W
open Go Go.Wb
def Z32 (h : Header) (r : Rule) : Bool := Zq r.Cube h
end Go.Proofs.YtknpgojdkobgjaaGreat.W
namespace Go.Proofs.YtknpgojdkobgjaaGreat.W
open Go Go.Wb
theorem Zvs (k : Int) : -1 ≤ Z4d k ∧ Z4d k ≤ 4 := by
 unfold Z4d
 have h1 := Zfb (fun x => decide (k = x)) [18, 17, 25, 22, 0]
 have h2 := Zl8 (fun x => decide (k = x)) [18, 17, 25, 22, 0]
 simp only [List.length_cons, List.length_nil] at h2
 omega
theorem Zpk (a b : Action) : ltA a b = decide (Z4d (Z0p a).kind < Z4d (Z0p b).kind ∨ (Z4d (Z0p a).kind = Z4d (Z0p b).kind ∧ (Z0p a).field < (Z0p b).field)) := by
 have h1 := Zvs (Z0p a).kind
 have h2 := Zvs (Z0p b).kind
 unfold ltA Zkr
 rw [wr (by omega) (by omega)]
 generalize Z4d (Z0p a).kind = x at *
 generalize Z4d (Z0p b).kind = y at *
 generalize (Z0p a).field = f at *
 generalize (Z0p b).field = g at *
 by_cases e : x - y = 0
 ·have e1 : decide (x - y ≠ 0) = false := decide_eq_false (by omega)
  rw [e1, cond_false]
  by_cases h3 : f < g
  ·have e2 : decide (f < g) = true := decide_eq_true h3
   rw [e2, cond_true]
   simp; omega
  ·have e2 : decide (f < g) = false := decide_eq_false h3
   rw [e2, cond_false]
   by_cases h4 : f > g
   ·have e3 : decide (f > g) = true := decide_eq_true h4
    rw [e3, cond_true]
    simp; omega
   ·have e3 : decide (f > g) = false := decide_eq_false h4
    rw [e3, cond_false]
    simp; omega
 ·have e1 : decide (x - y ≠ 0) = true := decide_eq_true (by omega)
  rw [e1, cond_true, decide_eq_decide]
  omega
theorem Y38 : Swo ltA where
 asym := fun a b h => by
  rw [Zpk, decide_eq_true_eq] at h
  rw [Zpk, decide_eq_false_iff_not]
  omega
 neg := fun a b c h k => by
  rw [Zpk, decide_eq_false_iff_not] at h k
  rw [Zpk, decide_eq_false_iff_not]
  omega
theorem Yfl : Z6e ltA Z8s := fun x y => ⟨Zkr x y, Y3k x y, rfl⟩
theorem Zyx (s : List Action) (h : s.length ≤ 100000) : Z79 s = some (Z5r s) := by
 have hlim : lim = 4294967296 := rfl
 unfold Z79 Z71 Z5r
 rw [Zxq s Zji (fun a => decide (a.Kind = 22)) (fun _ _ => rfl), Option.bind_some, Z23 (by simp; omega), Option.bind_some, List.nil_append]
 have hf : ∀ a : Action, Zb4 a (s.any fun a => decide (a.Kind = 22)) = some (!Zai (s.any fun a => decide (a.Kind = 22)) a) := fun a => by
  unfold Zb4 Zai
  rw [Zop, Option.bind_some, Bool.not_not]
 rw [Y1a s _ (fun a => !Zai (s.any fun a => decide (a.Kind = 22)) a) (fun a _ => hf a) (by omega), Option.bind_some]
 simp only [Bool.not_not]
 rw [Yf7 Y38 Yfl _ (Nat.le_trans (List.length_filter_le ..) h)]
 rfl
theorem Zq0 (s : List Action) : (Z5r s).length ≤ s.length := by
 unfold Z5r
 rw [Z2y Y38]
 exact List.length_filter_le ..
def Z3p (a b : Tern) : Option Tern := bif Z3y (Z27 (Z6z a.Value b.Value) (Z27 a.Mask b.Mask)) then some ⟨wor (Z19 a).Value (Z19 b).Value, wor a.Mask b.Mask⟩ else none
def Z3c {α : Type} (z : α) : Option α → α × Bool
 | some a => (a, true)
 | none => (z, false)
theorem Zw6 (a b : Tern) : Zf6 a b = some (Z3c zTern (Z3p a b)) := by
 have h : Zf6 a b = bif !(Z3y (Z27 (Z6z a.Value b.Value) (Z27 a.Mask b.Mask))) then some (zTern, false) else some (⟨wor (Z19 a).Value (Z19 b).Value, wor a.Mask b.Mask⟩, true) := rfl
 rw [h]
 unfold Z3p
 cases Z3y (Z27 (Z6z a.Value b.Value) (Z27 a.Mask b.Mask)) <;> rfl
def Z6v (g : Nat → Option Tern) : Option Cube := bif (List.range 24).all (fun i => (g i).isSome) then some (Vector.ofFn fun i => (g i.1).getD zTern) else none
theorem Zh7 {g : Nat → Option Tern} {c : Cube} (h : Z6v g = some c) (i : Nat) (hi : i < 24) : g i = some (ve c i) := by
 unfold Z6v at h
 cases ha : (List.range 24).all (fun i => (g i).isSome)
 ·rw [ha] at h; cases h
 ·rw [ha, cond_true] at h
  rw [List.all_eq_true] at ha
  have h1 := ha i (by simpa using hi)
  obtain ⟨x, hx⟩ := Option.isSome_iff_exists.1 h1
  rw [← Option.some.inj h, Z75 (fun i => (g i).getD zTern) i hi, hx]; rfl
theorem Zxs {g : Nat → Option Tern} (h : Z6v g = none) : ∃ i, i < 24 ∧ g i = none := by
 unfold Z6v at h
 cases ha : (List.range 24).all (fun i => (g i).isSome)
 ·rw [List.all_eq_false] at ha
  obtain ⟨i, hi, h1⟩ := ha
  exact ⟨i, by simpa using hi, by simpa using h1⟩
 ·rw [ha] at h; cases h
theorem Ylp {g : Nat → Option Tern} {c : Cube} (h : ∀ i, i < 24 → g i = some (ve c i)) : Z6v g = some c := by
 cases hc : Z6v g with
 | none => obtain ⟨i, hi, h1⟩ := Zxs hc; rw [h i hi] at h1; cases h1
 | some d =>
  congr 1
  refine Z74 fun i hi => ?_
  have := Zh7 hc i hi
  rw [h i hi] at this
  exact (Option.some.inj this).symm
theorem Y8c {g : Nat → Option Tern} (i : Nat) (hi : i < 24) (h : g i = none) : Z6v g = none := by
 cases hc : Z6v g with
 | none => rfl
 | some c => have := Zh7 hc i hi; rw [h] at this; cases this
theorem Zuv (f : Int → Option (Tern × Bool)) (g : Nat → Option Tern) (hf : ∀ i : Nat, i < 24 → f (i : Int) = some (Z3c zTern (g i))) : ∀ (m i : Nat) (b : Cube), i + m = 24 → (∀ j, j < i → g j = some (ve b j)) →
  Z6x f m i b = some (Z3c Z2a (Z6v g))
 | 0, i, b, h, hb => by
  rw [Z6x, Ylp (c := b) (fun j hj => hb j (by omega))]; rfl
 | m + 1, i, b, h, hb => by
  rw [Z6x, hf i (by omega), Option.bind_some]
  cases hg : g i with
  | none =>
   rw [Y8c i (by omega) hg]; rfl
  | some t =>
   show (chk 24 (i : Int)).bind _ = _
   rw [Z3h (by omega), Option.bind_some]
   refine Zuv f g hf m (i + 1) _ (by omega) fun j hj => ?_
   rw [Zkd _ _ _ _ _ (by omega)]
   by_cases e : i = j
   ·subst e; rw [if_pos rfl, hg]; rfl
   ·rw [if_neg e]; exact hb j (by omega)
theorem Ymh (f : Int → Option (Tern × Bool)) (g : Nat → Option Tern) (hf : ∀ i : Nat, i < 24 → f (i : Int) = some (Z3c zTern (g i))) : Zef f = some (Z3c Z2a (Z6v g)) := by
 unfold Zef
 exact Zuv f g hf 24 0 _ rfl fun j hj => by omega
def Z4z (a b : Cube) : Option Cube := Z6v fun i => Z3p (ve a i) (ve b i)
theorem Znj (a b : Cube) : Z7y a b = some (Z3c Z2a (Z4z a b)) := by
 unfold Z7y
 rw [Ymh _ (fun i => Z3p (ve a i) (ve b i)) (fun i hi => by unfold Zkw; rw [Z3h hi, Option.bind_some, Option.bind_some, Z55, Z55, Zw6]; rfl)]
 rfl
def Z5q (r c : Cube) : Option Cube := bif (List.range 24).all (fun i => (Z3p (ve r i) (ve c i)).isSome) then some (Vector.ofFn fun i => Z19 ⟨(ve c i.1).Value, Z4b (ve c i.1).Mask (ve r i.1).Mask⟩) else none
theorem Y34 (f : Int → Option Tern) (g : Nat → Tern) (hf : ∀ i : Nat, i < 24 → f (i : Int) = some (g i)) (b : Cube) : ∀ (m i : Nat), i + m = 24 → Z9s f m i (Z5o g b i) = some (Vector.ofFn (fun i => g i.1))
 | 0, i, h => by
  have : i = 24 := by omega
  subst this
  rw [Z9s, Zjc]
 | m + 1, i, h => by
  rw [Z9s, hf i (by omega), Option.bind_some, Z3h (by omega), Option.bind_some]
  show Z9s f m (i + 1) (Vector.set (Z5o g b i) i (g i) _) = _
  rw [Zku g b i (by omega), Y34 f g hf b m (i + 1) (by omega)]
theorem Y9l (f : Int → Option Tern) (g : Nat → Tern) (hf : ∀ i : Nat, i < 24 → f (i : Int) = some (g i)) : Zjv f = some (Vector.ofFn (fun i => g i.1)) := by
 unfold Zjv
 have := Y34 f g hf (Vector.replicate 24 zTern) 24 0 rfl
 rw [Zlb] at this
 exact this
theorem Y2i (r c : Cube) : ∀ (l : List Tern) (i : Nat), i + l.length = 24 → l = (Vector.toList r).drop i → (∀ j, j < i → (Z3p (ve r j) (ve c j)).isSome = true) → Zal c r l i = some (Z3c Z2a (Z5q r c))
 | [], i, h1, h2, h3 => by
  have hi : i = 24 := by simpa using h1
  subst hi
  have hall : (List.range 24).all (fun i => (Z3p (ve r i) (ve c i)).isSome) = true := by
   rw [List.all_eq_true]; intro i hi; exact h3 i (by simpa using hi)
  unfold Z5q
  rw [hall, cond_true, Zal, Y9l _ (fun i => Z19 ⟨(ve c i).Value, Z4b (ve c i).Mask (ve r i).Mask⟩) (fun i hi => by
   unfold Zlp
   rw [Z3h hi, Option.bind_some, Option.bind_some, Option.bind_some, Z55, Z55]; rfl)]
  rfl
 | x :: l, i, h1, h2, h3 => by
  simp only [List.length_cons] at h1
  have hi : i < (Vector.toList r).length := by simp; omega
  rw [List.drop_eq_getElem_cons hi] at h2
  obtain ⟨rfl, h4⟩ := List.cons.inj h2
  have hx : (Vector.toList r)[i] = ve r i := by rw [Vector.getElem_toList, Z6o _ _ (by omega)]
  rw [Zal, hx, Z3h (by omega), Option.bind_some, Z55, Zw6, Option.bind_some]
  cases hm : Z3p (ve r i) (ve c i) with
  | none =>
   have hall : (List.range 24).all (fun i => (Z3p (ve r i) (ve c i)).isSome) = false := by
    rw [List.all_eq_false]
    exact ⟨i, by simp; omega, by simp [hm]⟩
   unfold Z5q
   rw [hall]; rfl
  | some t =>
   exact Y2i r c l (i + 1) (by omega) h4 fun j hj => by
    by_cases e : j = i
    ·subst e; rw [hm]; rfl
    ·exact h3 j (by omega)
theorem Y5v (r c : Cube) : Zfx r c = some (Z3c Z2a (Z5q r c)) := by
 unfold Zfx
 exact Y2i r c (Vector.toList r) 0 (by simp) rfl fun j hj => by omega
def Zfs (c : Cube) (o : Oxm) : Cube := if h : 0 ≤ o.Field ∧ o.Field.toNat < 24 then Vector.set c o.Field.toNat (oxT o) h.2 else c
theorem Y71 (c : Cube) (o : Oxm) (n : Nat) (hn : o.Field = (n : Int)) (h : n < 24) : Zfs c o = Vector.set c n (oxT o) h := by
 unfold Zfs
 rw [dif_pos (by omega)]
 simp [hn]
theorem Ycw (c : Cube) (o : Oxm) (h : ¬ (0 ≤ o.Field ∧ o.Field < 24)) : Zfs c o = c := by
 unfold Zfs
 rw [dif_neg (by omega)]
theorem Ztc : ∀ (l : List Oxm) (i : Nat) (c : Cube), Zc3 l i c = some (l.foldl Zfs c)
 | [], i, c => rfl
 | o :: l, i, c => by
  rw [Zc3, List.foldl_cons]
  unfold Z8c
  rw [Option.bind_some]
  by_cases h : 0 ≤ o.Field ∧ o.Field < 24
  ·obtain ⟨n, hn⟩ : ∃ n : Nat, o.Field = (n : Int) := ⟨o.Field.toNat, by omega⟩
   have hn24 : n < 24 := by have := h.2; omega
   have hd : (decide (o.Field ≥ 0) && decide (o.Field < 24)) = true := by simp; omega
   have hc : chk 24 o.Field = some ⟨n, hn24⟩ := by rw [hn]; exact Z3h hn24
   rw [hd, cond_true, Zw2, Option.bind_some, hc, Option.bind_some, Y71 c o n hn hn24, Ztc l (i + 1)]
  ·have hd : (decide (o.Field ≥ 0) && decide (o.Field < 24)) = false := by
    rw [Bool.and_eq_false_iff, decide_eq_false_iff_not, decide_eq_false_iff_not]; omega
   rw [hd, cond_false, Ycw c o h, Ztc l (i + 1)]
def Yje (l : List Oxm) : Cube := l.foldl Zfs Z2a
def Z8l (f : Flow) : Cube := Z0g (Yje f.Match)
theorem Y3t (f : Flow) : Zg6 f = some (Z8l f) := by
 unfold Zg6 Zp4 Zb5
 rw [Option.bind_some, Ztc, Option.bind_some, Zoo]; rfl
def ofI (l : List Inst) (k : Int) : Option Inst := l.find? fun i => decide (i.Kind = k)
theorem Zyh (s : List Inst) (f : Inst → Option Bool) (p : Inst → Bool) (hf : ∀ x ∈ s, f x = some (p x)) : Zfz s f = some (Z08 p s) := by
 unfold Zfz
 rw [show ((s.length : Int)).toNat = s.length by omega]
 exact Zba p (fun i => by rw [Zc9]) (fun m i => by rw [Zc9]) hf
def Y80 : Inst := ⟨0, 0, Z0j, Z0j, []⟩
theorem Z7z (l : List Inst) (k : Int) (hl : ∀ i ∈ l, i.Acts.length ≤ 12) : Z6a l k = some (Z3c Y80 (ofI l k)) := by
 have hlim : lim = 4294967296 := rfl
 unfold Z6a ofI
 rw [Zyh l (fun x => Zis x k) (fun i => decide (i.Kind = k)) (fun _ _ => rfl), Option.bind_some]
 rcases Zd9 (fun i : Inst => decide (i.Kind = k)) l with ⟨h1, h2⟩ | ⟨n, h1, h2, h3, h4⟩
 ·rw [decide_eq_true h1, cond_true, h2]; rfl
 ·have := hl _ (List.getElem_mem h2)
  rw [decide_eq_false (by omega), cond_false, h1, Z39 h2, Option.bind_some, h3]
  unfold Z71
  rw [Z23 (by simp; omega), Option.bind_some]
  rfl
theorem Za7 {l : List Inst} {k : Int} {i : Inst} (h : ofI l k = some i) : i ∈ l := List.mem_of_find?_eq_some h
end Go.Proofs.YtknpgojdkobgjaaGreat.W
namespace Go.Proofs.YtknpgojdkobgjaaGreat.W
open Go Go.Wb
theorem Zvc {a : Wide} (h : Z3y a = false) : ∃ k, k < 128 ∧ wt a k = true := by
 by_cases hx : ∃ k, k < 128 ∧ wt a k = true
 ·exact hx
 ·exfalso
  have : Z3y a = true := (Zb3 a).2 fun k hk => by
   cases hq : wt a k
   ·rfl
   ·exact absurd ⟨k, hk, hq⟩ hx
  rw [this] at h; cases h
theorem Zqb {a b c : Tern} (h : Z3p a b = some c) (v : Wide) : Z3n c v = true ↔ Z3n a v = true ∧ Z3n b v = true := by
 unfold Z3p at h
 cases hz : Z3y (Z27 (Z6z a.Value b.Value) (Z27 a.Mask b.Mask))
 ·rw [hz] at h; cases h
 ·rw [hz, cond_true] at h
  rw [Zb3] at hz
  obtain rfl := Option.some.inj h
  rw [Z3b, Z3b, Z3b]
  unfold Z19
  simp only [Z5i, Z2w]
  simp only [Z2w, Zdz] at hz
  constructor
  ·intro h1
   refine ⟨fun k hk hm => ?_, fun k hk hm => ?_⟩
   ·have h2 := h1 k hk
    have h3 := hz k hk
    revert h2 h3
    rw [hm]
    cases wt b.Mask k <;> cases wt a.Value k <;> cases wt b.Value k <;> cases wt v k <;> simp
   ·have h2 := h1 k hk
    have h3 := hz k hk
    revert h2 h3
    rw [hm]
    cases wt a.Mask k <;> cases wt a.Value k <;> cases wt b.Value k <;> cases wt v k <;> simp
  ·rintro ⟨ha, hb⟩ k hk hm
   have h1 := ha k hk
   have h2 := hb k hk
   revert hm h1 h2
   cases wt a.Mask k <;> cases wt b.Mask k <;> cases wt a.Value k <;> cases wt b.Value k <;> cases wt v k <;> simp
theorem Yh0 {a b : Tern} (h : Z3p a b = none) (v : Wide) (ha : Z3n a v = true) (hb : Z3n b v = true) : False := by
 unfold Z3p at h
 cases hz : Z3y (Z27 (Z6z a.Value b.Value) (Z27 a.Mask b.Mask))
 ·obtain ⟨k, hk, h1⟩ := Zvc hz
  have h2 := (Z3b a v).1 ha k hk
  have h3 := (Z3b b v).1 hb k hk
  simp only [Z2w, Zdz] at h1
  revert h1 h2 h3
  cases wt a.Mask k <;> cases wt b.Mask k <;> cases wt a.Value k <;> cases wt b.Value k <;> cases wt v k <;> simp
 ·rw [hz] at h; cases h
theorem Zze {a b c : Cube} (h : Z4z a b = some c) (v : Header) : Zq c v = true ↔ Zq a v = true ∧ Zq b v = true := by
 unfold Z4z at h
 rw [Z3s, Z3s, Z3s]
 constructor
 ·intro h1
  exact ⟨fun f hf => ((Zqb (Zh7 h f hf) _).1 (h1 f hf)).1, fun f hf => ((Zqb (Zh7 h f hf) _).1 (h1 f hf)).2⟩
 ·rintro ⟨ha, hb⟩ f hf
  exact (Zqb (Zh7 h f hf) _).2 ⟨ha f hf, hb f hf⟩
theorem Zra {a b : Cube} (h : Z4z a b = none) (v : Header) (ha : Zq a v = true) (hb : Zq b v = true) : False := by
 unfold Z4z at h
 obtain ⟨f, hf, h1⟩ := Zxs h
 exact Yh0 h1 (ve v f) ((Z3s _ _).1 ha f hf) ((Z3s _ _).1 hb f hf)
theorem Y1y {a b : Tern} (h : (Z3p a b).isSome = true) (k : Nat) (hk : k < 128) : ((wt a.Value k != wt b.Value k) && (wt a.Mask k && wt b.Mask k)) = false := by
 unfold Z3p at h
 cases hz : Z3y (Z27 (Z6z a.Value b.Value) (Z27 a.Mask b.Mask))
 ·rw [hz] at h; cases h
 ·rw [Zb3] at hz
  have := hz k hk
  simpa only [Z2w, Zdz] using this
end Go.Proofs.YtknpgojdkobgjaaGreat.W
namespace Go.Proofs.YtknpgojdkobgjaaGreat.W
open Go Go.Wb
def Z8n (x a : Tern) : List Int := Z50 (Z4b x.Mask a.Mask) 128
theorem Yb7 (a x : Tern) : Zi2 a x = some (Z8n x a) := by
 unfold Zi2 Z8n
 rw [Zoj, Option.bind_some]
 have := Y9d (Z4b x.Mask a.Mask) 128 Z0k [] (by omega) (by unfold Z0k; omega) (by rw [Y1r]; simp [Za8])
 simpa using this
def Z53 (c : Cube) (f : Nat) (t : Tern) : Cube := Vector.ofFn fun k => if f = k.1 then t else ve c k.1
theorem Zxj (c : Cube) (f : Nat) (hf : f < 24) (t : Tern) : Vector.set c f t hf = Z53 c f t := Ye3 c f hf t
theorem Zg1 (c : Cube) (f : Nat) (t : Tern) (g : Nat) (hg : g < 24) : ve (Z53 c f t) g = if f = g then t else ve c g := Z75 (fun k => if f = k then t else ve c k) g hg
def Z38 (xv : Wide) (f : Nat) : List Int → Cube → List Cube × Cube
 | [], left => ([], left)
 | i :: l, left => (Z53 left f (Z3g (ve left f) i.toNat (!wt xv i.toNat)) :: (Z38 xv f l (Z53 left f (Z3g (ve left f) i.toNat (wt xv i.toNat)))).1, (Z38 xv f l (Z53 left f (Z3g (ve left f) i.toNat (wt xv i.toNat)))).2)
def Z78 (x : Cube) : Nat → Nat → Cube → List Cube
 | 0, f, left => []
 | m + 1, f, left => (Z38 (ve x f).Value f (Z8n (ve x f) (ve left f)) left).1 ++ Z78 x m (f + 1) (Z38 (ve x f).Value f (Z8n (ve x f) (ve left f)) left).2
def Z3u (a x : Cube) : Bool := (Z4z a x).isSome
def Z3x (a x : Cube) : List Cube := bif Z3u a x then Z78 x 24 0 (Z0g a) else [Z0g a]
def Zi4 (l : List Int) : Prop := ∀ i ∈ l, ∃ k : Nat, i = (k : Int) ∧ k < 128
theorem Zn7 (x a : Tern) : Zi4 (Z8n x a) := fun i hi => by
 obtain ⟨k, h1, h2, _⟩ := (Zaa _ _ _).1 hi
 exact ⟨k, h1, h2⟩
theorem Zz8 (sg : Type) (y : sg → Cube → Option (Lp sg)) (go : Nat → Cube → Lp sg → Option (Lp sg)) (f : Nat) (hf : f < 24) (x : Tern) : ∀ (l : List Int) (k : Nat) (left : Cube) (s : sg), Zi4 l →
  Zey sg go f x y l k left (.go s) = (yf y (Z38 x.Value f l left).1 s).bind fun r => match r with
   | .go s' => go (f + 1) (Z38 x.Value f l left).2 (.go s')
   | .out c s' => some (.out c s')
 | [], k, left, s, _ => rfl
 | i :: l, k, left, s, hl => by
  obtain ⟨b, rfl, hb⟩ := hl i (by simp)
  have ih := fun left s => Zz8 sg y go f hf x l (k + 1) left s fun j hj => hl j (by simp [hj])
  rw [Zey, Y00 _ b hb, Option.bind_some, Z3h hf, Option.bind_some, Z55, Y54 _ b hb, Option.bind_some, Option.bind_some, Zxj]
  rw [Z38, Int.toNat_natCast, yf]
  show (y s _).bind _ = _
  cases y s (Z53 left f (Z3g (ve left f) b (!wt x.Value b))) with
  | none => rfl
  | some r =>
   cases r with
   | out c q => rfl
   | go q =>
    simp only [Option.bind_some, Lp.isGo, Bool.not_true, cond_false]
    rw [Z55, Y54 _ b hb, Option.bind_some, Zxj, ih]
theorem Y42 (sg : Type) (y : sg → Cube → Option (Lp sg)) (x : Cube) : ∀ (l : List Tern) (f : Nat) (left : Cube) (s : sg), f + l.length = 24 → l = (Vector.toList x).drop f →
  Za0 sg y l f left (.go s) = yf y (Z78 x l.length f left) s
 | [], f, left, s, h1, h2 => rfl
 | t :: l, f, left, s, h1, h2 => by
  simp only [List.length_cons] at h1
  have hi : f < (Vector.toList x).length := by simp; omega
  rw [List.drop_eq_getElem_cons hi] at h2
  obtain ⟨rfl, h3⟩ := List.cons.inj h2
  have hx : (Vector.toList x)[f] = ve x f := by rw [Vector.getElem_toList, Z6o _ _ (by omega)]
  have ih := fun left s => Y42 sg y x l (f + 1) left s (by omega) h3
  rw [Za0, Z3h (by omega), Option.bind_some, Z55, hx, Yb7, Option.bind_some, List.length_cons, Z78, Zsu]
  cases hb : Z8n (ve x f) (ve left f) with
  | nil =>
   rw [decide_eq_true (by simp), cond_true, ih]
   rfl
  | cons i bl =>
   rw [decide_eq_false (by simp; omega), cond_false, Zz8 sg y _ f (by omega) (ve x f) _ 0 left s (by rw [← hb]; exact Zn7 _ _)]
   cases yf y (Z38 (ve x f).Value f (i :: bl) left).1 s with
   | none => rfl
   | some r =>
    cases r with
    | out c q => rfl
    | go q => exact ih _ q
theorem Zx8 (sg : Type) (y : sg → Cube → Option (Lp sg)) (a x : Cube) (s : sg) : Zaz sg y (.go s) a x = yf y (Z3x a x) s := by
 unfold Zaz Z3x Z3u
 rw [Zoo, Option.bind_some, Znj, Option.bind_some]
 cases Z4z a x with
 | none =>
  show (bif (!false) then _ else _) = yf y [Z0g a] s
  rw [Bool.not_false, cond_true, yf]
  show (y s (Z0g a)).bind _ = _
  cases y s (Z0g a) with
  | none => rfl
  | some r => cases r <;> rfl
 | some z =>
  show (bif (!true) then _ else _) = yf y (Z78 x 24 0 (Z0g a)) s
  rw [Bool.not_true, cond_false]
  have := Y42 sg y x (Vector.toList x) 0 (Z0g a) s (by simp) rfl
  rw [this]; simp
theorem Y20 (xv : Wide) (f : Nat) : ∀ (l : List Int) (left : Cube) (g : Nat), g < 24 → g ≠ f → ve (Z38 xv f l left).2 g = ve left g
 | [], left, g, _, _ => rfl
 | i :: l, left, g, hg, hne => by
  rw [Z38]
  show ve (Z38 xv f l _).2 g = _
  rw [Y20 xv f l _ g hg hne, Zg1 _ _ _ _ hg, if_neg (fun e => hne e.symm)]
theorem Ybj (a x : Cube) : Z3u a x = (List.range' 0 24).all fun f => (Z3p (ve a f) (ve x f)).isSome := by
 unfold Z3u Z4z Z6v
 rw [List.range_eq_range']
 cases (List.range' 0 24).all fun f => (Z3p (ve a f) (ve x f)).isSome <;> rfl
end Go.Proofs.YtknpgojdkobgjaaGreat.W
namespace Go.Proofs.YtknpgojdkobgjaaGreat.W
open Go Go.Wb
def Zet (a b : Tern) : Bool := Z3y (Z4b b.Mask a.Mask) && Z3n b a.Value
theorem Yj6 (a b : Tern) : Zjz a b = some (Zet a b) := by
 unfold Zjz Zet
 rw [Zoj, Option.bind_some, Zyg, Option.bind_some, Zxk]
 cases Z3y (Z4b b.Mask a.Mask) <;> rfl
def Z66 (a b : Cube) : Bool := (List.range' 0 24).all fun f => Zet (ve a f) (ve b f)
theorem Y2u (a b : Cube) : ∀ (l : List Tern) (i : Nat), i + l.length = 24 → l = (Vector.toList a).drop i → Zar b l i = some ((List.range' i l.length).all fun f => Zet (ve a f) (ve b f))
 | [], i, h1, h2 => by rw [Zar]; rfl
 | x :: l, i, h1, h2 => by
  simp only [List.length_cons] at h1
  have hi : i < (Vector.toList a).length := by simp; omega
  rw [List.drop_eq_getElem_cons hi] at h2
  obtain ⟨rfl, h3⟩ := List.cons.inj h2
  have hx : (Vector.toList a)[i] = ve a i := by rw [Vector.getElem_toList, Z6o _ _ (by omega)]
  rw [Zar, Z3h (by omega), Option.bind_some, Z55, Yj6, Option.bind_some, Y2u a b l (i + 1) (by omega) h3, List.length_cons, List.range'_succ, List.all_cons, hx]
  cases Zet (ve a i) (ve b i) <;> rfl
theorem Yla (a b : Cube) : Zi5 a b = some (Z66 a b) := by
 unfold Zi5 Z66
 have := Y2u a b (Vector.toList a) 0 (by simp) rfl
 rw [this]; simp
theorem Yfk {a b : Cube} (h : Z66 a b = true) : Z3u a b = true := by
 rw [Ybj]
 unfold Z66 at h
 rw [List.all_eq_true] at h ⊢
 intro f hf
 have h1 := h f hf
 unfold Zet at h1
 rw [Bool.and_eq_true] at h1
 have h2 := (Z3b _ _).1 h1.2
 unfold Z3p
 have : Z3y (Z27 (Z6z (ve a f).Value (ve b f).Value) (Z27 (ve a f).Mask (ve b f).Mask)) = true := (Zb3 _).2 fun k hk => by
  have h3 := h2 k hk
  simp only [Z2w, Zdz]
  revert h3
  cases wt (ve b f).Mask k <;> cases wt (ve a f).Mask k <;> cases wt (ve a f).Value k <;> cases wt (ve b f).Value k <;> simp
 rw [this]; rfl
def Z54 (c : Cube) : Header := Vector.ofFn fun f => (Z19 (ve c f.1)).Value
theorem Zzb (c : Cube) (b : Header) : ∀ (l : List Tern) (i : Nat), i + l.length = 24 → l = (Vector.toList c).drop i → Z9l l i (Z5o (fun f => (Z19 (ve c f)).Value) b i) = some (Z54 c)
 | [], i, h1, h2 => by
  have : i = 24 := by simpa using h1
  subst this
  rw [Z9l, Zjc]; rfl
 | x :: l, i, h1, h2 => by
  simp only [List.length_cons] at h1
  have hi : i < (Vector.toList c).length := by simp; omega
  rw [List.drop_eq_getElem_cons hi] at h2
  obtain ⟨rfl, h3⟩ := List.cons.inj h2
  have hx : (Vector.toList c)[i] = ve c i := by rw [Vector.getElem_toList, Z6o _ _ (by omega)]
  rw [Z9l, Znf, Option.bind_some, Z3h (by omega), Option.bind_some, hx]
  show Z9l l (i + 1) (Vector.set (Z5o (fun f => (Z19 (ve c f)).Value) b i) i ((Z19 (ve c i)).Value) _) = _
  rw [Zku (fun f => (Z19 (ve c f)).Value) b i (by omega), Zzb c b l (i + 1) (by omega) h3]
theorem Zy3 (c : Cube) : Zfj c = some (Z54 c) := by
 unfold Zfj
 have := Zzb c (Vector.replicate 24 Z0j) (Vector.toList c) 0 (by simp) rfl
 rw [Zlb] at this
 exact this
def Z4i : Header := Vector.replicate 24 Z0j
def Z5l (c : Cube) : List Cube → Nat → Option Nat
 | [], i => none
 | x :: l, i => bif Z3u c x then some i else Z5l c l (i + 1)
def Z41 (R : Cube → Int → Header × Bool × Int) : List Cube → Int → Header × Bool × Int
 | [], n => (Z4i, false, n)
 | p :: ps, n => bif (R p n).2.1 || decide ((R p n).2.2 < 0) then R p n else Z41 R ps (R p n).2.2
def Z4o (free : Bool) : Nat → Cube → List Cube → Int → Header × Bool × Int
 | 0, _, _, _ => (Z4i, false, -1)
 | d + 1, c, l, n => bif !free && decide (n < 1) then (Z4i, false, -1) else
   bif l.any (Z66 c) then (Z4i, false, bif free then n else n - 1) else
    match Z5l c l 0 with
    | none => (Z54 c, true, bif free then n else n - 1)
    | some i => match l[i]? with
     | none => (Z4i, false, -1)
     | some x => Z41 (fun p m => Z4o free d p (l.drop (i + 1)) m) (Z3x c x) (bif free then n else n - 1)
theorem Zu6 (c : Cube) : ∀ (l : List Cube) (k : Nat), match Z5l c l k with
  | none => ∀ x ∈ l, Z3u c x = false
  | some i => ∃ j, i = k + j ∧ ∃ h : j < l.length, Z3u c l[j] = true ∧ ∀ x ∈ l.take j, Z3u c x = false
 | [], k => by simp [Z5l]
 | x :: l, k => by
  rw [Z5l]
  cases hm : Z3u c x
  ·rw [cond_false]
   have ih := Zu6 c l (k + 1)
   cases hf : Z5l c l (k + 1) with
   | none =>
    rw [hf] at ih
    intro y hy
    rcases List.mem_cons.1 hy with rfl | hy
    ·exact hm
    ·exact ih y hy
   | some i =>
    rw [hf] at ih
    obtain ⟨j, h1, h2, h3, h4⟩ := ih
    refine ⟨j + 1, by omega, by simpa using h2, by simpa using h3, fun y hy => ?_⟩
    rw [List.take_succ_cons] at hy
    rcases List.mem_cons.1 hy with rfl | hy
    ·exact hm
    ·exact h4 y hy
  ·rw [cond_true]
   exact ⟨0, by omega, by simp, by simpa using hm, by simp⟩
theorem Zqa {R : Cube → Int → Header × Bool × Int} (hR : ∀ p m, (R p m).2.1 = false → (R p m).1 = Z4i) : ∀ (ps : List Cube) (n : Int), (Z41 R ps n).2.1 = false → (Z41 R ps n).1 = Z4i
 | [], n, _ => rfl
 | p :: ps, n, h => by
  rw [Z41] at h ⊢
  cases hc : (R p n).2.1 || decide ((R p n).2.2 < 0)
  ·rw [hc, cond_false] at h
   rw [cond_false]
   exact Zqa hR ps _ h
  ·rw [hc, cond_true] at h
   rw [cond_true]
   exact hR _ _ h
theorem Zqv (free : Bool) : ∀ (d : Nat) (c : Cube) (l : List Cube) (n : Int), (Z4o free d c l n).2.1 = false → (Z4o free d c l n).1 = Z4i
 | 0, c, l, n, _ => rfl
 | d + 1, c, l, n, h => by
  rw [Z4o] at h ⊢
  cases h1 : !free && decide (n < 1)
  ·rw [h1, cond_false] at h
   rw [cond_false]
   cases h2 : l.any (Z66 c)
   ·rw [h2, cond_false] at h
    rw [cond_false]
    cases h3 : Z5l c l 0 with
    | none => rw [h3] at h; cases h
    | some i =>
     rw [h3] at h
     simp only at h ⊢
     cases h4 : l[i]? with
     | none => rfl
     | some x =>
      rw [h4] at h
      simp only at h ⊢
      exact Zqa (fun p m => Zqv free d p _ m) _ _ h
   ·rfl
  ·rfl
end Go.Proofs.YtknpgojdkobgjaaGreat.W
namespace Go.Proofs.YtknpgojdkobgjaaGreat.W
open Go Go.Wb
theorem Ykz {α : Type} (z : α) (o : Option α) : (Z3c z o).2 = o.isSome := by cases o <;> rfl
def Zac (c : Cube) (l : List Cube) (i : Nat) (first : Int) : Int := bif decide (first < 0) then (match Z5l c l i with | none => first | some k => (k : Int)) else first
theorem Zoc (c : Cube) : ∀ (l : List Cube) (i : Nat) (first : Int), ∃ j : Int, Z87 c l i first = some (bif l.any (Z66 c) then (true, j) else (false, Zac c l i first))
 | [], i, first => by
  refine ⟨0, ?_⟩
  rw [Z87]
  unfold Zac Z5l
  cases decide (first < 0) <;> rfl
 | x :: l, i, first => by
  rw [Z87, Znj, Option.bind_some, Ykz, List.any_cons]
  show ∃ j, (bif !(Z3u c x) then _ else _) = _
  cases hm : Z3u c x
  ·have hw : Z66 c x = false := by
    cases hw : Z66 c x
    ·rfl
    ·rw [Yfk hw] at hm; cases hm
   obtain ⟨j, hj⟩ := Zoc c l (i + 1) first
   refine ⟨j, ?_⟩
   rw [Bool.not_false, cond_true, hw, Bool.false_or, hj]
   unfold Zac
   rw [Z5l, hm, cond_false]
  ·rw [Bool.not_true, cond_false, Yla, Option.bind_some]
   cases hw : Z66 c x
   ·rw [cond_false, Bool.false_or]
    have hf : ∀ f : Int, Zac c (x :: l) i f = bif decide (f < 0) then (i : Int) else f := fun f => by
     unfold Zac
     rw [Z5l, hm, cond_true]
    by_cases h : first < 0
    ·obtain ⟨j, hj⟩ := Zoc c l (i + 1) (i : Int)
     refine ⟨j, ?_⟩
     rw [decide_eq_true h, cond_true, hj, hf, decide_eq_true h, cond_true]
     unfold Zac
     rw [decide_eq_false (by omega), cond_false]
    ·obtain ⟨j, hj⟩ := Zoc c l (i + 1) first
     refine ⟨j, ?_⟩
     rw [decide_eq_false h, cond_false, hj, hf, decide_eq_false h, cond_false]
     unfold Zac
     rw [decide_eq_false h, cond_false]
   ·exact ⟨_, rfl⟩
theorem Y33 {α : Type} (l : List α) (i : Nat) (h : i ≤ l.length) : Z7k l (i : Int) = some (l.drop i) := by
 unfold Z7k
 rw [decide_eq_true (by omega), Int.toNat_natCast, Nat.ble_eq_true_of_le h]; rfl
def cl (n : Int) (free : Bool) : cover_look := ⟨⟨n, free⟩⟩
def Zga (free : Bool) (N : Int) (f : Option (Header × Bool × Bool × cover_look)) (n : Int) (r : Header × Bool × Int) : Prop :=
 ∃ s', f = some (r.1, r.2.1, decide (0 ≤ r.2.2), s') ∧ (0 ≤ r.2.2 → s' = cl r.2.2 free ∧ r.2.2 ≤ N)
theorem Zxv (free : Bool) (N : Int) (l : List Cube) (i : Nat) (hi : i < l.length) (hN : N < 9223372036854775808) (x10 : Bool × Int) (hx : x10.2 = (i : Int)) (hl : l.length < 4294967296) (R : cover_look → Cube → List Cube → Option (Header × Bool × Bool × cover_look)) (R' : Cube → Int → Header × Bool × Int)
  (hR : ∀ p n, 0 ≤ n → n ≤ N → Zga free N (R (cl n free) p (l.drop (i + 1))) n (R' p n)) (hn : ∀ p m, (R' p m).2.1 = false → (R' p m).1 = Z4i) : ∀ (ps : List Cube) (n : Int), 0 ≤ n → n ≤ N →
  ∃ s', yf (fun (s : cover_look × Header × Bool × Bool) x => Z9u l x10 R s.1 s.2.1 s.2.2.1 s.2.2.2 x) ps (cl n free, Z4i, false, true) =
   some (bif (Z41 R' ps n).2.1 || decide ((Z41 R' ps n).2.2 < 0) then .out (.exit 1) (s', (Z41 R' ps n).1, (Z41 R' ps n).2.1, decide (0 ≤ (Z41 R' ps n).2.2)) else .go (s', Z4i, false, true)) ∧ (0 ≤ (Z41 R' ps n).2.2 → s' = cl (Z41 R' ps n).2.2 free ∧ (Z41 R' ps n).2.2 ≤ N)
 | [], n, h0, h1 => by
  refine ⟨cl n free, ?_, fun _ => ⟨rfl, h1⟩⟩
  rw [yf, Z41, decide_eq_false (by show ¬ (n < 0); omega)]; rfl
 | p :: ps, n, h0, h1 => by
  obtain ⟨s', h2, h3⟩ := hR p n h0 h1
  have hb : Z9u l x10 R (cl n free) Z4i false true p = some (bif (R' p n).2.1 || decide ((R' p n).2.2 < 0) then .out (.exit 1) (s', (R' p n).1, (R' p n).2.1, decide (0 ≤ (R' p n).2.2)) else .go (s', (R' p n).1, (R' p n).2.1, decide (0 ≤ (R' p n).2.2))) := by
   unfold Z9u
   rw [hx, inc i (by omega), Y33 _ _ (by omega), Option.bind_some, h2, Option.bind_some]
   have : (!decide (0 ≤ (R' p n).2.2)) = decide ((R' p n).2.2 < 0) := by
    by_cases h : (R' p n).2.2 < 0
    ·rw [decide_eq_true h, decide_eq_false (by omega)]; rfl
    ·rw [decide_eq_false h, decide_eq_true (by omega)]; rfl
   show (bif ((R' p n).2.1 || !decide (0 ≤ (R' p n).2.2)) then _ else _) = _
   rw [this]
   cases (R' p n).2.1 || decide ((R' p n).2.2 < 0) <;> rfl
  rw [yf]
  show ∃ s'', (Z9u l x10 R (cl n free) Z4i false true p).bind _ = _ ∧ _
  rw [hb, Option.bind_some, Z41]
  cases hc : (R' p n).2.1 || decide ((R' p n).2.2 < 0)
  ·rw [Bool.or_eq_false_iff, decide_eq_false_iff_not] at hc
   have h4 : 0 ≤ (R' p n).2.2 := by omega
   obtain ⟨h5, h6⟩ := h3 h4
   obtain ⟨s'', h7, h8⟩ := Zxv free N l i hi hN x10 hx hl R R' hR hn ps (R' p n).2.2 h4 h6
   refine ⟨s'', ?_, h8⟩
   rw [cond_false, cond_false, h5, hn p n hc.1, hc.1, decide_eq_true h4]
   exact h7
  ·refine ⟨s', ?_, h3⟩
   rw [cond_true, cond_true, hc]; rfl
theorem Y9q (free : Bool) (N : Int) (hN : N < 9223372036854775808) (d fuel : Nat) (c : Cube) (l : List Cube) (hl : l.length < 4294967296) (n : Int) (h0 : 0 ≤ n) (h1 : n ≤ N)
  (ih : ∀ i, i < l.length → ∀ p n, 0 ≤ n → n ≤ N → Zga free N (Z7s fuel (cl n free) p (l.drop (i + 1))) n (Z4o free d p (l.drop (i + 1)) n)) :
  Zga free N (Z7s (fuel + 1) (cl n free) c l) n (Z4o free (d + 1) c l n) := by
 show Zga free N (Zlk (Z7s fuel) (cl n free) c l) n _
 unfold Zlk
 have hpay : Zib (cl n free).purse = some (!(!free && decide (n < 1)), ⟨bif free then n else n - 1, free⟩) := by
  unfold Zib
  cases free
  ·have e : IntKind.i64.wrap (n - 1) = n - 1 := Z2s (by omega) (by omega)
   show some (decide (IntKind.i64.wrap (n - 1) ≥ 0), (⟨IntKind.i64.wrap (n - 1), false⟩ : cover_purse)) = _
   rw [e]
   by_cases h : n < 1
   ·rw [decide_eq_true h, decide_eq_false (by omega)]; rfl
   ·rw [decide_eq_false h, decide_eq_true (by omega)]; rfl
  ·rfl
 rw [hpay, Option.bind_some, Z4o]
 cases hp : !free && decide (n < 1)
 ·have hn1 : 0 ≤ (bif free then n else n - 1) ∧ (bif free then n else n - 1) ≤ N := by
   cases free
   ·simp only [Bool.not_false, Bool.true_and, decide_eq_false_iff_not] at hp
    simp only [cond_false]; omega
   ·simp only [cond_true]; omega
  generalize (bif free then n else n - 1) = n1 at hn1 ⊢
  simp only [Bool.not_false, Bool.not_true, cond_false]
  obtain ⟨j, hj⟩ := Zoc c l 0 (-1)
  unfold Zpp
  rw [hj, Option.bind_some]
  cases hw : l.any (Z66 c)
  ·simp only [cond_false]
   have hfi : Zac c l 0 (-1) = match Z5l c l 0 with | none => -1 | some k => (k : Int) := rfl
   rw [hfi]
   have hsp := Zu6 c l 0
   cases hf : Z5l c l 0 with
   | none =>
    simp only
    rw [show decide ((-1 : Int) < 0) = true from rfl, cond_true, Zy3, Option.bind_some]
    exact ⟨cl n1 free, by rw [decide_eq_true hn1.1]; rfl, fun _ => ⟨rfl, hn1.2⟩⟩
   | some i =>
    rw [hf] at hsp
    obtain ⟨j', hj1, hj2, hj3, hj4⟩ := hsp
    have hij : i = j' := by omega
    subst hij
    simp only
    rw [decide_eq_false (by omega), cond_false, Z39 hj2, Option.bind_some, List.getElem?_eq_getElem hj2]
    unfold Zkl
    rw [Option.bind_some]
    obtain ⟨s', h2, h3⟩ := Zxv free N l i hj2 hN (false, (i : Int)) rfl hl (Z7s fuel) (fun p m => Z4o free d p (l.drop (i + 1)) m) (fun p n a b => ih i hj2 p n a b) (fun p m h => Zqv free d p _ m h) (Z3x c l[i]) n1 hn1.1 hn1.2
    show Zga free N ((Zaz (cover_look × Header × Bool × Bool) (fun s x => Z9u l (false, (i : Int)) (Z7s fuel) s.1 s.2.1 s.2.2.1 s.2.2.2 x) (.go (cl n1 free, Z4i, false, true)) c l[i]).bind _) n (Z41 (fun p m => Z4o free d p (l.drop (i + 1)) m) (Z3x c l[i]) n1)
    rw [Zx8, h2, Option.bind_some]
    have hnn := Zqa (R := fun p m => Z4o free d p (l.drop (i + 1)) m) (fun p m h => Zqv free d p _ m h) (Z3x c l[i]) n1
    generalize Z41 (fun p m => Z4o free d p (l.drop (i + 1)) m) (Z3x c l[i]) n1 = r at *
    cases hc : r.2.1 || decide (r.2.2 < 0)
    ·rw [Bool.or_eq_false_iff, decide_eq_false_iff_not] at hc
     refine ⟨s', ?_, h3⟩
     rw [hnn hc.1, hc.1, decide_eq_true (show 0 ≤ r.2.2 by omega)]; rfl
    ·exact ⟨s', rfl, h3⟩
  ·refine ⟨cl n1 free, ?_, fun _ => ⟨rfl, hn1.2⟩⟩
   show some (Z4i, false, true, cl n1 free) = some (Z4i, false, decide (0 ≤ n1), cl n1 free)
   rw [decide_eq_true hn1.1]
 ·exact ⟨_, rfl, fun h => by simp at h⟩
theorem Y0g (free : Bool) (N : Int) (hN : N < 9223372036854775808) : ∀ (d fuel : Nat) (c : Cube) (l : List Cube) (n : Int), l.length < d → d ≤ fuel → l.length < 4294967296 → 0 ≤ n → n ≤ N →
  Zga free N (Z7s fuel (cl n free) c l) n (Z4o free d c l n)
 | 0, fuel, c, l, n, h, _, _, _, _ => by omega
 | d + 1, 0, c, l, n, _, h, _, _, _ => by omega
 | d + 1, fuel + 1, c, l, n, h1, h2, h3, h4, h5 =>
  Y9q free N hN d fuel c l h3 n h4 h5 fun i hi p m h6 h7 => Y0g free N hN d fuel p (l.drop (i + 1)) m (by rw [List.length_drop]; omega) (by omega) (by rw [List.length_drop]; omega) h6 h7
end Go.Proofs.YtknpgojdkobgjaaGreat.W
namespace Go.Proofs.YtknpgojdkobgjaaGreat.W
open Go Go.Wb
def Zjg (l : List Rule) (h : Header) : Int × Bool := (Z1f (Z08 (Z32 h) l) 0, decide (Z08 (Z32 h) l ≥ 0))
theorem Ynn {x : Int} (h : x < 0) : Z1f x 0 = 0 := by unfold Z1f; rw [decide_eq_true (show (0 : Int) > x by omega)]; rfl
theorem Y6q (k : Nat) : Z1f (k : Int) 0 = (k : Int) := by unfold Z1f; rw [decide_eq_false (show ¬ ((0 : Int) > (k : Int)) by omega)]; rfl
theorem Ym6 (l : List Rule) (h : Header) : (Zjg l h = (0, false) ∧ l.find? (Z32 h) = none) ∨ ∃ n : Nat, ∃ hn : n < l.length, Zjg l h = ((n : Int), true) ∧ l.find? (Z32 h) = some l[n] := by
 unfold Zjg
 rcases Zd9 (Z32 h) l with ⟨h1, h2⟩ | ⟨n, h1, h2, h3, h4⟩
 ·left
  refine ⟨?_, h2⟩
  rw [Ynn h1, decide_eq_false (by omega)]
 ·right
  refine ⟨n, h2, ?_, h3⟩
  rw [h1, Y6q, decide_eq_true (show (n : Int) ≥ 0 by omega)]
end Go.Proofs.YtknpgojdkobgjaaGreat.W
namespace Go.Proofs.YtknpgojdkobgjaaGreat.W
open Go Go.Wb
theorem Zmt (a : Wide) : ∀ n, (Z50 a n).Nodup
 | 0 => List.nodup_nil
 | n + 1 => by
  rw [Z50]
  cases wt a n
  ·exact Zmt a n
  ·rw [cond_true, List.nodup_cons]
   refine ⟨fun h => ?_, Zmt a n⟩
   obtain ⟨k, h1, h2, _⟩ := (Zaa _ _ _).1 h
   omega
theorem Y2l (t : Tern) (i : Nat) (hi : i < 128) (on : Bool) (k : Nat) (hk : k < 128) : wt (Z3g t i on).Mask k = (wt t.Mask k || decide (i = k)) := by
 unfold Z3g Z19
 cases on <;> simp only [cond_true, cond_false, Z5i, Zgp i k hi hk]
theorem Zzc {c : Cube} {f : Nat} (hf : f < 24) {t : Tern} {h : Header} : Zq (Z53 c f t) h = true ↔ (∀ g, g < 24 → g ≠ f → Z3n (ve c g) (ve h g) = true) ∧ Z3n t (ve h f) = true := by
 rw [Z3s]
 constructor
 ·intro hh
  refine ⟨fun g hg hne => ?_, ?_⟩
  ·have := hh g hg
   rwa [Zg1 _ _ _ _ hg, if_neg (fun e => hne e.symm)] at this
  ·have := hh f hf
   rwa [Zg1 _ _ _ _ hf, if_pos rfl] at this
 ·rintro ⟨h1, h2⟩ g hg
  rw [Zg1 _ _ _ _ hg]
  by_cases e : f = g
  ·subst e; rw [if_pos rfl]; exact h2
  ·rw [if_neg e]; exact h1 g hg fun e' => e e'.symm
theorem Zlj {c : Cube} {f b : Nat} (hf : f < 24) (hb : b < 128) {on : Bool} {h : Header} (hm : wt (ve c f).Mask b = false) (hh : Zq (Z53 c f (Z3g (ve c f) b on)) h = true) : Zq c h = true ∧ wt (ve h f) b = on := by
 obtain ⟨h1, h2⟩ := (Zzc hf).1 hh
 obtain ⟨h3, h4⟩ := (Zya _ _ hb _ _).1 h2
 refine ⟨(Z3s _ _).2 fun g hg => ?_, h4⟩
 by_cases e : g = f
 ·subst e
  exact (Z3b _ _).2 fun k hk hmk => h3 k hk (fun e => by rw [e, hm] at hmk; cases hmk) hmk
 ·exact h1 g hg e
theorem Y5t (xv : Wide) (f : Nat) (hf : f < 24) (h : Header) : ∀ (l : List Int) (left : Cube), Zi4 l → l.Nodup → (∀ i ∈ l, wt (ve left f).Mask i.toNat = false) →
  (∀ p ∈ (Z38 xv f l left).1, Zq p h = true → Zq left h = true ∧ ∃ i ∈ l, wt (ve h f) i.toNat = !wt xv i.toNat) ∧ (Zq (Z38 xv f l left).2 h = true → Zq left h = true)
 | [], left, _, _, _ => ⟨fun p hp => (List.not_mem_nil hp).elim, fun hh => hh⟩
 | i :: l, left, hl, hn, hm => by
  obtain ⟨b, rfl, hb⟩ := hl i (by simp)
  rw [List.nodup_cons] at hn
  have hmb := hm _ (List.mem_cons_self ..)
  rw [Int.toNat_natCast] at hmb
  have ih := Y5t xv f hf h l (Z53 left f (Z3g (ve left f) b (wt xv b))) (fun j hj => hl j (by simp [hj])) hn.2 (fun j hj => by
   obtain ⟨k, rfl, hk⟩ := hl j (by simp [hj])
   have h1 := hm _ (List.mem_cons_of_mem _ hj)
   rw [Int.toNat_natCast] at h1 ⊢
   rw [Zg1 _ _ _ _ hf, if_pos rfl, Y2l _ _ hb _ _ hk, h1, Bool.false_or, decide_eq_false_iff_not]
   intro e
   subst e
   exact hn.1 hj)
  rw [Z38, Int.toNat_natCast]
  refine ⟨fun p hp hh => ?_, fun hh => (Zlj hf hb hmb (ih.2 hh)).1⟩
  rcases List.mem_cons.1 hp with rfl | hp
  ·obtain ⟨h1, h2⟩ := Zlj hf hb hmb hh
   exact ⟨h1, (b : Int), by simp, by rw [Int.toNat_natCast]; exact h2⟩
  ·obtain ⟨h1, i, hi, h2⟩ := ih.1 p hp hh
   exact ⟨(Zlj hf hb hmb h1).1, i, by simp [hi], h2⟩
theorem Y0y (x : Cube) (h : Header) : ∀ (m f : Nat) (left : Cube), f + m = 24 → ∀ p ∈ Z78 x m f left, Zq p h = true → Zq left h = true ∧ Zq x h = false
 | 0, f, left, _, p, hp => by cases hp
 | m + 1, f, left, hm, p, hp => by
  intro hh
  have hf : f < 24 := by omega
  have hs := Y5t (ve x f).Value f hf h (Z8n (ve x f) (ve left f)) left (Zn7 _ _) (Zmt _ _) (fun i hi => by
   obtain ⟨k, rfl, hk, hw⟩ := (Zaa _ _ _).1 hi
   rw [Z4v _ _ _ hk] at hw
   rw [Int.toNat_natCast]
   cases hq : wt (ve left f).Mask k
   ·rfl
   ·rw [hq] at hw; simp at hw)
  rw [Z78] at hp
  rcases List.mem_append.1 hp with hp | hp
  ·obtain ⟨h1, i, hi, h2⟩ := hs.1 p hp hh
   obtain ⟨k, rfl, hk, hw⟩ := (Zaa _ _ _).1 hi
   rw [Z4v _ _ _ hk, Bool.and_eq_true] at hw
   rw [Int.toNat_natCast] at h2
   refine ⟨h1, ?_⟩
   cases hx : Zq x h
   ·rfl
   ·have := (Z3b _ _).1 ((Z3s _ _).1 hx f hf) k hk hw.1
    rw [h2] at this
    cases hv : wt (ve x f).Value k <;> rw [hv] at this <;> simp at this
  ·obtain ⟨h1, h2⟩ := Y0y x h m (f + 1) _ (by omega) p hp hh
   exact ⟨hs.2 h1, h2⟩
theorem Yfp {a x : Cube} (hm : Z3u a x = true) {h : Header} {p : Cube} (hp : p ∈ Z3x a x) (hh : Zq p h = true) : Zq a h = true ∧ Zq x h = false := by
 unfold Z3x at hp
 rw [hm, cond_true] at hp
 have := Y0y x h 24 0 (Z0g a) rfl p hp hh
 rwa [Zjd] at this
theorem Y8g (c : Cube) : Zq c (Z54 c) = true := (Z3s _ _).2 fun f hf => (Z3b _ _).2 fun k hk hm => by
 unfold Z54
 rw [Z75 (fun f => (Z19 (ve c f)).Value) f hf]
 unfold Z19
 rw [Z2w, hm, Bool.and_true]
theorem Y8x {a x : Cube} (hm : Z3u a x = false) {h : Header} (h1 : Zq a h = true) : Zq x h = false := by
 cases hx : Zq x h
 ·rfl
 ·unfold Z3u at hm
  cases hc : Z4z a x with
  | none => exact (Zra hc h h1 hx).elim
  | some z => rw [hc] at hm; cases hm
def Zei (c : Cube) (l : List Cube) (most : Int) : Header × Bool × Int := Z4o (decide (most ≥ 1099511627776)) (l.length + 1) c l (Z1f most 0)
def Z57 (c : Cube) (l : List Cube) (most : Int) : Header × Bool × Int := bif decide ((Zei c l most).2.2 < 0) then (Z4i, false, 5) else ((Zei c l most).1, (Zei c l most).2.1, 0)
theorem Zuz (m : Int) : 0 ≤ Z1f m 0 ∧ Z1f m 0 ≤ max m 0 := by
 unfold Z1f
 by_cases h : (0 : Int) > m
 ·rw [decide_eq_true h, cond_true]; omega
 ·rw [decide_eq_false h, cond_false]; omega
theorem Ykx (c : Cube) (l : List Cube) (most : Int) (hm : most ≤ 9223372036854775807) (hl : l.length ≤ 1000000) : Zjp c l most = some (Z57 c l most) := by
 have hi := Zuz most
 unfold Zjp Zq7 Z57
 obtain ⟨s', h1, h2⟩ := Y0g (decide (most ≥ 1099511627776)) (Z1f most 0) (by omega) (l.length + 1) Z0k c l (Z1f most 0) (by omega) (by unfold Z0k; omega) (by omega) hi.1 (by omega)
 show (Z7s Z0k (cl (Z1f most 0) (decide (most ≥ 1099511627776))) c l).bind _ = _
 rw [h1, Option.bind_some]
 show (bif !(decide (0 ≤ (Zei c l most).2.2)) then _ else _) = _
 by_cases h : (Zei c l most).2.2 < 0
 ·rw [decide_eq_true h, decide_eq_false (by omega)]; rfl
 ·rw [decide_eq_false h, decide_eq_true (by omega)]; rfl
theorem Yld {α : Type} (l : List α) (i : Nat) (h : i ≤ l.length) : Z56 l (i : Int) = some (l.take i) := by
 unfold Z56
 simp [Nat.ble_eq_true_of_le h]
end Go.Proofs.YtknpgojdkobgjaaGreat.W
namespace Go.Proofs.YtknpgojdkobgjaaGreat.W
open Go Go.Wb
section ins
def Zjm (lt : Int → Int → Bool) (cmp : Int → Int → Option Int) (A : List Int) : Prop := ∀ x ∈ A, ∀ y ∈ A, ∃ c, cmp x y = some c ∧ decide (c < 0) = lt x y
variable {lt : Int → Int → Bool} {cmp : Int → Int → Option Int}
theorem Y4x {A : List Int} (hc : Zjm lt cmp A) (go : List Int → Int → Option (List Int)) (i : Int) (P : List Int) (x : Int) (hx : x ∈ A) : ∀ (R S : List Int) (m : Nat), (∀ y ∈ R, y ∈ A) → R.length < m → (P ++ R.reverse ++ x :: S).length ≤ big →
  Zcb (P.length : Int) cmp go i m (P ++ R.reverse ++ x :: S) ((P.length + R.length : Nat) : Int) = go (P ++ (Z1c lt x R).reverse ++ S) (IntKind.i64.wrap (i + 1))
 | [], S, m, _, h, _ => by
  obtain ⟨m, rfl⟩ : ∃ k, m = k + 1 := ⟨m - 1, by simp at h; omega⟩
  rw [Zcb, decide_eq_false (by simp)]
  simp [opt, Z1c]
 | y :: R, S, m, hR, h, hl => by
  have hbig : big = 1000000 := rfl
  simp only [List.length_cons, List.length_append, List.length_reverse] at h hl
  obtain ⟨m, rfl⟩ : ∃ k, m = k + 1 := ⟨m - 1, by omega⟩
  have e0 : P ++ (y :: R).reverse ++ x :: S = (P ++ R.reverse) ++ y :: (x :: S) := by simp
  have ej : IntKind.i64.wrap (((P.length + (y :: R).length : Nat) : Int) - 1) = ((P.length + R.length : Nat) : Int) := by rw [wr (by simp only [List.length_cons]; omega) (by simp only [List.length_cons]; omega)]; simp only [List.length_cons]; omega
  have g1 : ∀ a b : Int, lget ((P ++ R.reverse) ++ a :: (b :: S)) ((P.length + (y :: R).length : Nat) : Int) = some b := fun a b => by
   have : (P ++ R.reverse) ++ a :: (b :: S) = (P ++ R.reverse ++ [a]) ++ b :: S := by simp
   rw [this]; exact Z5x _ _ _ _ (by simp)
  have g0 : ∀ a b : Int, lget ((P ++ R.reverse) ++ a :: (b :: S)) ((P.length + R.length : Nat) : Int) = some a := fun a b => Z5x _ _ _ _ (by simp)
  have s1 : ∀ a b c : Int, List.set ((P ++ R.reverse) ++ a :: (b :: S)) (((P.length + (y :: R).length : Nat) : Int)).toNat c = (P ++ R.reverse) ++ a :: (c :: S) := fun a b c => by
   have : (P ++ R.reverse) ++ a :: (b :: S) = (P ++ R.reverse ++ [a]) ++ b :: S := by simp
   rw [this, Int.toNat_natCast, Z8d _ _ _ _ _ (by simp)]; simp
  have s0 : ∀ a b c : Int, List.set ((P ++ R.reverse) ++ a :: (b :: S)) (((P.length + R.length : Nat) : Int)).toNat c = (P ++ R.reverse) ++ c :: (b :: S) := fun a b c => by
   rw [Int.toNat_natCast, Z8d _ _ _ _ _ (by simp)]
  obtain ⟨c, hc1, hc2⟩ := hc x hx y (hR y (by simp))
  rw [e0, Zcb, decide_eq_true (by simp only [List.length_cons]; omega), Z7o, g1, Option.bind_some, Z7o, ej, g0, Option.bind_some, Z7o, hc1, Option.bind_some, Bool.true_and, hc2, Z1c]
  cases lt x y
  ·rw [cond_false, cond_false]
   simp
  ·rw [cond_true, cond_true, Option.bind_some, Option.bind_some, Option.bind_some, s1, g0, Option.bind_some, s0, Y4x hc go i P x hx R (y :: S) m (fun z hz => hR z (by simp [hz])) (by omega) (by simp only [List.length_append, List.length_cons, List.length_reverse]; omega)]
   simp
theorem Zu5 (x : Int) (R : List Int) : (Z1c lt x R).length = R.length + 1 := by
 induction R with
 | nil => rfl
 | cons y R ih => rw [Z1c]; cases lt x y <;> simp [ih]
theorem Y2f {A : List Int} (hc : Zjm lt cmp A) (P Q : List Int) : ∀ (T R : List Int) (m : Nat), (∀ y ∈ T, y ∈ A) → (∀ y ∈ R, y ∈ A) → T.length < m → (P ++ R.reverse ++ T ++ Q).length ≤ big →
  Z97 ((P.length + R.length + T.length : Nat) : Int) (P.length : Int) cmp m (P ++ R.reverse ++ T ++ Q) ((P.length + R.length : Nat) : Int) = some (P ++ (T.foldl (fun R x => Z1c lt x R) R).reverse ++ Q)
 | [], R, m, _, _, h, _ => by
  obtain ⟨m, rfl⟩ : ∃ k, m = k + 1 := ⟨m - 1, by simp at h; omega⟩
  rw [Z97, decide_eq_false (by simp), cond_false]
  simp
 | x :: T, R, m, hT, hR, h, h2 => by
  have hbig : big = 1000000 := rfl
  simp only [List.length_cons, List.length_append, List.length_reverse] at h h2
  obtain ⟨m, rfl⟩ : ∃ k, m = k + 1 := ⟨m - 1, by omega⟩
  have e : IntKind.i64.wrap (((P.length + R.length : Nat) : Int) + 1) = ((P.length + (Z1c lt x R).length : Nat) : Int) := by rw [Zu5, wr (by omega) (by omega)]; omega
  have hn : P.length + R.length + (x :: T).length = P.length + (Z1c lt x R).length + T.length := by rw [Zu5, List.length_cons]; omega
  have e0 : P ++ R.reverse ++ x :: T ++ Q = P ++ R.reverse ++ x :: (T ++ Q) := by simp
  rw [Z97, decide_eq_true (by simp only [List.length_cons]; omega), cond_true, e0, Y4x hc _ _ P x (hT x (by simp)) R (T ++ Q) Z0k hR (by unfold Z0k; omega) (by simp only [List.length_append, List.length_cons, List.length_reverse]; omega), e, hn,
   ← List.append_assoc, Y2f hc P Q T (Z1c lt x R) m (fun y hy => hT y (by simp [hy])) (fun y hy => by rcases Zsz.1 hy with e | e; rw [e]; exact hT x (by simp); exact hR y e) (by omega) (by simp only [List.length_append, List.length_reverse, Zu5]; omega), List.foldl_cons]
theorem Yir (P L Q : List Int) (hc : Zjm lt cmp L) (a b : Int) (ha : a = (P.length : Int)) (hb : b = (P.length : Int) + (L.length : Int)) (h : (P ++ L ++ Q).length ≤ big) : Zgh (P ++ L ++ Q) a b cmp = some (P ++ srt lt L ++ Q) := by
 subst ha hb
 have hbig : big = 1000000 := rfl
 have h' := h
 simp only [List.length_append] at h'
 unfold Zgh srt
 cases L with
 | nil =>
  rw [wr (by omega) (by omega)]
  obtain ⟨m, hm⟩ : ∃ m, (((P.length : Int) + (([] : List Int).length : Int)) - ((P.length : Int) + 1)).toNat + 1 = m + 1 := ⟨_, rfl⟩
  rw [hm, Z97, decide_eq_false (by simp only [List.length_nil]; omega), cond_false]
  rfl
 | cons x L =>
  simp only [List.length_cons] at h'
  have := Y2f hc P Q L [x] ((((P.length : Int) + ((x :: L).length : Int)) - ((P.length : Int) + 1)).toNat + 1) (fun y hy => by simp [hy]) (fun y hy => by simp at hy; simp [hy]) (by simp only [List.length_cons]; omega) (by simp only [List.length_append, List.length_reverse, List.length_cons, List.length_nil]; omega)
  have e1 : ((P.length + [x].length + L.length : Nat) : Int) = (P.length : Int) + ((x :: L).length : Int) := by simp; omega
  have e2 : ((P.length + [x].length : Nat) : Int) = (P.length : Int) + 1 := by simp
  have e3 : P ++ [x].reverse ++ L ++ Q = P ++ x :: L ++ Q := by simp
  rw [e1, e2, e3] at this
  rw [wr (by omega) (by omega), this]
  rfl
theorem Y9w (L : List Int) (hc : Zjm lt cmp L) (h : L.length < 20) : Zl9 L cmp = some (srt lt L) := by
 unfold Zl9 Zot
 obtain ⟨m, hm⟩ : ∃ m, (((L.length : Int) : Int) - 20).toNat + 2 = m + 1 := ⟨_, rfl⟩
 have := Yir [] L [] hc 0 (L.length : Int) rfl (by simp) (by simp only [List.nil_append, List.append_nil]; show _ ≤ 1000000; omega)
 simp only [List.nil_append, List.append_nil] at this
 rw [hm, Zjs, decide_eq_false (by omega), cond_false, this, Option.bind_some]
 obtain ⟨k, hk⟩ : ∃ m, (((L.length : Int) : Int) - 20).toNat + 1 = m + 1 := ⟨_, rfl⟩
 rw [hk, Zf8, decide_eq_false (by omega), cond_false]
 rfl
end ins
end Go.Proofs.YtknpgojdkobgjaaGreat.W
namespace Go.Proofs.YtknpgojdkobgjaaGreat.W
open Go Go.Wb
def Znx (t : List Flow) (i : Int) : Int := match t[i.toNat]? with
 | some f => f.Priority
 | none => 0
def ltP (t : List Flow) (i j : Int) : Bool := decide (Znx t i > Znx t j)
theorem Y5q (t : List Flow) : Swo (ltP t) where
 asym := fun a b h => by
  unfold ltP at *
  rw [decide_eq_true_eq] at h
  rw [decide_eq_false_iff_not]; omega
 neg := fun a b c h k => by
  unfold ltP at *
  rw [decide_eq_false_iff_not] at *; omega
def places (n : Nat) : List Int := (List.range n).map fun (i : Nat) => (i : Int)
theorem Zrd {n : Nat} {i : Int} : i ∈ places n ↔ ∃ k : Nat, k < n ∧ i = (k : Int) := by
 unfold places
 simp only [List.mem_map, List.mem_range]
 exact ⟨fun ⟨k, h1, h2⟩ => ⟨k, h1, h2.symm⟩, fun ⟨k, h1, h2⟩ => ⟨k, h1, h2.symm⟩⟩
def Z7u (t : List Flow) : List Int := srt (ltP t) (places t.length)
theorem Zmo {t : List Flow} {i : Int} : i ∈ Z7u t ↔ ∃ k : Nat, k < t.length ∧ i = (k : Int) := by
 unfold Z7u
 rw [Zxz (Y5q t), Zrd]
theorem Ya0 (t : List Flow) : (Z7u t).length = t.length := by
 unfold Z7u
 rw [Z2y (Y5q t)]; simp [places]
theorem Zz9 {t : List Flow} {k : Nat} (h : k < t.length) : Znx t (k : Int) = t[k].Priority := by
 unfold Znx
 rw [Int.toNat_natCast, List.getElem?_eq_getElem h]
theorem Yn6 (t : List Flow) : Zjm (ltP t) (fun x z => Zf3 x z t) (places t.length) := fun x hx y hy => by
 obtain ⟨i, hi, rfl⟩ := Zrd.1 hx
 obtain ⟨j, hj, rfl⟩ := Zrd.1 hy
 unfold Zf3 ltP
 dsimp only
 rw [Z39 hi, Option.bind_some, Z39 hj, Option.bind_some, Zz9 hi, Zz9 hj, Option.bind_some, Option.bind_some]
 by_cases h1 : t[i].Priority > t[j].Priority
 ·rw [decide_eq_true h1, cond_true]; exact ⟨_, rfl, rfl⟩
 ·rw [decide_eq_false h1, cond_false]
  by_cases h2 : t[i].Priority < t[j].Priority
  ·rw [decide_eq_true h2, cond_true]; exact ⟨_, rfl, rfl⟩
  ·rw [decide_eq_false h2, cond_false]; exact ⟨_, rfl, rfl⟩
theorem Y57 (t : List Flow) (ht : t.length < 20) : ∀ (m i : Nat), i + m = t.length → Zbv t m i (places i) = some (Z7u t)
 | 0, i, h => by
  have : i = t.length := by omega
  subst this
  rw [Zbv, Y9w _ (Yn6 t) (by simpa [places] using ht)]; rfl
 | m + 1, i, h => by
  have hlim : lim = 4294967296 := rfl
  have e : places i ++ [(i : Int)] = places (i + 1) := by unfold places; rw [List.range_succ, List.map_append]; rfl
  rw [Zbv, Z23 (by simp [places]; omega), Option.bind_some, e]
  exact Y57 t ht m (i + 1) (by omega)
theorem Yg8 (n : Nat) (h : n ≤ lim) : omk (n : Int) = some () := by
 unfold omk
 rw [decide_eq_false (by omega), decide_eq_false (by omega)]; rfl
theorem Zwo (t : List Flow) (ht : t.length < 20) : Zf9 t = some (Z7u t) := by
 have hlim : lim = 4294967296 := rfl
 unfold Zf9
 rw [Yg8 _ (by omega), Option.bind_some, show ((t.length : Int)).toNat = t.length by omega]
 exact Y57 t ht t.length 0 (by omega)
def Znz (w : walk_way) (l : List Action) : walk_way := { w with atoms := w.atoms ++ (doT l (Z0g w.got)).1, got := (doT l (Z0g w.got)).2 }
theorem Yj5 {α : Type} (l : List α) : Z56 l (l.length : Int) = some l := by
 unfold Z56
 simp [Nat.ble_eq_true_of_le (Nat.le_refl _)]
theorem Zp5 (l : List Action) : Z3k l ≤ l.length := List.countP_le_length
theorem Zy8 (w : walk_way) (l : List Action) (h : w.atoms.length + l.length ≤ 100000) : Zds w l = some (Znz w l) := by
 have hlim : lim = 4294967296 := rfl
 have h1 := Zp5 l
 unfold Zds
 rw [Y43 l w.got (by omega), Option.bind_some, Yj5, Option.bind_some, Z23 (by rw [Zgv]; omega), Option.bind_some]; rfl
def Z6m (w : walk_way) (f : Flow) : Option walk_way := (Z5q w.got (Z8l f)).bind fun b => (Z4z b w.cube).map fun c => { w with cube := c }
theorem Ygy (w : walk_way) (f : Flow) : ∃ z, Zj0 w f = some (Z3c z (Z6m w f)) := by
 unfold Zj0 Z6m
 rw [Y3t, Option.bind_some, Y5v, Option.bind_some]
 cases Z5q w.got (Z8l f) with
 | none => exact ⟨_, rfl⟩
 | some b =>
  show ∃ z, (Z7y b w.cube).bind _ = some (Z3c z ((Z4z b w.cube).map _))
  rw [Znj, Option.bind_some]
  cases Z4z b w.cube with
  | none => exact ⟨_, rfl⟩
  | some c => exact ⟨w, rfl⟩
def Z4g (w : walk_way) (l : List Inst) : walk_way := match ofI l 4 with
 | some i => Znz w i.Acts
 | none => w
def Z4p (w : walk_way) (l : List Inst) : walk_way := match ofI l 5 with
 | some _ => { w with set := [] }
 | none => w
def Z5b (w : walk_way) (l : List Inst) : walk_way := match ofI l 3 with
 | some i => { w with set := i.Acts.foldl wr1 w.set }
 | none => w
def Z5h (w : walk_way) (l : List Inst) : walk_way := match ofI l 2 with
 | some i => { w with got := Z42 w.got 1 i.Value i.Mask }
 | none => w
def wdo (w : walk_way) (l : List Inst) : walk_way := Z5h (Z5b (Z4p (Z4g w l) l) l) l
def Z2d (at_ : Nat) (l : List Inst) : Option Nat := match ofI l 1 with
 | some i => if i.Table > (at_ : Int) ∧ i.Table < 4 then some i.Table.toNat else none
 | none => none
theorem Y40 {at_ : Nat} {l : List Inst} {i : Inst} (h : ofI l 1 = some i) (hc : i.Table > (at_ : Int) ∧ i.Table < 4) : Z2d at_ l = some i.Table.toNat := by
 unfold Z2d; rw [h]; exact if_pos hc
theorem Zwr {at_ : Nat} {l : List Inst} {i : Inst} (h : ofI l 1 = some i) (hc : ¬ (i.Table > (at_ : Int) ∧ i.Table < 4)) : Z2d at_ l = none := by
 unfold Z2d; rw [h]; exact if_neg hc
theorem Y15 {at_ : Nat} {l : List Inst} (h : ofI l 1 = none) : Z2d at_ l = none := by
 unfold Z2d; rw [h]
theorem Zom {at_ n : Nat} {l : List Inst} (h : Z2d at_ l = some n) : at_ < n ∧ n < 4 := by
 unfold Z2d at h
 split at h
 ·split at h
  ·cases h; omega
  ·cases h
 ·cases h
def Z5w (w : walk_way) : walk_way := Znz w (Z5r w.set)
def Z6f (l : List Inst) : Prop := ∀ i ∈ l, i.Acts.length ≤ 12
theorem Zwz (w : walk_way) {l : List Inst} (hl : Z6f l) : (Z4g w l).atoms.length ≤ w.atoms.length + 12 ∧ (Z4g w l).set = w.set ∧ (Z4g w l).cube = w.cube := by
 unfold Z4g
 split
 ·rename_i i hi
  have h1 := hl i (Za7 hi)
  have h2 := Zp5 i.Acts
  refine ⟨?_, rfl, rfl⟩
  show (w.atoms ++ _).length ≤ _
  rw [List.length_append, Zgv]; omega
 ·exact ⟨by omega, rfl, rfl⟩
theorem Ztt (w : walk_way) (l : List Inst) : (Z4p w l).atoms = w.atoms ∧ (Z4p w l).set.length ≤ w.set.length ∧ (Z4p w l).cube = w.cube := by
 unfold Z4p
 split
 ·exact ⟨rfl, by simp, rfl⟩
 ·exact ⟨rfl, by omega, rfl⟩
theorem Zu9 (w : walk_way) {l : List Inst} (hl : Z6f l) : (Z5b w l).atoms = w.atoms ∧ (Z5b w l).set.length ≤ w.set.length + 12 ∧ (Z5b w l).cube = w.cube := by
 unfold Z5b
 split
 ·rename_i i hi
  have h1 := hl i (Za7 hi)
  have h2 := Zio i.Acts w.set
  exact ⟨rfl, by show (i.Acts.foldl wr1 w.set).length ≤ _; omega, rfl⟩
 ·exact ⟨rfl, by omega, rfl⟩
theorem Zx5 (w : walk_way) (l : List Inst) : (Z5h w l).atoms = w.atoms ∧ (Z5h w l).set = w.set ∧ (Z5h w l).cube = w.cube := by
 unfold Z5h
 split
 ·exact ⟨rfl, rfl, rfl⟩
 ·exact ⟨rfl, rfl, rfl⟩
theorem Ztx (w : walk_way) {l : List Inst} (hl : Z6f l) : (wdo w l).atoms.length ≤ w.atoms.length + 12 ∧ (wdo w l).set.length ≤ w.set.length + 12 ∧ (wdo w l).cube = w.cube := by
 have h1 := Zwz w hl
 have h2 := Ztt (Z4g w l) l
 have h3 := Zu9 (Z4p (Z4g w l) l) hl
 have h4 := Zx5 (Z5b (Z4p (Z4g w l) l) l) l
 unfold wdo
 refine ⟨?_, ?_, ?_⟩
 ·rw [h4.1, h3.1, h2.1]; exact h1.1
 ·rw [h4.2.1]
  have := h3.2.1
  have := h2.2.1
  rw [h1.2.1] at this
  omega
 ·rw [h4.2.2, h3.2.2, h2.2.2, h1.2.2]
theorem Y9r (w : walk_way) (at_ : Nat) (l : List Inst) (hl : Z6f l) (ha : w.atoms.length ≤ 1000) (hs : w.set.length ≤ 1000) :
  Zli w (at_ : Int) l = some (match Z2d at_ l with | some n => (wdo w l, (n : Int), true) | none => (Z5w (wdo w l), 0, false)) := by
 have hlim : lim = 4294967296 := rfl
 have b1 := Zwz w hl
 have b2 := Ztt (Z4g w l) l
 have b3 := Zu9 (Z4p (Z4g w l) l) hl
 have b4 := Ztx w hl
 have j4 : ∀ b : walk_way, b.atoms.length ≤ 2000 → b.set.length ≤ 2000 → Zhy l (at_ : Int) b = some (match Z2d at_ l with | some n => (b, (n : Int), true) | none => (Z5w b, 0, false)) := fun b h1 h2 => by
  unfold Zhy
  rw [Z7z l 1 hl, Option.bind_some]
  have hend : ((Z79 b.set).bind fun x12 => (Zds b x12).bind fun x13 => some (x13, (0 : Int), false)) = some (Z5w b, 0, false) := by
   have := Zq0 b.set
   rw [Zyx _ (by omega), Option.bind_some, Zy8 b _ (by omega)]; rfl
  cases hi : ofI l 1 with
  | none => rw [Y15 hi]; exact hend
  | some i =>
   show (bif ((true && decide (i.Table > (at_ : Int))) && decide (i.Table < 4)) then some (b, i.Table, true) else _) = _
   rw [Bool.true_and]
   by_cases hc : i.Table > (at_ : Int) ∧ i.Table < 4
   ·have hd : (decide (i.Table > (at_ : Int)) && decide (i.Table < 4)) = true := by
     rw [Bool.and_eq_true, decide_eq_true_eq, decide_eq_true_eq]; exact hc
    have : ((i.Table.toNat : Nat) : Int) = i.Table := by omega
    rw [Y40 hi hc, hd, cond_true]
    simp [this]
   ·have hd : (decide (i.Table > (at_ : Int)) && decide (i.Table < 4)) = false := by
     rw [Bool.and_eq_false_iff, decide_eq_false_iff_not, decide_eq_false_iff_not]; omega
    rw [Zwr hi hc, hd, cond_false]
    exact hend
 have j3 : ∀ b : walk_way, b.atoms.length ≤ 2000 → b.set.length ≤ 2000 → Zgi l (at_ : Int) b = some (match Z2d at_ l with | some n => (Z5h b l, (n : Int), true) | none => (Z5w (Z5h b l), 0, false)) := fun b h1 h2 => by
  have b5 := Zx5 b l
  unfold Zgi
  rw [Z7z l 2 hl, Option.bind_some, ← j4 (Z5h b l) (by rw [b5.1]; omega) (by rw [b5.2.1]; omega)]
  unfold Z5h
  cases hi : ofI l 2 with
  | none => rfl
  | some i =>
   simp only [Z3c, cond_true]
   rw [Zdg]; rfl
 have j2 : ∀ b : walk_way, b.atoms.length ≤ 1500 → b.set.length ≤ 1500 → Zho l (at_ : Int) b = some (match Z2d at_ l with | some n => (Z5h (Z5b b l) l, (n : Int), true) | none => (Z5w (Z5h (Z5b b l) l), 0, false)) := fun b h1 h2 => by
  have b5 := Zu9 b hl
  unfold Zho
  rw [Z7z l 3 hl, Option.bind_some, ← j3 (Z5b b l) (by rw [b5.1]; omega) (by have := b5.2.1; omega)]
  unfold Z5b
  cases hi : ofI l 3 with
  | none => rfl
  | some i =>
   have := hl i (Za7 hi)
   simp only [Z3c, cond_true]
   rw [Zmb _ _ (by omega)]; rfl
 have j1 : ∀ b : walk_way, b.atoms.length ≤ 1500 → b.set.length ≤ 1500 → Zhv l (at_ : Int) b = some (match Z2d at_ l with | some n => (Z5h (Z5b (Z4p b l) l) l, (n : Int), true) | none => (Z5w (Z5h (Z5b (Z4p b l) l) l), 0, false)) := fun b h1 h2 => by
  have b5 := Ztt b l
  unfold Zhv
  rw [Z7z l 5 hl, Option.bind_some, ← j2 (Z4p b l) (by rw [b5.1]; omega) (by have := b5.2.1; omega)]
  unfold Z4p
  cases hi : ofI l 5 with
  | none => rfl
  | some i => rfl
 unfold Zli
 rw [Z7z l 4 hl, Option.bind_some]
 have := j1 (Z4g w l) (by omega) (by rw [b1.2.1]; omega)
 unfold wdo
 rw [← this]
 unfold Z4g
 cases hi : ofI l 4 with
 | none => rfl
 | some i =>
  have := hl i (Za7 hi)
  simp only [Z3c, cond_true]
  rw [Zy8 w _ (by omega)]; rfl
def Z0c (s : Switch) (i : Nat) : List Flow := if h : i < 4 then Vector.get s.Tables ⟨i, h⟩ else []
theorem Zkm (s : Switch) (i : Nat) (h : i < 4) : Vector.get s.Tables ⟨i, h⟩ = Z0c s i := by unfold Z0c; rw [dif_pos h]
def Z58 (w : walk_way) : Rule := ⟨w.cube, w.atoms⟩
def Z5m (R : Nat → walk_way → List Rule) (t : List Flow) (at_ : Nat) (w : walk_way) (i : Int) : List Rule := match t[i.toNat]? with
 | none => []
 | some f => match Z6m w f with
  | none => []
  | some x => match Z2d at_ f.Insts with
   | some n => R n (wdo x f.Insts)
   | none => [Z58 (Z5w (wdo x f.Insts))]
def Z2t (s : Switch) : Nat → Nat → walk_way → List Rule
 | 0, _, w => [Z58 w]
 | d + 1, at_, w => (Z7u (Z0c s at_)).flatMap (Z5m (Z2t s d) (Z0c s at_) at_ w) ++ [Z58 w]
def Zy2 (t : List Flow) : Prop := t.length < 20 ∧ ∀ f ∈ t, Z6f f.Insts
def Z9c (s : Switch) : Prop := ∀ i, i < 4 → Zy2 (Z0c s i)
def Zhh (at_ : Nat) (w : walk_way) : Prop := w.atoms.length ≤ 12 * at_ ∧ w.set.length ≤ 12 * at_
theorem Zv7 (w : walk_way) (h : w.atoms.length ≤ 100000) : Zgn w = some (Z58 w) := by
 have hlim : lim = 4294967296 := rfl
 unfold Zgn Zct
 rw [Z23 (by simp; omega)]; rfl
theorem Y5k {w x : walk_way} {f : Flow} (h : Z6m w f = some x) : x.atoms = w.atoms ∧ x.set = w.set := by
 unfold Z6m at h
 obtain ⟨b, h1, h2⟩ := Option.bind_eq_some_iff.1 h
 obtain ⟨c, h3, h4⟩ := Option.map_eq_some_iff.1 h2
 subst h4
 exact ⟨rfl, rfl⟩
theorem Y0e (w : walk_way) : (Z5w w).atoms.length ≤ w.atoms.length + w.set.length := by
 have h1 := Zq0 w.set
 have h2 := Zp5 (Z5r w.set)
 show (w.atoms ++ _).length ≤ _
 rw [List.length_append, Zgv]; omega
def goP {σ : Type} (r : Lp σ) : Bool × Lp σ := (r.isGo, r)
theorem Zyj (sg : Type) (y : sg → Rule → Option (Lp sg)) (s : Switch) (at_ : Nat) (ha : at_ < 4) (hs : Zy2 (Z0c s at_)) (w : walk_way) (hw : Zhh at_ w) (R : Lp sg → Switch → Int → walk_way → Option (Bool × Lp sg)) (Rm : Nat → walk_way → List Rule)
  (hR : ∀ (n : Nat) (x : walk_way) (z : sg), at_ < n → n < 4 → Zhh n x → R (.go z) s (n : Int) x = (yf y (Rm n x) z).map goP) :
  ∀ (l : List Int) (i : Nat) (z : sg), (∀ j ∈ l, ∃ k : Nat, k < (Z0c s at_).length ∧ j = (k : Int)) → Z7i sg w y (at_ : Int) s R l i (.go z) = (yf y (l.flatMap (Z5m Rm (Z0c s at_) at_ w) ++ [Z58 w]) z).map goP
 | [], i, z, _ => by
  rw [Z7i, Zv7 w (by have := hw.1; omega), Option.bind_some]
  show (y z (Z58 w)).bind _ = _
  rw [List.flatMap_nil, List.nil_append, yf]
  cases y z (Z58 w) with
  | none => rfl
  | some r => cases r <;> rfl
 | j :: l, i, z, hl => by
  obtain ⟨k, hk, rfl⟩ := hl j (by simp)
  have ih := fun z => Zyj sg y s at_ ha hs w hw R Rm hR l (i + 1) z fun j hj => hl j (by simp [hj])
  have tail : ∀ (L : List Rule), ((yf y L z).map goP).bind (fun b24 => Zll sg (Z7i sg w y (at_ : Int) s R l) i b24.2 b24.1) = (yf y (L ++ (l.flatMap (Z5m Rm (Z0c s at_) at_ w) ++ [Z58 w])) z).map goP := fun L => by
   rw [Zsu]
   cases yf y L z with
   | none => rfl
   | some r =>
    cases r with
    | out c q => rfl
    | go q => exact ih q
  rw [Z7i, Z3h ha, Option.bind_some, Zkm, Z39 hk, Option.bind_some, List.flatMap_cons, List.append_assoc]
  have hf := hs.2 _ (List.getElem_mem hk)
  have hrule : Z5m Rm (Z0c s at_) at_ w (k : Int) = match Z6m w (Z0c s at_)[k] with
    | none => []
    | some x => match Z2d at_ (Z0c s at_)[k].Insts with
     | some n => Rm n (wdo x (Z0c s at_)[k].Insts)
     | none => [Z58 (Z5w (wdo x (Z0c s at_)[k].Insts))] := by
   unfold Z5m
   rw [Int.toNat_natCast, List.getElem?_eq_getElem hk]
  obtain ⟨zz, hz⟩ := Ygy w (Z0c s at_)[k]
  rw [hrule, hz, Option.bind_some]
  cases hm : Z6m w (Z0c s at_)[k] with
  | none => exact ih z
  | some x =>
   have hx := Y5k hm
   have hwx : Zhh at_ x := by unfold Zhh; rw [hx.1, hx.2]; exact hw
   have hd := Ztx x hf
   simp only [Z3c, Bool.not_true, cond_false]
   rw [Y9r x at_ _ hf (by have := hwx.1; omega) (by have := hwx.2; omega), Option.bind_some]
   cases hn : Z2d at_ (Z0c s at_)[k].Insts with
   | some n =>
    have hnb := Zom hn
    simp only [cond_true]
    rw [hR n _ z hnb.1 hnb.2 ⟨by have := hwx.1; have := hd.1; omega, by have := hwx.2; have := hd.2.1; omega⟩]
    exact tail _
   | none =>
    simp only [cond_false]
    have he := Y0e (wdo x (Z0c s at_)[k].Insts)
    rw [Zv7 _ (by have := hwx.1; have := hwx.2; have := hd.1; have := hd.2.1; omega), Option.bind_some, ← tail]
    show (y z (Z58 _)).bind _ = _
    rw [yf]
    cases y z (Z58 (Z5w (wdo x (Z0c s at_)[k].Insts))) with
    | none => rfl
    | some r => cases r <;> rfl
theorem Y5u (sg : Type) (y : sg → Rule → Option (Lp sg)) (s : Switch) (hs : Z9c s) : ∀ (d f at_ : Nat) (w : walk_way) (z : sg), 4 ≤ at_ + d → at_ < 4 → d ≤ f → Zhh at_ w →
  Zcx sg y f (.go z) s (at_ : Int) w = (yf y (Z2t s d at_ w) z).map goP
 | 0, f, at_, w, z, h0, h1, _, _ => by omega
 | d + 1, 0, at_, w, z, _, _, h2, _ => by omega
 | d + 1, f + 1, at_, w, z, h1, ha, h2, hw => by
  have hl := hs at_ ha
  show Zih sg y (Zcx sg y f) (.go z) s (at_ : Int) w = _
  unfold Zih
  rw [Z3h ha, Option.bind_some, Zkm, Zwo _ hl.1, Option.bind_some, Z2t]
  exact Zyj sg y s at_ ha hl w hw _ (Z2t s d) (fun n x q h3 h4 h5 => Y5u sg y s hs d f n x q (by omega) h4 (by omega) h5) _ 0 z fun j hj => Zmo.1 hj
def Z6l : walk_way := ⟨Z2a, Z2a, [], []⟩
def Z4f (s : Switch) : List Rule := Z2t s 4 0 Z6l
theorem Y9g (sg : Type) (y : sg → Rule → Option (Lp sg)) (s : Switch) (hs : Z9c s) (z : sg) : Zdk sg y (.go z) s = yf y (Z4f s) z := by
 unfold Zdk Zb5 Z94 Zqy
 rw [Option.bind_some, Option.bind_some]
 have := Y5u sg y s hs 4 Z0k 0 Z6l z (by omega) (by omega) (by unfold Z0k; omega) ⟨by simp [Z6l], by simp [Z6l]⟩
 show (Zcx sg y Z0k (.go z) s ((0 : Nat) : Int) Z6l).bind _ = _
 rw [this]
 show _ = yf y (Z2t s 4 0 Z6l) z
 cases yf y (Z2t s 4 0 Z6l) z <;> rfl
def Z76 (s : Switch) : Nat → Nat → Nat
 | 0, _ => 1
 | d + 1, at_ => ((Z0c s at_).length + 1) * Z76 s d (at_ + 1)
theorem Zyk (s : Switch) : ∀ (d at_ : Nat), 1 ≤ Z76 s d at_
 | 0, _ => Nat.le_refl _
 | d + 1, at_ => Nat.le_trans (Zyk s d (at_ + 1)) (Nat.le_mul_of_pos_left _ (by omega))
theorem Y09 (s : Switch) : ∀ (d at_ n : Nat), at_ + d = 4 → at_ ≤ n → n ≤ 4 → Z76 s (4 - n) n ≤ Z76 s d at_
 | 0, at_, n, h1, h2, h3 => by
  have : n = 4 := by omega
  subst this
  exact Nat.le_refl _
 | d + 1, at_, n, h1, h2, h3 => by
  by_cases e : n = at_
  ·subst e
   have : 4 - n = d + 1 := by omega
   rw [this]; exact Nat.le_refl _
  ·rw [Z76]
   exact Nat.le_trans (Y09 s d (at_ + 1) n (by omega) (by omega) h3) (Nat.le_mul_of_pos_left _ (by omega))
theorem Y59 {α β : Type} (f : α → List β) (k : Nat) : ∀ l : List α, (∀ x ∈ l, (f x).length ≤ k) → (l.flatMap f).length ≤ l.length * k
 | [], _ => by simp
 | x :: l, h => by
  rw [List.flatMap_cons, List.length_append, List.length_cons, Nat.add_mul, Nat.one_mul]
  have h1 := h x (by simp)
  have h2 := Y59 f k l fun y hy => h y (by simp [hy])
  omega
theorem Y5f (s : Switch) : ∀ (d at_ : Nat) (w : walk_way), 4 ≤ at_ + d → at_ < 4 → (Z2t s d at_ w).length ≤ Z76 s (4 - at_) at_
 | 0, at_, w, h, h' => by omega
 | d + 1, at_, w, h, h' => by
  have e : 4 - at_ = (4 - (at_ + 1)) + 1 := by omega
  rw [Z2t, List.length_append, List.length_singleton, e, Z76, Nat.add_mul, Nat.one_mul]
  have h1 := Zyk s (4 - (at_ + 1)) (at_ + 1)
  have h2 := Y59 (Z5m (Z2t s d) (Z0c s at_) at_ w) (Z76 s (4 - (at_ + 1)) (at_ + 1)) (Z7u (Z0c s at_)) fun i hi => by
   unfold Z5m
   split
   ·simp
   ·split
    ·simp
    ·split
     ·rename_i n hn
      have hb := Zom hn
      refine Nat.le_trans (Y5f s d n _ (by omega) hb.2) ?_
      exact Y09 s (4 - (at_ + 1)) (at_ + 1) n (by omega) (by omega) (by omega)
     ·simpa using h1
  rw [Ya0] at h2
  omega
theorem Y3j (s : Switch) : (Z4f s).length ≤ Z76 s 4 0 := Y5f s 4 0 Z6l (by omega) (by omega)
theorem Ykw (s : Switch) (hs : Z9c s) (h : Z76 s 4 0 ≤ lim) : Zfo s = some (Z4f s) := by
 unfold Zfo Zpm Zpf Zpg
 rw [Option.bind_some, Ydj (Z4f s) _ (fun y z => Y9g _ y s hs z) (Nat.le_trans (Y3j s) h)]
 rfl
end Go.Proofs.YtknpgojdkobgjaaGreat.W
namespace Go.Proofs.YtknpgojdkobgjaaGreat.W
open Go Go.Wb
def Zle (l : List Inst) : Bool := decide ((l.length : Int) ≤ 8) && !(l.any fun i => !decide ((i.Acts.length : Int) ≤ 12))
theorem Ygg (s : List Inst) (f : Inst → Option Bool) (p : Inst → Bool) (hf : ∀ x ∈ s, f x = some (p x)) : Zik s f = some (s.any p) := by
 unfold Zik; rw [Zyh s f p hf, Option.bind_some, Zb1]
theorem Yb5 (l : List Inst) : Zit l = some (Zle l) := by
 unfold Zit Zle
 rw [Ygg l Zmw (fun i => !decide ((i.Acts.length : Int) ≤ 12)) (fun x _ => rfl)]
 cases decide ((l.length : Int) ≤ 8) <;> rfl
def Zg9 (f : Flow) : Bool := decide ((f.Match.length : Int) ≤ 30) && Zle f.Insts
theorem Yff (f : Flow) : Zip f = some (Zg9 f) := by
 unfold Zip Zg9
 rw [Yb5]
 cases decide ((f.Match.length : Int) ≤ 30) <;> rfl
theorem Y6w (s : List Flow) (f : Flow → Option Bool) (p : Flow → Bool) (hf : ∀ x ∈ s, f x = some (p x)) : Zje s f = some (Z08 p s) := by
 unfold Zje
 rw [show ((s.length : Int)).toNat = s.length by omega]
 exact Zba p (fun i => by rw [Zed]) (fun m i => by rw [Zed]) hf
theorem Yhj (s : List Flow) (f : Flow → Option Bool) (p : Flow → Bool) (hf : ∀ x ∈ s, f x = some (p x)) : Zkp s f = some (s.any p) := by
 unfold Zkp; rw [Y6w s f p hf, Option.bind_some, Zb1]
def Zeq (t : List Flow) (many : Int) : Bool := decide ((t.length : Int) ≤ many) && !(t.any fun f => !Zg9 f)
theorem Ymd (t : List Flow) (many : Int) : Zl3 t many = some (Zeq t many) := by
 unfold Zl3 Zeq
 rw [Yhj t Zkk (fun f => !Zg9 f) (fun f _ => by unfold Zkk; rw [Yff]; rfl)]
 cases decide ((t.length : Int) ≤ many) <;> rfl
def Z95 (s : Switch) (many : Int) : Bool := (Vector.toList s.Tables).all (fun t => Zeq t many) && Zfk s.Groups 9 3
theorem Zz6 (s : Switch) (many : Int) : ∀ (l : List (List Flow)) (i : Nat), Zc7 s many l i = some (l.all (fun t => Zeq t many) && Zfk s.Groups 9 3)
 | [], i => by rw [Zc7, Ydy]; rfl
 | t :: l, i => by
  rw [Zc7, Ymd, Option.bind_some, Zz6 s many l (i + 1), List.all_cons]
  cases Zeq t many <;> rfl
theorem Yei (s : Switch) (many : Int) : Zoh s many = some (Z95 s many) := Zz6 s many _ 0
theorem Ynf (s : Switch) (i : Nat) (h : i < 4) : Z0c s i = (Vector.toList s.Tables)[i]'(by simp; exact h) := by
 rw [← Zkm s i h, Vector.getElem_toList]; rfl
theorem Yg6 (s : Switch) (i : Nat) (h : i < 4) : Z0c s i ∈ Vector.toList s.Tables := by
 rw [Ynf s i h]; exact List.getElem_mem _
theorem Ye2 {l : List Inst} (h : Zle l = true) : l.length ≤ 8 ∧ Z6f l := by
 unfold Zle at h
 simp only [Bool.and_eq_true, decide_eq_true_eq, Bool.not_eq_true', List.any_eq_false] at h
 refine ⟨by omega, fun i hi => ?_⟩
 have h1 : decide ((i.Acts.length : Int) ≤ 12) = true := by simpa using h.2 i hi
 rw [decide_eq_true_eq] at h1
 omega
theorem Y8b {f : Flow} (h : Zg9 f = true) : f.Match.length ≤ 30 ∧ f.Insts.length ≤ 8 ∧ Z6f f.Insts := by
 unfold Zg9 at h
 rw [Bool.and_eq_true, decide_eq_true_eq] at h
 exact ⟨by omega, Ye2 h.2⟩
theorem Ybn {t : List Flow} {many : Nat} (h : Zeq t (many : Int) = true) : t.length ≤ many ∧ ∀ f ∈ t, f.Match.length ≤ 30 ∧ f.Insts.length ≤ 8 ∧ Z6f f.Insts := by
 unfold Zeq at h
 simp only [Bool.and_eq_true, decide_eq_true_eq, Bool.not_eq_true', List.any_eq_false] at h
 exact ⟨by omega, fun f hf => Y8b (by simpa using h.2 f hf)⟩
theorem Zk6 {s : Switch} {many : Nat} (h : Z95 s (many : Int) = true) : (∀ i, i < 4 → (Z0c s i).length ≤ many ∧ ∀ f ∈ Z0c s i, f.Match.length ≤ 30 ∧ f.Insts.length ≤ 8 ∧ Z6f f.Insts) ∧ Z3d s.Groups := by
 unfold Z95 at h
 rw [Bool.and_eq_true, List.all_eq_true] at h
 exact ⟨fun i hi => Ybn (h.1 _ (Yg6 s i hi)), Yiq h.2⟩
theorem Yi0 {s : Switch} {many : Nat} (h : Z95 s (many : Int) = true) (hm : many < 20) : Z9c s := fun i hi => ⟨by have := ((Zk6 h).1 i hi).1; omega, fun f hf => (((Zk6 h).1 i hi).2 f hf).2.2⟩
theorem Yjl (s : Switch) (m : Nat) (h : ∀ i, i < 4 → (Z0c s i).length ≤ m) : Z76 s 4 0 ≤ (m + 1) * ((m + 1) * ((m + 1) * ((m + 1) * 1))) := by
 show ((Z0c s 0).length + 1) * (((Z0c s 1).length + 1) * (((Z0c s 2).length + 1) * (((Z0c s 3).length + 1) * 1))) ≤ _
 have h0 := h 0 (by omega)
 have h1 := h 1 (by omega)
 have h2 := h 2 (by omega)
 have h3 := h 3 (by omega)
 exact Nat.mul_le_mul (by omega) (Nat.mul_le_mul (by omega) (Nat.mul_le_mul (by omega) (Nat.mul_le_mul (by omega) (Nat.le_refl _))))
end Go.Proofs.YtknpgojdkobgjaaGreat.W
namespace Go.Proofs.YtknpgojdkobgjaaGreat.W
open Go Go.Wb
def Z9q (t : List Flow) (h : Header) (i : Int) : Bool := match t[i.toNat]? with
 | some f => Zq (Z8l f) h
 | none => false
theorem Zm8 {t : List Flow} {h : Header} {k : Nat} (hk : k < t.length) : Z9q t h (k : Int) = Zq (Z8l t[k]) h := by
 unfold Z9q
 rw [Int.toNat_natCast, List.getElem?_eq_getElem hk]
def Z8j (t : List Flow) (h : Header) : Option Int := (Z7u t).find? (Z9q t h)
theorem Y4w (sg : Type) (t : List Flow) (h : Header) (y : sg → Int → Option (Lp sg)) : ∀ (l : List Int) (i : Nat) (z : sg), (∀ j ∈ l, ∃ k : Nat, k < t.length ∧ j = (k : Int)) → Zax sg t h y l i (.go z) = yf y (l.filter (Z9q t h)) z
 | [], i, z, _ => rfl
 | j :: l, i, z, hl => by
  obtain ⟨k, hk, rfl⟩ := hl j (by simp)
  have ih := fun z => Y4w sg t h y l (i + 1) z fun j hj => hl j (by simp [hj])
  rw [Zax, Z39 hk, Option.bind_some, Y3t, Option.bind_some, Y4s, Option.bind_some]
  cases hc : Zq (Z8l t[k]) h
  ·rw [Bool.not_false, cond_true, List.filter_cons_of_neg (by rw [Zm8 hk, hc]; simp)]
   exact ih z
  ·rw [Bool.not_true, cond_false, List.filter_cons_of_pos (by rw [Zm8 hk, hc])]
   show (y z (k : Int)).bind _ = _
   rw [yf]
   cases y z (k : Int) with
   | none => rfl
   | some r => cases r with
    | go q => exact ih q
    | out c q => rfl
theorem Y76 (t : List Flow) (h : Header) (ht : t.length < 20) : Zkh t h = some (Z3c 0 (Z8j t h)) := by
 unfold Zkh Zml
 rw [Option.bind_some]
 show (Zdd (Int × Bool) (fun s x => Zkx s.1 s.2 x) (.go (0, false)) t h).bind _ = _
 unfold Zdd
 rw [Zwo t ht, Option.bind_some, Y4w _ t h _ _ _ _ fun j hj => Zmo.1 hj]
 unfold Z8j
 generalize Z7u t = l
 induction l with
 | nil => rfl
 | cons j l ih =>
  cases hj : Z9q t h j
  ·rw [List.filter_cons_of_neg (by simp [hj]), List.find?_cons_of_neg (by simp [hj])]; exact ih
  ·rw [List.filter_cons_of_pos hj, List.find?_cons_of_pos hj]; rfl
theorem Zzm {t : List Flow} {h : Header} {i : Int} (hf : Z8j t h = some i) : ∃ k : Nat, ∃ hk : k < t.length, i = (k : Int) ∧ Zq (Z8l t[k]) h = true := by
 obtain ⟨k, hk, rfl⟩ := Zmo.1 (List.mem_of_find?_eq_some hf)
 have := List.find?_some hf
 rw [Zm8 hk] at this
 exact ⟨k, hk, rfl, this⟩
def inT (t : List Flow) (l : List Int) : Prop := ∀ j ∈ l, ∃ k : Nat, k < t.length ∧ j = (k : Int)
end Go.Proofs.YtknpgojdkobgjaaGreat.W
namespace Go.Proofs.YtknpgojdkobgjaaGreat.W
open Go Go.Wb
end Go.Proofs.YtknpgojdkobgjaaGreat.W
namespace Go.Proofs.YtknpgojdkobgjaaGreat.W
open Go Go.Wb
end Go.Proofs.YtknpgojdkobgjaaGreat.W
