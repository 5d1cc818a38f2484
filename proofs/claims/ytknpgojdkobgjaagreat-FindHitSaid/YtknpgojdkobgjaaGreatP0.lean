/- A part of the proof. -/
import Derived.Test.YtknpgojdkobgjaaGreatG3
set_option linter.unusedVariables false
set_option linter.unusedSimpArgs false
namespace Go.Proofs.YtknpgojdkobgjaaGreat.W
open Go Go.Wb
abbrev big : Nat := 1000000
theorem Z4h {α : Type} (P Q : List α) (x : α) (i : Int) (h : i = (P.length : Int)) : lget (P ++ x :: Q) i = some x := by
 subst h
 rw [Z6e, List.getElem?_append_right (Nat.le_refl _)]; simp
theorem Z74 {α : Type} (P Q : List α) (x y : α) (i : Nat) (h : i = P.length) : List.set (P ++ x :: Q) i y = P ++ y :: Q := by
 subst h
 rw [List.set_append_right _ _ (Nat.le_refl _)]; simp
theorem wr {n : Int} (h1 : -4611686018427387904 ≤ n) (h2 : n ≤ 4611686018427387904) : IntKind.i64.wrap n = n := Z30 (by omega) (by omega)
theorem Zb0 (n : Nat) (h : n ≤ 4611686018427387904) : IntKind.i64.wrap ((BitVec.ofNat 64 n).toNat : Int) = (n : Int) := by
 have : (BitVec.ofNat 64 n).toNat = n := by rw [BitVec.toNat_ofNat]; omega
 rw [this, wr (by omega) (by omega)]
theorem Zms (k : Int) (n : Nat) (hk : k = (n : Int)) (h : n ≤ 4611686018427387904) : Z38 (BitVec.ofInt 64 (IntKind.i64.wrap k)) ((1 : BitVec 64).toNat : Int) = some (BitVec.ofNat 64 (n / 2)) := by
 subst hk
 rw [wr (by omega) (by omega), show ((1 : BitVec 64).toNat : Int) = ((1 : Nat) : Int) from rfl]
 unfold Z38
 rw [decide_eq_false (by omega), cond_false, BitVec.ofInt_natCast, Int.toNat_natCast]
 congr 1
 apply BitVec.eq_of_toNat_eq
 rw [BitVec.toNat_ushiftRight, BitVec.toNat_ofNat, BitVec.toNat_ofNat, Nat.shiftRight_eq_div_pow]
 omega
theorem Y0l (n a b : Nat) : ∀ (U V P M Q : List Action) (i f : Nat), U.length = V.length → P.length = a + i → P.length + U.length + M.length = b + i → i + U.length = n → U.length < f → (P ++ U ++ M ++ V ++ Q).length ≤ big →
  Z9f (n : Int) (b : Int) (a : Int) f (P ++ U ++ M ++ V ++ Q) (i : Int) = some (P ++ V ++ M ++ U ++ Q)
 | [], V, P, M, Q, i, f, h1, h2, h3, h4, h5, h6 => by
  have hV : V = [] := List.eq_nil_of_length_eq_zero (by simpa using h1.symm)
  subst hV
  obtain ⟨f, rfl⟩ : ∃ k, f = k + 1 := ⟨f - 1, by simp at h5; omega⟩
  rw [Z9f, decide_eq_false (by simp at h4; omega), cond_false]
 | u :: U, [], P, M, Q, i, f, h1, h2, h3, h4, h5, h6 => by simp at h1
 | u :: U, v :: V, P, M, Q, i, f, h1, h2, h3, h4, h5, h6 => by
  obtain ⟨f, rfl⟩ : ∃ k, f = k + 1 := ⟨f - 1, by simp at h5; omega⟩
  simp only [List.length_cons, List.length_append] at h1 h3 h4 h5 h6
  have hbig : big = 1000000 := rfl
  have ea : IntKind.i64.wrap ((a : Int) + (i : Int)) = (P.length : Int) := by rw [wr (by omega) (by omega)]; omega
  have eb : IntKind.i64.wrap ((b : Int) + (i : Int)) = ((P ++ u :: U ++ M).length : Int) := by
   rw [wr (by omega) (by omega)]; simp only [List.length_append, List.length_cons]; omega
  have e1 : P ++ u :: U ++ M ++ v :: V ++ Q = (P ++ u :: U ++ M) ++ v :: (V ++ Q) := by simp
  have e2 : P ++ u :: U ++ M ++ v :: V ++ Q = P ++ u :: (U ++ M ++ v :: V ++ Q) := by simp
  have e3 : P ++ v :: (U ++ M ++ v :: V ++ Q) = (P ++ v :: U ++ M) ++ v :: (V ++ Q) := by simp
  have e4 : (P ++ v :: U ++ M) ++ u :: (V ++ Q) = (P ++ [v]) ++ U ++ (M ++ [u]) ++ V ++ Q := by simp
  have g1 : lget (P ++ u :: U ++ M ++ v :: V ++ Q) ((P ++ u :: U ++ M).length : Int) = some v := by rw [e1]; exact Z4h _ _ _ _ rfl
  have g2 : lget (P ++ u :: U ++ M ++ v :: V ++ Q) (P.length : Int) = some u := by rw [e2]; exact Z4h _ _ _ _ rfl
  have s1 : List.set (P ++ u :: U ++ M ++ v :: V ++ Q) ((P.length : Int)).toNat v = (P ++ v :: U ++ M) ++ v :: (V ++ Q) := by
   rw [e2, Int.toNat_natCast, Z74 _ _ _ _ _ rfl, e3]
  have hl : (P ++ u :: U ++ M).length = (P ++ v :: U ++ M).length := by simp
  have g3 : lget ((P ++ v :: U ++ M) ++ v :: (V ++ Q)) ((P ++ u :: U ++ M).length : Int) = some v := Z4h _ _ _ _ (by rw [hl])
  have s2 : List.set ((P ++ v :: U ++ M) ++ v :: (V ++ Q)) (((P ++ u :: U ++ M).length : Int)).toNat u = (P ++ [v]) ++ U ++ (M ++ [u]) ++ V ++ Q := by
   rw [Int.toNat_natCast, Z74 _ _ _ _ _ hl, e4]
  have ei : IntKind.i64.wrap ((i : Int) + 1) = ((i + 1 : Nat) : Int) := by rw [wr (by omega) (by omega)]; omega
  rw [Z9f, decide_eq_true (by omega), cond_true, eb, g1, Option.bind_some, ea, g2, Option.bind_some, Option.bind_some, s1, g3, Option.bind_some, s2, ei,
   Y0l n a b U V (P ++ [v]) (M ++ [u]) Q (i + 1) f (by omega) (by simp only [List.length_append, List.length_cons, List.length_nil]; omega) (by simp only [List.length_append, List.length_cons, List.length_nil]; omega) (by omega) (by omega) (by simp only [List.length_append, List.length_cons, List.length_nil]; omega)]
  simp
theorem Zry (U V P M Q : List Action) (cmp : Action → Action → Option Int) (a b n : Int) (h : U.length = V.length) (ha : a = (P.length : Int)) (hb : b = ((P ++ U ++ M).length : Int)) (hn : n = (U.length : Int)) (hl : (P ++ U ++ M ++ V ++ Q).length ≤ big) :
  Zcm (P ++ U ++ M ++ V ++ Q) a b n cmp = some (P ++ V ++ M ++ U ++ Q) := by
 subst ha hb hn
 unfold Zcm
 exact Y0l U.length P.length (P ++ U ++ M).length U V P M Q 0 _ h rfl (by simp only [List.length_append]; omega) (by omega) (by omega) hl
theorem Zs5 (cmp : Action → Action → Option Int) : ∀ (f : Nat) (X Y P Q : List Action) (m : Nat), 0 < X.length → 0 < Y.length → X.length + Y.length ≤ f → P.length + X.length = m → (P ++ X ++ Y ++ Q).length ≤ big →
  Z9r (m : Int) cmp f (P ++ X ++ Y ++ Q) (X.length : Int) (Y.length : Int) = some (P ++ Y ++ X ++ Q)
 | 0, X, Y, P, Q, m, h1, h2, h3, h4, h5 => by omega
 | f + 1, X, Y, P, Q, m, h1, h2, h3, h4, h5 => by
  have hbig : big = 1000000 := rfl
  simp only [List.length_append] at h5
  have em : IntKind.i64.wrap ((m : Int) - (X.length : Int)) = (P.length : Int) := by rw [wr (by omega) (by omega)]; omega
  rw [Z9r, em]
  by_cases he : X.length = Y.length
  ·rw [decide_eq_false (by omega), cond_false]
   have := Zry X Y P [] Q cmp (P.length : Int) (m : Int) (X.length : Int) he rfl (by simp; omega) rfl (by simp only [List.length_append, List.length_nil]; omega)
   simp only [List.append_nil] at this
   rw [this]; rfl
  ·rw [decide_eq_true (by omega), cond_true]
   by_cases hg : X.length > Y.length
   ·rw [decide_eq_true (by omega), cond_true]
    have hx : X = X.take Y.length ++ X.drop Y.length := (List.take_append_drop ..).symm
    generalize hX1 : X.take Y.length = X1 at hx
    generalize hX2 : X.drop Y.length = X2 at hx
    have l1 : X1.length = Y.length := by rw [← hX1]; simp; omega
    have l2 : X2.length = X.length - Y.length := by rw [← hX2]; simp
    have := Zry X1 Y P X2 Q cmp (P.length : Int) (m : Int) (Y.length : Int) l1 rfl (by simp only [List.length_append]; omega) (by omega) (by simp only [List.length_append]; omega)
    have e1 : P ++ X ++ Y ++ Q = P ++ X1 ++ X2 ++ Y ++ Q := by rw [hx]; simp
    have e2 : P ++ Y ++ X2 ++ X1 ++ Q = (P ++ Y) ++ X2 ++ X1 ++ Q := by simp
    have e3 : IntKind.i64.wrap ((X.length : Int) - (Y.length : Int)) = (X2.length : Int) := by rw [wr (by omega) (by omega)]; omega
    have e4 : ((Y.length : Nat) : Int) = (X1.length : Int) := by omega
    rw [e1, this, Option.bind_some, e2, e3, e4, Zs5 cmp f X2 X1 (P ++ Y) Q m (by omega) (by omega) (by omega) (by simp only [List.length_append]; omega) (by simp only [List.length_append]; omega)]
    rw [hx]; simp
   ·rw [decide_eq_false (by omega), cond_false]
    have hy : Y = Y.take (Y.length - X.length) ++ Y.drop (Y.length - X.length) := (List.take_append_drop ..).symm
    generalize hY1 : Y.take (Y.length - X.length) = Y1 at hy
    generalize hY2 : Y.drop (Y.length - X.length) = Y2 at hy
    have l1 : Y1.length = Y.length - X.length := by rw [← hY1]; simp
    have l2 : Y2.length = X.length := by rw [← hY2]; simp; omega
    have hb : IntKind.i64.wrap (IntKind.i64.wrap ((m : Int) + (Y.length : Int)) - (X.length : Int)) = ((P ++ X ++ Y1).length : Int) := by
     rw [wr (n := (m : Int) + (Y.length : Int)) (by omega) (by omega), wr (by omega) (by omega)]; simp only [List.length_append]; omega
    have := Zry X Y2 P Y1 Q cmp (P.length : Int) ((P ++ X ++ Y1).length : Int) (X.length : Int) (by omega) rfl rfl rfl (by simp only [List.length_append]; omega)
    have e1 : P ++ X ++ Y ++ Q = P ++ X ++ Y1 ++ Y2 ++ Q := by rw [hy]; simp
    have e2 : P ++ Y2 ++ Y1 ++ X ++ Q = P ++ Y2 ++ Y1 ++ (X ++ Q) := by simp
    have e3 : IntKind.i64.wrap ((Y.length : Int) - (X.length : Int)) = (Y1.length : Int) := by rw [wr (by omega) (by omega)]; omega
    have e4 : ((X.length : Nat) : Int) = (Y2.length : Int) := by omega
    rw [hb, e1, this, Option.bind_some, e2, e3, e4, Zs5 cmp f Y2 Y1 P (X ++ Q) m (by omega) (by omega) (by omega) (by omega) (by simp only [List.length_append]; omega)]
    rw [hy]; simp
theorem Y4p (cmp : Action → Action → Option Int) (X Y P Q : List Action) (a m b : Int) (h1 : 0 < X.length) (h2 : 0 < Y.length) (ha : a = (P.length : Int)) (hm : m = ((P ++ X).length : Int)) (hb : b = ((P ++ X ++ Y).length : Int)) (hl : (P ++ X ++ Y ++ Q).length ≤ big) :
  Zf7 (P ++ X ++ Y ++ Q) a m b cmp = some (P ++ Y ++ X ++ Q) := by
 subst ha hm hb
 have hbig : big = 1000000 := rfl
 simp only [List.length_append] at hl
 unfold Zf7
 have e1 : IntKind.i64.wrap (((P ++ X).length : Int) - (P.length : Int)) = (X.length : Int) := by rw [wr (by simp only [List.length_append]; omega) (by simp only [List.length_append]; omega)]; simp only [List.length_append]; omega
 have e2 : IntKind.i64.wrap (((P ++ X ++ Y).length : Int) - ((P ++ X).length : Int)) = (Y.length : Int) := by rw [wr (by simp only [List.length_append]; omega) (by simp only [List.length_append]; omega)]; simp only [List.length_append]; omega
 rw [e1, e2]
 exact Zs5 cmp Z0y X Y P Q _ h1 h2 (by unfold Z0y; omega) (by simp) (by simp only [List.length_append]; omega)
theorem Zgv {β : Type} (G : Nat → Int → Int → Option β) (K : Int → Option β) (t : Nat → Bool) (lo s hi : Nat)
  (step : ∀ (f i j : Nat), lo ≤ i → i < j → j ≤ hi → G (f + 1) (i : Int) (j : Int) = bif t ((i + j) / 2) then G f (((i + j) / 2 + 1 : Nat) : Int) (j : Int) else G f (i : Int) (((i + j) / 2 : Nat) : Int))
  (stop : ∀ (f i : Nat), lo ≤ i → i ≤ hi → G (f + 1) (i : Int) (i : Int) = K (i : Int)) (ht : ∀ c, lo ≤ c → c < s → t c = true) (hf : ∀ c, s ≤ c → c < hi → t c = false) :
  ∀ (f i j : Nat), lo ≤ i → i ≤ s → s ≤ j → j ≤ hi → j - i < f → G f (i : Int) (j : Int) = K (s : Int)
 | 0, i, j, _, _, _, _, h => by omega
 | f + 1, i, j, h1, h2, h3, h4, h5 => by
  by_cases hij : i < j
  ·rw [step f i j h1 hij h4]
   by_cases hc : (i + j) / 2 < s
   ·rw [ht _ (by omega) hc, cond_true]
    exact Zgv G K t lo s hi step stop ht hf f _ j (by omega) (by omega) h3 h4 (by omega)
   ·rw [hf _ (by omega) (by omega), cond_false]
    exact Zgv G K t lo s hi step stop ht hf f i _ h1 h2 (by omega) (by omega) (by omega)
  ·have e1 : i = s := by omega
   have e2 : j = s := by omega
   rw [e1, e2]
   exact stop f s (by omega) (by omega)
theorem Zkh (t : Nat → Bool) (lo : Nat) : ∀ (n : Nat), (∀ c d, lo ≤ c → c ≤ d → d < lo + n → t c = false → t d = false) → ∃ s, lo ≤ s ∧ s ≤ lo + n ∧ (∀ c, lo ≤ c → c < s → t c = true) ∧ ∀ c, s ≤ c → c < lo + n → t c = false
 | 0, _ => ⟨lo, Nat.le_refl _, Nat.le_refl _, fun c h1 h2 => by omega, fun c h1 h2 => by omega⟩
 | n + 1, hm => by
  obtain ⟨s, h1, h2, h3, h4⟩ := Zkh t lo n fun c d a b e f => hm c d a b (by omega) f
  by_cases hs : s < lo + n
  ·refine ⟨s, h1, by omega, h3, fun c a b => ?_⟩
   by_cases hc : c < lo + n
   ·exact h4 c a hc
   ·exact hm s c h1 a b (h4 s (Nat.le_refl _) hs)
  ·have : s = lo + n := by omega
   subst this
   cases ht : t (lo + n)
   ·exact ⟨lo + n, h1, by omega, h3, fun c a b => by rw [show c = lo + n by omega, ht]⟩
   ·refine ⟨lo + n + 1, by omega, by omega, fun c a b => ?_, fun c a b => by omega⟩
    by_cases hc : c < lo + n
    ·exact h3 c a hc
    ·have : c = lo + n := by omega
     rw [this, ht]
end Go.Proofs.YtknpgojdkobgjaaGreat.W
namespace Go.Proofs.YtknpgojdkobgjaaGreat.W
open Go Go.Wb
section sym
variable (lt : Action → Action → Bool) (cmp : Action → Action → Option Int)
def Z5e : Prop := ∀ x y, ∃ c, cmp x y = some c ∧ decide (c < 0) = lt x y
variable {lt cmp}
theorem Zyo (e : Nat) : ∀ (Y P Q : List Action) (x : Action) (k f : Nat), k = P.length → k + Y.length + 1 = e → Y.length < f → (P ++ x :: (Y ++ Q)).length ≤ big →
  Z6j (e : Int) f (P ++ x :: (Y ++ Q)) (k : Int) = some (P ++ Y ++ x :: Q)
 | [], P, Q, x, k, f, h1, h2, h3, h4 => by
  obtain ⟨f, rfl⟩ : ∃ k, f = k + 1 := ⟨f - 1, by simp at h3; omega⟩
  have hbig : big = 1000000 := rfl
  simp only [List.length_append, List.length_cons, List.length_nil] at h2 h4
  rw [Z6j, wr (by omega) (by omega), decide_eq_false (by omega), cond_false]
  simp
 | y :: Y, P, Q, x, k, f, h1, h2, h3, h4 => by
  obtain ⟨f, rfl⟩ : ∃ k, f = k + 1 := ⟨f - 1, by simp at h3; omega⟩
  have hbig : big = 1000000 := rfl
  simp only [List.length_append, List.length_cons] at h2 h3 h4
  have ek : IntKind.i64.wrap ((k : Int) + 1) = ((k + 1 : Nat) : Int) := by rw [wr (by omega) (by omega)]; omega
  have e1 : P ++ x :: (y :: Y ++ Q) = (P ++ [x]) ++ y :: (Y ++ Q) := by simp
  have e2 : (P ++ [y]) ++ y :: (Y ++ Q) = P ++ y :: (y :: (Y ++ Q)) := by simp
  have g1 : lget (P ++ x :: (y :: Y ++ Q)) ((k + 1 : Nat) : Int) = some y := by rw [e1]; exact Z4h _ _ _ _ (by simp; omega)
  have g2 : lget (P ++ x :: (y :: Y ++ Q)) (k : Int) = some x := Z4h _ _ _ _ (by omega)
  have s1 : List.set (P ++ x :: (y :: Y ++ Q)) ((k : Int)).toNat y = (P ++ [y]) ++ y :: (Y ++ Q) := by rw [Int.toNat_natCast, Z74 _ _ _ _ _ h1]; simp
  have g3 : lget ((P ++ [y]) ++ y :: (Y ++ Q)) ((k + 1 : Nat) : Int) = some y := Z4h _ _ _ _ (by simp; omega)
  have s2 : List.set ((P ++ [y]) ++ y :: (Y ++ Q)) (((k + 1 : Nat) : Int)).toNat x = (P ++ [y]) ++ x :: (Y ++ Q) := by rw [Int.toNat_natCast, Z74 _ _ _ _ _ (by simp; omega)]
  rw [Z6j, wr (n := (e : Int) - 1) (by omega) (by omega), decide_eq_true (by omega), cond_true, ek, g1, Option.bind_some, g2, Option.bind_some, Option.bind_some, s1, g3, Option.bind_some, s2,
   Zyo e Y (P ++ [y]) Q x (k + 1) f (by simp; omega) (by omega) (by omega) (by simp only [List.length_append, List.length_cons, List.length_nil]; omega)]
  simp
theorem Y0g (s : Nat) : ∀ (R P Q : List Action) (x : Action) (k f : Nat), k = s + R.length → P.length = s → R.length < f → (P ++ R.reverse ++ x :: Q).length ≤ big →
  Z6n (s : Int) f (P ++ R.reverse ++ x :: Q) (k : Int) = some (P ++ x :: (R.reverse ++ Q))
 | [], P, Q, x, k, f, h1, h2, h3, h4 => by
  obtain ⟨f, rfl⟩ : ∃ k, f = k + 1 := ⟨f - 1, by simp at h3; omega⟩
  rw [Z6n, decide_eq_false (by simp at h1; omega), cond_false]
  simp
 | y :: R, P, Q, x, k, f, h1, h2, h3, h4 => by
  obtain ⟨f, rfl⟩ : ∃ k, f = k + 1 := ⟨f - 1, by simp at h3; omega⟩
  have hbig : big = 1000000 := rfl
  simp only [List.length_append, List.length_cons, List.length_reverse] at h1 h3 h4
  have ek : IntKind.i64.wrap ((k : Int) - 1) = ((k - 1 : Nat) : Int) := by rw [wr (by omega) (by omega)]; omega
  have e1 : P ++ (y :: R).reverse ++ x :: Q = (P ++ R.reverse) ++ y :: (x :: Q) := by simp
  have e1' : P ++ (y :: R).reverse ++ x :: Q = (P ++ R.reverse ++ [y]) ++ x :: Q := by simp
  have g1 : lget (P ++ (y :: R).reverse ++ x :: Q) ((k - 1 : Nat) : Int) = some y := by rw [e1]; exact Z4h _ _ _ _ (by simp; omega)
  have g2 : lget (P ++ (y :: R).reverse ++ x :: Q) (k : Int) = some x := by rw [e1']; exact Z4h _ _ _ _ (by simp; omega)
  have s1 : List.set (P ++ (y :: R).reverse ++ x :: Q) ((k : Int)).toNat y = (P ++ R.reverse) ++ y :: (y :: Q) := by rw [e1', Int.toNat_natCast, Z74 _ _ _ _ _ (by simp; omega)]; simp
  have g3 : lget ((P ++ R.reverse) ++ y :: (y :: Q)) ((k - 1 : Nat) : Int) = some y := Z4h _ _ _ _ (by simp; omega)
  have s2 : List.set ((P ++ R.reverse) ++ y :: (y :: Q)) (((k - 1 : Nat) : Int)).toNat x = P ++ R.reverse ++ x :: (y :: Q) := by rw [Int.toNat_natCast, Z74 _ _ _ _ _ (by simp; omega)]
  rw [Z6n, decide_eq_true (by omega), cond_true, ek, g1, Option.bind_some, g2, Option.bind_some, Option.bind_some, s1, g3, Option.bind_some, s2,
   Y0g s R P (y :: Q) x (k - 1) f (by omega) h2 (by omega) (by simp only [List.length_append, List.length_cons, List.length_reverse]; omega)]
  simp
theorem Zlm {α : Type} (P X Q : List α) (c : Nat) (h1 : P.length ≤ c) (h2 : c < P.length + X.length) : lget (P ++ X ++ Q) (c : Int) = some (X[c - P.length]'(by omega)) := by
 rw [Z6e, List.append_assoc, List.getElem?_append_right h1, List.getElem?_append_left (by omega), List.getElem?_eq_getElem]
theorem Y7v {l : List Action} (h : Z18 lt l) {i j : Nat} (hi : i < l.length) (hj : j < l.length) (hij : i < j) : lt l[j] l[i] = false := (List.pairwise_iff_getElem.1 h) i j hi hj hij
theorem Zat (hs : Swo lt) {l : List Action} (h : Z18 lt l) {i j : Nat} (hi : i < l.length) (hj : j < l.length) (hij : i ≤ j) : lt l[j] l[i] = false := by
 rcases Nat.lt_or_eq_of_le hij with h1 | h1
 ·exact Y7v h hi hj h1
 ·subst h1
  have := Z7d hs l[i]
  unfold eqv at this
  simpa using this
theorem Zla {A B : List Action} (h : Z18 lt (A ++ B)) : Z18 lt A := (List.pairwise_append.1 h).1
theorem Zkp {A B : List Action} (h : Z18 lt (A ++ B)) : Z18 lt B := (List.pairwise_append.1 h).2.1
theorem Yct (hs : Swo lt) (hc : Z5e lt cmp) (x : Action) (Y P Q : List Action) (hY : Z18 lt Y) (hl : (P ++ x :: (Y ++ Q)).length ≤ big) :
  Z6a (P ++ x :: (Y ++ Q)) (P.length : Int) cmp ((((P.length + 1 + Y.length : Nat) : Int) - ((P.length + 1 : Nat) : Int)).toNat + 1) ((P.length + 1 : Nat) : Int) ((P.length + 1 + Y.length : Nat) : Int) = some (P ++ srt lt (x :: Y) ++ Q) := by
 have hbig : big = 1000000 := rfl
 simp only [List.length_append, List.length_cons] at hl
 have eD : P ++ x :: (Y ++ Q) = (P ++ [x]) ++ Y ++ Q := by simp
 let t : Nat → Bool := fun c => if h : c - (P.length + 1) < Y.length then lt Y[c - (P.length + 1)] x else false
 have htv : ∀ c (h : c - (P.length + 1) < Y.length), t c = lt Y[c - (P.length + 1)] x := fun c h => by simp only [t]; rw [dif_pos h]
 obtain ⟨s, s1, s2, s3, s4⟩ := Zkh t (P.length + 1) Y.length fun c d h1 h2 h3 h4 => by
  rw [htv c (by omega)] at h4
  rw [htv d (by omega)]
  exact hs.neg _ _ _ (Zat hs hY (by omega) (by omega) (by omega)) h4
 have key := Zgv (Z6a (P ++ x :: (Y ++ Q)) (P.length : Int) cmp) (fun i => Z6j i ((((IntKind.i64.wrap (i - 1)) : Int) - (P.length : Int)).toNat + 1) (P ++ x :: (Y ++ Q)) (P.length : Int)) t (P.length + 1) s (P.length + 1 + Y.length)
  (fun f i j h1 h2 h3 => by
   obtain ⟨c, hc1, hc2⟩ := hc (Y[(i + j) / 2 - (P.length + 1)]'(by omega)) x
   have gx : lget (P ++ x :: (Y ++ Q)) (P.length : Int) = some x := Z4h _ _ _ _ rfl
   have gy : lget (P ++ x :: (Y ++ Q)) (((i + j) / 2 : Nat) : Int) = some (Y[(i + j) / 2 - (P.length + 1)]'(by omega)) := by
    rw [eD, Zlm (P ++ [x]) Y Q _ (by simp; omega) (by simp; omega)]
    simp
   have e1 : IntKind.i64.wrap ((((i + j) / 2 : Nat) : Int) + 1) = (((i + j) / 2 + 1 : Nat) : Int) := by rw [wr (by omega) (by omega)]; omega
   rw [Z6a, decide_eq_true (by omega), cond_true, Zms _ (i + j) (by omega) (by omega), Option.bind_some, Zb0 _ (by omega), gy, Option.bind_some, gx, Option.bind_some, hc1, Option.bind_some, hc2, htv _ (by omega), e1])
  (fun f i h1 h2 => by rw [Z6a, decide_eq_false (by omega), cond_false]) s3 (fun c h1 h2 => s4 c h1 h2)
 rw [key _ _ _ (Nat.le_refl _) s1 s2 (Nat.le_refl _) (by omega)]
 have hy : Y = Y.take (s - (P.length + 1)) ++ Y.drop (s - (P.length + 1)) := (List.take_append_drop ..).symm
 have l1 : (Y.take (s - (P.length + 1))).length = s - (P.length + 1) := by simp; omega
 have hm := Zyo s (Y.take (s - (P.length + 1))) P (Y.drop (s - (P.length + 1)) ++ Q) x P.length ((((IntKind.i64.wrap ((s : Int) - 1)) : Int) - (P.length : Int)).toNat + 1) rfl (by omega) (by rw [wr (by omega) (by omega)]; omega) (by simp only [List.length_append, List.length_cons, List.length_drop]; omega)
 rw [← List.append_assoc, ← hy] at hm
 show Z6j (s : Int) _ _ _ = _
 rw [hm]
 have h1 : ∀ y ∈ Y.take (s - (P.length + 1)), lt y x = true := fun y hy1 => by
  obtain ⟨i, hi, rfl⟩ := List.getElem_of_mem hy1
  rw [l1] at hi
  have := s3 (i + (P.length + 1)) (by omega) (by omega)
  rw [htv _ (by omega)] at this
  simpa using this
 have h2 : ∀ y ∈ Y.drop (s - (P.length + 1)), lt y x = false := fun y hy1 => by
  obtain ⟨i, hi, rfl⟩ := List.getElem_of_mem hy1
  rw [List.length_drop] at hi
  have := s4 (s + i) (by omega) (by omega)
  rw [htv _ (by omega)] at this
  rw [List.getElem_drop]
  have e : s + i - (P.length + 1) = s - (P.length + 1) + i := by omega
  simpa [e] using this
 have hY' := hY
 rw [hy] at hY'
 have h3 := Znu hs (X1 := []) (X2 := [x]) (Y1 := Y.take (s - (P.length + 1))) (Y2 := Y.drop (s - (P.length + 1))) (by simp [Z18]) hY' (by simp) (fun y hy1 u hu => by rw [show u = x by simpa using hu]; exact h1 y hy1)
 simp only [List.nil_append, ← hy] at h3
 have h4 : srt lt ([x] ++ Y.drop (s - (P.length + 1))) = [x] ++ Y.drop (s - (P.length + 1)) := Zdn hs (by
  unfold Z18
  rw [List.pairwise_append]
  exact ⟨by simp, (Zkp hY'), fun u hu v hv => by rw [show u = x by simpa using hu]; exact h2 v hv⟩)
 rw [h4, Zdn hs (Zla hY')] at h3
 rw [show x :: Y = [x] ++ Y from rfl, h3]
 simp
theorem Y3m (hs : Swo lt) (hc : Z5e lt cmp) (x : Action) (X P Q : List Action) (hX : Z18 lt X) (hl : (P ++ X ++ x :: Q).length ≤ big) :
  Z64 (P ++ X ++ x :: Q) ((P.length + X.length : Nat) : Int) cmp ((((P.length + X.length : Nat) : Int) - (P.length : Int)).toNat + 1) (P.length : Int) ((P.length + X.length : Nat) : Int) = some (P ++ srt lt (X ++ [x]) ++ Q) := by
 have hbig : big = 1000000 := rfl
 simp only [List.length_append, List.length_cons] at hl
 let t : Nat → Bool := fun c => if h : c - P.length < X.length then !lt x X[c - P.length] else false
 have htv : ∀ c (h : c - P.length < X.length), t c = !lt x X[c - P.length] := fun c h => by simp only [t]; rw [dif_pos h]
 obtain ⟨s, s1, s2, s3, s4⟩ := Zkh t P.length X.length fun c d h1 h2 h3 h4 => by
  rw [htv c (by omega)] at h4
  rw [htv d (by omega)]
  simp only [Bool.not_eq_false'] at h4 ⊢
  cases hd : lt x X[d - P.length]
  ·have := hs.neg _ _ _ hd (Zat hs hX (i := c - P.length) (j := d - P.length) (by omega) (by omega) (by omega))
   rw [this] at h4; cases h4
  ·rfl
 have key := Zgv (Z64 (P ++ X ++ x :: Q) ((P.length + X.length : Nat) : Int) cmp) (fun i => Z6n i (((((P.length + X.length : Nat) : Int) : Int) - i).toNat + 1) (P ++ X ++ x :: Q) ((P.length + X.length : Nat) : Int)) t P.length s (P.length + X.length)
  (fun f i j h1 h2 h3 => by
   obtain ⟨c, hc1, hc2⟩ := hc x (X[(i + j) / 2 - P.length]'(by omega))
   have gx : lget (P ++ X ++ x :: Q) ((P.length + X.length : Nat) : Int) = some x := Z4h _ _ _ _ (by simp)
   have gy : lget (P ++ X ++ x :: Q) (((i + j) / 2 : Nat) : Int) = some (X[(i + j) / 2 - P.length]'(by omega)) := Zlm P X (x :: Q) _ (by omega) (by omega)
   have e1 : IntKind.i64.wrap ((((i + j) / 2 : Nat) : Int) + 1) = (((i + j) / 2 + 1 : Nat) : Int) := by rw [wr (by omega) (by omega)]; omega
   rw [Z64, decide_eq_true (by omega), cond_true, Zms _ (i + j) (by omega) (by omega), Option.bind_some, Zb0 _ (by omega), gx, Option.bind_some, gy, Option.bind_some, hc1, Option.bind_some, hc2, htv _ (by omega), e1])
  (fun f i h1 h2 => by rw [Z64, decide_eq_false (by omega), cond_false]) s3 (fun c h1 h2 => s4 c h1 h2)
 rw [key _ _ _ (Nat.le_refl _) s1 s2 (Nat.le_refl _) (by omega)]
 have hx : X = X.take (s - P.length) ++ X.drop (s - P.length) := (List.take_append_drop ..).symm
 have l1 : (X.take (s - P.length)).length = s - P.length := by simp; omega
 have hm := Y0g s (X.drop (s - P.length)).reverse (P ++ X.take (s - P.length)) Q x (P.length + X.length) (((((P.length + X.length : Nat) : Int) : Int) - (s : Int)).toNat + 1) (by simp; omega) (by simp; omega) (by simp; omega) (by simp only [List.length_append, List.length_cons, List.length_reverse, List.length_drop, List.length_take]; omega)
 rw [List.reverse_reverse, List.append_assoc P, ← hx] at hm
 show Z6n (s : Int) _ _ _ = _
 rw [hm]
 have h1 : ∀ u ∈ X.take (s - P.length), lt x u = false := fun u hu => by
  obtain ⟨i, hi, rfl⟩ := List.getElem_of_mem hu
  rw [l1] at hi
  have := s3 (i + P.length) (by omega) (by omega)
  rw [htv _ (by omega)] at this
  simpa using this
 have h2 : ∀ u ∈ X.drop (s - P.length), lt x u = true := fun u hu => by
  obtain ⟨i, hi, rfl⟩ := List.getElem_of_mem hu
  rw [List.length_drop] at hi
  have := s4 (s + i) (by omega) (by omega)
  rw [htv _ (by omega)] at this
  rw [List.getElem_drop]
  have e : s + i - P.length = s - P.length + i := by omega
  simpa [e] using this
 have hX' := hX
 rw [hx] at hX'
 have h3 := Znu hs (X1 := X.take (s - P.length)) (X2 := X.drop (s - P.length)) (Y1 := [x]) (Y2 := []) hX' (by simp [Z18]) (by simp) (fun y hy1 u hu => by rw [show y = x by simpa using hy1]; exact h2 u hu)
 simp only [List.append_nil, ← hx] at h3
 have h4 : srt lt (X.take (s - P.length) ++ [x]) = X.take (s - P.length) ++ [x] := Zdn hs (by
  unfold Z18
  rw [List.pairwise_append]
  exact ⟨(Zla hX'), by simp, fun u hu v hv => by rw [show v = x by simpa using hv]; exact h1 u hu⟩)
 rw [h4, Zdn hs (Zkp hX')] at h3
 rw [h3]
 simp
end sym
end Go.Proofs.YtknpgojdkobgjaaGreat.W
namespace Go.Proofs.YtknpgojdkobgjaaGreat.W
open Go Go.Wb
section sym
variable {lt : Action → Action → Bool} {cmp : Action → Action → Option Int}
def Zlj (lt : Action → Action → Bool) (cmp : Action → Action → Option Int) (f : Nat) (R : List Action → Int → Int → Int → (Action → Action → Option Int) → Option (List Action)) : Prop :=
 ∀ (P X Y Q : List Action) (a m b : Int), a = (P.length : Int) → m = (P.length : Int) + (X.length : Int) → b = (P.length : Int) + (X.length : Int) + (Y.length : Int) → 0 < X.length → 0 < Y.length → X.length + Y.length ≤ f → Z18 lt X → Z18 lt Y → (P ++ X ++ Y ++ Q).length ≤ big →
  R (P ++ X ++ Y ++ Q) a m b cmp = some (P ++ srt lt (X ++ Y) ++ Q)
theorem Zzj (hs : Swo lt) {X Y : List Action} (hX : Z18 lt X) (hY : Z18 lt Y) (h : ¬ (0 < X.length ∧ 0 < Y.length)) : srt lt (X ++ Y) = X ++ Y := by
 cases X with
 | nil => exact Zdn hs hY
 | cons x X =>
  cases Y with
  | nil => rw [List.append_nil]; exact Zdn hs hX
  | cons y Y => exact absurd ⟨by simp, by simp⟩ h
theorem Ybs (hs : Swo lt) {f : Nat} {R : List Action → Int → Int → Int → (Action → Action → Option Int) → Option (List Action)} (hR : Zlj lt cmp f R) (P X2 Y2 Q : List Action) (mid : Nat) (m start b : Int)
  (h1 : mid = P.length) (h2 : (mid : Int) + m - start = (P.length : Int) + (X2.length : Int)) (h3 : b = (P.length : Int) + (X2.length : Int) + (Y2.length : Int)) (hm : 0 ≤ m ∧ m ≤ big) (hst : 0 ≤ start ∧ start ≤ big) (hf : X2.length + Y2.length ≤ f) (hX : Z18 lt X2) (hY : Z18 lt Y2) (hl : (P ++ X2 ++ Y2 ++ Q).length ≤ big) :
  Ze7 (BitVec.ofNat 64 mid) m start b R cmp (P ++ X2 ++ Y2 ++ Q) = some (P ++ srt lt (X2 ++ Y2) ++ Q) := by
 have hbig : big = 1000000 := rfl
 have hl' := hl
 simp only [List.length_append] at hl'
 unfold Ze7
 rw [Zb0 mid (by omega)]
 have e1 : IntKind.i64.wrap (IntKind.i64.wrap ((mid : Int) + m) - start) = (P.length : Int) + (X2.length : Int) := by
  rw [wr (n := (mid : Int) + m) (by omega) (by omega), wr (by omega) (by omega), h2]
 rw [e1]
 by_cases hc : 0 < X2.length ∧ 0 < Y2.length
 ·rw [decide_eq_true (by omega), decide_eq_true (by omega), Bool.and_true, cond_true, hR P X2 Y2 Q _ _ _ (by omega) rfl h3 hc.1 hc.2 hf hX hY hl]
  rfl
 ·have : (decide ((mid : Int) < (P.length : Int) + (X2.length : Int)) && decide ((P.length : Int) + (X2.length : Int) < b)) = false := by
   rw [Bool.and_eq_false_iff, decide_eq_false_iff_not, decide_eq_false_iff_not]
   by_cases h : 0 < X2.length
   ·exact .inr (fun h' => hc ⟨h, by omega⟩)
   ·exact .inl (by omega)
  rw [this, cond_false, Zzj hs hX hY hc]
  simp
theorem Y7j (hs : Swo lt) {f : Nat} {R : List Action → Int → Int → Int → (Action → Action → Option Int) → Option (List Action)} (hR : Zlj lt cmp f R) (P X1 Y1 X2 Y2 Q : List Action) (mid : Nat) (a m start b : Int)
  (ha : a = (P.length : Int)) (h1 : mid = P.length + X1.length + Y1.length) (hs1 : start = (P.length : Int) + (X1.length : Int)) (hm : m = start + (X2.length : Int)) (h3 : b = (mid : Int) + (X2.length : Int) + (Y2.length : Int))
  (hf1 : X1.length + Y1.length ≤ f) (hf2 : X2.length + Y2.length ≤ f) (hX1 : Z18 lt X1) (hY1 : Z18 lt Y1) (hX2 : Z18 lt X2) (hY2 : Z18 lt Y2) (hl : (P ++ X1 ++ Y1 ++ X2 ++ Y2 ++ Q).length ≤ big) :
  Zbb a start (BitVec.ofNat 64 mid) R cmp m b (P ++ X1 ++ Y1 ++ X2 ++ Y2 ++ Q) = some (P ++ srt lt (X1 ++ Y1) ++ srt lt (X2 ++ Y2) ++ Q) := by
 have hbig : big = 1000000 := rfl
 have hl' := hl
 simp only [List.length_append] at hl'
 have hlen : (srt lt (X1 ++ Y1)).length = X1.length + Y1.length := by rw [Z2v hs]; simp
 have last := Ybs hs hR (P ++ srt lt (X1 ++ Y1)) X2 Y2 Q mid m start b (by simp only [List.length_append, hlen]; omega) (by simp only [List.length_append, hlen]; omega) (by simp only [List.length_append, hlen]; omega) (by omega) (by omega) hf2 hX2 hY2 (by simp only [List.length_append, hlen]; omega)
 unfold Zbb
 rw [Zb0 mid (by omega)]
 by_cases hc : 0 < X1.length ∧ 0 < Y1.length
 ·have hr := hR P X1 Y1 (X2 ++ Y2 ++ Q) a start (mid : Int) ha hs1 (by omega) hc.1 hc.2 hf1 hX1 hY1 (by simp only [List.length_append]; omega)
  have e : P ++ X1 ++ Y1 ++ X2 ++ Y2 ++ Q = P ++ X1 ++ Y1 ++ (X2 ++ Y2 ++ Q) := by simp
  have e' : P ++ srt lt (X1 ++ Y1) ++ (X2 ++ Y2 ++ Q) = P ++ srt lt (X1 ++ Y1) ++ X2 ++ Y2 ++ Q := by simp
  rw [decide_eq_true (by omega), decide_eq_true (by omega), Bool.and_true, cond_true, e, hr, Option.bind_some, e', last]
 ·have hd : (decide (a < start) && decide (start < (mid : Int))) = false := by
   rw [Bool.and_eq_false_iff, decide_eq_false_iff_not, decide_eq_false_iff_not]
   by_cases h : 0 < X1.length
   ·exact .inr (fun h' => hc ⟨h, by omega⟩)
   ·exact .inl (by omega)
  rw [hd, cond_false]
  rw [Zzj hs hX1 hY1 hc] at last ⊢
  have e : P ++ X1 ++ Y1 ++ X2 ++ Y2 ++ Q = P ++ (X1 ++ Y1) ++ X2 ++ Y2 ++ Q := by simp
  rw [e, last]
theorem Zyq (hs : Swo lt) (hc : Z5e lt cmp) {f : Nat} {R : List Action → Int → Int → Int → (Action → Action → Option Int) → Option (List Action)} (hR : Zlj lt cmp f R) (P X Y Q : List Action) (mid lo hi : Nat)
  (hmid : mid = (P.length + (P.length + X.length + Y.length)) / 2) (h2 : 2 ≤ X.length) (h2' : 2 ≤ Y.length) (hf : X.length + Y.length ≤ f + 1) (hX : Z18 lt X) (hY : Z18 lt Y) (hl : (P ++ X ++ Y ++ Q).length ≤ big)
  (hlh : (mid < P.length + X.length ∧ lo + (P.length + X.length + Y.length) = mid + (P.length + X.length) ∧ hi = mid) ∨ (P.length + X.length ≤ mid ∧ lo = P.length ∧ hi = P.length + X.length)) :
  Zez (P ++ X ++ Y ++ Q) (BitVec.ofNat 64 mid) ((P.length : Int) + (X.length : Int)) cmp (P.length : Int) R ((P.length : Int) + (X.length : Int) + (Y.length : Int)) (lo : Int) (hi : Int) = some (P ++ srt lt (X ++ Y) ++ Q) := by
 have hbig : big = 1000000 := rfl
 have hl' := hl
 simp only [List.length_append] at hl'
 have hin : ∀ c, lo ≤ c → c < hi → P.length ≤ c ∧ c < P.length + X.length ∧ P.length + X.length ≤ mid + (P.length + X.length) - 1 - c ∧ mid + (P.length + X.length) - 1 - c < P.length + X.length + Y.length := fun c a b => by rcases hlh with h | h <;> omega
 let t : Nat → Bool := fun c => if h : (c - P.length < X.length ∧ (mid + (P.length + X.length) - 1 - c) - (P.length + X.length) < Y.length) then !lt (Y[(mid + (P.length + X.length) - 1 - c) - (P.length + X.length)]'h.2) (X[c - P.length]'h.1) else false
 have htv : ∀ c (h1 : c - P.length < X.length) (h2 : (mid + (P.length + X.length) - 1 - c) - (P.length + X.length) < Y.length), t c = !lt (Y[(mid + (P.length + X.length) - 1 - c) - (P.length + X.length)]'h2) (X[c - P.length]'h1) := fun c h1 h2 => by simp only [t]; rw [dif_pos ⟨h1, h2⟩]
 have hlohi : lo ≤ hi := by rcases hlh with h | h <;> omega
 obtain ⟨s, s1, s2, s3, s4⟩ := Zkh t lo (hi - lo) fun c d h1 h2 h3 h4 => by
  have a1 := hin c h1 (by omega)
  have a2 := hin d (by omega) (by omega)
  rw [htv c (by omega) (by omega)] at h4
  rw [htv d (by omega) (by omega)]
  simp only [Bool.not_eq_false'] at h4 ⊢
  cases hd : lt (Y[(mid + (P.length + X.length) - 1 - d) - (P.length + X.length)]'(by omega)) (X[d - P.length]'(by omega))
  ·have b1 := Zat hs hX (i := c - P.length) (j := d - P.length) (by omega) (by omega) (by omega)
   have b2 := Zat hs hY (i := (mid + (P.length + X.length) - 1 - d) - (P.length + X.length)) (j := (mid + (P.length + X.length) - 1 - c) - (P.length + X.length)) (by omega) (by omega) (by omega)
   rw [hs.neg _ _ _ (hs.neg _ _ _ b2 hd) b1] at h4; cases h4
  ·rfl
 have e0 : lo + (hi - lo) = hi := by omega
 rw [e0] at s2 s4
 unfold Zez
 have key := Zgv (Z7o (P ++ X ++ Y ++ Q) (BitVec.ofNat 64 mid) ((P.length : Int) + (X.length : Int)) cmp (P.length : Int) R ((P.length : Int) + (X.length : Int) + (Y.length : Int)))
  (fun start => bif ((decide (start < ((P.length : Int) + (X.length : Int)))) && (decide (((P.length : Int) + (X.length : Int)) < (IntKind.i64.wrap ((IntKind.i64.wrap ((IntKind.i64.wrap ((BitVec.ofNat 64 mid).toNat : Int)) + ((P.length : Int) + (X.length : Int)))) - start))))) then (Zf7 (P ++ X ++ Y ++ Q) start ((P.length : Int) + (X.length : Int)) (IntKind.i64.wrap ((IntKind.i64.wrap ((IntKind.i64.wrap ((BitVec.ofNat 64 mid).toNat : Int)) + ((P.length : Int) + (X.length : Int)))) - start)) cmp).bind fun l59 => Zbb (P.length : Int) start (BitVec.ofNat 64 mid) R cmp ((P.length : Int) + (X.length : Int)) ((P.length : Int) + (X.length : Int) + (Y.length : Int)) l59 else Zbb (P.length : Int) start (BitVec.ofNat 64 mid) R cmp ((P.length : Int) + (X.length : Int)) ((P.length : Int) + (X.length : Int) + (Y.length : Int)) (P ++ X ++ Y ++ Q))
  t lo s hi
  (fun f i j h1 h2 h3 => by
   have a1 := hin ((i + j) / 2) (by omega) (by omega)
   obtain ⟨c, hc1, hc2⟩ := hc (Y[(mid + (P.length + X.length) - 1 - (i + j) / 2) - (P.length + X.length)]'(by omega)) (X[(i + j) / 2 - P.length]'(by omega))
   have gx : lget (P ++ X ++ Y ++ Q) (((i + j) / 2 : Nat) : Int) = some (X[(i + j) / 2 - P.length]'(by omega)) := by
    rw [List.append_assoc (P ++ X)]
    exact Zlm P X (Y ++ Q) _ a1.1 a1.2.1
   have ep : IntKind.i64.wrap (IntKind.i64.wrap (IntKind.i64.wrap ((mid : Int) + ((P.length : Int) + (X.length : Int))) - 1) - (((i + j) / 2 : Nat) : Int)) = ((mid + (P.length + X.length) - 1 - (i + j) / 2 : Nat) : Int) := by
    rw [wr (n := (mid : Int) + ((P.length : Int) + (X.length : Int))) (by omega) (by omega), wr (n := (mid : Int) + ((P.length : Int) + (X.length : Int)) - 1) (by omega) (by omega), wr (by omega) (by omega)]; omega
   have gy : lget (P ++ X ++ Y ++ Q) ((mid + (P.length + X.length) - 1 - (i + j) / 2 : Nat) : Int) = some (Y[(mid + (P.length + X.length) - 1 - (i + j) / 2) - (P.length + X.length)]'(by omega)) := by
    rw [Zlm (P ++ X) Y Q _ (by simp; omega) (by simp; omega)]
    simp
   have e1 : IntKind.i64.wrap ((((i + j) / 2 : Nat) : Int) + 1) = (((i + j) / 2 + 1 : Nat) : Int) := by rw [wr (by omega) (by omega)]; omega
   rw [Z7o, decide_eq_true (by omega), cond_true, Zms _ (i + j) (by omega) (by omega), Option.bind_some, Zb0 mid (by omega), Zb0 ((i + j) / 2) (by omega), ep, gy, Option.bind_some, gx, Option.bind_some, hc1, Option.bind_some, hc2, htv _ (by omega) (by omega), e1])
  (fun f i h1 h2 => by rw [Z7o, decide_eq_false (by omega), cond_false]) s3 (fun c h1 h2 => s4 c h1 h2)
 rw [key _ _ _ (Nat.le_refl _) s1 s2 (Nat.le_refl _) (by omega)]
 have hsm : P.length ≤ s ∧ s ≤ P.length + X.length ∧ s ≤ mid ∧ mid + X.length ≤ s + (X.length + Y.length) := by rcases hlh with h | h <;> omega
 have hx : X = X.take (s - P.length) ++ X.drop (s - P.length) := (List.take_append_drop ..).symm
 have hy : Y = Y.take (mid - s) ++ Y.drop (mid - s) := (List.take_append_drop ..).symm
 have l1 : (X.take (s - P.length)).length = s - P.length := by simp; omega
 have l2 : (X.drop (s - P.length)).length = P.length + X.length - s := by simp; omega
 have l3 : (Y.take (mid - s)).length = mid - s := by simp; omega
 have l4 : (Y.drop (mid - s)).length = Y.length - (mid - s) := by simp
 have hX' := hX
 rw [hx] at hX'
 have hY' := hY
 rw [hy] at hY'
 have hx1 : ∀ x ∈ X.take (s - P.length), ∀ y ∈ Y.drop (mid - s), lt y x = false := fun x hxm y hym => by
  obtain ⟨i, hii, rfl⟩ := List.getElem_of_mem hxm
  obtain ⟨j, hj, rfl⟩ := List.getElem_of_mem hym
  rw [l1] at hii
  rw [l4] at hj
  have hc' : lo ≤ s - 1 := by rcases hlh with h | h <;> omega
  have a1 := hin (s - 1) hc' (by omega)
  have := s3 (s - 1) hc' (by omega)
  rw [htv _ (by omega) (by omega), Bool.not_eq_true'] at this
  rw [List.getElem_drop, List.getElem_take]
  have b1 := Zat hs hX (i := i) (j := s - 1 - P.length) (by omega) (by omega) (by omega)
  have b2 := Zat hs hY (i := (mid + (P.length + X.length) - 1 - (s - 1)) - (P.length + X.length)) (j := mid - s + j) (by omega) (by omega) (by omega)
  exact hs.neg _ _ _ (hs.neg _ _ _ b2 this) b1
 have hx2 : ∀ y ∈ Y.take (mid - s), ∀ x ∈ X.drop (s - P.length), lt y x = true := fun y hym x hxm => by
  obtain ⟨i, hii, rfl⟩ := List.getElem_of_mem hxm
  obtain ⟨j, hj, rfl⟩ := List.getElem_of_mem hym
  rw [l3] at hj
  rw [l2] at hii
  have hc' : s < hi := by rcases hlh with h | h <;> omega
  have a1 := hin s s1 hc'
  have := s4 s (Nat.le_refl _) hc'
  rw [htv _ (by omega) (by omega), Bool.not_eq_false'] at this
  rw [List.getElem_drop, List.getElem_take]
  have b1 := Zat hs hX (i := s - P.length) (j := s - P.length + i) (by omega) (by omega) (by omega)
  have b2 := Zat hs hY (i := j) (j := (mid + (P.length + X.length) - 1 - s) - (P.length + X.length)) (by omega) (by omega) (by omega)
  cases hd : lt (Y[j]'(by omega)) (X[s - P.length + i]'(by omega))
  ·rw [hs.neg _ _ _ (hs.neg _ _ _ b2 hd) b1] at this; cases this
  ·rfl
 have hsp := Znu hs hX' hY' hx1 hx2
 rw [← hx, ← hy] at hsp
 rw [hsp]
 generalize X.take (s - P.length) = X1 at *
 generalize X.drop (s - P.length) = X2 at *
 generalize Y.take (mid - s) = Y1 at *
 generalize Y.drop (mid - s) = Y2 at *
 have last := Y7j hs hR P X1 Y1 X2 Y2 Q mid (P.length : Int) ((P.length : Int) + (X.length : Int)) (s : Int) ((P.length : Int) + (X.length : Int) + (Y.length : Int)) rfl (by omega) (by omega) (by omega) (by omega) (by omega) (by omega) (Zla hX') (Zla hY') (Zkp hX') (Zkp hY') (by simp only [List.length_append]; omega)
 have ee : IntKind.i64.wrap (IntKind.i64.wrap ((mid : Int) + ((P.length : Int) + (X.length : Int))) - (s : Int)) = ((P ++ X1 ++ X2 ++ Y1).length : Int) := by
  rw [wr (n := (mid : Int) + ((P.length : Int) + (X.length : Int))) (by omega) (by omega), wr (by omega) (by omega)]; simp only [List.length_append]; omega
 have eres : P ++ srt lt (X1 ++ Y1) ++ srt lt (X2 ++ Y2) ++ Q = P ++ (srt lt (X1 ++ Y1) ++ srt lt (X2 ++ Y2)) ++ Q := by simp
 rw [eres] at last
 show (bif _ then _ else _) = _
 rw [Zb0 mid (by omega), ee]
 have hlen4 : (P ++ X1 ++ X2 ++ Y1).length = P.length + X1.length + X2.length + Y1.length := by simp only [List.length_append]
 by_cases hcc : 0 < X2.length ∧ 0 < Y1.length
 ·have eL : P ++ X ++ Y ++ Q = (P ++ X1) ++ X2 ++ Y1 ++ (Y2 ++ Q) := by rw [hx, hy]; simp
  have hr := Y4p cmp X2 Y1 (P ++ X1) (Y2 ++ Q) (s : Int) ((P.length : Int) + (X.length : Int)) ((P ++ X1 ++ X2 ++ Y1).length : Int) hcc.1 hcc.2 (by simp only [List.length_append]; omega) (by simp only [List.length_append]; omega) rfl (by simp only [List.length_append]; omega)
  have eR : (P ++ X1) ++ Y1 ++ X2 ++ (Y2 ++ Q) = P ++ X1 ++ Y1 ++ X2 ++ Y2 ++ Q := by simp
  rw [decide_eq_true (by omega), decide_eq_true (by omega), Bool.and_true, cond_true, eL, hr, Option.bind_some, eR, last]
 ·have hd : (decide ((s : Int) < (P.length : Int) + (X.length : Int)) && decide ((P.length : Int) + (X.length : Int) < ((P ++ X1 ++ X2 ++ Y1).length : Int))) = false := by
   rw [Bool.and_eq_false_iff, decide_eq_false_iff_not, decide_eq_false_iff_not]
   by_cases h : 0 < X2.length
   ·exact .inr (fun h' => hcc ⟨h, by omega⟩)
   ·exact .inl (by omega)
  have eL : P ++ X ++ Y ++ Q = P ++ X1 ++ Y1 ++ X2 ++ Y2 ++ Q := by
   rw [hx, hy]
   have : X2 = [] ∨ Y1 = [] := by
    rcases Nat.eq_zero_or_pos X2.length with h | h
    ·exact .inl (List.eq_nil_of_length_eq_zero h)
    ·rcases Nat.eq_zero_or_pos Y1.length with h' | h'
     ·exact .inr (List.eq_nil_of_length_eq_zero h')
     ·exact absurd ⟨h, h'⟩ hcc
   rcases this with h | h
   ·subst h; simp
   ·subst h; simp
  rw [hd, cond_false, eL, last]
theorem Zq8 (hs : Swo lt) (hc : Z5e lt cmp) : ∀ f, Zlj lt cmp f (Zdo f)
 | 0 => fun P X Y Q a m b _ _ _ h1 h2 h3 => by omega
 | f + 1 => by
  intro P X Y Q a m b ha hm hb h1 h2 h3 hX hY hl
  subst ha hm hb
  have hbig : big = 1000000 := rfl
  have hl' := hl
  simp only [List.length_append] at hl'
  show Zhv (Zdo f) _ _ _ _ _ = _
  unfold Zhv
  have e1 : IntKind.i64.wrap ((P.length : Int) + (X.length : Int) - (P.length : Int)) = (X.length : Int) := by rw [wr (by omega) (by omega)]; omega
  have e2 : IntKind.i64.wrap ((P.length : Int) + (X.length : Int) + (Y.length : Int) - ((P.length : Int) + (X.length : Int))) = (Y.length : Int) := by rw [wr (by omega) (by omega)]; omega
  rw [e1, e2]
  by_cases hx1 : X.length = 1
  ·obtain ⟨x, rfl⟩ : ∃ x, X = [x] := List.length_eq_one_iff.1 hx1
   have := Yct hs hc x Y P Q hY (by simpa using hl)
   rw [decide_eq_true (by omega), cond_true]
   have e : P ++ [x] ++ Y ++ Q = P ++ x :: (Y ++ Q) := by simp
   have e4 : (P.length : Int) + ([x].length : Int) = ((P.length + 1 : Nat) : Int) := by simp
   have e5 : ((P.length + 1 : Nat) : Int) + (Y.length : Int) = ((P.length + 1 + Y.length : Nat) : Int) := by omega
   rw [e, e4, e5, this]; rfl
  ·rw [decide_eq_false (by omega), cond_false]
   by_cases hy1 : Y.length = 1
   ·obtain ⟨y, rfl⟩ : ∃ y, Y = [y] := List.length_eq_one_iff.1 hy1
    have := Y3m hs hc y X P Q hX (by simpa using hl)
    rw [decide_eq_true (by omega), cond_true]
    have e : P ++ X ++ [y] ++ Q = P ++ X ++ y :: Q := by simp
    have e4 : (P.length : Int) + (X.length : Int) = ((P.length + X.length : Nat) : Int) := by omega
    rw [e, e4, this]
   ·rw [decide_eq_false (by omega), cond_false, Zms _ (P.length + (P.length + X.length + Y.length)) (by omega) (by omega), Option.bind_some, Zb0 _ (by omega)]
    by_cases hmm : (P.length + (P.length + X.length + Y.length)) / 2 < P.length + X.length
    ·rw [decide_eq_true (by omega), cond_true]
     have e3 : IntKind.i64.wrap (IntKind.i64.wrap ((((P.length + (P.length + X.length + Y.length)) / 2 : Nat) : Int) + ((P.length : Int) + (X.length : Int))) - ((P.length : Int) + (X.length : Int) + (Y.length : Int))) = (((P.length + (P.length + X.length + Y.length)) / 2 + (P.length + X.length) - (P.length + X.length + Y.length) : Nat) : Int) := by
      rw [wr (n := (((P.length + (P.length + X.length + Y.length)) / 2 : Nat) : Int) + ((P.length : Int) + (X.length : Int))) (by omega) (by omega), wr (by omega) (by omega)]; omega
     rw [e3]
     exact Zyq hs hc (Zq8 hs hc f) P X Y Q _ _ _ rfl (by omega) (by omega) (by omega) hX hY hl (.inl ⟨hmm, by omega, rfl⟩)
    ·rw [decide_eq_false (by omega), cond_false]
     have e4 : (P.length : Int) + (X.length : Int) = ((P.length + X.length : Nat) : Int) := by omega
     have := Zyq hs hc (Zq8 hs hc f) P X Y Q _ P.length (P.length + X.length) rfl (by omega) (by omega) (by omega) hX hY hl (.inr ⟨by omega, rfl, rfl⟩)
     rw [← e4] at this
     exact this
theorem Y0b (hs : Swo lt) (hc : Z5e lt cmp) (P X Y Q : List Action) (a m b : Int) (ha : a = (P.length : Int)) (hm : m = (P.length : Int) + (X.length : Int)) (hb : b = (P.length : Int) + (X.length : Int) + (Y.length : Int)) (h1 : 0 < X.length) (h2 : 0 < Y.length) (hX : Z18 lt X) (hY : Z18 lt Y) (hl : (P ++ X ++ Y ++ Q).length ≤ big) :
  Zmb (P ++ X ++ Y ++ Q) a m b cmp = some (P ++ srt lt (X ++ Y) ++ Q) :=
 Zq8 hs hc Z0y P X Y Q a m b ha hm hb h1 h2 (by have hbig : big = 1000000 := rfl; simp only [List.length_append] at hl; unfold Z0y; omega) hX hY hl
end sym
end Go.Proofs.YtknpgojdkobgjaaGreat.W
namespace Go.Proofs.YtknpgojdkobgjaaGreat.W
open Go Go.Wb
section ins
variable {lt : Action → Action → Bool} {cmp : Action → Action → Option Int}
theorem Zsj (hc : Z5e lt cmp) (go : List Action → Int → Option (List Action)) (i : Int) (P : List Action) (x : Action) : ∀ (R S : List Action) (m : Nat), R.length < m → (P ++ R.reverse ++ x :: S).length ≤ big →
  Z8b (P.length : Int) cmp go i m (P ++ R.reverse ++ x :: S) ((P.length + R.length : Nat) : Int) = go (P ++ (Z0o lt x R).reverse ++ S) (IntKind.i64.wrap (i + 1))
 | [], S, m, h, _ => by
  obtain ⟨m, rfl⟩ : ∃ k, m = k + 1 := ⟨m - 1, by simp at h; omega⟩
  rw [Z8b, decide_eq_false (by simp)]
  simp [opt, Z0o]
 | y :: R, S, m, h, hl => by
  have hbig : big = 1000000 := rfl
  simp only [List.length_cons, List.length_append, List.length_reverse] at h hl
  obtain ⟨m, rfl⟩ : ∃ k, m = k + 1 := ⟨m - 1, by omega⟩
  have e0 : P ++ (y :: R).reverse ++ x :: S = (P ++ R.reverse) ++ y :: (x :: S) := by simp
  have ej : IntKind.i64.wrap (((P.length + (y :: R).length : Nat) : Int) - 1) = ((P.length + R.length : Nat) : Int) := by rw [wr (by simp only [List.length_cons]; omega) (by simp only [List.length_cons]; omega)]; simp only [List.length_cons]; omega
  have g1 : ∀ a b : Action, lget ((P ++ R.reverse) ++ a :: (b :: S)) ((P.length + (y :: R).length : Nat) : Int) = some b := fun a b => by
   have : (P ++ R.reverse) ++ a :: (b :: S) = (P ++ R.reverse ++ [a]) ++ b :: S := by simp
   rw [this]; exact Z4h _ _ _ _ (by simp)
  have g0 : ∀ a b : Action, lget ((P ++ R.reverse) ++ a :: (b :: S)) ((P.length + R.length : Nat) : Int) = some a := fun a b => Z4h _ _ _ _ (by simp)
  have s1 : ∀ a b c : Action, List.set ((P ++ R.reverse) ++ a :: (b :: S)) (((P.length + (y :: R).length : Nat) : Int)).toNat c = (P ++ R.reverse) ++ a :: (c :: S) := fun a b c => by
   have : (P ++ R.reverse) ++ a :: (b :: S) = (P ++ R.reverse ++ [a]) ++ b :: S := by simp
   rw [this, Int.toNat_natCast, Z74 _ _ _ _ _ (by simp)]; simp
  have s0 : ∀ a b c : Action, List.set ((P ++ R.reverse) ++ a :: (b :: S)) (((P.length + R.length : Nat) : Int)).toNat c = (P ++ R.reverse) ++ c :: (b :: S) := fun a b c => by
   rw [Int.toNat_natCast, Z74 _ _ _ _ _ (by simp)]
  obtain ⟨c, hc1, hc2⟩ := hc x y
  rw [e0, Z8b, decide_eq_true (by simp only [List.length_cons]; omega), Z4p, g1, Option.bind_some, Z4p, ej, g0, Option.bind_some, Z4p, hc1, Option.bind_some, Bool.true_and, hc2, Z0o]
  cases lt x y
  ·rw [cond_false, cond_false]
   simp
  ·rw [cond_true, cond_true, Option.bind_some, Option.bind_some, Option.bind_some, s1, g0, Option.bind_some, s0, Zsj hc go i P x R (y :: S) m (by omega) (by simp only [List.length_append, List.length_cons, List.length_reverse]; omega)]
   simp
theorem Zpb (x : Action) (R : List Action) : (Z0o lt x R).length = R.length + 1 := by
 induction R with
 | nil => rfl
 | cons y R ih => rw [Z0o]; cases lt x y <;> simp [ih]
theorem Y1e (hc : Z5e lt cmp) (P Q : List Action) : ∀ (T R : List Action) (m : Nat), T.length < m → (P ++ R.reverse ++ T ++ Q).length ≤ big →
  Z6v ((P.length + R.length + T.length : Nat) : Int) (P.length : Int) cmp m (P ++ R.reverse ++ T ++ Q) ((P.length + R.length : Nat) : Int) = some (P ++ (T.foldl (fun R x => Z0o lt x R) R).reverse ++ Q)
 | [], R, m, h, _ => by
  obtain ⟨m, rfl⟩ : ∃ k, m = k + 1 := ⟨m - 1, by simp at h; omega⟩
  rw [Z6v, decide_eq_false (by simp), cond_false]
  simp
 | x :: T, R, m, h, h2 => by
  have hbig : big = 1000000 := rfl
  simp only [List.length_cons, List.length_append, List.length_reverse] at h h2
  obtain ⟨m, rfl⟩ : ∃ k, m = k + 1 := ⟨m - 1, by omega⟩
  have e : IntKind.i64.wrap (((P.length + R.length : Nat) : Int) + 1) = ((P.length + (Z0o lt x R).length : Nat) : Int) := by rw [Zpb, wr (by omega) (by omega)]; omega
  have hn : P.length + R.length + (x :: T).length = P.length + (Z0o lt x R).length + T.length := by rw [Zpb, List.length_cons]; omega
  have e0 : P ++ R.reverse ++ x :: T ++ Q = P ++ R.reverse ++ x :: (T ++ Q) := by simp
  rw [Z6v, decide_eq_true (by simp only [List.length_cons]; omega), cond_true, e0, Zsj hc _ _ P x R (T ++ Q) Z0y (by unfold Z0y; omega) (by simp only [List.length_append, List.length_cons, List.length_reverse]; omega), e, hn,
   ← List.append_assoc, Y1e hc P Q T (Z0o lt x R) m (by omega) (by simp only [List.length_append, List.length_reverse, Zpb]; omega), List.foldl_cons]
theorem Zyf (hc : Z5e lt cmp) (P L Q : List Action) (a b : Int) (ha : a = (P.length : Int)) (hb : b = (P.length : Int) + (L.length : Int)) (h : (P ++ L ++ Q).length ≤ big) : Zeu (P ++ L ++ Q) a b cmp = some (P ++ srt lt L ++ Q) := by
 subst ha hb
 have hbig : big = 1000000 := rfl
 have h' := h
 simp only [List.length_append] at h'
 unfold Zeu srt
 cases L with
 | nil =>
  rw [wr (by omega) (by omega)]
  obtain ⟨m, hm⟩ : ∃ m, (((P.length : Int) + (([] : List Action).length : Int)) - ((P.length : Int) + 1)).toNat + 1 = m + 1 := ⟨_, rfl⟩
  rw [hm, Z6v, decide_eq_false (by simp only [List.length_nil]; omega), cond_false]
  rfl
 | cons x L =>
  simp only [List.length_cons] at h'
  have := Y1e hc P Q L [x] ((((P.length : Int) + ((x :: L).length : Int)) - ((P.length : Int) + 1)).toNat + 1) (by simp only [List.length_cons]; omega) (by simp only [List.length_append, List.length_reverse, List.length_cons, List.length_nil]; omega)
  have e1 : ((P.length + [x].length + L.length : Nat) : Int) = (P.length : Int) + ((x :: L).length : Int) := by simp; omega
  have e2 : ((P.length + [x].length : Nat) : Int) = (P.length : Int) + 1 := by simp
  have e3 : P ++ [x].reverse ++ L ++ Q = P ++ x :: L ++ Q := by simp
  rw [e1, e2, e3] at this
  rw [wr (by omega) (by omega), this]
  rfl
end ins
end Go.Proofs.YtknpgojdkobgjaaGreat.W
namespace Go.Proofs.YtknpgojdkobgjaaGreat.W
open Go Go.Wb
section stable
variable {lt : Action → Action → Bool} {cmp : Action → Action → Option Int}
def Z49 (lt : Action → Action → Bool) (s : Nat) (L : List Action) : List Action :=
 if h : s = 0 ∨ L.length < s then srt lt L else srt lt (L.take s) ++ Z49 lt s (L.drop s)
termination_by L.length
decreasing_by simp; omega
theorem Zc1 {s : Nat} {L : List Action} (h : L.length < s) : Z49 lt s L = srt lt L := by rw [Z49, dif_pos (.inr h)]
theorem Zd7 {s : Nat} {A L : List Action} (hA : A.length = s) (h0 : 0 < s) : Z49 lt s (A ++ L) = srt lt A ++ Z49 lt s L := by
 subst hA
 rw [Z49, dif_neg (by rw [List.length_append]; omega), List.take_left, List.drop_left]
theorem Ydn : srt lt ([] : List Action) = [] := rfl
theorem Zvg {s : Nat} {L : List Action} (h : L.length ≤ s) (h0 : 0 < s) : Z49 lt s L = srt lt L := by
 rcases Nat.lt_or_eq_of_le h with h1 | h1
 ·exact Zc1 h1
 ·have := Zd7 (lt := lt) (L := []) h1 h0
  have e : Z49 lt s [] = srt lt [] := Zc1 (by simpa using h0)
  rw [List.append_nil, e, Ydn, List.append_nil] at this
  exact this
theorem Zsl (hs : Swo lt) (s : Nat) (h0 : 0 < s) : ∀ (n : Nat) (L : List Action), L.length ≤ n → (Z49 lt s L).length = L.length
 | 0, L, h => by rw [Zc1 (by omega), Z2v hs]
 | n + 1, L, h => by
  by_cases hl : L.length < s
  ·rw [Zc1 hl, Z2v hs]
  ·have e : L = L.take s ++ L.drop s := (List.take_append_drop ..).symm
   have h1 : (L.take s).length = s := by simp; omega
   rw [e, Zd7 h1 h0, List.length_append, Z2v hs, Zsl hs s h0 n (L.drop s) (by simp; omega), List.length_append]
theorem Zsi (hs : Swo lt) (hc : Z5e lt cmp) (n : Nat) : ∀ (k : Nat) (D L : List Action) (f : Nat), L.length ≤ k → D.length + L.length = n → n ≤ 100000 → L.length < f * 20 →
  Za5 (n : Int) cmp f (D ++ L) (D.length : Int) ((D.length + 20 : Nat) : Int) = Z75 (n : Int) cmp (((n : Int) - 20).toNat + 1) (D ++ Z49 lt 20 L) 20
 | k, D, L, 0, _, _, _, h => by omega
 | k, D, L, f + 1, hk, hn, hb, hf => by
  have hbig : big = 1000000 := rfl
  rw [Za5]
  by_cases hl : L.length < 20
  ·have := Zyf hc D L [] (D.length : Int) (n : Int) rfl (by omega) (by simp only [List.length_append, List.length_nil]; omega)
   simp only [List.append_nil] at this
   rw [decide_eq_false (by omega), cond_false, this, Option.bind_some, Zc1 hl]
  ·obtain ⟨k, rfl⟩ : ∃ j, k = j + 1 := ⟨k - 1, by omega⟩
   have e : L = L.take 20 ++ L.drop 20 := (List.take_append_drop ..).symm
   have h1 : (L.take 20).length = 20 := by simp; omega
   have h2 : (L.drop 20).length = L.length - 20 := by simp
   generalize L.take 20 = A at *
   generalize L.drop 20 = B at *
   subst e
   have := Zyf hc D A B (D.length : Int) ((D.length + 20 : Nat) : Int) rfl (by omega) (by simp only [List.length_append] at hn ⊢; omega)
   have e20 : IntKind.i64.wrap (((D.length + 20 : Nat) : Int) + 20) = (((D ++ srt lt A).length + 20 : Nat) : Int) := by rw [wr (by omega) (by omega), List.length_append, Z2v hs]; omega
   have e21 : ((D.length + 20 : Nat) : Int) = ((D ++ srt lt A).length : Int) := by rw [List.length_append, Z2v hs]; omega
   simp only [List.length_append] at hn hl hf hk
   rw [decide_eq_true (by omega), cond_true, ← List.append_assoc, this, Option.bind_some, e20, e21,
    Zsi hs hc n k (D ++ srt lt A) B f (by omega) (by simp only [List.length_append, Z2v hs]; omega) hb (by omega), Zd7 h1 (by omega)]
   simp
theorem Y0v (hs : Swo lt) (hc : Z5e lt cmp) (go : List Action → Int → Option (List Action)) (n s : Nat) (hs0 : 0 < s) (hs1 : s ≤ 100000) : ∀ (k : Nat) (D L : List Action) (f : Nat), L.length ≤ k → D.length + L.length = n → n ≤ 100000 → L.length < f * (2 * s) →
  Zay (n : Int) (s : Int) cmp go f (D ++ Z49 lt s L) (D.length : Int) ((D.length + 2 * s : Nat) : Int) = go (D ++ Z49 lt (2 * s) L) ((2 * s : Nat) : Int)
 | k, D, L, 0, _, _, _, h => by omega
 | k, D, L, f + 1, hk, hn, hb, hf => by
  have hbig : big = 1000000 := rfl
  rw [Zay]
  have em : IntKind.i64.wrap ((D.length : Int) + (s : Int)) = ((D.length + s : Nat) : Int) := by rw [wr (by omega) (by omega)]; omega
  have eg : IntKind.i64.wrap ((s : Int) * 2) = ((2 * s : Nat) : Int) := by rw [wr (by omega) (by omega)]; omega
  by_cases hl : L.length < 2 * s
  ·rw [decide_eq_false (by omega), cond_false, em, eg, Zc1 hl]
   by_cases hl2 : s < L.length
   ·have e : L = L.take s ++ L.drop s := (List.take_append_drop ..).symm
    have h1 : (L.take s).length = s := by simp; omega
    have h2 : (L.drop s).length = L.length - s := by simp
    generalize L.take s = A at *
    generalize L.drop s = B at *
    subst e
    simp only [List.length_append] at hn hl hl2
    rw [Zd7 h1 hs0, Zc1 (by omega)]
    have := Y0b hs hc D (srt lt A) (srt lt B) [] (D.length : Int) ((D.length + s : Nat) : Int) (n : Int) rfl (by rw [Z2v hs]; omega) (by rw [Z2v hs, Z2v hs]; omega) (by rw [Z2v hs]; omega) (by rw [Z2v hs]; omega) (Z82 hs _) (Z82 hs _)
     (by simp only [List.length_append, Z2v hs, List.length_nil]; omega)
    simp only [List.append_nil, List.append_assoc] at this
    rw [decide_eq_true (by omega), cond_true, this, Option.bind_some, Zv6 hs]
   ·rw [decide_eq_false (by omega), cond_false, Zvg (by omega) hs0]
  ·obtain ⟨k, rfl⟩ : ∃ j, k = j + 1 := ⟨k - 1, by omega⟩
   have e : L = L.take s ++ ((L.drop s).take s ++ (L.drop s).drop s) := by rw [List.take_append_drop, List.take_append_drop]
   have h1 : (L.take s).length = s := by simp; omega
   have h2 : ((L.drop s).take s).length = s := by simp; omega
   have h3 : ((L.drop s).drop s).length = L.length - 2 * s := by simp; omega
   generalize L.take s = A at *
   generalize (L.drop s).take s = B at *
   generalize (L.drop s).drop s = E at *
   subst e
   simp only [List.length_append] at hn hl hk hf
   have hf' : E.length < f * (2 * s) := by rw [Nat.add_mul] at hf; omega
   have hE := Zsl hs s hs0 E.length E (Nat.le_refl _)
   have := Y0b hs hc D (srt lt A) (srt lt B) (Z49 lt s E) (D.length : Int) ((D.length + s : Nat) : Int) ((D.length + 2 * s : Nat) : Int) rfl (by rw [Z2v hs]; omega) (by rw [Z2v hs, Z2v hs]; omega) (by rw [Z2v hs]; omega) (by rw [Z2v hs]; omega) (Z82 hs _) (Z82 hs _)
    (by simp only [List.length_append, Z2v hs, hE]; omega)
   have e2 : D ++ Z49 lt s (A ++ (B ++ E)) = D ++ srt lt A ++ srt lt B ++ Z49 lt s E := by rw [Zd7 h1 hs0, Zd7 h2 hs0]; simp
   have e3 : IntKind.i64.wrap (((D.length + 2 * s : Nat) : Int) + IntKind.i64.wrap (2 * (s : Int))) = (((D ++ srt lt (A ++ B)).length + 2 * s : Nat) : Int) := by
    rw [wr (n := 2 * (s : Int)) (by omega) (by omega), wr (by omega) (by omega), List.length_append, Z2v hs, List.length_append]; omega
   have e4 : ((D.length + 2 * s : Nat) : Int) = ((D ++ srt lt (A ++ B)).length : Int) := by rw [List.length_append, Z2v hs, List.length_append]; omega
   rw [decide_eq_true (by omega), cond_true, em, e2, this, Option.bind_some, Zv6 hs, e3, e4,
    Y0v hs hc go n s hs0 hs1 k (D ++ srt lt (A ++ B)) E f (by omega) (by simp only [List.length_append, Z2v hs]; omega) hb hf']
   have e5 : A ++ (B ++ E) = (A ++ B) ++ E := by simp
   rw [e5, Zd7 (by simp; omega) (by omega)]
   simp
theorem Zwm (hs : Swo lt) (hc : Z5e lt cmp) (L : List Action) (hb : L.length ≤ 100000) : ∀ (f s : Nat), 0 < f → 0 < s → s ≤ 200000 → L.length < f + s →
  Z75 (L.length : Int) cmp f (Z49 lt s L) (s : Int) = some (srt lt L)
 | 0, s, hf, h0, h1, h2 => by omega
 | f + 1, s, hf, h0, h1, h2 => by
  rw [Z75]
  by_cases hl : s < L.length
  ·have e2 : IntKind.i64.wrap (2 * (s : Int)) = ((2 * s : Nat) : Int) := by rw [wr (by omega) (by omega)]; omega
   have := Y0v hs hc (Z75 (L.length : Int) cmp f) L.length s h0 (by omega) L.length [] L ((((L.length : Int) : Int) - ((2 * s : Nat) : Int)).toNat + 2) (Nat.le_refl _) (by simp) hb (by
    have h3 : L.length < (L.length - 2 * s + 2) * (2 * s) := by
     have : L.length - 2 * s + 2 ≤ (L.length - 2 * s + 2) * (2 * s) := Nat.le_mul_of_pos_right _ (by omega)
     by_cases hc : L.length < 2 * s
     ·have : 2 * (2 * s) ≤ (L.length - 2 * s + 2) * (2 * s) := Nat.mul_le_mul_right _ (by omega)
      omega
     ·have e : (L.length - 2 * s + 2) * (2 * s) = (L.length - 2 * s + 1) * (2 * s) + 2 * s := by rw [show L.length - 2 * s + 2 = (L.length - 2 * s + 1) + 1 from rfl, Nat.add_mul, Nat.one_mul]
      have : L.length - 2 * s + 1 ≤ (L.length - 2 * s + 1) * (2 * s) := Nat.le_mul_of_pos_right _ (by omega)
      omega
    have e : (((L.length : Int) : Int) - ((2 * s : Nat) : Int)).toNat + 2 = L.length - 2 * s + 2 := by omega
    rw [e]; exact h3)
   simp only [List.nil_append, List.length_nil, Nat.zero_add] at this
   rw [decide_eq_true (by omega), cond_true, e2]
   have e0 : ((0 : Nat) : Int) = 0 := rfl
   rw [e0] at this
   rw [this, Zwm hs hc L hb f (2 * s) (by omega) (by omega) (by omega) (by omega)]
  ·rw [decide_eq_false (by omega), cond_false, Zvg (by omega) h0]
theorem Yf7 (hs : Swo lt) (hc : Z5e lt cmp) (L : List Action) (hb : L.length ≤ 100000) : Zio L cmp = some (srt lt L) := by
 unfold Zio Zly
 have h1 := Zsi hs hc L.length L.length [] L ((((L.length : Int) : Int) - 20).toNat + 2) (Nat.le_refl _) (by simp) hb (by omega)
 have h2 := Zwm hs hc L hb ((((L.length : Int) : Int) - 20).toNat + 1) 20 (by omega) (by omega) (by omega) (by omega)
 simp only [List.nil_append, List.length_nil, Nat.zero_add] at h1
 have e0 : ((0 : Nat) : Int) = 0 := rfl
 have e20 : ((20 : Nat) : Int) = 20 := rfl
 rw [e0, e20] at h1
 rw [e20] at h2
 rw [h1, h2]; rfl
end stable
end Go.Proofs.YtknpgojdkobgjaaGreat.W
namespace Go.Proofs.YtknpgojdkobgjaaGreat.W
open Go Go.Wb
def Z2c (a b : Wide) : Wide := ⟨a.Hi &&& b.Hi, a.Lo &&& b.Lo⟩
def wor (a b : Wide) : Wide := ⟨a.Hi ||| b.Hi, a.Lo ||| b.Lo⟩
def Z6p (a b : Wide) : Wide := ⟨a.Hi ^^^ b.Hi, a.Lo ^^^ b.Lo⟩
def Z3r (a b : Wide) : Wide := ⟨a.Hi &&& ~~~b.Hi, a.Lo &&& ~~~b.Lo⟩
def wt (a : Wide) (i : Nat) : Bool := bif Nat.blt i 64 then a.Lo.getLsbD i else a.Hi.getLsbD (i - 64)
def Z43 (i : Nat) : Wide := bif Nat.blt i 64 then ⟨0, 1#64 <<< i⟩ else ⟨1#64 <<< (i - 64), 0⟩
theorem Z9x {i n : Nat} (h : i < n) : Nat.blt i n = true := by simpa using h
theorem Z9i {i n : Nat} (h : ¬ i < n) : Nat.blt i n = false := by
 cases hb : Nat.blt i n
 ·rfl
 ·exact absurd (by simpa using hb) h
theorem Zl4 {a b : Wide} (h : ∀ i, i < 128 → wt a i = wt b i) : a = b := by
 obtain ⟨ah, al⟩ := a
 obtain ⟨bh, bl⟩ := b
 have h1 : ah = bh := BitVec.eq_of_getLsbD_eq fun i hi => by
  have := h (i + 64) (by omega)
  unfold wt at this
  rw [Z9i (by omega)] at this
  simpa using this
 have h2 : al = bl := BitVec.eq_of_getLsbD_eq fun i hi => by
  have := h i (by omega)
  unfold wt at this
  rw [Z9x (by omega)] at this
  simpa using this
 rw [h1, h2]
theorem Z5b (a b : Wide) (i : Nat) : wt (Z2c a b) i = (wt a i && wt b i) := by
 unfold wt Z2c
 cases Nat.blt i 64 <;> simp
theorem Zes (a b : Wide) (i : Nat) : wt (wor a b) i = (wt a i || wt b i) := by
 unfold wt wor
 cases Nat.blt i 64 <;> simp
theorem Zl9 (a b : Wide) (i : Nat) : wt (Z6p a b) i = (wt a i != wt b i) := by
 unfold wt Z6p
 cases Nat.blt i 64 <;> simp
theorem Zip (a b : Wide) (i : Nat) (h : i < 128) : wt (Z3r a b) i = (wt a i && !wt b i) := by
 unfold wt Z3r
 by_cases hi : i < 64
 ·rw [Z9x hi]; simp [hi]
 ·rw [Z9i hi]; simp [show i - 64 < 64 by omega]
theorem Zj2 (i : Nat) : wt Z0a i = false := by
 unfold wt Z0a
 cases Nat.blt i 64 <;> simp
theorem Zen (i j : Nat) (hi : i < 128) (hj : j < 128) : wt (Z43 i) j = decide (i = j) := by
 unfold wt Z43
 by_cases h1 : i < 64
 ·rw [Z9x h1, cond_true]
  by_cases h2 : j < 64
  ·rw [Z9x h2, cond_true, BitVec.getLsbD_shiftLeft]
   by_cases e : i = j
   ·subst e; simp [h2]
   ·simp [h2, e, BitVec.getLsbD_one]; omega
  ·rw [Z9i h2, cond_false]
   have : i ≠ j := by omega
   simp [this]
 ·rw [Z9i h1, cond_false]
  by_cases h2 : j < 64
  ·rw [Z9x h2, cond_true]
   have : i ≠ j := by omega
   simp [this]
  ·rw [Z9i h2, cond_false, BitVec.getLsbD_shiftLeft]
   by_cases e : i = j
   ·subst e; simp [show i - 64 < 64 by omega]
   ·simp [show j - 64 < 64 by omega, e, BitVec.getLsbD_one]; omega
def Z3c (a : Wide) : Bool := decide ((a.Hi ||| a.Lo) = (0 : BitVec 64))
theorem Zdv (a : Wide) : Z3c a = true ↔ ∀ i, i < 128 → wt a i = false := by
 unfold Z3c
 rw [decide_eq_true_eq]
 constructor
 ·intro h i hi
  have hb : ∀ j, (a.Hi.getLsbD j || a.Lo.getLsbD j) = false := fun j => by rw [← BitVec.getLsbD_or, h]; simp
  unfold wt
  by_cases h1 : i < 64
  ·rw [Z9x h1, cond_true]
   have := hb i
   simp only [Bool.or_eq_false_iff] at this
   exact this.2
  ·rw [Z9i h1, cond_false]
   have := hb (i - 64)
   simp only [Bool.or_eq_false_iff] at this
   exact this.1
 ·intro h
  apply BitVec.eq_of_getLsbD_eq
  intro j hj
  have h1 := h j (by omega)
  have h2 := h (j + 64) (by omega)
  unfold wt at h1 h2
  rw [Z9x hj] at h1
  rw [Z9i (by omega)] at h2
  simp at h1 h2
  simp [h1, h2]
theorem Y75 (a : Wide) : Z3c a = decide (a = Z0a) := by
 rw [Bool.eq_iff_iff, Zdv, decide_eq_true_eq]
 constructor
 ·intro h
  exact Zl4 fun i hi => by rw [h i hi, Zj2]
 ·rintro rfl i _
  exact Zj2 i
theorem Y6c {a : Wide} : Z3c a = false ↔ ∃ i, i < 128 ∧ wt a i = true := by
 rw [← Bool.not_eq_true, Zdv]
 constructor
 ·intro h
  apply Classical.byContradiction
  intro hn
  exact h fun i hi => by
   cases hw : wt a i
   ·rfl
   ·exact absurd ⟨i, hi, hw⟩ hn
 ·rintro ⟨i, hi, hw⟩ h
  rw [h i hi] at hw; cases hw
theorem Zve (a : Wide) (i : Nat) (h : i < 128) : (!Z3c (Z2c a (Z43 i))) = wt a i := by
 cases hw : wt a i
 ·have : Z3c (Z2c a (Z43 i)) = true := by
   rw [Zdv]
   intro j hj
   rw [Z5b, Zen i j h hj]
   by_cases e : i = j
   ·subst e; rw [hw]; rfl
   ·simp [e]
  rw [this]; rfl
 ·have : Z3c (Z2c a (Z43 i)) = false := by
   rw [Y6c]
   exact ⟨i, h, by rw [Z5b, Zen i i h h, hw]; simp⟩
  rw [this]; rfl
theorem Zls (x : BitVec 64) (n : Nat) : Z80 x (n : Int) = some (x <<< n) := by
 unfold Z80
 rw [decide_eq_false (by omega)]
 simp
theorem Yg3 (x : BitVec 64) (n : Nat) : Z38 x (n : Int) = some (x >>> n) := by
 unfold Z38
 rw [decide_eq_false (by omega)]
 simp
theorem Ybo (a b : Wide) : Zam a b = some (Z2c a b) := rfl
theorem Zy5 (a b : Wide) : Z6z a b = some (wor a b) := rfl
theorem Zrl (a b : Wide) : Z9k a b = some (Z3r a b) := rfl
theorem Zpt (i : Nat) (h : i < 128) : Zax (i : Int) = some (Z43 i) := by
 unfold Zax
 have h1 : (decide ((i : Int) < 0) || decide ((i : Int) > 127)) = false := by simp; omega
 have hq : Zf9 .i64 (i : Int) 64 = some ((i / 64 : Nat) : Int) := by
  unfold Zf9
  rw [decide_eq_false (by decide)]
  show some (IntKind.i64.wrap ((i / 64 : Nat) : Int)) = _
  rw [Z30 (by omega) (by omega)]
 have hm : Zb1 (i : Int) 64 = some ((i % 64 : Nat) : Int) := Yeo i 64 (by omega)
 rw [h1, cond_false, hq, Option.bind_some, hm, Option.bind_some, Zls, Option.bind_some, Z29 (by omega), Option.bind_some]
 unfold Z43
 by_cases h2 : i < 64
 ·rw [Z9x h2, cond_true]
  have e1 : i / 64 = 0 := by omega
  have e2 : i % 64 = i := by omega
  simp only [e1, e2]
  rfl
 ·rw [Z9i h2, cond_false]
  have e1 : i / 64 = 1 := by omega
  have e2 : i % 64 = i - 64 := by omega
  simp only [e1, e2]
  rfl
abbrev Cube := Vector Tern 24
abbrev Header := Vector Wide 24
def Z0z (t : Tern) : Tern := ⟨Z2c t.Value t.Mask, t.Mask⟩
theorem Zng (t : Tern) : Z5y t = some (Z0z t) := rfl
def Z1e (c : Cube) : Cube := Vector.ofFn fun i => Z0z (ve c i.1)
theorem Zcp (c : Cube) (i : Nat) (h : i < 24) : ve (Z1e c) i = Z0z (ve c i) := Z90 (fun i => Z0z (ve c i)) i h
theorem Y7w (t : Tern) : Z0z (Z0z t) = Z0z t := by
 unfold Z0z
 congr 1
 exact Zl4 fun i hi => by simp only [Z5b]; cases wt t.Value i <;> cases wt t.Mask i <;> rfl
def Z3k (a b : Tern) : Tern := ⟨wor (Z3r (Z0z a).Value b.Mask) (Z0z b).Value, wor a.Mask b.Mask⟩
theorem Zzz (a b : Tern) : Zjv a b = some (Z3k a b) := rfl
def Zb8 (a b : Cube) : Cube := Vector.ofFn fun i => Z3k (ve a i.1) (ve b i.1)
theorem Zzn (a b : Cube) (i : Nat) (h : i < 24) : ve (Zb8 a b) i = Z3k (ve a i) (ve b i) := Z90 (fun i => Z3k (ve a i) (ve b i)) i h
theorem Zt5 (f : Int → Option Tern) (g : Nat → Tern) (hf : ∀ i : Nat, i < 24 → f (i : Int) = some (g i)) (b : Cube) : ∀ (m i : Nat), i + m = 24 → Z67 f m i (Z2w g b i) = some (Vector.ofFn (fun i => g i.1))
 | 0, i, h => by
  have : i = 24 := by omega
  subst this
  rw [Z67, Z96]
 | m + 1, i, h => by
  rw [Z67, hf i (by omega), Option.bind_some, Z29 (by omega), Option.bind_some]
  show Z67 f m (i + 1) (Vector.set (Z2w g b i) i (g i) _) = _
  rw [Z7u g b i (by omega), Zt5 f g hf b m (i + 1) (by omega)]
theorem Zzc (f : Int → Option Tern) (g : Nat → Tern) (hf : ∀ i : Nat, i < 24 → f (i : Int) = some (g i)) : Zfd f = some (Vector.ofFn (fun i => g i.1)) := by
 unfold Zfd
 have := Zt5 f g hf (Vector.replicate 24 zTern) 24 0 rfl
 rw [Z97] at this
 exact this
theorem Zuo (r : Cube) : Zea r = some (Z1e r) := by
 unfold Zea
 rw [Zzc (fun x => Zdx x r) (fun i => Z0z (ve r i)) (fun i hi => by unfold Zdx; rw [Z29 hi, Option.bind_some, Z2u, Zng]; rfl)]
 rfl
def Zrp (r : Cube) (h : Header) : Header := Vector.ofFn fun f => wor (Z3r (ve h f.1) (ve r f.1).Mask) (Z2c (ve r f.1).Value (ve r f.1).Mask)
def Z81 (r : Cube) (f : Int) (v m : Wide) : Cube := bif decide (f ≥ 0) && decide (f < 24) then Vector.ofFn fun i => if f.toNat = i.1 then Z3k (ve (Z1e r) f.toNat) ⟨v, m⟩ else ve (Z1e r) i.1 else Z1e r
theorem Zh6 (r : Cube) (f : Int) (v m : Wide) : Z7z r f v m = some (Z81 r f v m) := by
 unfold Z7z Z81 Z72
 rw [Zuo, Option.bind_some, Option.bind_some]
 cases hc : (decide (f ≥ 0) && decide (f < 24))
 ·rfl
 ·simp only [Bool.and_eq_true, decide_eq_true_eq] at hc
  obtain ⟨n, rfl⟩ : ∃ n : Nat, f = (n : Int) := ⟨f.toNat, by omega⟩
  have hn : n < 24 := by omega
  have e : Vector.set (Z1e r) n (Z3k (ve (Z1e r) n) ⟨v, m⟩) hn = Vector.ofFn fun i : _root_.Fin 24 => if n = i.1 then Z3k (ve (Z1e r) n) ⟨v, m⟩ else ve (Z1e r) i.1 := Zaw fun j hj => by
   rw [Zh3 _ _ _ _ _ hj]
   exact (Z90 (fun i => if n = i then Z3k (ve (Z1e r) n) ⟨v, m⟩ else ve (Z1e r) i) j hj).symm
  rw [cond_true, cond_true, Z29 hn, Option.bind_some, Z2u, Zzz, Option.bind_some, Option.bind_some, Int.toNat_natCast]
  exact congrArg some e
theorem Zy4 (n : Int) : ∃ x, Zdz n = some x := by
 unfold Zdz
 cases decide (n ≥ 64)
 ·have h0 : 0 ≤ Z1r n 0 := by
   unfold Z1r
   by_cases h : (0 : Int) > n
   ·simp [h]
   ·simp [h]; omega
  obtain ⟨k, hk⟩ : ∃ k : Nat, Z1r n 0 = (k : Int) := ⟨(Z1r n 0).toNat, by omega⟩
  rw [cond_false, hk, Zls]
  exact ⟨_, rfl⟩
 ·exact ⟨_, rfl⟩
def Z9z (n : Int) : Wide := (Z9a n).getD Z0a
theorem Zs6 (n : Int) : Z9a n = some (Z9z n) := by
 obtain ⟨x, hx⟩ := Zy4 (IntKind.i64.wrap ((Z4a (Z1r n 0) 128) - 64))
 obtain ⟨y, hy⟩ := Zy4 (Z4a (Z1r n 0) 128)
 have : Z9a n = some ⟨x, y⟩ := by unfold Z9a; rw [hx, Option.bind_some, hy]; rfl
 unfold Z9z
 rw [this]; rfl
def Zew (n : Int) : Int := (Zbf n).getD 0
theorem Y9w : ∃ v, Zgo = some v := by unfold Zgo; exact ⟨_, rfl⟩
theorem Y4f (n : Int) : Zbf n = some (Zew n) := by
 have : ∃ x, Zbf n = some x := by
  unfold Zbf Zm6 Z72
  rw [Option.bind_some]
  cases hc : (decide (n ≥ 0) && decide (n < 24))
  ·exact ⟨_, rfl⟩
  ·simp only [Bool.and_eq_true, decide_eq_true_eq] at hc
   obtain ⟨k, rfl⟩ : ∃ k : Nat, n = (k : Int) := ⟨n.toNat, by omega⟩
   obtain ⟨v, hv⟩ := Y9w
   rw [Bool.not_true, cond_false, hv, Option.bind_some, Z21 (by simp; omega), Option.bind_some, Option.bind_some]
   exact ⟨_, rfl⟩
 obtain ⟨x, hx⟩ := this
 unfold Zew
 rw [hx]; rfl
def oxT (o : Oxm) : Tern := bif decide (o.Field ≥ 0) && decide (o.Field < 24) then (bif o.Masked then ⟨o.Value, o.Mask⟩ else ⟨o.Value, Z9z (Zew o.Field)⟩) else ⟨Z0a, Z0a⟩
theorem Zus (o : Oxm) : Zdw o = some (oxT o) := by
 unfold Zdw oxT Z72
 rw [Option.bind_some]
 cases decide (o.Field ≥ 0) && decide (o.Field < 24)
 ·rfl
 ·rw [Bool.not_true, cond_false, cond_true]
  cases o.Masked
  ·rw [cond_false, cond_false, Y4f, Option.bind_some, Zs6]; rfl
  ·rfl
def Z2f : Cube := Vector.replicate 24 zTern
def Zeb (a : Action) : Cube :=
 bif decide (a.Kind = 25) then Z81 Z2f a.Oxm.Field (oxT a.Oxm).Value (oxT a.Oxm).Mask
 else bif decide (a.Kind = 17) then Z81 Z2f 5 (Z43 12) (Z43 12)
 else bif decide (a.Kind = 18) then Z81 (Z81 Z2f 5 ⟨0, 0⟩ (Z9z 13)) 6 ⟨0, 0⟩ (Z9z 3)
 else Z2f
theorem Y84 (a : Action) : Zek a = some (Zeb a) := by
 unfold Zek Zeb
 rw [show Zdf = some Z2f from rfl, Option.bind_some]
 cases decide (a.Kind = 25)
 ·rw [cond_false, cond_false]
  cases decide (a.Kind = 17)
  ·rw [cond_false, cond_false]
   cases decide (a.Kind = 18)
   ·rfl
   ·rw [cond_true, cond_true, Zs6, Option.bind_some, Zh6, Option.bind_some, Zs6, Option.bind_some, Zh6]; rfl
  ·rw [cond_true, cond_true, show (12 : Int) = ((12 : Nat) : Int) from rfl, Zpt 12 (by decide), Option.bind_some, Option.bind_some, Zh6]; rfl
 ·rw [cond_true, cond_true, Zus, Option.bind_some, Zh6]; rfl
def Zqi (a : Action) : Int := bif decide (a.Port = 4294967293) then a.Max else 0
theorem Zxa {α : Type} (p : α → Bool) : ∀ l : List α, 0 ≤ Z0b p l → (l.take ((Z0b p l).toNat + 1)).filter (fun x => !p x) = l.take (Z0b p l).toNat
 | [], h => by simp [Z0b] at h
 | x :: l, h => by
  unfold Z0b at h ⊢
  cases hp : p x
  ·rw [hp] at h
   by_cases h' : Z0b p l < 0
   ·simp [h'] at h
   ·simp only [cond_false, decide_eq_false h']
    have e : (Z0b p l + 1).toNat = (Z0b p l).toNat + 1 := by omega
    rw [e, List.take_succ_cons, List.take_succ_cons, List.filter_cons_of_pos (by simp [hp]), Zxa p l (by omega)]
  ·simp [hp]
theorem Ybi {α : Type} (p : α → Bool) (l : List α) (h : Z0b p l < 0) : l.filter (fun x => !p x) = l := by
 rw [List.filter_eq_self]
 intro x hx
 rw [Ztu p l h x hx]; rfl
theorem Zo0 {α : Type} (p : α → Bool) : ∀ l : List α, (Z0b p l < 0 ∧ l.find? p = none) ∨ ∃ n : Nat, Z0b p l = (n : Int) ∧ ∃ h : n < l.length, l.find? p = some l[n] ∧ p l[n] = true
 | [] => .inl ⟨by simp [Z0b], rfl⟩
 | x :: l => by
  unfold Z0b
  cases hp : p x
  ·rw [cond_false, List.find?_cons_of_neg (by simp [hp])]
   rcases Zo0 p l with ⟨h1, h2⟩ | ⟨n, h1, h2, h3, h4⟩
   ·left; rw [decide_eq_true h1]; exact ⟨by show (-1 : Int) < 0; decide, h2⟩
   ·right
    rw [decide_eq_false (by omega)]
    exact ⟨n + 1, by show Z0b p l + 1 = _; omega, by simp; omega, by simpa using h3, by simpa using h4⟩
  ·right
   exact ⟨0, rfl, by simp, by rw [List.find?_cons_of_pos hp]; rfl, hp⟩
theorem Zqd (s : List Action) (f : Action → Option Bool) (p : Action → Bool) (hf : ∀ x ∈ s, f x = some (p x)) : Zce s f = some (Z0b p s) := by
 unfold Zce
 rw [show ((s.length : Int)).toNat = s.length by omega]
 exact Zcg p (fun i => by rw [Z8d]) (fun m i => by rw [Z8d]) hf
theorem Zwi (s : List Group) (f : Group → Option Bool) (p : Group → Bool) (hf : ∀ x ∈ s, f x = some (p x)) : Zfo s f = some (Z0b p s) := by
 unfold Zfo
 rw [show ((s.length : Int)).toNat = s.length by omega]
 exact Zcg p (fun i => by rw [Z9u]) (fun m i => by rw [Z9u]) hf
theorem Yhc (s : List Bucket) (f : Bucket → Option Bool) (p : Bucket → Bool) (hf : ∀ x ∈ s, f x = some (p x)) : Zej s f = some (Z0b p s) := by
 unfold Zej
 rw [show ((s.length : Int)).toNat = s.length by omega]
 exact Zcg p (fun i => by rw [Z9m]) (fun m i => by rw [Z9m]) hf
theorem Ybk (s : List Int) (v : Int) : Ze3 s v = some (Z0b (fun x => decide (v = x)) s) := by
 unfold Ze3
 rw [show ((s.length : Int)).toNat = s.length by omega]
 exact Zcg (f := fun x => some (decide (v = x))) (fun x => decide (v = x)) (fun i => by rw [Z8l]) (fun m i => by rw [Z8l]; rfl) (fun _ _ => rfl)
theorem Ygq (s : List Action) (f : Action → Option Bool) (p : Action → Bool) (hf : ∀ x ∈ s, f x = some (p x)) (hl : s.length ≤ lim) : Zk6 s f = some (s.filter (fun x => !p x)) := by
 have hlim : lim = 4294967296 := rfl
 unfold Zk6
 rw [Zqd s f p hf, Option.bind_some]
 by_cases h : Z0b p s < 0
 ·have := Zd9 p s
  rw [decide_eq_true (by omega), cond_true, Ybi p s h]
 ·have hlt := Zjf p s
  rw [decide_eq_false (by omega), cond_false, Z30 (by omega) (by omega)]
  have key := Y3f (z := Zlp) (G := Z86 f) (s := s) (f := f) p (fun m l i j => by rw [Z86]) hf hl (((s.length : Int) - (Z0b p s + 1)).toNat + 1) s (Z0b p s).toNat ((Z0b p s).toNat + 1) (by omega) (by omega) (by omega) rfl rfl (Zxa p s (by omega)).symm
  rw [show ((Z0b p s).toNat : Int) = Z0b p s by omega, show (((Z0b p s).toNat + 1 : Nat) : Int) = Z0b p s + 1 by omega] at key
  exact key
theorem Y8o (s : List Action) (f : Action → Option Bool) (p : Action → Bool) (hf : ∀ x ∈ s, f x = some (p x)) : Zhx s f = some (s.any p) := by
 unfold Zhx; rw [Zqd s f p hf, Option.bind_some, Zdq]
def Z0c (a : Action) : aset_spot := bif decide (a.Kind = 25) then ⟨a.Kind, a.Oxm.Field⟩ else ⟨a.Kind, 0⟩
theorem Zky (a : Action) : Zai a = some (Z0c a) := by
 unfold Zai Z0c
 cases decide (a.Kind = 25) <;> rfl
theorem Zfg (a : Action) : (Z0c a).kind = a.Kind := by
 unfold Z0c
 cases decide (a.Kind = 25) <;> rfl
theorem Ycv (b c : Action) : Zc3 b c = some (decide (Z0c c = Z0c b)) := by
 unfold Zc3
 rw [Zky, Option.bind_some, Zky]; rfl
def wr1 (l : List Action) (x : Action) : List Action := bif decide (Z0b (fun b => decide (Z0c x = Z0c b)) l < 0) then l ++ [x] else l.set (Z0b (fun b => decide (Z0c x = Z0c b)) l).toNat x
theorem Zrb (l : List Action) (x : Action) : (wr1 l x).length ≤ l.length + 1 := by
 unfold wr1
 cases decide (Z0b (fun b => decide (Z0c x = Z0c b)) l < 0) <;> simp
theorem Zqq : ∀ (l : List Action) (i : Nat) (acc : List Action), acc.length + l.length ≤ lim → Z6q l i acc = some (l.foldl wr1 acc)
 | [], i, acc, _ => by rw [Z6q]; rfl
 | x :: l, i, acc, h => by
  simp only [List.length_cons] at h
  have hw := Zrb acc x
  rw [Z6q, Zqd acc (fun y => Zc3 y x) (fun b => decide (Z0c x = Z0c b)) (fun y _ => Ycv y x), Option.bind_some, List.foldl_cons]
  have hi := Zjf (fun b => decide (Z0c x = Z0c b)) acc
  by_cases hc : Z0b (fun b => decide (Z0c x = Z0c b)) acc < 0
  ·rw [decide_eq_true hc, cond_true, Z1m (by simp; omega), Option.bind_some, Zqq l (i + 1) _ (by simp; omega)]
   unfold wr1
   rw [decide_eq_true hc, cond_true]
  ·obtain ⟨n, hn⟩ : ∃ n : Nat, Z0b (fun b => decide (Z0c x = Z0c b)) acc = (n : Int) := ⟨(Z0b (fun b => decide (Z0c x = Z0c b)) acc).toNat, by omega⟩
   rw [decide_eq_false hc, cond_false, hn, Z21 (by omega), Option.bind_some, Zqq l (i + 1) _ (by simp; omega)]
   unfold wr1
   rw [decide_eq_false hc, cond_false, hn]
theorem Yhd (s l : List Action) (h : s.length + l.length ≤ lim) : Zg0 s l = some (l.foldl wr1 s) := by
 unfold Zg0 Z6l
 rw [Z1m (by simp; omega), Option.bind_some, List.nil_append, Zqq l 0 s h]
theorem Y0w : ∀ (l s : List Action), (l.foldl wr1 s).length ≤ s.length + l.length
 | [], s => by simp
 | x :: l, s => by
  have h1 := Y0w l (wr1 s x)
  have h2 := Zrb s x
  rw [List.foldl_cons, List.length_cons]; omega
def Z3h (k : Int) : Int := Z0b (fun x => decide (k = x)) [18, 17, 25, 22, 0]
theorem Zo9 (k : Int) : Zbo k = some (Z3h k) := by
 unfold Zbo Z3h
 rw [Ybk]; rfl
def Z5o (goes : Bool) (a : Action) : Bool := !(decide (Z3h a.Kind < 0) || (goes && decide (a.Kind = 0)))
def Zaz (a b : Action) : Int :=
 bif decide (IntKind.i64.wrap (Z3h (Z0c a).kind - Z3h (Z0c b).kind) ≠ 0) then IntKind.i64.wrap (Z3h (Z0c a).kind - Z3h (Z0c b).kind)
 else bif decide ((Z0c a).field < (Z0c b).field) then -1 else bif decide ((Z0c a).field > (Z0c b).field) then 1 else 0
theorem Y6z (a b : Action) : Zfn a b = some (Zaz a b) := by
 unfold Zfn Zaz
 rw [Zky, Option.bind_some, Zky, Option.bind_some, Zo9, Option.bind_some, Zo9, Option.bind_some]
 cases decide (IntKind.i64.wrap (Z3h (Z0c a).kind - Z3h (Z0c b).kind) ≠ 0)
 ·rw [cond_false, cond_false]
  cases decide ((Z0c a).field < (Z0c b).field)
  ·rw [cond_false, cond_false]
   cases decide ((Z0c a).field > (Z0c b).field) <;> rfl
  ·rfl
 ·rfl
theorem Zju {α : Type} (lt : α → α → Bool) (x : α) : ∀ R : List α, (Z0o lt x R).Perm (x :: R)
 | [] => List.Perm.refl _
 | y :: R => by
  rw [Z0o]
  cases lt x y
  ·exact List.Perm.refl _
  ·exact ((Zju lt x R).cons y).trans (List.Perm.swap x y R)
theorem Y0i {α : Type} (lt : α → α → Bool) : ∀ (l R : List α), (l.foldl (fun R x => Z0o lt x R) R).Perm (l ++ R)
 | [], R => List.Perm.refl _
 | x :: l, R => by
  rw [List.foldl_cons]
  refine (Y0i lt l _).trans ?_
  refine ((Zju lt x R).append_left l).trans ?_
  exact List.perm_middle
theorem Y8b {α : Type} (lt : α → α → Bool) (l : List α) : (srt lt l).Perm l := by
 unfold srt
 refine (List.reverse_perm _).trans ?_
 have := Y0i lt l []
 rwa [List.append_nil] at this
theorem Zyd {α : Type} (lt : α → α → Bool) (x : α) (R : List α) : (Z0o lt x R).length = R.length + 1 := by
 have := (Zju lt x R).length_eq
 simpa using this
def ltA (a b : Action) : Bool := decide (Zaz a b < 0)
def Z98 (s : List Action) : List Action := srt ltA (s.filter (Z5o (s.any fun a => decide (a.Kind = 22))))
def Zr6 (bs : List Bucket) : Prop := bs.length ≤ 3 ∧ ∀ x ∈ bs, x.Acts.length ≤ 12
def Z7w (l : List Group) : Prop := l.length ≤ 9 ∧ ∀ g ∈ l, Zr6 g.Buckets
theorem Zw6 (bs : List Bucket) (h : ∀ x ∈ bs, x.Acts.length ≤ 12) : ∀ (m i : Nat), i + m = bs.length → Z7i m i bs = some bs
 | 0, i, _ => by rw [Z7i]
 | m + 1, i, hi => by
  have hlim : lim = 4294967296 := rfl
  have hlt : i < bs.length := by omega
  have ha := h bs[i] (List.getElem_mem hlt)
  have e : List.set bs ((i : Int)).toNat { bs[i] with Acts := bs[i].Acts } = bs := by
   rw [Int.toNat_natCast]; exact List.set_getElem_self hlt
  rw [Z7i, Z21 hlt, Option.bind_some]
  unfold Z6l
  rw [Z1m (by simp; omega), Option.bind_some, Option.bind_some, List.nil_append, e]
  exact Zw6 bs h m (i + 1) (by omega)
theorem Ybv (bs : List Bucket) (h : Zr6 bs) : Zjx bs = some bs := by
 have hlim : lim = 4294967296 := rfl
 have := h.1
 unfold Zjx Zlv
 rw [Z1m (by simp; omega), Option.bind_some, List.nil_append, show ((bs.length : Int)).toNat = bs.length by omega]
 exact Zw6 bs h.2 bs.length 0 (by omega)
theorem Yan (g : Group) (h : Zr6 g.Buckets) : Zk7 [g] = some [g] := by
 unfold Zk7 Zlr
 rw [Z1m (by simp [lim]), Option.bind_some]
 show Z8j 1 0 [g] = _
 rw [Z8j]
 show ((some g).bind fun e8 => _) = _
 rw [Option.bind_some, Ybv _ h, Option.bind_some]
 rfl
def Zkr (l : List Group) (id : Int) : Option Group := l.find? fun g => decide (g.ID = id)
theorem Y3c (l : List Group) (id : Int) (hl : Z7w l) : Zfv l id = some (match Zkr l id with | none => ((⟨0, 0, []⟩ : Group), false) | some g => (g, true)) := by
 have h9 := hl.1
 unfold Zfv Zkg Zkr
 rw [Zwi l (fun x => Zgz x id) (fun g => decide (g.ID = id)) (fun _ _ => rfl), Option.bind_some, Option.bind_some]
 rcases Zo0 (fun g : Group => decide (g.ID = id)) l with ⟨h1, h2⟩ | ⟨n, h1, h2, h3, h4⟩
 ·rw [decide_eq_true h1, cond_true, h2]
 ·have hs : Zff l (n : Int) (IntKind.i64.wrap ((n : Int) + 1)) = some [l[n]] := by
   rw [Z30 (by omega) (by omega)]
   unfold Zff
   rw [decide_eq_true (by omega), decide_eq_true (by omega), Nat.ble_eq_true_of_le (by omega)]
   show some _ = some _
   have e2 : ((n : Int) + 1).toNat = n + 1 := by omega
   have e3 : (l.take n).length = n := by simp; omega
   rw [e2, Int.toNat_natCast, List.take_succ_eq_append_getElem h2, List.drop_append, e3, List.drop_of_length_le (by omega), Nat.sub_self]
   rfl
  rw [decide_eq_false (by omega), cond_false, h1, hs, Option.bind_some, Yan _ (hl.2 _ (List.getElem_mem h2)), Option.bind_some, h3]
  rfl
def Zqy (l : List Action) : Nat := l.countP fun a => decide (a.Kind = 0) || decide (a.Kind = 22)
end Go.Proofs.YtknpgojdkobgjaaGreat.W
namespace Go.Proofs.YtknpgojdkobgjaaGreat.W
open Go Go.Wb
theorem Y98 (a b : Cube) : Zhj a b = some (Zb8 a b) := by
 unfold Zhj
 rw [Zzc (fun x => Zep x a b) (fun i => Z3k (ve a i) (ve b i)) (fun i hi => by unfold Zep; rw [Z29 hi, Option.bind_some, Option.bind_some, Z2u, Z2u, Zzz]; rfl)]
 rfl
def Zlu (r : Cube) (a : Action) : Atom := bif decide (a.Kind = 0) then ⟨r, false, a.Port, Zqi a⟩ else ⟨r, true, a.Group, 0⟩
def Zbj (a : Action) : Bool := decide (a.Kind = 0) || decide (a.Kind = 22)
def doT : List Action → Cube → List Atom × Cube
 | [], r => ([], r)
 | a :: l, r => bif Zbj a then (Zlu r a :: (doT l r).1, (doT l r).2) else doT l (Zb8 r (Zeb a))
theorem Y68 (r : Cube) (o : List Atom) (a : Action) (h : o.length + 1 ≤ lim) : Zbw ⟨r, o⟩ a = some (bif Zbj a then ⟨r, o ++ [Zlu r a]⟩ else ⟨Zb8 r (Zeb a), o⟩) := by
 have hj : ∀ x : Atom, Zbu ⟨r, o⟩ x = some ⟨r, o ++ [x]⟩ := fun x => by
  unfold Zbu
  rw [Z1m (by simpa using h), Option.bind_some]
 unfold Zbw Zbj Zlu Zqi
 cases decide (a.Kind = 0)
 ·rw [cond_false]
  cases decide (a.Kind = 22)
  ·rw [cond_false, Y84, Option.bind_some, Y98]; rfl
  ·rw [cond_true, hj]; rfl
 ·rw [cond_true]
  cases decide (a.Port = 4294967293)
  ·rw [cond_false, hj]; rfl
  ·rw [cond_true, hj]; rfl
theorem Zoi : ∀ (l : List Action) (i : Nat) (r : Cube) (o : List Atom), o.length + l.length ≤ lim → Z7p Z4x (fun s x => Zbw s x) l i ⟨r, o⟩ = some ⟨(doT l r).2, o ++ (doT l r).1⟩
 | [], i, r, o, _ => by rw [Z7p]; simp [doT]
 | a :: l, i, r, o, h => by
  simp only [List.length_cons] at h
  rw [Z7p, Y68 r o a (by omega), Option.bind_some, doT]
  cases Zbj a
  ·rw [cond_false, cond_false, Zoi l (i + 1) _ o (by omega)]
  ·rw [cond_true, cond_true, Zoi l (i + 1) _ _ (by simp; omega)]
   simp
theorem Y8f (acts : List Action) (r : Cube) (h : acts.length ≤ lim) : Zjp acts r = some (doT acts (Z1e r)) := by
 unfold Zjp Zkq
 rw [Zuo, Option.bind_some, Zoi acts 0 _ [] (by simpa using h), Option.bind_some]
 rfl
theorem Zg4 : ∀ (l : List Action) (r : Cube), (doT l r).1.length = Zqy l
 | [], r => rfl
 | a :: l, r => by
  have ih := Zg4 l
  unfold Zqy at ih ⊢
  rw [doT, List.countP_cons]
  show _ = _ + if Zbj a = true then 1 else 0
  cases Zbj a
  ·simp [ih]
  ·simp [ih]
end Go.Proofs.YtknpgojdkobgjaaGreat.W
namespace Go.Proofs.YtknpgojdkobgjaaGreat.W
open Go Go.Wb
end Go.Proofs.YtknpgojdkobgjaaGreat.W
namespace Go.Proofs.YtknpgojdkobgjaaGreat.W
open Go Go.Wb
theorem Y4m (s : List Bucket) (f : Bucket → Option Bool) (p : Bucket → Bool) (hf : ∀ x ∈ s, f x = some (p x)) : Zji s f = some (s.any p) := by
 unfold Zji; rw [Yhc s f p hf, Option.bind_some, Zdq]
theorem Ydv (s : List Group) (f : Group → Option Bool) (p : Group → Bool) (hf : ∀ x ∈ s, f x = some (p x)) : Zhp s f = some (s.any p) := by
 unfold Zhp; rw [Zwi s f p hf, Option.bind_some, Zdq]
def Zfx (bs : List Bucket) (many : Int) : Bool := decide ((bs.length : Int) ≤ many) && !(bs.any fun x => !decide ((x.Acts.length : Int) ≤ 12))
theorem Yh0 (bs : List Bucket) (many : Int) : Zgh bs many = some (Zfx bs many) := by
 unfold Zgh Zfx
 rw [Y4m bs Zkj (fun x => !decide ((x.Acts.length : Int) ≤ 12)) (fun x _ => rfl)]
 cases decide ((bs.length : Int) ≤ many) <;> rfl
def Zee (l : List Group) (many bm : Int) : Bool := decide ((l.length : Int) ≤ many) && !(l.any fun g => !Zfx g.Buckets bm)
theorem Ybg (l : List Group) (many bm : Int) : Zhz l many bm = some (Zee l many bm) := by
 unfold Zhz Zee
 rw [Ydv l (fun x => Zdg x bm) (fun g => !Zfx g.Buckets bm) (fun g _ => by unfold Zdg; rw [Yh0]; rfl)]
 cases decide ((l.length : Int) ≤ many) <;> rfl
theorem Y2n {l : List Group} (h : Zee l 9 3 = true) : Z7w l := by
 unfold Zee at h
 simp only [Bool.and_eq_true, decide_eq_true_eq, Bool.not_eq_true', List.any_eq_false] at h
 refine ⟨by omega, fun g hg => ?_⟩
 have h1 : Zfx g.Buckets 3 = true := by simpa using h.2 g hg
 unfold Zfx at h1
 simp only [Bool.and_eq_true, decide_eq_true_eq, Bool.not_eq_true', List.any_eq_false] at h1
 refine ⟨by omega, fun x hx => ?_⟩
 have h2 : decide ((x.Acts.length : Int) ≤ 12) = true := by simpa using h1.2 x hx
 rw [decide_eq_true_eq] at h2
 omega
end Go.Proofs.YtknpgojdkobgjaaGreat.W
namespace Go.Proofs.YtknpgojdkobgjaaGreat.W
open Go Go.Wb
theorem Zo8 (a b : Wide) : Zd8 a b = some (Z2c a b) := rfl
theorem Ydw (a b : Wide) : Za9 a b = some (wor a b) := rfl
theorem Zto (a b : Wide) : Zke a b = some (Z3r a b) := rfl
theorem Zzi (t : Tern) : Z7v t = some (Z0z t) := rfl
theorem inc (n : Nat) (h : n < 9223372036854775807) : IntKind.i64.wrap ((n : Int) + 1) = ((n + 1 : Nat) : Int) := by rw [Z30 (by omega) (by omega)]; omega
theorem Zwc (c : Cube) : ∀ (m i : Nat), i ≤ 24 → 24 < i + m → Z8p m (Z2w (fun i => Z0z (ve c i)) c i) (i : Int) = some (Z1e c)
 | 0, i, h1, h2 => by omega
 | m + 1, i, h1, h2 => by
  rw [Z8p]
  by_cases h : i < 24
  ·rw [decide_eq_true (by omega), cond_true, Z29 h, Option.bind_some, Zzi, Option.bind_some, Option.bind_some, Z2u, Zci _ _ _ _ h, if_neg (by omega), inc i (by omega)]
   show Z8p m (Vector.set (Z2w (fun i => Z0z (ve c i)) c i) i (Z0z (ve c i)) _) _ = _
   rw [Z7u (fun i => Z0z (ve c i)) c i h, Zwc c m (i + 1) (by omega) (by omega)]
  ·have : i = 24 := by omega
   subst this
   rw [decide_eq_false (by omega), cond_false, Z96]; rfl
theorem Zpr (c : Cube) : Zby c = some (Z1e c) := by
 unfold Zby
 have := Zwc c (((24 : Int) - 0).toNat + 1) 0 (by omega) (by decide)
 rw [Z97] at this
 exact this
theorem Zww (a b : Cube) : ∀ (m i : Nat), i ≤ 24 → 24 < i + m → Z94 (Z1e b) m (Z2w (fun i => Z3k (ve a i) (ve b i)) (Z1e a) i) (i : Int) = some (Zb8 a b)
 | 0, i, h1, h2 => by omega
 | m + 1, i, h1, h2 => by
  rw [Z94]
  by_cases h : i < 24
  ·simp only [decide_eq_true (show ((i : Int) < 24) by omega), cond_true, Z29 h, Option.bind_some, Z2u, Zto, Ydw, inc i (by omega)]
   rw [Zci _ _ _ _ h, if_neg (by omega), Zcp _ _ h, Zcp _ _ h]
   have := Z7u (fun i => Z3k (ve a i) (ve b i)) (Z1e a) i h
   show Z94 (Z1e b) m (Vector.set (Z2w (fun i => Z3k (ve a i) (ve b i)) (Z1e a) i) i (Z3k (ve a i) (ve b i)) _) _ = _
   rw [this]
   exact Zww a b m (i + 1) (by omega) (by omega)
  ·have : i = 24 := by omega
   subst this
   rw [decide_eq_false (by omega), cond_false, Z96]; rfl
theorem Zob (a b : Cube) : Zft a b = some (Zb8 a b) := by
 unfold Zft
 rw [Zpr, Option.bind_some, Zpr, Option.bind_some]
 have := Zww a b (((24 : Int) - 0).toNat + 1) 0 (by omega) (by decide)
 rw [Z97] at this
 exact this
theorem Zuq (a : Tern) : Z3k a zTern = Z0z a := by
 unfold Z3k Z0z
 have h1 : wor (Z3r (Z2c a.Value a.Mask) zTern.Mask) (Z2c zTern.Value zTern.Mask) = Z2c a.Value a.Mask := Zl4 fun i hi => by
  have z : wt zTern.Mask i = false := Zj2 i
  have z2 : wt zTern.Value i = false := Zj2 i
  simp only [Zes, Zip _ _ _ hi, Z5b, z, z2]
  cases wt a.Value i <;> cases wt a.Mask i <;> rfl
 have h2 : wor a.Mask zTern.Mask = a.Mask := Zl4 fun i hi => by
  have z : wt zTern.Mask i = false := Zj2 i
  rw [Zes, z, Bool.or_false]
 show (⟨wor (Z3r (Z2c a.Value a.Mask) zTern.Mask) (Z2c zTern.Value zTern.Mask), wor a.Mask zTern.Mask⟩ : Tern) = _
 rw [h1, h2]
theorem Y4x (a b : Tern) : Z3k (Z0z a) b = Z3k a b := by
 unfold Z3k
 rw [Y7w]; rfl
theorem Zkb (r : Cube) (f : Int) (v m : Wide) : Z8n r f v m = some (Z81 r f v m) := by
 unfold Z8n Z81 Za0
 rw [Option.bind_some]
 have hz : ∀ i, i < 24 → ve Z2f i = zTern := fun i hi => Y72 _ _ hi
 cases hc : (decide (f ≥ 0) && decide (f < 24))
 ·rw [cond_false, cond_false]
  unfold Zem
  rw [Zob, Option.bind_some]
  have e : Zb8 r (Vector.replicate 24 zTern) = Z1e r := Zaw fun i hi => by
   rw [Zzn _ _ _ hi, Zcp _ _ hi, show ve (Vector.replicate 24 zTern) i = zTern from hz i hi, Zuq]
  rw [e]
 ·simp only [Bool.and_eq_true, decide_eq_true_eq] at hc
  obtain ⟨n, rfl⟩ : ∃ n : Nat, f = (n : Int) := ⟨f.toNat, by omega⟩
  have hn : n < 24 := by omega
  rw [cond_true, cond_true, Z29 hn, Option.bind_some, Int.toNat_natCast]
  unfold Zem
  rw [Zob, Option.bind_some]
  have e : Zb8 r (Vector.set (Vector.replicate 24 zTern) n (⟨v, m⟩ : Tern) hn) = Vector.ofFn fun i : _root_.Fin 24 => if n = i.1 then Z3k (ve (Z1e r) n) ⟨v, m⟩ else ve (Z1e r) i.1 := Zaw fun i hi => by
   rw [Zzn _ _ _ hi, Zh3 _ _ _ _ _ hi]
   refine Eq.trans ?_ (Z90 (fun i => if n = i then Z3k (ve (Z1e r) n) ⟨v, m⟩ else ve (Z1e r) i) i hi).symm
   by_cases h : n = i
   ·subst h
    simp only [if_true]
    rw [Zcp _ _ hi, Y4x]
   ·simp only [if_neg h]
    rw [Zcp _ _ hi, show ve (Vector.replicate 24 zTern) i = zTern from hz i hi, Zuq]
  exact congrArg some e
theorem Yca : ∀ f : _root_.Fin 24, Zna (f.1 : Int) = some (Zew (f.1 : Int)) ∧ Zba (Zew (f.1 : Int)) = some (Z9z (Zew (f.1 : Int))) := by decide +kernel
theorem Yby : Zba 13 = some (Z9z 13) := by decide +kernel
theorem Y8g : Zba 3 = some (Z9z 3) := by decide +kernel
theorem Ydf : Z8c 12 = some (Z43 12) := by decide +kernel
theorem Zwf (o : Oxm) : Zg6 o = some (oxT o) := by
 unfold Zg6 oxT Za0
 rw [Option.bind_some]
 cases hc : decide (o.Field ≥ 0) && decide (o.Field < 24)
 ·rfl
 ·simp only [Bool.and_eq_true, decide_eq_true_eq] at hc
  obtain ⟨h1, h2⟩ := Yca ⟨o.Field.toNat, by omega⟩
  have e : ((o.Field.toNat : Nat) : Int) = o.Field := by omega
  simp only [e] at h1 h2
  rw [Bool.not_true, cond_false, cond_true]
  cases o.Masked
  ·rw [cond_false, cond_false, h1, Option.bind_some, h2]; rfl
  ·rfl
theorem Y90 (a : Action) : Zhm a = some (Zeb a) := by
 have h84 : Z89 = some Z2f := rfl
 unfold Zhm Zeb
 cases decide (a.Kind = 25)
 ·rw [cond_false, cond_false]
  cases decide (a.Kind = 17)
  ·rw [cond_false, cond_false]
   cases decide (a.Kind = 18)
   ·rfl
   ·rw [cond_true, cond_true, h84, Option.bind_some, Yby, Option.bind_some, Zkb, Option.bind_some, Y8g, Option.bind_some, Zkb]; rfl
  ·rw [cond_true, cond_true, h84, Option.bind_some, Ydf, Option.bind_some, Option.bind_some, Zkb]; rfl
 ·rw [cond_true, cond_true, Zwf, Option.bind_some, h84, Option.bind_some, Zkb]; rfl
theorem Ycs (a b : Action) : Zjo a b = some (decide (Z0c b = Z0c a)) := by
 unfold Zjo
 congr 1
 rw [Bool.eq_iff_iff]
 unfold Z0c
 by_cases ha : a.Kind = 25
 ·by_cases hb : b.Kind = 25
  ·simp [ha, hb, eq_comm]
  ·have : a.Kind ≠ b.Kind := fun e => hb (e ▸ ha)
   simp [ha, hb, this, eq_comm]
 ·by_cases hb : b.Kind = 25
  ·have : a.Kind ≠ b.Kind := fun e => ha (e.trans hb)
   simp [ha, hb, this, eq_comm]
  ·simp [ha, hb, eq_comm]
theorem Ztn {α : Type} (p : α → Bool) : ∀ (l : List α) (j : Nat) (h : j < l.length), Z0b p (l.take (j + 1)) = bif decide (Z0b p (l.take j) < 0) then (bif p l[j] then (j : Int) else -1) else Z0b p (l.take j)
 | [], j, h => by simp at h
 | x :: l, 0, h => by
  simp only [List.take_zero, List.take_succ_cons, Z0b, List.getElem_cons_zero]
  cases p x <;> rfl
 | x :: l, j + 1, h => by
  have hj : j < l.length := by simpa using h
  have ih := Ztn p l j hj
  have hq := Zd9 p (l.take j)
  rw [List.take_succ_cons, List.take_succ_cons, Z0b, Z0b, ih, List.getElem_cons_succ]
  generalize Z0b p (l.take j) = q at *
  generalize p l[j] = r at *
  cases p x
  ·simp only [cond_false]
   by_cases hn : q < 0
   ·simp only [decide_eq_true hn, cond_true]
    cases r
    ·rfl
    ·simp only [cond_true]
     rw [decide_eq_false (show ¬ ((j : Int) < 0) by omega), cond_false]
     have : decide ((-1 : Int) < 0) = true := rfl
     rw [this, cond_true]
     omega
   ·simp only [decide_eq_false hn, cond_false]
    rw [decide_eq_false (show ¬ (q + 1 < 0) by omega), cond_false]
  ·rfl
theorem Ztt (l l2 : List Action) (i : Nat) (hi : i < l2.length) (hl : l.length ≤ 100) (hl2 : l2.length ≤ 100) (go : List Action → Int → Option (List Action)) : ∀ (m j : Nat), j ≤ l.length → l.length < j + m →
  Z87 l l2 (i : Int) go m (Z0b (fun b => decide (Z0c l2[i] = Z0c b)) (l.take j)) (j : Int) = go (wr1 l l2[i]) ((i + 1 : Nat) : Int)
 | 0, j, h1, h2 => by omega
 | m + 1, j, h1, h2 => by
  have hlim : lim = 4294967296 := rfl
  rw [Z87]
  by_cases hj : j < l.length
  ·have hs := Ztn (fun b => decide (Z0c l2[i] = Z0c b)) l j hj
   have ih := Ztt l l2 i hi hl hl2 go m (j + 1) (by omega) (by omega)
   rw [decide_eq_true (show (j : Int) < (l.length : Int) by omega), cond_true, inc j (by omega)]
   by_cases hn : Z0b (fun b => decide (Z0c l2[i] = Z0c b)) (l.take j) < 0
   ·rw [decide_eq_true hn, cond_true] at hs
    rw [decide_eq_true hn, Z4p, Z21 hj, Option.bind_some, Z4p, Z21 hi, Option.bind_some, Z4p, Ycs, Option.bind_some, Bool.true_and]
    rw [hs] at ih
    cases hp : decide (Z0c l2[i] = Z0c l[j])
    ·rw [hp, cond_false] at ih
     rw [cond_false]
     have e : Z0b (fun b => decide (Z0c l2[i] = Z0c b)) (l.take j) = -1 := by
      have := Zd9 (fun b => decide (Z0c l2[i] = Z0c b)) (l.take j); omega
     rw [e]; exact ih
    ·rw [hp, cond_true] at ih
     rw [cond_true]; exact ih
   ·rw [decide_eq_false hn, cond_false] at hs
    rw [decide_eq_false hn]
    simp only [Znl, Option.bind_some, Bool.false_and, cond_false]
    rw [hs] at ih
    exact ih
  ·have e : l.take j = l := List.take_of_length_le (by omega)
   rw [decide_eq_false (by omega), cond_false, e]
   unfold wr1
   have hlt := Zjf (fun b => decide (Z0c l2[i] = Z0c b)) l
   by_cases hn : Z0b (fun b => decide (Z0c l2[i] = Z0c b)) l < 0
   ·rw [decide_eq_true hn, cond_true, cond_true, Z21 hi, Option.bind_some, Z1m (by simp; omega), Option.bind_some, inc i (by omega)]
   ·obtain ⟨n, hn2⟩ : ∃ n : Nat, Z0b (fun b => decide (Z0c l2[i] = Z0c b)) l = (n : Int) := ⟨(Z0b (fun b => decide (Z0c l2[i] = Z0c b)) l).toNat, by omega⟩
    rw [decide_eq_false hn, cond_false, cond_false, Z21 hi, Option.bind_some, hn2, Z21 (by omega), Option.bind_some, inc i (by omega)]
theorem Ztm (l2 : List Action) (hl2 : l2.length ≤ 50) : ∀ (m i : Nat) (acc : List Action), i ≤ l2.length → l2.length < i + m → acc.length ≤ i + 50 → Z9o l2 m acc (i : Int) = some ((l2.drop i).foldl wr1 acc)
 | 0, i, acc, h1, h2, _ => by omega
 | m + 1, i, acc, h1, h2, h3 => by
  rw [Z9o]
  by_cases hi : i < l2.length
  ·have h4 := Ztt acc l2 i hi (by omega) (by omega) (Z9o l2 m) ((((acc.length : Int) : Int) - 0).toNat + 1) 0 (by omega) (by omega)
   rw [List.take_zero, show ((0 : Nat) : Int) = 0 from rfl] at h4
   have h5 := Zrb acc l2[i]
   rw [decide_eq_true (by omega), cond_true]
   refine Eq.trans h4 ?_
   rw [Ztm l2 hl2 m (i + 1) _ (by omega) (by omega) (by omega), List.drop_eq_getElem_cons hi, List.foldl_cons]
  ·rw [decide_eq_false (by omega), cond_false, List.drop_of_length_le (by omega)]; rfl
theorem Ygj (s l : List Action) (hs : s.length ≤ 50) (h : l.length ≤ 50) : Zja s l = some (l.foldl wr1 s) := by
 unfold Zja
 have := Ztm l h ((((l.length : Int) : Int) - 0).toNat + 1) 0 s (by omega) (by omega) (by omega)
 rw [Z1m (by simp [lim]; omega), Option.bind_some, List.nil_append]
 rw [show ((0 : Nat) : Int) = 0 from rfl, List.drop_zero] at this
 exact this
def cls (k : Int) (l : List Action) : List Action := l.filter fun a => decide (a.Kind = k)
theorem Zrk (l : List Action) (k : Int) (hl : l.length ≤ 50) : ∀ (m i : Nat) (acc : List Action), i ≤ l.length → l.length < i + m → acc.length ≤ i → Z8u l k m acc (i : Int) = some (acc ++ cls k (l.drop i))
 | 0, i, acc, h1, h2, _ => by omega
 | m + 1, i, acc, h1, h2, h3 => by
  have hlim : lim = 4294967296 := rfl
  rw [Z8u]
  by_cases hi : i < l.length
  ·rw [decide_eq_true (by omega), cond_true, Z21 hi, Option.bind_some, inc i (by omega), List.drop_eq_getElem_cons hi]
   unfold cls
   by_cases hk : l[i].Kind = k
   ·rw [decide_eq_true hk, cond_true, Option.bind_some, Z1m (by simp; omega), Option.bind_some, Zrk l k hl m (i + 1) _ (by omega) (by omega) (by simp; omega), List.filter_cons_of_pos (by simp [hk])]
    simp [cls]
   ·rw [decide_eq_false hk, cond_false, Zrk l k hl m (i + 1) _ (by omega) (by omega) (by omega), List.filter_cons_of_neg (by simp [hk])]
    simp [cls]
  ·rw [decide_eq_false (by omega), cond_false, List.drop_of_length_le (by omega)]
   simp [cls]
theorem Zjn (l : List Action) (k : Int) (hl : l.length ≤ 50) : Z7k l k = some (cls k l) := by
 unfold Z7k
 have := Zrk l k hl ((((l.length : Int) : Int) - 0).toNat + 1) 0 [] (by omega) (by omega) (by simp)
 rw [show ((0 : Nat) : Int) = 0 from rfl] at this
 rw [this]; simp
def ltF (a b : Action) : Bool := decide (b.Oxm.Field > a.Oxm.Field)
theorem Zp9 (l1 : List Action) (i : Nat) (hi : i < l1.length) (hi2 : l1.length ≤ 50) (go : List Action → Int → Option (List Action)) (A : List Action) (hA : A.length ≤ 50) : ∀ (Br S : List Action) (c : Action) (m : Nat), Br.length < m → Br.length ≤ 50 →
  Z88 (A.length : Int) l1 (i : Int) go m (A ++ (Br.reverse ++ c :: S)) ((A.length + Br.length : Nat) : Int) = go (A ++ l1[i] :: (Br.reverse ++ S)) ((i + 1 : Nat) : Int)
 | [], S, c, m, hm, _ => by
  obtain ⟨m, rfl⟩ : ∃ k, m = k + 1 := ⟨m - 1, by simp at hm; omega⟩
  have g0 : lget (A ++ c :: S) (A.length : Int) = some c := by
   rw [Z6e, List.getElem?_append_right (Nat.le_refl _)]; simp
  have s0 : List.set (A ++ c :: S) ((A.length : Int)).toNat l1[i] = A ++ l1[i] :: S := by
   rw [Int.toNat_natCast, List.set_append_right _ _ (Nat.le_refl _)]; simp
  rw [Z88, decide_eq_false (by simp), cond_false, Z21 hi, Option.bind_some]
  simp only [List.reverse_nil, List.nil_append]
  rw [g0, Option.bind_some, s0, inc i (by omega)]
 | b :: Br, S, c, m, hm, hb => by
  simp only [List.length_cons] at hm hb
  obtain ⟨m, rfl⟩ : ∃ k, m = k + 1 := ⟨m - 1, by omega⟩
  have e0 : A ++ ((b :: Br).reverse ++ c :: S) = (A ++ Br.reverse) ++ b :: c :: S := by simp
  have ej : IntKind.i64.wrap (((A.length + (b :: Br).length : Nat) : Int) - 1) = ((A.length + Br.length : Nat) : Int) := by rw [Z30 (by simp only [List.length_cons]; omega) (by simp only [List.length_cons]; omega)]; simp only [List.length_cons]; omega
  have hlen : (A ++ Br.reverse).length = A.length + Br.length := by simp
  have g0 : lget ((A ++ Br.reverse) ++ b :: c :: S) ((A.length + Br.length : Nat) : Int) = some b := by
   rw [Z6e, List.getElem?_append_right (by omega), hlen, Nat.sub_self]; rfl
  have g1 : lget ((A ++ Br.reverse) ++ b :: c :: S) ((A.length + (b :: Br).length : Nat) : Int) = some c := by
   rw [Z6e, List.getElem?_append_right (by simp only [List.length_cons]; omega), hlen]
   have : A.length + (b :: Br).length - (A.length + Br.length) = 1 := by simp only [List.length_cons]; omega
   rw [this]; rfl
  have s1 : List.set ((A ++ Br.reverse) ++ b :: c :: S) (((A.length + (b :: Br).length : Nat) : Int)).toNat b = A ++ (Br.reverse ++ b :: b :: S) := by
   rw [Int.toNat_natCast, List.set_append_right _ _ (by simp only [List.length_cons]; omega), hlen]
   have : A.length + (b :: Br).length - (A.length + Br.length) = 1 := by simp only [List.length_cons]; omega
   rw [this]; simp
  rw [e0, Z88, decide_eq_true (by simp only [List.length_cons]; omega), cond_true, ej, g0, Option.bind_some, g1, Option.bind_some, s1, Zp9 l1 i hi hi2 go A hA Br (b :: S) b m (by omega) (by omega)]
  simp
theorem Zsr (l1 : List Action) (i : Nat) (hi : i < l1.length) (hi2 : l1.length ≤ 50) (go : List Action → Int → Option (List Action)) : ∀ (Ar B : List Action) (m : Nat), Ar.length < m → Ar.length + B.length ≤ 50 →
  Z8v (Ar.reverse ++ B) l1 (i : Int) go m (Ar.length : Int) = go ((Z0o ltF l1[i] Ar).reverse ++ B) ((i + 1 : Nat) : Int)
 | [], B, m, hm, hb => by
  have hlim : lim = 4294967296 := rfl
  obtain ⟨m, rfl⟩ : ∃ k, m = k + 1 := ⟨m - 1, by simp at hm; omega⟩
  simp only [List.length_nil, Nat.zero_add] at hb
  rw [Z8v, show decide ((([] : List Action).length : Int) > 0) = false from rfl]
  simp only [Znl, Option.bind_some, Bool.false_and, cond_false, List.reverse_nil, List.nil_append]
  rw [Z1m (by simp; omega), Option.bind_some]
  have e1 : IntKind.i64.wrap (((B ++ [(⟨0, 0, 0, 0, 0, Z5p⟩ : Action)]).length : Int) - 1) = ((([] : List Action).length + B.reverse.length : Nat) : Int) := by rw [Z30 (by simp <;> omega) (by simp <;> omega)]; simp
  have := Zp9 l1 i hi hi2 go [] (by simp) B.reverse [] (⟨0, 0, 0, 0, 0, Z5p⟩ : Action) ((((([] : List Action).length + B.reverse.length : Nat) : Int) - (([] : List Action).length : Int)).toNat + 1) (by simp <;> omega) (by simp <;> omega)
  simp only [List.nil_append, List.reverse_reverse, List.append_nil] at this
  rw [e1]
  refine Eq.trans this ?_
  simp [Z0o]
 | y :: Ar, B, m, hm, hb => by
  have hlim : lim = 4294967296 := rfl
  simp only [List.length_cons] at hm hb
  obtain ⟨m, rfl⟩ : ∃ k, m = k + 1 := ⟨m - 1, by omega⟩
  have ej : IntKind.i64.wrap (((y :: Ar).length : Int) - 1) = (Ar.length : Int) := by rw [Z30 (by simp only [List.length_cons]; omega) (by simp only [List.length_cons]; omega)]; simp only [List.length_cons]; omega
  have e0 : (y :: Ar).reverse ++ B = Ar.reverse ++ y :: B := by simp
  have g0 : lget (Ar.reverse ++ y :: B) (Ar.length : Int) = some y := by
   rw [Z6e, List.getElem?_append_right (by simp)]; simp
  rw [Z8v, decide_eq_true (by simp only [List.length_cons]; omega), Z4p, ej, e0, g0, Option.bind_some, Z4p, Z21 hi, Option.bind_some, Bool.true_and, Z0o]
  show (bif ltF l1[i] y then _ else _) = _
  cases ltF l1[i] y
  ·rw [cond_false, cond_false, Z1m (by simp; omega), Option.bind_some]
   have e1 : IntKind.i64.wrap (((Ar.reverse ++ y :: B ++ [(⟨0, 0, 0, 0, 0, Z5p⟩ : Action)]).length : Int) - 1) = (((y :: Ar).reverse.length + B.reverse.length : Nat) : Int) := by rw [Z30 (by simp; omega) (by simp; omega)]; simp; omega
   have := Zp9 l1 i hi hi2 go (y :: Ar).reverse (by simp; omega) B.reverse [] (⟨0, 0, 0, 0, 0, Z5p⟩ : Action) (((((y :: Ar).reverse.length + B.reverse.length : Nat) : Int) - ((y :: Ar).length : Int)).toNat + 1) (by simp; omega) (by simp; omega)
   simp only [List.reverse_reverse, List.append_nil] at this
   rw [e1]
   have e2 : Ar.reverse ++ y :: B ++ [(⟨0, 0, 0, 0, 0, Z5p⟩ : Action)] = (y :: Ar).reverse ++ (B ++ [(⟨0, 0, 0, 0, 0, Z5p⟩ : Action)]) := by simp
   have e3 : (((y :: Ar).length : Int)) = (((y :: Ar).reverse.length : Nat) : Int) := by simp
   rw [e2]
   rw [e3] at this ⊢
   refine Eq.trans this ?_
   simp
  ·rw [cond_true, cond_true, Zsr l1 i hi hi2 go Ar (y :: B) m (by omega) (by simp only [List.length_cons]; omega)]
   simp
theorem Zyc (l : List Action) (hl : l.length ≤ 50) : ∀ (m i : Nat) (R : List Action), i ≤ l.length → l.length < i + m → R.length ≤ i → Z9b l m R.reverse (i : Int) = some (((l.drop i).foldl (fun R x => Z0o ltF x R) R).reverse)
 | 0, i, R, h1, h2, _ => by omega
 | m + 1, i, R, h1, h2, h3 => by
  rw [Z9b]
  by_cases hi : i < l.length
  ·have h4 := Zsr l i hi hl (Z9b l m) R [] Z0y (by unfold Z0y; omega) (by simp; omega)
   rw [List.append_nil, List.append_nil] at h4
   have e : ((R.reverse).length : Int) = (R.length : Int) := by simp
   rw [decide_eq_true (by omega), cond_true, e, h4, Zyc l hl m (i + 1) _ (by omega) (by omega) (by rw [Zyd]; omega), List.drop_eq_getElem_cons hi, List.foldl_cons]
  ·rw [decide_eq_false (by omega), cond_false, List.drop_of_length_le (by omega)]; rfl
theorem Y3a (l : List Action) (hl : l.length ≤ 50) : Zjj l = some (srt ltF l) := by
 unfold Zjj srt
 have := Zyc l hl ((((l.length : Int) : Int) - 0).toNat + 1) 0 [] (by omega) (by omega) (by simp)
 rw [show ((0 : Nat) : Int) = 0 from rfl, List.drop_zero] at this
 exact this
theorem Z6h {α : Type} (lt : α → α → Bool) (x : α) : ∀ P Q : List α, (∀ y ∈ P, lt x y = true) → Z0o lt x (P ++ Q) = P ++ Z0o lt x Q
 | [], Q, _ => rfl
 | y :: P, Q, h => by
  rw [List.cons_append, Z0o, h y (by simp), cond_true, Z6h lt x P Q fun z hz => h z (by simp [hz])]; rfl
theorem Zjq {α : Type} (lt : α → α → Bool) (x : α) : ∀ Q : List α, (∀ y ∈ Q, lt x y = false) → Z0o lt x Q = x :: Q
 | [], _ => rfl
 | y :: Q, h => by rw [Z0o, h y (by simp), cond_false]
theorem Zxk {α : Type} (lt lt' : α → α → Bool) (x : α) : ∀ P Q : List α, (∀ y ∈ P, lt x y = lt' x y) → (∀ y ∈ Q, lt x y = false) → Z0o lt x (P ++ Q) = Z0o lt' x P ++ Q
 | [], Q, _, hq => by rw [List.nil_append, Zjq lt x Q hq]; rfl
 | y :: P, Q, hp, hq => by
  rw [List.cons_append, Z0o, Z0o, hp y (by simp)]
  cases lt' x y
  ·rfl
  ·rw [cond_true, cond_true, Zxk lt lt' x P Q (fun z hz => hp z (by simp [hz])) hq]; rfl
def tn (k : Int) : Int := if k = 18 then 0 else if k = 17 then 1 else if k = 25 then 2 else if k = 22 then 3 else if k = 0 then 4 else -1
theorem Zgp (k : Int) : Z3h k = tn k := by
 unfold Z3h tn
 simp only [Z0b]
 by_cases h1 : k = 18
 ·subst h1; rfl
 ·by_cases h2 : k = 17
  ·subst h2; rfl
  ·by_cases h3 : k = 25
   ·subst h3; rfl
   ·by_cases h4 : k = 22
    ·subst h4; rfl
    ·by_cases h5 : k = 0
     ·subst h5; rfl
     ·simp [h1, h2, h3, h4, h5]
theorem Yde (x y : Action) (k j : Int) (hx : x.Kind = k) (hy : y.Kind = j) (hk : -1 ≤ tn k ∧ tn k ≤ 4) (hj : -1 ≤ tn j ∧ tn j ≤ 4) (hne : tn k ≠ tn j) : ltA x y = decide (tn k < tn j) := by
 unfold ltA Zaz
 have e : decide (tn k - tn j ≠ 0) = true := decide_eq_true (by omega)
 rw [Zfg, Zfg, hx, hy, Zgp, Zgp, Z30 (by omega) (by omega), e, cond_true, decide_eq_decide]
 omega
theorem Zlz (x y : Action) (k : Int) (hx : x.Kind = k) (hy : y.Kind = k) (hk : k ≠ 25) : ltA x y = false := by
 unfold ltA Zaz
 rw [Zfg, Zfg, hx, hy, Int.sub_self, show IntKind.i64.wrap 0 = 0 by decide, show decide ((0 : Int) ≠ 0) = false from rfl, cond_false]
 have e1 : (Z0c x).field = 0 := by unfold Z0c; rw [decide_eq_false (by rw [hx]; exact hk)]; rfl
 have e2 : (Z0c y).field = 0 := by unfold Z0c; rw [decide_eq_false (by rw [hy]; exact hk)]; rfl
 rw [e1, e2]; rfl
theorem Yec (x y : Action) (hx : x.Kind = 25) (hy : y.Kind = 25) : ltA x y = ltF x y := by
 unfold ltA Zaz ltF
 rw [Zfg, Zfg, hx, hy, Int.sub_self, show IntKind.i64.wrap 0 = 0 by decide, show decide ((0 : Int) ≠ 0) = false from rfl, cond_false]
 have e1 : (Z0c x).field = x.Oxm.Field := by unfold Z0c; rw [decide_eq_true hx]; rfl
 have e2 : (Z0c y).field = y.Oxm.Field := by unfold Z0c; rw [decide_eq_true hy]; rfl
 rw [e1, e2]
 by_cases h : x.Oxm.Field < y.Oxm.Field
 ·rw [decide_eq_true h, cond_true]; rfl
 ·rw [decide_eq_false h, cond_false]
  cases decide (x.Oxm.Field > y.Oxm.Field) <;> rfl
theorem Zfe : ∀ (l E D C B A : List Action), (∀ y ∈ E, y.Kind = 0) → (∀ y ∈ D, y.Kind = 22) → (∀ y ∈ C, y.Kind = 25) → (∀ y ∈ B, y.Kind = 17) → (∀ y ∈ A, y.Kind = 18) → (∀ y ∈ l, 0 ≤ tn y.Kind) →
  l.foldl (fun R x => Z0o ltA x R) (E ++ (D ++ (C ++ (B ++ A)))) = (cls 0 l).reverse ++ E ++ ((cls 22 l).reverse ++ D ++ ((cls 25 l).foldl (fun R x => Z0o ltF x R) C ++ ((cls 17 l).reverse ++ B ++ ((cls 18 l).reverse ++ A))))
 | [], E, D, C, B, A, _, _, _, _, _, _ => by simp [cls]
 | x :: l, E, D, C, B, A, hE, hD, hC, hB, hA, hl => by
  have hx := hl x (by simp)
  have hl' : ∀ y ∈ l, 0 ≤ tn y.Kind := fun y hy => hl y (by simp [hy])
  have rk : ∀ k : Int, -1 ≤ tn k ∧ tn k ≤ 4 := fun k => by unfold tn; split <;> (try split) <;> (try split) <;> (try split) <;> (try split) <;> omega
  have far : ∀ (y : Action) (k j : Int), x.Kind = k → y.Kind = j → tn k ≠ tn j → ltA x y = decide (tn k < tn j) := fun y k j h1 h2 h3 => Yde x y k j h1 h2 (rk k) (rk j) h3
  rw [List.foldl_cons]
  have hxk : x.Kind = 18 ∨ x.Kind = 17 ∨ x.Kind = 25 ∨ x.Kind = 22 ∨ x.Kind = 0 := by
   unfold tn at hx
   by_cases h1 : x.Kind = 18
   ·exact .inl h1
   ·by_cases h2 : x.Kind = 17
    ·exact .inr (.inl h2)
    ·by_cases h3 : x.Kind = 25
     ·exact .inr (.inr (.inl h3))
     ·by_cases h4 : x.Kind = 22
      ·exact .inr (.inr (.inr (.inl h4)))
      ·by_cases h5 : x.Kind = 0
       ·exact .inr (.inr (.inr (.inr h5)))
       ·simp [h1, h2, h3, h4, h5] at hx
  have c1 : ∀ k, x.Kind = k → cls k (x :: l) = x :: cls k l := fun k h => by unfold cls; rw [List.filter_cons_of_pos (by simp [h])]
  have c0 : ∀ k, x.Kind ≠ k → cls k (x :: l) = cls k l := fun k h => by unfold cls; rw [List.filter_cons_of_neg (by simp [h])]
  rcases hxk with h | h | h | h | h
  ·rw [Z6h ltA x E _ fun y hy => (far y 18 0 h (hE y hy) (by decide)).trans rfl, Z6h ltA x D _ fun y hy => (far y 18 22 h (hD y hy) (by decide)).trans rfl, Z6h ltA x C _ fun y hy => (far y 18 25 h (hC y hy) (by decide)).trans rfl, Z6h ltA x B _ fun y hy => (far y 18 17 h (hB y hy) (by decide)).trans rfl, Zjq ltA x A fun y hy => Zlz x y 18 h (hA y hy) (by decide),
    Zfe l E D C B (x :: A) hE hD hC hB (fun y hy => by rcases List.mem_cons.1 hy with rfl | hy; exact h; exact hA y hy) hl', c1 18 h, c0 17 (by rw [h]; decide), c0 25 (by rw [h]; decide), c0 22 (by rw [h]; decide), c0 0 (by rw [h]; decide)]
   simp
  ·rw [Z6h ltA x E _ fun y hy => (far y 17 0 h (hE y hy) (by decide)).trans rfl, Z6h ltA x D _ fun y hy => (far y 17 22 h (hD y hy) (by decide)).trans rfl, Z6h ltA x C _ fun y hy => (far y 17 25 h (hC y hy) (by decide)).trans rfl, Zjq ltA x (B ++ A) fun y hy => (by
    rcases List.mem_append.1 hy with hy | hy
    ·exact Zlz x y 17 h (hB y hy) (by decide)
    ·exact (far y 17 18 h (hA y hy) (by decide)).trans rfl)]
   have := Zfe l E D C (x :: B) A hE hD hC (fun y hy => by rcases List.mem_cons.1 hy with rfl | hy; exact h; exact hB y hy) hA hl'
   rw [List.cons_append] at this
   rw [this, c1 17 h, c0 18 (by rw [h]; decide), c0 25 (by rw [h]; decide), c0 22 (by rw [h]; decide), c0 0 (by rw [h]; decide)]
   simp
  ·rw [Z6h ltA x E _ fun y hy => (far y 25 0 h (hE y hy) (by decide)).trans rfl, Z6h ltA x D _ fun y hy => (far y 25 22 h (hD y hy) (by decide)).trans rfl, Zxk ltA ltF x C (B ++ A) (fun y hy => Yec x y h (hC y hy)) (fun y hy => (by
    rcases List.mem_append.1 hy with hy | hy
    ·exact (far y 25 17 h (hB y hy) (by decide)).trans rfl
    ·exact (far y 25 18 h (hA y hy) (by decide)).trans rfl)),
    Zfe l E D (Z0o ltF x C) B A hE hD (fun y hy => by rcases List.mem_cons.1 ((Zju ltF x C).mem_iff.1 hy) with rfl | hy; exact h; exact hC y hy) hB hA hl', c1 25 h, c0 18 (by rw [h]; decide), c0 17 (by rw [h]; decide), c0 22 (by rw [h]; decide), c0 0 (by rw [h]; decide)]
   rw [List.foldl_cons]
  ·rw [Z6h ltA x E _ fun y hy => (far y 22 0 h (hE y hy) (by decide)).trans rfl, Zjq ltA x (D ++ (C ++ (B ++ A))) fun y hy => (by
    rcases List.mem_append.1 hy with hy | hy
    ·exact Zlz x y 22 h (hD y hy) (by decide)
    ·rcases List.mem_append.1 hy with hy | hy
     ·exact (far y 22 25 h (hC y hy) (by decide)).trans rfl
     ·rcases List.mem_append.1 hy with hy | hy
      ·exact (far y 22 17 h (hB y hy) (by decide)).trans rfl
      ·exact (far y 22 18 h (hA y hy) (by decide)).trans rfl)]
   have := Zfe l E (x :: D) C B A hE (fun y hy => by rcases List.mem_cons.1 hy with rfl | hy; exact h; exact hD y hy) hC hB hA hl'
   rw [List.cons_append] at this
   rw [this, c1 22 h, c0 18 (by rw [h]; decide), c0 17 (by rw [h]; decide), c0 25 (by rw [h]; decide), c0 0 (by rw [h]; decide)]
   simp
  ·rw [Zjq ltA x (E ++ (D ++ (C ++ (B ++ A)))) fun y hy => (by
    rcases List.mem_append.1 hy with hy | hy
    ·exact Zlz x y 0 h (hE y hy) (by decide)
    ·rcases List.mem_append.1 hy with hy | hy
     ·exact (far y 0 22 h (hD y hy) (by decide)).trans rfl
     ·rcases List.mem_append.1 hy with hy | hy
      ·exact (far y 0 25 h (hC y hy) (by decide)).trans rfl
      ·rcases List.mem_append.1 hy with hy | hy
       ·exact (far y 0 17 h (hB y hy) (by decide)).trans rfl
       ·exact (far y 0 18 h (hA y hy) (by decide)).trans rfl)]
   have := Zfe l (x :: E) D C B A (fun y hy => by rcases List.mem_cons.1 hy with rfl | hy; exact h; exact hE y hy) hD hC hB hA hl'
   rw [List.cons_append] at this
   rw [this, c1 0 h, c0 18 (by rw [h]; decide), c0 17 (by rw [h]; decide), c0 25 (by rw [h]; decide), c0 22 (by rw [h]; decide)]
   simp
theorem Ycb (l : List Action) (h : ∀ y ∈ l, 0 ≤ tn y.Kind) : srt ltA l = cls 18 l ++ (cls 17 l ++ (srt ltF (cls 25 l) ++ (cls 22 l ++ cls 0 l))) := by
 unfold srt
 have := Zfe l [] [] [] [] [] (by simp) (by simp) (by simp) (by simp) (by simp) h
 simp only [List.nil_append, List.append_nil] at this
 rw [this]
 simp
theorem Zh0 (k : Int) (p : Action → Bool) (l : List Action) (h : ∀ a, a.Kind = k → p a = true) : cls k (l.filter p) = cls k l := by
 unfold cls
 rw [List.filter_filter]
 apply List.filter_congr
 intro a _
 by_cases hk : a.Kind = k
 ·simp [hk, h a hk]
 ·simp [hk]
theorem Y8x (k : Int) (p : Action → Bool) (l : List Action) (h : ∀ a, a.Kind = k → p a = false) : cls k (l.filter p) = [] := by
 unfold cls
 rw [List.filter_filter, List.filter_eq_nil_iff]
 intro a _
 by_cases hk : a.Kind = k
 ·simp [hk, h a hk]
 ·simp [hk]
theorem Ybj (s : List Action) (h : s.length ≤ 50) : Zg5 s = some (Z98 s) := by
 have hlim : lim = 4294967296 := rfl
 have lc : ∀ k, (cls k s).length ≤ 50 := fun k => Nat.le_trans (List.length_filter_le ..) (by omega)
 have l18 := lc 18
 have l17 := lc 17
 have l25 := lc 25
 have l22 := lc 22
 have l0 := lc 0
 have ls : (srt ltF (cls 25 s)).length ≤ 50 := by rw [(Y8b _ _).length_eq]; exact l25
 unfold Zg5 Z98
 rw [Zjn s 18 (by omega), Option.bind_some, Zjn s 17 (by omega), Option.bind_some, Z1m (by omega), Option.bind_some, Zjn s 25 (by omega), Option.bind_some, Y3a _ (by omega), Option.bind_some, Z1m (by rw [List.length_append]; omega), Option.bind_some, Zjn s 22 (by omega), Option.bind_some]
 have hk : ∀ (b : Bool) (a : Action), Z5o b a = true → 0 ≤ tn a.Kind := fun b a ha => by
  unfold Z5o at ha
  rw [Zgp] at ha
  simp only [Bool.not_eq_true', Bool.or_eq_false_iff, decide_eq_false_iff_not] at ha
  omega
 have kp : ∀ (b : Bool) (k : Int), 0 ≤ tn k → k ≠ 0 → ∀ a : Action, a.Kind = k → Z5o b a = true := fun b k hk h0 a ha => by
  unfold Z5o
  rw [Zgp, ha, decide_eq_false (by omega), decide_eq_false h0]; simp
 have hany : (s.any fun a => decide (a.Kind = 22)) = decide (((cls 22 s).length : Int) > 0) := by
  rw [Bool.eq_iff_iff, List.any_eq_true, decide_eq_true_eq]
  constructor
  ·rintro ⟨a, ha, hk⟩
   have : a ∈ cls 22 s := List.mem_filter.2 ⟨ha, hk⟩
   have := List.length_pos_of_mem this
   omega
  ·intro hp
   obtain ⟨a, ha⟩ := List.exists_mem_of_length_pos (show 0 < (cls 22 s).length by omega)
   have := List.mem_filter.1 ha
   exact ⟨a, this.1, this.2⟩
 rw [Ycb _ (fun y hy => hk _ y (List.mem_filter.1 hy).2), Zh0 18 _ _ (kp _ 18 (by decide) (by decide)), Zh0 17 _ _ (kp _ 17 (by decide) (by decide)), Zh0 25 _ _ (kp _ 25 (by decide) (by decide)), Zh0 22 _ _ (kp _ 22 (by decide) (by decide)), hany]
 cases hg : decide (((cls 22 s).length : Int) > 0)
 ·have e22 : cls 22 s = [] := List.eq_nil_of_length_eq_zero (by rw [decide_eq_false_iff_not] at hg; omega)
  have e0 : cls 0 (s.filter (Z5o false)) = cls 0 s := Zh0 0 _ _ fun a ha => by
   unfold Z5o
   rw [Zgp, ha]; rfl
  rw [cond_false, Zjn s 0 (by omega), Option.bind_some, Z1m (by simp only [List.length_append]; omega), Option.bind_some, e22, e0]
  simp
 ·have e0 : cls 0 (s.filter (Z5o true)) = [] := Y8x 0 _ _ fun a ha => by
   unfold Z5o
   rw [ha]; simp
  rw [cond_true, Z1m (by simp only [List.length_append]; omega), Option.bind_some, e0]
  simp
end Go.Proofs.YtknpgojdkobgjaaGreat.W
namespace Go.Proofs.YtknpgojdkobgjaaGreat.W
open Go Go.Wb
def Yfn (G : Int → Header → List Out) (h : Header) (x : Atom) : List Out := bif x.Group then G x.Port (Zrp x.Rewrite h) else [⟨x.Port, x.Max, Zrp x.Rewrite h⟩]
end Go.Proofs.YtknpgojdkobgjaaGreat.W
namespace Go.Proofs.YtknpgojdkobgjaaGreat.W
open Go Go.Wb
theorem Zm8 (acts : List Action) (ha : acts.length ≤ 1000) : ∀ (m i : Nat) (r : Cube) (o : List Atom), i ≤ acts.length → acts.length < i + m → o.length ≤ i → Z5u acts m r o (i : Int) = some (o ++ (doT (acts.drop i) r).1, (doT (acts.drop i) r).2)
 | 0, i, r, o, h1, h2, _ => by omega
 | m + 1, i, r, o, h1, h2, hb => by
  have hlim : lim = 4294967296 := rfl
  rw [Z5u]
  by_cases hi : i < acts.length
  ·rw [decide_eq_true (by omega), cond_true, Z21 hi, Option.bind_some, List.drop_eq_getElem_cons hi, doT]
   unfold Zbj Zlu Zqi
   by_cases h0 : acts[i].Kind = 0
   ·have hj : ∀ x : Atom, Zdr o (Z5u acts m) r (i : Int) x = some (o ++ x :: (doT (acts.drop (i + 1)) r).1, (doT (acts.drop (i + 1)) r).2) := fun x => by
     unfold Zdr
     rw [Z1m (by simp only [List.length_cons, List.length_nil]; omega), Option.bind_some, inc i (by omega), Zm8 acts ha m (i + 1) r _ (by omega) (by omega) (by simp only [List.length_append, List.length_cons, List.length_nil]; omega)]
     simp
    rw [decide_eq_true h0]
    simp only [cond_true, Option.bind_some, Bool.true_or]
    cases hp : decide (acts[i].Port = 4294967293)
    ·simp only [hp, cond_false]
     rw [hj]
    ·simp only [hp, cond_true]
     rw [hj]
   ·rw [decide_eq_false h0]
    simp only [cond_false, Option.bind_some, Bool.false_or]
    by_cases h4 : acts[i].Kind = 22
    ·rw [decide_eq_true h4]
     simp only [cond_true, Option.bind_some]
     rw [Z1m (by simp only [List.length_cons, List.length_nil]; omega), Option.bind_some, inc i (by omega), Zm8 acts ha m (i + 1) r _ (by omega) (by omega) (by simp only [List.length_append, List.length_cons, List.length_nil]; omega)]
     simp
    ·rw [decide_eq_false h4]
     simp only [cond_false, Option.bind_some]
     rw [Y90, Option.bind_some, Zob, Option.bind_some, inc i (by omega), Zm8 acts ha m (i + 1) _ o (by omega) (by omega) (by omega)]
  ·rw [decide_eq_false (by omega), cond_false, List.drop_of_length_le (by omega)]; simp [doT]
theorem Y04 (acts : List Action) (r : Cube) (ha : acts.length ≤ 1000) : Zd0 acts r = some (doT acts (Z1e r)) := by
 unfold Zd0
 rw [Zpr, Option.bind_some]
 have := Zm8 acts ha ((((acts.length : Int) : Int) - 0).toNat + 1) 0 (Z1e r) [] (by omega) (by omega) (by simp)
 rw [show ((0 : Nat) : Int) = 0 from rfl] at this
 rw [this]; simp
end Go.Proofs.YtknpgojdkobgjaaGreat.W
namespace Go.Proofs.YtknpgojdkobgjaaGreat.W
open Go Go.Wb
end Go.Proofs.YtknpgojdkobgjaaGreat.W
namespace Go.Proofs.YtknpgojdkobgjaaGreat.W
open Go Go.Wb
end Go.Proofs.YtknpgojdkobgjaaGreat.W
namespace Go.Proofs.YtknpgojdkobgjaaGreat.W
open Go Go.Wb
theorem Y2p (a b : Wide) : Zkv a b = some (Z6p a b) := rfl
theorem Zwl (a : Wide) : Zfi a = some (Z3c a) := rfl
theorem Zx1 (a : Wide) : Zfp a = some (Z3c a) := by
 unfold Zfp
 congr 1
 rw [Y75, Bool.eq_iff_iff]
 obtain ⟨h, l⟩ := a
 simp [Z0a]
theorem bvn (i : Nat) (h : i < 18446744073709551616) : ((BitVec.ofInt 64 (i : Int)).toNat : Int) = (i : Int) := by
 rw [BitVec.toNat_ofInt]; omega
theorem Ybr (i : Nat) (h : i < 128) : Z8c (i : Int) = some (Z43 i) := by
 unfold Z8c
 have h1 : (decide ((i : Int) < 0) || decide ((i : Int) > 127)) = false := by simp; omega
 rw [h1, cond_false]
 unfold Z43
 by_cases h2 : i < 64
 ·rw [Z9x h2, cond_true, decide_eq_true (by omega), cond_true, bvn i (by omega), Zls, Option.bind_some]
  rfl
 ·have e : IntKind.i64.wrap ((i : Int) - 64) = ((i - 64 : Nat) : Int) := by rw [Z30 (by omega) (by omega)]; omega
  rw [Z9i h2, cond_false, decide_eq_false (by omega), cond_false, e, bvn (i - 64) (by omega), Zls, Option.bind_some]
  rfl
theorem Zsv (a : Wide) (i : Nat) (h : i < 128) : Zfz a (i : Int) = some (wt a i) := by
 unfold Zfz
 rw [Zpt i h, Option.bind_some, Ybo, Option.bind_some, Zwl, Option.bind_some, Zve a i h]
theorem Y2x (a : Wide) (i : Nat) (h : i < 128) : Zgr a (i : Int) = some (wt a i) := by
 unfold Zgr
 rw [Ybr i h, Option.bind_some, Zo8, Option.bind_some, Zx1, Option.bind_some, Zve a i h]
theorem Y60 (n : Nat) (h : n < 18446744073709551616) : Zph .and .i64 (IntKind.i64.wrap (n : Int)) 127 = ((n % 128 : Nat) : Int) := by
 have e : (BitVec.ofInt 64 (IntKind.i64.wrap (n : Int)) &&& BitVec.ofInt 64 127).toNat = n % 128 := by
  have e1 : BitVec.ofInt 64 (IntKind.i64.wrap (n : Int)) = BitVec.ofNat 64 n := by
   apply BitVec.eq_of_toNat_eq
   rw [BitVec.toNat_ofInt, BitVec.toNat_ofNat]
   simp only [IntKind.wrap, IntKind.signed, IntKind.bits]
   simp
   omega
  have e2 : BitVec.ofInt 64 127 = BitVec.ofNat 64 127 := rfl
  rw [e1, e2, BitVec.toNat_and, BitVec.toNat_ofNat, BitVec.toNat_ofNat, Nat.mod_eq_of_lt h]
  exact Nat.and_two_pow_sub_one_eq_mod n 7
 show IntKind.i64.wrap ((BitVec.ofInt 64 (IntKind.i64.wrap (n : Int)) &&& BitVec.ofInt 64 127).toNat : Int) = _
 rw [e, Z30 (by omega) (by omega)]
def cnt (x : BitVec 64) : Nat := ds 1 64 x.toNat
theorem Zxm (x : BitVec 64) : Zg1 x = some (cnt x : Int) := by
 obtain ⟨h0, ha, hb, hbb, hd, he, hf⟩ := Yew x.toNat x.isLt
 have sh : ∀ (x : BitVec 64) (n : BitVec 64), Z38 x (n.toNat : Int) = some (x >>> n.toNat) := fun x n => Yg3 x n.toNat
 unfold Zg1
 simp only [sh, Option.bind_some]
 congr 1
 have t1 : ((1 : BitVec 64)).toNat = 1 := rfl
 have t2 : ((2 : BitVec 64)).toNat = 2 := rfl
 have t4 : ((4 : BitVec 64)).toNat = 4 := rfl
 have t8 : ((8 : BitVec 64)).toNat = 8 := rfl
 have t16 : ((16 : BitVec 64)).toNat = 16 := rfl
 have t32 : ((32 : BitVec 64)).toNat = 32 := rfl
 rw [t1, t2, t4, t8, t16, t32]
 generalize hA : (x >>> 1 &&& (6148914691236517205 : BitVec 64)) + (x &&& (6148914691236517205 : BitVec 64)) = A
 have eA : A.toNat = (x.toNat / 2 &&& 6148914691236517205) + (x.toNat &&& 6148914691236517205) := by
  rw [← hA, BitVec.toNat_add, BitVec.toNat_and, BitVec.toNat_and, BitVec.toNat_ushiftRight, Nat.shiftRight_eq_div_pow]
  exact Nat.mod_eq_of_lt ha
 generalize hB : (A >>> 2 &&& (3689348814741910323 : BitVec 64)) + (A &&& (3689348814741910323 : BitVec 64)) = B
 have eB : B.toNat = (A.toNat / 4 &&& 3689348814741910323) + (A.toNat &&& 3689348814741910323) := by
  rw [← hB, BitVec.toNat_add, BitVec.toNat_and, BitVec.toNat_and, BitVec.toNat_ushiftRight, Nat.shiftRight_eq_div_pow]
  rw [eA]
  exact Nat.mod_eq_of_lt hb
 generalize hC : (B >>> 4 + B) &&& (1085102592571150095 : BitVec 64) = D
 have eC : D.toNat = (B.toNat / 16 + B.toNat) &&& 1085102592571150095 := by
  rw [← hC, BitVec.toNat_and, BitVec.toNat_add, BitVec.toNat_ushiftRight, Nat.shiftRight_eq_div_pow]
  have : (B.toNat / 2 ^ 4 + B.toNat) % 2 ^ 64 = B.toNat / 16 + B.toNat := by
   rw [eB, eA]
   exact Nat.mod_eq_of_lt hbb
  rw [this]; rfl
 rw [← eA, ← eB, ← eC] at hd he hf h0
 generalize hE : D + D >>> 8 = E
 have eE : E.toNat = D.toNat + D.toNat / 256 := by
  rw [← hE, BitVec.toNat_add, BitVec.toNat_ushiftRight, Nat.shiftRight_eq_div_pow]
  exact Nat.mod_eq_of_lt hd
 rw [← eE] at he hf h0
 generalize hG : E + E >>> 16 = G
 have eG : G.toNat = E.toNat + E.toNat / 65536 := by
  rw [← hG, BitVec.toNat_add, BitVec.toNat_ushiftRight, Nat.shiftRight_eq_div_pow]
  exact Nat.mod_eq_of_lt he
 rw [← eG] at hf h0
 generalize hK : G + G >>> 32 = K
 have eK : K.toNat = G.toNat + G.toNat / 4294967296 := by
  rw [← hK, BitVec.toNat_add, BitVec.toNat_ushiftRight, Nat.shiftRight_eq_div_pow]
  exact Nat.mod_eq_of_lt hf
 rw [← eK] at h0
 rw [Y60 _ K.isLt, h0]
 rfl
theorem Y0n (x : BitVec 64) : cnt x ≤ 64 := by
 unfold cnt
 rw [Znb]
 exact Nat.le_trans (List.length_filter_le ..) (by simp)
def Z69 (a : Wide) : List Nat := (List.range 128).filter (wt a)
theorem Yh7 (a : Wide) : (Z69 a).length = cnt a.Lo + cnt a.Hi := by
 have e : List.range (64 + 64) = List.range 64 ++ (List.range 64).map (64 + ·) := List.range_add
 unfold Z69 cnt
 rw [show (128 : Nat) = 64 + 64 from rfl, e, List.filter_append, List.length_append, Znb, Znb, List.filter_map, List.length_map]
 congr 2
theorem Y2s (a : Wide) : Zge a = some ((Z69 a).length : Int) := by
 have h1 := Y0n a.Hi
 have h2 := Y0n a.Lo
 rw [Yh7]
 unfold Zge
 rw [Zxm, Option.bind_some, Zxm, Option.bind_some]
 generalize cnt a.Hi = p at *
 generalize cnt a.Lo = q at *
 rw [Z30 (by omega) (by omega)]
 congr 1
 omega
def Z4c (a : Wide) : Nat → List Int
 | 0 => []
 | n + 1 => bif wt a n then (n : Int) :: Z4c a n else Z4c a n
theorem Zu9 (a : Wide) : ∀ n, (Z4c a n).length = ((List.range n).filter (wt a)).length
 | 0 => rfl
 | n + 1 => by
  rw [List.range_succ, List.filter_append, List.length_append, Z4c, ← Zu9 a n]
  cases h : wt a n <;> simp [h]
theorem Zeo (a : Wide) : ∀ (n : Nat) (i : Int), i ∈ Z4c a n ↔ ∃ k : Nat, i = (k : Int) ∧ k < n ∧ wt a k = true
 | 0, i => by simp [Z4c]
 | n + 1, i => by
  rw [Z4c]
  cases h : wt a n
  ·rw [cond_false, Zeo a n i]
   constructor
   ·rintro ⟨k, rfl, h1, h2⟩; exact ⟨k, rfl, by omega, h2⟩
   ·rintro ⟨k, rfl, h1, h2⟩
    have : k ≠ n := fun e => by rw [e, h] at h2; cases h2
    exact ⟨k, rfl, by omega, h2⟩
  ·rw [cond_true, List.mem_cons, Zeo a n i]
   constructor
   ·rintro (rfl | ⟨k, rfl, h1, h2⟩)
    ·exact ⟨n, rfl, by omega, h⟩
    ·exact ⟨k, rfl, by omega, h2⟩
   ·rintro ⟨k, rfl, h1, h2⟩
    by_cases e : k = n
    ·left; rw [e]
    ·right; exact ⟨k, rfl, by omega, h2⟩
theorem Y5o (a : Wide) : ∀ (n m : Nat) (acc : List Int), n ≤ 128 → n < m → acc.length + (Z4c a n).length = (Z69 a).length → Z7t a m acc ((n : Int) - 1) = some (acc ++ Z4c a n) := by
 have hlim : lim = 4294967296 := rfl
 have hup : (Z69 a).length ≤ 128 := by
  unfold Z69; exact Nat.le_trans (List.length_filter_le ..) (by simp)
 intro n
 induction n with
 | zero =>
  intro m acc h1 h2 h3
  obtain ⟨m, rfl⟩ : ∃ k, m = k + 1 := ⟨m - 1, by omega⟩
  rw [Z7t, decide_eq_false (by omega), Znl, Option.bind_some, Bool.false_and, cond_false]
  simp [Z4c]
 | succ n ih =>
  intro m acc h1 h2 h3
  obtain ⟨m, rfl⟩ : ∃ k, m = k + 1 := ⟨m - 1, by omega⟩
  have e : ((n + 1 : Nat) : Int) - 1 = (n : Int) := by omega
  rw [e, Z7t, decide_eq_true (by omega), Z4p, Y2s, Option.bind_some, Bool.true_and]
  by_cases hc : acc.length < (Z69 a).length
  ·have e2 : IntKind.i64.wrap ((n : Int) - 1) = (n : Int) - 1 := Z30 (by omega) (by omega)
   rw [decide_eq_true (by omega), cond_true, Zsv a n (by omega), Option.bind_some, e2, Z4c]
   rw [Z4c] at h3
   cases hw : wt a n
   ·rw [hw, cond_false] at h3
    rw [cond_false, cond_false, ih m acc (by omega) (by omega) h3]
   ·rw [hw, cond_true, List.length_cons] at h3
    rw [cond_true, cond_true, Z1m (by simp; omega), Option.bind_some, ih m _ (by omega) (by omega) (by simp; omega)]
    simp
  ·rw [decide_eq_false (by omega), cond_false]
   have : Z4c a (n + 1) = [] := List.eq_nil_of_length_eq_zero (by omega)
   rw [this]; simp
end Go.Proofs.YtknpgojdkobgjaaGreat.W
namespace Go.Proofs.YtknpgojdkobgjaaGreat.W
open Go Go.Wb
theorem Y7s (t : Tern) : Z7v t = some (Z0z t) := rfl
theorem Zui (f : Int → Option (Tern × Bool)) (g : Nat → Tern) (hf : ∀ i : Nat, i < 24 → f (i : Int) = some (g i, true)) (b : Cube) : ∀ (m i : Nat), i + m = 24 → Z55 f m i (Z2w g b i) = some (Vector.ofFn (fun i => g i.1), true)
 | 0, i, h => by
  have : i = 24 := by omega
  subst this
  rw [Z55, Z96]
 | m + 1, i, h => by
  rw [Z55, hf i (by omega), Option.bind_some, Bool.not_true, cond_false, Z29 (by omega), Option.bind_some]
  show Z55 f m (i + 1) (Vector.set (Z2w g b i) i (g i) _) = _
  rw [Z7u g b i (by omega), Zui f g hf b m (i + 1) (by omega)]
theorem Zuj (c : Cube) : Zef c = some (Z1e c) := by
 unfold Zef Zd1
 have := Zui (fun x => Zei x c) (fun i => Z0z (ve c i)) (fun i hi => by unfold Zei; rw [Z29 hi, Option.bind_some, Z2u, Zng]; rfl) (Vector.replicate 24 zTern) 24 0 rfl
 rw [Z97] at this
 rw [show ((24 : Int)).toNat = 24 from rfl, this]
 rfl
theorem Zxy (c : Cube) : ∀ (m i : Nat), i ≤ 24 → 24 < i + m → Z8w m (Z2w (fun i => Z0z (ve c i)) c i) (i : Int) = some (Z1e c)
 | 0, i, h1, h2 => by omega
 | m + 1, i, h1, h2 => by
  rw [Z8w]
  by_cases h : i < 24
  ·have e : IntKind.i64.wrap ((i : Int) + 1) = ((i + 1 : Nat) : Int) := by rw [Z30 (by omega) (by omega)]; omega
   rw [decide_eq_true (by omega), cond_true, Z29 h, Option.bind_some, Y7s, Option.bind_some, Option.bind_some, Z2u, Zci _ _ _ _ h, if_neg (by omega), e]
   show Z8w m (Vector.set (Z2w (fun i => Z0z (ve c i)) c i) i (Z0z (ve c i)) _) _ = _
   rw [Z7u (fun i => Z0z (ve c i)) c i h, Zxy c m (i + 1) (by omega) (by omega)]
  ·have : i = 24 := by omega
   subst this
   rw [decide_eq_false (by omega), cond_false, Z96]; rfl
theorem Y3y (c : Cube) : Zhw c = some (Z1e c) := by
 unfold Zhw
 have := Zxy c (((24 : Int) - 0).toNat + 1) 0 (by omega) (by decide)
 rw [Z97] at this
 exact this
def Y3q (x y : Tern) : Bool := !Z3c (Z2c (Z2c x.Mask y.Mask) (Z6p x.Value y.Value))
def apart (a b : Atom) : Bool := !(a.Group == b.Group) || decide (a.Port ≠ b.Port) || decide (a.Max ≠ b.Max) || (List.range' 0 24).any fun f => Y3q (ve a.Rewrite f) (ve b.Rewrite f)
def Z4i (t : Tern) (i : Nat) (on : Bool) : Tern := bif on then ⟨wor (Z3r (Z0z t).Value (Z43 i)) (Z43 i), wor (Z0z t).Mask (Z43 i)⟩ else ⟨Z3r (Z0z t).Value (Z43 i), wor (Z0z t).Mask (Z43 i)⟩
theorem Zxj (t : Tern) (i : Nat) (h : i < 128) (on : Bool) : Zga t (i : Int) on = some (Z4i t i on) := by
 unfold Zga
 rw [Zpt i h, Option.bind_some, Zng, Option.bind_some, Zy5, Option.bind_some, Zrl, Option.bind_some]
 cases on
 ·rfl
 ·rw [cond_true, Zy5]; rfl
def Y5f (c : Cube) (f bit : Nat) (on : Bool) : Option Cube :=
 bif wt (ve c f).Mask bit && (wt (ve c f).Value bit == on) then none else some (Vector.ofFn fun k => if f = k.1 then Z4i (ve c f) bit (!on) else ve c k.1)
theorem Yf4 (c : Cube) (f : Nat) (hf : f < 24) (t : Tern) : Vector.set c f t hf = Vector.ofFn fun k => if f = k.1 then t else ve c k.1 := Zaw fun j hj => by
 rw [Zh3 _ _ _ _ _ hj, Z90 (fun k => if f = k then t else ve c k) j hj]
def sgl (x y : Tern) (k : Nat) : Bool × Bool := bif wt x.Mask k == wt y.Mask k then (false, false) else (true, bif wt x.Mask k then wt x.Value k else wt y.Value k)
def rp (c : Cube) (x y : Tern) (f k : Nat) : Option Cube := bif (sgl x y k).1 then Y5f c f k (sgl x y k).2 else none
def Z4k (t : Tern) (v : Wide) : Bool := Z3c (Z2c (Z6p t.Value v) t.Mask)
theorem Z9y (t : Tern) (v : Wide) : Z4k t v = true ↔ ∀ k, k < 128 → wt t.Mask k = true → wt t.Value k = wt v k := by
 unfold Z4k
 rw [Zdv]
 constructor
 ·intro h k hk hm
  have := h k hk
  rw [Z5b, Zl9, hm] at this
  revert this
  cases wt t.Value k <;> cases wt v k <;> decide
 ·intro h k hk
  rw [Z5b, Zl9]
  cases hm : wt t.Mask k
  ·simp
  ·rw [h k hk hm]; simp
theorem Y0a (t : Tern) (v : Wide) : Zf6 t v = some (Z4k t v) := rfl
def Z26 (c : Cube) (h : Header) : Bool := (List.range' 0 24).all fun f => Z4k (ve c f) (ve h f)
theorem Zt2 (c : Cube) (h : Header) : ∀ (l : List Tern) (i : Nat), i + l.length = 24 → l = (Vector.toList c).drop i → Z78 h l i = some ((List.range' i l.length).all fun f => Z4k (ve c f) (ve h f))
 | [], i, h1, h2 => by rw [Z78]; rfl
 | x :: l, i, h1, h2 => by
  simp only [List.length_cons] at h1
  have hi : i < (Vector.toList c).length := by simp; omega
  rw [List.drop_eq_getElem_cons hi] at h2
  obtain ⟨rfl, h3⟩ := List.cons.inj h2
  have hx : (Vector.toList c)[i] = ve c i := by rw [Vector.getElem_toList, Z61 _ _ (by omega)]
  rw [Z78, Z29 (by omega), Option.bind_some, Z2u, Y0a, Option.bind_some, Zt2 c h l (i + 1) (by omega) h3, List.length_cons, List.range'_succ, List.all_cons, hx]
  cases Z4k (ve c i) (ve h i) <;> rfl
theorem Y2c (c : Cube) (h : Header) : Zgf c h = some (Z26 c h) := by
 unfold Zgf Z26
 have := Zt2 c h (Vector.toList c) 0 (by simp) rfl
 rw [this]
 simp
theorem Zb4 (c : Cube) (h : Header) : Z26 c h = true ↔ ∀ f, f < 24 → Z4k (ve c f) (ve h f) = true := by
 unfold Z26
 rw [List.all_eq_true]
 constructor
 ·intro hh f hf
  exact hh f (by rw [List.mem_range'_1]; omega)
 ·intro hh f hf
  exact hh f (by have := (List.mem_range'_1.1 hf).2; omega)
theorem Y03 (t : Tern) (v : Wide) : Z4k (Z0z t) v = Z4k t v := by
 rw [Bool.eq_iff_iff, Z9y, Z9y]
 unfold Z0z
 constructor
 ·intro h k hk hm
  have := h k hk hm
  rw [Z5b, hm, Bool.and_true] at this
  exact this
 ·intro h k hk hm
  have hm' : wt t.Mask k = true := hm
  rw [Z5b, hm', Bool.and_true]
  exact h k hk hm'
theorem Yc6 (c : Cube) (h : Header) : Z26 (Z1e c) h = Z26 c h := by
 rw [Bool.eq_iff_iff, Zb4, Zb4]
 constructor
 ·intro hh f hf
  have := hh f hf
  rwa [Zcp _ _ hf, Y03] at this
 ·intro hh f hf
  rw [Zcp _ _ hf, Y03]
  exact hh f hf
theorem Yad (t : Tern) (i : Nat) (hi : i < 128) (on : Bool) (v : Wide) : Z4k (Z4i t i on) v = true ↔ (∀ k, k < 128 → k ≠ i → wt t.Mask k = true → wt t.Value k = wt v k) ∧ wt v i = on := by
 have hm : ∀ k, k < 128 → wt (Z4i t i on).Mask k = (wt t.Mask k || decide (i = k)) := fun k hk => by
  unfold Z4i Z0z
  cases on <;> simp only [cond_true, cond_false, Zes, Zen i k hi hk]
 have hv : ∀ k, k < 128 → wt (Z4i t i on).Value k = if i = k then on else (wt t.Value k && wt t.Mask k) := fun k hk => by
  unfold Z4i Z0z
  by_cases e : i = k
  ·subst e
   cases on <;> simp [cond_true, cond_false, Zes, Zip _ _ _ hk, Z5b, Zen i i hi hi]
  ·cases on <;> simp [cond_true, cond_false, Zes, Zip _ _ _ hk, Z5b, Zen i k hi hk, e]
 rw [Z9y]
 constructor
 ·intro h
  refine ⟨fun k hk hne hmk => ?_, ?_⟩
  ·have := h k hk (by rw [hm k hk, hmk]; rfl)
   rw [hv k hk, if_neg (fun e => hne e.symm), hmk, Bool.and_true] at this
   exact this
  ·have := h i hi (by rw [hm i hi]; simp)
   rw [hv i hi, if_pos rfl] at this
   exact this.symm
 ·rintro ⟨h1, h2⟩ k hk hmk
  rw [hv k hk]
  by_cases e : i = k
  ·subst e; rw [if_pos rfl, h2]
  ·rw [if_neg e]
   rw [hm k hk] at hmk
   have hmk' : wt t.Mask k = true := by simpa [e] using hmk
   rw [hmk', Bool.and_true]
   exact h1 k hk (fun e' => e e'.symm) hmk'
end Go.Proofs.YtknpgojdkobgjaaGreat.W
namespace Go.Proofs.YtknpgojdkobgjaaGreat.W
open Go Go.Wb
theorem Y8y (s : List Rule) (f : Rule → Option Bool) (p : Rule → Bool) (hf : ∀ x ∈ s, f x = some (p x)) : Zgg s f = some (Z0b p s) := by
 unfold Zgg
 rw [show ((s.length : Int)).toNat = s.length by omega]
 exact Zcg p (fun i => by rw [Z8x]) (fun m i => by rw [Z8x]) hf
def Zkc (h : Header) (r : Rule) : Bool := Z26 r.Cube h
end Go.Proofs.YtknpgojdkobgjaaGreat.W
namespace Go.Proofs.YtknpgojdkobgjaaGreat.W
open Go Go.Wb
theorem Zzq (k : Int) : -1 ≤ Z3h k ∧ Z3h k ≤ 4 := by
 unfold Z3h
 have h1 := Zd9 (fun x => decide (k = x)) [18, 17, 25, 22, 0]
 have h2 := Zjf (fun x => decide (k = x)) [18, 17, 25, 22, 0]
 simp only [List.length_cons, List.length_nil] at h2
 omega
theorem Zki (a b : Action) : ltA a b = decide (Z3h (Z0c a).kind < Z3h (Z0c b).kind ∨ (Z3h (Z0c a).kind = Z3h (Z0c b).kind ∧ (Z0c a).field < (Z0c b).field)) := by
 have h1 := Zzq (Z0c a).kind
 have h2 := Zzq (Z0c b).kind
 unfold ltA Zaz
 rw [wr (by omega) (by omega)]
 generalize Z3h (Z0c a).kind = x at *
 generalize Z3h (Z0c b).kind = y at *
 generalize (Z0c a).field = f at *
 generalize (Z0c b).field = g at *
 by_cases e : x - y = 0
 ·have e1 : decide (x - y ≠ 0) = false := decide_eq_false (by omega)
  rw [e1, cond_false]
  by_cases h3 : f < g
  ·have e2 : decide (f < g) = true := decide_eq_true h3
   rw [e2, cond_true]
   simp; omega
  ·have e2 : decide (f < g) = false := decide_eq_false h3
   rw [e2, cond_false]
   by_cases h4 : f > g
   ·have e3 : decide (f > g) = true := decide_eq_true h4
    rw [e3, cond_true]
    simp; omega
   ·have e3 : decide (f > g) = false := decide_eq_false h4
    rw [e3, cond_false]
    simp; omega
 ·have e1 : decide (x - y ≠ 0) = true := decide_eq_true (by omega)
  rw [e1, cond_true, decide_eq_decide]
  omega
theorem Y0q : Swo ltA where
 asym := fun a b h => by
  rw [Zki, decide_eq_true_eq] at h
  rw [Zki, decide_eq_false_iff_not]
  omega
 neg := fun a b c h k => by
  rw [Zki, decide_eq_false_iff_not] at h k
  rw [Zki, decide_eq_false_iff_not]
  omega
theorem Ygm : Z5e ltA Zfn := fun x y => ⟨Zaz x y, Y6z x y, rfl⟩
theorem Y2o (s : List Action) (h : s.length ≤ 100000) : Zcz s = some (Z98 s) := by
 have hlim : lim = 4294967296 := rfl
 unfold Zcz Z6l Z98
 rw [Y8o s Zmh (fun a => decide (a.Kind = 22)) (fun _ _ => rfl), Option.bind_some, Z1m (by simp; omega), Option.bind_some, List.nil_append]
 have hf : ∀ a : Action, Zdc a (s.any fun a => decide (a.Kind = 22)) = some (!Z5o (s.any fun a => decide (a.Kind = 22)) a) := fun a => by
  unfold Zdc Z5o
  rw [Zo9, Option.bind_some, Bool.not_not]
 rw [Ygq s _ (fun a => !Z5o (s.any fun a => decide (a.Kind = 22)) a) (fun a _ => hf a) (by omega), Option.bind_some]
 simp only [Bool.not_not]
 rw [Yf7 Y0q Ygm _ (Nat.le_trans (List.length_filter_le ..) h)]
 rfl
theorem Zoy (s : List Action) : (Z98 s).length ≤ s.length := by
 unfold Z98
 rw [Z2v Y0q]
 exact List.length_filter_le ..
def Z2r (a b : Tern) : Option Tern := bif Z3c (Z2c (Z6p a.Value b.Value) (Z2c a.Mask b.Mask)) then some ⟨wor (Z0z a).Value (Z0z b).Value, wor a.Mask b.Mask⟩ else none
def Z1z {α : Type} (z : α) : Option α → α × Bool
 | some a => (a, true)
 | none => (z, false)
theorem Zz6 (a b : Tern) : Zdy a b = some (Z1z zTern (Z2r a b)) := by
 have h : Zdy a b = bif !(Z3c (Z2c (Z6p a.Value b.Value) (Z2c a.Mask b.Mask))) then some (zTern, false) else some (⟨wor (Z0z a).Value (Z0z b).Value, wor a.Mask b.Mask⟩, true) := rfl
 rw [h]
 unfold Z2r
 cases Z3c (Z2c (Z6p a.Value b.Value) (Z2c a.Mask b.Mask)) <;> rfl
def Z5c (g : Nat → Option Tern) : Option Cube := bif (List.range 24).all (fun i => (g i).isSome) then some (Vector.ofFn fun i => (g i.1).getD zTern) else none
theorem Y1l {g : Nat → Option Tern} {c : Cube} (h : Z5c g = some c) (i : Nat) (hi : i < 24) : g i = some (ve c i) := by
 unfold Z5c at h
 cases ha : (List.range 24).all (fun i => (g i).isSome)
 ·rw [ha] at h; cases h
 ·rw [ha, cond_true] at h
  rw [List.all_eq_true] at ha
  have h1 := ha i (by simpa using hi)
  obtain ⟨x, hx⟩ := Option.isSome_iff_exists.1 h1
  rw [← Option.some.inj h, Z90 (fun i => (g i).getD zTern) i hi, hx]; rfl
theorem Zvi {g : Nat → Option Tern} (h : Z5c g = none) : ∃ i, i < 24 ∧ g i = none := by
 unfold Z5c at h
 cases ha : (List.range 24).all (fun i => (g i).isSome)
 ·rw [List.all_eq_false] at ha
  obtain ⟨i, hi, h1⟩ := ha
  exact ⟨i, by simpa using hi, by simpa using h1⟩
 ·rw [ha] at h; cases h
theorem Y6d {g : Nat → Option Tern} {c : Cube} (h : ∀ i, i < 24 → g i = some (ve c i)) : Z5c g = some c := by
 cases hc : Z5c g with
 | none => obtain ⟨i, hi, h1⟩ := Zvi hc; rw [h i hi] at h1; cases h1
 | some d =>
  congr 1
  refine Zaw fun i hi => ?_
  have := Y1l hc i hi
  rw [h i hi] at this
  exact (Option.some.inj this).symm
theorem Zx6 {g : Nat → Option Tern} (i : Nat) (hi : i < 24) (h : g i = none) : Z5c g = none := by
 cases hc : Z5c g with
 | none => rfl
 | some c => have := Y1l hc i hi; rw [h] at this; cases this
theorem Zxp (f : Int → Option (Tern × Bool)) (g : Nat → Option Tern) (hf : ∀ i : Nat, i < 24 → f (i : Int) = some (Z1z zTern (g i))) : ∀ (m i : Nat) (b : Cube), i + m = 24 → (∀ j, j < i → g j = some (ve b j)) →
  Z55 f m i b = some (Z1z Z2f (Z5c g))
 | 0, i, b, h, hb => by
  rw [Z55, Y6d (c := b) (fun j hj => hb j (by omega))]; rfl
 | m + 1, i, b, h, hb => by
  rw [Z55, hf i (by omega), Option.bind_some]
  cases hg : g i with
  | none =>
   rw [Zx6 i (by omega) hg]; rfl
  | some t =>
   show (chk 24 (i : Int)).bind _ = _
   rw [Z29 (by omega), Option.bind_some]
   refine Zxp f g hf m (i + 1) _ (by omega) fun j hj => ?_
   rw [Zh3 _ _ _ _ _ (by omega)]
   by_cases e : i = j
   ·subst e; rw [if_pos rfl, hg]; rfl
   ·rw [if_neg e]; exact hb j (by omega)
theorem Yea (f : Int → Option (Tern × Bool)) (g : Nat → Option Tern) (hf : ∀ i : Nat, i < 24 → f (i : Int) = some (Z1z zTern (g i))) : Zd1 f = some (Z1z Z2f (Z5c g)) := by
 unfold Zd1
 exact Zxp f g hf 24 0 _ rfl fun j hj => by omega
def Z3y (a b : Cube) : Option Cube := Z5c fun i => Z2r (ve a i) (ve b i)
theorem Zpd (a b : Cube) : Zaj a b = some (Z1z Z2f (Z3y a b)) := by
 unfold Zaj
 rw [Yea _ (fun i => Z2r (ve a i) (ve b i)) (fun i hi => by unfold Zhh; rw [Z29 hi, Option.bind_some, Option.bind_some, Z2u, Z2u, Zz6]; rfl)]
 rfl
def Z5h (r c : Cube) : Option Cube := bif (List.range 24).all (fun i => (Z2r (ve r i) (ve c i)).isSome) then some (Vector.ofFn fun i => Z0z ⟨(ve c i.1).Value, Z3r (ve c i.1).Mask (ve r i.1).Mask⟩) else none
theorem Zvk (f : Int → Option Tern) (g : Nat → Tern) (hf : ∀ i : Nat, i < 24 → f (i : Int) = some (g i)) (b : Cube) : ∀ (m i : Nat), i + m = 24 → Z6r f m i (Z2w g b i) = some (Vector.ofFn (fun i => g i.1))
 | 0, i, h => by
  have : i = 24 := by omega
  subst this
  rw [Z6r, Z96]
 | m + 1, i, h => by
  rw [Z6r, hf i (by omega), Option.bind_some, Z29 (by omega), Option.bind_some]
  show Z6r f m (i + 1) (Vector.set (Z2w g b i) i (g i) _) = _
  rw [Z7u g b i (by omega), Zvk f g hf b m (i + 1) (by omega)]
theorem Yh2 (f : Int → Option Tern) (g : Nat → Tern) (hf : ∀ i : Nat, i < 24 → f (i : Int) = some (g i)) : Zjy f = some (Vector.ofFn (fun i => g i.1)) := by
 unfold Zjy
 have := Zvk f g hf (Vector.replicate 24 zTern) 24 0 rfl
 rw [Z97] at this
 exact this
theorem Zws (r c : Cube) : ∀ (l : List Tern) (i : Nat), i + l.length = 24 → l = (Vector.toList r).drop i → (∀ j, j < i → (Z2r (ve r j) (ve c j)).isSome = true) → Z6y c r l i = some (Z1z Z2f (Z5h r c))
 | [], i, h1, h2, h3 => by
  have hi : i = 24 := by simpa using h1
  subst hi
  have hall : (List.range 24).all (fun i => (Z2r (ve r i) (ve c i)).isSome) = true := by
   rw [List.all_eq_true]; intro i hi; exact h3 i (by simpa using hi)
  unfold Z5h
  rw [hall, cond_true, Z6y, Yh2 _ (fun i => Z0z ⟨(ve c i).Value, Z3r (ve c i).Mask (ve r i).Mask⟩) (fun i hi => by
   unfold Zik
   rw [Z29 hi, Option.bind_some, Option.bind_some, Option.bind_some, Z2u, Z2u]; rfl)]
  rfl
 | x :: l, i, h1, h2, h3 => by
  simp only [List.length_cons] at h1
  have hi : i < (Vector.toList r).length := by simp; omega
  rw [List.drop_eq_getElem_cons hi] at h2
  obtain ⟨rfl, h4⟩ := List.cons.inj h2
  have hx : (Vector.toList r)[i] = ve r i := by rw [Vector.getElem_toList, Z61 _ _ (by omega)]
  rw [Z6y, hx, Z29 (by omega), Option.bind_some, Z2u, Zz6, Option.bind_some]
  cases hm : Z2r (ve r i) (ve c i) with
  | none =>
   have hall : (List.range 24).all (fun i => (Z2r (ve r i) (ve c i)).isSome) = false := by
    rw [List.all_eq_false]
    exact ⟨i, by simp; omega, by simp [hm]⟩
   unfold Z5h
   rw [hall]; rfl
  | some t =>
   exact Zws r c l (i + 1) (by omega) h4 fun j hj => by
    by_cases e : j = i
    ·subst e; rw [hm]; rfl
    ·exact h3 j (by omega)
theorem Ybp (r c : Cube) : Zj4 r c = some (Z1z Z2f (Z5h r c)) := by
 unfold Zj4
 exact Zws r c (Vector.toList r) 0 (by simp) rfl fun j hj => by omega
def Zbm (c : Cube) (o : Oxm) : Cube := if h : 0 ≤ o.Field ∧ o.Field.toNat < 24 then Vector.set c o.Field.toNat (oxT o) h.2 else c
theorem Ztk (c : Cube) (o : Oxm) (n : Nat) (hn : o.Field = (n : Int)) (h : n < 24) : Zbm c o = Vector.set c n (oxT o) h := by
 unfold Zbm
 rw [dif_pos (by omega)]
 simp [hn]
theorem Y0y (c : Cube) (o : Oxm) (h : ¬ (0 ≤ o.Field ∧ o.Field < 24)) : Zbm c o = c := by
 unfold Zbm
 rw [dif_neg (by omega)]
theorem Zrq : ∀ (l : List Oxm) (i : Nat) (c : Cube), Z7m l i c = some (l.foldl Zbm c)
 | [], i, c => rfl
 | o :: l, i, c => by
  rw [Z7m, List.foldl_cons]
  unfold Z72
  rw [Option.bind_some]
  by_cases h : 0 ≤ o.Field ∧ o.Field < 24
  ·obtain ⟨n, hn⟩ : ∃ n : Nat, o.Field = (n : Int) := ⟨o.Field.toNat, by omega⟩
   have hn24 : n < 24 := by have := h.2; omega
   have hd : (decide (o.Field ≥ 0) && decide (o.Field < 24)) = true := by simp; omega
   have hc : chk 24 o.Field = some ⟨n, hn24⟩ := by rw [hn]; exact Z29 hn24
   rw [hd, cond_true, Zus, Option.bind_some, hc, Option.bind_some, Ztk c o n hn hn24, Zrq l (i + 1)]
  ·have hd : (decide (o.Field ≥ 0) && decide (o.Field < 24)) = false := by
    rw [Bool.and_eq_false_iff, decide_eq_false_iff_not, decide_eq_false_iff_not]; omega
   rw [hd, cond_false, Y0y c o h, Zrq l (i + 1)]
def Y77 (l : List Oxm) : Cube := l.foldl Zbm Z2f
def Zgd (f : Flow) : Cube := Z1e (Y77 f.Match)
theorem Yem (f : Flow) : Zhg f = some (Zgd f) := by
 unfold Zhg Zln Zg2
 rw [Option.bind_some, Zrq, Option.bind_some, Zuj]; rfl
def ofI (l : List Inst) (k : Int) : Option Inst := l.find? fun i => decide (i.Kind = k)
theorem Zso (s : List Inst) (f : Inst → Option Bool) (p : Inst → Bool) (hf : ∀ x ∈ s, f x = some (p x)) : Zfw s f = some (Z0b p s) := by
 unfold Zfw
 rw [show ((s.length : Int)).toNat = s.length by omega]
 exact Zcg p (fun i => by rw [Z8g]) (fun m i => by rw [Z8g]) hf
def Zoz : Inst := ⟨0, 0, Z0a, Z0a, []⟩
theorem Zjm (l : List Inst) (k : Int) (hl : ∀ i ∈ l, i.Acts.length ≤ 12) : Z8q l k = some (Z1z Zoz (ofI l k)) := by
 have hlim : lim = 4294967296 := rfl
 unfold Z8q ofI
 rw [Zso l (fun x => Zjg x k) (fun i => decide (i.Kind = k)) (fun _ _ => rfl), Option.bind_some]
 rcases Zo0 (fun i : Inst => decide (i.Kind = k)) l with ⟨h1, h2⟩ | ⟨n, h1, h2, h3, h4⟩
 ·rw [decide_eq_true h1, cond_true, h2]; rfl
 ·have := hl _ (List.getElem_mem h2)
  rw [decide_eq_false (by omega), cond_false, h1, Z21 h2, Option.bind_some, h3]
  unfold Z6l
  rw [Z1m (by simp; omega), Option.bind_some]
  rfl
theorem Zeq {l : List Inst} {k : Int} {i : Inst} (h : ofI l k = some i) : i ∈ l := List.mem_of_find?_eq_some h
end Go.Proofs.YtknpgojdkobgjaaGreat.W
namespace Go.Proofs.YtknpgojdkobgjaaGreat.W
open Go Go.Wb
theorem Y1t {a : Wide} (h : Z3c a = false) : ∃ k, k < 128 ∧ wt a k = true := by
 by_cases hx : ∃ k, k < 128 ∧ wt a k = true
 ·exact hx
 ·exfalso
  have : Z3c a = true := (Zdv a).2 fun k hk => by
   cases hq : wt a k
   ·rfl
   ·exact absurd ⟨k, hk, hq⟩ hx
  rw [this] at h; cases h
theorem Ycn {a b : Tern} (h : Z2r a b = none) (v : Wide) (ha : Z4k a v = true) (hb : Z4k b v = true) : False := by
 unfold Z2r at h
 cases hz : Z3c (Z2c (Z6p a.Value b.Value) (Z2c a.Mask b.Mask))
 ·obtain ⟨k, hk, h1⟩ := Y1t hz
  have h2 := (Z9y a v).1 ha k hk
  have h3 := (Z9y b v).1 hb k hk
  simp only [Z5b, Zl9] at h1
  revert h1 h2 h3
  cases wt a.Mask k <;> cases wt b.Mask k <;> cases wt a.Value k <;> cases wt b.Value k <;> cases wt v k <;> simp
 ·rw [hz] at h; cases h
theorem Y7t {a b : Cube} (h : Z3y a b = none) (v : Header) (ha : Z26 a v = true) (hb : Z26 b v = true) : False := by
 unfold Z3y at h
 obtain ⟨f, hf, h1⟩ := Zvi h
 exact Ycn h1 (ve v f) ((Zb4 _ _).1 ha f hf) ((Zb4 _ _).1 hb f hf)
end Go.Proofs.YtknpgojdkobgjaaGreat.W
namespace Go.Proofs.YtknpgojdkobgjaaGreat.W
open Go Go.Wb
def Zcd (x a : Tern) : List Int := Z4c (Z3r x.Mask a.Mask) 128
theorem Yfk (a x : Tern) : Zgq a x = some (Zcd x a) := by
 unfold Zgq Zcd
 rw [Zrl, Option.bind_some]
 have := Y5o (Z3r x.Mask a.Mask) 128 Z0y [] (by omega) (by unfold Z0y; omega) (by rw [Zu9]; simp [Z69])
 simpa using this
def Z8y (c : Cube) (f : Nat) (t : Tern) : Cube := Vector.ofFn fun k => if f = k.1 then t else ve c k.1
theorem Zwj (c : Cube) (f : Nat) (hf : f < 24) (t : Tern) : Vector.set c f t hf = Z8y c f t := Yf4 c f hf t
theorem Zm9 (c : Cube) (f : Nat) (t : Tern) (g : Nat) (hg : g < 24) : ve (Z8y c f t) g = if f = g then t else ve c g := Z90 (fun k => if f = k then t else ve c k) g hg
def Z6m (xv : Wide) (f : Nat) : List Int → Cube → List Cube × Cube
 | [], left => ([], left)
 | i :: l, left => (Z8y left f (Z4i (ve left f) i.toNat (!wt xv i.toNat)) :: (Z6m xv f l (Z8y left f (Z4i (ve left f) i.toNat (wt xv i.toNat)))).1, (Z6m xv f l (Z8y left f (Z4i (ve left f) i.toNat (wt xv i.toNat)))).2)
def Zc7 (x : Cube) : Nat → Nat → Cube → List Cube
 | 0, f, left => []
 | m + 1, f, left => (Z6m (ve x f).Value f (Zcd (ve x f) (ve left f)) left).1 ++ Zc7 x m (f + 1) (Z6m (ve x f).Value f (Zcd (ve x f) (ve left f)) left).2
def Z3v (a x : Cube) : Bool := (Z3y a x).isSome
def Z93 (a x : Cube) : List Cube := bif Z3v a x then Zc7 x 24 0 (Z1e a) else [Z1e a]
def Zoh (l : List Int) : Prop := ∀ i ∈ l, ∃ k : Nat, i = (k : Int) ∧ k < 128
theorem Zwg (x a : Tern) : Zoh (Zcd x a) := fun i hi => by
 obtain ⟨k, h1, h2, _⟩ := (Zeo _ _ _).1 hi
 exact ⟨k, h1, h2⟩
theorem Zv2 (sg : Type) (y : sg → Cube → Option (Lp sg)) (go : Nat → Cube → Lp sg → Option (Lp sg)) (f : Nat) (hf : f < 24) (x : Tern) : ∀ (l : List Int) (k : Nat) (left : Cube) (s : sg), Zoh l →
  Z7y sg go f x y l k left (.go s) = (yf y (Z6m x.Value f l left).1 s).bind fun r => match r with
   | .go s' => go (f + 1) (Z6m x.Value f l left).2 (.go s')
   | .out c s' => some (.out c s')
 | [], k, left, s, _ => rfl
 | i :: l, k, left, s, hl => by
  obtain ⟨b, rfl, hb⟩ := hl i (by simp)
  have ih := fun left s => Zv2 sg y go f hf x l (k + 1) left s fun j hj => hl j (by simp [hj])
  rw [Z7y, Zsv _ b hb, Option.bind_some, Z29 hf, Option.bind_some, Z2u, Zxj _ b hb, Option.bind_some, Option.bind_some, Zwj]
  rw [Z6m, Int.toNat_natCast, yf]
  show (y s _).bind _ = _
  cases y s (Z8y left f (Z4i (ve left f) b (!wt x.Value b))) with
  | none => rfl
  | some r =>
   cases r with
   | out c q => rfl
   | go q =>
    simp only [Option.bind_some, Lp.isGo, Bool.not_true, cond_false]
    rw [Z2u, Zxj _ b hb, Option.bind_some, Zwj, ih]
theorem Zxw (sg : Type) (y : sg → Cube → Option (Lp sg)) (x : Cube) : ∀ (l : List Tern) (f : Nat) (left : Cube) (s : sg), f + l.length = 24 → l = (Vector.toList x).drop f →
  Z7j sg y l f left (.go s) = yf y (Zc7 x l.length f left) s
 | [], f, left, s, h1, h2 => rfl
 | t :: l, f, left, s, h1, h2 => by
  simp only [List.length_cons] at h1
  have hi : f < (Vector.toList x).length := by simp; omega
  rw [List.drop_eq_getElem_cons hi] at h2
  obtain ⟨rfl, h3⟩ := List.cons.inj h2
  have hx : (Vector.toList x)[f] = ve x f := by rw [Vector.getElem_toList, Z61 _ _ (by omega)]
  have ih := fun left s => Zxw sg y x l (f + 1) left s (by omega) h3
  rw [Z7j, Z29 (by omega), Option.bind_some, Z2u, hx, Yfk, Option.bind_some, List.length_cons, Zc7, Zs7]
  cases hb : Zcd (ve x f) (ve left f) with
  | nil =>
   rw [decide_eq_true (by simp), cond_true, ih]
   rfl
  | cons i bl =>
   rw [decide_eq_false (by simp; omega), cond_false, Zv2 sg y _ f (by omega) (ve x f) _ 0 left s (by rw [← hb]; exact Zwg _ _)]
   cases yf y (Z6m (ve x f).Value f (i :: bl) left).1 s with
   | none => rfl
   | some r =>
    cases r with
    | out c q => rfl
    | go q => exact ih _ q
theorem Ya0 (sg : Type) (y : sg → Cube → Option (Lp sg)) (a x : Cube) (s : sg) : Zao sg y (.go s) a x = yf y (Z93 a x) s := by
 unfold Zao Z93 Z3v
 rw [Zuj, Option.bind_some, Zpd, Option.bind_some]
 cases Z3y a x with
 | none =>
  show (bif (!false) then _ else _) = yf y [Z1e a] s
  rw [Bool.not_false, cond_true, yf]
  show (y s (Z1e a)).bind _ = _
  cases y s (Z1e a) with
  | none => rfl
  | some r => cases r <;> rfl
 | some z =>
  show (bif (!true) then _ else _) = yf y (Zc7 x 24 0 (Z1e a)) s
  rw [Bool.not_true, cond_false]
  have := Zxw sg y x (Vector.toList x) 0 (Z1e a) s (by simp) rfl
  rw [this]; simp
theorem Ya4 (a x : Cube) : Z3v a x = (List.range' 0 24).all fun f => (Z2r (ve a f) (ve x f)).isSome := by
 unfold Z3v Z3y Z5c
 rw [List.range_eq_range']
 cases (List.range' 0 24).all fun f => (Z2r (ve a f) (ve x f)).isSome <;> rfl
end Go.Proofs.YtknpgojdkobgjaaGreat.W
namespace Go.Proofs.YtknpgojdkobgjaaGreat.W
open Go Go.Wb
def Zdt (a b : Tern) : Bool := Z3c (Z3r b.Mask a.Mask) && Z4k b a.Value
theorem Y37 (a b : Tern) : Zk4 a b = some (Zdt a b) := by
 unfold Zk4 Zdt
 rw [Zrl, Option.bind_some, Zwl, Option.bind_some, Y0a]
 cases Z3c (Z3r b.Mask a.Mask) <;> rfl
def Z5i (a b : Cube) : Bool := (List.range' 0 24).all fun f => Zdt (ve a f) (ve b f)
theorem Zzr (a b : Cube) : ∀ (l : List Tern) (i : Nat), i + l.length = 24 → l = (Vector.toList a).drop i → Z7q b l i = some ((List.range' i l.length).all fun f => Zdt (ve a f) (ve b f))
 | [], i, h1, h2 => by rw [Z7q]; rfl
 | x :: l, i, h1, h2 => by
  simp only [List.length_cons] at h1
  have hi : i < (Vector.toList a).length := by simp; omega
  rw [List.drop_eq_getElem_cons hi] at h2
  obtain ⟨rfl, h3⟩ := List.cons.inj h2
  have hx : (Vector.toList a)[i] = ve a i := by rw [Vector.getElem_toList, Z61 _ _ (by omega)]
  rw [Z7q, Z29 (by omega), Option.bind_some, Z2u, Y37, Option.bind_some, Zzr a b l (i + 1) (by omega) h3, List.length_cons, List.range'_succ, List.all_cons, hx]
  cases Zdt (ve a i) (ve b i) <;> rfl
theorem Y4k (a b : Cube) : Zhc a b = some (Z5i a b) := by
 unfold Zhc Z5i
 have := Zzr a b (Vector.toList a) 0 (by simp) rfl
 rw [this]; simp
theorem Y5a {a b : Cube} (h : Z5i a b = true) : Z3v a b = true := by
 rw [Ya4]
 unfold Z5i at h
 rw [List.all_eq_true] at h ⊢
 intro f hf
 have h1 := h f hf
 unfold Zdt at h1
 rw [Bool.and_eq_true] at h1
 have h2 := (Z9y _ _).1 h1.2
 unfold Z2r
 have : Z3c (Z2c (Z6p (ve a f).Value (ve b f).Value) (Z2c (ve a f).Mask (ve b f).Mask)) = true := (Zdv _).2 fun k hk => by
  have h3 := h2 k hk
  simp only [Z5b, Zl9]
  revert h3
  cases wt (ve b f).Mask k <;> cases wt (ve a f).Mask k <;> cases wt (ve a f).Value k <;> cases wt (ve b f).Value k <;> simp
 rw [this]; rfl
def Zil (c : Cube) : Header := Vector.ofFn fun f => (Z0z (ve c f.1)).Value
theorem Zxc (c : Cube) (b : Header) : ∀ (l : List Tern) (i : Nat), i + l.length = 24 → l = (Vector.toList c).drop i → Z65 l i (Z2w (fun f => (Z0z (ve c f)).Value) b i) = some (Zil c)
 | [], i, h1, h2 => by
  have : i = 24 := by simpa using h1
  subst this
  rw [Z65, Z96]; rfl
 | x :: l, i, h1, h2 => by
  simp only [List.length_cons] at h1
  have hi : i < (Vector.toList c).length := by simp; omega
  rw [List.drop_eq_getElem_cons hi] at h2
  obtain ⟨rfl, h3⟩ := List.cons.inj h2
  have hx : (Vector.toList c)[i] = ve c i := by rw [Vector.getElem_toList, Z61 _ _ (by omega)]
  rw [Z65, Zng, Option.bind_some, Z29 (by omega), Option.bind_some, hx]
  show Z65 l (i + 1) (Vector.set (Z2w (fun f => (Z0z (ve c f)).Value) b i) i ((Z0z (ve c i)).Value) _) = _
  rw [Z7u (fun f => (Z0z (ve c f)).Value) b i (by omega), Zxc c b l (i + 1) (by omega) h3]
theorem Y93 (c : Cube) : Zig c = some (Zil c) := by
 unfold Zig
 have := Zxc c (Vector.replicate 24 Z0a) (Vector.toList c) 0 (by simp) rfl
 rw [Z97] at this
 exact this
def Z3i : Header := Vector.replicate 24 Z0a
def Z53 (c : Cube) : List Cube → Nat → Option Nat
 | [], i => none
 | x :: l, i => bif Z3v c x then some i else Z53 c l (i + 1)
def Z3e (R : Cube → Int → Header × Bool × Int) : List Cube → Int → Header × Bool × Int
 | [], n => (Z3i, false, n)
 | p :: ps, n => bif (R p n).2.1 || decide ((R p n).2.2 < 0) then R p n else Z3e R ps (R p n).2.2
def Z41 (free : Bool) : Nat → Cube → List Cube → Int → Header × Bool × Int
 | 0, _, _, _ => (Z3i, false, -1)
 | d + 1, c, l, n => bif !free && decide (n < 1) then (Z3i, false, -1) else
   bif l.any (Z5i c) then (Z3i, false, bif free then n else n - 1) else
    match Z53 c l 0 with
    | none => (Zil c, true, bif free then n else n - 1)
    | some i => match l[i]? with
     | none => (Z3i, false, -1)
     | some x => Z3e (fun p m => Z41 free d p (l.drop (i + 1)) m) (Z93 c x) (bif free then n else n - 1)
theorem Zor (c : Cube) : ∀ (l : List Cube) (k : Nat), match Z53 c l k with
  | none => ∀ x ∈ l, Z3v c x = false
  | some i => ∃ j, i = k + j ∧ ∃ h : j < l.length, Z3v c l[j] = true ∧ ∀ x ∈ l.take j, Z3v c x = false
 | [], k => by simp [Z53]
 | x :: l, k => by
  rw [Z53]
  cases hm : Z3v c x
  ·rw [cond_false]
   have ih := Zor c l (k + 1)
   cases hf : Z53 c l (k + 1) with
   | none =>
    rw [hf] at ih
    intro y hy
    rcases List.mem_cons.1 hy with rfl | hy
    ·exact hm
    ·exact ih y hy
   | some i =>
    rw [hf] at ih
    obtain ⟨j, h1, h2, h3, h4⟩ := ih
    refine ⟨j + 1, by omega, by simpa using h2, by simpa using h3, fun y hy => ?_⟩
    rw [List.take_succ_cons] at hy
    rcases List.mem_cons.1 hy with rfl | hy
    ·exact hm
    ·exact h4 y hy
  ·rw [cond_true]
   exact ⟨0, by omega, by simp, by simpa using hm, by simp⟩
theorem Znt {R : Cube → Int → Header × Bool × Int} (hR : ∀ p m, (R p m).2.1 = false → (R p m).1 = Z3i) : ∀ (ps : List Cube) (n : Int), (Z3e R ps n).2.1 = false → (Z3e R ps n).1 = Z3i
 | [], n, _ => rfl
 | p :: ps, n, h => by
  rw [Z3e] at h ⊢
  cases hc : (R p n).2.1 || decide ((R p n).2.2 < 0)
  ·rw [hc, cond_false] at h
   rw [cond_false]
   exact Znt hR ps _ h
  ·rw [hc, cond_true] at h
   rw [cond_true]
   exact hR _ _ h
theorem Zp4 (free : Bool) : ∀ (d : Nat) (c : Cube) (l : List Cube) (n : Int), (Z41 free d c l n).2.1 = false → (Z41 free d c l n).1 = Z3i
 | 0, c, l, n, _ => rfl
 | d + 1, c, l, n, h => by
  rw [Z41] at h ⊢
  cases h1 : !free && decide (n < 1)
  ·rw [h1, cond_false] at h
   rw [cond_false]
   cases h2 : l.any (Z5i c)
   ·rw [h2, cond_false] at h
    rw [cond_false]
    cases h3 : Z53 c l 0 with
    | none => rw [h3] at h; cases h
    | some i =>
     rw [h3] at h
     simp only at h ⊢
     cases h4 : l[i]? with
     | none => rfl
     | some x =>
      rw [h4] at h
      simp only at h ⊢
      exact Znt (fun p m => Zp4 free d p _ m) _ _ h
   ·rfl
  ·rfl
end Go.Proofs.YtknpgojdkobgjaaGreat.W
namespace Go.Proofs.YtknpgojdkobgjaaGreat.W
open Go Go.Wb
theorem Y1f {α : Type} (z : α) (o : Option α) : (Z1z z o).2 = o.isSome := by cases o <;> rfl
def Za1 (c : Cube) (l : List Cube) (i : Nat) (first : Int) : Int := bif decide (first < 0) then (match Z53 c l i with | none => first | some k => (k : Int)) else first
theorem Zmx (c : Cube) : ∀ (l : List Cube) (i : Nat) (first : Int), ∃ j : Int, Z5v c l i first = some (bif l.any (Z5i c) then (true, j) else (false, Za1 c l i first))
 | [], i, first => by
  refine ⟨0, ?_⟩
  rw [Z5v]
  unfold Za1 Z53
  cases decide (first < 0) <;> rfl
 | x :: l, i, first => by
  rw [Z5v, Zpd, Option.bind_some, Y1f, List.any_cons]
  show ∃ j, (bif !(Z3v c x) then _ else _) = _
  cases hm : Z3v c x
  ·have hw : Z5i c x = false := by
    cases hw : Z5i c x
    ·rfl
    ·rw [Y5a hw] at hm; cases hm
   obtain ⟨j, hj⟩ := Zmx c l (i + 1) first
   refine ⟨j, ?_⟩
   rw [Bool.not_false, cond_true, hw, Bool.false_or, hj]
   unfold Za1
   rw [Z53, hm, cond_false]
  ·rw [Bool.not_true, cond_false, Y4k, Option.bind_some]
   cases hw : Z5i c x
   ·rw [cond_false, Bool.false_or]
    have hf : ∀ f : Int, Za1 c (x :: l) i f = bif decide (f < 0) then (i : Int) else f := fun f => by
     unfold Za1
     rw [Z53, hm, cond_true]
    by_cases h : first < 0
    ·obtain ⟨j, hj⟩ := Zmx c l (i + 1) (i : Int)
     refine ⟨j, ?_⟩
     rw [decide_eq_true h, cond_true, hj, hf, decide_eq_true h, cond_true]
     unfold Za1
     rw [decide_eq_false (by omega), cond_false]
    ·obtain ⟨j, hj⟩ := Zmx c l (i + 1) first
     refine ⟨j, ?_⟩
     rw [decide_eq_false h, cond_false, hj, hf, decide_eq_false h, cond_false]
     unfold Za1
     rw [decide_eq_false h, cond_false]
   ·exact ⟨_, rfl⟩
theorem Y0k {α : Type} (l : List α) (i : Nat) (h : i ≤ l.length) : Z5g l (i : Int) = some (l.drop i) := by
 unfold Z5g
 rw [decide_eq_true (by omega), Int.toNat_natCast, Nat.ble_eq_true_of_le h]; rfl
def cl (n : Int) (free : Bool) : cover_look := ⟨⟨n, free⟩⟩
def Zed (free : Bool) (N : Int) (f : Option (Header × Bool × Bool × cover_look)) (n : Int) (r : Header × Bool × Int) : Prop :=
 ∃ s', f = some (r.1, r.2.1, decide (0 ≤ r.2.2), s') ∧ (0 ≤ r.2.2 → s' = cl r.2.2 free ∧ r.2.2 ≤ N)
theorem Zug (free : Bool) (N : Int) (l : List Cube) (i : Nat) (hi : i < l.length) (hN : N < 9223372036854775808) (x10 : Bool × Int) (hx : x10.2 = (i : Int)) (hl : l.length < 4294967296) (R : cover_look → Cube → List Cube → Option (Header × Bool × Bool × cover_look)) (R' : Cube → Int → Header × Bool × Int)
  (hR : ∀ p n, 0 ≤ n → n ≤ N → Zed free N (R (cl n free) p (l.drop (i + 1))) n (R' p n)) (hn : ∀ p m, (R' p m).2.1 = false → (R' p m).1 = Z3i) : ∀ (ps : List Cube) (n : Int), 0 ≤ n → n ≤ N →
  ∃ s', yf (fun (s : cover_look × Header × Bool × Bool) x => Z9s l x10 R s.1 s.2.1 s.2.2.1 s.2.2.2 x) ps (cl n free, Z3i, false, true) =
   some (bif (Z3e R' ps n).2.1 || decide ((Z3e R' ps n).2.2 < 0) then .out (.exit 1) (s', (Z3e R' ps n).1, (Z3e R' ps n).2.1, decide (0 ≤ (Z3e R' ps n).2.2)) else .go (s', Z3i, false, true)) ∧ (0 ≤ (Z3e R' ps n).2.2 → s' = cl (Z3e R' ps n).2.2 free ∧ (Z3e R' ps n).2.2 ≤ N)
 | [], n, h0, h1 => by
  refine ⟨cl n free, ?_, fun _ => ⟨rfl, h1⟩⟩
  rw [yf, Z3e, decide_eq_false (by show ¬ (n < 0); omega)]; rfl
 | p :: ps, n, h0, h1 => by
  obtain ⟨s', h2, h3⟩ := hR p n h0 h1
  have hb : Z9s l x10 R (cl n free) Z3i false true p = some (bif (R' p n).2.1 || decide ((R' p n).2.2 < 0) then .out (.exit 1) (s', (R' p n).1, (R' p n).2.1, decide (0 ≤ (R' p n).2.2)) else .go (s', (R' p n).1, (R' p n).2.1, decide (0 ≤ (R' p n).2.2))) := by
   unfold Z9s
   rw [hx, inc i (by omega), Y0k _ _ (by omega), Option.bind_some, h2, Option.bind_some]
   have : (!decide (0 ≤ (R' p n).2.2)) = decide ((R' p n).2.2 < 0) := by
    by_cases h : (R' p n).2.2 < 0
    ·rw [decide_eq_true h, decide_eq_false (by omega)]; rfl
    ·rw [decide_eq_false h, decide_eq_true (by omega)]; rfl
   show (bif ((R' p n).2.1 || !decide (0 ≤ (R' p n).2.2)) then _ else _) = _
   rw [this]
   cases (R' p n).2.1 || decide ((R' p n).2.2 < 0) <;> rfl
  rw [yf]
  show ∃ s'', (Z9s l x10 R (cl n free) Z3i false true p).bind _ = _ ∧ _
  rw [hb, Option.bind_some, Z3e]
  cases hc : (R' p n).2.1 || decide ((R' p n).2.2 < 0)
  ·rw [Bool.or_eq_false_iff, decide_eq_false_iff_not] at hc
   have h4 : 0 ≤ (R' p n).2.2 := by omega
   obtain ⟨h5, h6⟩ := h3 h4
   obtain ⟨s'', h7, h8⟩ := Zug free N l i hi hN x10 hx hl R R' hR hn ps (R' p n).2.2 h4 h6
   refine ⟨s'', ?_, h8⟩
   rw [cond_false, cond_false, h5, hn p n hc.1, hc.1, decide_eq_true h4]
   exact h7
  ·refine ⟨s', ?_, h3⟩
   rw [cond_true, cond_true, hc]; rfl
theorem Yb6 (free : Bool) (N : Int) (hN : N < 9223372036854775808) (d fuel : Nat) (c : Cube) (l : List Cube) (hl : l.length < 4294967296) (n : Int) (h0 : 0 ≤ n) (h1 : n ≤ N)
  (ih : ∀ i, i < l.length → ∀ p n, 0 ≤ n → n ≤ N → Zed free N (Z6f fuel (cl n free) p (l.drop (i + 1))) n (Z41 free d p (l.drop (i + 1)) n)) :
  Zed free N (Z6f (fuel + 1) (cl n free) c l) n (Z41 free (d + 1) c l n) := by
 show Zed free N (Zjr (Z6f fuel) (cl n free) c l) n _
 unfold Zjr
 have hpay : Ziw (cl n free).purse = some (!(!free && decide (n < 1)), ⟨bif free then n else n - 1, free⟩) := by
  unfold Ziw
  cases free
  ·have e : IntKind.i64.wrap (n - 1) = n - 1 := Z30 (by omega) (by omega)
   show some (decide (IntKind.i64.wrap (n - 1) ≥ 0), (⟨IntKind.i64.wrap (n - 1), false⟩ : cover_purse)) = _
   rw [e]
   by_cases h : n < 1
   ·rw [decide_eq_true h, decide_eq_false (by omega)]; rfl
   ·rw [decide_eq_false h, decide_eq_true (by omega)]; rfl
  ·rfl
 rw [hpay, Option.bind_some, Z41]
 cases hp : !free && decide (n < 1)
 ·have hn1 : 0 ≤ (bif free then n else n - 1) ∧ (bif free then n else n - 1) ≤ N := by
   cases free
   ·simp only [Bool.not_false, Bool.true_and, decide_eq_false_iff_not] at hp
    simp only [cond_false]; omega
   ·simp only [cond_true]; omega
  generalize (bif free then n else n - 1) = n1 at hn1 ⊢
  simp only [Bool.not_false, Bool.not_true, cond_false]
  obtain ⟨j, hj⟩ := Zmx c l 0 (-1)
  unfold Zmi
  rw [hj, Option.bind_some]
  cases hw : l.any (Z5i c)
  ·simp only [cond_false]
   have hfi : Za1 c l 0 (-1) = match Z53 c l 0 with | none => -1 | some k => (k : Int) := rfl
   rw [hfi]
   have hsp := Zor c l 0
   cases hf : Z53 c l 0 with
   | none =>
    simp only
    rw [show decide ((-1 : Int) < 0) = true from rfl, cond_true, Y93, Option.bind_some]
    exact ⟨cl n1 free, by rw [decide_eq_true hn1.1]; rfl, fun _ => ⟨rfl, hn1.2⟩⟩
   | some i =>
    rw [hf] at hsp
    obtain ⟨j', hj1, hj2, hj3, hj4⟩ := hsp
    have hij : i = j' := by omega
    subst hij
    simp only
    rw [decide_eq_false (by omega), cond_false, Z21 hj2, Option.bind_some, List.getElem?_eq_getElem hj2]
    unfold Zmv
    rw [Option.bind_some]
    obtain ⟨s', h2, h3⟩ := Zug free N l i hj2 hN (false, (i : Int)) rfl hl (Z6f fuel) (fun p m => Z41 free d p (l.drop (i + 1)) m) (fun p n a b => ih i hj2 p n a b) (fun p m h => Zp4 free d p _ m h) (Z93 c l[i]) n1 hn1.1 hn1.2
    show Zed free N ((Zao (cover_look × Header × Bool × Bool) (fun s x => Z9s l (false, (i : Int)) (Z6f fuel) s.1 s.2.1 s.2.2.1 s.2.2.2 x) (.go (cl n1 free, Z3i, false, true)) c l[i]).bind _) n (Z3e (fun p m => Z41 free d p (l.drop (i + 1)) m) (Z93 c l[i]) n1)
    rw [Ya0, h2, Option.bind_some]
    have hnn := Znt (R := fun p m => Z41 free d p (l.drop (i + 1)) m) (fun p m h => Zp4 free d p _ m h) (Z93 c l[i]) n1
    generalize Z3e (fun p m => Z41 free d p (l.drop (i + 1)) m) (Z93 c l[i]) n1 = r at *
    cases hc : r.2.1 || decide (r.2.2 < 0)
    ·rw [Bool.or_eq_false_iff, decide_eq_false_iff_not] at hc
     refine ⟨s', ?_, h3⟩
     rw [hnn hc.1, hc.1, decide_eq_true (show 0 ≤ r.2.2 by omega)]; rfl
    ·exact ⟨s', rfl, h3⟩
  ·refine ⟨cl n1 free, ?_, fun _ => ⟨rfl, hn1.2⟩⟩
   show some (Z3i, false, true, cl n1 free) = some (Z3i, false, decide (0 ≤ n1), cl n1 free)
   rw [decide_eq_true hn1.1]
 ·exact ⟨_, rfl, fun h => by simp at h⟩
theorem Y0j (free : Bool) (N : Int) (hN : N < 9223372036854775808) : ∀ (d fuel : Nat) (c : Cube) (l : List Cube) (n : Int), l.length < d → d ≤ fuel → l.length < 4294967296 → 0 ≤ n → n ≤ N →
  Zed free N (Z6f fuel (cl n free) c l) n (Z41 free d c l n)
 | 0, fuel, c, l, n, h, _, _, _, _ => by omega
 | d + 1, 0, c, l, n, _, h, _, _, _ => by omega
 | d + 1, fuel + 1, c, l, n, h1, h2, h3, h4, h5 =>
  Yb6 free N hN d fuel c l h3 n h4 h5 fun i hi p m h6 h7 => Y0j free N hN d fuel p (l.drop (i + 1)) m (by rw [List.length_drop]; omega) (by omega) (by rw [List.length_drop]; omega) h6 h7
end Go.Proofs.YtknpgojdkobgjaaGreat.W
namespace Go.Proofs.YtknpgojdkobgjaaGreat.W
open Go Go.Wb
def Zpn (l : List Rule) (h : Header) : Int × Bool := (Z1r (Z0b (Zkc h) l) 0, decide (Z0b (Zkc h) l ≥ 0))
theorem Y6s (f : Flat) (h : Header) : Zcr f h = some (Zpn f.Rules h) := by
 unfold Zcr Zm2
 rw [Option.bind_some, Y8y f.Rules (fun x => Zc6 x h) (Zkc h) (fun r _ => by unfold Zc6; rw [Y2c]; rfl), Option.bind_some]; rfl
theorem Yc0 (k : Nat) : Z1r (k : Int) 0 = (k : Int) := by unfold Z1r; rw [decide_eq_false (show ¬ ((0 : Int) > (k : Int)) by omega)]; rfl
end Go.Proofs.YtknpgojdkobgjaaGreat.W
namespace Go.Proofs.YtknpgojdkobgjaaGreat.W
open Go Go.Wb
theorem Zog (a : Wide) : ∀ n, (Z4c a n).Nodup
 | 0 => List.nodup_nil
 | n + 1 => by
  rw [Z4c]
  cases wt a n
  ·exact Zog a n
  ·rw [cond_true, List.nodup_cons]
   refine ⟨fun h => ?_, Zog a n⟩
   obtain ⟨k, h1, h2, _⟩ := (Zeo _ _ _).1 h
   omega
theorem Yb0 (t : Tern) (i : Nat) (hi : i < 128) (on : Bool) (k : Nat) (hk : k < 128) : wt (Z4i t i on).Mask k = (wt t.Mask k || decide (i = k)) := by
 unfold Z4i Z0z
 cases on <;> simp only [cond_true, cond_false, Zes, Zen i k hi hk]
theorem Y7p {c : Cube} {f : Nat} (hf : f < 24) {t : Tern} {h : Header} : Z26 (Z8y c f t) h = true ↔ (∀ g, g < 24 → g ≠ f → Z4k (ve c g) (ve h g) = true) ∧ Z4k t (ve h f) = true := by
 rw [Zb4]
 constructor
 ·intro hh
  refine ⟨fun g hg hne => ?_, ?_⟩
  ·have := hh g hg
   rwa [Zm9 _ _ _ _ hg, if_neg (fun e => hne e.symm)] at this
  ·have := hh f hf
   rwa [Zm9 _ _ _ _ hf, if_pos rfl] at this
 ·rintro ⟨h1, h2⟩ g hg
  rw [Zm9 _ _ _ _ hg]
  by_cases e : f = g
  ·subst e; rw [if_pos rfl]; exact h2
  ·rw [if_neg e]; exact h1 g hg fun e' => e e'.symm
theorem Zqs {c : Cube} {f b : Nat} (hf : f < 24) (hb : b < 128) {on : Bool} {h : Header} (hm : wt (ve c f).Mask b = false) (hh : Z26 (Z8y c f (Z4i (ve c f) b on)) h = true) : Z26 c h = true ∧ wt (ve h f) b = on := by
 obtain ⟨h1, h2⟩ := (Y7p hf).1 hh
 obtain ⟨h3, h4⟩ := (Yad _ _ hb _ _).1 h2
 refine ⟨(Zb4 _ _).2 fun g hg => ?_, h4⟩
 by_cases e : g = f
 ·subst e
  exact (Z9y _ _).2 fun k hk hmk => h3 k hk (fun e => by rw [e, hm] at hmk; cases hmk) hmk
 ·exact h1 g hg e
theorem Zu8 (xv : Wide) (f : Nat) (hf : f < 24) (h : Header) : ∀ (l : List Int) (left : Cube), Zoh l → l.Nodup → (∀ i ∈ l, wt (ve left f).Mask i.toNat = false) →
  (∀ p ∈ (Z6m xv f l left).1, Z26 p h = true → Z26 left h = true ∧ ∃ i ∈ l, wt (ve h f) i.toNat = !wt xv i.toNat) ∧ (Z26 (Z6m xv f l left).2 h = true → Z26 left h = true)
 | [], left, _, _, _ => ⟨fun p hp => (List.not_mem_nil hp).elim, fun hh => hh⟩
 | i :: l, left, hl, hn, hm => by
  obtain ⟨b, rfl, hb⟩ := hl i (by simp)
  rw [List.nodup_cons] at hn
  have hmb := hm _ (List.mem_cons_self ..)
  rw [Int.toNat_natCast] at hmb
  have ih := Zu8 xv f hf h l (Z8y left f (Z4i (ve left f) b (wt xv b))) (fun j hj => hl j (by simp [hj])) hn.2 (fun j hj => by
   obtain ⟨k, rfl, hk⟩ := hl j (by simp [hj])
   have h1 := hm _ (List.mem_cons_of_mem _ hj)
   rw [Int.toNat_natCast] at h1 ⊢
   rw [Zm9 _ _ _ _ hf, if_pos rfl, Yb0 _ _ hb _ _ hk, h1, Bool.false_or, decide_eq_false_iff_not]
   intro e
   subst e
   exact hn.1 hj)
  rw [Z6m, Int.toNat_natCast]
  refine ⟨fun p hp hh => ?_, fun hh => (Zqs hf hb hmb (ih.2 hh)).1⟩
  rcases List.mem_cons.1 hp with rfl | hp
  ·obtain ⟨h1, h2⟩ := Zqs hf hb hmb hh
   exact ⟨h1, (b : Int), by simp, by rw [Int.toNat_natCast]; exact h2⟩
  ·obtain ⟨h1, i, hi, h2⟩ := ih.1 p hp hh
   exact ⟨(Zqs hf hb hmb h1).1, i, by simp [hi], h2⟩
theorem Zsp (x : Cube) (h : Header) : ∀ (m f : Nat) (left : Cube), f + m = 24 → ∀ p ∈ Zc7 x m f left, Z26 p h = true → Z26 left h = true ∧ Z26 x h = false
 | 0, f, left, _, p, hp => by cases hp
 | m + 1, f, left, hm, p, hp => by
  intro hh
  have hf : f < 24 := by omega
  have hs := Zu8 (ve x f).Value f hf h (Zcd (ve x f) (ve left f)) left (Zwg _ _) (Zog _ _) (fun i hi => by
   obtain ⟨k, rfl, hk, hw⟩ := (Zeo _ _ _).1 hi
   rw [Zip _ _ _ hk] at hw
   rw [Int.toNat_natCast]
   cases hq : wt (ve left f).Mask k
   ·rfl
   ·rw [hq] at hw; simp at hw)
  rw [Zc7] at hp
  rcases List.mem_append.1 hp with hp | hp
  ·obtain ⟨h1, i, hi, h2⟩ := hs.1 p hp hh
   obtain ⟨k, rfl, hk, hw⟩ := (Zeo _ _ _).1 hi
   rw [Zip _ _ _ hk, Bool.and_eq_true] at hw
   rw [Int.toNat_natCast] at h2
   refine ⟨h1, ?_⟩
   cases hx : Z26 x h
   ·rfl
   ·have := (Z9y _ _).1 ((Zb4 _ _).1 hx f hf) k hk hw.1
    rw [h2] at this
    cases hv : wt (ve x f).Value k <;> rw [hv] at this <;> simp at this
  ·obtain ⟨h1, h2⟩ := Zsp x h m (f + 1) _ (by omega) p hp hh
   exact ⟨hs.2 h1, h2⟩
theorem Ycy {a x : Cube} (hm : Z3v a x = true) {h : Header} {p : Cube} (hp : p ∈ Z93 a x) (hh : Z26 p h = true) : Z26 a h = true ∧ Z26 x h = false := by
 unfold Z93 at hp
 rw [hm, cond_true] at hp
 have := Zsp x h 24 0 (Z1e a) rfl p hp hh
 rwa [Yc6] at this
theorem Zvc (c : Cube) : Z26 c (Zil c) = true := (Zb4 _ _).2 fun f hf => (Z9y _ _).2 fun k hk hm => by
 unfold Zil
 rw [Z90 (fun f => (Z0z (ve c f)).Value) f hf]
 unfold Z0z
 rw [Z5b, hm, Bool.and_true]
theorem Zx4 {a x : Cube} (hm : Z3v a x = false) {h : Header} (h1 : Z26 a h = true) : Z26 x h = false := by
 cases hx : Z26 x h
 ·rfl
 ·unfold Z3v at hm
  cases hc : Z3y a x with
  | none => exact (Y7t hc h h1 hx).elim
  | some z => rw [hc] at hm; cases hm
theorem Zz4 {R : Cube → Int → Header × Bool × Int} : ∀ (ps : List Cube) (n : Int), (Z3e R ps n).2.1 = true → ∃ p ∈ ps, ∃ m, Z3e R ps n = R p m
 | [], n, h => by cases h
 | p :: ps, n, h => by
  rw [Z3e] at h ⊢
  cases hc : (R p n).2.1 || decide ((R p n).2.2 < 0)
  ·rw [hc, cond_false] at h
   rw [cond_false]
   obtain ⟨q, hq, m, e⟩ := Zz4 ps _ h
   exact ⟨q, by simp [hq], m, e⟩
  ·exact ⟨p, by simp, n, rfl⟩
theorem Zzl (free : Bool) : ∀ (d : Nat) (c : Cube) (l : List Cube) (n : Int), (Z41 free d c l n).2.1 = true → Z26 c (Z41 free d c l n).1 = true ∧ ∀ x ∈ l, Z26 x (Z41 free d c l n).1 = false
 | 0, c, l, n, h => by cases h
 | d + 1, c, l, n, h => by
  rw [Z41] at h ⊢
  cases h1 : !free && decide (n < 1)
  ·rw [h1, cond_false] at h
   rw [cond_false]
   cases h2 : l.any (Z5i c)
   ·rw [h2, cond_false] at h
    rw [cond_false]
    have hsp := Zor c l 0
    cases h3 : Z53 c l 0 with
    | none =>
     rw [h3] at hsp
     exact ⟨Zvc c, fun x hx => Zx4 (hsp x hx) (Zvc c)⟩
    | some i =>
     rw [h3] at h hsp
     obtain ⟨j, hj1, hj2, hj3, hj4⟩ := hsp
     have hij : i = j := by omega
     subst hij
     simp only at h ⊢
     rw [List.getElem?_eq_getElem hj2] at h ⊢
     simp only at h ⊢
     obtain ⟨p, hp, m, e⟩ := Zz4 _ _ h
     rw [e] at h ⊢
     obtain ⟨h5, h6⟩ := Zzl free d p (l.drop (i + 1)) m h
     obtain ⟨h7, h8⟩ := Ycy hj3 hp h5
     refine ⟨h7, fun x hx => ?_⟩
     rw [← List.take_append_drop i l, List.mem_append] at hx
     rcases hx with hx | hx
     ·exact Zx4 (hj4 x hx) h7
     ·rw [List.drop_eq_getElem_cons hj2] at hx
      rcases List.mem_cons.1 hx with rfl | hx
      ·exact h8
      ·exact h6 x hx
   ·rw [h2] at h; cases h
  ·rw [h1] at h; cases h
def Zc2 (c : Cube) (l : List Cube) (most : Int) : Header × Bool × Int := Z41 (decide (most ≥ 1099511627776)) (l.length + 1) c l (Z1r most 0)
def Z2k (c : Cube) (l : List Cube) (most : Int) : Header × Bool × Int := bif decide ((Zc2 c l most).2.2 < 0) then (Z3i, false, 5) else ((Zc2 c l most).1, (Zc2 c l most).2.1, 0)
theorem Y9h (m : Int) : 0 ≤ Z1r m 0 ∧ Z1r m 0 ≤ max m 0 := by
 unfold Z1r
 by_cases h : (0 : Int) > m
 ·rw [decide_eq_true h, cond_true]; omega
 ·rw [decide_eq_false h, cond_false]; omega
theorem Zvd (c : Cube) (l : List Cube) (most : Int) (hm : most ≤ 9223372036854775807) (hl : l.length ≤ 1000000) : Zgc c l most = some (Z2k c l most) := by
 have hi := Y9h most
 unfold Zgc Zqv Z2k
 obtain ⟨s', h1, h2⟩ := Y0j (decide (most ≥ 1099511627776)) (Z1r most 0) (by omega) (l.length + 1) Z0y c l (Z1r most 0) (by omega) (by unfold Z0y; omega) (by omega) hi.1 (by omega)
 show (Z6f Z0y (cl (Z1r most 0) (decide (most ≥ 1099511627776))) c l).bind _ = _
 rw [h1, Option.bind_some]
 show (bif !(decide (0 ≤ (Zc2 c l most).2.2)) then _ else _) = _
 by_cases h : (Zc2 c l most).2.2 < 0
 ·rw [decide_eq_true h, decide_eq_false (by omega)]; rfl
 ·rw [decide_eq_false h, decide_eq_true (by omega)]; rfl
theorem Y5z {c : Cube} {l : List Cube} {most : Int} (h : (Z2k c l most).2.1 = true) : Z26 c (Z2k c l most).1 = true ∧ ∀ x ∈ l, Z26 x (Z2k c l most).1 = false := by
 unfold Z2k at h ⊢
 cases hc : decide ((Zc2 c l most).2.2 < 0)
 ·rw [hc, cond_false] at h
  rw [cond_false]
  exact Zzl _ _ _ _ _ h
 ·rw [hc] at h; cases h
theorem Zy1 : ∀ (l : List Rule) (pre : List Cube), Z6w l pre.length (pre ++ List.replicate l.length (Vector.replicate 24 zTern)) = some (pre ++ l.map (·.Cube))
 | [], pre => by simp [Z6w]
 | r :: l, pre => by
  have hlt : pre.length < (pre ++ List.replicate (r :: l).length (Vector.replicate 24 zTern)).length := by simp
  rw [Z6w, Z21 hlt, Option.bind_some, Int.toNat_natCast]
  have e : List.set (pre ++ List.replicate (r :: l).length (Vector.replicate 24 zTern)) pre.length r.Cube = (pre ++ [r.Cube]) ++ List.replicate l.length (Vector.replicate 24 zTern) := by
   rw [List.length_cons, List.replicate_succ, List.set_append_right _ _ (Nat.le_refl _)]; simp
  have ih := Zy1 l (pre ++ [r.Cube])
  rw [e]
  rw [List.length_append, List.length_singleton] at ih
  rw [ih]; simp
theorem Y69 (n : Nat) (h : n ≤ lim) : omk (n : Int) = some () := by
 unfold omk
 rw [decide_eq_false (by omega), decide_eq_false (by omega)]; rfl
theorem Y22 (l : List Rule) (h : l.length ≤ 1000000) : Zj3 l = some (l.map (·.Cube)) := by
 have hlim : lim = 4294967296 := rfl
 unfold Zj3
 rw [Y69 _ (by omega), Option.bind_some, Int.toNat_natCast]
 exact Zy1 l []
theorem Zsq (l : List Rule) (hl : l.length ≤ 1000000) : ∀ (m i : Nat) (acc : List Cube), i ≤ l.length → l.length < i + m → acc.length ≤ i → Zab l m acc (i : Int) = some (acc ++ (l.drop i).map (·.Cube))
 | 0, i, acc, h1, h2, _ => by omega
 | m + 1, i, acc, h1, h2, h3 => by
  have hlim : lim = 4294967296 := rfl
  rw [Zab]
  by_cases hi : i < l.length
  ·rw [decide_eq_true (by omega), cond_true, Z21 hi, Option.bind_some, Z1m (by simp; omega), Option.bind_some, inc i (by omega), Zsq l hl m (i + 1) _ (by omega) (by omega) (by simp; omega), List.drop_eq_getElem_cons hi, List.map_cons, List.append_assoc]
   rfl
  ·rw [decide_eq_false (by omega), cond_false, List.drop_of_length_le (by omega)]; simp
theorem Y9s (l : List Rule) (hl : l.length ≤ 1000000) : Ze5 l = some (l.map (·.Cube)) := by
 unfold Ze5
 have := Zsq l hl ((((l.length : Int) : Int) - 0).toNat + 1) 0 [] (by omega) (by omega) (by simp)
 rw [show ((0 : Nat) : Int) = 0 from rfl, List.drop_zero, List.nil_append] at this
 exact this
theorem Zux {α : Type} (l : List α) (i : Nat) (h : i ≤ l.length) : Z4g l (i : Int) = some (l.take i) := by
 unfold Z4g
 simp [Nat.ble_eq_true_of_le h]
def Z9q (l : List Rule) (i most : Int) : Header × Bool × Int := bif decide (i < 0) || decide (i ≥ (l.length : Int)) then (Z3i, false, 6) else match l[i.toNat]? with
 | none => (Z3i, false, 6)
 | some r => Z2k r.Cube ((l.take i.toNat).map (·.Cube)) most
theorem Y39 (l : List Rule) (i most : Int) (hl : l.length ≤ 1000000) (hm : most ≤ 9223372036854775807) : Zgu l i most = some (Z9q l i most) := by
 unfold Zgu Z9q
 cases hc : decide (i < 0) || decide (i ≥ (l.length : Int))
 ·rw [Bool.or_eq_false_iff, decide_eq_false_iff_not, decide_eq_false_iff_not] at hc
  obtain ⟨n, rfl⟩ : ∃ n : Nat, i = (n : Int) := ⟨i.toNat, by omega⟩
  have hn : n < l.length := by omega
  rw [cond_false, cond_false, Y22 l hl, Option.bind_some, Z21 (show n < (l.map (·.Cube)).length by simpa using hn), Option.bind_some, Zux _ _ (by simp; omega), Option.bind_some, Int.toNat_natCast, List.getElem?_eq_getElem hn, Zvd _ _ _ hm (by simp; omega), Option.bind_some]
  simp [List.map_take]
 ·rfl
theorem Zvm {α : Type} (p : α → Bool) : ∀ (l : List α) (n : Nat) (h : n < l.length), p l[n] = true → (∀ x ∈ l.take n, p x = false) → Z0b p l = (n : Int)
 | [], n, h, _, _ => by simp at h
 | x :: l, 0, h, hp, _ => by
  rw [Z0b]
  rw [List.getElem_cons_zero] at hp
  rw [hp]; rfl
 | x :: l, n + 1, h, hp, hq => by
  have h0 : p x = false := hq x (by simp)
  have ih := Zvm p l n (by simpa using h) (by simpa using hp) (fun y hy => hq y (by rw [List.take_succ_cons]; exact List.mem_cons_of_mem _ hy))
  rw [Z0b, h0, cond_false, ih, decide_eq_false (by omega), cond_false]; omega
theorem Y3u {l : List Rule} {i most : Int} (h : (Z9q l i most).2.1 = true) : Zpn l (Z9q l i most).1 = (i, true) := by
 unfold Z9q at h ⊢
 cases hc : decide (i < 0) || decide (i ≥ (l.length : Int))
 ·rw [hc, cond_false] at h
  rw [cond_false]
  rw [Bool.or_eq_false_iff, decide_eq_false_iff_not, decide_eq_false_iff_not] at hc
  obtain ⟨n, rfl⟩ : ∃ n : Nat, i = (n : Int) := ⟨i.toNat, by omega⟩
  have hn : n < l.length := by omega
  rw [Int.toNat_natCast, List.getElem?_eq_getElem hn] at h ⊢
  simp only at h ⊢
  obtain ⟨h1, h2⟩ := Y5z h
  generalize (Z2k l[n].Cube (List.map (·.Cube) (List.take n l)) most).1 = w at h1 h2 ⊢
  have hf : Z0b (Zkc w) l = (n : Int) := Zvm (Zkc w) l n hn h1 fun r hr => h2 _ (List.mem_map_of_mem hr)
  unfold Zpn
  rw [hf, Yc0, decide_eq_true (by omega)]
 ·rw [hc] at h; cases h
end Go.Proofs.YtknpgojdkobgjaaGreat.W
namespace Go.Proofs.YtknpgojdkobgjaaGreat.W
open Go Go.Wb
section ins
def Zht (lt : Int → Int → Bool) (cmp : Int → Int → Option Int) (A : List Int) : Prop := ∀ x ∈ A, ∀ y ∈ A, ∃ c, cmp x y = some c ∧ decide (c < 0) = lt x y
variable {lt : Int → Int → Bool} {cmp : Int → Int → Option Int}
theorem Zz9 {A : List Int} (hc : Zht lt cmp A) (go : List Int → Int → Option (List Int)) (i : Int) (P : List Int) (x : Int) (hx : x ∈ A) : ∀ (R S : List Int) (m : Nat), (∀ y ∈ R, y ∈ A) → R.length < m → (P ++ R.reverse ++ x :: S).length ≤ big →
  Z8h (P.length : Int) cmp go i m (P ++ R.reverse ++ x :: S) ((P.length + R.length : Nat) : Int) = go (P ++ (Z0o lt x R).reverse ++ S) (IntKind.i64.wrap (i + 1))
 | [], S, m, _, h, _ => by
  obtain ⟨m, rfl⟩ : ∃ k, m = k + 1 := ⟨m - 1, by simp at h; omega⟩
  rw [Z8h, decide_eq_false (by simp)]
  simp [opt, Z0o]
 | y :: R, S, m, hR, h, hl => by
  have hbig : big = 1000000 := rfl
  simp only [List.length_cons, List.length_append, List.length_reverse] at h hl
  obtain ⟨m, rfl⟩ : ∃ k, m = k + 1 := ⟨m - 1, by omega⟩
  have e0 : P ++ (y :: R).reverse ++ x :: S = (P ++ R.reverse) ++ y :: (x :: S) := by simp
  have ej : IntKind.i64.wrap (((P.length + (y :: R).length : Nat) : Int) - 1) = ((P.length + R.length : Nat) : Int) := by rw [wr (by simp only [List.length_cons]; omega) (by simp only [List.length_cons]; omega)]; simp only [List.length_cons]; omega
  have g1 : ∀ a b : Int, lget ((P ++ R.reverse) ++ a :: (b :: S)) ((P.length + (y :: R).length : Nat) : Int) = some b := fun a b => by
   have : (P ++ R.reverse) ++ a :: (b :: S) = (P ++ R.reverse ++ [a]) ++ b :: S := by simp
   rw [this]; exact Z4h _ _ _ _ (by simp)
  have g0 : ∀ a b : Int, lget ((P ++ R.reverse) ++ a :: (b :: S)) ((P.length + R.length : Nat) : Int) = some a := fun a b => Z4h _ _ _ _ (by simp)
  have s1 : ∀ a b c : Int, List.set ((P ++ R.reverse) ++ a :: (b :: S)) (((P.length + (y :: R).length : Nat) : Int)).toNat c = (P ++ R.reverse) ++ a :: (c :: S) := fun a b c => by
   have : (P ++ R.reverse) ++ a :: (b :: S) = (P ++ R.reverse ++ [a]) ++ b :: S := by simp
   rw [this, Int.toNat_natCast, Z74 _ _ _ _ _ (by simp)]; simp
  have s0 : ∀ a b c : Int, List.set ((P ++ R.reverse) ++ a :: (b :: S)) (((P.length + R.length : Nat) : Int)).toNat c = (P ++ R.reverse) ++ c :: (b :: S) := fun a b c => by
   rw [Int.toNat_natCast, Z74 _ _ _ _ _ (by simp)]
  obtain ⟨c, hc1, hc2⟩ := hc x hx y (hR y (by simp))
  rw [e0, Z8h, decide_eq_true (by simp only [List.length_cons]; omega), Z4p, g1, Option.bind_some, Z4p, ej, g0, Option.bind_some, Z4p, hc1, Option.bind_some, Bool.true_and, hc2, Z0o]
  cases lt x y
  ·rw [cond_false, cond_false]
   simp
  ·rw [cond_true, cond_true, Option.bind_some, Option.bind_some, Option.bind_some, s1, g0, Option.bind_some, s0, Zz9 hc go i P x hx R (y :: S) m (fun z hz => hR z (by simp [hz])) (by omega) (by simp only [List.length_append, List.length_cons, List.length_reverse]; omega)]
   simp
theorem Zpj (x : Int) (R : List Int) : (Z0o lt x R).length = R.length + 1 := by
 induction R with
 | nil => rfl
 | cons y R ih => rw [Z0o]; cases lt x y <;> simp [ih]
theorem Y12 {A : List Int} (hc : Zht lt cmp A) (P Q : List Int) : ∀ (T R : List Int) (m : Nat), (∀ y ∈ T, y ∈ A) → (∀ y ∈ R, y ∈ A) → T.length < m → (P ++ R.reverse ++ T ++ Q).length ≤ big →
  Z7g ((P.length + R.length + T.length : Nat) : Int) (P.length : Int) cmp m (P ++ R.reverse ++ T ++ Q) ((P.length + R.length : Nat) : Int) = some (P ++ (T.foldl (fun R x => Z0o lt x R) R).reverse ++ Q)
 | [], R, m, _, _, h, _ => by
  obtain ⟨m, rfl⟩ : ∃ k, m = k + 1 := ⟨m - 1, by simp at h; omega⟩
  rw [Z7g, decide_eq_false (by simp), cond_false]
  simp
 | x :: T, R, m, hT, hR, h, h2 => by
  have hbig : big = 1000000 := rfl
  simp only [List.length_cons, List.length_append, List.length_reverse] at h h2
  obtain ⟨m, rfl⟩ : ∃ k, m = k + 1 := ⟨m - 1, by omega⟩
  have e : IntKind.i64.wrap (((P.length + R.length : Nat) : Int) + 1) = ((P.length + (Z0o lt x R).length : Nat) : Int) := by rw [Zpj, wr (by omega) (by omega)]; omega
  have hn : P.length + R.length + (x :: T).length = P.length + (Z0o lt x R).length + T.length := by rw [Zpj, List.length_cons]; omega
  have e0 : P ++ R.reverse ++ x :: T ++ Q = P ++ R.reverse ++ x :: (T ++ Q) := by simp
  rw [Z7g, decide_eq_true (by simp only [List.length_cons]; omega), cond_true, e0, Zz9 hc _ _ P x (hT x (by simp)) R (T ++ Q) Z0y hR (by unfold Z0y; omega) (by simp only [List.length_append, List.length_cons, List.length_reverse]; omega), e, hn,
   ← List.append_assoc, Y12 hc P Q T (Z0o lt x R) m (fun y hy => hT y (by simp [hy])) (fun y hy => by rcases Zqk.1 hy with e | e; rw [e]; exact hT x (by simp); exact hR y e) (by omega) (by simp only [List.length_append, List.length_reverse, Zpj]; omega), List.foldl_cons]
theorem Ycw (P L Q : List Int) (hc : Zht lt cmp L) (a b : Int) (ha : a = (P.length : Int)) (hb : b = (P.length : Int) + (L.length : Int)) (h : (P ++ L ++ Q).length ≤ big) : Zfk (P ++ L ++ Q) a b cmp = some (P ++ srt lt L ++ Q) := by
 subst ha hb
 have hbig : big = 1000000 := rfl
 have h' := h
 simp only [List.length_append] at h'
 unfold Zfk srt
 cases L with
 | nil =>
  rw [wr (by omega) (by omega)]
  obtain ⟨m, hm⟩ : ∃ m, (((P.length : Int) + (([] : List Int).length : Int)) - ((P.length : Int) + 1)).toNat + 1 = m + 1 := ⟨_, rfl⟩
  rw [hm, Z7g, decide_eq_false (by simp only [List.length_nil]; omega), cond_false]
  rfl
 | cons x L =>
  simp only [List.length_cons] at h'
  have := Y12 hc P Q L [x] ((((P.length : Int) + ((x :: L).length : Int)) - ((P.length : Int) + 1)).toNat + 1) (fun y hy => by simp [hy]) (fun y hy => by simp at hy; simp [hy]) (by simp only [List.length_cons]; omega) (by simp only [List.length_append, List.length_reverse, List.length_cons, List.length_nil]; omega)
  have e1 : ((P.length + [x].length + L.length : Nat) : Int) = (P.length : Int) + ((x :: L).length : Int) := by simp; omega
  have e2 : ((P.length + [x].length : Nat) : Int) = (P.length : Int) + 1 := by simp
  have e3 : P ++ [x].reverse ++ L ++ Q = P ++ x :: L ++ Q := by simp
  rw [e1, e2, e3] at this
  rw [wr (by omega) (by omega), this]
  rfl
theorem Yc2 (L : List Int) (hc : Zht lt cmp L) (h : L.length < 20) : Zh4 L cmp = some (srt lt L) := by
 unfold Zh4 Zlb
 obtain ⟨m, hm⟩ : ∃ m, (((L.length : Int) : Int) - 20).toNat + 2 = m + 1 := ⟨_, rfl⟩
 have := Ycw [] L [] hc 0 (L.length : Int) rfl (by simp) (by simp only [List.nil_append, List.append_nil]; show _ ≤ 1000000; omega)
 simp only [List.nil_append, List.append_nil] at this
 rw [hm, Zbg, decide_eq_false (by omega), cond_false, this, Option.bind_some]
 obtain ⟨k, hk⟩ : ∃ m, (((L.length : Int) : Int) - 20).toNat + 1 = m + 1 := ⟨_, rfl⟩
 rw [hk, Zbr, decide_eq_false (by omega), cond_false]
 rfl
end ins
end Go.Proofs.YtknpgojdkobgjaaGreat.W
namespace Go.Proofs.YtknpgojdkobgjaaGreat.W
open Go Go.Wb
def Zmw (t : List Flow) (i : Int) : Int := match t[i.toNat]? with
 | some f => f.Priority
 | none => 0
def ltP (t : List Flow) (i j : Int) : Bool := decide (Zmw t i > Zmw t j)
theorem Zyi (t : List Flow) : Swo (ltP t) where
 asym := fun a b h => by
  unfold ltP at *
  rw [decide_eq_true_eq] at h
  rw [decide_eq_false_iff_not]; omega
 neg := fun a b c h k => by
  unfold ltP at *
  rw [decide_eq_false_iff_not] at *; omega
def places (n : Nat) : List Int := (List.range n).map fun (i : Nat) => (i : Int)
theorem Zra {n : Nat} {i : Int} : i ∈ places n ↔ ∃ k : Nat, k < n ∧ i = (k : Int) := by
 unfold places
 simp only [List.mem_map, List.mem_range]
 exact ⟨fun ⟨k, h1, h2⟩ => ⟨k, h1, h2.symm⟩, fun ⟨k, h1, h2⟩ => ⟨k, h1, h2.symm⟩⟩
def Z5x (t : List Flow) : List Int := srt (ltP t) (places t.length)
theorem Zyw {t : List Flow} {i : Int} : i ∈ Z5x t ↔ ∃ k : Nat, k < t.length ∧ i = (k : Int) := by
 unfold Z5x
 rw [Zvn (Zyi t), Zra]
theorem Zyr (t : List Flow) : (Z5x t).length = t.length := by
 unfold Z5x
 rw [Z2v (Zyi t)]; simp [places]
theorem Zl0 {t : List Flow} {k : Nat} (h : k < t.length) : Zmw t (k : Int) = t[k].Priority := by
 unfold Zmw
 rw [Int.toNat_natCast, List.getElem?_eq_getElem h]
theorem Y2y (t : List Flow) : Zht (ltP t) (fun x z => Zfa x z t) (places t.length) := fun x hx y hy => by
 obtain ⟨i, hi, rfl⟩ := Zra.1 hx
 obtain ⟨j, hj, rfl⟩ := Zra.1 hy
 unfold Zfa ltP
 dsimp only
 rw [Z21 hi, Option.bind_some, Z21 hj, Option.bind_some, Zl0 hi, Zl0 hj, Option.bind_some, Option.bind_some]
 by_cases h1 : t[i].Priority > t[j].Priority
 ·rw [decide_eq_true h1, cond_true]; exact ⟨_, rfl, rfl⟩
 ·rw [decide_eq_false h1, cond_false]
  by_cases h2 : t[i].Priority < t[j].Priority
  ·rw [decide_eq_true h2, cond_true]; exact ⟨_, rfl, rfl⟩
  ·rw [decide_eq_false h2, cond_false]; exact ⟨_, rfl, rfl⟩
theorem Zst (t : List Flow) (ht : t.length < 20) : ∀ (m i : Nat), i + m = t.length → Z70 t m i (places i) = some (Z5x t)
 | 0, i, h => by
  have : i = t.length := by omega
  subst this
  rw [Z70, Yc2 _ (Y2y t) (by simpa [places] using ht)]; rfl
 | m + 1, i, h => by
  have hlim : lim = 4294967296 := rfl
  have e : places i ++ [(i : Int)] = places (i + 1) := by unfold places; rw [List.range_succ, List.map_append]; rfl
  rw [Z70, Z1m (by simp [places]; omega), Option.bind_some, e]
  exact Zst t ht m (i + 1) (by omega)
theorem Y7e (n : Nat) (h : n ≤ lim) : omk (n : Int) = some () := by
 unfold omk
 rw [decide_eq_false (by omega), decide_eq_false (by omega)]; rfl
theorem Yge (t : List Flow) (ht : t.length < 20) : Zin t = some (Z5x t) := by
 have hlim : lim = 4294967296 := rfl
 unfold Zin
 rw [Y7e _ (by omega), Option.bind_some, show ((t.length : Int)).toNat = t.length by omega]
 exact Zst t ht t.length 0 (by omega)
def Zrz (w : walk_way) (l : List Action) : walk_way := { w with atoms := w.atoms ++ (doT l (Z1e w.got)).1, got := (doT l (Z1e w.got)).2 }
theorem Y5p {α : Type} (l : List α) : Z4g l (l.length : Int) = some l := by
 unfold Z4g
 simp [Nat.ble_eq_true_of_le (Nat.le_refl _)]
theorem Zhl (l : List Action) : Zqy l ≤ l.length := List.countP_le_length
theorem Zwp (w : walk_way) (l : List Action) (h : w.atoms.length + l.length ≤ 100000) : Zcu w l = some (Zrz w l) := by
 have hlim : lim = 4294967296 := rfl
 have h1 := Zhl l
 unfold Zcu
 rw [Y8f l w.got (by omega), Option.bind_some, Y5p, Option.bind_some, Z1m (by rw [Zg4]; omega), Option.bind_some]; rfl
def Z6g (w : walk_way) (f : Flow) : Option walk_way := (Z5h w.got (Zgd f)).bind fun b => (Z3y b w.cube).map fun c => { w with cube := c }
theorem Y4s (w : walk_way) (f : Flow) : ∃ z, Zjh w f = some (Z1z z (Z6g w f)) := by
 unfold Zjh Z6g
 rw [Yem, Option.bind_some, Ybp, Option.bind_some]
 cases Z5h w.got (Zgd f) with
 | none => exact ⟨_, rfl⟩
 | some b =>
  show ∃ z, (Zaj b w.cube).bind _ = some (Z1z z ((Z3y b w.cube).map _))
  rw [Zpd, Option.bind_some]
  cases Z3y b w.cube with
  | none => exact ⟨_, rfl⟩
  | some c => exact ⟨w, rfl⟩
def Z42 (w : walk_way) (l : List Inst) : walk_way := match ofI l 4 with
 | some i => Zrz w i.Acts
 | none => w
def Z3p (w : walk_way) (l : List Inst) : walk_way := match ofI l 5 with
 | some _ => { w with set := [] }
 | none => w
def Z3b (w : walk_way) (l : List Inst) : walk_way := match ofI l 3 with
 | some i => { w with set := i.Acts.foldl wr1 w.set }
 | none => w
def Z3d (w : walk_way) (l : List Inst) : walk_way := match ofI l 2 with
 | some i => { w with got := Z81 w.got 1 i.Value i.Mask }
 | none => w
def wdo (w : walk_way) (l : List Inst) : walk_way := Z3d (Z3b (Z3p (Z42 w l) l) l) l
def Z2j (at_ : Nat) (l : List Inst) : Option Nat := match ofI l 1 with
 | some i => if i.Table > (at_ : Int) ∧ i.Table < 4 then some i.Table.toNat else none
 | none => none
theorem Zt8 {at_ : Nat} {l : List Inst} {i : Inst} (h : ofI l 1 = some i) (hc : i.Table > (at_ : Int) ∧ i.Table < 4) : Z2j at_ l = some i.Table.toNat := by
 unfold Z2j; rw [h]; exact if_pos hc
theorem Zxg {at_ : Nat} {l : List Inst} {i : Inst} (h : ofI l 1 = some i) (hc : ¬ (i.Table > (at_ : Int) ∧ i.Table < 4)) : Z2j at_ l = none := by
 unfold Z2j; rw [h]; exact if_neg hc
theorem Zuh {at_ : Nat} {l : List Inst} (h : ofI l 1 = none) : Z2j at_ l = none := by
 unfold Z2j; rw [h]
theorem Zkw {at_ n : Nat} {l : List Inst} (h : Z2j at_ l = some n) : at_ < n ∧ n < 4 := by
 unfold Z2j at h
 split at h
 ·split at h
  ·cases h; omega
  ·cases h
 ·cases h
def Z45 (w : walk_way) : walk_way := Zrz w (Z98 w.set)
def Z71 (l : List Inst) : Prop := ∀ i ∈ l, i.Acts.length ≤ 12
theorem Zqj (w : walk_way) {l : List Inst} (hl : Z71 l) : (Z42 w l).atoms.length ≤ w.atoms.length + 12 ∧ (Z42 w l).set = w.set ∧ (Z42 w l).cube = w.cube := by
 unfold Z42
 split
 ·rename_i i hi
  have h1 := hl i (Zeq hi)
  have h2 := Zhl i.Acts
  refine ⟨?_, rfl, rfl⟩
  show (w.atoms ++ _).length ≤ _
  rw [List.length_append, Zg4]; omega
 ·exact ⟨by omega, rfl, rfl⟩
theorem Zhk (w : walk_way) (l : List Inst) : (Z3p w l).atoms = w.atoms ∧ (Z3p w l).set.length ≤ w.set.length ∧ (Z3p w l).cube = w.cube := by
 unfold Z3p
 split
 ·exact ⟨rfl, by simp, rfl⟩
 ·exact ⟨rfl, by omega, rfl⟩
theorem Zk1 (w : walk_way) {l : List Inst} (hl : Z71 l) : (Z3b w l).atoms = w.atoms ∧ (Z3b w l).set.length ≤ w.set.length + 12 ∧ (Z3b w l).cube = w.cube := by
 unfold Z3b
 split
 ·rename_i i hi
  have h1 := hl i (Zeq hi)
  have h2 := Y0w i.Acts w.set
  exact ⟨rfl, by show (i.Acts.foldl wr1 w.set).length ≤ _; omega, rfl⟩
 ·exact ⟨rfl, by omega, rfl⟩
theorem Zqp (w : walk_way) (l : List Inst) : (Z3d w l).atoms = w.atoms ∧ (Z3d w l).set = w.set ∧ (Z3d w l).cube = w.cube := by
 unfold Z3d
 split
 ·exact ⟨rfl, rfl, rfl⟩
 ·exact ⟨rfl, rfl, rfl⟩
theorem Zl1 (w : walk_way) {l : List Inst} (hl : Z71 l) : (wdo w l).atoms.length ≤ w.atoms.length + 12 ∧ (wdo w l).set.length ≤ w.set.length + 12 ∧ (wdo w l).cube = w.cube := by
 have h1 := Zqj w hl
 have h2 := Zhk (Z42 w l) l
 have h3 := Zk1 (Z3p (Z42 w l) l) hl
 have h4 := Zqp (Z3b (Z3p (Z42 w l) l) l) l
 unfold wdo
 refine ⟨?_, ?_, ?_⟩
 ·rw [h4.1, h3.1, h2.1]; exact h1.1
 ·rw [h4.2.1]
  have := h3.2.1
  have := h2.2.1
  rw [h1.2.1] at this
  omega
 ·rw [h4.2.2, h3.2.2, h2.2.2, h1.2.2]
theorem Y3k (w : walk_way) (at_ : Nat) (l : List Inst) (hl : Z71 l) (ha : w.atoms.length ≤ 1000) (hs : w.set.length ≤ 1000) :
  Zj5 w (at_ : Int) l = some (match Z2j at_ l with | some n => (wdo w l, (n : Int), true) | none => (Z45 (wdo w l), 0, false)) := by
 have hlim : lim = 4294967296 := rfl
 have b1 := Zqj w hl
 have b2 := Zhk (Z42 w l) l
 have b3 := Zk1 (Z3p (Z42 w l) l) hl
 have b4 := Zl1 w hl
 have j4 : ∀ b : walk_way, b.atoms.length ≤ 2000 → b.set.length ≤ 2000 → Zdu l (at_ : Int) b = some (match Z2j at_ l with | some n => (b, (n : Int), true) | none => (Z45 b, 0, false)) := fun b h1 h2 => by
  unfold Zdu
  rw [Zjm l 1 hl, Option.bind_some]
  have hend : ((Zcz b.set).bind fun x12 => (Zcu b x12).bind fun x13 => some (x13, (0 : Int), false)) = some (Z45 b, 0, false) := by
   have := Zoy b.set
   rw [Y2o _ (by omega), Option.bind_some, Zwp b _ (by omega)]; rfl
  cases hi : ofI l 1 with
  | none => rw [Zuh hi]; exact hend
  | some i =>
   show (bif ((true && decide (i.Table > (at_ : Int))) && decide (i.Table < 4)) then some (b, i.Table, true) else _) = _
   rw [Bool.true_and]
   by_cases hc : i.Table > (at_ : Int) ∧ i.Table < 4
   ·have hd : (decide (i.Table > (at_ : Int)) && decide (i.Table < 4)) = true := by
     rw [Bool.and_eq_true, decide_eq_true_eq, decide_eq_true_eq]; exact hc
    have : ((i.Table.toNat : Nat) : Int) = i.Table := by omega
    rw [Zt8 hi hc, hd, cond_true]
    simp [this]
   ·have hd : (decide (i.Table > (at_ : Int)) && decide (i.Table < 4)) = false := by
     rw [Bool.and_eq_false_iff, decide_eq_false_iff_not, decide_eq_false_iff_not]; omega
    rw [Zxg hi hc, hd, cond_false]
    exact hend
 have j3 : ∀ b : walk_way, b.atoms.length ≤ 2000 → b.set.length ≤ 2000 → Zf4 l (at_ : Int) b = some (match Z2j at_ l with | some n => (Z3d b l, (n : Int), true) | none => (Z45 (Z3d b l), 0, false)) := fun b h1 h2 => by
  have b5 := Zqp b l
  unfold Zf4
  rw [Zjm l 2 hl, Option.bind_some, ← j4 (Z3d b l) (by rw [b5.1]; omega) (by rw [b5.2.1]; omega)]
  unfold Z3d
  cases hi : ofI l 2 with
  | none => rfl
  | some i =>
   simp only [Z1z, cond_true]
   rw [Zh6]; rfl
 have j2 : ∀ b : walk_way, b.atoms.length ≤ 1500 → b.set.length ≤ 1500 → Zdl l (at_ : Int) b = some (match Z2j at_ l with | some n => (Z3d (Z3b b l) l, (n : Int), true) | none => (Z45 (Z3d (Z3b b l) l), 0, false)) := fun b h1 h2 => by
  have b5 := Zk1 b hl
  unfold Zdl
  rw [Zjm l 3 hl, Option.bind_some, ← j3 (Z3b b l) (by rw [b5.1]; omega) (by have := b5.2.1; omega)]
  unfold Z3b
  cases hi : ofI l 3 with
  | none => rfl
  | some i =>
   have := hl i (Zeq hi)
   simp only [Z1z, cond_true]
   rw [Yhd _ _ (by omega)]; rfl
 have j1 : ∀ b : walk_way, b.atoms.length ≤ 1500 → b.set.length ≤ 1500 → Zf8 l (at_ : Int) b = some (match Z2j at_ l with | some n => (Z3d (Z3b (Z3p b l) l) l, (n : Int), true) | none => (Z45 (Z3d (Z3b (Z3p b l) l) l), 0, false)) := fun b h1 h2 => by
  have b5 := Zhk b l
  unfold Zf8
  rw [Zjm l 5 hl, Option.bind_some, ← j2 (Z3p b l) (by rw [b5.1]; omega) (by have := b5.2.1; omega)]
  unfold Z3p
  cases hi : ofI l 5 with
  | none => rfl
  | some i => rfl
 unfold Zj5
 rw [Zjm l 4 hl, Option.bind_some]
 have := j1 (Z42 w l) (by omega) (by rw [b1.2.1]; omega)
 unfold wdo
 rw [← this]
 unfold Z42
 cases hi : ofI l 4 with
 | none => rfl
 | some i =>
  have := hl i (Zeq hi)
  simp only [Z1z, cond_true]
  rw [Zwp w _ (by omega)]; rfl
def Z12 (s : Switch) (i : Nat) : List Flow := if h : i < 4 then Vector.get s.Tables ⟨i, h⟩ else []
theorem Zhs (s : Switch) (i : Nat) (h : i < 4) : Vector.get s.Tables ⟨i, h⟩ = Z12 s i := by unfold Z12; rw [dif_pos h]
def Z3n (w : walk_way) : Rule := ⟨w.cube, w.atoms⟩
def Z5l (R : Nat → walk_way → List Rule) (t : List Flow) (at_ : Nat) (w : walk_way) (i : Int) : List Rule := match t[i.toNat]? with
 | none => []
 | some f => match Z6g w f with
  | none => []
  | some x => match Z2j at_ f.Insts with
   | some n => R n (wdo x f.Insts)
   | none => [Z3n (Z45 (wdo x f.Insts))]
def Z3z (s : Switch) : Nat → Nat → walk_way → List Rule
 | 0, _, w => [Z3n w]
 | d + 1, at_, w => (Z5x (Z12 s at_)).flatMap (Z5l (Z3z s d) (Z12 s at_) at_ w) ++ [Z3n w]
def Zxo (t : List Flow) : Prop := t.length < 20 ∧ ∀ f ∈ t, Z71 f.Insts
def Z8e (s : Switch) : Prop := ∀ i, i < 4 → Zxo (Z12 s i)
def Z47 (at_ : Nat) (w : walk_way) : Prop := w.atoms.length ≤ 12 * at_ ∧ w.set.length ≤ 12 * at_
theorem Y1h (w : walk_way) (h : w.atoms.length ≤ 100000) : Zdp w = some (Z3n w) := by
 have hlim : lim = 4294967296 := rfl
 unfold Zdp Zbt
 rw [Z1m (by simp; omega)]; rfl
theorem Zol {w x : walk_way} {f : Flow} (h : Z6g w f = some x) : x.atoms = w.atoms ∧ x.set = w.set := by
 unfold Z6g at h
 obtain ⟨b, h1, h2⟩ := Option.bind_eq_some_iff.1 h
 obtain ⟨c, h3, h4⟩ := Option.map_eq_some_iff.1 h2
 subst h4
 exact ⟨rfl, rfl⟩
theorem Zvy (w : walk_way) : (Z45 w).atoms.length ≤ w.atoms.length + w.set.length := by
 have h1 := Zoy w.set
 have h2 := Zhl (Z98 w.set)
 show (w.atoms ++ _).length ≤ _
 rw [List.length_append, Zg4]; omega
def goP {σ : Type} (r : Lp σ) : Bool × Lp σ := (r.isGo, r)
theorem Zza (sg : Type) (y : sg → Rule → Option (Lp sg)) (s : Switch) (at_ : Nat) (ha : at_ < 4) (hs : Zxo (Z12 s at_)) (w : walk_way) (hw : Z47 at_ w) (R : Lp sg → Switch → Int → walk_way → Option (Bool × Lp sg)) (Rm : Nat → walk_way → List Rule)
  (hR : ∀ (n : Nat) (x : walk_way) (z : sg), at_ < n → n < 4 → Z47 n x → R (.go z) s (n : Int) x = (yf y (Rm n x) z).map goP) :
  ∀ (l : List Int) (i : Nat) (z : sg), (∀ j ∈ l, ∃ k : Nat, k < (Z12 s at_).length ∧ j = (k : Int)) → Z5d sg w y (at_ : Int) s R l i (.go z) = (yf y (l.flatMap (Z5l Rm (Z12 s at_) at_ w) ++ [Z3n w]) z).map goP
 | [], i, z, _ => by
  rw [Z5d, Y1h w (by have := hw.1; omega), Option.bind_some]
  show (y z (Z3n w)).bind _ = _
  rw [List.flatMap_nil, List.nil_append, yf]
  cases y z (Z3n w) with
  | none => rfl
  | some r => cases r <;> rfl
 | j :: l, i, z, hl => by
  obtain ⟨k, hk, rfl⟩ := hl j (by simp)
  have ih := fun z => Zza sg y s at_ ha hs w hw R Rm hR l (i + 1) z fun j hj => hl j (by simp [hj])
  have tail : ∀ (L : List Rule), ((yf y L z).map goP).bind (fun b24 => Zgl sg (Z5d sg w y (at_ : Int) s R l) i b24.2 b24.1) = (yf y (L ++ (l.flatMap (Z5l Rm (Z12 s at_) at_ w) ++ [Z3n w])) z).map goP := fun L => by
   rw [Zs7]
   cases yf y L z with
   | none => rfl
   | some r =>
    cases r with
    | out c q => rfl
    | go q => exact ih q
  rw [Z5d, Z29 ha, Option.bind_some, Zhs, Z21 hk, Option.bind_some, List.flatMap_cons, List.append_assoc]
  have hf := hs.2 _ (List.getElem_mem hk)
  have hrule : Z5l Rm (Z12 s at_) at_ w (k : Int) = match Z6g w (Z12 s at_)[k] with
    | none => []
    | some x => match Z2j at_ (Z12 s at_)[k].Insts with
     | some n => Rm n (wdo x (Z12 s at_)[k].Insts)
     | none => [Z3n (Z45 (wdo x (Z12 s at_)[k].Insts))] := by
   unfold Z5l
   rw [Int.toNat_natCast, List.getElem?_eq_getElem hk]
  obtain ⟨zz, hz⟩ := Y4s w (Z12 s at_)[k]
  rw [hrule, hz, Option.bind_some]
  cases hm : Z6g w (Z12 s at_)[k] with
  | none => exact ih z
  | some x =>
   have hx := Zol hm
   have hwx : Z47 at_ x := by unfold Z47; rw [hx.1, hx.2]; exact hw
   have hd := Zl1 x hf
   simp only [Z1z, Bool.not_true, cond_false]
   rw [Y3k x at_ _ hf (by have := hwx.1; omega) (by have := hwx.2; omega), Option.bind_some]
   cases hn : Z2j at_ (Z12 s at_)[k].Insts with
   | some n =>
    have hnb := Zkw hn
    simp only [cond_true]
    rw [hR n _ z hnb.1 hnb.2 ⟨by have := hwx.1; have := hd.1; omega, by have := hwx.2; have := hd.2.1; omega⟩]
    exact tail _
   | none =>
    simp only [cond_false]
    have he := Zvy (wdo x (Z12 s at_)[k].Insts)
    rw [Y1h _ (by have := hwx.1; have := hwx.2; have := hd.1; have := hd.2.1; omega), Option.bind_some, ← tail]
    show (y z (Z3n _)).bind _ = _
    rw [yf]
    cases y z (Z3n (Z45 (wdo x (Z12 s at_)[k].Insts))) with
    | none => rfl
    | some r => cases r <;> rfl
theorem Zv3 (sg : Type) (y : sg → Rule → Option (Lp sg)) (s : Switch) (hs : Z8e s) : ∀ (d f at_ : Nat) (w : walk_way) (z : sg), 4 ≤ at_ + d → at_ < 4 → d ≤ f → Z47 at_ w →
  Zco sg y f (.go z) s (at_ : Int) w = (yf y (Z3z s d at_ w) z).map goP
 | 0, f, at_, w, z, h0, h1, _, _ => by omega
 | d + 1, 0, at_, w, z, _, _, h2, _ => by omega
 | d + 1, f + 1, at_, w, z, h1, ha, h2, hw => by
  have hl := hs at_ ha
  show Zhu sg y (Zco sg y f) (.go z) s (at_ : Int) w = _
  unfold Zhu
  rw [Z29 ha, Option.bind_some, Zhs, Yge _ hl.1, Option.bind_some, Z3z]
  exact Zza sg y s at_ ha hl w hw _ (Z3z s d) (fun n x q h3 h4 h5 => Zv3 sg y s hs d f n x q (by omega) h4 (by omega) h5) _ 0 z fun j hj => Zyw.1 hj
def way0 : walk_way := ⟨Z2f, Z2f, [], []⟩
def Z3x (s : Switch) : List Rule := Z3z s 4 0 way0
theorem Y7a (sg : Type) (y : sg → Rule → Option (Lp sg)) (s : Switch) (hs : Z8e s) (z : sg) : Zc8 sg y (.go z) s = yf y (Z3x s) z := by
 unfold Zc8 Zg2 Zdf Znx
 rw [Option.bind_some, Option.bind_some]
 have := Zv3 sg y s hs 4 Z0y 0 way0 z (by omega) (by omega) (by unfold Z0y; omega) ⟨by simp [way0], by simp [way0]⟩
 show (Zco sg y Z0y (.go z) s ((0 : Nat) : Int) way0).bind _ = _
 rw [this]
 show _ = yf y (Z3z s 4 0 way0) z
 cases yf y (Z3z s 4 0 way0) z <;> rfl
def Z4w (s : Switch) : Nat → Nat → Nat
 | 0, _ => 1
 | d + 1, at_ => ((Z12 s at_).length + 1) * Z4w s d (at_ + 1)
theorem Zu5 (s : Switch) : ∀ (d at_ : Nat), 1 ≤ Z4w s d at_
 | 0, _ => Nat.le_refl _
 | d + 1, at_ => Nat.le_trans (Zu5 s d (at_ + 1)) (Nat.le_mul_of_pos_left _ (by omega))
theorem Zpm (s : Switch) : ∀ (d at_ n : Nat), at_ + d = 4 → at_ ≤ n → n ≤ 4 → Z4w s (4 - n) n ≤ Z4w s d at_
 | 0, at_, n, h1, h2, h3 => by
  have : n = 4 := by omega
  subst this
  exact Nat.le_refl _
 | d + 1, at_, n, h1, h2, h3 => by
  by_cases e : n = at_
  ·subst e
   have : 4 - n = d + 1 := by omega
   rw [this]; exact Nat.le_refl _
  ·rw [Z4w]
   exact Nat.le_trans (Zpm s d (at_ + 1) n (by omega) (by omega) h3) (Nat.le_mul_of_pos_left _ (by omega))
theorem Y05 {α β : Type} (f : α → List β) (k : Nat) : ∀ l : List α, (∀ x ∈ l, (f x).length ≤ k) → (l.flatMap f).length ≤ l.length * k
 | [], _ => by simp
 | x :: l, h => by
  rw [List.flatMap_cons, List.length_append, List.length_cons, Nat.add_mul, Nat.one_mul]
  have h1 := h x (by simp)
  have h2 := Y05 f k l fun y hy => h y (by simp [hy])
  omega
theorem Zns (s : Switch) : ∀ (d at_ : Nat) (w : walk_way), 4 ≤ at_ + d → at_ < 4 → (Z3z s d at_ w).length ≤ Z4w s (4 - at_) at_
 | 0, at_, w, h, h' => by omega
 | d + 1, at_, w, h, h' => by
  have e : 4 - at_ = (4 - (at_ + 1)) + 1 := by omega
  rw [Z3z, List.length_append, List.length_singleton, e, Z4w, Nat.add_mul, Nat.one_mul]
  have h1 := Zu5 s (4 - (at_ + 1)) (at_ + 1)
  have h2 := Y05 (Z5l (Z3z s d) (Z12 s at_) at_ w) (Z4w s (4 - (at_ + 1)) (at_ + 1)) (Z5x (Z12 s at_)) fun i hi => by
   unfold Z5l
   split
   ·simp
   ·split
    ·simp
    ·split
     ·rename_i n hn
      have hb := Zkw hn
      refine Nat.le_trans (Zns s d n _ (by omega) hb.2) ?_
      exact Zpm s (4 - (at_ + 1)) (at_ + 1) n (by omega) (by omega) (by omega)
     ·simpa using h1
  rw [Zyr] at h2
  omega
theorem Y0x (s : Switch) : (Z3x s).length ≤ Z4w s 4 0 := Zns s 4 0 way0 (by omega) (by omega)
theorem Y92 (s : Switch) (hs : Z8e s) (h : Z4w s 4 0 ≤ lim) : Zdd s = some (Z3x s) := by
 unfold Zdd Zm7 Zmp Znf
 rw [Option.bind_some, Ygi (Z3x s) _ (fun y z => Y7a _ y s hs z) (Nat.le_trans (Y0x s) h)]
 rfl
end Go.Proofs.YtknpgojdkobgjaaGreat.W
namespace Go.Proofs.YtknpgojdkobgjaaGreat.W
open Go Go.Wb
def Zj7 (l : List Inst) : Bool := decide ((l.length : Int) ≤ 8) && !(l.any fun i => !decide ((i.Acts.length : Int) ≤ 12))
theorem Y5s (s : List Inst) (f : Inst → Option Bool) (p : Inst → Bool) (hf : ∀ x ∈ s, f x = some (p x)) : Zi9 s f = some (s.any p) := by
 unfold Zi9; rw [Zso s f p hf, Option.bind_some, Zdq]
theorem Yfv (l : List Inst) : Zi8 l = some (Zj7 l) := by
 unfold Zi8 Zj7
 rw [Y5s l Zkm (fun i => !decide ((i.Acts.length : Int) ≤ 12)) (fun x _ => rfl)]
 cases decide ((l.length : Int) ≤ 8) <;> rfl
def Zet (f : Flow) : Bool := decide ((f.Match.length : Int) ≤ 30) && Zj7 f.Insts
theorem Yaw (f : Flow) : Zk8 f = some (Zet f) := by
 unfold Zk8 Zet
 rw [Yfv]
 cases decide ((f.Match.length : Int) ≤ 30) <;> rfl
theorem Y3b (s : List Flow) (f : Flow → Option Bool) (p : Flow → Bool) (hf : ∀ x ∈ s, f x = some (p x)) : Zh5 s f = some (Z0b p s) := by
 unfold Zh5
 rw [show ((s.length : Int)).toNat = s.length by omega]
 exact Zcg p (fun i => by rw [Z9n]) (fun m i => by rw [Z9n]) hf
theorem Y4c (s : List Flow) (f : Flow → Option Bool) (p : Flow → Bool) (hf : ∀ x ∈ s, f x = some (p x)) : Zj6 s f = some (s.any p) := by
 unfold Zj6; rw [Y3b s f p hf, Option.bind_some, Zdq]
def Zcl (t : List Flow) (many : Int) : Bool := decide ((t.length : Int) ≤ many) && !(t.any fun f => !Zet f)
theorem Y1z (t : List Flow) (many : Int) : Zi5 t many = some (Zcl t many) := by
 unfold Zi5 Zcl
 rw [Y4c t Zie (fun f => !Zet f) (fun f _ => by unfold Zie; rw [Yaw]; rfl)]
 cases decide ((t.length : Int) ≤ many) <;> rfl
def Zap (s : Switch) (many : Int) : Bool := (Vector.toList s.Tables).all (fun t => Zcl t many) && Zee s.Groups 9 3
theorem Zwq (s : Switch) (many : Int) : ∀ (l : List (List Flow)) (i : Nat), Z6t s many l i = some (l.all (fun t => Zcl t many) && Zee s.Groups 9 3)
 | [], i => by rw [Z6t, Ybg]; rfl
 | t :: l, i => by
  rw [Z6t, Y1z, Option.bind_some, Zwq s many l (i + 1), List.all_cons]
  cases Zcl t many <;> rfl
theorem Yaa (s : Switch) (many : Int) : Zk3 s many = some (Zap s many) := Zwq s many _ 0
theorem Ygb (s : Switch) (i : Nat) (h : i < 4) : Z12 s i = (Vector.toList s.Tables)[i]'(by simp; exact h) := by
 rw [← Zhs s i h, Vector.getElem_toList]; rfl
theorem Y46 (s : Switch) (i : Nat) (h : i < 4) : Z12 s i ∈ Vector.toList s.Tables := by
 rw [Ygb s i h]; exact List.getElem_mem _
theorem Yf2 {l : List Inst} (h : Zj7 l = true) : l.length ≤ 8 ∧ Z71 l := by
 unfold Zj7 at h
 simp only [Bool.and_eq_true, decide_eq_true_eq, Bool.not_eq_true', List.any_eq_false] at h
 refine ⟨by omega, fun i hi => ?_⟩
 have h1 : decide ((i.Acts.length : Int) ≤ 12) = true := by simpa using h.2 i hi
 rw [decide_eq_true_eq] at h1
 omega
theorem Ydd {f : Flow} (h : Zet f = true) : f.Match.length ≤ 30 ∧ f.Insts.length ≤ 8 ∧ Z71 f.Insts := by
 unfold Zet at h
 rw [Bool.and_eq_true, decide_eq_true_eq] at h
 exact ⟨by omega, Yf2 h.2⟩
theorem Y6f {t : List Flow} {many : Nat} (h : Zcl t (many : Int) = true) : t.length ≤ many ∧ ∀ f ∈ t, f.Match.length ≤ 30 ∧ f.Insts.length ≤ 8 ∧ Z71 f.Insts := by
 unfold Zcl at h
 simp only [Bool.and_eq_true, decide_eq_true_eq, Bool.not_eq_true', List.any_eq_false] at h
 exact ⟨by omega, fun f hf => Ydd (by simpa using h.2 f hf)⟩
theorem Zgy {s : Switch} {many : Nat} (h : Zap s (many : Int) = true) : (∀ i, i < 4 → (Z12 s i).length ≤ many ∧ ∀ f ∈ Z12 s i, f.Match.length ≤ 30 ∧ f.Insts.length ≤ 8 ∧ Z71 f.Insts) ∧ Z7w s.Groups := by
 unfold Zap at h
 rw [Bool.and_eq_true, List.all_eq_true] at h
 exact ⟨fun i hi => Y6f (h.1 _ (Y46 s i hi)), Y2n h.2⟩
theorem Yfi {s : Switch} {many : Nat} (h : Zap s (many : Int) = true) (hm : many < 20) : Z8e s := fun i hi => ⟨by have := ((Zgy h).1 i hi).1; omega, fun f hf => (((Zgy h).1 i hi).2 f hf).2.2⟩
theorem Y5v (s : Switch) (m : Nat) (h : ∀ i, i < 4 → (Z12 s i).length ≤ m) : Z4w s 4 0 ≤ (m + 1) * ((m + 1) * ((m + 1) * ((m + 1) * 1))) := by
 show ((Z12 s 0).length + 1) * (((Z12 s 1).length + 1) * (((Z12 s 2).length + 1) * (((Z12 s 3).length + 1) * 1))) ≤ _
 have h0 := h 0 (by omega)
 have h1 := h 1 (by omega)
 have h2 := h 2 (by omega)
 have h3 := h 3 (by omega)
 exact Nat.mul_le_mul (by omega) (Nat.mul_le_mul (by omega) (Nat.mul_le_mul (by omega) (Nat.mul_le_mul (by omega) (Nat.le_refl _))))
end Go.Proofs.YtknpgojdkobgjaaGreat.W
