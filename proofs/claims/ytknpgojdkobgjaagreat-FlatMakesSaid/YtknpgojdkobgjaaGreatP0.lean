/- A part of the proof. -/
import Derived.Test.YtknpgojdkobgjaaGreatG3
set_option linter.unusedVariables false
set_option linter.unusedSimpArgs false
namespace Go.Proofs.YtknpgojdkobgjaaGreat.W
open Go Go.Wb
abbrev big : Nat := 1000000
theorem Z4w {α : Type} (P Q : List α) (x : α) (i : Int) (h : i = (P.length : Int)) : lget (P ++ x :: Q) i = some x := by
 subst h
 rw [Z6k, List.getElem?_append_right (Nat.le_refl _)]; simp
theorem Z6y {α : Type} (P Q : List α) (x y : α) (i : Nat) (h : i = P.length) : List.set (P ++ x :: Q) i y = P ++ y :: Q := by
 subst h
 rw [List.set_append_right _ _ (Nat.le_refl _)]; simp
theorem wr {n : Int} (h1 : -4611686018427387904 ≤ n) (h2 : n ≤ 4611686018427387904) : IntKind.i64.wrap n = n := Z2g (by omega) (by omega)
theorem Zao (n : Nat) (h : n ≤ 4611686018427387904) : IntKind.i64.wrap ((BitVec.ofNat 64 n).toNat : Int) = (n : Int) := by
 have : (BitVec.ofNat 64 n).toNat = n := by rw [BitVec.toNat_ofNat]; omega
 rw [this, wr (by omega) (by omega)]
theorem Zol (k : Int) (n : Nat) (hk : k = (n : Int)) (h : n ≤ 4611686018427387904) : Z36 (BitVec.ofInt 64 (IntKind.i64.wrap k)) ((1 : BitVec 64).toNat : Int) = some (BitVec.ofNat 64 (n / 2)) := by
 subst hk
 rw [wr (by omega) (by omega), show ((1 : BitVec 64).toNat : Int) = ((1 : Nat) : Int) from rfl]
 unfold Z36
 rw [decide_eq_false (by omega), cond_false, BitVec.ofInt_natCast, Int.toNat_natCast]
 congr 1
 apply BitVec.eq_of_toNat_eq
 rw [BitVec.toNat_ushiftRight, BitVec.toNat_ofNat, BitVec.toNat_ofNat, Nat.shiftRight_eq_div_pow]
 omega
theorem Zuq (n a b : Nat) : ∀ (U V P M Q : List Action) (i f : Nat), U.length = V.length → P.length = a + i → P.length + U.length + M.length = b + i → i + U.length = n → U.length < f → (P ++ U ++ M ++ V ++ Q).length ≤ big →
  Zcr (n : Int) (b : Int) (a : Int) f (P ++ U ++ M ++ V ++ Q) (i : Int) = some (P ++ V ++ M ++ U ++ Q)
 | [], V, P, M, Q, i, f, h1, h2, h3, h4, h5, h6 => by
  have hV : V = [] := List.eq_nil_of_length_eq_zero (by simpa using h1.symm)
  subst hV
  obtain ⟨f, rfl⟩ : ∃ k, f = k + 1 := ⟨f - 1, by simp at h5; omega⟩
  rw [Zcr, decide_eq_false (by simp at h4; omega), cond_false]
 | u :: U, [], P, M, Q, i, f, h1, h2, h3, h4, h5, h6 => by simp at h1
 | u :: U, v :: V, P, M, Q, i, f, h1, h2, h3, h4, h5, h6 => by
  obtain ⟨f, rfl⟩ : ∃ k, f = k + 1 := ⟨f - 1, by simp at h5; omega⟩
  simp only [List.length_cons, List.length_append] at h1 h3 h4 h5 h6
  have hbig : big = 1000000 := rfl
  have ea : IntKind.i64.wrap ((a : Int) + (i : Int)) = (P.length : Int) := by rw [wr (by omega) (by omega)]; omega
  have eb : IntKind.i64.wrap ((b : Int) + (i : Int)) = ((P ++ u :: U ++ M).length : Int) := by
   rw [wr (by omega) (by omega)]; simp only [List.length_append, List.length_cons]; omega
  have e1 : P ++ u :: U ++ M ++ v :: V ++ Q = (P ++ u :: U ++ M) ++ v :: (V ++ Q) := by simp
  have e2 : P ++ u :: U ++ M ++ v :: V ++ Q = P ++ u :: (U ++ M ++ v :: V ++ Q) := by simp
  have e3 : P ++ v :: (U ++ M ++ v :: V ++ Q) = (P ++ v :: U ++ M) ++ v :: (V ++ Q) := by simp
  have e4 : (P ++ v :: U ++ M) ++ u :: (V ++ Q) = (P ++ [v]) ++ U ++ (M ++ [u]) ++ V ++ Q := by simp
  have g1 : lget (P ++ u :: U ++ M ++ v :: V ++ Q) ((P ++ u :: U ++ M).length : Int) = some v := by rw [e1]; exact Z4w _ _ _ _ rfl
  have g2 : lget (P ++ u :: U ++ M ++ v :: V ++ Q) (P.length : Int) = some u := by rw [e2]; exact Z4w _ _ _ _ rfl
  have s1 : List.set (P ++ u :: U ++ M ++ v :: V ++ Q) ((P.length : Int)).toNat v = (P ++ v :: U ++ M) ++ v :: (V ++ Q) := by
   rw [e2, Int.toNat_natCast, Z6y _ _ _ _ _ rfl, e3]
  have hl : (P ++ u :: U ++ M).length = (P ++ v :: U ++ M).length := by simp
  have g3 : lget ((P ++ v :: U ++ M) ++ v :: (V ++ Q)) ((P ++ u :: U ++ M).length : Int) = some v := Z4w _ _ _ _ (by rw [hl])
  have s2 : List.set ((P ++ v :: U ++ M) ++ v :: (V ++ Q)) (((P ++ u :: U ++ M).length : Int)).toNat u = (P ++ [v]) ++ U ++ (M ++ [u]) ++ V ++ Q := by
   rw [Int.toNat_natCast, Z6y _ _ _ _ _ hl, e4]
  have ei : IntKind.i64.wrap ((i : Int) + 1) = ((i + 1 : Nat) : Int) := by rw [wr (by omega) (by omega)]; omega
  rw [Zcr, decide_eq_true (by omega), cond_true, eb, g1, Option.bind_some, ea, g2, Option.bind_some, Option.bind_some, s1, g3, Option.bind_some, s2, ei,
   Zuq n a b U V (P ++ [v]) (M ++ [u]) Q (i + 1) f (by omega) (by simp only [List.length_append, List.length_cons, List.length_nil]; omega) (by simp only [List.length_append, List.length_cons, List.length_nil]; omega) (by omega) (by omega) (by simp only [List.length_append, List.length_cons, List.length_nil]; omega)]
  simp
theorem Zt5 (U V P M Q : List Action) (cmp : Action → Action → Option Int) (a b n : Int) (h : U.length = V.length) (ha : a = (P.length : Int)) (hb : b = ((P ++ U ++ M).length : Int)) (hn : n = (U.length : Int)) (hl : (P ++ U ++ M ++ V ++ Q).length ≤ big) :
  Zat (P ++ U ++ M ++ V ++ Q) a b n cmp = some (P ++ V ++ M ++ U ++ Q) := by
 subst ha hb hn
 unfold Zat
 exact Zuq U.length P.length (P ++ U ++ M).length U V P M Q 0 _ h rfl (by simp only [List.length_append]; omega) (by omega) (by omega) hl
theorem Zq5 (cmp : Action → Action → Option Int) : ∀ (f : Nat) (X Y P Q : List Action) (m : Nat), 0 < X.length → 0 < Y.length → X.length + Y.length ≤ f → P.length + X.length = m → (P ++ X ++ Y ++ Q).length ≤ big →
  Zbm (m : Int) cmp f (P ++ X ++ Y ++ Q) (X.length : Int) (Y.length : Int) = some (P ++ Y ++ X ++ Q)
 | 0, X, Y, P, Q, m, h1, h2, h3, h4, h5 => by omega
 | f + 1, X, Y, P, Q, m, h1, h2, h3, h4, h5 => by
  have hbig : big = 1000000 := rfl
  simp only [List.length_append] at h5
  have em : IntKind.i64.wrap ((m : Int) - (X.length : Int)) = (P.length : Int) := by rw [wr (by omega) (by omega)]; omega
  rw [Zbm, em]
  by_cases he : X.length = Y.length
  ·rw [decide_eq_false (by omega), cond_false]
   have := Zt5 X Y P [] Q cmp (P.length : Int) (m : Int) (X.length : Int) he rfl (by simp; omega) rfl (by simp only [List.length_append, List.length_nil]; omega)
   simp only [List.append_nil] at this
   rw [this]; rfl
  ·rw [decide_eq_true (by omega), cond_true]
   by_cases hg : X.length > Y.length
   ·rw [decide_eq_true (by omega), cond_true]
    have hx : X = X.take Y.length ++ X.drop Y.length := (List.take_append_drop ..).symm
    generalize hX1 : X.take Y.length = X1 at hx
    generalize hX2 : X.drop Y.length = X2 at hx
    have l1 : X1.length = Y.length := by rw [← hX1]; simp; omega
    have l2 : X2.length = X.length - Y.length := by rw [← hX2]; simp
    have := Zt5 X1 Y P X2 Q cmp (P.length : Int) (m : Int) (Y.length : Int) l1 rfl (by simp only [List.length_append]; omega) (by omega) (by simp only [List.length_append]; omega)
    have e1 : P ++ X ++ Y ++ Q = P ++ X1 ++ X2 ++ Y ++ Q := by rw [hx]; simp
    have e2 : P ++ Y ++ X2 ++ X1 ++ Q = (P ++ Y) ++ X2 ++ X1 ++ Q := by simp
    have e3 : IntKind.i64.wrap ((X.length : Int) - (Y.length : Int)) = (X2.length : Int) := by rw [wr (by omega) (by omega)]; omega
    have e4 : ((Y.length : Nat) : Int) = (X1.length : Int) := by omega
    rw [e1, this, Option.bind_some, e2, e3, e4, Zq5 cmp f X2 X1 (P ++ Y) Q m (by omega) (by omega) (by omega) (by simp only [List.length_append]; omega) (by simp only [List.length_append]; omega)]
    rw [hx]; simp
   ·rw [decide_eq_false (by omega), cond_false]
    have hy : Y = Y.take (Y.length - X.length) ++ Y.drop (Y.length - X.length) := (List.take_append_drop ..).symm
    generalize hY1 : Y.take (Y.length - X.length) = Y1 at hy
    generalize hY2 : Y.drop (Y.length - X.length) = Y2 at hy
    have l1 : Y1.length = Y.length - X.length := by rw [← hY1]; simp
    have l2 : Y2.length = X.length := by rw [← hY2]; simp; omega
    have hb : IntKind.i64.wrap (IntKind.i64.wrap ((m : Int) + (Y.length : Int)) - (X.length : Int)) = ((P ++ X ++ Y1).length : Int) := by
     rw [wr (n := (m : Int) + (Y.length : Int)) (by omega) (by omega), wr (by omega) (by omega)]; simp only [List.length_append]; omega
    have := Zt5 X Y2 P Y1 Q cmp (P.length : Int) ((P ++ X ++ Y1).length : Int) (X.length : Int) (by omega) rfl rfl rfl (by simp only [List.length_append]; omega)
    have e1 : P ++ X ++ Y ++ Q = P ++ X ++ Y1 ++ Y2 ++ Q := by rw [hy]; simp
    have e2 : P ++ Y2 ++ Y1 ++ X ++ Q = P ++ Y2 ++ Y1 ++ (X ++ Q) := by simp
    have e3 : IntKind.i64.wrap ((Y.length : Int) - (X.length : Int)) = (Y1.length : Int) := by rw [wr (by omega) (by omega)]; omega
    have e4 : ((X.length : Nat) : Int) = (Y2.length : Int) := by omega
    rw [hb, e1, this, Option.bind_some, e2, e3, e4, Zq5 cmp f Y2 Y1 P (X ++ Q) m (by omega) (by omega) (by omega) (by omega) (by simp only [List.length_append]; omega)]
    rw [hy]; simp
theorem Ycb (cmp : Action → Action → Option Int) (X Y P Q : List Action) (a m b : Int) (h1 : 0 < X.length) (h2 : 0 < Y.length) (ha : a = (P.length : Int)) (hm : m = ((P ++ X).length : Int)) (hb : b = ((P ++ X ++ Y).length : Int)) (hl : (P ++ X ++ Y ++ Q).length ≤ big) :
  Zfm (P ++ X ++ Y ++ Q) a m b cmp = some (P ++ Y ++ X ++ Q) := by
 subst ha hm hb
 have hbig : big = 1000000 := rfl
 simp only [List.length_append] at hl
 unfold Zfm
 have e1 : IntKind.i64.wrap (((P ++ X).length : Int) - (P.length : Int)) = (X.length : Int) := by rw [wr (by simp only [List.length_append]; omega) (by simp only [List.length_append]; omega)]; simp only [List.length_append]; omega
 have e2 : IntKind.i64.wrap (((P ++ X ++ Y).length : Int) - ((P ++ X).length : Int)) = (Y.length : Int) := by rw [wr (by simp only [List.length_append]; omega) (by simp only [List.length_append]; omega)]; simp only [List.length_append]; omega
 rw [e1, e2]
 exact Zq5 cmp Z0w X Y P Q _ h1 h2 (by unfold Z0w; omega) (by simp) (by simp only [List.length_append]; omega)
theorem Zhq {β : Type} (G : Nat → Int → Int → Option β) (K : Int → Option β) (t : Nat → Bool) (lo s hi : Nat)
  (step : ∀ (f i j : Nat), lo ≤ i → i < j → j ≤ hi → G (f + 1) (i : Int) (j : Int) = bif t ((i + j) / 2) then G f (((i + j) / 2 + 1 : Nat) : Int) (j : Int) else G f (i : Int) (((i + j) / 2 : Nat) : Int))
  (stop : ∀ (f i : Nat), lo ≤ i → i ≤ hi → G (f + 1) (i : Int) (i : Int) = K (i : Int)) (ht : ∀ c, lo ≤ c → c < s → t c = true) (hf : ∀ c, s ≤ c → c < hi → t c = false) :
  ∀ (f i j : Nat), lo ≤ i → i ≤ s → s ≤ j → j ≤ hi → j - i < f → G f (i : Int) (j : Int) = K (s : Int)
 | 0, i, j, _, _, _, _, h => by omega
 | f + 1, i, j, h1, h2, h3, h4, h5 => by
  by_cases hij : i < j
  ·rw [step f i j h1 hij h4]
   by_cases hc : (i + j) / 2 < s
   ·rw [ht _ (by omega) hc, cond_true]
    exact Zhq G K t lo s hi step stop ht hf f _ j (by omega) (by omega) h3 h4 (by omega)
   ·rw [hf _ (by omega) (by omega), cond_false]
    exact Zhq G K t lo s hi step stop ht hf f i _ h1 h2 (by omega) (by omega) (by omega)
  ·have e1 : i = s := by omega
   have e2 : j = s := by omega
   rw [e1, e2]
   exact stop f s (by omega) (by omega)
theorem Zn0 (t : Nat → Bool) (lo : Nat) : ∀ (n : Nat), (∀ c d, lo ≤ c → c ≤ d → d < lo + n → t c = false → t d = false) → ∃ s, lo ≤ s ∧ s ≤ lo + n ∧ (∀ c, lo ≤ c → c < s → t c = true) ∧ ∀ c, s ≤ c → c < lo + n → t c = false
 | 0, _ => ⟨lo, Nat.le_refl _, Nat.le_refl _, fun c h1 h2 => by omega, fun c h1 h2 => by omega⟩
 | n + 1, hm => by
  obtain ⟨s, h1, h2, h3, h4⟩ := Zn0 t lo n fun c d a b e f => hm c d a b (by omega) f
  by_cases hs : s < lo + n
  ·refine ⟨s, h1, by omega, h3, fun c a b => ?_⟩
   by_cases hc : c < lo + n
   ·exact h4 c a hc
   ·exact hm s c h1 a b (h4 s (Nat.le_refl _) hs)
  ·have : s = lo + n := by omega
   subst this
   cases ht : t (lo + n)
   ·exact ⟨lo + n, h1, by omega, h3, fun c a b => by rw [show c = lo + n by omega, ht]⟩
   ·refine ⟨lo + n + 1, by omega, by omega, fun c a b => ?_, fun c a b => by omega⟩
    by_cases hc : c < lo + n
    ·exact h3 c a hc
    ·have : c = lo + n := by omega
     rw [this, ht]
end Go.Proofs.YtknpgojdkobgjaaGreat.W
namespace Go.Proofs.YtknpgojdkobgjaaGreat.W
open Go Go.Wb
section sym
variable (lt : Action → Action → Bool) (cmp : Action → Action → Option Int)
def Z5j : Prop := ∀ x y, ∃ c, cmp x y = some c ∧ decide (c < 0) = lt x y
variable {lt cmp}
theorem Y0e (e : Nat) : ∀ (Y P Q : List Action) (x : Action) (k f : Nat), k = P.length → k + Y.length + 1 = e → Y.length < f → (P ++ x :: (Y ++ Q)).length ≤ big →
  Z7y (e : Int) f (P ++ x :: (Y ++ Q)) (k : Int) = some (P ++ Y ++ x :: Q)
 | [], P, Q, x, k, f, h1, h2, h3, h4 => by
  obtain ⟨f, rfl⟩ : ∃ k, f = k + 1 := ⟨f - 1, by simp at h3; omega⟩
  have hbig : big = 1000000 := rfl
  simp only [List.length_append, List.length_cons, List.length_nil] at h2 h4
  rw [Z7y, wr (by omega) (by omega), decide_eq_false (by omega), cond_false]
  simp
 | y :: Y, P, Q, x, k, f, h1, h2, h3, h4 => by
  obtain ⟨f, rfl⟩ : ∃ k, f = k + 1 := ⟨f - 1, by simp at h3; omega⟩
  have hbig : big = 1000000 := rfl
  simp only [List.length_append, List.length_cons] at h2 h3 h4
  have ek : IntKind.i64.wrap ((k : Int) + 1) = ((k + 1 : Nat) : Int) := by rw [wr (by omega) (by omega)]; omega
  have e1 : P ++ x :: (y :: Y ++ Q) = (P ++ [x]) ++ y :: (Y ++ Q) := by simp
  have e2 : (P ++ [y]) ++ y :: (Y ++ Q) = P ++ y :: (y :: (Y ++ Q)) := by simp
  have g1 : lget (P ++ x :: (y :: Y ++ Q)) ((k + 1 : Nat) : Int) = some y := by rw [e1]; exact Z4w _ _ _ _ (by simp; omega)
  have g2 : lget (P ++ x :: (y :: Y ++ Q)) (k : Int) = some x := Z4w _ _ _ _ (by omega)
  have s1 : List.set (P ++ x :: (y :: Y ++ Q)) ((k : Int)).toNat y = (P ++ [y]) ++ y :: (Y ++ Q) := by rw [Int.toNat_natCast, Z6y _ _ _ _ _ h1]; simp
  have g3 : lget ((P ++ [y]) ++ y :: (Y ++ Q)) ((k + 1 : Nat) : Int) = some y := Z4w _ _ _ _ (by simp; omega)
  have s2 : List.set ((P ++ [y]) ++ y :: (Y ++ Q)) (((k + 1 : Nat) : Int)).toNat x = (P ++ [y]) ++ x :: (Y ++ Q) := by rw [Int.toNat_natCast, Z6y _ _ _ _ _ (by simp; omega)]
  rw [Z7y, wr (n := (e : Int) - 1) (by omega) (by omega), decide_eq_true (by omega), cond_true, ek, g1, Option.bind_some, g2, Option.bind_some, Option.bind_some, s1, g3, Option.bind_some, s2,
   Y0e e Y (P ++ [y]) Q x (k + 1) f (by simp; omega) (by omega) (by omega) (by simp only [List.length_append, List.length_cons, List.length_nil]; omega)]
  simp
theorem Zwy (s : Nat) : ∀ (R P Q : List Action) (x : Action) (k f : Nat), k = s + R.length → P.length = s → R.length < f → (P ++ R.reverse ++ x :: Q).length ≤ big →
  Z7p (s : Int) f (P ++ R.reverse ++ x :: Q) (k : Int) = some (P ++ x :: (R.reverse ++ Q))
 | [], P, Q, x, k, f, h1, h2, h3, h4 => by
  obtain ⟨f, rfl⟩ : ∃ k, f = k + 1 := ⟨f - 1, by simp at h3; omega⟩
  rw [Z7p, decide_eq_false (by simp at h1; omega), cond_false]
  simp
 | y :: R, P, Q, x, k, f, h1, h2, h3, h4 => by
  obtain ⟨f, rfl⟩ : ∃ k, f = k + 1 := ⟨f - 1, by simp at h3; omega⟩
  have hbig : big = 1000000 := rfl
  simp only [List.length_append, List.length_cons, List.length_reverse] at h1 h3 h4
  have ek : IntKind.i64.wrap ((k : Int) - 1) = ((k - 1 : Nat) : Int) := by rw [wr (by omega) (by omega)]; omega
  have e1 : P ++ (y :: R).reverse ++ x :: Q = (P ++ R.reverse) ++ y :: (x :: Q) := by simp
  have e1' : P ++ (y :: R).reverse ++ x :: Q = (P ++ R.reverse ++ [y]) ++ x :: Q := by simp
  have g1 : lget (P ++ (y :: R).reverse ++ x :: Q) ((k - 1 : Nat) : Int) = some y := by rw [e1]; exact Z4w _ _ _ _ (by simp; omega)
  have g2 : lget (P ++ (y :: R).reverse ++ x :: Q) (k : Int) = some x := by rw [e1']; exact Z4w _ _ _ _ (by simp; omega)
  have s1 : List.set (P ++ (y :: R).reverse ++ x :: Q) ((k : Int)).toNat y = (P ++ R.reverse) ++ y :: (y :: Q) := by rw [e1', Int.toNat_natCast, Z6y _ _ _ _ _ (by simp; omega)]; simp
  have g3 : lget ((P ++ R.reverse) ++ y :: (y :: Q)) ((k - 1 : Nat) : Int) = some y := Z4w _ _ _ _ (by simp; omega)
  have s2 : List.set ((P ++ R.reverse) ++ y :: (y :: Q)) (((k - 1 : Nat) : Int)).toNat x = P ++ R.reverse ++ x :: (y :: Q) := by rw [Int.toNat_natCast, Z6y _ _ _ _ _ (by simp; omega)]
  rw [Z7p, decide_eq_true (by omega), cond_true, ek, g1, Option.bind_some, g2, Option.bind_some, Option.bind_some, s1, g3, Option.bind_some, s2,
   Zwy s R P (y :: Q) x (k - 1) f (by omega) h2 (by omega) (by simp only [List.length_append, List.length_cons, List.length_reverse]; omega)]
  simp
theorem Zli {α : Type} (P X Q : List α) (c : Nat) (h1 : P.length ≤ c) (h2 : c < P.length + X.length) : lget (P ++ X ++ Q) (c : Int) = some (X[c - P.length]'(by omega)) := by
 rw [Z6k, List.append_assoc, List.getElem?_append_right h1, List.getElem?_append_left (by omega), List.getElem?_eq_getElem]
theorem Yg3 {l : List Action} (h : Z14 lt l) {i j : Nat} (hi : i < l.length) (hj : j < l.length) (hij : i < j) : lt l[j] l[i] = false := (List.pairwise_iff_getElem.1 h) i j hi hj hij
theorem Z9i (hs : Swo lt) {l : List Action} (h : Z14 lt l) {i j : Nat} (hi : i < l.length) (hj : j < l.length) (hij : i ≤ j) : lt l[j] l[i] = false := by
 rcases Nat.lt_or_eq_of_le hij with h1 | h1
 ·exact Yg3 h hi hj h1
 ·subst h1
  have := Z72 hs l[i]
  unfold eqv at this
  simpa using this
theorem Zmr {A B : List Action} (h : Z14 lt (A ++ B)) : Z14 lt A := (List.pairwise_append.1 h).1
theorem Zmk {A B : List Action} (h : Z14 lt (A ++ B)) : Z14 lt B := (List.pairwise_append.1 h).2.1
theorem Yd2 (hs : Swo lt) (hc : Z5j lt cmp) (x : Action) (Y P Q : List Action) (hY : Z14 lt Y) (hl : (P ++ x :: (Y ++ Q)).length ≤ big) :
  Z84 (P ++ x :: (Y ++ Q)) (P.length : Int) cmp ((((P.length + 1 + Y.length : Nat) : Int) - ((P.length + 1 : Nat) : Int)).toNat + 1) ((P.length + 1 : Nat) : Int) ((P.length + 1 + Y.length : Nat) : Int) = some (P ++ srt lt (x :: Y) ++ Q) := by
 have hbig : big = 1000000 := rfl
 simp only [List.length_append, List.length_cons] at hl
 have eD : P ++ x :: (Y ++ Q) = (P ++ [x]) ++ Y ++ Q := by simp
 let t : Nat → Bool := fun c => if h : c - (P.length + 1) < Y.length then lt Y[c - (P.length + 1)] x else false
 have htv : ∀ c (h : c - (P.length + 1) < Y.length), t c = lt Y[c - (P.length + 1)] x := fun c h => by simp only [t]; rw [dif_pos h]
 obtain ⟨s, s1, s2, s3, s4⟩ := Zn0 t (P.length + 1) Y.length fun c d h1 h2 h3 h4 => by
  rw [htv c (by omega)] at h4
  rw [htv d (by omega)]
  exact hs.neg _ _ _ (Z9i hs hY (by omega) (by omega) (by omega)) h4
 have key := Zhq (Z84 (P ++ x :: (Y ++ Q)) (P.length : Int) cmp) (fun i => Z7y i ((((IntKind.i64.wrap (i - 1)) : Int) - (P.length : Int)).toNat + 1) (P ++ x :: (Y ++ Q)) (P.length : Int)) t (P.length + 1) s (P.length + 1 + Y.length)
  (fun f i j h1 h2 h3 => by
   obtain ⟨c, hc1, hc2⟩ := hc (Y[(i + j) / 2 - (P.length + 1)]'(by omega)) x
   have gx : lget (P ++ x :: (Y ++ Q)) (P.length : Int) = some x := Z4w _ _ _ _ rfl
   have gy : lget (P ++ x :: (Y ++ Q)) (((i + j) / 2 : Nat) : Int) = some (Y[(i + j) / 2 - (P.length + 1)]'(by omega)) := by
    rw [eD, Zli (P ++ [x]) Y Q _ (by simp; omega) (by simp; omega)]
    simp
   have e1 : IntKind.i64.wrap ((((i + j) / 2 : Nat) : Int) + 1) = (((i + j) / 2 + 1 : Nat) : Int) := by rw [wr (by omega) (by omega)]; omega
   rw [Z84, decide_eq_true (by omega), cond_true, Zol _ (i + j) (by omega) (by omega), Option.bind_some, Zao _ (by omega), gy, Option.bind_some, gx, Option.bind_some, hc1, Option.bind_some, hc2, htv _ (by omega), e1])
  (fun f i h1 h2 => by rw [Z84, decide_eq_false (by omega), cond_false]) s3 (fun c h1 h2 => s4 c h1 h2)
 rw [key _ _ _ (Nat.le_refl _) s1 s2 (Nat.le_refl _) (by omega)]
 have hy : Y = Y.take (s - (P.length + 1)) ++ Y.drop (s - (P.length + 1)) := (List.take_append_drop ..).symm
 have l1 : (Y.take (s - (P.length + 1))).length = s - (P.length + 1) := by simp; omega
 have hm := Y0e s (Y.take (s - (P.length + 1))) P (Y.drop (s - (P.length + 1)) ++ Q) x P.length ((((IntKind.i64.wrap ((s : Int) - 1)) : Int) - (P.length : Int)).toNat + 1) rfl (by omega) (by rw [wr (by omega) (by omega)]; omega) (by simp only [List.length_append, List.length_cons, List.length_drop]; omega)
 rw [← List.append_assoc, ← hy] at hm
 show Z7y (s : Int) _ _ _ = _
 rw [hm]
 have h1 : ∀ y ∈ Y.take (s - (P.length + 1)), lt y x = true := fun y hy1 => by
  obtain ⟨i, hi, rfl⟩ := List.getElem_of_mem hy1
  rw [l1] at hi
  have := s3 (i + (P.length + 1)) (by omega) (by omega)
  rw [htv _ (by omega)] at this
  simpa using this
 have h2 : ∀ y ∈ Y.drop (s - (P.length + 1)), lt y x = false := fun y hy1 => by
  obtain ⟨i, hi, rfl⟩ := List.getElem_of_mem hy1
  rw [List.length_drop] at hi
  have := s4 (s + i) (by omega) (by omega)
  rw [htv _ (by omega)] at this
  rw [List.getElem_drop]
  have e : s + i - (P.length + 1) = s - (P.length + 1) + i := by omega
  simpa [e] using this
 have hY' := hY
 rw [hy] at hY'
 have h3 := Zpj hs (X1 := []) (X2 := [x]) (Y1 := Y.take (s - (P.length + 1))) (Y2 := Y.drop (s - (P.length + 1))) (by simp [Z14]) hY' (by simp) (fun y hy1 u hu => by rw [show u = x by simpa using hu]; exact h1 y hy1)
 simp only [List.nil_append, ← hy] at h3
 have h4 : srt lt ([x] ++ Y.drop (s - (P.length + 1))) = [x] ++ Y.drop (s - (P.length + 1)) := Zf1 hs (by
  unfold Z14
  rw [List.pairwise_append]
  exact ⟨by simp, (Zmk hY'), fun u hu v hv => by rw [show u = x by simpa using hu]; exact h2 v hv⟩)
 rw [h4, Zf1 hs (Zmr hY')] at h3
 rw [show x :: Y = [x] ++ Y from rfl, h3]
 simp
theorem Y5g (hs : Swo lt) (hc : Z5j lt cmp) (x : Action) (X P Q : List Action) (hX : Z14 lt X) (hl : (P ++ X ++ x :: Q).length ≤ big) :
  Z8s (P ++ X ++ x :: Q) ((P.length + X.length : Nat) : Int) cmp ((((P.length + X.length : Nat) : Int) - (P.length : Int)).toNat + 1) (P.length : Int) ((P.length + X.length : Nat) : Int) = some (P ++ srt lt (X ++ [x]) ++ Q) := by
 have hbig : big = 1000000 := rfl
 simp only [List.length_append, List.length_cons] at hl
 let t : Nat → Bool := fun c => if h : c - P.length < X.length then !lt x X[c - P.length] else false
 have htv : ∀ c (h : c - P.length < X.length), t c = !lt x X[c - P.length] := fun c h => by simp only [t]; rw [dif_pos h]
 obtain ⟨s, s1, s2, s3, s4⟩ := Zn0 t P.length X.length fun c d h1 h2 h3 h4 => by
  rw [htv c (by omega)] at h4
  rw [htv d (by omega)]
  simp only [Bool.not_eq_false'] at h4 ⊢
  cases hd : lt x X[d - P.length]
  ·have := hs.neg _ _ _ hd (Z9i hs hX (i := c - P.length) (j := d - P.length) (by omega) (by omega) (by omega))
   rw [this] at h4; cases h4
  ·rfl
 have key := Zhq (Z8s (P ++ X ++ x :: Q) ((P.length + X.length : Nat) : Int) cmp) (fun i => Z7p i (((((P.length + X.length : Nat) : Int) : Int) - i).toNat + 1) (P ++ X ++ x :: Q) ((P.length + X.length : Nat) : Int)) t P.length s (P.length + X.length)
  (fun f i j h1 h2 h3 => by
   obtain ⟨c, hc1, hc2⟩ := hc x (X[(i + j) / 2 - P.length]'(by omega))
   have gx : lget (P ++ X ++ x :: Q) ((P.length + X.length : Nat) : Int) = some x := Z4w _ _ _ _ (by simp)
   have gy : lget (P ++ X ++ x :: Q) (((i + j) / 2 : Nat) : Int) = some (X[(i + j) / 2 - P.length]'(by omega)) := Zli P X (x :: Q) _ (by omega) (by omega)
   have e1 : IntKind.i64.wrap ((((i + j) / 2 : Nat) : Int) + 1) = (((i + j) / 2 + 1 : Nat) : Int) := by rw [wr (by omega) (by omega)]; omega
   rw [Z8s, decide_eq_true (by omega), cond_true, Zol _ (i + j) (by omega) (by omega), Option.bind_some, Zao _ (by omega), gx, Option.bind_some, gy, Option.bind_some, hc1, Option.bind_some, hc2, htv _ (by omega), e1])
  (fun f i h1 h2 => by rw [Z8s, decide_eq_false (by omega), cond_false]) s3 (fun c h1 h2 => s4 c h1 h2)
 rw [key _ _ _ (Nat.le_refl _) s1 s2 (Nat.le_refl _) (by omega)]
 have hx : X = X.take (s - P.length) ++ X.drop (s - P.length) := (List.take_append_drop ..).symm
 have l1 : (X.take (s - P.length)).length = s - P.length := by simp; omega
 have hm := Zwy s (X.drop (s - P.length)).reverse (P ++ X.take (s - P.length)) Q x (P.length + X.length) (((((P.length + X.length : Nat) : Int) : Int) - (s : Int)).toNat + 1) (by simp; omega) (by simp; omega) (by simp; omega) (by simp only [List.length_append, List.length_cons, List.length_reverse, List.length_drop, List.length_take]; omega)
 rw [List.reverse_reverse, List.append_assoc P, ← hx] at hm
 show Z7p (s : Int) _ _ _ = _
 rw [hm]
 have h1 : ∀ u ∈ X.take (s - P.length), lt x u = false := fun u hu => by
  obtain ⟨i, hi, rfl⟩ := List.getElem_of_mem hu
  rw [l1] at hi
  have := s3 (i + P.length) (by omega) (by omega)
  rw [htv _ (by omega)] at this
  simpa using this
 have h2 : ∀ u ∈ X.drop (s - P.length), lt x u = true := fun u hu => by
  obtain ⟨i, hi, rfl⟩ := List.getElem_of_mem hu
  rw [List.length_drop] at hi
  have := s4 (s + i) (by omega) (by omega)
  rw [htv _ (by omega)] at this
  rw [List.getElem_drop]
  have e : s + i - P.length = s - P.length + i := by omega
  simpa [e] using this
 have hX' := hX
 rw [hx] at hX'
 have h3 := Zpj hs (X1 := X.take (s - P.length)) (X2 := X.drop (s - P.length)) (Y1 := [x]) (Y2 := []) hX' (by simp [Z14]) (by simp) (fun y hy1 u hu => by rw [show y = x by simpa using hy1]; exact h2 u hu)
 simp only [List.append_nil, ← hx] at h3
 have h4 : srt lt (X.take (s - P.length) ++ [x]) = X.take (s - P.length) ++ [x] := Zf1 hs (by
  unfold Z14
  rw [List.pairwise_append]
  exact ⟨(Zmr hX'), by simp, fun u hu v hv => by rw [show v = x by simpa using hv]; exact h1 u hu⟩)
 rw [h4, Zf1 hs (Zmk hX')] at h3
 rw [h3]
 simp
end sym
end Go.Proofs.YtknpgojdkobgjaaGreat.W
namespace Go.Proofs.YtknpgojdkobgjaaGreat.W
open Go Go.Wb
section sym
variable {lt : Action → Action → Bool} {cmp : Action → Action → Option Int}
def Zmx (lt : Action → Action → Bool) (cmp : Action → Action → Option Int) (f : Nat) (R : List Action → Int → Int → Int → (Action → Action → Option Int) → Option (List Action)) : Prop :=
 ∀ (P X Y Q : List Action) (a m b : Int), a = (P.length : Int) → m = (P.length : Int) + (X.length : Int) → b = (P.length : Int) + (X.length : Int) + (Y.length : Int) → 0 < X.length → 0 < Y.length → X.length + Y.length ≤ f → Z14 lt X → Z14 lt Y → (P ++ X ++ Y ++ Q).length ≤ big →
  R (P ++ X ++ Y ++ Q) a m b cmp = some (P ++ srt lt (X ++ Y) ++ Q)
theorem Y0k (hs : Swo lt) {X Y : List Action} (hX : Z14 lt X) (hY : Z14 lt Y) (h : ¬ (0 < X.length ∧ 0 < Y.length)) : srt lt (X ++ Y) = X ++ Y := by
 cases X with
 | nil => exact Zf1 hs hY
 | cons x X =>
  cases Y with
  | nil => rw [List.append_nil]; exact Zf1 hs hX
  | cons y Y => exact absurd ⟨by simp, by simp⟩ h
theorem Yiq (hs : Swo lt) {f : Nat} {R : List Action → Int → Int → Int → (Action → Action → Option Int) → Option (List Action)} (hR : Zmx lt cmp f R) (P X2 Y2 Q : List Action) (mid : Nat) (m start b : Int)
  (h1 : mid = P.length) (h2 : (mid : Int) + m - start = (P.length : Int) + (X2.length : Int)) (h3 : b = (P.length : Int) + (X2.length : Int) + (Y2.length : Int)) (hm : 0 ≤ m ∧ m ≤ big) (hst : 0 ≤ start ∧ start ≤ big) (hf : X2.length + Y2.length ≤ f) (hX : Z14 lt X2) (hY : Z14 lt Y2) (hl : (P ++ X2 ++ Y2 ++ Q).length ≤ big) :
  Zer (BitVec.ofNat 64 mid) m start b R cmp (P ++ X2 ++ Y2 ++ Q) = some (P ++ srt lt (X2 ++ Y2) ++ Q) := by
 have hbig : big = 1000000 := rfl
 have hl' := hl
 simp only [List.length_append] at hl'
 unfold Zer
 rw [Zao mid (by omega)]
 have e1 : IntKind.i64.wrap (IntKind.i64.wrap ((mid : Int) + m) - start) = (P.length : Int) + (X2.length : Int) := by
  rw [wr (n := (mid : Int) + m) (by omega) (by omega), wr (by omega) (by omega), h2]
 rw [e1]
 by_cases hc : 0 < X2.length ∧ 0 < Y2.length
 ·rw [decide_eq_true (by omega), decide_eq_true (by omega), Bool.and_true, cond_true, hR P X2 Y2 Q _ _ _ (by omega) rfl h3 hc.1 hc.2 hf hX hY hl]
  rfl
 ·have : (decide ((mid : Int) < (P.length : Int) + (X2.length : Int)) && decide ((P.length : Int) + (X2.length : Int) < b)) = false := by
   rw [Bool.and_eq_false_iff, decide_eq_false_iff_not, decide_eq_false_iff_not]
   by_cases h : 0 < X2.length
   ·exact .inr (fun h' => hc ⟨h, by omega⟩)
   ·exact .inl (by omega)
  rw [this, cond_false, Y0k hs hX hY hc]
  simp
theorem Yhj (hs : Swo lt) {f : Nat} {R : List Action → Int → Int → Int → (Action → Action → Option Int) → Option (List Action)} (hR : Zmx lt cmp f R) (P X1 Y1 X2 Y2 Q : List Action) (mid : Nat) (a m start b : Int)
  (ha : a = (P.length : Int)) (h1 : mid = P.length + X1.length + Y1.length) (hs1 : start = (P.length : Int) + (X1.length : Int)) (hm : m = start + (X2.length : Int)) (h3 : b = (mid : Int) + (X2.length : Int) + (Y2.length : Int))
  (hf1 : X1.length + Y1.length ≤ f) (hf2 : X2.length + Y2.length ≤ f) (hX1 : Z14 lt X1) (hY1 : Z14 lt Y1) (hX2 : Z14 lt X2) (hY2 : Z14 lt Y2) (hl : (P ++ X1 ++ Y1 ++ X2 ++ Y2 ++ Q).length ≤ big) :
  Z9u a start (BitVec.ofNat 64 mid) R cmp m b (P ++ X1 ++ Y1 ++ X2 ++ Y2 ++ Q) = some (P ++ srt lt (X1 ++ Y1) ++ srt lt (X2 ++ Y2) ++ Q) := by
 have hbig : big = 1000000 := rfl
 have hl' := hl
 simp only [List.length_append] at hl'
 have hlen : (srt lt (X1 ++ Y1)).length = X1.length + Y1.length := by rw [Z2t hs]; simp
 have last := Yiq hs hR (P ++ srt lt (X1 ++ Y1)) X2 Y2 Q mid m start b (by simp only [List.length_append, hlen]; omega) (by simp only [List.length_append, hlen]; omega) (by simp only [List.length_append, hlen]; omega) (by omega) (by omega) hf2 hX2 hY2 (by simp only [List.length_append, hlen]; omega)
 unfold Z9u
 rw [Zao mid (by omega)]
 by_cases hc : 0 < X1.length ∧ 0 < Y1.length
 ·have hr := hR P X1 Y1 (X2 ++ Y2 ++ Q) a start (mid : Int) ha hs1 (by omega) hc.1 hc.2 hf1 hX1 hY1 (by simp only [List.length_append]; omega)
  have e : P ++ X1 ++ Y1 ++ X2 ++ Y2 ++ Q = P ++ X1 ++ Y1 ++ (X2 ++ Y2 ++ Q) := by simp
  have e' : P ++ srt lt (X1 ++ Y1) ++ (X2 ++ Y2 ++ Q) = P ++ srt lt (X1 ++ Y1) ++ X2 ++ Y2 ++ Q := by simp
  rw [decide_eq_true (by omega), decide_eq_true (by omega), Bool.and_true, cond_true, e, hr, Option.bind_some, e', last]
 ·have hd : (decide (a < start) && decide (start < (mid : Int))) = false := by
   rw [Bool.and_eq_false_iff, decide_eq_false_iff_not, decide_eq_false_iff_not]
   by_cases h : 0 < X1.length
   ·exact .inr (fun h' => hc ⟨h, by omega⟩)
   ·exact .inl (by omega)
  rw [hd, cond_false]
  rw [Y0k hs hX1 hY1 hc] at last ⊢
  have e : P ++ X1 ++ Y1 ++ X2 ++ Y2 ++ Q = P ++ (X1 ++ Y1) ++ X2 ++ Y2 ++ Q := by simp
  rw [e, last]
theorem Zyp (hs : Swo lt) (hc : Z5j lt cmp) {f : Nat} {R : List Action → Int → Int → Int → (Action → Action → Option Int) → Option (List Action)} (hR : Zmx lt cmp f R) (P X Y Q : List Action) (mid lo hi : Nat)
  (hmid : mid = (P.length + (P.length + X.length + Y.length)) / 2) (h2 : 2 ≤ X.length) (h2' : 2 ≤ Y.length) (hf : X.length + Y.length ≤ f + 1) (hX : Z14 lt X) (hY : Z14 lt Y) (hl : (P ++ X ++ Y ++ Q).length ≤ big)
  (hlh : (mid < P.length + X.length ∧ lo + (P.length + X.length + Y.length) = mid + (P.length + X.length) ∧ hi = mid) ∨ (P.length + X.length ≤ mid ∧ lo = P.length ∧ hi = P.length + X.length)) :
  Zg3 (P ++ X ++ Y ++ Q) (BitVec.ofNat 64 mid) ((P.length : Int) + (X.length : Int)) cmp (P.length : Int) R ((P.length : Int) + (X.length : Int) + (Y.length : Int)) (lo : Int) (hi : Int) = some (P ++ srt lt (X ++ Y) ++ Q) := by
 have hbig : big = 1000000 := rfl
 have hl' := hl
 simp only [List.length_append] at hl'
 have hin : ∀ c, lo ≤ c → c < hi → P.length ≤ c ∧ c < P.length + X.length ∧ P.length + X.length ≤ mid + (P.length + X.length) - 1 - c ∧ mid + (P.length + X.length) - 1 - c < P.length + X.length + Y.length := fun c a b => by rcases hlh with h | h <;> omega
 let t : Nat → Bool := fun c => if h : (c - P.length < X.length ∧ (mid + (P.length + X.length) - 1 - c) - (P.length + X.length) < Y.length) then !lt (Y[(mid + (P.length + X.length) - 1 - c) - (P.length + X.length)]'h.2) (X[c - P.length]'h.1) else false
 have htv : ∀ c (h1 : c - P.length < X.length) (h2 : (mid + (P.length + X.length) - 1 - c) - (P.length + X.length) < Y.length), t c = !lt (Y[(mid + (P.length + X.length) - 1 - c) - (P.length + X.length)]'h2) (X[c - P.length]'h1) := fun c h1 h2 => by simp only [t]; rw [dif_pos ⟨h1, h2⟩]
 have hlohi : lo ≤ hi := by rcases hlh with h | h <;> omega
 obtain ⟨s, s1, s2, s3, s4⟩ := Zn0 t lo (hi - lo) fun c d h1 h2 h3 h4 => by
  have a1 := hin c h1 (by omega)
  have a2 := hin d (by omega) (by omega)
  rw [htv c (by omega) (by omega)] at h4
  rw [htv d (by omega) (by omega)]
  simp only [Bool.not_eq_false'] at h4 ⊢
  cases hd : lt (Y[(mid + (P.length + X.length) - 1 - d) - (P.length + X.length)]'(by omega)) (X[d - P.length]'(by omega))
  ·have b1 := Z9i hs hX (i := c - P.length) (j := d - P.length) (by omega) (by omega) (by omega)
   have b2 := Z9i hs hY (i := (mid + (P.length + X.length) - 1 - d) - (P.length + X.length)) (j := (mid + (P.length + X.length) - 1 - c) - (P.length + X.length)) (by omega) (by omega) (by omega)
   rw [hs.neg _ _ _ (hs.neg _ _ _ b2 hd) b1] at h4; cases h4
  ·rfl
 have e0 : lo + (hi - lo) = hi := by omega
 rw [e0] at s2 s4
 unfold Zg3
 have key := Zhq (Z9w (P ++ X ++ Y ++ Q) (BitVec.ofNat 64 mid) ((P.length : Int) + (X.length : Int)) cmp (P.length : Int) R ((P.length : Int) + (X.length : Int) + (Y.length : Int)))
  (fun start => bif ((decide (start < ((P.length : Int) + (X.length : Int)))) && (decide (((P.length : Int) + (X.length : Int)) < (IntKind.i64.wrap ((IntKind.i64.wrap ((IntKind.i64.wrap ((BitVec.ofNat 64 mid).toNat : Int)) + ((P.length : Int) + (X.length : Int)))) - start))))) then (Zfm (P ++ X ++ Y ++ Q) start ((P.length : Int) + (X.length : Int)) (IntKind.i64.wrap ((IntKind.i64.wrap ((IntKind.i64.wrap ((BitVec.ofNat 64 mid).toNat : Int)) + ((P.length : Int) + (X.length : Int)))) - start)) cmp).bind fun l59 => Z9u (P.length : Int) start (BitVec.ofNat 64 mid) R cmp ((P.length : Int) + (X.length : Int)) ((P.length : Int) + (X.length : Int) + (Y.length : Int)) l59 else Z9u (P.length : Int) start (BitVec.ofNat 64 mid) R cmp ((P.length : Int) + (X.length : Int)) ((P.length : Int) + (X.length : Int) + (Y.length : Int)) (P ++ X ++ Y ++ Q))
  t lo s hi
  (fun f i j h1 h2 h3 => by
   have a1 := hin ((i + j) / 2) (by omega) (by omega)
   obtain ⟨c, hc1, hc2⟩ := hc (Y[(mid + (P.length + X.length) - 1 - (i + j) / 2) - (P.length + X.length)]'(by omega)) (X[(i + j) / 2 - P.length]'(by omega))
   have gx : lget (P ++ X ++ Y ++ Q) (((i + j) / 2 : Nat) : Int) = some (X[(i + j) / 2 - P.length]'(by omega)) := by
    rw [List.append_assoc (P ++ X)]
    exact Zli P X (Y ++ Q) _ a1.1 a1.2.1
   have ep : IntKind.i64.wrap (IntKind.i64.wrap (IntKind.i64.wrap ((mid : Int) + ((P.length : Int) + (X.length : Int))) - 1) - (((i + j) / 2 : Nat) : Int)) = ((mid + (P.length + X.length) - 1 - (i + j) / 2 : Nat) : Int) := by
    rw [wr (n := (mid : Int) + ((P.length : Int) + (X.length : Int))) (by omega) (by omega), wr (n := (mid : Int) + ((P.length : Int) + (X.length : Int)) - 1) (by omega) (by omega), wr (by omega) (by omega)]; omega
   have gy : lget (P ++ X ++ Y ++ Q) ((mid + (P.length + X.length) - 1 - (i + j) / 2 : Nat) : Int) = some (Y[(mid + (P.length + X.length) - 1 - (i + j) / 2) - (P.length + X.length)]'(by omega)) := by
    rw [Zli (P ++ X) Y Q _ (by simp; omega) (by simp; omega)]
    simp
   have e1 : IntKind.i64.wrap ((((i + j) / 2 : Nat) : Int) + 1) = (((i + j) / 2 + 1 : Nat) : Int) := by rw [wr (by omega) (by omega)]; omega
   rw [Z9w, decide_eq_true (by omega), cond_true, Zol _ (i + j) (by omega) (by omega), Option.bind_some, Zao mid (by omega), Zao ((i + j) / 2) (by omega), ep, gy, Option.bind_some, gx, Option.bind_some, hc1, Option.bind_some, hc2, htv _ (by omega) (by omega), e1])
  (fun f i h1 h2 => by rw [Z9w, decide_eq_false (by omega), cond_false]) s3 (fun c h1 h2 => s4 c h1 h2)
 rw [key _ _ _ (Nat.le_refl _) s1 s2 (Nat.le_refl _) (by omega)]
 have hsm : P.length ≤ s ∧ s ≤ P.length + X.length ∧ s ≤ mid ∧ mid + X.length ≤ s + (X.length + Y.length) := by rcases hlh with h | h <;> omega
 have hx : X = X.take (s - P.length) ++ X.drop (s - P.length) := (List.take_append_drop ..).symm
 have hy : Y = Y.take (mid - s) ++ Y.drop (mid - s) := (List.take_append_drop ..).symm
 have l1 : (X.take (s - P.length)).length = s - P.length := by simp; omega
 have l2 : (X.drop (s - P.length)).length = P.length + X.length - s := by simp; omega
 have l3 : (Y.take (mid - s)).length = mid - s := by simp; omega
 have l4 : (Y.drop (mid - s)).length = Y.length - (mid - s) := by simp
 have hX' := hX
 rw [hx] at hX'
 have hY' := hY
 rw [hy] at hY'
 have hx1 : ∀ x ∈ X.take (s - P.length), ∀ y ∈ Y.drop (mid - s), lt y x = false := fun x hxm y hym => by
  obtain ⟨i, hii, rfl⟩ := List.getElem_of_mem hxm
  obtain ⟨j, hj, rfl⟩ := List.getElem_of_mem hym
  rw [l1] at hii
  rw [l4] at hj
  have hc' : lo ≤ s - 1 := by rcases hlh with h | h <;> omega
  have a1 := hin (s - 1) hc' (by omega)
  have := s3 (s - 1) hc' (by omega)
  rw [htv _ (by omega) (by omega), Bool.not_eq_true'] at this
  rw [List.getElem_drop, List.getElem_take]
  have b1 := Z9i hs hX (i := i) (j := s - 1 - P.length) (by omega) (by omega) (by omega)
  have b2 := Z9i hs hY (i := (mid + (P.length + X.length) - 1 - (s - 1)) - (P.length + X.length)) (j := mid - s + j) (by omega) (by omega) (by omega)
  exact hs.neg _ _ _ (hs.neg _ _ _ b2 this) b1
 have hx2 : ∀ y ∈ Y.take (mid - s), ∀ x ∈ X.drop (s - P.length), lt y x = true := fun y hym x hxm => by
  obtain ⟨i, hii, rfl⟩ := List.getElem_of_mem hxm
  obtain ⟨j, hj, rfl⟩ := List.getElem_of_mem hym
  rw [l3] at hj
  rw [l2] at hii
  have hc' : s < hi := by rcases hlh with h | h <;> omega
  have a1 := hin s s1 hc'
  have := s4 s (Nat.le_refl _) hc'
  rw [htv _ (by omega) (by omega), Bool.not_eq_false'] at this
  rw [List.getElem_drop, List.getElem_take]
  have b1 := Z9i hs hX (i := s - P.length) (j := s - P.length + i) (by omega) (by omega) (by omega)
  have b2 := Z9i hs hY (i := j) (j := (mid + (P.length + X.length) - 1 - s) - (P.length + X.length)) (by omega) (by omega) (by omega)
  cases hd : lt (Y[j]'(by omega)) (X[s - P.length + i]'(by omega))
  ·rw [hs.neg _ _ _ (hs.neg _ _ _ b2 hd) b1] at this; cases this
  ·rfl
 have hsp := Zpj hs hX' hY' hx1 hx2
 rw [← hx, ← hy] at hsp
 rw [hsp]
 generalize X.take (s - P.length) = X1 at *
 generalize X.drop (s - P.length) = X2 at *
 generalize Y.take (mid - s) = Y1 at *
 generalize Y.drop (mid - s) = Y2 at *
 have last := Yhj hs hR P X1 Y1 X2 Y2 Q mid (P.length : Int) ((P.length : Int) + (X.length : Int)) (s : Int) ((P.length : Int) + (X.length : Int) + (Y.length : Int)) rfl (by omega) (by omega) (by omega) (by omega) (by omega) (by omega) (Zmr hX') (Zmr hY') (Zmk hX') (Zmk hY') (by simp only [List.length_append]; omega)
 have ee : IntKind.i64.wrap (IntKind.i64.wrap ((mid : Int) + ((P.length : Int) + (X.length : Int))) - (s : Int)) = ((P ++ X1 ++ X2 ++ Y1).length : Int) := by
  rw [wr (n := (mid : Int) + ((P.length : Int) + (X.length : Int))) (by omega) (by omega), wr (by omega) (by omega)]; simp only [List.length_append]; omega
 have eres : P ++ srt lt (X1 ++ Y1) ++ srt lt (X2 ++ Y2) ++ Q = P ++ (srt lt (X1 ++ Y1) ++ srt lt (X2 ++ Y2)) ++ Q := by simp
 rw [eres] at last
 show (bif _ then _ else _) = _
 rw [Zao mid (by omega), ee]
 have hlen4 : (P ++ X1 ++ X2 ++ Y1).length = P.length + X1.length + X2.length + Y1.length := by simp only [List.length_append]
 by_cases hcc : 0 < X2.length ∧ 0 < Y1.length
 ·have eL : P ++ X ++ Y ++ Q = (P ++ X1) ++ X2 ++ Y1 ++ (Y2 ++ Q) := by rw [hx, hy]; simp
  have hr := Ycb cmp X2 Y1 (P ++ X1) (Y2 ++ Q) (s : Int) ((P.length : Int) + (X.length : Int)) ((P ++ X1 ++ X2 ++ Y1).length : Int) hcc.1 hcc.2 (by simp only [List.length_append]; omega) (by simp only [List.length_append]; omega) rfl (by simp only [List.length_append]; omega)
  have eR : (P ++ X1) ++ Y1 ++ X2 ++ (Y2 ++ Q) = P ++ X1 ++ Y1 ++ X2 ++ Y2 ++ Q := by simp
  rw [decide_eq_true (by omega), decide_eq_true (by omega), Bool.and_true, cond_true, eL, hr, Option.bind_some, eR, last]
 ·have hd : (decide ((s : Int) < (P.length : Int) + (X.length : Int)) && decide ((P.length : Int) + (X.length : Int) < ((P ++ X1 ++ X2 ++ Y1).length : Int))) = false := by
   rw [Bool.and_eq_false_iff, decide_eq_false_iff_not, decide_eq_false_iff_not]
   by_cases h : 0 < X2.length
   ·exact .inr (fun h' => hcc ⟨h, by omega⟩)
   ·exact .inl (by omega)
  have eL : P ++ X ++ Y ++ Q = P ++ X1 ++ Y1 ++ X2 ++ Y2 ++ Q := by
   rw [hx, hy]
   have : X2 = [] ∨ Y1 = [] := by
    rcases Nat.eq_zero_or_pos X2.length with h | h
    ·exact .inl (List.eq_nil_of_length_eq_zero h)
    ·rcases Nat.eq_zero_or_pos Y1.length with h' | h'
     ·exact .inr (List.eq_nil_of_length_eq_zero h')
     ·exact absurd ⟨h, h'⟩ hcc
   rcases this with h | h
   ·subst h; simp
   ·subst h; simp
  rw [hd, cond_false, eL, last]
theorem Zqi (hs : Swo lt) (hc : Z5j lt cmp) : ∀ f, Zmx lt cmp f (Ze4 f)
 | 0 => fun P X Y Q a m b _ _ _ h1 h2 h3 => by omega
 | f + 1 => by
  intro P X Y Q a m b ha hm hb h1 h2 h3 hX hY hl
  subst ha hm hb
  have hbig : big = 1000000 := rfl
  have hl' := hl
  simp only [List.length_append] at hl'
  show Zhr (Ze4 f) _ _ _ _ _ = _
  unfold Zhr
  have e1 : IntKind.i64.wrap ((P.length : Int) + (X.length : Int) - (P.length : Int)) = (X.length : Int) := by rw [wr (by omega) (by omega)]; omega
  have e2 : IntKind.i64.wrap ((P.length : Int) + (X.length : Int) + (Y.length : Int) - ((P.length : Int) + (X.length : Int))) = (Y.length : Int) := by rw [wr (by omega) (by omega)]; omega
  rw [e1, e2]
  by_cases hx1 : X.length = 1
  ·obtain ⟨x, rfl⟩ : ∃ x, X = [x] := List.length_eq_one_iff.1 hx1
   have := Yd2 hs hc x Y P Q hY (by simpa using hl)
   rw [decide_eq_true (by omega), cond_true]
   have e : P ++ [x] ++ Y ++ Q = P ++ x :: (Y ++ Q) := by simp
   have e4 : (P.length : Int) + ([x].length : Int) = ((P.length + 1 : Nat) : Int) := by simp
   have e5 : ((P.length + 1 : Nat) : Int) + (Y.length : Int) = ((P.length + 1 + Y.length : Nat) : Int) := by omega
   rw [e, e4, e5, this]; rfl
  ·rw [decide_eq_false (by omega), cond_false]
   by_cases hy1 : Y.length = 1
   ·obtain ⟨y, rfl⟩ : ∃ y, Y = [y] := List.length_eq_one_iff.1 hy1
    have := Y5g hs hc y X P Q hX (by simpa using hl)
    rw [decide_eq_true (by omega), cond_true]
    have e : P ++ X ++ [y] ++ Q = P ++ X ++ y :: Q := by simp
    have e4 : (P.length : Int) + (X.length : Int) = ((P.length + X.length : Nat) : Int) := by omega
    rw [e, e4, this]
   ·rw [decide_eq_false (by omega), cond_false, Zol _ (P.length + (P.length + X.length + Y.length)) (by omega) (by omega), Option.bind_some, Zao _ (by omega)]
    by_cases hmm : (P.length + (P.length + X.length + Y.length)) / 2 < P.length + X.length
    ·rw [decide_eq_true (by omega), cond_true]
     have e3 : IntKind.i64.wrap (IntKind.i64.wrap ((((P.length + (P.length + X.length + Y.length)) / 2 : Nat) : Int) + ((P.length : Int) + (X.length : Int))) - ((P.length : Int) + (X.length : Int) + (Y.length : Int))) = (((P.length + (P.length + X.length + Y.length)) / 2 + (P.length + X.length) - (P.length + X.length + Y.length) : Nat) : Int) := by
      rw [wr (n := (((P.length + (P.length + X.length + Y.length)) / 2 : Nat) : Int) + ((P.length : Int) + (X.length : Int))) (by omega) (by omega), wr (by omega) (by omega)]; omega
     rw [e3]
     exact Zyp hs hc (Zqi hs hc f) P X Y Q _ _ _ rfl (by omega) (by omega) (by omega) hX hY hl (.inl ⟨hmm, by omega, rfl⟩)
    ·rw [decide_eq_false (by omega), cond_false]
     have e4 : (P.length : Int) + (X.length : Int) = ((P.length + X.length : Nat) : Int) := by omega
     have := Zyp hs hc (Zqi hs hc f) P X Y Q _ P.length (P.length + X.length) rfl (by omega) (by omega) (by omega) hX hY hl (.inr ⟨by omega, rfl, rfl⟩)
     rw [← e4] at this
     exact this
theorem Zz0 (hs : Swo lt) (hc : Z5j lt cmp) (P X Y Q : List Action) (a m b : Int) (ha : a = (P.length : Int)) (hm : m = (P.length : Int) + (X.length : Int)) (hb : b = (P.length : Int) + (X.length : Int) + (Y.length : Int)) (h1 : 0 < X.length) (h2 : 0 < Y.length) (hX : Z14 lt X) (hY : Z14 lt Y) (hl : (P ++ X ++ Y ++ Q).length ≤ big) :
  Znk (P ++ X ++ Y ++ Q) a m b cmp = some (P ++ srt lt (X ++ Y) ++ Q) :=
 Zqi hs hc Z0w P X Y Q a m b ha hm hb h1 h2 (by have hbig : big = 1000000 := rfl; simp only [List.length_append] at hl; unfold Z0w; omega) hX hY hl
end sym
end Go.Proofs.YtknpgojdkobgjaaGreat.W
namespace Go.Proofs.YtknpgojdkobgjaaGreat.W
open Go Go.Wb
section ins
variable {lt : Action → Action → Bool} {cmp : Action → Action → Option Int}
theorem Zwz (hc : Z5j lt cmp) (go : List Action → Int → Option (List Action)) (i : Int) (P : List Action) (x : Action) : ∀ (R S : List Action) (m : Nat), R.length < m → (P ++ R.reverse ++ x :: S).length ≤ big →
  Zc4 (P.length : Int) cmp go i m (P ++ R.reverse ++ x :: S) ((P.length + R.length : Nat) : Int) = go (P ++ (Z0q lt x R).reverse ++ S) (IntKind.i64.wrap (i + 1))
 | [], S, m, h, _ => by
  obtain ⟨m, rfl⟩ : ∃ k, m = k + 1 := ⟨m - 1, by simp at h; omega⟩
  rw [Zc4, decide_eq_false (by simp)]
  simp [opt, Z0q]
 | y :: R, S, m, h, hl => by
  have hbig : big = 1000000 := rfl
  simp only [List.length_cons, List.length_append, List.length_reverse] at h hl
  obtain ⟨m, rfl⟩ : ∃ k, m = k + 1 := ⟨m - 1, by omega⟩
  have e0 : P ++ (y :: R).reverse ++ x :: S = (P ++ R.reverse) ++ y :: (x :: S) := by simp
  have ej : IntKind.i64.wrap (((P.length + (y :: R).length : Nat) : Int) - 1) = ((P.length + R.length : Nat) : Int) := by rw [wr (by simp only [List.length_cons]; omega) (by simp only [List.length_cons]; omega)]; simp only [List.length_cons]; omega
  have g1 : ∀ a b : Action, lget ((P ++ R.reverse) ++ a :: (b :: S)) ((P.length + (y :: R).length : Nat) : Int) = some b := fun a b => by
   have : (P ++ R.reverse) ++ a :: (b :: S) = (P ++ R.reverse ++ [a]) ++ b :: S := by simp
   rw [this]; exact Z4w _ _ _ _ (by simp)
  have g0 : ∀ a b : Action, lget ((P ++ R.reverse) ++ a :: (b :: S)) ((P.length + R.length : Nat) : Int) = some a := fun a b => Z4w _ _ _ _ (by simp)
  have s1 : ∀ a b c : Action, List.set ((P ++ R.reverse) ++ a :: (b :: S)) (((P.length + (y :: R).length : Nat) : Int)).toNat c = (P ++ R.reverse) ++ a :: (c :: S) := fun a b c => by
   have : (P ++ R.reverse) ++ a :: (b :: S) = (P ++ R.reverse ++ [a]) ++ b :: S := by simp
   rw [this, Int.toNat_natCast, Z6y _ _ _ _ _ (by simp)]; simp
  have s0 : ∀ a b c : Action, List.set ((P ++ R.reverse) ++ a :: (b :: S)) (((P.length + R.length : Nat) : Int)).toNat c = (P ++ R.reverse) ++ c :: (b :: S) := fun a b c => by
   rw [Int.toNat_natCast, Z6y _ _ _ _ _ (by simp)]
  obtain ⟨c, hc1, hc2⟩ := hc x y
  rw [e0, Zc4, decide_eq_true (by simp only [List.length_cons]; omega), Z2x, g1, Option.bind_some, Z2x, ej, g0, Option.bind_some, Z2x, hc1, Option.bind_some, Bool.true_and, hc2, Z0q]
  cases lt x y
  ·rw [cond_false, cond_false]
   simp
  ·rw [cond_true, cond_true, Option.bind_some, Option.bind_some, Option.bind_some, s1, g0, Option.bind_some, s0, Zwz hc go i P x R (y :: S) m (by omega) (by simp only [List.length_append, List.length_cons, List.length_reverse]; omega)]
   simp
theorem Zpe (x : Action) (R : List Action) : (Z0q lt x R).length = R.length + 1 := by
 induction R with
 | nil => rfl
 | cons y R ih => rw [Z0q]; cases lt x y <;> simp [ih]
theorem Y1p (hc : Z5j lt cmp) (P Q : List Action) : ∀ (T R : List Action) (m : Nat), T.length < m → (P ++ R.reverse ++ T ++ Q).length ≤ big →
  Z8t ((P.length + R.length + T.length : Nat) : Int) (P.length : Int) cmp m (P ++ R.reverse ++ T ++ Q) ((P.length + R.length : Nat) : Int) = some (P ++ (T.foldl (fun R x => Z0q lt x R) R).reverse ++ Q)
 | [], R, m, h, _ => by
  obtain ⟨m, rfl⟩ : ∃ k, m = k + 1 := ⟨m - 1, by simp at h; omega⟩
  rw [Z8t, decide_eq_false (by simp), cond_false]
  simp
 | x :: T, R, m, h, h2 => by
  have hbig : big = 1000000 := rfl
  simp only [List.length_cons, List.length_append, List.length_reverse] at h h2
  obtain ⟨m, rfl⟩ : ∃ k, m = k + 1 := ⟨m - 1, by omega⟩
  have e : IntKind.i64.wrap (((P.length + R.length : Nat) : Int) + 1) = ((P.length + (Z0q lt x R).length : Nat) : Int) := by rw [Zpe, wr (by omega) (by omega)]; omega
  have hn : P.length + R.length + (x :: T).length = P.length + (Z0q lt x R).length + T.length := by rw [Zpe, List.length_cons]; omega
  have e0 : P ++ R.reverse ++ x :: T ++ Q = P ++ R.reverse ++ x :: (T ++ Q) := by simp
  rw [Z8t, decide_eq_true (by simp only [List.length_cons]; omega), cond_true, e0, Zwz hc _ _ P x R (T ++ Q) Z0w (by unfold Z0w; omega) (by simp only [List.length_append, List.length_cons, List.length_reverse]; omega), e, hn,
   ← List.append_assoc, Y1p hc P Q T (Z0q lt x R) m (by omega) (by simp only [List.length_append, List.length_reverse, Zpe]; omega), List.foldl_cons]
theorem Y08 (hc : Z5j lt cmp) (P L Q : List Action) (a b : Int) (ha : a = (P.length : Int)) (hb : b = (P.length : Int) + (L.length : Int)) (h : (P ++ L ++ Q).length ≤ big) : Zfu (P ++ L ++ Q) a b cmp = some (P ++ srt lt L ++ Q) := by
 subst ha hb
 have hbig : big = 1000000 := rfl
 have h' := h
 simp only [List.length_append] at h'
 unfold Zfu srt
 cases L with
 | nil =>
  rw [wr (by omega) (by omega)]
  obtain ⟨m, hm⟩ : ∃ m, (((P.length : Int) + (([] : List Action).length : Int)) - ((P.length : Int) + 1)).toNat + 1 = m + 1 := ⟨_, rfl⟩
  rw [hm, Z8t, decide_eq_false (by simp only [List.length_nil]; omega), cond_false]
  rfl
 | cons x L =>
  simp only [List.length_cons] at h'
  have := Y1p hc P Q L [x] ((((P.length : Int) + ((x :: L).length : Int)) - ((P.length : Int) + 1)).toNat + 1) (by simp only [List.length_cons]; omega) (by simp only [List.length_append, List.length_reverse, List.length_cons, List.length_nil]; omega)
  have e1 : ((P.length + [x].length + L.length : Nat) : Int) = (P.length : Int) + ((x :: L).length : Int) := by simp; omega
  have e2 : ((P.length + [x].length : Nat) : Int) = (P.length : Int) + 1 := by simp
  have e3 : P ++ [x].reverse ++ L ++ Q = P ++ x :: L ++ Q := by simp
  rw [e1, e2, e3] at this
  rw [wr (by omega) (by omega), this]
  rfl
end ins
end Go.Proofs.YtknpgojdkobgjaaGreat.W
namespace Go.Proofs.YtknpgojdkobgjaaGreat.W
open Go Go.Wb
section stable
variable {lt : Action → Action → Bool} {cmp : Action → Action → Option Int}
def Z4j (lt : Action → Action → Bool) (s : Nat) (L : List Action) : List Action :=
 if h : s = 0 ∨ L.length < s then srt lt L else srt lt (L.take s) ++ Z4j lt s (L.drop s)
termination_by L.length
decreasing_by simp; omega
theorem Zd2 {s : Nat} {L : List Action} (h : L.length < s) : Z4j lt s L = srt lt L := by rw [Z4j, dif_pos (.inr h)]
theorem Zcs {s : Nat} {A L : List Action} (hA : A.length = s) (h0 : 0 < s) : Z4j lt s (A ++ L) = srt lt A ++ Z4j lt s L := by
 subst hA
 rw [Z4j, dif_neg (by rw [List.length_append]; omega), List.take_left, List.drop_left]
theorem Y9u : srt lt ([] : List Action) = [] := rfl
theorem Zvq {s : Nat} {L : List Action} (h : L.length ≤ s) (h0 : 0 < s) : Z4j lt s L = srt lt L := by
 rcases Nat.lt_or_eq_of_le h with h1 | h1
 ·exact Zd2 h1
 ·have := Zcs (lt := lt) (L := []) h1 h0
  have e : Z4j lt s [] = srt lt [] := Zd2 (by simpa using h0)
  rw [List.append_nil, e, Y9u, List.append_nil] at this
  exact this
theorem Y0d (hs : Swo lt) (s : Nat) (h0 : 0 < s) : ∀ (n : Nat) (L : List Action), L.length ≤ n → (Z4j lt s L).length = L.length
 | 0, L, h => by rw [Zd2 (by omega), Z2t hs]
 | n + 1, L, h => by
  by_cases hl : L.length < s
  ·rw [Zd2 hl, Z2t hs]
  ·have e : L = L.take s ++ L.drop s := (List.take_append_drop ..).symm
   have h1 : (L.take s).length = s := by simp; omega
   rw [e, Zcs h1 h0, List.length_append, Z2t hs, Y0d hs s h0 n (L.drop s) (by simp; omega), List.length_append]
theorem Zzr (hs : Swo lt) (hc : Z5j lt cmp) (n : Nat) : ∀ (k : Nat) (D L : List Action) (f : Nat), L.length ≤ k → D.length + L.length = n → n ≤ 100000 → L.length < f * 20 →
  Zfd (n : Int) cmp f (D ++ L) (D.length : Int) ((D.length + 20 : Nat) : Int) = Z8p (n : Int) cmp (((n : Int) - 20).toNat + 1) (D ++ Z4j lt 20 L) 20
 | k, D, L, 0, _, _, _, h => by omega
 | k, D, L, f + 1, hk, hn, hb, hf => by
  have hbig : big = 1000000 := rfl
  rw [Zfd]
  by_cases hl : L.length < 20
  ·have := Y08 hc D L [] (D.length : Int) (n : Int) rfl (by omega) (by simp only [List.length_append, List.length_nil]; omega)
   simp only [List.append_nil] at this
   rw [decide_eq_false (by omega), cond_false, this, Option.bind_some, Zd2 hl]
  ·obtain ⟨k, rfl⟩ : ∃ j, k = j + 1 := ⟨k - 1, by omega⟩
   have e : L = L.take 20 ++ L.drop 20 := (List.take_append_drop ..).symm
   have h1 : (L.take 20).length = 20 := by simp; omega
   have h2 : (L.drop 20).length = L.length - 20 := by simp
   generalize L.take 20 = A at *
   generalize L.drop 20 = B at *
   subst e
   have := Y08 hc D A B (D.length : Int) ((D.length + 20 : Nat) : Int) rfl (by omega) (by simp only [List.length_append] at hn ⊢; omega)
   have e20 : IntKind.i64.wrap (((D.length + 20 : Nat) : Int) + 20) = (((D ++ srt lt A).length + 20 : Nat) : Int) := by rw [wr (by omega) (by omega), List.length_append, Z2t hs]; omega
   have e21 : ((D.length + 20 : Nat) : Int) = ((D ++ srt lt A).length : Int) := by rw [List.length_append, Z2t hs]; omega
   simp only [List.length_append] at hn hl hf hk
   rw [decide_eq_true (by omega), cond_true, ← List.append_assoc, this, Option.bind_some, e20, e21,
    Zzr hs hc n k (D ++ srt lt A) B f (by omega) (by simp only [List.length_append, Z2t hs]; omega) hb (by omega), Zcs h1 (by omega)]
   simp
theorem Y1b (hs : Swo lt) (hc : Z5j lt cmp) (go : List Action → Int → Option (List Action)) (n s : Nat) (hs0 : 0 < s) (hs1 : s ≤ 100000) : ∀ (k : Nat) (D L : List Action) (f : Nat), L.length ≤ k → D.length + L.length = n → n ≤ 100000 → L.length < f * (2 * s) →
  Zdt (n : Int) (s : Int) cmp go f (D ++ Z4j lt s L) (D.length : Int) ((D.length + 2 * s : Nat) : Int) = go (D ++ Z4j lt (2 * s) L) ((2 * s : Nat) : Int)
 | k, D, L, 0, _, _, _, h => by omega
 | k, D, L, f + 1, hk, hn, hb, hf => by
  have hbig : big = 1000000 := rfl
  rw [Zdt]
  have em : IntKind.i64.wrap ((D.length : Int) + (s : Int)) = ((D.length + s : Nat) : Int) := by rw [wr (by omega) (by omega)]; omega
  have eg : IntKind.i64.wrap ((s : Int) * 2) = ((2 * s : Nat) : Int) := by rw [wr (by omega) (by omega)]; omega
  by_cases hl : L.length < 2 * s
  ·rw [decide_eq_false (by omega), cond_false, em, eg, Zd2 hl]
   by_cases hl2 : s < L.length
   ·have e : L = L.take s ++ L.drop s := (List.take_append_drop ..).symm
    have h1 : (L.take s).length = s := by simp; omega
    have h2 : (L.drop s).length = L.length - s := by simp
    generalize L.take s = A at *
    generalize L.drop s = B at *
    subst e
    simp only [List.length_append] at hn hl hl2
    rw [Zcs h1 hs0, Zd2 (by omega)]
    have := Zz0 hs hc D (srt lt A) (srt lt B) [] (D.length : Int) ((D.length + s : Nat) : Int) (n : Int) rfl (by rw [Z2t hs]; omega) (by rw [Z2t hs, Z2t hs]; omega) (by rw [Z2t hs]; omega) (by rw [Z2t hs]; omega) (Z85 hs _) (Z85 hs _)
     (by simp only [List.length_append, Z2t hs, List.length_nil]; omega)
    simp only [List.append_nil, List.append_assoc] at this
    rw [decide_eq_true (by omega), cond_true, this, Option.bind_some, Y04 hs]
   ·rw [decide_eq_false (by omega), cond_false, Zvq (by omega) hs0]
  ·obtain ⟨k, rfl⟩ : ∃ j, k = j + 1 := ⟨k - 1, by omega⟩
   have e : L = L.take s ++ ((L.drop s).take s ++ (L.drop s).drop s) := by rw [List.take_append_drop, List.take_append_drop]
   have h1 : (L.take s).length = s := by simp; omega
   have h2 : ((L.drop s).take s).length = s := by simp; omega
   have h3 : ((L.drop s).drop s).length = L.length - 2 * s := by simp; omega
   generalize L.take s = A at *
   generalize (L.drop s).take s = B at *
   generalize (L.drop s).drop s = E at *
   subst e
   simp only [List.length_append] at hn hl hk hf
   have hf' : E.length < f * (2 * s) := by rw [Nat.add_mul] at hf; omega
   have hE := Y0d hs s hs0 E.length E (Nat.le_refl _)
   have := Zz0 hs hc D (srt lt A) (srt lt B) (Z4j lt s E) (D.length : Int) ((D.length + s : Nat) : Int) ((D.length + 2 * s : Nat) : Int) rfl (by rw [Z2t hs]; omega) (by rw [Z2t hs, Z2t hs]; omega) (by rw [Z2t hs]; omega) (by rw [Z2t hs]; omega) (Z85 hs _) (Z85 hs _)
    (by simp only [List.length_append, Z2t hs, hE]; omega)
   have e2 : D ++ Z4j lt s (A ++ (B ++ E)) = D ++ srt lt A ++ srt lt B ++ Z4j lt s E := by rw [Zcs h1 hs0, Zcs h2 hs0]; simp
   have e3 : IntKind.i64.wrap (((D.length + 2 * s : Nat) : Int) + IntKind.i64.wrap (2 * (s : Int))) = (((D ++ srt lt (A ++ B)).length + 2 * s : Nat) : Int) := by
    rw [wr (n := 2 * (s : Int)) (by omega) (by omega), wr (by omega) (by omega), List.length_append, Z2t hs, List.length_append]; omega
   have e4 : ((D.length + 2 * s : Nat) : Int) = ((D ++ srt lt (A ++ B)).length : Int) := by rw [List.length_append, Z2t hs, List.length_append]; omega
   rw [decide_eq_true (by omega), cond_true, em, e2, this, Option.bind_some, Y04 hs, e3, e4,
    Y1b hs hc go n s hs0 hs1 k (D ++ srt lt (A ++ B)) E f (by omega) (by simp only [List.length_append, Z2t hs]; omega) hb hf']
   have e5 : A ++ (B ++ E) = (A ++ B) ++ E := by simp
   rw [e5, Zcs (by simp; omega) (by omega)]
   simp
theorem Y29 (hs : Swo lt) (hc : Z5j lt cmp) (L : List Action) (hb : L.length ≤ 100000) : ∀ (f s : Nat), 0 < f → 0 < s → s ≤ 200000 → L.length < f + s →
  Z8p (L.length : Int) cmp f (Z4j lt s L) (s : Int) = some (srt lt L)
 | 0, s, hf, h0, h1, h2 => by omega
 | f + 1, s, hf, h0, h1, h2 => by
  rw [Z8p]
  by_cases hl : s < L.length
  ·have e2 : IntKind.i64.wrap (2 * (s : Int)) = ((2 * s : Nat) : Int) := by rw [wr (by omega) (by omega)]; omega
   have := Y1b hs hc (Z8p (L.length : Int) cmp f) L.length s h0 (by omega) L.length [] L ((((L.length : Int) : Int) - ((2 * s : Nat) : Int)).toNat + 2) (Nat.le_refl _) (by simp) hb (by
    have h3 : L.length < (L.length - 2 * s + 2) * (2 * s) := by
     have : L.length - 2 * s + 2 ≤ (L.length - 2 * s + 2) * (2 * s) := Nat.le_mul_of_pos_right _ (by omega)
     by_cases hc : L.length < 2 * s
     ·have : 2 * (2 * s) ≤ (L.length - 2 * s + 2) * (2 * s) := Nat.mul_le_mul_right _ (by omega)
      omega
     ·have e : (L.length - 2 * s + 2) * (2 * s) = (L.length - 2 * s + 1) * (2 * s) + 2 * s := by rw [show L.length - 2 * s + 2 = (L.length - 2 * s + 1) + 1 from rfl, Nat.add_mul, Nat.one_mul]
      have : L.length - 2 * s + 1 ≤ (L.length - 2 * s + 1) * (2 * s) := Nat.le_mul_of_pos_right _ (by omega)
      omega
    have e : (((L.length : Int) : Int) - ((2 * s : Nat) : Int)).toNat + 2 = L.length - 2 * s + 2 := by omega
    rw [e]; exact h3)
   simp only [List.nil_append, List.length_nil, Nat.zero_add] at this
   rw [decide_eq_true (by omega), cond_true, e2]
   have e0 : ((0 : Nat) : Int) = 0 := rfl
   rw [e0] at this
   rw [this, Y29 hs hc L hb f (2 * s) (by omega) (by omega) (by omega) (by omega)]
  ·rw [decide_eq_false (by omega), cond_false, Zvq (by omega) h0]
theorem Y3m (hs : Swo lt) (hc : Z5j lt cmp) (L : List Action) (hb : L.length ≤ 100000) : Zj3 L cmp = some (srt lt L) := by
 unfold Zj3 Zoz
 have h1 := Zzr hs hc L.length L.length [] L ((((L.length : Int) : Int) - 20).toNat + 2) (Nat.le_refl _) (by simp) hb (by omega)
 have h2 := Y29 hs hc L hb ((((L.length : Int) : Int) - 20).toNat + 1) 20 (by omega) (by omega) (by omega) (by omega)
 simp only [List.nil_append, List.length_nil, Nat.zero_add] at h1
 have e0 : ((0 : Nat) : Int) = 0 := rfl
 have e20 : ((20 : Nat) : Int) = 20 := rfl
 rw [e0, e20] at h1
 rw [e20] at h2
 rw [h1, h2]; rfl
end stable
end Go.Proofs.YtknpgojdkobgjaaGreat.W
namespace Go.Proofs.YtknpgojdkobgjaaGreat.W
open Go Go.Wb
def Z2b (a b : Wide) : Wide := ⟨a.Hi &&& b.Hi, a.Lo &&& b.Lo⟩
def wor (a b : Wide) : Wide := ⟨a.Hi ||| b.Hi, a.Lo ||| b.Lo⟩
def Z5i (a b : Wide) : Wide := ⟨a.Hi ^^^ b.Hi, a.Lo ^^^ b.Lo⟩
def Z2z (a b : Wide) : Wide := ⟨a.Hi &&& ~~~b.Hi, a.Lo &&& ~~~b.Lo⟩
def wt (a : Wide) (i : Nat) : Bool := bif Nat.blt i 64 then a.Lo.getLsbD i else a.Hi.getLsbD (i - 64)
def Z4a (i : Nat) : Wide := bif Nat.blt i 64 then ⟨0, 1#64 <<< i⟩ else ⟨1#64 <<< (i - 64), 0⟩
theorem Z81 {i n : Nat} (h : i < n) : Nat.blt i n = true := by simpa using h
theorem Z89 {i n : Nat} (h : ¬ i < n) : Nat.blt i n = false := by
 cases hb : Nat.blt i n
 ·rfl
 ·exact absurd (by simpa using hb) h
theorem Zkf {a b : Wide} (h : ∀ i, i < 128 → wt a i = wt b i) : a = b := by
 obtain ⟨ah, al⟩ := a
 obtain ⟨bh, bl⟩ := b
 have h1 : ah = bh := BitVec.eq_of_getLsbD_eq fun i hi => by
  have := h (i + 64) (by omega)
  unfold wt at this
  rw [Z89 (by omega)] at this
  simpa using this
 have h2 : al = bl := BitVec.eq_of_getLsbD_eq fun i hi => by
  have := h i (by omega)
  unfold wt at this
  rw [Z81 (by omega)] at this
  simpa using this
 rw [h1, h2]
theorem Zci (a b : Wide) (i : Nat) : wt (Z2b a b) i = (wt a i && wt b i) := by
 unfold wt Z2b
 cases Nat.blt i 64 <;> simp
theorem Y0s (a b : Wide) (i : Nat) : wt (wor a b) i = (wt a i || wt b i) := by
 unfold wt wor
 cases Nat.blt i 64 <;> simp
theorem Zjo (a b : Wide) (i : Nat) : wt (Z5i a b) i = (wt a i != wt b i) := by
 unfold wt Z5i
 cases Nat.blt i 64 <;> simp
theorem Zyi (a b : Wide) (i : Nat) (h : i < 128) : wt (Z2z a b) i = (wt a i && !wt b i) := by
 unfold wt Z2z
 by_cases hi : i < 64
 ·rw [Z81 hi]; simp [hi]
 ·rw [Z89 hi]; simp [show i - 64 < 64 by omega]
theorem Zl5 (i : Nat) : wt Z00 i = false := by
 unfold wt Z00
 cases Nat.blt i 64 <;> simp
theorem Zuw (i j : Nat) (hi : i < 128) (hj : j < 128) : wt (Z4a i) j = decide (i = j) := by
 unfold wt Z4a
 by_cases h1 : i < 64
 ·rw [Z81 h1, cond_true]
  by_cases h2 : j < 64
  ·rw [Z81 h2, cond_true, BitVec.getLsbD_shiftLeft]
   by_cases e : i = j
   ·subst e; simp [h2]
   ·simp [h2, e, BitVec.getLsbD_one]; omega
  ·rw [Z89 h2, cond_false]
   have : i ≠ j := by omega
   simp [this]
 ·rw [Z89 h1, cond_false]
  by_cases h2 : j < 64
  ·rw [Z81 h2, cond_true]
   have : i ≠ j := by omega
   simp [this]
  ·rw [Z89 h2, cond_false, BitVec.getLsbD_shiftLeft]
   by_cases e : i = j
   ·subst e; simp [show i - 64 < 64 by omega]
   ·simp [show j - 64 < 64 by omega, e, BitVec.getLsbD_one]; omega
def Z3k (a : Wide) : Bool := decide ((a.Hi ||| a.Lo) = (0 : BitVec 64))
theorem Zjy (a : Wide) : Z3k a = true ↔ ∀ i, i < 128 → wt a i = false := by
 unfold Z3k
 rw [decide_eq_true_eq]
 constructor
 ·intro h i hi
  have hb : ∀ j, (a.Hi.getLsbD j || a.Lo.getLsbD j) = false := fun j => by rw [← BitVec.getLsbD_or, h]; simp
  unfold wt
  by_cases h1 : i < 64
  ·rw [Z81 h1, cond_true]
   have := hb i
   simp only [Bool.or_eq_false_iff] at this
   exact this.2
  ·rw [Z89 h1, cond_false]
   have := hb (i - 64)
   simp only [Bool.or_eq_false_iff] at this
   exact this.1
 ·intro h
  apply BitVec.eq_of_getLsbD_eq
  intro j hj
  have h1 := h j (by omega)
  have h2 := h (j + 64) (by omega)
  unfold wt at h1 h2
  rw [Z81 hj] at h1
  rw [Z89 (by omega)] at h2
  simp at h1 h2
  simp [h1, h2]
theorem Y4z (a : Wide) : Z3k a = decide (a = Z00) := by
 rw [Bool.eq_iff_iff, Zjy, decide_eq_true_eq]
 constructor
 ·intro h
  exact Zkf fun i hi => by rw [h i hi, Zl5]
 ·rintro rfl i _
  exact Zl5 i
theorem Yio {a : Wide} : Z3k a = false ↔ ∃ i, i < 128 ∧ wt a i = true := by
 rw [← Bool.not_eq_true, Zjy]
 constructor
 ·intro h
  apply Classical.byContradiction
  intro hn
  exact h fun i hi => by
   cases hw : wt a i
   ·rfl
   ·exact absurd ⟨i, hi, hw⟩ hn
 ·rintro ⟨i, hi, hw⟩ h
  rw [h i hi] at hw; cases hw
theorem Zu3 (a : Wide) (i : Nat) (h : i < 128) : (!Z3k (Z2b a (Z4a i))) = wt a i := by
 cases hw : wt a i
 ·have : Z3k (Z2b a (Z4a i)) = true := by
   rw [Zjy]
   intro j hj
   rw [Zci, Zuw i j h hj]
   by_cases e : i = j
   ·subst e; rw [hw]; rfl
   ·simp [e]
  rw [this]; rfl
 ·have : Z3k (Z2b a (Z4a i)) = false := by
   rw [Yio]
   exact ⟨i, h, by rw [Zci, Zuw i i h h, hw]; simp⟩
  rw [this]; rfl
theorem Zm6 (x : BitVec 64) (n : Nat) : Z86 x (n : Int) = some (x <<< n) := by
 unfold Z86
 rw [decide_eq_false (by omega)]
 simp
theorem Yhm (x : BitVec 64) (n : Nat) : Z36 x (n : Int) = some (x >>> n) := by
 unfold Z36
 rw [decide_eq_false (by omega)]
 simp
theorem Yd8 (a b : Wide) : Zax a b = some (Z2b a b) := rfl
theorem Y0i (a b : Wide) : Z7t a b = some (wor a b) := rfl
theorem Zqd (a b : Wide) : Zal a b = some (Z2z a b) := rfl
theorem Zrc (i : Nat) (h : i < 128) : Z9o (i : Int) = some (Z4a i) := by
 unfold Z9o
 have h1 : (decide ((i : Int) < 0) || decide ((i : Int) > 127)) = false := by simp; omega
 have hq : Zec .i64 (i : Int) 64 = some ((i / 64 : Nat) : Int) := by
  unfold Zec
  rw [decide_eq_false (by decide)]
  show some (IntKind.i64.wrap ((i / 64 : Nat) : Int)) = _
  rw [Z2g (by omega) (by omega)]
 have hm : Zcl (i : Int) 64 = some ((i % 64 : Nat) : Int) := Y8b i 64 (by omega)
 rw [h1, cond_false, hq, Option.bind_some, hm, Option.bind_some, Zm6, Option.bind_some, Z22 (by omega), Option.bind_some]
 unfold Z4a
 by_cases h2 : i < 64
 ·rw [Z81 h2, cond_true]
  have e1 : i / 64 = 0 := by omega
  have e2 : i % 64 = i := by omega
  simp only [e1, e2]
  rfl
 ·rw [Z89 h2, cond_false]
  have e1 : i / 64 = 1 := by omega
  have e2 : i % 64 = i - 64 := by omega
  simp only [e1, e2]
  rfl
abbrev Cube := Vector Tern 24
abbrev Header := Vector Wide 24
def Z12 (t : Tern) : Tern := ⟨Z2b t.Value t.Mask, t.Mask⟩
theorem Zn4 (t : Tern) : Z5x t = some (Z12 t) := rfl
def Z0r (c : Cube) : Cube := Vector.ofFn fun i => Z12 (ve c i.1)
theorem Zf9 (c : Cube) (i : Nat) (h : i < 24) : ve (Z0r c) i = Z12 (ve c i) := Zah (fun i => Z12 (ve c i)) i h
theorem Yb2 (t : Tern) : Z12 (Z12 t) = Z12 t := by
 unfold Z12
 congr 1
 exact Zkf fun i hi => by simp only [Zci]; cases wt t.Value i <;> cases wt t.Mask i <;> rfl
def Z3f (a b : Tern) : Tern := ⟨wor (Z2z (Z12 a).Value b.Mask) (Z12 b).Value, wor a.Mask b.Mask⟩
theorem Y2g (a b : Tern) : Zje a b = some (Z3f a b) := rfl
def Z92 (a b : Cube) : Cube := Vector.ofFn fun i => Z3f (ve a i.1) (ve b i.1)
theorem Zwx (a b : Cube) (i : Nat) (h : i < 24) : ve (Z92 a b) i = Z3f (ve a i) (ve b i) := Zah (fun i => Z3f (ve a i) (ve b i)) i h
theorem Zwo (f : Int → Option Tern) (g : Nat → Tern) (hf : ∀ i : Nat, i < 24 → f (i : Int) = some (g i)) (b : Cube) : ∀ (m i : Nat), i + m = 24 → Z8w f m i (Z2l g b i) = some (Vector.ofFn (fun i => g i.1))
 | 0, i, h => by
  have : i = 24 := by omega
  subst this
  rw [Z8w, Z76]
 | m + 1, i, h => by
  rw [Z8w, hf i (by omega), Option.bind_some, Z22 (by omega), Option.bind_some]
  show Z8w f m (i + 1) (Vector.set (Z2l g b i) i (g i) _) = _
  rw [Z6v g b i (by omega), Zwo f g hf b m (i + 1) (by omega)]
theorem Zxo (f : Int → Option Tern) (g : Nat → Tern) (hf : ∀ i : Nat, i < 24 → f (i : Int) = some (g i)) : Zfv f = some (Vector.ofFn (fun i => g i.1)) := by
 unfold Zfv
 have := Zwo f g hf (Vector.replicate 24 zTern) 24 0 rfl
 rw [Z75] at this
 exact this
theorem Znw (r : Cube) : Z99 r = some (Z0r r) := by
 unfold Z99
 rw [Zxo (fun x => Zgf x r) (fun i => Z12 (ve r i)) (fun i hi => by unfold Zgf; rw [Z22 hi, Option.bind_some, Z20, Zn4]; rfl)]
 rfl
def Z8r (r : Cube) (f : Int) (v m : Wide) : Cube := bif decide (f ≥ 0) && decide (f < 24) then Vector.ofFn fun i => if f.toNat = i.1 then Z3f (ve (Z0r r) f.toNat) ⟨v, m⟩ else ve (Z0r r) i.1 else Z0r r
theorem Zjd (r : Cube) (f : Int) (v m : Wide) : Z8g r f v m = some (Z8r r f v m) := by
 unfold Z8g Z8r Z7a
 rw [Znw, Option.bind_some, Option.bind_some]
 cases hc : (decide (f ≥ 0) && decide (f < 24))
 ·rfl
 ·simp only [Bool.and_eq_true, decide_eq_true_eq] at hc
  obtain ⟨n, rfl⟩ : ∃ n : Nat, f = (n : Int) := ⟨f.toNat, by omega⟩
  have hn : n < 24 := by omega
  have e : Vector.set (Z0r r) n (Z3f (ve (Z0r r) n) ⟨v, m⟩) hn = Vector.ofFn fun i : _root_.Fin 24 => if n = i.1 then Z3f (ve (Z0r r) n) ⟨v, m⟩ else ve (Z0r r) i.1 := Za6 fun j hj => by
   rw [Zkb _ _ _ _ _ hj]
   exact (Zah (fun i => if n = i then Z3f (ve (Z0r r) n) ⟨v, m⟩ else ve (Z0r r) i) j hj).symm
  rw [cond_true, cond_true, Z22 hn, Option.bind_some, Z20, Y2g, Option.bind_some, Option.bind_some, Int.toNat_natCast]
  exact congrArg some e
theorem Zwh (n : Int) : ∃ x, Zef n = some x := by
 unfold Zef
 cases decide (n ≥ 64)
 ·have h0 : 0 ≤ Z1t n 0 := by
   unfold Z1t
   by_cases h : (0 : Int) > n
   ·simp [h]
   ·simp [h]; omega
  obtain ⟨k, hk⟩ : ∃ k : Nat, Z1t n 0 = (k : Int) := ⟨(Z1t n 0).toNat, by omega⟩
  rw [cond_false, hk, Zm6]
  exact ⟨_, rfl⟩
 ·exact ⟨_, rfl⟩
def Z9y (n : Int) : Wide := (Z7x n).getD Z00
theorem Zre (n : Int) : Z7x n = some (Z9y n) := by
 obtain ⟨x, hx⟩ := Zwh (IntKind.i64.wrap ((Z46 (Z1t n 0) 128) - 64))
 obtain ⟨y, hy⟩ := Zwh (Z46 (Z1t n 0) 128)
 have : Z7x n = some ⟨x, y⟩ := by unfold Z7x; rw [hx, Option.bind_some, hy]; rfl
 unfold Z9y
 rw [this]; rfl
def Zgi (n : Int) : Int := (Zb6 n).getD 0
theorem Yh7 : ∃ v, Zh3 = some v := by unfold Zh3; exact ⟨_, rfl⟩
theorem Yjz (n : Int) : Zb6 n = some (Zgi n) := by
 have : ∃ x, Zb6 n = some x := by
  unfold Zb6 Zmb Z7a
  rw [Option.bind_some]
  cases hc : (decide (n ≥ 0) && decide (n < 24))
  ·exact ⟨_, rfl⟩
  ·simp only [Bool.and_eq_true, decide_eq_true_eq] at hc
   obtain ⟨k, rfl⟩ : ∃ k : Nat, n = (k : Int) := ⟨n.toNat, by omega⟩
   obtain ⟨v, hv⟩ := Yh7
   rw [Bool.not_true, cond_false, hv, Option.bind_some, Z0z (by simp; omega), Option.bind_some, Option.bind_some]
   exact ⟨_, rfl⟩
 obtain ⟨x, hx⟩ := this
 unfold Zgi
 rw [hx]; rfl
def oxT (o : Oxm) : Tern := bif decide (o.Field ≥ 0) && decide (o.Field < 24) then (bif o.Masked then ⟨o.Value, o.Mask⟩ else ⟨o.Value, Z9y (Zgi o.Field)⟩) else ⟨Z00, Z00⟩
theorem Y09 (o : Oxm) : Zfg o = some (oxT o) := by
 unfold Zfg oxT Z7a
 rw [Option.bind_some]
 cases decide (o.Field ≥ 0) && decide (o.Field < 24)
 ·rfl
 ·rw [Bool.not_true, cond_false, cond_true]
  cases o.Masked
  ·rw [cond_false, cond_false, Yjz, Option.bind_some, Zre]; rfl
  ·rfl
def Z2f : Cube := Vector.replicate 24 zTern
def Zfl (a : Action) : Cube :=
 bif decide (a.Kind = 25) then Z8r Z2f a.Oxm.Field (oxT a.Oxm).Value (oxT a.Oxm).Mask
 else bif decide (a.Kind = 17) then Z8r Z2f 5 (Z4a 12) (Z4a 12)
 else bif decide (a.Kind = 18) then Z8r (Z8r Z2f 5 ⟨0, 0⟩ (Z9y 13)) 6 ⟨0, 0⟩ (Z9y 3)
 else Z2f
theorem Y61 (a : Action) : Zkc a = some (Zfl a) := by
 unfold Zkc Zfl
 rw [show Zgm = some Z2f from rfl, Option.bind_some]
 cases decide (a.Kind = 25)
 ·rw [cond_false, cond_false]
  cases decide (a.Kind = 17)
  ·rw [cond_false, cond_false]
   cases decide (a.Kind = 18)
   ·rfl
   ·rw [cond_true, cond_true, Zre, Option.bind_some, Zjd, Option.bind_some, Zre, Option.bind_some, Zjd]; rfl
  ·rw [cond_true, cond_true, show (12 : Int) = ((12 : Nat) : Int) from rfl, Zrc 12 (by decide), Option.bind_some, Option.bind_some, Zjd]; rfl
 ·rw [cond_true, cond_true, Y09, Option.bind_some, Zjd]; rfl
def Zqk (a : Action) : Int := bif decide (a.Port = 4294967293) then a.Max else 0
theorem Zw4 {α : Type} (p : α → Bool) : ∀ l : List α, 0 ≤ Z0c p l → (l.take ((Z0c p l).toNat + 1)).filter (fun x => !p x) = l.take (Z0c p l).toNat
 | [], h => by simp [Z0c] at h
 | x :: l, h => by
  unfold Z0c at h ⊢
  cases hp : p x
  ·rw [hp] at h
   by_cases h' : Z0c p l < 0
   ·simp [h'] at h
   ·simp only [cond_false, decide_eq_false h']
    have e : (Z0c p l + 1).toNat = (Z0c p l).toNat + 1 := by omega
    rw [e, List.take_succ_cons, List.take_succ_cons, List.filter_cons_of_pos (by simp [hp]), Zw4 p l (by omega)]
  ·simp [hp]
theorem Y47 {α : Type} (p : α → Bool) (l : List α) (h : Z0c p l < 0) : l.filter (fun x => !p x) = l := by
 rw [List.filter_eq_self]
 intro x hx
 rw [Zzw p l h x hx]; rfl
theorem Zt2 {α : Type} (p : α → Bool) : ∀ l : List α, (Z0c p l < 0 ∧ l.find? p = none) ∨ ∃ n : Nat, Z0c p l = (n : Int) ∧ ∃ h : n < l.length, l.find? p = some l[n] ∧ p l[n] = true
 | [] => .inl ⟨by simp [Z0c], rfl⟩
 | x :: l => by
  unfold Z0c
  cases hp : p x
  ·rw [cond_false, List.find?_cons_of_neg (by simp [hp])]
   rcases Zt2 p l with ⟨h1, h2⟩ | ⟨n, h1, h2, h3, h4⟩
   ·left; rw [decide_eq_true h1]; exact ⟨by show (-1 : Int) < 0; decide, h2⟩
   ·right
    rw [decide_eq_false (by omega)]
    exact ⟨n + 1, by show Z0c p l + 1 = _; omega, by simp; omega, by simpa using h3, by simpa using h4⟩
  ·right
   exact ⟨0, rfl, by simp, by rw [List.find?_cons_of_pos hp]; rfl, hp⟩
theorem Zq8 (s : List Action) (f : Action → Option Bool) (p : Action → Bool) (hf : ∀ x ∈ s, f x = some (p x)) : Zb9 s f = some (Z0c p s) := by
 unfold Zb9
 rw [show ((s.length : Int)).toNat = s.length by omega]
 exact Zfb p (fun i => by rw [Zb8]) (fun m i => by rw [Zb8]) hf
theorem Zym (s : List Group) (f : Group → Option Bool) (p : Group → Bool) (hf : ∀ x ∈ s, f x = some (p x)) : Zge s f = some (Z0c p s) := by
 unfold Zge
 rw [show ((s.length : Int)).toNat = s.length by omega]
 exact Zfb p (fun i => by rw [Zb2]) (fun m i => by rw [Zb2]) hf
theorem Yh8 (s : List Bucket) (f : Bucket → Option Bool) (p : Bucket → Bool) (hf : ∀ x ∈ s, f x = some (p x)) : Zgo s f = some (Z0c p s) := by
 unfold Zgo
 rw [show ((s.length : Int)).toNat = s.length by omega]
 exact Zfb p (fun i => by rw [Zcp]) (fun m i => by rw [Zcp]) hf
theorem Yju (s : List Int) (v : Int) : Zkt s v = some (Z0c (fun x => decide (v = x)) s) := by
 unfold Zkt
 rw [show ((s.length : Int)).toNat = s.length by omega]
 exact Zfb (f := fun x => some (decide (v = x))) (fun x => decide (v = x)) (fun i => by rw [Zbx]) (fun m i => by rw [Zbx]; rfl) (fun _ _ => rfl)
theorem Yb4 (s : List Action) (f : Action → Option Bool) (p : Action → Bool) (hf : ∀ x ∈ s, f x = some (p x)) (hl : s.length ≤ lim) : Zic s f = some (s.filter (fun x => !p x)) := by
 have hlim : lim = 4294967296 := rfl
 unfold Zic
 rw [Zq8 s f p hf, Option.bind_some]
 by_cases h : Z0c p s < 0
 ·have := Zbh p s
  rw [decide_eq_true (by omega), cond_true, Y47 p s h]
 ·have hlt := Zl7 p s
  rw [decide_eq_false (by omega), cond_false, Z2g (by omega) (by omega)]
  have key := Y4m (z := Zof) (G := Zcz f) (s := s) (f := f) p (fun m l i j => by rw [Zcz]) hf hl (((s.length : Int) - (Z0c p s + 1)).toNat + 1) s (Z0c p s).toNat ((Z0c p s).toNat + 1) (by omega) (by omega) (by omega) rfl rfl (Zw4 p s (by omega)).symm
  rw [show ((Z0c p s).toNat : Int) = Z0c p s by omega, show (((Z0c p s).toNat + 1 : Nat) : Int) = Z0c p s + 1 by omega] at key
  exact key
theorem Y91 (s : List Action) (f : Action → Option Bool) (p : Action → Bool) (hf : ∀ x ∈ s, f x = some (p x)) : Zgz s f = some (s.any p) := by
 unfold Zgz; rw [Zq8 s f p hf, Option.bind_some, Zdq]
def Z0a (a : Action) : aset_spot := bif decide (a.Kind = 25) then ⟨a.Kind, a.Oxm.Field⟩ else ⟨a.Kind, 0⟩
theorem Zow (a : Action) : Zam a = some (Z0a a) := by
 unfold Zam Z0a
 cases decide (a.Kind = 25) <;> rfl
theorem Zej (a : Action) : (Z0a a).kind = a.Kind := by
 unfold Z0a
 cases decide (a.Kind = 25) <;> rfl
theorem Yfh (b c : Action) : Zd4 b c = some (decide (Z0a c = Z0a b)) := by
 unfold Zd4
 rw [Zow, Option.bind_some, Zow]; rfl
def wr1 (l : List Action) (x : Action) : List Action := bif decide (Z0c (fun b => decide (Z0a x = Z0a b)) l < 0) then l ++ [x] else l.set (Z0c (fun b => decide (Z0a x = Z0a b)) l).toNat x
theorem Zrb (l : List Action) (x : Action) : (wr1 l x).length ≤ l.length + 1 := by
 unfold wr1
 cases decide (Z0c (fun b => decide (Z0a x = Z0a b)) l < 0) <;> simp
theorem Ztb : ∀ (l : List Action) (i : Nat) (acc : List Action), acc.length + l.length ≤ lim → Z8h l i acc = some (l.foldl wr1 acc)
 | [], i, acc, _ => by rw [Z8h]; rfl
 | x :: l, i, acc, h => by
  simp only [List.length_cons] at h
  have hw := Zrb acc x
  rw [Z8h, Zq8 acc (fun y => Zd4 y x) (fun b => decide (Z0a x = Z0a b)) (fun y _ => Yfh y x), Option.bind_some, List.foldl_cons]
  have hi := Zl7 (fun b => decide (Z0a x = Z0a b)) acc
  by_cases hc : Z0c (fun b => decide (Z0a x = Z0a b)) acc < 0
  ·rw [decide_eq_true hc, cond_true, Z1b (by simp; omega), Option.bind_some, Ztb l (i + 1) _ (by simp; omega)]
   unfold wr1
   rw [decide_eq_true hc, cond_true]
  ·obtain ⟨n, hn⟩ : ∃ n : Nat, Z0c (fun b => decide (Z0a x = Z0a b)) acc = (n : Int) := ⟨(Z0c (fun b => decide (Z0a x = Z0a b)) acc).toNat, by omega⟩
   rw [decide_eq_false hc, cond_false, hn, Z0z (by omega), Option.bind_some, Ztb l (i + 1) _ (by simp; omega)]
   unfold wr1
   rw [decide_eq_false hc, cond_false, hn]
theorem Yb8 (s l : List Action) (h : s.length + l.length ≤ lim) : Zi1 s l = some (l.foldl wr1 s) := by
 unfold Zi1 Z6g
 rw [Z1b (by simp; omega), Option.bind_some, List.nil_append, Ztb l 0 s h]
theorem Zzv : ∀ (l s : List Action), (l.foldl wr1 s).length ≤ s.length + l.length
 | [], s => by simp
 | x :: l, s => by
  have h1 := Zzv l (wr1 s x)
  have h2 := Zrb s x
  rw [List.foldl_cons, List.length_cons]; omega
def Z3m (k : Int) : Int := Z0c (fun x => decide (k = x)) [18, 17, 25, 22, 0]
theorem Zrg (k : Int) : Zda k = some (Z3m k) := by
 unfold Zda Z3m
 rw [Yju]; rfl
def Z5y (goes : Bool) (a : Action) : Bool := !(decide (Z3m a.Kind < 0) || (goes && decide (a.Kind = 0)))
def Z97 (a b : Action) : Int :=
 bif decide (IntKind.i64.wrap (Z3m (Z0a a).kind - Z3m (Z0a b).kind) ≠ 0) then IntKind.i64.wrap (Z3m (Z0a a).kind - Z3m (Z0a b).kind)
 else bif decide ((Z0a a).field < (Z0a b).field) then -1 else bif decide ((Z0a a).field > (Z0a b).field) then 1 else 0
theorem Yab (a b : Action) : Zfh a b = some (Z97 a b) := by
 unfold Zfh Z97
 rw [Zow, Option.bind_some, Zow, Option.bind_some, Zrg, Option.bind_some, Zrg, Option.bind_some]
 cases decide (IntKind.i64.wrap (Z3m (Z0a a).kind - Z3m (Z0a b).kind) ≠ 0)
 ·rw [cond_false, cond_false]
  cases decide ((Z0a a).field < (Z0a b).field)
  ·rw [cond_false, cond_false]
   cases decide ((Z0a a).field > (Z0a b).field) <;> rfl
  ·rfl
 ·rfl
theorem Zhz {α : Type} (lt : α → α → Bool) (x : α) : ∀ R : List α, (Z0q lt x R).Perm (x :: R)
 | [] => List.Perm.refl _
 | y :: R => by
  rw [Z0q]
  cases lt x y
  ·exact List.Perm.refl _
  ·exact ((Zhz lt x R).cons y).trans (List.Perm.swap x y R)
theorem Ztx {α : Type} (lt : α → α → Bool) : ∀ (l R : List α), (l.foldl (fun R x => Z0q lt x R) R).Perm (l ++ R)
 | [], R => List.Perm.refl _
 | x :: l, R => by
  rw [List.foldl_cons]
  refine (Ztx lt l _).trans ?_
  refine ((Zhz lt x R).append_left l).trans ?_
  exact List.perm_middle
theorem Yj0 {α : Type} (lt : α → α → Bool) (l : List α) : (srt lt l).Perm l := by
 unfold srt
 refine (List.reverse_perm _).trans ?_
 have := Ztx lt l []
 rwa [List.append_nil] at this
theorem Zxh {α : Type} (lt : α → α → Bool) (x : α) (R : List α) : (Z0q lt x R).length = R.length + 1 := by
 have := (Zhz lt x R).length_eq
 simpa using this
def ltA (a b : Action) : Bool := decide (Z97 a b < 0)
def Z7m (s : List Action) : List Action := srt ltA (s.filter (Z5y (s.any fun a => decide (a.Kind = 22))))
def Zs1 (bs : List Bucket) : Prop := bs.length ≤ 3 ∧ ∀ x ∈ bs, x.Acts.length ≤ 12
def Z6x (l : List Group) : Prop := l.length ≤ 9 ∧ ∀ g ∈ l, Zs1 g.Buckets
theorem Zto (bs : List Bucket) (h : ∀ x ∈ bs, x.Acts.length ≤ 12) : ∀ (m i : Nat), i + m = bs.length → Z9p m i bs = some bs
 | 0, i, _ => by rw [Z9p]
 | m + 1, i, hi => by
  have hlim : lim = 4294967296 := rfl
  have hlt : i < bs.length := by omega
  have ha := h bs[i] (List.getElem_mem hlt)
  have e : List.set bs ((i : Int)).toNat { bs[i] with Acts := bs[i].Acts } = bs := by
   rw [Int.toNat_natCast]; exact List.set_getElem_self hlt
  rw [Z9p, Z0z hlt, Option.bind_some]
  unfold Z6g
  rw [Z1b (by simp; omega), Option.bind_some, Option.bind_some, List.nil_append, e]
  exact Zto bs h m (i + 1) (by omega)
theorem Y8l (bs : List Bucket) (h : Zs1 bs) : Zjv bs = some bs := by
 have hlim : lim = 4294967296 := rfl
 have := h.1
 unfold Zjv Znv
 rw [Z1b (by simp; omega), Option.bind_some, List.nil_append, show ((bs.length : Int)).toNat = bs.length by omega]
 exact Zto bs h.2 bs.length 0 (by omega)
theorem Yjj (g : Group) (h : Zs1 g.Buckets) : Zk1 [g] = some [g] := by
 unfold Zk1 Zn3
 rw [Z1b (by simp [lim]), Option.bind_some]
 show Zck 1 0 [g] = _
 rw [Zck]
 show ((some g).bind fun e8 => _) = _
 rw [Option.bind_some, Y8l _ h, Option.bind_some]
 rfl
def Zmp (l : List Group) (id : Int) : Option Group := l.find? fun g => decide (g.ID = id)
theorem Ycd (l : List Group) (id : Int) (hl : Z6x l) : Zjg l id = some (match Zmp l id with | none => ((⟨0, 0, []⟩ : Group), false) | some g => (g, true)) := by
 have h9 := hl.1
 unfold Zjg Zm8 Zmp
 rw [Zym l (fun x => Zlf x id) (fun g => decide (g.ID = id)) (fun _ _ => rfl), Option.bind_some, Option.bind_some]
 rcases Zt2 (fun g : Group => decide (g.ID = id)) l with ⟨h1, h2⟩ | ⟨n, h1, h2, h3, h4⟩
 ·rw [decide_eq_true h1, cond_true, h2]
 ·have hs : Zfq l (n : Int) (IntKind.i64.wrap ((n : Int) + 1)) = some [l[n]] := by
   rw [Z2g (by omega) (by omega)]
   unfold Zfq
   rw [decide_eq_true (by omega), decide_eq_true (by omega), Nat.ble_eq_true_of_le (by omega)]
   show some _ = some _
   have e2 : ((n : Int) + 1).toNat = n + 1 := by omega
   have e3 : (l.take n).length = n := by simp; omega
   rw [e2, Int.toNat_natCast, List.take_succ_eq_append_getElem h2, List.drop_append, e3, List.drop_of_length_le (by omega), Nat.sub_self]
   rfl
  rw [decide_eq_false (by omega), cond_false, h1, hs, Option.bind_some, Yjj _ (hl.2 _ (List.getElem_mem h2)), Option.bind_some, h3]
  rfl
def Zru (l : List Action) : Nat := l.countP fun a => decide (a.Kind = 0) || decide (a.Kind = 22)
end Go.Proofs.YtknpgojdkobgjaaGreat.W
namespace Go.Proofs.YtknpgojdkobgjaaGreat.W
open Go Go.Wb
theorem Yil (a b : Cube) : Zkx a b = some (Z92 a b) := by
 unfold Zkx
 rw [Zxo (fun x => Zdp x a b) (fun i => Z3f (ve a i) (ve b i)) (fun i hi => by unfold Zdp; rw [Z22 hi, Option.bind_some, Option.bind_some, Z20, Z20, Y2g]; rfl)]
 rfl
def Zn5 (r : Cube) (a : Action) : Atom := bif decide (a.Kind = 0) then ⟨r, false, a.Port, Zqk a⟩ else ⟨r, true, a.Group, 0⟩
def Zb5 (a : Action) : Bool := decide (a.Kind = 0) || decide (a.Kind = 22)
def doT : List Action → Cube → List Atom × Cube
 | [], r => ([], r)
 | a :: l, r => bif Zb5 a then (Zn5 r a :: (doT l r).1, (doT l r).2) else doT l (Z92 r (Zfl a))
theorem Y9t (r : Cube) (o : List Atom) (a : Action) (h : o.length + 1 ≤ lim) : Zca ⟨r, o⟩ a = some (bif Zb5 a then ⟨r, o ++ [Zn5 r a]⟩ else ⟨Z92 r (Zfl a), o⟩) := by
 have hj : ∀ x : Atom, Zcw ⟨r, o⟩ x = some ⟨r, o ++ [x]⟩ := fun x => by
  unfold Zcw
  rw [Z1b (by simpa using h), Option.bind_some]
 unfold Zca Zb5 Zn5 Zqk
 cases decide (a.Kind = 0)
 ·rw [cond_false]
  cases decide (a.Kind = 22)
  ·rw [cond_false, Y61, Option.bind_some, Yil]; rfl
  ·rw [cond_true, hj]; rfl
 ·rw [cond_true]
  cases decide (a.Port = 4294967293)
  ·rw [cond_false, hj]; rfl
  ·rw [cond_true, hj]; rfl
theorem Zqq : ∀ (l : List Action) (i : Nat) (r : Cube) (o : List Atom), o.length + l.length ≤ lim → Z9z Z5e (fun s x => Zca s x) l i ⟨r, o⟩ = some ⟨(doT l r).2, o ++ (doT l r).1⟩
 | [], i, r, o, _ => by rw [Z9z]; simp [doT]
 | a :: l, i, r, o, h => by
  simp only [List.length_cons] at h
  rw [Z9z, Y9t r o a (by omega), Option.bind_some, doT]
  cases Zb5 a
  ·rw [cond_false, cond_false, Zqq l (i + 1) _ o (by omega)]
  ·rw [cond_true, cond_true, Zqq l (i + 1) _ _ (by simp; omega)]
   simp
theorem Ygw (acts : List Action) (r : Cube) (h : acts.length ≤ lim) : Zka acts r = some (doT acts (Z0r r)) := by
 unfold Zka Znh
 rw [Znw, Option.bind_some, Zqq acts 0 _ [] (by simpa using h), Option.bind_some]
 rfl
theorem Zdj : ∀ (l : List Action) (r : Cube), (doT l r).1.length = Zru l
 | [], r => rfl
 | a :: l, r => by
  have ih := Zdj l
  unfold Zru at ih ⊢
  rw [doT, List.countP_cons]
  show _ = _ + if Zb5 a = true then 1 else 0
  cases Zb5 a
  ·simp [ih]
  ·simp [ih]
end Go.Proofs.YtknpgojdkobgjaaGreat.W
namespace Go.Proofs.YtknpgojdkobgjaaGreat.W
open Go Go.Wb
end Go.Proofs.YtknpgojdkobgjaaGreat.W
namespace Go.Proofs.YtknpgojdkobgjaaGreat.W
open Go Go.Wb
theorem Yc0 (s : List Bucket) (f : Bucket → Option Bool) (p : Bucket → Bool) (hf : ∀ x ∈ s, f x = some (p x)) : Zjz s f = some (s.any p) := by
 unfold Zjz; rw [Yh8 s f p hf, Option.bind_some, Zdq]
theorem Y7x (s : List Group) (f : Group → Option Bool) (p : Group → Bool) (hf : ∀ x ∈ s, f x = some (p x)) : Zi5 s f = some (s.any p) := by
 unfold Zi5; rw [Zym s f p hf, Option.bind_some, Zdq]
def Zfr (bs : List Bucket) (many : Int) : Bool := decide ((bs.length : Int) ≤ many) && !(bs.any fun x => !decide ((x.Acts.length : Int) ≤ 12))
theorem Y52 (bs : List Bucket) (many : Int) : Zj1 bs many = some (Zfr bs many) := by
 unfold Zj1 Zfr
 rw [Yc0 bs Zlw (fun x => !decide ((x.Acts.length : Int) ≤ 12)) (fun x _ => rfl)]
 cases decide ((bs.length : Int) ≤ many) <;> rfl
def Zg6 (l : List Group) (many bm : Int) : Bool := decide ((l.length : Int) ≤ many) && !(l.any fun g => !Zfr g.Buckets bm)
theorem Y7z (l : List Group) (many bm : Int) : Zk6 l many bm = some (Zg6 l many bm) := by
 unfold Zk6 Zg6
 rw [Y7x l (fun x => Zgb x bm) (fun g => !Zfr g.Buckets bm) (fun g _ => by unfold Zgb; rw [Y52]; rfl)]
 cases decide ((l.length : Int) ≤ many) <;> rfl
theorem Y5l {l : List Group} (h : Zg6 l 9 3 = true) : Z6x l := by
 unfold Zg6 at h
 simp only [Bool.and_eq_true, decide_eq_true_eq, Bool.not_eq_true', List.any_eq_false] at h
 refine ⟨by omega, fun g hg => ?_⟩
 have h1 : Zfr g.Buckets 3 = true := by simpa using h.2 g hg
 unfold Zfr at h1
 simp only [Bool.and_eq_true, decide_eq_true_eq, Bool.not_eq_true', List.any_eq_false] at h1
 refine ⟨by omega, fun x hx => ?_⟩
 have h2 : decide ((x.Acts.length : Int) ≤ 12) = true := by simpa using h1.2 x hx
 rw [decide_eq_true_eq] at h2
 omega
end Go.Proofs.YtknpgojdkobgjaaGreat.W
namespace Go.Proofs.YtknpgojdkobgjaaGreat.W
open Go Go.Wb
theorem Zep (a b : Wide) : Z9h a b = some (Z2b a b) := rfl
theorem Zqu (a b : Wide) : Z7b a b = some (wor a b) := rfl
theorem Zor (a b : Wide) : Zc0 a b = some (Z2z a b) := rfl
theorem Ztp (t : Tern) : Z6s t = some (Z12 t) := rfl
theorem inc (n : Nat) (h : n < 9223372036854775807) : IntKind.i64.wrap ((n : Int) + 1) = ((n + 1 : Nat) : Int) := by rw [Z2g (by omega) (by omega)]; omega
theorem Zx9 (c : Cube) : ∀ (m i : Nat), i ≤ 24 → 24 < i + m → Zct m (Z2l (fun i => Z12 (ve c i)) c i) (i : Int) = some (Z0r c)
 | 0, i, h1, h2 => by omega
 | m + 1, i, h1, h2 => by
  rw [Zct]
  by_cases h : i < 24
  ·rw [decide_eq_true (by omega), cond_true, Z22 h, Option.bind_some, Ztp, Option.bind_some, Option.bind_some, Z20, Zbd _ _ _ _ h, if_neg (by omega), inc i (by omega)]
   show Zct m (Vector.set (Z2l (fun i => Z12 (ve c i)) c i) i (Z12 (ve c i)) _) _ = _
   rw [Z6v (fun i => Z12 (ve c i)) c i h, Zx9 c m (i + 1) (by omega) (by omega)]
  ·have : i = 24 := by omega
   subst this
   rw [decide_eq_false (by omega), cond_false, Z76]; rfl
theorem Zm9 (c : Cube) : Z69 c = some (Z0r c) := by
 unfold Z69
 have := Zx9 c (((24 : Int) - 0).toNat + 1) 0 (by omega) (by decide)
 rw [Z75] at this
 exact this
theorem Y0q (a b : Cube) : ∀ (m i : Nat), i ≤ 24 → 24 < i + m → Zbn (Z0r b) m (Z2l (fun i => Z3f (ve a i) (ve b i)) (Z0r a) i) (i : Int) = some (Z92 a b)
 | 0, i, h1, h2 => by omega
 | m + 1, i, h1, h2 => by
  rw [Zbn]
  by_cases h : i < 24
  ·simp only [decide_eq_true (show ((i : Int) < 24) by omega), cond_true, Z22 h, Option.bind_some, Z20, Zor, Zqu, inc i (by omega)]
   rw [Zbd _ _ _ _ h, if_neg (by omega), Zf9 _ _ h, Zf9 _ _ h]
   have := Z6v (fun i => Z3f (ve a i) (ve b i)) (Z0r a) i h
   show Zbn (Z0r b) m (Vector.set (Z2l (fun i => Z3f (ve a i) (ve b i)) (Z0r a) i) i (Z3f (ve a i) (ve b i)) _) _ = _
   rw [this]
   exact Y0q a b m (i + 1) (by omega) (by omega)
  ·have : i = 24 := by omega
   subst this
   rw [decide_eq_false (by omega), cond_false, Z76]; rfl
theorem Zsd (a b : Cube) : Zg9 a b = some (Z92 a b) := by
 unfold Zg9
 rw [Zm9, Option.bind_some, Zm9, Option.bind_some]
 have := Y0q a b (((24 : Int) - 0).toNat + 1) 0 (by omega) (by decide)
 rw [Z75] at this
 exact this
theorem Y10 (a : Tern) : Z3f a zTern = Z12 a := by
 unfold Z3f Z12
 have h1 : wor (Z2z (Z2b a.Value a.Mask) zTern.Mask) (Z2b zTern.Value zTern.Mask) = Z2b a.Value a.Mask := Zkf fun i hi => by
  have z : wt zTern.Mask i = false := Zl5 i
  have z2 : wt zTern.Value i = false := Zl5 i
  simp only [Y0s, Zyi _ _ _ hi, Zci, z, z2]
  cases wt a.Value i <;> cases wt a.Mask i <;> rfl
 have h2 : wor a.Mask zTern.Mask = a.Mask := Zkf fun i hi => by
  have z : wt zTern.Mask i = false := Zl5 i
  rw [Y0s, z, Bool.or_false]
 show (⟨wor (Z2z (Z2b a.Value a.Mask) zTern.Mask) (Z2b zTern.Value zTern.Mask), wor a.Mask zTern.Mask⟩ : Tern) = _
 rw [h1, h2]
theorem Y8f (a b : Tern) : Z3f (Z12 a) b = Z3f a b := by
 unfold Z3f
 rw [Yb2]; rfl
theorem Zl4 (r : Cube) (f : Int) (v m : Wide) : Z7o r f v m = some (Z8r r f v m) := by
 unfold Z7o Z8r Z9k
 rw [Option.bind_some]
 have hz : ∀ i, i < 24 → ve Z2f i = zTern := fun i hi => Y41 _ _ hi
 cases hc : (decide (f ≥ 0) && decide (f < 24))
 ·rw [cond_false, cond_false]
  unfold Zem
  rw [Zsd, Option.bind_some]
  have e : Z92 r (Vector.replicate 24 zTern) = Z0r r := Za6 fun i hi => by
   rw [Zwx _ _ _ hi, Zf9 _ _ hi, show ve (Vector.replicate 24 zTern) i = zTern from hz i hi, Y10]
  rw [e]
 ·simp only [Bool.and_eq_true, decide_eq_true_eq] at hc
  obtain ⟨n, rfl⟩ : ∃ n : Nat, f = (n : Int) := ⟨f.toNat, by omega⟩
  have hn : n < 24 := by omega
  rw [cond_true, cond_true, Z22 hn, Option.bind_some, Int.toNat_natCast]
  unfold Zem
  rw [Zsd, Option.bind_some]
  have e : Z92 r (Vector.set (Vector.replicate 24 zTern) n (⟨v, m⟩ : Tern) hn) = Vector.ofFn fun i : _root_.Fin 24 => if n = i.1 then Z3f (ve (Z0r r) n) ⟨v, m⟩ else ve (Z0r r) i.1 := Za6 fun i hi => by
   rw [Zwx _ _ _ hi, Zkb _ _ _ _ _ hi]
   refine Eq.trans ?_ (Zah (fun i => if n = i then Z3f (ve (Z0r r) n) ⟨v, m⟩ else ve (Z0r r) i) i hi).symm
   by_cases h : n = i
   ·subst h
    simp only [if_true]
    rw [Zf9 _ _ hi, Y8f]
   ·simp only [if_neg h]
    rw [Zf9 _ _ hi, show ve (Vector.replicate 24 zTern) i = zTern from hz i hi, Y10]
  exact congrArg some e
theorem Yjp : ∀ f : _root_.Fin 24, Zmj (f.1 : Int) = some (Zgi (f.1 : Int)) ∧ Z9r (Zgi (f.1 : Int)) = some (Z9y (Zgi (f.1 : Int))) := by decide +kernel
theorem Y79 : Z9r 13 = some (Z9y 13) := by decide +kernel
theorem Yez : Z9r 3 = some (Z9y 3) := by decide +kernel
theorem Yg2 : Z7j 12 = some (Z4a 12) := by decide +kernel
theorem Zw1 (o : Oxm) : Zdz o = some (oxT o) := by
 unfold Zdz oxT Z9k
 rw [Option.bind_some]
 cases hc : decide (o.Field ≥ 0) && decide (o.Field < 24)
 ·rfl
 ·simp only [Bool.and_eq_true, decide_eq_true_eq] at hc
  obtain ⟨h1, h2⟩ := Yjp ⟨o.Field.toNat, by omega⟩
  have e : ((o.Field.toNat : Nat) : Int) = o.Field := by omega
  simp only [e] at h1 h2
  rw [Bool.not_true, cond_false, cond_true]
  cases o.Masked
  ·rw [cond_false, cond_false, h1, Option.bind_some, h2]; rfl
  ·rfl
theorem Y7o (a : Action) : Zip a = some (Zfl a) := by
 have h84 : Z7r = some Z2f := rfl
 unfold Zip Zfl
 cases decide (a.Kind = 25)
 ·rw [cond_false, cond_false]
  cases decide (a.Kind = 17)
  ·rw [cond_false, cond_false]
   cases decide (a.Kind = 18)
   ·rfl
   ·rw [cond_true, cond_true, h84, Option.bind_some, Y79, Option.bind_some, Zl4, Option.bind_some, Yez, Option.bind_some, Zl4]; rfl
  ·rw [cond_true, cond_true, h84, Option.bind_some, Yg2, Option.bind_some, Option.bind_some, Zl4]; rfl
 ·rw [cond_true, cond_true, Zw1, Option.bind_some, h84, Option.bind_some, Zl4]; rfl
theorem Y9g (a b : Action) : Zgq a b = some (decide (Z0a b = Z0a a)) := by
 unfold Zgq
 congr 1
 rw [Bool.eq_iff_iff]
 unfold Z0a
 by_cases ha : a.Kind = 25
 ·by_cases hb : b.Kind = 25
  ·simp [ha, hb, eq_comm]
  ·have : a.Kind ≠ b.Kind := fun e => hb (e ▸ ha)
   simp [ha, hb, this, eq_comm]
 ·by_cases hb : b.Kind = 25
  ·have : a.Kind ≠ b.Kind := fun e => ha (e.trans hb)
   simp [ha, hb, this, eq_comm]
  ·simp [ha, hb, eq_comm]
theorem Y0w {α : Type} (p : α → Bool) : ∀ (l : List α) (j : Nat) (h : j < l.length), Z0c p (l.take (j + 1)) = bif decide (Z0c p (l.take j) < 0) then (bif p l[j] then (j : Int) else -1) else Z0c p (l.take j)
 | [], j, h => by simp at h
 | x :: l, 0, h => by
  simp only [List.take_zero, List.take_succ_cons, Z0c, List.getElem_cons_zero]
  cases p x <;> rfl
 | x :: l, j + 1, h => by
  have hj : j < l.length := by simpa using h
  have ih := Y0w p l j hj
  have hq := Zbh p (l.take j)
  rw [List.take_succ_cons, List.take_succ_cons, Z0c, Z0c, ih, List.getElem_cons_succ]
  generalize Z0c p (l.take j) = q at *
  generalize p l[j] = r at *
  cases p x
  ·simp only [cond_false]
   by_cases hn : q < 0
   ·simp only [decide_eq_true hn, cond_true]
    cases r
    ·rfl
    ·simp only [cond_true]
     rw [decide_eq_false (show ¬ ((j : Int) < 0) by omega), cond_false]
     have : decide ((-1 : Int) < 0) = true := rfl
     rw [this, cond_true]
     omega
   ·simp only [decide_eq_false hn, cond_false]
    rw [decide_eq_false (show ¬ (q + 1 < 0) by omega), cond_false]
  ·rfl
theorem Zu2 (l l2 : List Action) (i : Nat) (hi : i < l2.length) (hl : l.length ≤ 100) (hl2 : l2.length ≤ 100) (go : List Action → Int → Option (List Action)) : ∀ (m j : Nat), j ≤ l.length → l.length < j + m →
  Zd9 l l2 (i : Int) go m (Z0c (fun b => decide (Z0a l2[i] = Z0a b)) (l.take j)) (j : Int) = go (wr1 l l2[i]) ((i + 1 : Nat) : Int)
 | 0, j, h1, h2 => by omega
 | m + 1, j, h1, h2 => by
  have hlim : lim = 4294967296 := rfl
  rw [Zd9]
  by_cases hj : j < l.length
  ·have hs := Y0w (fun b => decide (Z0a l2[i] = Z0a b)) l j hj
   have ih := Zu2 l l2 i hi hl hl2 go m (j + 1) (by omega) (by omega)
   rw [decide_eq_true (show (j : Int) < (l.length : Int) by omega), cond_true, inc j (by omega)]
   by_cases hn : Z0c (fun b => decide (Z0a l2[i] = Z0a b)) (l.take j) < 0
   ·rw [decide_eq_true hn, cond_true] at hs
    rw [decide_eq_true hn, Z2x, Z0z hj, Option.bind_some, Z2x, Z0z hi, Option.bind_some, Z2x, Y9g, Option.bind_some, Bool.true_and]
    rw [hs] at ih
    cases hp : decide (Z0a l2[i] = Z0a l[j])
    ·rw [hp, cond_false] at ih
     rw [cond_false]
     have e : Z0c (fun b => decide (Z0a l2[i] = Z0a b)) (l.take j) = -1 := by
      have := Zbh (fun b => decide (Z0a l2[i] = Z0a b)) (l.take j); omega
     rw [e]; exact ih
    ·rw [hp, cond_true] at ih
     rw [cond_true]; exact ih
   ·rw [decide_eq_false hn, cond_false] at hs
    rw [decide_eq_false hn]
    simp only [Zl9, Option.bind_some, Bool.false_and, cond_false]
    rw [hs] at ih
    exact ih
  ·have e : l.take j = l := List.take_of_length_le (by omega)
   rw [decide_eq_false (by omega), cond_false, e]
   unfold wr1
   have hlt := Zl7 (fun b => decide (Z0a l2[i] = Z0a b)) l
   by_cases hn : Z0c (fun b => decide (Z0a l2[i] = Z0a b)) l < 0
   ·rw [decide_eq_true hn, cond_true, cond_true, Z0z hi, Option.bind_some, Z1b (by simp; omega), Option.bind_some, inc i (by omega)]
   ·obtain ⟨n, hn2⟩ : ∃ n : Nat, Z0c (fun b => decide (Z0a l2[i] = Z0a b)) l = (n : Int) := ⟨(Z0c (fun b => decide (Z0a l2[i] = Z0a b)) l).toNat, by omega⟩
    rw [decide_eq_false hn, cond_false, cond_false, Z0z hi, Option.bind_some, hn2, Z0z (by omega), Option.bind_some, inc i (by omega)]
theorem Y1o (l2 : List Action) (hl2 : l2.length ≤ 50) : ∀ (m i : Nat) (acc : List Action), i ≤ l2.length → l2.length < i + m → acc.length ≤ i + 50 → Za3 l2 m acc (i : Int) = some ((l2.drop i).foldl wr1 acc)
 | 0, i, acc, h1, h2, _ => by omega
 | m + 1, i, acc, h1, h2, h3 => by
  rw [Za3]
  by_cases hi : i < l2.length
  ·have h4 := Zu2 acc l2 i hi (by omega) (by omega) (Za3 l2 m) ((((acc.length : Int) : Int) - 0).toNat + 1) 0 (by omega) (by omega)
   rw [List.take_zero, show ((0 : Nat) : Int) = 0 from rfl] at h4
   have h5 := Zrb acc l2[i]
   rw [decide_eq_true (by omega), cond_true]
   refine Eq.trans h4 ?_
   rw [Y1o l2 hl2 m (i + 1) _ (by omega) (by omega) (by omega), List.drop_eq_getElem_cons hi, List.foldl_cons]
  ·rw [decide_eq_false (by omega), cond_false, List.drop_of_length_le (by omega)]; rfl
theorem Yif (s l : List Action) (hs : s.length ≤ 50) (h : l.length ≤ 50) : Zlc s l = some (l.foldl wr1 s) := by
 unfold Zlc
 have := Y1o l h ((((l.length : Int) : Int) - 0).toNat + 1) 0 s (by omega) (by omega) (by omega)
 rw [Z1b (by simp [lim]; omega), Option.bind_some, List.nil_append]
 rw [show ((0 : Nat) : Int) = 0 from rfl, List.drop_zero] at this
 exact this
def cls (k : Int) (l : List Action) : List Action := l.filter fun a => decide (a.Kind = k)
theorem Zsi (l : List Action) (k : Int) (hl : l.length ≤ 50) : ∀ (m i : Nat) (acc : List Action), i ≤ l.length → l.length < i + m → acc.length ≤ i → Zdb l k m acc (i : Int) = some (acc ++ cls k (l.drop i))
 | 0, i, acc, h1, h2, _ => by omega
 | m + 1, i, acc, h1, h2, h3 => by
  have hlim : lim = 4294967296 := rfl
  rw [Zdb]
  by_cases hi : i < l.length
  ·rw [decide_eq_true (by omega), cond_true, Z0z hi, Option.bind_some, inc i (by omega), List.drop_eq_getElem_cons hi]
   unfold cls
   by_cases hk : l[i].Kind = k
   ·rw [decide_eq_true hk, cond_true, Option.bind_some, Z1b (by simp; omega), Option.bind_some, Zsi l k hl m (i + 1) _ (by omega) (by omega) (by simp; omega), List.filter_cons_of_pos (by simp [hk])]
    simp [cls]
   ·rw [decide_eq_false hk, cond_false, Zsi l k hl m (i + 1) _ (by omega) (by omega) (by omega), List.filter_cons_of_neg (by simp [hk])]
    simp [cls]
  ·rw [decide_eq_false (by omega), cond_false, List.drop_of_length_le (by omega)]
   simp [cls]
theorem Zl6 (l : List Action) (k : Int) (hl : l.length ≤ 50) : Z7f l k = some (cls k l) := by
 unfold Z7f
 have := Zsi l k hl ((((l.length : Int) : Int) - 0).toNat + 1) 0 [] (by omega) (by omega) (by simp)
 rw [show ((0 : Nat) : Int) = 0 from rfl] at this
 rw [this]; simp
def ltF (a b : Action) : Bool := decide (b.Oxm.Field > a.Oxm.Field)
theorem Zrl (l1 : List Action) (i : Nat) (hi : i < l1.length) (hi2 : l1.length ≤ 50) (go : List Action → Int → Option (List Action)) (A : List Action) (hA : A.length ≤ 50) : ∀ (Br S : List Action) (c : Action) (m : Nat), Br.length < m → Br.length ≤ 50 →
  Zd1 (A.length : Int) l1 (i : Int) go m (A ++ (Br.reverse ++ c :: S)) ((A.length + Br.length : Nat) : Int) = go (A ++ l1[i] :: (Br.reverse ++ S)) ((i + 1 : Nat) : Int)
 | [], S, c, m, hm, _ => by
  obtain ⟨m, rfl⟩ : ∃ k, m = k + 1 := ⟨m - 1, by simp at hm; omega⟩
  have g0 : lget (A ++ c :: S) (A.length : Int) = some c := by
   rw [Z6k, List.getElem?_append_right (Nat.le_refl _)]; simp
  have s0 : List.set (A ++ c :: S) ((A.length : Int)).toNat l1[i] = A ++ l1[i] :: S := by
   rw [Int.toNat_natCast, List.set_append_right _ _ (Nat.le_refl _)]; simp
  rw [Zd1, decide_eq_false (by simp), cond_false, Z0z hi, Option.bind_some]
  simp only [List.reverse_nil, List.nil_append]
  rw [g0, Option.bind_some, s0, inc i (by omega)]
 | b :: Br, S, c, m, hm, hb => by
  simp only [List.length_cons] at hm hb
  obtain ⟨m, rfl⟩ : ∃ k, m = k + 1 := ⟨m - 1, by omega⟩
  have e0 : A ++ ((b :: Br).reverse ++ c :: S) = (A ++ Br.reverse) ++ b :: c :: S := by simp
  have ej : IntKind.i64.wrap (((A.length + (b :: Br).length : Nat) : Int) - 1) = ((A.length + Br.length : Nat) : Int) := by rw [Z2g (by simp only [List.length_cons]; omega) (by simp only [List.length_cons]; omega)]; simp only [List.length_cons]; omega
  have hlen : (A ++ Br.reverse).length = A.length + Br.length := by simp
  have g0 : lget ((A ++ Br.reverse) ++ b :: c :: S) ((A.length + Br.length : Nat) : Int) = some b := by
   rw [Z6k, List.getElem?_append_right (by omega), hlen, Nat.sub_self]; rfl
  have g1 : lget ((A ++ Br.reverse) ++ b :: c :: S) ((A.length + (b :: Br).length : Nat) : Int) = some c := by
   rw [Z6k, List.getElem?_append_right (by simp only [List.length_cons]; omega), hlen]
   have : A.length + (b :: Br).length - (A.length + Br.length) = 1 := by simp only [List.length_cons]; omega
   rw [this]; rfl
  have s1 : List.set ((A ++ Br.reverse) ++ b :: c :: S) (((A.length + (b :: Br).length : Nat) : Int)).toNat b = A ++ (Br.reverse ++ b :: b :: S) := by
   rw [Int.toNat_natCast, List.set_append_right _ _ (by simp only [List.length_cons]; omega), hlen]
   have : A.length + (b :: Br).length - (A.length + Br.length) = 1 := by simp only [List.length_cons]; omega
   rw [this]; simp
  rw [e0, Zd1, decide_eq_true (by simp only [List.length_cons]; omega), cond_true, ej, g0, Option.bind_some, g1, Option.bind_some, s1, Zrl l1 i hi hi2 go A hA Br (b :: S) b m (by omega) (by omega)]
  simp
theorem Zy0 (l1 : List Action) (i : Nat) (hi : i < l1.length) (hi2 : l1.length ≤ 50) (go : List Action → Int → Option (List Action)) : ∀ (Ar B : List Action) (m : Nat), Ar.length < m → Ar.length + B.length ≤ 50 →
  Zbs (Ar.reverse ++ B) l1 (i : Int) go m (Ar.length : Int) = go ((Z0q ltF l1[i] Ar).reverse ++ B) ((i + 1 : Nat) : Int)
 | [], B, m, hm, hb => by
  have hlim : lim = 4294967296 := rfl
  obtain ⟨m, rfl⟩ : ∃ k, m = k + 1 := ⟨m - 1, by simp at hm; omega⟩
  simp only [List.length_nil, Nat.zero_add] at hb
  rw [Zbs, show decide ((([] : List Action).length : Int) > 0) = false from rfl]
  simp only [Zl9, Option.bind_some, Bool.false_and, cond_false, List.reverse_nil, List.nil_append]
  rw [Z1b (by simp; omega), Option.bind_some]
  have e1 : IntKind.i64.wrap (((B ++ [(⟨0, 0, 0, 0, 0, Z3x⟩ : Action)]).length : Int) - 1) = ((([] : List Action).length + B.reverse.length : Nat) : Int) := by rw [Z2g (by simp <;> omega) (by simp <;> omega)]; simp
  have := Zrl l1 i hi hi2 go [] (by simp) B.reverse [] (⟨0, 0, 0, 0, 0, Z3x⟩ : Action) ((((([] : List Action).length + B.reverse.length : Nat) : Int) - (([] : List Action).length : Int)).toNat + 1) (by simp <;> omega) (by simp <;> omega)
  simp only [List.nil_append, List.reverse_reverse, List.append_nil] at this
  rw [e1]
  refine Eq.trans this ?_
  simp [Z0q]
 | y :: Ar, B, m, hm, hb => by
  have hlim : lim = 4294967296 := rfl
  simp only [List.length_cons] at hm hb
  obtain ⟨m, rfl⟩ : ∃ k, m = k + 1 := ⟨m - 1, by omega⟩
  have ej : IntKind.i64.wrap (((y :: Ar).length : Int) - 1) = (Ar.length : Int) := by rw [Z2g (by simp only [List.length_cons]; omega) (by simp only [List.length_cons]; omega)]; simp only [List.length_cons]; omega
  have e0 : (y :: Ar).reverse ++ B = Ar.reverse ++ y :: B := by simp
  have g0 : lget (Ar.reverse ++ y :: B) (Ar.length : Int) = some y := by
   rw [Z6k, List.getElem?_append_right (by simp)]; simp
  rw [Zbs, decide_eq_true (by simp only [List.length_cons]; omega), Z2x, ej, e0, g0, Option.bind_some, Z2x, Z0z hi, Option.bind_some, Bool.true_and, Z0q]
  show (bif ltF l1[i] y then _ else _) = _
  cases ltF l1[i] y
  ·rw [cond_false, cond_false, Z1b (by simp; omega), Option.bind_some]
   have e1 : IntKind.i64.wrap (((Ar.reverse ++ y :: B ++ [(⟨0, 0, 0, 0, 0, Z3x⟩ : Action)]).length : Int) - 1) = (((y :: Ar).reverse.length + B.reverse.length : Nat) : Int) := by rw [Z2g (by simp; omega) (by simp; omega)]; simp; omega
   have := Zrl l1 i hi hi2 go (y :: Ar).reverse (by simp; omega) B.reverse [] (⟨0, 0, 0, 0, 0, Z3x⟩ : Action) (((((y :: Ar).reverse.length + B.reverse.length : Nat) : Int) - ((y :: Ar).length : Int)).toNat + 1) (by simp; omega) (by simp; omega)
   simp only [List.reverse_reverse, List.append_nil] at this
   rw [e1]
   have e2 : Ar.reverse ++ y :: B ++ [(⟨0, 0, 0, 0, 0, Z3x⟩ : Action)] = (y :: Ar).reverse ++ (B ++ [(⟨0, 0, 0, 0, 0, Z3x⟩ : Action)]) := by simp
   have e3 : (((y :: Ar).length : Int)) = (((y :: Ar).reverse.length : Nat) : Int) := by simp
   rw [e2]
   rw [e3] at this ⊢
   refine Eq.trans this ?_
   simp
  ·rw [cond_true, cond_true, Zy0 l1 i hi hi2 go Ar (y :: B) m (by omega) (by simp only [List.length_cons]; omega)]
   simp
theorem Zwa (l : List Action) (hl : l.length ≤ 50) : ∀ (m i : Nat) (R : List Action), i ≤ l.length → l.length < i + m → R.length ≤ i → Z87 l m R.reverse (i : Int) = some (((l.drop i).foldl (fun R x => Z0q ltF x R) R).reverse)
 | 0, i, R, h1, h2, _ => by omega
 | m + 1, i, R, h1, h2, h3 => by
  rw [Z87]
  by_cases hi : i < l.length
  ·have h4 := Zy0 l i hi hl (Z87 l m) R [] Z0w (by unfold Z0w; omega) (by simp; omega)
   rw [List.append_nil, List.append_nil] at h4
   have e : ((R.reverse).length : Int) = (R.length : Int) := by simp
   rw [decide_eq_true (by omega), cond_true, e, h4, Zwa l hl m (i + 1) _ (by omega) (by omega) (by rw [Zxh]; omega), List.drop_eq_getElem_cons hi, List.foldl_cons]
  ·rw [decide_eq_false (by omega), cond_false, List.drop_of_length_le (by omega)]; rfl
theorem Y44 (l : List Action) (hl : l.length ≤ 50) : Zh4 l = some (srt ltF l) := by
 unfold Zh4 srt
 have := Zwa l hl ((((l.length : Int) : Int) - 0).toNat + 1) 0 [] (by omega) (by omega) (by simp)
 rw [show ((0 : Nat) : Int) = 0 from rfl, List.drop_zero] at this
 exact this
theorem Z6h {α : Type} (lt : α → α → Bool) (x : α) : ∀ P Q : List α, (∀ y ∈ P, lt x y = true) → Z0q lt x (P ++ Q) = P ++ Z0q lt x Q
 | [], Q, _ => rfl
 | y :: P, Q, h => by
  rw [List.cons_append, Z0q, h y (by simp), cond_true, Z6h lt x P Q fun z hz => h z (by simp [hz])]; rfl
theorem Zgt {α : Type} (lt : α → α → Bool) (x : α) : ∀ Q : List α, (∀ y ∈ Q, lt x y = false) → Z0q lt x Q = x :: Q
 | [], _ => rfl
 | y :: Q, h => by rw [Z0q, h y (by simp), cond_false]
theorem Zzk {α : Type} (lt lt' : α → α → Bool) (x : α) : ∀ P Q : List α, (∀ y ∈ P, lt x y = lt' x y) → (∀ y ∈ Q, lt x y = false) → Z0q lt x (P ++ Q) = Z0q lt' x P ++ Q
 | [], Q, _, hq => by rw [List.nil_append, Zgt lt x Q hq]; rfl
 | y :: P, Q, hp, hq => by
  rw [List.cons_append, Z0q, Z0q, hp y (by simp)]
  cases lt' x y
  ·rfl
  ·rw [cond_true, cond_true, Zzk lt lt' x P Q (fun z hz => hp z (by simp [hz])) hq]; rfl
def tn (k : Int) : Int := if k = 18 then 0 else if k = 17 then 1 else if k = 25 then 2 else if k = 22 then 3 else if k = 0 then 4 else -1
theorem Zi8 (k : Int) : Z3m k = tn k := by
 unfold Z3m tn
 simp only [Z0c]
 by_cases h1 : k = 18
 ·subst h1; rfl
 ·by_cases h2 : k = 17
  ·subst h2; rfl
  ·by_cases h3 : k = 25
   ·subst h3; rfl
   ·by_cases h4 : k = 22
    ·subst h4; rfl
    ·by_cases h5 : k = 0
     ·subst h5; rfl
     ·simp [h1, h2, h3, h4, h5]
theorem Yjn (x y : Action) (k j : Int) (hx : x.Kind = k) (hy : y.Kind = j) (hk : -1 ≤ tn k ∧ tn k ≤ 4) (hj : -1 ≤ tn j ∧ tn j ≤ 4) (hne : tn k ≠ tn j) : ltA x y = decide (tn k < tn j) := by
 unfold ltA Z97
 have e : decide (tn k - tn j ≠ 0) = true := decide_eq_true (by omega)
 rw [Zej, Zej, hx, hy, Zi8, Zi8, Z2g (by omega) (by omega), e, cond_true, decide_eq_decide]
 omega
theorem Zoy (x y : Action) (k : Int) (hx : x.Kind = k) (hy : y.Kind = k) (hk : k ≠ 25) : ltA x y = false := by
 unfold ltA Z97
 rw [Zej, Zej, hx, hy, Int.sub_self, show IntKind.i64.wrap 0 = 0 by decide, show decide ((0 : Int) ≠ 0) = false from rfl, cond_false]
 have e1 : (Z0a x).field = 0 := by unfold Z0a; rw [decide_eq_false (by rw [hx]; exact hk)]; rfl
 have e2 : (Z0a y).field = 0 := by unfold Z0a; rw [decide_eq_false (by rw [hy]; exact hk)]; rfl
 rw [e1, e2]; rfl
theorem Yhf (x y : Action) (hx : x.Kind = 25) (hy : y.Kind = 25) : ltA x y = ltF x y := by
 unfold ltA Z97 ltF
 rw [Zej, Zej, hx, hy, Int.sub_self, show IntKind.i64.wrap 0 = 0 by decide, show decide ((0 : Int) ≠ 0) = false from rfl, cond_false]
 have e1 : (Z0a x).field = x.Oxm.Field := by unfold Z0a; rw [decide_eq_true hx]; rfl
 have e2 : (Z0a y).field = y.Oxm.Field := by unfold Z0a; rw [decide_eq_true hy]; rfl
 rw [e1, e2]
 by_cases h : x.Oxm.Field < y.Oxm.Field
 ·rw [decide_eq_true h, cond_true]; rfl
 ·rw [decide_eq_false h, cond_false]
  cases decide (x.Oxm.Field > y.Oxm.Field) <;> rfl
theorem Ze5 : ∀ (l E D C B A : List Action), (∀ y ∈ E, y.Kind = 0) → (∀ y ∈ D, y.Kind = 22) → (∀ y ∈ C, y.Kind = 25) → (∀ y ∈ B, y.Kind = 17) → (∀ y ∈ A, y.Kind = 18) → (∀ y ∈ l, 0 ≤ tn y.Kind) →
  l.foldl (fun R x => Z0q ltA x R) (E ++ (D ++ (C ++ (B ++ A)))) = (cls 0 l).reverse ++ E ++ ((cls 22 l).reverse ++ D ++ ((cls 25 l).foldl (fun R x => Z0q ltF x R) C ++ ((cls 17 l).reverse ++ B ++ ((cls 18 l).reverse ++ A))))
 | [], E, D, C, B, A, _, _, _, _, _, _ => by simp [cls]
 | x :: l, E, D, C, B, A, hE, hD, hC, hB, hA, hl => by
  have hx := hl x (by simp)
  have hl' : ∀ y ∈ l, 0 ≤ tn y.Kind := fun y hy => hl y (by simp [hy])
  have rk : ∀ k : Int, -1 ≤ tn k ∧ tn k ≤ 4 := fun k => by unfold tn; split <;> (try split) <;> (try split) <;> (try split) <;> (try split) <;> omega
  have far : ∀ (y : Action) (k j : Int), x.Kind = k → y.Kind = j → tn k ≠ tn j → ltA x y = decide (tn k < tn j) := fun y k j h1 h2 h3 => Yjn x y k j h1 h2 (rk k) (rk j) h3
  rw [List.foldl_cons]
  have hxk : x.Kind = 18 ∨ x.Kind = 17 ∨ x.Kind = 25 ∨ x.Kind = 22 ∨ x.Kind = 0 := by
   unfold tn at hx
   by_cases h1 : x.Kind = 18
   ·exact .inl h1
   ·by_cases h2 : x.Kind = 17
    ·exact .inr (.inl h2)
    ·by_cases h3 : x.Kind = 25
     ·exact .inr (.inr (.inl h3))
     ·by_cases h4 : x.Kind = 22
      ·exact .inr (.inr (.inr (.inl h4)))
      ·by_cases h5 : x.Kind = 0
       ·exact .inr (.inr (.inr (.inr h5)))
       ·simp [h1, h2, h3, h4, h5] at hx
  have c1 : ∀ k, x.Kind = k → cls k (x :: l) = x :: cls k l := fun k h => by unfold cls; rw [List.filter_cons_of_pos (by simp [h])]
  have c0 : ∀ k, x.Kind ≠ k → cls k (x :: l) = cls k l := fun k h => by unfold cls; rw [List.filter_cons_of_neg (by simp [h])]
  rcases hxk with h | h | h | h | h
  ·rw [Z6h ltA x E _ fun y hy => (far y 18 0 h (hE y hy) (by decide)).trans rfl, Z6h ltA x D _ fun y hy => (far y 18 22 h (hD y hy) (by decide)).trans rfl, Z6h ltA x C _ fun y hy => (far y 18 25 h (hC y hy) (by decide)).trans rfl, Z6h ltA x B _ fun y hy => (far y 18 17 h (hB y hy) (by decide)).trans rfl, Zgt ltA x A fun y hy => Zoy x y 18 h (hA y hy) (by decide),
    Ze5 l E D C B (x :: A) hE hD hC hB (fun y hy => by rcases List.mem_cons.1 hy with rfl | hy; exact h; exact hA y hy) hl', c1 18 h, c0 17 (by rw [h]; decide), c0 25 (by rw [h]; decide), c0 22 (by rw [h]; decide), c0 0 (by rw [h]; decide)]
   simp
  ·rw [Z6h ltA x E _ fun y hy => (far y 17 0 h (hE y hy) (by decide)).trans rfl, Z6h ltA x D _ fun y hy => (far y 17 22 h (hD y hy) (by decide)).trans rfl, Z6h ltA x C _ fun y hy => (far y 17 25 h (hC y hy) (by decide)).trans rfl, Zgt ltA x (B ++ A) fun y hy => (by
    rcases List.mem_append.1 hy with hy | hy
    ·exact Zoy x y 17 h (hB y hy) (by decide)
    ·exact (far y 17 18 h (hA y hy) (by decide)).trans rfl)]
   have := Ze5 l E D C (x :: B) A hE hD hC (fun y hy => by rcases List.mem_cons.1 hy with rfl | hy; exact h; exact hB y hy) hA hl'
   rw [List.cons_append] at this
   rw [this, c1 17 h, c0 18 (by rw [h]; decide), c0 25 (by rw [h]; decide), c0 22 (by rw [h]; decide), c0 0 (by rw [h]; decide)]
   simp
  ·rw [Z6h ltA x E _ fun y hy => (far y 25 0 h (hE y hy) (by decide)).trans rfl, Z6h ltA x D _ fun y hy => (far y 25 22 h (hD y hy) (by decide)).trans rfl, Zzk ltA ltF x C (B ++ A) (fun y hy => Yhf x y h (hC y hy)) (fun y hy => (by
    rcases List.mem_append.1 hy with hy | hy
    ·exact (far y 25 17 h (hB y hy) (by decide)).trans rfl
    ·exact (far y 25 18 h (hA y hy) (by decide)).trans rfl)),
    Ze5 l E D (Z0q ltF x C) B A hE hD (fun y hy => by rcases List.mem_cons.1 ((Zhz ltF x C).mem_iff.1 hy) with rfl | hy; exact h; exact hC y hy) hB hA hl', c1 25 h, c0 18 (by rw [h]; decide), c0 17 (by rw [h]; decide), c0 22 (by rw [h]; decide), c0 0 (by rw [h]; decide)]
   rw [List.foldl_cons]
  ·rw [Z6h ltA x E _ fun y hy => (far y 22 0 h (hE y hy) (by decide)).trans rfl, Zgt ltA x (D ++ (C ++ (B ++ A))) fun y hy => (by
    rcases List.mem_append.1 hy with hy | hy
    ·exact Zoy x y 22 h (hD y hy) (by decide)
    ·rcases List.mem_append.1 hy with hy | hy
     ·exact (far y 22 25 h (hC y hy) (by decide)).trans rfl
     ·rcases List.mem_append.1 hy with hy | hy
      ·exact (far y 22 17 h (hB y hy) (by decide)).trans rfl
      ·exact (far y 22 18 h (hA y hy) (by decide)).trans rfl)]
   have := Ze5 l E (x :: D) C B A hE (fun y hy => by rcases List.mem_cons.1 hy with rfl | hy; exact h; exact hD y hy) hC hB hA hl'
   rw [List.cons_append] at this
   rw [this, c1 22 h, c0 18 (by rw [h]; decide), c0 17 (by rw [h]; decide), c0 25 (by rw [h]; decide), c0 0 (by rw [h]; decide)]
   simp
  ·rw [Zgt ltA x (E ++ (D ++ (C ++ (B ++ A)))) fun y hy => (by
    rcases List.mem_append.1 hy with hy | hy
    ·exact Zoy x y 0 h (hE y hy) (by decide)
    ·rcases List.mem_append.1 hy with hy | hy
     ·exact (far y 0 22 h (hD y hy) (by decide)).trans rfl
     ·rcases List.mem_append.1 hy with hy | hy
      ·exact (far y 0 25 h (hC y hy) (by decide)).trans rfl
      ·rcases List.mem_append.1 hy with hy | hy
       ·exact (far y 0 17 h (hB y hy) (by decide)).trans rfl
       ·exact (far y 0 18 h (hA y hy) (by decide)).trans rfl)]
   have := Ze5 l (x :: E) D C B A (fun y hy => by rcases List.mem_cons.1 hy with rfl | hy; exact h; exact hE y hy) hD hC hB hA hl'
   rw [List.cons_append] at this
   rw [this, c1 0 h, c0 18 (by rw [h]; decide), c0 17 (by rw [h]; decide), c0 25 (by rw [h]; decide), c0 22 (by rw [h]; decide)]
   simp
theorem Y6l (l : List Action) (h : ∀ y ∈ l, 0 ≤ tn y.Kind) : srt ltA l = cls 18 l ++ (cls 17 l ++ (srt ltF (cls 25 l) ++ (cls 22 l ++ cls 0 l))) := by
 unfold srt
 have := Ze5 l [] [] [] [] [] (by simp) (by simp) (by simp) (by simp) (by simp) h
 simp only [List.nil_append, List.append_nil] at this
 rw [this]
 simp
theorem Zjb (k : Int) (p : Action → Bool) (l : List Action) (h : ∀ a, a.Kind = k → p a = true) : cls k (l.filter p) = cls k l := by
 unfold cls
 rw [List.filter_filter]
 apply List.filter_congr
 intro a _
 by_cases hk : a.Kind = k
 ·simp [hk, h a hk]
 ·simp [hk]
theorem Y7s (k : Int) (p : Action → Bool) (l : List Action) (h : ∀ a, a.Kind = k → p a = false) : cls k (l.filter p) = [] := by
 unfold cls
 rw [List.filter_filter, List.filter_eq_nil_iff]
 intro a _
 by_cases hk : a.Kind = k
 ·simp [hk, h a hk]
 ·simp [hk]
theorem Yc3 (s : List Action) (h : s.length ≤ 50) : Zg7 s = some (Z7m s) := by
 have hlim : lim = 4294967296 := rfl
 have lc : ∀ k, (cls k s).length ≤ 50 := fun k => Nat.le_trans (List.length_filter_le ..) (by omega)
 have l18 := lc 18
 have l17 := lc 17
 have l25 := lc 25
 have l22 := lc 22
 have l0 := lc 0
 have ls : (srt ltF (cls 25 s)).length ≤ 50 := by rw [(Yj0 _ _).length_eq]; exact l25
 unfold Zg7 Z7m
 rw [Zl6 s 18 (by omega), Option.bind_some, Zl6 s 17 (by omega), Option.bind_some, Z1b (by omega), Option.bind_some, Zl6 s 25 (by omega), Option.bind_some, Y44 _ (by omega), Option.bind_some, Z1b (by rw [List.length_append]; omega), Option.bind_some, Zl6 s 22 (by omega), Option.bind_some]
 have hk : ∀ (b : Bool) (a : Action), Z5y b a = true → 0 ≤ tn a.Kind := fun b a ha => by
  unfold Z5y at ha
  rw [Zi8] at ha
  simp only [Bool.not_eq_true', Bool.or_eq_false_iff, decide_eq_false_iff_not] at ha
  omega
 have kp : ∀ (b : Bool) (k : Int), 0 ≤ tn k → k ≠ 0 → ∀ a : Action, a.Kind = k → Z5y b a = true := fun b k hk h0 a ha => by
  unfold Z5y
  rw [Zi8, ha, decide_eq_false (by omega), decide_eq_false h0]; simp
 have hany : (s.any fun a => decide (a.Kind = 22)) = decide (((cls 22 s).length : Int) > 0) := by
  rw [Bool.eq_iff_iff, List.any_eq_true, decide_eq_true_eq]
  constructor
  ·rintro ⟨a, ha, hk⟩
   have : a ∈ cls 22 s := List.mem_filter.2 ⟨ha, hk⟩
   have := List.length_pos_of_mem this
   omega
  ·intro hp
   obtain ⟨a, ha⟩ := List.exists_mem_of_length_pos (show 0 < (cls 22 s).length by omega)
   have := List.mem_filter.1 ha
   exact ⟨a, this.1, this.2⟩
 rw [Y6l _ (fun y hy => hk _ y (List.mem_filter.1 hy).2), Zjb 18 _ _ (kp _ 18 (by decide) (by decide)), Zjb 17 _ _ (kp _ 17 (by decide) (by decide)), Zjb 25 _ _ (kp _ 25 (by decide) (by decide)), Zjb 22 _ _ (kp _ 22 (by decide) (by decide)), hany]
 cases hg : decide (((cls 22 s).length : Int) > 0)
 ·have e22 : cls 22 s = [] := List.eq_nil_of_length_eq_zero (by rw [decide_eq_false_iff_not] at hg; omega)
  have e0 : cls 0 (s.filter (Z5y false)) = cls 0 s := Zjb 0 _ _ fun a ha => by
   unfold Z5y
   rw [Zi8, ha]; rfl
  rw [cond_false, Zl6 s 0 (by omega), Option.bind_some, Z1b (by simp only [List.length_append]; omega), Option.bind_some, e22, e0]
  simp
 ·have e0 : cls 0 (s.filter (Z5y true)) = [] := Y7s 0 _ _ fun a ha => by
   unfold Z5y
   rw [ha]; simp
  rw [cond_true, Z1b (by simp only [List.length_append]; omega), Option.bind_some, e0]
  simp
end Go.Proofs.YtknpgojdkobgjaaGreat.W
namespace Go.Proofs.YtknpgojdkobgjaaGreat.W
open Go Go.Wb
end Go.Proofs.YtknpgojdkobgjaaGreat.W
namespace Go.Proofs.YtknpgojdkobgjaaGreat.W
open Go Go.Wb
theorem Zlm (acts : List Action) (ha : acts.length ≤ 1000) : ∀ (m i : Nat) (r : Cube) (o : List Atom), i ≤ acts.length → acts.length < i + m → o.length ≤ i → Z6f acts m r o (i : Int) = some (o ++ (doT (acts.drop i) r).1, (doT (acts.drop i) r).2)
 | 0, i, r, o, h1, h2, _ => by omega
 | m + 1, i, r, o, h1, h2, hb => by
  have hlim : lim = 4294967296 := rfl
  rw [Z6f]
  by_cases hi : i < acts.length
  ·rw [decide_eq_true (by omega), cond_true, Z0z hi, Option.bind_some, List.drop_eq_getElem_cons hi, doT]
   unfold Zb5 Zn5 Zqk
   by_cases h0 : acts[i].Kind = 0
   ·have hj : ∀ x : Atom, Zdf o (Z6f acts m) r (i : Int) x = some (o ++ x :: (doT (acts.drop (i + 1)) r).1, (doT (acts.drop (i + 1)) r).2) := fun x => by
     unfold Zdf
     rw [Z1b (by simp only [List.length_cons, List.length_nil]; omega), Option.bind_some, inc i (by omega), Zlm acts ha m (i + 1) r _ (by omega) (by omega) (by simp only [List.length_append, List.length_cons, List.length_nil]; omega)]
     simp
    rw [decide_eq_true h0]
    simp only [cond_true, Option.bind_some, Bool.true_or]
    cases hp : decide (acts[i].Port = 4294967293)
    ·simp only [hp, cond_false]
     rw [hj]
    ·simp only [hp, cond_true]
     rw [hj]
   ·rw [decide_eq_false h0]
    simp only [cond_false, Option.bind_some, Bool.false_or]
    by_cases h4 : acts[i].Kind = 22
    ·rw [decide_eq_true h4]
     simp only [cond_true, Option.bind_some]
     rw [Z1b (by simp only [List.length_cons, List.length_nil]; omega), Option.bind_some, inc i (by omega), Zlm acts ha m (i + 1) r _ (by omega) (by omega) (by simp only [List.length_append, List.length_cons, List.length_nil]; omega)]
     simp
    ·rw [decide_eq_false h4]
     simp only [cond_false, Option.bind_some]
     rw [Y7o, Option.bind_some, Zsd, Option.bind_some, inc i (by omega), Zlm acts ha m (i + 1) _ o (by omega) (by omega) (by omega)]
  ·rw [decide_eq_false (by omega), cond_false, List.drop_of_length_le (by omega)]; simp [doT]
theorem Zxs (acts : List Action) (r : Cube) (ha : acts.length ≤ 1000) : Zbj acts r = some (doT acts (Z0r r)) := by
 unfold Zbj
 rw [Zm9, Option.bind_some]
 have := Zlm acts ha ((((acts.length : Int) : Int) - 0).toNat + 1) 0 (Z0r r) [] (by omega) (by omega) (by simp)
 rw [show ((0 : Nat) : Int) = 0 from rfl] at this
 rw [this]; simp
end Go.Proofs.YtknpgojdkobgjaaGreat.W
namespace Go.Proofs.YtknpgojdkobgjaaGreat.W
open Go Go.Wb
def acl (x : Atom) : Atom := { x with Rewrite := Z0r x.Rewrite }
theorem Y5j (a b : Atom) : Zgj a b = some (decide (acl a = acl b)) := by
 unfold Zgj
 rw [Znw, Option.bind_some, Znw, Option.bind_some]; rfl
theorem Y2c (t : List Atom) : ∀ (s : List Atom) (i : Nat), i + s.length = t.length → Z9q t Zgj s i = some (decide (s.map acl = (t.drop i).map acl))
 | [], i, h => by
  rw [Z9q, List.drop_of_length_le (by simp at h; omega)]; rfl
 | x :: s, i, h => by
  simp only [List.length_cons] at h
  have hi : i < t.length := by omega
  rw [Z9q, Z0z hi, Option.bind_some, Y5j, Option.bind_some, Y2c t s (i + 1) (by omega), List.drop_eq_getElem_cons hi, List.map_cons, List.map_cons]
  generalize acl t[i] = y
  generalize acl x = z
  generalize List.map acl s = l
  generalize List.map acl (t.drop (i + 1)) = l'
  by_cases he : z = y
  ·simp [he]
  ·simp [he]
theorem Yhb (a b : List Atom) : Zjn a b = some (decide (a.map acl = b.map acl)) := by
 unfold Zjn Zmc
 by_cases hl : a.length = b.length
 ·rw [decide_eq_false (by omega), cond_false, Y2c b a 0 (by omega)]; rfl
 ·rw [decide_eq_true (by omega), cond_true]
  have : a.map acl ≠ b.map acl := fun e => hl (by have := congrArg List.length e; simpa using this)
  simp [this]
theorem Y2q (x y : Atom) (K : Option Bool) : ((opt (!(!(x.Group == y.Group))) (some x)).bind fun e8 => (opt (!(!(x.Group == y.Group))) (some y)).bind fun e9 => (opt (!((!(x.Group == y.Group)) || (decide (e8.Port ≠ e9.Port)))) (some x)).bind fun e10 => (opt (!((!(x.Group == y.Group)) || (decide (e8.Port ≠ e9.Port)))) (some y)).bind fun e11 => (opt (!(((!(x.Group == y.Group)) || (decide (e8.Port ≠ e9.Port))) || (decide (e10.Max ≠ e11.Max)))) (some x)).bind fun e12 => (opt (!(((!(x.Group == y.Group)) || (decide (e8.Port ≠ e9.Port))) || (decide (e10.Max ≠ e11.Max)))) (Z69 e12.Rewrite)).bind fun x13 => (opt (!(((!(x.Group == y.Group)) || (decide (e8.Port ≠ e9.Port))) || (decide (e10.Max ≠ e11.Max)))) (some y)).bind fun e14 => (opt (!(((!(x.Group == y.Group)) || (decide (e8.Port ≠ e9.Port))) || (decide (e10.Max ≠ e11.Max)))) (Z69 e14.Rewrite)).bind fun x15 => (bif ((((!(x.Group == y.Group)) || (decide (e8.Port ≠ e9.Port))) || (decide (e10.Max ≠ e11.Max))) || (decide (x13 ≠ x15))) then some false else K)) = bif decide (acl x = acl y) then K else some false := by
 cases x; cases y; rename_i r g p m r' g' p' m'
 unfold acl
 simp only [Zm9]
 by_cases hg : g = g'
 ·by_cases hp : p = p'
  ·by_cases hm : m = m'
   ·by_cases hq : Z0r r = Z0r r'
    ·simp [opt, hg, hp, hm, hq]
    ·simp [opt, hg, hp, hm, hq]
   ·simp [opt, hg, hp, hm]
  ·simp [opt, hg, hp]
 ·have hg' : (g == g') = false := by simp [hg]
  simp [opt, hg, hg']
theorem Zze (a b : List Atom) (hl : a.length = b.length) (hs : a.length ≤ 1000000) : ∀ (m i : Nat), i ≤ a.length → a.length < i + m → Zek a b m (i : Int) = some (decide ((a.drop i).map acl = (b.drop i).map acl))
 | 0, i, h1, h2 => by omega
 | m + 1, i, h1, h2 => by
  rw [Zek]
  by_cases hi : i < a.length
  ·have hb : i < b.length := by omega
   rw [decide_eq_true (by omega), cond_true, Z0z hi, Option.bind_some, Z0z hb, Option.bind_some, Y2q, inc i (by omega), Zze a b hl hs m (i + 1) (by omega) (by omega), List.drop_eq_getElem_cons hi, List.drop_eq_getElem_cons hb, List.map_cons, List.map_cons]
   generalize acl a[i] = x
   generalize acl b[i] = y
   generalize List.map acl (a.drop (i + 1)) = l
   generalize List.map acl (b.drop (i + 1)) = l'
   by_cases he : x = y
   ·simp [he]
   ·simp [he]
  ·rw [decide_eq_false (by omega), cond_false, List.drop_of_length_le (by omega), List.drop_of_length_le (by omega)]
   rfl
theorem Yax (a b : List Atom) (hs : a.length ≤ 1000000) : Zfw a b = some (decide (a.map acl = b.map acl)) := by
 unfold Zfw
 by_cases hl : a.length = b.length
 ·have := Zze a b hl hs ((((a.length : Int) : Int) - 0).toNat + 1) 0 (by omega) (by omega)
  rw [decide_eq_false (by omega), cond_false]
  exact this
 ·rw [decide_eq_true (by omega), cond_true]
  have : a.map acl ≠ b.map acl := fun e => hl (by have := congrArg List.length e; simpa using this)
  simp [this]
end Go.Proofs.YtknpgojdkobgjaaGreat.W
namespace Go.Proofs.YtknpgojdkobgjaaGreat.W
open Go Go.Wb
end Go.Proofs.YtknpgojdkobgjaaGreat.W
namespace Go.Proofs.YtknpgojdkobgjaaGreat.W
open Go Go.Wb
theorem Zsf (a b : Wide) : Zkl a b = some (Z5i a b) := rfl
theorem Zxi (a : Wide) : Zf3 a = some (Z3k a) := rfl
theorem Zld (a : Wide) : Z90 a = some (Z3k a) := by
 unfold Z90
 congr 1
 rw [Y4z, Bool.eq_iff_iff]
 obtain ⟨h, l⟩ := a
 simp [Z00]
theorem bvn (i : Nat) (h : i < 18446744073709551616) : ((BitVec.ofInt 64 (i : Int)).toNat : Int) = (i : Int) := by
 rw [BitVec.toNat_ofInt]; omega
theorem Y24 (i : Nat) (h : i < 128) : Z7j (i : Int) = some (Z4a i) := by
 unfold Z7j
 have h1 : (decide ((i : Int) < 0) || decide ((i : Int) > 127)) = false := by simp; omega
 rw [h1, cond_false]
 unfold Z4a
 by_cases h2 : i < 64
 ·rw [Z81 h2, cond_true, decide_eq_true (by omega), cond_true, bvn i (by omega), Zm6, Option.bind_some]
  rfl
 ·have e : IntKind.i64.wrap ((i : Int) - 64) = ((i - 64 : Nat) : Int) := by rw [Z2g (by omega) (by omega)]; omega
  rw [Z89 h2, cond_false, decide_eq_false (by omega), cond_false, e, bvn (i - 64) (by omega), Zm6, Option.bind_some]
  rfl
theorem Ztn (a : Wide) (i : Nat) (h : i < 128) : Ze9 a (i : Int) = some (wt a i) := by
 unfold Ze9
 rw [Zrc i h, Option.bind_some, Yd8, Option.bind_some, Zxi, Option.bind_some, Zu3 a i h]
theorem Zlt (a : Wide) (i : Nat) (h : i < 128) : Z94 a (i : Int) = some (wt a i) := by
 unfold Z94
 rw [Y24 i h, Option.bind_some, Zep, Option.bind_some, Zld, Option.bind_some, Zu3 a i h]
theorem Yad (n : Nat) (h : n < 18446744073709551616) : Zt0 .and .i64 (IntKind.i64.wrap (n : Int)) 127 = ((n % 128 : Nat) : Int) := by
 have e : (BitVec.ofInt 64 (IntKind.i64.wrap (n : Int)) &&& BitVec.ofInt 64 127).toNat = n % 128 := by
  have e1 : BitVec.ofInt 64 (IntKind.i64.wrap (n : Int)) = BitVec.ofNat 64 n := by
   apply BitVec.eq_of_toNat_eq
   rw [BitVec.toNat_ofInt, BitVec.toNat_ofNat]
   simp only [IntKind.wrap, IntKind.signed, IntKind.bits]
   simp
   omega
  have e2 : BitVec.ofInt 64 127 = BitVec.ofNat 64 127 := rfl
  rw [e1, e2, BitVec.toNat_and, BitVec.toNat_ofNat, BitVec.toNat_ofNat, Nat.mod_eq_of_lt h]
  exact Nat.and_two_pow_sub_one_eq_mod n 7
 show IntKind.i64.wrap ((BitVec.ofInt 64 (IntKind.i64.wrap (n : Int)) &&& BitVec.ofInt 64 127).toNat : Int) = _
 rw [e, Z2g (by omega) (by omega)]
def cnt (x : BitVec 64) : Nat := ds 1 64 x.toNat
theorem Zur (x : BitVec 64) : Zdx x = some (cnt x : Int) := by
 obtain ⟨h0, ha, hb, hbb, hd, he, hf⟩ := Yjf x.toNat x.isLt
 have sh : ∀ (x : BitVec 64) (n : BitVec 64), Z36 x (n.toNat : Int) = some (x >>> n.toNat) := fun x n => Yhm x n.toNat
 unfold Zdx
 simp only [sh, Option.bind_some]
 congr 1
 have t1 : ((1 : BitVec 64)).toNat = 1 := rfl
 have t2 : ((2 : BitVec 64)).toNat = 2 := rfl
 have t4 : ((4 : BitVec 64)).toNat = 4 := rfl
 have t8 : ((8 : BitVec 64)).toNat = 8 := rfl
 have t16 : ((16 : BitVec 64)).toNat = 16 := rfl
 have t32 : ((32 : BitVec 64)).toNat = 32 := rfl
 rw [t1, t2, t4, t8, t16, t32]
 generalize hA : (x >>> 1 &&& (6148914691236517205 : BitVec 64)) + (x &&& (6148914691236517205 : BitVec 64)) = A
 have eA : A.toNat = (x.toNat / 2 &&& 6148914691236517205) + (x.toNat &&& 6148914691236517205) := by
  rw [← hA, BitVec.toNat_add, BitVec.toNat_and, BitVec.toNat_and, BitVec.toNat_ushiftRight, Nat.shiftRight_eq_div_pow]
  exact Nat.mod_eq_of_lt ha
 generalize hB : (A >>> 2 &&& (3689348814741910323 : BitVec 64)) + (A &&& (3689348814741910323 : BitVec 64)) = B
 have eB : B.toNat = (A.toNat / 4 &&& 3689348814741910323) + (A.toNat &&& 3689348814741910323) := by
  rw [← hB, BitVec.toNat_add, BitVec.toNat_and, BitVec.toNat_and, BitVec.toNat_ushiftRight, Nat.shiftRight_eq_div_pow]
  rw [eA]
  exact Nat.mod_eq_of_lt hb
 generalize hC : (B >>> 4 + B) &&& (1085102592571150095 : BitVec 64) = D
 have eC : D.toNat = (B.toNat / 16 + B.toNat) &&& 1085102592571150095 := by
  rw [← hC, BitVec.toNat_and, BitVec.toNat_add, BitVec.toNat_ushiftRight, Nat.shiftRight_eq_div_pow]
  have : (B.toNat / 2 ^ 4 + B.toNat) % 2 ^ 64 = B.toNat / 16 + B.toNat := by
   rw [eB, eA]
   exact Nat.mod_eq_of_lt hbb
  rw [this]; rfl
 rw [← eA, ← eB, ← eC] at hd he hf h0
 generalize hE : D + D >>> 8 = E
 have eE : E.toNat = D.toNat + D.toNat / 256 := by
  rw [← hE, BitVec.toNat_add, BitVec.toNat_ushiftRight, Nat.shiftRight_eq_div_pow]
  exact Nat.mod_eq_of_lt hd
 rw [← eE] at he hf h0
 generalize hG : E + E >>> 16 = G
 have eG : G.toNat = E.toNat + E.toNat / 65536 := by
  rw [← hG, BitVec.toNat_add, BitVec.toNat_ushiftRight, Nat.shiftRight_eq_div_pow]
  exact Nat.mod_eq_of_lt he
 rw [← eG] at hf h0
 generalize hK : G + G >>> 32 = K
 have eK : K.toNat = G.toNat + G.toNat / 4294967296 := by
  rw [← hK, BitVec.toNat_add, BitVec.toNat_ushiftRight, Nat.shiftRight_eq_div_pow]
  exact Nat.mod_eq_of_lt hf
 rw [← eK] at h0
 rw [Yad _ K.isLt, h0]
 rfl
theorem Zx3 (x : BitVec 64) : cnt x ≤ 64 := by
 unfold cnt
 rw [Zm3]
 exact Nat.le_trans (List.length_filter_le ..) (by simp)
def Z67 (a : Wide) : List Nat := (List.range 128).filter (wt a)
theorem Y35 (a : Wide) : (Z67 a).length = cnt a.Lo + cnt a.Hi := by
 have e : List.range (64 + 64) = List.range 64 ++ (List.range 64).map (64 + ·) := List.range_add
 unfold Z67 cnt
 rw [show (128 : Nat) = 64 + 64 from rfl, e, List.filter_append, List.length_append, Zm3, Zm3, List.filter_map, List.length_map]
 congr 2
theorem Y1k (a : Wide) : Zea a = some ((Z67 a).length : Int) := by
 have h1 := Zx3 a.Hi
 have h2 := Zx3 a.Lo
 rw [Y35]
 unfold Zea
 rw [Zur, Option.bind_some, Zur, Option.bind_some]
 generalize cnt a.Hi = p at *
 generalize cnt a.Lo = q at *
 rw [Z2g (by omega) (by omega)]
 congr 1
 omega
def Z3n (a : Wide) : Nat → List Int
 | 0 => []
 | n + 1 => bif wt a n then (n : Int) :: Z3n a n else Z3n a n
theorem Zuz (a : Wide) : ∀ n, (Z3n a n).length = ((List.range n).filter (wt a)).length
 | 0 => rfl
 | n + 1 => by
  rw [List.range_succ, List.filter_append, List.length_append, Z3n, ← Zuz a n]
  cases h : wt a n <;> simp [h]
theorem Zsa (a : Wide) : ∀ (n : Nat) (i : Int), i ∈ Z3n a n ↔ ∃ k : Nat, i = (k : Int) ∧ k < n ∧ wt a k = true
 | 0, i => by simp [Z3n]
 | n + 1, i => by
  rw [Z3n]
  cases h : wt a n
  ·rw [cond_false, Zsa a n i]
   constructor
   ·rintro ⟨k, rfl, h1, h2⟩; exact ⟨k, rfl, by omega, h2⟩
   ·rintro ⟨k, rfl, h1, h2⟩
    have : k ≠ n := fun e => by rw [e, h] at h2; cases h2
    exact ⟨k, rfl, by omega, h2⟩
  ·rw [cond_true, List.mem_cons, Zsa a n i]
   constructor
   ·rintro (rfl | ⟨k, rfl, h1, h2⟩)
    ·exact ⟨n, rfl, by omega, h⟩
    ·exact ⟨k, rfl, by omega, h2⟩
   ·rintro ⟨k, rfl, h1, h2⟩
    by_cases e : k = n
    ·left; rw [e]
    ·right; exact ⟨k, rfl, by omega, h2⟩
theorem Yic (a : Wide) : ∀ (n m : Nat) (acc : List Int), n ≤ 128 → n < m → acc.length + (Z3n a n).length = (Z67 a).length → Z9c a m acc ((n : Int) - 1) = some (acc ++ Z3n a n) := by
 have hlim : lim = 4294967296 := rfl
 have hup : (Z67 a).length ≤ 128 := by
  unfold Z67; exact Nat.le_trans (List.length_filter_le ..) (by simp)
 intro n
 induction n with
 | zero =>
  intro m acc h1 h2 h3
  obtain ⟨m, rfl⟩ : ∃ k, m = k + 1 := ⟨m - 1, by omega⟩
  rw [Z9c, decide_eq_false (by omega), Zl9, Option.bind_some, Bool.false_and, cond_false]
  simp [Z3n]
 | succ n ih =>
  intro m acc h1 h2 h3
  obtain ⟨m, rfl⟩ : ∃ k, m = k + 1 := ⟨m - 1, by omega⟩
  have e : ((n + 1 : Nat) : Int) - 1 = (n : Int) := by omega
  rw [e, Z9c, decide_eq_true (by omega), Z2x, Y1k, Option.bind_some, Bool.true_and]
  by_cases hc : acc.length < (Z67 a).length
  ·have e2 : IntKind.i64.wrap ((n : Int) - 1) = (n : Int) - 1 := Z2g (by omega) (by omega)
   rw [decide_eq_true (by omega), cond_true, Ztn a n (by omega), Option.bind_some, e2, Z3n]
   rw [Z3n] at h3
   cases hw : wt a n
   ·rw [hw, cond_false] at h3
    rw [cond_false, cond_false, ih m acc (by omega) (by omega) h3]
   ·rw [hw, cond_true, List.length_cons] at h3
    rw [cond_true, cond_true, Z1b (by simp; omega), Option.bind_some, ih m _ (by omega) (by omega) (by simp; omega)]
    simp
  ·rw [decide_eq_false (by omega), cond_false]
   have : Z3n a (n + 1) = [] := List.eq_nil_of_length_eq_zero (by omega)
   rw [this]; simp
end Go.Proofs.YtknpgojdkobgjaaGreat.W
namespace Go.Proofs.YtknpgojdkobgjaaGreat.W
open Go Go.Wb
theorem Zq4 (t : Tern) : Z6s t = some (Z12 t) := rfl
theorem Zzs (f : Int → Option (Tern × Bool)) (g : Nat → Tern) (hf : ∀ i : Nat, i < 24 → f (i : Int) = some (g i, true)) (b : Cube) : ∀ (m i : Nat), i + m = 24 → Z66 f m i (Z2l g b i) = some (Vector.ofFn (fun i => g i.1), true)
 | 0, i, h => by
  have : i = 24 := by omega
  subst this
  rw [Z66, Z76]
 | m + 1, i, h => by
  rw [Z66, hf i (by omega), Option.bind_some, Bool.not_true, cond_false, Z22 (by omega), Option.bind_some]
  show Z66 f m (i + 1) (Vector.set (Z2l g b i) i (g i) _) = _
  rw [Z6v g b i (by omega), Zzs f g hf b m (i + 1) (by omega)]
theorem Zmf (c : Cube) : Zae c = some (Z0r c) := by
 unfold Zae Zc5
 have := Zzs (fun x => Zdl x c) (fun i => Z12 (ve c i)) (fun i hi => by unfold Zdl; rw [Z22 hi, Option.bind_some, Z20, Zn4]; rfl) (Vector.replicate 24 zTern) 24 0 rfl
 rw [Z75] at this
 rw [show ((24 : Int)).toNat = 24 from rfl, this]
 rfl
theorem Zul (c : Cube) : ∀ (m i : Nat), i ≤ 24 → 24 < i + m → Zbl m (Z2l (fun i => Z12 (ve c i)) c i) (i : Int) = some (Z0r c)
 | 0, i, h1, h2 => by omega
 | m + 1, i, h1, h2 => by
  rw [Zbl]
  by_cases h : i < 24
  ·have e : IntKind.i64.wrap ((i : Int) + 1) = ((i + 1 : Nat) : Int) := by rw [Z2g (by omega) (by omega)]; omega
   rw [decide_eq_true (by omega), cond_true, Z22 h, Option.bind_some, Zq4, Option.bind_some, Option.bind_some, Z20, Zbd _ _ _ _ h, if_neg (by omega), e]
   show Zbl m (Vector.set (Z2l (fun i => Z12 (ve c i)) c i) i (Z12 (ve c i)) _) _ = _
   rw [Z6v (fun i => Z12 (ve c i)) c i h, Zul c m (i + 1) (by omega) (by omega)]
  ·have : i = 24 := by omega
   subst this
   rw [decide_eq_false (by omega), cond_false, Z76]; rfl
theorem Zp4 (c : Cube) : Zai c = some (Z0r c) := by
 unfold Zai
 have := Zul c (((24 : Int) - 0).toNat + 1) 0 (by omega) (by decide)
 rw [Z75] at this
 exact this
def Y4d (x y : Tern) : Bool := !Z3k (Z2b (Z2b x.Mask y.Mask) (Z5i x.Value y.Value))
def apart (a b : Atom) : Bool := !(a.Group == b.Group) || decide (a.Port ≠ b.Port) || decide (a.Max ≠ b.Max) || (List.range' 0 24).any fun f => Y4d (ve a.Rewrite f) (ve b.Rewrite f)
def Zcx (t : Tern) (i : Nat) (on : Bool) : Tern := bif on then ⟨wor (Z2z (Z12 t).Value (Z4a i)) (Z4a i), wor (Z12 t).Mask (Z4a i)⟩ else ⟨Z2z (Z12 t).Value (Z4a i), wor (Z12 t).Mask (Z4a i)⟩
theorem Y0c (t : Tern) (i : Nat) (h : i < 128) (on : Bool) : Zdn t (i : Int) on = some (Zcx t i on) := by
 unfold Zdn
 rw [Zrc i h, Option.bind_some, Zn4, Option.bind_some, Y0i, Option.bind_some, Zqd, Option.bind_some]
 cases on
 ·rfl
 ·rw [cond_true, Y0i]; rfl
theorem Zv8 (t : Tern) (i : Nat) (h : i < 128) (on : Bool) : Zg8 t (i : Int) on = some (Zcx t i on) := by
 unfold Zg8
 rw [Zq4, Option.bind_some, Y24 i h, Option.bind_some, Zqu, Option.bind_some, Zor, Option.bind_some]
 cases on
 ·rfl
 ·rw [cond_true, Zqu]; rfl
def Y94 (c : Cube) (f bit : Nat) (on : Bool) : Option Cube :=
 bif wt (ve c f).Mask bit && (wt (ve c f).Value bit == on) then none else some (Vector.ofFn fun k => if f = k.1 then Zcx (ve c f) bit (!on) else ve c k.1)
theorem Y7f (c : Cube) (f : Nat) (hf : f < 24) (t : Tern) : Vector.set c f t hf = Vector.ofFn fun k => if f = k.1 then t else ve c k.1 := Za6 fun j hj => by
 rw [Zkb _ _ _ _ _ hj, Zah (fun k => if f = k then t else ve c k) j hj]
def sgl (x y : Tern) (k : Nat) : Bool × Bool := bif wt x.Mask k == wt y.Mask k then (false, false) else (true, bif wt x.Mask k then wt x.Value k else wt y.Value k)
def rp (c : Cube) (x y : Tern) (f k : Nat) : Option Cube := bif (sgl x y k).1 then Y94 c f k (sgl x y k).2 else none
def Zhs (t : Tern) (v : Wide) : Bool := Z3k (Z2b (Z5i t.Value v) t.Mask)
theorem Yew (t : Tern) (v : Wide) : Zhs t v = true ↔ ∀ k, k < 128 → wt t.Mask k = true → wt t.Value k = wt v k := by
 unfold Zhs
 rw [Zjy]
 constructor
 ·intro h k hk hm
  have := h k hk
  rw [Zci, Zjo, hm] at this
  revert this
  cases wt t.Value k <;> cases wt v k <;> decide
 ·intro h k hk
  rw [Zci, Zjo]
  cases hm : wt t.Mask k
  ·simp
  ·rw [h k hk hm]; simp
theorem Yan (t : Tern) (v : Wide) : Zha t v = some (Zhs t v) := rfl
end Go.Proofs.YtknpgojdkobgjaaGreat.W
namespace Go.Proofs.YtknpgojdkobgjaaGreat.W
open Go Go.Wb
end Go.Proofs.YtknpgojdkobgjaaGreat.W
namespace Go.Proofs.YtknpgojdkobgjaaGreat.W
open Go Go.Wb
theorem Zun (k : Int) : -1 ≤ Z3m k ∧ Z3m k ≤ 4 := by
 unfold Z3m
 have h1 := Zbh (fun x => decide (k = x)) [18, 17, 25, 22, 0]
 have h2 := Zl7 (fun x => decide (k = x)) [18, 17, 25, 22, 0]
 simp only [List.length_cons, List.length_nil] at h2
 omega
theorem Zls (a b : Action) : ltA a b = decide (Z3m (Z0a a).kind < Z3m (Z0a b).kind ∨ (Z3m (Z0a a).kind = Z3m (Z0a b).kind ∧ (Z0a a).field < (Z0a b).field)) := by
 have h1 := Zun (Z0a a).kind
 have h2 := Zun (Z0a b).kind
 unfold ltA Z97
 rw [wr (by omega) (by omega)]
 generalize Z3m (Z0a a).kind = x at *
 generalize Z3m (Z0a b).kind = y at *
 generalize (Z0a a).field = f at *
 generalize (Z0a b).field = g at *
 by_cases e : x - y = 0
 ·have e1 : decide (x - y ≠ 0) = false := decide_eq_false (by omega)
  rw [e1, cond_false]
  by_cases h3 : f < g
  ·have e2 : decide (f < g) = true := decide_eq_true h3
   rw [e2, cond_true]
   simp; omega
  ·have e2 : decide (f < g) = false := decide_eq_false h3
   rw [e2, cond_false]
   by_cases h4 : f > g
   ·have e3 : decide (f > g) = true := decide_eq_true h4
    rw [e3, cond_true]
    simp; omega
   ·have e3 : decide (f > g) = false := decide_eq_false h4
    rw [e3, cond_false]
    simp; omega
 ·have e1 : decide (x - y ≠ 0) = true := decide_eq_true (by omega)
  rw [e1, cond_true, decide_eq_decide]
  omega
theorem Zts : Swo ltA where
 asym := fun a b h => by
  rw [Zls, decide_eq_true_eq] at h
  rw [Zls, decide_eq_false_iff_not]
  omega
 neg := fun a b c h k => by
  rw [Zls, decide_eq_false_iff_not] at h k
  rw [Zls, decide_eq_false_iff_not]
  omega
theorem Y60 : Z5j ltA Zfh := fun x y => ⟨Z97 x y, Yab x y, rfl⟩
theorem Y77 (s : List Action) (h : s.length ≤ 100000) : Zdw s = some (Z7m s) := by
 have hlim : lim = 4294967296 := rfl
 unfold Zdw Z6g Z7m
 rw [Y91 s Zop (fun a => decide (a.Kind = 22)) (fun _ _ => rfl), Option.bind_some, Z1b (by simp; omega), Option.bind_some, List.nil_append]
 have hf : ∀ a : Action, Ze2 a (s.any fun a => decide (a.Kind = 22)) = some (!Z5y (s.any fun a => decide (a.Kind = 22)) a) := fun a => by
  unfold Ze2 Z5y
  rw [Zrg, Option.bind_some, Bool.not_not]
 rw [Yb4 s _ (fun a => !Z5y (s.any fun a => decide (a.Kind = 22)) a) (fun a _ => hf a) (by omega), Option.bind_some]
 simp only [Bool.not_not]
 rw [Y3m Zts Y60 _ (Nat.le_trans (List.length_filter_le ..) h)]
 rfl
theorem Zqz (s : List Action) : (Z7m s).length ≤ s.length := by
 unfold Z7m
 rw [Z2t Zts]
 exact List.length_filter_le ..
def Z2c (a b : Tern) : Option Tern := bif Z3k (Z2b (Z5i a.Value b.Value) (Z2b a.Mask b.Mask)) then some ⟨wor (Z12 a).Value (Z12 b).Value, wor a.Mask b.Mask⟩ else none
def Z24 {α : Type} (z : α) : Option α → α × Bool
 | some a => (a, true)
 | none => (z, false)
theorem Y26 (a b : Tern) : Zf4 a b = some (Z24 zTern (Z2c a b)) := by
 have h : Zf4 a b = bif !(Z3k (Z2b (Z5i a.Value b.Value) (Z2b a.Mask b.Mask))) then some (zTern, false) else some (⟨wor (Z12 a).Value (Z12 b).Value, wor a.Mask b.Mask⟩, true) := rfl
 rw [h]
 unfold Z2c
 cases Z3k (Z2b (Z5i a.Value b.Value) (Z2b a.Mask b.Mask)) <;> rfl
def Z5l (g : Nat → Option Tern) : Option Cube := bif (List.range 24).all (fun i => (g i).isSome) then some (Vector.ofFn fun i => (g i.1).getD zTern) else none
theorem Zv2 {g : Nat → Option Tern} {c : Cube} (h : Z5l g = some c) (i : Nat) (hi : i < 24) : g i = some (ve c i) := by
 unfold Z5l at h
 cases ha : (List.range 24).all (fun i => (g i).isSome)
 ·rw [ha] at h; cases h
 ·rw [ha, cond_true] at h
  rw [List.all_eq_true] at ha
  have h1 := ha i (by simpa using hi)
  obtain ⟨x, hx⟩ := Option.isSome_iff_exists.1 h1
  rw [← Option.some.inj h, Zah (fun i => (g i).getD zTern) i hi, hx]; rfl
theorem Yap {g : Nat → Option Tern} (h : Z5l g = none) : ∃ i, i < 24 ∧ g i = none := by
 unfold Z5l at h
 cases ha : (List.range 24).all (fun i => (g i).isSome)
 ·rw [List.all_eq_false] at ha
  obtain ⟨i, hi, h1⟩ := ha
  exact ⟨i, by simpa using hi, by simpa using h1⟩
 ·rw [ha] at h; cases h
theorem Y67 {g : Nat → Option Tern} {c : Cube} (h : ∀ i, i < 24 → g i = some (ve c i)) : Z5l g = some c := by
 cases hc : Z5l g with
 | none => obtain ⟨i, hi, h1⟩ := Yap hc; rw [h i hi] at h1; cases h1
 | some d =>
  congr 1
  refine Za6 fun i hi => ?_
  have := Zv2 hc i hi
  rw [h i hi] at this
  exact (Option.some.inj this).symm
theorem Zww {g : Nat → Option Tern} (i : Nat) (hi : i < 24) (h : g i = none) : Z5l g = none := by
 cases hc : Z5l g with
 | none => rfl
 | some c => have := Zv2 hc i hi; rw [h] at this; cases this
theorem Zyw (f : Int → Option (Tern × Bool)) (g : Nat → Option Tern) (hf : ∀ i : Nat, i < 24 → f (i : Int) = some (Z24 zTern (g i))) : ∀ (m i : Nat) (b : Cube), i + m = 24 → (∀ j, j < i → g j = some (ve b j)) →
  Z66 f m i b = some (Z24 Z2f (Z5l g))
 | 0, i, b, h, hb => by
  rw [Z66, Y67 (c := b) (fun j hj => hb j (by omega))]; rfl
 | m + 1, i, b, h, hb => by
  rw [Z66, hf i (by omega), Option.bind_some]
  cases hg : g i with
  | none =>
   rw [Zww i (by omega) hg]; rfl
  | some t =>
   show (chk 24 (i : Int)).bind _ = _
   rw [Z22 (by omega), Option.bind_some]
   refine Zyw f g hf m (i + 1) _ (by omega) fun j hj => ?_
   rw [Zkb _ _ _ _ _ (by omega)]
   by_cases e : i = j
   ·subst e; rw [if_pos rfl, hg]; rfl
   ·rw [if_neg e]; exact hb j (by omega)
theorem Yg7 (f : Int → Option (Tern × Bool)) (g : Nat → Option Tern) (hf : ∀ i : Nat, i < 24 → f (i : Int) = some (Z24 zTern (g i))) : Zc5 f = some (Z24 Z2f (Z5l g)) := by
 unfold Zc5
 exact Zyw f g hf 24 0 _ rfl fun j hj => by omega
def Z5a (a b : Cube) : Option Cube := Z5l fun i => Z2c (ve a i) (ve b i)
theorem Zms (a b : Cube) : Z7s a b = some (Z24 Z2f (Z5a a b)) := by
 unfold Z7s
 rw [Yg7 _ (fun i => Z2c (ve a i) (ve b i)) (fun i hi => by unfold Zjt; rw [Z22 hi, Option.bind_some, Option.bind_some, Z20, Z20, Y26]; rfl)]
 rfl
def Z63 (r c : Cube) : Option Cube := bif (List.range 24).all (fun i => (Z2c (ve r i) (ve c i)).isSome) then some (Vector.ofFn fun i => Z12 ⟨(ve c i.1).Value, Z2z (ve c i.1).Mask (ve r i.1).Mask⟩) else none
theorem Zuv (f : Int → Option Tern) (g : Nat → Tern) (hf : ∀ i : Nat, i < 24 → f (i : Int) = some (g i)) (b : Cube) : ∀ (m i : Nat), i + m = 24 → Z8k f m i (Z2l g b i) = some (Vector.ofFn (fun i => g i.1))
 | 0, i, h => by
  have : i = 24 := by omega
  subst this
  rw [Z8k, Z76]
 | m + 1, i, h => by
  rw [Z8k, hf i (by omega), Option.bind_some, Z22 (by omega), Option.bind_some]
  show Z8k f m (i + 1) (Vector.set (Z2l g b i) i (g i) _) = _
  rw [Z6v g b i (by omega), Zuv f g hf b m (i + 1) (by omega)]
theorem Yd1 (f : Int → Option Tern) (g : Nat → Tern) (hf : ∀ i : Nat, i < 24 → f (i : Int) = some (g i)) : Ziu f = some (Vector.ofFn (fun i => g i.1)) := by
 unfold Ziu
 have := Zuv f g hf (Vector.replicate 24 zTern) 24 0 rfl
 rw [Z75] at this
 exact this
theorem Zwk (r c : Cube) : ∀ (l : List Tern) (i : Nat), i + l.length = 24 → l = (Vector.toList r).drop i → (∀ j, j < i → (Z2c (ve r j) (ve c j)).isSome = true) → Zaf c r l i = some (Z24 Z2f (Z63 r c))
 | [], i, h1, h2, h3 => by
  have hi : i = 24 := by simpa using h1
  subst hi
  have hall : (List.range 24).all (fun i => (Z2c (ve r i) (ve c i)).isSome) = true := by
   rw [List.all_eq_true]; intro i hi; exact h3 i (by simpa using hi)
  unfold Z63
  rw [hall, cond_true, Zaf, Yd1 _ (fun i => Z12 ⟨(ve c i).Value, Z2z (ve c i).Mask (ve r i).Mask⟩) (fun i hi => by
   unfold Zj8
   rw [Z22 hi, Option.bind_some, Option.bind_some, Option.bind_some, Z20, Z20]; rfl)]
  rfl
 | x :: l, i, h1, h2, h3 => by
  simp only [List.length_cons] at h1
  have hi : i < (Vector.toList r).length := by simp; omega
  rw [List.drop_eq_getElem_cons hi] at h2
  obtain ⟨rfl, h4⟩ := List.cons.inj h2
  have hx : (Vector.toList r)[i] = ve r i := by rw [Vector.getElem_toList, Z6a _ _ (by omega)]
  rw [Zaf, hx, Z22 (by omega), Option.bind_some, Z20, Y26, Option.bind_some]
  cases hm : Z2c (ve r i) (ve c i) with
  | none =>
   have hall : (List.range 24).all (fun i => (Z2c (ve r i) (ve c i)).isSome) = false := by
    rw [List.all_eq_false]
    exact ⟨i, by simp; omega, by simp [hm]⟩
   unfold Z63
   rw [hall]; rfl
  | some t =>
   exact Zwk r c l (i + 1) (by omega) h4 fun j hj => by
    by_cases e : j = i
    ·subst e; rw [hm]; rfl
    ·exact h3 j (by omega)
theorem Yf1 (r c : Cube) : Zh7 r c = some (Z24 Z2f (Z63 r c)) := by
 unfold Zh7
 exact Zwk r c (Vector.toList r) 0 (by simp) rfl fun j hj => by omega
def Zbq (c : Cube) (o : Oxm) : Cube := if h : 0 ≤ o.Field ∧ o.Field.toNat < 24 then Vector.set c o.Field.toNat (oxT o) h.2 else c
theorem Y22 (c : Cube) (o : Oxm) (n : Nat) (hn : o.Field = (n : Int)) (h : n < 24) : Zbq c o = Vector.set c n (oxT o) h := by
 unfold Zbq
 rw [dif_pos (by omega)]
 simp [hn]
theorem Zxk (c : Cube) (o : Oxm) (h : ¬ (0 ≤ o.Field ∧ o.Field < 24)) : Zbq c o = c := by
 unfold Zbq
 rw [dif_neg (by omega)]
theorem Zps : ∀ (l : List Oxm) (i : Nat) (c : Cube), Zar l i c = some (l.foldl Zbq c)
 | [], i, c => rfl
 | o :: l, i, c => by
  rw [Zar, List.foldl_cons]
  unfold Z7a
  rw [Option.bind_some]
  by_cases h : 0 ≤ o.Field ∧ o.Field < 24
  ·obtain ⟨n, hn⟩ : ∃ n : Nat, o.Field = (n : Int) := ⟨o.Field.toNat, by omega⟩
   have hn24 : n < 24 := by have := h.2; omega
   have hd : (decide (o.Field ≥ 0) && decide (o.Field < 24)) = true := by simp; omega
   have hc : chk 24 o.Field = some ⟨n, hn24⟩ := by rw [hn]; exact Z22 hn24
   rw [hd, cond_true, Y09, Option.bind_some, hc, Option.bind_some, Y22 c o n hn hn24, Zps l (i + 1)]
  ·have hd : (decide (o.Field ≥ 0) && decide (o.Field < 24)) = false := by
    rw [Bool.and_eq_false_iff, decide_eq_false_iff_not, decide_eq_false_iff_not]; omega
   rw [hd, cond_false, Zxk c o h, Zps l (i + 1)]
def Y8r (l : List Oxm) : Cube := l.foldl Zbq Z2f
def Zdo (f : Flow) : Cube := Z0r (Y8r f.Match)
theorem Yfz (f : Flow) : Zhn f = some (Zdo f) := by
 unfold Zhn Zne Ze0
 rw [Option.bind_some, Zps, Option.bind_some, Zmf]; rfl
def ofI (l : List Inst) (k : Int) : Option Inst := l.find? fun i => decide (i.Kind = k)
theorem Zty (s : List Inst) (f : Inst → Option Bool) (p : Inst → Bool) (hf : ∀ x ∈ s, f x = some (p x)) : Zdh s f = some (Z0c p s) := by
 unfold Zdh
 rw [show ((s.length : Int)).toNat = s.length by omega]
 exact Zfb p (fun i => by rw [Zc6]) (fun m i => by rw [Zc6]) hf
def Zq7 : Inst := ⟨0, 0, Z00, Z00, []⟩
theorem Zhg (l : List Inst) (k : Int) (hl : ∀ i ∈ l, i.Acts.length ≤ 12) : Z8o l k = some (Z24 Zq7 (ofI l k)) := by
 have hlim : lim = 4294967296 := rfl
 unfold Z8o ofI
 rw [Zty l (fun x => Zl2 x k) (fun i => decide (i.Kind = k)) (fun _ _ => rfl), Option.bind_some]
 rcases Zt2 (fun i : Inst => decide (i.Kind = k)) l with ⟨h1, h2⟩ | ⟨n, h1, h2, h3, h4⟩
 ·rw [decide_eq_true h1, cond_true, h2]; rfl
 ·have := hl _ (List.getElem_mem h2)
  rw [decide_eq_false (by omega), cond_false, h1, Z0z h2, Option.bind_some, h3]
  unfold Z6g
  rw [Z1b (by simp; omega), Option.bind_some]
  rfl
theorem Zev {l : List Inst} {k : Int} {i : Inst} (h : ofI l k = some i) : i ∈ l := List.mem_of_find?_eq_some h
end Go.Proofs.YtknpgojdkobgjaaGreat.W
namespace Go.Proofs.YtknpgojdkobgjaaGreat.W
open Go Go.Wb
end Go.Proofs.YtknpgojdkobgjaaGreat.W
namespace Go.Proofs.YtknpgojdkobgjaaGreat.W
open Go Go.Wb
def Z4h (x a : Tern) : List Int := Z3n (Z2z x.Mask a.Mask) 128
theorem Y3z (a x : Tern) : Zgx a x = some (Z4h x a) := by
 unfold Zgx Z4h
 rw [Zqd, Option.bind_some]
 have := Yic (Z2z x.Mask a.Mask) 128 Z0w [] (by omega) (by unfold Z0w; omega) (by rw [Zuz]; simp [Z67])
 simpa using this
theorem Zs4 (a : Wide) : ∀ n, (Z3n a n).length ≤ n
 | 0 => Nat.le_refl _
 | n + 1 => by
  have := Zs4 a n
  rw [Z3n]
  cases wt a n
  ·rw [cond_false]; omega
  ·rw [cond_true, List.length_cons]; omega
theorem Zmm (x a : Tern) : ∀ (n m : Nat) (acc : List Int), n ≤ 128 → n < m → acc.length + n ≤ 128 → Zag x a m acc ((n : Int) - 1) = some (acc ++ Z3n (Z2z x.Mask a.Mask) n)
 | 0, m, acc, h1, h2, h3 => by
  obtain ⟨m, rfl⟩ : ∃ k, m = k + 1 := ⟨m - 1, by omega⟩
  rw [Zag, decide_eq_false (by omega), cond_false]
  simp [Z3n]
 | n + 1, m, acc, h1, h2, h3 => by
  have hlim : lim = 4294967296 := rfl
  obtain ⟨m, rfl⟩ : ∃ k, m = k + 1 := ⟨m - 1, by omega⟩
  have e : ((n + 1 : Nat) : Int) - 1 = (n : Int) := by omega
  have e2 : IntKind.i64.wrap ((n : Int) - 1) = (n : Int) - 1 := Z2g (by omega) (by omega)
  have hw : wt (Z2z x.Mask a.Mask) n = (wt x.Mask n && !wt a.Mask n) := Zyi _ _ _ (by omega)
  rw [e, Zag, decide_eq_true (by omega), cond_true, Zlt x.Mask n (by omega), Option.bind_some, e2, Z3n, hw]
  cases hx : wt x.Mask n
  ·rw [Zl9, Option.bind_some, Bool.false_and, Bool.false_and, cond_false, cond_false]
   exact Zmm x a n m acc (by omega) (by omega) (by omega)
  ·rw [Z2x, Zlt a.Mask n (by omega), Option.bind_some, Bool.true_and]
   cases wt a.Mask n
   ·rw [Bool.not_false, cond_true, cond_true, Z1b (by simp; omega), Option.bind_some, Zmm x a n m _ (by omega) (by omega) (by simp; omega)]
    simp
   ·rw [Bool.not_true, cond_false, cond_false]
    exact Zmm x a n m acc (by omega) (by omega) (by omega)
theorem Y9s (a x : Tern) : Zgy a x = some (Z4h x a) := by
 unfold Zgy
 have := Zmm x a 128 (((127 : Int) - 0).toNat + 2) [] (by omega) (by decide) (by simp)
 simpa [Z4h] using this
def Zeu (c : Cube) (f : Nat) (t : Tern) : Cube := Vector.ofFn fun k => if f = k.1 then t else ve c k.1
theorem Znp (c : Cube) (f : Nat) (hf : f < 24) (t : Tern) : Vector.set c f t hf = Zeu c f t := Y7f c f hf t
theorem Y9r (c : Cube) (f : Nat) (t : Tern) (g : Nat) (hg : g < 24) : ve (Zeu c f t) g = if f = g then t else ve c g := Zah (fun k => if f = k then t else ve c k) g hg
def Z3z (xv : Wide) (f : Nat) : List Int → Cube → List Cube × Cube
 | [], left => ([], left)
 | i :: l, left => (Zeu left f (Zcx (ve left f) i.toNat (!wt xv i.toNat)) :: (Z3z xv f l (Zeu left f (Zcx (ve left f) i.toNat (wt xv i.toNat)))).1, (Z3z xv f l (Zeu left f (Zcx (ve left f) i.toNat (wt xv i.toNat)))).2)
def Z6l (x : Cube) : Nat → Nat → Cube → List Cube
 | 0, f, left => []
 | m + 1, f, left => (Z3z (ve x f).Value f (Z4h (ve x f) (ve left f)) left).1 ++ Z6l x m (f + 1) (Z3z (ve x f).Value f (Z4h (ve x f) (ve left f)) left).2
def Z37 (a x : Cube) : Bool := (Z5a a x).isSome
def Z52 (a x : Cube) : List Cube := bif Z37 a x then Z6l x 24 0 (Z0r a) else [Z0r a]
def Zt9 (l : List Int) : Prop := ∀ i ∈ l, ∃ k : Nat, i = (k : Int) ∧ k < 128
theorem Zy7 (x a : Tern) : Zt9 (Z4h x a) := fun i hi => by
 obtain ⟨k, h1, h2, _⟩ := (Zsa _ _ _).1 hi
 exact ⟨k, h1, h2⟩
theorem Y2f (sg : Type) (y : sg → Cube → Option (Lp sg)) (go : Nat → Cube → Lp sg → Option (Lp sg)) (f : Nat) (hf : f < 24) (x : Tern) : ∀ (l : List Int) (k : Nat) (left : Cube) (s : sg), Zt9 l →
  Zb0 sg go f x y l k left (.go s) = (yf y (Z3z x.Value f l left).1 s).bind fun r => match r with
   | .go s' => go (f + 1) (Z3z x.Value f l left).2 (.go s')
   | .out c s' => some (.out c s')
 | [], k, left, s, _ => rfl
 | i :: l, k, left, s, hl => by
  obtain ⟨b, rfl, hb⟩ := hl i (by simp)
  have ih := fun left s => Y2f sg y go f hf x l (k + 1) left s fun j hj => hl j (by simp [hj])
  rw [Zb0, Ztn _ b hb, Option.bind_some, Z22 hf, Option.bind_some, Z20, Y0c _ b hb, Option.bind_some, Option.bind_some, Znp]
  rw [Z3z, Int.toNat_natCast, yf]
  show (y s _).bind _ = _
  cases y s (Zeu left f (Zcx (ve left f) b (!wt x.Value b))) with
  | none => rfl
  | some r =>
   cases r with
   | out c q => rfl
   | go q =>
    simp only [Option.bind_some, Lp.isGo, Bool.not_true, cond_false]
    rw [Z20, Y0c _ b hb, Option.bind_some, Znp, ih]
theorem Zwp (sg : Type) (y : sg → Cube → Option (Lp sg)) (x : Cube) : ∀ (l : List Tern) (f : Nat) (left : Cube) (s : sg), f + l.length = 24 → l = (Vector.toList x).drop f →
  Z8a sg y l f left (.go s) = yf y (Z6l x l.length f left) s
 | [], f, left, s, h1, h2 => rfl
 | t :: l, f, left, s, h1, h2 => by
  simp only [List.length_cons] at h1
  have hi : f < (Vector.toList x).length := by simp; omega
  rw [List.drop_eq_getElem_cons hi] at h2
  obtain ⟨rfl, h3⟩ := List.cons.inj h2
  have hx : (Vector.toList x)[f] = ve x f := by rw [Vector.getElem_toList, Z6a _ _ (by omega)]
  have ih := fun left s => Zwp sg y x l (f + 1) left s (by omega) h3
  rw [Z8a, Z22 (by omega), Option.bind_some, Z20, hx, Y3z, Option.bind_some, List.length_cons, Z6l, Zst]
  cases hb : Z4h (ve x f) (ve left f) with
  | nil =>
   rw [decide_eq_true (by simp), cond_true, ih]
   rfl
  | cons i bl =>
   rw [decide_eq_false (by simp; omega), cond_false, Y2f sg y _ f (by omega) (ve x f) _ 0 left s (by rw [← hb]; exact Zy7 _ _)]
   cases yf y (Z3z (ve x f).Value f (i :: bl) left).1 s with
   | none => rfl
   | some r =>
    cases r with
    | out c q => rfl
    | go q => exact ih _ q
theorem Y6q (sg : Type) (y : sg → Cube → Option (Lp sg)) (a x : Cube) (s : sg) : Z96 sg y (.go s) a x = yf y (Z52 a x) s := by
 unfold Z96 Z52 Z37
 rw [Zmf, Option.bind_some, Zms, Option.bind_some]
 cases Z5a a x with
 | none =>
  show (bif (!false) then _ else _) = yf y [Z0r a] s
  rw [Bool.not_false, cond_true, yf]
  show (y s (Z0r a)).bind _ = _
  cases y s (Z0r a) with
  | none => rfl
  | some r => cases r <;> rfl
 | some z =>
  show (bif (!true) then _ else _) = yf y (Z6l x 24 0 (Z0r a)) s
  rw [Bool.not_true, cond_false]
  have := Zwp sg y x (Vector.toList x) 0 (Z0r a) s (by simp) rfl
  rw [this]; simp
theorem Y1a (x : Cube) (f : Nat) (hf : f < 24) (go : Cube → List Cube → Int → Option (List Cube)) (bl : List Int) (hbl : Zt9 bl) (hlen : bl.length ≤ 128) : ∀ (m i : Nat) (left : Cube) (acc : List Cube), i ≤ bl.length → bl.length < i + m → acc.length + (bl.length - i) ≤ 10000 →
  Zg4 bl (f : Int) x go m left acc (i : Int) = go (Z3z (ve x f).Value f (bl.drop i) left).2 (acc ++ (Z3z (ve x f).Value f (bl.drop i) left).1) ((f + 1 : Nat) : Int)
 | 0, i, left, acc, h1, h2, _ => by omega
 | m + 1, i, left, acc, h1, h2, h3 => by
  have hlim : lim = 4294967296 := rfl
  rw [Zg4]
  by_cases hi : i < bl.length
  ·have ih := fun left acc => Y1a x f hf go bl hbl hlen m (i + 1) left acc (by omega) (by omega)
   obtain ⟨b, e, hb⟩ := hbl _ (List.getElem_mem hi)
   rw [decide_eq_true (by omega), cond_true, Z22 hf, Option.bind_some, Z0z hi, Option.bind_some, Z20, e, Zlt _ b hb, Option.bind_some, Option.bind_some, Option.bind_some, Z20, Zv8 _ b hb, Option.bind_some, Option.bind_some, Znp, Z1b (by simp; omega), Option.bind_some, Option.bind_some, Option.bind_some, Zv8 _ b hb, Option.bind_some, Option.bind_some, Znp, inc i (by omega), ih _ _ (by simp; omega), List.drop_eq_getElem_cons hi, Z3z, e, Int.toNat_natCast, Z20]
   simp
  ·rw [decide_eq_false (by omega), cond_false, List.drop_of_length_le (by omega), inc f (by omega)]
   simp [Z3z]
theorem Zs8 (xv : Wide) (f : Nat) : ∀ (l : List Int) (left : Cube), (Z3z xv f l left).1.length = l.length
 | [], left => rfl
 | i :: l, left => by rw [Z3z, List.length_cons, List.length_cons, Zs8 xv f l]
theorem Y0j (xv : Wide) (f : Nat) : ∀ (l : List Int) (left : Cube) (g : Nat), g < 24 → g ≠ f → ve (Z3z xv f l left).2 g = ve left g
 | [], left, g, _, _ => rfl
 | i :: l, left, g, hg, hne => by
  rw [Z3z]
  show ve (Z3z xv f l _).2 g = _
  rw [Y0j xv f l _ g hg hne, Y9r _ _ _ _ hg, if_neg (fun e => hne e.symm)]
theorem Y27 (a x : Cube) : ∀ (m f : Nat) (left : Cube) (acc : List Cube), f ≤ 24 → 24 < f + m → acc.length ≤ 128 * f → (∀ g, f ≤ g → g < 24 → (ve left g).Mask = (ve a g).Mask) →
  Z8x a x m left acc (f : Int) = some (acc ++ Z6l x (24 - f) f left)
 | 0, f, left, acc, h1, h2, _, _ => by omega
 | m + 1, f, left, acc, h1, h2, h3, h4 => by
  rw [Z8x]
  by_cases hf : f < 24
  ·have hb : Z4h (ve x f) (ve a f) = Z4h (ve x f) (ve left f) := by unfold Z4h; rw [h4 f (by omega) hf]
   have hl := Zs4 (Z2z (ve x f).Mask (ve left f).Mask) 128
   have e : 24 - f = (24 - (f + 1)) + 1 := by omega
   rw [decide_eq_true (by omega), cond_true, Z22 hf, Option.bind_some, Option.bind_some, Z20, Z20, Y9s, Option.bind_some, hb]
   have h5 := Y1a x f hf (Z8x a x m) (Z4h (ve x f) (ve left f)) (Zy7 _ _) hl ((((Z4h (ve x f) (ve left f)).length : Int) - 0).toNat + 1) 0 left acc (by omega) (by omega) (by unfold Z4h; omega)
   rw [List.drop_zero] at h5
   refine Eq.trans h5 ?_
   rw [Y27 a x m (f + 1) _ _ (by omega) (by omega) (by rw [List.length_append, Zs8]; unfold Z4h; omega) (fun g hg hg' => by rw [Y0j _ _ _ _ _ hg' (by omega)]; exact h4 g (by omega) hg'), e, Z6l, List.append_assoc]
  ·have : f = 24 := by omega
   subst this
   rw [decide_eq_false (by omega), cond_false]
   simp [Z6l]
theorem Zzy (a x : Cube) : ∀ (m i : Nat) (b : Cube), i ≤ 24 → 24 < i + m → ∃ z, Z82 a x m b (i : Int) = some (z, (List.range' i (24 - i)).all fun f => (Z2c (ve a f) (ve x f)).isSome)
 | 0, i, b, h1, h2 => by omega
 | m + 1, i, b, h1, h2 => by
  rw [Z82]
  by_cases hi : i < 24
  ·have e : 24 - i = (24 - (i + 1)) + 1 := by omega
   have hm : ∃ t, Zas (ve a i) (ve x i) = some (t, (Z2c (ve a i) (ve x i)).isSome) := by
    unfold Zas Z2c
    rw [Zep, Option.bind_some, Zsf, Option.bind_some, Zep, Option.bind_some, Zld, Option.bind_some]
    cases Z3k (Z2b (Z5i (ve a i).Value (ve x i).Value) (Z2b (ve a i).Mask (ve x i).Mask))
    ·exact ⟨_, rfl⟩
    ·exact ⟨_, rfl⟩
   obtain ⟨t, ht⟩ := hm
   rw [decide_eq_true (by omega), cond_true, Z22 hi, Option.bind_some, Option.bind_some, Z20, Z20, ht, Option.bind_some, e, List.range'_succ, List.all_cons]
   cases (Z2c (ve a i) (ve x i)).isSome
   ·exact ⟨_, rfl⟩
   ·obtain ⟨z, hz⟩ := Zzy a x m (i + 1) (Vector.set b i t hi) (by omega) (by omega)
    refine ⟨z, ?_⟩
    rw [Bool.not_true, cond_false, Option.bind_some, inc i (by omega), Bool.true_and]
    exact hz
  ·have : i = 24 := by omega
   subst this
   rw [decide_eq_false (by omega)]; exact ⟨_, rfl⟩
theorem Y1t (a x : Cube) : Z37 a x = (List.range' 0 24).all fun f => (Z2c (ve a f) (ve x f)).isSome := by
 unfold Z37 Z5a Z5l
 rw [List.range_eq_range']
 cases (List.range' 0 24).all fun f => (Z2c (ve a f) (ve x f)).isSome <;> rfl
theorem Zup (a x : Cube) : ∃ z, Z78 a x = some (z, Z37 a x) := by
 rw [Y1t]
 unfold Z78
 obtain ⟨z, hz⟩ := Zzy a x (((24 : Int) - 0).toNat + 1) 0 (Vector.replicate 24 zTern) (by omega) (by decide)
 rw [show ((0 : Nat) : Int) = 0 from rfl, Nat.sub_zero] at hz
 exact ⟨z, hz⟩
theorem Ycr (a x : Cube) : Zj2 a x = some (Z52 a x) := by
 obtain ⟨z, hz⟩ := Zup a x
 unfold Zj2 Z52
 rw [Zp4, Option.bind_some, hz, Option.bind_some]
 cases Z37 a x
 ·rw [Bool.not_false, cond_true, cond_false]
 ·rw [Bool.not_true, cond_false, cond_true]
  have := Y27 a x (((24 : Int) - 0).toNat + 1) 0 (Z0r a) [] (by omega) (by decide) (by simp) (fun g _ hg => by rw [Zf9 _ _ hg]; rfl)
  rw [show ((0 : Nat) : Int) = 0 from rfl, List.nil_append, Nat.sub_zero] at this
  exact this
end Go.Proofs.YtknpgojdkobgjaaGreat.W
namespace Go.Proofs.YtknpgojdkobgjaaGreat.W
open Go Go.Wb
def Z6r (a b : Tern) : Bool := Z3k (Z2z b.Mask a.Mask) && Zhs b a.Value
theorem Y5k (a b : Tern) : Zhk a b = some (Z6r a b) := by
 unfold Zhk Z6r
 rw [Zqd, Option.bind_some, Zxi, Option.bind_some, Yan]
 cases Z3k (Z2z b.Mask a.Mask) <;> rfl
theorem Ygp (a b : Tern) : Zkp a b = some (Z6r a b) := by
 unfold Zkp Z6r Zhs
 have hx : Z5i b.Value a.Value = Z5i a.Value b.Value := Zkf fun k _ => by
  rw [Zjo, Zjo]; cases wt a.Value k <;> cases wt b.Value k <;> rfl
 rw [Zor, Option.bind_some, Zld, Option.bind_some, hx]
 cases Z3k (Z2z b.Mask a.Mask)
 ·rfl
 ·rw [Z2x, Zsf, Option.bind_some, Z2x, Zep, Option.bind_some, Z2x, Zld]; rfl
def Z4l (a b : Cube) : Bool := (List.range' 0 24).all fun f => Z6r (ve a f) (ve b f)
theorem Y0r (a b : Cube) : ∀ (l : List Tern) (i : Nat), i + l.length = 24 → l = (Vector.toList a).drop i → Za2 b l i = some ((List.range' i l.length).all fun f => Z6r (ve a f) (ve b f))
 | [], i, h1, h2 => by rw [Za2]; rfl
 | x :: l, i, h1, h2 => by
  simp only [List.length_cons] at h1
  have hi : i < (Vector.toList a).length := by simp; omega
  rw [List.drop_eq_getElem_cons hi] at h2
  obtain ⟨rfl, h3⟩ := List.cons.inj h2
  have hx : (Vector.toList a)[i] = ve a i := by rw [Vector.getElem_toList, Z6a _ _ (by omega)]
  rw [Za2, Z22 (by omega), Option.bind_some, Z20, Y5k, Option.bind_some, Y0r a b l (i + 1) (by omega) h3, List.length_cons, List.range'_succ, List.all_cons, hx]
  cases Z6r (ve a i) (ve b i) <;> rfl
theorem Y9y (a b : Cube) : Zk9 a b = some (Z4l a b) := by
 unfold Zk9 Z4l
 have := Y0r a b (Vector.toList a) 0 (by simp) rfl
 rw [this]; simp
theorem Zw5 (a b : Cube) : ∀ (m i : Nat), i ≤ 24 → 24 < i + m → Zgc a b m (i : Int) = some ((List.range' i (24 - i)).all fun f => Z6r (ve a f) (ve b f))
 | 0, i, h1, h2 => by omega
 | m + 1, i, h1, h2 => by
  rw [Zgc]
  by_cases hi : i < 24
  ·have e : 24 - i = (24 - (i + 1)) + 1 := by omega
   rw [decide_eq_true (by omega), cond_true, Z22 hi, Option.bind_some, Option.bind_some, Z20, Z20, Ygp, Option.bind_some, inc i (by omega), Zw5 a b m (i + 1) (by omega) (by omega), e, List.range'_succ, List.all_cons]
   show (bif !(Z6r (ve a i) (ve b i)) then _ else _) = _
   cases Z6r (ve a i) (ve b i) <;> rfl
  ·have : i = 24 := by omega
   subst this
   rw [decide_eq_false (by omega)]; rfl
theorem Y72 (a b : Cube) : Zkd a b = some (Z4l a b) := by
 unfold Zkd Z4l
 exact Zw5 a b (((24 : Int) - 0).toNat + 1) 0 (by omega) (by decide)
theorem Y53 {a b : Cube} (h : Z4l a b = true) : Z37 a b = true := by
 rw [Y1t]
 unfold Z4l at h
 rw [List.all_eq_true] at h ⊢
 intro f hf
 have h1 := h f hf
 unfold Z6r at h1
 rw [Bool.and_eq_true] at h1
 have h2 := (Yew _ _).1 h1.2
 unfold Z2c
 have : Z3k (Z2b (Z5i (ve a f).Value (ve b f).Value) (Z2b (ve a f).Mask (ve b f).Mask)) = true := (Zjy _).2 fun k hk => by
  have h3 := h2 k hk
  simp only [Zci, Zjo]
  revert h3
  cases wt (ve b f).Mask k <;> cases wt (ve a f).Mask k <;> cases wt (ve a f).Value k <;> cases wt (ve b f).Value k <;> simp
 rw [this]; rfl
def Zdr (c : Cube) : Header := Vector.ofFn fun f => (Z12 (ve c f.1)).Value
theorem Zx1 (c : Cube) (b : Header) : ∀ (l : List Tern) (i : Nat), i + l.length = 24 → l = (Vector.toList c).drop i → Z7k l i (Z2l (fun f => (Z12 (ve c f)).Value) b i) = some (Zdr c)
 | [], i, h1, h2 => by
  have : i = 24 := by simpa using h1
  subst this
  rw [Z7k, Z76]; rfl
 | x :: l, i, h1, h2 => by
  simp only [List.length_cons] at h1
  have hi : i < (Vector.toList c).length := by simp; omega
  rw [List.drop_eq_getElem_cons hi] at h2
  obtain ⟨rfl, h3⟩ := List.cons.inj h2
  have hx : (Vector.toList c)[i] = ve c i := by rw [Vector.getElem_toList, Z6a _ _ (by omega)]
  rw [Z7k, Zn4, Option.bind_some, Z22 (by omega), Option.bind_some, hx]
  show Z7k l (i + 1) (Vector.set (Z2l (fun f => (Z12 (ve c f)).Value) b i) i ((Z12 (ve c i)).Value) _) = _
  rw [Z6v (fun f => (Z12 (ve c f)).Value) b i (by omega), Zx1 c b l (i + 1) (by omega) h3]
theorem Yao (c : Cube) : Zhv c = some (Zdr c) := by
 unfold Zhv
 have := Zx1 c (Vector.replicate 24 Z00) (Vector.toList c) 0 (by simp) rfl
 rw [Z75] at this
 exact this
theorem Y2a (c : Cube) (b : Header) : ∀ (m i : Nat), i ≤ 24 → 24 < i + m → Zc8 c m (Z2l (fun f => (Z12 (ve c f)).Value) b i) (i : Int) = some (Zdr c)
 | 0, i, h1, h2 => by omega
 | m + 1, i, h1, h2 => by
  rw [Zc8]
  by_cases hi : i < 24
  ·rw [decide_eq_true (by omega), cond_true, Z22 hi, Option.bind_some, Z20, Zq4, Option.bind_some, Option.bind_some, inc i (by omega)]
   show Zc8 c m (Vector.set (Z2l (fun f => (Z12 (ve c f)).Value) b i) i ((Z12 (ve c i)).Value) _) _ = _
   rw [Z6v (fun f => (Z12 (ve c f)).Value) b i hi, Y2a c b m (i + 1) (by omega) (by omega)]
  ·have : i = 24 := by omega
   subst this
   rw [decide_eq_false (by omega), cond_false, Z76]; rfl
theorem Yia (c : Cube) : Zgu c = some (Zdr c) := by
 unfold Zgu
 have := Y2a c (Vector.replicate 24 Z00) (((24 : Int) - 0).toNat + 1) 0 (by omega) (by decide)
 rw [Z75] at this
 exact this
def Z3l : Header := Vector.replicate 24 Z00
def Z47 (c : Cube) : List Cube → Nat → Option Nat
 | [], i => none
 | x :: l, i => bif Z37 c x then some i else Z47 c l (i + 1)
def Z3b (R : Cube → Int → Header × Bool × Int) : List Cube → Int → Header × Bool × Int
 | [], n => (Z3l, false, n)
 | p :: ps, n => bif (R p n).2.1 || decide ((R p n).2.2 < 0) then R p n else Z3b R ps (R p n).2.2
def Z3a (free : Bool) : Nat → Cube → List Cube → Int → Header × Bool × Int
 | 0, _, _, _ => (Z3l, false, -1)
 | d + 1, c, l, n => bif !free && decide (n < 1) then (Z3l, false, -1) else
   bif l.any (Z4l c) then (Z3l, false, bif free then n else n - 1) else
    match Z47 c l 0 with
    | none => (Zdr c, true, bif free then n else n - 1)
    | some i => match l[i]? with
     | none => (Z3l, false, -1)
     | some x => Z3b (fun p m => Z3a free d p (l.drop (i + 1)) m) (Z52 c x) (bif free then n else n - 1)
theorem Zpv (c : Cube) : ∀ (l : List Cube) (k : Nat), match Z47 c l k with
  | none => ∀ x ∈ l, Z37 c x = false
  | some i => ∃ j, i = k + j ∧ ∃ h : j < l.length, Z37 c l[j] = true ∧ ∀ x ∈ l.take j, Z37 c x = false
 | [], k => by simp [Z47]
 | x :: l, k => by
  rw [Z47]
  cases hm : Z37 c x
  ·rw [cond_false]
   have ih := Zpv c l (k + 1)
   cases hf : Z47 c l (k + 1) with
   | none =>
    rw [hf] at ih
    intro y hy
    rcases List.mem_cons.1 hy with rfl | hy
    ·exact hm
    ·exact ih y hy
   | some i =>
    rw [hf] at ih
    obtain ⟨j, h1, h2, h3, h4⟩ := ih
    refine ⟨j + 1, by omega, by simpa using h2, by simpa using h3, fun y hy => ?_⟩
    rw [List.take_succ_cons] at hy
    rcases List.mem_cons.1 hy with rfl | hy
    ·exact hm
    ·exact h4 y hy
  ·rw [cond_true]
   exact ⟨0, by omega, by simp, by simpa using hm, by simp⟩
theorem Zqv {R : Cube → Int → Header × Bool × Int} (hR : ∀ p m, (R p m).2.1 = false → (R p m).1 = Z3l) : ∀ (ps : List Cube) (n : Int), (Z3b R ps n).2.1 = false → (Z3b R ps n).1 = Z3l
 | [], n, _ => rfl
 | p :: ps, n, h => by
  rw [Z3b] at h ⊢
  cases hc : (R p n).2.1 || decide ((R p n).2.2 < 0)
  ·rw [hc, cond_false] at h
   rw [cond_false]
   exact Zqv hR ps _ h
  ·rw [hc, cond_true] at h
   rw [cond_true]
   exact hR _ _ h
theorem Zna (free : Bool) : ∀ (d : Nat) (c : Cube) (l : List Cube) (n : Int), (Z3a free d c l n).2.1 = false → (Z3a free d c l n).1 = Z3l
 | 0, c, l, n, _ => rfl
 | d + 1, c, l, n, h => by
  rw [Z3a] at h ⊢
  cases h1 : !free && decide (n < 1)
  ·rw [h1, cond_false] at h
   rw [cond_false]
   cases h2 : l.any (Z4l c)
   ·rw [h2, cond_false] at h
    rw [cond_false]
    cases h3 : Z47 c l 0 with
    | none => rw [h3] at h; cases h
    | some i =>
     rw [h3] at h
     simp only at h ⊢
     cases h4 : l[i]? with
     | none => rfl
     | some x =>
      rw [h4] at h
      simp only at h ⊢
      exact Zqv (fun p m => Zna free d p _ m) _ _ h
   ·rfl
  ·rfl
end Go.Proofs.YtknpgojdkobgjaaGreat.W
namespace Go.Proofs.YtknpgojdkobgjaaGreat.W
open Go Go.Wb
theorem Zpm {α : Type} (z : α) (o : Option α) : (Z24 z o).2 = o.isSome := by cases o <;> rfl
def Z34 (c : Cube) (l : List Cube) (i : Nat) (first : Int) : Int := bif decide (first < 0) then (match Z47 c l i with | none => first | some k => (k : Int)) else first
theorem Zlx (c : Cube) : ∀ (l : List Cube) (i : Nat) (first : Int), ∃ j : Int, Z7g c l i first = some (bif l.any (Z4l c) then (true, j) else (false, Z34 c l i first))
 | [], i, first => by
  refine ⟨0, ?_⟩
  rw [Z7g]
  unfold Z34 Z47
  cases decide (first < 0) <;> rfl
 | x :: l, i, first => by
  rw [Z7g, Zms, Option.bind_some, Zpm, List.any_cons]
  show ∃ j, (bif !(Z37 c x) then _ else _) = _
  cases hm : Z37 c x
  ·have hw : Z4l c x = false := by
    cases hw : Z4l c x
    ·rfl
    ·rw [Y53 hw] at hm; cases hm
   obtain ⟨j, hj⟩ := Zlx c l (i + 1) first
   refine ⟨j, ?_⟩
   rw [Bool.not_false, cond_true, hw, Bool.false_or, hj]
   unfold Z34
   rw [Z47, hm, cond_false]
  ·rw [Bool.not_true, cond_false, Y9y, Option.bind_some]
   cases hw : Z4l c x
   ·rw [cond_false, Bool.false_or]
    have hf : ∀ f : Int, Z34 c (x :: l) i f = bif decide (f < 0) then (i : Int) else f := fun f => by
     unfold Z34
     rw [Z47, hm, cond_true]
    by_cases h : first < 0
    ·obtain ⟨j, hj⟩ := Zlx c l (i + 1) (i : Int)
     refine ⟨j, ?_⟩
     rw [decide_eq_true h, cond_true, hj, hf, decide_eq_true h, cond_true]
     unfold Z34
     rw [decide_eq_false (by omega), cond_false]
    ·obtain ⟨j, hj⟩ := Zlx c l (i + 1) first
     refine ⟨j, ?_⟩
     rw [decide_eq_false h, cond_false, hj, hf, decide_eq_false h, cond_false]
     unfold Z34
     rw [decide_eq_false h, cond_false]
   ·exact ⟨_, rfl⟩
theorem Zri {α : Type} (l : List α) (i : Nat) (h : i ≤ l.length) : Z5o l (i : Int) = some (l.drop i) := by
 unfold Z5o
 rw [decide_eq_true (by omega), Int.toNat_natCast, Nat.ble_eq_true_of_le h]; rfl
theorem Y0l (x : Cube) : ∀ (m f : Nat) (left : Cube), (Z6l x m f left).length ≤ 128 * m
 | 0, f, left => by simp [Z6l]
 | m + 1, f, left => by
  have h1 := Y0l x m (f + 1) (Z3z (ve x f).Value f (Z4h (ve x f) (ve left f)) left).2
  have h2 := Zs4 (Z2z (ve x f).Mask (ve left f).Mask) 128
  rw [Z6l, List.length_append, Zs8]
  unfold Z4h at *
  omega
theorem Yfj (a x : Cube) : (Z52 a x).length ≤ 3072 := by
 unfold Z52
 cases Z37 a x
 ·simp
 ·have := Y0l x 24 0 (Z0r a)
  rw [cond_true]; omega
def cl (n : Int) (free : Bool) : cover_look := ⟨⟨n, free⟩⟩
def Zfa (free : Bool) (N : Int) (f : Option (Header × Bool × Bool × cover_look)) (n : Int) (r : Header × Bool × Int) : Prop :=
 ∃ s', f = some (r.1, r.2.1, decide (0 ≤ r.2.2), s') ∧ (0 ≤ r.2.2 → s' = cl r.2.2 free ∧ r.2.2 ≤ N)
theorem Zzg (free : Bool) (N : Int) (l : List Cube) (i : Nat) (hi : i < l.length) (hN : N < 9223372036854775808) (x10 : Bool × Int) (hx : x10.2 = (i : Int)) (hl : l.length < 4294967296) (R : cover_look → Cube → List Cube → Option (Header × Bool × Bool × cover_look)) (R' : Cube → Int → Header × Bool × Int)
  (hR : ∀ p n, 0 ≤ n → n ≤ N → Zfa free N (R (cl n free) p (l.drop (i + 1))) n (R' p n)) (hn : ∀ p m, (R' p m).2.1 = false → (R' p m).1 = Z3l) : ∀ (ps : List Cube) (n : Int), 0 ≤ n → n ≤ N →
  ∃ s', yf (fun (s : cover_look × Header × Bool × Bool) x => Z7w l x10 R s.1 s.2.1 s.2.2.1 s.2.2.2 x) ps (cl n free, Z3l, false, true) =
   some (bif (Z3b R' ps n).2.1 || decide ((Z3b R' ps n).2.2 < 0) then .out (.exit 1) (s', (Z3b R' ps n).1, (Z3b R' ps n).2.1, decide (0 ≤ (Z3b R' ps n).2.2)) else .go (s', Z3l, false, true)) ∧ (0 ≤ (Z3b R' ps n).2.2 → s' = cl (Z3b R' ps n).2.2 free ∧ (Z3b R' ps n).2.2 ≤ N)
 | [], n, h0, h1 => by
  refine ⟨cl n free, ?_, fun _ => ⟨rfl, h1⟩⟩
  rw [yf, Z3b, decide_eq_false (by show ¬ (n < 0); omega)]; rfl
 | p :: ps, n, h0, h1 => by
  obtain ⟨s', h2, h3⟩ := hR p n h0 h1
  have hb : Z7w l x10 R (cl n free) Z3l false true p = some (bif (R' p n).2.1 || decide ((R' p n).2.2 < 0) then .out (.exit 1) (s', (R' p n).1, (R' p n).2.1, decide (0 ≤ (R' p n).2.2)) else .go (s', (R' p n).1, (R' p n).2.1, decide (0 ≤ (R' p n).2.2))) := by
   unfold Z7w
   rw [hx, inc i (by omega), Zri _ _ (by omega), Option.bind_some, h2, Option.bind_some]
   have : (!decide (0 ≤ (R' p n).2.2)) = decide ((R' p n).2.2 < 0) := by
    by_cases h : (R' p n).2.2 < 0
    ·rw [decide_eq_true h, decide_eq_false (by omega)]; rfl
    ·rw [decide_eq_false h, decide_eq_true (by omega)]; rfl
   show (bif ((R' p n).2.1 || !decide (0 ≤ (R' p n).2.2)) then _ else _) = _
   rw [this]
   cases (R' p n).2.1 || decide ((R' p n).2.2 < 0) <;> rfl
  rw [yf]
  show ∃ s'', (Z7w l x10 R (cl n free) Z3l false true p).bind _ = _ ∧ _
  rw [hb, Option.bind_some, Z3b]
  cases hc : (R' p n).2.1 || decide ((R' p n).2.2 < 0)
  ·rw [Bool.or_eq_false_iff, decide_eq_false_iff_not] at hc
   have h4 : 0 ≤ (R' p n).2.2 := by omega
   obtain ⟨h5, h6⟩ := h3 h4
   obtain ⟨s'', h7, h8⟩ := Zzg free N l i hi hN x10 hx hl R R' hR hn ps (R' p n).2.2 h4 h6
   refine ⟨s'', ?_, h8⟩
   rw [cond_false, cond_false, h5, hn p n hc.1, hc.1, decide_eq_true h4]
   exact h7
  ·refine ⟨s', ?_, h3⟩
   rw [cond_true, cond_true, hc]; rfl
theorem Yj4 (free : Bool) (N : Int) (hN : N < 9223372036854775808) (d fuel : Nat) (c : Cube) (l : List Cube) (hl : l.length < 4294967296) (n : Int) (h0 : 0 ≤ n) (h1 : n ≤ N)
  (ih : ∀ i, i < l.length → ∀ p n, 0 ≤ n → n ≤ N → Zfa free N (Z6i fuel (cl n free) p (l.drop (i + 1))) n (Z3a free d p (l.drop (i + 1)) n)) :
  Zfa free N (Z6i (fuel + 1) (cl n free) c l) n (Z3a free (d + 1) c l n) := by
 show Zfa free N (Zhy (Z6i fuel) (cl n free) c l) n _
 unfold Zhy
 have hpay : Zj7 (cl n free).purse = some (!(!free && decide (n < 1)), ⟨bif free then n else n - 1, free⟩) := by
  unfold Zj7
  cases free
  ·have e : IntKind.i64.wrap (n - 1) = n - 1 := Z2g (by omega) (by omega)
   show some (decide (IntKind.i64.wrap (n - 1) ≥ 0), (⟨IntKind.i64.wrap (n - 1), false⟩ : cover_purse)) = _
   rw [e]
   by_cases h : n < 1
   ·rw [decide_eq_true h, decide_eq_false (by omega)]; rfl
   ·rw [decide_eq_false h, decide_eq_true (by omega)]; rfl
  ·rfl
 rw [hpay, Option.bind_some, Z3a]
 cases hp : !free && decide (n < 1)
 ·have hn1 : 0 ≤ (bif free then n else n - 1) ∧ (bif free then n else n - 1) ≤ N := by
   cases free
   ·simp only [Bool.not_false, Bool.true_and, decide_eq_false_iff_not] at hp
    simp only [cond_false]; omega
   ·simp only [cond_true]; omega
  generalize (bif free then n else n - 1) = n1 at hn1 ⊢
  simp only [Bool.not_false, Bool.not_true, cond_false]
  obtain ⟨j, hj⟩ := Zlx c l 0 (-1)
  unfold Zlq
  rw [hj, Option.bind_some]
  cases hw : l.any (Z4l c)
  ·simp only [cond_false]
   have hfi : Z34 c l 0 (-1) = match Z47 c l 0 with | none => -1 | some k => (k : Int) := rfl
   rw [hfi]
   have hsp := Zpv c l 0
   cases hf : Z47 c l 0 with
   | none =>
    simp only
    rw [show decide ((-1 : Int) < 0) = true from rfl, cond_true, Yao, Option.bind_some]
    exact ⟨cl n1 free, by rw [decide_eq_true hn1.1]; rfl, fun _ => ⟨rfl, hn1.2⟩⟩
   | some i =>
    rw [hf] at hsp
    obtain ⟨j', hj1, hj2, hj3, hj4⟩ := hsp
    have hij : i = j' := by omega
    subst hij
    simp only
    rw [decide_eq_false (by omega), cond_false, Z0z hj2, Option.bind_some, List.getElem?_eq_getElem hj2]
    unfold Zme
    rw [Option.bind_some]
    obtain ⟨s', h2, h3⟩ := Zzg free N l i hj2 hN (false, (i : Int)) rfl hl (Z6i fuel) (fun p m => Z3a free d p (l.drop (i + 1)) m) (fun p n a b => ih i hj2 p n a b) (fun p m h => Zna free d p _ m h) (Z52 c l[i]) n1 hn1.1 hn1.2
    show Zfa free N ((Z96 (cover_look × Header × Bool × Bool) (fun s x => Z7w l (false, (i : Int)) (Z6i fuel) s.1 s.2.1 s.2.2.1 s.2.2.2 x) (.go (cl n1 free, Z3l, false, true)) c l[i]).bind _) n (Z3b (fun p m => Z3a free d p (l.drop (i + 1)) m) (Z52 c l[i]) n1)
    rw [Y6q, h2, Option.bind_some]
    have hnn := Zqv (R := fun p m => Z3a free d p (l.drop (i + 1)) m) (fun p m h => Zna free d p _ m h) (Z52 c l[i]) n1
    generalize Z3b (fun p m => Z3a free d p (l.drop (i + 1)) m) (Z52 c l[i]) n1 = r at *
    cases hc : r.2.1 || decide (r.2.2 < 0)
    ·rw [Bool.or_eq_false_iff, decide_eq_false_iff_not] at hc
     refine ⟨s', ?_, h3⟩
     rw [hnn hc.1, hc.1, decide_eq_true (show 0 ≤ r.2.2 by omega)]; rfl
    ·exact ⟨s', rfl, h3⟩
  ·refine ⟨cl n1 free, ?_, fun _ => ⟨rfl, hn1.2⟩⟩
   show some (Z3l, false, true, cl n1 free) = some (Z3l, false, decide (0 ≤ n1), cl n1 free)
   rw [decide_eq_true hn1.1]
 ·exact ⟨_, rfl, fun h => by simp at h⟩
theorem Zvk (free : Bool) (N : Int) (hN : N < 9223372036854775808) : ∀ (d fuel : Nat) (c : Cube) (l : List Cube) (n : Int), l.length < d → d ≤ fuel → l.length < 4294967296 → 0 ≤ n → n ≤ N →
  Zfa free N (Z6i fuel (cl n free) c l) n (Z3a free d c l n)
 | 0, fuel, c, l, n, h, _, _, _, _ => by omega
 | d + 1, 0, c, l, n, _, h, _, _, _ => by omega
 | d + 1, fuel + 1, c, l, n, h1, h2, h3, h4, h5 =>
  Yj4 free N hN d fuel c l h3 n h4 h5 fun i hi p m h6 h7 => Zvk free N hN d fuel p (l.drop (i + 1)) m (by rw [List.length_drop]; omega) (by omega) (by rw [List.length_drop]; omega) h6 h7
theorem Zx7 (free : Bool) (N : Int) (pts l : List Cube) (hpl : pts.length ≤ 100000) (i0 : Nat) (hi0 : i0 < l.length) (hl : l.length < 4294967296) (R : Cube → List Cube → Int → Bool → Option (Header × Bool × Int)) (R' : Cube → Int → Header × Bool × Int)
  (hR : ∀ p n, 0 ≤ n → n ≤ N → R p (l.drop (i0 + 1)) n free = some (R' p n) ∧ (R' p n).2.2 ≤ N) (hn : ∀ p m, (R' p m).2.1 = false → (R' p m).1 = Z3l) : ∀ (m i : Nat) (n : Int), i ≤ pts.length → pts.length < i + m → 0 ≤ n → n ≤ N →
  Zbo pts l (i0 : Int) R free m n (i : Int) = some (Z3b R' (pts.drop i) n)
 | 0, i, n, h1, h2, _, _ => by omega
 | m + 1, i, n, h1, h2, h3, h4 => by
  rw [Zbo]
  by_cases hi : i < pts.length
  ·obtain ⟨h5, h6⟩ := hR pts[i] n h3 h4
   rw [decide_eq_true (by omega), cond_true, Z0z hi, Option.bind_some, inc i0 (by omega), Zri _ _ (by omega), Option.bind_some, h5, Option.bind_some, List.drop_eq_getElem_cons hi, Z3b]
   cases hc : (R' pts[i] n).2.1 || decide ((R' pts[i] n).2.2 < 0)
   ·rw [Bool.or_eq_false_iff, decide_eq_false_iff_not] at hc
    rw [cond_false, cond_false, inc i (by omega)]
    exact Zx7 free N pts l hpl i0 hi0 hl R R' hR hn m (i + 1) _ (by omega) (by omega) (by omega) h6
   ·rfl
  ·rw [decide_eq_false (by omega), cond_false, List.drop_of_length_le (by omega)]; rfl
theorem Y1g (free : Bool) (l : List Cube) (hl : l.length < 4294967296) (c : Cube) (n1 : Int) (R : Cube → List Cube → Int → Bool → Option (Header × Bool × Int)) : ∀ (m i : Nat) (first : Int), i ≤ l.length → l.length < i + m →
  Zbe l c n1 R free m first (i : Int) = bif (l.drop i).any (Z4l c) then some (Z3l, false, n1) else
   (bif decide (Z34 c (l.drop i) i first < 0) then some (Zdr c, true, n1) else (lget l (Z34 c (l.drop i) i first)).bind fun e => Zbo (Z52 c e) l (Z34 c (l.drop i) i first) R free ((((Z52 c e).length : Int) - 0).toNat + 1) n1 0)
 | 0, i, first, h1, h2 => by omega
 | m + 1, i, first, h1, h2 => by
  rw [Zbe]
  by_cases hi : i < l.length
  ·obtain ⟨z, hz⟩ := Zup c l[i]
   have ih := fun f => Y1g free l hl c n1 R m (i + 1) f (by omega) (by omega)
   rw [decide_eq_true (by omega), cond_true, Z0z hi, Option.bind_some, Y72, Option.bind_some, List.drop_eq_getElem_cons hi, List.any_cons]
   cases hw : Z4l c l[i]
   ·rw [cond_false, Bool.false_or, Option.bind_some, hz, Option.bind_some, inc i (by omega)]
    cases hm : Z37 c l[i]
    ·have hf : Z34 c (l[i] :: l.drop (i + 1)) i first = Z34 c (l.drop (i + 1)) (i + 1) first := by
      unfold Z34
      rw [Z47, hm, cond_false]
     rw [hf]
     exact ih first
    ·have hf : Z34 c (l[i] :: l.drop (i + 1)) i first = bif decide (first < 0) then (i : Int) else first := by
      unfold Z34
      rw [Z47, hm, cond_true]
     by_cases h : first < 0
     ·have hg : Z34 c (l.drop (i + 1)) (i + 1) (i : Int) = (i : Int) := by unfold Z34; rw [decide_eq_false (by omega)]; rfl
      rw [hf, decide_eq_true h]
      simp only [Bool.true_and, cond_true]
      rw [ih (i : Int), hg]
     ·have hg : Z34 c (l.drop (i + 1)) (i + 1) first = first := by unfold Z34; rw [decide_eq_false h]; rfl
      rw [hf, decide_eq_false h]
      simp only [Bool.and_false, cond_false]
      rw [ih first, hg]
   ·rfl
  ·rw [decide_eq_false (by omega), cond_false, List.drop_of_length_le (by omega)]
   have hf : Z34 c [] i first = first := by unfold Z34 Z47; cases decide (first < 0) <;> rfl
   rw [hf, List.any_nil, cond_false]
   cases decide (first < 0)
   ·rw [cond_false, cond_false]
    cases lget l first with
    | none => rfl
    | some e => rw [Option.bind_some, Option.bind_some, Ycr]; rfl
   ·rw [cond_true, cond_true, Yia]; rfl
theorem Y1c (N : Int) {R : Cube → Int → Header × Bool × Int} (hR : ∀ p n, 0 ≤ n → n ≤ N → (R p n).2.2 ≤ N) : ∀ (ps : List Cube) (n : Int), 0 ≤ n → n ≤ N → (Z3b R ps n).2.2 ≤ N
 | [], n, _, h => h
 | p :: ps, n, h0, h => by
  rw [Z3b]
  cases hc : (R p n).2.1 || decide ((R p n).2.2 < 0)
  ·rw [Bool.or_eq_false_iff, decide_eq_false_iff_not] at hc
   rw [cond_false]
   exact Y1c N hR ps _ (by omega) (hR p n h0 h)
  ·exact hR p n h0 h
theorem Y31 (free : Bool) (N : Int) (hN : N < 9223372036854775808) (hN0 : 0 ≤ N) (d fuel : Nat) (c : Cube) (l : List Cube) (hl : l.length < 4294967296) (n : Int) (h0 : 0 ≤ n) (h1 : n ≤ N)
  (ih : ∀ i, i < l.length → ∀ p n, 0 ≤ n → n ≤ N → Z5p fuel p (l.drop (i + 1)) n free = some (Z3a free d p (l.drop (i + 1)) n) ∧ (Z3a free d p (l.drop (i + 1)) n).2.2 ≤ N) :
  Z5p (fuel + 1) c l n free = some (Z3a free (d + 1) c l n) ∧ (Z3a free (d + 1) c l n).2.2 ≤ N := by
 show Zjp (Z5p fuel) c l n free = _ ∧ _
 unfold Zjp
 rw [Z3a]
 cases hp : !free && decide (n < 1)
 ·have hn1 : 0 ≤ (bif free then n else n - 1) ∧ (bif free then n else n - 1) ≤ N := by
   cases free
   ·simp only [Bool.not_false, Bool.true_and, decide_eq_false_iff_not] at hp
    simp only [cond_false]; omega
   ·simp only [cond_true]; omega
  have hj : (bif !free then Zab l c (Z5p fuel) free (IntKind.i64.wrap (n - 1)) else Zab l c (Z5p fuel) free n) = Zab l c (Z5p fuel) free (bif free then n else n - 1) := by
   cases free
   ·rw [Z2g (by omega) (by omega)]; rfl
   ·rfl
  rw [cond_false, hj]
  generalize (bif free then n else n - 1) = n1 at hn1 ⊢
  unfold Zab
  have h2 := Y1g free l hl c n1 (Z5p fuel) ((((l.length : Int) : Int) - 0).toNat + 1) 0 (-1) (by omega) (by omega)
  rw [show ((0 : Nat) : Int) = 0 from rfl, List.drop_zero] at h2
  rw [h2, cond_false]
  cases hw : l.any (Z4l c)
  ·simp only [cond_false]
   have hfi : Z34 c l 0 (-1) = match Z47 c l 0 with | none => -1 | some k => (k : Int) := rfl
   rw [hfi]
   have hsp := Zpv c l 0
   cases hf : Z47 c l 0 with
   | none => exact ⟨rfl, hn1.2⟩
   | some i =>
    rw [hf] at hsp
    obtain ⟨j', hj1, hj2, hj3, hj4⟩ := hsp
    have hij : i = j' := by omega
    subst hij
    simp only
    rw [decide_eq_false (by omega), cond_false, Z0z hj2, Option.bind_some, List.getElem?_eq_getElem hj2]
    have hpl := Yfj c l[i]
    have h3 := Zx7 free N (Z52 c l[i]) l (by omega) i hj2 hl (Z5p fuel) (fun p m => Z3a free d p (l.drop (i + 1)) m) (fun p n a b => ih i hj2 p n a b) (fun p m h => Zna free d p _ m h) ((((Z52 c l[i]).length : Int) - 0).toNat + 1) 0 n1 (by omega) (by omega) hn1.1 hn1.2
    rw [show ((0 : Nat) : Int) = 0 from rfl, List.drop_zero] at h3
    exact ⟨h3, Y1c N (fun p n a b => (ih i hj2 p n a b).2) _ _ hn1.1 hn1.2⟩
  ·exact ⟨rfl, hn1.2⟩
 ·exact ⟨rfl, by show (-1 : Int) ≤ N; omega⟩
theorem Y20 (free : Bool) (N : Int) (hN : N < 9223372036854775808) (hN0 : 0 ≤ N) : ∀ (d fuel : Nat) (c : Cube) (l : List Cube) (n : Int), l.length < d → d ≤ fuel → l.length < 4294967296 → 0 ≤ n → n ≤ N →
  Z5p fuel c l n free = some (Z3a free d c l n) ∧ (Z3a free d c l n).2.2 ≤ N
 | 0, fuel, c, l, n, h, _, _, _, _ => by omega
 | d + 1, 0, c, l, n, _, h, _, _, _ => by omega
 | d + 1, fuel + 1, c, l, n, h1, h2, h3, h4, h5 =>
  Y31 free N hN hN0 d fuel c l h3 n h4 h5 fun i hi p m h6 h7 => Y20 free N hN hN0 d fuel p (l.drop (i + 1)) m (by rw [List.length_drop]; omega) (by omega) (by rw [List.length_drop]; omega) h6 h7
end Go.Proofs.YtknpgojdkobgjaaGreat.W
namespace Go.Proofs.YtknpgojdkobgjaaGreat.W
open Go Go.Wb
end Go.Proofs.YtknpgojdkobgjaaGreat.W
namespace Go.Proofs.YtknpgojdkobgjaaGreat.W
open Go Go.Wb
def Z9b (c : Cube) (l : List Cube) (most : Int) : Header × Bool × Int := Z3a (decide (most ≥ 1099511627776)) (l.length + 1) c l (Z1t most 0)
def Z4z (c : Cube) (l : List Cube) (most : Int) : Header × Bool × Int := bif decide ((Z9b c l most).2.2 < 0) then (Z3l, false, 5) else ((Z9b c l most).1, (Z9b c l most).2.1, 0)
theorem Zzz (m : Int) : 0 ≤ Z1t m 0 ∧ Z1t m 0 ≤ max m 0 := by
 unfold Z1t
 by_cases h : (0 : Int) > m
 ·rw [decide_eq_true h, cond_true]; omega
 ·rw [decide_eq_false h, cond_false]; omega
theorem Yfu (c : Cube) (l : List Cube) (most : Int) (hm : most ≤ 9223372036854775807) (hl : l.length ≤ 1000000) : Zie c l most = some (Z4z c l most) := by
 have hi := Zzz most
 unfold Zie Zsv Z4z
 obtain ⟨s', h1, h2⟩ := Zvk (decide (most ≥ 1099511627776)) (Z1t most 0) (by omega) (l.length + 1) Z0w c l (Z1t most 0) (by omega) (by unfold Z0w; omega) (by omega) hi.1 (by omega)
 show (Z6i Z0w (cl (Z1t most 0) (decide (most ≥ 1099511627776))) c l).bind _ = _
 rw [h1, Option.bind_some]
 show (bif !(decide (0 ≤ (Z9b c l most).2.2)) then _ else _) = _
 by_cases h : (Z9b c l most).2.2 < 0
 ·rw [decide_eq_true h, decide_eq_false (by omega)]; rfl
 ·rw [decide_eq_false h, decide_eq_true (by omega)]; rfl
theorem Yfl (c : Cube) (l : List Cube) (most : Int) (hm : most ≤ 9223372036854775807) (hl : l.length ≤ 1000000) : Zjw c l most = some (Z4z c l most) := by
 have hi := Zzz most
 unfold Zjw Zt8 Z4z
 obtain ⟨h1, h2⟩ := Y20 (decide (most ≥ 1099511627776)) (Z1t most 0) (by omega) hi.1 (l.length + 1) Z0w c l (Z1t most 0) (by omega) (by unfold Z0w; omega) (by omega) hi.1 (by omega)
 rw [h1, Option.bind_some]
 show (bif decide ((Z9b c l most).2.2 < 0) then _ else _) = _
 cases decide ((Z9b c l most).2.2 < 0) <;> rfl
theorem Zwe : ∀ (l : List Rule) (pre : List Cube), Z9m l pre.length (pre ++ List.replicate l.length (Vector.replicate 24 zTern)) = some (pre ++ l.map (·.Cube))
 | [], pre => by simp [Z9m]
 | r :: l, pre => by
  have hlt : pre.length < (pre ++ List.replicate (r :: l).length (Vector.replicate 24 zTern)).length := by simp
  rw [Z9m, Z0z hlt, Option.bind_some, Int.toNat_natCast]
  have e : List.set (pre ++ List.replicate (r :: l).length (Vector.replicate 24 zTern)) pre.length r.Cube = (pre ++ [r.Cube]) ++ List.replicate l.length (Vector.replicate 24 zTern) := by
   rw [List.length_cons, List.replicate_succ, List.set_append_right _ _ (Nat.le_refl _)]; simp
  have ih := Zwe l (pre ++ [r.Cube])
  rw [e]
  rw [List.length_append, List.length_singleton] at ih
  rw [ih]; simp
theorem Ygv (n : Nat) (h : n ≤ lim) : omk (n : Int) = some () := by
 unfold omk
 rw [decide_eq_false (by omega), decide_eq_false (by omega)]; rfl
theorem Yer (l : List Rule) (h : l.length ≤ 1000000) : Zhp l = some (l.map (·.Cube)) := by
 have hlim : lim = 4294967296 := rfl
 unfold Zhp
 rw [Ygv _ (by omega), Option.bind_some, Int.toNat_natCast]
 exact Zwe l []
theorem Y1f (l : List Rule) (hl : l.length ≤ 1000000) : ∀ (m i : Nat) (acc : List Cube), i ≤ l.length → l.length < i + m → acc.length ≤ i → Zg0 l m acc (i : Int) = some (acc ++ (l.drop i).map (·.Cube))
 | 0, i, acc, h1, h2, _ => by omega
 | m + 1, i, acc, h1, h2, h3 => by
  have hlim : lim = 4294967296 := rfl
  rw [Zg0]
  by_cases hi : i < l.length
  ·rw [decide_eq_true (by omega), cond_true, Z0z hi, Option.bind_some, Z1b (by simp; omega), Option.bind_some, inc i (by omega), Y1f l hl m (i + 1) _ (by omega) (by omega) (by simp; omega), List.drop_eq_getElem_cons hi, List.map_cons, List.append_assoc]
   rfl
  ·rw [decide_eq_false (by omega), cond_false, List.drop_of_length_le (by omega)]; simp
theorem Zv9 (l : List Rule) (hl : l.length ≤ 1000000) : Zbu l = some (l.map (·.Cube)) := by
 unfold Zbu
 have := Y1f l hl ((((l.length : Int) : Int) - 0).toNat + 1) 0 [] (by omega) (by omega) (by simp)
 rw [show ((0 : Nat) : Int) = 0 from rfl, List.drop_zero, List.nil_append] at this
 exact this
theorem Y0h {α : Type} (l : List α) (i : Nat) (h : i ≤ l.length) : Z4m l (i : Int) = some (l.take i) := by
 unfold Z4m
 simp [Nat.ble_eq_true_of_le h]
end Go.Proofs.YtknpgojdkobgjaaGreat.W
namespace Go.Proofs.YtknpgojdkobgjaaGreat.W
open Go Go.Wb
section ins
def Zke (lt : Int → Int → Bool) (cmp : Int → Int → Option Int) (A : List Int) : Prop := ∀ x ∈ A, ∀ y ∈ A, ∃ c, cmp x y = some c ∧ decide (c < 0) = lt x y
variable {lt : Int → Int → Bool} {cmp : Int → Int → Option Int}
theorem Zyc {A : List Int} (hc : Zke lt cmp A) (go : List Int → Int → Option (List Int)) (i : Int) (P : List Int) (x : Int) (hx : x ∈ A) : ∀ (R S : List Int) (m : Nat), (∀ y ∈ R, y ∈ A) → R.length < m → (P ++ R.reverse ++ x :: S).length ≤ big →
  Zaz (P.length : Int) cmp go i m (P ++ R.reverse ++ x :: S) ((P.length + R.length : Nat) : Int) = go (P ++ (Z0q lt x R).reverse ++ S) (IntKind.i64.wrap (i + 1))
 | [], S, m, _, h, _ => by
  obtain ⟨m, rfl⟩ : ∃ k, m = k + 1 := ⟨m - 1, by simp at h; omega⟩
  rw [Zaz, decide_eq_false (by simp)]
  simp [opt, Z0q]
 | y :: R, S, m, hR, h, hl => by
  have hbig : big = 1000000 := rfl
  simp only [List.length_cons, List.length_append, List.length_reverse] at h hl
  obtain ⟨m, rfl⟩ : ∃ k, m = k + 1 := ⟨m - 1, by omega⟩
  have e0 : P ++ (y :: R).reverse ++ x :: S = (P ++ R.reverse) ++ y :: (x :: S) := by simp
  have ej : IntKind.i64.wrap (((P.length + (y :: R).length : Nat) : Int) - 1) = ((P.length + R.length : Nat) : Int) := by rw [wr (by simp only [List.length_cons]; omega) (by simp only [List.length_cons]; omega)]; simp only [List.length_cons]; omega
  have g1 : ∀ a b : Int, lget ((P ++ R.reverse) ++ a :: (b :: S)) ((P.length + (y :: R).length : Nat) : Int) = some b := fun a b => by
   have : (P ++ R.reverse) ++ a :: (b :: S) = (P ++ R.reverse ++ [a]) ++ b :: S := by simp
   rw [this]; exact Z4w _ _ _ _ (by simp)
  have g0 : ∀ a b : Int, lget ((P ++ R.reverse) ++ a :: (b :: S)) ((P.length + R.length : Nat) : Int) = some a := fun a b => Z4w _ _ _ _ (by simp)
  have s1 : ∀ a b c : Int, List.set ((P ++ R.reverse) ++ a :: (b :: S)) (((P.length + (y :: R).length : Nat) : Int)).toNat c = (P ++ R.reverse) ++ a :: (c :: S) := fun a b c => by
   have : (P ++ R.reverse) ++ a :: (b :: S) = (P ++ R.reverse ++ [a]) ++ b :: S := by simp
   rw [this, Int.toNat_natCast, Z6y _ _ _ _ _ (by simp)]; simp
  have s0 : ∀ a b c : Int, List.set ((P ++ R.reverse) ++ a :: (b :: S)) (((P.length + R.length : Nat) : Int)).toNat c = (P ++ R.reverse) ++ c :: (b :: S) := fun a b c => by
   rw [Int.toNat_natCast, Z6y _ _ _ _ _ (by simp)]
  obtain ⟨c, hc1, hc2⟩ := hc x hx y (hR y (by simp))
  rw [e0, Zaz, decide_eq_true (by simp only [List.length_cons]; omega), Z2x, g1, Option.bind_some, Z2x, ej, g0, Option.bind_some, Z2x, hc1, Option.bind_some, Bool.true_and, hc2, Z0q]
  cases lt x y
  ·rw [cond_false, cond_false]
   simp
  ·rw [cond_true, cond_true, Option.bind_some, Option.bind_some, Option.bind_some, s1, g0, Option.bind_some, s0, Zyc hc go i P x hx R (y :: S) m (fun z hz => hR z (by simp [hz])) (by omega) (by simp only [List.length_append, List.length_cons, List.length_reverse]; omega)]
   simp
theorem Zq2 (x : Int) (R : List Int) : (Z0q lt x R).length = R.length + 1 := by
 induction R with
 | nil => rfl
 | cons y R ih => rw [Z0q]; cases lt x y <;> simp [ih]
theorem Zuu {A : List Int} (hc : Zke lt cmp A) (P Q : List Int) : ∀ (T R : List Int) (m : Nat), (∀ y ∈ T, y ∈ A) → (∀ y ∈ R, y ∈ A) → T.length < m → (P ++ R.reverse ++ T ++ Q).length ≤ big →
  Z8b ((P.length + R.length + T.length : Nat) : Int) (P.length : Int) cmp m (P ++ R.reverse ++ T ++ Q) ((P.length + R.length : Nat) : Int) = some (P ++ (T.foldl (fun R x => Z0q lt x R) R).reverse ++ Q)
 | [], R, m, _, _, h, _ => by
  obtain ⟨m, rfl⟩ : ∃ k, m = k + 1 := ⟨m - 1, by simp at h; omega⟩
  rw [Z8b, decide_eq_false (by simp), cond_false]
  simp
 | x :: T, R, m, hT, hR, h, h2 => by
  have hbig : big = 1000000 := rfl
  simp only [List.length_cons, List.length_append, List.length_reverse] at h h2
  obtain ⟨m, rfl⟩ : ∃ k, m = k + 1 := ⟨m - 1, by omega⟩
  have e : IntKind.i64.wrap (((P.length + R.length : Nat) : Int) + 1) = ((P.length + (Z0q lt x R).length : Nat) : Int) := by rw [Zq2, wr (by omega) (by omega)]; omega
  have hn : P.length + R.length + (x :: T).length = P.length + (Z0q lt x R).length + T.length := by rw [Zq2, List.length_cons]; omega
  have e0 : P ++ R.reverse ++ x :: T ++ Q = P ++ R.reverse ++ x :: (T ++ Q) := by simp
  rw [Z8b, decide_eq_true (by simp only [List.length_cons]; omega), cond_true, e0, Zyc hc _ _ P x (hT x (by simp)) R (T ++ Q) Z0w hR (by unfold Z0w; omega) (by simp only [List.length_append, List.length_cons, List.length_reverse]; omega), e, hn,
   ← List.append_assoc, Zuu hc P Q T (Z0q lt x R) m (fun y hy => hT y (by simp [hy])) (fun y hy => by rcases Zsk.1 hy with e | e; rw [e]; exact hT x (by simp); exact hR y e) (by omega) (by simp only [List.length_append, List.length_reverse, Zq2]; omega), List.foldl_cons]
theorem Yex (P L Q : List Int) (hc : Zke lt cmp L) (a b : Int) (ha : a = (P.length : Int)) (hb : b = (P.length : Int) + (L.length : Int)) (h : (P ++ L ++ Q).length ≤ big) : Zf8 (P ++ L ++ Q) a b cmp = some (P ++ srt lt L ++ Q) := by
 subst ha hb
 have hbig : big = 1000000 := rfl
 have h' := h
 simp only [List.length_append] at h'
 unfold Zf8 srt
 cases L with
 | nil =>
  rw [wr (by omega) (by omega)]
  obtain ⟨m, hm⟩ : ∃ m, (((P.length : Int) + (([] : List Int).length : Int)) - ((P.length : Int) + 1)).toNat + 1 = m + 1 := ⟨_, rfl⟩
  rw [hm, Z8b, decide_eq_false (by simp only [List.length_nil]; omega), cond_false]
  rfl
 | cons x L =>
  simp only [List.length_cons] at h'
  have := Zuu hc P Q L [x] ((((P.length : Int) + ((x :: L).length : Int)) - ((P.length : Int) + 1)).toNat + 1) (fun y hy => by simp [hy]) (fun y hy => by simp at hy; simp [hy]) (by simp only [List.length_cons]; omega) (by simp only [List.length_append, List.length_reverse, List.length_cons, List.length_nil]; omega)
  have e1 : ((P.length + [x].length + L.length : Nat) : Int) = (P.length : Int) + ((x :: L).length : Int) := by simp; omega
  have e2 : ((P.length + [x].length : Nat) : Int) = (P.length : Int) + 1 := by simp
  have e3 : P ++ [x].reverse ++ L ++ Q = P ++ x :: L ++ Q := by simp
  rw [e1, e2, e3] at this
  rw [wr (by omega) (by omega), this]
  rfl
theorem Yby (L : List Int) (hc : Zke lt cmp L) (h : L.length < 20) : Ziy L cmp = some (srt lt L) := by
 unfold Ziy Znq
 obtain ⟨m, hm⟩ : ∃ m, (((L.length : Int) : Int) - 20).toNat + 2 = m + 1 := ⟨_, rfl⟩
 have := Yex [] L [] hc 0 (L.length : Int) rfl (by simp) (by simp only [List.nil_append, List.append_nil]; show _ ≤ 1000000; omega)
 simp only [List.nil_append, List.append_nil] at this
 rw [hm, Zko, decide_eq_false (by omega), cond_false, this, Option.bind_some]
 obtain ⟨k, hk⟩ : ∃ m, (((L.length : Int) : Int) - 20).toNat + 1 = m + 1 := ⟨_, rfl⟩
 rw [hk, Zf2, decide_eq_false (by omega), cond_false]
 rfl
end ins
end Go.Proofs.YtknpgojdkobgjaaGreat.W
