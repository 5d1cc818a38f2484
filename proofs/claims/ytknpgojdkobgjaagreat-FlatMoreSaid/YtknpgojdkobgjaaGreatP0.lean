/- A part of the proof. -/
import Derived.Test.YtknpgojdkobgjaaGreatG3
set_option linter.unusedVariables false
set_option linter.unusedSimpArgs false
namespace Go.Proofs.YtknpgojdkobgjaaGreat.W
open Go Go.Wb
abbrev big : Nat := 1000000
theorem Z4j {α : Type} (P Q : List α) (x : α) (i : Int) (h : i = (P.length : Int)) : lget (P ++ x :: Q) i = some x := by
 subst h
 rw [Z6g, List.getElem?_append_right (Nat.le_refl _)]; simp
theorem Z6v {α : Type} (P Q : List α) (x y : α) (i : Nat) (h : i = P.length) : List.set (P ++ x :: Q) i y = P ++ y :: Q := by
 subst h
 rw [List.set_append_right _ _ (Nat.le_refl _)]; simp
theorem wr {n : Int} (h1 : -4611686018427387904 ≤ n) (h2 : n ≤ 4611686018427387904) : IntKind.i64.wrap n = n := Z2a (by omega) (by omega)
theorem Z9r (n : Nat) (h : n ≤ 4611686018427387904) : IntKind.i64.wrap ((BitVec.ofNat 64 n).toNat : Int) = (n : Int) := by
 have : (BitVec.ofNat 64 n).toNat = n := by rw [BitVec.toNat_ofNat]; omega
 rw [this, wr (by omega) (by omega)]
theorem Zlc (k : Int) (n : Nat) (hk : k = (n : Int)) (h : n ≤ 4611686018427387904) : Z33 (BitVec.ofInt 64 (IntKind.i64.wrap k)) ((1 : BitVec 64).toNat : Int) = some (BitVec.ofNat 64 (n / 2)) := by
 subst hk
 rw [wr (by omega) (by omega), show ((1 : BitVec 64).toNat : Int) = ((1 : Nat) : Int) from rfl]
 unfold Z33
 rw [decide_eq_false (by omega), cond_false, BitVec.ofInt_natCast, Int.toNat_natCast]
 congr 1
 apply BitVec.eq_of_toNat_eq
 rw [BitVec.toNat_ushiftRight, BitVec.toNat_ofNat, BitVec.toNat_ofNat, Nat.shiftRight_eq_div_pow]
 omega
theorem Zws (n a b : Nat) : ∀ (U V P M Q : List Action) (i f : Nat), U.length = V.length → P.length = a + i → P.length + U.length + M.length = b + i → i + U.length = n → U.length < f → (P ++ U ++ M ++ V ++ Q).length ≤ big →
  Z8j (n : Int) (b : Int) (a : Int) f (P ++ U ++ M ++ V ++ Q) (i : Int) = some (P ++ V ++ M ++ U ++ Q)
 | [], V, P, M, Q, i, f, h1, h2, h3, h4, h5, h6 => by
  have hV : V = [] := List.eq_nil_of_length_eq_zero (by simpa using h1.symm)
  subst hV
  obtain ⟨f, rfl⟩ : ∃ k, f = k + 1 := ⟨f - 1, by simp at h5; omega⟩
  rw [Z8j, decide_eq_false (by simp at h4; omega), cond_false]
 | u :: U, [], P, M, Q, i, f, h1, h2, h3, h4, h5, h6 => by simp at h1
 | u :: U, v :: V, P, M, Q, i, f, h1, h2, h3, h4, h5, h6 => by
  obtain ⟨f, rfl⟩ : ∃ k, f = k + 1 := ⟨f - 1, by simp at h5; omega⟩
  simp only [List.length_cons, List.length_append] at h1 h3 h4 h5 h6
  have hbig : big = 1000000 := rfl
  have ea : IntKind.i64.wrap ((a : Int) + (i : Int)) = (P.length : Int) := by rw [wr (by omega) (by omega)]; omega
  have eb : IntKind.i64.wrap ((b : Int) + (i : Int)) = ((P ++ u :: U ++ M).length : Int) := by
   rw [wr (by omega) (by omega)]; simp only [List.length_append, List.length_cons]; omega
  have e1 : P ++ u :: U ++ M ++ v :: V ++ Q = (P ++ u :: U ++ M) ++ v :: (V ++ Q) := by simp
  have e2 : P ++ u :: U ++ M ++ v :: V ++ Q = P ++ u :: (U ++ M ++ v :: V ++ Q) := by simp
  have e3 : P ++ v :: (U ++ M ++ v :: V ++ Q) = (P ++ v :: U ++ M) ++ v :: (V ++ Q) := by simp
  have e4 : (P ++ v :: U ++ M) ++ u :: (V ++ Q) = (P ++ [v]) ++ U ++ (M ++ [u]) ++ V ++ Q := by simp
  have g1 : lget (P ++ u :: U ++ M ++ v :: V ++ Q) ((P ++ u :: U ++ M).length : Int) = some v := by rw [e1]; exact Z4j _ _ _ _ rfl
  have g2 : lget (P ++ u :: U ++ M ++ v :: V ++ Q) (P.length : Int) = some u := by rw [e2]; exact Z4j _ _ _ _ rfl
  have s1 : List.set (P ++ u :: U ++ M ++ v :: V ++ Q) ((P.length : Int)).toNat v = (P ++ v :: U ++ M) ++ v :: (V ++ Q) := by
   rw [e2, Int.toNat_natCast, Z6v _ _ _ _ _ rfl, e3]
  have hl : (P ++ u :: U ++ M).length = (P ++ v :: U ++ M).length := by simp
  have g3 : lget ((P ++ v :: U ++ M) ++ v :: (V ++ Q)) ((P ++ u :: U ++ M).length : Int) = some v := Z4j _ _ _ _ (by rw [hl])
  have s2 : List.set ((P ++ v :: U ++ M) ++ v :: (V ++ Q)) (((P ++ u :: U ++ M).length : Int)).toNat u = (P ++ [v]) ++ U ++ (M ++ [u]) ++ V ++ Q := by
   rw [Int.toNat_natCast, Z6v _ _ _ _ _ hl, e4]
  have ei : IntKind.i64.wrap ((i : Int) + 1) = ((i + 1 : Nat) : Int) := by rw [wr (by omega) (by omega)]; omega
  rw [Z8j, decide_eq_true (by omega), cond_true, eb, g1, Option.bind_some, ea, g2, Option.bind_some, Option.bind_some, s1, g3, Option.bind_some, s2, ei,
   Zws n a b U V (P ++ [v]) (M ++ [u]) Q (i + 1) f (by omega) (by simp only [List.length_append, List.length_cons, List.length_nil]; omega) (by simp only [List.length_append, List.length_cons, List.length_nil]; omega) (by omega) (by omega) (by simp only [List.length_append, List.length_cons, List.length_nil]; omega)]
  simp
theorem Zqc (U V P M Q : List Action) (cmp : Action → Action → Option Int) (a b n : Int) (h : U.length = V.length) (ha : a = (P.length : Int)) (hb : b = ((P ++ U ++ M).length : Int)) (hn : n = (U.length : Int)) (hl : (P ++ U ++ M ++ V ++ Q).length ≤ big) :
  Zb4 (P ++ U ++ M ++ V ++ Q) a b n cmp = some (P ++ V ++ M ++ U ++ Q) := by
 subst ha hb hn
 unfold Zb4
 exact Zws U.length P.length (P ++ U ++ M).length U V P M Q 0 _ h rfl (by simp only [List.length_append]; omega) (by omega) (by omega) hl
theorem Zrl (cmp : Action → Action → Option Int) : ∀ (f : Nat) (X Y P Q : List Action) (m : Nat), 0 < X.length → 0 < Y.length → X.length + Y.length ≤ f → P.length + X.length = m → (P ++ X ++ Y ++ Q).length ≤ big →
  Z7r (m : Int) cmp f (P ++ X ++ Y ++ Q) (X.length : Int) (Y.length : Int) = some (P ++ Y ++ X ++ Q)
 | 0, X, Y, P, Q, m, h1, h2, h3, h4, h5 => by omega
 | f + 1, X, Y, P, Q, m, h1, h2, h3, h4, h5 => by
  have hbig : big = 1000000 := rfl
  simp only [List.length_append] at h5
  have em : IntKind.i64.wrap ((m : Int) - (X.length : Int)) = (P.length : Int) := by rw [wr (by omega) (by omega)]; omega
  rw [Z7r, em]
  by_cases he : X.length = Y.length
  ·rw [decide_eq_false (by omega), cond_false]
   have := Zqc X Y P [] Q cmp (P.length : Int) (m : Int) (X.length : Int) he rfl (by simp; omega) rfl (by simp only [List.length_append, List.length_nil]; omega)
   simp only [List.append_nil] at this
   rw [this]; rfl
  ·rw [decide_eq_true (by omega), cond_true]
   by_cases hg : X.length > Y.length
   ·rw [decide_eq_true (by omega), cond_true]
    have hx : X = X.take Y.length ++ X.drop Y.length := (List.take_append_drop ..).symm
    generalize hX1 : X.take Y.length = X1 at hx
    generalize hX2 : X.drop Y.length = X2 at hx
    have l1 : X1.length = Y.length := by rw [← hX1]; simp; omega
    have l2 : X2.length = X.length - Y.length := by rw [← hX2]; simp
    have := Zqc X1 Y P X2 Q cmp (P.length : Int) (m : Int) (Y.length : Int) l1 rfl (by simp only [List.length_append]; omega) (by omega) (by simp only [List.length_append]; omega)
    have e1 : P ++ X ++ Y ++ Q = P ++ X1 ++ X2 ++ Y ++ Q := by rw [hx]; simp
    have e2 : P ++ Y ++ X2 ++ X1 ++ Q = (P ++ Y) ++ X2 ++ X1 ++ Q := by simp
    have e3 : IntKind.i64.wrap ((X.length : Int) - (Y.length : Int)) = (X2.length : Int) := by rw [wr (by omega) (by omega)]; omega
    have e4 : ((Y.length : Nat) : Int) = (X1.length : Int) := by omega
    rw [e1, this, Option.bind_some, e2, e3, e4, Zrl cmp f X2 X1 (P ++ Y) Q m (by omega) (by omega) (by omega) (by simp only [List.length_append]; omega) (by simp only [List.length_append]; omega)]
    rw [hx]; simp
   ·rw [decide_eq_false (by omega), cond_false]
    have hy : Y = Y.take (Y.length - X.length) ++ Y.drop (Y.length - X.length) := (List.take_append_drop ..).symm
    generalize hY1 : Y.take (Y.length - X.length) = Y1 at hy
    generalize hY2 : Y.drop (Y.length - X.length) = Y2 at hy
    have l1 : Y1.length = Y.length - X.length := by rw [← hY1]; simp
    have l2 : Y2.length = X.length := by rw [← hY2]; simp; omega
    have hb : IntKind.i64.wrap (IntKind.i64.wrap ((m : Int) + (Y.length : Int)) - (X.length : Int)) = ((P ++ X ++ Y1).length : Int) := by
     rw [wr (n := (m : Int) + (Y.length : Int)) (by omega) (by omega), wr (by omega) (by omega)]; simp only [List.length_append]; omega
    have := Zqc X Y2 P Y1 Q cmp (P.length : Int) ((P ++ X ++ Y1).length : Int) (X.length : Int) (by omega) rfl rfl rfl (by simp only [List.length_append]; omega)
    have e1 : P ++ X ++ Y ++ Q = P ++ X ++ Y1 ++ Y2 ++ Q := by rw [hy]; simp
    have e2 : P ++ Y2 ++ Y1 ++ X ++ Q = P ++ Y2 ++ Y1 ++ (X ++ Q) := by simp
    have e3 : IntKind.i64.wrap ((Y.length : Int) - (X.length : Int)) = (Y1.length : Int) := by rw [wr (by omega) (by omega)]; omega
    have e4 : ((X.length : Nat) : Int) = (Y2.length : Int) := by omega
    rw [hb, e1, this, Option.bind_some, e2, e3, e4, Zrl cmp f Y2 Y1 P (X ++ Q) m (by omega) (by omega) (by omega) (by omega) (by simp only [List.length_append]; omega)]
    rw [hy]; simp
theorem Y78 (cmp : Action → Action → Option Int) (X Y P Q : List Action) (a m b : Int) (h1 : 0 < X.length) (h2 : 0 < Y.length) (ha : a = (P.length : Int)) (hm : m = ((P ++ X).length : Int)) (hb : b = ((P ++ X ++ Y).length : Int)) (hl : (P ++ X ++ Y ++ Q).length ≤ big) :
  Zeh (P ++ X ++ Y ++ Q) a m b cmp = some (P ++ Y ++ X ++ Q) := by
 subst ha hm hb
 have hbig : big = 1000000 := rfl
 simp only [List.length_append] at hl
 unfold Zeh
 have e1 : IntKind.i64.wrap (((P ++ X).length : Int) - (P.length : Int)) = (X.length : Int) := by rw [wr (by simp only [List.length_append]; omega) (by simp only [List.length_append]; omega)]; simp only [List.length_append]; omega
 have e2 : IntKind.i64.wrap (((P ++ X ++ Y).length : Int) - ((P ++ X).length : Int)) = (Y.length : Int) := by rw [wr (by simp only [List.length_append]; omega) (by simp only [List.length_append]; omega)]; simp only [List.length_append]; omega
 rw [e1, e2]
 exact Zrl cmp Z0x X Y P Q _ h1 h2 (by unfold Z0x; omega) (by simp) (by simp only [List.length_append]; omega)
theorem Zgm {β : Type} (G : Nat → Int → Int → Option β) (K : Int → Option β) (t : Nat → Bool) (lo s hi : Nat)
  (step : ∀ (f i j : Nat), lo ≤ i → i < j → j ≤ hi → G (f + 1) (i : Int) (j : Int) = bif t ((i + j) / 2) then G f (((i + j) / 2 + 1 : Nat) : Int) (j : Int) else G f (i : Int) (((i + j) / 2 : Nat) : Int))
  (stop : ∀ (f i : Nat), lo ≤ i → i ≤ hi → G (f + 1) (i : Int) (i : Int) = K (i : Int)) (ht : ∀ c, lo ≤ c → c < s → t c = true) (hf : ∀ c, s ≤ c → c < hi → t c = false) :
  ∀ (f i j : Nat), lo ≤ i → i ≤ s → s ≤ j → j ≤ hi → j - i < f → G f (i : Int) (j : Int) = K (s : Int)
 | 0, i, j, _, _, _, _, h => by omega
 | f + 1, i, j, h1, h2, h3, h4, h5 => by
  by_cases hij : i < j
  ·rw [step f i j h1 hij h4]
   by_cases hc : (i + j) / 2 < s
   ·rw [ht _ (by omega) hc, cond_true]
    exact Zgm G K t lo s hi step stop ht hf f _ j (by omega) (by omega) h3 h4 (by omega)
   ·rw [hf _ (by omega) (by omega), cond_false]
    exact Zgm G K t lo s hi step stop ht hf f i _ h1 h2 (by omega) (by omega) (by omega)
  ·have e1 : i = s := by omega
   have e2 : j = s := by omega
   rw [e1, e2]
   exact stop f s (by omega) (by omega)
theorem Zk2 (t : Nat → Bool) (lo : Nat) : ∀ (n : Nat), (∀ c d, lo ≤ c → c ≤ d → d < lo + n → t c = false → t d = false) → ∃ s, lo ≤ s ∧ s ≤ lo + n ∧ (∀ c, lo ≤ c → c < s → t c = true) ∧ ∀ c, s ≤ c → c < lo + n → t c = false
 | 0, _ => ⟨lo, Nat.le_refl _, Nat.le_refl _, fun c h1 h2 => by omega, fun c h1 h2 => by omega⟩
 | n + 1, hm => by
  obtain ⟨s, h1, h2, h3, h4⟩ := Zk2 t lo n fun c d a b e f => hm c d a b (by omega) f
  by_cases hs : s < lo + n
  ·refine ⟨s, h1, by omega, h3, fun c a b => ?_⟩
   by_cases hc : c < lo + n
   ·exact h4 c a hc
   ·exact hm s c h1 a b (h4 s (Nat.le_refl _) hs)
  ·have : s = lo + n := by omega
   subst this
   cases ht : t (lo + n)
   ·exact ⟨lo + n, h1, by omega, h3, fun c a b => by rw [show c = lo + n by omega, ht]⟩
   ·refine ⟨lo + n + 1, by omega, by omega, fun c a b => ?_, fun c a b => by omega⟩
    by_cases hc : c < lo + n
    ·exact h3 c a hc
    ·have : c = lo + n := by omega
     rw [this, ht]
end Go.Proofs.YtknpgojdkobgjaaGreat.W
namespace Go.Proofs.YtknpgojdkobgjaaGreat.W
open Go Go.Wb
section sym
variable (lt : Action → Action → Bool) (cmp : Action → Action → Option Int)
def Z52 : Prop := ∀ x y, ∃ c, cmp x y = some c ∧ decide (c < 0) = lt x y
variable {lt cmp}
theorem Zua (e : Nat) : ∀ (Y P Q : List Action) (x : Action) (k f : Nat), k = P.length → k + Y.length + 1 = e → Y.length < f → (P ++ x :: (Y ++ Q)).length ≤ big →
  Z6h (e : Int) f (P ++ x :: (Y ++ Q)) (k : Int) = some (P ++ Y ++ x :: Q)
 | [], P, Q, x, k, f, h1, h2, h3, h4 => by
  obtain ⟨f, rfl⟩ : ∃ k, f = k + 1 := ⟨f - 1, by simp at h3; omega⟩
  have hbig : big = 1000000 := rfl
  simp only [List.length_append, List.length_cons, List.length_nil] at h2 h4
  rw [Z6h, wr (by omega) (by omega), decide_eq_false (by omega), cond_false]
  simp
 | y :: Y, P, Q, x, k, f, h1, h2, h3, h4 => by
  obtain ⟨f, rfl⟩ : ∃ k, f = k + 1 := ⟨f - 1, by simp at h3; omega⟩
  have hbig : big = 1000000 := rfl
  simp only [List.length_append, List.length_cons] at h2 h3 h4
  have ek : IntKind.i64.wrap ((k : Int) + 1) = ((k + 1 : Nat) : Int) := by rw [wr (by omega) (by omega)]; omega
  have e1 : P ++ x :: (y :: Y ++ Q) = (P ++ [x]) ++ y :: (Y ++ Q) := by simp
  have e2 : (P ++ [y]) ++ y :: (Y ++ Q) = P ++ y :: (y :: (Y ++ Q)) := by simp
  have g1 : lget (P ++ x :: (y :: Y ++ Q)) ((k + 1 : Nat) : Int) = some y := by rw [e1]; exact Z4j _ _ _ _ (by simp; omega)
  have g2 : lget (P ++ x :: (y :: Y ++ Q)) (k : Int) = some x := Z4j _ _ _ _ (by omega)
  have s1 : List.set (P ++ x :: (y :: Y ++ Q)) ((k : Int)).toNat y = (P ++ [y]) ++ y :: (Y ++ Q) := by rw [Int.toNat_natCast, Z6v _ _ _ _ _ h1]; simp
  have g3 : lget ((P ++ [y]) ++ y :: (Y ++ Q)) ((k + 1 : Nat) : Int) = some y := Z4j _ _ _ _ (by simp; omega)
  have s2 : List.set ((P ++ [y]) ++ y :: (Y ++ Q)) (((k + 1 : Nat) : Int)).toNat x = (P ++ [y]) ++ x :: (Y ++ Q) := by rw [Int.toNat_natCast, Z6v _ _ _ _ _ (by simp; omega)]
  rw [Z6h, wr (n := (e : Int) - 1) (by omega) (by omega), decide_eq_true (by omega), cond_true, ek, g1, Option.bind_some, g2, Option.bind_some, Option.bind_some, s1, g3, Option.bind_some, s2,
   Zua e Y (P ++ [y]) Q x (k + 1) f (by simp; omega) (by omega) (by omega) (by simp only [List.length_append, List.length_cons, List.length_nil]; omega)]
  simp
theorem Zrq (s : Nat) : ∀ (R P Q : List Action) (x : Action) (k f : Nat), k = s + R.length → P.length = s → R.length < f → (P ++ R.reverse ++ x :: Q).length ≤ big →
  Z68 (s : Int) f (P ++ R.reverse ++ x :: Q) (k : Int) = some (P ++ x :: (R.reverse ++ Q))
 | [], P, Q, x, k, f, h1, h2, h3, h4 => by
  obtain ⟨f, rfl⟩ : ∃ k, f = k + 1 := ⟨f - 1, by simp at h3; omega⟩
  rw [Z68, decide_eq_false (by simp at h1; omega), cond_false]
  simp
 | y :: R, P, Q, x, k, f, h1, h2, h3, h4 => by
  obtain ⟨f, rfl⟩ : ∃ k, f = k + 1 := ⟨f - 1, by simp at h3; omega⟩
  have hbig : big = 1000000 := rfl
  simp only [List.length_append, List.length_cons, List.length_reverse] at h1 h3 h4
  have ek : IntKind.i64.wrap ((k : Int) - 1) = ((k - 1 : Nat) : Int) := by rw [wr (by omega) (by omega)]; omega
  have e1 : P ++ (y :: R).reverse ++ x :: Q = (P ++ R.reverse) ++ y :: (x :: Q) := by simp
  have e1' : P ++ (y :: R).reverse ++ x :: Q = (P ++ R.reverse ++ [y]) ++ x :: Q := by simp
  have g1 : lget (P ++ (y :: R).reverse ++ x :: Q) ((k - 1 : Nat) : Int) = some y := by rw [e1]; exact Z4j _ _ _ _ (by simp; omega)
  have g2 : lget (P ++ (y :: R).reverse ++ x :: Q) (k : Int) = some x := by rw [e1']; exact Z4j _ _ _ _ (by simp; omega)
  have s1 : List.set (P ++ (y :: R).reverse ++ x :: Q) ((k : Int)).toNat y = (P ++ R.reverse) ++ y :: (y :: Q) := by rw [e1', Int.toNat_natCast, Z6v _ _ _ _ _ (by simp; omega)]; simp
  have g3 : lget ((P ++ R.reverse) ++ y :: (y :: Q)) ((k - 1 : Nat) : Int) = some y := Z4j _ _ _ _ (by simp; omega)
  have s2 : List.set ((P ++ R.reverse) ++ y :: (y :: Q)) (((k - 1 : Nat) : Int)).toNat x = P ++ R.reverse ++ x :: (y :: Q) := by rw [Int.toNat_natCast, Z6v _ _ _ _ _ (by simp; omega)]
  rw [Z68, decide_eq_true (by omega), cond_true, ek, g1, Option.bind_some, g2, Option.bind_some, Option.bind_some, s1, g3, Option.bind_some, s2,
   Zrq s R P (y :: Q) x (k - 1) f (by omega) h2 (by omega) (by simp only [List.length_append, List.length_cons, List.length_reverse]; omega)]
  simp
theorem Zmd {α : Type} (P X Q : List α) (c : Nat) (h1 : P.length ≤ c) (h2 : c < P.length + X.length) : lget (P ++ X ++ Q) (c : Int) = some (X[c - P.length]'(by omega)) := by
 rw [Z6g, List.append_assoc, List.getElem?_append_right h1, List.getElem?_append_left (by omega), List.getElem?_eq_getElem]
theorem Y2a {l : List Action} (h : Z12 lt l) {i j : Nat} (hi : i < l.length) (hj : j < l.length) (hij : i < j) : lt l[j] l[i] = false := (List.pairwise_iff_getElem.1 h) i j hi hj hij
theorem Zaj (hs : Swo lt) {l : List Action} (h : Z12 lt l) {i j : Nat} (hi : i < l.length) (hj : j < l.length) (hij : i ≤ j) : lt l[j] l[i] = false := by
 rcases Nat.lt_or_eq_of_le hij with h1 | h1
 ·exact Y2a h hi hj h1
 ·subst h1
  have := Z7f hs l[i]
  unfold eqv at this
  simpa using this
theorem Zlj {A B : List Action} (h : Z12 lt (A ++ B)) : Z12 lt A := (List.pairwise_append.1 h).1
theorem Zkt {A B : List Action} (h : Z12 lt (A ++ B)) : Z12 lt B := (List.pairwise_append.1 h).2.1
theorem Y4y (hs : Swo lt) (hc : Z52 lt cmp) (x : Action) (Y P Q : List Action) (hY : Z12 lt Y) (hl : (P ++ x :: (Y ++ Q)).length ≤ big) :
  Z6e (P ++ x :: (Y ++ Q)) (P.length : Int) cmp ((((P.length + 1 + Y.length : Nat) : Int) - ((P.length + 1 : Nat) : Int)).toNat + 1) ((P.length + 1 : Nat) : Int) ((P.length + 1 + Y.length : Nat) : Int) = some (P ++ srt lt (x :: Y) ++ Q) := by
 have hbig : big = 1000000 := rfl
 simp only [List.length_append, List.length_cons] at hl
 have eD : P ++ x :: (Y ++ Q) = (P ++ [x]) ++ Y ++ Q := by simp
 let t : Nat → Bool := fun c => if h : c - (P.length + 1) < Y.length then lt Y[c - (P.length + 1)] x else false
 have htv : ∀ c (h : c - (P.length + 1) < Y.length), t c = lt Y[c - (P.length + 1)] x := fun c h => by simp only [t]; rw [dif_pos h]
 obtain ⟨s, s1, s2, s3, s4⟩ := Zk2 t (P.length + 1) Y.length fun c d h1 h2 h3 h4 => by
  rw [htv c (by omega)] at h4
  rw [htv d (by omega)]
  exact hs.neg _ _ _ (Zaj hs hY (by omega) (by omega) (by omega)) h4
 have key := Zgm (Z6e (P ++ x :: (Y ++ Q)) (P.length : Int) cmp) (fun i => Z6h i ((((IntKind.i64.wrap (i - 1)) : Int) - (P.length : Int)).toNat + 1) (P ++ x :: (Y ++ Q)) (P.length : Int)) t (P.length + 1) s (P.length + 1 + Y.length)
  (fun f i j h1 h2 h3 => by
   obtain ⟨c, hc1, hc2⟩ := hc (Y[(i + j) / 2 - (P.length + 1)]'(by omega)) x
   have gx : lget (P ++ x :: (Y ++ Q)) (P.length : Int) = some x := Z4j _ _ _ _ rfl
   have gy : lget (P ++ x :: (Y ++ Q)) (((i + j) / 2 : Nat) : Int) = some (Y[(i + j) / 2 - (P.length + 1)]'(by omega)) := by
    rw [eD, Zmd (P ++ [x]) Y Q _ (by simp; omega) (by simp; omega)]
    simp
   have e1 : IntKind.i64.wrap ((((i + j) / 2 : Nat) : Int) + 1) = (((i + j) / 2 + 1 : Nat) : Int) := by rw [wr (by omega) (by omega)]; omega
   rw [Z6e, decide_eq_true (by omega), cond_true, Zlc _ (i + j) (by omega) (by omega), Option.bind_some, Z9r _ (by omega), gy, Option.bind_some, gx, Option.bind_some, hc1, Option.bind_some, hc2, htv _ (by omega), e1])
  (fun f i h1 h2 => by rw [Z6e, decide_eq_false (by omega), cond_false]) s3 (fun c h1 h2 => s4 c h1 h2)
 rw [key _ _ _ (Nat.le_refl _) s1 s2 (Nat.le_refl _) (by omega)]
 have hy : Y = Y.take (s - (P.length + 1)) ++ Y.drop (s - (P.length + 1)) := (List.take_append_drop ..).symm
 have l1 : (Y.take (s - (P.length + 1))).length = s - (P.length + 1) := by simp; omega
 have hm := Zua s (Y.take (s - (P.length + 1))) P (Y.drop (s - (P.length + 1)) ++ Q) x P.length ((((IntKind.i64.wrap ((s : Int) - 1)) : Int) - (P.length : Int)).toNat + 1) rfl (by omega) (by rw [wr (by omega) (by omega)]; omega) (by simp only [List.length_append, List.length_cons, List.length_drop]; omega)
 rw [← List.append_assoc, ← hy] at hm
 show Z6h (s : Int) _ _ _ = _
 rw [hm]
 have h1 : ∀ y ∈ Y.take (s - (P.length + 1)), lt y x = true := fun y hy1 => by
  obtain ⟨i, hi, rfl⟩ := List.getElem_of_mem hy1
  rw [l1] at hi
  have := s3 (i + (P.length + 1)) (by omega) (by omega)
  rw [htv _ (by omega)] at this
  simpa using this
 have h2 : ∀ y ∈ Y.drop (s - (P.length + 1)), lt y x = false := fun y hy1 => by
  obtain ⟨i, hi, rfl⟩ := List.getElem_of_mem hy1
  rw [List.length_drop] at hi
  have := s4 (s + i) (by omega) (by omega)
  rw [htv _ (by omega)] at this
  rw [List.getElem_drop]
  have e : s + i - (P.length + 1) = s - (P.length + 1) + i := by omega
  simpa [e] using this
 have hY' := hY
 rw [hy] at hY'
 have h3 := Zqz hs (X1 := []) (X2 := [x]) (Y1 := Y.take (s - (P.length + 1))) (Y2 := Y.drop (s - (P.length + 1))) (by simp [Z12]) hY' (by simp) (fun y hy1 u hu => by rw [show u = x by simpa using hu]; exact h1 y hy1)
 simp only [List.nil_append, ← hy] at h3
 have h4 : srt lt ([x] ++ Y.drop (s - (P.length + 1))) = [x] ++ Y.drop (s - (P.length + 1)) := Zey hs (by
  unfold Z12
  rw [List.pairwise_append]
  exact ⟨by simp, (Zkt hY'), fun u hu v hv => by rw [show u = x by simpa using hu]; exact h2 v hv⟩)
 rw [h4, Zey hs (Zlj hY')] at h3
 rw [show x :: Y = [x] ++ Y from rfl, h3]
 simp
theorem Y20 (hs : Swo lt) (hc : Z52 lt cmp) (x : Action) (X P Q : List Action) (hX : Z12 lt X) (hl : (P ++ X ++ x :: Q).length ≤ big) :
  Z66 (P ++ X ++ x :: Q) ((P.length + X.length : Nat) : Int) cmp ((((P.length + X.length : Nat) : Int) - (P.length : Int)).toNat + 1) (P.length : Int) ((P.length + X.length : Nat) : Int) = some (P ++ srt lt (X ++ [x]) ++ Q) := by
 have hbig : big = 1000000 := rfl
 simp only [List.length_append, List.length_cons] at hl
 let t : Nat → Bool := fun c => if h : c - P.length < X.length then !lt x X[c - P.length] else false
 have htv : ∀ c (h : c - P.length < X.length), t c = !lt x X[c - P.length] := fun c h => by simp only [t]; rw [dif_pos h]
 obtain ⟨s, s1, s2, s3, s4⟩ := Zk2 t P.length X.length fun c d h1 h2 h3 h4 => by
  rw [htv c (by omega)] at h4
  rw [htv d (by omega)]
  simp only [Bool.not_eq_false'] at h4 ⊢
  cases hd : lt x X[d - P.length]
  ·have := hs.neg _ _ _ hd (Zaj hs hX (i := c - P.length) (j := d - P.length) (by omega) (by omega) (by omega))
   rw [this] at h4; cases h4
  ·rfl
 have key := Zgm (Z66 (P ++ X ++ x :: Q) ((P.length + X.length : Nat) : Int) cmp) (fun i => Z68 i (((((P.length + X.length : Nat) : Int) : Int) - i).toNat + 1) (P ++ X ++ x :: Q) ((P.length + X.length : Nat) : Int)) t P.length s (P.length + X.length)
  (fun f i j h1 h2 h3 => by
   obtain ⟨c, hc1, hc2⟩ := hc x (X[(i + j) / 2 - P.length]'(by omega))
   have gx : lget (P ++ X ++ x :: Q) ((P.length + X.length : Nat) : Int) = some x := Z4j _ _ _ _ (by simp)
   have gy : lget (P ++ X ++ x :: Q) (((i + j) / 2 : Nat) : Int) = some (X[(i + j) / 2 - P.length]'(by omega)) := Zmd P X (x :: Q) _ (by omega) (by omega)
   have e1 : IntKind.i64.wrap ((((i + j) / 2 : Nat) : Int) + 1) = (((i + j) / 2 + 1 : Nat) : Int) := by rw [wr (by omega) (by omega)]; omega
   rw [Z66, decide_eq_true (by omega), cond_true, Zlc _ (i + j) (by omega) (by omega), Option.bind_some, Z9r _ (by omega), gx, Option.bind_some, gy, Option.bind_some, hc1, Option.bind_some, hc2, htv _ (by omega), e1])
  (fun f i h1 h2 => by rw [Z66, decide_eq_false (by omega), cond_false]) s3 (fun c h1 h2 => s4 c h1 h2)
 rw [key _ _ _ (Nat.le_refl _) s1 s2 (Nat.le_refl _) (by omega)]
 have hx : X = X.take (s - P.length) ++ X.drop (s - P.length) := (List.take_append_drop ..).symm
 have l1 : (X.take (s - P.length)).length = s - P.length := by simp; omega
 have hm := Zrq s (X.drop (s - P.length)).reverse (P ++ X.take (s - P.length)) Q x (P.length + X.length) (((((P.length + X.length : Nat) : Int) : Int) - (s : Int)).toNat + 1) (by simp; omega) (by simp; omega) (by simp; omega) (by simp only [List.length_append, List.length_cons, List.length_reverse, List.length_drop, List.length_take]; omega)
 rw [List.reverse_reverse, List.append_assoc P, ← hx] at hm
 show Z68 (s : Int) _ _ _ = _
 rw [hm]
 have h1 : ∀ u ∈ X.take (s - P.length), lt x u = false := fun u hu => by
  obtain ⟨i, hi, rfl⟩ := List.getElem_of_mem hu
  rw [l1] at hi
  have := s3 (i + P.length) (by omega) (by omega)
  rw [htv _ (by omega)] at this
  simpa using this
 have h2 : ∀ u ∈ X.drop (s - P.length), lt x u = true := fun u hu => by
  obtain ⟨i, hi, rfl⟩ := List.getElem_of_mem hu
  rw [List.length_drop] at hi
  have := s4 (s + i) (by omega) (by omega)
  rw [htv _ (by omega)] at this
  rw [List.getElem_drop]
  have e : s + i - P.length = s - P.length + i := by omega
  simpa [e] using this
 have hX' := hX
 rw [hx] at hX'
 have h3 := Zqz hs (X1 := X.take (s - P.length)) (X2 := X.drop (s - P.length)) (Y1 := [x]) (Y2 := []) hX' (by simp [Z12]) (by simp) (fun y hy1 u hu => by rw [show y = x by simpa using hy1]; exact h2 u hu)
 simp only [List.append_nil, ← hx] at h3
 have h4 : srt lt (X.take (s - P.length) ++ [x]) = X.take (s - P.length) ++ [x] := Zey hs (by
  unfold Z12
  rw [List.pairwise_append]
  exact ⟨(Zlj hX'), by simp, fun u hu v hv => by rw [show v = x by simpa using hv]; exact h1 u hu⟩)
 rw [h4, Zey hs (Zkt hX')] at h3
 rw [h3]
 simp
end sym
end Go.Proofs.YtknpgojdkobgjaaGreat.W
namespace Go.Proofs.YtknpgojdkobgjaaGreat.W
open Go Go.Wb
section sym
variable {lt : Action → Action → Bool} {cmp : Action → Action → Option Int}
def Zn3 (lt : Action → Action → Bool) (cmp : Action → Action → Option Int) (f : Nat) (R : List Action → Int → Int → Int → (Action → Action → Option Int) → Option (List Action)) : Prop :=
 ∀ (P X Y Q : List Action) (a m b : Int), a = (P.length : Int) → m = (P.length : Int) + (X.length : Int) → b = (P.length : Int) + (X.length : Int) + (Y.length : Int) → 0 < X.length → 0 < Y.length → X.length + Y.length ≤ f → Z12 lt X → Z12 lt Y → (P ++ X ++ Y ++ Q).length ≤ big →
  R (P ++ X ++ Y ++ Q) a m b cmp = some (P ++ srt lt (X ++ Y) ++ Q)
theorem Zzd (hs : Swo lt) {X Y : List Action} (hX : Z12 lt X) (hY : Z12 lt Y) (h : ¬ (0 < X.length ∧ 0 < Y.length)) : srt lt (X ++ Y) = X ++ Y := by
 cases X with
 | nil => exact Zey hs hY
 | cons x X =>
  cases Y with
  | nil => rw [List.append_nil]; exact Zey hs hX
  | cons y Y => exact absurd ⟨by simp, by simp⟩ h
theorem Y3f (hs : Swo lt) {f : Nat} {R : List Action → Int → Int → Int → (Action → Action → Option Int) → Option (List Action)} (hR : Zn3 lt cmp f R) (P X2 Y2 Q : List Action) (mid : Nat) (m start b : Int)
  (h1 : mid = P.length) (h2 : (mid : Int) + m - start = (P.length : Int) + (X2.length : Int)) (h3 : b = (P.length : Int) + (X2.length : Int) + (Y2.length : Int)) (hm : 0 ≤ m ∧ m ≤ big) (hst : 0 ≤ start ∧ start ≤ big) (hf : X2.length + Y2.length ≤ f) (hX : Z12 lt X2) (hY : Z12 lt Y2) (hl : (P ++ X2 ++ Y2 ++ Q).length ≤ big) :
  Zdj (BitVec.ofNat 64 mid) m start b R cmp (P ++ X2 ++ Y2 ++ Q) = some (P ++ srt lt (X2 ++ Y2) ++ Q) := by
 have hbig : big = 1000000 := rfl
 have hl' := hl
 simp only [List.length_append] at hl'
 unfold Zdj
 rw [Z9r mid (by omega)]
 have e1 : IntKind.i64.wrap (IntKind.i64.wrap ((mid : Int) + m) - start) = (P.length : Int) + (X2.length : Int) := by
  rw [wr (n := (mid : Int) + m) (by omega) (by omega), wr (by omega) (by omega), h2]
 rw [e1]
 by_cases hc : 0 < X2.length ∧ 0 < Y2.length
 ·rw [decide_eq_true (by omega), decide_eq_true (by omega), Bool.and_true, cond_true, hR P X2 Y2 Q _ _ _ (by omega) rfl h3 hc.1 hc.2 hf hX hY hl]
  rfl
 ·have : (decide ((mid : Int) < (P.length : Int) + (X2.length : Int)) && decide ((P.length : Int) + (X2.length : Int) < b)) = false := by
   rw [Bool.and_eq_false_iff, decide_eq_false_iff_not, decide_eq_false_iff_not]
   by_cases h : 0 < X2.length
   ·exact .inr (fun h' => hc ⟨h, by omega⟩)
   ·exact .inl (by omega)
  rw [this, cond_false, Zzd hs hX hY hc]
  simp
theorem Y33 (hs : Swo lt) {f : Nat} {R : List Action → Int → Int → Int → (Action → Action → Option Int) → Option (List Action)} (hR : Zn3 lt cmp f R) (P X1 Y1 X2 Y2 Q : List Action) (mid : Nat) (a m start b : Int)
  (ha : a = (P.length : Int)) (h1 : mid = P.length + X1.length + Y1.length) (hs1 : start = (P.length : Int) + (X1.length : Int)) (hm : m = start + (X2.length : Int)) (h3 : b = (mid : Int) + (X2.length : Int) + (Y2.length : Int))
  (hf1 : X1.length + Y1.length ≤ f) (hf2 : X2.length + Y2.length ≤ f) (hX1 : Z12 lt X1) (hY1 : Z12 lt Y1) (hX2 : Z12 lt X2) (hY2 : Z12 lt Y2) (hl : (P ++ X1 ++ Y1 ++ X2 ++ Y2 ++ Q).length ≤ big) :
  Zav a start (BitVec.ofNat 64 mid) R cmp m b (P ++ X1 ++ Y1 ++ X2 ++ Y2 ++ Q) = some (P ++ srt lt (X1 ++ Y1) ++ srt lt (X2 ++ Y2) ++ Q) := by
 have hbig : big = 1000000 := rfl
 have hl' := hl
 simp only [List.length_append] at hl'
 have hlen : (srt lt (X1 ++ Y1)).length = X1.length + Y1.length := by rw [Z2q hs]; simp
 have last := Y3f hs hR (P ++ srt lt (X1 ++ Y1)) X2 Y2 Q mid m start b (by simp only [List.length_append, hlen]; omega) (by simp only [List.length_append, hlen]; omega) (by simp only [List.length_append, hlen]; omega) (by omega) (by omega) hf2 hX2 hY2 (by simp only [List.length_append, hlen]; omega)
 unfold Zav
 rw [Z9r mid (by omega)]
 by_cases hc : 0 < X1.length ∧ 0 < Y1.length
 ·have hr := hR P X1 Y1 (X2 ++ Y2 ++ Q) a start (mid : Int) ha hs1 (by omega) hc.1 hc.2 hf1 hX1 hY1 (by simp only [List.length_append]; omega)
  have e : P ++ X1 ++ Y1 ++ X2 ++ Y2 ++ Q = P ++ X1 ++ Y1 ++ (X2 ++ Y2 ++ Q) := by simp
  have e' : P ++ srt lt (X1 ++ Y1) ++ (X2 ++ Y2 ++ Q) = P ++ srt lt (X1 ++ Y1) ++ X2 ++ Y2 ++ Q := by simp
  rw [decide_eq_true (by omega), decide_eq_true (by omega), Bool.and_true, cond_true, e, hr, Option.bind_some, e', last]
 ·have hd : (decide (a < start) && decide (start < (mid : Int))) = false := by
   rw [Bool.and_eq_false_iff, decide_eq_false_iff_not, decide_eq_false_iff_not]
   by_cases h : 0 < X1.length
   ·exact .inr (fun h' => hc ⟨h, by omega⟩)
   ·exact .inl (by omega)
  rw [hd, cond_false]
  rw [Zzd hs hX1 hY1 hc] at last ⊢
  have e : P ++ X1 ++ Y1 ++ X2 ++ Y2 ++ Q = P ++ (X1 ++ Y1) ++ X2 ++ Y2 ++ Q := by simp
  rw [e, last]
theorem Zv0 (hs : Swo lt) (hc : Z52 lt cmp) {f : Nat} {R : List Action → Int → Int → Int → (Action → Action → Option Int) → Option (List Action)} (hR : Zn3 lt cmp f R) (P X Y Q : List Action) (mid lo hi : Nat)
  (hmid : mid = (P.length + (P.length + X.length + Y.length)) / 2) (h2 : 2 ≤ X.length) (h2' : 2 ≤ Y.length) (hf : X.length + Y.length ≤ f + 1) (hX : Z12 lt X) (hY : Z12 lt Y) (hl : (P ++ X ++ Y ++ Q).length ≤ big)
  (hlh : (mid < P.length + X.length ∧ lo + (P.length + X.length + Y.length) = mid + (P.length + X.length) ∧ hi = mid) ∨ (P.length + X.length ≤ mid ∧ lo = P.length ∧ hi = P.length + X.length)) :
  Zd6 (P ++ X ++ Y ++ Q) (BitVec.ofNat 64 mid) ((P.length : Int) + (X.length : Int)) cmp (P.length : Int) R ((P.length : Int) + (X.length : Int) + (Y.length : Int)) (lo : Int) (hi : Int) = some (P ++ srt lt (X ++ Y) ++ Q) := by
 have hbig : big = 1000000 := rfl
 have hl' := hl
 simp only [List.length_append] at hl'
 have hin : ∀ c, lo ≤ c → c < hi → P.length ≤ c ∧ c < P.length + X.length ∧ P.length + X.length ≤ mid + (P.length + X.length) - 1 - c ∧ mid + (P.length + X.length) - 1 - c < P.length + X.length + Y.length := fun c a b => by rcases hlh with h | h <;> omega
 let t : Nat → Bool := fun c => if h : (c - P.length < X.length ∧ (mid + (P.length + X.length) - 1 - c) - (P.length + X.length) < Y.length) then !lt (Y[(mid + (P.length + X.length) - 1 - c) - (P.length + X.length)]'h.2) (X[c - P.length]'h.1) else false
 have htv : ∀ c (h1 : c - P.length < X.length) (h2 : (mid + (P.length + X.length) - 1 - c) - (P.length + X.length) < Y.length), t c = !lt (Y[(mid + (P.length + X.length) - 1 - c) - (P.length + X.length)]'h2) (X[c - P.length]'h1) := fun c h1 h2 => by simp only [t]; rw [dif_pos ⟨h1, h2⟩]
 have hlohi : lo ≤ hi := by rcases hlh with h | h <;> omega
 obtain ⟨s, s1, s2, s3, s4⟩ := Zk2 t lo (hi - lo) fun c d h1 h2 h3 h4 => by
  have a1 := hin c h1 (by omega)
  have a2 := hin d (by omega) (by omega)
  rw [htv c (by omega) (by omega)] at h4
  rw [htv d (by omega) (by omega)]
  simp only [Bool.not_eq_false'] at h4 ⊢
  cases hd : lt (Y[(mid + (P.length + X.length) - 1 - d) - (P.length + X.length)]'(by omega)) (X[d - P.length]'(by omega))
  ·have b1 := Zaj hs hX (i := c - P.length) (j := d - P.length) (by omega) (by omega) (by omega)
   have b2 := Zaj hs hY (i := (mid + (P.length + X.length) - 1 - d) - (P.length + X.length)) (j := (mid + (P.length + X.length) - 1 - c) - (P.length + X.length)) (by omega) (by omega) (by omega)
   rw [hs.neg _ _ _ (hs.neg _ _ _ b2 hd) b1] at h4; cases h4
  ·rfl
 have e0 : lo + (hi - lo) = hi := by omega
 rw [e0] at s2 s4
 unfold Zd6
 have key := Zgm (Z7m (P ++ X ++ Y ++ Q) (BitVec.ofNat 64 mid) ((P.length : Int) + (X.length : Int)) cmp (P.length : Int) R ((P.length : Int) + (X.length : Int) + (Y.length : Int)))
  (fun start => bif ((decide (start < ((P.length : Int) + (X.length : Int)))) && (decide (((P.length : Int) + (X.length : Int)) < (IntKind.i64.wrap ((IntKind.i64.wrap ((IntKind.i64.wrap ((BitVec.ofNat 64 mid).toNat : Int)) + ((P.length : Int) + (X.length : Int)))) - start))))) then (Zeh (P ++ X ++ Y ++ Q) start ((P.length : Int) + (X.length : Int)) (IntKind.i64.wrap ((IntKind.i64.wrap ((IntKind.i64.wrap ((BitVec.ofNat 64 mid).toNat : Int)) + ((P.length : Int) + (X.length : Int)))) - start)) cmp).bind fun l59 => Zav (P.length : Int) start (BitVec.ofNat 64 mid) R cmp ((P.length : Int) + (X.length : Int)) ((P.length : Int) + (X.length : Int) + (Y.length : Int)) l59 else Zav (P.length : Int) start (BitVec.ofNat 64 mid) R cmp ((P.length : Int) + (X.length : Int)) ((P.length : Int) + (X.length : Int) + (Y.length : Int)) (P ++ X ++ Y ++ Q))
  t lo s hi
  (fun f i j h1 h2 h3 => by
   have a1 := hin ((i + j) / 2) (by omega) (by omega)
   obtain ⟨c, hc1, hc2⟩ := hc (Y[(mid + (P.length + X.length) - 1 - (i + j) / 2) - (P.length + X.length)]'(by omega)) (X[(i + j) / 2 - P.length]'(by omega))
   have gx : lget (P ++ X ++ Y ++ Q) (((i + j) / 2 : Nat) : Int) = some (X[(i + j) / 2 - P.length]'(by omega)) := by
    rw [List.append_assoc (P ++ X)]
    exact Zmd P X (Y ++ Q) _ a1.1 a1.2.1
   have ep : IntKind.i64.wrap (IntKind.i64.wrap (IntKind.i64.wrap ((mid : Int) + ((P.length : Int) + (X.length : Int))) - 1) - (((i + j) / 2 : Nat) : Int)) = ((mid + (P.length + X.length) - 1 - (i + j) / 2 : Nat) : Int) := by
    rw [wr (n := (mid : Int) + ((P.length : Int) + (X.length : Int))) (by omega) (by omega), wr (n := (mid : Int) + ((P.length : Int) + (X.length : Int)) - 1) (by omega) (by omega), wr (by omega) (by omega)]; omega
   have gy : lget (P ++ X ++ Y ++ Q) ((mid + (P.length + X.length) - 1 - (i + j) / 2 : Nat) : Int) = some (Y[(mid + (P.length + X.length) - 1 - (i + j) / 2) - (P.length + X.length)]'(by omega)) := by
    rw [Zmd (P ++ X) Y Q _ (by simp; omega) (by simp; omega)]
    simp
   have e1 : IntKind.i64.wrap ((((i + j) / 2 : Nat) : Int) + 1) = (((i + j) / 2 + 1 : Nat) : Int) := by rw [wr (by omega) (by omega)]; omega
   rw [Z7m, decide_eq_true (by omega), cond_true, Zlc _ (i + j) (by omega) (by omega), Option.bind_some, Z9r mid (by omega), Z9r ((i + j) / 2) (by omega), ep, gy, Option.bind_some, gx, Option.bind_some, hc1, Option.bind_some, hc2, htv _ (by omega) (by omega), e1])
  (fun f i h1 h2 => by rw [Z7m, decide_eq_false (by omega), cond_false]) s3 (fun c h1 h2 => s4 c h1 h2)
 rw [key _ _ _ (Nat.le_refl _) s1 s2 (Nat.le_refl _) (by omega)]
 have hsm : P.length ≤ s ∧ s ≤ P.length + X.length ∧ s ≤ mid ∧ mid + X.length ≤ s + (X.length + Y.length) := by rcases hlh with h | h <;> omega
 have hx : X = X.take (s - P.length) ++ X.drop (s - P.length) := (List.take_append_drop ..).symm
 have hy : Y = Y.take (mid - s) ++ Y.drop (mid - s) := (List.take_append_drop ..).symm
 have l1 : (X.take (s - P.length)).length = s - P.length := by simp; omega
 have l2 : (X.drop (s - P.length)).length = P.length + X.length - s := by simp; omega
 have l3 : (Y.take (mid - s)).length = mid - s := by simp; omega
 have l4 : (Y.drop (mid - s)).length = Y.length - (mid - s) := by simp
 have hX' := hX
 rw [hx] at hX'
 have hY' := hY
 rw [hy] at hY'
 have hx1 : ∀ x ∈ X.take (s - P.length), ∀ y ∈ Y.drop (mid - s), lt y x = false := fun x hxm y hym => by
  obtain ⟨i, hii, rfl⟩ := List.getElem_of_mem hxm
  obtain ⟨j, hj, rfl⟩ := List.getElem_of_mem hym
  rw [l1] at hii
  rw [l4] at hj
  have hc' : lo ≤ s - 1 := by rcases hlh with h | h <;> omega
  have a1 := hin (s - 1) hc' (by omega)
  have := s3 (s - 1) hc' (by omega)
  rw [htv _ (by omega) (by omega), Bool.not_eq_true'] at this
  rw [List.getElem_drop, List.getElem_take]
  have b1 := Zaj hs hX (i := i) (j := s - 1 - P.length) (by omega) (by omega) (by omega)
  have b2 := Zaj hs hY (i := (mid + (P.length + X.length) - 1 - (s - 1)) - (P.length + X.length)) (j := mid - s + j) (by omega) (by omega) (by omega)
  exact hs.neg _ _ _ (hs.neg _ _ _ b2 this) b1
 have hx2 : ∀ y ∈ Y.take (mid - s), ∀ x ∈ X.drop (s - P.length), lt y x = true := fun y hym x hxm => by
  obtain ⟨i, hii, rfl⟩ := List.getElem_of_mem hxm
  obtain ⟨j, hj, rfl⟩ := List.getElem_of_mem hym
  rw [l3] at hj
  rw [l2] at hii
  have hc' : s < hi := by rcases hlh with h | h <;> omega
  have a1 := hin s s1 hc'
  have := s4 s (Nat.le_refl _) hc'
  rw [htv _ (by omega) (by omega), Bool.not_eq_false'] at this
  rw [List.getElem_drop, List.getElem_take]
  have b1 := Zaj hs hX (i := s - P.length) (j := s - P.length + i) (by omega) (by omega) (by omega)
  have b2 := Zaj hs hY (i := j) (j := (mid + (P.length + X.length) - 1 - s) - (P.length + X.length)) (by omega) (by omega) (by omega)
  cases hd : lt (Y[j]'(by omega)) (X[s - P.length + i]'(by omega))
  ·rw [hs.neg _ _ _ (hs.neg _ _ _ b2 hd) b1] at this; cases this
  ·rfl
 have hsp := Zqz hs hX' hY' hx1 hx2
 rw [← hx, ← hy] at hsp
 rw [hsp]
 generalize X.take (s - P.length) = X1 at *
 generalize X.drop (s - P.length) = X2 at *
 generalize Y.take (mid - s) = Y1 at *
 generalize Y.drop (mid - s) = Y2 at *
 have last := Y33 hs hR P X1 Y1 X2 Y2 Q mid (P.length : Int) ((P.length : Int) + (X.length : Int)) (s : Int) ((P.length : Int) + (X.length : Int) + (Y.length : Int)) rfl (by omega) (by omega) (by omega) (by omega) (by omega) (by omega) (Zlj hX') (Zlj hY') (Zkt hX') (Zkt hY') (by simp only [List.length_append]; omega)
 have ee : IntKind.i64.wrap (IntKind.i64.wrap ((mid : Int) + ((P.length : Int) + (X.length : Int))) - (s : Int)) = ((P ++ X1 ++ X2 ++ Y1).length : Int) := by
  rw [wr (n := (mid : Int) + ((P.length : Int) + (X.length : Int))) (by omega) (by omega), wr (by omega) (by omega)]; simp only [List.length_append]; omega
 have eres : P ++ srt lt (X1 ++ Y1) ++ srt lt (X2 ++ Y2) ++ Q = P ++ (srt lt (X1 ++ Y1) ++ srt lt (X2 ++ Y2)) ++ Q := by simp
 rw [eres] at last
 show (bif _ then _ else _) = _
 rw [Z9r mid (by omega), ee]
 have hlen4 : (P ++ X1 ++ X2 ++ Y1).length = P.length + X1.length + X2.length + Y1.length := by simp only [List.length_append]
 by_cases hcc : 0 < X2.length ∧ 0 < Y1.length
 ·have eL : P ++ X ++ Y ++ Q = (P ++ X1) ++ X2 ++ Y1 ++ (Y2 ++ Q) := by rw [hx, hy]; simp
  have hr := Y78 cmp X2 Y1 (P ++ X1) (Y2 ++ Q) (s : Int) ((P.length : Int) + (X.length : Int)) ((P ++ X1 ++ X2 ++ Y1).length : Int) hcc.1 hcc.2 (by simp only [List.length_append]; omega) (by simp only [List.length_append]; omega) rfl (by simp only [List.length_append]; omega)
  have eR : (P ++ X1) ++ Y1 ++ X2 ++ (Y2 ++ Q) = P ++ X1 ++ Y1 ++ X2 ++ Y2 ++ Q := by simp
  rw [decide_eq_true (by omega), decide_eq_true (by omega), Bool.and_true, cond_true, eL, hr, Option.bind_some, eR, last]
 ·have hd : (decide ((s : Int) < (P.length : Int) + (X.length : Int)) && decide ((P.length : Int) + (X.length : Int) < ((P ++ X1 ++ X2 ++ Y1).length : Int))) = false := by
   rw [Bool.and_eq_false_iff, decide_eq_false_iff_not, decide_eq_false_iff_not]
   by_cases h : 0 < X2.length
   ·exact .inr (fun h' => hcc ⟨h, by omega⟩)
   ·exact .inl (by omega)
  have eL : P ++ X ++ Y ++ Q = P ++ X1 ++ Y1 ++ X2 ++ Y2 ++ Q := by
   rw [hx, hy]
   have : X2 = [] ∨ Y1 = [] := by
    rcases Nat.eq_zero_or_pos X2.length with h | h
    ·exact .inl (List.eq_nil_of_length_eq_zero h)
    ·rcases Nat.eq_zero_or_pos Y1.length with h' | h'
     ·exact .inr (List.eq_nil_of_length_eq_zero h')
     ·exact absurd ⟨h, h'⟩ hcc
   rcases this with h | h
   ·subst h; simp
   ·subst h; simp
  rw [hd, cond_false, eL, last]
theorem Zpb (hs : Swo lt) (hc : Z52 lt cmp) : ∀ f, Zn3 lt cmp f (Ze7 f)
 | 0 => fun P X Y Q a m b _ _ _ h1 h2 h3 => by omega
 | f + 1 => by
  intro P X Y Q a m b ha hm hb h1 h2 h3 hX hY hl
  subst ha hm hb
  have hbig : big = 1000000 := rfl
  have hl' := hl
  simp only [List.length_append] at hl'
  show Zih (Ze7 f) _ _ _ _ _ = _
  unfold Zih
  have e1 : IntKind.i64.wrap ((P.length : Int) + (X.length : Int) - (P.length : Int)) = (X.length : Int) := by rw [wr (by omega) (by omega)]; omega
  have e2 : IntKind.i64.wrap ((P.length : Int) + (X.length : Int) + (Y.length : Int) - ((P.length : Int) + (X.length : Int))) = (Y.length : Int) := by rw [wr (by omega) (by omega)]; omega
  rw [e1, e2]
  by_cases hx1 : X.length = 1
  ·obtain ⟨x, rfl⟩ : ∃ x, X = [x] := List.length_eq_one_iff.1 hx1
   have := Y4y hs hc x Y P Q hY (by simpa using hl)
   rw [decide_eq_true (by omega), cond_true]
   have e : P ++ [x] ++ Y ++ Q = P ++ x :: (Y ++ Q) := by simp
   have e4 : (P.length : Int) + ([x].length : Int) = ((P.length + 1 : Nat) : Int) := by simp
   have e5 : ((P.length + 1 : Nat) : Int) + (Y.length : Int) = ((P.length + 1 + Y.length : Nat) : Int) := by omega
   rw [e, e4, e5, this]; rfl
  ·rw [decide_eq_false (by omega), cond_false]
   by_cases hy1 : Y.length = 1
   ·obtain ⟨y, rfl⟩ : ∃ y, Y = [y] := List.length_eq_one_iff.1 hy1
    have := Y20 hs hc y X P Q hX (by simpa using hl)
    rw [decide_eq_true (by omega), cond_true]
    have e : P ++ X ++ [y] ++ Q = P ++ X ++ y :: Q := by simp
    have e4 : (P.length : Int) + (X.length : Int) = ((P.length + X.length : Nat) : Int) := by omega
    rw [e, e4, this]
   ·rw [decide_eq_false (by omega), cond_false, Zlc _ (P.length + (P.length + X.length + Y.length)) (by omega) (by omega), Option.bind_some, Z9r _ (by omega)]
    by_cases hmm : (P.length + (P.length + X.length + Y.length)) / 2 < P.length + X.length
    ·rw [decide_eq_true (by omega), cond_true]
     have e3 : IntKind.i64.wrap (IntKind.i64.wrap ((((P.length + (P.length + X.length + Y.length)) / 2 : Nat) : Int) + ((P.length : Int) + (X.length : Int))) - ((P.length : Int) + (X.length : Int) + (Y.length : Int))) = (((P.length + (P.length + X.length + Y.length)) / 2 + (P.length + X.length) - (P.length + X.length + Y.length) : Nat) : Int) := by
      rw [wr (n := (((P.length + (P.length + X.length + Y.length)) / 2 : Nat) : Int) + ((P.length : Int) + (X.length : Int))) (by omega) (by omega), wr (by omega) (by omega)]; omega
     rw [e3]
     exact Zv0 hs hc (Zpb hs hc f) P X Y Q _ _ _ rfl (by omega) (by omega) (by omega) hX hY hl (.inl ⟨hmm, by omega, rfl⟩)
    ·rw [decide_eq_false (by omega), cond_false]
     have e4 : (P.length : Int) + (X.length : Int) = ((P.length + X.length : Nat) : Int) := by omega
     have := Zv0 hs hc (Zpb hs hc f) P X Y Q _ P.length (P.length + X.length) rfl (by omega) (by omega) (by omega) hX hY hl (.inr ⟨by omega, rfl, rfl⟩)
     rw [← e4] at this
     exact this
theorem Zrx (hs : Swo lt) (hc : Z52 lt cmp) (P X Y Q : List Action) (a m b : Int) (ha : a = (P.length : Int)) (hm : m = (P.length : Int) + (X.length : Int)) (hb : b = (P.length : Int) + (X.length : Int) + (Y.length : Int)) (h1 : 0 < X.length) (h2 : 0 < Y.length) (hX : Z12 lt X) (hY : Z12 lt Y) (hl : (P ++ X ++ Y ++ Q).length ≤ big) :
  Zk1 (P ++ X ++ Y ++ Q) a m b cmp = some (P ++ srt lt (X ++ Y) ++ Q) :=
 Zpb hs hc Z0x P X Y Q a m b ha hm hb h1 h2 (by have hbig : big = 1000000 := rfl; simp only [List.length_append] at hl; unfold Z0x; omega) hX hY hl
end sym
end Go.Proofs.YtknpgojdkobgjaaGreat.W
namespace Go.Proofs.YtknpgojdkobgjaaGreat.W
open Go Go.Wb
section ins
variable {lt : Action → Action → Bool} {cmp : Action → Action → Option Int}
theorem Zv5 (hc : Z52 lt cmp) (go : List Action → Int → Option (List Action)) (i : Int) (P : List Action) (x : Action) : ∀ (R S : List Action) (m : Nat), R.length < m → (P ++ R.reverse ++ x :: S).length ≤ big →
  Z8k (P.length : Int) cmp go i m (P ++ R.reverse ++ x :: S) ((P.length + R.length : Nat) : Int) = go (P ++ (Z0s lt x R).reverse ++ S) (IntKind.i64.wrap (i + 1))
 | [], S, m, h, _ => by
  obtain ⟨m, rfl⟩ : ∃ k, m = k + 1 := ⟨m - 1, by simp at h; omega⟩
  rw [Z8k, decide_eq_false (by simp)]
  simp [opt, Z0s]
 | y :: R, S, m, h, hl => by
  have hbig : big = 1000000 := rfl
  simp only [List.length_cons, List.length_append, List.length_reverse] at h hl
  obtain ⟨m, rfl⟩ : ∃ k, m = k + 1 := ⟨m - 1, by omega⟩
  have e0 : P ++ (y :: R).reverse ++ x :: S = (P ++ R.reverse) ++ y :: (x :: S) := by simp
  have ej : IntKind.i64.wrap (((P.length + (y :: R).length : Nat) : Int) - 1) = ((P.length + R.length : Nat) : Int) := by rw [wr (by simp only [List.length_cons]; omega) (by simp only [List.length_cons]; omega)]; simp only [List.length_cons]; omega
  have g1 : ∀ a b : Action, lget ((P ++ R.reverse) ++ a :: (b :: S)) ((P.length + (y :: R).length : Nat) : Int) = some b := fun a b => by
   have : (P ++ R.reverse) ++ a :: (b :: S) = (P ++ R.reverse ++ [a]) ++ b :: S := by simp
   rw [this]; exact Z4j _ _ _ _ (by simp)
  have g0 : ∀ a b : Action, lget ((P ++ R.reverse) ++ a :: (b :: S)) ((P.length + R.length : Nat) : Int) = some a := fun a b => Z4j _ _ _ _ (by simp)
  have s1 : ∀ a b c : Action, List.set ((P ++ R.reverse) ++ a :: (b :: S)) (((P.length + (y :: R).length : Nat) : Int)).toNat c = (P ++ R.reverse) ++ a :: (c :: S) := fun a b c => by
   have : (P ++ R.reverse) ++ a :: (b :: S) = (P ++ R.reverse ++ [a]) ++ b :: S := by simp
   rw [this, Int.toNat_natCast, Z6v _ _ _ _ _ (by simp)]; simp
  have s0 : ∀ a b c : Action, List.set ((P ++ R.reverse) ++ a :: (b :: S)) (((P.length + R.length : Nat) : Int)).toNat c = (P ++ R.reverse) ++ c :: (b :: S) := fun a b c => by
   rw [Int.toNat_natCast, Z6v _ _ _ _ _ (by simp)]
  obtain ⟨c, hc1, hc2⟩ := hc x y
  rw [e0, Z8k, decide_eq_true (by simp only [List.length_cons]; omega), Z47, g1, Option.bind_some, Z47, ej, g0, Option.bind_some, Z47, hc1, Option.bind_some, Bool.true_and, hc2, Z0s]
  cases lt x y
  ·rw [cond_false, cond_false]
   simp
  ·rw [cond_true, cond_true, Option.bind_some, Option.bind_some, Option.bind_some, s1, g0, Option.bind_some, s0, Zv5 hc go i P x R (y :: S) m (by omega) (by simp only [List.length_append, List.length_cons, List.length_reverse]; omega)]
   simp
theorem Zo5 (x : Action) (R : List Action) : (Z0s lt x R).length = R.length + 1 := by
 induction R with
 | nil => rfl
 | cons y R ih => rw [Z0s]; cases lt x y <;> simp [ih]
theorem Zz3 (hc : Z52 lt cmp) (P Q : List Action) : ∀ (T R : List Action) (m : Nat), T.length < m → (P ++ R.reverse ++ T ++ Q).length ≤ big →
  Z6n ((P.length + R.length + T.length : Nat) : Int) (P.length : Int) cmp m (P ++ R.reverse ++ T ++ Q) ((P.length + R.length : Nat) : Int) = some (P ++ (T.foldl (fun R x => Z0s lt x R) R).reverse ++ Q)
 | [], R, m, h, _ => by
  obtain ⟨m, rfl⟩ : ∃ k, m = k + 1 := ⟨m - 1, by simp at h; omega⟩
  rw [Z6n, decide_eq_false (by simp), cond_false]
  simp
 | x :: T, R, m, h, h2 => by
  have hbig : big = 1000000 := rfl
  simp only [List.length_cons, List.length_append, List.length_reverse] at h h2
  obtain ⟨m, rfl⟩ : ∃ k, m = k + 1 := ⟨m - 1, by omega⟩
  have e : IntKind.i64.wrap (((P.length + R.length : Nat) : Int) + 1) = ((P.length + (Z0s lt x R).length : Nat) : Int) := by rw [Zo5, wr (by omega) (by omega)]; omega
  have hn : P.length + R.length + (x :: T).length = P.length + (Z0s lt x R).length + T.length := by rw [Zo5, List.length_cons]; omega
  have e0 : P ++ R.reverse ++ x :: T ++ Q = P ++ R.reverse ++ x :: (T ++ Q) := by simp
  rw [Z6n, decide_eq_true (by simp only [List.length_cons]; omega), cond_true, e0, Zv5 hc _ _ P x R (T ++ Q) Z0x (by unfold Z0x; omega) (by simp only [List.length_append, List.length_cons, List.length_reverse]; omega), e, hn,
   ← List.append_assoc, Zz3 hc P Q T (Z0s lt x R) m (by omega) (by simp only [List.length_append, List.length_reverse, Zo5]; omega), List.foldl_cons]
theorem Zs5 (hc : Z52 lt cmp) (P L Q : List Action) (a b : Int) (ha : a = (P.length : Int)) (hb : b = (P.length : Int) + (L.length : Int)) (h : (P ++ L ++ Q).length ≤ big) : Zez (P ++ L ++ Q) a b cmp = some (P ++ srt lt L ++ Q) := by
 subst ha hb
 have hbig : big = 1000000 := rfl
 have h' := h
 simp only [List.length_append] at h'
 unfold Zez srt
 cases L with
 | nil =>
  rw [wr (by omega) (by omega)]
  obtain ⟨m, hm⟩ : ∃ m, (((P.length : Int) + (([] : List Action).length : Int)) - ((P.length : Int) + 1)).toNat + 1 = m + 1 := ⟨_, rfl⟩
  rw [hm, Z6n, decide_eq_false (by simp only [List.length_nil]; omega), cond_false]
  rfl
 | cons x L =>
  simp only [List.length_cons] at h'
  have := Zz3 hc P Q L [x] ((((P.length : Int) + ((x :: L).length : Int)) - ((P.length : Int) + 1)).toNat + 1) (by simp only [List.length_cons]; omega) (by simp only [List.length_append, List.length_reverse, List.length_cons, List.length_nil]; omega)
  have e1 : ((P.length + [x].length + L.length : Nat) : Int) = (P.length : Int) + ((x :: L).length : Int) := by simp; omega
  have e2 : ((P.length + [x].length : Nat) : Int) = (P.length : Int) + 1 := by simp
  have e3 : P ++ [x].reverse ++ L ++ Q = P ++ x :: L ++ Q := by simp
  rw [e1, e2, e3] at this
  rw [wr (by omega) (by omega), this]
  rfl
end ins
end Go.Proofs.YtknpgojdkobgjaaGreat.W
namespace Go.Proofs.YtknpgojdkobgjaaGreat.W
open Go Go.Wb
section stable
variable {lt : Action → Action → Bool} {cmp : Action → Action → Option Int}
def Z48 (lt : Action → Action → Bool) (s : Nat) (L : List Action) : List Action :=
 if h : s = 0 ∨ L.length < s then srt lt L else srt lt (L.take s) ++ Z48 lt s (L.drop s)
termination_by L.length
decreasing_by simp; omega
theorem Zcp {s : Nat} {L : List Action} (h : L.length < s) : Z48 lt s L = srt lt L := by rw [Z48, dif_pos (.inr h)]
theorem Zbn {s : Nat} {A L : List Action} (hA : A.length = s) (h0 : 0 < s) : Z48 lt s (A ++ L) = srt lt A ++ Z48 lt s L := by
 subst hA
 rw [Z48, dif_neg (by rw [List.length_append]; omega), List.take_left, List.drop_left]
theorem Y4p : srt lt ([] : List Action) = [] := rfl
theorem Zv7 {s : Nat} {L : List Action} (h : L.length ≤ s) (h0 : 0 < s) : Z48 lt s L = srt lt L := by
 rcases Nat.lt_or_eq_of_le h with h1 | h1
 ·exact Zcp h1
 ·have := Zbn (lt := lt) (L := []) h1 h0
  have e : Z48 lt s [] = srt lt [] := Zcp (by simpa using h0)
  rw [List.append_nil, e, Y4p, List.append_nil] at this
  exact this
theorem Zy0 (hs : Swo lt) (s : Nat) (h0 : 0 < s) : ∀ (n : Nat) (L : List Action), L.length ≤ n → (Z48 lt s L).length = L.length
 | 0, L, h => by rw [Zcp (by omega), Z2q hs]
 | n + 1, L, h => by
  by_cases hl : L.length < s
  ·rw [Zcp hl, Z2q hs]
  ·have e : L = L.take s ++ L.drop s := (List.take_append_drop ..).symm
   have h1 : (L.take s).length = s := by simp; omega
   rw [e, Zbn h1 h0, List.length_append, Z2q hs, Zy0 hs s h0 n (L.drop s) (by simp; omega), List.length_append]
theorem Ztu (hs : Swo lt) (hc : Z52 lt cmp) (n : Nat) : ∀ (k : Nat) (D L : List Action) (f : Nat), L.length ≤ k → D.length + L.length = n → n ≤ 100000 → L.length < f * 20 →
  Zam (n : Int) cmp f (D ++ L) (D.length : Int) ((D.length + 20 : Nat) : Int) = Z7n (n : Int) cmp (((n : Int) - 20).toNat + 1) (D ++ Z48 lt 20 L) 20
 | k, D, L, 0, _, _, _, h => by omega
 | k, D, L, f + 1, hk, hn, hb, hf => by
  have hbig : big = 1000000 := rfl
  rw [Zam]
  by_cases hl : L.length < 20
  ·have := Zs5 hc D L [] (D.length : Int) (n : Int) rfl (by omega) (by simp only [List.length_append, List.length_nil]; omega)
   simp only [List.append_nil] at this
   rw [decide_eq_false (by omega), cond_false, this, Option.bind_some, Zcp hl]
  ·obtain ⟨k, rfl⟩ : ∃ j, k = j + 1 := ⟨k - 1, by omega⟩
   have e : L = L.take 20 ++ L.drop 20 := (List.take_append_drop ..).symm
   have h1 : (L.take 20).length = 20 := by simp; omega
   have h2 : (L.drop 20).length = L.length - 20 := by simp
   generalize L.take 20 = A at *
   generalize L.drop 20 = B at *
   subst e
   have := Zs5 hc D A B (D.length : Int) ((D.length + 20 : Nat) : Int) rfl (by omega) (by simp only [List.length_append] at hn ⊢; omega)
   have e20 : IntKind.i64.wrap (((D.length + 20 : Nat) : Int) + 20) = (((D ++ srt lt A).length + 20 : Nat) : Int) := by rw [wr (by omega) (by omega), List.length_append, Z2q hs]; omega
   have e21 : ((D.length + 20 : Nat) : Int) = ((D ++ srt lt A).length : Int) := by rw [List.length_append, Z2q hs]; omega
   simp only [List.length_append] at hn hl hf hk
   rw [decide_eq_true (by omega), cond_true, ← List.append_assoc, this, Option.bind_some, e20, e21,
    Ztu hs hc n k (D ++ srt lt A) B f (by omega) (by simp only [List.length_append, Z2q hs]; omega) hb (by omega), Zbn h1 (by omega)]
   simp
theorem Zyo (hs : Swo lt) (hc : Z52 lt cmp) (go : List Action → Int → Option (List Action)) (n s : Nat) (hs0 : 0 < s) (hs1 : s ≤ 100000) : ∀ (k : Nat) (D L : List Action) (f : Nat), L.length ≤ k → D.length + L.length = n → n ≤ 100000 → L.length < f * (2 * s) →
  Zal (n : Int) (s : Int) cmp go f (D ++ Z48 lt s L) (D.length : Int) ((D.length + 2 * s : Nat) : Int) = go (D ++ Z48 lt (2 * s) L) ((2 * s : Nat) : Int)
 | k, D, L, 0, _, _, _, h => by omega
 | k, D, L, f + 1, hk, hn, hb, hf => by
  have hbig : big = 1000000 := rfl
  rw [Zal]
  have em : IntKind.i64.wrap ((D.length : Int) + (s : Int)) = ((D.length + s : Nat) : Int) := by rw [wr (by omega) (by omega)]; omega
  have eg : IntKind.i64.wrap ((s : Int) * 2) = ((2 * s : Nat) : Int) := by rw [wr (by omega) (by omega)]; omega
  by_cases hl : L.length < 2 * s
  ·rw [decide_eq_false (by omega), cond_false, em, eg, Zcp hl]
   by_cases hl2 : s < L.length
   ·have e : L = L.take s ++ L.drop s := (List.take_append_drop ..).symm
    have h1 : (L.take s).length = s := by simp; omega
    have h2 : (L.drop s).length = L.length - s := by simp
    generalize L.take s = A at *
    generalize L.drop s = B at *
    subst e
    simp only [List.length_append] at hn hl hl2
    rw [Zbn h1 hs0, Zcp (by omega)]
    have := Zrx hs hc D (srt lt A) (srt lt B) [] (D.length : Int) ((D.length + s : Nat) : Int) (n : Int) rfl (by rw [Z2q hs]; omega) (by rw [Z2q hs, Z2q hs]; omega) (by rw [Z2q hs]; omega) (by rw [Z2q hs]; omega) (Z8y hs _) (Z8y hs _)
     (by simp only [List.length_append, Z2q hs, List.length_nil]; omega)
    simp only [List.append_nil, List.append_assoc] at this
    rw [decide_eq_true (by omega), cond_true, this, Option.bind_some, Zx1 hs]
   ·rw [decide_eq_false (by omega), cond_false, Zv7 (by omega) hs0]
  ·obtain ⟨k, rfl⟩ : ∃ j, k = j + 1 := ⟨k - 1, by omega⟩
   have e : L = L.take s ++ ((L.drop s).take s ++ (L.drop s).drop s) := by rw [List.take_append_drop, List.take_append_drop]
   have h1 : (L.take s).length = s := by simp; omega
   have h2 : ((L.drop s).take s).length = s := by simp; omega
   have h3 : ((L.drop s).drop s).length = L.length - 2 * s := by simp; omega
   generalize L.take s = A at *
   generalize (L.drop s).take s = B at *
   generalize (L.drop s).drop s = E at *
   subst e
   simp only [List.length_append] at hn hl hk hf
   have hf' : E.length < f * (2 * s) := by rw [Nat.add_mul] at hf; omega
   have hE := Zy0 hs s hs0 E.length E (Nat.le_refl _)
   have := Zrx hs hc D (srt lt A) (srt lt B) (Z48 lt s E) (D.length : Int) ((D.length + s : Nat) : Int) ((D.length + 2 * s : Nat) : Int) rfl (by rw [Z2q hs]; omega) (by rw [Z2q hs, Z2q hs]; omega) (by rw [Z2q hs]; omega) (by rw [Z2q hs]; omega) (Z8y hs _) (Z8y hs _)
    (by simp only [List.length_append, Z2q hs, hE]; omega)
   have e2 : D ++ Z48 lt s (A ++ (B ++ E)) = D ++ srt lt A ++ srt lt B ++ Z48 lt s E := by rw [Zbn h1 hs0, Zbn h2 hs0]; simp
   have e3 : IntKind.i64.wrap (((D.length + 2 * s : Nat) : Int) + IntKind.i64.wrap (2 * (s : Int))) = (((D ++ srt lt (A ++ B)).length + 2 * s : Nat) : Int) := by
    rw [wr (n := 2 * (s : Int)) (by omega) (by omega), wr (by omega) (by omega), List.length_append, Z2q hs, List.length_append]; omega
   have e4 : ((D.length + 2 * s : Nat) : Int) = ((D ++ srt lt (A ++ B)).length : Int) := by rw [List.length_append, Z2q hs, List.length_append]; omega
   rw [decide_eq_true (by omega), cond_true, em, e2, this, Option.bind_some, Zx1 hs, e3, e4,
    Zyo hs hc go n s hs0 hs1 k (D ++ srt lt (A ++ B)) E f (by omega) (by simp only [List.length_append, Z2q hs]; omega) hb hf']
   have e5 : A ++ (B ++ E) = (A ++ B) ++ E := by simp
   rw [e5, Zbn (by simp; omega) (by omega)]
   simp
theorem Zz5 (hs : Swo lt) (hc : Z52 lt cmp) (L : List Action) (hb : L.length ≤ 100000) : ∀ (f s : Nat), 0 < f → 0 < s → s ≤ 200000 → L.length < f + s →
  Z7n (L.length : Int) cmp f (Z48 lt s L) (s : Int) = some (srt lt L)
 | 0, s, hf, h0, h1, h2 => by omega
 | f + 1, s, hf, h0, h1, h2 => by
  rw [Z7n]
  by_cases hl : s < L.length
  ·have e2 : IntKind.i64.wrap (2 * (s : Int)) = ((2 * s : Nat) : Int) := by rw [wr (by omega) (by omega)]; omega
   have := Zyo hs hc (Z7n (L.length : Int) cmp f) L.length s h0 (by omega) L.length [] L ((((L.length : Int) : Int) - ((2 * s : Nat) : Int)).toNat + 2) (Nat.le_refl _) (by simp) hb (by
    have h3 : L.length < (L.length - 2 * s + 2) * (2 * s) := by
     have : L.length - 2 * s + 2 ≤ (L.length - 2 * s + 2) * (2 * s) := Nat.le_mul_of_pos_right _ (by omega)
     by_cases hc : L.length < 2 * s
     ·have : 2 * (2 * s) ≤ (L.length - 2 * s + 2) * (2 * s) := Nat.mul_le_mul_right _ (by omega)
      omega
     ·have e : (L.length - 2 * s + 2) * (2 * s) = (L.length - 2 * s + 1) * (2 * s) + 2 * s := by rw [show L.length - 2 * s + 2 = (L.length - 2 * s + 1) + 1 from rfl, Nat.add_mul, Nat.one_mul]
      have : L.length - 2 * s + 1 ≤ (L.length - 2 * s + 1) * (2 * s) := Nat.le_mul_of_pos_right _ (by omega)
      omega
    have e : (((L.length : Int) : Int) - ((2 * s : Nat) : Int)).toNat + 2 = L.length - 2 * s + 2 := by omega
    rw [e]; exact h3)
   simp only [List.nil_append, List.length_nil, Nat.zero_add] at this
   rw [decide_eq_true (by omega), cond_true, e2]
   have e0 : ((0 : Nat) : Int) = 0 := rfl
   rw [e0] at this
   rw [this, Zz5 hs hc L hb f (2 * s) (by omega) (by omega) (by omega) (by omega)]
  ·rw [decide_eq_false (by omega), cond_false, Zv7 (by omega) h0]
theorem Ycg (hs : Swo lt) (hc : Z52 lt cmp) (L : List Action) (hb : L.length ≤ 100000) : Zg8 L cmp = some (srt lt L) := by
 unfold Zg8 Zku
 have h1 := Ztu hs hc L.length L.length [] L ((((L.length : Int) : Int) - 20).toNat + 2) (Nat.le_refl _) (by simp) hb (by omega)
 have h2 := Zz5 hs hc L hb ((((L.length : Int) : Int) - 20).toNat + 1) 20 (by omega) (by omega) (by omega) (by omega)
 simp only [List.nil_append, List.length_nil, Nat.zero_add] at h1
 have e0 : ((0 : Nat) : Int) = 0 := rfl
 have e20 : ((20 : Nat) : Int) = 20 := rfl
 rw [e0, e20] at h1
 rw [e20] at h2
 rw [h1, h2]; rfl
end stable
end Go.Proofs.YtknpgojdkobgjaaGreat.W
namespace Go.Proofs.YtknpgojdkobgjaaGreat.W
open Go Go.Wb
def Z2c (a b : Wide) : Wide := ⟨a.Hi &&& b.Hi, a.Lo &&& b.Lo⟩
def wor (a b : Wide) : Wide := ⟨a.Hi ||| b.Hi, a.Lo ||| b.Lo⟩
def Z6o (a b : Wide) : Wide := ⟨a.Hi ^^^ b.Hi, a.Lo ^^^ b.Lo⟩
def Z3p (a b : Wide) : Wide := ⟨a.Hi &&& ~~~b.Hi, a.Lo &&& ~~~b.Lo⟩
def wt (a : Wide) (i : Nat) : Bool := bif Nat.blt i 64 then a.Lo.getLsbD i else a.Hi.getLsbD (i - 64)
def Z3y (i : Nat) : Wide := bif Nat.blt i 64 then ⟨0, 1#64 <<< i⟩ else ⟨1#64 <<< (i - 64), 0⟩
theorem Z8p {i n : Nat} (h : i < n) : Nat.blt i n = true := by simpa using h
theorem Z8m {i n : Nat} (h : ¬ i < n) : Nat.blt i n = false := by
 cases hb : Nat.blt i n
 ·rfl
 ·exact absurd (by simpa using hb) h
theorem Zlp {a b : Wide} (h : ∀ i, i < 128 → wt a i = wt b i) : a = b := by
 obtain ⟨ah, al⟩ := a
 obtain ⟨bh, bl⟩ := b
 have h1 : ah = bh := BitVec.eq_of_getLsbD_eq fun i hi => by
  have := h (i + 64) (by omega)
  unfold wt at this
  rw [Z8m (by omega)] at this
  simpa using this
 have h2 : al = bl := BitVec.eq_of_getLsbD_eq fun i hi => by
  have := h i (by omega)
  unfold wt at this
  rw [Z8p (by omega)] at this
  simpa using this
 rw [h1, h2]
theorem Zco (a b : Wide) (i : Nat) : wt (Z2c a b) i = (wt a i && wt b i) := by
 unfold wt Z2c
 cases Nat.blt i 64 <;> simp
theorem Ztq (a b : Wide) (i : Nat) : wt (wor a b) i = (wt a i || wt b i) := by
 unfold wt wor
 cases Nat.blt i 64 <;> simp
theorem Zog (a b : Wide) (i : Nat) : wt (Z6o a b) i = (wt a i != wt b i) := by
 unfold wt Z6o
 cases Nat.blt i 64 <;> simp
theorem Y3l (a b : Wide) (i : Nat) (h : i < 128) : wt (Z3p a b) i = (wt a i && !wt b i) := by
 unfold wt Z3p
 by_cases hi : i < 64
 ·rw [Z8p hi]; simp [hi]
 ·rw [Z8m hi]; simp [show i - 64 < 64 by omega]
theorem Zhs (i : Nat) : wt Z05 i = false := by
 unfold wt Z05
 cases Nat.blt i 64 <;> simp
theorem Ztb (i j : Nat) (hi : i < 128) (hj : j < 128) : wt (Z3y i) j = decide (i = j) := by
 unfold wt Z3y
 by_cases h1 : i < 64
 ·rw [Z8p h1, cond_true]
  by_cases h2 : j < 64
  ·rw [Z8p h2, cond_true, BitVec.getLsbD_shiftLeft]
   by_cases e : i = j
   ·subst e; simp [h2]
   ·simp [h2, e, BitVec.getLsbD_one]; omega
  ·rw [Z8m h2, cond_false]
   have : i ≠ j := by omega
   simp [this]
 ·rw [Z8m h1, cond_false]
  by_cases h2 : j < 64
  ·rw [Z8p h2, cond_true]
   have : i ≠ j := by omega
   simp [this]
  ·rw [Z8m h2, cond_false, BitVec.getLsbD_shiftLeft]
   by_cases e : i = j
   ·subst e; simp [show i - 64 < 64 by omega]
   ·simp [show j - 64 < 64 by omega, e, BitVec.getLsbD_one]; omega
def Z3q (a : Wide) : Bool := decide ((a.Hi ||| a.Lo) = (0 : BitVec 64))
theorem Zhq (a : Wide) : Z3q a = true ↔ ∀ i, i < 128 → wt a i = false := by
 unfold Z3q
 rw [decide_eq_true_eq]
 constructor
 ·intro h i hi
  have hb : ∀ j, (a.Hi.getLsbD j || a.Lo.getLsbD j) = false := fun j => by rw [← BitVec.getLsbD_or, h]; simp
  unfold wt
  by_cases h1 : i < 64
  ·rw [Z8p h1, cond_true]
   have := hb i
   simp only [Bool.or_eq_false_iff] at this
   exact this.2
  ·rw [Z8m h1, cond_false]
   have := hb (i - 64)
   simp only [Bool.or_eq_false_iff] at this
   exact this.1
 ·intro h
  apply BitVec.eq_of_getLsbD_eq
  intro j hj
  have h1 := h j (by omega)
  have h2 := h (j + 64) (by omega)
  unfold wt at h1 h2
  rw [Z8p hj] at h1
  rw [Z8m (by omega)] at h2
  simp at h1 h2
  simp [h1, h2]
theorem Y27 (a : Wide) : Z3q a = decide (a = Z05) := by
 rw [Bool.eq_iff_iff, Zhq, decide_eq_true_eq]
 constructor
 ·intro h
  exact Zlp fun i hi => by rw [h i hi, Zhs]
 ·rintro rfl i _
  exact Zhs i
theorem Y6w {a : Wide} : Z3q a = false ↔ ∃ i, i < 128 ∧ wt a i = true := by
 rw [← Bool.not_eq_true, Zhq]
 constructor
 ·intro h
  apply Classical.byContradiction
  intro hn
  exact h fun i hi => by
   cases hw : wt a i
   ·rfl
   ·exact absurd ⟨i, hi, hw⟩ hn
 ·rintro ⟨i, hi, hw⟩ h
  rw [h i hi] at hw; cases hw
theorem Zzf (a : Wide) (i : Nat) (h : i < 128) : (!Z3q (Z2c a (Z3y i))) = wt a i := by
 cases hw : wt a i
 ·have : Z3q (Z2c a (Z3y i)) = true := by
   rw [Zhq]
   intro j hj
   rw [Zco, Ztb i j h hj]
   by_cases e : i = j
   ·subst e; rw [hw]; rfl
   ·simp [e]
  rw [this]; rfl
 ·have : Z3q (Z2c a (Z3y i)) = false := by
   rw [Y6w]
   exact ⟨i, h, by rw [Zco, Ztb i i h h, hw]; simp⟩
  rw [this]; rfl
theorem Zko (x : BitVec 64) (n : Nat) : Z9h x (n : Int) = some (x <<< n) := by
 unfold Z9h
 rw [decide_eq_false (by omega)]
 simp
theorem Y37 (x : BitVec 64) (n : Nat) : Z33 x (n : Int) = some (x >>> n) := by
 unfold Z33
 rw [decide_eq_false (by omega)]
 simp
theorem Y2p (a b : Wide) : Zb5 a b = some (Z2c a b) := rfl
theorem Zsh (a b : Wide) : Z7s a b = some (wor a b) := rfl
theorem Zne (a b : Wide) : Za5 a b = some (Z3p a b) := rfl
theorem Zqw (i : Nat) (h : i < 128) : Za8 (i : Int) = some (Z3y i) := by
 unfold Za8
 have h1 : (decide ((i : Int) < 0) || decide ((i : Int) > 127)) = false := by simp; omega
 have hq : Zf3 .i64 (i : Int) 64 = some ((i / 64 : Nat) : Int) := by
  unfold Zf3
  rw [decide_eq_false (by decide)]
  show some (IntKind.i64.wrap ((i / 64 : Nat) : Int)) = _
  rw [Z2a (by omega) (by omega)]
 have hm : Zbz (i : Int) 64 = some ((i % 64 : Nat) : Int) := Y8v i 64 (by omega)
 rw [h1, cond_false, hq, Option.bind_some, hm, Option.bind_some, Zko, Option.bind_some, Z24 (by omega), Option.bind_some]
 unfold Z3y
 by_cases h2 : i < 64
 ·rw [Z8p h2, cond_true]
  have e1 : i / 64 = 0 := by omega
  have e2 : i % 64 = i := by omega
  simp only [e1, e2]
  rfl
 ·rw [Z8m h2, cond_false]
  have e1 : i / 64 = 1 := by omega
  have e2 : i % 64 = i - 64 := by omega
  simp only [e1, e2]
  rfl
abbrev Cube := Vector Tern 24
abbrev Header := Vector Wide 24
def Z19 (t : Tern) : Tern := ⟨Z2c t.Value t.Mask, t.Mask⟩
theorem Zkg (t : Tern) : Z5f t = some (Z19 t) := rfl
def Z17 (c : Cube) : Cube := Vector.ofFn fun i => Z19 (ve c i.1)
theorem Zgj (c : Cube) (i : Nat) (h : i < 24) : ve (Z17 c) i = Z19 (ve c i) := Zb2 (fun i => Z19 (ve c i)) i h
theorem Yda (t : Tern) : Z19 (Z19 t) = Z19 t := by
 unfold Z19
 congr 1
 exact Zlp fun i hi => by simp only [Zco]; cases wt t.Value i <;> cases wt t.Mask i <;> rfl
def Z37 (a b : Tern) : Tern := ⟨wor (Z3p (Z19 a).Value b.Mask) (Z19 b).Value, wor a.Mask b.Mask⟩
theorem Zvq (a b : Tern) : Zi5 a b = some (Z37 a b) := rfl
def Zaf (a b : Cube) : Cube := Vector.ofFn fun i => Z37 (ve a i.1) (ve b i.1)
theorem Zrr (a b : Cube) (i : Nat) (h : i < 24) : ve (Zaf a b) i = Z37 (ve a i) (ve b i) := Zb2 (fun i => Z37 (ve a i) (ve b i)) i h
theorem Zsu (f : Int → Option Tern) (g : Nat → Tern) (hf : ∀ i : Nat, i < 24 → f (i : Int) = some (g i)) (b : Cube) : ∀ (m i : Nat), i + m = 24 → Z67 f m i (Z2t g b i) = some (Vector.ofFn (fun i => g i.1))
 | 0, i, h => by
  have : i = 24 := by omega
  subst this
  rw [Z67, Z8r]
 | m + 1, i, h => by
  rw [Z67, hf i (by omega), Option.bind_some, Z24 (by omega), Option.bind_some]
  show Z67 f m (i + 1) (Vector.set (Z2t g b i) i (g i) _) = _
  rw [Z8b g b i (by omega), Zsu f g hf b m (i + 1) (by omega)]
theorem Zvl (f : Int → Option Tern) (g : Nat → Tern) (hf : ∀ i : Nat, i < 24 → f (i : Int) = some (g i)) : Zed f = some (Vector.ofFn (fun i => g i.1)) := by
 unfold Zed
 have := Zsu f g hf (Vector.replicate 24 zTern) 24 0 rfl
 rw [Z81] at this
 exact this
theorem Zmg (r : Cube) : Zau r = some (Z17 r) := by
 unfold Zau
 rw [Zvl (fun x => Zej x r) (fun i => Z19 (ve r i)) (fun i hi => by unfold Zej; rw [Z24 hi, Option.bind_some, Z2s, Zkg]; rfl)]
 rfl
def Z9a (r : Cube) (f : Int) (v m : Wide) : Cube := bif decide (f ≥ 0) && decide (f < 24) then Vector.ofFn fun i => if f.toNat = i.1 then Z37 (ve (Z17 r) f.toNat) ⟨v, m⟩ else ve (Z17 r) i.1 else Z17 r
theorem Zh4 (r : Cube) (f : Int) (v m : Wide) : Z83 r f v m = some (Z9a r f v m) := by
 unfold Z83 Z9a Z7k
 rw [Zmg, Option.bind_some, Option.bind_some]
 cases hc : (decide (f ≥ 0) && decide (f < 24))
 ·rfl
 ·simp only [Bool.and_eq_true, decide_eq_true_eq] at hc
  obtain ⟨n, rfl⟩ : ∃ n : Nat, f = (n : Int) := ⟨f.toNat, by omega⟩
  have hn : n < 24 := by omega
  have e : Vector.set (Z17 r) n (Z37 (ve (Z17 r) n) ⟨v, m⟩) hn = Vector.ofFn fun i : _root_.Fin 24 => if n = i.1 then Z37 (ve (Z17 r) n) ⟨v, m⟩ else ve (Z17 r) i.1 := Zap fun j hj => by
   rw [Zi4 _ _ _ _ _ hj]
   exact (Zb2 (fun i => if n = i then Z37 (ve (Z17 r) n) ⟨v, m⟩ else ve (Z17 r) i) j hj).symm
  rw [cond_true, cond_true, Z24 hn, Option.bind_some, Z2s, Zvq, Option.bind_some, Option.bind_some, Int.toNat_natCast]
  exact congrArg some e
theorem Zsq (n : Int) : ∃ x, Zen n = some x := by
 unfold Zen
 cases decide (n ≥ 64)
 ·have h0 : 0 ≤ Z1i n 0 := by
   unfold Z1i
   by_cases h : (0 : Int) > n
   ·simp [h]
   ·simp [h]; omega
  obtain ⟨k, hk⟩ : ∃ k : Nat, Z1i n 0 = (k : Int) := ⟨(Z1i n 0).toNat, by omega⟩
  rw [cond_false, hk, Zko]
  exact ⟨_, rfl⟩
 ·exact ⟨_, rfl⟩
def Zac (n : Int) : Wide := (Z7t n).getD Z05
theorem Zo6 (n : Int) : Z7t n = some (Zac n) := by
 obtain ⟨x, hx⟩ := Zsq (IntKind.i64.wrap ((Z39 (Z1i n 0) 128) - 64))
 obtain ⟨y, hy⟩ := Zsq (Z39 (Z1i n 0) 128)
 have : Z7t n = some ⟨x, y⟩ := by unfold Z7t; rw [hx, Option.bind_some, hy]; rfl
 unfold Zac
 rw [this]; rfl
def Zdg (n : Int) : Int := (Zcl n).getD 0
theorem Ydg : ∃ v, Zjd = some v := by unfold Zjd; exact ⟨_, rfl⟩
theorem Yct (n : Int) : Zcl n = some (Zdg n) := by
 have : ∃ x, Zcl n = some x := by
  unfold Zcl Zmh Z7k
  rw [Option.bind_some]
  cases hc : (decide (n ≥ 0) && decide (n < 24))
  ·exact ⟨_, rfl⟩
  ·simp only [Bool.and_eq_true, decide_eq_true_eq] at hc
   obtain ⟨k, rfl⟩ : ∃ k : Nat, n = (k : Int) := ⟨n.toNat, by omega⟩
   obtain ⟨v, hv⟩ := Ydg
   rw [Bool.not_true, cond_false, hv, Option.bind_some, Z1m (by simp; omega), Option.bind_some, Option.bind_some]
   exact ⟨_, rfl⟩
 obtain ⟨x, hx⟩ := this
 unfold Zdg
 rw [hx]; rfl
def oxT (o : Oxm) : Tern := bif decide (o.Field ≥ 0) && decide (o.Field < 24) then (bif o.Masked then ⟨o.Value, o.Mask⟩ else ⟨o.Value, Zac (Zdg o.Field)⟩) else ⟨Z05, Z05⟩
theorem Zxw (o : Oxm) : Zf1 o = some (oxT o) := by
 unfold Zf1 oxT Z7k
 rw [Option.bind_some]
 cases decide (o.Field ≥ 0) && decide (o.Field < 24)
 ·rfl
 ·rw [Bool.not_true, cond_false, cond_true]
  cases o.Masked
  ·rw [cond_false, cond_false, Yct, Option.bind_some, Zo6]; rfl
  ·rfl
def Z29 : Cube := Vector.replicate 24 zTern
def Zcz (a : Action) : Cube :=
 bif decide (a.Kind = 25) then Z9a Z29 a.Oxm.Field (oxT a.Oxm).Value (oxT a.Oxm).Mask
 else bif decide (a.Kind = 17) then Z9a Z29 5 (Z3y 12) (Z3y 12)
 else bif decide (a.Kind = 18) then Z9a (Z9a Z29 5 ⟨0, 0⟩ (Zac 13)) 6 ⟨0, 0⟩ (Zac 3)
 else Z29
theorem Ye9 (a : Action) : Zjb a = some (Zcz a) := by
 unfold Zjb Zcz
 rw [show Zf5 = some Z29 from rfl, Option.bind_some]
 cases decide (a.Kind = 25)
 ·rw [cond_false, cond_false]
  cases decide (a.Kind = 17)
  ·rw [cond_false, cond_false]
   cases decide (a.Kind = 18)
   ·rfl
   ·rw [cond_true, cond_true, Zo6, Option.bind_some, Zh4, Option.bind_some, Zo6, Option.bind_some, Zh4]; rfl
  ·rw [cond_true, cond_true, show (12 : Int) = ((12 : Nat) : Int) from rfl, Zqw 12 (by decide), Option.bind_some, Option.bind_some, Zh4]; rfl
 ·rw [cond_true, cond_true, Zxw, Option.bind_some, Zh4]; rfl
def Zo7 (a : Action) : Int := bif decide (a.Port = 4294967293) then a.Max else 0
theorem Zyj {α : Type} (p : α → Bool) : ∀ l : List α, 0 ≤ Z0f p l → (l.take ((Z0f p l).toNat + 1)).filter (fun x => !p x) = l.take (Z0f p l).toNat
 | [], h => by simp [Z0f] at h
 | x :: l, h => by
  unfold Z0f at h ⊢
  cases hp : p x
  ·rw [hp] at h
   by_cases h' : Z0f p l < 0
   ·simp [h'] at h
   ·simp only [cond_false, decide_eq_false h']
    have e : (Z0f p l + 1).toNat = (Z0f p l).toNat + 1 := by omega
    rw [e, List.take_succ_cons, List.take_succ_cons, List.filter_cons_of_pos (by simp [hp]), Zyj p l (by omega)]
  ·simp [hp]
theorem Y0v {α : Type} (p : α → Bool) (l : List α) (h : Z0f p l < 0) : l.filter (fun x => !p x) = l := by
 rw [List.filter_eq_self]
 intro x hx
 rw [Zyv p l h x hx]; rfl
theorem Zps {α : Type} (p : α → Bool) : ∀ l : List α, (Z0f p l < 0 ∧ l.find? p = none) ∨ ∃ n : Nat, Z0f p l = (n : Int) ∧ ∃ h : n < l.length, l.find? p = some l[n] ∧ p l[n] = true
 | [] => .inl ⟨by simp [Z0f], rfl⟩
 | x :: l => by
  unfold Z0f
  cases hp : p x
  ·rw [cond_false, List.find?_cons_of_neg (by simp [hp])]
   rcases Zps p l with ⟨h1, h2⟩ | ⟨n, h1, h2, h3, h4⟩
   ·left; rw [decide_eq_true h1]; exact ⟨by show (-1 : Int) < 0; decide, h2⟩
   ·right
    rw [decide_eq_false (by omega)]
    exact ⟨n + 1, by show Z0f p l + 1 = _; omega, by simp; omega, by simpa using h3, by simpa using h4⟩
  ·right
   exact ⟨0, rfl, by simp, by rw [List.find?_cons_of_pos hp]; rfl, hp⟩
theorem Zrf (s : List Action) (f : Action → Option Bool) (p : Action → Bool) (hf : ∀ x ∈ s, f x = some (p x)) : Zbb s f = some (Z0f p s) := by
 unfold Zbb
 rw [show ((s.length : Int)).toNat = s.length by omega]
 exact Zde p (fun i => by rw [Z9c]) (fun m i => by rw [Z9c]) hf
theorem Zzc (s : List Group) (f : Group → Option Bool) (p : Group → Bool) (hf : ∀ x ∈ s, f x = some (p x)) : Zdd s f = some (Z0f p s) := by
 unfold Zdd
 rw [show ((s.length : Int)).toNat = s.length by omega]
 exact Zde p (fun i => by rw [Z8e]) (fun m i => by rw [Z8e]) hf
theorem Y0n (s : List Bucket) (f : Bucket → Option Bool) (p : Bucket → Bool) (hf : ∀ x ∈ s, f x = some (p x)) : Zjp s f = some (Z0f p s) := by
 unfold Zjp
 rw [show ((s.length : Int)).toNat = s.length by omega]
 exact Zde p (fun i => by rw [Z95]) (fun m i => by rw [Z95]) hf
theorem Y8w (s : List Int) (v : Int) : Zfn s v = some (Z0f (fun x => decide (v = x)) s) := by
 unfold Zfn
 rw [show ((s.length : Int)).toNat = s.length by omega]
 exact Zde (f := fun x => some (decide (v = x))) (fun x => decide (v = x)) (fun i => by rw [Z8t]) (fun m i => by rw [Z8t]; rfl) (fun _ _ => rfl)
theorem Y5r (s : List Action) (f : Action → Option Bool) (p : Action → Bool) (hf : ∀ x ∈ s, f x = some (p x)) (hl : s.length ≤ lim) : Zhm s f = some (s.filter (fun x => !p x)) := by
 have hlim : lim = 4294967296 := rfl
 unfold Zhm
 rw [Zrf s f p hf, Option.bind_some]
 by_cases h : Z0f p s < 0
 ·have := Zc4 p s
  rw [decide_eq_true (by omega), cond_true, Y0v p s h]
 ·have hlt := Zhf p s
  rw [decide_eq_false (by omega), cond_false, Z2a (by omega) (by omega)]
  have key := Ya5 (z := Zli) (G := Z7o f) (s := s) (f := f) p (fun m l i j => by rw [Z7o]) hf hl (((s.length : Int) - (Z0f p s + 1)).toNat + 1) s (Z0f p s).toNat ((Z0f p s).toNat + 1) (by omega) (by omega) (by omega) rfl rfl (Zyj p s (by omega)).symm
  rw [show ((Z0f p s).toNat : Int) = Z0f p s by omega, show (((Z0f p s).toNat + 1 : Nat) : Int) = Z0f p s + 1 by omega] at key
  exact key
theorem Y2w (s : List Action) (f : Action → Option Bool) (p : Action → Bool) (hf : ∀ x ∈ s, f x = some (p x)) : Zj4 s f = some (s.any p) := by
 unfold Zj4; rw [Zrf s f p hf, Option.bind_some, Zd4]
def Z0c (a : Action) : aset_spot := bif decide (a.Kind = 25) then ⟨a.Kind, a.Oxm.Field⟩ else ⟨a.Kind, 0⟩
theorem Zkz (a : Action) : Z9n a = some (Z0c a) := by
 unfold Z9n Z0c
 cases decide (a.Kind = 25) <;> rfl
theorem Zfe (a : Action) : (Z0c a).kind = a.Kind := by
 unfold Z0c
 cases decide (a.Kind = 25) <;> rfl
theorem Y53 (b c : Action) : Zc8 b c = some (decide (Z0c c = Z0c b)) := by
 unfold Zc8
 rw [Zkz, Option.bind_some, Zkz]; rfl
def wr1 (l : List Action) (x : Action) : List Action := bif decide (Z0f (fun b => decide (Z0c x = Z0c b)) l < 0) then l ++ [x] else l.set (Z0f (fun b => decide (Z0c x = Z0c b)) l).toNat x
theorem Zpo (l : List Action) (x : Action) : (wr1 l x).length ≤ l.length + 1 := by
 unfold wr1
 cases decide (Z0f (fun b => decide (Z0c x = Z0c b)) l < 0) <;> simp
theorem Zp8 : ∀ (l : List Action) (i : Nat) (acc : List Action), acc.length + l.length ≤ lim → Z64 l i acc = some (l.foldl wr1 acc)
 | [], i, acc, _ => by rw [Z64]; rfl
 | x :: l, i, acc, h => by
  simp only [List.length_cons] at h
  have hw := Zpo acc x
  rw [Z64, Zrf acc (fun y => Zc8 y x) (fun b => decide (Z0c x = Z0c b)) (fun y _ => Y53 y x), Option.bind_some, List.foldl_cons]
  have hi := Zhf (fun b => decide (Z0c x = Z0c b)) acc
  by_cases hc : Z0f (fun b => decide (Z0c x = Z0c b)) acc < 0
  ·rw [decide_eq_true hc, cond_true, Z1h (by simp; omega), Option.bind_some, Zp8 l (i + 1) _ (by simp; omega)]
   unfold wr1
   rw [decide_eq_true hc, cond_true]
  ·obtain ⟨n, hn⟩ : ∃ n : Nat, Z0f (fun b => decide (Z0c x = Z0c b)) acc = (n : Int) := ⟨(Z0f (fun b => decide (Z0c x = Z0c b)) acc).toNat, by omega⟩
   rw [decide_eq_false hc, cond_false, hn, Z1m (by omega), Option.bind_some, Zp8 l (i + 1) _ (by simp; omega)]
   unfold wr1
   rw [decide_eq_false hc, cond_false, hn]
theorem Ybr (s l : List Action) (h : s.length + l.length ≤ lim) : Zgz s l = some (l.foldl wr1 s) := by
 unfold Zgz Z63
 rw [Z1h (by simp; omega), Option.bind_some, List.nil_append, Zp8 l 0 s h]
theorem Zyu : ∀ (l s : List Action), (l.foldl wr1 s).length ≤ s.length + l.length
 | [], s => by simp
 | x :: l, s => by
  have h1 := Zyu l (wr1 s x)
  have h2 := Zpo s x
  rw [List.foldl_cons, List.length_cons]; omega
def Z38 (k : Int) : Int := Z0f (fun x => decide (k = x)) [18, 17, 25, 22, 0]
theorem Zoq (k : Int) : Zc6 k = some (Z38 k) := by
 unfold Zc6 Z38
 rw [Y8w]; rfl
def Z5k (goes : Bool) (a : Action) : Bool := !(decide (Z38 a.Kind < 0) || (goes && decide (a.Kind = 0)))
def Z9p (a b : Action) : Int :=
 bif decide (IntKind.i64.wrap (Z38 (Z0c a).kind - Z38 (Z0c b).kind) ≠ 0) then IntKind.i64.wrap (Z38 (Z0c a).kind - Z38 (Z0c b).kind)
 else bif decide ((Z0c a).field < (Z0c b).field) then -1 else bif decide ((Z0c a).field > (Z0c b).field) then 1 else 0
theorem Yc3 (a b : Action) : Zdl a b = some (Z9p a b) := by
 unfold Zdl Z9p
 rw [Zkz, Option.bind_some, Zkz, Option.bind_some, Zoq, Option.bind_some, Zoq, Option.bind_some]
 cases decide (IntKind.i64.wrap (Z38 (Z0c a).kind - Z38 (Z0c b).kind) ≠ 0)
 ·rw [cond_false, cond_false]
  cases decide ((Z0c a).field < (Z0c b).field)
  ·rw [cond_false, cond_false]
   cases decide ((Z0c a).field > (Z0c b).field) <;> rfl
  ·rfl
 ·rfl
theorem Zhj {α : Type} (lt : α → α → Bool) (x : α) : ∀ R : List α, (Z0s lt x R).Perm (x :: R)
 | [] => List.Perm.refl _
 | y :: R => by
  rw [Z0s]
  cases lt x y
  ·exact List.Perm.refl _
  ·exact ((Zhj lt x R).cons y).trans (List.Perm.swap x y R)
theorem Zwy {α : Type} (lt : α → α → Bool) : ∀ (l R : List α), (l.foldl (fun R x => Z0s lt x R) R).Perm (l ++ R)
 | [], R => List.Perm.refl _
 | x :: l, R => by
  rw [List.foldl_cons]
  refine (Zwy lt l _).trans ?_
  refine ((Zhj lt x R).append_left l).trans ?_
  exact List.perm_middle
theorem Ydx {α : Type} (lt : α → α → Bool) (l : List α) : (srt lt l).Perm l := by
 unfold srt
 refine (List.reverse_perm _).trans ?_
 have := Zwy lt l []
 rwa [List.append_nil] at this
theorem Zut {α : Type} (lt : α → α → Bool) (x : α) (R : List α) : (Z0s lt x R).length = R.length + 1 := by
 have := (Zhj lt x R).length_eq
 simpa using this
def ltA (a b : Action) : Bool := decide (Z9p a b < 0)
def Z94 (s : List Action) : List Action := srt ltA (s.filter (Z5k (s.any fun a => decide (a.Kind = 22))))
def Zrg (bs : List Bucket) : Prop := bs.length ≤ 3 ∧ ∀ x ∈ bs, x.Acts.length ≤ 12
def Zat (l : List Group) : Prop := l.length ≤ 9 ∧ ∀ g ∈ l, Zrg g.Buckets
theorem Zvc (bs : List Bucket) (h : ∀ x ∈ bs, x.Acts.length ≤ 12) : ∀ (m i : Nat), i + m = bs.length → Z7j m i bs = some bs
 | 0, i, _ => by rw [Z7j]
 | m + 1, i, hi => by
  have hlim : lim = 4294967296 := rfl
  have hlt : i < bs.length := by omega
  have ha := h bs[i] (List.getElem_mem hlt)
  have e : List.set bs ((i : Int)).toNat { bs[i] with Acts := bs[i].Acts } = bs := by
   rw [Int.toNat_natCast]; exact List.set_getElem_self hlt
  rw [Z7j, Z1m hlt, Option.bind_some]
  unfold Z63
  rw [Z1h (by simp; omega), Option.bind_some, Option.bind_some, List.nil_append, e]
  exact Zvc bs h m (i + 1) (by omega)
theorem Y24 (bs : List Bucket) (h : Zrg bs) : Zfs bs = some bs := by
 have hlim : lim = 4294967296 := rfl
 have := h.1
 unfold Zfs Zm1
 rw [Z1h (by simp; omega), Option.bind_some, List.nil_append, show ((bs.length : Int)).toNat = bs.length by omega]
 exact Zvc bs h.2 bs.length 0 (by omega)
theorem Y9b (g : Group) (h : Zrg g.Buckets) : Zfo [g] = some [g] := by
 unfold Zfo Zm8
 rw [Z1h (by simp [lim]), Option.bind_some]
 show Z7p 1 0 [g] = _
 rw [Z7p]
 show ((some g).bind fun e8 => _) = _
 rw [Option.bind_some, Y24 _ h, Option.bind_some]
 rfl
def Zm3 (l : List Group) (id : Int) : Option Group := l.find? fun g => decide (g.ID = id)
theorem Y90 (l : List Group) (id : Int) (hl : Zat l) : Zg2 l id = some (match Zm3 l id with | none => ((⟨0, 0, []⟩ : Group), false) | some g => (g, true)) := by
 have h9 := hl.1
 unfold Zg2 Zmp Zm3
 rw [Zzc l (fun x => Zjj x id) (fun g => decide (g.ID = id)) (fun _ _ => rfl), Option.bind_some, Option.bind_some]
 rcases Zps (fun g : Group => decide (g.ID = id)) l with ⟨h1, h2⟩ | ⟨n, h1, h2, h3, h4⟩
 ·rw [decide_eq_true h1, cond_true, h2]
 ·have hs : Zdp l (n : Int) (IntKind.i64.wrap ((n : Int) + 1)) = some [l[n]] := by
   rw [Z2a (by omega) (by omega)]
   unfold Zdp
   rw [decide_eq_true (by omega), decide_eq_true (by omega), Nat.ble_eq_true_of_le (by omega)]
   show some _ = some _
   have e2 : ((n : Int) + 1).toNat = n + 1 := by omega
   have e3 : (l.take n).length = n := by simp; omega
   rw [e2, Int.toNat_natCast, List.take_succ_eq_append_getElem h2, List.drop_append, e3, List.drop_of_length_le (by omega), Nat.sub_self]
   rfl
  rw [decide_eq_false (by omega), cond_false, h1, hs, Option.bind_some, Y9b _ (hl.2 _ (List.getElem_mem h2)), Option.bind_some, h3]
  rfl
def Zqi (l : List Action) : Nat := l.countP fun a => decide (a.Kind = 0) || decide (a.Kind = 22)
end Go.Proofs.YtknpgojdkobgjaaGreat.W
namespace Go.Proofs.YtknpgojdkobgjaaGreat.W
open Go Go.Wb
theorem Zzs (a b : Cube) : Zfr a b = some (Zaf a b) := by
 unfold Zfr
 rw [Zvl (fun x => Ze4 x a b) (fun i => Z37 (ve a i) (ve b i)) (fun i hi => by unfold Ze4; rw [Z24 hi, Option.bind_some, Option.bind_some, Z2s, Z2s, Zvq]; rfl)]
 rfl
def Zl4 (r : Cube) (a : Action) : Atom := bif decide (a.Kind = 0) then ⟨r, false, a.Port, Zo7 a⟩ else ⟨r, true, a.Group, 0⟩
def Zbl (a : Action) : Bool := decide (a.Kind = 0) || decide (a.Kind = 22)
def doT : List Action → Cube → List Atom × Cube
 | [], r => ([], r)
 | a :: l, r => bif Zbl a then (Zl4 r a :: (doT l r).1, (doT l r).2) else doT l (Zaf r (Zcz a))
theorem Y84 (r : Cube) (o : List Atom) (a : Action) (h : o.length + 1 ≤ lim) : Zb9 ⟨r, o⟩ a = some (bif Zbl a then ⟨r, o ++ [Zl4 r a]⟩ else ⟨Zaf r (Zcz a), o⟩) := by
 have hj : ∀ x : Atom, Zcm ⟨r, o⟩ x = some ⟨r, o ++ [x]⟩ := fun x => by
  unfold Zcm
  rw [Z1h (by simpa using h), Option.bind_some]
 unfold Zb9 Zbl Zl4 Zo7
 cases decide (a.Kind = 0)
 ·rw [cond_false]
  cases decide (a.Kind = 22)
  ·rw [cond_false, Ye9, Option.bind_some, Zzs]; rfl
  ·rw [cond_true, hj]; rfl
 ·rw [cond_true]
  cases decide (a.Port = 4294967293)
  ·rw [cond_false, hj]; rfl
  ·rw [cond_true, hj]; rfl
theorem Zot : ∀ (l : List Action) (i : Nat) (r : Cube) (o : List Atom), o.length + l.length ≤ lim → Z75 Z4t (fun s x => Zb9 s x) l i ⟨r, o⟩ = some ⟨(doT l r).2, o ++ (doT l r).1⟩
 | [], i, r, o, _ => by rw [Z75]; simp [doT]
 | a :: l, i, r, o, h => by
  simp only [List.length_cons] at h
  rw [Z75, Y84 r o a (by omega), Option.bind_some, doT]
  cases Zbl a
  ·rw [cond_false, cond_false, Zot l (i + 1) _ o (by omega)]
  ·rw [cond_true, cond_true, Zot l (i + 1) _ _ (by simp; omega)]
   simp
theorem Y5v (acts : List Action) (r : Cube) (h : acts.length ≤ lim) : Zj1 acts r = some (doT acts (Z17 r)) := by
 unfold Zj1 Zlk
 rw [Zmg, Option.bind_some, Zot acts 0 _ [] (by simpa using h), Option.bind_some]
 rfl
theorem Zfm : ∀ (l : List Action) (r : Cube), (doT l r).1.length = Zqi l
 | [], r => rfl
 | a :: l, r => by
  have ih := Zfm l
  unfold Zqi at ih ⊢
  rw [doT, List.countP_cons]
  show _ = _ + if Zbl a = true then 1 else 0
  cases Zbl a
  ·simp [ih]
  ·simp [ih]
end Go.Proofs.YtknpgojdkobgjaaGreat.W
namespace Go.Proofs.YtknpgojdkobgjaaGreat.W
open Go Go.Wb
end Go.Proofs.YtknpgojdkobgjaaGreat.W
namespace Go.Proofs.YtknpgojdkobgjaaGreat.W
open Go Go.Wb
theorem Ybl (s : List Bucket) (f : Bucket → Option Bool) (p : Bucket → Bool) (hf : ∀ x ∈ s, f x = some (p x)) : Zfp s f = some (s.any p) := by
 unfold Zfp; rw [Y0n s f p hf, Option.bind_some, Zd4]
theorem Y25 (s : List Group) (f : Group → Option Bool) (p : Group → Bool) (hf : ∀ x ∈ s, f x = some (p x)) : Zie s f = some (s.any p) := by
 unfold Zie; rw [Zzc s f p hf, Option.bind_some, Zd4]
def Zf9 (bs : List Bucket) (many : Int) : Bool := decide ((bs.length : Int) ≤ many) && !(bs.any fun x => !decide ((x.Acts.length : Int) ≤ 12))
theorem Yc7 (bs : List Bucket) (many : Int) : Ziw bs many = some (Zf9 bs many) := by
 unfold Ziw Zf9
 rw [Ybl bs Zmy (fun x => !decide ((x.Acts.length : Int) ≤ 12)) (fun x _ => rfl)]
 cases decide ((bs.length : Int) ≤ many) <;> rfl
def Zfd (l : List Group) (many bm : Int) : Bool := decide ((l.length : Int) ≤ many) && !(l.any fun g => !Zf9 g.Buckets bm)
theorem Y1x (l : List Group) (many bm : Int) : Zgr l many bm = some (Zfd l many bm) := by
 unfold Zgr Zfd
 rw [Y25 l (fun x => Zdm x bm) (fun g => !Zf9 g.Buckets bm) (fun g _ => by unfold Zdm; rw [Yc7]; rfl)]
 cases decide ((l.length : Int) ≤ many) <;> rfl
theorem Y31 {l : List Group} (h : Zfd l 9 3 = true) : Zat l := by
 unfold Zfd at h
 simp only [Bool.and_eq_true, decide_eq_true_eq, Bool.not_eq_true', List.any_eq_false] at h
 refine ⟨by omega, fun g hg => ?_⟩
 have h1 : Zf9 g.Buckets 3 = true := by simpa using h.2 g hg
 unfold Zf9 at h1
 simp only [Bool.and_eq_true, decide_eq_true_eq, Bool.not_eq_true', List.any_eq_false] at h1
 refine ⟨by omega, fun x hx => ?_⟩
 have h2 : decide ((x.Acts.length : Int) ≤ 12) = true := by simpa using h1.2 x hx
 rw [decide_eq_true_eq] at h2
 omega
end Go.Proofs.YtknpgojdkobgjaaGreat.W
namespace Go.Proofs.YtknpgojdkobgjaaGreat.W
open Go Go.Wb
theorem Zol (a b : Wide) : Zbm a b = some (Z2c a b) := rfl
theorem Y9f (a b : Wide) : Zad a b = some (wor a b) := rfl
theorem Zuj (a b : Wide) : Zh9 a b = some (Z3p a b) := rfl
theorem Zzg (t : Tern) : Z8f t = some (Z19 t) := rfl
theorem inc (n : Nat) (h : n < 9223372036854775807) : IntKind.i64.wrap ((n : Int) + 1) = ((n + 1 : Nat) : Int) := by rw [Z2a (by omega) (by omega)]; omega
theorem Zw3 (c : Cube) : ∀ (m i : Nat), i ≤ 24 → 24 < i + m → Z8s m (Z2t (fun i => Z19 (ve c i)) c i) (i : Int) = some (Z17 c)
 | 0, i, h1, h2 => by omega
 | m + 1, i, h1, h2 => by
  rw [Z8s]
  by_cases h : i < 24
  ·rw [decide_eq_true (by omega), cond_true, Z24 h, Option.bind_some, Zzg, Option.bind_some, Option.bind_some, Z2s, Zaz _ _ _ _ h, if_neg (by omega), inc i (by omega)]
   show Z8s m (Vector.set (Z2t (fun i => Z19 (ve c i)) c i) i (Z19 (ve c i)) _) _ = _
   rw [Z8b (fun i => Z19 (ve c i)) c i h, Zw3 c m (i + 1) (by omega) (by omega)]
  ·have : i = 24 := by omega
   subst this
   rw [decide_eq_false (by omega), cond_false, Z8r]; rfl
theorem Zq5 (c : Cube) : Zc5 c = some (Z17 c) := by
 unfold Zc5
 have := Zw3 c (((24 : Int) - 0).toNat + 1) 0 (by omega) (by decide)
 rw [Z81] at this
 exact this
theorem Zzr (a b : Cube) : ∀ (m i : Nat), i ≤ 24 → 24 < i + m → Z90 (Z17 b) m (Z2t (fun i => Z37 (ve a i) (ve b i)) (Z17 a) i) (i : Int) = some (Zaf a b)
 | 0, i, h1, h2 => by omega
 | m + 1, i, h1, h2 => by
  rw [Z90]
  by_cases h : i < 24
  ·simp only [decide_eq_true (show ((i : Int) < 24) by omega), cond_true, Z24 h, Option.bind_some, Z2s, Zuj, Y9f, inc i (by omega)]
   rw [Zaz _ _ _ _ h, if_neg (by omega), Zgj _ _ h, Zgj _ _ h]
   have := Z8b (fun i => Z37 (ve a i) (ve b i)) (Z17 a) i h
   show Z90 (Z17 b) m (Vector.set (Z2t (fun i => Z37 (ve a i) (ve b i)) (Z17 a) i) i (Z37 (ve a i) (ve b i)) _) _ = _
   rw [this]
   exact Zzr a b m (i + 1) (by omega) (by omega)
  ·have : i = 24 := by omega
   subst this
   rw [decide_eq_false (by omega), cond_false, Z8r]; rfl
theorem Zq0 (a b : Cube) : Zd8 a b = some (Zaf a b) := by
 unfold Zd8
 rw [Zq5, Option.bind_some, Zq5, Option.bind_some]
 have := Zzr a b (((24 : Int) - 0).toNat + 1) 0 (by omega) (by decide)
 rw [Z81] at this
 exact this
theorem Zvz (a : Tern) : Z37 a zTern = Z19 a := by
 unfold Z37 Z19
 have h1 : wor (Z3p (Z2c a.Value a.Mask) zTern.Mask) (Z2c zTern.Value zTern.Mask) = Z2c a.Value a.Mask := Zlp fun i hi => by
  have z : wt zTern.Mask i = false := Zhs i
  have z2 : wt zTern.Value i = false := Zhs i
  simp only [Ztq, Y3l _ _ _ hi, Zco, z, z2]
  cases wt a.Value i <;> cases wt a.Mask i <;> rfl
 have h2 : wor a.Mask zTern.Mask = a.Mask := Zlp fun i hi => by
  have z : wt zTern.Mask i = false := Zhs i
  rw [Ztq, z, Bool.or_false]
 show (⟨wor (Z3p (Z2c a.Value a.Mask) zTern.Mask) (Z2c zTern.Value zTern.Mask), wor a.Mask zTern.Mask⟩ : Tern) = _
 rw [h1, h2]
theorem Yfd (a b : Tern) : Z37 (Z19 a) b = Z37 a b := by
 unfold Z37
 rw [Yda]; rfl
theorem Zhn (r : Cube) (f : Int) (v m : Wide) : Z9d r f v m = some (Z9a r f v m) := by
 unfold Z9d Z9a Zaq
 rw [Option.bind_some]
 have hz : ∀ i, i < 24 → ve Z29 i = zTern := fun i hi => Yee _ _ hi
 cases hc : (decide (f ≥ 0) && decide (f < 24))
 ·rw [cond_false, cond_false]
  unfold Zf0
  rw [Zq0, Option.bind_some]
  have e : Zaf r (Vector.replicate 24 zTern) = Z17 r := Zap fun i hi => by
   rw [Zrr _ _ _ hi, Zgj _ _ hi, show ve (Vector.replicate 24 zTern) i = zTern from hz i hi, Zvz]
  rw [e]
 ·simp only [Bool.and_eq_true, decide_eq_true_eq] at hc
  obtain ⟨n, rfl⟩ : ∃ n : Nat, f = (n : Int) := ⟨f.toNat, by omega⟩
  have hn : n < 24 := by omega
  rw [cond_true, cond_true, Z24 hn, Option.bind_some, Int.toNat_natCast]
  unfold Zf0
  rw [Zq0, Option.bind_some]
  have e : Zaf r (Vector.set (Vector.replicate 24 zTern) n (⟨v, m⟩ : Tern) hn) = Vector.ofFn fun i : _root_.Fin 24 => if n = i.1 then Z37 (ve (Z17 r) n) ⟨v, m⟩ else ve (Z17 r) i.1 := Zap fun i hi => by
   rw [Zrr _ _ _ hi, Zi4 _ _ _ _ _ hi]
   refine Eq.trans ?_ (Zb2 (fun i => if n = i then Z37 (ve (Z17 r) n) ⟨v, m⟩ else ve (Z17 r) i) i hi).symm
   by_cases h : n = i
   ·subst h
    simp only [if_true]
    rw [Zgj _ _ hi, Yfd]
   ·simp only [if_neg h]
    rw [Zgj _ _ hi, show ve (Vector.replicate 24 zTern) i = zTern from hz i hi, Zvz]
  exact congrArg some e
theorem Yd6 : ∀ f : _root_.Fin 24, Zke (f.1 : Int) = some (Zdg (f.1 : Int)) ∧ Z9o (Zdg (f.1 : Int)) = some (Zac (Zdg (f.1 : Int))) := by decide +kernel
theorem Y0i : Z9o 13 = some (Zac 13) := by decide +kernel
theorem Ya4 : Z9o 3 = some (Zac 3) := by decide +kernel
theorem Ybp : Z8c 12 = some (Z3y 12) := by decide +kernel
theorem Zvt (o : Oxm) : Zf4 o = some (oxT o) := by
 unfold Zf4 oxT Zaq
 rw [Option.bind_some]
 cases hc : decide (o.Field ≥ 0) && decide (o.Field < 24)
 ·rfl
 ·simp only [Bool.and_eq_true, decide_eq_true_eq] at hc
  obtain ⟨h1, h2⟩ := Yd6 ⟨o.Field.toNat, by omega⟩
  have e : ((o.Field.toNat : Nat) : Int) = o.Field := by omega
  simp only [e] at h1 h2
  rw [Bool.not_true, cond_false, cond_true]
  cases o.Masked
  ·rw [cond_false, cond_false, h1, Option.bind_some, h2]; rfl
  ·rfl
theorem Ycl (a : Action) : Zi3 a = some (Zcz a) := by
 have h84 : Z98 = some Z29 := rfl
 unfold Zi3 Zcz
 cases decide (a.Kind = 25)
 ·rw [cond_false, cond_false]
  cases decide (a.Kind = 17)
  ·rw [cond_false, cond_false]
   cases decide (a.Kind = 18)
   ·rfl
   ·rw [cond_true, cond_true, h84, Option.bind_some, Y0i, Option.bind_some, Zhn, Option.bind_some, Ya4, Option.bind_some, Zhn]; rfl
  ·rw [cond_true, cond_true, h84, Option.bind_some, Ybp, Option.bind_some, Option.bind_some, Zhn]; rfl
 ·rw [cond_true, cond_true, Zvt, Option.bind_some, h84, Option.bind_some, Zhn]; rfl
theorem Y87 (a b : Action) : Zg0 a b = some (decide (Z0c b = Z0c a)) := by
 unfold Zg0
 congr 1
 rw [Bool.eq_iff_iff]
 unfold Z0c
 by_cases ha : a.Kind = 25
 ·by_cases hb : b.Kind = 25
  ·simp [ha, hb, eq_comm]
  ·have : a.Kind ≠ b.Kind := fun e => hb (e ▸ ha)
   simp [ha, hb, this, eq_comm]
 ·by_cases hb : b.Kind = 25
  ·have : a.Kind ≠ b.Kind := fun e => ha (e.trans hb)
   simp [ha, hb, this, eq_comm]
  ·simp [ha, hb, eq_comm]
theorem Zuf {α : Type} (p : α → Bool) : ∀ (l : List α) (j : Nat) (h : j < l.length), Z0f p (l.take (j + 1)) = bif decide (Z0f p (l.take j) < 0) then (bif p l[j] then (j : Int) else -1) else Z0f p (l.take j)
 | [], j, h => by simp at h
 | x :: l, 0, h => by
  simp only [List.take_zero, List.take_succ_cons, Z0f, List.getElem_cons_zero]
  cases p x <;> rfl
 | x :: l, j + 1, h => by
  have hj : j < l.length := by simpa using h
  have ih := Zuf p l j hj
  have hq := Zc4 p (l.take j)
  rw [List.take_succ_cons, List.take_succ_cons, Z0f, Z0f, ih, List.getElem_cons_succ]
  generalize Z0f p (l.take j) = q at *
  generalize p l[j] = r at *
  cases p x
  ·simp only [cond_false]
   by_cases hn : q < 0
   ·simp only [decide_eq_true hn, cond_true]
    cases r
    ·rfl
    ·simp only [cond_true]
     rw [decide_eq_false (show ¬ ((j : Int) < 0) by omega), cond_false]
     have : decide ((-1 : Int) < 0) = true := rfl
     rw [this, cond_true]
     omega
   ·simp only [decide_eq_false hn, cond_false]
    rw [decide_eq_false (show ¬ (q + 1 < 0) by omega), cond_false]
  ·rfl
theorem Zt3 (l l2 : List Action) (i : Nat) (hi : i < l2.length) (hl : l.length ≤ 100) (hl2 : l2.length ≤ 100) (go : List Action → Int → Option (List Action)) : ∀ (m j : Nat), j ≤ l.length → l.length < j + m →
  Z8x l l2 (i : Int) go m (Z0f (fun b => decide (Z0c l2[i] = Z0c b)) (l.take j)) (j : Int) = go (wr1 l l2[i]) ((i + 1 : Nat) : Int)
 | 0, j, h1, h2 => by omega
 | m + 1, j, h1, h2 => by
  have hlim : lim = 4294967296 := rfl
  rw [Z8x]
  by_cases hj : j < l.length
  ·have hs := Zuf (fun b => decide (Z0c l2[i] = Z0c b)) l j hj
   have ih := Zt3 l l2 i hi hl hl2 go m (j + 1) (by omega) (by omega)
   rw [decide_eq_true (show (j : Int) < (l.length : Int) by omega), cond_true, inc j (by omega)]
   by_cases hn : Z0f (fun b => decide (Z0c l2[i] = Z0c b)) (l.take j) < 0
   ·rw [decide_eq_true hn, cond_true] at hs
    rw [decide_eq_true hn, Z47, Z1m hj, Option.bind_some, Z47, Z1m hi, Option.bind_some, Z47, Y87, Option.bind_some, Bool.true_and]
    rw [hs] at ih
    cases hp : decide (Z0c l2[i] = Z0c l[j])
    ·rw [hp, cond_false] at ih
     rw [cond_false]
     have e : Z0f (fun b => decide (Z0c l2[i] = Z0c b)) (l.take j) = -1 := by
      have := Zc4 (fun b => decide (Z0c l2[i] = Z0c b)) (l.take j); omega
     rw [e]; exact ih
    ·rw [hp, cond_true] at ih
     rw [cond_true]; exact ih
   ·rw [decide_eq_false hn, cond_false] at hs
    rw [decide_eq_false hn]
    simp only [Zl8, Option.bind_some, Bool.false_and, cond_false]
    rw [hs] at ih
    exact ih
  ·have e : l.take j = l := List.take_of_length_le (by omega)
   rw [decide_eq_false (by omega), cond_false, e]
   unfold wr1
   have hlt := Zhf (fun b => decide (Z0c l2[i] = Z0c b)) l
   by_cases hn : Z0f (fun b => decide (Z0c l2[i] = Z0c b)) l < 0
   ·rw [decide_eq_true hn, cond_true, cond_true, Z1m hi, Option.bind_some, Z1h (by simp; omega), Option.bind_some, inc i (by omega)]
   ·obtain ⟨n, hn2⟩ : ∃ n : Nat, Z0f (fun b => decide (Z0c l2[i] = Z0c b)) l = (n : Int) := ⟨(Z0f (fun b => decide (Z0c l2[i] = Z0c b)) l).toNat, by omega⟩
    rw [decide_eq_false hn, cond_false, cond_false, Z1m hi, Option.bind_some, hn2, Z1m (by omega), Option.bind_some, inc i (by omega)]
theorem Zrp (l2 : List Action) (hl2 : l2.length ≤ 50) : ∀ (m i : Nat) (acc : List Action), i ≤ l2.length → l2.length < i + m → acc.length ≤ i + 50 → Z8a l2 m acc (i : Int) = some ((l2.drop i).foldl wr1 acc)
 | 0, i, acc, h1, h2, _ => by omega
 | m + 1, i, acc, h1, h2, h3 => by
  rw [Z8a]
  by_cases hi : i < l2.length
  ·have h4 := Zt3 acc l2 i hi (by omega) (by omega) (Z8a l2 m) ((((acc.length : Int) : Int) - 0).toNat + 1) 0 (by omega) (by omega)
   rw [List.take_zero, show ((0 : Nat) : Int) = 0 from rfl] at h4
   have h5 := Zpo acc l2[i]
   rw [decide_eq_true (by omega), cond_true]
   refine Eq.trans h4 ?_
   rw [Zrp l2 hl2 m (i + 1) _ (by omega) (by omega) (by omega), List.drop_eq_getElem_cons hi, List.foldl_cons]
  ·rw [decide_eq_false (by omega), cond_false, List.drop_of_length_le (by omega)]; rfl
theorem Yaa (s l : List Action) (hs : s.length ≤ 50) (h : l.length ≤ 50) : Ziy s l = some (l.foldl wr1 s) := by
 unfold Ziy
 have := Zrp l h ((((l.length : Int) : Int) - 0).toNat + 1) 0 s (by omega) (by omega) (by omega)
 rw [Z1h (by simp [lim]; omega), Option.bind_some, List.nil_append]
 rw [show ((0 : Nat) : Int) = 0 from rfl, List.drop_zero] at this
 exact this
def cls (k : Int) (l : List Action) : List Action := l.filter fun a => decide (a.Kind = k)
theorem Zqg (l : List Action) (k : Int) (hl : l.length ≤ 50) : ∀ (m i : Nat) (acc : List Action), i ≤ l.length → l.length < i + m → acc.length ≤ i → Z96 l k m acc (i : Int) = some (acc ++ cls k (l.drop i))
 | 0, i, acc, h1, h2, _ => by omega
 | m + 1, i, acc, h1, h2, h3 => by
  have hlim : lim = 4294967296 := rfl
  rw [Z96]
  by_cases hi : i < l.length
  ·rw [decide_eq_true (by omega), cond_true, Z1m hi, Option.bind_some, inc i (by omega), List.drop_eq_getElem_cons hi]
   unfold cls
   by_cases hk : l[i].Kind = k
   ·rw [decide_eq_true hk, cond_true, Option.bind_some, Z1h (by simp; omega), Option.bind_some, Zqg l k hl m (i + 1) _ (by omega) (by omega) (by simp; omega), List.filter_cons_of_pos (by simp [hk])]
    simp [cls]
   ·rw [decide_eq_false hk, cond_false, Zqg l k hl m (i + 1) _ (by omega) (by omega) (by omega), List.filter_cons_of_neg (by simp [hk])]
    simp [cls]
  ·rw [decide_eq_false (by omega), cond_false, List.drop_of_length_le (by omega)]
   simp [cls]
theorem Zg5 (l : List Action) (k : Int) (hl : l.length ≤ 50) : Z6z l k = some (cls k l) := by
 unfold Z6z
 have := Zqg l k hl ((((l.length : Int) : Int) - 0).toNat + 1) 0 [] (by omega) (by omega) (by simp)
 rw [show ((0 : Nat) : Int) = 0 from rfl] at this
 rw [this]; simp
def ltF (a b : Action) : Bool := decide (b.Oxm.Field > a.Oxm.Field)
theorem Zpk (l1 : List Action) (i : Nat) (hi : i < l1.length) (hi2 : l1.length ≤ 50) (go : List Action → Int → Option (List Action)) (A : List Action) (hA : A.length ≤ 50) : ∀ (Br S : List Action) (c : Action) (m : Nat), Br.length < m → Br.length ≤ 50 →
  Z9i (A.length : Int) l1 (i : Int) go m (A ++ (Br.reverse ++ c :: S)) ((A.length + Br.length : Nat) : Int) = go (A ++ l1[i] :: (Br.reverse ++ S)) ((i + 1 : Nat) : Int)
 | [], S, c, m, hm, _ => by
  obtain ⟨m, rfl⟩ : ∃ k, m = k + 1 := ⟨m - 1, by simp at hm; omega⟩
  have g0 : lget (A ++ c :: S) (A.length : Int) = some c := by
   rw [Z6g, List.getElem?_append_right (Nat.le_refl _)]; simp
  have s0 : List.set (A ++ c :: S) ((A.length : Int)).toNat l1[i] = A ++ l1[i] :: S := by
   rw [Int.toNat_natCast, List.set_append_right _ _ (Nat.le_refl _)]; simp
  rw [Z9i, decide_eq_false (by simp), cond_false, Z1m hi, Option.bind_some]
  simp only [List.reverse_nil, List.nil_append]
  rw [g0, Option.bind_some, s0, inc i (by omega)]
 | b :: Br, S, c, m, hm, hb => by
  simp only [List.length_cons] at hm hb
  obtain ⟨m, rfl⟩ : ∃ k, m = k + 1 := ⟨m - 1, by omega⟩
  have e0 : A ++ ((b :: Br).reverse ++ c :: S) = (A ++ Br.reverse) ++ b :: c :: S := by simp
  have ej : IntKind.i64.wrap (((A.length + (b :: Br).length : Nat) : Int) - 1) = ((A.length + Br.length : Nat) : Int) := by rw [Z2a (by simp only [List.length_cons]; omega) (by simp only [List.length_cons]; omega)]; simp only [List.length_cons]; omega
  have hlen : (A ++ Br.reverse).length = A.length + Br.length := by simp
  have g0 : lget ((A ++ Br.reverse) ++ b :: c :: S) ((A.length + Br.length : Nat) : Int) = some b := by
   rw [Z6g, List.getElem?_append_right (by omega), hlen, Nat.sub_self]; rfl
  have g1 : lget ((A ++ Br.reverse) ++ b :: c :: S) ((A.length + (b :: Br).length : Nat) : Int) = some c := by
   rw [Z6g, List.getElem?_append_right (by simp only [List.length_cons]; omega), hlen]
   have : A.length + (b :: Br).length - (A.length + Br.length) = 1 := by simp only [List.length_cons]; omega
   rw [this]; rfl
  have s1 : List.set ((A ++ Br.reverse) ++ b :: c :: S) (((A.length + (b :: Br).length : Nat) : Int)).toNat b = A ++ (Br.reverse ++ b :: b :: S) := by
   rw [Int.toNat_natCast, List.set_append_right _ _ (by simp only [List.length_cons]; omega), hlen]
   have : A.length + (b :: Br).length - (A.length + Br.length) = 1 := by simp only [List.length_cons]; omega
   rw [this]; simp
  rw [e0, Z9i, decide_eq_true (by simp only [List.length_cons]; omega), cond_true, ej, g0, Option.bind_some, g1, Option.bind_some, s1, Zpk l1 i hi hi2 go A hA Br (b :: S) b m (by omega) (by omega)]
  simp
theorem Zyb (l1 : List Action) (i : Nat) (hi : i < l1.length) (hi2 : l1.length ≤ 50) (go : List Action → Int → Option (List Action)) : ∀ (Ar B : List Action) (m : Nat), Ar.length < m → Ar.length + B.length ≤ 50 →
  Z8u (Ar.reverse ++ B) l1 (i : Int) go m (Ar.length : Int) = go ((Z0s ltF l1[i] Ar).reverse ++ B) ((i + 1 : Nat) : Int)
 | [], B, m, hm, hb => by
  have hlim : lim = 4294967296 := rfl
  obtain ⟨m, rfl⟩ : ∃ k, m = k + 1 := ⟨m - 1, by simp at hm; omega⟩
  simp only [List.length_nil, Nat.zero_add] at hb
  rw [Z8u, show decide ((([] : List Action).length : Int) > 0) = false from rfl]
  simp only [Zl8, Option.bind_some, Bool.false_and, cond_false, List.reverse_nil, List.nil_append]
  rw [Z1h (by simp; omega), Option.bind_some]
  have e1 : IntKind.i64.wrap (((B ++ [(⟨0, 0, 0, 0, 0, Z36⟩ : Action)]).length : Int) - 1) = ((([] : List Action).length + B.reverse.length : Nat) : Int) := by rw [Z2a (by simp <;> omega) (by simp <;> omega)]; simp
  have := Zpk l1 i hi hi2 go [] (by simp) B.reverse [] (⟨0, 0, 0, 0, 0, Z36⟩ : Action) ((((([] : List Action).length + B.reverse.length : Nat) : Int) - (([] : List Action).length : Int)).toNat + 1) (by simp <;> omega) (by simp <;> omega)
  simp only [List.nil_append, List.reverse_reverse, List.append_nil] at this
  rw [e1]
  refine Eq.trans this ?_
  simp [Z0s]
 | y :: Ar, B, m, hm, hb => by
  have hlim : lim = 4294967296 := rfl
  simp only [List.length_cons] at hm hb
  obtain ⟨m, rfl⟩ : ∃ k, m = k + 1 := ⟨m - 1, by omega⟩
  have ej : IntKind.i64.wrap (((y :: Ar).length : Int) - 1) = (Ar.length : Int) := by rw [Z2a (by simp only [List.length_cons]; omega) (by simp only [List.length_cons]; omega)]; simp only [List.length_cons]; omega
  have e0 : (y :: Ar).reverse ++ B = Ar.reverse ++ y :: B := by simp
  have g0 : lget (Ar.reverse ++ y :: B) (Ar.length : Int) = some y := by
   rw [Z6g, List.getElem?_append_right (by simp)]; simp
  rw [Z8u, decide_eq_true (by simp only [List.length_cons]; omega), Z47, ej, e0, g0, Option.bind_some, Z47, Z1m hi, Option.bind_some, Bool.true_and, Z0s]
  show (bif ltF l1[i] y then _ else _) = _
  cases ltF l1[i] y
  ·rw [cond_false, cond_false, Z1h (by simp; omega), Option.bind_some]
   have e1 : IntKind.i64.wrap (((Ar.reverse ++ y :: B ++ [(⟨0, 0, 0, 0, 0, Z36⟩ : Action)]).length : Int) - 1) = (((y :: Ar).reverse.length + B.reverse.length : Nat) : Int) := by rw [Z2a (by simp; omega) (by simp; omega)]; simp; omega
   have := Zpk l1 i hi hi2 go (y :: Ar).reverse (by simp; omega) B.reverse [] (⟨0, 0, 0, 0, 0, Z36⟩ : Action) (((((y :: Ar).reverse.length + B.reverse.length : Nat) : Int) - ((y :: Ar).length : Int)).toNat + 1) (by simp; omega) (by simp; omega)
   simp only [List.reverse_reverse, List.append_nil] at this
   rw [e1]
   have e2 : Ar.reverse ++ y :: B ++ [(⟨0, 0, 0, 0, 0, Z36⟩ : Action)] = (y :: Ar).reverse ++ (B ++ [(⟨0, 0, 0, 0, 0, Z36⟩ : Action)]) := by simp
   have e3 : (((y :: Ar).length : Int)) = (((y :: Ar).reverse.length : Nat) : Int) := by simp
   rw [e2]
   rw [e3] at this ⊢
   refine Eq.trans this ?_
   simp
  ·rw [cond_true, cond_true, Zyb l1 i hi hi2 go Ar (y :: B) m (by omega) (by simp only [List.length_cons]; omega)]
   simp
theorem Zsz (l : List Action) (hl : l.length ≤ 50) : ∀ (m i : Nat) (R : List Action), i ≤ l.length → l.length < i + m → R.length ≤ i → Z8o l m R.reverse (i : Int) = some (((l.drop i).foldl (fun R x => Z0s ltF x R) R).reverse)
 | 0, i, R, h1, h2, _ => by omega
 | m + 1, i, R, h1, h2, h3 => by
  rw [Z8o]
  by_cases hi : i < l.length
  ·have h4 := Zyb l i hi hl (Z8o l m) R [] Z0x (by unfold Z0x; omega) (by simp; omega)
   rw [List.append_nil, List.append_nil] at h4
   have e : ((R.reverse).length : Int) = (R.length : Int) := by simp
   rw [decide_eq_true (by omega), cond_true, e, h4, Zsz l hl m (i + 1) _ (by omega) (by omega) (by rw [Zut]; omega), List.drop_eq_getElem_cons hi, List.foldl_cons]
  ·rw [decide_eq_false (by omega), cond_false, List.drop_of_length_le (by omega)]; rfl
theorem Y1u (l : List Action) (hl : l.length ≤ 50) : Zgi l = some (srt ltF l) := by
 unfold Zgi srt
 have := Zsz l hl ((((l.length : Int) : Int) - 0).toNat + 1) 0 [] (by omega) (by omega) (by simp)
 rw [show ((0 : Nat) : Int) = 0 from rfl, List.drop_zero] at this
 exact this
theorem Z69 {α : Type} (lt : α → α → Bool) (x : α) : ∀ P Q : List α, (∀ y ∈ P, lt x y = true) → Z0s lt x (P ++ Q) = P ++ Z0s lt x Q
 | [], Q, _ => rfl
 | y :: P, Q, h => by
  rw [List.cons_append, Z0s, h y (by simp), cond_true, Z69 lt x P Q fun z hz => h z (by simp [hz])]; rfl
theorem Zip {α : Type} (lt : α → α → Bool) (x : α) : ∀ Q : List α, (∀ y ∈ Q, lt x y = false) → Z0s lt x Q = x :: Q
 | [], _ => rfl
 | y :: Q, h => by rw [Z0s, h y (by simp), cond_false]
theorem Zsj {α : Type} (lt lt' : α → α → Bool) (x : α) : ∀ P Q : List α, (∀ y ∈ P, lt x y = lt' x y) → (∀ y ∈ Q, lt x y = false) → Z0s lt x (P ++ Q) = Z0s lt' x P ++ Q
 | [], Q, _, hq => by rw [List.nil_append, Zip lt x Q hq]; rfl
 | y :: P, Q, hp, hq => by
  rw [List.cons_append, Z0s, Z0s, hp y (by simp)]
  cases lt' x y
  ·rfl
  ·rw [cond_true, cond_true, Zsj lt lt' x P Q (fun z hz => hp z (by simp [hz])) hq]; rfl
def tn (k : Int) : Int := if k = 18 then 0 else if k = 17 then 1 else if k = 25 then 2 else if k = 22 then 3 else if k = 0 then 4 else -1
theorem Zjm (k : Int) : Z38 k = tn k := by
 unfold Z38 tn
 simp only [Z0f]
 by_cases h1 : k = 18
 ·subst h1; rfl
 ·by_cases h2 : k = 17
  ·subst h2; rfl
  ·by_cases h3 : k = 25
   ·subst h3; rfl
   ·by_cases h4 : k = 22
    ·subst h4; rfl
    ·by_cases h5 : k = 0
     ·subst h5; rfl
     ·simp [h1, h2, h3, h4, h5]
theorem Y9i (x y : Action) (k j : Int) (hx : x.Kind = k) (hy : y.Kind = j) (hk : -1 ≤ tn k ∧ tn k ≤ 4) (hj : -1 ≤ tn j ∧ tn j ≤ 4) (hne : tn k ≠ tn j) : ltA x y = decide (tn k < tn j) := by
 unfold ltA Z9p
 have e : decide (tn k - tn j ≠ 0) = true := decide_eq_true (by omega)
 rw [Zfe, Zfe, hx, hy, Zjm, Zjm, Z2a (by omega) (by omega), e, cond_true, decide_eq_decide]
 omega
theorem Zka (x y : Action) (k : Int) (hx : x.Kind = k) (hy : y.Kind = k) (hk : k ≠ 25) : ltA x y = false := by
 unfold ltA Z9p
 rw [Zfe, Zfe, hx, hy, Int.sub_self, show IntKind.i64.wrap 0 = 0 by decide, show decide ((0 : Int) ≠ 0) = false from rfl, cond_false]
 have e1 : (Z0c x).field = 0 := by unfold Z0c; rw [decide_eq_false (by rw [hx]; exact hk)]; rfl
 have e2 : (Z0c y).field = 0 := by unfold Z0c; rw [decide_eq_false (by rw [hy]; exact hk)]; rfl
 rw [e1, e2]; rfl
theorem Yd9 (x y : Action) (hx : x.Kind = 25) (hy : y.Kind = 25) : ltA x y = ltF x y := by
 unfold ltA Z9p ltF
 rw [Zfe, Zfe, hx, hy, Int.sub_self, show IntKind.i64.wrap 0 = 0 by decide, show decide ((0 : Int) ≠ 0) = false from rfl, cond_false]
 have e1 : (Z0c x).field = x.Oxm.Field := by unfold Z0c; rw [decide_eq_true hx]; rfl
 have e2 : (Z0c y).field = y.Oxm.Field := by unfold Z0c; rw [decide_eq_true hy]; rfl
 rw [e1, e2]
 by_cases h : x.Oxm.Field < y.Oxm.Field
 ·rw [decide_eq_true h, cond_true]; rfl
 ·rw [decide_eq_false h, cond_false]
  cases decide (x.Oxm.Field > y.Oxm.Field) <;> rfl
theorem Ze9 : ∀ (l E D C B A : List Action), (∀ y ∈ E, y.Kind = 0) → (∀ y ∈ D, y.Kind = 22) → (∀ y ∈ C, y.Kind = 25) → (∀ y ∈ B, y.Kind = 17) → (∀ y ∈ A, y.Kind = 18) → (∀ y ∈ l, 0 ≤ tn y.Kind) →
  l.foldl (fun R x => Z0s ltA x R) (E ++ (D ++ (C ++ (B ++ A)))) = (cls 0 l).reverse ++ E ++ ((cls 22 l).reverse ++ D ++ ((cls 25 l).foldl (fun R x => Z0s ltF x R) C ++ ((cls 17 l).reverse ++ B ++ ((cls 18 l).reverse ++ A))))
 | [], E, D, C, B, A, _, _, _, _, _, _ => by simp [cls]
 | x :: l, E, D, C, B, A, hE, hD, hC, hB, hA, hl => by
  have hx := hl x (by simp)
  have hl' : ∀ y ∈ l, 0 ≤ tn y.Kind := fun y hy => hl y (by simp [hy])
  have rk : ∀ k : Int, -1 ≤ tn k ∧ tn k ≤ 4 := fun k => by unfold tn; split <;> (try split) <;> (try split) <;> (try split) <;> (try split) <;> omega
  have far : ∀ (y : Action) (k j : Int), x.Kind = k → y.Kind = j → tn k ≠ tn j → ltA x y = decide (tn k < tn j) := fun y k j h1 h2 h3 => Y9i x y k j h1 h2 (rk k) (rk j) h3
  rw [List.foldl_cons]
  have hxk : x.Kind = 18 ∨ x.Kind = 17 ∨ x.Kind = 25 ∨ x.Kind = 22 ∨ x.Kind = 0 := by
   unfold tn at hx
   by_cases h1 : x.Kind = 18
   ·exact .inl h1
   ·by_cases h2 : x.Kind = 17
    ·exact .inr (.inl h2)
    ·by_cases h3 : x.Kind = 25
     ·exact .inr (.inr (.inl h3))
     ·by_cases h4 : x.Kind = 22
      ·exact .inr (.inr (.inr (.inl h4)))
      ·by_cases h5 : x.Kind = 0
       ·exact .inr (.inr (.inr (.inr h5)))
       ·simp [h1, h2, h3, h4, h5] at hx
  have c1 : ∀ k, x.Kind = k → cls k (x :: l) = x :: cls k l := fun k h => by unfold cls; rw [List.filter_cons_of_pos (by simp [h])]
  have c0 : ∀ k, x.Kind ≠ k → cls k (x :: l) = cls k l := fun k h => by unfold cls; rw [List.filter_cons_of_neg (by simp [h])]
  rcases hxk with h | h | h | h | h
  ·rw [Z69 ltA x E _ fun y hy => (far y 18 0 h (hE y hy) (by decide)).trans rfl, Z69 ltA x D _ fun y hy => (far y 18 22 h (hD y hy) (by decide)).trans rfl, Z69 ltA x C _ fun y hy => (far y 18 25 h (hC y hy) (by decide)).trans rfl, Z69 ltA x B _ fun y hy => (far y 18 17 h (hB y hy) (by decide)).trans rfl, Zip ltA x A fun y hy => Zka x y 18 h (hA y hy) (by decide),
    Ze9 l E D C B (x :: A) hE hD hC hB (fun y hy => by rcases List.mem_cons.1 hy with rfl | hy; exact h; exact hA y hy) hl', c1 18 h, c0 17 (by rw [h]; decide), c0 25 (by rw [h]; decide), c0 22 (by rw [h]; decide), c0 0 (by rw [h]; decide)]
   simp
  ·rw [Z69 ltA x E _ fun y hy => (far y 17 0 h (hE y hy) (by decide)).trans rfl, Z69 ltA x D _ fun y hy => (far y 17 22 h (hD y hy) (by decide)).trans rfl, Z69 ltA x C _ fun y hy => (far y 17 25 h (hC y hy) (by decide)).trans rfl, Zip ltA x (B ++ A) fun y hy => (by
    rcases List.mem_append.1 hy with hy | hy
    ·exact Zka x y 17 h (hB y hy) (by decide)
    ·exact (far y 17 18 h (hA y hy) (by decide)).trans rfl)]
   have := Ze9 l E D C (x :: B) A hE hD hC (fun y hy => by rcases List.mem_cons.1 hy with rfl | hy; exact h; exact hB y hy) hA hl'
   rw [List.cons_append] at this
   rw [this, c1 17 h, c0 18 (by rw [h]; decide), c0 25 (by rw [h]; decide), c0 22 (by rw [h]; decide), c0 0 (by rw [h]; decide)]
   simp
  ·rw [Z69 ltA x E _ fun y hy => (far y 25 0 h (hE y hy) (by decide)).trans rfl, Z69 ltA x D _ fun y hy => (far y 25 22 h (hD y hy) (by decide)).trans rfl, Zsj ltA ltF x C (B ++ A) (fun y hy => Yd9 x y h (hC y hy)) (fun y hy => (by
    rcases List.mem_append.1 hy with hy | hy
    ·exact (far y 25 17 h (hB y hy) (by decide)).trans rfl
    ·exact (far y 25 18 h (hA y hy) (by decide)).trans rfl)),
    Ze9 l E D (Z0s ltF x C) B A hE hD (fun y hy => by rcases List.mem_cons.1 ((Zhj ltF x C).mem_iff.1 hy) with rfl | hy; exact h; exact hC y hy) hB hA hl', c1 25 h, c0 18 (by rw [h]; decide), c0 17 (by rw [h]; decide), c0 22 (by rw [h]; decide), c0 0 (by rw [h]; decide)]
   rw [List.foldl_cons]
  ·rw [Z69 ltA x E _ fun y hy => (far y 22 0 h (hE y hy) (by decide)).trans rfl, Zip ltA x (D ++ (C ++ (B ++ A))) fun y hy => (by
    rcases List.mem_append.1 hy with hy | hy
    ·exact Zka x y 22 h (hD y hy) (by decide)
    ·rcases List.mem_append.1 hy with hy | hy
     ·exact (far y 22 25 h (hC y hy) (by decide)).trans rfl
     ·rcases List.mem_append.1 hy with hy | hy
      ·exact (far y 22 17 h (hB y hy) (by decide)).trans rfl
      ·exact (far y 22 18 h (hA y hy) (by decide)).trans rfl)]
   have := Ze9 l E (x :: D) C B A hE (fun y hy => by rcases List.mem_cons.1 hy with rfl | hy; exact h; exact hD y hy) hC hB hA hl'
   rw [List.cons_append] at this
   rw [this, c1 22 h, c0 18 (by rw [h]; decide), c0 17 (by rw [h]; decide), c0 25 (by rw [h]; decide), c0 0 (by rw [h]; decide)]
   simp
  ·rw [Zip ltA x (E ++ (D ++ (C ++ (B ++ A)))) fun y hy => (by
    rcases List.mem_append.1 hy with hy | hy
    ·exact Zka x y 0 h (hE y hy) (by decide)
    ·rcases List.mem_append.1 hy with hy | hy
     ·exact (far y 0 22 h (hD y hy) (by decide)).trans rfl
     ·rcases List.mem_append.1 hy with hy | hy
      ·exact (far y 0 25 h (hC y hy) (by decide)).trans rfl
      ·rcases List.mem_append.1 hy with hy | hy
       ·exact (far y 0 17 h (hB y hy) (by decide)).trans rfl
       ·exact (far y 0 18 h (hA y hy) (by decide)).trans rfl)]
   have := Ze9 l (x :: E) D C B A (fun y hy => by rcases List.mem_cons.1 hy with rfl | hy; exact h; exact hE y hy) hD hC hB hA hl'
   rw [List.cons_append] at this
   rw [this, c1 0 h, c0 18 (by rw [h]; decide), c0 17 (by rw [h]; decide), c0 25 (by rw [h]; decide), c0 22 (by rw [h]; decide)]
   simp
theorem Yf3 (l : List Action) (h : ∀ y ∈ l, 0 ≤ tn y.Kind) : srt ltA l = cls 18 l ++ (cls 17 l ++ (srt ltF (cls 25 l) ++ (cls 22 l ++ cls 0 l))) := by
 unfold srt
 have := Ze9 l [] [] [] [] [] (by simp) (by simp) (by simp) (by simp) (by simp) h
 simp only [List.nil_append, List.append_nil] at this
 rw [this]
 simp
theorem Zgc (k : Int) (p : Action → Bool) (l : List Action) (h : ∀ a, a.Kind = k → p a = true) : cls k (l.filter p) = cls k l := by
 unfold cls
 rw [List.filter_filter]
 apply List.filter_congr
 intro a _
 by_cases hk : a.Kind = k
 ·simp [hk, h a hk]
 ·simp [hk]
theorem Y3v (k : Int) (p : Action → Bool) (l : List Action) (h : ∀ a, a.Kind = k → p a = false) : cls k (l.filter p) = [] := by
 unfold cls
 rw [List.filter_filter, List.filter_eq_nil_iff]
 intro a _
 by_cases hk : a.Kind = k
 ·simp [hk, h a hk]
 ·simp [hk]
theorem Y5o (s : List Action) (h : s.length ≤ 50) : Zcv s = some (Z94 s) := by
 have hlim : lim = 4294967296 := rfl
 have lc : ∀ k, (cls k s).length ≤ 50 := fun k => Nat.le_trans (List.length_filter_le ..) (by omega)
 have l18 := lc 18
 have l17 := lc 17
 have l25 := lc 25
 have l22 := lc 22
 have l0 := lc 0
 have ls : (srt ltF (cls 25 s)).length ≤ 50 := by rw [(Ydx _ _).length_eq]; exact l25
 unfold Zcv Z94
 rw [Zg5 s 18 (by omega), Option.bind_some, Zg5 s 17 (by omega), Option.bind_some, Z1h (by omega), Option.bind_some, Zg5 s 25 (by omega), Option.bind_some, Y1u _ (by omega), Option.bind_some, Z1h (by rw [List.length_append]; omega), Option.bind_some, Zg5 s 22 (by omega), Option.bind_some]
 have hk : ∀ (b : Bool) (a : Action), Z5k b a = true → 0 ≤ tn a.Kind := fun b a ha => by
  unfold Z5k at ha
  rw [Zjm] at ha
  simp only [Bool.not_eq_true', Bool.or_eq_false_iff, decide_eq_false_iff_not] at ha
  omega
 have kp : ∀ (b : Bool) (k : Int), 0 ≤ tn k → k ≠ 0 → ∀ a : Action, a.Kind = k → Z5k b a = true := fun b k hk h0 a ha => by
  unfold Z5k
  rw [Zjm, ha, decide_eq_false (by omega), decide_eq_false h0]; simp
 have hany : (s.any fun a => decide (a.Kind = 22)) = decide (((cls 22 s).length : Int) > 0) := by
  rw [Bool.eq_iff_iff, List.any_eq_true, decide_eq_true_eq]
  constructor
  ·rintro ⟨a, ha, hk⟩
   have : a ∈ cls 22 s := List.mem_filter.2 ⟨ha, hk⟩
   have := List.length_pos_of_mem this
   omega
  ·intro hp
   obtain ⟨a, ha⟩ := List.exists_mem_of_length_pos (show 0 < (cls 22 s).length by omega)
   have := List.mem_filter.1 ha
   exact ⟨a, this.1, this.2⟩
 rw [Yf3 _ (fun y hy => hk _ y (List.mem_filter.1 hy).2), Zgc 18 _ _ (kp _ 18 (by decide) (by decide)), Zgc 17 _ _ (kp _ 17 (by decide) (by decide)), Zgc 25 _ _ (kp _ 25 (by decide) (by decide)), Zgc 22 _ _ (kp _ 22 (by decide) (by decide)), hany]
 cases hg : decide (((cls 22 s).length : Int) > 0)
 ·have e22 : cls 22 s = [] := List.eq_nil_of_length_eq_zero (by rw [decide_eq_false_iff_not] at hg; omega)
  have e0 : cls 0 (s.filter (Z5k false)) = cls 0 s := Zgc 0 _ _ fun a ha => by
   unfold Z5k
   rw [Zjm, ha]; rfl
  rw [cond_false, Zg5 s 0 (by omega), Option.bind_some, Z1h (by simp only [List.length_append]; omega), Option.bind_some, e22, e0]
  simp
 ·have e0 : cls 0 (s.filter (Z5k true)) = [] := Y3v 0 _ _ fun a ha => by
   unfold Z5k
   rw [ha]; simp
  rw [cond_true, Z1h (by simp only [List.length_append]; omega), Option.bind_some, e0]
  simp
end Go.Proofs.YtknpgojdkobgjaaGreat.W
namespace Go.Proofs.YtknpgojdkobgjaaGreat.W
open Go Go.Wb
end Go.Proofs.YtknpgojdkobgjaaGreat.W
namespace Go.Proofs.YtknpgojdkobgjaaGreat.W
open Go Go.Wb
theorem Zmj (acts : List Action) (ha : acts.length ≤ 1000) : ∀ (m i : Nat) (r : Cube) (o : List Atom), i ≤ acts.length → acts.length < i + m → o.length ≤ i → Z5o acts m r o (i : Int) = some (o ++ (doT (acts.drop i) r).1, (doT (acts.drop i) r).2)
 | 0, i, r, o, h1, h2, _ => by omega
 | m + 1, i, r, o, h1, h2, hb => by
  have hlim : lim = 4294967296 := rfl
  rw [Z5o]
  by_cases hi : i < acts.length
  ·rw [decide_eq_true (by omega), cond_true, Z1m hi, Option.bind_some, List.drop_eq_getElem_cons hi, doT]
   unfold Zbl Zl4 Zo7
   by_cases h0 : acts[i].Kind = 0
   ·have hj : ∀ x : Atom, Zfc o (Z5o acts m) r (i : Int) x = some (o ++ x :: (doT (acts.drop (i + 1)) r).1, (doT (acts.drop (i + 1)) r).2) := fun x => by
     unfold Zfc
     rw [Z1h (by simp only [List.length_cons, List.length_nil]; omega), Option.bind_some, inc i (by omega), Zmj acts ha m (i + 1) r _ (by omega) (by omega) (by simp only [List.length_append, List.length_cons, List.length_nil]; omega)]
     simp
    rw [decide_eq_true h0]
    simp only [cond_true, Option.bind_some, Bool.true_or]
    cases hp : decide (acts[i].Port = 4294967293)
    ·simp only [hp, cond_false]
     rw [hj]
    ·simp only [hp, cond_true]
     rw [hj]
   ·rw [decide_eq_false h0]
    simp only [cond_false, Option.bind_some, Bool.false_or]
    by_cases h4 : acts[i].Kind = 22
    ·rw [decide_eq_true h4]
     simp only [cond_true, Option.bind_some]
     rw [Z1h (by simp only [List.length_cons, List.length_nil]; omega), Option.bind_some, inc i (by omega), Zmj acts ha m (i + 1) r _ (by omega) (by omega) (by simp only [List.length_append, List.length_cons, List.length_nil]; omega)]
     simp
    ·rw [decide_eq_false h4]
     simp only [cond_false, Option.bind_some]
     rw [Ycl, Option.bind_some, Zq0, Option.bind_some, inc i (by omega), Zmj acts ha m (i + 1) _ o (by omega) (by omega) (by omega)]
  ·rw [decide_eq_false (by omega), cond_false, List.drop_of_length_le (by omega)]; simp [doT]
theorem Zto (acts : List Action) (r : Cube) (ha : acts.length ≤ 1000) : Zbr acts r = some (doT acts (Z17 r)) := by
 unfold Zbr
 rw [Zq5, Option.bind_some]
 have := Zmj acts ha ((((acts.length : Int) : Int) - 0).toNat + 1) 0 (Z17 r) [] (by omega) (by omega) (by simp)
 rw [show ((0 : Nat) : Int) = 0 from rfl] at this
 rw [this]; simp
end Go.Proofs.YtknpgojdkobgjaaGreat.W
namespace Go.Proofs.YtknpgojdkobgjaaGreat.W
open Go Go.Wb
def acl (x : Atom) : Atom := { x with Rewrite := Z17 x.Rewrite }
theorem Y67 (a b : Atom) : Zfl a b = some (decide (acl a = acl b)) := by
 unfold Zfl
 rw [Zmg, Option.bind_some, Zmg, Option.bind_some]; rfl
theorem Zxr (t : List Atom) : ∀ (s : List Atom) (i : Nat), i + s.length = t.length → Z7d t Zfl s i = some (decide (s.map acl = (t.drop i).map acl))
 | [], i, h => by
  rw [Z7d, List.drop_of_length_le (by simp at h; omega)]; rfl
 | x :: s, i, h => by
  simp only [List.length_cons] at h
  have hi : i < t.length := by omega
  rw [Z7d, Z1m hi, Option.bind_some, Y67, Option.bind_some, Zxr t s (i + 1) (by omega), List.drop_eq_getElem_cons hi, List.map_cons, List.map_cons]
  generalize acl t[i] = y
  generalize acl x = z
  generalize List.map acl s = l
  generalize List.map acl (t.drop (i + 1)) = l'
  by_cases he : z = y
  ·simp [he]
  ·simp [he]
theorem Y12 (a b : List Atom) : Zhe a b = some (decide (a.map acl = b.map acl)) := by
 unfold Zhe Zmf
 by_cases hl : a.length = b.length
 ·rw [decide_eq_false (by omega), cond_false, Zxr b a 0 (by omega)]; rfl
 ·rw [decide_eq_true (by omega), cond_true]
  have : a.map acl ≠ b.map acl := fun e => hl (by have := congrArg List.length e; simpa using this)
  simp [this]
end Go.Proofs.YtknpgojdkobgjaaGreat.W
namespace Go.Proofs.YtknpgojdkobgjaaGreat.W
open Go Go.Wb
end Go.Proofs.YtknpgojdkobgjaaGreat.W
namespace Go.Proofs.YtknpgojdkobgjaaGreat.W
open Go Go.Wb
theorem Y28 (a b : Wide) : Zle a b = some (Z6o a b) := rfl
theorem Zuu (a : Wide) : Zep a = some (Z3q a) := rfl
theorem Zsl (a : Wide) : Zdv a = some (Z3q a) := by
 unfold Zdv
 congr 1
 rw [Y27, Bool.eq_iff_iff]
 obtain ⟨h, l⟩ := a
 simp [Z05]
theorem bvn (i : Nat) (h : i < 18446744073709551616) : ((BitVec.ofInt 64 (i : Int)).toNat : Int) = (i : Int) := by
 rw [BitVec.toNat_ofInt]; omega
theorem Y8h (i : Nat) (h : i < 128) : Z8c (i : Int) = some (Z3y i) := by
 unfold Z8c
 have h1 : (decide ((i : Int) < 0) || decide ((i : Int) > 127)) = false := by simp; omega
 rw [h1, cond_false]
 unfold Z3y
 by_cases h2 : i < 64
 ·rw [Z8p h2, cond_true, decide_eq_true (by omega), cond_true, bvn i (by omega), Zko, Option.bind_some]
  rfl
 ·have e : IntKind.i64.wrap ((i : Int) - 64) = ((i - 64 : Nat) : Int) := by rw [Z2a (by omega) (by omega)]; omega
  rw [Z8m h2, cond_false, decide_eq_false (by omega), cond_false, e, bvn (i - 64) (by omega), Zko, Option.bind_some]
  rfl
theorem Zze (a : Wide) (i : Nat) (h : i < 128) : Zd0 a (i : Int) = some (wt a i) := by
 unfold Zd0
 rw [Zqw i h, Option.bind_some, Y2p, Option.bind_some, Zuu, Option.bind_some, Zzf a i h]
theorem Y1c (a : Wide) (i : Nat) (h : i < 128) : Zhr a (i : Int) = some (wt a i) := by
 unfold Zhr
 rw [Y8h i h, Option.bind_some, Zol, Option.bind_some, Zsl, Option.bind_some, Zzf a i h]
theorem Y71 (n : Nat) (h : n < 18446744073709551616) : Zrj .and .i64 (IntKind.i64.wrap (n : Int)) 127 = ((n % 128 : Nat) : Int) := by
 have e : (BitVec.ofInt 64 (IntKind.i64.wrap (n : Int)) &&& BitVec.ofInt 64 127).toNat = n % 128 := by
  have e1 : BitVec.ofInt 64 (IntKind.i64.wrap (n : Int)) = BitVec.ofNat 64 n := by
   apply BitVec.eq_of_toNat_eq
   rw [BitVec.toNat_ofInt, BitVec.toNat_ofNat]
   simp only [IntKind.wrap, IntKind.signed, IntKind.bits]
   simp
   omega
  have e2 : BitVec.ofInt 64 127 = BitVec.ofNat 64 127 := rfl
  rw [e1, e2, BitVec.toNat_and, BitVec.toNat_ofNat, BitVec.toNat_ofNat, Nat.mod_eq_of_lt h]
  exact Nat.and_two_pow_sub_one_eq_mod n 7
 show IntKind.i64.wrap ((BitVec.ofInt 64 (IntKind.i64.wrap (n : Int)) &&& BitVec.ofInt 64 127).toNat : Int) = _
 rw [e, Z2a (by omega) (by omega)]
def cnt (x : BitVec 64) : Nat := ds 1 64 x.toNat
theorem Zw0 (x : BitVec 64) : Zdy x = some (cnt x : Int) := by
 obtain ⟨h0, ha, hb, hbb, hd, he, hf⟩ := Ycq x.toNat x.isLt
 have sh : ∀ (x : BitVec 64) (n : BitVec 64), Z33 x (n.toNat : Int) = some (x >>> n.toNat) := fun x n => Y37 x n.toNat
 unfold Zdy
 simp only [sh, Option.bind_some]
 congr 1
 have t1 : ((1 : BitVec 64)).toNat = 1 := rfl
 have t2 : ((2 : BitVec 64)).toNat = 2 := rfl
 have t4 : ((4 : BitVec 64)).toNat = 4 := rfl
 have t8 : ((8 : BitVec 64)).toNat = 8 := rfl
 have t16 : ((16 : BitVec 64)).toNat = 16 := rfl
 have t32 : ((32 : BitVec 64)).toNat = 32 := rfl
 rw [t1, t2, t4, t8, t16, t32]
 generalize hA : (x >>> 1 &&& (6148914691236517205 : BitVec 64)) + (x &&& (6148914691236517205 : BitVec 64)) = A
 have eA : A.toNat = (x.toNat / 2 &&& 6148914691236517205) + (x.toNat &&& 6148914691236517205) := by
  rw [← hA, BitVec.toNat_add, BitVec.toNat_and, BitVec.toNat_and, BitVec.toNat_ushiftRight, Nat.shiftRight_eq_div_pow]
  exact Nat.mod_eq_of_lt ha
 generalize hB : (A >>> 2 &&& (3689348814741910323 : BitVec 64)) + (A &&& (3689348814741910323 : BitVec 64)) = B
 have eB : B.toNat = (A.toNat / 4 &&& 3689348814741910323) + (A.toNat &&& 3689348814741910323) := by
  rw [← hB, BitVec.toNat_add, BitVec.toNat_and, BitVec.toNat_and, BitVec.toNat_ushiftRight, Nat.shiftRight_eq_div_pow]
  rw [eA]
  exact Nat.mod_eq_of_lt hb
 generalize hC : (B >>> 4 + B) &&& (1085102592571150095 : BitVec 64) = D
 have eC : D.toNat = (B.toNat / 16 + B.toNat) &&& 1085102592571150095 := by
  rw [← hC, BitVec.toNat_and, BitVec.toNat_add, BitVec.toNat_ushiftRight, Nat.shiftRight_eq_div_pow]
  have : (B.toNat / 2 ^ 4 + B.toNat) % 2 ^ 64 = B.toNat / 16 + B.toNat := by
   rw [eB, eA]
   exact Nat.mod_eq_of_lt hbb
  rw [this]; rfl
 rw [← eA, ← eB, ← eC] at hd he hf h0
 generalize hE : D + D >>> 8 = E
 have eE : E.toNat = D.toNat + D.toNat / 256 := by
  rw [← hE, BitVec.toNat_add, BitVec.toNat_ushiftRight, Nat.shiftRight_eq_div_pow]
  exact Nat.mod_eq_of_lt hd
 rw [← eE] at he hf h0
 generalize hG : E + E >>> 16 = G
 have eG : G.toNat = E.toNat + E.toNat / 65536 := by
  rw [← hG, BitVec.toNat_add, BitVec.toNat_ushiftRight, Nat.shiftRight_eq_div_pow]
  exact Nat.mod_eq_of_lt he
 rw [← eG] at hf h0
 generalize hK : G + G >>> 32 = K
 have eK : K.toNat = G.toNat + G.toNat / 4294967296 := by
  rw [← hK, BitVec.toNat_add, BitVec.toNat_ushiftRight, Nat.shiftRight_eq_div_pow]
  exact Nat.mod_eq_of_lt hf
 rw [← eK] at h0
 rw [Y71 _ K.isLt, h0]
 rfl
theorem Zyx (x : BitVec 64) : cnt x ≤ 64 := by
 unfold cnt
 rw [Zk0]
 exact Nat.le_trans (List.length_filter_le ..) (by simp)
def Z5x (a : Wide) : List Nat := (List.range 128).filter (wt a)
theorem Y1k (a : Wide) : (Z5x a).length = cnt a.Lo + cnt a.Hi := by
 have e : List.range (64 + 64) = List.range 64 ++ (List.range 64).map (64 + ·) := List.range_add
 unfold Z5x cnt
 rw [show (128 : Nat) = 64 + 64 from rfl, e, List.filter_append, List.length_append, Zk0, Zk0, List.filter_map, List.length_map]
 congr 2
theorem Y3s (a : Wide) : Zer a = some ((Z5x a).length : Int) := by
 have h1 := Zyx a.Hi
 have h2 := Zyx a.Lo
 rw [Y1k]
 unfold Zer
 rw [Zw0, Option.bind_some, Zw0, Option.bind_some]
 generalize cnt a.Hi = p at *
 generalize cnt a.Lo = q at *
 rw [Z2a (by omega) (by omega)]
 congr 1
 omega
def Z4x (a : Wide) : Nat → List Int
 | 0 => []
 | n + 1 => bif wt a n then (n : Int) :: Z4x a n else Z4x a n
theorem Zse (a : Wide) : ∀ n, (Z4x a n).length = ((List.range n).filter (wt a)).length
 | 0 => rfl
 | n + 1 => by
  rw [List.range_succ, List.filter_append, List.length_append, Z4x, ← Zse a n]
  cases h : wt a n <;> simp [h]
theorem Zpw (a : Wide) : ∀ (n : Nat) (i : Int), i ∈ Z4x a n ↔ ∃ k : Nat, i = (k : Int) ∧ k < n ∧ wt a k = true
 | 0, i => by simp [Z4x]
 | n + 1, i => by
  rw [Z4x]
  cases h : wt a n
  ·rw [cond_false, Zpw a n i]
   constructor
   ·rintro ⟨k, rfl, h1, h2⟩; exact ⟨k, rfl, by omega, h2⟩
   ·rintro ⟨k, rfl, h1, h2⟩
    have : k ≠ n := fun e => by rw [e, h] at h2; cases h2
    exact ⟨k, rfl, by omega, h2⟩
  ·rw [cond_true, List.mem_cons, Zpw a n i]
   constructor
   ·rintro (rfl | ⟨k, rfl, h1, h2⟩)
    ·exact ⟨n, rfl, by omega, h⟩
    ·exact ⟨k, rfl, by omega, h2⟩
   ·rintro ⟨k, rfl, h1, h2⟩
    by_cases e : k = n
    ·left; rw [e]
    ·right; exact ⟨k, rfl, by omega, h2⟩
theorem Ycp (a : Wide) : ∀ (n m : Nat) (acc : List Int), n ≤ 128 → n < m → acc.length + (Z4x a n).length = (Z5x a).length → Z6r a m acc ((n : Int) - 1) = some (acc ++ Z4x a n) := by
 have hlim : lim = 4294967296 := rfl
 have hup : (Z5x a).length ≤ 128 := by
  unfold Z5x; exact Nat.le_trans (List.length_filter_le ..) (by simp)
 intro n
 induction n with
 | zero =>
  intro m acc h1 h2 h3
  obtain ⟨m, rfl⟩ : ∃ k, m = k + 1 := ⟨m - 1, by omega⟩
  rw [Z6r, decide_eq_false (by omega), Zl8, Option.bind_some, Bool.false_and, cond_false]
  simp [Z4x]
 | succ n ih =>
  intro m acc h1 h2 h3
  obtain ⟨m, rfl⟩ : ∃ k, m = k + 1 := ⟨m - 1, by omega⟩
  have e : ((n + 1 : Nat) : Int) - 1 = (n : Int) := by omega
  rw [e, Z6r, decide_eq_true (by omega), Z47, Y3s, Option.bind_some, Bool.true_and]
  by_cases hc : acc.length < (Z5x a).length
  ·have e2 : IntKind.i64.wrap ((n : Int) - 1) = (n : Int) - 1 := Z2a (by omega) (by omega)
   rw [decide_eq_true (by omega), cond_true, Zze a n (by omega), Option.bind_some, e2, Z4x]
   rw [Z4x] at h3
   cases hw : wt a n
   ·rw [hw, cond_false] at h3
    rw [cond_false, cond_false, ih m acc (by omega) (by omega) h3]
   ·rw [hw, cond_true, List.length_cons] at h3
    rw [cond_true, cond_true, Z1h (by simp; omega), Option.bind_some, ih m _ (by omega) (by omega) (by simp; omega)]
    simp
  ·rw [decide_eq_false (by omega), cond_false]
   have : Z4x a (n + 1) = [] := List.eq_nil_of_length_eq_zero (by omega)
   rw [this]; simp
end Go.Proofs.YtknpgojdkobgjaaGreat.W
namespace Go.Proofs.YtknpgojdkobgjaaGreat.W
open Go Go.Wb
theorem Y9t (t : Tern) : Z8f t = some (Z19 t) := rfl
theorem Zwr (f : Int → Option (Tern × Bool)) (g : Nat → Tern) (hf : ∀ i : Nat, i < 24 → f (i : Int) = some (g i, true)) (b : Cube) : ∀ (m i : Nat), i + m = 24 → Z4z f m i (Z2t g b i) = some (Vector.ofFn (fun i => g i.1), true)
 | 0, i, h => by
  have : i = 24 := by omega
  subst this
  rw [Z4z, Z8r]
 | m + 1, i, h => by
  rw [Z4z, hf i (by omega), Option.bind_some, Bool.not_true, cond_false, Z24 (by omega), Option.bind_some]
  show Z4z f m (i + 1) (Vector.set (Z2t g b i) i (g i) _) = _
  rw [Z8b g b i (by omega), Zwr f g hf b m (i + 1) (by omega)]
theorem Zn9 (c : Cube) : Z9y c = some (Z17 c) := by
 unfold Z9y Zbf
 have := Zwr (fun x => Zeo x c) (fun i => Z19 (ve c i)) (fun i hi => by unfold Zeo; rw [Z24 hi, Option.bind_some, Z2s, Zkg]; rfl) (Vector.replicate 24 zTern) 24 0 rfl
 rw [Z81] at this
 rw [show ((24 : Int)).toNat = 24 from rfl, this]
 rfl
theorem Zx6 (c : Cube) : ∀ (m i : Nat), i ≤ 24 → 24 < i + m → Z8h m (Z2t (fun i => Z19 (ve c i)) c i) (i : Int) = some (Z17 c)
 | 0, i, h1, h2 => by omega
 | m + 1, i, h1, h2 => by
  rw [Z8h]
  by_cases h : i < 24
  ·have e : IntKind.i64.wrap ((i : Int) + 1) = ((i + 1 : Nat) : Int) := by rw [Z2a (by omega) (by omega)]; omega
   rw [decide_eq_true (by omega), cond_true, Z24 h, Option.bind_some, Y9t, Option.bind_some, Option.bind_some, Z2s, Zaz _ _ _ _ h, if_neg (by omega), e]
   show Z8h m (Vector.set (Z2t (fun i => Z19 (ve c i)) c i) i (Z19 (ve c i)) _) _ = _
   rw [Z8b (fun i => Z19 (ve c i)) c i h, Zx6 c m (i + 1) (by omega) (by omega)]
  ·have : i = 24 := by omega
   subst this
   rw [decide_eq_false (by omega), cond_false, Z8r]; rfl
theorem Ydt (c : Cube) : Zgh c = some (Z17 c) := by
 unfold Zgh
 have := Zx6 c (((24 : Int) - 0).toNat + 1) 0 (by omega) (by decide)
 rw [Z81] at this
 exact this
def Y7w (x y : Tern) : Bool := !Z3q (Z2c (Z2c x.Mask y.Mask) (Z6o x.Value y.Value))
def apart (a b : Atom) : Bool := !(a.Group == b.Group) || decide (a.Port ≠ b.Port) || decide (a.Max ≠ b.Max) || (List.range' 0 24).any fun f => Y7w (ve a.Rewrite f) (ve b.Rewrite f)
def Zdc (t : Tern) (i : Nat) (on : Bool) : Tern := bif on then ⟨wor (Z3p (Z19 t).Value (Z3y i)) (Z3y i), wor (Z19 t).Mask (Z3y i)⟩ else ⟨Z3p (Z19 t).Value (Z3y i), wor (Z19 t).Mask (Z3y i)⟩
theorem Zsk (t : Tern) (i : Nat) (h : i < 128) (on : Bool) : Zf7 t (i : Int) on = some (Zdc t i on) := by
 unfold Zf7
 rw [Zqw i h, Option.bind_some, Zkg, Option.bind_some, Zsh, Option.bind_some, Zne, Option.bind_some]
 cases on
 ·rfl
 ·rw [cond_true, Zsh]; rfl
def Y7x (c : Cube) (f bit : Nat) (on : Bool) : Option Cube :=
 bif wt (ve c f).Mask bit && (wt (ve c f).Value bit == on) then none else some (Vector.ofFn fun k => if f = k.1 then Zdc (ve c f) bit (!on) else ve c k.1)
theorem Ydw (c : Cube) (f : Nat) (hf : f < 24) (t : Tern) : Vector.set c f t hf = Vector.ofFn fun k => if f = k.1 then t else ve c k.1 := Zap fun j hj => by
 rw [Zi4 _ _ _ _ _ hj, Zb2 (fun k => if f = k then t else ve c k) j hj]
def sgl (x y : Tern) (k : Nat) : Bool × Bool := bif wt x.Mask k == wt y.Mask k then (false, false) else (true, bif wt x.Mask k then wt x.Value k else wt y.Value k)
def rp (c : Cube) (x y : Tern) (f k : Nat) : Option Cube := bif (sgl x y k).1 then Y7x c f k (sgl x y k).2 else none
def Zmn (t : Tern) (v : Wide) : Bool := Z3q (Z2c (Z6o t.Value v) t.Mask)
theorem Y0d (t : Tern) (v : Wide) : Zmn t v = true ↔ ∀ k, k < 128 → wt t.Mask k = true → wt t.Value k = wt v k := by
 unfold Zmn
 rw [Zhq]
 constructor
 ·intro h k hk hm
  have := h k hk
  rw [Zco, Zog, hm] at this
  revert this
  cases wt t.Value k <;> cases wt v k <;> decide
 ·intro h k hk
  rw [Zco, Zog]
  cases hm : wt t.Mask k
  ·simp
  ·rw [h k hk hm]; simp
theorem Y8y (t : Tern) (v : Wide) : Zik t v = some (Zmn t v) := rfl
end Go.Proofs.YtknpgojdkobgjaaGreat.W
namespace Go.Proofs.YtknpgojdkobgjaaGreat.W
open Go Go.Wb
end Go.Proofs.YtknpgojdkobgjaaGreat.W
namespace Go.Proofs.YtknpgojdkobgjaaGreat.W
open Go Go.Wb
theorem Ztw (k : Int) : -1 ≤ Z38 k ∧ Z38 k ≤ 4 := by
 unfold Z38
 have h1 := Zc4 (fun x => decide (k = x)) [18, 17, 25, 22, 0]
 have h2 := Zhf (fun x => decide (k = x)) [18, 17, 25, 22, 0]
 simp only [List.length_cons, List.length_nil] at h2
 omega
theorem Zkv (a b : Action) : ltA a b = decide (Z38 (Z0c a).kind < Z38 (Z0c b).kind ∨ (Z38 (Z0c a).kind = Z38 (Z0c b).kind ∧ (Z0c a).field < (Z0c b).field)) := by
 have h1 := Ztw (Z0c a).kind
 have h2 := Ztw (Z0c b).kind
 unfold ltA Z9p
 rw [wr (by omega) (by omega)]
 generalize Z38 (Z0c a).kind = x at *
 generalize Z38 (Z0c b).kind = y at *
 generalize (Z0c a).field = f at *
 generalize (Z0c b).field = g at *
 by_cases e : x - y = 0
 ·have e1 : decide (x - y ≠ 0) = false := decide_eq_false (by omega)
  rw [e1, cond_false]
  by_cases h3 : f < g
  ·have e2 : decide (f < g) = true := decide_eq_true h3
   rw [e2, cond_true]
   simp; omega
  ·have e2 : decide (f < g) = false := decide_eq_false h3
   rw [e2, cond_false]
   by_cases h4 : f > g
   ·have e3 : decide (f > g) = true := decide_eq_true h4
    rw [e3, cond_true]
    simp; omega
   ·have e3 : decide (f > g) = false := decide_eq_false h4
    rw [e3, cond_false]
    simp; omega
 ·have e1 : decide (x - y ≠ 0) = true := decide_eq_true (by omega)
  rw [e1, cond_true, decide_eq_decide]
  omega
theorem Zw9 : Swo ltA where
 asym := fun a b h => by
  rw [Zkv, decide_eq_true_eq] at h
  rw [Zkv, decide_eq_false_iff_not]
  omega
 neg := fun a b c h k => by
  rw [Zkv, decide_eq_false_iff_not] at h k
  rw [Zkv, decide_eq_false_iff_not]
  omega
theorem Yeb : Z52 ltA Zdl := fun x y => ⟨Z9p x y, Yc3 x y, rfl⟩
theorem Y4c (s : List Action) (h : s.length ≤ 100000) : Zee s = some (Z94 s) := by
 have hlim : lim = 4294967296 := rfl
 unfold Zee Z63 Z94
 rw [Y2w s Zkp (fun a => decide (a.Kind = 22)) (fun _ _ => rfl), Option.bind_some, Z1h (by simp; omega), Option.bind_some, List.nil_append]
 have hf : ∀ a : Action, Zdk a (s.any fun a => decide (a.Kind = 22)) = some (!Z5k (s.any fun a => decide (a.Kind = 22)) a) := fun a => by
  unfold Zdk Z5k
  rw [Zoq, Option.bind_some, Bool.not_not]
 rw [Y5r s _ (fun a => !Z5k (s.any fun a => decide (a.Kind = 22)) a) (fun a _ => hf a) (by omega), Option.bind_some]
 simp only [Bool.not_not]
 rw [Ycg Zw9 Yeb _ (Nat.le_trans (List.length_filter_le ..) h)]
 rfl
theorem Zok (s : List Action) : (Z94 s).length ≤ s.length := by
 unfold Z94
 rw [Z2q Zw9]
 exact List.length_filter_le ..
def Z30 (a b : Tern) : Option Tern := bif Z3q (Z2c (Z6o a.Value b.Value) (Z2c a.Mask b.Mask)) then some ⟨wor (Z19 a).Value (Z19 b).Value, wor a.Mask b.Mask⟩ else none
def Z1s {α : Type} (z : α) : Option α → α × Bool
 | some a => (a, true)
 | none => (z, false)
theorem Zvh (a b : Tern) : Zd3 a b = some (Z1s zTern (Z30 a b)) := by
 have h : Zd3 a b = bif !(Z3q (Z2c (Z6o a.Value b.Value) (Z2c a.Mask b.Mask))) then some (zTern, false) else some (⟨wor (Z19 a).Value (Z19 b).Value, wor a.Mask b.Mask⟩, true) := rfl
 rw [h]
 unfold Z30
 cases Z3q (Z2c (Z6o a.Value b.Value) (Z2c a.Mask b.Mask)) <;> rfl
def Z50 (g : Nat → Option Tern) : Option Cube := bif (List.range 24).all (fun i => (g i).isSome) then some (Vector.ofFn fun i => (g i.1).getD zTern) else none
theorem Zud {g : Nat → Option Tern} {c : Cube} (h : Z50 g = some c) (i : Nat) (hi : i < 24) : g i = some (ve c i) := by
 unfold Z50 at h
 cases ha : (List.range 24).all (fun i => (g i).isSome)
 ·rw [ha] at h; cases h
 ·rw [ha, cond_true] at h
  rw [List.all_eq_true] at ha
  have h1 := ha i (by simpa using hi)
  obtain ⟨x, hx⟩ := Option.isSome_iff_exists.1 h1
  rw [← Option.some.inj h, Zb2 (fun i => (g i).getD zTern) i hi, hx]; rfl
theorem Y7u {g : Nat → Option Tern} (h : Z50 g = none) : ∃ i, i < 24 ∧ g i = none := by
 unfold Z50 at h
 cases ha : (List.range 24).all (fun i => (g i).isSome)
 ·rw [List.all_eq_false] at ha
  obtain ⟨i, hi, h1⟩ := ha
  exact ⟨i, by simpa using hi, by simpa using h1⟩
 ·rw [ha] at h; cases h
theorem Y5h {g : Nat → Option Tern} {c : Cube} (h : ∀ i, i < 24 → g i = some (ve c i)) : Z50 g = some c := by
 cases hc : Z50 g with
 | none => obtain ⟨i, hi, h1⟩ := Y7u hc; rw [h i hi] at h1; cases h1
 | some d =>
  congr 1
  refine Zap fun i hi => ?_
  have := Zud hc i hi
  rw [h i hi] at this
  exact (Option.some.inj this).symm
theorem Zu0 {g : Nat → Option Tern} (i : Nat) (hi : i < 24) (h : g i = none) : Z50 g = none := by
 cases hc : Z50 g with
 | none => rfl
 | some c => have := Zud hc i hi; rw [h] at this; cases this
theorem Zxm (f : Int → Option (Tern × Bool)) (g : Nat → Option Tern) (hf : ∀ i : Nat, i < 24 → f (i : Int) = some (Z1s zTern (g i))) : ∀ (m i : Nat) (b : Cube), i + m = 24 → (∀ j, j < i → g j = some (ve b j)) →
  Z4z f m i b = some (Z1s Z29 (Z50 g))
 | 0, i, b, h, hb => by
  rw [Z4z, Y5h (c := b) (fun j hj => hb j (by omega))]; rfl
 | m + 1, i, b, h, hb => by
  rw [Z4z, hf i (by omega), Option.bind_some]
  cases hg : g i with
  | none =>
   rw [Zu0 i (by omega) hg]; rfl
  | some t =>
   show (chk 24 (i : Int)).bind _ = _
   rw [Z24 (by omega), Option.bind_some]
   refine Zxm f g hf m (i + 1) _ (by omega) fun j hj => ?_
   rw [Zi4 _ _ _ _ _ (by omega)]
   by_cases e : i = j
   ·subst e; rw [if_pos rfl, hg]; rfl
   ·rw [if_neg e]; exact hb j (by omega)
theorem Ycb (f : Int → Option (Tern × Bool)) (g : Nat → Option Tern) (hf : ∀ i : Nat, i < 24 → f (i : Int) = some (Z1s zTern (g i))) : Zbf f = some (Z1s Z29 (Z50 g)) := by
 unfold Zbf
 exact Zxm f g hf 24 0 _ rfl fun j hj => by omega
def Z4w (a b : Cube) : Option Cube := Z50 fun i => Z30 (ve a i) (ve b i)
theorem Zpz (a b : Cube) : Z8i a b = some (Z1s Z29 (Z4w a b)) := by
 unfold Z8i
 rw [Ycb _ (fun i => Z30 (ve a i) (ve b i)) (fun i hi => by unfold Zj2; rw [Z24 hi, Option.bind_some, Option.bind_some, Z2s, Z2s, Zvh]; rfl)]
 rfl
def Z5d (r c : Cube) : Option Cube := bif (List.range 24).all (fun i => (Z30 (ve r i) (ve c i)).isSome) then some (Vector.ofFn fun i => Z19 ⟨(ve c i.1).Value, Z3p (ve c i.1).Mask (ve r i.1).Mask⟩) else none
theorem Zsp (f : Int → Option Tern) (g : Nat → Tern) (hf : ∀ i : Nat, i < 24 → f (i : Int) = some (g i)) (b : Cube) : ∀ (m i : Nat), i + m = 24 → Z5v f m i (Z2t g b i) = some (Vector.ofFn (fun i => g i.1))
 | 0, i, h => by
  have : i = 24 := by omega
  subst this
  rw [Z5v, Z8r]
 | m + 1, i, h => by
  rw [Z5v, hf i (by omega), Option.bind_some, Z24 (by omega), Option.bind_some]
  show Z5v f m (i + 1) (Vector.set (Z2t g b i) i (g i) _) = _
  rw [Z8b g b i (by omega), Zsp f g hf b m (i + 1) (by omega)]
theorem Y2e (f : Int → Option Tern) (g : Nat → Tern) (hf : ∀ i : Nat, i < 24 → f (i : Int) = some (g i)) : Zh7 f = some (Vector.ofFn (fun i => g i.1)) := by
 unfold Zh7
 have := Zsp f g hf (Vector.replicate 24 zTern) 24 0 rfl
 rw [Z81] at this
 exact this
theorem Zsn (r c : Cube) : ∀ (l : List Tern) (i : Nat), i + l.length = 24 → l = (Vector.toList r).drop i → (∀ j, j < i → (Z30 (ve r j) (ve c j)).isSome = true) → Z7i c r l i = some (Z1s Z29 (Z5d r c))
 | [], i, h1, h2, h3 => by
  have hi : i = 24 := by simpa using h1
  subst hi
  have hall : (List.range 24).all (fun i => (Z30 (ve r i) (ve c i)).isSome) = true := by
   rw [List.all_eq_true]; intro i hi; exact h3 i (by simpa using hi)
  unfold Z5d
  rw [hall, cond_true, Z7i, Y2e _ (fun i => Z19 ⟨(ve c i).Value, Z3p (ve c i).Mask (ve r i).Mask⟩) (fun i hi => by
   unfold Zh6
   rw [Z24 hi, Option.bind_some, Option.bind_some, Option.bind_some, Z2s, Z2s]; rfl)]
  rfl
 | x :: l, i, h1, h2, h3 => by
  simp only [List.length_cons] at h1
  have hi : i < (Vector.toList r).length := by simp; omega
  rw [List.drop_eq_getElem_cons hi] at h2
  obtain ⟨rfl, h4⟩ := List.cons.inj h2
  have hx : (Vector.toList r)[i] = ve r i := by rw [Vector.getElem_toList, Z62 _ _ (by omega)]
  rw [Z7i, hx, Z24 (by omega), Option.bind_some, Z2s, Zvh, Option.bind_some]
  cases hm : Z30 (ve r i) (ve c i) with
  | none =>
   have hall : (List.range 24).all (fun i => (Z30 (ve r i) (ve c i)).isSome) = false := by
    rw [List.all_eq_false]
    exact ⟨i, by simp; omega, by simp [hm]⟩
   unfold Z5d
   rw [hall]; rfl
  | some t =>
   exact Zsn r c l (i + 1) (by omega) h4 fun j hj => by
    by_cases e : j = i
    ·subst e; rw [hm]; rfl
    ·exact h3 j (by omega)
theorem Yb9 (r c : Cube) : Zil r c = some (Z1s Z29 (Z5d r c)) := by
 unfold Zil
 exact Zsn r c (Vector.toList r) 0 (by simp) rfl fun j hj => by omega
def Zbt (c : Cube) (o : Oxm) : Cube := if h : 0 ≤ o.Field ∧ o.Field.toNat < 24 then Vector.set c o.Field.toNat (oxT o) h.2 else c
theorem Zwq (c : Cube) (o : Oxm) (n : Nat) (hn : o.Field = (n : Int)) (h : n < 24) : Zbt c o = Vector.set c n (oxT o) h := by
 unfold Zbt
 rw [dif_pos (by omega)]
 simp [hn]
theorem Zvm (c : Cube) (o : Oxm) (h : ¬ (0 ≤ o.Field ∧ o.Field < 24)) : Zbt c o = c := by
 unfold Zbt
 rw [dif_neg (by omega)]
theorem Zqt : ∀ (l : List Oxm) (i : Nat) (c : Cube), Z6i l i c = some (l.foldl Zbt c)
 | [], i, c => rfl
 | o :: l, i, c => by
  rw [Z6i, List.foldl_cons]
  unfold Z7k
  rw [Option.bind_some]
  by_cases h : 0 ≤ o.Field ∧ o.Field < 24
  ·obtain ⟨n, hn⟩ : ∃ n : Nat, o.Field = (n : Int) := ⟨o.Field.toNat, by omega⟩
   have hn24 : n < 24 := by have := h.2; omega
   have hd : (decide (o.Field ≥ 0) && decide (o.Field < 24)) = true := by simp; omega
   have hc : chk 24 o.Field = some ⟨n, hn24⟩ := by rw [hn]; exact Z24 hn24
   rw [hd, cond_true, Zxw, Option.bind_some, hc, Option.bind_some, Zwq c o n hn hn24, Zqt l (i + 1)]
  ·have hd : (decide (o.Field ≥ 0) && decide (o.Field < 24)) = false := by
    rw [Bool.and_eq_false_iff, decide_eq_false_iff_not, decide_eq_false_iff_not]; omega
   rw [hd, cond_false, Zvm c o h, Zqt l (i + 1)]
def Yan (l : List Oxm) : Cube := l.foldl Zbt Z29
def Zef (f : Flow) : Cube := Z17 (Yan f.Match)
theorem Y13 (f : Flow) : Zis f = some (Zef f) := by
 unfold Zis Zlb Zea
 rw [Option.bind_some, Zqt, Option.bind_some, Zn9]; rfl
def ofI (l : List Inst) (k : Int) : Option Inst := l.find? fun i => decide (i.Kind = k)
theorem Ztn (s : List Inst) (f : Inst → Option Bool) (p : Inst → Bool) (hf : ∀ x ∈ s, f x = some (p x)) : Zd1 s f = some (Z0f p s) := by
 unfold Zd1
 rw [show ((s.length : Int)).toNat = s.length by omega]
 exact Zde p (fun i => by rw [Z9e]) (fun m i => by rw [Z9e]) hf
def Zo2 : Inst := ⟨0, 0, Z05, Z05, []⟩
theorem Zht (l : List Inst) (k : Int) (hl : ∀ i ∈ l, i.Acts.length ≤ 12) : Z8z l k = some (Z1s Zo2 (ofI l k)) := by
 have hlim : lim = 4294967296 := rfl
 unfold Z8z ofI
 rw [Ztn l (fun x => Zio x k) (fun i => decide (i.Kind = k)) (fun _ _ => rfl), Option.bind_some]
 rcases Zps (fun i : Inst => decide (i.Kind = k)) l with ⟨h1, h2⟩ | ⟨n, h1, h2, h3, h4⟩
 ·rw [decide_eq_true h1, cond_true, h2]; rfl
 ·have := hl _ (List.getElem_mem h2)
  rw [decide_eq_false (by omega), cond_false, h1, Z1m h2, Option.bind_some, h3]
  unfold Z63
  rw [Z1h (by simp; omega), Option.bind_some]
  rfl
theorem Ze5 {l : List Inst} {k : Int} {i : Inst} (h : ofI l k = some i) : i ∈ l := List.mem_of_find?_eq_some h
end Go.Proofs.YtknpgojdkobgjaaGreat.W
namespace Go.Proofs.YtknpgojdkobgjaaGreat.W
open Go Go.Wb
end Go.Proofs.YtknpgojdkobgjaaGreat.W
namespace Go.Proofs.YtknpgojdkobgjaaGreat.W
open Go Go.Wb
def Zd9 (x a : Tern) : List Int := Z4x (Z3p x.Mask a.Mask) 128
theorem Yb2 (a x : Tern) : Zg7 a x = some (Zd9 x a) := by
 unfold Zg7 Zd9
 rw [Zne, Option.bind_some]
 have := Ycp (Z3p x.Mask a.Mask) 128 Z0x [] (by omega) (by unfold Z0x; omega) (by rw [Zse]; simp [Z5x])
 simpa using this
def Zg4 (c : Cube) (f : Nat) (t : Tern) : Cube := Vector.ofFn fun k => if f = k.1 then t else ve c k.1
theorem Zrt (c : Cube) (f : Nat) (hf : f < 24) (t : Tern) : Vector.set c f t hf = Zg4 c f t := Ydw c f hf t
def Zaa (xv : Wide) (f : Nat) : List Int → Cube → List Cube × Cube
 | [], left => ([], left)
 | i :: l, left => (Zg4 left f (Zdc (ve left f) i.toNat (!wt xv i.toNat)) :: (Zaa xv f l (Zg4 left f (Zdc (ve left f) i.toNat (wt xv i.toNat)))).1, (Zaa xv f l (Zg4 left f (Zdc (ve left f) i.toNat (wt xv i.toNat)))).2)
def Zi9 (x : Cube) : Nat → Nat → Cube → List Cube
 | 0, f, left => []
 | m + 1, f, left => (Zaa (ve x f).Value f (Zd9 (ve x f) (ve left f)) left).1 ++ Zi9 x m (f + 1) (Zaa (ve x f).Value f (Zd9 (ve x f) (ve left f)) left).2
def Z4f (a x : Cube) : Bool := (Z4w a x).isSome
def Zcs (a x : Cube) : List Cube := bif Z4f a x then Zi9 x 24 0 (Z17 a) else [Z17 a]
def Zuk (l : List Int) : Prop := ∀ i ∈ l, ∃ k : Nat, i = (k : Int) ∧ k < 128
theorem Yf2 (x a : Tern) : Zuk (Zd9 x a) := fun i hi => by
 obtain ⟨k, h1, h2, _⟩ := (Zpw _ _ _).1 hi
 exact ⟨k, h1, h2⟩
theorem Zup (sg : Type) (y : sg → Cube → Option (Lp sg)) (go : Nat → Cube → Lp sg → Option (Lp sg)) (f : Nat) (hf : f < 24) (x : Tern) : ∀ (l : List Int) (k : Nat) (left : Cube) (s : sg), Zuk l →
  Z88 sg go f x y l k left (.go s) = (yf y (Zaa x.Value f l left).1 s).bind fun r => match r with
   | .go s' => go (f + 1) (Zaa x.Value f l left).2 (.go s')
   | .out c s' => some (.out c s')
 | [], k, left, s, _ => rfl
 | i :: l, k, left, s, hl => by
  obtain ⟨b, rfl, hb⟩ := hl i (by simp)
  have ih := fun left s => Zup sg y go f hf x l (k + 1) left s fun j hj => hl j (by simp [hj])
  rw [Z88, Zze _ b hb, Option.bind_some, Z24 hf, Option.bind_some, Z2s, Zsk _ b hb, Option.bind_some, Option.bind_some, Zrt]
  rw [Zaa, Int.toNat_natCast, yf]
  show (y s _).bind _ = _
  cases y s (Zg4 left f (Zdc (ve left f) b (!wt x.Value b))) with
  | none => rfl
  | some r =>
   cases r with
   | out c q => rfl
   | go q =>
    simp only [Option.bind_some, Lp.isGo, Bool.not_true, cond_false]
    rw [Z2s, Zsk _ b hb, Option.bind_some, Zrt, ih]
theorem Zyg (sg : Type) (y : sg → Cube → Option (Lp sg)) (x : Cube) : ∀ (l : List Tern) (f : Nat) (left : Cube) (s : sg), f + l.length = 24 → l = (Vector.toList x).drop f →
  Z7c sg y l f left (.go s) = yf y (Zi9 x l.length f left) s
 | [], f, left, s, h1, h2 => rfl
 | t :: l, f, left, s, h1, h2 => by
  simp only [List.length_cons] at h1
  have hi : f < (Vector.toList x).length := by simp; omega
  rw [List.drop_eq_getElem_cons hi] at h2
  obtain ⟨rfl, h3⟩ := List.cons.inj h2
  have hx : (Vector.toList x)[f] = ve x f := by rw [Vector.getElem_toList, Z62 _ _ (by omega)]
  have ih := fun left s => Zyg sg y x l (f + 1) left s (by omega) h3
  rw [Z7c, Z24 (by omega), Option.bind_some, Z2s, hx, Yb2, Option.bind_some, List.length_cons, Zi9, Zp3]
  cases hb : Zd9 (ve x f) (ve left f) with
  | nil =>
   rw [decide_eq_true (by simp), cond_true, ih]
   rfl
  | cons i bl =>
   rw [decide_eq_false (by simp; omega), cond_false, Zup sg y _ f (by omega) (ve x f) _ 0 left s (by rw [← hb]; exact Yf2 _ _)]
   cases yf y (Zaa (ve x f).Value f (i :: bl) left).1 s with
   | none => rfl
   | some r =>
    cases r with
    | out c q => rfl
    | go q => exact ih _ q
theorem Y4o (sg : Type) (y : sg → Cube → Option (Lp sg)) (a x : Cube) (s : sg) : Z9x sg y (.go s) a x = yf y (Zcs a x) s := by
 unfold Z9x Zcs Z4f
 rw [Zn9, Option.bind_some, Zpz, Option.bind_some]
 cases Z4w a x with
 | none =>
  show (bif (!false) then _ else _) = yf y [Z17 a] s
  rw [Bool.not_false, cond_true, yf]
  show (y s (Z17 a)).bind _ = _
  cases y s (Z17 a) with
  | none => rfl
  | some r => cases r <;> rfl
 | some z =>
  show (bif (!true) then _ else _) = yf y (Zi9 x 24 0 (Z17 a)) s
  rw [Bool.not_true, cond_false]
  have := Zyg sg y x (Vector.toList x) 0 (Z17 a) s (by simp) rfl
  rw [this]; simp
theorem Y9k (a x : Cube) : Z4f a x = (List.range' 0 24).all fun f => (Z30 (ve a f) (ve x f)).isSome := by
 unfold Z4f Z4w Z50
 rw [List.range_eq_range']
 cases (List.range' 0 24).all fun f => (Z30 (ve a f) (ve x f)).isSome <;> rfl
end Go.Proofs.YtknpgojdkobgjaaGreat.W
namespace Go.Proofs.YtknpgojdkobgjaaGreat.W
open Go Go.Wb
def Zdt (a b : Tern) : Bool := Z3q (Z3p b.Mask a.Mask) && Zmn b a.Value
theorem Y6b (a b : Tern) : Zgw a b = some (Zdt a b) := by
 unfold Zgw Zdt
 rw [Zne, Option.bind_some, Zuu, Option.bind_some, Y8y]
 cases Z3q (Z3p b.Mask a.Mask) <;> rfl
def Z5g (a b : Cube) : Bool := (List.range' 0 24).all fun f => Zdt (ve a f) (ve b f)
theorem Zvo (a b : Cube) : ∀ (l : List Tern) (i : Nat), i + l.length = 24 → l = (Vector.toList a).drop i → Z70 b l i = some ((List.range' i l.length).all fun f => Zdt (ve a f) (ve b f))
 | [], i, h1, h2 => by rw [Z70]; rfl
 | x :: l, i, h1, h2 => by
  simp only [List.length_cons] at h1
  have hi : i < (Vector.toList a).length := by simp; omega
  rw [List.drop_eq_getElem_cons hi] at h2
  obtain ⟨rfl, h3⟩ := List.cons.inj h2
  have hx : (Vector.toList a)[i] = ve a i := by rw [Vector.getElem_toList, Z62 _ _ (by omega)]
  rw [Z70, Z24 (by omega), Option.bind_some, Z2s, Y6b, Option.bind_some, Zvo a b l (i + 1) (by omega) h3, List.length_cons, List.range'_succ, List.all_cons, hx]
  cases Zdt (ve a i) (ve b i) <;> rfl
theorem Y85 (a b : Cube) : Zjq a b = some (Z5g a b) := by
 unfold Zjq Z5g
 have := Zvo a b (Vector.toList a) 0 (by simp) rfl
 rw [this]; simp
theorem Y2t {a b : Cube} (h : Z5g a b = true) : Z4f a b = true := by
 rw [Y9k]
 unfold Z5g at h
 rw [List.all_eq_true] at h ⊢
 intro f hf
 have h1 := h f hf
 unfold Zdt at h1
 rw [Bool.and_eq_true] at h1
 have h2 := (Y0d _ _).1 h1.2
 unfold Z30
 have : Z3q (Z2c (Z6o (ve a f).Value (ve b f).Value) (Z2c (ve a f).Mask (ve b f).Mask)) = true := (Zhq _).2 fun k hk => by
  have h3 := h2 k hk
  simp only [Zco, Zog]
  revert h3
  cases wt (ve b f).Mask k <;> cases wt (ve a f).Mask k <;> cases wt (ve a f).Value k <;> cases wt (ve b f).Value k <;> simp
 rw [this]; rfl
def Zr5 (c : Cube) : Header := Vector.ofFn fun f => (Z19 (ve c f.1)).Value
theorem Zxn (c : Cube) (b : Header) : ∀ (l : List Tern) (i : Nat), i + l.length = 24 → l = (Vector.toList c).drop i → Z6a l i (Z2t (fun f => (Z19 (ve c f)).Value) b i) = some (Zr5 c)
 | [], i, h1, h2 => by
  have : i = 24 := by simpa using h1
  subst this
  rw [Z6a, Z8r]; rfl
 | x :: l, i, h1, h2 => by
  simp only [List.length_cons] at h1
  have hi : i < (Vector.toList c).length := by simp; omega
  rw [List.drop_eq_getElem_cons hi] at h2
  obtain ⟨rfl, h3⟩ := List.cons.inj h2
  have hx : (Vector.toList c)[i] = ve c i := by rw [Vector.getElem_toList, Z62 _ _ (by omega)]
  rw [Z6a, Zkg, Option.bind_some, Z24 (by omega), Option.bind_some, hx]
  show Z6a l (i + 1) (Vector.set (Z2t (fun f => (Z19 (ve c f)).Value) b i) i ((Z19 (ve c i)).Value) _) = _
  rw [Z8b (fun f => (Z19 (ve c f)).Value) b i (by omega), Zxn c b l (i + 1) (by omega) h3]
theorem Y91 (c : Cube) : Zi0 c = some (Zr5 c) := by
 unfold Zi0
 have := Zxn c (Vector.replicate 24 Z05) (Vector.toList c) 0 (by simp) rfl
 rw [Z81] at this
 exact this
def Z3r : Header := Vector.replicate 24 Z05
def Z4p (c : Cube) : List Cube → Nat → Option Nat
 | [], i => none
 | x :: l, i => bif Z4f c x then some i else Z4p c l (i + 1)
def Z2i (R : Cube → Int → Header × Bool × Int) : List Cube → Int → Header × Bool × Int
 | [], n => (Z3r, false, n)
 | p :: ps, n => bif (R p n).2.1 || decide ((R p n).2.2 < 0) then R p n else Z2i R ps (R p n).2.2
def Z2x (free : Bool) : Nat → Cube → List Cube → Int → Header × Bool × Int
 | 0, _, _, _ => (Z3r, false, -1)
 | d + 1, c, l, n => bif !free && decide (n < 1) then (Z3r, false, -1) else
   bif l.any (Z5g c) then (Z3r, false, bif free then n else n - 1) else
    match Z4p c l 0 with
    | none => (Zr5 c, true, bif free then n else n - 1)
    | some i => match l[i]? with
     | none => (Z3r, false, -1)
     | some x => Z2i (fun p m => Z2x free d p (l.drop (i + 1)) m) (Zcs c x) (bif free then n else n - 1)
theorem Zwl (c : Cube) : ∀ (l : List Cube) (k : Nat), match Z4p c l k with
  | none => ∀ x ∈ l, Z4f c x = false
  | some i => ∃ j, i = k + j ∧ ∃ h : j < l.length, Z4f c l[j] = true ∧ ∀ x ∈ l.take j, Z4f c x = false
 | [], k => by simp [Z4p]
 | x :: l, k => by
  rw [Z4p]
  cases hm : Z4f c x
  ·rw [cond_false]
   have ih := Zwl c l (k + 1)
   cases hf : Z4p c l (k + 1) with
   | none =>
    rw [hf] at ih
    intro y hy
    rcases List.mem_cons.1 hy with rfl | hy
    ·exact hm
    ·exact ih y hy
   | some i =>
    rw [hf] at ih
    obtain ⟨j, h1, h2, h3, h4⟩ := ih
    refine ⟨j + 1, by omega, by simpa using h2, by simpa using h3, fun y hy => ?_⟩
    rw [List.take_succ_cons] at hy
    rcases List.mem_cons.1 hy with rfl | hy
    ·exact hm
    ·exact h4 y hy
  ·rw [cond_true]
   exact ⟨0, by omega, by simp, by simpa using hm, by simp⟩
theorem Znq {R : Cube → Int → Header × Bool × Int} (hR : ∀ p m, (R p m).2.1 = false → (R p m).1 = Z3r) : ∀ (ps : List Cube) (n : Int), (Z2i R ps n).2.1 = false → (Z2i R ps n).1 = Z3r
 | [], n, _ => rfl
 | p :: ps, n, h => by
  rw [Z2i] at h ⊢
  cases hc : (R p n).2.1 || decide ((R p n).2.2 < 0)
  ·rw [hc, cond_false] at h
   rw [cond_false]
   exact Znq hR ps _ h
  ·rw [hc, cond_true] at h
   rw [cond_true]
   exact hR _ _ h
theorem Zof (free : Bool) : ∀ (d : Nat) (c : Cube) (l : List Cube) (n : Int), (Z2x free d c l n).2.1 = false → (Z2x free d c l n).1 = Z3r
 | 0, c, l, n, _ => rfl
 | d + 1, c, l, n, h => by
  rw [Z2x] at h ⊢
  cases h1 : !free && decide (n < 1)
  ·rw [h1, cond_false] at h
   rw [cond_false]
   cases h2 : l.any (Z5g c)
   ·rw [h2, cond_false] at h
    rw [cond_false]
    cases h3 : Z4p c l 0 with
    | none => rw [h3] at h; cases h
    | some i =>
     rw [h3] at h
     simp only at h ⊢
     cases h4 : l[i]? with
     | none => rfl
     | some x =>
      rw [h4] at h
      simp only at h ⊢
      exact Znq (fun p m => Zof free d p _ m) _ _ h
   ·rfl
  ·rfl
end Go.Proofs.YtknpgojdkobgjaaGreat.W
namespace Go.Proofs.YtknpgojdkobgjaaGreat.W
open Go Go.Wb
theorem Zyc {α : Type} (z : α) (o : Option α) : (Z1s z o).2 = o.isSome := by cases o <;> rfl
def Z9z (c : Cube) (l : List Cube) (i : Nat) (first : Int) : Int := bif decide (first < 0) then (match Z4p c l i with | none => first | some k => (k : Int)) else first
theorem Zlm (c : Cube) : ∀ (l : List Cube) (i : Nat) (first : Int), ∃ j : Int, Z5m c l i first = some (bif l.any (Z5g c) then (true, j) else (false, Z9z c l i first))
 | [], i, first => by
  refine ⟨0, ?_⟩
  rw [Z5m]
  unfold Z9z Z4p
  cases decide (first < 0) <;> rfl
 | x :: l, i, first => by
  rw [Z5m, Zpz, Option.bind_some, Zyc, List.any_cons]
  show ∃ j, (bif !(Z4f c x) then _ else _) = _
  cases hm : Z4f c x
  ·have hw : Z5g c x = false := by
    cases hw : Z5g c x
    ·rfl
    ·rw [Y2t hw] at hm; cases hm
   obtain ⟨j, hj⟩ := Zlm c l (i + 1) first
   refine ⟨j, ?_⟩
   rw [Bool.not_false, cond_true, hw, Bool.false_or, hj]
   unfold Z9z
   rw [Z4p, hm, cond_false]
  ·rw [Bool.not_true, cond_false, Y85, Option.bind_some]
   cases hw : Z5g c x
   ·rw [cond_false, Bool.false_or]
    have hf : ∀ f : Int, Z9z c (x :: l) i f = bif decide (f < 0) then (i : Int) else f := fun f => by
     unfold Z9z
     rw [Z4p, hm, cond_true]
    by_cases h : first < 0
    ·obtain ⟨j, hj⟩ := Zlm c l (i + 1) (i : Int)
     refine ⟨j, ?_⟩
     rw [decide_eq_true h, cond_true, hj, hf, decide_eq_true h, cond_true]
     unfold Z9z
     rw [decide_eq_false (by omega), cond_false]
    ·obtain ⟨j, hj⟩ := Zlm c l (i + 1) first
     refine ⟨j, ?_⟩
     rw [decide_eq_false h, cond_false, hj, hf, decide_eq_false h, cond_false]
     unfold Z9z
     rw [decide_eq_false h, cond_false]
   ·exact ⟨_, rfl⟩
theorem Zus {α : Type} (l : List α) (i : Nat) (h : i ≤ l.length) : Z5c l (i : Int) = some (l.drop i) := by
 unfold Z5c
 rw [decide_eq_true (by omega), Int.toNat_natCast, Nat.ble_eq_true_of_le h]; rfl
def cl (n : Int) (free : Bool) : cover_look := ⟨⟨n, free⟩⟩
def Zdi (free : Bool) (N : Int) (f : Option (Header × Bool × Bool × cover_look)) (n : Int) (r : Header × Bool × Int) : Prop :=
 ∃ s', f = some (r.1, r.2.1, decide (0 ≤ r.2.2), s') ∧ (0 ≤ r.2.2 → s' = cl r.2.2 free ∧ r.2.2 ≤ N)
theorem Zux (free : Bool) (N : Int) (l : List Cube) (i : Nat) (hi : i < l.length) (hN : N < 9223372036854775808) (x10 : Bool × Int) (hx : x10.2 = (i : Int)) (hl : l.length < 4294967296) (R : cover_look → Cube → List Cube → Option (Header × Bool × Bool × cover_look)) (R' : Cube → Int → Header × Bool × Int)
  (hR : ∀ p n, 0 ≤ n → n ≤ N → Zdi free N (R (cl n free) p (l.drop (i + 1))) n (R' p n)) (hn : ∀ p m, (R' p m).2.1 = false → (R' p m).1 = Z3r) : ∀ (ps : List Cube) (n : Int), 0 ≤ n → n ≤ N →
  ∃ s', yf (fun (s : cover_look × Header × Bool × Bool) x => Z8q l x10 R s.1 s.2.1 s.2.2.1 s.2.2.2 x) ps (cl n free, Z3r, false, true) =
   some (bif (Z2i R' ps n).2.1 || decide ((Z2i R' ps n).2.2 < 0) then .out (.exit 1) (s', (Z2i R' ps n).1, (Z2i R' ps n).2.1, decide (0 ≤ (Z2i R' ps n).2.2)) else .go (s', Z3r, false, true)) ∧ (0 ≤ (Z2i R' ps n).2.2 → s' = cl (Z2i R' ps n).2.2 free ∧ (Z2i R' ps n).2.2 ≤ N)
 | [], n, h0, h1 => by
  refine ⟨cl n free, ?_, fun _ => ⟨rfl, h1⟩⟩
  rw [yf, Z2i, decide_eq_false (by show ¬ (n < 0); omega)]; rfl
 | p :: ps, n, h0, h1 => by
  obtain ⟨s', h2, h3⟩ := hR p n h0 h1
  have hb : Z8q l x10 R (cl n free) Z3r false true p = some (bif (R' p n).2.1 || decide ((R' p n).2.2 < 0) then .out (.exit 1) (s', (R' p n).1, (R' p n).2.1, decide (0 ≤ (R' p n).2.2)) else .go (s', (R' p n).1, (R' p n).2.1, decide (0 ≤ (R' p n).2.2))) := by
   unfold Z8q
   rw [hx, inc i (by omega), Zus _ _ (by omega), Option.bind_some, h2, Option.bind_some]
   have : (!decide (0 ≤ (R' p n).2.2)) = decide ((R' p n).2.2 < 0) := by
    by_cases h : (R' p n).2.2 < 0
    ·rw [decide_eq_true h, decide_eq_false (by omega)]; rfl
    ·rw [decide_eq_false h, decide_eq_true (by omega)]; rfl
   show (bif ((R' p n).2.1 || !decide (0 ≤ (R' p n).2.2)) then _ else _) = _
   rw [this]
   cases (R' p n).2.1 || decide ((R' p n).2.2 < 0) <;> rfl
  rw [yf]
  show ∃ s'', (Z8q l x10 R (cl n free) Z3r false true p).bind _ = _ ∧ _
  rw [hb, Option.bind_some, Z2i]
  cases hc : (R' p n).2.1 || decide ((R' p n).2.2 < 0)
  ·rw [Bool.or_eq_false_iff, decide_eq_false_iff_not] at hc
   have h4 : 0 ≤ (R' p n).2.2 := by omega
   obtain ⟨h5, h6⟩ := h3 h4
   obtain ⟨s'', h7, h8⟩ := Zux free N l i hi hN x10 hx hl R R' hR hn ps (R' p n).2.2 h4 h6
   refine ⟨s'', ?_, h8⟩
   rw [cond_false, cond_false, h5, hn p n hc.1, hc.1, decide_eq_true h4]
   exact h7
  ·refine ⟨s', ?_, h3⟩
   rw [cond_true, cond_true, hc]; rfl
theorem Y1e (free : Bool) (N : Int) (hN : N < 9223372036854775808) (d fuel : Nat) (c : Cube) (l : List Cube) (hl : l.length < 4294967296) (n : Int) (h0 : 0 ≤ n) (h1 : n ≤ N)
  (ih : ∀ i, i < l.length → ∀ p n, 0 ≤ n → n ≤ N → Zdi free N (Z6b fuel (cl n free) p (l.drop (i + 1))) n (Z2x free d p (l.drop (i + 1)) n)) :
  Zdi free N (Z6b (fuel + 1) (cl n free) c l) n (Z2x free (d + 1) c l n) := by
 show Zdi free N (Zjc (Z6b fuel) (cl n free) c l) n _
 unfold Zjc
 have hpay : Zjw (cl n free).purse = some (!(!free && decide (n < 1)), ⟨bif free then n else n - 1, free⟩) := by
  unfold Zjw
  cases free
  ·have e : IntKind.i64.wrap (n - 1) = n - 1 := Z2a (by omega) (by omega)
   show some (decide (IntKind.i64.wrap (n - 1) ≥ 0), (⟨IntKind.i64.wrap (n - 1), false⟩ : cover_purse)) = _
   rw [e]
   by_cases h : n < 1
   ·rw [decide_eq_true h, decide_eq_false (by omega)]; rfl
   ·rw [decide_eq_false h, decide_eq_true (by omega)]; rfl
  ·rfl
 rw [hpay, Option.bind_some, Z2x]
 cases hp : !free && decide (n < 1)
 ·have hn1 : 0 ≤ (bif free then n else n - 1) ∧ (bif free then n else n - 1) ≤ N := by
   cases free
   ·simp only [Bool.not_false, Bool.true_and, decide_eq_false_iff_not] at hp
    simp only [cond_false]; omega
   ·simp only [cond_true]; omega
  generalize (bif free then n else n - 1) = n1 at hn1 ⊢
  simp only [Bool.not_false, Bool.not_true, cond_false]
  obtain ⟨j, hj⟩ := Zlm c l 0 (-1)
  unfold Zly
  rw [hj, Option.bind_some]
  cases hw : l.any (Z5g c)
  ·simp only [cond_false]
   have hfi : Z9z c l 0 (-1) = match Z4p c l 0 with | none => -1 | some k => (k : Int) := rfl
   rw [hfi]
   have hsp := Zwl c l 0
   cases hf : Z4p c l 0 with
   | none =>
    simp only
    rw [show decide ((-1 : Int) < 0) = true from rfl, cond_true, Y91, Option.bind_some]
    exact ⟨cl n1 free, by rw [decide_eq_true hn1.1]; rfl, fun _ => ⟨rfl, hn1.2⟩⟩
   | some i =>
    rw [hf] at hsp
    obtain ⟨j', hj1, hj2, hj3, hj4⟩ := hsp
    have hij : i = j' := by omega
    subst hij
    simp only
    rw [decide_eq_false (by omega), cond_false, Z1m hj2, Option.bind_some, List.getElem?_eq_getElem hj2]
    unfold Zkb
    rw [Option.bind_some]
    obtain ⟨s', h2, h3⟩ := Zux free N l i hj2 hN (false, (i : Int)) rfl hl (Z6b fuel) (fun p m => Z2x free d p (l.drop (i + 1)) m) (fun p n a b => ih i hj2 p n a b) (fun p m h => Zof free d p _ m h) (Zcs c l[i]) n1 hn1.1 hn1.2
    show Zdi free N ((Z9x (cover_look × Header × Bool × Bool) (fun s x => Z8q l (false, (i : Int)) (Z6b fuel) s.1 s.2.1 s.2.2.1 s.2.2.2 x) (.go (cl n1 free, Z3r, false, true)) c l[i]).bind _) n (Z2i (fun p m => Z2x free d p (l.drop (i + 1)) m) (Zcs c l[i]) n1)
    rw [Y4o, h2, Option.bind_some]
    have hnn := Znq (R := fun p m => Z2x free d p (l.drop (i + 1)) m) (fun p m h => Zof free d p _ m h) (Zcs c l[i]) n1
    generalize Z2i (fun p m => Z2x free d p (l.drop (i + 1)) m) (Zcs c l[i]) n1 = r at *
    cases hc : r.2.1 || decide (r.2.2 < 0)
    ·rw [Bool.or_eq_false_iff, decide_eq_false_iff_not] at hc
     refine ⟨s', ?_, h3⟩
     rw [hnn hc.1, hc.1, decide_eq_true (show 0 ≤ r.2.2 by omega)]; rfl
    ·exact ⟨s', rfl, h3⟩
  ·refine ⟨cl n1 free, ?_, fun _ => ⟨rfl, hn1.2⟩⟩
   show some (Z3r, false, true, cl n1 free) = some (Z3r, false, decide (0 ≤ n1), cl n1 free)
   rw [decide_eq_true hn1.1]
 ·exact ⟨_, rfl, fun h => by simp at h⟩
theorem Zzn (free : Bool) (N : Int) (hN : N < 9223372036854775808) : ∀ (d fuel : Nat) (c : Cube) (l : List Cube) (n : Int), l.length < d → d ≤ fuel → l.length < 4294967296 → 0 ≤ n → n ≤ N →
  Zdi free N (Z6b fuel (cl n free) c l) n (Z2x free d c l n)
 | 0, fuel, c, l, n, h, _, _, _, _ => by omega
 | d + 1, 0, c, l, n, _, h, _, _, _ => by omega
 | d + 1, fuel + 1, c, l, n, h1, h2, h3, h4, h5 =>
  Y1e free N hN d fuel c l h3 n h4 h5 fun i hi p m h6 h7 => Zzn free N hN d fuel p (l.drop (i + 1)) m (by rw [List.length_drop]; omega) (by omega) (by rw [List.length_drop]; omega) h6 h7
end Go.Proofs.YtknpgojdkobgjaaGreat.W
namespace Go.Proofs.YtknpgojdkobgjaaGreat.W
open Go Go.Wb
end Go.Proofs.YtknpgojdkobgjaaGreat.W
namespace Go.Proofs.YtknpgojdkobgjaaGreat.W
open Go Go.Wb
def Zck (c : Cube) (l : List Cube) (most : Int) : Header × Bool × Int := Z2x (decide (most ≥ 1099511627776)) (l.length + 1) c l (Z1i most 0)
def Z4l (c : Cube) (l : List Cube) (most : Int) : Header × Bool × Int := bif decide ((Zck c l most).2.2 < 0) then (Z3r, false, 5) else ((Zck c l most).1, (Zck c l most).2.1, 0)
theorem Y80 (m : Int) : 0 ≤ Z1i m 0 ∧ Z1i m 0 ≤ max m 0 := by
 unfold Z1i
 by_cases h : (0 : Int) > m
 ·rw [decide_eq_true h, cond_true]; omega
 ·rw [decide_eq_false h, cond_false]; omega
theorem Y74 (c : Cube) (l : List Cube) (most : Int) (hm : most ≤ 9223372036854775807) (hl : l.length ≤ 1000000) : Zjl c l most = some (Z4l c l most) := by
 have hi := Y80 most
 unfold Zjl Zpj Z4l
 obtain ⟨s', h1, h2⟩ := Zzn (decide (most ≥ 1099511627776)) (Z1i most 0) (by omega) (l.length + 1) Z0x c l (Z1i most 0) (by omega) (by unfold Z0x; omega) (by omega) hi.1 (by omega)
 show (Z6b Z0x (cl (Z1i most 0) (decide (most ≥ 1099511627776))) c l).bind _ = _
 rw [h1, Option.bind_some]
 show (bif !(decide (0 ≤ (Zck c l most).2.2)) then _ else _) = _
 by_cases h : (Zck c l most).2.2 < 0
 ·rw [decide_eq_true h, decide_eq_false (by omega)]; rfl
 ·rw [decide_eq_false h, decide_eq_true (by omega)]; rfl
theorem Zxe (l : List Rule) (hl : l.length ≤ 1000000) : ∀ (m i : Nat) (acc : List Cube), i ≤ l.length → l.length < i + m → acc.length ≤ i → Zai l m acc (i : Int) = some (acc ++ (l.drop i).map (·.Cube))
 | 0, i, acc, h1, h2, _ => by omega
 | m + 1, i, acc, h1, h2, h3 => by
  have hlim : lim = 4294967296 := rfl
  rw [Zai]
  by_cases hi : i < l.length
  ·rw [decide_eq_true (by omega), cond_true, Z1m hi, Option.bind_some, Z1h (by simp; omega), Option.bind_some, inc i (by omega), Zxe l hl m (i + 1) _ (by omega) (by omega) (by simp; omega), List.drop_eq_getElem_cons hi, List.map_cons, List.append_assoc]
   rfl
  ·rw [decide_eq_false (by omega), cond_false, List.drop_of_length_le (by omega)]; simp
theorem Ycd (l : List Rule) (hl : l.length ≤ 1000000) : Ze2 l = some (l.map (·.Cube)) := by
 unfold Ze2
 have := Zxe l hl ((((l.length : Int) : Int) - 0).toNat + 1) 0 [] (by omega) (by omega) (by simp)
 rw [show ((0 : Nat) : Int) = 0 from rfl, List.drop_zero, List.nil_append] at this
 exact this
theorem Yfj {α : Type} (l : List α) (i : Nat) (h : i ≤ l.length) : Z4a l (i : Int) = some (l.take i) := by
 unfold Z4a
 simp [Nat.ble_eq_true_of_le h]
end Go.Proofs.YtknpgojdkobgjaaGreat.W
namespace Go.Proofs.YtknpgojdkobgjaaGreat.W
open Go Go.Wb
section ins
def Zgd (lt : Int → Int → Bool) (cmp : Int → Int → Option Int) (A : List Int) : Prop := ∀ x ∈ A, ∀ y ∈ A, ∃ c, cmp x y = some c ∧ decide (c < 0) = lt x y
variable {lt : Int → Int → Bool} {cmp : Int → Int → Option Int}
theorem Zvx {A : List Int} (hc : Zgd lt cmp A) (go : List Int → Int → Option (List Int)) (i : Int) (P : List Int) (x : Int) (hx : x ∈ A) : ∀ (R S : List Int) (m : Nat), (∀ y ∈ R, y ∈ A) → R.length < m → (P ++ R.reverse ++ x :: S).length ≤ big →
  Z85 (P.length : Int) cmp go i m (P ++ R.reverse ++ x :: S) ((P.length + R.length : Nat) : Int) = go (P ++ (Z0s lt x R).reverse ++ S) (IntKind.i64.wrap (i + 1))
 | [], S, m, _, h, _ => by
  obtain ⟨m, rfl⟩ : ∃ k, m = k + 1 := ⟨m - 1, by simp at h; omega⟩
  rw [Z85, decide_eq_false (by simp)]
  simp [opt, Z0s]
 | y :: R, S, m, hR, h, hl => by
  have hbig : big = 1000000 := rfl
  simp only [List.length_cons, List.length_append, List.length_reverse] at h hl
  obtain ⟨m, rfl⟩ : ∃ k, m = k + 1 := ⟨m - 1, by omega⟩
  have e0 : P ++ (y :: R).reverse ++ x :: S = (P ++ R.reverse) ++ y :: (x :: S) := by simp
  have ej : IntKind.i64.wrap (((P.length + (y :: R).length : Nat) : Int) - 1) = ((P.length + R.length : Nat) : Int) := by rw [wr (by simp only [List.length_cons]; omega) (by simp only [List.length_cons]; omega)]; simp only [List.length_cons]; omega
  have g1 : ∀ a b : Int, lget ((P ++ R.reverse) ++ a :: (b :: S)) ((P.length + (y :: R).length : Nat) : Int) = some b := fun a b => by
   have : (P ++ R.reverse) ++ a :: (b :: S) = (P ++ R.reverse ++ [a]) ++ b :: S := by simp
   rw [this]; exact Z4j _ _ _ _ (by simp)
  have g0 : ∀ a b : Int, lget ((P ++ R.reverse) ++ a :: (b :: S)) ((P.length + R.length : Nat) : Int) = some a := fun a b => Z4j _ _ _ _ (by simp)
  have s1 : ∀ a b c : Int, List.set ((P ++ R.reverse) ++ a :: (b :: S)) (((P.length + (y :: R).length : Nat) : Int)).toNat c = (P ++ R.reverse) ++ a :: (c :: S) := fun a b c => by
   have : (P ++ R.reverse) ++ a :: (b :: S) = (P ++ R.reverse ++ [a]) ++ b :: S := by simp
   rw [this, Int.toNat_natCast, Z6v _ _ _ _ _ (by simp)]; simp
  have s0 : ∀ a b c : Int, List.set ((P ++ R.reverse) ++ a :: (b :: S)) (((P.length + R.length : Nat) : Int)).toNat c = (P ++ R.reverse) ++ c :: (b :: S) := fun a b c => by
   rw [Int.toNat_natCast, Z6v _ _ _ _ _ (by simp)]
  obtain ⟨c, hc1, hc2⟩ := hc x hx y (hR y (by simp))
  rw [e0, Z85, decide_eq_true (by simp only [List.length_cons]; omega), Z47, g1, Option.bind_some, Z47, ej, g0, Option.bind_some, Z47, hc1, Option.bind_some, Bool.true_and, hc2, Z0s]
  cases lt x y
  ·rw [cond_false, cond_false]
   simp
  ·rw [cond_true, cond_true, Option.bind_some, Option.bind_some, Option.bind_some, s1, g0, Option.bind_some, s0, Zvx hc go i P x hx R (y :: S) m (fun z hz => hR z (by simp [hz])) (by omega) (by simp only [List.length_append, List.length_cons, List.length_reverse]; omega)]
   simp
theorem Zqn (x : Int) (R : List Int) : (Z0s lt x R).length = R.length + 1 := by
 induction R with
 | nil => rfl
 | cons y R ih => rw [Z0s]; cases lt x y <;> simp [ih]
theorem Zxi {A : List Int} (hc : Zgd lt cmp A) (P Q : List Int) : ∀ (T R : List Int) (m : Nat), (∀ y ∈ T, y ∈ A) → (∀ y ∈ R, y ∈ A) → T.length < m → (P ++ R.reverse ++ T ++ Q).length ≤ big →
  Z6l ((P.length + R.length + T.length : Nat) : Int) (P.length : Int) cmp m (P ++ R.reverse ++ T ++ Q) ((P.length + R.length : Nat) : Int) = some (P ++ (T.foldl (fun R x => Z0s lt x R) R).reverse ++ Q)
 | [], R, m, _, _, h, _ => by
  obtain ⟨m, rfl⟩ : ∃ k, m = k + 1 := ⟨m - 1, by simp at h; omega⟩
  rw [Z6l, decide_eq_false (by simp), cond_false]
  simp
 | x :: T, R, m, hT, hR, h, h2 => by
  have hbig : big = 1000000 := rfl
  simp only [List.length_cons, List.length_append, List.length_reverse] at h h2
  obtain ⟨m, rfl⟩ : ∃ k, m = k + 1 := ⟨m - 1, by omega⟩
  have e : IntKind.i64.wrap (((P.length + R.length : Nat) : Int) + 1) = ((P.length + (Z0s lt x R).length : Nat) : Int) := by rw [Zqn, wr (by omega) (by omega)]; omega
  have hn : P.length + R.length + (x :: T).length = P.length + (Z0s lt x R).length + T.length := by rw [Zqn, List.length_cons]; omega
  have e0 : P ++ R.reverse ++ x :: T ++ Q = P ++ R.reverse ++ x :: (T ++ Q) := by simp
  rw [Z6l, decide_eq_true (by simp only [List.length_cons]; omega), cond_true, e0, Zvx hc _ _ P x (hT x (by simp)) R (T ++ Q) Z0x hR (by unfold Z0x; omega) (by simp only [List.length_append, List.length_cons, List.length_reverse]; omega), e, hn,
   ← List.append_assoc, Zxi hc P Q T (Z0s lt x R) m (fun y hy => hT y (by simp [hy])) (fun y hy => by rcases Zp9.1 hy with e | e; rw [e]; exact hT x (by simp); exact hR y e) (by omega) (by simp only [List.length_append, List.length_reverse, Zqn]; omega), List.foldl_cons]
theorem Y7j (P L Q : List Int) (hc : Zgd lt cmp L) (a b : Int) (ha : a = (P.length : Int)) (hb : b = (P.length : Int) + (L.length : Int)) (h : (P ++ L ++ Q).length ≤ big) : Zel (P ++ L ++ Q) a b cmp = some (P ++ srt lt L ++ Q) := by
 subst ha hb
 have hbig : big = 1000000 := rfl
 have h' := h
 simp only [List.length_append] at h'
 unfold Zel srt
 cases L with
 | nil =>
  rw [wr (by omega) (by omega)]
  obtain ⟨m, hm⟩ : ∃ m, (((P.length : Int) + (([] : List Int).length : Int)) - ((P.length : Int) + 1)).toNat + 1 = m + 1 := ⟨_, rfl⟩
  rw [hm, Z6l, decide_eq_false (by simp only [List.length_nil]; omega), cond_false]
  rfl
 | cons x L =>
  simp only [List.length_cons] at h'
  have := Zxi hc P Q L [x] ((((P.length : Int) + ((x :: L).length : Int)) - ((P.length : Int) + 1)).toNat + 1) (fun y hy => by simp [hy]) (fun y hy => by simp at hy; simp [hy]) (by simp only [List.length_cons]; omega) (by simp only [List.length_append, List.length_reverse, List.length_cons, List.length_nil]; omega)
  have e1 : ((P.length + [x].length + L.length : Nat) : Int) = (P.length : Int) + ((x :: L).length : Int) := by simp; omega
  have e2 : ((P.length + [x].length : Nat) : Int) = (P.length : Int) + 1 := by simp
  have e3 : P ++ [x].reverse ++ L ++ Q = P ++ x :: L ++ Q := by simp
  rw [e1, e2, e3] at this
  rw [wr (by omega) (by omega), this]
  rfl
theorem Y9m (L : List Int) (hc : Zgd lt cmp L) (h : L.length < 20) : Zfy L cmp = some (srt lt L) := by
 unfold Zfy Zln
 obtain ⟨m, hm⟩ : ∃ m, (((L.length : Int) : Int) - 20).toNat + 2 = m + 1 := ⟨_, rfl⟩
 have := Y7j [] L [] hc 0 (L.length : Int) rfl (by simp) (by simp only [List.nil_append, List.append_nil]; show _ ≤ 1000000; omega)
 simp only [List.nil_append, List.append_nil] at this
 rw [hm, Zcc, decide_eq_false (by omega), cond_false, this, Option.bind_some]
 obtain ⟨k, hk⟩ : ∃ m, (((L.length : Int) : Int) - 20).toNat + 1 = m + 1 := ⟨_, rfl⟩
 rw [hk, Zba, decide_eq_false (by omega), cond_false]
 rfl
end ins
end Go.Proofs.YtknpgojdkobgjaaGreat.W
namespace Go.Proofs.YtknpgojdkobgjaaGreat.W
open Go Go.Wb
def Zn6 (t : List Flow) (i : Int) : Int := match t[i.toNat]? with
 | some f => f.Priority
 | none => 0
def ltP (t : List Flow) (i j : Int) : Bool := decide (Zn6 t i > Zn6 t j)
theorem Zs3 (t : List Flow) : Swo (ltP t) where
 asym := fun a b h => by
  unfold ltP at *
  rw [decide_eq_true_eq] at h
  rw [decide_eq_false_iff_not]; omega
 neg := fun a b c h k => by
  unfold ltP at *
  rw [decide_eq_false_iff_not] at *; omega
def places (n : Nat) : List Int := (List.range n).map fun (i : Nat) => (i : Int)
theorem Zqj {n : Nat} {i : Int} : i ∈ places n ↔ ∃ k : Nat, k < n ∧ i = (k : Int) := by
 unfold places
 simp only [List.mem_map, List.mem_range]
 exact ⟨fun ⟨k, h1, h2⟩ => ⟨k, h1, h2.symm⟩, fun ⟨k, h1, h2⟩ => ⟨k, h1, h2.symm⟩⟩
def Z5j (t : List Flow) : List Int := srt (ltP t) (places t.length)
theorem Zta {t : List Flow} {i : Int} : i ∈ Z5j t ↔ ∃ k : Nat, k < t.length ∧ i = (k : Int) := by
 unfold Z5j
 rw [Zyk (Zs3 t), Zqj]
theorem Zsc (t : List Flow) : (Z5j t).length = t.length := by
 unfold Z5j
 rw [Z2q (Zs3 t)]; simp [places]
theorem Zm5 {t : List Flow} {k : Nat} (h : k < t.length) : Zn6 t (k : Int) = t[k].Priority := by
 unfold Zn6
 rw [Int.toNat_natCast, List.getElem?_eq_getElem h]
theorem Y76 (t : List Flow) : Zgd (ltP t) (fun x z => Zds x z t) (places t.length) := fun x hx y hy => by
 obtain ⟨i, hi, rfl⟩ := Zqj.1 hx
 obtain ⟨j, hj, rfl⟩ := Zqj.1 hy
 unfold Zds ltP
 dsimp only
 rw [Z1m hi, Option.bind_some, Z1m hj, Option.bind_some, Zm5 hi, Zm5 hj, Option.bind_some, Option.bind_some]
 by_cases h1 : t[i].Priority > t[j].Priority
 ·rw [decide_eq_true h1, cond_true]; exact ⟨_, rfl, rfl⟩
 ·rw [decide_eq_false h1, cond_false]
  by_cases h2 : t[i].Priority < t[j].Priority
  ·rw [decide_eq_true h2, cond_true]; exact ⟨_, rfl, rfl⟩
  ·rw [decide_eq_false h2, cond_false]; exact ⟨_, rfl, rfl⟩
theorem Zs8 (t : List Flow) (ht : t.length < 20) : ∀ (m i : Nat), i + m = t.length → Z6q t m i (places i) = some (Z5j t)
 | 0, i, h => by
  have : i = t.length := by omega
  subst this
  rw [Z6q, Y9m _ (Y76 t) (by simpa [places] using ht)]; rfl
 | m + 1, i, h => by
  have hlim : lim = 4294967296 := rfl
  have e : places i ++ [(i : Int)] = places (i + 1) := by unfold places; rw [List.range_succ, List.map_append]; rfl
  rw [Z6q, Z1h (by simp [places]; omega), Option.bind_some, e]
  exact Zs8 t ht m (i + 1) (by omega)
theorem Y4k (n : Nat) (h : n ≤ lim) : omk (n : Int) = some () := by
 unfold omk
 rw [decide_eq_false (by omega), decide_eq_false (by omega)]; rfl
theorem Y4d (t : List Flow) (ht : t.length < 20) : Zhu t = some (Z5j t) := by
 have hlim : lim = 4294967296 := rfl
 unfold Zhu
 rw [Y4k _ (by omega), Option.bind_some, show ((t.length : Int)).toNat = t.length by omega]
 exact Zs8 t ht t.length 0 (by omega)
def Zrh (w : walk_way) (l : List Action) : walk_way := { w with atoms := w.atoms ++ (doT l (Z17 w.got)).1, got := (doT l (Z17 w.got)).2 }
theorem Y2u {α : Type} (l : List α) : Z4a l (l.length : Int) = some l := by
 unfold Z4a
 simp [Nat.ble_eq_true_of_le (Nat.le_refl _)]
theorem Zg1 (l : List Action) : Zqi l ≤ l.length := List.countP_le_length
theorem Zsr (w : walk_way) (l : List Action) (h : w.atoms.length + l.length ≤ 100000) : Zbe w l = some (Zrh w l) := by
 have hlim : lim = 4294967296 := rfl
 have h1 := Zg1 l
 unfold Zbe
 rw [Y5v l w.got (by omega), Option.bind_some, Y2u, Option.bind_some, Z1h (by rw [Zfm]; omega), Option.bind_some]; rfl
def Z5y (w : walk_way) (f : Flow) : Option walk_way := (Z5d w.got (Zef f)).bind fun b => (Z4w b w.cube).map fun c => { w with cube := c }
theorem Y30 (w : walk_way) (f : Flow) : ∃ z, Zgy w f = some (Z1s z (Z5y w f)) := by
 unfold Zgy Z5y
 rw [Y13, Option.bind_some, Yb9, Option.bind_some]
 cases Z5d w.got (Zef f) with
 | none => exact ⟨_, rfl⟩
 | some b =>
  show ∃ z, (Z8i b w.cube).bind _ = some (Z1s z ((Z4w b w.cube).map _))
  rw [Zpz, Option.bind_some]
  cases Z4w b w.cube with
  | none => exact ⟨_, rfl⟩
  | some c => exact ⟨w, rfl⟩
def Z3w (w : walk_way) (l : List Inst) : walk_way := match ofI l 4 with
 | some i => Zrh w i.Acts
 | none => w
def Z3d (w : walk_way) (l : List Inst) : walk_way := match ofI l 5 with
 | some _ => { w with set := [] }
 | none => w
def Z35 (w : walk_way) (l : List Inst) : walk_way := match ofI l 3 with
 | some i => { w with set := i.Acts.foldl wr1 w.set }
 | none => w
def Z34 (w : walk_way) (l : List Inst) : walk_way := match ofI l 2 with
 | some i => { w with got := Z9a w.got 1 i.Value i.Mask }
 | none => w
def wdo (w : walk_way) (l : List Inst) : walk_way := Z34 (Z35 (Z3d (Z3w w l) l) l) l
def Z2d (at_ : Nat) (l : List Inst) : Option Nat := match ofI l 1 with
 | some i => if i.Table > (at_ : Int) ∧ i.Table < 4 then some i.Table.toNat else none
 | none => none
theorem Zyt {at_ : Nat} {l : List Inst} {i : Inst} (h : ofI l 1 = some i) (hc : i.Table > (at_ : Int) ∧ i.Table < 4) : Z2d at_ l = some i.Table.toNat := by
 unfold Z2d; rw [h]; exact if_pos hc
theorem Ztp {at_ : Nat} {l : List Inst} {i : Inst} (h : ofI l 1 = some i) (hc : ¬ (i.Table > (at_ : Int) ∧ i.Table < 4)) : Z2d at_ l = none := by
 unfold Z2d; rw [h]; exact if_neg hc
theorem Zz4 {at_ : Nat} {l : List Inst} (h : ofI l 1 = none) : Z2d at_ l = none := by
 unfold Z2d; rw [h]
theorem Zl6 {at_ n : Nat} {l : List Inst} (h : Z2d at_ l = some n) : at_ < n ∧ n < 4 := by
 unfold Z2d at h
 split at h
 ·split at h
  ·cases h; omega
  ·cases h
 ·cases h
def Z3s (w : walk_way) : walk_way := Zrh w (Z94 w.set)
def Z73 (l : List Inst) : Prop := ∀ i ∈ l, i.Acts.length ≤ 12
theorem Zpa (w : walk_way) {l : List Inst} (hl : Z73 l) : (Z3w w l).atoms.length ≤ w.atoms.length + 12 ∧ (Z3w w l).set = w.set ∧ (Z3w w l).cube = w.cube := by
 unfold Z3w
 split
 ·rename_i i hi
  have h1 := hl i (Ze5 hi)
  have h2 := Zg1 i.Acts
  refine ⟨?_, rfl, rfl⟩
  show (w.atoms ++ _).length ≤ _
  rw [List.length_append, Zfm]; omega
 ·exact ⟨by omega, rfl, rfl⟩
theorem Zj6 (w : walk_way) (l : List Inst) : (Z3d w l).atoms = w.atoms ∧ (Z3d w l).set.length ≤ w.set.length ∧ (Z3d w l).cube = w.cube := by
 unfold Z3d
 split
 ·exact ⟨rfl, by simp, rfl⟩
 ·exact ⟨rfl, by omega, rfl⟩
theorem Ziq (w : walk_way) {l : List Inst} (hl : Z73 l) : (Z35 w l).atoms = w.atoms ∧ (Z35 w l).set.length ≤ w.set.length + 12 ∧ (Z35 w l).cube = w.cube := by
 unfold Z35
 split
 ·rename_i i hi
  have h1 := hl i (Ze5 hi)
  have h2 := Zyu i.Acts w.set
  exact ⟨rfl, by show (i.Acts.foldl wr1 w.set).length ≤ _; omega, rfl⟩
 ·exact ⟨rfl, by omega, rfl⟩
theorem Zom (w : walk_way) (l : List Inst) : (Z34 w l).atoms = w.atoms ∧ (Z34 w l).set = w.set ∧ (Z34 w l).cube = w.cube := by
 unfold Z34
 split
 ·exact ⟨rfl, rfl, rfl⟩
 ·exact ⟨rfl, rfl, rfl⟩
theorem Zks (w : walk_way) {l : List Inst} (hl : Z73 l) : (wdo w l).atoms.length ≤ w.atoms.length + 12 ∧ (wdo w l).set.length ≤ w.set.length + 12 ∧ (wdo w l).cube = w.cube := by
 have h1 := Zpa w hl
 have h2 := Zj6 (Z3w w l) l
 have h3 := Ziq (Z3d (Z3w w l) l) hl
 have h4 := Zom (Z35 (Z3d (Z3w w l) l) l) l
 unfold wdo
 refine ⟨?_, ?_, ?_⟩
 ·rw [h4.1, h3.1, h2.1]; exact h1.1
 ·rw [h4.2.1]
  have := h3.2.1
  have := h2.2.1
  rw [h1.2.1] at this
  omega
 ·rw [h4.2.2, h3.2.2, h2.2.2, h1.2.2]
theorem Y94 (w : walk_way) (at_ : Nat) (l : List Inst) (hl : Z73 l) (ha : w.atoms.length ≤ 1000) (hs : w.set.length ≤ 1000) :
  Zim w (at_ : Int) l = some (match Z2d at_ l with | some n => (wdo w l, (n : Int), true) | none => (Z3s (wdo w l), 0, false)) := by
 have hlim : lim = 4294967296 := rfl
 have b1 := Zpa w hl
 have b2 := Zj6 (Z3w w l) l
 have b3 := Ziq (Z3d (Z3w w l) l) hl
 have b4 := Zks w hl
 have j4 : ∀ b : walk_way, b.atoms.length ≤ 2000 → b.set.length ≤ 2000 → Zcx l (at_ : Int) b = some (match Z2d at_ l with | some n => (b, (n : Int), true) | none => (Z3s b, 0, false)) := fun b h1 h2 => by
  unfold Zcx
  rw [Zht l 1 hl, Option.bind_some]
  have hend : ((Zee b.set).bind fun x12 => (Zbe b x12).bind fun x13 => some (x13, (0 : Int), false)) = some (Z3s b, 0, false) := by
   have := Zok b.set
   rw [Y4c _ (by omega), Option.bind_some, Zsr b _ (by omega)]; rfl
  cases hi : ofI l 1 with
  | none => rw [Zz4 hi]; exact hend
  | some i =>
   show (bif ((true && decide (i.Table > (at_ : Int))) && decide (i.Table < 4)) then some (b, i.Table, true) else _) = _
   rw [Bool.true_and]
   by_cases hc : i.Table > (at_ : Int) ∧ i.Table < 4
   ·have hd : (decide (i.Table > (at_ : Int)) && decide (i.Table < 4)) = true := by
     rw [Bool.and_eq_true, decide_eq_true_eq, decide_eq_true_eq]; exact hc
    have : ((i.Table.toNat : Nat) : Int) = i.Table := by omega
    rw [Zyt hi hc, hd, cond_true]
    simp [this]
   ·have hd : (decide (i.Table > (at_ : Int)) && decide (i.Table < 4)) = false := by
     rw [Bool.and_eq_false_iff, decide_eq_false_iff_not, decide_eq_false_iff_not]; omega
    rw [Ztp hi hc, hd, cond_false]
    exact hend
 have j3 : ∀ b : walk_way, b.atoms.length ≤ 2000 → b.set.length ≤ 2000 → Zd2 l (at_ : Int) b = some (match Z2d at_ l with | some n => (Z34 b l, (n : Int), true) | none => (Z3s (Z34 b l), 0, false)) := fun b h1 h2 => by
  have b5 := Zom b l
  unfold Zd2
  rw [Zht l 2 hl, Option.bind_some, ← j4 (Z34 b l) (by rw [b5.1]; omega) (by rw [b5.2.1]; omega)]
  unfold Z34
  cases hi : ofI l 2 with
  | none => rfl
  | some i =>
   simp only [Z1s, cond_true]
   rw [Zh4]; rfl
 have j2 : ∀ b : walk_way, b.atoms.length ≤ 1500 → b.set.length ≤ 1500 → Zdz l (at_ : Int) b = some (match Z2d at_ l with | some n => (Z34 (Z35 b l) l, (n : Int), true) | none => (Z3s (Z34 (Z35 b l) l), 0, false)) := fun b h1 h2 => by
  have b5 := Ziq b hl
  unfold Zdz
  rw [Zht l 3 hl, Option.bind_some, ← j3 (Z35 b l) (by rw [b5.1]; omega) (by have := b5.2.1; omega)]
  unfold Z35
  cases hi : ofI l 3 with
  | none => rfl
  | some i =>
   have := hl i (Ze5 hi)
   simp only [Z1s, cond_true]
   rw [Ybr _ _ (by omega)]; rfl
 have j1 : ∀ b : walk_way, b.atoms.length ≤ 1500 → b.set.length ≤ 1500 → Zda l (at_ : Int) b = some (match Z2d at_ l with | some n => (Z34 (Z35 (Z3d b l) l) l, (n : Int), true) | none => (Z3s (Z34 (Z35 (Z3d b l) l) l), 0, false)) := fun b h1 h2 => by
  have b5 := Zj6 b l
  unfold Zda
  rw [Zht l 5 hl, Option.bind_some, ← j2 (Z3d b l) (by rw [b5.1]; omega) (by have := b5.2.1; omega)]
  unfold Z3d
  cases hi : ofI l 5 with
  | none => rfl
  | some i => rfl
 unfold Zim
 rw [Zht l 4 hl, Option.bind_some]
 have := j1 (Z3w w l) (by omega) (by rw [b1.2.1]; omega)
 unfold wdo
 rw [← this]
 unfold Z3w
 cases hi : ofI l 4 with
 | none => rfl
 | some i =>
  have := hl i (Ze5 hi)
  simp only [Z1s, cond_true]
  rw [Zsr w _ (by omega)]; rfl
def Z0y (s : Switch) (i : Nat) : List Flow := if h : i < 4 then Vector.get s.Tables ⟨i, h⟩ else []
theorem Zga (s : Switch) (i : Nat) (h : i < 4) : Vector.get s.Tables ⟨i, h⟩ = Z0y s i := by unfold Z0y; rw [dif_pos h]
def Z3g (w : walk_way) : Rule := ⟨w.cube, w.atoms⟩
def Z5b (R : Nat → walk_way → List Rule) (t : List Flow) (at_ : Nat) (w : walk_way) (i : Int) : List Rule := match t[i.toNat]? with
 | none => []
 | some f => match Z5y w f with
  | none => []
  | some x => match Z2d at_ f.Insts with
   | some n => R n (wdo x f.Insts)
   | none => [Z3g (Z3s (wdo x f.Insts))]
def Z3u (s : Switch) : Nat → Nat → walk_way → List Rule
 | 0, _, w => [Z3g w]
 | d + 1, at_, w => (Z5j (Z0y s at_)).flatMap (Z5b (Z3u s d) (Z0y s at_) at_ w) ++ [Z3g w]
def Zvn (t : List Flow) : Prop := t.length < 20 ∧ ∀ f ∈ t, Z73 f.Insts
def Z89 (s : Switch) : Prop := ∀ i, i < 4 → Zvn (Z0y s i)
def Z41 (at_ : Nat) (w : walk_way) : Prop := w.atoms.length ≤ 12 * at_ ∧ w.set.length ≤ 12 * at_
theorem Zv1 (w : walk_way) (h : w.atoms.length ≤ 100000) : Zcy w = some (Z3g w) := by
 have hlim : lim = 4294967296 := rfl
 unfold Zcy Zc9
 rw [Z1h (by simp; omega)]; rfl
theorem Zop {w x : walk_way} {f : Flow} (h : Z5y w f = some x) : x.atoms = w.atoms ∧ x.set = w.set := by
 unfold Z5y at h
 obtain ⟨b, h1, h2⟩ := Option.bind_eq_some_iff.1 h
 obtain ⟨c, h3, h4⟩ := Option.map_eq_some_iff.1 h2
 subst h4
 exact ⟨rfl, rfl⟩
theorem Zwb (w : walk_way) : (Z3s w).atoms.length ≤ w.atoms.length + w.set.length := by
 have h1 := Zok w.set
 have h2 := Zg1 (Z94 w.set)
 show (w.atoms ++ _).length ≤ _
 rw [List.length_append, Zfm]; omega
def goP {σ : Type} (r : Lp σ) : Bool × Lp σ := (r.isGo, r)
theorem Zy6 (sg : Type) (y : sg → Rule → Option (Lp sg)) (s : Switch) (at_ : Nat) (ha : at_ < 4) (hs : Zvn (Z0y s at_)) (w : walk_way) (hw : Z41 at_ w) (R : Lp sg → Switch → Int → walk_way → Option (Bool × Lp sg)) (Rm : Nat → walk_way → List Rule)
  (hR : ∀ (n : Nat) (x : walk_way) (z : sg), at_ < n → n < 4 → Z41 n x → R (.go z) s (n : Int) x = (yf y (Rm n x) z).map goP) :
  ∀ (l : List Int) (i : Nat) (z : sg), (∀ j ∈ l, ∃ k : Nat, k < (Z0y s at_).length ∧ j = (k : Int)) → Z55 sg w y (at_ : Int) s R l i (.go z) = (yf y (l.flatMap (Z5b Rm (Z0y s at_) at_ w) ++ [Z3g w]) z).map goP
 | [], i, z, _ => by
  rw [Z55, Zv1 w (by have := hw.1; omega), Option.bind_some]
  show (y z (Z3g w)).bind _ = _
  rw [List.flatMap_nil, List.nil_append, yf]
  cases y z (Z3g w) with
  | none => rfl
  | some r => cases r <;> rfl
 | j :: l, i, z, hl => by
  obtain ⟨k, hk, rfl⟩ := hl j (by simp)
  have ih := fun z => Zy6 sg y s at_ ha hs w hw R Rm hR l (i + 1) z fun j hj => hl j (by simp [hj])
  have tail : ∀ (L : List Rule), ((yf y L z).map goP).bind (fun b24 => Zje sg (Z55 sg w y (at_ : Int) s R l) i b24.2 b24.1) = (yf y (L ++ (l.flatMap (Z5b Rm (Z0y s at_) at_ w) ++ [Z3g w])) z).map goP := fun L => by
   rw [Zp3]
   cases yf y L z with
   | none => rfl
   | some r =>
    cases r with
    | out c q => rfl
    | go q => exact ih q
  rw [Z55, Z24 ha, Option.bind_some, Zga, Z1m hk, Option.bind_some, List.flatMap_cons, List.append_assoc]
  have hf := hs.2 _ (List.getElem_mem hk)
  have hrule : Z5b Rm (Z0y s at_) at_ w (k : Int) = match Z5y w (Z0y s at_)[k] with
    | none => []
    | some x => match Z2d at_ (Z0y s at_)[k].Insts with
     | some n => Rm n (wdo x (Z0y s at_)[k].Insts)
     | none => [Z3g (Z3s (wdo x (Z0y s at_)[k].Insts))] := by
   unfold Z5b
   rw [Int.toNat_natCast, List.getElem?_eq_getElem hk]
  obtain ⟨zz, hz⟩ := Y30 w (Z0y s at_)[k]
  rw [hrule, hz, Option.bind_some]
  cases hm : Z5y w (Z0y s at_)[k] with
  | none => exact ih z
  | some x =>
   have hx := Zop hm
   have hwx : Z41 at_ x := by unfold Z41; rw [hx.1, hx.2]; exact hw
   have hd := Zks x hf
   simp only [Z1s, Bool.not_true, cond_false]
   rw [Y94 x at_ _ hf (by have := hwx.1; omega) (by have := hwx.2; omega), Option.bind_some]
   cases hn : Z2d at_ (Z0y s at_)[k].Insts with
   | some n =>
    have hnb := Zl6 hn
    simp only [cond_true]
    rw [hR n _ z hnb.1 hnb.2 ⟨by have := hwx.1; have := hd.1; omega, by have := hwx.2; have := hd.2.1; omega⟩]
    exact tail _
   | none =>
    simp only [cond_false]
    have he := Zwb (wdo x (Z0y s at_)[k].Insts)
    rw [Zv1 _ (by have := hwx.1; have := hwx.2; have := hd.1; have := hd.2.1; omega), Option.bind_some, ← tail]
    show (y z (Z3g _)).bind _ = _
    rw [yf]
    cases y z (Z3g (Z3s (wdo x (Z0y s at_)[k].Insts))) with
    | none => rfl
    | some r => cases r <;> rfl
theorem Zww (sg : Type) (y : sg → Rule → Option (Lp sg)) (s : Switch) (hs : Z89 s) : ∀ (d f at_ : Nat) (w : walk_way) (z : sg), 4 ≤ at_ + d → at_ < 4 → d ≤ f → Z41 at_ w →
  Zb8 sg y f (.go z) s (at_ : Int) w = (yf y (Z3u s d at_ w) z).map goP
 | 0, f, at_, w, z, h0, h1, _, _ => by omega
 | d + 1, 0, at_, w, z, _, _, h2, _ => by omega
 | d + 1, f + 1, at_, w, z, h1, ha, h2, hw => by
  have hl := hs at_ ha
  show Zhc sg y (Zb8 sg y f) (.go z) s (at_ : Int) w = _
  unfold Zhc
  rw [Z24 ha, Option.bind_some, Zga, Y4d _ hl.1, Option.bind_some, Z3u]
  exact Zy6 sg y s at_ ha hl w hw _ (Z3u s d) (fun n x q h3 h4 h5 => Zww sg y s hs d f n x q (by omega) h4 (by omega) h5) _ 0 z fun j hj => Zta.1 hj
def way0 : walk_way := ⟨Z29, Z29, [], []⟩
def Z42 (s : Switch) : List Rule := Z3u s 4 0 way0
theorem Y7t (sg : Type) (y : sg → Rule → Option (Lp sg)) (s : Switch) (hs : Z89 s) (z : sg) : Zb1 sg y (.go z) s = yf y (Z42 s) z := by
 unfold Zb1 Zea Zf5 Znp
 rw [Option.bind_some, Option.bind_some]
 have := Zww sg y s hs 4 Z0x 0 way0 z (by omega) (by omega) (by unfold Z0x; omega) ⟨by simp [way0], by simp [way0]⟩
 show (Zb8 sg y Z0x (.go z) s ((0 : Nat) : Int) way0).bind _ = _
 rw [this]
 show _ = yf y (Z3u s 4 0 way0) z
 cases yf y (Z3u s 4 0 way0) z <;> rfl
def Z4y (s : Switch) : Nat → Nat → Nat
 | 0, _ => 1
 | d + 1, at_ => ((Z0y s at_).length + 1) * Z4y s d (at_ + 1)
theorem Zs1 (s : Switch) : ∀ (d at_ : Nat), 1 ≤ Z4y s d at_
 | 0, _ => Nat.le_refl _
 | d + 1, at_ => Nat.le_trans (Zs1 s d (at_ + 1)) (Nat.le_mul_of_pos_left _ (by omega))
theorem Zoz (s : Switch) : ∀ (d at_ n : Nat), at_ + d = 4 → at_ ≤ n → n ≤ 4 → Z4y s (4 - n) n ≤ Z4y s d at_
 | 0, at_, n, h1, h2, h3 => by
  have : n = 4 := by omega
  subst this
  exact Nat.le_refl _
 | d + 1, at_, n, h1, h2, h3 => by
  by_cases e : n = at_
  ·subst e
   have : 4 - n = d + 1 := by omega
   rw [this]; exact Nat.le_refl _
  ·rw [Z4y]
   exact Nat.le_trans (Zoz s d (at_ + 1) n (by omega) (by omega) h3) (Nat.le_mul_of_pos_left _ (by omega))
theorem Ztl {α β : Type} (f : α → List β) (k : Nat) : ∀ l : List α, (∀ x ∈ l, (f x).length ≤ k) → (l.flatMap f).length ≤ l.length * k
 | [], _ => by simp
 | x :: l, h => by
  rw [List.flatMap_cons, List.length_append, List.length_cons, Nat.add_mul, Nat.one_mul]
  have h1 := h x (by simp)
  have h2 := Ztl f k l fun y hy => h y (by simp [hy])
  omega
theorem Zpn (s : Switch) : ∀ (d at_ : Nat) (w : walk_way), 4 ≤ at_ + d → at_ < 4 → (Z3u s d at_ w).length ≤ Z4y s (4 - at_) at_
 | 0, at_, w, h, h' => by omega
 | d + 1, at_, w, h, h' => by
  have e : 4 - at_ = (4 - (at_ + 1)) + 1 := by omega
  rw [Z3u, List.length_append, List.length_singleton, e, Z4y, Nat.add_mul, Nat.one_mul]
  have h1 := Zs1 s (4 - (at_ + 1)) (at_ + 1)
  have h2 := Ztl (Z5b (Z3u s d) (Z0y s at_) at_ w) (Z4y s (4 - (at_ + 1)) (at_ + 1)) (Z5j (Z0y s at_)) fun i hi => by
   unfold Z5b
   split
   ·simp
   ·split
    ·simp
    ·split
     ·rename_i n hn
      have hb := Zl6 hn
      refine Nat.le_trans (Zpn s d n _ (by omega) hb.2) ?_
      exact Zoz s (4 - (at_ + 1)) (at_ + 1) n (by omega) (by omega) (by omega)
     ·simpa using h1
  rw [Zsc] at h2
  omega
theorem Zzi (s : Switch) : (Z42 s).length ≤ Z4y s 4 0 := Zpn s 4 0 way0 (by omega) (by omega)
theorem Y2q (s : Switch) (hs : Z89 s) (h : Z4y s 4 0 ≤ lim) : Zcd s = some (Z42 s) := by
 unfold Zcd Zld Zmb Zlf
 rw [Option.bind_some, Y6l (Z42 s) _ (fun y z => Y7t _ y s hs z) (Nat.le_trans (Zzi s) h)]
 rfl
end Go.Proofs.YtknpgojdkobgjaaGreat.W
namespace Go.Proofs.YtknpgojdkobgjaaGreat.W
open Go Go.Wb
def Zia (l : List Inst) : Bool := decide ((l.length : Int) ≤ 8) && !(l.any fun i => !decide ((i.Acts.length : Int) ≤ 12))
theorem Zzt (s : List Inst) (f : Inst → Option Bool) (p : Inst → Bool) (hf : ∀ x ∈ s, f x = some (p x)) : Zj5 s f = some (s.any p) := by
 unfold Zj5; rw [Ztn s f p hf, Option.bind_some, Zd4]
theorem Ybf (l : List Inst) : Ziu l = some (Zia l) := by
 unfold Ziu Zia
 rw [Zzt l Zkd (fun i => !decide ((i.Acts.length : Int) ≤ 12)) (fun x _ => rfl)]
 cases decide ((l.length : Int) ≤ 8) <;> rfl
def Zf6 (f : Flow) : Bool := decide ((f.Match.length : Int) ≤ 30) && Zia f.Insts
theorem Ydc (f : Flow) : Zgu f = some (Zf6 f) := by
 unfold Zgu Zf6
 rw [Ybf]
 cases decide ((f.Match.length : Int) ≤ 30) <;> rfl
theorem Y9u (s : List Flow) (f : Flow → Option Bool) (p : Flow → Bool) (hf : ∀ x ∈ s, f x = some (p x)) : Zj8 s f = some (Z0f p s) := by
 unfold Zj8
 rw [show ((s.length : Int)).toNat = s.length by omega]
 exact Zde p (fun i => by rw [Z7y]) (fun m i => by rw [Z7y]) hf
theorem Y51 (s : List Flow) (f : Flow → Option Bool) (p : Flow → Bool) (hf : ∀ x ∈ s, f x = some (p x)) : Zgx s f = some (s.any p) := by
 unfold Zgx; rw [Y9u s f p hf, Option.bind_some, Zd4]
def Zbq (t : List Flow) (many : Int) : Bool := decide ((t.length : Int) ≤ many) && !(t.any fun f => !Zf6 f)
theorem Ydk (t : List Flow) (many : Int) : Zgp t many = some (Zbq t many) := by
 unfold Zgp Zbq
 rw [Y51 t Zic (fun f => !Zf6 f) (fun f _ => by unfold Zic; rw [Ydc]; rfl)]
 cases decide ((t.length : Int) ≤ many) <;> rfl
def Zag (s : Switch) (many : Int) : Bool := (Vector.toList s.Tables).all (fun t => Zbq t many) && Zfd s.Groups 9 3
theorem Zwn (s : Switch) (many : Int) : ∀ (l : List (List Flow)) (i : Nat), Z71 s many l i = some (l.all (fun t => Zbq t many) && Zfd s.Groups 9 3)
 | [], i => by rw [Z71, Y1x]; rfl
 | t :: l, i => by
  rw [Z71, Ydk, Option.bind_some, Zwn s many l (i + 1), List.all_cons]
  cases Zbq t many <;> rfl
theorem Y04 (s : Switch) (many : Int) : Zi8 s many = some (Zag s many) := Zwn s many _ 0
theorem Y7g (s : Switch) (i : Nat) (h : i < 4) : Z0y s i = (Vector.toList s.Tables)[i]'(by simp; exact h) := by
 rw [← Zga s i h, Vector.getElem_toList]; rfl
theorem Ybn (s : Switch) (i : Nat) (h : i < 4) : Z0y s i ∈ Vector.toList s.Tables := by
 rw [Y7g s i h]; exact List.getElem_mem _
theorem Yce {l : List Inst} (h : Zia l = true) : l.length ≤ 8 ∧ Z73 l := by
 unfold Zia at h
 simp only [Bool.and_eq_true, decide_eq_true_eq, Bool.not_eq_true', List.any_eq_false] at h
 refine ⟨by omega, fun i hi => ?_⟩
 have h1 : decide ((i.Acts.length : Int) ≤ 12) = true := by simpa using h.2 i hi
 rw [decide_eq_true_eq] at h1
 omega
theorem Y93 {f : Flow} (h : Zf6 f = true) : f.Match.length ≤ 30 ∧ f.Insts.length ≤ 8 ∧ Z73 f.Insts := by
 unfold Zf6 at h
 rw [Bool.and_eq_true, decide_eq_true_eq] at h
 exact ⟨by omega, Yce h.2⟩
theorem Y6k {t : List Flow} {many : Nat} (h : Zbq t (many : Int) = true) : t.length ≤ many ∧ ∀ f ∈ t, f.Match.length ≤ 30 ∧ f.Insts.length ≤ 8 ∧ Z73 f.Insts := by
 unfold Zbq at h
 simp only [Bool.and_eq_true, decide_eq_true_eq, Bool.not_eq_true', List.any_eq_false] at h
 exact ⟨by omega, fun f hf => Y93 (by simpa using h.2 f hf)⟩
theorem Zit {s : Switch} {many : Nat} (h : Zag s (many : Int) = true) : (∀ i, i < 4 → (Z0y s i).length ≤ many ∧ ∀ f ∈ Z0y s i, f.Match.length ≤ 30 ∧ f.Insts.length ≤ 8 ∧ Z73 f.Insts) ∧ Zat s.Groups := by
 unfold Zag at h
 rw [Bool.and_eq_true, List.all_eq_true] at h
 exact ⟨fun i hi => Y6k (h.1 _ (Ybn s i hi)), Y31 h.2⟩
theorem Ydd {s : Switch} {many : Nat} (h : Zag s (many : Int) = true) (hm : many < 20) : Z89 s := fun i hi => ⟨by have := ((Zit h).1 i hi).1; omega, fun f hf => (((Zit h).1 i hi).2 f hf).2.2⟩
theorem Y0z (s : Switch) (m : Nat) (h : ∀ i, i < 4 → (Z0y s i).length ≤ m) : Z4y s 4 0 ≤ (m + 1) * ((m + 1) * ((m + 1) * ((m + 1) * 1))) := by
 show ((Z0y s 0).length + 1) * (((Z0y s 1).length + 1) * (((Z0y s 2).length + 1) * (((Z0y s 3).length + 1) * 1))) ≤ _
 have h0 := h 0 (by omega)
 have h1 := h 1 (by omega)
 have h2 := h 2 (by omega)
 have h3 := h 3 (by omega)
 exact Nat.mul_le_mul (by omega) (Nat.mul_le_mul (by omega) (Nat.mul_le_mul (by omega) (Nat.mul_le_mul (by omega) (Nat.le_refl _))))
end Go.Proofs.YtknpgojdkobgjaaGreat.W
namespace Go.Proofs.YtknpgojdkobgjaaGreat.W
open Go Go.Wb
theorem Zw5 (l : List Oxm) (hl : l.length ≤ 100000) : ∀ (m i : Nat) (c : Cube), i ≤ l.length → l.length < i + m → Z72 l m c (i : Int) = some ((l.drop i).foldl Zbt c)
 | 0, i, c, h1, h2 => by omega
 | m + 1, i, c, h1, h2 => by
  rw [Z72]
  by_cases hi : i < l.length
  ·have ih := fun c => Zw5 l hl m (i + 1) c (by omega) (by omega)
   rw [decide_eq_true (by omega), cond_true, Z1m hi, Option.bind_some, inc i (by omega), List.drop_eq_getElem_cons hi, List.foldl_cons]
   unfold Zaq
   rw [Option.bind_some]
   by_cases h : 0 ≤ l[i].Field ∧ l[i].Field < 24
   ·obtain ⟨n, hn⟩ : ∃ n : Nat, l[i].Field = (n : Int) := ⟨l[i].Field.toNat, by omega⟩
    have hn24 : n < 24 := by have := h.2; omega
    have hd : (decide (l[i].Field ≥ 0) && decide (l[i].Field < 24)) = true := by simp; omega
    have hc : chk 24 l[i].Field = some ⟨n, hn24⟩ := by rw [hn]; exact Z24 hn24
    rw [hd, cond_true, Option.bind_some, Option.bind_some, Zvt, Option.bind_some, hc, Option.bind_some, Zwq c l[i] n hn hn24]
    exact ih _
   ·have hd : (decide (l[i].Field ≥ 0) && decide (l[i].Field < 24)) = false := by
     rw [Bool.and_eq_false_iff, decide_eq_false_iff_not, decide_eq_false_iff_not]; omega
    rw [hd, cond_false, Zvm c l[i] h]
    exact ih _
  ·rw [decide_eq_false (by omega), cond_false, List.drop_of_length_le (by omega)]; rfl
theorem Y8p (f : Flow) (hl : f.Match.length ≤ 100000) : Zir f = some (Zef f) := by
 unfold Zir Zkr
 have := Zw5 f.Match hl ((((f.Match.length : Int) : Int) - 0).toNat + 1) 0 Z29 (by omega) (by omega)
 rw [show ((0 : Nat) : Int) = 0 from rfl, List.drop_zero] at this
 show ((Z72 f.Match ((((f.Match.length : Int) : Int) - 0).toNat + 1) Z29 0).bind _) = _
 rw [this, Option.bind_some, Ydt]; rfl
def inT (t : List Flow) (l : List Int) : Prop := ∀ j ∈ l, ∃ k : Nat, k < t.length ∧ j = (k : Int)
theorem Zpu (i : Nat) (hi : i ≤ 50) (go : List Int → Int → Option (List Int)) (A : List Int) (hA : A.length ≤ 50) : ∀ (Br S : List Int) (c : Int) (m : Nat), Br.length < m → Br.length ≤ 50 →
  Z80 (A.length : Int) go (i : Int) m (A ++ (Br.reverse ++ c :: S)) ((A.length + Br.length : Nat) : Int) = go (A ++ (i : Int) :: (Br.reverse ++ S)) ((i + 1 : Nat) : Int)
 | [], S, c, m, hm, _ => by
  obtain ⟨m, rfl⟩ : ∃ k, m = k + 1 := ⟨m - 1, by simp at hm; omega⟩
  have g0 : lget (A ++ c :: S) (A.length : Int) = some c := by
   rw [Z6g, List.getElem?_append_right (Nat.le_refl _)]; simp
  have s0 : List.set (A ++ c :: S) ((A.length : Int)).toNat (i : Int) = A ++ (i : Int) :: S := by
   rw [Int.toNat_natCast, List.set_append_right _ _ (Nat.le_refl _)]; simp
  rw [Z80, decide_eq_false (by simp), cond_false]
  simp only [List.reverse_nil, List.nil_append]
  rw [g0, Option.bind_some, s0, inc i (by omega)]
 | b :: Br, S, c, m, hm, hb => by
  simp only [List.length_cons] at hm hb
  obtain ⟨m, rfl⟩ : ∃ k, m = k + 1 := ⟨m - 1, by omega⟩
  have e0 : A ++ ((b :: Br).reverse ++ c :: S) = (A ++ Br.reverse) ++ b :: c :: S := by simp
  have ej : IntKind.i64.wrap (((A.length + (b :: Br).length : Nat) : Int) - 1) = ((A.length + Br.length : Nat) : Int) := by rw [Z2a (by simp only [List.length_cons]; omega) (by simp only [List.length_cons]; omega)]; simp only [List.length_cons]; omega
  have hlen : (A ++ Br.reverse).length = A.length + Br.length := by simp
  have g0 : lget ((A ++ Br.reverse) ++ b :: c :: S) ((A.length + Br.length : Nat) : Int) = some b := by
   rw [Z6g, List.getElem?_append_right (by omega), hlen, Nat.sub_self]; rfl
  have g1 : lget ((A ++ Br.reverse) ++ b :: c :: S) ((A.length + (b :: Br).length : Nat) : Int) = some c := by
   rw [Z6g, List.getElem?_append_right (by simp only [List.length_cons]; omega), hlen]
   have : A.length + (b :: Br).length - (A.length + Br.length) = 1 := by simp only [List.length_cons]; omega
   rw [this]; rfl
  have s1 : List.set ((A ++ Br.reverse) ++ b :: c :: S) (((A.length + (b :: Br).length : Nat) : Int)).toNat b = A ++ (Br.reverse ++ b :: b :: S) := by
   rw [Int.toNat_natCast, List.set_append_right _ _ (by simp only [List.length_cons]; omega), hlen]
   have : A.length + (b :: Br).length - (A.length + Br.length) = 1 := by simp only [List.length_cons]; omega
   rw [this]; simp
  rw [e0, Z80, decide_eq_true (by simp only [List.length_cons]; omega), cond_true, ej, g0, Option.bind_some, g1, Option.bind_some, s1, Zpu i hi go A hA Br (b :: S) b m (by omega) (by omega)]
  simp
theorem Zy3 (t : List Flow) (ht : t.length ≤ 50) (i : Nat) (hi : i < t.length) (go : List Int → Int → Option (List Int)) : ∀ (Ar B : List Int) (m : Nat), Ar.length < m → Ar.length + B.length ≤ 50 → inT t Ar →
  Z8d (Ar.reverse ++ B) t (i : Int) go m (Ar.length : Int) = go ((Z0s (ltP t) (i : Int) Ar).reverse ++ B) ((i + 1 : Nat) : Int)
 | [], B, m, hm, hb, _ => by
  have hlim : lim = 4294967296 := rfl
  obtain ⟨m, rfl⟩ : ∃ k, m = k + 1 := ⟨m - 1, by simp at hm; omega⟩
  simp only [List.length_nil, Nat.zero_add] at hb
  rw [Z8d, show decide ((([] : List Int).length : Int) > 0) = false from rfl]
  simp only [Zl8, Option.bind_some, Bool.false_and, cond_false, List.reverse_nil, List.nil_append]
  rw [Z1h (by simp; omega), Option.bind_some]
  have e1 : IntKind.i64.wrap (((B ++ [(0 : Int)]).length : Int) - 1) = ((([] : List Int).length + B.reverse.length : Nat) : Int) := by rw [Z2a (by simp <;> omega) (by simp <;> omega)]; simp
  have := Zpu i (by omega) go [] (by simp) B.reverse [] (0 : Int) ((((([] : List Int).length + B.reverse.length : Nat) : Int) - (([] : List Int).length : Int)).toNat + 1) (by simp <;> omega) (by simp <;> omega)
  simp only [List.nil_append, List.reverse_reverse, List.append_nil] at this
  rw [e1]
  refine Eq.trans this ?_
  simp [Z0s]
 | y :: Ar, B, m, hm, hb, hR => by
  have hlim : lim = 4294967296 := rfl
  obtain ⟨k, hk, rfl⟩ := hR y (by simp)
  simp only [List.length_cons] at hm hb
  obtain ⟨m, rfl⟩ : ∃ k, m = k + 1 := ⟨m - 1, by omega⟩
  have ej : IntKind.i64.wrap ((((k : Int) :: Ar).length : Int) - 1) = (Ar.length : Int) := by rw [Z2a (by simp only [List.length_cons]; omega) (by simp only [List.length_cons]; omega)]; simp only [List.length_cons]; omega
  have e0 : ((k : Int) :: Ar).reverse ++ B = Ar.reverse ++ (k : Int) :: B := by simp
  have g0 : lget (Ar.reverse ++ (k : Int) :: B) (Ar.length : Int) = some (k : Int) := by
   rw [Z6g, List.getElem?_append_right (by simp)]; simp
  have elt : decide (t[k].Priority < t[i].Priority) = ltP t (i : Int) (k : Int) := by
   unfold ltP
   rw [Zm5 hi, Zm5 hk]
  rw [Z8d, decide_eq_true (by simp only [List.length_cons]; omega), Z47, ej, e0, g0, Option.bind_some, Z47, Z1m hk, Option.bind_some, Z47, Z1m hi, Option.bind_some, Bool.true_and, Z0s, elt]
  cases ltP t (i : Int) (k : Int)
  ·rw [cond_false, cond_false, Z1h (by simp; omega), Option.bind_some]
   have e1 : IntKind.i64.wrap (((Ar.reverse ++ (k : Int) :: B ++ [(0 : Int)]).length : Int) - 1) = ((((k : Int) :: Ar).reverse.length + B.reverse.length : Nat) : Int) := by rw [Z2a (by simp; omega) (by simp; omega)]; simp; omega
   have := Zpu i (by omega) go ((k : Int) :: Ar).reverse (by simp; omega) B.reverse [] (0 : Int) ((((((k : Int) :: Ar).reverse.length + B.reverse.length : Nat) : Int) - (((k : Int) :: Ar).length : Int)).toNat + 1) (by simp; omega) (by simp; omega)
   simp only [List.reverse_reverse, List.append_nil] at this
   rw [e1]
   have e2 : Ar.reverse ++ (k : Int) :: B ++ [(0 : Int)] = ((k : Int) :: Ar).reverse ++ (B ++ [(0 : Int)]) := by simp
   have e3 : ((((k : Int) :: Ar).length : Int)) = ((((k : Int) :: Ar).reverse.length : Nat) : Int) := by simp
   rw [e2]
   rw [e3] at this ⊢
   refine Eq.trans this ?_
   simp
  ·rw [cond_true, cond_true, Zy3 t ht i hi go Ar ((k : Int) :: B) m (by omega) (by simp only [List.length_cons]; omega) fun j hj => hR j (by simp [hj])]
   simp
theorem Ybu (n i : Nat) (h : i < n) : (places n).drop i = (i : Int) :: (places n).drop (i + 1) := by
 have hl : i < (places n).length := by simp [places]; exact h
 rw [List.drop_eq_getElem_cons hl]
 congr 1
 simp [places]
theorem Zwm (t : List Flow) (hl : t.length ≤ 50) : ∀ (m i : Nat) (R : List Int), i ≤ t.length → t.length < i + m → R.length ≤ i → inT t R → Z9j t m R.reverse (i : Int) = some ((((places t.length).drop i).foldl (fun R x => Z0s (ltP t) x R) R).reverse)
 | 0, i, R, h1, h2, h3, _ => by omega
 | m + 1, i, R, h1, h2, h3, hR => by
  rw [Z9j]
  by_cases hi : i < t.length
  ·have h4 := Zy3 t hl i hi (Z9j t m) R [] Z0x (by unfold Z0x; omega) (by simp; omega) hR
   rw [List.append_nil, List.append_nil] at h4
   have e : ((R.reverse).length : Int) = (R.length : Int) := by simp
   rw [decide_eq_true (by omega), cond_true, e, h4, Zwm t hl m (i + 1) _ (by omega) (by omega) (by rw [Zut]; omega) (fun j hj => by
    rcases List.mem_cons.1 ((Zhj (ltP t) (i : Int) R).mem_iff.1 hj) with rfl | hj
    ·exact ⟨i, hi, rfl⟩
    ·exact hR j hj), Ybu _ _ hi, List.foldl_cons]
  ·rw [decide_eq_false (by omega), cond_false, List.drop_of_length_le (by simp [places]; omega)]; rfl
theorem Y9c (t : List Flow) (hl : t.length ≤ 50) : Zhh t = some (Z5j t) := by
 unfold Zhh Z5j srt
 have := Zwm t hl ((((t.length : Int) : Int) - 0).toNat + 1) 0 [] (by omega) (by omega) (by simp) (by intro j hj; simp at hj)
 rw [show ((0 : Nat) : Int) = 0 from rfl, List.drop_zero] at this
 exact this
def Yag (t : List Flow) : Prop := ∀ f ∈ t, f.Match.length ≤ 100000
theorem Zwu (l : List Inst) (k : Int) (hl : l.length ≤ 100000) : ∀ (m i : Nat), i ≤ l.length → l.length < i + m → Z9s l k m (i : Int) = some (Z1s Zo2 (ofI (l.drop i) k))
 | 0, i, h1, h2 => by omega
 | m + 1, i, h1, h2 => by
  rw [Z9s]
  by_cases hi : i < l.length
  ·rw [decide_eq_true (by omega), cond_true, Z1m hi, Option.bind_some, List.drop_eq_getElem_cons hi, inc i (by omega), Zwu l k hl m (i + 1) (by omega) (by omega)]
   unfold ofI
   rw [List.find?_cons]
   cases decide (l[i].Kind = k) <;> rfl
  ·rw [decide_eq_false (by omega), cond_false, List.drop_of_length_le (by omega)]; rfl
theorem Zij (l : List Inst) (k : Int) (hl : l.length ≤ 100000) : Z7u l k = some (Z1s Zo2 (ofI l k)) := by
 unfold Z7u
 have := Zwu l k hl ((((l.length : Int) : Int) - 0).toNat + 1) 0 (by omega) (by omega)
 rw [show ((0 : Nat) : Int) = 0 from rfl, List.drop_zero] at this
 exact this
end Go.Proofs.YtknpgojdkobgjaaGreat.W
