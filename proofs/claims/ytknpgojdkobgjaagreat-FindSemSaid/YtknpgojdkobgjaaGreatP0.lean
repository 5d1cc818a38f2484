/- A part of the proof. -/
import Derived.Test.YtknpgojdkobgjaaGreatG2
set_option linter.unusedVariables false
set_option linter.unusedSimpArgs false
namespace Go.Proofs.YtknpgojdkobgjaaGreat.W
open Go Go.Wb
abbrev big : Nat := 1000000
theorem Z5b {α : Type} (P Q : List α) (x : α) (i : Int) (h : i = (P.length : Int)) : lget (P ++ x :: Q) i = some x := by
 subst h
 rw [Z66, List.getElem?_append_right (Nat.le_refl _)]; simp
theorem Z80 {α : Type} (P Q : List α) (x y : α) (i : Nat) (h : i = P.length) : List.set (P ++ x :: Q) i y = P ++ y :: Q := by
 subst h
 rw [List.set_append_right _ _ (Nat.le_refl _)]; simp
theorem wr {n : Int} (h1 : -4611686018427387904 ≤ n) (h2 : n ≤ 4611686018427387904) : IntKind.i64.wrap n = n := Z2i (by omega) (by omega)
theorem Zap (n : Nat) (h : n ≤ 4611686018427387904) : IntKind.i64.wrap ((BitVec.ofNat 64 n).toNat : Int) = (n : Int) := by
 have : (BitVec.ofNat 64 n).toNat = n := by rw [BitVec.toNat_ofNat]; omega
 rw [this, wr (by omega) (by omega)]
theorem Zn7 (k : Int) (n : Nat) (hk : k = (n : Int)) (h : n ≤ 4611686018427387904) : Z3g (BitVec.ofInt 64 (IntKind.i64.wrap k)) ((1 : BitVec 64).toNat : Int) = some (BitVec.ofNat 64 (n / 2)) := by
 subst hk
 rw [wr (by omega) (by omega), show ((1 : BitVec 64).toNat : Int) = ((1 : Nat) : Int) from rfl]
 unfold Z3g
 rw [decide_eq_false (by omega), cond_false, BitVec.ofInt_natCast, Int.toNat_natCast]
 congr 1
 apply BitVec.eq_of_toNat_eq
 rw [BitVec.toNat_ushiftRight, BitVec.toNat_ofNat, BitVec.toNat_ofNat, Nat.shiftRight_eq_div_pow]
 omega
theorem Zz1 (n a b : Nat) : ∀ (U V P M Q : List Action) (i f : Nat), U.length = V.length → P.length = a + i → P.length + U.length + M.length = b + i → i + U.length = n → U.length < f → (P ++ U ++ M ++ V ++ Q).length ≤ big →
  Zdj (n : Int) (b : Int) (a : Int) f (P ++ U ++ M ++ V ++ Q) (i : Int) = some (P ++ V ++ M ++ U ++ Q)
 | [], V, P, M, Q, i, f, h1, h2, h3, h4, h5, h6 => by
  have hV : V = [] := List.eq_nil_of_length_eq_zero (by simpa using h1.symm)
  subst hV
  obtain ⟨f, rfl⟩ : ∃ k, f = k + 1 := ⟨f - 1, by simp at h5; omega⟩
  rw [Zdj, decide_eq_false (by simp at h4; omega), cond_false]
 | u :: U, [], P, M, Q, i, f, h1, h2, h3, h4, h5, h6 => by simp at h1
 | u :: U, v :: V, P, M, Q, i, f, h1, h2, h3, h4, h5, h6 => by
  obtain ⟨f, rfl⟩ : ∃ k, f = k + 1 := ⟨f - 1, by simp at h5; omega⟩
  simp only [List.length_cons, List.length_append] at h1 h3 h4 h5 h6
  have hbig : big = 1000000 := rfl
  have ea : IntKind.i64.wrap ((a : Int) + (i : Int)) = (P.length : Int) := by rw [wr (by omega) (by omega)]; omega
  have eb : IntKind.i64.wrap ((b : Int) + (i : Int)) = ((P ++ u :: U ++ M).length : Int) := by
   rw [wr (by omega) (by omega)]; simp only [List.length_append, List.length_cons]; omega
  have e1 : P ++ u :: U ++ M ++ v :: V ++ Q = (P ++ u :: U ++ M) ++ v :: (V ++ Q) := by simp
  have e2 : P ++ u :: U ++ M ++ v :: V ++ Q = P ++ u :: (U ++ M ++ v :: V ++ Q) := by simp
  have e3 : P ++ v :: (U ++ M ++ v :: V ++ Q) = (P ++ v :: U ++ M) ++ v :: (V ++ Q) := by simp
  have e4 : (P ++ v :: U ++ M) ++ u :: (V ++ Q) = (P ++ [v]) ++ U ++ (M ++ [u]) ++ V ++ Q := by simp
  have g1 : lget (P ++ u :: U ++ M ++ v :: V ++ Q) ((P ++ u :: U ++ M).length : Int) = some v := by rw [e1]; exact Z5b _ _ _ _ rfl
  have g2 : lget (P ++ u :: U ++ M ++ v :: V ++ Q) (P.length : Int) = some u := by rw [e2]; exact Z5b _ _ _ _ rfl
  have s1 : List.set (P ++ u :: U ++ M ++ v :: V ++ Q) ((P.length : Int)).toNat v = (P ++ v :: U ++ M) ++ v :: (V ++ Q) := by
   rw [e2, Int.toNat_natCast, Z80 _ _ _ _ _ rfl, e3]
  have hl : (P ++ u :: U ++ M).length = (P ++ v :: U ++ M).length := by simp
  have g3 : lget ((P ++ v :: U ++ M) ++ v :: (V ++ Q)) ((P ++ u :: U ++ M).length : Int) = some v := Z5b _ _ _ _ (by rw [hl])
  have s2 : List.set ((P ++ v :: U ++ M) ++ v :: (V ++ Q)) (((P ++ u :: U ++ M).length : Int)).toNat u = (P ++ [v]) ++ U ++ (M ++ [u]) ++ V ++ Q := by
   rw [Int.toNat_natCast, Z80 _ _ _ _ _ hl, e4]
  have ei : IntKind.i64.wrap ((i : Int) + 1) = ((i + 1 : Nat) : Int) := by rw [wr (by omega) (by omega)]; omega
  rw [Zdj, decide_eq_true (by omega), cond_true, eb, g1, Option.bind_some, ea, g2, Option.bind_some, Option.bind_some, s1, g3, Option.bind_some, s2, ei,
   Zz1 n a b U V (P ++ [v]) (M ++ [u]) Q (i + 1) f (by omega) (by simp only [List.length_append, List.length_cons, List.length_nil]; omega) (by simp only [List.length_append, List.length_cons, List.length_nil]; omega) (by omega) (by omega) (by simp only [List.length_append, List.length_cons, List.length_nil]; omega)]
  simp
theorem Zt0 (U V P M Q : List Action) (cmp : Action → Action → Option Int) (a b n : Int) (h : U.length = V.length) (ha : a = (P.length : Int)) (hb : b = ((P ++ U ++ M).length : Int)) (hn : n = (U.length : Int)) (hl : (P ++ U ++ M ++ V ++ Q).length ≤ big) :
  Zeg (P ++ U ++ M ++ V ++ Q) a b n cmp = some (P ++ V ++ M ++ U ++ Q) := by
 subst ha hb hn
 unfold Zeg
 exact Zz1 U.length P.length (P ++ U ++ M).length U V P M Q 0 _ h rfl (by simp only [List.length_append]; omega) (by omega) (by omega) hl
theorem Zrk (cmp : Action → Action → Option Int) : ∀ (f : Nat) (X Y P Q : List Action) (m : Nat), 0 < X.length → 0 < Y.length → X.length + Y.length ≤ f → P.length + X.length = m → (P ++ X ++ Y ++ Q).length ≤ big →
  Zdh (m : Int) cmp f (P ++ X ++ Y ++ Q) (X.length : Int) (Y.length : Int) = some (P ++ Y ++ X ++ Q)
 | 0, X, Y, P, Q, m, h1, h2, h3, h4, h5 => by omega
 | f + 1, X, Y, P, Q, m, h1, h2, h3, h4, h5 => by
  have hbig : big = 1000000 := rfl
  simp only [List.length_append] at h5
  have em : IntKind.i64.wrap ((m : Int) - (X.length : Int)) = (P.length : Int) := by rw [wr (by omega) (by omega)]; omega
  rw [Zdh, em]
  by_cases he : X.length = Y.length
  ·rw [decide_eq_false (by omega), cond_false]
   have := Zt0 X Y P [] Q cmp (P.length : Int) (m : Int) (X.length : Int) he rfl (by simp; omega) rfl (by simp only [List.length_append, List.length_nil]; omega)
   simp only [List.append_nil] at this
   rw [this]; rfl
  ·rw [decide_eq_true (by omega), cond_true]
   by_cases hg : X.length > Y.length
   ·rw [decide_eq_true (by omega), cond_true]
    have hx : X = X.take Y.length ++ X.drop Y.length := (List.take_append_drop ..).symm
    generalize hX1 : X.take Y.length = X1 at hx
    generalize hX2 : X.drop Y.length = X2 at hx
    have l1 : X1.length = Y.length := by rw [← hX1]; simp; omega
    have l2 : X2.length = X.length - Y.length := by rw [← hX2]; simp
    have := Zt0 X1 Y P X2 Q cmp (P.length : Int) (m : Int) (Y.length : Int) l1 rfl (by simp only [List.length_append]; omega) (by omega) (by simp only [List.length_append]; omega)
    have e1 : P ++ X ++ Y ++ Q = P ++ X1 ++ X2 ++ Y ++ Q := by rw [hx]; simp
    have e2 : P ++ Y ++ X2 ++ X1 ++ Q = (P ++ Y) ++ X2 ++ X1 ++ Q := by simp
    have e3 : IntKind.i64.wrap ((X.length : Int) - (Y.length : Int)) = (X2.length : Int) := by rw [wr (by omega) (by omega)]; omega
    have e4 : ((Y.length : Nat) : Int) = (X1.length : Int) := by omega
    rw [e1, this, Option.bind_some, e2, e3, e4, Zrk cmp f X2 X1 (P ++ Y) Q m (by omega) (by omega) (by omega) (by simp only [List.length_append]; omega) (by simp only [List.length_append]; omega)]
    rw [hx]; simp
   ·rw [decide_eq_false (by omega), cond_false]
    have hy : Y = Y.take (Y.length - X.length) ++ Y.drop (Y.length - X.length) := (List.take_append_drop ..).symm
    generalize hY1 : Y.take (Y.length - X.length) = Y1 at hy
    generalize hY2 : Y.drop (Y.length - X.length) = Y2 at hy
    have l1 : Y1.length = Y.length - X.length := by rw [← hY1]; simp
    have l2 : Y2.length = X.length := by rw [← hY2]; simp; omega
    have hb : IntKind.i64.wrap (IntKind.i64.wrap ((m : Int) + (Y.length : Int)) - (X.length : Int)) = ((P ++ X ++ Y1).length : Int) := by
     rw [wr (n := (m : Int) + (Y.length : Int)) (by omega) (by omega), wr (by omega) (by omega)]; simp only [List.length_append]; omega
    have := Zt0 X Y2 P Y1 Q cmp (P.length : Int) ((P ++ X ++ Y1).length : Int) (X.length : Int) (by omega) rfl rfl rfl (by simp only [List.length_append]; omega)
    have e1 : P ++ X ++ Y ++ Q = P ++ X ++ Y1 ++ Y2 ++ Q := by rw [hy]; simp
    have e2 : P ++ Y2 ++ Y1 ++ X ++ Q = P ++ Y2 ++ Y1 ++ (X ++ Q) := by simp
    have e3 : IntKind.i64.wrap ((Y.length : Int) - (X.length : Int)) = (Y1.length : Int) := by rw [wr (by omega) (by omega)]; omega
    have e4 : ((X.length : Nat) : Int) = (Y2.length : Int) := by omega
    rw [hb, e1, this, Option.bind_some, e2, e3, e4, Zrk cmp f Y2 Y1 P (X ++ Q) m (by omega) (by omega) (by omega) (by omega) (by simp only [List.length_append]; omega)]
    rw [hy]; simp
theorem Y6p (cmp : Action → Action → Option Int) (X Y P Q : List Action) (a m b : Int) (h1 : 0 < X.length) (h2 : 0 < Y.length) (ha : a = (P.length : Int)) (hm : m = ((P ++ X).length : Int)) (hb : b = ((P ++ X ++ Y).length : Int)) (hl : (P ++ X ++ Y ++ Q).length ≤ big) :
  Zey (P ++ X ++ Y ++ Q) a m b cmp = some (P ++ Y ++ X ++ Q) := by
 subst ha hm hb
 have hbig : big = 1000000 := rfl
 simp only [List.length_append] at hl
 unfold Zey
 have e1 : IntKind.i64.wrap (((P ++ X).length : Int) - (P.length : Int)) = (X.length : Int) := by rw [wr (by simp only [List.length_append]; omega) (by simp only [List.length_append]; omega)]; simp only [List.length_append]; omega
 have e2 : IntKind.i64.wrap (((P ++ X ++ Y).length : Int) - ((P ++ X).length : Int)) = (Y.length : Int) := by rw [wr (by simp only [List.length_append]; omega) (by simp only [List.length_append]; omega)]; simp only [List.length_append]; omega
 rw [e1, e2]
 exact Zrk cmp Z0l X Y P Q _ h1 h2 (by unfold Z0l; omega) (by simp) (by simp only [List.length_append]; omega)
theorem Zix {β : Type} (G : Nat → Int → Int → Option β) (K : Int → Option β) (t : Nat → Bool) (lo s hi : Nat)
  (step : ∀ (f i j : Nat), lo ≤ i → i < j → j ≤ hi → G (f + 1) (i : Int) (j : Int) = bif t ((i + j) / 2) then G f (((i + j) / 2 + 1 : Nat) : Int) (j : Int) else G f (i : Int) (((i + j) / 2 : Nat) : Int))
  (stop : ∀ (f i : Nat), lo ≤ i → i ≤ hi → G (f + 1) (i : Int) (i : Int) = K (i : Int)) (ht : ∀ c, lo ≤ c → c < s → t c = true) (hf : ∀ c, s ≤ c → c < hi → t c = false) :
  ∀ (f i j : Nat), lo ≤ i → i ≤ s → s ≤ j → j ≤ hi → j - i < f → G f (i : Int) (j : Int) = K (s : Int)
 | 0, i, j, _, _, _, _, h => by omega
 | f + 1, i, j, h1, h2, h3, h4, h5 => by
  by_cases hij : i < j
  ·rw [step f i j h1 hij h4]
   by_cases hc : (i + j) / 2 < s
   ·rw [ht _ (by omega) hc, cond_true]
    exact Zix G K t lo s hi step stop ht hf f _ j (by omega) (by omega) h3 h4 (by omega)
   ·rw [hf _ (by omega) (by omega), cond_false]
    exact Zix G K t lo s hi step stop ht hf f i _ h1 h2 (by omega) (by omega) (by omega)
  ·have e1 : i = s := by omega
   have e2 : j = s := by omega
   rw [e1, e2]
   exact stop f s (by omega) (by omega)
theorem Znf (t : Nat → Bool) (lo : Nat) : ∀ (n : Nat), (∀ c d, lo ≤ c → c ≤ d → d < lo + n → t c = false → t d = false) → ∃ s, lo ≤ s ∧ s ≤ lo + n ∧ (∀ c, lo ≤ c → c < s → t c = true) ∧ ∀ c, s ≤ c → c < lo + n → t c = false
 | 0, _ => ⟨lo, Nat.le_refl _, Nat.le_refl _, fun c h1 h2 => by omega, fun c h1 h2 => by omega⟩
 | n + 1, hm => by
  obtain ⟨s, h1, h2, h3, h4⟩ := Znf t lo n fun c d a b e f => hm c d a b (by omega) f
  by_cases hs : s < lo + n
  ·refine ⟨s, h1, by omega, h3, fun c a b => ?_⟩
   by_cases hc : c < lo + n
   ·exact h4 c a hc
   ·exact hm s c h1 a b (h4 s (Nat.le_refl _) hs)
  ·have : s = lo + n := by omega
   subst this
   cases ht : t (lo + n)
   ·exact ⟨lo + n, h1, by omega, h3, fun c a b => by rw [show c = lo + n by omega, ht]⟩
   ·refine ⟨lo + n + 1, by omega, by omega, fun c a b => ?_, fun c a b => by omega⟩
    by_cases hc : c < lo + n
    ·exact h3 c a hc
    ·have : c = lo + n := by omega
     rw [this, ht]
end Go.Proofs.YtknpgojdkobgjaaGreat.W
namespace Go.Proofs.YtknpgojdkobgjaaGreat.W
open Go Go.Wb
section sym
variable (lt : Action → Action → Bool) (cmp : Action → Action → Option Int)
def Z69 : Prop := ∀ x y, ∃ c, cmp x y = some c ∧ decide (c < 0) = lt x y
variable {lt cmp}
theorem Zy2 (e : Nat) : ∀ (Y P Q : List Action) (x : Action) (k f : Nat), k = P.length → k + Y.length + 1 = e → Y.length < f → (P ++ x :: (Y ++ Q)).length ≤ big →
  Z9x (e : Int) f (P ++ x :: (Y ++ Q)) (k : Int) = some (P ++ Y ++ x :: Q)
 | [], P, Q, x, k, f, h1, h2, h3, h4 => by
  obtain ⟨f, rfl⟩ : ∃ k, f = k + 1 := ⟨f - 1, by simp at h3; omega⟩
  have hbig : big = 1000000 := rfl
  simp only [List.length_append, List.length_cons, List.length_nil] at h2 h4
  rw [Z9x, wr (by omega) (by omega), decide_eq_false (by omega), cond_false]
  simp
 | y :: Y, P, Q, x, k, f, h1, h2, h3, h4 => by
  obtain ⟨f, rfl⟩ : ∃ k, f = k + 1 := ⟨f - 1, by simp at h3; omega⟩
  have hbig : big = 1000000 := rfl
  simp only [List.length_append, List.length_cons] at h2 h3 h4
  have ek : IntKind.i64.wrap ((k : Int) + 1) = ((k + 1 : Nat) : Int) := by rw [wr (by omega) (by omega)]; omega
  have e1 : P ++ x :: (y :: Y ++ Q) = (P ++ [x]) ++ y :: (Y ++ Q) := by simp
  have e2 : (P ++ [y]) ++ y :: (Y ++ Q) = P ++ y :: (y :: (Y ++ Q)) := by simp
  have g1 : lget (P ++ x :: (y :: Y ++ Q)) ((k + 1 : Nat) : Int) = some y := by rw [e1]; exact Z5b _ _ _ _ (by simp; omega)
  have g2 : lget (P ++ x :: (y :: Y ++ Q)) (k : Int) = some x := Z5b _ _ _ _ (by omega)
  have s1 : List.set (P ++ x :: (y :: Y ++ Q)) ((k : Int)).toNat y = (P ++ [y]) ++ y :: (Y ++ Q) := by rw [Int.toNat_natCast, Z80 _ _ _ _ _ h1]; simp
  have g3 : lget ((P ++ [y]) ++ y :: (Y ++ Q)) ((k + 1 : Nat) : Int) = some y := Z5b _ _ _ _ (by simp; omega)
  have s2 : List.set ((P ++ [y]) ++ y :: (Y ++ Q)) (((k + 1 : Nat) : Int)).toNat x = (P ++ [y]) ++ x :: (Y ++ Q) := by rw [Int.toNat_natCast, Z80 _ _ _ _ _ (by simp; omega)]
  rw [Z9x, wr (n := (e : Int) - 1) (by omega) (by omega), decide_eq_true (by omega), cond_true, ek, g1, Option.bind_some, g2, Option.bind_some, Option.bind_some, s1, g3, Option.bind_some, s2,
   Zy2 e Y (P ++ [y]) Q x (k + 1) f (by simp; omega) (by omega) (by omega) (by simp only [List.length_append, List.length_cons, List.length_nil]; omega)]
  simp
theorem Zwl (s : Nat) : ∀ (R P Q : List Action) (x : Action) (k f : Nat), k = s + R.length → P.length = s → R.length < f → (P ++ R.reverse ++ x :: Q).length ≤ big →
  Z9o (s : Int) f (P ++ R.reverse ++ x :: Q) (k : Int) = some (P ++ x :: (R.reverse ++ Q))
 | [], P, Q, x, k, f, h1, h2, h3, h4 => by
  obtain ⟨f, rfl⟩ : ∃ k, f = k + 1 := ⟨f - 1, by simp at h3; omega⟩
  rw [Z9o, decide_eq_false (by simp at h1; omega), cond_false]
  simp
 | y :: R, P, Q, x, k, f, h1, h2, h3, h4 => by
  obtain ⟨f, rfl⟩ : ∃ k, f = k + 1 := ⟨f - 1, by simp at h3; omega⟩
  have hbig : big = 1000000 := rfl
  simp only [List.length_append, List.length_cons, List.length_reverse] at h1 h3 h4
  have ek : IntKind.i64.wrap ((k : Int) - 1) = ((k - 1 : Nat) : Int) := by rw [wr (by omega) (by omega)]; omega
  have e1 : P ++ (y :: R).reverse ++ x :: Q = (P ++ R.reverse) ++ y :: (x :: Q) := by simp
  have e1' : P ++ (y :: R).reverse ++ x :: Q = (P ++ R.reverse ++ [y]) ++ x :: Q := by simp
  have g1 : lget (P ++ (y :: R).reverse ++ x :: Q) ((k - 1 : Nat) : Int) = some y := by rw [e1]; exact Z5b _ _ _ _ (by simp; omega)
  have g2 : lget (P ++ (y :: R).reverse ++ x :: Q) (k : Int) = some x := by rw [e1']; exact Z5b _ _ _ _ (by simp; omega)
  have s1 : List.set (P ++ (y :: R).reverse ++ x :: Q) ((k : Int)).toNat y = (P ++ R.reverse) ++ y :: (y :: Q) := by rw [e1', Int.toNat_natCast, Z80 _ _ _ _ _ (by simp; omega)]; simp
  have g3 : lget ((P ++ R.reverse) ++ y :: (y :: Q)) ((k - 1 : Nat) : Int) = some y := Z5b _ _ _ _ (by simp; omega)
  have s2 : List.set ((P ++ R.reverse) ++ y :: (y :: Q)) (((k - 1 : Nat) : Int)).toNat x = P ++ R.reverse ++ x :: (y :: Q) := by rw [Int.toNat_natCast, Z80 _ _ _ _ _ (by simp; omega)]
  rw [Z9o, decide_eq_true (by omega), cond_true, ek, g1, Option.bind_some, g2, Option.bind_some, Option.bind_some, s1, g3, Option.bind_some, s2,
   Zwl s R P (y :: Q) x (k - 1) f (by omega) h2 (by omega) (by simp only [List.length_append, List.length_cons, List.length_reverse]; omega)]
  simp
theorem Znb {α : Type} (P X Q : List α) (c : Nat) (h1 : P.length ≤ c) (h2 : c < P.length + X.length) : lget (P ++ X ++ Q) (c : Int) = some (X[c - P.length]'(by omega)) := by
 rw [Z66, List.append_assoc, List.getElem?_append_right h1, List.getElem?_append_left (by omega), List.getElem?_eq_getElem]
theorem Y7k {l : List Action} (h : Z16 lt l) {i j : Nat} (hi : i < l.length) (hj : j < l.length) (hij : i < j) : lt l[j] l[i] = false := (List.pairwise_iff_getElem.1 h) i j hi hj hij
theorem Zae (hs : Swo lt) {l : List Action} (h : Z16 lt l) {i j : Nat} (hi : i < l.length) (hj : j < l.length) (hij : i ≤ j) : lt l[j] l[i] = false := by
 rcases Nat.lt_or_eq_of_le hij with h1 | h1
 ·exact Y7k h hi hj h1
 ·subst h1
  have := Z7z hs l[i]
  unfold eqv at this
  simpa using this
theorem Zof {A B : List Action} (h : Z16 lt (A ++ B)) : Z16 lt A := (List.pairwise_append.1 h).1
theorem Zpt {A B : List Action} (h : Z16 lt (A ++ B)) : Z16 lt B := (List.pairwise_append.1 h).2.1
theorem Yco (hs : Swo lt) (hc : Z69 lt cmp) (x : Action) (Y P Q : List Action) (hY : Z16 lt Y) (hl : (P ++ x :: (Y ++ Q)).length ≤ big) :
  Z9n (P ++ x :: (Y ++ Q)) (P.length : Int) cmp ((((P.length + 1 + Y.length : Nat) : Int) - ((P.length + 1 : Nat) : Int)).toNat + 1) ((P.length + 1 : Nat) : Int) ((P.length + 1 + Y.length : Nat) : Int) = some (P ++ srt lt (x :: Y) ++ Q) := by
 have hbig : big = 1000000 := rfl
 simp only [List.length_append, List.length_cons] at hl
 have eD : P ++ x :: (Y ++ Q) = (P ++ [x]) ++ Y ++ Q := by simp
 let t : Nat → Bool := fun c => if h : c - (P.length + 1) < Y.length then lt Y[c - (P.length + 1)] x else false
 have htv : ∀ c (h : c - (P.length + 1) < Y.length), t c = lt Y[c - (P.length + 1)] x := fun c h => by simp only [t]; rw [dif_pos h]
 obtain ⟨s, s1, s2, s3, s4⟩ := Znf t (P.length + 1) Y.length fun c d h1 h2 h3 h4 => by
  rw [htv c (by omega)] at h4
  rw [htv d (by omega)]
  exact hs.neg _ _ _ (Zae hs hY (by omega) (by omega) (by omega)) h4
 have key := Zix (Z9n (P ++ x :: (Y ++ Q)) (P.length : Int) cmp) (fun i => Z9x i ((((IntKind.i64.wrap (i - 1)) : Int) - (P.length : Int)).toNat + 1) (P ++ x :: (Y ++ Q)) (P.length : Int)) t (P.length + 1) s (P.length + 1 + Y.length)
  (fun f i j h1 h2 h3 => by
   obtain ⟨c, hc1, hc2⟩ := hc (Y[(i + j) / 2 - (P.length + 1)]'(by omega)) x
   have gx : lget (P ++ x :: (Y ++ Q)) (P.length : Int) = some x := Z5b _ _ _ _ rfl
   have gy : lget (P ++ x :: (Y ++ Q)) (((i + j) / 2 : Nat) : Int) = some (Y[(i + j) / 2 - (P.length + 1)]'(by omega)) := by
    rw [eD, Znb (P ++ [x]) Y Q _ (by simp; omega) (by simp; omega)]
    simp
   have e1 : IntKind.i64.wrap ((((i + j) / 2 : Nat) : Int) + 1) = (((i + j) / 2 + 1 : Nat) : Int) := by rw [wr (by omega) (by omega)]; omega
   rw [Z9n, decide_eq_true (by omega), cond_true, Zn7 _ (i + j) (by omega) (by omega), Option.bind_some, Zap _ (by omega), gy, Option.bind_some, gx, Option.bind_some, hc1, Option.bind_some, hc2, htv _ (by omega), e1])
  (fun f i h1 h2 => by rw [Z9n, decide_eq_false (by omega), cond_false]) s3 (fun c h1 h2 => s4 c h1 h2)
 rw [key _ _ _ (Nat.le_refl _) s1 s2 (Nat.le_refl _) (by omega)]
 have hy : Y = Y.take (s - (P.length + 1)) ++ Y.drop (s - (P.length + 1)) := (List.take_append_drop ..).symm
 have l1 : (Y.take (s - (P.length + 1))).length = s - (P.length + 1) := by simp; omega
 have hm := Zy2 s (Y.take (s - (P.length + 1))) P (Y.drop (s - (P.length + 1)) ++ Q) x P.length ((((IntKind.i64.wrap ((s : Int) - 1)) : Int) - (P.length : Int)).toNat + 1) rfl (by omega) (by rw [wr (by omega) (by omega)]; omega) (by simp only [List.length_append, List.length_cons, List.length_drop]; omega)
 rw [← List.append_assoc, ← hy] at hm
 show Z9x (s : Int) _ _ _ = _
 rw [hm]
 have h1 : ∀ y ∈ Y.take (s - (P.length + 1)), lt y x = true := fun y hy1 => by
  obtain ⟨i, hi, rfl⟩ := List.getElem_of_mem hy1
  rw [l1] at hi
  have := s3 (i + (P.length + 1)) (by omega) (by omega)
  rw [htv _ (by omega)] at this
  simpa using this
 have h2 : ∀ y ∈ Y.drop (s - (P.length + 1)), lt y x = false := fun y hy1 => by
  obtain ⟨i, hi, rfl⟩ := List.getElem_of_mem hy1
  rw [List.length_drop] at hi
  have := s4 (s + i) (by omega) (by omega)
  rw [htv _ (by omega)] at this
  rw [List.getElem_drop]
  have e : s + i - (P.length + 1) = s - (P.length + 1) + i := by omega
  simpa [e] using this
 have hY' := hY
 rw [hy] at hY'
 have h3 := Zq7 hs (X1 := []) (X2 := [x]) (Y1 := Y.take (s - (P.length + 1))) (Y2 := Y.drop (s - (P.length + 1))) (by simp [Z16]) hY' (by simp) (fun y hy1 u hu => by rw [show u = x by simpa using hu]; exact h1 y hy1)
 simp only [List.nil_append, ← hy] at h3
 have h4 : srt lt ([x] ++ Y.drop (s - (P.length + 1))) = [x] ++ Y.drop (s - (P.length + 1)) := Zg6 hs (by
  unfold Z16
  rw [List.pairwise_append]
  exact ⟨by simp, (Zpt hY'), fun u hu v hv => by rw [show u = x by simpa using hu]; exact h2 v hv⟩)
 rw [h4, Zg6 hs (Zof hY')] at h3
 rw [show x :: Y = [x] ++ Y from rfl, h3]
 simp
theorem Ymh (hs : Swo lt) (hc : Z69 lt cmp) (x : Action) (X P Q : List Action) (hX : Z16 lt X) (hl : (P ++ X ++ x :: Q).length ≤ big) :
  Z9i (P ++ X ++ x :: Q) ((P.length + X.length : Nat) : Int) cmp ((((P.length + X.length : Nat) : Int) - (P.length : Int)).toNat + 1) (P.length : Int) ((P.length + X.length : Nat) : Int) = some (P ++ srt lt (X ++ [x]) ++ Q) := by
 have hbig : big = 1000000 := rfl
 simp only [List.length_append, List.length_cons] at hl
 let t : Nat → Bool := fun c => if h : c - P.length < X.length then !lt x X[c - P.length] else false
 have htv : ∀ c (h : c - P.length < X.length), t c = !lt x X[c - P.length] := fun c h => by simp only [t]; rw [dif_pos h]
 obtain ⟨s, s1, s2, s3, s4⟩ := Znf t P.length X.length fun c d h1 h2 h3 h4 => by
  rw [htv c (by omega)] at h4
  rw [htv d (by omega)]
  simp only [Bool.not_eq_false'] at h4 ⊢
  cases hd : lt x X[d - P.length]
  ·have := hs.neg _ _ _ hd (Zae hs hX (i := c - P.length) (j := d - P.length) (by omega) (by omega) (by omega))
   rw [this] at h4; cases h4
  ·rfl
 have key := Zix (Z9i (P ++ X ++ x :: Q) ((P.length + X.length : Nat) : Int) cmp) (fun i => Z9o i (((((P.length + X.length : Nat) : Int) : Int) - i).toNat + 1) (P ++ X ++ x :: Q) ((P.length + X.length : Nat) : Int)) t P.length s (P.length + X.length)
  (fun f i j h1 h2 h3 => by
   obtain ⟨c, hc1, hc2⟩ := hc x (X[(i + j) / 2 - P.length]'(by omega))
   have gx : lget (P ++ X ++ x :: Q) ((P.length + X.length : Nat) : Int) = some x := Z5b _ _ _ _ (by simp)
   have gy : lget (P ++ X ++ x :: Q) (((i + j) / 2 : Nat) : Int) = some (X[(i + j) / 2 - P.length]'(by omega)) := Znb P X (x :: Q) _ (by omega) (by omega)
   have e1 : IntKind.i64.wrap ((((i + j) / 2 : Nat) : Int) + 1) = (((i + j) / 2 + 1 : Nat) : Int) := by rw [wr (by omega) (by omega)]; omega
   rw [Z9i, decide_eq_true (by omega), cond_true, Zn7 _ (i + j) (by omega) (by omega), Option.bind_some, Zap _ (by omega), gx, Option.bind_some, gy, Option.bind_some, hc1, Option.bind_some, hc2, htv _ (by omega), e1])
  (fun f i h1 h2 => by rw [Z9i, decide_eq_false (by omega), cond_false]) s3 (fun c h1 h2 => s4 c h1 h2)
 rw [key _ _ _ (Nat.le_refl _) s1 s2 (Nat.le_refl _) (by omega)]
 have hx : X = X.take (s - P.length) ++ X.drop (s - P.length) := (List.take_append_drop ..).symm
 have l1 : (X.take (s - P.length)).length = s - P.length := by simp; omega
 have hm := Zwl s (X.drop (s - P.length)).reverse (P ++ X.take (s - P.length)) Q x (P.length + X.length) (((((P.length + X.length : Nat) : Int) : Int) - (s : Int)).toNat + 1) (by simp; omega) (by simp; omega) (by simp; omega) (by simp only [List.length_append, List.length_cons, List.length_reverse, List.length_drop, List.length_take]; omega)
 rw [List.reverse_reverse, List.append_assoc P, ← hx] at hm
 show Z9o (s : Int) _ _ _ = _
 rw [hm]
 have h1 : ∀ u ∈ X.take (s - P.length), lt x u = false := fun u hu => by
  obtain ⟨i, hi, rfl⟩ := List.getElem_of_mem hu
  rw [l1] at hi
  have := s3 (i + P.length) (by omega) (by omega)
  rw [htv _ (by omega)] at this
  simpa using this
 have h2 : ∀ u ∈ X.drop (s - P.length), lt x u = true := fun u hu => by
  obtain ⟨i, hi, rfl⟩ := List.getElem_of_mem hu
  rw [List.length_drop] at hi
  have := s4 (s + i) (by omega) (by omega)
  rw [htv _ (by omega)] at this
  rw [List.getElem_drop]
  have e : s + i - P.length = s - P.length + i := by omega
  simpa [e] using this
 have hX' := hX
 rw [hx] at hX'
 have h3 := Zq7 hs (X1 := X.take (s - P.length)) (X2 := X.drop (s - P.length)) (Y1 := [x]) (Y2 := []) hX' (by simp [Z16]) (by simp) (fun y hy1 u hu => by rw [show y = x by simpa using hy1]; exact h2 u hu)
 simp only [List.append_nil, ← hx] at h3
 have h4 : srt lt (X.take (s - P.length) ++ [x]) = X.take (s - P.length) ++ [x] := Zg6 hs (by
  unfold Z16
  rw [List.pairwise_append]
  exact ⟨(Zof hX'), by simp, fun u hu v hv => by rw [show v = x by simpa using hv]; exact h1 u hu⟩)
 rw [h4, Zg6 hs (Zpt hX')] at h3
 rw [h3]
 simp
end sym
end Go.Proofs.YtknpgojdkobgjaaGreat.W
namespace Go.Proofs.YtknpgojdkobgjaaGreat.W
open Go Go.Wb
section sym
variable {lt : Action → Action → Bool} {cmp : Action → Action → Option Int}
def Zpj (lt : Action → Action → Bool) (cmp : Action → Action → Option Int) (f : Nat) (R : List Action → Int → Int → Int → (Action → Action → Option Int) → Option (List Action)) : Prop :=
 ∀ (P X Y Q : List Action) (a m b : Int), a = (P.length : Int) → m = (P.length : Int) + (X.length : Int) → b = (P.length : Int) + (X.length : Int) + (Y.length : Int) → 0 < X.length → 0 < Y.length → X.length + Y.length ≤ f → Z16 lt X → Z16 lt Y → (P ++ X ++ Y ++ Q).length ≤ big →
  R (P ++ X ++ Y ++ Q) a m b cmp = some (P ++ srt lt (X ++ Y) ++ Q)
theorem Zz2 (hs : Swo lt) {X Y : List Action} (hX : Z16 lt X) (hY : Z16 lt Y) (h : ¬ (0 < X.length ∧ 0 < Y.length)) : srt lt (X ++ Y) = X ++ Y := by
 cases X with
 | nil => exact Zg6 hs hY
 | cons x X =>
  cases Y with
  | nil => rw [List.append_nil]; exact Zg6 hs hX
  | cons y Y => exact absurd ⟨by simp, by simp⟩ h
theorem Ye1 (hs : Swo lt) {f : Nat} {R : List Action → Int → Int → Int → (Action → Action → Option Int) → Option (List Action)} (hR : Zpj lt cmp f R) (P X2 Y2 Q : List Action) (mid : Nat) (m start b : Int)
  (h1 : mid = P.length) (h2 : (mid : Int) + m - start = (P.length : Int) + (X2.length : Int)) (h3 : b = (P.length : Int) + (X2.length : Int) + (Y2.length : Int)) (hm : 0 ≤ m ∧ m ≤ big) (hst : 0 ≤ start ∧ start ≤ big) (hf : X2.length + Y2.length ≤ f) (hX : Z16 lt X2) (hY : Z16 lt Y2) (hl : (P ++ X2 ++ Y2 ++ Q).length ≤ big) :
  Zgf (BitVec.ofNat 64 mid) m start b R cmp (P ++ X2 ++ Y2 ++ Q) = some (P ++ srt lt (X2 ++ Y2) ++ Q) := by
 have hbig : big = 1000000 := rfl
 have hl' := hl
 simp only [List.length_append] at hl'
 unfold Zgf
 rw [Zap mid (by omega)]
 have e1 : IntKind.i64.wrap (IntKind.i64.wrap ((mid : Int) + m) - start) = (P.length : Int) + (X2.length : Int) := by
  rw [wr (n := (mid : Int) + m) (by omega) (by omega), wr (by omega) (by omega), h2]
 rw [e1]
 by_cases hc : 0 < X2.length ∧ 0 < Y2.length
 ·rw [decide_eq_true (by omega), decide_eq_true (by omega), Bool.and_true, cond_true, hR P X2 Y2 Q _ _ _ (by omega) rfl h3 hc.1 hc.2 hf hX hY hl]
  rfl
 ·have : (decide ((mid : Int) < (P.length : Int) + (X2.length : Int)) && decide ((P.length : Int) + (X2.length : Int) < b)) = false := by
   rw [Bool.and_eq_false_iff, decide_eq_false_iff_not, decide_eq_false_iff_not]
   by_cases h : 0 < X2.length
   ·exact .inr (fun h' => hc ⟨h, by omega⟩)
   ·exact .inl (by omega)
  rw [this, cond_false, Zz2 hs hX hY hc]
  simp
theorem Ycu (hs : Swo lt) {f : Nat} {R : List Action → Int → Int → Int → (Action → Action → Option Int) → Option (List Action)} (hR : Zpj lt cmp f R) (P X1 Y1 X2 Y2 Q : List Action) (mid : Nat) (a m start b : Int)
  (ha : a = (P.length : Int)) (h1 : mid = P.length + X1.length + Y1.length) (hs1 : start = (P.length : Int) + (X1.length : Int)) (hm : m = start + (X2.length : Int)) (h3 : b = (mid : Int) + (X2.length : Int) + (Y2.length : Int))
  (hf1 : X1.length + Y1.length ≤ f) (hf2 : X2.length + Y2.length ≤ f) (hX1 : Z16 lt X1) (hY1 : Z16 lt Y1) (hX2 : Z16 lt X2) (hY2 : Z16 lt Y2) (hl : (P ++ X1 ++ Y1 ++ X2 ++ Y2 ++ Q).length ≤ big) :
  Zac a start (BitVec.ofNat 64 mid) R cmp m b (P ++ X1 ++ Y1 ++ X2 ++ Y2 ++ Q) = some (P ++ srt lt (X1 ++ Y1) ++ srt lt (X2 ++ Y2) ++ Q) := by
 have hbig : big = 1000000 := rfl
 have hl' := hl
 simp only [List.length_append] at hl'
 have hlen : (srt lt (X1 ++ Y1)).length = X1.length + Y1.length := by rw [Z35 hs]; simp
 have last := Ye1 hs hR (P ++ srt lt (X1 ++ Y1)) X2 Y2 Q mid m start b (by simp only [List.length_append, hlen]; omega) (by simp only [List.length_append, hlen]; omega) (by simp only [List.length_append, hlen]; omega) (by omega) (by omega) hf2 hX2 hY2 (by simp only [List.length_append, hlen]; omega)
 unfold Zac
 rw [Zap mid (by omega)]
 by_cases hc : 0 < X1.length ∧ 0 < Y1.length
 ·have hr := hR P X1 Y1 (X2 ++ Y2 ++ Q) a start (mid : Int) ha hs1 (by omega) hc.1 hc.2 hf1 hX1 hY1 (by simp only [List.length_append]; omega)
  have e : P ++ X1 ++ Y1 ++ X2 ++ Y2 ++ Q = P ++ X1 ++ Y1 ++ (X2 ++ Y2 ++ Q) := by simp
  have e' : P ++ srt lt (X1 ++ Y1) ++ (X2 ++ Y2 ++ Q) = P ++ srt lt (X1 ++ Y1) ++ X2 ++ Y2 ++ Q := by simp
  rw [decide_eq_true (by omega), decide_eq_true (by omega), Bool.and_true, cond_true, e, hr, Option.bind_some, e', last]
 ·have hd : (decide (a < start) && decide (start < (mid : Int))) = false := by
   rw [Bool.and_eq_false_iff, decide_eq_false_iff_not, decide_eq_false_iff_not]
   by_cases h : 0 < X1.length
   ·exact .inr (fun h' => hc ⟨h, by omega⟩)
   ·exact .inl (by omega)
  rw [hd, cond_false]
  rw [Zz2 hs hX1 hY1 hc] at last ⊢
  have e : P ++ X1 ++ Y1 ++ X2 ++ Y2 ++ Q = P ++ (X1 ++ Y1) ++ X2 ++ Y2 ++ Q := by simp
  rw [e, last]
theorem Y3t (hs : Swo lt) (hc : Z69 lt cmp) {f : Nat} {R : List Action → Int → Int → Int → (Action → Action → Option Int) → Option (List Action)} (hR : Zpj lt cmp f R) (P X Y Q : List Action) (mid lo hi : Nat)
  (hmid : mid = (P.length + (P.length + X.length + Y.length)) / 2) (h2 : 2 ≤ X.length) (h2' : 2 ≤ Y.length) (hf : X.length + Y.length ≤ f + 1) (hX : Z16 lt X) (hY : Z16 lt Y) (hl : (P ++ X ++ Y ++ Q).length ≤ big)
  (hlh : (mid < P.length + X.length ∧ lo + (P.length + X.length + Y.length) = mid + (P.length + X.length) ∧ hi = mid) ∨ (P.length + X.length ≤ mid ∧ lo = P.length ∧ hi = P.length + X.length)) :
  Zej (P ++ X ++ Y ++ Q) (BitVec.ofNat 64 mid) ((P.length : Int) + (X.length : Int)) cmp (P.length : Int) R ((P.length : Int) + (X.length : Int) + (Y.length : Int)) (lo : Int) (hi : Int) = some (P ++ srt lt (X ++ Y) ++ Q) := by
 have hbig : big = 1000000 := rfl
 have hl' := hl
 simp only [List.length_append] at hl'
 have hin : ∀ c, lo ≤ c → c < hi → P.length ≤ c ∧ c < P.length + X.length ∧ P.length + X.length ≤ mid + (P.length + X.length) - 1 - c ∧ mid + (P.length + X.length) - 1 - c < P.length + X.length + Y.length := fun c a b => by rcases hlh with h | h <;> omega
 let t : Nat → Bool := fun c => if h : (c - P.length < X.length ∧ (mid + (P.length + X.length) - 1 - c) - (P.length + X.length) < Y.length) then !lt (Y[(mid + (P.length + X.length) - 1 - c) - (P.length + X.length)]'h.2) (X[c - P.length]'h.1) else false
 have htv : ∀ c (h1 : c - P.length < X.length) (h2 : (mid + (P.length + X.length) - 1 - c) - (P.length + X.length) < Y.length), t c = !lt (Y[(mid + (P.length + X.length) - 1 - c) - (P.length + X.length)]'h2) (X[c - P.length]'h1) := fun c h1 h2 => by simp only [t]; rw [dif_pos ⟨h1, h2⟩]
 have hlohi : lo ≤ hi := by rcases hlh with h | h <;> omega
 obtain ⟨s, s1, s2, s3, s4⟩ := Znf t lo (hi - lo) fun c d h1 h2 h3 h4 => by
  have a1 := hin c h1 (by omega)
  have a2 := hin d (by omega) (by omega)
  rw [htv c (by omega) (by omega)] at h4
  rw [htv d (by omega) (by omega)]
  simp only [Bool.not_eq_false'] at h4 ⊢
  cases hd : lt (Y[(mid + (P.length + X.length) - 1 - d) - (P.length + X.length)]'(by omega)) (X[d - P.length]'(by omega))
  ·have b1 := Zae hs hX (i := c - P.length) (j := d - P.length) (by omega) (by omega) (by omega)
   have b2 := Zae hs hY (i := (mid + (P.length + X.length) - 1 - d) - (P.length + X.length)) (j := (mid + (P.length + X.length) - 1 - c) - (P.length + X.length)) (by omega) (by omega) (by omega)
   rw [hs.neg _ _ _ (hs.neg _ _ _ b2 hd) b1] at h4; cases h4
  ·rfl
 have e0 : lo + (hi - lo) = hi := by omega
 rw [e0] at s2 s4
 unfold Zej
 have key := Zix (Zao (P ++ X ++ Y ++ Q) (BitVec.ofNat 64 mid) ((P.length : Int) + (X.length : Int)) cmp (P.length : Int) R ((P.length : Int) + (X.length : Int) + (Y.length : Int)))
  (fun start => bif ((decide (start < ((P.length : Int) + (X.length : Int)))) && (decide (((P.length : Int) + (X.length : Int)) < (IntKind.i64.wrap ((IntKind.i64.wrap ((IntKind.i64.wrap ((BitVec.ofNat 64 mid).toNat : Int)) + ((P.length : Int) + (X.length : Int)))) - start))))) then (Zey (P ++ X ++ Y ++ Q) start ((P.length : Int) + (X.length : Int)) (IntKind.i64.wrap ((IntKind.i64.wrap ((IntKind.i64.wrap ((BitVec.ofNat 64 mid).toNat : Int)) + ((P.length : Int) + (X.length : Int)))) - start)) cmp).bind fun l59 => Zac (P.length : Int) start (BitVec.ofNat 64 mid) R cmp ((P.length : Int) + (X.length : Int)) ((P.length : Int) + (X.length : Int) + (Y.length : Int)) l59 else Zac (P.length : Int) start (BitVec.ofNat 64 mid) R cmp ((P.length : Int) + (X.length : Int)) ((P.length : Int) + (X.length : Int) + (Y.length : Int)) (P ++ X ++ Y ++ Q))
  t lo s hi
  (fun f i j h1 h2 h3 => by
   have a1 := hin ((i + j) / 2) (by omega) (by omega)
   obtain ⟨c, hc1, hc2⟩ := hc (Y[(mid + (P.length + X.length) - 1 - (i + j) / 2) - (P.length + X.length)]'(by omega)) (X[(i + j) / 2 - P.length]'(by omega))
   have gx : lget (P ++ X ++ Y ++ Q) (((i + j) / 2 : Nat) : Int) = some (X[(i + j) / 2 - P.length]'(by omega)) := by
    rw [List.append_assoc (P ++ X)]
    exact Znb P X (Y ++ Q) _ a1.1 a1.2.1
   have ep : IntKind.i64.wrap (IntKind.i64.wrap (IntKind.i64.wrap ((mid : Int) + ((P.length : Int) + (X.length : Int))) - 1) - (((i + j) / 2 : Nat) : Int)) = ((mid + (P.length + X.length) - 1 - (i + j) / 2 : Nat) : Int) := by
    rw [wr (n := (mid : Int) + ((P.length : Int) + (X.length : Int))) (by omega) (by omega), wr (n := (mid : Int) + ((P.length : Int) + (X.length : Int)) - 1) (by omega) (by omega), wr (by omega) (by omega)]; omega
   have gy : lget (P ++ X ++ Y ++ Q) ((mid + (P.length + X.length) - 1 - (i + j) / 2 : Nat) : Int) = some (Y[(mid + (P.length + X.length) - 1 - (i + j) / 2) - (P.length + X.length)]'(by omega)) := by
    rw [Znb (P ++ X) Y Q _ (by simp; omega) (by simp; omega)]
    simp
   have e1 : IntKind.i64.wrap ((((i + j) / 2 : Nat) : Int) + 1) = (((i + j) / 2 + 1 : Nat) : Int) := by rw [wr (by omega) (by omega)]; omega
   rw [Zao, decide_eq_true (by omega), cond_true, Zn7 _ (i + j) (by omega) (by omega), Option.bind_some, Zap mid (by omega), Zap ((i + j) / 2) (by omega), ep, gy, Option.bind_some, gx, Option.bind_some, hc1, Option.bind_some, hc2, htv _ (by omega) (by omega), e1])
  (fun f i h1 h2 => by rw [Zao, decide_eq_false (by omega), cond_false]) s3 (fun c h1 h2 => s4 c h1 h2)
 rw [key _ _ _ (Nat.le_refl _) s1 s2 (Nat.le_refl _) (by omega)]
 have hsm : P.length ≤ s ∧ s ≤ P.length + X.length ∧ s ≤ mid ∧ mid + X.length ≤ s + (X.length + Y.length) := by rcases hlh with h | h <;> omega
 have hx : X = X.take (s - P.length) ++ X.drop (s - P.length) := (List.take_append_drop ..).symm
 have hy : Y = Y.take (mid - s) ++ Y.drop (mid - s) := (List.take_append_drop ..).symm
 have l1 : (X.take (s - P.length)).length = s - P.length := by simp; omega
 have l2 : (X.drop (s - P.length)).length = P.length + X.length - s := by simp; omega
 have l3 : (Y.take (mid - s)).length = mid - s := by simp; omega
 have l4 : (Y.drop (mid - s)).length = Y.length - (mid - s) := by simp
 have hX' := hX
 rw [hx] at hX'
 have hY' := hY
 rw [hy] at hY'
 have hx1 : ∀ x ∈ X.take (s - P.length), ∀ y ∈ Y.drop (mid - s), lt y x = false := fun x hxm y hym => by
  obtain ⟨i, hii, rfl⟩ := List.getElem_of_mem hxm
  obtain ⟨j, hj, rfl⟩ := List.getElem_of_mem hym
  rw [l1] at hii
  rw [l4] at hj
  have hc' : lo ≤ s - 1 := by rcases hlh with h | h <;> omega
  have a1 := hin (s - 1) hc' (by omega)
  have := s3 (s - 1) hc' (by omega)
  rw [htv _ (by omega) (by omega), Bool.not_eq_true'] at this
  rw [List.getElem_drop, List.getElem_take]
  have b1 := Zae hs hX (i := i) (j := s - 1 - P.length) (by omega) (by omega) (by omega)
  have b2 := Zae hs hY (i := (mid + (P.length + X.length) - 1 - (s - 1)) - (P.length + X.length)) (j := mid - s + j) (by omega) (by omega) (by omega)
  exact hs.neg _ _ _ (hs.neg _ _ _ b2 this) b1
 have hx2 : ∀ y ∈ Y.take (mid - s), ∀ x ∈ X.drop (s - P.length), lt y x = true := fun y hym x hxm => by
  obtain ⟨i, hii, rfl⟩ := List.getElem_of_mem hxm
  obtain ⟨j, hj, rfl⟩ := List.getElem_of_mem hym
  rw [l3] at hj
  rw [l2] at hii
  have hc' : s < hi := by rcases hlh with h | h <;> omega
  have a1 := hin s s1 hc'
  have := s4 s (Nat.le_refl _) hc'
  rw [htv _ (by omega) (by omega), Bool.not_eq_false'] at this
  rw [List.getElem_drop, List.getElem_take]
  have b1 := Zae hs hX (i := s - P.length) (j := s - P.length + i) (by omega) (by omega) (by omega)
  have b2 := Zae hs hY (i := j) (j := (mid + (P.length + X.length) - 1 - s) - (P.length + X.length)) (by omega) (by omega) (by omega)
  cases hd : lt (Y[j]'(by omega)) (X[s - P.length + i]'(by omega))
  ·rw [hs.neg _ _ _ (hs.neg _ _ _ b2 hd) b1] at this; cases this
  ·rfl
 have hsp := Zq7 hs hX' hY' hx1 hx2
 rw [← hx, ← hy] at hsp
 rw [hsp]
 generalize X.take (s - P.length) = X1 at *
 generalize X.drop (s - P.length) = X2 at *
 generalize Y.take (mid - s) = Y1 at *
 generalize Y.drop (mid - s) = Y2 at *
 have last := Ycu hs hR P X1 Y1 X2 Y2 Q mid (P.length : Int) ((P.length : Int) + (X.length : Int)) (s : Int) ((P.length : Int) + (X.length : Int) + (Y.length : Int)) rfl (by omega) (by omega) (by omega) (by omega) (by omega) (by omega) (Zof hX') (Zof hY') (Zpt hX') (Zpt hY') (by simp only [List.length_append]; omega)
 have ee : IntKind.i64.wrap (IntKind.i64.wrap ((mid : Int) + ((P.length : Int) + (X.length : Int))) - (s : Int)) = ((P ++ X1 ++ X2 ++ Y1).length : Int) := by
  rw [wr (n := (mid : Int) + ((P.length : Int) + (X.length : Int))) (by omega) (by omega), wr (by omega) (by omega)]; simp only [List.length_append]; omega
 have eres : P ++ srt lt (X1 ++ Y1) ++ srt lt (X2 ++ Y2) ++ Q = P ++ (srt lt (X1 ++ Y1) ++ srt lt (X2 ++ Y2)) ++ Q := by simp
 rw [eres] at last
 show (bif _ then _ else _) = _
 rw [Zap mid (by omega), ee]
 have hlen4 : (P ++ X1 ++ X2 ++ Y1).length = P.length + X1.length + X2.length + Y1.length := by simp only [List.length_append]
 by_cases hcc : 0 < X2.length ∧ 0 < Y1.length
 ·have eL : P ++ X ++ Y ++ Q = (P ++ X1) ++ X2 ++ Y1 ++ (Y2 ++ Q) := by rw [hx, hy]; simp
  have hr := Y6p cmp X2 Y1 (P ++ X1) (Y2 ++ Q) (s : Int) ((P.length : Int) + (X.length : Int)) ((P ++ X1 ++ X2 ++ Y1).length : Int) hcc.1 hcc.2 (by simp only [List.length_append]; omega) (by simp only [List.length_append]; omega) rfl (by simp only [List.length_append]; omega)
  have eR : (P ++ X1) ++ Y1 ++ X2 ++ (Y2 ++ Q) = P ++ X1 ++ Y1 ++ X2 ++ Y2 ++ Q := by simp
  rw [decide_eq_true (by omega), decide_eq_true (by omega), Bool.and_true, cond_true, eL, hr, Option.bind_some, eR, last]
 ·have hd : (decide ((s : Int) < (P.length : Int) + (X.length : Int)) && decide ((P.length : Int) + (X.length : Int) < ((P ++ X1 ++ X2 ++ Y1).length : Int))) = false := by
   rw [Bool.and_eq_false_iff, decide_eq_false_iff_not, decide_eq_false_iff_not]
   by_cases h : 0 < X2.length
   ·exact .inr (fun h' => hcc ⟨h, by omega⟩)
   ·exact .inl (by omega)
  have eL : P ++ X ++ Y ++ Q = P ++ X1 ++ Y1 ++ X2 ++ Y2 ++ Q := by
   rw [hx, hy]
   have : X2 = [] ∨ Y1 = [] := by
    rcases Nat.eq_zero_or_pos X2.length with h | h
    ·exact .inl (List.eq_nil_of_length_eq_zero h)
    ·rcases Nat.eq_zero_or_pos Y1.length with h' | h'
     ·exact .inr (List.eq_nil_of_length_eq_zero h')
     ·exact absurd ⟨h, h'⟩ hcc
   rcases this with h | h
   ·subst h; simp
   ·subst h; simp
  rw [hd, cond_false, eL, last]
theorem Zst (hs : Swo lt) (hc : Z69 lt cmp) : ∀ f, Zpj lt cmp f (Zfi f)
 | 0 => fun P X Y Q a m b _ _ _ h1 h2 h3 => by omega
 | f + 1 => by
  intro P X Y Q a m b ha hm hb h1 h2 h3 hX hY hl
  subst ha hm hb
  have hbig : big = 1000000 := rfl
  have hl' := hl
  simp only [List.length_append] at hl'
  show Zjj (Zfi f) _ _ _ _ _ = _
  unfold Zjj
  have e1 : IntKind.i64.wrap ((P.length : Int) + (X.length : Int) - (P.length : Int)) = (X.length : Int) := by rw [wr (by omega) (by omega)]; omega
  have e2 : IntKind.i64.wrap ((P.length : Int) + (X.length : Int) + (Y.length : Int) - ((P.length : Int) + (X.length : Int))) = (Y.length : Int) := by rw [wr (by omega) (by omega)]; omega
  rw [e1, e2]
  by_cases hx1 : X.length = 1
  ·obtain ⟨x, rfl⟩ : ∃ x, X = [x] := List.length_eq_one_iff.1 hx1
   have := Yco hs hc x Y P Q hY (by simpa using hl)
   rw [decide_eq_true (by omega), cond_true]
   have e : P ++ [x] ++ Y ++ Q = P ++ x :: (Y ++ Q) := by simp
   have e4 : (P.length : Int) + ([x].length : Int) = ((P.length + 1 : Nat) : Int) := by simp
   have e5 : ((P.length + 1 : Nat) : Int) + (Y.length : Int) = ((P.length + 1 + Y.length : Nat) : Int) := by omega
   rw [e, e4, e5, this]; rfl
  ·rw [decide_eq_false (by omega), cond_false]
   by_cases hy1 : Y.length = 1
   ·obtain ⟨y, rfl⟩ : ∃ y, Y = [y] := List.length_eq_one_iff.1 hy1
    have := Ymh hs hc y X P Q hX (by simpa using hl)
    rw [decide_eq_true (by omega), cond_true]
    have e : P ++ X ++ [y] ++ Q = P ++ X ++ y :: Q := by simp
    have e4 : (P.length : Int) + (X.length : Int) = ((P.length + X.length : Nat) : Int) := by omega
    rw [e, e4, this]
   ·rw [decide_eq_false (by omega), cond_false, Zn7 _ (P.length + (P.length + X.length + Y.length)) (by omega) (by omega), Option.bind_some, Zap _ (by omega)]
    by_cases hmm : (P.length + (P.length + X.length + Y.length)) / 2 < P.length + X.length
    ·rw [decide_eq_true (by omega), cond_true]
     have e3 : IntKind.i64.wrap (IntKind.i64.wrap ((((P.length + (P.length + X.length + Y.length)) / 2 : Nat) : Int) + ((P.length : Int) + (X.length : Int))) - ((P.length : Int) + (X.length : Int) + (Y.length : Int))) = (((P.length + (P.length + X.length + Y.length)) / 2 + (P.length + X.length) - (P.length + X.length + Y.length) : Nat) : Int) := by
      rw [wr (n := (((P.length + (P.length + X.length + Y.length)) / 2 : Nat) : Int) + ((P.length : Int) + (X.length : Int))) (by omega) (by omega), wr (by omega) (by omega)]; omega
     rw [e3]
     exact Y3t hs hc (Zst hs hc f) P X Y Q _ _ _ rfl (by omega) (by omega) (by omega) hX hY hl (.inl ⟨hmm, by omega, rfl⟩)
    ·rw [decide_eq_false (by omega), cond_false]
     have e4 : (P.length : Int) + (X.length : Int) = ((P.length + X.length : Nat) : Int) := by omega
     have := Y3t hs hc (Zst hs hc f) P X Y Q _ P.length (P.length + X.length) rfl (by omega) (by omega) (by omega) hX hY hl (.inr ⟨by omega, rfl, rfl⟩)
     rw [← e4] at this
     exact this
theorem Y3y (hs : Swo lt) (hc : Z69 lt cmp) (P X Y Q : List Action) (a m b : Int) (ha : a = (P.length : Int)) (hm : m = (P.length : Int) + (X.length : Int)) (hb : b = (P.length : Int) + (X.length : Int) + (Y.length : Int)) (h1 : 0 < X.length) (h2 : 0 < Y.length) (hX : Z16 lt X) (hY : Z16 lt Y) (hl : (P ++ X ++ Y ++ Q).length ≤ big) :
  Zok (P ++ X ++ Y ++ Q) a m b cmp = some (P ++ srt lt (X ++ Y) ++ Q) :=
 Zst hs hc Z0l P X Y Q a m b ha hm hb h1 h2 (by have hbig : big = 1000000 := rfl; simp only [List.length_append] at hl; unfold Z0l; omega) hX hY hl
end sym
end Go.Proofs.YtknpgojdkobgjaaGreat.W
namespace Go.Proofs.YtknpgojdkobgjaaGreat.W
open Go Go.Wb
section ins
variable {lt : Action → Action → Bool} {cmp : Action → Action → Option Int}
theorem Zur (hc : Z69 lt cmp) (go : List Action → Int → Option (List Action)) (i : Int) (P : List Action) (x : Action) : ∀ (R S : List Action) (m : Nat), R.length < m → (P ++ R.reverse ++ x :: S).length ≤ big →
  Z7n (P.length : Int) cmp go i m (P ++ R.reverse ++ x :: S) ((P.length + R.length : Nat) : Int) = go (P ++ (Z0k lt x R).reverse ++ S) (IntKind.i64.wrap (i + 1))
 | [], S, m, h, _ => by
  obtain ⟨m, rfl⟩ : ∃ k, m = k + 1 := ⟨m - 1, by simp at h; omega⟩
  rw [Z7n, decide_eq_false (by simp)]
  simp [opt, Z0k]
 | y :: R, S, m, h, hl => by
  have hbig : big = 1000000 := rfl
  simp only [List.length_cons, List.length_append, List.length_reverse] at h hl
  obtain ⟨m, rfl⟩ : ∃ k, m = k + 1 := ⟨m - 1, by omega⟩
  have e0 : P ++ (y :: R).reverse ++ x :: S = (P ++ R.reverse) ++ y :: (x :: S) := by simp
  have ej : IntKind.i64.wrap (((P.length + (y :: R).length : Nat) : Int) - 1) = ((P.length + R.length : Nat) : Int) := by rw [wr (by simp only [List.length_cons]; omega) (by simp only [List.length_cons]; omega)]; simp only [List.length_cons]; omega
  have g1 : ∀ a b : Action, lget ((P ++ R.reverse) ++ a :: (b :: S)) ((P.length + (y :: R).length : Nat) : Int) = some b := fun a b => by
   have : (P ++ R.reverse) ++ a :: (b :: S) = (P ++ R.reverse ++ [a]) ++ b :: S := by simp
   rw [this]; exact Z5b _ _ _ _ (by simp)
  have g0 : ∀ a b : Action, lget ((P ++ R.reverse) ++ a :: (b :: S)) ((P.length + R.length : Nat) : Int) = some a := fun a b => Z5b _ _ _ _ (by simp)
  have s1 : ∀ a b c : Action, List.set ((P ++ R.reverse) ++ a :: (b :: S)) (((P.length + (y :: R).length : Nat) : Int)).toNat c = (P ++ R.reverse) ++ a :: (c :: S) := fun a b c => by
   have : (P ++ R.reverse) ++ a :: (b :: S) = (P ++ R.reverse ++ [a]) ++ b :: S := by simp
   rw [this, Int.toNat_natCast, Z80 _ _ _ _ _ (by simp)]; simp
  have s0 : ∀ a b c : Action, List.set ((P ++ R.reverse) ++ a :: (b :: S)) (((P.length + R.length : Nat) : Int)).toNat c = (P ++ R.reverse) ++ c :: (b :: S) := fun a b c => by
   rw [Int.toNat_natCast, Z80 _ _ _ _ _ (by simp)]
  obtain ⟨c, hc1, hc2⟩ := hc x y
  rw [e0, Z7n, decide_eq_true (by simp only [List.length_cons]; omega), Z4a, g1, Option.bind_some, Z4a, ej, g0, Option.bind_some, Z4a, hc1, Option.bind_some, Bool.true_and, hc2, Z0k]
  cases lt x y
  ·rw [cond_false, cond_false]
   simp
  ·rw [cond_true, cond_true, Option.bind_some, Option.bind_some, Option.bind_some, s1, g0, Option.bind_some, s0, Zur hc go i P x R (y :: S) m (by omega) (by simp only [List.length_append, List.length_cons, List.length_reverse]; omega)]
   simp
theorem Zr9 (x : Action) (R : List Action) : (Z0k lt x R).length = R.length + 1 := by
 induction R with
 | nil => rfl
 | cons y R ih => rw [Z0k]; cases lt x y <;> simp [ih]
theorem Y36 (hc : Z69 lt cmp) (P Q : List Action) : ∀ (T R : List Action) (m : Nat), T.length < m → (P ++ R.reverse ++ T ++ Q).length ≤ big →
  Z6t ((P.length + R.length + T.length : Nat) : Int) (P.length : Int) cmp m (P ++ R.reverse ++ T ++ Q) ((P.length + R.length : Nat) : Int) = some (P ++ (T.foldl (fun R x => Z0k lt x R) R).reverse ++ Q)
 | [], R, m, h, _ => by
  obtain ⟨m, rfl⟩ : ∃ k, m = k + 1 := ⟨m - 1, by simp at h; omega⟩
  rw [Z6t, decide_eq_false (by simp), cond_false]
  simp
 | x :: T, R, m, h, h2 => by
  have hbig : big = 1000000 := rfl
  simp only [List.length_cons, List.length_append, List.length_reverse] at h h2
  obtain ⟨m, rfl⟩ : ∃ k, m = k + 1 := ⟨m - 1, by omega⟩
  have e : IntKind.i64.wrap (((P.length + R.length : Nat) : Int) + 1) = ((P.length + (Z0k lt x R).length : Nat) : Int) := by rw [Zr9, wr (by omega) (by omega)]; omega
  have hn : P.length + R.length + (x :: T).length = P.length + (Z0k lt x R).length + T.length := by rw [Zr9, List.length_cons]; omega
  have e0 : P ++ R.reverse ++ x :: T ++ Q = P ++ R.reverse ++ x :: (T ++ Q) := by simp
  rw [Z6t, decide_eq_true (by simp only [List.length_cons]; omega), cond_true, e0, Zur hc _ _ P x R (T ++ Q) Z0l (by unfold Z0l; omega) (by simp only [List.length_append, List.length_cons, List.length_reverse]; omega), e, hn,
   ← List.append_assoc, Y36 hc P Q T (Z0k lt x R) m (by omega) (by simp only [List.length_append, List.length_reverse, Zr9]; omega), List.foldl_cons]
theorem Y01 (hc : Z69 lt cmp) (P L Q : List Action) (a b : Int) (ha : a = (P.length : Int)) (hb : b = (P.length : Int) + (L.length : Int)) (h : (P ++ L ++ Q).length ≤ big) : Zal (P ++ L ++ Q) a b cmp = some (P ++ srt lt L ++ Q) := by
 subst ha hb
 have hbig : big = 1000000 := rfl
 have h' := h
 simp only [List.length_append] at h'
 unfold Zal srt
 cases L with
 | nil =>
  rw [wr (by omega) (by omega)]
  obtain ⟨m, hm⟩ : ∃ m, (((P.length : Int) + (([] : List Action).length : Int)) - ((P.length : Int) + 1)).toNat + 1 = m + 1 := ⟨_, rfl⟩
  rw [hm, Z6t, decide_eq_false (by simp only [List.length_nil]; omega), cond_false]
  rfl
 | cons x L =>
  simp only [List.length_cons] at h'
  have := Y36 hc P Q L [x] ((((P.length : Int) + ((x :: L).length : Int)) - ((P.length : Int) + 1)).toNat + 1) (by simp only [List.length_cons]; omega) (by simp only [List.length_append, List.length_reverse, List.length_cons, List.length_nil]; omega)
  have e1 : ((P.length + [x].length + L.length : Nat) : Int) = (P.length : Int) + ((x :: L).length : Int) := by simp; omega
  have e2 : ((P.length + [x].length : Nat) : Int) = (P.length : Int) + 1 := by simp
  have e3 : P ++ [x].reverse ++ L ++ Q = P ++ x :: L ++ Q := by simp
  rw [e1, e2, e3] at this
  rw [wr (by omega) (by omega), this]
  rfl
end ins
end Go.Proofs.YtknpgojdkobgjaaGreat.W
namespace Go.Proofs.YtknpgojdkobgjaaGreat.W
open Go Go.Wb
section stable
variable {lt : Action → Action → Bool} {cmp : Action → Action → Option Int}
def Z4p (lt : Action → Action → Bool) (s : Nat) (L : List Action) : List Action :=
 if h : s = 0 ∨ L.length < s then srt lt L else srt lt (L.take s) ++ Z4p lt s (L.drop s)
termination_by L.length
decreasing_by simp; omega
theorem Zcn {s : Nat} {L : List Action} (h : L.length < s) : Z4p lt s L = srt lt L := by rw [Z4p, dif_pos (.inr h)]
theorem Zdl {s : Nat} {A L : List Action} (hA : A.length = s) (h0 : 0 < s) : Z4p lt s (A ++ L) = srt lt A ++ Z4p lt s L := by
 subst hA
 rw [Z4p, dif_neg (by rw [List.length_append]; omega), List.take_left, List.drop_left]
theorem Y6h : srt lt ([] : List Action) = [] := rfl
theorem Zvx {s : Nat} {L : List Action} (h : L.length ≤ s) (h0 : 0 < s) : Z4p lt s L = srt lt L := by
 rcases Nat.lt_or_eq_of_le h with h1 | h1
 ·exact Zcn h1
 ·have := Zdl (lt := lt) (L := []) h1 h0
  have e : Z4p lt s [] = srt lt [] := Zcn (by simpa using h0)
  rw [List.append_nil, e, Y6h, List.append_nil] at this
  exact this
theorem Zxs (hs : Swo lt) (s : Nat) (h0 : 0 < s) : ∀ (n : Nat) (L : List Action), L.length ≤ n → (Z4p lt s L).length = L.length
 | 0, L, h => by rw [Zcn (by omega), Z35 hs]
 | n + 1, L, h => by
  by_cases hl : L.length < s
  ·rw [Zcn hl, Z35 hs]
  ·have e : L = L.take s ++ L.drop s := (List.take_append_drop ..).symm
   have h1 : (L.take s).length = s := by simp; omega
   rw [e, Zdl h1 h0, List.length_append, Z35 hs, Zxs hs s h0 n (L.drop s) (by simp; omega), List.length_append]
theorem Zyb (hs : Swo lt) (hc : Z69 lt cmp) (n : Nat) : ∀ (k : Nat) (D L : List Action) (f : Nat), L.length ≤ k → D.length + L.length = n → n ≤ 100000 → L.length < f * 20 →
  Zd2 (n : Int) cmp f (D ++ L) (D.length : Int) ((D.length + 20 : Nat) : Int) = Z8j (n : Int) cmp (((n : Int) - 20).toNat + 1) (D ++ Z4p lt 20 L) 20
 | k, D, L, 0, _, _, _, h => by omega
 | k, D, L, f + 1, hk, hn, hb, hf => by
  have hbig : big = 1000000 := rfl
  rw [Zd2]
  by_cases hl : L.length < 20
  ·have := Y01 hc D L [] (D.length : Int) (n : Int) rfl (by omega) (by simp only [List.length_append, List.length_nil]; omega)
   simp only [List.append_nil] at this
   rw [decide_eq_false (by omega), cond_false, this, Option.bind_some, Zcn hl]
  ·obtain ⟨k, rfl⟩ : ∃ j, k = j + 1 := ⟨k - 1, by omega⟩
   have e : L = L.take 20 ++ L.drop 20 := (List.take_append_drop ..).symm
   have h1 : (L.take 20).length = 20 := by simp; omega
   have h2 : (L.drop 20).length = L.length - 20 := by simp
   generalize L.take 20 = A at *
   generalize L.drop 20 = B at *
   subst e
   have := Y01 hc D A B (D.length : Int) ((D.length + 20 : Nat) : Int) rfl (by omega) (by simp only [List.length_append] at hn ⊢; omega)
   have e20 : IntKind.i64.wrap (((D.length + 20 : Nat) : Int) + 20) = (((D ++ srt lt A).length + 20 : Nat) : Int) := by rw [wr (by omega) (by omega), List.length_append, Z35 hs]; omega
   have e21 : ((D.length + 20 : Nat) : Int) = ((D ++ srt lt A).length : Int) := by rw [List.length_append, Z35 hs]; omega
   simp only [List.length_append] at hn hl hf hk
   rw [decide_eq_true (by omega), cond_true, ← List.append_assoc, this, Option.bind_some, e20, e21,
    Zyb hs hc n k (D ++ srt lt A) B f (by omega) (by simp only [List.length_append, Z35 hs]; omega) hb (by omega), Zdl h1 (by omega)]
   simp
theorem Y2g (hs : Swo lt) (hc : Z69 lt cmp) (go : List Action → Int → Option (List Action)) (n s : Nat) (hs0 : 0 < s) (hs1 : s ≤ 100000) : ∀ (k : Nat) (D L : List Action) (f : Nat), L.length ≤ k → D.length + L.length = n → n ≤ 100000 → L.length < f * (2 * s) →
  Zet (n : Int) (s : Int) cmp go f (D ++ Z4p lt s L) (D.length : Int) ((D.length + 2 * s : Nat) : Int) = go (D ++ Z4p lt (2 * s) L) ((2 * s : Nat) : Int)
 | k, D, L, 0, _, _, _, h => by omega
 | k, D, L, f + 1, hk, hn, hb, hf => by
  have hbig : big = 1000000 := rfl
  rw [Zet]
  have em : IntKind.i64.wrap ((D.length : Int) + (s : Int)) = ((D.length + s : Nat) : Int) := by rw [wr (by omega) (by omega)]; omega
  have eg : IntKind.i64.wrap ((s : Int) * 2) = ((2 * s : Nat) : Int) := by rw [wr (by omega) (by omega)]; omega
  by_cases hl : L.length < 2 * s
  ·rw [decide_eq_false (by omega), cond_false, em, eg, Zcn hl]
   by_cases hl2 : s < L.length
   ·have e : L = L.take s ++ L.drop s := (List.take_append_drop ..).symm
    have h1 : (L.take s).length = s := by simp; omega
    have h2 : (L.drop s).length = L.length - s := by simp
    generalize L.take s = A at *
    generalize L.drop s = B at *
    subst e
    simp only [List.length_append] at hn hl hl2
    rw [Zdl h1 hs0, Zcn (by omega)]
    have := Y3y hs hc D (srt lt A) (srt lt B) [] (D.length : Int) ((D.length + s : Nat) : Int) (n : Int) rfl (by rw [Z35 hs]; omega) (by rw [Z35 hs, Z35 hs]; omega) (by rw [Z35 hs]; omega) (by rw [Z35 hs]; omega) (Z9c hs _) (Z9c hs _)
     (by simp only [List.length_append, Z35 hs, List.length_nil]; omega)
    simp only [List.append_nil, List.append_assoc] at this
    rw [decide_eq_true (by omega), cond_true, this, Option.bind_some, Y00 hs]
   ·rw [decide_eq_false (by omega), cond_false, Zvx (by omega) hs0]
  ·obtain ⟨k, rfl⟩ : ∃ j, k = j + 1 := ⟨k - 1, by omega⟩
   have e : L = L.take s ++ ((L.drop s).take s ++ (L.drop s).drop s) := by rw [List.take_append_drop, List.take_append_drop]
   have h1 : (L.take s).length = s := by simp; omega
   have h2 : ((L.drop s).take s).length = s := by simp; omega
   have h3 : ((L.drop s).drop s).length = L.length - 2 * s := by simp; omega
   generalize L.take s = A at *
   generalize (L.drop s).take s = B at *
   generalize (L.drop s).drop s = E at *
   subst e
   simp only [List.length_append] at hn hl hk hf
   have hf' : E.length < f * (2 * s) := by rw [Nat.add_mul] at hf; omega
   have hE := Zxs hs s hs0 E.length E (Nat.le_refl _)
   have := Y3y hs hc D (srt lt A) (srt lt B) (Z4p lt s E) (D.length : Int) ((D.length + s : Nat) : Int) ((D.length + 2 * s : Nat) : Int) rfl (by rw [Z35 hs]; omega) (by rw [Z35 hs, Z35 hs]; omega) (by rw [Z35 hs]; omega) (by rw [Z35 hs]; omega) (Z9c hs _) (Z9c hs _)
    (by simp only [List.length_append, Z35 hs, hE]; omega)
   have e2 : D ++ Z4p lt s (A ++ (B ++ E)) = D ++ srt lt A ++ srt lt B ++ Z4p lt s E := by rw [Zdl h1 hs0, Zdl h2 hs0]; simp
   have e3 : IntKind.i64.wrap (((D.length + 2 * s : Nat) : Int) + IntKind.i64.wrap (2 * (s : Int))) = (((D ++ srt lt (A ++ B)).length + 2 * s : Nat) : Int) := by
    rw [wr (n := 2 * (s : Int)) (by omega) (by omega), wr (by omega) (by omega), List.length_append, Z35 hs, List.length_append]; omega
   have e4 : ((D.length + 2 * s : Nat) : Int) = ((D ++ srt lt (A ++ B)).length : Int) := by rw [List.length_append, Z35 hs, List.length_append]; omega
   rw [decide_eq_true (by omega), cond_true, em, e2, this, Option.bind_some, Y00 hs, e3, e4,
    Y2g hs hc go n s hs0 hs1 k (D ++ srt lt (A ++ B)) E f (by omega) (by simp only [List.length_append, Z35 hs]; omega) hb hf']
   have e5 : A ++ (B ++ E) = (A ++ B) ++ E := by simp
   rw [e5, Zdl (by simp; omega) (by omega)]
   simp
theorem Y2n (hs : Swo lt) (hc : Z69 lt cmp) (L : List Action) (hb : L.length ≤ 100000) : ∀ (f s : Nat), 0 < f → 0 < s → s ≤ 200000 → L.length < f + s →
  Z8j (L.length : Int) cmp f (Z4p lt s L) (s : Int) = some (srt lt L)
 | 0, s, hf, h0, h1, h2 => by omega
 | f + 1, s, hf, h0, h1, h2 => by
  rw [Z8j]
  by_cases hl : s < L.length
  ·have e2 : IntKind.i64.wrap (2 * (s : Int)) = ((2 * s : Nat) : Int) := by rw [wr (by omega) (by omega)]; omega
   have := Y2g hs hc (Z8j (L.length : Int) cmp f) L.length s h0 (by omega) L.length [] L ((((L.length : Int) : Int) - ((2 * s : Nat) : Int)).toNat + 2) (Nat.le_refl _) (by simp) hb (by
    have h3 : L.length < (L.length - 2 * s + 2) * (2 * s) := by
     have : L.length - 2 * s + 2 ≤ (L.length - 2 * s + 2) * (2 * s) := Nat.le_mul_of_pos_right _ (by omega)
     by_cases hc : L.length < 2 * s
     ·have : 2 * (2 * s) ≤ (L.length - 2 * s + 2) * (2 * s) := Nat.mul_le_mul_right _ (by omega)
      omega
     ·have e : (L.length - 2 * s + 2) * (2 * s) = (L.length - 2 * s + 1) * (2 * s) + 2 * s := by rw [show L.length - 2 * s + 2 = (L.length - 2 * s + 1) + 1 from rfl, Nat.add_mul, Nat.one_mul]
      have : L.length - 2 * s + 1 ≤ (L.length - 2 * s + 1) * (2 * s) := Nat.le_mul_of_pos_right _ (by omega)
      omega
    have e : (((L.length : Int) : Int) - ((2 * s : Nat) : Int)).toNat + 2 = L.length - 2 * s + 2 := by omega
    rw [e]; exact h3)
   simp only [List.nil_append, List.length_nil, Nat.zero_add] at this
   rw [decide_eq_true (by omega), cond_true, e2]
   have e0 : ((0 : Nat) : Int) = 0 := rfl
   rw [e0] at this
   rw [this, Y2n hs hc L hb f (2 * s) (by omega) (by omega) (by omega) (by omega)]
  ·rw [decide_eq_false (by omega), cond_false, Zvx (by omega) h0]
theorem Ybi (hs : Swo lt) (hc : Z69 lt cmp) (L : List Action) (hb : L.length ≤ 100000) : Ze4 L cmp = some (srt lt L) := by
 unfold Ze4 Ziv
 have h1 := Zyb hs hc L.length L.length [] L ((((L.length : Int) : Int) - 20).toNat + 2) (Nat.le_refl _) (by simp) hb (by omega)
 have h2 := Y2n hs hc L hb ((((L.length : Int) : Int) - 20).toNat + 1) 20 (by omega) (by omega) (by omega) (by omega)
 simp only [List.nil_append, List.length_nil, Nat.zero_add] at h1
 have e0 : ((0 : Nat) : Int) = 0 := rfl
 have e20 : ((20 : Nat) : Int) = 20 := rfl
 rw [e0, e20] at h1
 rw [e20] at h2
 rw [h1, h2]; rfl
end stable
end Go.Proofs.YtknpgojdkobgjaaGreat.W
namespace Go.Proofs.YtknpgojdkobgjaaGreat.W
open Go Go.Wb
def Z1n (a b : Wide) : Wide := ⟨a.Hi &&& b.Hi, a.Lo &&& b.Lo⟩
def wor (a b : Wide) : Wide := ⟨a.Hi ||| b.Hi, a.Lo ||| b.Lo⟩
def Z5h (a b : Wide) : Wide := ⟨a.Hi ^^^ b.Hi, a.Lo ^^^ b.Lo⟩
def Z31 (a b : Wide) : Wide := ⟨a.Hi &&& ~~~b.Hi, a.Lo &&& ~~~b.Lo⟩
def wt (a : Wide) (i : Nat) : Bool := bif Nat.blt i 64 then a.Lo.getLsbD i else a.Hi.getLsbD (i - 64)
def Z4g (i : Nat) : Wide := bif Nat.blt i 64 then ⟨0, 1#64 <<< i⟩ else ⟨1#64 <<< (i - 64), 0⟩
theorem Z9s {i n : Nat} (h : i < n) : Nat.blt i n = true := by simpa using h
theorem Z97 {i n : Nat} (h : ¬ i < n) : Nat.blt i n = false := by
 cases hb : Nat.blt i n
 ·rfl
 ·exact absurd (by simpa using hb) h
theorem Z9l {a b : Wide} (h : ∀ i, i < 128 → wt a i = wt b i) : a = b := by
 obtain ⟨ah, al⟩ := a
 obtain ⟨bh, bl⟩ := b
 have h1 : ah = bh := BitVec.eq_of_getLsbD_eq fun i hi => by
  have := h (i + 64) (by omega)
  unfold wt at this
  rw [Z97 (by omega)] at this
  simpa using this
 have h2 : al = bl := BitVec.eq_of_getLsbD_eq fun i hi => by
  have := h i (by omega)
  unfold wt at this
  rw [Z9s (by omega)] at this
  simpa using this
 rw [h1, h2]
theorem Z3d (a b : Wide) (i : Nat) : wt (Z1n a b) i = (wt a i && wt b i) := by
 unfold wt Z1n
 cases Nat.blt i 64 <;> simp
theorem Z5q (a b : Wide) (i : Nat) : wt (wor a b) i = (wt a i || wt b i) := by
 unfold wt wor
 cases Nat.blt i 64 <;> simp
theorem Zde (a b : Wide) (i : Nat) : wt (Z5h a b) i = (wt a i != wt b i) := by
 unfold wt Z5h
 cases Nat.blt i 64 <;> simp
theorem Z6e (a b : Wide) (i : Nat) (h : i < 128) : wt (Z31 a b) i = (wt a i && !wt b i) := by
 unfold wt Z31
 by_cases hi : i < 64
 ·rw [Z9s hi]; simp [hi]
 ·rw [Z97 hi]; simp [show i - 64 < 64 by omega]
theorem Zby (i : Nat) : wt Z09 i = false := by
 unfold wt Z09
 cases Nat.blt i 64 <;> simp
theorem Zj1 (i j : Nat) (hi : i < 128) (hj : j < 128) : wt (Z4g i) j = decide (i = j) := by
 unfold wt Z4g
 by_cases h1 : i < 64
 ·rw [Z9s h1, cond_true]
  by_cases h2 : j < 64
  ·rw [Z9s h2, cond_true, BitVec.getLsbD_shiftLeft]
   by_cases e : i = j
   ·subst e; simp [h2]
   ·simp [h2, e, BitVec.getLsbD_one]; omega
  ·rw [Z97 h2, cond_false]
   have : i ≠ j := by omega
   simp [this]
 ·rw [Z97 h1, cond_false]
  by_cases h2 : j < 64
  ·rw [Z9s h2, cond_true]
   have : i ≠ j := by omega
   simp [this]
  ·rw [Z97 h2, cond_false, BitVec.getLsbD_shiftLeft]
   by_cases e : i = j
   ·subst e; simp [show i - 64 < 64 by omega]
   ·simp [show j - 64 < 64 by omega, e, BitVec.getLsbD_one]; omega
def Z36 (a : Wide) : Bool := decide ((a.Hi ||| a.Lo) = (0 : BitVec 64))
theorem Za1 (a : Wide) : Z36 a = true ↔ ∀ i, i < 128 → wt a i = false := by
 unfold Z36
 rw [decide_eq_true_eq]
 constructor
 ·intro h i hi
  have hb : ∀ j, (a.Hi.getLsbD j || a.Lo.getLsbD j) = false := fun j => by rw [← BitVec.getLsbD_or, h]; simp
  unfold wt
  by_cases h1 : i < 64
  ·rw [Z9s h1, cond_true]
   have := hb i
   simp only [Bool.or_eq_false_iff] at this
   exact this.2
  ·rw [Z97 h1, cond_false]
   have := hb (i - 64)
   simp only [Bool.or_eq_false_iff] at this
   exact this.1
 ·intro h
  apply BitVec.eq_of_getLsbD_eq
  intro j hj
  have h1 := h j (by omega)
  have h2 := h (j + 64) (by omega)
  unfold wt at h1 h2
  rw [Z9s hj] at h1
  rw [Z97 (by omega)] at h2
  simp at h1 h2
  simp [h1, h2]
theorem Y7e (a : Wide) : Z36 a = decide (a = Z09) := by
 rw [Bool.eq_iff_iff, Za1, decide_eq_true_eq]
 constructor
 ·intro h
  exact Z9l fun i hi => by rw [h i hi, Zby]
 ·rintro rfl i _
  exact Zby i
theorem Yli {a : Wide} : Z36 a = false ↔ ∃ i, i < 128 ∧ wt a i = true := by
 rw [← Bool.not_eq_true, Za1]
 constructor
 ·intro h
  apply Classical.byContradiction
  intro hn
  exact h fun i hi => by
   cases hw : wt a i
   ·rfl
   ·exact absurd ⟨i, hi, hw⟩ hn
 ·rintro ⟨i, hi, hw⟩ h
  rw [h i hi] at hw; cases hw
theorem Y2w (a : Wide) (i : Nat) (h : i < 128) : (!Z36 (Z1n a (Z4g i))) = wt a i := by
 cases hw : wt a i
 ·have : Z36 (Z1n a (Z4g i)) = true := by
   rw [Za1]
   intro j hj
   rw [Z3d, Zj1 i j h hj]
   by_cases e : i = j
   ·subst e; rw [hw]; rfl
   ·simp [e]
  rw [this]; rfl
 ·have : Z36 (Z1n a (Z4g i)) = false := by
   rw [Yli]
   exact ⟨i, h, by rw [Z3d, Zj1 i i h h, hw]; simp⟩
  rw [this]; rfl
theorem Zo9 (x : BitVec 64) (n : Nat) : Z93 x (n : Int) = some (x <<< n) := by
 unfold Z93
 rw [decide_eq_false (by omega)]
 simp
theorem Y7z (x : BitVec 64) (n : Nat) : Z3g x (n : Int) = some (x >>> n) := by
 unfold Z3g
 rw [decide_eq_false (by omega)]
 simp
theorem Zwn (a b : Wide) : Zb0 a b = some (Z1n a b) := rfl
theorem Zud (a b : Wide) : Z87 a b = some (wor a b) := rfl
theorem Zm2 (a b : Wide) : Z9u a b = some (Z31 a b) := rfl
theorem Zte (i : Nat) (h : i < 128) : Zb2 (i : Int) = some (Z4g i) := by
 unfold Zb2
 have h1 : (decide ((i : Int) < 0) || decide ((i : Int) > 127)) = false := by simp; omega
 have hq : Zfp .i64 (i : Int) 64 = some ((i / 64 : Nat) : Int) := by
  unfold Zfp
  rw [decide_eq_false (by decide)]
  show some (IntKind.i64.wrap ((i / 64 : Nat) : Int)) = _
  rw [Z2i (by omega) (by omega)]
 have hm : Z8q (i : Int) 64 = some ((i % 64 : Nat) : Int) := Ym0 i 64 (by omega)
 rw [h1, cond_false, hq, Option.bind_some, hm, Option.bind_some, Zo9, Option.bind_some, Z2b (by omega), Option.bind_some]
 unfold Z4g
 by_cases h2 : i < 64
 ·rw [Z9s h2, cond_true]
  have e1 : i / 64 = 0 := by omega
  have e2 : i % 64 = i := by omega
  simp only [e1, e2]
  rfl
 ·rw [Z97 h2, cond_false]
  have e1 : i / 64 = 1 := by omega
  have e2 : i % 64 = i - 64 := by omega
  simp only [e1, e2]
  rfl
abbrev Cube := Vector Tern 24
abbrev Header := Vector Wide 24
def Z0w (t : Tern) : Tern := ⟨Z1n t.Value t.Mask, t.Mask⟩
theorem Zne (t : Tern) : Z73 t = some (Z0w t) := rfl
def Z12 (c : Cube) : Cube := Vector.ofFn fun i => Z0w (ve c i.1)
theorem Z7m (c : Cube) (i : Nat) (h : i < 24) : ve (Z12 c) i = Z0w (ve c i) := Z7h (fun i => Z0w (ve c i)) i h
theorem Y80 (t : Tern) : Z0w (Z0w t) = Z0w t := by
 unfold Z0w
 congr 1
 exact Z9l fun i hi => by simp only [Z3d]; cases wt t.Value i <;> cases wt t.Mask i <;> rfl
def Z2w (a b : Tern) : Tern := ⟨wor (Z31 (Z0w a).Value b.Mask) (Z0w b).Value, wor a.Mask b.Mask⟩
theorem Y44 (a b : Tern) : Zjm a b = some (Z2w a b) := rfl
def Z8o (a b : Cube) : Cube := Vector.ofFn fun i => Z2w (ve a i.1) (ve b i.1)
theorem Zu0 (a b : Cube) (i : Nat) (h : i < 24) : ve (Z8o a b) i = Z2w (ve a i) (ve b i) := Z7h (fun i => Z2w (ve a i) (ve b i)) i h
theorem Y26 (f : Int → Option Tern) (g : Nat → Tern) (hf : ∀ i : Nat, i < 24 → f (i : Int) = some (g i)) (b : Cube) : ∀ (m i : Nat), i + m = 24 → Z98 f m i (Z2x g b i) = some (Vector.ofFn (fun i => g i.1))
 | 0, i, h => by
  have : i = 24 := by omega
  subst this
  rw [Z98, Z7o]
 | m + 1, i, h => by
  rw [Z98, hf i (by omega), Option.bind_some, Z2b (by omega), Option.bind_some]
  show Z98 f m (i + 1) (Vector.set (Z2x g b i) i (g i) _) = _
  rw [Z8a g b i (by omega), Y26 f g hf b m (i + 1) (by omega)]
theorem Y41 (f : Int → Option Tern) (g : Nat → Tern) (hf : ∀ i : Nat, i < 24 → f (i : Int) = some (g i)) : Zgs f = some (Vector.ofFn (fun i => g i.1)) := by
 unfold Zgs
 have := Y26 f g hf (Vector.replicate 24 zTern) 24 0 rfl
 rw [Z8i] at this
 exact this
theorem Y1g (r : Cube) : Zgy r = some (Z12 r) := by
 unfold Zgy
 rw [Y41 (fun x => Zel x r) (fun i => Z0w (ve r i)) (fun i hi => by unfold Zel; rw [Z2b hi, Option.bind_some, Z2r, Zne]; rfl)]
 rfl
def Z2l (r : Cube) (h : Header) : Header := Vector.ofFn fun f => wor (Z31 (ve h f.1) (ve r f.1).Mask) (Z1n (ve r f.1).Value (ve r f.1).Mask)
theorem Z75 (r : Cube) (h : Header) (f : Nat) (hf : f < 24) : ve (Z2l r h) f = wor (Z31 (ve h f) (ve r f).Mask) (Z1n (ve r f).Value (ve r f).Mask) := Z7h (fun f => wor (Z31 (ve h f) (ve r f).Mask) (Z1n (ve r f).Value (ve r f).Mask)) f hf
theorem Zwi (r : Cube) (h : Header) : ∀ (l : List Tern) (i : Nat), i + l.length = 24 → l = (Vector.toList r).drop i → Zax l i (Z2x (fun f => wor (Z31 (ve h f) (ve r f).Mask) (Z1n (ve r f).Value (ve r f).Mask)) h i) = some (Z2l r h)
 | [], i, h1, h2 => by
  have : i = 24 := by simpa using h1
  subst this
  rw [Zax, Z7o]; rfl
 | x :: l, i, h1, h2 => by
  simp only [List.length_cons] at h1
  have hi : i < (Vector.toList r).length := by simp; omega
  rw [List.drop_eq_getElem_cons hi] at h2
  obtain ⟨rfl, h3⟩ := List.cons.inj h2
  have hx : (Vector.toList r)[i] = ve r i := by rw [Vector.getElem_toList, Z6c _ _ (by omega)]
  rw [Zax, hx, Z2b (by omega), Option.bind_some, Z2r, Zm2, Option.bind_some, Zwn, Option.bind_some, Zud, Option.bind_some, Option.bind_some, Zbk _ _ _ _ (by omega), if_neg (by omega)]
  have := Z8a (fun f => wor (Z31 (ve h f) (ve r f).Mask) (Z1n (ve r f).Value (ve r f).Mask)) h i (by omega)
  rw [this]
  exact Zwi r h l (i + 1) (by omega) h3
theorem Zr6 (r : Cube) (h : Header) : Zc2 r h = some (Z2l r h) := by
 unfold Zc2
 have := Zwi r h (Vector.toList r) 0 (by simp) rfl
 rw [Z8i] at this
 exact this
def Z54 (r : Cube) (f : Int) (v m : Wide) : Cube := bif decide (f ≥ 0) && decide (f < 24) then Vector.ofFn fun i => if f.toNat = i.1 then Z2w (ve (Z12 r) f.toNat) ⟨v, m⟩ else ve (Z12 r) i.1 else Z12 r
theorem Zhg (r : Cube) (f : Int) (v m : Wide) : Z8f r f v m = some (Z54 r f v m) := by
 unfold Z8f Z54 Z88
 rw [Y1g, Option.bind_some, Option.bind_some]
 cases hc : (decide (f ≥ 0) && decide (f < 24))
 ·rfl
 ·simp only [Bool.and_eq_true, decide_eq_true_eq] at hc
  obtain ⟨n, rfl⟩ : ∃ n : Nat, f = (n : Int) := ⟨f.toNat, by omega⟩
  have hn : n < 24 := by omega
  have e : Vector.set (Z12 r) n (Z2w (ve (Z12 r) n) ⟨v, m⟩) hn = Vector.ofFn fun i : _root_.Fin 24 => if n = i.1 then Z2w (ve (Z12 r) n) ⟨v, m⟩ else ve (Z12 r) i.1 := Z6l fun j hj => by
   rw [Zk9 _ _ _ _ _ hj]
   exact (Z7h (fun i => if n = i then Z2w (ve (Z12 r) n) ⟨v, m⟩ else ve (Z12 r) i) j hj).symm
  rw [cond_true, cond_true, Z2b hn, Option.bind_some, Z2r, Y44, Option.bind_some, Option.bind_some, Int.toNat_natCast]
  exact congrArg some e
theorem Zxe (n : Int) : ∃ x, Zfr n = some x := by
 unfold Zfr
 cases decide (n ≥ 64)
 ·have h0 : 0 ≤ Z22 n 0 := by
   unfold Z22
   by_cases h : (0 : Int) > n
   ·simp [h]
   ·simp [h]; omega
  obtain ⟨k, hk⟩ : ∃ k : Nat, Z22 n 0 = (k : Int) := ⟨(Z22 n 0).toNat, by omega⟩
  rw [cond_false, hk, Zo9]
  exact ⟨_, rfl⟩
 ·exact ⟨_, rfl⟩
def Zbi (n : Int) : Wide := (Z9t n).getD Z09
theorem Zr2 (n : Int) : Z9t n = some (Zbi n) := by
 obtain ⟨x, hx⟩ := Zxe (IntKind.i64.wrap ((Z5a (Z22 n 0) 128) - 64))
 obtain ⟨y, hy⟩ := Zxe (Z5a (Z22 n 0) 128)
 have : Z9t n = some ⟨x, y⟩ := by unfold Z9t; rw [hx, Option.bind_some, hy]; rfl
 unfold Zbi
 rw [this]; rfl
def Zfd (n : Int) : Int := (Ze6 n).getD 0
theorem Ycx : ∃ v, Zlk = some v := by unfold Zlk; exact ⟨_, rfl⟩
theorem Ylk (n : Int) : Ze6 n = some (Zfd n) := by
 have : ∃ x, Ze6 n = some x := by
  unfold Ze6 Zn3 Z88
  rw [Option.bind_some]
  cases hc : (decide (n ≥ 0) && decide (n < 24))
  ·exact ⟨_, rfl⟩
  ·simp only [Bool.and_eq_true, decide_eq_true_eq] at hc
   obtain ⟨k, rfl⟩ : ∃ k : Nat, n = (k : Int) := ⟨n.toNat, by omega⟩
   obtain ⟨v, hv⟩ := Ycx
   rw [Bool.not_true, cond_false, hv, Option.bind_some, Z1w (by simp; omega), Option.bind_some, Option.bind_some]
   exact ⟨_, rfl⟩
 obtain ⟨x, hx⟩ := this
 unfold Zfd
 rw [hx]; rfl
def oxT (o : Oxm) : Tern := bif decide (o.Field ≥ 0) && decide (o.Field < 24) then (bif o.Masked then ⟨o.Value, o.Mask⟩ else ⟨o.Value, Zbi (Zfd o.Field)⟩) else ⟨Z09, Z09⟩
theorem Zyj (o : Oxm) : Zga o = some (oxT o) := by
 unfold Zga oxT Z88
 rw [Option.bind_some]
 cases decide (o.Field ≥ 0) && decide (o.Field < 24)
 ·rfl
 ·rw [Bool.not_true, cond_false, cond_true]
  cases o.Masked
  ·rw [cond_false, cond_false, Ylk, Option.bind_some, Zr2]; rfl
  ·rfl
def Z1z : Cube := Vector.replicate 24 zTern
def Zb9 (a : Action) : Cube :=
 bif decide (a.Kind = 25) then Z54 Z1z a.Oxm.Field (oxT a.Oxm).Value (oxT a.Oxm).Mask
 else bif decide (a.Kind = 17) then Z54 Z1z 5 (Z4g 12) (Z4g 12)
 else bif decide (a.Kind = 18) then Z54 (Z54 Z1z 5 ⟨0, 0⟩ (Zbi 13)) 6 ⟨0, 0⟩ (Zbi 3)
 else Z1z
theorem Y3w (a : Action) : Zfm a = some (Zb9 a) := by
 unfold Zfm Zb9
 rw [show Za4 = some Z1z from rfl, Option.bind_some]
 cases decide (a.Kind = 25)
 ·rw [cond_false, cond_false]
  cases decide (a.Kind = 17)
  ·rw [cond_false, cond_false]
   cases decide (a.Kind = 18)
   ·rfl
   ·rw [cond_true, cond_true, Zr2, Option.bind_some, Zhg, Option.bind_some, Zr2, Option.bind_some, Zhg]; rfl
  ·rw [cond_true, cond_true, show (12 : Int) = ((12 : Nat) : Int) from rfl, Zte 12 (by decide), Option.bind_some, Option.bind_some, Zhg]; rfl
 ·rw [cond_true, cond_true, Zyj, Option.bind_some, Zhg]; rfl
def Zf0 (a : Action) : Int := bif decide (a.Port = 4294967293) then a.Max else 0
theorem Ykt (a : Action) : Zkz a = some (Zf0 a) := by
 unfold Zkz Zf0
 cases decide (a.Port = 4294967293) <;> rfl
theorem Zuy {α : Type} (p : α → Bool) : ∀ l : List α, 0 ≤ Z0a p l → (l.take ((Z0a p l).toNat + 1)).filter (fun x => !p x) = l.take (Z0a p l).toNat
 | [], h => by simp [Z0a] at h
 | x :: l, h => by
  unfold Z0a at h ⊢
  cases hp : p x
  ·rw [hp] at h
   by_cases h' : Z0a p l < 0
   ·simp [h'] at h
   ·simp only [cond_false, decide_eq_false h']
    have e : (Z0a p l + 1).toNat = (Z0a p l).toNat + 1 := by omega
    rw [e, List.take_succ_cons, List.take_succ_cons, List.filter_cons_of_pos (by simp [hp]), Zuy p l (by omega)]
  ·simp [hp]
theorem Y7o {α : Type} (p : α → Bool) (l : List α) (h : Z0a p l < 0) : l.filter (fun x => !p x) = l := by
 rw [List.filter_eq_self]
 intro x hx
 rw [Zv3 p l h x hx]; rfl
theorem Zkg {α : Type} (p : α → Bool) : ∀ l : List α, (Z0a p l < 0 ∧ l.find? p = none) ∨ ∃ n : Nat, Z0a p l = (n : Int) ∧ ∃ h : n < l.length, l.find? p = some l[n] ∧ p l[n] = true
 | [] => .inl ⟨by simp [Z0a], rfl⟩
 | x :: l => by
  unfold Z0a
  cases hp : p x
  ·rw [cond_false, List.find?_cons_of_neg (by simp [hp])]
   rcases Zkg p l with ⟨h1, h2⟩ | ⟨n, h1, h2, h3, h4⟩
   ·left; rw [decide_eq_true h1]; exact ⟨by show (-1 : Int) < 0; decide, h2⟩
   ·right
    rw [decide_eq_false (by omega)]
    exact ⟨n + 1, by show Z0a p l + 1 = _; omega, by simp; omega, by simpa using h3, by simpa using h4⟩
  ·right
   exact ⟨0, rfl, by simp, by rw [List.find?_cons_of_pos hp]; rfl, hp⟩
theorem Ztq (s : List Action) (f : Action → Option Bool) (p : Action → Bool) (hf : ∀ x ∈ s, f x = some (p x)) : Zcv s f = some (Z0a p s) := by
 unfold Zcv
 rw [show ((s.length : Int)).toNat = s.length by omega]
 exact Ze7 p (fun i => by rw [Zca]) (fun m i => by rw [Zca]) hf
theorem Y4g (s : List Group) (f : Group → Option Bool) (p : Group → Bool) (hf : ∀ x ∈ s, f x = some (p x)) : Zh1 s f = some (Z0a p s) := by
 unfold Zh1
 rw [show ((s.length : Int)).toNat = s.length by omega]
 exact Ze7 p (fun i => by rw [Zcr]) (fun m i => by rw [Zcr]) hf
theorem Zzg (s : List Bucket) (f : Bucket → Option Bool) (p : Bucket → Bool) (hf : ∀ x ∈ s, f x = some (p x)) : Zgc s f = some (Z0a p s) := by
 unfold Zgc
 rw [show ((s.length : Int)).toNat = s.length by omega]
 exact Ze7 p (fun i => by rw [Ze0]) (fun m i => by rw [Ze0]) hf
theorem Zx3 (s : List Int) (v : Int) : Zfn s v = some (Z0a (fun x => decide (v = x)) s) := by
 unfold Zfn
 rw [show ((s.length : Int)).toNat = s.length by omega]
 exact Ze7 (f := fun x => some (decide (v = x))) (fun x => decide (v = x)) (fun i => by rw [Zcw]) (fun m i => by rw [Zcw]; rfl) (fun _ _ => rfl)
theorem Y5w (s : List Int) (v : Int) : Zia s v = some (s.contains v) := by
 unfold Zia; rw [Zx3, Option.bind_some, Zdd]
 congr 1
 rw [Bool.eq_iff_iff, List.any_eq_true, List.contains_iff_mem]
 simp
theorem Ykq (e : Env) (n : Int) : Zil e n = some (!e.Down.contains n) := by
 unfold Zil; rw [Y5w]; rfl
theorem Y33 (s : List Action) (f : Action → Option Bool) (p : Action → Bool) (hf : ∀ x ∈ s, f x = some (p x)) (hl : s.length ≤ lim) : Zj8 s f = some (s.filter (fun x => !p x)) := by
 have hlim : lim = 4294967296 := rfl
 unfold Zj8
 rw [Ztq s f p hf, Option.bind_some]
 by_cases h : Z0a p s < 0
 ·have := Zcz p s
  rw [decide_eq_true (by omega), cond_true, Y7o p s h]
 ·have hlt := Zfo p s
  rw [decide_eq_false (by omega), cond_false, Z2i (by omega) (by omega)]
  have key := Y97 (z := Znv) (G := Ze8 f) (s := s) (f := f) p (fun m l i j => by rw [Ze8]) hf hl (((s.length : Int) - (Z0a p s + 1)).toNat + 1) s (Z0a p s).toNat ((Z0a p s).toNat + 1) (by omega) (by omega) (by omega) rfl rfl (Zuy p s (by omega)).symm
  rw [show ((Z0a p s).toNat : Int) = Z0a p s by omega, show (((Z0a p s).toNat + 1 : Nat) : Int) = Z0a p s + 1 by omega] at key
  exact key
theorem Zvf (s : List Action) (f : Action → Option Bool) (p : Action → Bool) (hf : ∀ x ∈ s, f x = some (p x)) : Zj6 s f = some (s.any p) := by
 unfold Zj6; rw [Ztq s f p hf, Option.bind_some, Zdd]
def Z05 (a : Action) : aset_spot := bif decide (a.Kind = 25) then ⟨a.Kind, a.Oxm.Field⟩ else ⟨a.Kind, 0⟩
theorem Zn6 (a : Action) : Zaq a = some (Z05 a) := by
 unfold Zaq Z05
 cases decide (a.Kind = 25) <;> rfl
theorem Zho (a : Action) : (Z05 a).kind = a.Kind := by
 unfold Z05
 cases decide (a.Kind = 25) <;> rfl
theorem Yb8 (b c : Action) : Zdv b c = some (decide (Z05 c = Z05 b)) := by
 unfold Zdv
 rw [Zn6, Option.bind_some, Zn6]; rfl
def wr1 (l : List Action) (x : Action) : List Action := bif decide (Z0a (fun b => decide (Z05 x = Z05 b)) l < 0) then l ++ [x] else l.set (Z0a (fun b => decide (Z05 x = Z05 b)) l).toNat x
theorem Ztx (l : List Action) (x : Action) : (wr1 l x).length ≤ l.length + 1 := by
 unfold wr1
 cases decide (Z0a (fun b => decide (Z05 x = Z05 b)) l < 0) <;> simp
theorem Zui : ∀ (l : List Action) (i : Nat) (acc : List Action), acc.length + l.length ≤ lim → Z9q l i acc = some (l.foldl wr1 acc)
 | [], i, acc, _ => by rw [Z9q]; rfl
 | x :: l, i, acc, h => by
  simp only [List.length_cons] at h
  have hw := Ztx acc x
  rw [Z9q, Ztq acc (fun y => Zdv y x) (fun b => decide (Z05 x = Z05 b)) (fun y _ => Yb8 y x), Option.bind_some, List.foldl_cons]
  have hi := Zfo (fun b => decide (Z05 x = Z05 b)) acc
  by_cases hc : Z0a (fun b => decide (Z05 x = Z05 b)) acc < 0
  ·rw [decide_eq_true hc, cond_true, Z17 (by simp; omega), Option.bind_some, Zui l (i + 1) _ (by simp; omega)]
   unfold wr1
   rw [decide_eq_true hc, cond_true]
  ·obtain ⟨n, hn⟩ : ∃ n : Nat, Z0a (fun b => decide (Z05 x = Z05 b)) acc = (n : Int) := ⟨(Z0a (fun b => decide (Z05 x = Z05 b)) acc).toNat, by omega⟩
   rw [decide_eq_false hc, cond_false, hn, Z1w (by omega), Option.bind_some, Zui l (i + 1) _ (by simp; omega)]
   unfold wr1
   rw [decide_eq_false hc, cond_false, hn]
theorem Zsg (s l : List Action) (h : s.length + l.length ≤ lim) : Zcl s l = some (l.foldl wr1 s) := by
 unfold Zcl Z6w
 rw [Z17 (by simp; omega), Option.bind_some, List.nil_append, Zui l 0 s h]
theorem Zn4 : ∀ (l s : List Action), (l.foldl wr1 s).length ≤ s.length + l.length
 | [], s => by simp
 | x :: l, s => by
  have h1 := Zn4 l (wr1 s x)
  have h2 := Ztx s x
  rw [List.foldl_cons, List.length_cons]; omega
theorem Y9s (l : List Action) (x : Action) (h : (l.map Z05).Nodup) : ((wr1 l x).map Z05).Nodup := by
 unfold wr1
 rcases Zkg (fun b => decide (Z05 x = Z05 b)) l with ⟨h1, h2⟩ | ⟨n, h1, h2, h3, h4⟩
 ·rw [decide_eq_true h1, cond_true, List.map_append, List.nodup_append]
  refine ⟨h, by simp, ?_⟩
  intro a ha b hb e
  simp only [List.map_cons, List.map_nil, List.mem_singleton] at hb
  subst e; subst hb
  obtain ⟨y, hy, hk⟩ := List.mem_map.1 ha
  have := List.find?_eq_none.1 h2 y hy
  simp [hk] at this
 ·rw [decide_eq_false (by omega), cond_false, h1, Int.toNat_natCast]
  have hk : Z05 x = Z05 l[n] := by simpa using h4
  have : (l.set n x).map Z05 = l.map Z05 := by
   rw [List.map_set, hk]
   apply List.ext_getElem
   ·simp
   ·intro i h5 h6
    rw [List.getElem_set]
    split
    ·rename_i e; subst e; simp
    ·rfl
  rw [this]; exact h
theorem Zzo : ∀ (l s : List Action), (s.map Z05).Nodup → ((l.foldl wr1 s).map Z05).Nodup
 | [], s, h => h
 | x :: l, s, h => Zzo l _ (Y9s s x h)
def Z3x (k : Int) : Int := Z0a (fun x => decide (k = x)) [18, 17, 25, 22, 0]
theorem Zp9 (k : Int) : Zdt k = some (Z3x k) := by
 unfold Zdt Z3x
 rw [Zx3]; rfl
def Z4r (goes : Bool) (a : Action) : Bool := !(decide (Z3x a.Kind < 0) || (goes && decide (a.Kind = 0)))
def Zbf (a b : Action) : Int :=
 bif decide (IntKind.i64.wrap (Z3x (Z05 a).kind - Z3x (Z05 b).kind) ≠ 0) then IntKind.i64.wrap (Z3x (Z05 a).kind - Z3x (Z05 b).kind)
 else bif decide ((Z05 a).field < (Z05 b).field) then -1 else bif decide ((Z05 a).field > (Z05 b).field) then 1 else 0
theorem Y2b (a b : Action) : Z84 a b = some (Zbf a b) := by
 unfold Z84 Zbf
 rw [Zn6, Option.bind_some, Zn6, Option.bind_some, Zp9, Option.bind_some, Zp9, Option.bind_some]
 cases decide (IntKind.i64.wrap (Z3x (Z05 a).kind - Z3x (Z05 b).kind) ≠ 0)
 ·rw [cond_false, cond_false]
  cases decide ((Z05 a).field < (Z05 b).field)
  ·rw [cond_false, cond_false]
   cases decide ((Z05 a).field > (Z05 b).field) <;> rfl
  ·rfl
 ·rfl
theorem Zje {α : Type} (lt : α → α → Bool) (x : α) : ∀ R : List α, (Z0k lt x R).Perm (x :: R)
 | [] => List.Perm.refl _
 | y :: R => by
  rw [Z0k]
  cases lt x y
  ·exact List.Perm.refl _
  ·exact ((Zje lt x R).cons y).trans (List.Perm.swap x y R)
theorem Y1p {α : Type} (lt : α → α → Bool) : ∀ (l R : List α), (l.foldl (fun R x => Z0k lt x R) R).Perm (l ++ R)
 | [], R => List.Perm.refl _
 | x :: l, R => by
  rw [List.foldl_cons]
  refine (Y1p lt l _).trans ?_
  refine ((Zje lt x R).append_left l).trans ?_
  exact List.perm_middle
theorem Zxa {α : Type} (lt : α → α → Bool) (l : List α) : (srt lt l).Perm l := by
 unfold srt
 refine (List.reverse_perm _).trans ?_
 have := Y1p lt l []
 rwa [List.append_nil] at this
theorem Zew {α : Type} (lt : α → α → Bool) (x : α) (R : List α) : (Z0k lt x R).length = R.length + 1 := by
 have := (Zje lt x R).length_eq
 simpa using this
def ltA (a b : Action) : Bool := decide (Zbf a b < 0)
theorem Zy8 (go : List Action → Int → Option (List Action)) (i : Int) (x : Action) : ∀ (R S : List Action) (m : Nat), R.length < m → R.length ≤ lim →
  Z7n 0 Z84 go i m (R.reverse ++ x :: S) (R.length : Int) = go ((Z0k ltA x R).reverse ++ S) (IntKind.i64.wrap (i + 1))
 | [], S, m, h, _ => by
  obtain ⟨m, rfl⟩ : ∃ k, m = k + 1 := ⟨m - 1, by simp at h; omega⟩
  rw [Z7n]
  simp [opt, Z0k]
 | y :: R, S, m, h, hl => by
  have hlim : lim = 4294967296 := rfl
  simp only [List.length_cons] at h hl
  obtain ⟨m, rfl⟩ : ∃ k, m = k + 1 := ⟨m - 1, by omega⟩
  have e0 : (y :: R).reverse ++ x :: S = R.reverse ++ y :: x :: S := by simp
  have ej : IntKind.i64.wrap (((y :: R).length : Int) - 1) = (R.length : Int) := by rw [Z2i (by simp only [List.length_cons]; omega) (by simp only [List.length_cons]; omega)]; simp only [List.length_cons]; omega
  have hlen : ∀ a b : Action, (R.reverse ++ a :: b :: S).length = R.length + (S.length + 2) := fun a b => by simp
  have g1 : ∀ a b : Action, lget (R.reverse ++ a :: b :: S) (((y :: R).length : Int)) = some b := fun a b => by
   rw [Z66, List.getElem?_append_right (by simp)]; first | done | simp
  have g0 : ∀ a b : Action, lget (R.reverse ++ a :: b :: S) ((R.length : Int)) = some a := fun a b => by
   rw [Z66, List.getElem?_append_right (by simp)]; first | done | simp
  have s1 : ∀ a b c : Action, List.set (R.reverse ++ a :: b :: S) (((y :: R).length : Int)).toNat c = R.reverse ++ a :: c :: S := fun a b c => by
   rw [Int.toNat_natCast, List.set_append_right _ _ (by simp)]; first | done | simp
  have s0 : ∀ a b c : Action, List.set (R.reverse ++ a :: b :: S) ((R.length : Int)).toNat c = R.reverse ++ c :: b :: S := fun a b c => by
   rw [Int.toNat_natCast, List.set_append_right _ _ (by simp)]; first | done | simp
  rw [e0, Z7n, decide_eq_true (by simp only [List.length_cons]; omega), Z4a, g1, Option.bind_some, Z4a, ej, g0, Option.bind_some, Z4a, Y2b, Option.bind_some, Bool.true_and, Z0k]
  show (bif ltA x y then _ else _) = _
  cases ltA x y
  ·rw [cond_false, cond_false]
   simp
  ·rw [cond_true, cond_true, Option.bind_some, Option.bind_some, Option.bind_some, s1, g0, Option.bind_some, s0, Zy8 go i x R (y :: S) m (by omega) (by omega)]
   simp
theorem Zzm : ∀ (T R : List Action) (m : Nat), T.length < m → 1 ≤ R.length → R.length + T.length ≤ 1000 →
  Z6t ((R.length + T.length : Nat) : Int) 0 Z84 m (R.reverse ++ T) (R.length : Int) = some ((T.foldl (fun R x => Z0k ltA x R) R).reverse)
 | [], R, m, h, _, _ => by
  obtain ⟨m, rfl⟩ : ∃ k, m = k + 1 := ⟨m - 1, by simp at h; omega⟩
  rw [Z6t, decide_eq_false (by simp), cond_false]
  simp
 | x :: T, R, m, h, h1, h2 => by
  have hlim : lim = 4294967296 := rfl
  simp only [List.length_cons] at h h2
  obtain ⟨m, rfl⟩ : ∃ k, m = k + 1 := ⟨m - 1, by omega⟩
  have e : IntKind.i64.wrap ((R.length : Int) + 1) = (((Z0k ltA x R).length : Nat) : Int) := by rw [Zew, Z2i (by omega) (by omega)]; omega
  have hn : R.length + (x :: T).length = (Z0k ltA x R).length + T.length := by rw [Zew, List.length_cons]; omega
  rw [Z6t, decide_eq_true (by simp; omega), cond_true, Zy8 _ _ x R T Z0l (by unfold Z0l; omega) (by omega), e, hn, Zzm T (Z0k ltA x R) m (by omega) (by rw [Zew]; omega) (by rw [Zew]; omega), List.foldl_cons]
theorem Yi1 (l : List Action) (h : l.length ≤ 1000) : Zal l 0 (l.length : Int) Z84 = some (srt ltA l) := by
 unfold Zal srt
 have e : IntKind.i64.wrap ((0 : Int) + 1) = 1 := by decide
 rw [e]
 cases l with
 | nil => rfl
 | cons x l =>
  simp only [List.length_cons] at h
  have := Zzm l [x] ((((x :: l).length : Int) - 1).toNat + 1) (by simp) (by simp) (by simp; omega)
  have e2 : (([x].length + l.length : Nat) : Int) = ((x :: l).length : Int) := by simp; omega
  rw [e2] at this
  simp only [List.reverse_singleton, List.singleton_append] at this
  rw [List.foldl_cons]
  exact this
theorem Yep (l : List Action) (h : l.length < 20) : Ze4 l Z84 = some (srt ltA l) := by
 unfold Ze4 Ziv
 obtain ⟨m, hm⟩ : ∃ m, (((l.length : Int) : Int) - 20).toNat + 2 = m + 1 := ⟨_, rfl⟩
 rw [hm, Zd2, decide_eq_false (by omega), cond_false, Yi1 l (by omega), Option.bind_some]
 obtain ⟨k, hk⟩ : ∃ m, (((l.length : Int) : Int) - 20).toNat + 1 = m + 1 := ⟨_, rfl⟩
 rw [hk, Z8j, decide_eq_false (by omega), cond_false]
 rfl
def Z4x (s : List Action) : List Action := srt ltA (s.filter (Z4r (s.any fun a => decide (a.Kind = 22))))
theorem Ydv (s : List Action) (h : s.length < 20) : Z79 s = some (Z4x s) := by
 have hlim : lim = 4294967296 := rfl
 unfold Z79 Z6w Z4x
 rw [Zvf s Zjo (fun a => decide (a.Kind = 22)) (fun _ _ => rfl), Option.bind_some, Z17 (by simp; omega), Option.bind_some, List.nil_append]
 have hf : ∀ a : Action, Zbg a (s.any fun a => decide (a.Kind = 22)) = some (!Z4r (s.any fun a => decide (a.Kind = 22)) a) := fun a => by
  unfold Zbg Z4r
  rw [Zp9, Option.bind_some, Bool.not_not]
 rw [Y33 s _ (fun a => !Z4r (s.any fun a => decide (a.Kind = 22)) a) (fun a _ => hf a) (by omega), Option.bind_some]
 simp only [Bool.not_not]
 rw [Yep _ (Nat.lt_of_le_of_lt (List.length_filter_le ..) h)]
 rfl
def Zhb (bs : List Bucket) : Prop := bs.length ≤ 3 ∧ ∀ x ∈ bs, x.Acts.length ≤ 12
def Z3u (l : List Group) : Prop := l.length ≤ 9 ∧ ∀ g ∈ l, Zhb g.Buckets
theorem Y1e (bs : List Bucket) (h : ∀ x ∈ bs, x.Acts.length ≤ 12) : ∀ (m i : Nat), i + m = bs.length → Za5 m i bs = some bs
 | 0, i, _ => by rw [Za5]
 | m + 1, i, hi => by
  have hlim : lim = 4294967296 := rfl
  have hlt : i < bs.length := by omega
  have ha := h bs[i] (List.getElem_mem hlt)
  have e : List.set bs ((i : Int)).toNat { bs[i] with Acts := bs[i].Acts } = bs := by
   rw [Int.toNat_natCast]; exact List.set_getElem_self hlt
  rw [Za5, Z1w hlt, Option.bind_some]
  unfold Z6w
  rw [Z17 (by simp; omega), Option.bind_some, Option.bind_some, List.nil_append, e]
  exact Y1e bs h m (i + 1) (by omega)
theorem Yk9 (bs : List Bucket) (h : Zhb bs) : Zja bs = some bs := by
 have hlim : lim = 4294967296 := rfl
 have := h.1
 unfold Zja Zm4
 rw [Z17 (by simp; omega), Option.bind_some, List.nil_append, show ((bs.length : Int)).toNat = bs.length by omega]
 exact Y1e bs h.2 bs.length 0 (by omega)
theorem Y5r (g : Group) (h : Zhb g.Buckets) : Zli [g] = some [g] := by
 unfold Zli Zog
 rw [Z17 (by simp [lim]), Option.bind_some]
 show Zec 1 0 [g] = _
 rw [Zec]
 show ((some g).bind fun e8 => _) = _
 rw [Option.bind_some, Yk9 _ h, Option.bind_some]
 rfl
def Za6 (l : List Group) (id : Int) : Option Group := l.find? fun g => decide (g.ID = id)
theorem Zs0 (l : List Group) (id : Int) (hl : Z3u l) : Zff l id = some (match Za6 l id with | none => ((⟨0, 0, []⟩ : Group), false) | some g => (g, true)) := by
 have h9 := hl.1
 unfold Zff Zns Za6
 rw [Y4g l (fun x => Zit x id) (fun g => decide (g.ID = id)) (fun _ _ => rfl), Option.bind_some, Option.bind_some]
 rcases Zkg (fun g : Group => decide (g.ID = id)) l with ⟨h1, h2⟩ | ⟨n, h1, h2, h3, h4⟩
 ·rw [decide_eq_true h1, cond_true, h2]
 ·have hs : Zgl l (n : Int) (IntKind.i64.wrap ((n : Int) + 1)) = some [l[n]] := by
   rw [Z2i (by omega) (by omega)]
   unfold Zgl
   rw [decide_eq_true (by omega), decide_eq_true (by omega), Nat.ble_eq_true_of_le (by omega)]
   show some _ = some _
   have e2 : ((n : Int) + 1).toNat = n + 1 := by omega
   have e3 : (l.take n).length = n := by simp; omega
   rw [e2, Int.toNat_natCast, List.take_succ_eq_append_getElem h2, List.drop_append, e3, List.drop_of_length_le (by omega), Nat.sub_self]
   rfl
  rw [decide_eq_false (by omega), cond_false, h1, hs, Option.bind_some, Y5r _ (hl.2 _ (List.getElem_mem h2)), Option.bind_some, h3]
  rfl
theorem Y1w {l : List Group} {id : Int} {g : Group} (h : Za6 l id = some g) : g ∈ l := List.mem_of_find?_eq_some h
def Zdw (e : Env) (n : Nat) : Int := (Zch e (n : Int)).getD 0
theorem Zve (e : Env) (n : Nat) (hn : 0 < n) (hn2 : n ≤ 1000) : Zch e (n : Int) = some (Zdw e n) ∧ 0 ≤ Zdw e n ∧ Zdw e n < n := by
 have key : ∃ t, Zch e (n : Int) = some t ∧ 0 ≤ t ∧ t < n := by
  unfold Zch Z8q
  rw [decide_eq_false (by omega), cond_false, decide_eq_false (by omega), cond_false, Option.bind_some]
  have h1 := Int.tmod_lt_of_pos e.Turn (show (0 : Int) < n by omega)
  have h2 : -(n : Int) < e.Turn.tmod (n : Int) := by
   have := Int.lt_tmod_of_pos e.Turn (show (0 : Int) < n by omega)
   exact this
  by_cases hc : e.Turn.tmod (n : Int) < 0
  ·rw [decide_eq_true hc, cond_true, Z2i (by omega) (by omega)]
   exact ⟨_, rfl, by omega, by omega⟩
  ·rw [decide_eq_false hc, cond_false]
   exact ⟨_, rfl, by omega, by omega⟩
 obtain ⟨t, ht, h1, h2⟩ := key
 have e : Zdw e n = t := by unfold Zdw; rw [ht]; rfl
 rw [e]
 exact ⟨ht, h1, h2⟩
def Zh6 (e : Env) (bs : List Bucket) : Int := Z0a (fun x => !e.Down.contains x.Watch) bs
def Z7b (e : Env) (g : Group) : List Int :=
 bif decide (g.Buckets.length = 0) then []
 else bif decide (g.Kind = 0) then (List.range' 0 g.Buckets.length).map fun (i : Nat) => (i : Int)
 else bif decide (g.Kind = 1) then [Zdw e g.Buckets.length]
 else bif decide (g.Kind = 2) then [0]
 else bif decide (g.Kind = 3) then (bif decide (Zh6 e g.Buckets ≥ 0) then [Zh6 e g.Buckets] else [])
 else []
theorem Y2z : ∀ (m i : Nat) (acc : List Int), acc.length + m ≤ lim → Zbw m i acc = some (acc ++ (List.range' i m).map fun (i : Nat) => (i : Int))
 | 0, i, acc, _ => by rw [Zbw]; simp
 | m + 1, i, acc, h => by
  rw [Zbw, Z17 (by simp; omega), Option.bind_some, Y2z m (i + 1) _ (by simp; omega), List.range'_succ]
  simp
theorem Yld (e : Env) (g : Group) (h : Zhb g.Buckets) : Zl8 e g = some (Z7b e g) := by
 have hlim : lim = 4294967296 := rfl
 have h3 := h.1
 unfold Zl8 Z7b
 simp only
 have hz : decide ((g.Buckets.length : Int) = 0) = decide (g.Buckets.length = 0) := by
  rw [decide_eq_decide]; omega
 rw [hz]
 by_cases h0 : g.Buckets.length = 0
 ·rw [decide_eq_true h0]; rfl
 ·rw [decide_eq_false h0, cond_false, cond_false]
  cases decide (g.Kind = 0)
  ·rw [cond_false, cond_false]
   cases decide (g.Kind = 1)
   ·rw [cond_false, cond_false]
    cases decide (g.Kind = 2)
    ·rw [cond_false, cond_false]
     cases decide (g.Kind = 3)
     ·rfl
     ·rw [cond_true, cond_true]
      unfold Zo0 Zh6
      simp only
      rw [Zzg g.Buckets (fun x => Zgw x (⟨e, g⟩ : env_world)) (fun x => !e.Down.contains x.Watch) (fun x _ => by unfold Zgw; rw [Ykq]; rfl), Option.bind_some, Option.bind_some]
      cases decide (Z0a (fun x => !e.Down.contains x.Watch) g.Buckets ≥ 0) <;> rfl
    ·rfl
   ·rw [cond_true, cond_true, (Zve e g.Buckets.length (by omega) (by omega)).1]; rfl
  ·rw [cond_true, cond_true, show ((g.Buckets.length : Int)).toNat = g.Buckets.length by omega, Y2z _ 0 [] (by simp; omega)]
   rfl
theorem Zzb (e : Env) (g : Group) (h : Zhb g.Buckets) : (Z7b e g).length ≤ 3 ∧ ∀ i ∈ Z7b e g, ∃ n : Nat, i = (n : Int) ∧ n < g.Buckets.length := by
 have h3 := h.1
 unfold Z7b
 by_cases h0 : g.Buckets.length = 0
 ·rw [decide_eq_true h0]; simp
 ·rw [decide_eq_false h0, cond_false]
  cases decide (g.Kind = 0)
  ·rw [cond_false]
   cases decide (g.Kind = 1)
   ·rw [cond_false]
    cases decide (g.Kind = 2)
    ·rw [cond_false]
     cases decide (g.Kind = 3)
     ·simp
     ·rw [cond_true]
      have hlt := Zfo (fun x : Bucket => !e.Down.contains x.Watch) g.Buckets
      by_cases hc : Zh6 e g.Buckets ≥ 0
      ·rw [decide_eq_true hc, cond_true]
       refine ⟨by simp, fun i hi => ?_⟩
       rw [List.mem_singleton] at hi
       subst hi
       exact ⟨(Zh6 e g.Buckets).toNat, by omega, by unfold Zh6 at hc ⊢; omega⟩
      ·rw [decide_eq_false hc, cond_false]; simp
    ·refine ⟨by simp, fun i hi => ?_⟩
     simp only [cond_true, List.mem_singleton] at hi
     subst hi
     exact ⟨0, rfl, by omega⟩
   ·obtain ⟨_, h1, h2⟩ := Zve e g.Buckets.length (by omega) (by omega)
    refine ⟨by simp, fun i hi => ?_⟩
    simp only [cond_true, List.mem_singleton] at hi
    subst hi
    exact ⟨(Zdw e g.Buckets.length).toNat, by omega, by omega⟩
  ·refine ⟨by simp; omega, fun i hi => ?_⟩
   simp only [cond_true, List.mem_map] at hi
   obtain ⟨n, hn, rfl⟩ := hi
   exact ⟨n, rfl, by have := (List.mem_range'_1.1 hn).2; omega⟩
def Z7p (acts : List Action) : List Action := Z4x (acts.foldl wr1 [])
def Z3r (l : List Action) : Nat := l.countP fun a => decide (a.Kind = 0) || decide (a.Kind = 22)
theorem Ye9 {a b : Action} (ha : a.Kind ≠ 25) (h : a.Kind = b.Kind) : Z05 a = Z05 b := by
 unfold Z05
 rw [decide_eq_false ha, decide_eq_false (h ▸ ha), h]; rfl
theorem Zq6 (k : Int) (hk : k ≠ 25) : ∀ l : List Action, (l.map Z05).Nodup → (l.countP fun a => decide (a.Kind = k)) ≤ 1
 | [], _ => by simp
 | a :: l, h => by
  rw [List.map_cons, List.nodup_cons] at h
  rw [List.countP_cons]
  have ih := Zq6 k hk l h.2
  by_cases ha : a.Kind = k
  ·have : (l.countP fun a => decide (a.Kind = k)) = 0 := by
    rw [List.countP_eq_zero]
    intro b hb hbk
    have hbk' : b.Kind = k := by simpa using hbk
    exact h.1 (List.mem_map.2 ⟨b, hb, (Ye9 (by rw [ha]; exact hk) (by rw [ha, hbk'])).symm⟩)
   rw [this, decide_eq_true ha]; simp
  ·rw [decide_eq_false ha]; simpa using ih
theorem Yl3 {l m : List Action} (h : l.Perm m) : Z3r l = Z3r m := h.countP_eq _
theorem Y1v (acts : List Action) : Z3r (Z7p acts) ≤ 1 := by
 unfold Z7p Z4x
 rw [Yl3 (Zxa _ _)]
 have hn := Zzo acts [] (by simp)
 generalize acts.foldl wr1 [] = s at *
 unfold Z3r
 rw [List.countP_filter]
 cases hg : s.any (fun a => decide (a.Kind = 22))
 ·refine Nat.le_trans (List.countP_mono_left fun a ha h => ?_) (Zq6 0 (by decide) s hn)
  rw [List.any_eq_false] at hg
  have := hg a ha
  simp only [Bool.and_eq_true, Bool.or_eq_true, decide_eq_true_eq] at h
  rcases h.1 with h | h
  ·simpa using h
  ·exact absurd (by simpa using h) this
 ·refine Nat.le_trans (List.countP_mono_left fun a ha h => ?_) (Zq6 22 (by decide) s hn)
  simp only [Bool.and_eq_true, Bool.or_eq_true, decide_eq_true_eq] at h
  rcases h.1 with h1 | h1
  ·have h2 := h.2
   unfold Z4r at h2
   simp [h1] at h2
  ·simpa using h1
def doA (G : Int → Header → List Out) : List Action → List Out → Header → List Out × Header
 | [], o, h => (o, h)
 | a :: l, o, h => bif decide (a.Kind = 0) then doA G l (o ++ [⟨a.Port, Zf0 a, h⟩]) h
  else bif decide (a.Kind = 22) then doA G l (o ++ G a.Group h) h
  else doA G l o (Z2l (Zb9 a) h)
def Zbo (bs : List Bucket) (i : Int) : List Action := match bs[i.toNat]? with
 | some b => b.Acts
 | none => []
def goG (l : List Group) (e : Env) : Nat → Int → Header → List Out
 | 0, _, _ => []
 | d + 1, id, h => match Za6 l id with
  | none => []
  | some g => (Z7b e g).flatMap fun i => (doA (goG l e d) (Z7p (Zbo g.Buckets i)) [] h).1
theorem Z8b (G : Int → Header → List Out) : ∀ (l : List Action) (o : List Out) (h : Header), doA G l o h = (o ++ (doA G l [] h).1, (doA G l [] h).2)
 | [], o, h => by simp [doA]
 | a :: l, o, h => by
  rw [doA, doA]
  cases decide (a.Kind = 0)
  ·rw [cond_false, cond_false]
   cases decide (a.Kind = 22)
   ·rw [cond_false, cond_false]; exact Z8b G l o _
   ·rw [cond_true, cond_true, Z8b G l (o ++ _), Z8b G l ([] ++ _)]; simp
  ·rw [cond_true, cond_true, Z8b G l (o ++ _), Z8b G l ([] ++ _)]; simp
theorem Zoi (G : Int → Header → List Out) (B : Nat) (hB : 1 ≤ B) (hG : ∀ id h, (G id h).length ≤ B) : ∀ (l : List Action) (h : Header), (doA G l [] h).1.length ≤ Z3r l * B
 | [], h => by simp [doA]
 | a :: l, h => by
  have ih := Zoi G B hB hG l
  unfold Z3r at ih ⊢
  rw [doA, List.countP_cons]
  by_cases h0 : a.Kind = 0
  ·rw [decide_eq_true h0, cond_true, Z8b]
   simp only [List.nil_append, List.length_append, List.length_cons, List.length_nil, Bool.true_or, if_true]
   have := ih h
   rw [Nat.add_mul, Nat.one_mul]; omega
  ·rw [decide_eq_false h0, cond_false]
   by_cases h1 : a.Kind = 22
   ·rw [decide_eq_true h1, cond_true, Z8b]
    have h2 := hG a.Group h
    simp only [List.nil_append, List.length_append, Bool.or_true, if_true]
    have := ih h
    rw [Nat.add_mul, Nat.one_mul]; omega
   ·rw [decide_eq_false h1, cond_false]
    have := ih (Z2l (Zb9 a) h)
    simpa using this
theorem Zy6 {α β : Type} (f : α → List β) (k : Nat) : ∀ l : List α, (∀ x ∈ l, (f x).length ≤ k) → (l.flatMap f).length ≤ l.length * k
 | [], _ => by simp
 | x :: l, h => by
  rw [List.flatMap_cons, List.length_append, List.length_cons, Nat.succ_mul]
  have h1 := h x (by simp)
  have h2 := Zy6 f k l fun y hy => h y (by simp [hy])
  omega
theorem Zft (l : List Group) (e : Env) (hl : Z3u l) : ∀ (d : Nat) (id : Int) (h : Header), (goG l e d id h).length ≤ 3 ^ d
 | 0, id, h => by simp [goG]
 | d + 1, id, h => by
  rw [goG]
  cases hf : Za6 l id with
  | none => simp
  | some g =>
   have hb := hl.2 g (Y1w hf)
   have ht := (Zzb e g hb).1
   have h1 : 1 ≤ 3 ^ d := Nat.pow_pos (by decide)
   have := Zy6 (fun i => (doA (goG l e d) (Z7p (Zbo g.Buckets i)) [] h).1) (3 ^ d) (Z7b e g) fun i _ => by
    have h2 := Zoi (goG l e d) (3 ^ d) h1 (Zft l e hl d) (Z7p (Zbo g.Buckets i)) h
    have h3 := Y1v (Zbo g.Buckets i)
    have h4 : Z3r (Z7p (Zbo g.Buckets i)) * 3 ^ d ≤ 1 * 3 ^ d := Nat.mul_le_mul_right _ h3
    omega
   have h5 : (Z7b e g).length * 3 ^ d ≤ 3 * 3 ^ d := Nat.mul_le_mul_right _ ht
   have e1 : 3 ^ (d + 1) = 3 * 3 ^ d := by rw [Nat.pow_succ, Nat.mul_comm]
   show ((Z7b e g).flatMap _).length ≤ _
   omega
theorem Zk2 (R : Z0g → Int → Option Z0g) (G : Int → Header → List Out) (e : Env) (l : List Group) (dep : Int) (B : Nat) (hB : 1 ≤ B) (hG : ∀ id h, (G id h).length ≤ B)
  (hR : ∀ o id h, o.length + B ≤ lim → R ⟨e, l, o, h, dep⟩ id = some ⟨e, l, o ++ G id h, h, dep⟩) :
  ∀ (acts : List Action) (i : Nat) (o : List Out) (h : Header), o.length + Z3r acts * B ≤ lim → Z7q R acts i o e l h dep = some ⟨e, l, (doA G acts o h).1, (doA G acts o h).2, dep⟩
 | [], i, o, h, _ => by rw [Z7q]; rfl
 | a :: acts, i, o, h, hb => by
  unfold Z3r at hb
  rw [List.countP_cons] at hb
  rw [Z7q, doA]
  by_cases h0 : a.Kind = 0
  ·simp only [decide_eq_true h0, Bool.true_or, if_true, Nat.add_mul, Nat.one_mul] at hb
   rw [decide_eq_true h0, cond_true, cond_true, Ykt, Option.bind_some, Z17 (by simp; omega), Option.bind_some]
   exact Zk2 R G e l dep B hB hG hR acts (i + 1) _ h (by unfold Z3r; simp; omega)
  ·rw [decide_eq_false h0, cond_false, cond_false]
   by_cases h1 : a.Kind = 22
   ·simp only [decide_eq_true h1, Bool.or_true, if_true, Nat.add_mul, Nat.one_mul] at hb
    have h2 := hG a.Group h
    rw [decide_eq_true h1, cond_true, cond_true, hR o a.Group h (by omega), Option.bind_some]
    exact Zk2 R G e l dep B hB hG hR acts (i + 1) _ h (by unfold Z3r; simp; omega)
   ·simp only [decide_eq_false h0, decide_eq_false h1, Bool.or_self] at hb
    rw [decide_eq_false h1, cond_false, cond_false, Y3w, Option.bind_some, Zr6, Option.bind_some]
    exact Zk2 R G e l dep B hB hG hR acts (i + 1) o _ (by unfold Z3r; simpa using hb)
theorem Y1d (R : Z0g → List Action → Option Z0g) (G : Int → Header → List Out) (e : Env) (l : List Group) (g : Group) (hg : Zhb g.Buckets) (r1 : Z0g) (dep : Int) (hd : 0 ≤ dep ∧ dep ≤ 9) (B : Nat) (hB : 1 ≤ B) (hG : ∀ id h, (G id h).length ≤ B)
  (hR : ∀ o acts, Z3r acts ≤ 1 → o.length + B ≤ lim → R ⟨e, l, o, r1.header, dep⟩ acts = some ⟨e, l, (doA G acts o r1.header).1, (doA G acts o r1.header).2, dep⟩) :
  ∀ (ts : List Int) (i : Nat) (o : List Out), (∀ t ∈ ts, ∃ n : Nat, t = (n : Int) ∧ n < g.Buckets.length) → o.length + ts.length * B ≤ lim →
   Zar (g, true) R r1 ts i o e l r1.header dep = some ⟨e, l, o ++ ts.flatMap fun i => (doA G (Z7p (Zbo g.Buckets i)) [] r1.header).1, r1.header, dep - 1⟩
 | [], i, o, _, _ => by rw [Zar, Z2i (by omega) (by omega)]; simp
 | t :: ts, i, o, ht, hb => by
  have hlim : lim = 4294967296 := rfl
  obtain ⟨n, rfl, hn⟩ := ht t (by simp)
  simp only [List.length_cons, Nat.add_mul, Nat.one_mul] at hb
  have hacts := hg.2 g.Buckets[n] (List.getElem_mem hn)
  have hba : Zbo g.Buckets (n : Int) = g.Buckets[n].Acts := by
   unfold Zbo
   rw [Int.toNat_natCast, List.getElem?_eq_getElem hn]
  have hwl := Zn4 g.Buckets[n].Acts []
  simp only [List.length_nil, Nat.zero_add] at hwl
  have hlen := Zoi G B hB hG (Z7p g.Buckets[n].Acts) r1.header
  have hout := Y1v g.Buckets[n].Acts
  have hmul : Z3r (Z7p g.Buckets[n].Acts) * B ≤ 1 * B := Nat.mul_le_mul_right _ hout
  rw [Zar]
  simp only
  rw [Z1w hn, Option.bind_some, Zsg _ _ (by simp; omega), Option.bind_some, Ydv _ (by omega), Option.bind_some, show Z4x (g.Buckets[n].Acts.foldl wr1 []) = Z7p g.Buckets[n].Acts from rfl, hR o _ hout (by omega), Option.bind_some]
  simp only
  rw [Z8b]
  simp only
  rw [Y1d R G e l g hg r1 dep hd B hB hG hR ts (i + 1) _ (fun t h => ht t (by simp [h])) (by rw [List.length_append]; omega), List.flatMap_cons, hba]
  simp
theorem Zwz (l : List Group) (e : Env) (hl : Z3u l) : ∀ (d : Nat), d ≤ 8 →
  (∀ n o id h, 2 * d + 1 ≤ n → o.length + 3 ^ d ≤ lim → (Z2y n).2 ⟨e, l, o, h, ((8 - d : Nat) : Int)⟩ id = some ⟨e, l, o ++ goG l e d id h, h, ((8 - d : Nat) : Int)⟩) ∧
  (∀ n o acts h, 2 * d + 2 ≤ n → o.length + Z3r acts * 3 ^ d ≤ lim → (Z2y n).1 ⟨e, l, o, h, ((8 - d : Nat) : Int)⟩ acts = some ⟨e, l, (doA (goG l e d) acts o h).1, (doA (goG l e d) acts o h).2, ((8 - d : Nat) : Int)⟩) := by
 have hlim : lim = 4294967296 := rfl
 intro d
 induction d with
 | zero =>
  intro hd
  have h1 : ∀ n o id h, 2 * 0 + 1 ≤ n → o.length + 3 ^ 0 ≤ lim → (Z2y n).2 ⟨e, l, o, h, ((8 - 0 : Nat) : Int)⟩ id = some ⟨e, l, o ++ goG l e 0 id h, h, ((8 - 0 : Nat) : Int)⟩ := by
   intro n o id h hn _
   obtain ⟨n, rfl⟩ : ∃ k, n = k + 1 := ⟨n - 1, by omega⟩
   show Zcd (Z2y n).1 (Z2y n).2 _ _ = _
   unfold Zcd
   simp only
   rw [Zs0 l id hl, Option.bind_some]
   have : ∀ x : Group × Bool, ((!x.2) || decide (((8 - 0 : Nat) : Int) ≥ 8)) = true := fun x => by simp
   rw [this]
   simp [goG]
  refine ⟨h1, ?_⟩
  intro n o acts h hn hb
  obtain ⟨n, rfl⟩ : ∃ k, n = k + 1 := ⟨n - 1, by omega⟩
  show Ze5 (Z2y n).1 (Z2y n).2 _ _ = _
  unfold Ze5
  exact Zk2 _ (goG l e 0) e l _ (3 ^ 0) (by decide) (Zft l e hl 0) (fun o id h hb => h1 n o id h (by omega) hb) acts 0 o h hb
 | succ d ih =>
  intro hd
  obtain ⟨ih1, ih2⟩ := ih (by omega)
  have hp : 3 ^ (d + 1) = 3 * 3 ^ d := by rw [Nat.pow_succ, Nat.mul_comm]
  have h1 : ∀ n o id h, 2 * (d + 1) + 1 ≤ n → o.length + 3 ^ (d + 1) ≤ lim → (Z2y n).2 ⟨e, l, o, h, ((8 - (d + 1) : Nat) : Int)⟩ id = some ⟨e, l, o ++ goG l e (d + 1) id h, h, ((8 - (d + 1) : Nat) : Int)⟩ := by
   intro n o id h hn hb
   obtain ⟨n, rfl⟩ : ∃ k, n = k + 1 := ⟨n - 1, by omega⟩
   show Zcd (Z2y n).1 (Z2y n).2 _ _ = _
   unfold Zcd
   simp only
   rw [Zs0 l id hl, Option.bind_some, goG]
   cases hf : Za6 l id with
   | none => simp
   | some g =>
    have hg := hl.2 g (Y1w hf)
    obtain ⟨t1, t2⟩ := Zzb e g hg
    simp only [Bool.not_true, Bool.false_or]
    rw [decide_eq_false (by omega), cond_false, Yld e g hg, Option.bind_some]
    have ew : IntKind.i64.wrap (((8 - (d + 1) : Nat) : Int) + 1) = ((8 - d : Nat) : Int) := by rw [Z2i (by omega) (by omega)]; omega
    rw [ew]
    have hmul : (Z7b e g).length * 3 ^ d ≤ 3 * 3 ^ d := Nat.mul_le_mul_right _ t1
    have := Y1d (Z2y n).1 (goG l e d) e l g hg ⟨e, l, o, h, ((8 - (d + 1) : Nat) : Int)⟩ ((8 - d : Nat) : Int) (by omega) (3 ^ d) (Nat.pow_pos (by decide)) (Zft l e hl d)
     (fun o acts ho hb => ih2 n o acts h (by omega) (by
      have : Z3r acts * 3 ^ d ≤ 1 * 3 ^ d := Nat.mul_le_mul_right _ ho
      omega)) (Z7b e g) 0 o t2 (by omega)
    simp only at this
    rw [this]
    congr 2
    omega
  refine ⟨h1, ?_⟩
  intro n o acts h hn hb
  obtain ⟨n, rfl⟩ : ∃ k, n = k + 1 := ⟨n - 1, by omega⟩
  show Ze5 (Z2y n).1 (Z2y n).2 _ _ = _
  unfold Ze5
  exact Zk2 _ (goG l e (d + 1)) e l _ (3 ^ (d + 1)) (Nat.pow_pos (by decide)) (Zft l e hl (d + 1)) (fun o id h hb => h1 n o id h (by omega) hb) acts 0 o h hb
theorem Ya3 (l : List Group) (e : Env) (acts : List Action) (h : Header) (hl : Z3u l) (ha : acts.length ≤ 100) : Zg3 l e acts h = some (doA (goG l e 8) acts [] h) := by
 have hlim : lim = 4294967296 := rfl
 unfold Zg3 Ztu
 have ho : Z3r acts ≤ 100 := Nat.le_trans List.countP_le_length ha
 have hm : Z3r acts * 3 ^ 8 ≤ 100 * 3 ^ 8 := Nat.mul_le_mul_right _ ho
 have := (Zwz l e hl 8 (by decide)).2 Z0l [] acts h (by unfold Z0l; omega) (by simp only [List.length_nil]; omega)
 rw [show (((8 - 8 : Nat)) : Int) = 0 from rfl] at this
 rw [this]
 rfl
theorem Y9f (l : List Group) (e : Env) (id : Int) (h : Header) (hl : Z3u l) : Zko l e id h = some (goG l e 8 id h) := by
 have hlim : lim = 4294967296 := rfl
 unfold Zko Zsz
 have := (Zwz l e hl 8 (by decide)).1 Z0l [] id h (by unfold Z0l; omega) (by simp only [List.length_nil]; omega)
 rw [show (((8 - 8 : Nat)) : Int) = 0 from rfl] at this
 rw [this]
 rfl
end Go.Proofs.YtknpgojdkobgjaaGreat.W
namespace Go.Proofs.YtknpgojdkobgjaaGreat.W
open Go Go.Wb
theorem Ym5 (a b : Cube) : Zl7 a b = some (Z8o a b) := by
 unfold Zl7
 rw [Y41 (fun x => Zf7 x a b) (fun i => Z2w (ve a i) (ve b i)) (fun i hi => by unfold Zf7; rw [Z2b hi, Option.bind_some, Option.bind_some, Z2r, Z2r, Y44]; rfl)]
 rfl
def Zlq (r : Cube) (a : Action) : Atom := bif decide (a.Kind = 0) then ⟨r, false, a.Port, Zf0 a⟩ else ⟨r, true, a.Group, 0⟩
def Zaz (a : Action) : Bool := decide (a.Kind = 0) || decide (a.Kind = 22)
def doT : List Action → Cube → List Atom × Cube
 | [], r => ([], r)
 | a :: l, r => bif Zaz a then (Zlq r a :: (doT l r).1, (doT l r).2) else doT l (Z8o r (Zb9 a))
theorem Ybo (r : Cube) (o : List Atom) (a : Action) (h : o.length + 1 ≤ lim) : Zc4 ⟨r, o⟩ a = some (bif Zaz a then ⟨r, o ++ [Zlq r a]⟩ else ⟨Z8o r (Zb9 a), o⟩) := by
 have hj : ∀ x : Atom, Zd4 ⟨r, o⟩ x = some ⟨r, o ++ [x]⟩ := fun x => by
  unfold Zd4
  rw [Z17 (by simpa using h), Option.bind_some]
 unfold Zc4 Zaz Zlq Zf0
 cases decide (a.Kind = 0)
 ·rw [cond_false]
  cases decide (a.Kind = 22)
  ·rw [cond_false, Y3w, Option.bind_some, Ym5]; rfl
  ·rw [cond_true, hj]; rfl
 ·rw [cond_true]
  cases decide (a.Port = 4294967293)
  ·rw [cond_false, hj]; rfl
  ·rw [cond_true, hj]; rfl
theorem Zrq : ∀ (l : List Action) (i : Nat) (r : Cube) (o : List Atom), o.length + l.length ≤ lim → Zay Z61 (fun s x => Zc4 s x) l i ⟨r, o⟩ = some ⟨(doT l r).2, o ++ (doT l r).1⟩
 | [], i, r, o, _ => by rw [Zay]; simp [doT]
 | a :: l, i, r, o, h => by
  simp only [List.length_cons] at h
  rw [Zay, Ybo r o a (by omega), Option.bind_some, doT]
  cases Zaz a
  ·rw [cond_false, cond_false, Zrq l (i + 1) _ o (by omega)]
  ·rw [cond_true, cond_true, Zrq l (i + 1) _ _ (by simp; omega)]
   simp
theorem Yjs (acts : List Action) (r : Cube) (h : acts.length ≤ lim) : Zkr acts r = some (doT acts (Z12 r)) := by
 unfold Zkr Zp1
 rw [Y1g, Option.bind_some, Zrq acts 0 _ [] (by simpa using h), Option.bind_some]
 rfl
theorem Zhc : ∀ (l : List Action) (r : Cube), (doT l r).1.length = Z3r l
 | [], r => rfl
 | a :: l, r => by
  have ih := Zhc l
  unfold Z3r at ih ⊢
  rw [doT, List.countP_cons]
  show _ = _ + if Zaz a = true then 1 else 0
  cases Zaz a
  ·simp [ih]
  ·simp [ih]
end Go.Proofs.YtknpgojdkobgjaaGreat.W
namespace Go.Proofs.YtknpgojdkobgjaaGreat.W
open Go Go.Wb
end Go.Proofs.YtknpgojdkobgjaaGreat.W
namespace Go.Proofs.YtknpgojdkobgjaaGreat.W
open Go Go.Wb
theorem Y55 (s : List Bucket) (f : Bucket → Option Bool) (p : Bucket → Bool) (hf : ∀ x ∈ s, f x = some (p x)) : Zhz s f = some (s.any p) := by
 unfold Zhz; rw [Zzg s f p hf, Option.bind_some, Zdd]
theorem Yaa (s : List Group) (f : Group → Option Bool) (p : Group → Bool) (hf : ∀ x ∈ s, f x = some (p x)) : Zjg s f = some (s.any p) := by
 unfold Zjg; rw [Y4g s f p hf, Option.bind_some, Zdd]
def Zgd (bs : List Bucket) (many : Int) : Bool := decide ((bs.length : Int) ≤ many) && !(bs.any fun x => !decide ((x.Acts.length : Int) ≤ 12))
theorem Ye0 (bs : List Bucket) (many : Int) : Zkl bs many = some (Zgd bs many) := by
 unfold Zkl Zgd
 rw [Y55 bs Zpr (fun x => !decide ((x.Acts.length : Int) ≤ 12)) (fun x _ => rfl)]
 cases decide ((bs.length : Int) ≤ many) <;> rfl
def Zgk (l : List Group) (many bm : Int) : Bool := decide ((l.length : Int) ≤ many) && !(l.any fun g => !Zgd g.Buckets bm)
theorem Yir (l : List Group) (many bm : Int) : Zjq l many bm = some (Zgk l many bm) := by
 unfold Zjq Zgk
 rw [Yaa l (fun x => Zhq x bm) (fun g => !Zgd g.Buckets bm) (fun g _ => by unfold Zhq; rw [Ye0]; rfl)]
 cases decide ((l.length : Int) ≤ many) <;> rfl
theorem Ykg {l : List Group} (h : Zgk l 9 3 = true) : Z3u l := by
 unfold Zgk at h
 simp only [Bool.and_eq_true, decide_eq_true_eq, Bool.not_eq_true', List.any_eq_false] at h
 refine ⟨by omega, fun g hg => ?_⟩
 have h1 : Zgd g.Buckets 3 = true := by simpa using h.2 g hg
 unfold Zgd at h1
 simp only [Bool.and_eq_true, decide_eq_true_eq, Bool.not_eq_true', List.any_eq_false] at h1
 refine ⟨by omega, fun x hx => ?_⟩
 have h2 : decide ((x.Acts.length : Int) ≤ 12) = true := by simpa using h1.2 x hx
 rw [decide_eq_true_eq] at h2
 omega
theorem Zuw (s t : List Out) (hl : s.length = t.length) : ∀ (m i : Nat), i + m = s.length → Zab s t m i = some (decide (s.drop i = t.drop i))
 | 0, i, h => by rw [Zab, List.drop_of_length_le (by omega), List.drop_of_length_le (by omega)]; simp
 | m + 1, i, h => by
  have h1 : i < s.length := by omega
  have h2 : i < t.length := by omega
  rw [Zab, Z1w h1, Option.bind_some, Z1w h2, Option.bind_some, List.drop_eq_getElem_cons h1, List.drop_eq_getElem_cons h2]
  by_cases he : s[i] = t[i]
  ·rw [decide_eq_false (by simpa using he), cond_false, Zuw s t hl m (i + 1) (by omega)]
   simp only [List.cons.injEq, he, true_and]
  ·rw [decide_eq_true (by simpa using he), cond_true]
   simp only [List.cons.injEq, he, false_and, decide_false]
theorem Y9v (s t : List Out) : Zif s t = some (decide (s = t)) := by
 unfold Zif Znt
 by_cases hl : s.length = t.length
 ·rw [decide_eq_false (by omega), cond_false, show ((s.length : Int)).toNat = s.length by omega, Zuw s t hl _ 0 (by omega)]
  simp
 ·rw [decide_eq_true (by omega), cond_true]
  have : s ≠ t := fun e => hl (e ▸ rfl)
  simp [this]
end Go.Proofs.YtknpgojdkobgjaaGreat.W
namespace Go.Proofs.YtknpgojdkobgjaaGreat.W
open Go Go.Wb
theorem Zqv (a b : Wide) : Zcf a b = some (Z1n a b) := rfl
theorem Ya9 (a b : Wide) : Zb1 a b = some (wor a b) := rfl
theorem Y0f (a b : Wide) : Zih a b = some (Z31 a b) := rfl
theorem Zws (t : Tern) : Z95 t = some (Z0w t) := rfl
theorem inc (n : Nat) (h : n < 9223372036854775807) : IntKind.i64.wrap ((n : Int) + 1) = ((n + 1 : Nat) : Int) := by rw [Z2i (by omega) (by omega)]; omega
theorem Zux (c : Cube) : ∀ (m i : Nat), i ≤ 24 → 24 < i + m → Zds m (Z2x (fun i => Z0w (ve c i)) c i) (i : Int) = some (Z12 c)
 | 0, i, h1, h2 => by omega
 | m + 1, i, h1, h2 => by
  rw [Zds]
  by_cases h : i < 24
  ·rw [decide_eq_true (by omega), cond_true, Z2b h, Option.bind_some, Zws, Option.bind_some, Option.bind_some, Z2r, Zbk _ _ _ _ h, if_neg (by omega), inc i (by omega)]
   show Zds m (Vector.set (Z2x (fun i => Z0w (ve c i)) c i) i (Z0w (ve c i)) _) _ = _
   rw [Z8a (fun i => Z0w (ve c i)) c i h, Zux c m (i + 1) (by omega) (by omega)]
  ·have : i = 24 := by omega
   subst this
   rw [decide_eq_false (by omega), cond_false, Z7o]; rfl
theorem Zs4 (c : Cube) : Zd7 c = some (Z12 c) := by
 unfold Zd7
 have := Zux c (((24 : Int) - 0).toNat + 1) 0 (by omega) (by decide)
 rw [Z8i] at this
 exact this
theorem Y03 (a b : Cube) : ∀ (m i : Nat), i ≤ 24 → 24 < i + m → Zcs (Z12 b) m (Z2x (fun i => Z2w (ve a i) (ve b i)) (Z12 a) i) (i : Int) = some (Z8o a b)
 | 0, i, h1, h2 => by omega
 | m + 1, i, h1, h2 => by
  rw [Zcs]
  by_cases h : i < 24
  ·simp only [decide_eq_true (show ((i : Int) < 24) by omega), cond_true, Z2b h, Option.bind_some, Z2r, Y0f, Ya9, inc i (by omega)]
   rw [Zbk _ _ _ _ h, if_neg (by omega), Z7m _ _ h, Z7m _ _ h]
   have := Z8a (fun i => Z2w (ve a i) (ve b i)) (Z12 a) i h
   show Zcs (Z12 b) m (Vector.set (Z2x (fun i => Z2w (ve a i) (ve b i)) (Z12 a) i) i (Z2w (ve a i) (ve b i)) _) _ = _
   rw [this]
   exact Y03 a b m (i + 1) (by omega) (by omega)
  ·have : i = 24 := by omega
   subst this
   rw [decide_eq_false (by omega), cond_false, Z7o]; rfl
theorem Zqi (a b : Cube) : Zf1 a b = some (Z8o a b) := by
 unfold Zf1
 rw [Zs4, Option.bind_some, Zs4, Option.bind_some]
 have := Y03 a b (((24 : Int) - 0).toNat + 1) 0 (by omega) (by decide)
 rw [Z8i] at this
 exact this
theorem Zxn (a : Tern) : Z2w a zTern = Z0w a := by
 unfold Z2w Z0w
 have h1 : wor (Z31 (Z1n a.Value a.Mask) zTern.Mask) (Z1n zTern.Value zTern.Mask) = Z1n a.Value a.Mask := Z9l fun i hi => by
  have z : wt zTern.Mask i = false := Zby i
  have z2 : wt zTern.Value i = false := Zby i
  simp only [Z5q, Z6e _ _ _ hi, Z3d, z, z2]
  cases wt a.Value i <;> cases wt a.Mask i <;> rfl
 have h2 : wor a.Mask zTern.Mask = a.Mask := Z9l fun i hi => by
  have z : wt zTern.Mask i = false := Zby i
  rw [Z5q, z, Bool.or_false]
 show (⟨wor (Z31 (Z1n a.Value a.Mask) zTern.Mask) (Z1n zTern.Value zTern.Mask), wor a.Mask zTern.Mask⟩ : Tern) = _
 rw [h1, h2]
theorem Yew (a b : Tern) : Z2w (Z0w a) b = Z2w a b := by
 unfold Z2w
 rw [Y80]; rfl
theorem Zkf (r : Cube) (f : Int) (v m : Wide) : Z9v r f v m = some (Z54 r f v m) := by
 unfold Z9v Z54 Zak
 rw [Option.bind_some]
 have hz : ∀ i, i < 24 → ve Z1z i = zTern := fun i hi => Zm0 _ _ hi
 cases hc : (decide (f ≥ 0) && decide (f < 24))
 ·rw [cond_false, cond_false]
  unfold Zer
  rw [Zqi, Option.bind_some]
  have e : Z8o r (Vector.replicate 24 zTern) = Z12 r := Z6l fun i hi => by
   rw [Zu0 _ _ _ hi, Z7m _ _ hi, show ve (Vector.replicate 24 zTern) i = zTern from hz i hi, Zxn]
  rw [e]
 ·simp only [Bool.and_eq_true, decide_eq_true_eq] at hc
  obtain ⟨n, rfl⟩ : ∃ n : Nat, f = (n : Int) := ⟨f.toNat, by omega⟩
  have hn : n < 24 := by omega
  rw [cond_true, cond_true, Z2b hn, Option.bind_some, Int.toNat_natCast]
  unfold Zer
  rw [Zqi, Option.bind_some]
  have e : Z8o r (Vector.set (Vector.replicate 24 zTern) n (⟨v, m⟩ : Tern) hn) = Vector.ofFn fun i : _root_.Fin 24 => if n = i.1 then Z2w (ve (Z12 r) n) ⟨v, m⟩ else ve (Z12 r) i.1 := Z6l fun i hi => by
   rw [Zu0 _ _ _ hi, Zk9 _ _ _ _ _ hi]
   refine Eq.trans ?_ (Z7h (fun i => if n = i then Z2w (ve (Z12 r) n) ⟨v, m⟩ else ve (Z12 r) i) i hi).symm
   by_cases h : n = i
   ·subst h
    simp only [if_true]
    rw [Z7m _ _ hi, Yew]
   ·simp only [if_neg h]
    rw [Z7m _ _ hi, show ve (Vector.replicate 24 zTern) i = zTern from hz i hi, Zxn]
  exact congrArg some e
theorem Y99 : ∀ f : _root_.Fin 24, Zmt (f.1 : Int) = some (Zfd (f.1 : Int)) ∧ Zah (Zfd (f.1 : Int)) = some (Zbi (Zfd (f.1 : Int))) := by decide +kernel
theorem Ymb : Zah 13 = some (Zbi 13) := by decide +kernel
theorem Yc4 : Zah 3 = some (Zbi 3) := by decide +kernel
theorem Yl8 : Z9p 12 = some (Z4g 12) := by decide +kernel
theorem Zxk (o : Oxm) : Zh4 o = some (oxT o) := by
 unfold Zh4 oxT Zak
 rw [Option.bind_some]
 cases hc : decide (o.Field ≥ 0) && decide (o.Field < 24)
 ·rfl
 ·simp only [Bool.and_eq_true, decide_eq_true_eq] at hc
  obtain ⟨h1, h2⟩ := Y99 ⟨o.Field.toNat, by omega⟩
  have e : ((o.Field.toNat : Nat) : Int) = o.Field := by omega
  simp only [e] at h1 h2
  rw [Bool.not_true, cond_false, cond_true]
  cases o.Masked
  ·rw [cond_false, cond_false, h1, Option.bind_some, h2]; rfl
  ·rfl
theorem Ykh (a : Action) : Zkn a = some (Zb9 a) := by
 have h84 : Z8p = some Z1z := rfl
 unfold Zkn Zb9
 cases decide (a.Kind = 25)
 ·rw [cond_false, cond_false]
  cases decide (a.Kind = 17)
  ·rw [cond_false, cond_false]
   cases decide (a.Kind = 18)
   ·rfl
   ·rw [cond_true, cond_true, h84, Option.bind_some, Ymb, Option.bind_some, Zkf, Option.bind_some, Yc4, Option.bind_some, Zkf]; rfl
  ·rw [cond_true, cond_true, h84, Option.bind_some, Yl8, Option.bind_some, Option.bind_some, Zkf]; rfl
 ·rw [cond_true, cond_true, Zxk, Option.bind_some, h84, Option.bind_some, Zkf]; rfl
theorem Y7x (a b : Action) : Zkw a b = some (decide (Z05 b = Z05 a)) := by
 unfold Zkw
 congr 1
 rw [Bool.eq_iff_iff]
 unfold Z05
 by_cases ha : a.Kind = 25
 ·by_cases hb : b.Kind = 25
  ·simp [ha, hb, eq_comm]
  ·have : a.Kind ≠ b.Kind := fun e => hb (e ▸ ha)
   simp [ha, hb, this, eq_comm]
 ·by_cases hb : b.Kind = 25
  ·have : a.Kind ≠ b.Kind := fun e => ha (e.trans hb)
   simp [ha, hb, this, eq_comm]
  ·simp [ha, hb, eq_comm]
theorem Zuu {α : Type} (p : α → Bool) : ∀ (l : List α) (j : Nat) (h : j < l.length), Z0a p (l.take (j + 1)) = bif decide (Z0a p (l.take j) < 0) then (bif p l[j] then (j : Int) else -1) else Z0a p (l.take j)
 | [], j, h => by simp at h
 | x :: l, 0, h => by
  simp only [List.take_zero, List.take_succ_cons, Z0a, List.getElem_cons_zero]
  cases p x <;> rfl
 | x :: l, j + 1, h => by
  have hj : j < l.length := by simpa using h
  have ih := Zuu p l j hj
  have hq := Zcz p (l.take j)
  rw [List.take_succ_cons, List.take_succ_cons, Z0a, Z0a, ih, List.getElem_cons_succ]
  generalize Z0a p (l.take j) = q at *
  generalize p l[j] = r at *
  cases p x
  ·simp only [cond_false]
   by_cases hn : q < 0
   ·simp only [decide_eq_true hn, cond_true]
    cases r
    ·rfl
    ·simp only [cond_true]
     rw [decide_eq_false (show ¬ ((j : Int) < 0) by omega), cond_false]
     have : decide ((-1 : Int) < 0) = true := rfl
     rw [this, cond_true]
     omega
   ·simp only [decide_eq_false hn, cond_false]
    rw [decide_eq_false (show ¬ (q + 1 < 0) by omega), cond_false]
  ·rfl
theorem Zwr (l l2 : List Action) (i : Nat) (hi : i < l2.length) (hl : l.length ≤ 100) (hl2 : l2.length ≤ 100) (go : List Action → Int → Option (List Action)) : ∀ (m j : Nat), j ≤ l.length → l.length < j + m →
  Zdm l l2 (i : Int) go m (Z0a (fun b => decide (Z05 l2[i] = Z05 b)) (l.take j)) (j : Int) = go (wr1 l l2[i]) ((i + 1 : Nat) : Int)
 | 0, j, h1, h2 => by omega
 | m + 1, j, h1, h2 => by
  have hlim : lim = 4294967296 := rfl
  rw [Zdm]
  by_cases hj : j < l.length
  ·have hs := Zuu (fun b => decide (Z05 l2[i] = Z05 b)) l j hj
   have ih := Zwr l l2 i hi hl hl2 go m (j + 1) (by omega) (by omega)
   rw [decide_eq_true (show (j : Int) < (l.length : Int) by omega), cond_true, inc j (by omega)]
   by_cases hn : Z0a (fun b => decide (Z05 l2[i] = Z05 b)) (l.take j) < 0
   ·rw [decide_eq_true hn, cond_true] at hs
    rw [decide_eq_true hn, Z4a, Z1w hj, Option.bind_some, Z4a, Z1w hi, Option.bind_some, Z4a, Y7x, Option.bind_some, Bool.true_and]
    rw [hs] at ih
    cases hp : decide (Z05 l2[i] = Z05 l[j])
    ·rw [hp, cond_false] at ih
     rw [cond_false]
     have e : Z0a (fun b => decide (Z05 l2[i] = Z05 b)) (l.take j) = -1 := by
      have := Zcz (fun b => decide (Z05 l2[i] = Z05 b)) (l.take j); omega
     rw [e]; exact ih
    ·rw [hp, cond_true] at ih
     rw [cond_true]; exact ih
   ·rw [decide_eq_false hn, cond_false] at hs
    rw [decide_eq_false hn]
    simp only [Zor, Option.bind_some, Bool.false_and, cond_false]
    rw [hs] at ih
    exact ih
  ·have e : l.take j = l := List.take_of_length_le (by omega)
   rw [decide_eq_false (by omega), cond_false, e]
   unfold wr1
   have hlt := Zfo (fun b => decide (Z05 l2[i] = Z05 b)) l
   by_cases hn : Z0a (fun b => decide (Z05 l2[i] = Z05 b)) l < 0
   ·rw [decide_eq_true hn, cond_true, cond_true, Z1w hi, Option.bind_some, Z17 (by simp; omega), Option.bind_some, inc i (by omega)]
   ·obtain ⟨n, hn2⟩ : ∃ n : Nat, Z0a (fun b => decide (Z05 l2[i] = Z05 b)) l = (n : Int) := ⟨(Z0a (fun b => decide (Z05 l2[i] = Z05 b)) l).toNat, by omega⟩
    rw [decide_eq_false hn, cond_false, cond_false, Z1w hi, Option.bind_some, hn2, Z1w (by omega), Option.bind_some, inc i (by omega)]
theorem Y16 (l2 : List Action) (hl2 : l2.length ≤ 50) : ∀ (m i : Nat) (acc : List Action), i ≤ l2.length → l2.length < i + m → acc.length ≤ i + 50 → Zbx l2 m acc (i : Int) = some ((l2.drop i).foldl wr1 acc)
 | 0, i, acc, h1, h2, _ => by omega
 | m + 1, i, acc, h1, h2, h3 => by
  rw [Zbx]
  by_cases hi : i < l2.length
  ·have h4 := Zwr acc l2 i hi (by omega) (by omega) (Zbx l2 m) ((((acc.length : Int) : Int) - 0).toNat + 1) 0 (by omega) (by omega)
   rw [List.take_zero, show ((0 : Nat) : Int) = 0 from rfl] at h4
   have h5 := Ztx acc l2[i]
   rw [decide_eq_true (by omega), cond_true]
   refine Eq.trans h4 ?_
   rw [Y16 l2 hl2 m (i + 1) _ (by omega) (by omega) (by omega), List.drop_eq_getElem_cons hi, List.foldl_cons]
  ·rw [decide_eq_false (by omega), cond_false, List.drop_of_length_le (by omega)]; rfl
theorem Y5e (s l : List Action) (hs : s.length ≤ 50) (h : l.length ≤ 50) : Zj0 s l = some (l.foldl wr1 s) := by
 unfold Zj0
 have := Y16 l h ((((l.length : Int) : Int) - 0).toNat + 1) 0 s (by omega) (by omega) (by omega)
 rw [Z17 (by simp [lim]; omega), Option.bind_some, List.nil_append]
 rw [show ((0 : Nat) : Int) = 0 from rfl, List.drop_zero] at this
 exact this
def cls (k : Int) (l : List Action) : List Action := l.filter fun a => decide (a.Kind = k)
theorem Zq4 (l : List Action) (k : Int) (hl : l.length ≤ 50) : ∀ (m i : Nat) (acc : List Action), i ≤ l.length → l.length < i + m → acc.length ≤ i → Zdo l k m acc (i : Int) = some (acc ++ cls k (l.drop i))
 | 0, i, acc, h1, h2, _ => by omega
 | m + 1, i, acc, h1, h2, h3 => by
  have hlim : lim = 4294967296 := rfl
  rw [Zdo]
  by_cases hi : i < l.length
  ·rw [decide_eq_true (by omega), cond_true, Z1w hi, Option.bind_some, inc i (by omega), List.drop_eq_getElem_cons hi]
   unfold cls
   by_cases hk : l[i].Kind = k
   ·rw [decide_eq_true hk, cond_true, Option.bind_some, Z17 (by simp; omega), Option.bind_some, Zq4 l k hl m (i + 1) _ (by omega) (by omega) (by simp; omega), List.filter_cons_of_pos (by simp [hk])]
    simp [cls]
   ·rw [decide_eq_false hk, cond_false, Zq4 l k hl m (i + 1) _ (by omega) (by omega) (by omega), List.filter_cons_of_neg (by simp [hk])]
    simp [cls]
  ·rw [decide_eq_false (by omega), cond_false, List.drop_of_length_le (by omega)]
   simp [cls]
theorem Zjc (l : List Action) (k : Int) (hl : l.length ≤ 50) : Z7x l k = some (cls k l) := by
 unfold Z7x
 have := Zq4 l k hl ((((l.length : Int) : Int) - 0).toNat + 1) 0 [] (by omega) (by omega) (by simp)
 rw [show ((0 : Nat) : Int) = 0 from rfl] at this
 rw [this]; simp
def ltF (a b : Action) : Bool := decide (b.Oxm.Field > a.Oxm.Field)
theorem Zsj (l1 : List Action) (i : Nat) (hi : i < l1.length) (hi2 : l1.length ≤ 50) (go : List Action → Int → Option (List Action)) (A : List Action) (hA : A.length ≤ 50) : ∀ (Br S : List Action) (c : Action) (m : Nat), Br.length < m → Br.length ≤ 50 →
  Zc5 (A.length : Int) l1 (i : Int) go m (A ++ (Br.reverse ++ c :: S)) ((A.length + Br.length : Nat) : Int) = go (A ++ l1[i] :: (Br.reverse ++ S)) ((i + 1 : Nat) : Int)
 | [], S, c, m, hm, _ => by
  obtain ⟨m, rfl⟩ : ∃ k, m = k + 1 := ⟨m - 1, by simp at hm; omega⟩
  have g0 : lget (A ++ c :: S) (A.length : Int) = some c := by
   rw [Z66, List.getElem?_append_right (Nat.le_refl _)]; simp
  have s0 : List.set (A ++ c :: S) ((A.length : Int)).toNat l1[i] = A ++ l1[i] :: S := by
   rw [Int.toNat_natCast, List.set_append_right _ _ (Nat.le_refl _)]; simp
  rw [Zc5, decide_eq_false (by simp), cond_false, Z1w hi, Option.bind_some]
  simp only [List.reverse_nil, List.nil_append]
  rw [g0, Option.bind_some, s0, inc i (by omega)]
 | b :: Br, S, c, m, hm, hb => by
  simp only [List.length_cons] at hm hb
  obtain ⟨m, rfl⟩ : ∃ k, m = k + 1 := ⟨m - 1, by omega⟩
  have e0 : A ++ ((b :: Br).reverse ++ c :: S) = (A ++ Br.reverse) ++ b :: c :: S := by simp
  have ej : IntKind.i64.wrap (((A.length + (b :: Br).length : Nat) : Int) - 1) = ((A.length + Br.length : Nat) : Int) := by rw [Z2i (by simp only [List.length_cons]; omega) (by simp only [List.length_cons]; omega)]; simp only [List.length_cons]; omega
  have hlen : (A ++ Br.reverse).length = A.length + Br.length := by simp
  have g0 : lget ((A ++ Br.reverse) ++ b :: c :: S) ((A.length + Br.length : Nat) : Int) = some b := by
   rw [Z66, List.getElem?_append_right (by omega), hlen, Nat.sub_self]; rfl
  have g1 : lget ((A ++ Br.reverse) ++ b :: c :: S) ((A.length + (b :: Br).length : Nat) : Int) = some c := by
   rw [Z66, List.getElem?_append_right (by simp only [List.length_cons]; omega), hlen]
   have : A.length + (b :: Br).length - (A.length + Br.length) = 1 := by simp only [List.length_cons]; omega
   rw [this]; rfl
  have s1 : List.set ((A ++ Br.reverse) ++ b :: c :: S) (((A.length + (b :: Br).length : Nat) : Int)).toNat b = A ++ (Br.reverse ++ b :: b :: S) := by
   rw [Int.toNat_natCast, List.set_append_right _ _ (by simp only [List.length_cons]; omega), hlen]
   have : A.length + (b :: Br).length - (A.length + Br.length) = 1 := by simp only [List.length_cons]; omega
   rw [this]; simp
  rw [e0, Zc5, decide_eq_true (by simp only [List.length_cons]; omega), cond_true, ej, g0, Option.bind_some, g1, Option.bind_some, s1, Zsj l1 i hi hi2 go A hA Br (b :: S) b m (by omega) (by omega)]
  simp
theorem Y1a (l1 : List Action) (i : Nat) (hi : i < l1.length) (hi2 : l1.length ≤ 50) (go : List Action → Int → Option (List Action)) : ∀ (Ar B : List Action) (m : Nat), Ar.length < m → Ar.length + B.length ≤ 50 →
  Zea (Ar.reverse ++ B) l1 (i : Int) go m (Ar.length : Int) = go ((Z0k ltF l1[i] Ar).reverse ++ B) ((i + 1 : Nat) : Int)
 | [], B, m, hm, hb => by
  have hlim : lim = 4294967296 := rfl
  obtain ⟨m, rfl⟩ : ∃ k, m = k + 1 := ⟨m - 1, by simp at hm; omega⟩
  simp only [List.length_nil, Nat.zero_add] at hb
  rw [Zea, show decide ((([] : List Action).length : Int) > 0) = false from rfl]
  simp only [Zor, Option.bind_some, Bool.false_and, cond_false, List.reverse_nil, List.nil_append]
  rw [Z17 (by simp; omega), Option.bind_some]
  have e1 : IntKind.i64.wrap (((B ++ [(⟨0, 0, 0, 0, 0, Z7i⟩ : Action)]).length : Int) - 1) = ((([] : List Action).length + B.reverse.length : Nat) : Int) := by rw [Z2i (by simp <;> omega) (by simp <;> omega)]; simp
  have := Zsj l1 i hi hi2 go [] (by simp) B.reverse [] (⟨0, 0, 0, 0, 0, Z7i⟩ : Action) ((((([] : List Action).length + B.reverse.length : Nat) : Int) - (([] : List Action).length : Int)).toNat + 1) (by simp <;> omega) (by simp <;> omega)
  simp only [List.nil_append, List.reverse_reverse, List.append_nil] at this
  rw [e1]
  refine Eq.trans this ?_
  simp [Z0k]
 | y :: Ar, B, m, hm, hb => by
  have hlim : lim = 4294967296 := rfl
  simp only [List.length_cons] at hm hb
  obtain ⟨m, rfl⟩ : ∃ k, m = k + 1 := ⟨m - 1, by omega⟩
  have ej : IntKind.i64.wrap (((y :: Ar).length : Int) - 1) = (Ar.length : Int) := by rw [Z2i (by simp only [List.length_cons]; omega) (by simp only [List.length_cons]; omega)]; simp only [List.length_cons]; omega
  have e0 : (y :: Ar).reverse ++ B = Ar.reverse ++ y :: B := by simp
  have g0 : lget (Ar.reverse ++ y :: B) (Ar.length : Int) = some y := by
   rw [Z66, List.getElem?_append_right (by simp)]; simp
  rw [Zea, decide_eq_true (by simp only [List.length_cons]; omega), Z4a, ej, e0, g0, Option.bind_some, Z4a, Z1w hi, Option.bind_some, Bool.true_and, Z0k]
  show (bif ltF l1[i] y then _ else _) = _
  cases ltF l1[i] y
  ·rw [cond_false, cond_false, Z17 (by simp; omega), Option.bind_some]
   have e1 : IntKind.i64.wrap (((Ar.reverse ++ y :: B ++ [(⟨0, 0, 0, 0, 0, Z7i⟩ : Action)]).length : Int) - 1) = (((y :: Ar).reverse.length + B.reverse.length : Nat) : Int) := by rw [Z2i (by simp; omega) (by simp; omega)]; simp; omega
   have := Zsj l1 i hi hi2 go (y :: Ar).reverse (by simp; omega) B.reverse [] (⟨0, 0, 0, 0, 0, Z7i⟩ : Action) (((((y :: Ar).reverse.length + B.reverse.length : Nat) : Int) - ((y :: Ar).length : Int)).toNat + 1) (by simp; omega) (by simp; omega)
   simp only [List.reverse_reverse, List.append_nil] at this
   rw [e1]
   have e2 : Ar.reverse ++ y :: B ++ [(⟨0, 0, 0, 0, 0, Z7i⟩ : Action)] = (y :: Ar).reverse ++ (B ++ [(⟨0, 0, 0, 0, 0, Z7i⟩ : Action)]) := by simp
   have e3 : (((y :: Ar).length : Int)) = (((y :: Ar).reverse.length : Nat) : Int) := by simp
   rw [e2]
   rw [e3] at this ⊢
   refine Eq.trans this ?_
   simp
  ·rw [cond_true, cond_true, Y1a l1 i hi hi2 go Ar (y :: B) m (by omega) (by simp only [List.length_cons]; omega)]
   simp
theorem Y2x (l : List Action) (hl : l.length ≤ 50) : ∀ (m i : Nat) (R : List Action), i ≤ l.length → l.length < i + m → R.length ≤ i → Z8n l m R.reverse (i : Int) = some (((l.drop i).foldl (fun R x => Z0k ltF x R) R).reverse)
 | 0, i, R, h1, h2, _ => by omega
 | m + 1, i, R, h1, h2, h3 => by
  rw [Z8n]
  by_cases hi : i < l.length
  ·have h4 := Y1a l i hi hl (Z8n l m) R [] Z0l (by unfold Z0l; omega) (by simp; omega)
   rw [List.append_nil, List.append_nil] at h4
   have e : ((R.reverse).length : Int) = (R.length : Int) := by simp
   rw [decide_eq_true (by omega), cond_true, e, h4, Y2x l hl m (i + 1) _ (by omega) (by omega) (by rw [Zew]; omega), List.drop_eq_getElem_cons hi, List.foldl_cons]
  ·rw [decide_eq_false (by omega), cond_false, List.drop_of_length_le (by omega)]; rfl
theorem Y88 (l : List Action) (hl : l.length ≤ 50) : Zlz l = some (srt ltF l) := by
 unfold Zlz srt
 have := Y2x l hl ((((l.length : Int) : Int) - 0).toNat + 1) 0 [] (by omega) (by omega) (by simp)
 rw [show ((0 : Nat) : Int) = 0 from rfl, List.drop_zero] at this
 exact this
theorem Z7j {α : Type} (lt : α → α → Bool) (x : α) : ∀ P Q : List α, (∀ y ∈ P, lt x y = true) → Z0k lt x (P ++ Q) = P ++ Z0k lt x Q
 | [], Q, _ => rfl
 | y :: P, Q, h => by
  rw [List.cons_append, Z0k, h y (by simp), cond_true, Z7j lt x P Q fun z hz => h z (by simp [hz])]; rfl
theorem Zji {α : Type} (lt : α → α → Bool) (x : α) : ∀ Q : List α, (∀ y ∈ Q, lt x y = false) → Z0k lt x Q = x :: Q
 | [], _ => rfl
 | y :: Q, h => by rw [Z0k, h y (by simp), cond_false]
theorem Zwx {α : Type} (lt lt' : α → α → Bool) (x : α) : ∀ P Q : List α, (∀ y ∈ P, lt x y = lt' x y) → (∀ y ∈ Q, lt x y = false) → Z0k lt x (P ++ Q) = Z0k lt' x P ++ Q
 | [], Q, _, hq => by rw [List.nil_append, Zji lt x Q hq]; rfl
 | y :: P, Q, hp, hq => by
  rw [List.cons_append, Z0k, Z0k, hp y (by simp)]
  cases lt' x y
  ·rfl
  ·rw [cond_true, cond_true, Zwx lt lt' x P Q (fun z hz => hp z (by simp [hz])) hq]; rfl
def tn (k : Int) : Int := if k = 18 then 0 else if k = 17 then 1 else if k = 25 then 2 else if k = 22 then 3 else if k = 0 then 4 else -1
theorem Zkc (k : Int) : Z3x k = tn k := by
 unfold Z3x tn
 simp only [Z0a]
 by_cases h1 : k = 18
 ·subst h1; rfl
 ·by_cases h2 : k = 17
  ·subst h2; rfl
  ·by_cases h3 : k = 25
   ·subst h3; rfl
   ·by_cases h4 : k = 22
    ·subst h4; rfl
    ·by_cases h5 : k = 0
     ·subst h5; rfl
     ·simp [h1, h2, h3, h4, h5]
theorem Yks (x y : Action) (k j : Int) (hx : x.Kind = k) (hy : y.Kind = j) (hk : -1 ≤ tn k ∧ tn k ≤ 4) (hj : -1 ≤ tn j ∧ tn j ≤ 4) (hne : tn k ≠ tn j) : ltA x y = decide (tn k < tn j) := by
 unfold ltA Zbf
 have e : decide (tn k - tn j ≠ 0) = true := decide_eq_true (by omega)
 rw [Zho, Zho, hx, hy, Zkc, Zkc, Z2i (by omega) (by omega), e, cond_true, decide_eq_decide]
 omega
theorem Zmx (x y : Action) (k : Int) (hx : x.Kind = k) (hy : y.Kind = k) (hk : k ≠ 25) : ltA x y = false := by
 unfold ltA Zbf
 rw [Zho, Zho, hx, hy, Int.sub_self, show IntKind.i64.wrap 0 = 0 by decide, show decide ((0 : Int) ≠ 0) = false from rfl, cond_false]
 have e1 : (Z05 x).field = 0 := by unfold Z05; rw [decide_eq_false (by rw [hx]; exact hk)]; rfl
 have e2 : (Z05 y).field = 0 := by unfold Z05; rw [decide_eq_false (by rw [hy]; exact hk)]; rfl
 rw [e1, e2]; rfl
theorem Ycf (x y : Action) (hx : x.Kind = 25) (hy : y.Kind = 25) : ltA x y = ltF x y := by
 unfold ltA Zbf ltF
 rw [Zho, Zho, hx, hy, Int.sub_self, show IntKind.i64.wrap 0 = 0 by decide, show decide ((0 : Int) ≠ 0) = false from rfl, cond_false]
 have e1 : (Z05 x).field = x.Oxm.Field := by unfold Z05; rw [decide_eq_true hx]; rfl
 have e2 : (Z05 y).field = y.Oxm.Field := by unfold Z05; rw [decide_eq_true hy]; rfl
 rw [e1, e2]
 by_cases h : x.Oxm.Field < y.Oxm.Field
 ·rw [decide_eq_true h, cond_true]; rfl
 ·rw [decide_eq_false h, cond_false]
  cases decide (x.Oxm.Field > y.Oxm.Field) <;> rfl
theorem Zg2 : ∀ (l E D C B A : List Action), (∀ y ∈ E, y.Kind = 0) → (∀ y ∈ D, y.Kind = 22) → (∀ y ∈ C, y.Kind = 25) → (∀ y ∈ B, y.Kind = 17) → (∀ y ∈ A, y.Kind = 18) → (∀ y ∈ l, 0 ≤ tn y.Kind) →
  l.foldl (fun R x => Z0k ltA x R) (E ++ (D ++ (C ++ (B ++ A)))) = (cls 0 l).reverse ++ E ++ ((cls 22 l).reverse ++ D ++ ((cls 25 l).foldl (fun R x => Z0k ltF x R) C ++ ((cls 17 l).reverse ++ B ++ ((cls 18 l).reverse ++ A))))
 | [], E, D, C, B, A, _, _, _, _, _, _ => by simp [cls]
 | x :: l, E, D, C, B, A, hE, hD, hC, hB, hA, hl => by
  have hx := hl x (by simp)
  have hl' : ∀ y ∈ l, 0 ≤ tn y.Kind := fun y hy => hl y (by simp [hy])
  have rk : ∀ k : Int, -1 ≤ tn k ∧ tn k ≤ 4 := fun k => by unfold tn; split <;> (try split) <;> (try split) <;> (try split) <;> (try split) <;> omega
  have far : ∀ (y : Action) (k j : Int), x.Kind = k → y.Kind = j → tn k ≠ tn j → ltA x y = decide (tn k < tn j) := fun y k j h1 h2 h3 => Yks x y k j h1 h2 (rk k) (rk j) h3
  rw [List.foldl_cons]
  have hxk : x.Kind = 18 ∨ x.Kind = 17 ∨ x.Kind = 25 ∨ x.Kind = 22 ∨ x.Kind = 0 := by
   unfold tn at hx
   by_cases h1 : x.Kind = 18
   ·exact .inl h1
   ·by_cases h2 : x.Kind = 17
    ·exact .inr (.inl h2)
    ·by_cases h3 : x.Kind = 25
     ·exact .inr (.inr (.inl h3))
     ·by_cases h4 : x.Kind = 22
      ·exact .inr (.inr (.inr (.inl h4)))
      ·by_cases h5 : x.Kind = 0
       ·exact .inr (.inr (.inr (.inr h5)))
       ·simp [h1, h2, h3, h4, h5] at hx
  have c1 : ∀ k, x.Kind = k → cls k (x :: l) = x :: cls k l := fun k h => by unfold cls; rw [List.filter_cons_of_pos (by simp [h])]
  have c0 : ∀ k, x.Kind ≠ k → cls k (x :: l) = cls k l := fun k h => by unfold cls; rw [List.filter_cons_of_neg (by simp [h])]
  rcases hxk with h | h | h | h | h
  ·rw [Z7j ltA x E _ fun y hy => (far y 18 0 h (hE y hy) (by decide)).trans rfl, Z7j ltA x D _ fun y hy => (far y 18 22 h (hD y hy) (by decide)).trans rfl, Z7j ltA x C _ fun y hy => (far y 18 25 h (hC y hy) (by decide)).trans rfl, Z7j ltA x B _ fun y hy => (far y 18 17 h (hB y hy) (by decide)).trans rfl, Zji ltA x A fun y hy => Zmx x y 18 h (hA y hy) (by decide),
    Zg2 l E D C B (x :: A) hE hD hC hB (fun y hy => by rcases List.mem_cons.1 hy with rfl | hy; exact h; exact hA y hy) hl', c1 18 h, c0 17 (by rw [h]; decide), c0 25 (by rw [h]; decide), c0 22 (by rw [h]; decide), c0 0 (by rw [h]; decide)]
   simp
  ·rw [Z7j ltA x E _ fun y hy => (far y 17 0 h (hE y hy) (by decide)).trans rfl, Z7j ltA x D _ fun y hy => (far y 17 22 h (hD y hy) (by decide)).trans rfl, Z7j ltA x C _ fun y hy => (far y 17 25 h (hC y hy) (by decide)).trans rfl, Zji ltA x (B ++ A) fun y hy => (by
    rcases List.mem_append.1 hy with hy | hy
    ·exact Zmx x y 17 h (hB y hy) (by decide)
    ·exact (far y 17 18 h (hA y hy) (by decide)).trans rfl)]
   have := Zg2 l E D C (x :: B) A hE hD hC (fun y hy => by rcases List.mem_cons.1 hy with rfl | hy; exact h; exact hB y hy) hA hl'
   rw [List.cons_append] at this
   rw [this, c1 17 h, c0 18 (by rw [h]; decide), c0 25 (by rw [h]; decide), c0 22 (by rw [h]; decide), c0 0 (by rw [h]; decide)]
   simp
  ·rw [Z7j ltA x E _ fun y hy => (far y 25 0 h (hE y hy) (by decide)).trans rfl, Z7j ltA x D _ fun y hy => (far y 25 22 h (hD y hy) (by decide)).trans rfl, Zwx ltA ltF x C (B ++ A) (fun y hy => Ycf x y h (hC y hy)) (fun y hy => (by
    rcases List.mem_append.1 hy with hy | hy
    ·exact (far y 25 17 h (hB y hy) (by decide)).trans rfl
    ·exact (far y 25 18 h (hA y hy) (by decide)).trans rfl)),
    Zg2 l E D (Z0k ltF x C) B A hE hD (fun y hy => by rcases List.mem_cons.1 ((Zje ltF x C).mem_iff.1 hy) with rfl | hy; exact h; exact hC y hy) hB hA hl', c1 25 h, c0 18 (by rw [h]; decide), c0 17 (by rw [h]; decide), c0 22 (by rw [h]; decide), c0 0 (by rw [h]; decide)]
   rw [List.foldl_cons]
  ·rw [Z7j ltA x E _ fun y hy => (far y 22 0 h (hE y hy) (by decide)).trans rfl, Zji ltA x (D ++ (C ++ (B ++ A))) fun y hy => (by
    rcases List.mem_append.1 hy with hy | hy
    ·exact Zmx x y 22 h (hD y hy) (by decide)
    ·rcases List.mem_append.1 hy with hy | hy
     ·exact (far y 22 25 h (hC y hy) (by decide)).trans rfl
     ·rcases List.mem_append.1 hy with hy | hy
      ·exact (far y 22 17 h (hB y hy) (by decide)).trans rfl
      ·exact (far y 22 18 h (hA y hy) (by decide)).trans rfl)]
   have := Zg2 l E (x :: D) C B A hE (fun y hy => by rcases List.mem_cons.1 hy with rfl | hy; exact h; exact hD y hy) hC hB hA hl'
   rw [List.cons_append] at this
   rw [this, c1 22 h, c0 18 (by rw [h]; decide), c0 17 (by rw [h]; decide), c0 25 (by rw [h]; decide), c0 0 (by rw [h]; decide)]
   simp
  ·rw [Zji ltA x (E ++ (D ++ (C ++ (B ++ A)))) fun y hy => (by
    rcases List.mem_append.1 hy with hy | hy
    ·exact Zmx x y 0 h (hE y hy) (by decide)
    ·rcases List.mem_append.1 hy with hy | hy
     ·exact (far y 0 22 h (hD y hy) (by decide)).trans rfl
     ·rcases List.mem_append.1 hy with hy | hy
      ·exact (far y 0 25 h (hC y hy) (by decide)).trans rfl
      ·rcases List.mem_append.1 hy with hy | hy
       ·exact (far y 0 17 h (hB y hy) (by decide)).trans rfl
       ·exact (far y 0 18 h (hA y hy) (by decide)).trans rfl)]
   have := Zg2 l (x :: E) D C B A (fun y hy => by rcases List.mem_cons.1 hy with rfl | hy; exact h; exact hE y hy) hD hC hB hA hl'
   rw [List.cons_append] at this
   rw [this, c1 0 h, c0 18 (by rw [h]; decide), c0 17 (by rw [h]; decide), c0 25 (by rw [h]; decide), c0 22 (by rw [h]; decide)]
   simp
theorem Y57 (l : List Action) (h : ∀ y ∈ l, 0 ≤ tn y.Kind) : srt ltA l = cls 18 l ++ (cls 17 l ++ (srt ltF (cls 25 l) ++ (cls 22 l ++ cls 0 l))) := by
 unfold srt
 have := Zg2 l [] [] [] [] [] (by simp) (by simp) (by simp) (by simp) (by simp) h
 simp only [List.nil_append, List.append_nil] at this
 rw [this]
 simp
theorem Zkm (k : Int) (p : Action → Bool) (l : List Action) (h : ∀ a, a.Kind = k → p a = true) : cls k (l.filter p) = cls k l := by
 unfold cls
 rw [List.filter_filter]
 apply List.filter_congr
 intro a _
 by_cases hk : a.Kind = k
 ·simp [hk, h a hk]
 ·simp [hk]
theorem Yjb (k : Int) (p : Action → Bool) (l : List Action) (h : ∀ a, a.Kind = k → p a = false) : cls k (l.filter p) = [] := by
 unfold cls
 rw [List.filter_filter, List.filter_eq_nil_iff]
 intro a _
 by_cases hk : a.Kind = k
 ·simp [hk, h a hk]
 ·simp [hk]
theorem Yl6 (s : List Action) (h : s.length ≤ 50) : Zhp s = some (Z4x s) := by
 have hlim : lim = 4294967296 := rfl
 have lc : ∀ k, (cls k s).length ≤ 50 := fun k => Nat.le_trans (List.length_filter_le ..) (by omega)
 have l18 := lc 18
 have l17 := lc 17
 have l25 := lc 25
 have l22 := lc 22
 have l0 := lc 0
 have ls : (srt ltF (cls 25 s)).length ≤ 50 := by rw [(Zxa _ _).length_eq]; exact l25
 unfold Zhp Z4x
 rw [Zjc s 18 (by omega), Option.bind_some, Zjc s 17 (by omega), Option.bind_some, Z17 (by omega), Option.bind_some, Zjc s 25 (by omega), Option.bind_some, Y88 _ (by omega), Option.bind_some, Z17 (by rw [List.length_append]; omega), Option.bind_some, Zjc s 22 (by omega), Option.bind_some]
 have hk : ∀ (b : Bool) (a : Action), Z4r b a = true → 0 ≤ tn a.Kind := fun b a ha => by
  unfold Z4r at ha
  rw [Zkc] at ha
  simp only [Bool.not_eq_true', Bool.or_eq_false_iff, decide_eq_false_iff_not] at ha
  omega
 have kp : ∀ (b : Bool) (k : Int), 0 ≤ tn k → k ≠ 0 → ∀ a : Action, a.Kind = k → Z4r b a = true := fun b k hk h0 a ha => by
  unfold Z4r
  rw [Zkc, ha, decide_eq_false (by omega), decide_eq_false h0]; simp
 have hany : (s.any fun a => decide (a.Kind = 22)) = decide (((cls 22 s).length : Int) > 0) := by
  rw [Bool.eq_iff_iff, List.any_eq_true, decide_eq_true_eq]
  constructor
  ·rintro ⟨a, ha, hk⟩
   have : a ∈ cls 22 s := List.mem_filter.2 ⟨ha, hk⟩
   have := List.length_pos_of_mem this
   omega
  ·intro hp
   obtain ⟨a, ha⟩ := List.exists_mem_of_length_pos (show 0 < (cls 22 s).length by omega)
   have := List.mem_filter.1 ha
   exact ⟨a, this.1, this.2⟩
 rw [Y57 _ (fun y hy => hk _ y (List.mem_filter.1 hy).2), Zkm 18 _ _ (kp _ 18 (by decide) (by decide)), Zkm 17 _ _ (kp _ 17 (by decide) (by decide)), Zkm 25 _ _ (kp _ 25 (by decide) (by decide)), Zkm 22 _ _ (kp _ 22 (by decide) (by decide)), hany]
 cases hg : decide (((cls 22 s).length : Int) > 0)
 ·have e22 : cls 22 s = [] := List.eq_nil_of_length_eq_zero (by rw [decide_eq_false_iff_not] at hg; omega)
  have e0 : cls 0 (s.filter (Z4r false)) = cls 0 s := Zkm 0 _ _ fun a ha => by
   unfold Z4r
   rw [Zkc, ha]; rfl
  rw [cond_false, Zjc s 0 (by omega), Option.bind_some, Z17 (by simp only [List.length_append]; omega), Option.bind_some, e22, e0]
  simp
 ·have e0 : cls 0 (s.filter (Z4r true)) = [] := Yjb 0 _ _ fun a ha => by
   unfold Z4r
   rw [ha]; simp
  rw [cond_true, Z17 (by simp only [List.length_append]; omega), Option.bind_some, e0]
  simp
end Go.Proofs.YtknpgojdkobgjaaGreat.W
namespace Go.Proofs.YtknpgojdkobgjaaGreat.W
open Go Go.Wb
def Z5i (G : Int → Header → List Out) (h : Header) (x : Atom) : List Out := bif x.Group then G x.Port (Z2l x.Rewrite h) else [⟨x.Port, x.Max, Z2l x.Rewrite h⟩]
theorem Yhb (G : Int → Header → List Out) (B : Nat) (hB : 1 ≤ B) (hG : ∀ id h, (G id h).length ≤ B) (h : Header) (x : Atom) : (Z5i G h x).length ≤ B := by
 unfold Z5i
 cases x.Group
 ·exact hB
 ·exact hG _ _
theorem Zs2 (l : List Group) (e : Env) (hl : Z3u l) (h : Header) : ∀ (a : List Atom) (i : Nat) (o : List Out), o.length + a.length * 6561 ≤ lim → Zan (List Out) (fun s x => Zg5 x h s l e) a i o = some (o ++ a.flatMap (Z5i (goG l e 8) h))
 | [], i, o, _ => by rw [Zan]; simp
 | x :: a, i, o, hb => by
  have e8 : (3 : Nat) ^ 8 = 6561 := by decide
  have hlen := Zft l e hl 8
  rw [List.length_cons, Nat.add_mul, Nat.one_mul] at hb
  rw [Zan, Zg5, Zr6, Option.bind_some, List.flatMap_cons]
  have ho := Yhb (goG l e 8) (3 ^ 8) (by decide) hlen h x
  rw [e8] at ho
  unfold Z5i at ho ⊢
  cases hx : x.Group
  ·simp only [hx, cond_false, List.length_cons, List.length_nil] at ho ⊢
   rw [Z17 (by simp only [List.length_cons, List.length_nil]; omega), Option.bind_some, Option.bind_some, Zs2 l e hl h a (i + 1) _ (by simp only [List.length_append, List.length_cons, List.length_nil]; omega), List.append_assoc]
   rfl
  ·simp only [hx, cond_true] at ho ⊢
   rw [Y9f l e _ _ hl, Option.bind_some, Z17 (by omega), Option.bind_some, Option.bind_some, Zs2 l e hl h a (i + 1) _ (by rw [List.length_append]; omega), List.append_assoc]
   rfl
theorem Yax (l : List Group) (e : Env) (hl : Z3u l) (h : Header) (a : List Atom) (ha : a.length ≤ 600000) : Zlf l e a h = some (a.flatMap (Z5i (goG l e 8) h)) := by
 have hlim : lim = 4294967296 := rfl
 unfold Zlf Zoo
 rw [Zs2 l e hl h a 0 [] (by simp only [List.length_nil]; omega)]; rfl
end Go.Proofs.YtknpgojdkobgjaaGreat.W
namespace Go.Proofs.YtknpgojdkobgjaaGreat.W
open Go Go.Wb
theorem Zoc (acts : List Action) (ha : acts.length ≤ 1000) : ∀ (m i : Nat) (r : Cube) (o : List Atom), i ≤ acts.length → acts.length < i + m → o.length ≤ i → Z77 acts m r o (i : Int) = some (o ++ (doT (acts.drop i) r).1, (doT (acts.drop i) r).2)
 | 0, i, r, o, h1, h2, _ => by omega
 | m + 1, i, r, o, h1, h2, hb => by
  have hlim : lim = 4294967296 := rfl
  rw [Z77]
  by_cases hi : i < acts.length
  ·rw [decide_eq_true (by omega), cond_true, Z1w hi, Option.bind_some, List.drop_eq_getElem_cons hi, doT]
   unfold Zaz Zlq Zf0
   by_cases h0 : acts[i].Kind = 0
   ·have hj : ∀ x : Atom, Zhu o (Z77 acts m) r (i : Int) x = some (o ++ x :: (doT (acts.drop (i + 1)) r).1, (doT (acts.drop (i + 1)) r).2) := fun x => by
     unfold Zhu
     rw [Z17 (by simp only [List.length_cons, List.length_nil]; omega), Option.bind_some, inc i (by omega), Zoc acts ha m (i + 1) r _ (by omega) (by omega) (by simp only [List.length_append, List.length_cons, List.length_nil]; omega)]
     simp
    rw [decide_eq_true h0]
    simp only [cond_true, Option.bind_some, Bool.true_or]
    cases hp : decide (acts[i].Port = 4294967293)
    ·simp only [hp, cond_false]
     rw [hj]
    ·simp only [hp, cond_true]
     rw [hj]
   ·rw [decide_eq_false h0]
    simp only [cond_false, Option.bind_some, Bool.false_or]
    by_cases h4 : acts[i].Kind = 22
    ·rw [decide_eq_true h4]
     simp only [cond_true, Option.bind_some]
     rw [Z17 (by simp only [List.length_cons, List.length_nil]; omega), Option.bind_some, inc i (by omega), Zoc acts ha m (i + 1) r _ (by omega) (by omega) (by simp only [List.length_append, List.length_cons, List.length_nil]; omega)]
     simp
    ·rw [decide_eq_false h4]
     simp only [cond_false, Option.bind_some]
     rw [Ykh, Option.bind_some, Zqi, Option.bind_some, inc i (by omega), Zoc acts ha m (i + 1) _ o (by omega) (by omega) (by omega)]
  ·rw [decide_eq_false (by omega), cond_false, List.drop_of_length_le (by omega)]; simp [doT]
theorem Y45 (acts : List Action) (r : Cube) (ha : acts.length ≤ 1000) : Zcb acts r = some (doT acts (Z12 r)) := by
 unfold Zcb
 rw [Zs4, Option.bind_some]
 have := Zoc acts ha ((((acts.length : Int) : Int) - 0).toNat + 1) 0 (Z12 r) [] (by omega) (by omega) (by simp)
 rw [show ((0 : Nat) : Int) = 0 from rfl] at this
 rw [this]; simp
end Go.Proofs.YtknpgojdkobgjaaGreat.W
namespace Go.Proofs.YtknpgojdkobgjaaGreat.W
open Go Go.Wb
theorem Yec (r s : Cube) (h : Header) : Z2l (Z8o r s) h = Z2l s (Z2l r h) := Z6l fun f hf => by
 rw [Z75 _ _ _ hf, Z75 _ _ _ hf, Z75 _ _ _ hf, Zu0 _ _ _ hf]
 unfold Z2w Z0w
 exact Z9l fun i hi => by
  simp only [Z3d, Z5q, Z6e _ _ _ hi]
  cases wt (ve h f) i <;> cases wt (ve r f).Value i <;> cases wt (ve r f).Mask i <;> cases wt (ve s f).Value i <;> cases wt (ve s f).Mask i <;> rfl
theorem Ydc (r : Cube) (h : Header) : Z2l (Z12 r) h = Z2l r h := Z6l fun f hf => by
 rw [Z75 _ _ _ hf, Z75 _ _ _ hf, Z7m _ _ hf]
 unfold Z0w
 exact Z9l fun i hi => by
  simp only [Z3d, Z5q, Z6e _ _ _ hi]
  cases wt (ve h f) i <;> cases wt (ve r f).Value i <;> cases wt (ve r f).Mask i <;> rfl
theorem Zmz (G : Int → Header → List Out) (h : Header) : ∀ (l : List Action) (r : Cube), doA G l [] (Z2l r h) = ((doT l r).1.flatMap (Z5i G h), Z2l (doT l r).2 h)
 | [], r => rfl
 | a :: l, r => by
  rw [doA, doT]
  unfold Zaz Zlq
  by_cases h0 : a.Kind = 0
  ·rw [decide_eq_true h0]
   simp only [cond_true, Bool.true_or, List.flatMap_cons]
   rw [Z8b, Zmz G h l r]
   rfl
  ·rw [decide_eq_false h0]
   by_cases h1 : a.Kind = 22
   ·rw [decide_eq_true h1]
    simp only [cond_true, cond_false, Bool.false_or, List.flatMap_cons]
    rw [Z8b, Zmz G h l r]
    rfl
   ·rw [decide_eq_false h1]
    simp only [cond_false, Bool.false_or]
    rw [← Yec, Zmz G h l _]
end Go.Proofs.YtknpgojdkobgjaaGreat.W
namespace Go.Proofs.YtknpgojdkobgjaaGreat.W
open Go Go.Wb
end Go.Proofs.YtknpgojdkobgjaaGreat.W
namespace Go.Proofs.YtknpgojdkobgjaaGreat.W
open Go Go.Wb
theorem Y64 (a b : Wide) : Zpq a b = some (Z5h a b) := rfl
theorem Y3b (a : Wide) : Zhi a = some (Z36 a) := rfl
theorem Zwb (a : Wide) : Zen a = some (Z36 a) := by
 unfold Zen
 congr 1
 rw [Y7e, Bool.eq_iff_iff]
 obtain ⟨h, l⟩ := a
 simp [Z09]
theorem bvn (i : Nat) (h : i < 18446744073709551616) : ((BitVec.ofInt 64 (i : Int)).toNat : Int) = (i : Int) := by
 rw [BitVec.toNat_ofInt]; omega
theorem Yby (i : Nat) (h : i < 128) : Z9p (i : Int) = some (Z4g i) := by
 unfold Z9p
 have h1 : (decide ((i : Int) < 0) || decide ((i : Int) > 127)) = false := by simp; omega
 rw [h1, cond_false]
 unfold Z4g
 by_cases h2 : i < 64
 ·rw [Z9s h2, cond_true, decide_eq_true (by omega), cond_true, bvn i (by omega), Zo9, Option.bind_some]
  rfl
 ·have e : IntKind.i64.wrap ((i : Int) - 64) = ((i - 64 : Nat) : Int) := by rw [Z2i (by omega) (by omega)]; omega
  rw [Z97 h2, cond_false, decide_eq_false (by omega), cond_false, e, bvn (i - 64) (by omega), Zo9, Option.bind_some]
  rfl
theorem Zyv (a : Wide) (i : Nat) (h : i < 128) : Zh5 a (i : Int) = some (wt a i) := by
 unfold Zh5
 rw [Zte i h, Option.bind_some, Zwn, Option.bind_some, Y3b, Option.bind_some, Y2w a i h]
theorem Y84 (a : Wide) (i : Nat) (h : i < 128) : Zls a (i : Int) = some (wt a i) := by
 unfold Zls
 rw [Yby i h, Option.bind_some, Zqv, Option.bind_some, Zwb, Option.bind_some, Y2w a i h]
theorem Yga (n : Nat) (h : n < 18446744073709551616) : Zqq .and .i64 (IntKind.i64.wrap (n : Int)) 127 = ((n % 128 : Nat) : Int) := by
 have e : (BitVec.ofInt 64 (IntKind.i64.wrap (n : Int)) &&& BitVec.ofInt 64 127).toNat = n % 128 := by
  have e1 : BitVec.ofInt 64 (IntKind.i64.wrap (n : Int)) = BitVec.ofNat 64 n := by
   apply BitVec.eq_of_toNat_eq
   rw [BitVec.toNat_ofInt, BitVec.toNat_ofNat]
   simp only [IntKind.wrap, IntKind.signed, IntKind.bits]
   simp
   omega
  have e2 : BitVec.ofInt 64 127 = BitVec.ofNat 64 127 := rfl
  rw [e1, e2, BitVec.toNat_and, BitVec.toNat_ofNat, BitVec.toNat_ofNat, Nat.mod_eq_of_lt h]
  exact Nat.and_two_pow_sub_one_eq_mod n 7
 show IntKind.i64.wrap ((BitVec.ofInt 64 (IntKind.i64.wrap (n : Int)) &&& BitVec.ofInt 64 127).toNat : Int) = _
 rw [e, Z2i (by omega) (by omega)]
def cnt (x : BitVec 64) : Nat := ds 1 64 x.toNat
theorem Y2k (x : BitVec 64) : Zgo x = some (cnt x : Int) := by
 obtain ⟨h0, ha, hb, hbb, hd, he, hf⟩ := Y9w x.toNat x.isLt
 have sh : ∀ (x : BitVec 64) (n : BitVec 64), Z3g x (n.toNat : Int) = some (x >>> n.toNat) := fun x n => Y7z x n.toNat
 unfold Zgo
 simp only [sh, Option.bind_some]
 congr 1
 have t1 : ((1 : BitVec 64)).toNat = 1 := rfl
 have t2 : ((2 : BitVec 64)).toNat = 2 := rfl
 have t4 : ((4 : BitVec 64)).toNat = 4 := rfl
 have t8 : ((8 : BitVec 64)).toNat = 8 := rfl
 have t16 : ((16 : BitVec 64)).toNat = 16 := rfl
 have t32 : ((32 : BitVec 64)).toNat = 32 := rfl
 rw [t1, t2, t4, t8, t16, t32]
 generalize hA : (x >>> 1 &&& (6148914691236517205 : BitVec 64)) + (x &&& (6148914691236517205 : BitVec 64)) = A
 have eA : A.toNat = (x.toNat / 2 &&& 6148914691236517205) + (x.toNat &&& 6148914691236517205) := by
  rw [← hA, BitVec.toNat_add, BitVec.toNat_and, BitVec.toNat_and, BitVec.toNat_ushiftRight, Nat.shiftRight_eq_div_pow]
  exact Nat.mod_eq_of_lt ha
 generalize hB : (A >>> 2 &&& (3689348814741910323 : BitVec 64)) + (A &&& (3689348814741910323 : BitVec 64)) = B
 have eB : B.toNat = (A.toNat / 4 &&& 3689348814741910323) + (A.toNat &&& 3689348814741910323) := by
  rw [← hB, BitVec.toNat_add, BitVec.toNat_and, BitVec.toNat_and, BitVec.toNat_ushiftRight, Nat.shiftRight_eq_div_pow]
  rw [eA]
  exact Nat.mod_eq_of_lt hb
 generalize hC : (B >>> 4 + B) &&& (1085102592571150095 : BitVec 64) = D
 have eC : D.toNat = (B.toNat / 16 + B.toNat) &&& 1085102592571150095 := by
  rw [← hC, BitVec.toNat_and, BitVec.toNat_add, BitVec.toNat_ushiftRight, Nat.shiftRight_eq_div_pow]
  have : (B.toNat / 2 ^ 4 + B.toNat) % 2 ^ 64 = B.toNat / 16 + B.toNat := by
   rw [eB, eA]
   exact Nat.mod_eq_of_lt hbb
  rw [this]; rfl
 rw [← eA, ← eB, ← eC] at hd he hf h0
 generalize hE : D + D >>> 8 = E
 have eE : E.toNat = D.toNat + D.toNat / 256 := by
  rw [← hE, BitVec.toNat_add, BitVec.toNat_ushiftRight, Nat.shiftRight_eq_div_pow]
  exact Nat.mod_eq_of_lt hd
 rw [← eE] at he hf h0
 generalize hG : E + E >>> 16 = G
 have eG : G.toNat = E.toNat + E.toNat / 65536 := by
  rw [← hG, BitVec.toNat_add, BitVec.toNat_ushiftRight, Nat.shiftRight_eq_div_pow]
  exact Nat.mod_eq_of_lt he
 rw [← eG] at hf h0
 generalize hK : G + G >>> 32 = K
 have eK : K.toNat = G.toNat + G.toNat / 4294967296 := by
  rw [← hK, BitVec.toNat_add, BitVec.toNat_ushiftRight, Nat.shiftRight_eq_div_pow]
  exact Nat.mod_eq_of_lt hf
 rw [← eK] at h0
 rw [Yga _ K.isLt, h0]
 rfl
theorem Y3z (x : BitVec 64) : cnt x ≤ 64 := by
 unfold cnt
 rw [Zmo]
 exact Nat.le_trans (List.length_filter_le ..) (by simp)
def Z7k (a : Wide) : List Nat := (List.range 128).filter (wt a)
theorem Yad (a : Wide) : (Z7k a).length = cnt a.Lo + cnt a.Hi := by
 have e : List.range (64 + 64) = List.range 64 ++ (List.range 64).map (64 + ·) := List.range_add
 unfold Z7k cnt
 rw [show (128 : Nat) = 64 + 64 from rfl, e, List.filter_append, List.length_append, Zmo, Zmo, List.filter_map, List.length_map]
 congr 2
theorem Yk0 (a : Wide) : Zi6 a = some ((Z7k a).length : Int) := by
 have h1 := Y3z a.Hi
 have h2 := Y3z a.Lo
 rw [Yad]
 unfold Zi6
 rw [Y2k, Option.bind_some, Y2k, Option.bind_some]
 generalize cnt a.Hi = p at *
 generalize cnt a.Lo = q at *
 rw [Z2i (by omega) (by omega)]
 congr 1
 omega
def Z5x (a : Wide) : Nat → List Int
 | 0 => []
 | n + 1 => bif wt a n then (n : Int) :: Z5x a n else Z5x a n
theorem Zuv (a : Wide) : ∀ n, (Z5x a n).length = ((List.range n).filter (wt a)).length
 | 0 => rfl
 | n + 1 => by
  rw [List.range_succ, List.filter_append, List.length_append, Z5x, ← Zuv a n]
  cases h : wt a n <;> simp [h]
theorem Zma (a : Wide) : ∀ (n : Nat) (i : Int), i ∈ Z5x a n ↔ ∃ k : Nat, i = (k : Int) ∧ k < n ∧ wt a k = true
 | 0, i => by simp [Z5x]
 | n + 1, i => by
  rw [Z5x]
  cases h : wt a n
  ·rw [cond_false, Zma a n i]
   constructor
   ·rintro ⟨k, rfl, h1, h2⟩; exact ⟨k, rfl, by omega, h2⟩
   ·rintro ⟨k, rfl, h1, h2⟩
    have : k ≠ n := fun e => by rw [e, h] at h2; cases h2
    exact ⟨k, rfl, by omega, h2⟩
  ·rw [cond_true, List.mem_cons, Zma a n i]
   constructor
   ·rintro (rfl | ⟨k, rfl, h1, h2⟩)
    ·exact ⟨n, rfl, by omega, h⟩
    ·exact ⟨k, rfl, by omega, h2⟩
   ·rintro ⟨k, rfl, h1, h2⟩
    by_cases e : k = n
    ·left; rw [e]
    ·right; exact ⟨k, rfl, by omega, h2⟩
theorem Y8t (a : Wide) : ∀ (n m : Nat) (acc : List Int), n ≤ 128 → n < m → acc.length + (Z5x a n).length = (Z7k a).length → Zbu a m acc ((n : Int) - 1) = some (acc ++ Z5x a n) := by
 have hlim : lim = 4294967296 := rfl
 have hup : (Z7k a).length ≤ 128 := by
  unfold Z7k; exact Nat.le_trans (List.length_filter_le ..) (by simp)
 intro n
 induction n with
 | zero =>
  intro m acc h1 h2 h3
  obtain ⟨m, rfl⟩ : ∃ k, m = k + 1 := ⟨m - 1, by omega⟩
  rw [Zbu, decide_eq_false (by omega), Zor, Option.bind_some, Bool.false_and, cond_false]
  simp [Z5x]
 | succ n ih =>
  intro m acc h1 h2 h3
  obtain ⟨m, rfl⟩ : ∃ k, m = k + 1 := ⟨m - 1, by omega⟩
  have e : ((n + 1 : Nat) : Int) - 1 = (n : Int) := by omega
  rw [e, Zbu, decide_eq_true (by omega), Z4a, Yk0, Option.bind_some, Bool.true_and]
  by_cases hc : acc.length < (Z7k a).length
  ·have e2 : IntKind.i64.wrap ((n : Int) - 1) = (n : Int) - 1 := Z2i (by omega) (by omega)
   rw [decide_eq_true (by omega), cond_true, Zyv a n (by omega), Option.bind_some, e2, Z5x]
   rw [Z5x] at h3
   cases hw : wt a n
   ·rw [hw, cond_false] at h3
    rw [cond_false, cond_false, ih m acc (by omega) (by omega) h3]
   ·rw [hw, cond_true, List.length_cons] at h3
    rw [cond_true, cond_true, Z17 (by simp; omega), Option.bind_some, ih m _ (by omega) (by omega) (by simp; omega)]
    simp
  ·rw [decide_eq_false (by omega), cond_false]
   have : Z5x a (n + 1) = [] := List.eq_nil_of_length_eq_zero (by omega)
   rw [this]; simp
end Go.Proofs.YtknpgojdkobgjaaGreat.W
namespace Go.Proofs.YtknpgojdkobgjaaGreat.W
open Go Go.Wb
theorem Ya7 (t : Tern) : Z95 t = some (Z0w t) := rfl
theorem Y4v (f : Int → Option (Tern × Bool)) (g : Nat → Tern) (hf : ∀ i : Nat, i < 24 → f (i : Int) = some (g i, true)) (b : Cube) : ∀ (m i : Nat), i + m = 24 → Z6x f m i (Z2x g b i) = some (Vector.ofFn (fun i => g i.1), true)
 | 0, i, h => by
  have : i = 24 := by omega
  subst this
  rw [Z6x, Z7o]
 | m + 1, i, h => by
  rw [Z6x, hf i (by omega), Option.bind_some, Bool.not_true, cond_false, Z2b (by omega), Option.bind_some]
  show Z6x f m (i + 1) (Vector.set (Z2x g b i) i (g i) _) = _
  rw [Z8a g b i (by omega), Y4v f g hf b m (i + 1) (by omega)]
theorem Zwy (c : Cube) : Zf8 c = some (Z12 c) := by
 unfold Zf8 Ze2
 have := Y4v (fun x => Zhn x c) (fun i => Z0w (ve c i)) (fun i hi => by unfold Zhn; rw [Z2b hi, Option.bind_some, Z2r, Zne]; rfl) (Vector.replicate 24 zTern) 24 0 rfl
 rw [Z8i] at this
 rw [show ((24 : Int)).toNat = 24 from rfl, this]
 rfl
theorem Y3q (c : Cube) : ∀ (m i : Nat), i ≤ 24 → 24 < i + m → Zc8 m (Z2x (fun i => Z0w (ve c i)) c i) (i : Int) = some (Z12 c)
 | 0, i, h1, h2 => by omega
 | m + 1, i, h1, h2 => by
  rw [Zc8]
  by_cases h : i < 24
  ·have e : IntKind.i64.wrap ((i : Int) + 1) = ((i + 1 : Nat) : Int) := by rw [Z2i (by omega) (by omega)]; omega
   rw [decide_eq_true (by omega), cond_true, Z2b h, Option.bind_some, Ya7, Option.bind_some, Option.bind_some, Z2r, Zbk _ _ _ _ h, if_neg (by omega), e]
   show Zc8 m (Vector.set (Z2x (fun i => Z0w (ve c i)) c i) i (Z0w (ve c i)) _) _ = _
   rw [Z8a (fun i => Z0w (ve c i)) c i h, Y3q c m (i + 1) (by omega) (by omega)]
  ·have : i = 24 := by omega
   subst this
   rw [decide_eq_false (by omega), cond_false, Z7o]; rfl
theorem Yk7 (c : Cube) : Zki c = some (Z12 c) := by
 unfold Zki
 have := Y3q c (((24 : Int) - 0).toNat + 1) 0 (by omega) (by decide)
 rw [Z8i] at this
 exact this
def Ycl (x y : Tern) : Bool := !Z36 (Z1n (Z1n x.Mask y.Mask) (Z5h x.Value y.Value))
def apart (a b : Atom) : Bool := !(a.Group == b.Group) || decide (a.Port ≠ b.Port) || decide (a.Max ≠ b.Max) || (List.range' 0 24).any fun f => Ycl (ve a.Rewrite f) (ve b.Rewrite f)
def Z6m (t : Tern) (i : Nat) (on : Bool) : Tern := bif on then ⟨wor (Z31 (Z0w t).Value (Z4g i)) (Z4g i), wor (Z0w t).Mask (Z4g i)⟩ else ⟨Z31 (Z0w t).Value (Z4g i), wor (Z0w t).Mask (Z4g i)⟩
theorem Y52 (t : Tern) (i : Nat) (h : i < 128) (on : Bool) : Zhr t (i : Int) on = some (Z6m t i on) := by
 unfold Zhr
 rw [Zte i h, Option.bind_some, Zne, Option.bind_some, Zud, Option.bind_some, Zm2, Option.bind_some]
 cases on
 ·rfl
 ·rw [cond_true, Zud]; rfl
def Ych (c : Cube) (f bit : Nat) (on : Bool) : Option Cube :=
 bif wt (ve c f).Mask bit && (wt (ve c f).Value bit == on) then none else some (Vector.ofFn fun k => if f = k.1 then Z6m (ve c f) bit (!on) else ve c k.1)
theorem Ygq (c : Cube) (f : Nat) (hf : f < 24) (t : Tern) : Vector.set c f t hf = Vector.ofFn fun k => if f = k.1 then t else ve c k.1 := Z6l fun j hj => by
 rw [Zk9 _ _ _ _ _ hj, Z7h (fun k => if f = k then t else ve c k) j hj]
def sgl (x y : Tern) (k : Nat) : Bool × Bool := bif wt x.Mask k == wt y.Mask k then (false, false) else (true, bif wt x.Mask k then wt x.Value k else wt y.Value k)
def rp (c : Cube) (x y : Tern) (f k : Nat) : Option Cube := bif (sgl x y k).1 then Ych c f k (sgl x y k).2 else none
def Z3h (t : Tern) (v : Wide) : Bool := Z36 (Z1n (Z5h t.Value v) t.Mask)
theorem Z47 (t : Tern) (v : Wide) : Z3h t v = true ↔ ∀ k, k < 128 → wt t.Mask k = true → wt t.Value k = wt v k := by
 unfold Z3h
 rw [Za1]
 constructor
 ·intro h k hk hm
  have := h k hk
  rw [Z3d, Zde, hm] at this
  revert this
  cases wt t.Value k <;> cases wt v k <;> decide
 ·intro h k hk
  rw [Z3d, Zde]
  cases hm : wt t.Mask k
  ·simp
  ·rw [h k hk hm]; simp
theorem Y3s (t : Tern) (v : Wide) : Zg1 t v = some (Z3h t v) := rfl
def Z0v (c : Cube) (h : Header) : Bool := (List.range' 0 24).all fun f => Z3h (ve c f) (ve h f)
theorem Y4l (c : Cube) (h : Header) : ∀ (l : List Tern) (i : Nat), i + l.length = 24 → l = (Vector.toList c).drop i → Zbe h l i = some ((List.range' i l.length).all fun f => Z3h (ve c f) (ve h f))
 | [], i, h1, h2 => by rw [Zbe]; rfl
 | x :: l, i, h1, h2 => by
  simp only [List.length_cons] at h1
  have hi : i < (Vector.toList c).length := by simp; omega
  rw [List.drop_eq_getElem_cons hi] at h2
  obtain ⟨rfl, h3⟩ := List.cons.inj h2
  have hx : (Vector.toList c)[i] = ve c i := by rw [Vector.getElem_toList, Z6c _ _ (by omega)]
  rw [Zbe, Z2b (by omega), Option.bind_some, Z2r, Y3s, Option.bind_some, Y4l c h l (i + 1) (by omega) h3, List.length_cons, List.range'_succ, List.all_cons, hx]
  cases Z3h (ve c i) (ve h i) <;> rfl
theorem Y2r (c : Cube) (h : Header) : Zez c h = some (Z0v c h) := by
 unfold Zez Z0v
 have := Y4l c h (Vector.toList c) 0 (by simp) rfl
 rw [this]
 simp
theorem Z4d (c : Cube) (h : Header) : Z0v c h = true ↔ ∀ f, f < 24 → Z3h (ve c f) (ve h f) = true := by
 unfold Z0v
 rw [List.all_eq_true]
 constructor
 ·intro hh f hf
  exact hh f (by rw [List.mem_range'_1]; omega)
 ·intro hh f hf
  exact hh f (by have := (List.mem_range'_1.1 hf).2; omega)
theorem Zs1 (t : Tern) (v : Wide) : Z3h (Z0w t) v = Z3h t v := by
 rw [Bool.eq_iff_iff, Z47, Z47]
 unfold Z0w
 constructor
 ·intro h k hk hm
  have := h k hk hm
  rw [Z3d, hm, Bool.and_true] at this
  exact this
 ·intro h k hk hm
  have hm' : wt t.Mask k = true := hm
  rw [Z3d, hm', Bool.and_true]
  exact h k hk hm'
theorem Ylz (c : Cube) (h : Header) : Z0v (Z12 c) h = Z0v c h := by
 rw [Bool.eq_iff_iff, Z4d, Z4d]
 constructor
 ·intro hh f hf
  have := hh f hf
  rwa [Z7m _ _ hf, Zs1] at this
 ·intro hh f hf
  rw [Z7m _ _ hf, Zs1]
  exact hh f hf
theorem Ym6 (t : Tern) (i : Nat) (hi : i < 128) (on : Bool) (v : Wide) : Z3h (Z6m t i on) v = true ↔ (∀ k, k < 128 → k ≠ i → wt t.Mask k = true → wt t.Value k = wt v k) ∧ wt v i = on := by
 have hm : ∀ k, k < 128 → wt (Z6m t i on).Mask k = (wt t.Mask k || decide (i = k)) := fun k hk => by
  unfold Z6m Z0w
  cases on <;> simp only [cond_true, cond_false, Z5q, Zj1 i k hi hk]
 have hv : ∀ k, k < 128 → wt (Z6m t i on).Value k = if i = k then on else (wt t.Value k && wt t.Mask k) := fun k hk => by
  unfold Z6m Z0w
  by_cases e : i = k
  ·subst e
   cases on <;> simp [cond_true, cond_false, Z5q, Z6e _ _ _ hk, Z3d, Zj1 i i hi hi]
  ·cases on <;> simp [cond_true, cond_false, Z5q, Z6e _ _ _ hk, Z3d, Zj1 i k hi hk, e]
 rw [Z47]
 constructor
 ·intro h
  refine ⟨fun k hk hne hmk => ?_, ?_⟩
  ·have := h k hk (by rw [hm k hk, hmk]; rfl)
   rw [hv k hk, if_neg (fun e => hne e.symm), hmk, Bool.and_true] at this
   exact this
  ·have := h i hi (by rw [hm i hi]; simp)
   rw [hv i hi, if_pos rfl] at this
   exact this.symm
 ·rintro ⟨h1, h2⟩ k hk hmk
  rw [hv k hk]
  by_cases e : i = k
  ·subst e; rw [if_pos rfl, h2]
  ·rw [if_neg e]
   rw [hm k hk] at hmk
   have hmk' : wt t.Mask k = true := by simpa [e] using hmk
   rw [hmk', Bool.and_true]
   exact h1 k hk (fun e' => e e'.symm) hmk'
end Go.Proofs.YtknpgojdkobgjaaGreat.W
namespace Go.Proofs.YtknpgojdkobgjaaGreat.W
open Go Go.Wb
theorem Y8s (s : List Rule) (f : Rule → Option Bool) (p : Rule → Bool) (hf : ∀ x ∈ s, f x = some (p x)) : Zl1 s f = some (Z0a p s) := by
 unfold Zl1
 rw [show ((s.length : Int)).toNat = s.length by omega]
 exact Ze7 p (fun i => by rw [Ze9]) (fun m i => by rw [Ze9]) hf
def Z3s (h : Header) (r : Rule) : Bool := Z0v r.Cube h
end Go.Proofs.YtknpgojdkobgjaaGreat.W
namespace Go.Proofs.YtknpgojdkobgjaaGreat.W
open Go Go.Wb
theorem Zvg (k : Int) : -1 ≤ Z3x k ∧ Z3x k ≤ 4 := by
 unfold Z3x
 have h1 := Zcz (fun x => decide (k = x)) [18, 17, 25, 22, 0]
 have h2 := Zfo (fun x => decide (k = x)) [18, 17, 25, 22, 0]
 simp only [List.length_cons, List.length_nil] at h2
 omega
theorem Znc (a b : Action) : ltA a b = decide (Z3x (Z05 a).kind < Z3x (Z05 b).kind ∨ (Z3x (Z05 a).kind = Z3x (Z05 b).kind ∧ (Z05 a).field < (Z05 b).field)) := by
 have h1 := Zvg (Z05 a).kind
 have h2 := Zvg (Z05 b).kind
 unfold ltA Zbf
 rw [wr (by omega) (by omega)]
 generalize Z3x (Z05 a).kind = x at *
 generalize Z3x (Z05 b).kind = y at *
 generalize (Z05 a).field = f at *
 generalize (Z05 b).field = g at *
 by_cases e : x - y = 0
 ·have e1 : decide (x - y ≠ 0) = false := decide_eq_false (by omega)
  rw [e1, cond_false]
  by_cases h3 : f < g
  ·have e2 : decide (f < g) = true := decide_eq_true h3
   rw [e2, cond_true]
   simp; omega
  ·have e2 : decide (f < g) = false := decide_eq_false h3
   rw [e2, cond_false]
   by_cases h4 : f > g
   ·have e3 : decide (f > g) = true := decide_eq_true h4
    rw [e3, cond_true]
    simp; omega
   ·have e3 : decide (f > g) = false := decide_eq_false h4
    rw [e3, cond_false]
    simp; omega
 ·have e1 : decide (x - y ≠ 0) = true := decide_eq_true (by omega)
  rw [e1, cond_true, decide_eq_decide]
  omega
theorem Zx6 : Swo ltA where
 asym := fun a b h => by
  rw [Znc, decide_eq_true_eq] at h
  rw [Znc, decide_eq_false_iff_not]
  omega
 neg := fun a b c h k => by
  rw [Znc, decide_eq_false_iff_not] at h k
  rw [Znc, decide_eq_false_iff_not]
  omega
theorem Ygo : Z69 ltA Z84 := fun x y => ⟨Zbf x y, Y2b x y, rfl⟩
theorem Zyu (s : List Action) (h : s.length ≤ 100000) : Z79 s = some (Z4x s) := by
 have hlim : lim = 4294967296 := rfl
 unfold Z79 Z6w Z4x
 rw [Zvf s Zjo (fun a => decide (a.Kind = 22)) (fun _ _ => rfl), Option.bind_some, Z17 (by simp; omega), Option.bind_some, List.nil_append]
 have hf : ∀ a : Action, Zbg a (s.any fun a => decide (a.Kind = 22)) = some (!Z4r (s.any fun a => decide (a.Kind = 22)) a) := fun a => by
  unfold Zbg Z4r
  rw [Zp9, Option.bind_some, Bool.not_not]
 rw [Y33 s _ (fun a => !Z4r (s.any fun a => decide (a.Kind = 22)) a) (fun a _ => hf a) (by omega), Option.bind_some]
 simp only [Bool.not_not]
 rw [Ybi Zx6 Ygo _ (Nat.le_trans (List.length_filter_le ..) h)]
 rfl
theorem Zoh (s : List Action) : (Z4x s).length ≤ s.length := by
 unfold Z4x
 rw [Z35 Zx6]
 exact List.length_filter_le ..
def Z2a (a b : Tern) : Option Tern := bif Z36 (Z1n (Z5h a.Value b.Value) (Z1n a.Mask b.Mask)) then some ⟨wor (Z0w a).Value (Z0w b).Value, wor a.Mask b.Mask⟩ else none
def Z1l {α : Type} (z : α) : Option α → α × Bool
 | some a => (a, true)
 | none => (z, false)
theorem Y0o (a b : Tern) : Zes a b = some (Z1l zTern (Z2a a b)) := by
 have h : Zes a b = bif !(Z36 (Z1n (Z5h a.Value b.Value) (Z1n a.Mask b.Mask))) then some (zTern, false) else some (⟨wor (Z0w a).Value (Z0w b).Value, wor a.Mask b.Mask⟩, true) := rfl
 rw [h]
 unfold Z2a
 cases Z36 (Z1n (Z5h a.Value b.Value) (Z1n a.Mask b.Mask)) <;> rfl
def Z6a (g : Nat → Option Tern) : Option Cube := bif (List.range 24).all (fun i => (g i).isSome) then some (Vector.ofFn fun i => (g i.1).getD zTern) else none
theorem Zha {g : Nat → Option Tern} {c : Cube} (h : Z6a g = some c) (i : Nat) (hi : i < 24) : g i = some (ve c i) := by
 unfold Z6a at h
 cases ha : (List.range 24).all (fun i => (g i).isSome)
 ·rw [ha] at h; cases h
 ·rw [ha, cond_true] at h
  rw [List.all_eq_true] at ha
  have h1 := ha i (by simpa using hi)
  obtain ⟨x, hx⟩ := Option.isSome_iff_exists.1 h1
  rw [← Option.some.inj h, Z7h (fun i => (g i).getD zTern) i hi, hx]; rfl
theorem Y1z {g : Nat → Option Tern} (h : Z6a g = none) : ∃ i, i < 24 ∧ g i = none := by
 unfold Z6a at h
 cases ha : (List.range 24).all (fun i => (g i).isSome)
 ·rw [List.all_eq_false] at ha
  obtain ⟨i, hi, h1⟩ := ha
  exact ⟨i, by simpa using hi, by simpa using h1⟩
 ·rw [ha] at h; cases h
theorem Y98 {g : Nat → Option Tern} {c : Cube} (h : ∀ i, i < 24 → g i = some (ve c i)) : Z6a g = some c := by
 cases hc : Z6a g with
 | none => obtain ⟨i, hi, h1⟩ := Y1z hc; rw [h i hi] at h1; cases h1
 | some d =>
  congr 1
  refine Z6l fun i hi => ?_
  have := Zha hc i hi
  rw [h i hi] at this
  exact (Option.some.inj this).symm
theorem Y1f {g : Nat → Option Tern} (i : Nat) (hi : i < 24) (h : g i = none) : Z6a g = none := by
 cases hc : Z6a g with
 | none => rfl
 | some c => have := Zha hc i hi; rw [h] at this; cases this
theorem Zvv (f : Int → Option (Tern × Bool)) (g : Nat → Option Tern) (hf : ∀ i : Nat, i < 24 → f (i : Int) = some (Z1l zTern (g i))) : ∀ (m i : Nat) (b : Cube), i + m = 24 → (∀ j, j < i → g j = some (ve b j)) →
  Z6x f m i b = some (Z1l Z1z (Z6a g))
 | 0, i, b, h, hb => by
  rw [Z6x, Y98 (c := b) (fun j hj => hb j (by omega))]; rfl
 | m + 1, i, b, h, hb => by
  rw [Z6x, hf i (by omega), Option.bind_some]
  cases hg : g i with
  | none =>
   rw [Y1f i (by omega) hg]; rfl
  | some t =>
   show (chk 24 (i : Int)).bind _ = _
   rw [Z2b (by omega), Option.bind_some]
   refine Zvv f g hf m (i + 1) _ (by omega) fun j hj => ?_
   rw [Zk9 _ _ _ _ _ (by omega)]
   by_cases e : i = j
   ·subst e; rw [if_pos rfl, hg]; rfl
   ·rw [if_neg e]; exact hb j (by omega)
theorem Yd2 (f : Int → Option (Tern × Bool)) (g : Nat → Option Tern) (hf : ∀ i : Nat, i < 24 → f (i : Int) = some (Z1l zTern (g i))) : Ze2 f = some (Z1l Z1z (Z6a g)) := by
 unfold Ze2
 exact Zvv f g hf 24 0 _ rfl fun j hj => by omega
def Z43 (a b : Cube) : Option Cube := Z6a fun i => Z2a (ve a i) (ve b i)
theorem Zs6 (a b : Cube) : Za3 a b = some (Z1l Z1z (Z43 a b)) := by
 unfold Za3
 rw [Yd2 _ (fun i => Z2a (ve a i) (ve b i)) (fun i hi => by unfold Zl2; rw [Z2b hi, Option.bind_some, Option.bind_some, Z2r, Z2r, Y0o]; rfl)]
 rfl
def Z4i (r c : Cube) : Option Cube := bif (List.range 24).all (fun i => (Z2a (ve r i) (ve c i)).isSome) then some (Vector.ofFn fun i => Z0w ⟨(ve c i.1).Value, Z31 (ve c i.1).Mask (ve r i.1).Mask⟩) else none
theorem Y1k (f : Int → Option Tern) (g : Nat → Tern) (hf : ∀ i : Nat, i < 24 → f (i : Int) = some (g i)) (b : Cube) : ∀ (m i : Nat), i + m = 24 → Z8y f m i (Z2x g b i) = some (Vector.ofFn (fun i => g i.1))
 | 0, i, h => by
  have : i = 24 := by omega
  subst this
  rw [Z8y, Z7o]
 | m + 1, i, h => by
  rw [Z8y, hf i (by omega), Option.bind_some, Z2b (by omega), Option.bind_some]
  show Z8y f m (i + 1) (Vector.set (Z2x g b i) i (g i) _) = _
  rw [Z8a g b i (by omega), Y1k f g hf b m (i + 1) (by omega)]
theorem Y7s (f : Int → Option Tern) (g : Nat → Tern) (hf : ∀ i : Nat, i < 24 → f (i : Int) = some (g i)) : Zk7 f = some (Vector.ofFn (fun i => g i.1)) := by
 unfold Zk7
 have := Y1k f g hf (Vector.replicate 24 zTern) 24 0 rfl
 rw [Z8i] at this
 exact this
theorem Zzu (r c : Cube) : ∀ (l : List Tern) (i : Nat), i + l.length = 24 → l = (Vector.toList r).drop i → (∀ j, j < i → (Z2a (ve r j) (ve c j)).isSome = true) → Zbh c r l i = some (Z1l Z1z (Z4i r c))
 | [], i, h1, h2, h3 => by
  have hi : i = 24 := by simpa using h1
  subst hi
  have hall : (List.range 24).all (fun i => (Z2a (ve r i) (ve c i)).isSome) = true := by
   rw [List.all_eq_true]; intro i hi; exact h3 i (by simpa using hi)
  unfold Z4i
  rw [hall, cond_true, Zbh, Y7s _ (fun i => Z0w ⟨(ve c i).Value, Z31 (ve c i).Mask (ve r i).Mask⟩) (fun i hi => by
   unfold Zie
   rw [Z2b hi, Option.bind_some, Option.bind_some, Option.bind_some, Z2r, Z2r]; rfl)]
  rfl
 | x :: l, i, h1, h2, h3 => by
  simp only [List.length_cons] at h1
  have hi : i < (Vector.toList r).length := by simp; omega
  rw [List.drop_eq_getElem_cons hi] at h2
  obtain ⟨rfl, h4⟩ := List.cons.inj h2
  have hx : (Vector.toList r)[i] = ve r i := by rw [Vector.getElem_toList, Z6c _ _ (by omega)]
  rw [Zbh, hx, Z2b (by omega), Option.bind_some, Z2r, Y0o, Option.bind_some]
  cases hm : Z2a (ve r i) (ve c i) with
  | none =>
   have hall : (List.range 24).all (fun i => (Z2a (ve r i) (ve c i)).isSome) = false := by
    rw [List.all_eq_false]
    exact ⟨i, by simp; omega, by simp [hm]⟩
   unfold Z4i
   rw [hall]; rfl
  | some t =>
   exact Zzu r c l (i + 1) (by omega) h4 fun j hj => by
    by_cases e : j = i
    ·subst e; rw [hm]; rfl
    ·exact h3 j (by omega)
theorem Ybs (r c : Cube) : Zl6 r c = some (Z1l Z1z (Z4i r c)) := by
 unfold Zl6
 exact Zzu r c (Vector.toList r) 0 (by simp) rfl fun j hj => by omega
def Zd3 (c : Cube) (o : Oxm) : Cube := if h : 0 ≤ o.Field ∧ o.Field.toNat < 24 then Vector.set c o.Field.toNat (oxT o) h.2 else c
theorem Y3e (c : Cube) (o : Oxm) (n : Nat) (hn : o.Field = (n : Int)) (h : n < 24) : Zd3 c o = Vector.set c n (oxT o) h := by
 unfold Zd3
 rw [dif_pos (by omega)]
 simp [hn]
theorem Y3a (c : Cube) (o : Oxm) (h : ¬ (0 ≤ o.Field ∧ o.Field < 24)) : Zd3 c o = c := by
 unfold Zd3
 rw [dif_neg (by omega)]
theorem Ztb : ∀ (l : List Oxm) (i : Nat) (c : Cube), Zb8 l i c = some (l.foldl Zd3 c)
 | [], i, c => rfl
 | o :: l, i, c => by
  rw [Zb8, List.foldl_cons]
  unfold Z88
  rw [Option.bind_some]
  by_cases h : 0 ≤ o.Field ∧ o.Field < 24
  ·obtain ⟨n, hn⟩ : ∃ n : Nat, o.Field = (n : Int) := ⟨o.Field.toNat, by omega⟩
   have hn24 : n < 24 := by have := h.2; omega
   have hd : (decide (o.Field ≥ 0) && decide (o.Field < 24)) = true := by simp; omega
   have hc : chk 24 o.Field = some ⟨n, hn24⟩ := by rw [hn]; exact Z2b hn24
   rw [hd, cond_true, Zyj, Option.bind_some, hc, Option.bind_some, Y3e c o n hn hn24, Ztb l (i + 1)]
  ·have hd : (decide (o.Field ≥ 0) && decide (o.Field < 24)) = false := by
    rw [Bool.and_eq_false_iff, decide_eq_false_iff_not, decide_eq_false_iff_not]; omega
   rw [hd, cond_false, Y3a c o h, Ztb l (i + 1)]
def Yi7 (l : List Oxm) : Cube := l.foldl Zd3 Z1z
def Z65 (f : Flow) : Cube := Z12 (Yi7 f.Match)
theorem Zy9 (f : Flow) : Zgr f = some (Z65 f) := by
 unfold Zgr Zno Zg8
 rw [Option.bind_some, Ztb, Option.bind_some, Zwy]; rfl
def ofI (l : List Inst) (k : Int) : Option Inst := l.find? fun i => decide (i.Kind = k)
theorem Zx9 (s : List Inst) (f : Inst → Option Bool) (p : Inst → Bool) (hf : ∀ x ∈ s, f x = some (p x)) : Zf4 s f = some (Z0a p s) := by
 unfold Zf4
 rw [show ((s.length : Int)).toNat = s.length by omega]
 exact Ze7 p (fun i => by rw [Zdz]) (fun m i => by rw [Zdz]) hf
def Zt3 : Inst := ⟨0, 0, Z09, Z09, []⟩
theorem Z7c (l : List Inst) (k : Int) (hl : ∀ i ∈ l, i.Acts.length ≤ 12) : Z62 l k = some (Z1l Zt3 (ofI l k)) := by
 have hlim : lim = 4294967296 := rfl
 unfold Z62 ofI
 rw [Zx9 l (fun x => Zjz x k) (fun i => decide (i.Kind = k)) (fun _ _ => rfl), Option.bind_some]
 rcases Zkg (fun i : Inst => decide (i.Kind = k)) l with ⟨h1, h2⟩ | ⟨n, h1, h2, h3, h4⟩
 ·rw [decide_eq_true h1, cond_true, h2]; rfl
 ·have := hl _ (List.getElem_mem h2)
  rw [decide_eq_false (by omega), cond_false, h1, Z1w h2, Option.bind_some, h3]
  unfold Z6w
  rw [Z17 (by simp; omega), Option.bind_some]
  rfl
theorem Z86 {l : List Inst} {k : Int} {i : Inst} (h : ofI l k = some i) : i ∈ l := List.mem_of_find?_eq_some h
end Go.Proofs.YtknpgojdkobgjaaGreat.W
namespace Go.Proofs.YtknpgojdkobgjaaGreat.W
open Go Go.Wb
theorem Zxf {a : Wide} (h : Z36 a = false) : ∃ k, k < 128 ∧ wt a k = true := by
 by_cases hx : ∃ k, k < 128 ∧ wt a k = true
 ·exact hx
 ·exfalso
  have : Z36 a = true := (Za1 a).2 fun k hk => by
   cases hq : wt a k
   ·rfl
   ·exact absurd ⟨k, hk, hq⟩ hx
  rw [this] at h; cases h
theorem Zrd {a b c : Tern} (h : Z2a a b = some c) (v : Wide) : Z3h c v = true ↔ Z3h a v = true ∧ Z3h b v = true := by
 unfold Z2a at h
 cases hz : Z36 (Z1n (Z5h a.Value b.Value) (Z1n a.Mask b.Mask))
 ·rw [hz] at h; cases h
 ·rw [hz, cond_true] at h
  rw [Za1] at hz
  obtain rfl := Option.some.inj h
  rw [Z47, Z47, Z47]
  unfold Z0w
  simp only [Z5q, Z3d]
  simp only [Z3d, Zde] at hz
  constructor
  ·intro h1
   refine ⟨fun k hk hm => ?_, fun k hk hm => ?_⟩
   ·have h2 := h1 k hk
    have h3 := hz k hk
    revert h2 h3
    rw [hm]
    cases wt b.Mask k <;> cases wt a.Value k <;> cases wt b.Value k <;> cases wt v k <;> simp
   ·have h2 := h1 k hk
    have h3 := hz k hk
    revert h2 h3
    rw [hm]
    cases wt a.Mask k <;> cases wt a.Value k <;> cases wt b.Value k <;> cases wt v k <;> simp
  ·rintro ⟨ha, hb⟩ k hk hm
   have h1 := ha k hk
   have h2 := hb k hk
   revert hm h1 h2
   cases wt a.Mask k <;> cases wt b.Mask k <;> cases wt a.Value k <;> cases wt b.Value k <;> cases wt v k <;> simp
theorem Y9m {a b : Tern} (h : Z2a a b = none) (v : Wide) (ha : Z3h a v = true) (hb : Z3h b v = true) : False := by
 unfold Z2a at h
 cases hz : Z36 (Z1n (Z5h a.Value b.Value) (Z1n a.Mask b.Mask))
 ·obtain ⟨k, hk, h1⟩ := Zxf hz
  have h2 := (Z47 a v).1 ha k hk
  have h3 := (Z47 b v).1 hb k hk
  simp only [Z3d, Zde] at h1
  revert h1 h2 h3
  cases wt a.Mask k <;> cases wt b.Mask k <;> cases wt a.Value k <;> cases wt b.Value k <;> cases wt v k <;> simp
 ·rw [hz] at h; cases h
theorem Yi3 {a b c : Cube} (h : Z43 a b = some c) (v : Header) : Z0v c v = true ↔ Z0v a v = true ∧ Z0v b v = true := by
 unfold Z43 at h
 rw [Z4d, Z4d, Z4d]
 constructor
 ·intro h1
  exact ⟨fun f hf => ((Zrd (Zha h f hf) _).1 (h1 f hf)).1, fun f hf => ((Zrd (Zha h f hf) _).1 (h1 f hf)).2⟩
 ·rintro ⟨ha, hb⟩ f hf
  exact (Zrd (Zha h f hf) _).2 ⟨ha f hf, hb f hf⟩
theorem Ymf {a b : Cube} (h : Z43 a b = none) (v : Header) (ha : Z0v a v = true) (hb : Z0v b v = true) : False := by
 unfold Z43 at h
 obtain ⟨f, hf, h1⟩ := Y1z h
 exact Y9m h1 (ve v f) ((Z4d _ _).1 ha f hf) ((Z4d _ _).1 hb f hf)
theorem Zv8 {a b : Tern} (h : (Z2a a b).isSome = true) (k : Nat) (hk : k < 128) : ((wt a.Value k != wt b.Value k) && (wt a.Mask k && wt b.Mask k)) = false := by
 unfold Z2a at h
 cases hz : Z36 (Z1n (Z5h a.Value b.Value) (Z1n a.Mask b.Mask))
 ·rw [hz] at h; cases h
 ·rw [Za1] at hz
  have := hz k hk
  simpa only [Z3d, Zde] using this
end Go.Proofs.YtknpgojdkobgjaaGreat.W
namespace Go.Proofs.YtknpgojdkobgjaaGreat.W
open Go Go.Wb
def Zd6 (x a : Tern) : List Int := Z5x (Z31 x.Mask a.Mask) 128
theorem Ya6 (a x : Tern) : Zi9 a x = some (Zd6 x a) := by
 unfold Zi9 Zd6
 rw [Zm2, Option.bind_some]
 have := Y8t (Z31 x.Mask a.Mask) 128 Z0l [] (by omega) (by unfold Z0l; omega) (by rw [Zuv]; simp [Z7k])
 simpa using this
def Zbm (c : Cube) (f : Nat) (t : Tern) : Cube := Vector.ofFn fun k => if f = k.1 then t else ve c k.1
theorem Y1l (c : Cube) (f : Nat) (hf : f < 24) (t : Tern) : Vector.set c f t hf = Zbm c f t := Ygq c f hf t
theorem Zo1 (c : Cube) (f : Nat) (t : Tern) (g : Nat) (hg : g < 24) : ve (Zbm c f t) g = if f = g then t else ve c g := Z7h (fun k => if f = k then t else ve c k) g hg
def Z5w (xv : Wide) (f : Nat) : List Int → Cube → List Cube × Cube
 | [], left => ([], left)
 | i :: l, left => (Zbm left f (Z6m (ve left f) i.toNat (!wt xv i.toNat)) :: (Z5w xv f l (Zbm left f (Z6m (ve left f) i.toNat (wt xv i.toNat)))).1, (Z5w xv f l (Zbm left f (Z6m (ve left f) i.toNat (wt xv i.toNat)))).2)
def Zdb (x : Cube) : Nat → Nat → Cube → List Cube
 | 0, f, left => []
 | m + 1, f, left => (Z5w (ve x f).Value f (Zd6 (ve x f) (ve left f)) left).1 ++ Zdb x m (f + 1) (Z5w (ve x f).Value f (Zd6 (ve x f) (ve left f)) left).2
def Z41 (a x : Cube) : Bool := (Z43 a x).isSome
def Z9y (a x : Cube) : List Cube := bif Z41 a x then Zdb x 24 0 (Z12 a) else [Z12 a]
def Ztt (l : List Int) : Prop := ∀ i ∈ l, ∃ k : Nat, i = (k : Int) ∧ k < 128
theorem Y2l (x a : Tern) : Ztt (Zd6 x a) := fun i hi => by
 obtain ⟨k, h1, h2, _⟩ := (Zma _ _ _).1 hi
 exact ⟨k, h1, h2⟩
theorem Zvr (sg : Type) (y : sg → Cube → Option (Lp sg)) (go : Nat → Cube → Lp sg → Option (Lp sg)) (f : Nat) (hf : f < 24) (x : Tern) : ∀ (l : List Int) (k : Nat) (left : Cube) (s : sg), Ztt l →
  Zef sg go f x y l k left (.go s) = (yf y (Z5w x.Value f l left).1 s).bind fun r => match r with
   | .go s' => go (f + 1) (Z5w x.Value f l left).2 (.go s')
   | .out c s' => some (.out c s')
 | [], k, left, s, _ => rfl
 | i :: l, k, left, s, hl => by
  obtain ⟨b, rfl, hb⟩ := hl i (by simp)
  have ih := fun left s => Zvr sg y go f hf x l (k + 1) left s fun j hj => hl j (by simp [hj])
  rw [Zef, Zyv _ b hb, Option.bind_some, Z2b hf, Option.bind_some, Z2r, Y52 _ b hb, Option.bind_some, Option.bind_some, Y1l]
  rw [Z5w, Int.toNat_natCast, yf]
  show (y s _).bind _ = _
  cases y s (Zbm left f (Z6m (ve left f) b (!wt x.Value b))) with
  | none => rfl
  | some r =>
   cases r with
   | out c q => rfl
   | go q =>
    simp only [Option.bind_some, Lp.isGo, Bool.not_true, cond_false]
    rw [Z2r, Y52 _ b hb, Option.bind_some, Y1l, ih]
theorem Y08 (sg : Type) (y : sg → Cube → Option (Lp sg)) (x : Cube) : ∀ (l : List Tern) (f : Nat) (left : Cube) (s : sg), f + l.length = 24 → l = (Vector.toList x).drop f →
  Z8w sg y l f left (.go s) = yf y (Zdb x l.length f left) s
 | [], f, left, s, h1, h2 => rfl
 | t :: l, f, left, s, h1, h2 => by
  simp only [List.length_cons] at h1
  have hi : f < (Vector.toList x).length := by simp; omega
  rw [List.drop_eq_getElem_cons hi] at h2
  obtain ⟨rfl, h3⟩ := List.cons.inj h2
  have hx : (Vector.toList x)[f] = ve x f := by rw [Vector.getElem_toList, Z6c _ _ (by omega)]
  have ih := fun left s => Y08 sg y x l (f + 1) left s (by omega) h3
  rw [Z8w, Z2b (by omega), Option.bind_some, Z2r, hx, Ya6, Option.bind_some, List.length_cons, Zdb, Zso]
  cases hb : Zd6 (ve x f) (ve left f) with
  | nil =>
   rw [decide_eq_true (by simp), cond_true, ih]
   rfl
  | cons i bl =>
   rw [decide_eq_false (by simp; omega), cond_false, Zvr sg y _ f (by omega) (ve x f) _ 0 left s (by rw [← hb]; exact Y2l _ _)]
   cases yf y (Z5w (ve x f).Value f (i :: bl) left).1 s with
   | none => rfl
   | some r =>
    cases r with
    | out c q => rfl
    | go q => exact ih _ q
theorem Ygn (sg : Type) (y : sg → Cube → Option (Lp sg)) (a x : Cube) (s : sg) : Zb7 sg y (.go s) a x = yf y (Z9y a x) s := by
 unfold Zb7 Z9y Z41
 rw [Zwy, Option.bind_some, Zs6, Option.bind_some]
 cases Z43 a x with
 | none =>
  show (bif (!false) then _ else _) = yf y [Z12 a] s
  rw [Bool.not_false, cond_true, yf]
  show (y s (Z12 a)).bind _ = _
  cases y s (Z12 a) with
  | none => rfl
  | some r => cases r <;> rfl
 | some z =>
  show (bif (!true) then _ else _) = yf y (Zdb x 24 0 (Z12 a)) s
  rw [Bool.not_true, cond_false]
  have := Y08 sg y x (Vector.toList x) 0 (Z12 a) s (by simp) rfl
  rw [this]; simp
theorem Y48 (xv : Wide) (f : Nat) : ∀ (l : List Int) (left : Cube) (g : Nat), g < 24 → g ≠ f → ve (Z5w xv f l left).2 g = ve left g
 | [], left, g, _, _ => rfl
 | i :: l, left, g, hg, hne => by
  rw [Z5w]
  show ve (Z5w xv f l _).2 g = _
  rw [Y48 xv f l _ g hg hne, Zo1 _ _ _ _ hg, if_neg (fun e => hne e.symm)]
theorem Y89 (a x : Cube) : Z41 a x = (List.range' 0 24).all fun f => (Z2a (ve a f) (ve x f)).isSome := by
 unfold Z41 Z43 Z6a
 rw [List.range_eq_range']
 cases (List.range' 0 24).all fun f => (Z2a (ve a f) (ve x f)).isSome <;> rfl
end Go.Proofs.YtknpgojdkobgjaaGreat.W
namespace Go.Proofs.YtknpgojdkobgjaaGreat.W
open Go Go.Wb
def Zdi (a b : Tern) : Bool := Z36 (Z31 b.Mask a.Mask) && Z3h b a.Value
theorem Yb9 (a b : Tern) : Zi5 a b = some (Zdi a b) := by
 unfold Zi5 Zdi
 rw [Zm2, Option.bind_some, Y3b, Option.bind_some, Y3s]
 cases Z36 (Z31 b.Mask a.Mask) <;> rfl
def Z5u (a b : Cube) : Bool := (List.range' 0 24).all fun f => Zdi (ve a f) (ve b f)
theorem Zz5 (a b : Cube) : ∀ (l : List Tern) (i : Nat), i + l.length = 24 → l = (Vector.toList a).drop i → Za9 b l i = some ((List.range' i l.length).all fun f => Zdi (ve a f) (ve b f))
 | [], i, h1, h2 => by rw [Za9]; rfl
 | x :: l, i, h1, h2 => by
  simp only [List.length_cons] at h1
  have hi : i < (Vector.toList a).length := by simp; omega
  rw [List.drop_eq_getElem_cons hi] at h2
  obtain ⟨rfl, h3⟩ := List.cons.inj h2
  have hx : (Vector.toList a)[i] = ve a i := by rw [Vector.getElem_toList, Z6c _ _ (by omega)]
  rw [Za9, Z2b (by omega), Option.bind_some, Z2r, Yb9, Option.bind_some, Zz5 a b l (i + 1) (by omega) h3, List.length_cons, List.range'_succ, List.all_cons, hx]
  cases Zdi (ve a i) (ve b i) <;> rfl
theorem Ykb (a b : Cube) : Zi3 a b = some (Z5u a b) := by
 unfold Zi3 Z5u
 have := Zz5 a b (Vector.toList a) 0 (by simp) rfl
 rw [this]; simp
theorem Yhe {a b : Cube} (h : Z5u a b = true) : Z41 a b = true := by
 rw [Y89]
 unfold Z5u at h
 rw [List.all_eq_true] at h ⊢
 intro f hf
 have h1 := h f hf
 unfold Zdi at h1
 rw [Bool.and_eq_true] at h1
 have h2 := (Z47 _ _).1 h1.2
 unfold Z2a
 have : Z36 (Z1n (Z5h (ve a f).Value (ve b f).Value) (Z1n (ve a f).Mask (ve b f).Mask)) = true := (Za1 _).2 fun k hk => by
  have h3 := h2 k hk
  simp only [Z3d, Zde]
  revert h3
  cases wt (ve b f).Mask k <;> cases wt (ve a f).Mask k <;> cases wt (ve a f).Value k <;> cases wt (ve b f).Value k <;> simp
 rw [this]; rfl
def Zqm (c : Cube) : Header := Vector.ofFn fun f => (Z0w (ve c f.1)).Value
theorem Zzn (c : Cube) (b : Header) : ∀ (l : List Tern) (i : Nat), i + l.length = 24 → l = (Vector.toList c).drop i → Z8v l i (Z2x (fun f => (Z0w (ve c f)).Value) b i) = some (Zqm c)
 | [], i, h1, h2 => by
  have : i = 24 := by simpa using h1
  subst this
  rw [Z8v, Z7o]; rfl
 | x :: l, i, h1, h2 => by
  simp only [List.length_cons] at h1
  have hi : i < (Vector.toList c).length := by simp; omega
  rw [List.drop_eq_getElem_cons hi] at h2
  obtain ⟨rfl, h3⟩ := List.cons.inj h2
  have hx : (Vector.toList c)[i] = ve c i := by rw [Vector.getElem_toList, Z6c _ _ (by omega)]
  rw [Z8v, Zne, Option.bind_some, Z2b (by omega), Option.bind_some, hx]
  show Z8v l (i + 1) (Vector.set (Z2x (fun f => (Z0w (ve c f)).Value) b i) i ((Z0w (ve c i)).Value) _) = _
  rw [Z8a (fun f => (Z0w (ve c f)).Value) b i (by omega), Zzn c b l (i + 1) (by omega) h3]
theorem Yjl (c : Cube) : Zid c = some (Zqm c) := by
 unfold Zid
 have := Zzn c (Vector.replicate 24 Z09) (Vector.toList c) 0 (by simp) rfl
 rw [Z8i] at this
 exact this
def Z4b : Header := Vector.replicate 24 Z09
def Z5d (c : Cube) : List Cube → Nat → Option Nat
 | [], i => none
 | x :: l, i => bif Z41 c x then some i else Z5d c l (i + 1)
def Z3w (R : Cube → Int → Header × Bool × Int) : List Cube → Int → Header × Bool × Int
 | [], n => (Z4b, false, n)
 | p :: ps, n => bif (R p n).2.1 || decide ((R p n).2.2 < 0) then R p n else Z3w R ps (R p n).2.2
def Z4h (free : Bool) : Nat → Cube → List Cube → Int → Header × Bool × Int
 | 0, _, _, _ => (Z4b, false, -1)
 | d + 1, c, l, n => bif !free && decide (n < 1) then (Z4b, false, -1) else
   bif l.any (Z5u c) then (Z4b, false, bif free then n else n - 1) else
    match Z5d c l 0 with
    | none => (Zqm c, true, bif free then n else n - 1)
    | some i => match l[i]? with
     | none => (Z4b, false, -1)
     | some x => Z3w (fun p m => Z4h free d p (l.drop (i + 1)) m) (Z9y c x) (bif free then n else n - 1)
theorem Zrr (c : Cube) : ∀ (l : List Cube) (k : Nat), match Z5d c l k with
  | none => ∀ x ∈ l, Z41 c x = false
  | some i => ∃ j, i = k + j ∧ ∃ h : j < l.length, Z41 c l[j] = true ∧ ∀ x ∈ l.take j, Z41 c x = false
 | [], k => by simp [Z5d]
 | x :: l, k => by
  rw [Z5d]
  cases hm : Z41 c x
  ·rw [cond_false]
   have ih := Zrr c l (k + 1)
   cases hf : Z5d c l (k + 1) with
   | none =>
    rw [hf] at ih
    intro y hy
    rcases List.mem_cons.1 hy with rfl | hy
    ·exact hm
    ·exact ih y hy
   | some i =>
    rw [hf] at ih
    obtain ⟨j, h1, h2, h3, h4⟩ := ih
    refine ⟨j + 1, by omega, by simpa using h2, by simpa using h3, fun y hy => ?_⟩
    rw [List.take_succ_cons] at hy
    rcases List.mem_cons.1 hy with rfl | hy
    ·exact hm
    ·exact h4 y hy
  ·rw [cond_true]
   exact ⟨0, by omega, by simp, by simpa using hm, by simp⟩
theorem Zq9 {R : Cube → Int → Header × Bool × Int} (hR : ∀ p m, (R p m).2.1 = false → (R p m).1 = Z4b) : ∀ (ps : List Cube) (n : Int), (Z3w R ps n).2.1 = false → (Z3w R ps n).1 = Z4b
 | [], n, _ => rfl
 | p :: ps, n, h => by
  rw [Z3w] at h ⊢
  cases hc : (R p n).2.1 || decide ((R p n).2.2 < 0)
  ·rw [hc, cond_false] at h
   rw [cond_false]
   exact Zq9 hR ps _ h
  ·rw [hc, cond_true] at h
   rw [cond_true]
   exact hR _ _ h
theorem Zqh (free : Bool) : ∀ (d : Nat) (c : Cube) (l : List Cube) (n : Int), (Z4h free d c l n).2.1 = false → (Z4h free d c l n).1 = Z4b
 | 0, c, l, n, _ => rfl
 | d + 1, c, l, n, h => by
  rw [Z4h] at h ⊢
  cases h1 : !free && decide (n < 1)
  ·rw [h1, cond_false] at h
   rw [cond_false]
   cases h2 : l.any (Z5u c)
   ·rw [h2, cond_false] at h
    rw [cond_false]
    cases h3 : Z5d c l 0 with
    | none => rw [h3] at h; cases h
    | some i =>
     rw [h3] at h
     simp only at h ⊢
     cases h4 : l[i]? with
     | none => rfl
     | some x =>
      rw [h4] at h
      simp only at h ⊢
      exact Zq9 (fun p m => Zqh free d p _ m) _ _ h
   ·rfl
  ·rfl
end Go.Proofs.YtknpgojdkobgjaaGreat.W
namespace Go.Proofs.YtknpgojdkobgjaaGreat.W
open Go Go.Wb
theorem Zup {α : Type} (z : α) (o : Option α) : (Z1l z o).2 = o.isSome := by cases o <;> rfl
def Zbn (c : Cube) (l : List Cube) (i : Nat) (first : Int) : Int := bif decide (first < 0) then (match Z5d c l i with | none => first | some k => (k : Int)) else first
theorem Zoa (c : Cube) : ∀ (l : List Cube) (i : Nat) (first : Int), ∃ j : Int, Z83 c l i first = some (bif l.any (Z5u c) then (true, j) else (false, Zbn c l i first))
 | [], i, first => by
  refine ⟨0, ?_⟩
  rw [Z83]
  unfold Zbn Z5d
  cases decide (first < 0) <;> rfl
 | x :: l, i, first => by
  rw [Z83, Zs6, Option.bind_some, Zup, List.any_cons]
  show ∃ j, (bif !(Z41 c x) then _ else _) = _
  cases hm : Z41 c x
  ·have hw : Z5u c x = false := by
    cases hw : Z5u c x
    ·rfl
    ·rw [Yhe hw] at hm; cases hm
   obtain ⟨j, hj⟩ := Zoa c l (i + 1) first
   refine ⟨j, ?_⟩
   rw [Bool.not_false, cond_true, hw, Bool.false_or, hj]
   unfold Zbn
   rw [Z5d, hm, cond_false]
  ·rw [Bool.not_true, cond_false, Ykb, Option.bind_some]
   cases hw : Z5u c x
   ·rw [cond_false, Bool.false_or]
    have hf : ∀ f : Int, Zbn c (x :: l) i f = bif decide (f < 0) then (i : Int) else f := fun f => by
     unfold Zbn
     rw [Z5d, hm, cond_true]
    by_cases h : first < 0
    ·obtain ⟨j, hj⟩ := Zoa c l (i + 1) (i : Int)
     refine ⟨j, ?_⟩
     rw [decide_eq_true h, cond_true, hj, hf, decide_eq_true h, cond_true]
     unfold Zbn
     rw [decide_eq_false (by omega), cond_false]
    ·obtain ⟨j, hj⟩ := Zoa c l (i + 1) first
     refine ⟨j, ?_⟩
     rw [decide_eq_false h, cond_false, hj, hf, decide_eq_false h, cond_false]
     unfold Zbn
     rw [decide_eq_false h, cond_false]
   ·exact ⟨_, rfl⟩
theorem Y2h {α : Type} (l : List α) (i : Nat) (h : i ≤ l.length) : Z6r l (i : Int) = some (l.drop i) := by
 unfold Z6r
 rw [decide_eq_true (by omega), Int.toNat_natCast, Nat.ble_eq_true_of_le h]; rfl
def cl (n : Int) (free : Bool) : cover_look := ⟨⟨n, free⟩⟩
def Zex (free : Bool) (N : Int) (f : Option (Header × Bool × Bool × cover_look)) (n : Int) (r : Header × Bool × Int) : Prop :=
 ∃ s', f = some (r.1, r.2.1, decide (0 ≤ r.2.2), s') ∧ (0 ≤ r.2.2 → s' = cl r.2.2 free ∧ r.2.2 ≤ N)
theorem Zxc (free : Bool) (N : Int) (l : List Cube) (i : Nat) (hi : i < l.length) (hN : N < 9223372036854775808) (x10 : Bool × Int) (hx : x10.2 = (i : Int)) (hl : l.length < 4294967296) (R : cover_look → Cube → List Cube → Option (Header × Bool × Bool × cover_look)) (R' : Cube → Int → Header × Bool × Int)
  (hR : ∀ p n, 0 ≤ n → n ≤ N → Zex free N (R (cl n free) p (l.drop (i + 1))) n (R' p n)) (hn : ∀ p m, (R' p m).2.1 = false → (R' p m).1 = Z4b) : ∀ (ps : List Cube) (n : Int), 0 ≤ n → n ≤ N →
  ∃ s', yf (fun (s : cover_look × Header × Bool × Bool) x => Z8l l x10 R s.1 s.2.1 s.2.2.1 s.2.2.2 x) ps (cl n free, Z4b, false, true) =
   some (bif (Z3w R' ps n).2.1 || decide ((Z3w R' ps n).2.2 < 0) then .out (.exit 1) (s', (Z3w R' ps n).1, (Z3w R' ps n).2.1, decide (0 ≤ (Z3w R' ps n).2.2)) else .go (s', Z4b, false, true)) ∧ (0 ≤ (Z3w R' ps n).2.2 → s' = cl (Z3w R' ps n).2.2 free ∧ (Z3w R' ps n).2.2 ≤ N)
 | [], n, h0, h1 => by
  refine ⟨cl n free, ?_, fun _ => ⟨rfl, h1⟩⟩
  rw [yf, Z3w, decide_eq_false (by show ¬ (n < 0); omega)]; rfl
 | p :: ps, n, h0, h1 => by
  obtain ⟨s', h2, h3⟩ := hR p n h0 h1
  have hb : Z8l l x10 R (cl n free) Z4b false true p = some (bif (R' p n).2.1 || decide ((R' p n).2.2 < 0) then .out (.exit 1) (s', (R' p n).1, (R' p n).2.1, decide (0 ≤ (R' p n).2.2)) else .go (s', (R' p n).1, (R' p n).2.1, decide (0 ≤ (R' p n).2.2))) := by
   unfold Z8l
   rw [hx, inc i (by omega), Y2h _ _ (by omega), Option.bind_some, h2, Option.bind_some]
   have : (!decide (0 ≤ (R' p n).2.2)) = decide ((R' p n).2.2 < 0) := by
    by_cases h : (R' p n).2.2 < 0
    ·rw [decide_eq_true h, decide_eq_false (by omega)]; rfl
    ·rw [decide_eq_false h, decide_eq_true (by omega)]; rfl
   show (bif ((R' p n).2.1 || !decide (0 ≤ (R' p n).2.2)) then _ else _) = _
   rw [this]
   cases (R' p n).2.1 || decide ((R' p n).2.2 < 0) <;> rfl
  rw [yf]
  show ∃ s'', (Z8l l x10 R (cl n free) Z4b false true p).bind _ = _ ∧ _
  rw [hb, Option.bind_some, Z3w]
  cases hc : (R' p n).2.1 || decide ((R' p n).2.2 < 0)
  ·rw [Bool.or_eq_false_iff, decide_eq_false_iff_not] at hc
   have h4 : 0 ≤ (R' p n).2.2 := by omega
   obtain ⟨h5, h6⟩ := h3 h4
   obtain ⟨s'', h7, h8⟩ := Zxc free N l i hi hN x10 hx hl R R' hR hn ps (R' p n).2.2 h4 h6
   refine ⟨s'', ?_, h8⟩
   rw [cond_false, cond_false, h5, hn p n hc.1, hc.1, decide_eq_true h4]
   exact h7
  ·refine ⟨s', ?_, h3⟩
   rw [cond_true, cond_true, hc]; rfl
theorem Yhv (free : Bool) (N : Int) (hN : N < 9223372036854775808) (d fuel : Nat) (c : Cube) (l : List Cube) (hl : l.length < 4294967296) (n : Int) (h0 : 0 ≤ n) (h1 : n ≤ N)
  (ih : ∀ i, i < l.length → ∀ p n, 0 ≤ n → n ≤ N → Zex free N (Z7a fuel (cl n free) p (l.drop (i + 1))) n (Z4h free d p (l.drop (i + 1)) n)) :
  Zex free N (Z7a (fuel + 1) (cl n free) c l) n (Z4h free (d + 1) c l n) := by
 show Zex free N (Zly (Z7a fuel) (cl n free) c l) n _
 unfold Zly
 have hpay : Zky (cl n free).purse = some (!(!free && decide (n < 1)), ⟨bif free then n else n - 1, free⟩) := by
  unfold Zky
  cases free
  ·have e : IntKind.i64.wrap (n - 1) = n - 1 := Z2i (by omega) (by omega)
   show some (decide (IntKind.i64.wrap (n - 1) ≥ 0), (⟨IntKind.i64.wrap (n - 1), false⟩ : cover_purse)) = _
   rw [e]
   by_cases h : n < 1
   ·rw [decide_eq_true h, decide_eq_false (by omega)]; rfl
   ·rw [decide_eq_false h, decide_eq_true (by omega)]; rfl
  ·rfl
 rw [hpay, Option.bind_some, Z4h]
 cases hp : !free && decide (n < 1)
 ·have hn1 : 0 ≤ (bif free then n else n - 1) ∧ (bif free then n else n - 1) ≤ N := by
   cases free
   ·simp only [Bool.not_false, Bool.true_and, decide_eq_false_iff_not] at hp
    simp only [cond_false]; omega
   ·simp only [cond_true]; omega
  generalize (bif free then n else n - 1) = n1 at hn1 ⊢
  simp only [Bool.not_false, Bool.not_true, cond_false]
  obtain ⟨j, hj⟩ := Zoa c l 0 (-1)
  unfold Zmu
  rw [hj, Option.bind_some]
  cases hw : l.any (Z5u c)
  ·simp only [cond_false]
   have hfi : Zbn c l 0 (-1) = match Z5d c l 0 with | none => -1 | some k => (k : Int) := rfl
   rw [hfi]
   have hsp := Zrr c l 0
   cases hf : Z5d c l 0 with
   | none =>
    simp only
    rw [show decide ((-1 : Int) < 0) = true from rfl, cond_true, Yjl, Option.bind_some]
    exact ⟨cl n1 free, by rw [decide_eq_true hn1.1]; rfl, fun _ => ⟨rfl, hn1.2⟩⟩
   | some i =>
    rw [hf] at hsp
    obtain ⟨j', hj1, hj2, hj3, hj4⟩ := hsp
    have hij : i = j' := by omega
    subst hij
    simp only
    rw [decide_eq_false (by omega), cond_false, Z1w hj2, Option.bind_some, List.getElem?_eq_getElem hj2]
    unfold Zmp
    rw [Option.bind_some]
    obtain ⟨s', h2, h3⟩ := Zxc free N l i hj2 hN (false, (i : Int)) rfl hl (Z7a fuel) (fun p m => Z4h free d p (l.drop (i + 1)) m) (fun p n a b => ih i hj2 p n a b) (fun p m h => Zqh free d p _ m h) (Z9y c l[i]) n1 hn1.1 hn1.2
    show Zex free N ((Zb7 (cover_look × Header × Bool × Bool) (fun s x => Z8l l (false, (i : Int)) (Z7a fuel) s.1 s.2.1 s.2.2.1 s.2.2.2 x) (.go (cl n1 free, Z4b, false, true)) c l[i]).bind _) n (Z3w (fun p m => Z4h free d p (l.drop (i + 1)) m) (Z9y c l[i]) n1)
    rw [Ygn, h2, Option.bind_some]
    have hnn := Zq9 (R := fun p m => Z4h free d p (l.drop (i + 1)) m) (fun p m h => Zqh free d p _ m h) (Z9y c l[i]) n1
    generalize Z3w (fun p m => Z4h free d p (l.drop (i + 1)) m) (Z9y c l[i]) n1 = r at *
    cases hc : r.2.1 || decide (r.2.2 < 0)
    ·rw [Bool.or_eq_false_iff, decide_eq_false_iff_not] at hc
     refine ⟨s', ?_, h3⟩
     rw [hnn hc.1, hc.1, decide_eq_true (show 0 ≤ r.2.2 by omega)]; rfl
    ·exact ⟨s', rfl, h3⟩
  ·refine ⟨cl n1 free, ?_, fun _ => ⟨rfl, hn1.2⟩⟩
   show some (Z4b, false, true, cl n1 free) = some (Z4b, false, decide (0 ≤ n1), cl n1 free)
   rw [decide_eq_true hn1.1]
 ·exact ⟨_, rfl, fun h => by simp at h⟩
theorem Y1u (free : Bool) (N : Int) (hN : N < 9223372036854775808) : ∀ (d fuel : Nat) (c : Cube) (l : List Cube) (n : Int), l.length < d → d ≤ fuel → l.length < 4294967296 → 0 ≤ n → n ≤ N →
  Zex free N (Z7a fuel (cl n free) c l) n (Z4h free d c l n)
 | 0, fuel, c, l, n, h, _, _, _, _ => by omega
 | d + 1, 0, c, l, n, _, h, _, _, _ => by omega
 | d + 1, fuel + 1, c, l, n, h1, h2, h3, h4, h5 =>
  Yhv free N hN d fuel c l h3 n h4 h5 fun i hi p m h6 h7 => Y1u free N hN d fuel p (l.drop (i + 1)) m (by rw [List.length_drop]; omega) (by omega) (by rw [List.length_drop]; omega) h6 h7
end Go.Proofs.YtknpgojdkobgjaaGreat.W
namespace Go.Proofs.YtknpgojdkobgjaaGreat.W
open Go Go.Wb
def Zi8 (l : List Rule) (h : Header) : Int × Bool := (Z22 (Z0a (Z3s h) l) 0, decide (Z0a (Z3s h) l ≥ 0))
theorem Y0r (f : Flat) (h : Header) : Zdx f h = some (Zi8 f.Rules h) := by
 unfold Zdx Zp5
 rw [Option.bind_some, Y8s f.Rules (fun x => Zdr x h) (Z3s h) (fun r _ => by unfold Zdr; rw [Y2r]; rfl), Option.bind_some]; rfl
theorem Y62 {x : Int} (h : x < 0) : Z22 x 0 = 0 := by unfold Z22; rw [decide_eq_true (show (0 : Int) > x by omega)]; rfl
theorem Y7t (k : Nat) : Z22 (k : Int) 0 = (k : Int) := by unfold Z22; rw [decide_eq_false (show ¬ ((0 : Int) > (k : Int)) by omega)]; rfl
theorem Yhi (l : List Rule) (h : Header) : (Zi8 l h = (0, false) ∧ l.find? (Z3s h) = none) ∨ ∃ n : Nat, ∃ hn : n < l.length, Zi8 l h = ((n : Int), true) ∧ l.find? (Z3s h) = some l[n] := by
 unfold Zi8
 rcases Zkg (Z3s h) l with ⟨h1, h2⟩ | ⟨n, h1, h2, h3, h4⟩
 ·left
  refine ⟨?_, h2⟩
  rw [Y62 h1, decide_eq_false (by omega)]
 ·right
  refine ⟨n, h2, ?_, h3⟩
  rw [h1, Y7t, decide_eq_true (show (n : Int) ≥ 0 by omega)]
end Go.Proofs.YtknpgojdkobgjaaGreat.W
namespace Go.Proofs.YtknpgojdkobgjaaGreat.W
open Go Go.Wb
theorem Y5d {c : Cube} {f : Nat} (hf : f < 24) {t : Tern} {h : Header} : Z0v (Zbm c f t) h = true ↔ (∀ g, g < 24 → g ≠ f → Z3h (ve c g) (ve h g) = true) ∧ Z3h t (ve h f) = true := by
 rw [Z4d]
 constructor
 ·intro hh
  refine ⟨fun g hg hne => ?_, ?_⟩
  ·have := hh g hg
   rwa [Zo1 _ _ _ _ hg, if_neg (fun e => hne e.symm)] at this
  ·have := hh f hf
   rwa [Zo1 _ _ _ _ hf, if_pos rfl] at this
 ·rintro ⟨h1, h2⟩ g hg
  rw [Zo1 _ _ _ _ hg]
  by_cases e : f = g
  ·subst e; rw [if_pos rfl]; exact h2
  ·rw [if_neg e]; exact h1 g hg fun e' => e e'.symm
def Zeb (c : Cube) (l : List Cube) (most : Int) : Header × Bool × Int := Z4h (decide (most ≥ 1099511627776)) (l.length + 1) c l (Z22 most 0)
def Z4v (c : Cube) (l : List Cube) (most : Int) : Header × Bool × Int := bif decide ((Zeb c l most).2.2 < 0) then (Z4b, false, 5) else ((Zeb c l most).1, (Zeb c l most).2.1, 0)
theorem Y6q (m : Int) : 0 ≤ Z22 m 0 ∧ Z22 m 0 ≤ max m 0 := by
 unfold Z22
 by_cases h : (0 : Int) > m
 ·rw [decide_eq_true h, cond_true]; omega
 ·rw [decide_eq_false h, cond_false]; omega
theorem Yip (c : Cube) (l : List Cube) (most : Int) (hm : most ≤ 9223372036854775807) (hl : l.length ≤ 1000000) : Zfz c l most = some (Z4v c l most) := by
 have hi := Y6q most
 unfold Zfz Zre Z4v
 obtain ⟨s', h1, h2⟩ := Y1u (decide (most ≥ 1099511627776)) (Z22 most 0) (by omega) (l.length + 1) Z0l c l (Z22 most 0) (by omega) (by unfold Z0l; omega) (by omega) hi.1 (by omega)
 show (Z7a Z0l (cl (Z22 most 0) (decide (most ≥ 1099511627776))) c l).bind _ = _
 rw [h1, Option.bind_some]
 show (bif !(decide (0 ≤ (Zeb c l most).2.2)) then _ else _) = _
 by_cases h : (Zeb c l most).2.2 < 0
 ·rw [decide_eq_true h, decide_eq_false (by omega)]; rfl
 ·rw [decide_eq_false h, decide_eq_true (by omega)]; rfl
theorem Zx8 (l : List Rule) (hl : l.length ≤ 1000000) : ∀ (m i : Nat) (acc : List Cube), i ≤ l.length → l.length < i + m → acc.length ≤ i → Zge l m acc (i : Int) = some (acc ++ (l.drop i).map (·.Cube))
 | 0, i, acc, h1, h2, _ => by omega
 | m + 1, i, acc, h1, h2, h3 => by
  have hlim : lim = 4294967296 := rfl
  rw [Zge]
  by_cases hi : i < l.length
  ·rw [decide_eq_true (by omega), cond_true, Z1w hi, Option.bind_some, Z17 (by simp; omega), Option.bind_some, inc i (by omega), Zx8 l hl m (i + 1) _ (by omega) (by omega) (by simp; omega), List.drop_eq_getElem_cons hi, List.map_cons, List.append_assoc]
   rfl
  ·rw [decide_eq_false (by omega), cond_false, List.drop_of_length_le (by omega)]; simp
theorem Yce (l : List Rule) (hl : l.length ≤ 1000000) : Zfu l = some (l.map (·.Cube)) := by
 unfold Zfu
 have := Zx8 l hl ((((l.length : Int) : Int) - 0).toNat + 1) 0 [] (by omega) (by omega) (by simp)
 rw [show ((0 : Nat) : Int) = 0 from rfl, List.drop_zero, List.nil_append] at this
 exact this
theorem Yd0 {α : Type} (l : List α) (i : Nat) (h : i ≤ l.length) : Z4y l (i : Int) = some (l.take i) := by
 unfold Z4y
 simp [Nat.ble_eq_true_of_le h]
end Go.Proofs.YtknpgojdkobgjaaGreat.W
namespace Go.Proofs.YtknpgojdkobgjaaGreat.W
open Go Go.Wb
section ins
def Zkk (lt : Int → Int → Bool) (cmp : Int → Int → Option Int) (A : List Int) : Prop := ∀ x ∈ A, ∀ y ∈ A, ∃ c, cmp x y = some c ∧ decide (c < 0) = lt x y
variable {lt : Int → Int → Bool} {cmp : Int → Int → Option Int}
theorem Zxy {A : List Int} (hc : Zkk lt cmp A) (go : List Int → Int → Option (List Int)) (i : Int) (P : List Int) (x : Int) (hx : x ∈ A) : ∀ (R S : List Int) (m : Nat), (∀ y ∈ R, y ∈ A) → R.length < m → (P ++ R.reverse ++ x :: S).length ≤ big →
  Zdq (P.length : Int) cmp go i m (P ++ R.reverse ++ x :: S) ((P.length + R.length : Nat) : Int) = go (P ++ (Z0k lt x R).reverse ++ S) (IntKind.i64.wrap (i + 1))
 | [], S, m, _, h, _ => by
  obtain ⟨m, rfl⟩ : ∃ k, m = k + 1 := ⟨m - 1, by simp at h; omega⟩
  rw [Zdq, decide_eq_false (by simp)]
  simp [opt, Z0k]
 | y :: R, S, m, hR, h, hl => by
  have hbig : big = 1000000 := rfl
  simp only [List.length_cons, List.length_append, List.length_reverse] at h hl
  obtain ⟨m, rfl⟩ : ∃ k, m = k + 1 := ⟨m - 1, by omega⟩
  have e0 : P ++ (y :: R).reverse ++ x :: S = (P ++ R.reverse) ++ y :: (x :: S) := by simp
  have ej : IntKind.i64.wrap (((P.length + (y :: R).length : Nat) : Int) - 1) = ((P.length + R.length : Nat) : Int) := by rw [wr (by simp only [List.length_cons]; omega) (by simp only [List.length_cons]; omega)]; simp only [List.length_cons]; omega
  have g1 : ∀ a b : Int, lget ((P ++ R.reverse) ++ a :: (b :: S)) ((P.length + (y :: R).length : Nat) : Int) = some b := fun a b => by
   have : (P ++ R.reverse) ++ a :: (b :: S) = (P ++ R.reverse ++ [a]) ++ b :: S := by simp
   rw [this]; exact Z5b _ _ _ _ (by simp)
  have g0 : ∀ a b : Int, lget ((P ++ R.reverse) ++ a :: (b :: S)) ((P.length + R.length : Nat) : Int) = some a := fun a b => Z5b _ _ _ _ (by simp)
  have s1 : ∀ a b c : Int, List.set ((P ++ R.reverse) ++ a :: (b :: S)) (((P.length + (y :: R).length : Nat) : Int)).toNat c = (P ++ R.reverse) ++ a :: (c :: S) := fun a b c => by
   have : (P ++ R.reverse) ++ a :: (b :: S) = (P ++ R.reverse ++ [a]) ++ b :: S := by simp
   rw [this, Int.toNat_natCast, Z80 _ _ _ _ _ (by simp)]; simp
  have s0 : ∀ a b c : Int, List.set ((P ++ R.reverse) ++ a :: (b :: S)) (((P.length + R.length : Nat) : Int)).toNat c = (P ++ R.reverse) ++ c :: (b :: S) := fun a b c => by
   rw [Int.toNat_natCast, Z80 _ _ _ _ _ (by simp)]
  obtain ⟨c, hc1, hc2⟩ := hc x hx y (hR y (by simp))
  rw [e0, Zdq, decide_eq_true (by simp only [List.length_cons]; omega), Z4a, g1, Option.bind_some, Z4a, ej, g0, Option.bind_some, Z4a, hc1, Option.bind_some, Bool.true_and, hc2, Z0k]
  cases lt x y
  ·rw [cond_false, cond_false]
   simp
  ·rw [cond_true, cond_true, Option.bind_some, Option.bind_some, Option.bind_some, s1, g0, Option.bind_some, s0, Zxy hc go i P x hx R (y :: S) m (fun z hz => hR z (by simp [hz])) (by omega) (by simp only [List.length_append, List.length_cons, List.length_reverse]; omega)]
   simp
theorem Zra (x : Int) (R : List Int) : (Z0k lt x R).length = R.length + 1 := by
 induction R with
 | nil => rfl
 | cons y R ih => rw [Z0k]; cases lt x y <;> simp [ih]
theorem Y4x {A : List Int} (hc : Zkk lt cmp A) (P Q : List Int) : ∀ (T R : List Int) (m : Nat), (∀ y ∈ T, y ∈ A) → (∀ y ∈ R, y ∈ A) → T.length < m → (P ++ R.reverse ++ T ++ Q).length ≤ big →
  Za2 ((P.length + R.length + T.length : Nat) : Int) (P.length : Int) cmp m (P ++ R.reverse ++ T ++ Q) ((P.length + R.length : Nat) : Int) = some (P ++ (T.foldl (fun R x => Z0k lt x R) R).reverse ++ Q)
 | [], R, m, _, _, h, _ => by
  obtain ⟨m, rfl⟩ : ∃ k, m = k + 1 := ⟨m - 1, by simp at h; omega⟩
  rw [Za2, decide_eq_false (by simp), cond_false]
  simp
 | x :: T, R, m, hT, hR, h, h2 => by
  have hbig : big = 1000000 := rfl
  simp only [List.length_cons, List.length_append, List.length_reverse] at h h2
  obtain ⟨m, rfl⟩ : ∃ k, m = k + 1 := ⟨m - 1, by omega⟩
  have e : IntKind.i64.wrap (((P.length + R.length : Nat) : Int) + 1) = ((P.length + (Z0k lt x R).length : Nat) : Int) := by rw [Zra, wr (by omega) (by omega)]; omega
  have hn : P.length + R.length + (x :: T).length = P.length + (Z0k lt x R).length + T.length := by rw [Zra, List.length_cons]; omega
  have e0 : P ++ R.reverse ++ x :: T ++ Q = P ++ R.reverse ++ x :: (T ++ Q) := by simp
  rw [Za2, decide_eq_true (by simp only [List.length_cons]; omega), cond_true, e0, Zxy hc _ _ P x (hT x (by simp)) R (T ++ Q) Z0l hR (by unfold Z0l; omega) (by simp only [List.length_append, List.length_cons, List.length_reverse]; omega), e, hn,
   ← List.append_assoc, Y4x hc P Q T (Z0k lt x R) m (fun y hy => hT y (by simp [hy])) (fun y hy => by rcases Ztv.1 hy with e | e; rw [e]; exact hT x (by simp); exact hR y e) (by omega) (by simp only [List.length_append, List.length_reverse, Zra]; omega), List.foldl_cons]
theorem Yea (P L Q : List Int) (hc : Zkk lt cmp L) (a b : Int) (ha : a = (P.length : Int)) (hb : b = (P.length : Int) + (L.length : Int)) (h : (P ++ L ++ Q).length ≤ big) : Zfa (P ++ L ++ Q) a b cmp = some (P ++ srt lt L ++ Q) := by
 subst ha hb
 have hbig : big = 1000000 := rfl
 have h' := h
 simp only [List.length_append] at h'
 unfold Zfa srt
 cases L with
 | nil =>
  rw [wr (by omega) (by omega)]
  obtain ⟨m, hm⟩ : ∃ m, (((P.length : Int) + (([] : List Int).length : Int)) - ((P.length : Int) + 1)).toNat + 1 = m + 1 := ⟨_, rfl⟩
  rw [hm, Za2, decide_eq_false (by simp only [List.length_nil]; omega), cond_false]
  rfl
 | cons x L =>
  simp only [List.length_cons] at h'
  have := Y4x hc P Q L [x] ((((P.length : Int) + ((x :: L).length : Int)) - ((P.length : Int) + 1)).toNat + 1) (fun y hy => by simp [hy]) (fun y hy => by simp at hy; simp [hy]) (by simp only [List.length_cons]; omega) (by simp only [List.length_append, List.length_reverse, List.length_cons, List.length_nil]; omega)
  have e1 : ((P.length + [x].length + L.length : Nat) : Int) = (P.length : Int) + ((x :: L).length : Int) := by simp; omega
  have e2 : ((P.length + [x].length : Nat) : Int) = (P.length : Int) + 1 := by simp
  have e3 : P ++ [x].reverse ++ L ++ Q = P ++ x :: L ++ Q := by simp
  rw [e1, e2, e3] at this
  rw [wr (by omega) (by omega), this]
  rfl
theorem Yel (L : List Int) (hc : Zkk lt cmp L) (h : L.length < 20) : Zlx L cmp = some (srt lt L) := by
 unfold Zlx Zmb
 obtain ⟨m, hm⟩ : ∃ m, (((L.length : Int) : Int) - 20).toNat + 2 = m + 1 := ⟨_, rfl⟩
 have := Yea [] L [] hc 0 (L.length : Int) rfl (by simp) (by simp only [List.nil_append, List.append_nil]; show _ ≤ 1000000; omega)
 simp only [List.nil_append, List.append_nil] at this
 rw [hm, Ziq, decide_eq_false (by omega), cond_false, this, Option.bind_some]
 obtain ⟨k, hk⟩ : ∃ m, (((L.length : Int) : Int) - 20).toNat + 1 = m + 1 := ⟨_, rfl⟩
 rw [hk, Zh0, decide_eq_false (by omega), cond_false]
 rfl
end ins
end Go.Proofs.YtknpgojdkobgjaaGreat.W
