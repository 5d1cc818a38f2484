/- A part of the proof. -/
import Derived.Test.YtknpgojdkobgjaaGreatG2
set_option linter.unusedVariables false
set_option linter.unusedSimpArgs false
namespace Go.Proofs.YtknpgojdkobgjaaGreat.W
open Go Go.Wb
abbrev big : Nat := 1000000
theorem lget_at {α : Type} (P Q : List α) (x : α) (i : Int) (h : i = (P.length : Int)) : lget (P ++ x :: Q) i = some x := by
  subst h
  rw [lget_nat, List.getElem?_append_right (Nat.le_refl _)]; simp
theorem set_at {α : Type} (P Q : List α) (x y : α) (i : Nat) (h : i = P.length) : List.set (P ++ x :: Q) i y = P ++ y :: Q := by
  subst h
  rw [List.set_append_right _ _ (Nat.le_refl _)]; simp
theorem wr {n : Int} (h1 : -4611686018427387904 ≤ n) (h2 : n ≤ 4611686018427387904) : IntKind.i64.wrap n = n := wrap_i64 (by omega) (by omega)
theorem halfN (n : Nat) (h : n ≤ 4611686018427387904) : IntKind.i64.wrap ((BitVec.ofNat 64 n).toNat : Int) = (n : Int) := by
  have : (BitVec.ofNat 64 n).toNat = n := by rw [BitVec.toNat_ofNat]; omega
  rw [this, wr (by omega) (by omega)]
theorem half (k : Int) (n : Nat) (hk : k = (n : Int)) (h : n ≤ 4611686018427387904) : oushr (BitVec.ofInt 64 (IntKind.i64.wrap k)) ((1 : BitVec 64).toNat : Int) = some (BitVec.ofNat 64 (n / 2)) := by
  subst hk
  rw [wr (by omega) (by omega), show ((1 : BitVec 64).toNat : Int) = ((1 : Nat) : Int) from rfl]
  unfold oushr
  rw [decide_eq_false (by omega), cond_false, BitVec.ofInt_natCast, Int.toNat_natCast]
  congr 1
  apply BitVec.eq_of_toNat_eq
  rw [BitVec.toNat_ushiftRight, BitVec.toNat_ofNat, BitVec.toNat_ofNat, Nat.shiftRight_eq_div_pow]
  omega
theorem swap_l1 (n a b : Nat) : ∀ (U V P M Q : List Action) (i f : Nat), U.length = V.length → P.length = a + i → P.length + U.length + M.length = b + i → i + U.length = n → U.length < f → (P ++ U ++ M ++ V ++ Q).length ≤ big →
    F_slices_swapRangeCmpFunc_Action_l1 (n : Int) (b : Int) (a : Int) f (P ++ U ++ M ++ V ++ Q) (i : Int) = some (P ++ V ++ M ++ U ++ Q)
  | [], V, P, M, Q, i, f, h1, h2, h3, h4, h5, h6 => by
    have hV : V = [] := List.eq_nil_of_length_eq_zero (by simpa using h1.symm)
    subst hV
    obtain ⟨f, rfl⟩ : ∃ k, f = k + 1 := ⟨f - 1, by simp at h5; omega⟩
    rw [F_slices_swapRangeCmpFunc_Action_l1, decide_eq_false (by simp at h4; omega), cond_false]
  | u :: U, [], P, M, Q, i, f, h1, h2, h3, h4, h5, h6 => by simp at h1
  | u :: U, v :: V, P, M, Q, i, f, h1, h2, h3, h4, h5, h6 => by
    obtain ⟨f, rfl⟩ : ∃ k, f = k + 1 := ⟨f - 1, by simp at h5; omega⟩
    simp only [List.length_cons, List.length_append] at h1 h3 h4 h5 h6
    have hbig : big = 1000000 := rfl
    have ea : IntKind.i64.wrap ((a : Int) + (i : Int)) = (P.length : Int) := by rw [wr (by omega) (by omega)]; omega
    have eb : IntKind.i64.wrap ((b : Int) + (i : Int)) = ((P ++ u :: U ++ M).length : Int) := by
      rw [wr (by omega) (by omega)]; simp only [List.length_append, List.length_cons]; omega
    have e1 : P ++ u :: U ++ M ++ v :: V ++ Q = (P ++ u :: U ++ M) ++ v :: (V ++ Q) := by simp
    have e2 : P ++ u :: U ++ M ++ v :: V ++ Q = P ++ u :: (U ++ M ++ v :: V ++ Q) := by simp
    have e3 : P ++ v :: (U ++ M ++ v :: V ++ Q) = (P ++ v :: U ++ M) ++ v :: (V ++ Q) := by simp
    have e4 : (P ++ v :: U ++ M) ++ u :: (V ++ Q) = (P ++ [v]) ++ U ++ (M ++ [u]) ++ V ++ Q := by simp
    have g1 : lget (P ++ u :: U ++ M ++ v :: V ++ Q) ((P ++ u :: U ++ M).length : Int) = some v := by rw [e1]; exact lget_at _ _ _ _ rfl
    have g2 : lget (P ++ u :: U ++ M ++ v :: V ++ Q) (P.length : Int) = some u := by rw [e2]; exact lget_at _ _ _ _ rfl
    have s1 : List.set (P ++ u :: U ++ M ++ v :: V ++ Q) ((P.length : Int)).toNat v = (P ++ v :: U ++ M) ++ v :: (V ++ Q) := by
      rw [e2, Int.toNat_natCast, set_at _ _ _ _ _ rfl, e3]
    have hl : (P ++ u :: U ++ M).length = (P ++ v :: U ++ M).length := by simp
    have g3 : lget ((P ++ v :: U ++ M) ++ v :: (V ++ Q)) ((P ++ u :: U ++ M).length : Int) = some v := lget_at _ _ _ _ (by rw [hl])
    have s2 : List.set ((P ++ v :: U ++ M) ++ v :: (V ++ Q)) (((P ++ u :: U ++ M).length : Int)).toNat u = (P ++ [v]) ++ U ++ (M ++ [u]) ++ V ++ Q := by
      rw [Int.toNat_natCast, set_at _ _ _ _ _ hl, e4]
    have ei : IntKind.i64.wrap ((i : Int) + 1) = ((i + 1 : Nat) : Int) := by rw [wr (by omega) (by omega)]; omega
    rw [F_slices_swapRangeCmpFunc_Action_l1, decide_eq_true (by omega), cond_true, eb, g1, Option.bind_some, ea, g2, Option.bind_some, Option.bind_some, s1, g3, Option.bind_some, s2, ei,
      swap_l1 n a b U V (P ++ [v]) (M ++ [u]) Q (i + 1) f (by omega) (by simp only [List.length_append, List.length_cons, List.length_nil]; omega) (by simp only [List.length_append, List.length_cons, List.length_nil]; omega) (by omega) (by omega) (by simp only [List.length_append, List.length_cons, List.length_nil]; omega)]
    simp
theorem swap_eq (U V P M Q : List Action) (cmp : Action → Action → Option Int) (a b n : Int) (h : U.length = V.length) (ha : a = (P.length : Int)) (hb : b = ((P ++ U ++ M).length : Int)) (hn : n = (U.length : Int)) (hl : (P ++ U ++ M ++ V ++ Q).length ≤ big) :
    F_slices_swapRangeCmpFunc_Action (P ++ U ++ M ++ V ++ Q) a b n cmp = some (P ++ V ++ M ++ U ++ Q) := by
  subst ha hb hn
  unfold F_slices_swapRangeCmpFunc_Action
  exact swap_l1 U.length P.length (P ++ U ++ M).length U V P M Q 0 _ h rfl (by simp only [List.length_append]; omega) (by omega) (by omega) hl
theorem rot_l1 (cmp : Action → Action → Option Int) : ∀ (f : Nat) (X Y P Q : List Action) (m : Nat), 0 < X.length → 0 < Y.length → X.length + Y.length ≤ f → P.length + X.length = m → (P ++ X ++ Y ++ Q).length ≤ big →
    F_slices_rotateCmpFunc_Action_l1 (m : Int) cmp f (P ++ X ++ Y ++ Q) (X.length : Int) (Y.length : Int) = some (P ++ Y ++ X ++ Q)
  | 0, X, Y, P, Q, m, h1, h2, h3, h4, h5 => by omega
  | f + 1, X, Y, P, Q, m, h1, h2, h3, h4, h5 => by
    have hbig : big = 1000000 := rfl
    simp only [List.length_append] at h5
    have em : IntKind.i64.wrap ((m : Int) - (X.length : Int)) = (P.length : Int) := by rw [wr (by omega) (by omega)]; omega
    rw [F_slices_rotateCmpFunc_Action_l1, em]
    by_cases he : X.length = Y.length
    · rw [decide_eq_false (by omega), cond_false]
      have := swap_eq X Y P [] Q cmp (P.length : Int) (m : Int) (X.length : Int) he rfl (by simp; omega) rfl (by simp only [List.length_append, List.length_nil]; omega)
      simp only [List.append_nil] at this
      rw [this]; rfl
    · rw [decide_eq_true (by omega), cond_true]
      by_cases hg : X.length > Y.length
      · rw [decide_eq_true (by omega), cond_true]
        have hx : X = X.take Y.length ++ X.drop Y.length := (List.take_append_drop ..).symm
        generalize hX1 : X.take Y.length = X1 at hx
        generalize hX2 : X.drop Y.length = X2 at hx
        have l1 : X1.length = Y.length := by rw [← hX1]; simp; omega
        have l2 : X2.length = X.length - Y.length := by rw [← hX2]; simp
        have := swap_eq X1 Y P X2 Q cmp (P.length : Int) (m : Int) (Y.length : Int) l1 rfl (by simp only [List.length_append]; omega) (by omega) (by simp only [List.length_append]; omega)
        have e1 : P ++ X ++ Y ++ Q = P ++ X1 ++ X2 ++ Y ++ Q := by rw [hx]; simp
        have e2 : P ++ Y ++ X2 ++ X1 ++ Q = (P ++ Y) ++ X2 ++ X1 ++ Q := by simp
        have e3 : IntKind.i64.wrap ((X.length : Int) - (Y.length : Int)) = (X2.length : Int) := by rw [wr (by omega) (by omega)]; omega
        have e4 : ((Y.length : Nat) : Int) = (X1.length : Int) := by omega
        rw [e1, this, Option.bind_some, e2, e3, e4, rot_l1 cmp f X2 X1 (P ++ Y) Q m (by omega) (by omega) (by omega) (by simp only [List.length_append]; omega) (by simp only [List.length_append]; omega)]
        rw [hx]; simp
      · rw [decide_eq_false (by omega), cond_false]
        have hy : Y = Y.take (Y.length - X.length) ++ Y.drop (Y.length - X.length) := (List.take_append_drop ..).symm
        generalize hY1 : Y.take (Y.length - X.length) = Y1 at hy
        generalize hY2 : Y.drop (Y.length - X.length) = Y2 at hy
        have l1 : Y1.length = Y.length - X.length := by rw [← hY1]; simp
        have l2 : Y2.length = X.length := by rw [← hY2]; simp; omega
        have hb : IntKind.i64.wrap (IntKind.i64.wrap ((m : Int) + (Y.length : Int)) - (X.length : Int)) = ((P ++ X ++ Y1).length : Int) := by
          rw [wr (n := (m : Int) + (Y.length : Int)) (by omega) (by omega), wr (by omega) (by omega)]; simp only [List.length_append]; omega
        have := swap_eq X Y2 P Y1 Q cmp (P.length : Int) ((P ++ X ++ Y1).length : Int) (X.length : Int) (by omega) rfl rfl rfl (by simp only [List.length_append]; omega)
        have e1 : P ++ X ++ Y ++ Q = P ++ X ++ Y1 ++ Y2 ++ Q := by rw [hy]; simp
        have e2 : P ++ Y2 ++ Y1 ++ X ++ Q = P ++ Y2 ++ Y1 ++ (X ++ Q) := by simp
        have e3 : IntKind.i64.wrap ((Y.length : Int) - (X.length : Int)) = (Y1.length : Int) := by rw [wr (by omega) (by omega)]; omega
        have e4 : ((X.length : Nat) : Int) = (Y2.length : Int) := by omega
        rw [hb, e1, this, Option.bind_some, e2, e3, e4, rot_l1 cmp f Y2 Y1 P (X ++ Q) m (by omega) (by omega) (by omega) (by omega) (by simp only [List.length_append]; omega)]
        rw [hy]; simp
theorem rot_eq (cmp : Action → Action → Option Int) (X Y P Q : List Action) (a m b : Int) (h1 : 0 < X.length) (h2 : 0 < Y.length) (ha : a = (P.length : Int)) (hm : m = ((P ++ X).length : Int)) (hb : b = ((P ++ X ++ Y).length : Int)) (hl : (P ++ X ++ Y ++ Q).length ≤ big) :
    F_slices_rotateCmpFunc_Action (P ++ X ++ Y ++ Q) a m b cmp = some (P ++ Y ++ X ++ Q) := by
  subst ha hm hb
  have hbig : big = 1000000 := rfl
  simp only [List.length_append] at hl
  unfold F_slices_rotateCmpFunc_Action
  have e1 : IntKind.i64.wrap (((P ++ X).length : Int) - (P.length : Int)) = (X.length : Int) := by rw [wr (by simp only [List.length_append]; omega) (by simp only [List.length_append]; omega)]; simp only [List.length_append]; omega
  have e2 : IntKind.i64.wrap (((P ++ X ++ Y).length : Int) - ((P ++ X).length : Int)) = (Y.length : Int) := by rw [wr (by simp only [List.length_append]; omega) (by simp only [List.length_append]; omega)]; simp only [List.length_append]; omega
  rw [e1, e2]
  exact rot_l1 cmp fuel0 X Y P Q _ h1 h2 (by unfold fuel0; omega) (by simp) (by simp only [List.length_append]; omega)
theorem bs_spec {β : Type} (G : Nat → Int → Int → Option β) (K : Int → Option β) (t : Nat → Bool) (lo s hi : Nat)
    (step : ∀ (f i j : Nat), lo ≤ i → i < j → j ≤ hi → G (f + 1) (i : Int) (j : Int) = bif t ((i + j) / 2) then G f (((i + j) / 2 + 1 : Nat) : Int) (j : Int) else G f (i : Int) (((i + j) / 2 : Nat) : Int))
    (stop : ∀ (f i : Nat), lo ≤ i → i ≤ hi → G (f + 1) (i : Int) (i : Int) = K (i : Int)) (ht : ∀ c, lo ≤ c → c < s → t c = true) (hf : ∀ c, s ≤ c → c < hi → t c = false) :
    ∀ (f i j : Nat), lo ≤ i → i ≤ s → s ≤ j → j ≤ hi → j - i < f → G f (i : Int) (j : Int) = K (s : Int)
  | 0, i, j, _, _, _, _, h => by omega
  | f + 1, i, j, h1, h2, h3, h4, h5 => by
    by_cases hij : i < j
    · rw [step f i j h1 hij h4]
      by_cases hc : (i + j) / 2 < s
      · rw [ht _ (by omega) hc, cond_true]
        exact bs_spec G K t lo s hi step stop ht hf f _ j (by omega) (by omega) h3 h4 (by omega)
      · rw [hf _ (by omega) (by omega), cond_false]
        exact bs_spec G K t lo s hi step stop ht hf f i _ h1 h2 (by omega) (by omega) (by omega)
    · have e1 : i = s := by omega
      have e2 : j = s := by omega
      rw [e1, e2]
      exact stop f s (by omega) (by omega)
theorem bound_ex (t : Nat → Bool) (lo : Nat) : ∀ (n : Nat), (∀ c d, lo ≤ c → c ≤ d → d < lo + n → t c = false → t d = false) → ∃ s, lo ≤ s ∧ s ≤ lo + n ∧ (∀ c, lo ≤ c → c < s → t c = true) ∧ ∀ c, s ≤ c → c < lo + n → t c = false
  | 0, _ => ⟨lo, Nat.le_refl _, Nat.le_refl _, fun c h1 h2 => by omega, fun c h1 h2 => by omega⟩
  | n + 1, hm => by
    obtain ⟨s, h1, h2, h3, h4⟩ := bound_ex t lo n fun c d a b e f => hm c d a b (by omega) f
    by_cases hs : s < lo + n
    · refine ⟨s, h1, by omega, h3, fun c a b => ?_⟩
      by_cases hc : c < lo + n
      · exact h4 c a hc
      · exact hm s c h1 a b (h4 s (Nat.le_refl _) hs)
    · have : s = lo + n := by omega
      subst this
      cases ht : t (lo + n)
      · exact ⟨lo + n, h1, by omega, h3, fun c a b => by rw [show c = lo + n by omega, ht]⟩
      · refine ⟨lo + n + 1, by omega, by omega, fun c a b => ?_, fun c a b => by omega⟩
        by_cases hc : c < lo + n
        · exact h3 c a hc
        · have : c = lo + n := by omega
          rw [this, ht]
end Go.Proofs.YtknpgojdkobgjaaGreat.W
set_option linter.unusedVariables false
set_option linter.unusedSimpArgs false
namespace Go.Proofs.YtknpgojdkobgjaaGreat.W
open Go Go.Wb
section sym
variable (lt : Action → Action → Bool) (cmp : Action → Action → Option Int)
def Tells : Prop := ∀ x y, ∃ c, cmp x y = some c ∧ decide (c < 0) = lt x y
variable {lt cmp}
theorem sm_l2 (e : Nat) : ∀ (Y P Q : List Action) (x : Action) (k f : Nat), k = P.length → k + Y.length + 1 = e → Y.length < f → (P ++ x :: (Y ++ Q)).length ≤ big →
    F_slices_symMergeCmpFunc_Action_s_l2 (e : Int) f (P ++ x :: (Y ++ Q)) (k : Int) = some (P ++ Y ++ x :: Q)
  | [], P, Q, x, k, f, h1, h2, h3, h4 => by
    obtain ⟨f, rfl⟩ : ∃ k, f = k + 1 := ⟨f - 1, by simp at h3; omega⟩
    have hbig : big = 1000000 := rfl
    simp only [List.length_append, List.length_cons, List.length_nil] at h2 h4
    rw [F_slices_symMergeCmpFunc_Action_s_l2, wr (by omega) (by omega), decide_eq_false (by omega), cond_false]
    simp
  | y :: Y, P, Q, x, k, f, h1, h2, h3, h4 => by
    obtain ⟨f, rfl⟩ : ∃ k, f = k + 1 := ⟨f - 1, by simp at h3; omega⟩
    have hbig : big = 1000000 := rfl
    simp only [List.length_append, List.length_cons] at h2 h3 h4
    have ek : IntKind.i64.wrap ((k : Int) + 1) = ((k + 1 : Nat) : Int) := by rw [wr (by omega) (by omega)]; omega
    have e1 : P ++ x :: (y :: Y ++ Q) = (P ++ [x]) ++ y :: (Y ++ Q) := by simp
    have e2 : (P ++ [y]) ++ y :: (Y ++ Q) = P ++ y :: (y :: (Y ++ Q)) := by simp
    have g1 : lget (P ++ x :: (y :: Y ++ Q)) ((k + 1 : Nat) : Int) = some y := by rw [e1]; exact lget_at _ _ _ _ (by simp; omega)
    have g2 : lget (P ++ x :: (y :: Y ++ Q)) (k : Int) = some x := lget_at _ _ _ _ (by omega)
    have s1 : List.set (P ++ x :: (y :: Y ++ Q)) ((k : Int)).toNat y = (P ++ [y]) ++ y :: (Y ++ Q) := by rw [Int.toNat_natCast, set_at _ _ _ _ _ h1]; simp
    have g3 : lget ((P ++ [y]) ++ y :: (Y ++ Q)) ((k + 1 : Nat) : Int) = some y := lget_at _ _ _ _ (by simp; omega)
    have s2 : List.set ((P ++ [y]) ++ y :: (Y ++ Q)) (((k + 1 : Nat) : Int)).toNat x = (P ++ [y]) ++ x :: (Y ++ Q) := by rw [Int.toNat_natCast, set_at _ _ _ _ _ (by simp; omega)]
    rw [F_slices_symMergeCmpFunc_Action_s_l2, wr (n := (e : Int) - 1) (by omega) (by omega), decide_eq_true (by omega), cond_true, ek, g1, Option.bind_some, g2, Option.bind_some, Option.bind_some, s1, g3, Option.bind_some, s2,
      sm_l2 e Y (P ++ [y]) Q x (k + 1) f (by simp; omega) (by omega) (by omega) (by simp only [List.length_append, List.length_cons, List.length_nil]; omega)]
    simp
theorem sm_l4 (s : Nat) : ∀ (R P Q : List Action) (x : Action) (k f : Nat), k = s + R.length → P.length = s → R.length < f → (P ++ R.reverse ++ x :: Q).length ≤ big →
    F_slices_symMergeCmpFunc_Action_s_l4 (s : Int) f (P ++ R.reverse ++ x :: Q) (k : Int) = some (P ++ x :: (R.reverse ++ Q))
  | [], P, Q, x, k, f, h1, h2, h3, h4 => by
    obtain ⟨f, rfl⟩ : ∃ k, f = k + 1 := ⟨f - 1, by simp at h3; omega⟩
    rw [F_slices_symMergeCmpFunc_Action_s_l4, decide_eq_false (by simp at h1; omega), cond_false]
    simp
  | y :: R, P, Q, x, k, f, h1, h2, h3, h4 => by
    obtain ⟨f, rfl⟩ : ∃ k, f = k + 1 := ⟨f - 1, by simp at h3; omega⟩
    have hbig : big = 1000000 := rfl
    simp only [List.length_append, List.length_cons, List.length_reverse] at h1 h3 h4
    have ek : IntKind.i64.wrap ((k : Int) - 1) = ((k - 1 : Nat) : Int) := by rw [wr (by omega) (by omega)]; omega
    have e1 : P ++ (y :: R).reverse ++ x :: Q = (P ++ R.reverse) ++ y :: (x :: Q) := by simp
    have e1' : P ++ (y :: R).reverse ++ x :: Q = (P ++ R.reverse ++ [y]) ++ x :: Q := by simp
    have g1 : lget (P ++ (y :: R).reverse ++ x :: Q) ((k - 1 : Nat) : Int) = some y := by rw [e1]; exact lget_at _ _ _ _ (by simp; omega)
    have g2 : lget (P ++ (y :: R).reverse ++ x :: Q) (k : Int) = some x := by rw [e1']; exact lget_at _ _ _ _ (by simp; omega)
    have s1 : List.set (P ++ (y :: R).reverse ++ x :: Q) ((k : Int)).toNat y = (P ++ R.reverse) ++ y :: (y :: Q) := by rw [e1', Int.toNat_natCast, set_at _ _ _ _ _ (by simp; omega)]; simp
    have g3 : lget ((P ++ R.reverse) ++ y :: (y :: Q)) ((k - 1 : Nat) : Int) = some y := lget_at _ _ _ _ (by simp; omega)
    have s2 : List.set ((P ++ R.reverse) ++ y :: (y :: Q)) (((k - 1 : Nat) : Int)).toNat x = P ++ R.reverse ++ x :: (y :: Q) := by rw [Int.toNat_natCast, set_at _ _ _ _ _ (by simp; omega)]
    rw [F_slices_symMergeCmpFunc_Action_s_l4, decide_eq_true (by omega), cond_true, ek, g1, Option.bind_some, g2, Option.bind_some, Option.bind_some, s1, g3, Option.bind_some, s2,
      sm_l4 s R P (y :: Q) x (k - 1) f (by omega) h2 (by omega) (by simp only [List.length_append, List.length_cons, List.length_reverse]; omega)]
    simp
theorem lget_mid {α : Type} (P X Q : List α) (c : Nat) (h1 : P.length ≤ c) (h2 : c < P.length + X.length) : lget (P ++ X ++ Q) (c : Int) = some (X[c - P.length]'(by omega)) := by
  rw [lget_nat, List.append_assoc, List.getElem?_append_right h1, List.getElem?_append_left (by omega), List.getElem?_eq_getElem]
theorem srtd_get {l : List Action} (h : Srtd lt l) {i j : Nat} (hi : i < l.length) (hj : j < l.length) (hij : i < j) : lt l[j] l[i] = false := (List.pairwise_iff_getElem.1 h) i j hi hj hij
theorem srtd_get' (hs : Swo lt) {l : List Action} (h : Srtd lt l) {i j : Nat} (hi : i < l.length) (hj : j < l.length) (hij : i ≤ j) : lt l[j] l[i] = false := by
  rcases Nat.lt_or_eq_of_le hij with h1 | h1
  · exact srtd_get h hi hj h1
  · subst h1
    have := eqv_self hs l[i]
    unfold eqv at this
    simpa using this
theorem srtd_left {A B : List Action} (h : Srtd lt (A ++ B)) : Srtd lt A := (List.pairwise_append.1 h).1
theorem srtd_right {A B : List Action} (h : Srtd lt (A ++ B)) : Srtd lt B := (List.pairwise_append.1 h).2.1
theorem sym_one (hs : Swo lt) (hc : Tells lt cmp) (x : Action) (Y P Q : List Action) (hY : Srtd lt Y) (hl : (P ++ x :: (Y ++ Q)).length ≤ big) :
    F_slices_symMergeCmpFunc_Action_s_l1 (P ++ x :: (Y ++ Q)) (P.length : Int) cmp ((((P.length + 1 + Y.length : Nat) : Int) - ((P.length + 1 : Nat) : Int)).toNat + 1) ((P.length + 1 : Nat) : Int) ((P.length + 1 + Y.length : Nat) : Int) = some (P ++ srt lt (x :: Y) ++ Q) := by
  have hbig : big = 1000000 := rfl
  simp only [List.length_append, List.length_cons] at hl
  have eD : P ++ x :: (Y ++ Q) = (P ++ [x]) ++ Y ++ Q := by simp
  let t : Nat → Bool := fun c => if h : c - (P.length + 1) < Y.length then lt Y[c - (P.length + 1)] x else false
  have htv : ∀ c (h : c - (P.length + 1) < Y.length), t c = lt Y[c - (P.length + 1)] x := fun c h => by simp only [t]; rw [dif_pos h]
  obtain ⟨s, s1, s2, s3, s4⟩ := bound_ex t (P.length + 1) Y.length fun c d h1 h2 h3 h4 => by
    rw [htv c (by omega)] at h4
    rw [htv d (by omega)]
    exact hs.neg _ _ _ (srtd_get' hs hY (by omega) (by omega) (by omega)) h4
  have key := bs_spec (F_slices_symMergeCmpFunc_Action_s_l1 (P ++ x :: (Y ++ Q)) (P.length : Int) cmp) (fun i => F_slices_symMergeCmpFunc_Action_s_l2 i ((((IntKind.i64.wrap (i - 1)) : Int) - (P.length : Int)).toNat + 1) (P ++ x :: (Y ++ Q)) (P.length : Int)) t (P.length + 1) s (P.length + 1 + Y.length)
    (fun f i j h1 h2 h3 => by
      obtain ⟨c, hc1, hc2⟩ := hc (Y[(i + j) / 2 - (P.length + 1)]'(by omega)) x
      have gx : lget (P ++ x :: (Y ++ Q)) (P.length : Int) = some x := lget_at _ _ _ _ rfl
      have gy : lget (P ++ x :: (Y ++ Q)) (((i + j) / 2 : Nat) : Int) = some (Y[(i + j) / 2 - (P.length + 1)]'(by omega)) := by
        rw [eD, lget_mid (P ++ [x]) Y Q _ (by simp; omega) (by simp; omega)]
        simp
      have e1 : IntKind.i64.wrap ((((i + j) / 2 : Nat) : Int) + 1) = (((i + j) / 2 + 1 : Nat) : Int) := by rw [wr (by omega) (by omega)]; omega
      rw [F_slices_symMergeCmpFunc_Action_s_l1, decide_eq_true (by omega), cond_true, half _ (i + j) (by omega) (by omega), Option.bind_some, halfN _ (by omega), gy, Option.bind_some, gx, Option.bind_some, hc1, Option.bind_some, hc2, htv _ (by omega), e1])
    (fun f i h1 h2 => by rw [F_slices_symMergeCmpFunc_Action_s_l1, decide_eq_false (by omega), cond_false]) s3 (fun c h1 h2 => s4 c h1 h2)
  rw [key _ _ _ (Nat.le_refl _) s1 s2 (Nat.le_refl _) (by omega)]
  have hy : Y = Y.take (s - (P.length + 1)) ++ Y.drop (s - (P.length + 1)) := (List.take_append_drop ..).symm
  have l1 : (Y.take (s - (P.length + 1))).length = s - (P.length + 1) := by simp; omega
  have hm := sm_l2 s (Y.take (s - (P.length + 1))) P (Y.drop (s - (P.length + 1)) ++ Q) x P.length ((((IntKind.i64.wrap ((s : Int) - 1)) : Int) - (P.length : Int)).toNat + 1) rfl (by omega) (by rw [wr (by omega) (by omega)]; omega) (by simp only [List.length_append, List.length_cons, List.length_drop]; omega)
  rw [← List.append_assoc, ← hy] at hm
  show F_slices_symMergeCmpFunc_Action_s_l2 (s : Int) _ _ _ = _
  rw [hm]
  have h1 : ∀ y ∈ Y.take (s - (P.length + 1)), lt y x = true := fun y hy1 => by
    obtain ⟨i, hi, rfl⟩ := List.getElem_of_mem hy1
    rw [l1] at hi
    have := s3 (i + (P.length + 1)) (by omega) (by omega)
    rw [htv _ (by omega)] at this
    simpa using this
  have h2 : ∀ y ∈ Y.drop (s - (P.length + 1)), lt y x = false := fun y hy1 => by
    obtain ⟨i, hi, rfl⟩ := List.getElem_of_mem hy1
    rw [List.length_drop] at hi
    have := s4 (s + i) (by omega) (by omega)
    rw [htv _ (by omega)] at this
    rw [List.getElem_drop]
    have e : s + i - (P.length + 1) = s - (P.length + 1) + i := by omega
    simpa [e] using this
  have hY' := hY
  rw [hy] at hY'
  have h3 := srt_split hs (X1 := []) (X2 := [x]) (Y1 := Y.take (s - (P.length + 1))) (Y2 := Y.drop (s - (P.length + 1))) (by simp [Srtd]) hY' (by simp) (fun y hy1 u hu => by rw [show u = x by simpa using hu]; exact h1 y hy1)
  simp only [List.nil_append, ← hy] at h3
  have h4 : srt lt ([x] ++ Y.drop (s - (P.length + 1))) = [x] ++ Y.drop (s - (P.length + 1)) := srt_id hs (by
    unfold Srtd
    rw [List.pairwise_append]
    exact ⟨by simp, (srtd_right hY'), fun u hu v hv => by rw [show u = x by simpa using hu]; exact h2 v hv⟩)
  rw [h4, srt_id hs (srtd_left hY')] at h3
  rw [show x :: Y = [x] ++ Y from rfl, h3]
  simp
theorem sym_last (hs : Swo lt) (hc : Tells lt cmp) (x : Action) (X P Q : List Action) (hX : Srtd lt X) (hl : (P ++ X ++ x :: Q).length ≤ big) :
    F_slices_symMergeCmpFunc_Action_s_l3 (P ++ X ++ x :: Q) ((P.length + X.length : Nat) : Int) cmp ((((P.length + X.length : Nat) : Int) - (P.length : Int)).toNat + 1) (P.length : Int) ((P.length + X.length : Nat) : Int) = some (P ++ srt lt (X ++ [x]) ++ Q) := by
  have hbig : big = 1000000 := rfl
  simp only [List.length_append, List.length_cons] at hl
  let t : Nat → Bool := fun c => if h : c - P.length < X.length then !lt x X[c - P.length] else false
  have htv : ∀ c (h : c - P.length < X.length), t c = !lt x X[c - P.length] := fun c h => by simp only [t]; rw [dif_pos h]
  obtain ⟨s, s1, s2, s3, s4⟩ := bound_ex t P.length X.length fun c d h1 h2 h3 h4 => by
    rw [htv c (by omega)] at h4
    rw [htv d (by omega)]
    simp only [Bool.not_eq_false'] at h4 ⊢
    cases hd : lt x X[d - P.length]
    · have := hs.neg _ _ _ hd (srtd_get' hs hX (i := c - P.length) (j := d - P.length) (by omega) (by omega) (by omega))
      rw [this] at h4; cases h4
    · rfl
  have key := bs_spec (F_slices_symMergeCmpFunc_Action_s_l3 (P ++ X ++ x :: Q) ((P.length + X.length : Nat) : Int) cmp) (fun i => F_slices_symMergeCmpFunc_Action_s_l4 i (((((P.length + X.length : Nat) : Int) : Int) - i).toNat + 1) (P ++ X ++ x :: Q) ((P.length + X.length : Nat) : Int)) t P.length s (P.length + X.length)
    (fun f i j h1 h2 h3 => by
      obtain ⟨c, hc1, hc2⟩ := hc x (X[(i + j) / 2 - P.length]'(by omega))
      have gx : lget (P ++ X ++ x :: Q) ((P.length + X.length : Nat) : Int) = some x := lget_at _ _ _ _ (by simp)
      have gy : lget (P ++ X ++ x :: Q) (((i + j) / 2 : Nat) : Int) = some (X[(i + j) / 2 - P.length]'(by omega)) := lget_mid P X (x :: Q) _ (by omega) (by omega)
      have e1 : IntKind.i64.wrap ((((i + j) / 2 : Nat) : Int) + 1) = (((i + j) / 2 + 1 : Nat) : Int) := by rw [wr (by omega) (by omega)]; omega
      rw [F_slices_symMergeCmpFunc_Action_s_l3, decide_eq_true (by omega), cond_true, half _ (i + j) (by omega) (by omega), Option.bind_some, halfN _ (by omega), gx, Option.bind_some, gy, Option.bind_some, hc1, Option.bind_some, hc2, htv _ (by omega), e1])
    (fun f i h1 h2 => by rw [F_slices_symMergeCmpFunc_Action_s_l3, decide_eq_false (by omega), cond_false]) s3 (fun c h1 h2 => s4 c h1 h2)
  rw [key _ _ _ (Nat.le_refl _) s1 s2 (Nat.le_refl _) (by omega)]
  have hx : X = X.take (s - P.length) ++ X.drop (s - P.length) := (List.take_append_drop ..).symm
  have l1 : (X.take (s - P.length)).length = s - P.length := by simp; omega
  have hm := sm_l4 s (X.drop (s - P.length)).reverse (P ++ X.take (s - P.length)) Q x (P.length + X.length) (((((P.length + X.length : Nat) : Int) : Int) - (s : Int)).toNat + 1) (by simp; omega) (by simp; omega) (by simp; omega) (by simp only [List.length_append, List.length_cons, List.length_reverse, List.length_drop, List.length_take]; omega)
  rw [List.reverse_reverse, List.append_assoc P, ← hx] at hm
  show F_slices_symMergeCmpFunc_Action_s_l4 (s : Int) _ _ _ = _
  rw [hm]
  have h1 : ∀ u ∈ X.take (s - P.length), lt x u = false := fun u hu => by
    obtain ⟨i, hi, rfl⟩ := List.getElem_of_mem hu
    rw [l1] at hi
    have := s3 (i + P.length) (by omega) (by omega)
    rw [htv _ (by omega)] at this
    simpa using this
  have h2 : ∀ u ∈ X.drop (s - P.length), lt x u = true := fun u hu => by
    obtain ⟨i, hi, rfl⟩ := List.getElem_of_mem hu
    rw [List.length_drop] at hi
    have := s4 (s + i) (by omega) (by omega)
    rw [htv _ (by omega)] at this
    rw [List.getElem_drop]
    have e : s + i - P.length = s - P.length + i := by omega
    simpa [e] using this
  have hX' := hX
  rw [hx] at hX'
  have h3 := srt_split hs (X1 := X.take (s - P.length)) (X2 := X.drop (s - P.length)) (Y1 := [x]) (Y2 := []) hX' (by simp [Srtd]) (by simp) (fun y hy1 u hu => by rw [show y = x by simpa using hy1]; exact h2 u hu)
  simp only [List.append_nil, ← hx] at h3
  have h4 : srt lt (X.take (s - P.length) ++ [x]) = X.take (s - P.length) ++ [x] := srt_id hs (by
    unfold Srtd
    rw [List.pairwise_append]
    exact ⟨(srtd_left hX'), by simp, fun u hu v hv => by rw [show v = x by simpa using hv]; exact h1 u hu⟩)
  rw [h4, srt_id hs (srtd_right hX')] at h3
  rw [h3]
  simp
end sym
end Go.Proofs.YtknpgojdkobgjaaGreat.W
set_option linter.unusedVariables false
set_option linter.unusedSimpArgs false
namespace Go.Proofs.YtknpgojdkobgjaaGreat.W
open Go Go.Wb
section sym
variable {lt : Action → Action → Bool} {cmp : Action → Action → Option Int}
def SymR (lt : Action → Action → Bool) (cmp : Action → Action → Option Int) (f : Nat) (R : List Action → Int → Int → Int → (Action → Action → Option Int) → Option (List Action)) : Prop :=
  ∀ (P X Y Q : List Action) (a m b : Int), a = (P.length : Int) → m = (P.length : Int) + (X.length : Int) → b = (P.length : Int) + (X.length : Int) + (Y.length : Int) → 0 < X.length → 0 < Y.length → X.length + Y.length ≤ f → Srtd lt X → Srtd lt Y → (P ++ X ++ Y ++ Q).length ≤ big →
    R (P ++ X ++ Y ++ Q) a m b cmp = some (P ++ srt lt (X ++ Y) ++ Q)
theorem srt_nil_left (hs : Swo lt) {X Y : List Action} (hX : Srtd lt X) (hY : Srtd lt Y) (h : ¬ (0 < X.length ∧ 0 < Y.length)) : srt lt (X ++ Y) = X ++ Y := by
  cases X with
  | nil => exact srt_id hs hY
  | cons x X =>
    cases Y with
    | nil => rw [List.append_nil]; exact srt_id hs hX
    | cons y Y => exact absurd ⟨by simp, by simp⟩ h
theorem sm_j8 (hs : Swo lt) {f : Nat} {R : List Action → Int → Int → Int → (Action → Action → Option Int) → Option (List Action)} (hR : SymR lt cmp f R) (P X2 Y2 Q : List Action) (mid : Nat) (m start b : Int)
    (h1 : mid = P.length) (h2 : (mid : Int) + m - start = (P.length : Int) + (X2.length : Int)) (h3 : b = (P.length : Int) + (X2.length : Int) + (Y2.length : Int)) (hm : 0 ≤ m ∧ m ≤ big) (hst : 0 ≤ start ∧ start ≤ big) (hf : X2.length + Y2.length ≤ f) (hX : Srtd lt X2) (hY : Srtd lt Y2) (hl : (P ++ X2 ++ Y2 ++ Q).length ≤ big) :
    F_slices_symMergeCmpFunc_Action_s_j8 (BitVec.ofNat 64 mid) m start b R cmp (P ++ X2 ++ Y2 ++ Q) = some (P ++ srt lt (X2 ++ Y2) ++ Q) := by
  have hbig : big = 1000000 := rfl
  have hl' := hl
  simp only [List.length_append] at hl'
  unfold F_slices_symMergeCmpFunc_Action_s_j8
  rw [halfN mid (by omega)]
  have e1 : IntKind.i64.wrap (IntKind.i64.wrap ((mid : Int) + m) - start) = (P.length : Int) + (X2.length : Int) := by
    rw [wr (n := (mid : Int) + m) (by omega) (by omega), wr (by omega) (by omega), h2]
  rw [e1]
  by_cases hc : 0 < X2.length ∧ 0 < Y2.length
  · rw [decide_eq_true (by omega), decide_eq_true (by omega), Bool.and_true, cond_true, hR P X2 Y2 Q _ _ _ (by omega) rfl h3 hc.1 hc.2 hf hX hY hl]
    rfl
  · have : (decide ((mid : Int) < (P.length : Int) + (X2.length : Int)) && decide ((P.length : Int) + (X2.length : Int) < b)) = false := by
      rw [Bool.and_eq_false_iff, decide_eq_false_iff_not, decide_eq_false_iff_not]
      by_cases h : 0 < X2.length
      · exact .inr (fun h' => hc ⟨h, by omega⟩)
      · exact .inl (by omega)
    rw [this, cond_false, srt_nil_left hs hX hY hc]
    simp
theorem sm_j7 (hs : Swo lt) {f : Nat} {R : List Action → Int → Int → Int → (Action → Action → Option Int) → Option (List Action)} (hR : SymR lt cmp f R) (P X1 Y1 X2 Y2 Q : List Action) (mid : Nat) (a m start b : Int)
    (ha : a = (P.length : Int)) (h1 : mid = P.length + X1.length + Y1.length) (hs1 : start = (P.length : Int) + (X1.length : Int)) (hm : m = start + (X2.length : Int)) (h3 : b = (mid : Int) + (X2.length : Int) + (Y2.length : Int))
    (hf1 : X1.length + Y1.length ≤ f) (hf2 : X2.length + Y2.length ≤ f) (hX1 : Srtd lt X1) (hY1 : Srtd lt Y1) (hX2 : Srtd lt X2) (hY2 : Srtd lt Y2) (hl : (P ++ X1 ++ Y1 ++ X2 ++ Y2 ++ Q).length ≤ big) :
    F_slices_symMergeCmpFunc_Action_s_j7 a start (BitVec.ofNat 64 mid) R cmp m b (P ++ X1 ++ Y1 ++ X2 ++ Y2 ++ Q) = some (P ++ srt lt (X1 ++ Y1) ++ srt lt (X2 ++ Y2) ++ Q) := by
  have hbig : big = 1000000 := rfl
  have hl' := hl
  simp only [List.length_append] at hl'
  have hlen : (srt lt (X1 ++ Y1)).length = X1.length + Y1.length := by rw [srt_len hs]; simp
  have last := sm_j8 hs hR (P ++ srt lt (X1 ++ Y1)) X2 Y2 Q mid m start b (by simp only [List.length_append, hlen]; omega) (by simp only [List.length_append, hlen]; omega) (by simp only [List.length_append, hlen]; omega) (by omega) (by omega) hf2 hX2 hY2 (by simp only [List.length_append, hlen]; omega)
  unfold F_slices_symMergeCmpFunc_Action_s_j7
  rw [halfN mid (by omega)]
  by_cases hc : 0 < X1.length ∧ 0 < Y1.length
  · have hr := hR P X1 Y1 (X2 ++ Y2 ++ Q) a start (mid : Int) ha hs1 (by omega) hc.1 hc.2 hf1 hX1 hY1 (by simp only [List.length_append]; omega)
    have e : P ++ X1 ++ Y1 ++ X2 ++ Y2 ++ Q = P ++ X1 ++ Y1 ++ (X2 ++ Y2 ++ Q) := by simp
    have e' : P ++ srt lt (X1 ++ Y1) ++ (X2 ++ Y2 ++ Q) = P ++ srt lt (X1 ++ Y1) ++ X2 ++ Y2 ++ Q := by simp
    rw [decide_eq_true (by omega), decide_eq_true (by omega), Bool.and_true, cond_true, e, hr, Option.bind_some, e', last]
  · have hd : (decide (a < start) && decide (start < (mid : Int))) = false := by
      rw [Bool.and_eq_false_iff, decide_eq_false_iff_not, decide_eq_false_iff_not]
      by_cases h : 0 < X1.length
      · exact .inr (fun h' => hc ⟨h, by omega⟩)
      · exact .inl (by omega)
    rw [hd, cond_false]
    rw [srt_nil_left hs hX1 hY1 hc] at last ⊢
    have e : P ++ X1 ++ Y1 ++ X2 ++ Y2 ++ Q = P ++ (X1 ++ Y1) ++ X2 ++ Y2 ++ Q := by simp
    rw [e, last]
theorem sm_j5 (hs : Swo lt) (hc : Tells lt cmp) {f : Nat} {R : List Action → Int → Int → Int → (Action → Action → Option Int) → Option (List Action)} (hR : SymR lt cmp f R) (P X Y Q : List Action) (mid lo hi : Nat)
    (hmid : mid = (P.length + (P.length + X.length + Y.length)) / 2) (h2 : 2 ≤ X.length) (h2' : 2 ≤ Y.length) (hf : X.length + Y.length ≤ f + 1) (hX : Srtd lt X) (hY : Srtd lt Y) (hl : (P ++ X ++ Y ++ Q).length ≤ big)
    (hlh : (mid < P.length + X.length ∧ lo + (P.length + X.length + Y.length) = mid + (P.length + X.length) ∧ hi = mid) ∨ (P.length + X.length ≤ mid ∧ lo = P.length ∧ hi = P.length + X.length)) :
    F_slices_symMergeCmpFunc_Action_s_j5 (P ++ X ++ Y ++ Q) (BitVec.ofNat 64 mid) ((P.length : Int) + (X.length : Int)) cmp (P.length : Int) R ((P.length : Int) + (X.length : Int) + (Y.length : Int)) (lo : Int) (hi : Int) = some (P ++ srt lt (X ++ Y) ++ Q) := by
  have hbig : big = 1000000 := rfl
  have hl' := hl
  simp only [List.length_append] at hl'
  have hin : ∀ c, lo ≤ c → c < hi → P.length ≤ c ∧ c < P.length + X.length ∧ P.length + X.length ≤ mid + (P.length + X.length) - 1 - c ∧ mid + (P.length + X.length) - 1 - c < P.length + X.length + Y.length := fun c a b => by rcases hlh with h | h <;> omega
  let t : Nat → Bool := fun c => if h : (c - P.length < X.length ∧ (mid + (P.length + X.length) - 1 - c) - (P.length + X.length) < Y.length) then !lt (Y[(mid + (P.length + X.length) - 1 - c) - (P.length + X.length)]'h.2) (X[c - P.length]'h.1) else false
  have htv : ∀ c (h1 : c - P.length < X.length) (h2 : (mid + (P.length + X.length) - 1 - c) - (P.length + X.length) < Y.length), t c = !lt (Y[(mid + (P.length + X.length) - 1 - c) - (P.length + X.length)]'h2) (X[c - P.length]'h1) := fun c h1 h2 => by simp only [t]; rw [dif_pos ⟨h1, h2⟩]
  have hlohi : lo ≤ hi := by rcases hlh with h | h <;> omega
  obtain ⟨s, s1, s2, s3, s4⟩ := bound_ex t lo (hi - lo) fun c d h1 h2 h3 h4 => by
    have a1 := hin c h1 (by omega)
    have a2 := hin d (by omega) (by omega)
    rw [htv c (by omega) (by omega)] at h4
    rw [htv d (by omega) (by omega)]
    simp only [Bool.not_eq_false'] at h4 ⊢
    cases hd : lt (Y[(mid + (P.length + X.length) - 1 - d) - (P.length + X.length)]'(by omega)) (X[d - P.length]'(by omega))
    · have b1 := srtd_get' hs hX (i := c - P.length) (j := d - P.length) (by omega) (by omega) (by omega)
      have b2 := srtd_get' hs hY (i := (mid + (P.length + X.length) - 1 - d) - (P.length + X.length)) (j := (mid + (P.length + X.length) - 1 - c) - (P.length + X.length)) (by omega) (by omega) (by omega)
      rw [hs.neg _ _ _ (hs.neg _ _ _ b2 hd) b1] at h4; cases h4
    · rfl
  have e0 : lo + (hi - lo) = hi := by omega
  rw [e0] at s2 s4
  unfold F_slices_symMergeCmpFunc_Action_s_j5
  have key := bs_spec (F_slices_symMergeCmpFunc_Action_s_l6 (P ++ X ++ Y ++ Q) (BitVec.ofNat 64 mid) ((P.length : Int) + (X.length : Int)) cmp (P.length : Int) R ((P.length : Int) + (X.length : Int) + (Y.length : Int)))
    (fun start => bif ((decide (start < ((P.length : Int) + (X.length : Int)))) && (decide (((P.length : Int) + (X.length : Int)) < (IntKind.i64.wrap ((IntKind.i64.wrap ((IntKind.i64.wrap ((BitVec.ofNat 64 mid).toNat : Int)) + ((P.length : Int) + (X.length : Int)))) - start))))) then (F_slices_rotateCmpFunc_Action (P ++ X ++ Y ++ Q) start ((P.length : Int) + (X.length : Int)) (IntKind.i64.wrap ((IntKind.i64.wrap ((IntKind.i64.wrap ((BitVec.ofNat 64 mid).toNat : Int)) + ((P.length : Int) + (X.length : Int)))) - start)) cmp).bind fun l59 => F_slices_symMergeCmpFunc_Action_s_j7 (P.length : Int) start (BitVec.ofNat 64 mid) R cmp ((P.length : Int) + (X.length : Int)) ((P.length : Int) + (X.length : Int) + (Y.length : Int)) l59 else F_slices_symMergeCmpFunc_Action_s_j7 (P.length : Int) start (BitVec.ofNat 64 mid) R cmp ((P.length : Int) + (X.length : Int)) ((P.length : Int) + (X.length : Int) + (Y.length : Int)) (P ++ X ++ Y ++ Q))
    t lo s hi
    (fun f i j h1 h2 h3 => by
      have a1 := hin ((i + j) / 2) (by omega) (by omega)
      obtain ⟨c, hc1, hc2⟩ := hc (Y[(mid + (P.length + X.length) - 1 - (i + j) / 2) - (P.length + X.length)]'(by omega)) (X[(i + j) / 2 - P.length]'(by omega))
      have gx : lget (P ++ X ++ Y ++ Q) (((i + j) / 2 : Nat) : Int) = some (X[(i + j) / 2 - P.length]'(by omega)) := by
        rw [List.append_assoc (P ++ X)]
        exact lget_mid P X (Y ++ Q) _ a1.1 a1.2.1
      have ep : IntKind.i64.wrap (IntKind.i64.wrap (IntKind.i64.wrap ((mid : Int) + ((P.length : Int) + (X.length : Int))) - 1) - (((i + j) / 2 : Nat) : Int)) = ((mid + (P.length + X.length) - 1 - (i + j) / 2 : Nat) : Int) := by
        rw [wr (n := (mid : Int) + ((P.length : Int) + (X.length : Int))) (by omega) (by omega), wr (n := (mid : Int) + ((P.length : Int) + (X.length : Int)) - 1) (by omega) (by omega), wr (by omega) (by omega)]; omega
      have gy : lget (P ++ X ++ Y ++ Q) ((mid + (P.length + X.length) - 1 - (i + j) / 2 : Nat) : Int) = some (Y[(mid + (P.length + X.length) - 1 - (i + j) / 2) - (P.length + X.length)]'(by omega)) := by
        rw [lget_mid (P ++ X) Y Q _ (by simp; omega) (by simp; omega)]
        simp
      have e1 : IntKind.i64.wrap ((((i + j) / 2 : Nat) : Int) + 1) = (((i + j) / 2 + 1 : Nat) : Int) := by rw [wr (by omega) (by omega)]; omega
      rw [F_slices_symMergeCmpFunc_Action_s_l6, decide_eq_true (by omega), cond_true, half _ (i + j) (by omega) (by omega), Option.bind_some, halfN mid (by omega), halfN ((i + j) / 2) (by omega), ep, gy, Option.bind_some, gx, Option.bind_some, hc1, Option.bind_some, hc2, htv _ (by omega) (by omega), e1])
    (fun f i h1 h2 => by rw [F_slices_symMergeCmpFunc_Action_s_l6, decide_eq_false (by omega), cond_false]) s3 (fun c h1 h2 => s4 c h1 h2)
  rw [key _ _ _ (Nat.le_refl _) s1 s2 (Nat.le_refl _) (by omega)]
  have hsm : P.length ≤ s ∧ s ≤ P.length + X.length ∧ s ≤ mid ∧ mid + X.length ≤ s + (X.length + Y.length) := by rcases hlh with h | h <;> omega
  have hx : X = X.take (s - P.length) ++ X.drop (s - P.length) := (List.take_append_drop ..).symm
  have hy : Y = Y.take (mid - s) ++ Y.drop (mid - s) := (List.take_append_drop ..).symm
  have l1 : (X.take (s - P.length)).length = s - P.length := by simp; omega
  have l2 : (X.drop (s - P.length)).length = P.length + X.length - s := by simp; omega
  have l3 : (Y.take (mid - s)).length = mid - s := by simp; omega
  have l4 : (Y.drop (mid - s)).length = Y.length - (mid - s) := by simp
  have hX' := hX
  rw [hx] at hX'
  have hY' := hY
  rw [hy] at hY'
  have hx1 : ∀ x ∈ X.take (s - P.length), ∀ y ∈ Y.drop (mid - s), lt y x = false := fun x hxm y hym => by
    obtain ⟨i, hii, rfl⟩ := List.getElem_of_mem hxm
    obtain ⟨j, hj, rfl⟩ := List.getElem_of_mem hym
    rw [l1] at hii
    rw [l4] at hj
    have hc' : lo ≤ s - 1 := by rcases hlh with h | h <;> omega
    have a1 := hin (s - 1) hc' (by omega)
    have := s3 (s - 1) hc' (by omega)
    rw [htv _ (by omega) (by omega), Bool.not_eq_true'] at this
    rw [List.getElem_drop, List.getElem_take]
    have b1 := srtd_get' hs hX (i := i) (j := s - 1 - P.length) (by omega) (by omega) (by omega)
    have b2 := srtd_get' hs hY (i := (mid + (P.length + X.length) - 1 - (s - 1)) - (P.length + X.length)) (j := mid - s + j) (by omega) (by omega) (by omega)
    exact hs.neg _ _ _ (hs.neg _ _ _ b2 this) b1
  have hx2 : ∀ y ∈ Y.take (mid - s), ∀ x ∈ X.drop (s - P.length), lt y x = true := fun y hym x hxm => by
    obtain ⟨i, hii, rfl⟩ := List.getElem_of_mem hxm
    obtain ⟨j, hj, rfl⟩ := List.getElem_of_mem hym
    rw [l3] at hj
    rw [l2] at hii
    have hc' : s < hi := by rcases hlh with h | h <;> omega
    have a1 := hin s s1 hc'
    have := s4 s (Nat.le_refl _) hc'
    rw [htv _ (by omega) (by omega), Bool.not_eq_false'] at this
    rw [List.getElem_drop, List.getElem_take]
    have b1 := srtd_get' hs hX (i := s - P.length) (j := s - P.length + i) (by omega) (by omega) (by omega)
    have b2 := srtd_get' hs hY (i := j) (j := (mid + (P.length + X.length) - 1 - s) - (P.length + X.length)) (by omega) (by omega) (by omega)
    cases hd : lt (Y[j]'(by omega)) (X[s - P.length + i]'(by omega))
    · rw [hs.neg _ _ _ (hs.neg _ _ _ b2 hd) b1] at this; cases this
    · rfl
  have hsp := srt_split hs hX' hY' hx1 hx2
  rw [← hx, ← hy] at hsp
  rw [hsp]
  generalize X.take (s - P.length) = X1 at *
  generalize X.drop (s - P.length) = X2 at *
  generalize Y.take (mid - s) = Y1 at *
  generalize Y.drop (mid - s) = Y2 at *
  have last := sm_j7 hs hR P X1 Y1 X2 Y2 Q mid (P.length : Int) ((P.length : Int) + (X.length : Int)) (s : Int) ((P.length : Int) + (X.length : Int) + (Y.length : Int)) rfl (by omega) (by omega) (by omega) (by omega) (by omega) (by omega) (srtd_left hX') (srtd_left hY') (srtd_right hX') (srtd_right hY') (by simp only [List.length_append]; omega)
  have ee : IntKind.i64.wrap (IntKind.i64.wrap ((mid : Int) + ((P.length : Int) + (X.length : Int))) - (s : Int)) = ((P ++ X1 ++ X2 ++ Y1).length : Int) := by
    rw [wr (n := (mid : Int) + ((P.length : Int) + (X.length : Int))) (by omega) (by omega), wr (by omega) (by omega)]; simp only [List.length_append]; omega
  have eres : P ++ srt lt (X1 ++ Y1) ++ srt lt (X2 ++ Y2) ++ Q = P ++ (srt lt (X1 ++ Y1) ++ srt lt (X2 ++ Y2)) ++ Q := by simp
  rw [eres] at last
  show (bif _ then _ else _) = _
  rw [halfN mid (by omega), ee]
  have hlen4 : (P ++ X1 ++ X2 ++ Y1).length = P.length + X1.length + X2.length + Y1.length := by simp only [List.length_append]
  by_cases hcc : 0 < X2.length ∧ 0 < Y1.length
  · have eL : P ++ X ++ Y ++ Q = (P ++ X1) ++ X2 ++ Y1 ++ (Y2 ++ Q) := by rw [hx, hy]; simp
    have hr := rot_eq cmp X2 Y1 (P ++ X1) (Y2 ++ Q) (s : Int) ((P.length : Int) + (X.length : Int)) ((P ++ X1 ++ X2 ++ Y1).length : Int) hcc.1 hcc.2 (by simp only [List.length_append]; omega) (by simp only [List.length_append]; omega) rfl (by simp only [List.length_append]; omega)
    have eR : (P ++ X1) ++ Y1 ++ X2 ++ (Y2 ++ Q) = P ++ X1 ++ Y1 ++ X2 ++ Y2 ++ Q := by simp
    rw [decide_eq_true (by omega), decide_eq_true (by omega), Bool.and_true, cond_true, eL, hr, Option.bind_some, eR, last]
  · have hd : (decide ((s : Int) < (P.length : Int) + (X.length : Int)) && decide ((P.length : Int) + (X.length : Int) < ((P ++ X1 ++ X2 ++ Y1).length : Int))) = false := by
      rw [Bool.and_eq_false_iff, decide_eq_false_iff_not, decide_eq_false_iff_not]
      by_cases h : 0 < X2.length
      · exact .inr (fun h' => hcc ⟨h, by omega⟩)
      · exact .inl (by omega)
    have eL : P ++ X ++ Y ++ Q = P ++ X1 ++ Y1 ++ X2 ++ Y2 ++ Q := by
      rw [hx, hy]
      have : X2 = [] ∨ Y1 = [] := by
        rcases Nat.eq_zero_or_pos X2.length with h | h
        · exact .inl (List.eq_nil_of_length_eq_zero h)
        · rcases Nat.eq_zero_or_pos Y1.length with h' | h'
          · exact .inr (List.eq_nil_of_length_eq_zero h')
          · exact absurd ⟨h, h'⟩ hcc
      rcases this with h | h
      · subst h; simp
      · subst h; simp
    rw [hd, cond_false, eL, last]
theorem sym_eq (hs : Swo lt) (hc : Tells lt cmp) : ∀ f, SymR lt cmp f (FR_slices_symMergeCmpFunc_Action f)
  | 0 => fun P X Y Q a m b _ _ _ h1 h2 h3 => by omega
  | f + 1 => by
    intro P X Y Q a m b ha hm hb h1 h2 h3 hX hY hl
    subst ha hm hb
    have hbig : big = 1000000 := rfl
    have hl' := hl
    simp only [List.length_append] at hl'
    show F_slices_symMergeCmpFunc_Action_s (FR_slices_symMergeCmpFunc_Action f) _ _ _ _ _ = _
    unfold F_slices_symMergeCmpFunc_Action_s
    have e1 : IntKind.i64.wrap ((P.length : Int) + (X.length : Int) - (P.length : Int)) = (X.length : Int) := by rw [wr (by omega) (by omega)]; omega
    have e2 : IntKind.i64.wrap ((P.length : Int) + (X.length : Int) + (Y.length : Int) - ((P.length : Int) + (X.length : Int))) = (Y.length : Int) := by rw [wr (by omega) (by omega)]; omega
    rw [e1, e2]
    by_cases hx1 : X.length = 1
    · obtain ⟨x, rfl⟩ : ∃ x, X = [x] := List.length_eq_one_iff.1 hx1
      have := sym_one hs hc x Y P Q hY (by simpa using hl)
      rw [decide_eq_true (by omega), cond_true]
      have e : P ++ [x] ++ Y ++ Q = P ++ x :: (Y ++ Q) := by simp
      have e4 : (P.length : Int) + ([x].length : Int) = ((P.length + 1 : Nat) : Int) := by simp
      have e5 : ((P.length + 1 : Nat) : Int) + (Y.length : Int) = ((P.length + 1 + Y.length : Nat) : Int) := by omega
      rw [e, e4, e5, this]; rfl
    · rw [decide_eq_false (by omega), cond_false]
      by_cases hy1 : Y.length = 1
      · obtain ⟨y, rfl⟩ : ∃ y, Y = [y] := List.length_eq_one_iff.1 hy1
        have := sym_last hs hc y X P Q hX (by simpa using hl)
        rw [decide_eq_true (by omega), cond_true]
        have e : P ++ X ++ [y] ++ Q = P ++ X ++ y :: Q := by simp
        have e4 : (P.length : Int) + (X.length : Int) = ((P.length + X.length : Nat) : Int) := by omega
        rw [e, e4, this]
      · rw [decide_eq_false (by omega), cond_false, half _ (P.length + (P.length + X.length + Y.length)) (by omega) (by omega), Option.bind_some, halfN _ (by omega)]
        by_cases hmm : (P.length + (P.length + X.length + Y.length)) / 2 < P.length + X.length
        · rw [decide_eq_true (by omega), cond_true]
          have e3 : IntKind.i64.wrap (IntKind.i64.wrap ((((P.length + (P.length + X.length + Y.length)) / 2 : Nat) : Int) + ((P.length : Int) + (X.length : Int))) - ((P.length : Int) + (X.length : Int) + (Y.length : Int))) = (((P.length + (P.length + X.length + Y.length)) / 2 + (P.length + X.length) - (P.length + X.length + Y.length) : Nat) : Int) := by
            rw [wr (n := (((P.length + (P.length + X.length + Y.length)) / 2 : Nat) : Int) + ((P.length : Int) + (X.length : Int))) (by omega) (by omega), wr (by omega) (by omega)]; omega
          rw [e3]
          exact sm_j5 hs hc (sym_eq hs hc f) P X Y Q _ _ _ rfl (by omega) (by omega) (by omega) hX hY hl (.inl ⟨hmm, by omega, rfl⟩)
        · rw [decide_eq_false (by omega), cond_false]
          have e4 : (P.length : Int) + (X.length : Int) = ((P.length + X.length : Nat) : Int) := by omega
          have := sm_j5 hs hc (sym_eq hs hc f) P X Y Q _ P.length (P.length + X.length) rfl (by omega) (by omega) (by omega) hX hY hl (.inr ⟨by omega, rfl, rfl⟩)
          rw [← e4] at this
          exact this
theorem symM (hs : Swo lt) (hc : Tells lt cmp) (P X Y Q : List Action) (a m b : Int) (ha : a = (P.length : Int)) (hm : m = (P.length : Int) + (X.length : Int)) (hb : b = (P.length : Int) + (X.length : Int) + (Y.length : Int)) (h1 : 0 < X.length) (h2 : 0 < Y.length) (hX : Srtd lt X) (hY : Srtd lt Y) (hl : (P ++ X ++ Y ++ Q).length ≤ big) :
    F_slices_symMergeCmpFunc_Action (P ++ X ++ Y ++ Q) a m b cmp = some (P ++ srt lt (X ++ Y) ++ Q) :=
  sym_eq hs hc fuel0 P X Y Q a m b ha hm hb h1 h2 (by have hbig : big = 1000000 := rfl; simp only [List.length_append] at hl; unfold fuel0; omega) hX hY hl
end sym
end Go.Proofs.YtknpgojdkobgjaaGreat.W
set_option linter.unusedVariables false
set_option linter.unusedSimpArgs false
namespace Go.Proofs.YtknpgojdkobgjaaGreat.W
open Go Go.Wb
section ins
variable {lt : Action → Action → Bool} {cmp : Action → Action → Option Int}
theorem insA_l2 (hc : Tells lt cmp) (go : List Action → Int → Option (List Action)) (i : Int) (P : List Action) (x : Action) : ∀ (R S : List Action) (m : Nat), R.length < m → (P ++ R.reverse ++ x :: S).length ≤ big →
    F_slices_insertionSortCmpFunc_Action_l2 (P.length : Int) cmp go i m (P ++ R.reverse ++ x :: S) ((P.length + R.length : Nat) : Int) = go (P ++ (rins lt x R).reverse ++ S) (IntKind.i64.wrap (i + 1))
  | [], S, m, h, _ => by
    obtain ⟨m, rfl⟩ : ∃ k, m = k + 1 := ⟨m - 1, by simp at h; omega⟩
    rw [F_slices_insertionSortCmpFunc_Action_l2, decide_eq_false (by simp)]
    simp [opt, rins]
  | y :: R, S, m, h, hl => by
    have hbig : big = 1000000 := rfl
    simp only [List.length_cons, List.length_append, List.length_reverse] at h hl
    obtain ⟨m, rfl⟩ : ∃ k, m = k + 1 := ⟨m - 1, by omega⟩
    have e0 : P ++ (y :: R).reverse ++ x :: S = (P ++ R.reverse) ++ y :: (x :: S) := by simp
    have ej : IntKind.i64.wrap (((P.length + (y :: R).length : Nat) : Int) - 1) = ((P.length + R.length : Nat) : Int) := by rw [wr (by simp only [List.length_cons]; omega) (by simp only [List.length_cons]; omega)]; simp only [List.length_cons]; omega
    have g1 : ∀ a b : Action, lget ((P ++ R.reverse) ++ a :: (b :: S)) ((P.length + (y :: R).length : Nat) : Int) = some b := fun a b => by
      have : (P ++ R.reverse) ++ a :: (b :: S) = (P ++ R.reverse ++ [a]) ++ b :: S := by simp
      rw [this]; exact lget_at _ _ _ _ (by simp)
    have g0 : ∀ a b : Action, lget ((P ++ R.reverse) ++ a :: (b :: S)) ((P.length + R.length : Nat) : Int) = some a := fun a b => lget_at _ _ _ _ (by simp)
    have s1 : ∀ a b c : Action, List.set ((P ++ R.reverse) ++ a :: (b :: S)) (((P.length + (y :: R).length : Nat) : Int)).toNat c = (P ++ R.reverse) ++ a :: (c :: S) := fun a b c => by
      have : (P ++ R.reverse) ++ a :: (b :: S) = (P ++ R.reverse ++ [a]) ++ b :: S := by simp
      rw [this, Int.toNat_natCast, set_at _ _ _ _ _ (by simp)]; simp
    have s0 : ∀ a b c : Action, List.set ((P ++ R.reverse) ++ a :: (b :: S)) (((P.length + R.length : Nat) : Int)).toNat c = (P ++ R.reverse) ++ c :: (b :: S) := fun a b c => by
      rw [Int.toNat_natCast, set_at _ _ _ _ _ (by simp)]
    obtain ⟨c, hc1, hc2⟩ := hc x y
    rw [e0, F_slices_insertionSortCmpFunc_Action_l2, decide_eq_true (by simp only [List.length_cons]; omega), opt_true, g1, Option.bind_some, opt_true, ej, g0, Option.bind_some, opt_true, hc1, Option.bind_some, Bool.true_and, hc2, rins]
    cases lt x y
    · rw [cond_false, cond_false]
      simp
    · rw [cond_true, cond_true, Option.bind_some, Option.bind_some, Option.bind_some, s1, g0, Option.bind_some, s0, insA_l2 hc go i P x R (y :: S) m (by omega) (by simp only [List.length_append, List.length_cons, List.length_reverse]; omega)]
      simp
theorem rins_length (x : Action) (R : List Action) : (rins lt x R).length = R.length + 1 := by
  induction R with
  | nil => rfl
  | cons y R ih => rw [rins]; cases lt x y <;> simp [ih]
theorem insA_l1 (hc : Tells lt cmp) (P Q : List Action) : ∀ (T R : List Action) (m : Nat), T.length < m → (P ++ R.reverse ++ T ++ Q).length ≤ big →
    F_slices_insertionSortCmpFunc_Action_l1 ((P.length + R.length + T.length : Nat) : Int) (P.length : Int) cmp m (P ++ R.reverse ++ T ++ Q) ((P.length + R.length : Nat) : Int) = some (P ++ (T.foldl (fun R x => rins lt x R) R).reverse ++ Q)
  | [], R, m, h, _ => by
    obtain ⟨m, rfl⟩ : ∃ k, m = k + 1 := ⟨m - 1, by simp at h; omega⟩
    rw [F_slices_insertionSortCmpFunc_Action_l1, decide_eq_false (by simp), cond_false]
    simp
  | x :: T, R, m, h, h2 => by
    have hbig : big = 1000000 := rfl
    simp only [List.length_cons, List.length_append, List.length_reverse] at h h2
    obtain ⟨m, rfl⟩ : ∃ k, m = k + 1 := ⟨m - 1, by omega⟩
    have e : IntKind.i64.wrap (((P.length + R.length : Nat) : Int) + 1) = ((P.length + (rins lt x R).length : Nat) : Int) := by rw [rins_length, wr (by omega) (by omega)]; omega
    have hn : P.length + R.length + (x :: T).length = P.length + (rins lt x R).length + T.length := by rw [rins_length, List.length_cons]; omega
    have e0 : P ++ R.reverse ++ x :: T ++ Q = P ++ R.reverse ++ x :: (T ++ Q) := by simp
    rw [F_slices_insertionSortCmpFunc_Action_l1, decide_eq_true (by simp only [List.length_cons]; omega), cond_true, e0, insA_l2 hc _ _ P x R (T ++ Q) fuel0 (by unfold fuel0; omega) (by simp only [List.length_append, List.length_cons, List.length_reverse]; omega), e, hn,
      ← List.append_assoc, insA_l1 hc P Q T (rins lt x R) m (by omega) (by simp only [List.length_append, List.length_reverse, rins_length]; omega), List.foldl_cons]
theorem insA_eq (hc : Tells lt cmp) (P L Q : List Action) (a b : Int) (ha : a = (P.length : Int)) (hb : b = (P.length : Int) + (L.length : Int)) (h : (P ++ L ++ Q).length ≤ big) : F_slices_insertionSortCmpFunc_Action (P ++ L ++ Q) a b cmp = some (P ++ srt lt L ++ Q) := by
  subst ha hb
  have hbig : big = 1000000 := rfl
  have h' := h
  simp only [List.length_append] at h'
  unfold F_slices_insertionSortCmpFunc_Action srt
  cases L with
  | nil =>
    rw [wr (by omega) (by omega)]
    obtain ⟨m, hm⟩ : ∃ m, (((P.length : Int) + (([] : List Action).length : Int)) - ((P.length : Int) + 1)).toNat + 1 = m + 1 := ⟨_, rfl⟩
    rw [hm, F_slices_insertionSortCmpFunc_Action_l1, decide_eq_false (by simp only [List.length_nil]; omega), cond_false]
    rfl
  | cons x L =>
    simp only [List.length_cons] at h'
    have := insA_l1 hc P Q L [x] ((((P.length : Int) + ((x :: L).length : Int)) - ((P.length : Int) + 1)).toNat + 1) (by simp only [List.length_cons]; omega) (by simp only [List.length_append, List.length_reverse, List.length_cons, List.length_nil]; omega)
    have e1 : ((P.length + [x].length + L.length : Nat) : Int) = (P.length : Int) + ((x :: L).length : Int) := by simp; omega
    have e2 : ((P.length + [x].length : Nat) : Int) = (P.length : Int) + 1 := by simp
    have e3 : P ++ [x].reverse ++ L ++ Q = P ++ x :: L ++ Q := by simp
    rw [e1, e2, e3] at this
    rw [wr (by omega) (by omega), this]
    rfl
end ins
end Go.Proofs.YtknpgojdkobgjaaGreat.W
set_option linter.unusedVariables false
set_option linter.unusedSimpArgs false
namespace Go.Proofs.YtknpgojdkobgjaaGreat.W
open Go Go.Wb
section stable
variable {lt : Action → Action → Bool} {cmp : Action → Action → Option Int}
def csort (lt : Action → Action → Bool) (s : Nat) (L : List Action) : List Action :=
  if h : s = 0 ∨ L.length < s then srt lt L else srt lt (L.take s) ++ csort lt s (L.drop s)
termination_by L.length
decreasing_by simp; omega
theorem csort_lt {s : Nat} {L : List Action} (h : L.length < s) : csort lt s L = srt lt L := by rw [csort, dif_pos (.inr h)]
theorem csort_cut {s : Nat} {A L : List Action} (hA : A.length = s) (h0 : 0 < s) : csort lt s (A ++ L) = srt lt A ++ csort lt s L := by
  subst hA
  rw [csort, dif_neg (by rw [List.length_append]; omega), List.take_left, List.drop_left]
theorem srt_nil : srt lt ([] : List Action) = [] := rfl
theorem csort_one {s : Nat} {L : List Action} (h : L.length ≤ s) (h0 : 0 < s) : csort lt s L = srt lt L := by
  rcases Nat.lt_or_eq_of_le h with h1 | h1
  · exact csort_lt h1
  · have := csort_cut (lt := lt) (L := []) h1 h0
    have e : csort lt s [] = srt lt [] := csort_lt (by simpa using h0)
    rw [List.append_nil, e, srt_nil, List.append_nil] at this
    exact this
theorem csort_len (hs : Swo lt) (s : Nat) (h0 : 0 < s) : ∀ (n : Nat) (L : List Action), L.length ≤ n → (csort lt s L).length = L.length
  | 0, L, h => by rw [csort_lt (by omega), srt_len hs]
  | n + 1, L, h => by
    by_cases hl : L.length < s
    · rw [csort_lt hl, srt_len hs]
    · have e : L = L.take s ++ L.drop s := (List.take_append_drop ..).symm
      have h1 : (L.take s).length = s := by simp; omega
      rw [e, csort_cut h1 h0, List.length_append, srt_len hs, csort_len hs s h0 n (L.drop s) (by simp; omega), List.length_append]
theorem st_l1 (hs : Swo lt) (hc : Tells lt cmp) (n : Nat) : ∀ (k : Nat) (D L : List Action) (f : Nat), L.length ≤ k → D.length + L.length = n → n ≤ 100000 → L.length < f * 20 →
    F_slices_stableCmpFunc_Action_l1 (n : Int) cmp f (D ++ L) (D.length : Int) ((D.length + 20 : Nat) : Int) = F_slices_stableCmpFunc_Action_l2 (n : Int) cmp (((n : Int) - 20).toNat + 1) (D ++ csort lt 20 L) 20
  | k, D, L, 0, _, _, _, h => by omega
  | k, D, L, f + 1, hk, hn, hb, hf => by
    have hbig : big = 1000000 := rfl
    rw [F_slices_stableCmpFunc_Action_l1]
    by_cases hl : L.length < 20
    · have := insA_eq hc D L [] (D.length : Int) (n : Int) rfl (by omega) (by simp only [List.length_append, List.length_nil]; omega)
      simp only [List.append_nil] at this
      rw [decide_eq_false (by omega), cond_false, this, Option.bind_some, csort_lt hl]
    · obtain ⟨k, rfl⟩ : ∃ j, k = j + 1 := ⟨k - 1, by omega⟩
      have e : L = L.take 20 ++ L.drop 20 := (List.take_append_drop ..).symm
      have h1 : (L.take 20).length = 20 := by simp; omega
      have h2 : (L.drop 20).length = L.length - 20 := by simp
      generalize L.take 20 = A at *
      generalize L.drop 20 = B at *
      subst e
      have := insA_eq hc D A B (D.length : Int) ((D.length + 20 : Nat) : Int) rfl (by omega) (by simp only [List.length_append] at hn ⊢; omega)
      have e20 : IntKind.i64.wrap (((D.length + 20 : Nat) : Int) + 20) = (((D ++ srt lt A).length + 20 : Nat) : Int) := by rw [wr (by omega) (by omega), List.length_append, srt_len hs]; omega
      have e21 : ((D.length + 20 : Nat) : Int) = ((D ++ srt lt A).length : Int) := by rw [List.length_append, srt_len hs]; omega
      simp only [List.length_append] at hn hl hf hk
      rw [decide_eq_true (by omega), cond_true, ← List.append_assoc, this, Option.bind_some, e20, e21,
        st_l1 hs hc n k (D ++ srt lt A) B f (by omega) (by simp only [List.length_append, srt_len hs]; omega) hb (by omega), csort_cut h1 (by omega)]
      simp
theorem st_l3 (hs : Swo lt) (hc : Tells lt cmp) (go : List Action → Int → Option (List Action)) (n s : Nat) (hs0 : 0 < s) (hs1 : s ≤ 100000) : ∀ (k : Nat) (D L : List Action) (f : Nat), L.length ≤ k → D.length + L.length = n → n ≤ 100000 → L.length < f * (2 * s) →
    F_slices_stableCmpFunc_Action_l3 (n : Int) (s : Int) cmp go f (D ++ csort lt s L) (D.length : Int) ((D.length + 2 * s : Nat) : Int) = go (D ++ csort lt (2 * s) L) ((2 * s : Nat) : Int)
  | k, D, L, 0, _, _, _, h => by omega
  | k, D, L, f + 1, hk, hn, hb, hf => by
    have hbig : big = 1000000 := rfl
    rw [F_slices_stableCmpFunc_Action_l3]
    have em : IntKind.i64.wrap ((D.length : Int) + (s : Int)) = ((D.length + s : Nat) : Int) := by rw [wr (by omega) (by omega)]; omega
    have eg : IntKind.i64.wrap ((s : Int) * 2) = ((2 * s : Nat) : Int) := by rw [wr (by omega) (by omega)]; omega
    by_cases hl : L.length < 2 * s
    · rw [decide_eq_false (by omega), cond_false, em, eg, csort_lt hl]
      by_cases hl2 : s < L.length
      · have e : L = L.take s ++ L.drop s := (List.take_append_drop ..).symm
        have h1 : (L.take s).length = s := by simp; omega
        have h2 : (L.drop s).length = L.length - s := by simp
        generalize L.take s = A at *
        generalize L.drop s = B at *
        subst e
        simp only [List.length_append] at hn hl hl2
        rw [csort_cut h1 hs0, csort_lt (by omega)]
        have := symM hs hc D (srt lt A) (srt lt B) [] (D.length : Int) ((D.length + s : Nat) : Int) (n : Int) rfl (by rw [srt_len hs]; omega) (by rw [srt_len hs, srt_len hs]; omega) (by rw [srt_len hs]; omega) (by rw [srt_len hs]; omega) (srt_sorted hs _) (srt_sorted hs _)
          (by simp only [List.length_append, srt_len hs, List.length_nil]; omega)
        simp only [List.append_nil, List.append_assoc] at this
        rw [decide_eq_true (by omega), cond_true, this, Option.bind_some, srt_srt_append hs]
      · rw [decide_eq_false (by omega), cond_false, csort_one (by omega) hs0]
    · obtain ⟨k, rfl⟩ : ∃ j, k = j + 1 := ⟨k - 1, by omega⟩
      have e : L = L.take s ++ ((L.drop s).take s ++ (L.drop s).drop s) := by rw [List.take_append_drop, List.take_append_drop]
      have h1 : (L.take s).length = s := by simp; omega
      have h2 : ((L.drop s).take s).length = s := by simp; omega
      have h3 : ((L.drop s).drop s).length = L.length - 2 * s := by simp; omega
      generalize L.take s = A at *
      generalize (L.drop s).take s = B at *
      generalize (L.drop s).drop s = E at *
      subst e
      simp only [List.length_append] at hn hl hk hf
      have hf' : E.length < f * (2 * s) := by rw [Nat.add_mul] at hf; omega
      have hE := csort_len hs s hs0 E.length E (Nat.le_refl _)
      have := symM hs hc D (srt lt A) (srt lt B) (csort lt s E) (D.length : Int) ((D.length + s : Nat) : Int) ((D.length + 2 * s : Nat) : Int) rfl (by rw [srt_len hs]; omega) (by rw [srt_len hs, srt_len hs]; omega) (by rw [srt_len hs]; omega) (by rw [srt_len hs]; omega) (srt_sorted hs _) (srt_sorted hs _)
        (by simp only [List.length_append, srt_len hs, hE]; omega)
      have e2 : D ++ csort lt s (A ++ (B ++ E)) = D ++ srt lt A ++ srt lt B ++ csort lt s E := by rw [csort_cut h1 hs0, csort_cut h2 hs0]; simp
      have e3 : IntKind.i64.wrap (((D.length + 2 * s : Nat) : Int) + IntKind.i64.wrap (2 * (s : Int))) = (((D ++ srt lt (A ++ B)).length + 2 * s : Nat) : Int) := by
        rw [wr (n := 2 * (s : Int)) (by omega) (by omega), wr (by omega) (by omega), List.length_append, srt_len hs, List.length_append]; omega
      have e4 : ((D.length + 2 * s : Nat) : Int) = ((D ++ srt lt (A ++ B)).length : Int) := by rw [List.length_append, srt_len hs, List.length_append]; omega
      rw [decide_eq_true (by omega), cond_true, em, e2, this, Option.bind_some, srt_srt_append hs, e3, e4,
        st_l3 hs hc go n s hs0 hs1 k (D ++ srt lt (A ++ B)) E f (by omega) (by simp only [List.length_append, srt_len hs]; omega) hb hf']
      have e5 : A ++ (B ++ E) = (A ++ B) ++ E := by simp
      rw [e5, csort_cut (by simp; omega) (by omega)]
      simp
theorem st_l2 (hs : Swo lt) (hc : Tells lt cmp) (L : List Action) (hb : L.length ≤ 100000) : ∀ (f s : Nat), 0 < f → 0 < s → s ≤ 200000 → L.length < f + s →
    F_slices_stableCmpFunc_Action_l2 (L.length : Int) cmp f (csort lt s L) (s : Int) = some (srt lt L)
  | 0, s, hf, h0, h1, h2 => by omega
  | f + 1, s, hf, h0, h1, h2 => by
    rw [F_slices_stableCmpFunc_Action_l2]
    by_cases hl : s < L.length
    · have e2 : IntKind.i64.wrap (2 * (s : Int)) = ((2 * s : Nat) : Int) := by rw [wr (by omega) (by omega)]; omega
      have := st_l3 hs hc (F_slices_stableCmpFunc_Action_l2 (L.length : Int) cmp f) L.length s h0 (by omega) L.length [] L ((((L.length : Int) : Int) - ((2 * s : Nat) : Int)).toNat + 2) (Nat.le_refl _) (by simp) hb (by
        have h3 : L.length < (L.length - 2 * s + 2) * (2 * s) := by
          have : L.length - 2 * s + 2 ≤ (L.length - 2 * s + 2) * (2 * s) := Nat.le_mul_of_pos_right _ (by omega)
          by_cases hc : L.length < 2 * s
          · have : 2 * (2 * s) ≤ (L.length - 2 * s + 2) * (2 * s) := Nat.mul_le_mul_right _ (by omega)
            omega
          · have e : (L.length - 2 * s + 2) * (2 * s) = (L.length - 2 * s + 1) * (2 * s) + 2 * s := by rw [show L.length - 2 * s + 2 = (L.length - 2 * s + 1) + 1 from rfl, Nat.add_mul, Nat.one_mul]
            have : L.length - 2 * s + 1 ≤ (L.length - 2 * s + 1) * (2 * s) := Nat.le_mul_of_pos_right _ (by omega)
            omega
        have e : (((L.length : Int) : Int) - ((2 * s : Nat) : Int)).toNat + 2 = L.length - 2 * s + 2 := by omega
        rw [e]; exact h3)
      simp only [List.nil_append, List.length_nil, Nat.zero_add] at this
      rw [decide_eq_true (by omega), cond_true, e2]
      have e0 : ((0 : Nat) : Int) = 0 := rfl
      rw [e0] at this
      rw [this, st_l2 hs hc L hb f (2 * s) (by omega) (by omega) (by omega) (by omega)]
    · rw [decide_eq_false (by omega), cond_false, csort_one (by omega) h0]
theorem stable_eq (hs : Swo lt) (hc : Tells lt cmp) (L : List Action) (hb : L.length ≤ 100000) : F_slices_SortStableFunc_Action L cmp = some (srt lt L) := by
  unfold F_slices_SortStableFunc_Action F_slices_stableCmpFunc_Action
  have h1 := st_l1 hs hc L.length L.length [] L ((((L.length : Int) : Int) - 20).toNat + 2) (Nat.le_refl _) (by simp) hb (by omega)
  have h2 := st_l2 hs hc L hb ((((L.length : Int) : Int) - 20).toNat + 1) 20 (by omega) (by omega) (by omega) (by omega)
  simp only [List.nil_append, List.length_nil, Nat.zero_add] at h1
  have e0 : ((0 : Nat) : Int) = 0 := rfl
  have e20 : ((20 : Nat) : Int) = 20 := rfl
  rw [e0, e20] at h1
  rw [e20] at h2
  rw [h1, h2]; rfl
end stable
end Go.Proofs.YtknpgojdkobgjaaGreat.W
set_option linter.unusedVariables false
set_option linter.unusedSimpArgs false
namespace Go.Proofs.YtknpgojdkobgjaaGreat.W
open Go Go.Wb
def wand (a b : Wide) : Wide := ⟨a.Hi &&& b.Hi, a.Lo &&& b.Lo⟩
def wor (a b : Wide) : Wide := ⟨a.Hi ||| b.Hi, a.Lo ||| b.Lo⟩
def wxor (a b : Wide) : Wide := ⟨a.Hi ^^^ b.Hi, a.Lo ^^^ b.Lo⟩
def wless (a b : Wide) : Wide := ⟨a.Hi &&& ~~~b.Hi, a.Lo &&& ~~~b.Lo⟩
def wt (a : Wide) (i : Nat) : Bool := bif Nat.blt i 64 then a.Lo.getLsbD i else a.Hi.getLsbD (i - 64)
def wbit (i : Nat) : Wide := bif Nat.blt i 64 then ⟨0, 1#64 <<< i⟩ else ⟨1#64 <<< (i - 64), 0⟩
theorem blt_t {i n : Nat} (h : i < n) : Nat.blt i n = true := by simpa using h
theorem blt_f {i n : Nat} (h : ¬ i < n) : Nat.blt i n = false := by
  cases hb : Nat.blt i n
  · rfl
  · exact absurd (by simpa using hb) h
def wzero (a : Wide) : Bool := decide ((a.Hi ||| a.Lo) = (0 : BitVec 64))
theorem oushl_nat (x : BitVec 64) (n : Nat) : oushl x (n : Int) = some (x <<< n) := by
  unfold oushl
  rw [decide_eq_false (by omega)]
  simp
theorem F_wide_And_eq (a b : Wide) : F_wide_And a b = some (wand a b) := rfl
theorem F_wide_Or_eq (a b : Wide) : F_wide_Or a b = some (wor a b) := rfl
theorem F_wide_Less_eq (a b : Wide) : F_wide_Less a b = some (wless a b) := rfl
theorem F_wide_Bit_eq (i : Nat) (h : i < 128) : F_wide_Bit (i : Int) = some (wbit i) := by
  unfold F_wide_Bit
  have h1 : (decide ((i : Int) < 0) || decide ((i : Int) > 127)) = false := by simp; omega
  have hq : oquo .i64 (i : Int) 64 = some ((i / 64 : Nat) : Int) := by
    unfold oquo
    rw [decide_eq_false (by decide)]
    show some (IntKind.i64.wrap ((i / 64 : Nat) : Int)) = _
    rw [wrap_i64 (by omega) (by omega)]
  have hm : omod (i : Int) 64 = some ((i % 64 : Nat) : Int) := omod_nat i 64 (by omega)
  rw [h1, cond_false, hq, Option.bind_some, hm, Option.bind_some, oushl_nat, Option.bind_some, chk_nat (by omega), Option.bind_some]
  unfold wbit
  by_cases h2 : i < 64
  · rw [blt_t h2, cond_true]
    have e1 : i / 64 = 0 := by omega
    have e2 : i % 64 = i := by omega
    simp only [e1, e2]
    rfl
  · rw [blt_f h2, cond_false]
    have e1 : i / 64 = 1 := by omega
    have e2 : i % 64 = i - 64 := by omega
    simp only [e1, e2]
    rfl
abbrev Cube := Vector Tern 24
abbrev Header := Vector Wide 24
def tclean (t : Tern) : Tern := ⟨wand t.Value t.Mask, t.Mask⟩
theorem F_tern_Clean_eq (t : Tern) : F_tern_Clean t = some (tclean t) := rfl
def cclean (c : Cube) : Cube := Vector.ofFn fun i => tclean (ve c i.1)
def tover (a b : Tern) : Tern := ⟨wor (wless (tclean a).Value b.Mask) (tclean b).Value, wor a.Mask b.Mask⟩
theorem F_rewrite_over_eq (a b : Tern) : F_rewrite_over a b = some (tover a b) := rfl
theorem F_rewrite_each_Rewrite_l1_eq (f : Int → Option Tern) (g : Nat → Tern) (hf : ∀ i : Nat, i < 24 → f (i : Int) = some (g i)) (b : Cube) : ∀ (m i : Nat), i + m = 24 → F_rewrite_each_Rewrite_l1 f m i (upto g b i) = some (Vector.ofFn (fun i => g i.1))
  | 0, i, h => by
    have : i = 24 := by omega
    subst this
    rw [F_rewrite_each_Rewrite_l1, upto_all]
  | m + 1, i, h => by
    rw [F_rewrite_each_Rewrite_l1, hf i (by omega), Option.bind_some, chk_nat (by omega), Option.bind_some]
    show F_rewrite_each_Rewrite_l1 f m (i + 1) (Vector.set (upto g b i) i (g i) _) = _
    rw [upto_set g b i (by omega), F_rewrite_each_Rewrite_l1_eq f g hf b m (i + 1) (by omega)]
theorem F_rewrite_each_Rewrite_eq (f : Int → Option Tern) (g : Nat → Tern) (hf : ∀ i : Nat, i < 24 → f (i : Int) = some (g i)) : F_rewrite_each_Rewrite f = some (Vector.ofFn (fun i => g i.1)) := by
  unfold F_rewrite_each_Rewrite
  have := F_rewrite_each_Rewrite_l1_eq f g hf (Vector.replicate 24 zTern) 24 0 rfl
  rw [upto_zero] at this
  exact this
theorem F_rewrite_Clean_eq (r : Cube) : F_rewrite_Clean r = some (cclean r) := by
  unfold F_rewrite_Clean
  rw [F_rewrite_each_Rewrite_eq (fun x => F_rewrite_Clean_1 x r) (fun i => tclean (ve r i)) (fun i hi => by unfold F_rewrite_Clean_1; rw [chk_nat hi, Option.bind_some, vget_eq, F_tern_Clean_eq]; rfl)]
  rfl
def capply (r : Cube) (h : Header) : Header := Vector.ofFn fun f => wor (wless (ve h f.1) (ve r f.1).Mask) (wand (ve r f.1).Value (ve r f.1).Mask)
theorem F_rewrite_Apply_l1_eq (r : Cube) (h : Header) : ∀ (l : List Tern) (i : Nat), i + l.length = 24 → l = (Vector.toList r).drop i → F_rewrite_Apply_l1 l i (upto (fun f => wor (wless (ve h f) (ve r f).Mask) (wand (ve r f).Value (ve r f).Mask)) h i) = some (capply r h)
  | [], i, h1, h2 => by
    have : i = 24 := by simpa using h1
    subst this
    rw [F_rewrite_Apply_l1, upto_all]; rfl
  | x :: l, i, h1, h2 => by
    simp only [List.length_cons] at h1
    have hi : i < (Vector.toList r).length := by simp; omega
    rw [List.drop_eq_getElem_cons hi] at h2
    obtain ⟨rfl, h3⟩ := List.cons.inj h2
    have hx : (Vector.toList r)[i] = ve r i := by rw [Vector.getElem_toList, ve_lt _ _ (by omega)]
    rw [F_rewrite_Apply_l1, hx, chk_nat (by omega), Option.bind_some, vget_eq, F_wide_Less_eq, Option.bind_some, F_wide_And_eq, Option.bind_some, F_wide_Or_eq, Option.bind_some, Option.bind_some, ve_upto _ _ _ _ (by omega), if_neg (by omega)]
    have := upto_set (fun f => wor (wless (ve h f) (ve r f).Mask) (wand (ve r f).Value (ve r f).Mask)) h i (by omega)
    rw [this]
    exact F_rewrite_Apply_l1_eq r h l (i + 1) (by omega) h3
theorem F_rewrite_Apply_eq (r : Cube) (h : Header) : F_rewrite_Apply r h = some (capply r h) := by
  unfold F_rewrite_Apply
  have := F_rewrite_Apply_l1_eq r h (Vector.toList r) 0 (by simp) rfl
  rw [upto_zero] at this
  exact this
def cset (r : Cube) (f : Int) (v m : Wide) : Cube := bif decide (f ≥ 0) && decide (f < 24) then Vector.ofFn fun i => if f.toNat = i.1 then tover (ve (cclean r) f.toNat) ⟨v, m⟩ else ve (cclean r) i.1 else cclean r
theorem F_rewrite_Set_eq (r : Cube) (f : Int) (v m : Wide) : F_rewrite_Set r f v m = some (cset r f v m) := by
  unfold F_rewrite_Set cset F_field_Right
  rw [F_rewrite_Clean_eq, Option.bind_some, Option.bind_some]
  cases hc : (decide (f ≥ 0) && decide (f < 24))
  · rfl
  · simp only [Bool.and_eq_true, decide_eq_true_eq] at hc
    obtain ⟨n, rfl⟩ : ∃ n : Nat, f = (n : Int) := ⟨f.toNat, by omega⟩
    have hn : n < 24 := by omega
    have e : Vector.set (cclean r) n (tover (ve (cclean r) n) ⟨v, m⟩) hn = Vector.ofFn fun i : _root_.Fin 24 => if n = i.1 then tover (ve (cclean r) n) ⟨v, m⟩ else ve (cclean r) i.1 := ve_ext fun j hj => by
      rw [ve_set _ _ _ _ _ hj]
      exact (ve_ofFn (fun i => if n = i then tover (ve (cclean r) n) ⟨v, m⟩ else ve (cclean r) i) j hj).symm
    rw [cond_true, cond_true, chk_nat hn, Option.bind_some, vget_eq, F_rewrite_over_eq, Option.bind_some, Option.bind_some, Int.toNat_natCast]
    exact congrArg some e
theorem F_wide_low_some (n : Int) : ∃ x, F_wide_low n = some x := by
  unfold F_wide_low
  cases decide (n ≥ 64)
  · have h0 : 0 ≤ imax n 0 := by
      unfold imax
      by_cases h : (0 : Int) > n
      · simp [h]
      · simp [h]; omega
    obtain ⟨k, hk⟩ : ∃ k : Nat, imax n 0 = (k : Int) := ⟨(imax n 0).toNat, by omega⟩
    rw [cond_false, hk, oushl_nat]
    exact ⟨_, rfl⟩
  · exact ⟨_, rfl⟩
def wlow (n : Int) : Wide := (F_wide_Low n).getD zWide
theorem F_wide_Low_eq (n : Int) : F_wide_Low n = some (wlow n) := by
  obtain ⟨x, hx⟩ := F_wide_low_some (IntKind.i64.wrap ((imin (imax n 0) 128) - 64))
  obtain ⟨y, hy⟩ := F_wide_low_some (imin (imax n 0) 128)
  have : F_wide_Low n = some ⟨x, y⟩ := by unfold F_wide_Low; rw [hx, Option.bind_some, hy]; rfl
  unfold wlow
  rw [this]; rfl
def fbits (n : Int) : Int := (F_field_Bits n).getD 0
theorem F_field_rows_some : ∃ v, F_field_rows = some v := by unfold F_field_rows; exact ⟨_, rfl⟩
theorem F_field_Bits_eq (n : Int) : F_field_Bits n = some (fbits n) := by
  have : ∃ x, F_field_Bits n = some x := by
    unfold F_field_Bits F_field_at F_field_Right
    rw [Option.bind_some]
    cases hc : (decide (n ≥ 0) && decide (n < 24))
    · exact ⟨_, rfl⟩
    · simp only [Bool.and_eq_true, decide_eq_true_eq] at hc
      obtain ⟨k, rfl⟩ : ∃ k : Nat, n = (k : Int) := ⟨n.toNat, by omega⟩
      obtain ⟨v, hv⟩ := F_field_rows_some
      rw [Bool.not_true, cond_false, hv, Option.bind_some, lget_lt (by simp; omega), Option.bind_some, Option.bind_some]
      exact ⟨_, rfl⟩
  obtain ⟨x, hx⟩ := this
  unfold fbits
  rw [hx]; rfl
def oxT (o : Oxm) : Tern := bif decide (o.Field ≥ 0) && decide (o.Field < 24) then (bif o.Masked then ⟨o.Value, o.Mask⟩ else ⟨o.Value, wlow (fbits o.Field)⟩) else ⟨zWide, zWide⟩
theorem F_oxm_Tern_eq (o : Oxm) : F_oxm_Tern o = some (oxT o) := by
  unfold F_oxm_Tern oxT F_field_Right
  rw [Option.bind_some]
  cases decide (o.Field ≥ 0) && decide (o.Field < 24)
  · rfl
  · rw [Bool.not_true, cond_false, cond_true]
    cases o.Masked
    · rw [cond_false, cond_false, F_field_Bits_eq, Option.bind_some, F_wide_Low_eq]; rfl
    · rfl
def none24 : Cube := Vector.replicate 24 zTern
def rwOf (a : Action) : Cube :=
  bif decide (a.Kind = 25) then cset none24 a.Oxm.Field (oxT a.Oxm).Value (oxT a.Oxm).Mask
  else bif decide (a.Kind = 17) then cset none24 5 (wbit 12) (wbit 12)
  else bif decide (a.Kind = 18) then cset (cset none24 5 ⟨0, 0⟩ (wlow 13)) 6 ⟨0, 0⟩ (wlow 3)
  else none24
theorem F_aset_Rewrite_eq (a : Action) : F_aset_Rewrite a = some (rwOf a) := by
  unfold F_aset_Rewrite rwOf
  rw [show F_rewrite_None = some none24 from rfl, Option.bind_some]
  cases decide (a.Kind = 25)
  · rw [cond_false, cond_false]
    cases decide (a.Kind = 17)
    · rw [cond_false, cond_false]
      cases decide (a.Kind = 18)
      · rfl
      · rw [cond_true, cond_true, F_wide_Low_eq, Option.bind_some, F_rewrite_Set_eq, Option.bind_some, F_wide_Low_eq, Option.bind_some, F_rewrite_Set_eq]; rfl
    · rw [cond_true, cond_true, show (12 : Int) = ((12 : Nat) : Int) from rfl, F_wide_Bit_eq 12 (by decide), Option.bind_some, Option.bind_some, F_rewrite_Set_eq]; rfl
  · rw [cond_true, cond_true, F_oxm_Tern_eq, Option.bind_some, F_rewrite_Set_eq]; rfl
def mostOf (a : Action) : Int := bif decide (a.Port = 4294967293) then a.Max else 0
theorem F_exec_most_eq (a : Action) : F_exec_most a = some (mostOf a) := by
  unfold F_exec_most mostOf
  cases decide (a.Port = 4294967293) <;> rfl
theorem fidx_split {α : Type} (p : α → Bool) : ∀ l : List α, 0 ≤ fidx p l → (l.take ((fidx p l).toNat + 1)).filter (fun x => !p x) = l.take (fidx p l).toNat
  | [], h => by simp [fidx] at h
  | x :: l, h => by
    unfold fidx at h ⊢
    cases hp : p x
    · rw [hp] at h
      by_cases h' : fidx p l < 0
      · simp [h'] at h
      · simp only [cond_false, decide_eq_false h']
        have e : (fidx p l + 1).toNat = (fidx p l).toNat + 1 := by omega
        rw [e, List.take_succ_cons, List.take_succ_cons, List.filter_cons_of_pos (by simp [hp]), fidx_split p l (by omega)]
    · simp [hp]
theorem fidx_all {α : Type} (p : α → Bool) (l : List α) (h : fidx p l < 0) : l.filter (fun x => !p x) = l := by
  rw [List.filter_eq_self]
  intro x hx
  rw [fidx_none p l h x hx]; rfl
theorem fidx_find {α : Type} (p : α → Bool) : ∀ l : List α, (fidx p l < 0 ∧ l.find? p = none) ∨ ∃ n : Nat, fidx p l = (n : Int) ∧ ∃ h : n < l.length, l.find? p = some l[n] ∧ p l[n] = true
  | [] => .inl ⟨by simp [fidx], rfl⟩
  | x :: l => by
    unfold fidx
    cases hp : p x
    · rw [cond_false, List.find?_cons_of_neg (by simp [hp])]
      rcases fidx_find p l with ⟨h1, h2⟩ | ⟨n, h1, h2, h3, h4⟩
      · left; rw [decide_eq_true h1]; exact ⟨by show (-1 : Int) < 0; decide, h2⟩
      · right
        rw [decide_eq_false (by omega)]
        exact ⟨n + 1, by show fidx p l + 1 = _; omega, by simp; omega, by simpa using h3, by simpa using h4⟩
    · right
      exact ⟨0, rfl, by simp, by rw [List.find?_cons_of_pos hp]; rfl, hp⟩
theorem F_slices_IndexFunc_Action_eq (s : List Action) (f : Action → Option Bool) (p : Action → Bool) (hf : ∀ x ∈ s, f x = some (p x)) : F_slices_IndexFunc_Action s f = some (fidx p s) := by
  unfold F_slices_IndexFunc_Action
  rw [show ((s.length : Int)).toNat = s.length by omega]
  exact idx_spec p (fun i => by rw [F_slices_IndexFunc_Action_l1]) (fun m i => by rw [F_slices_IndexFunc_Action_l1]) hf
theorem F_slices_IndexFunc_Group_eq (s : List Group) (f : Group → Option Bool) (p : Group → Bool) (hf : ∀ x ∈ s, f x = some (p x)) : F_slices_IndexFunc_Group s f = some (fidx p s) := by
  unfold F_slices_IndexFunc_Group
  rw [show ((s.length : Int)).toNat = s.length by omega]
  exact idx_spec p (fun i => by rw [F_slices_IndexFunc_Group_l1]) (fun m i => by rw [F_slices_IndexFunc_Group_l1]) hf
theorem F_slices_IndexFunc_Bucket_eq (s : List Bucket) (f : Bucket → Option Bool) (p : Bucket → Bool) (hf : ∀ x ∈ s, f x = some (p x)) : F_slices_IndexFunc_Bucket s f = some (fidx p s) := by
  unfold F_slices_IndexFunc_Bucket
  rw [show ((s.length : Int)).toNat = s.length by omega]
  exact idx_spec p (fun i => by rw [F_slices_IndexFunc_Bucket_l1]) (fun m i => by rw [F_slices_IndexFunc_Bucket_l1]) hf
theorem F_slices_Index_int_eq (s : List Int) (v : Int) : F_slices_Index_int s v = some (fidx (fun x => decide (v = x)) s) := by
  unfold F_slices_Index_int
  rw [show ((s.length : Int)).toNat = s.length by omega]
  exact idx_spec (f := fun x => some (decide (v = x))) (fun x => decide (v = x)) (fun i => by rw [F_slices_Index_int_l1]) (fun m i => by rw [F_slices_Index_int_l1]; rfl) (fun _ _ => rfl)
theorem F_slices_Contains_int_eq (s : List Int) (v : Int) : F_slices_Contains_int s v = some (s.contains v) := by
  unfold F_slices_Contains_int; rw [F_slices_Index_int_eq, Option.bind_some, fidx_any]
  congr 1
  rw [Bool.eq_iff_iff, List.any_eq_true, List.contains_iff_mem]
  simp
theorem F_env_Up_eq (e : Env) (n : Int) : F_env_Up e n = some (!e.Down.contains n) := by
  unfold F_env_Up; rw [F_slices_Contains_int_eq]; rfl
theorem F_slices_DeleteFunc_Action_eq (s : List Action) (f : Action → Option Bool) (p : Action → Bool) (hf : ∀ x ∈ s, f x = some (p x)) (hl : s.length ≤ lim) : F_slices_DeleteFunc_Action s f = some (s.filter (fun x => !p x)) := by
  have hlim : lim = 4294967296 := rfl
  unfold F_slices_DeleteFunc_Action
  rw [F_slices_IndexFunc_Action_eq s f p hf, Option.bind_some]
  by_cases h : fidx p s < 0
  · have := fidx_ge p s
    rw [decide_eq_true (by omega), cond_true, fidx_all p s h]
  · have hlt := fidx_lt p s
    rw [decide_eq_false (by omega), cond_false, wrap_i64 (by omega) (by omega)]
    have key := del_spec (z := zAction) (G := F_slices_DeleteFunc_Action_l1 f) (s := s) (f := f) p (fun m l i j => by rw [F_slices_DeleteFunc_Action_l1]) hf hl (((s.length : Int) - (fidx p s + 1)).toNat + 1) s (fidx p s).toNat ((fidx p s).toNat + 1) (by omega) (by omega) (by omega) rfl rfl (fidx_split p s (by omega)).symm
    rw [show ((fidx p s).toNat : Int) = fidx p s by omega, show (((fidx p s).toNat + 1 : Nat) : Int) = fidx p s + 1 by omega] at key
    exact key
theorem F_slices_ContainsFunc_Action_eq (s : List Action) (f : Action → Option Bool) (p : Action → Bool) (hf : ∀ x ∈ s, f x = some (p x)) : F_slices_ContainsFunc_Action s f = some (s.any p) := by
  unfold F_slices_ContainsFunc_Action; rw [F_slices_IndexFunc_Action_eq s f p hf, Option.bind_some, fidx_any]
def keyOf (a : Action) : aset_spot := bif decide (a.Kind = 25) then ⟨a.Kind, a.Oxm.Field⟩ else ⟨a.Kind, 0⟩
theorem F_aset_at_eq (a : Action) : F_aset_at a = some (keyOf a) := by
  unfold F_aset_at keyOf
  cases decide (a.Kind = 25) <;> rfl
theorem F_aset_Write_1_eq (b c : Action) : F_aset_Write_1 b c = some (decide (keyOf c = keyOf b)) := by
  unfold F_aset_Write_1
  rw [F_aset_at_eq, Option.bind_some, F_aset_at_eq]; rfl
def wr1 (l : List Action) (x : Action) : List Action := bif decide (fidx (fun b => decide (keyOf x = keyOf b)) l < 0) then l ++ [x] else l.set (fidx (fun b => decide (keyOf x = keyOf b)) l).toNat x
theorem wr1_len (l : List Action) (x : Action) : (wr1 l x).length ≤ l.length + 1 := by
  unfold wr1
  cases decide (fidx (fun b => decide (keyOf x = keyOf b)) l < 0) <;> simp
theorem F_aset_Write_l1_eq : ∀ (l : List Action) (i : Nat) (acc : List Action), acc.length + l.length ≤ lim → F_aset_Write_l1 l i acc = some (l.foldl wr1 acc)
  | [], i, acc, _ => by rw [F_aset_Write_l1]; rfl
  | x :: l, i, acc, h => by
    simp only [List.length_cons] at h
    have hw := wr1_len acc x
    rw [F_aset_Write_l1, F_slices_IndexFunc_Action_eq acc (fun y => F_aset_Write_1 y x) (fun b => decide (keyOf x = keyOf b)) (fun y _ => F_aset_Write_1_eq y x), Option.bind_some, List.foldl_cons]
    have hi := fidx_lt (fun b => decide (keyOf x = keyOf b)) acc
    by_cases hc : fidx (fun b => decide (keyOf x = keyOf b)) acc < 0
    · rw [decide_eq_true hc, cond_true, appd_ok (by simp; omega), Option.bind_some, F_aset_Write_l1_eq l (i + 1) _ (by simp; omega)]
      unfold wr1
      rw [decide_eq_true hc, cond_true]
    · obtain ⟨n, hn⟩ : ∃ n : Nat, fidx (fun b => decide (keyOf x = keyOf b)) acc = (n : Int) := ⟨(fidx (fun b => decide (keyOf x = keyOf b)) acc).toNat, by omega⟩
      rw [decide_eq_false hc, cond_false, hn, lget_lt (by omega), Option.bind_some, F_aset_Write_l1_eq l (i + 1) _ (by simp; omega)]
      unfold wr1
      rw [decide_eq_false hc, cond_false, hn]
theorem F_aset_Write_eq (s l : List Action) (h : s.length + l.length ≤ lim) : F_aset_Write s l = some (l.foldl wr1 s) := by
  unfold F_aset_Write F_slices_Clone_Action
  rw [appd_ok (by simp; omega), Option.bind_some, List.nil_append, F_aset_Write_l1_eq l 0 s h]
theorem wr_len : ∀ (l s : List Action), (l.foldl wr1 s).length ≤ s.length + l.length
  | [], s => by simp
  | x :: l, s => by
    have h1 := wr_len l (wr1 s x)
    have h2 := wr1_len s x
    rw [List.foldl_cons, List.length_cons]; omega
theorem wr1_nodup (l : List Action) (x : Action) (h : (l.map keyOf).Nodup) : ((wr1 l x).map keyOf).Nodup := by
  unfold wr1
  rcases fidx_find (fun b => decide (keyOf x = keyOf b)) l with ⟨h1, h2⟩ | ⟨n, h1, h2, h3, h4⟩
  · rw [decide_eq_true h1, cond_true, List.map_append, List.nodup_append]
    refine ⟨h, by simp, ?_⟩
    intro a ha b hb e
    simp only [List.map_cons, List.map_nil, List.mem_singleton] at hb
    subst e; subst hb
    obtain ⟨y, hy, hk⟩ := List.mem_map.1 ha
    have := List.find?_eq_none.1 h2 y hy
    simp [hk] at this
  · rw [decide_eq_false (by omega), cond_false, h1, Int.toNat_natCast]
    have hk : keyOf x = keyOf l[n] := by simpa using h4
    have : (l.set n x).map keyOf = l.map keyOf := by
      rw [List.map_set, hk]
      apply List.ext_getElem
      · simp
      · intro i h5 h6
        rw [List.getElem_set]
        split
        · rename_i e; subst e; simp
        · rfl
    rw [this]; exact h
theorem wr_nodup : ∀ (l s : List Action), (s.map keyOf).Nodup → ((l.foldl wr1 s).map keyOf).Nodup
  | [], s, h => h
  | x :: l, s, h => wr_nodup l _ (wr1_nodup s x h)
def turnOf (k : Int) : Int := fidx (fun x => decide (k = x)) [18, 17, 25, 22, 0]
theorem F_aset_turn_eq (k : Int) : F_aset_turn k = some (turnOf k) := by
  unfold F_aset_turn turnOf
  rw [F_slices_Index_int_eq]; rfl
def keepA (goes : Bool) (a : Action) : Bool := !(decide (turnOf a.Kind < 0) || (goes && decide (a.Kind = 0)))
def cmpA (a b : Action) : Int :=
  bif decide (IntKind.i64.wrap (turnOf (keyOf a).kind - turnOf (keyOf b).kind) ≠ 0) then IntKind.i64.wrap (turnOf (keyOf a).kind - turnOf (keyOf b).kind)
  else bif decide ((keyOf a).field < (keyOf b).field) then -1 else bif decide ((keyOf a).field > (keyOf b).field) then 1 else 0
theorem F_aset_List_3_eq (a b : Action) : F_aset_List_3 a b = some (cmpA a b) := by
  unfold F_aset_List_3 cmpA
  rw [F_aset_at_eq, Option.bind_some, F_aset_at_eq, Option.bind_some, F_aset_turn_eq, Option.bind_some, F_aset_turn_eq, Option.bind_some]
  cases decide (IntKind.i64.wrap (turnOf (keyOf a).kind - turnOf (keyOf b).kind) ≠ 0)
  · rw [cond_false, cond_false]
    cases decide ((keyOf a).field < (keyOf b).field)
    · rw [cond_false, cond_false]
      cases decide ((keyOf a).field > (keyOf b).field) <;> rfl
    · rfl
  · rfl
theorem rins_perm {α : Type} (lt : α → α → Bool) (x : α) : ∀ R : List α, (rins lt x R).Perm (x :: R)
  | [] => List.Perm.refl _
  | y :: R => by
    rw [rins]
    cases lt x y
    · exact List.Perm.refl _
    · exact ((rins_perm lt x R).cons y).trans (List.Perm.swap x y R)
theorem foldr_perm {α : Type} (lt : α → α → Bool) : ∀ (l R : List α), (l.foldl (fun R x => rins lt x R) R).Perm (l ++ R)
  | [], R => List.Perm.refl _
  | x :: l, R => by
    rw [List.foldl_cons]
    refine (foldr_perm lt l _).trans ?_
    refine ((rins_perm lt x R).append_left l).trans ?_
    exact List.perm_middle
theorem srt_perm {α : Type} (lt : α → α → Bool) (l : List α) : (srt lt l).Perm l := by
  unfold srt
  refine (List.reverse_perm _).trans ?_
  have := foldr_perm lt l []
  rwa [List.append_nil] at this
theorem rins_len {α : Type} (lt : α → α → Bool) (x : α) (R : List α) : (rins lt x R).length = R.length + 1 := by
  have := (rins_perm lt x R).length_eq
  simpa using this
def ltA (a b : Action) : Bool := decide (cmpA a b < 0)
theorem F_slices_insertionSortCmpFunc_Action_l2_eq (go : List Action → Int → Option (List Action)) (i : Int) (x : Action) : ∀ (R S : List Action) (m : Nat), R.length < m → R.length ≤ lim →
    F_slices_insertionSortCmpFunc_Action_l2 0 F_aset_List_3 go i m (R.reverse ++ x :: S) (R.length : Int) = go ((rins ltA x R).reverse ++ S) (IntKind.i64.wrap (i + 1))
  | [], S, m, h, _ => by
    obtain ⟨m, rfl⟩ : ∃ k, m = k + 1 := ⟨m - 1, by simp at h; omega⟩
    rw [F_slices_insertionSortCmpFunc_Action_l2]
    simp [opt, rins]
  | y :: R, S, m, h, hl => by
    have hlim : lim = 4294967296 := rfl
    simp only [List.length_cons] at h hl
    obtain ⟨m, rfl⟩ : ∃ k, m = k + 1 := ⟨m - 1, by omega⟩
    have e0 : (y :: R).reverse ++ x :: S = R.reverse ++ y :: x :: S := by simp
    have ej : IntKind.i64.wrap (((y :: R).length : Int) - 1) = (R.length : Int) := by rw [wrap_i64 (by simp only [List.length_cons]; omega) (by simp only [List.length_cons]; omega)]; simp only [List.length_cons]; omega
    have hlen : ∀ a b : Action, (R.reverse ++ a :: b :: S).length = R.length + (S.length + 2) := fun a b => by simp
    have g1 : ∀ a b : Action, lget (R.reverse ++ a :: b :: S) (((y :: R).length : Int)) = some b := fun a b => by
      rw [lget_nat, List.getElem?_append_right (by simp)]; first | done | simp
    have g0 : ∀ a b : Action, lget (R.reverse ++ a :: b :: S) ((R.length : Int)) = some a := fun a b => by
      rw [lget_nat, List.getElem?_append_right (by simp)]; first | done | simp
    have s1 : ∀ a b c : Action, List.set (R.reverse ++ a :: b :: S) (((y :: R).length : Int)).toNat c = R.reverse ++ a :: c :: S := fun a b c => by
      rw [Int.toNat_natCast, List.set_append_right _ _ (by simp)]; first | done | simp
    have s0 : ∀ a b c : Action, List.set (R.reverse ++ a :: b :: S) ((R.length : Int)).toNat c = R.reverse ++ c :: b :: S := fun a b c => by
      rw [Int.toNat_natCast, List.set_append_right _ _ (by simp)]; first | done | simp
    rw [e0, F_slices_insertionSortCmpFunc_Action_l2, decide_eq_true (by simp only [List.length_cons]; omega), opt_true, g1, Option.bind_some, opt_true, ej, g0, Option.bind_some, opt_true, F_aset_List_3_eq, Option.bind_some, Bool.true_and, rins]
    show (bif ltA x y then _ else _) = _
    cases ltA x y
    · rw [cond_false, cond_false]
      simp
    · rw [cond_true, cond_true, Option.bind_some, Option.bind_some, Option.bind_some, s1, g0, Option.bind_some, s0, F_slices_insertionSortCmpFunc_Action_l2_eq go i x R (y :: S) m (by omega) (by omega)]
      simp
theorem F_slices_insertionSortCmpFunc_Action_l1_eq : ∀ (T R : List Action) (m : Nat), T.length < m → 1 ≤ R.length → R.length + T.length ≤ 1000 →
    F_slices_insertionSortCmpFunc_Action_l1 ((R.length + T.length : Nat) : Int) 0 F_aset_List_3 m (R.reverse ++ T) (R.length : Int) = some ((T.foldl (fun R x => rins ltA x R) R).reverse)
  | [], R, m, h, _, _ => by
    obtain ⟨m, rfl⟩ : ∃ k, m = k + 1 := ⟨m - 1, by simp at h; omega⟩
    rw [F_slices_insertionSortCmpFunc_Action_l1, decide_eq_false (by simp), cond_false]
    simp
  | x :: T, R, m, h, h1, h2 => by
    have hlim : lim = 4294967296 := rfl
    simp only [List.length_cons] at h h2
    obtain ⟨m, rfl⟩ : ∃ k, m = k + 1 := ⟨m - 1, by omega⟩
    have e : IntKind.i64.wrap ((R.length : Int) + 1) = (((rins ltA x R).length : Nat) : Int) := by rw [rins_len, wrap_i64 (by omega) (by omega)]; omega
    have hn : R.length + (x :: T).length = (rins ltA x R).length + T.length := by rw [rins_len, List.length_cons]; omega
    rw [F_slices_insertionSortCmpFunc_Action_l1, decide_eq_true (by simp; omega), cond_true, F_slices_insertionSortCmpFunc_Action_l2_eq _ _ x R T fuel0 (by unfold fuel0; omega) (by omega), e, hn, F_slices_insertionSortCmpFunc_Action_l1_eq T (rins ltA x R) m (by omega) (by rw [rins_len]; omega) (by rw [rins_len]; omega), List.foldl_cons]
theorem F_slices_insertionSortCmpFunc_Action_eq (l : List Action) (h : l.length ≤ 1000) : F_slices_insertionSortCmpFunc_Action l 0 (l.length : Int) F_aset_List_3 = some (srt ltA l) := by
  unfold F_slices_insertionSortCmpFunc_Action srt
  have e : IntKind.i64.wrap ((0 : Int) + 1) = 1 := by decide
  rw [e]
  cases l with
  | nil => rfl
  | cons x l =>
    simp only [List.length_cons] at h
    have := F_slices_insertionSortCmpFunc_Action_l1_eq l [x] ((((x :: l).length : Int) - 1).toNat + 1) (by simp) (by simp) (by simp; omega)
    have e2 : (([x].length + l.length : Nat) : Int) = ((x :: l).length : Int) := by simp; omega
    rw [e2] at this
    simp only [List.reverse_singleton, List.singleton_append] at this
    rw [List.foldl_cons]
    exact this
theorem F_slices_SortStableFunc_Action_eq (l : List Action) (h : l.length < 20) : F_slices_SortStableFunc_Action l F_aset_List_3 = some (srt ltA l) := by
  unfold F_slices_SortStableFunc_Action F_slices_stableCmpFunc_Action
  obtain ⟨m, hm⟩ : ∃ m, (((l.length : Int) : Int) - 20).toNat + 2 = m + 1 := ⟨_, rfl⟩
  rw [hm, F_slices_stableCmpFunc_Action_l1, decide_eq_false (by omega), cond_false, F_slices_insertionSortCmpFunc_Action_eq l (by omega), Option.bind_some]
  obtain ⟨k, hk⟩ : ∃ m, (((l.length : Int) : Int) - 20).toNat + 1 = m + 1 := ⟨_, rfl⟩
  rw [hk, F_slices_stableCmpFunc_Action_l2, decide_eq_false (by omega), cond_false]
  rfl
def lstA (s : List Action) : List Action := srt ltA (s.filter (keepA (s.any fun a => decide (a.Kind = 22))))
theorem F_aset_List_eq (s : List Action) (h : s.length < 20) : F_aset_List s = some (lstA s) := by
  have hlim : lim = 4294967296 := rfl
  unfold F_aset_List F_slices_Clone_Action lstA
  rw [F_slices_ContainsFunc_Action_eq s F_aset_List_1 (fun a => decide (a.Kind = 22)) (fun _ _ => rfl), Option.bind_some, appd_ok (by simp; omega), Option.bind_some, List.nil_append]
  have hf : ∀ a : Action, F_aset_List_2 a (s.any fun a => decide (a.Kind = 22)) = some (!keepA (s.any fun a => decide (a.Kind = 22)) a) := fun a => by
    unfold F_aset_List_2 keepA
    rw [F_aset_turn_eq, Option.bind_some, Bool.not_not]
  rw [F_slices_DeleteFunc_Action_eq s _ (fun a => !keepA (s.any fun a => decide (a.Kind = 22)) a) (fun a _ => hf a) (by omega), Option.bind_some]
  simp only [Bool.not_not]
  rw [F_slices_SortStableFunc_Action_eq _ (Nat.lt_of_le_of_lt (List.length_filter_le ..) h)]
  rfl
def lightB (bs : List Bucket) : Prop := bs.length ≤ 3 ∧ ∀ x ∈ bs, x.Acts.length ≤ 12
def lightG (l : List Group) : Prop := l.length ≤ 9 ∧ ∀ g ∈ l, lightB g.Buckets
theorem F_group_copies_l1_eq (bs : List Bucket) (h : ∀ x ∈ bs, x.Acts.length ≤ 12) : ∀ (m i : Nat), i + m = bs.length → F_group_copies_l1 m i bs = some bs
  | 0, i, _ => by rw [F_group_copies_l1]
  | m + 1, i, hi => by
    have hlim : lim = 4294967296 := rfl
    have hlt : i < bs.length := by omega
    have ha := h bs[i] (List.getElem_mem hlt)
    have e : List.set bs ((i : Int)).toNat { bs[i] with Acts := bs[i].Acts } = bs := by
      rw [Int.toNat_natCast]; exact List.set_getElem_self hlt
    rw [F_group_copies_l1, lget_lt hlt, Option.bind_some]
    unfold F_slices_Clone_Action
    rw [appd_ok (by simp; omega), Option.bind_some, Option.bind_some, List.nil_append, e]
    exact F_group_copies_l1_eq bs h m (i + 1) (by omega)
theorem F_group_copies_eq (bs : List Bucket) (h : lightB bs) : F_group_copies bs = some bs := by
  have hlim : lim = 4294967296 := rfl
  have := h.1
  unfold F_group_copies F_slices_Clone_Bucket
  rw [appd_ok (by simp; omega), Option.bind_some, List.nil_append, show ((bs.length : Int)).toNat = bs.length by omega]
  exact F_group_copies_l1_eq bs h.2 bs.length 0 (by omega)
theorem F_group_fresh_eq (g : Group) (h : lightB g.Buckets) : F_group_fresh [g] = some [g] := by
  unfold F_group_fresh F_slices_Clone_Group
  rw [appd_ok (by simp [lim]), Option.bind_some]
  show F_group_fresh_l1 1 0 [g] = _
  rw [F_group_fresh_l1]
  show ((some g).bind fun e8 => _) = _
  rw [Option.bind_some, F_group_copies_eq _ h, Option.bind_some]
  rfl
def findG (l : List Group) (id : Int) : Option Group := l.find? fun g => decide (g.ID = id)
theorem F_group_Find_eq (l : List Group) (id : Int) (hl : lightG l) : F_group_Find l id = some (match findG l id with | none => ((⟨0, 0, []⟩ : Group), false) | some g => (g, true)) := by
  have h9 := hl.1
  unfold F_group_Find F_group_place findG
  rw [F_slices_IndexFunc_Group_eq l (fun x => F_group_place_1 x id) (fun g => decide (g.ID = id)) (fun _ _ => rfl), Option.bind_some, Option.bind_some]
  rcases fidx_find (fun g : Group => decide (g.ID = id)) l with ⟨h1, h2⟩ | ⟨n, h1, h2, h3, h4⟩
  · rw [decide_eq_true h1, cond_true, h2]
  · have hs : oslice l (n : Int) (IntKind.i64.wrap ((n : Int) + 1)) = some [l[n]] := by
      rw [wrap_i64 (by omega) (by omega)]
      unfold oslice
      rw [decide_eq_true (by omega), decide_eq_true (by omega), Nat.ble_eq_true_of_le (by omega)]
      show some _ = some _
      have e2 : ((n : Int) + 1).toNat = n + 1 := by omega
      have e3 : (l.take n).length = n := by simp; omega
      rw [e2, Int.toNat_natCast, List.take_succ_eq_append_getElem h2, List.drop_append, e3, List.drop_of_length_le (by omega), Nat.sub_self]
      rfl
    rw [decide_eq_false (by omega), cond_false, h1, hs, Option.bind_some, F_group_fresh_eq _ (hl.2 _ (List.getElem_mem h2)), Option.bind_some, h3]
    rfl
theorem findG_mem {l : List Group} {id : Int} {g : Group} (h : findG l id = some g) : g ∈ l := List.mem_of_find?_eq_some h
def whichOf (e : Env) (n : Nat) : Int := (F_env_Which e (n : Int)).getD 0
theorem F_env_Which_eq (e : Env) (n : Nat) (hn : 0 < n) (hn2 : n ≤ 1000) : F_env_Which e (n : Int) = some (whichOf e n) ∧ 0 ≤ whichOf e n ∧ whichOf e n < n := by
  have key : ∃ t, F_env_Which e (n : Int) = some t ∧ 0 ≤ t ∧ t < n := by
    unfold F_env_Which omod
    rw [decide_eq_false (by omega), cond_false, decide_eq_false (by omega), cond_false, Option.bind_some]
    have h1 := Int.tmod_lt_of_pos e.Turn (show (0 : Int) < n by omega)
    have h2 : -(n : Int) < e.Turn.tmod (n : Int) := by
      have := Int.lt_tmod_of_pos e.Turn (show (0 : Int) < n by omega)
      exact this
    by_cases hc : e.Turn.tmod (n : Int) < 0
    · rw [decide_eq_true hc, cond_true, wrap_i64 (by omega) (by omega)]
      exact ⟨_, rfl, by omega, by omega⟩
    · rw [decide_eq_false hc, cond_false]
      exact ⟨_, rfl, by omega, by omega⟩
  obtain ⟨t, ht, h1, h2⟩ := key
  have e : whichOf e n = t := by unfold whichOf; rw [ht]; rfl
  rw [e]
  exact ⟨ht, h1, h2⟩
def upOf (e : Env) (bs : List Bucket) : Int := fidx (fun x => !e.Down.contains x.Watch) bs
def takesOf (e : Env) (g : Group) : List Int :=
  bif decide (g.Buckets.length = 0) then []
  else bif decide (g.Kind = 0) then (List.range' 0 g.Buckets.length).map fun (i : Nat) => (i : Int)
  else bif decide (g.Kind = 1) then [whichOf e g.Buckets.length]
  else bif decide (g.Kind = 2) then [0]
  else bif decide (g.Kind = 3) then (bif decide (upOf e g.Buckets ≥ 0) then [upOf e g.Buckets] else [])
  else []
theorem F_env_Takes_l1_eq : ∀ (m i : Nat) (acc : List Int), acc.length + m ≤ lim → F_env_Takes_l1 m i acc = some (acc ++ (List.range' i m).map fun (i : Nat) => (i : Int))
  | 0, i, acc, _ => by rw [F_env_Takes_l1]; simp
  | m + 1, i, acc, h => by
    rw [F_env_Takes_l1, appd_ok (by simp; omega), Option.bind_some, F_env_Takes_l1_eq m (i + 1) _ (by simp; omega), List.range'_succ]
    simp
theorem F_env_Takes_eq (e : Env) (g : Group) (h : lightB g.Buckets) : F_env_Takes e g = some (takesOf e g) := by
  have hlim : lim = 4294967296 := rfl
  have h3 := h.1
  unfold F_env_Takes takesOf
  simp only
  have hz : decide ((g.Buckets.length : Int) = 0) = decide (g.Buckets.length = 0) := by
    rw [decide_eq_decide]; omega
  rw [hz]
  by_cases h0 : g.Buckets.length = 0
  · rw [decide_eq_true h0]; rfl
  · rw [decide_eq_false h0, cond_false, cond_false]
    cases decide (g.Kind = 0)
    · rw [cond_false, cond_false]
      cases decide (g.Kind = 1)
      · rw [cond_false, cond_false]
        cases decide (g.Kind = 2)
        · rw [cond_false, cond_false]
          cases decide (g.Kind = 3)
          · rfl
          · rw [cond_true, cond_true]
            unfold F_env_world_up upOf
            simp only
            rw [F_slices_IndexFunc_Bucket_eq g.Buckets (fun x => F_env_world_up_1 x (⟨e, g⟩ : env_world)) (fun x => !e.Down.contains x.Watch) (fun x _ => by unfold F_env_world_up_1; rw [F_env_Up_eq]; rfl), Option.bind_some, Option.bind_some]
            cases decide (fidx (fun x => !e.Down.contains x.Watch) g.Buckets ≥ 0) <;> rfl
        · rfl
      · rw [cond_true, cond_true, (F_env_Which_eq e g.Buckets.length (by omega) (by omega)).1]; rfl
    · rw [cond_true, cond_true, show ((g.Buckets.length : Int)).toNat = g.Buckets.length by omega, F_env_Takes_l1_eq _ 0 [] (by simp; omega)]
      rfl
theorem takesOf_ok (e : Env) (g : Group) (h : lightB g.Buckets) : (takesOf e g).length ≤ 3 ∧ ∀ i ∈ takesOf e g, ∃ n : Nat, i = (n : Int) ∧ n < g.Buckets.length := by
  have h3 := h.1
  unfold takesOf
  by_cases h0 : g.Buckets.length = 0
  · rw [decide_eq_true h0]; simp
  · rw [decide_eq_false h0, cond_false]
    cases decide (g.Kind = 0)
    · rw [cond_false]
      cases decide (g.Kind = 1)
      · rw [cond_false]
        cases decide (g.Kind = 2)
        · rw [cond_false]
          cases decide (g.Kind = 3)
          · simp
          · rw [cond_true]
            have hlt := fidx_lt (fun x : Bucket => !e.Down.contains x.Watch) g.Buckets
            by_cases hc : upOf e g.Buckets ≥ 0
            · rw [decide_eq_true hc, cond_true]
              refine ⟨by simp, fun i hi => ?_⟩
              rw [List.mem_singleton] at hi
              subst hi
              exact ⟨(upOf e g.Buckets).toNat, by omega, by unfold upOf at hc ⊢; omega⟩
            · rw [decide_eq_false hc, cond_false]; simp
        · refine ⟨by simp, fun i hi => ?_⟩
          simp only [cond_true, List.mem_singleton] at hi
          subst hi
          exact ⟨0, rfl, by omega⟩
      · obtain ⟨_, h1, h2⟩ := F_env_Which_eq e g.Buckets.length (by omega) (by omega)
        refine ⟨by simp, fun i hi => ?_⟩
        simp only [cond_true, List.mem_singleton] at hi
        subst hi
        exact ⟨(whichOf e g.Buckets.length).toNat, by omega, by omega⟩
    · refine ⟨by simp; omega, fun i hi => ?_⟩
      simp only [cond_true, List.mem_map] at hi
      obtain ⟨n, hn, rfl⟩ := hi
      exact ⟨n, rfl, by have := (List.mem_range'_1.1 hn).2; omega⟩
def setActs (acts : List Action) : List Action := lstA (acts.foldl wr1 [])
def outs (l : List Action) : Nat := l.countP fun a => decide (a.Kind = 0) || decide (a.Kind = 22)
theorem key_of_kind {a b : Action} (ha : a.Kind ≠ 25) (h : a.Kind = b.Kind) : keyOf a = keyOf b := by
  unfold keyOf
  rw [decide_eq_false ha, decide_eq_false (h ▸ ha), h]; rfl
theorem count_one (k : Int) (hk : k ≠ 25) : ∀ l : List Action, (l.map keyOf).Nodup → (l.countP fun a => decide (a.Kind = k)) ≤ 1
  | [], _ => by simp
  | a :: l, h => by
    rw [List.map_cons, List.nodup_cons] at h
    rw [List.countP_cons]
    have ih := count_one k hk l h.2
    by_cases ha : a.Kind = k
    · have : (l.countP fun a => decide (a.Kind = k)) = 0 := by
        rw [List.countP_eq_zero]
        intro b hb hbk
        have hbk' : b.Kind = k := by simpa using hbk
        exact h.1 (List.mem_map.2 ⟨b, hb, (key_of_kind (by rw [ha]; exact hk) (by rw [ha, hbk'])).symm⟩)
      rw [this, decide_eq_true ha]; simp
    · rw [decide_eq_false ha]; simpa using ih
theorem outs_perm {l m : List Action} (h : l.Perm m) : outs l = outs m := h.countP_eq _
theorem outs_set (acts : List Action) : outs (setActs acts) ≤ 1 := by
  unfold setActs lstA
  rw [outs_perm (srt_perm _ _)]
  have hn := wr_nodup acts [] (by simp)
  generalize acts.foldl wr1 [] = s at *
  unfold outs
  rw [List.countP_filter]
  cases hg : s.any (fun a => decide (a.Kind = 22))
  · refine Nat.le_trans (List.countP_mono_left fun a ha h => ?_) (count_one 0 (by decide) s hn)
    rw [List.any_eq_false] at hg
    have := hg a ha
    simp only [Bool.and_eq_true, Bool.or_eq_true, decide_eq_true_eq] at h
    rcases h.1 with h | h
    · simpa using h
    · exact absurd (by simpa using h) this
  · refine Nat.le_trans (List.countP_mono_left fun a ha h => ?_) (count_one 22 (by decide) s hn)
    simp only [Bool.and_eq_true, Bool.or_eq_true, decide_eq_true_eq] at h
    rcases h.1 with h1 | h1
    · have h2 := h.2
      unfold keepA at h2
      simp [h1] at h2
    · simpa using h1
def doA (G : Int → Header → List Out) : List Action → List Out → Header → List Out × Header
  | [], o, h => (o, h)
  | a :: l, o, h => bif decide (a.Kind = 0) then doA G l (o ++ [⟨a.Port, mostOf a, h⟩]) h
    else bif decide (a.Kind = 22) then doA G l (o ++ G a.Group h) h
    else doA G l o (capply (rwOf a) h)
def bucketActs (bs : List Bucket) (i : Int) : List Action := match bs[i.toNat]? with
  | some b => b.Acts
  | none => []
def goG (l : List Group) (e : Env) : Nat → Int → Header → List Out
  | 0, _, _ => []
  | d + 1, id, h => match findG l id with
    | none => []
    | some g => (takesOf e g).flatMap fun i => (doA (goG l e d) (setActs (bucketActs g.Buckets i)) [] h).1
theorem doA_frame (G : Int → Header → List Out) : ∀ (l : List Action) (o : List Out) (h : Header), doA G l o h = (o ++ (doA G l [] h).1, (doA G l [] h).2)
  | [], o, h => by simp [doA]
  | a :: l, o, h => by
    rw [doA, doA]
    cases decide (a.Kind = 0)
    · rw [cond_false, cond_false]
      cases decide (a.Kind = 22)
      · rw [cond_false, cond_false]; exact doA_frame G l o _
      · rw [cond_true, cond_true, doA_frame G l (o ++ _), doA_frame G l ([] ++ _)]; simp
    · rw [cond_true, cond_true, doA_frame G l (o ++ _), doA_frame G l ([] ++ _)]; simp
theorem doA_len (G : Int → Header → List Out) (B : Nat) (hB : 1 ≤ B) (hG : ∀ id h, (G id h).length ≤ B) : ∀ (l : List Action) (h : Header), (doA G l [] h).1.length ≤ outs l * B
  | [], h => by simp [doA]
  | a :: l, h => by
    have ih := doA_len G B hB hG l
    unfold outs at ih ⊢
    rw [doA, List.countP_cons]
    by_cases h0 : a.Kind = 0
    · rw [decide_eq_true h0, cond_true, doA_frame]
      simp only [List.nil_append, List.length_append, List.length_cons, List.length_nil, Bool.true_or, if_true]
      have := ih h
      rw [Nat.add_mul, Nat.one_mul]; omega
    · rw [decide_eq_false h0, cond_false]
      by_cases h1 : a.Kind = 22
      · rw [decide_eq_true h1, cond_true, doA_frame]
        have h2 := hG a.Group h
        simp only [List.nil_append, List.length_append, Bool.or_true, if_true]
        have := ih h
        rw [Nat.add_mul, Nat.one_mul]; omega
      · rw [decide_eq_false h1, cond_false]
        have := ih (capply (rwOf a) h)
        simpa using this
theorem flatMap_bd {α β : Type} (f : α → List β) (k : Nat) : ∀ l : List α, (∀ x ∈ l, (f x).length ≤ k) → (l.flatMap f).length ≤ l.length * k
  | [], _ => by simp
  | x :: l, h => by
    rw [List.flatMap_cons, List.length_append, List.length_cons, Nat.succ_mul]
    have h1 := h x (by simp)
    have h2 := flatMap_bd f k l fun y hy => h y (by simp [hy])
    omega
theorem goG_len (l : List Group) (e : Env) (hl : lightG l) : ∀ (d : Nat) (id : Int) (h : Header), (goG l e d id h).length ≤ 3 ^ d
  | 0, id, h => by simp [goG]
  | d + 1, id, h => by
    rw [goG]
    cases hf : findG l id with
    | none => simp
    | some g =>
      have hb := hl.2 g (findG_mem hf)
      have ht := (takesOf_ok e g hb).1
      have h1 : 1 ≤ 3 ^ d := Nat.pow_pos (by decide)
      have := flatMap_bd (fun i => (doA (goG l e d) (setActs (bucketActs g.Buckets i)) [] h).1) (3 ^ d) (takesOf e g) fun i _ => by
        have h2 := doA_len (goG l e d) (3 ^ d) h1 (goG_len l e hl d) (setActs (bucketActs g.Buckets i)) h
        have h3 := outs_set (bucketActs g.Buckets i)
        have h4 : outs (setActs (bucketActs g.Buckets i)) * 3 ^ d ≤ 1 * 3 ^ d := Nat.mul_le_mul_right _ h3
        omega
      have h5 : (takesOf e g).length * 3 ^ d ≤ 3 * 3 ^ d := Nat.mul_le_mul_right _ ht
      have e1 : 3 ^ (d + 1) = 3 * 3 ^ d := by rw [Nat.pow_succ, Nat.mul_comm]
      show ((takesOf e g).flatMap _).length ≤ _
      omega
theorem F_exec_run_do_s_l1_eq (R : exec_run → Int → Option exec_run) (G : Int → Header → List Out) (e : Env) (l : List Group) (dep : Int) (B : Nat) (hB : 1 ≤ B) (hG : ∀ id h, (G id h).length ≤ B)
    (hR : ∀ o id h, o.length + B ≤ lim → R ⟨e, l, o, h, dep⟩ id = some ⟨e, l, o ++ G id h, h, dep⟩) :
    ∀ (acts : List Action) (i : Nat) (o : List Out) (h : Header), o.length + outs acts * B ≤ lim → F_exec_run_do_s_l1 R acts i o e l h dep = some ⟨e, l, (doA G acts o h).1, (doA G acts o h).2, dep⟩
  | [], i, o, h, _ => by rw [F_exec_run_do_s_l1]; rfl
  | a :: acts, i, o, h, hb => by
    unfold outs at hb
    rw [List.countP_cons] at hb
    rw [F_exec_run_do_s_l1, doA]
    by_cases h0 : a.Kind = 0
    · simp only [decide_eq_true h0, Bool.true_or, if_true, Nat.add_mul, Nat.one_mul] at hb
      rw [decide_eq_true h0, cond_true, cond_true, F_exec_most_eq, Option.bind_some, appd_ok (by simp; omega), Option.bind_some]
      exact F_exec_run_do_s_l1_eq R G e l dep B hB hG hR acts (i + 1) _ h (by unfold outs; simp; omega)
    · rw [decide_eq_false h0, cond_false, cond_false]
      by_cases h1 : a.Kind = 22
      · simp only [decide_eq_true h1, Bool.or_true, if_true, Nat.add_mul, Nat.one_mul] at hb
        have h2 := hG a.Group h
        rw [decide_eq_true h1, cond_true, cond_true, hR o a.Group h (by omega), Option.bind_some]
        exact F_exec_run_do_s_l1_eq R G e l dep B hB hG hR acts (i + 1) _ h (by unfold outs; simp; omega)
      · simp only [decide_eq_false h0, decide_eq_false h1, Bool.or_self] at hb
        rw [decide_eq_false h1, cond_false, cond_false, F_aset_Rewrite_eq, Option.bind_some, F_rewrite_Apply_eq, Option.bind_some]
        exact F_exec_run_do_s_l1_eq R G e l dep B hB hG hR acts (i + 1) o _ (by unfold outs; simpa using hb)
theorem F_exec_run_group_s_l1_eq (R : exec_run → List Action → Option exec_run) (G : Int → Header → List Out) (e : Env) (l : List Group) (g : Group) (hg : lightB g.Buckets) (r1 : exec_run) (dep : Int) (hd : 0 ≤ dep ∧ dep ≤ 9) (B : Nat) (hB : 1 ≤ B) (hG : ∀ id h, (G id h).length ≤ B)
    (hR : ∀ o acts, outs acts ≤ 1 → o.length + B ≤ lim → R ⟨e, l, o, r1.header, dep⟩ acts = some ⟨e, l, (doA G acts o r1.header).1, (doA G acts o r1.header).2, dep⟩) :
    ∀ (ts : List Int) (i : Nat) (o : List Out), (∀ t ∈ ts, ∃ n : Nat, t = (n : Int) ∧ n < g.Buckets.length) → o.length + ts.length * B ≤ lim →
      F_exec_run_group_s_l1 (g, true) R r1 ts i o e l r1.header dep = some ⟨e, l, o ++ ts.flatMap fun i => (doA G (setActs (bucketActs g.Buckets i)) [] r1.header).1, r1.header, dep - 1⟩
  | [], i, o, _, _ => by rw [F_exec_run_group_s_l1, wrap_i64 (by omega) (by omega)]; simp
  | t :: ts, i, o, ht, hb => by
    have hlim : lim = 4294967296 := rfl
    obtain ⟨n, rfl, hn⟩ := ht t (by simp)
    simp only [List.length_cons, Nat.add_mul, Nat.one_mul] at hb
    have hacts := hg.2 g.Buckets[n] (List.getElem_mem hn)
    have hba : bucketActs g.Buckets (n : Int) = g.Buckets[n].Acts := by
      unfold bucketActs
      rw [Int.toNat_natCast, List.getElem?_eq_getElem hn]
    have hwl := wr_len g.Buckets[n].Acts []
    simp only [List.length_nil, Nat.zero_add] at hwl
    have hlen := doA_len G B hB hG (setActs g.Buckets[n].Acts) r1.header
    have hout := outs_set g.Buckets[n].Acts
    have hmul : outs (setActs g.Buckets[n].Acts) * B ≤ 1 * B := Nat.mul_le_mul_right _ hout
    rw [F_exec_run_group_s_l1]
    simp only
    rw [lget_lt hn, Option.bind_some, F_aset_Write_eq _ _ (by simp; omega), Option.bind_some, F_aset_List_eq _ (by omega), Option.bind_some, show lstA (g.Buckets[n].Acts.foldl wr1 []) = setActs g.Buckets[n].Acts from rfl, hR o _ hout (by omega), Option.bind_some]
    simp only
    rw [doA_frame]
    simp only
    rw [F_exec_run_group_s_l1_eq R G e l g hg r1 dep hd B hB hG hR ts (i + 1) _ (fun t h => ht t (by simp [h])) (by rw [List.length_append]; omega), List.flatMap_cons, hba]
    simp
theorem walk_eq (l : List Group) (e : Env) (hl : lightG l) : ∀ (d : Nat), d ≤ 8 →
    (∀ n o id h, 2 * d + 1 ≤ n → o.length + 3 ^ d ≤ lim → (FR_exec_run_do__exec_run_group n).2 ⟨e, l, o, h, ((8 - d : Nat) : Int)⟩ id = some ⟨e, l, o ++ goG l e d id h, h, ((8 - d : Nat) : Int)⟩) ∧
    (∀ n o acts h, 2 * d + 2 ≤ n → o.length + outs acts * 3 ^ d ≤ lim → (FR_exec_run_do__exec_run_group n).1 ⟨e, l, o, h, ((8 - d : Nat) : Int)⟩ acts = some ⟨e, l, (doA (goG l e d) acts o h).1, (doA (goG l e d) acts o h).2, ((8 - d : Nat) : Int)⟩) := by
  have hlim : lim = 4294967296 := rfl
  intro d
  induction d with
  | zero =>
    intro hd
    have h1 : ∀ n o id h, 2 * 0 + 1 ≤ n → o.length + 3 ^ 0 ≤ lim → (FR_exec_run_do__exec_run_group n).2 ⟨e, l, o, h, ((8 - 0 : Nat) : Int)⟩ id = some ⟨e, l, o ++ goG l e 0 id h, h, ((8 - 0 : Nat) : Int)⟩ := by
      intro n o id h hn _
      obtain ⟨n, rfl⟩ : ∃ k, n = k + 1 := ⟨n - 1, by omega⟩
      show F_exec_run_group_s (FR_exec_run_do__exec_run_group n).1 (FR_exec_run_do__exec_run_group n).2 _ _ = _
      unfold F_exec_run_group_s
      simp only
      rw [F_group_Find_eq l id hl, Option.bind_some]
      have : ∀ x : Group × Bool, ((!x.2) || decide (((8 - 0 : Nat) : Int) ≥ 8)) = true := fun x => by simp
      rw [this]
      simp [goG]
    refine ⟨h1, ?_⟩
    intro n o acts h hn hb
    obtain ⟨n, rfl⟩ : ∃ k, n = k + 1 := ⟨n - 1, by omega⟩
    show F_exec_run_do_s (FR_exec_run_do__exec_run_group n).1 (FR_exec_run_do__exec_run_group n).2 _ _ = _
    unfold F_exec_run_do_s
    exact F_exec_run_do_s_l1_eq _ (goG l e 0) e l _ (3 ^ 0) (by decide) (goG_len l e hl 0) (fun o id h hb => h1 n o id h (by omega) hb) acts 0 o h hb
  | succ d ih =>
    intro hd
    obtain ⟨ih1, ih2⟩ := ih (by omega)
    have hp : 3 ^ (d + 1) = 3 * 3 ^ d := by rw [Nat.pow_succ, Nat.mul_comm]
    have h1 : ∀ n o id h, 2 * (d + 1) + 1 ≤ n → o.length + 3 ^ (d + 1) ≤ lim → (FR_exec_run_do__exec_run_group n).2 ⟨e, l, o, h, ((8 - (d + 1) : Nat) : Int)⟩ id = some ⟨e, l, o ++ goG l e (d + 1) id h, h, ((8 - (d + 1) : Nat) : Int)⟩ := by
      intro n o id h hn hb
      obtain ⟨n, rfl⟩ : ∃ k, n = k + 1 := ⟨n - 1, by omega⟩
      show F_exec_run_group_s (FR_exec_run_do__exec_run_group n).1 (FR_exec_run_do__exec_run_group n).2 _ _ = _
      unfold F_exec_run_group_s
      simp only
      rw [F_group_Find_eq l id hl, Option.bind_some, goG]
      cases hf : findG l id with
      | none => simp
      | some g =>
        have hg := hl.2 g (findG_mem hf)
        obtain ⟨t1, t2⟩ := takesOf_ok e g hg
        simp only [Bool.not_true, Bool.false_or]
        rw [decide_eq_false (by omega), cond_false, F_env_Takes_eq e g hg, Option.bind_some]
        have ew : IntKind.i64.wrap (((8 - (d + 1) : Nat) : Int) + 1) = ((8 - d : Nat) : Int) := by rw [wrap_i64 (by omega) (by omega)]; omega
        rw [ew]
        have hmul : (takesOf e g).length * 3 ^ d ≤ 3 * 3 ^ d := Nat.mul_le_mul_right _ t1
        have := F_exec_run_group_s_l1_eq (FR_exec_run_do__exec_run_group n).1 (goG l e d) e l g hg ⟨e, l, o, h, ((8 - (d + 1) : Nat) : Int)⟩ ((8 - d : Nat) : Int) (by omega) (3 ^ d) (Nat.pow_pos (by decide)) (goG_len l e hl d)
          (fun o acts ho hb => ih2 n o acts h (by omega) (by
            have : outs acts * 3 ^ d ≤ 1 * 3 ^ d := Nat.mul_le_mul_right _ ho
            omega)) (takesOf e g) 0 o t2 (by omega)
        simp only at this
        rw [this]
        congr 2
        omega
    refine ⟨h1, ?_⟩
    intro n o acts h hn hb
    obtain ⟨n, rfl⟩ : ∃ k, n = k + 1 := ⟨n - 1, by omega⟩
    show F_exec_run_do_s (FR_exec_run_do__exec_run_group n).1 (FR_exec_run_do__exec_run_group n).2 _ _ = _
    unfold F_exec_run_do_s
    exact F_exec_run_do_s_l1_eq _ (goG l e (d + 1)) e l _ (3 ^ (d + 1)) (Nat.pow_pos (by decide)) (goG_len l e hl (d + 1)) (fun o id h hb => h1 n o id h (by omega) hb) acts 0 o h hb
theorem F_exec_Do_eq (l : List Group) (e : Env) (acts : List Action) (h : Header) (hl : lightG l) (ha : acts.length ≤ 100) : F_exec_Do l e acts h = some (doA (goG l e 8) acts [] h) := by
  have hlim : lim = 4294967296 := rfl
  unfold F_exec_Do F_exec_run_do
  have ho : outs acts ≤ 100 := Nat.le_trans List.countP_le_length ha
  have hm : outs acts * 3 ^ 8 ≤ 100 * 3 ^ 8 := Nat.mul_le_mul_right _ ho
  have := (walk_eq l e hl 8 (by decide)).2 fuel0 [] acts h (by unfold fuel0; omega) (by simp only [List.length_nil]; omega)
  rw [show (((8 - 8 : Nat)) : Int) = 0 from rfl] at this
  rw [this]
  rfl
end Go.Proofs.YtknpgojdkobgjaaGreat.W
set_option linter.unusedVariables false
set_option linter.unusedSimpArgs false
namespace Go.Proofs.YtknpgojdkobgjaaGreat.W
open Go Go.Wb
end Go.Proofs.YtknpgojdkobgjaaGreat.W
set_option linter.unusedVariables false
set_option linter.unusedSimpArgs false
namespace Go.Proofs.YtknpgojdkobgjaaGreat.W
open Go Go.Wb
end Go.Proofs.YtknpgojdkobgjaaGreat.W
set_option linter.unusedVariables false
set_option linter.unusedSimpArgs false
namespace Go.Proofs.YtknpgojdkobgjaaGreat.W
open Go Go.Wb
theorem F_slices_ContainsFunc_Bucket_eq (s : List Bucket) (f : Bucket → Option Bool) (p : Bucket → Bool) (hf : ∀ x ∈ s, f x = some (p x)) : F_slices_ContainsFunc_Bucket s f = some (s.any p) := by
  unfold F_slices_ContainsFunc_Bucket; rw [F_slices_IndexFunc_Bucket_eq s f p hf, Option.bind_some, fidx_any]
theorem F_slices_ContainsFunc_Group_eq (s : List Group) (f : Group → Option Bool) (p : Group → Bool) (hf : ∀ x ∈ s, f x = some (p x)) : F_slices_ContainsFunc_Group s f = some (s.any p) := by
  unfold F_slices_ContainsFunc_Group; rw [F_slices_IndexFunc_Group_eq s f p hf, Option.bind_some, fidx_any]
def fewB (bs : List Bucket) (many : Int) : Bool := decide ((bs.length : Int) ≤ many) && !(bs.any fun x => !decide ((x.Acts.length : Int) ≤ 12))
theorem F_pl_Buckets_eq (bs : List Bucket) (many : Int) : F_pl_Buckets bs many = some (fewB bs many) := by
  unfold F_pl_Buckets fewB
  rw [F_slices_ContainsFunc_Bucket_eq bs F_pl_Buckets_1 (fun x => !decide ((x.Acts.length : Int) ≤ 12)) (fun x _ => rfl)]
  cases decide ((bs.length : Int) ≤ many) <;> rfl
def fewG (l : List Group) (many bm : Int) : Bool := decide ((l.length : Int) ≤ many) && !(l.any fun g => !fewB g.Buckets bm)
theorem F_pl_Groups_eq (l : List Group) (many bm : Int) : F_pl_Groups l many bm = some (fewG l many bm) := by
  unfold F_pl_Groups fewG
  rw [F_slices_ContainsFunc_Group_eq l (fun x => F_pl_Groups_1 x bm) (fun g => !fewB g.Buckets bm) (fun g _ => by unfold F_pl_Groups_1; rw [F_pl_Buckets_eq]; rfl)]
  cases decide ((l.length : Int) ≤ many) <;> rfl
theorem fewG_light {l : List Group} (h : fewG l 9 3 = true) : lightG l := by
  unfold fewG at h
  simp only [Bool.and_eq_true, decide_eq_true_eq, Bool.not_eq_true', List.any_eq_false] at h
  refine ⟨by omega, fun g hg => ?_⟩
  have h1 : fewB g.Buckets 3 = true := by simpa using h.2 g hg
  unfold fewB at h1
  simp only [Bool.and_eq_true, decide_eq_true_eq, Bool.not_eq_true', List.any_eq_false] at h1
  refine ⟨by omega, fun x hx => ?_⟩
  have h2 : decide ((x.Acts.length : Int) ≤ 12) = true := by simpa using h1.2 x hx
  rw [decide_eq_true_eq] at h2
  omega
theorem F_slices_Equal_Out_l1_eq (s t : List Out) (hl : s.length = t.length) : ∀ (m i : Nat), i + m = s.length → F_slices_Equal_Out_l1 s t m i = some (decide (s.drop i = t.drop i))
  | 0, i, h => by rw [F_slices_Equal_Out_l1, List.drop_of_length_le (by omega), List.drop_of_length_le (by omega)]; simp
  | m + 1, i, h => by
    have h1 : i < s.length := by omega
    have h2 : i < t.length := by omega
    rw [F_slices_Equal_Out_l1, lget_lt h1, Option.bind_some, lget_lt h2, Option.bind_some, List.drop_eq_getElem_cons h1, List.drop_eq_getElem_cons h2]
    by_cases he : s[i] = t[i]
    · rw [decide_eq_false (by simpa using he), cond_false, F_slices_Equal_Out_l1_eq s t hl m (i + 1) (by omega)]
      simp only [List.cons.injEq, he, true_and]
    · rw [decide_eq_true (by simpa using he), cond_true]
      simp only [List.cons.injEq, he, false_and, decide_false]
theorem F_exec_Same_eq (s t : List Out) : F_exec_Same s t = some (decide (s = t)) := by
  unfold F_exec_Same F_slices_Equal_Out
  by_cases hl : s.length = t.length
  · rw [decide_eq_false (by omega), cond_false, show ((s.length : Int)).toNat = s.length by omega, F_slices_Equal_Out_l1_eq s t hl _ 0 (by omega)]
    simp
  · rw [decide_eq_true (by omega), cond_true]
    have : s ≠ t := fun e => hl (e ▸ rfl)
    simp [this]
end Go.Proofs.YtknpgojdkobgjaaGreat.W
set_option linter.unusedVariables false
set_option linter.unusedSimpArgs false
namespace Go.Proofs.YtknpgojdkobgjaaGreat.W
open Go Go.Wb
end Go.Proofs.YtknpgojdkobgjaaGreat.W
set_option linter.unusedVariables false
set_option linter.unusedSimpArgs false
namespace Go.Proofs.YtknpgojdkobgjaaGreat.W
open Go Go.Wb
end Go.Proofs.YtknpgojdkobgjaaGreat.W
set_option linter.unusedVariables false
set_option linter.unusedSimpArgs false
namespace Go.Proofs.YtknpgojdkobgjaaGreat.W
open Go Go.Wb
end Go.Proofs.YtknpgojdkobgjaaGreat.W
set_option linter.unusedVariables false
set_option linter.unusedSimpArgs false
namespace Go.Proofs.YtknpgojdkobgjaaGreat.W
open Go Go.Wb
end Go.Proofs.YtknpgojdkobgjaaGreat.W
set_option linter.unusedVariables false
set_option linter.unusedSimpArgs false
namespace Go.Proofs.YtknpgojdkobgjaaGreat.W
open Go Go.Wb
end Go.Proofs.YtknpgojdkobgjaaGreat.W
set_option linter.unusedVariables false
set_option linter.unusedSimpArgs false
namespace Go.Proofs.YtknpgojdkobgjaaGreat.W
open Go Go.Wb
end Go.Proofs.YtknpgojdkobgjaaGreat.W
set_option linter.unusedVariables false
set_option linter.unusedSimpArgs false
namespace Go.Proofs.YtknpgojdkobgjaaGreat.W
open Go Go.Wb
theorem F_cube_each_l1_eq (f : Int → Option (Tern × Bool)) (g : Nat → Tern) (hf : ∀ i : Nat, i < 24 → f (i : Int) = some (g i, true)) (b : Cube) : ∀ (m i : Nat), i + m = 24 → F_cube_each_l1 f m i (upto g b i) = some (Vector.ofFn (fun i => g i.1), true)
  | 0, i, h => by
    have : i = 24 := by omega
    subst this
    rw [F_cube_each_l1, upto_all]
  | m + 1, i, h => by
    rw [F_cube_each_l1, hf i (by omega), Option.bind_some, Bool.not_true, cond_false, chk_nat (by omega), Option.bind_some]
    show F_cube_each_l1 f m (i + 1) (Vector.set (upto g b i) i (g i) _) = _
    rw [upto_set g b i (by omega), F_cube_each_l1_eq f g hf b m (i + 1) (by omega)]
theorem F_cube_Clean_eq (c : Cube) : F_cube_Clean c = some (cclean c) := by
  unfold F_cube_Clean F_cube_each
  have := F_cube_each_l1_eq (fun x => F_cube_Clean_1 x c) (fun i => tclean (ve c i)) (fun i hi => by unfold F_cube_Clean_1; rw [chk_nat hi, Option.bind_some, vget_eq, F_tern_Clean_eq]; rfl) (Vector.replicate 24 zTern) 24 0 rfl
  rw [upto_zero] at this
  rw [show ((24 : Int)).toNat = 24 from rfl, this]
  rfl
def fixT (t : Tern) (i : Nat) (on : Bool) : Tern := bif on then ⟨wor (wless (tclean t).Value (wbit i)) (wbit i), wor (tclean t).Mask (wbit i)⟩ else ⟨wless (tclean t).Value (wbit i), wor (tclean t).Mask (wbit i)⟩
def partOf (c : Cube) (f bit : Nat) (on : Bool) : Option Cube :=
  bif wt (ve c f).Mask bit && (wt (ve c f).Value bit == on) then none else some (Vector.ofFn fun k => if f = k.1 then fixT (ve c f) bit (!on) else ve c k.1)
def sgl (x y : Tern) (k : Nat) : Bool × Bool := bif wt x.Mask k == wt y.Mask k then (false, false) else (true, bif wt x.Mask k then wt x.Value k else wt y.Value k)
def rp (c : Cube) (x y : Tern) (f k : Nat) : Option Cube := bif (sgl x y k).1 then partOf c f k (sgl x y k).2 else none
def thas (t : Tern) (v : Wide) : Bool := wzero (wand (wxor t.Value v) t.Mask)
theorem F_tern_Has_eq (t : Tern) (v : Wide) : F_tern_Has t v = some (thas t v) := rfl
def chas (c : Cube) (h : Header) : Bool := (List.range' 0 24).all fun f => thas (ve c f) (ve h f)
theorem F_cube_Has_l1_eq (c : Cube) (h : Header) : ∀ (l : List Tern) (i : Nat), i + l.length = 24 → l = (Vector.toList c).drop i → F_cube_Has_l1 h l i = some ((List.range' i l.length).all fun f => thas (ve c f) (ve h f))
  | [], i, h1, h2 => by rw [F_cube_Has_l1]; rfl
  | x :: l, i, h1, h2 => by
    simp only [List.length_cons] at h1
    have hi : i < (Vector.toList c).length := by simp; omega
    rw [List.drop_eq_getElem_cons hi] at h2
    obtain ⟨rfl, h3⟩ := List.cons.inj h2
    have hx : (Vector.toList c)[i] = ve c i := by rw [Vector.getElem_toList, ve_lt _ _ (by omega)]
    rw [F_cube_Has_l1, chk_nat (by omega), Option.bind_some, vget_eq, F_tern_Has_eq, Option.bind_some, F_cube_Has_l1_eq c h l (i + 1) (by omega) h3, List.length_cons, List.range'_succ, List.all_cons, hx]
    cases thas (ve c i) (ve h i) <;> rfl
theorem F_cube_Has_eq (c : Cube) (h : Header) : F_cube_Has c h = some (chas c h) := by
  unfold F_cube_Has chas
  have := F_cube_Has_l1_eq c h (Vector.toList c) 0 (by simp) rfl
  rw [this]
  simp
end Go.Proofs.YtknpgojdkobgjaaGreat.W
set_option linter.unusedVariables false
set_option linter.unusedSimpArgs false
namespace Go.Proofs.YtknpgojdkobgjaaGreat.W
open Go Go.Wb
theorem turn_bd (k : Int) : -1 ≤ turnOf k ∧ turnOf k ≤ 4 := by
  unfold turnOf
  have h1 := fidx_ge (fun x => decide (k = x)) [18, 17, 25, 22, 0]
  have h2 := fidx_lt (fun x => decide (k = x)) [18, 17, 25, 22, 0]
  simp only [List.length_cons, List.length_nil] at h2
  omega
theorem ltA_iff (a b : Action) : ltA a b = decide (turnOf (keyOf a).kind < turnOf (keyOf b).kind ∨ (turnOf (keyOf a).kind = turnOf (keyOf b).kind ∧ (keyOf a).field < (keyOf b).field)) := by
  have h1 := turn_bd (keyOf a).kind
  have h2 := turn_bd (keyOf b).kind
  unfold ltA cmpA
  rw [wr (by omega) (by omega)]
  generalize turnOf (keyOf a).kind = x at *
  generalize turnOf (keyOf b).kind = y at *
  generalize (keyOf a).field = f at *
  generalize (keyOf b).field = g at *
  by_cases e : x - y = 0
  · have e1 : decide (x - y ≠ 0) = false := decide_eq_false (by omega)
    rw [e1, cond_false]
    by_cases h3 : f < g
    · have e2 : decide (f < g) = true := decide_eq_true h3
      rw [e2, cond_true]
      simp; omega
    · have e2 : decide (f < g) = false := decide_eq_false h3
      rw [e2, cond_false]
      by_cases h4 : f > g
      · have e3 : decide (f > g) = true := decide_eq_true h4
        rw [e3, cond_true]
        simp; omega
      · have e3 : decide (f > g) = false := decide_eq_false h4
        rw [e3, cond_false]
        simp; omega
  · have e1 : decide (x - y ≠ 0) = true := decide_eq_true (by omega)
    rw [e1, cond_true, decide_eq_decide]
    omega
theorem ltA_swo : Swo ltA where
  asym := fun a b h => by
    rw [ltA_iff, decide_eq_true_eq] at h
    rw [ltA_iff, decide_eq_false_iff_not]
    omega
  neg := fun a b c h k => by
    rw [ltA_iff, decide_eq_false_iff_not] at h k
    rw [ltA_iff, decide_eq_false_iff_not]
    omega
theorem ltA_tells : Tells ltA F_aset_List_3 := fun x y => ⟨cmpA x y, F_aset_List_3_eq x y, rfl⟩
theorem F_aset_List_eqL (s : List Action) (h : s.length ≤ 100000) : F_aset_List s = some (lstA s) := by
  have hlim : lim = 4294967296 := rfl
  unfold F_aset_List F_slices_Clone_Action lstA
  rw [F_slices_ContainsFunc_Action_eq s F_aset_List_1 (fun a => decide (a.Kind = 22)) (fun _ _ => rfl), Option.bind_some, appd_ok (by simp; omega), Option.bind_some, List.nil_append]
  have hf : ∀ a : Action, F_aset_List_2 a (s.any fun a => decide (a.Kind = 22)) = some (!keepA (s.any fun a => decide (a.Kind = 22)) a) := fun a => by
    unfold F_aset_List_2 keepA
    rw [F_aset_turn_eq, Option.bind_some, Bool.not_not]
  rw [F_slices_DeleteFunc_Action_eq s _ (fun a => !keepA (s.any fun a => decide (a.Kind = 22)) a) (fun a _ => hf a) (by omega), Option.bind_some]
  simp only [Bool.not_not]
  rw [stable_eq ltA_swo ltA_tells _ (Nat.le_trans (List.length_filter_le ..) h)]
  rfl
theorem lstA_len (s : List Action) : (lstA s).length ≤ s.length := by
  unfold lstA
  rw [srt_len ltA_swo]
  exact List.length_filter_le ..
def optP {α : Type} (z : α) : Option α → α × Bool
  | some a => (a, true)
  | none => (z, false)
def mput (c : Cube) (o : Oxm) : Cube := if h : 0 ≤ o.Field ∧ o.Field.toNat < 24 then Vector.set c o.Field.toNat (oxT o) h.2 else c
theorem mput_in (c : Cube) (o : Oxm) (n : Nat) (hn : o.Field = (n : Int)) (h : n < 24) : mput c o = Vector.set c n (oxT o) h := by
  unfold mput
  rw [dif_pos (by omega)]
  simp [hn]
theorem mput_out (c : Cube) (o : Oxm) (h : ¬ (0 ≤ o.Field ∧ o.Field < 24)) : mput c o = c := by
  unfold mput
  rw [dif_neg (by omega)]
theorem F_match_Cube_l1_eq : ∀ (l : List Oxm) (i : Nat) (c : Cube), F_match_Cube_l1 l i c = some (l.foldl mput c)
  | [], i, c => rfl
  | o :: l, i, c => by
    rw [F_match_Cube_l1, List.foldl_cons]
    unfold F_field_Right
    rw [Option.bind_some]
    by_cases h : 0 ≤ o.Field ∧ o.Field < 24
    · obtain ⟨n, hn⟩ : ∃ n : Nat, o.Field = (n : Int) := ⟨o.Field.toNat, by omega⟩
      have hn24 : n < 24 := by have := h.2; omega
      have hd : (decide (o.Field ≥ 0) && decide (o.Field < 24)) = true := by simp; omega
      have hc : chk 24 o.Field = some ⟨n, hn24⟩ := by rw [hn]; exact chk_nat hn24
      rw [hd, cond_true, F_oxm_Tern_eq, Option.bind_some, hc, Option.bind_some, mput_in c o n hn hn24, F_match_Cube_l1_eq l (i + 1)]
    · have hd : (decide (o.Field ≥ 0) && decide (o.Field < 24)) = false := by
        rw [Bool.and_eq_false_iff, decide_eq_false_iff_not, decide_eq_false_iff_not]; omega
      rw [hd, cond_false, mput_out c o h, F_match_Cube_l1_eq l (i + 1)]
def mcube (l : List Oxm) : Cube := l.foldl mput none24
def fcube (f : Flow) : Cube := cclean (mcube f.Match)
theorem F_flow_Cube_eq (f : Flow) : F_flow_Cube f = some (fcube f) := by
  unfold F_flow_Cube F_match_Cube F_cube_All
  rw [Option.bind_some, F_match_Cube_l1_eq, Option.bind_some, F_cube_Clean_eq]; rfl
def ofI (l : List Inst) (k : Int) : Option Inst := l.find? fun i => decide (i.Kind = k)
theorem F_slices_IndexFunc_Inst_eq (s : List Inst) (f : Inst → Option Bool) (p : Inst → Bool) (hf : ∀ x ∈ s, f x = some (p x)) : F_slices_IndexFunc_Inst s f = some (fidx p s) := by
  unfold F_slices_IndexFunc_Inst
  rw [show ((s.length : Int)).toNat = s.length by omega]
  exact idx_spec p (fun i => by rw [F_slices_IndexFunc_Inst_l1]) (fun m i => by rw [F_slices_IndexFunc_Inst_l1]) hf
def zInst' : Inst := ⟨0, 0, zWide, zWide, []⟩
theorem F_inst_Of_eq (l : List Inst) (k : Int) (hl : ∀ i ∈ l, i.Acts.length ≤ 12) : F_inst_Of l k = some (optP zInst' (ofI l k)) := by
  have hlim : lim = 4294967296 := rfl
  unfold F_inst_Of ofI
  rw [F_slices_IndexFunc_Inst_eq l (fun x => F_inst_Of_1 x k) (fun i => decide (i.Kind = k)) (fun _ _ => rfl), Option.bind_some]
  rcases fidx_find (fun i : Inst => decide (i.Kind = k)) l with ⟨h1, h2⟩ | ⟨n, h1, h2, h3, h4⟩
  · rw [decide_eq_true h1, cond_true, h2]; rfl
  · have := hl _ (List.getElem_mem h2)
    rw [decide_eq_false (by omega), cond_false, h1, lget_lt h2, Option.bind_some, h3]
    unfold F_slices_Clone_Action
    rw [appd_ok (by simp; omega), Option.bind_some]
    rfl
theorem ofI_mem {l : List Inst} {k : Int} {i : Inst} (h : ofI l k = some i) : i ∈ l := List.mem_of_find?_eq_some h
end Go.Proofs.YtknpgojdkobgjaaGreat.W
set_option linter.unusedVariables false
set_option linter.unusedSimpArgs false
namespace Go.Proofs.YtknpgojdkobgjaaGreat.W
open Go Go.Wb
section ins
def TellsOn (lt : Int → Int → Bool) (cmp : Int → Int → Option Int) (A : List Int) : Prop := ∀ x ∈ A, ∀ y ∈ A, ∃ c, cmp x y = some c ∧ decide (c < 0) = lt x y
variable {lt : Int → Int → Bool} {cmp : Int → Int → Option Int}
theorem insI_l2 {A : List Int} (hc : TellsOn lt cmp A) (go : List Int → Int → Option (List Int)) (i : Int) (P : List Int) (x : Int) (hx : x ∈ A) : ∀ (R S : List Int) (m : Nat), (∀ y ∈ R, y ∈ A) → R.length < m → (P ++ R.reverse ++ x :: S).length ≤ big →
    F_slices_insertionSortCmpFunc_int_l2 (P.length : Int) cmp go i m (P ++ R.reverse ++ x :: S) ((P.length + R.length : Nat) : Int) = go (P ++ (rins lt x R).reverse ++ S) (IntKind.i64.wrap (i + 1))
  | [], S, m, _, h, _ => by
    obtain ⟨m, rfl⟩ : ∃ k, m = k + 1 := ⟨m - 1, by simp at h; omega⟩
    rw [F_slices_insertionSortCmpFunc_int_l2, decide_eq_false (by simp)]
    simp [opt, rins]
  | y :: R, S, m, hR, h, hl => by
    have hbig : big = 1000000 := rfl
    simp only [List.length_cons, List.length_append, List.length_reverse] at h hl
    obtain ⟨m, rfl⟩ : ∃ k, m = k + 1 := ⟨m - 1, by omega⟩
    have e0 : P ++ (y :: R).reverse ++ x :: S = (P ++ R.reverse) ++ y :: (x :: S) := by simp
    have ej : IntKind.i64.wrap (((P.length + (y :: R).length : Nat) : Int) - 1) = ((P.length + R.length : Nat) : Int) := by rw [wr (by simp only [List.length_cons]; omega) (by simp only [List.length_cons]; omega)]; simp only [List.length_cons]; omega
    have g1 : ∀ a b : Int, lget ((P ++ R.reverse) ++ a :: (b :: S)) ((P.length + (y :: R).length : Nat) : Int) = some b := fun a b => by
      have : (P ++ R.reverse) ++ a :: (b :: S) = (P ++ R.reverse ++ [a]) ++ b :: S := by simp
      rw [this]; exact lget_at _ _ _ _ (by simp)
    have g0 : ∀ a b : Int, lget ((P ++ R.reverse) ++ a :: (b :: S)) ((P.length + R.length : Nat) : Int) = some a := fun a b => lget_at _ _ _ _ (by simp)
    have s1 : ∀ a b c : Int, List.set ((P ++ R.reverse) ++ a :: (b :: S)) (((P.length + (y :: R).length : Nat) : Int)).toNat c = (P ++ R.reverse) ++ a :: (c :: S) := fun a b c => by
      have : (P ++ R.reverse) ++ a :: (b :: S) = (P ++ R.reverse ++ [a]) ++ b :: S := by simp
      rw [this, Int.toNat_natCast, set_at _ _ _ _ _ (by simp)]; simp
    have s0 : ∀ a b c : Int, List.set ((P ++ R.reverse) ++ a :: (b :: S)) (((P.length + R.length : Nat) : Int)).toNat c = (P ++ R.reverse) ++ c :: (b :: S) := fun a b c => by
      rw [Int.toNat_natCast, set_at _ _ _ _ _ (by simp)]
    obtain ⟨c, hc1, hc2⟩ := hc x hx y (hR y (by simp))
    rw [e0, F_slices_insertionSortCmpFunc_int_l2, decide_eq_true (by simp only [List.length_cons]; omega), opt_true, g1, Option.bind_some, opt_true, ej, g0, Option.bind_some, opt_true, hc1, Option.bind_some, Bool.true_and, hc2, rins]
    cases lt x y
    · rw [cond_false, cond_false]
      simp
    · rw [cond_true, cond_true, Option.bind_some, Option.bind_some, Option.bind_some, s1, g0, Option.bind_some, s0, insI_l2 hc go i P x hx R (y :: S) m (fun z hz => hR z (by simp [hz])) (by omega) (by simp only [List.length_append, List.length_cons, List.length_reverse]; omega)]
      simp
theorem rins_lengthI (x : Int) (R : List Int) : (rins lt x R).length = R.length + 1 := by
  induction R with
  | nil => rfl
  | cons y R ih => rw [rins]; cases lt x y <;> simp [ih]
theorem insI_l1 {A : List Int} (hc : TellsOn lt cmp A) (P Q : List Int) : ∀ (T R : List Int) (m : Nat), (∀ y ∈ T, y ∈ A) → (∀ y ∈ R, y ∈ A) → T.length < m → (P ++ R.reverse ++ T ++ Q).length ≤ big →
    F_slices_insertionSortCmpFunc_int_l1 ((P.length + R.length + T.length : Nat) : Int) (P.length : Int) cmp m (P ++ R.reverse ++ T ++ Q) ((P.length + R.length : Nat) : Int) = some (P ++ (T.foldl (fun R x => rins lt x R) R).reverse ++ Q)
  | [], R, m, _, _, h, _ => by
    obtain ⟨m, rfl⟩ : ∃ k, m = k + 1 := ⟨m - 1, by simp at h; omega⟩
    rw [F_slices_insertionSortCmpFunc_int_l1, decide_eq_false (by simp), cond_false]
    simp
  | x :: T, R, m, hT, hR, h, h2 => by
    have hbig : big = 1000000 := rfl
    simp only [List.length_cons, List.length_append, List.length_reverse] at h h2
    obtain ⟨m, rfl⟩ : ∃ k, m = k + 1 := ⟨m - 1, by omega⟩
    have e : IntKind.i64.wrap (((P.length + R.length : Nat) : Int) + 1) = ((P.length + (rins lt x R).length : Nat) : Int) := by rw [rins_lengthI, wr (by omega) (by omega)]; omega
    have hn : P.length + R.length + (x :: T).length = P.length + (rins lt x R).length + T.length := by rw [rins_lengthI, List.length_cons]; omega
    have e0 : P ++ R.reverse ++ x :: T ++ Q = P ++ R.reverse ++ x :: (T ++ Q) := by simp
    rw [F_slices_insertionSortCmpFunc_int_l1, decide_eq_true (by simp only [List.length_cons]; omega), cond_true, e0, insI_l2 hc _ _ P x (hT x (by simp)) R (T ++ Q) fuel0 hR (by unfold fuel0; omega) (by simp only [List.length_append, List.length_cons, List.length_reverse]; omega), e, hn,
      ← List.append_assoc, insI_l1 hc P Q T (rins lt x R) m (fun y hy => hT y (by simp [hy])) (fun y hy => by rcases rins_mem.1 hy with e | e; rw [e]; exact hT x (by simp); exact hR y e) (by omega) (by simp only [List.length_append, List.length_reverse, rins_lengthI]; omega), List.foldl_cons]
theorem insI_eq (P L Q : List Int) (hc : TellsOn lt cmp L) (a b : Int) (ha : a = (P.length : Int)) (hb : b = (P.length : Int) + (L.length : Int)) (h : (P ++ L ++ Q).length ≤ big) : F_slices_insertionSortCmpFunc_int (P ++ L ++ Q) a b cmp = some (P ++ srt lt L ++ Q) := by
  subst ha hb
  have hbig : big = 1000000 := rfl
  have h' := h
  simp only [List.length_append] at h'
  unfold F_slices_insertionSortCmpFunc_int srt
  cases L with
  | nil =>
    rw [wr (by omega) (by omega)]
    obtain ⟨m, hm⟩ : ∃ m, (((P.length : Int) + (([] : List Int).length : Int)) - ((P.length : Int) + 1)).toNat + 1 = m + 1 := ⟨_, rfl⟩
    rw [hm, F_slices_insertionSortCmpFunc_int_l1, decide_eq_false (by simp only [List.length_nil]; omega), cond_false]
    rfl
  | cons x L =>
    simp only [List.length_cons] at h'
    have := insI_l1 hc P Q L [x] ((((P.length : Int) + ((x :: L).length : Int)) - ((P.length : Int) + 1)).toNat + 1) (fun y hy => by simp [hy]) (fun y hy => by simp at hy; simp [hy]) (by simp only [List.length_cons]; omega) (by simp only [List.length_append, List.length_reverse, List.length_cons, List.length_nil]; omega)
    have e1 : ((P.length + [x].length + L.length : Nat) : Int) = (P.length : Int) + ((x :: L).length : Int) := by simp; omega
    have e2 : ((P.length + [x].length : Nat) : Int) = (P.length : Int) + 1 := by simp
    have e3 : P ++ [x].reverse ++ L ++ Q = P ++ x :: L ++ Q := by simp
    rw [e1, e2, e3] at this
    rw [wr (by omega) (by omega), this]
    rfl
theorem stableI_eq (L : List Int) (hc : TellsOn lt cmp L) (h : L.length < 20) : F_slices_SortStableFunc_int L cmp = some (srt lt L) := by
  unfold F_slices_SortStableFunc_int F_slices_stableCmpFunc_int
  obtain ⟨m, hm⟩ : ∃ m, (((L.length : Int) : Int) - 20).toNat + 2 = m + 1 := ⟨_, rfl⟩
  have := insI_eq [] L [] hc 0 (L.length : Int) rfl (by simp) (by simp only [List.nil_append, List.append_nil]; show _ ≤ 1000000; omega)
  simp only [List.nil_append, List.append_nil] at this
  rw [hm, F_slices_stableCmpFunc_int_l1, decide_eq_false (by omega), cond_false, this, Option.bind_some]
  obtain ⟨k, hk⟩ : ∃ m, (((L.length : Int) : Int) - 20).toNat + 1 = m + 1 := ⟨_, rfl⟩
  rw [hk, F_slices_stableCmpFunc_int_l2, decide_eq_false (by omega), cond_false]
  rfl
end ins
end Go.Proofs.YtknpgojdkobgjaaGreat.W
set_option linter.unusedVariables false
set_option linter.unusedSimpArgs false
namespace Go.Proofs.YtknpgojdkobgjaaGreat.W
open Go Go.Wb
def prioOf (t : List Flow) (i : Int) : Int := match t[i.toNat]? with
  | some f => f.Priority
  | none => 0
def ltP (t : List Flow) (i j : Int) : Bool := decide (prioOf t i > prioOf t j)
theorem ltP_swo (t : List Flow) : Swo (ltP t) where
  asym := fun a b h => by
    unfold ltP at *
    rw [decide_eq_true_eq] at h
    rw [decide_eq_false_iff_not]; omega
  neg := fun a b c h k => by
    unfold ltP at *
    rw [decide_eq_false_iff_not] at *; omega
def places (n : Nat) : List Int := (List.range n).map fun (i : Nat) => (i : Int)
theorem places_mem {n : Nat} {i : Int} : i ∈ places n ↔ ∃ k : Nat, k < n ∧ i = (k : Int) := by
  unfold places
  simp only [List.mem_map, List.mem_range]
  exact ⟨fun ⟨k, h1, h2⟩ => ⟨k, h1, h2.symm⟩, fun ⟨k, h1, h2⟩ => ⟨k, h1, h2.symm⟩⟩
def order (t : List Flow) : List Int := srt (ltP t) (places t.length)
theorem order_mem {t : List Flow} {i : Int} : i ∈ order t ↔ ∃ k : Nat, k < t.length ∧ i = (k : Int) := by
  unfold order
  rw [srt_mem (ltP_swo t), places_mem]
theorem prioOf_nat {t : List Flow} {k : Nat} (h : k < t.length) : prioOf t (k : Int) = t[k].Priority := by
  unfold prioOf
  rw [Int.toNat_natCast, List.getElem?_eq_getElem h]
theorem order_tells (t : List Flow) : TellsOn (ltP t) (fun x z => F_first_Order_1 x z t) (places t.length) := fun x hx y hy => by
  obtain ⟨i, hi, rfl⟩ := places_mem.1 hx
  obtain ⟨j, hj, rfl⟩ := places_mem.1 hy
  unfold F_first_Order_1 ltP
  dsimp only
  rw [lget_lt hi, Option.bind_some, lget_lt hj, Option.bind_some, prioOf_nat hi, prioOf_nat hj, Option.bind_some, Option.bind_some]
  by_cases h1 : t[i].Priority > t[j].Priority
  · rw [decide_eq_true h1, cond_true]; exact ⟨_, rfl, rfl⟩
  · rw [decide_eq_false h1, cond_false]
    by_cases h2 : t[i].Priority < t[j].Priority
    · rw [decide_eq_true h2, cond_true]; exact ⟨_, rfl, rfl⟩
    · rw [decide_eq_false h2, cond_false]; exact ⟨_, rfl, rfl⟩
theorem F_first_Order_l1_eq (t : List Flow) (ht : t.length < 20) : ∀ (m i : Nat), i + m = t.length → F_first_Order_l1 t m i (places i) = some (order t)
  | 0, i, h => by
    have : i = t.length := by omega
    subst this
    rw [F_first_Order_l1, stableI_eq _ (order_tells t) (by simpa [places] using ht)]; rfl
  | m + 1, i, h => by
    have hlim : lim = 4294967296 := rfl
    have e : places i ++ [(i : Int)] = places (i + 1) := by unfold places; rw [List.range_succ, List.map_append]; rfl
    rw [F_first_Order_l1, appd_ok (by simp [places]; omega), Option.bind_some, e]
    exact F_first_Order_l1_eq t ht m (i + 1) (by omega)
theorem omk_nat (n : Nat) (h : n ≤ lim) : omk (n : Int) = some () := by
  unfold omk
  rw [decide_eq_false (by omega), decide_eq_false (by omega)]; rfl
theorem F_first_Order_eq (t : List Flow) (ht : t.length < 20) : F_first_Order t = some (order t) := by
  have hlim : lim = 4294967296 := rfl
  unfold F_first_Order
  rw [omk_nat _ (by omega), Option.bind_some, show ((t.length : Int)).toNat = t.length by omega]
  exact F_first_Order_l1_eq t ht t.length 0 (by omega)
theorem outs_le (l : List Action) : outs l ≤ l.length := List.countP_le_length
def nextT (at_ : Nat) (l : List Inst) : Option Nat := match ofI l 1 with
  | some i => if i.Table > (at_ : Int) ∧ i.Table < 4 then some i.Table.toNat else none
  | none => none
theorem nextT_pos {at_ : Nat} {l : List Inst} {i : Inst} (h : ofI l 1 = some i) (hc : i.Table > (at_ : Int) ∧ i.Table < 4) : nextT at_ l = some i.Table.toNat := by
  unfold nextT; rw [h]; exact if_pos hc
theorem nextT_neg {at_ : Nat} {l : List Inst} {i : Inst} (h : ofI l 1 = some i) (hc : ¬ (i.Table > (at_ : Int) ∧ i.Table < 4)) : nextT at_ l = none := by
  unfold nextT; rw [h]; exact if_neg hc
theorem nextT_none {at_ : Nat} {l : List Inst} (h : ofI l 1 = none) : nextT at_ l = none := by
  unfold nextT; rw [h]
theorem nextT_bd {at_ n : Nat} {l : List Inst} (h : nextT at_ l = some n) : at_ < n ∧ n < 4 := by
  unfold nextT at h
  split at h
  · split at h
    · cases h; omega
    · cases h
  · cases h
def lightI (l : List Inst) : Prop := ∀ i ∈ l, i.Acts.length ≤ 12
def tblOf (s : Switch) (i : Nat) : List Flow := if h : i < 4 then Vector.get s.Tables ⟨i, h⟩ else []
theorem tblOf_lt (s : Switch) (i : Nat) (h : i < 4) : Vector.get s.Tables ⟨i, h⟩ = tblOf s i := by unfold tblOf; rw [dif_pos h]
def lightT (t : List Flow) : Prop := t.length < 20 ∧ ∀ f ∈ t, lightI f.Insts
def lightS (s : Switch) : Prop := ∀ i, i < 4 → lightT (tblOf s i)
end Go.Proofs.YtknpgojdkobgjaaGreat.W
set_option linter.unusedVariables false
set_option linter.unusedSimpArgs false
namespace Go.Proofs.YtknpgojdkobgjaaGreat.W
open Go Go.Wb
def fewI (l : List Inst) : Bool := decide ((l.length : Int) ≤ 8) && !(l.any fun i => !decide ((i.Acts.length : Int) ≤ 12))
theorem F_slices_ContainsFunc_Inst_eq (s : List Inst) (f : Inst → Option Bool) (p : Inst → Bool) (hf : ∀ x ∈ s, f x = some (p x)) : F_slices_ContainsFunc_Inst s f = some (s.any p) := by
  unfold F_slices_ContainsFunc_Inst; rw [F_slices_IndexFunc_Inst_eq s f p hf, Option.bind_some, fidx_any]
theorem F_pl_Insts_eq (l : List Inst) : F_pl_Insts l = some (fewI l) := by
  unfold F_pl_Insts fewI
  rw [F_slices_ContainsFunc_Inst_eq l F_pl_Insts_1 (fun i => !decide ((i.Acts.length : Int) ≤ 12)) (fun x _ => rfl)]
  cases decide ((l.length : Int) ≤ 8) <;> rfl
def fewF (f : Flow) : Bool := decide ((f.Match.length : Int) ≤ 30) && fewI f.Insts
theorem F_pl_Flow_eq (f : Flow) : F_pl_Flow f = some (fewF f) := by
  unfold F_pl_Flow fewF
  rw [F_pl_Insts_eq]
  cases decide ((f.Match.length : Int) ≤ 30) <;> rfl
theorem F_slices_IndexFunc_Flow_eq (s : List Flow) (f : Flow → Option Bool) (p : Flow → Bool) (hf : ∀ x ∈ s, f x = some (p x)) : F_slices_IndexFunc_Flow s f = some (fidx p s) := by
  unfold F_slices_IndexFunc_Flow
  rw [show ((s.length : Int)).toNat = s.length by omega]
  exact idx_spec p (fun i => by rw [F_slices_IndexFunc_Flow_l1]) (fun m i => by rw [F_slices_IndexFunc_Flow_l1]) hf
theorem F_slices_ContainsFunc_Flow_eq (s : List Flow) (f : Flow → Option Bool) (p : Flow → Bool) (hf : ∀ x ∈ s, f x = some (p x)) : F_slices_ContainsFunc_Flow s f = some (s.any p) := by
  unfold F_slices_ContainsFunc_Flow; rw [F_slices_IndexFunc_Flow_eq s f p hf, Option.bind_some, fidx_any]
def fewT (t : List Flow) (many : Int) : Bool := decide ((t.length : Int) ≤ many) && !(t.any fun f => !fewF f)
theorem F_pl_Flows_eq (t : List Flow) (many : Int) : F_pl_Flows t many = some (fewT t many) := by
  unfold F_pl_Flows fewT
  rw [F_slices_ContainsFunc_Flow_eq t F_pl_Flows_1 (fun f => !fewF f) (fun f _ => by unfold F_pl_Flows_1; rw [F_pl_Flow_eq]; rfl)]
  cases decide ((t.length : Int) ≤ many) <;> rfl
def fewS (s : Switch) (many : Int) : Bool := (Vector.toList s.Tables).all (fun t => fewT t many) && fewG s.Groups 9 3
theorem F_pl_Switch_l1_eq (s : Switch) (many : Int) : ∀ (l : List (List Flow)) (i : Nat), F_pl_Switch_l1 s many l i = some (l.all (fun t => fewT t many) && fewG s.Groups 9 3)
  | [], i => by rw [F_pl_Switch_l1, F_pl_Groups_eq]; rfl
  | t :: l, i => by
    rw [F_pl_Switch_l1, F_pl_Flows_eq, Option.bind_some, F_pl_Switch_l1_eq s many l (i + 1), List.all_cons]
    cases fewT t many <;> rfl
theorem F_pl_Switch_eq (s : Switch) (many : Int) : F_pl_Switch s many = some (fewS s many) := F_pl_Switch_l1_eq s many _ 0
theorem tblOf_toList (s : Switch) (i : Nat) (h : i < 4) : tblOf s i = (Vector.toList s.Tables)[i]'(by simp; exact h) := by
  rw [← tblOf_lt s i h, Vector.getElem_toList]; rfl
theorem tblOf_mem (s : Switch) (i : Nat) (h : i < 4) : tblOf s i ∈ Vector.toList s.Tables := by
  rw [tblOf_toList s i h]; exact List.getElem_mem _
theorem fewI_light {l : List Inst} (h : fewI l = true) : l.length ≤ 8 ∧ lightI l := by
  unfold fewI at h
  simp only [Bool.and_eq_true, decide_eq_true_eq, Bool.not_eq_true', List.any_eq_false] at h
  refine ⟨by omega, fun i hi => ?_⟩
  have h1 : decide ((i.Acts.length : Int) ≤ 12) = true := by simpa using h.2 i hi
  rw [decide_eq_true_eq] at h1
  omega
theorem fewF_light {f : Flow} (h : fewF f = true) : f.Match.length ≤ 30 ∧ f.Insts.length ≤ 8 ∧ lightI f.Insts := by
  unfold fewF at h
  rw [Bool.and_eq_true, decide_eq_true_eq] at h
  exact ⟨by omega, fewI_light h.2⟩
theorem fewT_light {t : List Flow} {many : Nat} (h : fewT t (many : Int) = true) : t.length ≤ many ∧ ∀ f ∈ t, f.Match.length ≤ 30 ∧ f.Insts.length ≤ 8 ∧ lightI f.Insts := by
  unfold fewT at h
  simp only [Bool.and_eq_true, decide_eq_true_eq, Bool.not_eq_true', List.any_eq_false] at h
  exact ⟨by omega, fun f hf => fewF_light (by simpa using h.2 f hf)⟩
theorem fewS_light {s : Switch} {many : Nat} (h : fewS s (many : Int) = true) : (∀ i, i < 4 → (tblOf s i).length ≤ many ∧ ∀ f ∈ tblOf s i, f.Match.length ≤ 30 ∧ f.Insts.length ≤ 8 ∧ lightI f.Insts) ∧ lightG s.Groups := by
  unfold fewS at h
  rw [Bool.and_eq_true, List.all_eq_true] at h
  exact ⟨fun i hi => fewT_light (h.1 _ (tblOf_mem s i hi)), fewG_light h.2⟩
theorem fewS_lightS {s : Switch} {many : Nat} (h : fewS s (many : Int) = true) (hm : many < 20) : lightS s := fun i hi => ⟨by have := ((fewS_light h).1 i hi).1; omega, fun f hf => (((fewS_light h).1 i hi).2 f hf).2.2⟩
end Go.Proofs.YtknpgojdkobgjaaGreat.W
set_option linter.unusedVariables false
set_option linter.unusedSimpArgs false
namespace Go.Proofs.YtknpgojdkobgjaaGreat.W
open Go Go.Wb
end Go.Proofs.YtknpgojdkobgjaaGreat.W
set_option linter.unusedVariables false
set_option linter.unusedSimpArgs false
namespace Go.Proofs.YtknpgojdkobgjaaGreat.W
open Go Go.Wb
def hasF (t : List Flow) (h : Header) (i : Int) : Bool := match t[i.toNat]? with
  | some f => chas (fcube f) h
  | none => false
theorem hasF_nat {t : List Flow} {h : Header} {k : Nat} (hk : k < t.length) : hasF t h (k : Int) = chas (fcube t[k]) h := by
  unfold hasF
  rw [Int.toNat_natCast, List.getElem?_eq_getElem hk]
def findF (t : List Flow) (h : Header) : Option Int := (order t).find? (hasF t h)
theorem F_first_All_1_l1_eq (sg : Type) (t : List Flow) (h : Header) (y : sg → Int → Option (Lp sg)) : ∀ (l : List Int) (i : Nat) (z : sg), (∀ j ∈ l, ∃ k : Nat, k < t.length ∧ j = (k : Int)) → F_first_All_1_l1 sg t h y l i (.go z) = yf y (l.filter (hasF t h)) z
  | [], i, z, _ => rfl
  | j :: l, i, z, hl => by
    obtain ⟨k, hk, rfl⟩ := hl j (by simp)
    have ih := fun z => F_first_All_1_l1_eq sg t h y l (i + 1) z fun j hj => hl j (by simp [hj])
    rw [F_first_All_1_l1, lget_lt hk, Option.bind_some, F_flow_Cube_eq, Option.bind_some, F_cube_Has_eq, Option.bind_some]
    cases hc : chas (fcube t[k]) h
    · rw [Bool.not_false, cond_true, List.filter_cons_of_neg (by rw [hasF_nat hk, hc]; simp)]
      exact ih z
    · rw [Bool.not_true, cond_false, List.filter_cons_of_pos (by rw [hasF_nat hk, hc])]
      show (y z (k : Int)).bind _ = _
      rw [yf]
      cases y z (k : Int) with
      | none => rfl
      | some r => cases r with
        | go q => exact ih q
        | out c q => rfl
theorem F_first_Find_eq (t : List Flow) (h : Header) (ht : t.length < 20) : F_first_Find t h = some (optP 0 (findF t h)) := by
  unfold F_first_Find F_first_All
  rw [Option.bind_some]
  show (F_first_All_1 (Int × Bool) (fun s x => F_first_Find_b1 s.1 s.2 x) (.go (0, false)) t h).bind _ = _
  unfold F_first_All_1
  rw [F_first_Order_eq t ht, Option.bind_some, F_first_All_1_l1_eq _ t h _ _ _ _ fun j hj => order_mem.1 hj]
  unfold findF
  generalize order t = l
  induction l with
  | nil => rfl
  | cons j l ih =>
    cases hj : hasF t h j
    · rw [List.filter_cons_of_neg (by simp [hj]), List.find?_cons_of_neg (by simp [hj])]; exact ih
    · rw [List.filter_cons_of_pos hj, List.find?_cons_of_pos hj]; rfl
theorem findF_mem {t : List Flow} {h : Header} {i : Int} (hf : findF t h = some i) : ∃ k : Nat, ∃ hk : k < t.length, i = (k : Int) ∧ chas (fcube t[k]) h = true := by
  obtain ⟨k, hk, rfl⟩ := order_mem.1 (List.mem_of_find?_eq_some hf)
  have := List.find?_some hf
  rw [hasF_nat hk] at this
  exact ⟨k, hk, rfl, this⟩
end Go.Proofs.YtknpgojdkobgjaaGreat.W
set_option linter.unusedVariables false
set_option linter.unusedSimpArgs false
namespace Go.Proofs.YtknpgojdkobgjaaGreat.W
open Go Go.Wb
structure SemP where
  h : Header
  set : List Action
  out : List Out
def sact (G : Int → Header → List Out) (p : SemP) (l : List Action) : SemP := ⟨(doA G l [] p.h).2, p.set, p.out ++ (doA G l [] p.h).1⟩
def sapply (G : Int → Header → List Out) (p : SemP) (l : List Inst) : SemP := match ofI l 4 with
  | some i => sact G p i.Acts
  | none => p
def sclear (p : SemP) (l : List Inst) : SemP := match ofI l 5 with
  | some _ => { p with set := [] }
  | none => p
def swrite (p : SemP) (l : List Inst) : SemP := match ofI l 3 with
  | some i => { p with set := i.Acts.foldl wr1 p.set }
  | none => p
def smeta (p : SemP) (l : List Inst) : SemP := match ofI l 2 with
  | some i => { p with h := capply (cset none24 1 i.Value i.Mask) p.h }
  | none => p
def sdo (G : Int → Header → List Out) (p : SemP) (l : List Inst) : SemP := smeta (swrite (sclear (sapply G p l) l) l) l
def send (G : Int → Header → List Out) (p : SemP) : SemP := sact G p (lstA p.set)
def bdG (G : Int → Header → List Out) : Prop := ∀ id h, (G id h).length ≤ 6561
theorem bdG_go (l : List Group) (e : Env) (hl : lightG l) : bdG (goG l e 8) := fun id h => goG_len l e hl 8 id h
theorem doA_bd {G : Int → Header → List Out} (hG : bdG G) (l : List Action) (h : Header) : (doA G l [] h).1.length ≤ l.length * 6561 :=
  Nat.le_trans (doA_len G 6561 (by omega) hG l h) (Nat.mul_le_mul_right _ (outs_le l))
theorem sapply_bd {G : Int → Header → List Out} (hG : bdG G) (p : SemP) {l : List Inst} (hl : lightI l) : (sapply G p l).out.length ≤ p.out.length + 78732 ∧ (sapply G p l).set = p.set := by
  unfold sapply
  split
  · rename_i i hi
    have h1 := hl i (ofI_mem hi)
    have h2 := doA_bd hG i.Acts p.h
    refine ⟨?_, rfl⟩
    show (p.out ++ _).length ≤ _
    rw [List.length_append]; omega
  · exact ⟨by omega, rfl⟩
theorem sclear_bd (p : SemP) (l : List Inst) : (sclear p l).out = p.out ∧ (sclear p l).set.length ≤ p.set.length := by
  unfold sclear
  split
  · exact ⟨rfl, by simp⟩
  · exact ⟨rfl, by omega⟩
theorem swrite_bd (p : SemP) {l : List Inst} (hl : lightI l) : (swrite p l).out = p.out ∧ (swrite p l).set.length ≤ p.set.length + 12 := by
  unfold swrite
  split
  · rename_i i hi
    have h1 := hl i (ofI_mem hi)
    have h2 := wr_len i.Acts p.set
    exact ⟨rfl, by show (i.Acts.foldl wr1 p.set).length ≤ _; omega⟩
  · exact ⟨rfl, by omega⟩
theorem smeta_bd (p : SemP) (l : List Inst) : (smeta p l).out = p.out ∧ (smeta p l).set = p.set := by
  unfold smeta
  split
  · exact ⟨rfl, rfl⟩
  · exact ⟨rfl, rfl⟩
theorem sdo_bd {G : Int → Header → List Out} (hG : bdG G) (p : SemP) {l : List Inst} (hl : lightI l) : (sdo G p l).out.length ≤ p.out.length + 78732 ∧ (sdo G p l).set.length ≤ p.set.length + 12 := by
  have h1 := sapply_bd hG p hl
  have h2 := sclear_bd (sapply G p l) l
  have h3 := swrite_bd (sclear (sapply G p l) l) hl
  have h4 := smeta_bd (swrite (sclear (sapply G p l) l) l) l
  unfold sdo
  refine ⟨?_, ?_⟩
  · rw [h4.1, h3.1, h2.1]; exact h1.1
  · rw [h4.2]
    have := h3.2
    have := h2.2
    rw [h1.2] at this
    omega
theorem send_bd {G : Int → Header → List Out} (hG : bdG G) (p : SemP) : (send G p).out.length ≤ p.out.length + p.set.length * 6561 := by
  have h1 := doA_bd hG (lstA p.set) p.h
  have h2 := Nat.mul_le_mul_right 6561 (lstA_len p.set)
  show (p.out ++ _).length ≤ _
  rw [List.length_append]; omega
def semL (s : Switch) (G : Int → Header → List Out) : Nat → Nat → SemP → List Place → SemP × List Place
  | 0, _, p, q => (p, q)
  | d + 1, at_, p, q => match findF (tblOf s at_) p.h with
    | none => (p, q ++ [⟨(at_ : Int), -1⟩])
    | some i => match (tblOf s at_)[i.toNat]? with
      | none => (p, q)
      | some f => match nextT at_ f.Insts with
        | some n => semL s G d n (sdo G p f.Insts) (q ++ [⟨(at_ : Int), i⟩])
        | none => (send G (sdo G p f.Insts), q ++ [⟨(at_ : Int), i⟩])
theorem semL_none {s : Switch} {G : Int → Header → List Out} {d at_ : Nat} {p : SemP} {q : List Place} (h : findF (tblOf s at_) p.h = none) : semL s G (d + 1) at_ p q = (p, q ++ [⟨(at_ : Int), -1⟩]) := by
  rw [semL, h]
theorem semL_some {s : Switch} {G : Int → Header → List Out} {d at_ k : Nat} {p : SemP} {q : List Place} (h : findF (tblOf s at_) p.h = some (k : Int)) (hk : k < (tblOf s at_).length) : semL s G (d + 1) at_ p q = match nextT at_ (tblOf s at_)[k].Insts with
    | some n => semL s G d n (sdo G p (tblOf s at_)[k].Insts) (q ++ [⟨(at_ : Int), (k : Int)⟩])
    | none => (send G (sdo G p (tblOf s at_)[k].Insts), q ++ [⟨(at_ : Int), (k : Int)⟩]) := by
  rw [semL, h]
  simp only
  rw [Int.toNat_natCast, List.getElem?_eq_getElem hk]
def semB (at_ : Nat) (p : SemP) (q : List Place) : Prop := p.out.length ≤ 78732 * at_ ∧ p.set.length ≤ 12 * at_ ∧ q.length ≤ at_
theorem semL_bd (s : Switch) (hs : lightS s) {G : Int → Header → List Out} (hG : bdG G) : ∀ (d at_ : Nat) (p : SemP) (q : List Place), at_ + d ≤ 4 + d → semB at_ p q → at_ < 4 → (semL s G d at_ p q).1.out.length ≤ 700000 ∧ (semL s G d at_ p q).2.length ≤ 10
  | 0, at_, p, q, _, h, h4 => by
    have := h.1
    have := h.2.2
    show p.out.length ≤ _ ∧ q.length ≤ _
    omega
  | d + 1, at_, p, q, hd, h, h4 => by
    have h0 := h.1
    have h1 := h.2.1
    have h2 := h.2.2
    cases hf : findF (tblOf s at_) p.h with
    | none =>
      rw [semL_none hf]
      show p.out.length ≤ _ ∧ (q ++ _).length ≤ _
      rw [List.length_append, List.length_singleton]
      omega
    | some i =>
      obtain ⟨k, hk, rfl, _⟩ := findF_mem hf
      rw [semL_some hf hk]
      have hl := (hs at_ h4).2 _ (List.getElem_mem hk)
      have b := sdo_bd hG p hl
      cases hn : nextT at_ (tblOf s at_)[k].Insts with
      | none =>
        have c := send_bd hG (sdo G p (tblOf s at_)[k].Insts)
        have e := Nat.mul_le_mul_right 6561 (Nat.le_trans b.2 (show p.set.length + 12 ≤ 48 by omega))
        show (send G _).out.length ≤ _ ∧ (q ++ _).length ≤ _
        rw [List.length_append, List.length_singleton]
        omega
      | some n =>
        have hb := nextT_bd hn
        exact semL_bd s hs hG d n _ _ (by omega) ⟨by omega, by omega, by rw [List.length_append, List.length_singleton]; omega⟩ hb.2
def sst (s : Switch) (e : Env) (p : SemP) (q : List Place) : sem_packet := ⟨s, e, p.h, p.set, p.out, q⟩
theorem F_sem_packet_act_eq (s : Switch) (e : Env) (hG : lightG s.Groups) (p : SemP) (q : List Place) (l : List Action) (hl : l.length ≤ 100) (hp : p.out.length ≤ 1000000) : F_sem_packet_act (sst s e p q) l = some (sst s e (sact (goG s.Groups e 8) p l) q) := by
  have hlim : lim = 4294967296 := rfl
  have hb := doA_bd (bdG_go s.Groups e hG) l p.h
  unfold F_sem_packet_act
  show (F_exec_Do s.Groups e l p.h).bind _ = _
  rw [F_exec_Do_eq _ _ _ _ hG hl, Option.bind_some]
  show (appd p.out (doA (goG s.Groups e 8) l [] p.h).1).bind _ = _
  rw [appd_ok (by omega)]; rfl
theorem F_sem_packet_follow_eq (s : Switch) (e : Env) (hG : lightG s.Groups) (p : SemP) (q : List Place) (at_ : Nat) (l : List Inst) (hl : lightI l) (hp : p.out.length ≤ 500000) (hs : p.set.length ≤ 100) :
    ∃ X : Int, F_sem_packet_follow (sst s e p q) (at_ : Int) l = some (match nextT at_ l with | some n => ((n : Int), true, sst s e (sdo (goG s.Groups e 8) p l) q) | none => (X, false, sst s e (sdo (goG s.Groups e 8) p l) q)) := by
  have hlim : lim = 4294967296 := rfl
  have hbG := bdG_go s.Groups e hG
  have j4 : ∃ X : Int, ∀ b : SemP, F_sem_packet_follow_j4 l (at_ : Int) b.out q s e b.h b.set = some (match nextT at_ l with | some n => ((n : Int), true, sst s e b q) | none => (X, false, sst s e b q)) := by
    cases hi : ofI l 1 with
    | none =>
      refine ⟨0, fun b => ?_⟩
      unfold F_sem_packet_follow_j4
      rw [F_inst_Of_eq l 1 hl, Option.bind_some, nextT_none hi, hi]; rfl
    | some i =>
      refine ⟨i.Table, fun b => ?_⟩
      unfold F_sem_packet_follow_j4
      rw [F_inst_Of_eq l 1 hl, Option.bind_some, hi]
      show some (i.Table, ((true && decide (i.Table > (at_ : Int))) && decide (i.Table < 4)), sst s e b q) = _
      rw [Bool.true_and]
      by_cases hc : i.Table > (at_ : Int) ∧ i.Table < 4
      · have hd : (decide (i.Table > (at_ : Int)) && decide (i.Table < 4)) = true := by
          rw [Bool.and_eq_true, decide_eq_true_eq, decide_eq_true_eq]; exact hc
        have : ((i.Table.toNat : Nat) : Int) = i.Table := by omega
        rw [nextT_pos hi hc, hd]
        simp [this]
      · have hd : (decide (i.Table > (at_ : Int)) && decide (i.Table < 4)) = false := by
          rw [Bool.and_eq_false_iff, decide_eq_false_iff_not, decide_eq_false_iff_not]; omega
        rw [nextT_neg hi hc, hd]
  obtain ⟨X, j4⟩ := j4
  refine ⟨X, ?_⟩
  have j3 : ∀ b : SemP, F_sem_packet_follow_j3 l (at_ : Int) b.out q s e b.h b.set = some (match nextT at_ l with | some n => ((n : Int), true, sst s e (smeta b l) q) | none => (X, false, sst s e (smeta b l) q)) := fun b => by
    unfold F_sem_packet_follow_j3
    rw [F_inst_Of_eq l 2 hl, Option.bind_some, ← j4 (smeta b l)]
    unfold smeta
    cases hi : ofI l 2 with
    | none => rfl
    | some i =>
      simp only [optP, cond_true]
      rw [show F_rewrite_None = some none24 from rfl, Option.bind_some, F_rewrite_Set_eq, Option.bind_some, F_rewrite_Apply_eq]; rfl
  have j2 : ∀ b : SemP, b.set.length ≤ 200 → F_sem_packet_follow_j2 l (at_ : Int) b.out q s e b.h b.set = some (match nextT at_ l with | some n => ((n : Int), true, sst s e (smeta (swrite b l) l) q) | none => (X, false, sst s e (smeta (swrite b l) l) q)) := fun b h2 => by
    unfold F_sem_packet_follow_j2
    rw [F_inst_Of_eq l 3 hl, Option.bind_some, ← j3 (swrite b l)]
    unfold swrite
    cases hi : ofI l 3 with
    | none => rfl
    | some i =>
      have := hl i (ofI_mem hi)
      simp only [optP, cond_true]
      rw [F_aset_Write_eq _ _ (by omega)]; rfl
  have j1 : ∀ b : SemP, b.set.length ≤ 200 → F_sem_packet_follow_j1 l (at_ : Int) b.out q s e b.h b.set = some (match nextT at_ l with | some n => ((n : Int), true, sst s e (smeta (swrite (sclear b l) l) l) q) | none => (X, false, sst s e (smeta (swrite (sclear b l) l) l) q)) := fun b h2 => by
    have b5 := sclear_bd b l
    unfold F_sem_packet_follow_j1
    rw [F_inst_Of_eq l 5 hl, Option.bind_some, ← j2 (sclear b l) (by have := b5.2; omega)]
    unfold sclear
    cases hi : ofI l 5 with
    | none => rfl
    | some i => rfl
  unfold F_sem_packet_follow
  rw [F_inst_Of_eq l 4 hl, Option.bind_some]
  have := j1 (sapply (goG s.Groups e 8) p l) (by rw [(sapply_bd hbG p hl).2]; omega)
  unfold sdo
  rw [← this]
  unfold sapply
  cases hi : ofI l 4 with
  | none => rfl
  | some i =>
    have := hl i (ofI_mem hi)
    simp only [optP, cond_true]
    show (F_sem_packet_act (sst s e p q) i.Acts).bind _ = _
    rw [F_sem_packet_act_eq s e hG p q i.Acts (by omega) (by omega)]; rfl
theorem F_sem_packet_through_l1_eq (s : Switch) (e : Env) (hs : lightS s) (hG : lightG s.Groups) : ∀ (d at_ m : Nat) (p : SemP) (q : List Place), 4 ≤ at_ + d → at_ < 4 → d ≤ m → semB at_ p q →
    F_sem_packet_through_l1 m p.out q s e p.h p.set (at_ : Int) = some (sst s e (semL s (goG s.Groups e 8) d at_ p q).1 (semL s (goG s.Groups e 8) d at_ p q).2)
  | 0, at_, m, p, q, h0, h1, _, _ => by omega
  | d + 1, at_, 0, p, q, _, _, h2, _ => by omega
  | d + 1, at_, m + 1, p, q, h1, ha, h2, hb => by
    have hlim : lim = 4294967296 := rfl
    have hl := hs at_ ha
    have b0 := hb.1
    have b1 := hb.2.1
    have b2 := hb.2.2
    rw [F_sem_packet_through_l1, chk_nat ha, Option.bind_some, tblOf_lt, F_first_Find_eq _ _ hl.1, Option.bind_some]
    cases hf : findF (tblOf s at_) p.h with
    | none =>
      rw [semL_none hf]
      simp only [optP, Bool.not_false, cond_true]
      rw [appd_ok (by simp; omega)]; rfl
    | some i =>
      obtain ⟨k, hk, rfl, _⟩ := findF_mem hf
      rw [semL_some hf hk]
      simp only [optP, Bool.not_true, cond_false]
      rw [appd_ok (by simp; omega), Option.bind_some, Option.bind_some, tblOf_lt, lget_lt hk, Option.bind_some]
      have hli := hl.2 _ (List.getElem_mem hk)
      obtain ⟨X, hX⟩ := F_sem_packet_follow_eq s e hG p (q ++ [⟨(at_ : Int), (k : Int)⟩]) at_ _ hli (by omega) (by omega)
      have bd := sdo_bd (bdG_go s.Groups e hG) p hli
      show (F_sem_packet_follow (sst s e p (q ++ [⟨(at_ : Int), (k : Int)⟩])) (at_ : Int) (tblOf s at_)[k].Insts).bind _ = _
      rw [hX, Option.bind_some]
      generalize sdo (goG s.Groups e 8) p (tblOf s at_)[k].Insts = P at *
      generalize hQ : q ++ [(⟨(at_ : Int), (k : Int)⟩ : Place)] = Q at *
      have hQl : Q.length = q.length + 1 := by rw [← hQ]; simp
      cases hn : nextT at_ (tblOf s at_)[k].Insts with
      | some n =>
        have hnb := nextT_bd hn
        simp only [Bool.not_true, cond_false]
        exact F_sem_packet_through_l1_eq s e hs hG d n m P Q (by omega) (by omega) (by omega) ⟨by omega, by omega, by omega⟩
      | none =>
        simp only [Bool.not_false, cond_true]
        have hls := lstA_len P.set
        have h5 := F_aset_List_eqL P.set (by omega)
        have h6 := F_sem_packet_act_eq s e hG P Q (lstA P.set) (by omega) (by omega)
        show ((F_aset_List P.set).bind fun x35 => (F_sem_packet_act (sst s e P Q) x35).bind fun b36 => some b36) = _
        rw [h5, Option.bind_some, h6, Option.bind_some]; rfl
def sem0 (h : Header) : SemP := ⟨h, [], []⟩
def semS (s : Switch) (e : Env) (h : Header) : SemP × List Place := semL s (goG s.Groups e 8) 4 0 (sem0 h) []
theorem semB0 (h : Header) : semB 0 (sem0 h) [] := ⟨by simp [sem0], by simp [sem0], by simp⟩
theorem F_sem_Out_eq (s : Switch) (e : Env) (h : Header) (hs : lightS s) (hG : lightG s.Groups) : F_sem_Out s e h = some (semS s e h).1.out := by
  unfold F_sem_Out F_sem_packet_through
  have := F_sem_packet_through_l1_eq s e hs hG 4 0 fuel0 (sem0 h) [] (by omega) (by omega) (by unfold fuel0; omega) (semB0 h)
  show (F_sem_packet_through_l1 fuel0 (sem0 h).out [] s e (sem0 h).h (sem0 h).set ((0 : Nat) : Int)).bind _ = _
  rw [this]; rfl
theorem semS_bd (s : Switch) (e : Env) (h : Header) (hs : lightS s) (hG : lightG s.Groups) : (semS s e h).1.out.length ≤ 700000 ∧ (semS s e h).2.length ≤ 10 :=
  semL_bd s hs (bdG_go s.Groups e hG) 4 0 _ _ (by omega) (semB0 h) (by omega)
end Go.Proofs.YtknpgojdkobgjaaGreat.W
set_option linter.unusedVariables false
set_option linter.unusedSimpArgs false
namespace Go.Proofs.YtknpgojdkobgjaaGreat.W
open Go Go.Wb
def endOf (o : Out) : End := ⟨0, o.Port, o.Max, true, o.Header⟩
theorem F_links_Next_none (s : Switch) (at_ port : Int) : F_links_Next (⟨[s], []⟩ : Net) at_ port = some (0, 0, false) := rfl
theorem F_trace_trip_on_s_l1_eq (s : Switch) (e : Env) (R : trace_trip → Int → Header → Int → Option trace_trip) : ∀ (l : List Out) (i : Nat) (acc : List End), acc.length + l.length ≤ 1000000 →
    F_trace_trip_on_s_l1 0 R 1 l i acc (⟨[s], []⟩ : Net) e = some (⟨⟨[s], []⟩, e, acc ++ l.map endOf⟩ : trace_trip)
  | [], i, acc, _ => by rw [F_trace_trip_on_s_l1]; simp
  | x :: l, i, acc, h => by
    have hlim : lim = 4294967296 := rfl
    simp only [List.length_cons] at h
    rw [F_trace_trip_on_s_l1, F_links_Next_none, Option.bind_some]
    simp only [Bool.not_false, cond_true]
    rw [appd_ok (by simp; omega), Option.bind_some, F_trace_trip_on_s_l1_eq s e R l (i + 1) _ (by simp; omega)]
    simp [endOf]
theorem F_trace_Run_alone (s : Switch) (e : Env) (h : Header) (hs : lightS s) (hG : lightG s.Groups) : F_trace_Run (⟨[s], []⟩ : Net) e 0 h 1 = some ((semS s e h).1.out.map endOf) := by
  obtain ⟨k, hk⟩ : ∃ k, fuel0 = k + 1 := ⟨fuel0 - 1, by unfold fuel0; omega⟩
  have hb := (semS_bd s e h hs hG).1
  unfold F_trace_Run F_trace_trip_on
  rw [hk]
  show (bif true then (F_trace_hops 1).bind fun x10 => (F_trace_trip_on_s (FR_trace_trip_on k) (⟨⟨[s], []⟩, e, []⟩ : trace_trip) 0 h x10).bind fun b11 => some b11.ends else some []) = _
  rw [cond_true, show F_trace_hops 1 = some 1 from rfl, Option.bind_some]
  unfold F_trace_trip_on_s
  show (((some s : Option Switch).bind fun e10 => (F_sem_Out e10 e h).bind fun x11 => F_trace_trip_on_s_l1 0 (FR_trace_trip_on k) 1 x11 0 [] (⟨[s], []⟩ : Net) e).bind fun b11 => some b11.ends) = _
  rw [Option.bind_some, F_sem_Out_eq s e h hs hG, Option.bind_some, F_trace_trip_on_s_l1_eq s e _ _ 0 [] (by simp; omega)]
  simp
set_option maxRecDepth 100000 in
theorem F_l48_awake_eq : F_l48_awake = some true := by decide +kernel
theorem F_l48_TraceAlone_l1_eq (s : Switch) (e : Env) (h : Header) (hs : lightS s) (hG : lightG s.Groups) : ∀ (l : List Out) (i : Nat) (acc : List Out), acc.length + l.length ≤ 1000000 → acc ++ l = (semS s e h).1.out → F_l48_TraceAlone_l1 s e h (l.map endOf) i acc = some true
  | [], i, acc, _, ha => by
    rw [List.append_nil] at ha
    show (F_sem_Out s e h).bind _ = _
    rw [F_sem_Out_eq s e h hs hG, Option.bind_some, F_exec_Same_eq, Option.bind_some, decide_eq_true ha, opt_true, F_l48_awake_eq]; rfl
  | x :: l, i, acc, hl, ha => by
    have hlim : lim = 4294967296 := rfl
    simp only [List.length_cons] at hl
    show (bif ((!true) || decide ((0 : Int) ≠ 0)) then some false else (appd acc [(⟨x.Port, x.Max, x.Header⟩ : Out)]).bind fun l21 => F_l48_TraceAlone_l1 s e h (l.map endOf) (i + 1) l21) = _
    rw [show ((!true) || decide ((0 : Int) ≠ 0)) = false from rfl, cond_false, appd_ok (by simp; omega), Option.bind_some]
    exact F_l48_TraceAlone_l1_eq s e h hs hG l (i + 1) _ (by simp; omega) (by rw [← ha]; simp)
theorem F_l48_TraceAlone_eq (s : Switch) (e : Env) (h : Header) : F_l48_TraceAlone s e h = some true := by
  unfold F_l48_TraceAlone
  rw [F_pl_Switch_eq, Option.bind_some]
  cases hf : fewS s 6
  · rw [Bool.not_false, Bool.true_or, cond_true, F_l48_awake_eq]; rfl
  · by_cases hd : (e.Down.length : Int) > 20
    · rw [decide_eq_true hd, Bool.or_true, cond_true, F_l48_awake_eq]; rfl
    · have hs := fewS_lightS (many := 6) hf (by omega)
      have hG := (fewS_light (many := 6) hf).2
      have hb := (semS_bd s e h hs hG).1
      rw [decide_eq_false hd, Bool.not_true, Bool.false_or, cond_false, F_trace_Run_alone s e h hs hG, Option.bind_some]
      exact F_l48_TraceAlone_l1_eq s e h hs hG _ 0 [] (by simp; omega) rfl
end Go.Proofs.YtknpgojdkobgjaaGreat.W
