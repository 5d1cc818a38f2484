/- A part of the proof. -/
import Derived.Test.YtknpgojdkobgjaaGreatG2
set_option linter.unusedVariables false
set_option linter.unusedSimpArgs false
namespace Go.Proofs.YtknpgojdkobgjaaGreat.W
open Go Go.Wb
abbrev big : Nat := 1000000
theorem lget_at {α : Type} (P Q : List α) (x : α) (i : Int) (h : i = (P.length : Int)) : lget (P ++ x :: Q) i = some x := by
  subst h
  rw [lget_nat, List.getElem?_append_right (Nat.le_refl _)]; simp
theorem set_at {α : Type} (P Q : List α) (x y : α) (i : Nat) (h : i = P.length) : List.set (P ++ x :: Q) i y = P ++ y :: Q := by
  subst h
  rw [List.set_append_right _ _ (Nat.le_refl _)]; simp
theorem wr {n : Int} (h1 : -4611686018427387904 ≤ n) (h2 : n ≤ 4611686018427387904) : IntKind.i64.wrap n = n := wrap_i64 (by omega) (by omega)
theorem halfN (n : Nat) (h : n ≤ 4611686018427387904) : IntKind.i64.wrap ((BitVec.ofNat 64 n).toNat : Int) = (n : Int) := by
  have : (BitVec.ofNat 64 n).toNat = n := by rw [BitVec.toNat_ofNat]; omega
  rw [this, wr (by omega) (by omega)]
theorem half (k : Int) (n : Nat) (hk : k = (n : Int)) (h : n ≤ 4611686018427387904) : oushr (BitVec.ofInt 64 (IntKind.i64.wrap k)) ((1 : BitVec 64).toNat : Int) = some (BitVec.ofNat 64 (n / 2)) := by
  subst hk
  rw [wr (by omega) (by omega), show ((1 : BitVec 64).toNat : Int) = ((1 : Nat) : Int) from rfl]
  unfold oushr
  rw [decide_eq_false (by omega), cond_false, BitVec.ofInt_natCast, Int.toNat_natCast]
  congr 1
  apply BitVec.eq_of_toNat_eq
  rw [BitVec.toNat_ushiftRight, BitVec.toNat_ofNat, BitVec.toNat_ofNat, Nat.shiftRight_eq_div_pow]
  omega
theorem swap_l1 (n a b : Nat) : ∀ (U V P M Q : List Action) (i f : Nat), U.length = V.length → P.length = a + i → P.length + U.length + M.length = b + i → i + U.length = n → U.length < f → (P ++ U ++ M ++ V ++ Q).length ≤ big →
    F_slices_swapRangeCmpFunc_Action_l1 (n : Int) (b : Int) (a : Int) f (P ++ U ++ M ++ V ++ Q) (i : Int) = some (P ++ V ++ M ++ U ++ Q)
  | [], V, P, M, Q, i, f, h1, h2, h3, h4, h5, h6 => by
    have hV : V = [] := List.eq_nil_of_length_eq_zero (by simpa using h1.symm)
    subst hV
    obtain ⟨f, rfl⟩ : ∃ k, f = k + 1 := ⟨f - 1, by simp at h5; omega⟩
    rw [F_slices_swapRangeCmpFunc_Action_l1, decide_eq_false (by simp at h4; omega), cond_false]
  | u :: U, [], P, M, Q, i, f, h1, h2, h3, h4, h5, h6 => by simp at h1
  | u :: U, v :: V, P, M, Q, i, f, h1, h2, h3, h4, h5, h6 => by
    obtain ⟨f, rfl⟩ : ∃ k, f = k + 1 := ⟨f - 1, by simp at h5; omega⟩
    simp only [List.length_cons, List.length_append] at h1 h3 h4 h5 h6
    have hbig : big = 1000000 := rfl
    have ea : IntKind.i64.wrap ((a : Int) + (i : Int)) = (P.length : Int) := by rw [wr (by omega) (by omega)]; omega
    have eb : IntKind.i64.wrap ((b : Int) + (i : Int)) = ((P ++ u :: U ++ M).length : Int) := by
      rw [wr (by omega) (by omega)]; simp only [List.length_append, List.length_cons]; omega
    have e1 : P ++ u :: U ++ M ++ v :: V ++ Q = (P ++ u :: U ++ M) ++ v :: (V ++ Q) := by simp
    have e2 : P ++ u :: U ++ M ++ v :: V ++ Q = P ++ u :: (U ++ M ++ v :: V ++ Q) := by simp
    have e3 : P ++ v :: (U ++ M ++ v :: V ++ Q) = (P ++ v :: U ++ M) ++ v :: (V ++ Q) := by simp
    have e4 : (P ++ v :: U ++ M) ++ u :: (V ++ Q) = (P ++ [v]) ++ U ++ (M ++ [u]) ++ V ++ Q := by simp
    have g1 : lget (P ++ u :: U ++ M ++ v :: V ++ Q) ((P ++ u :: U ++ M).length : Int) = some v := by rw [e1]; exact lget_at _ _ _ _ rfl
    have g2 : lget (P ++ u :: U ++ M ++ v :: V ++ Q) (P.length : Int) = some u := by rw [e2]; exact lget_at _ _ _ _ rfl
    have s1 : List.set (P ++ u :: U ++ M ++ v :: V ++ Q) ((P.length : Int)).toNat v = (P ++ v :: U ++ M) ++ v :: (V ++ Q) := by
      rw [e2, Int.toNat_natCast, set_at _ _ _ _ _ rfl, e3]
    have hl : (P ++ u :: U ++ M).length = (P ++ v :: U ++ M).length := by simp
    have g3 : lget ((P ++ v :: U ++ M) ++ v :: (V ++ Q)) ((P ++ u :: U ++ M).length : Int) = some v := lget_at _ _ _ _ (by rw [hl])
    have s2 : List.set ((P ++ v :: U ++ M) ++ v :: (V ++ Q)) (((P ++ u :: U ++ M).length : Int)).toNat u = (P ++ [v]) ++ U ++ (M ++ [u]) ++ V ++ Q := by
      rw [Int.toNat_natCast, set_at _ _ _ _ _ hl, e4]
    have ei : IntKind.i64.wrap ((i : Int) + 1) = ((i + 1 : Nat) : Int) := by rw [wr (by omega) (by omega)]; omega
    rw [F_slices_swapRangeCmpFunc_Action_l1, decide_eq_true (by omega), cond_true, eb, g1, Option.bind_some, ea, g2, Option.bind_some, Option.bind_some, s1, g3, Option.bind_some, s2, ei,
      swap_l1 n a b U V (P ++ [v]) (M ++ [u]) Q (i + 1) f (by omega) (by simp only [List.length_append, List.length_cons, List.length_nil]; omega) (by simp only [List.length_append, List.length_cons, List.length_nil]; omega) (by omega) (by omega) (by simp only [List.length_append, List.length_cons, List.length_nil]; omega)]
    simp
theorem swap_eq (U V P M Q : List Action) (cmp : Action → Action → Option Int) (a b n : Int) (h : U.length = V.length) (ha : a = (P.length : Int)) (hb : b = ((P ++ U ++ M).length : Int)) (hn : n = (U.length : Int)) (hl : (P ++ U ++ M ++ V ++ Q).length ≤ big) :
    F_slices_swapRangeCmpFunc_Action (P ++ U ++ M ++ V ++ Q) a b n cmp = some (P ++ V ++ M ++ U ++ Q) := by
  subst ha hb hn
  unfold F_slices_swapRangeCmpFunc_Action
  exact swap_l1 U.length P.length (P ++ U ++ M).length U V P M Q 0 _ h rfl (by simp only [List.length_append]; omega) (by omega) (by omega) hl
theorem rot_l1 (cmp : Action → Action → Option Int) : ∀ (f : Nat) (X Y P Q : List Action) (m : Nat), 0 < X.length → 0 < Y.length → X.length + Y.length ≤ f → P.length + X.length = m → (P ++ X ++ Y ++ Q).length ≤ big →
    F_slices_rotateCmpFunc_Action_l1 (m : Int) cmp f (P ++ X ++ Y ++ Q) (X.length : Int) (Y.length : Int) = some (P ++ Y ++ X ++ Q)
  | 0, X, Y, P, Q, m, h1, h2, h3, h4, h5 => by omega
  | f + 1, X, Y, P, Q, m, h1, h2, h3, h4, h5 => by
    have hbig : big = 1000000 := rfl
    simp only [List.length_append] at h5
    have em : IntKind.i64.wrap ((m : Int) - (X.length : Int)) = (P.length : Int) := by rw [wr (by omega) (by omega)]; omega
    rw [F_slices_rotateCmpFunc_Action_l1, em]
    by_cases he : X.length = Y.length
    · rw [decide_eq_false (by omega), cond_false]
      have := swap_eq X Y P [] Q cmp (P.length : Int) (m : Int) (X.length : Int) he rfl (by simp; omega) rfl (by simp only [List.length_append, List.length_nil]; omega)
      simp only [List.append_nil] at this
      rw [this]; rfl
    · rw [decide_eq_true (by omega), cond_true]
      by_cases hg : X.length > Y.length
      · rw [decide_eq_true (by omega), cond_true]
        have hx : X = X.take Y.length ++ X.drop Y.length := (List.take_append_drop ..).symm
        generalize hX1 : X.take Y.length = X1 at hx
        generalize hX2 : X.drop Y.length = X2 at hx
        have l1 : X1.length = Y.length := by rw [← hX1]; simp; omega
        have l2 : X2.length = X.length - Y.length := by rw [← hX2]; simp
        have := swap_eq X1 Y P X2 Q cmp (P.length : Int) (m : Int) (Y.length : Int) l1 rfl (by simp only [List.length_append]; omega) (by omega) (by simp only [List.length_append]; omega)
        have e1 : P ++ X ++ Y ++ Q = P ++ X1 ++ X2 ++ Y ++ Q := by rw [hx]; simp
        have e2 : P ++ Y ++ X2 ++ X1 ++ Q = (P ++ Y) ++ X2 ++ X1 ++ Q := by simp
        have e3 : IntKind.i64.wrap ((X.length : Int) - (Y.length : Int)) = (X2.length : Int) := by rw [wr (by omega) (by omega)]; omega
        have e4 : ((Y.length : Nat) : Int) = (X1.length : Int) := by omega
        rw [e1, this, Option.bind_some, e2, e3, e4, rot_l1 cmp f X2 X1 (P ++ Y) Q m (by omega) (by omega) (by omega) (by simp only [List.length_append]; omega) (by simp only [List.length_append]; omega)]
        rw [hx]; simp
      · rw [decide_eq_false (by omega), cond_false]
        have hy : Y = Y.take (Y.length - X.length) ++ Y.drop (Y.length - X.length) := (List.take_append_drop ..).symm
        generalize hY1 : Y.take (Y.length - X.length) = Y1 at hy
        generalize hY2 : Y.drop (Y.length - X.length) = Y2 at hy
        have l1 : Y1.length = Y.length - X.length := by rw [← hY1]; simp
        have l2 : Y2.length = X.length := by rw [← hY2]; simp; omega
        have hb : IntKind.i64.wrap (IntKind.i64.wrap ((m : Int) + (Y.length : Int)) - (X.length : Int)) = ((P ++ X ++ Y1).length : Int) := by
          rw [wr (n := (m : Int) + (Y.length : Int)) (by omega) (by omega), wr (by omega) (by omega)]; simp only [List.length_append]; omega
        have := swap_eq X Y2 P Y1 Q cmp (P.length : Int) ((P ++ X ++ Y1).length : Int) (X.length : Int) (by omega) rfl rfl rfl (by simp only [List.length_append]; omega)
        have e1 : P ++ X ++ Y ++ Q = P ++ X ++ Y1 ++ Y2 ++ Q := by rw [hy]; simp
        have e2 : P ++ Y2 ++ Y1 ++ X ++ Q = P ++ Y2 ++ Y1 ++ (X ++ Q) := by simp
        have e3 : IntKind.i64.wrap ((Y.length : Int) - (X.length : Int)) = (Y1.length : Int) := by rw [wr (by omega) (by omega)]; omega
        have e4 : ((X.length : Nat) : Int) = (Y2.length : Int) := by omega
        rw [hb, e1, this, Option.bind_some, e2, e3, e4, rot_l1 cmp f Y2 Y1 P (X ++ Q) m (by omega) (by omega) (by omega) (by omega) (by simp only [List.length_append]; omega)]
        rw [hy]; simp
theorem rot_eq (cmp : Action → Action → Option Int) (X Y P Q : List Action) (a m b : Int) (h1 : 0 < X.length) (h2 : 0 < Y.length) (ha : a = (P.length : Int)) (hm : m = ((P ++ X).length : Int)) (hb : b = ((P ++ X ++ Y).length : Int)) (hl : (P ++ X ++ Y ++ Q).length ≤ big) :
    F_slices_rotateCmpFunc_Action (P ++ X ++ Y ++ Q) a m b cmp = some (P ++ Y ++ X ++ Q) := by
  subst ha hm hb
  have hbig : big = 1000000 := rfl
  simp only [List.length_append] at hl
  unfold F_slices_rotateCmpFunc_Action
  have e1 : IntKind.i64.wrap (((P ++ X).length : Int) - (P.length : Int)) = (X.length : Int) := by rw [wr (by simp only [List.length_append]; omega) (by simp only [List.length_append]; omega)]; simp only [List.length_append]; omega
  have e2 : IntKind.i64.wrap (((P ++ X ++ Y).length : Int) - ((P ++ X).length : Int)) = (Y.length : Int) := by rw [wr (by simp only [List.length_append]; omega) (by simp only [List.length_append]; omega)]; simp only [List.length_append]; omega
  rw [e1, e2]
  exact rot_l1 cmp fuel0 X Y P Q _ h1 h2 (by unfold fuel0; omega) (by simp) (by simp only [List.length_append]; omega)
theorem bs_spec {β : Type} (G : Nat → Int → Int → Option β) (K : Int → Option β) (t : Nat → Bool) (lo s hi : Nat)
    (step : ∀ (f i j : Nat), lo ≤ i → i < j → j ≤ hi → G (f + 1) (i : Int) (j : Int) = bif t ((i + j) / 2) then G f (((i + j) / 2 + 1 : Nat) : Int) (j : Int) else G f (i : Int) (((i + j) / 2 : Nat) : Int))
    (stop : ∀ (f i : Nat), lo ≤ i → i ≤ hi → G (f + 1) (i : Int) (i : Int) = K (i : Int)) (ht : ∀ c, lo ≤ c → c < s → t c = true) (hf : ∀ c, s ≤ c → c < hi → t c = false) :
    ∀ (f i j : Nat), lo ≤ i → i ≤ s → s ≤ j → j ≤ hi → j - i < f → G f (i : Int) (j : Int) = K (s : Int)
  | 0, i, j, _, _, _, _, h => by omega
  | f + 1, i, j, h1, h2, h3, h4, h5 => by
    by_cases hij : i < j
    · rw [step f i j h1 hij h4]
      by_cases hc : (i + j) / 2 < s
      · rw [ht _ (by omega) hc, cond_true]
        exact bs_spec G K t lo s hi step stop ht hf f _ j (by omega) (by omega) h3 h4 (by omega)
      · rw [hf _ (by omega) (by omega), cond_false]
        exact bs_spec G K t lo s hi step stop ht hf f i _ h1 h2 (by omega) (by omega) (by omega)
    · have e1 : i = s := by omega
      have e2 : j = s := by omega
      rw [e1, e2]
      exact stop f s (by omega) (by omega)
theorem bound_ex (t : Nat → Bool) (lo : Nat) : ∀ (n : Nat), (∀ c d, lo ≤ c → c ≤ d → d < lo + n → t c = false → t d = false) → ∃ s, lo ≤ s ∧ s ≤ lo + n ∧ (∀ c, lo ≤ c → c < s → t c = true) ∧ ∀ c, s ≤ c → c < lo + n → t c = false
  | 0, _ => ⟨lo, Nat.le_refl _, Nat.le_refl _, fun c h1 h2 => by omega, fun c h1 h2 => by omega⟩
  | n + 1, hm => by
    obtain ⟨s, h1, h2, h3, h4⟩ := bound_ex t lo n fun c d a b e f => hm c d a b (by omega) f
    by_cases hs : s < lo + n
    · refine ⟨s, h1, by omega, h3, fun c a b => ?_⟩
      by_cases hc : c < lo + n
      · exact h4 c a hc
      · exact hm s c h1 a b (h4 s (Nat.le_refl _) hs)
    · have : s = lo + n := by omega
      subst this
      cases ht : t (lo + n)
      · exact ⟨lo + n, h1, by omega, h3, fun c a b => by rw [show c = lo + n by omega, ht]⟩
      · refine ⟨lo + n + 1, by omega, by omega, fun c a b => ?_, fun c a b => by omega⟩
        by_cases hc : c < lo + n
        · exact h3 c a hc
        · have : c = lo + n := by omega
          rw [this, ht]
end Go.Proofs.YtknpgojdkobgjaaGreat.W
set_option linter.unusedVariables false
set_option linter.unusedSimpArgs false
namespace Go.Proofs.YtknpgojdkobgjaaGreat.W
open Go Go.Wb
section sym
variable (lt : Action → Action → Bool) (cmp : Action → Action → Option Int)
def Tells : Prop := ∀ x y, ∃ c, cmp x y = some c ∧ decide (c < 0) = lt x y
variable {lt cmp}
theorem sm_l2 (e : Nat) : ∀ (Y P Q : List Action) (x : Action) (k f : Nat), k = P.length → k + Y.length + 1 = e → Y.length < f → (P ++ x :: (Y ++ Q)).length ≤ big →
    F_slices_symMergeCmpFunc_Action_s_l2 (e : Int) f (P ++ x :: (Y ++ Q)) (k : Int) = some (P ++ Y ++ x :: Q)
  | [], P, Q, x, k, f, h1, h2, h3, h4 => by
    obtain ⟨f, rfl⟩ : ∃ k, f = k + 1 := ⟨f - 1, by simp at h3; omega⟩
    have hbig : big = 1000000 := rfl
    simp only [List.length_append, List.length_cons, List.length_nil] at h2 h4
    rw [F_slices_symMergeCmpFunc_Action_s_l2, wr (by omega) (by omega), decide_eq_false (by omega), cond_false]
    simp
  | y :: Y, P, Q, x, k, f, h1, h2, h3, h4 => by
    obtain ⟨f, rfl⟩ : ∃ k, f = k + 1 := ⟨f - 1, by simp at h3; omega⟩
    have hbig : big = 1000000 := rfl
    simp only [List.length_append, List.length_cons] at h2 h3 h4
    have ek : IntKind.i64.wrap ((k : Int) + 1) = ((k + 1 : Nat) : Int) := by rw [wr (by omega) (by omega)]; omega
    have e1 : P ++ x :: (y :: Y ++ Q) = (P ++ [x]) ++ y :: (Y ++ Q) := by simp
    have e2 : (P ++ [y]) ++ y :: (Y ++ Q) = P ++ y :: (y :: (Y ++ Q)) := by simp
    have g1 : lget (P ++ x :: (y :: Y ++ Q)) ((k + 1 : Nat) : Int) = some y := by rw [e1]; exact lget_at _ _ _ _ (by simp; omega)
    have g2 : lget (P ++ x :: (y :: Y ++ Q)) (k : Int) = some x := lget_at _ _ _ _ (by omega)
    have s1 : List.set (P ++ x :: (y :: Y ++ Q)) ((k : Int)).toNat y = (P ++ [y]) ++ y :: (Y ++ Q) := by rw [Int.toNat_natCast, set_at _ _ _ _ _ h1]; simp
    have g3 : lget ((P ++ [y]) ++ y :: (Y ++ Q)) ((k + 1 : Nat) : Int) = some y := lget_at _ _ _ _ (by simp; omega)
    have s2 : List.set ((P ++ [y]) ++ y :: (Y ++ Q)) (((k + 1 : Nat) : Int)).toNat x = (P ++ [y]) ++ x :: (Y ++ Q) := by rw [Int.toNat_natCast, set_at _ _ _ _ _ (by simp; omega)]
    rw [F_slices_symMergeCmpFunc_Action_s_l2, wr (n := (e : Int) - 1) (by omega) (by omega), decide_eq_true (by omega), cond_true, ek, g1, Option.bind_some, g2, Option.bind_some, Option.bind_some, s1, g3, Option.bind_some, s2,
      sm_l2 e Y (P ++ [y]) Q x (k + 1) f (by simp; omega) (by omega) (by omega) (by simp only [List.length_append, List.length_cons, List.length_nil]; omega)]
    simp
theorem sm_l4 (s : Nat) : ∀ (R P Q : List Action) (x : Action) (k f : Nat), k = s + R.length → P.length = s → R.length < f → (P ++ R.reverse ++ x :: Q).length ≤ big →
    F_slices_symMergeCmpFunc_Action_s_l4 (s : Int) f (P ++ R.reverse ++ x :: Q) (k : Int) = some (P ++ x :: (R.reverse ++ Q))
  | [], P, Q, x, k, f, h1, h2, h3, h4 => by
    obtain ⟨f, rfl⟩ : ∃ k, f = k + 1 := ⟨f - 1, by simp at h3; omega⟩
    rw [F_slices_symMergeCmpFunc_Action_s_l4, decide_eq_false (by simp at h1; omega), cond_false]
    simp
  | y :: R, P, Q, x, k, f, h1, h2, h3, h4 => by
    obtain ⟨f, rfl⟩ : ∃ k, f = k + 1 := ⟨f - 1, by simp at h3; omega⟩
    have hbig : big = 1000000 := rfl
    simp only [List.length_append, List.length_cons, List.length_reverse] at h1 h3 h4
    have ek : IntKind.i64.wrap ((k : Int) - 1) = ((k - 1 : Nat) : Int) := by rw [wr (by omega) (by omega)]; omega
    have e1 : P ++ (y :: R).reverse ++ x :: Q = (P ++ R.reverse) ++ y :: (x :: Q) := by simp
    have e1' : P ++ (y :: R).reverse ++ x :: Q = (P ++ R.reverse ++ [y]) ++ x :: Q := by simp
    have g1 : lget (P ++ (y :: R).reverse ++ x :: Q) ((k - 1 : Nat) : Int) = some y := by rw [e1]; exact lget_at _ _ _ _ (by simp; omega)
    have g2 : lget (P ++ (y :: R).reverse ++ x :: Q) (k : Int) = some x := by rw [e1']; exact lget_at _ _ _ _ (by simp; omega)
    have s1 : List.set (P ++ (y :: R).reverse ++ x :: Q) ((k : Int)).toNat y = (P ++ R.reverse) ++ y :: (y :: Q) := by rw [e1', Int.toNat_natCast, set_at _ _ _ _ _ (by simp; omega)]; simp
    have g3 : lget ((P ++ R.reverse) ++ y :: (y :: Q)) ((k - 1 : Nat) : Int) = some y := lget_at _ _ _ _ (by simp; omega)
    have s2 : List.set ((P ++ R.reverse) ++ y :: (y :: Q)) (((k - 1 : Nat) : Int)).toNat x = P ++ R.reverse ++ x :: (y :: Q) := by rw [Int.toNat_natCast, set_at _ _ _ _ _ (by simp; omega)]
    rw [F_slices_symMergeCmpFunc_Action_s_l4, decide_eq_true (by omega), cond_true, ek, g1, Option.bind_some, g2, Option.bind_some, Option.bind_some, s1, g3, Option.bind_some, s2,
      sm_l4 s R P (y :: Q) x (k - 1) f (by omega) h2 (by omega) (by simp only [List.length_append, List.length_cons, List.length_reverse]; omega)]
    simp
theorem lget_mid {α : Type} (P X Q : List α) (c : Nat) (h1 : P.length ≤ c) (h2 : c < P.length + X.length) : lget (P ++ X ++ Q) (c : Int) = some (X[c - P.length]'(by omega)) := by
  rw [lget_nat, List.append_assoc, List.getElem?_append_right h1, List.getElem?_append_left (by omega), List.getElem?_eq_getElem]
theorem srtd_get {l : List Action} (h : Srtd lt l) {i j : Nat} (hi : i < l.length) (hj : j < l.length) (hij : i < j) : lt l[j] l[i] = false := (List.pairwise_iff_getElem.1 h) i j hi hj hij
theorem srtd_get' (hs : Swo lt) {l : List Action} (h : Srtd lt l) {i j : Nat} (hi : i < l.length) (hj : j < l.length) (hij : i ≤ j) : lt l[j] l[i] = false := by
  rcases Nat.lt_or_eq_of_le hij with h1 | h1
  · exact srtd_get h hi hj h1
  · subst h1
    have := eqv_self hs l[i]
    unfold eqv at this
    simpa using this
theorem srtd_left {A B : List Action} (h : Srtd lt (A ++ B)) : Srtd lt A := (List.pairwise_append.1 h).1
theorem srtd_right {A B : List Action} (h : Srtd lt (A ++ B)) : Srtd lt B := (List.pairwise_append.1 h).2.1
theorem sym_one (hs : Swo lt) (hc : Tells lt cmp) (x : Action) (Y P Q : List Action) (hY : Srtd lt Y) (hl : (P ++ x :: (Y ++ Q)).length ≤ big) :
    F_slices_symMergeCmpFunc_Action_s_l1 (P ++ x :: (Y ++ Q)) (P.length : Int) cmp ((((P.length + 1 + Y.length : Nat) : Int) - ((P.length + 1 : Nat) : Int)).toNat + 1) ((P.length + 1 : Nat) : Int) ((P.length + 1 + Y.length : Nat) : Int) = some (P ++ srt lt (x :: Y) ++ Q) := by
  have hbig : big = 1000000 := rfl
  simp only [List.length_append, List.length_cons] at hl
  have eD : P ++ x :: (Y ++ Q) = (P ++ [x]) ++ Y ++ Q := by simp
  let t : Nat → Bool := fun c => if h : c - (P.length + 1) < Y.length then lt Y[c - (P.length + 1)] x else false
  have htv : ∀ c (h : c - (P.length + 1) < Y.length), t c = lt Y[c - (P.length + 1)] x := fun c h => by simp only [t]; rw [dif_pos h]
  obtain ⟨s, s1, s2, s3, s4⟩ := bound_ex t (P.length + 1) Y.length fun c d h1 h2 h3 h4 => by
    rw [htv c (by omega)] at h4
    rw [htv d (by omega)]
    exact hs.neg _ _ _ (srtd_get' hs hY (by omega) (by omega) (by omega)) h4
  have key := bs_spec (F_slices_symMergeCmpFunc_Action_s_l1 (P ++ x :: (Y ++ Q)) (P.length : Int) cmp) (fun i => F_slices_symMergeCmpFunc_Action_s_l2 i ((((IntKind.i64.wrap (i - 1)) : Int) - (P.length : Int)).toNat + 1) (P ++ x :: (Y ++ Q)) (P.length : Int)) t (P.length + 1) s (P.length + 1 + Y.length)
    (fun f i j h1 h2 h3 => by
      obtain ⟨c, hc1, hc2⟩ := hc (Y[(i + j) / 2 - (P.length + 1)]'(by omega)) x
      have gx : lget (P ++ x :: (Y ++ Q)) (P.length : Int) = some x := lget_at _ _ _ _ rfl
      have gy : lget (P ++ x :: (Y ++ Q)) (((i + j) / 2 : Nat) : Int) = some (Y[(i + j) / 2 - (P.length + 1)]'(by omega)) := by
        rw [eD, lget_mid (P ++ [x]) Y Q _ (by simp; omega) (by simp; omega)]
        simp
      have e1 : IntKind.i64.wrap ((((i + j) / 2 : Nat) : Int) + 1) = (((i + j) / 2 + 1 : Nat) : Int) := by rw [wr (by omega) (by omega)]; omega
      rw [F_slices_symMergeCmpFunc_Action_s_l1, decide_eq_true (by omega), cond_true, half _ (i + j) (by omega) (by omega), Option.bind_some, halfN _ (by omega), gy, Option.bind_some, gx, Option.bind_some, hc1, Option.bind_some, hc2, htv _ (by omega), e1])
    (fun f i h1 h2 => by rw [F_slices_symMergeCmpFunc_Action_s_l1, decide_eq_false (by omega), cond_false]) s3 (fun c h1 h2 => s4 c h1 h2)
  rw [key _ _ _ (Nat.le_refl _) s1 s2 (Nat.le_refl _) (by omega)]
  have hy : Y = Y.take (s - (P.length + 1)) ++ Y.drop (s - (P.length + 1)) := (List.take_append_drop ..).symm
  have l1 : (Y.take (s - (P.length + 1))).length = s - (P.length + 1) := by simp; omega
  have hm := sm_l2 s (Y.take (s - (P.length + 1))) P (Y.drop (s - (P.length + 1)) ++ Q) x P.length ((((IntKind.i64.wrap ((s : Int) - 1)) : Int) - (P.length : Int)).toNat + 1) rfl (by omega) (by rw [wr (by omega) (by omega)]; omega) (by simp only [List.length_append, List.length_cons, List.length_drop]; omega)
  rw [← List.append_assoc, ← hy] at hm
  show F_slices_symMergeCmpFunc_Action_s_l2 (s : Int) _ _ _ = _
  rw [hm]
  have h1 : ∀ y ∈ Y.take (s - (P.length + 1)), lt y x = true := fun y hy1 => by
    obtain ⟨i, hi, rfl⟩ := List.getElem_of_mem hy1
    rw [l1] at hi
    have := s3 (i + (P.length + 1)) (by omega) (by omega)
    rw [htv _ (by omega)] at this
    simpa using this
  have h2 : ∀ y ∈ Y.drop (s - (P.length + 1)), lt y x = false := fun y hy1 => by
    obtain ⟨i, hi, rfl⟩ := List.getElem_of_mem hy1
    rw [List.length_drop] at hi
    have := s4 (s + i) (by omega) (by omega)
    rw [htv _ (by omega)] at this
    rw [List.getElem_drop]
    have e : s + i - (P.length + 1) = s - (P.length + 1) + i := by omega
    simpa [e] using this
  have hY' := hY
  rw [hy] at hY'
  have h3 := srt_split hs (X1 := []) (X2 := [x]) (Y1 := Y.take (s - (P.length + 1))) (Y2 := Y.drop (s - (P.length + 1))) (by simp [Srtd]) hY' (by simp) (fun y hy1 u hu => by rw [show u = x by simpa using hu]; exact h1 y hy1)
  simp only [List.nil_append, ← hy] at h3
  have h4 : srt lt ([x] ++ Y.drop (s - (P.length + 1))) = [x] ++ Y.drop (s - (P.length + 1)) := srt_id hs (by
    unfold Srtd
    rw [List.pairwise_append]
    exact ⟨by simp, (srtd_right hY'), fun u hu v hv => by rw [show u = x by simpa using hu]; exact h2 v hv⟩)
  rw [h4, srt_id hs (srtd_left hY')] at h3
  rw [show x :: Y = [x] ++ Y from rfl, h3]
  simp
theorem sym_last (hs : Swo lt) (hc : Tells lt cmp) (x : Action) (X P Q : List Action) (hX : Srtd lt X) (hl : (P ++ X ++ x :: Q).length ≤ big) :
    F_slices_symMergeCmpFunc_Action_s_l3 (P ++ X ++ x :: Q) ((P.length + X.length : Nat) : Int) cmp ((((P.length + X.length : Nat) : Int) - (P.length : Int)).toNat + 1) (P.length : Int) ((P.length + X.length : Nat) : Int) = some (P ++ srt lt (X ++ [x]) ++ Q) := by
  have hbig : big = 1000000 := rfl
  simp only [List.length_append, List.length_cons] at hl
  let t : Nat → Bool := fun c => if h : c - P.length < X.length then !lt x X[c - P.length] else false
  have htv : ∀ c (h : c - P.length < X.length), t c = !lt x X[c - P.length] := fun c h => by simp only [t]; rw [dif_pos h]
  obtain ⟨s, s1, s2, s3, s4⟩ := bound_ex t P.length X.length fun c d h1 h2 h3 h4 => by
    rw [htv c (by omega)] at h4
    rw [htv d (by omega)]
    simp only [Bool.not_eq_false'] at h4 ⊢
    cases hd : lt x X[d - P.length]
    · have := hs.neg _ _ _ hd (srtd_get' hs hX (i := c - P.length) (j := d - P.length) (by omega) (by omega) (by omega))
      rw [this] at h4; cases h4
    · rfl
  have key := bs_spec (F_slices_symMergeCmpFunc_Action_s_l3 (P ++ X ++ x :: Q) ((P.length + X.length : Nat) : Int) cmp) (fun i => F_slices_symMergeCmpFunc_Action_s_l4 i (((((P.length + X.length : Nat) : Int) : Int) - i).toNat + 1) (P ++ X ++ x :: Q) ((P.length + X.length : Nat) : Int)) t P.length s (P.length + X.length)
    (fun f i j h1 h2 h3 => by
      obtain ⟨c, hc1, hc2⟩ := hc x (X[(i + j) / 2 - P.length]'(by omega))
      have gx : lget (P ++ X ++ x :: Q) ((P.length + X.length : Nat) : Int) = some x := lget_at _ _ _ _ (by simp)
      have gy : lget (P ++ X ++ x :: Q) (((i + j) / 2 : Nat) : Int) = some (X[(i + j) / 2 - P.length]'(by omega)) := lget_mid P X (x :: Q) _ (by omega) (by omega)
      have e1 : IntKind.i64.wrap ((((i + j) / 2 : Nat) : Int) + 1) = (((i + j) / 2 + 1 : Nat) : Int) := by rw [wr (by omega) (by omega)]; omega
      rw [F_slices_symMergeCmpFunc_Action_s_l3, decide_eq_true (by omega), cond_true, half _ (i + j) (by omega) (by omega), Option.bind_some, halfN _ (by omega), gx, Option.bind_some, gy, Option.bind_some, hc1, Option.bind_some, hc2, htv _ (by omega), e1])
    (fun f i h1 h2 => by rw [F_slices_symMergeCmpFunc_Action_s_l3, decide_eq_false (by omega), cond_false]) s3 (fun c h1 h2 => s4 c h1 h2)
  rw [key _ _ _ (Nat.le_refl _) s1 s2 (Nat.le_refl _) (by omega)]
  have hx : X = X.take (s - P.length) ++ X.drop (s - P.length) := (List.take_append_drop ..).symm
  have l1 : (X.take (s - P.length)).length = s - P.length := by simp; omega
  have hm := sm_l4 s (X.drop (s - P.length)).reverse (P ++ X.take (s - P.length)) Q x (P.length + X.length) (((((P.length + X.length : Nat) : Int) : Int) - (s : Int)).toNat + 1) (by simp; omega) (by simp; omega) (by simp; omega) (by simp only [List.length_append, List.length_cons, List.length_reverse, List.length_drop, List.length_take]; omega)
  rw [List.reverse_reverse, List.append_assoc P, ← hx] at hm
  show F_slices_symMergeCmpFunc_Action_s_l4 (s : Int) _ _ _ = _
  rw [hm]
  have h1 : ∀ u ∈ X.take (s - P.length), lt x u = false := fun u hu => by
    obtain ⟨i, hi, rfl⟩ := List.getElem_of_mem hu
    rw [l1] at hi
    have := s3 (i + P.length) (by omega) (by omega)
    rw [htv _ (by omega)] at this
    simpa using this
  have h2 : ∀ u ∈ X.drop (s - P.length), lt x u = true := fun u hu => by
    obtain ⟨i, hi, rfl⟩ := List.getElem_of_mem hu
    rw [List.length_drop] at hi
    have := s4 (s + i) (by omega) (by omega)
    rw [htv _ (by omega)] at this
    rw [List.getElem_drop]
    have e : s + i - P.length = s - P.length + i := by omega
    simpa [e] using this
  have hX' := hX
  rw [hx] at hX'
  have h3 := srt_split hs (X1 := X.take (s - P.length)) (X2 := X.drop (s - P.length)) (Y1 := [x]) (Y2 := []) hX' (by simp [Srtd]) (by simp) (fun y hy1 u hu => by rw [show y = x by simpa using hy1]; exact h2 u hu)
  simp only [List.append_nil, ← hx] at h3
  have h4 : srt lt (X.take (s - P.length) ++ [x]) = X.take (s - P.length) ++ [x] := srt_id hs (by
    unfold Srtd
    rw [List.pairwise_append]
    exact ⟨(srtd_left hX'), by simp, fun u hu v hv => by rw [show v = x by simpa using hv]; exact h1 u hu⟩)
  rw [h4, srt_id hs (srtd_right hX')] at h3
  rw [h3]
  simp
end sym
end Go.Proofs.YtknpgojdkobgjaaGreat.W
set_option linter.unusedVariables false
set_option linter.unusedSimpArgs false
namespace Go.Proofs.YtknpgojdkobgjaaGreat.W
open Go Go.Wb
section sym
variable {lt : Action → Action → Bool} {cmp : Action → Action → Option Int}
def SymR (lt : Action → Action → Bool) (cmp : Action → Action → Option Int) (f : Nat) (R : List Action → Int → Int → Int → (Action → Action → Option Int) → Option (List Action)) : Prop :=
  ∀ (P X Y Q : List Action) (a m b : Int), a = (P.length : Int) → m = (P.length : Int) + (X.length : Int) → b = (P.length : Int) + (X.length : Int) + (Y.length : Int) → 0 < X.length → 0 < Y.length → X.length + Y.length ≤ f → Srtd lt X → Srtd lt Y → (P ++ X ++ Y ++ Q).length ≤ big →
    R (P ++ X ++ Y ++ Q) a m b cmp = some (P ++ srt lt (X ++ Y) ++ Q)
theorem srt_nil_left (hs : Swo lt) {X Y : List Action} (hX : Srtd lt X) (hY : Srtd lt Y) (h : ¬ (0 < X.length ∧ 0 < Y.length)) : srt lt (X ++ Y) = X ++ Y := by
  cases X with
  | nil => exact srt_id hs hY
  | cons x X =>
    cases Y with
    | nil => rw [List.append_nil]; exact srt_id hs hX
    | cons y Y => exact absurd ⟨by simp, by simp⟩ h
theorem sm_j8 (hs : Swo lt) {f : Nat} {R : List Action → Int → Int → Int → (Action → Action → Option Int) → Option (List Action)} (hR : SymR lt cmp f R) (P X2 Y2 Q : List Action) (mid : Nat) (m start b : Int)
    (h1 : mid = P.length) (h2 : (mid : Int) + m - start = (P.length : Int) + (X2.length : Int)) (h3 : b = (P.length : Int) + (X2.length : Int) + (Y2.length : Int)) (hm : 0 ≤ m ∧ m ≤ big) (hst : 0 ≤ start ∧ start ≤ big) (hf : X2.length + Y2.length ≤ f) (hX : Srtd lt X2) (hY : Srtd lt Y2) (hl : (P ++ X2 ++ Y2 ++ Q).length ≤ big) :
    F_slices_symMergeCmpFunc_Action_s_j8 (BitVec.ofNat 64 mid) m start b R cmp (P ++ X2 ++ Y2 ++ Q) = some (P ++ srt lt (X2 ++ Y2) ++ Q) := by
  have hbig : big = 1000000 := rfl
  have hl' := hl
  simp only [List.length_append] at hl'
  unfold F_slices_symMergeCmpFunc_Action_s_j8
  rw [halfN mid (by omega)]
  have e1 : IntKind.i64.wrap (IntKind.i64.wrap ((mid : Int) + m) - start) = (P.length : Int) + (X2.length : Int) := by
    rw [wr (n := (mid : Int) + m) (by omega) (by omega), wr (by omega) (by omega), h2]
  rw [e1]
  by_cases hc : 0 < X2.length ∧ 0 < Y2.length
  · rw [decide_eq_true (by omega), decide_eq_true (by omega), Bool.and_true, cond_true, hR P X2 Y2 Q _ _ _ (by omega) rfl h3 hc.1 hc.2 hf hX hY hl]
    rfl
  · have : (decide ((mid : Int) < (P.length : Int) + (X2.length : Int)) && decide ((P.length : Int) + (X2.length : Int) < b)) = false := by
      rw [Bool.and_eq_false_iff, decide_eq_false_iff_not, decide_eq_false_iff_not]
      by_cases h : 0 < X2.length
      · exact .inr (fun h' => hc ⟨h, by omega⟩)
      · exact .inl (by omega)
    rw [this, cond_false, srt_nil_left hs hX hY hc]
    simp
theorem sm_j7 (hs : Swo lt) {f : Nat} {R : List Action → Int → Int → Int → (Action → Action → Option Int) → Option (List Action)} (hR : SymR lt cmp f R) (P X1 Y1 X2 Y2 Q : List Action) (mid : Nat) (a m start b : Int)
    (ha : a = (P.length : Int)) (h1 : mid = P.length + X1.length + Y1.length) (hs1 : start = (P.length : Int) + (X1.length : Int)) (hm : m = start + (X2.length : Int)) (h3 : b = (mid : Int) + (X2.length : Int) + (Y2.length : Int))
    (hf1 : X1.length + Y1.length ≤ f) (hf2 : X2.length + Y2.length ≤ f) (hX1 : Srtd lt X1) (hY1 : Srtd lt Y1) (hX2 : Srtd lt X2) (hY2 : Srtd lt Y2) (hl : (P ++ X1 ++ Y1 ++ X2 ++ Y2 ++ Q).length ≤ big) :
    F_slices_symMergeCmpFunc_Action_s_j7 a start (BitVec.ofNat 64 mid) R cmp m b (P ++ X1 ++ Y1 ++ X2 ++ Y2 ++ Q) = some (P ++ srt lt (X1 ++ Y1) ++ srt lt (X2 ++ Y2) ++ Q) := by
  have hbig : big = 1000000 := rfl
  have hl' := hl
  simp only [List.length_append] at hl'
  have hlen : (srt lt (X1 ++ Y1)).length = X1.length + Y1.length := by rw [srt_len hs]; simp
  have last := sm_j8 hs hR (P ++ srt lt (X1 ++ Y1)) X2 Y2 Q mid m start b (by simp only [List.length_append, hlen]; omega) (by simp only [List.length_append, hlen]; omega) (by simp only [List.length_append, hlen]; omega) (by omega) (by omega) hf2 hX2 hY2 (by simp only [List.length_append, hlen]; omega)
  unfold F_slices_symMergeCmpFunc_Action_s_j7
  rw [halfN mid (by omega)]
  by_cases hc : 0 < X1.length ∧ 0 < Y1.length
  · have hr := hR P X1 Y1 (X2 ++ Y2 ++ Q) a start (mid : Int) ha hs1 (by omega) hc.1 hc.2 hf1 hX1 hY1 (by simp only [List.length_append]; omega)
    have e : P ++ X1 ++ Y1 ++ X2 ++ Y2 ++ Q = P ++ X1 ++ Y1 ++ (X2 ++ Y2 ++ Q) := by simp
    have e' : P ++ srt lt (X1 ++ Y1) ++ (X2 ++ Y2 ++ Q) = P ++ srt lt (X1 ++ Y1) ++ X2 ++ Y2 ++ Q := by simp
    rw [decide_eq_true (by omega), decide_eq_true (by omega), Bool.and_true, cond_true, e, hr, Option.bind_some, e', last]
  · have hd : (decide (a < start) && decide (start < (mid : Int))) = false := by
      rw [Bool.and_eq_false_iff, decide_eq_false_iff_not, decide_eq_false_iff_not]
      by_cases h : 0 < X1.length
      · exact .inr (fun h' => hc ⟨h, by omega⟩)
      · exact .inl (by omega)
    rw [hd, cond_false]
    rw [srt_nil_left hs hX1 hY1 hc] at last ⊢
    have e : P ++ X1 ++ Y1 ++ X2 ++ Y2 ++ Q = P ++ (X1 ++ Y1) ++ X2 ++ Y2 ++ Q := by simp
    rw [e, last]
theorem sm_j5 (hs : Swo lt) (hc : Tells lt cmp) {f : Nat} {R : List Action → Int → Int → Int → (Action → Action → Option Int) → Option (List Action)} (hR : SymR lt cmp f R) (P X Y Q : List Action) (mid lo hi : Nat)
    (hmid : mid = (P.length + (P.length + X.length + Y.length)) / 2) (h2 : 2 ≤ X.length) (h2' : 2 ≤ Y.length) (hf : X.length + Y.length ≤ f + 1) (hX : Srtd lt X) (hY : Srtd lt Y) (hl : (P ++ X ++ Y ++ Q).length ≤ big)
    (hlh : (mid < P.length + X.length ∧ lo + (P.length + X.length + Y.length) = mid + (P.length + X.length) ∧ hi = mid) ∨ (P.length + X.length ≤ mid ∧ lo = P.length ∧ hi = P.length + X.length)) :
    F_slices_symMergeCmpFunc_Action_s_j5 (P ++ X ++ Y ++ Q) (BitVec.ofNat 64 mid) ((P.length : Int) + (X.length : Int)) cmp (P.length : Int) R ((P.length : Int) + (X.length : Int) + (Y.length : Int)) (lo : Int) (hi : Int) = some (P ++ srt lt (X ++ Y) ++ Q) := by
  have hbig : big = 1000000 := rfl
  have hl' := hl
  simp only [List.length_append] at hl'
  have hin : ∀ c, lo ≤ c → c < hi → P.length ≤ c ∧ c < P.length + X.length ∧ P.length + X.length ≤ mid + (P.length + X.length) - 1 - c ∧ mid + (P.length + X.length) - 1 - c < P.length + X.length + Y.length := fun c a b => by rcases hlh with h | h <;> omega
  let t : Nat → Bool := fun c => if h : (c - P.length < X.length ∧ (mid + (P.length + X.length) - 1 - c) - (P.length + X.length) < Y.length) then !lt (Y[(mid + (P.length + X.length) - 1 - c) - (P.length + X.length)]'h.2) (X[c - P.length]'h.1) else false
  have htv : ∀ c (h1 : c - P.length < X.length) (h2 : (mid + (P.length + X.length) - 1 - c) - (P.length + X.length) < Y.length), t c = !lt (Y[(mid + (P.length + X.length) - 1 - c) - (P.length + X.length)]'h2) (X[c - P.length]'h1) := fun c h1 h2 => by simp only [t]; rw [dif_pos ⟨h1, h2⟩]
  have hlohi : lo ≤ hi := by rcases hlh with h | h <;> omega
  obtain ⟨s, s1, s2, s3, s4⟩ := bound_ex t lo (hi - lo) fun c d h1 h2 h3 h4 => by
    have a1 := hin c h1 (by omega)
    have a2 := hin d (by omega) (by omega)
    rw [htv c (by omega) (by omega)] at h4
    rw [htv d (by omega) (by omega)]
    simp only [Bool.not_eq_false'] at h4 ⊢
    cases hd : lt (Y[(mid + (P.length + X.length) - 1 - d) - (P.length + X.length)]'(by omega)) (X[d - P.length]'(by omega))
    · have b1 := srtd_get' hs hX (i := c - P.length) (j := d - P.length) (by omega) (by omega) (by omega)
      have b2 := srtd_get' hs hY (i := (mid + (P.length + X.length) - 1 - d) - (P.length + X.length)) (j := (mid + (P.length + X.length) - 1 - c) - (P.length + X.length)) (by omega) (by omega) (by omega)
      rw [hs.neg _ _ _ (hs.neg _ _ _ b2 hd) b1] at h4; cases h4
    · rfl
  have e0 : lo + (hi - lo) = hi := by omega
  rw [e0] at s2 s4
  unfold F_slices_symMergeCmpFunc_Action_s_j5
  have key := bs_spec (F_slices_symMergeCmpFunc_Action_s_l6 (P ++ X ++ Y ++ Q) (BitVec.ofNat 64 mid) ((P.length : Int) + (X.length : Int)) cmp (P.length : Int) R ((P.length : Int) + (X.length : Int) + (Y.length : Int)))
    (fun start => bif ((decide (start < ((P.length : Int) + (X.length : Int)))) && (decide (((P.length : Int) + (X.length : Int)) < (IntKind.i64.wrap ((IntKind.i64.wrap ((IntKind.i64.wrap ((BitVec.ofNat 64 mid).toNat : Int)) + ((P.length : Int) + (X.length : Int)))) - start))))) then (F_slices_rotateCmpFunc_Action (P ++ X ++ Y ++ Q) start ((P.length : Int) + (X.length : Int)) (IntKind.i64.wrap ((IntKind.i64.wrap ((IntKind.i64.wrap ((BitVec.ofNat 64 mid).toNat : Int)) + ((P.length : Int) + (X.length : Int)))) - start)) cmp).bind fun l59 => F_slices_symMergeCmpFunc_Action_s_j7 (P.length : Int) start (BitVec.ofNat 64 mid) R cmp ((P.length : Int) + (X.length : Int)) ((P.length : Int) + (X.length : Int) + (Y.length : Int)) l59 else F_slices_symMergeCmpFunc_Action_s_j7 (P.length : Int) start (BitVec.ofNat 64 mid) R cmp ((P.length : Int) + (X.length : Int)) ((P.length : Int) + (X.length : Int) + (Y.length : Int)) (P ++ X ++ Y ++ Q))
    t lo s hi
    (fun f i j h1 h2 h3 => by
      have a1 := hin ((i + j) / 2) (by omega) (by omega)
      obtain ⟨c, hc1, hc2⟩ := hc (Y[(mid + (P.length + X.length) - 1 - (i + j) / 2) - (P.length + X.length)]'(by omega)) (X[(i + j) / 2 - P.length]'(by omega))
      have gx : lget (P ++ X ++ Y ++ Q) (((i + j) / 2 : Nat) : Int) = some (X[(i + j) / 2 - P.length]'(by omega)) := by
        rw [List.append_assoc (P ++ X)]
        exact lget_mid P X (Y ++ Q) _ a1.1 a1.2.1
      have ep : IntKind.i64.wrap (IntKind.i64.wrap (IntKind.i64.wrap ((mid : Int) + ((P.length : Int) + (X.length : Int))) - 1) - (((i + j) / 2 : Nat) : Int)) = ((mid + (P.length + X.length) - 1 - (i + j) / 2 : Nat) : Int) := by
        rw [wr (n := (mid : Int) + ((P.length : Int) + (X.length : Int))) (by omega) (by omega), wr (n := (mid : Int) + ((P.length : Int) + (X.length : Int)) - 1) (by omega) (by omega), wr (by omega) (by omega)]; omega
      have gy : lget (P ++ X ++ Y ++ Q) ((mid + (P.length + X.length) - 1 - (i + j) / 2 : Nat) : Int) = some (Y[(mid + (P.length + X.length) - 1 - (i + j) / 2) - (P.length + X.length)]'(by omega)) := by
        rw [lget_mid (P ++ X) Y Q _ (by simp; omega) (by simp; omega)]
        simp
      have e1 : IntKind.i64.wrap ((((i + j) / 2 : Nat) : Int) + 1) = (((i + j) / 2 + 1 : Nat) : Int) := by rw [wr (by omega) (by omega)]; omega
      rw [F_slices_symMergeCmpFunc_Action_s_l6, decide_eq_true (by omega), cond_true, half _ (i + j) (by omega) (by omega), Option.bind_some, halfN mid (by omega), halfN ((i + j) / 2) (by omega), ep, gy, Option.bind_some, gx, Option.bind_some, hc1, Option.bind_some, hc2, htv _ (by omega) (by omega), e1])
    (fun f i h1 h2 => by rw [F_slices_symMergeCmpFunc_Action_s_l6, decide_eq_false (by omega), cond_false]) s3 (fun c h1 h2 => s4 c h1 h2)
  rw [key _ _ _ (Nat.le_refl _) s1 s2 (Nat.le_refl _) (by omega)]
  have hsm : P.length ≤ s ∧ s ≤ P.length + X.length ∧ s ≤ mid ∧ mid + X.length ≤ s + (X.length + Y.length) := by rcases hlh with h | h <;> omega
  have hx : X = X.take (s - P.length) ++ X.drop (s - P.length) := (List.take_append_drop ..).symm
  have hy : Y = Y.take (mid - s) ++ Y.drop (mid - s) := (List.take_append_drop ..).symm
  have l1 : (X.take (s - P.length)).length = s - P.length := by simp; omega
  have l2 : (X.drop (s - P.length)).length = P.length + X.length - s := by simp; omega
  have l3 : (Y.take (mid - s)).length = mid - s := by simp; omega
  have l4 : (Y.drop (mid - s)).length = Y.length - (mid - s) := by simp
  have hX' := hX
  rw [hx] at hX'
  have hY' := hY
  rw [hy] at hY'
  have hx1 : ∀ x ∈ X.take (s - P.length), ∀ y ∈ Y.drop (mid - s), lt y x = false := fun x hxm y hym => by
    obtain ⟨i, hii, rfl⟩ := List.getElem_of_mem hxm
    obtain ⟨j, hj, rfl⟩ := List.getElem_of_mem hym
    rw [l1] at hii
    rw [l4] at hj
    have hc' : lo ≤ s - 1 := by rcases hlh with h | h <;> omega
    have a1 := hin (s - 1) hc' (by omega)
    have := s3 (s - 1) hc' (by omega)
    rw [htv _ (by omega) (by omega), Bool.not_eq_true'] at this
    rw [List.getElem_drop, List.getElem_take]
    have b1 := srtd_get' hs hX (i := i) (j := s - 1 - P.length) (by omega) (by omega) (by omega)
    have b2 := srtd_get' hs hY (i := (mid + (P.length + X.length) - 1 - (s - 1)) - (P.length + X.length)) (j := mid - s + j) (by omega) (by omega) (by omega)
    exact hs.neg _ _ _ (hs.neg _ _ _ b2 this) b1
  have hx2 : ∀ y ∈ Y.take (mid - s), ∀ x ∈ X.drop (s - P.length), lt y x = true := fun y hym x hxm => by
    obtain ⟨i, hii, rfl⟩ := List.getElem_of_mem hxm
    obtain ⟨j, hj, rfl⟩ := List.getElem_of_mem hym
    rw [l3] at hj
    rw [l2] at hii
    have hc' : s < hi := by rcases hlh with h | h <;> omega
    have a1 := hin s s1 hc'
    have := s4 s (Nat.le_refl _) hc'
    rw [htv _ (by omega) (by omega), Bool.not_eq_false'] at this
    rw [List.getElem_drop, List.getElem_take]
    have b1 := srtd_get' hs hX (i := s - P.length) (j := s - P.length + i) (by omega) (by omega) (by omega)
    have b2 := srtd_get' hs hY (i := j) (j := (mid + (P.length + X.length) - 1 - s) - (P.length + X.length)) (by omega) (by omega) (by omega)
    cases hd : lt (Y[j]'(by omega)) (X[s - P.length + i]'(by omega))
    · rw [hs.neg _ _ _ (hs.neg _ _ _ b2 hd) b1] at this; cases this
    · rfl
  have hsp := srt_split hs hX' hY' hx1 hx2
  rw [← hx, ← hy] at hsp
  rw [hsp]
  generalize X.take (s - P.length) = X1 at *
  generalize X.drop (s - P.length) = X2 at *
  generalize Y.take (mid - s) = Y1 at *
  generalize Y.drop (mid - s) = Y2 at *
  have last := sm_j7 hs hR P X1 Y1 X2 Y2 Q mid (P.length : Int) ((P.length : Int) + (X.length : Int)) (s : Int) ((P.length : Int) + (X.length : Int) + (Y.length : Int)) rfl (by omega) (by omega) (by omega) (by omega) (by omega) (by omega) (srtd_left hX') (srtd_left hY') (srtd_right hX') (srtd_right hY') (by simp only [List.length_append]; omega)
  have ee : IntKind.i64.wrap (IntKind.i64.wrap ((mid : Int) + ((P.length : Int) + (X.length : Int))) - (s : Int)) = ((P ++ X1 ++ X2 ++ Y1).length : Int) := by
    rw [wr (n := (mid : Int) + ((P.length : Int) + (X.length : Int))) (by omega) (by omega), wr (by omega) (by omega)]; simp only [List.length_append]; omega
  have eres : P ++ srt lt (X1 ++ Y1) ++ srt lt (X2 ++ Y2) ++ Q = P ++ (srt lt (X1 ++ Y1) ++ srt lt (X2 ++ Y2)) ++ Q := by simp
  rw [eres] at last
  show (bif _ then _ else _) = _
  rw [halfN mid (by omega), ee]
  have hlen4 : (P ++ X1 ++ X2 ++ Y1).length = P.length + X1.length + X2.length + Y1.length := by simp only [List.length_append]
  by_cases hcc : 0 < X2.length ∧ 0 < Y1.length
  · have eL : P ++ X ++ Y ++ Q = (P ++ X1) ++ X2 ++ Y1 ++ (Y2 ++ Q) := by rw [hx, hy]; simp
    have hr := rot_eq cmp X2 Y1 (P ++ X1) (Y2 ++ Q) (s : Int) ((P.length : Int) + (X.length : Int)) ((P ++ X1 ++ X2 ++ Y1).length : Int) hcc.1 hcc.2 (by simp only [List.length_append]; omega) (by simp only [List.length_append]; omega) rfl (by simp only [List.length_append]; omega)
    have eR : (P ++ X1) ++ Y1 ++ X2 ++ (Y2 ++ Q) = P ++ X1 ++ Y1 ++ X2 ++ Y2 ++ Q := by simp
    rw [decide_eq_true (by omega), decide_eq_true (by omega), Bool.and_true, cond_true, eL, hr, Option.bind_some, eR, last]
  · have hd : (decide ((s : Int) < (P.length : Int) + (X.length : Int)) && decide ((P.length : Int) + (X.length : Int) < ((P ++ X1 ++ X2 ++ Y1).length : Int))) = false := by
      rw [Bool.and_eq_false_iff, decide_eq_false_iff_not, decide_eq_false_iff_not]
      by_cases h : 0 < X2.length
      · exact .inr (fun h' => hcc ⟨h, by omega⟩)
      · exact .inl (by omega)
    have eL : P ++ X ++ Y ++ Q = P ++ X1 ++ Y1 ++ X2 ++ Y2 ++ Q := by
      rw [hx, hy]
      have : X2 = [] ∨ Y1 = [] := by
        rcases Nat.eq_zero_or_pos X2.length with h | h
        · exact .inl (List.eq_nil_of_length_eq_zero h)
        · rcases Nat.eq_zero_or_pos Y1.length with h' | h'
          · exact .inr (List.eq_nil_of_length_eq_zero h')
          · exact absurd ⟨h, h'⟩ hcc
      rcases this with h | h
      · subst h; simp
      · subst h; simp
    rw [hd, cond_false, eL, last]
theorem sym_eq (hs : Swo lt) (hc : Tells lt cmp) : ∀ f, SymR lt cmp f (FR_slices_symMergeCmpFunc_Action f)
  | 0 => fun P X Y Q a m b _ _ _ h1 h2 h3 => by omega
  | f + 1 => by
    intro P X Y Q a m b ha hm hb h1 h2 h3 hX hY hl
    subst ha hm hb
    have hbig : big = 1000000 := rfl
    have hl' := hl
    simp only [List.length_append] at hl'
    show F_slices_symMergeCmpFunc_Action_s (FR_slices_symMergeCmpFunc_Action f) _ _ _ _ _ = _
    unfold F_slices_symMergeCmpFunc_Action_s
    have e1 : IntKind.i64.wrap ((P.length : Int) + (X.length : Int) - (P.length : Int)) = (X.length : Int) := by rw [wr (by omega) (by omega)]; omega
    have e2 : IntKind.i64.wrap ((P.length : Int) + (X.length : Int) + (Y.length : Int) - ((P.length : Int) + (X.length : Int))) = (Y.length : Int) := by rw [wr (by omega) (by omega)]; omega
    rw [e1, e2]
    by_cases hx1 : X.length = 1
    · obtain ⟨x, rfl⟩ : ∃ x, X = [x] := List.length_eq_one_iff.1 hx1
      have := sym_one hs hc x Y P Q hY (by simpa using hl)
      rw [decide_eq_true (by omega), cond_true]
      have e : P ++ [x] ++ Y ++ Q = P ++ x :: (Y ++ Q) := by simp
      have e4 : (P.length : Int) + ([x].length : Int) = ((P.length + 1 : Nat) : Int) := by simp
      have e5 : ((P.length + 1 : Nat) : Int) + (Y.length : Int) = ((P.length + 1 + Y.length : Nat) : Int) := by omega
      rw [e, e4, e5, this]; rfl
    · rw [decide_eq_false (by omega), cond_false]
      by_cases hy1 : Y.length = 1
      · obtain ⟨y, rfl⟩ : ∃ y, Y = [y] := List.length_eq_one_iff.1 hy1
        have := sym_last hs hc y X P Q hX (by simpa using hl)
        rw [decide_eq_true (by omega), cond_true]
        have e : P ++ X ++ [y] ++ Q = P ++ X ++ y :: Q := by simp
        have e4 : (P.length : Int) + (X.length : Int) = ((P.length + X.length : Nat) : Int) := by omega
        rw [e, e4, this]
      · rw [decide_eq_false (by omega), cond_false, half _ (P.length + (P.length + X.length + Y.length)) (by omega) (by omega), Option.bind_some, halfN _ (by omega)]
        by_cases hmm : (P.length + (P.length + X.length + Y.length)) / 2 < P.length + X.length
        · rw [decide_eq_true (by omega), cond_true]
          have e3 : IntKind.i64.wrap (IntKind.i64.wrap ((((P.length + (P.length + X.length + Y.length)) / 2 : Nat) : Int) + ((P.length : Int) + (X.length : Int))) - ((P.length : Int) + (X.length : Int) + (Y.length : Int))) = (((P.length + (P.length + X.length + Y.length)) / 2 + (P.length + X.length) - (P.length + X.length + Y.length) : Nat) : Int) := by
            rw [wr (n := (((P.length + (P.length + X.length + Y.length)) / 2 : Nat) : Int) + ((P.length : Int) + (X.length : Int))) (by omega) (by omega), wr (by omega) (by omega)]; omega
          rw [e3]
          exact sm_j5 hs hc (sym_eq hs hc f) P X Y Q _ _ _ rfl (by omega) (by omega) (by omega) hX hY hl (.inl ⟨hmm, by omega, rfl⟩)
        · rw [decide_eq_false (by omega), cond_false]
          have e4 : (P.length : Int) + (X.length : Int) = ((P.length + X.length : Nat) : Int) := by omega
          have := sm_j5 hs hc (sym_eq hs hc f) P X Y Q _ P.length (P.length + X.length) rfl (by omega) (by omega) (by omega) hX hY hl (.inr ⟨by omega, rfl, rfl⟩)
          rw [← e4] at this
          exact this
theorem symM (hs : Swo lt) (hc : Tells lt cmp) (P X Y Q : List Action) (a m b : Int) (ha : a = (P.length : Int)) (hm : m = (P.length : Int) + (X.length : Int)) (hb : b = (P.length : Int) + (X.length : Int) + (Y.length : Int)) (h1 : 0 < X.length) (h2 : 0 < Y.length) (hX : Srtd lt X) (hY : Srtd lt Y) (hl : (P ++ X ++ Y ++ Q).length ≤ big) :
    F_slices_symMergeCmpFunc_Action (P ++ X ++ Y ++ Q) a m b cmp = some (P ++ srt lt (X ++ Y) ++ Q) :=
  sym_eq hs hc fuel0 P X Y Q a m b ha hm hb h1 h2 (by have hbig : big = 1000000 := rfl; simp only [List.length_append] at hl; unfold fuel0; omega) hX hY hl
end sym
end Go.Proofs.YtknpgojdkobgjaaGreat.W
set_option linter.unusedVariables false
set_option linter.unusedSimpArgs false
namespace Go.Proofs.YtknpgojdkobgjaaGreat.W
open Go Go.Wb
section ins
variable {lt : Action → Action → Bool} {cmp : Action → Action → Option Int}
theorem insA_l2 (hc : Tells lt cmp) (go : List Action → Int → Option (List Action)) (i : Int) (P : List Action) (x : Action) : ∀ (R S : List Action) (m : Nat), R.length < m → (P ++ R.reverse ++ x :: S).length ≤ big →
    F_slices_insertionSortCmpFunc_Action_l2 (P.length : Int) cmp go i m (P ++ R.reverse ++ x :: S) ((P.length + R.length : Nat) : Int) = go (P ++ (rins lt x R).reverse ++ S) (IntKind.i64.wrap (i + 1))
  | [], S, m, h, _ => by
    obtain ⟨m, rfl⟩ : ∃ k, m = k + 1 := ⟨m - 1, by simp at h; omega⟩
    rw [F_slices_insertionSortCmpFunc_Action_l2, decide_eq_false (by simp)]
    simp [opt, rins]
  | y :: R, S, m, h, hl => by
    have hbig : big = 1000000 := rfl
    simp only [List.length_cons, List.length_append, List.length_reverse] at h hl
    obtain ⟨m, rfl⟩ : ∃ k, m = k + 1 := ⟨m - 1, by omega⟩
    have e0 : P ++ (y :: R).reverse ++ x :: S = (P ++ R.reverse) ++ y :: (x :: S) := by simp
    have ej : IntKind.i64.wrap (((P.length + (y :: R).length : Nat) : Int) - 1) = ((P.length + R.length : Nat) : Int) := by rw [wr (by simp only [List.length_cons]; omega) (by simp only [List.length_cons]; omega)]; simp only [List.length_cons]; omega
    have g1 : ∀ a b : Action, lget ((P ++ R.reverse) ++ a :: (b :: S)) ((P.length + (y :: R).length : Nat) : Int) = some b := fun a b => by
      have : (P ++ R.reverse) ++ a :: (b :: S) = (P ++ R.reverse ++ [a]) ++ b :: S := by simp
      rw [this]; exact lget_at _ _ _ _ (by simp)
    have g0 : ∀ a b : Action, lget ((P ++ R.reverse) ++ a :: (b :: S)) ((P.length + R.length : Nat) : Int) = some a := fun a b => lget_at _ _ _ _ (by simp)
    have s1 : ∀ a b c : Action, List.set ((P ++ R.reverse) ++ a :: (b :: S)) (((P.length + (y :: R).length : Nat) : Int)).toNat c = (P ++ R.reverse) ++ a :: (c :: S) := fun a b c => by
      have : (P ++ R.reverse) ++ a :: (b :: S) = (P ++ R.reverse ++ [a]) ++ b :: S := by simp
      rw [this, Int.toNat_natCast, set_at _ _ _ _ _ (by simp)]; simp
    have s0 : ∀ a b c : Action, List.set ((P ++ R.reverse) ++ a :: (b :: S)) (((P.length + R.length : Nat) : Int)).toNat c = (P ++ R.reverse) ++ c :: (b :: S) := fun a b c => by
      rw [Int.toNat_natCast, set_at _ _ _ _ _ (by simp)]
    obtain ⟨c, hc1, hc2⟩ := hc x y
    rw [e0, F_slices_insertionSortCmpFunc_Action_l2, decide_eq_true (by simp only [List.length_cons]; omega), opt_true, g1, Option.bind_some, opt_true, ej, g0, Option.bind_some, opt_true, hc1, Option.bind_some, Bool.true_and, hc2, rins]
    cases lt x y
    · rw [cond_false, cond_false]
      simp
    · rw [cond_true, cond_true, Option.bind_some, Option.bind_some, Option.bind_some, s1, g0, Option.bind_some, s0, insA_l2 hc go i P x R (y :: S) m (by omega) (by simp only [List.length_append, List.length_cons, List.length_reverse]; omega)]
      simp
theorem rins_length (x : Action) (R : List Action) : (rins lt x R).length = R.length + 1 := by
  induction R with
  | nil => rfl
  | cons y R ih => rw [rins]; cases lt x y <;> simp [ih]
theorem insA_l1 (hc : Tells lt cmp) (P Q : List Action) : ∀ (T R : List Action) (m : Nat), T.length < m → (P ++ R.reverse ++ T ++ Q).length ≤ big →
    F_slices_insertionSortCmpFunc_Action_l1 ((P.length + R.length + T.length : Nat) : Int) (P.length : Int) cmp m (P ++ R.reverse ++ T ++ Q) ((P.length + R.length : Nat) : Int) = some (P ++ (T.foldl (fun R x => rins lt x R) R).reverse ++ Q)
  | [], R, m, h, _ => by
    obtain ⟨m, rfl⟩ : ∃ k, m = k + 1 := ⟨m - 1, by simp at h; omega⟩
    rw [F_slices_insertionSortCmpFunc_Action_l1, decide_eq_false (by simp), cond_false]
    simp
  | x :: T, R, m, h, h2 => by
    have hbig : big = 1000000 := rfl
    simp only [List.length_cons, List.length_append, List.length_reverse] at h h2
    obtain ⟨m, rfl⟩ : ∃ k, m = k + 1 := ⟨m - 1, by omega⟩
    have e : IntKind.i64.wrap (((P.length + R.length : Nat) : Int) + 1) = ((P.length + (rins lt x R).length : Nat) : Int) := by rw [rins_length, wr (by omega) (by omega)]; omega
    have hn : P.length + R.length + (x :: T).length = P.length + (rins lt x R).length + T.length := by rw [rins_length, List.length_cons]; omega
    have e0 : P ++ R.reverse ++ x :: T ++ Q = P ++ R.reverse ++ x :: (T ++ Q) := by simp
    rw [F_slices_insertionSortCmpFunc_Action_l1, decide_eq_true (by simp only [List.length_cons]; omega), cond_true, e0, insA_l2 hc _ _ P x R (T ++ Q) fuel0 (by unfold fuel0; omega) (by simp only [List.length_append, List.length_cons, List.length_reverse]; omega), e, hn,
      ← List.append_assoc, insA_l1 hc P Q T (rins lt x R) m (by omega) (by simp only [List.length_append, List.length_reverse, rins_length]; omega), List.foldl_cons]
theorem insA_eq (hc : Tells lt cmp) (P L Q : List Action) (a b : Int) (ha : a = (P.length : Int)) (hb : b = (P.length : Int) + (L.length : Int)) (h : (P ++ L ++ Q).length ≤ big) : F_slices_insertionSortCmpFunc_Action (P ++ L ++ Q) a b cmp = some (P ++ srt lt L ++ Q) := by
  subst ha hb
  have hbig : big = 1000000 := rfl
  have h' := h
  simp only [List.length_append] at h'
  unfold F_slices_insertionSortCmpFunc_Action srt
  cases L with
  | nil =>
    rw [wr (by omega) (by omega)]
    obtain ⟨m, hm⟩ : ∃ m, (((P.length : Int) + (([] : List Action).length : Int)) - ((P.length : Int) + 1)).toNat + 1 = m + 1 := ⟨_, rfl⟩
    rw [hm, F_slices_insertionSortCmpFunc_Action_l1, decide_eq_false (by simp only [List.length_nil]; omega), cond_false]
    rfl
  | cons x L =>
    simp only [List.length_cons] at h'
    have := insA_l1 hc P Q L [x] ((((P.length : Int) + ((x :: L).length : Int)) - ((P.length : Int) + 1)).toNat + 1) (by simp only [List.length_cons]; omega) (by simp only [List.length_append, List.length_reverse, List.length_cons, List.length_nil]; omega)
    have e1 : ((P.length + [x].length + L.length : Nat) : Int) = (P.length : Int) + ((x :: L).length : Int) := by simp; omega
    have e2 : ((P.length + [x].length : Nat) : Int) = (P.length : Int) + 1 := by simp
    have e3 : P ++ [x].reverse ++ L ++ Q = P ++ x :: L ++ Q := by simp
    rw [e1, e2, e3] at this
    rw [wr (by omega) (by omega), this]
    rfl
end ins
end Go.Proofs.YtknpgojdkobgjaaGreat.W
set_option linter.unusedVariables false
set_option linter.unusedSimpArgs false
namespace Go.Proofs.YtknpgojdkobgjaaGreat.W
open Go Go.Wb
section stable
variable {lt : Action → Action → Bool} {cmp : Action → Action → Option Int}
def csort (lt : Action → Action → Bool) (s : Nat) (L : List Action) : List Action :=
  if h : s = 0 ∨ L.length < s then srt lt L else srt lt (L.take s) ++ csort lt s (L.drop s)
termination_by L.length
decreasing_by simp; omega
theorem csort_lt {s : Nat} {L : List Action} (h : L.length < s) : csort lt s L = srt lt L := by rw [csort, dif_pos (.inr h)]
theorem csort_cut {s : Nat} {A L : List Action} (hA : A.length = s) (h0 : 0 < s) : csort lt s (A ++ L) = srt lt A ++ csort lt s L := by
  subst hA
  rw [csort, dif_neg (by rw [List.length_append]; omega), List.take_left, List.drop_left]
theorem srt_nil : srt lt ([] : List Action) = [] := rfl
theorem csort_one {s : Nat} {L : List Action} (h : L.length ≤ s) (h0 : 0 < s) : csort lt s L = srt lt L := by
  rcases Nat.lt_or_eq_of_le h with h1 | h1
  · exact csort_lt h1
  · have := csort_cut (lt := lt) (L := []) h1 h0
    have e : csort lt s [] = srt lt [] := csort_lt (by simpa using h0)
    rw [List.append_nil, e, srt_nil, List.append_nil] at this
    exact this
theorem csort_len (hs : Swo lt) (s : Nat) (h0 : 0 < s) : ∀ (n : Nat) (L : List Action), L.length ≤ n → (csort lt s L).length = L.length
  | 0, L, h => by rw [csort_lt (by omega), srt_len hs]
  | n + 1, L, h => by
    by_cases hl : L.length < s
    · rw [csort_lt hl, srt_len hs]
    · have e : L = L.take s ++ L.drop s := (List.take_append_drop ..).symm
      have h1 : (L.take s).length = s := by simp; omega
      rw [e, csort_cut h1 h0, List.length_append, srt_len hs, csort_len hs s h0 n (L.drop s) (by simp; omega), List.length_append]
theorem st_l1 (hs : Swo lt) (hc : Tells lt cmp) (n : Nat) : ∀ (k : Nat) (D L : List Action) (f : Nat), L.length ≤ k → D.length + L.length = n → n ≤ 100000 → L.length < f * 20 →
    F_slices_stableCmpFunc_Action_l1 (n : Int) cmp f (D ++ L) (D.length : Int) ((D.length + 20 : Nat) : Int) = F_slices_stableCmpFunc_Action_l2 (n : Int) cmp (((n : Int) - 20).toNat + 1) (D ++ csort lt 20 L) 20
  | k, D, L, 0, _, _, _, h => by omega
  | k, D, L, f + 1, hk, hn, hb, hf => by
    have hbig : big = 1000000 := rfl
    rw [F_slices_stableCmpFunc_Action_l1]
    by_cases hl : L.length < 20
    · have := insA_eq hc D L [] (D.length : Int) (n : Int) rfl (by omega) (by simp only [List.length_append, List.length_nil]; omega)
      simp only [List.append_nil] at this
      rw [decide_eq_false (by omega), cond_false, this, Option.bind_some, csort_lt hl]
    · obtain ⟨k, rfl⟩ : ∃ j, k = j + 1 := ⟨k - 1, by omega⟩
      have e : L = L.take 20 ++ L.drop 20 := (List.take_append_drop ..).symm
      have h1 : (L.take 20).length = 20 := by simp; omega
      have h2 : (L.drop 20).length = L.length - 20 := by simp
      generalize L.take 20 = A at *
      generalize L.drop 20 = B at *
      subst e
      have := insA_eq hc D A B (D.length : Int) ((D.length + 20 : Nat) : Int) rfl (by omega) (by simp only [List.length_append] at hn ⊢; omega)
      have e20 : IntKind.i64.wrap (((D.length + 20 : Nat) : Int) + 20) = (((D ++ srt lt A).length + 20 : Nat) : Int) := by rw [wr (by omega) (by omega), List.length_append, srt_len hs]; omega
      have e21 : ((D.length + 20 : Nat) : Int) = ((D ++ srt lt A).length : Int) := by rw [List.length_append, srt_len hs]; omega
      simp only [List.length_append] at hn hl hf hk
      rw [decide_eq_true (by omega), cond_true, ← List.append_assoc, this, Option.bind_some, e20, e21,
        st_l1 hs hc n k (D ++ srt lt A) B f (by omega) (by simp only [List.length_append, srt_len hs]; omega) hb (by omega), csort_cut h1 (by omega)]
      simp
theorem st_l3 (hs : Swo lt) (hc : Tells lt cmp) (go : List Action → Int → Option (List Action)) (n s : Nat) (hs0 : 0 < s) (hs1 : s ≤ 100000) : ∀ (k : Nat) (D L : List Action) (f : Nat), L.length ≤ k → D.length + L.length = n → n ≤ 100000 → L.length < f * (2 * s) →
    F_slices_stableCmpFunc_Action_l3 (n : Int) (s : Int) cmp go f (D ++ csort lt s L) (D.length : Int) ((D.length + 2 * s : Nat) : Int) = go (D ++ csort lt (2 * s) L) ((2 * s : Nat) : Int)
  | k, D, L, 0, _, _, _, h => by omega
  | k, D, L, f + 1, hk, hn, hb, hf => by
    have hbig : big = 1000000 := rfl
    rw [F_slices_stableCmpFunc_Action_l3]
    have em : IntKind.i64.wrap ((D.length : Int) + (s : Int)) = ((D.length + s : Nat) : Int) := by rw [wr (by omega) (by omega)]; omega
    have eg : IntKind.i64.wrap ((s : Int) * 2) = ((2 * s : Nat) : Int) := by rw [wr (by omega) (by omega)]; omega
    by_cases hl : L.length < 2 * s
    · rw [decide_eq_false (by omega), cond_false, em, eg, csort_lt hl]
      by_cases hl2 : s < L.length
      · have e : L = L.take s ++ L.drop s := (List.take_append_drop ..).symm
        have h1 : (L.take s).length = s := by simp; omega
        have h2 : (L.drop s).length = L.length - s := by simp
        generalize L.take s = A at *
        generalize L.drop s = B at *
        subst e
        simp only [List.length_append] at hn hl hl2
        rw [csort_cut h1 hs0, csort_lt (by omega)]
        have := symM hs hc D (srt lt A) (srt lt B) [] (D.length : Int) ((D.length + s : Nat) : Int) (n : Int) rfl (by rw [srt_len hs]; omega) (by rw [srt_len hs, srt_len hs]; omega) (by rw [srt_len hs]; omega) (by rw [srt_len hs]; omega) (srt_sorted hs _) (srt_sorted hs _)
          (by simp only [List.length_append, srt_len hs, List.length_nil]; omega)
        simp only [List.append_nil, List.append_assoc] at this
        rw [decide_eq_true (by omega), cond_true, this, Option.bind_some, srt_srt_append hs]
      · rw [decide_eq_false (by omega), cond_false, csort_one (by omega) hs0]
    · obtain ⟨k, rfl⟩ : ∃ j, k = j + 1 := ⟨k - 1, by omega⟩
      have e : L = L.take s ++ ((L.drop s).take s ++ (L.drop s).drop s) := by rw [List.take_append_drop, List.take_append_drop]
      have h1 : (L.take s).length = s := by simp; omega
      have h2 : ((L.drop s).take s).length = s := by simp; omega
      have h3 : ((L.drop s).drop s).length = L.length - 2 * s := by simp; omega
      generalize L.take s = A at *
      generalize (L.drop s).take s = B at *
      generalize (L.drop s).drop s = E at *
      subst e
      simp only [List.length_append] at hn hl hk hf
      have hf' : E.length < f * (2 * s) := by rw [Nat.add_mul] at hf; omega
      have hE := csort_len hs s hs0 E.length E (Nat.le_refl _)
      have := symM hs hc D (srt lt A) (srt lt B) (csort lt s E) (D.length : Int) ((D.length + s : Nat) : Int) ((D.length + 2 * s : Nat) : Int) rfl (by rw [srt_len hs]; omega) (by rw [srt_len hs, srt_len hs]; omega) (by rw [srt_len hs]; omega) (by rw [srt_len hs]; omega) (srt_sorted hs _) (srt_sorted hs _)
        (by simp only [List.length_append, srt_len hs, hE]; omega)
      have e2 : D ++ csort lt s (A ++ (B ++ E)) = D ++ srt lt A ++ srt lt B ++ csort lt s E := by rw [csort_cut h1 hs0, csort_cut h2 hs0]; simp
      have e3 : IntKind.i64.wrap (((D.length + 2 * s : Nat) : Int) + IntKind.i64.wrap (2 * (s : Int))) = (((D ++ srt lt (A ++ B)).length + 2 * s : Nat) : Int) := by
        rw [wr (n := 2 * (s : Int)) (by omega) (by omega), wr (by omega) (by omega), List.length_append, srt_len hs, List.length_append]; omega
      have e4 : ((D.length + 2 * s : Nat) : Int) = ((D ++ srt lt (A ++ B)).length : Int) := by rw [List.length_append, srt_len hs, List.length_append]; omega
      rw [decide_eq_true (by omega), cond_true, em, e2, this, Option.bind_some, srt_srt_append hs, e3, e4,
        st_l3 hs hc go n s hs0 hs1 k (D ++ srt lt (A ++ B)) E f (by omega) (by simp only [List.length_append, srt_len hs]; omega) hb hf']
      have e5 : A ++ (B ++ E) = (A ++ B) ++ E := by simp
      rw [e5, csort_cut (by simp; omega) (by omega)]
      simp
theorem st_l2 (hs : Swo lt) (hc : Tells lt cmp) (L : List Action) (hb : L.length ≤ 100000) : ∀ (f s : Nat), 0 < f → 0 < s → s ≤ 200000 → L.length < f + s →
    F_slices_stableCmpFunc_Action_l2 (L.length : Int) cmp f (csort lt s L) (s : Int) = some (srt lt L)
  | 0, s, hf, h0, h1, h2 => by omega
  | f + 1, s, hf, h0, h1, h2 => by
    rw [F_slices_stableCmpFunc_Action_l2]
    by_cases hl : s < L.length
    · have e2 : IntKind.i64.wrap (2 * (s : Int)) = ((2 * s : Nat) : Int) := by rw [wr (by omega) (by omega)]; omega
      have := st_l3 hs hc (F_slices_stableCmpFunc_Action_l2 (L.length : Int) cmp f) L.length s h0 (by omega) L.length [] L ((((L.length : Int) : Int) - ((2 * s : Nat) : Int)).toNat + 2) (Nat.le_refl _) (by simp) hb (by
        have h3 : L.length < (L.length - 2 * s + 2) * (2 * s) := by
          have : L.length - 2 * s + 2 ≤ (L.length - 2 * s + 2) * (2 * s) := Nat.le_mul_of_pos_right _ (by omega)
          by_cases hc : L.length < 2 * s
          · have : 2 * (2 * s) ≤ (L.length - 2 * s + 2) * (2 * s) := Nat.mul_le_mul_right _ (by omega)
            omega
          · have e : (L.length - 2 * s + 2) * (2 * s) = (L.length - 2 * s + 1) * (2 * s) + 2 * s := by rw [show L.length - 2 * s + 2 = (L.length - 2 * s + 1) + 1 from rfl, Nat.add_mul, Nat.one_mul]
            have : L.length - 2 * s + 1 ≤ (L.length - 2 * s + 1) * (2 * s) := Nat.le_mul_of_pos_right _ (by omega)
            omega
        have e : (((L.length : Int) : Int) - ((2 * s : Nat) : Int)).toNat + 2 = L.length - 2 * s + 2 := by omega
        rw [e]; exact h3)
      simp only [List.nil_append, List.length_nil, Nat.zero_add] at this
      rw [decide_eq_true (by omega), cond_true, e2]
      have e0 : ((0 : Nat) : Int) = 0 := rfl
      rw [e0] at this
      rw [this, st_l2 hs hc L hb f (2 * s) (by omega) (by omega) (by omega) (by omega)]
    · rw [decide_eq_false (by omega), cond_false, csort_one (by omega) h0]
theorem stable_eq (hs : Swo lt) (hc : Tells lt cmp) (L : List Action) (hb : L.length ≤ 100000) : F_slices_SortStableFunc_Action L cmp = some (srt lt L) := by
  unfold F_slices_SortStableFunc_Action F_slices_stableCmpFunc_Action
  have h1 := st_l1 hs hc L.length L.length [] L ((((L.length : Int) : Int) - 20).toNat + 2) (Nat.le_refl _) (by simp) hb (by omega)
  have h2 := st_l2 hs hc L hb ((((L.length : Int) : Int) - 20).toNat + 1) 20 (by omega) (by omega) (by omega) (by omega)
  simp only [List.nil_append, List.length_nil, Nat.zero_add] at h1
  have e0 : ((0 : Nat) : Int) = 0 := rfl
  have e20 : ((20 : Nat) : Int) = 20 := rfl
  rw [e0, e20] at h1
  rw [e20] at h2
  rw [h1, h2]; rfl
end stable
end Go.Proofs.YtknpgojdkobgjaaGreat.W
set_option linter.unusedVariables false
set_option linter.unusedSimpArgs false
namespace Go.Proofs.YtknpgojdkobgjaaGreat.W
open Go Go.Wb
def wand (a b : Wide) : Wide := ⟨a.Hi &&& b.Hi, a.Lo &&& b.Lo⟩
def wor (a b : Wide) : Wide := ⟨a.Hi ||| b.Hi, a.Lo ||| b.Lo⟩
def wxor (a b : Wide) : Wide := ⟨a.Hi ^^^ b.Hi, a.Lo ^^^ b.Lo⟩
def wless (a b : Wide) : Wide := ⟨a.Hi &&& ~~~b.Hi, a.Lo &&& ~~~b.Lo⟩
def wt (a : Wide) (i : Nat) : Bool := bif Nat.blt i 64 then a.Lo.getLsbD i else a.Hi.getLsbD (i - 64)
def wbit (i : Nat) : Wide := bif Nat.blt i 64 then ⟨0, 1#64 <<< i⟩ else ⟨1#64 <<< (i - 64), 0⟩
theorem blt_t {i n : Nat} (h : i < n) : Nat.blt i n = true := by simpa using h
theorem blt_f {i n : Nat} (h : ¬ i < n) : Nat.blt i n = false := by
  cases hb : Nat.blt i n
  · rfl
  · exact absurd (by simpa using hb) h
theorem wt_ext {a b : Wide} (h : ∀ i, i < 128 → wt a i = wt b i) : a = b := by
  obtain ⟨ah, al⟩ := a
  obtain ⟨bh, bl⟩ := b
  have h1 : ah = bh := BitVec.eq_of_getLsbD_eq fun i hi => by
    have := h (i + 64) (by omega)
    unfold wt at this
    rw [blt_f (by omega)] at this
    simpa using this
  have h2 : al = bl := BitVec.eq_of_getLsbD_eq fun i hi => by
    have := h i (by omega)
    unfold wt at this
    rw [blt_t (by omega)] at this
    simpa using this
  rw [h1, h2]
theorem wt_and (a b : Wide) (i : Nat) : wt (wand a b) i = (wt a i && wt b i) := by
  unfold wt wand
  cases Nat.blt i 64 <;> simp
theorem wt_or (a b : Wide) (i : Nat) : wt (wor a b) i = (wt a i || wt b i) := by
  unfold wt wor
  cases Nat.blt i 64 <;> simp
theorem wt_less (a b : Wide) (i : Nat) (h : i < 128) : wt (wless a b) i = (wt a i && !wt b i) := by
  unfold wt wless
  by_cases hi : i < 64
  · rw [blt_t hi]; simp [hi]
  · rw [blt_f hi]; simp [show i - 64 < 64 by omega]
theorem wt_zero (i : Nat) : wt zWide i = false := by
  unfold wt zWide
  cases Nat.blt i 64 <;> simp
def wzero (a : Wide) : Bool := decide ((a.Hi ||| a.Lo) = (0 : BitVec 64))
theorem wzero_iff (a : Wide) : wzero a = true ↔ ∀ i, i < 128 → wt a i = false := by
  unfold wzero
  rw [decide_eq_true_eq]
  constructor
  · intro h i hi
    have hb : ∀ j, (a.Hi.getLsbD j || a.Lo.getLsbD j) = false := fun j => by rw [← BitVec.getLsbD_or, h]; simp
    unfold wt
    by_cases h1 : i < 64
    · rw [blt_t h1, cond_true]
      have := hb i
      simp only [Bool.or_eq_false_iff] at this
      exact this.2
    · rw [blt_f h1, cond_false]
      have := hb (i - 64)
      simp only [Bool.or_eq_false_iff] at this
      exact this.1
  · intro h
    apply BitVec.eq_of_getLsbD_eq
    intro j hj
    have h1 := h j (by omega)
    have h2 := h (j + 64) (by omega)
    unfold wt at h1 h2
    rw [blt_t hj] at h1
    rw [blt_f (by omega)] at h2
    simp at h1 h2
    simp [h1, h2]
theorem wzero_eq (a : Wide) : wzero a = decide (a = zWide) := by
  rw [Bool.eq_iff_iff, wzero_iff, decide_eq_true_eq]
  constructor
  · intro h
    exact wt_ext fun i hi => by rw [h i hi, wt_zero]
  · rintro rfl i _
    exact wt_zero i
theorem oushl_nat (x : BitVec 64) (n : Nat) : oushl x (n : Int) = some (x <<< n) := by
  unfold oushl
  rw [decide_eq_false (by omega)]
  simp
theorem F_wide_Bit_eq (i : Nat) (h : i < 128) : F_wide_Bit (i : Int) = some (wbit i) := by
  unfold F_wide_Bit
  have h1 : (decide ((i : Int) < 0) || decide ((i : Int) > 127)) = false := by simp; omega
  have hq : oquo .i64 (i : Int) 64 = some ((i / 64 : Nat) : Int) := by
    unfold oquo
    rw [decide_eq_false (by decide)]
    show some (IntKind.i64.wrap ((i / 64 : Nat) : Int)) = _
    rw [wrap_i64 (by omega) (by omega)]
  have hm : omod (i : Int) 64 = some ((i % 64 : Nat) : Int) := omod_nat i 64 (by omega)
  rw [h1, cond_false, hq, Option.bind_some, hm, Option.bind_some, oushl_nat, Option.bind_some, chk_nat (by omega), Option.bind_some]
  unfold wbit
  by_cases h2 : i < 64
  · rw [blt_t h2, cond_true]
    have e1 : i / 64 = 0 := by omega
    have e2 : i % 64 = i := by omega
    simp only [e1, e2]
    rfl
  · rw [blt_f h2, cond_false]
    have e1 : i / 64 = 1 := by omega
    have e2 : i % 64 = i - 64 := by omega
    simp only [e1, e2]
    rfl
abbrev Cube := Vector Tern 24
abbrev Header := Vector Wide 24
def tclean (t : Tern) : Tern := ⟨wand t.Value t.Mask, t.Mask⟩
theorem F_tern_Clean_eq (t : Tern) : F_tern_Clean t = some (tclean t) := rfl
def cclean (c : Cube) : Cube := Vector.ofFn fun i => tclean (ve c i.1)
theorem ve_cclean (c : Cube) (i : Nat) (h : i < 24) : ve (cclean c) i = tclean (ve c i) := ve_ofFn (fun i => tclean (ve c i)) i h
theorem tclean_clean (t : Tern) : tclean (tclean t) = tclean t := by
  unfold tclean
  congr 1
  exact wt_ext fun i hi => by simp only [wt_and]; cases wt t.Value i <;> cases wt t.Mask i <;> rfl
def tover (a b : Tern) : Tern := ⟨wor (wless (tclean a).Value b.Mask) (tclean b).Value, wor a.Mask b.Mask⟩
theorem F_rewrite_over_eq (a b : Tern) : F_rewrite_over a b = some (tover a b) := rfl
def cthen (a b : Cube) : Cube := Vector.ofFn fun i => tover (ve a i.1) (ve b i.1)
theorem ve_cthen (a b : Cube) (i : Nat) (h : i < 24) : ve (cthen a b) i = tover (ve a i) (ve b i) := ve_ofFn (fun i => tover (ve a i) (ve b i)) i h
theorem F_rewrite_each_Rewrite_l1_eq (f : Int → Option Tern) (g : Nat → Tern) (hf : ∀ i : Nat, i < 24 → f (i : Int) = some (g i)) (b : Cube) : ∀ (m i : Nat), i + m = 24 → F_rewrite_each_Rewrite_l1 f m i (upto g b i) = some (Vector.ofFn (fun i => g i.1))
  | 0, i, h => by
    have : i = 24 := by omega
    subst this
    rw [F_rewrite_each_Rewrite_l1, upto_all]
  | m + 1, i, h => by
    rw [F_rewrite_each_Rewrite_l1, hf i (by omega), Option.bind_some, chk_nat (by omega), Option.bind_some]
    show F_rewrite_each_Rewrite_l1 f m (i + 1) (Vector.set (upto g b i) i (g i) _) = _
    rw [upto_set g b i (by omega), F_rewrite_each_Rewrite_l1_eq f g hf b m (i + 1) (by omega)]
theorem F_rewrite_each_Rewrite_eq (f : Int → Option Tern) (g : Nat → Tern) (hf : ∀ i : Nat, i < 24 → f (i : Int) = some (g i)) : F_rewrite_each_Rewrite f = some (Vector.ofFn (fun i => g i.1)) := by
  unfold F_rewrite_each_Rewrite
  have := F_rewrite_each_Rewrite_l1_eq f g hf (Vector.replicate 24 zTern) 24 0 rfl
  rw [upto_zero] at this
  exact this
theorem F_rewrite_Clean_eq (r : Cube) : F_rewrite_Clean r = some (cclean r) := by
  unfold F_rewrite_Clean
  rw [F_rewrite_each_Rewrite_eq (fun x => F_rewrite_Clean_1 x r) (fun i => tclean (ve r i)) (fun i hi => by unfold F_rewrite_Clean_1; rw [chk_nat hi, Option.bind_some, vget_eq, F_tern_Clean_eq]; rfl)]
  rfl
def cset (r : Cube) (f : Int) (v m : Wide) : Cube := bif decide (f ≥ 0) && decide (f < 24) then Vector.ofFn fun i => if f.toNat = i.1 then tover (ve (cclean r) f.toNat) ⟨v, m⟩ else ve (cclean r) i.1 else cclean r
theorem F_rewrite_Set_eq (r : Cube) (f : Int) (v m : Wide) : F_rewrite_Set r f v m = some (cset r f v m) := by
  unfold F_rewrite_Set cset F_field_Right
  rw [F_rewrite_Clean_eq, Option.bind_some, Option.bind_some]
  cases hc : (decide (f ≥ 0) && decide (f < 24))
  · rfl
  · simp only [Bool.and_eq_true, decide_eq_true_eq] at hc
    obtain ⟨n, rfl⟩ : ∃ n : Nat, f = (n : Int) := ⟨f.toNat, by omega⟩
    have hn : n < 24 := by omega
    have e : Vector.set (cclean r) n (tover (ve (cclean r) n) ⟨v, m⟩) hn = Vector.ofFn fun i : _root_.Fin 24 => if n = i.1 then tover (ve (cclean r) n) ⟨v, m⟩ else ve (cclean r) i.1 := ve_ext fun j hj => by
      rw [ve_set _ _ _ _ _ hj]
      exact (ve_ofFn (fun i => if n = i then tover (ve (cclean r) n) ⟨v, m⟩ else ve (cclean r) i) j hj).symm
    rw [cond_true, cond_true, chk_nat hn, Option.bind_some, vget_eq, F_rewrite_over_eq, Option.bind_some, Option.bind_some, Int.toNat_natCast]
    exact congrArg some e
theorem F_wide_low_some (n : Int) : ∃ x, F_wide_low n = some x := by
  unfold F_wide_low
  cases decide (n ≥ 64)
  · have h0 : 0 ≤ imax n 0 := by
      unfold imax
      by_cases h : (0 : Int) > n
      · simp [h]
      · simp [h]; omega
    obtain ⟨k, hk⟩ : ∃ k : Nat, imax n 0 = (k : Int) := ⟨(imax n 0).toNat, by omega⟩
    rw [cond_false, hk, oushl_nat]
    exact ⟨_, rfl⟩
  · exact ⟨_, rfl⟩
def wlow (n : Int) : Wide := (F_wide_Low n).getD zWide
theorem F_wide_Low_eq (n : Int) : F_wide_Low n = some (wlow n) := by
  obtain ⟨x, hx⟩ := F_wide_low_some (IntKind.i64.wrap ((imin (imax n 0) 128) - 64))
  obtain ⟨y, hy⟩ := F_wide_low_some (imin (imax n 0) 128)
  have : F_wide_Low n = some ⟨x, y⟩ := by unfold F_wide_Low; rw [hx, Option.bind_some, hy]; rfl
  unfold wlow
  rw [this]; rfl
def fbits (n : Int) : Int := (F_field_Bits n).getD 0
theorem F_field_rows_some : ∃ v, F_field_rows = some v := by unfold F_field_rows; exact ⟨_, rfl⟩
theorem F_field_Bits_eq (n : Int) : F_field_Bits n = some (fbits n) := by
  have : ∃ x, F_field_Bits n = some x := by
    unfold F_field_Bits F_field_at F_field_Right
    rw [Option.bind_some]
    cases hc : (decide (n ≥ 0) && decide (n < 24))
    · exact ⟨_, rfl⟩
    · simp only [Bool.and_eq_true, decide_eq_true_eq] at hc
      obtain ⟨k, rfl⟩ : ∃ k : Nat, n = (k : Int) := ⟨n.toNat, by omega⟩
      obtain ⟨v, hv⟩ := F_field_rows_some
      rw [Bool.not_true, cond_false, hv, Option.bind_some, lget_lt (by simp; omega), Option.bind_some, Option.bind_some]
      exact ⟨_, rfl⟩
  obtain ⟨x, hx⟩ := this
  unfold fbits
  rw [hx]; rfl
def oxT (o : Oxm) : Tern := bif decide (o.Field ≥ 0) && decide (o.Field < 24) then (bif o.Masked then ⟨o.Value, o.Mask⟩ else ⟨o.Value, wlow (fbits o.Field)⟩) else ⟨zWide, zWide⟩
theorem F_oxm_Tern_eq (o : Oxm) : F_oxm_Tern o = some (oxT o) := by
  unfold F_oxm_Tern oxT F_field_Right
  rw [Option.bind_some]
  cases decide (o.Field ≥ 0) && decide (o.Field < 24)
  · rfl
  · rw [Bool.not_true, cond_false, cond_true]
    cases o.Masked
    · rw [cond_false, cond_false, F_field_Bits_eq, Option.bind_some, F_wide_Low_eq]; rfl
    · rfl
def none24 : Cube := Vector.replicate 24 zTern
def rwOf (a : Action) : Cube :=
  bif decide (a.Kind = 25) then cset none24 a.Oxm.Field (oxT a.Oxm).Value (oxT a.Oxm).Mask
  else bif decide (a.Kind = 17) then cset none24 5 (wbit 12) (wbit 12)
  else bif decide (a.Kind = 18) then cset (cset none24 5 ⟨0, 0⟩ (wlow 13)) 6 ⟨0, 0⟩ (wlow 3)
  else none24
theorem F_aset_Rewrite_eq (a : Action) : F_aset_Rewrite a = some (rwOf a) := by
  unfold F_aset_Rewrite rwOf
  rw [show F_rewrite_None = some none24 from rfl, Option.bind_some]
  cases decide (a.Kind = 25)
  · rw [cond_false, cond_false]
    cases decide (a.Kind = 17)
    · rw [cond_false, cond_false]
      cases decide (a.Kind = 18)
      · rfl
      · rw [cond_true, cond_true, F_wide_Low_eq, Option.bind_some, F_rewrite_Set_eq, Option.bind_some, F_wide_Low_eq, Option.bind_some, F_rewrite_Set_eq]; rfl
    · rw [cond_true, cond_true, show (12 : Int) = ((12 : Nat) : Int) from rfl, F_wide_Bit_eq 12 (by decide), Option.bind_some, Option.bind_some, F_rewrite_Set_eq]; rfl
  · rw [cond_true, cond_true, F_oxm_Tern_eq, Option.bind_some, F_rewrite_Set_eq]; rfl
def mostOf (a : Action) : Int := bif decide (a.Port = 4294967293) then a.Max else 0
theorem fidx_split {α : Type} (p : α → Bool) : ∀ l : List α, 0 ≤ fidx p l → (l.take ((fidx p l).toNat + 1)).filter (fun x => !p x) = l.take (fidx p l).toNat
  | [], h => by simp [fidx] at h
  | x :: l, h => by
    unfold fidx at h ⊢
    cases hp : p x
    · rw [hp] at h
      by_cases h' : fidx p l < 0
      · simp [h'] at h
      · simp only [cond_false, decide_eq_false h']
        have e : (fidx p l + 1).toNat = (fidx p l).toNat + 1 := by omega
        rw [e, List.take_succ_cons, List.take_succ_cons, List.filter_cons_of_pos (by simp [hp]), fidx_split p l (by omega)]
    · simp [hp]
theorem fidx_all {α : Type} (p : α → Bool) (l : List α) (h : fidx p l < 0) : l.filter (fun x => !p x) = l := by
  rw [List.filter_eq_self]
  intro x hx
  rw [fidx_none p l h x hx]; rfl
theorem fidx_find {α : Type} (p : α → Bool) : ∀ l : List α, (fidx p l < 0 ∧ l.find? p = none) ∨ ∃ n : Nat, fidx p l = (n : Int) ∧ ∃ h : n < l.length, l.find? p = some l[n] ∧ p l[n] = true
  | [] => .inl ⟨by simp [fidx], rfl⟩
  | x :: l => by
    unfold fidx
    cases hp : p x
    · rw [cond_false, List.find?_cons_of_neg (by simp [hp])]
      rcases fidx_find p l with ⟨h1, h2⟩ | ⟨n, h1, h2, h3, h4⟩
      · left; rw [decide_eq_true h1]; exact ⟨by show (-1 : Int) < 0; decide, h2⟩
      · right
        rw [decide_eq_false (by omega)]
        exact ⟨n + 1, by show fidx p l + 1 = _; omega, by simp; omega, by simpa using h3, by simpa using h4⟩
    · right
      exact ⟨0, rfl, by simp, by rw [List.find?_cons_of_pos hp]; rfl, hp⟩
theorem F_slices_IndexFunc_Action_eq (s : List Action) (f : Action → Option Bool) (p : Action → Bool) (hf : ∀ x ∈ s, f x = some (p x)) : F_slices_IndexFunc_Action s f = some (fidx p s) := by
  unfold F_slices_IndexFunc_Action
  rw [show ((s.length : Int)).toNat = s.length by omega]
  exact idx_spec p (fun i => by rw [F_slices_IndexFunc_Action_l1]) (fun m i => by rw [F_slices_IndexFunc_Action_l1]) hf
theorem F_slices_IndexFunc_Group_eq (s : List Group) (f : Group → Option Bool) (p : Group → Bool) (hf : ∀ x ∈ s, f x = some (p x)) : F_slices_IndexFunc_Group s f = some (fidx p s) := by
  unfold F_slices_IndexFunc_Group
  rw [show ((s.length : Int)).toNat = s.length by omega]
  exact idx_spec p (fun i => by rw [F_slices_IndexFunc_Group_l1]) (fun m i => by rw [F_slices_IndexFunc_Group_l1]) hf
theorem F_slices_IndexFunc_Bucket_eq (s : List Bucket) (f : Bucket → Option Bool) (p : Bucket → Bool) (hf : ∀ x ∈ s, f x = some (p x)) : F_slices_IndexFunc_Bucket s f = some (fidx p s) := by
  unfold F_slices_IndexFunc_Bucket
  rw [show ((s.length : Int)).toNat = s.length by omega]
  exact idx_spec p (fun i => by rw [F_slices_IndexFunc_Bucket_l1]) (fun m i => by rw [F_slices_IndexFunc_Bucket_l1]) hf
theorem F_slices_Index_int_eq (s : List Int) (v : Int) : F_slices_Index_int s v = some (fidx (fun x => decide (v = x)) s) := by
  unfold F_slices_Index_int
  rw [show ((s.length : Int)).toNat = s.length by omega]
  exact idx_spec (f := fun x => some (decide (v = x))) (fun x => decide (v = x)) (fun i => by rw [F_slices_Index_int_l1]) (fun m i => by rw [F_slices_Index_int_l1]; rfl) (fun _ _ => rfl)
theorem F_slices_DeleteFunc_Action_eq (s : List Action) (f : Action → Option Bool) (p : Action → Bool) (hf : ∀ x ∈ s, f x = some (p x)) (hl : s.length ≤ lim) : F_slices_DeleteFunc_Action s f = some (s.filter (fun x => !p x)) := by
  have hlim : lim = 4294967296 := rfl
  unfold F_slices_DeleteFunc_Action
  rw [F_slices_IndexFunc_Action_eq s f p hf, Option.bind_some]
  by_cases h : fidx p s < 0
  · have := fidx_ge p s
    rw [decide_eq_true (by omega), cond_true, fidx_all p s h]
  · have hlt := fidx_lt p s
    rw [decide_eq_false (by omega), cond_false, wrap_i64 (by omega) (by omega)]
    have key := del_spec (z := zAction) (G := F_slices_DeleteFunc_Action_l1 f) (s := s) (f := f) p (fun m l i j => by rw [F_slices_DeleteFunc_Action_l1]) hf hl (((s.length : Int) - (fidx p s + 1)).toNat + 1) s (fidx p s).toNat ((fidx p s).toNat + 1) (by omega) (by omega) (by omega) rfl rfl (fidx_split p s (by omega)).symm
    rw [show ((fidx p s).toNat : Int) = fidx p s by omega, show (((fidx p s).toNat + 1 : Nat) : Int) = fidx p s + 1 by omega] at key
    exact key
theorem F_slices_ContainsFunc_Action_eq (s : List Action) (f : Action → Option Bool) (p : Action → Bool) (hf : ∀ x ∈ s, f x = some (p x)) : F_slices_ContainsFunc_Action s f = some (s.any p) := by
  unfold F_slices_ContainsFunc_Action; rw [F_slices_IndexFunc_Action_eq s f p hf, Option.bind_some, fidx_any]
def keyOf (a : Action) : aset_spot := bif decide (a.Kind = 25) then ⟨a.Kind, a.Oxm.Field⟩ else ⟨a.Kind, 0⟩
theorem F_aset_at_eq (a : Action) : F_aset_at a = some (keyOf a) := by
  unfold F_aset_at keyOf
  cases decide (a.Kind = 25) <;> rfl
theorem keyOf_kind (a : Action) : (keyOf a).kind = a.Kind := by
  unfold keyOf
  cases decide (a.Kind = 25) <;> rfl
theorem F_aset_Write_1_eq (b c : Action) : F_aset_Write_1 b c = some (decide (keyOf c = keyOf b)) := by
  unfold F_aset_Write_1
  rw [F_aset_at_eq, Option.bind_some, F_aset_at_eq]; rfl
def wr1 (l : List Action) (x : Action) : List Action := bif decide (fidx (fun b => decide (keyOf x = keyOf b)) l < 0) then l ++ [x] else l.set (fidx (fun b => decide (keyOf x = keyOf b)) l).toNat x
theorem wr1_len (l : List Action) (x : Action) : (wr1 l x).length ≤ l.length + 1 := by
  unfold wr1
  cases decide (fidx (fun b => decide (keyOf x = keyOf b)) l < 0) <;> simp
theorem F_aset_Write_l1_eq : ∀ (l : List Action) (i : Nat) (acc : List Action), acc.length + l.length ≤ lim → F_aset_Write_l1 l i acc = some (l.foldl wr1 acc)
  | [], i, acc, _ => by rw [F_aset_Write_l1]; rfl
  | x :: l, i, acc, h => by
    simp only [List.length_cons] at h
    have hw := wr1_len acc x
    rw [F_aset_Write_l1, F_slices_IndexFunc_Action_eq acc (fun y => F_aset_Write_1 y x) (fun b => decide (keyOf x = keyOf b)) (fun y _ => F_aset_Write_1_eq y x), Option.bind_some, List.foldl_cons]
    have hi := fidx_lt (fun b => decide (keyOf x = keyOf b)) acc
    by_cases hc : fidx (fun b => decide (keyOf x = keyOf b)) acc < 0
    · rw [decide_eq_true hc, cond_true, appd_ok (by simp; omega), Option.bind_some, F_aset_Write_l1_eq l (i + 1) _ (by simp; omega)]
      unfold wr1
      rw [decide_eq_true hc, cond_true]
    · obtain ⟨n, hn⟩ : ∃ n : Nat, fidx (fun b => decide (keyOf x = keyOf b)) acc = (n : Int) := ⟨(fidx (fun b => decide (keyOf x = keyOf b)) acc).toNat, by omega⟩
      rw [decide_eq_false hc, cond_false, hn, lget_lt (by omega), Option.bind_some, F_aset_Write_l1_eq l (i + 1) _ (by simp; omega)]
      unfold wr1
      rw [decide_eq_false hc, cond_false, hn]
theorem F_aset_Write_eq (s l : List Action) (h : s.length + l.length ≤ lim) : F_aset_Write s l = some (l.foldl wr1 s) := by
  unfold F_aset_Write F_slices_Clone_Action
  rw [appd_ok (by simp; omega), Option.bind_some, List.nil_append, F_aset_Write_l1_eq l 0 s h]
theorem wr_len : ∀ (l s : List Action), (l.foldl wr1 s).length ≤ s.length + l.length
  | [], s => by simp
  | x :: l, s => by
    have h1 := wr_len l (wr1 s x)
    have h2 := wr1_len s x
    rw [List.foldl_cons, List.length_cons]; omega
def turnOf (k : Int) : Int := fidx (fun x => decide (k = x)) [18, 17, 25, 22, 0]
theorem F_aset_turn_eq (k : Int) : F_aset_turn k = some (turnOf k) := by
  unfold F_aset_turn turnOf
  rw [F_slices_Index_int_eq]; rfl
def keepA (goes : Bool) (a : Action) : Bool := !(decide (turnOf a.Kind < 0) || (goes && decide (a.Kind = 0)))
def cmpA (a b : Action) : Int :=
  bif decide (IntKind.i64.wrap (turnOf (keyOf a).kind - turnOf (keyOf b).kind) ≠ 0) then IntKind.i64.wrap (turnOf (keyOf a).kind - turnOf (keyOf b).kind)
  else bif decide ((keyOf a).field < (keyOf b).field) then -1 else bif decide ((keyOf a).field > (keyOf b).field) then 1 else 0
theorem F_aset_List_3_eq (a b : Action) : F_aset_List_3 a b = some (cmpA a b) := by
  unfold F_aset_List_3 cmpA
  rw [F_aset_at_eq, Option.bind_some, F_aset_at_eq, Option.bind_some, F_aset_turn_eq, Option.bind_some, F_aset_turn_eq, Option.bind_some]
  cases decide (IntKind.i64.wrap (turnOf (keyOf a).kind - turnOf (keyOf b).kind) ≠ 0)
  · rw [cond_false, cond_false]
    cases decide ((keyOf a).field < (keyOf b).field)
    · rw [cond_false, cond_false]
      cases decide ((keyOf a).field > (keyOf b).field) <;> rfl
    · rfl
  · rfl
theorem rins_perm {α : Type} (lt : α → α → Bool) (x : α) : ∀ R : List α, (rins lt x R).Perm (x :: R)
  | [] => List.Perm.refl _
  | y :: R => by
    rw [rins]
    cases lt x y
    · exact List.Perm.refl _
    · exact ((rins_perm lt x R).cons y).trans (List.Perm.swap x y R)
theorem foldr_perm {α : Type} (lt : α → α → Bool) : ∀ (l R : List α), (l.foldl (fun R x => rins lt x R) R).Perm (l ++ R)
  | [], R => List.Perm.refl _
  | x :: l, R => by
    rw [List.foldl_cons]
    refine (foldr_perm lt l _).trans ?_
    refine ((rins_perm lt x R).append_left l).trans ?_
    exact List.perm_middle
theorem srt_perm {α : Type} (lt : α → α → Bool) (l : List α) : (srt lt l).Perm l := by
  unfold srt
  refine (List.reverse_perm _).trans ?_
  have := foldr_perm lt l []
  rwa [List.append_nil] at this
theorem rins_len {α : Type} (lt : α → α → Bool) (x : α) (R : List α) : (rins lt x R).length = R.length + 1 := by
  have := (rins_perm lt x R).length_eq
  simpa using this
def ltA (a b : Action) : Bool := decide (cmpA a b < 0)
def lstA (s : List Action) : List Action := srt ltA (s.filter (keepA (s.any fun a => decide (a.Kind = 22))))
def lightB (bs : List Bucket) : Prop := bs.length ≤ 3 ∧ ∀ x ∈ bs, x.Acts.length ≤ 12
def lightG (l : List Group) : Prop := l.length ≤ 9 ∧ ∀ g ∈ l, lightB g.Buckets
def outs (l : List Action) : Nat := l.countP fun a => decide (a.Kind = 0) || decide (a.Kind = 22)
end Go.Proofs.YtknpgojdkobgjaaGreat.W
set_option linter.unusedVariables false
set_option linter.unusedSimpArgs false
namespace Go.Proofs.YtknpgojdkobgjaaGreat.W
open Go Go.Wb
theorem F_rewrite_Then_eq (a b : Cube) : F_rewrite_Then a b = some (cthen a b) := by
  unfold F_rewrite_Then
  rw [F_rewrite_each_Rewrite_eq (fun x => F_rewrite_Then_1 x a b) (fun i => tover (ve a i) (ve b i)) (fun i hi => by unfold F_rewrite_Then_1; rw [chk_nat hi, Option.bind_some, Option.bind_some, vget_eq, vget_eq, F_rewrite_over_eq]; rfl)]
  rfl
def atomOf (r : Cube) (a : Action) : Atom := bif decide (a.Kind = 0) then ⟨r, false, a.Port, mostOf a⟩ else ⟨r, true, a.Group, 0⟩
def loud (a : Action) : Bool := decide (a.Kind = 0) || decide (a.Kind = 22)
def doT : List Action → Cube → List Atom × Cube
  | [], r => ([], r)
  | a :: l, r => bif loud a then (atomOf r a :: (doT l r).1, (doT l r).2) else doT l (cthen r (rwOf a))
theorem F_atom_trace_do_eq (r : Cube) (o : List Atom) (a : Action) (h : o.length + 1 ≤ lim) : F_atom_trace_do ⟨r, o⟩ a = some (bif loud a then ⟨r, o ++ [atomOf r a]⟩ else ⟨cthen r (rwOf a), o⟩) := by
  have hj : ∀ x : Atom, F_atom_trace_do_j1 ⟨r, o⟩ x = some ⟨r, o ++ [x]⟩ := fun x => by
    unfold F_atom_trace_do_j1
    rw [appd_ok (by simpa using h), Option.bind_some]
  unfold F_atom_trace_do loud atomOf mostOf
  cases decide (a.Kind = 0)
  · rw [cond_false]
    cases decide (a.Kind = 22)
    · rw [cond_false, F_aset_Rewrite_eq, Option.bind_some, F_rewrite_Then_eq]; rfl
    · rw [cond_true, hj]; rfl
  · rw [cond_true]
    cases decide (a.Port = 4294967293)
    · rw [cond_false, hj]; rfl
    · rw [cond_true, hj]; rfl
theorem F_atom_each_Action_l1_eq : ∀ (l : List Action) (i : Nat) (r : Cube) (o : List Atom), o.length + l.length ≤ lim → F_atom_each_Action_l1 atom_trace (fun s x => F_atom_trace_do s x) l i ⟨r, o⟩ = some ⟨(doT l r).2, o ++ (doT l r).1⟩
  | [], i, r, o, _ => by rw [F_atom_each_Action_l1]; simp [doT]
  | a :: l, i, r, o, h => by
    simp only [List.length_cons] at h
    rw [F_atom_each_Action_l1, F_atom_trace_do_eq r o a (by omega), Option.bind_some, doT]
    cases loud a
    · rw [cond_false, cond_false, F_atom_each_Action_l1_eq l (i + 1) _ o (by omega)]
    · rw [cond_true, cond_true, F_atom_each_Action_l1_eq l (i + 1) _ _ (by simp; omega)]
      simp
theorem F_atom_Do_eq (acts : List Action) (r : Cube) (h : acts.length ≤ lim) : F_atom_Do acts r = some (doT acts (cclean r)) := by
  unfold F_atom_Do F_atom_each_Action
  rw [F_rewrite_Clean_eq, Option.bind_some, F_atom_each_Action_l1_eq acts 0 _ [] (by simpa using h), Option.bind_some]
  rfl
theorem doT_len : ∀ (l : List Action) (r : Cube), (doT l r).1.length = outs l
  | [], r => rfl
  | a :: l, r => by
    have ih := doT_len l
    unfold outs at ih ⊢
    rw [doT, List.countP_cons]
    show _ = _ + if loud a = true then 1 else 0
    cases loud a
    · simp [ih]
    · simp [ih]
end Go.Proofs.YtknpgojdkobgjaaGreat.W
set_option linter.unusedVariables false
set_option linter.unusedSimpArgs false
namespace Go.Proofs.YtknpgojdkobgjaaGreat.W
open Go Go.Wb
end Go.Proofs.YtknpgojdkobgjaaGreat.W
set_option linter.unusedVariables false
set_option linter.unusedSimpArgs false
namespace Go.Proofs.YtknpgojdkobgjaaGreat.W
open Go Go.Wb
theorem F_slices_ContainsFunc_Bucket_eq (s : List Bucket) (f : Bucket → Option Bool) (p : Bucket → Bool) (hf : ∀ x ∈ s, f x = some (p x)) : F_slices_ContainsFunc_Bucket s f = some (s.any p) := by
  unfold F_slices_ContainsFunc_Bucket; rw [F_slices_IndexFunc_Bucket_eq s f p hf, Option.bind_some, fidx_any]
theorem F_slices_ContainsFunc_Group_eq (s : List Group) (f : Group → Option Bool) (p : Group → Bool) (hf : ∀ x ∈ s, f x = some (p x)) : F_slices_ContainsFunc_Group s f = some (s.any p) := by
  unfold F_slices_ContainsFunc_Group; rw [F_slices_IndexFunc_Group_eq s f p hf, Option.bind_some, fidx_any]
def fewB (bs : List Bucket) (many : Int) : Bool := decide ((bs.length : Int) ≤ many) && !(bs.any fun x => !decide ((x.Acts.length : Int) ≤ 12))
theorem F_pl_Buckets_eq (bs : List Bucket) (many : Int) : F_pl_Buckets bs many = some (fewB bs many) := by
  unfold F_pl_Buckets fewB
  rw [F_slices_ContainsFunc_Bucket_eq bs F_pl_Buckets_1 (fun x => !decide ((x.Acts.length : Int) ≤ 12)) (fun x _ => rfl)]
  cases decide ((bs.length : Int) ≤ many) <;> rfl
def fewG (l : List Group) (many bm : Int) : Bool := decide ((l.length : Int) ≤ many) && !(l.any fun g => !fewB g.Buckets bm)
theorem F_pl_Groups_eq (l : List Group) (many bm : Int) : F_pl_Groups l many bm = some (fewG l many bm) := by
  unfold F_pl_Groups fewG
  rw [F_slices_ContainsFunc_Group_eq l (fun x => F_pl_Groups_1 x bm) (fun g => !fewB g.Buckets bm) (fun g _ => by unfold F_pl_Groups_1; rw [F_pl_Buckets_eq]; rfl)]
  cases decide ((l.length : Int) ≤ many) <;> rfl
theorem fewG_light {l : List Group} (h : fewG l 9 3 = true) : lightG l := by
  unfold fewG at h
  simp only [Bool.and_eq_true, decide_eq_true_eq, Bool.not_eq_true', List.any_eq_false] at h
  refine ⟨by omega, fun g hg => ?_⟩
  have h1 : fewB g.Buckets 3 = true := by simpa using h.2 g hg
  unfold fewB at h1
  simp only [Bool.and_eq_true, decide_eq_true_eq, Bool.not_eq_true', List.any_eq_false] at h1
  refine ⟨by omega, fun x hx => ?_⟩
  have h2 : decide ((x.Acts.length : Int) ≤ 12) = true := by simpa using h1.2 x hx
  rw [decide_eq_true_eq] at h2
  omega
end Go.Proofs.YtknpgojdkobgjaaGreat.W
set_option linter.unusedVariables false
set_option linter.unusedSimpArgs false
namespace Go.Proofs.YtknpgojdkobgjaaGreat.W
open Go Go.Wb
theorem F_r02_And_eq (a b : Wide) : F_r02_And a b = some (wand a b) := rfl
theorem F_r02_Or_eq (a b : Wide) : F_r02_Or a b = some (wor a b) := rfl
theorem F_r02_Less_eq (a b : Wide) : F_r02_Less a b = some (wless a b) := rfl
theorem F_r05_Clean_eqR (t : Tern) : F_r05_Clean t = some (tclean t) := rfl
theorem inc (n : Nat) (h : n < 9223372036854775807) : IntKind.i64.wrap ((n : Int) + 1) = ((n + 1 : Nat) : Int) := by rw [wrap_i64 (by omega) (by omega)]; omega
theorem F_r09_Clean_l1_eq (c : Cube) : ∀ (m i : Nat), i ≤ 24 → 24 < i + m → F_r09_Clean_l1 m (upto (fun i => tclean (ve c i)) c i) (i : Int) = some (cclean c)
  | 0, i, h1, h2 => by omega
  | m + 1, i, h1, h2 => by
    rw [F_r09_Clean_l1]
    by_cases h : i < 24
    · rw [decide_eq_true (by omega), cond_true, chk_nat h, Option.bind_some, F_r05_Clean_eqR, Option.bind_some, Option.bind_some, vget_eq, ve_upto _ _ _ _ h, if_neg (by omega), inc i (by omega)]
      show F_r09_Clean_l1 m (Vector.set (upto (fun i => tclean (ve c i)) c i) i (tclean (ve c i)) _) _ = _
      rw [upto_set (fun i => tclean (ve c i)) c i h, F_r09_Clean_l1_eq c m (i + 1) (by omega) (by omega)]
    · have : i = 24 := by omega
      subst this
      rw [decide_eq_false (by omega), cond_false, upto_all]; rfl
theorem F_r09_Clean_eq (c : Cube) : F_r09_Clean c = some (cclean c) := by
  unfold F_r09_Clean
  have := F_r09_Clean_l1_eq c (((24 : Int) - 0).toNat + 1) 0 (by omega) (by decide)
  rw [upto_zero] at this
  exact this
theorem F_r09_Then_l1_eq (a b : Cube) : ∀ (m i : Nat), i ≤ 24 → 24 < i + m → F_r09_Then_l1 (cclean b) m (upto (fun i => tover (ve a i) (ve b i)) (cclean a) i) (i : Int) = some (cthen a b)
  | 0, i, h1, h2 => by omega
  | m + 1, i, h1, h2 => by
    rw [F_r09_Then_l1]
    by_cases h : i < 24
    · simp only [decide_eq_true (show ((i : Int) < 24) by omega), cond_true, chk_nat h, Option.bind_some, vget_eq, F_r02_Less_eq, F_r02_Or_eq, inc i (by omega)]
      rw [ve_upto _ _ _ _ h, if_neg (by omega), ve_cclean _ _ h, ve_cclean _ _ h]
      have := upto_set (fun i => tover (ve a i) (ve b i)) (cclean a) i h
      show F_r09_Then_l1 (cclean b) m (Vector.set (upto (fun i => tover (ve a i) (ve b i)) (cclean a) i) i (tover (ve a i) (ve b i)) _) _ = _
      rw [this]
      exact F_r09_Then_l1_eq a b m (i + 1) (by omega) (by omega)
    · have : i = 24 := by omega
      subst this
      rw [decide_eq_false (by omega), cond_false, upto_all]; rfl
theorem F_r09_Then_eq (a b : Cube) : F_r09_Then a b = some (cthen a b) := by
  unfold F_r09_Then
  rw [F_r09_Clean_eq, Option.bind_some, F_r09_Clean_eq, Option.bind_some]
  have := F_r09_Then_l1_eq a b (((24 : Int) - 0).toNat + 1) 0 (by omega) (by decide)
  rw [upto_zero] at this
  exact this
theorem tover_zero (a : Tern) : tover a zTern = tclean a := by
  unfold tover tclean
  have h1 : wor (wless (wand a.Value a.Mask) zTern.Mask) (wand zTern.Value zTern.Mask) = wand a.Value a.Mask := wt_ext fun i hi => by
    have z : wt zTern.Mask i = false := wt_zero i
    have z2 : wt zTern.Value i = false := wt_zero i
    simp only [wt_or, wt_less _ _ _ hi, wt_and, z, z2]
    cases wt a.Value i <;> cases wt a.Mask i <;> rfl
  have h2 : wor a.Mask zTern.Mask = a.Mask := wt_ext fun i hi => by
    have z : wt zTern.Mask i = false := wt_zero i
    rw [wt_or, z, Bool.or_false]
  show (⟨wor (wless (wand a.Value a.Mask) zTern.Mask) (wand zTern.Value zTern.Mask), wor a.Mask zTern.Mask⟩ : Tern) = _
  rw [h1, h2]
theorem tover_clean1 (a b : Tern) : tover (tclean a) b = tover a b := by
  unfold tover
  rw [tclean_clean]; rfl
theorem F_r09_Set_eqR (r : Cube) (f : Int) (v m : Wide) : F_r09_Set r f v m = some (cset r f v m) := by
  unfold F_r09_Set cset F_r03_Right
  rw [Option.bind_some]
  have hz : ∀ i, i < 24 → ve none24 i = zTern := fun i hi => ve_replicate _ _ hi
  cases hc : (decide (f ≥ 0) && decide (f < 24))
  · rw [cond_false, cond_false]
    unfold F_r09_Set_j1
    rw [F_r09_Then_eq, Option.bind_some]
    have e : cthen r (Vector.replicate 24 zTern) = cclean r := ve_ext fun i hi => by
      rw [ve_cthen _ _ _ hi, ve_cclean _ _ hi, show ve (Vector.replicate 24 zTern) i = zTern from hz i hi, tover_zero]
    rw [e]
  · simp only [Bool.and_eq_true, decide_eq_true_eq] at hc
    obtain ⟨n, rfl⟩ : ∃ n : Nat, f = (n : Int) := ⟨f.toNat, by omega⟩
    have hn : n < 24 := by omega
    rw [cond_true, cond_true, chk_nat hn, Option.bind_some, Int.toNat_natCast]
    unfold F_r09_Set_j1
    rw [F_r09_Then_eq, Option.bind_some]
    have e : cthen r (Vector.set (Vector.replicate 24 zTern) n (⟨v, m⟩ : Tern) hn) = Vector.ofFn fun i : _root_.Fin 24 => if n = i.1 then tover (ve (cclean r) n) ⟨v, m⟩ else ve (cclean r) i.1 := ve_ext fun i hi => by
      rw [ve_cthen _ _ _ hi, ve_set _ _ _ _ _ hi]
      refine Eq.trans ?_ (ve_ofFn (fun i => if n = i then tover (ve (cclean r) n) ⟨v, m⟩ else ve (cclean r) i) i hi).symm
      by_cases h : n = i
      · subst h
        simp only [if_true]
        rw [ve_cclean _ _ hi, tover_clean1]
      · simp only [if_neg h]
        rw [ve_cclean _ _ hi, show ve (Vector.replicate 24 zTern) i = zTern from hz i hi, tover_zero]
    exact congrArg some e
theorem bits_all : ∀ f : _root_.Fin 24, F_r03_Bits (f.1 : Int) = some (fbits (f.1 : Int)) ∧ F_r02_Low (fbits (f.1 : Int)) = some (wlow (fbits (f.1 : Int))) := by decide +kernel
theorem F_r02_Low_13 : F_r02_Low 13 = some (wlow 13) := by decide +kernel
theorem F_r02_Low_3 : F_r02_Low 3 = some (wlow 3) := by decide +kernel
theorem F_r02_Bit_12 : F_r02_Bit 12 = some (wbit 12) := by decide +kernel
theorem F_r10_Tern_eq (o : Oxm) : F_r10_Tern o = some (oxT o) := by
  unfold F_r10_Tern oxT F_r03_Right
  rw [Option.bind_some]
  cases hc : decide (o.Field ≥ 0) && decide (o.Field < 24)
  · rfl
  · simp only [Bool.and_eq_true, decide_eq_true_eq] at hc
    obtain ⟨h1, h2⟩ := bits_all ⟨o.Field.toNat, by omega⟩
    have e : ((o.Field.toNat : Nat) : Int) = o.Field := by omega
    simp only [e] at h1 h2
    rw [Bool.not_true, cond_false, cond_true]
    cases o.Masked
    · rw [cond_false, cond_false, h1, Option.bind_some, h2]; rfl
    · rfl
theorem F_r28_Rewrite_eqR (a : Action) : F_r28_Rewrite a = some (rwOf a) := by
  have h84 : F_r09_None = some none24 := rfl
  unfold F_r28_Rewrite rwOf
  cases decide (a.Kind = 25)
  · rw [cond_false, cond_false]
    cases decide (a.Kind = 17)
    · rw [cond_false, cond_false]
      cases decide (a.Kind = 18)
      · rfl
      · rw [cond_true, cond_true, h84, Option.bind_some, F_r02_Low_13, Option.bind_some, F_r09_Set_eqR, Option.bind_some, F_r02_Low_3, Option.bind_some, F_r09_Set_eqR]; rfl
    · rw [cond_true, cond_true, h84, Option.bind_some, F_r02_Bit_12, Option.bind_some, Option.bind_some, F_r09_Set_eqR]; rfl
  · rw [cond_true, cond_true, F_r10_Tern_eq, Option.bind_some, h84, Option.bind_some, F_r09_Set_eqR]; rfl
theorem F_r28_like_eqR (a b : Action) : F_r28_like a b = some (decide (keyOf b = keyOf a)) := by
  unfold F_r28_like
  congr 1
  rw [Bool.eq_iff_iff]
  unfold keyOf
  by_cases ha : a.Kind = 25
  · by_cases hb : b.Kind = 25
    · simp [ha, hb, eq_comm]
    · have : a.Kind ≠ b.Kind := fun e => hb (e ▸ ha)
      simp [ha, hb, this, eq_comm]
  · by_cases hb : b.Kind = 25
    · have : a.Kind ≠ b.Kind := fun e => ha (e.trans hb)
      simp [ha, hb, this, eq_comm]
    · simp [ha, hb, eq_comm]
theorem fidx_take_succ {α : Type} (p : α → Bool) : ∀ (l : List α) (j : Nat) (h : j < l.length), fidx p (l.take (j + 1)) = bif decide (fidx p (l.take j) < 0) then (bif p l[j] then (j : Int) else -1) else fidx p (l.take j)
  | [], j, h => by simp at h
  | x :: l, 0, h => by
    simp only [List.take_zero, List.take_succ_cons, fidx, List.getElem_cons_zero]
    cases p x <;> rfl
  | x :: l, j + 1, h => by
    have hj : j < l.length := by simpa using h
    have ih := fidx_take_succ p l j hj
    have hq := fidx_ge p (l.take j)
    rw [List.take_succ_cons, List.take_succ_cons, fidx, fidx, ih, List.getElem_cons_succ]
    generalize fidx p (l.take j) = q at *
    generalize p l[j] = r at *
    cases p x
    · simp only [cond_false]
      by_cases hn : q < 0
      · simp only [decide_eq_true hn, cond_true]
        cases r
        · rfl
        · simp only [cond_true]
          rw [decide_eq_false (show ¬ ((j : Int) < 0) by omega), cond_false]
          have : decide ((-1 : Int) < 0) = true := rfl
          rw [this, cond_true]
          omega
      · simp only [decide_eq_false hn, cond_false]
        rw [decide_eq_false (show ¬ (q + 1 < 0) by omega), cond_false]
    · rfl
theorem F_r28_Write_l2_eq (l l2 : List Action) (i : Nat) (hi : i < l2.length) (hl : l.length ≤ 100) (hl2 : l2.length ≤ 100) (go : List Action → Int → Option (List Action)) : ∀ (m j : Nat), j ≤ l.length → l.length < j + m →
    F_r28_Write_l2 l l2 (i : Int) go m (fidx (fun b => decide (keyOf l2[i] = keyOf b)) (l.take j)) (j : Int) = go (wr1 l l2[i]) ((i + 1 : Nat) : Int)
  | 0, j, h1, h2 => by omega
  | m + 1, j, h1, h2 => by
    have hlim : lim = 4294967296 := rfl
    rw [F_r28_Write_l2]
    by_cases hj : j < l.length
    · have hs := fidx_take_succ (fun b => decide (keyOf l2[i] = keyOf b)) l j hj
      have ih := F_r28_Write_l2_eq l l2 i hi hl hl2 go m (j + 1) (by omega) (by omega)
      rw [decide_eq_true (show (j : Int) < (l.length : Int) by omega), cond_true, inc j (by omega)]
      by_cases hn : fidx (fun b => decide (keyOf l2[i] = keyOf b)) (l.take j) < 0
      · rw [decide_eq_true hn, cond_true] at hs
        rw [decide_eq_true hn, opt_true, lget_lt hj, Option.bind_some, opt_true, lget_lt hi, Option.bind_some, opt_true, F_r28_like_eqR, Option.bind_some, Bool.true_and]
        rw [hs] at ih
        cases hp : decide (keyOf l2[i] = keyOf l[j])
        · rw [hp, cond_false] at ih
          rw [cond_false]
          have e : fidx (fun b => decide (keyOf l2[i] = keyOf b)) (l.take j) = -1 := by
            have := fidx_ge (fun b => decide (keyOf l2[i] = keyOf b)) (l.take j); omega
          rw [e]; exact ih
        · rw [hp, cond_true] at ih
          rw [cond_true]; exact ih
      · rw [decide_eq_false hn, cond_false] at hs
        rw [decide_eq_false hn]
        simp only [opt_false, Option.bind_some, Bool.false_and, cond_false]
        rw [hs] at ih
        exact ih
    · have e : l.take j = l := List.take_of_length_le (by omega)
      rw [decide_eq_false (by omega), cond_false, e]
      unfold wr1
      have hlt := fidx_lt (fun b => decide (keyOf l2[i] = keyOf b)) l
      by_cases hn : fidx (fun b => decide (keyOf l2[i] = keyOf b)) l < 0
      · rw [decide_eq_true hn, cond_true, cond_true, lget_lt hi, Option.bind_some, appd_ok (by simp; omega), Option.bind_some, inc i (by omega)]
      · obtain ⟨n, hn2⟩ : ∃ n : Nat, fidx (fun b => decide (keyOf l2[i] = keyOf b)) l = (n : Int) := ⟨(fidx (fun b => decide (keyOf l2[i] = keyOf b)) l).toNat, by omega⟩
        rw [decide_eq_false hn, cond_false, cond_false, lget_lt hi, Option.bind_some, hn2, lget_lt (by omega), Option.bind_some, inc i (by omega)]
theorem F_r28_Write_l1_eq (l2 : List Action) (hl2 : l2.length ≤ 50) : ∀ (m i : Nat) (acc : List Action), i ≤ l2.length → l2.length < i + m → acc.length ≤ i + 50 → F_r28_Write_l1 l2 m acc (i : Int) = some ((l2.drop i).foldl wr1 acc)
  | 0, i, acc, h1, h2, _ => by omega
  | m + 1, i, acc, h1, h2, h3 => by
    rw [F_r28_Write_l1]
    by_cases hi : i < l2.length
    · have h4 := F_r28_Write_l2_eq acc l2 i hi (by omega) (by omega) (F_r28_Write_l1 l2 m) ((((acc.length : Int) : Int) - 0).toNat + 1) 0 (by omega) (by omega)
      rw [List.take_zero, show ((0 : Nat) : Int) = 0 from rfl] at h4
      have h5 := wr1_len acc l2[i]
      rw [decide_eq_true (by omega), cond_true]
      refine Eq.trans h4 ?_
      rw [F_r28_Write_l1_eq l2 hl2 m (i + 1) _ (by omega) (by omega) (by omega), List.drop_eq_getElem_cons hi, List.foldl_cons]
    · rw [decide_eq_false (by omega), cond_false, List.drop_of_length_le (by omega)]; rfl
theorem F_r28_Write_eqRs (s l : List Action) (hs : s.length ≤ 50) (h : l.length ≤ 50) : F_r28_Write s l = some (l.foldl wr1 s) := by
  unfold F_r28_Write
  have := F_r28_Write_l1_eq l h ((((l.length : Int) : Int) - 0).toNat + 1) 0 s (by omega) (by omega) (by omega)
  rw [appd_ok (by simp [lim]; omega), Option.bind_some, List.nil_append]
  rw [show ((0 : Nat) : Int) = 0 from rfl, List.drop_zero] at this
  exact this
def cls (k : Int) (l : List Action) : List Action := l.filter fun a => decide (a.Kind = k)
theorem F_r28_of_l1_eq (l : List Action) (k : Int) (hl : l.length ≤ 50) : ∀ (m i : Nat) (acc : List Action), i ≤ l.length → l.length < i + m → acc.length ≤ i → F_r28_of_l1 l k m acc (i : Int) = some (acc ++ cls k (l.drop i))
  | 0, i, acc, h1, h2, _ => by omega
  | m + 1, i, acc, h1, h2, h3 => by
    have hlim : lim = 4294967296 := rfl
    rw [F_r28_of_l1]
    by_cases hi : i < l.length
    · rw [decide_eq_true (by omega), cond_true, lget_lt hi, Option.bind_some, inc i (by omega), List.drop_eq_getElem_cons hi]
      unfold cls
      by_cases hk : l[i].Kind = k
      · rw [decide_eq_true hk, cond_true, Option.bind_some, appd_ok (by simp; omega), Option.bind_some, F_r28_of_l1_eq l k hl m (i + 1) _ (by omega) (by omega) (by simp; omega), List.filter_cons_of_pos (by simp [hk])]
        simp [cls]
      · rw [decide_eq_false hk, cond_false, F_r28_of_l1_eq l k hl m (i + 1) _ (by omega) (by omega) (by omega), List.filter_cons_of_neg (by simp [hk])]
        simp [cls]
    · rw [decide_eq_false (by omega), cond_false, List.drop_of_length_le (by omega)]
      simp [cls]
theorem F_r28_of_eq (l : List Action) (k : Int) (hl : l.length ≤ 50) : F_r28_of l k = some (cls k l) := by
  unfold F_r28_of
  have := F_r28_of_l1_eq l k hl ((((l.length : Int) : Int) - 0).toNat + 1) 0 [] (by omega) (by omega) (by simp)
  rw [show ((0 : Nat) : Int) = 0 from rfl] at this
  rw [this]; simp
def ltF (a b : Action) : Bool := decide (b.Oxm.Field > a.Oxm.Field)
theorem F_r28_fields_l3_eq (l1 : List Action) (i : Nat) (hi : i < l1.length) (hi2 : l1.length ≤ 50) (go : List Action → Int → Option (List Action)) (A : List Action) (hA : A.length ≤ 50) : ∀ (Br S : List Action) (c : Action) (m : Nat), Br.length < m → Br.length ≤ 50 →
    F_r28_fields_l3 (A.length : Int) l1 (i : Int) go m (A ++ (Br.reverse ++ c :: S)) ((A.length + Br.length : Nat) : Int) = go (A ++ l1[i] :: (Br.reverse ++ S)) ((i + 1 : Nat) : Int)
  | [], S, c, m, hm, _ => by
    obtain ⟨m, rfl⟩ : ∃ k, m = k + 1 := ⟨m - 1, by simp at hm; omega⟩
    have g0 : lget (A ++ c :: S) (A.length : Int) = some c := by
      rw [lget_nat, List.getElem?_append_right (Nat.le_refl _)]; simp
    have s0 : List.set (A ++ c :: S) ((A.length : Int)).toNat l1[i] = A ++ l1[i] :: S := by
      rw [Int.toNat_natCast, List.set_append_right _ _ (Nat.le_refl _)]; simp
    rw [F_r28_fields_l3, decide_eq_false (by simp), cond_false, lget_lt hi, Option.bind_some]
    simp only [List.reverse_nil, List.nil_append]
    rw [g0, Option.bind_some, s0, inc i (by omega)]
  | b :: Br, S, c, m, hm, hb => by
    simp only [List.length_cons] at hm hb
    obtain ⟨m, rfl⟩ : ∃ k, m = k + 1 := ⟨m - 1, by omega⟩
    have e0 : A ++ ((b :: Br).reverse ++ c :: S) = (A ++ Br.reverse) ++ b :: c :: S := by simp
    have ej : IntKind.i64.wrap (((A.length + (b :: Br).length : Nat) : Int) - 1) = ((A.length + Br.length : Nat) : Int) := by rw [wrap_i64 (by simp only [List.length_cons]; omega) (by simp only [List.length_cons]; omega)]; simp only [List.length_cons]; omega
    have hlen : (A ++ Br.reverse).length = A.length + Br.length := by simp
    have g0 : lget ((A ++ Br.reverse) ++ b :: c :: S) ((A.length + Br.length : Nat) : Int) = some b := by
      rw [lget_nat, List.getElem?_append_right (by omega), hlen, Nat.sub_self]; rfl
    have g1 : lget ((A ++ Br.reverse) ++ b :: c :: S) ((A.length + (b :: Br).length : Nat) : Int) = some c := by
      rw [lget_nat, List.getElem?_append_right (by simp only [List.length_cons]; omega), hlen]
      have : A.length + (b :: Br).length - (A.length + Br.length) = 1 := by simp only [List.length_cons]; omega
      rw [this]; rfl
    have s1 : List.set ((A ++ Br.reverse) ++ b :: c :: S) (((A.length + (b :: Br).length : Nat) : Int)).toNat b = A ++ (Br.reverse ++ b :: b :: S) := by
      rw [Int.toNat_natCast, List.set_append_right _ _ (by simp only [List.length_cons]; omega), hlen]
      have : A.length + (b :: Br).length - (A.length + Br.length) = 1 := by simp only [List.length_cons]; omega
      rw [this]; simp
    rw [e0, F_r28_fields_l3, decide_eq_true (by simp only [List.length_cons]; omega), cond_true, ej, g0, Option.bind_some, g1, Option.bind_some, s1, F_r28_fields_l3_eq l1 i hi hi2 go A hA Br (b :: S) b m (by omega) (by omega)]
    simp
theorem F_r28_fields_l2_eq (l1 : List Action) (i : Nat) (hi : i < l1.length) (hi2 : l1.length ≤ 50) (go : List Action → Int → Option (List Action)) : ∀ (Ar B : List Action) (m : Nat), Ar.length < m → Ar.length + B.length ≤ 50 →
    F_r28_fields_l2 (Ar.reverse ++ B) l1 (i : Int) go m (Ar.length : Int) = go ((rins ltF l1[i] Ar).reverse ++ B) ((i + 1 : Nat) : Int)
  | [], B, m, hm, hb => by
    have hlim : lim = 4294967296 := rfl
    obtain ⟨m, rfl⟩ : ∃ k, m = k + 1 := ⟨m - 1, by simp at hm; omega⟩
    simp only [List.length_nil, Nat.zero_add] at hb
    rw [F_r28_fields_l2, show decide ((([] : List Action).length : Int) > 0) = false from rfl]
    simp only [opt_false, Option.bind_some, Bool.false_and, cond_false, List.reverse_nil, List.nil_append]
    rw [appd_ok (by simp; omega), Option.bind_some]
    have e1 : IntKind.i64.wrap (((B ++ [(⟨0, 0, 0, 0, 0, zOxm⟩ : Action)]).length : Int) - 1) = ((([] : List Action).length + B.reverse.length : Nat) : Int) := by rw [wrap_i64 (by simp <;> omega) (by simp <;> omega)]; simp
    have := F_r28_fields_l3_eq l1 i hi hi2 go [] (by simp) B.reverse [] (⟨0, 0, 0, 0, 0, zOxm⟩ : Action) ((((([] : List Action).length + B.reverse.length : Nat) : Int) - (([] : List Action).length : Int)).toNat + 1) (by simp <;> omega) (by simp <;> omega)
    simp only [List.nil_append, List.reverse_reverse, List.append_nil] at this
    rw [e1]
    refine Eq.trans this ?_
    simp [rins]
  | y :: Ar, B, m, hm, hb => by
    have hlim : lim = 4294967296 := rfl
    simp only [List.length_cons] at hm hb
    obtain ⟨m, rfl⟩ : ∃ k, m = k + 1 := ⟨m - 1, by omega⟩
    have ej : IntKind.i64.wrap (((y :: Ar).length : Int) - 1) = (Ar.length : Int) := by rw [wrap_i64 (by simp only [List.length_cons]; omega) (by simp only [List.length_cons]; omega)]; simp only [List.length_cons]; omega
    have e0 : (y :: Ar).reverse ++ B = Ar.reverse ++ y :: B := by simp
    have g0 : lget (Ar.reverse ++ y :: B) (Ar.length : Int) = some y := by
      rw [lget_nat, List.getElem?_append_right (by simp)]; simp
    rw [F_r28_fields_l2, decide_eq_true (by simp only [List.length_cons]; omega), opt_true, ej, e0, g0, Option.bind_some, opt_true, lget_lt hi, Option.bind_some, Bool.true_and, rins]
    show (bif ltF l1[i] y then _ else _) = _
    cases ltF l1[i] y
    · rw [cond_false, cond_false, appd_ok (by simp; omega), Option.bind_some]
      have e1 : IntKind.i64.wrap (((Ar.reverse ++ y :: B ++ [(⟨0, 0, 0, 0, 0, zOxm⟩ : Action)]).length : Int) - 1) = (((y :: Ar).reverse.length + B.reverse.length : Nat) : Int) := by rw [wrap_i64 (by simp; omega) (by simp; omega)]; simp; omega
      have := F_r28_fields_l3_eq l1 i hi hi2 go (y :: Ar).reverse (by simp; omega) B.reverse [] (⟨0, 0, 0, 0, 0, zOxm⟩ : Action) (((((y :: Ar).reverse.length + B.reverse.length : Nat) : Int) - ((y :: Ar).length : Int)).toNat + 1) (by simp; omega) (by simp; omega)
      simp only [List.reverse_reverse, List.append_nil] at this
      rw [e1]
      have e2 : Ar.reverse ++ y :: B ++ [(⟨0, 0, 0, 0, 0, zOxm⟩ : Action)] = (y :: Ar).reverse ++ (B ++ [(⟨0, 0, 0, 0, 0, zOxm⟩ : Action)]) := by simp
      have e3 : (((y :: Ar).length : Int)) = (((y :: Ar).reverse.length : Nat) : Int) := by simp
      rw [e2]
      rw [e3] at this ⊢
      refine Eq.trans this ?_
      simp
    · rw [cond_true, cond_true, F_r28_fields_l2_eq l1 i hi hi2 go Ar (y :: B) m (by omega) (by simp only [List.length_cons]; omega)]
      simp
theorem F_r28_fields_l1_eq (l : List Action) (hl : l.length ≤ 50) : ∀ (m i : Nat) (R : List Action), i ≤ l.length → l.length < i + m → R.length ≤ i → F_r28_fields_l1 l m R.reverse (i : Int) = some (((l.drop i).foldl (fun R x => rins ltF x R) R).reverse)
  | 0, i, R, h1, h2, _ => by omega
  | m + 1, i, R, h1, h2, h3 => by
    rw [F_r28_fields_l1]
    by_cases hi : i < l.length
    · have h4 := F_r28_fields_l2_eq l i hi hl (F_r28_fields_l1 l m) R [] fuel0 (by unfold fuel0; omega) (by simp; omega)
      rw [List.append_nil, List.append_nil] at h4
      have e : ((R.reverse).length : Int) = (R.length : Int) := by simp
      rw [decide_eq_true (by omega), cond_true, e, h4, F_r28_fields_l1_eq l hl m (i + 1) _ (by omega) (by omega) (by rw [rins_len]; omega), List.drop_eq_getElem_cons hi, List.foldl_cons]
    · rw [decide_eq_false (by omega), cond_false, List.drop_of_length_le (by omega)]; rfl
theorem F_r28_fields_eqR (l : List Action) (hl : l.length ≤ 50) : F_r28_fields l = some (srt ltF l) := by
  unfold F_r28_fields srt
  have := F_r28_fields_l1_eq l hl ((((l.length : Int) : Int) - 0).toNat + 1) 0 [] (by omega) (by omega) (by simp)
  rw [show ((0 : Nat) : Int) = 0 from rfl, List.drop_zero] at this
  exact this
theorem rins_pass {α : Type} (lt : α → α → Bool) (x : α) : ∀ P Q : List α, (∀ y ∈ P, lt x y = true) → rins lt x (P ++ Q) = P ++ rins lt x Q
  | [], Q, _ => rfl
  | y :: P, Q, h => by
    rw [List.cons_append, rins, h y (by simp), cond_true, rins_pass lt x P Q fun z hz => h z (by simp [hz])]; rfl
theorem rins_stop {α : Type} (lt : α → α → Bool) (x : α) : ∀ Q : List α, (∀ y ∈ Q, lt x y = false) → rins lt x Q = x :: Q
  | [], _ => rfl
  | y :: Q, h => by rw [rins, h y (by simp), cond_false]
theorem rins_part {α : Type} (lt lt' : α → α → Bool) (x : α) : ∀ P Q : List α, (∀ y ∈ P, lt x y = lt' x y) → (∀ y ∈ Q, lt x y = false) → rins lt x (P ++ Q) = rins lt' x P ++ Q
  | [], Q, _, hq => by rw [List.nil_append, rins_stop lt x Q hq]; rfl
  | y :: P, Q, hp, hq => by
    rw [List.cons_append, rins, rins, hp y (by simp)]
    cases lt' x y
    · rfl
    · rw [cond_true, cond_true, rins_part lt lt' x P Q (fun z hz => hp z (by simp [hz])) hq]; rfl
def tn (k : Int) : Int := if k = 18 then 0 else if k = 17 then 1 else if k = 25 then 2 else if k = 22 then 3 else if k = 0 then 4 else -1
theorem turnOf_eq (k : Int) : turnOf k = tn k := by
  unfold turnOf tn
  simp only [fidx]
  by_cases h1 : k = 18
  · subst h1; rfl
  · by_cases h2 : k = 17
    · subst h2; rfl
    · by_cases h3 : k = 25
      · subst h3; rfl
      · by_cases h4 : k = 22
        · subst h4; rfl
        · by_cases h5 : k = 0
          · subst h5; rfl
          · simp [h1, h2, h3, h4, h5]
theorem ltA_far (x y : Action) (k j : Int) (hx : x.Kind = k) (hy : y.Kind = j) (hk : -1 ≤ tn k ∧ tn k ≤ 4) (hj : -1 ≤ tn j ∧ tn j ≤ 4) (hne : tn k ≠ tn j) : ltA x y = decide (tn k < tn j) := by
  unfold ltA cmpA
  have e : decide (tn k - tn j ≠ 0) = true := decide_eq_true (by omega)
  rw [keyOf_kind, keyOf_kind, hx, hy, turnOf_eq, turnOf_eq, wrap_i64 (by omega) (by omega), e, cond_true, decide_eq_decide]
  omega
theorem ltA_same (x y : Action) (k : Int) (hx : x.Kind = k) (hy : y.Kind = k) (hk : k ≠ 25) : ltA x y = false := by
  unfold ltA cmpA
  rw [keyOf_kind, keyOf_kind, hx, hy, Int.sub_self, show IntKind.i64.wrap 0 = 0 by decide, show decide ((0 : Int) ≠ 0) = false from rfl, cond_false]
  have e1 : (keyOf x).field = 0 := by unfold keyOf; rw [decide_eq_false (by rw [hx]; exact hk)]; rfl
  have e2 : (keyOf y).field = 0 := by unfold keyOf; rw [decide_eq_false (by rw [hy]; exact hk)]; rfl
  rw [e1, e2]; rfl
theorem ltA_set (x y : Action) (hx : x.Kind = 25) (hy : y.Kind = 25) : ltA x y = ltF x y := by
  unfold ltA cmpA ltF
  rw [keyOf_kind, keyOf_kind, hx, hy, Int.sub_self, show IntKind.i64.wrap 0 = 0 by decide, show decide ((0 : Int) ≠ 0) = false from rfl, cond_false]
  have e1 : (keyOf x).field = x.Oxm.Field := by unfold keyOf; rw [decide_eq_true hx]; rfl
  have e2 : (keyOf y).field = y.Oxm.Field := by unfold keyOf; rw [decide_eq_true hy]; rfl
  rw [e1, e2]
  by_cases h : x.Oxm.Field < y.Oxm.Field
  · rw [decide_eq_true h, cond_true]; rfl
  · rw [decide_eq_false h, cond_false]
    cases decide (x.Oxm.Field > y.Oxm.Field) <;> rfl
theorem fold_cls : ∀ (l E D C B A : List Action), (∀ y ∈ E, y.Kind = 0) → (∀ y ∈ D, y.Kind = 22) → (∀ y ∈ C, y.Kind = 25) → (∀ y ∈ B, y.Kind = 17) → (∀ y ∈ A, y.Kind = 18) → (∀ y ∈ l, 0 ≤ tn y.Kind) →
    l.foldl (fun R x => rins ltA x R) (E ++ (D ++ (C ++ (B ++ A)))) = (cls 0 l).reverse ++ E ++ ((cls 22 l).reverse ++ D ++ ((cls 25 l).foldl (fun R x => rins ltF x R) C ++ ((cls 17 l).reverse ++ B ++ ((cls 18 l).reverse ++ A))))
  | [], E, D, C, B, A, _, _, _, _, _, _ => by simp [cls]
  | x :: l, E, D, C, B, A, hE, hD, hC, hB, hA, hl => by
    have hx := hl x (by simp)
    have hl' : ∀ y ∈ l, 0 ≤ tn y.Kind := fun y hy => hl y (by simp [hy])
    have rk : ∀ k : Int, -1 ≤ tn k ∧ tn k ≤ 4 := fun k => by unfold tn; split <;> (try split) <;> (try split) <;> (try split) <;> (try split) <;> omega
    have far : ∀ (y : Action) (k j : Int), x.Kind = k → y.Kind = j → tn k ≠ tn j → ltA x y = decide (tn k < tn j) := fun y k j h1 h2 h3 => ltA_far x y k j h1 h2 (rk k) (rk j) h3
    rw [List.foldl_cons]
    have hxk : x.Kind = 18 ∨ x.Kind = 17 ∨ x.Kind = 25 ∨ x.Kind = 22 ∨ x.Kind = 0 := by
      unfold tn at hx
      by_cases h1 : x.Kind = 18
      · exact .inl h1
      · by_cases h2 : x.Kind = 17
        · exact .inr (.inl h2)
        · by_cases h3 : x.Kind = 25
          · exact .inr (.inr (.inl h3))
          · by_cases h4 : x.Kind = 22
            · exact .inr (.inr (.inr (.inl h4)))
            · by_cases h5 : x.Kind = 0
              · exact .inr (.inr (.inr (.inr h5)))
              · simp [h1, h2, h3, h4, h5] at hx
    have c1 : ∀ k, x.Kind = k → cls k (x :: l) = x :: cls k l := fun k h => by unfold cls; rw [List.filter_cons_of_pos (by simp [h])]
    have c0 : ∀ k, x.Kind ≠ k → cls k (x :: l) = cls k l := fun k h => by unfold cls; rw [List.filter_cons_of_neg (by simp [h])]
    rcases hxk with h | h | h | h | h
    · rw [rins_pass ltA x E _ fun y hy => (far y 18 0 h (hE y hy) (by decide)).trans rfl, rins_pass ltA x D _ fun y hy => (far y 18 22 h (hD y hy) (by decide)).trans rfl, rins_pass ltA x C _ fun y hy => (far y 18 25 h (hC y hy) (by decide)).trans rfl, rins_pass ltA x B _ fun y hy => (far y 18 17 h (hB y hy) (by decide)).trans rfl, rins_stop ltA x A fun y hy => ltA_same x y 18 h (hA y hy) (by decide),
        fold_cls l E D C B (x :: A) hE hD hC hB (fun y hy => by rcases List.mem_cons.1 hy with rfl | hy; exact h; exact hA y hy) hl', c1 18 h, c0 17 (by rw [h]; decide), c0 25 (by rw [h]; decide), c0 22 (by rw [h]; decide), c0 0 (by rw [h]; decide)]
      simp
    · rw [rins_pass ltA x E _ fun y hy => (far y 17 0 h (hE y hy) (by decide)).trans rfl, rins_pass ltA x D _ fun y hy => (far y 17 22 h (hD y hy) (by decide)).trans rfl, rins_pass ltA x C _ fun y hy => (far y 17 25 h (hC y hy) (by decide)).trans rfl, rins_stop ltA x (B ++ A) fun y hy => (by
        rcases List.mem_append.1 hy with hy | hy
        · exact ltA_same x y 17 h (hB y hy) (by decide)
        · exact (far y 17 18 h (hA y hy) (by decide)).trans rfl)]
      have := fold_cls l E D C (x :: B) A hE hD hC (fun y hy => by rcases List.mem_cons.1 hy with rfl | hy; exact h; exact hB y hy) hA hl'
      rw [List.cons_append] at this
      rw [this, c1 17 h, c0 18 (by rw [h]; decide), c0 25 (by rw [h]; decide), c0 22 (by rw [h]; decide), c0 0 (by rw [h]; decide)]
      simp
    · rw [rins_pass ltA x E _ fun y hy => (far y 25 0 h (hE y hy) (by decide)).trans rfl, rins_pass ltA x D _ fun y hy => (far y 25 22 h (hD y hy) (by decide)).trans rfl, rins_part ltA ltF x C (B ++ A) (fun y hy => ltA_set x y h (hC y hy)) (fun y hy => (by
        rcases List.mem_append.1 hy with hy | hy
        · exact (far y 25 17 h (hB y hy) (by decide)).trans rfl
        · exact (far y 25 18 h (hA y hy) (by decide)).trans rfl)),
        fold_cls l E D (rins ltF x C) B A hE hD (fun y hy => by rcases List.mem_cons.1 ((rins_perm ltF x C).mem_iff.1 hy) with rfl | hy; exact h; exact hC y hy) hB hA hl', c1 25 h, c0 18 (by rw [h]; decide), c0 17 (by rw [h]; decide), c0 22 (by rw [h]; decide), c0 0 (by rw [h]; decide)]
      rw [List.foldl_cons]
    · rw [rins_pass ltA x E _ fun y hy => (far y 22 0 h (hE y hy) (by decide)).trans rfl, rins_stop ltA x (D ++ (C ++ (B ++ A))) fun y hy => (by
        rcases List.mem_append.1 hy with hy | hy
        · exact ltA_same x y 22 h (hD y hy) (by decide)
        · rcases List.mem_append.1 hy with hy | hy
          · exact (far y 22 25 h (hC y hy) (by decide)).trans rfl
          · rcases List.mem_append.1 hy with hy | hy
            · exact (far y 22 17 h (hB y hy) (by decide)).trans rfl
            · exact (far y 22 18 h (hA y hy) (by decide)).trans rfl)]
      have := fold_cls l E (x :: D) C B A hE (fun y hy => by rcases List.mem_cons.1 hy with rfl | hy; exact h; exact hD y hy) hC hB hA hl'
      rw [List.cons_append] at this
      rw [this, c1 22 h, c0 18 (by rw [h]; decide), c0 17 (by rw [h]; decide), c0 25 (by rw [h]; decide), c0 0 (by rw [h]; decide)]
      simp
    · rw [rins_stop ltA x (E ++ (D ++ (C ++ (B ++ A)))) fun y hy => (by
        rcases List.mem_append.1 hy with hy | hy
        · exact ltA_same x y 0 h (hE y hy) (by decide)
        · rcases List.mem_append.1 hy with hy | hy
          · exact (far y 0 22 h (hD y hy) (by decide)).trans rfl
          · rcases List.mem_append.1 hy with hy | hy
            · exact (far y 0 25 h (hC y hy) (by decide)).trans rfl
            · rcases List.mem_append.1 hy with hy | hy
              · exact (far y 0 17 h (hB y hy) (by decide)).trans rfl
              · exact (far y 0 18 h (hA y hy) (by decide)).trans rfl)]
      have := fold_cls l (x :: E) D C B A (fun y hy => by rcases List.mem_cons.1 hy with rfl | hy; exact h; exact hE y hy) hD hC hB hA hl'
      rw [List.cons_append] at this
      rw [this, c1 0 h, c0 18 (by rw [h]; decide), c0 17 (by rw [h]; decide), c0 25 (by rw [h]; decide), c0 22 (by rw [h]; decide)]
      simp
theorem srt_cls (l : List Action) (h : ∀ y ∈ l, 0 ≤ tn y.Kind) : srt ltA l = cls 18 l ++ (cls 17 l ++ (srt ltF (cls 25 l) ++ (cls 22 l ++ cls 0 l))) := by
  unfold srt
  have := fold_cls l [] [] [] [] [] (by simp) (by simp) (by simp) (by simp) (by simp) h
  simp only [List.nil_append, List.append_nil] at this
  rw [this]
  simp
theorem cls_filter (k : Int) (p : Action → Bool) (l : List Action) (h : ∀ a, a.Kind = k → p a = true) : cls k (l.filter p) = cls k l := by
  unfold cls
  rw [List.filter_filter]
  apply List.filter_congr
  intro a _
  by_cases hk : a.Kind = k
  · simp [hk, h a hk]
  · simp [hk]
theorem cls_none (k : Int) (p : Action → Bool) (l : List Action) (h : ∀ a, a.Kind = k → p a = false) : cls k (l.filter p) = [] := by
  unfold cls
  rw [List.filter_filter, List.filter_eq_nil_iff]
  intro a _
  by_cases hk : a.Kind = k
  · simp [hk, h a hk]
  · simp [hk]
theorem F_r28_List_eqR (s : List Action) (h : s.length ≤ 50) : F_r28_List s = some (lstA s) := by
  have hlim : lim = 4294967296 := rfl
  have lc : ∀ k, (cls k s).length ≤ 50 := fun k => Nat.le_trans (List.length_filter_le ..) (by omega)
  have l18 := lc 18
  have l17 := lc 17
  have l25 := lc 25
  have l22 := lc 22
  have l0 := lc 0
  have ls : (srt ltF (cls 25 s)).length ≤ 50 := by rw [(srt_perm _ _).length_eq]; exact l25
  unfold F_r28_List lstA
  rw [F_r28_of_eq s 18 (by omega), Option.bind_some, F_r28_of_eq s 17 (by omega), Option.bind_some, appd_ok (by omega), Option.bind_some, F_r28_of_eq s 25 (by omega), Option.bind_some, F_r28_fields_eqR _ (by omega), Option.bind_some, appd_ok (by rw [List.length_append]; omega), Option.bind_some, F_r28_of_eq s 22 (by omega), Option.bind_some]
  have hk : ∀ (b : Bool) (a : Action), keepA b a = true → 0 ≤ tn a.Kind := fun b a ha => by
    unfold keepA at ha
    rw [turnOf_eq] at ha
    simp only [Bool.not_eq_true', Bool.or_eq_false_iff, decide_eq_false_iff_not] at ha
    omega
  have kp : ∀ (b : Bool) (k : Int), 0 ≤ tn k → k ≠ 0 → ∀ a : Action, a.Kind = k → keepA b a = true := fun b k hk h0 a ha => by
    unfold keepA
    rw [turnOf_eq, ha, decide_eq_false (by omega), decide_eq_false h0]; simp
  have hany : (s.any fun a => decide (a.Kind = 22)) = decide (((cls 22 s).length : Int) > 0) := by
    rw [Bool.eq_iff_iff, List.any_eq_true, decide_eq_true_eq]
    constructor
    · rintro ⟨a, ha, hk⟩
      have : a ∈ cls 22 s := List.mem_filter.2 ⟨ha, hk⟩
      have := List.length_pos_of_mem this
      omega
    · intro hp
      obtain ⟨a, ha⟩ := List.exists_mem_of_length_pos (show 0 < (cls 22 s).length by omega)
      have := List.mem_filter.1 ha
      exact ⟨a, this.1, this.2⟩
  rw [srt_cls _ (fun y hy => hk _ y (List.mem_filter.1 hy).2), cls_filter 18 _ _ (kp _ 18 (by decide) (by decide)), cls_filter 17 _ _ (kp _ 17 (by decide) (by decide)), cls_filter 25 _ _ (kp _ 25 (by decide) (by decide)), cls_filter 22 _ _ (kp _ 22 (by decide) (by decide)), hany]
  cases hg : decide (((cls 22 s).length : Int) > 0)
  · have e22 : cls 22 s = [] := List.eq_nil_of_length_eq_zero (by rw [decide_eq_false_iff_not] at hg; omega)
    have e0 : cls 0 (s.filter (keepA false)) = cls 0 s := cls_filter 0 _ _ fun a ha => by
      unfold keepA
      rw [turnOf_eq, ha]; rfl
    rw [cond_false, F_r28_of_eq s 0 (by omega), Option.bind_some, appd_ok (by simp only [List.length_append]; omega), Option.bind_some, e22, e0]
    simp
  · have e0 : cls 0 (s.filter (keepA true)) = [] := cls_none 0 _ _ fun a ha => by
      unfold keepA
      rw [ha]; simp
    rw [cond_true, appd_ok (by simp only [List.length_append]; omega), Option.bind_some, e0]
    simp
end Go.Proofs.YtknpgojdkobgjaaGreat.W
set_option linter.unusedVariables false
set_option linter.unusedSimpArgs false
namespace Go.Proofs.YtknpgojdkobgjaaGreat.W
open Go Go.Wb
end Go.Proofs.YtknpgojdkobgjaaGreat.W
set_option linter.unusedVariables false
set_option linter.unusedSimpArgs false
namespace Go.Proofs.YtknpgojdkobgjaaGreat.W
open Go Go.Wb
theorem F_r32_Do_l1_eq (acts : List Action) (ha : acts.length ≤ 1000) : ∀ (m i : Nat) (r : Cube) (o : List Atom), i ≤ acts.length → acts.length < i + m → o.length ≤ i → F_r32_Do_l1 acts m r o (i : Int) = some (o ++ (doT (acts.drop i) r).1, (doT (acts.drop i) r).2)
  | 0, i, r, o, h1, h2, _ => by omega
  | m + 1, i, r, o, h1, h2, hb => by
    have hlim : lim = 4294967296 := rfl
    rw [F_r32_Do_l1]
    by_cases hi : i < acts.length
    · rw [decide_eq_true (by omega), cond_true, lget_lt hi, Option.bind_some, List.drop_eq_getElem_cons hi, doT]
      unfold loud atomOf mostOf
      by_cases h0 : acts[i].Kind = 0
      · have hj : ∀ x : Atom, F_r32_Do_j2 o (F_r32_Do_l1 acts m) r (i : Int) x = some (o ++ x :: (doT (acts.drop (i + 1)) r).1, (doT (acts.drop (i + 1)) r).2) := fun x => by
          unfold F_r32_Do_j2
          rw [appd_ok (by simp only [List.length_cons, List.length_nil]; omega), Option.bind_some, inc i (by omega), F_r32_Do_l1_eq acts ha m (i + 1) r _ (by omega) (by omega) (by simp only [List.length_append, List.length_cons, List.length_nil]; omega)]
          simp
        rw [decide_eq_true h0]
        simp only [cond_true, Option.bind_some, Bool.true_or]
        cases hp : decide (acts[i].Port = 4294967293)
        · simp only [hp, cond_false]
          rw [hj]
        · simp only [hp, cond_true]
          rw [hj]
      · rw [decide_eq_false h0]
        simp only [cond_false, Option.bind_some, Bool.false_or]
        by_cases h4 : acts[i].Kind = 22
        · rw [decide_eq_true h4]
          simp only [cond_true, Option.bind_some]
          rw [appd_ok (by simp only [List.length_cons, List.length_nil]; omega), Option.bind_some, inc i (by omega), F_r32_Do_l1_eq acts ha m (i + 1) r _ (by omega) (by omega) (by simp only [List.length_append, List.length_cons, List.length_nil]; omega)]
          simp
        · rw [decide_eq_false h4]
          simp only [cond_false, Option.bind_some]
          rw [F_r28_Rewrite_eqR, Option.bind_some, F_r09_Then_eq, Option.bind_some, inc i (by omega), F_r32_Do_l1_eq acts ha m (i + 1) _ o (by omega) (by omega) (by omega)]
    · rw [decide_eq_false (by omega), cond_false, List.drop_of_length_le (by omega)]; simp [doT]
theorem F_r32_Do_eqR (acts : List Action) (r : Cube) (ha : acts.length ≤ 1000) : F_r32_Do acts r = some (doT acts (cclean r)) := by
  unfold F_r32_Do
  rw [F_r09_Clean_eq, Option.bind_some]
  have := F_r32_Do_l1_eq acts ha ((((acts.length : Int) : Int) - 0).toNat + 1) 0 (cclean r) [] (by omega) (by omega) (by simp)
  rw [show ((0 : Nat) : Int) = 0 from rfl] at this
  rw [this]; simp
end Go.Proofs.YtknpgojdkobgjaaGreat.W
set_option linter.unusedVariables false
set_option linter.unusedSimpArgs false
namespace Go.Proofs.YtknpgojdkobgjaaGreat.W
open Go Go.Wb
def acl (x : Atom) : Atom := { x with Rewrite := cclean x.Rewrite }
theorem sameStepN (x y : Atom) (K : Option Bool) : ((opt (!(!(x.Group == y.Group))) (some x)).bind fun e8 => (opt (!(!(x.Group == y.Group))) (some y)).bind fun e9 => (opt (!((!(x.Group == y.Group)) || (decide (e8.Port ≠ e9.Port)))) (some x)).bind fun e10 => (opt (!((!(x.Group == y.Group)) || (decide (e8.Port ≠ e9.Port)))) (some y)).bind fun e11 => (opt (!(((!(x.Group == y.Group)) || (decide (e8.Port ≠ e9.Port))) || (decide (e10.Max ≠ e11.Max)))) (some x)).bind fun e12 => (opt (!(((!(x.Group == y.Group)) || (decide (e8.Port ≠ e9.Port))) || (decide (e10.Max ≠ e11.Max)))) (F_r09_Clean e12.Rewrite)).bind fun x13 => (opt (!(((!(x.Group == y.Group)) || (decide (e8.Port ≠ e9.Port))) || (decide (e10.Max ≠ e11.Max)))) (some y)).bind fun e14 => (opt (!(((!(x.Group == y.Group)) || (decide (e8.Port ≠ e9.Port))) || (decide (e10.Max ≠ e11.Max)))) (F_r09_Clean e14.Rewrite)).bind fun x15 => (bif ((((!(x.Group == y.Group)) || (decide (e8.Port ≠ e9.Port))) || (decide (e10.Max ≠ e11.Max))) || (decide (x13 ≠ x15))) then some false else K)) = bif decide (acl x = acl y) then K else some false := by
  cases x; cases y; rename_i r g p m r' g' p' m'
  unfold acl
  simp only [F_r09_Clean_eq]
  by_cases hg : g = g'
  · by_cases hp : p = p'
    · by_cases hm : m = m'
      · by_cases hq : cclean r = cclean r'
        · simp [opt, hg, hp, hm, hq]
        · simp [opt, hg, hp, hm, hq]
      · simp [opt, hg, hp, hm]
    · simp [opt, hg, hp]
  · have hg' : (g == g') = false := by simp [hg]
    simp [opt, hg, hg']
theorem F_r32_Same_l1_eq (a b : List Atom) (hl : a.length = b.length) (hs : a.length ≤ 1000000) : ∀ (m i : Nat), i ≤ a.length → a.length < i + m → F_r32_Same_l1 a b m (i : Int) = some (decide ((a.drop i).map acl = (b.drop i).map acl))
  | 0, i, h1, h2 => by omega
  | m + 1, i, h1, h2 => by
    rw [F_r32_Same_l1]
    by_cases hi : i < a.length
    · have hb : i < b.length := by omega
      rw [decide_eq_true (by omega), cond_true, lget_lt hi, Option.bind_some, lget_lt hb, Option.bind_some, sameStepN, inc i (by omega), F_r32_Same_l1_eq a b hl hs m (i + 1) (by omega) (by omega), List.drop_eq_getElem_cons hi, List.drop_eq_getElem_cons hb, List.map_cons, List.map_cons]
      generalize acl a[i] = x
      generalize acl b[i] = y
      generalize List.map acl (a.drop (i + 1)) = l
      generalize List.map acl (b.drop (i + 1)) = l'
      by_cases he : x = y
      · simp [he]
      · simp [he]
    · rw [decide_eq_false (by omega), cond_false, List.drop_of_length_le (by omega), List.drop_of_length_le (by omega)]
      rfl
theorem F_r32_Same_eq (a b : List Atom) (hs : a.length ≤ 1000000) : F_r32_Same a b = some (decide (a.map acl = b.map acl)) := by
  unfold F_r32_Same
  by_cases hl : a.length = b.length
  · have := F_r32_Same_l1_eq a b hl hs ((((a.length : Int) : Int) - 0).toNat + 1) 0 (by omega) (by omega)
    rw [decide_eq_false (by omega), cond_false]
    exact this
  · rw [decide_eq_true (by omega), cond_true]
    have : a.map acl ≠ b.map acl := fun e => hl (by have := congrArg List.length e; simpa using this)
    simp [this]
end Go.Proofs.YtknpgojdkobgjaaGreat.W
set_option linter.unusedVariables false
set_option linter.unusedSimpArgs false
namespace Go.Proofs.YtknpgojdkobgjaaGreat.W
open Go Go.Wb
end Go.Proofs.YtknpgojdkobgjaaGreat.W
set_option linter.unusedVariables false
set_option linter.unusedSimpArgs false
namespace Go.Proofs.YtknpgojdkobgjaaGreat.W
open Go Go.Wb
theorem F_r02_Xor_eq (a b : Wide) : F_r02_Xor a b = some (wxor a b) := rfl
theorem F_r02_Zero_eq (a : Wide) : F_r02_Zero a = some (wzero a) := by
  unfold F_r02_Zero
  congr 1
  rw [wzero_eq, Bool.eq_iff_iff]
  obtain ⟨h, l⟩ := a
  simp [zWide]
end Go.Proofs.YtknpgojdkobgjaaGreat.W
set_option linter.unusedVariables false
set_option linter.unusedSimpArgs false
namespace Go.Proofs.YtknpgojdkobgjaaGreat.W
open Go Go.Wb
theorem F_r05_Clean_eq (t : Tern) : F_r05_Clean t = some (tclean t) := rfl
theorem F_cube_each_l1_eq (f : Int → Option (Tern × Bool)) (g : Nat → Tern) (hf : ∀ i : Nat, i < 24 → f (i : Int) = some (g i, true)) (b : Cube) : ∀ (m i : Nat), i + m = 24 → F_cube_each_l1 f m i (upto g b i) = some (Vector.ofFn (fun i => g i.1), true)
  | 0, i, h => by
    have : i = 24 := by omega
    subst this
    rw [F_cube_each_l1, upto_all]
  | m + 1, i, h => by
    rw [F_cube_each_l1, hf i (by omega), Option.bind_some, Bool.not_true, cond_false, chk_nat (by omega), Option.bind_some]
    show F_cube_each_l1 f m (i + 1) (Vector.set (upto g b i) i (g i) _) = _
    rw [upto_set g b i (by omega), F_cube_each_l1_eq f g hf b m (i + 1) (by omega)]
theorem F_cube_Clean_eq (c : Cube) : F_cube_Clean c = some (cclean c) := by
  unfold F_cube_Clean F_cube_each
  have := F_cube_each_l1_eq (fun x => F_cube_Clean_1 x c) (fun i => tclean (ve c i)) (fun i hi => by unfold F_cube_Clean_1; rw [chk_nat hi, Option.bind_some, vget_eq, F_tern_Clean_eq]; rfl) (Vector.replicate 24 zTern) 24 0 rfl
  rw [upto_zero] at this
  rw [show ((24 : Int)).toNat = 24 from rfl, this]
  rfl
theorem F_r06_Clean_l1_eq (c : Cube) : ∀ (m i : Nat), i ≤ 24 → 24 < i + m → F_r06_Clean_l1 m (upto (fun i => tclean (ve c i)) c i) (i : Int) = some (cclean c)
  | 0, i, h1, h2 => by omega
  | m + 1, i, h1, h2 => by
    rw [F_r06_Clean_l1]
    by_cases h : i < 24
    · have e : IntKind.i64.wrap ((i : Int) + 1) = ((i + 1 : Nat) : Int) := by rw [wrap_i64 (by omega) (by omega)]; omega
      rw [decide_eq_true (by omega), cond_true, chk_nat h, Option.bind_some, F_r05_Clean_eq, Option.bind_some, Option.bind_some, vget_eq, ve_upto _ _ _ _ h, if_neg (by omega), e]
      show F_r06_Clean_l1 m (Vector.set (upto (fun i => tclean (ve c i)) c i) i (tclean (ve c i)) _) _ = _
      rw [upto_set (fun i => tclean (ve c i)) c i h, F_r06_Clean_l1_eq c m (i + 1) (by omega) (by omega)]
    · have : i = 24 := by omega
      subst this
      rw [decide_eq_false (by omega), cond_false, upto_all]; rfl
theorem F_r06_Clean_eq (c : Cube) : F_r06_Clean c = some (cclean c) := by
  unfold F_r06_Clean
  have := F_r06_Clean_l1_eq c (((24 : Int) - 0).toNat + 1) 0 (by omega) (by decide)
  rw [upto_zero] at this
  exact this
def bad2 (x y : Tern) : Bool := !wzero (wand (wand x.Mask y.Mask) (wxor x.Value y.Value))
def apart (a b : Atom) : Bool := !(a.Group == b.Group) || decide (a.Port ≠ b.Port) || decide (a.Max ≠ b.Max) || (List.range' 0 24).any fun f => bad2 (ve a.Rewrite f) (ve b.Rewrite f)
def fixT (t : Tern) (i : Nat) (on : Bool) : Tern := bif on then ⟨wor (wless (tclean t).Value (wbit i)) (wbit i), wor (tclean t).Mask (wbit i)⟩ else ⟨wless (tclean t).Value (wbit i), wor (tclean t).Mask (wbit i)⟩
def partOf (c : Cube) (f bit : Nat) (on : Bool) : Option Cube :=
  bif wt (ve c f).Mask bit && (wt (ve c f).Value bit == on) then none else some (Vector.ofFn fun k => if f = k.1 then fixT (ve c f) bit (!on) else ve c k.1)
def sgl (x y : Tern) (k : Nat) : Bool × Bool := bif wt x.Mask k == wt y.Mask k then (false, false) else (true, bif wt x.Mask k then wt x.Value k else wt y.Value k)
def rp (c : Cube) (x y : Tern) (f k : Nat) : Option Cube := bif (sgl x y k).1 then partOf c f k (sgl x y k).2 else none
end Go.Proofs.YtknpgojdkobgjaaGreat.W
set_option linter.unusedVariables false
set_option linter.unusedSimpArgs false
namespace Go.Proofs.YtknpgojdkobgjaaGreat.W
open Go Go.Wb
theorem turn_bd (k : Int) : -1 ≤ turnOf k ∧ turnOf k ≤ 4 := by
  unfold turnOf
  have h1 := fidx_ge (fun x => decide (k = x)) [18, 17, 25, 22, 0]
  have h2 := fidx_lt (fun x => decide (k = x)) [18, 17, 25, 22, 0]
  simp only [List.length_cons, List.length_nil] at h2
  omega
theorem ltA_iff (a b : Action) : ltA a b = decide (turnOf (keyOf a).kind < turnOf (keyOf b).kind ∨ (turnOf (keyOf a).kind = turnOf (keyOf b).kind ∧ (keyOf a).field < (keyOf b).field)) := by
  have h1 := turn_bd (keyOf a).kind
  have h2 := turn_bd (keyOf b).kind
  unfold ltA cmpA
  rw [wr (by omega) (by omega)]
  generalize turnOf (keyOf a).kind = x at *
  generalize turnOf (keyOf b).kind = y at *
  generalize (keyOf a).field = f at *
  generalize (keyOf b).field = g at *
  by_cases e : x - y = 0
  · have e1 : decide (x - y ≠ 0) = false := decide_eq_false (by omega)
    rw [e1, cond_false]
    by_cases h3 : f < g
    · have e2 : decide (f < g) = true := decide_eq_true h3
      rw [e2, cond_true]
      simp; omega
    · have e2 : decide (f < g) = false := decide_eq_false h3
      rw [e2, cond_false]
      by_cases h4 : f > g
      · have e3 : decide (f > g) = true := decide_eq_true h4
        rw [e3, cond_true]
        simp; omega
      · have e3 : decide (f > g) = false := decide_eq_false h4
        rw [e3, cond_false]
        simp; omega
  · have e1 : decide (x - y ≠ 0) = true := decide_eq_true (by omega)
    rw [e1, cond_true, decide_eq_decide]
    omega
theorem ltA_swo : Swo ltA where
  asym := fun a b h => by
    rw [ltA_iff, decide_eq_true_eq] at h
    rw [ltA_iff, decide_eq_false_iff_not]
    omega
  neg := fun a b c h k => by
    rw [ltA_iff, decide_eq_false_iff_not] at h k
    rw [ltA_iff, decide_eq_false_iff_not]
    omega
theorem ltA_tells : Tells ltA F_aset_List_3 := fun x y => ⟨cmpA x y, F_aset_List_3_eq x y, rfl⟩
theorem F_aset_List_eqL (s : List Action) (h : s.length ≤ 100000) : F_aset_List s = some (lstA s) := by
  have hlim : lim = 4294967296 := rfl
  unfold F_aset_List F_slices_Clone_Action lstA
  rw [F_slices_ContainsFunc_Action_eq s F_aset_List_1 (fun a => decide (a.Kind = 22)) (fun _ _ => rfl), Option.bind_some, appd_ok (by simp; omega), Option.bind_some, List.nil_append]
  have hf : ∀ a : Action, F_aset_List_2 a (s.any fun a => decide (a.Kind = 22)) = some (!keepA (s.any fun a => decide (a.Kind = 22)) a) := fun a => by
    unfold F_aset_List_2 keepA
    rw [F_aset_turn_eq, Option.bind_some, Bool.not_not]
  rw [F_slices_DeleteFunc_Action_eq s _ (fun a => !keepA (s.any fun a => decide (a.Kind = 22)) a) (fun a _ => hf a) (by omega), Option.bind_some]
  simp only [Bool.not_not]
  rw [stable_eq ltA_swo ltA_tells _ (Nat.le_trans (List.length_filter_le ..) h)]
  rfl
theorem lstA_len (s : List Action) : (lstA s).length ≤ s.length := by
  unfold lstA
  rw [srt_len ltA_swo]
  exact List.length_filter_le ..
def tmeet (a b : Tern) : Option Tern := bif wzero (wand (wxor a.Value b.Value) (wand a.Mask b.Mask)) then some ⟨wor (tclean a).Value (tclean b).Value, wor a.Mask b.Mask⟩ else none
def optP {α : Type} (z : α) : Option α → α × Bool
  | some a => (a, true)
  | none => (z, false)
theorem F_tern_Meet_eq (a b : Tern) : F_tern_Meet a b = some (optP zTern (tmeet a b)) := by
  have h : F_tern_Meet a b = bif !(wzero (wand (wxor a.Value b.Value) (wand a.Mask b.Mask))) then some (zTern, false) else some (⟨wor (tclean a).Value (tclean b).Value, wor a.Mask b.Mask⟩, true) := rfl
  rw [h]
  unfold tmeet
  cases wzero (wand (wxor a.Value b.Value) (wand a.Mask b.Mask)) <;> rfl
def ceach (g : Nat → Option Tern) : Option Cube := bif (List.range 24).all (fun i => (g i).isSome) then some (Vector.ofFn fun i => (g i.1).getD zTern) else none
theorem ceach_some {g : Nat → Option Tern} {c : Cube} (h : ceach g = some c) (i : Nat) (hi : i < 24) : g i = some (ve c i) := by
  unfold ceach at h
  cases ha : (List.range 24).all (fun i => (g i).isSome)
  · rw [ha] at h; cases h
  · rw [ha, cond_true] at h
    rw [List.all_eq_true] at ha
    have h1 := ha i (by simpa using hi)
    obtain ⟨x, hx⟩ := Option.isSome_iff_exists.1 h1
    rw [← Option.some.inj h, ve_ofFn (fun i => (g i).getD zTern) i hi, hx]; rfl
theorem ceach_none {g : Nat → Option Tern} (h : ceach g = none) : ∃ i, i < 24 ∧ g i = none := by
  unfold ceach at h
  cases ha : (List.range 24).all (fun i => (g i).isSome)
  · rw [List.all_eq_false] at ha
    obtain ⟨i, hi, h1⟩ := ha
    exact ⟨i, by simpa using hi, by simpa using h1⟩
  · rw [ha] at h; cases h
theorem ceach_of {g : Nat → Option Tern} {c : Cube} (h : ∀ i, i < 24 → g i = some (ve c i)) : ceach g = some c := by
  cases hc : ceach g with
  | none => obtain ⟨i, hi, h1⟩ := ceach_none hc; rw [h i hi] at h1; cases h1
  | some d =>
    congr 1
    refine ve_ext fun i hi => ?_
    have := ceach_some hc i hi
    rw [h i hi] at this
    exact (Option.some.inj this).symm
theorem ceach_none_of {g : Nat → Option Tern} (i : Nat) (hi : i < 24) (h : g i = none) : ceach g = none := by
  cases hc : ceach g with
  | none => rfl
  | some c => have := ceach_some hc i hi; rw [h] at this; cases this
theorem F_cube_each_l1_eqP (f : Int → Option (Tern × Bool)) (g : Nat → Option Tern) (hf : ∀ i : Nat, i < 24 → f (i : Int) = some (optP zTern (g i))) : ∀ (m i : Nat) (b : Cube), i + m = 24 → (∀ j, j < i → g j = some (ve b j)) →
    F_cube_each_l1 f m i b = some (optP none24 (ceach g))
  | 0, i, b, h, hb => by
    rw [F_cube_each_l1, ceach_of (c := b) (fun j hj => hb j (by omega))]; rfl
  | m + 1, i, b, h, hb => by
    rw [F_cube_each_l1, hf i (by omega), Option.bind_some]
    cases hg : g i with
    | none =>
      rw [ceach_none_of i (by omega) hg]; rfl
    | some t =>
      show (chk 24 (i : Int)).bind _ = _
      rw [chk_nat (by omega), Option.bind_some]
      refine F_cube_each_l1_eqP f g hf m (i + 1) _ (by omega) fun j hj => ?_
      rw [ve_set _ _ _ _ _ (by omega)]
      by_cases e : i = j
      · subst e; rw [if_pos rfl, hg]; rfl
      · rw [if_neg e]; exact hb j (by omega)
theorem F_cube_each_eqP (f : Int → Option (Tern × Bool)) (g : Nat → Option Tern) (hf : ∀ i : Nat, i < 24 → f (i : Int) = some (optP zTern (g i))) : F_cube_each f = some (optP none24 (ceach g)) := by
  unfold F_cube_each
  exact F_cube_each_l1_eqP f g hf 24 0 _ rfl fun j hj => by omega
def cmeet (a b : Cube) : Option Cube := ceach fun i => tmeet (ve a i) (ve b i)
theorem F_cube_Meet_eq (a b : Cube) : F_cube_Meet a b = some (optP none24 (cmeet a b)) := by
  unfold F_cube_Meet
  rw [F_cube_each_eqP _ (fun i => tmeet (ve a i) (ve b i)) (fun i hi => by unfold F_cube_Meet_1; rw [chk_nat hi, Option.bind_some, Option.bind_some, vget_eq, vget_eq, F_tern_Meet_eq]; rfl)]
  rfl
def cbefore (r c : Cube) : Option Cube := bif (List.range 24).all (fun i => (tmeet (ve r i) (ve c i)).isSome) then some (Vector.ofFn fun i => tclean ⟨(ve c i.1).Value, wless (ve c i.1).Mask (ve r i.1).Mask⟩) else none
theorem F_rewrite_each_Cube_l1_eq (f : Int → Option Tern) (g : Nat → Tern) (hf : ∀ i : Nat, i < 24 → f (i : Int) = some (g i)) (b : Cube) : ∀ (m i : Nat), i + m = 24 → F_rewrite_each_Cube_l1 f m i (upto g b i) = some (Vector.ofFn (fun i => g i.1))
  | 0, i, h => by
    have : i = 24 := by omega
    subst this
    rw [F_rewrite_each_Cube_l1, upto_all]
  | m + 1, i, h => by
    rw [F_rewrite_each_Cube_l1, hf i (by omega), Option.bind_some, chk_nat (by omega), Option.bind_some]
    show F_rewrite_each_Cube_l1 f m (i + 1) (Vector.set (upto g b i) i (g i) _) = _
    rw [upto_set g b i (by omega), F_rewrite_each_Cube_l1_eq f g hf b m (i + 1) (by omega)]
theorem F_rewrite_each_Cube_eq (f : Int → Option Tern) (g : Nat → Tern) (hf : ∀ i : Nat, i < 24 → f (i : Int) = some (g i)) : F_rewrite_each_Cube f = some (Vector.ofFn (fun i => g i.1)) := by
  unfold F_rewrite_each_Cube
  have := F_rewrite_each_Cube_l1_eq f g hf (Vector.replicate 24 zTern) 24 0 rfl
  rw [upto_zero] at this
  exact this
theorem F_rewrite_Before_l1_eq (r c : Cube) : ∀ (l : List Tern) (i : Nat), i + l.length = 24 → l = (Vector.toList r).drop i → (∀ j, j < i → (tmeet (ve r j) (ve c j)).isSome = true) → F_rewrite_Before_l1 c r l i = some (optP none24 (cbefore r c))
  | [], i, h1, h2, h3 => by
    have hi : i = 24 := by simpa using h1
    subst hi
    have hall : (List.range 24).all (fun i => (tmeet (ve r i) (ve c i)).isSome) = true := by
      rw [List.all_eq_true]; intro i hi; exact h3 i (by simpa using hi)
    unfold cbefore
    rw [hall, cond_true, F_rewrite_Before_l1, F_rewrite_each_Cube_eq _ (fun i => tclean ⟨(ve c i).Value, wless (ve c i).Mask (ve r i).Mask⟩) (fun i hi => by
      unfold F_rewrite_Before_1
      rw [chk_nat hi, Option.bind_some, Option.bind_some, Option.bind_some, vget_eq, vget_eq]; rfl)]
    rfl
  | x :: l, i, h1, h2, h3 => by
    simp only [List.length_cons] at h1
    have hi : i < (Vector.toList r).length := by simp; omega
    rw [List.drop_eq_getElem_cons hi] at h2
    obtain ⟨rfl, h4⟩ := List.cons.inj h2
    have hx : (Vector.toList r)[i] = ve r i := by rw [Vector.getElem_toList, ve_lt _ _ (by omega)]
    rw [F_rewrite_Before_l1, hx, chk_nat (by omega), Option.bind_some, vget_eq, F_tern_Meet_eq, Option.bind_some]
    cases hm : tmeet (ve r i) (ve c i) with
    | none =>
      have hall : (List.range 24).all (fun i => (tmeet (ve r i) (ve c i)).isSome) = false := by
        rw [List.all_eq_false]
        exact ⟨i, by simp; omega, by simp [hm]⟩
      unfold cbefore
      rw [hall]; rfl
    | some t =>
      exact F_rewrite_Before_l1_eq r c l (i + 1) (by omega) h4 fun j hj => by
        by_cases e : j = i
        · subst e; rw [hm]; rfl
        · exact h3 j (by omega)
theorem F_rewrite_Before_eq (r c : Cube) : F_rewrite_Before r c = some (optP none24 (cbefore r c)) := by
  unfold F_rewrite_Before
  exact F_rewrite_Before_l1_eq r c (Vector.toList r) 0 (by simp) rfl fun j hj => by omega
def mput (c : Cube) (o : Oxm) : Cube := if h : 0 ≤ o.Field ∧ o.Field.toNat < 24 then Vector.set c o.Field.toNat (oxT o) h.2 else c
theorem mput_in (c : Cube) (o : Oxm) (n : Nat) (hn : o.Field = (n : Int)) (h : n < 24) : mput c o = Vector.set c n (oxT o) h := by
  unfold mput
  rw [dif_pos (by omega)]
  simp [hn]
theorem mput_out (c : Cube) (o : Oxm) (h : ¬ (0 ≤ o.Field ∧ o.Field < 24)) : mput c o = c := by
  unfold mput
  rw [dif_neg (by omega)]
theorem F_match_Cube_l1_eq : ∀ (l : List Oxm) (i : Nat) (c : Cube), F_match_Cube_l1 l i c = some (l.foldl mput c)
  | [], i, c => rfl
  | o :: l, i, c => by
    rw [F_match_Cube_l1, List.foldl_cons]
    unfold F_field_Right
    rw [Option.bind_some]
    by_cases h : 0 ≤ o.Field ∧ o.Field < 24
    · obtain ⟨n, hn⟩ : ∃ n : Nat, o.Field = (n : Int) := ⟨o.Field.toNat, by omega⟩
      have hn24 : n < 24 := by have := h.2; omega
      have hd : (decide (o.Field ≥ 0) && decide (o.Field < 24)) = true := by simp; omega
      have hc : chk 24 o.Field = some ⟨n, hn24⟩ := by rw [hn]; exact chk_nat hn24
      rw [hd, cond_true, F_oxm_Tern_eq, Option.bind_some, hc, Option.bind_some, mput_in c o n hn hn24, F_match_Cube_l1_eq l (i + 1)]
    · have hd : (decide (o.Field ≥ 0) && decide (o.Field < 24)) = false := by
        rw [Bool.and_eq_false_iff, decide_eq_false_iff_not, decide_eq_false_iff_not]; omega
      rw [hd, cond_false, mput_out c o h, F_match_Cube_l1_eq l (i + 1)]
def mcube (l : List Oxm) : Cube := l.foldl mput none24
def fcube (f : Flow) : Cube := cclean (mcube f.Match)
theorem F_flow_Cube_eq (f : Flow) : F_flow_Cube f = some (fcube f) := by
  unfold F_flow_Cube F_match_Cube F_cube_All
  rw [Option.bind_some, F_match_Cube_l1_eq, Option.bind_some, F_cube_Clean_eq]; rfl
def ofI (l : List Inst) (k : Int) : Option Inst := l.find? fun i => decide (i.Kind = k)
theorem F_slices_IndexFunc_Inst_eq (s : List Inst) (f : Inst → Option Bool) (p : Inst → Bool) (hf : ∀ x ∈ s, f x = some (p x)) : F_slices_IndexFunc_Inst s f = some (fidx p s) := by
  unfold F_slices_IndexFunc_Inst
  rw [show ((s.length : Int)).toNat = s.length by omega]
  exact idx_spec p (fun i => by rw [F_slices_IndexFunc_Inst_l1]) (fun m i => by rw [F_slices_IndexFunc_Inst_l1]) hf
def zInst' : Inst := ⟨0, 0, zWide, zWide, []⟩
theorem F_inst_Of_eq (l : List Inst) (k : Int) (hl : ∀ i ∈ l, i.Acts.length ≤ 12) : F_inst_Of l k = some (optP zInst' (ofI l k)) := by
  have hlim : lim = 4294967296 := rfl
  unfold F_inst_Of ofI
  rw [F_slices_IndexFunc_Inst_eq l (fun x => F_inst_Of_1 x k) (fun i => decide (i.Kind = k)) (fun _ _ => rfl), Option.bind_some]
  rcases fidx_find (fun i : Inst => decide (i.Kind = k)) l with ⟨h1, h2⟩ | ⟨n, h1, h2, h3, h4⟩
  · rw [decide_eq_true h1, cond_true, h2]; rfl
  · have := hl _ (List.getElem_mem h2)
    rw [decide_eq_false (by omega), cond_false, h1, lget_lt h2, Option.bind_some, h3]
    unfold F_slices_Clone_Action
    rw [appd_ok (by simp; omega), Option.bind_some]
    rfl
theorem ofI_mem {l : List Inst} {k : Int} {i : Inst} (h : ofI l k = some i) : i ∈ l := List.mem_of_find?_eq_some h
end Go.Proofs.YtknpgojdkobgjaaGreat.W
set_option linter.unusedVariables false
set_option linter.unusedSimpArgs false
namespace Go.Proofs.YtknpgojdkobgjaaGreat.W
open Go Go.Wb
section ins
def TellsOn (lt : Int → Int → Bool) (cmp : Int → Int → Option Int) (A : List Int) : Prop := ∀ x ∈ A, ∀ y ∈ A, ∃ c, cmp x y = some c ∧ decide (c < 0) = lt x y
variable {lt : Int → Int → Bool} {cmp : Int → Int → Option Int}
theorem insI_l2 {A : List Int} (hc : TellsOn lt cmp A) (go : List Int → Int → Option (List Int)) (i : Int) (P : List Int) (x : Int) (hx : x ∈ A) : ∀ (R S : List Int) (m : Nat), (∀ y ∈ R, y ∈ A) → R.length < m → (P ++ R.reverse ++ x :: S).length ≤ big →
    F_slices_insertionSortCmpFunc_int_l2 (P.length : Int) cmp go i m (P ++ R.reverse ++ x :: S) ((P.length + R.length : Nat) : Int) = go (P ++ (rins lt x R).reverse ++ S) (IntKind.i64.wrap (i + 1))
  | [], S, m, _, h, _ => by
    obtain ⟨m, rfl⟩ : ∃ k, m = k + 1 := ⟨m - 1, by simp at h; omega⟩
    rw [F_slices_insertionSortCmpFunc_int_l2, decide_eq_false (by simp)]
    simp [opt, rins]
  | y :: R, S, m, hR, h, hl => by
    have hbig : big = 1000000 := rfl
    simp only [List.length_cons, List.length_append, List.length_reverse] at h hl
    obtain ⟨m, rfl⟩ : ∃ k, m = k + 1 := ⟨m - 1, by omega⟩
    have e0 : P ++ (y :: R).reverse ++ x :: S = (P ++ R.reverse) ++ y :: (x :: S) := by simp
    have ej : IntKind.i64.wrap (((P.length + (y :: R).length : Nat) : Int) - 1) = ((P.length + R.length : Nat) : Int) := by rw [wr (by simp only [List.length_cons]; omega) (by simp only [List.length_cons]; omega)]; simp only [List.length_cons]; omega
    have g1 : ∀ a b : Int, lget ((P ++ R.reverse) ++ a :: (b :: S)) ((P.length + (y :: R).length : Nat) : Int) = some b := fun a b => by
      have : (P ++ R.reverse) ++ a :: (b :: S) = (P ++ R.reverse ++ [a]) ++ b :: S := by simp
      rw [this]; exact lget_at _ _ _ _ (by simp)
    have g0 : ∀ a b : Int, lget ((P ++ R.reverse) ++ a :: (b :: S)) ((P.length + R.length : Nat) : Int) = some a := fun a b => lget_at _ _ _ _ (by simp)
    have s1 : ∀ a b c : Int, List.set ((P ++ R.reverse) ++ a :: (b :: S)) (((P.length + (y :: R).length : Nat) : Int)).toNat c = (P ++ R.reverse) ++ a :: (c :: S) := fun a b c => by
      have : (P ++ R.reverse) ++ a :: (b :: S) = (P ++ R.reverse ++ [a]) ++ b :: S := by simp
      rw [this, Int.toNat_natCast, set_at _ _ _ _ _ (by simp)]; simp
    have s0 : ∀ a b c : Int, List.set ((P ++ R.reverse) ++ a :: (b :: S)) (((P.length + R.length : Nat) : Int)).toNat c = (P ++ R.reverse) ++ c :: (b :: S) := fun a b c => by
      rw [Int.toNat_natCast, set_at _ _ _ _ _ (by simp)]
    obtain ⟨c, hc1, hc2⟩ := hc x hx y (hR y (by simp))
    rw [e0, F_slices_insertionSortCmpFunc_int_l2, decide_eq_true (by simp only [List.length_cons]; omega), opt_true, g1, Option.bind_some, opt_true, ej, g0, Option.bind_some, opt_true, hc1, Option.bind_some, Bool.true_and, hc2, rins]
    cases lt x y
    · rw [cond_false, cond_false]
      simp
    · rw [cond_true, cond_true, Option.bind_some, Option.bind_some, Option.bind_some, s1, g0, Option.bind_some, s0, insI_l2 hc go i P x hx R (y :: S) m (fun z hz => hR z (by simp [hz])) (by omega) (by simp only [List.length_append, List.length_cons, List.length_reverse]; omega)]
      simp
theorem rins_lengthI (x : Int) (R : List Int) : (rins lt x R).length = R.length + 1 := by
  induction R with
  | nil => rfl
  | cons y R ih => rw [rins]; cases lt x y <;> simp [ih]
theorem insI_l1 {A : List Int} (hc : TellsOn lt cmp A) (P Q : List Int) : ∀ (T R : List Int) (m : Nat), (∀ y ∈ T, y ∈ A) → (∀ y ∈ R, y ∈ A) → T.length < m → (P ++ R.reverse ++ T ++ Q).length ≤ big →
    F_slices_insertionSortCmpFunc_int_l1 ((P.length + R.length + T.length : Nat) : Int) (P.length : Int) cmp m (P ++ R.reverse ++ T ++ Q) ((P.length + R.length : Nat) : Int) = some (P ++ (T.foldl (fun R x => rins lt x R) R).reverse ++ Q)
  | [], R, m, _, _, h, _ => by
    obtain ⟨m, rfl⟩ : ∃ k, m = k + 1 := ⟨m - 1, by simp at h; omega⟩
    rw [F_slices_insertionSortCmpFunc_int_l1, decide_eq_false (by simp), cond_false]
    simp
  | x :: T, R, m, hT, hR, h, h2 => by
    have hbig : big = 1000000 := rfl
    simp only [List.length_cons, List.length_append, List.length_reverse] at h h2
    obtain ⟨m, rfl⟩ : ∃ k, m = k + 1 := ⟨m - 1, by omega⟩
    have e : IntKind.i64.wrap (((P.length + R.length : Nat) : Int) + 1) = ((P.length + (rins lt x R).length : Nat) : Int) := by rw [rins_lengthI, wr (by omega) (by omega)]; omega
    have hn : P.length + R.length + (x :: T).length = P.length + (rins lt x R).length + T.length := by rw [rins_lengthI, List.length_cons]; omega
    have e0 : P ++ R.reverse ++ x :: T ++ Q = P ++ R.reverse ++ x :: (T ++ Q) := by simp
    rw [F_slices_insertionSortCmpFunc_int_l1, decide_eq_true (by simp only [List.length_cons]; omega), cond_true, e0, insI_l2 hc _ _ P x (hT x (by simp)) R (T ++ Q) fuel0 hR (by unfold fuel0; omega) (by simp only [List.length_append, List.length_cons, List.length_reverse]; omega), e, hn,
      ← List.append_assoc, insI_l1 hc P Q T (rins lt x R) m (fun y hy => hT y (by simp [hy])) (fun y hy => by rcases rins_mem.1 hy with e | e; rw [e]; exact hT x (by simp); exact hR y e) (by omega) (by simp only [List.length_append, List.length_reverse, rins_lengthI]; omega), List.foldl_cons]
theorem insI_eq (P L Q : List Int) (hc : TellsOn lt cmp L) (a b : Int) (ha : a = (P.length : Int)) (hb : b = (P.length : Int) + (L.length : Int)) (h : (P ++ L ++ Q).length ≤ big) : F_slices_insertionSortCmpFunc_int (P ++ L ++ Q) a b cmp = some (P ++ srt lt L ++ Q) := by
  subst ha hb
  have hbig : big = 1000000 := rfl
  have h' := h
  simp only [List.length_append] at h'
  unfold F_slices_insertionSortCmpFunc_int srt
  cases L with
  | nil =>
    rw [wr (by omega) (by omega)]
    obtain ⟨m, hm⟩ : ∃ m, (((P.length : Int) + (([] : List Int).length : Int)) - ((P.length : Int) + 1)).toNat + 1 = m + 1 := ⟨_, rfl⟩
    rw [hm, F_slices_insertionSortCmpFunc_int_l1, decide_eq_false (by simp only [List.length_nil]; omega), cond_false]
    rfl
  | cons x L =>
    simp only [List.length_cons] at h'
    have := insI_l1 hc P Q L [x] ((((P.length : Int) + ((x :: L).length : Int)) - ((P.length : Int) + 1)).toNat + 1) (fun y hy => by simp [hy]) (fun y hy => by simp at hy; simp [hy]) (by simp only [List.length_cons]; omega) (by simp only [List.length_append, List.length_reverse, List.length_cons, List.length_nil]; omega)
    have e1 : ((P.length + [x].length + L.length : Nat) : Int) = (P.length : Int) + ((x :: L).length : Int) := by simp; omega
    have e2 : ((P.length + [x].length : Nat) : Int) = (P.length : Int) + 1 := by simp
    have e3 : P ++ [x].reverse ++ L ++ Q = P ++ x :: L ++ Q := by simp
    rw [e1, e2, e3] at this
    rw [wr (by omega) (by omega), this]
    rfl
theorem stableI_eq (L : List Int) (hc : TellsOn lt cmp L) (h : L.length < 20) : F_slices_SortStableFunc_int L cmp = some (srt lt L) := by
  unfold F_slices_SortStableFunc_int F_slices_stableCmpFunc_int
  obtain ⟨m, hm⟩ : ∃ m, (((L.length : Int) : Int) - 20).toNat + 2 = m + 1 := ⟨_, rfl⟩
  have := insI_eq [] L [] hc 0 (L.length : Int) rfl (by simp) (by simp only [List.nil_append, List.append_nil]; show _ ≤ 1000000; omega)
  simp only [List.nil_append, List.append_nil] at this
  rw [hm, F_slices_stableCmpFunc_int_l1, decide_eq_false (by omega), cond_false, this, Option.bind_some]
  obtain ⟨k, hk⟩ : ∃ m, (((L.length : Int) : Int) - 20).toNat + 1 = m + 1 := ⟨_, rfl⟩
  rw [hk, F_slices_stableCmpFunc_int_l2, decide_eq_false (by omega), cond_false]
  rfl
end ins
end Go.Proofs.YtknpgojdkobgjaaGreat.W
set_option linter.unusedVariables false
set_option linter.unusedSimpArgs false
namespace Go.Proofs.YtknpgojdkobgjaaGreat.W
open Go Go.Wb
def prioOf (t : List Flow) (i : Int) : Int := match t[i.toNat]? with
  | some f => f.Priority
  | none => 0
def ltP (t : List Flow) (i j : Int) : Bool := decide (prioOf t i > prioOf t j)
theorem ltP_swo (t : List Flow) : Swo (ltP t) where
  asym := fun a b h => by
    unfold ltP at *
    rw [decide_eq_true_eq] at h
    rw [decide_eq_false_iff_not]; omega
  neg := fun a b c h k => by
    unfold ltP at *
    rw [decide_eq_false_iff_not] at *; omega
def places (n : Nat) : List Int := (List.range n).map fun (i : Nat) => (i : Int)
theorem places_mem {n : Nat} {i : Int} : i ∈ places n ↔ ∃ k : Nat, k < n ∧ i = (k : Int) := by
  unfold places
  simp only [List.mem_map, List.mem_range]
  exact ⟨fun ⟨k, h1, h2⟩ => ⟨k, h1, h2.symm⟩, fun ⟨k, h1, h2⟩ => ⟨k, h1, h2.symm⟩⟩
def order (t : List Flow) : List Int := srt (ltP t) (places t.length)
theorem order_mem {t : List Flow} {i : Int} : i ∈ order t ↔ ∃ k : Nat, k < t.length ∧ i = (k : Int) := by
  unfold order
  rw [srt_mem (ltP_swo t), places_mem]
theorem order_len (t : List Flow) : (order t).length = t.length := by
  unfold order
  rw [srt_len (ltP_swo t)]; simp [places]
theorem prioOf_nat {t : List Flow} {k : Nat} (h : k < t.length) : prioOf t (k : Int) = t[k].Priority := by
  unfold prioOf
  rw [Int.toNat_natCast, List.getElem?_eq_getElem h]
theorem order_tells (t : List Flow) : TellsOn (ltP t) (fun x z => F_first_Order_1 x z t) (places t.length) := fun x hx y hy => by
  obtain ⟨i, hi, rfl⟩ := places_mem.1 hx
  obtain ⟨j, hj, rfl⟩ := places_mem.1 hy
  unfold F_first_Order_1 ltP
  dsimp only
  rw [lget_lt hi, Option.bind_some, lget_lt hj, Option.bind_some, prioOf_nat hi, prioOf_nat hj, Option.bind_some, Option.bind_some]
  by_cases h1 : t[i].Priority > t[j].Priority
  · rw [decide_eq_true h1, cond_true]; exact ⟨_, rfl, rfl⟩
  · rw [decide_eq_false h1, cond_false]
    by_cases h2 : t[i].Priority < t[j].Priority
    · rw [decide_eq_true h2, cond_true]; exact ⟨_, rfl, rfl⟩
    · rw [decide_eq_false h2, cond_false]; exact ⟨_, rfl, rfl⟩
theorem F_first_Order_l1_eq (t : List Flow) (ht : t.length < 20) : ∀ (m i : Nat), i + m = t.length → F_first_Order_l1 t m i (places i) = some (order t)
  | 0, i, h => by
    have : i = t.length := by omega
    subst this
    rw [F_first_Order_l1, stableI_eq _ (order_tells t) (by simpa [places] using ht)]; rfl
  | m + 1, i, h => by
    have hlim : lim = 4294967296 := rfl
    have e : places i ++ [(i : Int)] = places (i + 1) := by unfold places; rw [List.range_succ, List.map_append]; rfl
    rw [F_first_Order_l1, appd_ok (by simp [places]; omega), Option.bind_some, e]
    exact F_first_Order_l1_eq t ht m (i + 1) (by omega)
theorem omk_nat (n : Nat) (h : n ≤ lim) : omk (n : Int) = some () := by
  unfold omk
  rw [decide_eq_false (by omega), decide_eq_false (by omega)]; rfl
theorem F_first_Order_eq (t : List Flow) (ht : t.length < 20) : F_first_Order t = some (order t) := by
  have hlim : lim = 4294967296 := rfl
  unfold F_first_Order
  rw [omk_nat _ (by omega), Option.bind_some, show ((t.length : Int)).toNat = t.length by omega]
  exact F_first_Order_l1_eq t ht t.length 0 (by omega)
def wact (w : walk_way) (l : List Action) : walk_way := { w with atoms := w.atoms ++ (doT l (cclean w.got)).1, got := (doT l (cclean w.got)).2 }
theorem otake_all {α : Type} (l : List α) : otake l (l.length : Int) = some l := by
  unfold otake
  simp [Nat.ble_eq_true_of_le (Nat.le_refl _)]
theorem outs_le (l : List Action) : outs l ≤ l.length := List.countP_le_length
theorem F_walk_way_act_eq (w : walk_way) (l : List Action) (h : w.atoms.length + l.length ≤ 100000) : F_walk_way_act w l = some (wact w l) := by
  have hlim : lim = 4294967296 := rfl
  have h1 := outs_le l
  unfold F_walk_way_act
  rw [F_atom_Do_eq l w.got (by omega), Option.bind_some, otake_all, Option.bind_some, appd_ok (by rw [doT_len]; omega), Option.bind_some]; rfl
def wmeet (w : walk_way) (f : Flow) : Option walk_way := (cbefore w.got (fcube f)).bind fun b => (cmeet b w.cube).map fun c => { w with cube := c }
theorem F_walk_way_meet_eq (w : walk_way) (f : Flow) : ∃ z, F_walk_way_meet w f = some (optP z (wmeet w f)) := by
  unfold F_walk_way_meet wmeet
  rw [F_flow_Cube_eq, Option.bind_some, F_rewrite_Before_eq, Option.bind_some]
  cases cbefore w.got (fcube f) with
  | none => exact ⟨_, rfl⟩
  | some b =>
    show ∃ z, (F_cube_Meet b w.cube).bind _ = some (optP z ((cmeet b w.cube).map _))
    rw [F_cube_Meet_eq, Option.bind_some]
    cases cmeet b w.cube with
    | none => exact ⟨_, rfl⟩
    | some c => exact ⟨w, rfl⟩
def wapply (w : walk_way) (l : List Inst) : walk_way := match ofI l 4 with
  | some i => wact w i.Acts
  | none => w
def wclear (w : walk_way) (l : List Inst) : walk_way := match ofI l 5 with
  | some _ => { w with set := [] }
  | none => w
def wwrite (w : walk_way) (l : List Inst) : walk_way := match ofI l 3 with
  | some i => { w with set := i.Acts.foldl wr1 w.set }
  | none => w
def wmeta (w : walk_way) (l : List Inst) : walk_way := match ofI l 2 with
  | some i => { w with got := cset w.got 1 i.Value i.Mask }
  | none => w
def wdo (w : walk_way) (l : List Inst) : walk_way := wmeta (wwrite (wclear (wapply w l) l) l) l
def nextT (at_ : Nat) (l : List Inst) : Option Nat := match ofI l 1 with
  | some i => if i.Table > (at_ : Int) ∧ i.Table < 4 then some i.Table.toNat else none
  | none => none
theorem nextT_pos {at_ : Nat} {l : List Inst} {i : Inst} (h : ofI l 1 = some i) (hc : i.Table > (at_ : Int) ∧ i.Table < 4) : nextT at_ l = some i.Table.toNat := by
  unfold nextT; rw [h]; exact if_pos hc
theorem nextT_neg {at_ : Nat} {l : List Inst} {i : Inst} (h : ofI l 1 = some i) (hc : ¬ (i.Table > (at_ : Int) ∧ i.Table < 4)) : nextT at_ l = none := by
  unfold nextT; rw [h]; exact if_neg hc
theorem nextT_none {at_ : Nat} {l : List Inst} (h : ofI l 1 = none) : nextT at_ l = none := by
  unfold nextT; rw [h]
theorem nextT_bd {at_ n : Nat} {l : List Inst} (h : nextT at_ l = some n) : at_ < n ∧ n < 4 := by
  unfold nextT at h
  split at h
  · split at h
    · cases h; omega
    · cases h
  · cases h
def wend (w : walk_way) : walk_way := wact w (lstA w.set)
def lightI (l : List Inst) : Prop := ∀ i ∈ l, i.Acts.length ≤ 12
theorem wapply_bd (w : walk_way) {l : List Inst} (hl : lightI l) : (wapply w l).atoms.length ≤ w.atoms.length + 12 ∧ (wapply w l).set = w.set ∧ (wapply w l).cube = w.cube := by
  unfold wapply
  split
  · rename_i i hi
    have h1 := hl i (ofI_mem hi)
    have h2 := outs_le i.Acts
    refine ⟨?_, rfl, rfl⟩
    show (w.atoms ++ _).length ≤ _
    rw [List.length_append, doT_len]; omega
  · exact ⟨by omega, rfl, rfl⟩
theorem wclear_bd (w : walk_way) (l : List Inst) : (wclear w l).atoms = w.atoms ∧ (wclear w l).set.length ≤ w.set.length ∧ (wclear w l).cube = w.cube := by
  unfold wclear
  split
  · exact ⟨rfl, by simp, rfl⟩
  · exact ⟨rfl, by omega, rfl⟩
theorem wwrite_bd (w : walk_way) {l : List Inst} (hl : lightI l) : (wwrite w l).atoms = w.atoms ∧ (wwrite w l).set.length ≤ w.set.length + 12 ∧ (wwrite w l).cube = w.cube := by
  unfold wwrite
  split
  · rename_i i hi
    have h1 := hl i (ofI_mem hi)
    have h2 := wr_len i.Acts w.set
    exact ⟨rfl, by show (i.Acts.foldl wr1 w.set).length ≤ _; omega, rfl⟩
  · exact ⟨rfl, by omega, rfl⟩
theorem wmeta_bd (w : walk_way) (l : List Inst) : (wmeta w l).atoms = w.atoms ∧ (wmeta w l).set = w.set ∧ (wmeta w l).cube = w.cube := by
  unfold wmeta
  split
  · exact ⟨rfl, rfl, rfl⟩
  · exact ⟨rfl, rfl, rfl⟩
theorem wdo_bd (w : walk_way) {l : List Inst} (hl : lightI l) : (wdo w l).atoms.length ≤ w.atoms.length + 12 ∧ (wdo w l).set.length ≤ w.set.length + 12 ∧ (wdo w l).cube = w.cube := by
  have h1 := wapply_bd w hl
  have h2 := wclear_bd (wapply w l) l
  have h3 := wwrite_bd (wclear (wapply w l) l) hl
  have h4 := wmeta_bd (wwrite (wclear (wapply w l) l) l) l
  unfold wdo
  refine ⟨?_, ?_, ?_⟩
  · rw [h4.1, h3.1, h2.1]; exact h1.1
  · rw [h4.2.1]
    have := h3.2.1
    have := h2.2.1
    rw [h1.2.1] at this
    omega
  · rw [h4.2.2, h3.2.2, h2.2.2, h1.2.2]
theorem F_walk_way_follow_eq (w : walk_way) (at_ : Nat) (l : List Inst) (hl : lightI l) (ha : w.atoms.length ≤ 1000) (hs : w.set.length ≤ 1000) :
    F_walk_way_follow w (at_ : Int) l = some (match nextT at_ l with | some n => (wdo w l, (n : Int), true) | none => (wend (wdo w l), 0, false)) := by
  have hlim : lim = 4294967296 := rfl
  have b1 := wapply_bd w hl
  have b2 := wclear_bd (wapply w l) l
  have b3 := wwrite_bd (wclear (wapply w l) l) hl
  have b4 := wdo_bd w hl
  have j4 : ∀ b : walk_way, b.atoms.length ≤ 2000 → b.set.length ≤ 2000 → F_walk_way_follow_j4 l (at_ : Int) b = some (match nextT at_ l with | some n => (b, (n : Int), true) | none => (wend b, 0, false)) := fun b h1 h2 => by
    unfold F_walk_way_follow_j4
    rw [F_inst_Of_eq l 1 hl, Option.bind_some]
    have hend : ((F_aset_List b.set).bind fun x12 => (F_walk_way_act b x12).bind fun x13 => some (x13, (0 : Int), false)) = some (wend b, 0, false) := by
      have := lstA_len b.set
      rw [F_aset_List_eqL _ (by omega), Option.bind_some, F_walk_way_act_eq b _ (by omega)]; rfl
    cases hi : ofI l 1 with
    | none => rw [nextT_none hi]; exact hend
    | some i =>
      show (bif ((true && decide (i.Table > (at_ : Int))) && decide (i.Table < 4)) then some (b, i.Table, true) else _) = _
      rw [Bool.true_and]
      by_cases hc : i.Table > (at_ : Int) ∧ i.Table < 4
      · have hd : (decide (i.Table > (at_ : Int)) && decide (i.Table < 4)) = true := by
          rw [Bool.and_eq_true, decide_eq_true_eq, decide_eq_true_eq]; exact hc
        have : ((i.Table.toNat : Nat) : Int) = i.Table := by omega
        rw [nextT_pos hi hc, hd, cond_true]
        simp [this]
      · have hd : (decide (i.Table > (at_ : Int)) && decide (i.Table < 4)) = false := by
          rw [Bool.and_eq_false_iff, decide_eq_false_iff_not, decide_eq_false_iff_not]; omega
        rw [nextT_neg hi hc, hd, cond_false]
        exact hend
  have j3 : ∀ b : walk_way, b.atoms.length ≤ 2000 → b.set.length ≤ 2000 → F_walk_way_follow_j3 l (at_ : Int) b = some (match nextT at_ l with | some n => (wmeta b l, (n : Int), true) | none => (wend (wmeta b l), 0, false)) := fun b h1 h2 => by
    have b5 := wmeta_bd b l
    unfold F_walk_way_follow_j3
    rw [F_inst_Of_eq l 2 hl, Option.bind_some, ← j4 (wmeta b l) (by rw [b5.1]; omega) (by rw [b5.2.1]; omega)]
    unfold wmeta
    cases hi : ofI l 2 with
    | none => rfl
    | some i =>
      simp only [optP, cond_true]
      rw [F_rewrite_Set_eq]; rfl
  have j2 : ∀ b : walk_way, b.atoms.length ≤ 1500 → b.set.length ≤ 1500 → F_walk_way_follow_j2 l (at_ : Int) b = some (match nextT at_ l with | some n => (wmeta (wwrite b l) l, (n : Int), true) | none => (wend (wmeta (wwrite b l) l), 0, false)) := fun b h1 h2 => by
    have b5 := wwrite_bd b hl
    unfold F_walk_way_follow_j2
    rw [F_inst_Of_eq l 3 hl, Option.bind_some, ← j3 (wwrite b l) (by rw [b5.1]; omega) (by have := b5.2.1; omega)]
    unfold wwrite
    cases hi : ofI l 3 with
    | none => rfl
    | some i =>
      have := hl i (ofI_mem hi)
      simp only [optP, cond_true]
      rw [F_aset_Write_eq _ _ (by omega)]; rfl
  have j1 : ∀ b : walk_way, b.atoms.length ≤ 1500 → b.set.length ≤ 1500 → F_walk_way_follow_j1 l (at_ : Int) b = some (match nextT at_ l with | some n => (wmeta (wwrite (wclear b l) l) l, (n : Int), true) | none => (wend (wmeta (wwrite (wclear b l) l) l), 0, false)) := fun b h1 h2 => by
    have b5 := wclear_bd b l
    unfold F_walk_way_follow_j1
    rw [F_inst_Of_eq l 5 hl, Option.bind_some, ← j2 (wclear b l) (by rw [b5.1]; omega) (by have := b5.2.1; omega)]
    unfold wclear
    cases hi : ofI l 5 with
    | none => rfl
    | some i => rfl
  unfold F_walk_way_follow
  rw [F_inst_Of_eq l 4 hl, Option.bind_some]
  have := j1 (wapply w l) (by omega) (by rw [b1.2.1]; omega)
  unfold wdo
  rw [← this]
  unfold wapply
  cases hi : ofI l 4 with
  | none => rfl
  | some i =>
    have := hl i (ofI_mem hi)
    simp only [optP, cond_true]
    rw [F_walk_way_act_eq w _ (by omega)]; rfl
def tblOf (s : Switch) (i : Nat) : List Flow := if h : i < 4 then Vector.get s.Tables ⟨i, h⟩ else []
theorem tblOf_lt (s : Switch) (i : Nat) (h : i < 4) : Vector.get s.Tables ⟨i, h⟩ = tblOf s i := by unfold tblOf; rw [dif_pos h]
def ruleOf (w : walk_way) : Rule := ⟨w.cube, w.atoms⟩
def ruleF (R : Nat → walk_way → List Rule) (t : List Flow) (at_ : Nat) (w : walk_way) (i : Int) : List Rule := match t[i.toNat]? with
  | none => []
  | some f => match wmeet w f with
    | none => []
    | some x => match nextT at_ f.Insts with
      | some n => R n (wdo x f.Insts)
      | none => [ruleOf (wend (wdo x f.Insts))]
def rulesL (s : Switch) : Nat → Nat → walk_way → List Rule
  | 0, _, w => [ruleOf w]
  | d + 1, at_, w => (order (tblOf s at_)).flatMap (ruleF (rulesL s d) (tblOf s at_) at_ w) ++ [ruleOf w]
def lightT (t : List Flow) : Prop := t.length < 20 ∧ ∀ f ∈ t, lightI f.Insts
def lightS (s : Switch) : Prop := ∀ i, i < 4 → lightT (tblOf s i)
def lightW (at_ : Nat) (w : walk_way) : Prop := w.atoms.length ≤ 12 * at_ ∧ w.set.length ≤ 12 * at_
theorem F_walk_way_rule_eq (w : walk_way) (h : w.atoms.length ≤ 100000) : F_walk_way_rule w = some (ruleOf w) := by
  have hlim : lim = 4294967296 := rfl
  unfold F_walk_way_rule F_slices_Clone_Atom
  rw [appd_ok (by simp; omega)]; rfl
theorem wmeet_bd {w x : walk_way} {f : Flow} (h : wmeet w f = some x) : x.atoms = w.atoms ∧ x.set = w.set := by
  unfold wmeet at h
  obtain ⟨b, h1, h2⟩ := Option.bind_eq_some_iff.1 h
  obtain ⟨c, h3, h4⟩ := Option.map_eq_some_iff.1 h2
  subst h4
  exact ⟨rfl, rfl⟩
theorem wend_bd (w : walk_way) : (wend w).atoms.length ≤ w.atoms.length + w.set.length := by
  have h1 := lstA_len w.set
  have h2 := outs_le (lstA w.set)
  show (w.atoms ++ _).length ≤ _
  rw [List.length_append, doT_len]; omega
def goP {σ : Type} (r : Lp σ) : Bool × Lp σ := (r.isGo, r)
theorem walk_l1 (sg : Type) (y : sg → Rule → Option (Lp sg)) (s : Switch) (at_ : Nat) (ha : at_ < 4) (hs : lightT (tblOf s at_)) (w : walk_way) (hw : lightW at_ w) (R : Lp sg → Switch → Int → walk_way → Option (Bool × Lp sg)) (Rm : Nat → walk_way → List Rule)
    (hR : ∀ (n : Nat) (x : walk_way) (z : sg), at_ < n → n < 4 → lightW n x → R (.go z) s (n : Int) x = (yf y (Rm n x) z).map goP) :
    ∀ (l : List Int) (i : Nat) (z : sg), (∀ j ∈ l, ∃ k : Nat, k < (tblOf s at_).length ∧ j = (k : Int)) → F_walk_search_table_s_l1 sg w y (at_ : Int) s R l i (.go z) = (yf y (l.flatMap (ruleF Rm (tblOf s at_) at_ w) ++ [ruleOf w]) z).map goP
  | [], i, z, _ => by
    rw [F_walk_search_table_s_l1, F_walk_way_rule_eq w (by have := hw.1; omega), Option.bind_some]
    show (y z (ruleOf w)).bind _ = _
    rw [List.flatMap_nil, List.nil_append, yf]
    cases y z (ruleOf w) with
    | none => rfl
    | some r => cases r <;> rfl
  | j :: l, i, z, hl => by
    obtain ⟨k, hk, rfl⟩ := hl j (by simp)
    have ih := fun z => walk_l1 sg y s at_ ha hs w hw R Rm hR l (i + 1) z fun j hj => hl j (by simp [hj])
    have tail : ∀ (L : List Rule), ((yf y L z).map goP).bind (fun b24 => F_walk_search_table_s_j2 sg (F_walk_search_table_s_l1 sg w y (at_ : Int) s R l) i b24.2 b24.1) = (yf y (L ++ (l.flatMap (ruleF Rm (tblOf s at_) at_ w) ++ [ruleOf w])) z).map goP := fun L => by
      rw [yf_append]
      cases yf y L z with
      | none => rfl
      | some r =>
        cases r with
        | out c q => rfl
        | go q => exact ih q
    rw [F_walk_search_table_s_l1, chk_nat ha, Option.bind_some, tblOf_lt, lget_lt hk, Option.bind_some, List.flatMap_cons, List.append_assoc]
    have hf := hs.2 _ (List.getElem_mem hk)
    have hrule : ruleF Rm (tblOf s at_) at_ w (k : Int) = match wmeet w (tblOf s at_)[k] with
        | none => []
        | some x => match nextT at_ (tblOf s at_)[k].Insts with
          | some n => Rm n (wdo x (tblOf s at_)[k].Insts)
          | none => [ruleOf (wend (wdo x (tblOf s at_)[k].Insts))] := by
      unfold ruleF
      rw [Int.toNat_natCast, List.getElem?_eq_getElem hk]
    obtain ⟨zz, hz⟩ := F_walk_way_meet_eq w (tblOf s at_)[k]
    rw [hrule, hz, Option.bind_some]
    cases hm : wmeet w (tblOf s at_)[k] with
    | none => exact ih z
    | some x =>
      have hx := wmeet_bd hm
      have hwx : lightW at_ x := by unfold lightW; rw [hx.1, hx.2]; exact hw
      have hd := wdo_bd x hf
      simp only [optP, Bool.not_true, cond_false]
      rw [F_walk_way_follow_eq x at_ _ hf (by have := hwx.1; omega) (by have := hwx.2; omega), Option.bind_some]
      cases hn : nextT at_ (tblOf s at_)[k].Insts with
      | some n =>
        have hnb := nextT_bd hn
        simp only [cond_true]
        rw [hR n _ z hnb.1 hnb.2 ⟨by have := hwx.1; have := hd.1; omega, by have := hwx.2; have := hd.2.1; omega⟩]
        exact tail _
      | none =>
        simp only [cond_false]
        have he := wend_bd (wdo x (tblOf s at_)[k].Insts)
        rw [F_walk_way_rule_eq _ (by have := hwx.1; have := hwx.2; have := hd.1; have := hd.2.1; omega), Option.bind_some, ← tail]
        show (y z (ruleOf _)).bind _ = _
        rw [yf]
        cases y z (ruleOf (wend (wdo x (tblOf s at_)[k].Insts))) with
        | none => rfl
        | some r => cases r <;> rfl
theorem walk_table (sg : Type) (y : sg → Rule → Option (Lp sg)) (s : Switch) (hs : lightS s) : ∀ (d f at_ : Nat) (w : walk_way) (z : sg), 4 ≤ at_ + d → at_ < 4 → d ≤ f → lightW at_ w →
    FR_walk_search_table sg y f (.go z) s (at_ : Int) w = (yf y (rulesL s d at_ w) z).map goP
  | 0, f, at_, w, z, h0, h1, _, _ => by omega
  | d + 1, 0, at_, w, z, _, _, h2, _ => by omega
  | d + 1, f + 1, at_, w, z, h1, ha, h2, hw => by
    have hl := hs at_ ha
    show F_walk_search_table_s sg y (FR_walk_search_table sg y f) (.go z) s (at_ : Int) w = _
    unfold F_walk_search_table_s
    rw [chk_nat ha, Option.bind_some, tblOf_lt, F_first_Order_eq _ hl.1, Option.bind_some, rulesL]
    exact walk_l1 sg y s at_ ha hl w hw _ (rulesL s d) (fun n x q h3 h4 h5 => walk_table sg y s hs d f n x q (by omega) h4 (by omega) h5) _ 0 z fun j hj => order_mem.1 hj
def way0 : walk_way := ⟨none24, none24, [], []⟩
def rulesS (s : Switch) : List Rule := rulesL s 4 0 way0
theorem F_walk_Rules_1_eq (sg : Type) (y : sg → Rule → Option (Lp sg)) (s : Switch) (hs : lightS s) (z : sg) : F_walk_Rules_1 sg y (.go z) s = yf y (rulesS s) z := by
  unfold F_walk_Rules_1 F_cube_All F_rewrite_None F_walk_search_table
  rw [Option.bind_some, Option.bind_some]
  have := walk_table sg y s hs 4 fuel0 0 way0 z (by omega) (by omega) (by unfold fuel0; omega) ⟨by simp [way0], by simp [way0]⟩
  show (FR_walk_search_table sg y fuel0 (.go z) s ((0 : Nat) : Int) way0).bind _ = _
  rw [this]
  show _ = yf y (rulesL s 4 0 way0) z
  cases yf y (rulesL s 4 0 way0) z <;> rfl
theorem F_walk_Rules_eq (s : Switch) : F_walk_Rules s = some (Itr.mk fun σ y z => F_walk_Rules_1 σ y z s) := rfl
def mostFrom (s : Switch) : Nat → Nat → Nat
  | 0, _ => 1
  | d + 1, at_ => ((tblOf s at_).length + 1) * mostFrom s d (at_ + 1)
theorem mostFrom_pos (s : Switch) : ∀ (d at_ : Nat), 1 ≤ mostFrom s d at_
  | 0, _ => Nat.le_refl _
  | d + 1, at_ => Nat.le_trans (mostFrom_pos s d (at_ + 1)) (Nat.le_mul_of_pos_left _ (by omega))
theorem mostFrom_skip (s : Switch) : ∀ (d at_ n : Nat), at_ + d = 4 → at_ ≤ n → n ≤ 4 → mostFrom s (4 - n) n ≤ mostFrom s d at_
  | 0, at_, n, h1, h2, h3 => by
    have : n = 4 := by omega
    subst this
    exact Nat.le_refl _
  | d + 1, at_, n, h1, h2, h3 => by
    by_cases e : n = at_
    · subst e
      have : 4 - n = d + 1 := by omega
      rw [this]; exact Nat.le_refl _
    · rw [mostFrom]
      exact Nat.le_trans (mostFrom_skip s d (at_ + 1) n (by omega) (by omega) h3) (Nat.le_mul_of_pos_left _ (by omega))
theorem flatMap_bdL {α β : Type} (f : α → List β) (k : Nat) : ∀ l : List α, (∀ x ∈ l, (f x).length ≤ k) → (l.flatMap f).length ≤ l.length * k
  | [], _ => by simp
  | x :: l, h => by
    rw [List.flatMap_cons, List.length_append, List.length_cons, Nat.add_mul, Nat.one_mul]
    have h1 := h x (by simp)
    have h2 := flatMap_bdL f k l fun y hy => h y (by simp [hy])
    omega
theorem rulesL_len (s : Switch) : ∀ (d at_ : Nat) (w : walk_way), 4 ≤ at_ + d → at_ < 4 → (rulesL s d at_ w).length ≤ mostFrom s (4 - at_) at_
  | 0, at_, w, h, h' => by omega
  | d + 1, at_, w, h, h' => by
    have e : 4 - at_ = (4 - (at_ + 1)) + 1 := by omega
    rw [rulesL, List.length_append, List.length_singleton, e, mostFrom, Nat.add_mul, Nat.one_mul]
    have h1 := mostFrom_pos s (4 - (at_ + 1)) (at_ + 1)
    have h2 := flatMap_bdL (ruleF (rulesL s d) (tblOf s at_) at_ w) (mostFrom s (4 - (at_ + 1)) (at_ + 1)) (order (tblOf s at_)) fun i hi => by
      unfold ruleF
      split
      · simp
      · split
        · simp
        · split
          · rename_i n hn
            have hb := nextT_bd hn
            refine Nat.le_trans (rulesL_len s d n _ (by omega) hb.2) ?_
            exact mostFrom_skip s (4 - (at_ + 1)) (at_ + 1) n (by omega) (by omega) (by omega)
          · simpa using h1
    rw [order_len] at h2
    omega
theorem rulesS_len (s : Switch) : (rulesS s).length ≤ mostFrom s 4 0 := rulesL_len s 4 0 way0 (by omega) (by omega)
theorem F_walk_List_eq (s : Switch) (hs : lightS s) (h : mostFrom s 4 0 ≤ lim) : F_walk_List s = some (rulesS s) := by
  unfold F_walk_List F_walk_Rules F_slices_Collect_Rule F_slices_AppendSeq_Rule
  rw [Option.bind_some, collect_yf (rulesS s) _ (fun y z => F_walk_Rules_1_eq _ y s hs z) (Nat.le_trans (rulesS_len s) h)]
  rfl
end Go.Proofs.YtknpgojdkobgjaaGreat.W
set_option linter.unusedVariables false
set_option linter.unusedSimpArgs false
namespace Go.Proofs.YtknpgojdkobgjaaGreat.W
open Go Go.Wb
def fewI (l : List Inst) : Bool := decide ((l.length : Int) ≤ 8) && !(l.any fun i => !decide ((i.Acts.length : Int) ≤ 12))
theorem F_slices_ContainsFunc_Inst_eq (s : List Inst) (f : Inst → Option Bool) (p : Inst → Bool) (hf : ∀ x ∈ s, f x = some (p x)) : F_slices_ContainsFunc_Inst s f = some (s.any p) := by
  unfold F_slices_ContainsFunc_Inst; rw [F_slices_IndexFunc_Inst_eq s f p hf, Option.bind_some, fidx_any]
theorem F_pl_Insts_eq (l : List Inst) : F_pl_Insts l = some (fewI l) := by
  unfold F_pl_Insts fewI
  rw [F_slices_ContainsFunc_Inst_eq l F_pl_Insts_1 (fun i => !decide ((i.Acts.length : Int) ≤ 12)) (fun x _ => rfl)]
  cases decide ((l.length : Int) ≤ 8) <;> rfl
def fewF (f : Flow) : Bool := decide ((f.Match.length : Int) ≤ 30) && fewI f.Insts
theorem F_pl_Flow_eq (f : Flow) : F_pl_Flow f = some (fewF f) := by
  unfold F_pl_Flow fewF
  rw [F_pl_Insts_eq]
  cases decide ((f.Match.length : Int) ≤ 30) <;> rfl
theorem F_slices_IndexFunc_Flow_eq (s : List Flow) (f : Flow → Option Bool) (p : Flow → Bool) (hf : ∀ x ∈ s, f x = some (p x)) : F_slices_IndexFunc_Flow s f = some (fidx p s) := by
  unfold F_slices_IndexFunc_Flow
  rw [show ((s.length : Int)).toNat = s.length by omega]
  exact idx_spec p (fun i => by rw [F_slices_IndexFunc_Flow_l1]) (fun m i => by rw [F_slices_IndexFunc_Flow_l1]) hf
theorem F_slices_ContainsFunc_Flow_eq (s : List Flow) (f : Flow → Option Bool) (p : Flow → Bool) (hf : ∀ x ∈ s, f x = some (p x)) : F_slices_ContainsFunc_Flow s f = some (s.any p) := by
  unfold F_slices_ContainsFunc_Flow; rw [F_slices_IndexFunc_Flow_eq s f p hf, Option.bind_some, fidx_any]
def fewT (t : List Flow) (many : Int) : Bool := decide ((t.length : Int) ≤ many) && !(t.any fun f => !fewF f)
theorem F_pl_Flows_eq (t : List Flow) (many : Int) : F_pl_Flows t many = some (fewT t many) := by
  unfold F_pl_Flows fewT
  rw [F_slices_ContainsFunc_Flow_eq t F_pl_Flows_1 (fun f => !fewF f) (fun f _ => by unfold F_pl_Flows_1; rw [F_pl_Flow_eq]; rfl)]
  cases decide ((t.length : Int) ≤ many) <;> rfl
def fewS (s : Switch) (many : Int) : Bool := (Vector.toList s.Tables).all (fun t => fewT t many) && fewG s.Groups 9 3
theorem F_pl_Switch_l1_eq (s : Switch) (many : Int) : ∀ (l : List (List Flow)) (i : Nat), F_pl_Switch_l1 s many l i = some (l.all (fun t => fewT t many) && fewG s.Groups 9 3)
  | [], i => by rw [F_pl_Switch_l1, F_pl_Groups_eq]; rfl
  | t :: l, i => by
    rw [F_pl_Switch_l1, F_pl_Flows_eq, Option.bind_some, F_pl_Switch_l1_eq s many l (i + 1), List.all_cons]
    cases fewT t many <;> rfl
theorem F_pl_Switch_eq (s : Switch) (many : Int) : F_pl_Switch s many = some (fewS s many) := F_pl_Switch_l1_eq s many _ 0
theorem tblOf_toList (s : Switch) (i : Nat) (h : i < 4) : tblOf s i = (Vector.toList s.Tables)[i]'(by simp; exact h) := by
  rw [← tblOf_lt s i h, Vector.getElem_toList]; rfl
theorem tblOf_mem (s : Switch) (i : Nat) (h : i < 4) : tblOf s i ∈ Vector.toList s.Tables := by
  rw [tblOf_toList s i h]; exact List.getElem_mem _
theorem fewI_light {l : List Inst} (h : fewI l = true) : l.length ≤ 8 ∧ lightI l := by
  unfold fewI at h
  simp only [Bool.and_eq_true, decide_eq_true_eq, Bool.not_eq_true', List.any_eq_false] at h
  refine ⟨by omega, fun i hi => ?_⟩
  have h1 : decide ((i.Acts.length : Int) ≤ 12) = true := by simpa using h.2 i hi
  rw [decide_eq_true_eq] at h1
  omega
theorem fewF_light {f : Flow} (h : fewF f = true) : f.Match.length ≤ 30 ∧ f.Insts.length ≤ 8 ∧ lightI f.Insts := by
  unfold fewF at h
  rw [Bool.and_eq_true, decide_eq_true_eq] at h
  exact ⟨by omega, fewI_light h.2⟩
theorem fewT_light {t : List Flow} {many : Nat} (h : fewT t (many : Int) = true) : t.length ≤ many ∧ ∀ f ∈ t, f.Match.length ≤ 30 ∧ f.Insts.length ≤ 8 ∧ lightI f.Insts := by
  unfold fewT at h
  simp only [Bool.and_eq_true, decide_eq_true_eq, Bool.not_eq_true', List.any_eq_false] at h
  exact ⟨by omega, fun f hf => fewF_light (by simpa using h.2 f hf)⟩
theorem fewS_light {s : Switch} {many : Nat} (h : fewS s (many : Int) = true) : (∀ i, i < 4 → (tblOf s i).length ≤ many ∧ ∀ f ∈ tblOf s i, f.Match.length ≤ 30 ∧ f.Insts.length ≤ 8 ∧ lightI f.Insts) ∧ lightG s.Groups := by
  unfold fewS at h
  rw [Bool.and_eq_true, List.all_eq_true] at h
  exact ⟨fun i hi => fewT_light (h.1 _ (tblOf_mem s i hi)), fewG_light h.2⟩
theorem fewS_lightS {s : Switch} {many : Nat} (h : fewS s (many : Int) = true) (hm : many < 20) : lightS s := fun i hi => ⟨by have := ((fewS_light h).1 i hi).1; omega, fun f hf => (((fewS_light h).1 i hi).2 f hf).2.2⟩
theorem mostFrom_le (s : Switch) (m : Nat) (h : ∀ i, i < 4 → (tblOf s i).length ≤ m) : mostFrom s 4 0 ≤ (m + 1) * ((m + 1) * ((m + 1) * ((m + 1) * 1))) := by
  show ((tblOf s 0).length + 1) * (((tblOf s 1).length + 1) * (((tblOf s 2).length + 1) * (((tblOf s 3).length + 1) * 1))) ≤ _
  have h0 := h 0 (by omega)
  have h1 := h 1 (by omega)
  have h2 := h 2 (by omega)
  have h3 := h 3 (by omega)
  exact Nat.mul_le_mul (by omega) (Nat.mul_le_mul (by omega) (Nat.mul_le_mul (by omega) (Nat.mul_le_mul (by omega) (Nat.le_refl _))))
end Go.Proofs.YtknpgojdkobgjaaGreat.W
set_option linter.unusedVariables false
set_option linter.unusedSimpArgs false
namespace Go.Proofs.YtknpgojdkobgjaaGreat.W
open Go Go.Wb
end Go.Proofs.YtknpgojdkobgjaaGreat.W
set_option linter.unusedVariables false
set_option linter.unusedSimpArgs false
namespace Go.Proofs.YtknpgojdkobgjaaGreat.W
open Go Go.Wb
theorem F_r11_Cube_l1_eq (l : List Oxm) (hl : l.length ≤ 100000) : ∀ (m i : Nat) (c : Cube), i ≤ l.length → l.length < i + m → F_r11_Cube_l1 l m c (i : Int) = some ((l.drop i).foldl mput c)
  | 0, i, c, h1, h2 => by omega
  | m + 1, i, c, h1, h2 => by
    rw [F_r11_Cube_l1]
    by_cases hi : i < l.length
    · have ih := fun c => F_r11_Cube_l1_eq l hl m (i + 1) c (by omega) (by omega)
      rw [decide_eq_true (by omega), cond_true, lget_lt hi, Option.bind_some, inc i (by omega), List.drop_eq_getElem_cons hi, List.foldl_cons]
      unfold F_r03_Right
      rw [Option.bind_some]
      by_cases h : 0 ≤ l[i].Field ∧ l[i].Field < 24
      · obtain ⟨n, hn⟩ : ∃ n : Nat, l[i].Field = (n : Int) := ⟨l[i].Field.toNat, by omega⟩
        have hn24 : n < 24 := by have := h.2; omega
        have hd : (decide (l[i].Field ≥ 0) && decide (l[i].Field < 24)) = true := by simp; omega
        have hc : chk 24 l[i].Field = some ⟨n, hn24⟩ := by rw [hn]; exact chk_nat hn24
        rw [hd, cond_true, Option.bind_some, Option.bind_some, F_r10_Tern_eq, Option.bind_some, hc, Option.bind_some, mput_in c l[i] n hn hn24]
        exact ih _
      · have hd : (decide (l[i].Field ≥ 0) && decide (l[i].Field < 24)) = false := by
          rw [Bool.and_eq_false_iff, decide_eq_false_iff_not, decide_eq_false_iff_not]; omega
        rw [hd, cond_false, mput_out c l[i] h]
        exact ih _
    · rw [decide_eq_false (by omega), cond_false, List.drop_of_length_le (by omega)]; rfl
theorem F_r21_Cube_eq (f : Flow) (hl : f.Match.length ≤ 100000) : F_r21_Cube f = some (fcube f) := by
  unfold F_r21_Cube F_r11_Cube
  have := F_r11_Cube_l1_eq f.Match hl ((((f.Match.length : Int) : Int) - 0).toNat + 1) 0 none24 (by omega) (by omega)
  rw [show ((0 : Nat) : Int) = 0 from rfl, List.drop_zero] at this
  show ((F_r11_Cube_l1 f.Match ((((f.Match.length : Int) : Int) - 0).toNat + 1) none24 0).bind _) = _
  rw [this, Option.bind_some, F_r06_Clean_eq]; rfl
def inT (t : List Flow) (l : List Int) : Prop := ∀ j ∈ l, ∃ k : Nat, k < t.length ∧ j = (k : Int)
theorem F_r27_Order_l3_eq (i : Nat) (hi : i ≤ 50) (go : List Int → Int → Option (List Int)) (A : List Int) (hA : A.length ≤ 50) : ∀ (Br S : List Int) (c : Int) (m : Nat), Br.length < m → Br.length ≤ 50 →
    F_r27_Order_l3 (A.length : Int) go (i : Int) m (A ++ (Br.reverse ++ c :: S)) ((A.length + Br.length : Nat) : Int) = go (A ++ (i : Int) :: (Br.reverse ++ S)) ((i + 1 : Nat) : Int)
  | [], S, c, m, hm, _ => by
    obtain ⟨m, rfl⟩ : ∃ k, m = k + 1 := ⟨m - 1, by simp at hm; omega⟩
    have g0 : lget (A ++ c :: S) (A.length : Int) = some c := by
      rw [lget_nat, List.getElem?_append_right (Nat.le_refl _)]; simp
    have s0 : List.set (A ++ c :: S) ((A.length : Int)).toNat (i : Int) = A ++ (i : Int) :: S := by
      rw [Int.toNat_natCast, List.set_append_right _ _ (Nat.le_refl _)]; simp
    rw [F_r27_Order_l3, decide_eq_false (by simp), cond_false]
    simp only [List.reverse_nil, List.nil_append]
    rw [g0, Option.bind_some, s0, inc i (by omega)]
  | b :: Br, S, c, m, hm, hb => by
    simp only [List.length_cons] at hm hb
    obtain ⟨m, rfl⟩ : ∃ k, m = k + 1 := ⟨m - 1, by omega⟩
    have e0 : A ++ ((b :: Br).reverse ++ c :: S) = (A ++ Br.reverse) ++ b :: c :: S := by simp
    have ej : IntKind.i64.wrap (((A.length + (b :: Br).length : Nat) : Int) - 1) = ((A.length + Br.length : Nat) : Int) := by rw [wrap_i64 (by simp only [List.length_cons]; omega) (by simp only [List.length_cons]; omega)]; simp only [List.length_cons]; omega
    have hlen : (A ++ Br.reverse).length = A.length + Br.length := by simp
    have g0 : lget ((A ++ Br.reverse) ++ b :: c :: S) ((A.length + Br.length : Nat) : Int) = some b := by
      rw [lget_nat, List.getElem?_append_right (by omega), hlen, Nat.sub_self]; rfl
    have g1 : lget ((A ++ Br.reverse) ++ b :: c :: S) ((A.length + (b :: Br).length : Nat) : Int) = some c := by
      rw [lget_nat, List.getElem?_append_right (by simp only [List.length_cons]; omega), hlen]
      have : A.length + (b :: Br).length - (A.length + Br.length) = 1 := by simp only [List.length_cons]; omega
      rw [this]; rfl
    have s1 : List.set ((A ++ Br.reverse) ++ b :: c :: S) (((A.length + (b :: Br).length : Nat) : Int)).toNat b = A ++ (Br.reverse ++ b :: b :: S) := by
      rw [Int.toNat_natCast, List.set_append_right _ _ (by simp only [List.length_cons]; omega), hlen]
      have : A.length + (b :: Br).length - (A.length + Br.length) = 1 := by simp only [List.length_cons]; omega
      rw [this]; simp
    rw [e0, F_r27_Order_l3, decide_eq_true (by simp only [List.length_cons]; omega), cond_true, ej, g0, Option.bind_some, g1, Option.bind_some, s1, F_r27_Order_l3_eq i hi go A hA Br (b :: S) b m (by omega) (by omega)]
    simp
theorem F_r27_Order_l2_eq (t : List Flow) (ht : t.length ≤ 50) (i : Nat) (hi : i < t.length) (go : List Int → Int → Option (List Int)) : ∀ (Ar B : List Int) (m : Nat), Ar.length < m → Ar.length + B.length ≤ 50 → inT t Ar →
    F_r27_Order_l2 (Ar.reverse ++ B) t (i : Int) go m (Ar.length : Int) = go ((rins (ltP t) (i : Int) Ar).reverse ++ B) ((i + 1 : Nat) : Int)
  | [], B, m, hm, hb, _ => by
    have hlim : lim = 4294967296 := rfl
    obtain ⟨m, rfl⟩ : ∃ k, m = k + 1 := ⟨m - 1, by simp at hm; omega⟩
    simp only [List.length_nil, Nat.zero_add] at hb
    rw [F_r27_Order_l2, show decide ((([] : List Int).length : Int) > 0) = false from rfl]
    simp only [opt_false, Option.bind_some, Bool.false_and, cond_false, List.reverse_nil, List.nil_append]
    rw [appd_ok (by simp; omega), Option.bind_some]
    have e1 : IntKind.i64.wrap (((B ++ [(0 : Int)]).length : Int) - 1) = ((([] : List Int).length + B.reverse.length : Nat) : Int) := by rw [wrap_i64 (by simp <;> omega) (by simp <;> omega)]; simp
    have := F_r27_Order_l3_eq i (by omega) go [] (by simp) B.reverse [] (0 : Int) ((((([] : List Int).length + B.reverse.length : Nat) : Int) - (([] : List Int).length : Int)).toNat + 1) (by simp <;> omega) (by simp <;> omega)
    simp only [List.nil_append, List.reverse_reverse, List.append_nil] at this
    rw [e1]
    refine Eq.trans this ?_
    simp [rins]
  | y :: Ar, B, m, hm, hb, hR => by
    have hlim : lim = 4294967296 := rfl
    obtain ⟨k, hk, rfl⟩ := hR y (by simp)
    simp only [List.length_cons] at hm hb
    obtain ⟨m, rfl⟩ : ∃ k, m = k + 1 := ⟨m - 1, by omega⟩
    have ej : IntKind.i64.wrap ((((k : Int) :: Ar).length : Int) - 1) = (Ar.length : Int) := by rw [wrap_i64 (by simp only [List.length_cons]; omega) (by simp only [List.length_cons]; omega)]; simp only [List.length_cons]; omega
    have e0 : ((k : Int) :: Ar).reverse ++ B = Ar.reverse ++ (k : Int) :: B := by simp
    have g0 : lget (Ar.reverse ++ (k : Int) :: B) (Ar.length : Int) = some (k : Int) := by
      rw [lget_nat, List.getElem?_append_right (by simp)]; simp
    have elt : decide (t[k].Priority < t[i].Priority) = ltP t (i : Int) (k : Int) := by
      unfold ltP
      rw [prioOf_nat hi, prioOf_nat hk]
    rw [F_r27_Order_l2, decide_eq_true (by simp only [List.length_cons]; omega), opt_true, ej, e0, g0, Option.bind_some, opt_true, lget_lt hk, Option.bind_some, opt_true, lget_lt hi, Option.bind_some, Bool.true_and, rins, elt]
    cases ltP t (i : Int) (k : Int)
    · rw [cond_false, cond_false, appd_ok (by simp; omega), Option.bind_some]
      have e1 : IntKind.i64.wrap (((Ar.reverse ++ (k : Int) :: B ++ [(0 : Int)]).length : Int) - 1) = ((((k : Int) :: Ar).reverse.length + B.reverse.length : Nat) : Int) := by rw [wrap_i64 (by simp; omega) (by simp; omega)]; simp; omega
      have := F_r27_Order_l3_eq i (by omega) go ((k : Int) :: Ar).reverse (by simp; omega) B.reverse [] (0 : Int) ((((((k : Int) :: Ar).reverse.length + B.reverse.length : Nat) : Int) - (((k : Int) :: Ar).length : Int)).toNat + 1) (by simp; omega) (by simp; omega)
      simp only [List.reverse_reverse, List.append_nil] at this
      rw [e1]
      have e2 : Ar.reverse ++ (k : Int) :: B ++ [(0 : Int)] = ((k : Int) :: Ar).reverse ++ (B ++ [(0 : Int)]) := by simp
      have e3 : ((((k : Int) :: Ar).length : Int)) = ((((k : Int) :: Ar).reverse.length : Nat) : Int) := by simp
      rw [e2]
      rw [e3] at this ⊢
      refine Eq.trans this ?_
      simp
    · rw [cond_true, cond_true, F_r27_Order_l2_eq t ht i hi go Ar ((k : Int) :: B) m (by omega) (by simp only [List.length_cons]; omega) fun j hj => hR j (by simp [hj])]
      simp
theorem places_drop (n i : Nat) (h : i < n) : (places n).drop i = (i : Int) :: (places n).drop (i + 1) := by
  have hl : i < (places n).length := by simp [places]; exact h
  rw [List.drop_eq_getElem_cons hl]
  congr 1
  simp [places]
theorem F_r27_Order_l1_eq (t : List Flow) (hl : t.length ≤ 50) : ∀ (m i : Nat) (R : List Int), i ≤ t.length → t.length < i + m → R.length ≤ i → inT t R → F_r27_Order_l1 t m R.reverse (i : Int) = some ((((places t.length).drop i).foldl (fun R x => rins (ltP t) x R) R).reverse)
  | 0, i, R, h1, h2, h3, _ => by omega
  | m + 1, i, R, h1, h2, h3, hR => by
    rw [F_r27_Order_l1]
    by_cases hi : i < t.length
    · have h4 := F_r27_Order_l2_eq t hl i hi (F_r27_Order_l1 t m) R [] fuel0 (by unfold fuel0; omega) (by simp; omega) hR
      rw [List.append_nil, List.append_nil] at h4
      have e : ((R.reverse).length : Int) = (R.length : Int) := by simp
      rw [decide_eq_true (by omega), cond_true, e, h4, F_r27_Order_l1_eq t hl m (i + 1) _ (by omega) (by omega) (by rw [rins_len]; omega) (fun j hj => by
        rcases List.mem_cons.1 ((rins_perm (ltP t) (i : Int) R).mem_iff.1 hj) with rfl | hj
        · exact ⟨i, hi, rfl⟩
        · exact hR j hj), places_drop _ _ hi, List.foldl_cons]
    · rw [decide_eq_false (by omega), cond_false, List.drop_of_length_le (by simp [places]; omega)]; rfl
theorem F_r27_Order_eq (t : List Flow) (hl : t.length ≤ 50) : F_r27_Order t = some (order t) := by
  unfold F_r27_Order order srt
  have := F_r27_Order_l1_eq t hl ((((t.length : Int) : Int) - 0).toNat + 1) 0 [] (by omega) (by omega) (by simp) (by intro j hj; simp at hj)
  rw [show ((0 : Nat) : Int) = 0 from rfl, List.drop_zero] at this
  exact this
def fewM (t : List Flow) : Prop := ∀ f ∈ t, f.Match.length ≤ 100000
theorem F_r14_Of_l1_eq (l : List Inst) (k : Int) (hl : l.length ≤ 100000) : ∀ (m i : Nat), i ≤ l.length → l.length < i + m → F_r14_Of_l1 l k m (i : Int) = some (optP zInst' (ofI (l.drop i) k))
  | 0, i, h1, h2 => by omega
  | m + 1, i, h1, h2 => by
    rw [F_r14_Of_l1]
    by_cases hi : i < l.length
    · rw [decide_eq_true (by omega), cond_true, lget_lt hi, Option.bind_some, List.drop_eq_getElem_cons hi, inc i (by omega), F_r14_Of_l1_eq l k hl m (i + 1) (by omega) (by omega)]
      unfold ofI
      rw [List.find?_cons]
      cases decide (l[i].Kind = k) <;> rfl
    · rw [decide_eq_false (by omega), cond_false, List.drop_of_length_le (by omega)]; rfl
theorem F_r14_Of_eq (l : List Inst) (k : Int) (hl : l.length ≤ 100000) : F_r14_Of l k = some (optP zInst' (ofI l k)) := by
  unfold F_r14_Of
  have := F_r14_Of_l1_eq l k hl ((((l.length : Int) : Int) - 0).toNat + 1) 0 (by omega) (by omega)
  rw [show ((0 : Nat) : Int) = 0 from rfl, List.drop_zero] at this
  exact this
end Go.Proofs.YtknpgojdkobgjaaGreat.W
set_option linter.unusedVariables false
set_option linter.unusedSimpArgs false
namespace Go.Proofs.YtknpgojdkobgjaaGreat.W
open Go Go.Wb
theorem F_r05_Meet_eqV (a b : Tern) : F_r05_Meet a b = some (optP zTern (tmeet a b)) := by
  unfold F_r05_Meet tmeet
  rw [F_r02_And_eq, Option.bind_some, F_r02_Xor_eq, Option.bind_some, F_r02_And_eq, Option.bind_some, F_r02_Zero_eq, Option.bind_some]
  cases wzero (wand (wxor a.Value b.Value) (wand a.Mask b.Mask)) <;> rfl
theorem F_r06_Meet_l1_eqV (a x : Cube) : ∀ (m i : Nat), i ≤ 24 → 24 < i + m → (∀ j, j < i → (tmeet (ve a j) (ve x j)).isSome = true) →
    F_r06_Meet_l1 a x m (upto (fun j => (tmeet (ve a j) (ve x j)).getD zTern) none24 i) (i : Int) = some (optP none24 (cmeet a x))
  | 0, i, h1, h2, _ => by omega
  | m + 1, i, h1, h2, h3 => by
    rw [F_r06_Meet_l1]
    by_cases hi : i < 24
    · rw [decide_eq_true (by omega), cond_true, chk_nat hi, Option.bind_some, Option.bind_some, vget_eq, vget_eq, F_r05_Meet_eqV, Option.bind_some]
      cases ht : tmeet (ve a i) (ve x i) with
      | none =>
        rw [show (!(optP zTern (none : Option Tern)).2) = true from rfl, cond_true]
        unfold cmeet
        rw [ceach_none_of i hi ht]; rfl
      | some t =>
        rw [show (!(optP zTern (some t)).2) = false from rfl, cond_false, Option.bind_some, inc i (by omega)]
        have h4 := upto_set (fun j => (tmeet (ve a j) (ve x j)).getD zTern) none24 i hi
        simp only [ht, Option.getD_some] at h4
        show F_r06_Meet_l1 a x m (Vector.set (upto _ none24 i) i t hi) _ = _
        rw [h4]
        exact F_r06_Meet_l1_eqV a x m (i + 1) (by omega) (by omega) fun j hj => by
          by_cases e : j = i
          · subst e; rw [ht]; rfl
          · exact h3 j (by omega)
    · have : i = 24 := by omega
      subst this
      rw [decide_eq_false (by omega), cond_false, upto_all]
      have : cmeet a x = some (Vector.ofFn fun i => (tmeet (ve a i.1) (ve x i.1)).getD zTern) := by
        unfold cmeet ceach
        rw [List.all_eq_true.2 fun j hj => h3 j (by simpa using hj), cond_true]
      rw [this]; rfl
theorem F_r06_Meet_eqV (a x : Cube) : F_r06_Meet a x = some (optP none24 (cmeet a x)) := by
  unfold F_r06_Meet
  have := F_r06_Meet_l1_eqV a x (((24 : Int) - 0).toNat + 1) 0 (by omega) (by decide) (by omega)
  rw [upto_zero] at this
  exact this
theorem F_r09_Before_l1_eq (r c : Cube) : ∀ (m i : Nat), i ≤ 24 → 24 < i + m → (∀ j, j < i → (tmeet (ve r j) (ve c j)).isSome = true) →
    F_r09_Before_l1 r c m (upto (fun j => tclean ⟨(ve c j).Value, wless (ve c j).Mask (ve r j).Mask⟩) none24 i) (i : Int) = some (optP none24 (cbefore r c))
  | 0, i, h1, h2, _ => by omega
  | m + 1, i, h1, h2, h3 => by
    rw [F_r09_Before_l1]
    by_cases hi : i < 24
    · rw [decide_eq_true (by omega), cond_true, chk_nat hi, Option.bind_some, Option.bind_some, vget_eq, vget_eq, F_r05_Meet_eqV, Option.bind_some]
      cases ht : tmeet (ve r i) (ve c i) with
      | none =>
        rw [show (!(optP zTern (none : Option Tern)).2) = true from rfl, cond_true]
        unfold cbefore
        rw [show ((List.range 24).all fun i => (tmeet (ve r i) (ve c i)).isSome) = false from List.all_eq_false.2 ⟨i, by simpa using hi, by rw [ht]; simp⟩]; rfl
      | some t =>
        rw [show (!(optP zTern (some t)).2) = false from rfl, cond_false, Option.bind_some, Option.bind_some, Option.bind_some, F_r02_Less_eq, Option.bind_some, vget_eq, vget_eq, F_r05_Clean_eqR, Option.bind_some, Option.bind_some, inc i (by omega)]
        have h4 := upto_set (fun j => tclean ⟨(ve c j).Value, wless (ve c j).Mask (ve r j).Mask⟩) none24 i hi
        show F_r09_Before_l1 r c m (Vector.set (upto _ none24 i) i (tclean ⟨(ve c i).Value, wless (ve c i).Mask (ve r i).Mask⟩) hi) _ = _
        rw [h4]
        exact F_r09_Before_l1_eq r c m (i + 1) (by omega) (by omega) fun j hj => by
          by_cases e : j = i
          · subst e; rw [ht]; rfl
          · exact h3 j (by omega)
    · have : i = 24 := by omega
      subst this
      rw [decide_eq_false (by omega), cond_false, upto_all]
      unfold cbefore
      rw [show ((List.range 24).all fun i => (tmeet (ve r i) (ve c i)).isSome) = true from List.all_eq_true.2 fun j hj => h3 j (by simpa using hj)]; rfl
theorem F_r09_Before_eq (r c : Cube) : F_r09_Before r c = some (optP none24 (cbefore r c)) := by
  unfold F_r09_Before
  have := F_r09_Before_l1_eq r c (((24 : Int) - 0).toNat + 1) 0 (by omega) (by decide) (by omega)
  rw [upto_zero] at this
  exact this
abbrev WalkT := Switch → Int → Cube → Cube → List Atom → List Action → Option (List Rule)
abbrev OneT := Switch → Int → Flow → Cube → Cube → List Atom → List Action → Option (List Rule)
def rulesF (R : Nat → walk_way → List Rule) (at_ : Nat) (f : Flow) (x : walk_way) : List Rule := match nextT at_ f.Insts with
  | some n => R n (wdo x f.Insts)
  | none => [ruleOf (wend (wdo x f.Insts))]
theorem F_r33_one_s_eq (s : Switch) (at_ : Nat) (f : Flow) (x : walk_way) (Rw : WalkT) (Ro : OneT) (R : Nat → walk_way → List Rule) (hf : lightI f.Insts) (hi : f.Insts.length ≤ 100000) (ha : at_ < 4) (hx : lightW at_ x)
    (hR : ∀ n w, at_ < n → n < 4 → lightW n w → Rw s (n : Int) w.cube w.got w.atoms w.set = some (R n w)) :
    F_r33_one_s Rw Ro s (at_ : Int) f x.cube x.got x.atoms x.set = some (rulesF R at_ f x) := by
  have hlim : lim = 4294967296 := rfl
  have hxa := hx.1
  have hxs := hx.2
  have b1 := wapply_bd x hf
  have b2 := wclear_bd (wapply x f.Insts) f.Insts
  have b3 := wwrite_bd (wclear (wapply x f.Insts) f.Insts) hf
  have b4 := wdo_bd x hf
  have j4 : ∀ b : walk_way, b.atoms.length ≤ 2000 → b.set.length ≤ 50 → (∀ n, nextT at_ f.Insts = some n → lightW n b) → F_r33_one_s_j4 f (at_ : Int) Rw s b.cube b.atoms b.set b.got = some (match nextT at_ f.Insts with | some n => R n b | none => [ruleOf (wend b)]) := fun b h1 h2 h3 => by
    unfold F_r33_one_s_j4
    rw [F_r14_Of_eq _ 1 hi, Option.bind_some]
    have hend : ((F_r28_List b.set).bind fun x24 => (F_r32_Do x24 b.got).bind fun x25 => (appd b.atoms x25.1).bind fun l27 => some [(⟨b.cube, l27⟩ : Rule)]) = some [ruleOf (wend b)] := by
      have h5 := lstA_len b.set
      have h6 := outs_le (lstA b.set)
      rw [F_r28_List_eqR _ h2, Option.bind_some, F_r32_Do_eqR _ _ (by omega), Option.bind_some, appd_ok (by rw [doT_len]; omega)]; rfl
    cases ho : ofI f.Insts 1 with
    | none => rw [nextT_none ho]; exact hend
    | some i =>
      show (bif ((true && decide (i.Table > (at_ : Int))) && decide (i.Table < 4)) then _ else _) = _
      rw [Bool.true_and]
      by_cases hc : i.Table > (at_ : Int) ∧ i.Table < 4
      · have hd : (decide (i.Table > (at_ : Int)) && decide (i.Table < 4)) = true := by
          rw [Bool.and_eq_true, decide_eq_true_eq, decide_eq_true_eq]; exact hc
        have hn := nextT_pos ho hc
        have e : ((i.Table.toNat : Nat) : Int) = i.Table := by omega
        have h5 := hR i.Table.toNat b (by omega) (by omega) (h3 _ hn)
        rw [e] at h5
        rw [hn, hd, cond_true]
        show (Rw s i.Table b.cube b.got b.atoms b.set).bind _ = _
        rw [h5]; rfl
      · have hd : (decide (i.Table > (at_ : Int)) && decide (i.Table < 4)) = false := by
          rw [Bool.and_eq_false_iff, decide_eq_false_iff_not, decide_eq_false_iff_not]; omega
        rw [nextT_neg ho hc, hd, cond_false]
        exact hend
  have j3 : ∀ b : walk_way, b.atoms.length ≤ 2000 → b.set.length ≤ 50 → (∀ n, nextT at_ f.Insts = some n → lightW n b) → F_r33_one_s_j3 f b.got (at_ : Int) Rw s b.cube b.atoms b.set = some (match nextT at_ f.Insts with | some n => R n (wmeta b f.Insts) | none => [ruleOf (wend (wmeta b f.Insts))]) := fun b h1 h2 h3 => by
    have b5 := wmeta_bd b f.Insts
    unfold F_r33_one_s_j3
    rw [F_r14_Of_eq _ 2 hi, Option.bind_some, ← j4 (wmeta b f.Insts) (by rw [b5.1]; omega) (by rw [b5.2.1]; omega) (fun n hn => by unfold lightW; rw [b5.1, b5.2.1]; exact h3 n hn)]
    unfold wmeta
    cases ho : ofI f.Insts 2 with
    | none => rfl
    | some i =>
      simp only [optP, cond_true]
      rw [F_r09_Set_eqR]; rfl
  have j2 : ∀ b : walk_way, b.atoms.length ≤ 1500 → b.set.length ≤ 36 → (∀ n, nextT at_ f.Insts = some n → lightW n (wwrite b f.Insts)) → F_r33_one_s_j2 f b.got (at_ : Int) Rw s b.cube b.atoms b.set = some (match nextT at_ f.Insts with | some n => R n (wmeta (wwrite b f.Insts) f.Insts) | none => [ruleOf (wend (wmeta (wwrite b f.Insts) f.Insts))]) := fun b h1 h2 h3 => by
    have b5 := wwrite_bd b hf
    unfold F_r33_one_s_j2
    rw [F_r14_Of_eq _ 3 hi, Option.bind_some, ← j3 (wwrite b f.Insts) (by rw [b5.1]; omega) (by have := b5.2.1; omega) h3]
    unfold wwrite
    cases ho : ofI f.Insts 3 with
    | none => rfl
    | some i =>
      have := hf i (ofI_mem ho)
      simp only [optP, cond_true]
      rw [F_r28_Write_eqRs _ _ (by omega) (by omega)]; rfl
  have j1 : ∀ b : walk_way, b.atoms.length ≤ 1500 → b.set.length ≤ 36 → (∀ n, nextT at_ f.Insts = some n → lightW n (wwrite (wclear b f.Insts) f.Insts)) → F_r33_one_s_j1 f (at_ : Int) Rw s b.cube b.set b.atoms b.got = some (match nextT at_ f.Insts with | some n => R n (wmeta (wwrite (wclear b f.Insts) f.Insts) f.Insts) | none => [ruleOf (wend (wmeta (wwrite (wclear b f.Insts) f.Insts) f.Insts))]) := fun b h1 h2 h3 => by
    have b5 := wclear_bd b f.Insts
    unfold F_r33_one_s_j1
    rw [F_r14_Of_eq _ 5 hi, Option.bind_some, ← j2 (wclear b f.Insts) (by rw [b5.1]; omega) (by have := b5.2.1; omega) h3]
    unfold wclear
    cases ho : ofI f.Insts 5 with
    | none => rfl
    | some i => rfl
  have hn : ∀ n, nextT at_ f.Insts = some n → lightW n (wwrite (wclear (wapply x f.Insts) f.Insts) f.Insts) := fun n hn => by
    have h1 := nextT_bd hn
    have h2 := b3.2.1
    have h3 := b2.2.1
    have h4 := b1.1
    exact ⟨by rw [b3.1, b2.1]; omega, by rw [b1.2.1] at h3; omega⟩
  have h1 := j1 (wapply x f.Insts) (by omega) (by rw [b1.2.1]; omega) hn
  unfold F_r33_one_s rulesF wdo
  rw [appd_ok (by simp; omega), Option.bind_some, List.nil_append, F_r14_Of_eq _ 4 hi, Option.bind_some, ← h1]
  unfold wapply
  cases ho : ofI f.Insts 4 with
  | none => rfl
  | some i =>
    have h2 := hf i (ofI_mem ho)
    have h3 := outs_le i.Acts
    simp only [optP, cond_true]
    rw [F_r32_Do_eqR _ _ (by omega), Option.bind_some, appd_ok (by rw [doT_len]; omega)]; rfl
theorem F_r33_walk_s_l1_eq (s : Switch) (at_ : Nat) (ha : at_ < 4) (hm : fewM (tblOf s at_)) (w : walk_way) (hw : w.atoms.length ≤ 1000) (R : Nat → walk_way → List Rule) (Ro : OneT) (o : List Int) (ho : inT (tblOf s at_) o) (hol : o.length ≤ 100)
    (hone : ∀ f ∈ tblOf s at_, ∀ x, wmeet w f = some x → Ro s (at_ : Int) f x.cube w.got w.atoms w.set = some (rulesF R at_ f x)) :
    ∀ (m i : Nat) (acc : List Rule), i ≤ o.length → o.length < i + m → acc.length + ((o.drop i).flatMap (ruleF R (tblOf s at_) at_ w)).length + 1 ≤ lim →
    F_r33_walk_s_l1 o (at_ : Int) s w.got w.cube Ro w.atoms w.set m acc (i : Int) = some (acc ++ (o.drop i).flatMap (ruleF R (tblOf s at_) at_ w) ++ [ruleOf w])
  | 0, i, acc, h1, h2, _ => by omega
  | m + 1, i, acc, h1, h2, h3 => by
    have hlim : lim = 4294967296 := rfl
    rw [F_r33_walk_s_l1]
    by_cases hi : i < o.length
    · obtain ⟨k, hk, hok⟩ := ho _ (List.getElem_mem hi)
      have hrule : ruleF R (tblOf s at_) at_ w (k : Int) = match wmeet w (tblOf s at_)[k] with
          | none => []
          | some x => rulesF R at_ (tblOf s at_)[k] x := by
        unfold ruleF
        rw [Int.toNat_natCast, List.getElem?_eq_getElem hk]; rfl
      rw [List.drop_eq_getElem_cons hi, List.flatMap_cons, hok, hrule] at h3 ⊢
      have ih := fun acc => F_r33_walk_s_l1_eq s at_ ha hm w hw R Ro o ho hol hone m (i + 1) acc (by omega) (by omega)
      rw [decide_eq_true (by omega), cond_true, chk_nat ha, Option.bind_some, lget_lt hi, Option.bind_some, hok, tblOf_lt, lget_lt hk, Option.bind_some, F_r21_Cube_eq _ (hm _ (List.getElem_mem hk)), Option.bind_some, F_r09_Before_eq, Option.bind_some, inc i (by omega)]
      have hmw : wmeet w (tblOf s at_)[k] = (cbefore w.got (fcube (tblOf s at_)[k])).bind fun b => (cmeet b w.cube).map fun c => { w with cube := c } := rfl
      have hone := hone _ (List.getElem_mem hk)
      revert h3 hone
      rw [hmw]
      cases hb : cbefore w.got (fcube (tblOf s at_)[k]) with
      | none =>
        intro h3 hone
        simp only [optP, Bool.not_false, cond_true, Option.bind_none, List.nil_append] at h3 ⊢
        exact ih acc h3
      | some b =>
        simp only [optP, Bool.not_true, cond_false, Option.bind_some]
        rw [F_r06_Meet_eqV, Option.bind_some]
        cases hc : cmeet b w.cube with
        | none =>
          intro h3 hone
          simp only [optP, cond_false, Option.map_none, List.nil_append] at h3 ⊢
          exact ih acc h3
        | some c =>
          intro h3 hone
          simp only [optP, cond_true, Option.map_some] at h3 ⊢
          have h4 := hone _ rfl
          simp only at h4
          rw [List.length_append] at h3
          rw [h4, Option.bind_some, appd_ok (by omega), Option.bind_some, ih _ (by rw [List.length_append]; omega)]
          simp only [List.append_assoc]
    · rw [decide_eq_false (by omega), cond_false, List.drop_of_length_le (by omega), appd_ok (by simp; omega), Option.bind_some, appd_ok (by simp; omega)]
      simp [ruleOf]
theorem F_r33_walk_eqD (s : Switch) (hs : lightS s) (hI : ∀ i, i < 4 → ∀ f ∈ tblOf s i, f.Insts.length ≤ 100000 ∧ f.Match.length ≤ 100000) (hmost : mostFrom s 4 0 ≤ lim) : ∀ (d n at_ : Nat) (w : walk_way), 4 ≤ at_ + d → at_ < 4 → 2 * d ≤ n → lightW at_ w →
    (FR_r33_walk__r33_one n).1 s (at_ : Int) w.cube w.got w.atoms w.set = some (rulesL s d at_ w)
  | 0, n, at_, w, h0, h1, _, _ => by omega
  | d + 1, n, at_, w, h0, h1, h2, hw => by
    obtain ⟨n, rfl⟩ : ∃ k, n = k + 2 := ⟨n - 2, by omega⟩
    have hl := hs at_ h1
    have hlen := rulesL_len s (d + 1) at_ w h0 h1
    have hsk := mostFrom_skip s 4 0 at_ (by omega) (by omega) (by omega)
    show F_r33_walk_s (FR_r33_walk__r33_one (n + 1)).1 (FR_r33_walk__r33_one (n + 1)).2 s (at_ : Int) w.cube w.got w.atoms w.set = _
    unfold F_r33_walk_s
    rw [chk_nat h1, Option.bind_some, tblOf_lt, F_r27_Order_eq _ (by have := hl.1; omega), Option.bind_some]
    have hol := order_len (tblOf s at_)
    have := F_r33_walk_s_l1_eq s at_ h1 (fun f hf => (hI at_ h1 f hf).2) w (by have := hw.1; omega) (rulesL s d) (FR_r33_walk__r33_one (n + 1)).2 (order (tblOf s at_)) (fun j hj => order_mem.1 hj) (by have := hl.1; omega) (fun f hf x hx => by
      have hb := wmeet_bd hx
      have hg : x.got = w.got := by
        unfold wmeet at hx
        obtain ⟨b, _, h4⟩ := Option.bind_eq_some_iff.1 hx
        obtain ⟨c, _, h5⟩ := Option.map_eq_some_iff.1 h4
        subst h5; rfl
      show F_r33_one_s (FR_r33_walk__r33_one n).1 (FR_r33_walk__r33_one n).2 s (at_ : Int) f x.cube w.got w.atoms w.set = _
      rw [← hg, ← hb.1, ← hb.2]
      exact F_r33_one_s_eq s at_ f x _ _ (rulesL s d) (hl.2 f hf) (hI at_ h1 f hf).1 h1 (by unfold lightW; rw [hb.1, hb.2]; exact hw) fun k y h5 h6 h7 => F_r33_walk_eqD s hs hI hmost d n k y (by omega) h6 (by omega) h7) ((((order (tblOf s at_)).length : Int) - 0).toNat + 1) 0 [] (by omega) (by omega) (by
      rw [rulesL, List.length_append, List.length_singleton] at hlen
      rw [List.drop_zero, List.length_nil]; omega)
    rw [List.drop_zero, List.nil_append] at this
    exact this
theorem F_r33_List_eq (s : Switch) (hs : lightS s) (hI : ∀ i, i < 4 → ∀ f ∈ tblOf s i, f.Insts.length ≤ 100000 ∧ f.Match.length ≤ 100000) (hmost : mostFrom s 4 0 ≤ lim) : F_r33_List s = some (rulesS s) := by
  unfold F_r33_List F_r06_All F_r09_None F_r33_walk
  rw [Option.bind_some, Option.bind_some]
  show ((FR_r33_walk__r33_one fuel0).1 s ((0 : Nat) : Int) way0.cube way0.got way0.atoms way0.set).bind _ = _
  rw [F_r33_walk_eqD s hs hI hmost 4 fuel0 0 way0 (by omega) (by omega) (by unfold fuel0; omega) ⟨by simp [way0], by simp [way0]⟩]; rfl
end Go.Proofs.YtknpgojdkobgjaaGreat.W
set_option linter.unusedVariables false
set_option linter.unusedSimpArgs false
namespace Go.Proofs.YtknpgojdkobgjaaGreat.W
open Go Go.Wb
def rcl (r : Rule) : Cube × List Atom := (cclean r.Cube, r.Atoms.map acl)
theorem F_l33_same_1_eq (a b : Rule) (h : a.Atoms.length ≤ 1000000) : F_l33_same_1 a b = some (decide (rcl a = rcl b)) := by
  unfold F_l33_same_1 rcl
  rw [F_r06_Clean_eq, Option.bind_some, F_r06_Clean_eq, Option.bind_some, F_r32_Same_eq _ _ h]
  by_cases h1 : cclean a.Cube = cclean b.Cube <;> by_cases h2 : a.Atoms.map acl = b.Atoms.map acl <;> simp [opt, h1, h2]
end Go.Proofs.YtknpgojdkobgjaaGreat.W
set_option linter.unusedVariables false
set_option linter.unusedSimpArgs false
namespace Go.Proofs.YtknpgojdkobgjaaGreat.W
open Go Go.Wb
theorem F_l33_same_self (a : List Rule) (h : ∀ r ∈ a, r.Atoms.length ≤ 1000000) : F_l33_same a a = some true := by
  have key : ∀ (l : List Rule) (i : Nat), (∀ r ∈ l, r.Atoms.length ≤ 1000000) → l = a.drop i → F_slices_EqualFunc_Rule_Rule_l1 a F_l33_same_1 l i = some true := by
    intro l
    induction l with
    | nil => intro i _ _; rfl
    | cons x l ih =>
      intro i hl e
      have hi : i < a.length := by
        have := congrArg List.length e
        simp at this; omega
      rw [List.drop_eq_getElem_cons hi] at e
      obtain ⟨e1, e2⟩ := List.cons.inj e
      rw [F_slices_EqualFunc_Rule_Rule_l1, lget_lt hi, Option.bind_some, ← e1, F_l33_same_1_eq _ _ (hl x (by simp)), Option.bind_some, decide_eq_true rfl, Bool.not_true, cond_false]
      exact ih (i + 1) (fun r hr => hl r (by simp [hr])) e2
  unfold F_l33_same F_slices_EqualFunc_Rule_Rule
  rw [decide_eq_false (by omega), cond_false, key a 0 h rfl]; rfl
theorem all_b1 (n : Nat) (hn : n ≤ 1000) : ∀ (L acc : List Rule), acc.length < n → yf (F_l33_all_b1 (n : Int)) L acc = some (if acc.length + L.length < n then .go (acc ++ L) else .out (.exit 0) ((acc ++ L).take n))
  | [], acc, h => by
    rw [if_pos (by simpa using h)]
    simp [yf]
  | x :: L, acc, h => by
    have hlim : lim = 4294967296 := rfl
    have e : F_l33_all_b1 (n : Int) acc x = some (if acc.length + 1 < n then .go (acc ++ [x]) else .out (.exit 0) (acc ++ [x])) := by
      unfold F_l33_all_b1
      rw [appd_ok (by simp; omega), Option.bind_some]
      by_cases h2 : acc.length + 1 < n
      · rw [if_pos h2, decide_eq_false (by simp; omega)]; rfl
      · rw [if_neg h2, decide_eq_true (by simp; omega)]; rfl
    rw [yf, e]
    by_cases h2 : acc.length + 1 < n
    · rw [if_pos h2]
      show yf (F_l33_all_b1 (n : Int)) L (acc ++ [x]) = _
      rw [all_b1 n hn L (acc ++ [x]) (by simp; omega)]
      simp only [List.length_append, List.length_cons, List.length_nil, List.append_assoc, List.singleton_append]
      by_cases h3 : acc.length + (L.length + 1) < n
      · rw [if_pos h3, if_pos (by omega)]
      · rw [if_neg h3, if_neg (by omega)]
    · rw [if_neg h2, if_neg (by simp; omega)]
      have : n = (acc ++ [x]).length := by simp; omega
      show some (Lp.out _ (acc ++ [x])) = _
      rw [this, show acc ++ x :: L = (acc ++ [x]) ++ L by simp, List.take_left]
theorem F_l33_all_eq (s : Switch) (hs : lightS s) (n : Nat) (h0 : 0 < n) (hn : n ≤ 1000) : F_l33_all s (n : Int) = some ((rulesS s).take n) := by
  unfold F_l33_all
  rw [F_walk_Rules_eq, Option.bind_some]
  show (F_walk_Rules_1 (List Rule) (F_l33_all_b1 (n : Int)) (.go []) s).bind _ = _
  rw [F_walk_Rules_1_eq _ _ s hs, all_b1 n hn (rulesS s) [] (by simpa using h0), Option.bind_some]
  by_cases h : ([] : List Rule).length + (rulesS s).length < n
  · rw [if_pos h, List.take_of_length_le (by simp at h; omega)]; rfl
  · rw [if_neg h]; rfl
theorem rulesL_atoms' (s : Switch) (hs : lightS s) : ∀ (d at_ : Nat) (w : walk_way), at_ < 4 → lightW at_ w → ∀ r ∈ rulesL s d at_ w, r.Atoms.length ≤ 1000
  | 0, at_, w, h4, hw, r, hr => by
    rw [rulesL, List.mem_singleton] at hr
    rw [hr]
    have := hw.1
    show w.atoms.length ≤ 1000
    omega
  | d + 1, at_, w, h4, hw, r, hr => by
    have h0 := hw.1
    have h1 := hw.2
    rw [rulesL] at hr
    rcases List.mem_append.1 hr with hr | hr
    · obtain ⟨i, hi, hr⟩ := List.mem_flatMap.1 hr
      unfold ruleF at hr
      split at hr
      · cases hr
      · rename_i f hf
        have hfi := (hs at_ h4).2 f (List.mem_of_getElem? hf)
        split at hr
        · cases hr
        · rename_i x hx
          have hx := wmeet_bd hx
          have hd := wdo_bd x hfi
          rw [hx.1, hx.2] at hd
          split at hr
          · rename_i n hn
            have hb := nextT_bd hn
            exact rulesL_atoms' s hs d _ _ hb.2 ⟨by omega, by omega⟩ r hr
          · rw [List.mem_singleton] at hr
            rw [hr]
            have := wend_bd (wdo x f.Insts)
            show (wend (wdo x f.Insts)).atoms.length ≤ 1000
            omega
    · rw [List.mem_singleton] at hr
      rw [hr]
      show w.atoms.length ≤ 1000
      omega
theorem rulesS_atoms' (s : Switch) (hs : lightS s) : ∀ r ∈ rulesS s, r.Atoms.length ≤ 1000 := rulesL_atoms' s hs 4 0 way0 (by omega) ⟨by simp [way0], by simp [way0]⟩
theorem fewS_most' {s : Switch} {m : Nat} (h : fewS s (m : Int) = true) (hm : m ≤ 8) : mostFrom s 4 0 ≤ lim := by
  have hlim : lim = 4294967296 := rfl
  have h1 := mostFrom_le s 8 fun i hi => by have := ((fewS_light h).1 i hi).1; omega
  omega
theorem fewS_lightMW {s : Switch} {many : Nat} (h : fewS s (many : Int) = true) : ∀ i, i < 4 → ∀ f ∈ tblOf s i, f.Insts.length ≤ 100000 ∧ f.Match.length ≤ 100000 := fun i hi f hf => by
  have := ((fewS_light h).1 i hi).2 f hf
  omega
set_option maxRecDepth 100000 in
theorem F_l33_awake_eqT : F_l33_awake = some true := by decide +kernel
theorem F_l33_WalkTells_eq (s : Switch) (most : Int) (h0 : 0 ≤ most) (h1 : most ≤ 255) : F_l33_WalkTells s most = some true := by
  obtain ⟨n, rfl⟩ : ∃ n : Nat, most = (n : Int) := ⟨most.toNat, by omega⟩
  unfold F_l33_WalkTells
  rw [F_l33_awake_eqT, Option.bind_some, Bool.not_true, Bool.not_false, opt_true, F_pl_Switch_eq, Option.bind_some]
  cases hf : fewS s 5
  · rfl
  · have hs := fewS_lightS (many := 5) hf (by omega)
    have hmost := fewS_most' (m := 5) hf (by omega)
    have hat := rulesS_atoms' s hs
    have e1 : IntKind.i64.wrap (1 + IntKind.i64.wrap (n : Int)) = ((n + 1 : Nat) : Int) := by
      rw [wrap_i64 (n := (n : Int)) (by omega) (by omega), wrap_i64 (by omega) (by omega)]; omega
    rw [F_walk_Rules_eq, e1]
    show (F_r33_List s).bind _ = _
    have e2 : imin ((n + 1 : Nat) : Int) ((rulesS s).length : Int) = ((min (n + 1) (rulesS s).length : Nat) : Int) := by
      unfold imin
      by_cases h : ((rulesS s).length : Int) < ((n + 1 : Nat) : Int)
      · rw [decide_eq_true h, cond_true]; omega
      · rw [decide_eq_false h, cond_false]; omega
    have e3 : otake (rulesS s) ((min (n + 1) (rulesS s).length : Nat) : Int) = some ((rulesS s).take (n + 1)) := by
      unfold otake
      rw [decide_eq_true (by omega), Int.toNat_natCast, Nat.ble_eq_true_of_le (Nat.min_le_right ..)]
      simp
    rw [F_r33_List_eq s hs (fewS_lightMW (many := 5) hf) hmost, Option.bind_some, F_walk_List_eq s hs hmost, Option.bind_some, F_l33_same_self _ fun r hr => Nat.le_trans (hat r hr) (by omega), Option.bind_some, opt_true, F_l33_all_eq s hs (n + 1) (by omega) (by omega), Option.bind_some, e2, e3, opt_true, Option.bind_some, opt_true,
      F_l33_same_self _ fun r hr => Nat.le_trans (hat r (List.mem_of_mem_take hr)) (by omega)]
    rfl
theorem F_l33_WalkTells_row {W : World} {H M : HS} {v : Value} (s : Switch) (most : Int) (h : (rd (kint .u8) most).R W H M v) : F_l33_WalkTells s most = some true :=
  F_l33_WalkTells_eq s most (rd_int h).2.1 (rd_int h).2.2
end Go.Proofs.YtknpgojdkobgjaaGreat.W
