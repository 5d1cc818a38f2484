/- LawB: a part of the proof. -/
import Derived.Test.YtokmmcflinnfiaaLawA
set_option linter.unusedVariables false
set_option linter.unusedSimpArgs false
namespace Go.Proofs.Ytokmmcflinnfiaa.W
open Go Go.Wb

/-! ### the reference's turns -/
def turnOk (n : Nat) (g : Group) : Bool := !(decide (g.Kind = 1) && decide (1 ≤ g.Buckets.length) && decide (g.Buckets.length ≤ 4) && decide (n % g.Buckets.length ≠ 0))
theorem F74_l1_eq (l : List Group) (n : Nat) (hl : l.length ≤ lim) : ∀ (m i : Nat), i + m = l.length + 1 → i ≤ l.length → F74_l1 l (n : Int) m (i : Int) = some ((l.drop i).all (turnOk n)) := by
  have hlim : lim = 4294967296 := rfl
  intro m
  induction m with
  | zero => intro i h1 h2; omega
  | succ m ih =>
    intro i h1 h2
    rw [F74_l1]
    by_cases hc : i < l.length
    · rw [decide_eq_true (by omega : (i : Int) < (l.length : Int)), cond_true, lget_lt hc, Option.bind_some, Option.bind_some, List.drop_eq_getElem_cons hc, List.all_cons]
      have e : IntKind.i64.wrap ((i : Int) + 1) = ((i + 1 : Nat) : Int) := by rw [wrap_i64 (by omega) (by omega)]; omega
      rw [e]
      unfold turnOk at ih ⊢
      by_cases hk : l[i].Kind = 1 ∧ 1 ≤ l[i].Buckets.length ∧ l[i].Buckets.length ≤ 4
      · obtain ⟨k1, k2, k3⟩ := hk
        have e1 : (decide (l[i].Kind = 1) && decide ((l[i].Buckets.length : Int) ≥ 1) && decide ((l[i].Buckets.length : Int) ≤ 4)) = true := by simp [k1]; omega
        rw [e1, opt_true, omod_nat n _ (by omega), Option.bind_some]
        by_cases hm : n % l[i].Buckets.length = 0
        · have e2 : decide (((n % l[i].Buckets.length : Nat) : Int) ≠ 0) = false := by simp [hm]
          rw [e2, Bool.and_false, cond_false, ih (i + 1) (by omega) (by omega)]
          simp [hm]
        · have e2 : decide (((n % l[i].Buckets.length : Nat) : Int) ≠ 0) = true := by simp; omega
          rw [e2, Bool.and_true, cond_true]
          simp [hm, k1, k2, k3]
      · have e1 : (decide (l[i].Kind = 1) && decide ((l[i].Buckets.length : Int) ≥ 1) && decide ((l[i].Buckets.length : Int) ≤ 4)) = false := by
          rw [Bool.eq_false_iff]; intro h
          simp at h; exact hk ⟨h.1.1, by omega, by omega⟩
        have e3 : (decide (l[i].Kind = 1) && decide (1 ≤ l[i].Buckets.length) && decide (l[i].Buckets.length ≤ 4)) = false := by
          rw [Bool.eq_false_iff]; intro h
          simp at h; exact hk ⟨h.1.1, by omega, by omega⟩
        rw [e1, opt_false, Option.bind_some, Bool.false_and, cond_false, ih (i + 1) (by omega) (by omega), e3]
        simp
    · have : i = l.length := by omega
      subst this
      rw [decide_eq_false (by omega), cond_false, List.drop_of_length_le (Nat.le_refl _)]
      rfl
theorem F74_eq (l : List Group) (n : Nat) (hl : l.length ≤ lim) : F74 l (n : Int) = some (l.all (turnOk n)) := by
  unfold F74
  have := F74_l1_eq l n hl (l.length + 1) 0 (by omega) (by omega)
  rw [show ((((l.length : Int) : Int) - 0).toNat + 1) = l.length + 1 by omega]
  simpa using this
/-- what all turns divide -/
theorem fold_dvd (m : Nat) : ∀ (l : List Group) (n : Nat), l.foldl turnG n ∣ m ↔ n ∣ m ∧ ∀ g ∈ l, 1 ≤ g.Buckets.length → g.Buckets.length ≤ 4 → g.Buckets.length ∣ m
  | [], n => by simp
  | g :: l, n => by
    rw [List.foldl_cons, fold_dvd m l]
    unfold turnG
    by_cases h : 1 ≤ g.Buckets.length ∧ g.Buckets.length ≤ 4
    · have e : (decide (1 ≤ g.Buckets.length) && decide (g.Buckets.length ≤ 4)) = true := by simp; omega
      rw [e, cond_true, Nat.lcm_dvd_iff]
      constructor
      · rintro ⟨⟨h1, h2⟩, h3⟩
        refine ⟨h1, fun x hx => ?_⟩
        rcases List.mem_cons.1 hx with rfl | hx
        · exact fun _ _ => h2
        · exact h3 x hx
      · rintro ⟨h1, h2⟩
        exact ⟨⟨h1, h2 g (by simp) h.1 h.2⟩, fun x hx => h2 x (by simp [hx])⟩
    · have e : (decide (1 ≤ g.Buckets.length) && decide (g.Buckets.length ≤ 4)) = false := by
        rw [Bool.eq_false_iff]; intro h'; simp at h'; omega
      rw [e, cond_false]
      constructor
      · rintro ⟨h1, h2⟩
        refine ⟨h1, fun x hx => ?_⟩
        rcases List.mem_cons.1 hx with rfl | hx
        · intro a b; omega
        · exact h2 x hx
      · rintro ⟨h1, h2⟩
        exact ⟨h1, fun x hx => h2 x (by simp [hx])⟩
theorem all_turnOk (l : List Group) (n : Nat) : l.all (turnOk n) = true ↔ turns l ∣ n := by
  unfold turns
  rw [fold_dvd, List.all_eq_true]
  constructor
  · intro h
    refine ⟨Nat.one_dvd _, fun g hg h1 h2 => ?_⟩
    unfold ofK at hg
    rw [List.mem_filter, decide_eq_true_eq] at hg
    have := h g hg.1
    unfold turnOk at this
    simp [hg.2, h1, h2] at this
    exact Nat.dvd_of_mod_eq_zero this
  · rintro ⟨_, h⟩ g hg
    unfold turnOk
    by_cases hk : g.Kind = 1 ∧ 1 ≤ g.Buckets.length ∧ g.Buckets.length ≤ 4
    · obtain ⟨k1, k2, k3⟩ := hk
      have := h g (by unfold ofK; rw [List.mem_filter]; exact ⟨hg, by simp [k1]⟩) k2 k3
      have := Nat.mod_eq_zero_of_dvd this
      simp [this]
    · have e3 : (decide (g.Kind = 1) && decide (1 ≤ g.Buckets.length) && decide (g.Buckets.length ≤ 4)) = false := by
        rw [Bool.eq_false_iff]; intro h
        simp at h; exact hk ⟨h.1.1, by omega, by omega⟩
      rw [e3]; rfl
theorem F28_l1_eq (l : List Group) (hl : l.length ≤ lim) : ∀ (m n : Nat), 1 ≤ n → n ≤ turns l → turns l < n + m → F28_l1 l m (n : Int) = some ((turns l : Nat) : Int) := by
  intro m
  induction m with
  | zero => intro n h1 h2 h3; omega
  | succ m ih =>
    intro n h1 h2 h3
    have ht := turns_le l
    rw [F28_l1, F74_eq l n hl, Option.bind_some]
    by_cases hn : n = turns l
    · have : l.all (turnOk n) = true := (all_turnOk l n).2 (by rw [hn]; exact Nat.dvd_refl _)
      rw [this, Bool.not_true, cond_false, hn]
    · have : l.all (turnOk n) = false := by
        rw [Bool.eq_false_iff]
        intro h
        have := Nat.le_of_dvd (by omega) ((all_turnOk l n).1 h)
        omega
      rw [this, Bool.not_false, cond_true]
      have e : IntKind.i64.wrap ((n : Int) + 1) = ((n + 1 : Nat) : Int) := by rw [wrap_i64 (by omega) (by omega)]; omega
      rw [e]
      exact ih (n + 1) (by omega) (by omega) (by omega)
theorem F28_eq (l : List Group) (hl : l.length ≤ lim) : F28 l = some ((turns l : Nat) : Int) := by
  unfold F28
  have ht := turns_le l
  have hp := turns_pos l
  exact F28_l1_eq l hl fuel0 1 (by omega) (by omega) (by unfold fuel0; omega)

/-! ### the reference's ports -/
def seenB (p : Int) (bs : List Bucket) : Bool := bs.any fun x => decide (x.Watch = p)
def seenG (p : Int) (g : Group) : Bool := decide (g.Kind = 3) && seenB p g.Buckets
theorem F26_l3_eq (l : List Group) (i : Nat) (hi : i < l.length) (p : Int) (go : Bool → Int → Option (List Int)) (hb : l[i].Buckets.length ≤ lim) : ∀ (m : Nat) (f : Bool) (j : Nat), j ≤ l[i].Buckets.length → l[i].Buckets.length < j + m →
    F26_l3 l (i : Int) p go m f (j : Int) = go (f || (decide (l[i].Kind = 3) && seenB p (l[i].Buckets.drop j))) (IntKind.i64.wrap ((i : Int) + 1)) := by
  have hlim : lim = 4294967296 := rfl
  intro m
  induction m with
  | zero => intro f j h1 h2; omega
  | succ m ih =>
    intro f j h1 h2
    rw [F26_l3, lget_lt hi, Option.bind_some]
    by_cases hj : j < l[i].Buckets.length
    · have e : IntKind.i64.wrap ((j : Int) + 1) = ((j + 1 : Nat) : Int) := by rw [wrap_i64 (by omega) (by omega)]; omega
      rw [decide_eq_true (by omega : (j : Int) < (l[i].Buckets.length : Int)), cond_true, e]
      have hd : l[i].Buckets.drop j = l[i].Buckets[j] :: l[i].Buckets.drop (j + 1) := List.drop_eq_getElem_cons hj
      rw [hd]
      unfold seenB at ih ⊢
      rw [List.any_cons]
      cases f with
      | true =>
        simp only [Bool.not_true, opt_false, Option.bind_some, show ((true == false) = false) from rfl, Bool.false_and, Bool.true_or]
        rw [ih true (j + 1) (by omega) (by omega), Bool.true_or]
      | false =>
        simp only [Bool.not_false, opt_true, Option.bind_some, show ((false == false) = true) from rfl, Bool.true_and, Bool.false_or]
        by_cases hk : l[i].Kind = 3
        · rw [decide_eq_true hk]
          simp only [show ((true == true) = true) from rfl, opt_true, Option.bind_some, Bool.true_and]
          rw [lget_lt hj, Option.bind_some, ih _ (j + 1) (by omega) (by omega), decide_eq_true hk, Bool.true_and]
        · rw [decide_eq_false hk]
          simp only [show ((false == true) = false) from rfl, opt_false, Option.bind_some, Bool.false_and]
          rw [ih _ (j + 1) (by omega) (by omega), decide_eq_false hk, Bool.false_and]
          rfl
    · have : j = l[i].Buckets.length := by omega
      subst this
      rw [decide_eq_false (by omega), cond_false, List.drop_of_length_le (Nat.le_refl _)]
      simp [seenB]
def small (l : List Group) : Prop := l.length ≤ 40 ∧ ∀ g ∈ l, g.Buckets.length ≤ 40
theorem F26_l2_eq (l : List Group) (hs : small l) (p : Int) (acc : List Int) (go : List Int → Int → Option (List Int)) (ha : acc.length + 1 ≤ lim) : ∀ (m : Nat) (f : Bool) (i : Nat), i ≤ l.length → l.length < i + m →
    F26_l2 l p acc go m f (i : Int) = go (bif f || (l.drop i).any (seenG p) then acc ++ [p] else acc) (IntKind.i64.wrap (p + 1)) := by
  have hlim : lim = 4294967296 := rfl
  intro m
  induction m with
  | zero => intro f i h1 h2; omega
  | succ m ih =>
    intro f i h1 h2
    have hl := hs.1
    rw [F26_l2]
    by_cases hi : i < l.length
    · have hb : l[i].Buckets.length ≤ 40 := hs.2 _ (List.getElem_mem hi)
      have e : IntKind.i64.wrap ((i : Int) + 1) = ((i + 1 : Nat) : Int) := by rw [wrap_i64 (by omega) (by omega)]; omega
      have h3 := F26_l3_eq l i hi p (F26_l2 l p acc go m) (by omega) fuel0 f 0 (by omega) (by unfold fuel0; omega)
      rw [decide_eq_true (by omega : (i : Int) < (l.length : Int)), cond_true]
      rw [show ((0 : Nat) : Int) = 0 from rfl] at h3
      rw [h3, e, ih _ (i + 1) (by omega) (by omega), List.drop_zero, List.drop_eq_getElem_cons hi, List.any_cons, Bool.or_assoc]
      rfl
    · have : i = l.length := by omega
      subst this
      rw [decide_eq_false (by omega), cond_false, List.drop_of_length_le (Nat.le_refl _)]
      cases f with
      | true => rw [cond_true, appd_ok (by simpa using ha)]; rfl
      | false => rfl
/-- the ports, told plainly -/
def portsR (l : List Group) : Nat → Nat → List Int
  | 0, _ => []
  | m + 1, p => bif l.any (seenG (p : Int)) then (p : Int) :: portsR l m (p + 1) else portsR l m (p + 1)
theorem F26_l1_eq (l : List Group) (hs : small l) : ∀ (m : Nat) (acc : List Int) (p : Nat), m ≤ 6 → p + m = 7 → acc.length + m ≤ 40 → F26_l1 l (m + 1) acc (p : Int) = some (acc ++ portsR l m p) := by
  have hlim : lim = 4294967296 := rfl
  intro m
  induction m with
  | zero =>
    intro acc p h1 h2 h3
    rw [F26_l1, decide_eq_false (by omega), cond_false]
    simp [portsR]
  | succ m ih =>
    intro acc p h1 h2 h3
    have hl := hs.1
    have e : IntKind.i64.wrap ((p : Int) + 1) = ((p + 1 : Nat) : Int) := by rw [wrap_i64 (by omega) (by omega)]; omega
    rw [F26_l1, decide_eq_true (by omega : (p : Int) ≤ 6), cond_true]
    have h4 := F26_l2_eq l hs (p : Int) acc (F26_l1 l (m + 1)) (by omega) ((((l.length : Int) : Int) - 0).toNat + 1) false 0 (by omega) (by omega)
    rw [show ((0 : Nat) : Int) = 0 from rfl] at h4
    rw [h4, e, Bool.false_or, List.drop_zero]
    unfold portsR
    cases l.any (seenG (p : Int)) with
    | true => rw [cond_true, cond_true, ih _ (p + 1) (by omega) (by omega) (by simp; omega)]; simp
    | false => rw [cond_false, cond_false, ih _ (p + 1) (by omega) (by omega) (by omega)]
theorem F26_eqR (l : List Group) (hs : small l) : F26 l = some (portsR l 6 1) := by
  unfold F26
  have := F26_l1_eq l hs 6 [] 1 (by omega) (by omega) (by simp)
  simpa using this
/-- marks -/
theorem clampW_iff (w : Int) (p : Nat) (h1 : 1 ≤ p) (h2 : p ≤ 6) : clampW w = p ↔ w = (p : Int) := by
  unfold clampW imax imin
  by_cases h3 : (7 : Int) < w
  · have : decide ((7 : Int) < w) = true := decide_eq_true h3
    simp [this]; omega
  · have h4 : decide ((7 : Int) < w) = false := decide_eq_false h3
    rw [h4, cond_false]
    by_cases h5 : (0 : Int) > w
    · rw [decide_eq_true h5, cond_true]; simp; omega
    · rw [decide_eq_false h5, cond_false]; omega
theorem markB_get (p : Nat) (hp : p < 7) (b : Vector Bool 7) (x : Bucket) : (markB b x)[p] = (b[p] || decide (clampW x.Watch = p)) := by
  unfold markB
  rw [Vector.getElem_set]
  by_cases h : clampW x.Watch = p
  · simp [h]
  · simp [h]
theorem markBs_get (p : Nat) (hp : p < 7) : ∀ (bs : List Bucket) (b : Vector Bool 7), (bs.foldl markB b)[p] = (b[p] || bs.any fun x => decide (clampW x.Watch = p))
  | [], b => by simp
  | x :: bs, b => by rw [List.foldl_cons, markBs_get p hp bs, markB_get p hp, List.any_cons, Bool.or_assoc]
theorem markGs_get (p : Nat) (hp : p < 7) : ∀ (gs : List Group) (b : Vector Bool 7), (gs.foldl markG b)[p] = (b[p] || gs.any fun g => g.Buckets.any fun x => decide (clampW x.Watch = p))
  | [], b => by simp
  | g :: gs, b => by
    rw [List.foldl_cons, markGs_get p hp gs, List.any_cons, ← Bool.or_assoc]
    congr 1
    exact markBs_get p hp g.Buckets b
theorem marks_get (l : List Group) (p : Nat) (h1 : 1 ≤ p) (h2 : p ≤ 6) : ((ofK l 3).foldl markG (Vector.replicate 7 false))[p]'(by omega) = l.any (seenG (p : Int)) := by
  rw [markGs_get p (by omega)]
  have : (Vector.replicate 7 false)[p]'(by omega) = false := by simp
  rw [this, Bool.false_or]
  unfold ofK seenG seenB
  rw [List.any_filter]
  congr 1
  funext g
  congr 1
  congr 1
  funext x
  rw [decide_eq_decide]
  exact clampW_iff x.Watch p h1 h2
theorem vec7 (v : Vector Bool 7) : v.toList = [v[0], v[1], v[2], v[3], v[4], v[5], v[6]] := by
  apply List.ext_getElem
  · simp
  · intro i h1 h2
    have : i < 7 := by simpa using h1
    rw [Vector.getElem_toList]
    match i, this with
    | 0, _ => rfl
    | 1, _ => rfl
    | 2, _ => rfl
    | 3, _ => rfl
    | 4, _ => rfl
    | 5, _ => rfl
    | 6, _ => rfl
theorem ports_eq (l : List Group) : ports l = portsR l 6 1 := by
  unfold ports
  rw [vec7]
  have m1 := marks_get l 1 (by omega) (by omega)
  have m2 := marks_get l 2 (by omega) (by omega)
  have m3 := marks_get l 3 (by omega) (by omega)
  have m4 := marks_get l 4 (by omega) (by omega)
  have m5 := marks_get l 5 (by omega) (by omega)
  have m6 := marks_get l 6 (by omega) (by omega)
  rw [m1, m2, m3, m4, m5, m6]
  simp only [trues, portsR]
  simp
theorem F26_eq (l : List Group) (hs : small l) : F26 l = some (ports l) := by rw [F26_eqR l hs, ports_eq]

/-! ### the reference's worlds -/
theorem bv_nat (i : Nat) (h : i < 18446744073709551616) : ((BitVec.ofInt 64 (i : Int)).toNat : Int) = (i : Int) := by
  rw [BitVec.toNat_ofInt]; omega
theorem F23_l3_eq (ps : List Int) (hp : ps.length ≤ 7) (n : Nat) (hn : n ≤ 128) (acc0 : List Env) (ha : acc0.length + 1 ≤ lim) (turn : Int) (go : List Env → Int → Option (List Env)) : ∀ (m i : Nat) (acc : List Int), i ≤ ps.length → ps.length < i + m → acc.length ≤ i →
    F23_l3 ps (n : Int) acc0 turn go m acc (i : Int) = go (acc0 ++ [⟨turn, acc ++ downS (ps.drop i) (n / 2 ^ i)⟩]) (((n + 1 : Nat)) : Int) := by
  have hlim : lim = 4294967296 := rfl
  intro m
  induction m with
  | zero => intro i acc h1 h2 h3; omega
  | succ m ih =>
    intro i acc h1 h2 h3
    rw [F23_l3]
    by_cases hi : i < ps.length
    · have hle : n / 2 ^ i ≤ n := Nat.div_le_self _ _
      have e : IntKind.i64.wrap ((i : Int) + 1) = ((i + 1 : Nat) : Int) := by rw [wrap_i64 (by omega) (by omega)]; omega
      rw [decide_eq_true (by omega), cond_true, bv_nat i (by omega), oshr_nat n i (by omega), Option.bind_some, show omod ((n / 2 ^ i : Nat) : Int) 2 = some ((n / 2 ^ i % 2 : Nat) : Int) from omod_nat (n / 2 ^ i) 2 (by omega), Option.bind_some, e, List.drop_eq_getElem_cons hi]
      have hnext : n / 2 ^ i / 2 = n / 2 ^ (i + 1) := by rw [Nat.div_div_eq_div_mul, Nat.pow_succ]
      unfold downS
      rw [hnext]
      by_cases hb : n / 2 ^ i % 2 = 1
      · rw [decide_eq_true hb, decide_eq_true (by omega), cond_true, cond_true, lget_lt hi, Option.bind_some, appd_ok (by simp; omega), Option.bind_some, ih (i + 1) _ (by omega) (by omega) (by simp; omega)]
        simp
      · rw [decide_eq_false hb, decide_eq_false (by omega), cond_false, cond_false, ih (i + 1) _ (by omega) (by omega) (by omega)]
    · have : i = ps.length := by omega
      subst this
      have e : IntKind.i64.wrap ((n : Int) + 1) = ((n + 1 : Nat) : Int) := by rw [wrap_i64 (by omega) (by omega)]; omega
      rw [decide_eq_false (by omega), cond_false, appd_ok (by simpa using ha), Option.bind_some, e, List.drop_of_length_le (Nat.le_refl _)]
      simp [downS]
theorem F23_l2_eq (ps : List Int) (hp : ps.length ≤ 7) (turn : Nat) (ht : turn ≤ 12) (go : List Env → Int → Option (List Env)) : ∀ (m n : Nat) (acc : List Env), n ≤ 2 ^ ps.length → 2 ^ ps.length < n + m → acc.length + (2 ^ ps.length - n) ≤ lim →
    F23_l2 ps (turn : Int) go m acc (n : Int) = go (acc ++ (List.range' n (2 ^ ps.length - n)).map fun n => (⟨(turn : Int), downS ps n⟩ : Env)) (((turn + 1 : Nat)) : Int) := by
  have hlim : lim = 4294967296 := rfl
  have h128 : 2 ^ ps.length ≤ 128 := Nat.pow_le_pow_right (n := 2) (by decide) hp
  intro m
  induction m with
  | zero => intro n acc h1 h2 h3; omega
  | succ m ih =>
    intro n acc h1 h2 h3
    rw [F23_l2, bv_nat ps.length (by omega), oshl_one _ (by omega), Option.bind_some]
    by_cases hn : n < 2 ^ ps.length
    · rw [decide_eq_true (by omega), cond_true]
      have h4 := F23_l3_eq ps hp n (by omega) acc (by omega) (turn : Int) (F23_l2 ps (turn : Int) go m) ((((ps.length : Int) : Int) - 0).toNat + 1) 0 [] (by omega) (by omega) (by simp)
      rw [show ((0 : Nat) : Int) = 0 from rfl] at h4
      rw [h4, ih (n + 1) _ (by omega) (by omega) (by simp; omega)]
      have : 2 ^ ps.length - n = (2 ^ ps.length - (n + 1)) + 1 := by omega
      rw [this, List.range'_succ]
      simp
    · have : 2 ^ ps.length - n = 0 := by omega
      have e : IntKind.i64.wrap ((turn : Int) + 1) = ((turn + 1 : Nat) : Int) := by rw [wrap_i64 (by omega) (by omega)]; omega
      rw [decide_eq_false (by omega), cond_false, this, e]
      simp
theorem F23_l1_eq (l : List Group) (hl : l.length ≤ lim) (ps : List Int) (hp : ps.length ≤ 7) : ∀ (m t : Nat) (acc : List Env), t ≤ turns l → turns l < t + m → acc.length + (turns l - t) * 128 ≤ lim →
    F23_l1 l ps m acc (t : Int) = some (acc ++ (List.range' t (turns l - t)).flatMap fun (i : Nat) => (List.range (2 ^ ps.length)).map fun n => (⟨(i : Int), downS ps n⟩ : Env)) := by
  have hlim : lim = 4294967296 := rfl
  have h128 : 2 ^ ps.length ≤ 128 := Nat.pow_le_pow_right (n := 2) (by decide) hp
  have hle := turns_le l
  intro m
  induction m with
  | zero => intro t acc h1 h2 h3; omega
  | succ m ih =>
    intro t acc h1 h2 h3
    rw [F23_l1, F28_eq l hl, Option.bind_some]
    by_cases ht : t < turns l
    · rw [decide_eq_true (by omega), cond_true]
      have h4 := F23_l2_eq ps hp t (by omega) (F23_l1 l ps m) fuel0 0 acc (Nat.zero_le _) (by generalize 2 ^ ps.length = d at h128; unfold fuel0; omega) (by generalize 2 ^ ps.length = d at h128; omega)
      rw [show ((0 : Nat) : Int) = 0 from rfl] at h4
      rw [h4, ih (t + 1) _ (by omega) (by omega) (by simp; generalize 2 ^ ps.length = d at h128; omega)]
      have : turns l - t = (turns l - (t + 1)) + 1 := by omega
      rw [this, List.range'_succ]
      simp [List.range_eq_range']
    · have : turns l - t = 0 := by omega
      rw [decide_eq_false (by omega), cond_false, this]
      simp
theorem F23_eq (l : List Group) (hs : small l) : F23 l = some (worlds (ports l) (turns l)) := by
  have hlim : lim = 4294967296 := rfl
  have hl := hs.1
  have hle := turns_le l
  unfold F23
  rw [F26_eq l hs, Option.bind_some]
  have := F23_l1_eq l (by omega) (ports l) (ports_len l) fuel0 0 [] (by omega) (by unfold fuel0; omega) (by simp; omega)
  rw [show ((0 : Nat) : Int) = 0 from rfl] at this
  rw [this]
  simp [worlds, List.range_eq_range']

/-! ### the fold of a world -/
theorem F66_some (e : Env) (n : Nat) (hn : 0 < n) : ∃ t, F66 e (n : Int) = some t := by
  unfold F66 omod
  rw [decide_eq_false (by omega), cond_false, decide_eq_false (by omega), cond_false, Option.bind_some]
  cases decide (e.Turn.tmod (n : Int) < 0)
  · exact ⟨_, rfl⟩
  · exact ⟨_, rfl⟩
theorem F75_eq (e : Env) (n : Int) : F75 e n = F66 e n := rfl
theorem F76_l1_eq (e : Env) (he : e.Down.length ≤ 40) (p : Int) : ∀ (m i : Nat), i ≤ e.Down.length → e.Down.length < i + m → F76_l1 e p m (i : Int) = some (!(e.Down.drop i).contains p) := by
  intro m
  induction m with
  | zero => intro i h1 h2; omega
  | succ m ih =>
    intro i h1 h2
    rw [F76_l1]
    by_cases hi : i < e.Down.length
    · have e1 : IntKind.i64.wrap ((i : Int) + 1) = ((i + 1 : Nat) : Int) := by rw [wrap_i64 (by omega) (by omega)]; omega
      rw [decide_eq_true (by omega), cond_true, lget_lt hi, Option.bind_some, List.drop_eq_getElem_cons hi, List.contains_cons]
      by_cases hp : e.Down[i] = p
      · rw [decide_eq_true hp, cond_true, hp]; simp
      · rw [decide_eq_false hp, cond_false, e1, ih (i + 1) (by omega) (by omega)]
        have : (p == e.Down[i]) = false := by simpa using fun h => hp h.symm
        rw [this, Bool.false_or]
    · have : i = e.Down.length := by omega
      rw [decide_eq_false (by omega), cond_false, List.drop_of_length_le (by omega)]
      rfl
theorem F76_eq (e : Env) (he : e.Down.length ≤ 40) (p : Int) : F76 e p = some (!e.Down.contains p) := by
  unfold F76
  have := F76_l1_eq e he p ((((e.Down.length : Int) : Int) - 0).toNat + 1) 0 (by omega) (by omega)
  simpa using this
theorem F29_l1_eq (ps : List Int) (hp : ps.length ≤ 7) (e : Env) (he : e.Down.length ≤ 40) (t : Int) : ∀ (m i : Nat) (acc : List Int), i ≤ ps.length → ps.length < i + m → acc.length ≤ i →
    F29_l1 ps e t m acc (i : Int) = some ⟨t, acc ++ (ps.drop i).filter fun p => e.Down.contains p⟩ := by
  have hlim : lim = 4294967296 := rfl
  intro m
  induction m with
  | zero => intro i acc h1 h2; omega
  | succ m ih =>
    intro i acc h1 h2 h3
    rw [F29_l1]
    by_cases hi : i < ps.length
    · have e1 : IntKind.i64.wrap ((i : Int) + 1) = ((i + 1 : Nat) : Int) := by rw [wrap_i64 (by omega) (by omega)]; omega
      rw [decide_eq_true (by omega), cond_true, lget_lt hi, Option.bind_some, F76_eq e he, Option.bind_some, Bool.not_not, List.drop_eq_getElem_cons hi]
      cases hc : e.Down.contains ps[i]
      · rw [cond_false, e1, ih (i + 1) _ (by omega) (by omega) (by omega), List.filter_cons_of_neg (by rw [hc]; decide)]
      · rw [cond_true, Option.bind_some, appd_ok (by simp; omega), Option.bind_some, e1, ih (i + 1) _ (by omega) (by omega) (by simp; omega), List.filter_cons_of_pos (by rw [hc])]
        simp
    · have : i = ps.length := by omega
      rw [decide_eq_false (by omega), cond_false, List.drop_of_length_le (by omega)]
      simp
theorem fold_eq (e : Env) (he : e.Down.length ≤ 40) (l : List Group) (hs : small l) : ∃ f, F16 e l = some f ∧ F29 e l = some f := by
  have hlim : lim = 4294967296 := rfl
  have hl := hs.1
  have hp := ports_len l
  obtain ⟨t, ht⟩ := F66_some e (turns l) (turns_pos l)
  refine ⟨⟨t, (ports l).filter fun p => e.Down.contains p⟩, ?_, ?_⟩
  · unfold F16
    rw [F25_eq l (by omega), Option.bind_some, F64_eq (ports l) (fun x => F65 x e) (fun p => !e.Down.contains p) (fun p _ => by unfold F65; rw [F19_eq]; rfl) (by omega), Option.bind_some, F27_eq l (by omega), Option.bind_some, ht, Option.bind_some]
    simp only [Bool.not_not]
  · unfold F29
    rw [F28_eq l (by omega), Option.bind_some, F75_eq, ht, Option.bind_some, F26_eq l hs, Option.bind_some]
    have := F29_l1_eq (ports l) hp e he t ((((ports l).length : Int) - 0).toNat + 1) 0 [] (by omega) (by omega) (by simp)
    simpa using this

/-! ### lists compared -/
theorem F30_l1_eq (t : List Env) : ∀ (s : List Env) (i : Nat), i + s.length = t.length → F30_l1 t F15 s i = some (decide (s = t.drop i))
  | [], i, h => by
    rw [F30_l1, List.drop_of_length_le (by simp at h; omega)]; rfl
  | x :: s, i, h => by
    simp only [List.length_cons] at h
    have hi : i < t.length := by omega
    rw [F30_l1, lget_lt hi, Option.bind_some, F15_eq, Option.bind_some, List.drop_eq_getElem_cons hi]
    by_cases he : x = t[i]
    · rw [decide_eq_true he, Bool.not_true, cond_false, F30_l1_eq t s (i + 1) (by omega)]
      simp only [List.cons.injEq, he, true_and]
    · rw [decide_eq_false he, Bool.not_false, cond_true]
      simp only [List.cons.injEq, he, false_and, decide_false]
theorem F30_eq (s t : List Env) : F30 s t F15 = some (decide (s = t)) := by
  unfold F30
  by_cases hl : s.length = t.length
  · rw [decide_eq_false (by omega), cond_false, F30_l1_eq t s 0 (by omega)]
    simp
  · rw [decide_eq_true (by omega), cond_true]
    have : s ≠ t := fun e => hl (e ▸ rfl)
    simp [this]
theorem F31_eq (l : List Group) : F31 l = F14 l := by
  unfold F31 F14 F63 F112 collect
  have : F31_b1 = collectF := by
    funext l x; rfl
  rw [this]
  unfold F22
  rw [Option.bind_some, Option.bind_some]
  simp
theorem F22_some (l : List Group) : ∃ q, F22 l = some q := by unfold F22; exact ⟨_, rfl⟩
theorem F20_21 (l : List Group) : F20 l F21 = some (l.any fun g => decide ((g.Buckets.length : Int) > 40)) := F20_eq l F21 _ fun g _ => rfl
theorem tell_all (l : List Group) (e : Env) : F4 l e = some true := by
  have hlim : lim = 4294967296 := rfl
  obtain ⟨q, hq⟩ := F22_some l
  unfold F4
  rw [F13_eq, Option.bind_some, Bool.not_true, Bool.false_or, F20_21, hq]
  by_cases h1 : (l.length : Int) > 40
  · rw [decide_eq_true h1]
    simp [opt]
  rw [decide_eq_false h1, Bool.false_or]
  by_cases h2 : (e.Down.length : Int) > 40
  · rw [decide_eq_true h2]
    simp [opt]
  rw [decide_eq_false h2, Bool.not_false, opt_true, Option.bind_some]
  cases h3 : l.any (fun g => decide ((g.Buckets.length : Int) > 40))
  · have hs : small l := ⟨by omega, fun g hg => by
      rw [List.any_eq_false] at h3
      have := h3 g hg
      simp at this; omega⟩
    have hl := hs.1
    obtain ⟨f, hf1, hf2⟩ := fold_eq e (by omega) l hs
    simp only [Bool.or_self, Bool.not_false, opt_true, Option.bind_some, cond_false]
    rw [F23_eq l hs, Option.bind_some, F25_eq l (by omega), Option.bind_some, F26_eq l hs, Option.bind_some, F24_eq, Option.bind_some, F27_eq l (by omega), F28_eq l (by omega), F31_eq, F14_eq l (by omega), hf1, hf2]
    simp [opt, F15_eq, F30_eq]
  · simp [opt]
end Go.Proofs.Ytokmmcflinnfiaa.W
