/- LawA: a part of the proof. -/
import Derived.Test.YtokmmcflinnfiaaGaX
import Derived.Test.YtokmmcflinnfiaaWbX
set_option linter.unusedVariables false
set_option linter.unusedSimpArgs false
namespace Go.Proofs.Ytokmmcflinnfiaa.W
open Go Go.Wb

theorem fidx_split {α : Type} (p : α → Bool) : ∀ l : List α, 0 ≤ fidx p l → (l.take ((fidx p l).toNat + 1)).filter (fun x => !p x) = l.take (fidx p l).toNat
  | [], h => by simp [fidx] at h
  | x :: l, h => by
    unfold fidx at h ⊢
    cases hp : p x
    · rw [hp] at h
      by_cases h' : fidx p l < 0
      · simp [h'] at h
      · simp only [cond_false, decide_eq_false h']
        have e : (fidx p l + 1).toNat = (fidx p l).toNat + 1 := by omega
        rw [e, List.take_succ_cons, List.take_succ_cons, List.filter_cons_of_pos (by simp [hp]), fidx_split p l (by omega)]
    · simp [hp]
theorem fidx_all {α : Type} (p : α → Bool) (l : List α) (h : fidx p l < 0) : l.filter (fun x => !p x) = l := by
  rw [List.filter_eq_self]
  intro x hx
  rw [fidx_none p l h x hx]; rfl

theorem F149_eq (s : List Bucket) (f : Bucket → Option Bool) (p : Bucket → Bool) (hf : ∀ x ∈ s, f x = some (p x)) : F149 s f = some (fidx p s) := by
  unfold F149
  rw [show ((s.length : Int)).toNat = s.length by omega]
  exact idx_spec p (fun i => by rw [F149_l1]) (fun m i => by rw [F149_l1]) hf
theorem F69_eq (s : List Group) (f : Group → Option Bool) (p : Group → Bool) (hf : ∀ x ∈ s, f x = some (p x)) : F69 s f = some (fidx p s) := by
  unfold F69
  rw [show ((s.length : Int)).toNat = s.length by omega]
  exact idx_spec p (fun i => by rw [F69_l1]) (fun m i => by rw [F69_l1]) hf
theorem F67_eq (s : List Int) (f : Int → Option Bool) (p : Int → Bool) (hf : ∀ x ∈ s, f x = some (p x)) : F67 s f = some (fidx p s) := by
  unfold F67
  rw [show ((s.length : Int)).toNat = s.length by omega]
  exact idx_spec p (fun i => by rw [F67_l1]) (fun m i => by rw [F67_l1]) hf
theorem F113_eq (s : List Int) (v : Int) : F113 s v = some (fidx (fun x => decide (v = x)) s) := by
  unfold F113
  rw [show ((s.length : Int)).toNat = s.length by omega]
  exact idx_spec (f := fun x => some (decide (v = x))) (fun x => decide (v = x)) (fun i => by rw [F113_l1]) (fun m i => by rw [F113_l1]; rfl) (fun _ _ => rfl)
theorem F109_eq (s : List Bucket) (f : Bucket → Option Bool) (p : Bucket → Bool) (hf : ∀ x ∈ s, f x = some (p x)) : F109 s f = some (s.any p) := by
  unfold F109; rw [F149_eq s f p hf, Option.bind_some, fidx_any]
theorem F20_eq (s : List Group) (f : Group → Option Bool) (p : Group → Bool) (hf : ∀ x ∈ s, f x = some (p x)) : F20 s f = some (s.any p) := by
  unfold F20; rw [F69_eq s f p hf, Option.bind_some, fidx_any]
theorem F17_eq (s : List Int) (f : Int → Option Bool) (p : Int → Bool) (hf : ∀ x ∈ s, f x = some (p x)) : F17 s f = some (s.any p) := by
  unfold F17; rw [F67_eq s f p hf, Option.bind_some, fidx_any]
theorem F68_eq (s : List Int) (v : Int) : F68 s v = some (s.contains v) := by
  unfold F68; rw [F113_eq, Option.bind_some, fidx_any]
  congr 1
  rw [Bool.eq_iff_iff, List.any_eq_true, List.contains_iff_mem]
  simp
theorem F19_eq (e : Env) (n : Int) : F19 e n = some (!e.Down.contains n) := by
  unfold F19; rw [F68_eq]; rfl

theorem F114_eq (s : List Group) (f : Group → Option Bool) (p : Group → Bool) (hf : ∀ x ∈ s, f x = some (p x)) (hl : s.length ≤ lim) : F114 s f = some (s.filter (fun x => !p x)) := by
  have hlim : lim = 4294967296 := rfl
  unfold F114
  rw [F69_eq s f p hf, Option.bind_some]
  by_cases h : fidx p s < 0
  · have := fidx_ge p s
    rw [decide_eq_true (by omega), cond_true, fidx_all p s h]
  · have hlt := fidx_lt p s
    rw [decide_eq_false (by omega), cond_false, wrap_i64 (by omega) (by omega)]
    have key := del_spec (z := zGroup) (G := F114_l1 f) (s := s) (f := f) p (fun m l i j => by rw [F114_l1]) hf hl (((s.length : Int) - (fidx p s + 1)).toNat + 1) s (fidx p s).toNat ((fidx p s).toNat + 1) (by omega) (by omega) (by omega) rfl rfl (fidx_split p s (by omega)).symm
    rw [show ((fidx p s).toNat : Int) = fidx p s by omega, show (((fidx p s).toNat + 1 : Nat) : Int) = fidx p s + 1 by omega] at key
    exact key
theorem F64_eq (s : List Int) (f : Int → Option Bool) (p : Int → Bool) (hf : ∀ x ∈ s, f x = some (p x)) (hl : s.length ≤ lim) : F64 s f = some (s.filter (fun x => !p x)) := by
  have hlim : lim = 4294967296 := rfl
  unfold F64
  rw [F67_eq s f p hf, Option.bind_some]
  by_cases h : fidx p s < 0
  · have := fidx_ge p s
    rw [decide_eq_true (by omega), cond_true, fidx_all p s h]
  · have hlt := fidx_lt p s
    rw [decide_eq_false (by omega), cond_false, wrap_i64 (by omega) (by omega)]
    have key := del_spec (z := (0 : Int)) (G := F64_l1 f) (s := s) (f := f) p (fun m l i j => by rw [F64_l1]) hf hl (((s.length : Int) - (fidx p s + 1)).toNat + 1) s (fidx p s).toNat ((fidx p s).toNat + 1) (by omega) (by omega) (by omega) rfl rfl (fidx_split p s (by omega)).symm
    rw [show ((fidx p s).toNat : Int) = fidx p s by omega, show (((fidx p s).toNat + 1 : Nat) : Int) = fidx p s + 1 by omega] at key
    exact key

/-- groups of a kind -/
def ofK (l : List Group) (k : Int) : List Group := l.filter (fun g => decide (g.Kind = k))
theorem F72_eq (l : List Group) (k : Int) (hl : l.length ≤ lim) : F72 l k = some (ofK l k) := by
  unfold F72 F115
  rw [appd_ok (by simpa using hl), List.nil_append, Option.bind_some, F114_eq l (fun x => F116 x k) (fun g => decide (g.Kind ≠ k)) (fun x _ => rfl) hl, Option.bind_some]
  congr 1
  unfold ofK
  congr 1
  funext g
  by_cases h : g.Kind = k <;> simp [h]

/-- what is watched -/
def clampW (n : Int) : Nat := (imax (imin n 7) 0).toNat % 7
theorem clamp_lt (n : Int) : clampW n < 7 := Nat.mod_lt _ (by decide)
theorem clamp_omod (n : Int) : omod (imax (imin n 7) 0) 7 = some (clampW n : Int) := by
  have h0 : 0 ≤ imax (imin n 7) 0 := by
    unfold imax
    by_cases h : (0 : Int) > imin n 7
    · simp [h]
    · simp [h]; omega
  obtain ⟨m, hm⟩ : ∃ m : Nat, imax (imin n 7) 0 = (m : Int) := ⟨(imax (imin n 7) 0).toNat, by omega⟩
  unfold clampW
  rw [hm]
  exact omod_nat m 7 (by decide)
def markB (b : Vector Bool 7) (x : Bucket) : Vector Bool 7 := Vector.set b (clampW x.Watch) true (clamp_lt _)
def markG (b : Vector Bool 7) (g : Group) : Vector Bool 7 := g.Buckets.foldl markB b
theorem F25_l3_eq (go : Nat → Vector Bool 7 → Option (List Int)) (i : Nat) : ∀ (l : List Bucket) (n : Nat) (b : Vector Bool 7), F25_l3 go i l n b = go (i + 1) (l.foldl markB b)
  | [], n, b => by rw [F25_l3]; rfl
  | x :: l, n, b => by
    rw [F25_l3, clamp_omod, Option.bind_some, chk_nat (clamp_lt _), Option.bind_some, F25_l3_eq go i l]
    rfl
theorem F25_l1_eq : ∀ (l : List Group) (n : Nat) (b : Vector Bool 7), F25_l1 l n b = F25_l2 (Vector.toList (l.foldl markG b)) 0 []
  | [], n, b => by rw [F25_l1]; rfl
  | x :: l, n, b => by rw [F25_l1, F25_l3_eq, F25_l1_eq l]; rfl
/-- the numbers at which a list is true, but for 0 -/
def trues : List Bool → Nat → List Int
  | [], _ => []
  | x :: l, i => bif decide ((i : Int) > 0) && x then (i : Int) :: trues l (i + 1) else trues l (i + 1)
theorem trues_len : ∀ (l : List Bool) (i : Nat), (trues l i).length ≤ l.length
  | [], _ => by simp [trues]
  | x :: l, i => by
    have := trues_len l (i + 1)
    unfold trues
    cases decide ((i : Int) > 0) && x <;> simp <;> omega
theorem trues_ge : ∀ (l : List Bool) (i : Nat), ∀ p ∈ trues l i, (i : Int) ≤ p ∧ 0 < p ∧ p < i + l.length
  | [], _, p, h => by simp [trues] at h
  | x :: l, i, p, h => by
    have ih := trues_ge l (i + 1) p
    unfold trues at h
    cases hc : (decide ((i : Int) > 0) && x) <;> rw [hc] at h
    · have := ih h; simp at this ⊢; omega
    · rcases List.mem_cons.1 h with rfl | h
      · simp at hc ⊢; omega
      · have := ih h; simp at this ⊢; omega
theorem trues_nodup : ∀ (l : List Bool) (i : Nat), (trues l i).Nodup
  | [], _ => by simp [trues]
  | x :: l, i => by
    have ih := trues_nodup l (i + 1)
    unfold trues
    cases hc : (decide ((i : Int) > 0) && x)
    · exact ih
    · simp only [cond_true, List.nodup_cons]
      refine ⟨fun h => ?_, ih⟩
      have := trues_ge l (i + 1) _ h
      omega
theorem F25_l2_eq : ∀ (l : List Bool) (i : Nat) (acc : List Int), acc.length + l.length ≤ lim → F25_l2 l i acc = some (acc ++ trues l i)
  | [], i, acc, _ => by rw [F25_l2]; simp [trues]
  | x :: l, i, acc, h => by
    simp only [List.length_cons] at h
    rw [F25_l2]
    unfold trues
    cases hc : (decide ((i : Int) > 0) && x)
    · simp only [cond_false]
      rw [F25_l2_eq l (i + 1) acc (by omega)]
    · simp only [cond_true]
      rw [appd_ok (by simp; omega), Option.bind_some, F25_l2_eq l (i + 1) _ (by simp; omega)]
      simp
def ports (l : List Group) : List Int := trues (Vector.toList ((ofK l 3).foldl markG (Vector.replicate 7 false))) 0
theorem F25_eq (l : List Group) (hl : l.length ≤ lim) : F25 l = some (ports l) := by
  unfold F25
  rw [F72_eq l 3 hl, Option.bind_some, F25_l1_eq, F25_l2_eq _ _ _ (by simp [lim])]
  rfl
theorem ports_nodup (l : List Group) : (ports l).Nodup := trues_nodup _ _
theorem ports_len (l : List Group) : (ports l).length ≤ 7 := by
  have := trues_len (Vector.toList ((ofK l 3).foldl markG (Vector.replicate 7 false))) 0
  simpa [ports] using this

/-- turns -/
theorem F73_eq : ∀ (m a b : Nat), b < m → F73_l1 m (a : Int) (b : Int) = some ((Nat.gcd a b : Nat) : Int) := by
  intro m
  induction m with
  | zero => intro a b h; omega
  | succ m ih =>
    intro a b h
    rw [F73_l1]
    by_cases hb : b = 0
    · subst hb; simp
    · rw [decide_eq_true (by omega : (b : Int) > 0), cond_true, omod_nat a b (by omega), Option.bind_some]
      have := Nat.mod_lt a (show b > 0 by omega)
      rw [ih b (a % b) (by omega)]
      congr 2
      rw [Nat.gcd_comm b, ← Nat.gcd_rec, Nat.gcd_comm]
theorem F73_gcd (a b : Nat) : F73 (a : Int) (b : Int) = some ((Nat.gcd a b : Nat) : Int) := by
  unfold F73
  exact F73_eq _ a b (by omega)
def turnG (n : Nat) (g : Group) : Nat := bif decide (1 ≤ g.Buckets.length) && decide (g.Buckets.length ≤ 4) then Nat.lcm n g.Buckets.length else n
theorem turnG_ok (n : Nat) (g : Group) (h : n ∣ 12) : turnG n g ∣ 12 := by
  unfold turnG
  cases hc : (decide (1 ≤ g.Buckets.length) && decide (g.Buckets.length ≤ 4))
  · exact h
  · simp only [Bool.and_eq_true, decide_eq_true_eq] at hc
    refine Nat.lcm_dvd h ?_
    have : g.Buckets.length = 1 ∨ g.Buckets.length = 2 ∨ g.Buckets.length = 3 ∨ g.Buckets.length = 4 := by omega
    rcases this with e | e | e | e <;> rw [e] <;> decide
theorem F27_l1_eq : ∀ (l : List Group) (i n : Nat), n ∣ 12 → F27_l1 l i (n : Int) = some ((l.foldl turnG n : Nat) : Int)
  | [], i, n, _ => by rw [F27_l1]; rfl
  | g :: l, i, n, h => by
    have hn : n ≤ 12 := Nat.le_of_dvd (by decide) h
    have hpos : 0 < n := Nat.pos_of_ne_zero fun e => by subst e; simp at h
    have ih := F27_l1_eq l (i + 1) (turnG n g) (turnG_ok n g h)
    rw [F27_l1, List.foldl_cons]
    unfold turnG at ih ⊢
    by_cases h1 : 1 ≤ g.Buckets.length ∧ g.Buckets.length ≤ 4
    · have e1 : (decide ((g.Buckets.length : Int) ≥ 1) && decide ((g.Buckets.length : Int) ≤ 4)) = true := by simp; omega
      have e2 : (decide (1 ≤ g.Buckets.length) && decide (g.Buckets.length ≤ 4)) = true := by simp; omega
      rw [e2] at ih ⊢
      rw [e1, cond_true, F73_gcd, Option.bind_some]
      have hg : 0 < Nat.gcd n g.Buckets.length := Nat.gcd_pos_of_pos_left _ hpos
      have hq : oquo .i64 (n : Int) ((Nat.gcd n g.Buckets.length : Nat) : Int) = some ((n / Nat.gcd n g.Buckets.length : Nat) : Int) := by
        unfold oquo
        rw [decide_eq_false (by omega)]
        show some _ = _
        have : n / Nat.gcd n g.Buckets.length ≤ n := Nat.div_le_self _ _
        congr 1
        show IntKind.i64.wrap ((n / Nat.gcd n g.Buckets.length : Nat) : Int) = _
        generalize n / Nat.gcd n g.Buckets.length = q at this
        exact wrap_i64 (by omega) (by omega)
      rw [hq, Option.bind_some]
      have hlcm : n / Nat.gcd n g.Buckets.length * g.Buckets.length = Nat.lcm n g.Buckets.length := by
        unfold Nat.lcm
        rw [Nat.mul_comm, ← Nat.mul_div_assoc _ (Nat.gcd_dvd_left _ _), Nat.mul_comm]
      have hd : Nat.lcm n g.Buckets.length ∣ 12 := by have := turnG_ok n g h; unfold turnG at this; rwa [e2] at this
      have hle := Nat.le_of_dvd (by decide) hd
      have e3 : ((n / Nat.gcd n g.Buckets.length : Nat) : Int) * (g.Buckets.length : Int) = ((Nat.lcm n g.Buckets.length : Nat) : Int) := by rw [← hlcm, Int.natCast_mul]
      rw [e3, wrap_i64 (by omega) (by omega)]
      exact ih
    · have e1 : (decide ((g.Buckets.length : Int) ≥ 1) && decide ((g.Buckets.length : Int) ≤ 4)) = false := by simp; omega
      have e2 : (decide (1 ≤ g.Buckets.length) && decide (g.Buckets.length ≤ 4)) = false := by simp; omega
      rw [e2] at ih ⊢
      rw [e1, cond_false]
      exact ih
def turns (l : List Group) : Nat := (ofK l 1).foldl turnG 1
theorem foldTurn_dvd : ∀ (l : List Group) (n : Nat), n ∣ 12 → l.foldl turnG n ∣ 12
  | [], n, h => h
  | g :: l, n, h => foldTurn_dvd l _ (turnG_ok n g h)
theorem turns_dvd (l : List Group) : turns l ∣ 12 := foldTurn_dvd _ _ ⟨12, rfl⟩
theorem turns_le (l : List Group) : turns l ≤ 12 := Nat.le_of_dvd (by decide) (turns_dvd l)
theorem turns_pos (l : List Group) : 0 < turns l := Nat.pos_of_ne_zero fun e => by have := turns_dvd l; rw [e] at this; simp at this
theorem F27_eq (l : List Group) (hl : l.length ≤ lim) : F27 l = some ((turns l : Nat) : Int) := by
  unfold F27
  rw [F72_eq l 1 hl, Option.bind_some]
  exact F27_l1_eq _ 0 1 ⟨12, rfl⟩

/-- the ports that are down in world n -/
def downS : List Int → Nat → List Int
  | [], _ => []
  | p :: ps, n => bif decide (n % 2 = 1) then p :: downS ps (n / 2) else downS ps (n / 2)
theorem downS_len : ∀ (ps : List Int) (n : Nat), (downS ps n).length ≤ ps.length
  | [], _ => by simp [downS]
  | p :: ps, n => by
    have := downS_len ps (n / 2)
    unfold downS
    cases decide (n % 2 = 1) <;> simp <;> omega
theorem F71_l1_eq (n : Nat) (hn : n < 9223372036854775808) : ∀ (ps : List Int) (i : Nat) (acc : List Int), i + ps.length ≤ 64 → acc.length + ps.length ≤ lim → F71_l1 (n : Int) ps i acc = some (acc ++ downS ps (n / 2 ^ i))
  | [], i, acc, _, _ => by rw [F71_l1]; simp [downS]
  | p :: ps, i, acc, h1, h2 => by
    simp only [List.length_cons] at h1 h2
    have hle : n / 2 ^ i ≤ n := Nat.div_le_self _ _
    rw [F71_l1, oshr_nat n i (by omega), Option.bind_some, ibits_one _ (by omega)]
    have hnext : n / 2 ^ i / 2 = n / 2 ^ (i + 1) := by rw [Nat.div_div_eq_div_mul, Nat.pow_succ]
    unfold downS
    rw [hnext]
    by_cases hb : n / 2 ^ i % 2 = 1
    · rw [decide_eq_true hb, decide_eq_true (by omega), cond_true, cond_true, appd_ok (by simp; omega), Option.bind_some, F71_l1_eq n hn ps (i + 1) _ (by omega) (by simp; omega)]
      simp
    · rw [decide_eq_false hb, decide_eq_false (by omega), cond_false, cond_false, F71_l1_eq n hn ps (i + 1) _ (by omega) (by omega)]
theorem F71_eq (ps : List Int) (n : Nat) (hn : n < 9223372036854775808) (hp : ps.length ≤ 64) : F71 ps (n : Int) = some (downS ps n) := by
  unfold F71
  rw [F71_l1_eq n hn ps 0 [] (by omega) (by simp [lim]; omega)]
  simp

/-- all worlds -/
def worlds (ps : List Int) (t : Nat) : List Env := (List.range t).flatMap fun (i : Nat) => (List.range (2 ^ ps.length)).map fun n => (⟨(i : Int), downS ps n⟩ : Env)
theorem collectF_ok {acc : List Env} {x : Env} (h : acc.length + 1 ≤ lim) : yc collectF (.go acc) x = some (.go (acc ++ [x])) := by
  show collectF acc x = _
  unfold collectF
  rw [appd_ok (by simpa using h)]; rfl
theorem F70_l2_eq (go : Nat → Lp (List Env) → Option (Lp (List Env))) (i : Nat) (ps : List Int) (hp : ps.length ≤ 62) : ∀ (m k : Nat) (acc : List Env), k + m ≤ 9223372036854775807 → acc.length + m ≤ lim →
    F70_l2 (List Env) go i ps collectF m k (.go acc) = go (i + 1) (.go (acc ++ (List.range' k m).map fun n => (⟨(i : Int), downS ps n⟩ : Env)))
  | 0, k, acc, _, _ => by rw [F70_l2]; simp
  | m + 1, k, acc, h1, h2 => by
    rw [F70_l2, F71_eq ps k (by omega) (by omega), Option.bind_some, collectF_ok (by omega), Option.bind_some]
    show (bif !true then _ else _) = _
    rw [Bool.not_true, cond_false, F70_l2_eq go i ps hp m (k + 1) _ (by omega) (by simp; omega), List.range'_succ]
    simp
theorem F70_l1_eq (ps : List Int) (hp : ps.length ≤ 7) : ∀ (m i : Nat) (acc : List Env), acc.length + m * 128 ≤ lim →
    F70_l1 (List Env) ps collectF m i (.go acc) = some (.go (acc ++ (List.range' i m).flatMap fun (i : Nat) => (List.range (2 ^ ps.length)).map fun n => (⟨(i : Int), downS ps n⟩ : Env)))
  | 0, i, acc, _ => by rw [F70_l1]; simp
  | m + 1, i, acc, h => by
    have h128 : 2 ^ ps.length ≤ 128 := Nat.pow_le_pow_right (n := 2) (by decide) hp
    have hlim : lim = 4294967296 := rfl
    rw [F70_l1, oshl_one _ (by omega), Option.bind_some]
    have e : (((2 ^ ps.length : Nat) : Int)).toNat = 2 ^ ps.length := Int.toNat_natCast _
    have h3 : F70_l2 (List Env) (F70_l1 (List Env) ps collectF m) i ps collectF (2 ^ ps.length) 0 (.go acc) = _ := F70_l2_eq _ i ps (by omega) _ 0 acc (by generalize 2 ^ ps.length = d at h128; omega) (by generalize 2 ^ ps.length = d at h128; omega)
    rw [e, h3, F70_l1_eq ps hp m (i + 1) _ (by simp; generalize 2 ^ ps.length = d at h128; omega), List.range'_succ]
    simp [List.range_eq_range']
theorem F14_eq (l : List Group) (hl : l.length ≤ lim) : F14 l = some (worlds (ports l) (turns l)) := by
  have hlim : lim = 4294967296 := rfl
  have h : F63 (Itr.mk fun σ y s => F70 σ y s l) = some (worlds (ports l) (turns l)) := by
    unfold F63 F112 collect
    show (((F70 (List Env) collectF (.go []) l).bind lpGo).bind fun x2 => some x2) = _
    unfold F70
    have ht := turns_le l
    rw [F25_eq l hl, Option.bind_some, F27_eq l hl, Option.bind_some, show (((turns l : Nat) : Int)).toNat = turns l by omega, F70_l1_eq _ (ports_len l) _ 0 [] (by simp; omega)]
    simp [lpGo, worlds, List.range_eq_range']
  unfold F14 F22
  rw [Option.bind_some, h]; rfl
theorem worlds_len (ps : List Int) (t : Nat) : (worlds ps t).length = t * 2 ^ ps.length := by
  unfold worlds
  rw [List.length_flatMap]
  have h : ∀ l : List Nat, (l.map fun (i : Nat) => ((List.range (2 ^ ps.length)).map fun n => (⟨(i : Int), downS ps n⟩ : Env)).length).sum = l.length * 2 ^ ps.length := fun l => by
    induction l with
    | nil => simp
    | cons x l ih => rw [List.map_cons, List.sum_cons, ih, List.length_cons, Nat.succ_mul]; simp; omega
  rw [h, List.length_range]
theorem flatMap_get {α β : Type} (f : α → List β) (k : Nat) : ∀ (l : List α) (q : Nat), (∀ x ∈ l, (f x).length = k) → q < l.length * k → (l.flatMap f)[q]? = (l[q / k]?).bind fun x => (f x)[q % k]?
  | [], q, _, h => by simp at h
  | x :: l, q, hf, h => by
    have hk : 0 < k := Nat.pos_of_ne_zero fun e => by subst e; simp at h
    rw [List.flatMap_cons, List.getElem?_append, hf x (by simp)]
    by_cases hq : q < k
    · rw [if_pos hq, Nat.div_eq_of_lt hq, Nat.mod_eq_of_lt hq]; rfl
    · rw [if_neg hq, flatMap_get f k l (q - k) (fun y hy => hf y (by simp [hy])) (by rw [List.length_cons, Nat.succ_mul] at h; omega)]
      have e1 : q / k = (q - k) / k + 1 := by rw [Nat.div_eq_sub_div hk (by omega)]
      have e2 : q % k = (q - k) % k := by rw [Nat.mod_eq_sub_mod (by omega)]
      rw [e1, e2, List.getElem?_cons_succ]
theorem worlds_get (ps : List Int) (t q : Nat) (h : q < t * 2 ^ ps.length) : (worlds ps t)[q]? = some ⟨((q / 2 ^ ps.length : Nat) : Int), downS ps (q % 2 ^ ps.length)⟩ := by
  have hk : 0 < 2 ^ ps.length := Nat.pow_pos (by decide)
  unfold worlds
  rw [flatMap_get _ (2 ^ ps.length) _ q (by simp) (by simpa using h)]
  have h1 : q / 2 ^ ps.length < t := by rw [Nat.div_lt_iff_lt_mul hk]; exact h
  have h2 := Nat.mod_lt q hk
  rw [List.getElem?_range h1, Option.bind_some, List.getElem?_map, List.getElem?_range h2]
  rfl
/-- no two worlds are alike -/
theorem downS_sub : ∀ (ps : List Int) (n : Nat), ∀ p ∈ downS ps n, p ∈ ps
  | [], _, p, h => by simp [downS] at h
  | q :: ps, n, p, h => by
    unfold downS at h
    cases hc : decide (n % 2 = 1) <;> rw [hc] at h
    · exact List.mem_cons_of_mem _ (downS_sub ps _ p h)
    · rcases List.mem_cons.1 h with rfl | h
      · simp
      · exact List.mem_cons_of_mem _ (downS_sub ps _ p h)
theorem downS_inj : ∀ (ps : List Int) (m n : Nat), ps.Nodup → m < 2 ^ ps.length → n < 2 ^ ps.length → downS ps m = downS ps n → m = n
  | [], m, n, _, h1, h2, _ => by simp at h1 h2; omega
  | p :: ps, m, n, hd, h1, h2, h => by
    rw [List.nodup_cons] at hd
    rw [List.length_cons, Nat.pow_succ] at h1 h2
    have key : ∀ a b, downS ps a = p :: downS ps b → False := fun a b e => hd.1 (downS_sub ps a p (by rw [e]; simp))
    unfold downS at h
    by_cases hm : m % 2 = 1 <;> by_cases hn : n % 2 = 1
    · rw [decide_eq_true hm, decide_eq_true hn] at h
      have := downS_inj ps (m / 2) (n / 2) hd.2 (by omega) (by omega) (List.cons.inj h).2
      omega
    · rw [decide_eq_true hm, decide_eq_false hn] at h
      exact (key _ _ h.symm).elim
    · rw [decide_eq_false hm, decide_eq_true hn] at h
      exact (key _ _ h).elim
    · rw [decide_eq_false hm, decide_eq_false hn] at h
      have := downS_inj ps (m / 2) (n / 2) hd.2 (by omega) (by omega) h
      omega
theorem downS_filter : ∀ (ps : List Int) (n : Nat), ps.Nodup → ps.filter (fun p => (downS ps n).contains p) = downS ps n
  | [], _, _ => by simp [downS]
  | p :: ps, n, hd => by
    rw [List.nodup_cons] at hd
    have ih := downS_filter ps (n / 2) hd.2
    unfold downS
    by_cases hn : n % 2 = 1
    · rw [decide_eq_true hn, cond_true, List.filter_cons_of_pos (by simp)]
      congr 1
      rw [← ih]
      apply List.filter_congr
      intro q hq
      have hne : q ≠ p := fun e => hd.1 (e ▸ hq)
      rw [ih]
      simp [hne]
    · rw [decide_eq_false hn, cond_false, List.filter_cons_of_neg, ih]
      rw [List.contains_iff_mem]
      exact fun h => hd.1 (downS_sub ps _ p h)
/-- slices.Equal -/
theorem F24_l1_eq (s t : List Int) (hl : s.length = t.length) : ∀ (m i : Nat), i + m = s.length → F24_l1 s t m i = some (decide (s.drop i = t.drop i))
  | 0, i, h => by rw [F24_l1, List.drop_of_length_le (by omega), List.drop_of_length_le (by omega)]; simp
  | m + 1, i, h => by
    have h1 : i < s.length := by omega
    have h2 : i < t.length := by omega
    rw [F24_l1, lget_lt h1, Option.bind_some, lget_lt h2, Option.bind_some, List.drop_eq_getElem_cons h1, List.drop_eq_getElem_cons h2]
    by_cases he : s[i] = t[i]
    · rw [decide_eq_false (by simpa using he), cond_false, F24_l1_eq s t hl m (i + 1) (by omega)]
      simp only [List.cons.injEq, he, true_and]
    · rw [decide_eq_true (by simpa using he), cond_true]
      simp only [List.cons.injEq, he, false_and, decide_false]
theorem F24_eq (s t : List Int) : F24 s t = some (decide (s = t)) := by
  unfold F24
  by_cases hl : s.length = t.length
  · rw [decide_eq_false (by omega), cond_false, show ((s.length : Int)).toNat = s.length by omega, F24_l1_eq s t hl _ 0 (by omega)]
    simp
  · rw [decide_eq_true (by omega), cond_true]
    have : s ≠ t := fun e => hl (e ▸ rfl)
    simp [this]
theorem F15_eq (a b : Env) : F15 a b = some (decide (a = b)) := by
  unfold F15
  rw [F24_eq]
  by_cases h : a.Turn = b.Turn
  · rw [decide_eq_true h, opt_true, Option.bind_some, Bool.true_and]
    congr 1
    cases a; cases b
    simp at h
    simp [h]
  · rw [decide_eq_false h, opt_false, Option.bind_some, Bool.false_and]
    have : a ≠ b := fun e => h (e ▸ rfl)
    simp [this]
theorem F66_eq (e : Env) (t n : Nat) (he : e.Turn = (t : Int)) (h : t < n) (hn : n ≤ 12) : F66 e (n : Int) = some (t : Int) := by
  unfold F66
  rw [decide_eq_false (by omega), cond_false, he, omod_nat t n (by omega), Option.bind_some, Nat.mod_eq_of_lt h, decide_eq_false (by omega), cond_false]
theorem F16_world (l : List Group) (hl : l.length ≤ lim) (t n : Nat) (ht : t < turns l) (hn : n < 2 ^ (ports l).length) : F16 ⟨(t : Int), downS (ports l) n⟩ l = some ⟨(t : Int), downS (ports l) n⟩ := by
  unfold F16
  have hlim : lim = 4294967296 := rfl
  have hp := ports_len l
  rw [F25_eq l hl, Option.bind_some, F64_eq (ports l) (fun x => F65 x ⟨(t : Int), downS (ports l) n⟩) (fun p => !(downS (ports l) n).contains p) (fun p _ => by unfold F65; rw [F19_eq]; rfl) (by omega), Option.bind_some, F27_eq l hl, Option.bind_some, F66_eq _ t (turns l) rfl ht (turns_le l), Option.bind_some]
  congr 2
  simp only [Bool.not_not]
  exact downS_filter _ _ (ports_nodup l)
theorem F13_eq : F13 = some true := by decide
theorem F12_eq (l : List Group) : ∃ b, F12 l 8 4 = some b ∧ (b = true → l.length ≤ 8) := by
  have h111 : ∀ a, F111 a = some (decide ((a.length : Int) ≤ 12)) := fun _ => rfl
  have h62 : ∀ bs, ∃ b, F62 bs 4 = some b := fun bs => by
    unfold F62
    rw [F109_eq bs F110 (fun x => !decide ((x.Acts.length : Int) ≤ 12)) (fun x _ => rfl)]
    cases decide ((bs.length : Int) ≤ 4)
    · exact ⟨_, rfl⟩
    · exact ⟨_, rfl⟩
  have h61 : ∃ p : Group → Bool, ∀ g, F61 g 4 = some (p g) := by
    refine ⟨fun g => (F61 g 4).getD false, fun g => ?_⟩
    obtain ⟨b, hb⟩ := h62 g.Buckets
    have h5 : F61 g 4 = some (!b) := by unfold F61; rw [hb]; rfl
    show _ = some ((F61 g 4).getD false)
    rw [h5]; rfl
  obtain ⟨p, hp⟩ := h61
  unfold F12
  rw [F20_eq l (fun x => F61 x 4) p (fun x _ => hp x)]
  cases hc : decide ((l.length : Int) ≤ 8)
  · exact ⟨false, rfl, fun h => by cases h⟩
  · refine ⟨_, rfl, fun _ => ?_⟩
    have := of_decide_eq_true hc
    omega
theorem law (l : List Group) (i j : Nat) (hi : i < 65536) (hj : j < 65536) : F3 l (i : Int) (j : Int) = some true := by
  have hlim : lim = 4294967296 := rfl
  obtain ⟨b, hb, hb8⟩ := F12_eq l
  unfold F3
  rw [hb, Option.bind_some]
  cases b with
  | false => rw [Bool.not_false, cond_true, F13_eq]; rfl
  | true =>
    have hl : l.length ≤ lim := by have := hb8 rfl; omega
    have hk : 0 < 2 ^ (ports l).length := Nat.pow_pos (by decide)
    have hlen := worlds_len (ports l) (turns l)
    have hpos : 0 < turns l * 2 ^ (ports l).length := Nat.mul_pos (turns_pos l) hk
    rw [Bool.not_true, cond_false, F14_eq l hl, Option.bind_some, hlen]
    generalize hN : turns l * 2 ^ (ports l).length = N at *
    have hiN := Nat.mod_lt i hpos
    have hjN := Nat.mod_lt j hpos
    have get : ∀ q, q < N → lget (worlds (ports l) (turns l)) (q : Int) = some ⟨((q / 2 ^ (ports l).length : Nat) : Int), downS (ports l) (q % 2 ^ (ports l).length)⟩ := fun q hq => by
      rw [lget_nat]; exact worlds_get _ _ q (by omega)
    rw [decide_eq_false (by omega), cond_false, wrap_i64 (by omega) (by omega), wrap_i64 (by omega) (by omega), omod_nat i N hpos, Option.bind_some, omod_nat j N hpos, Option.bind_some]
    generalize i % N = p at *
    generalize j % N = q at *
    rw [get p hiN, Option.bind_some, get q hjN, Option.bind_some, F15_eq, Option.bind_some]
    have hsame : (decide ((⟨((p / 2 ^ (ports l).length : Nat) : Int), downS (ports l) (p % 2 ^ (ports l).length)⟩ : Env) = ⟨((q / 2 ^ (ports l).length : Nat) : Int), downS (ports l) (q % 2 ^ (ports l).length)⟩) == decide ((p : Int) = (q : Int))) = true := by
      rw [beq_iff_eq, Bool.eq_iff_iff]
      simp only [decide_eq_true_eq, Env.mk.injEq]
      constructor
      · rintro ⟨h1, h2⟩
        have h3 := downS_inj _ _ _ (ports_nodup l) (Nat.mod_lt p hk) (Nat.mod_lt q hk) h2
        have h4 := Nat.div_add_mod p (2 ^ (ports l).length)
        have h5 := Nat.div_add_mod q (2 ^ (ports l).length)
        have h6 : p / 2 ^ (ports l).length = q / 2 ^ (ports l).length := by exact_mod_cast h1
        rw [h3, h6] at h4
        have : p = q := h4.symm.trans h5
        exact_mod_cast this
      · intro h
        have : p = q := by exact_mod_cast h
        subst this
        exact ⟨rfl, rfl⟩
    rw [hsame]
    simp only [opt_true]
    have ht : p / 2 ^ (ports l).length < turns l := by rw [Nat.div_lt_iff_lt_mul hk, hN]; exact hiN
    rw [Option.bind_some, F16_world l hl _ _ ht (Nat.mod_lt p hk), Option.bind_some, Option.bind_some, F15_eq, Option.bind_some]
    simp only [decide_true, Bool.and_self, opt_true]
    rw [Option.bind_some, F17_eq _ _ (fun n => !(downS (ports l) (p % 2 ^ (ports l).length)).contains n) (fun n _ => by unfold F18; rw [get p hiN, Option.bind_some, F19_eq]; rfl)]
    have hany : ((downS (ports l) (p % 2 ^ (ports l).length)).any fun n => !(downS (ports l) (p % 2 ^ (ports l).length)).contains n) = false := by
      rw [List.any_eq_false]
      intro n hn
      simpa using hn
    rw [hany, Option.bind_some]
    simp only [Bool.not_false, Bool.and_self, opt_true]
    rw [F13_eq]; rfl
theorem law_all (l : List Group) (i j : Int) (hi : IntKind.u16.has i) (hj : IntKind.u16.has j) : F3 l i j = some true := by
  obtain ⟨h1, h2⟩ := hi
  obtain ⟨h3, h4⟩ := hj
  simp only [IntKind.min, IntKind.max, IntKind.signed, IntKind.bits] at h1 h2 h3 h4
  obtain ⟨m, rfl⟩ : ∃ m : Nat, i = m := ⟨i.toNat, by simp at h1; omega⟩
  obtain ⟨n, rfl⟩ : ∃ n : Nat, j = n := ⟨j.toNat, by simp at h3; omega⟩
  exact law l m n (by simp at h2; omega) (by simp at h4; omega)
end Go.Proofs.Ytokmmcflinnfiaa.W
