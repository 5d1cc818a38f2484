/- LawZN: a part of the proof. -/
import Derived.Test.YtokmmcflinnfiaaGreatLawZF
import Derived.Test.YtokmmcflinnfiaaGreatLawZG
set_option linter.unusedVariables false
set_option linter.unusedSimpArgs false
namespace Go.Proofs.YtokmmcflinnfiaaGreat.W
open Go Go.Wb

/-! ### atoms without groups -/
def listN (G : Int → Cube → List Atom) : List Atom → List Atom
  | [] => []
  | x :: l => (bif x.Group then G x.Port x.Rewrite else [{ x with Rewrite := cclean x.Rewrite }]) ++ listN G l
def goN (l : List Group) (e : Env) : Nat → Int → Cube → List Atom
  | 0, _, _ => []
  | d + 1, id, r => match findG l id with
    | none => []
    | some g => (takesOf e g).flatMap fun i => listN (goN l e d) (doT (setActs (bucketActs g.Buckets i)) (cclean r)).1
theorem listN_append (G : Int → Cube → List Atom) : ∀ a b : List Atom, listN G (a ++ b) = listN G a ++ listN G b
  | [], b => rfl
  | x :: a, b => by rw [List.cons_append, listN, listN, listN_append G a b, List.append_assoc]
theorem listN_len (G : Int → Cube → List Atom) (B : Nat) (hB : 1 ≤ B) (hG : ∀ id r, (G id r).length ≤ B) : ∀ a : List Atom, (listN G a).length ≤ a.length * B
  | [] => by simp [listN]
  | x :: a => by
    have ih := listN_len G B hB hG a
    rw [listN, List.length_append, List.length_cons, Nat.add_mul, Nat.one_mul]
    have : (bif x.Group then G x.Port x.Rewrite else [{ x with Rewrite := cclean x.Rewrite }]).length ≤ B := by
      cases x.Group
      · simpa using hB
      · exact hG _ _
    omega
theorem goN_len (l : List Group) (e : Env) (hl : lightG l) : ∀ (d : Nat) (id : Int) (r : Cube), (goN l e d id r).length ≤ 3 ^ d
  | 0, id, r => by simp [goN]
  | d + 1, id, r => by
    rw [goN]
    cases hf : findG l id with
    | none => simp
    | some g =>
      have hb := hl.2 g (findG_mem hf)
      have ht := (takesOf_ok e g hb).1
      have h1 : 1 ≤ 3 ^ d := Nat.pow_pos (by decide)
      have := flatMap_bd (fun i => listN (goN l e d) (doT (setActs (bucketActs g.Buckets i)) (cclean r)).1) (3 ^ d) (takesOf e g) fun i _ => by
        have h2 := listN_len (goN l e d) (3 ^ d) h1 (goN_len l e hl d) (doT (setActs (bucketActs g.Buckets i)) (cclean r)).1
        rw [doT_len] at h2
        have h3 := outs_set (bucketActs g.Buckets i)
        have h4 : outs (setActs (bucketActs g.Buckets i)) * 3 ^ d ≤ 1 * 3 ^ d := Nat.mul_le_mul_right _ h3
        omega
      have h5 : (takesOf e g).length * 3 ^ d ≤ 3 * 3 ^ d := Nat.mul_le_mul_right _ ht
      have e1 : 3 ^ (d + 1) = 3 * 3 ^ d := by rw [Nat.pow_succ, Nat.mul_comm]
      show ((takesOf e g).flatMap _).length ≤ _
      omega
theorem F35s_l1_eq (R : norm_world → Int → Cube → Option (List Atom)) (w : norm_world) (G : Int → Cube → List Atom) (B : Nat) (hB : 1 ≤ B) (hG : ∀ id r, (G id r).length ≤ B) (hR : ∀ id r, R w id r = some (G id r)) :
    ∀ (a : List Atom) (i : Nat) (acc : List Atom), acc.length + a.length * B ≤ lim → F35s_l1 R w a i acc = some (acc ++ listN G a)
  | [], i, acc, _ => by rw [F35s_l1]; simp [listN]
  | x :: a, i, acc, h => by
    simp only [List.length_cons, Nat.add_mul, Nat.one_mul] at h
    rw [F35s_l1, listN]
    cases x.Group
    · rw [cond_false, cond_false, F61_eq, Option.bind_some, appd_ok (by simp; omega), Option.bind_some, F35s_l1_eq R w G B hB hG hR a (i + 1) _ (by simp; omega)]
      simp
    · have h2 := hG x.Port x.Rewrite
      rw [cond_true, cond_true, hR, Option.bind_some, appd_ok (by omega), Option.bind_some, F35s_l1_eq R w G B hB hG hR a (i + 1) _ (by rw [List.length_append]; omega)]
      simp
theorem F38s_l1_eq (R : norm_world → List Atom → Option (List Atom)) (w w2 : norm_world) (hw : { w with depth := (IntKind.i64.wrap (w.depth + 1)) } = w2) (G : Int → Cube → List Atom) (r : Cube) (g : Group) (hg : lightB g.Buckets) (B : Nat) (hB : 1 ≤ B) (hG : ∀ id r, (G id r).length ≤ B)
    (hR : ∀ a : List Atom, a.length ≤ 1 → R w2 a = some (listN G a)) :
    ∀ (ts : List Int) (i : Nat) (acc : List Atom), (∀ t ∈ ts, ∃ n : Nat, t = (n : Int) ∧ n < g.Buckets.length) → acc.length + ts.length * B ≤ lim →
      F38s_l1 (g, true) r R w ts i acc = some (acc ++ ts.flatMap fun i => listN G (doT (setActs (bucketActs g.Buckets i)) (cclean r)).1)
  | [], i, acc, _, _ => by rw [F38s_l1]; simp
  | t :: ts, i, acc, ht, hb => by
    have hlim : lim = 4294967296 := rfl
    obtain ⟨n, rfl, hn⟩ := ht t (by simp)
    simp only [List.length_cons, Nat.add_mul, Nat.one_mul] at hb
    have hacts := hg.2 g.Buckets[n] (List.getElem_mem hn)
    have hba : bucketActs g.Buckets (n : Int) = g.Buckets[n].Acts := by
      unfold bucketActs
      rw [Int.toNat_natCast, List.getElem?_eq_getElem hn]
    have hwl := wr_len g.Buckets[n].Acts []
    simp only [List.length_nil, Nat.zero_add] at hwl
    have hsl : (setActs g.Buckets[n].Acts).length ≤ 12 := by
      unfold setActs lstA
      rw [(srt_perm _ _).length_eq]
      exact Nat.le_trans (List.length_filter_le ..) (by omega)
    have hout := outs_set g.Buckets[n].Acts
    have h1 : (doT (setActs g.Buckets[n].Acts) (cclean r)).1.length ≤ 1 := by rw [doT_len]; exact hout
    have h2 := listN_len G B hB hG (doT (setActs g.Buckets[n].Acts) (cclean r)).1
    have h3 : (doT (setActs g.Buckets[n].Acts) (cclean r)).1.length * B ≤ 1 * B := Nat.mul_le_mul_right _ h1
    rw [F38s_l1]
    simp only
    rw [lget_lt hn, Option.bind_some, F56_eq _ _ (by simp; omega), Option.bind_some, F55_eq _ (by omega), Option.bind_some, show lstA (g.Buckets[n].Acts.foldl wr1 []) = setActs g.Buckets[n].Acts from rfl, F43_eq _ r (by omega), Option.bind_some, hw, hR _ h1, Option.bind_some, appd_ok (by omega), Option.bind_some,
      F38s_l1_eq R w w2 hw G r g hg B hB hG hR ts (i + 1) _ (fun t h => ht t (by simp [h])) (by rw [List.length_append]; omega), List.flatMap_cons, hba]
    simp
theorem walkN_eq (l : List Group) (e : Env) (hl : lightG l) : ∀ (d : Nat), d ≤ 8 →
    (∀ n id r, 2 * d + 1 ≤ n → (FR35_38 n).2 ⟨e, l, ((8 - d : Nat) : Int)⟩ id r = some (goN l e d id r)) ∧
    (∀ n a, 2 * d + 2 ≤ n → a.length * 3 ^ d ≤ lim → (FR35_38 n).1 ⟨e, l, ((8 - d : Nat) : Int)⟩ a = some (listN (goN l e d) a)) := by
  have hlim : lim = 4294967296 := rfl
  intro d
  induction d with
  | zero =>
    intro hd
    have h1 : ∀ n id r, 2 * 0 + 1 ≤ n → (FR35_38 n).2 ⟨e, l, ((8 - 0 : Nat) : Int)⟩ id r = some (goN l e 0 id r) := by
      intro n id r hn
      obtain ⟨n, rfl⟩ : ∃ k, n = k + 1 := ⟨n - 1, by omega⟩
      show F38s (FR35_38 n).1 (FR35_38 n).2 _ _ _ = _
      unfold F38s
      simp only
      rw [F53_eq l id hl, Option.bind_some]
      have : ∀ x : Group × Bool, ((!x.2) || decide (((8 - 0 : Nat) : Int) ≥ 8)) = true := fun x => by simp
      rw [this]
      rfl
    refine ⟨h1, ?_⟩
    intro n a hn hb
    obtain ⟨n, rfl⟩ : ∃ k, n = k + 1 := ⟨n - 1, by omega⟩
    show F35s (FR35_38 n).1 (FR35_38 n).2 _ _ = _
    unfold F35s
    exact F35s_l1_eq _ _ (goN l e 0) (3 ^ 0) (by decide) (goN_len l e hl 0) (fun id r => h1 n id r (by omega)) a 0 [] (by simp only [List.length_nil]; omega)
  | succ d ih =>
    intro hd
    obtain ⟨ih1, ih2⟩ := ih (by omega)
    have hp : 3 ^ (d + 1) = 3 * 3 ^ d := by rw [Nat.pow_succ, Nat.mul_comm]
    have hp8 : 3 ^ d ≤ 3 ^ 8 := Nat.pow_le_pow_right (by decide) (by omega)
    have hp9 : (3 : Nat) ^ 8 = 6561 := by decide
    have h1 : ∀ n id r, 2 * (d + 1) + 1 ≤ n → (FR35_38 n).2 ⟨e, l, ((8 - (d + 1) : Nat) : Int)⟩ id r = some (goN l e (d + 1) id r) := by
      intro n id r hn
      obtain ⟨n, rfl⟩ : ∃ k, n = k + 1 := ⟨n - 1, by omega⟩
      show F38s (FR35_38 n).1 (FR35_38 n).2 _ _ _ = _
      unfold F38s
      simp only
      rw [F53_eq l id hl, Option.bind_some, goN]
      cases hf : findG l id with
      | none => simp
      | some g =>
        have hg := hl.2 g (findG_mem hf)
        obtain ⟨t1, t2⟩ := takesOf_ok e g hg
        simp only [Bool.not_true, Bool.false_or]
        rw [decide_eq_false (by omega), cond_false, F54_eq e g hg, Option.bind_some]
        have ew : IntKind.i64.wrap (((8 - (d + 1) : Nat) : Int) + 1) = ((8 - d : Nat) : Int) := by rw [wrap_i64 (by omega) (by omega)]; omega
        have hmul : (takesOf e g).length * 3 ^ d ≤ 3 * 3 ^ d := Nat.mul_le_mul_right _ t1
        have := F38s_l1_eq (FR35_38 n).1 ⟨e, l, ((8 - (d + 1) : Nat) : Int)⟩ ⟨e, l, ((8 - d : Nat) : Int)⟩ (by simp only [ew]) (goN l e d) r g hg (3 ^ d) (Nat.pow_pos (by decide)) (goN_len l e hl d)
          (fun a ha => ih2 n a (by omega) (by
            have : a.length * 3 ^ d ≤ 1 * 3 ^ d := Nat.mul_le_mul_right _ ha
            omega)) (takesOf e g) 0 [] t2 (by simp only [List.length_nil]; omega)
        rw [this]
        rfl
    refine ⟨h1, ?_⟩
    intro n a hn hb
    obtain ⟨n, rfl⟩ : ∃ k, n = k + 1 := ⟨n - 1, by omega⟩
    show F35s (FR35_38 n).1 (FR35_38 n).2 _ _ = _
    unfold F35s
    exact F35s_l1_eq _ _ (goN l e (d + 1)) (3 ^ (d + 1)) (Nat.pow_pos (by decide)) (goN_len l e hl (d + 1)) (fun id r => h1 n id r (by omega)) a 0 [] (by simp only [List.length_nil]; omega)
theorem F17_eq (l : List Group) (e : Env) (a : List Atom) (hl : lightG l) (ha : a.length ≤ 200000) : F17 l e a = some (listN (goN l e 8) a) := by
  have hlim : lim = 4294967296 := rfl
  have hp9 : (3 : Nat) ^ 8 = 6561 := by decide
  have hm : a.length * 3 ^ 8 ≤ 200000 * 3 ^ 8 := Nat.mul_le_mul_right _ ha
  unfold F17 F35
  have := (walkN_eq l e hl 8 (by decide)).2 fuel0 a (by unfold fuel0; omega) (by rw [hp9] at hm ⊢; omega)
  rw [show (((8 - 8 : Nat)) : Int) = 0 from rfl] at this
  rw [this]
  rfl
theorem F20_eq (l : List Group) (e : Env) (id : Int) (r : Cube) (hl : lightG l) : F20 l e id r = some (goN l e 8 id r) := by
  unfold F20 F38
  have := (walkN_eq l e hl 8 (by decide)).1 fuel0 id r (by unfold fuel0; omega)
  rw [show (((8 - 8 : Nat)) : Int) = 0 from rfl] at this
  rw [this]
  rfl
/-- atoms that are no groups, and are clean -/
def plainA (a : Atom) : Prop := a.Group = false ∧ cclean a.Rewrite = a.Rewrite
theorem listN_plain (G : Int → Cube → List Atom) (hG : ∀ id r, ∀ x ∈ G id r, plainA x) : ∀ a : List Atom, ∀ x ∈ listN G a, plainA x
  | [], x, h => by simp [listN] at h
  | y :: a, x, h => by
    rw [listN, List.mem_append] at h
    rcases h with h | h
    · cases hy : y.Group
      · rw [hy] at h
        simp only [cond_false, List.mem_singleton] at h
        subst h
        exact ⟨rfl, cclean_clean _⟩
      · rw [hy] at h
        exact hG _ _ x h
    · exact listN_plain G hG a x h
theorem goN_plain (l : List Group) (e : Env) : ∀ (d : Nat) (id : Int) (r : Cube), ∀ x ∈ goN l e d id r, plainA x
  | 0, id, r, x, h => by simp [goN] at h
  | d + 1, id, r, x, h => by
    rw [goN] at h
    cases hf : findG l id with
    | none => rw [hf] at h; simp at h
    | some g =>
      rw [hf] at h
      have h' : x ∈ (takesOf e g).flatMap fun i => listN (goN l e d) (doT (setActs (bucketActs g.Buckets i)) (cclean r)).1 := h
      obtain ⟨i, _, hx⟩ := List.mem_flatMap.1 h'
      exact listN_plain _ (goN_plain l e d) _ x hx
theorem listN_id (G : Int → Cube → List Atom) : ∀ a : List Atom, (∀ x ∈ a, plainA x) → listN G a = a
  | [], _ => rfl
  | x :: a, h => by
    obtain ⟨h1, h2⟩ := h x (by simp)
    rw [listN, h1, cond_false, listN_id G a fun y hy => h y (by simp [hy]), h2]
    show (⟨x.Rewrite, false, x.Port, x.Max⟩ : Atom) :: a = x :: a
    rw [← h1]
theorem F15_eq : F15 = some true := by decide +kernel
end Go.Proofs.YtokmmcflinnfiaaGreat.W
