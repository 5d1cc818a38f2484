/- LawZY: a part of the proof. -/
import Derived.Test.YtokmmcflinnfiaaGreatLawZX
set_option linter.unusedVariables false
set_option linter.unusedSimpArgs false
namespace Go.Proofs.YtokmmcflinnfiaaGreat.W
open Go Go.Wb

/-! ### the reference's atoms -/
theorem F63_l1_eq (acts : List Action) (ha : acts.length ≤ 1000) : ∀ (m i : Nat) (r : Cube) (o : List Atom), i ≤ acts.length → acts.length < i + m → o.length ≤ i → F63_l1 acts m r o (i : Int) = some (o ++ (doT (acts.drop i) r).1, (doT (acts.drop i) r).2)
  | 0, i, r, o, h1, h2, _ => by omega
  | m + 1, i, r, o, h1, h2, hb => by
    have hlim : lim = 4294967296 := rfl
    rw [F63_l1]
    by_cases hi : i < acts.length
    · rw [decide_eq_true (by omega), cond_true, lget_lt hi, Option.bind_some, List.drop_eq_getElem_cons hi, doT]
      unfold loud atomOf mostOf
      by_cases h0 : acts[i].Kind = 0
      · have hj : ∀ x : Atom, F63_j2 o (F63_l1 acts m) r (i : Int) x = some (o ++ x :: (doT (acts.drop (i + 1)) r).1, (doT (acts.drop (i + 1)) r).2) := fun x => by
          unfold F63_j2
          rw [appd_ok (by simp only [List.length_cons, List.length_nil]; omega), Option.bind_some, inc i (by omega), F63_l1_eq acts ha m (i + 1) r _ (by omega) (by omega) (by simp only [List.length_append, List.length_cons, List.length_nil]; omega)]
          simp
        rw [decide_eq_true h0]
        simp only [cond_true, Option.bind_some, Bool.true_or]
        cases hp : decide (acts[i].Port = 4294967293)
        · simp only [hp, cond_false]
          rw [hj]
        · simp only [hp, cond_true]
          rw [hj]
      · rw [decide_eq_false h0]
        simp only [cond_false, Option.bind_some, Bool.false_or]
        by_cases h4 : acts[i].Kind = 22
        · rw [decide_eq_true h4]
          simp only [cond_true, Option.bind_some]
          rw [appd_ok (by simp only [List.length_cons, List.length_nil]; omega), Option.bind_some, inc i (by omega), F63_l1_eq acts ha m (i + 1) r _ (by omega) (by omega) (by simp only [List.length_append, List.length_cons, List.length_nil]; omega)]
          simp
        · rw [decide_eq_false h4]
          simp only [cond_false, Option.bind_some]
          rw [F52_eqR, Option.bind_some, F111_eq, Option.bind_some, inc i (by omega), F63_l1_eq acts ha m (i + 1) _ o (by omega) (by omega) (by omega)]
    · rw [decide_eq_false (by omega), cond_false, List.drop_of_length_le (by omega)]; simp [doT]
theorem F63_eqR (acts : List Action) (r : Cube) (ha : acts.length ≤ 1000) : F63 acts r = some (doT acts (cclean r)) := by
  unfold F63
  rw [F37_eq, Option.bind_some]
  have := F63_l1_eq acts ha ((((acts.length : Int) : Int) - 0).toNat + 1) 0 (cclean r) [] (by omega) (by omega) (by simp)
  rw [show ((0 : Nat) : Int) = 0 from rfl] at this
  rw [this]; simp
theorem F36s_l1_eq (a : List Atom) (ha : a.length ≤ 1000000) (R : List Group → Env → Int → Cube → Int → Option (List Atom)) (l : List Group) (e : Env) (dep : Int) (hd : 0 ≤ dep ∧ dep ≤ 20) (G : Int → Cube → List Atom) (B : Nat) (hB : 1 ≤ B) (hG : ∀ id r, (G id r).length ≤ B)
    (hR : ∀ id r, R l e id r (dep + 1) = some (G id r)) :
    ∀ (m i : Nat) (o : List Atom), i ≤ a.length → a.length < i + m → o.length + (a.length - i) * B ≤ lim → F36s_l1 a R l e dep m o (i : Int) = some (o ++ listN G (a.drop i))
  | 0, i, o, h1, h2, _ => by omega
  | m + 1, i, o, h1, h2, hb => by
    have hlim : lim = 4294967296 := rfl
    rw [F36s_l1]
    by_cases hi : i < a.length
    · have hsub : (a.length - i) * B = (a.length - (i + 1)) * B + B := by
        have : a.length - i = (a.length - (i + 1)) + 1 := by omega
        rw [this, Nat.add_mul, Nat.one_mul]
      rw [decide_eq_true (by omega), cond_true, lget_lt hi, Option.bind_some, List.drop_eq_getElem_cons hi, listN]
      generalize a[i] = x
      cases hx : x.Group
      · simp only [cond_false, Option.bind_some]
        rw [F37_eq, Option.bind_some, appd_ok (by simp only [List.length_cons, List.length_nil]; omega), Option.bind_some, inc i (by omega), F36s_l1_eq a ha R l e dep hd G B hB hG hR m (i + 1) _ (by omega) (by omega) (by simp only [List.length_append, List.length_cons, List.length_nil]; omega), List.append_assoc]
        simp [hx]
      · have h5 := hG x.Port x.Rewrite
        simp only [cond_true, Option.bind_some]
        rw [wrap_i64 (by omega) (by omega), hR, Option.bind_some, appd_ok (by omega), Option.bind_some, inc i (by omega), F36s_l1_eq a ha R l e dep hd G B hB hG hR m (i + 1) _ (by omega) (by omega) (by rw [List.length_append]; omega), List.append_assoc]
    · rw [decide_eq_false (by omega), cond_false, List.drop_of_length_le (by omega)]; simp [listN]
theorem F39s_l1_eq (ts : List Int) (hts : ts.length ≤ 3) (R : List Group → Env → List Atom → Int → Option (List Atom)) (l : List Group) (e : Env) (dep : Int) (G : Int → Cube → List Atom) (r : Cube) (g : Group) (hg : lightB g.Buckets) (B : Nat) (hB : 1 ≤ B) (hG : ∀ id r, (G id r).length ≤ B)
    (hR : ∀ a : List Atom, a.length ≤ 1 → R l e a dep = some (listN G a)) (ht : ∀ t ∈ ts, ∃ n : Nat, t = (n : Int) ∧ n < g.Buckets.length) :
    ∀ (m i : Nat) (o : List Atom), i ≤ ts.length → ts.length < i + m → o.length + (ts.length - i) * B ≤ lim →
      F39s_l1 ts (g, true) r R l e dep m o (i : Int) = some (o ++ (ts.drop i).flatMap fun i => listN G (doT (setActs (bucketActs g.Buckets i)) (cclean r)).1)
  | 0, i, o, h1, h2, _ => by omega
  | m + 1, i, o, h1, h2, hb => by
    have hlim : lim = 4294967296 := rfl
    rw [F39s_l1]
    by_cases hi : i < ts.length
    · obtain ⟨n, hn1, hn⟩ := ht ts[i] (List.getElem_mem hi)
      have hacts := hg.2 g.Buckets[n] (List.getElem_mem hn)
      have hba : bucketActs g.Buckets (n : Int) = g.Buckets[n].Acts := by
        unfold bucketActs
        rw [Int.toNat_natCast, List.getElem?_eq_getElem hn]
      have hwl := wr_len g.Buckets[n].Acts []
      simp only [List.length_nil, Nat.zero_add] at hwl
      have hsl : (setActs g.Buckets[n].Acts).length ≤ 12 := by
        unfold setActs lstA
        rw [(srt_perm _ _).length_eq]
        exact Nat.le_trans (List.length_filter_le ..) (by omega)
      have hout := outs_set g.Buckets[n].Acts
      have h1' : (doT (setActs g.Buckets[n].Acts) (cclean r)).1.length ≤ 1 := by rw [doT_len]; exact hout
      have h2' := listN_len G B hB hG (doT (setActs g.Buckets[n].Acts) (cclean r)).1
      have h3' : (doT (setActs g.Buckets[n].Acts) (cclean r)).1.length * B ≤ 1 * B := Nat.mul_le_mul_right _ h1'
      have hsub : (ts.length - i) * B = (ts.length - (i + 1)) * B + B := by
        have : ts.length - i = (ts.length - (i + 1)) + 1 := by omega
        rw [this, Nat.add_mul, Nat.one_mul]
      simp only
      rw [decide_eq_true (by omega), cond_true, lget_lt hi, Option.bind_some, hn1, lget_lt hn, Option.bind_some, F60_eqR _ (by omega), Option.bind_some, F59_eqR _ (by omega), Option.bind_some, show lstA (g.Buckets[n].Acts.foldl wr1 []) = setActs g.Buckets[n].Acts from rfl, F63_eqR _ r (by omega), Option.bind_some, hR _ h1', Option.bind_some, appd_ok (by omega), Option.bind_some, inc i (by omega),
        F39s_l1_eq ts hts R l e dep G r g hg B hB hG hR ht m (i + 1) _ (by omega) (by omega) (by rw [List.length_append]; omega), List.drop_eq_getElem_cons hi, List.flatMap_cons, hn1, hba]
      simp
    · rw [decide_eq_false (by omega), cond_false, List.drop_of_length_le (by omega)]; simp
theorem walkNR_eq (l : List Group) (e : Env) (he : e.Down.length ≤ 20) (hl : lightG l) : ∀ (d : Nat), d ≤ 8 →
    (∀ n id r, 2 * d + 1 ≤ n → (FR36_39 n).2 l e id r ((9 - d : Nat) : Int) = some (goN l e d id r)) ∧
    (∀ n a, 2 * d + 2 ≤ n → a.length ≤ 100 → (FR36_39 n).1 l e a ((8 - d : Nat) : Int) = some (listN (goN l e d) a)) := by
  have hlim : lim = 4294967296 := rfl
  have hp9 : (3 : Nat) ^ 8 = 6561 := by decide
  have hA : ∀ d, d ≤ 8 → (∀ n id r, 2 * d + 1 ≤ n → (FR36_39 n).2 l e id r ((9 - d : Nat) : Int) = some (goN l e d id r)) →
      (∀ n a, 2 * d + 2 ≤ n → a.length ≤ 100 → (FR36_39 n).1 l e a ((8 - d : Nat) : Int) = some (listN (goN l e d) a)) := by
    intro d hd h1 n a hn ha
    obtain ⟨n, rfl⟩ : ∃ k, n = k + 1 := ⟨n - 1, by omega⟩
    show F36s (FR36_39 n).1 (FR36_39 n).2 _ _ _ _ = _
    unfold F36s
    have hp8 : 3 ^ d ≤ 3 ^ 8 := Nat.pow_le_pow_right (by decide) hd
    have hm : a.length * 3 ^ d ≤ 100 * 3 ^ d := Nat.mul_le_mul_right _ ha
    have e9 : (((8 - d : Nat) : Int) + 1) = ((9 - d : Nat) : Int) := by omega
    have := F36s_l1_eq a (by omega) (FR36_39 n).2 l e ((8 - d : Nat) : Int) (by omega) (goN l e d) (3 ^ d) (Nat.pow_pos (by decide)) (goN_len l e hl d) (fun id r => by rw [e9]; exact h1 n id r (by omega)) ((((a.length : Int) : Int) - 0).toNat + 1) 0 [] (by omega) (by omega) (by simp only [List.length_nil, Nat.sub_zero]; omega)
    exact this
  intro d
  induction d with
  | zero =>
    intro hd
    have h1 : ∀ n id r, 2 * 0 + 1 ≤ n → (FR36_39 n).2 l e id r ((9 - 0 : Nat) : Int) = some (goN l e 0 id r) := by
      intro n id r hn
      obtain ⟨n, rfl⟩ : ∃ k, n = k + 1 := ⟨n - 1, by omega⟩
      show F39s (FR36_39 n).1 (FR36_39 n).2 _ _ _ _ _ = _
      unfold F39s
      rw [F57_eqR l id hl.1, Option.bind_some]
      have : ∀ x : Group × Bool, ((!x.2) || decide (((9 - 0 : Nat) : Int) > 8)) = true := fun x => by simp
      rw [this]
      rfl
    exact ⟨h1, hA 0 hd h1⟩
  | succ d ih =>
    intro hd
    obtain ⟨ih1, ih2⟩ := ih (by omega)
    have hp : 3 ^ (d + 1) = 3 * 3 ^ d := by rw [Nat.pow_succ, Nat.mul_comm]
    have hp8 : 3 ^ (d + 1) ≤ 3 ^ 8 := Nat.pow_le_pow_right (by decide) hd
    have h1 : ∀ n id r, 2 * (d + 1) + 1 ≤ n → (FR36_39 n).2 l e id r ((9 - (d + 1) : Nat) : Int) = some (goN l e (d + 1) id r) := by
      intro n id r hn
      obtain ⟨n, rfl⟩ : ∃ k, n = k + 1 := ⟨n - 1, by omega⟩
      show F39s (FR36_39 n).1 (FR36_39 n).2 _ _ _ _ _ = _
      unfold F39s
      rw [F57_eqR l id hl.1, Option.bind_some, goN]
      cases hf : findG l id with
      | none => simp
      | some g =>
        have hg := hl.2 g (findG_mem hf)
        obtain ⟨t1, t2⟩ := takesOf_ok e g hg
        simp only [Bool.not_true, Bool.false_or]
        have hmul : (takesOf e g).length * 3 ^ d ≤ 3 * 3 ^ d := Nat.mul_le_mul_right _ t1
        rw [decide_eq_false (by omega), cond_false, F58_eqR e he g hg, Option.bind_some]
        have := F39s_l1_eq (takesOf e g) t1 (FR36_39 n).1 l e ((9 - (d + 1) : Nat) : Int) (goN l e d) r g hg (3 ^ d) (Nat.pow_pos (by decide)) (goN_len l e hl d)
          (fun a ha => by
            have := ih2 n a (by omega) (by omega)
            rw [show 9 - (d + 1) = 8 - d by omega]
            exact this) t2 (((((takesOf e g).length : Int) : Int) - 0).toNat + 1) 0 [] (by omega) (by omega) (by simp only [List.length_nil, Nat.sub_zero]; omega)
        exact this
    exact ⟨h1, hA (d + 1) hd h1⟩
theorem F18_eqR (l : List Group) (e : Env) (he : e.Down.length ≤ 20) (hl : lightG l) (a : List Atom) (ha : a.length ≤ 100) : F18 l e a = some (listN (goN l e 8) a) := by
  unfold F18 F36
  have := (walkNR_eq l e he hl 8 (by decide)).2 fuel0 a (by unfold fuel0; omega) ha
  rw [show (((8 - 8 : Nat)) : Int) = 0 from rfl] at this
  rw [this]; rfl
theorem F21_eqR (l : List Group) (e : Env) (he : e.Down.length ≤ 20) (hl : lightG l) (id : Int) (r : Cube) : F21 l e id r = some (goN l e 8 id r) := by
  unfold F21 F39
  have := (walkNR_eq l e he hl 8 (by decide)).1 fuel0 id r (by unfold fuel0; omega)
  rw [show (((9 - 8 : Nat)) : Int) = 1 from rfl] at this
  rw [this]; rfl
theorem F16_l1_self (s : List Atom) : ∀ (m i : Nat), i + m = s.length → F16_l1 s s m i = some true
  | 0, i, _ => rfl
  | m + 1, i, h => by
    rw [F16_l1, lget_lt (by omega), Option.bind_some, Option.bind_some]
    simp [F16_l1_self s m (i + 1) (by omega)]
theorem F16_self (s : List Atom) : F16 s s = some true := by
  unfold F16
  rw [decide_eq_false (by simp), cond_false, F16_l1_self s _ 0 (by omega)]
theorem F19_l1_self (a : List Atom) (ha : a.length ≤ 1000000) : ∀ (m i : Nat), i ≤ a.length → a.length < i + m → F19_l1 a a m (i : Int) = some true
  | 0, i, h1, h2 => by omega
  | m + 1, i, h1, h2 => by
    rw [F19_l1]
    by_cases hi : i < a.length
    · rw [decide_eq_true (by omega), cond_true, lget_lt hi]
      simp only [Option.bind_some]
      rw [inc i (by omega), F19_l1_self a ha m (i + 1) (by omega) (by omega)]
      simp [opt, F37_eq]
    · rw [decide_eq_false (by omega), cond_false]
theorem F19_self (a : List Atom) (ha : a.length ≤ 1000000) : F19 a a = some true := by
  unfold F19
  have := F19_l1_self a ha ((((a.length : Int) : Int) - 0).toNat + 1) 0 (by omega) (by omega)
  rw [decide_eq_false (by simp), cond_false]
  exact this
theorem norm_tells (l : List Group) (e : Env) (a : List Atom) (id : Int) (r : Cube) : F4 l e a id r = some true := by
  have hlim : lim = 4294967296 := rfl
  have hp9 : (3 : Nat) ^ 8 = 6561 := by decide
  have h33 : ∀ l, F23 l = some (decide ((l.length : Int) ≤ 12)) := fun _ => rfl
  have h54 : F14 l e a = some ((fewG l 9 3 && decide ((a.length : Int) ≤ 12)) && decide ((e.Down.length : Int) ≤ 20)) := by
    unfold F14
    rw [F22_eq, Option.bind_some, h33]
    cases fewG l 9 3 <;> rfl
  unfold F4
  rw [h54, Option.bind_some, F15_eq]
  cases hc : (fewG l 9 3 && decide ((a.length : Int) ≤ 12)) && decide ((e.Down.length : Int) ≤ 20)
  · rfl
  · simp only [Bool.and_eq_true, decide_eq_true_eq] at hc
    have hl := fewG_light hc.1.1
    have he : e.Down.length ≤ 20 := by omega
    have ha : a.length ≤ 100 := by omega
    have k1 := goN_len l e hl 8 id r
    rw [Bool.not_true, cond_false, F17_eq l e a hl (by omega), Option.bind_some, F18_eqR l e he hl a ha, Option.bind_some, F16_self, Option.bind_some, F20_eq l e id r hl, F21_eqR l e he hl]
    simp only [opt, cond_true, Option.bind_some]
    rw [F19_self _ (by omega)]
    rfl
end Go.Proofs.YtokmmcflinnfiaaGreat.W
