/- A part of the proof. -/
import Derived.Test.YtknpgojdkobgjaaGreatP0
set_option linter.unusedVariables false
set_option linter.unusedSimpArgs false
namespace Go.Proofs.YtknpgojdkobgjaaGreat.W
open Go Go.Wb
theorem Zsm (l : List Oxm) (hl : l.length ≤ 100000) : ∀ (m i : Nat) (c : Cube), i ≤ l.length → l.length < i + m → Z7e l m c (i : Int) = some ((l.drop i).foldl Zbm c)
 | 0, i, c, h1, h2 => by omega
 | m + 1, i, c, h1, h2 => by
  rw [Z7e]
  by_cases hi : i < l.length
  ·have ih := fun c => Zsm l hl m (i + 1) c (by omega) (by omega)
   rw [decide_eq_true (by omega), cond_true, Z21 hi, Option.bind_some, inc i (by omega), List.drop_eq_getElem_cons hi, List.foldl_cons]
   unfold Za0
   rw [Option.bind_some]
   by_cases h : 0 ≤ l[i].Field ∧ l[i].Field < 24
   ·obtain ⟨n, hn⟩ : ∃ n : Nat, l[i].Field = (n : Int) := ⟨l[i].Field.toNat, by omega⟩
    have hn24 : n < 24 := by have := h.2; omega
    have hd : (decide (l[i].Field ≥ 0) && decide (l[i].Field < 24)) = true := by simp; omega
    have hc : chk 24 l[i].Field = some ⟨n, hn24⟩ := by rw [hn]; exact Z29 hn24
    rw [hd, cond_true, Option.bind_some, Option.bind_some, Zwf, Option.bind_some, hc, Option.bind_some, Ztk c l[i] n hn hn24]
    exact ih _
   ·have hd : (decide (l[i].Field ≥ 0) && decide (l[i].Field < 24)) = false := by
     rw [Bool.and_eq_false_iff, decide_eq_false_iff_not, decide_eq_false_iff_not]; omega
    rw [hd, cond_false, Y0y c l[i] h]
    exact ih _
  ·rw [decide_eq_false (by omega), cond_false, List.drop_of_length_le (by omega)]; rfl
theorem Ydr (f : Flow) (hl : f.Match.length ≤ 100000) : Zje f = some (Zgd f) := by
 unfold Zje Zll
 have := Zsm f.Match hl ((((f.Match.length : Int) : Int) - 0).toNat + 1) 0 Z2f (by omega) (by omega)
 rw [show ((0 : Nat) : Int) = 0 from rfl, List.drop_zero] at this
 show ((Z7e f.Match ((((f.Match.length : Int) : Int) - 0).toNat + 1) Z2f 0).bind _) = _
 rw [this, Option.bind_some, Y3y]; rfl
def inT (t : List Flow) (l : List Int) : Prop := ∀ j ∈ l, ∃ k : Nat, k < t.length ∧ j = (k : Int)
theorem Zrg (i : Nat) (hi : i ≤ 50) (go : List Int → Int → Option (List Int)) (A : List Int) (hA : A.length ≤ 50) : ∀ (Br S : List Int) (c : Int) (m : Nat), Br.length < m → Br.length ≤ 50 →
  Z7x (A.length : Int) go (i : Int) m (A ++ (Br.reverse ++ c :: S)) ((A.length + Br.length : Nat) : Int) = go (A ++ (i : Int) :: (Br.reverse ++ S)) ((i + 1 : Nat) : Int)
 | [], S, c, m, hm, _ => by
  obtain ⟨m, rfl⟩ : ∃ k, m = k + 1 := ⟨m - 1, by simp at hm; omega⟩
  have g0 : lget (A ++ c :: S) (A.length : Int) = some c := by
   rw [Z6e, List.getElem?_append_right (Nat.le_refl _)]; simp
  have s0 : List.set (A ++ c :: S) ((A.length : Int)).toNat (i : Int) = A ++ (i : Int) :: S := by
   rw [Int.toNat_natCast, List.set_append_right _ _ (Nat.le_refl _)]; simp
  rw [Z7x, decide_eq_false (by simp), cond_false]
  simp only [List.reverse_nil, List.nil_append]
  rw [g0, Option.bind_some, s0, inc i (by omega)]
 | b :: Br, S, c, m, hm, hb => by
  simp only [List.length_cons] at hm hb
  obtain ⟨m, rfl⟩ : ∃ k, m = k + 1 := ⟨m - 1, by omega⟩
  have e0 : A ++ ((b :: Br).reverse ++ c :: S) = (A ++ Br.reverse) ++ b :: c :: S := by simp
  have ej : IntKind.i64.wrap (((A.length + (b :: Br).length : Nat) : Int) - 1) = ((A.length + Br.length : Nat) : Int) := by rw [Z30 (by simp only [List.length_cons]; omega) (by simp only [List.length_cons]; omega)]; simp only [List.length_cons]; omega
  have hlen : (A ++ Br.reverse).length = A.length + Br.length := by simp
  have g0 : lget ((A ++ Br.reverse) ++ b :: c :: S) ((A.length + Br.length : Nat) : Int) = some b := by
   rw [Z6e, List.getElem?_append_right (by omega), hlen, Nat.sub_self]; rfl
  have g1 : lget ((A ++ Br.reverse) ++ b :: c :: S) ((A.length + (b :: Br).length : Nat) : Int) = some c := by
   rw [Z6e, List.getElem?_append_right (by simp only [List.length_cons]; omega), hlen]
   have : A.length + (b :: Br).length - (A.length + Br.length) = 1 := by simp only [List.length_cons]; omega
   rw [this]; rfl
  have s1 : List.set ((A ++ Br.reverse) ++ b :: c :: S) (((A.length + (b :: Br).length : Nat) : Int)).toNat b = A ++ (Br.reverse ++ b :: b :: S) := by
   rw [Int.toNat_natCast, List.set_append_right _ _ (by simp only [List.length_cons]; omega), hlen]
   have : A.length + (b :: Br).length - (A.length + Br.length) = 1 := by simp only [List.length_cons]; omega
   rw [this]; simp
  rw [e0, Z7x, decide_eq_true (by simp only [List.length_cons]; omega), cond_true, ej, g0, Option.bind_some, g1, Option.bind_some, s1, Zrg i hi go A hA Br (b :: S) b m (by omega) (by omega)]
  simp
theorem Y0p (t : List Flow) (ht : t.length ≤ 50) (i : Nat) (hi : i < t.length) (go : List Int → Int → Option (List Int)) : ∀ (Ar B : List Int) (m : Nat), Ar.length < m → Ar.length + B.length ≤ 50 → inT t Ar →
  Z9w (Ar.reverse ++ B) t (i : Int) go m (Ar.length : Int) = go ((Z0o (ltP t) (i : Int) Ar).reverse ++ B) ((i + 1 : Nat) : Int)
 | [], B, m, hm, hb, _ => by
  have hlim : lim = 4294967296 := rfl
  obtain ⟨m, rfl⟩ : ∃ k, m = k + 1 := ⟨m - 1, by simp at hm; omega⟩
  simp only [List.length_nil, Nat.zero_add] at hb
  rw [Z9w, show decide ((([] : List Int).length : Int) > 0) = false from rfl]
  simp only [Znl, Option.bind_some, Bool.false_and, cond_false, List.reverse_nil, List.nil_append]
  rw [Z1m (by simp; omega), Option.bind_some]
  have e1 : IntKind.i64.wrap (((B ++ [(0 : Int)]).length : Int) - 1) = ((([] : List Int).length + B.reverse.length : Nat) : Int) := by rw [Z30 (by simp <;> omega) (by simp <;> omega)]; simp
  have := Zrg i (by omega) go [] (by simp) B.reverse [] (0 : Int) ((((([] : List Int).length + B.reverse.length : Nat) : Int) - (([] : List Int).length : Int)).toNat + 1) (by simp <;> omega) (by simp <;> omega)
  simp only [List.nil_append, List.reverse_reverse, List.append_nil] at this
  rw [e1]
  refine Eq.trans this ?_
  simp [Z0o]
 | y :: Ar, B, m, hm, hb, hR => by
  have hlim : lim = 4294967296 := rfl
  obtain ⟨k, hk, rfl⟩ := hR y (by simp)
  simp only [List.length_cons] at hm hb
  obtain ⟨m, rfl⟩ : ∃ k, m = k + 1 := ⟨m - 1, by omega⟩
  have ej : IntKind.i64.wrap ((((k : Int) :: Ar).length : Int) - 1) = (Ar.length : Int) := by rw [Z30 (by simp only [List.length_cons]; omega) (by simp only [List.length_cons]; omega)]; simp only [List.length_cons]; omega
  have e0 : ((k : Int) :: Ar).reverse ++ B = Ar.reverse ++ (k : Int) :: B := by simp
  have g0 : lget (Ar.reverse ++ (k : Int) :: B) (Ar.length : Int) = some (k : Int) := by
   rw [Z6e, List.getElem?_append_right (by simp)]; simp
  have elt : decide (t[k].Priority < t[i].Priority) = ltP t (i : Int) (k : Int) := by
   unfold ltP
   rw [Zl0 hi, Zl0 hk]
  rw [Z9w, decide_eq_true (by simp only [List.length_cons]; omega), Z4p, ej, e0, g0, Option.bind_some, Z4p, Z21 hk, Option.bind_some, Z4p, Z21 hi, Option.bind_some, Bool.true_and, Z0o, elt]
  cases ltP t (i : Int) (k : Int)
  ·rw [cond_false, cond_false, Z1m (by simp; omega), Option.bind_some]
   have e1 : IntKind.i64.wrap (((Ar.reverse ++ (k : Int) :: B ++ [(0 : Int)]).length : Int) - 1) = ((((k : Int) :: Ar).reverse.length + B.reverse.length : Nat) : Int) := by rw [Z30 (by simp; omega) (by simp; omega)]; simp; omega
   have := Zrg i (by omega) go ((k : Int) :: Ar).reverse (by simp; omega) B.reverse [] (0 : Int) ((((((k : Int) :: Ar).reverse.length + B.reverse.length : Nat) : Int) - (((k : Int) :: Ar).length : Int)).toNat + 1) (by simp; omega) (by simp; omega)
   simp only [List.reverse_reverse, List.append_nil] at this
   rw [e1]
   have e2 : Ar.reverse ++ (k : Int) :: B ++ [(0 : Int)] = ((k : Int) :: Ar).reverse ++ (B ++ [(0 : Int)]) := by simp
   have e3 : ((((k : Int) :: Ar).length : Int)) = ((((k : Int) :: Ar).reverse.length : Nat) : Int) := by simp
   rw [e2]
   rw [e3] at this ⊢
   refine Eq.trans this ?_
   simp
  ·rw [cond_true, cond_true, Y0p t ht i hi go Ar ((k : Int) :: B) m (by omega) (by simp only [List.length_cons]; omega) fun j hj => hR j (by simp [hj])]
   simp
theorem Y2m (n i : Nat) (h : i < n) : (places n).drop i = (i : Int) :: (places n).drop (i + 1) := by
 have hl : i < (places n).length := by simp [places]; exact h
 rw [List.drop_eq_getElem_cons hl]
 congr 1
 simp [places]
theorem Zsc (t : List Flow) (hl : t.length ≤ 50) : ∀ (m i : Nat) (R : List Int), i ≤ t.length → t.length < i + m → R.length ≤ i → inT t R → Z8i t m R.reverse (i : Int) = some ((((places t.length).drop i).foldl (fun R x => Z0o (ltP t) x R) R).reverse)
 | 0, i, R, h1, h2, h3, _ => by omega
 | m + 1, i, R, h1, h2, h3, hR => by
  rw [Z8i]
  by_cases hi : i < t.length
  ·have h4 := Y0p t hl i hi (Z8i t m) R [] Z0y (by unfold Z0y; omega) (by simp; omega) hR
   rw [List.append_nil, List.append_nil] at h4
   have e : ((R.reverse).length : Int) = (R.length : Int) := by simp
   rw [decide_eq_true (by omega), cond_true, e, h4, Zsc t hl m (i + 1) _ (by omega) (by omega) (by rw [Zyd]; omega) (fun j hj => by
    rcases List.mem_cons.1 ((Zju (ltP t) (i : Int) R).mem_iff.1 hj) with rfl | hj
    ·exact ⟨i, hi, rfl⟩
    ·exact hR j hj), Y2m _ _ hi, List.foldl_cons]
  ·rw [decide_eq_false (by omega), cond_false, List.drop_of_length_le (by simp [places]; omega)]; rfl
theorem Yd7 (t : List Flow) (hl : t.length ≤ 50) : Zit t = some (Z5x t) := by
 unfold Zit Z5x srt
 have := Zsc t hl ((((t.length : Int) : Int) - 0).toNat + 1) 0 [] (by omega) (by omega) (by simp) (by intro j hj; simp at hj)
 rw [show ((0 : Nat) : Int) = 0 from rfl, List.drop_zero] at this
 exact this
def Ybh (t : List Flow) : Prop := ∀ f ∈ t, f.Match.length ≤ 100000
theorem Y0f (l : List Inst) (k : Int) (hl : l.length ≤ 100000) : ∀ (m i : Nat), i ≤ l.length → l.length < i + m → Zbe l k m (i : Int) = some (Z1z Zoz (ofI (l.drop i) k))
 | 0, i, h1, h2 => by omega
 | m + 1, i, h1, h2 => by
  rw [Zbe]
  by_cases hi : i < l.length
  ·rw [decide_eq_true (by omega), cond_true, Z21 hi, Option.bind_some, List.drop_eq_getElem_cons hi, inc i (by omega), Y0f l k hl m (i + 1) (by omega) (by omega)]
   unfold ofI
   rw [List.find?_cons]
   cases decide (l[i].Kind = k) <;> rfl
  ·rw [decide_eq_false (by omega), cond_false, List.drop_of_length_le (by omega)]; rfl
theorem Zjk (l : List Inst) (k : Int) (hl : l.length ≤ 100000) : Z8o l k = some (Z1z Zoz (ofI l k)) := by
 unfold Z8o
 have := Y0f l k hl ((((l.length : Int) : Int) - 0).toNat + 1) 0 (by omega) (by omega)
 rw [show ((0 : Nat) : Int) = 0 from rfl, List.drop_zero] at this
 exact this
end Go.Proofs.YtknpgojdkobgjaaGreat.W
namespace Go.Proofs.YtknpgojdkobgjaaGreat.W
open Go Go.Wb
theorem Y02 (a b : Tern) : Zfy a b = some (Z1z zTern (Z2r a b)) := by
 unfold Zfy Z2r
 rw [Zo8, Option.bind_some, Y2p, Option.bind_some, Zo8, Option.bind_some, Zx1, Option.bind_some]
 cases Z3c (Z2c (Z6p a.Value b.Value) (Z2c a.Mask b.Mask)) <;> rfl
theorem Zuf (a x : Cube) : ∀ (m i : Nat), i ≤ 24 → 24 < i + m → (∀ j, j < i → (Z2r (ve a j) (ve x j)).isSome = true) →
  Z95 a x m (Z2w (fun j => (Z2r (ve a j) (ve x j)).getD zTern) Z2f i) (i : Int) = some (Z1z Z2f (Z3y a x))
 | 0, i, h1, h2, _ => by omega
 | m + 1, i, h1, h2, h3 => by
  rw [Z95]
  by_cases hi : i < 24
  ·rw [decide_eq_true (by omega), cond_true, Z29 hi, Option.bind_some, Option.bind_some, Z2u, Z2u, Y02, Option.bind_some]
   cases ht : Z2r (ve a i) (ve x i) with
   | none =>
    rw [show (!(Z1z zTern (none : Option Tern)).2) = true from rfl, cond_true]
    unfold Z3y
    rw [Zx6 i hi ht]; rfl
   | some t =>
    rw [show (!(Z1z zTern (some t)).2) = false from rfl, cond_false, Option.bind_some, inc i (by omega)]
    have h4 := Z7u (fun j => (Z2r (ve a j) (ve x j)).getD zTern) Z2f i hi
    simp only [ht, Option.getD_some] at h4
    show Z95 a x m (Vector.set (Z2w _ Z2f i) i t hi) _ = _
    rw [h4]
    exact Zuf a x m (i + 1) (by omega) (by omega) fun j hj => by
     by_cases e : j = i
     ·subst e; rw [ht]; rfl
     ·exact h3 j (by omega)
  ·have : i = 24 := by omega
   subst this
   rw [decide_eq_false (by omega), cond_false, Z96]
   have : Z3y a x = some (Vector.ofFn fun i => (Z2r (ve a i.1) (ve x i.1)).getD zTern) := by
    unfold Z3y Z5c
    rw [List.all_eq_true.2 fun j hj => h3 j (by simpa using hj), cond_true]
   rw [this]; rfl
theorem Zy3 (a x : Cube) : Zfl a x = some (Z1z Z2f (Z3y a x)) := by
 unfold Zfl
 have := Zuf a x (((24 : Int) - 0).toNat + 1) 0 (by omega) (by decide) (by omega)
 rw [Z97] at this
 exact this
theorem Ztw (r c : Cube) : ∀ (m i : Nat), i ≤ 24 → 24 < i + m → (∀ j, j < i → (Z2r (ve r j) (ve c j)).isSome = true) →
  Z8a r c m (Z2w (fun j => Z0z ⟨(ve c j).Value, Z3r (ve c j).Mask (ve r j).Mask⟩) Z2f i) (i : Int) = some (Z1z Z2f (Z5h r c))
 | 0, i, h1, h2, _ => by omega
 | m + 1, i, h1, h2, h3 => by
  rw [Z8a]
  by_cases hi : i < 24
  ·rw [decide_eq_true (by omega), cond_true, Z29 hi, Option.bind_some, Option.bind_some, Z2u, Z2u, Y02, Option.bind_some]
   cases ht : Z2r (ve r i) (ve c i) with
   | none =>
    rw [show (!(Z1z zTern (none : Option Tern)).2) = true from rfl, cond_true]
    unfold Z5h
    rw [show ((List.range 24).all fun i => (Z2r (ve r i) (ve c i)).isSome) = false from List.all_eq_false.2 ⟨i, by simpa using hi, by rw [ht]; simp⟩]; rfl
   | some t =>
    rw [show (!(Z1z zTern (some t)).2) = false from rfl, cond_false, Option.bind_some, Option.bind_some, Option.bind_some, Zto, Option.bind_some, Z2u, Z2u, Zzi, Option.bind_some, Option.bind_some, inc i (by omega)]
    have h4 := Z7u (fun j => Z0z ⟨(ve c j).Value, Z3r (ve c j).Mask (ve r j).Mask⟩) Z2f i hi
    show Z8a r c m (Vector.set (Z2w _ Z2f i) i (Z0z ⟨(ve c i).Value, Z3r (ve c i).Mask (ve r i).Mask⟩) hi) _ = _
    rw [h4]
    exact Ztw r c m (i + 1) (by omega) (by omega) fun j hj => by
     by_cases e : j = i
     ·subst e; rw [ht]; rfl
     ·exact h3 j (by omega)
  ·have : i = 24 := by omega
   subst this
   rw [decide_eq_false (by omega), cond_false, Z96]
   unfold Z5h
   rw [show ((List.range 24).all fun i => (Z2r (ve r i) (ve c i)).isSome) = true from List.all_eq_true.2 fun j hj => h3 j (by simpa using hj)]; rfl
theorem Ycz (r c : Cube) : Zii r c = some (Z1z Z2f (Z5h r c)) := by
 unfold Zii
 have := Ztw r c (((24 : Int) - 0).toNat + 1) 0 (by omega) (by decide) (by omega)
 rw [Z97] at this
 exact this
abbrev Y9f := Switch → Int → Cube → Cube → List Atom → List Action → Option (List Rule)
abbrev Zym := Switch → Int → Flow → Cube → Cube → List Atom → List Action → Option (List Rule)
def Zkf (R : Nat → walk_way → List Rule) (at_ : Nat) (f : Flow) (x : walk_way) : List Rule := match Z2j at_ f.Insts with
 | some n => R n (wdo x f.Insts)
 | none => [Z3n (Z45 (wdo x f.Insts))]
theorem Y5j (s : Switch) (at_ : Nat) (f : Flow) (x : walk_way) (Rw : Y9f) (Ro : Zym) (R : Nat → walk_way → List Rule) (hf : Z71 f.Insts) (hi : f.Insts.length ≤ 100000) (ha : at_ < 4) (hx : Z47 at_ x)
  (hR : ∀ n w, at_ < n → n < 4 → Z47 n w → Rw s (n : Int) w.cube w.got w.atoms w.set = some (R n w)) :
  Ze2 Rw Ro s (at_ : Int) f x.cube x.got x.atoms x.set = some (Zkf R at_ f x) := by
 have hlim : lim = 4294967296 := rfl
 have hxa := hx.1
 have hxs := hx.2
 have b1 := Zqj x hf
 have b2 := Zhk (Z42 x f.Insts) f.Insts
 have b3 := Zk1 (Z3p (Z42 x f.Insts) f.Insts) hf
 have b4 := Zl1 x hf
 have j4 : ∀ b : walk_way, b.atoms.length ≤ 2000 → b.set.length ≤ 50 → (∀ n, Z2j at_ f.Insts = some n → Z47 n b) → Zde f (at_ : Int) Rw s b.cube b.atoms b.set b.got = some (match Z2j at_ f.Insts with | some n => R n b | none => [Z3n (Z45 b)]) := fun b h1 h2 h3 => by
  unfold Zde
  rw [Zjk _ 1 hi, Option.bind_some]
  have hend : ((Zg5 b.set).bind fun x24 => (Zd0 x24 b.got).bind fun x25 => (Z0u b.atoms x25.1).bind fun l27 => some [(⟨b.cube, l27⟩ : Rule)]) = some [Z3n (Z45 b)] := by
   have h5 := Zoy b.set
   have h6 := Zhl (Z98 b.set)
   rw [Ybj _ h2, Option.bind_some, Y04 _ _ (by omega), Option.bind_some, Z1m (by rw [Zg4]; omega)]; rfl
  cases ho : ofI f.Insts 1 with
  | none => rw [Zuh ho]; exact hend
  | some i =>
   show (bif ((true && decide (i.Table > (at_ : Int))) && decide (i.Table < 4)) then _ else _) = _
   rw [Bool.true_and]
   by_cases hc : i.Table > (at_ : Int) ∧ i.Table < 4
   ·have hd : (decide (i.Table > (at_ : Int)) && decide (i.Table < 4)) = true := by
     rw [Bool.and_eq_true, decide_eq_true_eq, decide_eq_true_eq]; exact hc
    have hn := Zt8 ho hc
    have e : ((i.Table.toNat : Nat) : Int) = i.Table := by omega
    have h5 := hR i.Table.toNat b (by omega) (by omega) (h3 _ hn)
    rw [e] at h5
    rw [hn, hd, cond_true]
    show (Rw s i.Table b.cube b.got b.atoms b.set).bind _ = _
    rw [h5]; rfl
   ·have hd : (decide (i.Table > (at_ : Int)) && decide (i.Table < 4)) = false := by
     rw [Bool.and_eq_false_iff, decide_eq_false_iff_not, decide_eq_false_iff_not]; omega
    rw [Zxg ho hc, hd, cond_false]
    exact hend
 have j3 : ∀ b : walk_way, b.atoms.length ≤ 2000 → b.set.length ≤ 50 → (∀ n, Z2j at_ f.Insts = some n → Z47 n b) → Zfs f b.got (at_ : Int) Rw s b.cube b.atoms b.set = some (match Z2j at_ f.Insts with | some n => R n (Z3d b f.Insts) | none => [Z3n (Z45 (Z3d b f.Insts))]) := fun b h1 h2 h3 => by
  have b5 := Zqp b f.Insts
  unfold Zfs
  rw [Zjk _ 2 hi, Option.bind_some, ← j4 (Z3d b f.Insts) (by rw [b5.1]; omega) (by rw [b5.2.1]; omega) (fun n hn => by unfold Z47; rw [b5.1, b5.2.1]; exact h3 n hn)]
  unfold Z3d
  cases ho : ofI f.Insts 2 with
  | none => rfl
  | some i =>
   simp only [Z1z, cond_true]
   rw [Zkb]; rfl
 have j2 : ∀ b : walk_way, b.atoms.length ≤ 1500 → b.set.length ≤ 36 → (∀ n, Z2j at_ f.Insts = some n → Z47 n (Z3b b f.Insts)) → Zfu f b.got (at_ : Int) Rw s b.cube b.atoms b.set = some (match Z2j at_ f.Insts with | some n => R n (Z3d (Z3b b f.Insts) f.Insts) | none => [Z3n (Z45 (Z3d (Z3b b f.Insts) f.Insts))]) := fun b h1 h2 h3 => by
  have b5 := Zk1 b hf
  unfold Zfu
  rw [Zjk _ 3 hi, Option.bind_some, ← j3 (Z3b b f.Insts) (by rw [b5.1]; omega) (by have := b5.2.1; omega) h3]
  unfold Z3b
  cases ho : ofI f.Insts 3 with
  | none => rfl
  | some i =>
   have := hf i (Zeq ho)
   simp only [Z1z, cond_true]
   rw [Ygj _ _ (by omega) (by omega)]; rfl
 have j1 : ∀ b : walk_way, b.atoms.length ≤ 1500 → b.set.length ≤ 36 → (∀ n, Z2j at_ f.Insts = some n → Z47 n (Z3b (Z3p b f.Insts) f.Insts)) → Zfj f (at_ : Int) Rw s b.cube b.set b.atoms b.got = some (match Z2j at_ f.Insts with | some n => R n (Z3d (Z3b (Z3p b f.Insts) f.Insts) f.Insts) | none => [Z3n (Z45 (Z3d (Z3b (Z3p b f.Insts) f.Insts) f.Insts))]) := fun b h1 h2 h3 => by
  have b5 := Zhk b f.Insts
  unfold Zfj
  rw [Zjk _ 5 hi, Option.bind_some, ← j2 (Z3p b f.Insts) (by rw [b5.1]; omega) (by have := b5.2.1; omega) h3]
  unfold Z3p
  cases ho : ofI f.Insts 5 with
  | none => rfl
  | some i => rfl
 have hn : ∀ n, Z2j at_ f.Insts = some n → Z47 n (Z3b (Z3p (Z42 x f.Insts) f.Insts) f.Insts) := fun n hn => by
  have h1 := Zkw hn
  have h2 := b3.2.1
  have h3 := b2.2.1
  have h4 := b1.1
  exact ⟨by rw [b3.1, b2.1]; omega, by rw [b1.2.1] at h3; omega⟩
 have h1 := j1 (Z42 x f.Insts) (by omega) (by rw [b1.2.1]; omega) hn
 unfold Ze2 Zkf wdo
 rw [Z1m (by simp; omega), Option.bind_some, List.nil_append, Zjk _ 4 hi, Option.bind_some, ← h1]
 unfold Z42
 cases ho : ofI f.Insts 4 with
 | none => rfl
 | some i =>
  have h2 := hf i (Zeq ho)
  have h3 := Zhl i.Acts
  simp only [Z1z, cond_true]
  rw [Y04 _ _ (by omega), Option.bind_some, Z1m (by rw [Zg4]; omega)]; rfl
theorem Zzm (s : Switch) (at_ : Nat) (ha : at_ < 4) (hm : Ybh (Z12 s at_)) (w : walk_way) (hw : w.atoms.length ≤ 1000) (R : Nat → walk_way → List Rule) (Ro : Zym) (o : List Int) (ho : inT (Z12 s at_) o) (hol : o.length ≤ 100)
  (hone : ∀ f ∈ Z12 s at_, ∀ x, Z6g w f = some x → Ro s (at_ : Int) f x.cube w.got w.atoms w.set = some (Zkf R at_ f x)) :
  ∀ (m i : Nat) (acc : List Rule), i ≤ o.length → o.length < i + m → acc.length + ((o.drop i).flatMap (Z5l R (Z12 s at_) at_ w)).length + 1 ≤ lim →
  Z6u o (at_ : Int) s w.got w.cube Ro w.atoms w.set m acc (i : Int) = some (acc ++ (o.drop i).flatMap (Z5l R (Z12 s at_) at_ w) ++ [Z3n w])
 | 0, i, acc, h1, h2, _ => by omega
 | m + 1, i, acc, h1, h2, h3 => by
  have hlim : lim = 4294967296 := rfl
  rw [Z6u]
  by_cases hi : i < o.length
  ·obtain ⟨k, hk, hok⟩ := ho _ (List.getElem_mem hi)
   have hrule : Z5l R (Z12 s at_) at_ w (k : Int) = match Z6g w (Z12 s at_)[k] with
     | none => []
     | some x => Zkf R at_ (Z12 s at_)[k] x := by
    unfold Z5l
    rw [Int.toNat_natCast, List.getElem?_eq_getElem hk] <;> rfl
   rw [List.drop_eq_getElem_cons hi, List.flatMap_cons, hok, hrule] at h3 ⊢
   have ih := fun acc => Zzm s at_ ha hm w hw R Ro o ho hol hone m (i + 1) acc (by omega) (by omega)
   rw [decide_eq_true (by omega), cond_true, Z29 ha, Option.bind_some, Z21 hi, Option.bind_some, hok, Zhs, Z21 hk, Option.bind_some, Ydr _ (hm _ (List.getElem_mem hk)), Option.bind_some, Ycz, Option.bind_some, inc i (by omega)]
   have hmw : Z6g w (Z12 s at_)[k] = (Z5h w.got (Zgd (Z12 s at_)[k])).bind fun b => (Z3y b w.cube).map fun c => { w with cube := c } := rfl
   have hone := hone _ (List.getElem_mem hk)
   revert h3 hone
   rw [hmw]
   cases hb : Z5h w.got (Zgd (Z12 s at_)[k]) with
   | none =>
    intro h3 hone
    simp only [Z1z, Bool.not_false, cond_true, Option.bind_none, List.nil_append] at h3 ⊢
    exact ih acc h3
   | some b =>
    simp only [Z1z, Bool.not_true, cond_false, Option.bind_some]
    rw [Zy3, Option.bind_some]
    cases hc : Z3y b w.cube with
    | none =>
     intro h3 hone
     simp only [Z1z, cond_false, Option.map_none, List.nil_append] at h3 ⊢
     exact ih acc h3
    | some c =>
     intro h3 hone
     simp only [Z1z, cond_true, Option.map_some] at h3 ⊢
     have h4 := hone _ rfl
     simp only at h4
     rw [List.length_append] at h3
     rw [h4, Option.bind_some, Z1m (by omega), Option.bind_some, ih _ (by rw [List.length_append]; omega)]
     simp only [List.append_assoc]
  ·rw [decide_eq_false (by omega), cond_false, List.drop_of_length_le (by omega), Z1m (by simp; omega), Option.bind_some, Z1m (by simp; omega)]
   simp [Z3n]
theorem Zyl (s : Switch) (hs : Z8e s) (hI : ∀ i, i < 4 → ∀ f ∈ Z12 s i, f.Insts.length ≤ 100000 ∧ f.Match.length ≤ 100000) (hmost : Z4w s 4 0 ≤ lim) : ∀ (d n at_ : Nat) (w : walk_way), 4 ≤ at_ + d → at_ < 4 → 2 * d ≤ n → Z47 at_ w →
  (Z3s n).1 s (at_ : Int) w.cube w.got w.atoms w.set = some (Z3z s d at_ w)
 | 0, n, at_, w, h0, h1, _, _ => by omega
 | d + 1, n, at_, w, h0, h1, h2, hw => by
  obtain ⟨n, rfl⟩ : ∃ k, n = k + 2 := ⟨n - 2, by omega⟩
  have hl := hs at_ h1
  have hlen := Zns s (d + 1) at_ w h0 h1
  have hsk := Zpm s 4 0 at_ (by omega) (by omega) (by omega)
  show Zjl (Z3s (n + 1)).1 (Z3s (n + 1)).2 s (at_ : Int) w.cube w.got w.atoms w.set = _
  unfold Zjl
  rw [Z29 h1, Option.bind_some, Zhs, Yd7 _ (by have := hl.1; omega), Option.bind_some]
  have hol := Zyr (Z12 s at_)
  have := Zzm s at_ h1 (fun f hf => (hI at_ h1 f hf).2) w (by have := hw.1; omega) (Z3z s d) (Z3s (n + 1)).2 (Z5x (Z12 s at_)) (fun j hj => Zyw.1 hj) (by have := hl.1; omega) (fun f hf x hx => by
   have hb := Zol hx
   have hg : x.got = w.got := by
    unfold Z6g at hx
    obtain ⟨b, _, h4⟩ := Option.bind_eq_some_iff.1 hx
    obtain ⟨c, _, h5⟩ := Option.map_eq_some_iff.1 h4
    subst h5; rfl
   show Ze2 (Z3s n).1 (Z3s n).2 s (at_ : Int) f x.cube w.got w.atoms w.set = _
   rw [← hg, ← hb.1, ← hb.2]
   exact Y5j s at_ f x _ _ (Z3z s d) (hl.2 f hf) (hI at_ h1 f hf).1 h1 (by unfold Z47; rw [hb.1, hb.2]; exact hw) fun k y h5 h6 h7 => Zyl s hs hI hmost d n k y (by omega) h6 (by omega) h7) ((((Z5x (Z12 s at_)).length : Int) - 0).toNat + 1) 0 [] (by omega) (by omega) (by
   rw [Z3z, List.length_append, List.length_singleton] at hlen
   rw [List.drop_zero, List.length_nil]; omega)
  rw [List.drop_zero, List.nil_append] at this
  exact this
theorem Ya2 (s : Switch) (hs : Z8e s) (hI : ∀ i, i < 4 → ∀ f ∈ Z12 s i, f.Insts.length ≤ 100000 ∧ f.Match.length ≤ 100000) (hmost : Z4w s 4 0 ≤ lim) : Zel s = some (Z3x s) := by
 unfold Zel Zn0 Z89 Zr4
 rw [Option.bind_some, Option.bind_some]
 show ((Z3s Z0y).1 s ((0 : Nat) : Int) way0.cube way0.got way0.atoms way0.set).bind _ = _
 rw [Zyl s hs hI hmost 4 Z0y 0 way0 (by omega) (by omega) (by unfold Z0y; omega) ⟨by simp [way0], by simp [way0]⟩]; rfl
end Go.Proofs.YtknpgojdkobgjaaGreat.W
namespace Go.Proofs.YtknpgojdkobgjaaGreat.W
open Go Go.Wb
end Go.Proofs.YtknpgojdkobgjaaGreat.W
namespace Go.Proofs.YtknpgojdkobgjaaGreat.W
open Go Go.Wb
theorem Y0h (s : Switch) (hs : Z8e s) : ∀ (d at_ : Nat) (w : walk_way), at_ < 4 → Z47 at_ w → ∀ r ∈ Z3z s d at_ w, r.Atoms.length ≤ 1000
 | 0, at_, w, h4, hw, r, hr => by
  rw [Z3z, List.mem_singleton] at hr
  rw [hr]
  have := hw.1
  show w.atoms.length ≤ 1000
  omega
 | d + 1, at_, w, h4, hw, r, hr => by
  have h0 := hw.1
  have h1 := hw.2
  rw [Z3z] at hr
  rcases List.mem_append.1 hr with hr | hr
  ·obtain ⟨i, hi, hr⟩ := List.mem_flatMap.1 hr
   unfold Z5l at hr
   split at hr
   ·cases hr
   ·rename_i f hf
    have hfi := (hs at_ h4).2 f (List.mem_of_getElem? hf)
    split at hr
    ·cases hr
    ·rename_i x hx
     have hx := Zol hx
     have hd := Zl1 x hfi
     rw [hx.1, hx.2] at hd
     split at hr
     ·rename_i n hn
      have hb := Zkw hn
      exact Y0h s hs d _ _ hb.2 ⟨by omega, by omega⟩ r hr
     ·rw [List.mem_singleton] at hr
      rw [hr]
      have := Zvy (wdo x f.Insts)
      show (Z45 (wdo x f.Insts)).atoms.length ≤ 1000
      omega
  ·rw [List.mem_singleton] at hr
   rw [hr]
   show w.atoms.length ≤ 1000
   omega
theorem Y00 (s : Switch) (hs : Z8e s) : ∀ r ∈ Z3x s, r.Atoms.length ≤ 1000 := Y0h s hs 4 0 way0 (by omega) ⟨by simp [way0], by simp [way0]⟩
theorem Ya7 {s : Switch} {many : Nat} (h : Zap s (many : Int) = true) : ∀ i, i < 4 → ∀ f ∈ Z12 s i, f.Insts.length ≤ 100000 ∧ f.Match.length ≤ 100000 := fun i hi f hf => by
 have := ((Zgy h).1 i hi).2 f hf
 omega
end Go.Proofs.YtknpgojdkobgjaaGreat.W
namespace Go.Proofs.YtknpgojdkobgjaaGreat.W
open Go Go.Wb
def nb (t : Tern) : Nat := (Z69 t.Mask).length
def Zcc (x : Cube) : Nat → Nat → Nat
 | 0, _ => 0
 | m + 1, f => nb (ve x f) + Zcc x m (f + 1)
def Z9t (x : Cube) : Nat := Zcc x 24 0
theorem Zw2 (t : Tern) : nb t ≤ 128 := by
 unfold nb Z69
 exact Nat.le_trans (List.length_filter_le ..) (by simp)
theorem Y1g (x : Cube) : ∀ (m f : Nat), Zcc x m f ≤ 128 * m
 | 0, _ => Nat.le_refl _
 | m + 1, f => by
  have h1 := Y1g x m (f + 1)
  have h2 := Zw2 (ve x f)
  rw [Zcc]; omega
theorem Yfl (x : Cube) : Z9t x ≤ 3072 := Y1g x 24 0
theorem Zox (a : Wide) : ∀ (m i n : Nat), i ≤ 128 → 128 < i + m → n ≤ i → Z91 a m (n : Int) (i : Int) = some ((n + ((List.range' i (128 - i)).filter (wt a)).length : Nat) : Int)
 | 0, i, n, h1, h2, _ => by omega
 | m + 1, i, n, h1, h2, h3 => by
  rw [Z91]
  by_cases hi : i < 128
  ·have e : 128 - i = (128 - (i + 1)) + 1 := by omega
   rw [decide_eq_true (by omega), cond_true, Y2x a i hi, Option.bind_some, inc i (by omega), e, List.range'_succ, List.filter_cons]
   cases wt a i
   ·rw [cond_false, Zox a m (i + 1) n (by omega) (by omega) (by omega)]; rfl
   ·rw [cond_true, inc n (by omega), Zox a m (i + 1) (n + 1) (by omega) (by omega) (by omega), if_pos rfl, List.length_cons]
    congr 2; omega
  ·have : i = 128 := by omega
   subst this
   rw [decide_eq_false (by omega), cond_false]; simp
theorem Ydk (t : Tern) : Zim t.Mask = some (nb t : Int) := by
 unfold Zim nb Z69
 have := Zox t.Mask (((128 : Int) - 0).toNat + 1) 0 0 (by omega) (by decide) (by omega)
 rw [Nat.zero_add, Nat.sub_zero, ← List.range_eq_range'] at this
 exact this
theorem Zte (x : Cube) : ∀ (m f n : Nat), f ≤ 24 → 24 < f + m → n ≤ 128 * f → Zb2 x m (n : Int) (f : Int) = some ((n + Zcc x (24 - f) f : Nat) : Int)
 | 0, f, n, h1, h2, _ => by omega
 | m + 1, f, n, h1, h2, h3 => by
  rw [Zb2]
  by_cases hf : f < 24
  ·have e : 24 - f = (24 - (f + 1)) + 1 := by omega
   have hb := Zw2 (ve x f)
   rw [decide_eq_true (by omega), cond_true, Z29 hf, Option.bind_some, Z2u, Ydk, Option.bind_some, inc f (by omega), Z30 (by omega) (by omega), show (n : Int) + (nb (ve x f) : Int) = ((n + nb (ve x f) : Nat) : Int) by omega, Zte x m (f + 1) _ (by omega) (by omega) (by omega), e, Zcc]
   congr 2; omega
  ·have : f = 24 := by omega
   subst this
   rw [decide_eq_false (by omega), cond_false]; simp [Zcc]
theorem Yh4 (x : Cube) : Zia x = some (Z9t x : Int) := by
 unfold Zia
 have := Zte x (((24 : Int) - 0).toNat + 1) 0 0 (by omega) (by decide) (by omega)
 rw [Nat.zero_add] at this
 exact this
def U : Int := 1099511627776
def Zd6 : List Cube → Nat
 | [] => 1
 | x :: l => max (Z9t x) 1 * Zd6 l
theorem Zs8 : ∀ l, 1 ≤ Zd6 l
 | [] => Nat.le_refl _
 | x :: l => by
  rw [Zd6]
  exact Nat.le_trans (Zs8 l) (Nat.le_mul_of_pos_left _ (by omega))
def Y8q (l : List Cube) : Nat := (l.length + 1) * Zd6 l
def Z8r (c : Cube) (l : List Cube) : List Cube := l.filter (Z3v c)
def Zvs (c : Cube) (l : List Cube) : Nat := Y8q (Z8r c l)
def Z59 (k : Nat) : Nat := min k 1099511627776
theorem Zt1 (a b : Nat) : Z1r (a : Int) (b : Int) = ((max a b : Nat) : Int) := by
 unfold Z1r
 by_cases h : (b : Int) > (a : Int)
 ·rw [decide_eq_true h, cond_true]; omega
 ·rw [decide_eq_false h, cond_false]; omega
theorem Zyx (a : Nat) : Z4a (a : Int) 1099511627776 = (Z59 a : Int) := by
 unfold Z4a Z59
 by_cases h : (1099511627776 : Int) < (a : Int)
 ·rw [decide_eq_true h, cond_true]; omega
 ·rw [decide_eq_false h, cond_false]; omega
theorem Y1j (a P : Nat) (hP : 1 ≤ P) : Z59 (Z59 a * P) = Z59 (a * P) := by
 unfold Z59
 by_cases h : a ≤ 1099511627776
 ·rw [Nat.min_eq_left h]
 ·have h1 : 1099511627776 * 1 ≤ 1099511627776 * P := Nat.mul_le_mul_left _ hP
  have h2 : 1099511627776 * P ≤ a * P := Nat.mul_le_mul_right _ (by omega)
  rw [Nat.min_eq_right (show 1099511627776 ≤ a by omega)]; omega
theorem Ya1 (n : Nat) (x : Cube) (hn : n ≤ 1099511627776) : Z4a (IntKind.i64.wrap ((n : Int) * Z1r (Z9t x : Int) 1)) 1099511627776 = (Z59 (n * max (Z9t x) 1) : Int) := by
 have h1 := Yfl x
 have h2 : Z1r (Z9t x : Int) 1 = ((max (Z9t x) 1 : Nat) : Int) := Zt1 (Z9t x) 1
 have h3 : n * max (Z9t x) 1 ≤ 1099511627776 * 3072 := Nat.mul_le_mul hn (by omega)
 rw [h2, ← Int.natCast_mul, Z30 (by omega) (by omega), Zyx]
theorem Zw1 (n : Nat) : Z59 n ≤ 1099511627776 := Nat.min_le_right ..
theorem Y9c (c : Cube) (l : List Cube) : (Z8r c l).length ≤ l.length := List.length_filter_le ..
theorem Zos (l : List Cube) (c : Cube) (hl : l.length ≤ 1000000) : ∀ (m i : Nat) (acc : List Cube), i ≤ l.length → l.length < i + m → acc.length ≤ i → Z8f l c m acc (i : Int) = some (acc ++ Z8r c (l.drop i))
 | 0, i, acc, h1, h2, _ => by omega
 | m + 1, i, acc, h1, h2, h3 => by
  have hlim : lim = 4294967296 := rfl
  rw [Z8f]
  by_cases hi : i < l.length
  ·rw [decide_eq_true (by omega), cond_true, Z21 hi, Option.bind_some, Zy3, Option.bind_some, Y1f, Option.bind_some, inc i (by omega), List.drop_eq_getElem_cons hi]
   unfold Z8r
   rw [List.filter_cons]
   show (bif Z3v c l[i] then _ else _) = _
   cases Z3v c l[i]
   ·rw [cond_false, Zos l c hl m (i + 1) acc (by omega) (by omega) (by omega)]; rfl
   ·rw [cond_true, Z1m (by simp; omega), Option.bind_some, Zos l c hl m (i + 1) _ (by omega) (by omega) (by simp; omega)]
    simp [Z8r]
  ·rw [decide_eq_false (by omega), cond_false, List.drop_of_length_le (by omega)]
   simp [Z8r]
theorem Zyg (l : List Cube) (hl : l.length ≤ 1000000) : ∀ (m i n : Nat), i ≤ l.length → l.length < i + m → n ≤ 1099511627776 → Zav l m (n : Int) (i : Int) = some (Z59 (n * Zd6 (l.drop i)) : Int)
 | 0, i, n, h1, h2, _ => by omega
 | m + 1, i, n, h1, h2, h3 => by
  rw [Zav]
  by_cases hi : i < l.length
  ·rw [decide_eq_true (by omega), cond_true, Z21 hi, Option.bind_some, Yh4, Option.bind_some, Ya1 _ _ h3, inc i (by omega), Zyg l hl m (i + 1) _ (by omega) (by omega) (Zw1 _), Y1j _ _ (Zs8 _), List.drop_eq_getElem_cons hi, Zd6, Nat.mul_assoc]
  ·rw [decide_eq_false (by omega), cond_false, List.drop_of_length_le (by omega), Zd6, Nat.mul_one]
   unfold Z59
   rw [Nat.min_eq_left h3]
theorem Y35 (c : Cube) (l : List Cube) (h : l.length ≤ 1000000) : Zgn c l = some (Z59 (Zvs c l) : Int) := by
 unfold Zgn Znc
 have hl := Y9c c l
 have h1 := Zos l c h ((((l.length : Int) : Int) - 0).toNat + 1) 0 [] (by omega) (by omega) (by simp)
 rw [show ((0 : Nat) : Int) = 0 from rfl, List.drop_zero, List.nil_append] at h1
 have h2 := Zyg (Z8r c l) (by omega) (((((Z8r c l).length : Int) : Int) - 0).toNat + 1) 0 (Z59 ((Z8r c l).length + 1)) (by omega) (by omega) (Zw1 _)
 rw [show ((0 : Nat) : Int) = 0 from rfl, List.drop_zero] at h2
 rw [h1, Option.bind_some, inc _ (by omega), Zyx, h2, Y1j _ _ (Zs8 _)]; rfl
def Zkt (all : List Cube) : List Cube → Nat → Nat → Nat
 | [], _, n => n
 | x :: l, i, n => Zkt all l (i + 1) (max n (Z59 (Zvs x (all.take i))))
def Zzw (l : List Rule) : Nat := Zkt (l.map (·.Cube)) (l.map (·.Cube)) 0 0
theorem Y0e (l : List Rule) (hl : l.length ≤ 1000000) : ∀ (m i n : Nat), i ≤ l.length → l.length < i + m → Za6 l m (n : Int) (i : Int) = some (Zkt (l.map (·.Cube)) ((l.drop i).map (·.Cube)) i n : Int)
 | 0, i, n, h1, h2 => by omega
 | m + 1, i, n, h1, h2 => by
  rw [Za6]
  by_cases hi : i < l.length
  ·rw [decide_eq_true (by omega), cond_true, Z21 hi, Option.bind_some, Zux _ _ (by omega), Option.bind_some, Y9s _ (by rw [List.length_take]; omega), Option.bind_some, Y35 _ _ (by simp; omega), Option.bind_some, Zt1, inc i (by omega), Y0e l hl m (i + 1) _ (by omega) (by omega), List.drop_eq_getElem_cons hi, List.map_cons, Zkt, List.map_take]
  ·rw [decide_eq_false (by omega), cond_false, List.drop_of_length_le (by omega)]; rfl
theorem Yfu (l : List Rule) (h : l.length ≤ 1000000) : Zha l = some (Zzw l : Int) := by
 unfold Zha
 exact Y0e l h ((((l.length : Int) : Int) - 0).toNat + 1) 0 0 (by omega) (by omega)
theorem Zt4 (c : Cube) (l : List Cube) (most : Int) : (Z2k c l most).2.2 = 0 ∨ Z2k c l most = (Z3i, false, 5) := by
 unfold Z2k
 cases decide ((Zc2 c l most).2.2 < 0)
 ·exact .inl rfl
 ·exact .inr rfl
def Z2t (most : Int) : List Rule → List Rule → List Rule × Int
 | [], kept => (kept, 0)
 | r :: l, kept => bif decide ((Z2k r.Cube (kept.map (·.Cube)) most).2.2 ≠ 0) then ([], 5) else bif (Z2k r.Cube (kept.map (·.Cube)) most).2.1 then Z2t most l (kept ++ [r]) else Z2t most l kept
theorem Zxu (l : List Rule) (h : ∀ r ∈ l, r.Atoms.length ≤ 1000000) : ∀ (m i : Nat), i + m = l.length → Z7f m i l = some l
 | 0, i, _ => by rw [Z7f]
 | m + 1, i, hi => by
  have hlim : lim = 4294967296 := rfl
  have hlt : i < l.length := by omega
  have ha := h l[i] (List.getElem_mem hlt)
  have e : List.set l ((i : Int)).toNat { l[i] with Atoms := l[i].Atoms } = l := by
   rw [Int.toNat_natCast]; exact List.set_getElem_self hlt
  rw [Z7f, Z21 hlt, Option.bind_some]
  unfold Zbt
  rw [Z1m (by simp; omega), Option.bind_some, Option.bind_some, List.nil_append, e]
  exact Zxu l h m (i + 1) (by omega)
theorem Yal (l : List Rule) (hl : l.length ≤ 1000000) (h : ∀ r ∈ l, r.Atoms.length ≤ 1000000) : Zhb l = some l := by
 have hlim : lim = 4294967296 := rfl
 unfold Zhb Zld
 rw [Z1m (by simp; omega), Option.bind_some, List.nil_append, show ((l.length : Int)).toNat = l.length by omega]
 exact Zxu l h l.length 0 (by omega)
theorem Zpp (most : Int) (hm : most ≤ 9223372036854775807) : ∀ (l : List Rule) (i : Nat) (kept : List Rule), kept.length + l.length ≤ 1000000 → (∀ r ∈ kept, r.Atoms.length ≤ 1000000) → (∀ r ∈ l, r.Atoms.length ≤ 1000000) →
  Z6o most l i kept (kept.map (·.Cube)) = some (Z2t most l kept)
 | [], i, kept, h, h1, _ => by
  rw [Z6o, Yal kept (by simpa using h) h1]; rfl
 | r :: l, i, kept, h, h1, h2 => by
  have hlim : lim = 4294967296 := rfl
  simp only [List.length_cons] at h
  rw [Z6o, Zvd _ _ _ hm (by simp; omega), Option.bind_some, Z2t]
  rcases Zt4 r.Cube (kept.map (·.Cube)) most with he | he
  ·rw [he, decide_eq_false (by omega), cond_false, cond_false]
   cases (Z2k r.Cube (kept.map (·.Cube)) most).2.1
   ·exact Zpp most hm l (i + 1) kept (by omega) h1 fun q hq => h2 q (by simp [hq])
   ·rw [Bool.not_true, cond_false, cond_true, Z1m (by simp; omega), Option.bind_some, Z1m (by simp; omega), Option.bind_some]
    have := Zpp most hm l (i + 1) (kept ++ [r]) (by simp; omega) (fun q hq => by
     rcases List.mem_append.1 hq with hq | hq
     ·exact h1 q hq
     ·rw [List.mem_singleton.1 hq]; exact h2 r (by simp)) fun q hq => h2 q (by simp [hq])
    rw [List.map_append] at this
    exact this
  ·rw [he]; rfl
theorem Zqt (most : Int) : ∀ (l kept : List Rule), (Z2t most l kept).2 = 0 ∨ Z2t most l kept = ([], 5)
 | [], kept => .inl rfl
 | r :: l, kept => by
  rw [Z2t]
  cases decide ((Z2k r.Cube (kept.map (·.Cube)) most).2.2 ≠ 0)
  ·cases (Z2k r.Cube (kept.map (·.Cube)) most).2.1
   ·exact Zqt most l kept
   ·exact Zqt most l _
  ·exact .inr rfl
theorem Zqe (most : Int) : ∀ (l kept : List Rule), (Z2t most l kept).1.length ≤ kept.length + l.length ∧ ∀ r ∈ (Z2t most l kept).1, r ∈ kept ∨ r ∈ l
 | [], kept => ⟨by simp [Z2t], fun r hr => .inl hr⟩
 | r :: l, kept => by
  rw [Z2t]
  cases decide ((Z2k r.Cube (kept.map (·.Cube)) most).2.2 ≠ 0)
  ·cases (Z2k r.Cube (kept.map (·.Cube)) most).2.1
   ·have := Zqe most l kept
    rw [cond_false, cond_false]
    exact ⟨by simp; omega, fun q hq => (this.2 q hq).imp id fun h => by simp [h]⟩
   ·have := Zqe most l (kept ++ [r])
    rw [cond_false, cond_true]
    refine ⟨by have := this.1; simp at this ⊢; omega, fun q hq => ?_⟩
    rcases this.2 q hq with h | h
    ·rcases List.mem_append.1 h with h | h
     ·exact .inl h
     ·rw [List.mem_singleton.1 h]; exact .inr (by simp)
    ·exact .inr (by simp [h])
  ·exact ⟨by simp, fun q hq => by simp at hq⟩
end Go.Proofs.YtknpgojdkobgjaaGreat.W
namespace Go.Proofs.YtknpgojdkobgjaaGreat.W
open Go Go.Wb
end Go.Proofs.YtknpgojdkobgjaaGreat.W
namespace Go.Proofs.YtknpgojdkobgjaaGreat.W
open Go Go.Wb
theorem Y7c {l : List Group} (h : Z7w l) (i : Nat) : Z7w (l.drop i) := ⟨by have := h.1; rw [List.length_drop]; omega, fun g hg => h.2 g (List.mem_of_mem_drop hg)⟩
theorem Zwz (G : List Group) (hG : Z7w G) : ∀ (l : List Group) (i : Nat) (acc : List Group), l = G.drop i → acc.length + l.length ≤ 1000 → Z6s G l i acc = some (acc ++ l)
 | [], i, acc, _, _ => by simp [Z6s]
 | g :: l, i, acc, h, hl => by
  have hlim : lim = 4294967296 := rfl
  have hi : i < G.length := by
   have := congrArg List.length h
   simp at this; omega
  simp only [List.length_cons] at hl
  have h2 := h
  rw [List.drop_eq_getElem_cons hi] at h2
  obtain ⟨e1, e2⟩ := List.cons.inj h2
  have hf : Zkr (G.drop i) g.ID = some g := by
   unfold Zkr
   rw [← h, List.find?_cons_of_pos (by simp)]
  rw [Z6s, Y0k _ _ (by omega), Option.bind_some, Y3c _ _ (Y7c hG i), hf, Option.bind_some]
  show (Z0u acc [g]).bind _ = _
  rw [Z1m (by simp; omega), Option.bind_some, Zwz G hG l (i + 1) _ e2 (by simp; omega)]
  simp
theorem Y9q (G : List Group) (hG : Z7w G) : Zjc G = some G := by
 unfold Zjc
 have h9 := hG.1
 exact Zwz G hG G 0 [] rfl (by simp; omega)
structure SW (s : Switch) : Prop where
 lt : Z8e s
 G : Z7w s.Groups
 I : ∀ i, i < 4 → ∀ f ∈ Z12 s i, f.Insts.length ≤ 100000 ∧ f.Match.length ≤ 100000
 most : Z4w s 4 0 ≤ 6561
theorem Zy9 {s : Switch} {m : Nat} (h : Zap s (m : Int) = true) (hm : m ≤ 8) : SW s := ⟨Yfi h (by omega), (Zgy h).2, Ya7 h, by
 have h1 := Y5v s 8 fun i hi => by have := ((Zgy h).1 i hi).1; omega
 omega⟩
theorem SW.len {s : Switch} (h : SW s) : (Z3x s).length ≤ 6561 := Nat.le_trans (Y0x s) h.most
theorem SW.walk {s : Switch} (h : SW s) : Zdd s = some (Z3x s) := Y92 s h.lt (by have := h.most; have hlim : lim = 4294967296 := rfl; omega)
theorem SW.walkR {s : Switch} (h : SW s) : Zel s = some (Z3x s) := Ya2 s h.lt h.I (by have := h.most; have hlim : lim = 4294967296 := rfl; omega)
def Zau (s : Switch) (most : Int) : List Rule × Int := Z2t most (Z3x s) []
def Z3f (s : Switch) (most : Int) : Flat × Int := bif decide ((Zau s most).2 ≠ 0) then (⟨[], []⟩, 5) else (⟨(Zau s most).1, s.Groups⟩, 0)
theorem Y41 (s : Switch) (h : SW s) (most : Int) (hm : most ≤ 9223372036854775807) : Zkk (Z3x s) most = some (Zau s most) := by
 have h1 := h.len
 have h2 := Y00 s h.lt
 exact Zpp most hm (Z3x s) 0 [] (by simp; omega) (by simp) fun r hr => by have := h2 r hr; omega
theorem Yaq (s : Switch) (h : SW s) (most : Int) (hm : most ≤ 9223372036854775807) : Zid s most = some (Z3f s most) := by
 unfold Zid Z3f
 rw [h.walk, Option.bind_some, Y41 s h most hm, Option.bind_some]
 rcases Zqt most (Z3x s) [] with he | he
 ·rw [show (Zau s most).2 = 0 from he, decide_eq_false (by omega), cond_false, cond_false, Y9q _ h.G]; rfl
 ·rw [show Zau s most = ([], 5) from he]; rfl
def Y16 (s : Switch) : Nat := Zzw (Z3x s)
theorem Yef (s : Switch) (h : SW s) : Zdi s = some (Y16 s : Int) := by
 unfold Zdi
 rw [h.walkR, Option.bind_some, Yfu _ (by have := h.len; omega)]; rfl
def Zex (s : Switch) (most : Int) : Bool := Zap s 3 && (decide (most ≤ 1024) || decide ((Y16 s : Int) ≤ 4096))
theorem Yb7 (s : Switch) (most : Int) : ((Zk3 s 3).bind fun x4 => (opt ((x4 == true) && ((decide (most ≤ 1024)) == false)) (Zdi s)).bind fun x5 => some (x4 && ((decide (most ≤ 1024)) || (decide (x5 ≤ 4096))))) = some (Zex s most) := by
 unfold Zex
 rw [Yaa, Option.bind_some]
 cases hf : Zap s 3
 ·rfl
 ·rw [Yef s (Zy9 (m := 3) hf (by omega))]
  cases decide (most ≤ 1024) <;> rfl
theorem Yek {s : Switch} {most : Int} (h : Zex s most = true) : SW s := by
 unfold Zex at h
 rw [Bool.and_eq_true] at h
 exact Zy9 (m := 3) h.1 (by omega)
theorem Ybm (s : Switch) (h : SW s) (most : Int) : (Z3f s most).1.Rules.length ≤ 6561 ∧ (∀ r ∈ (Z3f s most).1.Rules, r.Atoms.length ≤ 1000) ∧ Z7w (Z3f s most).1.Groups := by
 unfold Z3f
 cases decide ((Zau s most).2 ≠ 0)
 ·have h1 := Zqe most (Z3x s) []
  have h2 := h.len
  refine ⟨?_, fun r hr => ?_, h.G⟩
  ·have := h1.1
   simp at this
   show (Z2t most (Z3x s) []).1.length ≤ _
   omega
  ·rcases h1.2 r hr with h3 | h3
   ·simp at h3
   ·exact Y00 s h.lt r h3
 ·exact ⟨by simp, fun r hr => by simp at hr, ⟨by simp, fun g hg => by simp at hg⟩⟩
end Go.Proofs.YtknpgojdkobgjaaGreat.W
namespace Go.Proofs.YtknpgojdkobgjaaGreat.W
open Go Go.Wb
structure Y51 where
 h : Header
 set : List Action
 out : List Out
end Go.Proofs.YtknpgojdkobgjaaGreat.W
namespace Go.Proofs.YtknpgojdkobgjaaGreat.W
open Go Go.Wb
structure RW (G : Int → Header → List Out) (h0 : Header) (w : walk_way) (p : Y51) : Prop where
 h : p.h = Zrp w.got h0
 set : p.set = w.set
 out : p.out = w.atoms.flatMap (Yfn G h0)
end Go.Proofs.YtknpgojdkobgjaaGreat.W
namespace Go.Proofs.YtknpgojdkobgjaaGreat.W
open Go Go.Wb
theorem Zqc (most : Int) : ∀ (l kept : List Rule), (∀ i (hi : i < kept.length), (Z2k kept[i].Cube ((kept.take i).map (·.Cube)) most).2.1 = true ∧ (Z2k kept[i].Cube ((kept.take i).map (·.Cube)) most).2.2 = 0) →
  ∀ i (hi : i < (Z2t most l kept).1.length), (Z2k (Z2t most l kept).1[i].Cube (((Z2t most l kept).1.take i).map (·.Cube)) most).2.1 = true ∧ (Z2k (Z2t most l kept).1[i].Cube (((Z2t most l kept).1.take i).map (·.Cube)) most).2.2 = 0
 | [], kept, hk => hk
 | r :: l, kept, hk => by
  have hd : Z2t most (r :: l) kept = ([], 5) ∨ Z2t most (r :: l) kept = Z2t most l kept ∨ ((Z2k r.Cube (kept.map (·.Cube)) most).2.1 = true ∧ (Z2k r.Cube (kept.map (·.Cube)) most).2.2 = 0 ∧ Z2t most (r :: l) kept = Z2t most l (kept ++ [r])) := by
   rw [Z2t]
   rcases Zt4 r.Cube (kept.map (·.Cube)) most with he | he
   ·rw [he, decide_eq_false (by omega), cond_false]
    cases hf : (Z2k r.Cube (kept.map (·.Cube)) most).2.1
    ·exact .inr (.inl rfl)
    ·exact .inr (.inr ⟨rfl, rfl, rfl⟩)
   ·rw [he]; exact .inl rfl
  rcases hd with e | e | ⟨h1, h2, e⟩
  ·rw [e]; intro i hi; simp at hi
  ·rw [e]; exact Zqc most l kept hk
  ·rw [e]
   refine Zqc most l (kept ++ [r]) fun i hi => ?_
   by_cases h3 : i < kept.length
   ·rw [List.getElem_append_left h3, List.take_append_of_le_length (by omega)]
    exact hk i h3
   ·have : i = kept.length := by simp at hi; omega
    subst this
    simp [h1, h2]
theorem Ydz (s : Switch) (most : Int) : Zno s most = some (Zex s most) := Yb7 s most
set_option maxRecDepth 100000 in
theorem Y0o : Ze8 = some true := by decide +kernel
theorem Y1c (s : Switch) (h : SW s) (most : Int) (hm : most ≤ 9223372036854775807) (h0 : (Z3f s most).2 = 0) : ∀ (m i : Nat), i + m = (Z3f s most).1.Rules.length → Z7r (Z3f s most) most m i = some true
 | 0, i, _ => by rw [Z7r, Y0o]; rfl
 | m + 1, i, hi => by
  have hw := Ybm s h most
  have hlt : i < (Z3f s most).1.Rules.length := by omega
  have e : (Z3f s most).1.Rules = (Zau s most).1 := by
   unfold Z3f at h0 ⊢
   cases hd : decide ((Zau s most).2 ≠ 0)
   ·rfl
   ·rw [hd] at h0; cases h0
  have hh := Zqc most (Z3x s) [] (fun i hi => by simp at hi) i (by rw [show (Z2t most (Z3x s) []).1 = (Z3f s most).1.Rules from e.symm]; exact hlt)
  have el : Z9q (Z3f s most).1.Rules (i : Int) most = Z2k (Z3f s most).1.Rules[i].Cube (((Z3f s most).1.Rules.take i).map (·.Cube)) most := by
   unfold Z9q
   rw [decide_eq_false (by omega), decide_eq_false (by omega)]
   show (match (Z3f s most).1.Rules[((i : Int)).toNat]? with | none => _ | some r => _) = _
   rw [Int.toNat_natCast, List.getElem?_eq_getElem hlt]
  have h1 : (Z9q (Z3f s most).1.Rules (i : Int) most).2.1 = true ∧ (Z9q (Z3f s most).1.Rules (i : Int) most).2.2 = 0 := by
   rw [el]
   simp only [e]
   exact hh
  have hf := Y3u h1.1
  rw [Z7r]
  unfold Zi3
  rw [Y39 _ _ _ (by omega) hm, Option.bind_some, Option.bind_some, Y6s, Option.bind_some]
  simp only
  rw [hf, h1.1, h1.2]
  simp only [Bool.not_true, ne_eq, not_true_eq_false, decide_false, Bool.or_self, cond_false]
  exact Y1c s h most hm h0 m (i + 1) (by omega)
theorem Ycc (s : Switch) (most : Int) (hm : most ≤ 9223372036854775807) : Zeh s most = some true := by
 unfold Zeh
 rw [Ydz, Option.bind_some, Y0o]
 cases hf : Zex s most
 ·rfl
 ·have h := Yek hf
  rw [Bool.not_true, cond_false, Yaq s h most hm, Option.bind_some]
  by_cases h0 : (Z3f s most).2 = 0
  ·rw [decide_eq_false (by omega), cond_false, Int.toNat_natCast]
   exact Y1c s h most hm h0 _ 0 (by omega)
  ·rw [decide_eq_true h0]; rfl
theorem Y4v {W : World} {H M : HS} {v : Value} (s : Switch) (most : Int) (h : (rd (Z0 .i64) most).R W H M v) : Zeh s most = some true := Ycc s most (Z0s h).2.2
end Go.Proofs.YtknpgojdkobgjaaGreat.W
