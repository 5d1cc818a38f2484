/- A part of the proof. -/
import Derived.Test.YtknpgojdkobgjaaGreatP0
set_option linter.unusedVariables false
set_option linter.unusedSimpArgs false
namespace Go.Proofs.YtknpgojdkobgjaaGreat.W
open Go Go.Wb
theorem Zyr (a b : Tern) : Zfj a b = some (Z1s zTern (Z30 a b)) := by
 unfold Zfj Z30
 rw [Zol, Option.bind_some, Y28, Option.bind_some, Zol, Option.bind_some, Zsl, Option.bind_some]
 cases Z3q (Z2c (Z6o a.Value b.Value) (Z2c a.Mask b.Mask)) <;> rfl
theorem Zx7 (a x : Cube) : ∀ (m i : Nat), i ≤ 24 → 24 < i + m → (∀ j, j < i → (Z30 (ve a j) (ve x j)).isSome = true) →
  Z7x a x m (Z2t (fun j => (Z30 (ve a j) (ve x j)).getD zTern) Z29 i) (i : Int) = some (Z1s Z29 (Z4w a x))
 | 0, i, h1, h2, _ => by omega
 | m + 1, i, h1, h2, h3 => by
  rw [Z7x]
  by_cases hi : i < 24
  ·rw [decide_eq_true (by omega), cond_true, Z24 hi, Option.bind_some, Option.bind_some, Z2s, Z2s, Zyr, Option.bind_some]
   cases ht : Z30 (ve a i) (ve x i) with
   | none =>
    rw [show (!(Z1s zTern (none : Option Tern)).2) = true from rfl, cond_true]
    unfold Z4w
    rw [Zu0 i hi ht]; rfl
   | some t =>
    rw [show (!(Z1s zTern (some t)).2) = false from rfl, cond_false, Option.bind_some, inc i (by omega)]
    have h4 := Z8b (fun j => (Z30 (ve a j) (ve x j)).getD zTern) Z29 i hi
    simp only [ht, Option.getD_some] at h4
    show Z7x a x m (Vector.set (Z2t _ Z29 i) i t hi) _ = _
    rw [h4]
    exact Zx7 a x m (i + 1) (by omega) (by omega) fun j hj => by
     by_cases e : j = i
     ·subst e; rw [ht]; rfl
     ·exact h3 j (by omega)
  ·have : i = 24 := by omega
   subst this
   rw [decide_eq_false (by omega), cond_false, Z8r]
   have : Z4w a x = some (Vector.ofFn fun i => (Z30 (ve a i.1) (ve x i.1)).getD zTern) := by
    unfold Z4w Z50
    rw [List.all_eq_true.2 fun j hj => h3 j (by simpa using hj), cond_true]
   rw [this]; rfl
theorem Zt9 (a x : Cube) : Zfh a x = some (Z1s Z29 (Z4w a x)) := by
 unfold Zfh
 have := Zx7 a x (((24 : Int) - 0).toNat + 1) 0 (by omega) (by decide) (by omega)
 rw [Z81] at this
 exact this
theorem Zvy (r c : Cube) : ∀ (m i : Nat), i ≤ 24 → 24 < i + m → (∀ j, j < i → (Z30 (ve r j) (ve c j)).isSome = true) →
  Z99 r c m (Z2t (fun j => Z19 ⟨(ve c j).Value, Z3p (ve c j).Mask (ve r j).Mask⟩) Z29 i) (i : Int) = some (Z1s Z29 (Z5d r c))
 | 0, i, h1, h2, _ => by omega
 | m + 1, i, h1, h2, h3 => by
  rw [Z99]
  by_cases hi : i < 24
  ·rw [decide_eq_true (by omega), cond_true, Z24 hi, Option.bind_some, Option.bind_some, Z2s, Z2s, Zyr, Option.bind_some]
   cases ht : Z30 (ve r i) (ve c i) with
   | none =>
    rw [show (!(Z1s zTern (none : Option Tern)).2) = true from rfl, cond_true]
    unfold Z5d
    rw [show ((List.range 24).all fun i => (Z30 (ve r i) (ve c i)).isSome) = false from List.all_eq_false.2 ⟨i, by simpa using hi, by rw [ht]; simp⟩]; rfl
   | some t =>
    rw [show (!(Z1s zTern (some t)).2) = false from rfl, cond_false, Option.bind_some, Option.bind_some, Option.bind_some, Zuj, Option.bind_some, Z2s, Z2s, Zzg, Option.bind_some, Option.bind_some, inc i (by omega)]
    have h4 := Z8b (fun j => Z19 ⟨(ve c j).Value, Z3p (ve c j).Mask (ve r j).Mask⟩) Z29 i hi
    show Z99 r c m (Vector.set (Z2t _ Z29 i) i (Z19 ⟨(ve c i).Value, Z3p (ve c i).Mask (ve r i).Mask⟩) hi) _ = _
    rw [h4]
    exact Zvy r c m (i + 1) (by omega) (by omega) fun j hj => by
     by_cases e : j = i
     ·subst e; rw [ht]; rfl
     ·exact h3 j (by omega)
  ·have : i = 24 := by omega
   subst this
   rw [decide_eq_false (by omega), cond_false, Z8r]
   unfold Z5d
   rw [show ((List.range 24).all fun i => (Z30 (ve r i) (ve c i)).isSome) = true from List.all_eq_true.2 fun j hj => h3 j (by simpa using hj)]; rfl
theorem Y83 (r c : Cube) : Zgl r c = some (Z1s Z29 (Z5d r c)) := by
 unfold Zgl
 have := Zvy r c (((24 : Int) - 0).toNat + 1) 0 (by omega) (by decide) (by omega)
 rw [Z81] at this
 exact this
abbrev Y4a := Switch → Int → Cube → Cube → List Atom → List Action → Option (List Rule)
abbrev Zvb := Switch → Int → Flow → Cube → Cube → List Atom → List Action → Option (List Rule)
def Zlq (R : Nat → walk_way → List Rule) (at_ : Nat) (f : Flow) (x : walk_way) : List Rule := match Z2d at_ f.Insts with
 | some n => R n (wdo x f.Insts)
 | none => [Z3g (Z3s (wdo x f.Insts))]
theorem Y46 (s : Switch) (at_ : Nat) (f : Flow) (x : walk_way) (Rw : Y4a) (Ro : Zvb) (R : Nat → walk_way → List Rule) (hf : Z73 f.Insts) (hi : f.Insts.length ≤ 100000) (ha : at_ < 4) (hx : Z41 at_ x)
  (hR : ∀ n w, at_ < n → n < 4 → Z41 n w → Rw s (n : Int) w.cube w.got w.atoms w.set = some (R n w)) :
  Zdq Rw Ro s (at_ : Int) f x.cube x.got x.atoms x.set = some (Zlq R at_ f x) := by
 have hlim : lim = 4294967296 := rfl
 have hxa := hx.1
 have hxs := hx.2
 have b1 := Zpa x hf
 have b2 := Zj6 (Z3w x f.Insts) f.Insts
 have b3 := Ziq (Z3d (Z3w x f.Insts) f.Insts) hf
 have b4 := Zks x hf
 have j4 : ∀ b : walk_way, b.atoms.length ≤ 2000 → b.set.length ≤ 50 → (∀ n, Z2d at_ f.Insts = some n → Z41 n b) → Ze0 f (at_ : Int) Rw s b.cube b.atoms b.set b.got = some (match Z2d at_ f.Insts with | some n => R n b | none => [Z3g (Z3s b)]) := fun b h1 h2 h3 => by
  unfold Ze0
  rw [Zij _ 1 hi, Option.bind_some]
  have hend : ((Zcv b.set).bind fun x24 => (Zbr x24 b.got).bind fun x25 => (Z0w b.atoms x25.1).bind fun l27 => some [(⟨b.cube, l27⟩ : Rule)]) = some [Z3g (Z3s b)] := by
   have h5 := Zok b.set
   have h6 := Zg1 (Z94 b.set)
   rw [Y5o _ h2, Option.bind_some, Zto _ _ (by omega), Option.bind_some, Z1h (by rw [Zfm]; omega)]; rfl
  cases ho : ofI f.Insts 1 with
  | none => rw [Zz4 ho]; exact hend
  | some i =>
   show (bif ((true && decide (i.Table > (at_ : Int))) && decide (i.Table < 4)) then _ else _) = _
   rw [Bool.true_and]
   by_cases hc : i.Table > (at_ : Int) ∧ i.Table < 4
   ·have hd : (decide (i.Table > (at_ : Int)) && decide (i.Table < 4)) = true := by
     rw [Bool.and_eq_true, decide_eq_true_eq, decide_eq_true_eq]; exact hc
    have hn := Zyt ho hc
    have e : ((i.Table.toNat : Nat) : Int) = i.Table := by omega
    have h5 := hR i.Table.toNat b (by omega) (by omega) (h3 _ hn)
    rw [e] at h5
    rw [hn, hd, cond_true]
    show (Rw s i.Table b.cube b.got b.atoms b.set).bind _ = _
    rw [h5]; rfl
   ·have hd : (decide (i.Table > (at_ : Int)) && decide (i.Table < 4)) = false := by
     rw [Bool.and_eq_false_iff, decide_eq_false_iff_not, decide_eq_false_iff_not]; omega
    rw [Ztp ho hc, hd, cond_false]
    exact hend
 have j3 : ∀ b : walk_way, b.atoms.length ≤ 2000 → b.set.length ≤ 50 → (∀ n, Z2d at_ f.Insts = some n → Z41 n b) → Ze6 f b.got (at_ : Int) Rw s b.cube b.atoms b.set = some (match Z2d at_ f.Insts with | some n => R n (Z34 b f.Insts) | none => [Z3g (Z3s (Z34 b f.Insts))]) := fun b h1 h2 h3 => by
  have b5 := Zom b f.Insts
  unfold Ze6
  rw [Zij _ 2 hi, Option.bind_some, ← j4 (Z34 b f.Insts) (by rw [b5.1]; omega) (by rw [b5.2.1]; omega) (fun n hn => by unfold Z41; rw [b5.1, b5.2.1]; exact h3 n hn)]
  unfold Z34
  cases ho : ofI f.Insts 2 with
  | none => rfl
  | some i =>
   simp only [Z1s, cond_true]
   rw [Zhn]; rfl
 have j2 : ∀ b : walk_way, b.atoms.length ≤ 1500 → b.set.length ≤ 36 → (∀ n, Z2d at_ f.Insts = some n → Z41 n (Z35 b f.Insts)) → Zff f b.got (at_ : Int) Rw s b.cube b.atoms b.set = some (match Z2d at_ f.Insts with | some n => R n (Z34 (Z35 b f.Insts) f.Insts) | none => [Z3g (Z3s (Z34 (Z35 b f.Insts) f.Insts))]) := fun b h1 h2 h3 => by
  have b5 := Ziq b hf
  unfold Zff
  rw [Zij _ 3 hi, Option.bind_some, ← j3 (Z35 b f.Insts) (by rw [b5.1]; omega) (by have := b5.2.1; omega) h3]
  unfold Z35
  cases ho : ofI f.Insts 3 with
  | none => rfl
  | some i =>
   have := hf i (Ze5 ho)
   simp only [Z1s, cond_true]
   rw [Yaa _ _ (by omega) (by omega)]; rfl
 have j1 : ∀ b : walk_way, b.atoms.length ≤ 1500 → b.set.length ≤ 36 → (∀ n, Z2d at_ f.Insts = some n → Z41 n (Z35 (Z3d b f.Insts) f.Insts)) → Zdb f (at_ : Int) Rw s b.cube b.set b.atoms b.got = some (match Z2d at_ f.Insts with | some n => R n (Z34 (Z35 (Z3d b f.Insts) f.Insts) f.Insts) | none => [Z3g (Z3s (Z34 (Z35 (Z3d b f.Insts) f.Insts) f.Insts))]) := fun b h1 h2 h3 => by
  have b5 := Zj6 b f.Insts
  unfold Zdb
  rw [Zij _ 5 hi, Option.bind_some, ← j2 (Z3d b f.Insts) (by rw [b5.1]; omega) (by have := b5.2.1; omega) h3]
  unfold Z3d
  cases ho : ofI f.Insts 5 with
  | none => rfl
  | some i => rfl
 have hn : ∀ n, Z2d at_ f.Insts = some n → Z41 n (Z35 (Z3d (Z3w x f.Insts) f.Insts) f.Insts) := fun n hn => by
  have h1 := Zl6 hn
  have h2 := b3.2.1
  have h3 := b2.2.1
  have h4 := b1.1
  exact ⟨by rw [b3.1, b2.1]; omega, by rw [b1.2.1] at h3; omega⟩
 have h1 := j1 (Z3w x f.Insts) (by omega) (by rw [b1.2.1]; omega) hn
 unfold Zdq Zlq wdo
 rw [Z1h (by simp; omega), Option.bind_some, List.nil_append, Zij _ 4 hi, Option.bind_some, ← h1]
 unfold Z3w
 cases ho : ofI f.Insts 4 with
 | none => rfl
 | some i =>
  have h2 := hf i (Ze5 ho)
  have h3 := Zg1 i.Acts
  simp only [Z1s, cond_true]
  rw [Zto _ _ (by omega), Option.bind_some, Z1h (by rw [Zfm]; omega)]; rfl
theorem Zs4 (s : Switch) (at_ : Nat) (ha : at_ < 4) (hm : Yag (Z0y s at_)) (w : walk_way) (hw : w.atoms.length ≤ 1000) (R : Nat → walk_way → List Rule) (Ro : Zvb) (o : List Int) (ho : inT (Z0y s at_) o) (hol : o.length ≤ 100)
  (hone : ∀ f ∈ Z0y s at_, ∀ x, Z5y w f = some x → Ro s (at_ : Int) f x.cube w.got w.atoms w.set = some (Zlq R at_ f x)) :
  ∀ (m i : Nat) (acc : List Rule), i ≤ o.length → o.length < i + m → acc.length + ((o.drop i).flatMap (Z5b R (Z0y s at_) at_ w)).length + 1 ≤ lim →
  Z7b o (at_ : Int) s w.got w.cube Ro w.atoms w.set m acc (i : Int) = some (acc ++ (o.drop i).flatMap (Z5b R (Z0y s at_) at_ w) ++ [Z3g w])
 | 0, i, acc, h1, h2, _ => by omega
 | m + 1, i, acc, h1, h2, h3 => by
  have hlim : lim = 4294967296 := rfl
  rw [Z7b]
  by_cases hi : i < o.length
  ·obtain ⟨k, hk, hok⟩ := ho _ (List.getElem_mem hi)
   have hrule : Z5b R (Z0y s at_) at_ w (k : Int) = match Z5y w (Z0y s at_)[k] with
     | none => []
     | some x => Zlq R at_ (Z0y s at_)[k] x := by
    unfold Z5b
    rw [Int.toNat_natCast, List.getElem?_eq_getElem hk]; rfl
   rw [List.drop_eq_getElem_cons hi, List.flatMap_cons, hok, hrule] at h3 ⊢
   have ih := fun acc => Zs4 s at_ ha hm w hw R Ro o ho hol hone m (i + 1) acc (by omega) (by omega)
   rw [decide_eq_true (by omega), cond_true, Z24 ha, Option.bind_some, Z1m hi, Option.bind_some, hok, Zga, Z1m hk, Option.bind_some, Y8p _ (hm _ (List.getElem_mem hk)), Option.bind_some, Y83, Option.bind_some, inc i (by omega)]
   have hmw : Z5y w (Z0y s at_)[k] = (Z5d w.got (Zef (Z0y s at_)[k])).bind fun b => (Z4w b w.cube).map fun c => { w with cube := c } := rfl
   have hone := hone _ (List.getElem_mem hk)
   revert h3 hone
   rw [hmw]
   cases hb : Z5d w.got (Zef (Z0y s at_)[k]) with
   | none =>
    intro h3 hone
    simp only [Z1s, Bool.not_false, cond_true, Option.bind_none, List.nil_append] at h3 ⊢
    exact ih acc h3
   | some b =>
    simp only [Z1s, Bool.not_true, cond_false, Option.bind_some]
    rw [Zt9, Option.bind_some]
    cases hc : Z4w b w.cube with
    | none =>
     intro h3 hone
     simp only [Z1s, cond_false, Option.map_none, List.nil_append] at h3 ⊢
     exact ih acc h3
    | some c =>
     intro h3 hone
     simp only [Z1s, cond_true, Option.map_some] at h3 ⊢
     have h4 := hone _ rfl
     simp only at h4
     rw [List.length_append] at h3
     rw [h4, Option.bind_some, Z1h (by omega), Option.bind_some, ih _ (by rw [List.length_append]; omega)]
     simp only [List.append_assoc]
  ·rw [decide_eq_false (by omega), cond_false, List.drop_of_length_le (by omega), Z1h (by simp; omega), Option.bind_some, Z1h (by simp; omega)]
   simp [Z3g]
theorem Zya (s : Switch) (hs : Z89 s) (hI : ∀ i, i < 4 → ∀ f ∈ Z0y s i, f.Insts.length ≤ 100000 ∧ f.Match.length ≤ 100000) (hmost : Z4y s 4 0 ≤ lim) : ∀ (d n at_ : Nat) (w : walk_way), 4 ≤ at_ + d → at_ < 4 → 2 * d ≤ n → Z41 at_ w →
  (Z3o n).1 s (at_ : Int) w.cube w.got w.atoms w.set = some (Z3u s d at_ w)
 | 0, n, at_, w, h0, h1, _, _ => by omega
 | d + 1, n, at_, w, h0, h1, h2, hw => by
  obtain ⟨n, rfl⟩ : ∃ k, n = k + 2 := ⟨n - 2, by omega⟩
  have hl := hs at_ h1
  have hlen := Zpn s (d + 1) at_ w h0 h1
  have hsk := Zoz s 4 0 at_ (by omega) (by omega) (by omega)
  show Zho (Z3o (n + 1)).1 (Z3o (n + 1)).2 s (at_ : Int) w.cube w.got w.atoms w.set = _
  unfold Zho
  rw [Z24 h1, Option.bind_some, Zga, Y9c _ (by have := hl.1; omega), Option.bind_some]
  have hol := Zsc (Z0y s at_)
  have := Zs4 s at_ h1 (fun f hf => (hI at_ h1 f hf).2) w (by have := hw.1; omega) (Z3u s d) (Z3o (n + 1)).2 (Z5j (Z0y s at_)) (fun j hj => Zta.1 hj) (by have := hl.1; omega) (fun f hf x hx => by
   have hb := Zop hx
   have hg : x.got = w.got := by
    unfold Z5y at hx
    obtain ⟨b, _, h4⟩ := Option.bind_eq_some_iff.1 hx
    obtain ⟨c, _, h5⟩ := Option.map_eq_some_iff.1 h4
    subst h5; rfl
   show Zdq (Z3o n).1 (Z3o n).2 s (at_ : Int) f x.cube w.got w.atoms w.set = _
   rw [← hg, ← hb.1, ← hb.2]
   exact Y46 s at_ f x _ _ (Z3u s d) (hl.2 f hf) (hI at_ h1 f hf).1 h1 (by unfold Z41; rw [hb.1, hb.2]; exact hw) fun k y h5 h6 h7 => Zya s hs hI hmost d n k y (by omega) h6 (by omega) h7) ((((Z5j (Z0y s at_)).length : Int) - 0).toNat + 1) 0 [] (by omega) (by omega) (by
   rw [Z3u, List.length_append, List.length_singleton] at hlen
   rw [List.drop_zero, List.length_nil]; omega)
  rw [List.drop_zero, List.nil_append] at this
  exact this
theorem Y61 (s : Switch) (hs : Z89 s) (hI : ∀ i, i < 4 → ∀ f ∈ Z0y s i, f.Insts.length ≤ 100000 ∧ f.Match.length ≤ 100000) (hmost : Z4y s 4 0 ≤ lim) : Ze8 s = some (Z42 s) := by
 unfold Ze8 Zlo Z98 Zpl
 rw [Option.bind_some, Option.bind_some]
 show ((Z3o Z0x).1 s ((0 : Nat) : Int) way0.cube way0.got way0.atoms way0.set).bind _ = _
 rw [Zya s hs hI hmost 4 Z0x 0 way0 (by omega) (by omega) (by unfold Z0x; omega) ⟨by simp [way0], by simp [way0]⟩]; rfl
end Go.Proofs.YtknpgojdkobgjaaGreat.W
namespace Go.Proofs.YtknpgojdkobgjaaGreat.W
open Go Go.Wb
theorem Zsy {β : Type} [DecidableEq β] (g : Action → β) (eq : Action → Action → Option Bool) (he : ∀ x y, eq x y = some (decide (g x = g y))) (t : List Action) : ∀ (s : List Action) (i : Nat), i + s.length = t.length → Z6m t eq s i = some (decide (s.map g = (t.drop i).map g))
 | [], i, h => by
  rw [Z6m, List.drop_of_length_le (by simp at h; omega)] <;> rfl
 | x :: s, i, h => by
  simp only [List.length_cons] at h
  have hi : i < t.length := by omega
  rw [Z6m, Z1m hi, Option.bind_some, he, Option.bind_some, Zsy g eq he t s (i + 1) (by omega), List.drop_eq_getElem_cons hi, List.map_cons, List.map_cons]
  generalize g t[i] = y
  generalize g x = z
  generalize List.map g s = l
  generalize List.map g (t.drop (i + 1)) = l'
  by_cases he : z = y
  ·simp [he]
  ·simp [he]
theorem Ycu {β : Type} [DecidableEq β] (g : Action → β) (eq : Action → Action → Option Bool) (he : ∀ x y, eq x y = some (decide (g x = g y))) (a b : List Action) : Zj0 a b eq = some (decide (a.map g = b.map g)) := by
 unfold Zj0
 by_cases hl : a.length = b.length
 ·rw [decide_eq_false (by omega), cond_false, Zsy g eq he b a 0 (by omega)] <;> rfl
 ·rw [decide_eq_true (by omega), cond_true]
  have : a.map g ≠ b.map g := fun e => hl (by have := congrArg List.length e; simpa using this)
  simp [this]
theorem Zsm {β : Type} [DecidableEq β] (g : Bucket → β) (eq : Bucket → Bucket → Option Bool) (he : ∀ x y, eq x y = some (decide (g x = g y))) (t : List Bucket) : ∀ (s : List Bucket) (i : Nat), i + s.length = t.length → Z6k t eq s i = some (decide (s.map g = (t.drop i).map g))
 | [], i, h => by
  rw [Z6k, List.drop_of_length_le (by simp at h; omega)] <;> rfl
 | x :: s, i, h => by
  simp only [List.length_cons] at h
  have hi : i < t.length := by omega
  rw [Z6k, Z1m hi, Option.bind_some, he, Option.bind_some, Zsm g eq he t s (i + 1) (by omega), List.drop_eq_getElem_cons hi, List.map_cons, List.map_cons]
  generalize g t[i] = y
  generalize g x = z
  generalize List.map g s = l
  generalize List.map g (t.drop (i + 1)) = l'
  by_cases he : z = y
  ·simp [he]
  ·simp [he]
theorem Y4e {β : Type} [DecidableEq β] (g : Bucket → β) (eq : Bucket → Bucket → Option Bool) (he : ∀ x y, eq x y = some (decide (g x = g y))) (a b : List Bucket) : Zhy a b eq = some (decide (a.map g = b.map g)) := by
 unfold Zhy
 by_cases hl : a.length = b.length
 ·rw [decide_eq_false (by omega), cond_false, Zsm g eq he b a 0 (by omega)] <;> rfl
 ·rw [decide_eq_true (by omega), cond_true]
  have : a.map g ≠ b.map g := fun e => hl (by have := congrArg List.length e; simpa using this)
  simp [this]
theorem Zwp {β : Type} [DecidableEq β] (g : Group → β) (eq : Group → Group → Option Bool) (he : ∀ x y, eq x y = some (decide (g x = g y))) (t : List Group) : ∀ (s : List Group) (i : Nat), i + s.length = t.length → Z6x t eq s i = some (decide (s.map g = (t.drop i).map g))
 | [], i, h => by
  rw [Z6x, List.drop_of_length_le (by simp at h; omega)] <;> rfl
 | x :: s, i, h => by
  simp only [List.length_cons] at h
  have hi : i < t.length := by omega
  rw [Z6x, Z1m hi, Option.bind_some, he, Option.bind_some, Zwp g eq he t s (i + 1) (by omega), List.drop_eq_getElem_cons hi, List.map_cons, List.map_cons]
  generalize g t[i] = y
  generalize g x = z
  generalize List.map g s = l
  generalize List.map g (t.drop (i + 1)) = l'
  by_cases he : z = y
  ·simp [he]
  ·simp [he]
theorem Y21 {β : Type} [DecidableEq β] (g : Group → β) (eq : Group → Group → Option Bool) (he : ∀ x y, eq x y = some (decide (g x = g y))) (a b : List Group) : Zfw a b eq = some (decide (a.map g = b.map g)) := by
 unfold Zfw
 by_cases hl : a.length = b.length
 ·rw [decide_eq_false (by omega), cond_false, Zwp g eq he b a 0 (by omega)] <;> rfl
 ·rw [decide_eq_true (by omega), cond_true]
  have : a.map g ≠ b.map g := fun e => hl (by have := congrArg List.length e; simpa using this)
  simp [this]
theorem Zsg {β : Type} [DecidableEq β] (g : Rule → β) (eq : Rule → Rule → Option Bool) (he : ∀ x y, eq x y = some (decide (g x = g y))) (t : List Rule) : ∀ (s : List Rule) (i : Nat), i + s.length = t.length → Z74 t eq s i = some (decide (s.map g = (t.drop i).map g))
 | [], i, h => by
  rw [Z74, List.drop_of_length_le (by simp at h; omega)] <;> rfl
 | x :: s, i, h => by
  simp only [List.length_cons] at h
  have hi : i < t.length := by omega
  rw [Z74, Z1m hi, Option.bind_some, he, Option.bind_some, Zsg g eq he t s (i + 1) (by omega), List.drop_eq_getElem_cons hi, List.map_cons, List.map_cons]
  generalize g t[i] = y
  generalize g x = z
  generalize List.map g s = l
  generalize List.map g (t.drop (i + 1)) = l'
  by_cases he : z = y
  ·simp [he]
  ·simp [he]
theorem Y35 {β : Type} [DecidableEq β] (g : Rule → β) (eq : Rule → Rule → Option Bool) (he : ∀ x y, eq x y = some (decide (g x = g y))) (a b : List Rule) : Zi6 a b eq = some (decide (a.map g = b.map g)) := by
 unfold Zi6
 by_cases hl : a.length = b.length
 ·rw [decide_eq_false (by omega), cond_false, Zsg g eq he b a 0 (by omega)] <;> rfl
 ·rw [decide_eq_true (by omega), cond_true]
  have : a.map g ≠ b.map g := fun e => hl (by have := congrArg List.length e; simpa using this)
  simp [this]
theorem Zqy {α : Type} [DecidableEq α] (a b : List α) : decide (a.map id = b.map id) = decide (a = b) := by rw [List.map_id, List.map_id]
theorem Y05 (a b : List Action) : Ziv a b = some (decide (a = b)) := by
 unfold Ziv
 rw [Ycu id Zms (fun x y => rfl), Option.bind_some, Zqy]
theorem Y19 (a b : Bucket) : Zcu a b = some (decide (a = b)) := by
 unfold Zcu
 rw [Y05]
 cases a; cases b; rename_i p q r s p' q' r' s'
 by_cases h1 : p = p' <;> by_cases h2 : q = q' <;> by_cases h3 : r = r' <;> by_cases h4 : s = s' <;> simp [opt, h1, h2, h3, h4]
theorem Yfe (a b : List Bucket) : Zfu a b = some (decide (a = b)) := by
 unfold Zfu
 rw [Y4e id Zcu Y19, Option.bind_some, Zqy]
theorem Yd0 (a b : Group) : Zex a b = some (decide (a = b)) := by
 unfold Zex
 rw [Yfe]
 cases a; cases b; rename_i p q r p' q' r'
 by_cases h1 : p = p' <;> by_cases h2 : q = q' <;> by_cases h3 : r = r' <;> simp [opt, h1, h2, h3]
theorem Y1j (a b : List Group) : Zjy a b = some (decide (a = b)) := by
 unfold Zjy
 rw [Y21 id Zex Yd0, Option.bind_some, Zqy]
def rcl (r : Rule) : Cube × List Atom := (Z17 r.Cube, r.Atoms.map acl)
theorem Y6e (a b : Rule) : Zeq a b = some (decide (rcl a = rcl b)) := by
 unfold Zeq rcl
 rw [Zn9, Option.bind_some, Zn9, Option.bind_some, Y12]
 by_cases h1 : Z17 a.Cube = Z17 b.Cube <;> by_cases h2 : a.Atoms.map acl = b.Atoms.map acl <;> simp [opt, h1, h2]
def Zm0 (a b : Flat) : Bool := decide (a.Rules.map rcl = b.Rules.map rcl) && decide (a.Groups = b.Groups)
theorem Y9g (a b : Flat) : Zbp a b = some (Zm0 a b) := by
 unfold Zbp Zm0
 rw [Y35 rcl Zeq Y6e, Option.bind_some, Y1j]
 cases decide (a.Rules.map rcl = b.Rules.map rcl) <;> rfl
theorem Ydb (a : Flat) : Zm0 a a = true := by unfold Zm0; simp
end Go.Proofs.YtknpgojdkobgjaaGreat.W
namespace Go.Proofs.YtknpgojdkobgjaaGreat.W
open Go Go.Wb
theorem Zuy (s : Switch) (hs : Z89 s) : ∀ (d at_ : Nat) (w : walk_way), at_ < 4 → Z41 at_ w → ∀ r ∈ Z3u s d at_ w, r.Atoms.length ≤ 1000
 | 0, at_, w, h4, hw, r, hr => by
  rw [Z3u, List.mem_singleton] at hr
  rw [hr]
  have := hw.1
  show w.atoms.length ≤ 1000
  omega
 | d + 1, at_, w, h4, hw, r, hr => by
  have h0 := hw.1
  have h1 := hw.2
  rw [Z3u] at hr
  rcases List.mem_append.1 hr with hr | hr
  ·obtain ⟨i, hi, hr⟩ := List.mem_flatMap.1 hr
   unfold Z5b at hr
   split at hr
   ·cases hr
   ·rename_i f hf
    have hfi := (hs at_ h4).2 f (List.mem_of_getElem? hf)
    split at hr
    ·cases hr
    ·rename_i x hx
     have hx := Zop hx
     have hd := Zks x hfi
     rw [hx.1, hx.2] at hd
     split at hr
     ·rename_i n hn
      have hb := Zl6 hn
      exact Zuy s hs d _ _ hb.2 ⟨by omega, by omega⟩ r hr
     ·rw [List.mem_singleton] at hr
      rw [hr]
      have := Zwb (wdo x f.Insts)
      show (Z3s (wdo x f.Insts)).atoms.length ≤ 1000
      omega
  ·rw [List.mem_singleton] at hr
   rw [hr]
   show w.atoms.length ≤ 1000
   omega
theorem Y5f (s : Switch) (hs : Z89 s) : ∀ r ∈ Z42 s, r.Atoms.length ≤ 1000 := Zuy s hs 4 0 way0 (by omega) ⟨by simp [way0], by simp [way0]⟩
theorem Yep {s : Switch} {many : Nat} (h : Zag s (many : Int) = true) : ∀ i, i < 4 → ∀ f ∈ Z0y s i, f.Insts.length ≤ 100000 ∧ f.Match.length ≤ 100000 := fun i hi f hf => by
 have := ((Zit h).1 i hi).2 f hf
 omega
end Go.Proofs.YtknpgojdkobgjaaGreat.W
namespace Go.Proofs.YtknpgojdkobgjaaGreat.W
open Go Go.Wb
def nb (t : Tern) : Nat := (Z5x t.Mask).length
def Zb6 (x : Cube) : Nat → Nat → Nat
 | 0, _ => 0
 | m + 1, f => nb (ve x f) + Zb6 x m (f + 1)
def Z8n (x : Cube) : Nat := Zb6 x 24 0
theorem Zzk (t : Tern) : nb t ≤ 128 := by
 unfold nb Z5x
 exact Nat.le_trans (List.length_filter_le ..) (by simp)
theorem Zte (x : Cube) : ∀ (m f : Nat), Zb6 x m f ≤ 128 * m
 | 0, _ => Nat.le_refl _
 | m + 1, f => by
  have h1 := Zte x m (f + 1)
  have h2 := Zzk (ve x f)
  rw [Zb6]; omega
theorem Yet (x : Cube) : Z8n x ≤ 3072 := Zte x 24 0
theorem Zqe (a : Wide) : ∀ (m i n : Nat), i ≤ 128 → 128 < i + m → n ≤ i → Z8v a m (n : Int) (i : Int) = some ((n + ((List.range' i (128 - i)).filter (wt a)).length : Nat) : Int)
 | 0, i, n, h1, h2, _ => by omega
 | m + 1, i, n, h1, h2, h3 => by
  rw [Z8v]
  by_cases hi : i < 128
  ·have e : 128 - i = (128 - (i + 1)) + 1 := by omega
   rw [decide_eq_true (by omega), cond_true, Y1c a i hi, Option.bind_some, inc i (by omega), e, List.range'_succ, List.filter_cons]
   cases wt a i
   ·rw [cond_false, Zqe a m (i + 1) n (by omega) (by omega) (by omega)]; rfl
   ·rw [cond_true, inc n (by omega), Zqe a m (i + 1) (n + 1) (by omega) (by omega) (by omega), if_pos rfl, List.length_cons]
    congr 2; omega
  ·have : i = 128 := by omega
   subst this
   rw [decide_eq_false (by omega), cond_false]; simp
theorem Y9d (t : Tern) : Zha t.Mask = some (nb t : Int) := by
 unfold Zha nb Z5x
 have := Zqe t.Mask (((128 : Int) - 0).toNat + 1) 0 0 (by omega) (by decide) (by omega)
 rw [Nat.zero_add, Nat.sub_zero, ← List.range_eq_range'] at this
 exact this
theorem Zx8 (x : Cube) : ∀ (m f n : Nat), f ≤ 24 → 24 < f + m → n ≤ 128 * f → Za7 x m (n : Int) (f : Int) = some ((n + Zb6 x (24 - f) f : Nat) : Int)
 | 0, f, n, h1, h2, _ => by omega
 | m + 1, f, n, h1, h2, h3 => by
  rw [Za7]
  by_cases hf : f < 24
  ·have e : 24 - f = (24 - (f + 1)) + 1 := by omega
   have hb := Zzk (ve x f)
   rw [decide_eq_true (by omega), cond_true, Z24 hf, Option.bind_some, Z2s, Y9d, Option.bind_some, inc f (by omega), Z2a (by omega) (by omega), show (n : Int) + (nb (ve x f) : Int) = ((n + nb (ve x f) : Nat) : Int) by omega, Zx8 x m (f + 1) _ (by omega) (by omega) (by omega), e, Zb6]
   congr 2; omega
  ·have : f = 24 := by omega
   subst this
   rw [decide_eq_false (by omega), cond_false]; simp [Zb6]
theorem Yc5 (x : Cube) : Zjn x = some (Z8n x : Int) := by
 unfold Zjn
 have := Zx8 x (((24 : Int) - 0).toNat + 1) 0 0 (by omega) (by decide) (by omega)
 rw [Nat.zero_add] at this
 exact this
def U : Int := 1099511627776
def Zbc : List Cube → Nat
 | [] => 1
 | x :: l => max (Z8n x) 1 * Zbc l
theorem Zp0 : ∀ l, 1 ≤ Zbc l
 | [] => Nat.le_refl _
 | x :: l => by
  rw [Zbc]
  exact Nat.le_trans (Zp0 l) (Nat.le_mul_of_pos_left _ (by omega))
def Y1y (l : List Cube) : Nat := (l.length + 1) * Zbc l
def Z7z (c : Cube) (l : List Cube) : List Cube := l.filter (Z4f c)
def Zxa (c : Cube) (l : List Cube) : Nat := Y1y (Z7z c l)
def Z51 (k : Nat) : Nat := min k 1099511627776
theorem Zxj (a b : Nat) : Z1i (a : Int) (b : Int) = ((max a b : Nat) : Int) := by
 unfold Z1i
 by_cases h : (b : Int) > (a : Int)
 ·rw [decide_eq_true h, cond_true]; omega
 ·rw [decide_eq_false h, cond_false]; omega
theorem Zz6 (a : Nat) : Z39 (a : Int) 1099511627776 = (Z51 a : Int) := by
 unfold Z39 Z51
 by_cases h : (1099511627776 : Int) < (a : Int)
 ·rw [decide_eq_true h, cond_true]; omega
 ·rw [decide_eq_false h, cond_false]; omega
theorem Zyw (a P : Nat) (hP : 1 ≤ P) : Z51 (Z51 a * P) = Z51 (a * P) := by
 unfold Z51
 by_cases h : a ≤ 1099511627776
 ·rw [Nat.min_eq_left h]
 ·have h1 : 1099511627776 * 1 ≤ 1099511627776 * P := Nat.mul_le_mul_left _ hP
  have h2 : 1099511627776 * P ≤ a * P := Nat.mul_le_mul_right _ (by omega)
  rw [Nat.min_eq_right (show 1099511627776 ≤ a by omega)]; omega
theorem Ybs (n : Nat) (x : Cube) (hn : n ≤ 1099511627776) : Z39 (IntKind.i64.wrap ((n : Int) * Z1i (Z8n x : Int) 1)) 1099511627776 = (Z51 (n * max (Z8n x) 1) : Int) := by
 have h1 := Yet x
 have h2 : Z1i (Z8n x : Int) 1 = ((max (Z8n x) 1 : Nat) : Int) := Zxj (Z8n x) 1
 have h3 : n * max (Z8n x) 1 ≤ 1099511627776 * 3072 := Nat.mul_le_mul hn (by omega)
 rw [h2, ← Int.natCast_mul, Z2a (by omega) (by omega), Zz6]
theorem Zz2 (n : Nat) : Z51 n ≤ 1099511627776 := Nat.min_le_right ..
theorem Ybv (c : Cube) (l : List Cube) : (Z7z c l).length ≤ l.length := List.length_filter_le ..
theorem Zq9 (l : List Cube) (c : Cube) (hl : l.length ≤ 1000000) : ∀ (m i : Nat) (acc : List Cube), i ≤ l.length → l.length < i + m → acc.length ≤ i → Z7v l c m acc (i : Int) = some (acc ++ Z7z c (l.drop i))
 | 0, i, acc, h1, h2, _ => by omega
 | m + 1, i, acc, h1, h2, h3 => by
  have hlim : lim = 4294967296 := rfl
  rw [Z7v]
  by_cases hi : i < l.length
  ·rw [decide_eq_true (by omega), cond_true, Z1m hi, Option.bind_some, Zt9, Option.bind_some, Zyc, Option.bind_some, inc i (by omega), List.drop_eq_getElem_cons hi]
   unfold Z7z
   rw [List.filter_cons]
   show (bif Z4f c l[i] then _ else _) = _
   cases Z4f c l[i]
   ·rw [cond_false, Zq9 l c hl m (i + 1) acc (by omega) (by omega) (by omega)]; rfl
   ·rw [cond_true, Z1h (by simp; omega), Option.bind_some, Zq9 l c hl m (i + 1) _ (by omega) (by omega) (by simp; omega)]
    simp [Z7z]
  ·rw [decide_eq_false (by omega), cond_false, List.drop_of_length_le (by omega)]
   simp [Z7z]
theorem Zrs (l : List Cube) (hl : l.length ≤ 1000000) : ∀ (m i n : Nat), i ≤ l.length → l.length < i + m → n ≤ 1099511627776 → Zax l m (n : Int) (i : Int) = some (Z51 (n * Zbc (l.drop i)) : Int)
 | 0, i, n, h1, h2, _ => by omega
 | m + 1, i, n, h1, h2, h3 => by
  rw [Zax]
  by_cases hi : i < l.length
  ·rw [decide_eq_true (by omega), cond_true, Z1m hi, Option.bind_some, Yc5, Option.bind_some, Ybs _ _ h3, inc i (by omega), Zrs l hl m (i + 1) _ (by omega) (by omega) (Zz2 _), Zyw _ _ (Zp0 _), List.drop_eq_getElem_cons hi, Zbc, Nat.mul_assoc]
  ·rw [decide_eq_false (by omega), cond_false, List.drop_of_length_le (by omega), Zbc, Nat.mul_one]
   unfold Z51
   rw [Nat.min_eq_left h3]
theorem Yay (c : Cube) (l : List Cube) (h : l.length ≤ 1000000) : Zhk c l = some (Z51 (Zxa c l) : Int) := by
 unfold Zhk Zkn
 have hl := Ybv c l
 have h1 := Zq9 l c h ((((l.length : Int) : Int) - 0).toNat + 1) 0 [] (by omega) (by omega) (by simp)
 rw [show ((0 : Nat) : Int) = 0 from rfl, List.drop_zero, List.nil_append] at h1
 have h2 := Zrs (Z7z c l) (by omega) (((((Z7z c l).length : Int) : Int) - 0).toNat + 1) 0 (Z51 ((Z7z c l).length + 1)) (by omega) (by omega) (Zz2 _)
 rw [show ((0 : Nat) : Int) = 0 from rfl, List.drop_zero] at h2
 rw [h1, Option.bind_some, inc _ (by omega), Zz6, h2, Zyw _ _ (Zp0 _)]; rfl
def Zlw (all : List Cube) : List Cube → Nat → Nat → Nat
 | [], _, n => n
 | x :: l, i, n => Zlw all l (i + 1) (max n (Z51 (Zxa x (all.take i))))
def Zsd (l : List Rule) : Nat := Zlw (l.map (·.Cube)) (l.map (·.Cube)) 0 0
theorem Zv2 (l : List Rule) (hl : l.length ≤ 1000000) : ∀ (m i n : Nat), i ≤ l.length → l.length < i + m → Zao l m (n : Int) (i : Int) = some (Zlw (l.map (·.Cube)) ((l.drop i).map (·.Cube)) i n : Int)
 | 0, i, n, h1, h2 => by omega
 | m + 1, i, n, h1, h2 => by
  rw [Zao]
  by_cases hi : i < l.length
  ·rw [decide_eq_true (by omega), cond_true, Z1m hi, Option.bind_some, Yfj _ _ (by omega), Option.bind_some, Ycd _ (by rw [List.length_take]; omega), Option.bind_some, Yay _ _ (by simp; omega), Option.bind_some, Zxj, inc i (by omega), Zv2 l hl m (i + 1) _ (by omega) (by omega), List.drop_eq_getElem_cons hi, List.map_cons, Zlw, List.map_take]
  ·rw [decide_eq_false (by omega), cond_false, List.drop_of_length_le (by omega)]; rfl
theorem Y9r (l : List Rule) (h : l.length ≤ 1000000) : Zhl l = some (Zsd l : Int) := by
 unfold Zhl
 exact Zv2 l h ((((l.length : Int) : Int) - 0).toNat + 1) 0 0 (by omega) (by omega)
theorem Ztd (k : Int) (hk : 0 ≤ k) {R : Cube → Int → Header × Bool × Int} : ∀ (ps : List Cube) (n : Int), (∀ p ∈ ps, ∀ m, 0 ≤ (R p m).2.2 → R p (m + k) = ((R p m).1, (R p m).2.1, (R p m).2.2 + k)) → 0 ≤ (Z2i R ps n).2.2 →
  Z2i R ps (n + k) = ((Z2i R ps n).1, (Z2i R ps n).2.1, (Z2i R ps n).2.2 + k)
 | [], n, _, _ => rfl
 | p :: ps, n, hR, h => by
  rw [Z2i] at h
  rw [Z2i, Z2i]
  cases hc : (R p n).2.1 || decide ((R p n).2.2 < 0)
  ·rw [hc, cond_false] at h
   rw [Bool.or_eq_false_iff, decide_eq_false_iff_not] at hc
   rw [hR p (by simp) n (by omega), cond_false]
   simp only [hc.1, Bool.false_or]
   rw [decide_eq_false (by omega), cond_false]
   exact Ztd k hk ps _ (fun q hq => hR q (by simp [hq])) h
  ·rw [hc, cond_true] at h
   rw [hR p (by simp) n h, cond_true]
   have : (R p n).2.1 = true := by
    rw [decide_eq_false (by omega), Bool.or_false] at hc; exact hc
   simp only [this, Bool.true_or, cond_true]
theorem Zt4 (k : Int) (hk : 0 ≤ k) : ∀ (d : Nat) (c : Cube) (l : List Cube) (n : Int), 0 ≤ (Z2x false d c l n).2.2 → Z2x false d c l (n + k) = ((Z2x false d c l n).1, (Z2x false d c l n).2.1, (Z2x false d c l n).2.2 + k)
 | 0, c, l, n, h => by simp [Z2x] at h
 | d + 1, c, l, n, h => by
  rw [Z2x] at h
  rw [Z2x, Z2x]
  by_cases h1 : n < 1
  ·rw [decide_eq_true h1] at h
   simp at h
  ·rw [decide_eq_false h1, Bool.and_false, cond_false] at h
   rw [decide_eq_false h1, decide_eq_false (show ¬ n + k < 1 by omega), Bool.and_false, cond_false, cond_false]
   have e : n + k - 1 = n - 1 + k := by omega
   cases h2 : l.any (Z5g c)
   ·rw [h2, cond_false] at h
    rw [cond_false, cond_false]
    cases h3 : Z4p c l 0 with
    | none => simp only [cond_false, e]
    | some i =>
     rw [h3] at h
     simp only at h
     simp only
     cases h4 : l[i]? with
     | none => rw [h4] at h; simp at h
     | some x =>
      rw [h4] at h
      simp only [cond_false] at h
      simp only [cond_false, e]
      exact Ztd k hk _ _ (fun p _ m => Zt4 k hk d p _ m) h
   ·simp only [cond_true, cond_false, e]
theorem Zwi {m : Int} (h : 0 ≤ m) : Z1i m 0 = m := by
 unfold Z1i
 rw [decide_eq_false (by omega)]; rfl
theorem Ztg (c : Cube) (l : List Cube) (most : Int) : (Z4l c l most).2.2 = 0 ∨ Z4l c l most = (Z3r, false, 5) := by
 unfold Z4l
 cases decide ((Zck c l most).2.2 < 0)
 ·exact .inl rfl
 ·exact .inr rfl
theorem Ybo {c : Cube} {l : List Cube} {most k : Int} (h0 : 0 ≤ most) (hk : 0 ≤ k) (hu : most + k < 1099511627776) (h : (Z4l c l most).2.2 = 0) : Z4l c l (most + k) = Z4l c l most := by
 have e0 : decide (most ≥ 1099511627776) = false := decide_eq_false (by omega)
 have e1 : decide (most + k ≥ 1099511627776) = false := decide_eq_false (by omega)
 unfold Z4l Zck at *
 rw [e0, Zwi h0] at h ⊢
 rw [e1, Zwi (by omega)]
 by_cases hn : (Z2x false (l.length + 1) c l most).2.2 < 0
 ·rw [decide_eq_true hn] at h; cases h
 ·rw [Zt4 k hk _ c l most (by omega), decide_eq_false hn, decide_eq_false (by simp only; omega)] <;> rfl
def Z4q (most : Int) : List Rule → List Rule → List Rule × Int
 | [], kept => (kept, 0)
 | r :: l, kept => bif decide ((Z4l r.Cube (kept.map (·.Cube)) most).2.2 ≠ 0) then ([], 5) else bif (Z4l r.Cube (kept.map (·.Cube)) most).2.1 then Z4q most l (kept ++ [r]) else Z4q most l kept
theorem Zxl (l : List Rule) (h : ∀ r ∈ l, r.Atoms.length ≤ 1000000) : ∀ (m i : Nat), i + m = l.length → Z6y m i l = some l
 | 0, i, _ => by rw [Z6y]
 | m + 1, i, hi => by
  have hlim : lim = 4294967296 := rfl
  have hlt : i < l.length := by omega
  have ha := h l[i] (List.getElem_mem hlt)
  have e : List.set l ((i : Int)).toNat { l[i] with Atoms := l[i].Atoms } = l := by
   rw [Int.toNat_natCast]; exact List.set_getElem_self hlt
  rw [Z6y, Z1m hlt, Option.bind_some]
  unfold Zc9
  rw [Z1h (by simp; omega), Option.bind_some, Option.bind_some, List.nil_append, e]
  exact Zxl l h m (i + 1) (by omega)
theorem Y8d (l : List Rule) (hl : l.length ≤ 1000000) (h : ∀ r ∈ l, r.Atoms.length ≤ 1000000) : Zhg l = some l := by
 have hlim : lim = 4294967296 := rfl
 unfold Zhg Zl3
 rw [Z1h (by simp; omega), Option.bind_some, List.nil_append, show ((l.length : Int)).toNat = l.length by omega]
 exact Zxl l h l.length 0 (by omega)
theorem Zoc (most : Int) (hm : most ≤ 9223372036854775807) : ∀ (l : List Rule) (i : Nat) (kept : List Rule), kept.length + l.length ≤ 1000000 → (∀ r ∈ kept, r.Atoms.length ≤ 1000000) → (∀ r ∈ l, r.Atoms.length ≤ 1000000) →
  Z60 most l i kept (kept.map (·.Cube)) = some (Z4q most l kept)
 | [], i, kept, h, h1, _ => by
  rw [Z60, Y8d kept (by simpa using h) h1]; rfl
 | r :: l, i, kept, h, h1, h2 => by
  have hlim : lim = 4294967296 := rfl
  simp only [List.length_cons] at h
  rw [Z60, Y74 _ _ _ hm (by simp; omega), Option.bind_some, Z4q]
  rcases Ztg r.Cube (kept.map (·.Cube)) most with he | he
  ·rw [he, decide_eq_false (by omega), cond_false, cond_false]
   cases (Z4l r.Cube (kept.map (·.Cube)) most).2.1
   ·exact Zoc most hm l (i + 1) kept (by omega) h1 fun q hq => h2 q (by simp [hq])
   ·rw [Bool.not_true, cond_false, cond_true, Z1h (by simp; omega), Option.bind_some, Z1h (by simp; omega), Option.bind_some]
    have := Zoc most hm l (i + 1) (kept ++ [r]) (by simp; omega) (fun q hq => by
     rcases List.mem_append.1 hq with hq | hq
     ·exact h1 q hq
     ·rw [List.mem_singleton.1 hq]; exact h2 r (by simp)) fun q hq => h2 q (by simp [hq])
    rw [List.map_append] at this
    exact this
  ·rw [he]; rfl
theorem Zh1 (most : Int) : ∀ (l kept : List Rule), (Z4q most l kept).2 = 0 ∨ Z4q most l kept = ([], 5)
 | [], kept => .inl rfl
 | r :: l, kept => by
  rw [Z4q]
  cases decide ((Z4l r.Cube (kept.map (·.Cube)) most).2.2 ≠ 0)
  ·cases (Z4l r.Cube (kept.map (·.Cube)) most).2.1
   ·exact Zh1 most l kept
   ·exact Zh1 most l _
  ·exact .inr rfl
theorem Zpp {most k : Int} (h0 : 0 ≤ most) (hk : 0 ≤ k) (hu : most + k < 1099511627776) : ∀ (l kept : List Rule), (Z4q most l kept).2 = 0 → Z4q (most + k) l kept = Z4q most l kept
 | [], kept, _ => rfl
 | r :: l, kept, h => by
  rw [Z4q] at h
  rw [Z4q, Z4q]
  rcases Ztg r.Cube (kept.map (·.Cube)) most with he | he
  ·rw [he, decide_eq_false (by omega), cond_false] at h
   rw [Ybo h0 hk hu he, he, decide_eq_false (by omega), cond_false, cond_false]
   cases hf : (Z4l r.Cube (kept.map (·.Cube)) most).2.1
   ·rw [hf] at h; exact Zpp h0 hk hu l kept h
   ·rw [hf] at h; exact Zpp h0 hk hu l _ h
  ·rw [he] at h; cases h
end Go.Proofs.YtknpgojdkobgjaaGreat.W
namespace Go.Proofs.YtknpgojdkobgjaaGreat.W
open Go Go.Wb
end Go.Proofs.YtknpgojdkobgjaaGreat.W
namespace Go.Proofs.YtknpgojdkobgjaaGreat.W
open Go Go.Wb
theorem Y2h {l : List Group} (h : Zat l) (i : Nat) : Zat (l.drop i) := ⟨by have := h.1; rw [List.length_drop]; omega, fun g hg => h.2 g (List.mem_of_mem_drop hg)⟩
theorem Zur (G : List Group) (hG : Zat G) : ∀ (l : List Group) (i : Nat) (acc : List Group), l = G.drop i → acc.length + l.length ≤ 1000 → Z78 G l i acc = some (acc ++ l)
 | [], i, acc, _, _ => by simp [Z78]
 | g :: l, i, acc, h, hl => by
  have hlim : lim = 4294967296 := rfl
  have hi : i < G.length := by
   have := congrArg List.length h
   simp at this; omega
  simp only [List.length_cons] at hl
  have h2 := h
  rw [List.drop_eq_getElem_cons hi] at h2
  obtain ⟨e1, e2⟩ := List.cons.inj h2
  have hf : Zm3 (G.drop i) g.ID = some g := by
   unfold Zm3
   rw [← h, List.find?_cons_of_pos (by simp)]
  rw [Z78, Zus _ _ (by omega), Option.bind_some, Y90 _ _ (Y2h hG i), hf, Option.bind_some]
  show (Z0w acc [g]).bind _ = _
  rw [Z1h (by simp; omega), Option.bind_some, Zur G hG l (i + 1) _ e2 (by simp; omega)]
  simp
theorem Yfb (G : List Group) (hG : Zat G) : Zhz G = some G := by
 unfold Zhz
 have h9 := hG.1
 exact Zur G hG G 0 [] rfl (by simp; omega)
structure SW (s : Switch) : Prop where
 lt : Z89 s
 G : Zat s.Groups
 I : ∀ i, i < 4 → ∀ f ∈ Z0y s i, f.Insts.length ≤ 100000 ∧ f.Match.length ≤ 100000
 most : Z4y s 4 0 ≤ 6561
theorem Zxs {s : Switch} {m : Nat} (h : Zag s (m : Int) = true) (hm : m ≤ 8) : SW s := ⟨Ydd h (by omega), (Zit h).2, Yep h, by
 have h1 := Y0z s 8 fun i hi => by have := ((Zit h).1 i hi).1; omega
 omega⟩
theorem SW.len {s : Switch} (h : SW s) : (Z42 s).length ≤ 6561 := Nat.le_trans (Zzi s) h.most
theorem SW.walk {s : Switch} (h : SW s) : Zcd s = some (Z42 s) := Y2q s h.lt (by have := h.most; have hlim : lim = 4294967296 := rfl; omega)
theorem SW.walkR {s : Switch} (h : SW s) : Ze8 s = some (Z42 s) := Y61 s h.lt h.I (by have := h.most; have hlim : lim = 4294967296 := rfl; omega)
def Z6s (s : Switch) (most : Int) : List Rule × Int := Z4q most (Z42 s) []
def Z76 (s : Switch) (most : Int) : Flat × Int := bif decide ((Z6s s most).2 ≠ 0) then (⟨[], []⟩, 5) else (⟨(Z6s s most).1, s.Groups⟩, 0)
theorem Yf4 (s : Switch) (h : SW s) (most : Int) (hm : most ≤ 9223372036854775807) : Zkj (Z42 s) most = some (Z6s s most) := by
 have h1 := h.len
 have h2 := Y5f s h.lt
 exact Zoc most hm (Z42 s) 0 [] (by simp; omega) (by simp) fun r hr => by have := h2 r hr; omega
theorem Zwc (s : Switch) (h : SW s) (most : Int) (hm : most ≤ 9223372036854775807) : Zas s most = some (Z76 s most) := by
 unfold Zas Z76
 rw [h.walk, Option.bind_some, Yf4 s h most hm, Option.bind_some]
 rcases Zh1 most (Z42 s) [] with he | he
 ·rw [show (Z6s s most).2 = 0 from he, decide_eq_false (by omega), cond_false, cond_false, Yfb _ h.G]; rfl
 ·rw [show Z6s s most = ([], 5) from he]; rfl
def Zvp (s : Switch) : Nat := Zsd (Z42 s)
theorem Y41 (s : Switch) (h : SW s) : Zfb s = some (Zvp s : Int) := by
 unfold Zfb
 rw [h.walkR, Option.bind_some, Y9r _ (by have := h.len; omega)]; rfl
def Zet (s : Switch) (most : Int) : Bool := Zag s 3 && (decide (most ≤ 1024) || decide ((Zvp s : Int) ≤ 4096))
theorem Ydm (s : Switch) (most : Int) : ((Zi8 s 3).bind fun x4 => (opt ((x4 == true) && ((decide (most ≤ 1024)) == false)) (Zfb s)).bind fun x5 => some (x4 && ((decide (most ≤ 1024)) || (decide (x5 ≤ 4096))))) = some (Zet s most) := by
 unfold Zet
 rw [Y04, Option.bind_some]
 cases hf : Zag s 3
 ·rfl
 ·rw [Y41 s (Zxs (m := 3) hf (by omega))]
  cases decide (most ≤ 1024) <;> rfl
theorem Y54 {s : Switch} {most : Int} (h : Zet s most = true) : SW s := by
 unfold Zet at h
 rw [Bool.and_eq_true] at h
 exact Zxs (m := 3) h.1 (by omega)
theorem Y5a (s : Switch) (most : Int) : Zme s most = some (Zet s most) := Ydm s most
set_option maxRecDepth 100000 in
theorem Y52 : Zec = some true := by decide +kernel
theorem Y2m {s : Switch} {most k : Int} (h0 : 0 ≤ most) (hk : 0 ≤ k) (hu : most + k < 1099511627776) (h : (Z76 s most).2 = 0) : Z76 s (most + k) = Z76 s most := by
 unfold Z76 at h ⊢
 rcases Zh1 most (Z42 s) [] with he | he
 ·rw [show Z6s s (most + k) = Z6s s most from Zpp h0 hk hu _ _ he]
 ·rw [show Z6s s most = ([], 5) from he] at h; cases h
theorem Y8m (s : Switch) (most more : Int) (h0 : 0 ≤ most) (h1 : most ≤ 65535) (h2 : 0 ≤ more) (h3 : more ≤ 65535) : Zei s most more = some true := by
 unfold Zei
 rw [Z2a (n := most) (by omega) (by omega), Z2a (n := more) (by omega) (by omega), Z2a (n := most + more) (by omega) (by omega), Y5a, Option.bind_some, Y52]
 cases hf : Zet s (most + more)
 ·rfl
 ·have h := Y54 hf
  rw [Bool.not_true, cond_false, Zwc s h most (by omega), Option.bind_some, Zwc s h (most + more) (by omega), Option.bind_some]
  rcases Zh1 most (Z42 s) [] with he | he
  ·have e2 : (Z76 s most).2 = 0 := by
    unfold Z76
    rw [show (Z6s s most).2 = 0 from he]; rfl
   rw [Y2m h0 h2 (by omega) e2, e2, decide_eq_false (by omega), cond_false, decide_eq_true rfl, Z47, Y9g, Ydb]; rfl
  ·have e2 : Z76 s most = (⟨[], []⟩, 5) := by
    unfold Z76
    rw [show Z6s s most = ([], 5) from he]; rfl
   rw [e2]; rfl
theorem Y5d {W : World} {H M H' M' : HS} {v v' : Value} (s : Switch) (most more : Int) (h : (rd (Z0 .u16) most).R W H M v) (h' : (rd (Z0 .u16) more).R W H' M' v') : Zei s most more = some true := Y8m s most more (Z0q h).2.1 (Z0q h).2.2 (Z0q h').2.1 (Z0q h').2.2
end Go.Proofs.YtknpgojdkobgjaaGreat.W
