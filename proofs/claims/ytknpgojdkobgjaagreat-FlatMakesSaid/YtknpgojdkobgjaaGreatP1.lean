/- A part of the proof. -/
import Derived.Test.YtknpgojdkobgjaaGreatP0
set_option linter.unusedVariables false
set_option linter.unusedSimpArgs false
namespace Go.Proofs.YtknpgojdkobgjaaGreat.W
open Go Go.Wb
def Zmn (t : List Flow) (i : Int) : Int := match t[i.toNat]? with
 | some f => f.Priority
 | none => 0
def ltP (t : List Flow) (i j : Int) : Bool := decide (Zmn t i > Zmn t j)
theorem Y1m (t : List Flow) : Swo (ltP t) where
 asym := fun a b h => by
  unfold ltP at *
  rw [decide_eq_true_eq] at h
  rw [decide_eq_false_iff_not]; omega
 neg := fun a b c h k => by
  unfold ltP at *
  rw [decide_eq_false_iff_not] at *; omega
def places (n : Nat) : List Int := (List.range n).map fun (i : Nat) => (i : Int)
theorem Zr1 {n : Nat} {i : Int} : i ∈ places n ↔ ∃ k : Nat, k < n ∧ i = (k : Int) := by
 unfold places
 simp only [List.mem_map, List.mem_range]
 exact ⟨fun ⟨k, h1, h2⟩ => ⟨k, h1, h2.symm⟩, fun ⟨k, h1, h2⟩ => ⟨k, h1, h2.symm⟩⟩
def Z5q (t : List Flow) : List Int := srt (ltP t) (places t.length)
theorem Zvy {t : List Flow} {i : Int} : i ∈ Z5q t ↔ ∃ k : Nat, k < t.length ∧ i = (k : Int) := by
 unfold Z5q
 rw [Y02 (Y1m t), Zr1]
theorem Zus (t : List Flow) : (Z5q t).length = t.length := by
 unfold Z5q
 rw [Z2t (Y1m t)]; simp [places]
theorem Znf {t : List Flow} {k : Nat} (h : k < t.length) : Zmn t (k : Int) = t[k].Priority := by
 unfold Zmn
 rw [Int.toNat_natCast, List.getElem?_eq_getElem h]
theorem Ydc (t : List Flow) : Zke (ltP t) (fun x z => Zfc x z t) (places t.length) := fun x hx y hy => by
 obtain ⟨i, hi, rfl⟩ := Zr1.1 hx
 obtain ⟨j, hj, rfl⟩ := Zr1.1 hy
 unfold Zfc ltP
 dsimp only
 rw [Z0z hi, Option.bind_some, Z0z hj, Option.bind_some, Znf hi, Znf hj, Option.bind_some, Option.bind_some]
 by_cases h1 : t[i].Priority > t[j].Priority
 ·rw [decide_eq_true h1, cond_true]; exact ⟨_, rfl, rfl⟩
 ·rw [decide_eq_false h1, cond_false]
  by_cases h2 : t[i].Priority < t[j].Priority
  ·rw [decide_eq_true h2, cond_true]; exact ⟨_, rfl, rfl⟩
  ·rw [decide_eq_false h2, cond_false]; exact ⟨_, rfl, rfl⟩
theorem Zws (t : List Flow) (ht : t.length < 20) : ∀ (m i : Nat), i + m = t.length → Zap t m i (places i) = some (Z5q t)
 | 0, i, h => by
  have : i = t.length := by omega
  subst this
  rw [Zap, Yby _ (Ydc t) (by simpa [places] using ht)]; rfl
 | m + 1, i, h => by
  have hlim : lim = 4294967296 := rfl
  have e : places i ++ [(i : Int)] = places (i + 1) := by unfold places; rw [List.range_succ, List.map_append]; rfl
  rw [Zap, Z1b (by simp [places]; omega), Option.bind_some, e]
  exact Zws t ht m (i + 1) (by omega)
theorem Yes (n : Nat) (h : n ≤ lim) : omk (n : Int) = some () := by
 unfold omk
 rw [decide_eq_false (by omega), decide_eq_false (by omega)]; rfl
theorem Yis (t : List Flow) (ht : t.length < 20) : Zh6 t = some (Z5q t) := by
 have hlim : lim = 4294967296 := rfl
 unfold Zh6
 rw [Yes _ (by omega), Option.bind_some, show ((t.length : Int)).toNat = t.length by omega]
 exact Zws t ht t.length 0 (by omega)
def Zr5 (w : walk_way) (l : List Action) : walk_way := { w with atoms := w.atoms ++ (doT l (Z0r w.got)).1, got := (doT l (Z0r w.got)).2 }
theorem Yfb {α : Type} (l : List α) : Z4m l (l.length : Int) = some l := by
 unfold Z4m
 simp [Nat.ble_eq_true_of_le (Nat.le_refl _)]
theorem Zkh (l : List Action) : Zru l ≤ l.length := List.countP_le_length
theorem Zz7 (w : walk_way) (l : List Action) (h : w.atoms.length + l.length ≤ 100000) : Zdc w l = some (Zr5 w l) := by
 have hlim : lim = 4294967296 := rfl
 have h1 := Zkh l
 unfold Zdc
 rw [Ygw l w.got (by omega), Option.bind_some, Yfb, Option.bind_some, Z1b (by rw [Zdj]; omega), Option.bind_some]; rfl
def Z6o (w : walk_way) (f : Flow) : Option walk_way := (Z63 w.got (Zdo f)).bind fun b => (Z5a b w.cube).map fun c => { w with cube := c }
theorem Yem (w : walk_way) (f : Flow) : ∃ z, Zil w f = some (Z24 z (Z6o w f)) := by
 unfold Zil Z6o
 rw [Yfz, Option.bind_some, Yf1, Option.bind_some]
 cases Z63 w.got (Zdo f) with
 | none => exact ⟨_, rfl⟩
 | some b =>
  show ∃ z, (Z7s b w.cube).bind _ = some (Z24 z ((Z5a b w.cube).map _))
  rw [Zms, Option.bind_some]
  cases Z5a b w.cube with
  | none => exact ⟨_, rfl⟩
  | some c => exact ⟨w, rfl⟩
def Z4f (w : walk_way) (l : List Inst) : walk_way := match ofI l 4 with
 | some i => Zr5 w i.Acts
 | none => w
def Z3t (w : walk_way) (l : List Inst) : walk_way := match ofI l 5 with
 | some _ => { w with set := [] }
 | none => w
def Z3d (w : walk_way) (l : List Inst) : walk_way := match ofI l 3 with
 | some i => { w with set := i.Acts.foldl wr1 w.set }
 | none => w
def Z39 (w : walk_way) (l : List Inst) : walk_way := match ofI l 2 with
 | some i => { w with got := Z8r w.got 1 i.Value i.Mask }
 | none => w
def wdo (w : walk_way) (l : List Inst) : walk_way := Z39 (Z3d (Z3t (Z4f w l) l) l) l
def Z2j (at_ : Nat) (l : List Inst) : Option Nat := match ofI l 1 with
 | some i => if i.Table > (at_ : Int) ∧ i.Table < 4 then some i.Table.toNat else none
 | none => none
theorem Zyd {at_ : Nat} {l : List Inst} {i : Inst} (h : ofI l 1 = some i) (hc : i.Table > (at_ : Int) ∧ i.Table < 4) : Z2j at_ l = some i.Table.toNat := by
 unfold Z2j; rw [h]; exact if_pos hc
theorem Zvo {at_ : Nat} {l : List Inst} {i : Inst} (h : ofI l 1 = some i) (hc : ¬ (i.Table > (at_ : Int) ∧ i.Table < 4)) : Z2j at_ l = none := by
 unfold Z2j; rw [h]; exact if_neg hc
theorem Y1v {at_ : Nat} {l : List Inst} (h : ofI l 1 = none) : Z2j at_ l = none := by
 unfold Z2j; rw [h]
theorem Zm2 {at_ n : Nat} {l : List Inst} (h : Z2j at_ l = some n) : at_ < n ∧ n < 4 := by
 unfold Z2j at h
 split at h
 ·split at h
  ·cases h; omega
  ·cases h
 ·cases h
def Z4b (w : walk_way) : walk_way := Zr5 w (Z7m w.set)
def Z6z (l : List Inst) : Prop := ∀ i ∈ l, i.Acts.length ≤ 12
theorem Zsu (w : walk_way) {l : List Inst} (hl : Z6z l) : (Z4f w l).atoms.length ≤ w.atoms.length + 12 ∧ (Z4f w l).set = w.set ∧ (Z4f w l).cube = w.cube := by
 unfold Z4f
 split
 ·rename_i i hi
  have h1 := hl i (Zev hi)
  have h2 := Zkh i.Acts
  refine ⟨?_, rfl, rfl⟩
  show (w.atoms ++ _).length ≤ _
  rw [List.length_append, Zdj]; omega
 ·exact ⟨by omega, rfl, rfl⟩
theorem Zif (w : walk_way) (l : List Inst) : (Z3t w l).atoms = w.atoms ∧ (Z3t w l).set.length ≤ w.set.length ∧ (Z3t w l).cube = w.cube := by
 unfold Z3t
 split
 ·exact ⟨rfl, by simp, rfl⟩
 ·exact ⟨rfl, by omega, rfl⟩
theorem Zhh (w : walk_way) {l : List Inst} (hl : Z6z l) : (Z3d w l).atoms = w.atoms ∧ (Z3d w l).set.length ≤ w.set.length + 12 ∧ (Z3d w l).cube = w.cube := by
 unfold Z3d
 split
 ·rename_i i hi
  have h1 := hl i (Zev hi)
  have h2 := Zzv i.Acts w.set
  exact ⟨rfl, by show (i.Acts.foldl wr1 w.set).length ≤ _; omega, rfl⟩
 ·exact ⟨rfl, by omega, rfl⟩
theorem Zpn (w : walk_way) (l : List Inst) : (Z39 w l).atoms = w.atoms ∧ (Z39 w l).set = w.set ∧ (Z39 w l).cube = w.cube := by
 unfold Z39
 split
 ·exact ⟨rfl, rfl, rfl⟩
 ·exact ⟨rfl, rfl, rfl⟩
theorem Znd (w : walk_way) {l : List Inst} (hl : Z6z l) : (wdo w l).atoms.length ≤ w.atoms.length + 12 ∧ (wdo w l).set.length ≤ w.set.length + 12 ∧ (wdo w l).cube = w.cube := by
 have h1 := Zsu w hl
 have h2 := Zif (Z4f w l) l
 have h3 := Zhh (Z3t (Z4f w l) l) hl
 have h4 := Zpn (Z3d (Z3t (Z4f w l) l) l) l
 unfold wdo
 refine ⟨?_, ?_, ?_⟩
 ·rw [h4.1, h3.1, h2.1]; exact h1.1
 ·rw [h4.2.1]
  have := h3.2.1
  have := h2.2.1
  rw [h1.2.1] at this
  omega
 ·rw [h4.2.2, h3.2.2, h2.2.2, h1.2.2]
theorem Ybs (w : walk_way) (at_ : Nat) (l : List Inst) (hl : Z6z l) (ha : w.atoms.length ≤ 1000) (hs : w.set.length ≤ 1000) :
  Ziq w (at_ : Int) l = some (match Z2j at_ l with | some n => (wdo w l, (n : Int), true) | none => (Z4b (wdo w l), 0, false)) := by
 have hlim : lim = 4294967296 := rfl
 have b1 := Zsu w hl
 have b2 := Zif (Z4f w l) l
 have b3 := Zhh (Z3t (Z4f w l) l) hl
 have b4 := Znd w hl
 have j4 : ∀ b : walk_way, b.atoms.length ≤ 2000 → b.set.length ≤ 2000 → Zfj l (at_ : Int) b = some (match Z2j at_ l with | some n => (b, (n : Int), true) | none => (Z4b b, 0, false)) := fun b h1 h2 => by
  unfold Zfj
  rw [Zhg l 1 hl, Option.bind_some]
  have hend : ((Zdw b.set).bind fun x12 => (Zdc b x12).bind fun x13 => some (x13, (0 : Int), false)) = some (Z4b b, 0, false) := by
   have := Zqz b.set
   rw [Y77 _ (by omega), Option.bind_some, Zz7 b _ (by omega)]; rfl
  cases hi : ofI l 1 with
  | none => rw [Y1v hi]; exact hend
  | some i =>
   show (bif ((true && decide (i.Table > (at_ : Int))) && decide (i.Table < 4)) then some (b, i.Table, true) else _) = _
   rw [Bool.true_and]
   by_cases hc : i.Table > (at_ : Int) ∧ i.Table < 4
   ·have hd : (decide (i.Table > (at_ : Int)) && decide (i.Table < 4)) = true := by
     rw [Bool.and_eq_true, decide_eq_true_eq, decide_eq_true_eq]; exact hc
    have : ((i.Table.toNat : Nat) : Int) = i.Table := by omega
    rw [Zyd hi hc, hd, cond_true]
    simp [this]
   ·have hd : (decide (i.Table > (at_ : Int)) && decide (i.Table < 4)) = false := by
     rw [Bool.and_eq_false_iff, decide_eq_false_iff_not, decide_eq_false_iff_not]; omega
    rw [Zvo hi hc, hd, cond_false]
    exact hend
 have j3 : ∀ b : walk_way, b.atoms.length ≤ 2000 → b.set.length ≤ 2000 → Zff l (at_ : Int) b = some (match Z2j at_ l with | some n => (Z39 b l, (n : Int), true) | none => (Z4b (Z39 b l), 0, false)) := fun b h1 h2 => by
  have b5 := Zpn b l
  unfold Zff
  rw [Zhg l 2 hl, Option.bind_some, ← j4 (Z39 b l) (by rw [b5.1]; omega) (by rw [b5.2.1]; omega)]
  unfold Z39
  cases hi : ofI l 2 with
  | none => rfl
  | some i =>
   simp only [Z24, cond_true]
   rw [Zjd]; rfl
 have j2 : ∀ b : walk_way, b.atoms.length ≤ 1500 → b.set.length ≤ 1500 → Zee l (at_ : Int) b = some (match Z2j at_ l with | some n => (Z39 (Z3d b l) l, (n : Int), true) | none => (Z4b (Z39 (Z3d b l) l), 0, false)) := fun b h1 h2 => by
  have b5 := Zhh b hl
  unfold Zee
  rw [Zhg l 3 hl, Option.bind_some, ← j3 (Z3d b l) (by rw [b5.1]; omega) (by have := b5.2.1; omega)]
  unfold Z3d
  cases hi : ofI l 3 with
  | none => rfl
  | some i =>
   have := hl i (Zev hi)
   simp only [Z24, cond_true]
   rw [Yb8 _ _ (by omega)]; rfl
 have j1 : ∀ b : walk_way, b.atoms.length ≤ 1500 → b.set.length ≤ 1500 → Zet l (at_ : Int) b = some (match Z2j at_ l with | some n => (Z39 (Z3d (Z3t b l) l) l, (n : Int), true) | none => (Z4b (Z39 (Z3d (Z3t b l) l) l), 0, false)) := fun b h1 h2 => by
  have b5 := Zif b l
  unfold Zet
  rw [Zhg l 5 hl, Option.bind_some, ← j2 (Z3t b l) (by rw [b5.1]; omega) (by have := b5.2.1; omega)]
  unfold Z3t
  cases hi : ofI l 5 with
  | none => rfl
  | some i => rfl
 unfold Ziq
 rw [Zhg l 4 hl, Option.bind_some]
 have := j1 (Z4f w l) (by omega) (by rw [b1.2.1]; omega)
 unfold wdo
 rw [← this]
 unfold Z4f
 cases hi : ofI l 4 with
 | none => rfl
 | some i =>
  have := hl i (Zev hi)
  simp only [Z24, cond_true]
  rw [Zz7 w _ (by omega)]; rfl
def Z10 (s : Switch) (i : Nat) : List Flow := if h : i < 4 then Vector.get s.Tables ⟨i, h⟩ else []
theorem Zig (s : Switch) (i : Nat) (h : i < 4) : Vector.get s.Tables ⟨i, h⟩ = Z10 s i := by unfold Z10; rw [dif_pos h]
def Z3w (w : walk_way) : Rule := ⟨w.cube, w.atoms⟩
def Z62 (R : Nat → walk_way → List Rule) (t : List Flow) (at_ : Nat) (w : walk_way) (i : Int) : List Rule := match t[i.toNat]? with
 | none => []
 | some f => match Z6o w f with
  | none => []
  | some x => match Z2j at_ f.Insts with
   | some n => R n (wdo x f.Insts)
   | none => [Z3w (Z4b (wdo x f.Insts))]
def Z4d (s : Switch) : Nat → Nat → walk_way → List Rule
 | 0, _, w => [Z3w w]
 | d + 1, at_, w => (Z5q (Z10 s at_)).flatMap (Z62 (Z4d s d) (Z10 s at_) at_ w) ++ [Z3w w]
def Zx2 (t : List Flow) : Prop := t.length < 20 ∧ ∀ f ∈ t, Z6z f.Insts
def Z8l (s : Switch) : Prop := ∀ i, i < 4 → Zx2 (Z10 s i)
def Z4k (at_ : Nat) (w : walk_way) : Prop := w.atoms.length ≤ 12 * at_ ∧ w.set.length ≤ 12 * at_
theorem Y0m (w : walk_way) (h : w.atoms.length ≤ 100000) : Zfs w = some (Z3w w) := by
 have hlim : lim = 4294967296 := rfl
 unfold Zfs Zbr
 rw [Z1b (by simp; omega)]; rfl
theorem Zso {w x : walk_way} {f : Flow} (h : Z6o w f = some x) : x.atoms = w.atoms ∧ x.set = w.set := by
 unfold Z6o at h
 obtain ⟨b, h1, h2⟩ := Option.bind_eq_some_iff.1 h
 obtain ⟨c, h3, h4⟩ := Option.map_eq_some_iff.1 h2
 subst h4
 exact ⟨rfl, rfl⟩
theorem Zv3 (w : walk_way) : (Z4b w).atoms.length ≤ w.atoms.length + w.set.length := by
 have h1 := Zqz w.set
 have h2 := Zkh (Z7m w.set)
 show (w.atoms ++ _).length ≤ _
 rw [List.length_append, Zdj]; omega
def goP {σ : Type} (r : Lp σ) : Bool × Lp σ := (r.isGo, r)
theorem Zug (sg : Type) (y : sg → Rule → Option (Lp sg)) (s : Switch) (at_ : Nat) (ha : at_ < 4) (hs : Zx2 (Z10 s at_)) (w : walk_way) (hw : Z4k at_ w) (R : Lp sg → Switch → Int → walk_way → Option (Bool × Lp sg)) (Rm : Nat → walk_way → List Rule)
  (hR : ∀ (n : Nat) (x : walk_way) (z : sg), at_ < n → n < 4 → Z4k n x → R (.go z) s (n : Int) x = (yf y (Rm n x) z).map goP) :
  ∀ (l : List Int) (i : Nat) (z : sg), (∀ j ∈ l, ∃ k : Nat, k < (Z10 s at_).length ∧ j = (k : Int)) → Z5t sg w y (at_ : Int) s R l i (.go z) = (yf y (l.flatMap (Z62 Rm (Z10 s at_) at_ w) ++ [Z3w w]) z).map goP
 | [], i, z, _ => by
  rw [Z5t, Y0m w (by have := hw.1; omega), Option.bind_some]
  show (y z (Z3w w)).bind _ = _
  rw [List.flatMap_nil, List.nil_append, yf]
  cases y z (Z3w w) with
  | none => rfl
  | some r => cases r <;> rfl
 | j :: l, i, z, hl => by
  obtain ⟨k, hk, rfl⟩ := hl j (by simp)
  have ih := fun z => Zug sg y s at_ ha hs w hw R Rm hR l (i + 1) z fun j hj => hl j (by simp [hj])
  have tail : ∀ (L : List Rule), ((yf y L z).map goP).bind (fun b24 => Zku sg (Z5t sg w y (at_ : Int) s R l) i b24.2 b24.1) = (yf y (L ++ (l.flatMap (Z62 Rm (Z10 s at_) at_ w) ++ [Z3w w])) z).map goP := fun L => by
   rw [Zst]
   cases yf y L z with
   | none => rfl
   | some r =>
    cases r with
    | out c q => rfl
    | go q => exact ih q
  rw [Z5t, Z22 ha, Option.bind_some, Zig, Z0z hk, Option.bind_some, List.flatMap_cons, List.append_assoc]
  have hf := hs.2 _ (List.getElem_mem hk)
  have hrule : Z62 Rm (Z10 s at_) at_ w (k : Int) = match Z6o w (Z10 s at_)[k] with
    | none => []
    | some x => match Z2j at_ (Z10 s at_)[k].Insts with
     | some n => Rm n (wdo x (Z10 s at_)[k].Insts)
     | none => [Z3w (Z4b (wdo x (Z10 s at_)[k].Insts))] := by
   unfold Z62
   rw [Int.toNat_natCast, List.getElem?_eq_getElem hk]
  obtain ⟨zz, hz⟩ := Yem w (Z10 s at_)[k]
  rw [hrule, hz, Option.bind_some]
  cases hm : Z6o w (Z10 s at_)[k] with
  | none => exact ih z
  | some x =>
   have hx := Zso hm
   have hwx : Z4k at_ x := by unfold Z4k; rw [hx.1, hx.2]; exact hw
   have hd := Znd x hf
   simp only [Z24, Bool.not_true, cond_false]
   rw [Ybs x at_ _ hf (by have := hwx.1; omega) (by have := hwx.2; omega), Option.bind_some]
   cases hn : Z2j at_ (Z10 s at_)[k].Insts with
   | some n =>
    have hnb := Zm2 hn
    simp only [cond_true]
    rw [hR n _ z hnb.1 hnb.2 ⟨by have := hwx.1; have := hd.1; omega, by have := hwx.2; have := hd.2.1; omega⟩]
    exact tail _
   | none =>
    simp only [cond_false]
    have he := Zv3 (wdo x (Z10 s at_)[k].Insts)
    rw [Y0m _ (by have := hwx.1; have := hwx.2; have := hd.1; have := hd.2.1; omega), Option.bind_some, ← tail]
    show (y z (Z3w _)).bind _ = _
    rw [yf]
    cases y z (Z3w (Z4b (wdo x (Z10 s at_)[k].Insts))) with
    | none => rfl
    | some r => cases r <;> rfl
theorem Y2i (sg : Type) (y : sg → Rule → Option (Lp sg)) (s : Switch) (hs : Z8l s) : ∀ (d f at_ : Nat) (w : walk_way) (z : sg), 4 ≤ at_ + d → at_ < 4 → d ≤ f → Z4k at_ w →
  Zbi sg y f (.go z) s (at_ : Int) w = (yf y (Z4d s d at_ w) z).map goP
 | 0, f, at_, w, z, h0, h1, _, _ => by omega
 | d + 1, 0, at_, w, z, _, _, h2, _ => by omega
 | d + 1, f + 1, at_, w, z, h1, ha, h2, hw => by
  have hl := hs at_ ha
  show Zki sg y (Zbi sg y f) (.go z) s (at_ : Int) w = _
  unfold Zki
  rw [Z22 ha, Option.bind_some, Zig, Yis _ hl.1, Option.bind_some, Z4d]
  exact Zug sg y s at_ ha hl w hw _ (Z4d s d) (fun n x q h3 h4 h5 => Y2i sg y s hs d f n x q (by omega) h4 (by omega) h5) _ 0 z fun j hj => Zvy.1 hj
def way0 : walk_way := ⟨Z2f, Z2f, [], []⟩
def Z3i (s : Switch) : List Rule := Z4d s 4 0 way0
theorem Yas (sg : Type) (y : sg → Rule → Option (Lp sg)) (s : Switch) (hs : Z8l s) (z : sg) : Zav sg y (.go z) s = yf y (Z3i s) z := by
 unfold Zav Ze0 Zgm Zt7
 rw [Option.bind_some, Option.bind_some]
 have := Y2i sg y s hs 4 Z0w 0 way0 z (by omega) (by omega) (by unfold Z0w; omega) ⟨by simp [way0], by simp [way0]⟩
 show (Zbi sg y Z0w (.go z) s ((0 : Nat) : Int) way0).bind _ = _
 rw [this]
 show _ = yf y (Z4d s 4 0 way0) z
 cases yf y (Z4d s 4 0 way0) z <;> rfl
def Z58 (s : Switch) : Nat → Nat → Nat
 | 0, _ => 1
 | d + 1, at_ => ((Z10 s at_).length + 1) * Z58 s d (at_ + 1)
theorem Y05 (s : Switch) : ∀ (d at_ : Nat), 1 ≤ Z58 s d at_
 | 0, _ => Nat.le_refl _
 | d + 1, at_ => Nat.le_trans (Y05 s d (at_ + 1)) (Nat.le_mul_of_pos_left _ (by omega))
theorem Zqr (s : Switch) : ∀ (d at_ n : Nat), at_ + d = 4 → at_ ≤ n → n ≤ 4 → Z58 s (4 - n) n ≤ Z58 s d at_
 | 0, at_, n, h1, h2, h3 => by
  have : n = 4 := by omega
  subst this
  exact Nat.le_refl _
 | d + 1, at_, n, h1, h2, h3 => by
  by_cases e : n = at_
  ·subst e
   have : 4 - n = d + 1 := by omega
   rw [this]; exact Nat.le_refl _
  ·rw [Z58]
   exact Nat.le_trans (Zqr s d (at_ + 1) n (by omega) (by omega) h3) (Nat.le_mul_of_pos_left _ (by omega))
theorem Zx5 {α β : Type} (f : α → List β) (k : Nat) : ∀ l : List α, (∀ x ∈ l, (f x).length ≤ k) → (l.flatMap f).length ≤ l.length * k
 | [], _ => by simp
 | x :: l, h => by
  rw [List.flatMap_cons, List.length_append, List.length_cons, Nat.add_mul, Nat.one_mul]
  have h1 := h x (by simp)
  have h2 := Zx5 f k l fun y hy => h y (by simp [hy])
  omega
theorem Zpz (s : Switch) : ∀ (d at_ : Nat) (w : walk_way), 4 ≤ at_ + d → at_ < 4 → (Z4d s d at_ w).length ≤ Z58 s (4 - at_) at_
 | 0, at_, w, h, h' => by omega
 | d + 1, at_, w, h, h' => by
  have e : 4 - at_ = (4 - (at_ + 1)) + 1 := by omega
  rw [Z4d, List.length_append, List.length_singleton, e, Z58, Nat.add_mul, Nat.one_mul]
  have h1 := Y05 s (4 - (at_ + 1)) (at_ + 1)
  have h2 := Zx5 (Z62 (Z4d s d) (Z10 s at_) at_ w) (Z58 s (4 - (at_ + 1)) (at_ + 1)) (Z5q (Z10 s at_)) fun i hi => by
   unfold Z62
   split
   ·simp
   ·split
    ·simp
    ·split
     ·rename_i n hn
      have hb := Zm2 hn
      refine Nat.le_trans (Zpz s d n _ (by omega) hb.2) ?_
      exact Zqr s (4 - (at_ + 1)) (at_ + 1) n (by omega) (by omega) (by omega)
     ·simpa using h1
  rw [Zus] at h2
  omega
theorem Zv5 (s : Switch) : (Z3i s).length ≤ Z58 s 4 0 := Zpz s 4 0 way0 (by omega) (by omega)
theorem Yg4 (s : Switch) (hs : Z8l s) (h : Z58 s 4 0 ≤ lim) : Zch s = some (Z3i s) := by
 unfold Zch Zm7 Zpb Zly
 rw [Option.bind_some, Y87 (Z3i s) _ (fun y z => Yas _ y s hs z) (Nat.le_trans (Zv5 s) h)]
 rfl
end Go.Proofs.YtknpgojdkobgjaaGreat.W
namespace Go.Proofs.YtknpgojdkobgjaaGreat.W
open Go Go.Wb
def Zl0 (l : List Inst) : Bool := decide ((l.length : Int) ≤ 8) && !(l.any fun i => !decide ((i.Acts.length : Int) ≤ 12))
theorem Ybl (s : List Inst) (f : Inst → Option Bool) (p : Inst → Bool) (hf : ∀ x ∈ s, f x = some (p x)) : Zjm s f = some (s.any p) := by
 unfold Zjm; rw [Zty s f p hf, Option.bind_some, Zdq]
theorem Y8m (l : List Inst) : Zj4 l = some (Zl0 l) := by
 unfold Zj4 Zl0
 rw [Ybl l Zp8 (fun i => !decide ((i.Acts.length : Int) ≤ 12)) (fun x _ => rfl)]
 cases decide ((l.length : Int) ≤ 8) <;> rfl
def Zeg (f : Flow) : Bool := decide ((f.Match.length : Int) ≤ 30) && Zl0 f.Insts
theorem Ydv (f : Flow) : Zid f = some (Zeg f) := by
 unfold Zid Zeg
 rw [Y8m]
 cases decide ((f.Match.length : Int) ≤ 30) <;> rfl
theorem Yk0 (s : List Flow) (f : Flow → Option Bool) (p : Flow → Bool) (hf : ∀ x ∈ s, f x = some (p x)) : Zii s f = some (Z0c p s) := by
 unfold Zii
 rw [show ((s.length : Int)).toNat = s.length by omega]
 exact Zfb p (fun i => by rw [Zcu]) (fun m i => by rw [Zcu]) hf
theorem Yd7 (s : List Flow) (f : Flow → Option Bool) (p : Flow → Bool) (hf : ∀ x ∈ s, f x = some (p x)) : Zhx s f = some (s.any p) := by
 unfold Zhx; rw [Yk0 s f p hf, Option.bind_some, Zdq]
def Zb4 (t : List Flow) (many : Int) : Bool := decide ((t.length : Int) ≤ many) && !(t.any fun f => !Zeg f)
theorem Yjm (t : List Flow) (many : Int) : Zi7 t many = some (Zb4 t many) := by
 unfold Zi7 Zb4
 rw [Yd7 t Zjf (fun f => !Zeg f) (fun f _ => by unfold Zjf; rw [Ydv]; rfl)]
 cases decide ((t.length : Int) ≤ many) <;> rfl
def Z95 (s : Switch) (many : Int) : Bool := (Vector.toList s.Tables).all (fun t => Zb4 t many) && Zg6 s.Groups 9 3
theorem Zw2 (s : Switch) (many : Int) : ∀ (l : List (List Flow)) (i : Nat), Z9x s many l i = some (l.all (fun t => Zb4 t many) && Zg6 s.Groups 9 3)
 | [], i => by rw [Z9x, Y7z]; rfl
 | t :: l, i => by
  rw [Z9x, Yjm, Option.bind_some, Zw2 s many l (i + 1), List.all_cons]
  cases Zb4 t many <;> rfl
theorem Yf7 (s : Switch) (many : Int) : Zle s many = some (Z95 s many) := Zw2 s many _ 0
theorem Y37 (s : Switch) (i : Nat) (h : i < 4) : Z10 s i = (Vector.toList s.Tables)[i]'(by simp; exact h) := by
 rw [← Zig s i h, Vector.getElem_toList]; rfl
theorem Ydz (s : Switch) (i : Nat) (h : i < 4) : Z10 s i ∈ Vector.toList s.Tables := by
 rw [Y37 s i h]; exact List.getElem_mem _
theorem Yi1 {l : List Inst} (h : Zl0 l = true) : l.length ≤ 8 ∧ Z6z l := by
 unfold Zl0 at h
 simp only [Bool.and_eq_true, decide_eq_true_eq, Bool.not_eq_true', List.any_eq_false] at h
 refine ⟨by omega, fun i hi => ?_⟩
 have h1 : decide ((i.Acts.length : Int) ≤ 12) = true := by simpa using h.2 i hi
 rw [decide_eq_true_eq] at h1
 omega
theorem Y8j {f : Flow} (h : Zeg f = true) : f.Match.length ≤ 30 ∧ f.Insts.length ≤ 8 ∧ Z6z f.Insts := by
 unfold Zeg at h
 rw [Bool.and_eq_true, decide_eq_true_eq] at h
 exact ⟨by omega, Yi1 h.2⟩
theorem Yai {t : List Flow} {many : Nat} (h : Zb4 t (many : Int) = true) : t.length ≤ many ∧ ∀ f ∈ t, f.Match.length ≤ 30 ∧ f.Insts.length ≤ 8 ∧ Z6z f.Insts := by
 unfold Zb4 at h
 simp only [Bool.and_eq_true, decide_eq_true_eq, Bool.not_eq_true', List.any_eq_false] at h
 exact ⟨by omega, fun f hf => Y8j (by simpa using h.2 f hf)⟩
theorem Zjj {s : Switch} {many : Nat} (h : Z95 s (many : Int) = true) : (∀ i, i < 4 → (Z10 s i).length ≤ many ∧ ∀ f ∈ Z10 s i, f.Match.length ≤ 30 ∧ f.Insts.length ≤ 8 ∧ Z6z f.Insts) ∧ Z6x s.Groups := by
 unfold Z95 at h
 rw [Bool.and_eq_true, List.all_eq_true] at h
 exact ⟨fun i hi => Yai (h.1 _ (Ydz s i hi)), Y5l h.2⟩
theorem Y3j {s : Switch} {many : Nat} (h : Z95 s (many : Int) = true) (hm : many < 20) : Z8l s := fun i hi => ⟨by have := ((Zjj h).1 i hi).1; omega, fun f hf => (((Zjj h).1 i hi).2 f hf).2.2⟩
theorem Yhv (s : Switch) (m : Nat) (h : ∀ i, i < 4 → (Z10 s i).length ≤ m) : Z58 s 4 0 ≤ (m + 1) * ((m + 1) * ((m + 1) * ((m + 1) * 1))) := by
 show ((Z10 s 0).length + 1) * (((Z10 s 1).length + 1) * (((Z10 s 2).length + 1) * (((Z10 s 3).length + 1) * 1))) ≤ _
 have h0 := h 0 (by omega)
 have h1 := h 1 (by omega)
 have h2 := h 2 (by omega)
 have h3 := h 3 (by omega)
 exact Nat.mul_le_mul (by omega) (Nat.mul_le_mul (by omega) (Nat.mul_le_mul (by omega) (Nat.mul_le_mul (by omega) (Nat.le_refl _))))
end Go.Proofs.YtknpgojdkobgjaaGreat.W
namespace Go.Proofs.YtknpgojdkobgjaaGreat.W
open Go Go.Wb
theorem Y1u (l : List Oxm) (hl : l.length ≤ 100000) : ∀ (m i : Nat) (c : Cube), i ≤ l.length → l.length < i + m → Zak l m c (i : Int) = some ((l.drop i).foldl Zbq c)
 | 0, i, c, h1, h2 => by omega
 | m + 1, i, c, h1, h2 => by
  rw [Zak]
  by_cases hi : i < l.length
  ·have ih := fun c => Y1u l hl m (i + 1) c (by omega) (by omega)
   rw [decide_eq_true (by omega), cond_true, Z0z hi, Option.bind_some, inc i (by omega), List.drop_eq_getElem_cons hi, List.foldl_cons]
   unfold Z9k
   rw [Option.bind_some]
   by_cases h : 0 ≤ l[i].Field ∧ l[i].Field < 24
   ·obtain ⟨n, hn⟩ : ∃ n : Nat, l[i].Field = (n : Int) := ⟨l[i].Field.toNat, by omega⟩
    have hn24 : n < 24 := by have := h.2; omega
    have hd : (decide (l[i].Field ≥ 0) && decide (l[i].Field < 24)) = true := by simp; omega
    have hc : chk 24 l[i].Field = some ⟨n, hn24⟩ := by rw [hn]; exact Z22 hn24
    rw [hd, cond_true, Option.bind_some, Option.bind_some, Zw1, Option.bind_some, hc, Option.bind_some, Y22 c l[i] n hn hn24]
    exact ih _
   ·have hd : (decide (l[i].Field ≥ 0) && decide (l[i].Field < 24)) = false := by
     rw [Bool.and_eq_false_iff, decide_eq_false_iff_not, decide_eq_false_iff_not]; omega
    rw [hd, cond_false, Zxk c l[i] h]
    exact ih _
  ·rw [decide_eq_false (by omega), cond_false, List.drop_of_length_le (by omega)]; rfl
theorem Y3i (f : Flow) (hl : f.Match.length ≤ 100000) : Ziv f = some (Zdo f) := by
 unfold Ziv Zm1
 have := Y1u f.Match hl ((((f.Match.length : Int) : Int) - 0).toNat + 1) 0 Z2f (by omega) (by omega)
 rw [show ((0 : Nat) : Int) = 0 from rfl, List.drop_zero] at this
 show ((Zak f.Match ((((f.Match.length : Int) : Int) - 0).toNat + 1) Z2f 0).bind _) = _
 rw [this, Option.bind_some, Zp4]; rfl
def inT (t : List Flow) (l : List Int) : Prop := ∀ j ∈ l, ∃ k : Nat, k < t.length ∧ j = (k : Int)
theorem Zrp (i : Nat) (hi : i ≤ 50) (go : List Int → Int → Option (List Int)) (A : List Int) (hA : A.length ≤ 50) : ∀ (Br S : List Int) (c : Int) (m : Nat), Br.length < m → Br.length ≤ 50 →
  Zb7 (A.length : Int) go (i : Int) m (A ++ (Br.reverse ++ c :: S)) ((A.length + Br.length : Nat) : Int) = go (A ++ (i : Int) :: (Br.reverse ++ S)) ((i + 1 : Nat) : Int)
 | [], S, c, m, hm, _ => by
  obtain ⟨m, rfl⟩ : ∃ k, m = k + 1 := ⟨m - 1, by simp at hm; omega⟩
  have g0 : lget (A ++ c :: S) (A.length : Int) = some c := by
   rw [Z6k, List.getElem?_append_right (Nat.le_refl _)]; simp
  have s0 : List.set (A ++ c :: S) ((A.length : Int)).toNat (i : Int) = A ++ (i : Int) :: S := by
   rw [Int.toNat_natCast, List.set_append_right _ _ (Nat.le_refl _)]; simp
  rw [Zb7, decide_eq_false (by simp), cond_false]
  simp only [List.reverse_nil, List.nil_append]
  rw [g0, Option.bind_some, s0, inc i (by omega)]
 | b :: Br, S, c, m, hm, hb => by
  simp only [List.length_cons] at hm hb
  obtain ⟨m, rfl⟩ : ∃ k, m = k + 1 := ⟨m - 1, by omega⟩
  have e0 : A ++ ((b :: Br).reverse ++ c :: S) = (A ++ Br.reverse) ++ b :: c :: S := by simp
  have ej : IntKind.i64.wrap (((A.length + (b :: Br).length : Nat) : Int) - 1) = ((A.length + Br.length : Nat) : Int) := by rw [Z2g (by simp only [List.length_cons]; omega) (by simp only [List.length_cons]; omega)]; simp only [List.length_cons]; omega
  have hlen : (A ++ Br.reverse).length = A.length + Br.length := by simp
  have g0 : lget ((A ++ Br.reverse) ++ b :: c :: S) ((A.length + Br.length : Nat) : Int) = some b := by
   rw [Z6k, List.getElem?_append_right (by omega), hlen, Nat.sub_self]; rfl
  have g1 : lget ((A ++ Br.reverse) ++ b :: c :: S) ((A.length + (b :: Br).length : Nat) : Int) = some c := by
   rw [Z6k, List.getElem?_append_right (by simp only [List.length_cons]; omega), hlen]
   have : A.length + (b :: Br).length - (A.length + Br.length) = 1 := by simp only [List.length_cons]; omega
   rw [this]; rfl
  have s1 : List.set ((A ++ Br.reverse) ++ b :: c :: S) (((A.length + (b :: Br).length : Nat) : Int)).toNat b = A ++ (Br.reverse ++ b :: b :: S) := by
   rw [Int.toNat_natCast, List.set_append_right _ _ (by simp only [List.length_cons]; omega), hlen]
   have : A.length + (b :: Br).length - (A.length + Br.length) = 1 := by simp only [List.length_cons]; omega
   rw [this]; simp
  rw [e0, Zb7, decide_eq_true (by simp only [List.length_cons]; omega), cond_true, ej, g0, Option.bind_some, g1, Option.bind_some, s1, Zrp i hi go A hA Br (b :: S) b m (by omega) (by omega)]
  simp
theorem Zw9 (t : List Flow) (ht : t.length ≤ 50) (i : Nat) (hi : i < t.length) (go : List Int → Int → Option (List Int)) : ∀ (Ar B : List Int) (m : Nat), Ar.length < m → Ar.length + B.length ≤ 50 → inT t Ar →
  Zcd (Ar.reverse ++ B) t (i : Int) go m (Ar.length : Int) = go ((Z0q (ltP t) (i : Int) Ar).reverse ++ B) ((i + 1 : Nat) : Int)
 | [], B, m, hm, hb, _ => by
  have hlim : lim = 4294967296 := rfl
  obtain ⟨m, rfl⟩ : ∃ k, m = k + 1 := ⟨m - 1, by simp at hm; omega⟩
  simp only [List.length_nil, Nat.zero_add] at hb
  rw [Zcd, show decide ((([] : List Int).length : Int) > 0) = false from rfl]
  simp only [Zl9, Option.bind_some, Bool.false_and, cond_false, List.reverse_nil, List.nil_append]
  rw [Z1b (by simp; omega), Option.bind_some]
  have e1 : IntKind.i64.wrap (((B ++ [(0 : Int)]).length : Int) - 1) = ((([] : List Int).length + B.reverse.length : Nat) : Int) := by rw [Z2g (by simp <;> omega) (by simp <;> omega)]; simp
  have := Zrp i (by omega) go [] (by simp) B.reverse [] (0 : Int) ((((([] : List Int).length + B.reverse.length : Nat) : Int) - (([] : List Int).length : Int)).toNat + 1) (by simp <;> omega) (by simp <;> omega)
  simp only [List.nil_append, List.reverse_reverse, List.append_nil] at this
  rw [e1]
  refine Eq.trans this ?_
  simp [Z0q]
 | y :: Ar, B, m, hm, hb, hR => by
  have hlim : lim = 4294967296 := rfl
  obtain ⟨k, hk, rfl⟩ := hR y (by simp)
  simp only [List.length_cons] at hm hb
  obtain ⟨m, rfl⟩ : ∃ k, m = k + 1 := ⟨m - 1, by omega⟩
  have ej : IntKind.i64.wrap ((((k : Int) :: Ar).length : Int) - 1) = (Ar.length : Int) := by rw [Z2g (by simp only [List.length_cons]; omega) (by simp only [List.length_cons]; omega)]; simp only [List.length_cons]; omega
  have e0 : ((k : Int) :: Ar).reverse ++ B = Ar.reverse ++ (k : Int) :: B := by simp
  have g0 : lget (Ar.reverse ++ (k : Int) :: B) (Ar.length : Int) = some (k : Int) := by
   rw [Z6k, List.getElem?_append_right (by simp)]; simp
  have elt : decide (t[k].Priority < t[i].Priority) = ltP t (i : Int) (k : Int) := by
   unfold ltP
   rw [Znf hi, Znf hk]
  rw [Zcd, decide_eq_true (by simp only [List.length_cons]; omega), Z2x, ej, e0, g0, Option.bind_some, Z2x, Z0z hk, Option.bind_some, Z2x, Z0z hi, Option.bind_some, Bool.true_and, Z0q, elt]
  cases ltP t (i : Int) (k : Int)
  ·rw [cond_false, cond_false, Z1b (by simp; omega), Option.bind_some]
   have e1 : IntKind.i64.wrap (((Ar.reverse ++ (k : Int) :: B ++ [(0 : Int)]).length : Int) - 1) = ((((k : Int) :: Ar).reverse.length + B.reverse.length : Nat) : Int) := by rw [Z2g (by simp; omega) (by simp; omega)]; simp; omega
   have := Zrp i (by omega) go ((k : Int) :: Ar).reverse (by simp; omega) B.reverse [] (0 : Int) ((((((k : Int) :: Ar).reverse.length + B.reverse.length : Nat) : Int) - (((k : Int) :: Ar).length : Int)).toNat + 1) (by simp; omega) (by simp; omega)
   simp only [List.reverse_reverse, List.append_nil] at this
   rw [e1]
   have e2 : Ar.reverse ++ (k : Int) :: B ++ [(0 : Int)] = ((k : Int) :: Ar).reverse ++ (B ++ [(0 : Int)]) := by simp
   have e3 : ((((k : Int) :: Ar).length : Int)) = ((((k : Int) :: Ar).reverse.length : Nat) : Int) := by simp
   rw [e2]
   rw [e3] at this ⊢
   refine Eq.trans this ?_
   simp
  ·rw [cond_true, cond_true, Zw9 t ht i hi go Ar ((k : Int) :: B) m (by omega) (by simp only [List.length_cons]; omega) fun j hj => hR j (by simp [hj])]
   simp
theorem Y4j (n i : Nat) (h : i < n) : (places n).drop i = (i : Int) :: (places n).drop (i + 1) := by
 have hl : i < (places n).length := by simp [places]; exact h
 rw [List.drop_eq_getElem_cons hl]
 congr 1
 simp [places]
theorem Zzx (t : List Flow) (hl : t.length ≤ 50) : ∀ (m i : Nat) (R : List Int), i ≤ t.length → t.length < i + m → R.length ≤ i → inT t R → Z8j t m R.reverse (i : Int) = some ((((places t.length).drop i).foldl (fun R x => Z0q (ltP t) x R) R).reverse)
 | 0, i, R, h1, h2, h3, _ => by omega
 | m + 1, i, R, h1, h2, h3, hR => by
  rw [Z8j]
  by_cases hi : i < t.length
  ·have h4 := Zw9 t hl i hi (Z8j t m) R [] Z0w (by unfold Z0w; omega) (by simp; omega) hR
   rw [List.append_nil, List.append_nil] at h4
   have e : ((R.reverse).length : Int) = (R.length : Int) := by simp
   rw [decide_eq_true (by omega), cond_true, e, h4, Zzx t hl m (i + 1) _ (by omega) (by omega) (by rw [Zxh]; omega) (fun j hj => by
    rcases List.mem_cons.1 ((Zhz (ltP t) (i : Int) R).mem_iff.1 hj) with rfl | hj
    ·exact ⟨i, hi, rfl⟩
    ·exact hR j hj), Y4j _ _ hi, List.foldl_cons]
  ·rw [decide_eq_false (by omega), cond_false, List.drop_of_length_le (by simp [places]; omega)]; rfl
theorem Y58 (t : List Flow) (hl : t.length ≤ 50) : Zhe t = some (Z5q t) := by
 unfold Zhe Z5q srt
 have := Zzx t hl ((((t.length : Int) : Int) - 0).toNat + 1) 0 [] (by omega) (by omega) (by simp) (by intro j hj; simp at hj)
 rw [show ((0 : Nat) : Int) = 0 from rfl, List.drop_zero] at this
 exact this
def Y2o (t : List Flow) : Prop := ∀ f ∈ t, f.Match.length ≤ 100000
theorem Y07 (l : List Inst) (k : Int) (hl : l.length ≤ 100000) : ∀ (m i : Nat), i ≤ l.length → l.length < i + m → Zf6 l k m (i : Int) = some (Z24 Zq7 (ofI (l.drop i) k))
 | 0, i, h1, h2 => by omega
 | m + 1, i, h1, h2 => by
  rw [Zf6]
  by_cases hi : i < l.length
  ·rw [decide_eq_true (by omega), cond_true, Z0z hi, Option.bind_some, List.drop_eq_getElem_cons hi, inc i (by omega), Y07 l k hl m (i + 1) (by omega) (by omega)]
   unfold ofI
   rw [List.find?_cons]
   cases decide (l[i].Kind = k) <;> rfl
  ·rw [decide_eq_false (by omega), cond_false, List.drop_of_length_le (by omega)]; rfl
theorem Zj6 (l : List Inst) (k : Int) (hl : l.length ≤ 100000) : Z8e l k = some (Z24 Zq7 (ofI l k)) := by
 unfold Z8e
 have := Y07 l k hl ((((l.length : Int) : Int) - 0).toNat + 1) 0 (by omega) (by omega)
 rw [show ((0 : Nat) : Int) = 0 from rfl, List.drop_zero] at this
 exact this
end Go.Proofs.YtknpgojdkobgjaaGreat.W
namespace Go.Proofs.YtknpgojdkobgjaaGreat.W
open Go Go.Wb
theorem Zu5 (a b : Tern) : Zas a b = some (Z24 zTern (Z2c a b)) := by
 unfold Zas Z2c
 rw [Zep, Option.bind_some, Zsf, Option.bind_some, Zep, Option.bind_some, Zld, Option.bind_some]
 cases Z3k (Z2b (Z5i a.Value b.Value) (Z2b a.Mask b.Mask)) <;> rfl
theorem Ztk (a x : Cube) : ∀ (m i : Nat), i ≤ 24 → 24 < i + m → (∀ j, j < i → (Z2c (ve a j) (ve x j)).isSome = true) →
  Z82 a x m (Z2l (fun j => (Z2c (ve a j) (ve x j)).getD zTern) Z2f i) (i : Int) = some (Z24 Z2f (Z5a a x))
 | 0, i, h1, h2, _ => by omega
 | m + 1, i, h1, h2, h3 => by
  rw [Z82]
  by_cases hi : i < 24
  ·rw [decide_eq_true (by omega), cond_true, Z22 hi, Option.bind_some, Option.bind_some, Z20, Z20, Zu5, Option.bind_some]
   cases ht : Z2c (ve a i) (ve x i) with
   | none =>
    rw [show (!(Z24 zTern (none : Option Tern)).2) = true from rfl, cond_true]
    unfold Z5a
    rw [Zww i hi ht]; rfl
   | some t =>
    rw [show (!(Z24 zTern (some t)).2) = false from rfl, cond_false, Option.bind_some, inc i (by omega)]
    have h4 := Z6v (fun j => (Z2c (ve a j) (ve x j)).getD zTern) Z2f i hi
    simp only [ht, Option.getD_some] at h4
    show Z82 a x m (Vector.set (Z2l _ Z2f i) i t hi) _ = _
    rw [h4]
    exact Ztk a x m (i + 1) (by omega) (by omega) fun j hj => by
     by_cases e : j = i
     ·subst e; rw [ht]; rfl
     ·exact h3 j (by omega)
  ·have : i = 24 := by omega
   subst this
   rw [decide_eq_false (by omega), cond_false, Z76]
   have : Z5a a x = some (Vector.ofFn fun i => (Z2c (ve a i.1) (ve x i.1)).getD zTern) := by
    unfold Z5a Z5l
    rw [List.all_eq_true.2 fun j hj => h3 j (by simpa using hj), cond_true]
   rw [this]; rfl
theorem Ztq (a x : Cube) : Z78 a x = some (Z24 Z2f (Z5a a x)) := by
 unfold Z78
 have := Ztk a x (((24 : Int) - 0).toNat + 1) 0 (by omega) (by decide) (by omega)
 rw [Z75] at this
 exact this
theorem Zxm (r c : Cube) : ∀ (m i : Nat), i ≤ 24 → 24 < i + m → (∀ j, j < i → (Z2c (ve r j) (ve c j)).isSome = true) →
  Zd0 r c m (Z2l (fun j => Z12 ⟨(ve c j).Value, Z2z (ve c j).Mask (ve r j).Mask⟩) Z2f i) (i : Int) = some (Z24 Z2f (Z63 r c))
 | 0, i, h1, h2, _ => by omega
 | m + 1, i, h1, h2, h3 => by
  rw [Zd0]
  by_cases hi : i < 24
  ·rw [decide_eq_true (by omega), cond_true, Z22 hi, Option.bind_some, Option.bind_some, Z20, Z20, Zu5, Option.bind_some]
   cases ht : Z2c (ve r i) (ve c i) with
   | none =>
    rw [show (!(Z24 zTern (none : Option Tern)).2) = true from rfl, cond_true]
    unfold Z63
    rw [show ((List.range 24).all fun i => (Z2c (ve r i) (ve c i)).isSome) = false from List.all_eq_false.2 ⟨i, by simpa using hi, by rw [ht]; simp⟩]; rfl
   | some t =>
    rw [show (!(Z24 zTern (some t)).2) = false from rfl, cond_false, Option.bind_some, Option.bind_some, Option.bind_some, Zor, Option.bind_some, Z20, Z20, Ztp, Option.bind_some, Option.bind_some, inc i (by omega)]
    have h4 := Z6v (fun j => Z12 ⟨(ve c j).Value, Z2z (ve c j).Mask (ve r j).Mask⟩) Z2f i hi
    show Zd0 r c m (Vector.set (Z2l _ Z2f i) i (Z12 ⟨(ve c i).Value, Z2z (ve c i).Mask (ve r i).Mask⟩) hi) _ = _
    rw [h4]
    exact Zxm r c m (i + 1) (by omega) (by omega) fun j hj => by
     by_cases e : j = i
     ·subst e; rw [ht]; rfl
     ·exact h3 j (by omega)
  ·have : i = 24 := by omega
   subst this
   rw [decide_eq_false (by omega), cond_false, Z76]
   unfold Z63
   rw [show ((List.range 24).all fun i => (Z2c (ve r i) (ve c i)).isSome) = true from List.all_eq_true.2 fun j hj => h3 j (by simpa using hj)]; rfl
theorem Y5z (r c : Cube) : Zju r c = some (Z24 Z2f (Z63 r c)) := by
 unfold Zju
 have := Zxm r c (((24 : Int) - 0).toNat + 1) 0 (by omega) (by decide) (by omega)
 rw [Z75] at this
 exact this
abbrev Yi6 := Switch → Int → Cube → Cube → List Atom → List Action → Option (List Rule)
abbrev Ztj := Switch → Int → Flow → Cube → Cube → List Atom → List Action → Option (List Rule)
def Zlk (R : Nat → walk_way → List Rule) (at_ : Nat) (f : Flow) (x : walk_way) : List Rule := match Z2j at_ f.Insts with
 | some n => R n (wdo x f.Insts)
 | none => [Z3w (Z4b (wdo x f.Insts))]
theorem Yhl (s : Switch) (at_ : Nat) (f : Flow) (x : walk_way) (Rw : Yi6) (Ro : Ztj) (R : Nat → walk_way → List Rule) (hf : Z6z f.Insts) (hi : f.Insts.length ≤ 100000) (ha : at_ < 4) (hx : Z4k at_ x)
  (hR : ∀ n w, at_ < n → n < 4 → Z4k n w → Rw s (n : Int) w.cube w.got w.atoms w.set = some (R n w)) :
  Zfo Rw Ro s (at_ : Int) f x.cube x.got x.atoms x.set = some (Zlk R at_ f x) := by
 have hlim : lim = 4294967296 := rfl
 have hxa := hx.1
 have hxs := hx.2
 have b1 := Zsu x hf
 have b2 := Zif (Z4f x f.Insts) f.Insts
 have b3 := Zhh (Z3t (Z4f x f.Insts) f.Insts) hf
 have b4 := Znd x hf
 have j4 : ∀ b : walk_way, b.atoms.length ≤ 2000 → b.set.length ≤ 50 → (∀ n, Z2j at_ f.Insts = some n → Z4k n b) → Zg1 f (at_ : Int) Rw s b.cube b.atoms b.set b.got = some (match Z2j at_ f.Insts with | some n => R n b | none => [Z3w (Z4b b)]) := fun b h1 h2 h3 => by
  unfold Zg1
  rw [Zj6 _ 1 hi, Option.bind_some]
  have hend : ((Zg7 b.set).bind fun x24 => (Zbj x24 b.got).bind fun x25 => (Z0y b.atoms x25.1).bind fun l27 => some [(⟨b.cube, l27⟩ : Rule)]) = some [Z3w (Z4b b)] := by
   have h5 := Zqz b.set
   have h6 := Zkh (Z7m b.set)
   rw [Yc3 _ h2, Option.bind_some, Zxs _ _ (by omega), Option.bind_some, Z1b (by rw [Zdj]; omega)]; rfl
  cases ho : ofI f.Insts 1 with
  | none => rw [Y1v ho]; exact hend
  | some i =>
   show (bif ((true && decide (i.Table > (at_ : Int))) && decide (i.Table < 4)) then _ else _) = _
   rw [Bool.true_and]
   by_cases hc : i.Table > (at_ : Int) ∧ i.Table < 4
   ·have hd : (decide (i.Table > (at_ : Int)) && decide (i.Table < 4)) = true := by
     rw [Bool.and_eq_true, decide_eq_true_eq, decide_eq_true_eq]; exact hc
    have hn := Zyd ho hc
    have e : ((i.Table.toNat : Nat) : Int) = i.Table := by omega
    have h5 := hR i.Table.toNat b (by omega) (by omega) (h3 _ hn)
    rw [e] at h5
    rw [hn, hd, cond_true]
    show (Rw s i.Table b.cube b.got b.atoms b.set).bind _ = _
    rw [h5]; rfl
   ·have hd : (decide (i.Table > (at_ : Int)) && decide (i.Table < 4)) = false := by
     rw [Bool.and_eq_false_iff, decide_eq_false_iff_not, decide_eq_false_iff_not]; omega
    rw [Zvo ho hc, hd, cond_false]
    exact hend
 have j3 : ∀ b : walk_way, b.atoms.length ≤ 2000 → b.set.length ≤ 50 → (∀ n, Z2j at_ f.Insts = some n → Z4k n b) → Zes f b.got (at_ : Int) Rw s b.cube b.atoms b.set = some (match Z2j at_ f.Insts with | some n => R n (Z39 b f.Insts) | none => [Z3w (Z4b (Z39 b f.Insts))]) := fun b h1 h2 h3 => by
  have b5 := Zpn b f.Insts
  unfold Zes
  rw [Zj6 _ 2 hi, Option.bind_some, ← j4 (Z39 b f.Insts) (by rw [b5.1]; omega) (by rw [b5.2.1]; omega) (fun n hn => by unfold Z4k; rw [b5.1, b5.2.1]; exact h3 n hn)]
  unfold Z39
  cases ho : ofI f.Insts 2 with
  | none => rfl
  | some i =>
   simp only [Z24, cond_true]
   rw [Zl4]; rfl
 have j2 : ∀ b : walk_way, b.atoms.length ≤ 1500 → b.set.length ≤ 36 → (∀ n, Z2j at_ f.Insts = some n → Z4k n (Z3d b f.Insts)) → Zel f b.got (at_ : Int) Rw s b.cube b.atoms b.set = some (match Z2j at_ f.Insts with | some n => R n (Z39 (Z3d b f.Insts) f.Insts) | none => [Z3w (Z4b (Z39 (Z3d b f.Insts) f.Insts))]) := fun b h1 h2 h3 => by
  have b5 := Zhh b hf
  unfold Zel
  rw [Zj6 _ 3 hi, Option.bind_some, ← j3 (Z3d b f.Insts) (by rw [b5.1]; omega) (by have := b5.2.1; omega) h3]
  unfold Z3d
  cases ho : ofI f.Insts 3 with
  | none => rfl
  | some i =>
   have := hf i (Zev ho)
   simp only [Z24, cond_true]
   rw [Yif _ _ (by omega) (by omega)]; rfl
 have j1 : ∀ b : walk_way, b.atoms.length ≤ 1500 → b.set.length ≤ 36 → (∀ n, Z2j at_ f.Insts = some n → Z4k n (Z3d (Z3t b f.Insts) f.Insts)) → Ze8 f (at_ : Int) Rw s b.cube b.set b.atoms b.got = some (match Z2j at_ f.Insts with | some n => R n (Z39 (Z3d (Z3t b f.Insts) f.Insts) f.Insts) | none => [Z3w (Z4b (Z39 (Z3d (Z3t b f.Insts) f.Insts) f.Insts))]) := fun b h1 h2 h3 => by
  have b5 := Zif b f.Insts
  unfold Ze8
  rw [Zj6 _ 5 hi, Option.bind_some, ← j2 (Z3t b f.Insts) (by rw [b5.1]; omega) (by have := b5.2.1; omega) h3]
  unfold Z3t
  cases ho : ofI f.Insts 5 with
  | none => rfl
  | some i => rfl
 have hn : ∀ n, Z2j at_ f.Insts = some n → Z4k n (Z3d (Z3t (Z4f x f.Insts) f.Insts) f.Insts) := fun n hn => by
  have h1 := Zm2 hn
  have h2 := b3.2.1
  have h3 := b2.2.1
  have h4 := b1.1
  exact ⟨by rw [b3.1, b2.1]; omega, by rw [b1.2.1] at h3; omega⟩
 have h1 := j1 (Z4f x f.Insts) (by omega) (by rw [b1.2.1]; omega) hn
 unfold Zfo Zlk wdo
 rw [Z1b (by simp; omega), Option.bind_some, List.nil_append, Zj6 _ 4 hi, Option.bind_some, ← h1]
 unfold Z4f
 cases ho : ofI f.Insts 4 with
 | none => rfl
 | some i =>
  have h2 := hf i (Zev ho)
  have h3 := Zkh i.Acts
  simp only [Z24, cond_true]
  rw [Zxs _ _ (by omega), Option.bind_some, Z1b (by rw [Zdj]; omega)]; rfl
theorem Zyv (s : Switch) (at_ : Nat) (ha : at_ < 4) (hm : Y2o (Z10 s at_)) (w : walk_way) (hw : w.atoms.length ≤ 1000) (R : Nat → walk_way → List Rule) (Ro : Ztj) (o : List Int) (ho : inT (Z10 s at_) o) (hol : o.length ≤ 100)
  (hone : ∀ f ∈ Z10 s at_, ∀ x, Z6o w f = some x → Ro s (at_ : Int) f x.cube w.got w.atoms w.set = some (Zlk R at_ f x)) :
  ∀ (m i : Nat) (acc : List Rule), i ≤ o.length → o.length < i + m → acc.length + ((o.drop i).flatMap (Z62 R (Z10 s at_) at_ w)).length + 1 ≤ lim →
  Za4 o (at_ : Int) s w.got w.cube Ro w.atoms w.set m acc (i : Int) = some (acc ++ (o.drop i).flatMap (Z62 R (Z10 s at_) at_ w) ++ [Z3w w])
 | 0, i, acc, h1, h2, _ => by omega
 | m + 1, i, acc, h1, h2, h3 => by
  have hlim : lim = 4294967296 := rfl
  rw [Za4]
  by_cases hi : i < o.length
  ·obtain ⟨k, hk, hok⟩ := ho _ (List.getElem_mem hi)
   have hrule : Z62 R (Z10 s at_) at_ w (k : Int) = match Z6o w (Z10 s at_)[k] with
     | none => []
     | some x => Zlk R at_ (Z10 s at_)[k] x := by
    unfold Z62
    rw [Int.toNat_natCast, List.getElem?_eq_getElem hk] <;> rfl
   rw [List.drop_eq_getElem_cons hi, List.flatMap_cons, hok, hrule] at h3 ⊢
   have ih := fun acc => Zyv s at_ ha hm w hw R Ro o ho hol hone m (i + 1) acc (by omega) (by omega)
   rw [decide_eq_true (by omega), cond_true, Z22 ha, Option.bind_some, Z0z hi, Option.bind_some, hok, Zig, Z0z hk, Option.bind_some, Y3i _ (hm _ (List.getElem_mem hk)), Option.bind_some, Y5z, Option.bind_some, inc i (by omega)]
   have hmw : Z6o w (Z10 s at_)[k] = (Z63 w.got (Zdo (Z10 s at_)[k])).bind fun b => (Z5a b w.cube).map fun c => { w with cube := c } := rfl
   have hone := hone _ (List.getElem_mem hk)
   revert h3 hone
   rw [hmw]
   cases hb : Z63 w.got (Zdo (Z10 s at_)[k]) with
   | none =>
    intro h3 hone
    simp only [Z24, Bool.not_false, cond_true, Option.bind_none, List.nil_append] at h3 ⊢
    exact ih acc h3
   | some b =>
    simp only [Z24, Bool.not_true, cond_false, Option.bind_some]
    rw [Ztq, Option.bind_some]
    cases hc : Z5a b w.cube with
    | none =>
     intro h3 hone
     simp only [Z24, cond_false, Option.map_none, List.nil_append] at h3 ⊢
     exact ih acc h3
    | some c =>
     intro h3 hone
     simp only [Z24, cond_true, Option.map_some] at h3 ⊢
     have h4 := hone _ rfl
     simp only at h4
     rw [List.length_append] at h3
     rw [h4, Option.bind_some, Z1b (by omega), Option.bind_some, ih _ (by rw [List.length_append]; omega)]
     simp only [List.append_assoc]
  ·rw [decide_eq_false (by omega), cond_false, List.drop_of_length_le (by omega), Z1b (by simp; omega), Option.bind_some, Z1b (by simp; omega)]
   simp [Z3w]
theorem Y1q (s : Switch) (hs : Z8l s) (hI : ∀ i, i < 4 → ∀ f ∈ Z10 s i, f.Insts.length ≤ 100000 ∧ f.Match.length ≤ 100000) (hmost : Z58 s 4 0 ≤ lim) : ∀ (d n at_ : Nat) (w : walk_way), 4 ≤ at_ + d → at_ < 4 → 2 * d ≤ n → Z4k at_ w →
  (Z48 n).1 s (at_ : Int) w.cube w.got w.atoms w.set = some (Z4d s d at_ w)
 | 0, n, at_, w, h0, h1, _, _ => by omega
 | d + 1, n, at_, w, h0, h1, h2, hw => by
  obtain ⟨n, rfl⟩ : ∃ k, n = k + 2 := ⟨n - 2, by omega⟩
  have hl := hs at_ h1
  have hlen := Zpz s (d + 1) at_ w h0 h1
  have hsk := Zqr s 4 0 at_ (by omega) (by omega) (by omega)
  show Zjc (Z48 (n + 1)).1 (Z48 (n + 1)).2 s (at_ : Int) w.cube w.got w.atoms w.set = _
  unfold Zjc
  rw [Z22 h1, Option.bind_some, Zig, Y58 _ (by have := hl.1; omega), Option.bind_some]
  have hol := Zus (Z10 s at_)
  have := Zyv s at_ h1 (fun f hf => (hI at_ h1 f hf).2) w (by have := hw.1; omega) (Z4d s d) (Z48 (n + 1)).2 (Z5q (Z10 s at_)) (fun j hj => Zvy.1 hj) (by have := hl.1; omega) (fun f hf x hx => by
   have hb := Zso hx
   have hg : x.got = w.got := by
    unfold Z6o at hx
    obtain ⟨b, _, h4⟩ := Option.bind_eq_some_iff.1 hx
    obtain ⟨c, _, h5⟩ := Option.map_eq_some_iff.1 h4
    subst h5; rfl
   show Zfo (Z48 n).1 (Z48 n).2 s (at_ : Int) f x.cube w.got w.atoms w.set = _
   rw [← hg, ← hb.1, ← hb.2]
   exact Yhl s at_ f x _ _ (Z4d s d) (hl.2 f hf) (hI at_ h1 f hf).1 h1 (by unfold Z4k; rw [hb.1, hb.2]; exact hw) fun k y h5 h6 h7 => Y1q s hs hI hmost d n k y (by omega) h6 (by omega) h7) ((((Z5q (Z10 s at_)).length : Int) - 0).toNat + 1) 0 [] (by omega) (by omega) (by
   rw [Z4d, List.length_append, List.length_singleton] at hlen
   rw [List.drop_zero, List.length_nil]; omega)
  rw [List.drop_zero, List.nil_append] at this
  exact this
theorem Y3y (s : Switch) (hs : Z8l s) (hI : ∀ i, i < 4 → ∀ f ∈ Z10 s i, f.Insts.length ≤ 100000 ∧ f.Match.length ≤ 100000) (hmost : Z58 s 4 0 ≤ lim) : Zc3 s = some (Z3i s) := by
 unfold Zc3 Zov Z7r Zra
 rw [Option.bind_some, Option.bind_some]
 show ((Z48 Z0w).1 s ((0 : Nat) : Int) way0.cube way0.got way0.atoms way0.set).bind _ = _
 rw [Y1q s hs hI hmost 4 Z0w 0 way0 (by omega) (by omega) (by unfold Z0w; omega) ⟨by simp [way0], by simp [way0]⟩]; rfl
end Go.Proofs.YtknpgojdkobgjaaGreat.W
namespace Go.Proofs.YtknpgojdkobgjaaGreat.W
open Go Go.Wb
theorem Zwj {β : Type} [DecidableEq β] (g : Action → β) (eq : Action → Action → Option Bool) (he : ∀ x y, eq x y = some (decide (g x = g y))) (t : List Action) : ∀ (s : List Action) (i : Nat), i + s.length = t.length → Zan t eq s i = some (decide (s.map g = (t.drop i).map g))
 | [], i, h => by
  rw [Zan, List.drop_of_length_le (by simp at h; omega)] <;> rfl
 | x :: s, i, h => by
  simp only [List.length_cons] at h
  have hi : i < t.length := by omega
  rw [Zan, Z0z hi, Option.bind_some, he, Option.bind_some, Zwj g eq he t s (i + 1) (by omega), List.drop_eq_getElem_cons hi, List.map_cons, List.map_cons]
  generalize g t[i] = y
  generalize g x = z
  generalize List.map g s = l
  generalize List.map g (t.drop (i + 1)) = l'
  by_cases he : z = y
  ·simp [he]
  ·simp [he]
theorem Yd6 {β : Type} [DecidableEq β] (g : Action → β) (eq : Action → Action → Option Bool) (he : ∀ x y, eq x y = some (decide (g x = g y))) (a b : List Action) : Zhu a b eq = some (decide (a.map g = b.map g)) := by
 unfold Zhu
 by_cases hl : a.length = b.length
 ·rw [decide_eq_false (by omega), cond_false, Zwj g eq he b a 0 (by omega)] <;> rfl
 ·rw [decide_eq_true (by omega), cond_true]
  have : a.map g ≠ b.map g := fun e => hl (by have := congrArg List.length e; simpa using this)
  simp [this]
theorem Y1h {β : Type} [DecidableEq β] (g : Bucket → β) (eq : Bucket → Bucket → Option Bool) (he : ∀ x y, eq x y = some (decide (g x = g y))) (t : List Bucket) : ∀ (s : List Bucket) (i : Nat), i + s.length = t.length → Z91 t eq s i = some (decide (s.map g = (t.drop i).map g))
 | [], i, h => by
  rw [Z91, List.drop_of_length_le (by simp at h; omega)] <;> rfl
 | x :: s, i, h => by
  simp only [List.length_cons] at h
  have hi : i < t.length := by omega
  rw [Z91, Z0z hi, Option.bind_some, he, Option.bind_some, Y1h g eq he t s (i + 1) (by omega), List.drop_eq_getElem_cons hi, List.map_cons, List.map_cons]
  generalize g t[i] = y
  generalize g x = z
  generalize List.map g s = l
  generalize List.map g (t.drop (i + 1)) = l'
  by_cases he : z = y
  ·simp [he]
  ·simp [he]
theorem Y5b {β : Type} [DecidableEq β] (g : Bucket → β) (eq : Bucket → Bucket → Option Bool) (he : ∀ x y, eq x y = some (decide (g x = g y))) (a b : List Bucket) : Zgr a b eq = some (decide (a.map g = b.map g)) := by
 unfold Zgr
 by_cases hl : a.length = b.length
 ·rw [decide_eq_false (by omega), cond_false, Y1h g eq he b a 0 (by omega)] <;> rfl
 ·rw [decide_eq_true (by omega), cond_true]
  have : a.map g ≠ b.map g := fun e => hl (by have := congrArg List.length e; simpa using this)
  simp [this]
theorem Zwf {β : Type} [DecidableEq β] (g : Group → β) (eq : Group → Group → Option Bool) (he : ∀ x y, eq x y = some (decide (g x = g y))) (t : List Group) : ∀ (s : List Group) (i : Nat), i + s.length = t.length → Za5 t eq s i = some (decide (s.map g = (t.drop i).map g))
 | [], i, h => by
  rw [Za5, List.drop_of_length_le (by simp at h; omega)] <;> rfl
 | x :: s, i, h => by
  simp only [List.length_cons] at h
  have hi : i < t.length := by omega
  rw [Za5, Z0z hi, Option.bind_some, he, Option.bind_some, Zwf g eq he t s (i + 1) (by omega), List.drop_eq_getElem_cons hi, List.map_cons, List.map_cons]
  generalize g t[i] = y
  generalize g x = z
  generalize List.map g s = l
  generalize List.map g (t.drop (i + 1)) = l'
  by_cases he : z = y
  ·simp [he]
  ·simp [he]
theorem Yi4 {β : Type} [DecidableEq β] (g : Group → β) (eq : Group → Group → Option Bool) (he : ∀ x y, eq x y = some (decide (g x = g y))) (a b : List Group) : Zkk a b eq = some (decide (a.map g = b.map g)) := by
 unfold Zkk
 by_cases hl : a.length = b.length
 ·rw [decide_eq_false (by omega), cond_false, Zwf g eq he b a 0 (by omega)] <;> rfl
 ·rw [decide_eq_true (by omega), cond_true]
  have : a.map g ≠ b.map g := fun e => hl (by have := congrArg List.length e; simpa using this)
  simp [this]
theorem Zyq {β : Type} [DecidableEq β] (g : Rule → β) (eq : Rule → Rule → Option Bool) (he : ∀ x y, eq x y = some (decide (g x = g y))) (t : List Rule) : ∀ (s : List Rule) (i : Nat), i + s.length = t.length → Za7 t eq s i = some (decide (s.map g = (t.drop i).map g))
 | [], i, h => by
  rw [Za7, List.drop_of_length_le (by simp at h; omega)] <;> rfl
 | x :: s, i, h => by
  simp only [List.length_cons] at h
  have hi : i < t.length := by omega
  rw [Za7, Z0z hi, Option.bind_some, he, Option.bind_some, Zyq g eq he t s (i + 1) (by omega), List.drop_eq_getElem_cons hi, List.map_cons, List.map_cons]
  generalize g t[i] = y
  generalize g x = z
  generalize List.map g s = l
  generalize List.map g (t.drop (i + 1)) = l'
  by_cases he : z = y
  ·simp [he]
  ·simp [he]
theorem Yig {β : Type} [DecidableEq β] (g : Rule → β) (eq : Rule → Rule → Option Bool) (he : ∀ x y, eq x y = some (decide (g x = g y))) (a b : List Rule) : Zih a b eq = some (decide (a.map g = b.map g)) := by
 unfold Zih
 by_cases hl : a.length = b.length
 ·rw [decide_eq_false (by omega), cond_false, Zyq g eq he b a 0 (by omega)] <;> rfl
 ·rw [decide_eq_true (by omega), cond_true]
  have : a.map g ≠ b.map g := fun e => hl (by have := congrArg List.length e; simpa using this)
  simp [this]
theorem Zsc {α : Type} [DecidableEq α] (a b : List α) : decide (a.map id = b.map id) = decide (a = b) := by rw [List.map_id, List.map_id]
theorem Yae (a b : List Action) : Zji a b = some (decide (a = b)) := by
 unfold Zji
 rw [Yd6 id Zoo (fun x y => rfl), Option.bind_some, Zsc]
theorem Yam (a b : Bucket) : Zfe a b = some (decide (a = b)) := by
 unfold Zfe
 rw [Yae]
 cases a; cases b; rename_i p q r s p' q' r' s'
 by_cases h1 : p = p' <;> by_cases h2 : q = q' <;> by_cases h3 : r = r' <;> by_cases h4 : s = s' <;> simp [opt, h1, h2, h3, h4]
theorem Y7y (a b : List Bucket) : Zit a b = some (decide (a = b)) := by
 unfold Zit
 rw [Y5b id Zfe Yam, Option.bind_some, Zsc]
theorem Y4n (a b : Group) : Zfi a b = some (decide (a = b)) := by
 unfold Zfi
 rw [Y7y]
 cases a; cases b; rename_i p q r p' q' r'
 by_cases h1 : p = p' <;> by_cases h2 : q = q' <;> by_cases h3 : r = r' <;> simp [opt, h1, h2, h3]
theorem Yiv (a b : List Group) : Zkm a b = some (decide (a = b)) := by
 unfold Zkm
 rw [Yi4 id Zfi Y4n, Option.bind_some, Zsc]
def rcl (r : Rule) : Cube × List Atom := (Z0r r.Cube, r.Atoms.map acl)
theorem Y48 (a b : Rule) : Zg2 a b = some (decide (rcl a = rcl b)) := by
 unfold Zg2 rcl
 rw [Zmf, Option.bind_some, Zmf, Option.bind_some, Yhb]
 by_cases h1 : Z0r a.Cube = Z0r b.Cube <;> by_cases h2 : a.Atoms.map acl = b.Atoms.map acl <;> simp [opt, h1, h2]
def Zdk (a b : Flat) : Bool := decide (a.Rules.map rcl = b.Rules.map rcl) && decide (a.Groups = b.Groups)
theorem Yhq (a b : Flat) : Zd6 a b = some (Zdk a b) := by
 unfold Zd6 Zdk
 rw [Yig rcl Zg2 Y48, Option.bind_some, Yiv]
 cases decide (a.Rules.map rcl = b.Rules.map rcl) <;> rfl
theorem Zvh (a : Flat) : Zdk a a = true := by unfold Zdk; simp
theorem Y8w (a b : Action) : Zjq a b = some (decide (a = b)) := by
 unfold Zjq Zpa
 cases a; cases b; rename_i p q r s t o p' q' r' s' t' o'
 cases o; cases o'; rename_i x y z w x' y' z' w'
 by_cases h1 : p = p' <;> by_cases h2 : q = q' <;> by_cases h3 : r = r' <;> by_cases h4 : s = s' <;> by_cases h5 : t = t' <;> simp [opt, h1, h2, h3, h4, h5]
 by_cases h6 : x = x' <;> by_cases h7 : y = y' <;> by_cases h8 : z = z' <;> by_cases h9 : w = w' <;> simp [h6, h7, h8, h9]
theorem Zz6 (a b : List Action) (hl : a.length = b.length) (hs : a.length ≤ 1000000) : ∀ (m i : Nat), i ≤ a.length → a.length < i + m → Zeq a b m (i : Int) = some (decide (a.drop i = b.drop i))
 | 0, i, h1, h2 => by omega
 | m + 1, i, h1, h2 => by
  rw [Zeq]
  by_cases hi : i < a.length
  ·have hb : i < b.length := by omega
   rw [decide_eq_true (by omega), cond_true, Z0z hi, Option.bind_some, Z0z hb, Option.bind_some, Y8w, Option.bind_some, inc i (by omega), Zz6 a b hl hs m (i + 1) (by omega) (by omega), List.drop_eq_getElem_cons hi, List.drop_eq_getElem_cons hb]
   generalize a[i] = x
   generalize b[i] = y
   generalize a.drop (i + 1) = l
   generalize b.drop (i + 1) = l'
   by_cases he : x = y
   ·simp [he]
   ·simp [he]
  ·rw [decide_eq_false (by omega), cond_false, List.drop_of_length_le (by omega), List.drop_of_length_le (by omega)] <;> rfl
theorem Yi8 (a b : List Action) (hs : a.length ≤ 1000000) : Ze3 a b = some (decide (a = b)) := by
 unfold Ze3
 by_cases hl : a.length = b.length
 ·have := Zz6 a b hl hs ((((a.length : Int) : Int) - 0).toNat + 1) 0 (by omega) (by omega)
  rw [decide_eq_false (by omega), cond_false]
  exact this
 ·rw [decide_eq_true (by omega), cond_true]
  have : a ≠ b := fun e => hl (by rw [e])
  simp [this]
theorem Y85 (x y : Bucket) (hx : x.Acts.length ≤ 1000000) (K : Option Bool) : ((opt (!(decide (x.Weight ≠ y.Weight))) (some x)).bind fun e8 => (opt (!(decide (x.Weight ≠ y.Weight))) (some y)).bind fun e9 => (opt (!((decide (x.Weight ≠ y.Weight)) || (decide (e8.Watch ≠ e9.Watch)))) (some x)).bind fun e10 => (opt (!((decide (x.Weight ≠ y.Weight)) || (decide (e8.Watch ≠ e9.Watch)))) (some y)).bind fun e11 => (opt (!(((decide (x.Weight ≠ y.Weight)) || (decide (e8.Watch ≠ e9.Watch))) || (decide (e10.WatchGroup ≠ e11.WatchGroup)))) (some x)).bind fun e12 => (opt (!(((decide (x.Weight ≠ y.Weight)) || (decide (e8.Watch ≠ e9.Watch))) || (decide (e10.WatchGroup ≠ e11.WatchGroup)))) (some y)).bind fun e13 => (opt (!(((decide (x.Weight ≠ y.Weight)) || (decide (e8.Watch ≠ e9.Watch))) || (decide (e10.WatchGroup ≠ e11.WatchGroup)))) (Ze3 e12.Acts e13.Acts)).bind fun x14 => (bif ((((decide (x.Weight ≠ y.Weight)) || (decide (e8.Watch ≠ e9.Watch))) || (decide (e10.WatchGroup ≠ e11.WatchGroup))) || (!x14)) then some false else K)) = bif decide (x = y) then K else some false := by
 have h13 := Yi8 x.Acts y.Acts hx
 cases x; cases y; rename_i p q r s p' q' r' s'
 simp only at h13
 by_cases h1 : p = p'
 ·by_cases h2 : q = q'
  ·by_cases h3 : r = r'
   ·by_cases h4 : s = s'
    ·subst h4; simp [opt, h1, h2, h3, h13]
    ·simp [opt, h1, h2, h3, h4, h13]
   ·simp [opt, h1, h2, h3]
  ·simp [opt, h1, h2]
 ·simp [opt, h1]
theorem Zy4 (a b : List Bucket) (hl : a.length = b.length) (hs : a.length ≤ 1000000) (ha : ∀ x ∈ a, x.Acts.length ≤ 1000000) : ∀ (m i : Nat), i ≤ a.length → a.length < i + m → Zg5 a b m (i : Int) = some (decide (a.drop i = b.drop i))
 | 0, i, h1, h2 => by omega
 | m + 1, i, h1, h2 => by
  rw [Zg5]
  by_cases hi : i < a.length
  ·have hb : i < b.length := by omega
   rw [decide_eq_true (by omega), cond_true, Z0z hi, Option.bind_some, Z0z hb, Option.bind_some, Y85 _ _ (ha _ (List.getElem_mem hi)), inc i (by omega), Zy4 a b hl hs ha m (i + 1) (by omega) (by omega), List.drop_eq_getElem_cons hi, List.drop_eq_getElem_cons hb]
   generalize a[i] = x
   generalize b[i] = y
   generalize a.drop (i + 1) = l
   generalize b.drop (i + 1) = l'
   by_cases he : x = y
   ·simp [he]
   ·simp [he]
  ·rw [decide_eq_false (by omega), cond_false, List.drop_of_length_le (by omega), List.drop_of_length_le (by omega)] <;> rfl
theorem Yey (a b : List Bucket) (hs : a.length ≤ 1000000) (ha : ∀ x ∈ a, x.Acts.length ≤ 1000000) : Zga a b = some (decide (a = b)) := by
 unfold Zga
 by_cases hl : a.length = b.length
 ·have := Zy4 a b hl hs ha ((((a.length : Int) : Int) - 0).toNat + 1) 0 (by omega) (by omega)
  rw [decide_eq_false (by omega), cond_false]
  exact this
 ·rw [decide_eq_true (by omega), cond_true]
  have : a ≠ b := fun e => hl (by rw [e])
  simp [this]
def Zp2 (a : List Group) : Prop := ∀ g ∈ a, g.Buckets.length ≤ 1000000 ∧ ∀ x ∈ g.Buckets, x.Acts.length ≤ 1000000
theorem Y39 (x y : Group) (hx : x.Buckets.length ≤ 1000000) (hb : ∀ z ∈ x.Buckets, z.Acts.length ≤ 1000000) (K : Option Bool) : ((opt (!(decide (x.ID ≠ y.ID))) (some x)).bind fun e8 => (opt (!(decide (x.ID ≠ y.ID))) (some y)).bind fun e9 => (opt (!((decide (x.ID ≠ y.ID)) || (decide (e8.Kind ≠ e9.Kind)))) (some x)).bind fun e10 => (opt (!((decide (x.ID ≠ y.ID)) || (decide (e8.Kind ≠ e9.Kind)))) (some y)).bind fun e11 => (opt (!((decide (x.ID ≠ y.ID)) || (decide (e8.Kind ≠ e9.Kind)))) (Zga e10.Buckets e11.Buckets)).bind fun x12 => (bif (((decide (x.ID ≠ y.ID)) || (decide (e8.Kind ≠ e9.Kind))) || (!x12)) then some false else K)) = bif decide (x = y) then K else some false := by
 have h15 := Yey x.Buckets y.Buckets hx hb
 cases x; cases y; rename_i p q r p' q' r'
 simp only at h15
 by_cases h1 : p = p'
 ·by_cases h2 : q = q'
  ·by_cases h3 : r = r'
   ·subst h3; simp [opt, h1, h2, h15]
   ·simp [opt, h1, h2, h3, h15]
  ·simp [opt, h1, h2]
 ·simp [opt, h1]
theorem Zv7 (a b : List Group) (hl : a.length = b.length) (hs : a.length ≤ 1000000) (ha : Zp2 a) : ∀ (m i : Nat), i ≤ a.length → a.length < i + m → Zeo a b m (i : Int) = some (decide (a.drop i = b.drop i))
 | 0, i, h1, h2 => by omega
 | m + 1, i, h1, h2 => by
  rw [Zeo]
  by_cases hi : i < a.length
  ·have hb : i < b.length := by omega
   have hg := ha _ (List.getElem_mem hi)
   rw [decide_eq_true (by omega), cond_true, Z0z hi, Option.bind_some, Z0z hb, Option.bind_some, Y39 _ _ hg.1 hg.2, inc i (by omega), Zv7 a b hl hs ha m (i + 1) (by omega) (by omega), List.drop_eq_getElem_cons hi, List.drop_eq_getElem_cons hb]
   generalize a[i] = x
   generalize b[i] = y
   generalize a.drop (i + 1) = l
   generalize b.drop (i + 1) = l'
   by_cases he : x = y
   ·simp [he]
   ·simp [he]
  ·rw [decide_eq_false (by omega), cond_false, List.drop_of_length_le (by omega), List.drop_of_length_le (by omega)] <;> rfl
theorem Yeu (a b : List Group) (hs : a.length ≤ 1000000) (ha : Zp2 a) : Zi6 a b = some (decide (a = b)) := by
 unfold Zi6
 by_cases hl : a.length = b.length
 ·have := Zv7 a b hl hs ha ((((a.length : Int) : Int) - 0).toNat + 1) 0 (by omega) (by omega)
  rw [decide_eq_false (by omega), cond_false]
  exact this
 ·rw [decide_eq_true (by omega), cond_true]
  have : a ≠ b := fun e => hl (by rw [e])
  simp [this]
theorem Ydx (x y : Rule) (hx : x.Atoms.length ≤ 1000000) (K : Option Bool) : ((opt (!(decide (Z0r x.Cube ≠ Z0r y.Cube))) (some x)).bind fun e13 => (opt (!(decide (Z0r x.Cube ≠ Z0r y.Cube))) (some y)).bind fun e14 => (opt (!(decide (Z0r x.Cube ≠ Z0r y.Cube))) (Zfw e13.Atoms e14.Atoms)).bind fun x15 => (bif ((decide (Z0r x.Cube ≠ Z0r y.Cube)) || (!x15)) then some false else K)) = bif decide (rcl x = rcl y) then K else some false := by
 unfold rcl
 have h := Yax x.Atoms y.Atoms hx
 by_cases h1 : Z0r x.Cube = Z0r y.Cube
 ·by_cases h2 : x.Atoms.map acl = y.Atoms.map acl
  ·simp [opt, h1, h2, h]
  ·simp [opt, h1, h2, h]
 ·simp [opt, h1]
theorem Y0g (a b : Flat) (hl : a.Rules.length = b.Rules.length) (hs : a.Rules.length ≤ 1000000) (ha : ∀ r ∈ a.Rules, r.Atoms.length ≤ 1000000) : ∀ (m i : Nat), i ≤ a.Rules.length → a.Rules.length < i + m → Zfn a b m (i : Int) = some (decide ((a.Rules.drop i).map rcl = (b.Rules.drop i).map rcl))
 | 0, i, h1, h2 => by omega
 | m + 1, i, h1, h2 => by
  rw [Zfn]
  by_cases hi : i < a.Rules.length
  ·have hb : i < b.Rules.length := by omega
   rw [decide_eq_true (by omega), cond_true, Z0z hi, Option.bind_some, Zp4, Option.bind_some, Z0z hb, Option.bind_some, Zp4, Option.bind_some, Ydx _ _ (ha _ (List.getElem_mem hi)), inc i (by omega), Y0g a b hl hs ha m (i + 1) (by omega) (by omega), List.drop_eq_getElem_cons hi, List.drop_eq_getElem_cons hb, List.map_cons, List.map_cons]
   generalize rcl a.Rules[i] = x
   generalize rcl b.Rules[i] = y
   generalize (a.Rules.drop (i + 1)).map rcl = l
   generalize (b.Rules.drop (i + 1)).map rcl = l'
   by_cases he : x = y
   ·simp [he]
   ·simp [he]
  ·rw [decide_eq_false (by omega), cond_false, List.drop_of_length_le (by omega), List.drop_of_length_le (by omega)] <;> rfl
theorem Yb7 (a b : Flat) (hs : a.Rules.length ≤ 1000000) (ha : ∀ r ∈ a.Rules, r.Atoms.length ≤ 1000000) (hgl : a.Groups.length ≤ 1000000) (hg : Zp2 a.Groups) : Zhj a b = some (Zdk a b) := by
 unfold Zhj Zdk
 rw [Yeu _ _ hgl hg]
 by_cases hl : a.Rules.length = b.Rules.length
 ·have := Y0g a b hl hs ha ((((a.Rules.length : Int) : Int) - 0).toNat + 1) 0 (by omega) (by omega)
  rw [decide_eq_false (by omega), Bool.not_false, Z2x, Option.bind_some, Bool.false_or]
  cases decide (a.Groups = b.Groups)
  ·rw [Bool.and_false]; rfl
  ·rw [Bool.and_true]; exact this
 ·have : a.Rules.map rcl ≠ b.Rules.map rcl := fun e => hl (by have := congrArg List.length e; simpa using this)
  rw [decide_eq_true (by omega), decide_eq_false this]; rfl
end Go.Proofs.YtknpgojdkobgjaaGreat.W
namespace Go.Proofs.YtknpgojdkobgjaaGreat.W
open Go Go.Wb
theorem Zyb (s : Switch) (hs : Z8l s) : ∀ (d at_ : Nat) (w : walk_way), at_ < 4 → Z4k at_ w → ∀ r ∈ Z4d s d at_ w, r.Atoms.length ≤ 1000
 | 0, at_, w, h4, hw, r, hr => by
  rw [Z4d, List.mem_singleton] at hr
  rw [hr]
  have := hw.1
  show w.atoms.length ≤ 1000
  omega
 | d + 1, at_, w, h4, hw, r, hr => by
  have h0 := hw.1
  have h1 := hw.2
  rw [Z4d] at hr
  rcases List.mem_append.1 hr with hr | hr
  ·obtain ⟨i, hi, hr⟩ := List.mem_flatMap.1 hr
   unfold Z62 at hr
   split at hr
   ·cases hr
   ·rename_i f hf
    have hfi := (hs at_ h4).2 f (List.mem_of_getElem? hf)
    split at hr
    ·cases hr
    ·rename_i x hx
     have hx := Zso hx
     have hd := Znd x hfi
     rw [hx.1, hx.2] at hd
     split at hr
     ·rename_i n hn
      have hb := Zm2 hn
      exact Zyb s hs d _ _ hb.2 ⟨by omega, by omega⟩ r hr
     ·rw [List.mem_singleton] at hr
      rw [hr]
      have := Zv3 (wdo x f.Insts)
      show (Z4b (wdo x f.Insts)).atoms.length ≤ 1000
      omega
  ·rw [List.mem_singleton] at hr
   rw [hr]
   show w.atoms.length ≤ 1000
   omega
theorem Zvf (s : Switch) (hs : Z8l s) : ∀ r ∈ Z3i s, r.Atoms.length ≤ 1000 := Zyb s hs 4 0 way0 (by omega) ⟨by simp [way0], by simp [way0]⟩
theorem Yfk {s : Switch} {many : Nat} (h : Z95 s (many : Int) = true) : ∀ i, i < 4 → ∀ f ∈ Z10 s i, f.Insts.length ≤ 100000 ∧ f.Match.length ≤ 100000 := fun i hi f hf => by
 have := ((Zjj h).1 i hi).2 f hf
 omega
end Go.Proofs.YtknpgojdkobgjaaGreat.W
namespace Go.Proofs.YtknpgojdkobgjaaGreat.W
open Go Go.Wb
def nb (t : Tern) : Nat := (Z67 t.Mask).length
def Z74 (x : Cube) : Nat → Nat → Nat
 | 0, _ => 0
 | m + 1, f => nb (ve x f) + Z74 x m (f + 1)
def Z79 (x : Cube) : Nat := Z74 x 24 0
theorem Zqh (t : Tern) : nb t ≤ 128 := by
 unfold nb Z67
 exact Nat.le_trans (List.length_filter_le ..) (by simp)
theorem Zxq (x : Cube) : ∀ (m f : Nat), Z74 x m f ≤ 128 * m
 | 0, _ => Nat.le_refl _
 | m + 1, f => by
  have h1 := Zxq x m (f + 1)
  have h2 := Zqh (ve x f)
  rw [Z74]; omega
theorem Y7i (x : Cube) : Z79 x ≤ 3072 := Zxq x 24 0
theorem Zuf (x : Cube) : ∀ (l : List Tern) (f : Nat) (n : Nat), f + l.length = 24 → l = (Vector.toList x).drop f → n ≤ 128 * f → Z83 l f (n : Int) = some ((n + Z74 x l.length f : Nat) : Int)
 | [], f, n, h1, h2, h3 => by simp [Z83, Z74]
 | t :: l, f, n, h1, h2, h3 => by
  simp only [List.length_cons] at h1
  have hf : f < (Vector.toList x).length := by simp; omega
  rw [List.drop_eq_getElem_cons hf] at h2
  obtain ⟨e1, e2⟩ := List.cons.inj h2
  have e3 : ve x f = t := by
   rw [e1]
   unfold ve
   rw [dif_pos (by omega)]; simp
  have hb := Zqh t
  rw [Z83, Y1k, Option.bind_some]
  show Z83 l (f + 1) (IntKind.i64.wrap ((n : Int) + (nb t : Int))) = _
  rw [Z2g (by omega) (by omega), show (n : Int) + (nb t : Int) = ((n + nb t : Nat) : Int) by omega, Zuf x l (f + 1) (n + nb t) (by omega) e2 (by omega), List.length_cons, Z74, e3]
  congr 2; omega
theorem Y4r (x : Cube) : Ziz x = some (Z79 x : Int) := by
 unfold Ziz
 have := Zuf x (Vector.toList x) 0 0 (by simp) rfl (by omega)
 rw [show (Vector.toList x).length = 24 by simp, Nat.zero_add] at this
 exact this
theorem Zrm (a : Wide) : ∀ (m i n : Nat), i ≤ 128 → 128 < i + m → n ≤ i → Zbv a m (n : Int) (i : Int) = some ((n + ((List.range' i (128 - i)).filter (wt a)).length : Nat) : Int)
 | 0, i, n, h1, h2, _ => by omega
 | m + 1, i, n, h1, h2, h3 => by
  rw [Zbv]
  by_cases hi : i < 128
  ·have e : 128 - i = (128 - (i + 1)) + 1 := by omega
   rw [decide_eq_true (by omega), cond_true, Zlt a i hi, Option.bind_some, inc i (by omega), e, List.range'_succ, List.filter_cons]
   cases wt a i
   ·rw [cond_false, Zrm a m (i + 1) n (by omega) (by omega) (by omega)]; rfl
   ·rw [cond_true, inc n (by omega), Zrm a m (i + 1) (n + 1) (by omega) (by omega) (by omega), if_pos rfl, List.length_cons]
    congr 2; omega
  ·have : i = 128 := by omega
   subst this
   rw [decide_eq_false (by omega), cond_false]; simp
theorem Y7p (t : Tern) : Zio t.Mask = some (nb t : Int) := by
 unfold Zio nb Z67
 have := Zrm t.Mask (((128 : Int) - 0).toNat + 1) 0 0 (by omega) (by decide) (by omega)
 rw [Nat.zero_add, Nat.sub_zero, ← List.range_eq_range'] at this
 exact this
theorem Ztr (x : Cube) : ∀ (m f n : Nat), f ≤ 24 → 24 < f + m → n ≤ 128 * f → Zgh x m (n : Int) (f : Int) = some ((n + Z74 x (24 - f) f : Nat) : Int)
 | 0, f, n, h1, h2, _ => by omega
 | m + 1, f, n, h1, h2, h3 => by
  rw [Zgh]
  by_cases hf : f < 24
  ·have e : 24 - f = (24 - (f + 1)) + 1 := by omega
   have hb := Zqh (ve x f)
   rw [decide_eq_true (by omega), cond_true, Z22 hf, Option.bind_some, Z20, Y7p, Option.bind_some, inc f (by omega), Z2g (by omega) (by omega), show (n : Int) + (nb (ve x f) : Int) = ((n + nb (ve x f) : Nat) : Int) by omega, Ztr x m (f + 1) _ (by omega) (by omega) (by omega), e, Z74]
   congr 2; omega
  ·have : f = 24 := by omega
   subst this
   rw [decide_eq_false (by omega), cond_false]; simp [Z74]
theorem Y3o (x : Cube) : Zla x = some (Z79 x : Int) := by
 unfold Zla
 have := Ztr x (((24 : Int) - 0).toNat + 1) 0 0 (by omega) (by decide) (by omega)
 rw [Nat.zero_add] at this
 exact this
def U : Int := 1099511627776
def Z6w : List Cube → Nat
 | [] => 1
 | x :: l => max (Z79 x) 1 * Z6w l
theorem Zjl : ∀ l, 1 ≤ Z6w l
 | [] => Nat.le_refl _
 | x :: l => by
  rw [Z6w]
  exact Nat.le_trans (Zjl l) (Nat.le_mul_of_pos_left _ (by omega))
def Y2r (l : List Cube) : Nat := (l.length + 1) * Z6w l
def Z5h (c : Cube) (l : List Cube) : List Cube := l.filter (Z37 c)
def Zqe (c : Cube) (l : List Cube) : Nat := Y2r (Z5h c l)
def Z4q (k : Nat) : Nat := min k 1099511627776
theorem Zqf (a b : Nat) : Z1t (a : Int) (b : Int) = ((max a b : Nat) : Int) := by
 unfold Z1t
 by_cases h : (b : Int) > (a : Int)
 ·rw [decide_eq_true h, cond_true]; omega
 ·rw [decide_eq_false h, cond_false]; omega
theorem Zpg (a : Nat) : Z46 (a : Int) 1099511627776 = (Z4q a : Int) := by
 unfold Z46 Z4q
 by_cases h : (1099511627776 : Int) < (a : Int)
 ·rw [decide_eq_true h, cond_true]; omega
 ·rw [decide_eq_false h, cond_false]; omega
theorem Zpc (a P : Nat) (hP : 1 ≤ P) : Z4q (Z4q a * P) = Z4q (a * P) := by
 unfold Z4q
 by_cases h : a ≤ 1099511627776
 ·rw [Nat.min_eq_left h]
 ·have h1 : 1099511627776 * 1 ≤ 1099511627776 * P := Nat.mul_le_mul_left _ hP
  have h2 : 1099511627776 * P ≤ a * P := Nat.mul_le_mul_right _ (by omega)
  rw [Nat.min_eq_right (show 1099511627776 ≤ a by omega)]; omega
theorem Zzc (n : Nat) (x : Cube) (hn : n ≤ 1099511627776) : Z46 (IntKind.i64.wrap ((n : Int) * Z1t (Z79 x : Int) 1)) 1099511627776 = (Z4q (n * max (Z79 x) 1) : Int) := by
 have h1 := Y7i x
 have h2 : Z1t (Z79 x : Int) 1 = ((max (Z79 x) 1 : Nat) : Int) := Zqf (Z79 x) 1
 have h3 : n * max (Z79 x) 1 ≤ 1099511627776 * 3072 := Nat.mul_le_mul hn (by omega)
 rw [h2, ← Int.natCast_mul, Z2g (by omega) (by omega), Zpg]
theorem Zoe (n : Nat) : Z4q n ≤ 1099511627776 := Nat.min_le_right ..
theorem Zqx (c : Cube) : ∀ (l : List Cube) (i : Nat) (acc : List Cube), acc.length + l.length ≤ 1000000 → Z8f c l i acc = some (acc ++ Z5h c l)
 | [], i, acc, _ => by simp [Z8f, Z5h]
 | x :: l, i, acc, h => by
  have hlim : lim = 4294967296 := rfl
  simp only [List.length_cons] at h
  rw [Z8f, Zms, Option.bind_some, Zpm]
  unfold Z5h
  rw [List.filter_cons]
  show (bif Z37 c x then _ else _) = _
  cases Z37 c x
  ·rw [cond_false, Zqx c l (i + 1) acc (by omega)]; rfl
  ·rw [cond_true, Z1b (by simp; omega), Option.bind_some, Zqx c l (i + 1) _ (by simp; omega)]
   simp [Z5h]
theorem Zyu : ∀ (l : List Cube) (i n : Nat), n ≤ 1099511627776 → Z9g l i (n : Int) = some (Z4q (n * Z6w l) : Int)
 | [], i, n, h => by
  rw [Z9g, Z6w, Nat.mul_one]
  unfold Z4q
  rw [Nat.min_eq_left h]
 | x :: l, i, n, h => by
  rw [Z9g, Y4r, Option.bind_some, Zzc _ _ h, Zyu l (i + 1) _ (Zoe _), Zpc _ _ (Zjl l), Z6w, Nat.mul_assoc]
theorem Y1s (c : Cube) (l : List Cube) : (Z5h c l).length ≤ l.length := List.length_filter_le ..
theorem Yar (c : Cube) (l : List Cube) (h : l.length ≤ 1000000) : Zja c l = some (Z4q (Zqe c l) : Int) := by
 unfold Zja Zog
 have hl := Y1s c l
 rw [Zqx c l 0 [] (by simpa using h), Option.bind_some, List.nil_append, inc _ (by omega), Zpg, Zyu _ _ _ (Zoe _), Zpc _ _ (Zjl _)]; rfl
theorem Zpi (l : List Cube) (c : Cube) (hl : l.length ≤ 1000000) : ∀ (m i : Nat) (acc : List Cube), i ≤ l.length → l.length < i + m → acc.length ≤ i → Zd3 l c m acc (i : Int) = some (acc ++ Z5h c (l.drop i))
 | 0, i, acc, h1, h2, _ => by omega
 | m + 1, i, acc, h1, h2, h3 => by
  have hlim : lim = 4294967296 := rfl
  rw [Zd3]
  by_cases hi : i < l.length
  ·rw [decide_eq_true (by omega), cond_true, Z0z hi, Option.bind_some, Ztq, Option.bind_some, Zpm, Option.bind_some, inc i (by omega), List.drop_eq_getElem_cons hi]
   unfold Z5h
   rw [List.filter_cons]
   show (bif Z37 c l[i] then _ else _) = _
   cases Z37 c l[i]
   ·rw [cond_false, Zpi l c hl m (i + 1) acc (by omega) (by omega) (by omega)]; rfl
   ·rw [cond_true, Z1b (by simp; omega), Option.bind_some, Zpi l c hl m (i + 1) _ (by omega) (by omega) (by simp; omega)]
    simp [Z5h]
  ·rw [decide_eq_false (by omega), cond_false, List.drop_of_length_le (by omega)]
   simp [Z5h]
theorem Zu1 (l : List Cube) (hl : l.length ≤ 1000000) : ∀ (m i n : Nat), i ≤ l.length → l.length < i + m → n ≤ 1099511627776 → Zgl l m (n : Int) (i : Int) = some (Z4q (n * Z6w (l.drop i)) : Int)
 | 0, i, n, h1, h2, _ => by omega
 | m + 1, i, n, h1, h2, h3 => by
  rw [Zgl]
  by_cases hi : i < l.length
  ·rw [decide_eq_true (by omega), cond_true, Z0z hi, Option.bind_some, Y3o, Option.bind_some, Zzc _ _ h3, inc i (by omega), Zu1 l hl m (i + 1) _ (by omega) (by omega) (Zoe _), Zpc _ _ (Zjl _), List.drop_eq_getElem_cons hi, Z6w, Nat.mul_assoc]
  ·rw [decide_eq_false (by omega), cond_false, List.drop_of_length_le (by omega), Z6w, Nat.mul_one]
   unfold Z4q
   rw [Nat.min_eq_left h3]
theorem Y96 (c : Cube) (l : List Cube) (h : l.length ≤ 1000000) : Zi2 c l = some (Z4q (Zqe c l) : Int) := by
 unfold Zi2 Zp3
 have hl := Y1s c l
 have h1 := Zpi l c h ((((l.length : Int) : Int) - 0).toNat + 1) 0 [] (by omega) (by omega) (by simp)
 rw [show ((0 : Nat) : Int) = 0 from rfl, List.drop_zero, List.nil_append] at h1
 have h2 := Zu1 (Z5h c l) (by omega) (((((Z5h c l).length : Int) : Int) - 0).toNat + 1) 0 (Z4q ((Z5h c l).length + 1)) (by omega) (by omega) (Zoe _)
 rw [show ((0 : Nat) : Int) = 0 from rfl, List.drop_zero] at h2
 rw [h1, Option.bind_some, inc _ (by omega), Zpg, h2, Zpc _ _ (Zjl _)]; rfl
def Zgw (all : List Cube) : List Cube → Nat → Nat → Nat
 | [], _, n => n
 | x :: l, i, n => Zgw all l (i + 1) (max n (Z4q (Zqe x (all.take i))))
def Zrw (l : List Rule) : Nat := Zgw (l.map (·.Cube)) (l.map (·.Cube)) 0 0
theorem Zz5 (all : List Cube) (hl : all.length ≤ 1000000) : ∀ (l : List Cube) (i n : Nat), i + l.length = all.length → Zcg all l i (n : Int) = some (Zgw all l i n : Int)
 | [], i, n, _ => rfl
 | x :: l, i, n, h => by
  simp only [List.length_cons] at h
  rw [Zcg, Y0h _ _ (by omega), Option.bind_some, Yar _ _ (by rw [List.length_take]; omega), Option.bind_some, Zqf, Zz5 all hl l (i + 1) _ (by omega)]; rfl
theorem Y2l (l : List Rule) (h : l.length ≤ 1000000) : Zjr l = some (Zrw l : Int) := by
 unfold Zjr
 rw [Yer l h, Option.bind_some]
 exact Zz5 _ (by simpa using h) _ 0 0 (by simp)
theorem Zwg (l : List Rule) (hl : l.length ≤ 1000000) : ∀ (m i n : Nat), i ≤ l.length → l.length < i + m → Zez l m (n : Int) (i : Int) = some (Zgw (l.map (·.Cube)) ((l.drop i).map (·.Cube)) i n : Int)
 | 0, i, n, h1, h2 => by omega
 | m + 1, i, n, h1, h2 => by
  rw [Zez]
  by_cases hi : i < l.length
  ·rw [decide_eq_true (by omega), cond_true, Z0z hi, Option.bind_some, Y0h _ _ (by omega), Option.bind_some, Zv9 _ (by rw [List.length_take]; omega), Option.bind_some, Y96 _ _ (by simp; omega), Option.bind_some, Zqf, inc i (by omega), Zwg l hl m (i + 1) _ (by omega) (by omega), List.drop_eq_getElem_cons hi, List.map_cons, Zgw, List.map_take]
  ·rw [decide_eq_false (by omega), cond_false, List.drop_of_length_le (by omega)]; rfl
theorem Ycx (l : List Rule) (h : l.length ≤ 1000000) : Zkq l = some (Zrw l : Int) := by
 unfold Zkq
 exact Zwg l h ((((l.length : Int) : Int) - 0).toNat + 1) 0 0 (by omega) (by omega)
theorem Zua (c : Cube) (l : List Cube) (most : Int) : (Z4z c l most).2.2 = 0 ∨ Z4z c l most = (Z3l, false, 5) := by
 unfold Z4z
 cases decide ((Z9b c l most).2.2 < 0)
 ·exact .inl rfl
 ·exact .inr rfl
def Z4u (most : Int) : List Rule → List Rule → List Rule × Int
 | [], kept => (kept, 0)
 | r :: l, kept => bif decide ((Z4z r.Cube (kept.map (·.Cube)) most).2.2 ≠ 0) then ([], 5) else bif (Z4z r.Cube (kept.map (·.Cube)) most).2.1 then Z4u most l (kept ++ [r]) else Z4u most l kept
theorem Zvm (l : List Rule) (h : ∀ r ∈ l, r.Atoms.length ≤ 1000000) : ∀ (m i : Nat), i + m = l.length → Z9n m i l = some l
 | 0, i, _ => by rw [Z9n]
 | m + 1, i, hi => by
  have hlim : lim = 4294967296 := rfl
  have hlt : i < l.length := by omega
  have ha := h l[i] (List.getElem_mem hlt)
  have e : List.set l ((i : Int)).toNat { l[i] with Atoms := l[i].Atoms } = l := by
   rw [Int.toNat_natCast]; exact List.set_getElem_self hlt
  rw [Z9n, Z0z hlt, Option.bind_some]
  unfold Zbr
  rw [Z1b (by simp; omega), Option.bind_some, Option.bind_some, List.nil_append, e]
  exact Zvm l h m (i + 1) (by omega)
theorem Y9w (l : List Rule) (hl : l.length ≤ 1000000) (h : ∀ r ∈ l, r.Atoms.length ≤ 1000000) : Zgs l = some l := by
 have hlim : lim = 4294967296 := rfl
 unfold Zgs Zn2
 rw [Z1b (by simp; omega), Option.bind_some, List.nil_append, show ((l.length : Int)).toNat = l.length by omega]
 exact Zvm l h l.length 0 (by omega)
theorem Zrt (most : Int) (hm : most ≤ 9223372036854775807) : ∀ (l : List Rule) (i : Nat) (kept : List Rule), kept.length + l.length ≤ 1000000 → (∀ r ∈ kept, r.Atoms.length ≤ 1000000) → (∀ r ∈ l, r.Atoms.length ≤ 1000000) →
  Z7n most l i kept (kept.map (·.Cube)) = some (Z4u most l kept)
 | [], i, kept, h, h1, _ => by
  rw [Z7n, Y9w kept (by simpa using h) h1]; rfl
 | r :: l, i, kept, h, h1, h2 => by
  have hlim : lim = 4294967296 := rfl
  simp only [List.length_cons] at h
  rw [Z7n, Yfu _ _ _ hm (by simp; omega), Option.bind_some, Z4u]
  rcases Zua r.Cube (kept.map (·.Cube)) most with he | he
  ·rw [he, decide_eq_false (by omega), cond_false, cond_false]
   cases (Z4z r.Cube (kept.map (·.Cube)) most).2.1
   ·exact Zrt most hm l (i + 1) kept (by omega) h1 fun q hq => h2 q (by simp [hq])
   ·rw [Bool.not_true, cond_false, cond_true, Z1b (by simp; omega), Option.bind_some, Z1b (by simp; omega), Option.bind_some]
    have := Zrt most hm l (i + 1) (kept ++ [r]) (by simp; omega) (fun q hq => by
     rcases List.mem_append.1 hq with hq | hq
     ·exact h1 q hq
     ·rw [List.mem_singleton.1 hq]; exact h2 r (by simp)) fun q hq => h2 q (by simp [hq])
    rw [List.map_append] at this
    exact this
  ·rw [he]; rfl
theorem Zt4 (l : List Rule) (hl : l.length ≤ 1000000) (most : Int) (hm : most ≤ 9223372036854775807) : ∀ (m i : Nat) (kept : List Rule), i ≤ l.length → l.length < i + m → kept.length ≤ i →
  Zcc l most m kept (i : Int) = some (Z4u most (l.drop i) kept)
 | 0, i, kept, h1, h2, _ => by omega
 | m + 1, i, kept, h1, h2, h3 => by
  have hlim : lim = 4294967296 := rfl
  rw [Zcc]
  by_cases hi : i < l.length
  ·rw [decide_eq_true (by omega), cond_true, Z0z hi, Option.bind_some, Zv9 _ (by omega), Option.bind_some, Yfl _ _ _ hm (by simp; omega), Option.bind_some, List.drop_eq_getElem_cons hi, Z4u, inc i (by omega)]
   rcases Zua l[i].Cube (kept.map (·.Cube)) most with he | he
   ·rw [he, decide_eq_false (by omega), cond_false, cond_false]
    cases (Z4z l[i].Cube (kept.map (·.Cube)) most).2.1
    ·exact Zt4 l hl most hm m (i + 1) kept (by omega) (by omega) (by omega)
    ·rw [cond_true, cond_true, Option.bind_some, Z1b (by simp; omega), Option.bind_some]
     exact Zt4 l hl most hm m (i + 1) _ (by omega) (by omega) (by simp; omega)
   ·rw [he]; rfl
  ·rw [decide_eq_false (by omega), cond_false, List.drop_of_length_le (by omega)]; rfl
theorem Znl (most : Int) : ∀ (l kept : List Rule), (Z4u most l kept).2 = 0 ∨ Z4u most l kept = ([], 5)
 | [], kept => .inl rfl
 | r :: l, kept => by
  rw [Z4u]
  cases decide ((Z4z r.Cube (kept.map (·.Cube)) most).2.2 ≠ 0)
  ·cases (Z4z r.Cube (kept.map (·.Cube)) most).2.1
   ·exact Znl most l kept
   ·exact Znl most l _
  ·exact .inr rfl
theorem Zr2 (most : Int) : ∀ (l kept : List Rule), (Z4u most l kept).1.length ≤ kept.length + l.length ∧ ∀ r ∈ (Z4u most l kept).1, r ∈ kept ∨ r ∈ l
 | [], kept => ⟨by simp [Z4u], fun r hr => .inl hr⟩
 | r :: l, kept => by
  rw [Z4u]
  cases decide ((Z4z r.Cube (kept.map (·.Cube)) most).2.2 ≠ 0)
  ·cases (Z4z r.Cube (kept.map (·.Cube)) most).2.1
   ·have := Zr2 most l kept
    rw [cond_false, cond_false]
    exact ⟨by simp; omega, fun q hq => (this.2 q hq).imp id fun h => by simp [h]⟩
   ·have := Zr2 most l (kept ++ [r])
    rw [cond_false, cond_true]
    refine ⟨by have := this.1; simp at this ⊢; omega, fun q hq => ?_⟩
    rcases this.2 q hq with h | h
    ·rcases List.mem_append.1 h with h | h
     ·exact .inl h
     ·rw [List.mem_singleton.1 h]; exact .inr (by simp)
    ·exact .inr (by simp [h])
  ·exact ⟨by simp, fun q hq => by simp at hq⟩
end Go.Proofs.YtknpgojdkobgjaaGreat.W
namespace Go.Proofs.YtknpgojdkobgjaaGreat.W
open Go Go.Wb
end Go.Proofs.YtknpgojdkobgjaaGreat.W
namespace Go.Proofs.YtknpgojdkobgjaaGreat.W
open Go Go.Wb
theorem Y9f {l : List Group} (h : Z6x l) (i : Nat) : Z6x (l.drop i) := ⟨by have := h.1; rw [List.length_drop]; omega, fun g hg => h.2 g (List.mem_of_mem_drop hg)⟩
theorem Zxf (G : List Group) (hG : Z6x G) : ∀ (l : List Group) (i : Nat) (acc : List Group), l = G.drop i → acc.length + l.length ≤ 1000 → Z9d G l i acc = some (acc ++ l)
 | [], i, acc, _, _ => by simp [Z9d]
 | g :: l, i, acc, h, hl => by
  have hlim : lim = 4294967296 := rfl
  have hi : i < G.length := by
   have := congrArg List.length h
   simp at this; omega
  simp only [List.length_cons] at hl
  have h2 := h
  rw [List.drop_eq_getElem_cons hi] at h2
  obtain ⟨e1, e2⟩ := List.cons.inj h2
  have hf : Zmp (G.drop i) g.ID = some g := by
   unfold Zmp
   rw [← h, List.find?_cons_of_pos (by simp)]
  rw [Z9d, Zri _ _ (by omega), Option.bind_some, Ycd _ _ (Y9f hG i), hf, Option.bind_some]
  show (Z0y acc [g]).bind _ = _
  rw [Z1b (by simp; omega), Option.bind_some, Zxf G hG l (i + 1) _ e2 (by simp; omega)]
  simp
theorem Y5i (G : List Group) (hG : Z6x G) : Zi4 G = some G := by
 unfold Zi4
 have h9 := hG.1
 exact Zxf G hG G 0 [] rfl (by simp; omega)
structure SW (s : Switch) : Prop where
 lt : Z8l s
 G : Z6x s.Groups
 I : ∀ i, i < 4 → ∀ f ∈ Z10 s i, f.Insts.length ≤ 100000 ∧ f.Match.length ≤ 100000
 most : Z58 s 4 0 ≤ 6561
theorem Y1e {s : Switch} {m : Nat} (h : Z95 s (m : Int) = true) (hm : m ≤ 8) : SW s := ⟨Y3j h (by omega), (Zjj h).2, Yfk h, by
 have h1 := Yhv s 8 fun i hi => by have := ((Zjj h).1 i hi).1; omega
 omega⟩
theorem SW.len {s : Switch} (h : SW s) : (Z3i s).length ≤ 6561 := Nat.le_trans (Zv5 s) h.most
theorem SW.walk {s : Switch} (h : SW s) : Zch s = some (Z3i s) := Yg4 s h.lt (by have := h.most; have hlim : lim = 4294967296 := rfl; omega)
theorem SW.walkR {s : Switch} (h : SW s) : Zc3 s = some (Z3i s) := Y3y s h.lt h.I (by have := h.most; have hlim : lim = 4294967296 := rfl; omega)
def Z7z (s : Switch) (most : Int) : List Rule × Int := Z4u most (Z3i s) []
def Z9j (s : Switch) (most : Int) : Flat × Int := bif decide ((Z7z s most).2 ≠ 0) then (⟨[], []⟩, 5) else (⟨(Z7z s most).1, s.Groups⟩, 0)
theorem Y6g (s : Switch) (h : SW s) (most : Int) (hm : most ≤ 9223372036854775807) : Zo4 (Z3i s) most = some (Z7z s most) := by
 have h1 := h.len
 have h2 := Zvf s h.lt
 exact Zrt most hm (Z3i s) 0 [] (by simp; omega) (by simp) fun r hr => by have := h2 r hr; omega
theorem Yjr (s : Switch) (h : SW s) (most : Int) (hm : most ≤ 9223372036854775807) : Zmu (Z3i s) most = some (Z7z s most) := by
 have h1 := h.len
 have := Zt4 (Z3i s) (by omega) most hm (((((Z3i s).length : Int) : Int) - 0).toNat + 1) 0 [] (by omega) (by omega) (by simp)
 rw [show ((0 : Nat) : Int) = 0 from rfl, List.drop_zero] at this
 exact this
theorem Ycc (s : Switch) (h : SW s) (most : Int) (hm : most ≤ 9223372036854775807) : Zbk s most = some (Z9j s most) := by
 unfold Zbk Z9j
 rw [h.walk, Option.bind_some, Y6g s h most hm, Option.bind_some]
 rcases Znl most (Z3i s) [] with he | he
 ·rw [show (Z7z s most).2 = 0 from he, decide_eq_false (by omega), cond_false, cond_false, Y5i _ h.G]; rfl
 ·rw [show Z7z s most = ([], 5) from he]; rfl
theorem Yje (s : Switch) (h : SW s) (most : Int) (hm : most ≤ 9223372036854775807) : Zgn s most = some (Z9j s most) := by
 unfold Zgn Z9j
 rw [h.walkR, Option.bind_some, Yjr s h most hm, Option.bind_some]
 rcases Znl most (Z3i s) [] with he | he
 ·rw [show (Z7z s most).2 = 0 from he, decide_eq_false (by omega), cond_false, cond_false]
 ·rw [show Z7z s most = ([], 5) from he]; rfl
def Zsq (s : Switch) : Nat := Zrw (Z3i s)
theorem Y54 (s : Switch) (h : SW s) : Zfx s = some (Zsq s : Int) := by
 unfold Zfx
 rw [h.walk, Option.bind_some, Y2l _ (by have := h.len; omega)]; rfl
theorem Zx4 (s : Switch) (h : SW s) : Zd5 s = some (Zsq s : Int) := by
 unfold Zd5
 rw [h.walkR, Option.bind_some, Ycx _ (by have := h.len; omega)]; rfl
def Zfy (s : Switch) (most : Int) : Bool := Z95 s 3 && (decide (most ≤ 1024) || decide ((Zsq s : Int) ≤ 4096))
theorem Y83 (s : Switch) (most : Int) : ((Zle s 3).bind fun x4 => (opt ((x4 == true) && ((decide (most ≤ 1024)) == false)) (Zd5 s)).bind fun x5 => some (x4 && ((decide (most ≤ 1024)) || (decide (x5 ≤ 4096))))) = some (Zfy s most) := by
 unfold Zfy
 rw [Yf7, Option.bind_some]
 cases hf : Z95 s 3
 ·rfl
 ·rw [Zx4 s (Y1e (m := 3) hf (by omega))]
  cases decide (most ≤ 1024) <;> rfl
theorem Ya6 {s : Switch} {most : Int} (h : Zfy s most = true) : SW s := by
 unfold Zfy at h
 rw [Bool.and_eq_true] at h
 exact Y1e (m := 3) h.1 (by omega)
theorem Y6v (s : Switch) (most : Int) : Zni s most = some (Zfy s most) := Y83 s most
theorem Yhz (s : Switch) (h : SW s) (most : Int) : (Z9j s most).1.Rules.length ≤ 6561 ∧ (∀ r ∈ (Z9j s most).1.Rules, r.Atoms.length ≤ 1000) ∧ Z6x (Z9j s most).1.Groups := by
 unfold Z9j
 cases decide ((Z7z s most).2 ≠ 0)
 ·have h1 := Zr2 most (Z3i s) []
  have h2 := h.len
  refine ⟨?_, fun r hr => ?_, h.G⟩
  ·have := h1.1
   simp at this
   show (Z4u most (Z3i s) []).1.length ≤ _
   omega
  ·rcases h1.2 r hr with h3 | h3
   ·simp at h3
   ·exact Zvf s h.lt r h3
 ·exact ⟨by simp, fun r hr => by simp at hr, ⟨by simp, fun g hg => by simp at hg⟩⟩
theorem Y4l {l : List Group} (h : Z6x l) : Zp2 l := fun g hg => ⟨by have := (h.2 g hg).1; omega, fun x hx => by have := (h.2 g hg).2 x hx; omega⟩
set_option maxRecDepth 100000 in
theorem Y3c : Zkn = some true := by decide +kernel
theorem Y3n (s : Switch) (most : Int) (hm : most ≤ 9223372036854775807) : Zen s most = some true := by
 unfold Zen
 rw [Y6v, Option.bind_some, Y3c]
 cases hf : Zfy s most
 ·rfl
 ·have h := Ya6 hf
  have hw := Yhz s h most
  rw [Bool.not_true, cond_false, Ycc s h most hm, Option.bind_some, Yje s h most hm, Option.bind_some, Yhq, Zvh, Option.bind_some, Z2x, Yb7 _ _ (by omega) (fun r hr => by have := hw.2.1 r hr; omega) (by have := hw.2.2.1; omega) (Y4l hw.2.2), Zvh, Option.bind_some, decide_eq_true rfl, Bool.and_self, Bool.and_self, Z2x, Z2x, Y54 s h, Option.bind_some, Zx4 s h, Option.bind_some, decide_eq_true rfl]
  rfl
theorem Y8p {W : World} {H M : HS} {v : Value} (s : Switch) (most : Int) (h : (rd (Z0 .i64) most).R W H M v) : Zen s most = some true := Y3n s most (Z0u h).2.2
end Go.Proofs.YtknpgojdkobgjaaGreat.W
