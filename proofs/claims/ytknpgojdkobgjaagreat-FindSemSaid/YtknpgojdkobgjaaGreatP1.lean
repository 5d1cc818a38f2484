/- A part of the proof. -/
import Derived.Test.YtknpgojdkobgjaaGreatP0
set_option linter.unusedVariables false
set_option linter.unusedSimpArgs false
namespace Go.Proofs.YtknpgojdkobgjaaGreat.W
open Go Go.Wb
def Znr (t : List Flow) (i : Int) : Int := match t[i.toNat]? with
 | some f => f.Priority
 | none => 0
def ltP (t : List Flow) (i j : Int) : Bool := decide (Znr t i > Znr t j)
theorem Y30 (t : List Flow) : Swo (ltP t) where
 asym := fun a b h => by
  unfold ltP at *
  rw [decide_eq_true_eq] at h
  rw [decide_eq_false_iff_not]; omega
 neg := fun a b c h k => by
  unfold ltP at *
  rw [decide_eq_false_iff_not] at *; omega
def places (n : Nat) : List Int := (List.range n).map fun (i : Nat) => (i : Int)
theorem Zu9 {n : Nat} {i : Int} : i ∈ places n ↔ ∃ k : Nat, k < n ∧ i = (k : Int) := by
 unfold places
 simp only [List.mem_map, List.mem_range]
 exact ⟨fun ⟨k, h1, h2⟩ => ⟨k, h1, h2.symm⟩, fun ⟨k, h1, h2⟩ => ⟨k, h1, h2.symm⟩⟩
def Z5e (t : List Flow) : List Int := srt (ltP t) (places t.length)
theorem Zir {t : List Flow} {i : Int} : i ∈ Z5e t ↔ ∃ k : Nat, k < t.length ∧ i = (k : Int) := by
 unfold Z5e
 rw [Y3k (Y30 t), Zu9]
theorem Y4a (t : List Flow) : (Z5e t).length = t.length := by
 unfold Z5e
 rw [Z35 (Y30 t)]; simp [places]
theorem Zna {t : List Flow} {k : Nat} (h : k < t.length) : Znr t (k : Int) = t[k].Priority := by
 unfold Znr
 rw [Int.toNat_natCast, List.getElem?_eq_getElem h]
theorem Y7g (t : List Flow) : Zkk (ltP t) (fun x z => Zhd x z t) (places t.length) := fun x hx y hy => by
 obtain ⟨i, hi, rfl⟩ := Zu9.1 hx
 obtain ⟨j, hj, rfl⟩ := Zu9.1 hy
 unfold Zhd ltP
 dsimp only
 rw [Z1w hi, Option.bind_some, Z1w hj, Option.bind_some, Zna hi, Zna hj, Option.bind_some, Option.bind_some]
 by_cases h1 : t[i].Priority > t[j].Priority
 ·rw [decide_eq_true h1, cond_true]; exact ⟨_, rfl, rfl⟩
 ·rw [decide_eq_false h1, cond_false]
  by_cases h2 : t[i].Priority < t[j].Priority
  ·rw [decide_eq_true h2, cond_true]; exact ⟨_, rfl, rfl⟩
  ·rw [decide_eq_false h2, cond_false]; exact ⟨_, rfl, rfl⟩
theorem Y24 (t : List Flow) (ht : t.length < 20) : ∀ (m i : Nat), i + m = t.length → Zad t m i (places i) = some (Z5e t)
 | 0, i, h => by
  have : i = t.length := by omega
  subst this
  rw [Zad, Yel _ (Y7g t) (by simpa [places] using ht)]; rfl
 | m + 1, i, h => by
  have hlim : lim = 4294967296 := rfl
  have e : places i ++ [(i : Int)] = places (i + 1) := by unfold places; rw [List.range_succ, List.map_append]; rfl
  rw [Zad, Z17 (by simp [places]; omega), Option.bind_some, e]
  exact Y24 t ht m (i + 1) (by omega)
theorem Ye2 (n : Nat) (h : n ≤ lim) : omk (n : Int) = some () := by
 unfold omk
 rw [decide_eq_false (by omega), decide_eq_false (by omega)]; rfl
theorem Zzv (t : List Flow) (ht : t.length < 20) : Zgv t = some (Z5e t) := by
 have hlim : lim = 4294967296 := rfl
 unfold Zgv
 rw [Ye2 _ (by omega), Option.bind_some, show ((t.length : Int)).toNat = t.length by omega]
 exact Y24 t ht t.length 0 (by omega)
def Znx (w : walk_way) (l : List Action) : walk_way := { w with atoms := w.atoms ++ (doT l (Z12 w.got)).1, got := (doT l (Z12 w.got)).2 }
theorem Y9p {α : Type} (l : List α) : Z4y l (l.length : Int) = some l := by
 unfold Z4y
 simp [Nat.ble_eq_true_of_le (Nat.le_refl _)]
theorem Zfe (l : List Action) : Z3r l ≤ l.length := List.countP_le_length
theorem Y0c (w : walk_way) (l : List Action) (h : w.atoms.length + l.length ≤ 100000) : Zcu w l = some (Znx w l) := by
 have hlim : lim = 4294967296 := rfl
 have h1 := Zfe l
 unfold Zcu
 rw [Yjs l w.got (by omega), Option.bind_some, Y9p, Option.bind_some, Z17 (by rw [Zhc]; omega), Option.bind_some]; rfl
def Z4j (w : walk_way) (f : Flow) : Option walk_way := (Z4i w.got (Z65 f)).bind fun b => (Z43 b w.cube).map fun c => { w with cube := c }
theorem Ylc (w : walk_way) (f : Flow) : ∃ z, Zka w f = some (Z1l z (Z4j w f)) := by
 unfold Zka Z4j
 rw [Zy9, Option.bind_some, Ybs, Option.bind_some]
 cases Z4i w.got (Z65 f) with
 | none => exact ⟨_, rfl⟩
 | some b =>
  show ∃ z, (Za3 b w.cube).bind _ = some (Z1l z ((Z43 b w.cube).map _))
  rw [Zs6, Option.bind_some]
  cases Z43 b w.cube with
  | none => exact ⟨_, rfl⟩
  | some c => exact ⟨w, rfl⟩
def Z39 (w : walk_way) (l : List Inst) : walk_way := match ofI l 4 with
 | some i => Znx w i.Acts
 | none => w
def Z37 (w : walk_way) (l : List Inst) : walk_way := match ofI l 5 with
 | some _ => { w with set := [] }
 | none => w
def Z2v (w : walk_way) (l : List Inst) : walk_way := match ofI l 3 with
 | some i => { w with set := i.Acts.foldl wr1 w.set }
 | none => w
def Z3c (w : walk_way) (l : List Inst) : walk_way := match ofI l 2 with
 | some i => { w with got := Z54 w.got 1 i.Value i.Mask }
 | none => w
def wdo (w : walk_way) (l : List Inst) : walk_way := Z3c (Z2v (Z37 (Z39 w l) l) l) l
def Z1o (at_ : Nat) (l : List Inst) : Option Nat := match ofI l 1 with
 | some i => if i.Table > (at_ : Int) ∧ i.Table < 4 then some i.Table.toNat else none
 | none => none
theorem Zrs {at_ : Nat} {l : List Inst} {i : Inst} (h : ofI l 1 = some i) (hc : i.Table > (at_ : Int) ∧ i.Table < 4) : Z1o at_ l = some i.Table.toNat := by
 unfold Z1o; rw [h]; exact if_pos hc
theorem Zto {at_ : Nat} {l : List Inst} {i : Inst} (h : ofI l 1 = some i) (hc : ¬ (i.Table > (at_ : Int) ∧ i.Table < 4)) : Z1o at_ l = none := by
 unfold Z1o; rw [h]; exact if_neg hc
theorem Zrt {at_ : Nat} {l : List Inst} (h : ofI l 1 = none) : Z1o at_ l = none := by
 unfold Z1o; rw [h]
theorem Zk5 {at_ n : Nat} {l : List Inst} (h : Z1o at_ l = some n) : at_ < n ∧ n < 4 := by
 unfold Z1o at h
 split at h
 ·split at h
  ·cases h; omega
  ·cases h
 ·cases h
def Z3p (w : walk_way) : walk_way := Znx w (Z4x w.set)
def Z60 (l : List Inst) : Prop := ∀ i ∈ l, i.Acts.length ≤ 12
theorem Zu3 (w : walk_way) {l : List Inst} (hl : Z60 l) : (Z39 w l).atoms.length ≤ w.atoms.length + 12 ∧ (Z39 w l).set = w.set ∧ (Z39 w l).cube = w.cube := by
 unfold Z39
 split
 ·rename_i i hi
  have h1 := hl i (Z86 hi)
  have h2 := Zfe i.Acts
  refine ⟨?_, rfl, rfl⟩
  show (w.atoms ++ _).length ≤ _
  rw [List.length_append, Zhc]; omega
 ·exact ⟨by omega, rfl, rfl⟩
theorem Zjk (w : walk_way) (l : List Inst) : (Z37 w l).atoms = w.atoms ∧ (Z37 w l).set.length ≤ w.set.length ∧ (Z37 w l).cube = w.cube := by
 unfold Z37
 split
 ·exact ⟨rfl, by simp, rfl⟩
 ·exact ⟨rfl, by omega, rfl⟩
theorem Zk1 (w : walk_way) {l : List Inst} (hl : Z60 l) : (Z2v w l).atoms = w.atoms ∧ (Z2v w l).set.length ≤ w.set.length + 12 ∧ (Z2v w l).cube = w.cube := by
 unfold Z2v
 split
 ·rename_i i hi
  have h1 := hl i (Z86 hi)
  have h2 := Zn4 i.Acts w.set
  exact ⟨rfl, by show (i.Acts.foldl wr1 w.set).length ≤ _; omega, rfl⟩
 ·exact ⟨rfl, by omega, rfl⟩
theorem Zr7 (w : walk_way) (l : List Inst) : (Z3c w l).atoms = w.atoms ∧ (Z3c w l).set = w.set ∧ (Z3c w l).cube = w.cube := by
 unfold Z3c
 split
 ·exact ⟨rfl, rfl, rfl⟩
 ·exact ⟨rfl, rfl, rfl⟩
theorem Zol (w : walk_way) {l : List Inst} (hl : Z60 l) : (wdo w l).atoms.length ≤ w.atoms.length + 12 ∧ (wdo w l).set.length ≤ w.set.length + 12 ∧ (wdo w l).cube = w.cube := by
 have h1 := Zu3 w hl
 have h2 := Zjk (Z39 w l) l
 have h3 := Zk1 (Z37 (Z39 w l) l) hl
 have h4 := Zr7 (Z2v (Z37 (Z39 w l) l) l) l
 unfold wdo
 refine ⟨?_, ?_, ?_⟩
 ·rw [h4.1, h3.1, h2.1]; exact h1.1
 ·rw [h4.2.1]
  have := h3.2.1
  have := h2.2.1
  rw [h1.2.1] at this
  omega
 ·rw [h4.2.2, h3.2.2, h2.2.2, h1.2.2]
theorem Ya5 (w : walk_way) (at_ : Nat) (l : List Inst) (hl : Z60 l) (ha : w.atoms.length ≤ 1000) (hs : w.set.length ≤ 1000) :
  Zk6 w (at_ : Int) l = some (match Z1o at_ l with | some n => (wdo w l, (n : Int), true) | none => (Z3p (wdo w l), 0, false)) := by
 have hlim : lim = 4294967296 := rfl
 have b1 := Zu3 w hl
 have b2 := Zjk (Z39 w l) l
 have b3 := Zk1 (Z37 (Z39 w l) l) hl
 have b4 := Zol w hl
 have j4 : ∀ b : walk_way, b.atoms.length ≤ 2000 → b.set.length ≤ 2000 → Zfk l (at_ : Int) b = some (match Z1o at_ l with | some n => (b, (n : Int), true) | none => (Z3p b, 0, false)) := fun b h1 h2 => by
  unfold Zfk
  rw [Z7c l 1 hl, Option.bind_some]
  have hend : ((Z79 b.set).bind fun x12 => (Zcu b x12).bind fun x13 => some (x13, (0 : Int), false)) = some (Z3p b, 0, false) := by
   have := Zoh b.set
   rw [Zyu _ (by omega), Option.bind_some, Y0c b _ (by omega)]; rfl
  cases hi : ofI l 1 with
  | none => rw [Zrt hi]; exact hend
  | some i =>
   show (bif ((true && decide (i.Table > (at_ : Int))) && decide (i.Table < 4)) then some (b, i.Table, true) else _) = _
   rw [Bool.true_and]
   by_cases hc : i.Table > (at_ : Int) ∧ i.Table < 4
   ·have hd : (decide (i.Table > (at_ : Int)) && decide (i.Table < 4)) = true := by
     rw [Bool.and_eq_true, decide_eq_true_eq, decide_eq_true_eq]; exact hc
    have : ((i.Table.toNat : Nat) : Int) = i.Table := by omega
    rw [Zrs hi hc, hd, cond_true]
    simp [this]
   ·have hd : (decide (i.Table > (at_ : Int)) && decide (i.Table < 4)) = false := by
     rw [Bool.and_eq_false_iff, decide_eq_false_iff_not, decide_eq_false_iff_not]; omega
    rw [Zto hi hc, hd, cond_false]
    exact hend
 have j3 : ∀ b : walk_way, b.atoms.length ≤ 2000 → b.set.length ≤ 2000 → Zfc l (at_ : Int) b = some (match Z1o at_ l with | some n => (Z3c b l, (n : Int), true) | none => (Z3p (Z3c b l), 0, false)) := fun b h1 h2 => by
  have b5 := Zr7 b l
  unfold Zfc
  rw [Z7c l 2 hl, Option.bind_some, ← j4 (Z3c b l) (by rw [b5.1]; omega) (by rw [b5.2.1]; omega)]
  unfold Z3c
  cases hi : ofI l 2 with
  | none => rfl
  | some i =>
   simp only [Z1l, cond_true]
   rw [Zhg]; rfl
 have j2 : ∀ b : walk_way, b.atoms.length ≤ 1500 → b.set.length ≤ 1500 → Zh7 l (at_ : Int) b = some (match Z1o at_ l with | some n => (Z3c (Z2v b l) l, (n : Int), true) | none => (Z3p (Z3c (Z2v b l) l), 0, false)) := fun b h1 h2 => by
  have b5 := Zk1 b hl
  unfold Zh7
  rw [Z7c l 3 hl, Option.bind_some, ← j3 (Z2v b l) (by rw [b5.1]; omega) (by have := b5.2.1; omega)]
  unfold Z2v
  cases hi : ofI l 3 with
  | none => rfl
  | some i =>
   have := hl i (Z86 hi)
   simp only [Z1l, cond_true]
   rw [Zsg _ _ (by omega)]; rfl
 have j1 : ∀ b : walk_way, b.atoms.length ≤ 1500 → b.set.length ≤ 1500 → Zem l (at_ : Int) b = some (match Z1o at_ l with | some n => (Z3c (Z2v (Z37 b l) l) l, (n : Int), true) | none => (Z3p (Z3c (Z2v (Z37 b l) l) l), 0, false)) := fun b h1 h2 => by
  have b5 := Zjk b l
  unfold Zem
  rw [Z7c l 5 hl, Option.bind_some, ← j2 (Z37 b l) (by rw [b5.1]; omega) (by have := b5.2.1; omega)]
  unfold Z37
  cases hi : ofI l 5 with
  | none => rfl
  | some i => rfl
 unfold Zk6
 rw [Z7c l 4 hl, Option.bind_some]
 have := j1 (Z39 w l) (by omega) (by rw [b1.2.1]; omega)
 unfold wdo
 rw [← this]
 unfold Z39
 cases hi : ofI l 4 with
 | none => rfl
 | some i =>
  have := hl i (Z86 hi)
  simp only [Z1l, cond_true]
  rw [Y0c w _ (by omega)]; rfl
def Z07 (s : Switch) (i : Nat) : List Flow := if h : i < 4 then Vector.get s.Tables ⟨i, h⟩ else []
theorem Zei (s : Switch) (i : Nat) (h : i < 4) : Vector.get s.Tables ⟨i, h⟩ = Z07 s i := by unfold Z07; rw [dif_pos h]
def Z38 (w : walk_way) : Rule := ⟨w.cube, w.atoms⟩
def Z48 (R : Nat → walk_way → List Rule) (t : List Flow) (at_ : Nat) (w : walk_way) (i : Int) : List Rule := match t[i.toNat]? with
 | none => []
 | some f => match Z4j w f with
  | none => []
  | some x => match Z1o at_ f.Insts with
   | some n => R n (wdo x f.Insts)
   | none => [Z38 (Z3p (wdo x f.Insts))]
def Z2j (s : Switch) : Nat → Nat → walk_way → List Rule
 | 0, _, w => [Z38 w]
 | d + 1, at_, w => (Z5e (Z07 s at_)).flatMap (Z48 (Z2j s d) (Z07 s at_) at_ w) ++ [Z38 w]
def Y43 (t : List Flow) : Prop := t.length < 20 ∧ ∀ f ∈ t, Z60 f.Insts
def Z7l (s : Switch) : Prop := ∀ i, i < 4 → Y43 (Z07 s i)
def Z4m (at_ : Nat) (w : walk_way) : Prop := w.atoms.length ≤ 12 * at_ ∧ w.set.length ≤ 12 * at_
theorem Y3n (w : walk_way) (h : w.atoms.length ≤ 100000) : Zfq w = some (Z38 w) := by
 have hlim : lim = 4294967296 := rfl
 unfold Zfq Zc0
 rw [Z17 (by simp; omega)]; rfl
theorem Zrg {w x : walk_way} {f : Flow} (h : Z4j w f = some x) : x.atoms = w.atoms ∧ x.set = w.set := by
 unfold Z4j at h
 obtain ⟨b, h1, h2⟩ := Option.bind_eq_some_iff.1 h
 obtain ⟨c, h3, h4⟩ := Option.map_eq_some_iff.1 h2
 subst h4
 exact ⟨rfl, rfl⟩
theorem Zuq (w : walk_way) : (Z3p w).atoms.length ≤ w.atoms.length + w.set.length := by
 have h1 := Zoh w.set
 have h2 := Zfe (Z4x w.set)
 show (w.atoms ++ _).length ≤ _
 rw [List.length_append, Zhc]; omega
def goP {σ : Type} (r : Lp σ) : Bool × Lp σ := (r.isGo, r)
theorem Y0h (sg : Type) (y : sg → Rule → Option (Lp sg)) (s : Switch) (at_ : Nat) (ha : at_ < 4) (hs : Y43 (Z07 s at_)) (w : walk_way) (hw : Z4m at_ w) (R : Lp sg → Switch → Int → walk_way → Option (Bool × Lp sg)) (Rm : Nat → walk_way → List Rule)
  (hR : ∀ (n : Nat) (x : walk_way) (z : sg), at_ < n → n < 4 → Z4m n x → R (.go z) s (n : Int) x = (yf y (Rm n x) z).map goP) :
  ∀ (l : List Int) (i : Nat) (z : sg), (∀ j ∈ l, ∃ k : Nat, k < (Z07 s at_).length ∧ j = (k : Int)) → Z6p sg w y (at_ : Int) s R l i (.go z) = (yf y (l.flatMap (Z48 Rm (Z07 s at_) at_ w) ++ [Z38 w]) z).map goP
 | [], i, z, _ => by
  rw [Z6p, Y3n w (by have := hw.1; omega), Option.bind_some]
  show (y z (Z38 w)).bind _ = _
  rw [List.flatMap_nil, List.nil_append, yf]
  cases y z (Z38 w) with
  | none => rfl
  | some r => cases r <;> rfl
 | j :: l, i, z, hl => by
  obtain ⟨k, hk, rfl⟩ := hl j (by simp)
  have ih := fun z => Y0h sg y s at_ ha hs w hw R Rm hR l (i + 1) z fun j hj => hl j (by simp [hj])
  have tail : ∀ (L : List Rule), ((yf y L z).map goP).bind (fun b24 => Zi0 sg (Z6p sg w y (at_ : Int) s R l) i b24.2 b24.1) = (yf y (L ++ (l.flatMap (Z48 Rm (Z07 s at_) at_ w) ++ [Z38 w])) z).map goP := fun L => by
   rw [Zso]
   cases yf y L z with
   | none => rfl
   | some r =>
    cases r with
    | out c q => rfl
    | go q => exact ih q
  rw [Z6p, Z2b ha, Option.bind_some, Zei, Z1w hk, Option.bind_some, List.flatMap_cons, List.append_assoc]
  have hf := hs.2 _ (List.getElem_mem hk)
  have hrule : Z48 Rm (Z07 s at_) at_ w (k : Int) = match Z4j w (Z07 s at_)[k] with
    | none => []
    | some x => match Z1o at_ (Z07 s at_)[k].Insts with
     | some n => Rm n (wdo x (Z07 s at_)[k].Insts)
     | none => [Z38 (Z3p (wdo x (Z07 s at_)[k].Insts))] := by
   unfold Z48
   rw [Int.toNat_natCast, List.getElem?_eq_getElem hk]
  obtain ⟨zz, hz⟩ := Ylc w (Z07 s at_)[k]
  rw [hrule, hz, Option.bind_some]
  cases hm : Z4j w (Z07 s at_)[k] with
  | none => exact ih z
  | some x =>
   have hx := Zrg hm
   have hwx : Z4m at_ x := by unfold Z4m; rw [hx.1, hx.2]; exact hw
   have hd := Zol x hf
   simp only [Z1l, Bool.not_true, cond_false]
   rw [Ya5 x at_ _ hf (by have := hwx.1; omega) (by have := hwx.2; omega), Option.bind_some]
   cases hn : Z1o at_ (Z07 s at_)[k].Insts with
   | some n =>
    have hnb := Zk5 hn
    simp only [cond_true]
    rw [hR n _ z hnb.1 hnb.2 ⟨by have := hwx.1; have := hd.1; omega, by have := hwx.2; have := hd.2.1; omega⟩]
    exact tail _
   | none =>
    simp only [cond_false]
    have he := Zuq (wdo x (Z07 s at_)[k].Insts)
    rw [Y3n _ (by have := hwx.1; have := hwx.2; have := hd.1; have := hd.2.1; omega), Option.bind_some, ← tail]
    show (y z (Z38 _)).bind _ = _
    rw [yf]
    cases y z (Z38 (Z3p (wdo x (Z07 s at_)[k].Insts))) with
    | none => rfl
    | some r => cases r <;> rfl
theorem Zxv (sg : Type) (y : sg → Rule → Option (Lp sg)) (s : Switch) (hs : Z7l s) : ∀ (d f at_ : Nat) (w : walk_way) (z : sg), 4 ≤ at_ + d → at_ < 4 → d ≤ f → Z4m at_ w →
  Ze3 sg y f (.go z) s (at_ : Int) w = (yf y (Z2j s d at_ w) z).map goP
 | 0, f, at_, w, z, h0, h1, _, _ => by omega
 | d + 1, 0, at_, w, z, _, _, h2, _ => by omega
 | d + 1, f + 1, at_, w, z, h1, ha, h2, hw => by
  have hl := hs at_ ha
  show Zlr sg y (Ze3 sg y f) (.go z) s (at_ : Int) w = _
  unfold Zlr
  rw [Z2b ha, Option.bind_some, Zei, Zzv _ hl.1, Option.bind_some, Z2j]
  exact Y0h sg y s at_ ha hl w hw _ (Z2j s d) (fun n x q h3 h4 h5 => Zxv sg y s hs d f n x q (by omega) h4 (by omega) h5) _ 0 z fun j hj => Zir.1 hj
def way0 : walk_way := ⟨Z1z, Z1z, [], []⟩
def Z3l (s : Switch) : List Rule := Z2j s 4 0 way0
theorem Yck (sg : Type) (y : sg → Rule → Option (Lp sg)) (s : Switch) (hs : Z7l s) (z : sg) : Zd5 sg y (.go z) s = yf y (Z3l s) z := by
 unfold Zd5 Zg8 Za4 Zs8
 rw [Option.bind_some, Option.bind_some]
 have := Zxv sg y s hs 4 Z0l 0 way0 z (by omega) (by omega) (by unfold Z0l; omega) ⟨by simp [way0], by simp [way0]⟩
 show (Ze3 sg y Z0l (.go z) s ((0 : Nat) : Int) way0).bind _ = _
 rw [this]
 show _ = yf y (Z2j s 4 0 way0) z
 cases yf y (Z2j s 4 0 way0) z <;> rfl
def Z5k (s : Switch) : Nat → Nat → Nat
 | 0, _ => 1
 | d + 1, at_ => ((Z07 s at_).length + 1) * Z5k s d (at_ + 1)
theorem Zvi (s : Switch) : ∀ (d at_ : Nat), 1 ≤ Z5k s d at_
 | 0, _ => Nat.le_refl _
 | d + 1, at_ => Nat.le_trans (Zvi s d (at_ + 1)) (Nat.le_mul_of_pos_left _ (by omega))
theorem Zrx (s : Switch) : ∀ (d at_ n : Nat), at_ + d = 4 → at_ ≤ n → n ≤ 4 → Z5k s (4 - n) n ≤ Z5k s d at_
 | 0, at_, n, h1, h2, h3 => by
  have : n = 4 := by omega
  subst this
  exact Nat.le_refl _
 | d + 1, at_, n, h1, h2, h3 => by
  by_cases e : n = at_
  ·subst e
   have : 4 - n = d + 1 := by omega
   rw [this]; exact Nat.le_refl _
  ·rw [Z5k]
   exact Nat.le_trans (Zrx s d (at_ + 1) n (by omega) (by omega) h3) (Nat.le_mul_of_pos_left _ (by omega))
theorem Zy0 {α β : Type} (f : α → List β) (k : Nat) : ∀ l : List α, (∀ x ∈ l, (f x).length ≤ k) → (l.flatMap f).length ≤ l.length * k
 | [], _ => by simp
 | x :: l, h => by
  rw [List.flatMap_cons, List.length_append, List.length_cons, Nat.add_mul, Nat.one_mul]
  have h1 := h x (by simp)
  have h2 := Zy0 f k l fun y hy => h y (by simp [hy])
  omega
theorem Zrp (s : Switch) : ∀ (d at_ : Nat) (w : walk_way), 4 ≤ at_ + d → at_ < 4 → (Z2j s d at_ w).length ≤ Z5k s (4 - at_) at_
 | 0, at_, w, h, h' => by omega
 | d + 1, at_, w, h, h' => by
  have e : 4 - at_ = (4 - (at_ + 1)) + 1 := by omega
  rw [Z2j, List.length_append, List.length_singleton, e, Z5k, Nat.add_mul, Nat.one_mul]
  have h1 := Zvi s (4 - (at_ + 1)) (at_ + 1)
  have h2 := Zy0 (Z48 (Z2j s d) (Z07 s at_) at_ w) (Z5k s (4 - (at_ + 1)) (at_ + 1)) (Z5e (Z07 s at_)) fun i hi => by
   unfold Z48
   split
   ·simp
   ·split
    ·simp
    ·split
     ·rename_i n hn
      have hb := Zk5 hn
      refine Nat.le_trans (Zrp s d n _ (by omega) hb.2) ?_
      exact Zrx s (4 - (at_ + 1)) (at_ + 1) n (by omega) (by omega) (by omega)
     ·simpa using h1
  rw [Y4a] at h2
  omega
theorem Zxb (s : Switch) : (Z3l s).length ≤ Z5k s 4 0 := Zrp s 4 0 way0 (by omega) (by omega)
theorem Yag (s : Switch) (hs : Z7l s) (h : Z5k s 4 0 ≤ lim) : Zgq s = some (Z3l s) := by
 unfold Zgq Zp4 Zp2 Zo3
 rw [Option.bind_some, Yhp (Z3l s) _ (fun y z => Yck _ y s hs z) (Nat.le_trans (Zxb s) h)]
 rfl
end Go.Proofs.YtknpgojdkobgjaaGreat.W
namespace Go.Proofs.YtknpgojdkobgjaaGreat.W
open Go Go.Wb
def Zle (l : List Inst) : Bool := decide ((l.length : Int) ≤ 8) && !(l.any fun i => !decide ((i.Acts.length : Int) ≤ 12))
theorem Ym3 (s : List Inst) (f : Inst → Option Bool) (p : Inst → Bool) (hf : ∀ x ∈ s, f x = some (p x)) : Zib s f = some (s.any p) := by
 unfold Zib; rw [Zx9 s f p hf, Option.bind_some, Zdd]
theorem Yfi (l : List Inst) : Zjh l = some (Zle l) := by
 unfold Zjh Zle
 rw [Ym3 l Zpe (fun i => !decide ((i.Acts.length : Int) ≤ 12)) (fun x _ => rfl)]
 cases decide ((l.length : Int) ≤ 8) <;> rfl
def Zhj (f : Flow) : Bool := decide ((f.Match.length : Int) ≤ 30) && Zle f.Insts
theorem Ylj (f : Flow) : Zjs f = some (Zhj f) := by
 unfold Zjs Zhj
 rw [Yfi]
 cases decide ((f.Match.length : Int) ≤ 30) <;> rfl
theorem Yee (s : List Flow) (f : Flow → Option Bool) (p : Flow → Bool) (hf : ∀ x ∈ s, f x = some (p x)) : Zld s f = some (Z0a p s) := by
 unfold Zld
 rw [show ((s.length : Int)).toNat = s.length by omega]
 exact Ze7 p (fun i => by rw [Zd0]) (fun m i => by rw [Zd0]) hf
theorem Y5n (s : List Flow) (f : Flow → Option Bool) (p : Flow → Bool) (hf : ∀ x ∈ s, f x = some (p x)) : Zks s f = some (s.any p) := by
 unfold Zks; rw [Yee s f p hf, Option.bind_some, Zdd]
def Zc9 (t : List Flow) (many : Int) : Bool := decide ((t.length : Int) ≤ many) && !(t.any fun f => !Zhj f)
theorem Yko (t : List Flow) (many : Int) : Zl0 t many = some (Zc9 t many) := by
 unfold Zl0 Zc9
 rw [Y5n t Zlt (fun f => !Zhj f) (fun f _ => by unfold Zlt; rw [Ylj]; rfl)]
 cases decide ((t.length : Int) ≤ many) <;> rfl
def Zas (s : Switch) (many : Int) : Bool := (Vector.toList s.Tables).all (fun t => Zc9 t many) && Zgk s.Groups 9 3
theorem Y1m (s : Switch) (many : Int) : ∀ (l : List (List Flow)) (i : Nat), Zam s many l i = some (l.all (fun t => Zc9 t many) && Zgk s.Groups 9 3)
 | [], i => by rw [Zam, Yir]; rfl
 | t :: l, i => by
  rw [Zam, Yko, Option.bind_some, Y1m s many l (i + 1), List.all_cons]
  cases Zc9 t many <;> rfl
theorem Y6s (s : Switch) (many : Int) : Zkh s many = some (Zas s many) := Y1m s many _ 0
theorem Yau (s : Switch) (i : Nat) (h : i < 4) : Z07 s i = (Vector.toList s.Tables)[i]'(by simp; exact h) := by
 rw [← Zei s i h, Vector.getElem_toList]; rfl
theorem Yg9 (s : Switch) (i : Nat) (h : i < 4) : Z07 s i ∈ Vector.toList s.Tables := by
 rw [Yau s i h]; exact List.getElem_mem _
theorem Y6y {l : List Inst} (h : Zle l = true) : l.length ≤ 8 ∧ Z60 l := by
 unfold Zle at h
 simp only [Bool.and_eq_true, decide_eq_true_eq, Bool.not_eq_true', List.any_eq_false] at h
 refine ⟨by omega, fun i hi => ?_⟩
 have h1 : decide ((i.Acts.length : Int) ≤ 12) = true := by simpa using h.2 i hi
 rw [decide_eq_true_eq] at h1
 omega
theorem Y9o {f : Flow} (h : Zhj f = true) : f.Match.length ≤ 30 ∧ f.Insts.length ≤ 8 ∧ Z60 f.Insts := by
 unfold Zhj at h
 rw [Bool.and_eq_true, decide_eq_true_eq] at h
 exact ⟨by omega, Y6y h.2⟩
theorem Yl7 {t : List Flow} {many : Nat} (h : Zc9 t (many : Int) = true) : t.length ≤ many ∧ ∀ f ∈ t, f.Match.length ≤ 30 ∧ f.Insts.length ≤ 8 ∧ Z60 f.Insts := by
 unfold Zc9 at h
 simp only [Bool.and_eq_true, decide_eq_true_eq, Bool.not_eq_true', List.any_eq_false] at h
 exact ⟨by omega, fun f hf => Y9o (by simpa using h.2 f hf)⟩
theorem Zke {s : Switch} {many : Nat} (h : Zas s (many : Int) = true) : (∀ i, i < 4 → (Z07 s i).length ≤ many ∧ ∀ f ∈ Z07 s i, f.Match.length ≤ 30 ∧ f.Insts.length ≤ 8 ∧ Z60 f.Insts) ∧ Z3u s.Groups := by
 unfold Zas at h
 rw [Bool.and_eq_true, List.all_eq_true] at h
 exact ⟨fun i hi => Yl7 (h.1 _ (Yg9 s i hi)), Ykg h.2⟩
theorem Yjw {s : Switch} {many : Nat} (h : Zas s (many : Int) = true) (hm : many < 20) : Z7l s := fun i hi => ⟨by have := ((Zke h).1 i hi).1; omega, fun f hf => (((Zke h).1 i hi).2 f hf).2.2⟩
theorem Y66 (s : Switch) (m : Nat) (h : ∀ i, i < 4 → (Z07 s i).length ≤ m) : Z5k s 4 0 ≤ (m + 1) * ((m + 1) * ((m + 1) * ((m + 1) * 1))) := by
 show ((Z07 s 0).length + 1) * (((Z07 s 1).length + 1) * (((Z07 s 2).length + 1) * (((Z07 s 3).length + 1) * 1))) ≤ _
 have h0 := h 0 (by omega)
 have h1 := h 1 (by omega)
 have h2 := h 2 (by omega)
 have h3 := h 3 (by omega)
 exact Nat.mul_le_mul (by omega) (Nat.mul_le_mul (by omega) (Nat.mul_le_mul (by omega) (Nat.mul_le_mul (by omega) (Nat.le_refl _))))
end Go.Proofs.YtknpgojdkobgjaaGreat.W
namespace Go.Proofs.YtknpgojdkobgjaaGreat.W
open Go Go.Wb
def Z9k (t : List Flow) (h : Header) (i : Int) : Bool := match t[i.toNat]? with
 | some f => Z0v (Z65 f) h
 | none => false
theorem Zos {t : List Flow} {h : Header} {k : Nat} (hk : k < t.length) : Z9k t h (k : Int) = Z0v (Z65 t[k]) h := by
 unfold Z9k
 rw [Int.toNat_natCast, List.getElem?_eq_getElem hk]
def Z7y (t : List Flow) (h : Header) : Option Int := (Z5e t).find? (Z9k t h)
theorem Zx1 (sg : Type) (t : List Flow) (h : Header) (y : sg → Int → Option (Lp sg)) : ∀ (l : List Int) (i : Nat) (z : sg), (∀ j ∈ l, ∃ k : Nat, k < t.length ∧ j = (k : Int)) → Zaj sg t h y l i (.go z) = yf y (l.filter (Z9k t h)) z
 | [], i, z, _ => rfl
 | j :: l, i, z, hl => by
  obtain ⟨k, hk, rfl⟩ := hl j (by simp)
  have ih := fun z => Zx1 sg t h y l (i + 1) z fun j hj => hl j (by simp [hj])
  rw [Zaj, Z1w hk, Option.bind_some, Zy9, Option.bind_some, Y2r, Option.bind_some]
  cases hc : Z0v (Z65 t[k]) h
  ·rw [Bool.not_false, cond_true, List.filter_cons_of_neg (by rw [Zos hk, hc]; simp)]
   exact ih z
  ·rw [Bool.not_true, cond_false, List.filter_cons_of_pos (by rw [Zos hk, hc])]
   show (y z (k : Int)).bind _ = _
   rw [yf]
   cases y z (k : Int) with
   | none => rfl
   | some r => cases r with
    | go q => exact ih q
    | out c q => rfl
theorem Yfq (t : List Flow) (h : Header) (ht : t.length < 20) : Zik t h = some (Z1l 0 (Z7y t h)) := by
 unfold Zik Znm
 rw [Option.bind_some]
 show (Zct (Int × Bool) (fun s x => Zig s.1 s.2 x) (.go (0, false)) t h).bind _ = _
 unfold Zct
 rw [Zzv t ht, Option.bind_some, Zx1 _ t h _ _ _ _ fun j hj => Zir.1 hj]
 unfold Z7y
 generalize Z5e t = l
 induction l with
 | nil => rfl
 | cons j l ih =>
  cases hj : Z9k t h j
  ·rw [List.filter_cons_of_neg (by simp [hj]), List.find?_cons_of_neg (by simp [hj])]; exact ih
  ·rw [List.filter_cons_of_pos hj, List.find?_cons_of_pos hj]; rfl
theorem Y0x {t : List Flow} {h : Header} {i : Int} (hf : Z7y t h = some i) : ∃ k : Nat, ∃ hk : k < t.length, i = (k : Int) ∧ Z0v (Z65 t[k]) h = true := by
 obtain ⟨k, hk, rfl⟩ := Zir.1 (List.mem_of_find?_eq_some hf)
 have := List.find?_some hf
 rw [Zos hk] at this
 exact ⟨k, hk, rfl, this⟩
theorem Zvq (l : List Oxm) (hl : l.length ≤ 100000) : ∀ (m i : Nat) (c : Cube), i ≤ l.length → l.length < i + m → Zbt l m c (i : Int) = some ((l.drop i).foldl Zd3 c)
 | 0, i, c, h1, h2 => by omega
 | m + 1, i, c, h1, h2 => by
  rw [Zbt]
  by_cases hi : i < l.length
  ·have ih := fun c => Zvq l hl m (i + 1) c (by omega) (by omega)
   rw [decide_eq_true (by omega), cond_true, Z1w hi, Option.bind_some, inc i (by omega), List.drop_eq_getElem_cons hi, List.foldl_cons]
   unfold Zak
   rw [Option.bind_some]
   by_cases h : 0 ≤ l[i].Field ∧ l[i].Field < 24
   ·obtain ⟨n, hn⟩ : ∃ n : Nat, l[i].Field = (n : Int) := ⟨l[i].Field.toNat, by omega⟩
    have hn24 : n < 24 := by have := h.2; omega
    have hd : (decide (l[i].Field ≥ 0) && decide (l[i].Field < 24)) = true := by simp; omega
    have hc : chk 24 l[i].Field = some ⟨n, hn24⟩ := by rw [hn]; exact Z2b hn24
    rw [hd, cond_true, Option.bind_some, Option.bind_some, Zxk, Option.bind_some, hc, Option.bind_some, Y3e c l[i] n hn hn24]
    exact ih _
   ·have hd : (decide (l[i].Field ≥ 0) && decide (l[i].Field < 24)) = false := by
     rw [Bool.and_eq_false_iff, decide_eq_false_iff_not, decide_eq_false_iff_not]; omega
    rw [hd, cond_false, Y3a c l[i] h]
    exact ih _
  ·rw [decide_eq_false (by omega), cond_false, List.drop_of_length_le (by omega)]; rfl
theorem Y6c (f : Flow) (hl : f.Match.length ≤ 100000) : Zln f = some (Z65 f) := by
 unfold Zln Zoj
 have := Zvq f.Match hl ((((f.Match.length : Int) : Int) - 0).toNat + 1) 0 Z1z (by omega) (by omega)
 rw [show ((0 : Nat) : Int) = 0 from rfl, List.drop_zero] at this
 show ((Zbt f.Match ((((f.Match.length : Int) : Int) - 0).toNat + 1) Z1z 0).bind _) = _
 rw [this, Option.bind_some, Yk7]; rfl
def inT (t : List Flow) (l : List Int) : Prop := ∀ j ∈ l, ∃ k : Nat, k < t.length ∧ j = (k : Int)
theorem Zrw (i : Nat) (hi : i ≤ 50) (go : List Int → Int → Option (List Int)) (A : List Int) (hA : A.length ≤ 50) : ∀ (Br S : List Int) (c : Int) (m : Nat), Br.length < m → Br.length ≤ 50 →
  Zc7 (A.length : Int) go (i : Int) m (A ++ (Br.reverse ++ c :: S)) ((A.length + Br.length : Nat) : Int) = go (A ++ (i : Int) :: (Br.reverse ++ S)) ((i + 1 : Nat) : Int)
 | [], S, c, m, hm, _ => by
  obtain ⟨m, rfl⟩ : ∃ k, m = k + 1 := ⟨m - 1, by simp at hm; omega⟩
  have g0 : lget (A ++ c :: S) (A.length : Int) = some c := by
   rw [Z66, List.getElem?_append_right (Nat.le_refl _)]; simp
  have s0 : List.set (A ++ c :: S) ((A.length : Int)).toNat (i : Int) = A ++ (i : Int) :: S := by
   rw [Int.toNat_natCast, List.set_append_right _ _ (Nat.le_refl _)]; simp
  rw [Zc7, decide_eq_false (by simp), cond_false]
  simp only [List.reverse_nil, List.nil_append]
  rw [g0, Option.bind_some, s0, inc i (by omega)]
 | b :: Br, S, c, m, hm, hb => by
  simp only [List.length_cons] at hm hb
  obtain ⟨m, rfl⟩ : ∃ k, m = k + 1 := ⟨m - 1, by omega⟩
  have e0 : A ++ ((b :: Br).reverse ++ c :: S) = (A ++ Br.reverse) ++ b :: c :: S := by simp
  have ej : IntKind.i64.wrap (((A.length + (b :: Br).length : Nat) : Int) - 1) = ((A.length + Br.length : Nat) : Int) := by rw [Z2i (by simp only [List.length_cons]; omega) (by simp only [List.length_cons]; omega)]; simp only [List.length_cons]; omega
  have hlen : (A ++ Br.reverse).length = A.length + Br.length := by simp
  have g0 : lget ((A ++ Br.reverse) ++ b :: c :: S) ((A.length + Br.length : Nat) : Int) = some b := by
   rw [Z66, List.getElem?_append_right (by omega), hlen, Nat.sub_self]; rfl
  have g1 : lget ((A ++ Br.reverse) ++ b :: c :: S) ((A.length + (b :: Br).length : Nat) : Int) = some c := by
   rw [Z66, List.getElem?_append_right (by simp only [List.length_cons]; omega), hlen]
   have : A.length + (b :: Br).length - (A.length + Br.length) = 1 := by simp only [List.length_cons]; omega
   rw [this]; rfl
  have s1 : List.set ((A ++ Br.reverse) ++ b :: c :: S) (((A.length + (b :: Br).length : Nat) : Int)).toNat b = A ++ (Br.reverse ++ b :: b :: S) := by
   rw [Int.toNat_natCast, List.set_append_right _ _ (by simp only [List.length_cons]; omega), hlen]
   have : A.length + (b :: Br).length - (A.length + Br.length) = 1 := by simp only [List.length_cons]; omega
   rw [this]; simp
  rw [e0, Zc7, decide_eq_true (by simp only [List.length_cons]; omega), cond_true, ej, g0, Option.bind_some, g1, Option.bind_some, s1, Zrw i hi go A hA Br (b :: S) b m (by omega) (by omega)]
  simp
theorem Zyz (t : List Flow) (ht : t.length ≤ 50) (i : Nat) (hi : i < t.length) (go : List Int → Int → Option (List Int)) : ∀ (Ar B : List Int) (m : Nat), Ar.length < m → Ar.length + B.length ≤ 50 → inT t Ar →
  Zcm (Ar.reverse ++ B) t (i : Int) go m (Ar.length : Int) = go ((Z0k (ltP t) (i : Int) Ar).reverse ++ B) ((i + 1 : Nat) : Int)
 | [], B, m, hm, hb, _ => by
  have hlim : lim = 4294967296 := rfl
  obtain ⟨m, rfl⟩ : ∃ k, m = k + 1 := ⟨m - 1, by simp at hm; omega⟩
  simp only [List.length_nil, Nat.zero_add] at hb
  rw [Zcm, show decide ((([] : List Int).length : Int) > 0) = false from rfl]
  simp only [Zor, Option.bind_some, Bool.false_and, cond_false, List.reverse_nil, List.nil_append]
  rw [Z17 (by simp; omega), Option.bind_some]
  have e1 : IntKind.i64.wrap (((B ++ [(0 : Int)]).length : Int) - 1) = ((([] : List Int).length + B.reverse.length : Nat) : Int) := by rw [Z2i (by simp <;> omega) (by simp <;> omega)]; simp
  have := Zrw i (by omega) go [] (by simp) B.reverse [] (0 : Int) ((((([] : List Int).length + B.reverse.length : Nat) : Int) - (([] : List Int).length : Int)).toNat + 1) (by simp <;> omega) (by simp <;> omega)
  simp only [List.nil_append, List.reverse_reverse, List.append_nil] at this
  rw [e1]
  refine Eq.trans this ?_
  simp [Z0k]
 | y :: Ar, B, m, hm, hb, hR => by
  have hlim : lim = 4294967296 := rfl
  obtain ⟨k, hk, rfl⟩ := hR y (by simp)
  simp only [List.length_cons] at hm hb
  obtain ⟨m, rfl⟩ : ∃ k, m = k + 1 := ⟨m - 1, by omega⟩
  have ej : IntKind.i64.wrap ((((k : Int) :: Ar).length : Int) - 1) = (Ar.length : Int) := by rw [Z2i (by simp only [List.length_cons]; omega) (by simp only [List.length_cons]; omega)]; simp only [List.length_cons]; omega
  have e0 : ((k : Int) :: Ar).reverse ++ B = Ar.reverse ++ (k : Int) :: B := by simp
  have g0 : lget (Ar.reverse ++ (k : Int) :: B) (Ar.length : Int) = some (k : Int) := by
   rw [Z66, List.getElem?_append_right (by simp)]; simp
  have elt : decide (t[k].Priority < t[i].Priority) = ltP t (i : Int) (k : Int) := by
   unfold ltP
   rw [Zna hi, Zna hk]
  rw [Zcm, decide_eq_true (by simp only [List.length_cons]; omega), Z4a, ej, e0, g0, Option.bind_some, Z4a, Z1w hk, Option.bind_some, Z4a, Z1w hi, Option.bind_some, Bool.true_and, Z0k, elt]
  cases ltP t (i : Int) (k : Int)
  ·rw [cond_false, cond_false, Z17 (by simp; omega), Option.bind_some]
   have e1 : IntKind.i64.wrap (((Ar.reverse ++ (k : Int) :: B ++ [(0 : Int)]).length : Int) - 1) = ((((k : Int) :: Ar).reverse.length + B.reverse.length : Nat) : Int) := by rw [Z2i (by simp; omega) (by simp; omega)]; simp; omega
   have := Zrw i (by omega) go ((k : Int) :: Ar).reverse (by simp; omega) B.reverse [] (0 : Int) ((((((k : Int) :: Ar).reverse.length + B.reverse.length : Nat) : Int) - (((k : Int) :: Ar).length : Int)).toNat + 1) (by simp; omega) (by simp; omega)
   simp only [List.reverse_reverse, List.append_nil] at this
   rw [e1]
   have e2 : Ar.reverse ++ (k : Int) :: B ++ [(0 : Int)] = ((k : Int) :: Ar).reverse ++ (B ++ [(0 : Int)]) := by simp
   have e3 : ((((k : Int) :: Ar).length : Int)) = ((((k : Int) :: Ar).reverse.length : Nat) : Int) := by simp
   rw [e2]
   rw [e3] at this ⊢
   refine Eq.trans this ?_
   simp
  ·rw [cond_true, cond_true, Zyz t ht i hi go Ar ((k : Int) :: B) m (by omega) (by simp only [List.length_cons]; omega) fun j hj => hR j (by simp [hj])]
   simp
theorem Y9u (n i : Nat) (h : i < n) : (places n).drop i = (i : Int) :: (places n).drop (i + 1) := by
 have hl : i < (places n).length := by simp [places]; exact h
 rw [List.drop_eq_getElem_cons hl]
 congr 1
 simp [places]
theorem Zx7 (t : List Flow) (hl : t.length ≤ 50) : ∀ (m i : Nat) (R : List Int), i ≤ t.length → t.length < i + m → R.length ≤ i → inT t R → Z9f t m R.reverse (i : Int) = some ((((places t.length).drop i).foldl (fun R x => Z0k (ltP t) x R) R).reverse)
 | 0, i, R, h1, h2, h3, _ => by omega
 | m + 1, i, R, h1, h2, h3, hR => by
  rw [Z9f]
  by_cases hi : i < t.length
  ·have h4 := Zyz t hl i hi (Z9f t m) R [] Z0l (by unfold Z0l; omega) (by simp; omega) hR
   rw [List.append_nil, List.append_nil] at h4
   have e : ((R.reverse).length : Int) = (R.length : Int) := by simp
   rw [decide_eq_true (by omega), cond_true, e, h4, Zx7 t hl m (i + 1) _ (by omega) (by omega) (by rw [Zew]; omega) (fun j hj => by
    rcases List.mem_cons.1 ((Zje (ltP t) (i : Int) R).mem_iff.1 hj) with rfl | hj
    ·exact ⟨i, hi, rfl⟩
    ·exact hR j hj), Y9u _ _ hi, List.foldl_cons]
  ·rw [decide_eq_false (by omega), cond_false, List.drop_of_length_le (by simp [places]; omega)]; rfl
theorem Yen (t : List Flow) (hl : t.length ≤ 50) : Zlg t = some (Z5e t) := by
 unfold Zlg Z5e srt
 have := Zx7 t hl ((((t.length : Int) : Int) - 0).toNat + 1) 0 [] (by omega) (by omega) (by simp) (by intro j hj; simp at hj)
 rw [show ((0 : Nat) : Int) = 0 from rfl, List.drop_zero] at this
 exact this
def Yiv (t : List Flow) : Prop := ∀ f ∈ t, f.Match.length ≤ 100000
theorem Zx4 (l : List Inst) (k : Int) (hl : l.length ≤ 100000) : ∀ (m i : Nat), i ≤ l.length → l.length < i + m → Zgg l k m (i : Int) = some (Z1l Zt3 (ofI (l.drop i) k))
 | 0, i, h1, h2 => by omega
 | m + 1, i, h1, h2 => by
  rw [Zgg]
  by_cases hi : i < l.length
  ·rw [decide_eq_true (by omega), cond_true, Z1w hi, Option.bind_some, List.drop_eq_getElem_cons hi, inc i (by omega), Zx4 l k hl m (i + 1) (by omega) (by omega)]
   unfold ofI
   rw [List.find?_cons]
   cases decide (l[i].Kind = k) <;> rfl
  ·rw [decide_eq_false (by omega), cond_false, List.drop_of_length_le (by omega)]; rfl
theorem Zin (l : List Inst) (k : Int) (hl : l.length ≤ 100000) : Z96 l k = some (Z1l Zt3 (ofI l k)) := by
 unfold Z96
 have := Zx4 l k hl ((((l.length : Int) : Int) - 0).toNat + 1) 0 (by omega) (by omega)
 rw [show ((0 : Nat) : Int) = 0 from rfl, List.drop_zero] at this
 exact this
end Go.Proofs.YtknpgojdkobgjaaGreat.W
namespace Go.Proofs.YtknpgojdkobgjaaGreat.W
open Go Go.Wb
theorem Zz0 (a b : Tern) : Zh2 a b = some (Z1l zTern (Z2a a b)) := by
 unfold Zh2 Z2a
 rw [Zqv, Option.bind_some, Y64, Option.bind_some, Zqv, Option.bind_some, Zwb, Option.bind_some]
 cases Z36 (Z1n (Z5h a.Value b.Value) (Z1n a.Mask b.Mask)) <;> rfl
theorem Y1t (a x : Cube) : ∀ (m i : Nat), i ≤ 24 → 24 < i + m → (∀ j, j < i → (Z2a (ve a j) (ve x j)).isSome = true) →
  Zbz a x m (Z2x (fun j => (Z2a (ve a j) (ve x j)).getD zTern) Z1z i) (i : Int) = some (Z1l Z1z (Z43 a x))
 | 0, i, h1, h2, _ => by omega
 | m + 1, i, h1, h2, h3 => by
  rw [Zbz]
  by_cases hi : i < 24
  ·rw [decide_eq_true (by omega), cond_true, Z2b hi, Option.bind_some, Option.bind_some, Z2r, Z2r, Zz0, Option.bind_some]
   cases ht : Z2a (ve a i) (ve x i) with
   | none =>
    rw [show (!(Z1l zTern (none : Option Tern)).2) = true from rfl, cond_true]
    unfold Z43
    rw [Y1f i hi ht]; rfl
   | some t =>
    rw [show (!(Z1l zTern (some t)).2) = false from rfl, cond_false, Option.bind_some, inc i (by omega)]
    have h4 := Z8a (fun j => (Z2a (ve a j) (ve x j)).getD zTern) Z1z i hi
    simp only [ht, Option.getD_some] at h4
    show Zbz a x m (Vector.set (Z2x _ Z1z i) i t hi) _ = _
    rw [h4]
    exact Y1t a x m (i + 1) (by omega) (by omega) fun j hj => by
     by_cases e : j = i
     ·subst e; rw [ht]; rfl
     ·exact h3 j (by omega)
  ·have : i = 24 := by omega
   subst this
   rw [decide_eq_false (by omega), cond_false, Z7o]
   have : Z43 a x = some (Vector.ofFn fun i => (Z2a (ve a i.1) (ve x i.1)).getD zTern) := by
    unfold Z43 Z6a
    rw [List.all_eq_true.2 fun j hj => h3 j (by simpa using hj), cond_true]
   rw [this]; rfl
theorem Y4m (a x : Cube) : Zeq a x = some (Z1l Z1z (Z43 a x)) := by
 unfold Zeq
 have := Y1t a x (((24 : Int) - 0).toNat + 1) 0 (by omega) (by decide) (by omega)
 rw [Z8i] at this
 exact this
theorem Zye (r c : Cube) : ∀ (m i : Nat), i ≤ 24 → 24 < i + m → (∀ j, j < i → (Z2a (ve r j) (ve c j)).isSome = true) →
  Zco r c m (Z2x (fun j => Z0w ⟨(ve c j).Value, Z31 (ve c j).Mask (ve r j).Mask⟩) Z1z i) (i : Int) = some (Z1l Z1z (Z4i r c))
 | 0, i, h1, h2, _ => by omega
 | m + 1, i, h1, h2, h3 => by
  rw [Zco]
  by_cases hi : i < 24
  ·rw [decide_eq_true (by omega), cond_true, Z2b hi, Option.bind_some, Option.bind_some, Z2r, Z2r, Zz0, Option.bind_some]
   cases ht : Z2a (ve r i) (ve c i) with
   | none =>
    rw [show (!(Z1l zTern (none : Option Tern)).2) = true from rfl, cond_true]
    unfold Z4i
    rw [show ((List.range 24).all fun i => (Z2a (ve r i) (ve c i)).isSome) = false from List.all_eq_false.2 ⟨i, by simpa using hi, by rw [ht]; simp⟩]; rfl
   | some t =>
    rw [show (!(Z1l zTern (some t)).2) = false from rfl, cond_false, Option.bind_some, Option.bind_some, Option.bind_some, Y0f, Option.bind_some, Z2r, Z2r, Zws, Option.bind_some, Option.bind_some, inc i (by omega)]
    have h4 := Z8a (fun j => Z0w ⟨(ve c j).Value, Z31 (ve c j).Mask (ve r j).Mask⟩) Z1z i hi
    show Zco r c m (Vector.set (Z2x _ Z1z i) i (Z0w ⟨(ve c i).Value, Z31 (ve c i).Mask (ve r i).Mask⟩) hi) _ = _
    rw [h4]
    exact Zye r c m (i + 1) (by omega) (by omega) fun j hj => by
     by_cases e : j = i
     ·subst e; rw [ht]; rfl
     ·exact h3 j (by omega)
  ·have : i = 24 := by omega
   subst this
   rw [decide_eq_false (by omega), cond_false, Z7o]
   unfold Z4i
   rw [show ((List.range 24).all fun i => (Z2a (ve r i) (ve c i)).isSome) = true from List.all_eq_true.2 fun j hj => h3 j (by simpa using hj)]; rfl
theorem Ygz (r c : Cube) : Zk0 r c = some (Z1l Z1z (Z4i r c)) := by
 unfold Zk0
 have := Zye r c (((24 : Int) - 0).toNat + 1) 0 (by omega) (by decide) (by omega)
 rw [Z8i] at this
 exact this
abbrev Ylx := Switch → Int → Cube → Cube → List Atom → List Action → Option (List Rule)
abbrev Y4t := Switch → Int → Flow → Cube → Cube → List Atom → List Action → Option (List Rule)
def Zoy (R : Nat → walk_way → List Rule) (at_ : Nat) (f : Flow) (x : walk_way) : List Rule := match Z1o at_ f.Insts with
 | some n => R n (wdo x f.Insts)
 | none => [Z38 (Z3p (wdo x f.Insts))]
theorem Y9g (s : Switch) (at_ : Nat) (f : Flow) (x : walk_way) (Rw : Ylx) (Ro : Y4t) (R : Nat → walk_way → List Rule) (hf : Z60 f.Insts) (hi : f.Insts.length ≤ 100000) (ha : at_ < 4) (hx : Z4m at_ x)
  (hR : ∀ n w, at_ < n → n < 4 → Z4m n w → Rw s (n : Int) w.cube w.got w.atoms w.set = some (R n w)) :
  Zhs Rw Ro s (at_ : Int) f x.cube x.got x.atoms x.set = some (Zoy R at_ f x) := by
 have hlim : lim = 4294967296 := rfl
 have hxa := hx.1
 have hxs := hx.2
 have b1 := Zu3 x hf
 have b2 := Zjk (Z39 x f.Insts) f.Insts
 have b3 := Zk1 (Z37 (Z39 x f.Insts) f.Insts) hf
 have b4 := Zol x hf
 have j4 : ∀ b : walk_way, b.atoms.length ≤ 2000 → b.set.length ≤ 50 → (∀ n, Z1o at_ f.Insts = some n → Z4m n b) → Zh8 f (at_ : Int) Rw s b.cube b.atoms b.set b.got = some (match Z1o at_ f.Insts with | some n => R n b | none => [Z38 (Z3p b)]) := fun b h1 h2 h3 => by
  unfold Zh8
  rw [Zin _ 1 hi, Option.bind_some]
  have hend : ((Zhp b.set).bind fun x24 => (Zcb x24 b.got).bind fun x25 => (Z0u b.atoms x25.1).bind fun l27 => some [(⟨b.cube, l27⟩ : Rule)]) = some [Z38 (Z3p b)] := by
   have h5 := Zoh b.set
   have h6 := Zfe (Z4x b.set)
   rw [Yl6 _ h2, Option.bind_some, Y45 _ _ (by omega), Option.bind_some, Z17 (by rw [Zhc]; omega)]; rfl
  cases ho : ofI f.Insts 1 with
  | none => rw [Zrt ho]; exact hend
  | some i =>
   show (bif ((true && decide (i.Table > (at_ : Int))) && decide (i.Table < 4)) then _ else _) = _
   rw [Bool.true_and]
   by_cases hc : i.Table > (at_ : Int) ∧ i.Table < 4
   ·have hd : (decide (i.Table > (at_ : Int)) && decide (i.Table < 4)) = true := by
     rw [Bool.and_eq_true, decide_eq_true_eq, decide_eq_true_eq]; exact hc
    have hn := Zrs ho hc
    have e : ((i.Table.toNat : Nat) : Int) = i.Table := by omega
    have h5 := hR i.Table.toNat b (by omega) (by omega) (h3 _ hn)
    rw [e] at h5
    rw [hn, hd, cond_true]
    show (Rw s i.Table b.cube b.got b.atoms b.set).bind _ = _
    rw [h5]; rfl
   ·have hd : (decide (i.Table > (at_ : Int)) && decide (i.Table < 4)) = false := by
     rw [Bool.and_eq_false_iff, decide_eq_false_iff_not, decide_eq_false_iff_not]; omega
    rw [Zto ho hc, hd, cond_false]
    exact hend
 have j3 : ∀ b : walk_way, b.atoms.length ≤ 2000 → b.set.length ≤ 50 → (∀ n, Z1o at_ f.Insts = some n → Z4m n b) → Zgt f b.got (at_ : Int) Rw s b.cube b.atoms b.set = some (match Z1o at_ f.Insts with | some n => R n (Z3c b f.Insts) | none => [Z38 (Z3p (Z3c b f.Insts))]) := fun b h1 h2 h3 => by
  have b5 := Zr7 b f.Insts
  unfold Zgt
  rw [Zin _ 2 hi, Option.bind_some, ← j4 (Z3c b f.Insts) (by rw [b5.1]; omega) (by rw [b5.2.1]; omega) (fun n hn => by unfold Z4m; rw [b5.1, b5.2.1]; exact h3 n hn)]
  unfold Z3c
  cases ho : ofI f.Insts 2 with
  | none => rfl
  | some i =>
   simp only [Z1l, cond_true]
   rw [Zkf]; rfl
 have j2 : ∀ b : walk_way, b.atoms.length ≤ 1500 → b.set.length ≤ 36 → (∀ n, Z1o at_ f.Insts = some n → Z4m n (Z2v b f.Insts)) → Zhl f b.got (at_ : Int) Rw s b.cube b.atoms b.set = some (match Z1o at_ f.Insts with | some n => R n (Z3c (Z2v b f.Insts) f.Insts) | none => [Z38 (Z3p (Z3c (Z2v b f.Insts) f.Insts))]) := fun b h1 h2 h3 => by
  have b5 := Zk1 b hf
  unfold Zhl
  rw [Zin _ 3 hi, Option.bind_some, ← j3 (Z2v b f.Insts) (by rw [b5.1]; omega) (by have := b5.2.1; omega) h3]
  unfold Z2v
  cases ho : ofI f.Insts 3 with
  | none => rfl
  | some i =>
   have := hf i (Z86 ho)
   simp only [Z1l, cond_true]
   rw [Y5e _ _ (by omega) (by omega)]; rfl
 have j1 : ∀ b : walk_way, b.atoms.length ≤ 1500 → b.set.length ≤ 36 → (∀ n, Z1o at_ f.Insts = some n → Z4m n (Z2v (Z37 b f.Insts) f.Insts)) → Zfj f (at_ : Int) Rw s b.cube b.set b.atoms b.got = some (match Z1o at_ f.Insts with | some n => R n (Z3c (Z2v (Z37 b f.Insts) f.Insts) f.Insts) | none => [Z38 (Z3p (Z3c (Z2v (Z37 b f.Insts) f.Insts) f.Insts))]) := fun b h1 h2 h3 => by
  have b5 := Zjk b f.Insts
  unfold Zfj
  rw [Zin _ 5 hi, Option.bind_some, ← j2 (Z37 b f.Insts) (by rw [b5.1]; omega) (by have := b5.2.1; omega) h3]
  unfold Z37
  cases ho : ofI f.Insts 5 with
  | none => rfl
  | some i => rfl
 have hn : ∀ n, Z1o at_ f.Insts = some n → Z4m n (Z2v (Z37 (Z39 x f.Insts) f.Insts) f.Insts) := fun n hn => by
  have h1 := Zk5 hn
  have h2 := b3.2.1
  have h3 := b2.2.1
  have h4 := b1.1
  exact ⟨by rw [b3.1, b2.1]; omega, by rw [b1.2.1] at h3; omega⟩
 have h1 := j1 (Z39 x f.Insts) (by omega) (by rw [b1.2.1]; omega) hn
 unfold Zhs Zoy wdo
 rw [Z17 (by simp; omega), Option.bind_some, List.nil_append, Zin _ 4 hi, Option.bind_some, ← h1]
 unfold Z39
 cases ho : ofI f.Insts 4 with
 | none => rfl
 | some i =>
  have h2 := hf i (Z86 ho)
  have h3 := Zfe i.Acts
  simp only [Z1l, cond_true]
  rw [Y45 _ _ (by omega), Option.bind_some, Z17 (by rw [Zhc]; omega)]; rfl
theorem Zvo (s : Switch) (at_ : Nat) (ha : at_ < 4) (hm : Yiv (Z07 s at_)) (w : walk_way) (hw : w.atoms.length ≤ 1000) (R : Nat → walk_way → List Rule) (Ro : Y4t) (o : List Int) (ho : inT (Z07 s at_) o) (hol : o.length ≤ 100)
  (hone : ∀ f ∈ Z07 s at_, ∀ x, Z4j w f = some x → Ro s (at_ : Int) f x.cube w.got w.atoms w.set = some (Zoy R at_ f x)) :
  ∀ (m i : Nat) (acc : List Rule), i ≤ o.length → o.length < i + m → acc.length + ((o.drop i).flatMap (Z48 R (Z07 s at_) at_ w)).length + 1 ≤ lim →
  Zb3 o (at_ : Int) s w.got w.cube Ro w.atoms w.set m acc (i : Int) = some (acc ++ (o.drop i).flatMap (Z48 R (Z07 s at_) at_ w) ++ [Z38 w])
 | 0, i, acc, h1, h2, _ => by omega
 | m + 1, i, acc, h1, h2, h3 => by
  have hlim : lim = 4294967296 := rfl
  rw [Zb3]
  by_cases hi : i < o.length
  ·obtain ⟨k, hk, hok⟩ := ho _ (List.getElem_mem hi)
   have hrule : Z48 R (Z07 s at_) at_ w (k : Int) = match Z4j w (Z07 s at_)[k] with
     | none => []
     | some x => Zoy R at_ (Z07 s at_)[k] x := by
    unfold Z48
    rw [Int.toNat_natCast, List.getElem?_eq_getElem hk] <;> rfl
   rw [List.drop_eq_getElem_cons hi, List.flatMap_cons, hok, hrule] at h3 ⊢
   have ih := fun acc => Zvo s at_ ha hm w hw R Ro o ho hol hone m (i + 1) acc (by omega) (by omega)
   rw [decide_eq_true (by omega), cond_true, Z2b ha, Option.bind_some, Z1w hi, Option.bind_some, hok, Zei, Z1w hk, Option.bind_some, Y6c _ (hm _ (List.getElem_mem hk)), Option.bind_some, Ygz, Option.bind_some, inc i (by omega)]
   have hmw : Z4j w (Z07 s at_)[k] = (Z4i w.got (Z65 (Z07 s at_)[k])).bind fun b => (Z43 b w.cube).map fun c => { w with cube := c } := rfl
   have hone := hone _ (List.getElem_mem hk)
   revert h3 hone
   rw [hmw]
   cases hb : Z4i w.got (Z65 (Z07 s at_)[k]) with
   | none =>
    intro h3 hone
    simp only [Z1l, Bool.not_false, cond_true, Option.bind_none, List.nil_append] at h3 ⊢
    exact ih acc h3
   | some b =>
    simp only [Z1l, Bool.not_true, cond_false, Option.bind_some]
    rw [Y4m, Option.bind_some]
    cases hc : Z43 b w.cube with
    | none =>
     intro h3 hone
     simp only [Z1l, cond_false, Option.map_none, List.nil_append] at h3 ⊢
     exact ih acc h3
    | some c =>
     intro h3 hone
     simp only [Z1l, cond_true, Option.map_some] at h3 ⊢
     have h4 := hone _ rfl
     simp only at h4
     rw [List.length_append] at h3
     rw [h4, Option.bind_some, Z17 (by omega), Option.bind_some, ih _ (by rw [List.length_append]; omega)]
     simp only [List.append_assoc]
  ·rw [decide_eq_false (by omega), cond_false, List.drop_of_length_le (by omega), Z17 (by simp; omega), Option.bind_some, Z17 (by simp; omega)]
   simp [Z38]
theorem Zwp (s : Switch) (hs : Z7l s) (hI : ∀ i, i < 4 → ∀ f ∈ Z07 s i, f.Insts.length ≤ 100000 ∧ f.Match.length ≤ 100000) (hmost : Z5k s 4 0 ≤ lim) : ∀ (d n at_ : Nat) (w : walk_way), 4 ≤ at_ + d → at_ < 4 → 2 * d ≤ n → Z4m at_ w →
  (Z4c n).1 s (at_ : Int) w.cube w.got w.atoms w.set = some (Z2j s d at_ w)
 | 0, n, at_, w, h0, h1, _, _ => by omega
 | d + 1, n, at_, w, h0, h1, h2, hw => by
  obtain ⟨n, rfl⟩ : ∃ k, n = k + 2 := ⟨n - 2, by omega⟩
  have hl := hs at_ h1
  have hlen := Zrp s (d + 1) at_ w h0 h1
  have hsk := Zrx s 4 0 at_ (by omega) (by omega) (by omega)
  show Zkb (Z4c (n + 1)).1 (Z4c (n + 1)).2 s (at_ : Int) w.cube w.got w.atoms w.set = _
  unfold Zkb
  rw [Z2b h1, Option.bind_some, Zei, Yen _ (by have := hl.1; omega), Option.bind_some]
  have hol := Y4a (Z07 s at_)
  have := Zvo s at_ h1 (fun f hf => (hI at_ h1 f hf).2) w (by have := hw.1; omega) (Z2j s d) (Z4c (n + 1)).2 (Z5e (Z07 s at_)) (fun j hj => Zir.1 hj) (by have := hl.1; omega) (fun f hf x hx => by
   have hb := Zrg hx
   have hg : x.got = w.got := by
    unfold Z4j at hx
    obtain ⟨b, _, h4⟩ := Option.bind_eq_some_iff.1 hx
    obtain ⟨c, _, h5⟩ := Option.map_eq_some_iff.1 h4
    subst h5; rfl
   show Zhs (Z4c n).1 (Z4c n).2 s (at_ : Int) f x.cube w.got w.atoms w.set = _
   rw [← hg, ← hb.1, ← hb.2]
   exact Y9g s at_ f x _ _ (Z2j s d) (hl.2 f hf) (hI at_ h1 f hf).1 h1 (by unfold Z4m; rw [hb.1, hb.2]; exact hw) fun k y h5 h6 h7 => Zwp s hs hI hmost d n k y (by omega) h6 (by omega) h7) ((((Z5e (Z07 s at_)).length : Int) - 0).toNat + 1) 0 [] (by omega) (by omega) (by
   rw [Z2j, List.length_append, List.length_singleton] at hlen
   rw [List.drop_zero, List.length_nil]; omega)
  rw [List.drop_zero, List.nil_append] at this
  exact this
theorem Yds (s : Switch) (hs : Z7l s) (hI : ∀ i, i < 4 → ∀ f ∈ Z07 s i, f.Insts.length ≤ 100000 ∧ f.Match.length ≤ 100000) (hmost : Z5k s 4 0 ≤ lim) : Zgp s = some (Z3l s) := by
 unfold Zgp Zmn Z8p Zqj
 rw [Option.bind_some, Option.bind_some]
 show ((Z4c Z0l).1 s ((0 : Nat) : Int) way0.cube way0.got way0.atoms way0.set).bind _ = _
 rw [Zwp s hs hI hmost 4 Z0l 0 way0 (by omega) (by omega) (by unfold Z0l; omega) ⟨by simp [way0], by simp [way0]⟩]; rfl
end Go.Proofs.YtknpgojdkobgjaaGreat.W
namespace Go.Proofs.YtknpgojdkobgjaaGreat.W
open Go Go.Wb
end Go.Proofs.YtknpgojdkobgjaaGreat.W
namespace Go.Proofs.YtknpgojdkobgjaaGreat.W
open Go Go.Wb
theorem Y27 (s : Switch) (hs : Z7l s) : ∀ (d at_ : Nat) (w : walk_way), at_ < 4 → Z4m at_ w → ∀ r ∈ Z2j s d at_ w, r.Atoms.length ≤ 1000
 | 0, at_, w, h4, hw, r, hr => by
  rw [Z2j, List.mem_singleton] at hr
  rw [hr]
  have := hw.1
  show w.atoms.length ≤ 1000
  omega
 | d + 1, at_, w, h4, hw, r, hr => by
  have h0 := hw.1
  have h1 := hw.2
  rw [Z2j] at hr
  rcases List.mem_append.1 hr with hr | hr
  ·obtain ⟨i, hi, hr⟩ := List.mem_flatMap.1 hr
   unfold Z48 at hr
   split at hr
   ·cases hr
   ·rename_i f hf
    have hfi := (hs at_ h4).2 f (List.mem_of_getElem? hf)
    split at hr
    ·cases hr
    ·rename_i x hx
     have hx := Zrg hx
     have hd := Zol x hfi
     rw [hx.1, hx.2] at hd
     split at hr
     ·rename_i n hn
      have hb := Zk5 hn
      exact Y27 s hs d _ _ hb.2 ⟨by omega, by omega⟩ r hr
     ·rw [List.mem_singleton] at hr
      rw [hr]
      have := Zuq (wdo x f.Insts)
      show (Z3p (wdo x f.Insts)).atoms.length ≤ 1000
      omega
  ·rw [List.mem_singleton] at hr
   rw [hr]
   show w.atoms.length ≤ 1000
   omega
theorem Zyl (s : Switch) (hs : Z7l s) : ∀ r ∈ Z3l s, r.Atoms.length ≤ 1000 := Y27 s hs 4 0 way0 (by omega) ⟨by simp [way0], by simp [way0]⟩
theorem Ym2 {s : Switch} {many : Nat} (h : Zas s (many : Int) = true) : ∀ i, i < 4 → ∀ f ∈ Z07 s i, f.Insts.length ≤ 100000 ∧ f.Match.length ≤ 100000 := fun i hi f hf => by
 have := ((Zke h).1 i hi).2 f hf
 omega
end Go.Proofs.YtknpgojdkobgjaaGreat.W
namespace Go.Proofs.YtknpgojdkobgjaaGreat.W
open Go Go.Wb
def nb (t : Tern) : Nat := (Z7k t.Mask).length
def Zed (x : Cube) : Nat → Nat → Nat
 | 0, _ => 0
 | m + 1, f => nb (ve x f) + Zed x m (f + 1)
def Z9w (x : Cube) : Nat := Zed x 24 0
theorem Zxq (t : Tern) : nb t ≤ 128 := by
 unfold nb Z7k
 exact Nat.le_trans (List.length_filter_le ..) (by simp)
theorem Y4s (x : Cube) : ∀ (m f : Nat), Zed x m f ≤ 128 * m
 | 0, _ => Nat.le_refl _
 | m + 1, f => by
  have h1 := Y4s x m (f + 1)
  have h2 := Zxq (ve x f)
  rw [Zed]; omega
theorem Ya2 (x : Cube) : Z9w x ≤ 3072 := Y4s x 24 0
theorem Zu1 (a : Wide) : ∀ (m i n : Nat), i ≤ 128 → 128 < i + m → n ≤ i → Zce a m (n : Int) (i : Int) = some ((n + ((List.range' i (128 - i)).filter (wt a)).length : Nat) : Int)
 | 0, i, n, h1, h2, _ => by omega
 | m + 1, i, n, h1, h2, h3 => by
  rw [Zce]
  by_cases hi : i < 128
  ·have e : 128 - i = (128 - (i + 1)) + 1 := by omega
   rw [decide_eq_true (by omega), cond_true, Y84 a i hi, Option.bind_some, inc i (by omega), e, List.range'_succ, List.filter_cons]
   cases wt a i
   ·rw [cond_false, Zu1 a m (i + 1) n (by omega) (by omega) (by omega)]; rfl
   ·rw [cond_true, inc n (by omega), Zu1 a m (i + 1) (n + 1) (by omega) (by omega) (by omega), if_pos rfl, List.length_cons]
    congr 2; omega
  ·have : i = 128 := by omega
   subst this
   rw [decide_eq_false (by omega), cond_false]; simp
theorem Yfr (t : Tern) : Zj5 t.Mask = some (nb t : Int) := by
 unfold Zj5 nb Z7k
 have := Zu1 t.Mask (((128 : Int) - 0).toNat + 1) 0 0 (by omega) (by decide) (by omega)
 rw [Nat.zero_add, Nat.sub_zero, ← List.range_eq_range'] at this
 exact this
theorem Zzl (x : Cube) : ∀ (m f n : Nat), f ≤ 24 → 24 < f + m → n ≤ 128 * f → Zgb x m (n : Int) (f : Int) = some ((n + Zed x (24 - f) f : Nat) : Int)
 | 0, f, n, h1, h2, _ => by omega
 | m + 1, f, n, h1, h2, h3 => by
  rw [Zgb]
  by_cases hf : f < 24
  ·have e : 24 - f = (24 - (f + 1)) + 1 := by omega
   have hb := Zxq (ve x f)
   rw [decide_eq_true (by omega), cond_true, Z2b hf, Option.bind_some, Z2r, Yfr, Option.bind_some, inc f (by omega), Z2i (by omega) (by omega), show (n : Int) + (nb (ve x f) : Int) = ((n + nb (ve x f) : Nat) : Int) by omega, Zzl x m (f + 1) _ (by omega) (by omega) (by omega), e, Zed]
   congr 2; omega
  ·have : f = 24 := by omega
   subst this
   rw [decide_eq_false (by omega), cond_false]; simp [Zed]
theorem Yif (x : Cube) : Zis x = some (Z9w x : Int) := by
 unfold Zis
 have := Zzl x (((24 : Int) - 0).toNat + 1) 0 0 (by omega) (by decide) (by omega)
 rw [Nat.zero_add] at this
 exact this
def U : Int := 1099511627776
def Zda : List Cube → Nat
 | [] => 1
 | x :: l => max (Z9w x) 1 * Zda l
theorem Zq8 : ∀ l, 1 ≤ Zda l
 | [] => Nat.le_refl _
 | x :: l => by
  rw [Zda]
  exact Nat.le_trans (Zq8 l) (Nat.le_mul_of_pos_left _ (by omega))
def Y9n (l : List Cube) : Nat := (l.length + 1) * Zda l
def Z63 (c : Cube) (l : List Cube) : List Cube := l.filter (Z41 c)
def Zyp (c : Cube) (l : List Cube) : Nat := Y9n (Z63 c l)
theorem Y9a {c : Cube} {l : List Cube} {i : Nat} (h : Z5d c l 0 = some i) : ∃ hi : i < l.length, Z41 c l[i] = true ∧ Z63 c l = l[i] :: Z63 c (l.drop (i + 1)) := by
 have hs := Zrr c l 0
 rw [h] at hs
 obtain ⟨j, h1, h2, h3, h4⟩ := hs
 have : i = j := by omega
 subst this
 refine ⟨h2, h3, ?_⟩
 have e : l = l.take i ++ l[i] :: l.drop (i + 1) := by
  rw [← List.drop_eq_getElem_cons h2, List.take_append_drop]
 have e0 : (l.take i).filter (Z41 c) = [] := List.filter_eq_nil_iff.2 fun x hx => by rw [h4 x hx]; simp
 have : Z63 c (l.take i ++ l[i] :: l.drop (i + 1)) = l[i] :: Z63 c (l.drop (i + 1)) := by
  unfold Z63
  rw [List.filter_append, e0, List.nil_append, List.filter_cons, if_pos h3]
 rw [← e] at this
 exact this
def Z6j (k : Nat) : Nat := min k 1099511627776
theorem Zv2 (a b : Nat) : Z22 (a : Int) (b : Int) = ((max a b : Nat) : Int) := by
 unfold Z22
 by_cases h : (b : Int) > (a : Int)
 ·rw [decide_eq_true h, cond_true]; omega
 ·rw [decide_eq_false h, cond_false]; omega
theorem Y1b (a : Nat) : Z5a (a : Int) 1099511627776 = (Z6j a : Int) := by
 unfold Z5a Z6j
 by_cases h : (1099511627776 : Int) < (a : Int)
 ·rw [decide_eq_true h, cond_true]; omega
 ·rw [decide_eq_false h, cond_false]; omega
theorem Zzx (a P : Nat) (hP : 1 ≤ P) : Z6j (Z6j a * P) = Z6j (a * P) := by
 unfold Z6j
 by_cases h : a ≤ 1099511627776
 ·rw [Nat.min_eq_left h]
 ·have h1 : 1099511627776 * 1 ≤ 1099511627776 * P := Nat.mul_le_mul_left _ hP
  have h2 : 1099511627776 * P ≤ a * P := Nat.mul_le_mul_right _ (by omega)
  rw [Nat.min_eq_right (show 1099511627776 ≤ a by omega)]; omega
theorem Yat (n : Nat) (x : Cube) (hn : n ≤ 1099511627776) : Z5a (IntKind.i64.wrap ((n : Int) * Z22 (Z9w x : Int) 1)) 1099511627776 = (Z6j (n * max (Z9w x) 1) : Int) := by
 have h1 := Ya2 x
 have h2 : Z22 (Z9w x : Int) 1 = ((max (Z9w x) 1 : Nat) : Int) := Zv2 (Z9w x) 1
 have h3 : n * max (Z9w x) 1 ≤ 1099511627776 * 3072 := Nat.mul_le_mul hn (by omega)
 rw [h2, ← Int.natCast_mul, Z2i (by omega) (by omega), Y1b]
theorem Zxw (n : Nat) : Z6j n ≤ 1099511627776 := Nat.min_le_right ..
theorem Yk4 (c : Cube) (l : List Cube) : (Z63 c l).length ≤ l.length := List.length_filter_le ..
theorem Zq2 (l : List Cube) (c : Cube) (hl : l.length ≤ 1000000) : ∀ (m i : Nat) (acc : List Cube), i ≤ l.length → l.length < i + m → acc.length ≤ i → Zdg l c m acc (i : Int) = some (acc ++ Z63 c (l.drop i))
 | 0, i, acc, h1, h2, _ => by omega
 | m + 1, i, acc, h1, h2, h3 => by
  have hlim : lim = 4294967296 := rfl
  rw [Zdg]
  by_cases hi : i < l.length
  ·rw [decide_eq_true (by omega), cond_true, Z1w hi, Option.bind_some, Y4m, Option.bind_some, Zup, Option.bind_some, inc i (by omega), List.drop_eq_getElem_cons hi]
   unfold Z63
   rw [List.filter_cons]
   show (bif Z41 c l[i] then _ else _) = _
   cases Z41 c l[i]
   ·rw [cond_false, Zq2 l c hl m (i + 1) acc (by omega) (by omega) (by omega)]; rfl
   ·rw [cond_true, Z17 (by simp; omega), Option.bind_some, Zq2 l c hl m (i + 1) _ (by omega) (by omega) (by simp; omega)]
    simp [Z63]
  ·rw [decide_eq_false (by omega), cond_false, List.drop_of_length_le (by omega)]
   simp [Z63]
theorem Zxo (l : List Cube) (hl : l.length ≤ 1000000) : ∀ (m i n : Nat), i ≤ l.length → l.length < i + m → n ≤ 1099511627776 → Zhk l m (n : Int) (i : Int) = some (Z6j (n * Zda (l.drop i)) : Int)
 | 0, i, n, h1, h2, _ => by omega
 | m + 1, i, n, h1, h2, h3 => by
  rw [Zhk]
  by_cases hi : i < l.length
  ·rw [decide_eq_true (by omega), cond_true, Z1w hi, Option.bind_some, Yif, Option.bind_some, Yat _ _ h3, inc i (by omega), Zxo l hl m (i + 1) _ (by omega) (by omega) (Zxw _), Zzx _ _ (Zq8 _), List.drop_eq_getElem_cons hi, Zda, Nat.mul_assoc]
  ·rw [decide_eq_false (by omega), cond_false, List.drop_of_length_le (by omega), Zda, Nat.mul_one]
   unfold Z6j
   rw [Nat.min_eq_left h3]
theorem Yil (c : Cube) (l : List Cube) (h : l.length ≤ 1000000) : Zkt c l = some (Z6j (Zyp c l) : Int) := by
 unfold Zkt Zp6
 have hl := Yk4 c l
 have h1 := Zq2 l c h ((((l.length : Int) : Int) - 0).toNat + 1) 0 [] (by omega) (by omega) (by simp)
 rw [show ((0 : Nat) : Int) = 0 from rfl, List.drop_zero, List.nil_append] at h1
 have h2 := Zxo (Z63 c l) (by omega) (((((Z63 c l).length : Int) : Int) - 0).toNat + 1) 0 (Z6j ((Z63 c l).length + 1)) (by omega) (by omega) (Zxw _)
 rw [show ((0 : Nat) : Int) = 0 from rfl, List.drop_zero] at h2
 rw [h1, Option.bind_some, inc _ (by omega), Y1b, h2, Zzx _ _ (Zq8 _)]; rfl
def Znu (all : List Cube) : List Cube → Nat → Nat → Nat
 | [], _, n => n
 | x :: l, i, n => Znu all l (i + 1) (max n (Z6j (Zyp x (all.take i))))
def Y2m (l : List Rule) : Nat := Znu (l.map (·.Cube)) (l.map (·.Cube)) 0 0
theorem Y3g (l : List Rule) (hl : l.length ≤ 1000000) : ∀ (m i n : Nat), i ≤ l.length → l.length < i + m → Zev l m (n : Int) (i : Int) = some (Znu (l.map (·.Cube)) ((l.drop i).map (·.Cube)) i n : Int)
 | 0, i, n, h1, h2 => by omega
 | m + 1, i, n, h1, h2 => by
  rw [Zev]
  by_cases hi : i < l.length
  ·rw [decide_eq_true (by omega), cond_true, Z1w hi, Option.bind_some, Yd0 _ _ (by omega), Option.bind_some, Yce _ (by rw [List.length_take]; omega), Option.bind_some, Yil _ _ (by simp; omega), Option.bind_some, Zv2, inc i (by omega), Y3g l hl m (i + 1) _ (by omega) (by omega), List.drop_eq_getElem_cons hi, List.map_cons, Znu, List.map_take]
  ·rw [decide_eq_false (by omega), cond_false, List.drop_of_length_le (by omega)]; rfl
theorem Ycm (l : List Rule) (h : l.length ≤ 1000000) : Zju l = some (Y2m l : Int) := by
 unfold Zju
 exact Y3g l h ((((l.length : Int) : Int) - 0).toNat + 1) 0 0 (by omega) (by omega)
theorem Y13 (c : Cube) (l : List Cube) (most : Int) : (Z4v c l most).2.2 = 0 ∨ Z4v c l most = (Z4b, false, 5) := by
 unfold Z4v
 cases decide ((Zeb c l most).2.2 < 0)
 ·exact .inl rfl
 ·exact .inr rfl
def Z49 (most : Int) : List Rule → List Rule → List Rule × Int
 | [], kept => (kept, 0)
 | r :: l, kept => bif decide ((Z4v r.Cube (kept.map (·.Cube)) most).2.2 ≠ 0) then ([], 5) else bif (Z4v r.Cube (kept.map (·.Cube)) most).2.1 then Z49 most l (kept ++ [r]) else Z49 most l kept
theorem Zys (l : List Rule) (h : ∀ r ∈ l, r.Atoms.length ≤ 1000000) : ∀ (m i : Nat), i + m = l.length → Zat m i l = some l
 | 0, i, _ => by rw [Zat]
 | m + 1, i, hi => by
  have hlim : lim = 4294967296 := rfl
  have hlt : i < l.length := by omega
  have ha := h l[i] (List.getElem_mem hlt)
  have e : List.set l ((i : Int)).toNat { l[i] with Atoms := l[i].Atoms } = l := by
   rw [Int.toNat_natCast]; exact List.set_getElem_self hlt
  rw [Zat, Z1w hlt, Option.bind_some]
  unfold Zc0
  rw [Z17 (by simp; omega), Option.bind_some, Option.bind_some, List.nil_append, e]
  exact Zys l h m (i + 1) (by omega)
theorem Ybg (l : List Rule) (hl : l.length ≤ 1000000) (h : ∀ r ∈ l, r.Atoms.length ≤ 1000000) : Ziw l = some l := by
 have hlim : lim = 4294967296 := rfl
 unfold Ziw Zow
 rw [Z17 (by simp; omega), Option.bind_some, List.nil_append, show ((l.length : Int)).toNat = l.length by omega]
 exact Zys l h l.length 0 (by omega)
theorem Zrb (most : Int) (hm : most ≤ 9223372036854775807) : ∀ (l : List Rule) (i : Nat) (kept : List Rule), kept.length + l.length ≤ 1000000 → (∀ r ∈ kept, r.Atoms.length ≤ 1000000) → (∀ r ∈ l, r.Atoms.length ≤ 1000000) →
  Z8u most l i kept (kept.map (·.Cube)) = some (Z49 most l kept)
 | [], i, kept, h, h1, _ => by
  rw [Z8u, Ybg kept (by simpa using h) h1]; rfl
 | r :: l, i, kept, h, h1, h2 => by
  have hlim : lim = 4294967296 := rfl
  simp only [List.length_cons] at h
  rw [Z8u, Yip _ _ _ hm (by simp; omega), Option.bind_some, Z49]
  rcases Y13 r.Cube (kept.map (·.Cube)) most with he | he
  ·rw [he, decide_eq_false (by omega), cond_false, cond_false]
   cases (Z4v r.Cube (kept.map (·.Cube)) most).2.1
   ·exact Zrb most hm l (i + 1) kept (by omega) h1 fun q hq => h2 q (by simp [hq])
   ·rw [Bool.not_true, cond_false, cond_true, Z17 (by simp; omega), Option.bind_some, Z17 (by simp; omega), Option.bind_some]
    have := Zrb most hm l (i + 1) (kept ++ [r]) (by simp; omega) (fun q hq => by
     rcases List.mem_append.1 hq with hq | hq
     ·exact h1 q hq
     ·rw [List.mem_singleton.1 hq]; exact h2 r (by simp)) fun q hq => h2 q (by simp [hq])
    rw [List.map_append] at this
    exact this
  ·rw [he]; rfl
theorem Zo4 (most : Int) : ∀ (l kept : List Rule), (Z49 most l kept).2 = 0 ∨ Z49 most l kept = ([], 5)
 | [], kept => .inl rfl
 | r :: l, kept => by
  rw [Z49]
  cases decide ((Z4v r.Cube (kept.map (·.Cube)) most).2.2 ≠ 0)
  ·cases (Z4v r.Cube (kept.map (·.Cube)) most).2.1
   ·exact Zo4 most l kept
   ·exact Zo4 most l _
  ·exact .inr rfl
theorem Zpx (most : Int) : ∀ (l kept : List Rule), (Z49 most l kept).1.length ≤ kept.length + l.length ∧ ∀ r ∈ (Z49 most l kept).1, r ∈ kept ∨ r ∈ l
 | [], kept => ⟨by simp [Z49], fun r hr => .inl hr⟩
 | r :: l, kept => by
  rw [Z49]
  cases decide ((Z4v r.Cube (kept.map (·.Cube)) most).2.2 ≠ 0)
  ·cases (Z4v r.Cube (kept.map (·.Cube)) most).2.1
   ·have := Zpx most l kept
    rw [cond_false, cond_false]
    exact ⟨by simp; omega, fun q hq => (this.2 q hq).imp id fun h => by simp [h]⟩
   ·have := Zpx most l (kept ++ [r])
    rw [cond_false, cond_true]
    refine ⟨by have := this.1; simp at this ⊢; omega, fun q hq => ?_⟩
    rcases this.2 q hq with h | h
    ·rcases List.mem_append.1 h with h | h
     ·exact .inl h
     ·rw [List.mem_singleton.1 h]; exact .inr (by simp)
    ·exact .inr (by simp [h])
  ·exact ⟨by simp, fun q hq => by simp at hq⟩
end Go.Proofs.YtknpgojdkobgjaaGreat.W
namespace Go.Proofs.YtknpgojdkobgjaaGreat.W
open Go Go.Wb
end Go.Proofs.YtknpgojdkobgjaaGreat.W
namespace Go.Proofs.YtknpgojdkobgjaaGreat.W
open Go Go.Wb
theorem Ye5 {l : List Group} (h : Z3u l) (i : Nat) : Z3u (l.drop i) := ⟨by have := h.1; rw [List.length_drop]; omega, fun g hg => h.2 g (List.mem_of_mem_drop hg)⟩
theorem Y1o (G : List Group) (hG : Z3u G) : ∀ (l : List Group) (i : Nat) (acc : List Group), l = G.drop i → acc.length + l.length ≤ 1000 → Zaw G l i acc = some (acc ++ l)
 | [], i, acc, _, _ => by simp [Zaw]
 | g :: l, i, acc, h, hl => by
  have hlim : lim = 4294967296 := rfl
  have hi : i < G.length := by
   have := congrArg List.length h
   simp at this; omega
  simp only [List.length_cons] at hl
  have h2 := h
  rw [List.drop_eq_getElem_cons hi] at h2
  obtain ⟨e1, e2⟩ := List.cons.inj h2
  have hf : Za6 (G.drop i) g.ID = some g := by
   unfold Za6
   rw [← h, List.find?_cons_of_pos (by simp)]
  rw [Zaw, Y2h _ _ (by omega), Option.bind_some, Zs0 _ _ (Ye5 hG i), hf, Option.bind_some]
  show (Z0u acc [g]).bind _ = _
  rw [Z17 (by simp; omega), Option.bind_some, Y1o G hG l (i + 1) _ e2 (by simp; omega)]
  simp
theorem Ymg (G : List Group) (hG : Z3u G) : Zjr G = some G := by
 unfold Zjr
 have h9 := hG.1
 exact Y1o G hG G 0 [] rfl (by simp; omega)
structure SW (s : Switch) : Prop where
 lt : Z7l s
 G : Z3u s.Groups
 I : ∀ i, i < 4 → ∀ f ∈ Z07 s i, f.Insts.length ≤ 100000 ∧ f.Match.length ≤ 100000
 most : Z5k s 4 0 ≤ 6561
theorem Zut {s : Switch} {m : Nat} (h : Zas s (m : Int) = true) (hm : m ≤ 8) : SW s := ⟨Yjw h (by omega), (Zke h).2, Ym2 h, by
 have h1 := Y66 s 8 fun i hi => by have := ((Zke h).1 i hi).1; omega
 omega⟩
theorem SW.len {s : Switch} (h : SW s) : (Z3l s).length ≤ 6561 := Nat.le_trans (Zxb s) h.most
theorem SW.walk {s : Switch} (h : SW s) : Zgq s = some (Z3l s) := Yag s h.lt (by have := h.most; have hlim : lim = 4294967296 := rfl; omega)
theorem SW.walkR {s : Switch} (h : SW s) : Zgp s = some (Z3l s) := Yds s h.lt h.I (by have := h.most; have hlim : lim = 4294967296 := rfl; omega)
def Z6g (s : Switch) (most : Int) : List Rule × Int := Z49 most (Z3l s) []
def Z4l (s : Switch) (most : Int) : Flat × Int := bif decide ((Z6g s most).2 ≠ 0) then (⟨[], []⟩, 5) else (⟨(Z6g s most).1, s.Groups⟩, 0)
theorem Yk6 (s : Switch) (h : SW s) (most : Int) (hm : most ≤ 9223372036854775807) : Zon (Z3l s) most = some (Z6g s most) := by
 have h1 := h.len
 have h2 := Zyl s h.lt
 exact Zrb most hm (Z3l s) 0 [] (by simp; omega) (by simp) fun r hr => by have := h2 r hr; omega
theorem Y6i (s : Switch) (h : SW s) (most : Int) (hm : most ≤ 9223372036854775807) : Ziy s most = some (Z4l s most) := by
 unfold Ziy Z4l
 rw [h.walk, Option.bind_some, Yk6 s h most hm, Option.bind_some]
 rcases Zo4 most (Z3l s) [] with he | he
 ·rw [show (Z6g s most).2 = 0 from he, decide_eq_false (by omega), cond_false, cond_false, Ymg _ h.G]; rfl
 ·rw [show Z6g s most = ([], 5) from he]; rfl
def Y0b (s : Switch) : Nat := Y2m (Z3l s)
theorem Y5v (s : Switch) (h : SW s) : Zfb s = some (Y0b s : Int) := by
 unfold Zfb
 rw [h.walkR, Option.bind_some, Ycm _ (by have := h.len; omega)]; rfl
def Zfx (s : Switch) (most : Int) : Bool := Zas s 3 && (decide (most ≤ 1024) || decide ((Y0b s : Int) ≤ 4096))
theorem Ybd (s : Switch) (most : Int) : ((Zkh s 3).bind fun x4 => (opt ((x4 == true) && ((decide (most ≤ 1024)) == false)) (Zfb s)).bind fun x5 => some (x4 && ((decide (most ≤ 1024)) || (decide (x5 ≤ 4096))))) = some (Zfx s most) := by
 unfold Zfx
 rw [Y6s, Option.bind_some]
 cases hf : Zas s 3
 ·rfl
 ·rw [Y5v s (Zut (m := 3) hf (by omega))]
  cases decide (most ≤ 1024) <;> rfl
theorem Ykv {s : Switch} {most : Int} (h : Zfx s most = true) : SW s := by
 unfold Zfx at h
 rw [Bool.and_eq_true] at h
 exact Zut (m := 3) h.1 (by omega)
theorem Yku (s : Switch) (h : SW s) (most : Int) : (Z4l s most).1.Rules.length ≤ 6561 ∧ (∀ r ∈ (Z4l s most).1.Rules, r.Atoms.length ≤ 1000) ∧ Z3u (Z4l s most).1.Groups := by
 unfold Z4l
 cases decide ((Z6g s most).2 ≠ 0)
 ·have h1 := Zpx most (Z3l s) []
  have h2 := h.len
  refine ⟨?_, fun r hr => ?_, h.G⟩
  ·have := h1.1
   simp at this
   show (Z49 most (Z3l s) []).1.length ≤ _
   omega
  ·rcases h1.2 r hr with h3 | h3
   ·simp at h3
   ·exact Zyl s h.lt r h3
 ·exact ⟨by simp, fun r hr => by simp at hr, ⟨by simp, fun g hg => by simp at hg⟩⟩
end Go.Proofs.YtknpgojdkobgjaaGreat.W
namespace Go.Proofs.YtknpgojdkobgjaaGreat.W
open Go Go.Wb
structure Z1q where
 h : Header
 set : List Action
 out : List Out
def Zoe (G : Int → Header → List Out) (p : Z1q) (l : List Action) : Z1q := ⟨(doA G l [] p.h).2, p.set, p.out ++ (doA G l [] p.h).1⟩
def Z5z (G : Int → Header → List Out) (p : Z1q) (l : List Inst) : Z1q := match ofI l 4 with
 | some i => Zoe G p i.Acts
 | none => p
def Z5n (p : Z1q) (l : List Inst) : Z1q := match ofI l 5 with
 | some _ => { p with set := [] }
 | none => p
def Z5j (p : Z1q) (l : List Inst) : Z1q := match ofI l 3 with
 | some i => { p with set := i.Acts.foldl wr1 p.set }
 | none => p
def Z64 (p : Z1q) (l : List Inst) : Z1q := match ofI l 2 with
 | some i => { p with h := Z2l (Z54 Z1z 1 i.Value i.Mask) p.h }
 | none => p
def sdo (G : Int → Header → List Out) (p : Z1q) (l : List Inst) : Z1q := Z64 (Z5j (Z5n (Z5z G p l) l) l) l
def Zgi (G : Int → Header → List Out) (p : Z1q) : Z1q := Zoe G p (Z4x p.set)
def bdG (G : Int → Header → List Out) : Prop := ∀ id h, (G id h).length ≤ 6561
theorem Zqn (l : List Group) (e : Env) (hl : Z3u l) : bdG (goG l e 8) := fun id h => Zft l e hl 8 id h
theorem Y39 {G : Int → Header → List Out} (hG : bdG G) (l : List Action) (h : Header) : (doA G l [] h).1.length ≤ l.length * 6561 :=
 Nat.le_trans (Zoi G 6561 (by omega) hG l h) (Nat.mul_le_mul_right _ (Zfe l))
theorem Y51 {G : Int → Header → List Out} (hG : bdG G) (p : Z1q) {l : List Inst} (hl : Z60 l) : (Z5z G p l).out.length ≤ p.out.length + 78732 ∧ (Z5z G p l).set = p.set := by
 unfold Z5z
 split
 ·rename_i i hi
  have h1 := hl i (Z86 hi)
  have h2 := Y39 hG i.Acts p.h
  refine ⟨?_, rfl⟩
  show (p.out ++ _).length ≤ _
  rw [List.length_append]; omega
 ·exact ⟨by omega, rfl⟩
theorem Zvn (p : Z1q) (l : List Inst) : (Z5n p l).out = p.out ∧ (Z5n p l).set.length ≤ p.set.length := by
 unfold Z5n
 split
 ·exact ⟨rfl, by simp⟩
 ·exact ⟨rfl, by omega⟩
theorem Y7c (p : Z1q) {l : List Inst} (hl : Z60 l) : (Z5j p l).out = p.out ∧ (Z5j p l).set.length ≤ p.set.length + 12 := by
 unfold Z5j
 split
 ·rename_i i hi
  have h1 := hl i (Z86 hi)
  have h2 := Zn4 i.Acts p.set
  exact ⟨rfl, by show (i.Acts.foldl wr1 p.set).length ≤ _; omega⟩
 ·exact ⟨rfl, by omega⟩
theorem Yar (p : Z1q) (l : List Inst) : (Z64 p l).out = p.out ∧ (Z64 p l).set = p.set := by
 unfold Z64
 split
 ·exact ⟨rfl, rfl⟩
 ·exact ⟨rfl, rfl⟩
theorem Y9c {G : Int → Header → List Out} (hG : bdG G) (p : Z1q) {l : List Inst} (hl : Z60 l) : (sdo G p l).out.length ≤ p.out.length + 78732 ∧ (sdo G p l).set.length ≤ p.set.length + 12 := by
 have h1 := Y51 hG p hl
 have h2 := Zvn (Z5z G p l) l
 have h3 := Y7c (Z5n (Z5z G p l) l) hl
 have h4 := Yar (Z5j (Z5n (Z5z G p l) l) l) l
 unfold sdo
 refine ⟨?_, ?_⟩
 ·rw [h4.1, h3.1, h2.1]; exact h1.1
 ·rw [h4.2]
  have := h3.2
  have := h2.2
  rw [h1.2] at this
  omega
def Z6u (s : Switch) (G : Int → Header → List Out) : Nat → Nat → Z1q → List Place → Z1q × List Place
 | 0, _, p, q => (p, q)
 | d + 1, at_, p, q => match Z7y (Z07 s at_) p.h with
  | none => (p, q ++ [⟨(at_ : Int), -1⟩])
  | some i => match (Z07 s at_)[i.toNat]? with
   | none => (p, q)
   | some f => match Z1o at_ f.Insts with
    | some n => Z6u s G d n (sdo G p f.Insts) (q ++ [⟨(at_ : Int), i⟩])
    | none => (Zgi G (sdo G p f.Insts), q ++ [⟨(at_ : Int), i⟩])
theorem Zuz {s : Switch} {G : Int → Header → List Out} {d at_ : Nat} {p : Z1q} {q : List Place} (h : Z7y (Z07 s at_) p.h = none) : Z6u s G (d + 1) at_ p q = (p, q ++ [⟨(at_ : Int), -1⟩]) := by
 rw [Z6u, h]
theorem Zv5 {s : Switch} {G : Int → Header → List Out} {d at_ k : Nat} {p : Z1q} {q : List Place} (h : Z7y (Z07 s at_) p.h = some (k : Int)) (hk : k < (Z07 s at_).length) : Z6u s G (d + 1) at_ p q = match Z1o at_ (Z07 s at_)[k].Insts with
  | some n => Z6u s G d n (sdo G p (Z07 s at_)[k].Insts) (q ++ [⟨(at_ : Int), (k : Int)⟩])
  | none => (Zgi G (sdo G p (Z07 s at_)[k].Insts), q ++ [⟨(at_ : Int), (k : Int)⟩]) := by
 rw [Z6u, h]
 simp only
 rw [Int.toNat_natCast, List.getElem?_eq_getElem hk]
def Y2v (at_ : Nat) (p : Z1q) (q : List Place) : Prop := p.out.length ≤ 78732 * at_ ∧ p.set.length ≤ 12 * at_ ∧ q.length ≤ at_
def sst (s : Switch) (e : Env) (p : Z1q) (q : List Place) : Z2t := ⟨s, e, p.h, p.set, p.out, q⟩
theorem Zw7 (s : Switch) (e : Env) (hG : Z3u s.Groups) (p : Z1q) (q : List Place) (l : List Action) (hl : l.length ≤ 100) (hp : p.out.length ≤ 1000000) : Zba (sst s e p q) l = some (sst s e (Zoe (goG s.Groups e 8) p l) q) := by
 have hlim : lim = 4294967296 := rfl
 have hb := Y39 (Zqn s.Groups e hG) l p.h
 unfold Zba
 show (Zg3 s.Groups e l p.h).bind _ = _
 rw [Ya3 _ _ _ _ hG hl, Option.bind_some]
 show (Z0u p.out (doA (goG s.Groups e 8) l [] p.h).1).bind _ = _
 rw [Z17 (by omega)]; rfl
theorem Yjo (s : Switch) (e : Env) (hG : Z3u s.Groups) (p : Z1q) (q : List Place) (at_ : Nat) (l : List Inst) (hl : Z60 l) (hp : p.out.length ≤ 500000) (hs : p.set.length ≤ 100) :
  ∃ X : Int, Zf3 (sst s e p q) (at_ : Int) l = some (match Z1o at_ l with | some n => ((n : Int), true, sst s e (sdo (goG s.Groups e 8) p l) q) | none => (X, false, sst s e (sdo (goG s.Groups e 8) p l) q)) := by
 have hlim : lim = 4294967296 := rfl
 have hbG := Zqn s.Groups e hG
 have j4 : ∃ X : Int, ∀ b : Z1q, Zd8 l (at_ : Int) b.out q s e b.h b.set = some (match Z1o at_ l with | some n => ((n : Int), true, sst s e b q) | none => (X, false, sst s e b q)) := by
  cases hi : ofI l 1 with
  | none =>
   refine ⟨0, fun b => ?_⟩
   unfold Zd8
   rw [Z7c l 1 hl, Option.bind_some, Zrt hi, hi]; rfl
  | some i =>
   refine ⟨i.Table, fun b => ?_⟩
   unfold Zd8
   rw [Z7c l 1 hl, Option.bind_some, hi]
   show some (i.Table, ((true && decide (i.Table > (at_ : Int))) && decide (i.Table < 4)), sst s e b q) = _
   rw [Bool.true_and]
   by_cases hc : i.Table > (at_ : Int) ∧ i.Table < 4
   ·have hd : (decide (i.Table > (at_ : Int)) && decide (i.Table < 4)) = true := by
     rw [Bool.and_eq_true, decide_eq_true_eq, decide_eq_true_eq]; exact hc
    have : ((i.Table.toNat : Nat) : Int) = i.Table := by omega
    rw [Zrs hi hc, hd]
    simp [this]
   ·have hd : (decide (i.Table > (at_ : Int)) && decide (i.Table < 4)) = false := by
     rw [Bool.and_eq_false_iff, decide_eq_false_iff_not, decide_eq_false_iff_not]; omega
    rw [Zto hi hc, hd]
 obtain ⟨X, j4⟩ := j4
 refine ⟨X, ?_⟩
 have j3 : ∀ b : Z1q, Zf6 l (at_ : Int) b.out q s e b.h b.set = some (match Z1o at_ l with | some n => ((n : Int), true, sst s e (Z64 b l) q) | none => (X, false, sst s e (Z64 b l) q)) := fun b => by
  unfold Zf6
  rw [Z7c l 2 hl, Option.bind_some, ← j4 (Z64 b l)]
  unfold Z64
  cases hi : ofI l 2 with
  | none => rfl
  | some i =>
   simp only [Z1l, cond_true]
   rw [show Za4 = some Z1z from rfl, Option.bind_some, Zhg, Option.bind_some, Zr6]; rfl
 have j2 : ∀ b : Z1q, b.set.length ≤ 200 → Zgu l (at_ : Int) b.out q s e b.h b.set = some (match Z1o at_ l with | some n => ((n : Int), true, sst s e (Z64 (Z5j b l) l) q) | none => (X, false, sst s e (Z64 (Z5j b l) l) q)) := fun b h2 => by
  unfold Zgu
  rw [Z7c l 3 hl, Option.bind_some, ← j3 (Z5j b l)]
  unfold Z5j
  cases hi : ofI l 3 with
  | none => rfl
  | some i =>
   have := hl i (Z86 hi)
   simp only [Z1l, cond_true]
   rw [Zsg _ _ (by omega)]; rfl
 have j1 : ∀ b : Z1q, b.set.length ≤ 200 → Zh3 l (at_ : Int) b.out q s e b.h b.set = some (match Z1o at_ l with | some n => ((n : Int), true, sst s e (Z64 (Z5j (Z5n b l) l) l) q) | none => (X, false, sst s e (Z64 (Z5j (Z5n b l) l) l) q)) := fun b h2 => by
  have b5 := Zvn b l
  unfold Zh3
  rw [Z7c l 5 hl, Option.bind_some, ← j2 (Z5n b l) (by have := b5.2; omega)]
  unfold Z5n
  cases hi : ofI l 5 with
  | none => rfl
  | some i => rfl
 unfold Zf3
 rw [Z7c l 4 hl, Option.bind_some]
 have := j1 (Z5z (goG s.Groups e 8) p l) (by rw [(Y51 hbG p hl).2]; omega)
 unfold sdo
 rw [← this]
 unfold Z5z
 cases hi : ofI l 4 with
 | none => rfl
 | some i =>
  have := hl i (Z86 hi)
  simp only [Z1l, cond_true]
  show (Zba (sst s e p q) i.Acts).bind _ = _
  rw [Zw7 s e hG p q i.Acts (by omega) (by omega)]; rfl
theorem Y3u (s : Switch) (e : Env) (hs : Z7l s) (hG : Z3u s.Groups) : ∀ (d at_ m : Nat) (p : Z1q) (q : List Place), 4 ≤ at_ + d → at_ < 4 → d ≤ m → Y2v at_ p q →
  Zcq m p.out q s e p.h p.set (at_ : Int) = some (sst s e (Z6u s (goG s.Groups e 8) d at_ p q).1 (Z6u s (goG s.Groups e 8) d at_ p q).2)
 | 0, at_, m, p, q, h0, h1, _, _ => by omega
 | d + 1, at_, 0, p, q, _, _, h2, _ => by omega
 | d + 1, at_, m + 1, p, q, h1, ha, h2, hb => by
  have hlim : lim = 4294967296 := rfl
  have hl := hs at_ ha
  have b0 := hb.1
  have b1 := hb.2.1
  have b2 := hb.2.2
  rw [Zcq, Z2b ha, Option.bind_some, Zei, Yfq _ _ hl.1, Option.bind_some]
  cases hf : Z7y (Z07 s at_) p.h with
  | none =>
   rw [Zuz hf]
   simp only [Z1l, Bool.not_false, cond_true]
   rw [Z17 (by simp; omega)]; rfl
  | some i =>
   obtain ⟨k, hk, rfl, _⟩ := Y0x hf
   rw [Zv5 hf hk]
   simp only [Z1l, Bool.not_true, cond_false]
   rw [Z17 (by simp; omega), Option.bind_some, Option.bind_some, Zei, Z1w hk, Option.bind_some]
   have hli := hl.2 _ (List.getElem_mem hk)
   obtain ⟨X, hX⟩ := Yjo s e hG p (q ++ [⟨(at_ : Int), (k : Int)⟩]) at_ _ hli (by omega) (by omega)
   have bd := Y9c (Zqn s.Groups e hG) p hli
   show (Zf3 (sst s e p (q ++ [⟨(at_ : Int), (k : Int)⟩])) (at_ : Int) (Z07 s at_)[k].Insts).bind _ = _
   rw [hX, Option.bind_some]
   generalize sdo (goG s.Groups e 8) p (Z07 s at_)[k].Insts = P at *
   generalize hQ : q ++ [(⟨(at_ : Int), (k : Int)⟩ : Place)] = Q at *
   have hQl : Q.length = q.length + 1 := by rw [← hQ]; simp
   cases hn : Z1o at_ (Z07 s at_)[k].Insts with
   | some n =>
    have hnb := Zk5 hn
    simp only [Bool.not_true, cond_false]
    exact Y3u s e hs hG d n m P Q (by omega) (by omega) (by omega) ⟨by omega, by omega, by omega⟩
   | none =>
    simp only [Bool.not_false, cond_true]
    have hls := Zoh P.set
    have h5 := Zyu P.set (by omega)
    have h6 := Zw7 s e hG P Q (Z4x P.set) (by omega) (by omega)
    show ((Z79 P.set).bind fun x35 => (Zba (sst s e P Q) x35).bind fun b36 => some b36) = _
    rw [h5, Option.bind_some, h6, Option.bind_some]; rfl
def Z8e (h : Header) : Z1q := ⟨h, [], []⟩
def Zo7 (s : Switch) (e : Env) (h : Header) : Z1q × List Place := Z6u s (goG s.Groups e 8) 4 0 (Z8e h) []
theorem Ygm (h : Header) : Y2v 0 (Z8e h) [] := ⟨by simp [Z8e], by simp [Z8e], by simp⟩
theorem Yf4 (s : Switch) (e : Env) (h : Header) (hs : Z7l s) (hG : Z3u s.Groups) : Zi1 s e h = some (Zo7 s e h).1.out := by
 unfold Zi1 Znq
 have := Y3u s e hs hG 4 0 Z0l (Z8e h) [] (by omega) (by omega) (by unfold Z0l; omega) (Ygm h)
 show (Zcq Z0l (Z8e h).out [] s e (Z8e h).h (Z8e h).set ((0 : Nat) : Int)).bind _ = _
 rw [this]; rfl
end Go.Proofs.YtknpgojdkobgjaaGreat.W
namespace Go.Proofs.YtknpgojdkobgjaaGreat.W
open Go Go.Wb
theorem Zwh {r c b : Cube} (h : Z4i r c = some b) (v : Header) : Z0v b v = true ↔ Z0v c (Z2l r v) = true := by
 unfold Z4i at h
 cases ha : (List.range 24).all (fun i => (Z2a (ve r i) (ve c i)).isSome)
 ·rw [ha] at h; cases h
 ·rw [ha, cond_true] at h
  rw [List.all_eq_true] at ha
  obtain rfl := Option.some.inj h
  rw [Z4d, Z4d]
  have key : ∀ f, f < 24 → (Z3h (ve (Vector.ofFn fun i : _root_.Fin 24 => Z0w ⟨(ve c i.1).Value, Z31 (ve c i.1).Mask (ve r i.1).Mask⟩) f) (ve v f) = true ↔ Z3h (ve c f) (ve (Z2l r v) f) = true) := fun f hf => by
   rw [Z7h (fun i => Z0w ⟨(ve c i).Value, Z31 (ve c i).Mask (ve r i).Mask⟩) f hf, Zs1, Z75 _ _ _ hf, Z47, Z47]
   have h1 := Zv8 (ha f (by simpa using hf))
   constructor
   ·intro h2 k hk hm
    have h3 := h2 k hk
    have h4 := h1 k hk
    simp only [Z6e _ _ _ hk, Z5q, Z3d] at h3 ⊢
    revert h3 h4
    rw [hm]
    cases wt (ve r f).Mask k <;> cases wt (ve r f).Value k <;> cases wt (ve c f).Value k <;> cases wt (ve v f) k <;> simp
   ·intro h2 k hk hm
    have h3 := h2 k hk
    have h4 := h1 k hk
    simp only [Z6e _ _ _ hk, Z5q, Z3d] at h3 hm
    revert h3 h4 hm
    cases wt (ve c f).Mask k <;> cases wt (ve r f).Mask k <;> cases wt (ve r f).Value k <;> cases wt (ve c f).Value k <;> cases wt (ve v f) k <;> simp
  exact ⟨fun h2 f hf => (key f hf).1 (h2 f hf), fun h2 f hf => (key f hf).2 (h2 f hf)⟩
theorem Ye3 {r c : Cube} (h : Z4i r c = none) (v : Header) (hc : Z0v c (Z2l r v) = true) : False := by
 unfold Z4i at h
 cases ha : (List.range 24).all (fun i => (Z2a (ve r i) (ve c i)).isSome)
 ·rw [List.all_eq_false] at ha
  obtain ⟨f, hf, h1⟩ := ha
  have hf : f < 24 := by simpa using hf
  have h2 := (Z4d _ _).1 hc f hf
  rw [Z75 _ _ _ hf, Z47] at h2
  unfold Z2a at h1
  cases hz : Z36 (Z1n (Z5h (ve r f).Value (ve c f).Value) (Z1n (ve r f).Mask (ve c f).Mask))
  ·obtain ⟨k, hk, h3⟩ := Zxf hz
   have h4 := h2 k hk
   simp only [Z6e _ _ _ hk, Z5q, Z3d, Zde] at h3 h4
   revert h3 h4
   cases wt (ve c f).Mask k <;> cases wt (ve r f).Mask k <;> cases wt (ve r f).Value k <;> cases wt (ve c f).Value k <;> cases wt (ve v f) k <;> simp
  ·rw [hz] at h1; simp at h1
 ·rw [ha] at h; cases h
theorem Y3f {w x : walk_way} {f : Flow} (h : Z4j w f = some x) (h0 : Header) : x = { w with cube := x.cube } ∧ (Z0v x.cube h0 = true ↔ Z0v (Z65 f) (Z2l w.got h0) = true ∧ Z0v w.cube h0 = true) := by
 unfold Z4j at h
 obtain ⟨b, h1, h2⟩ := Option.bind_eq_some_iff.1 h
 obtain ⟨c, h3, h4⟩ := Option.map_eq_some_iff.1 h2
 subst h4
 exact ⟨rfl, by rw [Yi3 h3, Zwh h1]⟩
theorem Y75 {w : walk_way} {f : Flow} (h : Z4j w f = none) (h0 : Header) (h1 : Z0v (Z65 f) (Z2l w.got h0) = true) (h2 : Z0v w.cube h0 = true) : False := by
 unfold Z4j at h
 cases hb : Z4i w.got (Z65 f) with
 | none => exact Ye3 hb h0 h1
 | some b =>
  rw [hb, Option.bind_some, Option.map_eq_none_iff] at h
  exact Ymf h h0 ((Zwh hb h0).2 h1) h2
theorem Y7h (h : Header) : Z2l Z1z h = h := Z6l fun f hf => by
 rw [Z75 _ _ _ hf]
 unfold Z1z
 rw [Zm0 _ _ hf]
 exact Z9l fun k hk => by
  simp only [Z5q, Z6e _ _ _ hk, Z3d]
  have : wt zTern.Mask k = false := Zby k
  rw [this]; simp
theorem Ym8 (h : Header) : Z0v Z1z h = true := (Z4d _ _).2 fun f hf => (Z47 _ _).2 fun k hk hm => by
 unfold Z1z at hm
 rw [Zm0 _ _ hf] at hm
 have : wt zTern.Mask k = false := Zby k
 rw [this] at hm; cases hm
theorem Y4h (r : Cube) (v m : Wide) (f : Nat) (hf : f < 24) : ve (Z54 r 1 v m) f = if f = 1 then Z2w (Z0w (ve r 1)) ⟨v, m⟩ else Z0w (ve r f) := by
 unfold Z54
 rw [show (decide ((1 : Int) ≥ 0) && decide ((1 : Int) < 24)) = true from rfl, cond_true, Z7h (fun i => if (1 : Int).toNat = i then Z2w (ve (Z12 r) (1 : Int).toNat) ⟨v, m⟩ else ve (Z12 r) i) f hf]
 show (if 1 = f then Z2w (ve (Z12 r) 1) ⟨v, m⟩ else ve (Z12 r) f) = _
 by_cases h : f = 1
 ·subst h
  rw [if_pos rfl, if_pos rfl, Z7m _ _ hf]
 ·rw [if_neg (fun e => h e.symm), if_neg h, Z7m _ _ hf]
theorem Ylo (r : Cube) (v m : Wide) (h : Header) : Z2l (Z54 r 1 v m) h = Z2l (Z54 Z1z 1 v m) (Z2l r h) := Z6l fun f hf => by
 rw [Z75 _ _ _ hf, Z75 _ _ _ hf, Z75 _ _ _ hf, Y4h _ _ _ _ hf, Y4h _ _ _ _ hf]
 have z1 : ∀ k, wt (ve Z1z f).Mask k = false := fun k => by
  unfold Z1z
  rw [Zm0 _ _ hf]; exact Zby k
 by_cases h1 : f = 1
 ·subst h1
  rw [if_pos rfl, if_pos rfl]
  unfold Z2w Z0w
  exact Z9l fun k hk => by
   simp only [Z3d, Z5q, Z6e _ _ _ hk, z1]
   cases wt (ve h 1) k <;> cases wt (ve r 1).Value k <;> cases wt (ve r 1).Mask k <;> cases wt v k <;> cases wt m k <;> simp
 ·rw [if_neg h1, if_neg h1]
  unfold Z0w
  exact Z9l fun k hk => by
   simp only [Z3d, Z5q, Z6e _ _ _ hk, z1]
   cases wt (ve h f) k <;> cases wt (ve r f).Value k <;> cases wt (ve r f).Mask k <;> simp
structure RW (G : Int → Header → List Out) (h0 : Header) (w : walk_way) (p : Z1q) : Prop where
 h : p.h = Z2l w.got h0
 set : p.set = w.set
 out : p.out = w.atoms.flatMap (Z5i G h0)
theorem RW.act {G : Int → Header → List Out} {h0 : Header} {w : walk_way} {p : Z1q} (h : RW G h0 w p) (l : List Action) : RW G h0 (Znx w l) (Zoe G p l) := by
 have e : doA G l [] p.h = ((doT l (Z12 w.got)).1.flatMap (Z5i G h0), Z2l (doT l (Z12 w.got)).2 h0) := by
  rw [h.h, ← Ydc, Zmz]
 refine ⟨?_, h.set, ?_⟩
 ·show (doA G l [] p.h).2 = _
  rw [e]; rfl
 ·show p.out ++ (doA G l [] p.h).1 = (w.atoms ++ (doT l (Z12 w.got)).1).flatMap (Z5i G h0)
  rw [e, h.out, List.flatMap_append]
theorem RW.do_ {G : Int → Header → List Out} {h0 : Header} {w : walk_way} {p : Z1q} (h : RW G h0 w p) (l : List Inst) : RW G h0 (wdo w l) (sdo G p l) := by
 have h1 : RW G h0 (Z39 w l) (Z5z G p l) := by
  unfold Z39 Z5z
  cases ofI l 4 with
  | none => exact h
  | some i => exact h.act _
 have h2 : RW G h0 (Z37 (Z39 w l) l) (Z5n (Z5z G p l) l) := by
  unfold Z37 Z5n
  cases ofI l 5 with
  | none => exact h1
  | some i => exact ⟨h1.h, rfl, h1.out⟩
 have h3 : RW G h0 (Z2v (Z37 (Z39 w l) l) l) (Z5j (Z5n (Z5z G p l) l) l) := by
  unfold Z2v Z5j
  cases ofI l 3 with
  | none => exact h2
  | some i => exact ⟨h2.h, by show i.Acts.foldl wr1 _ = i.Acts.foldl wr1 _; rw [h2.set], h2.out⟩
 unfold wdo sdo
 generalize Z2v (Z37 (Z39 w l) l) l = w' at *
 generalize Z5j (Z5n (Z5z G p l) l) l = p' at *
 unfold Z3c Z64
 cases ofI l 2 with
 | none => exact h3
 | some i => exact ⟨by show Z2l _ p'.h = Z2l (Z54 w'.got 1 i.Value i.Mask) h0; rw [Ylo w'.got, h3.h], h3.set, h3.out⟩
theorem RW.end_ {G : Int → Header → List Out} {h0 : Header} {w : walk_way} {p : Z1q} (h : RW G h0 w p) : RW G h0 (Z3p w) (Zgi G p) := by
 unfold Z3p Zgi
 rw [h.set]; exact h.act _
theorem Zf5 (w : walk_way) (l : List Inst) : (wdo w l).cube = w.cube := by
 unfold wdo Z3c Z2v Z37 Z39
 cases ofI l 2 <;> cases ofI l 3 <;> cases ofI l 5 <;> cases ofI l 4 <;> rfl
theorem Y0z (s : Switch) (h0 : Header) : ∀ (d at_ : Nat) (w : walk_way), Z0v w.cube h0 = false → ∀ r ∈ Z2j s d at_ w, Z0v r.Cube h0 = false
 | 0, at_, w, h, r, hr => by
  rw [Z2j, List.mem_singleton] at hr
  rw [hr]; exact h
 | d + 1, at_, w, h, r, hr => by
  rw [Z2j] at hr
  rcases List.mem_append.1 hr with hr | hr
  ·obtain ⟨i, hi, hr⟩ := List.mem_flatMap.1 hr
   unfold Z48 at hr
   split at hr
   ·cases hr
   ·rename_i f hf
    split at hr
    ·cases hr
    ·rename_i x hx
     have hc : Z0v x.cube h0 = false := by
      have := (Y3f hx h0).2
      cases hq : Z0v x.cube h0
      ·rfl
      ·have := (this.1 hq).2
       rw [h] at this; cases this
     split at hr
     ·exact Y0z s h0 d _ _ (by rw [Zf5]; exact hc) r hr
     ·rw [List.mem_singleton] at hr
      rw [hr]
      show Z0v (wdo x f.Insts).cube h0 = false
      rw [Zf5]; exact hc
  ·rw [List.mem_singleton] at hr
   rw [hr]; exact h
theorem Zxz {h : Header} {l : List Rule} (hl : ∀ r ∈ l, Z0v r.Cube h = false) : l.find? (Z3s h) = none := List.find?_eq_none.2 fun r hr => by
 unfold Z3s; rw [hl r hr]; simp
theorem Y34 (s : Switch) (G : Int → Header → List Out) (h0 : Header) : ∀ (d at_ : Nat) (w : walk_way) (p : Z1q) (q : List Place), RW G h0 w p → Z0v w.cube h0 = true →
  ∃ r, (Z2j s d at_ w).find? (Z3s h0) = some r ∧ r.Atoms.flatMap (Z5i G h0) = (Z6u s G d at_ p q).1.out
 | 0, at_, w, p, q, h, hc => by
  refine ⟨Z38 w, ?_, h.out.symm⟩
  rw [Z2j, List.find?_cons_of_pos (by exact hc)]
 | d + 1, at_, w, p, q, h, hc => by
  have ih := Y34 s G h0 d
  have hw : (Z3s h0) (Z38 w) = true := hc
  -- one flow
  have one : ∀ k : Nat, ∀ hk : k < (Z07 s at_).length, (Z9k (Z07 s at_) p.h (k : Int) = false → (Z48 (Z2j s d) (Z07 s at_) at_ w (k : Int)).find? (Z3s h0) = none) ∧
    (Z9k (Z07 s at_) p.h (k : Int) = true → ∃ r, (Z48 (Z2j s d) (Z07 s at_) at_ w (k : Int)).find? (Z3s h0) = some r ∧ r.Atoms.flatMap (Z5i G h0) = (match Z1o at_ (Z07 s at_)[k].Insts with
     | some n => Z6u s G d n (sdo G p (Z07 s at_)[k].Insts) (q ++ [(⟨(at_ : Int), (k : Int)⟩ : Place)])
     | none => (Zgi G (sdo G p (Z07 s at_)[k].Insts), q ++ [(⟨(at_ : Int), (k : Int)⟩ : Place)])).1.out) := fun k hk => by
   rw [Zos hk]
   have hrule : Z48 (Z2j s d) (Z07 s at_) at_ w (k : Int) = match Z4j w (Z07 s at_)[k] with
     | none => []
     | some x => match Z1o at_ (Z07 s at_)[k].Insts with
      | some n => Z2j s d n (wdo x (Z07 s at_)[k].Insts)
      | none => [Z38 (Z3p (wdo x (Z07 s at_)[k].Insts))] := by
    unfold Z48
    rw [Int.toNat_natCast, List.getElem?_eq_getElem hk] <;> rfl
   rw [hrule]
   generalize (Z07 s at_)[k] = f
   cases hm : Z4j w f with
   | none =>
    refine ⟨fun _ => rfl, fun h1 => ?_⟩
    rw [h.h] at h1
    exact (Y75 hm h0 h1 hc).elim
   | some x =>
    have hx := Y3f hm h0
    have hrx : RW G h0 x p := by rw [hx.1]; exact ⟨h.h, h.set, h.out⟩
    refine ⟨fun h1 => ?_, fun h1 => ?_⟩
    ·have hxc : Z0v x.cube h0 = false := by
      cases hq : Z0v x.cube h0
      ·rfl
      ·have := (hx.2.1 hq).1
       rw [← h.h, h1] at this; cases this
     simp only
     cases Z1o at_ f.Insts with
     | some n => exact Zxz (Y0z s h0 d n _ (by rw [Zf5]; exact hxc))
     | none =>
      refine Zxz fun r hr => ?_
      rw [List.mem_singleton.1 hr]
      show Z0v (wdo x f.Insts).cube h0 = false
      rw [Zf5]; exact hxc
    ·have hxc : Z0v x.cube h0 = true := hx.2.2 ⟨by rw [← h.h]; exact h1, hc⟩
     simp only
     cases Z1o at_ f.Insts with
     | some n => exact ih n _ _ _ (hrx.do_ f.Insts) (by rw [Zf5]; exact hxc)
     | none =>
      refine ⟨_, List.find?_cons_of_pos (show Z3s h0 (Z38 (Z3p (wdo x f.Insts))) = true from ?_), (hrx.do_ f.Insts).end_.out.symm⟩
      show Z0v (wdo x f.Insts).cube h0 = true
      rw [Zf5]; exact hxc
  -- all
  have all : ∀ l : List Int, inT (Z07 s at_) l → match l.find? (Z9k (Z07 s at_) p.h) with
    | none => (l.flatMap (Z48 (Z2j s d) (Z07 s at_) at_ w)).find? (Z3s h0) = none
    | some i => ∃ r, (l.flatMap (Z48 (Z2j s d) (Z07 s at_) at_ w)).find? (Z3s h0) = some r ∧ ∀ k : Nat, ∀ hk : k < (Z07 s at_).length, i = (k : Int) → r.Atoms.flatMap (Z5i G h0) = (match Z1o at_ (Z07 s at_)[k].Insts with
     | some n => Z6u s G d n (sdo G p (Z07 s at_)[k].Insts) (q ++ [(⟨(at_ : Int), (k : Int)⟩ : Place)])
     | none => (Zgi G (sdo G p (Z07 s at_)[k].Insts), q ++ [(⟨(at_ : Int), (k : Int)⟩ : Place)])).1.out := fun l => by
   induction l with
   | nil => intro _; rfl
   | cons j l ihl =>
    intro hl
    obtain ⟨k, hk, rfl⟩ := hl j (by simp)
    have ihl := ihl fun j hj => hl j (by simp [hj])
    rw [List.flatMap_cons, List.find?_append]
    cases hq : Z9k (Z07 s at_) p.h (k : Int)
    ·rw [List.find?_cons_of_neg (by simp [hq]), (one k hk).1 hq, Option.none_or]
     exact ihl
    ·rw [List.find?_cons_of_pos hq]
     obtain ⟨r, hr, he⟩ := (one k hk).2 hq
     refine ⟨r, by rw [hr]; rfl, fun k' hk' e => ?_⟩
     have : k = k' := by omega
     subst this
     exact he
  have hall := all (Z5e (Z07 s at_)) fun j hj => Zir.1 hj
  rw [Z2j, List.find?_append]
  cases hf : Z7y (Z07 s at_) p.h with
  | none =>
   rw [Zuz hf]
   unfold Z7y at hf
   rw [hf] at hall
   simp only at hall
   refine ⟨Z38 w, ?_, h.out.symm⟩
   rw [hall, Option.none_or, List.find?_cons_of_pos hw]
  | some i =>
   obtain ⟨k, hk, rfl, _⟩ := Y0x hf
   rw [Zv5 hf hk]
   unfold Z7y at hf
   rw [hf] at hall
   simp only at hall
   obtain ⟨r, hr, he⟩ := hall
   exact ⟨r, by rw [hr]; rfl, he k hk rfl⟩
theorem RW0 (G : Int → Header → List Out) (h : Header) : RW G h way0 (Z8e h) := ⟨(Y7h h).symm, rfl, rfl⟩
theorem Yiz (s : Switch) (e : Env) (h : Header) : ∃ r, (Z3l s).find? (Z3s h) = some r ∧ r.Atoms.flatMap (Z5i (goG s.Groups e 8) h) = (Zo7 s e h).1.out :=
 Y34 s (goG s.Groups e 8) h 4 0 way0 (Z8e h) [] (RW0 _ h) (Ym8 h)
end Go.Proofs.YtknpgojdkobgjaaGreat.W
namespace Go.Proofs.YtknpgojdkobgjaaGreat.W
open Go Go.Wb
theorem Yh7 {a b : Cube} (h : Z5u a b = true) {v : Header} (hv : Z0v a v = true) : Z0v b v = true := by
 unfold Z5u at h
 rw [List.all_eq_true] at h
 refine (Z4d _ _).2 fun f hf => ?_
 have h1 := h f (by rw [← List.range_eq_range']; simpa using hf)
 have h2 := (Z4d _ _).1 hv f hf
 unfold Zdi at h1
 rw [Bool.and_eq_true] at h1
 have h3 := (Za1 _).1 h1.1
 have h4 := (Z47 _ _).1 h1.2
 have h5 := (Z47 _ _).1 h2
 refine (Z47 _ _).2 fun k hk hm => ?_
 have h6 := h3 k hk
 rw [Z6e _ _ _ hk, hm, Bool.true_and, Bool.not_eq_false'] at h6
 rw [h4 k hk hm]
 exact h5 k hk h6
theorem Ygp {c : Cube} {f b : Nat} (hf : f < 24) (hb : b < 128) {h : Header} (hh : Z0v c h = true) : Z0v (Zbm c f (Z6m (ve c f) b (wt (ve h f) b))) h = true := by
 refine (Y5d hf).2 ⟨fun g hg _ => (Z4d _ _).1 hh g hg, (Ym6 _ _ hb _ _).2 ⟨fun k hk _ hm => (Z47 _ _).1 ((Z4d _ _).1 hh f hf) k hk hm, rfl⟩⟩
theorem Y2i (xv : Wide) (f : Nat) (hf : f < 24) (h : Header) : ∀ (l : List Int) (left : Cube), Ztt l → Z0v left h = true →
  (∃ p ∈ (Z5w xv f l left).1, Z0v p h = true) ∨ (Z0v (Z5w xv f l left).2 h = true ∧ ∀ i ∈ l, wt (ve h f) i.toNat = wt xv i.toNat)
 | [], left, _, hh => .inr ⟨hh, by simp⟩
 | i :: l, left, hl, hh => by
  obtain ⟨b, rfl, hb⟩ := hl i (by simp)
  rw [Z5w, Int.toNat_natCast]
  have h1 := Ygp (f := f) hf hb hh
  by_cases hq : wt (ve h f) b = wt xv b
  ·rw [hq] at h1
   rcases Y2i xv f hf h l _ (fun j hj => hl j (by simp [hj])) h1 with ⟨p, hp, h2⟩ | ⟨h2, h3⟩
   ·exact .inl ⟨p, by simp [hp], h2⟩
   ·refine .inr ⟨h2, fun j hj => ?_⟩
    rcases List.mem_cons.1 hj with rfl | hj
    ·rw [Int.toNat_natCast]; exact hq
    ·exact h3 j hj
  ·have : wt (ve h f) b = !wt xv b := by
    cases hx : wt xv b <;> cases hy : wt (ve h f) b <;> simp_all
   rw [this] at h1
   exact .inl ⟨_, List.mem_cons_self .., h1⟩
theorem Zwe (x : Cube) (h : Header) : ∀ (m f : Nat) (left : Cube), f + m = 24 → Z0v left h = true → (∀ g k, f ≤ g → g < 24 → k < 128 → wt (ve x g).Mask k = true → wt (ve left g).Mask k = true → wt (ve h g) k = wt (ve x g).Value k) →
  (∃ p ∈ Zdb x m f left, Z0v p h = true) ∨ ∀ g, f ≤ g → g < 24 → Z3h (ve x g) (ve h g) = true
 | 0, f, left, hm, _, _ => .inr fun g h1 h2 => by omega
 | m + 1, f, left, hm, hh, hs => by
  have hf : f < 24 := by omega
  rw [Zdb]
  rcases Y2i (ve x f).Value f hf h (Zd6 (ve x f) (ve left f)) left (Y2l _ _) hh with ⟨p, hp, h1⟩ | ⟨h1, h2⟩
  ·exact .inl ⟨p, by simp [hp], h1⟩
  ·have hx : Z3h (ve x f) (ve h f) = true := (Z47 _ _).2 fun k hk hm => by
    by_cases hl : wt (ve left f).Mask k = true
    ·exact (hs f k (Nat.le_refl _) hf hk hm hl).symm
    ·have := h2 (k : Int) ((Zma _ _ _).2 ⟨k, rfl, hk, by rw [Z6e _ _ _ hk, hm]; simpa using hl⟩)
     rw [Int.toNat_natCast] at this
     exact this.symm
   rcases Zwe x h m (f + 1) _ (by omega) h1 (fun g k h3 h4 h5 h6 h7 => hs g k (by omega) h4 h5 h6 (by rw [Y48 _ _ _ _ _ h4 (by omega)] at h7; exact h7)) with ⟨p, hp, h3⟩ | h3
   ·exact .inl ⟨p, by simp [hp], h3⟩
   ·refine .inr fun g h4 h5 => ?_
    by_cases e : g = f
    ·subst e; exact hx
    ·exact h3 g (by omega) h5
theorem Yiq {a x : Cube} (hm : Z41 a x = true) {h : Header} (h1 : Z0v a h = true) (h2 : Z0v x h = false) : ∃ p ∈ Z9y a x, Z0v p h = true := by
 unfold Z9y
 rw [hm, cond_true]
 have hc : Z0v (Z12 a) h = true := by rw [Ylz]; exact h1
 rcases Zwe x h 24 0 (Z12 a) rfl hc (fun g k _ hg hk hmx hml => by
  rw [Z7m _ _ hg] at hml
  unfold Z41 at hm
  have h3 := (Z47 _ _).1 ((Z4d _ _).1 h1 g hg) k hk hml
  -- where they meet both say the same
  cases hcm : Z43 a x with
  | none => rw [hcm] at hm; cases hm
  | some z =>
   have h4 := Zha hcm g hg
   have h5 := Zv8 (a := ve a g) (b := ve x g) (by rw [h4]; rfl) k hk
   have hml' : wt (ve a g).Mask k = true := hml
   rw [hml', hmx] at h5
   rw [← h3]
   revert h5
   cases wt (ve a g).Value k <;> cases wt (ve x g).Value k <;> simp) with h3 | h3
 ·exact h3
 ·rw [(Z4d _ _).2 fun f hf => h3 f (by omega) hf] at h2
  cases h2
theorem Zvp {R : Cube → Int → Header × Bool × Int} : ∀ (ps : List Cube) (n : Int), (Z3w R ps n).2.1 = false → 0 ≤ (Z3w R ps n).2.2 → ∀ p ∈ ps, ∃ m, (R p m).2.1 = false ∧ 0 ≤ (R p m).2.2
 | [], n, _, _, p, hp => by cases hp
 | q :: ps, n, h, h', p, hp => by
  rw [Z3w] at h h'
  cases hc : (R q n).2.1 || decide ((R q n).2.2 < 0)
  ·rw [hc, cond_false] at h h'
   rw [Bool.or_eq_false_iff, decide_eq_false_iff_not] at hc
   rcases List.mem_cons.1 hp with rfl | hp
   ·exact ⟨n, hc.1, by omega⟩
   ·exact Zvp ps _ h h' p hp
  ·rw [hc, cond_true] at h h'
   rw [h, Bool.false_or, decide_eq_true_eq] at hc
   omega
theorem Y3d (free : Bool) : ∀ (d : Nat) (c : Cube) (l : List Cube) (n : Int), (Z4h free d c l n).2.1 = false → 0 ≤ (Z4h free d c l n).2.2 → ∀ h, Z0v c h = true → ∃ x ∈ l, Z0v x h = true
 | 0, c, l, n, _, h', h, _ => by simp [Z4h] at h'
 | d + 1, c, l, n, h0, h', h, hc => by
  rw [Z4h] at h0 h'
  cases h1 : !free && decide (n < 1)
  ·rw [h1, cond_false] at h0 h'
   cases h2 : l.any (Z5u c)
   ·rw [h2, cond_false] at h0 h'
    cases h3 : Z5d c l 0 with
    | none => rw [h3] at h0; cases h0
    | some i =>
     obtain ⟨hi, hm, _⟩ := Y9a h3
     rw [h3] at h0 h'
     simp only [List.getElem?_eq_getElem hi] at h0 h'
     by_cases hx : Z0v l[i] h = true
     ·exact ⟨_, List.getElem_mem hi, hx⟩
     ·obtain ⟨p, hp, hph⟩ := Yiq hm hc (by simpa using hx)
      obtain ⟨m, h4, h5⟩ := Zvp _ _ h0 h' p hp
      obtain ⟨y, hy, h6⟩ := Y3d free d p (l.drop (i + 1)) m h4 h5 h hph
      exact ⟨y, List.mem_of_mem_drop hy, h6⟩
   ·obtain ⟨x, hx, h3⟩ := List.any_eq_true.1 h2
    exact ⟨x, hx, Yh7 h3 hc⟩
  ·rw [h1] at h'; simp at h'
theorem Yib {c : Cube} {l : List Cube} {most : Int} (h : (Z4v c l most).2.1 = false) (h' : (Z4v c l most).2.2 = 0) (v : Header) (hv : Z0v c v = true) : ∃ x ∈ l, Z0v x v = true := by
 unfold Z4v at h h'
 by_cases hn : (Zeb c l most).2.2 < 0
 ·rw [decide_eq_true hn] at h'; cases h'
 ·rw [decide_eq_false hn, cond_false] at h
  exact Y3d _ _ c l _ h (Int.not_lt.1 hn) v hv
theorem Zro (most : Int) (h : Header) : ∀ (l kept : List Rule), (Z49 most l kept).2 = 0 → (Z49 most l kept).1.find? (Z3s h) = (kept ++ l).find? (Z3s h)
 | [], kept, _ => by simp [Z49]
 | r :: l, kept, h0 => by
  rw [Z49] at h0 ⊢
  rcases Y13 r.Cube (kept.map (·.Cube)) most with he | he
  ·rw [he, decide_eq_false (by omega), cond_false] at h0 ⊢
   cases hf : (Z4v r.Cube (kept.map (·.Cube)) most).2.1
   ·rw [hf, cond_false] at h0
    rw [cond_false, Zro most h l kept h0, List.find?_append, List.find?_append]
    cases hr : Z3s h r
    ·rw [List.find?_cons_of_neg (by simp [hr])]
    ·obtain ⟨x, hx, hxh⟩ := Yib hf he h hr
     obtain ⟨q, hq, rfl⟩ := List.mem_map.1 hx
     cases hk : kept.find? (Z3s h) with
     | none =>
      have := List.find?_eq_none.1 hk q hq
      exact absurd hxh this
     | some q => rfl
   ·rw [hf, cond_true] at h0
    rw [cond_true, Zro most h l _ h0]; simp
  ·rw [he] at h0; cases h0
theorem Y95 (s : Switch) (most : Int) : Zms s most = some (Zfx s most) := Ybd s most
set_option maxRecDepth 100000 in
theorem Ydm : Zeo = some true := by decide +kernel
theorem Zw0 (s : Switch) (h : SW s) (most : Int) (h0 : (Z4l s most).2 = 0) (e : Env) (v : Header) : ∃ n : Nat, ∃ hn : n < (Z4l s most).1.Rules.length, Zi8 (Z4l s most).1.Rules v = ((n : Int), true) ∧ ((Z4l s most).1.Rules[n]).Atoms.flatMap (Z5i (goG s.Groups e 8) v) = (Zo7 s e v).1.out ∧ (Z4l s most).1.Groups = s.Groups := by
 have ht : Z4l s most = (⟨(Z6g s most).1, s.Groups⟩, 0) ∧ (Z6g s most).2 = 0 := by
  unfold Z4l at h0 ⊢
  rcases Zo4 most (Z3l s) [] with he | he
  ·rw [show (Z6g s most).2 = 0 from he]; exact ⟨rfl, rfl⟩
  ·rw [show Z6g s most = ([], 5) from he] at h0; cases h0
 obtain ⟨r, hr, ho⟩ := Yiz s e v
 have hfd := Zro most v (Z3l s) [] ht.2
 rw [List.nil_append, hr] at hfd
 rw [ht.1]
 rcases Yhi (Z6g s most).1 v with ⟨h1, h2⟩ | ⟨n, hn, h1, h2⟩
 ·rw [show (Z49 most (Z3l s) []).1 = (Z6g s most).1 from rfl, h2] at hfd; cases hfd
 ·rw [show (Z49 most (Z3l s) []).1 = (Z6g s most).1 from rfl, h2] at hfd
  refine ⟨n, hn, h1, ?_, rfl⟩
  rw [Option.some.inj hfd]; exact ho
theorem Ycp (s : Switch) (h : SW s) (most : Int) (h0 : (Z4l s most).2 = 0) (e : Env) (v : Header) : Zgz (Z4l s most).1 e v = some (Zo7 s e v).1.out := by
 obtain ⟨n, hn, h1, h2, h3⟩ := Zw0 s h most h0 e v
 have hw := Yku s h most
 unfold Zgz
 rw [Y0r, Option.bind_some, h1, Bool.not_true, cond_false, Z1w hn, Option.bind_some, h3, Yax _ _ h.G _ _ (by have := hw.2.1 _ (List.getElem_mem hn); omega), h2]; rfl
theorem Y54 (s : Switch) (most : Int) (e : Env) (v : Header) (hm : most ≤ 9223372036854775807) : Zht s most e v = some true := by
 unfold Zht
 rw [Y95, Option.bind_some, Ydm]
 cases hf : Zfx s most
 ·rfl
 ·by_cases hd : (e.Down.length : Int) > 20
  ·rw [decide_eq_true hd, Bool.or_true]; rfl
  ·have h := Ykv hf
   rw [decide_eq_false hd, Bool.not_true, Bool.or_self, cond_false, Y6i s h most hm, Option.bind_some]
   by_cases h0 : (Z4l s most).2 = 0
   ·obtain ⟨n, hn, h1, h2, h3⟩ := Zw0 s h most h0 e v
    rw [decide_eq_false (by omega), cond_false, Y0r, Option.bind_some, h1, Ycp s h most h0, Yf4 s e v h.lt h.G]
    simp only [Z4a, Option.bind_some]
    rw [Y9v, decide_eq_true rfl]; rfl
   ·rw [decide_eq_true h0]; rfl
theorem Ygv {W : World} {H M : HS} {v : Value} (s : Switch) (most : Int) (e : Env) (x : Header) (h : (rd (Z0 .i64) most).R W H M v) : Zht s most e x = some true := Y54 s most e x (Z10 h).2.2
end Go.Proofs.YtknpgojdkobgjaaGreat.W
