/- A part of the proof. -/
import Derived.Test.YtknpgojdkobgjaaGreatG2
set_option linter.unusedVariables false
set_option linter.unusedSimpArgs false
namespace Go.Proofs.YtknpgojdkobgjaaGreat.W
open Go Go.Wb
end Go.Proofs.YtknpgojdkobgjaaGreat.W
namespace Go.Proofs.YtknpgojdkobgjaaGreat.W
open Go Go.Wb
section sym
variable (lt : Action → Action → Bool) (cmp : Action → Action → Option Int)
variable {lt cmp}
end sym
end Go.Proofs.YtknpgojdkobgjaaGreat.W
namespace Go.Proofs.YtknpgojdkobgjaaGreat.W
open Go Go.Wb
section sym
variable {lt : Action → Action → Bool} {cmp : Action → Action → Option Int}
end sym
end Go.Proofs.YtknpgojdkobgjaaGreat.W
namespace Go.Proofs.YtknpgojdkobgjaaGreat.W
open Go Go.Wb
section ins
variable {lt : Action → Action → Bool} {cmp : Action → Action → Option Int}
end ins
end Go.Proofs.YtknpgojdkobgjaaGreat.W
namespace Go.Proofs.YtknpgojdkobgjaaGreat.W
open Go Go.Wb
section stable
variable {lt : Action → Action → Bool} {cmp : Action → Action → Option Int}
end stable
end Go.Proofs.YtknpgojdkobgjaaGreat.W
namespace Go.Proofs.YtknpgojdkobgjaaGreat.W
open Go Go.Wb
def Z3u (a b : Wide) : Wide := ⟨a.Hi &&& b.Hi, a.Lo &&& b.Lo⟩
def wor (a b : Wide) : Wide := ⟨a.Hi ||| b.Hi, a.Lo ||| b.Lo⟩
def Zfm (a b : Wide) : Wide := ⟨a.Hi ^^^ b.Hi, a.Lo ^^^ b.Lo⟩
def Z4p (a b : Wide) : Wide := ⟨a.Hi &&& ~~~b.Hi, a.Lo &&& ~~~b.Lo⟩
def wt (a : Wide) (i : Nat) : Bool := bif Nat.blt i 64 then a.Lo.getLsbD i else a.Hi.getLsbD (i - 64)
def Z9d (i : Nat) : Wide := bif Nat.blt i 64 then ⟨0, 1#64 <<< i⟩ else ⟨1#64 <<< (i - 64), 0⟩
theorem Zj4 {i n : Nat} (h : i < n) : Nat.blt i n = true := by simpa using h
theorem Ziu {i n : Nat} (h : ¬ i < n) : Nat.blt i n = false := by
 cases hb : Nat.blt i n
 ·rfl
 ·exact absurd (by simpa using hb) h
theorem Zrb {a b : Wide} (h : ∀ i, i < 128 → wt a i = wt b i) : a = b := by
 obtain ⟨ah, al⟩ := a
 obtain ⟨bh, bl⟩ := b
 have h1 : ah = bh := BitVec.eq_of_getLsbD_eq fun i hi => by
  have := h (i + 64) (by omega)
  unfold wt at this
  rw [Ziu (by omega)] at this
  simpa using this
 have h2 : al = bl := BitVec.eq_of_getLsbD_eq fun i hi => by
  have := h i (by omega)
  unfold wt at this
  rw [Zj4 (by omega)] at this
  simpa using this
 rw [h1, h2]
theorem Zk0 (i : Nat) : wt Z0e i = false := by
 unfold wt Z0e
 cases Nat.blt i 64 <;> simp
def Z7b (a : Wide) : Bool := decide ((a.Hi ||| a.Lo) = (0 : BitVec 64))
theorem Zxu (a : Wide) : Z7b a = true ↔ ∀ i, i < 128 → wt a i = false := by
 unfold Z7b
 rw [decide_eq_true_eq]
 constructor
 ·intro h i hi
  have hb : ∀ j, (a.Hi.getLsbD j || a.Lo.getLsbD j) = false := fun j => by rw [← BitVec.getLsbD_or, h]; simp
  unfold wt
  by_cases h1 : i < 64
  ·rw [Zj4 h1, cond_true]
   have := hb i
   simp only [Bool.or_eq_false_iff] at this
   exact this.2
  ·rw [Ziu h1, cond_false]
   have := hb (i - 64)
   simp only [Bool.or_eq_false_iff] at this
   exact this.1
 ·intro h
  apply BitVec.eq_of_getLsbD_eq
  intro j hj
  have h1 := h j (by omega)
  have h2 := h (j + 64) (by omega)
  unfold wt at h1 h2
  rw [Zj4 hj] at h1
  rw [Ziu (by omega)] at h2
  simp at h1 h2
  simp [h1, h2]
theorem Ztj (a : Wide) : Z7b a = decide (a = Z0e) := by
 rw [Bool.eq_iff_iff, Zxu, decide_eq_true_eq]
 constructor
 ·intro h
  exact Zrb fun i hi => by rw [h i hi, Zk0]
 ·rintro rfl i _
  exact Zk0 i
theorem Zuh (a b : Wide) : Z5l a b = some (Z3u a b) := rfl
theorem Zy5 (a b : Wide) : Z4f a b = some (wor a b) := rfl
theorem Zr3 (a b : Wide) : Z4z a b = some (Z4p a b) := rfl
abbrev Cube := Vector Tern 24
abbrev Header := Vector Wide 24
def Zbu (t : Tern) : Tern := ⟨Z3u t.Value t.Mask, t.Mask⟩
def Zdh (r : Cube) (h : Header) : Header := Vector.ofFn fun f => wor (Z4p (ve h f.1) (ve r f.1).Mask) (Z3u (ve r f.1).Value (ve r f.1).Mask)
theorem Zmd (r : Cube) (h : Header) : ∀ (l : List Tern) (i : Nat), i + l.length = 24 → l = (Vector.toList r).drop i → Z54 l i (Z5j (fun f => wor (Z4p (ve h f) (ve r f).Mask) (Z3u (ve r f).Value (ve r f).Mask)) h i) = some (Zdh r h)
 | [], i, h1, h2 => by
  have : i = 24 := by simpa using h1
  subst this
  rw [Z54, Zmn]; rfl
 | x :: l, i, h1, h2 => by
  simp only [List.length_cons] at h1
  have hi : i < (Vector.toList r).length := by simp; omega
  rw [List.drop_eq_getElem_cons hi] at h2
  obtain ⟨rfl, h3⟩ := List.cons.inj h2
  have hx : (Vector.toList r)[i] = ve r i := by rw [Vector.getElem_toList, Z5y _ _ (by omega)]
  rw [Z54, hx, Zd3 (by omega), Option.bind_some, Z98, Zr3, Option.bind_some, Zuh, Option.bind_some, Zy5, Option.bind_some, Option.bind_some, Z7f _ _ _ _ (by omega), if_neg (by omega)]
  have := Znh (fun f => wor (Z4p (ve h f) (ve r f).Mask) (Z3u (ve r f).Value (ve r f).Mask)) h i (by omega)
  rw [this]
  exact Zmd r h l (i + 1) (by omega) h3
theorem Zzo (r : Cube) (h : Header) : Z8o r h = some (Zdh r h) := by
 unfold Z8o
 have := Zmd r h (Vector.toList r) 0 (by simp) rfl
 rw [Zp3] at this
 exact this
end Go.Proofs.YtknpgojdkobgjaaGreat.W
namespace Go.Proofs.YtknpgojdkobgjaaGreat.W
open Go Go.Wb
end Go.Proofs.YtknpgojdkobgjaaGreat.W
namespace Go.Proofs.YtknpgojdkobgjaaGreat.W
open Go Go.Wb
end Go.Proofs.YtknpgojdkobgjaaGreat.W
namespace Go.Proofs.YtknpgojdkobgjaaGreat.W
open Go Go.Wb
end Go.Proofs.YtknpgojdkobgjaaGreat.W
namespace Go.Proofs.YtknpgojdkobgjaaGreat.W
open Go Go.Wb
theorem Zmi (a b : Wide) : Zar a b = some (Z3u a b) := rfl
theorem Zq2 (a b : Wide) : Zdn a b = some (wor a b) := rfl
theorem Y1t (a b : Wide) : Zd8 a b = some (Z4p a b) := rfl
theorem inc (n : Nat) (h : n < 9223372036854775807) : IntKind.i64.wrap ((n : Int) + 1) = ((n + 1 : Nat) : Int) := by rw [Zsm (by omega) (by omega)]; omega
theorem Zmq (r : Cube) (h : Header) : ∀ (m i : Nat), i ≤ 24 → 24 < i + m → Z83 r m (Z5j (fun f => wor (Z4p (ve h f) (ve r f).Mask) (Z3u (ve r f).Value (ve r f).Mask)) h i) (i : Int) = some (Zdh r h)
 | 0, i, h1, h2 => by omega
 | m + 1, i, h1, h2 => by
  rw [Z83]
  by_cases hi : i < 24
  ·simp only [decide_eq_true (show ((i : Int) < 24) by omega), cond_true, Zd3 hi, Option.bind_some, Z98, Y1t, Zmi, Zq2, inc i (by omega)]
   rw [Z7f _ _ _ _ hi, if_neg (by omega)]
   have := Znh (fun f => wor (Z4p (ve h f) (ve r f).Mask) (Z3u (ve r f).Value (ve r f).Mask)) h i hi
   rw [this]
   exact Zmq r h m (i + 1) (by omega) (by omega)
  ·have : i = 24 := by omega
   subst this
   rw [decide_eq_false (by omega), cond_false, Zmn]; rfl
theorem Zva (r : Cube) (h : Header) : Zac r h = some (Zdh r h) := by
 unfold Zac
 have := Zmq r h (((24 : Int) - 0).toNat + 1) 0 (by omega) (by decide)
 rw [Zp3] at this
 exact this
end Go.Proofs.YtknpgojdkobgjaaGreat.W
namespace Go.Proofs.YtknpgojdkobgjaaGreat.W
open Go Go.Wb
end Go.Proofs.YtknpgojdkobgjaaGreat.W
namespace Go.Proofs.YtknpgojdkobgjaaGreat.W
open Go Go.Wb
end Go.Proofs.YtknpgojdkobgjaaGreat.W
namespace Go.Proofs.YtknpgojdkobgjaaGreat.W
open Go Go.Wb
end Go.Proofs.YtknpgojdkobgjaaGreat.W
namespace Go.Proofs.YtknpgojdkobgjaaGreat.W
open Go Go.Wb
end Go.Proofs.YtknpgojdkobgjaaGreat.W
namespace Go.Proofs.YtknpgojdkobgjaaGreat.W
open Go Go.Wb
theorem Zxr (a b : Wide) : Zdz a b = some (Zfm a b) := rfl
theorem Zst (a : Wide) : Z93 a = some (Z7b a) := by
 unfold Z93
 congr 1
 rw [Ztj, Bool.eq_iff_iff]
 obtain ⟨h, l⟩ := a
 simp [Z0e]
end Go.Proofs.YtknpgojdkobgjaaGreat.W
namespace Go.Proofs.YtknpgojdkobgjaaGreat.W
open Go Go.Wb
def Zsy (x y : Tern) : Bool := !Z7b (Z3u (Z3u x.Mask y.Mask) (Zfm x.Value y.Value))
def apart (a b : Atom) : Bool := !(a.Group == b.Group) || decide (a.Port ≠ b.Port) || decide (a.Max ≠ b.Max) || (List.range' 0 24).any fun f => Zsy (ve a.Rewrite f) (ve b.Rewrite f)
def Zs2 (t : Tern) (i : Nat) (on : Bool) : Tern := bif on then ⟨wor (Z4p (Zbu t).Value (Z9d i)) (Z9d i), wor (Zbu t).Mask (Z9d i)⟩ else ⟨Z4p (Zbu t).Value (Z9d i), wor (Zbu t).Mask (Z9d i)⟩
def Y2i (c : Cube) (f bit : Nat) (on : Bool) : Option Cube :=
 bif wt (ve c f).Mask bit && (wt (ve c f).Value bit == on) then none else some (Vector.ofFn fun k => if f = k.1 then Zs2 (ve c f) bit (!on) else ve c k.1)
def sgl (x y : Tern) (k : Nat) : Bool × Bool := bif wt x.Mask k == wt y.Mask k then (false, false) else (true, bif wt x.Mask k then wt x.Value k else wt y.Value k)
def rp (c : Cube) (x y : Tern) (f k : Nat) : Option Cube := bif (sgl x y k).1 then Y2i c f k (sgl x y k).2 else none
def Z4n (t : Tern) (v : Wide) : Bool := Z7b (Z3u (Zfm t.Value v) t.Mask)
theorem Y1i (t : Tern) (v : Wide) : Z7l t v = some (Z4n t v) := rfl
def Zd0 (c : Cube) (h : Header) : Bool := (List.range' 0 24).all fun f => Z4n (ve c f) (ve h f)
theorem Zkw (c : Cube) (h : Header) : ∀ (l : List Tern) (i : Nat), i + l.length = 24 → l = (Vector.toList c).drop i → Z52 h l i = some ((List.range' i l.length).all fun f => Z4n (ve c f) (ve h f))
 | [], i, h1, h2 => by rw [Z52]; rfl
 | x :: l, i, h1, h2 => by
  simp only [List.length_cons] at h1
  have hi : i < (Vector.toList c).length := by simp; omega
  rw [List.drop_eq_getElem_cons hi] at h2
  obtain ⟨rfl, h3⟩ := List.cons.inj h2
  have hx : (Vector.toList c)[i] = ve c i := by rw [Vector.getElem_toList, Z5y _ _ (by omega)]
  rw [Z52, Zd3 (by omega), Option.bind_some, Z98, Y1i, Option.bind_some, Zkw c h l (i + 1) (by omega) h3, List.length_cons, List.range'_succ, List.all_cons, hx]
  cases Z4n (ve c i) (ve h i) <;> rfl
theorem Zz0 (c : Cube) (h : Header) : Z9f c h = some (Zd0 c h) := by
 unfold Z9f Zd0
 have := Zkw c h (Vector.toList c) 0 (by simp) rfl
 rw [this]
 simp
end Go.Proofs.YtknpgojdkobgjaaGreat.W
namespace Go.Proofs.YtknpgojdkobgjaaGreat.W
open Go Go.Wb
theorem Y17 (t : Tern) (v : Wide) : Zae t v = some (Z4n t v) := by
 unfold Zae Z4n
 rw [Zxr, Option.bind_some, Zmi, Option.bind_some, Zst]; rfl
theorem Zmj (c : Cube) (h : Header) : ∀ (m i : Nat), i ≤ 24 → 24 < i + m → Z7n c h m (i : Int) = some ((List.range' i (24 - i)).all fun f => Z4n (ve c f) (ve h f))
 | 0, i, h1, h2 => by omega
 | m + 1, i, h1, h2 => by
  rw [Z7n]
  by_cases hi : i < 24
  ·have e : 24 - i = (24 - (i + 1)) + 1 := by omega
   rw [decide_eq_true (by omega), cond_true, Zd3 hi, Option.bind_some, Option.bind_some, Z98, Z98, Y17, Option.bind_some, inc i (by omega), Zmj c h m (i + 1) (by omega) (by omega), e, List.range'_succ, List.all_cons]
   show (bif !(Z4n (ve c i) (ve h i)) then _ else _) = _
   cases Z4n (ve c i) (ve h i) <;> rfl
  ·have : i = 24 := by omega
   subst this
   rw [decide_eq_false (by omega)]; rfl
theorem Zxq (c : Cube) (h : Header) : Z9e c h = some (Zd0 c h) := by
 unfold Z9e Zd0
 exact Zmj c h (((24 : Int) - 0).toNat + 1) 0 (by omega) (by decide)
end Go.Proofs.YtknpgojdkobgjaaGreat.W
namespace Go.Proofs.YtknpgojdkobgjaaGreat.W
open Go Go.Wb
set_option maxRecDepth 100000 in
theorem Zu1 : Zek = some true := by decide +kernel
theorem Y2p (x1 : Ray) (x2 : Z0l) : Zap x1 x2 = some true := by
 unfold Zap Z8w Zev Z9m Zes
 rw [Zz0, Zxq, Zzo, Zva, Zu1]
 simp [opt]
end Go.Proofs.YtknpgojdkobgjaaGreat.W
