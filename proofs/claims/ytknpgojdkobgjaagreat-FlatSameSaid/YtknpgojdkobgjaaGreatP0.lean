/- A part of the proof. -/
import Derived.Test.YtknpgojdkobgjaaGreatG2
set_option linter.unusedVariables false
set_option linter.unusedSimpArgs false
namespace Go.Proofs.YtknpgojdkobgjaaGreat.W
open Go Go.Wb
end Go.Proofs.YtknpgojdkobgjaaGreat.W
namespace Go.Proofs.YtknpgojdkobgjaaGreat.W
open Go Go.Wb
section sym
variable (lt : Action → Action → Bool) (cmp : Action → Action → Option Int)
variable {lt cmp}
end sym
end Go.Proofs.YtknpgojdkobgjaaGreat.W
namespace Go.Proofs.YtknpgojdkobgjaaGreat.W
open Go Go.Wb
section sym
variable {lt : Action → Action → Bool} {cmp : Action → Action → Option Int}
end sym
end Go.Proofs.YtknpgojdkobgjaaGreat.W
namespace Go.Proofs.YtknpgojdkobgjaaGreat.W
open Go Go.Wb
section ins
variable {lt : Action → Action → Bool} {cmp : Action → Action → Option Int}
end ins
end Go.Proofs.YtknpgojdkobgjaaGreat.W
namespace Go.Proofs.YtknpgojdkobgjaaGreat.W
open Go Go.Wb
section stable
variable {lt : Action → Action → Bool} {cmp : Action → Action → Option Int}
end stable
end Go.Proofs.YtknpgojdkobgjaaGreat.W
namespace Go.Proofs.YtknpgojdkobgjaaGreat.W
open Go Go.Wb
def Za3 (a b : Wide) : Wide := ⟨a.Hi &&& b.Hi, a.Lo &&& b.Lo⟩
def wor (a b : Wide) : Wide := ⟨a.Hi ||| b.Hi, a.Lo ||| b.Lo⟩
def Zml (a b : Wide) : Wide := ⟨a.Hi ^^^ b.Hi, a.Lo ^^^ b.Lo⟩
def Zeq (a b : Wide) : Wide := ⟨a.Hi &&& ~~~b.Hi, a.Lo &&& ~~~b.Lo⟩
def wt (a : Wide) (i : Nat) : Bool := bif Nat.blt i 64 then a.Lo.getLsbD i else a.Hi.getLsbD (i - 64)
def Z6c (i : Nat) : Wide := bif Nat.blt i 64 then ⟨0, 1#64 <<< i⟩ else ⟨1#64 <<< (i - 64), 0⟩
def Zo3 (a : Wide) : Bool := decide ((a.Hi ||| a.Lo) = (0 : BitVec 64))
abbrev Cube := Vector Tern 24
abbrev Header := Vector Wide 24
def Z1v (t : Tern) : Tern := ⟨Za3 t.Value t.Mask, t.Mask⟩
theorem Zm5 (t : Tern) : Z3k t = some (Z1v t) := rfl
def Z1b (c : Cube) : Cube := Vector.ofFn fun i => Z1v (ve c i.1)
def Zm8 (a b : Tern) : Tern := ⟨wor (Zeq (Z1v a).Value b.Mask) (Z1v b).Value, wor a.Mask b.Mask⟩
def Zwo (a b : Cube) : Cube := Vector.ofFn fun i => Zm8 (ve a i.1) (ve b i.1)
theorem Zj7 (f : Int → Option Tern) (g : Nat → Tern) (hf : ∀ i : Nat, i < 24 → f (i : Int) = some (g i)) (b : Cube) : ∀ (m i : Nat), i + m = 24 → Z4z f m i (Z36 g b i) = some (Vector.ofFn (fun i => g i.1))
 | 0, i, h => by
  have : i = 24 := by omega
  subst this
  rw [Z4z, Zcn]
 | m + 1, i, h => by
  rw [Z4z, hf i (by omega), Option.bind_some, Z8j (by omega), Option.bind_some]
  show Z4z f m (i + 1) (Vector.set (Z36 g b i) i (g i) _) = _
  rw [Zf0 g b i (by omega), Zj7 f g hf b m (i + 1) (by omega)]
theorem Zq1 (f : Int → Option Tern) (g : Nat → Tern) (hf : ∀ i : Nat, i < 24 → f (i : Int) = some (g i)) : Z89 f = some (Vector.ofFn (fun i => g i.1)) := by
 unfold Z89
 have := Zj7 f g hf (Vector.replicate 24 Z0n) 24 0 rfl
 rw [Zde] at this
 exact this
theorem Zk2 (r : Cube) : Z56 r = some (Z1b r) := by
 unfold Z56
 rw [Zq1 (fun x => Z7g x r) (fun i => Z1v (ve r i)) (fun i hi => by unfold Z7g; rw [Z8j hi, Option.bind_some, Zep, Zm5]; rfl)]
 rfl
def Z9s (r : Cube) (f : Int) (v m : Wide) : Cube := bif decide (f ≥ 0) && decide (f < 24) then Vector.ofFn fun i => if f.toNat = i.1 then Zm8 (ve (Z1b r) f.toNat) ⟨v, m⟩ else ve (Z1b r) i.1 else Z1b r
def Zgy (n : Int) : Wide := (Z7m n).getD Z02
def Zw0 (n : Int) : Int := (Zbq n).getD 0
def oxT (o : Oxm) : Tern := bif decide (o.Field ≥ 0) && decide (o.Field < 24) then (bif o.Masked then ⟨o.Value, o.Mask⟩ else ⟨o.Value, Zgy (Zw0 o.Field)⟩) else ⟨Z02, Z02⟩
def Z6f : Cube := Vector.replicate 24 Z0n
def Zr2 (a : Action) : Cube :=
 bif decide (a.Kind = 25) then Z9s Z6f a.Oxm.Field (oxT a.Oxm).Value (oxT a.Oxm).Mask
 else bif decide (a.Kind = 17) then Z9s Z6f 5 (Z6c 12) (Z6c 12)
 else bif decide (a.Kind = 18) then Z9s (Z9s Z6f 5 ⟨0, 0⟩ (Zgy 13)) 6 ⟨0, 0⟩ (Zgy 3)
 else Z6f
def Ztv (a : Action) : Int := bif decide (a.Port = 4294967293) then a.Max else 0
theorem Zv1 (s : List Group) (f : Group → Option Bool) (p : Group → Bool) (hf : ∀ x ∈ s, f x = some (p x)) : Z84 s f = some (Z1j p s) := by
 unfold Z84
 rw [show ((s.length : Int)).toNat = s.length by omega]
 exact Ziq p (fun i => by rw [Z6h]) (fun m i => by rw [Z6h]) hf
theorem Zrz (s : List Bucket) (f : Bucket → Option Bool) (p : Bucket → Bool) (hf : ∀ x ∈ s, f x = some (p x)) : Zae s f = some (Z1j p s) := by
 unfold Zae
 rw [show ((s.length : Int)).toNat = s.length by omega]
 exact Ziq p (fun i => by rw [Z6i]) (fun m i => by rw [Z6i]) hf
def Z3r (a : Action) : aset_spot := bif decide (a.Kind = 25) then ⟨a.Kind, a.Oxm.Field⟩ else ⟨a.Kind, 0⟩
def wr1 (l : List Action) (x : Action) : List Action := bif decide (Z1j (fun b => decide (Z3r x = Z3r b)) l < 0) then l ++ [x] else l.set (Z1j (fun b => decide (Z3r x = Z3r b)) l).toNat x
def Zay (k : Int) : Int := Z1j (fun x => decide (k = x)) [18, 17, 25, 22, 0]
def Zp3 (goes : Bool) (a : Action) : Bool := !(decide (Zay a.Kind < 0) || (goes && decide (a.Kind = 0)))
def Ztl (a b : Action) : Int :=
 bif decide (IntKind.i64.wrap (Zay (Z3r a).kind - Zay (Z3r b).kind) ≠ 0) then IntKind.i64.wrap (Zay (Z3r a).kind - Zay (Z3r b).kind)
 else bif decide ((Z3r a).field < (Z3r b).field) then -1 else bif decide ((Z3r a).field > (Z3r b).field) then 1 else 0
def ltA (a b : Action) : Bool := decide (Ztl a b < 0)
def Zqx (s : List Action) : List Action := srt ltA (s.filter (Zp3 (s.any fun a => decide (a.Kind = 22))))
def Zti (bs : List Bucket) : Prop := bs.length ≤ 3 ∧ ∀ x ∈ bs, x.Acts.length ≤ 12
def Y0f (l : List Group) : Prop := l.length ≤ 9 ∧ ∀ g ∈ l, Zti g.Buckets
end Go.Proofs.YtknpgojdkobgjaaGreat.W
namespace Go.Proofs.YtknpgojdkobgjaaGreat.W
open Go Go.Wb
def Zta (r : Cube) (a : Action) : Atom := bif decide (a.Kind = 0) then ⟨r, false, a.Port, Ztv a⟩ else ⟨r, true, a.Group, 0⟩
def Zw8 (a : Action) : Bool := decide (a.Kind = 0) || decide (a.Kind = 22)
def doT : List Action → Cube → List Atom × Cube
 | [], r => ([], r)
 | a :: l, r => bif Zw8 a then (Zta r a :: (doT l r).1, (doT l r).2) else doT l (Zwo r (Zr2 a))
end Go.Proofs.YtknpgojdkobgjaaGreat.W
namespace Go.Proofs.YtknpgojdkobgjaaGreat.W
open Go Go.Wb
end Go.Proofs.YtknpgojdkobgjaaGreat.W
namespace Go.Proofs.YtknpgojdkobgjaaGreat.W
open Go Go.Wb
theorem Zs5 (s : List Bucket) (f : Bucket → Option Bool) (p : Bucket → Bool) (hf : ∀ x ∈ s, f x = some (p x)) : Z9i s f = some (s.any p) := by
 unfold Z9i; rw [Zrz s f p hf, Option.bind_some, Zdi]
theorem Zu5 (s : List Group) (f : Group → Option Bool) (p : Group → Bool) (hf : ∀ x ∈ s, f x = some (p x)) : Zaf s f = some (s.any p) := by
 unfold Zaf; rw [Zv1 s f p hf, Option.bind_some, Zdi]
def Za7 (bs : List Bucket) (many : Int) : Bool := decide ((bs.length : Int) ≤ many) && !(bs.any fun x => !decide ((x.Acts.length : Int) ≤ 12))
theorem Y1k (bs : List Bucket) (many : Int) : Z9w bs many = some (Za7 bs many) := by
 unfold Z9w Za7
 rw [Zs5 bs Zen (fun x => !decide ((x.Acts.length : Int) ≤ 12)) (fun x _ => rfl)]
 cases decide ((bs.length : Int) ≤ many) <;> rfl
def Za2 (l : List Group) (many bm : Int) : Bool := decide ((l.length : Int) ≤ many) && !(l.any fun g => !Za7 g.Buckets bm)
theorem Zjz (l : List Group) (many bm : Int) : Z70 l many bm = some (Za2 l many bm) := by
 unfold Z70 Za2
 rw [Zu5 l (fun x => Z75 x bm) (fun g => !Za7 g.Buckets bm) (fun g _ => by unfold Z75; rw [Y1k]; rfl)]
 cases decide ((l.length : Int) ≤ many) <;> rfl
end Go.Proofs.YtknpgojdkobgjaaGreat.W
namespace Go.Proofs.YtknpgojdkobgjaaGreat.W
open Go Go.Wb
theorem Zrn (t : Tern) : Z82 t = some (Z1v t) := rfl
theorem inc (n : Nat) (h : n < 9223372036854775807) : IntKind.i64.wrap ((n : Int) + 1) = ((n + 1 : Nat) : Int) := by rw [Zmd (by omega) (by omega)]; omega
theorem Zna (c : Cube) : ∀ (m i : Nat), i ≤ 24 → 24 < i + m → Z6b m (Z36 (fun i => Z1v (ve c i)) c i) (i : Int) = some (Z1b c)
 | 0, i, h1, h2 => by omega
 | m + 1, i, h1, h2 => by
  rw [Z6b]
  by_cases h : i < 24
  ·rw [decide_eq_true (by omega), cond_true, Z8j h, Option.bind_some, Zrn, Option.bind_some, Option.bind_some, Zep, Z7s _ _ _ _ h, if_neg (by omega), inc i (by omega)]
   show Z6b m (Vector.set (Z36 (fun i => Z1v (ve c i)) c i) i (Z1v (ve c i)) _) _ = _
   rw [Zf0 (fun i => Z1v (ve c i)) c i h, Zna c m (i + 1) (by omega) (by omega)]
  ·have : i = 24 := by omega
   subst this
   rw [decide_eq_false (by omega), cond_false, Zcn]; rfl
theorem Zuv (c : Cube) : Z5c c = some (Z1b c) := by
 unfold Z5c
 have := Zna c (((24 : Int) - 0).toNat + 1) 0 (by omega) (by decide)
 rw [Zde] at this
 exact this
end Go.Proofs.YtknpgojdkobgjaaGreat.W
namespace Go.Proofs.YtknpgojdkobgjaaGreat.W
open Go Go.Wb
end Go.Proofs.YtknpgojdkobgjaaGreat.W
namespace Go.Proofs.YtknpgojdkobgjaaGreat.W
open Go Go.Wb
end Go.Proofs.YtknpgojdkobgjaaGreat.W
namespace Go.Proofs.YtknpgojdkobgjaaGreat.W
open Go Go.Wb
def acl (x : Atom) : Atom := { x with Rewrite := Z1b x.Rewrite }
theorem Zsx (a b : Atom) : Z8m a b = some (decide (acl a = acl b)) := by
 unfold Z8m
 rw [Zk2, Option.bind_some, Zk2, Option.bind_some]; rfl
theorem Znx (t : List Atom) : ∀ (s : List Atom) (i : Nat), i + s.length = t.length → Z5f t Z8m s i = some (decide (s.map acl = (t.drop i).map acl))
 | [], i, h => by
  rw [Z5f, List.drop_of_length_le (by simp at h; omega)]; rfl
 | x :: s, i, h => by
  simp only [List.length_cons] at h
  have hi : i < t.length := by omega
  rw [Z5f, Z2s hi, Option.bind_some, Zsx, Option.bind_some, Znx t s (i + 1) (by omega), List.drop_eq_getElem_cons hi, List.map_cons, List.map_cons]
  generalize acl t[i] = y
  generalize acl x = z
  generalize List.map acl s = l
  generalize List.map acl (t.drop (i + 1)) = l'
  by_cases he : z = y
  ·simp [he]
  ·simp [he]
theorem Zpm (a b : List Atom) : Zar a b = some (decide (a.map acl = b.map acl)) := by
 unfold Zar Zeo
 by_cases hl : a.length = b.length
 ·rw [decide_eq_false (by omega), cond_false, Znx b a 0 (by omega)]; rfl
 ·rw [decide_eq_true (by omega), cond_true]
  have : a.map acl ≠ b.map acl := fun e => hl (by have := congrArg List.length e; simpa using this)
  simp [this]
theorem Zwi (x y : Atom) (K : Option Bool) : ((opt (!(!(x.Group == y.Group))) (some x)).bind fun e8 => (opt (!(!(x.Group == y.Group))) (some y)).bind fun e9 => (opt (!((!(x.Group == y.Group)) || (decide (e8.Port ≠ e9.Port)))) (some x)).bind fun e10 => (opt (!((!(x.Group == y.Group)) || (decide (e8.Port ≠ e9.Port)))) (some y)).bind fun e11 => (opt (!(((!(x.Group == y.Group)) || (decide (e8.Port ≠ e9.Port))) || (decide (e10.Max ≠ e11.Max)))) (some x)).bind fun e12 => (opt (!(((!(x.Group == y.Group)) || (decide (e8.Port ≠ e9.Port))) || (decide (e10.Max ≠ e11.Max)))) (Z5c e12.Rewrite)).bind fun x13 => (opt (!(((!(x.Group == y.Group)) || (decide (e8.Port ≠ e9.Port))) || (decide (e10.Max ≠ e11.Max)))) (some y)).bind fun e14 => (opt (!(((!(x.Group == y.Group)) || (decide (e8.Port ≠ e9.Port))) || (decide (e10.Max ≠ e11.Max)))) (Z5c e14.Rewrite)).bind fun x15 => (bif ((((!(x.Group == y.Group)) || (decide (e8.Port ≠ e9.Port))) || (decide (e10.Max ≠ e11.Max))) || (decide (x13 ≠ x15))) then some false else K)) = bif decide (acl x = acl y) then K else some false := by
 cases x; cases y; rename_i r g p m r' g' p' m'
 unfold acl
 simp only [Zuv]
 by_cases hg : g = g'
 ·by_cases hp : p = p'
  ·by_cases hm : m = m'
   ·by_cases hq : Z1b r = Z1b r'
    ·simp [opt, hg, hp, hm, hq]
    ·simp [opt, hg, hp, hm, hq]
   ·simp [opt, hg, hp, hm]
  ·simp [opt, hg, hp]
 ·have hg' : (g == g') = false := by simp [hg]
  simp [opt, hg, hg']
theorem Zkf (a b : List Atom) (hl : a.length = b.length) (hs : a.length ≤ 1000000) : ∀ (m i : Nat), i ≤ a.length → a.length < i + m → Z6y a b m (i : Int) = some (decide ((a.drop i).map acl = (b.drop i).map acl))
 | 0, i, h1, h2 => by omega
 | m + 1, i, h1, h2 => by
  rw [Z6y]
  by_cases hi : i < a.length
  ·have hb : i < b.length := by omega
   rw [decide_eq_true (by omega), cond_true, Z2s hi, Option.bind_some, Z2s hb, Option.bind_some, Zwi, inc i (by omega), Zkf a b hl hs m (i + 1) (by omega) (by omega), List.drop_eq_getElem_cons hi, List.drop_eq_getElem_cons hb, List.map_cons, List.map_cons]
   generalize acl a[i] = x
   generalize acl b[i] = y
   generalize List.map acl (a.drop (i + 1)) = l
   generalize List.map acl (b.drop (i + 1)) = l'
   by_cases he : x = y
   ·simp [he]
   ·simp [he]
  ·rw [decide_eq_false (by omega), cond_false, List.drop_of_length_le (by omega), List.drop_of_length_le (by omega)]
   rfl
theorem Ztc (a b : List Atom) (hs : a.length ≤ 1000000) : Z7y a b = some (decide (a.map acl = b.map acl)) := by
 unfold Z7y
 by_cases hl : a.length = b.length
 ·have := Zkf a b hl hs ((((a.length : Int) : Int) - 0).toNat + 1) 0 (by omega) (by omega)
  rw [decide_eq_false (by omega), cond_false]
  exact this
 ·rw [decide_eq_true (by omega), cond_true]
  have : a.map acl ≠ b.map acl := fun e => hl (by have := congrArg List.length e; simpa using this)
  simp [this]
end Go.Proofs.YtknpgojdkobgjaaGreat.W
namespace Go.Proofs.YtknpgojdkobgjaaGreat.W
open Go Go.Wb
end Go.Proofs.YtknpgojdkobgjaaGreat.W
namespace Go.Proofs.YtknpgojdkobgjaaGreat.W
open Go Go.Wb
end Go.Proofs.YtknpgojdkobgjaaGreat.W
namespace Go.Proofs.YtknpgojdkobgjaaGreat.W
open Go Go.Wb
theorem Zu7 (t : Tern) : Z82 t = some (Z1v t) := rfl
theorem Zns (f : Int → Option (Tern × Bool)) (g : Nat → Tern) (hf : ∀ i : Nat, i < 24 → f (i : Int) = some (g i, true)) (b : Cube) : ∀ (m i : Nat), i + m = 24 → Z4y f m i (Z36 g b i) = some (Vector.ofFn (fun i => g i.1), true)
 | 0, i, h => by
  have : i = 24 := by omega
  subst this
  rw [Z4y, Zcn]
 | m + 1, i, h => by
  rw [Z4y, hf i (by omega), Option.bind_some, Bool.not_true, cond_false, Z8j (by omega), Option.bind_some]
  show Z4y f m (i + 1) (Vector.set (Z36 g b i) i (g i) _) = _
  rw [Zf0 g b i (by omega), Zns f g hf b m (i + 1) (by omega)]
theorem Zjw (c : Cube) : Z5k c = some (Z1b c) := by
 unfold Z5k Zaa
 have := Zns (fun x => Z7f x c) (fun i => Z1v (ve c i)) (fun i hi => by unfold Z7f; rw [Z8j hi, Option.bind_some, Zep, Zm5]; rfl) (Vector.replicate 24 Z0n) 24 0 rfl
 rw [Zde] at this
 rw [show ((24 : Int)).toNat = 24 from rfl, this]
 rfl
theorem Zka (c : Cube) : ∀ (m i : Nat), i ≤ 24 → 24 < i + m → Z69 m (Z36 (fun i => Z1v (ve c i)) c i) (i : Int) = some (Z1b c)
 | 0, i, h1, h2 => by omega
 | m + 1, i, h1, h2 => by
  rw [Z69]
  by_cases h : i < 24
  ·have e : IntKind.i64.wrap ((i : Int) + 1) = ((i + 1 : Nat) : Int) := by rw [Zmd (by omega) (by omega)]; omega
   rw [decide_eq_true (by omega), cond_true, Z8j h, Option.bind_some, Zu7, Option.bind_some, Option.bind_some, Zep, Z7s _ _ _ _ h, if_neg (by omega), e]
   show Z69 m (Vector.set (Z36 (fun i => Z1v (ve c i)) c i) i (Z1v (ve c i)) _) _ = _
   rw [Zf0 (fun i => Z1v (ve c i)) c i h, Zka c m (i + 1) (by omega) (by omega)]
  ·have : i = 24 := by omega
   subst this
   rw [decide_eq_false (by omega), cond_false, Zcn]; rfl
theorem Zlb (c : Cube) : Z7c c = some (Z1b c) := by
 unfold Z7c
 have := Zka c (((24 : Int) - 0).toNat + 1) 0 (by omega) (by decide)
 rw [Zde] at this
 exact this
def Zrv (x y : Tern) : Bool := !Zo3 (Za3 (Za3 x.Mask y.Mask) (Zml x.Value y.Value))
def apart (a b : Atom) : Bool := !(a.Group == b.Group) || decide (a.Port ≠ b.Port) || decide (a.Max ≠ b.Max) || (List.range' 0 24).any fun f => Zrv (ve a.Rewrite f) (ve b.Rewrite f)
def Zzz (t : Tern) (i : Nat) (on : Bool) : Tern := bif on then ⟨wor (Zeq (Z1v t).Value (Z6c i)) (Z6c i), wor (Z1v t).Mask (Z6c i)⟩ else ⟨Zeq (Z1v t).Value (Z6c i), wor (Z1v t).Mask (Z6c i)⟩
def Zsw (c : Cube) (f bit : Nat) (on : Bool) : Option Cube :=
 bif wt (ve c f).Mask bit && (wt (ve c f).Value bit == on) then none else some (Vector.ofFn fun k => if f = k.1 then Zzz (ve c f) bit (!on) else ve c k.1)
def sgl (x y : Tern) (k : Nat) : Bool × Bool := bif wt x.Mask k == wt y.Mask k then (false, false) else (true, bif wt x.Mask k then wt x.Value k else wt y.Value k)
def rp (c : Cube) (x y : Tern) (f k : Nat) : Option Cube := bif (sgl x y k).1 then Zsw c f k (sgl x y k).2 else none
end Go.Proofs.YtknpgojdkobgjaaGreat.W
namespace Go.Proofs.YtknpgojdkobgjaaGreat.W
open Go Go.Wb
theorem Zx6 (s : List Rule) (f : Rule → Option Bool) (p : Rule → Bool) (hf : ∀ x ∈ s, f x = some (p x)) : Z8x s f = some (Z1j p s) := by
 unfold Z8x
 rw [show ((s.length : Int)).toNat = s.length by omega]
 exact Ziq p (fun i => by rw [Z6u]) (fun m i => by rw [Z6u]) hf
theorem Zyn (s : List Rule) (f : Rule → Option Bool) (p : Rule → Bool) (hf : ∀ x ∈ s, f x = some (p x)) : Zai s f = some (s.any p) := by
 unfold Zai; rw [Zx6 s f p hf, Option.bind_some, Zdi]
def Z7e (l : List Rule) (many : Int) : Bool := decide ((l.length : Int) ≤ many) && !(l.any fun r => !decide ((r.Atoms.length : Int) ≤ 12))
theorem Zm7 (l : List Rule) (many : Int) : Z7o l many = some (Z7e l many) := by
 unfold Z7o Z7e
 rw [Zyn l Zc7 (fun r => !decide ((r.Atoms.length : Int) ≤ 12)) (fun r _ => rfl)]
 cases decide ((l.length : Int) ≤ many) <;> rfl
theorem Zqf {l : List Rule} {many : Nat} (h : Z7e l (many : Int) = true) : l.length ≤ many ∧ ∀ r ∈ l, r.Atoms.length ≤ 12 := by
 unfold Z7e at h
 rw [Bool.and_eq_true, decide_eq_true_eq, Bool.not_eq_true', List.any_eq_false] at h
 refine ⟨by have := h.1; omega, fun r hr => ?_⟩
 have := h.2 r hr
 simp only [Bool.not_eq_true, Bool.not_eq_false', decide_eq_true_eq] at this
 omega
end Go.Proofs.YtknpgojdkobgjaaGreat.W
namespace Go.Proofs.YtknpgojdkobgjaaGreat.W
open Go Go.Wb
def Zmq (a b : Tern) : Option Tern := bif Zo3 (Za3 (Zml a.Value b.Value) (Za3 a.Mask b.Mask)) then some ⟨wor (Z1v a).Value (Z1v b).Value, wor a.Mask b.Mask⟩ else none
def Y1l (g : Nat → Option Tern) : Option Cube := bif (List.range 24).all (fun i => (g i).isSome) then some (Vector.ofFn fun i => (g i.1).getD Z0n) else none
def Zyz (a b : Cube) : Option Cube := Y1l fun i => Zmq (ve a i) (ve b i)
def Zqz (r c : Cube) : Option Cube := bif (List.range 24).all (fun i => (Zmq (ve r i) (ve c i)).isSome) then some (Vector.ofFn fun i => Z1v ⟨(ve c i.1).Value, Zeq (ve c i.1).Mask (ve r i.1).Mask⟩) else none
def Zxy (c : Cube) (o : Oxm) : Cube := if h : 0 ≤ o.Field ∧ o.Field.toNat < 24 then Vector.set c o.Field.toNat (oxT o) h.2 else c
def Zxa (l : List Oxm) : Cube := l.foldl Zxy Z6f
def Zst (f : Flow) : Cube := Z1b (Zxa f.Match)
def ofI (l : List Inst) (k : Int) : Option Inst := l.find? fun i => decide (i.Kind = k)
end Go.Proofs.YtknpgojdkobgjaaGreat.W
namespace Go.Proofs.YtknpgojdkobgjaaGreat.W
open Go Go.Wb
end Go.Proofs.YtknpgojdkobgjaaGreat.W
namespace Go.Proofs.YtknpgojdkobgjaaGreat.W
open Go Go.Wb
end Go.Proofs.YtknpgojdkobgjaaGreat.W
namespace Go.Proofs.YtknpgojdkobgjaaGreat.W
open Go Go.Wb
end Go.Proofs.YtknpgojdkobgjaaGreat.W
namespace Go.Proofs.YtknpgojdkobgjaaGreat.W
open Go Go.Wb
def cl (n : Int) (free : Bool) : cover_look := ⟨⟨n, free⟩⟩
end Go.Proofs.YtknpgojdkobgjaaGreat.W
namespace Go.Proofs.YtknpgojdkobgjaaGreat.W
open Go Go.Wb
end Go.Proofs.YtknpgojdkobgjaaGreat.W
namespace Go.Proofs.YtknpgojdkobgjaaGreat.W
open Go Go.Wb
end Go.Proofs.YtknpgojdkobgjaaGreat.W
namespace Go.Proofs.YtknpgojdkobgjaaGreat.W
open Go Go.Wb
section ins
variable {lt : Int → Int → Bool} {cmp : Int → Int → Option Int}
end ins
end Go.Proofs.YtknpgojdkobgjaaGreat.W
namespace Go.Proofs.YtknpgojdkobgjaaGreat.W
open Go Go.Wb
def Zmx (t : List Flow) (i : Int) : Int := match t[i.toNat]? with
 | some f => f.Priority
 | none => 0
def ltP (t : List Flow) (i j : Int) : Bool := decide (Zmx t i > Zmx t j)
theorem Zpi (t : List Flow) : Swo (ltP t) where
 asym := fun a b h => by
  unfold ltP at *
  rw [decide_eq_true_eq] at h
  rw [decide_eq_false_iff_not]; omega
 neg := fun a b c h k => by
  unfold ltP at *
  rw [decide_eq_false_iff_not] at *; omega
def places (n : Nat) : List Int := (List.range n).map fun (i : Nat) => (i : Int)
def Zcx (t : List Flow) : List Int := srt (ltP t) (places t.length)
theorem Zrs (t : List Flow) : (Zcx t).length = t.length := by
 unfold Zcx
 rw [Y1p (Zpi t)]; simp [places]
def Zl1 (w : walk_way) (l : List Action) : walk_way := { w with atoms := w.atoms ++ (doT l (Z1b w.got)).1, got := (doT l (Z1b w.got)).2 }
def Zq9 (w : walk_way) (f : Flow) : Option walk_way := (Zqz w.got (Zst f)).bind fun b => (Zyz b w.cube).map fun c => { w with cube := c }
def Zvi (w : walk_way) (l : List Inst) : walk_way := match ofI l 4 with
 | some i => Zl1 w i.Acts
 | none => w
def Zyb (w : walk_way) (l : List Inst) : walk_way := match ofI l 5 with
 | some _ => { w with set := [] }
 | none => w
def Zve (w : walk_way) (l : List Inst) : walk_way := match ofI l 3 with
 | some i => { w with set := i.Acts.foldl wr1 w.set }
 | none => w
def Zud (w : walk_way) (l : List Inst) : walk_way := match ofI l 2 with
 | some i => { w with got := Z9s w.got 1 i.Value i.Mask }
 | none => w
def wdo (w : walk_way) (l : List Inst) : walk_way := Zud (Zve (Zyb (Zvi w l) l) l) l
def Zg8 (at_ : Nat) (l : List Inst) : Option Nat := match ofI l 1 with
 | some i => if i.Table > (at_ : Int) ∧ i.Table < 4 then some i.Table.toNat else none
 | none => none
theorem Zpq {at_ n : Nat} {l : List Inst} (h : Zg8 at_ l = some n) : at_ < n ∧ n < 4 := by
 unfold Zg8 at h
 split at h
 ·split at h
  ·cases h; omega
  ·cases h
 ·cases h
def Zy4 (w : walk_way) : walk_way := Zl1 w (Zqx w.set)
def Zpg (l : List Inst) : Prop := ∀ i ∈ l, i.Acts.length ≤ 12
def Z65 (s : Switch) (i : Nat) : List Flow := if h : i < 4 then Vector.get s.Tables ⟨i, h⟩ else []
def Zfd (w : walk_way) : Rule := ⟨w.cube, w.atoms⟩
def Zj2 (R : Nat → walk_way → List Rule) (t : List Flow) (at_ : Nat) (w : walk_way) (i : Int) : List Rule := match t[i.toNat]? with
 | none => []
 | some f => match Zq9 w f with
  | none => []
  | some x => match Zg8 at_ f.Insts with
   | some n => R n (wdo x f.Insts)
   | none => [Zfd (Zy4 (wdo x f.Insts))]
def Zah (s : Switch) : Nat → Nat → walk_way → List Rule
 | 0, _, w => [Zfd w]
 | d + 1, at_, w => (Zcx (Z65 s at_)).flatMap (Zj2 (Zah s d) (Z65 s at_) at_ w) ++ [Zfd w]
def Ztm (t : List Flow) : Prop := t.length < 20 ∧ ∀ f ∈ t, Zpg f.Insts
def Zyp (s : Switch) : Prop := ∀ i, i < 4 → Ztm (Z65 s i)
def Zkc : walk_way := ⟨Z6f, Z6f, [], []⟩
def Zo0 (s : Switch) : List Rule := Zah s 4 0 Zkc
def Z49 (s : Switch) : Nat → Nat → Nat
 | 0, _ => 1
 | d + 1, at_ => ((Z65 s at_).length + 1) * Z49 s d (at_ + 1)
theorem Zje (s : Switch) : ∀ (d at_ : Nat), 1 ≤ Z49 s d at_
 | 0, _ => Nat.le_refl _
 | d + 1, at_ => Nat.le_trans (Zje s d (at_ + 1)) (Nat.le_mul_of_pos_left _ (by omega))
theorem Zl0 (s : Switch) : ∀ (d at_ n : Nat), at_ + d = 4 → at_ ≤ n → n ≤ 4 → Z49 s (4 - n) n ≤ Z49 s d at_
 | 0, at_, n, h1, h2, h3 => by
  have : n = 4 := by omega
  subst this
  exact Nat.le_refl _
 | d + 1, at_, n, h1, h2, h3 => by
  by_cases e : n = at_
  ·subst e
   have : 4 - n = d + 1 := by omega
   rw [this]; exact Nat.le_refl _
  ·rw [Z49]
   exact Nat.le_trans (Zl0 s d (at_ + 1) n (by omega) (by omega) h3) (Nat.le_mul_of_pos_left _ (by omega))
theorem Zku {α β : Type} (f : α → List β) (k : Nat) : ∀ l : List α, (∀ x ∈ l, (f x).length ≤ k) → (l.flatMap f).length ≤ l.length * k
 | [], _ => by simp
 | x :: l, h => by
  rw [List.flatMap_cons, List.length_append, List.length_cons, Nat.add_mul, Nat.one_mul]
  have h1 := h x (by simp)
  have h2 := Zku f k l fun y hy => h y (by simp [hy])
  omega
theorem Zja (s : Switch) : ∀ (d at_ : Nat) (w : walk_way), 4 ≤ at_ + d → at_ < 4 → (Zah s d at_ w).length ≤ Z49 s (4 - at_) at_
 | 0, at_, w, h, h' => by omega
 | d + 1, at_, w, h, h' => by
  have e : 4 - at_ = (4 - (at_ + 1)) + 1 := by omega
  rw [Zah, List.length_append, List.length_singleton, e, Z49, Nat.add_mul, Nat.one_mul]
  have h1 := Zje s (4 - (at_ + 1)) (at_ + 1)
  have h2 := Zku (Zj2 (Zah s d) (Z65 s at_) at_ w) (Z49 s (4 - (at_ + 1)) (at_ + 1)) (Zcx (Z65 s at_)) fun i hi => by
   unfold Zj2
   split
   ·simp
   ·split
    ·simp
    ·split
     ·rename_i n hn
      have hb := Zpq hn
      refine Nat.le_trans (Zja s d n _ (by omega) hb.2) ?_
      exact Zl0 s (4 - (at_ + 1)) (at_ + 1) n (by omega) (by omega) (by omega)
     ·simpa using h1
  rw [Zrs] at h2
  omega
theorem Zxr (s : Switch) : (Zo0 s).length ≤ Z49 s 4 0 := Zja s 4 0 Zkc (by omega) (by omega)
end Go.Proofs.YtknpgojdkobgjaaGreat.W
namespace Go.Proofs.YtknpgojdkobgjaaGreat.W
open Go Go.Wb
end Go.Proofs.YtknpgojdkobgjaaGreat.W
namespace Go.Proofs.YtknpgojdkobgjaaGreat.W
open Go Go.Wb
end Go.Proofs.YtknpgojdkobgjaaGreat.W
namespace Go.Proofs.YtknpgojdkobgjaaGreat.W
open Go Go.Wb
end Go.Proofs.YtknpgojdkobgjaaGreat.W
namespace Go.Proofs.YtknpgojdkobgjaaGreat.W
open Go Go.Wb
theorem Zoc {β : Type} [DecidableEq β] (g : Action → β) (eq : Action → Action → Option Bool) (he : ∀ x y, eq x y = some (decide (g x = g y))) (t : List Action) : ∀ (s : List Action) (i : Nat), i + s.length = t.length → Z5e t eq s i = some (decide (s.map g = (t.drop i).map g))
 | [], i, h => by
  rw [Z5e, List.drop_of_length_le (by simp at h; omega)] <;> rfl
 | x :: s, i, h => by
  simp only [List.length_cons] at h
  have hi : i < t.length := by omega
  rw [Z5e, Z2s hi, Option.bind_some, he, Option.bind_some, Zoc g eq he t s (i + 1) (by omega), List.drop_eq_getElem_cons hi, List.map_cons, List.map_cons]
  generalize g t[i] = y
  generalize g x = z
  generalize List.map g s = l
  generalize List.map g (t.drop (i + 1)) = l'
  by_cases he : z = y
  ·simp [he]
  ·simp [he]
theorem Zqt {β : Type} [DecidableEq β] (g : Action → β) (eq : Action → Action → Option Bool) (he : ∀ x y, eq x y = some (decide (g x = g y))) (a b : List Action) : Z9c a b eq = some (decide (a.map g = b.map g)) := by
 unfold Z9c
 by_cases hl : a.length = b.length
 ·rw [decide_eq_false (by omega), cond_false, Zoc g eq he b a 0 (by omega)] <;> rfl
 ·rw [decide_eq_true (by omega), cond_true]
  have : a.map g ≠ b.map g := fun e => hl (by have := congrArg List.length e; simpa using this)
  simp [this]
theorem Zn9 {β : Type} [DecidableEq β] (g : Bucket → β) (eq : Bucket → Bucket → Option Bool) (he : ∀ x y, eq x y = some (decide (g x = g y))) (t : List Bucket) : ∀ (s : List Bucket) (i : Nat), i + s.length = t.length → Z59 t eq s i = some (decide (s.map g = (t.drop i).map g))
 | [], i, h => by
  rw [Z59, List.drop_of_length_le (by simp at h; omega)] <;> rfl
 | x :: s, i, h => by
  simp only [List.length_cons] at h
  have hi : i < t.length := by omega
  rw [Z59, Z2s hi, Option.bind_some, he, Option.bind_some, Zn9 g eq he t s (i + 1) (by omega), List.drop_eq_getElem_cons hi, List.map_cons, List.map_cons]
  generalize g t[i] = y
  generalize g x = z
  generalize List.map g s = l
  generalize List.map g (t.drop (i + 1)) = l'
  by_cases he : z = y
  ·simp [he]
  ·simp [he]
theorem Y0y {β : Type} [DecidableEq β] (g : Bucket → β) (eq : Bucket → Bucket → Option Bool) (he : ∀ x y, eq x y = some (decide (g x = g y))) (a b : List Bucket) : Za8 a b eq = some (decide (a.map g = b.map g)) := by
 unfold Za8
 by_cases hl : a.length = b.length
 ·rw [decide_eq_false (by omega), cond_false, Zn9 g eq he b a 0 (by omega)] <;> rfl
 ·rw [decide_eq_true (by omega), cond_true]
  have : a.map g ≠ b.map g := fun e => hl (by have := congrArg List.length e; simpa using this)
  simp [this]
theorem Znu {β : Type} [DecidableEq β] (g : Group → β) (eq : Group → Group → Option Bool) (he : ∀ x y, eq x y = some (decide (g x = g y))) (t : List Group) : ∀ (s : List Group) (i : Nat), i + s.length = t.length → Z5i t eq s i = some (decide (s.map g = (t.drop i).map g))
 | [], i, h => by
  rw [Z5i, List.drop_of_length_le (by simp at h; omega)] <;> rfl
 | x :: s, i, h => by
  simp only [List.length_cons] at h
  have hi : i < t.length := by omega
  rw [Z5i, Z2s hi, Option.bind_some, he, Option.bind_some, Znu g eq he t s (i + 1) (by omega), List.drop_eq_getElem_cons hi, List.map_cons, List.map_cons]
  generalize g t[i] = y
  generalize g x = z
  generalize List.map g s = l
  generalize List.map g (t.drop (i + 1)) = l'
  by_cases he : z = y
  ·simp [he]
  ·simp [he]
theorem Zto {β : Type} [DecidableEq β] (g : Group → β) (eq : Group → Group → Option Bool) (he : ∀ x y, eq x y = some (decide (g x = g y))) (a b : List Group) : Zag a b eq = some (decide (a.map g = b.map g)) := by
 unfold Zag
 by_cases hl : a.length = b.length
 ·rw [decide_eq_false (by omega), cond_false, Znu g eq he b a 0 (by omega)] <;> rfl
 ·rw [decide_eq_true (by omega), cond_true]
  have : a.map g ≠ b.map g := fun e => hl (by have := congrArg List.length e; simpa using this)
  simp [this]
theorem Zo7 {β : Type} [DecidableEq β] (g : Rule → β) (eq : Rule → Rule → Option Bool) (he : ∀ x y, eq x y = some (decide (g x = g y))) (t : List Rule) : ∀ (s : List Rule) (i : Nat), i + s.length = t.length → Z57 t eq s i = some (decide (s.map g = (t.drop i).map g))
 | [], i, h => by
  rw [Z57, List.drop_of_length_le (by simp at h; omega)] <;> rfl
 | x :: s, i, h => by
  simp only [List.length_cons] at h
  have hi : i < t.length := by omega
  rw [Z57, Z2s hi, Option.bind_some, he, Option.bind_some, Zo7 g eq he t s (i + 1) (by omega), List.drop_eq_getElem_cons hi, List.map_cons, List.map_cons]
  generalize g t[i] = y
  generalize g x = z
  generalize List.map g s = l
  generalize List.map g (t.drop (i + 1)) = l'
  by_cases he : z = y
  ·simp [he]
  ·simp [he]
theorem Zyq {β : Type} [DecidableEq β] (g : Rule → β) (eq : Rule → Rule → Option Bool) (he : ∀ x y, eq x y = some (decide (g x = g y))) (a b : List Rule) : Z8t a b eq = some (decide (a.map g = b.map g)) := by
 unfold Z8t
 by_cases hl : a.length = b.length
 ·rw [decide_eq_false (by omega), cond_false, Zo7 g eq he b a 0 (by omega)] <;> rfl
 ·rw [decide_eq_true (by omega), cond_true]
  have : a.map g ≠ b.map g := fun e => hl (by have := congrArg List.length e; simpa using this)
  simp [this]
theorem Zga {α : Type} [DecidableEq α] (a b : List α) : decide (a.map id = b.map id) = decide (a = b) := by rw [List.map_id, List.map_id]
theorem Zxb (a b : List Action) : Z8s a b = some (decide (a = b)) := by
 unfold Z8s
 rw [Zqt id Zc2 (fun x y => rfl), Option.bind_some, Zga]
theorem Zzn (a b : Bucket) : Z79 a b = some (decide (a = b)) := by
 unfold Z79
 rw [Zxb]
 cases a; cases b; rename_i p q r s p' q' r' s'
 by_cases h1 : p = p' <;> by_cases h2 : q = q' <;> by_cases h3 : r = r' <;> by_cases h4 : s = s' <;> simp [opt, h1, h2, h3, h4]
theorem Zth (a b : List Bucket) : Z92 a b = some (decide (a = b)) := by
 unfold Z92
 rw [Y0y id Z79 Zzn, Option.bind_some, Zga]
theorem Zs0 (a b : Group) : Z7k a b = some (decide (a = b)) := by
 unfold Z7k
 rw [Zth]
 cases a; cases b; rename_i p q r p' q' r'
 by_cases h1 : p = p' <;> by_cases h2 : q = q' <;> by_cases h3 : r = r' <;> simp [opt, h1, h2, h3]
theorem Zrg (a b : List Group) : Z9j a b = some (decide (a = b)) := by
 unfold Z9j
 rw [Zto id Z7k Zs0, Option.bind_some, Zga]
def rcl (r : Rule) : Cube × List Atom := (Z1b r.Cube, r.Atoms.map acl)
theorem Zyy (a b : Rule) : Z7p a b = some (decide (rcl a = rcl b)) := by
 unfold Z7p rcl
 rw [Zjw, Option.bind_some, Zjw, Option.bind_some, Zpm]
 by_cases h1 : Z1b a.Cube = Z1b b.Cube <;> by_cases h2 : a.Atoms.map acl = b.Atoms.map acl <;> simp [opt, h1, h2]
def Z68 (a b : Flat) : Bool := decide (a.Rules.map rcl = b.Rules.map rcl) && decide (a.Groups = b.Groups)
theorem Zkw (a b : Flat) : Z5l a b = some (Z68 a b) := by
 unfold Z5l Z68
 rw [Zyq rcl Z7p Zyy, Option.bind_some, Zrg]
 cases decide (a.Rules.map rcl = b.Rules.map rcl) <;> rfl
theorem Zsg (a : Flat) : Z68 a a = true := by unfold Z68; simp
theorem Zro (a b : Action) : Z9r a b = some (decide (a = b)) := by
 unfold Z9r Zeg
 cases a; cases b; rename_i p q r s t o p' q' r' s' t' o'
 cases o; cases o'; rename_i x y z w x' y' z' w'
 by_cases h1 : p = p' <;> by_cases h2 : q = q' <;> by_cases h3 : r = r' <;> by_cases h4 : s = s' <;> by_cases h5 : t = t' <;> simp [opt, h1, h2, h3, h4, h5]
 by_cases h6 : x = x' <;> by_cases h7 : y = y' <;> by_cases h8 : z = z' <;> by_cases h9 : w = w' <;> simp [h6, h7, h8, h9]
theorem Zks (a b : List Action) (hl : a.length = b.length) (hs : a.length ≤ 1000000) : ∀ (m i : Nat), i ≤ a.length → a.length < i + m → Z7n a b m (i : Int) = some (decide (a.drop i = b.drop i))
 | 0, i, h1, h2 => by omega
 | m + 1, i, h1, h2 => by
  rw [Z7n]
  by_cases hi : i < a.length
  ·have hb : i < b.length := by omega
   rw [decide_eq_true (by omega), cond_true, Z2s hi, Option.bind_some, Z2s hb, Option.bind_some, Zro, Option.bind_some, inc i (by omega), Zks a b hl hs m (i + 1) (by omega) (by omega), List.drop_eq_getElem_cons hi, List.drop_eq_getElem_cons hb]
   generalize a[i] = x
   generalize b[i] = y
   generalize a.drop (i + 1) = l
   generalize b.drop (i + 1) = l'
   by_cases he : x = y
   ·simp [he]
   ·simp [he]
  ·rw [decide_eq_false (by omega), cond_false, List.drop_of_length_le (by omega), List.drop_of_length_le (by omega)] <;> rfl
theorem Zss (a b : List Action) (hs : a.length ≤ 1000000) : Z7t a b = some (decide (a = b)) := by
 unfold Z7t
 by_cases hl : a.length = b.length
 ·have := Zks a b hl hs ((((a.length : Int) : Int) - 0).toNat + 1) 0 (by omega) (by omega)
  rw [decide_eq_false (by omega), cond_false]
  exact this
 ·rw [decide_eq_true (by omega), cond_true]
  have : a ≠ b := fun e => hl (by rw [e])
  simp [this]
theorem Ztp (x y : Bucket) (hx : x.Acts.length ≤ 1000000) (K : Option Bool) : ((opt (!(decide (x.Weight ≠ y.Weight))) (some x)).bind fun e8 => (opt (!(decide (x.Weight ≠ y.Weight))) (some y)).bind fun e9 => (opt (!((decide (x.Weight ≠ y.Weight)) || (decide (e8.Watch ≠ e9.Watch)))) (some x)).bind fun e10 => (opt (!((decide (x.Weight ≠ y.Weight)) || (decide (e8.Watch ≠ e9.Watch)))) (some y)).bind fun e11 => (opt (!(((decide (x.Weight ≠ y.Weight)) || (decide (e8.Watch ≠ e9.Watch))) || (decide (e10.WatchGroup ≠ e11.WatchGroup)))) (some x)).bind fun e12 => (opt (!(((decide (x.Weight ≠ y.Weight)) || (decide (e8.Watch ≠ e9.Watch))) || (decide (e10.WatchGroup ≠ e11.WatchGroup)))) (some y)).bind fun e13 => (opt (!(((decide (x.Weight ≠ y.Weight)) || (decide (e8.Watch ≠ e9.Watch))) || (decide (e10.WatchGroup ≠ e11.WatchGroup)))) (Z7t e12.Acts e13.Acts)).bind fun x14 => (bif ((((decide (x.Weight ≠ y.Weight)) || (decide (e8.Watch ≠ e9.Watch))) || (decide (e10.WatchGroup ≠ e11.WatchGroup))) || (!x14)) then some false else K)) = bif decide (x = y) then K else some false := by
 have h13 := Zss x.Acts y.Acts hx
 cases x; cases y; rename_i p q r s p' q' r' s'
 simp only at h13
 by_cases h1 : p = p'
 ·by_cases h2 : q = q'
  ·by_cases h3 : r = r'
   ·by_cases h4 : s = s'
    ·subst h4; simp [opt, h1, h2, h3, h13]
    ·simp [opt, h1, h2, h3, h4, h13]
   ·simp [opt, h1, h2, h3]
  ·simp [opt, h1, h2]
 ·simp [opt, h1]
theorem Zmr (a b : List Bucket) (hl : a.length = b.length) (hs : a.length ≤ 1000000) (ha : ∀ x ∈ a, x.Acts.length ≤ 1000000) : ∀ (m i : Nat), i ≤ a.length → a.length < i + m → Z7a a b m (i : Int) = some (decide (a.drop i = b.drop i))
 | 0, i, h1, h2 => by omega
 | m + 1, i, h1, h2 => by
  rw [Z7a]
  by_cases hi : i < a.length
  ·have hb : i < b.length := by omega
   rw [decide_eq_true (by omega), cond_true, Z2s hi, Option.bind_some, Z2s hb, Option.bind_some, Ztp _ _ (ha _ (List.getElem_mem hi)), inc i (by omega), Zmr a b hl hs ha m (i + 1) (by omega) (by omega), List.drop_eq_getElem_cons hi, List.drop_eq_getElem_cons hb]
   generalize a[i] = x
   generalize b[i] = y
   generalize a.drop (i + 1) = l
   generalize b.drop (i + 1) = l'
   by_cases he : x = y
   ·simp [he]
   ·simp [he]
  ·rw [decide_eq_false (by omega), cond_false, List.drop_of_length_le (by omega), List.drop_of_length_le (by omega)] <;> rfl
theorem Y11 (a b : List Bucket) (hs : a.length ≤ 1000000) (ha : ∀ x ∈ a, x.Acts.length ≤ 1000000) : Z8i a b = some (decide (a = b)) := by
 unfold Z8i
 by_cases hl : a.length = b.length
 ·have := Zmr a b hl hs ha ((((a.length : Int) : Int) - 0).toNat + 1) 0 (by omega) (by omega)
  rw [decide_eq_false (by omega), cond_false]
  exact this
 ·rw [decide_eq_true (by omega), cond_true]
  have : a ≠ b := fun e => hl (by rw [e])
  simp [this]
def Zdo (a : List Group) : Prop := ∀ g ∈ a, g.Buckets.length ≤ 1000000 ∧ ∀ x ∈ g.Buckets, x.Acts.length ≤ 1000000
theorem Y1a (x y : Group) (hx : x.Buckets.length ≤ 1000000) (hb : ∀ z ∈ x.Buckets, z.Acts.length ≤ 1000000) (K : Option Bool) : ((opt (!(decide (x.ID ≠ y.ID))) (some x)).bind fun e8 => (opt (!(decide (x.ID ≠ y.ID))) (some y)).bind fun e9 => (opt (!((decide (x.ID ≠ y.ID)) || (decide (e8.Kind ≠ e9.Kind)))) (some x)).bind fun e10 => (opt (!((decide (x.ID ≠ y.ID)) || (decide (e8.Kind ≠ e9.Kind)))) (some y)).bind fun e11 => (opt (!((decide (x.ID ≠ y.ID)) || (decide (e8.Kind ≠ e9.Kind)))) (Z8i e10.Buckets e11.Buckets)).bind fun x12 => (bif (((decide (x.ID ≠ y.ID)) || (decide (e8.Kind ≠ e9.Kind))) || (!x12)) then some false else K)) = bif decide (x = y) then K else some false := by
 have h15 := Y11 x.Buckets y.Buckets hx hb
 cases x; cases y; rename_i p q r p' q' r'
 simp only at h15
 by_cases h1 : p = p'
 ·by_cases h2 : q = q'
  ·by_cases h3 : r = r'
   ·subst h3; simp [opt, h1, h2, h15]
   ·simp [opt, h1, h2, h3, h15]
  ·simp [opt, h1, h2]
 ·simp [opt, h1]
theorem Znp (a b : List Group) (hl : a.length = b.length) (hs : a.length ≤ 1000000) (ha : Zdo a) : ∀ (m i : Nat), i ≤ a.length → a.length < i + m → Z7d a b m (i : Int) = some (decide (a.drop i = b.drop i))
 | 0, i, h1, h2 => by omega
 | m + 1, i, h1, h2 => by
  rw [Z7d]
  by_cases hi : i < a.length
  ·have hb : i < b.length := by omega
   have hg := ha _ (List.getElem_mem hi)
   rw [decide_eq_true (by omega), cond_true, Z2s hi, Option.bind_some, Z2s hb, Option.bind_some, Y1a _ _ hg.1 hg.2, inc i (by omega), Znp a b hl hs ha m (i + 1) (by omega) (by omega), List.drop_eq_getElem_cons hi, List.drop_eq_getElem_cons hb]
   generalize a[i] = x
   generalize b[i] = y
   generalize a.drop (i + 1) = l
   generalize b.drop (i + 1) = l'
   by_cases he : x = y
   ·simp [he]
   ·simp [he]
  ·rw [decide_eq_false (by omega), cond_false, List.drop_of_length_le (by omega), List.drop_of_length_le (by omega)] <;> rfl
theorem Y0v (a b : List Group) (hs : a.length ≤ 1000000) (ha : Zdo a) : Za1 a b = some (decide (a = b)) := by
 unfold Za1
 by_cases hl : a.length = b.length
 ·have := Znp a b hl hs ha ((((a.length : Int) : Int) - 0).toNat + 1) 0 (by omega) (by omega)
  rw [decide_eq_false (by omega), cond_false]
  exact this
 ·rw [decide_eq_true (by omega), cond_true]
  have : a ≠ b := fun e => hl (by rw [e])
  simp [this]
theorem Zpf (x y : Rule) (hx : x.Atoms.length ≤ 1000000) (K : Option Bool) : ((opt (!(decide (Z1b x.Cube ≠ Z1b y.Cube))) (some x)).bind fun e13 => (opt (!(decide (Z1b x.Cube ≠ Z1b y.Cube))) (some y)).bind fun e14 => (opt (!(decide (Z1b x.Cube ≠ Z1b y.Cube))) (Z7y e13.Atoms e14.Atoms)).bind fun x15 => (bif ((decide (Z1b x.Cube ≠ Z1b y.Cube)) || (!x15)) then some false else K)) = bif decide (rcl x = rcl y) then K else some false := by
 unfold rcl
 have h := Ztc x.Atoms y.Atoms hx
 by_cases h1 : Z1b x.Cube = Z1b y.Cube
 ·by_cases h2 : x.Atoms.map acl = y.Atoms.map acl
  ·simp [opt, h1, h2, h]
  ·simp [opt, h1, h2, h]
 ·simp [opt, h1]
theorem Zmm (a b : Flat) (hl : a.Rules.length = b.Rules.length) (hs : a.Rules.length ≤ 1000000) (ha : ∀ r ∈ a.Rules, r.Atoms.length ≤ 1000000) : ∀ (m i : Nat), i ≤ a.Rules.length → a.Rules.length < i + m → Z8c a b m (i : Int) = some (decide ((a.Rules.drop i).map rcl = (b.Rules.drop i).map rcl))
 | 0, i, h1, h2 => by omega
 | m + 1, i, h1, h2 => by
  rw [Z8c]
  by_cases hi : i < a.Rules.length
  ·have hb : i < b.Rules.length := by omega
   rw [decide_eq_true (by omega), cond_true, Z2s hi, Option.bind_some, Zlb, Option.bind_some, Z2s hb, Option.bind_some, Zlb, Option.bind_some, Zpf _ _ (ha _ (List.getElem_mem hi)), inc i (by omega), Zmm a b hl hs ha m (i + 1) (by omega) (by omega), List.drop_eq_getElem_cons hi, List.drop_eq_getElem_cons hb, List.map_cons, List.map_cons]
   generalize rcl a.Rules[i] = x
   generalize rcl b.Rules[i] = y
   generalize (a.Rules.drop (i + 1)).map rcl = l
   generalize (b.Rules.drop (i + 1)).map rcl = l'
   by_cases he : x = y
   ·simp [he]
   ·simp [he]
  ·rw [decide_eq_false (by omega), cond_false, List.drop_of_length_le (by omega), List.drop_of_length_le (by omega)] <;> rfl
theorem Zqa (a b : Flat) (hs : a.Rules.length ≤ 1000000) (ha : ∀ r ∈ a.Rules, r.Atoms.length ≤ 1000000) (hgl : a.Groups.length ≤ 1000000) (hg : Zdo a.Groups) : Z9f a b = some (Z68 a b) := by
 unfold Z9f Z68
 rw [Y0v _ _ hgl hg]
 by_cases hl : a.Rules.length = b.Rules.length
 ·have := Zmm a b hl hs ha ((((a.Rules.length : Int) : Int) - 0).toNat + 1) 0 (by omega) (by omega)
  rw [decide_eq_false (by omega), Bool.not_false, Zkq, Option.bind_some, Bool.false_or]
  cases decide (a.Groups = b.Groups)
  ·rw [Bool.and_false]; rfl
  ·rw [Bool.and_true]; exact this
 ·have : a.Rules.map rcl ≠ b.Rules.map rcl := fun e => hl (by have := congrArg List.length e; simpa using this)
  rw [decide_eq_true (by omega), decide_eq_false this]; rfl
end Go.Proofs.YtknpgojdkobgjaaGreat.W
namespace Go.Proofs.YtknpgojdkobgjaaGreat.W
open Go Go.Wb
end Go.Proofs.YtknpgojdkobgjaaGreat.W
namespace Go.Proofs.YtknpgojdkobgjaaGreat.W
open Go Go.Wb
def U : Int := 1099511627776
end Go.Proofs.YtknpgojdkobgjaaGreat.W
namespace Go.Proofs.YtknpgojdkobgjaaGreat.W
open Go Go.Wb
end Go.Proofs.YtknpgojdkobgjaaGreat.W
namespace Go.Proofs.YtknpgojdkobgjaaGreat.W
open Go Go.Wb
structure SW (s : Switch) : Prop where
 lt : Zyp s
 G : Y0f s.Groups
 I : ∀ i, i < 4 → ∀ f ∈ Z65 s i, f.Insts.length ≤ 100000 ∧ f.Match.length ≤ 100000
 most : Z49 s 4 0 ≤ 6561
theorem SW.len {s : Switch} (h : SW s) : (Zo0 s).length ≤ 6561 := Nat.le_trans (Zxr s) h.most
set_option maxRecDepth 100000 in
theorem Zwf : Z9o = some true := by decide +kernel
theorem Zxw (a b : Flat) : Zap a b = some true := by
 unfold Zap
 rw [Zm7, Option.bind_some, Zm7, Zjz, Zjz, Zwf]
 cases h1 : Z7e a.Rules 20
 ·rfl
 ·cases h2 : Z7e b.Rules 20
  ·rfl
  ·cases h3 : Za2 a.Groups 9 6
   ·rfl
   ·cases h4 : Za2 b.Groups 9 6
    ·rfl
    ·have hr := Zqf (many := 20) h1
     have hg : a.Groups.length ≤ 9 ∧ Zdo a.Groups := by
      unfold Za2 at h3
      rw [Bool.and_eq_true, decide_eq_true_eq, Bool.not_eq_true'] at h3
      refine ⟨by omega, fun g hg => ?_⟩
      have h5 := List.any_eq_false.1 h3.2 g hg
      unfold Za7 at h5
      rw [Bool.not_eq_true', Bool.not_eq_false, Bool.and_eq_true, decide_eq_true_eq, Bool.not_eq_true'] at h5
      refine ⟨by have := h5.1; omega, fun x hx => ?_⟩
      rw [List.any_eq_false] at h5
      have h6 := h5.2 x hx
      simp at h6
      omega
     simp only [Bool.not_true, Bool.or_self, Bool.not_false, Zkq, Option.bind_some, cond_false]
     rw [Zkw, Option.bind_some, Zqa _ _ (by omega) (fun r hr' => by have := hr.2 r hr'; omega) (by omega) hg.2, Option.bind_some, Zkw, Zsg]
     cases Z68 a b <;> rfl
end Go.Proofs.YtknpgojdkobgjaaGreat.W
