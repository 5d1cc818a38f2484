/- A part of the proof. -/
import Derived.Test.YtknpgojdkobgjaaGreatP0
set_option linter.unusedVariables false
set_option linter.unusedSimpArgs false
namespace Go.Proofs.YtknpgojdkobgjaaGreat.W
open Go Go.Wb
theorem Y2v (s : Switch) (hs : Z9c s) : ∀ (d at_ : Nat) (w : walk_way), at_ < 4 → Zhh at_ w → ∀ r ∈ Z2t s d at_ w, r.Atoms.length ≤ 1000
 | 0, at_, w, h4, hw, r, hr => by
  rw [Z2t, List.mem_singleton] at hr
  rw [hr]
  have := hw.1
  show w.atoms.length ≤ 1000
  omega
 | d + 1, at_, w, h4, hw, r, hr => by
  have h0 := hw.1
  have h1 := hw.2
  rw [Z2t] at hr
  rcases List.mem_append.1 hr with hr | hr
  ·obtain ⟨i, hi, hr⟩ := List.mem_flatMap.1 hr
   unfold Z5m at hr
   split at hr
   ·cases hr
   ·rename_i f hf
    have hfi := (hs at_ h4).2 f (List.mem_of_getElem? hf)
    split at hr
    ·cases hr
    ·rename_i x hx
     have hx := Y5k hx
     have hd := Ztx x hfi
     rw [hx.1, hx.2] at hd
     split at hr
     ·rename_i n hn
      have hb := Zom hn
      exact Y2v s hs d _ _ hb.2 ⟨by omega, by omega⟩ r hr
     ·rw [List.mem_singleton] at hr
      rw [hr]
      have := Y0e (wdo x f.Insts)
      show (Z5w (wdo x f.Insts)).atoms.length ≤ 1000
      omega
  ·rw [List.mem_singleton] at hr
   rw [hr]
   show w.atoms.length ≤ 1000
   omega
theorem Y3x (s : Switch) (hs : Z9c s) : ∀ r ∈ Z4f s, r.Atoms.length ≤ 1000 := Y2v s hs 4 0 Z6l (by omega) ⟨by simp [Z6l], by simp [Z6l]⟩
theorem Yny {s : Switch} {many : Nat} (h : Z95 s (many : Int) = true) : ∀ i, i < 4 → ∀ f ∈ Z0c s i, f.Insts.length ≤ 100000 ∧ f.Match.length ≤ 100000 := fun i hi f hf => by
 have := ((Zk6 h).1 i hi).2 f hf
 omega
end Go.Proofs.YtknpgojdkobgjaaGreat.W
namespace Go.Proofs.YtknpgojdkobgjaaGreat.W
open Go Go.Wb
def U : Int := 1099511627776
def Zjb (c : Cube) (l : List Cube) : List Cube := l.filter (Z3u c)
theorem Y6d {c : Cube} {l : List Cube} {i : Nat} (h : Z5l c l 0 = some i) : ∃ hi : i < l.length, Z3u c l[i] = true ∧ Zjb c l = l[i] :: Zjb c (l.drop (i + 1)) := by
 have hs := Zu6 c l 0
 rw [h] at hs
 obtain ⟨j, h1, h2, h3, h4⟩ := hs
 have : i = j := by omega
 subst this
 refine ⟨h2, h3, ?_⟩
 have e : l = l.take i ++ l[i] :: l.drop (i + 1) := by
  rw [← List.drop_eq_getElem_cons h2, List.take_append_drop]
 have e0 : (l.take i).filter (Z3u c) = [] := List.filter_eq_nil_iff.2 fun x hx => by rw [h4 x hx]; simp
 have : Zjb c (l.take i ++ l[i] :: l.drop (i + 1)) = l[i] :: Zjb c (l.drop (i + 1)) := by
  unfold Zjb
  rw [List.filter_append, e0, List.nil_append, List.filter_cons, if_pos h3]
 rw [← e] at this
 exact this
theorem Y8f {m : Int} (h : 0 ≤ m) : Z1f m 0 = m := by
 unfold Z1f
 rw [decide_eq_false (by omega)]; rfl
theorem Zyb (c : Cube) (l : List Cube) (most : Int) : (Z57 c l most).2.2 = 0 ∨ Z57 c l most = (Z4i, false, 5) := by
 unfold Z57
 cases decide ((Zei c l most).2.2 < 0)
 ·exact .inl rfl
 ·exact .inr rfl
def Z49 (most : Int) : List Rule → List Rule → List Rule × Int
 | [], kept => (kept, 0)
 | r :: l, kept => bif decide ((Z57 r.Cube (kept.map (·.Cube)) most).2.2 ≠ 0) then ([], 5) else bif (Z57 r.Cube (kept.map (·.Cube)) most).2.1 then Z49 most l (kept ++ [r]) else Z49 most l kept
theorem Zz2 (l : List Rule) (h : ∀ r ∈ l, r.Atoms.length ≤ 1000000) : ∀ (m i : Nat), i + m = l.length → Zby m i l = some l
 | 0, i, _ => by rw [Zby]
 | m + 1, i, hi => by
  have hlim : lim = 4294967296 := rfl
  have hlt : i < l.length := by omega
  have ha := h l[i] (List.getElem_mem hlt)
  have e : List.set l ((i : Int)).toNat { l[i] with Atoms := l[i].Atoms } = l := by
   rw [Int.toNat_natCast]; exact List.set_getElem_self hlt
  rw [Zby, Z39 hlt, Option.bind_some]
  unfold Zct
  rw [Z23 (by simp; omega), Option.bind_some, Option.bind_some, List.nil_append, e]
  exact Zz2 l h m (i + 1) (by omega)
theorem Yn8 (l : List Rule) (hl : l.length ≤ 1000000) (h : ∀ r ∈ l, r.Atoms.length ≤ 1000000) : Zi1 l = some l := by
 have hlim : lim = 4294967296 := rfl
 unfold Zi1 Zn0
 rw [Z23 (by simp; omega), Option.bind_some, List.nil_append, show ((l.length : Int)).toNat = l.length by omega]
 exact Zz2 l h l.length 0 (by omega)
theorem Zri (most : Int) (hm : most ≤ 9223372036854775807) : ∀ (l : List Rule) (i : Nat) (kept : List Rule), kept.length + l.length ≤ 1000000 → (∀ r ∈ kept, r.Atoms.length ≤ 1000000) → (∀ r ∈ l, r.Atoms.length ≤ 1000000) →
  Za2 most l i kept (kept.map (·.Cube)) = some (Z49 most l kept)
 | [], i, kept, h, h1, _ => by
  rw [Za2, Yn8 kept (by simpa using h) h1]; rfl
 | r :: l, i, kept, h, h1, h2 => by
  have hlim : lim = 4294967296 := rfl
  simp only [List.length_cons] at h
  rw [Za2, Ykx _ _ _ hm (by simp; omega), Option.bind_some, Z49]
  rcases Zyb r.Cube (kept.map (·.Cube)) most with he | he
  ·rw [he, decide_eq_false (by omega), cond_false, cond_false]
   cases (Z57 r.Cube (kept.map (·.Cube)) most).2.1
   ·exact Zri most hm l (i + 1) kept (by omega) h1 fun q hq => h2 q (by simp [hq])
   ·rw [Bool.not_true, cond_false, cond_true, Z23 (by simp; omega), Option.bind_some, Z23 (by simp; omega), Option.bind_some]
    have := Zri most hm l (i + 1) (kept ++ [r]) (by simp; omega) (fun q hq => by
     rcases List.mem_append.1 hq with hq | hq
     ·exact h1 q hq
     ·rw [List.mem_singleton.1 hq]; exact h2 r (by simp)) fun q hq => h2 q (by simp [hq])
    rw [List.map_append] at this
    exact this
  ·rw [he]; rfl
theorem Zmr (most : Int) : ∀ (l kept : List Rule), (Z49 most l kept).2 = 0 ∨ Z49 most l kept = ([], 5)
 | [], kept => .inl rfl
 | r :: l, kept => by
  rw [Z49]
  cases decide ((Z57 r.Cube (kept.map (·.Cube)) most).2.2 ≠ 0)
  ·cases (Z57 r.Cube (kept.map (·.Cube)) most).2.1
   ·exact Zmr most l kept
   ·exact Zmr most l _
  ·exact .inr rfl
theorem Zt1 (most : Int) : ∀ (l kept : List Rule), (Z49 most l kept).1.length ≤ kept.length + l.length ∧ ∀ r ∈ (Z49 most l kept).1, r ∈ kept ∨ r ∈ l
 | [], kept => ⟨by simp [Z49], fun r hr => .inl hr⟩
 | r :: l, kept => by
  rw [Z49]
  cases decide ((Z57 r.Cube (kept.map (·.Cube)) most).2.2 ≠ 0)
  ·cases (Z57 r.Cube (kept.map (·.Cube)) most).2.1
   ·have := Zt1 most l kept
    rw [cond_false, cond_false]
    exact ⟨by simp; omega, fun q hq => (this.2 q hq).imp id fun h => by simp [h]⟩
   ·have := Zt1 most l (kept ++ [r])
    rw [cond_false, cond_true]
    refine ⟨by have := this.1; simp at this ⊢; omega, fun q hq => ?_⟩
    rcases this.2 q hq with h | h
    ·rcases List.mem_append.1 h with h | h
     ·exact .inl h
     ·rw [List.mem_singleton.1 h]; exact .inr (by simp)
    ·exact .inr (by simp [h])
  ·exact ⟨by simp, fun q hq => by simp at hq⟩
end Go.Proofs.YtknpgojdkobgjaaGreat.W
namespace Go.Proofs.YtknpgojdkobgjaaGreat.W
open Go Go.Wb
end Go.Proofs.YtknpgojdkobgjaaGreat.W
namespace Go.Proofs.YtknpgojdkobgjaaGreat.W
open Go Go.Wb
theorem Ycv {l : List Group} (h : Z3d l) (i : Nat) : Z3d (l.drop i) := ⟨by have := h.1; rw [List.length_drop]; omega, fun g hg => h.2 g (List.mem_of_mem_drop hg)⟩
theorem Y5w (G : List Group) (hG : Z3d G) : ∀ (l : List Group) (i : Nat) (acc : List Group), l = G.drop i → acc.length + l.length ≤ 1000 → Zb2 G l i acc = some (acc ++ l)
 | [], i, acc, _, _ => by simp [Zb2]
 | g :: l, i, acc, h, hl => by
  have hlim : lim = 4294967296 := rfl
  have hi : i < G.length := by
   have := congrArg List.length h
   simp at this; omega
  simp only [List.length_cons] at hl
  have h2 := h
  rw [List.drop_eq_getElem_cons hi] at h2
  obtain ⟨e1, e2⟩ := List.cons.inj h2
  have hf : Z6g (G.drop i) g.ID = some g := by
   unfold Z6g
   rw [← h, List.find?_cons_of_pos (by simp)]
  rw [Zb2, Y33 _ _ (by omega), Option.bind_some, Zkz _ _ (Ycv hG i), hf, Option.bind_some]
  show (Z1a acc [g]).bind _ = _
  rw [Z23 (by simp; omega), Option.bind_some, Y5w G hG l (i + 1) _ e2 (by simp; omega)]
  simp
theorem Yns (G : List Group) (hG : Z3d G) : Zl6 G = some G := by
 unfold Zl6
 have h9 := hG.1
 exact Y5w G hG G 0 [] rfl (by simp; omega)
structure SW (s : Switch) : Prop where
 lt : Z9c s
 G : Z3d s.Groups
 I : ∀ i, i < 4 → ∀ f ∈ Z0c s i, f.Insts.length ≤ 100000 ∧ f.Match.length ≤ 100000
 most : Z76 s 4 0 ≤ 6561
theorem Ybv {s : Switch} {m : Nat} (h : Z95 s (m : Int) = true) (hm : m ≤ 8) : SW s := ⟨Yi0 h (by omega), (Zk6 h).2, Yny h, by
 have h1 := Yjl s 8 fun i hi => by have := ((Zk6 h).1 i hi).1; omega
 omega⟩
theorem SW.len {s : Switch} (h : SW s) : (Z4f s).length ≤ 6561 := Nat.le_trans (Y3j s) h.most
theorem SW.walk {s : Switch} (h : SW s) : Zfo s = some (Z4f s) := Ykw s h.lt (by have := h.most; have hlim : lim = 4294967296 := rfl; omega)
def Z6i (s : Switch) (most : Int) : List Rule × Int := Z49 most (Z4f s) []
def Z1i (s : Switch) (most : Int) : Flat × Int := bif decide ((Z6i s most).2 ≠ 0) then (⟨[], []⟩, 5) else (⟨(Z6i s most).1, s.Groups⟩, 0)
theorem Yc8 (s : Switch) (h : SW s) (most : Int) (hm : most ≤ 9223372036854775807) : Zng (Z4f s) most = some (Z6i s most) := by
 have h1 := h.len
 have h2 := Y3x s h.lt
 exact Zri most hm (Z4f s) 0 [] (by simp; omega) (by simp) fun r hr => by have := h2 r hr; omega
theorem Ybw (s : Switch) (h : SW s) (most : Int) (hm : most ≤ 9223372036854775807) : Zj4 s most = some (Z1i s most) := by
 unfold Zj4 Z1i
 rw [h.walk, Option.bind_some, Yc8 s h most hm, Option.bind_some]
 rcases Zmr most (Z4f s) [] with he | he
 ·rw [show (Z6i s most).2 = 0 from he, decide_eq_false (by omega), cond_false, cond_false, Yns _ h.G]; rfl
 ·rw [show Z6i s most = ([], 5) from he]; rfl
theorem Y0c (s : Switch) (h : SW s) (most : Int) : (Z1i s most).1.Rules.length ≤ 6561 ∧ (∀ r ∈ (Z1i s most).1.Rules, r.Atoms.length ≤ 1000) ∧ Z3d (Z1i s most).1.Groups := by
 unfold Z1i
 cases decide ((Z6i s most).2 ≠ 0)
 ·have h1 := Zt1 most (Z4f s) []
  have h2 := h.len
  refine ⟨?_, fun r hr => ?_, h.G⟩
  ·have := h1.1
   simp at this
   show (Z49 most (Z4f s) []).1.length ≤ _
   omega
  ·rcases h1.2 r hr with h3 | h3
   ·simp at h3
   ·exact Y3x s h.lt r h3
 ·exact ⟨by simp, fun r hr => by simp at hr, ⟨by simp, fun g hg => by simp at hg⟩⟩
end Go.Proofs.YtknpgojdkobgjaaGreat.W
namespace Go.Proofs.YtknpgojdkobgjaaGreat.W
open Go Go.Wb
structure Z1p where
 h : Header
 set : List Action
 out : List Out
def Zp2 (G : Int → Header → List Out) (p : Z1p) (l : List Action) : Z1p := ⟨(doA G l [] p.h).2, p.set, p.out ++ (doA G l [] p.h).1⟩
def Z64 (G : Int → Header → List Out) (p : Z1p) (l : List Inst) : Z1p := match ofI l 4 with
 | some i => Zp2 G p i.Acts
 | none => p
def Z69 (p : Z1p) (l : List Inst) : Z1p := match ofI l 5 with
 | some _ => { p with set := [] }
 | none => p
def Z6b (p : Z1p) (l : List Inst) : Z1p := match ofI l 3 with
 | some i => { p with set := i.Acts.foldl wr1 p.set }
 | none => p
def Z6j (p : Z1p) (l : List Inst) : Z1p := match ofI l 2 with
 | some i => { p with h := Z12 (Z42 Z2a 1 i.Value i.Mask) p.h }
 | none => p
def sdo (G : Int → Header → List Out) (p : Z1p) (l : List Inst) : Z1p := Z6j (Z6b (Z69 (Z64 G p l) l) l) l
def Zhl (G : Int → Header → List Out) (p : Z1p) : Z1p := Zp2 G p (Z5r p.set)
def bdG (G : Int → Header → List Out) : Prop := ∀ id h, (G id h).length ≤ 6561
theorem Zqz (l : List Group) (e : Env) (hl : Z3d l) : bdG (goG l e 8) := fun id h => Zkb l e hl 8 id h
theorem Zxy {G : Int → Header → List Out} (hG : bdG G) (l : List Action) (h : Header) : (doA G l [] h).1.length ≤ l.length * 6561 :=
 Nat.le_trans (Znp G 6561 (by omega) hG l h) (Nat.mul_le_mul_right _ (Zp5 l))
theorem Y1v {G : Int → Header → List Out} (hG : bdG G) (p : Z1p) {l : List Inst} (hl : Z6f l) : (Z64 G p l).out.length ≤ p.out.length + 78732 ∧ (Z64 G p l).set = p.set := by
 unfold Z64
 split
 ·rename_i i hi
  have h1 := hl i (Za7 hi)
  have h2 := Zxy hG i.Acts p.h
  refine ⟨?_, rfl⟩
  show (p.out ++ _).length ≤ _
  rw [List.length_append]; omega
 ·exact ⟨by omega, rfl⟩
theorem Y44 (p : Z1p) (l : List Inst) : (Z69 p l).out = p.out ∧ (Z69 p l).set.length ≤ p.set.length := by
 unfold Z69
 split
 ·exact ⟨rfl, by simp⟩
 ·exact ⟨rfl, by omega⟩
theorem Ygw (p : Z1p) {l : List Inst} (hl : Z6f l) : (Z6b p l).out = p.out ∧ (Z6b p l).set.length ≤ p.set.length + 12 := by
 unfold Z6b
 split
 ·rename_i i hi
  have h1 := hl i (Za7 hi)
  have h2 := Zio i.Acts p.set
  exact ⟨rfl, by show (i.Acts.foldl wr1 p.set).length ≤ _; omega⟩
 ·exact ⟨rfl, by omega⟩
theorem Ygj (p : Z1p) (l : List Inst) : (Z6j p l).out = p.out ∧ (Z6j p l).set = p.set := by
 unfold Z6j
 split
 ·exact ⟨rfl, rfl⟩
 ·exact ⟨rfl, rfl⟩
theorem Ymw {G : Int → Header → List Out} (hG : bdG G) (p : Z1p) {l : List Inst} (hl : Z6f l) : (sdo G p l).out.length ≤ p.out.length + 78732 ∧ (sdo G p l).set.length ≤ p.set.length + 12 := by
 have h1 := Y1v hG p hl
 have h2 := Y44 (Z64 G p l) l
 have h3 := Ygw (Z69 (Z64 G p l) l) hl
 have h4 := Ygj (Z6b (Z69 (Z64 G p l) l) l) l
 unfold sdo
 refine ⟨?_, ?_⟩
 ·rw [h4.1, h3.1, h2.1]; exact h1.1
 ·rw [h4.2]
  have := h3.2
  have := h2.2
  rw [h1.2] at this
  omega
def Z6q (s : Switch) (G : Int → Header → List Out) : Nat → Nat → Z1p → List Place → Z1p × List Place
 | 0, _, p, q => (p, q)
 | d + 1, at_, p, q => match Z8j (Z0c s at_) p.h with
  | none => (p, q ++ [⟨(at_ : Int), -1⟩])
  | some i => match (Z0c s at_)[i.toNat]? with
   | none => (p, q)
   | some f => match Z2d at_ f.Insts with
    | some n => Z6q s G d n (sdo G p f.Insts) (q ++ [⟨(at_ : Int), i⟩])
    | none => (Zhl G (sdo G p f.Insts), q ++ [⟨(at_ : Int), i⟩])
theorem Y3q {s : Switch} {G : Int → Header → List Out} {d at_ : Nat} {p : Z1p} {q : List Place} (h : Z8j (Z0c s at_) p.h = none) : Z6q s G (d + 1) at_ p q = (p, q ++ [⟨(at_ : Int), -1⟩]) := by
 rw [Z6q, h]
theorem Zxo {s : Switch} {G : Int → Header → List Out} {d at_ k : Nat} {p : Z1p} {q : List Place} (h : Z8j (Z0c s at_) p.h = some (k : Int)) (hk : k < (Z0c s at_).length) : Z6q s G (d + 1) at_ p q = match Z2d at_ (Z0c s at_)[k].Insts with
  | some n => Z6q s G d n (sdo G p (Z0c s at_)[k].Insts) (q ++ [⟨(at_ : Int), (k : Int)⟩])
  | none => (Zhl G (sdo G p (Z0c s at_)[k].Insts), q ++ [⟨(at_ : Int), (k : Int)⟩]) := by
 rw [Z6q, h]
 simp only
 rw [Int.toNat_natCast, List.getElem?_eq_getElem hk]
def Zyu (at_ : Nat) (p : Z1p) (q : List Place) : Prop := p.out.length ≤ 78732 * at_ ∧ p.set.length ≤ 12 * at_ ∧ q.length ≤ at_
def sst (s : Switch) (e : Env) (p : Z1p) (q : List Place) : Z2k := ⟨s, e, p.h, p.set, p.out, q⟩
theorem Zxg (s : Switch) (e : Env) (hG : Z3d s.Groups) (p : Z1p) (q : List Place) (l : List Action) (hl : l.length ≤ 100) (hp : p.out.length ≤ 1000000) : Zbw (sst s e p q) l = some (sst s e (Zp2 (goG s.Groups e 8) p l) q) := by
 have hlim : lim = 4294967296 := rfl
 have hb := Zxy (Zqz s.Groups e hG) l p.h
 unfold Zbw
 show (Zhm s.Groups e l p.h).bind _ = _
 rw [Yga _ _ _ _ hG hl, Option.bind_some]
 show (Z1a p.out (doA (goG s.Groups e 8) l [] p.h).1).bind _ = _
 rw [Z23 (by omega)]; rfl
theorem Ylw (s : Switch) (e : Env) (hG : Z3d s.Groups) (p : Z1p) (q : List Place) (at_ : Nat) (l : List Inst) (hl : Z6f l) (hp : p.out.length ≤ 500000) (hs : p.set.length ≤ 100) :
  ∃ X : Int, Zfc (sst s e p q) (at_ : Int) l = some (match Z2d at_ l with | some n => ((n : Int), true, sst s e (sdo (goG s.Groups e 8) p l) q) | none => (X, false, sst s e (sdo (goG s.Groups e 8) p l) q)) := by
 have hlim : lim = 4294967296 := rfl
 have hbG := Zqz s.Groups e hG
 have j4 : ∃ X : Int, ∀ b : Z1p, Zce l (at_ : Int) b.out q s e b.h b.set = some (match Z2d at_ l with | some n => ((n : Int), true, sst s e b q) | none => (X, false, sst s e b q)) := by
  cases hi : ofI l 1 with
  | none =>
   refine ⟨0, fun b => ?_⟩
   unfold Zce
   rw [Z7z l 1 hl, Option.bind_some, Y15 hi, hi]; rfl
  | some i =>
   refine ⟨i.Table, fun b => ?_⟩
   unfold Zce
   rw [Z7z l 1 hl, Option.bind_some, hi]
   show some (i.Table, ((true && decide (i.Table > (at_ : Int))) && decide (i.Table < 4)), sst s e b q) = _
   rw [Bool.true_and]
   by_cases hc : i.Table > (at_ : Int) ∧ i.Table < 4
   ·have hd : (decide (i.Table > (at_ : Int)) && decide (i.Table < 4)) = true := by
     rw [Bool.and_eq_true, decide_eq_true_eq, decide_eq_true_eq]; exact hc
    have : ((i.Table.toNat : Nat) : Int) = i.Table := by omega
    rw [Y40 hi hc, hd]
    simp [this]
   ·have hd : (decide (i.Table > (at_ : Int)) && decide (i.Table < 4)) = false := by
     rw [Bool.and_eq_false_iff, decide_eq_false_iff_not, decide_eq_false_iff_not]; omega
    rw [Zwr hi hc, hd]
 obtain ⟨X, j4⟩ := j4
 refine ⟨X, ?_⟩
 have j3 : ∀ b : Z1p, Zh1 l (at_ : Int) b.out q s e b.h b.set = some (match Z2d at_ l with | some n => ((n : Int), true, sst s e (Z6j b l) q) | none => (X, false, sst s e (Z6j b l) q)) := fun b => by
  unfold Zh1
  rw [Z7z l 2 hl, Option.bind_some, ← j4 (Z6j b l)]
  unfold Z6j
  cases hi : ofI l 2 with
  | none => rfl
  | some i =>
   simp only [Z3c, cond_true]
   rw [show Z94 = some Z2a from rfl, Option.bind_some, Zdg, Option.bind_some, Zrt]; rfl
 have j2 : ∀ b : Z1p, b.set.length ≤ 200 → Zha l (at_ : Int) b.out q s e b.h b.set = some (match Z2d at_ l with | some n => ((n : Int), true, sst s e (Z6j (Z6b b l) l) q) | none => (X, false, sst s e (Z6j (Z6b b l) l) q)) := fun b h2 => by
  unfold Zha
  rw [Z7z l 3 hl, Option.bind_some, ← j3 (Z6b b l)]
  unfold Z6b
  cases hi : ofI l 3 with
  | none => rfl
  | some i =>
   have := hl i (Za7 hi)
   simp only [Z3c, cond_true]
   rw [Zmb _ _ (by omega)]; rfl
 have j1 : ∀ b : Z1p, b.set.length ≤ 200 → Zf2 l (at_ : Int) b.out q s e b.h b.set = some (match Z2d at_ l with | some n => ((n : Int), true, sst s e (Z6j (Z6b (Z69 b l) l) l) q) | none => (X, false, sst s e (Z6j (Z6b (Z69 b l) l) l) q)) := fun b h2 => by
  have b5 := Y44 b l
  unfold Zf2
  rw [Z7z l 5 hl, Option.bind_some, ← j2 (Z69 b l) (by have := b5.2; omega)]
  unfold Z69
  cases hi : ofI l 5 with
  | none => rfl
  | some i => rfl
 unfold Zfc
 rw [Z7z l 4 hl, Option.bind_some]
 have := j1 (Z64 (goG s.Groups e 8) p l) (by rw [(Y1v hbG p hl).2]; omega)
 unfold sdo
 rw [← this]
 unfold Z64
 cases hi : ofI l 4 with
 | none => rfl
 | some i =>
  have := hl i (Za7 hi)
  simp only [Z3c, cond_true]
  show (Zbw (sst s e p q) i.Acts).bind _ = _
  rw [Zxg s e hG p q i.Acts (by omega) (by omega)]; rfl
theorem Zzg (s : Switch) (e : Env) (hs : Z9c s) (hG : Z3d s.Groups) : ∀ (d at_ m : Nat) (p : Z1p) (q : List Place), 4 ≤ at_ + d → at_ < 4 → d ≤ m → Zyu at_ p q →
  Zcl m p.out q s e p.h p.set (at_ : Int) = some (sst s e (Z6q s (goG s.Groups e 8) d at_ p q).1 (Z6q s (goG s.Groups e 8) d at_ p q).2)
 | 0, at_, m, p, q, h0, h1, _, _ => by omega
 | d + 1, at_, 0, p, q, _, _, h2, _ => by omega
 | d + 1, at_, m + 1, p, q, h1, ha, h2, hb => by
  have hlim : lim = 4294967296 := rfl
  have hl := hs at_ ha
  have b0 := hb.1
  have b1 := hb.2.1
  have b2 := hb.2.2
  rw [Zcl, Z3h ha, Option.bind_some, Zkm, Y76 _ _ hl.1, Option.bind_some]
  cases hf : Z8j (Z0c s at_) p.h with
  | none =>
   rw [Y3q hf]
   simp only [Z3c, Bool.not_false, cond_true]
   rw [Z23 (by simp; omega)]; rfl
  | some i =>
   obtain ⟨k, hk, rfl, _⟩ := Zzm hf
   rw [Zxo hf hk]
   simp only [Z3c, Bool.not_true, cond_false]
   rw [Z23 (by simp; omega), Option.bind_some, Option.bind_some, Zkm, Z39 hk, Option.bind_some]
   have hli := hl.2 _ (List.getElem_mem hk)
   obtain ⟨X, hX⟩ := Ylw s e hG p (q ++ [⟨(at_ : Int), (k : Int)⟩]) at_ _ hli (by omega) (by omega)
   have bd := Ymw (Zqz s.Groups e hG) p hli
   show (Zfc (sst s e p (q ++ [⟨(at_ : Int), (k : Int)⟩])) (at_ : Int) (Z0c s at_)[k].Insts).bind _ = _
   rw [hX, Option.bind_some]
   generalize sdo (goG s.Groups e 8) p (Z0c s at_)[k].Insts = P at *
   generalize hQ : q ++ [(⟨(at_ : Int), (k : Int)⟩ : Place)] = Q at *
   have hQl : Q.length = q.length + 1 := by rw [← hQ]; simp
   cases hn : Z2d at_ (Z0c s at_)[k].Insts with
   | some n =>
    have hnb := Zom hn
    simp only [Bool.not_true, cond_false]
    exact Zzg s e hs hG d n m P Q (by omega) (by omega) (by omega) ⟨by omega, by omega, by omega⟩
   | none =>
    simp only [Bool.not_false, cond_true]
    have hls := Zq0 P.set
    have h5 := Zyx P.set (by omega)
    have h6 := Zxg s e hG P Q (Z5r P.set) (by omega) (by omega)
    show ((Z79 P.set).bind fun x35 => (Zbw (sst s e P Q) x35).bind fun b36 => some b36) = _
    rw [h5, Option.bind_some, h6, Option.bind_some]; rfl
def Z8e (h : Header) : Z1p := ⟨h, [], []⟩
def Zjr (s : Switch) (e : Env) (h : Header) : Z1p × List Place := Z6q s (goG s.Groups e 8) 4 0 (Z8e h) []
theorem Ylh (h : Header) : Zyu 0 (Z8e h) [] := ⟨by simp [Z8e], by simp [Z8e], by simp⟩
theorem Y8w (s : Switch) (e : Env) (h : Header) (hs : Z9c s) (hG : Z3d s.Groups) : Zlm s e h = some (Zjr s e h).1.out := by
 unfold Zlm Zo2
 have := Zzg s e hs hG 4 0 Z0k (Z8e h) [] (by omega) (by omega) (by unfold Z0k; omega) (Ylh h)
 show (Zcl Z0k (Z8e h).out [] s e (Z8e h).h (Z8e h).set ((0 : Nat) : Int)).bind _ = _
 rw [this]; rfl
end Go.Proofs.YtknpgojdkobgjaaGreat.W
namespace Go.Proofs.YtknpgojdkobgjaaGreat.W
open Go Go.Wb
theorem Zni {r c b : Cube} (h : Z5q r c = some b) (v : Header) : Zq b v = true ↔ Zq c (Z12 r v) = true := by
 unfold Z5q at h
 cases ha : (List.range 24).all (fun i => (Z3p (ve r i) (ve c i)).isSome)
 ·rw [ha] at h; cases h
 ·rw [ha, cond_true] at h
  rw [List.all_eq_true] at ha
  obtain rfl := Option.some.inj h
  rw [Z3s, Z3s]
  have key : ∀ f, f < 24 → (Z3n (ve (Vector.ofFn fun i : _root_.Fin 24 => Z19 ⟨(ve c i.1).Value, Z4b (ve c i.1).Mask (ve r i.1).Mask⟩) f) (ve v f) = true ↔ Z3n (ve c f) (ve (Z12 r v) f) = true) := fun f hf => by
   rw [Z75 (fun i => Z19 ⟨(ve c i).Value, Z4b (ve c i).Mask (ve r i).Mask⟩) f hf, Zt2, Z6n _ _ _ hf, Z3b, Z3b]
   have h1 := Y1y (ha f (by simpa using hf))
   constructor
   ·intro h2 k hk hm
    have h3 := h2 k hk
    have h4 := h1 k hk
    simp only [Z4v _ _ _ hk, Z5i, Z2w] at h3 ⊢
    revert h3 h4
    rw [hm]
    cases wt (ve r f).Mask k <;> cases wt (ve r f).Value k <;> cases wt (ve c f).Value k <;> cases wt (ve v f) k <;> simp
   ·intro h2 k hk hm
    have h3 := h2 k hk
    have h4 := h1 k hk
    simp only [Z4v _ _ _ hk, Z5i, Z2w] at h3 hm
    revert h3 h4 hm
    cases wt (ve c f).Mask k <;> cases wt (ve r f).Mask k <;> cases wt (ve r f).Value k <;> cases wt (ve c f).Value k <;> cases wt (ve v f) k <;> simp
  exact ⟨fun h2 f hf => (key f hf).1 (h2 f hf), fun h2 f hf => (key f hf).2 (h2 f hf)⟩
theorem Zux {r c : Cube} (h : Z5q r c = none) (v : Header) (hc : Zq c (Z12 r v) = true) : False := by
 unfold Z5q at h
 cases ha : (List.range 24).all (fun i => (Z3p (ve r i) (ve c i)).isSome)
 ·rw [List.all_eq_false] at ha
  obtain ⟨f, hf, h1⟩ := ha
  have hf : f < 24 := by simpa using hf
  have h2 := (Z3s _ _).1 hc f hf
  rw [Z6n _ _ _ hf, Z3b] at h2
  unfold Z3p at h1
  cases hz : Z3y (Z27 (Z6z (ve r f).Value (ve c f).Value) (Z27 (ve r f).Mask (ve c f).Mask))
  ·obtain ⟨k, hk, h3⟩ := Zvc hz
   have h4 := h2 k hk
   simp only [Z4v _ _ _ hk, Z5i, Z2w, Zdz] at h3 h4
   revert h3 h4
   cases wt (ve c f).Mask k <;> cases wt (ve r f).Mask k <;> cases wt (ve r f).Value k <;> cases wt (ve c f).Value k <;> cases wt (ve v f) k <;> simp
  ·rw [hz] at h1; simp at h1
 ·rw [ha] at h; cases h
theorem Zwc {w x : walk_way} {f : Flow} (h : Z6m w f = some x) (h0 : Header) : x = { w with cube := x.cube } ∧ (Zq x.cube h0 = true ↔ Zq (Z8l f) (Z12 w.got h0) = true ∧ Zq w.cube h0 = true) := by
 unfold Z6m at h
 obtain ⟨b, h1, h2⟩ := Option.bind_eq_some_iff.1 h
 obtain ⟨c, h3, h4⟩ := Option.map_eq_some_iff.1 h2
 subst h4
 exact ⟨rfl, by rw [Zze h3, Zni h1]⟩
theorem Ylu {w : walk_way} {f : Flow} (h : Z6m w f = none) (h0 : Header) (h1 : Zq (Z8l f) (Z12 w.got h0) = true) (h2 : Zq w.cube h0 = true) : False := by
 unfold Z6m at h
 cases hb : Z5q w.got (Z8l f) with
 | none => exact Zux hb h0 h1
 | some b =>
  rw [hb, Option.bind_some, Option.map_eq_none_iff] at h
  exact Zra h h0 ((Zni hb h0).2 h1) h2
theorem Zxc (h : Header) : Z12 Z2a h = h := Z74 fun f hf => by
 rw [Z6n _ _ _ hf]
 unfold Z2a
 rw [Ztw _ _ hf]
 exact Zat fun k hk => by
  simp only [Z5i, Z4v _ _ _ hk, Z2w]
  have : wt zTern.Mask k = false := Zr6 k
  rw [this]; simp
theorem Y6i (h : Header) : Zq Z2a h = true := (Z3s _ _).2 fun f hf => (Z3b _ _).2 fun k hk hm => by
 unfold Z2a at hm
 rw [Ztw _ _ hf] at hm
 have : wt zTern.Mask k = false := Zr6 k
 rw [this] at hm; cases hm
theorem Y1z (r : Cube) (v m : Wide) (f : Nat) (hf : f < 24) : ve (Z42 r 1 v m) f = if f = 1 then Z4q (Z19 (ve r 1)) ⟨v, m⟩ else Z19 (ve r f) := by
 unfold Z42
 rw [show (decide ((1 : Int) ≥ 0) && decide ((1 : Int) < 24)) = true from rfl, cond_true, Z75 (fun i => if (1 : Int).toNat = i then Z4q (ve (Z0g r) (1 : Int).toNat) ⟨v, m⟩ else ve (Z0g r) i) f hf]
 show (if 1 = f then Z4q (ve (Z0g r) 1) ⟨v, m⟩ else ve (Z0g r) f) = _
 by_cases h : f = 1
 ·subst h
  rw [if_pos rfl, if_pos rfl, Z9b _ _ hf]
 ·rw [if_neg (fun e => h e.symm), if_neg h, Z9b _ _ hf]
theorem Y7x (r : Cube) (v m : Wide) (h : Header) : Z12 (Z42 r 1 v m) h = Z12 (Z42 Z2a 1 v m) (Z12 r h) := Z74 fun f hf => by
 rw [Z6n _ _ _ hf, Z6n _ _ _ hf, Z6n _ _ _ hf, Y1z _ _ _ _ hf, Y1z _ _ _ _ hf]
 have z1 : ∀ k, wt (ve Z2a f).Mask k = false := fun k => by
  unfold Z2a
  rw [Ztw _ _ hf]; exact Zr6 k
 by_cases h1 : f = 1
 ·subst h1
  rw [if_pos rfl, if_pos rfl]
  unfold Z4q Z19
  exact Zat fun k hk => by
   simp only [Z2w, Z5i, Z4v _ _ _ hk, z1]
   cases wt (ve h 1) k <;> cases wt (ve r 1).Value k <;> cases wt (ve r 1).Mask k <;> cases wt v k <;> cases wt m k <;> simp
 ·rw [if_neg h1, if_neg h1]
  unfold Z19
  exact Zat fun k hk => by
   simp only [Z2w, Z5i, Z4v _ _ _ hk, z1]
   cases wt (ve h f) k <;> cases wt (ve r f).Value k <;> cases wt (ve r f).Mask k <;> simp
structure RW (G : Int → Header → List Out) (h0 : Header) (w : walk_way) (p : Z1p) : Prop where
 h : p.h = Z12 w.got h0
 set : p.set = w.set
 out : p.out = w.atoms.flatMap (Z5a G h0)
theorem RW.act {G : Int → Header → List Out} {h0 : Header} {w : walk_way} {p : Z1p} (h : RW G h0 w p) (l : List Action) : RW G h0 (Znz w l) (Zp2 G p l) := by
 have e : doA G l [] p.h = ((doT l (Z0g w.got)).1.flatMap (Z5a G h0), Z12 (doT l (Z0g w.got)).2 h0) := by
  rw [h.h, ← Zti, Zj1]
 refine ⟨?_, h.set, ?_⟩
 ·show (doA G l [] p.h).2 = _
  rw [e]; rfl
 ·show p.out ++ (doA G l [] p.h).1 = (w.atoms ++ (doT l (Z0g w.got)).1).flatMap (Z5a G h0)
  rw [e, h.out, List.flatMap_append]
theorem RW.do_ {G : Int → Header → List Out} {h0 : Header} {w : walk_way} {p : Z1p} (h : RW G h0 w p) (l : List Inst) : RW G h0 (wdo w l) (sdo G p l) := by
 have h1 : RW G h0 (Z4g w l) (Z64 G p l) := by
  unfold Z4g Z64
  cases ofI l 4 with
  | none => exact h
  | some i => exact h.act _
 have h2 : RW G h0 (Z4p (Z4g w l) l) (Z69 (Z64 G p l) l) := by
  unfold Z4p Z69
  cases ofI l 5 with
  | none => exact h1
  | some i => exact ⟨h1.h, rfl, h1.out⟩
 have h3 : RW G h0 (Z5b (Z4p (Z4g w l) l) l) (Z6b (Z69 (Z64 G p l) l) l) := by
  unfold Z5b Z6b
  cases ofI l 3 with
  | none => exact h2
  | some i => exact ⟨h2.h, by show i.Acts.foldl wr1 _ = i.Acts.foldl wr1 _; rw [h2.set], h2.out⟩
 unfold wdo sdo
 generalize Z5b (Z4p (Z4g w l) l) l = w' at *
 generalize Z6b (Z69 (Z64 G p l) l) l = p' at *
 unfold Z5h Z6j
 cases ofI l 2 with
 | none => exact h3
 | some i => exact ⟨by show Z12 _ p'.h = Z12 (Z42 w'.got 1 i.Value i.Mask) h0; rw [Y7x w'.got, h3.h], h3.set, h3.out⟩
theorem RW.end_ {G : Int → Header → List Out} {h0 : Header} {w : walk_way} {p : Z1p} (h : RW G h0 w p) : RW G h0 (Z5w w) (Zhl G p) := by
 unfold Z5w Zhl
 rw [h.set]; exact h.act _
theorem Zfy (w : walk_way) (l : List Inst) : (wdo w l).cube = w.cube := by
 unfold wdo Z5h Z5b Z4p Z4g
 cases ofI l 2 <;> cases ofI l 3 <;> cases ofI l 5 <;> cases ofI l 4 <;> rfl
theorem Zus (s : Switch) (h0 : Header) : ∀ (d at_ : Nat) (w : walk_way), Zq w.cube h0 = false → ∀ r ∈ Z2t s d at_ w, Zq r.Cube h0 = false
 | 0, at_, w, h, r, hr => by
  rw [Z2t, List.mem_singleton] at hr
  rw [hr]; exact h
 | d + 1, at_, w, h, r, hr => by
  rw [Z2t] at hr
  rcases List.mem_append.1 hr with hr | hr
  ·obtain ⟨i, hi, hr⟩ := List.mem_flatMap.1 hr
   unfold Z5m at hr
   split at hr
   ·cases hr
   ·rename_i f hf
    split at hr
    ·cases hr
    ·rename_i x hx
     have hc : Zq x.cube h0 = false := by
      have := (Zwc hx h0).2
      cases hq : Zq x.cube h0
      ·rfl
      ·have := (this.1 hq).2
       rw [h] at this; cases this
     split at hr
     ·exact Zus s h0 d _ _ (by rw [Zfy]; exact hc) r hr
     ·rw [List.mem_singleton] at hr
      rw [hr]
      show Zq (wdo x f.Insts).cube h0 = false
      rw [Zfy]; exact hc
  ·rw [List.mem_singleton] at hr
   rw [hr]; exact h
theorem Zvj {h : Header} {l : List Rule} (hl : ∀ r ∈ l, Zq r.Cube h = false) : l.find? (Z32 h) = none := List.find?_eq_none.2 fun r hr => by
 unfold Z32; rw [hl r hr]; simp
theorem Zzq (s : Switch) (G : Int → Header → List Out) (h0 : Header) : ∀ (d at_ : Nat) (w : walk_way) (p : Z1p) (q : List Place), RW G h0 w p → Zq w.cube h0 = true →
  ∃ r, (Z2t s d at_ w).find? (Z32 h0) = some r ∧ r.Atoms.flatMap (Z5a G h0) = (Z6q s G d at_ p q).1.out
 | 0, at_, w, p, q, h, hc => by
  refine ⟨Z58 w, ?_, h.out.symm⟩
  rw [Z2t, List.find?_cons_of_pos (by exact hc)]
 | d + 1, at_, w, p, q, h, hc => by
  have ih := Zzq s G h0 d
  have hw : (Z32 h0) (Z58 w) = true := hc
  -- one flow
  have one : ∀ k : Nat, ∀ hk : k < (Z0c s at_).length, (Z9q (Z0c s at_) p.h (k : Int) = false → (Z5m (Z2t s d) (Z0c s at_) at_ w (k : Int)).find? (Z32 h0) = none) ∧
    (Z9q (Z0c s at_) p.h (k : Int) = true → ∃ r, (Z5m (Z2t s d) (Z0c s at_) at_ w (k : Int)).find? (Z32 h0) = some r ∧ r.Atoms.flatMap (Z5a G h0) = (match Z2d at_ (Z0c s at_)[k].Insts with
     | some n => Z6q s G d n (sdo G p (Z0c s at_)[k].Insts) (q ++ [(⟨(at_ : Int), (k : Int)⟩ : Place)])
     | none => (Zhl G (sdo G p (Z0c s at_)[k].Insts), q ++ [(⟨(at_ : Int), (k : Int)⟩ : Place)])).1.out) := fun k hk => by
   rw [Zm8 hk]
   have hrule : Z5m (Z2t s d) (Z0c s at_) at_ w (k : Int) = match Z6m w (Z0c s at_)[k] with
     | none => []
     | some x => match Z2d at_ (Z0c s at_)[k].Insts with
      | some n => Z2t s d n (wdo x (Z0c s at_)[k].Insts)
      | none => [Z58 (Z5w (wdo x (Z0c s at_)[k].Insts))] := by
    unfold Z5m
    rw [Int.toNat_natCast, List.getElem?_eq_getElem hk] <;> rfl
   rw [hrule]
   generalize (Z0c s at_)[k] = f
   cases hm : Z6m w f with
   | none =>
    refine ⟨fun _ => rfl, fun h1 => ?_⟩
    rw [h.h] at h1
    exact (Ylu hm h0 h1 hc).elim
   | some x =>
    have hx := Zwc hm h0
    have hrx : RW G h0 x p := by rw [hx.1]; exact ⟨h.h, h.set, h.out⟩
    refine ⟨fun h1 => ?_, fun h1 => ?_⟩
    ·have hxc : Zq x.cube h0 = false := by
      cases hq : Zq x.cube h0
      ·rfl
      ·have := (hx.2.1 hq).1
       rw [← h.h, h1] at this; cases this
     simp only
     cases Z2d at_ f.Insts with
     | some n => exact Zvj (Zus s h0 d n _ (by rw [Zfy]; exact hxc))
     | none =>
      refine Zvj fun r hr => ?_
      rw [List.mem_singleton.1 hr]
      show Zq (wdo x f.Insts).cube h0 = false
      rw [Zfy]; exact hxc
    ·have hxc : Zq x.cube h0 = true := hx.2.2 ⟨by rw [← h.h]; exact h1, hc⟩
     simp only
     cases Z2d at_ f.Insts with
     | some n => exact ih n _ _ _ (hrx.do_ f.Insts) (by rw [Zfy]; exact hxc)
     | none =>
      refine ⟨_, List.find?_cons_of_pos (show Z32 h0 (Z58 (Z5w (wdo x f.Insts))) = true from ?_), (hrx.do_ f.Insts).end_.out.symm⟩
      show Zq (wdo x f.Insts).cube h0 = true
      rw [Zfy]; exact hxc
  -- all
  have all : ∀ l : List Int, inT (Z0c s at_) l → match l.find? (Z9q (Z0c s at_) p.h) with
    | none => (l.flatMap (Z5m (Z2t s d) (Z0c s at_) at_ w)).find? (Z32 h0) = none
    | some i => ∃ r, (l.flatMap (Z5m (Z2t s d) (Z0c s at_) at_ w)).find? (Z32 h0) = some r ∧ ∀ k : Nat, ∀ hk : k < (Z0c s at_).length, i = (k : Int) → r.Atoms.flatMap (Z5a G h0) = (match Z2d at_ (Z0c s at_)[k].Insts with
     | some n => Z6q s G d n (sdo G p (Z0c s at_)[k].Insts) (q ++ [(⟨(at_ : Int), (k : Int)⟩ : Place)])
     | none => (Zhl G (sdo G p (Z0c s at_)[k].Insts), q ++ [(⟨(at_ : Int), (k : Int)⟩ : Place)])).1.out := fun l => by
   induction l with
   | nil => intro _; rfl
   | cons j l ihl =>
    intro hl
    obtain ⟨k, hk, rfl⟩ := hl j (by simp)
    have ihl := ihl fun j hj => hl j (by simp [hj])
    rw [List.flatMap_cons, List.find?_append]
    cases hq : Z9q (Z0c s at_) p.h (k : Int)
    ·rw [List.find?_cons_of_neg (by simp [hq]), (one k hk).1 hq, Option.none_or]
     exact ihl
    ·rw [List.find?_cons_of_pos hq]
     obtain ⟨r, hr, he⟩ := (one k hk).2 hq
     refine ⟨r, by rw [hr]; rfl, fun k' hk' e => ?_⟩
     have : k = k' := by omega
     subst this
     exact he
  have hall := all (Z7u (Z0c s at_)) fun j hj => Zmo.1 hj
  rw [Z2t, List.find?_append]
  cases hf : Z8j (Z0c s at_) p.h with
  | none =>
   rw [Y3q hf]
   unfold Z8j at hf
   rw [hf] at hall
   simp only at hall
   refine ⟨Z58 w, ?_, h.out.symm⟩
   rw [hall, Option.none_or, List.find?_cons_of_pos hw]
  | some i =>
   obtain ⟨k, hk, rfl, _⟩ := Zzm hf
   rw [Zxo hf hk]
   unfold Z8j at hf
   rw [hf] at hall
   simp only at hall
   obtain ⟨r, hr, he⟩ := hall
   exact ⟨r, by rw [hr]; rfl, he k hk rfl⟩
theorem RW0 (G : Int → Header → List Out) (h : Header) : RW G h Z6l (Z8e h) := ⟨(Zxc h).symm, rfl, rfl⟩
theorem Ygl (s : Switch) (e : Env) (h : Header) : ∃ r, (Z4f s).find? (Z32 h) = some r ∧ r.Atoms.flatMap (Z5a (goG s.Groups e 8) h) = (Zjr s e h).1.out :=
 Zzq s (goG s.Groups e 8) h 4 0 Z6l (Z8e h) [] (RW0 _ h) (Y6i h)
end Go.Proofs.YtknpgojdkobgjaaGreat.W
namespace Go.Proofs.YtknpgojdkobgjaaGreat.W
open Go Go.Wb
theorem Yis {a b : Cube} (h : Z66 a b = true) {v : Header} (hv : Zq a v = true) : Zq b v = true := by
 unfold Z66 at h
 rw [List.all_eq_true] at h
 refine (Z3s _ _).2 fun f hf => ?_
 have h1 := h f (by rw [← List.range_eq_range']; simpa using hf)
 have h2 := (Z3s _ _).1 hv f hf
 unfold Zet at h1
 rw [Bool.and_eq_true] at h1
 have h3 := (Zb3 _).1 h1.1
 have h4 := (Z3b _ _).1 h1.2
 have h5 := (Z3b _ _).1 h2
 refine (Z3b _ _).2 fun k hk hm => ?_
 have h6 := h3 k hk
 rw [Z4v _ _ _ hk, hm, Bool.true_and, Bool.not_eq_false'] at h6
 rw [h4 k hk hm]
 exact h5 k hk h6
theorem Ya7 {c : Cube} {f b : Nat} (hf : f < 24) (hb : b < 128) {h : Header} (hh : Zq c h = true) : Zq (Z53 c f (Z3g (ve c f) b (wt (ve h f) b))) h = true := by
 refine (Zzc hf).2 ⟨fun g hg _ => (Z3s _ _).1 hh g hg, (Zya _ _ hb _ _).2 ⟨fun k hk _ hm => (Z3b _ _).1 ((Z3s _ _).1 hh f hf) k hk hm, rfl⟩⟩
theorem Y4a (xv : Wide) (f : Nat) (hf : f < 24) (h : Header) : ∀ (l : List Int) (left : Cube), Zi4 l → Zq left h = true →
  (∃ p ∈ (Z38 xv f l left).1, Zq p h = true) ∨ (Zq (Z38 xv f l left).2 h = true ∧ ∀ i ∈ l, wt (ve h f) i.toNat = wt xv i.toNat)
 | [], left, _, hh => .inr ⟨hh, by simp⟩
 | i :: l, left, hl, hh => by
  obtain ⟨b, rfl, hb⟩ := hl i (by simp)
  rw [Z38, Int.toNat_natCast]
  have h1 := Ya7 (f := f) hf hb hh
  by_cases hq : wt (ve h f) b = wt xv b
  ·rw [hq] at h1
   rcases Y4a xv f hf h l _ (fun j hj => hl j (by simp [hj])) h1 with ⟨p, hp, h2⟩ | ⟨h2, h3⟩
   ·exact .inl ⟨p, by simp [hp], h2⟩
   ·refine .inr ⟨h2, fun j hj => ?_⟩
    rcases List.mem_cons.1 hj with rfl | hj
    ·rw [Int.toNat_natCast]; exact hq
    ·exact h3 j hj
  ·have : wt (ve h f) b = !wt xv b := by
    cases hx : wt xv b <;> cases hy : wt (ve h f) b <;> simp_all
   rw [this] at h1
   exact .inl ⟨_, List.mem_cons_self .., h1⟩
theorem Zzv (x : Cube) (h : Header) : ∀ (m f : Nat) (left : Cube), f + m = 24 → Zq left h = true → (∀ g k, f ≤ g → g < 24 → k < 128 → wt (ve x g).Mask k = true → wt (ve left g).Mask k = true → wt (ve h g) k = wt (ve x g).Value k) →
  (∃ p ∈ Z78 x m f left, Zq p h = true) ∨ ∀ g, f ≤ g → g < 24 → Z3n (ve x g) (ve h g) = true
 | 0, f, left, hm, _, _ => .inr fun g h1 h2 => by omega
 | m + 1, f, left, hm, hh, hs => by
  have hf : f < 24 := by omega
  rw [Z78]
  rcases Y4a (ve x f).Value f hf h (Z8n (ve x f) (ve left f)) left (Zn7 _ _) hh with ⟨p, hp, h1⟩ | ⟨h1, h2⟩
  ·exact .inl ⟨p, by simp [hp], h1⟩
  ·have hx : Z3n (ve x f) (ve h f) = true := (Z3b _ _).2 fun k hk hm => by
    by_cases hl : wt (ve left f).Mask k = true
    ·exact (hs f k (Nat.le_refl _) hf hk hm hl).symm
    ·have := h2 (k : Int) ((Zaa _ _ _).2 ⟨k, rfl, hk, by rw [Z4v _ _ _ hk, hm]; simpa using hl⟩)
     rw [Int.toNat_natCast] at this
     exact this.symm
   rcases Zzv x h m (f + 1) _ (by omega) h1 (fun g k h3 h4 h5 h6 h7 => hs g k (by omega) h4 h5 h6 (by rw [Y20 _ _ _ _ _ h4 (by omega)] at h7; exact h7)) with ⟨p, hp, h3⟩ | h3
   ·exact .inl ⟨p, by simp [hp], h3⟩
   ·refine .inr fun g h4 h5 => ?_
    by_cases e : g = f
    ·subst e; exact hx
    ·exact h3 g (by omega) h5
theorem Y3g {a x : Cube} (hm : Z3u a x = true) {h : Header} (h1 : Zq a h = true) (h2 : Zq x h = false) : ∃ p ∈ Z3x a x, Zq p h = true := by
 unfold Z3x
 rw [hm, cond_true]
 have hc : Zq (Z0g a) h = true := by rw [Zjd]; exact h1
 rcases Zzv x h 24 0 (Z0g a) rfl hc (fun g k _ hg hk hmx hml => by
  rw [Z9b _ _ hg] at hml
  unfold Z3u at hm
  have h3 := (Z3b _ _).1 ((Z3s _ _).1 h1 g hg) k hk hml
  -- where they meet both say the same
  cases hcm : Z4z a x with
  | none => rw [hcm] at hm; cases hm
  | some z =>
   have h4 := Zh7 hcm g hg
   have h5 := Y1y (a := ve a g) (b := ve x g) (by rw [h4]; rfl) k hk
   have hml' : wt (ve a g).Mask k = true := hml
   rw [hml', hmx] at h5
   rw [← h3]
   revert h5
   cases wt (ve a g).Value k <;> cases wt (ve x g).Value k <;> simp) with h3 | h3
 ·exact h3
 ·rw [(Z3s _ _).2 fun f hf => h3 f (by omega) hf] at h2
  cases h2
theorem Y1t {R : Cube → Int → Header × Bool × Int} : ∀ (ps : List Cube) (n : Int), (Z41 R ps n).2.1 = false → 0 ≤ (Z41 R ps n).2.2 → ∀ p ∈ ps, ∃ m, (R p m).2.1 = false ∧ 0 ≤ (R p m).2.2
 | [], n, _, _, p, hp => by cases hp
 | q :: ps, n, h, h', p, hp => by
  rw [Z41] at h h'
  cases hc : (R q n).2.1 || decide ((R q n).2.2 < 0)
  ·rw [hc, cond_false] at h h'
   rw [Bool.or_eq_false_iff, decide_eq_false_iff_not] at hc
   rcases List.mem_cons.1 hp with rfl | hp
   ·exact ⟨n, hc.1, by omega⟩
   ·exact Y1t ps _ h h' p hp
  ·rw [hc, cond_true] at h h'
   rw [h, Bool.false_or, decide_eq_true_eq] at hc
   omega
theorem Y31 (free : Bool) : ∀ (d : Nat) (c : Cube) (l : List Cube) (n : Int), (Z4o free d c l n).2.1 = false → 0 ≤ (Z4o free d c l n).2.2 → ∀ h, Zq c h = true → ∃ x ∈ l, Zq x h = true
 | 0, c, l, n, _, h', h, _ => by simp [Z4o] at h'
 | d + 1, c, l, n, h0, h', h, hc => by
  rw [Z4o] at h0 h'
  cases h1 : !free && decide (n < 1)
  ·rw [h1, cond_false] at h0 h'
   cases h2 : l.any (Z66 c)
   ·rw [h2, cond_false] at h0 h'
    cases h3 : Z5l c l 0 with
    | none => rw [h3] at h0; cases h0
    | some i =>
     obtain ⟨hi, hm, _⟩ := Y6d h3
     rw [h3] at h0 h'
     simp only [List.getElem?_eq_getElem hi] at h0 h'
     by_cases hx : Zq l[i] h = true
     ·exact ⟨_, List.getElem_mem hi, hx⟩
     ·obtain ⟨p, hp, hph⟩ := Y3g hm hc (by simpa using hx)
      obtain ⟨m, h4, h5⟩ := Y1t _ _ h0 h' p hp
      obtain ⟨y, hy, h6⟩ := Y31 free d p (l.drop (i + 1)) m h4 h5 h hph
      exact ⟨y, List.mem_of_mem_drop hy, h6⟩
   ·obtain ⟨x, hx, h3⟩ := List.any_eq_true.1 h2
    exact ⟨x, hx, Yis h3 hc⟩
  ·rw [h1] at h'; simp at h'
theorem Ygh {c : Cube} {l : List Cube} {most : Int} (h : (Z57 c l most).2.1 = false) (h' : (Z57 c l most).2.2 = 0) (v : Header) (hv : Zq c v = true) : ∃ x ∈ l, Zq x v = true := by
 unfold Z57 at h h'
 by_cases hn : (Zei c l most).2.2 < 0
 ·rw [decide_eq_true hn] at h'; cases h'
 ·rw [decide_eq_false hn, cond_false] at h
  exact Y31 _ _ c l _ h (Int.not_lt.1 hn) v hv
theorem Zu4 (most : Int) (h : Header) : ∀ (l kept : List Rule), (Z49 most l kept).2 = 0 → (Z49 most l kept).1.find? (Z32 h) = (kept ++ l).find? (Z32 h)
 | [], kept, _ => by simp [Z49]
 | r :: l, kept, h0 => by
  rw [Z49] at h0 ⊢
  rcases Zyb r.Cube (kept.map (·.Cube)) most with he | he
  ·rw [he, decide_eq_false (by omega), cond_false] at h0 ⊢
   cases hf : (Z57 r.Cube (kept.map (·.Cube)) most).2.1
   ·rw [hf, cond_false] at h0
    rw [cond_false, Zu4 most h l kept h0, List.find?_append, List.find?_append]
    cases hr : Z32 h r
    ·rw [List.find?_cons_of_neg (by simp [hr])]
    ·obtain ⟨x, hx, hxh⟩ := Ygh hf he h hr
     obtain ⟨q, hq, rfl⟩ := List.mem_map.1 hx
     cases hk : kept.find? (Z32 h) with
     | none =>
      have := List.find?_eq_none.1 hk q hq
      exact absurd hxh this
     | some q => rfl
   ·rw [hf, cond_true] at h0
    rw [cond_true, Zu4 most h l _ h0]; simp
  ·rw [he] at h0; cases h0
theorem Ydk (s : Switch) (h : SW s) (most : Int) (h0 : (Z1i s most).2 = 0) (e : Env) (v : Header) : ∃ n : Nat, ∃ hn : n < (Z1i s most).1.Rules.length, Zjg (Z1i s most).1.Rules v = ((n : Int), true) ∧ ((Z1i s most).1.Rules[n]).Atoms.flatMap (Z5a (goG s.Groups e 8) v) = (Zjr s e v).1.out ∧ (Z1i s most).1.Groups = s.Groups := by
 have ht : Z1i s most = (⟨(Z6i s most).1, s.Groups⟩, 0) ∧ (Z6i s most).2 = 0 := by
  unfold Z1i at h0 ⊢
  rcases Zmr most (Z4f s) [] with he | he
  ·rw [show (Z6i s most).2 = 0 from he]; exact ⟨rfl, rfl⟩
  ·rw [show Z6i s most = ([], 5) from he] at h0; cases h0
 obtain ⟨r, hr, ho⟩ := Ygl s e v
 have hfd := Zu4 most v (Z4f s) [] ht.2
 rw [List.nil_append, hr] at hfd
 rw [ht.1]
 rcases Ym6 (Z6i s most).1 v with ⟨h1, h2⟩ | ⟨n, hn, h1, h2⟩
 ·rw [show (Z49 most (Z4f s) []).1 = (Z6i s most).1 from rfl, h2] at hfd; cases hfd
 ·rw [show (Z49 most (Z4f s) []).1 = (Z6i s most).1 from rfl, h2] at hfd
  refine ⟨n, hn, h1, ?_, rfl⟩
  rw [Option.some.inj hfd]; exact ho
end Go.Proofs.YtknpgojdkobgjaaGreat.W
namespace Go.Proofs.YtknpgojdkobgjaaGreat.W
open Go Go.Wb
def Z2f (h : Header) (l : List Cube) : Nat := (l.filter fun p => Zq p h).length
theorem Zig (h : Header) (p : Cube) (l : List Cube) : Z2f h (p :: l) = (Zq p h).toNat + Z2f h l := by
 unfold Z2f
 cases hp : Zq p h
 ·rw [List.filter_cons_of_neg (by simp [hp])]; simp
 ·rw [List.filter_cons_of_pos (by simp [hp])]; simp; omega
theorem Zxl (h : Header) (a b : List Cube) : Z2f h (a ++ b) = Z2f h a + Z2f h b := by unfold Z2f; rw [List.filter_append, List.length_append]
theorem Y41 (xv : Wide) (f : Nat) (hf : f < 24) (h : Header) : ∀ (l : List Int) (left : Cube), Zi4 l → l.Nodup → (∀ i ∈ l, wt (ve left f).Mask i.toNat = false) →
  Z2f h (Z38 xv f l left).1 + (Zq (Z38 xv f l left).2 h).toNat ≤ (Zq left h).toNat
 | [], left, _, _, _ => by simp [Z38, Z2f]
 | i :: l, left, hl, hn, hm => by
  obtain ⟨b, rfl, hb⟩ := hl i (by simp)
  rw [List.nodup_cons] at hn
  have hmb := hm _ (List.mem_cons_self ..)
  rw [Int.toNat_natCast] at hmb
  have ih := Y41 xv f hf h l (Z53 left f (Z3g (ve left f) b (wt xv b))) (fun j hj => hl j (by simp [hj])) hn.2 (fun j hj => by
   obtain ⟨k, rfl, hk⟩ := hl j (by simp [hj])
   have h1 := hm _ (List.mem_cons_of_mem _ hj)
   rw [Int.toNat_natCast] at h1 ⊢
   rw [Zg1 _ _ _ _ hf, if_pos rfl, Y2l _ _ hb _ _ hk, h1, Bool.false_or, decide_eq_false_iff_not]
   intro e
   subst e
   exact hn.1 hj)
  rw [Z38, Int.toNat_natCast]
  show Z2f h (_ :: _) + (Zq (Z38 xv f l (Z53 left f (Z3g (ve left f) b (wt xv b)))).2 h).toNat ≤ _
  rw [Zig]
  have h1 := fun hh => Zlj (on := !wt xv b) hf hb (h := h) hmb hh
  have h2 := fun hh => Zlj (on := wt xv b) hf hb (h := h) hmb hh
  refine Nat.le_trans (m := (Zq (Z53 left f (Z3g (ve left f) b (!wt xv b))) h).toNat + (Zq (Z53 left f (Z3g (ve left f) b (wt xv b))) h).toNat) (by omega) ?_
  cases e1 : Zq (Z53 left f (Z3g (ve left f) b (!wt xv b))) h <;> cases e2 : Zq (Z53 left f (Z3g (ve left f) b (wt xv b))) h
  ·simp
  ·rw [(h2 e2).1]; simp
  ·rw [(h1 e1).1]; simp
  ·have := (h1 e1).2
   rw [(h2 e2).2] at this
   cases hx : wt xv b <;> rw [hx] at this <;> cases this
theorem Y1h (x : Cube) (h : Header) : ∀ (m f : Nat) (left : Cube), f + m = 24 → Z2f h (Z78 x m f left) ≤ (Zq left h).toNat
 | 0, f, left, _ => by simp [Z78, Z2f]
 | m + 1, f, left, hm => by
  have hf : f < 24 := by omega
  have hs := Y41 (ve x f).Value f hf h (Z8n (ve x f) (ve left f)) left (Zn7 _ _) (Zmt _ _) (fun i hi => by
   obtain ⟨k, rfl, hk, hw⟩ := (Zaa _ _ _).1 hi
   rw [Z4v _ _ _ hk] at hw
   rw [Int.toNat_natCast]
   cases hq : wt (ve left f).Mask k
   ·rfl
   ·rw [hq] at hw; simp at hw)
  have ih := Y1h x h m (f + 1) (Z38 (ve x f).Value f (Z8n (ve x f) (ve left f)) left).2 (by omega)
  rw [Z78, Zxl]
  omega
theorem Y7l (a x : Cube) (h : Header) : Z2f h (Z3x a x) = (Zq a h && !Zq x h).toNat := by
 cases hm : Z3u a x
 ·unfold Z3x
  rw [hm, cond_false, Zig, Zjd]
  cases ha : Zq a h
  ·simp [Z2f]
  ·rw [Y8x hm ha]; simp [Z2f]
 ·have h1 : Z2f h (Z3x a x) ≤ 1 := by
   unfold Z3x
   rw [hm, cond_true]
   have := Y1h x h 24 0 (Z0g a) rfl
   have h2 : (Zq (Z0g a) h).toNat ≤ 1 := Bool.toNat_le _
   omega
  cases hc : Zq a h && !Zq x h
  ·unfold Z2f
   rw [List.filter_eq_nil_iff.2 fun p hp hh => by
    obtain ⟨h2, h3⟩ := Yfp hm hp hh
    rw [h2, h3] at hc; cases hc]
   rfl
  ·rw [Bool.and_eq_true, Bool.not_eq_true'] at hc
   obtain ⟨p, hp, hh⟩ := Y3g hm hc.1 hc.2
   have : 0 < Z2f h (Z3x a x) := List.length_pos_of_mem (List.mem_filter.2 ⟨hp, hh⟩)
   show _ = 1
   omega
def Z9z (l : List Cube) (x : Cube) : List Cube := l.flatMap fun p => Z3x p x
def Zog (c : Cube) (es : List Cube) : List Cube := es.foldl Z9z [Z0g c]
theorem Zwx (h : Header) (x : Cube) : ∀ l : List Cube, Z2f h (Z9z l x) = bif Zq x h then 0 else Z2f h l
 | [] => by cases Zq x h <;> rfl
 | p :: l => by
  show Z2f h (Z3x p x ++ Z9z l x) = _
  rw [Zxl, Y7l, Zwx h x l, Zig]
  cases Zq x h <;> simp
theorem Y1j (h : Header) : ∀ (es l : List Cube), Z2f h (es.foldl Z9z l) = bif es.all (fun x => !Zq x h) then Z2f h l else 0
 | [], l => rfl
 | x :: es, l => by
  rw [List.foldl_cons, Y1j h es, Zwx, List.all_cons]
  cases Zq x h <;> cases es.all (fun x => !Zq x h) <;> rfl
theorem Ybc (h : Header) (c : Cube) (es : List Cube) : Z2f h (Zog c es) = (Zq c h && es.all (fun x => !Zq x h)).toNat := by
 unfold Zog
 rw [Y1j, Zig, Zjd]
 cases Zq c h <;> cases es.all (fun x => !Zq x h) <;> rfl
def slF (rs : List Rule) (i : Nat) : List Cube := match rs[i]? with
 | none => []
 | some r => Zog r.Cube ((rs.take i).map (·.Cube))
def Zki (rs : List Rule) : List (List Cube) := (List.range rs.length).map (slF rs)
theorem Ym8 (h : Header) (rs : List Rule) (n : Nat) (hn : Z08 (Z32 h) rs = (n : Int)) (i : Nat) (hi : i < rs.length) : Z2f h (slF rs i) = if i = n then 1 else 0 := by
 obtain ⟨h1, h2, h3⟩ := Zqp (Z32 h) rs n hn
 unfold slF
 rw [List.getElem?_eq_getElem hi]
 show Z2f h (Zog _ _) = _
 rw [Ybc, List.all_map]
 by_cases e : i = n
 ·subst e
  rw [if_pos rfl, show Zq rs[i].Cube h = true from h2]
  have : (rs.take i).all ((fun x => !Zq x h) ∘ fun x => x.Cube) = true := List.all_eq_true.2 fun r hr => by
   obtain ⟨j, hj, rfl⟩ := List.mem_iff_getElem.1 hr
   rw [List.length_take] at hj
   rw [List.getElem_take]
   have : Zq rs[j].Cube h = false := h3 j (by omega) (by omega)
   simp [this]
  rw [this]; rfl
 ·rw [if_neg e]
  rcases Nat.lt_or_gt_of_ne e with hl | hg
  ·rw [show Zq rs[i].Cube h = false from h3 i hi hl]; rfl
  ·have : (rs.take i).all ((fun x => !Zq x h) ∘ fun x => x.Cube) = false := List.all_eq_false.2 ⟨rs[n], List.mem_iff_getElem.2 ⟨n, by rw [List.length_take]; omega, List.getElem_take⟩, by
    have : Zq rs[n].Cube h = true := h2
    simp [this]⟩
   rw [this, Bool.and_false]; rfl
theorem Y14 {α : Type} (h : Header) (T : List α) : ∀ l : List Cube, (l.flatMap fun x => bif Zq x h then T else []) = (List.replicate (Z2f h l) T).flatten
 | [] => rfl
 | x :: l => by
  rw [List.flatMap_cons, Y14 h T l, Zig]
  cases Zq x h
  ·simp
  ·rw [cond_true, Bool.toNat_true, Nat.add_comm, List.replicate_succ, List.flatten_cons]
theorem Zuo {α : Type} (T : List α) (n : Nat) : ∀ (m k : Nat), ((List.range' k m).flatMap fun i => if i = n then T else []) = if k ≤ n ∧ n < k + m then T else []
 | 0, k => by rw [if_neg (by omega)]; rfl
 | m + 1, k => by
  rw [List.range'_succ, List.flatMap_cons, Zuo T n m (k + 1)]
  by_cases e : k = n
  ·subst e
   rw [if_pos rfl, if_neg (by omega), if_pos (by omega)]; simp
  ·rw [if_neg e]
   by_cases h : k + 1 ≤ n ∧ n < k + 1 + m
   ·rw [if_pos h, if_pos (by omega)]; rfl
   ·rw [if_neg h, if_neg (by omega)]; rfl
theorem Yig {α : Type} (h : Header) (rs : List Rule) (n : Nat) (hn : Z08 (Z32 h) rs = (n : Int)) (T : Nat → List α) :
  ((List.range rs.length).flatMap fun i => (slF rs i).flatMap fun x => bif Zq x h then T i else []) = T n := by
 obtain ⟨h1, h2, h3⟩ := Zqp (Z32 h) rs n hn
 have e : (List.range rs.length).flatMap (fun i => (slF rs i).flatMap fun x => bif Zq x h then T i else []) = (List.range rs.length).flatMap fun i => if i = n then T n else [] := by
  rw [List.flatMap_def, List.flatMap_def]
  congr 1
  refine List.map_congr_left fun i hi => ?_
  rw [Y14, Ym8 h rs n hn i (by simpa using hi)]
  by_cases e : i = n
  ·subst e; simp
  ·rw [if_neg e, if_neg e]; rfl
 rw [e, List.range_eq_range', Zuo, if_pos (by omega)]
theorem Y24 (most : Int) (h1 : most ≤ 300) : ∀ (ps acc : List Cube), (acc.length : Int) ≤ most →
  (∃ z, yf (fun (s : List Cube × Int) x => Z80 s.1 s.2 x) ps (acc, most) = some (.out .ret z)) ∨ (yf (fun (s : List Cube × Int) x => Z80 s.1 s.2 x) ps (acc, most) = some (.go (acc ++ ps, most)) ∧ ((acc ++ ps).length : Int) ≤ most)
 | [], acc, ha => .inr ⟨by simp [yf], by simpa using ha⟩
 | p :: ps, acc, ha => by
  have hlim : lim = 4294967296 := rfl
  have e : Z80 acc most p = bif decide (((acc ++ [p]).length : Int) > most) then some (.out .ret (acc ++ [p], most)) else some (.go (acc ++ [p], most)) := by
   unfold Z80
   rw [Z23 (by simp; omega)]; rfl
  rw [yf]
  show (∃ z, (Z80 acc most p).bind _ = _) ∨ ((Z80 acc most p).bind _ = _ ∧ _)
  rw [e]
  by_cases hf : ((acc ++ [p]).length : Int) > most
  ·rw [decide_eq_true hf]; exact .inl ⟨_, rfl⟩
  ·rw [decide_eq_false hf, cond_false]
   have := Y24 most h1 ps (acc ++ [p]) (by omega)
   rw [List.append_assoc] at this
   exact this
theorem Zzz (x : Cube) (most : Int) (h1 : most ≤ 300) : ∀ (l : List Cube) (i : Nat) (acc : List Cube), (acc.length : Int) ≤ most →
  ∃ r, Zbj x l i acc most = some r ∧ (r.1 = true → r.2 = ⟨acc ++ Z9z l x, most⟩ ∧ ((acc ++ Z9z l x).length : Int) ≤ most)
 | [], i, acc, ha => ⟨_, rfl, fun _ => by simp [Z9z]; exact ha⟩
 | p :: l, i, acc, ha => by
  have e : Zbj x (p :: l) i acc most = (yf (fun (s : List Cube × Int) x => Z80 s.1 s.2 x) (Z3x p x) (acc, most)).bind fun z24 => Zn9 z24 (fun s32 => (Zbj x l) (i + 1) s32.1 s32.2) (fun c s32 => bif Zab c then some (false, (⟨s32.1, s32.2⟩ : Z4w)) else none) := by
   rw [← Zx8]
   rfl
  rw [e]
  rcases Y24 most h1 (Z3x p x) acc ha with ⟨z, hz⟩ | ⟨hz, hl⟩
  ·rw [hz]; exact ⟨_, rfl, fun h => by cases h⟩
  ·rw [hz]
   obtain ⟨r, h2, h3⟩ := Zzz x most h1 l (i + 1) (acc ++ Z3x p x) hl
   refine ⟨r, h2, fun hr => ?_⟩
   have := h3 hr
   rw [List.append_assoc] at this
   exact this
theorem Y0a (most : Int) (h1 : most ≤ 300) (h0 : 0 ≤ most) : ∀ (es : List Rule) (i : Nat) (l : List Cube), (l.length : Int) ≤ most →
  ∃ r, Z8x es i l most = some r ∧ (r.2 = 0 → r.1 = (es.map (·.Cube)).foldl Z9z l) ∧ (r.2 = 0 ∨ r = ([], 5))
 | [], i, l, hl => ⟨_, rfl, fun _ => rfl, .inl rfl⟩
 | x :: es, i, l, hl => by
  obtain ⟨⟨ok, p⟩, h2, h3⟩ := Zzz x.Cube most h1 l 0 [] (by simpa using h0)
  have e : Z8x (x :: es) i l most = bif (!ok) then some ([], 5) else (Z8x es) (i + 1) p.cubes p.most := by
   rw [Z8x]
   unfold Zp6
   rw [h2]; rfl
  rw [e]
  cases ok
  ·exact ⟨_, rfl, fun h => (by cases h), .inr rfl⟩
  ·obtain ⟨h4, h5⟩ := h3 rfl
   rw [List.nil_append] at h4 h5
   simp only at h4
   subst h4
   exact Y0a most h1 h0 es (i + 1) (Z9z l x.Cube) h5
theorem Yg5 (f : Flat) (i : Nat) (hi : i < f.Rules.length) (most : Int) (h1 : most ≤ 300) : ∃ r, Zgj f (i : Int) most = some r ∧ (r.2 = 0 → r.1 = slF f.Rules i) ∧ (r.2 = 0 ∨ r = ([], 5)) := by
 have e : Zgj f (i : Int) most = bif decide (((1 : Nat) : Int) > most) then some ([], 5) else (Z56 f.Rules (i : Int)).bind fun s11 => Z8x s11 0 [Z0g f.Rules[i].Cube] most := by
  unfold Zgj
  rw [decide_eq_false (by omega), decide_eq_false (by omega), Bool.or_self, cond_false, Z39 hi, Option.bind_some, Zoo]
  rfl
 rw [e]
 by_cases hf : ((1 : Nat) : Int) > most
 ·rw [decide_eq_true hf]; exact ⟨_, rfl, fun h => (by cases h), .inr rfl⟩
 ·rw [decide_eq_false hf, cond_false, Yld _ _ (by omega), Option.bind_some]
  have := Y0a most h1 (by omega) (f.Rules.take i) 0 [Z0g f.Rules[i].Cube] (by simp; omega)
  unfold slF
  rw [List.getElem?_eq_getElem hi]
  exact this
theorem Y5r (f : Flat) (hr : f.Rules.length ≤ 100000) (most : Int) (h1 : most ≤ 300) : ∀ (m i : Nat) (acc : List (List Cube)), i + m = f.Rules.length → acc = (List.range i).map (slF f.Rules) →
  ∃ r, Ze7 f most m i acc = some r ∧ (r.2 = 0 → r.1 = Zki f.Rules) ∧ (r.2 = 0 ∨ r = ([], 5))
 | 0, i, acc, hi, ha => ⟨_, rfl, fun _ => by rw [ha]; unfold Zki; rw [← hi]; rfl, .inl rfl⟩
 | m + 1, i, acc, hi, ha => by
  have hlim : lim = 4294967296 := rfl
  obtain ⟨⟨l, e⟩, h2, h3, h4⟩ := Yg5 f i (by omega) most h1
  rw [Ze7, h2, Option.bind_some]
  rcases h4 with h4 | h4
  ·simp only at h4 h3
   subst h4
   rw [h3 rfl, decide_eq_false (by omega), cond_false, Z23 (by rw [ha]; simp; omega), Option.bind_some]
   exact Y5r f hr most h1 m (i + 1) _ (by omega) (by rw [ha, List.range_succ, List.map_append]; rfl)
  ·cases h4
   exact ⟨_, rfl, fun h => (by cases h), .inr rfl⟩
theorem Yk7 (f : Flat) (hr : f.Rules.length ≤ 100000) (most : Int) (h1 : most ≤ 300) : ∃ r, Zkn f most = some r ∧ (r.2 = 0 → r.1 = Zki f.Rules) ∧ (r.2 = 0 ∨ r = ([], 5)) := by
 unfold Zkn
 rw [Int.toNat_natCast]
 exact Y5r f hr most h1 _ 0 [] (by omega) rfl
end Go.Proofs.YtknpgojdkobgjaaGreat.W
namespace Go.Proofs.YtknpgojdkobgjaaGreat.W
open Go Go.Wb
theorem Zsq (G : Int → Cube → List Atom) (K K' : Int → Header → List Out) (h : Header) (hG : ∀ id r, (G id r).flatMap (Z5a K' h) = K id (Z12 r h)) : ∀ a : List Atom, (Z2v G a).flatMap (Z5a K' h) = a.flatMap (Z5a K h)
 | [] => rfl
 | x :: a => by
  rw [Z2v, List.flatMap_append, List.flatMap_cons, Zsq G K K' h hG a]
  congr 1
  unfold Z5a
  cases hx : x.Group
  ·simp [hx, Zti]
  ·rw [cond_true, cond_true]
   exact hG _ _
theorem Y03 (l : List Group) (e : Env) (K' : Int → Header → List Out) (h : Header) : ∀ (d : Nat) (id : Int) (r : Cube), (goN l e d id r).flatMap (Z5a K' h) = goG l e d id (Z12 r h)
 | 0, id, r => rfl
 | d + 1, id, r => by
  rw [goN, goG]
  cases Z6g l id with
  | none => rfl
  | some g =>
   show ((Z40 e g).flatMap _).flatMap _ = (Z40 e g).flatMap _
   rw [List.flatMap_assoc]
   congr 1
   funext i
   rw [Zsq (goN l e d) (goG l e d) K' h (Y03 l e K' h d), ← Zti r h, Zj1]
def Zgg (h : Header) (x : Atom) : Out := ⟨x.Port, x.Max, Z12 x.Rewrite h⟩
theorem Y2z (K : Int → Header → List Out) (h : Header) : ∀ a : List Atom, (∀ x ∈ a, x.Group = false) → a.flatMap (Z5a K h) = a.map (Zgg h)
 | [], _ => rfl
 | x :: a, hx => by
  rw [List.flatMap_cons, Y2z K h a fun y hy => hx y (by simp [hy]), List.map_cons]
  unfold Z5a Zgg
  rw [hx x (by simp)]; rfl
end Go.Proofs.YtknpgojdkobgjaaGreat.W
namespace Go.Proofs.YtknpgojdkobgjaaGreat.W
open Go Go.Wb
theorem Zqi (go : Nat → Int → Option Int) (m : Int) (hm : -1 ≤ m) (hm2 : m ≤ 1000) (R : List Group → List Action → Int → Option Int) (G : List Group)
  (hR : ∀ a m', -1 ≤ m' → m' ≤ m - 1 → ∃ n, R G a m' = some n ∧ 0 ≤ n ∧ n ≤ m' + 1) (hgo : ∀ i n, 0 ≤ n → n ≤ m + 1 → ∃ r, go i n = some r ∧ 0 ≤ r ∧ r ≤ m + 1) (i6 : Nat) :
  ∀ (bs : List Bucket) (i : Nat) (n : Int), 0 ≤ n → n ≤ m + 1 → ∃ r, Zag go i6 m R G bs i n = some r ∧ 0 ≤ r ∧ r ≤ m + 1
 | [], i, n, h0, h1 => hgo _ n h0 h1
 | b :: bs, i, n, h0, h1 => by
  rw [Zag]
  by_cases h : n ≤ m
  ·obtain ⟨x, hx, hx0, hx1⟩ := hR b.Acts (m - n - 1) (by omega) (by omega)
   have hi : 0 ≤ Z1f 1 x ∧ Z1f 1 x ≤ max 1 (m - n) := by
    unfold Z1f
    by_cases hq : x > 1
    ·rw [decide_eq_true hq, cond_true]; omega
    ·rw [decide_eq_false hq, cond_false]; omega
   rw [decide_eq_true h, cond_true, Z2s (n := m - n) (by omega) (by omega), Z2s (n := m - n - 1) (by omega) (by omega), hx, Option.bind_some, Z2s (by omega) (by omega)]
   exact Zqi go m hm hm2 R G hR hgo i6 bs (i + 1) _ (by omega) (by omega)
  ·rw [decide_eq_false h, cond_false]
   exact Zqi go m hm hm2 R G hR hgo i6 bs (i + 1) n h0 h1
theorem Zrh (m : Int) (hm : -1 ≤ m) (hm2 : m ≤ 1000) (R : List Group → List Action → Int → Option Int) (G : List Group)
  (hR : ∀ a m', -1 ≤ m' → m' ≤ m - 1 → ∃ n, R G a m' = some n ∧ 0 ≤ n ∧ n ≤ m' + 1) :
  ∀ (ac : List Action) (i : Nat) (n : Int), 0 ≤ n → n ≤ m + 1 → ∃ r, Z83 m G R ac i n = some r ∧ 0 ≤ r ∧ r ≤ m + 1
 | [], i, n, h0, h1 => ⟨n, rfl, h0, h1⟩
 | a :: ac, i, n, h0, h1 => by
  have ih := Zrh m hm hm2 R G hR ac
  rw [Z83]
  by_cases h : n > m
  ·rw [decide_eq_true h]; exact ⟨n, rfl, h0, h1⟩
  ·rw [decide_eq_false h, cond_false]
   by_cases hk : a.Kind = 0
   ·rw [decide_eq_true hk, cond_true, Z2s (by omega) (by omega)]
    exact ih _ _ (by omega) (by omega)
   ·rw [decide_eq_false hk, cond_false]
    by_cases hk2 : a.Kind = 22
    ·rw [decide_eq_true hk2, cond_true, Ztz G (fun x => Zj7 x a) (fun x => decide (x.ID = a.Group)) (fun x _ => rfl), Option.bind_some]
     rcases Zd9 (fun x : Group => decide (x.ID = a.Group)) G with ⟨h2, _⟩ | ⟨k, h2, hk3, _⟩
     ·rw [decide_eq_true h2, cond_true]
      exact ih _ _ h0 h1
     ·rw [h2, decide_eq_false (by omega), cond_false, Z39 hk3, Option.bind_some]
      exact Zqi _ m hm hm2 R G hR (fun i n a b => ih i n a b) i _ 0 n h0 h1
    ·rw [decide_eq_false hk2, cond_false]
     exact ih _ _ h0 h1
theorem Y3d (G : List Group) : ∀ (k fuel : Nat) (a : List Action) (m : Int), -1 ≤ m → m < (k : Int) → k < fuel → m ≤ 1000 → ∃ n, Zkq fuel G a m = some n ∧ 0 ≤ n ∧ n ≤ m + 1
 | 0, fuel, a, m, h0, h1, h2, h3 => by
  obtain ⟨f, rfl⟩ : ∃ f, fuel = f + 1 := ⟨fuel - 1, by omega⟩
  exact Zrh m h0 h3 _ G (fun a m' h4 h5 => by omega) a 0 0 (by omega) (by omega)
 | k + 1, fuel, a, m, h0, h1, h2, h3 => by
  obtain ⟨f, rfl⟩ : ∃ f, fuel = f + 1 := ⟨fuel - 1, by omega⟩
  exact Zrh m h0 h3 _ G (fun a m' h4 h5 => Y3d G k f a m' h4 (by omega) (by omega) (by omega)) a 0 0 (by omega) (by omega)
theorem Y3o (go : Nat → Int → Option Bool) (i10 : Nat) (s : Switch) (m9 : Int) (hm : 0 ≤ m9 ∧ m9 ≤ 41) (hgo : ∀ i m, 0 ≤ m → m ≤ 41 → ∃ b, go i m = some b) : ∀ (l : List Inst) (i : Nat) (k : Int), 0 ≤ k → k ≤ 41 → ∃ b, Zbn go i10 m9 s l i k = some b
 | [], i, k, h0, h1 => by
  rw [Zbn]
  refine hgo _ _ ?_ ?_ <;> unfold Z1f <;> by_cases h : k > m9
  ·rw [decide_eq_true h]; exact h0
  ·rw [decide_eq_false h]; exact hm.1
  ·rw [decide_eq_true h]; exact h1
  ·rw [decide_eq_false h]; exact hm.2
 | x :: l, i, k, h0, h1 => by
  obtain ⟨n, hn, h2, h3⟩ := Y3d s.Groups 50 Z0k x.Acts (40 - k) (by omega) (by omega) (by unfold Z0k; omega) (by omega)
  rw [Zbn, Z2s (n := 40 - k) (by omega) (by omega)]
  unfold Zt6
  rw [hn, Option.bind_some, Z2s (by omega) (by omega)]
  exact Y3o go i10 s m9 hm hgo l (i + 1) _ (by omega) (by omega)
theorem Y4f (go : Nat → Int → Option Bool) (i5 : Nat) (s : Switch) (n4 : Int) (hgo : ∀ i n, ∃ b, go i n = some b) : ∀ (l : List Flow) (i : Nat) (m : Int), 0 ≤ m → m ≤ 41 → ∃ b, Zbg go i5 n4 s l i m = some b
 | [], i, m, _, _ => hgo _ _
 | x :: l, i, m, h0, h1 => by
  rw [Zbg]
  exact Y3o _ i s m ⟨h0, h1⟩ (fun i m a b => Y4f go i5 s n4 hgo l i m a b) _ 0 0 (by omega) (by omega)
theorem Zun (s : Switch) : ∀ (l : List (List Flow)) (i : Nat) (n : Int), ∃ b, Z9e s l i n = some b
 | [], i, n => ⟨_, rfl⟩
 | x :: l, i, n => by
  rw [Z9e]
  exact Y4f _ i s n (fun i n => Zun s l i n) x 0 0 (by omega) (by omega)
def Zto (s : Switch) : Bool := (Zg7 s).getD false
theorem Yk6 (s : Switch) : Zg7 s = some (Zto s) := by
 obtain ⟨b, hb⟩ := Zun s (Vector.toList s.Tables) 0 0
 have : Zg7 s = some b := hb
 unfold Zto
 rw [this]; rfl
theorem Yoa (s : List Switch) (f : Switch → Option Bool) (p : Switch → Bool) (hf : ∀ x ∈ s, f x = some (p x)) : Zjl s f = some (Z08 p s) := by
 unfold Zjl
 rw [show ((s.length : Int)).toNat = s.length by omega]
 exact Zba p (fun i => by rw [Ze5]) (fun m i => by rw [Ze5]) hf
theorem Y6c (s : List Link) (f : Link → Option Bool) (p : Link → Bool) (hf : ∀ x ∈ s, f x = some (p x)) : Zkt s f = some (Z08 p s) := by
 unfold Zkt
 rw [show ((s.length : Int)).toNat = s.length by omega]
 exact Zba p (fun i => by rw [Zea]) (fun m i => by rw [Zea]) hf
def Yfc (n : Net) (e : Env) (m : Int) : Prop := n.Switches.length ≤ 3 ∧ n.Links.length ≤ 8 ∧ e.Down.length ≤ 20 ∧ m ≤ 300 ∧ ∀ s ∈ n.Switches, SW s
theorem Y7w (n : Net) (e : Env) (m : Int) : ∃ b, Zi0 n e m = some b ∧ (b = true → Yfc n e m) := by
 unfold Zi0 Zm0
 rw [Yoa n.Switches Zil (fun s => !Z95 s 3 || !Zto s) (fun s _ => by
  unfold Zil
  rw [Yei, Option.bind_some, Yk6]
  cases Z95 s 3 <;> rfl), Option.bind_some, Zb1]
 cases hc : ((decide ((n.Switches.length : Int) > 3) || decide ((n.Links.length : Int) > 8)) || decide ((e.Down.length : Int) > 20)) || decide (m > 300)
 ·refine ⟨_, rfl, fun hb => ?_⟩
  simp only [Bool.or_eq_false_iff, decide_eq_false_iff_not] at hc
  refine ⟨by omega, by omega, by omega, by omega, fun s hs => ?_⟩
  rw [Bool.not_eq_true', List.any_eq_false] at hb
  have := hb s hs
  cases hf : Z95 s 3
  ·rw [hf] at this; simp at this
  ·exact Ybv (m := 3) hf (by omega)
 ·exact ⟨false, rfl, fun h => by cases h⟩
def Zrc (n : Net) (a : Int) : Bool := decide (a ≥ 0) && decide (a < (n.Switches.length : Int))
def Zja (n : Net) (a p : Int) (l : Link) : Bool := (decide (l.From = a) && decide (l.Out = p)) && Zrc n l.To
def Z4j (n : Net) (a p : Int) : Option (Int × Int) := (n.Links.find? (Zja n a p)).map fun l => (l.To, l.In)
def Zyi : Option (Int × Int) → Int × Int × Bool
 | none => (0, 0, false)
 | some (t, i) => (t, i, true)
theorem Zrg (n : Net) (a p : Int) : Zcd n a p = some (Zyi (Z4j n a p)) := by
 unfold Zcd Z4j
 rw [Y6c n.Links (fun x => Zh9 x a p n) (Zja n a p) (fun l _ => by
  unfold Zh9 Zja Zno Zrc
  cases (decide (l.From = a) && decide (l.Out = p)) <;> rfl), Option.bind_some]
 rcases Zd9 (Zja n a p) n.Links with ⟨h1, h2⟩ | ⟨k, h1, hk, h2, _⟩
 ·rw [decide_eq_true h1, h2]; rfl
 ·rw [h1, decide_eq_false (by omega), cond_false, Z39 hk, Option.bind_some, Option.bind_some, h2]; rfl
theorem Zr8 {n : Net} {a p t i : Int} (h : Z4j n a p = some (t, i)) : ∃ k : Nat, t = (k : Int) ∧ k < n.Switches.length := by
 unfold Z4j at h
 obtain ⟨l, hl, e⟩ := Option.map_eq_some_iff.1 h
 have h1 := List.find?_some hl
 unfold Zja Zrc at h1
 simp only [Bool.and_eq_true, decide_eq_true_eq] at h1
 cases e
 exact ⟨l.To.toNat, by omega, by omega⟩
def Ze1 (h : Header) (i : Int) : Header := Vector.set h 0 ⟨0, BitVec.ofInt 64 i⟩ (by decide)
theorem Yc9 (h : Header) (i : Int) : Zii h 0 ⟨0, BitVec.ofInt 64 i⟩ = some (Ze1 h i) := rfl
def Z46 (n : Net) (e : Env) : Nat → Int → Header → List End
 | 0, a, h => [⟨a, 0, 0, false, h⟩]
 | k + 1, a, h => match n.Switches[a.toNat]? with
  | none => []
  | some s => (Zjr s e h).1.out.flatMap fun o => match Z4j n a o.Port with
   | none => [⟨a, o.Port, o.Max, true, o.Header⟩]
   | some (t, i) => Z46 n e k t (Ze1 o.Header i)
def Zae (n : Net) (a : Int) (K : Int → Header → List End) (o : Out) : List End := match Z4j n a o.Port with
 | none => [⟨a, o.Port, o.Max, true, o.Header⟩]
 | some (t, i) => K t (Ze1 o.Header i)
theorem Zyz {n : Net} {a : Nat} {s : Switch} (hs : n.Switches[a]? = some s) (e : Env) (k : Nat) (h : Header) : Z46 n e (k + 1) (a : Int) h = (Zjr s e h).1.out.flatMap (Zae n (a : Int) (Z46 n e k)) := by
 rw [Z46, Int.toNat_natCast, hs]; rfl
theorem Zsl (n : Net) (e : Env) (a : Int) (k : Nat) (hk : k ≤ 100) (R : Z2g → Int → Header → Int → Option Z2g)
  (hR : ∀ (t : Nat), t < n.Switches.length → ∀ h acc, acc.length + (Z46 n e k (t : Int) h).length ≤ 1000000 → R ⟨n, e, acc⟩ (t : Int) h (k : Int) = some ⟨n, e, acc ++ Z46 n e k (t : Int) h⟩) :
  ∀ (os : List Out) (i : Nat) (acc : List End), acc.length + (os.flatMap (Zae n a (Z46 n e k))).length ≤ 1000000 → Z9m a R ((k + 1 : Nat) : Int) os i acc n e = some ⟨n, e, acc ++ os.flatMap (Zae n a (Z46 n e k))⟩
 | [], i, acc, _ => by rw [Z9m]; simp
 | o :: os, i, acc, h => by
  have hlim : lim = 4294967296 := rfl
  rw [List.flatMap_cons, List.length_append] at h
  rw [Z9m, Zrg, Option.bind_some, List.flatMap_cons]
  have ht : Zae n a (Z46 n e k) o = match Z4j n a o.Port with | none => [⟨a, o.Port, o.Max, true, o.Header⟩] | some (t, i) => Z46 n e k t (Ze1 o.Header i) := rfl
  cases hn : Z4j n a o.Port with
  | none =>
   rw [hn] at ht
   simp only at ht
   rw [ht, List.length_singleton] at h
   show (bif (!false) then (Z1a acc [(⟨a, o.Port, o.Max, true, o.Header⟩ : End)]).bind _ else _) = _
   rw [Bool.not_false, cond_true, Z23 (by simp; omega), Option.bind_some, Zsl n e a k hk R hR os (i + 1) _ (by simp only [List.length_append, List.length_cons, List.length_nil]; omega), ht, List.append_assoc]
  | some ti =>
   obtain ⟨t, j⟩ := ti
   rw [hn] at ht
   simp only at ht
   rw [ht] at h
   obtain ⟨t, rfl, hlt⟩ := Zr8 hn
   show (bif (!true) then _ else (Zii o.Header 0 ⟨0, BitVec.ofInt 64 j⟩).bind _) = _
   rw [Bool.not_true, cond_false, Yc9, Option.bind_some, Z2s (by omega) (by omega), show ((k + 1 : Nat) : Int) - 1 = (k : Int) by omega]
   show (R ⟨n, e, acc⟩ (t : Int) (Ze1 o.Header j) (k : Int)).bind _ = _
   rw [hR t hlt _ acc (by omega), Option.bind_some, Zsl n e a k hk R hR os (i + 1) _ (by simp only [List.length_append, List.length_cons, List.length_nil]; omega), ht, List.append_assoc]
theorem Y2c (n : Net) (hn : ∀ s ∈ n.Switches, SW s) (e : Env) : ∀ (k : Nat), k ≤ 100 → ∀ (fuel : Nat), k < fuel → ∀ (a : Nat), a < n.Switches.length → ∀ h acc, acc.length + (Z46 n e k (a : Int) h).length ≤ 1000000 →
  Zdi fuel ⟨n, e, acc⟩ (a : Int) h (k : Int) = some ⟨n, e, acc ++ Z46 n e k (a : Int) h⟩
 | 0, _, fuel, hf, a, ha, h, acc, hl => by
  have hlim : lim = 4294967296 := rfl
  obtain ⟨f, rfl⟩ : ∃ f, fuel = f + 1 := ⟨fuel - 1, by omega⟩
  show (Z1a acc [(⟨(a : Int), 0, 0, false, h⟩ : End)]).bind _ = _
  rw [Z23 (by simp [Z46] at hl ⊢; omega)]; rfl
 | k + 1, hk, fuel, hf, a, ha, h, acc, hl => by
  obtain ⟨f, rfl⟩ : ∃ f, fuel = f + 1 := ⟨fuel - 1, by omega⟩
  have hs := hn _ (List.getElem_mem ha)
  rw [Zyz (List.getElem?_eq_getElem ha)] at hl ⊢
  show Zla (Zdi f) _ _ _ _ = _
  unfold Zla
  rw [decide_eq_false (by omega), cond_false, Z39 ha, Option.bind_some, Y8w _ e h hs.lt hs.G, Option.bind_some]
  exact Zsl n e (a : Int) k (by omega) (Zdi f) (fun t ht h acc hb => Y2c n hn e k (by omega) f (by omega) t ht h acc hb) _ 0 acc hl
def Z7c (x : Int) : Nat := (Z3a (Z1f x 0) 8).toNat
theorem Y52 (x : Int) : Z3a (Z1f x 0) 8 = (Z7c x : Int) ∧ Z7c x ≤ 8 := by
 unfold Z7c Z3a
 have := Zuz x
 by_cases h : (8 : Int) < Z1f x 0
 ·rw [decide_eq_true h, cond_true]; exact ⟨rfl, by decide⟩
 ·rw [decide_eq_false h, cond_false]; omega
theorem Ydm (n : Net) (hn : ∀ s ∈ n.Switches, SW s) (e : Env) (a : Nat) (ha : a < n.Switches.length) (h : Header) (x : Int) (hl : (Z46 n e (Z7c x) (a : Int) h).length ≤ 1000000) : Zgu n e (a : Int) h x = some (Z46 n e (Z7c x) (a : Int) h) := by
 unfold Zgu Zm4 Zr5
 have hk := Y52 x
 rw [decide_eq_true (by omega), decide_eq_true (by omega), Bool.and_self, cond_true, Option.bind_some, hk.1, Y2c n hn e (Z7c x) (by omega) Z0k (by unfold Z0k; omega) a ha h [] (by simpa using hl)]
 rfl
end Go.Proofs.YtknpgojdkobgjaaGreat.W
namespace Go.Proofs.YtknpgojdkobgjaaGreat.W
open Go Go.Wb
def Z7q (c got x : Cube) : Option Cube := (Z5q got x).bind fun b => Z4z b c
theorem Yly {c got x c' : Cube} (hb : Z7q c got x = some c') (h : Header) : Zq c' h = (Zq c h && Zq x (Z12 got h)) := by
 unfold Z7q at hb
 cases h1 : Z5q got x with
 | none => rw [h1] at hb; cases hb
 | some b =>
  rw [h1, Option.bind_some] at hb
  have h2 := Zze hb h
  have h3 := Zni h1 h
  cases e1 : Zq c' h <;> cases e2 : Zq c h <;> cases e3 : Zq x (Z12 got h) <;> simp_all
theorem Yd3 {c got x : Cube} (hb : Z7q c got x = none) (h : Header) : (Zq c h && Zq x (Z12 got h)) = false := by
 unfold Z7q at hb
 cases hc : Zq c h && Zq x (Z12 got h)
 ·rfl
 ·rw [Bool.and_eq_true] at hc
  cases h1 : Z5q got x with
  | none => exact (Zux h1 h hc.2).elim
  | some b =>
   rw [h1, Option.bind_some] at hb
   exact (Zra hb h ((Zni h1 h).2 hc.2) hc.1).elim
theorem Ybs (c got x : Cube) : match Z7q c got x with
  | none => ∃ z, Zhq ⟨c, got⟩ x = some (z, false)
  | some c' => Zhq ⟨c, got⟩ x = some (⟨c', got⟩, true) := by
 unfold Z7q Zhq
 rw [Y5v, Option.bind_some]
 cases Z5q got x with
 | none => exact ⟨_, rfl⟩
 | some b =>
  show match Z4z b c with | none => ∃ z, ((Z7y b c).bind fun x8 => some ((⟨x8.1, got⟩ : spread_beam), x8.2)) = some (z, false) | some c' => ((Z7y b c).bind fun x8 => some ((⟨x8.1, got⟩ : spread_beam), x8.2)) = some (⟨c', got⟩, true)
  rw [Znj, Option.bind_some]
  cases Z4z b c with
  | none => exact ⟨_, rfl⟩
  | some c' => rfl
def Z9d (rs : List Rule) (i : Nat) : List Atom := match rs[i]? with
 | none => []
 | some r => r.Atoms
def Zas (n : Net) (a : Int) (c got : Cube) (K : Int → Cube → List Ray) (x : Atom) : List Ray := match Z4j n a x.Port with
 | none => [⟨a, x.Port, x.Max, true, c, Z5j got x.Rewrite⟩]
 | some (t, i) => K t (Z42 (Z5j got x.Rewrite) 0 ⟨0, BitVec.ofInt 64 i⟩ (Z5z 128))
def Zbq (n : Net) (e : Env) (f : Flat) (a : Int) (c got : Cube) (K : Int → Cube → Cube → List Ray) (i : Nat) (x : Cube) : List Ray := match Z7q c got x with
 | none => []
 | some c' => (Z2v (goN f.Groups e 8) (Z9d f.Rules i)).flatMap (Zas n a c' got (fun t g => K t c' g))
def Z4s (n : Net) (e : Env) (most : Int) : Nat → Int → Cube → Cube → List Ray
 | 0, a, c, got => [⟨a, 0, 0, false, c, got⟩]
 | k + 1, a, c, got => match n.Switches[a.toNat]? with
  | none => []
  | some s => (List.range (Z1i s most).1.Rules.length).flatMap fun i => (slF (Z1i s most).1.Rules i).flatMap (Zbq n e (Z1i s most).1 a c got (Z4s n e most k) i)
theorem Y39 {n : Net} {a : Nat} {s : Switch} (hs : n.Switches[a]? = some s) (e : Env) (most : Int) (k : Nat) (c got : Cube) : Z4s n e most (k + 1) (a : Int) c got = (List.range (Z1i s most).1.Rules.length).flatMap fun i => (slF (Z1i s most).1.Rules i).flatMap (Zbq n e (Z1i s most).1 (a : Int) c got (Z4s n e most k) i) := by
 rw [Z4s, Int.toNat_natCast, hs]
def OkR (most : Int) (l l' R : List Ray) : Prop := l.length ≤ l'.length ∧ l'.length ≤ 301 ∧ ((l'.length : Int) ≤ most → l' = l ++ R)
theorem OkR.stop {most : Int} {l R : List Ray} (h : (l.length : Int) > most) (hl : l.length ≤ 301) : OkR most l l R := ⟨Nat.le_refl _, hl, fun h' => by omega⟩
theorem OkR.none {most : Int} {l : List Ray} (hl : l.length ≤ 301) : OkR most l l [] := ⟨Nat.le_refl _, hl, fun _ => by simp⟩
theorem OkR.trans {most : Int} {l l1 l2 R R' : List Ray} (h : OkR most l l1 R) (h' : OkR most l1 l2 R') : OkR most l l2 (R ++ R') :=
 ⟨Nat.le_trans h.1 h'.1, h'.2.1, fun hm => by
  have := h'.1
  rw [h'.2.2 hm, h.2.2 (by omega), List.append_assoc]⟩
theorem OkR.one {most : Int} {l : List Ray} (x : Ray) (hl : l.length ≤ 300) : OkR most l (l ++ [x]) [x] := ⟨by simp, by simp; omega, fun _ => rfl⟩
section
variable (n : Net) (e : Env) (tabs : List spread_table) (most : Int)
def Z4t (l : List Ray) : Z0d := ⟨n, e, tabs, most, l⟩
theorem Zq1 (hm : most ≤ 300) (a : Int) (k : Nat) (hk : k ≤ 100) (c' got : Cube) (R : Z0d → Int → spread_beam → Int → Option Z0d) (K : Int → Cube → List Ray)
  (hR : ∀ (t : Nat), t < n.Switches.length → ∀ g l, l.length ≤ 300 → ∃ l', R (Z4t n e tabs most l) (t : Int) ⟨c', g⟩ (k : Int) = some (Z4t n e tabs most l') ∧ OkR most l l' (K (t : Int) g)) :
  ∀ (xs : List Atom) (i : Nat) (l : List Ray), l.length ≤ 301 → ∃ l', Zap ⟨c', got⟩ a R ((k + 1 : Nat) : Int) xs i l n e tabs most = some (Z4t n e tabs most l') ∧ OkR most l l' (xs.flatMap (Zas n a c' got K))
 | [], i, l, hl => ⟨l, rfl, .none hl⟩
 | x :: xs, i, l, hl => by
  have hlim : lim = 4294967296 := rfl
  rw [Zap]
  by_cases h : (l.length : Int) > most
  ·rw [decide_eq_true h]; exact ⟨l, rfl, .stop h hl⟩
  ·have hg : Zj8 ⟨c', got⟩ x.Rewrite = some ⟨c', Z5j got x.Rewrite⟩ := by
    unfold Zj8
    rw [Y3n]; rfl
   have hx : Zas n a c' got K x = match Z4j n a x.Port with | none => [⟨a, x.Port, x.Max, true, c', Z5j got x.Rewrite⟩] | some (t, i) => K t (Z42 (Z5j got x.Rewrite) 0 ⟨0, BitVec.ofInt 64 i⟩ (Z5z 128)) := rfl
   rw [decide_eq_false h, cond_false, hg, Option.bind_some, Zrg, Option.bind_some, List.flatMap_cons]
   cases hn : Z4j n a x.Port with
   | none =>
    rw [hn] at hx
    show ∃ l', (bif (!false) then (Z1a l [(⟨a, x.Port, x.Max, true, c', Z5j got x.Rewrite⟩ : Ray)]).bind _ else _) = _ ∧ _
    rw [Bool.not_false, cond_true, Z23 (by simp; omega), Option.bind_some, hx]
    obtain ⟨l', h1, h2⟩ := Zq1 hm a k hk c' got R K hR xs (i + 1) (l ++ [⟨a, x.Port, x.Max, true, c', Z5j got x.Rewrite⟩]) (by simp; omega)
    exact ⟨l', h1, (OkR.one _ (by omega)).trans h2⟩
   | some ti =>
    obtain ⟨t, j⟩ := ti
    rw [hn] at hx
    obtain ⟨t, rfl, hlt⟩ := Zr8 hn
    show ∃ l', (bif (!true) then _ else (Z81 128).bind fun x30 => (Z6p (Z5j got x.Rewrite) 0 (⟨0, (BitVec.ofInt 64 j)⟩ : Wide) x30).bind fun x31 => (R (Z4t n e tabs most l) (t : Int) ⟨c', x31⟩ (IntKind.i64.wrap (((k + 1 : Nat) : Int) - 1))).bind _) = _ ∧ _
    rw [Bool.not_true, cond_false, Zlx, Option.bind_some, Zdg, Option.bind_some, Z2s (by omega) (by omega), show ((k + 1 : Nat) : Int) - 1 = (k : Int) by omega]
    obtain ⟨l1, h1, h2⟩ := hR t hlt (Z42 (Z5j got x.Rewrite) 0 ⟨0, BitVec.ofInt 64 j⟩ (Z5z 128)) l (by omega)
    obtain ⟨l', h3, h4⟩ := Zq1 hm a k hk c' got R K hR xs (i + 1) l1 h2.2.1
    rw [h1, Option.bind_some, hx]
    exact ⟨l', h3, h2.trans h4⟩
theorem Zqq (hm : most ≤ 300) (a : Int) (f : Flat) (cs : List (List Cube)) (hf : f.Rules.length ≤ 6561 ∧ (∀ r ∈ f.Rules, r.Atoms.length ≤ 1000) ∧ Z3d f.Groups) (k : Nat) (c got : Cube) (O : Z0d → Int → spread_beam → List Atom → Int → Option Z0d) (K : Int → Cube → Cube → List Ray)
  (hO : ∀ c' xs l, l.length ≤ 301 → ∃ l', O (Z4t n e tabs most l) a ⟨c', got⟩ xs ((k + 1 : Nat) : Int) = some (Z4t n e tabs most l') ∧ OkR most l l' (xs.flatMap (Zas n a c' got (fun t g => K t c' g))))
  (go : Nat → List Ray → Net → Env → List spread_table → Int → Option Z0d) (i : Nat) (hi : i < f.Rules.length) (Rr : List Ray)
  (hgo : ∀ l, l.length ≤ 301 → ∃ l', go (i + 1) l n e tabs most = some (Z4t n e tabs most l') ∧ OkR most l l' Rr) :
  ∀ (xs : List Cube) (j : Nat) (l : List Ray), l.length ≤ 301 → ∃ l', Zaq go i ⟨c, got⟩ ⟨f, cs⟩ O a ((k + 1 : Nat) : Int) xs j l n e tabs most = some (Z4t n e tabs most l') ∧ OkR most l l' (xs.flatMap (Zbq n e f a c got K i) ++ Rr)
 | [], j, l, hl => hgo l hl
 | x :: xs, j, l, hl => by
  rw [Zaq]
  by_cases h : (l.length : Int) > most
  ·rw [decide_eq_true h]; exact ⟨l, rfl, .stop h hl⟩
  ·have hb := Ybs c got x
   have hx : Zbq n e f a c got K i x = match Z7q c got x with | none => [] | some c' => (Z2v (goN f.Groups e 8) (Z9d f.Rules i)).flatMap (Zas n a c' got (fun t g => K t c' g)) := rfl
   rw [decide_eq_false h, cond_false, List.flatMap_cons, List.append_assoc]
   cases hm2 : Z7q c got x with
   | none =>
    rw [hm2] at hb hx
    obtain ⟨z, hz⟩ := hb
    rw [hz, hx]
    exact Zqq hm a f cs hf k c got O K hO go i hi Rr hgo xs (j + 1) l hl
   | some c' =>
    rw [hm2] at hb hx
    simp only at hb hx
    rw [hb, Option.bind_some]
    have ha : Z9d f.Rules i = f.Rules[i].Atoms := by unfold Z9d; rw [List.getElem?_eq_getElem hi]
    show ∃ l', (bif (!true) then _ else (lget f.Rules (i : Int)).bind fun x45 => (Zh0 f.Groups e x45.Atoms).bind fun x46 => (O (Z4t n e tabs most l) a ⟨c', got⟩ x46 ((k + 1 : Nat) : Int)).bind _) = _ ∧ _
    rw [Bool.not_true, cond_false, Z39 hi, Option.bind_some, Ycl f.Groups e f.Rules[i].Atoms hf.2.2 (by have := hf.2.1 _ (List.getElem_mem hi); omega), Option.bind_some, hx, ha]
    obtain ⟨l1, h1, h2⟩ := hO c' (Z2v (goN f.Groups e 8) f.Rules[i].Atoms) l hl
    obtain ⟨l', h3, h4⟩ := Zqq hm a f cs hf k c got O K hO go i hi Rr hgo xs (j + 1) l1 h2.2.1
    rw [h1, Option.bind_some]
    exact ⟨l', h3, h2.trans h4⟩
theorem Y37 (hm : most ≤ 300) (a : Int) (f : Flat) (cs : List (List Cube)) (hf : f.Rules.length ≤ 6561 ∧ (∀ r ∈ f.Rules, r.Atoms.length ≤ 1000) ∧ Z3d f.Groups) (k : Nat) (c got : Cube) (O : Z0d → Int → spread_beam → List Atom → Int → Option Z0d) (K : Int → Cube → Cube → List Ray)
  (hO : ∀ c' xs l, l.length ≤ 301 → ∃ l', O (Z4t n e tabs most l) a ⟨c', got⟩ xs ((k + 1 : Nat) : Int) = some (Z4t n e tabs most l') ∧ OkR most l l' (xs.flatMap (Zas n a c' got (fun t g => K t c' g)))) :
  ∀ (m i : Nat) (l : List Ray), i + m = f.Rules.length → l.length ≤ 301 → ∃ l', Z96 ⟨c, got⟩ ⟨f, cs⟩ O a ((k + 1 : Nat) : Int) ((List.range' i m).map (slF f.Rules)) i l n e tabs most = some (Z4t n e tabs most l') ∧ OkR most l l' ((List.range' i m).flatMap fun i => (slF f.Rules i).flatMap (Zbq n e f a c got K i))
 | 0, i, l, hi, hl => ⟨l, rfl, .none hl⟩
 | m + 1, i, l, hi, hl => by
  rw [List.range'_succ, List.map_cons, Z96, List.flatMap_cons]
  exact Zqq n e tabs most hm a f cs hf k c got O K hO _ i (by omega) _ (fun l hl => Y37 hm a f cs hf k c got O K hO m (i + 1) l (by omega) hl) _ 0 l hl
end
def Z62 (most : Int) (s : Switch) : spread_table := ⟨(Z1i s most).1, Zki (Z1i s most).1.Rules⟩
theorem Y18 (n : Net) (hn : ∀ s ∈ n.Switches, SW s) (e : Env) (most : Int) (hm : most ≤ 300) : ∀ (k : Nat), k ≤ 100 → ∀ (fuel : Nat), 2 * k < fuel → ∀ (a : Nat), a < n.Switches.length → ∀ c got l, l.length ≤ 300 →
  ∃ l', (Z5v fuel).1 (Z4t n e (n.Switches.map (Z62 most)) most l) (a : Int) ⟨c, got⟩ (k : Int) = some (Z4t n e (n.Switches.map (Z62 most)) most l') ∧ OkR most l l' (Z4s n e most k (a : Int) c got)
 | 0, _, fuel, hf, a, ha, c, got, l, hl => by
  have hlim : lim = 4294967296 := rfl
  obtain ⟨f, rfl⟩ : ∃ f, fuel = f + 1 := ⟨fuel - 1, by omega⟩
  refine ⟨l ++ [⟨(a : Int), 0, 0, false, c, got⟩], ?_, .one _ hl⟩
  show (Z1a l [(⟨(a : Int), 0, 0, false, c, got⟩ : Ray)]).bind _ = _
  rw [Z23 (by simp; omega)]; rfl
 | k + 1, hk, fuel, hf, a, ha, c, got, l, hl => by
  obtain ⟨f, rfl⟩ : ∃ f, fuel = f + 2 := ⟨fuel - 2, by omega⟩
  have hs := hn _ (List.getElem_mem ha)
  have hlt : a < (n.Switches.map (Z62 most)).length := by simpa using ha
  have hg : (n.Switches.map (Z62 most))[a] = Z62 most n.Switches[a] := by simp
  rw [Y39 (List.getElem?_eq_getElem ha)]
  show ∃ l', Zko (Z5v (f + 1)).1 (Z5v (f + 1)).2 (Z4t n e (n.Switches.map (Z62 most)) most l) (a : Int) ⟨c, got⟩ ((k + 1 : Nat) : Int) = some (Z4t n e (n.Switches.map (Z62 most)) most l') ∧ _
  unfold Zko
  rw [decide_eq_false (by omega), cond_false]
  show ∃ l', (lget (n.Switches.map (Z62 most)) (a : Int)).bind _ = _ ∧ _
  rw [Z39 hlt, Option.bind_some, hg, List.range_eq_range']
  show ∃ l', Z96 ⟨c, got⟩ ⟨(Z1i n.Switches[a] most).1, Zki (Z1i n.Switches[a] most).1.Rules⟩ _ _ _ ((List.range _).map (slF (Z1i n.Switches[a] most).1.Rules)) 0 l n e (n.Switches.map (Z62 most)) most = _ ∧ _
  rw [List.range_eq_range']
  refine Y37 n e (n.Switches.map (Z62 most)) most hm (a : Int) (Z1i n.Switches[a] most).1 _ (Y0c _ hs most) k c got _ (Z4s n e most k) (fun c' xs l hl => ?_) _ 0 l (by omega) (by omega)
  exact Zq1 n e (n.Switches.map (Z62 most)) most hm (a : Int) k (by omega) c' got _ (fun t g => Z4s n e most k t c' g) (fun t ht g l hl => Y18 n hn e most hm k (by omega) f (by omega) t ht c' g l hl) xs 0 l hl
theorem Zw4 (most : Int) (hm : most ≤ 300) : ∀ (ss : List Switch) (i : Nat) (acc : List spread_table), (∀ s ∈ ss, SW s) → acc.length + ss.length ≤ 1000 →
  ∃ r, Zdb most ss i acc = some r ∧ ((r = (acc ++ ss.map (Z62 most), 0) ∧ ∀ s ∈ ss, (Z1i s most).2 = 0) ∨ r = ([], 5))
 | [], i, acc, _, _ => ⟨_, rfl, .inl ⟨by simp, by simp⟩⟩
 | s :: ss, i, acc, h, hl => by
  have hlim : lim = 4294967296 := rfl
  simp only [List.length_cons] at hl
  have hs := h s (by simp)
  rw [Zdb, Ybw s hs most (by omega), Option.bind_some]
  by_cases h0 : (Z1i s most).2 = 0
  ·obtain ⟨⟨l, x⟩, h1, h2, h3⟩ := Yk7 (Z1i s most).1 (by have := (Y0c s hs most).1; omega) most hm
   rw [decide_eq_false (by omega), cond_false, h1, Option.bind_some]
   rcases h3 with h3 | h3
   ·simp only at h3 h2
    subst h3
    rw [h2 rfl, decide_eq_false (by omega), cond_false, Z23 (by simp; omega), Option.bind_some]
    obtain ⟨r, h4, h5⟩ := Zw4 most hm ss (i + 1) (acc ++ [Z62 most s]) (fun s hs => h s (by simp [hs])) (by simp; omega)
    refine ⟨r, h4, ?_⟩
    rcases h5 with ⟨h5, h6⟩ | h5
    ·refine .inl ⟨by rw [h5]; simp, fun y hy => ?_⟩
     rcases List.mem_cons.1 hy with rfl | hy
     ·exact h0
     ·exact h6 y hy
    ·exact .inr h5
   ·cases h3
    exact ⟨_, rfl, .inr rfl⟩
  ·rw [decide_eq_true h0]; exact ⟨_, rfl, .inr rfl⟩
theorem Y7b (n : Net) (hn : ∀ s ∈ n.Switches, SW s) (h3 : n.Switches.length ≤ 3) (e : Env) (a : Int) (c : Cube) (x most : Int) (hm : most ≤ 300) :
  ∃ r, Zel n e a c x most = some r ∧ (r = ([], 5) ∨ (¬ (0 ≤ a ∧ a < n.Switches.length) ∧ r = ([], 0)) ∨
   ∃ k : Nat, a = (k : Int) ∧ k < n.Switches.length ∧ (∀ s ∈ n.Switches, (Z1i s most).2 = 0) ∧ r = (Z4s n e most (Z7c x) (k : Int) (Z0g c) Z2a, 0) ∧ r.1.length ≤ 300) := by
 unfold Zel
 by_cases ha : 0 ≤ a ∧ a < (n.Switches.length : Int)
 ·obtain ⟨k, rfl⟩ : ∃ k : Nat, a = (k : Int) := ⟨a.toNat, by omega⟩
  rw [decide_eq_false (by omega), decide_eq_false (by omega), Bool.or_self, cond_false]
  unfold Zmu
  obtain ⟨r, h1, h2⟩ := Zw4 most hm n.Switches 0 [] hn (by simp; omega)
  rw [h1, Option.bind_some]
  rcases h2 with ⟨rfl, h2⟩ | rfl
  ·have hk := Y52 x
   obtain ⟨l', h4, h5⟩ := Y18 n hn e most hm (Z7c x) (by omega) Z0k (by unfold Z0k; omega) k (by omega) (Z0g c) Z2a [] (by simp)
   rw [decide_eq_false (by omega), cond_false, Zoo, Option.bind_some]
   show ∃ r, ((Z5v Z0k).1 (Z4t n e (n.Switches.map (Z62 most)) most []) (k : Int) ⟨Z0g c, Z2a⟩ (Z3a (Z1f x 0) 8)).bind _ = some r ∧ _
   rw [hk.1, h4, Option.bind_some]
   show ∃ r, (bif decide ((l'.length : Int) > most) then _ else some (l', 0)) = some r ∧ _
   by_cases hg : (l'.length : Int) > most
   ·rw [decide_eq_true hg]; exact ⟨_, rfl, .inl rfl⟩
   ·rw [decide_eq_false hg]
    have e1 : l' = Z4s n e most (Z7c x) (k : Int) (Z0g c) Z2a := by simpa using h5.2.2 (by omega)
    exact ⟨_, rfl, .inr (.inr ⟨k, rfl, by omega, h2, by rw [← e1], by show l'.length ≤ 300; omega⟩)⟩
  ·exact ⟨_, rfl, .inl rfl⟩
 ·refine ⟨_, ?_, .inr (.inl ⟨ha, rfl⟩)⟩
  have : (decide (a < 0) || decide (a ≥ (n.Switches.length : Int))) = true := by
   rw [Bool.or_eq_true, decide_eq_true_eq, decide_eq_true_eq]; omega
  rw [this]; rfl
end Go.Proofs.YtknpgojdkobgjaaGreat.W
namespace Go.Proofs.YtknpgojdkobgjaaGreat.W
open Go Go.Wb
set_option maxRecDepth 100000 in
theorem Y1u : Zjk = some true := by decide +kernel
end Go.Proofs.YtknpgojdkobgjaaGreat.W
namespace Go.Proofs.YtknpgojdkobgjaaGreat.W
open Go Go.Wb
theorem Ylv : ∀ k : _root_.Fin 128, wt (Z5z 128) k.1 = true := by decide +kernel
theorem Yl0 (r : Cube) (i : Int) (h : Header) : Z12 (Z42 r 0 ⟨0, BitVec.ofInt 64 i⟩ (Z5z 128)) h = Ze1 (Z12 r h) i := Z74 fun f hf => by
 have hc : ve (Z42 r 0 ⟨0, BitVec.ofInt 64 i⟩ (Z5z 128)) f = if 0 = f then Z4q (ve (Z0g r) 0) ⟨⟨0, BitVec.ofInt 64 i⟩, Z5z 128⟩ else ve (Z0g r) f := by
  unfold Z42
  rw [show (decide ((0 : Int) ≥ 0) && decide ((0 : Int) < 24)) = true from rfl, cond_true]
  exact Z75 (fun j => if (0 : Int).toNat = j then Z4q (ve (Z0g r) (0 : Int).toNat) ⟨⟨0, BitVec.ofInt 64 i⟩, Z5z 128⟩ else ve (Z0g r) j) f hf
 unfold Ze1
 rw [Z6n _ _ _ hf, hc, Zkd _ _ _ _ _ hf]
 by_cases e : 0 = f
 ·subst e
  rw [if_pos rfl, if_pos rfl]
  exact Zat fun k hk => by
   have hl : wt (Z5z 128) k = true := Ylv ⟨k, hk⟩
   simp only [Z4q, Z19, Z5i, Z2w, Z4v _ _ _ hk, hl]
   simp
 ·rw [if_neg e, if_neg e, Z9b _ _ hf, Z6n _ _ _ hf]
  unfold Z19
  exact Zat fun k hk => by
   simp only [Z5i, Z2w, Z4v _ _ _ hk]
   cases wt (ve h f) k <;> cases wt (ve r f).Value k <;> cases wt (ve r f).Mask k <;> rfl
def Zlc (h : Header) (r : Ray) : End := ⟨r.At, r.Port, r.Max, r.Left, Z12 r.Rewrite h⟩
def Z5c (h : Header) (l : List Ray) : List End := (l.filter fun r => Zq r.Cube h).map (Zlc h)
theorem Zjx {α : Type} (h : Header) (f : α → List Ray) : ∀ l : List α, Z5c h (l.flatMap f) = l.flatMap fun x => Z5c h (f x)
 | [] => rfl
 | x :: l => by
  rw [List.flatMap_cons, List.flatMap_cons, ← Zjx h f l]
  unfold Z5c
  rw [List.filter_append, List.map_append]
theorem Y0s (h : Header) (r : Ray) : Z5c h [r] = bif Zq r.Cube h then [Zlc h r] else [] := by
 unfold Z5c
 cases hc : Zq r.Cube h
 ·rw [List.filter_cons_of_neg (by simp [hc])]; rfl
 ·rw [List.filter_cons_of_pos (by simp [hc])]; rfl
theorem Yb9 {α β : Type} (b : Bool) (f : α → List β) (l : List α) : (l.flatMap fun x => bif b then f x else []) = bif b then l.flatMap f else [] := by
 cases b
 ·simp
 ·rfl
theorem Zkj {α β : Type} {f g : α → List β} {l : List α} (h : ∀ x ∈ l, f x = g x) : l.flatMap f = l.flatMap g := by
 rw [List.flatMap_def, List.flatMap_def]
 congr 1
 exact List.map_congr_left h
theorem Zy5 (n : Net) (hn : ∀ s ∈ n.Switches, SW s) (e : Env) (most : Int) (hfl : ∀ s ∈ n.Switches, (Z1i s most).2 = 0) : ∀ (k : Nat) (a : Nat), a < n.Switches.length → ∀ c got h,
  Z5c h (Z4s n e most k (a : Int) c got) = bif Zq c h then Z46 n e k (a : Int) (Z12 got h) else []
 | 0, a, ha, c, got, h => by
  show Z5c h [_] = _
  rw [Y0s]; rfl
 | k + 1, a, ha, c, got, h => by
  have hs := hn _ (List.getElem_mem ha)
  obtain ⟨m, hm, h1, h2, h3⟩ := Ydk n.Switches[a] hs most (hfl _ (List.getElem_mem ha)) e (Z12 got h)
  have hfi : Z08 (Z32 (Z12 got h)) (Z1i n.Switches[a] most).1.Rules = (m : Int) := by
   unfold Zjg at h1
   have h4 := (Prod.mk.inj h1).1
   have h5 := of_decide_eq_true (Prod.mk.inj h1).2
   rwa [Y8f h5] at h4
  rw [Y39 (List.getElem?_eq_getElem ha), Zyz (List.getElem?_eq_getElem ha), Zjx]
  have key : ∀ i x, Z5c h (Zbq n e (Z1i n.Switches[a] most).1 (a : Int) c got (Z4s n e most k) i x) =
    bif Zq c h && Zq x (Z12 got h) then (Z2v (goN (Z1i n.Switches[a] most).1.Groups e 8) (Z9d (Z1i n.Switches[a] most).1.Rules i)).flatMap (fun y => Zae n (a : Int) (Z46 n e k) (Zgg (Z12 got h) y)) else [] := fun i x => by
   unfold Zbq
   cases hb : Z7q c got x with
   | none => rw [Yd3 hb h]; rfl
   | some c' =>
    show Z5c h (List.flatMap _ _) = _
    rw [Zjx, ← Yly hb h, ← Yb9]
    refine Zkj fun y _ => ?_
    unfold Zas Zae Zgg
    show Z5c h (match Z4j n (a : Int) y.Port with | none => _ | some (t, i) => _) = bif Zq c' h then (match Z4j n (a : Int) y.Port with | none => _ | some (t, i) => _) else []
    cases hx : Z4j n (a : Int) y.Port with
    | none =>
     show Z5c h [_] = _
     rw [Y0s]
     show (bif Zq c' h then [(⟨(a : Int), y.Port, y.Max, true, Z12 (Z5j got y.Rewrite) h⟩ : End)] else []) = _
     rw [Zr1]
    | some ti =>
     obtain ⟨t, j⟩ := ti
     obtain ⟨t, rfl, hlt⟩ := Zr8 hx
     show Z5c h (Z4s n e most k (t : Int) c' _) = _
     rw [Zy5 n hn e most hfl k t hlt, Yl0, Zr1]
  cases hc : Zq c h
  ·rw [cond_false, Zkj (g := fun _ => []) fun i _ => by
    rw [Zjx, Zkj (g := fun _ => []) fun x _ => by rw [key, hc]; rfl]; simp]
   simp
  ·rw [cond_true, Zkj (g := fun i => (slF (Z1i n.Switches[a] most).1.Rules i).flatMap fun x => bif Zq x (Z12 got h) then (Z2v (goN (Z1i n.Switches[a] most).1.Groups e 8) (Z9d (Z1i n.Switches[a] most).1.Rules i)).flatMap (fun y => Zae n (a : Int) (Z46 n e k) (Zgg (Z12 got h) y)) else []) fun i _ => by
    rw [Zjx]
    exact Zkj fun x _ => by rw [key, hc, Bool.true_and]]
   rw [Yig (Z12 got h) _ m hfi (fun i => (Z2v (goN (Z1i n.Switches[a] most).1.Groups e 8) (Z9d (Z1i n.Switches[a] most).1.Rules i)).flatMap (fun y => Zae n (a : Int) (Z46 n e k) (Zgg (Z12 got h) y)))]
   have ha2 : Z9d (Z1i n.Switches[a] most).1.Rules m = (Z1i n.Switches[a] most).1.Rules[m].Atoms := by unfold Z9d; rw [List.getElem?_eq_getElem hm]
   rw [ha2, ← h2, h3, ← Zsq (goN n.Switches[a].Groups e 8) (goG n.Switches[a].Groups e 8) (goG n.Switches[a].Groups e 8) (Z12 got h) (fun id r => Y03 _ e _ _ 8 id r), Y2z _ _ _ (fun x hx => (Zt3 _ (fun id r => Zzn _ e 8 id r) _ x hx).1), List.flatMap_map]
theorem Zzr (n : Net) (e : Env) (most : Int) : ∀ (k : Nat) (a : Int) (c got : Cube), ∀ r ∈ Z4s n e most k a c got, r.Left = true → Z4j n r.At r.Port = none
 | 0, a, c, got, r, hr, hl => by
  rw [Z4s, List.mem_singleton] at hr
  subst hr
  cases hl
 | k + 1, a, c, got, r, hr, hl => by
  rw [Z4s] at hr
  cases hs : n.Switches[a.toNat]? with
  | none => rw [hs] at hr; cases hr
  | some s =>
   rw [hs] at hr
   obtain ⟨i, _, hr⟩ := List.mem_flatMap.1 hr
   obtain ⟨x, _, hr⟩ := List.mem_flatMap.1 hr
   unfold Zbq at hr
   cases hb : Z7q c got x with
   | none => rw [hb] at hr; cases hr
   | some c' =>
    rw [hb] at hr
    obtain ⟨y, _, hr⟩ := List.mem_flatMap.1 hr
    unfold Zas at hr
    cases hx : Z4j n a y.Port with
    | none =>
     rw [hx] at hr
     simp only [List.mem_singleton] at hr
     subst hr
     exact hx
    | some ti =>
     rw [hx] at hr
     exact Zzr n e most k ti.1 c' _ r hr hl
theorem Yak (h : Header) (l : List Ray) : (Z5c h l).length ≤ l.length := by
 unfold Z5c
 rw [List.length_map]
 exact List.length_filter_le ..
theorem Y1x (x : End) (s : List End) (hs : s.length ≤ 1000000) (j : Nat) (hj : j < s.length) (hx : s[j] = x) : ∀ (m i : Nat), i + m = s.length → i ≤ j → ∃ n, Zee s x m i = some n ∧ 0 ≤ n
 | 0, i, h1, h2 => by omega
 | m + 1, i, h1, h2 => by
  rw [Zee, Z39 (show i < s.length by omega), Option.bind_some]
  by_cases e : x = s[i]'(by omega)
  ·rw [decide_eq_true e]; exact ⟨_, rfl, by omega⟩
  ·rw [decide_eq_false e, cond_false]
   refine Y1x x s hs j hj hx m (i + 1) (by omega) ?_
   by_cases e2 : i = j
   ·subst e2; exact absurd hx.symm e
   ·omega
theorem Yo0 {x : End} {s : List End} (hs : s.length ≤ 1000000) (hx : x ∈ s) : Zif s x = some true := by
 obtain ⟨j, hj, e⟩ := List.mem_iff_getElem.1 hx
 obtain ⟨n, h1, h2⟩ := Y1x x s hs j hj e s.length 0 (by omega) (by omega)
 unfold Zif Zmy
 rw [Int.toNat_natCast, h1, Option.bind_some, decide_eq_true (by omega)]
theorem Zoi (n : Net) (e : Env) (c : Cube) (a x : Int) : ∀ (rs : List Ray) (i : Nat), (∀ r ∈ rs, Zq c (Z54 r.Cube) = true ∧ (∃ t, Zgu n e a (Z54 r.Cube) (Z3a x 3) = some t ∧ t.length ≤ 1000000 ∧ Zlc (Z54 r.Cube) r ∈ t) ∧ (r.Left = true → Z4j n r.At r.Port = none)) →
  Zau c n e a x rs i = some true
 | [], i, _ => by rw [Zau, Y1u]; rfl
 | r :: rs, i, h => by
  obtain ⟨h1, ⟨t, h2, h3, h4⟩, h5⟩ := h r (by simp)
  have e2 : Zfn r (Z54 r.Cube) = some (Zlc (Z54 r.Cube) r) := by unfold Zfn; rw [Zrt]; rfl
  rw [Zau, Zy3, Option.bind_some, Y4s, Option.bind_some, h1, h2, e2]
  simp only [Bool.not_true, Bool.not_false, Z7o, Option.bind_some]
  rw [Yo0 h3 h4, Option.bind_some, Bool.not_true, Bool.or_self, cond_false, Zrg, Option.bind_some]
  have : (r.Left && (Zyi (Z4j n r.At r.Port)).2.2) = false := by
   cases hl : r.Left
   ·rfl
   ·rw [h5 hl]; rfl
  rw [this, cond_false]
  exact Zoi n e c a x rs (i + 1) fun r hr => h r (by simp [hr])
theorem Yd5 (n : Net) (e : Env) (a : Int) (c : Cube) (x most : Int) : Zlg n e a c x most = some true := by
 unfold Zlg
 obtain ⟨b, hb, hl⟩ := Y7w n e most
 rw [hb, Option.bind_some, Y1u]
 cases b
 ·rfl
 ·obtain ⟨hn3, _, _, hm, hn⟩ := hl rfl
  obtain ⟨r, hr, hc⟩ := Y7b n hn hn3 e a c (Z3a x 3) most hm
  rw [Bool.not_true, cond_false, hr, Option.bind_some]
  rcases hc with rfl | ⟨ha, rfl⟩ | ⟨k, rfl, hk, hfl, rfl, hlen⟩
  ·exact Zoi n e c a x [] 0 (by simp)
  ·exact Zoi n e c a x [] 0 (by simp)
  ·refine Zoi n e c (k : Int) x _ 0 fun r hr => ?_
   have hrt := Zy5 n hn e most hfl (Z7c (Z3a x 3)) k hk (Z0g c) Z2a (Z54 r.Cube)
   rw [Zjd, Zxc] at hrt
   have hmem : Zlc (Z54 r.Cube) r ∈ Z5c (Z54 r.Cube) (Z4s n e most (Z7c (Z3a x 3)) (k : Int) (Z0g c) Z2a) :=
    List.mem_map.2 ⟨r, List.mem_filter.2 ⟨hr, Y8g _⟩, rfl⟩
   have hle := Yak (Z54 r.Cube) (Z4s n e most (Z7c (Z3a x 3)) (k : Int) (Z0g c) Z2a)
   simp only at hlen
   have hcc : Zq c (Z54 r.Cube) = true := by
    cases hcc : Zq c (Z54 r.Cube)
    ·rw [hrt, hcc] at hmem; cases hmem
    ·rfl
   rw [hcc, cond_true] at hrt
   rw [hrt] at hmem hle
   exact ⟨hcc, ⟨_, Ydm n hn e k hk _ _ (by omega), by omega, hmem⟩, Zzr n e most _ _ _ _ r hr⟩
end Go.Proofs.YtknpgojdkobgjaaGreat.W
