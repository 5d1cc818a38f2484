/- A part of the proof. -/
import Derived.Test.YtknpgojdkobgjaaGreatP0
set_option linter.unusedVariables false
set_option linter.unusedSimpArgs false
namespace Go.Proofs.YtknpgojdkobgjaaGreat.W
open Go Go.Wb
theorem Y40 (s : Switch) (hs : Z99 s) : ∀ (d at_ : Nat) (w : walk_way), at_ < 4 → Zg1 at_ w → ∀ r ∈ Z2r s d at_ w, r.Atoms.length ≤ 1000
 | 0, at_, w, h4, hw, r, hr => by
  rw [Z2r, List.mem_singleton] at hr
  rw [hr]
  have := hw.1
  show w.atoms.length ≤ 1000
  omega
 | d + 1, at_, w, h4, hw, r, hr => by
  have h0 := hw.1
  have h1 := hw.2
  rw [Z2r] at hr
  rcases List.mem_append.1 hr with hr | hr
  ·obtain ⟨i, hi, hr⟩ := List.mem_flatMap.1 hr
   unfold Z5q at hr
   split at hr
   ·cases hr
   ·rename_i f hf
    have hfi := (hs at_ h4).2 f (List.mem_of_getElem? hf)
    split at hr
    ·cases hr
    ·rename_i x hx
     have hx := Y2p hx
     have hd := Zqu x hfi
     rw [hx.1, hx.2] at hd
     split at hr
     ·rename_i n hn
      have hb := Zp6 hn
      exact Y40 s hs d _ _ hb.2 ⟨by omega, by omega⟩ r hr
     ·rw [List.mem_singleton] at hr
      rw [hr]
      have := Y4w (wdo x f.Insts)
      show (Z5m (wdo x f.Insts)).atoms.length ≤ 1000
      omega
  ·rw [List.mem_singleton] at hr
   rw [hr]
   show w.atoms.length ≤ 1000
   omega
theorem Zz6 (s : Switch) (hs : Z99 s) : ∀ r ∈ Z4k s, r.Atoms.length ≤ 1000 := Y40 s hs 4 0 Z6s (by omega) ⟨by simp [Z6s], by simp [Z6s]⟩
theorem Yj2 {s : Switch} {many : Nat} (h : Z9g s (many : Int) = true) : ∀ i, i < 4 → ∀ f ∈ Z0b s i, f.Insts.length ≤ 100000 ∧ f.Match.length ≤ 100000 := fun i hi f hf => by
 have := ((Zjw h).1 i hi).2 f hf
 omega
end Go.Proofs.YtknpgojdkobgjaaGreat.W
namespace Go.Proofs.YtknpgojdkobgjaaGreat.W
open Go Go.Wb
def U : Int := 1099511627776
def Zk6 (c : Cube) (l : List Cube) : List Cube := l.filter (Z3r c)
theorem Y79 {c : Cube} {l : List Cube} {i : Nat} (h : Z5f c l 0 = some i) : ∃ hi : i < l.length, Z3r c l[i] = true ∧ Zk6 c l = l[i] :: Zk6 c (l.drop (i + 1)) := by
 have hs := Zui c l 0
 rw [h] at hs
 obtain ⟨j, h1, h2, h3, h4⟩ := hs
 have : i = j := by omega
 subst this
 refine ⟨h2, h3, ?_⟩
 have e : l = l.take i ++ l[i] :: l.drop (i + 1) := by
  rw [← List.drop_eq_getElem_cons h2, List.take_append_drop]
 have e0 : (l.take i).filter (Z3r c) = [] := List.filter_eq_nil_iff.2 fun x hx => by rw [h4 x hx]; simp
 have : Zk6 c (l.take i ++ l[i] :: l.drop (i + 1)) = l[i] :: Zk6 c (l.drop (i + 1)) := by
  unfold Zk6
  rw [List.filter_append, e0, List.nil_append, List.filter_cons, if_pos h3]
 rw [← e] at this
 exact this
theorem Yh9 {m : Int} (h : 0 ≤ m) : Z1f m 0 = m := by
 unfold Z1f
 rw [decide_eq_false (by omega)]; rfl
theorem Y5l (c : Cube) (l : List Cube) (most : Int) : (Z56 c l most).2.2 = 0 ∨ Z56 c l most = (Z4h, false, 5) := by
 unfold Z56
 cases decide ((Zel c l most).2.2 < 0)
 ·exact .inl rfl
 ·exact .inr rfl
def Z4d (most : Int) : List Rule → List Rule → List Rule × Int
 | [], kept => (kept, 0)
 | r :: l, kept => bif decide ((Z56 r.Cube (kept.map (·.Cube)) most).2.2 ≠ 0) then ([], 5) else bif (Z56 r.Cube (kept.map (·.Cube)) most).2.1 then Z4d most l (kept ++ [r]) else Z4d most l kept
theorem Y55 (l : List Rule) (h : ∀ r ∈ l, r.Atoms.length ≤ 1000000) : ∀ (m i : Nat), i + m = l.length → Zb3 m i l = some l
 | 0, i, _ => by rw [Zb3]
 | m + 1, i, hi => by
  have hlim : lim = 4294967296 := rfl
  have hlt : i < l.length := by omega
  have ha := h l[i] (List.getElem_mem hlt)
  have e : List.set l ((i : Int)).toNat { l[i] with Atoms := l[i].Atoms } = l := by
   rw [Int.toNat_natCast]; exact List.set_getElem_self hlt
  rw [Zb3, Z37 hlt, Option.bind_some]
  unfold Zd9
  rw [Z23 (by simp; omega), Option.bind_some, Option.bind_some, List.nil_append, e]
  exact Y55 l h m (i + 1) (by omega)
theorem Yo7 (l : List Rule) (hl : l.length ≤ 1000000) (h : ∀ r ∈ l, r.Atoms.length ≤ 1000000) : Zjj l = some l := by
 have hlim : lim = 4294967296 := rfl
 unfold Zjj Zmv
 rw [Z23 (by simp; omega), Option.bind_some, List.nil_append, show ((l.length : Int)).toNat = l.length by omega]
 exact Y55 l h l.length 0 (by omega)
theorem Zql (most : Int) (hm : most ≤ 9223372036854775807) : ∀ (l : List Rule) (i : Nat) (kept : List Rule), kept.length + l.length ≤ 1000000 → (∀ r ∈ kept, r.Atoms.length ≤ 1000000) → (∀ r ∈ l, r.Atoms.length ≤ 1000000) →
  Z9n most l i kept (kept.map (·.Cube)) = some (Z4d most l kept)
 | [], i, kept, h, h1, _ => by
  rw [Z9n, Yo7 kept (by simpa using h) h1]; rfl
 | r :: l, i, kept, h, h1, h2 => by
  have hlim : lim = 4294967296 := rfl
  simp only [List.length_cons] at h
  rw [Z9n, Yam _ _ _ hm (by simp; omega), Option.bind_some, Z4d]
  rcases Y5l r.Cube (kept.map (·.Cube)) most with he | he
  ·rw [he, decide_eq_false (by omega), cond_false, cond_false]
   cases (Z56 r.Cube (kept.map (·.Cube)) most).2.1
   ·exact Zql most hm l (i + 1) kept (by omega) h1 fun q hq => h2 q (by simp [hq])
   ·rw [Bool.not_true, cond_false, cond_true, Z23 (by simp; omega), Option.bind_some, Z23 (by simp; omega), Option.bind_some]
    have := Zql most hm l (i + 1) (kept ++ [r]) (by simp; omega) (fun q hq => by
     rcases List.mem_append.1 hq with hq | hq
     ·exact h1 q hq
     ·rw [List.mem_singleton.1 hq]; exact h2 r (by simp)) fun q hq => h2 q (by simp [hq])
    rw [List.map_append] at this
    exact this
  ·rw [he]; rfl
theorem Zme (most : Int) : ∀ (l kept : List Rule), (Z4d most l kept).2 = 0 ∨ Z4d most l kept = ([], 5)
 | [], kept => .inl rfl
 | r :: l, kept => by
  rw [Z4d]
  cases decide ((Z56 r.Cube (kept.map (·.Cube)) most).2.2 ≠ 0)
  ·cases (Z56 r.Cube (kept.map (·.Cube)) most).2.1
   ·exact Zme most l kept
   ·exact Zme most l _
  ·exact .inr rfl
theorem Zth (most : Int) : ∀ (l kept : List Rule), (Z4d most l kept).1.length ≤ kept.length + l.length ∧ ∀ r ∈ (Z4d most l kept).1, r ∈ kept ∨ r ∈ l
 | [], kept => ⟨by simp [Z4d], fun r hr => .inl hr⟩
 | r :: l, kept => by
  rw [Z4d]
  cases decide ((Z56 r.Cube (kept.map (·.Cube)) most).2.2 ≠ 0)
  ·cases (Z56 r.Cube (kept.map (·.Cube)) most).2.1
   ·have := Zth most l kept
    rw [cond_false, cond_false]
    exact ⟨by simp; omega, fun q hq => (this.2 q hq).imp id fun h => by simp [h]⟩
   ·have := Zth most l (kept ++ [r])
    rw [cond_false, cond_true]
    refine ⟨by have := this.1; simp at this ⊢; omega, fun q hq => ?_⟩
    rcases this.2 q hq with h | h
    ·rcases List.mem_append.1 h with h | h
     ·exact .inl h
     ·rw [List.mem_singleton.1 h]; exact .inr (by simp)
    ·exact .inr (by simp [h])
  ·exact ⟨by simp, fun q hq => by simp at hq⟩
end Go.Proofs.YtknpgojdkobgjaaGreat.W
namespace Go.Proofs.YtknpgojdkobgjaaGreat.W
open Go Go.Wb
end Go.Proofs.YtknpgojdkobgjaaGreat.W
namespace Go.Proofs.YtknpgojdkobgjaaGreat.W
open Go Go.Wb
theorem Y88 {l : List Group} (h : Z3f l) (i : Nat) : Z3f (l.drop i) := ⟨by have := h.1; rw [List.length_drop]; omega, fun g hg => h.2 g (List.mem_of_mem_drop hg)⟩
theorem Y3n (G : List Group) (hG : Z3f G) : ∀ (l : List Group) (i : Nat) (acc : List Group), l = G.drop i → acc.length + l.length ≤ 1000 → Zc9 G l i acc = some (acc ++ l)
 | [], i, acc, _, _ => by simp [Zc9]
 | g :: l, i, acc, h, hl => by
  have hlim : lim = 4294967296 := rfl
  have hi : i < G.length := by
   have := congrArg List.length h
   simp at this; omega
  simp only [List.length_cons] at hl
  have h2 := h
  rw [List.drop_eq_getElem_cons hi] at h2
  obtain ⟨e1, e2⟩ := List.cons.inj h2
  have hf : Z6i (G.drop i) g.ID = some g := by
   unfold Z6i
   rw [← h, List.find?_cons_of_pos (by simp)]
  rw [Zc9, Zv0 _ _ (by omega), Option.bind_some, Zj8 _ _ (Y88 hG i), hf, Option.bind_some]
  show (Z18 acc [g]).bind _ = _
  rw [Z23 (by simp; omega), Option.bind_some, Y3n G hG l (i + 1) _ e2 (by simp; omega)]
  simp
theorem Y80 (G : List Group) (hG : Z3f G) : Zil G = some G := by
 unfold Zil
 have h9 := hG.1
 exact Y3n G hG G 0 [] rfl (by simp; omega)
structure SW (s : Switch) : Prop where
 lt : Z99 s
 G : Z3f s.Groups
 I : ∀ i, i < 4 → ∀ f ∈ Z0b s i, f.Insts.length ≤ 100000 ∧ f.Match.length ≤ 100000
 most : Z6x s 4 0 ≤ 6561
theorem Ynz {s : Switch} {m : Nat} (h : Z9g s (m : Int) = true) (hm : m ≤ 8) : SW s := ⟨Yic h (by omega), (Zjw h).2, Yj2 h, by
 have h1 := Ya0 s 8 fun i hi => by have := ((Zjw h).1 i hi).1; omega
 omega⟩
theorem SW.len {s : Switch} (h : SW s) : (Z4k s).length ≤ 6561 := Nat.le_trans (Zzf s) h.most
theorem SW.walk {s : Switch} (h : SW s) : Zhu s = some (Z4k s) := Y6q s h.lt (by have := h.most; have hlim : lim = 4294967296 := rfl; omega)
def Z6g (s : Switch) (most : Int) : List Rule × Int := Z4d most (Z4k s) []
def Z1j (s : Switch) (most : Int) : Flat × Int := bif decide ((Z6g s most).2 ≠ 0) then (⟨[], []⟩, 5) else (⟨(Z6g s most).1, s.Groups⟩, 0)
theorem Yhj (s : Switch) (h : SW s) (most : Int) (hm : most ≤ 9223372036854775807) : Zo0 (Z4k s) most = some (Z6g s most) := by
 have h1 := h.len
 have h2 := Zz6 s h.lt
 exact Zql most hm (Z4k s) 0 [] (by simp; omega) (by simp) fun r hr => by have := h2 r hr; omega
theorem Yc6 (s : Switch) (h : SW s) (most : Int) (hm : most ≤ 9223372036854775807) : Zi1 s most = some (Z1j s most) := by
 unfold Zi1 Z1j
 rw [h.walk, Option.bind_some, Yhj s h most hm, Option.bind_some]
 rcases Zme most (Z4k s) [] with he | he
 ·rw [show (Z6g s most).2 = 0 from he, decide_eq_false (by omega), cond_false, cond_false, Y80 _ h.G]; rfl
 ·rw [show Z6g s most = ([], 5) from he]; rfl
theorem Zz5 (s : Switch) (h : SW s) (most : Int) : (Z1j s most).1.Rules.length ≤ 6561 ∧ (∀ r ∈ (Z1j s most).1.Rules, r.Atoms.length ≤ 1000) ∧ Z3f (Z1j s most).1.Groups := by
 unfold Z1j
 cases decide ((Z6g s most).2 ≠ 0)
 ·have h1 := Zth most (Z4k s) []
  have h2 := h.len
  refine ⟨?_, fun r hr => ?_, h.G⟩
  ·have := h1.1
   simp at this
   show (Z4d most (Z4k s) []).1.length ≤ _
   omega
  ·rcases h1.2 r hr with h3 | h3
   ·simp at h3
   ·exact Zz6 s h.lt r h3
 ·exact ⟨by simp, fun r hr => by simp at hr, ⟨by simp, fun g hg => by simp at hg⟩⟩
end Go.Proofs.YtknpgojdkobgjaaGreat.W
namespace Go.Proofs.YtknpgojdkobgjaaGreat.W
open Go Go.Wb
structure Z1p where
 h : Header
 set : List Action
 out : List Out
def Zoq (G : Int → Header → List Out) (p : Z1p) (l : List Action) : Z1p := ⟨(doA G l [] p.h).2, p.set, p.out ++ (doA G l [] p.h).1⟩
def Z5z (G : Int → Header → List Out) (p : Z1p) (l : List Inst) : Z1p := match ofI l 4 with
 | some i => Zoq G p i.Acts
 | none => p
def Z60 (p : Z1p) (l : List Inst) : Z1p := match ofI l 5 with
 | some _ => { p with set := [] }
 | none => p
def Z6a (p : Z1p) (l : List Inst) : Z1p := match ofI l 3 with
 | some i => { p with set := i.Acts.foldl wr1 p.set }
 | none => p
def Z6j (p : Z1p) (l : List Inst) : Z1p := match ofI l 2 with
 | some i => { p with h := Z11 (Z4c Z2d 1 i.Value i.Mask) p.h }
 | none => p
def sdo (G : Int → Header → List Out) (p : Z1p) (l : List Inst) : Z1p := Z6j (Z6a (Z60 (Z5z G p l) l) l) l
def Zhk (G : Int → Header → List Out) (p : Z1p) : Z1p := Zoq G p (Z5i p.set)
def bdG (G : Int → Header → List Out) : Prop := ∀ id h, (G id h).length ≤ 6561
theorem Zpw (l : List Group) (e : Env) (hl : Z3f l) : bdG (goG l e 8) := fun id h => Zkw l e hl 8 id h
theorem Y45 {G : Int → Header → List Out} (hG : bdG G) (l : List Action) (h : Header) : (doA G l [] h).1.length ≤ l.length * 6561 :=
 Nat.le_trans (Zn9 G 6561 (by omega) hG l h) (Nat.mul_le_mul_right _ (Zm4 l))
theorem Zwp {G : Int → Header → List Out} (hG : bdG G) (p : Z1p) {l : List Inst} (hl : Z6n l) : (Z5z G p l).out.length ≤ p.out.length + 78732 ∧ (Z5z G p l).set = p.set := by
 unfold Z5z
 split
 ·rename_i i hi
  have h1 := hl i (Zbk hi)
  have h2 := Y45 hG i.Acts p.h
  refine ⟨?_, rfl⟩
  show (p.out ++ _).length ≤ _
  rw [List.length_append]; omega
 ·exact ⟨by omega, rfl⟩
theorem Y2v (p : Z1p) (l : List Inst) : (Z60 p l).out = p.out ∧ (Z60 p l).set.length ≤ p.set.length := by
 unfold Z60
 split
 ·exact ⟨rfl, by simp⟩
 ·exact ⟨rfl, by omega⟩
theorem Y7z (p : Z1p) {l : List Inst} (hl : Z6n l) : (Z6a p l).out = p.out ∧ (Z6a p l).set.length ≤ p.set.length + 12 := by
 unfold Z6a
 split
 ·rename_i i hi
  have h1 := hl i (Zbk hi)
  have h2 := Zic i.Acts p.set
  exact ⟨rfl, by show (i.Acts.foldl wr1 p.set).length ≤ _; omega⟩
 ·exact ⟨rfl, by omega⟩
theorem Yf9 (p : Z1p) (l : List Inst) : (Z6j p l).out = p.out ∧ (Z6j p l).set = p.set := by
 unfold Z6j
 split
 ·exact ⟨rfl, rfl⟩
 ·exact ⟨rfl, rfl⟩
theorem Yar {G : Int → Header → List Out} (hG : bdG G) (p : Z1p) {l : List Inst} (hl : Z6n l) : (sdo G p l).out.length ≤ p.out.length + 78732 ∧ (sdo G p l).set.length ≤ p.set.length + 12 := by
 have h1 := Zwp hG p hl
 have h2 := Y2v (Z5z G p l) l
 have h3 := Y7z (Z60 (Z5z G p l) l) hl
 have h4 := Yf9 (Z6a (Z60 (Z5z G p l) l) l) l
 unfold sdo
 refine ⟨?_, ?_⟩
 ·rw [h4.1, h3.1, h2.1]; exact h1.1
 ·rw [h4.2]
  have := h3.2
  have := h2.2
  rw [h1.2] at this
  omega
def Z70 (s : Switch) (G : Int → Header → List Out) : Nat → Nat → Z1p → List Place → Z1p × List Place
 | 0, _, p, q => (p, q)
 | d + 1, at_, p, q => match Z8d (Z0b s at_) p.h with
  | none => (p, q ++ [⟨(at_ : Int), -1⟩])
  | some i => match (Z0b s at_)[i.toNat]? with
   | none => (p, q)
   | some f => match Z2b at_ f.Insts with
    | some n => Z70 s G d n (sdo G p f.Insts) (q ++ [⟨(at_ : Int), i⟩])
    | none => (Zhk G (sdo G p f.Insts), q ++ [⟨(at_ : Int), i⟩])
theorem Zuy {s : Switch} {G : Int → Header → List Out} {d at_ : Nat} {p : Z1p} {q : List Place} (h : Z8d (Z0b s at_) p.h = none) : Z70 s G (d + 1) at_ p q = (p, q ++ [⟨(at_ : Int), -1⟩]) := by
 rw [Z70, h]
theorem Y4x {s : Switch} {G : Int → Header → List Out} {d at_ k : Nat} {p : Z1p} {q : List Place} (h : Z8d (Z0b s at_) p.h = some (k : Int)) (hk : k < (Z0b s at_).length) : Z70 s G (d + 1) at_ p q = match Z2b at_ (Z0b s at_)[k].Insts with
  | some n => Z70 s G d n (sdo G p (Z0b s at_)[k].Insts) (q ++ [⟨(at_ : Int), (k : Int)⟩])
  | none => (Zhk G (sdo G p (Z0b s at_)[k].Insts), q ++ [⟨(at_ : Int), (k : Int)⟩]) := by
 rw [Z70, h]
 simp only
 rw [Int.toNat_natCast, List.getElem?_eq_getElem hk]
def Zxh (at_ : Nat) (p : Z1p) (q : List Place) : Prop := p.out.length ≤ 78732 * at_ ∧ p.set.length ≤ 12 * at_ ∧ q.length ≤ at_
def sst (s : Switch) (e : Env) (p : Z1p) (q : List Place) : Z2k := ⟨s, e, p.h, p.set, p.out, q⟩
theorem Y00 (s : Switch) (e : Env) (hG : Z3f s.Groups) (p : Z1p) (q : List Place) (l : List Action) (hl : l.length ≤ 100) (hp : p.out.length ≤ 1000000) : Zb0 (sst s e p q) l = some (sst s e (Zoq (goG s.Groups e 8) p l) q) := by
 have hlim : lim = 4294967296 := rfl
 have hb := Y45 (Zpw s.Groups e hG) l p.h
 unfold Zb0
 show (Zg7 s.Groups e l p.h).bind _ = _
 rw [Ykj _ _ _ _ hG hl, Option.bind_some]
 show (Z18 p.out (doA (goG s.Groups e 8) l [] p.h).1).bind _ = _
 rw [Z23 (by omega)]; rfl
theorem Yk7 (s : Switch) (e : Env) (hG : Z3f s.Groups) (p : Z1p) (q : List Place) (at_ : Nat) (l : List Inst) (hl : Z6n l) (hp : p.out.length ≤ 500000) (hs : p.set.length ≤ 100) :
  ∃ X : Int, Zf3 (sst s e p q) (at_ : Int) l = some (match Z2b at_ l with | some n => ((n : Int), true, sst s e (sdo (goG s.Groups e 8) p l) q) | none => (X, false, sst s e (sdo (goG s.Groups e 8) p l) q)) := by
 have hlim : lim = 4294967296 := rfl
 have hbG := Zpw s.Groups e hG
 have j4 : ∃ X : Int, ∀ b : Z1p, Zcd l (at_ : Int) b.out q s e b.h b.set = some (match Z2b at_ l with | some n => ((n : Int), true, sst s e b q) | none => (X, false, sst s e b q)) := by
  cases hi : ofI l 1 with
  | none =>
   refine ⟨0, fun b => ?_⟩
   unfold Zcd
   rw [Z81 l 1 hl, Option.bind_some, Zy6 hi, hi]; rfl
  | some i =>
   refine ⟨i.Table, fun b => ?_⟩
   unfold Zcd
   rw [Z81 l 1 hl, Option.bind_some, hi]
   show some (i.Table, ((true && decide (i.Table > (at_ : Int))) && decide (i.Table < 4)), sst s e b q) = _
   rw [Bool.true_and]
   by_cases hc : i.Table > (at_ : Int) ∧ i.Table < 4
   ·have hd : (decide (i.Table > (at_ : Int)) && decide (i.Table < 4)) = true := by
     rw [Bool.and_eq_true, decide_eq_true_eq, decide_eq_true_eq]; exact hc
    have : ((i.Table.toNat : Nat) : Int) = i.Table := by omega
    rw [Zzl hi hc, hd]
    simp [this]
   ·have hd : (decide (i.Table > (at_ : Int)) && decide (i.Table < 4)) = false := by
     rw [Bool.and_eq_false_iff, decide_eq_false_iff_not, decide_eq_false_iff_not]; omega
    rw [Zz3 hi hc, hd]
 obtain ⟨X, j4⟩ := j4
 refine ⟨X, ?_⟩
 have j3 : ∀ b : Z1p, Zht l (at_ : Int) b.out q s e b.h b.set = some (match Z2b at_ l with | some n => ((n : Int), true, sst s e (Z6j b l) q) | none => (X, false, sst s e (Z6j b l) q)) := fun b => by
  unfold Zht
  rw [Z81 l 2 hl, Option.bind_some, ← j4 (Z6j b l)]
  unfold Z6j
  cases hi : ofI l 2 with
  | none => rfl
  | some i =>
   simp only [Z3k, cond_true]
   rw [show Z9j = some Z2d from rfl, Option.bind_some, Zdt, Option.bind_some, Ztq]; rfl
 have j2 : ∀ b : Z1p, b.set.length ≤ 200 → Zhv l (at_ : Int) b.out q s e b.h b.set = some (match Z2b at_ l with | some n => ((n : Int), true, sst s e (Z6j (Z6a b l) l) q) | none => (X, false, sst s e (Z6j (Z6a b l) l) q)) := fun b h2 => by
  unfold Zhv
  rw [Z81 l 3 hl, Option.bind_some, ← j3 (Z6a b l)]
  unfold Z6a
  cases hi : ofI l 3 with
  | none => rfl
  | some i =>
   have := hl i (Zbk hi)
   simp only [Z3k, cond_true]
   rw [Znu _ _ (by omega)]; rfl
 have j1 : ∀ b : Z1p, b.set.length ≤ 200 → Zhe l (at_ : Int) b.out q s e b.h b.set = some (match Z2b at_ l with | some n => ((n : Int), true, sst s e (Z6j (Z6a (Z60 b l) l) l) q) | none => (X, false, sst s e (Z6j (Z6a (Z60 b l) l) l) q)) := fun b h2 => by
  have b5 := Y2v b l
  unfold Zhe
  rw [Z81 l 5 hl, Option.bind_some, ← j2 (Z60 b l) (by have := b5.2; omega)]
  unfold Z60
  cases hi : ofI l 5 with
  | none => rfl
  | some i => rfl
 unfold Zf3
 rw [Z81 l 4 hl, Option.bind_some]
 have := j1 (Z5z (goG s.Groups e 8) p l) (by rw [(Zwp hbG p hl).2]; omega)
 unfold sdo
 rw [← this]
 unfold Z5z
 cases hi : ofI l 4 with
 | none => rfl
 | some i =>
  have := hl i (Zbk hi)
  simp only [Z3k, cond_true]
  show (Zb0 (sst s e p q) i.Acts).bind _ = _
  rw [Y00 s e hG p q i.Acts (by omega) (by omega)]; rfl
theorem Y42 (s : Switch) (e : Env) (hs : Z99 s) (hG : Z3f s.Groups) : ∀ (d at_ m : Nat) (p : Z1p) (q : List Place), 4 ≤ at_ + d → at_ < 4 → d ≤ m → Zxh at_ p q →
  Zdv m p.out q s e p.h p.set (at_ : Int) = some (sst s e (Z70 s (goG s.Groups e 8) d at_ p q).1 (Z70 s (goG s.Groups e 8) d at_ p q).2)
 | 0, at_, m, p, q, h0, h1, _, _ => by omega
 | d + 1, at_, 0, p, q, _, _, h2, _ => by omega
 | d + 1, at_, m + 1, p, q, h1, ha, h2, hb => by
  have hlim : lim = 4294967296 := rfl
  have hl := hs at_ ha
  have b0 := hb.1
  have b1 := hb.2.1
  have b2 := hb.2.2
  rw [Zdv, Z3j ha, Option.bind_some, Zk4, Yns _ _ hl.1, Option.bind_some]
  cases hf : Z8d (Z0b s at_) p.h with
  | none =>
   rw [Zuy hf]
   simp only [Z3k, Bool.not_false, cond_true]
   rw [Z23 (by simp; omega)]; rfl
  | some i =>
   obtain ⟨k, hk, rfl, _⟩ := Y4v hf
   rw [Y4x hf hk]
   simp only [Z3k, Bool.not_true, cond_false]
   rw [Z23 (by simp; omega), Option.bind_some, Option.bind_some, Zk4, Z37 hk, Option.bind_some]
   have hli := hl.2 _ (List.getElem_mem hk)
   obtain ⟨X, hX⟩ := Yk7 s e hG p (q ++ [⟨(at_ : Int), (k : Int)⟩]) at_ _ hli (by omega) (by omega)
   have bd := Yar (Zpw s.Groups e hG) p hli
   show (Zf3 (sst s e p (q ++ [⟨(at_ : Int), (k : Int)⟩])) (at_ : Int) (Z0b s at_)[k].Insts).bind _ = _
   rw [hX, Option.bind_some]
   generalize sdo (goG s.Groups e 8) p (Z0b s at_)[k].Insts = P at *
   generalize hQ : q ++ [(⟨(at_ : Int), (k : Int)⟩ : Place)] = Q at *
   have hQl : Q.length = q.length + 1 := by rw [← hQ]; simp
   cases hn : Z2b at_ (Z0b s at_)[k].Insts with
   | some n =>
    have hnb := Zp6 hn
    simp only [Bool.not_true, cond_false]
    exact Y42 s e hs hG d n m P Q (by omega) (by omega) (by omega) ⟨by omega, by omega, by omega⟩
   | none =>
    simp only [Bool.not_false, cond_true]
    have hls := Zti P.set
    have h5 := Y2r P.set (by omega)
    have h6 := Y00 s e hG P Q (Z5i P.set) (by omega) (by omega)
    show ((Z7d P.set).bind fun x35 => (Zb0 (sst s e P Q) x35).bind fun b36 => some b36) = _
    rw [h5, Option.bind_some, h6, Option.bind_some]; rfl
def Z8r (h : Header) : Z1p := ⟨h, [], []⟩
def Zj6 (s : Switch) (e : Env) (h : Header) : Z1p × List Place := Z70 s (goG s.Groups e 8) 4 0 (Z8r h) []
theorem Yah (h : Header) : Zxh 0 (Z8r h) [] := ⟨by simp [Z8r], by simp [Z8r], by simp⟩
theorem Y9b (s : Switch) (e : Env) (h : Header) (hs : Z99 s) (hG : Z3f s.Groups) : Zko s e h = some (Zj6 s e h).1.out := by
 unfold Zko Zmh
 have := Y42 s e hs hG 4 0 Z0l (Z8r h) [] (by omega) (by omega) (by unfold Z0l; omega) (Yah h)
 show (Zdv Z0l (Z8r h).out [] s e (Z8r h).h (Z8r h).set ((0 : Nat) : Int)).bind _ = _
 rw [this]; rfl
end Go.Proofs.YtknpgojdkobgjaaGreat.W
namespace Go.Proofs.YtknpgojdkobgjaaGreat.W
open Go Go.Wb
theorem Zmo {r c b : Cube} (h : Z5o r c = some b) (v : Header) : Zt b v = true ↔ Zt c (Z11 r v) = true := by
 unfold Z5o at h
 cases ha : (List.range 24).all (fun i => (Z3x (ve r i) (ve c i)).isSome)
 ·rw [ha] at h; cases h
 ·rw [ha, cond_true] at h
  rw [List.all_eq_true] at ha
  obtain rfl := Option.some.inj h
  rw [Z42, Z42]
  have key : ∀ f, f < 24 → (Z3g (ve (Vector.ofFn fun i : _root_.Fin 24 => Z1g ⟨(ve c i.1).Value, Z4a (ve c i.1).Mask (ve r i.1).Mask⟩) f) (ve v f) = true ↔ Z3g (ve c f) (ve (Z11 r v) f) = true) := fun f hf => by
   rw [Z7m (fun i => Z1g ⟨(ve c i).Value, Z4a (ve c i).Mask (ve r i).Mask⟩) f hf, Zpx, Z6k _ _ _ hf, Z3o, Z3o]
   have h1 := Zzg (ha f (by simpa using hf))
   constructor
   ·intro h2 k hk hm
    have h3 := h2 k hk
    have h4 := h1 k hk
    simp only [Z4v _ _ _ hk, Z5n, Z2y] at h3 ⊢
    revert h3 h4
    rw [hm]
    cases wt (ve r f).Mask k <;> cases wt (ve r f).Value k <;> cases wt (ve c f).Value k <;> cases wt (ve v f) k <;> simp
   ·intro h2 k hk hm
    have h3 := h2 k hk
    have h4 := h1 k hk
    simp only [Z4v _ _ _ hk, Z5n, Z2y] at h3 hm
    revert h3 h4 hm
    cases wt (ve c f).Mask k <;> cases wt (ve r f).Mask k <;> cases wt (ve r f).Value k <;> cases wt (ve c f).Value k <;> cases wt (ve v f) k <;> simp
  exact ⟨fun h2 f hf => (key f hf).1 (h2 f hf), fun h2 f hf => (key f hf).2 (h2 f hf)⟩
theorem Zz2 {r c : Cube} (h : Z5o r c = none) (v : Header) (hc : Zt c (Z11 r v) = true) : False := by
 unfold Z5o at h
 cases ha : (List.range 24).all (fun i => (Z3x (ve r i) (ve c i)).isSome)
 ·rw [List.all_eq_false] at ha
  obtain ⟨f, hf, h1⟩ := ha
  have hf : f < 24 := by simpa using hf
  have h2 := (Z42 _ _).1 hc f hf
  rw [Z6k _ _ _ hf, Z3o] at h2
  unfold Z3x at h1
  cases hz : Z3u (Z27 (Z6v (ve r f).Value (ve c f).Value) (Z27 (ve r f).Mask (ve c f).Mask))
  ·obtain ⟨k, hk, h3⟩ := Zvf hz
   have h4 := h2 k hk
   simp only [Z4v _ _ _ hk, Z5n, Z2y, Zd7] at h3 h4
   revert h3 h4
   cases wt (ve c f).Mask k <;> cases wt (ve r f).Mask k <;> cases wt (ve r f).Value k <;> cases wt (ve c f).Value k <;> cases wt (ve v f) k <;> simp
  ·rw [hz] at h1; simp at h1
 ·rw [ha] at h; cases h
theorem Zuu {w x : walk_way} {f : Flow} (h : Z6h w f = some x) (h0 : Header) : x = { w with cube := x.cube } ∧ (Zt x.cube h0 = true ↔ Zt (Z8h f) (Z11 w.got h0) = true ∧ Zt w.cube h0 = true) := by
 unfold Z6h at h
 obtain ⟨b, h1, h2⟩ := Option.bind_eq_some_iff.1 h
 obtain ⟨c, h3, h4⟩ := Option.map_eq_some_iff.1 h2
 subst h4
 exact ⟨rfl, by rw [Y0i h3, Zmo h1]⟩
theorem Yeg {w : walk_way} {f : Flow} (h : Z6h w f = none) (h0 : Header) (h1 : Zt (Z8h f) (Z11 w.got h0) = true) (h2 : Zt w.cube h0 = true) : False := by
 unfold Z6h at h
 cases hb : Z5o w.got (Z8h f) with
 | none => exact Zz2 hb h0 h1
 | some b =>
  rw [hb, Option.bind_some, Option.map_eq_none_iff] at h
  exact Zqg h h0 ((Zmo hb h0).2 h1) h2
theorem Y4k (h : Header) : Z11 Z2d h = h := Z7f fun f hf => by
 rw [Z6k _ _ _ hf]
 unfold Z2d
 rw [Zqf _ _ hf]
 exact Zbo fun k hk => by
  simp only [Z5n, Z4v _ _ _ hk, Z2y]
  have : wt zTern.Mask k = false := Zra k
  rw [this]; simp
theorem Ykk (h : Header) : Zt Z2d h = true := (Z42 _ _).2 fun f hf => (Z3o _ _).2 fun k hk hm => by
 unfold Z2d at hm
 rw [Zqf _ _ hf] at hm
 have : wt zTern.Mask k = false := Zra k
 rw [this] at hm; cases hm
theorem Zzh (r : Cube) (v m : Wide) (f : Nat) (hf : f < 24) : ve (Z4c r 1 v m) f = if f = 1 then Z4y (Z1g (ve r 1)) ⟨v, m⟩ else Z1g (ve r f) := by
 unfold Z4c
 rw [show (decide ((1 : Int) ≥ 0) && decide ((1 : Int) < 24)) = true from rfl, cond_true, Z7m (fun i => if (1 : Int).toNat = i then Z4y (ve (Z0i r) (1 : Int).toNat) ⟨v, m⟩ else ve (Z0i r) i) f hf]
 show (if 1 = f then Z4y (ve (Z0i r) 1) ⟨v, m⟩ else ve (Z0i r) f) = _
 by_cases h : f = 1
 ·subst h
  rw [if_pos rfl, if_pos rfl, Za7 _ _ hf]
 ·rw [if_neg (fun e => h e.symm), if_neg h, Za7 _ _ hf]
theorem Yex (r : Cube) (v m : Wide) (h : Header) : Z11 (Z4c r 1 v m) h = Z11 (Z4c Z2d 1 v m) (Z11 r h) := Z7f fun f hf => by
 rw [Z6k _ _ _ hf, Z6k _ _ _ hf, Z6k _ _ _ hf, Zzh _ _ _ _ hf, Zzh _ _ _ _ hf]
 have z1 : ∀ k, wt (ve Z2d f).Mask k = false := fun k => by
  unfold Z2d
  rw [Zqf _ _ hf]; exact Zra k
 by_cases h1 : f = 1
 ·subst h1
  rw [if_pos rfl, if_pos rfl]
  unfold Z4y Z1g
  exact Zbo fun k hk => by
   simp only [Z2y, Z5n, Z4v _ _ _ hk, z1]
   cases wt (ve h 1) k <;> cases wt (ve r 1).Value k <;> cases wt (ve r 1).Mask k <;> cases wt v k <;> cases wt m k <;> simp
 ·rw [if_neg h1, if_neg h1]
  unfold Z1g
  exact Zbo fun k hk => by
   simp only [Z2y, Z5n, Z4v _ _ _ hk, z1]
   cases wt (ve h f) k <;> cases wt (ve r f).Value k <;> cases wt (ve r f).Mask k <;> simp
structure RW (G : Int → Header → List Out) (h0 : Header) (w : walk_way) (p : Z1p) : Prop where
 h : p.h = Z11 w.got h0
 set : p.set = w.set
 out : p.out = w.atoms.flatMap (Z5a G h0)
theorem RW.act {G : Int → Header → List Out} {h0 : Header} {w : walk_way} {p : Z1p} (h : RW G h0 w p) (l : List Action) : RW G h0 (Znr w l) (Zoq G p l) := by
 have e : doA G l [] p.h = ((doT l (Z0i w.got)).1.flatMap (Z5a G h0), Z11 (doT l (Z0i w.got)).2 h0) := by
  rw [h.h, ← Zqs, Zjb]
 refine ⟨?_, h.set, ?_⟩
 ·show (doA G l [] p.h).2 = _
  rw [e]; rfl
 ·show p.out ++ (doA G l [] p.h).1 = (w.atoms ++ (doT l (Z0i w.got)).1).flatMap (Z5a G h0)
  rw [e, h.out, List.flatMap_append]
theorem RW.do_ {G : Int → Header → List Out} {h0 : Header} {w : walk_way} {p : Z1p} (h : RW G h0 w p) (l : List Inst) : RW G h0 (wdo w l) (sdo G p l) := by
 have h1 : RW G h0 (Z4j w l) (Z5z G p l) := by
  unfold Z4j Z5z
  cases ofI l 4 with
  | none => exact h
  | some i => exact h.act _
 have h2 : RW G h0 (Z4s (Z4j w l) l) (Z60 (Z5z G p l) l) := by
  unfold Z4s Z60
  cases ofI l 5 with
  | none => exact h1
  | some i => exact ⟨h1.h, rfl, h1.out⟩
 have h3 : RW G h0 (Z58 (Z4s (Z4j w l) l) l) (Z6a (Z60 (Z5z G p l) l) l) := by
  unfold Z58 Z6a
  cases ofI l 3 with
  | none => exact h2
  | some i => exact ⟨h2.h, by show i.Acts.foldl wr1 _ = i.Acts.foldl wr1 _; rw [h2.set], h2.out⟩
 unfold wdo sdo
 generalize Z58 (Z4s (Z4j w l) l) l = w' at *
 generalize Z6a (Z60 (Z5z G p l) l) l = p' at *
 unfold Z5r Z6j
 cases ofI l 2 with
 | none => exact h3
 | some i => exact ⟨by show Z11 _ p'.h = Z11 (Z4c w'.got 1 i.Value i.Mask) h0; rw [Yex w'.got, h3.h], h3.set, h3.out⟩
theorem RW.end_ {G : Int → Header → List Out} {h0 : Header} {w : walk_way} {p : Z1p} (h : RW G h0 w p) : RW G h0 (Z5m w) (Zhk G p) := by
 unfold Z5m Zhk
 rw [h.set]; exact h.act _
theorem Zgu (w : walk_way) (l : List Inst) : (wdo w l).cube = w.cube := by
 unfold wdo Z5r Z58 Z4s Z4j
 cases ofI l 2 <;> cases ofI l 3 <;> cases ofI l 5 <;> cases ofI l 4 <;> rfl
theorem Zw7 (s : Switch) (h0 : Header) : ∀ (d at_ : Nat) (w : walk_way), Zt w.cube h0 = false → ∀ r ∈ Z2r s d at_ w, Zt r.Cube h0 = false
 | 0, at_, w, h, r, hr => by
  rw [Z2r, List.mem_singleton] at hr
  rw [hr]; exact h
 | d + 1, at_, w, h, r, hr => by
  rw [Z2r] at hr
  rcases List.mem_append.1 hr with hr | hr
  ·obtain ⟨i, hi, hr⟩ := List.mem_flatMap.1 hr
   unfold Z5q at hr
   split at hr
   ·cases hr
   ·rename_i f hf
    split at hr
    ·cases hr
    ·rename_i x hx
     have hc : Zt x.cube h0 = false := by
      have := (Zuu hx h0).2
      cases hq : Zt x.cube h0
      ·rfl
      ·have := (this.1 hq).2
       rw [h] at this; cases this
     split at hr
     ·exact Zw7 s h0 d _ _ (by rw [Zgu]; exact hc) r hr
     ·rw [List.mem_singleton] at hr
      rw [hr]
      show Zt (wdo x f.Insts).cube h0 = false
      rw [Zgu]; exact hc
  ·rw [List.mem_singleton] at hr
   rw [hr]; exact h
theorem Y04 {h : Header} {l : List Rule} (hl : ∀ r ∈ l, Zt r.Cube h = false) : l.find? (Z31 h) = none := List.find?_eq_none.2 fun r hr => by
 unfold Z31; rw [hl r hr]; simp
theorem Y33 (s : Switch) (G : Int → Header → List Out) (h0 : Header) : ∀ (d at_ : Nat) (w : walk_way) (p : Z1p) (q : List Place), RW G h0 w p → Zt w.cube h0 = true →
  ∃ r, (Z2r s d at_ w).find? (Z31 h0) = some r ∧ r.Atoms.flatMap (Z5a G h0) = (Z70 s G d at_ p q).1.out
 | 0, at_, w, p, q, h, hc => by
  refine ⟨Z57 w, ?_, h.out.symm⟩
  rw [Z2r, List.find?_cons_of_pos (by exact hc)]
 | d + 1, at_, w, p, q, h, hc => by
  have ih := Y33 s G h0 d
  have hw : (Z31 h0) (Z57 w) = true := hc
  -- one flow
  have one : ∀ k : Nat, ∀ hk : k < (Z0b s at_).length, (Z9l (Z0b s at_) p.h (k : Int) = false → (Z5q (Z2r s d) (Z0b s at_) at_ w (k : Int)).find? (Z31 h0) = none) ∧
    (Z9l (Z0b s at_) p.h (k : Int) = true → ∃ r, (Z5q (Z2r s d) (Z0b s at_) at_ w (k : Int)).find? (Z31 h0) = some r ∧ r.Atoms.flatMap (Z5a G h0) = (match Z2b at_ (Z0b s at_)[k].Insts with
     | some n => Z70 s G d n (sdo G p (Z0b s at_)[k].Insts) (q ++ [(⟨(at_ : Int), (k : Int)⟩ : Place)])
     | none => (Zhk G (sdo G p (Z0b s at_)[k].Insts), q ++ [(⟨(at_ : Int), (k : Int)⟩ : Place)])).1.out) := fun k hk => by
   rw [Zma hk]
   have hrule : Z5q (Z2r s d) (Z0b s at_) at_ w (k : Int) = match Z6h w (Z0b s at_)[k] with
     | none => []
     | some x => match Z2b at_ (Z0b s at_)[k].Insts with
      | some n => Z2r s d n (wdo x (Z0b s at_)[k].Insts)
      | none => [Z57 (Z5m (wdo x (Z0b s at_)[k].Insts))] := by
    unfold Z5q
    rw [Int.toNat_natCast, List.getElem?_eq_getElem hk] <;> rfl
   rw [hrule]
   generalize (Z0b s at_)[k] = f
   cases hm : Z6h w f with
   | none =>
    refine ⟨fun _ => rfl, fun h1 => ?_⟩
    rw [h.h] at h1
    exact (Yeg hm h0 h1 hc).elim
   | some x =>
    have hx := Zuu hm h0
    have hrx : RW G h0 x p := by rw [hx.1]; exact ⟨h.h, h.set, h.out⟩
    refine ⟨fun h1 => ?_, fun h1 => ?_⟩
    ·have hxc : Zt x.cube h0 = false := by
      cases hq : Zt x.cube h0
      ·rfl
      ·have := (hx.2.1 hq).1
       rw [← h.h, h1] at this; cases this
     simp only
     cases Z2b at_ f.Insts with
     | some n => exact Y04 (Zw7 s h0 d n _ (by rw [Zgu]; exact hxc))
     | none =>
      refine Y04 fun r hr => ?_
      rw [List.mem_singleton.1 hr]
      show Zt (wdo x f.Insts).cube h0 = false
      rw [Zgu]; exact hxc
    ·have hxc : Zt x.cube h0 = true := hx.2.2 ⟨by rw [← h.h]; exact h1, hc⟩
     simp only
     cases Z2b at_ f.Insts with
     | some n => exact ih n _ _ _ (hrx.do_ f.Insts) (by rw [Zgu]; exact hxc)
     | none =>
      refine ⟨_, List.find?_cons_of_pos (show Z31 h0 (Z57 (Z5m (wdo x f.Insts))) = true from ?_), (hrx.do_ f.Insts).end_.out.symm⟩
      show Zt (wdo x f.Insts).cube h0 = true
      rw [Zgu]; exact hxc
  -- all
  have all : ∀ l : List Int, inT (Z0b s at_) l → match l.find? (Z9l (Z0b s at_) p.h) with
    | none => (l.flatMap (Z5q (Z2r s d) (Z0b s at_) at_ w)).find? (Z31 h0) = none
    | some i => ∃ r, (l.flatMap (Z5q (Z2r s d) (Z0b s at_) at_ w)).find? (Z31 h0) = some r ∧ ∀ k : Nat, ∀ hk : k < (Z0b s at_).length, i = (k : Int) → r.Atoms.flatMap (Z5a G h0) = (match Z2b at_ (Z0b s at_)[k].Insts with
     | some n => Z70 s G d n (sdo G p (Z0b s at_)[k].Insts) (q ++ [(⟨(at_ : Int), (k : Int)⟩ : Place)])
     | none => (Zhk G (sdo G p (Z0b s at_)[k].Insts), q ++ [(⟨(at_ : Int), (k : Int)⟩ : Place)])).1.out := fun l => by
   induction l with
   | nil => intro _; rfl
   | cons j l ihl =>
    intro hl
    obtain ⟨k, hk, rfl⟩ := hl j (by simp)
    have ihl := ihl fun j hj => hl j (by simp [hj])
    rw [List.flatMap_cons, List.find?_append]
    cases hq : Z9l (Z0b s at_) p.h (k : Int)
    ·rw [List.find?_cons_of_neg (by simp [hq]), (one k hk).1 hq, Option.none_or]
     exact ihl
    ·rw [List.find?_cons_of_pos hq]
     obtain ⟨r, hr, he⟩ := (one k hk).2 hq
     refine ⟨r, by rw [hr]; rfl, fun k' hk' e => ?_⟩
     have : k = k' := by omega
     subst this
     exact he
  have hall := all (Z85 (Z0b s at_)) fun j hj => Zmm.1 hj
  rw [Z2r, List.find?_append]
  cases hf : Z8d (Z0b s at_) p.h with
  | none =>
   rw [Zuy hf]
   unfold Z8d at hf
   rw [hf] at hall
   simp only at hall
   refine ⟨Z57 w, ?_, h.out.symm⟩
   rw [hall, Option.none_or, List.find?_cons_of_pos hw]
  | some i =>
   obtain ⟨k, hk, rfl, _⟩ := Y4v hf
   rw [Y4x hf hk]
   unfold Z8d at hf
   rw [hf] at hall
   simp only at hall
   obtain ⟨r, hr, he⟩ := hall
   exact ⟨r, by rw [hr]; rfl, he k hk rfl⟩
theorem RW0 (G : Int → Header → List Out) (h : Header) : RW G h Z6s (Z8r h) := ⟨(Y4k h).symm, rfl, rfl⟩
theorem Yk4 (s : Switch) (e : Env) (h : Header) : ∃ r, (Z4k s).find? (Z31 h) = some r ∧ r.Atoms.flatMap (Z5a (goG s.Groups e 8) h) = (Zj6 s e h).1.out :=
 Y33 s (goG s.Groups e 8) h 4 0 Z6s (Z8r h) [] (RW0 _ h) (Ykk h)
end Go.Proofs.YtknpgojdkobgjaaGreat.W
namespace Go.Proofs.YtknpgojdkobgjaaGreat.W
open Go Go.Wb
theorem Ydu {a b : Cube} (h : Z6b a b = true) {v : Header} (hv : Zt a v = true) : Zt b v = true := by
 unfold Z6b at h
 rw [List.all_eq_true] at h
 refine (Z42 _ _).2 fun f hf => ?_
 have h1 := h f (by rw [← List.range_eq_range']; simpa using hf)
 have h2 := (Z42 _ _).1 hv f hf
 unfold Zev at h1
 rw [Bool.and_eq_true] at h1
 have h3 := (Zan _).1 h1.1
 have h4 := (Z3o _ _).1 h1.2
 have h5 := (Z3o _ _).1 h2
 refine (Z3o _ _).2 fun k hk hm => ?_
 have h6 := h3 k hk
 rw [Z4v _ _ _ hk, hm, Bool.true_and, Bool.not_eq_false'] at h6
 rw [h4 k hk hm]
 exact h5 k hk h6
theorem Yhk {c : Cube} {f b : Nat} (hf : f < 24) (hb : b < 128) {h : Header} (hh : Zt c h = true) : Zt (Z52 c f (Z3c (ve c f) b (wt (ve h f) b))) h = true := by
 refine (Zy9 hf).2 ⟨fun g hg _ => (Z42 _ _).1 hh g hg, (Y1t _ _ hb _ _).2 ⟨fun k hk _ hm => (Z3o _ _).1 ((Z42 _ _).1 hh f hf) k hk hm, rfl⟩⟩
theorem Zwi (xv : Wide) (f : Nat) (hf : f < 24) (h : Header) : ∀ (l : List Int) (left : Cube), Zld l → Zt left h = true →
  (∃ p ∈ (Z34 xv f l left).1, Zt p h = true) ∨ (Zt (Z34 xv f l left).2 h = true ∧ ∀ i ∈ l, wt (ve h f) i.toNat = wt xv i.toNat)
 | [], left, _, hh => .inr ⟨hh, by simp⟩
 | i :: l, left, hl, hh => by
  obtain ⟨b, rfl, hb⟩ := hl i (by simp)
  rw [Z34, Int.toNat_natCast]
  have h1 := Yhk (f := f) hf hb hh
  by_cases hq : wt (ve h f) b = wt xv b
  ·rw [hq] at h1
   rcases Zwi xv f hf h l _ (fun j hj => hl j (by simp [hj])) h1 with ⟨p, hp, h2⟩ | ⟨h2, h3⟩
   ·exact .inl ⟨p, by simp [hp], h2⟩
   ·refine .inr ⟨h2, fun j hj => ?_⟩
    rcases List.mem_cons.1 hj with rfl | hj
    ·rw [Int.toNat_natCast]; exact hq
    ·exact h3 j hj
  ·have : wt (ve h f) b = !wt xv b := by
    cases hx : wt xv b <;> cases hy : wt (ve h f) b <;> simp_all
   rw [this] at h1
   exact .inl ⟨_, List.mem_cons_self .., h1⟩
theorem Zwg (x : Cube) (h : Header) : ∀ (m f : Nat) (left : Cube), f + m = 24 → Zt left h = true → (∀ g k, f ≤ g → g < 24 → k < 128 → wt (ve x g).Mask k = true → wt (ve left g).Mask k = true → wt (ve h g) k = wt (ve x g).Value k) →
  (∃ p ∈ Z7h x m f left, Zt p h = true) ∨ ∀ g, f ≤ g → g < 24 → Z3g (ve x g) (ve h g) = true
 | 0, f, left, hm, _, _ => .inr fun g h1 h2 => by omega
 | m + 1, f, left, hm, hh, hs => by
  have hf : f < 24 := by omega
  rw [Z7h]
  rcases Zwi (ve x f).Value f hf h (Z8x (ve x f) (ve left f)) left (Zpf _ _) hh with ⟨p, hp, h1⟩ | ⟨h1, h2⟩
  ·exact .inl ⟨p, by simp [hp], h1⟩
  ·have hx : Z3g (ve x f) (ve h f) = true := (Z3o _ _).2 fun k hk hm => by
    by_cases hl : wt (ve left f).Mask k = true
    ·exact (hs f k (Nat.le_refl _) hf hk hm hl).symm
    ·have := h2 (k : Int) ((Zac _ _ _).2 ⟨k, rfl, hk, by rw [Z4v _ _ _ hk, hm]; simpa using hl⟩)
     rw [Int.toNat_natCast] at this
     exact this.symm
   rcases Zwg x h m (f + 1) _ (by omega) h1 (fun g k h3 h4 h5 h6 h7 => hs g k (by omega) h4 h5 h6 (by rw [Y1e _ _ _ _ _ h4 (by omega)] at h7; exact h7)) with ⟨p, hp, h3⟩ | h3
   ·exact .inl ⟨p, by simp [hp], h3⟩
   ·refine .inr fun g h4 h5 => ?_
    by_cases e : g = f
    ·subst e; exact hx
    ·exact h3 g (by omega) h5
theorem Y2x {a x : Cube} (hm : Z3r a x = true) {h : Header} (h1 : Zt a h = true) (h2 : Zt x h = false) : ∃ p ∈ Z3s a x, Zt p h = true := by
 unfold Z3s
 rw [hm, cond_true]
 have hc : Zt (Z0i a) h = true := by rw [Zkp]; exact h1
 rcases Zwg x h 24 0 (Z0i a) rfl hc (fun g k _ hg hk hmx hml => by
  rw [Za7 _ _ hg] at hml
  unfold Z3r at hm
  have h3 := (Z3o _ _).1 ((Z42 _ _).1 h1 g hg) k hk hml
  -- where they meet both say the same
  cases hcm : Z53 a x with
  | none => rw [hcm] at hm; cases hm
  | some z =>
   have h4 := Zfl hcm g hg
   have h5 := Zzg (a := ve a g) (b := ve x g) (by rw [h4]; rfl) k hk
   have hml' : wt (ve a g).Mask k = true := hml
   rw [hml', hmx] at h5
   rw [← h3]
   revert h5
   cases wt (ve a g).Value k <;> cases wt (ve x g).Value k <;> simp) with h3 | h3
 ·exact h3
 ·rw [(Z42 _ _).2 fun f hf => h3 f (by omega) hf] at h2
  cases h2
theorem Zxw {R : Cube → Int → Header × Bool × Int} : ∀ (ps : List Cube) (n : Int), (Z41 R ps n).2.1 = false → 0 ≤ (Z41 R ps n).2.2 → ∀ p ∈ ps, ∃ m, (R p m).2.1 = false ∧ 0 ≤ (R p m).2.2
 | [], n, _, _, p, hp => by cases hp
 | q :: ps, n, h, h', p, hp => by
  rw [Z41] at h h'
  cases hc : (R q n).2.1 || decide ((R q n).2.2 < 0)
  ·rw [hc, cond_false] at h h'
   rw [Bool.or_eq_false_iff, decide_eq_false_iff_not] at hc
   rcases List.mem_cons.1 hp with rfl | hp
   ·exact ⟨n, hc.1, by omega⟩
   ·exact Zxw ps _ h h' p hp
  ·rw [hc, cond_true] at h h'
   rw [h, Bool.false_or, decide_eq_true_eq] at hc
   omega
theorem Zz0 (free : Bool) : ∀ (d : Nat) (c : Cube) (l : List Cube) (n : Int), (Z4w free d c l n).2.1 = false → 0 ≤ (Z4w free d c l n).2.2 → ∀ h, Zt c h = true → ∃ x ∈ l, Zt x h = true
 | 0, c, l, n, _, h', h, _ => by simp [Z4w] at h'
 | d + 1, c, l, n, h0, h', h, hc => by
  rw [Z4w] at h0 h'
  cases h1 : !free && decide (n < 1)
  ·rw [h1, cond_false] at h0 h'
   cases h2 : l.any (Z6b c)
   ·rw [h2, cond_false] at h0 h'
    cases h3 : Z5f c l 0 with
    | none => rw [h3] at h0; cases h0
    | some i =>
     obtain ⟨hi, hm, _⟩ := Y79 h3
     rw [h3] at h0 h'
     simp only [List.getElem?_eq_getElem hi] at h0 h'
     by_cases hx : Zt l[i] h = true
     ·exact ⟨_, List.getElem_mem hi, hx⟩
     ·obtain ⟨p, hp, hph⟩ := Y2x hm hc (by simpa using hx)
      obtain ⟨m, h4, h5⟩ := Zxw _ _ h0 h' p hp
      obtain ⟨y, hy, h6⟩ := Zz0 free d p (l.drop (i + 1)) m h4 h5 h hph
      exact ⟨y, List.mem_of_mem_drop hy, h6⟩
   ·obtain ⟨x, hx, h3⟩ := List.any_eq_true.1 h2
    exact ⟨x, hx, Ydu h3 hc⟩
  ·rw [h1] at h'; simp at h'
theorem Ygq {c : Cube} {l : List Cube} {most : Int} (h : (Z56 c l most).2.1 = false) (h' : (Z56 c l most).2.2 = 0) (v : Header) (hv : Zt c v = true) : ∃ x ∈ l, Zt x v = true := by
 unfold Z56 at h h'
 by_cases hn : (Zel c l most).2.2 < 0
 ·rw [decide_eq_true hn] at h'; cases h'
 ·rw [decide_eq_false hn, cond_false] at h
  exact Zz0 _ _ c l _ h (Int.not_lt.1 hn) v hv
theorem Zr6 (most : Int) (h : Header) : ∀ (l kept : List Rule), (Z4d most l kept).2 = 0 → (Z4d most l kept).1.find? (Z31 h) = (kept ++ l).find? (Z31 h)
 | [], kept, _ => by simp [Z4d]
 | r :: l, kept, h0 => by
  rw [Z4d] at h0 ⊢
  rcases Y5l r.Cube (kept.map (·.Cube)) most with he | he
  ·rw [he, decide_eq_false (by omega), cond_false] at h0 ⊢
   cases hf : (Z56 r.Cube (kept.map (·.Cube)) most).2.1
   ·rw [hf, cond_false] at h0
    rw [cond_false, Zr6 most h l kept h0, List.find?_append, List.find?_append]
    cases hr : Z31 h r
    ·rw [List.find?_cons_of_neg (by simp [hr])]
    ·obtain ⟨x, hx, hxh⟩ := Ygq hf he h hr
     obtain ⟨q, hq, rfl⟩ := List.mem_map.1 hx
     cases hk : kept.find? (Z31 h) with
     | none =>
      have := List.find?_eq_none.1 hk q hq
      exact absurd hxh this
     | some q => rfl
   ·rw [hf, cond_true] at h0
    rw [cond_true, Zr6 most h l _ h0]; simp
  ·rw [he] at h0; cases h0
theorem Yl3 (s : Switch) (h : SW s) (most : Int) (h0 : (Z1j s most).2 = 0) (e : Env) (v : Header) : ∃ n : Nat, ∃ hn : n < (Z1j s most).1.Rules.length, Zig (Z1j s most).1.Rules v = ((n : Int), true) ∧ ((Z1j s most).1.Rules[n]).Atoms.flatMap (Z5a (goG s.Groups e 8) v) = (Zj6 s e v).1.out ∧ (Z1j s most).1.Groups = s.Groups := by
 have ht : Z1j s most = (⟨(Z6g s most).1, s.Groups⟩, 0) ∧ (Z6g s most).2 = 0 := by
  unfold Z1j at h0 ⊢
  rcases Zme most (Z4k s) [] with he | he
  ·rw [show (Z6g s most).2 = 0 from he]; exact ⟨rfl, rfl⟩
  ·rw [show Z6g s most = ([], 5) from he] at h0; cases h0
 obtain ⟨r, hr, ho⟩ := Yk4 s e v
 have hfd := Zr6 most v (Z4k s) [] ht.2
 rw [List.nil_append, hr] at hfd
 rw [ht.1]
 rcases Ybx (Z6g s most).1 v with ⟨h1, h2⟩ | ⟨n, hn, h1, h2⟩
 ·rw [show (Z4d most (Z4k s) []).1 = (Z6g s most).1 from rfl, h2] at hfd; cases hfd
 ·rw [show (Z4d most (Z4k s) []).1 = (Z6g s most).1 from rfl, h2] at hfd
  refine ⟨n, hn, h1, ?_, rfl⟩
  rw [Option.some.inj hfd]; exact ho
end Go.Proofs.YtknpgojdkobgjaaGreat.W
namespace Go.Proofs.YtknpgojdkobgjaaGreat.W
open Go Go.Wb
def Z2f (h : Header) (l : List Cube) : Nat := (l.filter fun p => Zt p h).length
theorem Zk8 (h : Header) (p : Cube) (l : List Cube) : Z2f h (p :: l) = (Zt p h).toNat + Z2f h l := by
 unfold Z2f
 cases hp : Zt p h
 ·rw [List.filter_cons_of_neg (by simp [hp])]; simp
 ·rw [List.filter_cons_of_pos (by simp [hp])]; simp; omega
theorem Zyw (h : Header) (a b : List Cube) : Z2f h (a ++ b) = Z2f h a + Z2f h b := by unfold Z2f; rw [List.filter_append, List.length_append]
theorem Zzr (xv : Wide) (f : Nat) (hf : f < 24) (h : Header) : ∀ (l : List Int) (left : Cube), Zld l → l.Nodup → (∀ i ∈ l, wt (ve left f).Mask i.toNat = false) →
  Z2f h (Z34 xv f l left).1 + (Zt (Z34 xv f l left).2 h).toNat ≤ (Zt left h).toNat
 | [], left, _, _, _ => by simp [Z34, Z2f]
 | i :: l, left, hl, hn, hm => by
  obtain ⟨b, rfl, hb⟩ := hl i (by simp)
  rw [List.nodup_cons] at hn
  have hmb := hm _ (List.mem_cons_self ..)
  rw [Int.toNat_natCast] at hmb
  have ih := Zzr xv f hf h l (Z52 left f (Z3c (ve left f) b (wt xv b))) (fun j hj => hl j (by simp [hj])) hn.2 (fun j hj => by
   obtain ⟨k, rfl, hk⟩ := hl j (by simp [hj])
   have h1 := hm _ (List.mem_cons_of_mem _ hj)
   rw [Int.toNat_natCast] at h1 ⊢
   rw [Zgh _ _ _ _ hf, if_pos rfl, Zy1 _ _ hb _ _ hk, h1, Bool.false_or, decide_eq_false_iff_not]
   intro e
   subst e
   exact hn.1 hj)
  rw [Z34, Int.toNat_natCast]
  show Z2f h (_ :: _) + (Zt (Z34 xv f l (Z52 left f (Z3c (ve left f) b (wt xv b)))).2 h).toNat ≤ _
  rw [Zk8]
  have h1 := fun hh => Zjp (on := !wt xv b) hf hb (h := h) hmb hh
  have h2 := fun hh => Zjp (on := wt xv b) hf hb (h := h) hmb hh
  refine Nat.le_trans (m := (Zt (Z52 left f (Z3c (ve left f) b (!wt xv b))) h).toNat + (Zt (Z52 left f (Z3c (ve left f) b (wt xv b))) h).toNat) (by omega) ?_
  cases e1 : Zt (Z52 left f (Z3c (ve left f) b (!wt xv b))) h <;> cases e2 : Zt (Z52 left f (Z3c (ve left f) b (wt xv b))) h
  ·simp
  ·rw [(h2 e2).1]; simp
  ·rw [(h1 e1).1]; simp
  ·have := (h1 e1).2
   rw [(h2 e2).2] at this
   cases hx : wt xv b <;> rw [hx] at this <;> cases this
theorem Y1n (x : Cube) (h : Header) : ∀ (m f : Nat) (left : Cube), f + m = 24 → Z2f h (Z7h x m f left) ≤ (Zt left h).toNat
 | 0, f, left, _ => by simp [Z7h, Z2f]
 | m + 1, f, left, hm => by
  have hf : f < 24 := by omega
  have hs := Zzr (ve x f).Value f hf h (Z8x (ve x f) (ve left f)) left (Zpf _ _) (Zm5 _ _) (fun i hi => by
   obtain ⟨k, rfl, hk, hw⟩ := (Zac _ _ _).1 hi
   rw [Z4v _ _ _ hk] at hw
   rw [Int.toNat_natCast]
   cases hq : wt (ve left f).Mask k
   ·rfl
   ·rw [hq] at hw; simp at hw)
  have ih := Y1n x h m (f + 1) (Z34 (ve x f).Value f (Z8x (ve x f) (ve left f)) left).2 (by omega)
  rw [Z7h, Zyw]
  omega
theorem Ydg (a x : Cube) (h : Header) : Z2f h (Z3s a x) = (Zt a h && !Zt x h).toNat := by
 cases hm : Z3r a x
 ·unfold Z3s
  rw [hm, cond_false, Zk8, Zkp]
  cases ha : Zt a h
  ·simp [Z2f]
  ·rw [Ya9 hm ha]; simp [Z2f]
 ·have h1 : Z2f h (Z3s a x) ≤ 1 := by
   unfold Z3s
   rw [hm, cond_true]
   have := Y1n x h 24 0 (Z0i a) rfl
   have h2 : (Zt (Z0i a) h).toNat ≤ 1 := Bool.toNat_le _
   omega
  cases hc : Zt a h && !Zt x h
  ·unfold Z2f
   rw [List.filter_eq_nil_iff.2 fun p hp hh => by
    obtain ⟨h2, h3⟩ := Yao hm hp hh
    rw [h2, h3] at hc; cases hc]
   rfl
  ·rw [Bool.and_eq_true, Bool.not_eq_true'] at hc
   obtain ⟨p, hp, hh⟩ := Y2x hm hc.1 hc.2
   have : 0 < Z2f h (Z3s a x) := List.length_pos_of_mem (List.mem_filter.2 ⟨hp, hh⟩)
   show _ = 1
   omega
def Z9p (l : List Cube) (x : Cube) : List Cube := l.flatMap fun p => Z3s p x
def Zlz (c : Cube) (es : List Cube) : List Cube := es.foldl Z9p [Z0i c]
theorem Y4z (h : Header) (x : Cube) : ∀ l : List Cube, Z2f h (Z9p l x) = bif Zt x h then 0 else Z2f h l
 | [] => by cases Zt x h <;> rfl
 | p :: l => by
  show Z2f h (Z3s p x ++ Z9p l x) = _
  rw [Zyw, Ydg, Y4z h x l, Zk8]
  cases Zt x h <;> simp
theorem Y29 (h : Header) : ∀ (es l : List Cube), Z2f h (es.foldl Z9p l) = bif es.all (fun x => !Zt x h) then Z2f h l else 0
 | [], l => rfl
 | x :: es, l => by
  rw [List.foldl_cons, Y29 h es, Y4z, List.all_cons]
  cases Zt x h <;> cases es.all (fun x => !Zt x h) <;> rfl
theorem Ydp (h : Header) (c : Cube) (es : List Cube) : Z2f h (Zlz c es) = (Zt c h && es.all (fun x => !Zt x h)).toNat := by
 unfold Zlz
 rw [Y29, Zk8, Zkp]
 cases Zt c h <;> cases es.all (fun x => !Zt x h) <;> rfl
def slF (rs : List Rule) (i : Nat) : List Cube := match rs[i]? with
 | none => []
 | some r => Zlz r.Cube ((rs.take i).map (·.Cube))
def Zjy (rs : List Rule) : List (List Cube) := (List.range rs.length).map (slF rs)
theorem Ymy (h : Header) (rs : List Rule) (n : Nat) (hn : Z08 (Z31 h) rs = (n : Int)) (i : Nat) (hi : i < rs.length) : Z2f h (slF rs i) = if i = n then 1 else 0 := by
 obtain ⟨h1, h2, h3⟩ := Zu8 (Z31 h) rs n hn
 unfold slF
 rw [List.getElem?_eq_getElem hi]
 show Z2f h (Zlz _ _) = _
 rw [Ydp, List.all_map]
 by_cases e : i = n
 ·subst e
  rw [if_pos rfl, show Zt rs[i].Cube h = true from h2]
  have : (rs.take i).all ((fun x => !Zt x h) ∘ fun x => x.Cube) = true := List.all_eq_true.2 fun r hr => by
   obtain ⟨j, hj, rfl⟩ := List.mem_iff_getElem.1 hr
   rw [List.length_take] at hj
   rw [List.getElem_take]
   have : Zt rs[j].Cube h = false := h3 j (by omega) (by omega)
   simp [this]
  rw [this]; rfl
 ·rw [if_neg e]
  rcases Nat.lt_or_gt_of_ne e with hl | hg
  ·rw [show Zt rs[i].Cube h = false from h3 i hi hl]; rfl
  ·have : (rs.take i).all ((fun x => !Zt x h) ∘ fun x => x.Cube) = false := List.all_eq_false.2 ⟨rs[n], List.mem_iff_getElem.2 ⟨n, by rw [List.length_take]; omega, List.getElem_take⟩, by
    have : Zt rs[n].Cube h = true := h2
    simp [this]⟩
   rw [this, Bool.and_false]; rfl
theorem Y2o {α : Type} (h : Header) (T : List α) : ∀ l : List Cube, (l.flatMap fun x => bif Zt x h then T else []) = (List.replicate (Z2f h l) T).flatten
 | [] => rfl
 | x :: l => by
  rw [List.flatMap_cons, Y2o h T l, Zk8]
  cases Zt x h
  ·simp
  ·rw [cond_true, Bool.toNat_true, Nat.add_comm, List.replicate_succ, List.flatten_cons]
theorem Y0b {α : Type} (T : List α) (n : Nat) : ∀ (m k : Nat), ((List.range' k m).flatMap fun i => if i = n then T else []) = if k ≤ n ∧ n < k + m then T else []
 | 0, k => by rw [if_neg (by omega)]; rfl
 | m + 1, k => by
  rw [List.range'_succ, List.flatMap_cons, Y0b T n m (k + 1)]
  by_cases e : k = n
  ·subst e
   rw [if_pos rfl, if_neg (by omega), if_pos (by omega)]; simp
  ·rw [if_neg e]
   by_cases h : k + 1 ≤ n ∧ n < k + 1 + m
   ·rw [if_pos h, if_pos (by omega)]; rfl
   ·rw [if_neg h, if_neg (by omega)]; rfl
theorem Ybq {α : Type} (h : Header) (rs : List Rule) (n : Nat) (hn : Z08 (Z31 h) rs = (n : Int)) (T : Nat → List α) :
  ((List.range rs.length).flatMap fun i => (slF rs i).flatMap fun x => bif Zt x h then T i else []) = T n := by
 obtain ⟨h1, h2, h3⟩ := Zu8 (Z31 h) rs n hn
 have e : (List.range rs.length).flatMap (fun i => (slF rs i).flatMap fun x => bif Zt x h then T i else []) = (List.range rs.length).flatMap fun i => if i = n then T n else [] := by
  rw [List.flatMap_def, List.flatMap_def]
  congr 1
  refine List.map_congr_left fun i hi => ?_
  rw [Y2o, Ymy h rs n hn i (by simpa using hi)]
  by_cases e : i = n
  ·subst e; simp
  ·rw [if_neg e, if_neg e]; rfl
 rw [e, List.range_eq_range', Y0b, if_pos (by omega)]
theorem Y5f (most : Int) (h1 : most ≤ 300) : ∀ (ps acc : List Cube), (acc.length : Int) ≤ most →
  (∃ z, yf (fun (s : List Cube × Int) x => Z82 s.1 s.2 x) ps (acc, most) = some (.out .ret z)) ∨ (yf (fun (s : List Cube × Int) x => Z82 s.1 s.2 x) ps (acc, most) = some (.go (acc ++ ps, most)) ∧ ((acc ++ ps).length : Int) ≤ most)
 | [], acc, ha => .inr ⟨by simp [yf], by simpa using ha⟩
 | p :: ps, acc, ha => by
  have hlim : lim = 4294967296 := rfl
  have e : Z82 acc most p = bif decide (((acc ++ [p]).length : Int) > most) then some (.out .ret (acc ++ [p], most)) else some (.go (acc ++ [p], most)) := by
   unfold Z82
   rw [Z23 (by simp; omega)]; rfl
  rw [yf]
  show (∃ z, (Z82 acc most p).bind _ = _) ∨ ((Z82 acc most p).bind _ = _ ∧ _)
  rw [e]
  by_cases hf : ((acc ++ [p]).length : Int) > most
  ·rw [decide_eq_true hf]; exact .inl ⟨_, rfl⟩
  ·rw [decide_eq_false hf, cond_false]
   have := Y5f most h1 ps (acc ++ [p]) (by omega)
   rw [List.append_assoc] at this
   exact this
theorem Y3x (x : Cube) (most : Int) (h1 : most ≤ 300) : ∀ (l : List Cube) (i : Nat) (acc : List Cube), (acc.length : Int) ≤ most →
  ∃ r, Zbj x l i acc most = some r ∧ (r.1 = true → r.2 = ⟨acc ++ Z9p l x, most⟩ ∧ ((acc ++ Z9p l x).length : Int) ≤ most)
 | [], i, acc, ha => ⟨_, rfl, fun _ => by simp [Z9p]; exact ha⟩
 | p :: l, i, acc, ha => by
  have e : Zbj x (p :: l) i acc most = (yf (fun (s : List Cube × Int) x => Z82 s.1 s.2 x) (Z3s p x) (acc, most)).bind fun z24 => Zoa z24 (fun s32 => (Zbj x l) (i + 1) s32.1 s32.2) (fun c s32 => bif Zbb c then some (false, (⟨s32.1, s32.2⟩ : Z51)) else none) := by
   rw [← Zxn]
   rfl
  rw [e]
  rcases Y5f most h1 (Z3s p x) acc ha with ⟨z, hz⟩ | ⟨hz, hl⟩
  ·rw [hz]; exact ⟨_, rfl, fun h => by cases h⟩
  ·rw [hz]
   obtain ⟨r, h2, h3⟩ := Y3x x most h1 l (i + 1) (acc ++ Z3s p x) hl
   refine ⟨r, h2, fun hr => ?_⟩
   have := h3 hr
   rw [List.append_assoc] at this
   exact this
theorem Y43 (most : Int) (h1 : most ≤ 300) (h0 : 0 ≤ most) : ∀ (es : List Rule) (i : Nat) (l : List Cube), (l.length : Int) ≤ most →
  ∃ r, Z86 es i l most = some r ∧ (r.2 = 0 → r.1 = (es.map (·.Cube)).foldl Z9p l) ∧ (r.2 = 0 ∨ r = ([], 5))
 | [], i, l, hl => ⟨_, rfl, fun _ => rfl, .inl rfl⟩
 | x :: es, i, l, hl => by
  obtain ⟨⟨ok, p⟩, h2, h3⟩ := Y3x x.Cube most h1 l 0 [] (by simpa using h0)
  have e : Z86 (x :: es) i l most = bif (!ok) then some ([], 5) else (Z86 es) (i + 1) p.cubes p.most := by
   rw [Z86]
   unfold Zoy
   rw [h2]; rfl
  rw [e]
  cases ok
  ·exact ⟨_, rfl, fun h => (by cases h), .inr rfl⟩
  ·obtain ⟨h4, h5⟩ := h3 rfl
   rw [List.nil_append] at h4 h5
   simp only at h4
   subst h4
   exact Y43 most h1 h0 es (i + 1) (Z9p l x.Cube) h5
theorem Ycb (f : Flat) (i : Nat) (hi : i < f.Rules.length) (most : Int) (h1 : most ≤ 300) : ∃ r, Zf2 f (i : Int) most = some r ∧ (r.2 = 0 → r.1 = slF f.Rules i) ∧ (r.2 = 0 ∨ r = ([], 5)) := by
 have e : Zf2 f (i : Int) most = bif decide (((1 : Nat) : Int) > most) then some ([], 5) else (Z5b f.Rules (i : Int)).bind fun s11 => Z86 s11 0 [Z0i f.Rules[i].Cube] most := by
  unfold Zf2
  rw [decide_eq_false (by omega), decide_eq_false (by omega), Bool.or_self, cond_false, Z37 hi, Option.bind_some, Zls]
  rfl
 rw [e]
 by_cases hf : ((1 : Nat) : Int) > most
 ·rw [decide_eq_true hf]; exact ⟨_, rfl, fun h => (by cases h), .inr rfl⟩
 ·rw [decide_eq_false hf, cond_false, Y6j _ _ (by omega), Option.bind_some]
  have := Y43 most h1 (by omega) (f.Rules.take i) 0 [Z0i f.Rules[i].Cube] (by simp; omega)
  unfold slF
  rw [List.getElem?_eq_getElem hi]
  exact this
theorem Zyu (f : Flat) (hr : f.Rules.length ≤ 100000) (most : Int) (h1 : most ≤ 300) : ∀ (m i : Nat) (acc : List (List Cube)), i + m = f.Rules.length → acc = (List.range i).map (slF f.Rules) →
  ∃ r, Zd3 f most m i acc = some r ∧ (r.2 = 0 → r.1 = Zjy f.Rules) ∧ (r.2 = 0 ∨ r = ([], 5))
 | 0, i, acc, hi, ha => ⟨_, rfl, fun _ => by rw [ha]; unfold Zjy; rw [← hi]; rfl, .inl rfl⟩
 | m + 1, i, acc, hi, ha => by
  have hlim : lim = 4294967296 := rfl
  obtain ⟨⟨l, e⟩, h2, h3, h4⟩ := Ycb f i (by omega) most h1
  rw [Zd3, h2, Option.bind_some]
  rcases h4 with h4 | h4
  ·simp only at h4 h3
   subst h4
   rw [h3 rfl, decide_eq_false (by omega), cond_false, Z23 (by rw [ha]; simp; omega), Option.bind_some]
   exact Zyu f hr most h1 m (i + 1) _ (by omega) (by rw [ha, List.range_succ, List.map_append]; rfl)
  ·cases h4
   exact ⟨_, rfl, fun h => (by cases h), .inr rfl⟩
theorem Yhy (f : Flat) (hr : f.Rules.length ≤ 100000) (most : Int) (h1 : most ≤ 300) : ∃ r, Zie f most = some r ∧ (r.2 = 0 → r.1 = Zjy f.Rules) ∧ (r.2 = 0 ∨ r = ([], 5)) := by
 unfold Zie
 rw [Int.toNat_natCast]
 exact Zyu f hr most h1 _ 0 [] (by omega) rfl
end Go.Proofs.YtknpgojdkobgjaaGreat.W
namespace Go.Proofs.YtknpgojdkobgjaaGreat.W
open Go Go.Wb
theorem Zt3 (G : Int → Cube → List Atom) (K K' : Int → Header → List Out) (h : Header) (hG : ∀ id r, (G id r).flatMap (Z5a K' h) = K id (Z11 r h)) : ∀ a : List Atom, (Z2v G a).flatMap (Z5a K' h) = a.flatMap (Z5a K h)
 | [] => rfl
 | x :: a => by
  rw [Z2v, List.flatMap_append, List.flatMap_cons, Zt3 G K K' h hG a]
  congr 1
  unfold Z5a
  cases hx : x.Group
  ·simp [hx, Zqs]
  ·rw [cond_true, cond_true]
   exact hG _ _
theorem Zxy (l : List Group) (e : Env) (K' : Int → Header → List Out) (h : Header) : ∀ (d : Nat) (id : Int) (r : Cube), (goN l e d id r).flatMap (Z5a K' h) = goG l e d id (Z11 r h)
 | 0, id, r => rfl
 | d + 1, id, r => by
  rw [goN, goG]
  cases Z6i l id with
  | none => rfl
  | some g =>
   show ((Z3y e g).flatMap _).flatMap _ = (Z3y e g).flatMap _
   rw [List.flatMap_assoc]
   congr 1
   funext i
   rw [Zt3 (goN l e d) (goG l e d) K' h (Zxy l e K' h d), ← Zqs r h, Zjb]
def Zft (h : Header) (x : Atom) : Out := ⟨x.Port, x.Max, Z11 x.Rewrite h⟩
theorem Y0y (K : Int → Header → List Out) (h : Header) : ∀ a : List Atom, (∀ x ∈ a, x.Group = false) → a.flatMap (Z5a K h) = a.map (Zft h)
 | [], _ => rfl
 | x :: a, hx => by
  rw [List.flatMap_cons, Y0y K h a fun y hy => hx y (by simp [hy]), List.map_cons]
  unfold Z5a Zft
  rw [hx x (by simp)]; rfl
end Go.Proofs.YtknpgojdkobgjaaGreat.W
namespace Go.Proofs.YtknpgojdkobgjaaGreat.W
open Go Go.Wb
theorem Zub (go : Nat → Int → Option Int) (m : Int) (hm : -1 ≤ m) (hm2 : m ≤ 1000) (R : List Group → List Action → Int → Option Int) (G : List Group)
  (hR : ∀ a m', -1 ≤ m' → m' ≤ m - 1 → ∃ n, R G a m' = some n ∧ 0 ≤ n ∧ n ≤ m' + 1) (hgo : ∀ i n, 0 ≤ n → n ≤ m + 1 → ∃ r, go i n = some r ∧ 0 ≤ r ∧ r ≤ m + 1) (i6 : Nat) :
  ∀ (bs : List Bucket) (i : Nat) (n : Int), 0 ≤ n → n ≤ m + 1 → ∃ r, Zcb go i6 m R G bs i n = some r ∧ 0 ≤ r ∧ r ≤ m + 1
 | [], i, n, h0, h1 => hgo _ n h0 h1
 | b :: bs, i, n, h0, h1 => by
  rw [Zcb]
  by_cases h : n ≤ m
  ·obtain ⟨x, hx, hx0, hx1⟩ := hR b.Acts (m - n - 1) (by omega) (by omega)
   have hi : 0 ≤ Z1f 1 x ∧ Z1f 1 x ≤ max 1 (m - n) := by
    unfold Z1f
    by_cases hq : x > 1
    ·rw [decide_eq_true hq, cond_true]; omega
    ·rw [decide_eq_false hq, cond_false]; omega
   rw [decide_eq_true h, cond_true, Z2m (n := m - n) (by omega) (by omega), Z2m (n := m - n - 1) (by omega) (by omega), hx, Option.bind_some, Z2m (by omega) (by omega)]
   exact Zub go m hm hm2 R G hR hgo i6 bs (i + 1) _ (by omega) (by omega)
  ·rw [decide_eq_false h, cond_false]
   exact Zub go m hm hm2 R G hR hgo i6 bs (i + 1) n h0 h1
theorem Zum (m : Int) (hm : -1 ≤ m) (hm2 : m ≤ 1000) (R : List Group → List Action → Int → Option Int) (G : List Group)
  (hR : ∀ a m', -1 ≤ m' → m' ≤ m - 1 → ∃ n, R G a m' = some n ∧ 0 ≤ n ∧ n ≤ m' + 1) :
  ∀ (ac : List Action) (i : Nat) (n : Int), 0 ≤ n → n ≤ m + 1 → ∃ r, Z7x m G R ac i n = some r ∧ 0 ≤ r ∧ r ≤ m + 1
 | [], i, n, h0, h1 => ⟨n, rfl, h0, h1⟩
 | a :: ac, i, n, h0, h1 => by
  have ih := Zum m hm hm2 R G hR ac
  rw [Z7x]
  by_cases h : n > m
  ·rw [decide_eq_true h]; exact ⟨n, rfl, h0, h1⟩
  ·rw [decide_eq_false h, cond_false]
   by_cases hk : a.Kind = 0
   ·rw [decide_eq_true hk, cond_true, Z2m (by omega) (by omega)]
    exact ih _ _ (by omega) (by omega)
   ·rw [decide_eq_false hk, cond_false]
    by_cases hk2 : a.Kind = 22
    ·rw [decide_eq_true hk2, cond_true, Zrk G (fun x => Zkl x a) (fun x => decide (x.ID = a.Group)) (fun x _ => rfl), Option.bind_some]
     rcases Zch (fun x : Group => decide (x.ID = a.Group)) G with ⟨h2, _⟩ | ⟨k, h2, hk3, _⟩
     ·rw [decide_eq_true h2, cond_true]
      exact ih _ _ h0 h1
     ·rw [h2, decide_eq_false (by omega), cond_false, Z37 hk3, Option.bind_some]
      exact Zub _ m hm hm2 R G hR (fun i n a b => ih i n a b) i _ 0 n h0 h1
    ·rw [decide_eq_false hk2, cond_false]
     exact ih _ _ h0 h1
theorem Y5p (G : List Group) : ∀ (k fuel : Nat) (a : List Action) (m : Int), -1 ≤ m → m < (k : Int) → k < fuel → m ≤ 1000 → ∃ n, Zia fuel G a m = some n ∧ 0 ≤ n ∧ n ≤ m + 1
 | 0, fuel, a, m, h0, h1, h2, h3 => by
  obtain ⟨f, rfl⟩ : ∃ f, fuel = f + 1 := ⟨fuel - 1, by omega⟩
  exact Zum m h0 h3 _ G (fun a m' h4 h5 => by omega) a 0 0 (by omega) (by omega)
 | k + 1, fuel, a, m, h0, h1, h2, h3 => by
  obtain ⟨f, rfl⟩ : ∃ f, fuel = f + 1 := ⟨fuel - 1, by omega⟩
  exact Zum m h0 h3 _ G (fun a m' h4 h5 => Y5p G k f a m' h4 (by omega) (by omega) (by omega)) a 0 0 (by omega) (by omega)
theorem Zvk (go : Nat → Int → Option Bool) (i10 : Nat) (s : Switch) (m9 : Int) (hm : 0 ≤ m9 ∧ m9 ≤ 41) (hgo : ∀ i m, 0 ≤ m → m ≤ 41 → ∃ b, go i m = some b) : ∀ (l : List Inst) (i : Nat) (k : Int), 0 ≤ k → k ≤ 41 → ∃ b, Zag go i10 m9 s l i k = some b
 | [], i, k, h0, h1 => by
  rw [Zag]
  refine hgo _ _ ?_ ?_ <;> unfold Z1f <;> by_cases h : k > m9
  ·rw [decide_eq_true h]; exact h0
  ·rw [decide_eq_false h]; exact hm.1
  ·rw [decide_eq_true h]; exact h1
  ·rw [decide_eq_false h]; exact hm.2
 | x :: l, i, k, h0, h1 => by
  obtain ⟨n, hn, h2, h3⟩ := Y5p s.Groups 50 Z0l x.Acts (40 - k) (by omega) (by omega) (by unfold Z0l; omega) (by omega)
  rw [Zag, Z2m (n := 40 - k) (by omega) (by omega)]
  unfold Zu2
  rw [hn, Option.bind_some, Z2m (by omega) (by omega)]
  exact Zvk go i10 s m9 hm hgo l (i + 1) _ (by omega) (by omega)
theorem Y56 (go : Nat → Int → Option Bool) (i5 : Nat) (s : Switch) (n4 : Int) (hgo : ∀ i n, ∃ b, go i n = some b) : ∀ (l : List Flow) (i : Nat) (m : Int), 0 ≤ m → m ≤ 41 → ∃ b, Zay go i5 n4 s l i m = some b
 | [], i, m, _, _ => hgo _ _
 | x :: l, i, m, h0, h1 => by
  rw [Zay]
  exact Zvk _ i s m ⟨h0, h1⟩ (fun i m a b => Y56 go i5 s n4 hgo l i m a b) _ 0 0 (by omega) (by omega)
theorem Zxd (s : Switch) : ∀ (l : List (List Flow)) (i : Nat) (n : Int), ∃ b, Z9i s l i n = some b
 | [], i, n => ⟨_, rfl⟩
 | x :: l, i, n => by
  rw [Z9i]
  exact Y56 _ i s n (fun i n => Zxd s l i n) x 0 0 (by omega) (by omega)
def Zrh (s : Switch) : Bool := (Zgw s).getD false
theorem Y7a (s : Switch) : Zgw s = some (Zrh s) := by
 obtain ⟨b, hb⟩ := Zxd s (Vector.toList s.Tables) 0 0
 have : Zgw s = some b := hb
 unfold Zrh
 rw [this]; rfl
theorem Y8n (s : List Switch) (f : Switch → Option Bool) (p : Switch → Bool) (hf : ∀ x ∈ s, f x = some (p x)) : Zj5 s f = some (Z08 p s) := by
 unfold Zj5
 rw [show ((s.length : Int)).toNat = s.length by omega]
 exact Zal p (fun i => by rw [Zd5]) (fun m i => by rw [Zd5]) hf
theorem Yf8 (s : List Link) (f : Link → Option Bool) (p : Link → Bool) (hf : ∀ x ∈ s, f x = some (p x)) : Zkd s f = some (Z08 p s) := by
 unfold Zkd
 rw [show ((s.length : Int)).toNat = s.length by omega]
 exact Zal p (fun i => by rw [Zeb]) (fun m i => by rw [Zeb]) hf
def Y91 (n : Net) (e : Env) (m : Int) : Prop := n.Switches.length ≤ 3 ∧ n.Links.length ≤ 8 ∧ e.Down.length ≤ 20 ∧ m ≤ 300 ∧ ∀ s ∈ n.Switches, SW s
theorem Yl6 (n : Net) (e : Env) (m : Int) : ∃ b, Zk2 n e m = some b ∧ (b = true → Y91 n e m) := by
 unfold Zk2 Zpa
 rw [Y8n n.Switches Zix (fun s => !Z9g s 3 || !Zrh s) (fun s _ => by
  unfold Zix
  rw [Yjn, Option.bind_some, Y7a]
  cases Z9g s 3 <;> rfl), Option.bind_some, Zc8]
 cases hc : ((decide ((n.Switches.length : Int) > 3) || decide ((n.Links.length : Int) > 8)) || decide ((e.Down.length : Int) > 20)) || decide (m > 300)
 ·refine ⟨_, rfl, fun hb => ?_⟩
  simp only [Bool.or_eq_false_iff, decide_eq_false_iff_not] at hc
  refine ⟨by omega, by omega, by omega, by omega, fun s hs => ?_⟩
  rw [Bool.not_eq_true', List.any_eq_false] at hb
  have := hb s hs
  cases hf : Z9g s 3
  ·rw [hf] at this; simp at this
  ·exact Ynz (m := 3) hf (by omega)
 ·exact ⟨false, rfl, fun h => by cases h⟩
def Zs7 (n : Net) (a : Int) : Bool := decide (a ≥ 0) && decide (a < (n.Switches.length : Int))
def Zjc (n : Net) (a p : Int) (l : Link) : Bool := (decide (l.From = a) && decide (l.Out = p)) && Zs7 n l.To
def Z63 (n : Net) (a p : Int) : Option (Int × Int) := (n.Links.find? (Zjc n a p)).map fun l => (l.To, l.In)
def Ye5 : Option (Int × Int) → Int × Int × Bool
 | none => (0, 0, false)
 | some (t, i) => (t, i, true)
theorem Zw0 (n : Net) (a p : Int) : Zh6 n a p = some (Ye5 (Z63 n a p)) := by
 unfold Zh6 Z63
 rw [Yf8 n.Links (fun x => Zfr x a p n) (Zjc n a p) (fun l _ => by
  unfold Zfr Zjc Zpd Zs7
  cases (decide (l.From = a) && decide (l.Out = p)) <;> rfl), Option.bind_some]
 rcases Zch (Zjc n a p) n.Links with ⟨h1, h2⟩ | ⟨k, h1, hk, h2, _⟩
 ·rw [decide_eq_true h1, h2]; rfl
 ·rw [h1, decide_eq_false (by omega), cond_false, Z37 hk, Option.bind_some, Option.bind_some, h2]; rfl
theorem Zu0 {n : Net} {a p t i : Int} (h : Z63 n a p = some (t, i)) : ∃ k : Nat, t = (k : Int) ∧ k < n.Switches.length := by
 unfold Z63 at h
 obtain ⟨l, hl, e⟩ := Option.map_eq_some_iff.1 h
 have h1 := List.find?_some hl
 unfold Zjc Zs7 at h1
 simp only [Bool.and_eq_true, decide_eq_true_eq] at h1
 cases e
 exact ⟨l.To.toNat, by omega, by omega⟩
def Zcy (h : Header) (i : Int) : Header := Vector.set h 0 ⟨0, BitVec.ofInt 64 i⟩ (by decide)
theorem Yn3 (h : Header) (i : Int) : Zl6 h 0 ⟨0, BitVec.ofInt 64 i⟩ = some (Zcy h i) := rfl
def Z49 (n : Net) (e : Env) : Nat → Int → Header → List End
 | 0, a, h => [⟨a, 0, 0, false, h⟩]
 | k + 1, a, h => match n.Switches[a.toNat]? with
  | none => []
  | some s => (Zj6 s e h).1.out.flatMap fun o => match Z63 n a o.Port with
   | none => [⟨a, o.Port, o.Max, true, o.Header⟩]
   | some (t, i) => Z49 n e k t (Zcy o.Header i)
def Zaq (n : Net) (a : Int) (K : Int → Header → List End) (o : Out) : List End := match Z63 n a o.Port with
 | none => [⟨a, o.Port, o.Max, true, o.Header⟩]
 | some (t, i) => K t (Zcy o.Header i)
theorem Y1o {n : Net} {a : Nat} {s : Switch} (hs : n.Switches[a]? = some s) (e : Env) (k : Nat) (h : Header) : Z49 n e (k + 1) (a : Int) h = (Zj6 s e h).1.out.flatMap (Zaq n (a : Int) (Z49 n e k)) := by
 rw [Z49, Int.toNat_natCast, hs]; rfl
theorem Zq3 (n : Net) (e : Env) (a : Int) (k : Nat) (hk : k ≤ 100) (R : Z2g → Int → Header → Int → Option Z2g)
  (hR : ∀ (t : Nat), t < n.Switches.length → ∀ h acc, acc.length + (Z49 n e k (t : Int) h).length ≤ 1000000 → R ⟨n, e, acc⟩ (t : Int) h (k : Int) = some ⟨n, e, acc ++ Z49 n e k (t : Int) h⟩) :
  ∀ (os : List Out) (i : Nat) (acc : List End), acc.length + (os.flatMap (Zaq n a (Z49 n e k))).length ≤ 1000000 → Za9 a R ((k + 1 : Nat) : Int) os i acc n e = some ⟨n, e, acc ++ os.flatMap (Zaq n a (Z49 n e k))⟩
 | [], i, acc, _ => by rw [Za9]; simp
 | o :: os, i, acc, h => by
  have hlim : lim = 4294967296 := rfl
  rw [List.flatMap_cons, List.length_append] at h
  rw [Za9, Zw0, Option.bind_some, List.flatMap_cons]
  have ht : Zaq n a (Z49 n e k) o = match Z63 n a o.Port with | none => [⟨a, o.Port, o.Max, true, o.Header⟩] | some (t, i) => Z49 n e k t (Zcy o.Header i) := rfl
  cases hn : Z63 n a o.Port with
  | none =>
   rw [hn] at ht
   simp only at ht
   rw [ht, List.length_singleton] at h
   show (bif (!false) then (Z18 acc [(⟨a, o.Port, o.Max, true, o.Header⟩ : End)]).bind _ else _) = _
   rw [Bool.not_false, cond_true, Z23 (by simp; omega), Option.bind_some, Zq3 n e a k hk R hR os (i + 1) _ (by simp only [List.length_append, List.length_cons, List.length_nil]; omega), ht, List.append_assoc]
  | some ti =>
   obtain ⟨t, j⟩ := ti
   rw [hn] at ht
   simp only at ht
   rw [ht] at h
   obtain ⟨t, rfl, hlt⟩ := Zu0 hn
   show (bif (!true) then _ else (Zl6 o.Header 0 ⟨0, BitVec.ofInt 64 j⟩).bind _) = _
   rw [Bool.not_true, cond_false, Yn3, Option.bind_some, Z2m (by omega) (by omega), show ((k + 1 : Nat) : Int) - 1 = (k : Int) by omega]
   show (R ⟨n, e, acc⟩ (t : Int) (Zcy o.Header j) (k : Int)).bind _ = _
   rw [hR t hlt _ acc (by omega), Option.bind_some, Zq3 n e a k hk R hR os (i + 1) _ (by simp only [List.length_append, List.length_cons, List.length_nil]; omega), ht, List.append_assoc]
theorem Y4o (n : Net) (hn : ∀ s ∈ n.Switches, SW s) (e : Env) : ∀ (k : Nat), k ≤ 100 → ∀ (fuel : Nat), k < fuel → ∀ (a : Nat), a < n.Switches.length → ∀ h acc, acc.length + (Z49 n e k (a : Int) h).length ≤ 1000000 →
  Zcv fuel ⟨n, e, acc⟩ (a : Int) h (k : Int) = some ⟨n, e, acc ++ Z49 n e k (a : Int) h⟩
 | 0, _, fuel, hf, a, ha, h, acc, hl => by
  have hlim : lim = 4294967296 := rfl
  obtain ⟨f, rfl⟩ : ∃ f, fuel = f + 1 := ⟨fuel - 1, by omega⟩
  show (Z18 acc [(⟨(a : Int), 0, 0, false, h⟩ : End)]).bind _ = _
  rw [Z23 (by simp [Z49] at hl ⊢; omega)]; rfl
 | k + 1, hk, fuel, hf, a, ha, h, acc, hl => by
  obtain ⟨f, rfl⟩ : ∃ f, fuel = f + 1 := ⟨fuel - 1, by omega⟩
  have hs := hn _ (List.getElem_mem ha)
  rw [Y1o (List.getElem?_eq_getElem ha)] at hl ⊢
  show Zi8 (Zcv f) _ _ _ _ = _
  unfold Zi8
  rw [decide_eq_false (by omega), cond_false, Z37 ha, Option.bind_some, Y9b _ e h hs.lt hs.G, Option.bind_some]
  exact Zq3 n e (a : Int) k (by omega) (Zcv f) (fun t ht h acc hb => Y4o n hn e k (by omega) f (by omega) t ht h acc hb) _ 0 acc hl
def Z84 (x : Int) : Nat := (Z3q (Z1f x 0) 8).toNat
theorem Zvd (x : Int) : Z3q (Z1f x 0) 8 = (Z84 x : Int) ∧ Z84 x ≤ 8 := by
 unfold Z84 Z3q
 have := Y12 x
 by_cases h : (8 : Int) < Z1f x 0
 ·rw [decide_eq_true h, cond_true]; exact ⟨rfl, by decide⟩
 ·rw [decide_eq_false h, cond_false]; omega
theorem Yhr (n : Net) (hn : ∀ s ∈ n.Switches, SW s) (e : Env) (a : Nat) (ha : a < n.Switches.length) (h : Header) (x : Int) (hl : (Z49 n e (Z84 x) (a : Int) h).length ≤ 1000000) : Zcw n e (a : Int) h x = some (Z49 n e (Z84 x) (a : Int) h) := by
 unfold Zcw Zpb Zuc
 have hk := Zvd x
 rw [decide_eq_true (by omega), decide_eq_true (by omega), Bool.and_self, cond_true, Option.bind_some, hk.1, Y4o n hn e (Z84 x) (by omega) Z0l (by unfold Z0l; omega) a ha h [] (by simpa using hl)]
 rfl
end Go.Proofs.YtknpgojdkobgjaaGreat.W
namespace Go.Proofs.YtknpgojdkobgjaaGreat.W
open Go Go.Wb
def Z8b (c got x : Cube) : Option Cube := (Z5o got x).bind fun b => Z53 b c
theorem Yhi {c got x c' : Cube} (hb : Z8b c got x = some c') (h : Header) : Zt c' h = (Zt c h && Zt x (Z11 got h)) := by
 unfold Z8b at hb
 cases h1 : Z5o got x with
 | none => rw [h1] at hb; cases hb
 | some b =>
  rw [h1, Option.bind_some] at hb
  have h2 := Y0i hb h
  have h3 := Zmo h1 h
  cases e1 : Zt c' h <;> cases e2 : Zt c h <;> cases e3 : Zt x (Z11 got h) <;> simp_all
theorem Ynl {c got x : Cube} (hb : Z8b c got x = none) (h : Header) : (Zt c h && Zt x (Z11 got h)) = false := by
 unfold Z8b at hb
 cases hc : Zt c h && Zt x (Z11 got h)
 ·rfl
 ·rw [Bool.and_eq_true] at hc
  cases h1 : Z5o got x with
  | none => exact (Zz2 h1 h hc.2).elim
  | some b =>
   rw [h1, Option.bind_some] at hb
   exact (Zqg hb h ((Zmo h1 h).2 hc.2) hc.1).elim
theorem Yft (c got x : Cube) : match Z8b c got x with
  | none => ∃ z, Zfp ⟨c, got⟩ x = some (z, false)
  | some c' => Zfp ⟨c, got⟩ x = some (⟨c', got⟩, true) := by
 unfold Z8b Zfp
 rw [Zyt, Option.bind_some]
 cases Z5o got x with
 | none => exact ⟨_, rfl⟩
 | some b =>
  show match Z53 b c with | none => ∃ z, ((Z7q b c).bind fun x8 => some ((⟨x8.1, got⟩ : spread_beam), x8.2)) = some (z, false) | some c' => ((Z7q b c).bind fun x8 => some ((⟨x8.1, got⟩ : spread_beam), x8.2)) = some (⟨c', got⟩, true)
  rw [Zos, Option.bind_some]
  cases Z53 b c with
  | none => exact ⟨_, rfl⟩
  | some c' => rfl
def Za8 (rs : List Rule) (i : Nat) : List Atom := match rs[i]? with
 | none => []
 | some r => r.Atoms
def Zew (n : Net) (a : Int) (c got : Cube) (K : Int → Cube → List Ray) (x : Atom) : List Ray := match Z63 n a x.Port with
 | none => [⟨a, x.Port, x.Max, true, c, Z5t got x.Rewrite⟩]
 | some (t, i) => K t (Z4c (Z5t got x.Rewrite) 0 ⟨0, BitVec.ofInt 64 i⟩ (Z62 128))
def Zek (n : Net) (e : Env) (f : Flat) (a : Int) (c got : Cube) (K : Int → Cube → Cube → List Ray) (i : Nat) (x : Cube) : List Ray := match Z8b c got x with
 | none => []
 | some c' => (Z2v (goN f.Groups e 8) (Za8 f.Rules i)).flatMap (Zew n a c' got (fun t g => K t c' g))
def Z6p (n : Net) (e : Env) (most : Int) : Nat → Int → Cube → Cube → List Ray
 | 0, a, c, got => [⟨a, 0, 0, false, c, got⟩]
 | k + 1, a, c, got => match n.Switches[a.toNat]? with
  | none => []
  | some s => (List.range (Z1j s most).1.Rules.length).flatMap fun i => (slF (Z1j s most).1.Rules i).flatMap (Zek n e (Z1j s most).1 a c got (Z6p n e most k) i)
theorem Y30 {n : Net} {a : Nat} {s : Switch} (hs : n.Switches[a]? = some s) (e : Env) (most : Int) (k : Nat) (c got : Cube) : Z6p n e most (k + 1) (a : Int) c got = (List.range (Z1j s most).1.Rules.length).flatMap fun i => (slF (Z1j s most).1.Rules i).flatMap (Zek n e (Z1j s most).1 (a : Int) c got (Z6p n e most k) i) := by
 rw [Z6p, Int.toNat_natCast, hs]
def OkR (most : Int) (l l' R : List Ray) : Prop := l.length ≤ l'.length ∧ l'.length ≤ 301 ∧ ((l'.length : Int) ≤ most → l' = l ++ R)
theorem OkR.stop {most : Int} {l R : List Ray} (h : (l.length : Int) > most) (hl : l.length ≤ 301) : OkR most l l R := ⟨Nat.le_refl _, hl, fun h' => by omega⟩
theorem OkR.none {most : Int} {l : List Ray} (hl : l.length ≤ 301) : OkR most l l [] := ⟨Nat.le_refl _, hl, fun _ => by simp⟩
theorem OkR.trans {most : Int} {l l1 l2 R R' : List Ray} (h : OkR most l l1 R) (h' : OkR most l1 l2 R') : OkR most l l2 (R ++ R') :=
 ⟨Nat.le_trans h.1 h'.1, h'.2.1, fun hm => by
  have := h'.1
  rw [h'.2.2 hm, h.2.2 (by omega), List.append_assoc]⟩
theorem OkR.one {most : Int} {l : List Ray} (x : Ray) (hl : l.length ≤ 300) : OkR most l (l ++ [x]) [x] := ⟨by simp, by simp; omega, fun _ => rfl⟩
section
variable (n : Net) (e : Env) (tabs : List spread_table) (most : Int)
def Z4t (l : List Ray) : Z0e := ⟨n, e, tabs, most, l⟩
theorem Zuh (hm : most ≤ 300) (a : Int) (k : Nat) (hk : k ≤ 100) (c' got : Cube) (R : Z0e → Int → spread_beam → Int → Option Z0e) (K : Int → Cube → List Ray)
  (hR : ∀ (t : Nat), t < n.Switches.length → ∀ g l, l.length ≤ 300 → ∃ l', R (Z4t n e tabs most l) (t : Int) ⟨c', g⟩ (k : Int) = some (Z4t n e tabs most l') ∧ OkR most l l' (K (t : Int) g)) :
  ∀ (xs : List Atom) (i : Nat) (l : List Ray), l.length ≤ 301 → ∃ l', Zb5 ⟨c', got⟩ a R ((k + 1 : Nat) : Int) xs i l n e tabs most = some (Z4t n e tabs most l') ∧ OkR most l l' (xs.flatMap (Zew n a c' got K))
 | [], i, l, hl => ⟨l, rfl, .none hl⟩
 | x :: xs, i, l, hl => by
  have hlim : lim = 4294967296 := rfl
  rw [Zb5]
  by_cases h : (l.length : Int) > most
  ·rw [decide_eq_true h]; exact ⟨l, rfl, .stop h hl⟩
  ·have hg : Zku ⟨c', got⟩ x.Rewrite = some ⟨c', Z5t got x.Rewrite⟩ := by
    unfold Zku
    rw [Y0v]; rfl
   have hx : Zew n a c' got K x = match Z63 n a x.Port with | none => [⟨a, x.Port, x.Max, true, c', Z5t got x.Rewrite⟩] | some (t, i) => K t (Z4c (Z5t got x.Rewrite) 0 ⟨0, BitVec.ofInt 64 i⟩ (Z62 128)) := rfl
   rw [decide_eq_false h, cond_false, hg, Option.bind_some, Zw0, Option.bind_some, List.flatMap_cons]
   cases hn : Z63 n a x.Port with
   | none =>
    rw [hn] at hx
    show ∃ l', (bif (!false) then (Z18 l [(⟨a, x.Port, x.Max, true, c', Z5t got x.Rewrite⟩ : Ray)]).bind _ else _) = _ ∧ _
    rw [Bool.not_false, cond_true, Z23 (by simp; omega), Option.bind_some, hx]
    obtain ⟨l', h1, h2⟩ := Zuh hm a k hk c' got R K hR xs (i + 1) (l ++ [⟨a, x.Port, x.Max, true, c', Z5t got x.Rewrite⟩]) (by simp; omega)
    exact ⟨l', h1, (OkR.one _ (by omega)).trans h2⟩
   | some ti =>
    obtain ⟨t, j⟩ := ti
    rw [hn] at hx
    obtain ⟨t, rfl, hlt⟩ := Zu0 hn
    show ∃ l', (bif (!true) then _ else (Z7t 128).bind fun x30 => (Z73 (Z5t got x.Rewrite) 0 (⟨0, (BitVec.ofInt 64 j)⟩ : Wide) x30).bind fun x31 => (R (Z4t n e tabs most l) (t : Int) ⟨c', x31⟩ (IntKind.i64.wrap (((k + 1 : Nat) : Int) - 1))).bind _) = _ ∧ _
    rw [Bool.not_true, cond_false, Zng, Option.bind_some, Zdt, Option.bind_some, Z2m (by omega) (by omega), show ((k + 1 : Nat) : Int) - 1 = (k : Int) by omega]
    obtain ⟨l1, h1, h2⟩ := hR t hlt (Z4c (Z5t got x.Rewrite) 0 ⟨0, BitVec.ofInt 64 j⟩ (Z62 128)) l (by omega)
    obtain ⟨l', h3, h4⟩ := Zuh hm a k hk c' got R K hR xs (i + 1) l1 h2.2.1
    rw [h1, Option.bind_some, hx]
    exact ⟨l', h3, h2.trans h4⟩
theorem Zqo (hm : most ≤ 300) (a : Int) (f : Flat) (cs : List (List Cube)) (hf : f.Rules.length ≤ 6561 ∧ (∀ r ∈ f.Rules, r.Atoms.length ≤ 1000) ∧ Z3f f.Groups) (k : Nat) (c got : Cube) (O : Z0e → Int → spread_beam → List Atom → Int → Option Z0e) (K : Int → Cube → Cube → List Ray)
  (hO : ∀ c' xs l, l.length ≤ 301 → ∃ l', O (Z4t n e tabs most l) a ⟨c', got⟩ xs ((k + 1 : Nat) : Int) = some (Z4t n e tabs most l') ∧ OkR most l l' (xs.flatMap (Zew n a c' got (fun t g => K t c' g))))
  (go : Nat → List Ray → Net → Env → List spread_table → Int → Option Z0e) (i : Nat) (hi : i < f.Rules.length) (Rr : List Ray)
  (hgo : ∀ l, l.length ≤ 301 → ∃ l', go (i + 1) l n e tabs most = some (Z4t n e tabs most l') ∧ OkR most l l' Rr) :
  ∀ (xs : List Cube) (j : Nat) (l : List Ray), l.length ≤ 301 → ∃ l', Zbw go i ⟨c, got⟩ ⟨f, cs⟩ O a ((k + 1 : Nat) : Int) xs j l n e tabs most = some (Z4t n e tabs most l') ∧ OkR most l l' (xs.flatMap (Zek n e f a c got K i) ++ Rr)
 | [], j, l, hl => hgo l hl
 | x :: xs, j, l, hl => by
  rw [Zbw]
  by_cases h : (l.length : Int) > most
  ·rw [decide_eq_true h]; exact ⟨l, rfl, .stop h hl⟩
  ·have hb := Yft c got x
   have hx : Zek n e f a c got K i x = match Z8b c got x with | none => [] | some c' => (Z2v (goN f.Groups e 8) (Za8 f.Rules i)).flatMap (Zew n a c' got (fun t g => K t c' g)) := rfl
   rw [decide_eq_false h, cond_false, List.flatMap_cons, List.append_assoc]
   cases hm2 : Z8b c got x with
   | none =>
    rw [hm2] at hb hx
    obtain ⟨z, hz⟩ := hb
    rw [hz, hx]
    exact Zqo hm a f cs hf k c got O K hO go i hi Rr hgo xs (j + 1) l hl
   | some c' =>
    rw [hm2] at hb hx
    simp only at hb hx
    rw [hb, Option.bind_some]
    have ha : Za8 f.Rules i = f.Rules[i].Atoms := by unfold Za8; rw [List.getElem?_eq_getElem hi]
    show ∃ l', (bif (!true) then _ else (lget f.Rules (i : Int)).bind fun x45 => (Zg0 f.Groups e x45.Atoms).bind fun x46 => (O (Z4t n e tabs most l) a ⟨c', got⟩ x46 ((k + 1 : Nat) : Int)).bind _) = _ ∧ _
    rw [Bool.not_true, cond_false, Z37 hi, Option.bind_some, Yk0 f.Groups e f.Rules[i].Atoms hf.2.2 (by have := hf.2.1 _ (List.getElem_mem hi); omega), Option.bind_some, hx, ha]
    obtain ⟨l1, h1, h2⟩ := hO c' (Z2v (goN f.Groups e 8) f.Rules[i].Atoms) l hl
    obtain ⟨l', h3, h4⟩ := Zqo hm a f cs hf k c got O K hO go i hi Rr hgo xs (j + 1) l1 h2.2.1
    rw [h1, Option.bind_some]
    exact ⟨l', h3, h2.trans h4⟩
theorem Y24 (hm : most ≤ 300) (a : Int) (f : Flat) (cs : List (List Cube)) (hf : f.Rules.length ≤ 6561 ∧ (∀ r ∈ f.Rules, r.Atoms.length ≤ 1000) ∧ Z3f f.Groups) (k : Nat) (c got : Cube) (O : Z0e → Int → spread_beam → List Atom → Int → Option Z0e) (K : Int → Cube → Cube → List Ray)
  (hO : ∀ c' xs l, l.length ≤ 301 → ∃ l', O (Z4t n e tabs most l) a ⟨c', got⟩ xs ((k + 1 : Nat) : Int) = some (Z4t n e tabs most l') ∧ OkR most l l' (xs.flatMap (Zew n a c' got (fun t g => K t c' g)))) :
  ∀ (m i : Nat) (l : List Ray), i + m = f.Rules.length → l.length ≤ 301 → ∃ l', Za2 ⟨c, got⟩ ⟨f, cs⟩ O a ((k + 1 : Nat) : Int) ((List.range' i m).map (slF f.Rules)) i l n e tabs most = some (Z4t n e tabs most l') ∧ OkR most l l' ((List.range' i m).flatMap fun i => (slF f.Rules i).flatMap (Zek n e f a c got K i))
 | 0, i, l, hi, hl => ⟨l, rfl, .none hl⟩
 | m + 1, i, l, hi, hl => by
  rw [List.range'_succ, List.map_cons, Za2, List.flatMap_cons]
  exact Zqo n e tabs most hm a f cs hf k c got O K hO _ i (by omega) _ (fun l hl => Y24 hm a f cs hf k c got O K hO m (i + 1) l (by omega) hl) _ 0 l hl
end
def Z6c (most : Int) (s : Switch) : spread_table := ⟨(Z1j s most).1, Zjy (Z1j s most).1.Rules⟩
theorem Y0j (n : Net) (hn : ∀ s ∈ n.Switches, SW s) (e : Env) (most : Int) (hm : most ≤ 300) : ∀ (k : Nat), k ≤ 100 → ∀ (fuel : Nat), 2 * k < fuel → ∀ (a : Nat), a < n.Switches.length → ∀ c got l, l.length ≤ 300 →
  ∃ l', (Z5j fuel).1 (Z4t n e (n.Switches.map (Z6c most)) most l) (a : Int) ⟨c, got⟩ (k : Int) = some (Z4t n e (n.Switches.map (Z6c most)) most l') ∧ OkR most l l' (Z6p n e most k (a : Int) c got)
 | 0, _, fuel, hf, a, ha, c, got, l, hl => by
  have hlim : lim = 4294967296 := rfl
  obtain ⟨f, rfl⟩ : ∃ f, fuel = f + 1 := ⟨fuel - 1, by omega⟩
  refine ⟨l ++ [⟨(a : Int), 0, 0, false, c, got⟩], ?_, .one _ hl⟩
  show (Z18 l [(⟨(a : Int), 0, 0, false, c, got⟩ : Ray)]).bind _ = _
  rw [Z23 (by simp; omega)]; rfl
 | k + 1, hk, fuel, hf, a, ha, c, got, l, hl => by
  obtain ⟨f, rfl⟩ : ∃ f, fuel = f + 2 := ⟨fuel - 2, by omega⟩
  have hs := hn _ (List.getElem_mem ha)
  have hlt : a < (n.Switches.map (Z6c most)).length := by simpa using ha
  have hg : (n.Switches.map (Z6c most))[a] = Z6c most n.Switches[a] := by simp
  rw [Y30 (List.getElem?_eq_getElem ha)]
  show ∃ l', Zln (Z5j (f + 1)).1 (Z5j (f + 1)).2 (Z4t n e (n.Switches.map (Z6c most)) most l) (a : Int) ⟨c, got⟩ ((k + 1 : Nat) : Int) = some (Z4t n e (n.Switches.map (Z6c most)) most l') ∧ _
  unfold Zln
  rw [decide_eq_false (by omega), cond_false]
  show ∃ l', (lget (n.Switches.map (Z6c most)) (a : Int)).bind _ = _ ∧ _
  rw [Z37 hlt, Option.bind_some, hg, List.range_eq_range']
  show ∃ l', Za2 ⟨c, got⟩ ⟨(Z1j n.Switches[a] most).1, Zjy (Z1j n.Switches[a] most).1.Rules⟩ _ _ _ ((List.range _).map (slF (Z1j n.Switches[a] most).1.Rules)) 0 l n e (n.Switches.map (Z6c most)) most = _ ∧ _
  rw [List.range_eq_range']
  refine Y24 n e (n.Switches.map (Z6c most)) most hm (a : Int) (Z1j n.Switches[a] most).1 _ (Zz5 _ hs most) k c got _ (Z6p n e most k) (fun c' xs l hl => ?_) _ 0 l (by omega) (by omega)
  exact Zuh n e (n.Switches.map (Z6c most)) most hm (a : Int) k (by omega) c' got _ (fun t g => Z6p n e most k t c' g) (fun t ht g l hl => Y0j n hn e most hm k (by omega) f (by omega) t ht c' g l hl) xs 0 l hl
theorem Zza (most : Int) (hm : most ≤ 300) : ∀ (ss : List Switch) (i : Nat) (acc : List spread_table), (∀ s ∈ ss, SW s) → acc.length + ss.length ≤ 1000 →
  ∃ r, Zd1 most ss i acc = some r ∧ ((r = (acc ++ ss.map (Z6c most), 0) ∧ ∀ s ∈ ss, (Z1j s most).2 = 0) ∨ r = ([], 5))
 | [], i, acc, _, _ => ⟨_, rfl, .inl ⟨by simp, by simp⟩⟩
 | s :: ss, i, acc, h, hl => by
  have hlim : lim = 4294967296 := rfl
  simp only [List.length_cons] at hl
  have hs := h s (by simp)
  rw [Zd1, Yc6 s hs most (by omega), Option.bind_some]
  by_cases h0 : (Z1j s most).2 = 0
  ·obtain ⟨⟨l, x⟩, h1, h2, h3⟩ := Yhy (Z1j s most).1 (by have := (Zz5 s hs most).1; omega) most hm
   rw [decide_eq_false (by omega), cond_false, h1, Option.bind_some]
   rcases h3 with h3 | h3
   ·simp only at h3 h2
    subst h3
    rw [h2 rfl, decide_eq_false (by omega), cond_false, Z23 (by simp; omega), Option.bind_some]
    obtain ⟨r, h4, h5⟩ := Zza most hm ss (i + 1) (acc ++ [Z6c most s]) (fun s hs => h s (by simp [hs])) (by simp; omega)
    refine ⟨r, h4, ?_⟩
    rcases h5 with ⟨h5, h6⟩ | h5
    ·refine .inl ⟨by rw [h5]; simp, fun y hy => ?_⟩
     rcases List.mem_cons.1 hy with rfl | hy
     ·exact h0
     ·exact h6 y hy
    ·exact .inr h5
   ·cases h3
    exact ⟨_, rfl, .inr rfl⟩
  ·rw [decide_eq_true h0]; exact ⟨_, rfl, .inr rfl⟩
theorem Yh5 (n : Net) (hn : ∀ s ∈ n.Switches, SW s) (h3 : n.Switches.length ≤ 3) (e : Env) (a : Int) (c : Cube) (x most : Int) (hm : most ≤ 300) :
  ∃ r, Zct n e a c x most = some r ∧ (r = ([], 5) ∨ (¬ (0 ≤ a ∧ a < n.Switches.length) ∧ r = ([], 0)) ∨
   ∃ k : Nat, a = (k : Int) ∧ k < n.Switches.length ∧ (∀ s ∈ n.Switches, (Z1j s most).2 = 0) ∧ r = (Z6p n e most (Z84 x) (k : Int) (Z0i c) Z2d, 0) ∧ r.1.length ≤ 300) := by
 unfold Zct
 by_cases ha : 0 ≤ a ∧ a < (n.Switches.length : Int)
 ·obtain ⟨k, rfl⟩ : ∃ k : Nat, a = (k : Int) := ⟨a.toNat, by omega⟩
  rw [decide_eq_false (by omega), decide_eq_false (by omega), Bool.or_self, cond_false]
  unfold Zok
  obtain ⟨r, h1, h2⟩ := Zza most hm n.Switches 0 [] hn (by simp; omega)
  rw [h1, Option.bind_some]
  rcases h2 with ⟨rfl, h2⟩ | rfl
  ·have hk := Zvd x
   obtain ⟨l', h4, h5⟩ := Y0j n hn e most hm (Z84 x) (by omega) Z0l (by unfold Z0l; omega) k (by omega) (Z0i c) Z2d [] (by simp)
   rw [decide_eq_false (by omega), cond_false, Zls, Option.bind_some]
   show ∃ r, ((Z5j Z0l).1 (Z4t n e (n.Switches.map (Z6c most)) most []) (k : Int) ⟨Z0i c, Z2d⟩ (Z3q (Z1f x 0) 8)).bind _ = some r ∧ _
   rw [hk.1, h4, Option.bind_some]
   show ∃ r, (bif decide ((l'.length : Int) > most) then _ else some (l', 0)) = some r ∧ _
   by_cases hg : (l'.length : Int) > most
   ·rw [decide_eq_true hg]; exact ⟨_, rfl, .inl rfl⟩
   ·rw [decide_eq_false hg]
    have e1 : l' = Z6p n e most (Z84 x) (k : Int) (Z0i c) Z2d := by simpa using h5.2.2 (by omega)
    exact ⟨_, rfl, .inr (.inr ⟨k, rfl, by omega, h2, by rw [← e1], by show l'.length ≤ 300; omega⟩)⟩
  ·exact ⟨_, rfl, .inl rfl⟩
 ·refine ⟨_, ?_, .inr (.inl ⟨ha, rfl⟩)⟩
  have : (decide (a < 0) || decide (a ≥ (n.Switches.length : Int))) = true := by
   rw [Bool.or_eq_true, decide_eq_true_eq, decide_eq_true_eq]; omega
  rw [this]; rfl
end Go.Proofs.YtknpgojdkobgjaaGreat.W
namespace Go.Proofs.YtknpgojdkobgjaaGreat.W
open Go Go.Wb
set_option maxRecDepth 100000 in
theorem Zq7 : Zdk = some true := by decide +kernel
end Go.Proofs.YtknpgojdkobgjaaGreat.W
namespace Go.Proofs.YtknpgojdkobgjaaGreat.W
open Go Go.Wb
theorem Yij : ∀ k : _root_.Fin 128, wt (Z62 128) k.1 = true := by decide +kernel
theorem Yas (r : Cube) (i : Int) (h : Header) : Z11 (Z4c r 0 ⟨0, BitVec.ofInt 64 i⟩ (Z62 128)) h = Zcy (Z11 r h) i := Z7f fun f hf => by
 have hc : ve (Z4c r 0 ⟨0, BitVec.ofInt 64 i⟩ (Z62 128)) f = if 0 = f then Z4y (ve (Z0i r) 0) ⟨⟨0, BitVec.ofInt 64 i⟩, Z62 128⟩ else ve (Z0i r) f := by
  unfold Z4c
  rw [show (decide ((0 : Int) ≥ 0) && decide ((0 : Int) < 24)) = true from rfl, cond_true]
  exact Z7m (fun j => if (0 : Int).toNat = j then Z4y (ve (Z0i r) (0 : Int).toNat) ⟨⟨0, BitVec.ofInt 64 i⟩, Z62 128⟩ else ve (Z0i r) j) f hf
 unfold Zcy
 rw [Z6k _ _ _ hf, hc, Zlm _ _ _ _ _ hf]
 by_cases e : 0 = f
 ·subst e
  rw [if_pos rfl, if_pos rfl]
  exact Zbo fun k hk => by
   have hl : wt (Z62 128) k = true := Yij ⟨k, hk⟩
   simp only [Z4y, Z1g, Z5n, Z2y, Z4v _ _ _ hk, hl]
   simp
 ·rw [if_neg e, if_neg e, Za7 _ _ hf, Z6k _ _ _ hf]
  unfold Z1g
  exact Zbo fun k hk => by
   simp only [Z5n, Z2y, Z4v _ _ _ hk]
   cases wt (ve h f) k <;> cases wt (ve r f).Value k <;> cases wt (ve r f).Mask k <;> rfl
def Zsi (h : Header) (r : Ray) : End := ⟨r.At, r.Port, r.Max, r.Left, Z11 r.Rewrite h⟩
def Z4g (h : Header) (l : List Ray) : List End := (l.filter fun r => Zt r.Cube h).map (Zsi h)
theorem Zkk {α : Type} (h : Header) (f : α → List Ray) : ∀ l : List α, Z4g h (l.flatMap f) = l.flatMap fun x => Z4g h (f x)
 | [] => rfl
 | x :: l => by
  rw [List.flatMap_cons, List.flatMap_cons, ← Zkk h f l]
  unfold Z4g
  rw [List.filter_append, List.map_append]
theorem Y2m (h : Header) (r : Ray) : Z4g h [r] = bif Zt r.Cube h then [Zsi h r] else [] := by
 unfold Z4g
 cases hc : Zt r.Cube h
 ·rw [List.filter_cons_of_neg (by simp [hc])]; rfl
 ·rw [List.filter_cons_of_pos (by simp [hc])]; rfl
theorem Ylj {α β : Type} (b : Bool) (f : α → List β) (l : List α) : (l.flatMap fun x => bif b then f x else []) = bif b then l.flatMap f else [] := by
 cases b
 ·simp
 ·rfl
theorem Zkm {α β : Type} {f g : α → List β} {l : List α} (h : ∀ x ∈ l, f x = g x) : l.flatMap f = l.flatMap g := by
 rw [List.flatMap_def, List.flatMap_def]
 congr 1
 exact List.map_congr_left h
theorem Y1c (n : Net) (hn : ∀ s ∈ n.Switches, SW s) (e : Env) (most : Int) (hfl : ∀ s ∈ n.Switches, (Z1j s most).2 = 0) : ∀ (k : Nat) (a : Nat), a < n.Switches.length → ∀ c got h,
  Z4g h (Z6p n e most k (a : Int) c got) = bif Zt c h then Z49 n e k (a : Int) (Z11 got h) else []
 | 0, a, ha, c, got, h => by
  show Z4g h [_] = _
  rw [Y2m]; rfl
 | k + 1, a, ha, c, got, h => by
  have hs := hn _ (List.getElem_mem ha)
  obtain ⟨m, hm, h1, h2, h3⟩ := Yl3 n.Switches[a] hs most (hfl _ (List.getElem_mem ha)) e (Z11 got h)
  have hfi : Z08 (Z31 (Z11 got h)) (Z1j n.Switches[a] most).1.Rules = (m : Int) := by
   unfold Zig at h1
   have h4 := (Prod.mk.inj h1).1
   have h5 := of_decide_eq_true (Prod.mk.inj h1).2
   rwa [Yh9 h5] at h4
  rw [Y30 (List.getElem?_eq_getElem ha), Y1o (List.getElem?_eq_getElem ha), Zkk]
  have key : ∀ i x, Z4g h (Zek n e (Z1j n.Switches[a] most).1 (a : Int) c got (Z6p n e most k) i x) =
    bif Zt c h && Zt x (Z11 got h) then (Z2v (goN (Z1j n.Switches[a] most).1.Groups e 8) (Za8 (Z1j n.Switches[a] most).1.Rules i)).flatMap (fun y => Zaq n (a : Int) (Z49 n e k) (Zft (Z11 got h) y)) else [] := fun i x => by
   unfold Zek
   cases hb : Z8b c got x with
   | none => rw [Ynl hb h]; rfl
   | some c' =>
    show Z4g h (List.flatMap _ _) = _
    rw [Zkk, ← Yhi hb h, ← Ylj]
    refine Zkm fun y _ => ?_
    unfold Zew Zaq Zft
    show Z4g h (match Z63 n (a : Int) y.Port with | none => _ | some (t, i) => _) = bif Zt c' h then (match Z63 n (a : Int) y.Port with | none => _ | some (t, i) => _) else []
    cases hx : Z63 n (a : Int) y.Port with
    | none =>
     show Z4g h [_] = _
     rw [Y2m]
     show (bif Zt c' h then [(⟨(a : Int), y.Port, y.Max, true, Z11 (Z5t got y.Rewrite) h⟩ : End)] else []) = _
     rw [Zso]
    | some ti =>
     obtain ⟨t, j⟩ := ti
     obtain ⟨t, rfl, hlt⟩ := Zu0 hx
     show Z4g h (Z6p n e most k (t : Int) c' _) = _
     rw [Y1c n hn e most hfl k t hlt, Yas, Zso]
  cases hc : Zt c h
  ·rw [cond_false, Zkm (g := fun _ => []) fun i _ => by
    rw [Zkk, Zkm (g := fun _ => []) fun x _ => by rw [key, hc]; rfl]; simp]
   simp
  ·rw [cond_true, Zkm (g := fun i => (slF (Z1j n.Switches[a] most).1.Rules i).flatMap fun x => bif Zt x (Z11 got h) then (Z2v (goN (Z1j n.Switches[a] most).1.Groups e 8) (Za8 (Z1j n.Switches[a] most).1.Rules i)).flatMap (fun y => Zaq n (a : Int) (Z49 n e k) (Zft (Z11 got h) y)) else []) fun i _ => by
    rw [Zkk]
    exact Zkm fun x _ => by rw [key, hc, Bool.true_and]]
   rw [Ybq (Z11 got h) _ m hfi (fun i => (Z2v (goN (Z1j n.Switches[a] most).1.Groups e 8) (Za8 (Z1j n.Switches[a] most).1.Rules i)).flatMap (fun y => Zaq n (a : Int) (Z49 n e k) (Zft (Z11 got h) y)))]
   have ha2 : Za8 (Z1j n.Switches[a] most).1.Rules m = (Z1j n.Switches[a] most).1.Rules[m].Atoms := by unfold Za8; rw [List.getElem?_eq_getElem hm]
   rw [ha2, ← h2, h3, ← Zt3 (goN n.Switches[a].Groups e 8) (goG n.Switches[a].Groups e 8) (goG n.Switches[a].Groups e 8) (Z11 got h) (fun id r => Zxy _ e _ _ 8 id r), Y0y _ _ _ (fun x hx => (Zqc _ (fun id r => Zuo _ e 8 id r) _ x hx).1), List.flatMap_map]
theorem Y2w (a : List End) (ha : a.length ≤ 1000000) : ∀ (m i : Nat), i ≤ a.length → a.length < i + m → Zfu a a m (i : Int) = some true
 | 0, i, h1, h2 => by omega
 | m + 1, i, h1, h2 => by
  rw [Zfu]
  by_cases hi : i < a.length
  ·rw [decide_eq_true (by omega), cond_true, Z37 hi]
   simp only [Option.bind_some, ne_eq, not_true_eq_false, decide_false, Bool.not_false, Z7u, Bool.or_self, beq_self_eq_true, Bool.not_true, cond_false]
   rw [Z2m (by omega) (by omega)]
   exact Y2w a ha m (i + 1) (by omega) (by omega)
  ·rw [decide_eq_false (by omega)]; rfl
theorem Ygx (a : List End) (ha : a.length ≤ 1000000) : Zid a a = some true := by
 unfold Zid
 rw [decide_eq_false (by omega), cond_false]
 exact Y2w a ha _ 0 (by omega) (by omega)
theorem Zsf (x4 : Cube) (x7 : Header) (n1 : Net) (x2 : Env) (a3 x5 : Int) (T : List End → Option Bool) (hT : ∀ i l, Z8q x4 x7 n1 x2 a3 x5 [] i l = T l) : ∀ (rs : List Ray) (i : Nat) (acc : List End), acc.length + rs.length ≤ 1000000 →
  Z8q x4 x7 n1 x2 a3 x5 rs i acc = T (acc ++ Z4g x7 rs)
 | [], i, acc, _ => by rw [hT]; simp [Z4g]
 | r :: rs, i, acc, h => by
  have hlim : lim = 4294967296 := rfl
  simp only [List.length_cons] at h
  have e1 : Zgi r x7 = some (Zt r.Cube x7) := by unfold Zgi; rw [Zoz]; rfl
  have e2 : Zf1 r x7 = some (Zsi x7 r) := by unfold Zf1; rw [Ztq]; rfl
  rw [Z8q, e1, Option.bind_some]
  unfold Z4g
  cases hc : Zt r.Cube x7
  ·rw [List.filter_cons_of_neg (by simp [hc]), cond_false]
   exact Zsf x4 x7 n1 x2 a3 x5 T hT rs (i + 1) acc (by omega)
  ·rw [List.filter_cons_of_pos (by simp [hc]), cond_true, e2, Option.bind_some, Z23 (by simp; omega), Option.bind_some, Zsf x4 x7 n1 x2 a3 x5 T hT rs (i + 1) _ (by simp; omega)]
   simp [Z4g]
theorem Yke (h : Header) (l : List Ray) : (Z4g h l).length ≤ l.length := by
 unfold Z4g
 rw [List.length_map]
 exact List.length_filter_le ..
theorem Yil (n : Net) (e : Env) (a : Int) (c : Cube) (x most : Int) (h : Header) : Zje n e a c x most h = some true := by
 unfold Zje
 obtain ⟨b, hb, hl⟩ := Yl6 n e most
 rw [hb, Option.bind_some, Zq7]
 cases b
 ·rfl
 ·obtain ⟨hn3, _, _, hm, hn⟩ := hl rfl
  obtain ⟨r, hr, hc⟩ := Yh5 n hn hn3 e a c (Z3q x 3) most hm
  rw [Bool.not_true, cond_false, hr, Option.bind_some]
  rcases hc with rfl | ⟨ha, rfl⟩ | ⟨k, rfl, hk, hfl, rfl, hlen⟩
  ·rfl
  ·rw [decide_eq_false (by omega), cond_false, Z8q, Zoz, Option.bind_some, Zq7]
   have : Zcw n e a h (Z3q x 3) = some [] := by
    unfold Zcw
    have : (decide (a ≥ 0) && decide (a < (n.Switches.length : Int))) = false := by
     rw [Bool.and_eq_false_iff, decide_eq_false_iff_not, decide_eq_false_iff_not]; omega
    rw [this]; rfl
   rw [this]
   cases Zt c h <;> rfl
  ·have hrt := Y1c n hn e most hfl (Z84 (Z3q x 3)) k hk (Z0i c) Z2d h
   rw [Zkp, Y4k] at hrt
   have hle := Yke h (Z6p n e most (Z84 (Z3q x 3)) (k : Int) (Z0i c) Z2d)
   simp only at hlen
   rw [decide_eq_false (by omega), cond_false, Zsf c h n e (k : Int) x _ (fun i l => rfl) _ 0 [] (by simp; omega), List.nil_append]
   show (Zav c h).bind _ = _
   rw [Zoz, Option.bind_some, Zq7, hrt]
   cases hc : Zt c h
   ·rfl
   ·rw [hc, cond_true] at hrt
    rw [hrt] at hle
    rw [Bool.not_true, cond_false, cond_true, Yhr n hn e k hk h _ (by omega), Option.bind_some, Ygx _ (by omega)]; rfl
end Go.Proofs.YtknpgojdkobgjaaGreat.W
