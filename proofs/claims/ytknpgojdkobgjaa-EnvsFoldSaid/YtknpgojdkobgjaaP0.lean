/- A part of the proof. -/
import Derived.Test.YtknpgojdkobgjaaG1
set_option linter.unusedVariables false
set_option linter.unusedSimpArgs false
namespace Go.Proofs.Ytknpgojdkobgjaa.W
open Go Go.Wb
end Go.Proofs.Ytknpgojdkobgjaa.W
namespace Go.Proofs.Ytknpgojdkobgjaa.W
open Go Go.Wb
section sym
variable (lt : Action → Action → Bool) (cmp : Action → Action → Option Int)
variable {lt cmp}
end sym
end Go.Proofs.Ytknpgojdkobgjaa.W
namespace Go.Proofs.Ytknpgojdkobgjaa.W
open Go Go.Wb
section sym
variable {lt : Action → Action → Bool} {cmp : Action → Action → Option Int}
end sym
end Go.Proofs.Ytknpgojdkobgjaa.W
namespace Go.Proofs.Ytknpgojdkobgjaa.W
open Go Go.Wb
section ins
variable {lt : Action → Action → Bool} {cmp : Action → Action → Option Int}
end ins
end Go.Proofs.Ytknpgojdkobgjaa.W
namespace Go.Proofs.Ytknpgojdkobgjaa.W
open Go Go.Wb
section stable
variable {lt : Action → Action → Bool} {cmp : Action → Action → Option Int}
end stable
end Go.Proofs.Ytknpgojdkobgjaa.W
namespace Go.Proofs.Ytknpgojdkobgjaa.W
open Go Go.Wb
def Z8n (a b:Wide):Wide:=⟨a.Hi&&& b.Hi,a.Lo&&& b.Lo⟩
def wor (a b:Wide):Wide:=⟨a.Hi||| b.Hi,a.Lo||| b.Lo⟩
def Z5w (a b:Wide):Wide:=⟨a.Hi&&& ~~~b.Hi,a.Lo&&& ~~~b.Lo⟩
def wt (a:Wide)(i:Nat):Bool:=bif Nat.blt i 64 then a.Lo.getLsbD i else a.Hi.getLsbD (i - 64)
def Z47 (i:Nat):Wide:=bif Nat.blt i 64 then ⟨0,1#64<<<i⟩ else ⟨1#64<<<(i - 64),0⟩
theorem Zoq {i n:Nat}(h:i<n):Nat.blt i n=true:=by simpa using h
theorem Zpc {i n:Nat}(h:¬i<n):Nat.blt i n=false:=by
 cases hb:Nat.blt i n
 ·rfl
 ·exact absurd (by simpa using hb) h
theorem Zgy (x:BitVec 64)(n:Nat):Z5g x (n:Int)=some (x<<<n):=by
 unfold Z5g
 rw [decide_eq_false (by omega)]
 simp
theorem Zn0 (a b:Wide):Z9k a b=some (Z8n a b):=rfl
theorem Zqq (a b:Wide):Z88 a b=some (wor a b):=rfl
theorem Zmt (a b:Wide):Za5 a b=some (Z5w a b):=rfl
theorem Zqm (i:Nat)(h:i<128):Z6w (i:Int)=some (Z47 i):=by
 unfold Z6w
 have h1:(decide ((i:Int)<0)||decide ((i:Int)>127))=false:=by simp;omega
 have hq:Z3t .i64 (i:Int) 64=some ((i / 64:Nat):Int):=by
  unfold Z3t
  rw [decide_eq_false (by decide)]
  show some (IntKind.i64.wrap ((i / 64:Nat):Int))=_
  rw [Z0r (by omega) (by omega)]
 have hm:Z2j (i:Int) 64=some ((i % 64:Nat):Int):=Zey i 64 (by omega)
 rw [h1,cond_false,hq,Option.bind_some,hm,Option.bind_some,Zgy,Option.bind_some,Z7e (by omega),Option.bind_some]
 unfold Z47
 by_cases h2:i<64
 ·rw [Zoq h2,cond_true]
  have e1:i / 64=0:=by omega
  have e2:i % 64=i:=by omega
  simp only [e1,e2]
  rfl
 ·rw [Zpc h2,cond_false]
  have e1:i / 64=1:=by omega
  have e2:i % 64=i - 64:=by omega
  simp only [e1,e2]
  rfl
abbrev Z1w:=Vector Tern 24
abbrev Header:=Vector Wide 24
def Z3n (t:Tern):Tern:=⟨Z8n t.Value t.Mask,t.Mask⟩
theorem Zql (t:Tern):Z6o t=some (Z3n t):=rfl
def Z3k (c:Z1w):Z1w:=Vector.ofFn fun i=>Z3n (ve c i.1)
def Z8f (a b:Tern):Tern:=⟨wor (Z5w (Z3n a).Value b.Mask) (Z3n b).Value,wor a.Mask b.Mask⟩
theorem Zt0 (a b:Tern):Zaw a b=some (Z8f a b):=rfl
theorem Zj8 (f:Int→Option Tern)(g:Nat→Tern)(hf:∀i:Nat,i<24→f (i:Int)=some (g i))(b:Z1w):∀(m i:Nat),i+m=24→Z43 f m i (Z4b g b i)=some (Vector.ofFn (fun i=>g i.1))
 | 0,i,h=>by
  have:i=24:=by omega
  subst this
  rw [Z43,Zhi]
 | m+1,i,h=>by
  rw [Z43,hf i (by omega),Option.bind_some,Z7e (by omega),Option.bind_some]
  show Z43 f m (i+1) (Vector.set (Z4b g b i) i (g i) _)=_
  rw [Zjo g b i (by omega),Zj8 f g hf b m (i+1) (by omega)]
theorem Zlh (f:Int→Option Tern)(g:Nat→Tern)(hf:∀i:Nat,i<24→f (i:Int)=some (g i)):Z9o f=some (Vector.ofFn (fun i=>g i.1)):=by
 unfold Z9o
 have:=Zj8 f g hf (Vector.replicate 24 Z3a) 24 0 rfl
 rw [Ziq] at this
 exact this
theorem Zot (r:Z1w):Za3 r=some (Z3k r):=by
 unfold Za3
 rw [Zlh (fun x=>Z77 x r) (fun i=>Z3n (ve r i)) (fun i hi=>by unfold Z77;rw [Z7e hi,Option.bind_some,Zdq,Zql];rfl)]
 rfl
def Zcq (r:Z1w)(h:Header):Header:=Vector.ofFn fun f=>wor (Z5w (ve h f.1) (ve r f.1).Mask) (Z8n (ve r f.1).Value (ve r f.1).Mask)
theorem Zfu (r:Z1w)(h:Header):∀(l:List Tern) (i:Nat),i+l.length=24→l=(Vector.toList r).drop i→Z4i l i (Z4b (fun f=>wor (Z5w (ve h f) (ve r f).Mask) (Z8n (ve r f).Value (ve r f).Mask)) h i)=some (Zcq r h)
 | [],i,h1,h2=>by
  have:i=24:=by simpa using h1
  subst this
  rw [Z4i,Zhi];rfl
 | x::l,i,h1,h2=>by
  simp only [List.length_cons] at h1
  have hi:i<(Vector.toList r).length:=by simp;omega
  rw [List.drop_eq_getElem_cons hi] at h2
  obtain ⟨rfl,h3⟩:=List.cons.inj h2
  have hx:(Vector.toList r)[i]=ve r i:=by rw [Vector.getElem_toList,Z5j _ _ (by omega)]
  rw [Z4i,hx,Z7e (by omega),Option.bind_some,Zdq,Zmt,Option.bind_some,Zn0,Option.bind_some,Zqq,Option.bind_some,Option.bind_some,Z8h _ _ _ _ (by omega),if_neg (by omega)]
  have:=Zjo (fun f=>wor (Z5w (ve h f) (ve r f).Mask) (Z8n (ve r f).Value (ve r f).Mask)) h i (by omega)
  rw [this]
  exact Zfu r h l (i+1) (by omega) h3
theorem Zmp (r:Z1w)(h:Header):Zab r h=some (Zcq r h):=by
 unfold Zab
 have:=Zfu r h (Vector.toList r) 0 (by simp) rfl
 rw [Ziq] at this
 exact this
def Z6j (r:Z1w)(f:Int)(v m:Wide):Z1w:=bif decide (f≥0)&&decide (f<24) then Vector.ofFn fun i=>if f.toNat=i.1 then Z8f (ve (Z3k r) f.toNat) ⟨v,m⟩ else ve (Z3k r) i.1 else Z3k r
theorem Zc8 (r:Z1w)(f:Int)(v m:Wide):Z56 r f v m=some (Z6j r f v m):=by
 unfold Z56 Z6j Z4o
 rw [Zot,Option.bind_some,Option.bind_some]
 cases hc:(decide (f≥0)&&decide (f<24))
 ·rfl
 ·simp only [Bool.and_eq_true,decide_eq_true_eq] at hc
  obtain ⟨n,rfl⟩:∃n:Nat,f=(n:Int):=⟨f.toNat,by omega⟩
  have hn:n<24:=by omega
  have e:Vector.set (Z3k r) n (Z8f (ve (Z3k r) n) ⟨v,m⟩) hn=Vector.ofFn fun i:_root_.Fin 24=>if n=i.1 then Z8f (ve (Z3k r) n) ⟨v,m⟩ else ve (Z3k r) i.1:=Zco fun j hj=>by
   rw [Zhm _ _ _ _ _ hj]
   exact (Zj9 (fun i=>if n=i then Z8f (ve (Z3k r) n) ⟨v,m⟩ else ve (Z3k r) i) j hj).symm
  rw [cond_true,cond_true,Z7e hn,Option.bind_some,Zdq,Zt0,Option.bind_some,Option.bind_some,Int.toNat_natCast]
  exact congrArg some e
theorem Ziu (n:Int):∃x,Z6l n=some x:=by
 unfold Z6l
 cases decide (n≥64)
 ·have h0:0≤Z1c n 0:=by
   unfold Z1c
   by_cases h:(0:Int)>n
   ·simp [h]
   ·simp [h];omega
  obtain ⟨k,hk⟩:∃k:Nat,Z1c n 0=(k:Int):=⟨(Z1c n 0).toNat,by omega⟩
  rw [cond_false,hk,Zgy]
  exact ⟨_,rfl⟩
 ·exact ⟨_,rfl⟩
def Zas (n:Int):Wide:=(Z3r n).getD Z1s
theorem Zew (n:Int):Z3r n=some (Zas n):=by
 obtain ⟨x,hx⟩:=Ziu (IntKind.i64.wrap ((Z1u (Z1c n 0) 128) - 64))
 obtain ⟨y,hy⟩:=Ziu (Z1u (Z1c n 0) 128)
 have:Z3r n=some ⟨x,y⟩:=by unfold Z3r;rw [hx,Option.bind_some,hy];rfl
 unfold Zas
 rw [this];rfl
def Zdf (n:Int):Int:=(Z5c n).getD 0
theorem Zlj:∃v,Z9n=some v:=by unfold Z9n;exact ⟨_,rfl⟩
theorem Ztb (n:Int):Z5c n=some (Zdf n):=by
 have:∃x,Z5c n=some x:=by
  unfold Z5c Zcs Z4o
  rw [Option.bind_some]
  cases hc:(decide (n≥0)&&decide (n<24))
  ·exact ⟨_,rfl⟩
  ·simp only [Bool.and_eq_true,decide_eq_true_eq] at hc
   obtain ⟨k,rfl⟩:∃k:Nat,n=(k:Int):=⟨n.toNat,by omega⟩
   obtain ⟨v,hv⟩:=Zlj
   rw [Bool.not_true,cond_false,hv,Option.bind_some,Z16 (by simp;omega),Option.bind_some,Option.bind_some]
   exact ⟨_,rfl⟩
 obtain ⟨x,hx⟩:=this
 unfold Zdf
 rw [hx];rfl
def oxT (o:Oxm):Tern:=bif decide (o.Field≥0)&&decide (o.Field<24) then (bif o.Masked then ⟨o.Value,o.Mask⟩ else ⟨o.Value,Zas (Zdf o.Field)⟩) else ⟨Z1s,Z1s⟩
theorem Zsb (o:Oxm):Z9g o=some (oxT o):=by
 unfold Z9g oxT Z4o
 rw [Option.bind_some]
 cases decide (o.Field≥0)&&decide (o.Field<24)
 ·rfl
 ·rw [Bool.not_true,cond_false,cond_true]
  cases o.Masked
  ·rw [cond_false,cond_false,Ztb,Option.bind_some,Zew];rfl
  ·rfl
def Z9d:Z1w:=Vector.replicate 24 Z3a
def Zch (a:Action):Z1w:=
 bif decide (a.Kind=25) then Z6j Z9d a.Oxm.Field (oxT a.Oxm).Value (oxT a.Oxm).Mask
 else bif decide (a.Kind=17) then Z6j Z9d 5 (Z47 12) (Z47 12)
 else bif decide (a.Kind=18) then Z6j (Z6j Z9d 5 ⟨0,0⟩ (Zas 13)) 6 ⟨0,0⟩ (Zas 3)
 else Z9d
theorem Zlm (a:Action):Z8m a=some (Zch a):=by
 unfold Z8m Zch
 rw [show Zb7=some Z9d from rfl,Option.bind_some]
 cases decide (a.Kind=25)
 ·rw [cond_false,cond_false]
  cases decide (a.Kind=17)
  ·rw [cond_false,cond_false]
   cases decide (a.Kind=18)
   ·rfl
   ·rw [cond_true,cond_true,Zew,Option.bind_some,Zc8,Option.bind_some,Zew,Option.bind_some,Zc8];rfl
  ·rw [cond_true,cond_true,show (12:Int)=((12:Nat):Int) from rfl,Zqm 12 (by decide),Option.bind_some,Option.bind_some,Zc8];rfl
 ·rw [cond_true,cond_true,Zsb,Option.bind_some,Zc8];rfl
def Zdr (a:Action):Int:=bif decide (a.Port=4294967293) then a.Max else 0
theorem Ztg (a:Action):Z9m a=some (Zdr a):=by
 unfold Z9m Zdr
 cases decide (a.Port=4294967293)<;>rfl
theorem Zcd {α:Type}(p:α→Bool):∀l:List α,0≤Zj p l→(l.take ((Zj p l).toNat+1)).filter (fun x=> !p x)=l.take (Zj p l).toNat
 | [],h=>by simp [Zj] at h
 | x::l,h=>by
  unfold Zj at h ⊢
  cases hp:p x
  ·rw [hp] at h
   by_cases h':Zj p l<0
   ·simp [h'] at h
   ·simp only [cond_false,decide_eq_false h']
    have e:(Zj p l+1).toNat=(Zj p l).toNat+1:=by omega
    rw [e,List.take_succ_cons,List.take_succ_cons,List.filter_cons_of_pos (by simp [hp]),Zcd p l (by omega)]
  ·simp [hp]
theorem Zf5 {α:Type}(p:α→Bool)(l:List α)(h:Zj p l<0):l.filter (fun x=> !p x)=l:=by
 rw [List.filter_eq_self]
 intro x hx
 rw [Zj4 p l h x hx];rfl
theorem Ze4 {α:Type}(p:α→Bool):∀l:List α,(Zj p l<0∧l.find? p=none)∨∃n:Nat,Zj p l=(n:Int)∧∃h:n<l.length,l.find? p=some l[n]∧p l[n]=true
 | []=> .inl ⟨by simp [Zj],rfl⟩
 | x::l=>by
  unfold Zj
  cases hp:p x
  ·rw [cond_false,List.find?_cons_of_neg (by simp [hp])]
   rcases Ze4 p l with ⟨h1,h2⟩ | ⟨n,h1,h2,h3,h4⟩
   ·left;rw [decide_eq_true h1];exact ⟨by show (-1:Int)<0;decide,h2⟩
   ·right
    rw [decide_eq_false (by omega)]
    exact ⟨n+1,by show Zj p l+1=_;omega,by simp;omega,by simpa using h3,by simpa using h4⟩
  ·right
   exact ⟨0,rfl,by simp,by rw [List.find?_cons_of_pos hp];rfl,hp⟩
theorem Ze8 (s:List Action)(f:Action→Option Bool)(p:Action→Bool)(hf:∀x∈s,f x=some (p x)):Z5b s f=some (Zj p s):=by
 unfold Z5b
 rw [show ((s.length:Int)).toNat=s.length by omega]
 exact Z6g p (fun i=>by rw [Z6a]) (fun m i=>by rw [Z6a]) hf
theorem Zdt (s:List Group)(f:Group→Option Bool)(p:Group→Bool)(hf:∀x∈s,f x=some (p x)):Z67 s f=some (Zj p s):=by
 unfold Z67
 rw [show ((s.length:Int)).toNat=s.length by omega]
 exact Z6g p (fun i=>by rw [Z5m]) (fun m i=>by rw [Z5m]) hf
theorem Zju (s:List Bucket)(f:Bucket→Option Bool)(p:Bucket→Bool)(hf:∀x∈s,f x=some (p x)):Z6u s f=some (Zj p s):=by
 unfold Z6u
 rw [show ((s.length:Int)).toNat=s.length by omega]
 exact Z6g p (fun i=>by rw [Z5u]) (fun m i=>by rw [Z5u]) hf
theorem Zjd (s:List Int)(v:Int):Z7f s v=some (Zj (fun x=>decide (v=x)) s):=by
 unfold Z7f
 rw [show ((s.length:Int)).toNat=s.length by omega]
 exact Z6g (f:=fun x=>some (decide (v=x))) (fun x=>decide (v=x)) (fun i=>by rw [Z5t]) (fun m i=>by rw [Z5t];rfl) (fun _ _=>rfl)
theorem Zto (s:List Int)(v:Int):Z8x s v=some (s.contains v):=by
 unfold Z8x;rw [Zjd,Option.bind_some,Z7t]
 congr 1
 rw [Bool.eq_iff_iff,List.any_eq_true,List.contains_iff_mem]
 simp
theorem Zj1 (e:Env)(n:Int):Z6t e n=some (!e.Down.contains n):=by
 unfold Z6t;rw [Zto];rfl
theorem Zsq (s:List Action)(f:Action→Option Bool)(p:Action→Bool)(hf:∀x∈s,f x=some (p x))(hl:s.length≤Zq):Z9r s f=some (s.filter (fun x=> !p x)):=by
 have hlim:Zq=4294967296:=rfl
 unfold Z9r
 rw [Ze8 s f p hf,Option.bind_some]
 by_cases h:Zj p s<0
 ·have:=Z6y p s
  rw [decide_eq_true (by omega),cond_true,Zf5 p s h]
 ·have hlt:=Z85 p s
  rw [decide_eq_false (by omega),cond_false,Z0r (by omega) (by omega)]
  have key:=Zd5 (z:=Zc3) (G:=Z5y f) (s:=s) (f:=f) p (fun m l i j=>by rw [Z5y]) hf hl (((s.length:Int) - (Zj p s+1)).toNat+1) s (Zj p s).toNat ((Zj p s).toNat+1) (by omega) (by omega) (by omega) rfl rfl (Zcd p s (by omega)).symm
  rw [show ((Zj p s).toNat:Int)=Zj p s by omega,show (((Zj p s).toNat+1:Nat):Int)=Zj p s+1 by omega] at key
  exact key
theorem Zpn (s:List Action)(f:Action→Option Bool)(p:Action→Bool)(hf:∀x∈s,f x=some (p x)):Z9s s f=some (s.any p):=by
 unfold Z9s;rw [Ze8 s f p hf,Option.bind_some,Z7t]
def Z02 (a:Action):aset_spot:=bif decide (a.Kind=25) then ⟨a.Kind,a.Oxm.Field⟩ else ⟨a.Kind,0⟩
theorem Zc0 (a:Action):Z57 a=some (Z02 a):=by
 unfold Z57 Z02
 cases decide (a.Kind=25)<;>rfl
theorem Zqp (b c:Action):Z5d b c=some (decide (Z02 c=Z02 b)):=by
 unfold Z5d
 rw [Zc0,Option.bind_some,Zc0];rfl
def wr1 (l:List Action)(x:Action):List Action:=bif decide (Zj (fun b=>decide (Z02 x=Z02 b)) l<0) then l++[x] else l.set (Zj (fun b=>decide (Z02 x=Z02 b)) l).toNat x
theorem Zg4 (l:List Action)(x:Action):(wr1 l x).length≤l.length+1:=by
 unfold wr1
 cases decide (Zj (fun b=>decide (Z02 x=Z02 b)) l<0)<;>simp
theorem Zf4:∀(l:List Action) (i:Nat) (acc:List Action),acc.length+l.length≤Zq→Z46 l i acc=some (l.foldl wr1 acc)
 | [],i,acc,_=>by rw [Z46];rfl
 | x::l,i,acc,h=>by
  simp only [List.length_cons] at h
  have hw:=Zg4 acc x
  rw [Z46,Ze8 acc (fun y=>Z5d y x) (fun b=>decide (Z02 x=Z02 b)) (fun y _=>Zqp y x),Option.bind_some,List.foldl_cons]
  have hi:=Z85 (fun b=>decide (Z02 x=Z02 b)) acc
  by_cases hc:Zj (fun b=>decide (Z02 x=Z02 b)) acc<0
  ·rw [decide_eq_true hc,cond_true,Z23 (by simp;omega),Option.bind_some,Zf4 l (i+1) _ (by simp;omega)]
   unfold wr1
   rw [decide_eq_true hc,cond_true]
  ·obtain ⟨n,hn⟩:∃n:Nat,Zj (fun b=>decide (Z02 x=Z02 b)) acc=(n:Int):=⟨(Zj (fun b=>decide (Z02 x=Z02 b)) acc).toNat,by omega⟩
   rw [decide_eq_false hc,cond_false,hn,Z16 (by omega),Option.bind_some,Zf4 l (i+1) _ (by simp;omega)]
   unfold wr1
   rw [decide_eq_false hc,cond_false,hn]
theorem Zrz (s l:List Action)(h:s.length+l.length≤Zq):Zac s l=some (l.foldl wr1 s):=by
 unfold Zac Z4a
 rw [Z23 (by simp;omega),Option.bind_some,List.nil_append,Zf4 l 0 s h]
theorem Zh4:∀(l s:List Action),(l.foldl wr1 s).length≤s.length+l.length
 | [],s=>by simp
 | x::l,s=>by
  have h1:=Zh4 l (wr1 s x)
  have h2:=Zg4 s x
  rw [List.foldl_cons,List.length_cons];omega
theorem Zkt (l:List Action)(x:Action)(h:(l.map Z02).Nodup):((wr1 l x).map Z02).Nodup:=by
 unfold wr1
 rcases Ze4 (fun b=>decide (Z02 x=Z02 b)) l with ⟨h1,h2⟩ | ⟨n,h1,h2,h3,h4⟩
 ·rw [decide_eq_true h1,cond_true,List.map_append,List.nodup_append]
  refine ⟨h,by simp,?_⟩
  intro a ha b hb e
  simp only [List.map_cons,List.map_nil,List.mem_singleton] at hb
  subst e;subst hb
  obtain ⟨y,hy,hk⟩:=List.mem_map.1 ha
  have:=List.find?_eq_none.1 h2 y hy
  simp [hk] at this
 ·rw [decide_eq_false (by omega),cond_false,h1,Int.toNat_natCast]
  have hk:Z02 x=Z02 l[n]:=by simpa using h4
  have:(l.set n x).map Z02=l.map Z02:=by
   rw [List.map_set,hk]
   apply List.ext_getElem
   ·simp
   ·intro i h5 h6
    rw [List.getElem_set]
    split
    ·rename_i e;subst e;simp
    ·rfl
  rw [this];exact h
theorem Zja:∀(l s:List Action),(s.map Z02).Nodup→((l.foldl wr1 s).map Z02).Nodup
 | [],s,h=>h
 | x::l,s,h=>Zja l _ (Zkt s x h)
def Z40 (k:Int):Int:=Zj (fun x=>decide (k=x)) [18,17,25,22,0]
theorem Zeg (k:Int):Z62 k=some (Z40 k):=by
 unfold Z62 Z40
 rw [Zjd];rfl
def Z8o (goes:Bool)(a:Action):Bool:= !(decide (Z40 a.Kind<0)||(goes&&decide (a.Kind=0)))
def Zfj (a b:Action):Int:=
 bif decide (IntKind.i64.wrap (Z40 (Z02 a).kind - Z40 (Z02 b).kind)≠0) then IntKind.i64.wrap (Z40 (Z02 a).kind - Z40 (Z02 b).kind)
 else bif decide ((Z02 a).field<(Z02 b).field) then -1 else bif decide ((Z02 a).field>(Z02 b).field) then 1 else 0
theorem Zlg (a b:Action):Z3x a b=some (Zfj a b):=by
 unfold Z3x Zfj
 rw [Zc0,Option.bind_some,Zc0,Option.bind_some,Zeg,Option.bind_some,Zeg,Option.bind_some]
 cases decide (IntKind.i64.wrap (Z40 (Z02 a).kind - Z40 (Z02 b).kind)≠0)
 ·rw [cond_false,cond_false]
  cases decide ((Z02 a).field<(Z02 b).field)
  ·rw [cond_false,cond_false]
   cases decide ((Z02 a).field>(Z02 b).field)<;>rfl
  ·rfl
 ·rfl
theorem Zfk {α:Type}(lt:α→α→Bool)(x:α):∀R:List α,(Z2h lt x R).Perm (x::R)
 | []=>List.Perm.refl _
 | y::R=>by
  rw [Z2h]
  cases lt x y
  ·exact List.Perm.refl _
  ·exact ((Zfk lt x R).cons y).trans (List.Perm.swap x y R)
theorem Ziz {α:Type}(lt:α→α→Bool):∀(l R:List α),(l.foldl (fun R x=>Z2h lt x R) R).Perm (l++R)
 | [],R=>List.Perm.refl _
 | x::l,R=>by
  rw [List.foldl_cons]
  refine (Ziz lt l _).trans ?_
  refine ((Zfk lt x R).append_left l).trans ?_
  exact List.perm_middle
theorem Zod {α:Type}(lt:α→α→Bool)(l:List α):(srt lt l).Perm l:=by
 unfold srt
 refine (List.reverse_perm _).trans ?_
 have:=Ziz lt l []
 rwa [List.append_nil] at this
theorem Zbt {α:Type}(lt:α→α→Bool)(x:α)(R:List α):(Z2h lt x R).length=R.length+1:=by
 have:=(Zfk lt x R).length_eq
 simpa using this
def ltA (a b:Action):Bool:=decide (Zfj a b<0)
theorem Zga (go:List Action→Int→Option (List Action))(i:Int)(x:Action):∀(R S:List Action) (m:Nat),R.length<m→R.length≤Zq→
  Z64 0 Z3x go i m (R.reverse++x::S) (R.length:Int)=go ((Z2h ltA x R).reverse++S) (IntKind.i64.wrap (i+1))
 | [],S,m,h,_=>by
  obtain ⟨m,rfl⟩:∃k,m=k+1:=⟨m - 1,by simp at h;omega⟩
  rw [Z64]
  simp [opt,Z2h]
 | y::R,S,m,h,hl=>by
  have hlim:Zq=4294967296:=rfl
  simp only [List.length_cons] at h hl
  obtain ⟨m,rfl⟩:∃k,m=k+1:=⟨m - 1,by omega⟩
  have e0:(y::R).reverse++x::S=R.reverse++y::x::S:=by simp
  have ej:IntKind.i64.wrap (((y::R).length:Int) - 1)=(R.length:Int):=by rw [Z0r (by simp only [List.length_cons];omega) (by simp only [List.length_cons];omega)];simp only [List.length_cons];omega
  have hlen:∀a b:Action,(R.reverse++a::b::S).length=R.length+(S.length+2):=fun a b=>by simp
  have g1:∀a b:Action,lget (R.reverse++a::b::S) (((y::R).length:Int))=some b:=fun a b=>by
   rw [Zfg,List.getElem?_append_right (by simp)];first | done | simp
  have g0:∀a b:Action,lget (R.reverse++a::b::S) ((R.length:Int))=some a:=fun a b=>by
   rw [Zfg,List.getElem?_append_right (by simp)];first | done | simp
  have s1:∀a b c:Action,List.set (R.reverse++a::b::S) (((y::R).length:Int)).toNat c=R.reverse++a::c::S:=fun a b c=>by
   rw [Int.toNat_natCast,List.set_append_right _ _ (by simp)];first | done | simp
  have s0:∀a b c:Action,List.set (R.reverse++a::b::S) ((R.length:Int)).toNat c=R.reverse++c::b::S:=fun a b c=>by
   rw [Int.toNat_natCast,List.set_append_right _ _ (by simp)];first | done | simp
  rw [e0,Z64,decide_eq_true (by simp only [List.length_cons];omega),Z36,g1,Option.bind_some,Z36,ej,g0,Option.bind_some,Z36,Zlg,Option.bind_some,Bool.true_and,Z2h]
  show (bif ltA x y then _ else _)=_
  cases ltA x y
  ·rw [cond_false,cond_false]
   simp
  ·rw [cond_true,cond_true,Option.bind_some,Option.bind_some,Option.bind_some,s1,g0,Option.bind_some,s0,Zga go i x R (y::S) m (by omega) (by omega)]
   simp
theorem Zi8:∀(T R:List Action) (m:Nat),T.length<m→1≤R.length→R.length+T.length≤1000→
  Z4p ((R.length+T.length:Nat):Int) 0 Z3x m (R.reverse++T) (R.length:Int)=some ((T.foldl (fun R x=>Z2h ltA x R) R).reverse)
 | [],R,m,h,_,_=>by
  obtain ⟨m,rfl⟩:∃k,m=k+1:=⟨m - 1,by simp at h;omega⟩
  rw [Z4p,decide_eq_false (by simp),cond_false]
  simp
 | x::T,R,m,h,h1,h2=>by
  have hlim:Zq=4294967296:=rfl
  simp only [List.length_cons] at h h2
  obtain ⟨m,rfl⟩:∃k,m=k+1:=⟨m - 1,by omega⟩
  have e:IntKind.i64.wrap ((R.length:Int)+1)=(((Z2h ltA x R).length:Nat):Int):=by rw [Zbt,Z0r (by omega) (by omega)];omega
  have hn:R.length+(x::T).length=(Z2h ltA x R).length+T.length:=by rw [Zbt,List.length_cons];omega
  rw [Z4p,decide_eq_true (by simp;omega),cond_true,Zga _ _ x R T Z1p (by unfold Z1p;omega) (by omega),e,hn,Zi8 T (Z2h ltA x R) m (by omega) (by rw [Zbt];omega) (by rw [Zbt];omega),List.foldl_cons]
theorem Zt2 (l:List Action)(h:l.length≤1000):Z7y l 0 (l.length:Int) Z3x=some (srt ltA l):=by
 unfold Z7y srt
 have e:IntKind.i64.wrap ((0:Int)+1)=1:=by decide
 rw [e]
 cases l with
 | nil=>rfl
 | cons x l=>
  simp only [List.length_cons] at h
  have:=Zi8 l [x] ((((x::l).length:Int) - 1).toNat+1) (by simp) (by simp) (by simp;omega)
  have e2:(([x].length+l.length:Nat):Int)=((x::l).length:Int):=by simp;omega
  rw [e2] at this
  simp only [List.reverse_singleton,List.singleton_append] at this
  rw [List.foldl_cons]
  exact this
theorem Zt3 (l:List Action)(h:l.length<20):Z8g l Z3x=some (srt ltA l):=by
 unfold Z8g Zbq
 obtain ⟨m,hm⟩:∃m,(((l.length:Int):Int) - 20).toNat+2=m+1:=⟨_,rfl⟩
 rw [hm,Zad,decide_eq_false (by omega),cond_false,Zt2 l (by omega),Option.bind_some]
 obtain ⟨k,hk⟩:∃m,(((l.length:Int):Int) - 20).toNat+1=m+1:=⟨_,rfl⟩
 rw [hk,Z7a,decide_eq_false (by omega),cond_false]
 rfl
def Z8j (s:List Action):List Action:=srt ltA (s.filter (Z8o (s.any fun a=>decide (a.Kind=22))))
theorem Zpp (s:List Action)(h:s.length<20):Z8k s=some (Z8j s):=by
 have hlim:Zq=4294967296:=rfl
 unfold Z8k Z4a Z8j
 rw [Zpn s Zbz (fun a=>decide (a.Kind=22)) (fun _ _=>rfl),Option.bind_some,Z23 (by simp;omega),Option.bind_some,List.nil_append]
 have hf:∀a:Action,Z7c a (s.any fun a=>decide (a.Kind=22))=some (!Z8o (s.any fun a=>decide (a.Kind=22)) a):=fun a=>by
  unfold Z7c Z8o
  rw [Zeg,Option.bind_some,Bool.not_not]
 rw [Zsq s _ (fun a=> !Z8o (s.any fun a=>decide (a.Kind=22)) a) (fun a _=>hf a) (by omega),Option.bind_some]
 simp only [Bool.not_not]
 rw [Zt3 _ (Nat.lt_of_le_of_lt (List.length_filter_le ..) h)]
 rfl
theorem Zg3 (bs:List Bucket)(h:∀x∈bs,x.Acts.length≤12):∀(m i:Nat),i+m=bs.length→Z5a m i bs=some bs
 | 0,i,_=>by rw [Z5a]
 | m+1,i,hi=>by
  have hlim:Zq=4294967296:=rfl
  have hlt:i<bs.length:=by omega
  have ha:=h bs[i] (List.getElem_mem hlt)
  have e:List.set bs ((i:Int)).toNat {bs[i] with Acts:=bs[i].Acts}=bs:=by
   rw [Int.toNat_natCast];exact List.set_getElem_self hlt
  rw [Z5a,Z16 hlt,Option.bind_some]
  unfold Z4a
  rw [Z23 (by simp;omega),Option.bind_some,Option.bind_some,List.nil_append,e]
  exact Zg3 bs h m (i+1) (by omega)
def Z6e (l:List Group)(id:Int):Option Group:=l.find? fun g=>decide (g.ID=id)
theorem Zf7 {l:List Group}{id:Int}{g:Group}(h:Z6e l id=some g):g∈l:=List.mem_of_find?_eq_some h
def Z29 (e:Env)(n:Nat):Int:=(Z45 e (n:Int)).getD 0
theorem Zb9 (e:Env)(n:Nat)(hn:0<n)(hn2:n≤1000):Z45 e (n:Int)=some (Z29 e n)∧0≤Z29 e n∧Z29 e n<n:=by
 have key:∃t,Z45 e (n:Int)=some t∧0≤t∧t<n:=by
  unfold Z45 Z2j
  rw [decide_eq_false (by omega),cond_false,decide_eq_false (by omega),cond_false,Option.bind_some]
  have h1:=Int.tmod_lt_of_pos e.Turn (show (0:Int)<n by omega)
  have h2: -(n:Int)<e.Turn.tmod (n:Int):=by
   have:=Int.lt_tmod_of_pos e.Turn (show (0:Int)<n by omega)
   exact this
  by_cases hc:e.Turn.tmod (n:Int)<0
  ·rw [decide_eq_true hc,cond_true,Z0r (by omega) (by omega)]
   exact ⟨_,rfl,by omega,by omega⟩
  ·rw [decide_eq_false hc,cond_false]
   exact ⟨_,rfl,by omega,by omega⟩
 obtain ⟨t,ht,h1,h2⟩:=key
 have e:Z29 e n=t:=by unfold Z29;rw [ht];rfl
 rw [e]
 exact ⟨ht,h1,h2⟩
def Z3l (e:Env)(bs:List Bucket):Int:=Zj (fun x=> !e.Down.contains x.Watch) bs
def Z1z (e:Env)(g:Group):List Int:=
 bif decide (g.Buckets.length=0) then []
 else bif decide (g.Kind=0) then (List.range' 0 g.Buckets.length).map fun (i:Nat)=>(i:Int)
 else bif decide (g.Kind=1) then [Z29 e g.Buckets.length]
 else bif decide (g.Kind=2) then [0]
 else bif decide (g.Kind=3) then (bif decide (Z3l e g.Buckets≥0) then [Z3l e g.Buckets] else [])
 else []
theorem Zfx:∀(m i:Nat) (acc:List Int),acc.length+m≤Zq→Z50 m i acc=some (acc++(List.range' i m).map fun (i:Nat)=>(i:Int))
 | 0,i,acc,_=>by rw [Z50];simp
 | m+1,i,acc,h=>by
  rw [Z50,Z23 (by simp;omega),Option.bind_some,Zfx m (i+1) _ (by simp;omega),List.range'_succ]
  simp
def Z3d (acts:List Action):List Action:=Z8j (acts.foldl wr1 [])
def Z21 (l:List Action):Nat:=l.countP fun a=>decide (a.Kind=0)||decide (a.Kind=22)
theorem Zki {a b:Action}(ha:a.Kind≠25)(h:a.Kind=b.Kind):Z02 a=Z02 b:=by
 unfold Z02
 rw [decide_eq_false ha,decide_eq_false (h▸ha),h];rfl
theorem Zev (k:Int)(hk:k≠25):∀l:List Action,(l.map Z02).Nodup→(l.countP fun a=>decide (a.Kind=k))≤1
 | [],_=>by simp
 | a::l,h=>by
  rw [List.map_cons,List.nodup_cons] at h
  rw [List.countP_cons]
  have ih:=Zev k hk l h.2
  by_cases ha:a.Kind=k
  ·have:(l.countP fun a=>decide (a.Kind=k))=0:=by
    rw [List.countP_eq_zero]
    intro b hb hbk
    have hbk':b.Kind=k:=by simpa using hbk
    exact h.1 (List.mem_map.2 ⟨b,hb,(Zki (by rw [ha];exact hk) (by rw [ha,hbk'])).symm⟩)
   rw [this,decide_eq_true ha];simp
  ·rw [decide_eq_false ha];simpa using ih
theorem Zqb {l m:List Action}(h:l.Perm m):Z21 l=Z21 m:=h.countP_eq _
theorem Zha (acts:List Action):Z21 (Z3d acts)≤1:=by
 unfold Z3d Z8j
 rw [Zqb (Zod _ _)]
 have hn:=Zja acts [] (by simp)
 generalize acts.foldl wr1 []=s at*
 unfold Z21
 rw [List.countP_filter]
 cases hg:s.any (fun a=>decide (a.Kind=22))
 ·refine Nat.le_trans (List.countP_mono_left fun a ha h=>?_) (Zev 0 (by decide) s hn)
  rw [List.any_eq_false] at hg
  have:=hg a ha
  simp only [Bool.and_eq_true,Bool.or_eq_true,decide_eq_true_eq] at h
  rcases h.1 with h | h
  ·simpa using h
  ·exact absurd (by simpa using h) this
 ·refine Nat.le_trans (List.countP_mono_left fun a ha h=>?_) (Zev 22 (by decide) s hn)
  simp only [Bool.and_eq_true,Bool.or_eq_true,decide_eq_true_eq] at h
  rcases h.1 with h1 | h1
  ·have h2:=h.2
   unfold Z8o at h2
   simp [h1] at h2
  ·simpa using h1
def doA (G:Int→Header→List Out):List Action→List Out→Header→List Out×Header
 | [],o,h=>(o,h)
 | a::l,o,h=>bif decide (a.Kind=0) then doA G l (o++[⟨a.Port,Zdr a,h⟩]) h
  else bif decide (a.Kind=22) then doA G l (o++G a.Group h) h
  else doA G l o (Zcq (Zch a) h)
def Z51 (bs:List Bucket)(i:Int):List Action:=match bs[i.toNat]? with
 | some b=>b.Acts
 | none=>[]
def goG (l:List Group)(e:Env):Nat→Int→Header→List Out
 | 0,_,_=>[]
 | d+1,id,h=>match Z6e l id with
  | none=>[]
  | some g=>(Z1z e g).flatMap fun i=>(doA (goG l e d) (Z3d (Z51 g.Buckets i)) [] h).1
theorem Z55 (G:Int→Header→List Out):∀(l:List Action) (o:List Out) (h:Header),doA G l o h=(o++(doA G l [] h).1,(doA G l [] h).2)
 | [],o,h=>by simp [doA]
 | a::l,o,h=>by
  rw [doA,doA]
  cases decide (a.Kind=0)
  ·rw [cond_false,cond_false]
   cases decide (a.Kind=22)
   ·rw [cond_false,cond_false];exact Z55 G l o _
   ·rw [cond_true,cond_true,Z55 G l (o++_),Z55 G l ([]++_)];simp
  ·rw [cond_true,cond_true,Z55 G l (o++_),Z55 G l ([]++_)];simp
theorem Zet (G:Int→Header→List Out)(B:Nat)(hB:1≤B)(hG:∀id h,(G id h).length≤B):∀(l:List Action) (h:Header),(doA G l [] h).1.length≤Z21 l*B
 | [],h=>by simp [doA]
 | a::l,h=>by
  have ih:=Zet G B hB hG l
  unfold Z21 at ih ⊢
  rw [doA,List.countP_cons]
  by_cases h0:a.Kind=0
  ·rw [decide_eq_true h0,cond_true,Z55]
   simp only [List.nil_append,List.length_append,List.length_cons,List.length_nil,Bool.true_or,if_true]
   have:=ih h
   rw [Nat.add_mul,Nat.one_mul];omega
  ·rw [decide_eq_false h0,cond_false]
   by_cases h1:a.Kind=22
   ·rw [decide_eq_true h1,cond_true,Z55]
    have h2:=hG a.Group h
    simp only [List.nil_append,List.length_append,Bool.or_true,if_true]
    have:=ih h
    rw [Nat.add_mul,Nat.one_mul];omega
   ·rw [decide_eq_false h1,cond_false]
    have:=ih (Zcq (Zch a) h)
    simpa using this
theorem Zgs {α β:Type}(f:α→List β)(k:Nat):∀l:List α,(∀x∈l,(f x).length≤k)→(l.flatMap f).length≤l.length*k
 | [],_=>by simp
 | x::l,h=>by
  rw [List.flatMap_cons,List.length_append,List.length_cons,Nat.succ_mul]
  have h1:=h x (by simp)
  have h2:=Zgs f k l fun y hy=>h y (by simp [hy])
  omega
theorem Za6 (R:Zu→Int→Option Zu)(G:Int→Header→List Out)(e:Env)(l:List Group)(dep:Int)(B:Nat)(hB:1≤B)(hG:∀id h,(G id h).length≤B)
  (hR:∀o id h,o.length+B≤Zq→R ⟨e,l,o,h,dep⟩ id=some ⟨e,l,o++G id h,h,dep⟩):
  ∀(acts:List Action) (i:Nat) (o:List Out) (h:Header),o.length+Z21 acts*B≤Zq→Z3b R acts i o e l h dep=some ⟨e,l,(doA G acts o h).1,(doA G acts o h).2,dep⟩
 | [],i,o,h,_=>by rw [Z3b];rfl
 | a::acts,i,o,h,hb=>by
  unfold Z21 at hb
  rw [List.countP_cons] at hb
  rw [Z3b,doA]
  by_cases h0:a.Kind=0
  ·simp only [decide_eq_true h0,Bool.true_or,if_true,Nat.add_mul,Nat.one_mul] at hb
   rw [decide_eq_true h0,cond_true,cond_true,Ztg,Option.bind_some,Z23 (by simp;omega),Option.bind_some]
   exact Za6 R G e l dep B hB hG hR acts (i+1) _ h (by unfold Z21;simp;omega)
  ·rw [decide_eq_false h0,cond_false,cond_false]
   by_cases h1:a.Kind=22
   ·simp only [decide_eq_true h1,Bool.or_true,if_true,Nat.add_mul,Nat.one_mul] at hb
    have h2:=hG a.Group h
    rw [decide_eq_true h1,cond_true,cond_true,hR o a.Group h (by omega),Option.bind_some]
    exact Za6 R G e l dep B hB hG hR acts (i+1) _ h (by unfold Z21;simp;omega)
   ·simp only [decide_eq_false h0,decide_eq_false h1,Bool.or_self] at hb
    rw [decide_eq_false h1,cond_false,cond_false,Zlm,Option.bind_some,Zmp,Option.bind_some]
    exact Za6 R G e l dep B hB hG hR acts (i+1) o _ (by unfold Z21;simpa using hb)
end Go.Proofs.Ytknpgojdkobgjaa.W
namespace Go.Proofs.Ytknpgojdkobgjaa.W
open Go Go.Wb
end Go.Proofs.Ytknpgojdkobgjaa.W
namespace Go.Proofs.Ytknpgojdkobgjaa.W
open Go Go.Wb
end Go.Proofs.Ytknpgojdkobgjaa.W
namespace Go.Proofs.Ytknpgojdkobgjaa.W
open Go Go.Wb
theorem Ztx (s:List Bucket)(f:Bucket→Option Bool)(p:Bucket→Bool)(hf:∀x∈s,f x=some (p x)):Zan s f=some (s.any p):=by
 unfold Zan;rw [Zju s f p hf,Option.bind_some,Z7t]
theorem Zst (s:List Group)(f:Group→Option Bool)(p:Group→Bool)(hf:∀x∈s,f x=some (p x)):Z92 s f=some (s.any p):=by
 unfold Z92;rw [Zdt s f p hf,Option.bind_some,Z7t]
def Z76 (bs:List Bucket)(many:Int):Bool:=decide ((bs.length:Int)≤many)&& !(bs.any fun x=> !decide ((x.Acts.length:Int)≤12))
theorem Zp2 (bs:List Bucket)(many:Int):Zag bs many=some (Z76 bs many):=by
 unfold Zag Z76
 rw [Ztx bs Zbi (fun x=> !decide ((x.Acts.length:Int)≤12)) (fun x _=>rfl)]
 cases decide ((bs.length:Int)≤many)<;>rfl
def Zau (l:List Group)(many bm:Int):Bool:=decide ((l.length:Int)≤many)&& !(l.any fun g=> !Z76 g.Buckets bm)
theorem Zmh (l:List Group)(many bm:Int):Zaj l many bm=some (Zau l many bm):=by
 unfold Zaj Zau
 rw [Zst l (fun x=>Z6q x bm) (fun g=> !Z76 g.Buckets bm) (fun g _=>by unfold Z6q;rw [Zp2];rfl)]
 cases decide ((l.length:Int)≤many)<;>rfl
end Go.Proofs.Ytknpgojdkobgjaa.W
namespace Go.Proofs.Ytknpgojdkobgjaa.W
open Go Go.Wb
theorem inc (n:Nat)(h:n<9223372036854775807):IntKind.i64.wrap ((n:Int)+1)=((n+1:Nat):Int):=by rw [Z0r (by omega) (by omega)];omega
theorem Zqc (x y:Out)(K:Option Bool):((opt (!(decide (x.Port≠y.Port))) (some x)).bind fun e8=>(opt (!(decide (x.Port≠y.Port))) (some y)).bind fun e9=>(opt (!((decide (x.Port≠y.Port))||(decide (e8.Max≠e9.Max)))) (some x)).bind fun e10=>(opt (!((decide (x.Port≠y.Port))||(decide (e8.Max≠e9.Max)))) (some y)).bind fun e11=>(bif (((decide (x.Port≠y.Port))||(decide (e8.Max≠e9.Max)))||(decide (e10.Header≠e11.Header))) then some false else K))=bif decide (x=y) then K else some false:=by
 cases x;cases y;rename_i p m h p' m' h'
 by_cases hp:p=p'
 ·by_cases hm:m=m'
  ·by_cases hh:h=h'
   ·simp [opt,hp,hm,hh]
   ·simp [opt,hp,hm,hh]
  ·simp [opt,hp,hm]
 ·simp [opt,hp]
theorem Zi4 (a b:List Out)(hl:a.length=b.length)(hs:a.length≤1000000):∀(m i:Nat),i≤a.length→a.length<i+m→Z8a a b m (i:Int)=some (decide (a.drop i=b.drop i))
 | 0,i,h1,h2=>by omega
 | m+1,i,h1,h2=>by
  rw [Z8a]
  by_cases hi:i<a.length
  ·have hb:i<b.length:=by omega
   rw [decide_eq_true (by omega),cond_true,Z16 hi,Option.bind_some,Z16 hb,Option.bind_some,Zqc,inc i (by omega),Zi4 a b hl hs m (i+1) (by omega) (by omega),List.drop_eq_getElem_cons hi,List.drop_eq_getElem_cons hb]
   generalize a[i]=x
   generalize b[i]=y
   generalize a.drop (i+1)=l
   generalize b.drop (i+1)=l'
   by_cases he:x=y
   ·simp [he]
   ·simp [he]
  ·rw [decide_eq_false (by omega),cond_false,List.drop_of_length_le (by omega),List.drop_of_length_le (by omega)]
   simp
theorem Zni (a b:List Out)(hs:a.length≤1000000):Zah a b=some (decide (a=b)):=by
 unfold Zah
 by_cases hl:a.length=b.length
 ·have:=Zi4 a b hl hs ((((a.length:Int):Int) - 0).toNat+1) 0 (by omega) (by omega)
  rw [decide_eq_false (by omega),cond_false]
  simpa using this
 ·rw [decide_eq_true (by omega),cond_true]
  have:a≠b:=fun e=>hl (e▸rfl)
  simp [this]
end Go.Proofs.Ytknpgojdkobgjaa.W
namespace Go.Proofs.Ytknpgojdkobgjaa.W
open Go Go.Wb
end Go.Proofs.Ytknpgojdkobgjaa.W
namespace Go.Proofs.Ytknpgojdkobgjaa.W
open Go Go.Wb
end Go.Proofs.Ytknpgojdkobgjaa.W
namespace Go.Proofs.Ytknpgojdkobgjaa.W
open Go Go.Wb
end Go.Proofs.Ytknpgojdkobgjaa.W
namespace Go.Proofs.Ytknpgojdkobgjaa.W
open Go Go.Wb
end Go.Proofs.Ytknpgojdkobgjaa.W
namespace Go.Proofs.Ytknpgojdkobgjaa.W
open Go Go.Wb
end Go.Proofs.Ytknpgojdkobgjaa.W
namespace Go.Proofs.Ytknpgojdkobgjaa.W
open Go Go.Wb
def Zs0 (t:Tern)(i:Nat)(on:Bool):Tern:=bif on then ⟨wor (Z5w (Z3n t).Value (Z47 i)) (Z47 i),wor (Z3n t).Mask (Z47 i)⟩ else ⟨Z5w (Z3n t).Value (Z47 i),wor (Z3n t).Mask (Z47 i)⟩
def Zrt (c:Z1w)(f bit:Nat)(on:Bool):Option Z1w:=
 bif wt (ve c f).Mask bit&&(wt (ve c f).Value bit==on) then none else some (Vector.ofFn fun k=>if f=k.1 then Zs0 (ve c f) bit (!on) else ve c k.1)
def sgl (x y:Tern)(k:Nat):Bool×Bool:=bif wt x.Mask k==wt y.Mask k then (false,false) else (true,bif wt x.Mask k then wt x.Value k else wt y.Value k)
def rp (c:Z1w)(x y:Tern)(f k:Nat):Option Z1w:=bif (sgl x y k).1 then Zrt c f k (sgl x y k).2 else none
end Go.Proofs.Ytknpgojdkobgjaa.W
namespace Go.Proofs.Ytknpgojdkobgjaa.W
open Go Go.Wb
theorem Zoo (s:List Int)(f:Int→Option Bool)(p:Int→Bool)(hf:∀x∈s,f x=some (p x)):Z9z s f=some (Zj p s):=by
 unfold Z9z
 rw [show ((s.length:Int)).toNat=s.length by omega]
 exact Z6g p (fun i=>by rw [Z5k]) (fun m i=>by rw [Z5k]) hf
theorem Zmd (s:List Group)(f:Group→Option Bool)(p:Group→Bool)(hf:∀x∈s,f x=some (p x))(hl:s.length≤Zq):Zae s f=some (s.filter (fun x=> !p x)):=by
 have hlim:Zq=4294967296:=rfl
 unfold Zae
 rw [Zdt s f p hf,Option.bind_some]
 by_cases h:Zj p s<0
 ·have:=Z6y p s
  rw [decide_eq_true (by omega),cond_true,Zf5 p s h]
 ·have hlt:=Z85 p s
  rw [decide_eq_false (by omega),cond_false,Z0r (by omega) (by omega)]
  have key:=Zd5 (z:=Z8u) (G:=Z63 f) (s:=s) (f:=f) p (fun m l i j=>by rw [Z63]) hf hl (((s.length:Int) - (Zj p s+1)).toNat+1) s (Zj p s).toNat ((Zj p s).toNat+1) (by omega) (by omega) (by omega) rfl rfl (Zcd p s (by omega)).symm
  rw [show ((Zj p s).toNat:Int)=Zj p s by omega,show (((Zj p s).toNat+1:Nat):Int)=Zj p s+1 by omega] at key
  exact key
theorem Zmx (s:List Int)(f:Int→Option Bool)(p:Int→Bool)(hf:∀x∈s,f x=some (p x))(hl:s.length≤Zq):Z8d s f=some (s.filter (fun x=> !p x)):=by
 have hlim:Zq=4294967296:=rfl
 unfold Z8d
 rw [Zoo s f p hf,Option.bind_some]
 by_cases h:Zj p s<0
 ·have:=Z6y p s
  rw [decide_eq_true (by omega),cond_true,Zf5 p s h]
 ·have hlt:=Z85 p s
  rw [decide_eq_false (by omega),cond_false,Z0r (by omega) (by omega)]
  have key:=Zd5 (z:=(0:Int)) (G:=Z5x f) (s:=s) (f:=f) p (fun m l i j=>by rw [Z5x]) hf hl (((s.length:Int) - (Zj p s+1)).toNat+1) s (Zj p s).toNat ((Zj p s).toNat+1) (by omega) (by omega) (by omega) rfl rfl (Zcd p s (by omega)).symm
  rw [show ((Zj p s).toNat:Int)=Zj p s by omega,show (((Zj p s).toNat+1:Nat):Int)=Zj p s+1 by omega] at key
  exact key
def ofK (l:List Group)(k:Int):List Group:=l.filter (fun g=>decide (g.Kind=k))
theorem Zkd (l:List Group)(k:Int)(hl:l.length≤Zq):Z72 l k=some (ofK l k):=by
 unfold Z72 Z82
 rw [Z23 (by simpa using hl),List.nil_append,Option.bind_some,Zmd l (fun x=>Z9b x k) (fun g=>decide (g.Kind≠k)) (fun x _=>rfl) hl,Option.bind_some]
 congr 1
 unfold ofK
 congr 1
 funext g
 by_cases h:g.Kind=k<;>simp [h]
def Z3e (n:Int):Nat:=(Z1c (Z1u n 7) 0).toNat % 7
theorem Zh5 (n:Int):Z3e n<7:=Nat.mod_lt _ (by decide)
theorem Zsp (n:Int):Z2j (Z1c (Z1u n 7) 0) 7=some (Z3e n:Int):=by
 have h0:0≤Z1c (Z1u n 7) 0:=by
  unfold Z1c
  by_cases h:(0:Int)>Z1u n 7
  ·simp [h]
  ·simp [h];omega
 obtain ⟨m,hm⟩:∃m:Nat,Z1c (Z1u n 7) 0=(m:Int):=⟨(Z1c (Z1u n 7) 0).toNat,by omega⟩
 unfold Z3e
 rw [hm]
 exact Zey m 7 (by decide)
def Z9w (b:Vector Bool 7)(x:Bucket):Vector Bool 7:=Vector.set b (Z3e x.Watch) true (Zh5 _)
def Z9y (b:Vector Bool 7)(g:Group):Vector Bool 7:=g.Buckets.foldl Z9w b
theorem Zhc (go:Nat→Vector Bool 7→Option (List Int))(i:Nat):∀(l:List Bucket) (n:Nat) (b:Vector Bool 7),Z4j go i l n b=go (i+1) (l.foldl Z9w b)
 | [],n,b=>by rw [Z4j];rfl
 | x::l,n,b=>by
  rw [Z4j,Zsp,Option.bind_some,Z7e (Zh5 _),Option.bind_some,Zhc go i l]
  rfl
theorem Zk8:∀(l:List Group) (n:Nat) (b:Vector Bool 7),Z41 l n b=Z39 (Vector.toList (l.foldl Z9y b)) 0 []
 | [],n,b=>by rw [Z41];rfl
 | x::l,n,b=>by rw [Z41,Zhc,Zk8 l];rfl
def Z3c:List Bool→Nat→List Int
 | [],_=>[]
 | x::l,i=>bif decide ((i:Int)>0)&&x then (i:Int)::Z3c l (i+1) else Z3c l (i+1)
theorem Zhh:∀(l:List Bool) (i:Nat),(Z3c l i).length≤l.length
 | [],_=>by simp [Z3c]
 | x::l,i=>by
  have:=Zhh l (i+1)
  unfold Z3c
  cases decide ((i:Int)>0)&&x<;>simp<;>omega
theorem Zd6:∀(l:List Bool) (i:Nat) (acc:List Int),acc.length+l.length≤Zq→Z39 l i acc=some (acc++Z3c l i)
 | [],i,acc,_=>by rw [Z39];simp [Z3c]
 | x::l,i,acc,h=>by
  simp only [List.length_cons] at h
  rw [Z39]
  unfold Z3c
  cases hc:(decide ((i:Int)>0)&&x)
  ·simp only [cond_false]
   rw [Zd6 l (i+1) acc (by omega)]
  ·simp only [cond_true]
   rw [Z23 (by simp;omega),Option.bind_some,Zd6 l (i+1) _ (by simp;omega)]
   simp
def Z2n (l:List Group):List Int:=Z3c (Vector.toList ((ofK l 3).foldl Z9y (Vector.replicate 7 false))) 0
theorem Zkc (l:List Group)(hl:l.length≤Zq):Z4r l=some (Z2n l):=by
 unfold Z4r
 rw [Zkd l 3 hl,Option.bind_some,Zk8,Zd6 _ _ _ (by simp [Zq])]
 rfl
theorem Zis (l:List Group):(Z2n l).length≤7:=by
 have:=Zhh (Vector.toList ((ofK l 3).foldl Z9y (Vector.replicate 7 false))) 0
 simpa [Z2n] using this
theorem Zs5:∀(m a b:Nat),b<m→Z6z m (a:Int) (b:Int)=some ((Nat.gcd a b:Nat):Int):=by
 intro m
 induction m with
 | zero=>intro a b h;omega
 | succ m ih=>
  intro a b h
  rw [Z6z]
  by_cases hb:b=0
  ·subst hb;simp
  ·rw [decide_eq_true (by omega:(b:Int)>0),cond_true,Zey a b (by omega),Option.bind_some]
   have:=Nat.mod_lt a (show b>0 by omega)
   rw [ih b (a % b) (by omega)]
   congr 2
   rw [Nat.gcd_comm b,←Nat.gcd_rec,Nat.gcd_comm]
theorem Zmy (a b:Nat):Zaf (a:Int) (b:Int)=some ((Nat.gcd a b:Nat):Int):=by
 unfold Zaf
 exact Zs5 _ a b (by omega)
def Z37 (n:Nat)(g:Group):Nat:=bif decide (1≤g.Buckets.length)&&decide (g.Buckets.length≤4) then Nat.lcm n g.Buckets.length else n
theorem Ze3 (n:Nat)(g:Group)(h:n ∣ 12):Z37 n g ∣ 12:=by
 unfold Z37
 cases hc:(decide (1≤g.Buckets.length)&&decide (g.Buckets.length≤4))
 ·exact h
 ·simp only [Bool.and_eq_true,decide_eq_true_eq] at hc
  refine Nat.lcm_dvd h ?_
  have:g.Buckets.length=1∨g.Buckets.length=2∨g.Buckets.length=3∨g.Buckets.length=4:=by omega
  rcases this with e | e | e | e<;>rw [e]<;>decide
theorem Zjn:∀(l:List Group) (i n:Nat),n ∣ 12→Z3v l i (n:Int)=some ((l.foldl Z37 n:Nat):Int)
 | [],i,n,_=>by rw [Z3v];rfl
 | g::l,i,n,h=>by
  have hn:n≤12:=Nat.le_of_dvd (by decide) h
  have hpos:0<n:=Nat.pos_of_ne_zero fun e=>by subst e;simp at h
  have ih:=Zjn l (i+1) (Z37 n g) (Ze3 n g h)
  rw [Z3v,List.foldl_cons]
  unfold Z37 at ih ⊢
  by_cases h1:1≤g.Buckets.length∧g.Buckets.length≤4
  ·have e1:(decide ((g.Buckets.length:Int)≥1)&&decide ((g.Buckets.length:Int)≤4))=true:=by simp;omega
   have e2:(decide (1≤g.Buckets.length)&&decide (g.Buckets.length≤4))=true:=by simp;omega
   rw [e2] at ih ⊢
   rw [e1,cond_true,Zmy,Option.bind_some]
   have hg:0<Nat.gcd n g.Buckets.length:=Nat.gcd_pos_of_pos_left _ hpos
   have hq:Z3t .i64 (n:Int) ((Nat.gcd n g.Buckets.length:Nat):Int)=some ((n / Nat.gcd n g.Buckets.length:Nat):Int):=by
    unfold Z3t
    rw [decide_eq_false (by omega)]
    show some _=_
    have:n / Nat.gcd n g.Buckets.length≤n:=Nat.div_le_self _ _
    congr 1
    show IntKind.i64.wrap ((n / Nat.gcd n g.Buckets.length:Nat):Int)=_
    generalize n / Nat.gcd n g.Buckets.length=q at this
    exact Z0r (by omega) (by omega)
   rw [hq,Option.bind_some]
   have hlcm:n / Nat.gcd n g.Buckets.length*g.Buckets.length=Nat.lcm n g.Buckets.length:=by
    unfold Nat.lcm
    rw [Nat.mul_comm,←Nat.mul_div_assoc _ (Nat.gcd_dvd_left _ _),Nat.mul_comm]
   have hd:Nat.lcm n g.Buckets.length ∣ 12:=by have:=Ze3 n g h;unfold Z37 at this;rwa [e2] at this
   have hle:=Nat.le_of_dvd (by decide) hd
   have e3:((n / Nat.gcd n g.Buckets.length:Nat):Int)*(g.Buckets.length:Int)=((Nat.lcm n g.Buckets.length:Nat):Int):=by rw [←hlcm,Int.natCast_mul]
   rw [e3,Z0r (by omega) (by omega)]
   exact ih
  ·have e1:(decide ((g.Buckets.length:Int)≥1)&&decide ((g.Buckets.length:Int)≤4))=false:=by simp;omega
   have e2:(decide (1≤g.Buckets.length)&&decide (g.Buckets.length≤4))=false:=by simp;omega
   rw [e2] at ih ⊢
   rw [e1,cond_false]
   exact ih
def Z1d (l:List Group):Nat:=(ofK l 1).foldl Z37 1
theorem Ziy:∀(l:List Group) (n:Nat),n ∣ 12→l.foldl Z37 n ∣ 12
 | [],n,h=>h
 | g::l,n,h=>Ziy l _ (Ze3 n g h)
theorem Zid (l:List Group):Z1d l ∣ 12:=Ziy _ _ ⟨12,rfl⟩
theorem Zbx (l:List Group):Z1d l≤12:=Nat.le_of_dvd (by decide) (Zid l)
theorem Zdk (l:List Group):0<Z1d l:=Nat.pos_of_ne_zero fun e=>by have:=Zid l;rw [e] at this;simp at this
theorem Zjm (l:List Group)(hl:l.length≤Zq):Z6f l=some ((Z1d l:Nat):Int):=by
 unfold Z6f
 rw [Zkd l 1 hl,Option.bind_some]
 exact Zjn _ 0 1 ⟨12,rfl⟩
def Z2z:List Int→Nat→List Int
 | [],_=>[]
 | p::ps,n=>bif decide (n % 2=1) then p::Z2z ps (n / 2) else Z2z ps (n / 2)
theorem Zdl (n:Nat)(hn:n<9223372036854775808):∀(ps:List Int) (i:Nat) (acc:List Int),i+ps.length≤64→acc.length+ps.length≤Zq→Z3o (n:Int) ps i acc=some (acc++Z2z ps (n / 2 ^ i))
 | [],i,acc,_,_=>by rw [Z3o];simp [Z2z]
 | p::ps,i,acc,h1,h2=>by
  simp only [List.length_cons] at h1 h2
  have hle:n / 2 ^ i≤n:=Nat.div_le_self _ _
  rw [Z3o,Zti n i (by omega),Option.bind_some,Zu0 _ (by omega)]
  have hnext:n / 2 ^ i / 2=n / 2 ^ (i+1):=by rw [Nat.div_div_eq_div_mul,Nat.pow_succ]
  unfold Z2z
  rw [hnext]
  by_cases hb:n / 2 ^ i % 2=1
  ·rw [decide_eq_true hb,decide_eq_true (by omega),cond_true,cond_true,Z23 (by simp;omega),Option.bind_some,Zdl n hn ps (i+1) _ (by omega) (by simp;omega)]
   simp
  ·rw [decide_eq_false hb,decide_eq_false (by omega),cond_false,cond_false,Zdl n hn ps (i+1) _ (by omega) (by omega)]
theorem Zro (ps:List Int)(n:Nat)(hn:n<9223372036854775808)(hp:ps.length≤64):Z90 ps (n:Int)=some (Z2z ps n):=by
 unfold Z90
 rw [Zdl n hn ps 0 [] (by omega) (by simp [Zq];omega)]
 simp
def Z7o (ps:List Int)(t:Nat):List Env:=(List.range t).flatMap fun (i:Nat)=>(List.range (2 ^ ps.length)).map fun n=>(⟨(i:Int),Z2z ps n⟩:Env)
theorem Zpm {acc:List Env}{x:Env}(h:acc.length+1≤Zq):yc Z35 (.go acc) x=some (.go (acc++[x])):=by
 show Z35 acc x=_
 unfold Z35
 rw [Z23 (by simpa using h)];rfl
theorem Zim (go:Nat→Lp (List Env)→Option (Lp (List Env)))(i:Nat)(ps:List Int)(hp:ps.length≤62):∀(m k:Nat) (acc:List Env),k+m≤9223372036854775807→acc.length+m≤Zq→
  Z49 (List Env) go i ps Z35 m k (.go acc)=go (i+1) (.go (acc++(List.range' k m).map fun n=>(⟨(i:Int),Z2z ps n⟩:Env)))
 | 0,k,acc,_,_=>by rw [Z49];simp
 | m+1,k,acc,h1,h2=>by
  rw [Z49,Zro ps k (by omega) (by omega),Option.bind_some,Zpm (by omega),Option.bind_some]
  show (bif !true then _ else _)=_
  rw [Bool.not_true,cond_false,Zim go i ps hp m (k+1) _ (by omega) (by simp;omega),List.range'_succ]
  simp
theorem Zjk (ps:List Int)(hp:ps.length≤7):∀(m i:Nat) (acc:List Env),acc.length+m*128≤Zq→
  Z3h (List Env) ps Z35 m i (.go acc)=some (.go (acc++(List.range' i m).flatMap fun (i:Nat)=>(List.range (2 ^ ps.length)).map fun n=>(⟨(i:Int),Z2z ps n⟩:Env)))
 | 0,i,acc,_=>by rw [Z3h];simp
 | m+1,i,acc,h=>by
  have h128:2 ^ ps.length≤128:=Nat.pow_le_pow_right (n:=2) (by decide) hp
  have hlim:Zq=4294967296:=rfl
  rw [Z3h,Zly _ (by omega),Option.bind_some]
  have e:(((2 ^ ps.length:Nat):Int)).toNat=2 ^ ps.length:=Int.toNat_natCast _
  have h3:Z49 (List Env) (Z3h (List Env) ps Z35 m) i ps Z35 (2 ^ ps.length) 0 (.go acc)=_:=Zim _ i ps (by omega) _ 0 acc (by generalize 2 ^ ps.length=d at h128;omega) (by generalize 2 ^ ps.length=d at h128;omega)
  rw [e,h3,Zjk ps hp m (i+1) _ (by simp;generalize 2 ^ ps.length=d at h128;omega),List.range'_succ]
  simp [List.range_eq_range']
theorem Zks (l:List Group)(hl:l.length≤Zq):Z7q l=some (Z7o (Z2n l) (Z1d l)):=by
 have hlim:Zq=4294967296:=rfl
 have h:Z93 (Itr.mk fun σ y s=>Z4q σ y s l)=some (Z7o (Z2n l) (Z1d l)):=by
  unfold Z93 Zav Zem
  show (((Z4q (List Env) Z35 (.go []) l).bind Zef).bind fun x2=>some x2)=_
  unfold Z4q
  have ht:=Zbx l
  rw [Zkc l hl,Option.bind_some,Zjm l hl,Option.bind_some,show (((Z1d l:Nat):Int)).toNat=Z1d l by omega,Zjk _ (Zis l) _ 0 [] (by simp;omega)]
  simp [Zef,Z7o,List.range_eq_range']
 unfold Z7q Z96
 rw [Option.bind_some,h];rfl
theorem Zhf (s t:List Int)(hl:s.length=t.length):∀(m i:Nat),i+m=s.length→Z4e s t m i=some (decide (s.drop i=t.drop i))
 | 0,i,h=>by rw [Z4e,List.drop_of_length_le (by omega),List.drop_of_length_le (by omega)];simp
 | m+1,i,h=>by
  have h1:i<s.length:=by omega
  have h2:i<t.length:=by omega
  rw [Z4e,Z16 h1,Option.bind_some,Z16 h2,Option.bind_some,List.drop_eq_getElem_cons h1,List.drop_eq_getElem_cons h2]
  by_cases he:s[i]=t[i]
  ·rw [decide_eq_false (by simpa using he),cond_false,Zhf s t hl m (i+1) (by omega)]
   simp only [List.cons.injEq,he,true_and]
  ·rw [decide_eq_true (by simpa using he),cond_true]
   simp only [List.cons.injEq,he,false_and,decide_false]
theorem Zri (s t:List Int):Z6d s t=some (decide (s=t)):=by
 unfold Z6d
 by_cases hl:s.length=t.length
 ·rw [decide_eq_false (by omega),cond_false,show ((s.length:Int)).toNat=s.length by omega,Zhf s t hl _ 0 (by omega)]
  simp
 ·rw [decide_eq_true (by omega),cond_true]
  have:s≠t:=fun e=>hl (e▸rfl)
  simp [this]
theorem Zsu (a b:Env):Z9q a b=some (decide (a=b)):=by
 unfold Z9q
 rw [Zri]
 by_cases h:a.Turn=b.Turn
 ·rw [decide_eq_true h,Z36,Option.bind_some,Bool.true_and]
  congr 1
  cases a;cases b
  simp at h
  simp [h]
 ·rw [decide_eq_false h,Zgj,Option.bind_some,Bool.false_and]
  have:a≠b:=fun e=>h (e▸rfl)
  simp [this]
theorem Zo6:Z80=some true:=by decide
end Go.Proofs.Ytknpgojdkobgjaa.W
namespace Go.Proofs.Ytknpgojdkobgjaa.W
open Go Go.Wb
def Zbo (n:Nat)(g:Group):Bool:= !(decide (g.Kind=1)&&decide (1≤g.Buckets.length)&&decide (g.Buckets.length≤4)&&decide (n % g.Buckets.length≠0))
theorem Zij (m:Nat):∀(l:List Group) (n:Nat),l.foldl Z37 n ∣ m↔n ∣ m∧∀g∈l,1≤g.Buckets.length→g.Buckets.length≤4→g.Buckets.length ∣ m
 | [],n=>by simp
 | g::l,n=>by
  rw [List.foldl_cons,Zij m l]
  unfold Z37
  by_cases h:1≤g.Buckets.length∧g.Buckets.length≤4
  ·have e:(decide (1≤g.Buckets.length)&&decide (g.Buckets.length≤4))=true:=by simp;omega
   rw [e,cond_true,Nat.lcm_dvd_iff]
   constructor
   ·rintro ⟨⟨h1,h2⟩,h3⟩
    refine ⟨h1,fun x hx=>?_⟩
    rcases List.mem_cons.1 hx with rfl | hx
    ·exact fun _ _=>h2
    ·exact h3 x hx
   ·rintro ⟨h1,h2⟩
    exact ⟨⟨h1,h2 g (by simp) h.1 h.2⟩,fun x hx=>h2 x (by simp [hx])⟩
  ·have e:(decide (1≤g.Buckets.length)&&decide (g.Buckets.length≤4))=false:=by
    rw [Bool.eq_false_iff];intro h';simp at h';omega
   rw [e,cond_false]
   constructor
   ·rintro ⟨h1,h2⟩
    refine ⟨h1,fun x hx=>?_⟩
    rcases List.mem_cons.1 hx with rfl | hx
    ·intro a b;omega
    ·exact h2 x hx
   ·rintro ⟨h1,h2⟩
    exact ⟨h1,fun x hx=>h2 x (by simp [hx])⟩
theorem Zr2 (l:List Group)(n:Nat):l.all (Zbo n)=true↔Z1d l ∣ n:=by
 unfold Z1d
 rw [Zij,List.all_eq_true]
 constructor
 ·intro h
  refine ⟨Nat.one_dvd _,fun g hg h1 h2=>?_⟩
  unfold ofK at hg
  rw [List.mem_filter,decide_eq_true_eq] at hg
  have:=h g hg.1
  unfold Zbo at this
  simp [hg.2,h1,h2] at this
  exact Nat.dvd_of_mod_eq_zero this
 ·rintro ⟨_,h⟩ g hg
  unfold Zbo
  by_cases hk:g.Kind=1∧1≤g.Buckets.length∧g.Buckets.length≤4
  ·obtain ⟨k1,k2,k3⟩:=hk
   have:=h g (by unfold ofK;rw [List.mem_filter];exact ⟨hg,by simp [k1]⟩) k2 k3
   have:=Nat.mod_eq_zero_of_dvd this
   simp [this]
  ·have e3:(decide (g.Kind=1)&&decide (1≤g.Buckets.length)&&decide (g.Buckets.length≤4))=false:=by
    rw [Bool.eq_false_iff];intro h
    simp at h;exact hk ⟨h.1.1,by omega,by omega⟩
   rw [e3];rfl
def Zf2 (p:Int)(bs:List Bucket):Bool:=bs.any fun x=>decide (x.Watch=p)
def Z7k (p:Int)(g:Group):Bool:=decide (g.Kind=3)&&Zf2 p g.Buckets
def Z83 (l:List Group):Nat→Nat→List Int
 | 0,_=>[]
 | m+1,p=>bif l.any (Z7k (p:Int)) then (p:Int)::Z83 l m (p+1) else Z83 l m (p+1)
theorem Zo1 (w:Int)(p:Nat)(h1:1≤p)(h2:p≤6):Z3e w=p↔w=(p:Int):=by
 unfold Z3e Z1c Z1u
 by_cases h3:(7:Int)<w
 ·have:decide ((7:Int)<w)=true:=decide_eq_true h3
  simp [this];omega
 ·have h4:decide ((7:Int)<w)=false:=decide_eq_false h3
  rw [h4,cond_false]
  by_cases h5:(0:Int)>w
  ·rw [decide_eq_true h5,cond_true];simp;omega
  ·rw [decide_eq_false h5,cond_false];omega
theorem Zu1 (p:Nat)(hp:p<7)(b:Vector Bool 7)(x:Bucket):(Z9w b x)[p]=(b[p]||decide (Z3e x.Watch=p)):=by
 unfold Z9w
 rw [Vector.getElem_set]
 by_cases h:Z3e x.Watch=p
 ·simp [h]
 ·simp [h]
theorem Zjj (p:Nat)(hp:p<7):∀(bs:List Bucket) (b:Vector Bool 7),(bs.foldl Z9w b)[p]=(b[p]||bs.any fun x=>decide (Z3e x.Watch=p))
 | [],b=>by simp
 | x::bs,b=>by rw [List.foldl_cons,Zjj p hp bs,Zu1 p hp,List.any_cons,Bool.or_assoc]
theorem Zh7 (p:Nat)(hp:p<7):∀(gs:List Group) (b:Vector Bool 7),(gs.foldl Z9y b)[p]=(b[p]||gs.any fun g=>g.Buckets.any fun x=>decide (Z3e x.Watch=p))
 | [],b=>by simp
 | g::gs,b=>by
  rw [List.foldl_cons,Zh7 p hp gs,List.any_cons,←Bool.or_assoc]
  congr 1
  exact Zjj p hp g.Buckets b
theorem Z89 (l:List Group)(p:Nat)(h1:1≤p)(h2:p≤6):((ofK l 3).foldl Z9y (Vector.replicate 7 false))[p]'(by omega)=l.any (Z7k (p:Int)):=by
 rw [Zh7 p (by omega)]
 have:(Vector.replicate 7 false)[p]'(by omega)=false:=by simp
 rw [this,Bool.false_or]
 unfold ofK Z7k Zf2
 rw [List.any_filter]
 congr 1
 funext g
 congr 1
 congr 1
 funext x
 rw [decide_eq_decide]
 exact Zo1 x.Watch p h1 h2
theorem Zm3 (v:Vector Bool 7):v.toList=[v[0],v[1],v[2],v[3],v[4],v[5],v[6]]:=by
 apply List.ext_getElem
 ·simp
 ·intro i h1 h2
  have:i<7:=by simpa using h1
  rw [Vector.getElem_toList]
  match i,this with
  | 0,_=>rfl
  | 1,_=>rfl
  | 2,_=>rfl
  | 3,_=>rfl
  | 4,_=>rfl
  | 5,_=>rfl
  | 6,_=>rfl
theorem Zs3 (l:List Group):Z2n l=Z83 l 6 1:=by
 unfold Z2n
 rw [Zm3]
 have m1:=Z89 l 1 (by omega) (by omega)
 have m2:=Z89 l 2 (by omega) (by omega)
 have m3:=Z89 l 3 (by omega) (by omega)
 have m4:=Z89 l 4 (by omega) (by omega)
 have m5:=Z89 l 5 (by omega) (by omega)
 have m6:=Z89 l 6 (by omega) (by omega)
 rw [m1,m2,m3,m4,m5,m6]
 simp only [Z3c,Z83]
 simp
end Go.Proofs.Ytknpgojdkobgjaa.W
namespace Go.Proofs.Ytknpgojdkobgjaa.W
open Go Go.Wb
def Z7v (bs:List Bucket):Prop:=bs.length≤4∧∀x∈bs,x.Acts.length≤12
def Z2y (l:List Group):Prop:=l.length≤9∧∀g∈l,Z7v g.Buckets
theorem Zrp (bs:List Bucket)(h:Z7v bs):Z94 bs=some bs:=by
 have hlim:Zq=4294967296:=rfl
 have:=h.1
 unfold Z94 Zc5
 rw [Z23 (by simp;omega),Option.bind_some,List.nil_append,show ((bs.length:Int)).toNat=bs.length by omega]
 exact Zg3 bs h.2 bs.length 0 (by omega)
theorem Zl5 (g:Group)(h:Z7v g.Buckets):Zap [g]=some [g]:=by
 unfold Zap Z82
 rw [Z23 (by simp [Zq]),Option.bind_some]
 show Z5z 1 0 [g]=_
 rw [Z5z]
 show ((some g).bind fun e8=>_)=_
 rw [Option.bind_some,Zrp _ h,Option.bind_some]
 rfl
theorem Zik (l:List Group)(id:Int)(hl:Z2y l):Za4 l id=some (match Z6e l id with | none=>((⟨0,0,[]⟩:Group),false) | some g=>(g,true)):=by
 have h9:=hl.1
 unfold Za4 Zcn Z6e
 rw [Zdt l (fun x=>Za7 x id) (fun g=>decide (g.ID=id)) (fun _ _=>rfl),Option.bind_some,Option.bind_some]
 rcases Ze4 (fun g:Group=>decide (g.ID=id)) l with ⟨h1,h2⟩ | ⟨n,h1,h2,h3,h4⟩
 ·rw [decide_eq_true h1,cond_true,h2]
 ·have hs:Z7m l (n:Int) (IntKind.i64.wrap ((n:Int)+1))=some [l[n]]:=by
   rw [Z0r (by omega) (by omega)]
   unfold Z7m
   rw [decide_eq_true (by omega),decide_eq_true (by omega),Nat.ble_eq_true_of_le (by omega)]
   show some _=some _
   have e2:((n:Int)+1).toNat=n+1:=by omega
   have e3:(l.take n).length=n:=by simp;omega
   rw [e2,Int.toNat_natCast,List.take_succ_eq_append_getElem h2,List.drop_append,e3,List.drop_of_length_le (by omega),Nat.sub_self]
   rfl
  rw [decide_eq_false (by omega),cond_false,h1,hs,Option.bind_some,Zl5 _ (hl.2 _ (List.getElem_mem h2)),Option.bind_some,h3]
  rfl
theorem Zle (e:Env)(g:Group)(h:Z7v g.Buckets):Zai e g=some (Z1z e g):=by
 have hlim:Zq=4294967296:=rfl
 have h3:=h.1
 unfold Zai Z1z
 simp only
 have hz:decide ((g.Buckets.length:Int)=0)=decide (g.Buckets.length=0):=by
  rw [decide_eq_decide];omega
 rw [hz]
 by_cases h0:g.Buckets.length=0
 ·rw [decide_eq_true h0];rfl
 ·rw [decide_eq_false h0,cond_false,cond_false]
  cases decide (g.Kind=0)
  ·rw [cond_false,cond_false]
   cases decide (g.Kind=1)
   ·rw [cond_false,cond_false]
    cases decide (g.Kind=2)
    ·rw [cond_false,cond_false]
     cases decide (g.Kind=3)
     ·rfl
     ·rw [cond_true,cond_true]
      unfold Zbf Z3l
      simp only
      rw [Zju g.Buckets (fun x=>Z7h x (⟨e,g⟩:env_world)) (fun x=> !e.Down.contains x.Watch) (fun x _=>by unfold Z7h;rw [Zj1];rfl),Option.bind_some,Option.bind_some]
      cases decide (Zj (fun x=> !e.Down.contains x.Watch) g.Buckets≥0)<;>rfl
    ·rfl
   ·rw [cond_true,cond_true,(Zb9 e g.Buckets.length (by omega) (by omega)).1];rfl
  ·rw [cond_true,cond_true,show ((g.Buckets.length:Int)).toNat=g.Buckets.length by omega,Zfx _ 0 [] (by simp;omega)]
   rfl
theorem Ziw (e:Env)(g:Group)(h:Z7v g.Buckets):(Z1z e g).length≤4∧∀i∈Z1z e g,∃n:Nat,i=(n:Int)∧n<g.Buckets.length:=by
 have h3:=h.1
 unfold Z1z
 by_cases h0:g.Buckets.length=0
 ·rw [decide_eq_true h0];simp
 ·rw [decide_eq_false h0,cond_false]
  cases decide (g.Kind=0)
  ·rw [cond_false]
   cases decide (g.Kind=1)
   ·rw [cond_false]
    cases decide (g.Kind=2)
    ·rw [cond_false]
     cases decide (g.Kind=3)
     ·simp
     ·rw [cond_true]
      have hlt:=Z85 (fun x:Bucket=> !e.Down.contains x.Watch) g.Buckets
      by_cases hc:Z3l e g.Buckets≥0
      ·rw [decide_eq_true hc,cond_true]
       refine ⟨by simp,fun i hi=>?_⟩
       rw [List.mem_singleton] at hi
       subst hi
       exact ⟨(Z3l e g.Buckets).toNat,by omega,by unfold Z3l at hc ⊢;omega⟩
      ·rw [decide_eq_false hc,cond_false];simp
    ·refine ⟨by simp,fun i hi=>?_⟩
     simp only [cond_true,List.mem_singleton] at hi
     subst hi
     exact ⟨0,rfl,by omega⟩
   ·obtain ⟨_,h1,h2⟩:=Zb9 e g.Buckets.length (by omega) (by omega)
    refine ⟨by simp,fun i hi=>?_⟩
    simp only [cond_true,List.mem_singleton] at hi
    subst hi
    exact ⟨(Z29 e g.Buckets.length).toNat,by omega,by omega⟩
  ·refine ⟨by simp;omega,fun i hi=>?_⟩
   simp only [cond_true,List.mem_map] at hi
   obtain ⟨n,hn,rfl⟩:=hi
   exact ⟨n,rfl,by have:=(List.mem_range'_1.1 hn).2;omega⟩
theorem Z95 (l:List Group)(e:Env)(hl:Z2y l):∀(d:Nat) (id:Int) (h:Header),(goG l e d id h).length≤4 ^ d
 | 0,id,h=>by simp [goG]
 | d+1,id,h=>by
  rw [goG]
  cases hf:Z6e l id with
  | none=>simp
  | some g=>
   have hb:=hl.2 g (Zf7 hf)
   have ht:=(Ziw e g hb).1
   have h1:1≤4 ^ d:=Nat.pow_pos (by decide)
   have:=Zgs (fun i=>(doA (goG l e d) (Z3d (Z51 g.Buckets i)) [] h).1) (4 ^ d) (Z1z e g) fun i _=>by
    have h2:=Zet (goG l e d) (4 ^ d) h1 (Z95 l e hl d) (Z3d (Z51 g.Buckets i)) h
    have h3:=Zha (Z51 g.Buckets i)
    have h4:Z21 (Z3d (Z51 g.Buckets i))*4 ^ d≤1*4 ^ d:=Nat.mul_le_mul_right _ h3
    omega
   have h5:(Z1z e g).length*4 ^ d≤4*4 ^ d:=Nat.mul_le_mul_right _ ht
   have e1:4 ^ (d+1)=4*4 ^ d:=by rw [Nat.pow_succ,Nat.mul_comm]
   show ((Z1z e g).flatMap _).length≤_
   omega
theorem Zgi (R:Zu→List Action→Option Zu)(G:Int→Header→List Out)(e:Env)(l:List Group)(g:Group)(hg:Z7v g.Buckets)(r1:Zu)(dep:Int)(hd:0≤dep∧dep≤9)(B:Nat)(hB:1≤B)(hG:∀id h,(G id h).length≤B)
  (hR:∀o acts,Z21 acts≤1→o.length+B≤Zq→R ⟨e,l,o,r1.header,dep⟩ acts=some ⟨e,l,(doA G acts o r1.header).1,(doA G acts o r1.header).2,dep⟩):
  ∀(ts:List Int) (i:Nat) (o:List Out),(∀t∈ts,∃n:Nat,t=(n:Int)∧n<g.Buckets.length)→o.length+ts.length*B≤Zq→
   Z4s (g,true) R r1 ts i o e l r1.header dep=some ⟨e,l,o++ts.flatMap fun i=>(doA G (Z3d (Z51 g.Buckets i)) [] r1.header).1,r1.header,dep - 1⟩
 | [],i,o,_,_=>by rw [Z4s,Z0r (by omega) (by omega)];simp
 | t::ts,i,o,ht,hb=>by
  have hlim:Zq=4294967296:=rfl
  obtain ⟨n,rfl,hn⟩:=ht t (by simp)
  simp only [List.length_cons,Nat.add_mul,Nat.one_mul] at hb
  have hacts:=hg.2 g.Buckets[n] (List.getElem_mem hn)
  have hba:Z51 g.Buckets (n:Int)=g.Buckets[n].Acts:=by
   unfold Z51
   rw [Int.toNat_natCast,List.getElem?_eq_getElem hn]
  have hwl:=Zh4 g.Buckets[n].Acts []
  simp only [List.length_nil,Nat.zero_add] at hwl
  have hlen:=Zet G B hB hG (Z3d g.Buckets[n].Acts) r1.header
  have hout:=Zha g.Buckets[n].Acts
  have hmul:Z21 (Z3d g.Buckets[n].Acts)*B≤1*B:=Nat.mul_le_mul_right _ hout
  rw [Z4s]
  simp only
  rw [Z16 hn,Option.bind_some,Zrz _ _ (by simp;omega),Option.bind_some,Zpp _ (by omega),Option.bind_some,show Z8j (g.Buckets[n].Acts.foldl wr1 [])=Z3d g.Buckets[n].Acts from rfl,hR o _ hout (by omega),Option.bind_some]
  simp only
  rw [Z55]
  simp only
  rw [Zgi R G e l g hg r1 dep hd B hB hG hR ts (i+1) _ (fun t h=>ht t (by simp [h])) (by rw [List.length_append];omega),List.flatMap_cons,hba]
  simp
theorem Zmv (l:List Group)(e:Env)(hl:Z2y l):∀(d:Nat),d≤8→
  (∀n o id h,2*d+1≤n→o.length+4 ^ d≤Zq→(Z11 n).2 ⟨e,l,o,h,((8 - d:Nat):Int)⟩ id=some ⟨e,l,o++goG l e d id h,h,((8 - d:Nat):Int)⟩)∧
  (∀n o acts h,2*d+2≤n→o.length+Z21 acts*4 ^ d≤Zq→(Z11 n).1 ⟨e,l,o,h,((8 - d:Nat):Int)⟩ acts=some ⟨e,l,(doA (goG l e d) acts o h).1,(doA (goG l e d) acts o h).2,((8 - d:Nat):Int)⟩):=by
 have hlim:Zq=4294967296:=rfl
 intro d
 induction d with
 | zero=>
  intro hd
  have h1:∀n o id h,2*0+1≤n→o.length+4 ^ 0≤Zq→(Z11 n).2 ⟨e,l,o,h,((8 - 0:Nat):Int)⟩ id=some ⟨e,l,o++goG l e 0 id h,h,((8 - 0:Nat):Int)⟩:=by
   intro n o id h hn _
   obtain ⟨n,rfl⟩:∃k,n=k+1:=⟨n - 1,by omega⟩
   show Z5l (Z11 n).1 (Z11 n).2 _ _=_
   unfold Z5l
   simp only
   rw [Zik l id hl,Option.bind_some]
   have:∀x:Group×Bool,((!x.2)||decide (((8 - 0:Nat):Int)≥8))=true:=fun x=>by simp
   rw [this]
   simp [goG]
  refine ⟨h1,?_⟩
  intro n o acts h hn hb
  obtain ⟨n,rfl⟩:∃k,n=k+1:=⟨n - 1,by omega⟩
  show Z5q (Z11 n).1 (Z11 n).2 _ _=_
  unfold Z5q
  exact Za6 _ (goG l e 0) e l _ (4 ^ 0) (by decide) (Z95 l e hl 0) (fun o id h hb=>h1 n o id h (by omega) hb) acts 0 o h hb
 | succ d ih=>
  intro hd
  obtain ⟨ih1,ih2⟩:=ih (by omega)
  have hp:4 ^ (d+1)=4*4 ^ d:=by rw [Nat.pow_succ,Nat.mul_comm]
  have h1:∀n o id h,2*(d+1)+1≤n→o.length+4 ^ (d+1)≤Zq→(Z11 n).2 ⟨e,l,o,h,((8 - (d+1):Nat):Int)⟩ id=some ⟨e,l,o++goG l e (d+1) id h,h,((8 - (d+1):Nat):Int)⟩:=by
   intro n o id h hn hb
   obtain ⟨n,rfl⟩:∃k,n=k+1:=⟨n - 1,by omega⟩
   show Z5l (Z11 n).1 (Z11 n).2 _ _=_
   unfold Z5l
   simp only
   rw [Zik l id hl,Option.bind_some,goG]
   cases hf:Z6e l id with
   | none=>simp
   | some g=>
    have hg:=hl.2 g (Zf7 hf)
    obtain ⟨t1,t2⟩:=Ziw e g hg
    simp only [Bool.not_true,Bool.false_or]
    rw [decide_eq_false (by omega),cond_false,Zle e g hg,Option.bind_some]
    have ew:IntKind.i64.wrap (((8 - (d+1):Nat):Int)+1)=((8 - d:Nat):Int):=by rw [Z0r (by omega) (by omega)];omega
    rw [ew]
    have hmul:(Z1z e g).length*4 ^ d≤4*4 ^ d:=Nat.mul_le_mul_right _ t1
    have:=Zgi (Z11 n).1 (goG l e d) e l g hg ⟨e,l,o,h,((8 - (d+1):Nat):Int)⟩ ((8 - d:Nat):Int) (by omega) (4 ^ d) (Nat.pow_pos (by decide)) (Z95 l e hl d)
     (fun o acts ho hb=>ih2 n o acts h (by omega) (by
      have:Z21 acts*4 ^ d≤1*4 ^ d:=Nat.mul_le_mul_right _ ho
      omega)) (Z1z e g) 0 o t2 (by omega)
    simp only at this
    rw [this]
    congr 2
    omega
  refine ⟨h1,?_⟩
  intro n o acts h hn hb
  obtain ⟨n,rfl⟩:∃k,n=k+1:=⟨n - 1,by omega⟩
  show Z5q (Z11 n).1 (Z11 n).2 _ _=_
  unfold Z5q
  exact Za6 _ (goG l e (d+1)) e l _ (4 ^ (d+1)) (Nat.pow_pos (by decide)) (Z95 l e hl (d+1)) (fun o id h hb=>h1 n o id h (by omega) hb) acts 0 o h hb
theorem Zj0 (l:List Group)(e:Env)(id:Int)(h:Header)(hl:Z2y l):Z7w l e id h=some (goG l e 8 id h):=by
 have hlim:Zq=4294967296:=rfl
 unfold Z7w Zdo
 have:=(Zmv l e hl 8 (by decide)).1 Z1p [] id h (by unfold Z1p;omega) (by simp only [List.length_nil];omega)
 rw [show (((8 - 8:Nat)):Int)=0 from rfl] at this
 rw [this]
 rfl
end Go.Proofs.Ytknpgojdkobgjaa.W
namespace Go.Proofs.Ytknpgojdkobgjaa.W
open Go Go.Wb
def Z24 (l:List Group)(e:Env):Env:=⟨Z29 e (Z1d l),(Z2n l).filter fun p=>e.Down.contains p⟩
theorem Zl3 {l:List Group}(h:Zau l 8 4=true):Z2y l:=by
 unfold Zau at h
 simp only [Bool.and_eq_true,decide_eq_true_eq,Bool.not_eq_true',List.any_eq_false] at h
 refine ⟨by omega,fun g hg=>?_⟩
 have h1:Z76 g.Buckets 4=true:=by simpa using h.2 g hg
 unfold Z76 at h1
 simp only [Bool.and_eq_true,decide_eq_true_eq,Bool.not_eq_true',List.any_eq_false] at h1
 refine ⟨by omega,fun x hx=>?_⟩
 have:=h1.2 x hx
 simp at this
 omega
theorem Zog (l:List Group)(e:Env)(hl:l.length≤Zq):Z8c e l=some (Z24 l e):=by
 have hlim:Zq=4294967296:=rfl
 have hp:=Zis l
 unfold Z8c Z24
 rw [Zkc l hl,Option.bind_some,Zmx (Z2n l) (fun x=>Z84 x e) (fun p=> !e.Down.contains p) (fun p _=>by unfold Z84;rw [Zj1];rfl) (by omega),Option.bind_some,Zjm l hl,Option.bind_some,(Zb9 e (Z1d l) (Zdk l) (by have:=Zbx l;omega)).1]
 simp only [Option.bind_some,Bool.not_not]
theorem Zht (q:Int→Bool):∀ps:List Int,∃n,n<2 ^ ps.length∧Z2z ps n=ps.filter q
 | []=>⟨0,by simp,rfl⟩
 | p::ps=>by
  obtain ⟨n,h1,h2⟩:=Zht q ps
  have hp:2 ^ (p::ps).length=2*2 ^ ps.length:=by rw [List.length_cons,Nat.pow_succ,Nat.mul_comm]
  cases hq:q p
  ·refine ⟨2*n,by omega,?_⟩
   rw [Z2z,decide_eq_false (by omega),cond_false,show 2*n / 2=n by omega,h2,List.filter_cons_of_neg (by simp [hq])]
  ·refine ⟨2*n+1,by omega,?_⟩
   rw [Z2z,decide_eq_true (by omega),cond_true,show (2*n+1) / 2=n by omega,h2,List.filter_cons_of_pos (by simp [hq])]
theorem Zmn (l:List Group)(e:Env):Z24 l e∈Z7o (Z2n l) (Z1d l):=by
 obtain ⟨n,h1,h2⟩:=Zht (fun p=>e.Down.contains p) (Z2n l)
 have h3:=Zb9 e (Z1d l) (Zdk l) (by have:=Zbx l;omega)
 unfold Z7o
 refine List.mem_flatMap.2 ⟨(Z29 e (Z1d l)).toNat,by rw [List.mem_range];omega,List.mem_map.2 ⟨n,by rwa [List.mem_range],?_⟩⟩
 unfold Z24
 rw [h2,Int.toNat_of_nonneg h3.2.1]
theorem Zqn (s:List Env)(f:Env→Option Bool)(p:Env→Bool)(hf:∀x∈s,f x=some (p x)):Z8s s f=some (Zj p s):=by
 unfold Z8s
 rw [show ((s.length:Int)).toNat=s.length by omega]
 exact Z6g p (fun i=>by rw [Z5o]) (fun m i=>by rw [Z5o]) hf
theorem Zi9 (l:List Group)(hl:l.length≤1000)(id:Int):∀(m i:Nat),i≤l.length→l.length<i+m→∃n:Int,Z7b l id m (i:Int)=some n∧ -1≤n∧n<l.length
 | 0,i,h1,h2=>by omega
 | m+1,i,h1,h2=>by
  rw [Z7b]
  by_cases hi:i<l.length
  ·rw [decide_eq_true (by omega),cond_true,Z16 hi,Option.bind_some]
   cases decide (l[i].ID=id)
   ·rw [cond_false,Z0r (by omega) (by omega)]
    exact Zi9 l hl id m (i+1) (by omega) (by omega)
   ·exact ⟨_,rfl,by omega,by omega⟩
  ·rw [decide_eq_false (by omega)];exact ⟨-1,rfl,by omega,by omega⟩
theorem Zej (l:List Group)(hl:l.length≤1000)(id:Int):∃n:Int,Z73 l id=some n∧ -1≤n∧n<l.length:=Zi9 l hl id _ 0 (by omega) (by omega)
def Z3m (k:Int)(x:Bucket):Prop:=k=3→1≤x.Watch∧x.Watch≤6
theorem Zo4 (k:Int)(x:Bucket):∃f,Z8w k x=some f∧(f.Is=false→Z3m k x):=by
 unfold Z8w Z30 Z3m
 cases decide (x.WatchGroup≠4294967295)
 ·cases (decide (k=1))&&(decide (x.Weight≠1))
  ·cases (decide (k≠1))&&(decide (x.Weight≠0))
   ·cases hc:(decide (k=3))&&((decide (x.Watch<1))||(decide (x.Watch>6)))
    ·have hw:k=3→1≤x.Watch∧x.Watch≤6:=fun hk=>by
      rw [decide_eq_true hk,Bool.true_and,Bool.or_eq_false_iff,decide_eq_false_iff_not,decide_eq_false_iff_not] at hc
      omega
     cases (decide (k≠3))&&(decide (x.Watch≠4294967295))<;>exact ⟨_,rfl,fun _=>hw⟩
    ·exact ⟨_,rfl,fun h=>by cases h⟩
   ·exact ⟨_,rfl,fun h=>by cases h⟩
  ·exact ⟨_,rfl,fun h=>by cases h⟩
 ·exact ⟨_,rfl,fun h=>by cases h⟩
theorem Zjz (k:Int)(l:List Bucket)(hl:l.length≤1000):∀(m i:Nat),i≤l.length→l.length<i+m→∃f,Z78 l k m (i:Int)=some f∧(f.Is=false→∀x∈l.drop i,Z3m k x)
 | 0,i,h1,h2=>by omega
 | m+1,i,h1,h2=>by
  rw [Z78]
  by_cases hi:i<l.length
  ·obtain ⟨f,hf,hw⟩:=Zo4 k l[i]
   rw [decide_eq_true (by omega),cond_true,Z16 hi,Option.bind_some,hf,Option.bind_some]
   cases hfi:f.Is
   ·rw [cond_false,Z0r (by omega) (by omega)]
    obtain ⟨f2,h3,h4⟩:=Zjz k l hl m (i+1) (by omega) (by omega)
    refine ⟨f2,h3,fun h x hx=>?_⟩
    rw [List.drop_eq_getElem_cons hi] at hx
    rcases List.mem_cons.1 hx with rfl | hx
    ·exact hw hfi
    ·exact h4 h x hx
   ·exact ⟨f,rfl,fun h=>by rw [hfi] at h;cases h⟩
  ·rw [decide_eq_false (by omega)]
   exact ⟨_,rfl,fun _ x hx=>by rw [List.drop_of_length_le (by omega)] at hx;cases hx⟩
theorem Zpr (k:Int)(l:List Bucket)(hl:l.length≤1000):∃f,Z8i k l=some f∧(f.Is=false→∀x∈l,Z3m k x):=by
 unfold Z8i Z30
 cases (decide (k<0))||(decide (k>3))
 ·cases decide ((l.length:Int)>4)
  ·cases (decide (k=2))&&(decide ((l.length:Int)≠1))
   ·exact Zjz k l hl _ 0 (by omega) (by omega)
   ·exact ⟨_,rfl,fun h=>by cases h⟩
  ·exact ⟨_,rfl,fun h=>by cases h⟩
 ·exact ⟨_,rfl,fun h=>by cases h⟩
theorem Zek (l:List Action)(hl:l.length≤1000):∀(m i:Nat) (acc:List Int),i≤l.length→l.length<i+m→acc.length≤i→∃r,Z65 l m acc (i:Int)=some r∧r.length≤l.length
 | 0,i,acc,h1,h2,_=>by omega
 | m+1,i,acc,h1,h2,h3=>by
  have hlim:Zq=4294967296:=rfl
  rw [Z65]
  by_cases hi:i<l.length
  ·rw [decide_eq_true (by omega),cond_true,Z16 hi,Option.bind_some,Option.bind_some,Z0r (by omega) (by omega)]
   cases decide (l[i].Kind=22)
   ·exact Zek l hl m (i+1) acc (by omega) (by omega) (by omega)
   ·rw [cond_true,Z23 (by simp;omega),Option.bind_some]
    exact Zek l hl m (i+1) _ (by omega) (by omega) (by simp;omega)
  ·rw [decide_eq_false (by omega)];exact ⟨acc,rfl,by omega⟩
theorem Zh6 (l:List Bucket)(hl:l.length≤1000)(ha:∀x∈l,x.Acts.length≤1000):∀(m i:Nat) (acc:List Int),i≤l.length→l.length<i+m→acc.length≤i*1000→∃r,Z6r l m acc (i:Int)=some r∧r.length≤1000000
 | 0,i,acc,h1,h2,_=>by omega
 | m+1,i,acc,h1,h2,h3=>by
  have hlim:Zq=4294967296:=rfl
  rw [Z6r]
  by_cases hi:i<l.length
  ·have h4:=ha _ (List.getElem_mem hi)
   obtain ⟨r,hr,hrl⟩:=Zek l[i].Acts h4 (((l[i].Acts.length:Int) - 0).toNat+1) 0 [] (by omega) (by omega) (by simp)
   have hr2:Zby l[i].Acts=some r:=hr
   rw [decide_eq_true (by omega),cond_true,Z16 hi,Option.bind_some,hr2,Option.bind_some,Z23 (by omega),Option.bind_some,Z0r (by omega) (by omega)]
   exact Zh6 l hl ha m (i+1) _ (by omega) (by omega) (by rw [List.length_append];omega)
  ·rw [decide_eq_false (by omega)];exact ⟨acc,rfl,by omega⟩
theorem Zi3 (l:List Bucket)(hl:l.length≤1000)(ha:∀x∈l,x.Acts.length≤1000):∃r,Z8z l=some r∧r.length≤1000000:=Zh6 l hl ha _ 0 [] (by omega) (by omega) (by simp)
theorem Zip (x:List Int)(hx:x.length≤1000000)(l:List Group)(hl:l.length≤1000):∀(m i:Nat),i≤x.length→x.length<i+m→∃b,Z6h x l m (i:Int)=some b
 | 0,i,h1,h2=>by omega
 | m+1,i,h1,h2=>by
  rw [Z6h]
  by_cases hi:i<x.length
  ·obtain ⟨n,hn,_⟩:=Zej l hl x[i]
   rw [decide_eq_true (by omega),cond_true,Z16 hi,Option.bind_some,hn,Option.bind_some]
   cases decide (n<0)
   ·rw [cond_false,Z0r (by omega) (by omega)]
    exact Zip x hx l hl m (i+1) (by omega) (by omega)
   ·exact ⟨_,rfl⟩
  ·rw [decide_eq_false (by omega)];exact ⟨_,rfl⟩
def Z4n (l:List Bool):Nat:=l.countP fun b=> !b
theorem Zhw:∀(l:List Bool) (i:Nat) (h:i<l.length),l[i]=false→Z4n (l.set i true)+1=Z4n l
 | b::l,0,h,hb=>by
  simp only [List.getElem_cons_zero] at hb
  subst hb
  simp [Z4n]
 | b::l,i+1,h,hb=>by
  simp only [List.getElem_cons_succ] at hb
  have:=Zhw l i (by simpa using h) hb
  unfold Z4n at this ⊢
  rw [List.set_cons_succ,List.countP_cons,List.countP_cons]
  omega
theorem Zfm (x:List Int)(hx:x.length≤1000000)(l:List Group)(hl:l.length≤1000)(go:List Bool→List Int→Option (List Bool))(B:Nat)(hB:B≤100000)
  (hgo:∀is todo,is.length=l.length→(∀t∈todo,0≤t∧t<(l.length:Int))→Z4n is+todo.length≤B→∃r,go is todo=some r∧r.length=l.length):
  ∀(m i:Nat) (is:List Bool) (todo:List Int),i≤x.length→x.length<i+m→is.length=l.length→(∀t∈todo,0≤t∧t<(l.length:Int))→Z4n is+todo.length≤B→∃r,Z5i x l go m is todo (i:Int)=some r∧r.length=l.length
 | 0,i,is,todo,h1,h2,_,_,_=>by omega
 | m+1,i,is,todo,h1,h2,h3,h4,h5=>by
  have hlim:Zq=4294967296:=rfl
  rw [Z5i]
  by_cases hi:i<x.length
  ·obtain ⟨n,hn,hn1,hn2⟩:=Zej l hl x[i]
   rw [decide_eq_true (by omega),cond_true,Z16 hi,Option.bind_some,hn,Option.bind_some,Z0r (by omega) (by omega)]
   have ih:=Zfm x hx l hl go B hB hgo m (i+1)
   by_cases hn0:n≥0
   ·obtain ⟨k,rfl⟩:∃k:Nat,n=(k:Int):=⟨n.toNat,by omega⟩
    have hk:k<is.length:=by omega
    rw [decide_eq_true hn0,Z36,Z16 hk,Option.bind_some,Bool.true_and]
    cases hb:is[k]
    ·have h6:=Zhw is k hk hb
     rw [Bool.not_false,cond_true,Option.bind_some,Z23 (by simp;omega),Option.bind_some,Int.toNat_natCast]
     refine ih (is.set k true) (todo++[(k:Int)]) (by omega) (by omega) (by rw [List.length_set];exact h3) (fun t ht=>?_) (by rw [List.length_append,List.length_singleton];omega)
     rcases List.mem_append.1 ht with ht | ht
     ·exact h4 t ht
     ·rw [List.mem_singleton] at ht;subst ht;omega
    ·exact ih is todo (by omega) (by omega) h3 h4 h5
   ·rw [decide_eq_false hn0,Zgj,Option.bind_some,Bool.false_and,cond_false]
    exact ih is todo (by omega) (by omega) h3 h4 h5
  ·rw [decide_eq_false (by omega)];exact hgo is todo h3 h4 h5
theorem Zfs (l:List Group)(hG:Z2y l):∀(fuel B:Nat),B≤100000→B<fuel→∀(is:List Bool) (todo:List Int),is.length=l.length→(∀t∈todo,0≤t∧t<(l.length:Int))→Z4n is+todo.length≤B→∃r,Z4x l fuel is todo=some r∧r.length=l.length
 | 0,B,_,h,_,_,_,_,_=>by omega
 | fuel+1,B,hB,hf,is,todo,h3,h4,h5=>by
  have h9:=hG.1
  rw [Z4x]
  cases todo with
  | nil=>exact ⟨is,rfl,h3⟩
  | cons t todo=>
   obtain ⟨k,rfl⟩:∃k:Nat,t=(k:Int):=⟨t.toNat,by have:=(h4 t (by simp)).1;omega⟩
   have hk:k<l.length:=by have:=(h4 _ (List.mem_cons_self ..)).2;omega
   have hb:=hG.2 _ (List.getElem_mem hk)
   obtain ⟨x,hx,hxl⟩:=Zi3 l[k].Buckets (by have:=hb.1;omega) (fun y hy=>by have:=hb.2 y hy;omega)
   have h0:lget ((k:Int)::todo) 0=some (k:Int):=rfl
   have hd:Z2m ((k:Int)::todo) 1=some todo:=by
    unfold Z2m
    rw [decide_eq_true (by omega),List.length_cons,Nat.ble_eq_true_of_le (show (1:Int).toNat≤todo.length+1 from Nat.succ_le_succ (Nat.zero_le _))];rfl
   rw [decide_eq_true (by rw [List.length_cons];omega),cond_true,h0,Option.bind_some,Z16 hk,Option.bind_some,hx,Option.bind_some,hd,Option.bind_some]
   simp only [List.length_cons] at h5
   exact Zfm x hxl l (by omega) _ (B - 1) (by omega) (fun is todo a b c=>Zfs l hG fuel (B - 1) (by omega) (by omega) is todo a b c) _ 0 is todo (by omega) (by omega) h3 (fun t ht=>h4 t (by simp [ht])) (by omega)
theorem Zpv (l:List Group)(hG:Z2y l)(i:Nat)(hi:i<l.length):∃r,Zal l (i:Int)=some r∧r.length=l.length:=by
 have h9:=hG.1
 have hlim:Zq=4294967296:=rfl
 unfold Zal omk
 rw [decide_eq_false (by omega),decide_eq_false (by omega)]
 show ∃r,Z4x l Z1p (List.replicate ((l.length:Int)).toNat false) [(i:Int)]=some r∧_
 rw [Int.toNat_natCast]
 refine Zfs l hG Z1p 100 (by omega) (by unfold Z1p;omega) _ _ (by simp) (fun t ht=>by rw [List.mem_singleton] at ht;subst ht;omega) ?_
 have:Z4n (List.replicate l.length false)≤(List.replicate l.length false).length:=List.countP_le_length
 rw [List.length_replicate] at this
 simp;omega
theorem Zh3 (l:List Group)(hl:l.length≤1000)(x:List Bool)(hx:x.length=l.length)(k:Nat)(hk:k<l.length)(go:Int→Option Bool)(hgo:∃b,go ((k:Int)+1)=some b):∀(m j:Nat),j≤l.length→l.length<j+m→∃b,Z7d l x (k:Int) go m (j:Int)=some b
 | 0,j,h1,h2=>by omega
 | m+1,j,h1,h2=>by
  rw [Z7d]
  by_cases hj:j<l.length
  ·rw [decide_eq_true (by omega),cond_true,Z16 (show j<x.length by omega),Option.bind_some,Z16 hj,Z16 hk,Z0r (by omega) (by omega)]
   have ih:=Zh3 l hl x hx k hk go hgo m (j+1) (by omega) (by omega)
   cases x[j]'(by omega)
   ·exact ih
   ·rw [Z36,Z36,Option.bind_some,Option.bind_some,Bool.true_and]
    cases decide (l[j].ID=l[k].ID)
    ·exact ih
    ·exact ⟨_,rfl⟩
  ·rw [decide_eq_false (by omega),cond_false,Z0r (by omega) (by omega)];exact hgo
theorem Zgp (l:List Group)(hG:Z2y l):∀(m i:Nat),i≤l.length→l.length<i+m→∃b,Z5v l m (i:Int)=some b
 | 0,i,h1,h2=>by omega
 | m+1,i,h1,h2=>by
  have h9:=hG.1
  rw [Z5v]
  by_cases hi:i<l.length
  ·obtain ⟨r,hr,hrl⟩:=Zpv l hG i hi
   rw [decide_eq_true (by omega),cond_true,hr,Option.bind_some]
   exact Zh3 l (by omega) r hrl i hi _ (Zgp l hG m (i+1) (by omega) (by omega)) _ 0 (by omega) (by omega)
  ·rw [decide_eq_false (by omega)];exact ⟨_,rfl⟩
theorem Zje (l:List Group)(hG:Z2y l):∀(m i:Nat),i≤l.length→l.length<i+m→∃b,Z6p l m (i:Int)=some b∧(b=true→∀g∈l.drop i,∀x∈g.Buckets,Z3m g.Kind x)
 | 0,i,h1,h2=>by omega
 | m+1,i,h1,h2=>by
  have h9:=hG.1
  rw [Z6p]
  by_cases hi:i<l.length
  ·have hb:=hG.2 _ (List.getElem_mem hi)
   obtain ⟨n,hn,_⟩:=Zej l (by omega) l[i].ID
   obtain ⟨f,hf,hw⟩:=Zpr l[i].Kind l[i].Buckets (by have:=hb.1;omega)
   obtain ⟨x,hx,hxl⟩:=Zi3 l[i].Buckets (by have:=hb.1;omega) (fun y hy=>by have:=hb.2 y hy;omega)
   obtain ⟨t,ht⟩:=Zip x hxl l (by omega) (((x.length:Int) - 0).toNat+1) 0 (by omega) (by omega)
   have ht2:Zat l l[i].Buckets=some t:=by unfold Zat;rw [hx];exact ht
   obtain ⟨b,ihb,ihw⟩:=Zje l hG m (i+1) (by omega) (by omega)
   have no:∀v:Option Bool,v=some false→∃b,v=some b∧(b=true→∀g∈l.drop i,∀x∈g.Buckets,Z3m g.Kind x):=fun v hv=>⟨false,hv,fun h=>by cases h⟩
   rw [decide_eq_true (by omega),cond_true,Z16 hi,Option.bind_some,Z0r (by omega) (by omega)]
   cases decide (l[i].ID<0)
   ·simp only [Bool.not_false,Z36,Option.bind_some,Bool.false_or]
    cases decide (l[i].ID>4294967040)
    ·simp only [Bool.not_false,Z36,Option.bind_some,Bool.false_or,hn]
     cases decide (n≠(i:Int))
     ·simp only [Bool.not_false,Z36,Option.bind_some,Bool.false_or,hf]
      cases hfi:f.Is
      ·simp only [Bool.not_false,Z36,Option.bind_some,Bool.false_or,ht2]
       cases t
       ·exact no _ rfl
       ·refine ⟨b,ihb,fun h g hg=>?_⟩
        rw [List.drop_eq_getElem_cons hi] at hg
        rcases List.mem_cons.1 hg with rfl | hg
        ·exact hw hfi
        ·exact ihw h g hg
      ·exact no _ rfl
     ·exact no _ rfl
    ·exact no _ rfl
   ·exact no _ rfl
  ·obtain ⟨b,hb⟩:=Zgp l hG (((l.length:Int) - 0).toNat+1) 0 (by omega) (by omega)
   have hb2:Zbg l=some b:=hb
   rw [decide_eq_false (by omega),cond_false,hb2]
   have he:∃c,((opt (decide ((l.length:Int)≤8)) (some b)).bind fun x14=>some (decide ((l.length:Int)≤8)&& !x14))=some c:=by
    cases decide ((l.length:Int)≤8)<;>exact ⟨_,rfl⟩
   obtain ⟨c,hc⟩:=he
   exact ⟨c,hc,fun _ g hg=>by rw [List.drop_of_length_le (by omega)] at hg;cases hg⟩
theorem Zp1 (l:List Group)(hG:Z2y l):∃b,Zbk l=some b∧(b=true→∀g∈l,∀x∈g.Buckets,Z3m g.Kind x):=Zje l hG _ 0 (by omega) (by omega)
theorem Zcy (e:Env)(n:Nat)(hn:0<n)(hn2:n≤1000):Z29 e n=e.Turn % (n:Int):=by
 unfold Z29 Z45 Z2j
 rw [decide_eq_false (by omega),cond_false,decide_eq_false (by omega),cond_false,Option.bind_some]
 have h1:=Int.tmod_lt_of_pos e.Turn (show (0:Int)<n by omega)
 have h2: -(n:Int)<e.Turn.tmod (n:Int):=Int.lt_tmod_of_pos e.Turn (show (0:Int)<n by omega)
 by_cases hc:e.Turn.tmod (n:Int)<0
 ·rw [decide_eq_true hc,cond_true,Z0r (by omega) (by omega)]
  show e.Turn.tmod n+n=_
  have h3:=Int.tmod_eq_emod (a:=e.Turn) (b:=(n:Int))
  have h4:=Int.emod_nonneg e.Turn (show (n:Int)≠0 by omega)
  have h5:=Int.emod_lt_of_pos e.Turn (show (0:Int)<n by omega)
  split at h3<;>omega
 ·rw [decide_eq_false hc]
  show e.Turn.tmod n=_
  have h3:=Int.tmod_eq_emod (a:=e.Turn) (b:=(n:Int))
  have h5:=Int.emod_lt_of_pos e.Turn (show (0:Int)<n by omega)
  split at h3<;>omega
theorem Zi0 (l:List Group)(q:Nat)(hq:l.any (Z7k (q:Int))=true):∀(m p:Nat),p≤q→q<p+m→(q:Int)∈Z83 l m p
 | 0,p,h1,h2=>by omega
 | m+1,p,h1,h2=>by
  rw [Z83]
  by_cases e:p=q
  ·subst e;rw [hq];exact List.mem_cons_self ..
  ·have:=Zi0 l q hq m (p+1) (by omega) (by omega)
   cases l.any (Z7k (p:Int))
   ·exact this
   ·exact List.mem_cons_of_mem _ this
theorem Ztj {α:Type}{p q:α→Bool}{l:List α}(h:∀x∈l,p x=q x):Zj p l=Zj q l:=by
 induction l with
 | nil=>rfl
 | cons x l ih=>
  unfold Zj
  rw [h x (by simp),ih fun y hy=>h y (by simp [hy])]
theorem Zq5 (l:List Group)(e:Env)(hG:Z2y l)(hw:∀g∈l,∀x∈g.Buckets,Z3m g.Kind x)(g:Group)(hg:g∈l):Z1z (Z24 l e) g=Z1z e g:=by
 have h4:=(hG.2 g hg).1
 unfold Z1z
 by_cases h0:g.Buckets.length=0
 ·rw [decide_eq_true h0];rfl
 ·have hwh:g.Kind=1→Z29 (Z24 l e) g.Buckets.length=Z29 e g.Buckets.length:=fun hk=>by
   have hd:(Z1d l) % g.Buckets.length=0:=by
    have h5:=List.all_eq_true.1 ((Zr2 l (Z1d l)).2 (Nat.dvd_refl _)) g hg
    unfold Zbo at h5
    rw [decide_eq_true hk,decide_eq_true (by omega),decide_eq_true (by omega)] at h5
    simpa using h5
   have hT:=Zdk l
   have hT2:=Zbx l
   rw [Zcy _ _ (by omega) (by omega),Zcy _ _ (by omega) (by omega)]
   show (Z29 e (Z1d l)) % _=_
   rw [Zcy e _ hT (by omega)]
   exact Int.emod_emod_of_dvd _ (Int.natCast_dvd_natCast.2 (Nat.dvd_of_mod_eq_zero hd))
  have hup:g.Kind=3→Z3l (Z24 l e) g.Buckets=Z3l e g.Buckets:=fun hk=>by
   unfold Z3l
   refine Ztj fun x hx=>?_
   have h5:=hw g hg x hx hk
   obtain ⟨q,hq⟩:∃q:Nat,x.Watch=(q:Int):=⟨x.Watch.toNat,by omega⟩
   have hm:x.Watch∈Z2n l:=by
    rw [Zs3,hq]
    refine Zi0 l q (List.any_eq_true.2 ⟨g,hg,?_⟩) 6 1 (by omega) (by omega)
    unfold Z7k Zf2
    rw [decide_eq_true hk,Bool.true_and]
    exact List.any_eq_true.2 ⟨x,hx,by simp [hq]⟩
   congr 1
   unfold Z24
   rw [Bool.eq_iff_iff]
   simp only [List.contains_iff_mem,List.mem_filter]
   exact ⟨fun h=>h.2,fun h=>⟨hm,h⟩⟩
  by_cases hk1:g.Kind=1
  ·rw [hwh hk1]
   simp [hk1]
  ·by_cases hk3:g.Kind=3
   ·rw [hup hk3]
    simp [hk3]
   ·rw [decide_eq_false hk1,decide_eq_false hk3];rfl
theorem Zk0 (l:List Group)(e:Env)(hG:Z2y l)(hw:∀g∈l,∀x∈g.Buckets,Z3m g.Kind x):∀(d:Nat) (id:Int) (h:Header),goG l (Z24 l e) d id h=goG l e d id h
 | 0,id,h=>rfl
 | d+1,id,h=>by
  have ih:goG l (Z24 l e) d=goG l e d:=funext fun id=>funext fun h=>Zk0 l e hG hw d id h
  rw [goG,goG,ih]
  cases hf:Z6e l id with
  | none=>rfl
  | some g=>
   show (Z1z (Z24 l e) g).flatMap _=(Z1z e g).flatMap _
   rw [Zq5 l e hG hw g (Zf7 hf)]
theorem Zm8 (l:List Group)(e:Env)(id:Int)(h:Header):Z9c l e id h=some true:=by
 have hlim:Zq=4294967296:=rfl
 unfold Z9c
 rw [Zmh,Option.bind_some,Zo6]
 cases hf:Zau l 8 4
 ·rfl
 ·by_cases hd:(e.Down.length:Int)>40
  ·rw [decide_eq_true hd,Bool.or_true];rfl
  ·have hG:=Zl3 hf
   have h9:=hG.1
   rw [decide_eq_false hd,Bool.not_true,Bool.or_self,cond_false,Zog l e (by omega),Option.bind_some,Zks l (by omega),Option.bind_some]
   unfold Zb8
   rw [Zqn _ (fun x=>Z7x x (Z24 l e)) (fun x=>decide (Z24 l e=x)) (fun x _=>by unfold Z7x;rw [Zsu];rfl),Option.bind_some,Z7t,Option.bind_some]
   have hany:(Z7o (Z2n l) (Z1d l)).any (fun x=>decide (Z24 l e=x))=true:=List.any_eq_true.2 ⟨_,Zmn l e,by simp⟩
   obtain ⟨b,hb,hw⟩:=Zp1 l hG
   rw [hany,Bool.not_true,cond_false,hb,Option.bind_some]
   cases b
   ·rfl
   ·have hlen:(goG l e 8 id h).length≤1000000:=by
     have:=Z95 l e hG 8 id h
     have e8:(4:Nat) ^ 8=65536:=by decide
     omega
    rw [Bool.not_true,cond_false,Zj0 l e id h hG,Option.bind_some,Zj0 l (Z24 l e) id h hG,Option.bind_some,Zk0 l e hG (hw rfl),Zni _ _ hlen,decide_eq_true rfl]
    rfl
end Go.Proofs.Ytknpgojdkobgjaa.W
