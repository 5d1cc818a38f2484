/- A part of the proof. -/
import Derived.Test.YtinplddjjalohaaGreatDoorP0
set_option linter.unusedVariables false
set_option linter.unusedSimpArgs false
namespace Go.Proofs.YtinplddjjalohaaGreatDoor.W
open Go Go.Wb
section ins
def Zld (lt:Int→Int→Bool)(cmp:Int→Int→Option Int)(A:List Int):Prop:= ∀x∈A,∀y∈A,∃c,cmp x y=some c∧decide (c<0)=lt x y
variable {lt : Int → Int → Bool} {cmp : Int → Int → Option Int}
theorem Yc6 {A:List Int}(hc:Zld lt cmp A)(go:List Int→Int→Option (List Int))(i:Int)(P:List Int)(x:Int)(hx:x∈A):∀(R S:List Int) (m:Nat),(∀y∈R,y∈A)→R.length<m→(P++R.reverse++x::S).length≤big→
  Zdu (P.length:Int) cmp go i m (P++R.reverse++x::S) ((P.length+R.length:Nat):Int)=go (P++(Z0u lt x R).reverse++S) (IntKind.i64.wrap (i+1))
 | [],S,m,_,h,_=>by
  obtain ⟨m,rfl⟩:∃k,m=k+1:=⟨m - 1,by simp at h;omega⟩
  rw [Zdu,decide_eq_false (by simp)]
  simp [opt,Z0u]
 | y::R,S,m,hR,h,hl=>by
  have hbig:big=1000000:=rfl
  simp only [List.length_cons,List.length_append,List.length_reverse] at h hl
  obtain ⟨m,rfl⟩:∃k,m=k+1:=⟨m - 1,by omega⟩
  have e0:P++(y::R).reverse++x::S=(P++R.reverse)++y::(x::S):=by simp
  have ej:IntKind.i64.wrap (((P.length+(y::R).length:Nat):Int) - 1)=((P.length+R.length:Nat):Int):=by rw [wr (by simp only [List.length_cons];omega) (by simp only [List.length_cons];omega)];simp only [List.length_cons];omega
  have g1:∀a b:Int,lget ((P++R.reverse)++a::(b::S)) ((P.length+(y::R).length:Nat):Int)=some b:=fun a b=>by
   have:(P++R.reverse)++a::(b::S)=(P++R.reverse++[a])++b::S:=by simp
   rw [this];exact Z6a _ _ _ _ (by simp)
  have g0:∀a b:Int,lget ((P++R.reverse)++a::(b::S)) ((P.length+R.length:Nat):Int)=some a:=fun a b=>Z6a _ _ _ _ (by simp)
  have s1:∀a b c:Int,List.set ((P++R.reverse)++a::(b::S)) (((P.length+(y::R).length:Nat):Int)).toNat c=(P++R.reverse)++a::(c::S):=fun a b c=>by
   have:(P++R.reverse)++a::(b::S)=(P++R.reverse++[a])++b::S:=by simp
   rw [this,Int.toNat_natCast,Z97 _ _ _ _ _ (by simp)];simp
  have s0:∀a b c:Int,List.set ((P++R.reverse)++a::(b::S)) (((P.length+R.length:Nat):Int)).toNat c=(P++R.reverse)++c::(b::S):=fun a b c=>by
   rw [Int.toNat_natCast,Z97 _ _ _ _ _ (by simp)]
  obtain ⟨c,hc1,hc2⟩:=hc x hx y (hR y (by simp))
  rw [e0,Zdu,decide_eq_true (by simp only [List.length_cons];omega),Z54,g1,Option.bind_some,Z54,ej,g0,Option.bind_some,Z54,hc1,Option.bind_some,Bool.true_and,hc2,Z0u]
  cases lt x y
  ·rw [cond_false,cond_false]
   simp
  ·rw [cond_true,cond_true,Option.bind_some,Option.bind_some,Option.bind_some,s1,g0,Option.bind_some,s0,Yc6 hc go i P x hx R (y::S) m (fun z hz=>hR z (by simp [hz])) (by omega) (by simp only [List.length_append,List.length_cons,List.length_reverse];omega)]
   simp
theorem Zx9 (x:Int)(R:List Int):(Z0u lt x R).length=R.length+1:=by
 induction R with
 | nil=>rfl
 | cons y R ih=>rw [Z0u];cases lt x y<;>simp [ih]
theorem Y2s {A:List Int}(hc:Zld lt cmp A)(P Q:List Int):∀(T R:List Int) (m:Nat),(∀y∈T,y∈A)→(∀y∈R,y∈A)→T.length<m→(P++R.reverse++T++Q).length≤big→
  Zbg ((P.length+R.length+T.length:Nat):Int) (P.length:Int) cmp m (P++R.reverse++T++Q) ((P.length+R.length:Nat):Int)=some (P++(T.foldl (fun R x=>Z0u lt x R) R).reverse++Q)
 | [],R,m,_,_,h,_=>by
  obtain ⟨m,rfl⟩:∃k,m=k+1:=⟨m - 1,by simp at h;omega⟩
  rw [Zbg,decide_eq_false (by simp),cond_false]
  simp
 | x::T,R,m,hT,hR,h,h2=>by
  have hbig:big=1000000:=rfl
  simp only [List.length_cons,List.length_append,List.length_reverse] at h h2
  obtain ⟨m,rfl⟩:∃k,m=k+1:=⟨m - 1,by omega⟩
  have e:IntKind.i64.wrap (((P.length+R.length:Nat):Int)+1)=((P.length+(Z0u lt x R).length:Nat):Int):=by rw [Zx9,wr (by omega) (by omega)];omega
  have hn:P.length+R.length+(x::T).length=P.length+(Z0u lt x R).length+T.length:=by rw [Zx9,List.length_cons];omega
  have e0:P++R.reverse++x::T++Q=P++R.reverse++x::(T++Q):=by simp
  rw [Zbg,decide_eq_true (by simp only [List.length_cons];omega),cond_true,e0,Yc6 hc _ _ P x (hT x (by simp)) R (T++Q) Z0v hR (by unfold Z0v;omega) (by simp only [List.length_append,List.length_cons,List.length_reverse];omega),e,hn,
   ←List.append_assoc,Y2s hc P Q T (Z0u lt x R) m (fun y hy=>hT y (by simp [hy])) (fun y hy=>by rcases Zx2.1 hy with e | e;rw [e];exact hT x (by simp);exact hR y e) (by omega) (by simp only [List.length_append,List.length_reverse,Zx9];omega),List.foldl_cons]
theorem Ygl (P L Q:List Int)(hc:Zld lt cmp L)(a b:Int)(ha:a=(P.length:Int))(hb:b=(P.length:Int)+(L.length:Int))(h:(P++L++Q).length≤big):Zi3 (P++L++Q) a b cmp=some (P++srt lt L++Q):=by
 subst ha hb
 have hbig:big=1000000:=rfl
 have h':=h
 simp only [List.length_append] at h'
 unfold Zi3 srt
 cases L with
 | nil=>
  rw [wr (by omega) (by omega)]
  obtain ⟨m,hm⟩:∃m,(((P.length:Int)+(([]:List Int).length:Int)) - ((P.length:Int)+1)).toNat+1=m+1:=⟨_,rfl⟩
  rw [hm,Zbg,decide_eq_false (by simp only [List.length_nil];omega),cond_false]
  rfl
 | cons x L=>
  simp only [List.length_cons] at h'
  have:=Y2s hc P Q L [x] ((((P.length:Int)+((x::L).length:Int)) - ((P.length:Int)+1)).toNat+1) (fun y hy=>by simp [hy]) (fun y hy=>by simp at hy;simp [hy]) (by simp only [List.length_cons];omega) (by simp only [List.length_append,List.length_reverse,List.length_cons,List.length_nil];omega)
  have e1:((P.length+[x].length+L.length:Nat):Int)=(P.length:Int)+((x::L).length:Int):=by simp;omega
  have e2:((P.length+[x].length:Nat):Int)=(P.length:Int)+1:=by simp
  have e3:P++[x].reverse++L++Q=P++x::L++Q:=by simp
  rw [e1,e2,e3] at this
  rw [wr (by omega) (by omega),this]
  rfl
theorem Ykx (L:List Int)(hc:Zld lt cmp L)(h:L.length<20):Znk L cmp=some (srt lt L):=by
 unfold Znk Zqb
 obtain ⟨m,hm⟩:∃m,(((L.length:Int):Int) - 20).toNat+2=m+1:=⟨_,rfl⟩
 have:=Ygl [] L [] hc 0 (L.length:Int) rfl (by simp) (by simp only [List.nil_append,List.append_nil];show _≤1000000;omega)
 simp only [List.nil_append,List.append_nil] at this
 rw [hm,Zo6,decide_eq_false (by omega),cond_false,this,Option.bind_some]
 obtain ⟨k,hk⟩:∃m,(((L.length:Int):Int) - 20).toNat+1=m+1:=⟨_,rfl⟩
 rw [hk,Zjj,decide_eq_false (by omega),cond_false]
 rfl
end ins
end Go.Proofs.YtinplddjjalohaaGreatDoor.W
namespace Go.Proofs.YtinplddjjalohaaGreatDoor.W
open Go Go.Wb
def Zre (t:List Flow)(i:Int):Int:=match t[i.toNat]? with
 | some f=>f.Priority
 | none=>0
def ltP (t:List Flow)(i j:Int):Bool:=decide (Zre t i>Zre t j)
theorem Y34 (t:List Flow):Swo (ltP t) where
 asym:=fun a b h=>by
  unfold ltP at*
  rw [decide_eq_true_eq] at h
  rw [decide_eq_false_iff_not];omega
 neg:=fun a b c h k=>by
  unfold ltP at*
  rw [decide_eq_false_iff_not] at*;omega
def places (n:Nat):List Int:=(List.range n).map fun (i:Nat)=>(i:Int)
theorem Zvy {n:Nat}{i:Int}:i∈places n↔ ∃k:Nat,k<n∧i=(k:Int):=by
 unfold places
 simp only [List.mem_map,List.mem_range]
 exact ⟨fun ⟨k,h1,h2⟩=>⟨k,h1,h2.symm⟩,fun ⟨k,h1,h2⟩=>⟨k,h1,h2.symm⟩⟩
def Z5o (t:List Flow):List Int:=srt (ltP t) (places t.length)
theorem Zn2 {t:List Flow}{i:Int}:i∈Z5o t↔ ∃k:Nat,k<t.length∧i=(k:Int):=by
 unfold Z5o
 rw [Y3x (Y34 t),Zvy]
theorem Y8u (t:List Flow):(Z5o t).length=t.length:=by
 unfold Z5o
 rw [Z3p (Y34 t)];simp [places]
theorem Zt2 {t:List Flow}{k:Nat}(h:k<t.length):Zre t (k:Int)=t[k].Priority:=by
 unfold Zre
 rw [Int.toNat_natCast,List.getElem?_eq_getElem h]
theorem Ykv (t:List Flow):Zld (ltP t) (fun x z=>Zie x z t) (places t.length):=fun x hx y hy=>by
 obtain ⟨i,hi,rfl⟩:=Zvy.1 hx
 obtain ⟨j,hj,rfl⟩:=Zvy.1 hy
 unfold Zie ltP
 dsimp only
 rw [Z29 hi,Option.bind_some,Z29 hj,Option.bind_some,Zt2 hi,Zt2 hj,Option.bind_some,Option.bind_some]
 by_cases h1:t[i].Priority>t[j].Priority
 ·rw [decide_eq_true h1,cond_true];exact ⟨_,rfl,rfl⟩
 ·rw [decide_eq_false h1,cond_false]
  by_cases h2:t[i].Priority<t[j].Priority
  ·rw [decide_eq_true h2,cond_true];exact ⟨_,rfl,rfl⟩
  ·rw [decide_eq_false h2,cond_false];exact ⟨_,rfl,rfl⟩
theorem Yaz (t:List Flow)(ht:t.length<20):∀(m i:Nat),i+m=t.length→Zbq t m i (places i)=some (Z5o t)
 | 0,i,h=>by
  have:i=t.length:=by omega
  subst this
  rw [Zbq,Ykx _ (Ykv t) (by simpa [places] using ht)];rfl
 | m+1,i,h=>by
  have hlim:lim=4294967296:=rfl
  have e:places i++[(i:Int)]=places (i+1):=by unfold places;rw [List.range_succ,List.map_append];rfl
  rw [Zbq,Z1p (by simp [places];omega),Option.bind_some,e]
  exact Yaz t ht m (i+1) (by omega)
theorem Yf7 (n:Nat)(h:n≤lim):omk (n:Int)=some ():=by
 unfold omk
 rw [decide_eq_false (by omega),decide_eq_false (by omega)];rfl
theorem Y4l (t:List Flow)(ht:t.length<20):Zho t=some (Z5o t):=by
 have hlim:lim=4294967296:=rfl
 unfold Zho
 rw [Yf7 _ (by omega),Option.bind_some,show ((t.length:Int)).toNat=t.length by omega]
 exact Yaz t ht t.length 0 (by omega)
def Zrt (w:walk_way)(l:List Action):walk_way:={w with atoms:=w.atoms++(doT l (Z1d w.got)).1,got:=(doT l (Z1d w.got)).2}
theorem Yp9 {α:Type}(l:List α):Z4j l (l.length:Int)=some l:=by
 unfold Z4j
 simp [Nat.ble_eq_true_of_le (Nat.le_refl _)]
theorem Zhm (l:List Action):Z4f l≤l.length:=List.countP_le_length
theorem Y7q (w:walk_way)(l:List Action)(h:w.atoms.length+l.length≤100000):Zeg w l=some (Zrt w l):=by
 have hlim:lim=4294967296:=rfl
 have h1:=Zhm l
 unfold Zeg
 rw [Yls l w.got (by omega),Option.bind_some,Yp9,Option.bind_some,Z1p (by rw [Zh7];omega),Option.bind_some];rfl
def Z4v (w:walk_way)(f:Flow):Option walk_way:=(Z5e w.got (Z7d f)).bind fun b=>(Z4n b w.cube).map fun c=>{w with cube:=c}
theorem Yua (w:walk_way)(f:Flow):∃z,Zjt w f=some (Z1v z (Z4v w f)):=by
 unfold Zjt Z4v
 rw [Y1m,Option.bind_some,Ynq,Option.bind_some]
 cases Z5e w.got (Z7d f) with
 | none=>exact ⟨_,rfl⟩
 | some b=>
  show ∃z,(Zch b w.cube).bind _=some (Z1v z ((Z4n b w.cube).map _))
  rw [Zxl,Option.bind_some]
  cases Z4n b w.cube with
  | none=>exact ⟨_,rfl⟩
  | some c=>exact ⟨w,rfl⟩
def Z3q (w:walk_way)(l:List Inst):walk_way:=match ofI l 4 with
 | some i=>Zrt w i.Acts
 | none=>w
def Z3l (w:walk_way)(l:List Inst):walk_way:=match ofI l 5 with
 | some _=>{w with set:=[]}
 | none=>w
def Z3f (w:walk_way)(l:List Inst):walk_way:=match ofI l 3 with
 | some i=>{w with set:=i.Acts.foldl wr1 w.set}
 | none=>w
def Z3w (w:walk_way)(l:List Inst):walk_way:=match ofI l 2 with
 | some i=>{w with got:=Z5z w.got 1 i.Value i.Mask}
 | none=>w
def wdo (w:walk_way)(l:List Inst):walk_way:=Z3w (Z3f (Z3l (Z3q w l) l) l) l
def Z1u (at_:Nat)(l:List Inst):Option Nat:=match ofI l 1 with
 | some i=>if i.Table>(at_:Int)∧i.Table<4 then some i.Table.toNat else none
 | none=>none
theorem Zvn {at_:Nat}{l:List Inst}{i:Inst}(h:ofI l 1=some i)(hc:i.Table>(at_:Int)∧i.Table<4):Z1u at_ l=some i.Table.toNat:=by
 unfold Z1u;rw [h];exact if_pos hc
theorem Zwq {at_:Nat}{l:List Inst}{i:Inst}(h:ofI l 1=some i)(hc:¬(i.Table>(at_:Int)∧i.Table<4)):Z1u at_ l=none:=by
 unfold Z1u;rw [h];exact if_neg hc
theorem Zxz {at_:Nat}{l:List Inst}(h:ofI l 1=none):Z1u at_ l=none:=by
 unfold Z1u;rw [h]
theorem Zih {at_ n:Nat}{l:List Inst}(h:Z1u at_ l=some n):at_<n∧n<4:=by
 unfold Z1u at h
 split at h
 ·split at h
  ·cases h;omega
  ·cases h
 ·cases h
def Z4p (w:walk_way):walk_way:=Zrt w (Z5h w.set)
def Z6n (l:List Inst):Prop:= ∀i∈l,i.Acts.length≤12
theorem Zxx (w:walk_way){l:List Inst}(hl:Z6n l):(Z3q w l).atoms.length≤w.atoms.length+12∧(Z3q w l).set=w.set∧(Z3q w l).cube=w.cube:=by
 unfold Z3q
 split
 ·rename_i i hi
  have h1:=hl i (Z9b hi)
  have h2:=Zhm i.Acts
  refine ⟨?_,rfl,rfl⟩
  show (w.atoms++_).length≤_
  rw [List.length_append,Zh7];omega
 ·exact ⟨by omega,rfl,rfl⟩
theorem Zlf (w:walk_way)(l:List Inst):(Z3l w l).atoms=w.atoms∧(Z3l w l).set.length≤w.set.length∧(Z3l w l).cube=w.cube:=by
 unfold Z3l
 split
 ·exact ⟨rfl,by simp,rfl⟩
 ·exact ⟨rfl,by omega,rfl⟩
theorem Zo4 (w:walk_way){l:List Inst}(hl:Z6n l):(Z3f w l).atoms=w.atoms∧(Z3f w l).set.length≤w.set.length+12∧(Z3f w l).cube=w.cube:=by
 unfold Z3f
 split
 ·rename_i i hi
  have h1:=hl i (Z9b hi)
  have h2:=Zsr i.Acts w.set
  exact ⟨rfl,by show (i.Acts.foldl wr1 w.set).length≤_;omega,rfl⟩
 ·exact ⟨rfl,by omega,rfl⟩
theorem Zxh (w:walk_way)(l:List Inst):(Z3w w l).atoms=w.atoms∧(Z3w w l).set=w.set∧(Z3w w l).cube=w.cube:=by
 unfold Z3w
 split
 ·exact ⟨rfl,rfl,rfl⟩
 ·exact ⟨rfl,rfl,rfl⟩
theorem Zpa (w:walk_way){l:List Inst}(hl:Z6n l):(wdo w l).atoms.length≤w.atoms.length+12∧(wdo w l).set.length≤w.set.length+12∧(wdo w l).cube=w.cube:=by
 have h1:=Zxx w hl
 have h2:=Zlf (Z3q w l) l
 have h3:=Zo4 (Z3l (Z3q w l) l) hl
 have h4:=Zxh (Z3f (Z3l (Z3q w l) l) l) l
 unfold wdo
 refine ⟨?_,?_,?_⟩
 ·rw [h4.1,h3.1,h2.1];exact h1.1
 ·rw [h4.2.1]
  have:=h3.2.1
  have:=h2.2.1
  rw [h1.2.1] at this
  omega
 ·rw [h4.2.2,h3.2.2,h2.2.2,h1.2.2]
theorem Yjo (w:walk_way)(at_:Nat)(l:List Inst)(hl:Z6n l)(ha:w.atoms.length≤1000)(hs:w.set.length≤1000):
  Zmc w (at_:Int) l=some (match Z1u at_ l with | some n=>(wdo w l,(n:Int),true) | none=>(Z4p (wdo w l),0,false)):=by
 have hlim:lim=4294967296:=rfl
 have b1:=Zxx w hl
 have b2:=Zlf (Z3q w l) l
 have b3:=Zo4 (Z3l (Z3q w l) l) hl
 have b4:=Zpa w hl
 have j4:∀b:walk_way,b.atoms.length≤2000→b.set.length≤2000→Zj2 l (at_:Int) b=some (match Z1u at_ l with | some n=>(b,(n:Int),true) | none=>(Z4p b,0,false)):=fun b h1 h2=>by
  unfold Zj2
  rw [Z8x l 1 hl,Option.bind_some]
  have hend:((Z8d b.set).bind fun x12=>(Zeg b x12).bind fun x13=>some (x13,(0:Int),false))=some (Z4p b,0,false):=by
   have:=Znp b.set
   rw [Y5k _ (by omega),Option.bind_some,Y7q b _ (by omega)];rfl
  cases hi:ofI l 1 with
  | none=>rw [Zxz hi];exact hend
  | some i=>
   show (bif ((true&&decide (i.Table>(at_:Int)))&&decide (i.Table<4)) then some (b,i.Table,true) else _)=_
   rw [Bool.true_and]
   by_cases hc:i.Table>(at_:Int)∧i.Table<4
   ·have hd:(decide (i.Table>(at_:Int))&&decide (i.Table<4))=true:=by
     rw [Bool.and_eq_true,decide_eq_true_eq,decide_eq_true_eq];exact hc
    have:((i.Table.toNat:Nat):Int)=i.Table:=by omega
    rw [Zvn hi hc,hd,cond_true]
    simp [this]
   ·have hd:(decide (i.Table>(at_:Int))&&decide (i.Table<4))=false:=by
     rw [Bool.and_eq_false_iff,decide_eq_false_iff_not,decide_eq_false_iff_not];omega
    rw [Zwq hi hc,hd,cond_false]
    exact hend
 have j3:∀b:walk_way,b.atoms.length≤2000→b.set.length≤2000→Zgb l (at_:Int) b=some (match Z1u at_ l with | some n=>(Z3w b l,(n:Int),true) | none=>(Z4p (Z3w b l),0,false)):=fun b h1 h2=>by
  have b5:=Zxh b l
  unfold Zgb
  rw [Z8x l 2 hl,Option.bind_some,←j4 (Z3w b l) (by rw [b5.1];omega) (by rw [b5.2.1];omega)]
  unfold Z3w
  cases hi:ofI l 2 with
  | none=>rfl
  | some i=>
   simp only [Z1v,cond_true]
   rw [Zjm];rfl
 have j2:∀b:walk_way,b.atoms.length≤1500→b.set.length≤1500→Zg2 l (at_:Int) b=some (match Z1u at_ l with | some n=>(Z3w (Z3f b l) l,(n:Int),true) | none=>(Z4p (Z3w (Z3f b l) l),0,false)):=fun b h1 h2=>by
  have b5:=Zo4 b hl
  unfold Zg2
  rw [Z8x l 3 hl,Option.bind_some,←j3 (Z3f b l) (by rw [b5.1];omega) (by have:=b5.2.1;omega)]
  unfold Z3f
  cases hi:ofI l 3 with
  | none=>rfl
  | some i=>
   have:=hl i (Z9b hi)
   simp only [Z1v,cond_true]
   rw [Zx5 _ _ (by omega)];rfl
 have j1:∀b:walk_way,b.atoms.length≤1500→b.set.length≤1500→Zgt l (at_:Int) b=some (match Z1u at_ l with | some n=>(Z3w (Z3f (Z3l b l) l) l,(n:Int),true) | none=>(Z4p (Z3w (Z3f (Z3l b l) l) l),0,false)):=fun b h1 h2=>by
  have b5:=Zlf b l
  unfold Zgt
  rw [Z8x l 5 hl,Option.bind_some,←j2 (Z3l b l) (by rw [b5.1];omega) (by have:=b5.2.1;omega)]
  unfold Z3l
  cases hi:ofI l 5 with
  | none=>rfl
  | some i=>rfl
 unfold Zmc
 rw [Z8x l 4 hl,Option.bind_some]
 have:=j1 (Z3q w l) (by omega) (by rw [b1.2.1];omega)
 unfold wdo
 rw [←this]
 unfold Z3q
 cases hi:ofI l 4 with
 | none=>rfl
 | some i=>
  have:=hl i (Z9b hi)
  simp only [Z1v,cond_true]
  rw [Y7q w _ (by omega)];rfl
def Z06 (s:Switch)(i:Nat):List Flow:=if h:i<4 then Vector.get s.Tables ⟨i,h⟩ else []
theorem Zfl (s:Switch)(i:Nat)(h:i<4):Vector.get s.Tables ⟨i,h⟩=Z06 s i:=by unfold Z06;rw [dif_pos h]
def Z2z (w:walk_way):Rule:=⟨w.cube,w.atoms⟩
def Z6s (R:Nat→walk_way→List Rule)(t:List Flow)(at_:Nat)(w:walk_way)(i:Int):List Rule:=match t[i.toNat]? with
 | none=>[]
 | some f=>match Z4v w f with
  | none=>[]
  | some x=>match Z1u at_ f.Insts with
   | some n=>R n (wdo x f.Insts)
   | none=>[Z2z (Z4p (wdo x f.Insts))]
def Z47 (s:Switch):Nat→Nat→walk_way→List Rule
 | 0,_,w=>[Z2z w]
 | d+1,at_,w=>(Z5o (Z06 s at_)).flatMap (Z6s (Z47 s d) (Z06 s at_) at_ w)++[Z2z w]
def Y1a (t:List Flow):Prop:=t.length<20∧∀f∈t,Z6n f.Insts
def Z7f (s:Switch):Prop:= ∀i,i<4→Y1a (Z06 s i)
def Z5p (at_:Nat)(w:walk_way):Prop:=w.atoms.length≤12*at_∧w.set.length≤12*at_
theorem Y1v (w:walk_way)(h:w.atoms.length≤100000):Zfz w=some (Z2z w):=by
 have hlim:lim=4294967296:=rfl
 unfold Zfz Zf2
 rw [Z1p (by simp;omega)];rfl
theorem Zxj {w x:walk_way}{f:Flow}(h:Z4v w f=some x):x.atoms=w.atoms∧x.set=w.set:=by
 unfold Z4v at h
 obtain ⟨b,h1,h2⟩:=Option.bind_eq_some_iff.1 h
 obtain ⟨c,h3,h4⟩:=Option.map_eq_some_iff.1 h2
 subst h4
 exact ⟨rfl,rfl⟩
theorem Y99 (w:walk_way):(Z4p w).atoms.length≤w.atoms.length+w.set.length:=by
 have h1:=Znp w.set
 have h2:=Zhm (Z5h w.set)
 show (w.atoms++_).length≤_
 rw [List.length_append,Zh7];omega
def goP {σ:Type}(r:Lp σ):Bool×Lp σ:=(r.isGo,r)
theorem Yca (sg:Type)(y:sg→Rule→Option (Lp sg))(s:Switch)(at_:Nat)(ha:at_<4)(hs:Y1a (Z06 s at_))(w:walk_way)(hw:Z5p at_ w)(R:Lp sg→Switch→Int→walk_way→Option (Bool×Lp sg))(Rm:Nat→walk_way→List Rule)
  (hR:∀(n:Nat) (x:walk_way) (z:sg),at_<n→n<4→Z5p n x→R (.go z) s (n:Int) x=(yf y (Rm n x) z).map goP):
  ∀(l:List Int) (i:Nat) (z:sg),(∀j∈l,∃k:Nat,k<(Z06 s at_).length∧j=(k:Int))→Z86 sg w y (at_:Int) s R l i (.go z)=(yf y (l.flatMap (Z6s Rm (Z06 s at_) at_ w)++[Z2z w]) z).map goP
 | [],i,z,_=>by
  rw [Z86,Y1v w (by have:=hw.1;omega),Option.bind_some]
  show (y z (Z2z w)).bind _=_
  rw [List.flatMap_nil,List.nil_append,yf]
  cases y z (Z2z w) with
  | none=>rfl
  | some r=>cases r<;>rfl
 | j::l,i,z,hl=>by
  obtain ⟨k,hk,rfl⟩:=hl j (by simp)
  have ih:=fun z=>Yca sg y s at_ ha hs w hw R Rm hR l (i+1) z fun j hj=>hl j (by simp [hj])
  have tail:∀(L:List Rule),((yf y L z).map goP).bind (fun b24=>Zkr sg (Z86 sg w y (at_:Int) s R l) i b24.2 b24.1)=(yf y (L++(l.flatMap (Z6s Rm (Z06 s at_) at_ w)++[Z2z w])) z).map goP:=fun L=>by
   rw [Zud]
   cases yf y L z with
   | none=>rfl
   | some r=>
    cases r with
    | out c q=>rfl
    | go q=>exact ih q
  rw [Z86,Z2m ha,Option.bind_some,Zfl,Z29 hk,Option.bind_some,List.flatMap_cons,List.append_assoc]
  have hf:=hs.2 _ (List.getElem_mem hk)
  have hrule:Z6s Rm (Z06 s at_) at_ w (k:Int)=match Z4v w (Z06 s at_)[k] with
    | none=>[]
    | some x=>match Z1u at_ (Z06 s at_)[k].Insts with
     | some n=>Rm n (wdo x (Z06 s at_)[k].Insts)
     | none=>[Z2z (Z4p (wdo x (Z06 s at_)[k].Insts))]:=by
   unfold Z6s
   rw [Int.toNat_natCast,List.getElem?_eq_getElem hk]
  obtain ⟨zz,hz⟩:=Yua w (Z06 s at_)[k]
  rw [hrule,hz,Option.bind_some]
  cases hm:Z4v w (Z06 s at_)[k] with
  | none=>exact ih z
  | some x=>
   have hx:=Zxj hm
   have hwx:Z5p at_ x:=by unfold Z5p;rw [hx.1,hx.2];exact hw
   have hd:=Zpa x hf
   simp only [Z1v,Bool.not_true,cond_false]
   rw [Yjo x at_ _ hf (by have:=hwx.1;omega) (by have:=hwx.2;omega),Option.bind_some]
   cases hn:Z1u at_ (Z06 s at_)[k].Insts with
   | some n=>
    have hnb:=Zih hn
    simp only [cond_true]
    rw [hR n _ z hnb.1 hnb.2 ⟨by have:=hwx.1;have:=hd.1;omega,by have:=hwx.2;have:=hd.2.1;omega⟩]
    exact tail _
   | none=>
    simp only [cond_false]
    have he:=Y99 (wdo x (Z06 s at_)[k].Insts)
    rw [Y1v _ (by have:=hwx.1;have:=hwx.2;have:=hd.1;have:=hd.2.1;omega),Option.bind_some,←tail]
    show (y z (Z2z _)).bind _=_
    rw [yf]
    cases y z (Z2z (Z4p (wdo x (Z06 s at_)[k].Insts))) with
    | none=>rfl
    | some r=>cases r<;>rfl
theorem Ybl (sg:Type)(y:sg→Rule→Option (Lp sg))(s:Switch)(hs:Z7f s):∀(d f at_:Nat) (w:walk_way) (z:sg),4≤at_+d→at_<4→d≤f→Z5p at_ w→
  Zf1 sg y f (.go z) s (at_:Int) w=(yf y (Z47 s d at_ w) z).map goP
 | 0,f,at_,w,z,h0,h1,_,_=>by omega
 | d+1,0,at_,w,z,_,_,h2,_=>by omega
 | d+1,f+1,at_,w,z,h1,ha,h2,hw=>by
  have hl:=hs at_ ha
  show Zky sg y (Zf1 sg y f) (.go z) s (at_:Int) w=_
  unfold Zky
  rw [Z2m ha,Option.bind_some,Zfl,Y4l _ hl.1,Option.bind_some,Z47]
  exact Yca sg y s at_ ha hl w hw _ (Z47 s d) (fun n x q h3 h4 h5=>Ybl sg y s hs d f n x q (by omega) h4 (by omega) h5) _ 0 z fun j hj=>Zn2.1 hj
def way0:walk_way:=⟨Z2a,Z2a,[],[]⟩
def Z4l (s:Switch):List Rule:=Z47 s 4 0 way0
theorem Yqb (sg:Type)(y:sg→Rule→Option (Lp sg))(s:Switch)(hs:Z7f s)(z:sg):Zf0 sg y (.go z) s=yf y (Z4l s) z:=by
 unfold Zf0 Zhn Zby Zzh
 rw [Option.bind_some,Option.bind_some]
 have:=Ybl sg y s hs 4 Z0v 0 way0 z (by omega) (by omega) (by unfold Z0v;omega) ⟨by simp [way0],by simp [way0]⟩
 show (Zf1 sg y Z0v (.go z) s ((0:Nat):Int) way0).bind _=_
 rw [this]
 show _=yf y (Z47 s 4 0 way0) z
 cases yf y (Z47 s 4 0 way0) z<;>rfl
def Z6y (s:Switch):Nat→Nat→Nat
 | 0,_=>1
 | d+1,at_=>((Z06 s at_).length+1)*Z6y s d (at_+1)
theorem Y0w (s:Switch):∀(d at_:Nat),1≤Z6y s d at_
 | 0,_=>Nat.le_refl _
 | d+1,at_=>Nat.le_trans (Y0w s d (at_+1)) (Nat.le_mul_of_pos_left _ (by omega))
theorem Zyd (s:Switch):∀(d at_ n:Nat),at_+d=4→at_≤n→n≤4→Z6y s (4 - n) n≤Z6y s d at_
 | 0,at_,n,h1,h2,h3=>by
  have:n=4:=by omega
  subst this
  exact Nat.le_refl _
 | d+1,at_,n,h1,h2,h3=>by
  by_cases e:n=at_
  ·subst e
   have:4 - n=d+1:=by omega
   rw [this];exact Nat.le_refl _
  ·rw [Z6y]
   exact Nat.le_trans (Zyd s d (at_+1) n (by omega) (by omega) h3) (Nat.le_mul_of_pos_left _ (by omega))
theorem Y2n {α β:Type}(f:α→List β)(k:Nat):∀l:List α,(∀x∈l,(f x).length≤k)→(l.flatMap f).length≤l.length*k
 | [],_=>by simp
 | x::l,h=>by
  rw [List.flatMap_cons,List.length_append,List.length_cons,Nat.add_mul,Nat.one_mul]
  have h1:=h x (by simp)
  have h2:=Y2n f k l fun y hy=>h y (by simp [hy])
  omega
theorem Zyc (s:Switch):∀(d at_:Nat) (w:walk_way),4≤at_+d→at_<4→(Z47 s d at_ w).length≤Z6y s (4 - at_) at_
 | 0,at_,w,h,h'=>by omega
 | d+1,at_,w,h,h'=>by
  have e:4 - at_=(4 - (at_+1))+1:=by omega
  rw [Z47,List.length_append,List.length_singleton,e,Z6y,Nat.add_mul,Nat.one_mul]
  have h1:=Y0w s (4 - (at_+1)) (at_+1)
  have h2:=Y2n (Z6s (Z47 s d) (Z06 s at_) at_ w) (Z6y s (4 - (at_+1)) (at_+1)) (Z5o (Z06 s at_)) fun i hi=>by
   unfold Z6s
   split
   ·simp
   ·split
    ·simp
    ·split
     ·rename_i n hn
      have hb:=Zih hn
      refine Nat.le_trans (Zyc s d n _ (by omega) hb.2) ?_
      exact Zyd s (4 - (at_+1)) (at_+1) n (by omega) (by omega) (by omega)
     ·simpa using h1
  rw [Y8u] at h2
  omega
theorem Y0d (s:Switch):(Z4l s).length≤Z6y s 4 0:=Zyc s 4 0 way0 (by omega) (by omega)
theorem Yej (s:Switch)(hs:Z7f s)(h:Z6y s 4 0≤lim):Zgh s=some (Z4l s):=by
 unfold Zgh Zp8 Zsh Zs5
 rw [Option.bind_some,Yv4 (Z4l s) _ (fun y z=>Yqb _ y s hs z) (Nat.le_trans (Y0d s) h)]
 rfl
end Go.Proofs.YtinplddjjalohaaGreatDoor.W
namespace Go.Proofs.YtinplddjjalohaaGreatDoor.W
open Go Go.Wb
def Zka (l:List Inst):Bool:=decide ((l.length:Int)≤8)&& !(l.any fun i=> !decide ((i.Acts.length:Int)≤12))
theorem Yjm (s:List Inst)(f:Inst→Option Bool)(p:Inst→Bool)(hf:∀x∈s,f x=some (p x)):Zk2 s f=some (s.any p):=by
 unfold Zk2;rw [Y0x s f p hf,Option.bind_some,Za3]
theorem Yww (l:List Inst):Zo0 l=some (Zka l):=by
 unfold Zo0 Zka
 rw [Yjm l Zpw (fun i=> !decide ((i.Acts.length:Int)≤12)) (fun x _=>rfl)]
 cases decide ((l.length:Int)≤8)<;>rfl
def Zgv (f:Flow):Bool:=decide ((f.Match.length:Int)≤30)&&Zka f.Insts
theorem Yra (f:Flow):Zkj f=some (Zgv f):=by
 unfold Zkj Zgv
 rw [Yww]
 cases decide ((f.Match.length:Int)≤30)<;>rfl
theorem Ypf (s:List Flow)(f:Flow→Option Bool)(p:Flow→Bool)(hf:∀x∈s,f x=some (p x)):Znz s f=some (Z0f p s):=by
 unfold Znz
 rw [show ((s.length:Int)).toNat=s.length by omega]
 exact Zde p (fun i=>by rw [Zeq]) (fun m i=>by rw [Zeq]) hf
theorem Yw3 (s:List Flow)(f:Flow→Option Bool)(p:Flow→Bool)(hf:∀x∈s,f x=some (p x)):Zlp s f=some (s.any p):=by
 unfold Zlp;rw [Ypf s f p hf,Option.bind_some,Za3]
def Zfc (t:List Flow)(many:Int):Bool:=decide ((t.length:Int)≤many)&& !(t.any fun f=> !Zgv f)
theorem Yhz (t:List Flow)(many:Int):Zoe t many=some (Zfc t many):=by
 unfold Zoe Zfc
 rw [Yw3 t Zod (fun f=> !Zgv f) (fun f _=>by unfold Zod;rw [Yra];rfl)]
 cases decide ((t.length:Int)≤many)<;>rfl
def Zd5 (s:Switch)(many:Int):Bool:=(Vector.toList s.Tables).all (fun t=>Zfc t many)&&Zh8 s.Groups 9 3
theorem Y0y (s:Switch)(many:Int):∀(l:List (List Flow)) (i:Nat),Zdg s many l i=some (l.all (fun t=>Zfc t many)&&Zh8 s.Groups 9 3)
 | [],i=>by rw [Zdg,Yto];rfl
 | t::l,i=>by
  rw [Zdg,Yhz,Option.bind_some,Y0y s many l (i+1),List.all_cons]
  cases Zfc t many<;>rfl
theorem Ysl (s:Switch)(many:Int):Zp0 s many=some (Zd5 s many):=Y0y s many _ 0
theorem Yjw (s:Switch)(i:Nat)(h:i<4):Z06 s i=(Vector.toList s.Tables)[i]'(by simp;exact h):=by
 rw [←Zfl s i h,Vector.getElem_toList];rfl
theorem Yn6 (s:Switch)(i:Nat)(h:i<4):Z06 s i∈Vector.toList s.Tables:=by
 rw [Yjw s i h];exact List.getElem_mem _
theorem Ysf {l:List Inst}(h:Zka l=true):l.length≤8∧Z6n l:=by
 unfold Zka at h
 simp only [Bool.and_eq_true,decide_eq_true_eq,Bool.not_eq_true',List.any_eq_false] at h
 refine ⟨by omega,fun i hi=>?_⟩
 have h1:decide ((i.Acts.length:Int)≤12)=true:=by simpa using h.2 i hi
 rw [decide_eq_true_eq] at h1
 omega
theorem Yf4 {f:Flow}(h:Zgv f=true):f.Match.length≤30∧f.Insts.length≤8∧Z6n f.Insts:=by
 unfold Zgv at h
 rw [Bool.and_eq_true,decide_eq_true_eq] at h
 exact ⟨by omega,Ysf h.2⟩
theorem Ycm {t:List Flow}{many:Nat}(h:Zfc t (many:Int)=true):t.length≤many∧∀f∈t,f.Match.length≤30∧f.Insts.length≤8∧Z6n f.Insts:=by
 unfold Zfc at h
 simp only [Bool.and_eq_true,decide_eq_true_eq,Bool.not_eq_true',List.any_eq_false] at h
 exact ⟨by omega,fun f hf=>Yf4 (by simpa using h.2 f hf)⟩
theorem Zjs {s:Switch}{many:Nat}(h:Zd5 s (many:Int)=true):(∀i,i<4→(Z06 s i).length≤many∧∀f∈Z06 s i,f.Match.length≤30∧f.Insts.length≤8∧Z6n f.Insts)∧Z7j s.Groups:=by
 unfold Zd5 at h
 rw [Bool.and_eq_true,List.all_eq_true] at h
 exact ⟨fun i hi=>Ycm (h.1 _ (Yn6 s i hi)),Yoy h.2⟩
theorem Ysw {s:Switch}{many:Nat}(h:Zd5 s (many:Int)=true)(hm:many<20):Z7f s:=fun i hi=>⟨by have:=((Zjs h).1 i hi).1;omega,fun f hf=>(((Zjs h).1 i hi).2 f hf).2.2⟩
theorem Ytr (s:Switch)(m:Nat)(h:∀i,i<4→(Z06 s i).length≤m):Z6y s 4 0≤(m+1)*((m+1)*((m+1)*((m+1)*1))):=by
 show ((Z06 s 0).length+1)*(((Z06 s 1).length+1)*(((Z06 s 2).length+1)*(((Z06 s 3).length+1)*1)))≤_
 have h0:=h 0 (by omega)
 have h1:=h 1 (by omega)
 have h2:=h 2 (by omega)
 have h3:=h 3 (by omega)
 exact Nat.mul_le_mul (by omega) (Nat.mul_le_mul (by omega) (Nat.mul_le_mul (by omega) (Nat.mul_le_mul (by omega) (Nat.le_refl _))))
end Go.Proofs.YtinplddjjalohaaGreatDoor.W
namespace Go.Proofs.YtinplddjjalohaaGreatDoor.W
open Go Go.Wb
def Zb5 (t:List Flow)(h:Header)(i:Int):Bool:=match t[i.toNat]? with
 | some f=>Z0d (Z7d f) h
 | none=>false
theorem Zpk {t:List Flow}{h:Header}{k:Nat}(hk:k<t.length):Zb5 t h (k:Int)=Z0d (Z7d t[k]) h:=by
 unfold Zb5
 rw [Int.toNat_natCast,List.getElem?_eq_getElem hk]
def Z8u (t:List Flow)(h:Header):Option Int:=(Z5o t).find? (Zb5 t h)
theorem Ycf (sg:Type)(t:List Flow)(h:Header)(y:sg→Int→Option (Lp sg)):∀(l:List Int) (i:Nat) (z:sg),(∀j∈l,∃k:Nat,k<t.length∧j=(k:Int))→Zbu sg t h y l i (.go z)=yf y (l.filter (Zb5 t h)) z
 | [],i,z,_=>rfl
 | j::l,i,z,hl=>by
  obtain ⟨k,hk,rfl⟩:=hl j (by simp)
  have ih:=fun z=>Ycf sg t h y l (i+1) z fun j hj=>hl j (by simp [hj])
  rw [Zbu,Z29 hk,Option.bind_some,Y1m,Option.bind_some,Yjz,Option.bind_some]
  cases hc:Z0d (Z7d t[k]) h
  ·rw [Bool.not_false,cond_true,List.filter_cons_of_neg (by rw [Zpk hk,hc];simp)]
   exact ih z
  ·rw [Bool.not_true,cond_false,List.filter_cons_of_pos (by rw [Zpk hk,hc])]
   show (y z (k:Int)).bind _=_
   rw [yf]
   cases y z (k:Int) with
   | none=>rfl
   | some r=>cases r with
    | go q=>exact ih q
    | out c q=>rfl
theorem Yu7 (t:List Flow)(h:Header)(ht:t.length<20):Zmx t h=some (Z1v 0 (Z8u t h)):=by
 unfold Zmx Zpz
 rw [Option.bind_some]
 show (Ze7 (Int×Bool) (fun s x=>Zkh s.1 s.2 x) (.go (0,false)) t h).bind _=_
 unfold Ze7
 rw [Y4l t ht,Option.bind_some,Ycf _ t h _ _ _ _ fun j hj=>Zn2.1 hj]
 unfold Z8u
 generalize Z5o t=l
 induction l with
 | nil=>rfl
 | cons j l ih=>
  cases hj:Zb5 t h j
  ·rw [List.filter_cons_of_neg (by simp [hj]),List.find?_cons_of_neg (by simp [hj])];exact ih
  ·rw [List.filter_cons_of_pos hj,List.find?_cons_of_pos hj];rfl
theorem Zve {t:List Flow}{h:Header}{i:Int}(hf:Z8u t h=some i):∃k:Nat,∃hk:k<t.length,i=(k:Int)∧Z0d (Z7d t[k]) h=true:=by
 obtain ⟨k,hk,rfl⟩:=Zn2.1 (List.mem_of_find?_eq_some hf)
 have:=List.find?_some hf
 rw [Zpk hk] at this
 exact ⟨k,hk,rfl,this⟩
theorem Y5u (l:List Oxm)(hl:l.length≤100000):∀(m i:Nat) (c:Cube),i≤l.length→l.length<i+m→Zbp l m c (i:Int)=some ((l.drop i).foldl Zea c)
 | 0,i,c,h1,h2=>by omega
 | m+1,i,c,h1,h2=>by
  rw [Zbp]
  by_cases hi:i<l.length
  ·have ih:=fun c=>Y5u l hl m (i+1) c (by omega) (by omega)
   rw [decide_eq_true (by omega),cond_true,Z29 hi,Option.bind_some,inc i (by omega),List.drop_eq_getElem_cons hi,List.foldl_cons]
   unfold Zc9
   rw [Option.bind_some]
   by_cases h:0≤l[i].Field∧l[i].Field<24
   ·obtain ⟨n,hn⟩:∃n:Nat,l[i].Field=(n:Int):=⟨l[i].Field.toNat,by omega⟩
    have hn24:n<24:=by have:=h.2;omega
    have hd:(decide (l[i].Field≥0)&&decide (l[i].Field<24))=true:=by simp;omega
    have hc:chk 24 l[i].Field=some ⟨n,hn24⟩:=by rw [hn];exact Z2m hn24
    rw [hd,cond_true,Option.bind_some,Option.bind_some,Y56,Option.bind_some,hc,Option.bind_some,Yb2 c l[i] n hn hn24]
    exact ih _
   ·have hd:(decide (l[i].Field≥0)&&decide (l[i].Field<24))=false:=by
     rw [Bool.and_eq_false_iff,decide_eq_false_iff_not,decide_eq_false_iff_not];omega
    rw [hd,cond_false,Y1u c l[i] h]
    exact ih _
  ·rw [decide_eq_false (by omega),cond_false,List.drop_of_length_le (by omega)];rfl
theorem Ywd (f:Flow)(hl:f.Match.length≤100000):Zoa f=some (Z7d f):=by
 unfold Zoa Zqd
 have:=Y5u f.Match hl ((((f.Match.length:Int):Int) - 0).toNat+1) 0 Z2a (by omega) (by omega)
 rw [show ((0:Nat):Int)=0 from rfl,List.drop_zero] at this
 show ((Zbp f.Match ((((f.Match.length:Int):Int) - 0).toNat+1) Z2a 0).bind _)=_
 rw [this,Option.bind_some,Yxx];rfl
def inT (t:List Flow)(l:List Int):Prop:= ∀j∈l,∃k:Nat,k<t.length∧j=(k:Int)
theorem Zy1 (i:Nat)(hi:i≤50)(go:List Int→Int→Option (List Int))(A:List Int)(hA:A.length≤50):∀(Br S:List Int) (c:Int) (m:Nat),Br.length<m→Br.length≤50→
  Zf9 (A.length:Int) go (i:Int) m (A++(Br.reverse++c::S)) ((A.length+Br.length:Nat):Int)=go (A++(i:Int)::(Br.reverse++S)) ((i+1:Nat):Int)
 | [],S,c,m,hm,_=>by
  obtain ⟨m,rfl⟩:∃k,m=k+1:=⟨m - 1,by simp at hm;omega⟩
  have g0:lget (A++c::S) (A.length:Int)=some c:=by
   rw [Z75,List.getElem?_append_right (Nat.le_refl _)];simp
  have s0:List.set (A++c::S) ((A.length:Int)).toNat (i:Int)=A++(i:Int)::S:=by
   rw [Int.toNat_natCast,List.set_append_right _ _ (Nat.le_refl _)];simp
  rw [Zf9,decide_eq_false (by simp),cond_false]
  simp only [List.reverse_nil,List.nil_append]
  rw [g0,Option.bind_some,s0,inc i (by omega)]
 | b::Br,S,c,m,hm,hb=>by
  simp only [List.length_cons] at hm hb
  obtain ⟨m,rfl⟩:∃k,m=k+1:=⟨m - 1,by omega⟩
  have e0:A++((b::Br).reverse++c::S)=(A++Br.reverse)++b::c::S:=by simp
  have ej:IntKind.i64.wrap (((A.length+(b::Br).length:Nat):Int) - 1)=((A.length+Br.length:Nat):Int):=by rw [Z2w (by simp only [List.length_cons];omega) (by simp only [List.length_cons];omega)];simp only [List.length_cons];omega
  have hlen:(A++Br.reverse).length=A.length+Br.length:=by simp
  have g0:lget ((A++Br.reverse)++b::c::S) ((A.length+Br.length:Nat):Int)=some b:=by
   rw [Z75,List.getElem?_append_right (by omega),hlen,Nat.sub_self];rfl
  have g1:lget ((A++Br.reverse)++b::c::S) ((A.length+(b::Br).length:Nat):Int)=some c:=by
   rw [Z75,List.getElem?_append_right (by simp only [List.length_cons];omega),hlen]
   have:A.length+(b::Br).length - (A.length+Br.length)=1:=by simp only [List.length_cons];omega
   rw [this];rfl
  have s1:List.set ((A++Br.reverse)++b::c::S) (((A.length+(b::Br).length:Nat):Int)).toNat b=A++(Br.reverse++b::b::S):=by
   rw [Int.toNat_natCast,List.set_append_right _ _ (by simp only [List.length_cons];omega),hlen]
   have:A.length+(b::Br).length - (A.length+Br.length)=1:=by simp only [List.length_cons];omega
   rw [this];simp
  rw [e0,Zf9,decide_eq_true (by simp only [List.length_cons];omega),cond_true,ej,g0,Option.bind_some,g1,Option.bind_some,s1,Zy1 i hi go A hA Br (b::S) b m (by omega) (by omega)]
  simp
theorem Y0l (t:List Flow)(ht:t.length≤50)(i:Nat)(hi:i<t.length)(go:List Int→Int→Option (List Int)):∀(Ar B:List Int) (m:Nat),Ar.length<m→Ar.length+B.length≤50→inT t Ar→
  Zec (Ar.reverse++B) t (i:Int) go m (Ar.length:Int)=go ((Z0u (ltP t) (i:Int) Ar).reverse++B) ((i+1:Nat):Int)
 | [],B,m,hm,hb,_=>by
  have hlim:lim=4294967296:=rfl
  obtain ⟨m,rfl⟩:∃k,m=k+1:=⟨m - 1,by simp at hm;omega⟩
  simp only [List.length_nil,Nat.zero_add] at hb
  rw [Zec,show decide ((([]:List Int).length:Int)>0)=false from rfl]
  simp only [Zp6,Option.bind_some,Bool.false_and,cond_false,List.reverse_nil,List.nil_append]
  rw [Z1p (by simp;omega),Option.bind_some]
  have e1:IntKind.i64.wrap (((B++[(0:Int)]).length:Int) - 1)=((([]:List Int).length+B.reverse.length:Nat):Int):=by rw [Z2w (by simp<;>omega) (by simp<;>omega)];simp
  have:=Zy1 i (by omega) go [] (by simp) B.reverse [] (0:Int) ((((([]:List Int).length+B.reverse.length:Nat):Int) - (([]:List Int).length:Int)).toNat+1) (by simp<;>omega) (by simp<;>omega)
  simp only [List.nil_append,List.reverse_reverse,List.append_nil] at this
  rw [e1]
  refine Eq.trans this ?_
  simp [Z0u]
 | y::Ar,B,m,hm,hb,hR=>by
  have hlim:lim=4294967296:=rfl
  obtain ⟨k,hk,rfl⟩:=hR y (by simp)
  simp only [List.length_cons] at hm hb
  obtain ⟨m,rfl⟩:∃k,m=k+1:=⟨m - 1,by omega⟩
  have ej:IntKind.i64.wrap ((((k:Int)::Ar).length:Int) - 1)=(Ar.length:Int):=by rw [Z2w (by simp only [List.length_cons];omega) (by simp only [List.length_cons];omega)];simp only [List.length_cons];omega
  have e0:((k:Int)::Ar).reverse++B=Ar.reverse++(k:Int)::B:=by simp
  have g0:lget (Ar.reverse++(k:Int)::B) (Ar.length:Int)=some (k:Int):=by
   rw [Z75,List.getElem?_append_right (by simp)];simp
  have elt:decide (t[k].Priority<t[i].Priority)=ltP t (i:Int) (k:Int):=by
   unfold ltP
   rw [Zt2 hi,Zt2 hk]
  rw [Zec,decide_eq_true (by simp only [List.length_cons];omega),Z54,ej,e0,g0,Option.bind_some,Z54,Z29 hk,Option.bind_some,Z54,Z29 hi,Option.bind_some,Bool.true_and,Z0u,elt]
  cases ltP t (i:Int) (k:Int)
  ·rw [cond_false,cond_false,Z1p (by simp;omega),Option.bind_some]
   have e1:IntKind.i64.wrap (((Ar.reverse++(k:Int)::B++[(0:Int)]).length:Int) - 1)=((((k:Int)::Ar).reverse.length+B.reverse.length:Nat):Int):=by rw [Z2w (by simp;omega) (by simp;omega)];simp;omega
   have:=Zy1 i (by omega) go ((k:Int)::Ar).reverse (by simp;omega) B.reverse [] (0:Int) ((((((k:Int)::Ar).reverse.length+B.reverse.length:Nat):Int) - (((k:Int)::Ar).length:Int)).toNat+1) (by simp;omega) (by simp;omega)
   simp only [List.reverse_reverse,List.append_nil] at this
   rw [e1]
   have e2:Ar.reverse++(k:Int)::B++[(0:Int)]=((k:Int)::Ar).reverse++(B++[(0:Int)]):=by simp
   have e3:((((k:Int)::Ar).length:Int))=((((k:Int)::Ar).reverse.length:Nat):Int):=by simp
   rw [e2]
   rw [e3] at this ⊢
   refine Eq.trans this ?_
   simp
  ·rw [cond_true,cond_true,Y0l t ht i hi go Ar ((k:Int)::B) m (by omega) (by simp only [List.length_cons];omega) fun j hj=>hR j (by simp [hj])]
   simp
theorem Yy9 (n i:Nat)(h:i<n):(places n).drop i=(i:Int)::(places n).drop (i+1):=by
 have hl:i<(places n).length:=by simp [places];exact h
 rw [List.drop_eq_getElem_cons hl]
 congr 1
 simp [places]
theorem Y5r (t:List Flow)(hl:t.length≤50):∀(m i:Nat) (R:List Int),i≤t.length→t.length<i+m→R.length≤i→inT t R→Zam t m R.reverse (i:Int)=some ((((places t.length).drop i).foldl (fun R x=>Z0u (ltP t) x R) R).reverse)
 | 0,i,R,h1,h2,h3,_=>by omega
 | m+1,i,R,h1,h2,h3,hR=>by
  rw [Zam]
  by_cases hi:i<t.length
  ·have h4:=Y0l t hl i hi (Zam t m) R [] Z0v (by unfold Z0v;omega) (by simp;omega) hR
   rw [List.append_nil,List.append_nil] at h4
   have e:((R.reverse).length:Int)=(R.length:Int):=by simp
   rw [decide_eq_true (by omega),cond_true,e,h4,Y5r t hl m (i+1) _ (by omega) (by omega) (by rw [Zip];omega) (fun j hj=>by
    rcases List.mem_cons.1 ((Zno (ltP t) (i:Int) R).mem_iff.1 hj) with rfl | hj
    ·exact ⟨i,hi,rfl⟩
    ·exact hR j hj),Yy9 _ _ hi,List.foldl_cons]
  ·rw [decide_eq_false (by omega),cond_false,List.drop_of_length_le (by simp [places];omega)];rfl
theorem Yeu (t:List Flow)(hl:t.length≤50):Zmw t=some (Z5o t):=by
 unfold Zmw Z5o srt
 have:=Y5r t hl ((((t.length:Int):Int) - 0).toNat+1) 0 [] (by omega) (by omega) (by simp) (by intro j hj;simp at hj)
 rw [show ((0:Nat):Int)=0 from rfl,List.drop_zero] at this
 exact this
def Yw0 (t:List Flow):Prop:= ∀f∈t,f.Match.length≤100000
theorem Y76 (l:List Inst)(k:Int)(hl:l.length≤100000):∀(m i:Nat),i≤l.length→l.length<i+m→Zjl l k m (i:Int)=some (Z1v Zzf (ofI (l.drop i) k))
 | 0,i,h1,h2=>by omega
 | m+1,i,h1,h2=>by
  rw [Zjl]
  by_cases hi:i<l.length
  ·rw [decide_eq_true (by omega),cond_true,Z29 hi,Option.bind_some,List.drop_eq_getElem_cons hi,inc i (by omega),Y76 l k hl m (i+1) (by omega) (by omega)]
   unfold ofI
   rw [List.find?_cons]
   cases decide (l[i].Kind=k)<;>rfl
  ·rw [decide_eq_false (by omega),cond_false,List.drop_of_length_le (by omega)];rfl
theorem Zl1 (l:List Inst)(k:Int)(hl:l.length≤100000):Zab l k=some (Z1v Zzf (ofI l k)):=by
 unfold Zab
 have:=Y76 l k hl ((((l.length:Int):Int) - 0).toNat+1) 0 (by omega) (by omega)
 rw [show ((0:Nat):Int)=0 from rfl,List.drop_zero] at this
 exact this
end Go.Proofs.YtinplddjjalohaaGreatDoor.W
namespace Go.Proofs.YtinplddjjalohaaGreatDoor.W
open Go Go.Wb
theorem Y1c (a b:Tern):Zhb a b=some (Z1v zTern (Z2l a b)):=by
 unfold Zhb Z2l
 rw [Zzp,Option.bind_some,Yyl,Option.bind_some,Zzp,Option.bind_some,Y97,Option.bind_some]
 cases Z3m (Z21 (Z6w a.Value b.Value) (Z21 a.Mask b.Mask))<;>rfl
theorem Y61 (a x:Cube):∀(m i:Nat),i≤24→24<i+m→(∀j,j<i→(Z2l (ve a j) (ve x j)).isSome=true)→
  Zfh a x m (Z3b (fun j=>(Z2l (ve a j) (ve x j)).getD zTern) Z2a i) (i:Int)=some (Z1v Z2a (Z4n a x))
 | 0,i,h1,h2,_=>by omega
 | m+1,i,h1,h2,h3=>by
  rw [Zfh]
  by_cases hi:i<24
  ·rw [decide_eq_true (by omega),cond_true,Z2m hi,Option.bind_some,Option.bind_some,Z36,Z36,Y1c,Option.bind_some]
   cases ht:Z2l (ve a i) (ve x i) with
   | none=>
    rw [show (!(Z1v zTern (none:Option Tern)).2)=true from rfl,cond_true]
    unfold Z4n
    rw [Yao i hi ht];rfl
   | some t=>
    rw [show (!(Z1v zTern (some t)).2)=false from rfl,cond_false,Option.bind_some,inc i (by omega)]
    have h4:=Z9j (fun j=>(Z2l (ve a j) (ve x j)).getD zTern) Z2a i hi
    simp only [ht,Option.getD_some] at h4
    show Zfh a x m (Vector.set (Z3b _ Z2a i) i t hi) _=_
    rw [h4]
    exact Y61 a x m (i+1) (by omega) (by omega) fun j hj=>by
     by_cases e:j=i
     ·subst e;rw [ht];rfl
     ·exact h3 j (by omega)
  ·have:i=24:=by omega
   subst this
   rw [decide_eq_false (by omega),cond_false,Z9w]
   have:Z4n a x=some (Vector.ofFn fun i=>(Z2l (ve a i.1) (ve x i.1)).getD zTern):=by
    unfold Z4n Z74
    rw [List.all_eq_true.2 fun j hj=>h3 j (by simpa using hj),cond_true]
   rw [this];rfl
theorem Y4r (a x:Cube):Ziv a x=some (Z1v Z2a (Z4n a x)):=by
 unfold Ziv
 have:=Y61 a x (((24:Int) - 0).toNat+1) 0 (by omega) (by decide) (by omega)
 rw [Z9u] at this
 exact this
theorem Y7x (r c:Cube):∀(m i:Nat),i≤24→24<i+m→(∀j,j<i→(Z2l (ve r j) (ve c j)).isSome=true)→
  Zdx r c m (Z3b (fun j=>Z10 ⟨(ve c j).Value,Z3e (ve c j).Mask (ve r j).Mask⟩) Z2a i) (i:Int)=some (Z1v Z2a (Z5e r c))
 | 0,i,h1,h2,_=>by omega
 | m+1,i,h1,h2,h3=>by
  rw [Zdx]
  by_cases hi:i<24
  ·rw [decide_eq_true (by omega),cond_true,Z2m hi,Option.bind_some,Option.bind_some,Z36,Z36,Y1c,Option.bind_some]
   cases ht:Z2l (ve r i) (ve c i) with
   | none=>
    rw [show (!(Z1v zTern (none:Option Tern)).2)=true from rfl,cond_true]
    unfold Z5e
    rw [show ((List.range 24).all fun i=>(Z2l (ve r i) (ve c i)).isSome)=false from List.all_eq_false.2 ⟨i,by simpa using hi,by rw [ht];simp⟩];rfl
   | some t=>
    rw [show (!(Z1v zTern (some t)).2)=false from rfl,cond_false,Option.bind_some,Option.bind_some,Option.bind_some,Y08,Option.bind_some,Z36,Z36,Y3b,Option.bind_some,Option.bind_some,inc i (by omega)]
    have h4:=Z9j (fun j=>Z10 ⟨(ve c j).Value,Z3e (ve c j).Mask (ve r j).Mask⟩) Z2a i hi
    show Zdx r c m (Vector.set (Z3b _ Z2a i) i (Z10 ⟨(ve c i).Value,Z3e (ve c i).Mask (ve r i).Mask⟩) hi) _=_
    rw [h4]
    exact Y7x r c m (i+1) (by omega) (by omega) fun j hj=>by
     by_cases e:j=i
     ·subst e;rw [ht];rfl
     ·exact h3 j (by omega)
  ·have:i=24:=by omega
   subst this
   rw [decide_eq_false (by omega),cond_false,Z9w]
   unfold Z5e
   rw [show ((List.range 24).all fun i=>(Z2l (ve r i) (ve c i)).isSome)=true from List.all_eq_true.2 fun j hj=>h3 j (by simpa using hj)];rfl
theorem Yn1 (r c:Cube):Zk9 r c=some (Z1v Z2a (Z5e r c)):=by
 unfold Zk9
 have:=Y7x r c (((24:Int) - 0).toNat+1) 0 (by omega) (by decide) (by omega)
 rw [Z9u] at this
 exact this
abbrev Ym5:=Switch→Int→Cube→Cube→List Atom→List Action→Option (List Rule)
abbrev Y4e:=Switch→Int→Flow→Cube→Cube→List Atom→List Action→Option (List Rule)
def Zsa (R:Nat→walk_way→List Rule)(at_:Nat)(f:Flow)(x:walk_way):List Rule:=match Z1u at_ f.Insts with
 | some n=>R n (wdo x f.Insts)
 | none=>[Z2z (Z4p (wdo x f.Insts))]
theorem Ydz (s:Switch)(at_:Nat)(f:Flow)(x:walk_way)(Rw:Ym5)(Ro:Y4e)(R:Nat→walk_way→List Rule)(hf:Z6n f.Insts)(hi:f.Insts.length≤100000)(ha:at_<4)(hx:Z5p at_ x)
  (hR:∀n w,at_<n→n<4→Z5p n w→Rw s (n:Int) w.cube w.got w.atoms w.set=some (R n w)):
  Zhf Rw Ro s (at_:Int) f x.cube x.got x.atoms x.set=some (Zsa R at_ f x):=by
 have hlim:lim=4294967296:=rfl
 have hxa:=hx.1
 have hxs:=hx.2
 have b1:=Zxx x hf
 have b2:=Zlf (Z3q x f.Insts) f.Insts
 have b3:=Zo4 (Z3l (Z3q x f.Insts) f.Insts) hf
 have b4:=Zpa x hf
 have j4:∀b:walk_way,b.atoms.length≤2000→b.set.length≤50→(∀n,Z1u at_ f.Insts=some n→Z5p n b)→Zg1 f (at_:Int) Rw s b.cube b.atoms b.set b.got=some (match Z1u at_ f.Insts with | some n=>R n b | none=>[Z2z (Z4p b)]):=fun b h1 h2 h3=>by
  unfold Zg1
  rw [Zl1 _ 1 hi,Option.bind_some]
  have hend:((Zj4 b.set).bind fun x24=>(Zfj x24 b.got).bind fun x25=>(Z0y b.atoms x25.1).bind fun l27=>some [(⟨b.cube,l27⟩:Rule)])=some [Z2z (Z4p b)]:=by
   have h5:=Znp b.set
   have h6:=Zhm (Z5h b.set)
   rw [Ysg _ h2,Option.bind_some,Y4v _ _ (by omega),Option.bind_some,Z1p (by rw [Zh7];omega)];rfl
  cases ho:ofI f.Insts 1 with
  | none=>rw [Zxz ho];exact hend
  | some i=>
   show (bif ((true&&decide (i.Table>(at_:Int)))&&decide (i.Table<4)) then _ else _)=_
   rw [Bool.true_and]
   by_cases hc:i.Table>(at_:Int)∧i.Table<4
   ·have hd:(decide (i.Table>(at_:Int))&&decide (i.Table<4))=true:=by
     rw [Bool.and_eq_true,decide_eq_true_eq,decide_eq_true_eq];exact hc
    have hn:=Zvn ho hc
    have e:((i.Table.toNat:Nat):Int)=i.Table:=by omega
    have h5:=hR i.Table.toNat b (by omega) (by omega) (h3 _ hn)
    rw [e] at h5
    rw [hn,hd,cond_true]
    show (Rw s i.Table b.cube b.got b.atoms b.set).bind _=_
    rw [h5];rfl
   ·have hd:(decide (i.Table>(at_:Int))&&decide (i.Table<4))=false:=by
     rw [Bool.and_eq_false_iff,decide_eq_false_iff_not,decide_eq_false_iff_not];omega
    rw [Zwq ho hc,hd,cond_false]
    exact hend
 have j3:∀b:walk_way,b.atoms.length≤2000→b.set.length≤50→(∀n,Z1u at_ f.Insts=some n→Z5p n b)→Zht f b.got (at_:Int) Rw s b.cube b.atoms b.set=some (match Z1u at_ f.Insts with | some n=>R n (Z3w b f.Insts) | none=>[Z2z (Z4p (Z3w b f.Insts))]):=fun b h1 h2 h3=>by
  have b5:=Zxh b f.Insts
  unfold Zht
  rw [Zl1 _ 2 hi,Option.bind_some,←j4 (Z3w b f.Insts) (by rw [b5.1];omega) (by rw [b5.2.1];omega) (fun n hn=>by unfold Z5p;rw [b5.1,b5.2.1];exact h3 n hn)]
  unfold Z3w
  cases ho:ofI f.Insts 2 with
  | none=>rfl
  | some i=>
   simp only [Z1v,cond_true]
   rw [Zna];rfl
 have j2:∀b:walk_way,b.atoms.length≤1500→b.set.length≤36→(∀n,Z1u at_ f.Insts=some n→Z5p n (Z3f b f.Insts))→Zfx f b.got (at_:Int) Rw s b.cube b.atoms b.set=some (match Z1u at_ f.Insts with | some n=>R n (Z3w (Z3f b f.Insts) f.Insts) | none=>[Z2z (Z4p (Z3w (Z3f b f.Insts) f.Insts))]):=fun b h1 h2 h3=>by
  have b5:=Zo4 b hf
  unfold Zfx
  rw [Zl1 _ 3 hi,Option.bind_some,←j3 (Z3f b f.Insts) (by rw [b5.1];omega) (by have:=b5.2.1;omega) h3]
  unfold Z3f
  cases ho:ofI f.Insts 3 with
  | none=>rfl
  | some i=>
   have:=hf i (Z9b ho)
   simp only [Z1v,cond_true]
   rw [Yfb _ _ (by omega) (by omega)];rfl
 have j1:∀b:walk_way,b.atoms.length≤1500→b.set.length≤36→(∀n,Z1u at_ f.Insts=some n→Z5p n (Z3f (Z3l b f.Insts) f.Insts))→Zgs f (at_:Int) Rw s b.cube b.set b.atoms b.got=some (match Z1u at_ f.Insts with | some n=>R n (Z3w (Z3f (Z3l b f.Insts) f.Insts) f.Insts) | none=>[Z2z (Z4p (Z3w (Z3f (Z3l b f.Insts) f.Insts) f.Insts))]):=fun b h1 h2 h3=>by
  have b5:=Zlf b f.Insts
  unfold Zgs
  rw [Zl1 _ 5 hi,Option.bind_some,←j2 (Z3l b f.Insts) (by rw [b5.1];omega) (by have:=b5.2.1;omega) h3]
  unfold Z3l
  cases ho:ofI f.Insts 5 with
  | none=>rfl
  | some i=>rfl
 have hn:∀n,Z1u at_ f.Insts=some n→Z5p n (Z3f (Z3l (Z3q x f.Insts) f.Insts) f.Insts):=fun n hn=>by
  have h1:=Zih hn
  have h2:=b3.2.1
  have h3:=b2.2.1
  have h4:=b1.1
  exact ⟨by rw [b3.1,b2.1];omega,by rw [b1.2.1] at h3;omega⟩
 have h1:=j1 (Z3q x f.Insts) (by omega) (by rw [b1.2.1];omega) hn
 unfold Zhf Zsa wdo
 rw [Z1p (by simp;omega),Option.bind_some,List.nil_append,Zl1 _ 4 hi,Option.bind_some,←h1]
 unfold Z3q
 cases ho:ofI f.Insts 4 with
 | none=>rfl
 | some i=>
  have h2:=hf i (Z9b ho)
  have h3:=Zhm i.Acts
  simp only [Z1v,cond_true]
  rw [Y4v _ _ (by omega),Option.bind_some,Z1p (by rw [Zh7];omega)];rfl
theorem Y5s (s:Switch)(at_:Nat)(ha:at_<4)(hm:Yw0 (Z06 s at_))(w:walk_way)(hw:w.atoms.length≤1000)(R:Nat→walk_way→List Rule)(Ro:Y4e)(o:List Int)(ho:inT (Z06 s at_) o)(hol:o.length≤100)
  (hone:∀f∈Z06 s at_,∀x,Z4v w f=some x→Ro s (at_:Int) f x.cube w.got w.atoms w.set=some (Zsa R at_ f x)):
  ∀(m i:Nat) (acc:List Rule),i≤o.length→o.length<i+m→acc.length+((o.drop i).flatMap (Z6s R (Z06 s at_) at_ w)).length+1≤lim→
  Zd6 o (at_:Int) s w.got w.cube Ro w.atoms w.set m acc (i:Int)=some (acc++(o.drop i).flatMap (Z6s R (Z06 s at_) at_ w)++[Z2z w])
 | 0,i,acc,h1,h2,_=>by omega
 | m+1,i,acc,h1,h2,h3=>by
  have hlim:lim=4294967296:=rfl
  rw [Zd6]
  by_cases hi:i<o.length
  ·obtain ⟨k,hk,hok⟩:=ho _ (List.getElem_mem hi)
   have hrule:Z6s R (Z06 s at_) at_ w (k:Int)=match Z4v w (Z06 s at_)[k] with
     | none=>[]
     | some x=>Zsa R at_ (Z06 s at_)[k] x:=by
    unfold Z6s
    rw [Int.toNat_natCast,List.getElem?_eq_getElem hk]<;>rfl
   rw [List.drop_eq_getElem_cons hi,List.flatMap_cons,hok,hrule] at h3 ⊢
   have ih:=fun acc=>Y5s s at_ ha hm w hw R Ro o ho hol hone m (i+1) acc (by omega) (by omega)
   rw [decide_eq_true (by omega),cond_true,Z2m ha,Option.bind_some,Z29 hi,Option.bind_some,hok,Zfl,Z29 hk,Option.bind_some,Ywd _ (hm _ (List.getElem_mem hk)),Option.bind_some,Yn1,Option.bind_some,inc i (by omega)]
   have hmw:Z4v w (Z06 s at_)[k]=(Z5e w.got (Z7d (Z06 s at_)[k])).bind fun b=>(Z4n b w.cube).map fun c=>{w with cube:=c}:=rfl
   have hone:=hone _ (List.getElem_mem hk)
   revert h3 hone
   rw [hmw]
   cases hb:Z5e w.got (Z7d (Z06 s at_)[k]) with
   | none=>
    intro h3 hone
    simp only [Z1v,Bool.not_false,cond_true,Option.bind_none,List.nil_append] at h3 ⊢
    exact ih acc h3
   | some b=>
    simp only [Z1v,Bool.not_true,cond_false,Option.bind_some]
    rw [Y4r,Option.bind_some]
    cases hc:Z4n b w.cube with
    | none=>
     intro h3 hone
     simp only [Z1v,cond_false,Option.map_none,List.nil_append] at h3 ⊢
     exact ih acc h3
    | some c=>
     intro h3 hone
     simp only [Z1v,cond_true,Option.map_some] at h3 ⊢
     have h4:=hone _ rfl
     simp only at h4
     rw [List.length_append] at h3
     rw [h4,Option.bind_some,Z1p (by omega),Option.bind_some,ih _ (by rw [List.length_append];omega)]
     simp only [List.append_assoc]
  ·rw [decide_eq_false (by omega),cond_false,List.drop_of_length_le (by omega),Z1p (by simp;omega),Option.bind_some,Z1p (by simp;omega)]
   simp [Z2z]
theorem Y10 (s:Switch)(hs:Z7f s)(hI:∀i,i<4→∀f∈Z06 s i,f.Insts.length≤100000∧f.Match.length≤100000)(hmost:Z6y s 4 0≤lim):∀(d n at_:Nat) (w:walk_way),4≤at_+d→at_<4→2*d≤n→Z5p at_ w→
  (Z4y n).1 s (at_:Int) w.cube w.got w.atoms w.set=some (Z47 s d at_ w)
 | 0,n,at_,w,h0,h1,_,_=>by omega
 | d+1,n,at_,w,h0,h1,h2,hw=>by
  obtain ⟨n,rfl⟩:∃k,n=k+2:=⟨n - 2,by omega⟩
  have hl:=hs at_ h1
  have hlen:=Zyc s (d+1) at_ w h0 h1
  have hsk:=Zyd s 4 0 at_ (by omega) (by omega) (by omega)
  show Zko (Z4y (n+1)).1 (Z4y (n+1)).2 s (at_:Int) w.cube w.got w.atoms w.set=_
  unfold Zko
  rw [Z2m h1,Option.bind_some,Zfl,Yeu _ (by have:=hl.1;omega),Option.bind_some]
  have hol:=Y8u (Z06 s at_)
  have:=Y5s s at_ h1 (fun f hf=>(hI at_ h1 f hf).2) w (by have:=hw.1;omega) (Z47 s d) (Z4y (n+1)).2 (Z5o (Z06 s at_)) (fun j hj=>Zn2.1 hj) (by have:=hl.1;omega) (fun f hf x hx=>by
   have hb:=Zxj hx
   have hg:x.got=w.got:=by
    unfold Z4v at hx
    obtain ⟨b,_,h4⟩:=Option.bind_eq_some_iff.1 hx
    obtain ⟨c,_,h5⟩:=Option.map_eq_some_iff.1 h4
    subst h5;rfl
   show Zhf (Z4y n).1 (Z4y n).2 s (at_:Int) f x.cube w.got w.atoms w.set=_
   rw [←hg,←hb.1,←hb.2]
   exact Ydz s at_ f x _ _ (Z47 s d) (hl.2 f hf) (hI at_ h1 f hf).1 h1 (by unfold Z5p;rw [hb.1,hb.2];exact hw) fun k y h5 h6 h7=>Y10 s hs hI hmost d n k y (by omega) h6 (by omega) h7) ((((Z5o (Z06 s at_)).length:Int) - 0).toNat+1) 0 [] (by omega) (by omega) (by
   rw [Z47,List.length_append,List.length_singleton] at hlen
   rw [List.drop_zero,List.length_nil];omega)
  rw [List.drop_zero,List.nil_append] at this
  exact this
theorem Yux (s:Switch)(hs:Z7f s)(hI:∀i,i<4→∀f∈Z06 s i,f.Insts.length≤100000∧f.Match.length≤100000)(hmost:Z6y s 4 0≤lim):Zii s=some (Z4l s):=by
 unfold Zii Zpg Zac Ztb
 rw [Option.bind_some,Option.bind_some]
 show ((Z4y Z0v).1 s ((0:Nat):Int) way0.cube way0.got way0.atoms way0.set).bind _=_
 rw [Y10 s hs hI hmost 4 Z0v 0 way0 (by omega) (by omega) (by unfold Z0v;omega) ⟨by simp [way0],by simp [way0]⟩];rfl
end Go.Proofs.YtinplddjjalohaaGreatDoor.W
namespace Go.Proofs.YtinplddjjalohaaGreatDoor.W
open Go Go.Wb
end Go.Proofs.YtinplddjjalohaaGreatDoor.W
namespace Go.Proofs.YtinplddjjalohaaGreatDoor.W
open Go Go.Wb
theorem Y6b (s:Switch)(hs:Z7f s):∀(d at_:Nat) (w:walk_way),at_<4→Z5p at_ w→∀r∈Z47 s d at_ w,r.Atoms.length≤1000
 | 0,at_,w,h4,hw,r,hr=>by
  rw [Z47,List.mem_singleton] at hr
  rw [hr]
  have:=hw.1
  show w.atoms.length≤1000
  omega
 | d+1,at_,w,h4,hw,r,hr=>by
  have h0:=hw.1
  have h1:=hw.2
  rw [Z47] at hr
  rcases List.mem_append.1 hr with hr | hr
  ·obtain ⟨i,hi,hr⟩:=List.mem_flatMap.1 hr
   unfold Z6s at hr
   split at hr
   ·cases hr
   ·rename_i f hf
    have hfi:=(hs at_ h4).2 f (List.mem_of_getElem? hf)
    split at hr
    ·cases hr
    ·rename_i x hx
     have hx:=Zxj hx
     have hd:=Zpa x hfi
     rw [hx.1,hx.2] at hd
     split at hr
     ·rename_i n hn
      have hb:=Zih hn
      exact Y6b s hs d _ _ hb.2 ⟨by omega,by omega⟩ r hr
     ·rw [List.mem_singleton] at hr
      rw [hr]
      have:=Y99 (wdo x f.Insts)
      show (Z4p (wdo x f.Insts)).atoms.length≤1000
      omega
  ·rw [List.mem_singleton] at hr
   rw [hr]
   show w.atoms.length≤1000
   omega
theorem Yy0 (s:Switch)(hs:Z7f s):∀r∈Z4l s,r.Atoms.length≤1000:=Y6b s hs 4 0 way0 (by omega) ⟨by simp [way0],by simp [way0]⟩
theorem Ylr {s:Switch}{many:Nat}(h:Zd5 s (many:Int)=true):∀i,i<4→∀f∈Z06 s i,f.Insts.length≤100000∧f.Match.length≤100000:=fun i hi f hf=>by
 have:=((Zjs h).1 i hi).2 f hf
 omega
end Go.Proofs.YtinplddjjalohaaGreatDoor.W
namespace Go.Proofs.YtinplddjjalohaaGreatDoor.W
open Go Go.Wb
def nb (t:Tern):Nat:=(Z8b t.Mask).length
def Zff (x:Cube):Nat→Nat→Nat
 | 0,_=>0
 | m+1,f=>nb (ve x f)+Zff x m (f+1)
def Zbd (x:Cube):Nat:=Zff x 24 0
theorem Y17 (t:Tern):nb t≤128:=by
 unfold nb Z8b
 exact Nat.le_trans (List.length_filter_le ..) (by simp)
theorem Y41 (x:Cube):∀(m f:Nat),Zff x m f≤128*m
 | 0,_=>Nat.le_refl _
 | m+1,f=>by
  have h1:=Y41 x m (f+1)
  have h2:=Y17 (ve x f)
  rw [Zff];omega
theorem Yew (x:Cube):Zbd x≤3072:=Y41 x 24 0
theorem Zv0 (a:Wide):∀(m i n:Nat),i≤128→128<i+m→n≤i→Zdw a m (n:Int) (i:Int)=some ((n+((List.range' i (128 - i)).filter (wt a)).length:Nat):Int)
 | 0,i,n,h1,h2,_=>by omega
 | m+1,i,n,h1,h2,h3=>by
  rw [Zdw]
  by_cases hi:i<128
  ·have e:128 - i=(128 - (i+1))+1:=by omega
   rw [decide_eq_true (by omega),cond_true,Yvw a i hi,Option.bind_some,inc i (by omega),e,List.range'_succ,List.filter_cons]
   cases wt a i
   ·rw [cond_false,Zv0 a m (i+1) n (by omega) (by omega) (by omega)];rfl
   ·rw [cond_true,inc n (by omega),Zv0 a m (i+1) (n+1) (by omega) (by omega) (by omega),if_pos rfl,List.length_cons]
    congr 2;omega
  ·have:i=128:=by omega
   subst this
   rw [decide_eq_false (by omega),cond_false];simp
theorem Yo2 (t:Tern):Zn7 t.Mask=some (nb t:Int):=by
 unfold Zn7 nb Z8b
 have:=Zv0 t.Mask (((128:Int) - 0).toNat+1) 0 0 (by omega) (by decide) (by omega)
 rw [Nat.zero_add,Nat.sub_zero,←List.range_eq_range'] at this
 exact this
theorem Y0e (x:Cube):∀(m f n:Nat),f≤24→24<f+m→n≤128*f→Zg6 x m (n:Int) (f:Int)=some ((n+Zff x (24 - f) f:Nat):Int)
 | 0,f,n,h1,h2,_=>by omega
 | m+1,f,n,h1,h2,h3=>by
  rw [Zg6]
  by_cases hf:f<24
  ·have e:24 - f=(24 - (f+1))+1:=by omega
   have hb:=Y17 (ve x f)
   rw [decide_eq_true (by omega),cond_true,Z2m hf,Option.bind_some,Z36,Yo2,Option.bind_some,inc f (by omega),Z2w (by omega) (by omega),show (n:Int)+(nb (ve x f):Int)=((n+nb (ve x f):Nat):Int) by omega,Y0e x m (f+1) _ (by omega) (by omega) (by omega),e,Zff]
   congr 2;omega
  ·have:f=24:=by omega
   subst this
   rw [decide_eq_false (by omega),cond_false];simp [Zff]
theorem Yin (x:Cube):Zks x=some (Zbd x:Int):=by
 unfold Zks
 have:=Y0e x (((24:Int) - 0).toNat+1) 0 0 (by omega) (by decide) (by omega)
 rw [Nat.zero_add] at this
 exact this
def U:Int:=1099511627776
def Zfn:List Cube→Nat
 | []=>1
 | x::l=>max (Zbd x) 1*Zfn l
theorem Zvu:∀l,1≤Zfn l
 | []=>Nat.le_refl _
 | x::l=>by
  rw [Zfn]
  exact Nat.le_trans (Zvu l) (Nat.le_mul_of_pos_left _ (by omega))
def Ykf (l:List Cube):Nat:=(l.length+1)*Zfn l
def Z6j (c:Cube)(l:List Cube):List Cube:=l.filter (Z41 c)
def Y02 (c:Cube)(l:List Cube):Nat:=Ykf (Z6j c l)
theorem Yph {c:Cube}{l:List Cube}{i:Nat}(h:Z5k c l 0=some i):∃hi:i<l.length,Z41 c l[i]=true∧Z6j c l=l[i]::Z6j c (l.drop (i+1)):=by
 have hs:=Zoz c l 0
 rw [h] at hs
 obtain ⟨j,h1,h2,h3,h4⟩:=hs
 have:i=j:=by omega
 subst this
 refine ⟨h2,h3,?_⟩
 have e:l=l.take i++l[i]::l.drop (i+1):=by
  rw [←List.drop_eq_getElem_cons h2,List.take_append_drop]
 have e0:(l.take i).filter (Z41 c)=[]:=List.filter_eq_nil_iff.2 fun x hx=>by rw [h4 x hx];simp
 have:Z6j c (l.take i++l[i]::l.drop (i+1))=l[i]::Z6j c (l.drop (i+1)):=by
  unfold Z6j
  rw [List.filter_append,e0,List.nil_append,List.filter_cons,if_pos h3]
 rw [←e] at this
 exact this
def Z78 (k:Nat):Nat:=min k 1099511627776
theorem Y4n (a b:Nat):Z2r (a:Int) (b:Int)=((max a b:Nat):Int):=by
 unfold Z2r
 by_cases h:(b:Int)>(a:Int)
 ·rw [decide_eq_true h,cond_true];omega
 ·rw [decide_eq_false h,cond_false];omega
theorem Y0o (a:Nat):Z5w (a:Int) 1099511627776=(Z78 a:Int):=by
 unfold Z5w Z78
 by_cases h:(1099511627776:Int)<(a:Int)
 ·rw [decide_eq_true h,cond_true];omega
 ·rw [decide_eq_false h,cond_false];omega
theorem Ybp (a P:Nat)(hP:1≤P):Z78 (Z78 a*P)=Z78 (a*P):=by
 unfold Z78
 by_cases h:a≤1099511627776
 ·rw [Nat.min_eq_left h]
 ·have h1:1099511627776*1≤1099511627776*P:=Nat.mul_le_mul_left _ hP
  have h2:1099511627776*P≤a*P:=Nat.mul_le_mul_right _ (by omega)
  rw [Nat.min_eq_right (show 1099511627776≤a by omega)];omega
theorem Yrm (n:Nat)(x:Cube)(hn:n≤1099511627776):Z5w (IntKind.i64.wrap ((n:Int)*Z2r (Zbd x:Int) 1)) 1099511627776=(Z78 (n*max (Zbd x) 1):Int):=by
 have h1:=Yew x
 have h2:Z2r (Zbd x:Int) 1=((max (Zbd x) 1:Nat):Int):=Y4n (Zbd x) 1
 have h3:n*max (Zbd x) 1≤1099511627776*3072:=Nat.mul_le_mul hn (by omega)
 rw [h2,←Int.natCast_mul,Z2w (by omega) (by omega),Y0o]
theorem Y3k (n:Nat):Z78 n≤1099511627776:=Nat.min_le_right ..
theorem Yoq (c:Cube)(l:List Cube):(Z6j c l).length≤l.length:=List.length_filter_le ..
theorem Zwe (l:List Cube)(c:Cube)(hl:l.length≤1000000):∀(m i:Nat) (acc:List Cube),i≤l.length→l.length<i+m→acc.length≤i→Zf5 l c m acc (i:Int)=some (acc++Z6j c (l.drop i))
 | 0,i,acc,h1,h2,_=>by omega
 | m+1,i,acc,h1,h2,h3=>by
  have hlim:lim=4294967296:=rfl
  rw [Zf5]
  by_cases hi:i<l.length
  ·rw [decide_eq_true (by omega),cond_true,Z29 hi,Option.bind_some,Y4r,Option.bind_some,Yb4,Option.bind_some,inc i (by omega),List.drop_eq_getElem_cons hi]
   unfold Z6j
   rw [List.filter_cons]
   show (bif Z41 c l[i] then _ else _)=_
   cases Z41 c l[i]
   ·rw [cond_false,Zwe l c hl m (i+1) acc (by omega) (by omega) (by omega)];rfl
   ·rw [cond_true,Z1p (by simp;omega),Option.bind_some,Zwe l c hl m (i+1) _ (by omega) (by omega) (by simp;omega)]
    simp [Z6j]
  ·rw [decide_eq_false (by omega),cond_false,List.drop_of_length_le (by omega)]
   simp [Z6j]
theorem Y4h (l:List Cube)(hl:l.length≤1000000):∀(m i n:Nat),i≤l.length→l.length<i+m→n≤1099511627776→Zhx l m (n:Int) (i:Int)=some (Z78 (n*Zfn (l.drop i)):Int)
 | 0,i,n,h1,h2,_=>by omega
 | m+1,i,n,h1,h2,h3=>by
  rw [Zhx]
  by_cases hi:i<l.length
  ·rw [decide_eq_true (by omega),cond_true,Z29 hi,Option.bind_some,Yin,Option.bind_some,Yrm _ _ h3,inc i (by omega),Y4h l hl m (i+1) _ (by omega) (by omega) (Y3k _),Ybp _ _ (Zvu _),List.drop_eq_getElem_cons hi,Zfn,Nat.mul_assoc]
  ·rw [decide_eq_false (by omega),cond_false,List.drop_of_length_le (by omega),Zfn,Nat.mul_one]
   unfold Z78
   rw [Nat.min_eq_left h3]
theorem Ymu (c:Cube)(l:List Cube)(h:l.length≤1000000):Znq c l=some (Z78 (Y02 c l):Int):=by
 unfold Znq Zru
 have hl:=Yoq c l
 have h1:=Zwe l c h ((((l.length:Int):Int) - 0).toNat+1) 0 [] (by omega) (by omega) (by simp)
 rw [show ((0:Nat):Int)=0 from rfl,List.drop_zero,List.nil_append] at h1
 have h2:=Y4h (Z6j c l) (by omega) (((((Z6j c l).length:Int):Int) - 0).toNat+1) 0 (Z78 ((Z6j c l).length+1)) (by omega) (by omega) (Y3k _)
 rw [show ((0:Nat):Int)=0 from rfl,List.drop_zero] at h2
 rw [h1,Option.bind_some,inc _ (by omega),Y0o,h2,Ybp _ _ (Zvu _)];rfl
def Zor (all:List Cube):List Cube→Nat→Nat→Nat
 | [],_,n=>n
 | x::l,i,n=>Zor all l (i+1) (max n (Z78 (Y02 x (all.take i))))
def Y7i (l:List Rule):Nat:=Zor (l.map (·.Cube)) (l.map (·.Cube)) 0 0
theorem Y0i (l:List Rule)(hl:l.length≤1000000):∀(m i n:Nat),i≤l.length→l.length<i+m→Zir l m (n:Int) (i:Int)=some (Zor (l.map (·.Cube)) ((l.drop i).map (·.Cube)) i n:Int)
 | 0,i,n,h1,h2=>by omega
 | m+1,i,n,h1,h2=>by
  rw [Zir]
  by_cases hi:i<l.length
  ·rw [decide_eq_true (by omega),cond_true,Z29 hi,Option.bind_some,Y86 _ _ (by omega),Option.bind_some,Ytj _ (by rw [List.length_take];omega),Option.bind_some,Ymu _ _ (by simp;omega),Option.bind_some,Y4n,inc i (by omega),Y0i l hl m (i+1) _ (by omega) (by omega),List.drop_eq_getElem_cons hi,List.map_cons,Zor,List.map_take]
  ·rw [decide_eq_false (by omega),cond_false,List.drop_of_length_le (by omega)];rfl
theorem Ye5 (l:List Rule)(h:l.length≤1000000):Zgg l=some (Y7i l:Int):=by
 unfold Zgg
 exact Y0i l h ((((l.length:Int):Int) - 0).toNat+1) 0 0 (by omega) (by omega)
theorem Zzu (c:Cube)(l:List Cube)(most:Int):(Z1t c l most).2.2=0∨Z1t c l most=(Z4c,false,5):=by
 unfold Z1t
 cases decide ((Zcu c l most).2.2<0)
 ·exact .inl rfl
 ·exact .inr rfl
def Z33 (most:Int):List Rule→List Rule→List Rule×Int
 | [],kept=>(kept,0)
 | r::l,kept=>bif decide ((Z1t r.Cube (kept.map (·.Cube)) most).2.2≠0) then ([],5) else bif (Z1t r.Cube (kept.map (·.Cube)) most).2.1 then Z33 most l (kept++[r]) else Z33 most l kept
theorem Y38 (l:List Rule)(h:∀r∈l,r.Atoms.length≤1000000):∀(m i:Nat),i+m=l.length→Zcp m i l=some l
 | 0,i,_=>by rw [Zcp]
 | m+1,i,hi=>by
  have hlim:lim=4294967296:=rfl
  have hlt:i<l.length:=by omega
  have ha:=h l[i] (List.getElem_mem hlt)
  have e:List.set l ((i:Int)).toNat {l[i] with Atoms:=l[i].Atoms}=l:=by
   rw [Int.toNat_natCast];exact List.set_getElem_self hlt
  rw [Zcp,Z29 hlt,Option.bind_some]
  unfold Zf2
  rw [Z1p (by simp;omega),Option.bind_some,Option.bind_some,List.nil_append,e]
  exact Y38 l h m (i+1) (by omega)
theorem Yrd (l:List Rule)(hl:l.length≤1000000)(h:∀r∈l,r.Atoms.length≤1000000):Zn3 l=some l:=by
 have hlim:lim=4294967296:=rfl
 unfold Zn3 Zqa
 rw [Z1p (by simp;omega),Option.bind_some,List.nil_append,show ((l.length:Int)).toNat=l.length by omega]
 exact Y38 l h l.length 0 (by omega)
theorem Zxd (most:Int)(hm:most≤9223372036854775807):∀(l:List Rule) (i:Nat) (kept:List Rule),kept.length+l.length≤1000000→(∀r∈kept,r.Atoms.length≤1000000)→(∀r∈l,r.Atoms.length≤1000000)→
  Zaf most l i kept (kept.map (·.Cube))=some (Z33 most l kept)
 | [],i,kept,h,h1,_=>by
  rw [Zaf,Yrd kept (by simpa using h) h1];rfl
 | r::l,i,kept,h,h1,h2=>by
  have hlim:lim=4294967296:=rfl
  simp only [List.length_cons] at h
  rw [Zaf,Y90 _ _ _ hm (by simp;omega),Option.bind_some,Z33]
  rcases Zzu r.Cube (kept.map (·.Cube)) most with he | he
  ·rw [he,decide_eq_false (by omega),cond_false,cond_false]
   cases (Z1t r.Cube (kept.map (·.Cube)) most).2.1
   ·exact Zxd most hm l (i+1) kept (by omega) h1 fun q hq=>h2 q (by simp [hq])
   ·rw [Bool.not_true,cond_false,cond_true,Z1p (by simp;omega),Option.bind_some,Z1p (by simp;omega),Option.bind_some]
    have:=Zxd most hm l (i+1) (kept++[r]) (by simp;omega) (fun q hq=>by
     rcases List.mem_append.1 hq with hq | hq
     ·exact h1 q hq
     ·rw [List.mem_singleton.1 hq];exact h2 r (by simp)) fun q hq=>h2 q (by simp [hq])
    rw [List.map_append] at this
    exact this
  ·rw [he];rfl
theorem Zwv (most:Int):∀(l kept:List Rule),(Z33 most l kept).2=0∨Z33 most l kept=([],5)
 | [],kept=> .inl rfl
 | r::l,kept=>by
  rw [Z33]
  cases decide ((Z1t r.Cube (kept.map (·.Cube)) most).2.2≠0)
  ·cases (Z1t r.Cube (kept.map (·.Cube)) most).2.1
   ·exact Zwv most l kept
   ·exact Zwv most l _
  ·exact .inr rfl
theorem Zsu (most:Int):∀(l kept:List Rule),(Z33 most l kept).1.length≤kept.length+l.length∧∀r∈(Z33 most l kept).1,r∈kept∨r∈l
 | [],kept=>⟨by simp [Z33],fun r hr=> .inl hr⟩
 | r::l,kept=>by
  rw [Z33]
  cases decide ((Z1t r.Cube (kept.map (·.Cube)) most).2.2≠0)
  ·cases (Z1t r.Cube (kept.map (·.Cube)) most).2.1
   ·have:=Zsu most l kept
    rw [cond_false,cond_false]
    exact ⟨by simp;omega,fun q hq=>(this.2 q hq).imp id fun h=>by simp [h]⟩
   ·have:=Zsu most l (kept++[r])
    rw [cond_false,cond_true]
    refine ⟨by have:=this.1;simp at this ⊢;omega,fun q hq=>?_⟩
    rcases this.2 q hq with h | h
    ·rcases List.mem_append.1 h with h | h
     ·exact .inl h
     ·rw [List.mem_singleton.1 h];exact .inr (by simp)
    ·exact .inr (by simp [h])
  ·exact ⟨by simp,fun q hq=>by simp at hq⟩
end Go.Proofs.YtinplddjjalohaaGreatDoor.W
namespace Go.Proofs.YtinplddjjalohaaGreatDoor.W
open Go Go.Wb
end Go.Proofs.YtinplddjjalohaaGreatDoor.W
namespace Go.Proofs.YtinplddjjalohaaGreatDoor.W
open Go Go.Wb
structure SW (s:Switch):Prop where
 lt:Z7f s
 G:Z7j s.Groups
 I:∀i,i<4→∀f∈Z06 s i,f.Insts.length≤100000∧f.Match.length≤100000
 most:Z6y s 4 0≤6561
theorem Zzx {s:Switch}{m:Nat}(h:Zd5 s (m:Int)=true)(hm:m≤8):SW s:=⟨Ysw h (by omega),(Zjs h).2,Ylr h,by
 have h1:=Ytr s 8 fun i hi=>by have:=((Zjs h).1 i hi).1;omega
 omega⟩
theorem SW.len {s:Switch}(h:SW s):(Z4l s).length≤6561:=Nat.le_trans (Y0d s) h.most
theorem SW.walk {s:Switch}(h:SW s):Zgh s=some (Z4l s):=Yej s h.lt (by have:=h.most;have hlim:lim=4294967296:=rfl;omega)
theorem SW.walkR {s:Switch}(h:SW s):Zii s=some (Z4l s):=Yux s h.lt h.I (by have:=h.most;have hlim:lim=4294967296:=rfl;omega)
def Z3s (s:Switch)(most:Int):List Rule×Int:=Z33 most (Z4l s) []
theorem Yr5 (s:Switch)(h:SW s)(most:Int)(hm:most≤9223372036854775807):Zqp (Z4l s) most=some (Z3s s most):=by
 have h1:=h.len
 have h2:=Yy0 s h.lt
 exact Zxd most hm (Z4l s) 0 [] (by simp;omega) (by simp) fun r hr=>by have:=h2 r hr;omega
end Go.Proofs.YtinplddjjalohaaGreatDoor.W
namespace Go.Proofs.YtinplddjjalohaaGreatDoor.W
open Go Go.Wb
structure Z1w where
 h:Header
 set:List Action
 out:List Out
def Zp1 (G:Int→Header→List Out)(p:Z1w)(l:List Action):Z1w:=⟨(doA G l [] p.h).2,p.set,p.out++(doA G l [] p.h).1⟩
def Z6k (G:Int→Header→List Out)(p:Z1w)(l:List Inst):Z1w:=match ofI l 4 with
 | some i=>Zp1 G p i.Acts
 | none=>p
def Z6u (p:Z1w)(l:List Inst):Z1w:=match ofI l 5 with
 | some _=>{p with set:=[]}
 | none=>p
def Z72 (p:Z1w)(l:List Inst):Z1w:=match ofI l 3 with
 | some i=>{p with set:=i.Acts.foldl wr1 p.set}
 | none=>p
def Z7e (p:Z1w)(l:List Inst):Z1w:=match ofI l 2 with
 | some i=>{p with h:=Z31 (Z5z Z2a 1 i.Value i.Mask) p.h}
 | none=>p
def sdo (G:Int→Header→List Out)(p:Z1w)(l:List Inst):Z1w:=Z7e (Z72 (Z6u (Z6k G p l) l) l) l
def Zg9 (G:Int→Header→List Out)(p:Z1w):Z1w:=Zp1 G p (Z5h p.set)
def bdG (G:Int→Header→List Out):Prop:= ∀id h,(G id h).length≤6561
theorem Zq4 (l:List Group)(e:Env)(hl:Z7j l):bdG (goG l e 8):=fun id h=>Zkd l e hl 8 id h
theorem Zzs {G:Int→Header→List Out}(hG:bdG G)(l:List Action)(h:Header):(doA G l [] h).1.length≤l.length*6561:=
 Nat.le_trans (Zri G 6561 (by omega) hG l h) (Nat.mul_le_mul_right _ (Zhm l))
theorem Ya3 {G:Int→Header→List Out}(hG:bdG G)(p:Z1w){l:List Inst}(hl:Z6n l):(Z6k G p l).out.length≤p.out.length+78732∧(Z6k G p l).set=p.set:=by
 unfold Z6k
 split
 ·rename_i i hi
  have h1:=hl i (Z9b hi)
  have h2:=Zzs hG i.Acts p.h
  refine ⟨?_,rfl⟩
  show (p.out++_).length≤_
  rw [List.length_append];omega
 ·exact ⟨by omega,rfl⟩
theorem Y8g (p:Z1w)(l:List Inst):(Z6u p l).out=p.out∧(Z6u p l).set.length≤p.set.length:=by
 unfold Z6u
 split
 ·exact ⟨rfl,by simp⟩
 ·exact ⟨rfl,by omega⟩
theorem Yvp (p:Z1w){l:List Inst}(hl:Z6n l):(Z72 p l).out=p.out∧(Z72 p l).set.length≤p.set.length+12:=by
 unfold Z72
 split
 ·rename_i i hi
  have h1:=hl i (Z9b hi)
  have h2:=Zsr i.Acts p.set
  exact ⟨rfl,by show (i.Acts.foldl wr1 p.set).length≤_;omega⟩
 ·exact ⟨rfl,by omega⟩
theorem Yum (p:Z1w)(l:List Inst):(Z7e p l).out=p.out∧(Z7e p l).set=p.set:=by
 unfold Z7e
 split
 ·exact ⟨rfl,rfl⟩
 ·exact ⟨rfl,rfl⟩
theorem Y4c {G:Int→Header→List Out}(hG:bdG G)(p:Z1w){l:List Inst}(hl:Z6n l):(sdo G p l).out.length≤p.out.length+78732∧(sdo G p l).set.length≤p.set.length+12:=by
 have h1:=Ya3 hG p hl
 have h2:=Y8g (Z6k G p l) l
 have h3:=Yvp (Z6u (Z6k G p l) l) hl
 have h4:=Yum (Z72 (Z6u (Z6k G p l) l) l) l
 unfold sdo
 refine ⟨?_,?_⟩
 ·rw [h4.1,h3.1,h2.1];exact h1.1
 ·rw [h4.2]
  have:=h3.2
  have:=h2.2
  rw [h1.2] at this
  omega
theorem Yn3 {G:Int→Header→List Out}(hG:bdG G)(p:Z1w):(Zg9 G p).out.length≤p.out.length+p.set.length*6561:=by
 have h1:=Zzs hG (Z5h p.set) p.h
 have h2:=Nat.mul_le_mul_right 6561 (Znp p.set)
 show (p.out++_).length≤_
 rw [List.length_append];omega
def Z6i (s:Switch)(G:Int→Header→List Out):Nat→Nat→Z1w→List Place→Z1w×List Place
 | 0,_,p,q=>(p,q)
 | d+1,at_,p,q=>match Z8u (Z06 s at_) p.h with
  | none=>(p,q++[⟨(at_:Int), -1⟩])
  | some i=>match (Z06 s at_)[i.toNat]? with
   | none=>(p,q)
   | some f=>match Z1u at_ f.Insts with
    | some n=>Z6i s G d n (sdo G p f.Insts) (q++[⟨(at_:Int),i⟩])
    | none=>(Zg9 G (sdo G p f.Insts),q++[⟨(at_:Int),i⟩])
theorem Zt7 {s:Switch}{G:Int→Header→List Out}{d at_:Nat}{p:Z1w}{q:List Place}(h:Z8u (Z06 s at_) p.h=none):Z6i s G (d+1) at_ p q=(p,q++[⟨(at_:Int), -1⟩]):=by
 rw [Z6i,h]
theorem Zxw {s:Switch}{G:Int→Header→List Out}{d at_ k:Nat}{p:Z1w}{q:List Place}(h:Z8u (Z06 s at_) p.h=some (k:Int))(hk:k<(Z06 s at_).length):Z6i s G (d+1) at_ p q=match Z1u at_ (Z06 s at_)[k].Insts with
  | some n=>Z6i s G d n (sdo G p (Z06 s at_)[k].Insts) (q++[⟨(at_:Int),(k:Int)⟩])
  | none=>(Zg9 G (sdo G p (Z06 s at_)[k].Insts),q++[⟨(at_:Int),(k:Int)⟩]):=by
 rw [Z6i,h]
 simp only
 rw [Int.toNat_natCast,List.getElem?_eq_getElem hk]
def Zum (at_:Nat)(p:Z1w)(q:List Place):Prop:=p.out.length≤78732*at_∧p.set.length≤12*at_∧q.length≤at_
theorem Y2l (s:Switch)(hs:Z7f s){G:Int→Header→List Out}(hG:bdG G):∀(d at_:Nat) (p:Z1w) (q:List Place),at_+d≤4+d→Zum at_ p q→at_<4→(Z6i s G d at_ p q).1.out.length≤700000∧(Z6i s G d at_ p q).2.length≤10
 | 0,at_,p,q,_,h,h4=>by
  have:=h.1
  have:=h.2.2
  show p.out.length≤_∧q.length≤_
  omega
 | d+1,at_,p,q,hd,h,h4=>by
  have h0:=h.1
  have h1:=h.2.1
  have h2:=h.2.2
  cases hf:Z8u (Z06 s at_) p.h with
  | none=>
   rw [Zt7 hf]
   show p.out.length≤_∧(q++_).length≤_
   rw [List.length_append,List.length_singleton]
   omega
  | some i=>
   obtain ⟨k,hk,rfl,_⟩:=Zve hf
   rw [Zxw hf hk]
   have hl:=(hs at_ h4).2 _ (List.getElem_mem hk)
   have b:=Y4c hG p hl
   cases hn:Z1u at_ (Z06 s at_)[k].Insts with
   | none=>
    have c:=Yn3 hG (sdo G p (Z06 s at_)[k].Insts)
    have e:=Nat.mul_le_mul_right 6561 (Nat.le_trans b.2 (show p.set.length+12≤48 by omega))
    show (Zg9 G _).out.length≤_∧(q++_).length≤_
    rw [List.length_append,List.length_singleton]
    omega
   | some n=>
    have hb:=Zih hn
    exact Y2l s hs hG d n _ _ (by omega) ⟨by omega,by omega,by rw [List.length_append,List.length_singleton];omega⟩ hb.2
def sst (s:Switch)(e:Env)(p:Z1w)(q:List Place):Z35:=⟨s,e,p.h,p.set,p.out,q⟩
theorem Y5z (s:Switch)(e:Env)(hG:Z7j s.Groups)(p:Z1w)(q:List Place)(l:List Action)(hl:l.length≤100)(hp:p.out.length≤1000000):Zcz (sst s e p q) l=some (sst s e (Zp1 (goG s.Groups e 8) p l) q):=by
 have hlim:lim=4294967296:=rfl
 have hb:=Zzs (Zq4 s.Groups e hG) l p.h
 unfold Zcz
 show (Zh5 s.Groups e l p.h).bind _=_
 rw [Yet _ _ _ _ hG hl,Option.bind_some]
 show (Z0y p.out (doA (goG s.Groups e 8) l [] p.h).1).bind _=_
 rw [Z1p (by omega)];rfl
theorem Yfn (s:Switch)(e:Env)(hG:Z7j s.Groups)(p:Z1w)(q:List Place)(at_:Nat)(l:List Inst)(hl:Z6n l)(hp:p.out.length≤500000)(hs:p.set.length≤100):
  ∃X:Int,Zh6 (sst s e p q) (at_:Int) l=some (match Z1u at_ l with | some n=>((n:Int),true,sst s e (sdo (goG s.Groups e 8) p l) q) | none=>(X,false,sst s e (sdo (goG s.Groups e 8) p l) q)):=by
 have hlim:lim=4294967296:=rfl
 have hbG:=Zq4 s.Groups e hG
 have j4:∃X:Int,∀b:Z1w,Zfp l (at_:Int) b.out q s e b.h b.set=some (match Z1u at_ l with | some n=>((n:Int),true,sst s e b q) | none=>(X,false,sst s e b q)):=by
  cases hi:ofI l 1 with
  | none=>
   refine ⟨0,fun b=>?_⟩
   unfold Zfp
   rw [Z8x l 1 hl,Option.bind_some,Zxz hi,hi];rfl
  | some i=>
   refine ⟨i.Table,fun b=>?_⟩
   unfold Zfp
   rw [Z8x l 1 hl,Option.bind_some,hi]
   show some (i.Table,((true&&decide (i.Table>(at_:Int)))&&decide (i.Table<4)),sst s e b q)=_
   rw [Bool.true_and]
   by_cases hc:i.Table>(at_:Int)∧i.Table<4
   ·have hd:(decide (i.Table>(at_:Int))&&decide (i.Table<4))=true:=by
     rw [Bool.and_eq_true,decide_eq_true_eq,decide_eq_true_eq];exact hc
    have:((i.Table.toNat:Nat):Int)=i.Table:=by omega
    rw [Zvn hi hc,hd]
    simp [this]
   ·have hd:(decide (i.Table>(at_:Int))&&decide (i.Table<4))=false:=by
     rw [Bool.and_eq_false_iff,decide_eq_false_iff_not,decide_eq_false_iff_not];omega
    rw [Zwq hi hc,hd]
 obtain ⟨X,j4⟩:=j4
 refine ⟨X,?_⟩
 have j3:∀b:Z1w,Zje l (at_:Int) b.out q s e b.h b.set=some (match Z1u at_ l with | some n=>((n:Int),true,sst s e (Z7e b l) q) | none=>(X,false,sst s e (Z7e b l) q)):=fun b=>by
  unfold Zje
  rw [Z8x l 2 hl,Option.bind_some,←j4 (Z7e b l)]
  unfold Z7e
  cases hi:ofI l 2 with
  | none=>rfl
  | some i=>
   simp only [Z1v,cond_true]
   rw [show Zby=some Z2a from rfl,Option.bind_some,Zjm,Option.bind_some,Ybr];rfl
 have j2:∀b:Z1w,b.set.length≤200→Zjc l (at_:Int) b.out q s e b.h b.set=some (match Z1u at_ l with | some n=>((n:Int),true,sst s e (Z7e (Z72 b l) l) q) | none=>(X,false,sst s e (Z7e (Z72 b l) l) q)):=fun b h2=>by
  unfold Zjc
  rw [Z8x l 3 hl,Option.bind_some,←j3 (Z72 b l)]
  unfold Z72
  cases hi:ofI l 3 with
  | none=>rfl
  | some i=>
   have:=hl i (Z9b hi)
   simp only [Z1v,cond_true]
   rw [Zx5 _ _ (by omega)];rfl
 have j1:∀b:Z1w,b.set.length≤200→Zgj l (at_:Int) b.out q s e b.h b.set=some (match Z1u at_ l with | some n=>((n:Int),true,sst s e (Z7e (Z72 (Z6u b l) l) l) q) | none=>(X,false,sst s e (Z7e (Z72 (Z6u b l) l) l) q)):=fun b h2=>by
  have b5:=Y8g b l
  unfold Zgj
  rw [Z8x l 5 hl,Option.bind_some,←j2 (Z6u b l) (by have:=b5.2;omega)]
  unfold Z6u
  cases hi:ofI l 5 with
  | none=>rfl
  | some i=>rfl
 unfold Zh6
 rw [Z8x l 4 hl,Option.bind_some]
 have:=j1 (Z6k (goG s.Groups e 8) p l) (by rw [(Ya3 hbG p hl).2];omega)
 unfold sdo
 rw [←this]
 unfold Z6k
 cases hi:ofI l 4 with
 | none=>rfl
 | some i=>
  have:=hl i (Z9b hi)
  simp only [Z1v,cond_true]
  show (Zcz (sst s e p q) i.Acts).bind _=_
  rw [Y5z s e hG p q i.Acts (by omega) (by omega)];rfl
theorem Ybq (s:Switch)(e:Env)(hs:Z7f s)(hG:Z7j s.Groups):∀(d at_ m:Nat) (p:Z1w) (q:List Place),4≤at_+d→at_<4→d≤m→Zum at_ p q→
  Zee m p.out q s e p.h p.set (at_:Int)=some (sst s e (Z6i s (goG s.Groups e 8) d at_ p q).1 (Z6i s (goG s.Groups e 8) d at_ p q).2)
 | 0,at_,m,p,q,h0,h1,_,_=>by omega
 | d+1,at_,0,p,q,_,_,h2,_=>by omega
 | d+1,at_,m+1,p,q,h1,ha,h2,hb=>by
  have hlim:lim=4294967296:=rfl
  have hl:=hs at_ ha
  have b0:=hb.1
  have b1:=hb.2.1
  have b2:=hb.2.2
  rw [Zee,Z2m ha,Option.bind_some,Zfl,Yu7 _ _ hl.1,Option.bind_some]
  cases hf:Z8u (Z06 s at_) p.h with
  | none=>
   rw [Zt7 hf]
   simp only [Z1v,Bool.not_false,cond_true]
   rw [Z1p (by simp;omega)];rfl
  | some i=>
   obtain ⟨k,hk,rfl,_⟩:=Zve hf
   rw [Zxw hf hk]
   simp only [Z1v,Bool.not_true,cond_false]
   rw [Z1p (by simp;omega),Option.bind_some,Option.bind_some,Zfl,Z29 hk,Option.bind_some]
   have hli:=hl.2 _ (List.getElem_mem hk)
   obtain ⟨X,hX⟩:=Yfn s e hG p (q++[⟨(at_:Int),(k:Int)⟩]) at_ _ hli (by omega) (by omega)
   have bd:=Y4c (Zq4 s.Groups e hG) p hli
   show (Zh6 (sst s e p (q++[⟨(at_:Int),(k:Int)⟩])) (at_:Int) (Z06 s at_)[k].Insts).bind _=_
   rw [hX,Option.bind_some]
   generalize sdo (goG s.Groups e 8) p (Z06 s at_)[k].Insts=P at*
   generalize hQ:q++[(⟨(at_:Int),(k:Int)⟩:Place)]=Q at*
   have hQl:Q.length=q.length+1:=by rw [←hQ];simp
   cases hn:Z1u at_ (Z06 s at_)[k].Insts with
   | some n=>
    have hnb:=Zih hn
    simp only [Bool.not_true,cond_false]
    exact Ybq s e hs hG d n m P Q (by omega) (by omega) (by omega) ⟨by omega,by omega,by omega⟩
   | none=>
    simp only [Bool.not_false,cond_true]
    have hls:=Znp P.set
    have h5:=Y5k P.set (by omega)
    have h6:=Y5z s e hG P Q (Z5h P.set) (by omega) (by omega)
    show ((Z8d P.set).bind fun x35=>(Zcz (sst s e P Q) x35).bind fun b36=>some b36)=_
    rw [h5,Option.bind_some,h6,Option.bind_some];rfl
def Z9g (h:Header):Z1w:=⟨h,[],[]⟩
def Zo7 (s:Switch)(e:Env)(h:Header):Z1w×List Place:=Z6i s (goG s.Groups e 8) 4 0 (Z9g h) []
theorem Y8x (h:Header):Zum 0 (Z9g h) []:=⟨by simp [Z9g],by simp [Z9g],by simp⟩
theorem Yc1 (s:Switch)(h:Header)(hs:Z7f s)(hG:Z7j s.Groups):Zgr s h=some (Zo7 s Z6c h).2:=by
 unfold Zgr Zov
 have:=Ybq s Z6c hs hG 4 0 Z0v (Z9g h) [] (by omega) (by omega) (by unfold Z0v;omega) (Y8x h)
 show (Zee Z0v (Z9g h).out [] s Z6c (Z9g h).h (Z9g h).set ((0:Nat):Int)).bind _=_
 rw [this];rfl
theorem Yz2 (s:Switch)(e:Env)(h:Header)(hs:Z7f s)(hG:Z7j s.Groups):(Zo7 s e h).1.out.length≤700000∧(Zo7 s e h).2.length≤10:=
 Y2l s hs (Zq4 s.Groups e hG) 4 0 _ _ (by omega) (Y8x h) (by omega)
end Go.Proofs.YtinplddjjalohaaGreatDoor.W
namespace Go.Proofs.YtinplddjjalohaaGreatDoor.W
open Go Go.Wb
theorem Ybc {r c b:Cube}(h:Z5e r c=some b)(v:Header):Z0d b v=true↔Z0d c (Z31 r v)=true:=by
 unfold Z5e at h
 cases ha:(List.range 24).all (fun i=>(Z2l (ve r i) (ve c i)).isSome)
 ·rw [ha] at h;cases h
 ·rw [ha,cond_true] at h
  rw [List.all_eq_true] at ha
  obtain rfl:=Option.some.inj h
  rw [Z4i,Z4i]
  have key:∀f,f<24→(Z48 (ve (Vector.ofFn fun i:_root_.Fin 24=>Z10 ⟨(ve c i.1).Value,Z3e (ve c i.1).Mask (ve r i.1).Mask⟩) f) (ve v f)=true↔Z48 (ve c f) (ve (Z31 r v) f)=true):=fun f hf=>by
   rw [Z81 (fun i=>Z10 ⟨(ve c i).Value,Z3e (ve c i).Mask (ve r i).Mask⟩) f hf,Zwo,Z8n _ _ _ hf,Z42,Z42]
   have h1:=Y21 (ha f (by simpa using hf))
   constructor
   ·intro h2 k hk hm
    have h3:=h2 k hk
    have h4:=h1 k hk
    simp only [Z5y _ _ _ hk,Z66,Z3j] at h3 ⊢
    revert h3 h4
    rw [hm]
    cases wt (ve r f).Mask k<;>cases wt (ve r f).Value k<;>cases wt (ve c f).Value k<;>cases wt (ve v f) k<;>simp
   ·intro h2 k hk hm
    have h3:=h2 k hk
    have h4:=h1 k hk
    simp only [Z5y _ _ _ hk,Z66,Z3j] at h3 hm
    revert h3 h4 hm
    cases wt (ve c f).Mask k<;>cases wt (ve r f).Mask k<;>cases wt (ve r f).Value k<;>cases wt (ve c f).Value k<;>cases wt (ve v f) k<;>simp
  exact ⟨fun h2 f hf=>(key f hf).1 (h2 f hf),fun h2 f hf=>(key f hf).2 (h2 f hf)⟩
theorem Yva {r c:Cube}(h:Z5e r c=none)(v:Header)(hc:Z0d c (Z31 r v)=true):False:=by
 unfold Z5e at h
 cases ha:(List.range 24).all (fun i=>(Z2l (ve r i) (ve c i)).isSome)
 ·rw [List.all_eq_false] at ha
  obtain ⟨f,hf,h1⟩:=ha
  have hf:f<24:=by simpa using hf
  have h2:=(Z4i _ _).1 hc f hf
  rw [Z8n _ _ _ hf,Z42] at h2
  unfold Z2l at h1
  cases hz:Z3m (Z21 (Z6w (ve r f).Value (ve c f).Value) (Z21 (ve r f).Mask (ve c f).Mask))
  ·obtain ⟨k,hk,h3⟩:=Y1b hz
   have h4:=h2 k hk
   simp only [Z5y _ _ _ hk,Z66,Z3j,Zem] at h3 h4
   revert h3 h4
   cases wt (ve c f).Mask k<;>cases wt (ve r f).Mask k<;>cases wt (ve r f).Value k<;>cases wt (ve c f).Value k<;>cases wt (ve v f) k<;>simp
  ·rw [hz] at h1;simp at h1
 ·rw [ha] at h;cases h
theorem Y1j {w x:walk_way}{f:Flow}(h:Z4v w f=some x)(h0:Header):x={w with cube:=x.cube}∧(Z0d x.cube h0=true↔Z0d (Z7d f) (Z31 w.got h0)=true∧Z0d w.cube h0=true):=by
 unfold Z4v at h
 obtain ⟨b,h1,h2⟩:=Option.bind_eq_some_iff.1 h
 obtain ⟨c,h3,h4⟩:=Option.map_eq_some_iff.1 h2
 subst h4
 exact ⟨rfl,by rw [Yxb h3,Ybc h1]⟩
theorem Yoj {w:walk_way}{f:Flow}(h:Z4v w f=none)(h0:Header)(h1:Z0d (Z7d f) (Z31 w.got h0)=true)(h2:Z0d w.cube h0=true):False:=by
 unfold Z4v at h
 cases hb:Z5e w.got (Z7d f) with
 | none=>exact Yva hb h0 h1
 | some b=>
  rw [hb,Option.bind_some,Option.map_eq_none_iff] at h
  exact Y98 h h0 ((Ybc hb h0).2 h1) h2
theorem Ym3 (h:Header):Z31 Z2a h=h:=Z80 fun f hf=>by
 rw [Z8n _ _ _ hf]
 unfold Z2a
 rw [Zt1 _ _ hf]
 exact Zb0 fun k hk=>by
  simp only [Z66,Z5y _ _ _ hk,Z3j]
  have:wt zTern.Mask k=false:=Zd4 k
  rw [this];simp
theorem Ymh (h:Header):Z0d Z2a h=true:=(Z4i _ _).2 fun f hf=>(Z42 _ _).2 fun k hk hm=>by
 unfold Z2a at hm
 rw [Zt1 _ _ hf] at hm
 have:wt zTern.Mask k=false:=Zd4 k
 rw [this] at hm;cases hm
theorem Zzw (r:Cube)(v m:Wide)(f:Nat)(hf:f<24):ve (Z5z r 1 v m) f=if f=1 then Z3g (Z10 (ve r 1)) ⟨v,m⟩ else Z10 (ve r f):=by
 unfold Z5z
 rw [show (decide ((1:Int)≥0)&&decide ((1:Int)<24))=true from rfl,cond_true,Z81 (fun i=>if (1:Int).toNat=i then Z3g (ve (Z1d r) (1:Int).toNat) ⟨v,m⟩ else ve (Z1d r) i) f hf]
 show (if 1=f then Z3g (ve (Z1d r) 1) ⟨v,m⟩ else ve (Z1d r) f)=_
 by_cases h:f=1
 ·subst h
  rw [if_pos rfl,if_pos rfl,Z8a _ _ hf]
 ·rw [if_neg (fun e=>h e.symm),if_neg h,Z8a _ _ hf]
theorem Ym0 (r:Cube)(v m:Wide)(h:Header):Z31 (Z5z r 1 v m) h=Z31 (Z5z Z2a 1 v m) (Z31 r h):=Z80 fun f hf=>by
 rw [Z8n _ _ _ hf,Z8n _ _ _ hf,Z8n _ _ _ hf,Zzw _ _ _ _ hf,Zzw _ _ _ _ hf]
 have z1:∀k,wt (ve Z2a f).Mask k=false:=fun k=>by
  unfold Z2a
  rw [Zt1 _ _ hf];exact Zd4 k
 by_cases h1:f=1
 ·subst h1
  rw [if_pos rfl,if_pos rfl]
  unfold Z3g Z10
  exact Zb0 fun k hk=>by
   simp only [Z3j,Z66,Z5y _ _ _ hk,z1]
   cases wt (ve h 1) k<;>cases wt (ve r 1).Value k<;>cases wt (ve r 1).Mask k<;>cases wt v k<;>cases wt m k<;>simp
 ·rw [if_neg h1,if_neg h1]
  unfold Z10
  exact Zb0 fun k hk=>by
   simp only [Z3j,Z66,Z5y _ _ _ hk,z1]
   cases wt (ve h f) k<;>cases wt (ve r f).Value k<;>cases wt (ve r f).Mask k<;>simp
structure RW (G:Int→Header→List Out) (h0:Header) (w:walk_way) (p:Z1w):Prop where
 h:p.h=Z31 w.got h0
 set:p.set=w.set
 out:p.out=w.atoms.flatMap (Zqs G h0)
theorem RW.act {G:Int→Header→List Out}{h0:Header}{w:walk_way}{p:Z1w}(h:RW G h0 w p)(l:List Action):RW G h0 (Zrt w l) (Zp1 G p l):=by
 have e:doA G l [] p.h=((doT l (Z1d w.got)).1.flatMap (Zqs G h0),Z31 (doT l (Z1d w.got)).2 h0):=by
  rw [h.h,←Yno,Zqu]
 refine ⟨?_,h.set,?_⟩
 ·show (doA G l [] p.h).2=_
  rw [e];rfl
 ·show p.out++(doA G l [] p.h).1=(w.atoms++(doT l (Z1d w.got)).1).flatMap (Zqs G h0)
  rw [e,h.out,List.flatMap_append]
theorem RW.do_ {G:Int→Header→List Out}{h0:Header}{w:walk_way}{p:Z1w}(h:RW G h0 w p)(l:List Inst):RW G h0 (wdo w l) (sdo G p l):=by
 have h1:RW G h0 (Z3q w l) (Z6k G p l):=by
  unfold Z3q Z6k
  cases ofI l 4 with
  | none=>exact h
  | some i=>exact h.act _
 have h2:RW G h0 (Z3l (Z3q w l) l) (Z6u (Z6k G p l) l):=by
  unfold Z3l Z6u
  cases ofI l 5 with
  | none=>exact h1
  | some i=>exact ⟨h1.h,rfl,h1.out⟩
 have h3:RW G h0 (Z3f (Z3l (Z3q w l) l) l) (Z72 (Z6u (Z6k G p l) l) l):=by
  unfold Z3f Z72
  cases ofI l 3 with
  | none=>exact h2
  | some i=>exact ⟨h2.h,by show i.Acts.foldl wr1 _=i.Acts.foldl wr1 _;rw [h2.set],h2.out⟩
 unfold wdo sdo
 generalize Z3f (Z3l (Z3q w l) l) l=w' at*
 generalize Z72 (Z6u (Z6k G p l) l) l=p' at*
 unfold Z3w Z7e
 cases ofI l 2 with
 | none=>exact h3
 | some i=>exact ⟨by show Z31 _ p'.h=Z31 (Z5z w'.got 1 i.Value i.Mask) h0;rw [Ym0 w'.got,h3.h],h3.set,h3.out⟩
theorem Zj7 (w:walk_way)(l:List Inst):(wdo w l).cube=w.cube:=by
 unfold wdo Z3w Z3f Z3l Z3q
 cases ofI l 2<;>cases ofI l 3<;>cases ofI l 5<;>cases ofI l 4<;>rfl
theorem Y0c (s:Switch)(h0:Header):∀(d at_:Nat) (w:walk_way),Z0d w.cube h0=false→∀r∈Z47 s d at_ w,Z0d r.Cube h0=false
 | 0,at_,w,h,r,hr=>by
  rw [Z47,List.mem_singleton] at hr
  rw [hr];exact h
 | d+1,at_,w,h,r,hr=>by
  rw [Z47] at hr
  rcases List.mem_append.1 hr with hr | hr
  ·obtain ⟨i,hi,hr⟩:=List.mem_flatMap.1 hr
   unfold Z6s at hr
   split at hr
   ·cases hr
   ·rename_i f hf
    split at hr
    ·cases hr
    ·rename_i x hx
     have hc:Z0d x.cube h0=false:=by
      have:=(Y1j hx h0).2
      cases hq:Z0d x.cube h0
      ·rfl
      ·have:=(this.1 hq).2
       rw [h] at this;cases this
     split at hr
     ·exact Y0c s h0 d _ _ (by rw [Zj7];exact hc) r hr
     ·rw [List.mem_singleton] at hr
      rw [hr]
      show Z0d (wdo x f.Insts).cube h0=false
      rw [Zj7];exact hc
  ·rw [List.mem_singleton] at hr
   rw [hr];exact h
theorem RW0 (G:Int→Header→List Out)(h:Header):RW G h way0 (Z9g h):=⟨(Ym3 h).symm,rfl,rfl⟩
end Go.Proofs.YtinplddjjalohaaGreatDoor.W
namespace Go.Proofs.YtinplddjjalohaaGreatDoor.W
open Go Go.Wb
theorem Ymf {a b:Cube}(h:Z60 a b=true){v:Header}(hv:Z0d a v=true):Z0d b v=true:=by
 unfold Z60 at h
 rw [List.all_eq_true] at h
 refine (Z4i _ _).2 fun f hf=>?_
 have h1:=h f (by rw [←List.range_eq_range'];simpa using hf)
 have h2:=(Z4i _ _).1 hv f hf
 unfold Zf7 at h1
 rw [Bool.and_eq_true] at h1
 have h3:=(Zb6 _).1 h1.1
 have h4:=(Z42 _ _).1 h1.2
 have h5:=(Z42 _ _).1 h2
 refine (Z42 _ _).2 fun k hk hm=>?_
 have h6:=h3 k hk
 rw [Z5y _ _ _ hk,hm,Bool.true_and,Bool.not_eq_false'] at h6
 rw [h4 k hk hm]
 exact h5 k hk h6
theorem Yk8 {c:Cube}{f b:Nat}(hf:f<24)(hb:b<128){h:Header}(hh:Z0d c h=true):Z0d (Z92 c f (Z5q (ve c f) b (wt (ve h f) b))) h=true:=by
 refine (Y40 hf).2 ⟨fun g hg _=>(Z4i _ _).1 hh g hg,(Y9s _ _ hb _ _).2 ⟨fun k hk _ hm=>(Z42 _ _).1 ((Z4i _ _).1 hh f hf) k hk hm,rfl⟩⟩
theorem Y5l (xv:Wide)(f:Nat)(hf:f<24)(h:Header):∀(l:List Int) (left:Cube),Zrs l→Z0d left h=true→
  (∃p∈(Z57 xv f l left).1,Z0d p h=true)∨(Z0d (Z57 xv f l left).2 h=true∧∀i∈l,wt (ve h f) i.toNat=wt xv i.toNat)
 | [],left,_,hh=> .inr ⟨hh,by simp⟩
 | i::l,left,hl,hh=>by
  obtain ⟨b,rfl,hb⟩:=hl i (by simp)
  rw [Z57,Int.toNat_natCast]
  have h1:=Yk8 (f:=f) hf hb hh
  by_cases hq:wt (ve h f) b=wt xv b
  ·rw [hq] at h1
   rcases Y5l xv f hf h l _ (fun j hj=>hl j (by simp [hj])) h1 with ⟨p,hp,h2⟩ | ⟨h2,h3⟩
   ·exact .inl ⟨p,by simp [hp],h2⟩
   ·refine .inr ⟨h2,fun j hj=>?_⟩
    rcases List.mem_cons.1 hj with rfl | hj
    ·rw [Int.toNat_natCast];exact hq
    ·exact h3 j hj
  ·have:wt (ve h f) b= !wt xv b:=by
    cases hx:wt xv b<;>cases hy:wt (ve h f) b<;>simp_all
   rw [this] at h1
   exact .inl ⟨_,List.mem_cons_self ..,h1⟩
theorem Y3g (x:Cube)(h:Header):∀(m f:Nat) (left:Cube),f+m=24→Z0d left h=true→(∀g k,f≤g→g<24→k<128→wt (ve x g).Mask k=true→wt (ve left g).Mask k=true→wt (ve h g) k=wt (ve x g).Value k)→
  (∃p∈Zbi x m f left,Z0d p h=true)∨ ∀g,f≤g→g<24→Z48 (ve x g) (ve h g)=true
 | 0,f,left,hm,_,_=> .inr fun g h1 h2=>by omega
 | m+1,f,left,hm,hh,hs=>by
  have hf:f<24:=by omega
  rw [Zbi]
  rcases Y5l (ve x f).Value f hf h (Zc5 (ve x f) (ve left f)) left (Zxt _ _) hh with ⟨p,hp,h1⟩ | ⟨h1,h2⟩
  ·exact .inl ⟨p,by simp [hp],h1⟩
  ·have hx:Z48 (ve x f) (ve h f)=true:=(Z42 _ _).2 fun k hk hm=>by
    by_cases hl:wt (ve left f).Mask k=true
    ·exact (hs f k (Nat.le_refl _) hf hk hm hl).symm
    ·have:=h2 (k:Int) ((Ze0 _ _ _).2 ⟨k,rfl,hk,by rw [Z5y _ _ _ hk,hm];simpa using hl⟩)
     rw [Int.toNat_natCast] at this
     exact this.symm
   rcases Y3g x h m (f+1) _ (by omega) h1 (fun g k h3 h4 h5 h6 h7=>hs g k (by omega) h4 h5 h6 (by rw [Y5t _ _ _ _ _ h4 (by omega)] at h7;exact h7)) with ⟨p,hp,h3⟩ | h3
   ·exact .inl ⟨p,by simp [hp],h3⟩
   ·refine .inr fun g h4 h5=>?_
    by_cases e:g=f
    ·subst e;exact hx
    ·exact h3 g (by omega) h5
theorem Yoh {a x:Cube}(hm:Z41 a x=true){h:Header}(h1:Z0d a h=true)(h2:Z0d x h=false):∃p∈Z8f a x,Z0d p h=true:=by
 unfold Z8f
 rw [hm,cond_true]
 have hc:Z0d (Z1d a) h=true:=by rw [Y7v];exact h1
 rcases Y3g x h 24 0 (Z1d a) rfl hc (fun g k _ hg hk hmx hml=>by
  rw [Z8a _ _ hg] at hml
  unfold Z41 at hm
  have h3:=(Z42 _ _).1 ((Z4i _ _).1 h1 g hg) k hk hml
  -- where they meet both say the same
  cases hcm:Z4n a x with
  | none=>rw [hcm] at hm;cases hm
  | some z=>
   have h4:=Zi9 hcm g hg
   have h5:=Y21 (a:=ve a g) (b:=ve x g) (by rw [h4];rfl) k hk
   have hml':wt (ve a g).Mask k=true:=hml
   rw [hml',hmx] at h5
   rw [←h3]
   revert h5
   cases wt (ve a g).Value k<;>cases wt (ve x g).Value k<;>simp) with h3 | h3
 ·exact h3
 ·rw [(Z4i _ _).2 fun f hf=>h3 f (by omega) hf] at h2
  cases h2
theorem Y8d {R:Cube→Int→Header×Bool×Int}:∀(ps:List Cube) (n:Int),(Z3y R ps n).2.1=false→0≤(Z3y R ps n).2.2→∀p∈ps,∃m,(R p m).2.1=false∧0≤(R p m).2.2
 | [],n,_,_,p,hp=>by cases hp
 | q::ps,n,h,h',p,hp=>by
  rw [Z3y] at h h'
  cases hc:(R q n).2.1||decide ((R q n).2.2<0)
  ·rw [hc,cond_false] at h h'
   rw [Bool.or_eq_false_iff,decide_eq_false_iff_not] at hc
   rcases List.mem_cons.1 hp with rfl | hp
   ·exact ⟨n,hc.1,by omega⟩
   ·exact Y8d ps _ h h' p hp
  ·rw [hc,cond_true] at h h'
   rw [h,Bool.false_or,decide_eq_true_eq] at hc
   omega
theorem Yar (free:Bool):∀(d:Nat) (c:Cube) (l:List Cube) (n:Int),(Z4a free d c l n).2.1=false→0≤(Z4a free d c l n).2.2→∀h,Z0d c h=true→∃x∈l,Z0d x h=true
 | 0,c,l,n,_,h',h,_=>by simp [Z4a] at h'
 | d+1,c,l,n,h0,h',h,hc=>by
  rw [Z4a] at h0 h'
  cases h1: !free&&decide (n<1)
  ·rw [h1,cond_false] at h0 h'
   cases h2:l.any (Z60 c)
   ·rw [h2,cond_false] at h0 h'
    cases h3:Z5k c l 0 with
    | none=>rw [h3] at h0;cases h0
    | some i=>
     obtain ⟨hi,hm,_⟩:=Yph h3
     rw [h3] at h0 h'
     simp only [List.getElem?_eq_getElem hi] at h0 h'
     by_cases hx:Z0d l[i] h=true
     ·exact ⟨_,List.getElem_mem hi,hx⟩
     ·obtain ⟨p,hp,hph⟩:=Yoh hm hc (by simpa using hx)
      obtain ⟨m,h4,h5⟩:=Y8d _ _ h0 h' p hp
      obtain ⟨y,hy,h6⟩:=Yar free d p (l.drop (i+1)) m h4 h5 h hph
      exact ⟨y,List.mem_of_mem_drop hy,h6⟩
   ·obtain ⟨x,hx,h3⟩:=List.any_eq_true.1 h2
    exact ⟨x,hx,Ymf h3 hc⟩
  ·rw [h1] at h';simp at h'
theorem Yfq {c:Cube}{l:List Cube}{most:Int}(h:(Z1t c l most).2.1=false)(h':(Z1t c l most).2.2=0)(v:Header)(hv:Z0d c v=true):∃x∈l,Z0d x v=true:=by
 unfold Z1t at h h'
 by_cases hn:(Zcu c l most).2.2<0
 ·rw [decide_eq_true hn] at h';cases h'
 ·rw [decide_eq_false hn,cond_false] at h
  exact Yar _ _ c l _ h (Int.not_lt.1 hn) v hv
theorem Zom (most:Int):∀(l kept:List Rule),(∀i (hi:i<kept.length),(Z1t kept[i].Cube ((kept.take i).map (·.Cube)) most).2.1=true∧(Z1t kept[i].Cube ((kept.take i).map (·.Cube)) most).2.2=0)→
  ∀i (hi:i<(Z33 most l kept).1.length),(Z1t (Z33 most l kept).1[i].Cube (((Z33 most l kept).1.take i).map (·.Cube)) most).2.1=true∧(Z1t (Z33 most l kept).1[i].Cube (((Z33 most l kept).1.take i).map (·.Cube)) most).2.2=0
 | [],kept,hk=>hk
 | r::l,kept,hk=>by
  have hd:Z33 most (r::l) kept=([],5)∨Z33 most (r::l) kept=Z33 most l kept∨((Z1t r.Cube (kept.map (·.Cube)) most).2.1=true∧(Z1t r.Cube (kept.map (·.Cube)) most).2.2=0∧Z33 most (r::l) kept=Z33 most l (kept++[r])):=by
   rw [Z33]
   rcases Zzu r.Cube (kept.map (·.Cube)) most with he | he
   ·rw [he,decide_eq_false (by omega),cond_false]
    cases hf:(Z1t r.Cube (kept.map (·.Cube)) most).2.1
    ·exact .inr (.inl rfl)
    ·exact .inr (.inr ⟨rfl,rfl,rfl⟩)
   ·rw [he];exact .inl rfl
  rcases hd with e | e | ⟨h1,h2,e⟩
  ·rw [e];intro i hi;simp at hi
  ·rw [e];exact Zom most l kept hk
  ·rw [e]
   refine Zom most l (kept++[r]) fun i hi=>?_
   by_cases h3:i<kept.length
   ·rw [List.getElem_append_left h3,List.take_append_of_le_length (by omega)]
    exact hk i h3
   ·have:i=kept.length:=by simp at hi;omega
    subst this
    simp [h1,h2]
end Go.Proofs.YtinplddjjalohaaGreatDoor.W
namespace Go.Proofs.YtinplddjjalohaaGreatDoor.W
open Go Go.Wb
abbrev RP:=Rule×List Place
def Zdh (R:Nat→walk_way→List Place→List RP)(t:List Flow)(at_:Nat)(w:walk_way)(q:List Place)(i:Int):List RP:=match t[i.toNat]? with
 | none=>[]
 | some f=>match Z4v w f with
  | none=>[]
  | some x=>match Z1u at_ f.Insts with
   | some n=>R n (wdo x f.Insts) (q++[(⟨(at_:Int),i⟩:Place)])
   | none=>[(Z2z (Z4p (wdo x f.Insts)),q++[(⟨(at_:Int),i⟩:Place)])]
def Z6m (s:Switch):Nat→Nat→walk_way→List Place→List RP
 | 0,_,w,q=>[(Z2z w,q)]
 | d+1,at_,w,q=>(Z5o (Z06 s at_)).flatMap (Zdh (Z6m s d) (Z06 s at_) at_ w q)++[(Z2z w,q++[(⟨(at_:Int), -1⟩:Place)])]
def Y7e (s:Switch):List RP:=Z6m s 4 0 way0 []
theorem Zut (s:Switch):∀(d at_:Nat) (w:walk_way) (q:List Place),(Z6m s d at_ w q).map (·.1)=Z47 s d at_ w
 | 0,at_,w,q=>rfl
 | d+1,at_,w,q=>by
  rw [Z6m,Z47,List.map_append,List.map_flatMap]
  congr 2
  funext i
  unfold Zdh Z6s
  cases (Z06 s at_)[i.toNat]? with
  | none=>rfl
  | some f=>
   simp only
   cases Z4v w f with
   | none=>rfl
   | some x=>
    simp only
    cases Z1u at_ f.Insts with
    | none=>rfl
    | some n=>exact Zut s d n _ _
def Z5m (h:Header)(x:RP):Bool:=Zvo h x.1
theorem Yjh (s:Switch)(h0:Header)(d at_:Nat)(w:walk_way)(q:List Place)(h:Z0d w.cube h0=false):∀r∈Z6m s d at_ w q,Z0d r.1.Cube h0=false:=fun r hr=>
 Y0c s h0 d at_ w h r.1 (by rw [←Zut s d at_ w q];exact List.mem_map_of_mem hr)
theorem Y5w {h:Header}{l:List RP}(hl:∀r∈l,Z0d r.1.Cube h=false):l.find? (Z5m h)=none:=List.find?_eq_none.2 fun r hr=>by
 unfold Z5m Zvo;rw [hl r hr];simp
theorem Y7j (s:Switch)(G:Int→Header→List Out)(h0:Header):∀(d at_:Nat) (w:walk_way) (p:Z1w) (q:List Place),RW G h0 w p→Z0d w.cube h0=true→
  ∃r,(Z6m s d at_ w q).find? (Z5m h0)=some r∧r.2=(Z6i s G d at_ p q).2
 | 0,at_,w,p,q,h,hc=>by
  refine ⟨(Z2z w,q),?_,rfl⟩
  rw [Z6m,List.find?_cons_of_pos (by exact hc)]
 | d+1,at_,w,p,q,h,hc=>by
  have ih:=Y7j s G h0 d
  have hw:(Zvo h0) (Z2z w)=true:=hc
  have one:∀k:Nat,∀hk:k<(Z06 s at_).length,(Zb5 (Z06 s at_) p.h (k:Int)=false→(Zdh (Z6m s d) (Z06 s at_) at_ w q (k:Int)).find? (Z5m h0)=none)∧
    (Zb5 (Z06 s at_) p.h (k:Int)=true→∃r,(Zdh (Z6m s d) (Z06 s at_) at_ w q (k:Int)).find? (Z5m h0)=some r∧r.2=(match Z1u at_ (Z06 s at_)[k].Insts with
     | some n=>Z6i s G d n (sdo G p (Z06 s at_)[k].Insts) (q++[(⟨(at_:Int),(k:Int)⟩:Place)])
     | none=>(Zg9 G (sdo G p (Z06 s at_)[k].Insts),q++[(⟨(at_:Int),(k:Int)⟩:Place)])).2):=fun k hk=>by
   rw [Zpk hk]
   have hrule:Zdh (Z6m s d) (Z06 s at_) at_ w q (k:Int)=match Z4v w (Z06 s at_)[k] with
     | none=>[]
     | some x=>match Z1u at_ (Z06 s at_)[k].Insts with
      | some n=>Z6m s d n (wdo x (Z06 s at_)[k].Insts) (q++[(⟨(at_:Int),(k:Int)⟩:Place)])
      | none=>[(Z2z (Z4p (wdo x (Z06 s at_)[k].Insts)),q++[(⟨(at_:Int),(k:Int)⟩:Place)])]:=by
    unfold Zdh
    rw [Int.toNat_natCast,List.getElem?_eq_getElem hk]<;>rfl
   rw [hrule]
   generalize (Z06 s at_)[k]=f
   cases hm:Z4v w f with
   | none=>
    refine ⟨fun _=>rfl,fun h1=>?_⟩
    rw [h.h] at h1
    exact (Yoj hm h0 h1 hc).elim
   | some x=>
    have hx:=Y1j hm h0
    have hrx:RW G h0 x p:=by rw [hx.1];exact ⟨h.h,h.set,h.out⟩
    refine ⟨fun h1=>?_,fun h1=>?_⟩
    ·have hxc:Z0d x.cube h0=false:=by
      cases hq:Z0d x.cube h0
      ·rfl
      ·have:=(hx.2.1 hq).1
       rw [←h.h,h1] at this;cases this
     simp only
     cases Z1u at_ f.Insts with
     | some n=>exact Y5w (Yjh s h0 d n _ _ (by rw [Zj7];exact hxc))
     | none=>
      refine Y5w fun r hr=>?_
      rw [List.mem_singleton.1 hr]
      show Z0d (wdo x f.Insts).cube h0=false
      rw [Zj7];exact hxc
    ·have hxc:Z0d x.cube h0=true:=hx.2.2 ⟨by rw [←h.h];exact h1,hc⟩
     simp only
     cases Z1u at_ f.Insts with
     | some n=>exact ih n _ _ _ (hrx.do_ f.Insts) (by rw [Zj7];exact hxc)
     | none=>
      refine ⟨_,List.find?_cons_of_pos (show Z5m h0 (Z2z (Z4p (wdo x f.Insts)),_)=true from ?_),rfl⟩
      show Z0d (wdo x f.Insts).cube h0=true
      rw [Zj7];exact hxc
  have all:∀l:List Int,inT (Z06 s at_) l→match l.find? (Zb5 (Z06 s at_) p.h) with
    | none=>(l.flatMap (Zdh (Z6m s d) (Z06 s at_) at_ w q)).find? (Z5m h0)=none
    | some i=> ∃r,(l.flatMap (Zdh (Z6m s d) (Z06 s at_) at_ w q)).find? (Z5m h0)=some r∧∀k:Nat,∀hk:k<(Z06 s at_).length,i=(k:Int)→r.2=(match Z1u at_ (Z06 s at_)[k].Insts with
     | some n=>Z6i s G d n (sdo G p (Z06 s at_)[k].Insts) (q++[(⟨(at_:Int),(k:Int)⟩:Place)])
     | none=>(Zg9 G (sdo G p (Z06 s at_)[k].Insts),q++[(⟨(at_:Int),(k:Int)⟩:Place)])).2:=fun l=>by
   induction l with
   | nil=>intro _;rfl
   | cons j l ihl=>
    intro hl
    obtain ⟨k,hk,rfl⟩:=hl j (by simp)
    have ihl:=ihl fun j hj=>hl j (by simp [hj])
    rw [List.flatMap_cons,List.find?_append]
    cases hq:Zb5 (Z06 s at_) p.h (k:Int)
    ·rw [List.find?_cons_of_neg (by simp [hq]),(one k hk).1 hq,Option.none_or]
     exact ihl
    ·rw [List.find?_cons_of_pos hq]
     obtain ⟨r,hr,he⟩:=(one k hk).2 hq
     refine ⟨r,by rw [hr];rfl,fun k' hk' e=>?_⟩
     have:k=k':=by omega
     subst this
     exact he
  have hall:=all (Z5o (Z06 s at_)) fun j hj=>Zn2.1 hj
  rw [Z6m,List.find?_append]
  cases hf:Z8u (Z06 s at_) p.h with
  | none=>
   rw [Zt7 hf]
   unfold Z8u at hf
   rw [hf] at hall
   simp only at hall
   refine ⟨(Z2z w,q++[(⟨(at_:Int), -1⟩:Place)]),?_,rfl⟩
   rw [hall,Option.none_or,List.find?_cons_of_pos (show Z5m h0 (Z2z w,_)=true from hw)]
  | some i=>
   obtain ⟨k,hk,rfl,_⟩:=Zve hf
   rw [Zxw hf hk]
   unfold Z8u at hf
   rw [hf] at hall
   simp only at hall
   obtain ⟨r,hr,he⟩:=hall
   exact ⟨r,by rw [hr];rfl,he k hk rfl⟩
def Zis (s:Switch)(h:Header):List Place:=(Zo7 s Z6c h).2
theorem Yk3 (s:Switch)(h:Header):∃r,(Y7e s).find? (Z5m h)=some r∧r.2=Zis s h:=
 Y7j s (goG s.Groups Z6c 8) h 4 0 way0 (Z9g h) [] (RW0 _ h) (Ymh h)
def Z7s (most:Int):List RP→List RP→List RP×Int
 | [],kept=>(kept,0)
 | r::l,kept=>bif decide ((Z1t r.1.Cube (kept.map (·.1.Cube)) most).2.2≠0) then ([],5) else bif (Z1t r.1.Cube (kept.map (·.1.Cube)) most).2.1 then Z7s most l (kept++[r]) else Z7s most l kept
theorem Zu1 (most:Int):∀(l kept:List RP),Z33 most (l.map (·.1)) (kept.map (·.1))=((Z7s most l kept).1.map (·.1),(Z7s most l kept).2)
 | [],kept=>rfl
 | r::l,kept=>by
  have e:(kept.map (·.1)).map (·.Cube)=kept.map (·.1.Cube):=by rw [List.map_map];rfl
  rw [List.map_cons,Z33,Z7s,e]
  cases decide ((Z1t r.1.Cube (kept.map (·.1.Cube)) most).2.2≠0)
  ·rw [cond_false,cond_false]
   cases (Z1t r.1.Cube (kept.map (·.1.Cube)) most).2.1
   ·exact Zu1 most l kept
   ·have:=Zu1 most l (kept++[r])
    rw [List.map_append] at this
    exact this
  ·rfl
theorem Zxc (most:Int)(h:Header):∀(l kept:List RP),(Z7s most l kept).2=0→(Z7s most l kept).1.find? (Z5m h)=(kept++l).find? (Z5m h)
 | [],kept,_=>by simp [Z7s]
 | r::l,kept,h0=>by
  rw [Z7s] at h0 ⊢
  rcases Zzu r.1.Cube (kept.map (·.1.Cube)) most with he | he
  ·rw [he,decide_eq_false (by omega),cond_false] at h0 ⊢
   cases hf:(Z1t r.1.Cube (kept.map (·.1.Cube)) most).2.1
   ·rw [hf,cond_false] at h0
    rw [cond_false,Zxc most h l kept h0,List.find?_append,List.find?_append]
    cases hr:Z5m h r
    ·rw [List.find?_cons_of_neg (by simp [hr])]
    ·obtain ⟨x,hx,hxh⟩:=Yfq hf he h hr
     obtain ⟨q,hq,rfl⟩:=List.mem_map.1 hx
     cases hk:kept.find? (Z5m h) with
     | none=>
      have:=List.find?_eq_none.1 hk q hq
      exact absurd hxh this
     | some q=>rfl
   ·rw [hf,cond_true] at h0
    rw [cond_true,Zxc most h l _ h0];simp
  ·rw [he] at h0;cases h0
theorem Yi0 {l:List Rule}{lp:List RP}{path:Header→List Place}{most:Int}(hl:lp.map (·.1)=l)(hp:∀h,∃x,lp.find? (Z5m h)=some x∧x.2=path h){K:List Rule}(hK:Z33 most l []=(K,0))(h:Header):
  ∃j,∃hj:j<K.length,path h=path (Z1t K[j].Cube ((K.take j).map (·.Cube)) most).1:=by
 have hfst:=Zu1 most lp []
 rw [List.map_nil,hl,hK] at hfst
 have hhit:=Zom most l [] (fun i hi=>by simp at hi)
 rw [hK] at hhit
 have hp0:(Z7s most lp []).2=0:=(congrArg Prod.snd hfst).symm
 have hK1:K=(Z7s most lp []).1.map (·.1):=congrArg Prod.fst hfst
 have hfind:=fun v=>Zxc most v lp [] hp0
 simp only [List.nil_append] at hfind
 revert hfind hK1
 generalize (Z7s most lp []).1=KP
 intro hK1 hfind
 subst hK1
 obtain ⟨x,hx,hxp⟩:=hp h
 rw [←hfind h] at hx
 obtain ⟨_,j,hj,hxj,_⟩:=List.find?_eq_some_iff_getElem.1 hx
 have hjl:j<(List.map Prod.fst KP).length:=by simpa using hj
 have hit:∀i (hi:i<(List.map Prod.fst KP).length),(Z1t (List.map Prod.fst KP)[i].Cube (((List.map Prod.fst KP).take i).map (·.Cube)) most).2.1=true:=fun i hi=>(hhit i hi).1
 refine ⟨j,hjl,?_⟩
 show path h=path (Z1t (List.map Prod.fst KP)[j].Cube (((List.map Prod.fst KP).take j).map (·.Cube)) most).1
 have hs:=Yhd (hit j hjl)
 revert hs
 generalize (Z1t (List.map Prod.fst KP)[j].Cube (((List.map Prod.fst KP).take j).map (·.Cube)) most).1=v
 intro hs
 obtain ⟨y,hy,hyp⟩:=hp v
 rw [←hfind v] at hy
 have hjj:KP.find? (Z5m v)=some KP[j]:=by
  refine List.find?_eq_some_iff_getElem.2 ⟨?_,j,hj,rfl,fun i hi=>?_⟩
  ·have h1:=hs.1
   rw [List.getElem_map] at h1
   exact h1
  ·have hi':i<KP.length:=by omega
   have h4:=hs.2 KP[i].1.Cube (List.mem_map.2 ⟨KP[i].1,List.mem_take_iff_getElem.2 ⟨i,by simp;omega,by simp⟩,rfl⟩)
   show (!Z0d KP[i].1.Cube v)=true
   rw [h4];rfl
 rw [hjj] at hy
 have hyx:=Option.some.inj hy
 rw [←hxp,←hyp,←hyx,←hxj]
theorem Yof (s:Switch)(most:Int){K:List Rule}(hK:Z3s s most=(K,0))(h:Header):∃j,∃hj:j<K.length,Zis s h=Zis s (Z1t K[j].Cube ((K.take j).map (·.Cube)) most).1:=
 Yi0 (lp:=Y7e s) (Zut s 4 0 way0 []) (Yk3 s) hK h
def Z7r {κ:Type}[DecidableEq κ](m:List (κ×Int))(l:List κ):List (κ×Int):=l.foldl (fun m x=>Z20 m x (IntKind.i64.wrap (Z0p m x+1))) m
theorem Y8b {κ:Type}[DecidableEq κ]:∀(l:List κ) (m:List (κ×Int)) (B:Nat),(∀p,0≤Z0p m p∧Z0p m p≤(B:Int))→B+l.length<9223372036854775807→∀p,Z0p (Z7r m l) p=Z0p m p+(l.count p:Int)
 | [],m,B,_,_,p=>by simp [Z7r]
 | x::l,m,B,hm,hB,p=>by
  have hx:=hm x
  simp only [List.length_cons] at hB
  have hw:IntKind.i64.wrap (Z0p m x+1)=Z0p m x+1:=by
   simp only [IntKind.wrap,IntKind.signed,IntKind.bits]
   have:(Z0p m x+1) % 18446744073709551616=Z0p m x+1:=Int.emod_eq_of_lt (by omega) (by omega)
   simp [this];omega
  show Z0p (Z7r (Z20 m x (IntKind.i64.wrap (Z0p m x+1))) l) p=_
  rw [Y8b l _ (B+1) (fun q=>by
   rw [Zzn,hw]
   split
   ·omega
   ·have:=hm q;omega) (by omega) p,Zzn,hw,List.count_cons]
  by_cases e:x=p
  ·subst e;simp;omega
  ·simp [e]
theorem Ykk {κ:Type}[DecidableEq κ](m:List (κ×Int))(a b:List κ):Z7r m (a++b)=Z7r (Z7r m a) b:=by unfold Z7r;rw [List.foldl_append]
theorem Yyy {κ:Type}[DecidableEq κ]{l:List κ}(h:l.length<9223372036854775807)(p:κ):Z0p (Z7r [] l) p=(l.count p:Int):=by
 have:=Y8b l [] 0 (fun p=>by simp [Z0p]) (by omega) p
 rw [this];simp [Z0p]
end Go.Proofs.YtinplddjjalohaaGreatDoor.W
namespace Go.Proofs.YtinplddjjalohaaGreatDoor.W
open Go Go.Wb
def Znm (s:Switch)(most:Int):Bool:=Zd5 s 3&&(decide (most≤1024)||decide ((Y7i (Z4l s):Int)≤4096))
theorem Yhu (s:Switch)(most:Int):Zk7 s most=some (Znm s most):=by
 unfold Zk7 Znm
 rw [Ysl,Option.bind_some]
 cases hf:Zd5 s 3
 ·rfl
 ·have h:=Zzx (m:=3) hf (by omega)
  rw [h.walkR]
  cases hd:decide (most≤1024)
  ·show (Option.bind (some (Z4l s)) fun x5=>(opt true (Zgg x5)).bind fun x6=>some (true&&(false||decide (x6≤4096))))=_
   rw [Option.bind_some,Ye5 _ (by have:=h.len;omega)];rfl
  ·rfl
theorem Yos {s:Switch}{most:Int}(h:Znm s most=true):SW s:=by
 unfold Znm at h
 rw [Bool.and_eq_true] at h
 exact Zzx (m:=3) h.1 (by omega)
def wit (K:List Rule)(most:Int)(j:Nat):Header:=match K[j]? with
 | some r=>(Z1t r.Cube ((K.take j).map (·.Cube)) most).1
 | none=>Z4c
theorem Y9o {K:List Rule}{most:Int}{j:Nat}(hj:j<K.length):wit K most j=(Z1t K[j].Cube ((K.take j).map (·.Cube)) most).1:=by
 unfold wit;rw [List.getElem?_eq_getElem hj]
theorem Yke {K:List Rule}{most:Int}{j:Nat}(hj:j<K.length):Zsf K (j:Int) most=Z1t K[j].Cube ((K.take j).map (·.Cube)) most:=by
 unfold Zsf
 rw [decide_eq_false (by omega),decide_eq_false (by omega)]
 show (match K[((j:Int)).toNat]? with | none=>_ | some r=>_)=_
 rw [Int.toNat_natCast,List.getElem?_eq_getElem hj]
def Zij (s:Switch)(K:List Rule)(most:Int):List Place:=(List.range K.length).flatMap fun j=>Zis s (wit K most j)
theorem Y3m (go:Nat→List (Place×Int)→Option (List (Place×Int)×Int))(i9:Nat):∀(l:List Place) (i:Nat) (m:List (Place×Int)),Zdj go i9 l i m=go (i9+1) (Z7r m l)
 | [],i,m=>rfl
 | x::l,i,m=>by rw [Zdj,Y3m go i9 l];rfl
theorem Y5o (s:Switch)(hs:SW s)(most:Int)(hm:most≤9223372036854775807)(K:List Rule)(hK:K.length≤100000)(hok:∀j (hj:j<K.length),(Z1t K[j].Cube ((K.take j).map (·.Cube)) most).2.2=0):∀(n i:Nat) (m:List (Place×Int)),i+n=K.length→
  Zak (K,0) most s n i m=some (Z7r m ((List.range' i n).flatMap fun j=>Zis s (wit K most j)),0)
 | 0,i,m,_=>by rw [Zak];rfl
 | n+1,i,m,h=>by
  have hi:i<K.length:=by omega
  have ih:=fun m=>Y5o s hs most hm K hK hok n (i+1) m (by omega)
  rw [Zak]
  show (Zhj K (i:Int) most).bind _=_
  rw [Yk0 _ _ _ (by omega) hm,Option.bind_some,Yke hi,hok i hi,decide_eq_false (by simp),cond_false,Yc1 s _ hs.lt hs.G,Option.bind_some,Y3m,ih,List.range'_succ,List.flatMap_cons,Ykk,Y9o hi]
  rfl
theorem Yr8 (s:Switch)(most:Int):∀j (hj:j<(Z3s s most).1.length),(Z1t (Z3s s most).1[j].Cube (((Z3s s most).1.take j).map (·.Cube)) most).2.2=0:=fun j hj=>
 (Zom most (Z4l s) [] (fun i hi=>by simp at hi) j hj).2
def Z99 (s:Switch)(most:Int):List (Place×Int)×Int:=bif decide ((Z3s s most).2≠0) then ([],5) else (Z7r [] (Zij s (Z3s s most).1 most),0)
theorem Y3f (s:Switch)(most:Int):(Z3s s most).2=0∨Z3s s most=([],5):=Zwv most (Z4l s) []
theorem Ymt (s:Switch)(hs:SW s)(most:Int)(hm:most≤9223372036854775807):Zfy s most=some (Z99 s most):=by
 unfold Zfy Z99
 rw [hs.walk,Option.bind_some,Yr5 s hs most hm,Option.bind_some]
 rcases Y3f s most with h0 | h0
 ·rw [decide_eq_false (by omega),cond_false,cond_false]
  have hl:=Zsu most (Z4l s) []
  have h2:=hs.len
  have hlen:(Z3s s most).1.length≤100000:=by
   have:(Z3s s most).1.length≤0+(Z4l s).length:=hl.1
   omega
  have e:Z3s s most=((Z3s s most).1,0):=by rw [←h0]
  have:=Y5o s hs most hm (Z3s s most).1 hlen (Yr8 s most) (Z3s s most).1.length 0 [] (by omega)
  rw [Int.toNat_natCast]
  rw [←List.range_eq_range'] at this
  rw [←e] at this
  exact this
 ·rw [h0];rfl
def Zc0 (m:List (Place×Int))(t n k:Nat):List Place:=((List.range' k n).filter fun (i:Nat)=>decide (Z0p m (⟨(t:Int),(i:Int)⟩:Place)=0)).map fun (i:Nat)=>(⟨(t:Int),(i:Int)⟩:Place)
def Zdz (m:List (Place×Int)):List (List Flow)→Nat→List Place
 | [],_=>[]
 | l::ts,t=>Zc0 m t l.length 0++Zdz m ts (t+1)
theorem Yna (m:List (Place×Int))(t n k:Nat):(Zc0 m t n k).length≤n:=by
 unfold Zc0
 rw [List.length_map]
 exact Nat.le_trans (List.length_filter_le _ _) (by simp)
theorem Zz0 (go:Nat→List Place→Option (List Place×Int))(t:Nat)(x:List (Place×Int)×Int):∀(n k:Nat) (acc:List Place),acc.length+n≤100000→Zah go t x n k acc=go (t+1) (acc++Zc0 x.1 t n k)
 | 0,k,acc,_=>by rw [Zah];simp [Zc0]
 | n+1,k,acc,h=>by
  have hlim:lim=4294967296:=rfl
  rw [Zah]
  unfold Zc0
  rw [List.range'_succ]
  by_cases h0:Z0p x.1 ⟨(t:Int),(k:Int)⟩=0
  ·rw [decide_eq_true h0,cond_true,Z1p (by simp;omega),Option.bind_some,Zz0 go t x n (k+1) _ (by simp;omega),List.filter_cons_of_pos (by simp [h0]),List.map_cons]
   unfold Zc0
   rw [List.append_assoc];rfl
  ·rw [decide_eq_false h0,cond_false,Zz0 go t x n (k+1) _ (by omega),List.filter_cons_of_neg (by simp [h0])]
   rfl
theorem Y18 (x:List (Place×Int)×Int):∀(ts:List (List Flow)) (t:Nat) (acc:List Place),(∀l∈ts,l.length≤1000)→acc.length+1000*ts.length≤100000→Za5 x ts t acc=some (acc++Zdz x.1 ts t,0)
 | [],t,acc,_,_=>by rw [Za5];simp [Zdz]
 | l::ts,t,acc,h,hl=>by
  have h1:=h l (by simp)
  have h2:=Yna x.1 t l.length 0
  simp only [List.length_cons] at hl
  rw [Za5,Int.toNat_natCast,Zz0 _ t x l.length 0 acc (by omega),Y18 x ts (t+1) _ (fun l hl=>h l (by simp [hl])) (by rw [List.length_append];omega),Zdz,List.append_assoc]
theorem Ym1 {s:Switch}(hs:SW s):∀l∈Vector.toList s.Tables,l.length≤1000:=fun l hl=>by
 obtain ⟨i,hi,rfl⟩:=List.mem_iff_getElem.1 hl
 have hi':i<4:=by simpa using hi
 have h1:=(hs.lt i hi').1
 have e:(Vector.toList s.Tables)[i]=Z06 s i:=by
  unfold Z06
  simp [hi']
  rfl
 rw [e];omega
def Zdn (s:Switch)(most:Int):List Place×Int:=bif decide ((Z99 s most).2≠0) then ([],(Z99 s most).2) else (Zdz (Z99 s most).1 (Vector.toList s.Tables) 0,0)
theorem Ycl (s:Switch)(hs:SW s)(most:Int)(hm:most≤9223372036854775807):Ziq s most=some (Zdn s most):=by
 unfold Ziq Zdn
 rw [Ymt s hs most hm,Option.bind_some]
 cases decide ((Z99 s most).2≠0)
 ·rw [cond_false,cond_false,Y18 _ _ 0 [] (Ym1 hs) (by simp)];rfl
 ·rfl
theorem Y4x {m:List (Place×Int)}{p:Place}:∀(ts:List (List Flow)) (t:Nat),p∈Zdz m ts t→Z0p m p=0
 | [],t,h=>by cases h
 | l::ts,t,h=>by
  rw [Zdz] at h
  rcases List.mem_append.1 h with h | h
  ·unfold Zc0 at h
   obtain ⟨i,hi,rfl⟩:=List.mem_map.1 h
   have:=(List.mem_filter.1 hi).2
   simpa using this
  ·exact Y4x ts (t+1) h
theorem Y0h {α β:Type}(f:α→List β)(n:Nat):∀l:List α,(∀x∈l,(f x).length≤n)→(l.flatMap f).length≤l.length*n
 | [],_=>by simp
 | x::l,h=>by
  have h1:=h x (by simp)
  have h2:=Y0h f n l fun y hy=>h y (by simp [hy])
  rw [List.flatMap_cons,List.length_append,List.length_cons,Nat.succ_mul]
  omega
theorem Yei (s:Switch)(hs:SW s)(most:Int):(Zij s (Z3s s most).1 most).length<9223372036854775807:=by
 have h1:(Zij s (Z3s s most).1 most).length≤(List.range (Z3s s most).1.length).length*10:=Y0h _ 10 _ fun j _=>(Yz2 s Z6c _ hs.lt hs.G).2
 have hl:=Zsu most (Z4l s) []
 have h2:=hs.len
 have h3:(Z3s s most).1.length≤0+(Z4l s).length:=hl.1
 rw [List.length_range] at h1
 omega
theorem Yyi (s:Switch)(hs:SW s)(most:Int)(h:Header){p:Place}(hp:p∈Zis s h):p∉(Zdn s most).1:=fun hd=>by
 rcases Y3f s most with h0 | h0
 ·have ha:Z99 s most=(Z7r [] (Zij s (Z3s s most).1 most),0):=by unfold Z99;rw [decide_eq_false (by omega),cond_false]
  unfold Zdn at hd
  rw [ha,decide_eq_false (by simp),cond_false] at hd
  have hz:=Y4x _ _ hd
  have e:Z3s s most=((Z3s s most).1,0):=by rw [←h0]
  obtain ⟨j,hj,hpath⟩:=Yof s most e h
  rw [Yyy (Yei s hs most)] at hz
  have hmem:p∈Zij s (Z3s s most).1 most:=by
   unfold Zij
   refine List.mem_flatMap.2 ⟨j,List.mem_range.2 hj,?_⟩
   rw [Y9o hj,←hpath];exact hp
  have:=List.count_pos_iff.2 hmem
  omega
 ·have ha:Z99 s most=([],5):=by unfold Z99;rw [h0];rfl
  unfold Zdn at hd
  rw [ha] at hd;cases hd
theorem Yrw (s:List Place)(v:Place):Zmp s v=some (s.contains v):=by
 unfold Zmp Zs8
 rw [show ((s.length:Int)).toNat=s.length by omega]
 rw [Zde (f:=fun x=>some (decide (v=x))) (s:=s) (G:=Zbt s v) (fun x=>decide (v=x)) (fun i=>by rw [Zbt]) (fun m i=>by rw [Zbt];rfl) (fun _ _=>rfl),Option.bind_some,Za3]
 congr 1
 rw [Bool.eq_iff_iff,List.any_eq_true,List.contains_iff_mem]
 simp
theorem Yti (s:List Place)(f:Place→Option Bool)(p:Place→Bool)(hf:∀x∈s,f x=some (p x)):Zlx s f=some (s.any p):=by
 unfold Zlx Zps
 rw [show ((s.length:Int)).toNat=s.length by omega]
 rw [Zde (f:=f) (s:=s) (G:=Zd9 s f) p (fun i=>by rw [Zd9]) (fun m i=>by rw [Zd9]) hf,Option.bind_some,Za3]
set_option maxRecDepth 100000 in
theorem Yn9:Zkn=some true:=by decide+kernel
theorem Yrn (s:Switch)(most:Int)(h:Header)(hm:most≤9223372036854775807):Zh3 s most h=some true:=by
 unfold Zh3
 rw [Yhu,Option.bind_some,Yn9]
 cases hl:Znm s most
 ·rfl
 ·have hs:=Yos hl
  rw [Bool.not_true,cond_false,Ycl s hs most hm,Option.bind_some,Yc1 s h hs.lt hs.G,Option.bind_some]
  rw [Yti _ _ (fun p=>(Zdn s most).1.contains p) (fun p _=>by unfold Zll;rw [Yrw];rfl)]
  have:(List.any (Zo7 s Z6c h).2 fun p=>(Zdn s most).1.contains p)=false:=by
   rw [List.any_eq_false]
   intro p hp hc
   exact Yyi s hs most h (p:=p) hp (List.contains_iff_mem.1 hc)
  rw [this];rfl
theorem Ycr {W:World}{H M:HS}{v:Value}(s:Switch)(most:Int)(x:Header)(h:(rd (Z0 .i64) most).R W H M v):Zh3 s most x=some true:=Yrn s most x (Z0w h).2.2
end Go.Proofs.YtinplddjjalohaaGreatDoor.W
