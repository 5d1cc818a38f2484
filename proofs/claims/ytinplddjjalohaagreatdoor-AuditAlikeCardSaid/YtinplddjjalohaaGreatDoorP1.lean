/- A part of the proof. -/
import Derived.Test.YtinplddjjalohaaGreatDoorP0
set_option linter.unusedVariables false
set_option linter.unusedSimpArgs false
namespace Go.Proofs.YtinplddjjalohaaGreatDoor.W
open Go Go.Wb
def Zow (t:List Flow)(i:Int):Int:=match t[i.toNat]? with
 | some f=>f.Priority
 | none=>0
def ltP (t:List Flow)(i j:Int):Bool:=decide (Zow t i>Zow t j)
theorem Zy3 (t:List Flow):Swo (ltP t) where
 asym:=fun a b h=>by
  unfold ltP at*
  rw [decide_eq_true_eq] at h
  rw [decide_eq_false_iff_not];omega
 neg:=fun a b c h k=>by
  unfold ltP at*
  rw [decide_eq_false_iff_not] at*;omega
def places (n:Nat):List Int:=(List.range n).map fun (i:Nat)=>(i:Int)
theorem Zxr {n:Nat}{i:Int}:i∈places n↔ ∃k:Nat,k<n∧i=(k:Int):=by
 unfold places
 simp only [List.mem_map,List.mem_range]
 exact ⟨fun ⟨k,h1,h2⟩=>⟨k,h1,h2.symm⟩,fun ⟨k,h1,h2⟩=>⟨k,h1,h2.symm⟩⟩
def Z5l (t:List Flow):List Int:=srt (ltP t) (places t.length)
theorem Zlt {t:List Flow}{i:Int}:i∈Z5l t↔ ∃k:Nat,k<t.length∧i=(k:Int):=by
 unfold Z5l
 rw [Y7d (Zy3 t),Zxr]
theorem Y3g (t:List Flow):(Z5l t).length=t.length:=by
 unfold Z5l
 rw [Z3d (Zy3 t)];simp [places]
theorem Zha {t:List Flow}{k:Nat}(h:k<t.length):Zow t (k:Int)=t[k].Priority:=by
 unfold Zow
 rw [Int.toNat_natCast,List.getElem?_eq_getElem h]
theorem Yit (t:List Flow):Zks (ltP t) (fun x z=>Zgi x z t) (places t.length):=fun x hx y hy=>by
 obtain ⟨i,hi,rfl⟩:=Zxr.1 hx
 obtain ⟨j,hj,rfl⟩:=Zxr.1 hy
 unfold Zgi ltP
 dsimp only
 rw [Z28 hi,Option.bind_some,Z28 hj,Option.bind_some,Zha hi,Zha hj,Option.bind_some,Option.bind_some]
 by_cases h1:t[i].Priority>t[j].Priority
 ·rw [decide_eq_true h1,cond_true];exact ⟨_,rfl,rfl⟩
 ·rw [decide_eq_false h1,cond_false]
  by_cases h2:t[i].Priority<t[j].Priority
  ·rw [decide_eq_true h2,cond_true];exact ⟨_,rfl,rfl⟩
  ·rw [decide_eq_false h2,cond_false];exact ⟨_,rfl,rfl⟩
theorem Y2t (t:List Flow)(ht:t.length<20):∀(m i:Nat),i+m=t.length→Zc3 t m i (places i)=some (Z5l t)
 | 0,i,h=>by
  have:i=t.length:=by omega
  subst this
  rw [Zc3,Ymr _ (Yit t) (by simpa [places] using ht)];rfl
 | m+1,i,h=>by
  have hlim:lim=4294967296:=rfl
  have e:places i++[(i:Int)]=places (i+1):=by unfold places;rw [List.range_succ,List.map_append];rfl
  rw [Zc3,Z1h (by simp [places];omega),Option.bind_some,e]
  exact Y2t t ht m (i+1) (by omega)
theorem Yxl (n:Nat)(h:n≤lim):omk (n:Int)=some ():=by
 unfold omk
 rw [decide_eq_false (by omega),decide_eq_false (by omega)];rfl
theorem Y6e (t:List Flow)(ht:t.length<20):Zhw t=some (Z5l t):=by
 have hlim:lim=4294967296:=rfl
 unfold Zhw
 rw [Yxl _ (by omega),Option.bind_some,show ((t.length:Int)).toNat=t.length by omega]
 exact Y2t t ht t.length 0 (by omega)
def Zsi (w:walk_way)(l:List Action):walk_way:={w with atoms:=w.atoms++(doT l (Z1w w.got)).1,got:=(doT l (Z1w w.got)).2}
theorem Yjd {α:Type}(l:List α):Z45 l (l.length:Int)=some l:=by
 unfold Z45
 simp [Nat.ble_eq_true_of_le (Nat.le_refl _)]
theorem Zfs (l:List Action):Z42 l≤l.length:=List.countP_le_length
theorem Y32 (w:walk_way)(l:List Action)(h:w.atoms.length+l.length≤100000):Zdv w l=some (Zsi w l):=by
 have hlim:lim=4294967296:=rfl
 have h1:=Zfs l
 unfold Zdv
 rw [Yrm l w.got (by omega),Option.bind_some,Yjd,Option.bind_some,Z1h (by rw [Zi9];omega),Option.bind_some];rfl
def Z7w (w:walk_way)(f:Flow):Option walk_way:=(Z7j w.got (Z8q f)).bind fun b=>(Z6a b w.cube).map fun c=>{w with cube:=c}
theorem Ynk (w:walk_way)(f:Flow):∃z,Zne w f=some (Z1u z (Z7w w f)):=by
 unfold Zne Z7w
 rw [Y7b,Option.bind_some,Ydv,Option.bind_some]
 cases Z7j w.got (Z8q f) with
 | none=>exact ⟨_,rfl⟩
 | some b=>
  show ∃z,(Zb9 b w.cube).bind _=some (Z1u z ((Z6a b w.cube).map _))
  rw [Zxl,Option.bind_some]
  cases Z6a b w.cube with
  | none=>exact ⟨_,rfl⟩
  | some c=>exact ⟨w,rfl⟩
def Z54 (w:walk_way)(l:List Inst):walk_way:=match ofI l 4 with
 | some i=>Zsi w i.Acts
 | none=>w
def Z4e (w:walk_way)(l:List Inst):walk_way:=match ofI l 5 with
 | some _=>{w with set:=[]}
 | none=>w
def Z3w (w:walk_way)(l:List Inst):walk_way:=match ofI l 3 with
 | some i=>{w with set:=i.Acts.foldl wr1 w.set}
 | none=>w
def Z3t (w:walk_way)(l:List Inst):walk_way:=match ofI l 2 with
 | some i=>{w with got:=Z8x w.got 1 i.Value i.Mask}
 | none=>w
def wdo (w:walk_way)(l:List Inst):walk_way:=Z3t (Z3w (Z4e (Z54 w l) l) l) l
def Z26 (at_:Nat)(l:List Inst):Option Nat:=match ofI l 1 with
 | some i=>if i.Table>(at_:Int)∧i.Table<4 then some i.Table.toNat else none
 | none=>none
theorem Zse {at_:Nat}{l:List Inst}{i:Inst}(h:ofI l 1=some i)(hc:i.Table>(at_:Int)∧i.Table<4):Z26 at_ l=some i.Table.toNat:=by
 unfold Z26;rw [h];exact if_pos hc
theorem Zul {at_:Nat}{l:List Inst}{i:Inst}(h:ofI l 1=some i)(hc:¬(i.Table>(at_:Int)∧i.Table<4)):Z26 at_ l=none:=by
 unfold Z26;rw [h];exact if_neg hc
theorem Zx1 {at_:Nat}{l:List Inst}(h:ofI l 1=none):Z26 at_ l=none:=by
 unfold Z26;rw [h]
theorem Zgl {at_ n:Nat}{l:List Inst}(h:Z26 at_ l=some n):at_<n∧n<4:=by
 unfold Z26 at h
 split at h
 ·split at h
  ·cases h;omega
  ·cases h
 ·cases h
def Z4v (w:walk_way):walk_way:=Zsi w (Z4t w.set)
def Z69 (l:List Inst):Prop:= ∀i∈l,i.Acts.length≤12
theorem Ztb (w:walk_way){l:List Inst}(hl:Z69 l):(Z54 w l).atoms.length≤w.atoms.length+12∧(Z54 w l).set=w.set∧(Z54 w l).cube=w.cube:=by
 unfold Z54
 split
 ·rename_i i hi
  have h1:=hl i (Z8w hi)
  have h2:=Zfs i.Acts
  refine ⟨?_,rfl,rfl⟩
  show (w.atoms++_).length≤_
  rw [List.length_append,Zi9];omega
 ·exact ⟨by omega,rfl,rfl⟩
theorem Zja (w:walk_way)(l:List Inst):(Z4e w l).atoms=w.atoms∧(Z4e w l).set.length≤w.set.length∧(Z4e w l).cube=w.cube:=by
 unfold Z4e
 split
 ·exact ⟨rfl,by simp,rfl⟩
 ·exact ⟨rfl,by omega,rfl⟩
theorem Zkx (w:walk_way){l:List Inst}(hl:Z69 l):(Z3w w l).atoms=w.atoms∧(Z3w w l).set.length≤w.set.length+12∧(Z3w w l).cube=w.cube:=by
 unfold Z3w
 split
 ·rename_i i hi
  have h1:=hl i (Z8w hi)
  have h2:=Zq3 i.Acts w.set
  exact ⟨rfl,by show (i.Acts.foldl wr1 w.set).length≤_;omega,rfl⟩
 ·exact ⟨rfl,by omega,rfl⟩
theorem Zso (w:walk_way)(l:List Inst):(Z3t w l).atoms=w.atoms∧(Z3t w l).set=w.set∧(Z3t w l).cube=w.cube:=by
 unfold Z3t
 split
 ·exact ⟨rfl,rfl,rfl⟩
 ·exact ⟨rfl,rfl,rfl⟩
theorem Zpz (w:walk_way){l:List Inst}(hl:Z69 l):(wdo w l).atoms.length≤w.atoms.length+12∧(wdo w l).set.length≤w.set.length+12∧(wdo w l).cube=w.cube:=by
 have h1:=Ztb w hl
 have h2:=Zja (Z54 w l) l
 have h3:=Zkx (Z4e (Z54 w l) l) hl
 have h4:=Zso (Z3w (Z4e (Z54 w l) l) l) l
 unfold wdo
 refine ⟨?_,?_,?_⟩
 ·rw [h4.1,h3.1,h2.1];exact h1.1
 ·rw [h4.2.1]
  have:=h3.2.1
  have:=h2.2.1
  rw [h1.2.1] at this
  omega
 ·rw [h4.2.2,h3.2.2,h2.2.2,h1.2.2]
theorem Yin (w:walk_way)(at_:Nat)(l:List Inst)(hl:Z69 l)(ha:w.atoms.length≤1000)(hs:w.set.length≤1000):
  Zn9 w (at_:Int) l=some (match Z26 at_ l with | some n=>(wdo w l,(n:Int),true) | none=>(Z4v (wdo w l),0,false)):=by
 have hlim:lim=4294967296:=rfl
 have b1:=Ztb w hl
 have b2:=Zja (Z54 w l) l
 have b3:=Zkx (Z4e (Z54 w l) l) hl
 have b4:=Zpz w hl
 have j4:∀b:walk_way,b.atoms.length≤2000→b.set.length≤2000→Zhq l (at_:Int) b=some (match Z26 at_ l with | some n=>(b,(n:Int),true) | none=>(Z4v b,0,false)):=fun b h1 h2=>by
  unfold Zhq
  rw [Z85 l 1 hl,Option.bind_some]
  have hend:((Z89 b.set).bind fun x12=>(Zdv b x12).bind fun x13=>some (x13,(0:Int),false))=some (Z4v b,0,false):=by
   have:=Zmy b.set
   rw [Yb1 _ (by omega),Option.bind_some,Y32 b _ (by omega)];rfl
  cases hi:ofI l 1 with
  | none=>rw [Zx1 hi];exact hend
  | some i=>
   show (bif ((true&&decide (i.Table>(at_:Int)))&&decide (i.Table<4)) then some (b,i.Table,true) else _)=_
   rw [Bool.true_and]
   by_cases hc:i.Table>(at_:Int)∧i.Table<4
   ·have hd:(decide (i.Table>(at_:Int))&&decide (i.Table<4))=true:=by
     rw [Bool.and_eq_true,decide_eq_true_eq,decide_eq_true_eq];exact hc
    have:((i.Table.toNat:Nat):Int)=i.Table:=by omega
    rw [Zse hi hc,hd,cond_true]
    simp [this]
   ·have hd:(decide (i.Table>(at_:Int))&&decide (i.Table<4))=false:=by
     rw [Bool.and_eq_false_iff,decide_eq_false_iff_not,decide_eq_false_iff_not];omega
    rw [Zul hi hc,hd,cond_false]
    exact hend
 have j3:∀b:walk_way,b.atoms.length≤2000→b.set.length≤2000→Zh8 l (at_:Int) b=some (match Z26 at_ l with | some n=>(Z3t b l,(n:Int),true) | none=>(Z4v (Z3t b l),0,false)):=fun b h1 h2=>by
  have b5:=Zso b l
  unfold Zh8
  rw [Z85 l 2 hl,Option.bind_some,←j4 (Z3t b l) (by rw [b5.1];omega) (by rw [b5.2.1];omega)]
  unfold Z3t
  cases hi:ofI l 2 with
  | none=>rfl
  | some i=>
   simp only [Z1u,cond_true]
   rw [Zgx];rfl
 have j2:∀b:walk_way,b.atoms.length≤1500→b.set.length≤1500→Ziu l (at_:Int) b=some (match Z26 at_ l with | some n=>(Z3t (Z3w b l) l,(n:Int),true) | none=>(Z4v (Z3t (Z3w b l) l),0,false)):=fun b h1 h2=>by
  have b5:=Zkx b hl
  unfold Ziu
  rw [Z85 l 3 hl,Option.bind_some,←j3 (Z3w b l) (by rw [b5.1];omega) (by have:=b5.2.1;omega)]
  unfold Z3w
  cases hi:ofI l 3 with
  | none=>rfl
  | some i=>
   have:=hl i (Z8w hi)
   simp only [Z1u,cond_true]
   rw [Zyv _ _ (by omega)];rfl
 have j1:∀b:walk_way,b.atoms.length≤1500→b.set.length≤1500→Zgp l (at_:Int) b=some (match Z26 at_ l with | some n=>(Z3t (Z3w (Z4e b l) l) l,(n:Int),true) | none=>(Z4v (Z3t (Z3w (Z4e b l) l) l),0,false)):=fun b h1 h2=>by
  have b5:=Zja b l
  unfold Zgp
  rw [Z85 l 5 hl,Option.bind_some,←j2 (Z4e b l) (by rw [b5.1];omega) (by have:=b5.2.1;omega)]
  unfold Z4e
  cases hi:ofI l 5 with
  | none=>rfl
  | some i=>rfl
 unfold Zn9
 rw [Z85 l 4 hl,Option.bind_some]
 have:=j1 (Z54 w l) (by omega) (by rw [b1.2.1];omega)
 unfold wdo
 rw [←this]
 unfold Z54
 cases hi:ofI l 4 with
 | none=>rfl
 | some i=>
  have:=hl i (Z8w hi)
  simp only [Z1u,cond_true]
  rw [Y32 w _ (by omega)];rfl
def Z0e (s:Switch)(i:Nat):List Flow:=if h:i<4 then Vector.get s.Tables ⟨i,h⟩ else []
theorem Zay (s:Switch)(i:Nat)(h:i<4):Vector.get s.Tables ⟨i,h⟩=Z0e s i:=by unfold Z0e;rw [dif_pos h]
def Z4g (w:walk_way):Rule:=⟨w.cube,w.atoms⟩
def Z7g (R:Nat→walk_way→List Rule)(t:List Flow)(at_:Nat)(w:walk_way)(i:Int):List Rule:=match t[i.toNat]? with
 | none=>[]
 | some f=>match Z7w w f with
  | none=>[]
  | some x=>match Z26 at_ f.Insts with
   | some n=>R n (wdo x f.Insts)
   | none=>[Z4g (Z4v (wdo x f.Insts))]
def Z4z (s:Switch):Nat→Nat→walk_way→List Rule
 | 0,_,w=>[Z4g w]
 | d+1,at_,w=>(Z5l (Z0e s at_)).flatMap (Z7g (Z4z s d) (Z0e s at_) at_ w)++[Z4g w]
def Y8f (t:List Flow):Prop:=t.length<20∧∀f∈t,Z69 f.Insts
def Z6g (s:Switch):Prop:= ∀i,i<4→Y8f (Z0e s i)
def Z59 (at_:Nat)(w:walk_way):Prop:=w.atoms.length≤12*at_∧w.set.length≤12*at_
theorem Y34 (w:walk_way)(h:w.atoms.length≤100000):Zfd w=some (Z4g w):=by
 have hlim:lim=4294967296:=rfl
 unfold Zfd Zds
 rw [Z1h (by simp;omega)];rfl
theorem Zym {w x:walk_way}{f:Flow}(h:Z7w w f=some x):x.atoms=w.atoms∧x.set=w.set:=by
 unfold Z7w at h
 obtain ⟨b,h1,h2⟩:=Option.bind_eq_some_iff.1 h
 obtain ⟨c,h3,h4⟩:=Option.map_eq_some_iff.1 h2
 subst h4
 exact ⟨rfl,rfl⟩
theorem Y85 (w:walk_way):(Z4v w).atoms.length≤w.atoms.length+w.set.length:=by
 have h1:=Zmy w.set
 have h2:=Zfs (Z4t w.set)
 show (w.atoms++_).length≤_
 rw [List.length_append,Zi9];omega
def goP {σ:Type}(r:Lp σ):Bool×Lp σ:=(r.isGo,r)
theorem Y0k (sg:Type)(y:sg→Rule→Option (Lp sg))(s:Switch)(at_:Nat)(ha:at_<4)(hs:Y8f (Z0e s at_))(w:walk_way)(hw:Z59 at_ w)(R:Lp sg→Switch→Int→walk_way→Option (Bool×Lp sg))(Rm:Nat→walk_way→List Rule)
  (hR:∀(n:Nat) (x:walk_way) (z:sg),at_<n→n<4→Z59 n x→R (.go z) s (n:Int) x=(yf y (Rm n x) z).map goP):
  ∀(l:List Int) (i:Nat) (z:sg),(∀j∈l,∃k:Nat,k<(Z0e s at_).length∧j=(k:Int))→Z7a sg w y (at_:Int) s R l i (.go z)=(yf y (l.flatMap (Z7g Rm (Z0e s at_) at_ w)++[Z4g w]) z).map goP
 | [],i,z,_=>by
  rw [Z7a,Y34 w (by have:=hw.1;omega),Option.bind_some]
  show (y z (Z4g w)).bind _=_
  rw [List.flatMap_nil,List.nil_append,yf]
  cases y z (Z4g w) with
  | none=>rfl
  | some r=>cases r<;>rfl
 | j::l,i,z,hl=>by
  obtain ⟨k,hk,rfl⟩:=hl j (by simp)
  have ih:=fun z=>Y0k sg y s at_ ha hs w hw R Rm hR l (i+1) z fun j hj=>hl j (by simp [hj])
  have tail:∀(L:List Rule),((yf y L z).map goP).bind (fun b24=>Znl sg (Z7a sg w y (at_:Int) s R l) i b24.2 b24.1)=(yf y (L++(l.flatMap (Z7g Rm (Z0e s at_) at_ w)++[Z4g w])) z).map goP:=fun L=>by
   rw [Zxh]
   cases yf y L z with
   | none=>rfl
   | some r=>
    cases r with
    | out c q=>rfl
    | go q=>exact ih q
  rw [Z7a,Z2h ha,Option.bind_some,Zay,Z28 hk,Option.bind_some,List.flatMap_cons,List.append_assoc]
  have hf:=hs.2 _ (List.getElem_mem hk)
  have hrule:Z7g Rm (Z0e s at_) at_ w (k:Int)=match Z7w w (Z0e s at_)[k] with
    | none=>[]
    | some x=>match Z26 at_ (Z0e s at_)[k].Insts with
     | some n=>Rm n (wdo x (Z0e s at_)[k].Insts)
     | none=>[Z4g (Z4v (wdo x (Z0e s at_)[k].Insts))]:=by
   unfold Z7g
   rw [Int.toNat_natCast,List.getElem?_eq_getElem hk]
  obtain ⟨zz,hz⟩:=Ynk w (Z0e s at_)[k]
  rw [hrule,hz,Option.bind_some]
  cases hm:Z7w w (Z0e s at_)[k] with
  | none=>exact ih z
  | some x=>
   have hx:=Zym hm
   have hwx:Z59 at_ x:=by unfold Z59;rw [hx.1,hx.2];exact hw
   have hd:=Zpz x hf
   simp only [Z1u,Bool.not_true,cond_false]
   rw [Yin x at_ _ hf (by have:=hwx.1;omega) (by have:=hwx.2;omega),Option.bind_some]
   cases hn:Z26 at_ (Z0e s at_)[k].Insts with
   | some n=>
    have hnb:=Zgl hn
    simp only [cond_true]
    rw [hR n _ z hnb.1 hnb.2 ⟨by have:=hwx.1;have:=hd.1;omega,by have:=hwx.2;have:=hd.2.1;omega⟩]
    exact tail _
   | none=>
    simp only [cond_false]
    have he:=Y85 (wdo x (Z0e s at_)[k].Insts)
    rw [Y34 _ (by have:=hwx.1;have:=hwx.2;have:=hd.1;have:=hd.2.1;omega),Option.bind_some,←tail]
    show (y z (Z4g _)).bind _=_
    rw [yf]
    cases y z (Z4g (Z4v (wdo x (Z0e s at_)[k].Insts))) with
    | none=>rfl
    | some r=>cases r<;>rfl
theorem Y7o (sg:Type)(y:sg→Rule→Option (Lp sg))(s:Switch)(hs:Z6g s):∀(d f at_:Nat) (w:walk_way) (z:sg),4≤at_+d→at_<4→d≤f→Z59 at_ w→
  Zdd sg y f (.go z) s (at_:Int) w=(yf y (Z4z s d at_ w) z).map goP
 | 0,f,at_,w,z,h0,h1,_,_=>by omega
 | d+1,0,at_,w,z,_,_,h2,_=>by omega
 | d+1,f+1,at_,w,z,h1,ha,h2,hw=>by
  have hl:=hs at_ ha
  show Znp sg y (Zdd sg y f) (.go z) s (at_:Int) w=_
  unfold Znp
  rw [Z2h ha,Option.bind_some,Zay,Y6e _ hl.1,Option.bind_some,Z4z]
  exact Y0k sg y s at_ ha hl w hw _ (Z4z s d) (fun n x q h3 h4 h5=>Y7o sg y s hs d f n x q (by omega) h4 (by omega) h5) _ 0 z fun j hj=>Zlt.1 hj
def way0:walk_way:=⟨Z2p,Z2p,[],[]⟩
def Z43 (s:Switch):List Rule:=Z4z s 4 0 way0
theorem Yrg (sg:Type)(y:sg→Rule→Option (Lp sg))(s:Switch)(hs:Z6g s)(z:sg):Zen sg y (.go z) s=yf y (Z43 s) z:=by
 unfold Zen Zh0 Zc7 Zwb
 rw [Option.bind_some,Option.bind_some]
 have:=Y7o sg y s hs 4 Z0s 0 way0 z (by omega) (by omega) (by unfold Z0s;omega) ⟨by simp [way0],by simp [way0]⟩
 show (Zdd sg y Z0s (.go z) s ((0:Nat):Int) way0).bind _=_
 rw [this]
 show _=yf y (Z4z s 4 0 way0) z
 cases yf y (Z4z s 4 0 way0) z<;>rfl
def Z65 (s:Switch):Nat→Nat→Nat
 | 0,_=>1
 | d+1,at_=>((Z0e s at_).length+1)*Z65 s d (at_+1)
theorem Y72 (s:Switch):∀(d at_:Nat),1≤Z65 s d at_
 | 0,_=>Nat.le_refl _
 | d+1,at_=>Nat.le_trans (Y72 s d (at_+1)) (Nat.le_mul_of_pos_left _ (by omega))
theorem Zty (s:Switch):∀(d at_ n:Nat),at_+d=4→at_≤n→n≤4→Z65 s (4 - n) n≤Z65 s d at_
 | 0,at_,n,h1,h2,h3=>by
  have:n=4:=by omega
  subst this
  exact Nat.le_refl _
 | d+1,at_,n,h1,h2,h3=>by
  by_cases e:n=at_
  ·subst e
   have:4 - n=d+1:=by omega
   rw [this];exact Nat.le_refl _
  ·rw [Z65]
   exact Nat.le_trans (Zty s d (at_+1) n (by omega) (by omega) h3) (Nat.le_mul_of_pos_left _ (by omega))
theorem Y9p {α β:Type}(f:α→List β)(k:Nat):∀l:List α,(∀x∈l,(f x).length≤k)→(l.flatMap f).length≤l.length*k
 | [],_=>by simp
 | x::l,h=>by
  rw [List.flatMap_cons,List.length_append,List.length_cons,Nat.add_mul,Nat.one_mul]
  have h1:=h x (by simp)
  have h2:=Y9p f k l fun y hy=>h y (by simp [hy])
  omega
theorem Zwa (s:Switch):∀(d at_:Nat) (w:walk_way),4≤at_+d→at_<4→(Z4z s d at_ w).length≤Z65 s (4 - at_) at_
 | 0,at_,w,h,h'=>by omega
 | d+1,at_,w,h,h'=>by
  have e:4 - at_=(4 - (at_+1))+1:=by omega
  rw [Z4z,List.length_append,List.length_singleton,e,Z65,Nat.add_mul,Nat.one_mul]
  have h1:=Y72 s (4 - (at_+1)) (at_+1)
  have h2:=Y9p (Z7g (Z4z s d) (Z0e s at_) at_ w) (Z65 s (4 - (at_+1)) (at_+1)) (Z5l (Z0e s at_)) fun i hi=>by
   unfold Z7g
   split
   ·simp
   ·split
    ·simp
    ·split
     ·rename_i n hn
      have hb:=Zgl hn
      refine Nat.le_trans (Zwa s d n _ (by omega) hb.2) ?_
      exact Zty s (4 - (at_+1)) (at_+1) n (by omega) (by omega) (by omega)
     ·simpa using h1
  rw [Y3g] at h2
  omega
theorem Y3x (s:Switch):(Z43 s).length≤Z65 s 4 0:=Zwa s 4 0 way0 (by omega) (by omega)
theorem Ync (s:Switch)(hs:Z6g s)(h:Z65 s 4 0≤lim):Zga s=some (Z43 s):=by
 unfold Zga Zrd Zry Zr9
 rw [Option.bind_some,Yki (Z43 s) _ (fun y z=>Yrg _ y s hs z) (Nat.le_trans (Y3x s) h)]
 rfl
end Go.Proofs.YtinplddjjalohaaGreatDoor.W
namespace Go.Proofs.YtinplddjjalohaaGreatDoor.W
open Go Go.Wb
def Zjd (l:List Inst):Bool:=decide ((l.length:Int)≤8)&& !(l.any fun i=> !decide ((i.Acts.length:Int)≤12))
theorem Yo5 (s:List Inst)(f:Inst→Option Bool)(p:Inst→Bool)(hf:∀x∈s,f x=some (p x)):Zjt s f=some (s.any p):=by
 unfold Zjt;rw [Ya6 s f p hf,Option.bind_some,Zc6]
theorem Yjy (l:List Inst):Znw l=some (Zjd l):=by
 unfold Znw Zjd
 rw [Yo5 l Zom (fun i=> !decide ((i.Acts.length:Int)≤12)) (fun x _=>rfl)]
 cases decide ((l.length:Int)≤8)<;>rfl
def Zeb (f:Flow):Bool:=decide ((f.Match.length:Int)≤30)&&Zjd f.Insts
theorem Y5w (f:Flow):Zhd f=some (Zeb f):=by
 unfold Zhd Zeb
 rw [Yjy]
 cases decide ((f.Match.length:Int)≤30)<;>rfl
theorem Yv4 (s:List Flow)(f:Flow→Option Bool)(p:Flow→Bool)(hf:∀x∈s,f x=some (p x)):Zkz s f=some (Z0f p s):=by
 unfold Zkz
 rw [show ((s.length:Int)).toNat=s.length by omega]
 exact Zcx p (fun i=>by rw [Zda]) (fun m i=>by rw [Zda]) hf
theorem Yir (s:List Flow)(f:Flow→Option Bool)(p:Flow→Bool)(hf:∀x∈s,f x=some (p x)):Zmv s f=some (s.any p):=by
 unfold Zmv;rw [Yv4 s f p hf,Option.bind_some,Zc6]
def Zeo (t:List Flow)(many:Int):Bool:=decide ((t.length:Int)≤many)&& !(t.any fun f=> !Zeb f)
theorem Yiy (t:List Flow)(many:Int):Zm2 t many=some (Zeo t many):=by
 unfold Zm2 Zeo
 rw [Yir t Zn3 (fun f=> !Zeb f) (fun f _=>by unfold Zn3;rw [Y5w];rfl)]
 cases decide ((t.length:Int)≤many)<;>rfl
def Z8o (s:Switch)(many:Int):Bool:=(Vector.toList s.Tables).all (fun t=>Zeo t many)&&Zfv s.Groups 9 3
theorem Zz8 (s:Switch)(many:Int):∀(l:List (List Flow)) (i:Nat),Zb2 s many l i=some (l.all (fun t=>Zeo t many)&&Zfv s.Groups 9 3)
 | [],i=>by rw [Zb2,Ymv];rfl
 | t::l,i=>by
  rw [Zb2,Yiy,Option.bind_some,Zz8 s many l (i+1),List.all_cons]
  cases Zeo t many<;>rfl
theorem Yac (s:Switch)(many:Int):Znj s many=some (Z8o s many):=Zz8 s many _ 0
theorem Yul (s:Switch)(i:Nat)(h:i<4):Z0e s i=(Vector.toList s.Tables)[i]'(by simp;exact h):=by
 rw [←Zay s i h,Vector.getElem_toList];rfl
theorem Yff (s:Switch)(i:Nat)(h:i<4):Z0e s i∈Vector.toList s.Tables:=by
 rw [Yul s i h];exact List.getElem_mem _
theorem Yox {l:List Inst}(h:Zjd l=true):l.length≤8∧Z69 l:=by
 unfold Zjd at h
 simp only [Bool.and_eq_true,decide_eq_true_eq,Bool.not_eq_true',List.any_eq_false] at h
 refine ⟨by omega,fun i hi=>?_⟩
 have h1:decide ((i.Acts.length:Int)≤12)=true:=by simpa using h.2 i hi
 rw [decide_eq_true_eq] at h1
 omega
theorem Yo7 {f:Flow}(h:Zeb f=true):f.Match.length≤30∧f.Insts.length≤8∧Z69 f.Insts:=by
 unfold Zeb at h
 rw [Bool.and_eq_true,decide_eq_true_eq] at h
 exact ⟨by omega,Yox h.2⟩
theorem Yuy {t:List Flow}{many:Nat}(h:Zeo t (many:Int)=true):t.length≤many∧∀f∈t,f.Match.length≤30∧f.Insts.length≤8∧Z69 f.Insts:=by
 unfold Zeo at h
 simp only [Bool.and_eq_true,decide_eq_true_eq,Bool.not_eq_true',List.any_eq_false] at h
 exact ⟨by omega,fun f hf=>Yo7 (by simpa using h.2 f hf)⟩
theorem Zii {s:Switch}{many:Nat}(h:Z8o s (many:Int)=true):(∀i,i<4→(Z0e s i).length≤many∧∀f∈Z0e s i,f.Match.length≤30∧f.Insts.length≤8∧Z69 f.Insts)∧Z6l s.Groups:=by
 unfold Z8o at h
 rw [Bool.and_eq_true,List.all_eq_true] at h
 exact ⟨fun i hi=>Yuy (h.1 _ (Yff s i hi)),Yex h.2⟩
theorem Yh9 {s:Switch}{many:Nat}(h:Z8o s (many:Int)=true)(hm:many<20):Z6g s:=fun i hi=>⟨by have:=((Zii h).1 i hi).1;omega,fun f hf=>(((Zii h).1 i hi).2 f hf).2.2⟩
theorem Yv5 (s:Switch)(m:Nat)(h:∀i,i<4→(Z0e s i).length≤m):Z65 s 4 0≤(m+1)*((m+1)*((m+1)*((m+1)*1))):=by
 show ((Z0e s 0).length+1)*(((Z0e s 1).length+1)*(((Z0e s 2).length+1)*(((Z0e s 3).length+1)*1)))≤_
 have h0:=h 0 (by omega)
 have h1:=h 1 (by omega)
 have h2:=h 2 (by omega)
 have h3:=h 3 (by omega)
 exact Nat.mul_le_mul (by omega) (Nat.mul_le_mul (by omega) (Nat.mul_le_mul (by omega) (Nat.mul_le_mul (by omega) (Nat.le_refl _))))
end Go.Proofs.YtinplddjjalohaaGreatDoor.W
namespace Go.Proofs.YtinplddjjalohaaGreatDoor.W
open Go Go.Wb
def Zh2 (t:List Flow)(h:Header)(i:Int):Bool:=match t[i.toNat]? with
 | some f=>Zh4 (Z8q f) h
 | none=>false
theorem Zls {t:List Flow}{h:Header}{k:Nat}(hk:k<t.length):Zh2 t h (k:Int)=Zh4 (Z8q t[k]) h:=by
 unfold Zh2
 rw [Int.toNat_natCast,List.getElem?_eq_getElem hk]
def Z8c (t:List Flow)(h:Header):Option Int:=(Z5l t).find? (Zh2 t h)
theorem Y08 (sg:Type)(t:List Flow)(h:Header)(y:sg→Int→Option (Lp sg)):∀(l:List Int) (i:Nat) (z:sg),(∀j∈l,∃k:Nat,k<t.length∧j=(k:Int))→Zc0 sg t h y l i (.go z)=yf y (l.filter (Zh2 t h)) z
 | [],i,z,_=>rfl
 | j::l,i,z,hl=>by
  obtain ⟨k,hk,rfl⟩:=hl j (by simp)
  have ih:=fun z=>Y08 sg t h y l (i+1) z fun j hj=>hl j (by simp [hj])
  rw [Zc0,Z28 hk,Option.bind_some,Y7b,Option.bind_some,Yvg,Option.bind_some]
  cases hc:Zh4 (Z8q t[k]) h
  ·rw [Bool.not_false,cond_true,List.filter_cons_of_neg (by rw [Zls hk,hc];simp)]
   exact ih z
  ·rw [Bool.not_true,cond_false,List.filter_cons_of_pos (by rw [Zls hk,hc])]
   show (y z (k:Int)).bind _=_
   rw [yf]
   cases y z (k:Int) with
   | none=>rfl
   | some r=>cases r with
    | go q=>exact ih q
    | out c q=>rfl
theorem Yhh (t:List Flow)(h:Header)(ht:t.length<20):Zmb t h=some (Z1u 0 (Z8c t h)):=by
 unfold Zmb Zqw
 rw [Option.bind_some]
 show (Zei (Int×Bool) (fun s x=>Zmn s.1 s.2 x) (.go (0,false)) t h).bind _=_
 unfold Zei
 rw [Y6e t ht,Option.bind_some,Y08 _ t h _ _ _ _ fun j hj=>Zlt.1 hj]
 unfold Z8c
 generalize Z5l t=l
 induction l with
 | nil=>rfl
 | cons j l ih=>
  cases hj:Zh2 t h j
  ·rw [List.filter_cons_of_neg (by simp [hj]),List.find?_cons_of_neg (by simp [hj])];exact ih
  ·rw [List.filter_cons_of_pos hj,List.find?_cons_of_pos hj];rfl
theorem Zxa {t:List Flow}{h:Header}{i:Int}(hf:Z8c t h=some i):∃k:Nat,∃hk:k<t.length,i=(k:Int)∧Zh4 (Z8q t[k]) h=true:=by
 obtain ⟨k,hk,rfl⟩:=Zlt.1 (List.mem_of_find?_eq_some hf)
 have:=List.find?_some hf
 rw [Zls hk] at this
 exact ⟨k,hk,rfl,this⟩
theorem Y7h (l:List Oxm)(hl:l.length≤100000):∀(m i:Nat) (c:Cube),i≤l.length→l.length<i+m→Zcu l m c (i:Int)=some ((l.drop i).foldl Zdn c)
 | 0,i,c,h1,h2=>by omega
 | m+1,i,c,h1,h2=>by
  rw [Zcu]
  by_cases hi:i<l.length
  ·have ih:=fun c=>Y7h l hl m (i+1) c (by omega) (by omega)
   rw [decide_eq_true (by omega),cond_true,Z28 hi,Option.bind_some,inc i (by omega),List.drop_eq_getElem_cons hi,List.foldl_cons]
   unfold Zc8
   rw [Option.bind_some]
   by_cases h:0≤l[i].Field∧l[i].Field<24
   ·obtain ⟨n,hn⟩:∃n:Nat,l[i].Field=(n:Int):=⟨l[i].Field.toNat,by omega⟩
    have hn24:n<24:=by have:=h.2;omega
    have hd:(decide (l[i].Field≥0)&&decide (l[i].Field<24))=true:=by simp;omega
    have hc:chk 24 l[i].Field=some ⟨n,hn24⟩:=by rw [hn];exact Z2h hn24
    rw [hd,cond_true,Option.bind_some,Option.bind_some,Y0z,Option.bind_some,hc,Option.bind_some,Y3h c l[i] n hn hn24]
    exact ih _
   ·have hd:(decide (l[i].Field≥0)&&decide (l[i].Field<24))=false:=by
     rw [Bool.and_eq_false_iff,decide_eq_false_iff_not,decide_eq_false_iff_not];omega
    rw [hd,cond_false,Y01 c l[i] h]
    exact ih _
  ·rw [decide_eq_false (by omega),cond_false,List.drop_of_length_le (by omega)];rfl
theorem Ycq (f:Flow)(hl:f.Match.length≤100000):Zkp f=some (Z8q f):=by
 unfold Zkp Zsb
 have:=Y7h f.Match hl ((((f.Match.length:Int):Int) - 0).toNat+1) 0 Z2p (by omega) (by omega)
 rw [show ((0:Nat):Int)=0 from rfl,List.drop_zero] at this
 show ((Zcu f.Match ((((f.Match.length:Int):Int) - 0).toNat+1) Z2p 0).bind _)=_
 rw [this,Option.bind_some,Yk2];rfl
def inT (t:List Flow)(l:List Int):Prop:= ∀j∈l,∃k:Nat,k<t.length∧j=(k:Int)
theorem Zyg (i:Nat)(hi:i≤50)(go:List Int→Int→Option (List Int))(A:List Int)(hA:A.length≤50):∀(Br S:List Int) (c:Int) (m:Nat),Br.length<m→Br.length≤50→
  Zdm (A.length:Int) go (i:Int) m (A++(Br.reverse++c::S)) ((A.length+Br.length:Nat):Int)=go (A++(i:Int)::(Br.reverse++S)) ((i+1:Nat):Int)
 | [],S,c,m,hm,_=>by
  obtain ⟨m,rfl⟩:∃k,m=k+1:=⟨m - 1,by simp at hm;omega⟩
  have g0:lget (A++c::S) (A.length:Int)=some c:=by
   rw [Z6j,List.getElem?_append_right (Nat.le_refl _)];simp
  have s0:List.set (A++c::S) ((A.length:Int)).toNat (i:Int)=A++(i:Int)::S:=by
   rw [Int.toNat_natCast,List.set_append_right _ _ (Nat.le_refl _)];simp
  rw [Zdm,decide_eq_false (by simp),cond_false]
  simp only [List.reverse_nil,List.nil_append]
  rw [g0,Option.bind_some,s0,inc i (by omega)]
 | b::Br,S,c,m,hm,hb=>by
  simp only [List.length_cons] at hm hb
  obtain ⟨m,rfl⟩:∃k,m=k+1:=⟨m - 1,by omega⟩
  have e0:A++((b::Br).reverse++c::S)=(A++Br.reverse)++b::c::S:=by simp
  have ej:IntKind.i64.wrap (((A.length+(b::Br).length:Nat):Int) - 1)=((A.length+Br.length:Nat):Int):=by rw [Z2r (by simp only [List.length_cons];omega) (by simp only [List.length_cons];omega)];simp only [List.length_cons];omega
  have hlen:(A++Br.reverse).length=A.length+Br.length:=by simp
  have g0:lget ((A++Br.reverse)++b::c::S) ((A.length+Br.length:Nat):Int)=some b:=by
   rw [Z6j,List.getElem?_append_right (by omega),hlen,Nat.sub_self];rfl
  have g1:lget ((A++Br.reverse)++b::c::S) ((A.length+(b::Br).length:Nat):Int)=some c:=by
   rw [Z6j,List.getElem?_append_right (by simp only [List.length_cons];omega),hlen]
   have:A.length+(b::Br).length - (A.length+Br.length)=1:=by simp only [List.length_cons];omega
   rw [this];rfl
  have s1:List.set ((A++Br.reverse)++b::c::S) (((A.length+(b::Br).length:Nat):Int)).toNat b=A++(Br.reverse++b::b::S):=by
   rw [Int.toNat_natCast,List.set_append_right _ _ (by simp only [List.length_cons];omega),hlen]
   have:A.length+(b::Br).length - (A.length+Br.length)=1:=by simp only [List.length_cons];omega
   rw [this];simp
  rw [e0,Zdm,decide_eq_true (by simp only [List.length_cons];omega),cond_true,ej,g0,Option.bind_some,g1,Option.bind_some,s1,Zyg i hi go A hA Br (b::S) b m (by omega) (by omega)]
  simp
theorem Y4i (t:List Flow)(ht:t.length≤50)(i:Nat)(hi:i<t.length)(go:List Int→Int→Option (List Int)):∀(Ar B:List Int) (m:Nat),Ar.length<m→Ar.length+B.length≤50→inT t Ar→
  Zej (Ar.reverse++B) t (i:Int) go m (Ar.length:Int)=go ((Z0t (ltP t) (i:Int) Ar).reverse++B) ((i+1:Nat):Int)
 | [],B,m,hm,hb,_=>by
  have hlim:lim=4294967296:=rfl
  obtain ⟨m,rfl⟩:∃k,m=k+1:=⟨m - 1,by simp at hm;omega⟩
  simp only [List.length_nil,Nat.zero_add] at hb
  rw [Zej,show decide ((([]:List Int).length:Int)>0)=false from rfl]
  simp only [Zpi,Option.bind_some,Bool.false_and,cond_false,List.reverse_nil,List.nil_append]
  rw [Z1h (by simp;omega),Option.bind_some]
  have e1:IntKind.i64.wrap (((B++[(0:Int)]).length:Int) - 1)=((([]:List Int).length+B.reverse.length:Nat):Int):=by rw [Z2r (by simp<;>omega) (by simp<;>omega)];simp
  have:=Zyg i (by omega) go [] (by simp) B.reverse [] (0:Int) ((((([]:List Int).length+B.reverse.length:Nat):Int) - (([]:List Int).length:Int)).toNat+1) (by simp<;>omega) (by simp<;>omega)
  simp only [List.nil_append,List.reverse_reverse,List.append_nil] at this
  rw [e1]
  refine Eq.trans this ?_
  simp [Z0t]
 | y::Ar,B,m,hm,hb,hR=>by
  have hlim:lim=4294967296:=rfl
  obtain ⟨k,hk,rfl⟩:=hR y (by simp)
  simp only [List.length_cons] at hm hb
  obtain ⟨m,rfl⟩:∃k,m=k+1:=⟨m - 1,by omega⟩
  have ej:IntKind.i64.wrap ((((k:Int)::Ar).length:Int) - 1)=(Ar.length:Int):=by rw [Z2r (by simp only [List.length_cons];omega) (by simp only [List.length_cons];omega)];simp only [List.length_cons];omega
  have e0:((k:Int)::Ar).reverse++B=Ar.reverse++(k:Int)::B:=by simp
  have g0:lget (Ar.reverse++(k:Int)::B) (Ar.length:Int)=some (k:Int):=by
   rw [Z6j,List.getElem?_append_right (by simp)];simp
  have elt:decide (t[k].Priority<t[i].Priority)=ltP t (i:Int) (k:Int):=by
   unfold ltP
   rw [Zha hi,Zha hk]
  rw [Zej,decide_eq_true (by simp only [List.length_cons];omega),Z4j,ej,e0,g0,Option.bind_some,Z4j,Z28 hk,Option.bind_some,Z4j,Z28 hi,Option.bind_some,Bool.true_and,Z0t,elt]
  cases ltP t (i:Int) (k:Int)
  ·rw [cond_false,cond_false,Z1h (by simp;omega),Option.bind_some]
   have e1:IntKind.i64.wrap (((Ar.reverse++(k:Int)::B++[(0:Int)]).length:Int) - 1)=((((k:Int)::Ar).reverse.length+B.reverse.length:Nat):Int):=by rw [Z2r (by simp;omega) (by simp;omega)];simp;omega
   have:=Zyg i (by omega) go ((k:Int)::Ar).reverse (by simp;omega) B.reverse [] (0:Int) ((((((k:Int)::Ar).reverse.length+B.reverse.length:Nat):Int) - (((k:Int)::Ar).length:Int)).toNat+1) (by simp;omega) (by simp;omega)
   simp only [List.reverse_reverse,List.append_nil] at this
   rw [e1]
   have e2:Ar.reverse++(k:Int)::B++[(0:Int)]=((k:Int)::Ar).reverse++(B++[(0:Int)]):=by simp
   have e3:((((k:Int)::Ar).length:Int))=((((k:Int)::Ar).reverse.length:Nat):Int):=by simp
   rw [e2]
   rw [e3] at this ⊢
   refine Eq.trans this ?_
   simp
  ·rw [cond_true,cond_true,Y4i t ht i hi go Ar ((k:Int)::B) m (by omega) (by simp only [List.length_cons];omega) fun j hj=>hR j (by simp [hj])]
   simp
theorem Ylz (n i:Nat)(h:i<n):(places n).drop i=(i:Int)::(places n).drop (i+1):=by
 have hl:i<(places n).length:=by simp [places];exact h
 rw [List.drop_eq_getElem_cons hl]
 congr 1
 simp [places]
theorem Y99 (t:List Flow)(hl:t.length≤50):∀(m i:Nat) (R:List Int),i≤t.length→t.length<i+m→R.length≤i→inT t R→Zag t m R.reverse (i:Int)=some ((((places t.length).drop i).foldl (fun R x=>Z0t (ltP t) x R) R).reverse)
 | 0,i,R,h1,h2,h3,_=>by omega
 | m+1,i,R,h1,h2,h3,hR=>by
  rw [Zag]
  by_cases hi:i<t.length
  ·have h4:=Y4i t hl i hi (Zag t m) R [] Z0s (by unfold Z0s;omega) (by simp;omega) hR
   rw [List.append_nil,List.append_nil] at h4
   have e:((R.reverse).length:Int)=(R.length:Int):=by simp
   rw [decide_eq_true (by omega),cond_true,e,h4,Y99 t hl m (i+1) _ (by omega) (by omega) (by rw [Zfj];omega) (fun j hj=>by
    rcases List.mem_cons.1 ((Zlv (ltP t) (i:Int) R).mem_iff.1 hj) with rfl | hj
    ·exact ⟨i,hi,rfl⟩
    ·exact hR j hj),Ylz _ _ hi,List.foldl_cons]
  ·rw [decide_eq_false (by omega),cond_false,List.drop_of_length_le (by simp [places];omega)];rfl
theorem Yi7 (t:List Flow)(hl:t.length≤50):Zkl t=some (Z5l t):=by
 unfold Zkl Z5l srt
 have:=Y99 t hl ((((t.length:Int):Int) - 0).toNat+1) 0 [] (by omega) (by omega) (by simp) (by intro j hj;simp at hj)
 rw [show ((0:Nat):Int)=0 from rfl,List.drop_zero] at this
 exact this
def Yr9 (t:List Flow):Prop:= ∀f∈t,f.Match.length≤100000
theorem Y9k (l:List Inst)(k:Int)(hl:l.length≤100000):∀(m i:Nat),i≤l.length→l.length<i+m→Zg8 l k m (i:Int)=some (Z1u Zuu (ofI (l.drop i) k))
 | 0,i,h1,h2=>by omega
 | m+1,i,h1,h2=>by
  rw [Zg8]
  by_cases hi:i<l.length
  ·rw [decide_eq_true (by omega),cond_true,Z28 hi,Option.bind_some,List.drop_eq_getElem_cons hi,inc i (by omega),Y9k l k hl m (i+1) (by omega) (by omega)]
   unfold ofI
   rw [List.find?_cons]
   cases decide (l[i].Kind=k)<;>rfl
  ·rw [decide_eq_false (by omega),cond_false,List.drop_of_length_le (by omega)];rfl
theorem Zkh (l:List Inst)(k:Int)(hl:l.length≤100000):Zaw l k=some (Z1u Zuu (ofI l k)):=by
 unfold Zaw
 have:=Y9k l k hl ((((l.length:Int):Int) - 0).toNat+1) 0 (by omega) (by omega)
 rw [show ((0:Nat):Int)=0 from rfl,List.drop_zero] at this
 exact this
end Go.Proofs.YtinplddjjalohaaGreatDoor.W
namespace Go.Proofs.YtinplddjjalohaaGreatDoor.W
open Go Go.Wb
theorem Y2g (a b:Tern):Ziz a b=some (Z1u zTern (Z3h a b)):=by
 unfold Ziz Z3h
 rw [Zxc,Option.bind_some,Yxo,Option.bind_some,Zxc,Option.bind_some,Y1v,Option.bind_some]
 cases Z4s (Z2v (Z95 a.Value b.Value) (Z2v a.Mask b.Mask))<;>rfl
theorem Zzs (a x:Cube):∀(m i:Nat),i≤24→24<i+m→(∀j,j<i→(Z3h (ve a j) (ve x j)).isSome=true)→
  Zdk a x m (Z3a (fun j=>(Z3h (ve a j) (ve x j)).getD zTern) Z2p i) (i:Int)=some (Z1u Z2p (Z6a a x))
 | 0,i,h1,h2,_=>by omega
 | m+1,i,h1,h2,h3=>by
  rw [Zdk]
  by_cases hi:i<24
  ·rw [decide_eq_true (by omega),cond_true,Z2h hi,Option.bind_some,Option.bind_some,Z31,Z31,Y2g,Option.bind_some]
   cases ht:Z3h (ve a i) (ve x i) with
   | none=>
    rw [show (!(Z1u zTern (none:Option Tern)).2)=true from rfl,cond_true]
    unfold Z6a
    rw [Y1k i hi ht];rfl
   | some t=>
    rw [show (!(Z1u zTern (some t)).2)=false from rfl,cond_false,Option.bind_some,inc i (by omega)]
    have h4:=Z96 (fun j=>(Z3h (ve a j) (ve x j)).getD zTern) Z2p i hi
    simp only [ht,Option.getD_some] at h4
    show Zdk a x m (Vector.set (Z3a _ Z2p i) i t hi) _=_
    rw [h4]
    exact Zzs a x m (i+1) (by omega) (by omega) fun j hj=>by
     by_cases e:j=i
     ·subst e;rw [ht];rfl
     ·exact h3 j (by omega)
  ·have:i=24:=by omega
   subst this
   rw [decide_eq_false (by omega),cond_false,Z91]
   have:Z6a a x=some (Vector.ofFn fun i=>(Z3h (ve a i.1) (ve x i.1)).getD zTern):=by
    unfold Z6a Z6h
    rw [List.all_eq_true.2 fun j hj=>h3 j (by simpa using hj),cond_true]
   rw [this];rfl
theorem Y98 (a x:Cube):Zgz a x=some (Z1u Z2p (Z6a a x)):=by
 unfold Zgz
 have:=Zzs a x (((24:Int) - 0).toNat+1) 0 (by omega) (by decide) (by omega)
 rw [Z9a] at this
 exact this
theorem Y1t (r c:Cube):∀(m i:Nat),i≤24→24<i+m→(∀j,j<i→(Z3h (ve r j) (ve c j)).isSome=true)→
  Ze9 r c m (Z3a (fun j=>Z1o ⟨(ve c j).Value,Z3z (ve c j).Mask (ve r j).Mask⟩) Z2p i) (i:Int)=some (Z1u Z2p (Z7j r c))
 | 0,i,h1,h2,_=>by omega
 | m+1,i,h1,h2,h3=>by
  rw [Ze9]
  by_cases hi:i<24
  ·rw [decide_eq_true (by omega),cond_true,Z2h hi,Option.bind_some,Option.bind_some,Z31,Z31,Y2g,Option.bind_some]
   cases ht:Z3h (ve r i) (ve c i) with
   | none=>
    rw [show (!(Z1u zTern (none:Option Tern)).2)=true from rfl,cond_true]
    unfold Z7j
    rw [show ((List.range 24).all fun i=>(Z3h (ve r i) (ve c i)).isSome)=false from List.all_eq_false.2 ⟨i,by simpa using hi,by rw [ht];simp⟩];rfl
   | some t=>
    rw [show (!(Z1u zTern (some t)).2)=false from rfl,cond_false,Option.bind_some,Option.bind_some,Option.bind_some,Y1q,Option.bind_some,Z31,Z31,Y21,Option.bind_some,Option.bind_some,inc i (by omega)]
    have h4:=Z96 (fun j=>Z1o ⟨(ve c j).Value,Z3z (ve c j).Mask (ve r j).Mask⟩) Z2p i hi
    show Ze9 r c m (Vector.set (Z3a _ Z2p i) i (Z1o ⟨(ve c i).Value,Z3z (ve c i).Mask (ve r i).Mask⟩) hi) _=_
    rw [h4]
    exact Y1t r c m (i+1) (by omega) (by omega) fun j hj=>by
     by_cases e:j=i
     ·subst e;rw [ht];rfl
     ·exact h3 j (by omega)
  ·have:i=24:=by omega
   subst this
   rw [decide_eq_false (by omega),cond_false,Z91]
   unfold Z7j
   rw [show ((List.range 24).all fun i=>(Z3h (ve r i) (ve c i)).isSome)=true from List.all_eq_true.2 fun j hj=>h3 j (by simpa using hj)];rfl
theorem Yf1 (r c:Cube):Znd r c=some (Z1u Z2p (Z7j r c)):=by
 unfold Znd
 have:=Y1t r c (((24:Int) - 0).toNat+1) 0 (by omega) (by decide) (by omega)
 rw [Z9a] at this
 exact this
abbrev Yes:=Switch→Int→Cube→Cube→List Atom→List Action→Option (List Rule)
abbrev Y95:=Switch→Int→Flow→Cube→Cube→List Atom→List Action→Option (List Rule)
def Zoi (R:Nat→walk_way→List Rule)(at_:Nat)(f:Flow)(x:walk_way):List Rule:=match Z26 at_ f.Insts with
 | some n=>R n (wdo x f.Insts)
 | none=>[Z4g (Z4v (wdo x f.Insts))]
theorem Ysi (s:Switch)(at_:Nat)(f:Flow)(x:walk_way)(Rw:Yes)(Ro:Y95)(R:Nat→walk_way→List Rule)(hf:Z69 f.Insts)(hi:f.Insts.length≤100000)(ha:at_<4)(hx:Z59 at_ x)
  (hR:∀n w,at_<n→n<4→Z59 n w→Rw s (n:Int) w.cube w.got w.atoms w.set=some (R n w)):
  Zik Rw Ro s (at_:Int) f x.cube x.got x.atoms x.set=some (Zoi R at_ f x):=by
 have hlim:lim=4294967296:=rfl
 have hxa:=hx.1
 have hxs:=hx.2
 have b1:=Ztb x hf
 have b2:=Zja (Z54 x f.Insts) f.Insts
 have b3:=Zkx (Z4e (Z54 x f.Insts) f.Insts) hf
 have b4:=Zpz x hf
 have j4:∀b:walk_way,b.atoms.length≤2000→b.set.length≤50→(∀n,Z26 at_ f.Insts=some n→Z59 n b)→Zff f (at_:Int) Rw s b.cube b.atoms b.set b.got=some (match Z26 at_ f.Insts with | some n=>R n b | none=>[Z4g (Z4v b)]):=fun b h1 h2 h3=>by
  unfold Zff
  rw [Zkh _ 1 hi,Option.bind_some]
  have hend:((Zis b.set).bind fun x24=>(Zdy x24 b.got).bind fun x25=>(Z0v b.atoms x25.1).bind fun l27=>some [(⟨b.cube,l27⟩:Rule)])=some [Z4g (Z4v b)]:=by
   have h5:=Zmy b.set
   have h6:=Zfs (Z4t b.set)
   rw [Yme _ h2,Option.bind_some,Y1r _ _ (by omega),Option.bind_some,Z1h (by rw [Zi9];omega)];rfl
  cases ho:ofI f.Insts 1 with
  | none=>rw [Zx1 ho];exact hend
  | some i=>
   show (bif ((true&&decide (i.Table>(at_:Int)))&&decide (i.Table<4)) then _ else _)=_
   rw [Bool.true_and]
   by_cases hc:i.Table>(at_:Int)∧i.Table<4
   ·have hd:(decide (i.Table>(at_:Int))&&decide (i.Table<4))=true:=by
     rw [Bool.and_eq_true,decide_eq_true_eq,decide_eq_true_eq];exact hc
    have hn:=Zse ho hc
    have e:((i.Table.toNat:Nat):Int)=i.Table:=by omega
    have h5:=hR i.Table.toNat b (by omega) (by omega) (h3 _ hn)
    rw [e] at h5
    rw [hn,hd,cond_true]
    show (Rw s i.Table b.cube b.got b.atoms b.set).bind _=_
    rw [h5];rfl
   ·have hd:(decide (i.Table>(at_:Int))&&decide (i.Table<4))=false:=by
     rw [Bool.and_eq_false_iff,decide_eq_false_iff_not,decide_eq_false_iff_not];omega
    rw [Zul ho hc,hd,cond_false]
    exact hend
 have j3:∀b:walk_way,b.atoms.length≤2000→b.set.length≤50→(∀n,Z26 at_ f.Insts=some n→Z59 n b)→Zi0 f b.got (at_:Int) Rw s b.cube b.atoms b.set=some (match Z26 at_ f.Insts with | some n=>R n (Z3t b f.Insts) | none=>[Z4g (Z4v (Z3t b f.Insts))]):=fun b h1 h2 h3=>by
  have b5:=Zso b f.Insts
  unfold Zi0
  rw [Zkh _ 2 hi,Option.bind_some,←j4 (Z3t b f.Insts) (by rw [b5.1];omega) (by rw [b5.2.1];omega) (fun n hn=>by unfold Z59;rw [b5.1,b5.2.1];exact h3 n hn)]
  unfold Z3t
  cases ho:ofI f.Insts 2 with
  | none=>rfl
  | some i=>
   simp only [Z1u,cond_true]
   rw [Zll];rfl
 have j2:∀b:walk_way,b.atoms.length≤1500→b.set.length≤36→(∀n,Z26 at_ f.Insts=some n→Z59 n (Z3w b f.Insts))→Zgk f b.got (at_:Int) Rw s b.cube b.atoms b.set=some (match Z26 at_ f.Insts with | some n=>R n (Z3t (Z3w b f.Insts) f.Insts) | none=>[Z4g (Z4v (Z3t (Z3w b f.Insts) f.Insts))]):=fun b h1 h2 h3=>by
  have b5:=Zkx b hf
  unfold Zgk
  rw [Zkh _ 3 hi,Option.bind_some,←j3 (Z3w b f.Insts) (by rw [b5.1];omega) (by have:=b5.2.1;omega) h3]
  unfold Z3w
  cases ho:ofI f.Insts 3 with
  | none=>rfl
  | some i=>
   have:=hf i (Z8w ho)
   simp only [Z1u,cond_true]
   rw [Yce _ _ (by omega) (by omega)];rfl
 have j1:∀b:walk_way,b.atoms.length≤1500→b.set.length≤36→(∀n,Z26 at_ f.Insts=some n→Z59 n (Z3w (Z4e b f.Insts) f.Insts))→Zio f (at_:Int) Rw s b.cube b.set b.atoms b.got=some (match Z26 at_ f.Insts with | some n=>R n (Z3t (Z3w (Z4e b f.Insts) f.Insts) f.Insts) | none=>[Z4g (Z4v (Z3t (Z3w (Z4e b f.Insts) f.Insts) f.Insts))]):=fun b h1 h2 h3=>by
  have b5:=Zja b f.Insts
  unfold Zio
  rw [Zkh _ 5 hi,Option.bind_some,←j2 (Z4e b f.Insts) (by rw [b5.1];omega) (by have:=b5.2.1;omega) h3]
  unfold Z4e
  cases ho:ofI f.Insts 5 with
  | none=>rfl
  | some i=>rfl
 have hn:∀n,Z26 at_ f.Insts=some n→Z59 n (Z3w (Z4e (Z54 x f.Insts) f.Insts) f.Insts):=fun n hn=>by
  have h1:=Zgl hn
  have h2:=b3.2.1
  have h3:=b2.2.1
  have h4:=b1.1
  exact ⟨by rw [b3.1,b2.1];omega,by rw [b1.2.1] at h3;omega⟩
 have h1:=j1 (Z54 x f.Insts) (by omega) (by rw [b1.2.1];omega) hn
 unfold Zik Zoi wdo
 rw [Z1h (by simp;omega),Option.bind_some,List.nil_append,Zkh _ 4 hi,Option.bind_some,←h1]
 unfold Z54
 cases ho:ofI f.Insts 4 with
 | none=>rfl
 | some i=>
  have h2:=hf i (Z8w ho)
  have h3:=Zfs i.Acts
  simp only [Z1u,cond_true]
  rw [Y1r _ _ (by omega),Option.bind_some,Z1h (by rw [Zi9];omega)];rfl
theorem Y41 (s:Switch)(at_:Nat)(ha:at_<4)(hm:Yr9 (Z0e s at_))(w:walk_way)(hw:w.atoms.length≤1000)(R:Nat→walk_way→List Rule)(Ro:Y95)(o:List Int)(ho:inT (Z0e s at_) o)(hol:o.length≤100)
  (hone:∀f∈Z0e s at_,∀x,Z7w w f=some x→Ro s (at_:Int) f x.cube w.got w.atoms w.set=some (Zoi R at_ f x)):
  ∀(m i:Nat) (acc:List Rule),i≤o.length→o.length<i+m→acc.length+((o.drop i).flatMap (Z7g R (Z0e s at_) at_ w)).length+1≤lim→
  Zch o (at_:Int) s w.got w.cube Ro w.atoms w.set m acc (i:Int)=some (acc++(o.drop i).flatMap (Z7g R (Z0e s at_) at_ w)++[Z4g w])
 | 0,i,acc,h1,h2,_=>by omega
 | m+1,i,acc,h1,h2,h3=>by
  have hlim:lim=4294967296:=rfl
  rw [Zch]
  by_cases hi:i<o.length
  ·obtain ⟨k,hk,hok⟩:=ho _ (List.getElem_mem hi)
   have hrule:Z7g R (Z0e s at_) at_ w (k:Int)=match Z7w w (Z0e s at_)[k] with
     | none=>[]
     | some x=>Zoi R at_ (Z0e s at_)[k] x:=by
    unfold Z7g
    rw [Int.toNat_natCast,List.getElem?_eq_getElem hk]<;>rfl
   rw [List.drop_eq_getElem_cons hi,List.flatMap_cons,hok,hrule] at h3 ⊢
   have ih:=fun acc=>Y41 s at_ ha hm w hw R Ro o ho hol hone m (i+1) acc (by omega) (by omega)
   rw [decide_eq_true (by omega),cond_true,Z2h ha,Option.bind_some,Z28 hi,Option.bind_some,hok,Zay,Z28 hk,Option.bind_some,Ycq _ (hm _ (List.getElem_mem hk)),Option.bind_some,Yf1,Option.bind_some,inc i (by omega)]
   have hmw:Z7w w (Z0e s at_)[k]=(Z7j w.got (Z8q (Z0e s at_)[k])).bind fun b=>(Z6a b w.cube).map fun c=>{w with cube:=c}:=rfl
   have hone:=hone _ (List.getElem_mem hk)
   revert h3 hone
   rw [hmw]
   cases hb:Z7j w.got (Z8q (Z0e s at_)[k]) with
   | none=>
    intro h3 hone
    simp only [Z1u,Bool.not_false,cond_true,Option.bind_none,List.nil_append] at h3 ⊢
    exact ih acc h3
   | some b=>
    simp only [Z1u,Bool.not_true,cond_false,Option.bind_some]
    rw [Y98,Option.bind_some]
    cases hc:Z6a b w.cube with
    | none=>
     intro h3 hone
     simp only [Z1u,cond_false,Option.map_none,List.nil_append] at h3 ⊢
     exact ih acc h3
    | some c=>
     intro h3 hone
     simp only [Z1u,cond_true,Option.map_some] at h3 ⊢
     have h4:=hone _ rfl
     simp only at h4
     rw [List.length_append] at h3
     rw [h4,Option.bind_some,Z1h (by omega),Option.bind_some,ih _ (by rw [List.length_append];omega)]
     simp only [List.append_assoc]
  ·rw [decide_eq_false (by omega),cond_false,List.drop_of_length_le (by omega),Z1h (by simp;omega),Option.bind_some,Z1h (by simp;omega)]
   simp [Z4g]
theorem Y3s (s:Switch)(hs:Z6g s)(hI:∀i,i<4→∀f∈Z0e s i,f.Insts.length≤100000∧f.Match.length≤100000)(hmost:Z65 s 4 0≤lim):∀(d n at_:Nat) (w:walk_way),4≤at_+d→at_<4→2*d≤n→Z59 at_ w→
  (Z4m n).1 s (at_:Int) w.cube w.got w.atoms w.set=some (Z4z s d at_ w)
 | 0,n,at_,w,h0,h1,_,_=>by omega
 | d+1,n,at_,w,h0,h1,h2,hw=>by
  obtain ⟨n,rfl⟩:∃k,n=k+2:=⟨n - 2,by omega⟩
  have hl:=hs at_ h1
  have hlen:=Zwa s (d+1) at_ w h0 h1
  have hsk:=Zty s 4 0 at_ (by omega) (by omega) (by omega)
  show Zk9 (Z4m (n+1)).1 (Z4m (n+1)).2 s (at_:Int) w.cube w.got w.atoms w.set=_
  unfold Zk9
  rw [Z2h h1,Option.bind_some,Zay,Yi7 _ (by have:=hl.1;omega),Option.bind_some]
  have hol:=Y3g (Z0e s at_)
  have:=Y41 s at_ h1 (fun f hf=>(hI at_ h1 f hf).2) w (by have:=hw.1;omega) (Z4z s d) (Z4m (n+1)).2 (Z5l (Z0e s at_)) (fun j hj=>Zlt.1 hj) (by have:=hl.1;omega) (fun f hf x hx=>by
   have hb:=Zym hx
   have hg:x.got=w.got:=by
    unfold Z7w at hx
    obtain ⟨b,_,h4⟩:=Option.bind_eq_some_iff.1 hx
    obtain ⟨c,_,h5⟩:=Option.map_eq_some_iff.1 h4
    subst h5;rfl
   show Zik (Z4m n).1 (Z4m n).2 s (at_:Int) f x.cube w.got w.atoms w.set=_
   rw [←hg,←hb.1,←hb.2]
   exact Ysi s at_ f x _ _ (Z4z s d) (hl.2 f hf) (hI at_ h1 f hf).1 h1 (by unfold Z59;rw [hb.1,hb.2];exact hw) fun k y h5 h6 h7=>Y3s s hs hI hmost d n k y (by omega) h6 (by omega) h7) ((((Z5l (Z0e s at_)).length:Int) - 0).toNat+1) 0 [] (by omega) (by omega) (by
   rw [Z4z,List.length_append,List.length_singleton] at hlen
   rw [List.drop_zero,List.length_nil];omega)
  rw [List.drop_zero,List.nil_append] at this
  exact this
theorem Yhx (s:Switch)(hs:Z6g s)(hI:∀i,i<4→∀f∈Z0e s i,f.Insts.length≤100000∧f.Match.length≤100000)(hmost:Z65 s 4 0≤lim):Zia s=some (Z43 s):=by
 unfold Zia Zp3 Za8 Zvt
 rw [Option.bind_some,Option.bind_some]
 show ((Z4m Z0s).1 s ((0:Nat):Int) way0.cube way0.got way0.atoms way0.set).bind _=_
 rw [Y3s s hs hI hmost 4 Z0s 0 way0 (by omega) (by omega) (by unfold Z0s;omega) ⟨by simp [way0],by simp [way0]⟩];rfl
end Go.Proofs.YtinplddjjalohaaGreatDoor.W
namespace Go.Proofs.YtinplddjjalohaaGreatDoor.W
open Go Go.Wb
end Go.Proofs.YtinplddjjalohaaGreatDoor.W
namespace Go.Proofs.YtinplddjjalohaaGreatDoor.W
open Go Go.Wb
theorem Y6b (s:Switch)(hs:Z6g s):∀(d at_:Nat) (w:walk_way),at_<4→Z59 at_ w→∀r∈Z4z s d at_ w,r.Atoms.length≤1000
 | 0,at_,w,h4,hw,r,hr=>by
  rw [Z4z,List.mem_singleton] at hr
  rw [hr]
  have:=hw.1
  show w.atoms.length≤1000
  omega
 | d+1,at_,w,h4,hw,r,hr=>by
  have h0:=hw.1
  have h1:=hw.2
  rw [Z4z] at hr
  rcases List.mem_append.1 hr with hr | hr
  ·obtain ⟨i,hi,hr⟩:=List.mem_flatMap.1 hr
   unfold Z7g at hr
   split at hr
   ·cases hr
   ·rename_i f hf
    have hfi:=(hs at_ h4).2 f (List.mem_of_getElem? hf)
    split at hr
    ·cases hr
    ·rename_i x hx
     have hx:=Zym hx
     have hd:=Zpz x hfi
     rw [hx.1,hx.2] at hd
     split at hr
     ·rename_i n hn
      have hb:=Zgl hn
      exact Y6b s hs d _ _ hb.2 ⟨by omega,by omega⟩ r hr
     ·rw [List.mem_singleton] at hr
      rw [hr]
      have:=Y85 (wdo x f.Insts)
      show (Z4v (wdo x f.Insts)).atoms.length≤1000
      omega
  ·rw [List.mem_singleton] at hr
   rw [hr]
   show w.atoms.length≤1000
   omega
theorem Ymo (s:Switch)(hs:Z6g s):∀r∈Z43 s,r.Atoms.length≤1000:=Y6b s hs 4 0 way0 (by omega) ⟨by simp [way0],by simp [way0]⟩
theorem Ybz {s:Switch}{many:Nat}(h:Z8o s (many:Int)=true):∀i,i<4→∀f∈Z0e s i,f.Insts.length≤100000∧f.Match.length≤100000:=fun i hi f hf=>by
 have:=((Zii h).1 i hi).2 f hf
 omega
end Go.Proofs.YtinplddjjalohaaGreatDoor.W
namespace Go.Proofs.YtinplddjjalohaaGreatDoor.W
open Go Go.Wb
def nb (t:Tern):Nat:=(Z81 t.Mask).length
def Ze6 (x:Cube):Nat→Nat→Nat
 | 0,_=>0
 | m+1,f=>nb (ve x f)+Ze6 x m (f+1)
def Z9z (x:Cube):Nat:=Ze6 x 24 0
theorem Y9a (t:Tern):nb t≤128:=by
 unfold nb Z81
 exact Nat.le_trans (List.length_filter_le ..) (by simp)
theorem Y2m (x:Cube):∀(m f:Nat),Ze6 x m f≤128*m
 | 0,_=>Nat.le_refl _
 | m+1,f=>by
  have h1:=Y2m x m (f+1)
  have h2:=Y9a (ve x f)
  rw [Ze6];omega
theorem Yp3 (x:Cube):Z9z x≤3072:=Y2m x 24 0
theorem Zvz (a:Wide):∀(m i n:Nat),i≤128→128<i+m→n≤i→Ze1 a m (n:Int) (i:Int)=some ((n+((List.range' i (128 - i)).filter (wt a)).length:Nat):Int)
 | 0,i,n,h1,h2,_=>by omega
 | m+1,i,n,h1,h2,h3=>by
  rw [Ze1]
  by_cases hi:i<128
  ·have e:128 - i=(128 - (i+1))+1:=by omega
   rw [decide_eq_true (by omega),cond_true,Ytr a i hi,Option.bind_some,inc i (by omega),e,List.range'_succ,List.filter_cons]
   cases wt a i
   ·rw [cond_false,Zvz a m (i+1) n (by omega) (by omega) (by omega)];rfl
   ·rw [cond_true,inc n (by omega),Zvz a m (i+1) (n+1) (by omega) (by omega) (by omega),if_pos rfl,List.length_cons]
    congr 2;omega
  ·have:i=128:=by omega
   subst this
   rw [decide_eq_false (by omega),cond_false];simp
theorem Yt8 (t:Tern):Zlg t.Mask=some (nb t:Int):=by
 unfold Zlg nb Z81
 have:=Zvz t.Mask (((128:Int) - 0).toNat+1) 0 0 (by omega) (by decide) (by omega)
 rw [Nat.zero_add,Nat.sub_zero,←List.range_eq_range'] at this
 exact this
theorem Y8m (x:Cube):∀(m f n:Nat),f≤24→24<f+m→n≤128*f→Zht x m (n:Int) (f:Int)=some ((n+Ze6 x (24 - f) f:Nat):Int)
 | 0,f,n,h1,h2,_=>by omega
 | m+1,f,n,h1,h2,h3=>by
  rw [Zht]
  by_cases hf:f<24
  ·have e:24 - f=(24 - (f+1))+1:=by omega
   have hb:=Y9a (ve x f)
   rw [decide_eq_true (by omega),cond_true,Z2h hf,Option.bind_some,Z31,Yt8,Option.bind_some,inc f (by omega),Z2r (by omega) (by omega),show (n:Int)+(nb (ve x f):Int)=((n+nb (ve x f):Nat):Int) by omega,Y8m x m (f+1) _ (by omega) (by omega) (by omega),e,Ze6]
   congr 2;omega
  ·have:f=24:=by omega
   subst this
   rw [decide_eq_false (by omega),cond_false];simp [Ze6]
theorem Yn8 (x:Cube):Zlc x=some (Z9z x:Int):=by
 unfold Zlc
 have:=Y8m x (((24:Int) - 0).toNat+1) 0 0 (by omega) (by decide) (by omega)
 rw [Nat.zero_add] at this
 exact this
def U:Int:=1099511627776
def Ze3:List Cube→Nat
 | []=>1
 | x::l=>max (Z9z x) 1*Ze3 l
theorem Zx2:∀l,1≤Ze3 l
 | []=>Nat.le_refl _
 | x::l=>by
  rw [Ze3]
  exact Nat.le_trans (Zx2 l) (Nat.le_mul_of_pos_left _ (by omega))
def Yed (l:List Cube):Nat:=(l.length+1)*Ze3 l
def Zas (c:Cube)(l:List Cube):List Cube:=l.filter (Z5r c)
def Y9d (c:Cube)(l:List Cube):Nat:=Yed (Zas c l)
def Z6x (k:Nat):Nat:=min k 1099511627776
theorem Y1s (a b:Nat):Z2o (a:Int) (b:Int)=((max a b:Nat):Int):=by
 unfold Z2o
 by_cases h:(b:Int)>(a:Int)
 ·rw [decide_eq_true h,cond_true];omega
 ·rw [decide_eq_false h,cond_false];omega
theorem Y33 (a:Nat):Z5k (a:Int) 1099511627776=(Z6x a:Int):=by
 unfold Z5k Z6x
 by_cases h:(1099511627776:Int)<(a:Int)
 ·rw [decide_eq_true h,cond_true];omega
 ·rw [decide_eq_false h,cond_false];omega
theorem Y3f (a P:Nat)(hP:1≤P):Z6x (Z6x a*P)=Z6x (a*P):=by
 unfold Z6x
 by_cases h:a≤1099511627776
 ·rw [Nat.min_eq_left h]
 ·have h1:1099511627776*1≤1099511627776*P:=Nat.mul_le_mul_left _ hP
  have h2:1099511627776*P≤a*P:=Nat.mul_le_mul_right _ (by omega)
  rw [Nat.min_eq_right (show 1099511627776≤a by omega)];omega
theorem Ywq (n:Nat)(x:Cube)(hn:n≤1099511627776):Z5k (IntKind.i64.wrap ((n:Int)*Z2o (Z9z x:Int) 1)) 1099511627776=(Z6x (n*max (Z9z x) 1):Int):=by
 have h1:=Yp3 x
 have h2:Z2o (Z9z x:Int) 1=((max (Z9z x) 1:Nat):Int):=Y1s (Z9z x) 1
 have h3:n*max (Z9z x) 1≤1099511627776*3072:=Nat.mul_le_mul hn (by omega)
 rw [h2,←Int.natCast_mul,Z2r (by omega) (by omega),Y33]
theorem Y2e (n:Nat):Z6x n≤1099511627776:=Nat.min_le_right ..
theorem Yfl (c:Cube)(l:List Cube):(Zas c l).length≤l.length:=List.length_filter_le ..
theorem Zwu (l:List Cube)(c:Cube)(hl:l.length≤1000000):∀(m i:Nat) (acc:List Cube),i≤l.length→l.length<i+m→acc.length≤i→Zdo l c m acc (i:Int)=some (acc++Zas c (l.drop i))
 | 0,i,acc,h1,h2,_=>by omega
 | m+1,i,acc,h1,h2,h3=>by
  have hlim:lim=4294967296:=rfl
  rw [Zdo]
  by_cases hi:i<l.length
  ·rw [decide_eq_true (by omega),cond_true,Z28 hi,Option.bind_some,Y98,Option.bind_some,Zzq,Option.bind_some,inc i (by omega),List.drop_eq_getElem_cons hi]
   unfold Zas
   rw [List.filter_cons]
   show (bif Z5r c l[i] then _ else _)=_
   cases Z5r c l[i]
   ·rw [cond_false,Zwu l c hl m (i+1) acc (by omega) (by omega) (by omega)];rfl
   ·rw [cond_true,Z1h (by simp;omega),Option.bind_some,Zwu l c hl m (i+1) _ (by omega) (by omega) (by simp;omega)]
    simp [Zas]
  ·rw [decide_eq_false (by omega),cond_false,List.drop_of_length_le (by omega)]
   simp [Zas]
theorem Y8o (l:List Cube)(hl:l.length≤1000000):∀(m i n:Nat),i≤l.length→l.length<i+m→n≤1099511627776→Zfx l m (n:Int) (i:Int)=some (Z6x (n*Ze3 (l.drop i)):Int)
 | 0,i,n,h1,h2,_=>by omega
 | m+1,i,n,h1,h2,h3=>by
  rw [Zfx]
  by_cases hi:i<l.length
  ·rw [decide_eq_true (by omega),cond_true,Z28 hi,Option.bind_some,Yn8,Option.bind_some,Ywq _ _ h3,inc i (by omega),Y8o l hl m (i+1) _ (by omega) (by omega) (Y2e _),Y3f _ _ (Zx2 _),List.drop_eq_getElem_cons hi,Ze3,Nat.mul_assoc]
  ·rw [decide_eq_false (by omega),cond_false,List.drop_of_length_le (by omega),Ze3,Nat.mul_one]
   unfold Z6x
   rw [Nat.min_eq_left h3]
theorem Yni (c:Cube)(l:List Cube)(h:l.length≤1000000):Zl1 c l=some (Z6x (Y9d c l):Int):=by
 unfold Zl1 Zrl
 have hl:=Yfl c l
 have h1:=Zwu l c h ((((l.length:Int):Int) - 0).toNat+1) 0 [] (by omega) (by omega) (by simp)
 rw [show ((0:Nat):Int)=0 from rfl,List.drop_zero,List.nil_append] at h1
 have h2:=Y8o (Zas c l) (by omega) (((((Zas c l).length:Int):Int) - 0).toNat+1) 0 (Z6x ((Zas c l).length+1)) (by omega) (by omega) (Y2e _)
 rw [show ((0:Nat):Int)=0 from rfl,List.drop_zero] at h2
 rw [h1,Option.bind_some,inc _ (by omega),Y33,h2,Y3f _ _ (Zx2 _)];rfl
def Zos (all:List Cube):List Cube→Nat→Nat→Nat
 | [],_,n=>n
 | x::l,i,n=>Zos all l (i+1) (max n (Z6x (Y9d x (all.take i))))
def Zz9 (l:List Rule):Nat:=Zos (l.map (·.Cube)) (l.map (·.Cube)) 0 0
theorem Y46 (l:List Rule)(hl:l.length≤1000000):∀(m i n:Nat),i≤l.length→l.length<i+m→Zhc l m (n:Int) (i:Int)=some (Zos (l.map (·.Cube)) ((l.drop i).map (·.Cube)) i n:Int)
 | 0,i,n,h1,h2=>by omega
 | m+1,i,n,h1,h2=>by
  rw [Zhc]
  by_cases hi:i<l.length
  ·rw [decide_eq_true (by omega),cond_true,Z28 hi,Option.bind_some,Y71 _ _ (by omega),Option.bind_some,Ywa _ (by rw [List.length_take];omega),Option.bind_some,Yni _ _ (by simp;omega),Option.bind_some,Y1s,inc i (by omega),Y46 l hl m (i+1) _ (by omega) (by omega),List.drop_eq_getElem_cons hi,List.map_cons,Zos,List.map_take]
  ·rw [decide_eq_false (by omega),cond_false,List.drop_of_length_le (by omega)];rfl
theorem Ywf (l:List Rule)(h:l.length≤1000000):Zfh l=some (Zz9 l:Int):=by
 unfold Zfh
 exact Y46 l h ((((l.length:Int):Int) - 0).toNat+1) 0 0 (by omega) (by omega)
theorem Yaw (c:Cube)(l:List Cube)(most:Int):(Z36 c l most).2.2=0∨Z36 c l most=(Z3y,false,5):=by
 unfold Z36
 cases decide ((Zir c l most).2.2<0)
 ·exact .inl rfl
 ·exact .inr rfl
def Z3n (most:Int):List Rule→List Rule→List Rule×Int
 | [],kept=>(kept,0)
 | r::l,kept=>bif decide ((Z36 r.Cube (kept.map (·.Cube)) most).2.2≠0) then ([],5) else bif (Z36 r.Cube (kept.map (·.Cube)) most).2.1 then Z3n most l (kept++[r]) else Z3n most l kept
theorem Y0m (l:List Rule)(h:∀r∈l,r.Atoms.length≤1000000):∀(m i:Nat),i+m=l.length→Zcd m i l=some l
 | 0,i,_=>by rw [Zcd]
 | m+1,i,hi=>by
  have hlim:lim=4294967296:=rfl
  have hlt:i<l.length:=by omega
  have ha:=h l[i] (List.getElem_mem hlt)
  have e:List.set l ((i:Int)).toNat {l[i] with Atoms:=l[i].Atoms}=l:=by
   rw [Int.toNat_natCast];exact List.set_getElem_self hlt
  rw [Zcd,Z28 hlt,Option.bind_some]
  unfold Zds
  rw [Z1h (by simp;omega),Option.bind_some,Option.bind_some,List.nil_append,e]
  exact Y0m l h m (i+1) (by omega)
theorem Yxf (l:List Rule)(hl:l.length≤1000000)(h:∀r∈l,r.Atoms.length≤1000000):Zjv l=some l:=by
 have hlim:lim=4294967296:=rfl
 unfold Zjv Zpr
 rw [Z1h (by simp;omega),Option.bind_some,List.nil_append,show ((l.length:Int)).toNat=l.length by omega]
 exact Y0m l h l.length 0 (by omega)
theorem Ztv (most:Int)(hm:most≤9223372036854775807):∀(l:List Rule) (i:Nat) (kept:List Rule),kept.length+l.length≤1000000→(∀r∈kept,r.Atoms.length≤1000000)→(∀r∈l,r.Atoms.length≤1000000)→
  Zap most l i kept (kept.map (·.Cube))=some (Z3n most l kept)
 | [],i,kept,h,h1,_=>by
  rw [Zap,Yxf kept (by simpa using h) h1];rfl
 | r::l,i,kept,h,h1,h2=>by
  have hlim:lim=4294967296:=rfl
  simp only [List.length_cons] at h
  rw [Zap,Y10 _ _ _ hm (by simp;omega),Option.bind_some,Z3n]
  rcases Yaw r.Cube (kept.map (·.Cube)) most with he | he
  ·rw [he,decide_eq_false (by omega),cond_false,cond_false]
   cases (Z36 r.Cube (kept.map (·.Cube)) most).2.1
   ·exact Ztv most hm l (i+1) kept (by omega) h1 fun q hq=>h2 q (by simp [hq])
   ·rw [Bool.not_true,cond_false,cond_true,Z1h (by simp;omega),Option.bind_some,Z1h (by simp;omega),Option.bind_some]
    have:=Ztv most hm l (i+1) (kept++[r]) (by simp;omega) (fun q hq=>by
     rcases List.mem_append.1 hq with hq | hq
     ·exact h1 q hq
     ·rw [List.mem_singleton.1 hq];exact h2 r (by simp)) fun q hq=>h2 q (by simp [hq])
    rw [List.map_append] at this
    exact this
  ·rw [he];rfl
theorem Zw0 (most:Int):∀(l kept:List Rule),(Z3n most l kept).2=0∨Z3n most l kept=([],5)
 | [],kept=> .inl rfl
 | r::l,kept=>by
  rw [Z3n]
  cases decide ((Z36 r.Cube (kept.map (·.Cube)) most).2.2≠0)
  ·cases (Z36 r.Cube (kept.map (·.Cube)) most).2.1
   ·exact Zw0 most l kept
   ·exact Zw0 most l _
  ·exact .inr rfl
theorem Zqk (most:Int):∀(l kept:List Rule),(Z3n most l kept).1.length≤kept.length+l.length∧∀r∈(Z3n most l kept).1,r∈kept∨r∈l
 | [],kept=>⟨by simp [Z3n],fun r hr=> .inl hr⟩
 | r::l,kept=>by
  rw [Z3n]
  cases decide ((Z36 r.Cube (kept.map (·.Cube)) most).2.2≠0)
  ·cases (Z36 r.Cube (kept.map (·.Cube)) most).2.1
   ·have:=Zqk most l kept
    rw [cond_false,cond_false]
    exact ⟨by simp;omega,fun q hq=>(this.2 q hq).imp id fun h=>by simp [h]⟩
   ·have:=Zqk most l (kept++[r])
    rw [cond_false,cond_true]
    refine ⟨by have:=this.1;simp at this ⊢;omega,fun q hq=>?_⟩
    rcases this.2 q hq with h | h
    ·rcases List.mem_append.1 h with h | h
     ·exact .inl h
     ·rw [List.mem_singleton.1 h];exact .inr (by simp)
    ·exact .inr (by simp [h])
  ·exact ⟨by simp,fun q hq=>by simp at hq⟩
end Go.Proofs.YtinplddjjalohaaGreatDoor.W
namespace Go.Proofs.YtinplddjjalohaaGreatDoor.W
open Go Go.Wb
end Go.Proofs.YtinplddjjalohaaGreatDoor.W
namespace Go.Proofs.YtinplddjjalohaaGreatDoor.W
open Go Go.Wb
structure SW (s:Switch):Prop where
 lt:Z6g s
 G:Z6l s.Groups
 I:∀i,i<4→∀f∈Z0e s i,f.Insts.length≤100000∧f.Match.length≤100000
 most:Z65 s 4 0≤6561
theorem Y8w {s:Switch}{m:Nat}(h:Z8o s (m:Int)=true)(hm:m≤8):SW s:=⟨Yh9 h (by omega),(Zii h).2,Ybz h,by
 have h1:=Yv5 s 8 fun i hi=>by have:=((Zii h).1 i hi).1;omega
 omega⟩
theorem SW.len {s:Switch}(h:SW s):(Z43 s).length≤6561:=Nat.le_trans (Y3x s) h.most
theorem SW.walk {s:Switch}(h:SW s):Zga s=some (Z43 s):=Ync s h.lt (by have:=h.most;have hlim:lim=4294967296:=rfl;omega)
theorem SW.walkR {s:Switch}(h:SW s):Zia s=some (Z43 s):=Yhx s h.lt h.I (by have:=h.most;have hlim:lim=4294967296:=rfl;omega)
def Z3x (s:Switch)(most:Int):List Rule×Int:=Z3n most (Z43 s) []
theorem Ycs (s:Switch)(h:SW s)(most:Int)(hm:most≤9223372036854775807):Zpy (Z43 s) most=some (Z3x s most):=by
 have h1:=h.len
 have h2:=Ymo s h.lt
 exact Ztv most hm (Z43 s) 0 [] (by simp;omega) (by simp) fun r hr=>by have:=h2 r hr;omega
end Go.Proofs.YtinplddjjalohaaGreatDoor.W
namespace Go.Proofs.YtinplddjjalohaaGreatDoor.W
open Go Go.Wb
structure Z21 where
 h:Header
 set:List Action
 out:List Out
def Zy9 (G:Int→Header→List Out)(p:Z21)(l:List Action):Z21:=⟨(doA G l [] p.h).2,p.set,p.out++(doA G l [] p.h).1⟩
def Z9x (G:Int→Header→List Out)(p:Z21)(l:List Inst):Z21:=match ofI l 4 with
 | some i=>Zy9 G p i.Acts
 | none=>p
def Z8i (p:Z21)(l:List Inst):Z21:=match ofI l 5 with
 | some _=>{p with set:=[]}
 | none=>p
def Z7v (p:Z21)(l:List Inst):Z21:=match ofI l 3 with
 | some i=>{p with set:=i.Acts.foldl wr1 p.set}
 | none=>p
def Z79 (p:Z21)(l:List Inst):Z21:=match ofI l 2 with
 | some i=>{p with h:=Zcn (Z8x Z2p 1 i.Value i.Mask) p.h}
 | none=>p
def sdo (G:Int→Header→List Out)(p:Z21)(l:List Inst):Z21:=Z79 (Z7v (Z8i (Z9x G p l) l) l) l
def Zq1 (G:Int→Header→List Out)(p:Z21):Z21:=Zy9 G p (Z4t p.set)
def bdG (G:Int→Header→List Out):Prop:= ∀id h,(G id h).length≤6561
theorem Zpc (l:List Group)(e:Env)(hl:Z6l l):bdG (goG l e 8):=fun id h=>Zjk l e hl 8 id h
theorem Zuj {G:Int→Header→List Out}(hG:bdG G)(l:List Action)(h:Header):(doA G l [] h).1.length≤l.length*6561:=
 Nat.le_trans (Zs5 G 6561 (by omega) hG l h) (Nat.mul_le_mul_right _ (Zfs l))
theorem Y8v {G:Int→Header→List Out}(hG:bdG G)(p:Z21){l:List Inst}(hl:Z69 l):(Z9x G p l).out.length≤p.out.length+78732∧(Z9x G p l).set=p.set:=by
 unfold Z9x
 split
 ·rename_i i hi
  have h1:=hl i (Z8w hi)
  have h2:=Zuj hG i.Acts p.h
  refine ⟨?_,rfl⟩
  show (p.out++_).length≤_
  rw [List.length_append];omega
 ·exact ⟨by omega,rfl⟩
theorem Y5x (p:Z21)(l:List Inst):(Z8i p l).out=p.out∧(Z8i p l).set.length≤p.set.length:=by
 unfold Z8i
 split
 ·exact ⟨rfl,by simp⟩
 ·exact ⟨rfl,by omega⟩
theorem Yny (p:Z21){l:List Inst}(hl:Z69 l):(Z7v p l).out=p.out∧(Z7v p l).set.length≤p.set.length+12:=by
 unfold Z7v
 split
 ·rename_i i hi
  have h1:=hl i (Z8w hi)
  have h2:=Zq3 i.Acts p.set
  exact ⟨rfl,by show (i.Acts.foldl wr1 p.set).length≤_;omega⟩
 ·exact ⟨rfl,by omega⟩
theorem Ym6 (p:Z21)(l:List Inst):(Z79 p l).out=p.out∧(Z79 p l).set=p.set:=by
 unfold Z79
 split
 ·exact ⟨rfl,rfl⟩
 ·exact ⟨rfl,rfl⟩
theorem Y6l {G:Int→Header→List Out}(hG:bdG G)(p:Z21){l:List Inst}(hl:Z69 l):(sdo G p l).out.length≤p.out.length+78732∧(sdo G p l).set.length≤p.set.length+12:=by
 have h1:=Y8v hG p hl
 have h2:=Y5x (Z9x G p l) l
 have h3:=Yny (Z8i (Z9x G p l) l) hl
 have h4:=Ym6 (Z7v (Z8i (Z9x G p l) l) l) l
 unfold sdo
 refine ⟨?_,?_⟩
 ·rw [h4.1,h3.1,h2.1];exact h1.1
 ·rw [h4.2]
  have:=h3.2
  have:=h2.2
  rw [h1.2] at this
  omega
theorem Yhb {G:Int→Header→List Out}(hG:bdG G)(p:Z21):(Zq1 G p).out.length≤p.out.length+p.set.length*6561:=by
 have h1:=Zuj hG (Z4t p.set) p.h
 have h2:=Nat.mul_le_mul_right 6561 (Zmy p.set)
 show (p.out++_).length≤_
 rw [List.length_append];omega
def Z7d (s:Switch)(G:Int→Header→List Out):Nat→Nat→Z21→List Place→Z21×List Place
 | 0,_,p,q=>(p,q)
 | d+1,at_,p,q=>match Z8c (Z0e s at_) p.h with
  | none=>(p,q++[⟨(at_:Int), -1⟩])
  | some i=>match (Z0e s at_)[i.toNat]? with
   | none=>(p,q)
   | some f=>match Z26 at_ f.Insts with
    | some n=>Z7d s G d n (sdo G p f.Insts) (q++[⟨(at_:Int),i⟩])
    | none=>(Zq1 G (sdo G p f.Insts),q++[⟨(at_:Int),i⟩])
theorem Zt7 {s:Switch}{G:Int→Header→List Out}{d at_:Nat}{p:Z21}{q:List Place}(h:Z8c (Z0e s at_) p.h=none):Z7d s G (d+1) at_ p q=(p,q++[⟨(at_:Int), -1⟩]):=by
 rw [Z7d,h]
theorem Zv0 {s:Switch}{G:Int→Header→List Out}{d at_ k:Nat}{p:Z21}{q:List Place}(h:Z8c (Z0e s at_) p.h=some (k:Int))(hk:k<(Z0e s at_).length):Z7d s G (d+1) at_ p q=match Z26 at_ (Z0e s at_)[k].Insts with
  | some n=>Z7d s G d n (sdo G p (Z0e s at_)[k].Insts) (q++[⟨(at_:Int),(k:Int)⟩])
  | none=>(Zq1 G (sdo G p (Z0e s at_)[k].Insts),q++[⟨(at_:Int),(k:Int)⟩]):=by
 rw [Z7d,h]
 simp only
 rw [Int.toNat_natCast,List.getElem?_eq_getElem hk]
def Zyp (at_:Nat)(p:Z21)(q:List Place):Prop:=p.out.length≤78732*at_∧p.set.length≤12*at_∧q.length≤at_
theorem Y6i (s:Switch)(hs:Z6g s){G:Int→Header→List Out}(hG:bdG G):∀(d at_:Nat) (p:Z21) (q:List Place),at_+d≤4+d→Zyp at_ p q→at_<4→(Z7d s G d at_ p q).1.out.length≤700000∧(Z7d s G d at_ p q).2.length≤10
 | 0,at_,p,q,_,h,h4=>by
  have:=h.1
  have:=h.2.2
  show p.out.length≤_∧q.length≤_
  omega
 | d+1,at_,p,q,hd,h,h4=>by
  have h0:=h.1
  have h1:=h.2.1
  have h2:=h.2.2
  cases hf:Z8c (Z0e s at_) p.h with
  | none=>
   rw [Zt7 hf]
   show p.out.length≤_∧(q++_).length≤_
   rw [List.length_append,List.length_singleton]
   omega
  | some i=>
   obtain ⟨k,hk,rfl,_⟩:=Zxa hf
   rw [Zv0 hf hk]
   have hl:=(hs at_ h4).2 _ (List.getElem_mem hk)
   have b:=Y6l hG p hl
   cases hn:Z26 at_ (Z0e s at_)[k].Insts with
   | none=>
    have c:=Yhb hG (sdo G p (Z0e s at_)[k].Insts)
    have e:=Nat.mul_le_mul_right 6561 (Nat.le_trans b.2 (show p.set.length+12≤48 by omega))
    show (Zq1 G _).out.length≤_∧(q++_).length≤_
    rw [List.length_append,List.length_singleton]
    omega
   | some n=>
    have hb:=Zgl hn
    exact Y6i s hs hG d n _ _ (by omega) ⟨by omega,by omega,by rw [List.length_append,List.length_singleton];omega⟩ hb.2
def sst (s:Switch)(e:Env)(p:Z21)(q:List Place):Z34:=⟨s,e,p.h,p.set,p.out,q⟩
theorem Y40 (s:Switch)(e:Env)(hG:Z6l s.Groups)(p:Z21)(q:List Place)(l:List Action)(hl:l.length≤100)(hp:p.out.length≤1000000):Zba (sst s e p q) l=some (sst s e (Zy9 (goG s.Groups e 8) p l) q):=by
 have hlim:lim=4294967296:=rfl
 have hb:=Zuj (Zpc s.Groups e hG) l p.h
 unfold Zba
 show (Zfe s.Groups e l p.h).bind _=_
 rw [Yof _ _ _ _ hG hl,Option.bind_some]
 show (Z0v p.out (doA (goG s.Groups e 8) l [] p.h).1).bind _=_
 rw [Z1h (by omega)];rfl
theorem Ydh (s:Switch)(e:Env)(hG:Z6l s.Groups)(p:Z21)(q:List Place)(at_:Nat)(l:List Inst)(hl:Z69 l)(hp:p.out.length≤500000)(hs:p.set.length≤100):
  ∃X:Int,Zib (sst s e p q) (at_:Int) l=some (match Z26 at_ l with | some n=>((n:Int),true,sst s e (sdo (goG s.Groups e 8) p l) q) | none=>(X,false,sst s e (sdo (goG s.Groups e 8) p l) q)):=by
 have hlim:lim=4294967296:=rfl
 have hbG:=Zpc s.Groups e hG
 have j4:∃X:Int,∀b:Z21,Zee l (at_:Int) b.out q s e b.h b.set=some (match Z26 at_ l with | some n=>((n:Int),true,sst s e b q) | none=>(X,false,sst s e b q)):=by
  cases hi:ofI l 1 with
  | none=>
   refine ⟨0,fun b=>?_⟩
   unfold Zee
   rw [Z85 l 1 hl,Option.bind_some,Zx1 hi,hi];rfl
  | some i=>
   refine ⟨i.Table,fun b=>?_⟩
   unfold Zee
   rw [Z85 l 1 hl,Option.bind_some,hi]
   show some (i.Table,((true&&decide (i.Table>(at_:Int)))&&decide (i.Table<4)),sst s e b q)=_
   rw [Bool.true_and]
   by_cases hc:i.Table>(at_:Int)∧i.Table<4
   ·have hd:(decide (i.Table>(at_:Int))&&decide (i.Table<4))=true:=by
     rw [Bool.and_eq_true,decide_eq_true_eq,decide_eq_true_eq];exact hc
    have:((i.Table.toNat:Nat):Int)=i.Table:=by omega
    rw [Zse hi hc,hd]
    simp [this]
   ·have hd:(decide (i.Table>(at_:Int))&&decide (i.Table<4))=false:=by
     rw [Bool.and_eq_false_iff,decide_eq_false_iff_not,decide_eq_false_iff_not];omega
    rw [Zul hi hc,hd]
 obtain ⟨X,j4⟩:=j4
 refine ⟨X,?_⟩
 have j3:∀b:Z21,Zgr l (at_:Int) b.out q s e b.h b.set=some (match Z26 at_ l with | some n=>((n:Int),true,sst s e (Z79 b l) q) | none=>(X,false,sst s e (Z79 b l) q)):=fun b=>by
  unfold Zgr
  rw [Z85 l 2 hl,Option.bind_some,←j4 (Z79 b l)]
  unfold Z79
  cases hi:ofI l 2 with
  | none=>rfl
  | some i=>
   simp only [Z1u,cond_true]
   rw [show Zc7=some Z2p from rfl,Option.bind_some,Zgx,Option.bind_some,Y4v];rfl
 have j2:∀b:Z21,b.set.length≤200→Zid l (at_:Int) b.out q s e b.h b.set=some (match Z26 at_ l with | some n=>((n:Int),true,sst s e (Z79 (Z7v b l) l) q) | none=>(X,false,sst s e (Z79 (Z7v b l) l) q)):=fun b h2=>by
  unfold Zid
  rw [Z85 l 3 hl,Option.bind_some,←j3 (Z7v b l)]
  unfold Z7v
  cases hi:ofI l 3 with
  | none=>rfl
  | some i=>
   have:=hl i (Z8w hi)
   simp only [Z1u,cond_true]
   rw [Zyv _ _ (by omega)];rfl
 have j1:∀b:Z21,b.set.length≤200→Zgn l (at_:Int) b.out q s e b.h b.set=some (match Z26 at_ l with | some n=>((n:Int),true,sst s e (Z79 (Z7v (Z8i b l) l) l) q) | none=>(X,false,sst s e (Z79 (Z7v (Z8i b l) l) l) q)):=fun b h2=>by
  have b5:=Y5x b l
  unfold Zgn
  rw [Z85 l 5 hl,Option.bind_some,←j2 (Z8i b l) (by have:=b5.2;omega)]
  unfold Z8i
  cases hi:ofI l 5 with
  | none=>rfl
  | some i=>rfl
 unfold Zib
 rw [Z85 l 4 hl,Option.bind_some]
 have:=j1 (Z9x (goG s.Groups e 8) p l) (by rw [(Y8v hbG p hl).2];omega)
 unfold sdo
 rw [←this]
 unfold Z9x
 cases hi:ofI l 4 with
 | none=>rfl
 | some i=>
  have:=hl i (Z8w hi)
  simp only [Z1u,cond_true]
  show (Zba (sst s e p q) i.Acts).bind _=_
  rw [Y40 s e hG p q i.Acts (by omega) (by omega)];rfl
theorem Zzb (s:Switch)(e:Env)(hs:Z6g s)(hG:Z6l s.Groups):∀(d at_ m:Nat) (p:Z21) (q:List Place),4≤at_+d→at_<4→d≤m→Zyp at_ p q→
  Zf0 m p.out q s e p.h p.set (at_:Int)=some (sst s e (Z7d s (goG s.Groups e 8) d at_ p q).1 (Z7d s (goG s.Groups e 8) d at_ p q).2)
 | 0,at_,m,p,q,h0,h1,_,_=>by omega
 | d+1,at_,0,p,q,_,_,h2,_=>by omega
 | d+1,at_,m+1,p,q,h1,ha,h2,hb=>by
  have hlim:lim=4294967296:=rfl
  have hl:=hs at_ ha
  have b0:=hb.1
  have b1:=hb.2.1
  have b2:=hb.2.2
  rw [Zf0,Z2h ha,Option.bind_some,Zay,Yhh _ _ hl.1,Option.bind_some]
  cases hf:Z8c (Z0e s at_) p.h with
  | none=>
   rw [Zt7 hf]
   simp only [Z1u,Bool.not_false,cond_true]
   rw [Z1h (by simp;omega)];rfl
  | some i=>
   obtain ⟨k,hk,rfl,_⟩:=Zxa hf
   rw [Zv0 hf hk]
   simp only [Z1u,Bool.not_true,cond_false]
   rw [Z1h (by simp;omega),Option.bind_some,Option.bind_some,Zay,Z28 hk,Option.bind_some]
   have hli:=hl.2 _ (List.getElem_mem hk)
   obtain ⟨X,hX⟩:=Ydh s e hG p (q++[⟨(at_:Int),(k:Int)⟩]) at_ _ hli (by omega) (by omega)
   have bd:=Y6l (Zpc s.Groups e hG) p hli
   show (Zib (sst s e p (q++[⟨(at_:Int),(k:Int)⟩])) (at_:Int) (Z0e s at_)[k].Insts).bind _=_
   rw [hX,Option.bind_some]
   generalize sdo (goG s.Groups e 8) p (Z0e s at_)[k].Insts=P at*
   generalize hQ:q++[(⟨(at_:Int),(k:Int)⟩:Place)]=Q at*
   have hQl:Q.length=q.length+1:=by rw [←hQ];simp
   cases hn:Z26 at_ (Z0e s at_)[k].Insts with
   | some n=>
    have hnb:=Zgl hn
    simp only [Bool.not_true,cond_false]
    exact Zzb s e hs hG d n m P Q (by omega) (by omega) (by omega) ⟨by omega,by omega,by omega⟩
   | none=>
    simp only [Bool.not_false,cond_true]
    have hls:=Zmy P.set
    have h5:=Yb1 P.set (by omega)
    have h6:=Y40 s e hG P Q (Z4t P.set) (by omega) (by omega)
    show ((Z89 P.set).bind fun x35=>(Zba (sst s e P Q) x35).bind fun b36=>some b36)=_
    rw [h5,Option.bind_some,h6,Option.bind_some];rfl
def Zan (h:Header):Z21:=⟨h,[],[]⟩
def Zrb (s:Switch)(e:Env)(h:Header):Z21×List Place:=Z7d s (goG s.Groups e 8) 4 0 (Zan h) []
theorem Y8i (h:Header):Zyp 0 (Zan h) []:=⟨by simp [Zan],by simp [Zan],by simp⟩
theorem Yeh (s:Switch)(h:Header)(hs:Z6g s)(hG:Z6l s.Groups):Zm7 s h=some (Zrb s Z6b h).2:=by
 unfold Zm7 Zqe
 have:=Zzb s Z6b hs hG 4 0 Z0s (Zan h) [] (by omega) (by omega) (by unfold Z0s;omega) (Y8i h)
 show (Zf0 Z0s (Zan h).out [] s Z6b (Zan h).h (Zan h).set ((0:Nat):Int)).bind _=_
 rw [this];rfl
theorem Yqh (s:Switch)(e:Env)(h:Header)(hs:Z6g s)(hG:Z6l s.Groups):(Zrb s e h).1.out.length≤700000∧(Zrb s e h).2.length≤10:=
 Y6i s hs (Zpc s.Groups e hG) 4 0 _ _ (by omega) (Y8i h) (by omega)
end Go.Proofs.YtinplddjjalohaaGreatDoor.W
namespace Go.Proofs.YtinplddjjalohaaGreatDoor.W
open Go Go.Wb
structure RW (G:Int→Header→List Out) (h0:Header) (w:walk_way) (p:Z21):Prop where
 h:p.h=Zcn w.got h0
 set:p.set=w.set
 out:p.out=w.atoms.flatMap (Yid G h0)
end Go.Proofs.YtinplddjjalohaaGreatDoor.W
namespace Go.Proofs.YtinplddjjalohaaGreatDoor.W
open Go Go.Wb
theorem Zwh (most:Int):∀(l kept:List Rule),(∀i (hi:i<kept.length),(Z36 kept[i].Cube ((kept.take i).map (·.Cube)) most).2.1=true∧(Z36 kept[i].Cube ((kept.take i).map (·.Cube)) most).2.2=0)→
  ∀i (hi:i<(Z3n most l kept).1.length),(Z36 (Z3n most l kept).1[i].Cube (((Z3n most l kept).1.take i).map (·.Cube)) most).2.1=true∧(Z36 (Z3n most l kept).1[i].Cube (((Z3n most l kept).1.take i).map (·.Cube)) most).2.2=0
 | [],kept,hk=>hk
 | r::l,kept,hk=>by
  have hd:Z3n most (r::l) kept=([],5)∨Z3n most (r::l) kept=Z3n most l kept∨((Z36 r.Cube (kept.map (·.Cube)) most).2.1=true∧(Z36 r.Cube (kept.map (·.Cube)) most).2.2=0∧Z3n most (r::l) kept=Z3n most l (kept++[r])):=by
   rw [Z3n]
   rcases Yaw r.Cube (kept.map (·.Cube)) most with he | he
   ·rw [he,decide_eq_false (by omega),cond_false]
    cases hf:(Z36 r.Cube (kept.map (·.Cube)) most).2.1
    ·exact .inr (.inl rfl)
    ·exact .inr (.inr ⟨rfl,rfl,rfl⟩)
   ·rw [he];exact .inl rfl
  rcases hd with e | e | ⟨h1,h2,e⟩
  ·rw [e];intro i hi;simp at hi
  ·rw [e];exact Zwh most l kept hk
  ·rw [e]
   refine Zwh most l (kept++[r]) fun i hi=>?_
   by_cases h3:i<kept.length
   ·rw [List.getElem_append_left h3,List.take_append_of_le_length (by omega)]
    exact hk i h3
   ·have:i=kept.length:=by simp at hi;omega
    subst this
    simp [h1,h2]
end Go.Proofs.YtinplddjjalohaaGreatDoor.W
namespace Go.Proofs.YtinplddjjalohaaGreatDoor.W
open Go Go.Wb
def Y4b (s:Switch)(h:Header):List Place:=(Zrb s Z6b h).2
def Z6v {κ:Type}[DecidableEq κ](m:List (κ×Int))(l:List κ):List (κ×Int):=l.foldl (fun m x=>Z1x m x (IntKind.i64.wrap (Z0n m x+1))) m
theorem Y8g {κ:Type}[DecidableEq κ]:∀(l:List κ) (m:List (κ×Int)) (B:Nat),(∀p,0≤Z0n m p∧Z0n m p≤(B:Int))→B+l.length<9223372036854775807→∀p,Z0n (Z6v m l) p=Z0n m p+(l.count p:Int)
 | [],m,B,_,_,p=>by simp [Z6v]
 | x::l,m,B,hm,hB,p=>by
  have hx:=hm x
  simp only [List.length_cons] at hB
  have hw:IntKind.i64.wrap (Z0n m x+1)=Z0n m x+1:=by
   simp only [IntKind.wrap,IntKind.signed,IntKind.bits]
   have:(Z0n m x+1) % 18446744073709551616=Z0n m x+1:=Int.emod_eq_of_lt (by omega) (by omega)
   simp [this];omega
  show Z0n (Z6v (Z1x m x (IntKind.i64.wrap (Z0n m x+1))) l) p=_
  rw [Y8g l _ (B+1) (fun q=>by
   rw [Zsh,hw]
   split
   ·omega
   ·have:=hm q;omega) (by omega) p,Zsh,hw,List.count_cons]
  by_cases e:x=p
  ·subst e;simp;omega
  ·simp [e]
theorem Ydc {κ:Type}[DecidableEq κ](m:List (κ×Int))(a b:List κ):Z6v m (a++b)=Z6v (Z6v m a) b:=by unfold Z6v;rw [List.foldl_append]
theorem Ye2 {κ:Type}[DecidableEq κ]{l:List κ}(h:l.length<9223372036854775807)(p:κ):Z0n (Z6v [] l) p=(l.count p:Int):=by
 have:=Y8g l [] 0 (fun p=>by simp [Z0n]) (by omega) p
 rw [this];simp [Z0n]
end Go.Proofs.YtinplddjjalohaaGreatDoor.W
namespace Go.Proofs.YtinplddjjalohaaGreatDoor.W
open Go Go.Wb
def Zl9 (s:Switch)(most:Int):Bool:=Z8o s 3&&(decide (most≤1024)||decide ((Zz9 (Z43 s):Int)≤4096))
theorem Ynd (s:Switch)(most:Int):Zmr s most=some (Zl9 s most):=by
 unfold Zmr Zl9
 rw [Yac,Option.bind_some]
 cases hf:Z8o s 3
 ·rfl
 ·have h:=Y8w (m:=3) hf (by omega)
  rw [h.walkR]
  cases hd:decide (most≤1024)
  ·show (Option.bind (some (Z43 s)) fun x5=>(opt true (Zfh x5)).bind fun x6=>some (true&&(false||decide (x6≤4096))))=_
   rw [Option.bind_some,Ywf _ (by have:=h.len;omega)];rfl
  ·rfl
theorem Ymy {s:Switch}{most:Int}(h:Zl9 s most=true):SW s:=by
 unfold Zl9 at h
 rw [Bool.and_eq_true] at h
 exact Y8w (m:=3) h.1 (by omega)
def wit (K:List Rule)(most:Int)(j:Nat):Header:=match K[j]? with
 | some r=>(Z36 r.Cube ((K.take j).map (·.Cube)) most).1
 | none=>Z3y
theorem Yfa {K:List Rule}{most:Int}{j:Nat}(hj:j<K.length):wit K most j=(Z36 K[j].Cube ((K.take j).map (·.Cube)) most).1:=by
 unfold wit;rw [List.getElem?_eq_getElem hj]
theorem Ylt {K:List Rule}{most:Int}{j:Nat}(hj:j<K.length):Zqx K (j:Int) most=Z36 K[j].Cube ((K.take j).map (·.Cube)) most:=by
 unfold Zqx
 rw [decide_eq_false (by omega),decide_eq_false (by omega)]
 show (match K[((j:Int)).toNat]? with | none=>_ | some r=>_)=_
 rw [Int.toNat_natCast,List.getElem?_eq_getElem hj]
def Zde (s:Switch)(K:List Rule)(most:Int):List Place:=(List.range K.length).flatMap fun j=>Y4b s (wit K most j)
theorem Y6s (go:Nat→List (Place×Int)→Option (List (Place×Int)×Int))(i9:Nat):∀(l:List Place) (i:Nat) (m:List (Place×Int)),Zf2 go i9 l i m=go (i9+1) (Z6v m l)
 | [],i,m=>rfl
 | x::l,i,m=>by rw [Zf2,Y6s go i9 l];rfl
theorem Y2n (s:Switch)(hs:SW s)(most:Int)(hm:most≤9223372036854775807)(K:List Rule)(hK:K.length≤100000)(hok:∀j (hj:j<K.length),(Z36 K[j].Cube ((K.take j).map (·.Cube)) most).2.2=0):∀(n i:Nat) (m:List (Place×Int)),i+n=K.length→
  Z9q (K,0) most s n i m=some (Z6v m ((List.range' i n).flatMap fun j=>Y4b s (wit K most j)),0)
 | 0,i,m,_=>by rw [Z9q];rfl
 | n+1,i,m,h=>by
  have hi:i<K.length:=by omega
  have ih:=fun m=>Y2n s hs most hm K hK hok n (i+1) m (by omega)
  rw [Z9q]
  show (Zf9 K (i:Int) most).bind _=_
  rw [Yxb _ _ _ (by omega) hm,Option.bind_some,Ylt hi,hok i hi,decide_eq_false (by simp),cond_false,Yeh s _ hs.lt hs.G,Option.bind_some,Y6s,ih,List.range'_succ,List.flatMap_cons,Ydc,Yfa hi]
  rfl
theorem Ymk (s:Switch)(most:Int):∀j (hj:j<(Z3x s most).1.length),(Z36 (Z3x s most).1[j].Cube (((Z3x s most).1.take j).map (·.Cube)) most).2.2=0:=fun j hj=>
 (Zwh most (Z43 s) [] (fun i hi=>by simp at hi) j hj).2
def Z99 (s:Switch)(most:Int):List (Place×Int)×Int:=bif decide ((Z3x s most).2≠0) then ([],5) else (Z6v [] (Zde s (Z3x s most).1 most),0)
theorem Y5n (s:Switch)(most:Int):(Z3x s most).2=0∨Z3x s most=([],5):=Zw0 most (Z43 s) []
theorem Yeb (s:Switch)(hs:SW s)(most:Int)(hm:most≤9223372036854775807):Ziq s most=some (Z99 s most):=by
 unfold Ziq Z99
 rw [hs.walk,Option.bind_some,Ycs s hs most hm,Option.bind_some]
 rcases Y5n s most with h0 | h0
 ·rw [decide_eq_false (by omega),cond_false,cond_false]
  have hl:=Zqk most (Z43 s) []
  have h2:=hs.len
  have hlen:(Z3x s most).1.length≤100000:=by
   have:(Z3x s most).1.length≤0+(Z43 s).length:=hl.1
   omega
  have e:Z3x s most=((Z3x s most).1,0):=by rw [←h0]
  have:=Y2n s hs most hm (Z3x s most).1 hlen (Ymk s most) (Z3x s most).1.length 0 [] (by omega)
  rw [Int.toNat_natCast]
  rw [←List.range_eq_range'] at this
  rw [←e] at this
  exact this
 ·rw [h0];rfl
def Zbf (m:List (Place×Int))(t n k:Nat):List Place:=((List.range' k n).filter fun (i:Nat)=>decide (Z0n m (⟨(t:Int),(i:Int)⟩:Place)=0)).map fun (i:Nat)=>(⟨(t:Int),(i:Int)⟩:Place)
def Zco (m:List (Place×Int)):List (List Flow)→Nat→List Place
 | [],_=>[]
 | l::ts,t=>Zbf m t l.length 0++Zco m ts (t+1)
theorem Yt6 (m:List (Place×Int))(t n k:Nat):(Zbf m t n k).length≤n:=by
 unfold Zbf
 rw [List.length_map]
 exact Nat.le_trans (List.length_filter_le _ _) (by simp)
theorem Ztk (go:Nat→List Place→Option (List Place×Int))(t:Nat)(x:List (Place×Int)×Int):∀(n k:Nat) (acc:List Place),acc.length+n≤100000→Zad go t x n k acc=go (t+1) (acc++Zbf x.1 t n k)
 | 0,k,acc,_=>by rw [Zad];simp [Zbf]
 | n+1,k,acc,h=>by
  have hlim:lim=4294967296:=rfl
  rw [Zad]
  unfold Zbf
  rw [List.range'_succ]
  by_cases h0:Z0n x.1 ⟨(t:Int),(k:Int)⟩=0
  ·rw [decide_eq_true h0,cond_true,Z1h (by simp;omega),Option.bind_some,Ztk go t x n (k+1) _ (by simp;omega),List.filter_cons_of_pos (by simp [h0]),List.map_cons]
   unfold Zbf
   rw [List.append_assoc];rfl
  ·rw [decide_eq_false h0,cond_false,Ztk go t x n (k+1) _ (by omega),List.filter_cons_of_neg (by simp [h0])]
   rfl
theorem Y39 (x:List (Place×Int)×Int):∀(ts:List (List Flow)) (t:Nat) (acc:List Place),(∀l∈ts,l.length≤1000)→acc.length+1000*ts.length≤100000→Z9w x ts t acc=some (acc++Zco x.1 ts t,0)
 | [],t,acc,_,_=>by rw [Z9w];simp [Zco]
 | l::ts,t,acc,h,hl=>by
  have h1:=h l (by simp)
  have h2:=Yt6 x.1 t l.length 0
  simp only [List.length_cons] at hl
  rw [Z9w,Int.toNat_natCast,Ztk _ t x l.length 0 acc (by omega),Y39 x ts (t+1) _ (fun l hl=>h l (by simp [hl])) (by rw [List.length_append];omega),Zco,List.append_assoc]
theorem Yf5 {s:Switch}(hs:SW s):∀l∈Vector.toList s.Tables,l.length≤1000:=fun l hl=>by
 obtain ⟨i,hi,rfl⟩:=List.mem_iff_getElem.1 hl
 have hi':i<4:=by simpa using hi
 have h1:=(hs.lt i hi').1
 have e:(Vector.toList s.Tables)[i]=Z0e s i:=by
  unfold Z0e
  simp [hi']
  rfl
 rw [e];omega
def Zex (s:Switch)(most:Int):List Place×Int:=bif decide ((Z99 s most).2≠0) then ([],(Z99 s most).2) else (Zco (Z99 s most).1 (Vector.toList s.Tables) 0,0)
theorem Yro (s:Switch)(hs:SW s)(most:Int)(hm:most≤9223372036854775807):Zfi s most=some (Zex s most):=by
 unfold Zfi Zex
 rw [Yeb s hs most hm,Option.bind_some]
 cases decide ((Z99 s most).2≠0)
 ·rw [cond_false,cond_false,Y39 _ _ 0 [] (Yf5 hs) (by simp)];rfl
 ·rfl
theorem Yb7 {α β:Type}(f:α→List β)(n:Nat):∀l:List α,(∀x∈l,(f x).length≤n)→(l.flatMap f).length≤l.length*n
 | [],_=>by simp
 | x::l,h=>by
  have h1:=h x (by simp)
  have h2:=Yb7 f n l fun y hy=>h y (by simp [hy])
  rw [List.flatMap_cons,List.length_append,List.length_cons,Nat.succ_mul]
  omega
theorem Yhy (s:Switch)(hs:SW s)(most:Int):(Zde s (Z3x s most).1 most).length<9223372036854775807:=by
 have h1:(Zde s (Z3x s most).1 most).length≤(List.range (Z3x s most).1.length).length*10:=Yb7 _ 10 _ fun j _=>(Yqh s Z6b _ hs.lt hs.G).2
 have hl:=Zqk most (Z43 s) []
 have h2:=hs.len
 have h3:(Z3x s most).1.length≤0+(Z43 s).length:=hl.1
 rw [List.length_range] at h1
 omega
theorem Yij (s:List Place)(v:Place):Zk4 s v=some (s.contains v):=by
 unfold Zk4 Zpo
 rw [show ((s.length:Int)).toNat=s.length by omega]
 rw [Zcx (f:=fun x=>some (decide (v=x))) (s:=s) (G:=Zbe s v) (fun x=>decide (v=x)) (fun i=>by rw [Zbe]) (fun m i=>by rw [Zbe];rfl) (fun _ _=>rfl),Option.bind_some,Zc6]
 congr 1
 rw [Bool.eq_iff_iff,List.any_eq_true,List.contains_iff_mem]
 simp
set_option maxRecDepth 100000 in
theorem Yvm:Zfo=some true:=by decide+kernel
end Go.Proofs.YtinplddjjalohaaGreatDoor.W
namespace Go.Proofs.YtinplddjjalohaaGreatDoor.W
open Go Go.Wb
theorem Y4q {k:Int}(h0:0≤k)(h:k<4611686018427387904):IntKind.i64.wrap k=k:=by
 simp only [IntKind.wrap,IntKind.signed,IntKind.bits]
 have:k % 18446744073709551616=k:=Int.emod_eq_of_lt (by omega) (by omega)
 simp [this];omega
theorem Yu9 (n:Nat):(places n).Pairwise (· < ·):=by
 unfold places
 rw [List.pairwise_map]
 exact List.pairwise_lt_range.imp fun h=>by omega
theorem Ytw (T:List Flow)(f:Flow)(h:Header):Z8c (T++[f,f]) h≠some ((T.length+1:Nat):Int):=fun hf=>by
 unfold Z8c at hf
 obtain ⟨hp,xa,bs,hab,hno⟩:=List.find?_eq_some_iff_append.1 hf
 have hl:(T++[f,f]).length=T.length+2:=by simp
 have h1:T.length<(T++[f,f]).length:=by omega
 have h2:T.length+1<(T++[f,f]).length:=by omega
 have e1:(T++[f,f])[T.length]=f:=by simp
 have e2:(T++[f,f])[T.length+1]=f:=by simp
 have hpn:Zh2 (T++[f,f]) h ((T.length:Nat):Int)=true:=by
  rw [Zls h2,e2] at hp
  rw [Zls h1,e1];exact hp
 have hn:((T.length:Nat):Int)∈Z5l (T++[f,f]):=Zlt.2 ⟨T.length,h1,rfl⟩
 rw [hab] at hn
 have hbs:((T.length:Nat):Int)∈bs:=by
  rcases List.mem_append.1 hn with hn | hn
  ·have:=hno _ hn
   rw [hpn] at this;simp at this
  ·rcases List.mem_cons.1 hn with hn | hn
   ·omega
   ·exact hn
 have heq:∀k:Nat,k=T.length∨k=T.length+1→eqv (ltP (T++[f,f])) ((T.length:Nat):Int) (k:Int)=true:=by
  intro k hk
  have hkl:k<(T++[f,f]).length:=by omega
  have hkf:(T++[f,f])[k]=f:=by
   rcases hk with rfl | rfl
   ·exact e1
   ·exact e2
  unfold eqv ltP
  rw [Zha h1,Zha hkl,e1,hkf]
  simp
 have hfil:=Z9t (Zy3 (T++[f,f])) (places (T++[f,f]).length) ((T.length:Nat):Int)
 have hord:srt (ltP (T++[f,f])) (places (T++[f,f]).length)=xa++((T.length+1:Nat):Int)::bs:=hab
 rw [hord,List.filter_append,List.filter_cons_of_pos (heq (T.length+1) (.inr rfl))] at hfil
 have hpw:=(Yu9 (T++[f,f]).length).filter (eqv (ltP (T++[f,f])) ((T.length:Nat):Int))
 rw [←hfil] at hpw
 have hpw2:=(List.pairwise_append.1 hpw).2.1
 have:=(List.pairwise_cons.1 hpw2).1 _ (List.mem_filter.2 ⟨hbs,heq T.length (.inl rfl)⟩)
 omega
theorem Ya2 (s:Switch)(G:Int→Header→List Out)(t:Nat)(T:List Flow)(f:Flow)(hT:Z0e s t=T++[f,f]):∀(d at_:Nat) (p:Z21) (q:List Place),(⟨(t:Int),((T.length+1:Nat):Int)⟩:Place)∉q→(⟨(t:Int),((T.length+1:Nat):Int)⟩:Place)∉(Z7d s G d at_ p q).2
 | 0,at_,p,q,h=>h
 | d+1,at_,p,q,h=>by
  cases hf:Z8c (Z0e s at_) p.h with
  | none=>
   rw [Zt7 hf]
   simp only [List.mem_append,List.mem_singleton,not_or]
   exact ⟨h,fun e=>by injection e with e1 e2;omega⟩
  | some i=>
   obtain ⟨k,hk,rfl,_⟩:=Zxa hf
   rw [Zv0 hf hk]
   have hq:(⟨(t:Int),((T.length+1:Nat):Int)⟩:Place)∉q++[(⟨(at_:Int),(k:Int)⟩:Place)]:=by
    simp only [List.mem_append,List.mem_singleton,not_or]
    refine ⟨h,fun e=>?_⟩
    injection e with e1 e2
    have e3:at_=t:=by omega
    subst e3
    rw [hT,←e2] at hf
    exact Ytw T f p.h hf
   cases Z26 at_ (Z0e s at_)[k].Insts with
   | none=>exact hq
   | some n=>exact Ya2 s G t T f hT d n _ _ hq
theorem Y47 {m:List (Place×Int)}:∀(ts:List (List Flow)) (t0 j i:Nat) (hj:j<ts.length),i<ts[j].length→Z0n m (⟨((t0+j:Nat):Int),(i:Int)⟩:Place)=0→(⟨((t0+j:Nat):Int),(i:Int)⟩:Place)∈Zco m ts t0
 | l::ts,t0,0,i,hj,hi,hz=>by
  rw [Zco]
  refine List.mem_append_left _ ?_
  unfold Zbf
  refine List.mem_map.2 ⟨i,List.mem_filter.2 ⟨List.mem_range'.2 ⟨i,hi,by omega⟩,?_⟩,rfl⟩
  simpa using hz
 | l::ts,t0,j+1,i,hj,hi,hz=>by
  rw [Zco]
  refine List.mem_append_right _ ?_
  have e:t0+(j+1)=(t0+1)+j:=by omega
  rw [e] at hz ⊢
  exact Y47 ts (t0+1) j i (by simpa using hj) (by simpa using hi) hz
theorem Yjf (s:Switch)(hs:SW s)(most:Int)(t:Nat)(ht:t<4)(T:List Flow)(f:Flow)(hT:Z0e s t=T++[f,f])(h0:(Zex s most).2=0):(⟨(t:Int),((T.length+1:Nat):Int)⟩:Place)∈(Zex s most).1:=by
 rcases Y5n s most with hd | hd
 ·have ha:Z99 s most=(Z6v [] (Zde s (Z3x s most).1 most),0):=by unfold Z99;rw [decide_eq_false (by omega),cond_false]
  unfold Zex
  rw [ha,decide_eq_false (by simp),cond_false]
  have hl:t<(Vector.toList s.Tables).length:=by simpa using ht
  have e:(Vector.toList s.Tables)[t]=Z0e s t:=by
   unfold Z0e
   simp [ht]
   rfl
  have:=Y47 (m:=Z6v [] (Zde s (Z3x s most).1 most)) (Vector.toList s.Tables) 0 t (T.length+1) hl (by rw [e,hT];simp)
  rw [Nat.zero_add] at this
  refine this ?_
  rw [Ye2 (Yhy s hs most)]
  have hno:(⟨(t:Int),((T.length+1:Nat):Int)⟩:Place)∉Zde s (Z3x s most).1 most:=fun hm=>by
   unfold Zde at hm
   obtain ⟨j,_,hm⟩:=List.mem_flatMap.1 hm
   exact Ya2 s (goG s.Groups Z6b 8) t T f hT 4 0 (Zan _) [] (by simp) hm
  rw [List.count_eq_zero.2 hno];rfl
 ·have ha:Z99 s most=([],5):=by unfold Z99;rw [hd];rfl
  unfold Zex at h0
  rw [ha] at h0;cases h0
theorem Yxc (l:List Flow)(h:l.length≤lim):Zju l=some l:=by
 unfold Zju
 rw [Z1h (by simp;omega)];rfl
theorem Yg0 (s:Switch)(t:Nat)(l:List Flow)(ht:t<4):Z0e {s with Tables:=Vector.set s.Tables t l ht} t=l:=by
 unfold Z0e
 rw [dif_pos ht]
 show (Vector.set s.Tables t l ht)[t]=_
 rw [Vector.getElem_set_self]
theorem Yqr (s:Switch)(most:Int)(f:Flow)(n:Nat)(hm:most≤9223372036854775807):Zix s most f (n:Int)=some true:=by
 have hlim:lim=4294967296:=rfl
 unfold Zix
 rw [Y5w,Option.bind_some,Yvm]
 cases hf:Zeb f
 ·rfl
 ·rw [Yac]
  show (Option.bind (some (Z8o s 2)) _)=_
  rw [Option.bind_some]
  cases hs2:Z8o s 2
  ·rfl
  ·rw [Bool.not_true,Bool.or_self,cond_false]
   have h4:n % 4<4:=Nat.mod_lt _ (by omega)
   have ho:Z8b (n:Int) 4=some ((n % 4:Nat):Int):=Y36 n 4 (by omega)
   rw [ho,Option.bind_some,Y4q (by omega) (by omega),Z2h h4,Option.bind_some]
   have hlen:=((Zii (many:=2) hs2).1 (n % 4) h4).1
   rw [Zay s _ h4,Yxc _ (by omega),Option.bind_some,Z1h (by simp;omega),Option.bind_some,Option.bind_some,Ynd,Option.bind_some]
   generalize hx:({s with Tables:=Vector.set s.Tables (n % 4) (Z0e s (n % 4)++[f,f]) h4}:Switch)=x
   have hT:Z0e x (n % 4)=Z0e s (n % 4)++[f,f]:=by rw [←hx];exact Yg0 s _ _ h4
   cases hl:Zl9 x most
   ·rfl
   ·have hw:=Ymy hl
    rw [Bool.not_true,cond_false,Yro x hw most hm,Option.bind_some]
    by_cases h0:(Zex x most).2=0
    ·rw [decide_eq_false (by omega)]
     have hin:=Yjf x hw most (n % 4) h4 _ f hT h0
     show (Option.bind (some (⟨n % 4,h4⟩:_root_.Fin 4)) _)=_
     rw [Option.bind_some,Zay x _ h4,hT]
     have e:IntKind.i64.wrap (((Z0e s (n % 4)++[f,f]).length:Int) - 1)=(((Z0e s (n % 4)).length+1:Nat):Int):=by
      rw [Y4q (by simp;omega) (by simp;omega)]
      simp;omega
     rw [e,Yij,List.contains_iff_mem.2 hin]
     rfl
    ·rw [decide_eq_true h0];rfl
theorem Yet {W:World}{H M H' M':HS}{v u:Value}(s:Switch)(most:Int)(f:Flow)(t:Int)(h:(rd (Z0 .i64) most).R W H M v)(h':(rd (Z0 .u8) t).R W H' M' u):Zix s most f t=some true:=by
 have h2:IntKind.u8.has t:=(Z0u h').2
 have h3:0≤t:=by
  have:=h2.1
  simp [IntKind.min,IntKind.signed,IntKind.bits] at this
  exact this
 obtain ⟨n,rfl⟩:=Int.eq_ofNat_of_zero_le h3
 exact Yqr s most f n (Z0u h).2.2
end Go.Proofs.YtinplddjjalohaaGreatDoor.W
