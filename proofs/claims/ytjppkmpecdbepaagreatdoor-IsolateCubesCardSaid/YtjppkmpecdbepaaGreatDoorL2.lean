/- A part of the proof. -/
import Derived.Test.YtjppkmpecdbepaaGreatDoorL1
import Derived.Laws.IdiomCopy
set_option linter.unusedVariables false
set_option linter.unusedSimpArgs false
set_option linter.unusedSectionVars false
namespace Go.Wb
open Go
def Zt6 {α:Type}(l m:List α):Option (List α):=match m with
 | []=>none
 | _::_=>Z11 l m
theorem Ybv {α:Type}{l m r:List α}(h:Zt6 l m=some r):Z11 l m=some r∧m≠[]:=by
 cases m with
 | nil=>cases h
 | cons x m=>exact ⟨h,by simp⟩
section app
variable {C : Ctx} {S : St} {o : Oper} {α : Type} {k : Kd α} {l m r : List α} {T E : TypeId} {p q : Operand}
theorem Yc4 (i:Nat)(h:Zt6 l m=some r)(ho:o.op= .call {callee:= .builtin .append,args:= #[p,q],argTypes:= #[T,T]})(hd:Zq o C.N=true)(he:El C.P T E k)(hp:Val C S p (fsl k l))(hq:Val C S q (rd (Z1 k) m)):OpT C o S (fun S'=> ∃v,S'=(S.put o.dst (Zg v)).setr i (Zi v E k r)):=
 OpT.value (by simp [ho]) fun O a w hh=>by
  obtain ⟨h,hne⟩:=Ybv h
  obtain ⟨hl,rfl⟩:=Z5y h
  obtain ⟨hs,A,h1⟩:=hp.of hh
  have h2:=Z58 (hq.of hh)
  generalize hep:a.eval p=vp at*
  generalize heq:a.eval q=vq at*
  have hrun:∀v' w',(Builtin.append_ #[T,T] o.type #[vp,vq]).run C.P w= .ok v' w'→(execOp a.eval o).run C.P w= .ok (.value v') w':=fun v' w' h=>by
   simp only [execOp,ho,resolve,invoke,builtin,Sem.run_bind,Sem.run_pure,Result.andThen_ok,List.map_toArray,List.map_cons,List.map_nil,hep,heq,h]
  have hpos':=List.length_pos_iff.2 hne
  obtain ⟨A',c',he',hlc,hc63,hcells⟩:=hs
  obtain ⟨i',hi,hsz⟩:=Option.map_eq_some_iff.1 he.sz
  cases A with
  | none=>
   have h0:l=[]:=by
    cases l with
    | nil=>rfl
    | cons x l=>
     obtain ⟨b,off,cl,e,_⟩:=hcells (by simp)
     rw [h1] at he'
     cases he';cases e
   subst h0
   subst h1
   obtain ⟨v',w',ml,h4,h5,h6,h7,h8,h9⟩:=Zhw (l:=([]:List α)) (ty:=o.type) he (World.ownsRow_nil w 0 E k.sz) h2 hl
   have t:Turns O i w (.slice none 0 0) v' w':=Zgy h8 (h9.symm.imp id fun e=>e) (fun b hb=>(h5.lt b hb).2)
   have hc:=(h6 hpos').mono (t.ext (C:=C))
   exact ⟨v',w',_,hrun _ _ h4,⟨_,rfl⟩,Z5a hh t hd v' rfl (cl:=ml) (by simpa using h5) (by simpa using hc)⟩
  | some A=>
   subst h1
   cases he'
   obtain ⟨cl,hcl,hat⟩:∃cl,Cells k w (hid C O) l cl∧∀j u,cl[j]? =some u→w.cell? (A.add j)=some u:=by
    cases l with
    | nil=>exact ⟨[],rfl,by simp⟩
    | cons x l=>
     obtain ⟨b,off,cl,e,_,_,hc,hat⟩:=hcells (by simp)
     cases e
     exact ⟨cl,hc,fun j u hu=>by rw [Z38];exact hat.at_ j u hu⟩
   obtain ⟨B,c,h3,hmc,hm63,hcells'⟩:=h2
   subst h3
   obtain ⟨b,off,ml,e,hb,hn,hc,hat'⟩:=hcells' (by omega)
   cases e
   obtain ⟨i'',hi',hby⟩:=Option.map_eq_some_iff.1 he.by_
   obtain rfl:i'=i'':=by rw [hi] at hi';exact Option.some.inj hi'
   obtain ⟨i'',hi',hz⟩:=Option.map_eq_some_iff.1 he.zr
   obtain rfl:i'=i'':=by rw [hi] at hi';exact Option.some.inj hi'
   obtain ⟨z,hz1,hz2⟩:=Option.map_eq_some_iff.1 hz
   have hby':i'.bytes≤32768:=Nat.le_of_ble_eq_true hby
   have hpos:0<k.sz:=by have:=he.pos;simpa using this
   have hlim:lim=4294967296:=rfl
   obtain ⟨v',w',r1,r2,r3⟩:=run_append_arg_grows (P:=C.P) w T o.type E i' z k.sz i'.bytes he.u hi hz1 hsz rfl hz2 hpos A l.length l.length cl hcl.len hat ⟨b,off,none⟩ m.length c ml hc.len (fun j u hu=>by rw [Z38];exact hat'.at_ j u hu) (by omega) (by simp only [maxLen];omega)
    (Nat.le_trans (Nat.mul_le_mul hl hby') (by decide))
   have hbb:(l.length+m.length)*i'.bytes≤140737488355328:=Nat.le_trans (Nat.mul_le_mul hl hby') (by decide)
   have r0:=run_append_grow (P:=C.P) w T o.type E i' z he.u hi hz1 A l.length l.length cl (by rw [hsz];exact hcl.len) hat ⟨b,off,none⟩ m.length c ml (by rw [hsz];exact hc.len) (fun j u hu=>by rw [Z38];exact hat'.at_ j u hu) (by omega) (by omega) (growslice_fits (by omega) hbb)
   have hv:v'.ownBlock=some w.heap.size∨v'.ownBlock=none:=by
    rw [r0] at r1
    injection r1 with e1 e2
    rw [←e1]
    exact .inl rfl
   have t:Turns O i w (.slice none 0 0) v' w':=Zgy r3 hv (fun b hb=>(r2.lt b hb).2)
   exact ⟨v',w',_,hrun _ _ r1,⟨_,rfl⟩,Z5a hh t hd v' rfl (cl:=cl++ml) (by rw [List.length_append];exact Zyj r2) ((hcl.append hc).mono (t.ext (C:=C)))⟩
theorem Y85 {P:Program}{w:World}{H:HS}{T I E ty:TypeId}{k:Kd α}{z:α}{l:List α}{v:Value}{cl:List Value}{ik jk:IntKind}{n:Nat}(he:El P T E k)(hz:Zr P E k z)(hI:P.underlying I=some (.int ik))(ho:w.ownsRow 0 E k.sz v l.length cl)(hl:l.length+n≤lim):
  ∃v' w' ml,(Builtin.append_ #[T,I] ty #[v,.int jk n]).run P w= .ok v' w'∧w'.ownsRow 0 E k.sz v' (l.length+n) (cl++ml)∧Cells k w H (List.replicate n z) ml∧w.grownBy w' v.ownBlock∧(v'.ownBlock=v.ownBlock∨v'.ownBlock=some w.heap.size):=by
 obtain ⟨i,hi,hs⟩:=Option.map_eq_some_iff.1 he.sz
 obtain ⟨i',hi',hby⟩:=Option.map_eq_some_iff.1 he.by_
 obtain rfl:i=i':=by rw [hi] at hi';exact Option.some.inj hi'
 obtain ⟨i',zv,hi',hzv,hzc⟩:=hz.out
 obtain rfl:i=i':=by rw [hi] at hi';exact Option.some.inj hi'
 have hby':i.bytes≤32768:=Nat.le_of_ble_eq_true hby
 have hpos:0<k.sz:=by have:=he.pos;simpa using this
 have hlim:lim=4294967296:=rfl
 have hzs:zv.cells.size=k.sz:=by simpa using k.len (hzc w H)
 have hzl:(Builtin.zeroCells zv.cells n).toList.length=n*k.sz:=by simp [Builtin.zeroCells,hzs]
 have hcells:Cells k w H (List.replicate n z) (Builtin.zeroCells zv.cells n).toList:=by
  rw [show (Builtin.zeroCells zv.cells n).toList=(List.replicate n zv.cells.toList).flatten from Zeh _ (by omega) _]
  clear hzl hl
  induction n with
  | zero=>rfl
  | succ n ih=>rw [List.replicate_succ,List.replicate_succ,List.flatten_cons];exact ⟨_,_,rfl,hzc w H,ih⟩
 have hw:IntKind.i64.wrap (n:Int)=n:=by
  simp only [IntKind.wrap,IntKind.signed,IntKind.bits]
  have:(n:Int) % 18446744073709551616=n:=Int.emod_eq_of_lt (by omega) (by omega)
  simp [this];omega
 have h0:¬((n:Int)<0):=by omega
 have hb48:n*i.bytes≤4294967296*32768:=Nat.mul_le_mul (by omega) hby'
 have hb:¬((281474976710656:Int)<(n:Int)*(i.bytes:Int)):=by
  have:((n*i.bytes:Nat):Int)=(n:Int)*(i.bytes:Int):=by simp
  omega
 have hz0:∀w':World,(if n*i.size=0 then (pure #[]:Sem (Array Value)) else do pure (Builtin.zeroCells (←zeroValue E).cells n)).run P w'= .ok (Builtin.zeroCells zv.cells n) w':=fun w'=>by
  by_cases e:n*i.size=0
  ·have hn:n=0:=by
    rcases Nat.mul_eq_zero.1 e with h | h
    ·exact h
    ·omega
   subst hn
   simp [Builtin.zeroCells]
  ·rw [if_neg e]
   simp [zeroValue,typeInfo,hi,hzv]
 have hlenN:(cl++(Builtin.zeroCells zv.cells n).toList).length=(l.length+n)*k.sz:=by rw [List.length_append,ho.1,hzl,Nat.add_mul]
 have hszk:i.size=k.sz:=hs
 have hbb:(l.length+n)*i.bytes≤140737488355328:=Nat.le_trans (Nat.mul_le_mul hl hby') (by decide)
 have grown:∀(old:Nat),old<l.length+n→∀(row:Option Nat),
   (w.drew.alloc (.cells (cl.toArray++(Builtin.zeroCells zv.cells n)++Builtin.zeroCells zv.cells (grownCap w (l.length+n) old E - (l.length+n))) E)).ownsRow 0 E k.sz
    (.slice (some ⟨w.heap.size,0,none⟩) (l.length+n) (grownCap w (l.length+n) old E)) (l.length+n) (cl++(Builtin.zeroCells zv.cells n).toList)∧
   w.grownBy (w.drew.alloc (.cells (cl.toArray++(Builtin.zeroCells zv.cells n)++Builtin.zeroCells zv.cells (grownCap w (l.length+n) old E - (l.length+n))) E)) row:=by
  intro old hold row
  have hge:=grownCap_ge w (l.length+n) old E
  have hcm:grownCap w (l.length+n) old E≤maxLen:=grownCap_le_maxLen w (l.length+n) old E (by simp only [maxLen];omega)
  refine ⟨⟨hlenN,.inr ⟨w.heap.size,_,_,rfl,Nat.zero_le _,heap_alloc_new w.drew _,hge,hcm,?_,?_⟩⟩,⟨rfl,rfl,rfl,by simp,fun k hk _=>heap_alloc_old w.drew _ k hk⟩⟩
  ·simp only [Array.size_append,List.size_toArray,size_zeroCells,hzs,ho.1,←Nat.add_mul]
   congr 1
   omega
  ·simp only [Array.toList_append,List.append_assoc]
   rw [←List.append_assoc,←hlenN]
   exact List.take_left
 have hf48:∀old,old<l.length+n→¬(281474976710656<Builtin.nextslicecap (l.length+n) old*i.bytes):=fun old h=>by
  have:=growslice_fits (need:=l.length+n) (old:=old) (bytes:=i.bytes) (by omega) hbb
  omega
 rcases ho.2 with ⟨rfl,hl0⟩ | ⟨g,cap,cur,rfl,hbg,hg,hnc,hcm,hcs,htake⟩
 ·have hx:cl=[]:=List.eq_nil_of_length_eq_zero (by rw [ho.1,hl0];simp)
  subst hx
  by_cases hn0:n=0
  ·subst hn0
   refine ⟨.slice none 0 0,w,_,?_,?_,hcells,⟨rfl,rfl,rfl,Nat.le_refl _,fun _ _ _=>rfl⟩,.inl rfl⟩
   ·simp [Builtin.append_,run_underlying he.u,run_underlying hI,sizeOf,typeInfo,hi,asInt,asIntOf,IntKind.wrap,IntKind.signed,IntKind.bits]
   ·rw [hl0];exact ⟨by simpa [hl0] using hlenN,.inl ⟨rfl,rfl⟩⟩
  ·have hgr:=grown 0 (by omega) (Value.ownBlock (.slice none 0 0))
   refine ⟨_,_,_,?_,hgr.1,hcells,hgr.2,.inr rfl⟩
   have h1:=hf48 0 (by omega)
   rw [hl0] at h1 ⊢
   have hn':¬(0+n≤0):=by omega
   have h63:¬((9223372036854775807:Int)<(0+n:Nat)):=by omega
   have hz1:=hz0 w.drew
   simp only [Nat.zero_add] at h1 hn' h63 ⊢
   simp [Builtin.append_,run_underlying he.u,run_underlying hI,sizeOf,typeInfo,zeroValue,hi,hzv,asInt,asIntOf,hw,h0,hb,hn0,h1,h63,Question.forced,Builtin.firstCells,newRow,grownCap]
   intro e
   rcases Nat.mul_eq_zero.1 e with h | h<;>omega
 ·by_cases hroom:l.length+n≤cap
  ·have hfit:l.length*k.sz+(Builtin.zeroCells zv.cells n).toList.length≤cur.size:=by rw [hzl,hcs,←Nat.add_mul];exact Nat.mul_le_mul_right _ hroom
   have hst:=run_storeCells_at P g (l.length*k.sz) E (Builtin.zeroCells zv.cells n).toList 0 cur w hg (by simpa using hfit) hcells.one
   simp only [Nat.add_zero] at hst
   refine ⟨.slice (some ⟨g,0,none⟩) (l.length+n) cap,w.setRow g (cur.toList.take (l.length*k.sz)++(Builtin.zeroCells zv.cells n).toList++cur.toList.drop (l.length*k.sz+(Builtin.zeroCells zv.cells n).toList.length)).toArray,_,?_,⟨hlenN,.inr ⟨g,cap,_,rfl,hbg,setRow_heap w g cur _ E _ hg,hroom,hcm,?_,?_⟩⟩,hcells,⟨rfl,rfl,rfl,by simp,fun k _ hk=>setRow_other w g k _ (fun e=>hk (by simp [Value.ownBlock,e]))⟩,.inl rfl⟩
   ·have hz1:=hz0 w
    by_cases e:n*i.size=0
    ·have hn:n=0:=by
      rcases Nat.mul_eq_zero.1 e with h | h
      ·exact h
      ·omega
     subst hn
     rw [show Builtin.zeroCells zv.cells 0= #[] by simp [Builtin.zeroCells]] at hst ⊢
     simp [Builtin.append_,run_underlying he.u,run_underlying hI,sizeOf,typeInfo,zeroValue,hi,hzv,asInt,asIntOf,IntKind.wrap,IntKind.signed,IntKind.bits,hnc,hszk,storeCells] at hst ⊢
     exact (setRow_self _ _ _ _ _ hg).symm
    ·simp [Builtin.append_,run_underlying he.u,run_underlying hI,sizeOf,typeInfo,zeroValue,hi,hzv,asInt,asIntOf,hw,h0,hb,hroom,e,Addr.add_lit,hszk,hst]
     intro e'
     rw [hszk] at e
     exact absurd e' e
   ·have hz2:(Builtin.zeroCells zv.cells n).size=n*k.sz:=by simpa using hzl
    have hz3:l.length*k.sz+n*k.sz≤cur.size:=by rw [←hz2];simpa using hfit
    simp only [List.size_toArray,List.length_append,List.length_take,List.length_drop,Array.length_toList,hz2]
    omega
   ·rw [htake,←hlenN]
    exact List.take_left
  ·have hgr:=grown cap (by omega) (Value.ownBlock (.slice (some ⟨g,0,none⟩) l.length cap))
   have holds:∀j u,cl[j]? =some u→w.cell? ((⟨g,0,none⟩:Addr).add j)=some u:=ho.cells (g:=g) rfl
   have hfo:=run_firstCells_some (P:=P) w.drew k.sz l.length ⟨g,0,none⟩ l.length cap cl ho.1 (by simpa using holds)
   refine ⟨_,_,_,?_,hgr.1,hcells,hgr.2,.inr rfl⟩
   have h1:=hf48 cap (by omega)
   have h63:¬((9223372036854775807:Int)<(l.length:Int)+(n:Int)):=by omega
   have e:¬(n*i.size=0):=fun e=>by rcases Nat.mul_eq_zero.1 e with h | h<;>omega
   rw [hszk] at e
   have e2:¬(n=0):=by omega
   have e3:¬(k.sz=0):=by omega
   simp [Builtin.append_,run_underlying he.u,run_underlying hI,sizeOf,typeInfo,zeroValue,hi,hzv,asInt,asIntOf,hw,h0,hb,hroom,e,e2,e3,h1,h63,Question.forced,hszk,hfo,newRow,grownCap]
def Zeq {α:Type}(z:α)(l:List α)(n:Int):Option (List α):=bif decide (0≤n)&&Nat.ble (l.length+n.toNat) lim then some (l++List.replicate n.toNat z) else none
theorem Yor {α:Type}{z:α}{l r:List α}{n:Int}(h:Zeq z l n=some r):∃m:Nat,n=(m:Int)∧l.length+m≤lim∧r=l++List.replicate m z:=by
 unfold Zeq at h
 cases hc:(decide (0≤n)&&Nat.ble (l.length+n.toNat) lim) with
 | false=>rw [hc] at h;cases h
 | true=>
  rw [hc] at h
  obtain ⟨h1,h2⟩:=Bool.and_eq_true_iff.1 hc
  have h1:=of_decide_eq_true h1
  exact ⟨n.toNat,by omega,Nat.le_of_ble_eq_true h2,(Option.some.inj h).symm⟩
theorem Zw6 {I:TypeId}{z:α}{v:Value}{n:Int}{ik jk:IntKind}(i:Nat)(h:Zeq z l n=some r)(ho:o.op= .call {callee:= .builtin .append,args:= #[p,q],argTypes:= #[T,I]})(hd:Zq o C.N=true)(he:El C.P T E k)(hz:Zr C.P E k z)(hI:C.P.underlying I=some (.int ik))(hp:Val C S p (Zg v))(hr:S.r i=Zi v E k l)(hq:Val C S q (rd (Z0 jk) n)):
  OpT C o S (fun S'=> ∃v',S'=(S.put o.dst (Zg v')).setr i (Zi v' E k r)):=
 OpT.value (by simp [ho]) fun O a w hh=>by
  obtain ⟨m,rfl,hl,rfl⟩:=Yor h
  have h1:=Z56 (hp.of hh)
  have h2:=(Z0q (hq.of hh)).1
  have h3:=hh.res i
  rw [hr] at h3
  obtain ⟨cl,hown,hc,hm⟩:=h3
  obtain ⟨v',w',ml,h4,h5,h6,h7,h8⟩:=Y85 (H:=hid C O) (ty:=o.type) (jk:=jk) he hz hI hown hl
  have t:Turns O i w v v' w':=⟨h7,hm,h8,fun b hb=>(h5.lt b hb).2⟩
  refine ⟨v',w',_,?_,⟨v',rfl⟩,Z5a hh t hd v' rfl (cl:=cl++ml) (by rw [List.length_append,List.length_replicate];exact h5) ((hc.mono (t.ext (C:=C))).append (h6.mono t.ext))⟩
  simp only [execOp,ho,resolve,invoke,builtin,Sem.run_bind,Sem.run_pure,Result.andThen_ok,List.map_toArray,List.map_cons,List.map_nil,h1,h2,h4]
end app
end Go.Wb
namespace Go.Wb
open Go
def cpy {α:Type}(l:List α)(lo:Nat)(m:List α):List α:=l.take lo++(m.take (l.length - lo)++l.drop (lo+Nat.min m.length (l.length - lo)))
theorem Yl1 {α:Type}(l:List α)(lo:Nat)(m:List α)(h:lo≤l.length):(cpy l lo m).length=l.length:=by
 unfold cpy
 simp only [List.length_append,List.length_take,List.length_drop]
 have e:Nat.min m.length (l.length - lo)=min m.length (l.length - lo):=rfl
 omega
theorem Yeg {α:Type}(l:List α)(lo:Nat)(m:List α)(h:lo≤l.length)(h0:Nat.min m.length (l.length - lo)=0):cpy l lo m=l:=by
 unfold cpy
 rw [h0]
 have:m.take (l.length - lo)=[]:=List.eq_nil_of_length_eq_zero (by rw [List.length_take];have e:Nat.min m.length (l.length - lo)=min m.length (l.length - lo):=rfl;omega)
 rw [this];simp
section copy
variable {C : Ctx} {S : St} {o : Oper} {α : Type} {k : Kd α} {l m : List α} {T T' E : TypeId} {p q : Operand}
theorem Y9e {v:Value}{lo:Nat}(i:Nat)(ho:o.op= .call {callee:= .builtin .copy,args:= #[p,q],argTypes:= #[T,T']})(hd:Zq o C.N=true)(ht:Sl C.P T E k)(hs1:k.sz=1)(hp:Val C S p (Z9j v lo k.sz))(hr:S.r i=Zi v E k l)(hlo:lo≤l.length)(hq:Val C S q (rd (Z1 k) m)):
  OpE C o S ((S.put o.dst (rd (Z0 .i64) ((Nat.min m.length (l.length - lo):Nat):Int))).setr i (Zi v E k (cpy l lo m))):=
 OpE.value (by simp [ho]) fun O a w hh=>by
  have h4:=hh.res i
  rw [hr] at h4
  obtain ⟨cl,hown,hc,hm⟩:=h4
  obtain ⟨hu,ti,hti,hs⟩:=ht.out
  obtain ⟨A2,c2,h2,hlc2,hc63,hcells⟩:=Z58 (hq.of hh)
  have hsz:(C.P.info? E).map (·.size)=some 1:=by rw [hti,←hs1,←hs];rfl
  have h63:l.length≤9223372036854775807:=by
   rcases hown.2 with ⟨_,h0⟩ | ⟨g',cap,cur,e,hb,hg,hnc,hcm,_⟩
   ·omega
   ·simp only [maxLen] at hcm;omega
  have hmin:Nat.min m.length (l.length - lo)≤l.length:=Nat.le_trans (Nat.min_le_right _ _) (Nat.sub_le _ _)
  have hA:∀w' H,(rd (Z0 .i64) ((Nat.min m.length (l.length - lo):Nat):Int)).R w' H Zl (goInt (Nat.min m.length (l.length - lo))):=fun w' H=>Z35 (show IntKind.i64.has _ from ⟨by first | (simp [IntKind.min,IntKind.signed,IntKind.bits];done) | (simp [IntKind.min,IntKind.signed,IntKind.bits];omega),by first | (simp [IntKind.max,IntKind.signed,IntKind.bits];done) | (simp [IntKind.max,IntKind.signed,IntKind.bits];omega)⟩)
  obtain ⟨A,dl,dc,h1,hdl,hAg⟩:∃A dl dc,a.eval p= .slice A dl dc∧dl=l.length - lo∧(0<l.length - lo→∃g c,v= .slice (some ⟨g,0,none⟩) l.length c∧A=some ⟨g,lo*k.sz,none⟩):=by
   rcases hp.of hh with ⟨g,n,c,rfl,A,h1,hA⟩ | ⟨rfl,A,c,h1,_⟩
   ·rcases hown.2 with ⟨e,h0⟩ | ⟨g',cap,cur,e,hb,hg,hnc,hcm,hcs,htk⟩
    ·cases e
    have en:n=l.length:=by injection e
    subst en
    exact ⟨A,_,_,h1,rfl,fun h=>⟨g,c,rfl,hA (by omega)⟩⟩
   ·have hl0:l.length=0:=by
     rcases hown.2 with ⟨e,h0⟩ | ⟨g',cap,cur,e,_⟩
     ·exact h0
     ·cases e
    exact ⟨A,0,c,h1,by omega,fun h=>by omega⟩
  subst hdl
  have hex:∀v' w',(Builtin.copy_ #[T,T'] o.type #[.slice A (l.length - lo) dc,.slice A2 m.length c2]).run C.P w= .ok v' w'→(execOp a.eval o).run C.P w= .ok (.value v') w':=fun v' w' h=>by
   simp only [execOp,ho,resolve,invoke,builtin,Sem.run_bind,Sem.run_pure,Result.andThen_ok,List.map_toArray,List.map_cons,List.map_nil,h1,h2,h]
  by_cases hn:Nat.min m.length (l.length - lo)=0
  ·have hrun:=run_copy_none (P:=C.P) w T T' o.type E A A2 (l.length - lo) dc m.length c2 hu hsz hn
   refine ⟨_,w,hex _ _ hrun,?_⟩
   rw [Yeg l lo m hlo hn]
   have t:Turns O i w v v w:=⟨⟨rfl,rfl,rfl,Nat.le_refl _,fun _ _ _=>rfl⟩,hm,.inl rfl,fun b hb=>(hown.lt b hb).2⟩
   have h7:=Z5a (E:=E) (S:=S) (o:=o) (A:=rd (Z0 .i64) ((Nat.min m.length (l.length - lo):Nat):Int)) (l:=l) hh t hd (goInt 0) (by have:=hA w (hid C (Z4m O i v));rw [hn] at this ⊢;exact this) hown (hc.mono t.ext)
   exact h7
  ·have hpos1:0<m.length∧0<l.length - lo:=by
    have e:Nat.min m.length (l.length - lo)=min m.length (l.length - lo):=rfl
    omega
   obtain ⟨g,c,rfl,rfl⟩:=hAg hpos1.2
   obtain ⟨b,off,ml,rfl,hb,hv,hcm,hat⟩:=hcells hpos1.1
   rcases hown.2 with ⟨e,h0⟩ | ⟨g',cap,cur,e,hbg,hg,hnc,hcmx,hcs,htk⟩
   ·cases e
   obtain ⟨rfl,rfl⟩:g=g'∧c=cap:=by
    injection e with e1 e2 e3
    injection e1 with e1
    injection e1 with e1
    exact ⟨e1,e3⟩
   let n:=Nat.min m.length (l.length - lo)
   have hmlen:ml.length=m.length:=by rw [hcm.len,hs1,Nat.mul_one]
   have hnm:n≤m.length:=Nat.min_le_left _ _
   have hcsl:(ml.take n).length=Nat.min m.length (l.length - lo):=by rw [List.length_take,hmlen];exact Nat.min_eq_left hnm
   have hcurs:cur.size=c:=by rw [hcs,hs1,Nat.mul_one]
   have hfit:lo*k.sz+(ml.take n).length≤cur.size:=by
    rw [hcsl,hcurs,hs1]
    have:Nat.min m.length (l.length - lo)≤l.length - lo:=Nat.min_le_right _ _
    omega
   have hone:∀u∈ml.take n,u.oneCell'=true:=fun u hu=>hcm.one u (List.mem_of_mem_take hu)
   have hrun:=run_copy_row (P:=C.P) w T T' o.type E g (lo*k.sz) (l.length - lo) dc ⟨b,off,none⟩ m.length c2 cur E (ml.take n) hu hsz hg hcsl (fun j u hu=>by
    rw [Z38]
    have hj:(ml.take n)[j]? =some u:=hu
    rw [List.getElem?_take] at hj
    split at hj
    ·exact hat.at_ j u hj
    ·cases hj) hfit hone
   rw [hcsl] at hrun
   refine ⟨_,_,hex _ _ hrun,?_⟩
   have t:Turns O i w (.slice (some ⟨g,0,none⟩) l.length c) (.slice (some ⟨g,0,none⟩) l.length c) (w.setRow g (cur.toList.take (lo*k.sz)++ml.take n++cur.toList.drop (lo*k.sz+Nat.min m.length (l.length - lo))).toArray):=
    ⟨⟨rfl,rfl,rfl,by simp,fun b hb hne=>setRow_other w g b _ (fun e=>hne (by simp [Value.ownBlock,e]))⟩,hm,.inl rfl,fun b hb=>by simp [Value.ownBlock] at hb;subst hb;simpa using (Array.getElem?_eq_some_iff.1 hg).1⟩
   have hx:=t.ext (C:=C)
   have hct:Cells k w (hid C O) (m.take n) (ml.take n):=by
    have:=hcm.take n hnm
    rwa [hs1,Nat.mul_one] at this
   have hln:lo+n≤l.length:=by
    have:n≤l.length - lo:=Nat.min_le_right _ _
    omega
   have hnew:Cells k w (hid C O) (cpy l lo m) (cl.take lo++(ml.take n++cl.drop (lo+n))):=by
    unfold cpy
    have e1:m.take (l.length - lo)=m.take n:=by
     by_cases h:m.length≤l.length - lo
     ·rw [List.take_of_length_le h,List.take_of_length_le]
      show m.length≤min m.length (l.length - lo)
      rw [Nat.min_eq_left h];exact Nat.le_refl _
     ·have:n=l.length - lo:=Nat.min_eq_right (by omega)
      rw [this]
    rw [e1]
    have h5:=hc.take lo hlo
    have h6:=hc.drop (lo+n) hln
    rw [hs1,Nat.mul_one] at h5 h6
    exact h5.append (hct.append h6)
   have hcll:cl.length=l.length:=by rw [hc.len,hs1,Nat.mul_one]
   refine Z5a hh t hd (goInt (Nat.min m.length (l.length - lo))) (hA _ _) (cl:=cl.take lo++(ml.take n++cl.drop (lo+n))) ?_ (hnew.mono hx)
   rw [Yl1 l lo m hlo]
   have hltk:(ml.take n).length=n:=hcsl
   refine ⟨?_,.inr ⟨g,c,_,rfl,hbg,setRow_heap w g _ _ _ _ hg,hnc,hcmx,?_,?_⟩⟩
   ·simp only [List.length_append,List.length_take,List.length_drop,hmlen,hcll,hs1,Nat.mul_one]
    have:min n m.length=n:=Nat.min_eq_left hnm
    omega
   ·simp only [List.size_toArray,List.length_append,List.length_take,List.length_drop,Array.length_toList,hcurs,hs1,Nat.mul_one,hmlen]
    have:min n m.length=n:=Nat.min_eq_left hnm
    have e:Nat.min m.length (l.length - lo)=n:=rfl
    omega
   ·rw [hs1,Nat.mul_one,Nat.mul_one]
    have htk':cur.toList.take l.length=cl:=by rw [←htk,hs1,Nat.mul_one]
    rw [←htk']
    show (List.take lo cur.toList++ml.take n++List.drop (lo+n) cur.toList).take l.length=_
    have hlc:cur.toList.length=c:=by rw [Array.length_toList,hcurs]
    rw [List.append_assoc,List.take_append,List.take_append,List.length_take,hltk,hlc]
    have e1:min lo c=lo:=Nat.min_eq_left (by omega)
    have e2:n≤l.length - lo:=by omega
    rw [e1,List.take_take,List.take_take,List.take_take,Nat.min_eq_right (show lo≤l.length by omega),Nat.min_eq_left (show lo≤l.length by omega),Nat.min_eq_right e2,List.drop_take]
    congr 3
    omega
end copy
end Go.Wb
namespace Go.Wb
open Go
section ren
variable {C : Ctx} {S : St}
theorem Hold.dropr {a:Act}{w:World}(j:Nat)(hh:Hold C S a w):Hold C (S.setr j emp) a w:=by
 obtain ⟨O,hh⟩:=hh
 exact ⟨O,{hh with
  dfr:=hh.dfr
  slot:=hh.slot
  res:=fun i=>by
   by_cases e:i=j
   ·subst e;simp only [St.setr,Z02];trivial
   ·simp only [St.setr];rw [Z00 _ _ e];exact hh.res i}⟩
theorem Hold.renameD {a:Act}{w:World}{i j:Nat}{R:Res}(hij:i≠j)(hr:S.r i=R)(hh:Hold C S a w):Hold C (((S.setr j emp).setr i emp).setr j R) a w:=
 (hh.dropr j).rename hij (by simp only [St.setr];rw [Z00 _ _ hij];exact hr) (by simp only [St.setr,Z02])
theorem AW.renameD {Q:Exit→St→Prop}{x:Code}(i j:Nat){R:Res}(hij:i≠j)(hr:S.r i=R)(h:AW C x Q (((S.setr j emp).setr i emp).setr j R)):AW C x Q S:=fun a w hh=>h a w (hh.renameD hij hr)
theorem AOps.renameD {ops:Array Oper}{Q:Exit→St→Prop}{x:List Oper}(i j:Nat){R:Res}(hij:i≠j)(hr:S.r i=R)(h:AOps C ops Q x (((S.setr j emp).setr i emp).setr j R)):AOps C ops Q x S:=fun a w hh=>h a w (hh.renameD hij hr)
theorem AW.dropr {Q:Exit→St→Prop}{x:Code}(j:Nat)(h:AW C x Q (S.setr j emp)):AW C x Q S:=fun a w hh=>h a w (hh.dropr j)
end ren
end Go.Wb
namespace Go.Wb
open Go
def cnt (L:Nat→Bool):Nat→Nat
 | 0=>0
 | n+1=>cnt L n+(if L n=true then 0 else 1)
def Z5u (L:Nat→Bool)(i:Nat):Nat→Bool:=fun j=>bif Nat.beq j i then true else L j
theorem Zd4 (L:Nat→Bool)(i:Nat):Z5u L i i=true:=by simp [Z5u]
theorem Z4v (L:Nat→Bool){i j:Nat}(h:j≠i):Z5u L i j=L j:=by
 unfold Z5u
 have:Nat.beq j i=false:=by
  cases hb:Nat.beq j i with
  | false=>rfl
  | true=>exact absurd (Nat.eq_of_beq_eq_true hb) h
 rw [this];rfl
theorem Zym (L:Nat→Bool)(i:Nat):∀n,n≤i→cnt (Z5u L i) n=cnt L n
 | 0,_=>rfl
 | n+1,h=>by rw [cnt,cnt,Zym L i n (by omega),Z4v L (by omega)]
theorem Y0x (L:Nat→Bool)(i:Nat)(hi:L i=false):∀n,i<n→cnt L n=cnt (Z5u L i) n+1
 | n+1,h=>by
  rw [cnt,cnt]
  by_cases e:i=n
  ·subst e
   rw [Zym L i i (Nat.le_refl _),Zd4,hi];simp
  ·rw [Y0x L i hi n (by omega),Z4v L (fun h=>e h.symm)]
   omega
theorem Y2q (L:Nat→Bool):∀n,cnt L n=0→∀i,i<n→L i=true
 | n+1,h,i,hi=>by
  rw [cnt] at h
  by_cases e:i=n
  ·subst e
   cases hL:L i with
   | true=>rfl
   | false=>rw [hL] at h;simp at h
  ·exact Y2q L n (by omega) i (by omega)
def gl (listed:Array Bool):Nat→Bool:=fun i=>listed.getD i false
theorem Zw4 {listed:Array Bool}{i:Nat}(h:i<listed.size):gl (listed.setIfInBounds i true)=Z5u (gl listed) i:=by
 funext j
 unfold gl
 by_cases e:j=i
 ·subst e
  rw [Zd4];simp [Array.getD_eq_getD_getElem?,Array.getElem?_setIfInBounds,h]
 ·rw [Z4v _ e];simp [Array.getD_eq_getD_getElem?,Array.getElem?_setIfInBounds,Ne.symm e]
section set
variable {C : Ctx} {ops : Array Oper} {md : Region.Mode} {Inv : (Nat → Bool) → St → Prop}
theorem Y97 {Q':Exit→Act→World→Prop}
  (step:∀L S' i o,Inv L S'→ops[i]? =some o→L i=false→(∀e∈o.after,Region.binds md e=true→L e.on=true)→∃p,Loc C ops o S' p∧Inv (Z5u L i) (S'.ap p))
  (back:∀(i:Nat) o,ops[i]? =some o→∀e∈o.after,Region.binds md e=true→e.on<i)
  (fin:∀L S' a w,(∀i,i<ops.size→L i=true)→Inv L S'→Hold C S' a w→Q' .normal a w):
  ∀(fuel:Nat) (listed:Array Bool) (S':St) (a:Act) (w:World),listed.size=ops.size→cnt (gl listed) ops.size=fuel→Inv (gl listed) S'→Hold C S' a w→wpAnyIn C.fen 0 C.P md ops Q' fuel listed a w:=by
 have all:∀(listed:Array Bool),listed.size=ops.size→Region.ready md ops listed=[]→∀i,i<ops.size→gl listed i=true:=by
  intro listed hs hr i
  induction i using Nat.strongRecOn with
  | _ i ih=>
   intro hi
   cases hL:gl listed i with
   | true=>rfl
   | false=>
    exfalso
    have hm:i∈Region.ready md ops listed:=mem_ready.2 ⟨by
     have:listed.getD i false=false:=hL
     simpa [Array.getD_eq_getD_getElem?,hs,hi] using this,ops[i],Array.getElem?_eq_getElem hi,fun e he hb=>by
      have:=back i _ (Array.getElem?_eq_getElem hi) e he hb
      exact ih e.on this (by omega)⟩
    rw [hr] at hm;cases hm
 intro fuel
 induction fuel with
 | zero=>
  intro listed S' a w hs hc hI hh
  have h1:=Y2q _ _ hc
  refine ⟨?_,fin _ S' a w h1 hI hh⟩
  cases hq:Region.ready md ops listed with
  | nil=>rfl
  | cons j l=>
   have hj:j∈Region.ready md ops listed:=by rw [hq];simp
   obtain ⟨h2,o,h3,_⟩:=mem_ready.1 hj
   have hlt:j<ops.size:=(Array.getElem?_eq_some_iff.1 h3).1
   have h4:=h1 j hlt
   unfold gl at h4
   simp [Array.getD_eq_getD_getElem?,hs,hlt] at h2 h4
   rw [h4] at h2;cases h2
 | succ fuel ih=>
  intro listed S' a w hs hc hI hh
  refine ⟨fun h0=>fin _ S' a w (all listed hs h0) hI hh,fun i hi=>?_⟩
  obtain ⟨h2,o,ho,hdep⟩:=mem_ready.1 hi
  have hlt:i<ops.size:=(Array.getElem?_eq_some_iff.1 ho).1
  have hLi:gl listed i=false:=Y11 h2
  obtain ⟨p,hl,hn⟩:=step (gl listed) S' i o hI ho hLi hdep
  rw [←Zw4 (by omega)] at hn
  have hc':cnt (gl (listed.setIfInBounds i true)) ops.size=fuel:=by
   have:=Y0x (gl listed) i hLi ops.size hlt
   rw [Zw4 (by omega)];omega
  have hs':(listed.setIfInBounds i true).size=ops.size:=by simp [hs]
  have hg:=hl S' rfl (fun _ _=>rfl) (fun _ _=>rfl) a w hh
  unfold wpOpIn
  simp only [ho]
  split
  ·rename_i hw
   rw [if_pos hw] at hg
   exact ⟨hg.1,Oper.uponIn_mono (fun a' w' hh'=>ih _ _ a' w' hs' hc' hn hh') (fun _ _ _ h=>h.elim) _ hg.2⟩
  ·rename_i hw
   rw [if_neg hw] at hg
   exact ⟨fun _ _=>trivial,ih _ _ _ _ hs' hc' hn hg⟩
theorem AW.regionSet {Q:Exit→St→Prop}{S:St}{id:Nat}(Inv:(Nat→Bool)→St→Prop)(hm:C.P.follows .mixedOrders=true)
  (back:(List.range ops.size).all (fun i=>match ops[i]? with | some o=>o.after.all fun e=> !Region.binds .any e||Nat.blt e.on i | none=>true)=true)
  (start:Inv (fun _=>false) S)
  (step:∀L S' i o,Inv L S'→ops[i]? =some o→L i=false→(∀e∈o.after,Region.binds .any e=true→L e.on=true)→∃p,Loc C ops o S' p∧Inv (Z5u L i) (S'.ap p))
  (fin:∀L S',(∀i,i<ops.size→L i=true)→Inv L S'→Q .normal S'):AW C (.region id ops true) Q S:=by
 intro a w hh
 have hz:gl (Array.replicate ops.size false)=fun _=>false:=by
  funext i
  unfold gl
  simp only [Array.getD_eq_getD_getElem?,Array.getElem?_replicate]
  split<;>rfl
 have hcz:∀n,cnt (fun _=>false) n=n:=fun n=>by
  induction n with
  | zero=>rfl
  | succ n ih=>rw [cnt,ih];rfl
 refine wpIn_region_any hm (Y97 (Inv:=Inv) (md:= .any) step (fun i o ho e he hb=>?_) (fun L S' a' w' h1 h2 h3=>⟨S',fin L S' h1 h2,h3⟩) _ _ S _ _ (by simp) ?_ (by rw [hz];exact start) hh.drawn)
 ·have hlt:i<ops.size:=(Array.getElem?_eq_some_iff.1 ho).1
  have h1:=List.all_eq_true.1 back i (List.mem_range.2 hlt)
  simp only [ho] at h1
  have h2:=Array.all_eq_true_iff_forall_mem.1 h1 e he
  rw [hb] at h2
  simpa using h2
 ·rw [hz,hcz]
end set
section maps
variable {κ : Type} [DecidableEq κ] {C : Ctx} {S : St} {o : Oper}
def Z9i (b:Nat)(k:Kd κ)(m:List (κ×Int))(x:κ)(n:Nat):Res:=
 ⟨fun w H M=>M b∧∃es clock,MapAt k w H b m es clock∧((∃(j:Nat) (e:MapEntry),es[j]? =some e∧e.born=n∧m[j]? =some (x,Z0w m x))∨(x∉List.map Prod.fst m∧clock=n)),
  fun h ⟨hm,es,clock,ha,r⟩=>let ⟨a,c⟩:=h.own b (Array.getElem?_eq_some_iff.1 ha.1).1 hm;⟨a,es,clock,ha.mono h.pure_ c,r⟩⟩
theorem EntC.at_ {k:Kd κ}{w:World}{H:HS}{m:List (κ×Int)}{es:List MapEntry}(h:EntC k w H m es){j:Nat}(hj:j<m.length):∃e,es[j]? =some e:=
 ⟨es[j]'(by rw [h.length];exact hj),List.getElem?_eq_getElem _⟩
theorem AW.mapOpen {Q:Exit→St→Prop}{c:Code}(x:κ){i b:Nat}{k:Kd κ}{m:List (κ×Int)}(hr:S.r i=Z2d b k m)(h:∀n,AW C c Q (S.setr i (Z9i b k m x n))):AW C c Q S:=by
 rintro a w ⟨O,hh⟩
 have h5:=hh.res i
 rw [hr] at h5
 obtain ⟨hm,es,clock,ha⟩:=h5
 obtain ⟨n,hn⟩:∃n,(∃(j:Nat) (e:MapEntry),es[j]? =some e∧e.born=n∧m[j]? =some (x,Z0w m x))∨(x∉m.map (·.1)∧clock=n):=by
  by_cases hx:x∈m.map (·.1)
  ·obtain ⟨p,hp,rfl⟩:=List.mem_map.1 hx
   obtain ⟨j,hj⟩:=List.getElem?_of_mem hp
   obtain ⟨e,he⟩:=ha.2.1.at_ (List.getElem?_eq_some_iff.1 hj).1
   exact ⟨e.born,.inl ⟨j,e,by rw [←Array.getElem?_toList];exact he,rfl,by rw [Zrf ha.2.2.2.2 hj];exact hj⟩⟩
  ·exact ⟨clock,.inr ⟨hx,rfl⟩⟩
 refine h n a w ⟨O,{hh with dfr:=hh.dfr,slot:=hh.slot,res:=fun j=>?_}⟩
 by_cases e:j=i
 ·subst e;simp only [St.setr,Z02];exact ⟨hm,es,clock,ha,hn⟩
 ·simp only [St.setr];rw [Z00 _ _ e];exact hh.res j
theorem Y8d {T kt:TypeId}{k:Kd κ}{m:List (κ×Int)}{x:κ}{b i n:Nat}{p q:Operand}(ho:o.op= .lookup T p q false)(hd:Zq o C.N=true)(ht:MTy C.P T kt k)(hp:Val C S p (Zg (.map (some b))))(hr:S.r i=Z9i b k m x n∨S.r i=Zcb b k m x n)(hq:Val C S q (rd k x)):
  OpE C o S (S.put o.dst (rd (Z0 .i64) (Z0w m x))):=
 OpE.plain (by simp [ho]) hd fun O a w hh=>by
  have h1:a.eval p= .map (some b):=hp.of hh
  obtain ⟨cs,hc,hv⟩:=hq.of hh
  have h2:=hh.res i
  obtain ⟨m',es,clock,ha,e⟩:∃m' es clock,MapAt k w (hid C O) b m' es clock∧Z0w m' x=Z0w m x:=by
   rcases hr with hr | hr
   ·rw [hr] at h2
    obtain ⟨hm,es,clock,ha,_⟩:=h2
    exact ⟨m,es,clock,ha,rfl⟩
   ·rw [hr] at h2
    obtain ⟨hm,es,clock,ha,_⟩:=h2
    exact ⟨_,es,clock,ha,by unfold Z52;rw [Yew,if_pos rfl]⟩
  obtain ⟨h3,h4⟩:=Y3s ht ha hc
  rw [e] at h3 h4
  exact ⟨_,by simp [execOp,ho,h1,hv,h3,Result.andThen],Z35 h4⟩
theorem Y4v {k:Kd κ}{w:World}{H:HS}{b:Nat}{m:List (κ×Int)}{x:κ}{es:Array MapEntry}{clock j j':Nat}{e e':MapEntry}{v v':Int}(ha:MapAt k w H b m es clock)(hj:es[j]? =some e)(hm:m[j]? =some (x,v))(hj':es[j']? =some e')(hm':m[j']? =some (x,v')):e=e':=by
 have hn:=ha.2.2.2.2
 obtain ⟨h1,h2⟩:=List.getElem?_eq_some_iff.1 hm
 obtain ⟨h3,h4⟩:=List.getElem?_eq_some_iff.1 hm'
 have:j=j':=by
  have hlt:j<(m.map (·.1)).length:=by simpa using h1
  have hlt':j'<(m.map (·.1)).length:=by simpa using h3
  have he:(m.map (·.1))[j]=(m.map (·.1))[j']:=by simp [h2,h4]
  exact (List.getElem_inj hn).1 he
 subst this
 rw [hj] at hj'
 exact Option.some.inj hj'
theorem Y9r {P:Program}{T kt:TypeId}{k:Kd κ}(ht:MTy P T kt k){w:World}{H:HS}{b:Nat}{m:List (κ×Int)}{es:Array MapEntry}{clock:Nat}(ha:MapAt k w H b m es clock){x:κ}{cs:List Value}(hc:k.C w H x cs){n:Nat}(hopen:(∃(j:Nat) (e:MapEntry),es[j]? =some e∧e.born=n∧m[j]? =some (x,Z0w m x))∨(x∉List.map Prod.fst m∧clock=n)):
  ∃(es':Array MapEntry) (clock' j:Nat) (e:MapEntry),(Instr.mapEntry T (.map (some b)) (mkv k.agg cs)).run P w= .ok (.tuple #[.int .i64 (Z0w m x),goInt e.born]) (Z2c w b (.map es' clock'))∧IntKind.i64.has (Z0w m x)∧
   EntC k w H (Z52 m x) es'.toList∧(∀e∈es'.toList,e.born<clock')∧(es'.toList.map (·.born)).Nodup∧es'[j]? =some e∧(Z52 m x)[j]? =some (x,Z0w m x)∧e.born=n:=by
 obtain ⟨e,hu,hz⟩:=ht.u
 obtain ⟨l,hl⟩:=ht.key.reads hc
 have hck:=ht.key.law.check w false hl
 rcases Zs4 ht.key ha.2.1 hc with ⟨h1,h2⟩ | ⟨j,en,v,h1,h2,h3,h4,h5,h6⟩
 ·have h0:=Zw5 h2
  refine ⟨es.push {key:=mkv k.agg cs,val:= .int .i64 0,born:=clock},clock+1,es.size,{key:=mkv k.agg cs,val:= .int .i64 0,born:=clock},?_,by rw [h0];exact ⟨by decide,by decide⟩,?_,?_,?_,by simp,?_,?_⟩
  ·rw [h0]
   simp [Instr.mapEntry,run_underlying hu,getObj,setObj,Sem.run,ha.1,hck,h1,Zxc hz,Result.andThen,Z2c,goInt]
  ·unfold Z52
   rw [Zrl h2,h0,Array.toList_push]
   exact ha.2.1.push hc ⟨by decide,by decide⟩ rfl rfl
  ·intro e he
   rw [Array.toList_push,List.mem_append] at he
   rcases he with he | he
   ·exact Nat.lt_succ_of_lt (ha.2.2.1 e he)
   ·rw [List.mem_singleton.1 he];exact Nat.lt_succ_self _
  ·rw [Array.toList_push,List.map_append,List.nodup_append]
   refine ⟨ha.2.2.2.1,by simp,?_⟩
   intro a h7 c h8 e
   obtain ⟨e',he',rfl⟩:=List.mem_map.1 h7
   have:=ha.2.2.1 e' he'
   simp at h8
   omega
  ·unfold Z52
   have:=ha.2.1.length
   rw [Zrl h2,h0,List.getElem?_append_right (by simp at this;omega)]
   simp at this
   simp [this]
  ·rcases hopen with ⟨j',e',_,_,hx⟩ | ⟨_,h⟩
   ·exact absurd (List.mem_map.2 ⟨_,List.mem_of_getElem? hx,rfl⟩) h2
   ·exact h
 ·have hv:=Zrf ha.2.2.2.2 h3
  have hst:=ht.key.law.stays w hl
  have hmod:=Yj3 (key:=mkv k.agg cs) h2 h4
  have hj:es[j]? =some en:=by rw [←Array.getElem?_toList];exact h2
  refine ⟨es,clock,j,en,?_,by rw [hv];exact h6,?_,ha.2.2.1,ha.2.2.2.1,hj,?_,?_⟩
  ·rw [hv]
   simp [Instr.mapEntry,run_underlying hu,getObj,setObj,Sem.run,ha.1,hck,h1,h5,hj,h4,hst,hmod,Result.andThen,Z2c,goInt]
  ·unfold Z52
   rw [hv,Zmz ha.2.2.2.2 h3,Zl2 h3]
   exact ha.2.1
  ·unfold Z52
   rw [hv,Zmz ha.2.2.2.2 h3,Zl2 h3]
   exact h3
  ·rcases hopen with ⟨j',e',g1,g2,g3⟩ | ⟨hx,_⟩
   ·rw [Y4v ha hj h3 g1 g3];exact g2
   ·exact absurd (List.mem_map.2 ⟨_,List.mem_of_getElem? h3,rfl⟩) hx
theorem Ybf {T kt:TypeId}{k:Kd κ}{m:List (κ×Int)}{x:κ}{b i n:Nat}{p q:Operand}(ho:o.op= .mapEntry T p q)(hd:Zq o C.N=true)(ht:MTy C.P T kt k)(hp:Val C S p (Zg (.map (some b))))(hr:S.r i=Z9i b k m x n)(hq:Val C S q (rd k x)):
  OpE C o S ((S.put o.dst (Z0t (rd (Z0 .i64) (Z0w m x)) (Zg (goInt n)))).setr i (Zcb b k m x n)):=
 OpE.value (by simp [ho]) fun O a w hh=>by
  have h1:a.eval p= .map (some b):=hp.of hh
  obtain ⟨cs,hc,hv⟩:=hq.of hh
  have h2:=hh.res i
  rw [hr] at h2
  obtain ⟨hm,es,clock,ha,hopen⟩:=h2
  have hlt:b<w.heap.size:=(Array.getElem?_eq_some_iff.1 ha.1).1
  obtain ⟨es',clock',j,e,h3,h4,h5,h6,h7,h8,h9,h10⟩:=Y9r ht ha hc hopen
  rw [h10] at h3
  refine ⟨_,_,by simp only [execOp,ho,h1,hv,Sem.run_bind,h3];rfl,Zkp hh hm (Z2r hd) ⟨_,_,rfl,Z35 h4,rfl⟩ ⟨hm,es',clock',?_,j,e,h8,h10,h9⟩⟩
  have hx:Ext w (hid C O) Zl (Z2c w b (.map es' clock')) (hid C O) Zl:=⟨by simp [Z2c],fun c hc hn=>⟨hn,Zfr (fun e=>hn (.inr (by rw [e];have hm':O b=Ro i:=hm;rw [hm'];exact Z0m i)))⟩,fun _ _ h=>h.elim⟩
  exact ⟨Zi3 hlt,h5.mono hx,h6,h7,Zqu ha.2.2.2.2 _ _⟩
structure MInv (S:St) (D:Nat→Nat) (A:Nat→Zb) (i:Nat) (R0 R1 R2:Res) (L:Nat→Bool) (S':St):Prop where
 d:S'.d=S.d
 o:∀t,(∀j,j<6→D j≠t)→S'.s t=S.s t
 s:∀j,j<6→L j=true→S'.s (D j)=A j
 r:∀q,q≠i→S'.r q=S.r q
 ri:S'.r i=if L 6=true then R2 else if L 4=true then R1 else R0
 l6:L 6=true→L 2=true∧L 4=true
section minv
variable {D : Nat → Nat} {A : Nat → Zb} {i : Nat} {R0 R1 R2 : Res} {L : Nat → Bool} {S' : St} {rs rr : List Nat}
theorem MInv.slot (inj:∀j j',j<6→j'<6→D j=D j'→j=j')(h:MInv S D A i R0 R1 R2 L S')(n:Nat)(hn:n<6)(h4:n≠4):MInv S D A i R0 R1 R2 (Z5u L n) (S'.ap ⟨rs,rr,[(D n,A n)],[]⟩) where
 d:=h.d
 o:=fun t ht=>by
  show upd S'.s (D n) (A n) t=_
  rw [Z00 _ _ (fun e=>ht n hn e.symm)];exact h.o t ht
 s:=fun j hj hl=>by
  show upd S'.s (D n) (A n) (D j)=_
  by_cases e:j=n
  ·subst e;rw [Z02]
  ·rw [Z00 _ _ (fun e'=>e (inj j n hj hn e'))]
   rw [Z4v L e] at hl
   exact h.s j hj hl
 r:=h.r
 ri:=by
  rw [Z4v L (by omega:(6:Nat)≠n),Z4v L (Ne.symm h4)];exact h.ri
 l6:=fun hl=>by
  rw [Z4v L (by omega:(6:Nat)≠n)] at hl
  obtain ⟨a,b⟩:=h.l6 hl
  refine ⟨?_,by rw [Z4v L (Ne.symm h4)];exact b⟩
  by_cases e:(2:Nat)=n
  ·rw [←e];exact Zd4 L 2
  ·rw [Z4v L e];exact a
theorem MInv.entry (inj:∀j j',j<6→j'<6→D j=D j'→j=j')(h:MInv S D A i R0 R1 R2 L S')(h6:L 6=false):MInv S D A i R0 R1 R2 (Z5u L 4) (S'.ap ⟨rs,rr,[(D 4,A 4)],[(i,R1)]⟩) where
 d:=h.d
 o:=fun t ht=>by
  show upd S'.s (D 4) (A 4) t=_
  rw [Z00 _ _ (fun e=>ht 4 (by omega) e.symm)];exact h.o t ht
 s:=fun j hj hl=>by
  show upd S'.s (D 4) (A 4) (D j)=_
  by_cases e:j=4
  ·subst e;rw [Z02]
  ·rw [Z00 _ _ (fun e'=>e (inj j 4 hj (by omega) e'))]
   rw [Z4v L e] at hl
   exact h.s j hj hl
 r:=fun q hq=>by show upd S'.r i R1 q=_;rw [Z00 _ _ hq];exact h.r q hq
 ri:=by
  rw [Z4v L (by omega:(6:Nat)≠4),Zd4,h6]
  show upd S'.r i R1 i=_
  rw [Z02];simp
 l6:=fun hl=>by rw [Z4v L (by omega:(6:Nat)≠4),h6] at hl;cases hl
theorem MInv.store (h:MInv S D A i R0 R1 R2 L S')(h2:L 2=true)(h4:L 4=true):MInv S D A i R0 R1 R2 (Z5u L 6) (S'.ap ⟨rs,rr,[],[(i,R2)]⟩) where
 d:=h.d
 o:=h.o
 s:=fun j hj hl=>by rw [Z4v L (by omega)] at hl;exact h.s j hj hl
 r:=fun q hq=>by show upd S'.r i R2 q=_;rw [Z00 _ _ hq];exact h.r q hq
 ri:=by
  rw [Zd4]
  show upd S'.r i R2 i=_
  rw [Z02];simp
 l6:=fun _=>⟨by rw [Z4v L (by omega)];exact h2,by rw [Z4v L (by omega)];exact h4⟩
def Z4u (D:Nat→Nat)(A:Nat→Zb)(S:St):Nat→St
 | 0=>S
 | n+1=>(Z4u D A S n).set (D n) (A n)
theorem Zqy (D:Nat→Nat)(A:Nat→Zb)(S:St):∀n,(Z4u D A S n).r=S.r∧(Z4u D A S n).d=S.d
 | 0=>⟨rfl,rfl⟩
 | n+1=>Zqy D A S n
theorem Zzf {t:Nat}:∀n,(∀j,j<n→D j≠t)→(Z4u D A S n).s t=S.s t
 | 0,_=>rfl
 | n+1,h=>by
  show upd (Z4u D A S n).s (D n) (A n) t=_
  rw [Z00 _ _ (fun e=>h n (by omega) e.symm)]
  exact Zzf n fun j hj=>h j (by omega)
theorem Zzu {N:Nat}(inj:∀j j',j<N→j'<N→D j=D j'→j=j'):∀n,n≤N→∀j,j<n→(Z4u D A S n).s (D j)=A j
 | n+1,hn,j,hj=>by
  show upd (Z4u D A S n).s (D n) (A n) (D j)=_
  by_cases e:j=n
  ·subst e;rw [Z02]
  ·rw [Z00 _ _ (fun e'=>e (inj j n (by omega) (by omega) e'))]
   exact Zzu inj n (by omega) j (by omega)
theorem MInv.fin (inj:∀j j',j<6→j'<6→D j=D j'→j=j')(h:MInv S D A i R0 R1 R2 L S')(hL:∀j,j<7→L j=true):S'=(Z4u D A S 6).setr i R2:=by
 have hs:S'.s=(Z4u D A S 6).s:=by
  funext t
  by_cases ht:∃j,j<6∧D j=t
  ·obtain ⟨j,hj,rfl⟩:=ht
   rw [h.s j hj (hL j (by omega)),Zzu inj 6 (Nat.le_refl _) j hj]
  ·have ht':∀j,j<6→D j≠t:=fun j hj e=>ht ⟨j,hj,e⟩
   rw [h.o t ht',Zzf 6 ht']
 have hr:S'.r=upd (Z4u D A S 6).r i R2:=by
  funext q
  by_cases hq:q=i
  ·subst hq;rw [Z02,h.ri,hL 6 (by omega)];simp
  ·rw [Z00 _ _ hq,h.r q hq,(Zqy D A S 6).1]
 have hd:S'.d=(Z4u D A S 6).d:=by rw [h.d,(Zqy D A S 6).2]
 cases S' with
 | mk s r d=>simp only at hs hr hd;subst hs;subst hr;subst hd;rfl
end minv
def aft (o:Oper)(l:List Nat):Bool:=l.all fun j=>o.after.any fun e=>Region.binds .any e&&Nat.beq e.on j
theorem Z62 {o:Oper}{l:List Nat}(h:aft o l=true){L:Nat→Bool}(hd:∀e∈o.after,Region.binds .any e=true→L e.on=true){j:Nat}(hj:j∈l):L j=true:=by
 have h1:=List.all_eq_true.1 h j hj
 obtain ⟨e,he,h2⟩:=Array.any_eq_true'.1 h1
 simp only [Bool.and_eq_true] at h2
 have:=Nat.eq_of_beq_eq_true h2.2
 subst this
 exact hd e he h2.1
def Zch (d0 d1 d2 d3 d4 d5:Nat):Nat→Nat
 | 0=>d0 | 1=>d1 | 2=>d2 | 3=>d3 | 4=>d4 | _=>d5
def Zlo (A0 A1 A2 A3 A4 A5:Zb):Nat→Zb
 | 0=>A0 | 1=>A1 | 2=>A2 | 3=>A3 | 4=>A4 | _=>A5
def Zlp (l:List Nat)(D:Nat→Nat)(N:Nat):Bool:=(List.range 6).all fun j=>(Nat.blt (D j) N)&&(l.all fun t=> !Nat.beq (D j) t)&&(List.range 6).all fun j'=>Nat.beq j j'|| !Nat.beq (D j) (D j')
theorem Yoe {l:List Nat}{D:Nat→Nat}{N:Nat}(h:Zlp l D N=true):∀j j',j<6→j'<6→D j=D j'→j=j':=fun j j' hj hj' e=>by
 have h1:=List.all_eq_true.1 h j (List.mem_range.2 hj)
 simp only [Bool.and_eq_true] at h1
 have h2:=List.all_eq_true.1 h1.2 j' (List.mem_range.2 hj')
 rcases Bool.or_eq_true_iff.1 h2 with h3 | h3
 ·exact Nat.eq_of_beq_eq_true h3
 ·rw [e] at h3;simp at h3
theorem Zzp {l:List Nat}{D:Nat→Nat}{N:Nat}(h:Zlp l D N=true){t:Nat}(ht:t∈l):∀j,j<6→D j≠t:=fun j hj e=>by
 have h1:=List.all_eq_true.1 h j (List.mem_range.2 hj)
 simp only [Bool.and_eq_true] at h1
 have h2:=List.all_eq_true.1 h1.1.2 t ht
 rw [e] at h2;simp at h2
theorem Yfi {l:List Nat}{D:Nat→Nat}{N:Nat}(h:Zlp l D N=true){j:Nat}(hj:j<6):Nat.blt (D j) N=true:=by
 have h1:=List.all_eq_true.1 h j (List.mem_range.2 hj)
 simp only [Bool.and_eq_true] at h1
 exact h1.1.1
theorem Yoo {o:Oper}{N d:Nat}(h:o.dst=some d)(hd:Nat.blt d N=true):Zq o N=true:=by unfold Zq;rw [h];exact hd
theorem AW.mapInc {Q:Exit→St→Prop}{id i j1 b t0 t1 d0 d1 d2 d3 d4 d5:Nat}{o0 o1 o2 o3 o4 o5 o6:Oper}{T kt U U':TypeId}{k:Kd κ}{m:List (κ×Int)}{x:κ}(hm:C.P.follows .mixedOrders=true)(ht:MTy C.P T kt k)
  (e0:(o0.op,o0.dst,o0.guard)=(Op.move (.tmp t0),some d0,none))(e1:(o1.dst,o1.guard)=(some d1,none))(e2:(o2.op,o2.dst,o2.guard)=(Op.lookup T (.tmp d0) (.tmp d1) false,some d2,none))
  (e3:(o3.op,o3.dst,o3.guard)=(Op.binOp .add U (.tmp d2) (.const (.int .i64 1)) U',some d3,none))(e4:(o4.op,o4.dst,o4.guard)=(Op.mapEntry T (.tmp d0) (.tmp d1),some d4,none))
  (e5:(o5.op,o5.dst,o5.guard)=(Op.extract (.tmp d4) 1,some d5,none))(e6:(o6.op,o6.dst,o6.guard)=(Op.entryStore T (.tmp d0) (.tmp d5) (.tmp d3),none,none))
  (hback:(List.range (#[o0,o1,o2,o3,o4,o5,o6]:Array Oper).size).all (fun i=>match (#[o0,o1,o2,o3,o4,o5,o6]:Array Oper)[i]? with | some o=>o.after.all fun e=> !Region.binds .any e||Nat.blt e.on i | none=>true)=true)
  (haft:(aft o2 [0,1],aft o3 [2],aft o4 [0,1],aft o5 [4],aft o6 [0,2,3,4,5])=(true,true,true,true,true))(hdiff:Zlp [t0,t1] (Zch d0 d1 d2 d3 d4 d5) C.N=true)(hj1:Nat.beq j1 i=false)
  (hs:S.s t0=Zg (.map (some b)))(hr:S.r i=Z2d b k m)(h1:∀S':St,S'.s t1=S.s t1→S'.r j1=S.r j1→OpE C o1 S' (S'.put o1.dst (rd k x)))
  (hK:∀n:Nat,Q .normal ((Z4u (Zch d0 d1 d2 d3 d4 d5) (Zlo (Zg (.map (some b))) (rd k x) (rd (Z0 .i64) (Z0w m x)) (rd (Z0 .i64) (IntKind.i64.wrap (Z0w m x+1))) (Z0t (rd (Z0 .i64) (Z0w m x)) (Zg (goInt n))) (Zg (goInt n))) S 6).setr i (Z2d b k (Z1i m x (IntKind.i64.wrap (Z0w m x+1)))))):
  AW C (.region id #[o0,o1,o2,o3,o4,o5,o6] true) Q S:=by
 simp only [Prod.mk.injEq] at e0 e1 e2 e3 e4 e5 e6 haft
 have inj:=Yoe hdiff
 have hj1':j1≠i:=fun e=>by rw [e] at hj1;simp at hj1
 have out0:=Zzp hdiff (t:=t0) (by simp)
 have out1:=Zzp hdiff (t:=t1) (by simp)
 refine AW.mapOpen x hr fun n=>?_
 refine AW.regionSet (MInv (S.setr i (Z9i b k m x n)) (Zch d0 d1 d2 d3 d4 d5) (Zlo (Zg (.map (some b))) (rd k x) (rd (Z0 .i64) (Z0w m x)) (rd (Z0 .i64) (IntKind.i64.wrap (Z0w m x+1))) (Z0t (rd (Z0 .i64) (Z0w m x)) (Zg (goInt n))) (Zg (goInt n))) i (Z9i b k m x n) (Zcb b k m x n) (Z2d b k (Z1i m x (IntKind.i64.wrap (Z0w m x+1))))) hm hback ⟨rfl,fun _ _=>rfl,(fun j _ h=>by cases h),fun _ _=>rfl,(by simp [St.setr,Z02]),(fun h=>by cases h)⟩ ?_ ?_
 ·intro L S' q o hI ho hL hdep
  have hlt:q<7:=by
   have:=(Array.getElem?_eq_some_iff.1 ho).1
   simpa using this
  have hst:S'.s t0=Zg (.map (some b)):=(hI.o t0 out0).trans hs
  have dk:∀{o:Oper} {d j:Nat},o.dst=some d→j<6→Zch d0 d1 d2 d3 d4 d5 j=d→Zq o C.N=true:=fun h hj e=>Yoo h (by rw [←e];exact Yfi hdiff hj)
  have cases7:q=0∨q=1∨q=2∨q=3∨q=4∨q=5∨q=6:=by omega
  rcases cases7 with rfl | rfl | rfl | rfl | rfl | rfl | rfl
  ·obtain rfl:o0=o:=by simpa using ho
   refine ⟨_,loc (A:=Zg (.map (some b))) [t0] [] e0.2.2 e0.2.1 fun S2 h2 _=>?_,hI.slot inj 0 (by omega) (by omega)⟩
   exact Zk e0.1 (dk (j:=0) e0.2.1 (by omega) rfl) (vt ((h2 t0 (by simp)).trans hst))
  ·obtain rfl:o1=o:=by simpa using ho
   refine ⟨_,loc (A:=rd k x) [t1] [j1] e1.2 e1.1 fun S2 h2 h3=>?_,hI.slot inj 1 (by omega) (by omega)⟩
   exact h1 S2 ((h2 t1 (by simp)).trans (hI.o t1 out1)) ((h3 j1 (by simp)).trans ((hI.r j1 hj1').trans (by simp only [St.setr];exact Z00 _ _ hj1')))
  ·obtain rfl:o2=o:=by simpa using ho
   have l0:=Z62 haft.1 hdep (j:=0) (by simp)
   have l1:=Z62 haft.1 hdep (j:=1) (by simp)
   have h6:L 6=false:=by
    cases h:L 6 with
    | false=>rfl
    | true=>have:=(hI.l6 h).1;rw [hL] at this;cases this
   refine ⟨_,loc (A:=rd (Z0 .i64) (Z0w m x)) [d0,d1] [i] e2.2.2 e2.2.1 fun S2 h2 h3=>?_,hI.slot inj 2 (by omega) (by omega)⟩
   refine Y8d e2.1 (dk (j:=2) e2.2.1 (by omega) rfl) ht (vt ((h2 d0 (by simp)).trans (hI.s 0 (by omega) l0))) (n:=n) (i:=i) ?_ (vt ((h2 d1 (by simp)).trans (hI.s 1 (by omega) l1)))
   have:=(h3 i (by simp)).trans hI.ri
   rw [h6] at this
   cases h4:L 4 with
   | false=>rw [h4] at this;exact .inl this
   | true=>rw [h4] at this;exact .inr this
  ·obtain rfl:o3=o:=by simpa using ho
   have l2:=Z62 haft.2.1 hdep (j:=2) (by simp)
   refine ⟨_,loc (A:=rd (Z0 .i64) (IntKind.i64.wrap (Z0w m x+1))) [d2] [] e3.2.2 e3.2.1 fun S2 h2 _=>?_,hI.slot inj 3 (by omega) (by omega)⟩
   exact Z0o e3.1 (dk (j:=3) e3.2.1 (by omega) rfl) (vt ((h2 d2 (by simp)).trans (hI.s 2 (by omega) l2))) (vk rfl)
  ·obtain rfl:o4=o:=by simpa using ho
   have l0:=Z62 haft.2.2.1 hdep (j:=0) (by simp)
   have l1:=Z62 haft.2.2.1 hdep (j:=1) (by simp)
   have h6:L 6=false:=by
    cases h:L 6 with
    | false=>rfl
    | true=>have:=(hI.l6 h).2;rw [hL] at this;cases this
   refine ⟨⟨[d0,d1],[i],[(d4,Z0t (rd (Z0 .i64) (Z0w m x)) (Zg (goInt n)))],[(i,Zcb b k m x n)]⟩,Z18 [d0,d1] [i] e4.2.2 fun S2 h2 h3=>?_,hI.entry inj h6⟩
   have hri:S2.r i=Z9i b k m x n:=by
    have:=(h3 i (by simp)).trans hI.ri
    rw [h6,hL] at this
    simpa using this
   have:=Ybf e4.1 (dk (j:=4) e4.2.1 (by omega) rfl) ht (vt ((h2 d0 (by simp)).trans (hI.s 0 (by omega) l0))) hri (vt ((h2 d1 (by simp)).trans (hI.s 1 (by omega) l1)))
   rw [e4.2.1] at this
   exact this
  ·obtain rfl:o5=o:=by simpa using ho
   have l4:=Z62 haft.2.2.2.1 hdep (j:=4) (by simp)
   refine ⟨_,loc (A:=Zg (goInt n)) [d4] [] e5.2.2 e5.2.1 fun S2 h2 _=>?_,hI.slot inj 5 (by omega) (by omega)⟩
   exact Z0z e5.1 (dk (j:=5) e5.2.1 (by omega) rfl) (vt ((h2 d4 (by simp)).trans (hI.s 4 (by omega) l4)))
  ·obtain rfl:o6=o:=by simpa using ho
   have l0:=Z62 haft.2.2.2.2 hdep (j:=0) (by simp)
   have l2:=Z62 haft.2.2.2.2 hdep (j:=2) (by simp)
   have l3:=Z62 haft.2.2.2.2 hdep (j:=3) (by simp)
   have l4:=Z62 haft.2.2.2.2 hdep (j:=4) (by simp)
   have l5:=Z62 haft.2.2.2.2 hdep (j:=5) (by simp)
   refine ⟨_,Z3d (i:=i) (r:=Z2d b k (Z1i m x (IntKind.i64.wrap (Z0w m x+1)))) [d0,d5,d3] [i] e6.2.2 fun S2 h2 h3=>?_,hI.store l2 l4⟩
   have hri:S2.r i=Zcb b k m x n:=by
    have:=(h3 i (by simp)).trans hI.ri
    rw [hL,l4] at this
    simpa using this
   exact Ydu e6.1 e6.2.1 (vt ((h2 d0 (by simp)).trans (hI.s 0 (by omega) l0))) hri (vt ((h2 d5 (by simp)).trans (hI.s 5 (by omega) l5))) (vt ((h2 d3 (by simp)).trans (hI.s 3 (by omega) l3)))
 ·intro L S' hL hI
  have:=hI.fin inj fun j hj=>hL j (by simpa using hj)
  rw [this]
  have e:(Z4u (Zch d0 d1 d2 d3 d4 d5) (Zlo (Zg (.map (some b))) (rd k x) (rd (Z0 .i64) (Z0w m x)) (rd (Z0 .i64) (IntKind.i64.wrap (Z0w m x+1))) (Z0t (rd (Z0 .i64) (Z0w m x)) (Zg (goInt n))) (Zg (goInt n))) (S.setr i (Z9i b k m x n)) 6).setr i (Z2d b k (Z1i m x (IntKind.i64.wrap (Z0w m x+1))))=
    (Z4u (Zch d0 d1 d2 d3 d4 d5) (Zlo (Zg (.map (some b))) (rd k x) (rd (Z0 .i64) (Z0w m x)) (rd (Z0 .i64) (IntKind.i64.wrap (Z0w m x+1))) (Z0t (rd (Z0 .i64) (Z0w m x)) (Zg (goInt n))) (Zg (goInt n))) S 6).setr i (Z2d b k (Z1i m x (IntKind.i64.wrap (Z0w m x+1)))):=by
   simp only [St.setr,Z4u,St.set]
   congr 1
   funext q
   by_cases hq:q=i
   ·subst hq;rw [Z02,Z02]
   ·rw [Z00 _ _ hq,Z00 _ _ hq,Z00 _ _ hq]
  rw [e]
  exact hK n
end maps
end Go.Wb
namespace Go.Wb
open Go
section Zg
variable {C : Ctx} {S : St} {o : Oper}
theorem Zky {T:TypeId}{v:Value}{p:Operand}(ho:o.op= .load T p)(hd:Zq o C.N=true)(ht:Ty C.P T kraw)(hp:Val C S p (rp kraw v)):OpE C o S (S.put o.dst (Zg v)):=
 OpE.plain (by simp [ho]) hd fun O a w hh=>by
  obtain ⟨b,off,cs,h1,hb,hn,hc,hat⟩:=hp.of hh
  obtain ⟨rfl,h2⟩:=hc
  exact ⟨_,by simp [execOp,ho,h1,Instr.loadAt,Instr.sureAddr,Zc0 ht (show kraw.C w (hid C O) v [v] from ⟨rfl,h2⟩) hat];rfl,rfl⟩
def omz {α:Type}(m:List α):Option Unit:=match m with
 | []=>some ()
 | _::_=>none
theorem Yjs {α:Type}{m:List α}{u:Unit}(h:omz m=some u):m=[]:=by
 cases m with
 | nil=>rfl
 | cons x m=>cases h
variable {κ : Type} [DecidableEq κ]
def ItR (g b:Nat):Res:=
 ⟨fun w H M=>M g∧∃s c,w.heap[g]? =some (.mapIter (some b) s #[] c),fun h ⟨hm,s,c,hg⟩=>let ⟨x,y⟩:=h.own g (Array.getElem?_eq_some_iff.1 hg).1 hm;⟨x,s,c,y.trans hg⟩⟩
theorem Ydd {T kt:TypeId}{k:Kd κ}{m:List (κ×Int)}{b i:Nat}{p:Operand}(j:Nat)(ho:o.op= .range T p)(hd:Zq o C.N=true)(ht:MTy C.P T kt k)(hp:Val C S p (Zg (.map (some b))))(hr:S.r i=Z2d b k m)(hij:Nat.beq i j=false):
  OpT C o S (fun S'=> ∃g,S'=(S.put o.dst (Zg (.pointer (some ⟨g,0,none⟩)))).setr j (ItR g b)):=
 OpT.value (by simp [ho]) fun O a w hh=>by
  have h1:a.eval p= .map (some b):=hp.of hh
  have h2:=hh.res i
  rw [hr] at h2
  obtain ⟨hm,es,clock,ha⟩:=h2
  obtain ⟨e,hu,hz⟩:=ht.u
  refine ⟨.pointer (some ⟨w.heap.size,0,none⟩),w.alloc (.mapIter (some b) clock #[] clock),_,?_,⟨w.heap.size,rfl⟩,?_⟩
  ·simp [execOp,ho,h1,Instr.range,run_underlying hu,getObj,newObj,Sem.run,ha.1,Result.andThen]
  have go:=Ziv hh (Ro j) (Z0m j) (.mapIter (some b) clock #[] clock)
  refine ⟨_,hh.goes go (Z6i ..) (by cases o.dst<;>rfl) (Z6e ..) (fun t=>?_) (fun q=>?_)⟩
  ·cases hdst:o.dst with
   | none=>exact .inl ⟨rfl,Z1g t j,rfl⟩
   | some d=>
    by_cases e:t=d
    ·subst e
     right
     have hlt:t<a.tmps.size:=hh.n▸Z2r hd t hdst
     rw [Z6c hlt]
     simp only [St.put,St.set,St.setr,Z02]
     rfl
    ·exact .inl ⟨by simp only [St.put,St.set,St.setr];exact Z00 _ _ e,Z1g t j,Z6f e _⟩
  ·by_cases e:q=j
   ·subst e
    right
    simp only [St.setr,Z02]
    exact ⟨if_pos rfl,clock,clock,heap_alloc_new w _⟩
   ·exact .inl ⟨by simp only [St.setr];rw [Z00 _ _ e];cases o.dst<;>rfl,fun h=>e (Z26 h)⟩
theorem Yd1 {k:Kd κ}{m:List (κ×Int)}{g b i j:Nat}{p:Operand}(hz:m=[])(ho:o.op= .next p false)(hd:Zq o C.N=true)(hp:Val C S p (Zg (.pointer (some ⟨g,0,none⟩))))(hr:S.r i=Z2d b k m)(hj:S.r j=ItR g b):
  OpE C o S (S.put o.dst (Zg (.tuple #[.bool false]))):=
 OpE.plain (by simp [ho]) hd fun O a w hh=>by
  have h1:a.eval p= .pointer (some ⟨g,0,none⟩):=hp.of hh
  have h2:=hh.res i
  rw [hr] at h2
  obtain ⟨hm,es,clock,ha⟩:=h2
  have h3:=hh.res j
  rw [hj] at h3
  obtain ⟨_,s,c,hg⟩:=h3
  have hes:es= #[]:=by
   have:=ha.2.1.length
   rw [hz] at this
   exact Array.eq_empty_of_size_eq_zero (by simpa using this)
  have hb:=ha.1
  rw [hes] at hb
  exact ⟨_,by simp [execOp,ho,h1,Instr.next,getObj,Sem.run,hg,hb,choose,Question.forced,Result.andThen],rfl⟩
theorem Yj9 {p:Operand}{c:Bool}(ho:o.op= .extract p 0)(hd:Zq o C.N=true)(hp:Val C S p (Zg (.tuple #[.bool c]))):OpE C o S (S.put o.dst (rd Z3 c)):=
 OpE.plain (by simp [ho]) hd fun O a w hh=>by
  have h1:a.eval p= .tuple #[.bool c]:=hp.of hh
  exact ⟨.bool c,by simp [execOp,ho,h1,Instr.extract],Z49⟩
end Zg
end Go.Wb
namespace Go.Wb
open Go
section guards
variable {C : Ctx} {ops : Array Oper} {S S' : St} {o : Oper}
theorem OpG.guardNX {A:Zb}{j gt:Nat}{b c want:Bool}(hg:o.guard=some (j,want))(hj:(ops[j]?).bind (·.dst)=some gt)(hn:Nat.blt gt C.N=true)(hb:S.s gt=gdx c (rd Z3 b))(hd:Zq o C.N=true)
  (h:(c&&(b==want))=true→OpE C o S (S.put o.dst A)):OpG C ops o S (S.put o.dst (gdx (c&&(b==want)) A)):=by
 rintro a w ⟨O,hh⟩
 have h0:=hh.slot gt
 rw [hb] at h0
 have hlt:gt<a.tmps.size:=by rw [hh.n];simpa using hn
 have hw:Region.wanted o (yielded ops a.tmps)=(c&&(b==want)):=by
  cases c with
  | true=>
   have h1:a.tmps.getD gt undef= .bool b:=by
    obtain ⟨cs,rfl,e⟩:=h0.1 rfl
    exact e
   have hy:yielded ops a.tmps j=some b:=by
    have h1':a.tmps[gt]?.getD undef= .bool b:=by simpa using h1
    simp only [yielded,hj,Option.bind_some]
    rw [Array.getElem?_eq_getElem hlt] at h1' ⊢
    simp only [Option.getD_some] at h1'
    rw [h1']
   simp only [Region.wanted,hg,hy]
   cases b<;>cases want<;>rfl
  | false=>
   have h1:=h0.2 rfl
   have hy:yielded ops a.tmps j=none:=by
    have h1':a.tmps[gt]?.getD undef=undef:=by simpa using h1
    simp only [yielded,hj,Option.bind_some]
    rw [Array.getElem?_eq_getElem hlt] at h1' ⊢
    simp only [Option.getD_some] at h1'
    rw [h1']
    rfl
   simp only [Region.wanted,hg,hy]
   rfl
 rw [hw]
 cases hq:(c&&(b==want)) with
 | true=>
  simp only [if_true]
  have h2:=h hq a w ⟨O,hh⟩
  refine ⟨h2.1,Oper.uponIn_mono (fun a' w' hx=>?_) (fun _ _ _ h=>h) _ h2.2⟩
  obtain ⟨S'',rfl,O',h4⟩:=hx
  refine ⟨O',{h4 with slot:=fun t=>?_,res:=fun i=>by have h5:=h4.res i;cases hdst:o.dst<;>rw [hdst] at h5<;>exact h5,dfr:=by have h5:=h4.dfr;cases hdst:o.dst<;>rw [hdst] at h5<;>exact h5}⟩
  cases hdst:o.dst with
  | none=>have:=h4.slot t;rw [hdst] at this;exact this
  | some d=>
   have h5:=h4.slot t
   rw [hdst] at h5
   by_cases e:t=d
   ·subst e
    simp only [St.put,St.set,Z02] at h5 ⊢
    exact ⟨fun _=>h5,fun h=>by cases h⟩
   ·simp only [St.put,St.set] at h5 ⊢
    rw [Z00 _ _ e] at h5 ⊢
    exact h5
 | false=>
  simp only [Bool.false_eq_true,if_false]
  exact ⟨O,hh.yield_same (Z2r hd) ⟨(fun h=>by cases h),(fun _=>rfl)⟩⟩
end guards
end Go.Wb
namespace Go.Wb
open Go
section ptr
variable {C : Ctx} {S S' : St} {o : Oper} {α : Type} {k : Kd α}
def PtC (k:Kd α)(w:World)(H:HS):Option α→Value→Prop
 | none,v=>v= .pointer none
 | some x,v=>(rp k x).R w H Zl v
theorem PtC.one {w:World}{H:HS}{x:Option α}{v:Value}(h:PtC k w H x v):v.oneCell'=true:=by
 cases x with
 | none=>rw [show v=_ from h];rfl
 | some x=>obtain ⟨b,off,cs,rfl,_⟩:=h;rfl
def Z6w (k:Kd α):Kd (Option α) where
 sz:=1
 agg:=false
 C:=fun w H x cs=> ∃v,cs=[v]∧PtC k w H x v
 len:=by rintro w H x cs ⟨v,rfl,_⟩;rfl
 one:=by rintro w H x cs ⟨v,rfl,h⟩ u hu;rw [List.mem_singleton.1 hu];exact h.one
 flat:=fun _=>rfl
 mono:=fun {w H w' H' x cs} e ⟨v,h1,h2⟩=>⟨v,h1,by
  cases x with
  | none=>exact h2
  | some x=>exact (rp k x).mono e h2⟩
theorem Yat (k:Kd α):KZ (Z6w k) none [.pointer none]:=fun _ _=>⟨_,rfl,rfl⟩
theorem Y4h {w:World}{H M:HS}{x:α}{v:Value}:(rd (Z6w k) (some x)).R w H M v↔(rp k x).R w H M v:=
 ⟨fun ⟨cs,⟨u,h1,h2⟩,h3⟩=>by subst h1;rw [h3];exact h2,fun h=>⟨[v],⟨v,rfl,h⟩,rfl⟩⟩
theorem vpr {p:Operand}{x:α}(h:Val C S p (rp k x)):Val C S p (rd (Z6w k) (some x)):=fun O a w hh=>Y4h.2 (h.of hh)
theorem Hold.conv {a:Act}{w:World}{d:Option Nat}{A B:Zb}(h:∀{w H M v},A.R w H M v→B.R w H M v)(hh:Hold C (S.put d A) a w):Hold C (S.put d B) a w:=by
 cases d with
 | none=>exact hh
 | some d=>
  obtain ⟨O,hh⟩:=hh
  refine ⟨O,{hh with slot:=fun u=>?_}⟩
  by_cases e:u=d
  ·subst e
   have h1:=hh.slot u
   simp only [St.put,St.set,Z02] at h1 ⊢
   exact h h1
  ·have h1:=hh.slot u
   simp only [St.put,St.set] at h1 ⊢
   rw [Z00 _ _ e] at h1 ⊢;exact h1
theorem Zwx {e:Option α}{x:α}(h:OpE C o S (S.put o.dst (rd (Z6w k) e)))(he:e=some x):OpE C o S (S.put o.dst (rp k x)):=by
 subst he
 exact h.post fun a w hh=>hh.conv fun h=>Y4h.1 h
end ptr
section room
variable {C : Ctx} {S : St} {o : Oper} {α : Type} {k : Kd α}
theorem Ykq {T E:TypeId}{z:α}{jk hk:IntKind}{p q:Operand}(i n m:Nat)(hn:n≤m∧m≤1000)(ho:o.op= .makeSlice T p q)(hd:Zq o C.N=true)(he:El C.P T E k)(hz:Zr C.P E k z)(hp:Val C S p (rd (Z0 jk) (n:Int)))(hq:Val C S q (rd (Z0 hk) (m:Int))):
  OpT C o S (fun S'=> ∃v,S'=(S.put o.dst (Zg v)).setr i (Zi v E k (List.replicate n z))):=
 OpT.value (by simp [ho]) fun O a w hh=>by
  obtain ⟨hu,ti,hti,hs,hby⟩:=Ztj he
  obtain ⟨ti',zv,hti',hzv,hzc⟩:=hz.out
  obtain rfl:ti=ti':=by rw [hti] at hti';exact Option.some.inj hti'
  have h1:=(Z0q (hp.of hh)).1
  have h2:=(Z0q (hq.of hh)).1
  have hz0:=hzc w (hid C O)
  have hzl:zv.cells.size=k.sz:=by simpa using k.len hz0
  have hpos:0<k.sz:=by have:=he.pos;simpa using this
  have hm4:m≤4294967296:=by omega
  have hb0:ti.bytes*m≤281474976710656:=Nat.le_trans (Nat.mul_le_mul hby hm4) (by decide)
  have hb:(ti.bytes:Int)*(m:Int)≤281474976710656:=by
   have h:((ti.bytes*m:Nat):Int)≤281474976710656:=by omega
   rwa [Int.natCast_mul] at h
  have hr:=run_make (P:=C.P) w T E ti zv hu hti hzv jk hk n m (by omega) (by omega) hb (by omega)
  simp only [Int.toNat_natCast,hs] at hr
  have hmade:∀j,(madeCells zv.cells (j*k.sz)).toList=(List.replicate j zv.cells.toList).flatten:=fun j=>by rw [←hzl];exact Zeh _ (by omega) j
  have htk:(madeCells zv.cells (m*k.sz)).toList.take (n*k.sz)=(List.replicate n zv.cells.toList).flatten:=by
   rw [←hmade n]
   have hle:n*k.sz≤m*k.sz:=Nat.mul_le_mul_right _ hn.1
   unfold madeCells
   simp [←List.map_take,List.take_range,Nat.min_eq_left hle]
  have hkz:∀n,Cells k w (hid C O) (List.replicate n z) (List.replicate n zv.cells.toList).flatten:=by
   intro n
   induction n with
   | zero=>rfl
   | succ n ih=>rw [List.replicate_succ,List.replicate_succ,List.flatten_cons];exact ⟨_,_,rfl,hz0,ih⟩
  have h4:(w.alloc (.cells (madeCells zv.cells (m*k.sz)) E)).ownsRow 0 E k.sz (.slice (some ⟨w.heap.size,0,none⟩) n m) n (List.replicate n zv.cells.toList).flatten:=
   ⟨by rw [←hmade n,Array.length_toList,size_madeCells],.inr ⟨w.heap.size,m,_,rfl,Nat.zero_le _,heap_alloc_new w _,hn.1,by simp only [maxLen];omega,size_madeCells _ _,htk⟩⟩
  have h5:=World.grownBy_alloc w (.cells (madeCells zv.cells (m*k.sz)) E) none
  have hsz:w.heap.size<(w.alloc (.cells (madeCells zv.cells (m*k.sz)) E)).heap.size:=(Array.getElem?_eq_some_iff.1 (heap_alloc_new w _)).1
  have t:Turns O i w (.slice none 0 0) (.slice (some ⟨w.heap.size,0,none⟩) n m) (w.alloc (.cells (madeCells zv.cells (m*k.sz)) E)):=Zgy h5 (.inl rfl) (fun b hb=>by simp [Value.ownBlock] at hb;subst hb;exact hsz)
  refine ⟨_,_,_,?_,⟨_,rfl⟩,Z5a hh t hd _ rfl (cl:=(List.replicate n zv.cells.toList).flatten) (by simpa using h4) ((hkz _).mono t.ext)⟩
  simp [execOp,ho,h1,h2,hr]
end room
end Go.Wb
namespace Go.Wb
open Go
section fk
variable {C : Ctx} {S : St} {o : Oper} {α β : Type} {kx : Kd α} {ky : Kd β} {F : α → Option β}
def Z2a (P:Program)(kx:Kd α)(ky:Kd β):Kd (α→Option β) where
 sz:=1
 agg:=false
 C:=fun w H F cs=> ∃v,cs=[v]∧(fn1 P kx ky F).R w H Zl v
 len:=by rintro w H x cs ⟨v,rfl,_⟩;rfl
 one:=by rintro w H x cs ⟨v,rfl,h⟩ u hu;rw [List.mem_singleton.1 hu];exact h.1
 flat:=fun _=>rfl
 mono:=fun e ⟨v,h1,h2⟩=>⟨v,h1,(fn1 P kx ky _).mono e h2⟩
theorem Yes (P:Program)(kx:Kd α)(ky:Kd β):KZ (Z2a P kx ky) (fun _=>none) [.nilFunc]:=fun _ _=>⟨_,rfl,rfl,fun w' H' As B vs ⟨x,y,h,_⟩=>by cases h⟩
theorem vfk {p:Operand}(h:Val C S p (fn1 C.P kx ky F)):Val C S p (rd (Z2a C.P kx ky) F):=fun O a w hh=>⟨[a.eval p],⟨_,rfl,h.of hh⟩,rfl⟩
theorem vkf {p:Operand}(h:Val C S p (rd (Z2a C.P kx ky) F)):Val C S p (fn1 C.P kx ky F):=fun O a w hh=>by
 obtain ⟨cs,⟨v,h1,h2⟩,h3⟩:=h.of hh
 subst h1
 show (fn1 C.P kx ky F).R _ _ _ (a.eval p)
 rw [h3];exact h2
theorem Y7c {f:FuncId}{fs cs:List Operand}{FAs CAs:List Zb}(F:α→Option β)(ho:o.op= .makeFunc (.func f) fs.toArray cs.toArray)(hd:Zq o C.N=true)(he:Ent C.P f)(hf:Vals C S fs FAs)(hc:Vals C S cs CAs)(hG:∀x y,F x=some y→PCon C.P f (FAs++[rd kx x]++CAs) (rd ky y)):
  OpE C o S (S.put o.dst (fn1 C.P kx ky F)):=
 Zkx ho hd he hf hc (by rintro _ _ ⟨x,y,h,rfl,rfl⟩;exact hG x y h)
end fk
theorem Y9t {C:Ctx}{S:St}{o:Oper}{α:Type}{E:TypeId}{k:Kd α}{l:List α}{i d:Nat}[Sh k E](hX:C.X=Zl)(h:OpT C o S (fun T=> ∃v,T=(S.put o.dst (Zg v)).setr i (Zi v E k l)))(hdst:o.dst=some d)(hr:S.r i=emp):OpE C o S (S.put o.dst (rd (Z1 k) l)):=by
 refine (Zye h hdst hr).post fun a w hh=>?_
 have h2:=hh.freezeS (t:=d) (i:=i) (E:=E) (k:=k) (l:=l) hX (by rw [hdst];simp [St.put,St.set,Z02]) (by rw [hdst];exact hr)
 refine h2.weak' (S':=S.put o.dst (rd (Z1 k) l)) (by rw [hdst];rfl) (fun u=> .inl ?_) (fun j=> .inl (by rw [hdst];rfl))
 rw [hdst]
 simp only [St.put,St.set]
 by_cases e:u=d
 ·subst e;rw [Z02,Z02]
 ·rw [Z00 _ _ e,Z00 _ _ e,Z00 _ _ e]
theorem vLp {C:Ctx}{S:St}{α:Type}{i t g:Nat}{T:TypeId}{k:Kd α}{x:α}(hs:S.s t=Za g (Lens.id k))(hr:S.r i=Zd g T k x):Zn1 C S i (.tmp t) (rp k x):=fun O a w hh=>by
 have h1:a.eval (.tmp t)= .pointer (some ⟨g,0,none⟩):=Z5x (L:=Lens.id k) (by have:=hh.slot t;rwa [hs] at this)
 have h2:=hh.res i
 rw [hr] at h2
 obtain ⟨hm,cs,hg,hc⟩:=h2
 exact ⟨g,0,cs,h1,(Array.getElem?_eq_some_iff.1 hg).1,fun h=>h.2 hm,k.mono Ztv hc,At.row hg (by simp)⟩
def Zyi:Option Dy→Prop
 | none=>True
 | some y=> ∀{w H w' H' v},y.R w H v→y.R w' H' v
theorem Ynk {α:Type}{T:TypeId}{k:Kd α}{x:α}[PureK k]:Zyi (some (dy T k x)):=fun ⟨cs,h1,h2⟩=>⟨cs,PureK.pure h1,h2⟩
theorem Yav {ε:Type}{d:ε→Option Dy}(h:∀e,Zyi (d e)):PureK (Z8g d):=⟨fun {w H w' H' e cs} ⟨v,h1,h2⟩=>⟨v,h1,by
 have hp:=h e
 cases hd:d e with
 | none=>exact (ErrC.none hd).2 ((ErrC.none hd).1 h2)
 | some y=>
  rw [hd] at hp
  obtain ⟨u,e1,e2⟩:=(ErrC.some hd).1 h2
  exact (ErrC.some hd).2 ⟨u,e1,hp e2⟩⟩⟩
instance {α β:Type}{P:Program}{kx:Kd α}{ky:Kd β}{E:TypeId}:Sh (Z2a P kx ky) E:=⟨rfl⟩
instance {α:Type}{k:Kd α}{E:TypeId}:Sh (Z6w k) E:=⟨rfl⟩
instance {ε:Type}{d:ε→Option Dy}{E:TypeId}:Sh (Z8g d) E:=⟨rfl⟩
end Go.Wb
namespace Go.Wb
open Go
class NSh {α:Type} (k:Kd α) (E:TypeId):Prop where
 out:k.sh E=false
def Zsp (E0:TypeId)(w:World)(H H':HS):Prop:= ∀b,H' b→¬H b→∃cur fr,w.heap[b]? =some (.cells cur E0 fr)
class OffK (E0:TypeId) {α:Type} (k:Kd α):Prop where
 off:∀{w H H' x cs},Zsp E0 w H H'→k.C w H x cs→k.C w H' x cs
section off
variable {E0 : TypeId} {α β : Type}
instance (priority:=low){k:Kd α}[PureK k]:OffK E0 k:=⟨fun _ h=>PureK.pure h⟩
instance {k:Kd α}{m:Kd β}[OffK E0 k][OffK E0 m]:OffK E0 (Z2 k m):=⟨fun e ⟨c1,c2,h,h1,h2⟩=>⟨c1,c2,h,OffK.off e h1,OffK.off e h2⟩⟩
instance {k:Kd β}{f:α→β}{s:TypeId→Bool}[OffK E0 k]:OffK E0 (Z0k k f s):=⟨fun e h=>OffK.off (k:=k) e h⟩
theorem Cells.off {k:Kd α}[OffK E0 k]{w:World}{H H':HS}(e:Zsp E0 w H H'):∀{l:List α} {cs:List Value},Cells k w H l cs→Cells k w H' l cs
 | [],_,h=>h
 | _::_,_,⟨c,d,h,h1,h2⟩=>⟨c,d,h,OffK.off e h1,Cells.off e h2⟩
instance {k:Kd α}[OffK E0 k][hn:NSh k E0]:OffK E0 (Z1 k):=⟨fun {w H H' l cs} e ⟨v,h1,A,c,h2,h3,h4,h5⟩=>⟨v,h1,A,c,h2,h3,h4,fun hp=>by
 obtain ⟨b,o,cl,ha,hb,hh,hc,hat⟩:=h5 hp
 refine ⟨b,o,cl,ha,hb,fun h'=>?_,hc.off e,hat⟩
 obtain ⟨cur,fr,hg⟩:=e b h' hh
 obtain ⟨cur',E,fr',hg',hs⟩:=hat.tag
 rw [hg] at hg'
 obtain ⟨rfl,rfl,rfl⟩:cur=cur'∧E0=E∧fr=fr':=by simpa using hg'
 rw [hn.out] at hs;cases hs⟩⟩
class FlatE (E0:TypeId) (B:Zb):Prop where
 off:∀{w H H' v},Zsp E0 w H H'→B.R w H Zl v→B.R w H' Zl v
instance {k:Kd α}{x:α}[OffK E0 k]:FlatE E0 (rd k x):=⟨fun e ⟨cs,h,h'⟩=>⟨cs,OffK.off e h,h'⟩⟩
instance {A B:Zb}[FlatE E0 A][FlatE E0 B]:FlatE E0 (Z0t A B):=⟨fun e ⟨x,y,h,h1,h2⟩=>⟨x,y,h,FlatE.off e h1,FlatE.off e h2⟩⟩
end off
section lend
variable {C : Ctx} {S : St} {o : Oper} {α : Type}
def Zfy (C:Ctx)(O:Nat→Nat)(v:Value):HS:=fun b=>hid C O b∧v.ownBlock≠some b
def Zm4 (C:Ctx)(S:St)(v:Value)(x:Operand)(A:Zb):Prop:= ∀O a w,HoldO C S O a w→A.R w (Zfy C O v) Zl (a.eval x)
theorem Y09 {w:World}{O:Nat→Nat}{v:Value}:Ext w (hid C O) Zl w (Zfy C O v) Zl:=⟨Nat.le_refl _,fun b _ hn=>⟨fun h=>hn h.1,rfl⟩,fun _ _ h=>h.elim⟩
theorem vV {v:Value}{x:Operand}{A:Zb}(h:Val C S x A):Zm4 C S v x A:=fun O a w hh=>A.mono Y09 (h O a w hh)
theorem vLs {i t lo:Nat}{E:TypeId}{k:Kd α}{l s:List α}{v:Value}[Sh k E](h:Z3z l (lo:Int)=some s)(hs:S.s t=Z9j v lo k.sz)(hr:S.r i=Zi v E k l):Zm4 C S v (.tmp t) (rd (Z1 k) s):=fun O a w hh=>by
 obtain ⟨h0,h1,rfl⟩:=Z8v h
 simp only [Int.toNat_natCast] at h1 ⊢
 have h2:(Z9j v lo k.sz).R w (hid C O) (fun b=>O b=So t) (a.eval (.tmp t)):=by have:=hh.slot t;rwa [hs] at this
 have h3:=hh.res i
 rw [hr] at h3
 obtain ⟨cl,hown,hc,hm⟩:=h3
 have hsl:SlC k w (Zfy C O v) l v:=Zaf (H':=Zl) hown (hc.mono Y09) fun b hb hx=>hx.2 hb
 refine Z4y ?_
 have hlo:lo≤l.length:=h1
 rcases Nat.lt_or_ge lo l.length with hlt | hge
 ·obtain ⟨A,c,hv,hlc,hcut⟩:=Zeg hsl lo l.length (Nat.le_of_lt hlt) (Nat.le_refl _)
  have h4:=hcut c hlc (Nat.le_refl _)
  rw [List.take_length,if_neg (by omega)] at h4
  rcases h2 with ⟨g,n,c',hv',A',hu,hA'⟩ | ⟨hv',_⟩
  ·rw [hv] at hv'
   obtain ⟨rfl,rfl,rfl⟩:A=some ⟨g,0,none⟩∧l.length=n∧c=c':=by simpa using hv'
   rw [hu,hA' hlt]
   simpa [Z38] using h4
  ·rw [hv] at hv'
   obtain ⟨_,hl0,_⟩:A=none∧l.length=0∧c=0:=by simpa using hv'
   omega
 ·have hd:l.drop lo=[]:=List.drop_of_length_le hge
  rw [hd]
  have hbd:∃A c,a.eval (.tmp t)= .slice A 0 c∧c≤9223372036854775807:=by
   rcases h2 with ⟨g,n,c',hv',A',hu,_⟩ | ⟨_,A',c',hu,hc0⟩
   ·obtain ⟨A,c,hv,hlc,hc63,_⟩:=hsl
    rw [hv] at hv'
    obtain ⟨_,rfl,rfl⟩:A=some ⟨g,0,none⟩∧l.length=n∧c=c':=by simpa using hv'
    exact ⟨A',c - lo,by rw [hu,show l.length - lo=0 by omega],by omega⟩
   ·exact ⟨A',c',hu,by omega⟩
  obtain ⟨A,c,hu,hc63⟩:=hbd
  exact ⟨A,c,hu,Nat.zero_le _,hc63,fun hp=>absurd hp (by simp)⟩
theorem vLi {i t:Nat}{lo:Int}{E:TypeId}{k:Kd α}{l s:List α}{v:Value}[Sh k E](h:Z3z l lo=some s)(hs:S.s t=Z9j v lo.toNat k.sz)(hr:S.r i=Zi v E k l):Zm4 C S v (.tmp t) (rd (Z1 k) s):=
 vLs (by rw [Int.toNat_of_nonneg (Z8v h).1];exact h) hs hr
def ValsV (C:Ctx)(S:St)(v:Value):List Operand→List Zb→Prop
 | [],[]=>True
 | x::xs,A::As=>Zm4 C S v x A∧ValsV C S v xs As
 | _,_=>False
theorem ValsV.args {O:Nat→Nat}{a:Act}{w:World}{v:Value}(hh:HoldO C S O a w):∀{xs:List Operand} {As:List Zb},ValsV C S v xs As→Args w (Zfy C O v) As (xs.map a.eval)
 | [],[],_=>trivial
 | _::_,_::_,⟨h1,h2⟩=>⟨h1 _ _ _ hh,ValsV.args hh h2⟩
 | [],_::_,h=>h.elim
 | _::_,[],h=>h.elim
theorem Yol {f:FuncId}{xs:List Operand}{ts:Array TypeId}{As:List Zb}{B:Zb}{v:Value}{E:TypeId}{k:Kd α}{l:List α}[hB:FlatE E B](i:Nat)(hc:PCon C.P f As B)(he:Ent C.P f)(ho:o.op= .call {callee:= .value (.func f),args:=xs.toArray,argTypes:=ts})(hd:Zq o C.N=true)(hv:ValsV C S v xs As)(hr:S.r i=Zi v E k l):
  OpE C o S (S.put o.dst B):=by
 rintro a w ⟨O,hh⟩
 refine ⟨fun _ _=>trivial,?_⟩
 have hrun:(execOp a.eval o).run C.P w= .ok (.enter f (xs.map a.eval).toArray) w:=by
  simp only [execOp,ho,resolve,Act.eval,Deferred.ofValue,Sem.run_bind,Sem.run_pure,Result.andThen_ok,invoke]
  simpa using he _ w
 rw [Oper.semAt_eq _ _ _ (by simp [ho]),hrun]
 refine ⟨fun h=>by simp [Ctx.fen,Fence.wide] at h,Z8y ?_⟩
 refine (hc w (Zfy C O v) _ (hh.amb.mono ⟨Nat.le_refl _,fun b _ hn=>⟨fun h=>hn h.1,rfl⟩,fun _ _ h=>h.elim⟩) (fun b h=>hh.hid_lt b h.1) (hv.args hh)).mono ?_
 rintro e w' ⟨u,rfl,hf,hBv⟩
 refine ⟨_,rfl,O,hh.yield ⟨hf.os,hf.tape,hf.output,hf.size,fun b hb _=>⟨rfl,hf.same b hb (fun h=>h)⟩,fun b h=> .inl h,fun b h=>Nat.lt_of_lt_of_le (hh.own b h).2 hf.size,fun h=>h⟩ (Z2r hd) (hB.off (fun b h1 h2=>?_) hBv)⟩
 have hb:v.ownBlock=some b:=by
  by_cases h:v.ownBlock=some b
  ·exact h
  ·exact absurd ⟨h1,h⟩ h2
 have h3:=hh.res i
 rw [hr] at h3
 obtain ⟨cl,hown,_,_⟩:=h3
 rcases hown.2 with ⟨rfl,_⟩ | ⟨g,cap,cur,rfl,_,hg,_⟩
 ·cases hb
 ·cases hb
  exact ⟨cur,_,by rw [hf.same g (Array.getElem?_eq_some_iff.1 hg).1 (fun h=>h)];exact hg⟩
end lend
section forget
variable {C : Ctx} {S : St} {α β : Type}
theorem Hold.forgetV {a:Act}{w:World}{i g:Nat}{T:TypeId}{k:Kd α}{x:α}{kv:Kd β}{c:Value→β}(hr:S.r i=Zd g T k x)(hcv:∀w H cs,k.C w H x cs→∃v,kv.C w H (c v) cs)(hh:Hold C S a w):∃v,Hold C (S.setr i (Zd g T kv (c v))) a w:=by
 obtain ⟨O,hh⟩:=hh
 have h1:=hh.res i
 rw [hr] at h1
 obtain ⟨hm,cs,hg,hc⟩:=h1
 obtain ⟨v,hv⟩:=hcv _ _ _ hc
 exact ⟨v,O,{hh with
  dfr:=hh.dfr
  slot:=hh.slot
  res:=fun q=>by
   by_cases e:q=i
   ·subst e;simp only [St.setr,Z02];exact ⟨hm,cs,hg,hv⟩
   ·simp only [St.setr];rw [Z00 _ _ e];exact hh.res q}⟩
theorem AOps.forgetV {ops:Array Oper}{Q:Exit→St→Prop}{z:List Oper}(i:Nat){g:Nat}{T:TypeId}{k:Kd α}{x:α}{kv:Kd β}{c:Value→β}(hr:S.r i=Zd g T k x)(hcv:∀w H cs,k.C w H x cs→∃v,kv.C w H (c v) cs)(h:∀v,AOps C ops Q z (S.setr i (Zd g T kv (c v)))):AOps C ops Q z S:=fun a w hh=>by
 obtain ⟨v,h1⟩:=hh.forgetV hr hcv
 exact h v a w h1
theorem Hold.tellS {a:Act}{w:World}{A:Zb}(t:Nat)(h:S.s t=A)(hh:Hold C S a w):Hold C (S.set t A) a w:=by
 refine hh.weak' (S':=S.set t A) rfl (fun u=> .inl ?_) (fun j=> .inl rfl)
 simp only [St.set]
 by_cases e:u=t
 ·subst e;rw [Z02,h]
 ·rw [Z00 _ _ e]
theorem AOps.tellS {ops:Array Oper}{Q:Exit→St→Prop}{z:List Oper}{A:Zb}(t:Nat)(h:S.s t=A)(hK:AOps C ops Q z (S.set t A)):AOps C ops Q z S:=fun a w hh=>hK a w (hh.tellS t h)
end forget
end Go.Wb
namespace Go.Wb
open Go
def ds (w:Nat):Nat→Nat→Nat
 | 0,_=>0
 | n+1,x=>x % 2 ^ w+ds w n (x / 2 ^ w)
def mk (w:Nat):Nat→Nat
 | 0=>0
 | n+1=>2 ^ (2*w)*mk w n+(2 ^ w - 1)
end Go.Wb
namespace Go.Wb
open Go
section ve
variable {α β : Type} [Inhabited α] {n : Nat}
end ve
section yf
variable {α β σ : Type}
end yf
end Go.Wb
namespace Go.Wb
open Go
section sort
variable {α : Type} (lt : α → α → Bool)
structure Swo:Prop where
 asym:∀a b,lt a b=true→lt b a=false
 neg:∀a b c,lt a b=false→lt b c=false→lt a c=false
variable {lt}
end sort
end Go.Wb
