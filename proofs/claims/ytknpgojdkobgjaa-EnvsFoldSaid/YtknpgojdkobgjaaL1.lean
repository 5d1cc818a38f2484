/- A part of the proof. -/
import Derived.Test.YtknpgojdkobgjaaL0
import Derived.Laws.StructEq
import Derived.ChangeKeysEq
import Derived.WalkKit
import Derived.ProofKit
import Derived.OpenShut
import Derived.Carry
import Derived.JoinedOf
import Derived.Laws.MakeOwn
import Derived.Laws.OwnMore
import Derived.ArgAppend
import Derived.Deep.AppendSrc
set_option linter.unusedVariables false
set_option linter.unusedSimpArgs false
namespace Go.Wb
open Go
def Z3q {α:Type}(T:TypeId)(k:Kd α)(x:α):Z1:=
 ⟨fun w H M v=> ∃g,∃cs:List Value,v= .pointer (some ⟨g,0,none⟩)∧M g∧w.heap[g]? =some (.cells cs.toArray T (0,0))∧k.C w H x cs,
  fun h ⟨g,cs,hv,hm,hg,hc⟩=>let ⟨a,b⟩:=h.own g (Array.getElem?_eq_some_iff.1 hg).1 hm;⟨g,cs,hv,a,b.trans hg,Kd.mono _ h.pure_ hc⟩⟩
def Z7r {α:Type}(E:TypeId)(k:Kd α)(l:List α):Z1:=
 ⟨fun w H M v=>(Zb v E k l).R w H M,fun h hr=>(Zb _ E k l).mono h hr⟩
section Z1e
variable {C : Ctx} {S S' : St} {o : Oper} {α : Type}
theorem Zsh {O:Nat→Nat}{a:Act}{w:World}{T:TypeId}{k:Kd α}{x:α}{cs:List Value}{d:Nat}(hh:HoldO C S O a w)(hdst:o.dst=some d)(hd:Z7 o C.N=true)(hc:k.C w (Zi C O) x cs):
  Hold C (S.put o.dst (Z3q T k x)) (a.put o.dst (.pointer (some ⟨w.heap.size,0,none⟩))) (w.alloc (.cells cs.toArray T)):=by
 have go:=Zfo hh (So d) (Z5e d) (.cells cs.toArray T)
 refine ⟨_,hh.goes go (Z4c ..) (by cases o.dst<;>rfl) (Z59 ..) (fun t=>?_) (fun j=> .inl ⟨by cases o.dst<;>rfl,fun h=>Z0m d j h.symm⟩)⟩
 rw [hdst]
 by_cases e:t=d
 ·subst e
  right
  have hlt:t<a.tmps.size:=hh.n▸Z1o hd t hdst
  rw [Z52 hlt]
  simp only [St.put,St.set,Zy]
  refine ⟨w.heap.size,cs,rfl,if_pos rfl,heap_alloc_new w _,k.mono ⟨by simp,fun b hb hn=>⟨?_,heap_alloc_old w _ b hb⟩,fun _ _ h=>h.elim⟩ hc⟩
  rintro (h | h)
  ·exact hn (.inl h)
  ·rw [if_neg (by omega)] at h;exact hn (.inr h)
 ·exact .inl ⟨by simp only [St.put,St.set];exact Zz _ _ e,fun h=>e (Zaa h),Z4h e _⟩
theorem Zjx {T:TypeId}{k:Kd α}{z:α}{d:Nat}(ho:o.op= .alloc T)(hdst:o.dst=some d)(hd:Z7 o C.N=true)(hz:Zr C.P T k z):OpE C o S (S.put o.dst (Z3q T k z)):=
 OpE.value (by simp [ho]) fun O a w hh=>by
  obtain ⟨ti,zv,hi,hzv,hc⟩:=hz.out
  refine ⟨.pointer (some ⟨w.heap.size,0,none⟩),w.alloc (.cells zv.cells.toList.toArray T),?_,Zsh hh hdst hd (hc w (Zi C O))⟩
  simp [execOp,ho,Instr.alloc,zeroValue,typeInfo,hi,hzv,newVar,newRow]
theorem Zhj {T T':TypeId}{k:Kd α}{x y:α}{t:Nat}{q:Operand}(ho:o.op= .store T (.tmp t) q)(hd:o.dst=none)(ht:Ty C.P T k)(hp:S.s t=Z3q T' k x)(hq:Val C S q (rd k y)):OpE C o S (S.set t (Z3q T' k y)):=
 OpE.skip (by simp [ho]) fun O a w hh=>by
  have h1:=hh.slot t
  rw [hp] at h1
  obtain ⟨g,cs,hv,hm,hg,hc⟩:=h1
  obtain ⟨c,h4,h5⟩:=hq.of hh
  have hev:a.eval (.tmp t)= .pointer (some ⟨g,0,none⟩):=hv
  have hrun:=Zc1 (off:=0) hg ht h4 (by rw [k.len hc];omega)
  have hlay:lay cs 0 c=c:=Zgv (by rw [k.len hc,k.len h4])
  rw [hlay] at hrun
  refine ⟨w.setRow g c.toArray,by simp [execOp,ho,hev,h5,Instr.storeAt,Instr.sureAddr,hrun],O,?_⟩
  rw [hd]
  have hOg:O g=So t:=hm
  have go:=Zge hh (g:=g) (by rw [hOg];exact Z5e t) c.toArray
  have hx:Ext w (Zi C O) Z6 (w.setRow g c.toArray) (Zi C O) Z6:=⟨by simp,fun b hb hn=>⟨hn,setRow_other w g b _ (fun e=>hn (.inr (by rw [e,hOg];exact Z5e t)))⟩,fun _ _ h=>h.elim⟩
  refine hh.goes go rfl rfl rfl (fun s=>?_) (fun j=> .inl ⟨rfl,by rw [hOg];exact fun h=>Z0m t j h.symm⟩)
  by_cases e:s=t
  ·subst e
   right
   simp only [St.set,Zy]
   exact ⟨g,c,hv,hm,setRow_heap w g _ _ _ _ hg,k.mono hx h4⟩
  ·exact .inl ⟨by simp only [St.set];exact Zz _ _ e,by rw [hOg];exact fun h=>e (Zaa h),rfl⟩
theorem Zno {O:Nat→Nat}{a:Act}{w:World}{t i:Nat}{A:Z1}{R:Zf}(hh:HoldO C S O a w)(hA:∀O',(∀b,O' b≠0→O b≠0)→A.R w (Zi C O') Z6 (a.tmps.getD t undef))
  (hR:∀O',(∀b,(O' b≠0↔O b≠0))→(∀b,O b=So t→O' b=Ro i)→R.R w (Zi C O') (fun b=>O' b=Ro i))(he:∀b,O b≠Ro i):Hold C ((S.set t A).setr i R) a w:=by
 let O':Nat→Nat:=fun b=>if O b=So t then Ro i else O b
 have hO1:∀b,O b=So t→O' b=Ro i:=fun b h=>if_pos h
 have hO2:∀b,O b≠So t→O' b=O b:=fun b h=>if_neg h
 have hiff:∀b,(O' b≠0↔O b≠0):=fun b=>by
  by_cases e:O b=So t
  ·rw [hO1 b e,e];exact ⟨fun _=>Z5e t,fun _=>Zw i⟩
  ·rw [hO2 b e]
 refine ⟨O',⟨hh.h0,hh.os,hh.tape,hh.output,hh.size,hh.old,fun b hb=>hh.own b ((hiff b).1 hb),hh.dfr,hh.n,fun s=>?_,fun j=>?_⟩⟩
 ·have hid':Ext w (fun b=>C.H0 b∨O b≠0) (fun b=>O b=So s) w (fun b=>C.H0 b∨O b≠0) (fun b=>O b=So s):=Ext.refl _ _ _
  by_cases e:s=t
  ·subst e
   simp only [St.set,St.setr,Zy]
   exact A.mono Ext.any (hA O' fun b=>(hiff b).1)
  ·simp only [St.set,St.setr]
   rw [Zz _ _ e]
   refine (S.s s).mono ⟨Nat.le_refl _,fun b _ hn=>⟨fun h=>hn (h.imp id (hiff b).1),rfl⟩,fun b _ hb=>⟨?_,rfl⟩⟩ (hh.slot s)
   have hb':O b=So s:=hb
   show O' b=So s
   rw [hO2 b (by rw [hb'];exact fun h=>e (Zaa h)),hb']
 ·by_cases e:j=i
  ·subst e
   simp only [St.setr,Zy]
   exact hR O' hiff hO1
  ·simp only [St.setr]
   rw [Zz _ _ e]
   refine (S.r j).mono ⟨Nat.le_refl _,fun b _ hn=>⟨fun h=>hn (h.imp id (hiff b).1),rfl⟩,fun b _ hb=>⟨?_,rfl⟩⟩ (hh.res j)
   have hb':O b=Ro j:=hb
   show O' b=Ro j
   rw [hO2 b (by rw [hb'];exact fun h=>Z0m t j h.symm),hb']
theorem HoldO.drop {O:Nat→Nat}{a:Act}{w:World}{i:Nat}(hr:S.r i=emp)(hh:HoldO C S O a w):∃O',HoldO C S O' a w∧(∀b,O' b≠Ro i)∧(∀b t,O b=So t→O' b=So t):=by
 let O':Nat→Nat:=fun b=>if O b=Ro i then 0 else O b
 have h1:∀b,O' b≠0→O b≠0∧O' b=O b:=fun b h=>by
  by_cases e:O b=Ro i
  ·exact absurd (if_pos e) h
  ·exact ⟨fun e0=>h (by simp only [O'];rw [if_neg e,e0]),if_neg e⟩
 have h2:∀b q,O b=q→q≠Ro i→O' b=q:=fun b q h hq=>by
  show (if O b=Ro i then 0 else O b)=q
  rw [if_neg (by rw [h];exact hq),h]
 refine ⟨O',⟨hh.h0,hh.os,hh.tape,hh.output,hh.size,hh.old,fun b hb=>hh.own b (h1 b hb).1,hh.dfr,hh.n,fun s=>?_,fun j=>?_⟩,fun b h=>?_,fun b t h=>h2 b _ h (Z0m t i)⟩
 ·exact (S.s s).mono ⟨Nat.le_refl _,fun b _ hn=>⟨fun h=>hn (h.imp id fun h=>(h1 b h).1),rfl⟩,fun b _ hb=>⟨h2 b _ hb (Z0m s i),rfl⟩⟩ (hh.slot s)
 ·by_cases e:j=i
  ·subst e;rw [hr];trivial
  ·exact (S.r j).mono ⟨Nat.le_refl _,fun b _ hn=>⟨fun h=>hn (h.imp id fun h=>(h1 b h).1),rfl⟩,fun b _ hb=>⟨h2 b _ hb (fun h=>e (Z14 h)),rfl⟩⟩ (hh.res j)
 ·have h':(if O b=Ro i then 0 else O b)=Ro i:=h
  split at h'
  ·exact Zw i h'.symm
  ·rename_i hne;exact hne h'
theorem AW.unpackP {Q:Exit→St→Prop}{c:Code}(t i:Nat){T:TypeId}{k:Kd α}{x:α}(hs:S.s t=Z3q T k x)(hr:S.r i=emp)(h:∀g,AW C c Q ((S.set t (Zp g (Lens.id k))).setr i (Blk g T k x))):AW C c Q S:=by
 rintro a w ⟨O,hh⟩
 obtain ⟨O1,hh1,hne,hso⟩:=hh.drop hr
 have h1:=hh1.slot t
 rw [hs] at h1
 obtain ⟨g,cs,hv,hm,hg,hc⟩:=h1
 refine h g a w (Zno hh1 (fun O' _=>hv) (fun O' hiff hp=>⟨hp g hm,cs,hg,k.mono ⟨Nat.le_refl _,fun b _ hn=>⟨fun h=>hn (h.imp id (hiff b).1),rfl⟩,fun _ _ h=>h.elim⟩ hc⟩) hne)
variable {ops : Array Oper}
theorem Z74 {us:List (Nat×Z1)}{ur:List (Nat×Zf)}(rs rr:List Nat)(hg:o.guard=none)
  (h:∀S':St,(∀t,rs.contains t=true→S'.s t=S.s t)→(∀i,rr.contains i=true→S'.r i=S.r i)→OpE C o S' (S'.ap ⟨rs,rr,us,ur⟩)):Loc C ops o S ⟨rs,rr,us,ur⟩:=fun S' _ hs hr=>OpG.of hg (h S' hs hr)
end Z1e
structure Itr (α:Type):Type 1 where
 run:(σ:Type)→(σ→α→Option (Lp σ))→Lp σ→Option (Lp σ)
instance {α:Type}:Inhabited (Itr α):=⟨⟨fun _ _ _=>none⟩⟩
def yc {σ α:Type}(y:σ→α→Option (Lp σ))(r:Lp σ)(x:α):Option (Lp σ):=match r with
 | .go s=>y s x
 | .out _ _=>none
theorem Zrd {σ α:Type}{y:σ→α→Option (Lp σ)}{r r':Lp σ}{x:α}(h:yc y r x=some r'):∃s,r= .go s∧y s x=some r':=by
 cases r with
 | go s=>exact ⟨s,rfl,h⟩
 | out c s=>cases h
def GS1 {α:Type}(P:Program)(k:Kd α)(q:Itr α):List Z1→Zf→Z1→Zf→Prop:=
 fun As R B R'=> ∃(σ:Type) (y:σ→α→Option (Lp σ)) (L:Lp σ→Zf) (r r':Lp σ),q.run σ y r=some r'∧As=[fnR P (GY (fun x=>[rd k x]) y L)]∧R=L r∧B=top∧R'=L r'
def Z34 {α:Type}(P:Program)(k:Kd α)(q:Itr α):Z1:=fnS P (GS1 P k q)
instance {α:Type}(P:Program)(k:Kd α)(q:Itr α):Dup (Z34 P k q):=⟨fun h=>h⟩
def ydA {α σ:Type}(P:Program)(k:Kd α)(y:σ→α→Option (Lp σ))(L:Lp σ→Zf):Z1:=fnR P (GY (fun x=>[rd k x]) y L)
instance {α σ:Type}(P:Program)(k:Kd α)(y:σ→α→Option (Lp σ))(L:Lp σ→Zf):Dup (ydA P k y L):=⟨fun h=>h⟩
section seqs
variable {C : Ctx} {S S' : St} {o : Oper} {α σ : Type}
theorem Zsg {f:FuncId}{cs:List Operand}{CAs:List Z1}{k:Kd α}(q:Itr α)(ho:o.op= .makeFunc (.func f) #[] cs.toArray)(hd:Z7 o C.N=true)(he:Ent C.P f)(hc:Vals C S cs CAs)
  (hG:∀(σ:Type) (y:σ→α→Option (Lp σ)) (L:Lp σ→Zf) (r r':Lp σ),q.run σ y r=some r'→Con C.P f (ydA C.P k y L::CAs) (L r) (fun _:Unit=>top) (fun _=>L r')):
  OpE C o S (S.put o.dst (Z34 C.P k q)):=
 Zlw (fs:=[]) (FAs:=[]) ho hd he trivial hc (by rintro _ _ _ _ ⟨σ,y,L,r,r',h,rfl,rfl,rfl,rfl⟩;exact hG σ y L r r' h)
theorem Znu {x p:Operand}{ts:Array TypeId}{k:Kd α}{y:σ→α→Option (Lp σ)}{L:Lp σ→Zf}{a:α}{r r':Lp σ}(i:Nat)(hF:yc y r a=some r')(ho:o.op= .call {callee:= .value x,args:= #[p],argTypes:=ts})(hd:Z7 o C.N=true)(hx:Val C S x (ydA C.P k y L))(hp:Val C S p (rd k a))(hr:S.r i=L r):
  OpE C o S ((S.put o.dst (rd Z5 r'.isGo)).setr i (L r')):=by
 obtain ⟨s,rfl,h⟩:=Zrd hF
 exact Zsy (xs:=[p]) i ho hd hx ⟨s,a,r',h,rfl,rfl,rfl,rfl⟩ ⟨hp,trivial⟩ hr
theorem Z2g {fn:Func}{i:Nat}{R:Zf}(hf:fn.results= #[])(hd:S.d=[])(hr:S.r i=R):RetOK C fn S (fun _:Unit=>top) (fun _=>R):=
 ⟨hd,fun O a w hh=>by
  have h2:=hh.res i
  rw [hr] at h2
  refine ⟨.tuple #[],(),fun b=>O b=Ro i,?_,fun b hb=>by rw [hb];exact Zw i,trivial,?_⟩
  ·have e:results fn a.tmps=(do let vs ←fn.results.mapM (Z69 a.tmps);pure (if h:vs.size=1 then vs[0] else .tuple vs)):=rfl
   rw [e,hf];simp
  ·refine R.mono ⟨Nat.le_refl _,fun b _ hn=>⟨?_,rfl⟩,fun b _ hb=>⟨hb,rfl⟩⟩ h2
   rintro (h | h)
   ·exact hn (.inl h)
   ·exact hn (.inr (by rw [h];exact Zw i))⟩
def Zfc:Option TypeDesc→Bool
 | some (.func _ _ _)=>true
 | _=>false
theorem Zom {P:Program}{w:World}{T:TypeId}{f:Fn}{fs cs:Array Value}(h:Zfc (P.underlying T)=true):(Op.equal T (.func f fs cs) .nilFunc).run P w= .ok false w:=by
 cases hu:P.underlying T with
 | none=>rw [hu] at h;cases h
 | some d=>
  rw [hu] at h
  cases d with
  | func a b v=>unfold Op.equal;rw [show Op.maxDepth=9999+1 from rfl];unfold Op.equalIn;simp [run_underlying hu]
  | _=>cases h
theorem Zt9 {T U:TypeId}{k:Kd α}{q:Itr α}{p:Operand}(ho:o.op= .binOp .neq T p (.const .nilFunc) U)(hd:Z7 o C.N=true)(hT:Zfc (C.P.underlying T)=true)(hp:Val C S p (Z34 C.P k q)):OpE C o S (S.put o.dst (rd Z5 true)):=
 OpE.plain (by simp [ho]) hd fun O a w hh=>by
  obtain ⟨f,fst,cap,h1,_⟩:=hp.of hh
  have hg:(eqGuard .neq T p (.const .nilFunc) (.func (.func f) fst cap) .nilFunc).run C.P w= .ok () w:=rfl
  have h3:a.eval (.const .nilFunc)= .nilFunc:=rfl
  exact ⟨.bool true,by simp only [execOp,ho,h1,h3,Sem.run_bind,hg,Result.andThen_ok,binOp,Zom hT,Sem.run_pure,Bool.not_false],Z1y⟩
end seqs
end Go.Wb
namespace Go.Wb
open Go
section slots2
variable {C : Ctx} {S S' : St} {o : Oper} {α : Type}
theorem Zlz {O:Nat→Nat}{a:Act}{w w':World}{v v':Value}{E:TypeId}{k:Kd α}{l:List α}{cl:List Value}{i d:Nat}(hh:HoldO C S O a w)(t:Turns O i w v v' w')(hdst:o.dst=some d)(hd:Z7 o C.N=true)
  (ho:w'.ownsRow 0 E k.sz v' l.length cl)(hc:∀O',(∀b,O' b≠0→Z1m O i v' b≠0)→Cells k w' (Zi C O') l cl):Hold C ((S.put o.dst (Z7r E k l)).setr i emp) (a.put o.dst v') w':=by
 obtain ⟨O1,h1⟩:∃O1,O1=Z1m O i v':=⟨_,rfl⟩
 let O2:Nat→Nat:=fun b=>if O1 b=Ro i then (if v'.ownBlock=some b then So d else 0) else (if O1 b=So d then 0 else O1 b)
 have e1:∀b,v'.ownBlock=some b→O2 b=So d:=fun b hb=>by
  have:O1 b=Ro i:=by rw [h1];exact if_pos hb
  show (if O1 b=Ro i then (if v'.ownBlock=some b then So d else 0) else _)=So d
  rw [if_pos this,if_pos hb]
 have e2:∀b q,O1 b=q→q≠Ro i→q≠So d→O2 b=q:=fun b q h hq hq'=>by
  show (if O1 b=Ro i then (if v'.ownBlock=some b then So d else 0) else (if O1 b=So d then 0 else O1 b))=q
  rw [if_neg (by rw [h];exact hq),if_neg (by rw [h];exact hq'),h]
 have e3:∀b,O2 b≠0→O1 b≠0:=fun b h=>by
  intro h0
  apply h
  show (if O1 b=Ro i then (if v'.ownBlock=some b then So d else 0) else (if O1 b=So d then 0 else O1 b))=0
  rw [h0,if_neg (fun e=>Zw i e.symm),if_neg (fun e=>Z5e d e.symm)]
 have go1:=t.goes hh
 rw [←h1] at go1
 have e1o:∀b,b<w.heap.size→O b≠Ro i→O1 b=O b:=fun b hb hq=>(go1.same b hb hq).1
 refine ⟨O2,⟨hh.h0,t.g.os.trans hh.os,t.g.tape.trans hh.tape,t.g.output.trans hh.output,Nat.le_trans hh.size t.g.size,fun b hb hX=>?_,fun b hb=>?_,?_,?_,fun s=>?_,fun j=>?_⟩⟩
 ·have hb1:b<w.heap.size:=Nat.lt_of_lt_of_le hb hh.size
  have hno:O b≠Ro i:=fun e=>by
   have h5:=(hh.own b (by rw [e];exact Zw i)).1
   rcases h5 with h5 | h5
   ·omega
   ·exact hX h5
  exact ((go1.same b hb1 hno).2).trans (hh.old b hb hX)
 ·have h5:=e3 b hb
  refine ⟨?_,go1.lt b h5⟩
  rcases go1.own b h5 with h6 | h6
  ·exact (hh.own b h6).1
  ·exact .inl (Nat.le_trans hh.size h6)
 ·show (a.put o.dst v').defers=_
  rw [Z4c]
  have:((S.put o.dst (Z7r E k l)).setr i emp).d=S.d:=by cases o.dst<;>rfl
  rw [this];exact hh.dfr
 ·rw [Z59];exact hh.n
 ·rw [hdst]
  by_cases e:s=d
  ·subst e
   have hlt:s<a.tmps.size:=hh.n▸Z1o hd s hdst
   rw [Z52 hlt]
   simp only [St.put,St.set,St.setr,Zy]
   exact ⟨cl,ho,hc O2 (fun b hb=>by rw [←h1];exact e3 b hb),fun b hb=>e1 b hb⟩
  ·rw [Z4h e]
   simp only [St.put,St.set,St.setr]
   rw [Zz _ _ e]
   refine (S.s s).mono ⟨t.g.size,fun b hb hn=>?_,fun b hb hm=>?_⟩ (hh.slot s)
   ·have h0:O b=0:=Classical.byContradiction fun h=>hn (.inr h)
    have h6:=go1.same b hb (by rw [h0];exact fun h=>Zw i h.symm)
    refine ⟨?_,h6.2⟩
    rintro (h | h)
    ·exact hn (.inl h)
    ·exact e3 b h (h6.1.trans h0)
   ·have hm':O b=So s:=hm
    have h6:=go1.same b hb (by rw [hm'];exact Z0m s i)
    exact ⟨e2 b _ (h6.1.trans hm') (Z0m s i) (fun h=>e (Zaa h)),h6.2⟩
 ·have hres:((S.put o.dst (Z7r E k l)).setr i emp).r j=upd S.r i emp j:=by cases o.dst<;>rfl
  rw [hres]
  by_cases e:j=i
  ·subst e;rw [Zy];trivial
  ·rw [Zz _ _ e]
   refine (S.r j).mono ⟨t.g.size,fun b hb hn=>?_,fun b hb hm=>?_⟩ (hh.res j)
   ·have h0:O b=0:=Classical.byContradiction fun h=>hn (.inr h)
    have h6:=go1.same b hb (by rw [h0];exact fun h=>Zw i h.symm)
    refine ⟨?_,h6.2⟩
    rintro (h | h)
    ·exact hn (.inl h)
    ·exact e3 b h (h6.1.trans h0)
   ·have hm':O b=Ro j:=hm
    have h6:=go1.same b hb (by rw [hm'];exact fun h=>e (Z14 h))
    exact ⟨e2 b _ (h6.1.trans hm') (fun h=>e (Z14 h)) (fun h=>Z0m d j h.symm),h6.2⟩
theorem Zkl {T E:TypeId}{k:Kd α}{l m r:List α}{v:Value}{p q:Operand}{d:Nat}(i:Nat)(hl:Z1j l m=some r)(ho:o.op= .call {callee:= .builtin .append,args:= #[p,q],argTypes:= #[T,T]})(hdst:o.dst=some d)(hd:Z7 o C.N=true)(he:El C.P T E k)(hp:Val C S p (Zc v))(hr:S.r i=Zb v E k l)(hq:Val C S q (rd (Z2 k) m)):
  OpE C o S ((S.put o.dst (Z7r E k r)).setr i emp):=
 OpE.value (by simp [ho]) fun O a w hh=>by
  obtain ⟨hll,rfl⟩:=Z86 hl
  have h1:=Z26 (hp.of hh)
  have h2:=Z4l (hq.of hh)
  have h3:=hh.res i
  rw [hr] at h3
  obtain ⟨cl,hown,hc,hm⟩:=h3
  obtain ⟨v',w',ml,h4,h5,h6,h7,h8,h9⟩:=Zgk (ty:=o.type) he hown h2 hll
  have t:Turns O i w v v' w':=⟨h8,hm,h9,fun b hb=>(h5.lt b hb).2⟩
  refine ⟨v',w',?_,Zlz hh t hdst hd (cl:=cl++ml) (by rw [List.length_append];exact h5) fun O' hO'=>?_⟩
  ·simp only [execOp,ho,resolve,invoke,builtin,Sem.run_bind,Sem.run_pure,Result.andThen_ok,List.map_toArray,List.map_cons,List.map_nil,h1,h4]
  ·have hext:Ext w (Zi C O) Z6 w' (Zi C O') Z6:=by
    have:=t.ext (C:=C)
    exact ⟨this.size,fun b hb hn=>⟨fun h=>(this.vis b hb hn).1 (h.imp id (hO' b)),(this.vis b hb hn).2⟩,fun _ _ h=>h.elim⟩
   refine (hc.mono hext).append ?_
   by_cases e:m.length=0
   ·have e':=List.eq_nil_of_length_eq_zero e
    subst e'
    rw [h7 rfl];rfl
   ·exact (h6 (by omega)).mono hext
end slots2
end Go.Wb
namespace Go.Wb
open Go
class Flat (B:Z1):Prop where
 flat:∀{w H M w' H' M' v},B.R w H M v→B.R w' H' M' v
instance (ik:IntKind)(n:Int):Flat (rd (Z0 ik) n):=⟨fun ⟨cs,h,e⟩=>⟨cs,h,e⟩⟩
instance (b:Bool):Flat (rd Z5 b):=⟨fun ⟨cs,h,e⟩=>⟨cs,h,e⟩⟩
instance (b:BitVec 64):Flat (rd Z01 b):=⟨fun ⟨cs,h,e⟩=>⟨cs,h,e⟩⟩
instance (A B:Z1)[Flat A][Flat B]:Flat (Z4z A B):=⟨fun ⟨x,y,e,h1,h2⟩=>⟨x,y,e,Flat.flat h1,Flat.flat h2⟩⟩
section lend
variable {C : Ctx} {S S' : St} {o : Oper} {α : Type}
def Zcf (C:Ctx)(O:Nat→Nat)(i:Nat):HS:=fun b=>Zi C O b∧O b≠Ro i
def Zdb (C:Ctx)(S:St)(i:Nat)(x:Operand)(A:Z1):Prop:= ∀O a w,HoldO C S O a w→A.R w (Zcf C O i) Z6 (a.eval x)
theorem Zkb {w:World}{O:Nat→Nat}{i:Nat}:Ext w (Zi C O) Z6 w (Zcf C O i) Z6:=⟨Nat.le_refl _,fun b _ hn=>⟨fun h=>hn h.1,rfl⟩,fun _ _ h=>h.elim⟩
theorem vB {i:Nat}{x:Operand}{A:Z1}(h:Val C S x A):Zdb C S i x A:=fun O a w hh=>A.mono Zkb (h O a w hh)
theorem vL {i t:Nat}{E:TypeId}{k:Kd α}{l:List α}{v:Value}(hs:S.s t=Zc v)(hr:S.r i=Zb v E k l):Zdb C S i (.tmp t) (rd (Z2 k) l):=fun O a w hh=>by
 have h1:a.eval (.tmp t)=v:=Z26 (by have:=hh.slot t;rwa [hs] at this)
 have h2:=hh.res i
 rw [hr] at h2
 obtain ⟨cl,ho,hc,hm⟩:=h2
 rw [h1]
 exact Z7l (Zk4 (H':=Z6) ho (hc.mono Zkb) fun b hb h=>h.2 (hm b hb))
def ValsB (C:Ctx)(S:St)(i:Nat):List Operand→List Z1→Prop
 | [],[]=>True
 | x::xs,A::As=>Zdb C S i x A∧ValsB C S i xs As
 | _,_=>False
theorem ValsB.args {O:Nat→Nat}{a:Act}{w:World}{i:Nat}(hh:HoldO C S O a w):∀{xs:List Operand} {As:List Z1},ValsB C S i xs As→Args w (Zcf C O i) As (xs.map a.eval)
 | [],[],_=>trivial
 | _::_,_::_,⟨h1,h2⟩=>⟨h1 _ _ _ hh,ValsB.args hh h2⟩
 | [],_::_,h=>h.elim
 | _::_,[],h=>h.elim
theorem Zbm {f:FuncId}{xs:List Operand}{ts:Array TypeId}{As:List Z1}{B:Z1}[hB:Flat B](i:Nat)(hc:PCon C.P f As B)(he:Ent C.P f)(ho:o.op= .call {callee:= .value (.func f),args:=xs.toArray,argTypes:=ts})(hd:Z7 o C.N=true)(hv:ValsB C S i xs As):
  OpE C o S (S.put o.dst B):=by
 rintro a w ⟨O,hh⟩
 refine ⟨fun _ _=>trivial,?_⟩
 have hrun:(execOp a.eval o).run C.P w= .ok (.enter f (xs.map a.eval).toArray) w:=by
  simp only [execOp,ho,resolve,Act.eval,Deferred.ofValue,Sem.run_bind,Sem.run_pure,Result.andThen_ok,invoke]
  simpa using he _ w
 rw [Oper.semAt_eq _ _ _ (by simp [ho]),hrun]
 refine ⟨fun h=>by simp [Ctx.fen,Fence.wide] at h,Zao ?_⟩
 refine (hc w (Zcf C O i) _ (fun b h=>hh.hid_lt b h.1) (hv.args hh)).mono ?_
 rintro e w' ⟨v,rfl,hf,hBv⟩
 exact ⟨_,rfl,O,hh.yield ⟨hf.os,hf.tape,hf.output,hf.size,fun b hb _=>⟨rfl,hf.same b hb (fun h=>h)⟩,fun b h=> .inl h,fun b h=>Nat.lt_of_lt_of_le (hh.own b h).2 hf.size,fun h=>h⟩ (Z1o hd) (hB.flat hBv)⟩
def St.setL (S:St)(ts:List Nat)(A:Z1):St:=⟨Z15 S.s (ts.map fun t=>(t,A)),S.r,S.d⟩
def Z9f (S:St)(A:Z1):List Nat→Prop
 | []=>True
 | t::ts=>S.s t=A∧Z9f S A ts
theorem Zjs {A:Z1}:∀{ts:List Nat},Z9f S A ts→∀t∈ts,S.s t=A
 | [],_,t,h=>by cases h
 | u::ts,⟨h1,h2⟩,t,h=>by
  rcases List.mem_cons.1 h with rfl | h
  ·exact h1
  ·exact Zjs h2 t h
theorem Zfw {A:Z1}:∀(ts:List Nat) (s:Nat→Z1) (t:Nat),(t∈ts∧Z15 s (ts.map fun t=>(t,A)) t=A)∨(t∉ts∧Z15 s (ts.map fun t=>(t,A)) t=s t)
 | [],s,t=> .inr ⟨by simp,rfl⟩
 | u::ts,s,t=>by
  simp only [List.map_cons,Z15]
  rcases Zfw ts (upd s u A) t with ⟨h1,h2⟩ | ⟨h1,h2⟩
  ·exact .inl ⟨List.mem_cons_of_mem _ h1,h2⟩
  ·by_cases e:t=u
   ·subst e;exact .inl ⟨by simp,h2.trans (Zy ..)⟩
   ·exact .inr ⟨by simp [e,h1],h2.trans (Zz _ _ e)⟩
theorem Hold.freezes {a:Act}{w:World}{ts:List Nat}{i:Nat}{E:TypeId}{k:Kd α}{l:List α}{v:Value}(hX:C.X=Z6)(hs:Z9f S (Zc v) ts)(hr:S.r i=Zb v E k l)(hh:Hold C S a w):Hold C ((S.setL ts (rd (Z2 k) l)).setr i emp) a w:=by
 obtain ⟨O,hh⟩:=hh
 have h3:=hh.res i
 rw [hr] at h3
 obtain ⟨cl,hown,hc,hm⟩:=h3
 let O':Nat→Nat:=fun b=>if O b=Ro i then 0 else O b
 have hO:∀b,O' b≠0→O b≠0∧O' b=O b:=fun b h=>by
  by_cases e:O b=Ro i
  ·exact absurd (if_pos e) h
  ·exact ⟨fun e0=>h (by simp only [O'];rw [if_neg e,e0]),if_neg e⟩
 have hext:Ext w (Zi C O) Z6 w (Zi C O') Z6:=⟨Nat.le_refl _,fun b _ hn=>⟨fun h=>hn (h.imp id fun h=>(hO b h).1),rfl⟩,fun _ _ h=>h.elim⟩
 have go:Goes C (fun q=>q=Ro i) O w O' w:=⟨rfl,rfl,rfl,Nat.le_refl _,fun b hb hq=>⟨if_neg hq,rfl⟩,fun b h=> .inl (hO b h).1,fun b h=>(hh.own b (hO b h).1).2,fun h=>Zw i h.symm⟩
 refine ⟨O',hh.goes go rfl rfl rfl (fun s=>?_) (fun j=>?_)⟩
 ·rcases Zfw (A:=rd (Z2 k) l) ts S.s s with ⟨h1,h2⟩ | ⟨h1,h2⟩
  ·right
   simp only [St.setL,St.setr]
   rw [h2]
   have h5:a.tmps.getD s undef=v:=Z26 (by have:=hh.slot s;rwa [Zjs hs s h1] at this)
   rw [h5]
   refine Z7l (Zk4 (H':=Z6) hown (hc.mono hext) fun b hb=>?_)
   rintro (h | h)
   ·have h5:=hm b hb
    have h6:=(hh.own b (by rw [h5];exact Zw i)).1
    rw [hX] at h6
    have h7:=hh.h0 b h
    rcases h6 with h6 | h6
    ·omega
    ·exact h6
   ·exact h (if_pos (hm b hb))
  ·exact .inl ⟨by simp only [St.setL,St.setr];exact h2,Z0m s i,rfl⟩
 ·by_cases e:j=i
  ·subst e
   right
   simp only [St.setr,Zy]
   trivial
  ·exact .inl ⟨by simp only [St.setr];rw [Zz _ _ e];rfl,fun h=>e (Z14 h)⟩
theorem AOps.freezes {ops:Array Oper}{Q:Exit→St→Prop}{c:List Oper}(ts:List Nat)(i:Nat){E:TypeId}{k:Kd α}{l:List α}{v:Value}(hX:C.X=Z6)(hs:Z9f S (Zc v) ts)(hr:S.r i=Zb v E k l)(h:AOps C ops Q c ((S.setL ts (rd (Z2 k) l)).setr i emp)):AOps C ops Q c S:=
 fun a w hh=>h a w (hh.freezes hX hs hr)
theorem AW.freezes {Q:Exit→St→Prop}{c:Code}(ts:List Nat)(i:Nat){E:TypeId}{k:Kd α}{l:List α}{v:Value}(hX:C.X=Z6)(hs:Z9f S (Zc v) ts)(hr:S.r i=Zb v E k l)(h:AW C c Q ((S.setL ts (rd (Z2 k) l)).setr i emp)):AW C c Q S:=
 fun a w hh=>h a w (hh.freezes hX hs hr)
section u64
variable {T U : TypeId} {x y : Operand} {m n : BitVec 64}
theorem Zlv (x:Nat):IntKind.u64.wrap (x:Int)=((x % 18446744073709551616:Nat):Int):=by
 simp [IntKind.wrap,IntKind.signed,IntKind.bits]
theorem Zgo (z:Int):IntKind.u64.wrap z=((BitVec.ofInt 64 z).toNat:Int):=by
 rw [BitVec.toNat_ofInt]
 simp only [IntKind.wrap,IntKind.signed,IntKind.bits]
 have:=Int.emod_nonneg z (show (18446744073709551616:Int)≠0 by decide)
 simp
 omega
theorem Zob (m n:BitVec 64):BitVec.ofInt 64 ((m.toNat:Int) - (n.toNat:Int))=m - n:=by
 apply BitVec.eq_of_toNat_eq
 rw [BitVec.toNat_ofInt,BitVec.toNat_sub]
 have:=m.isLt;have:=n.isLt
 omega
theorem Zr6 (ho:o.op= .binOp .sub T x y U)(hd:Z7 o C.N=true)(hx:Val C S x (rd Z01 m))(hy:Val C S y (rd Z01 n)):OpE C o S (S.put o.dst (rd Z01 (m - n))):=
 OpE.plain (by simp [ho]) hd fun O a w hh=>by
  have h1:=Z31 (hx.of hh);have h2:=Z31 (hy.of hh)
  refine ⟨.int .u64 (IntKind.u64.wrap ((m.toNat:Int) - (n.toNat:Int))),by simp [execOp,ho,h1,h2,Z19,binOp,Op.intArith],Z5f ?_⟩
  rw [Zgo,Zob]
def Z5g (m:BitVec 64)(n:Int):Option (BitVec 64):=bif decide (n<0) then none else some (m<<<n.toNat)
def Z60 (m:BitVec 64)(n:Int):Option (BitVec 64):=bif decide (n<0) then none else some (m>>>n.toNat)
theorem Zo7 {m r:BitVec 64}{n:Int}(h:Z5g m n=some r):¬n<0∧m<<<n.toNat=r:=by
 unfold Z5g at h
 by_cases e:n<0
 ·rw [decide_eq_true e] at h;cases h
 ·rw [decide_eq_false e] at h;exact ⟨e,Option.some.inj h⟩
theorem Zsn {m r:BitVec 64}{n:Int}(h:Z60 m n=some r):¬n<0∧m>>>n.toNat=r:=by
 unfold Z60 at h
 by_cases e:n<0
 ·rw [decide_eq_true e] at h;cases h
 ·rw [decide_eq_false e] at h;exact ⟨e,Option.some.inj h⟩
theorem Zqv (m:BitVec 64)(k:Nat):IntKind.u64.wrap ((m.toNat:Int)*2 ^ (min k 64))=((m<<<k).toNat:Int):=by
 have e1:((m.toNat:Int)*2 ^ (min k 64))=((m.toNat*2 ^ (min k 64):Nat):Int):=by rw [Int.natCast_mul,Int.natCast_pow];rfl
 rw [e1,Zlv,BitVec.toNat_shiftLeft,Nat.shiftLeft_eq]
 congr 1
 rcases Nat.lt_or_ge k 64 with h | h
 ·rw [Nat.min_eq_left (by omega)]
 ·rw [Nat.min_eq_right h]
  obtain ⟨j,rfl⟩:∃j,k=j+64:=⟨k - 64,by omega⟩
  rw [Nat.pow_add,←Nat.mul_assoc,Nat.mul_mod_left,Nat.mul_mod_left]
theorem Zq4 (m:BitVec 64)(k:Nat):((m.toNat:Int).fdiv (2 ^ (min k 64)))=((m>>>k).toNat:Int):=by
 rw [BitVec.toNat_ushiftRight,Nat.shiftRight_eq_div_pow]
 have e:((2:Int) ^ (min k 64))=((2 ^ (min k 64):Nat):Int):=by rw [Int.natCast_pow];rfl
 rw [e,Int.fdiv_eq_ediv_of_nonneg _ (Int.natCast_nonneg _),←Int.natCast_ediv]
 congr 1
 rcases Nat.lt_or_ge k 64 with h | h
 ·rw [Nat.min_eq_left (by omega)]
 ·rw [Nat.min_eq_right h]
  have hm:=m.isLt
  rw [Nat.div_eq_of_lt hm,Nat.div_eq_of_lt (Nat.lt_of_lt_of_le hm (Nat.pow_le_pow_right (by decide) h))]
theorem Zin {r:BitVec 64}{jk:IntKind}{n:Int}(ho:o.op= .binOp .shl T x y U)(hd:Z7 o C.N=true)(hx:Val C S x (rd Z01 m))(hy:Val C S y (rd (Z0 jk) n))(h:Z5g m n=some r):OpE C o S (S.put o.dst (rd Z01 r)):=
 OpE.plain (by simp [ho]) hd fun O a w hh=>by
  obtain ⟨h0,rfl⟩:=Zo7 h
  have h1:=Z31 (hx.of hh);have h2:=(Zv (hy.of hh)).1
  exact ⟨.int .u64 (IntKind.u64.wrap ((m.toNat:Int)*2 ^ (min n.toNat 64))),by simp [execOp,ho,h1,h2,Z19,binOp,Op.shift,h0,IntKind.bits],Z5f (Zqv m n.toNat)⟩
theorem Zbu {r:BitVec 64}{jk:IntKind}{n:Int}(ho:o.op= .binOp .shr T x y U)(hd:Z7 o C.N=true)(hx:Val C S x (rd Z01 m))(hy:Val C S y (rd (Z0 jk) n))(h:Z60 m n=some r):OpE C o S (S.put o.dst (rd Z01 r)):=
 OpE.plain (by simp [ho]) hd fun O a w hh=>by
  obtain ⟨h0,rfl⟩:=Zsn h
  have h1:=Z31 (hx.of hh);have h2:=(Zv (hy.of hh)).1
  exact ⟨.int .u64 ((m.toNat:Int).fdiv (2 ^ (min n.toNat 64))),by simp [execOp,ho,h1,h2,Z19,binOp,Op.shift,h0,IntKind.bits],Z5f (Zq4 m n.toNat)⟩
theorem Zb2 {n:Int}{ik:IntKind}(ho:o.op= .convert T U x)(hd:Z7 o C.N=true)(hT:(C.P.underlying T).isSome=true)(hU:C.P.underlying U=some (.int .u64))(hx:Val C S x (rd (Z0 ik) n)):OpE C o S (S.put o.dst (rd Z01 (BitVec.ofInt 64 n))):=
 OpE.plain (by simp [ho]) hd fun O a w hh=>by
  have h1:=Zv (hx.of hh)
  obtain ⟨d,hd'⟩:=Option.isSome_iff_exists.1 hT
  refine ⟨.int .u64 (IntKind.u64.wrap n),?_,Z5f (Zgo n)⟩
  simp only [execOp,ho,h1.1,convert,Sem.run_bind,run_underlying hd',run_underlying hU,Result.andThen_ok]
  cases d<;>simp [Conv.intToInt]
theorem Zck {ik:IntKind}(ho:o.op= .convert T U x)(hd:Z7 o C.N=true)(hT:(C.P.underlying T).isSome=true)(hU:C.P.underlying U=some (.int ik))(hx:Val C S x (rd Z01 m)):OpE C o S (S.put o.dst (rd (Z0 ik) (ik.wrap (m.toNat:Int)))):=
 OpE.plain (by simp [ho]) hd fun O a w hh=>by
  have h1:=Z31 (hx.of hh)
  obtain ⟨d,hd'⟩:=Option.isSome_iff_exists.1 hT
  refine ⟨.int ik (ik.wrap (m.toNat:Int)),?_,Z1r (Z61 _ _)⟩
  simp only [execOp,ho,h1,convert,Sem.run_bind,run_underlying hd',run_underlying hU,Result.andThen_ok]
  cases d<;>simp [Conv.intToInt]
end u64
end lend
end Go.Wb
namespace Go.Wb
open Go
theorem AW.weakQ {C:Ctx}{c:Code}{Q Q':Exit→St→Prop}{S:St}(h:AW C c Q' S)(hq:∀e S',Q' e S'→∃S'',Q e S''∧S'.d=S''.d∧(∀t,S''.s t=S'.s t∨S''.s t=top)∧(∀i,S''.r i=S'.r i∨S''.r i=emp)):AW C c Q S:=by
 intro a w hh
 refine wpIn_mono (h a w hh) ?_
 rintro e a' w' ⟨S',h1,O,h2⟩
 obtain ⟨S'',h3,h4,h5,h6⟩:=hq e S' h1
 exact ⟨S'',h3,O,h2.weak h4.symm h5 h6⟩
def Zs6 {σ:Type}(M:σ→List (Nat×Zf))(Mx:Code→σ→List (Nat×Zf))(r:Lp σ):Exit→St→Prop
 | .normal,S'=> ∃s',r= .go s'∧Z54 S' (M s')
 | .exit id,S'=> ∃s',r= .out (.exit id) s'∧Z54 S' (Mx (.exit id) s')
 | .ret,S'=> ∃s',r= .out .ret s'∧Z54 S' (Mx .ret s')
 | _,_=>False
theorem AW.bodyOf {C:Ctx}{c:Code}{σ:Type}{M:σ→List (Nat×Zf)}{Mx:Code→σ→List (Nat×Zf)}{r:Lp σ}{S:St}(h:AW C c (Zs6 M Mx r) S):AW C c (Zh9 (fun s=>Z2d (M s)) (fun c s=>Z2d (Mx c s)) r) S:=by
 refine AW.weakQ h fun e S' hq=>?_
 have key:∀l:List (Nat×Zf),Z54 S' l→∀i,(Z2d l) i=S'.r i∨(Z2d l) i=emp:=fun l hl=>Ze1 hl (fun _=> .inr rfl)
 cases e with
 | normal=>obtain ⟨s',h1,h2⟩:=hq;exact ⟨⟨S'.s,Z2d (M s'),S'.d⟩,⟨s',h1,rfl⟩,rfl,fun _=> .inl rfl,key _ h2⟩
 | exit id=>obtain ⟨s',h1,h2⟩:=hq;exact ⟨⟨S'.s,Z2d (Mx (.exit id) s'),S'.d⟩,⟨s',h1,rfl⟩,rfl,fun _=> .inl rfl,key _ h2⟩
 | ret=>obtain ⟨s',h1,h2⟩:=hq;exact ⟨⟨S'.s,Z2d (Mx .ret s'),S'.d⟩,⟨s',h1,rfl⟩,rfl,fun _=> .inl rfl,key _ h2⟩
 | goto t=>exact hq.elim
 | panic ch=>exact hq.elim
 | outgrown=>exact hq.elim
def Z44 {α:Type}(g:Nat)(T E:TypeId)(k:Kd α)(l:List α):Zf:=
 ⟨fun w H M=> ∃v:Value,M g∧w.heap[g]? =some (.cells #[v] T (0,0))∧(∃cl,w.ownsRow 0 E k.sz v l.length cl∧Cells k w H l cl)∧∀b,v.ownBlock=some b→M b∧b≠g,
  fun {w H M w' H' M'} h ⟨v,h1,h2,⟨cl,ho,hc⟩,h3⟩=>by
  obtain ⟨a,b⟩:=h.own g (Array.getElem?_eq_some_iff.1 h2).1 h1
  refine ⟨v,a,b.trans h2,⟨cl,⟨ho.1,?_⟩,hc.mono h.pure_⟩,fun b hb=>⟨(h.own b (ho.lt b hb).2 (h3 b hb).1).1,(h3 b hb).2⟩⟩
  rcases ho.2 with e | ⟨g',cap,cur,rfl,hb,hg,r⟩
  ·exact .inl e
  ·exact .inr ⟨g',cap,cur,rfl,hb,(h.own g' (Array.getElem?_eq_some_iff.1 hg).1 (h3 g' rfl).1).2.trans hg,r⟩⟩
section box
variable {C : Ctx} {S S' : St} {o : Oper} {α : Type}
theorem Zbd {w:World}{E:TypeId}{sz n:Nat}{v:Value}{cl:List Value}(ho:w.ownsRow 0 E sz v n cl):v.oneCell'=true:=by
 rcases ho.2 with ⟨rfl,_⟩ | ⟨g,cap,cur,rfl,_⟩<;>rfl
theorem Zs1 {t i:Nat}{E:TypeId}{k:Kd α}{l:List α}{v:Value}(hs:S.s t=Zc v)(hr:S.r i=Zb v E k l):Val C S (.tmp t) (rd kraw v):=fun O a w hh=>by
 have h1:a.eval (.tmp t)=v:=Z26 (by have:=hh.slot t;rwa [hs] at this)
 have h2:=hh.res i
 rw [hr] at h2
 obtain ⟨cl,ho,_⟩:=h2
 rw [h1]
 exact ⟨[v],⟨rfl,Zbd ho⟩,rfl⟩
theorem vkr {x:Operand}{v:Value}(h:Val C S x (Zc v))(h1:v.oneCell'=true):Val C S x (rd kraw v):=fun O a w hh=>⟨[v],⟨rfl,h1⟩,h O a w hh⟩
theorem Zhk {T T':TypeId}{g i:Nat}{v:Value}{p:Operand}(ho:o.op= .load T p)(hd:Z7 o C.N=true)(ht:Ty C.P T kraw)(hp:Val C S p (Zp g (Lens.id kraw)))(hr:S.r i=Blk g T' kraw v):OpE C o S (S.put o.dst (Zc v)):=by
 have h:=Z22 (i:=i) ho hd ht hp hr
 rintro a w hh
 have h1:=h a w hh
 refine ⟨h1.1,Oper.uponIn_mono (fun a' w' hx=>?_) (fun _ _ _ h=>h) _ h1.2⟩
 obtain ⟨S'',rfl,O,h2⟩:=hx
 refine ⟨_,rfl,O,{h2 with slot:=fun t=>?_,res:=fun j=>by have h5:=h2.res j;cases hdst:o.dst<;>rw [hdst] at h5<;>exact h5,dfr:=by have h5:=h2.dfr;cases hdst:o.dst<;>rw [hdst] at h5<;>exact h5}⟩
 have h5:=h2.slot t
 cases hdst:o.dst with
 | none=>rw [hdst] at h5;exact h5
 | some d=>
  rw [hdst] at h5
  by_cases e:t=d
  ·subst e
   simp only [St.put,St.set,Zy] at h5 ⊢
   obtain ⟨cs,⟨rfl,_⟩,e⟩:=h5
   exact e
  ·simp only [St.put,St.set] at h5 ⊢
   rw [Zz _ _ e] at h5 ⊢
   exact h5
theorem Hold.unbox {a:Act}{w:World}{i j g:Nat}{T E:TypeId}{k:Kd α}{l:List α}(hij:i≠j)(hr:S.r i=Z44 g T E k l)(hj:S.r j=emp)(hh:Hold C S a w):∃v,Hold C ((S.setr i (Blk g T kraw v)).setr j (Zb v E k l)) a w:=by
 obtain ⟨O0,hh0⟩:=hh
 obtain ⟨O,hh,hne,_⟩:=hh0.drop hj
 have h1:=hh.res i
 rw [hr] at h1
 obtain ⟨v,hm,hg,⟨cl,ho,hc⟩,hb⟩:=h1
 have hmg:O g=Ro i:=hm
 let O':Nat→Nat:=fun b=>if v.ownBlock=some b then Ro j else O b
 have hO1:∀b,v.ownBlock=some b→O' b=Ro j:=fun b h=>if_pos h
 have hO2:∀b,v.ownBlock≠some b→O' b=O b:=fun b h=>if_neg h
 have hiff:∀b,O' b≠0↔O b≠0:=fun b=>by
  by_cases e:v.ownBlock=some b
  ·have h5:O b=Ro i:=(hb b e).1
   rw [hO1 b e,h5];exact ⟨fun _=>Zw i,fun _=>Zw j⟩
  ·rw [hO2 b e]
 have hext:Ext w (Zi C O) Z6 w (Zi C O') Z6:=⟨Nat.le_refl _,fun b _ hn=>⟨fun h=>hn (h.imp id (hiff b).1),rfl⟩,fun _ _ h=>h.elim⟩
 refine ⟨v,O',⟨hh.h0,hh.os,hh.tape,hh.output,hh.size,hh.old,fun b hb=>hh.own b ((hiff b).1 hb),hh.dfr,hh.n,fun s=>?_,fun q=>?_⟩⟩
 ·refine (S.s s).mono ⟨Nat.le_refl _,hext.vis,fun b _ hb'=>⟨?_,rfl⟩⟩ (hh.slot s)
  have h5:O b=So s:=hb'
  show O' b=So s
  rw [hO2 b (fun e=>by have h6:O b=Ro i:=(hb b e).1;rw [h5] at h6;exact Z0m s i h6),h5]
 ·simp only [St.setr]
  by_cases e:q=j
  ·subst e
   rw [Zy]
   exact ⟨cl,ho,hc.mono hext,fun b hb'=>hO1 b hb'⟩
  ·rw [Zz _ _ e]
   by_cases e':q=i
   ·subst e'
    rw [Zy]
    refine ⟨?_,[v],hg,rfl,Zbd ho⟩
    show O' g=Ro q
    rw [hO2 g (fun e=>(hb g e).2 rfl)];exact hmg
   ·rw [Zz _ _ e']
    refine (S.r q).mono ⟨Nat.le_refl _,hext.vis,fun b _ hb'=>⟨?_,rfl⟩⟩ (hh.res q)
    have h5:O b=Ro q:=hb'
    show O' b=Ro q
    rw [hO2 b (fun e=>by have h6:O b=Ro i:=(hb b e).1;rw [h5] at h6;exact e' (Z14 h6)),h5]
theorem Hold.pack {a:Act}{w:World}{i j g:Nat}{v:Value}{T E:TypeId}{k:Kd α}{l:List α}(hij:i≠j)(hr:S.r i=Blk g T kraw v)(hj:S.r j=Zb v E k l)(hh:Hold C S a w):Hold C ((S.setr i (Z44 g T E k l)).setr j emp) a w:=by
 obtain ⟨O,hh⟩:=hh
 have h1:=hh.res i
 rw [hr] at h1
 obtain ⟨hm,cs,hg,rfl,_⟩:=h1
 have h2:=hh.res j
 rw [hj] at h2
 obtain ⟨cl,ho,hc,hb⟩:=h2
 let O':Nat→Nat:=fun b=>if O b=Ro j then Ro i else O b
 have hO1:∀b,O b=Ro j→O' b=Ro i:=fun b h=>if_pos h
 have hO2:∀b,O b≠Ro j→O' b=O b:=fun b h=>if_neg h
 have hiff:∀b,O' b≠0↔O b≠0:=fun b=>by
  by_cases e:O b=Ro j
  ·rw [hO1 b e,e];exact ⟨fun _=>Zw j,fun _=>Zw i⟩
  ·rw [hO2 b e]
 have hext:Ext w (Zi C O) Z6 w (Zi C O') Z6:=⟨Nat.le_refl _,fun b _ hn=>⟨fun h=>hn (h.imp id (hiff b).1),rfl⟩,fun _ _ h=>h.elim⟩
 have hmg:O g=Ro i:=hm
 refine ⟨O',⟨hh.h0,hh.os,hh.tape,hh.output,hh.size,hh.old,fun b hb=>hh.own b ((hiff b).1 hb),hh.dfr,hh.n,fun s=>?_,fun q=>?_⟩⟩
 ·refine (S.s s).mono ⟨Nat.le_refl _,hext.vis,fun b _ hb'=>⟨?_,rfl⟩⟩ (hh.slot s)
  have h5:O b=So s:=hb'
  show O' b=So s
  rw [hO2 b (by rw [h5];exact Z0m s j),h5]
 ·simp only [St.setr]
  by_cases e:q=j
  ·subst e;rw [Zy];trivial
  ·rw [Zz _ _ e]
   by_cases e':q=i
   ·subst e'
    rw [Zy]
    refine ⟨v,?_,hg,⟨cl,ho,hc.mono hext⟩,fun b hb'=>⟨hO1 b (hb b hb'),fun e5=>?_⟩⟩
    ·show O' g=Ro q
     rw [hO2 g (by rw [hmg];exact fun h=>hij (Z14 h))];exact hmg
    ·have h6:O b=Ro j:=hb b hb'
     rw [e5,hmg] at h6
     exact hij (Z14 h6)
   ·rw [Zz _ _ e']
    refine (S.r q).mono ⟨Nat.le_refl _,hext.vis,fun b _ hb'=>⟨?_,rfl⟩⟩ (hh.res q)
    have h5:O b=Ro q:=hb'
    show O' b=Ro q
    rw [hO2 b (by rw [h5];exact fun h=>e (Z14 h)),h5]
theorem AW.unbox {Q:Exit→St→Prop}{c:Code}(i j:Nat){g:Nat}{T E:TypeId}{k:Kd α}{l:List α}(hij:i≠j)(hr:S.r i=Z44 g T E k l)(hj:S.r j=emp)(h:∀v,AW C c Q ((S.setr i (Blk g T kraw v)).setr j (Zb v E k l))):AW C c Q S:=
 fun a w hh=>let ⟨v,h1⟩:=hh.unbox hij hr hj;h v a w h1
theorem AW.pack {Q:Exit→St→Prop}{c:Code}(i j:Nat){g:Nat}{v:Value}{T E:TypeId}{k:Kd α}{l:List α}(hij:i≠j)(hr:S.r i=Blk g T kraw v)(hj:S.r j=Zb v E k l)(h:AW C c Q ((S.setr i (Z44 g T E k l)).setr j emp)):AW C c Q S:=
 fun a w hh=>h a w (hh.pack hij hr hj)
theorem AOps.pack {ops:Array Oper}{Q:Exit→St→Prop}{c:List Oper}(i j:Nat){g:Nat}{v:Value}{T E:TypeId}{k:Kd α}{l:List α}(hij:i≠j)(hr:S.r i=Blk g T kraw v)(hj:S.r j=Zb v E k l)(h:AOps C ops Q c ((S.setr i (Z44 g T E k l)).setr j emp)):AOps C ops Q c S:=
 fun a w hh=>h a w (hh.pack hij hr hj)
end box
def Z35 {α:Type}(l:List α)(x:α):Option (Lp (List α)):=(Z1j l [x]).bind fun m=>some (.go m)
def Zef {σ:Type}:Lp σ→Option σ
 | .go s=>some s
 | .out _ _=>none
def Zem {α:Type}(q:Itr α):Option (List α):=(q.run (List α) Z35 (.go [])).bind Zef
theorem Zng {α:Type}{q:Itr α}{l:List α}(h:Zem q=some l):q.run (List α) Z35 (.go [])=some (.go l):=by
 obtain ⟨r,h1,h2⟩:=Za h
 cases r with
 | go s=>cases h2;exact h1
 | out c s=>cases h2
end Go.Wb
namespace Go.Wb
open Go
def gdx (t:Bool)(A:Z1):Z1:=⟨fun w H M v=>(t=true→A.R w H M v)∧(t=false→v=undef),fun h k=>⟨fun ht=>A.mono h (k.1 ht),k.2⟩⟩
instance (t:Bool)(A:Z1)[Dup A]:Dup (gdx t A):=⟨fun h=>⟨fun ht=>Dup.dup (h.1 ht),h.2⟩⟩
section guards
variable {C : Ctx} {ops : Array Oper} {S S' : St} {o : Oper}
theorem vgx {t:Nat}{b:Bool}{A:Z1}[Dup A](h:S.s t=gdx b A)(hb:b=true):Val C S (.tmp t) A:=fun O a w hh=>by
 have h1:=hh.slot t
 rw [h] at h1
 exact Dup.dup (h1.1 hb)
theorem vgw {t:Nat}{c d:Bool}{A:Z1}[Dup A](h:S.s t=gd (c&&d) A)(hc:c=true):Val C S (.tmp t) (gd d A):=fun O a w hh hd=>by
 have h1:=hh.slot t
 rw [h] at h1
 exact Dup.dup (h1 (by rw [hc,hd];rfl))
theorem OpG.guardX {A:Z1}{j gt:Nat}{b want:Bool}(hg:o.guard=some (j,want))(hj:(ops[j]?).bind (·.dst)=some gt)(hn:Nat.blt gt C.N=true)(hb:S.s gt=rd Z5 b)(hd:Z7 o C.N=true)
  (h:(b==want)=true→OpE C o S (S.put o.dst A)):OpG C ops o S (S.put o.dst (gdx (b==want) A)):=by
 rintro a w ⟨O,hh⟩
 have h1:=Z5s ((vt hb).of hh)
 have hlt:gt<a.tmps.size:=by rw [hh.n];simpa using hn
 have hy:yielded ops a.tmps j=some b:=by
  have h1':a.tmps[gt]?.getD undef= .bool b:=by simpa [Act.eval] using h1
  simp only [yielded,hj,Option.bind_some]
  rw [Array.getElem?_eq_getElem hlt] at h1' ⊢
  simp only [Option.getD_some] at h1'
  rw [h1']
 have hw:Region.wanted o (yielded ops a.tmps)=(b==want):=by
  simp only [Region.wanted,hg,hy]
  cases b<;>cases want<;>rfl
 rw [hw]
 cases hq:(b==want) with
 | true=>
  simp only [if_true]
  have h2:=h hq a w ⟨O,hh⟩
  refine ⟨h2.1,Oper.uponIn_mono (fun a' w' hx=>?_) (fun _ _ _ h=>h) _ h2.2⟩
  obtain ⟨S'',rfl,O',h4⟩:=hx
  refine ⟨O',{h4 with slot:=fun t=>?_,res:=fun i=>by have h5:=h4.res i;cases hdst:o.dst<;>rw [hdst] at h5<;>exact h5,dfr:=by have h5:=h4.dfr;cases hdst:o.dst<;>rw [hdst] at h5<;>exact h5}⟩
  cases hdst:o.dst with
  | none=>have:=h4.slot t;rw [hdst] at this;exact this
  | some d=>
   have h5:=h4.slot t
   rw [hdst] at h5
   by_cases e:t=d
   ·subst e
    simp only [St.put,St.set,Zy] at h5 ⊢
    exact ⟨fun _=>h5,fun h=>by cases h⟩
   ·simp only [St.put,St.set] at h5 ⊢
    rw [Zz _ _ e] at h5 ⊢
    exact h5
 | false=>
  simp only [Bool.false_eq_true,if_false]
  exact ⟨O,hh.yield_same (Z1o hd) ⟨(fun h=>by cases h),(fun _=>rfl)⟩⟩
theorem OpG.guardN {A:Z1}{j gt:Nat}{b c want:Bool}(hg:o.guard=some (j,want))(hj:(ops[j]?).bind (·.dst)=some gt)(hn:Nat.blt gt C.N=true)(hb:S.s gt=gdx c (rd Z5 b))(hd:Z7 o C.N=true)
  (h:(c&&(b==want))=true→OpE C o S (S.put o.dst A)):OpG C ops o S (S.put o.dst (gd (c&&(b==want)) A)):=by
 rintro a w ⟨O,hh⟩
 have h0:=hh.slot gt
 rw [hb] at h0
 have hlt:gt<a.tmps.size:=by rw [hh.n];simpa using hn
 have hw:Region.wanted o (yielded ops a.tmps)=(c&&(b==want)):=by
  cases c with
  | true=>
   have h1:a.tmps.getD gt undef= .bool b:=by
    obtain ⟨cs,rfl,e⟩:=h0.1 rfl
    exact e
   have hy:yielded ops a.tmps j=some b:=by
    have h1':a.tmps[gt]?.getD undef= .bool b:=by simpa using h1
    simp only [yielded,hj,Option.bind_some]
    rw [Array.getElem?_eq_getElem hlt] at h1' ⊢
    simp only [Option.getD_some] at h1'
    rw [h1']
   simp only [Region.wanted,hg,hy]
   cases b<;>cases want<;>rfl
  | false=>
   have h1:=h0.2 rfl
   have hy:yielded ops a.tmps j=none:=by
    have h1':a.tmps[gt]?.getD undef=undef:=by simpa using h1
    simp only [yielded,hj,Option.bind_some]
    rw [Array.getElem?_eq_getElem hlt] at h1' ⊢
    simp only [Option.getD_some] at h1'
    rw [h1']
    rfl
   simp only [Region.wanted,hg,hy]
   rfl
 rw [hw]
 cases hq:(c&&(b==want)) with
 | true=>
  simp only [if_true]
  have h2:=h hq a w ⟨O,hh⟩
  refine ⟨h2.1,Oper.uponIn_mono (fun a' w' hx=>?_) (fun _ _ _ h=>h) _ h2.2⟩
  obtain ⟨S'',rfl,O',h4⟩:=hx
  refine ⟨O',{h4 with slot:=fun t=>?_,res:=fun i=>by have h5:=h4.res i;cases hdst:o.dst<;>rw [hdst] at h5<;>exact h5,dfr:=by have h5:=h4.dfr;cases hdst:o.dst<;>rw [hdst] at h5<;>exact h5}⟩
  cases hdst:o.dst with
  | none=>have:=h4.slot t;rw [hdst] at this;exact this
  | some d=>
   have h5:=h4.slot t
   rw [hdst] at h5
   by_cases e:t=d
   ·subst e
    simp only [St.put,St.set,Zy] at h5 ⊢
    exact fun _=>h5
   ·simp only [St.put,St.set] at h5 ⊢
    rw [Zz _ _ e] at h5 ⊢
    exact h5
 | false=>
  simp only [Bool.false_eq_true,if_false]
  exact ⟨O,hh.yield_same (Z1o hd) (fun h=>by cases h)⟩
end guards
end Go.Wb
namespace Go.Wb
open Go
def Z0o {α β:Type}(g:Nat)(T:TypeId)(kO:Kd β)(c:Value→β)(E:TypeId)(k:Kd α)(l:List α):Zf:=
 ⟨fun w H M=> ∃v:Value,M g∧(∃cs:List Value,w.heap[g]? =some (.cells cs.toArray T (0,0))∧kO.C w H (c v) cs)∧(∃cl,w.ownsRow 0 E k.sz v l.length cl∧Cells k w H l cl)∧∀b,v.ownBlock=some b→M b∧b≠g,
  fun {w H M w' H' M'} h ⟨v,h1,⟨cs,h2,hk⟩,⟨cl,ho,hc⟩,h3⟩=>by
  obtain ⟨a,b⟩:=h.own g (Array.getElem?_eq_some_iff.1 h2).1 h1
  refine ⟨v,a,⟨cs,b.trans h2,kO.mono h.pure_ hk⟩,⟨cl,⟨ho.1,?_⟩,hc.mono h.pure_⟩,fun b hb=>⟨(h.own b (ho.lt b hb).2 (h3 b hb).1).1,(h3 b hb).2⟩⟩
  rcases ho.2 with e | ⟨g',cap,cur,rfl,hb,hg,r⟩
  ·exact .inl e
  ·exact .inr ⟨g',cap,cur,rfl,hb,(h.own g' (Array.getElem?_eq_some_iff.1 hg).1 (h3 g' rfl).1).2.trans hg,r⟩⟩
section boxf
variable {C : Ctx} {S S' : St} {o : Oper} {α β γ : Type}
theorem Hold.unboxF {a:Act}{w:World}{i j g:Nat}{T E:TypeId}{kO:Kd β}{c:Value→β}{k:Kd α}{l:List α}(hij:i≠j)(hr:S.r i=Z0o g T kO c E k l)(hj:S.r j=emp)(hh:Hold C S a w):∃v,Hold C ((S.setr i (Blk g T kO (c v))).setr j (Zb v E k l)) a w:=by
 obtain ⟨O0,hh0⟩:=hh
 obtain ⟨O,hh,hne,_⟩:=hh0.drop hj
 have h1:=hh.res i
 rw [hr] at h1
 obtain ⟨v,hm,⟨cs,hg,hkc⟩,⟨cl,ho,hc⟩,hb⟩:=h1
 have hmg:O g=Ro i:=hm
 let O':Nat→Nat:=fun b=>if v.ownBlock=some b then Ro j else O b
 have hO1:∀b,v.ownBlock=some b→O' b=Ro j:=fun b h=>if_pos h
 have hO2:∀b,v.ownBlock≠some b→O' b=O b:=fun b h=>if_neg h
 have hiff:∀b,O' b≠0↔O b≠0:=fun b=>by
  by_cases e:v.ownBlock=some b
  ·have h5:O b=Ro i:=(hb b e).1
   rw [hO1 b e,h5];exact ⟨fun _=>Zw i,fun _=>Zw j⟩
  ·rw [hO2 b e]
 have hext:Ext w (Zi C O) Z6 w (Zi C O') Z6:=⟨Nat.le_refl _,fun b _ hn=>⟨fun h=>hn (h.imp id (hiff b).1),rfl⟩,fun _ _ h=>h.elim⟩
 refine ⟨v,O',⟨hh.h0,hh.os,hh.tape,hh.output,hh.size,hh.old,fun b hb=>hh.own b ((hiff b).1 hb),hh.dfr,hh.n,fun s=>?_,fun q=>?_⟩⟩
 ·refine (S.s s).mono ⟨Nat.le_refl _,hext.vis,fun b _ hb'=>⟨?_,rfl⟩⟩ (hh.slot s)
  have h5:O b=So s:=hb'
  show O' b=So s
  rw [hO2 b (fun e=>by have h6:O b=Ro i:=(hb b e).1;rw [h5] at h6;exact Z0m s i h6),h5]
 ·simp only [St.setr]
  by_cases e:q=j
  ·subst e
   rw [Zy]
   exact ⟨cl,ho,hc.mono hext,fun b hb'=>hO1 b hb'⟩
  ·rw [Zz _ _ e]
   by_cases e':q=i
   ·subst e'
    rw [Zy]
    refine ⟨?_,cs,hg,kO.mono hext hkc⟩
    show O' g=Ro q
    rw [hO2 g (fun e=>(hb g e).2 rfl)];exact hmg
   ·rw [Zz _ _ e']
    refine (S.r q).mono ⟨Nat.le_refl _,hext.vis,fun b _ hb'=>⟨?_,rfl⟩⟩ (hh.res q)
    have h5:O b=Ro q:=hb'
    show O' b=Ro q
    rw [hO2 b (fun e=>by have h6:O b=Ro i:=(hb b e).1;rw [h5] at h6;exact e' (Z14 h6)),h5]
theorem HoldO.packF {O:Nat→Nat}{a:Act}{w:World}{i j g:Nat}{v:Value}{T E:TypeId}{kO:Kd β}(c:Value→β){k:Kd α}{l:List α}(hij:i≠j)(hr:S.r i=Blk g T kO (c v))(hj:S.r j=Zb v E k l)(hh:HoldO C S O a w):∃O',HoldO C ((S.setr i (Z0o g T kO c E k l)).setr j emp) O' a w∧∀b,O' b≠0→O b≠0:=by
 have h1:=hh.res i
 rw [hr] at h1
 obtain ⟨hm,cs,hg,hkc⟩:=h1
 have h2:=hh.res j
 rw [hj] at h2
 obtain ⟨cl,ho,hc,hb⟩:=h2
 let O':Nat→Nat:=fun b=>if O b=Ro j then Ro i else O b
 have hO1:∀b,O b=Ro j→O' b=Ro i:=fun b h=>if_pos h
 have hO2:∀b,O b≠Ro j→O' b=O b:=fun b h=>if_neg h
 have hiff:∀b,O' b≠0↔O b≠0:=fun b=>by
  by_cases e:O b=Ro j
  ·rw [hO1 b e,e];exact ⟨fun _=>Zw j,fun _=>Zw i⟩
  ·rw [hO2 b e]
 have hext:Ext w (Zi C O) Z6 w (Zi C O') Z6:=⟨Nat.le_refl _,fun b _ hn=>⟨fun h=>hn (h.imp id (hiff b).1),rfl⟩,fun _ _ h=>h.elim⟩
 have hmg:O g=Ro i:=hm
 refine ⟨O',⟨hh.h0,hh.os,hh.tape,hh.output,hh.size,hh.old,fun b hb=>hh.own b ((hiff b).1 hb),hh.dfr,hh.n,fun s=>?_,fun q=>?_⟩,fun b=>(hiff b).1⟩
 ·refine (S.s s).mono ⟨Nat.le_refl _,hext.vis,fun b _ hb'=>⟨?_,rfl⟩⟩ (hh.slot s)
  have h5:O b=So s:=hb'
  show O' b=So s
  rw [hO2 b (by rw [h5];exact Z0m s j),h5]
 ·simp only [St.setr]
  by_cases e:q=j
  ·subst e;rw [Zy];trivial
  ·rw [Zz _ _ e]
   by_cases e':q=i
   ·subst e'
    rw [Zy]
    refine ⟨v,?_,⟨cs,hg,kO.mono hext hkc⟩,⟨cl,ho,hc.mono hext⟩,fun b hb'=>⟨hO1 b (hb b hb'),fun e5=>?_⟩⟩
    ·show O' g=Ro q
     rw [hO2 g (by rw [hmg];exact fun h=>hij (Z14 h))];exact hmg
    ·have h6:O b=Ro j:=hb b hb'
     rw [e5,hmg] at h6
     exact hij (Z14 h6)
   ·rw [Zz _ _ e']
    refine (S.r q).mono ⟨Nat.le_refl _,hext.vis,fun b _ hb'=>⟨?_,rfl⟩⟩ (hh.res q)
    have h5:O b=Ro q:=hb'
    show O' b=Ro q
    rw [hO2 b (by rw [h5];exact fun h=>e (Z14 h)),h5]
theorem Hold.packF {a:Act}{w:World}{i j g:Nat}{v:Value}{T E:TypeId}{kO:Kd β}(c:Value→β){k:Kd α}{l:List α}(hij:i≠j)(hr:S.r i=Blk g T kO (c v))(hj:S.r j=Zb v E k l)(hh:Hold C S a w):Hold C ((S.setr i (Z0o g T kO c E k l)).setr j emp) a w:=by
 obtain ⟨O,hh⟩:=hh
 obtain ⟨O',h,_⟩:=hh.packF c hij hr hj
 exact ⟨O',h⟩
theorem AW.unboxF {Q:Exit→St→Prop}{x:Code}(i j:Nat){g:Nat}{T E:TypeId}{kO:Kd β}{c:Value→β}{k:Kd α}{l:List α}(hij:i≠j)(hr:S.r i=Z0o g T kO c E k l)(hj:S.r j=emp)(h:∀v,AW C x Q ((S.setr i (Blk g T kO (c v))).setr j (Zb v E k l))):AW C x Q S:=
 fun a w hh=>let ⟨v,h1⟩:=hh.unboxF hij hr hj;h v a w h1
theorem AW.packF {Q:Exit→St→Prop}{x:Code}(i j:Nat){g:Nat}{v:Value}{T E:TypeId}{kO:Kd β}(c:Value→β){k:Kd α}{l:List α}(hij:i≠j)(hr:S.r i=Blk g T kO (c v))(hj:S.r j=Zb v E k l)(h:AW C x Q ((S.setr i (Z0o g T kO c E k l)).setr j emp)):AW C x Q S:=
 fun a w hh=>h a w (hh.packF c hij hr hj)
theorem AOps.packF {ops:Array Oper}{Q:Exit→St→Prop}{x:List Oper}(i j:Nat){g:Nat}{v:Value}{T E:TypeId}{kO:Kd β}(c:Value→β){k:Kd α}{l:List α}(hij:i≠j)(hr:S.r i=Blk g T kO (c v))(hj:S.r j=Zb v E k l)(h:AOps C ops Q x ((S.setr i (Z0o g T kO c E k l)).setr j emp)):AOps C ops Q x S:=
 fun a w hh=>h a w (hh.packF c hij hr hj)
theorem Zkf {T T':TypeId}{g i:Nat}{kO:Kd β}{L:Lens kO kraw}{x:β}{p:Operand}(v:Value)(ho:o.op= .load T p)(hd:Z7 o C.N=true)(ht:Ty C.P T kraw)(hp:Val C S p (Zp g L))(hr:S.r i=Blk g T' kO x)(hv:L.get x=v):OpE C o S (S.put o.dst (Zc v)):=by
 subst hv
 have h:=Z22 (i:=i) ho hd ht hp hr
 rintro a w hh
 have h1:=h a w hh
 refine ⟨h1.1,Oper.uponIn_mono (fun a' w' hx=>?_) (fun _ _ _ h=>h) _ h1.2⟩
 obtain ⟨S'',rfl,O,h2⟩:=hx
 refine ⟨_,rfl,O,{h2 with slot:=fun t=>?_,res:=fun j=>by have h5:=h2.res j;cases hdst:o.dst<;>rw [hdst] at h5<;>exact h5,dfr:=by have h5:=h2.dfr;cases hdst:o.dst<;>rw [hdst] at h5<;>exact h5}⟩
 have h5:=h2.slot t
 cases hdst:o.dst with
 | none=>rw [hdst] at h5;exact h5
 | some d=>
  rw [hdst] at h5
  by_cases e:t=d
  ·subst e
   simp only [St.put,St.set,Zy] at h5 ⊢
   obtain ⟨cs,⟨rfl,_⟩,e⟩:=h5
   exact e
  ·simp only [St.put,St.set] at h5 ⊢
   rw [Zz _ _ e] at h5 ⊢
   exact h5
theorem Ztn {T T' E:TypeId}{g i t:Nat}{kO:Kd β}{L:Lens kO kraw}{x:β}{k:Kd α}{l:List α}{p:Operand}(ho:o.op= .store T p (.tmp t))(hd:o.dst=none)(ht:Ty C.P T kraw)(hp:Val C S p (Zp g L))(hr:S.r i=Blk g T' kO x)(hs:S.s t=Z7r E k l):
  OpE C o S ((S.set t top).setr i (Z0o g T' kO (fun v=>L.set x v) E k l)):=
 OpE.skip (by simp [ho]) fun O a w hh=>by
  have h1:=Z4u (hp.of hh)
  have hsl:=hh.slot t
  rw [hs] at hsl
  obtain ⟨cl,hown,hcl,hms⟩:=hsl
  have h2:=hh.res i
  rw [hr] at h2
  obtain ⟨hm,cs,hg,hc⟩:=h2
  obtain ⟨v,hv⟩:∃v,a.tmps.getD t undef=v:=⟨_,rfl⟩
  rw [hv] at hown hms
  have h5:a.eval (.tmp t)=v:=hv
  have h4:kraw.C w (Zi C O) v [v]:=⟨rfl,Zbd hown⟩
  have hmk:mkv kraw.agg [v]=v:=rfl
  have hrun:=Zc1 hg ht h4 (Zgd (L:=L) hc)
  rw [hmk] at hrun
  refine ⟨w.setRow g (lay cs L.off [v]).toArray,by simp [execOp,ho,h1,h5,Instr.storeAt,Instr.sureAddr,hrun],?_⟩
  rw [hd]
  have hOg:O g=Ro i:=hm
  have hvb:∀b,v.ownBlock=some b→O b=So t:=fun b hb=>hms b hb
  have hne:∀b,v.ownBlock=some b→b≠g:=fun b hb e=>by
   have h6:=hvb b hb
   rw [e,hOg] at h6
   exact Z0m t i h6.symm
  let O':Nat→Nat:=fun b=>if O b=So t then Ro i else O b
  have hO1:∀b,O b=So t→O' b=Ro i:=fun b h=>if_pos h
  have hO2:∀b,O b≠So t→O' b=O b:=fun b h=>if_neg h
  have hiff:∀b,O' b≠0↔O b≠0:=fun b=>by
   by_cases e:O b=So t
   ·rw [hO1 b e,e];exact ⟨fun _=>Z5e t,fun _=>Zw i⟩
   ·rw [hO2 b e]
  have hx:Ext w (Zi C O) Z6 (w.setRow g (lay cs L.off [v]).toArray) (Zi C O') Z6:=⟨by simp,fun b hb hn=>⟨fun h=>hn (h.imp id (hiff b).1),setRow_other w g b _ (fun e=>hn (.inr (by rw [e,hOg];exact Zw i)))⟩,fun _ _ h=>h.elim⟩
  refine ⟨O',⟨hh.h0,hh.os,hh.tape,hh.output,by have:=hh.size;simpa using this,fun b hb hX=>?_,fun b hb=>?_,hh.dfr,hh.n,fun s=>?_,fun j=>?_⟩⟩
  ·have hbg:b≠g:=fun e=>by
    have h6:=(hh.own g (by rw [hOg];exact Zw i)).1
    rw [←e] at h6
    rcases h6 with h6 | h6
    ·omega
    ·exact hX h6
   rw [setRow_other w g b _ hbg]
   exact hh.old b hb hX
  ·have:=hh.own b ((hiff b).1 hb)
   exact ⟨this.1,by simpa using this.2⟩
  ·by_cases e:s=t
   ·subst e
    simp only [St.set,St.setr,Zy]
    trivial
   ·simp only [St.set,St.setr]
    rw [Zz _ _ e]
    refine (S.s s).mono ⟨by simp,hx.vis,fun b hb hm'=>?_⟩ (hh.slot s)
    have h6:O b=So s:=hm'
    refine ⟨(hO2 b (by rw [h6];exact fun h=>e (Zaa h))).trans h6,setRow_other w g b _ (fun e'=>?_)⟩
    rw [e',hOg] at h6
    exact Z0m s i h6.symm
  ·by_cases e:j=i
   ·subst e
    simp only [St.setr,Zy]
    refine ⟨v,(hO2 g (by rw [hOg];exact fun h=>Z0m t j h.symm)).trans hOg,⟨_,setRow_heap w g _ _ _ _ hg,L.okset (kO.mono hx hc) ⟨rfl,Zbd hown⟩⟩,⟨cl,⟨hown.1,?_⟩,hcl.mono hx⟩,fun b hb=>⟨hO1 b (hvb b hb),hne b hb⟩⟩
    rcases hown.2 with e | ⟨g',cap,cur,hve,hb,hg',r⟩
    ·exact .inl e
    ·refine .inr ⟨g',cap,cur,hve,hb,?_,r⟩
     rw [setRow_other w g g' _ (hne g' (by rw [hve];rfl))]
     exact hg'
   ·simp only [St.setr,St.set]
    rw [Zz _ _ e]
    refine (S.r j).mono ⟨by simp,hx.vis,fun b hb hm'=>?_⟩ (hh.res j)
    have h6:O b=Ro j:=hm'
    refine ⟨(hO2 b (by rw [h6];exact fun h=>Z0m t j h.symm)).trans h6,setRow_other w g b _ (fun e'=>?_)⟩
    rw [e',hOg] at h6
    exact e (Z14 h6).symm
theorem Zcp {x:Operand}{m:BitVec 64}(h:Val C S x (rd Z01 m)):Val C S x (rd (Z0 .u64) (m.toNat:Int)):=fun O a w hh=>by
 have h1:=Z31 (h O a w hh)
 rw [h1]
 have:=m.isLt
 exact Z1r ⟨by simp [IntKind.min,IntKind.signed,IntKind.bits];try omega,by simp [IntKind.max,IntKind.signed,IntKind.bits];omega⟩
end boxf
end Go.Wb
namespace Go.Wb
open Go
section body
variable {C : Ctx} {S : St} {α : Type}
end body
end Go.Wb
namespace Go.Wb
open Go
section eqs
variable {α β : Type} {P : Program}
def EqK [DecidableEq α](P:Program)(n:Nat)(t:TypeId)(k:Kd α):Prop:=
 ∀d,n≤d→∀(w:World) (H:HS) x y cs ds,k.C w H x cs→k.C w H y ds→(Op.equalIn d t (mkv k.agg cs) (mkv k.agg ds)).run P w= .ok (decide (x=y)) w
theorem Zkm {t:TypeId}{ik:IntKind}(h:P.underlying t=some (.int ik)):EqK P 1 t (Z0 ik):=by
 rintro d hd w H x y _ _ ⟨rfl,_⟩ ⟨rfl,_⟩
 obtain ⟨d,rfl⟩:∃m,d=m+1:=⟨d - 1,by omega⟩
 exact (run_equalIn_int w d t ik ik x y h).trans (by rw [show (x==y)=decide (x=y) from rfl])
theorem Zty {t:TypeId}(h:P.underlying t=some (.int .u64)):EqK P 1 t Z01:=by
 rintro d hd w H x y _ _ rfl rfl
 obtain ⟨d,rfl⟩:∃m,d=m+1:=⟨d - 1,by omega⟩
 refine (run_equalIn_int w d t .u64 .u64 _ _ h).trans ?_
 congr 1
 rw [Bool.eq_iff_iff]
 simp only [beq_iff_eq,decide_eq_true_eq]
 constructor
 ·intro e
  exact BitVec.eq_of_toNat_eq (by exact_mod_cast e)
 ·rintro rfl;rfl
def EqF [DecidableEq α](P:Program)(n:Nat)(l:List (TypeId×Nat))(o:Nat)(k:Kd α):Prop:=
 ∀(fs:List Field),fs.map (fun f=>(f.type,f.offset))=l→(∀f∈fs,f.name≠"_")→∀d,n≤d→∀(w:World) (H:HS) x y (xs ys:List Value),k.C w H x (xs.drop o)→k.C w H y (ys.drop o)→
  (Op.eqFields d xs.toArray ys.toArray fs).run P w= .ok (decide (x=y)) w
theorem Zk5 [DecidableEq α]{n:Nat}{t:TypeId}{o:Nat}{k:Kd α}(h:EqK P n t k)(ht:Ty P t k):EqF P n [(t,o)] o k:=by
 intro fs hfs hn d hd w H x y xs ys hx hy
 obtain ⟨f,rfl⟩:∃f,fs=[f]:=by
  cases fs with
  | nil=>cases hfs
  | cons f l=>cases l with
   | nil=>exact ⟨f,rfl⟩
   | cons=>cases hfs
 simp only [List.map_cons,List.map_nil,List.cons.injEq,Prod.mk.injEq,and_true] at hfs
 obtain ⟨rfl,rfl⟩:=hfs
 have hname:=hn f (by simp)
 have lx:=k.len hx
 have ly:=k.len hy
 have p1:=Z4t (P:=P) ht hx (List.take_of_length_le (by omega):(xs.drop f.offset).take k.sz=_)
 have p2:=Z4t (P:=P) ht hy (List.take_of_length_le (by omega):(ys.drop f.offset).take k.sz=_)
 have h3:=h d hd w H x y _ _ hx hy
 simp only [Op.eqFields,Sem.run_bind,Sem.run_ite,hname,ne_eq,not_false_eq_true,if_true,p1,p2,h3,Result.andThen_ok]
 cases decide (x=y)<;>simp
theorem Zh8 [DecidableEq α][DecidableEq β]{n:Nat}{t:TypeId}{o:Nat}{l:List (TypeId×Nat)}{k:Kd α}{m:Kd β}(h:EqK P n t k)(ht:Ty P t k)(hr:EqF P n l (o+k.sz) m):EqF P n ((t,o)::l) o (Z4 k m):=by
 intro fs hfs hn d hd w H x y xs ys hx hy
 cases fs with
 | nil=>cases hfs
 | cons f fs=>
  simp only [List.map_cons,List.cons.injEq,Prod.mk.injEq] at hfs
  obtain ⟨⟨rfl,rfl⟩,hfs⟩:=hfs
  obtain ⟨c1,c2,e1,hx1,hx2⟩:=hx
  obtain ⟨d1,d2,e2,hy1,hy2⟩:=hy
  have hname:=hn f (by simp)
  have lx:=k.len hx1
  have ly:=k.len hy1
  have p1:=Z4t (P:=P) (off:=f.offset) (cs:=xs) ht hx1 (by rw [e1,List.take_append_of_le_length (by omega),List.take_of_length_le (by omega)])
  have p2:=Z4t (P:=P) (off:=f.offset) (cs:=ys) ht hy1 (by rw [e2,List.take_append_of_le_length (by omega),List.take_of_length_le (by omega)])
  have q1:xs.drop (f.offset+k.sz)=c2:=by rw [←List.drop_drop,e1,List.drop_append_of_le_length (by omega),List.drop_of_length_le (by omega)];rfl
  have q2:ys.drop (f.offset+k.sz)=d2:=by rw [←List.drop_drop,e2,List.drop_append_of_le_length (by omega),List.drop_of_length_le (by omega)];rfl
  have h3:=h d hd w H x.1 y.1 _ _ hx1 hy1
  have h4:=hr fs hfs (fun f hf=>hn f (by simp [hf])) d hd w H x.2 y.2 xs ys (by rw [q1];exact hx2) (by rw [q2];exact hy2)
  simp only [Op.eqFields,Sem.run_bind,Sem.run_ite,hname,ne_eq,not_false_eq_true,if_true,p1,p2,h3,h4,Result.andThen_ok]
  by_cases h5:x.1=y.1
  ·have:decide (x=y)=decide (x.2=y.2):=by
    rw [decide_eq_decide,Prod.ext_iff];simp [h5]
   simp [h5,this]
  ·have:decide (x=y)=false:=by
    rw [decide_eq_false_iff_not,Prod.ext_iff];simp [h5]
   simp [h5,this]
def stE (P:Program)(T:TypeId):Option (List (TypeId×Nat)):=match P.underlying T with
 | some (.struct fs)=>bif fs.all (fun f=>f.name !="_") then some (fs.toList.map fun f=>(f.type,f.offset)) else none
 | _=>none
theorem Zhn [DecidableEq α][DecidableEq β]{t:TypeId}{n:Nat}{l:List (TypeId×Nat)}{k:Kd β}{f:α→β}(hf:∀x y,f x=f y→x=y)(hs:stE P t=some l)(hp:P.stoodInHeld t=false)(h:EqF P n l 0 k):EqK P (n+1) t (Z0u k f):=by
 rintro d hd w H x y cs ds hx hy
 obtain ⟨d,rfl⟩:∃m,d=m+1:=⟨d - 1,by omega⟩
 unfold stE at hs
 split at hs
 ·rename_i fs hu
  cases hn:fs.all (fun f=>f.name !="_") with
  | true=>
   rw [hn] at hs
   have hfo:P.fieldsOf t=fs:=by unfold Program.fieldsOf;rw [hu]
   have h1:=run_equalIn_struct (P:=P) w d t cs.toArray ds.toArray (by rw [hu,hfo]) hp
   rw [hfo] at h1
   refine h1.trans ?_
   rw [h fs.toList (Option.some.inj hs) (fun f hf=>by simpa using (Array.all_eq_true_iff_forall_mem.1 hn) f (by simpa using hf)) d (by omega) w H (f x) (f y) cs ds hx hy]
   congr 1
   rw [decide_eq_decide]
   exact ⟨hf x y,fun e=>by rw [e]⟩
  | false=>rw [hn] at hs;cases hs
 ·cases hs
theorem eqi [DecidableEq α]{n:Nat}{e:TypeId}{k:Kd α}(h:EqK P n e k)(ht:Ty P e k)(hc:P.cellsOf e=k.sz)(d:Nat)(hd:n≤d)(w:World)(H:HS)(xs ys:List Value):∀(l m:List α) (i:Nat),l.length=m.length→Cells k w H l (xs.drop (i*k.sz))→Cells k w H m (ys.drop (i*k.sz))→
  (Op.eqItems d e (P.cellsOf e) xs.toArray ys.toArray (List.range' i l.length)).run P w= .ok (decide (l=m)) w
 | [],[],i,_,_,_=>by simp [Op.eqItems]
 | x::l,y::m,i,hl,hx,hy=>by
  obtain ⟨c1,c2,e1,hx1,hx2⟩:=hx
  obtain ⟨d1,d2,e2,hy1,hy2⟩:=hy
  have lx:=k.len hx1
  have ly:=k.len hy1
  have p1:=Z4t (P:=P) (off:=i*k.sz) (cs:=xs) ht hx1 (by rw [e1,List.take_append_of_le_length (by omega),List.take_of_length_le (by omega)])
  have p2:=Z4t (P:=P) (off:=i*k.sz) (cs:=ys) ht hy1 (by rw [e2,List.take_append_of_le_length (by omega),List.take_of_length_le (by omega)])
  have q1:xs.drop ((i+1)*k.sz)=c2:=by rw [Nat.add_mul,Nat.one_mul,←List.drop_drop,e1,List.drop_append_of_le_length (by omega),List.drop_of_length_le (by omega)];rfl
  have q2:ys.drop ((i+1)*k.sz)=d2:=by rw [Nat.add_mul,Nat.one_mul,←List.drop_drop,e2,List.drop_append_of_le_length (by omega),List.drop_of_length_le (by omega)];rfl
  have h3:=h d hd w H x y _ _ hx1 hy1
  have h4:=eqi h ht hc d hd w H xs ys l m (i+1) (by simpa using hl) (by rw [q1];exact hx2) (by rw [q2];exact hy2)
  rw [hc] at h4 ⊢
  rw [List.length_cons,List.range'_succ]
  simp only [Op.eqItems,Sem.run_bind,Sem.run_ite,p1,p2,h3,h4,Result.andThen_ok]
  by_cases h5:x=y
  ·simp [h5]
  ·simp [h5]
theorem Zn4 [DecidableEq α]{t e:TypeId}{n m:Nat}{k:Kd α}(h:EqK P n e k)(ht:Ty P e k)(ha:Ar P t e m k):EqK P (n+1) t (Zm m k):=by
 rintro d hd w H x y cs ds hx hy
 obtain ⟨d,rfl⟩:∃m,d=m+1:=⟨d - 1,by omega⟩
 obtain ⟨i,hi,hs⟩:=ha.out.2
 have hc:P.cellsOf e=k.sz:=by unfold Program.cellsOf;rw [hi];exact hs
 have h1:=run_equalIn_array (P:=P) w d cs.toArray ds.toArray ha.u hi
 have h2:=eqi h ht hc d (by omega) w H cs ds x.toList y.toList 0 (by simp) (by rw [Nat.zero_mul,List.drop_zero];exact hx) (by rw [Nat.zero_mul,List.drop_zero];exact hy)
 rw [List.range_eq_range'] at h1
 simp only [Vector.length_toList] at h2
 refine h1.trans (h2.trans ?_)
 congr 1
 rw [decide_eq_decide]
 exact ⟨fun e=>Vector.toList_inj.1 e,fun e=>by rw [e]⟩
end eqs
section opers
variable {C : Ctx} {S : St} {α : Type} {o : Oper} {T U : TypeId} {x y : Operand} {m n : α} {k : Kd α}
theorem Zrc [DecidableEq α]{q:Nat}(ho:o.op= .binOp .eql T x y U)(hd:Z7 o C.N=true)(he:EqK C.P q T k)(hq:q≤10000)(ha:k.agg=true)(hg:C.P.eqGuardType C.P.depth T=false)(hx:Val C S x (rd k m))(hy:Val C S y (rd k n)):OpE C o S (S.put o.dst (rd Z5 (decide (m=n)))):=
 OpE.plain (by simp [ho]) hd fun O a w hh=>by
  obtain ⟨cs,hc,h1⟩:=hx.of hh
  obtain ⟨ds,hds,h2⟩:=hy.of hh
  have h3:=he 10000 hq w _ m n cs ds hc hds
  rw [ha] at h1 h2 h3
  simp only [mkv,cond_true] at h1 h2 h3
  refine ⟨.bool (decide (m=n)),?_,Z1y⟩
  have hgu:=run_eqGuard_agg (P:=C.P) w .eql T x y cs.toArray ds.toArray hg
  have hb:=run_eql_struct (P:=C.P) w T cs.toArray ds.toArray
  rw [h3] at hb
  simp [execOp,ho,h1,h2,hgu,hb]
theorem Zl9 [DecidableEq α]{q:Nat}(ho:o.op= .binOp .neq T x y U)(hd:Z7 o C.N=true)(he:EqK C.P q T k)(hq:q≤10000)(ha:k.agg=true)(hg:C.P.eqGuardType C.P.depth T=false)(hx:Val C S x (rd k m))(hy:Val C S y (rd k n)):OpE C o S (S.put o.dst (rd Z5 (decide (m≠n)))):=
 OpE.plain (by simp [ho]) hd fun O a w hh=>by
  obtain ⟨cs,hc,h1⟩:=hx.of hh
  obtain ⟨ds,hds,h2⟩:=hy.of hh
  have h3:=he 10000 hq w _ m n cs ds hc hds
  rw [ha] at h1 h2 h3
  simp only [mkv,cond_true] at h1 h2 h3
  refine ⟨.bool (decide (m≠n)),?_,Z1y⟩
  have hgu:=run_eqGuard_agg (P:=C.P) w .neq T x y cs.toArray ds.toArray hg
  have hb:=run_neq_struct (P:=C.P) w T cs.toArray ds.toArray
  rw [h3] at hb
  simp [execOp,ho,h1,h2,hgu,hb]
end opers
end Go.Wb
namespace Go.Wb
open Go
theorem Zfg {α:Type}(l:List α)(i:Nat):lget l (i:Int)=l[i]? :=by
 unfold lget;rw [decide_eq_true (by omega)];rfl
theorem Z16 {α:Type}{l:List α}{i:Nat}(h:i<l.length):lget l (i:Int)=some l[i]:=by
 rw [Zfg];exact List.getElem?_eq_getElem h
theorem Z36 {α:Type _}[Inhabited α](x:Option α):opt true x=x:=rfl
theorem Zgj {α:Type _}[Inhabited α](x:Option α):opt false x=some default:=rfl
def Zj {α:Type}(p:α→Bool):List α→Int
 | []=> -1
 | x::l=>bif p x then 0 else (bif decide (Zj p l<0) then -1 else Zj p l+1)
theorem Z6y {α:Type}(p:α→Bool):∀l:List α, -1≤Zj p l
 | []=>by simp [Zj]
 | x::l=>by
  have:=Z6y p l
  unfold Zj
  cases p x
  ·by_cases h:Zj p l<0
   ·simp [h]
   ·simp [h];omega
  ·simp
theorem Z7t {α:Type}(p:α→Bool):∀l:List α,decide (Zj p l≥0)=l.any p
 | []=>by simp [Zj]
 | x::l=>by
  have h1:=Z7t p l
  unfold Zj
  cases hp:p x
  ·by_cases h:Zj p l<0
   ·simp [h,hp,←h1]<;>omega
   ·have:Zj p l≥0:=by omega
    simp [h,hp,←h1,this];omega
  ·simp [hp]
theorem Z85 {α:Type}(p:α→Bool):∀l:List α,Zj p l<l.length
 | []=>by simp [Zj]
 | x::l=>by
  have h1:=Z85 p l
  unfold Zj
  cases hp:p x
  ·by_cases h:Zj p l<0
   ·simp [h];omega
   ·simp [h];omega
  ·simp<;>omega
theorem Zj4 {α:Type}(p:α→Bool):∀l:List α,Zj p l<0→∀x∈l,p x=false
 | [],_,x,hx=>by cases hx
 | y::l,h,x,hx=>by
  unfold Zj at h
  cases hp:p y
  ·rw [hp] at h
   by_cases h':Zj p l<0
   ·rcases List.mem_cons.1 hx with rfl | hx
    ·exact hp
    ·exact Zj4 p l h' x hx
   ·simp [h'] at h;omega
  ·rw [hp] at h;simp at h
theorem Z6g {α:Type}{G:Nat→Nat→Option Int}{s:List α}{f:α→Option Bool}(p:α→Bool)(h0:∀i,G 0 i=some (-1))
  (h1:∀m i,G (m+1) i=(lget s (i:Int)).bind fun e=>(f e).bind fun x=>(bif x then some (i:Int) else (G m) (i+1)))(hf:∀x∈s,f x=some (p x)):G s.length 0=some (Zj p s):=by
 have key:∀m i,i+m=s.length→G m i=some (bif decide (Zj p (s.drop i)<0) then -1 else Zj p (s.drop i)+i):=by
  intro m
  induction m with
  | zero=>
   intro i hi
   rw [h0,List.drop_of_length_le (by omega)]
   simp [Zj]
  | succ m ih=>
   intro i hi
   have hlt:i<s.length:=by omega
   rw [h1,Z16 hlt,Option.bind_some,hf _ (List.getElem_mem hlt),Option.bind_some]
   have hd:s.drop i=s[i]::s.drop (i+1):=List.drop_eq_getElem_cons hlt
   rw [hd]
   unfold Zj
   cases hp:p s[i]
   ·simp only [cond_false]
    rw [ih (i+1) (by omega)]
    have:=Z6y p (s.drop (i+1))
    by_cases h':Zj p (s.drop (i+1))<0
    ·simp [h']
    ·have h2:¬Zj p (s.drop (i+1))+1<0:=by omega
     simp [h',h2];omega
   ·simp
 have:=key s.length 0 (by omega)
 rw [this]
 have hge:=Z6y p s
 by_cases h':Zj p s<0
 ·simp [h'];omega
 ·simp [h']
theorem Z0r {n:Int}(h1: -9223372036854775808≤n)(h2:n≤9223372036854775807):IntKind.i64.wrap n=n:=Ze9 ⟨by simpa [IntKind.min,IntKind.signed,IntKind.bits] using h1,by simpa [IntKind.max,IntKind.signed,IntKind.bits] using h2⟩
theorem Zd5 {α:Type}{z:α}{G:Nat→List α→Int→Int→Option (List α)}{s:List α}{f:α→Option Bool}(p:α→Bool)
  (h1:∀m l i j,G (m+1) l i j=(bif (decide (j<(l.length:Int))) then (lget l j).bind fun e=>(f e).bind fun x=>(bif (!x) then (lget l i).bind fun e'=>(G m) (List.set l i.toNat e) (IntKind.i64.wrap (i+1)) (IntKind.i64.wrap (j+1)) else (G m) l i (IntKind.i64.wrap (j+1)))
   else (Z2m l i).bind fun s18=>(Z3y (List.take i.toNat l++List.replicate (l.length - i.toNat) z) i).bind fun s19=>some s19))
  (hf:∀x∈s,f x=some (p x))(hl:s.length≤Zq):
  ∀m (l:List α) (i j:Nat),i<j→j≤s.length→j+m=s.length+1→l.length=s.length→l.drop j=s.drop j→l.take i=(s.take j).filter (fun x=> !p x)→G m l i j=some (s.filter (fun x=> !p x)):=by
 intro m
 induction m with
 | zero=>intro l i j _ h2 h3;omega
 | succ m ih=>
  intro l i j hij hj hm hll hd ht
  have hlim:Zq=4294967296:=rfl
  rw [h1]
  by_cases hc:j<s.length
  ·have hcl:j<l.length:=by omega
   rw [decide_eq_true (by omega:(j:Int)<(l.length:Int)),cond_true,Z16 hcl,Option.bind_some]
   have hg:l[j]=s[j]:=by
    have h2:(l.drop j)[0]? =(s.drop j)[0]? :=by rw [hd]
    simp only [List.getElem?_drop,Nat.add_zero] at h2
    rw [List.getElem?_eq_getElem hcl,List.getElem?_eq_getElem hc] at h2
    exact Option.some.inj h2
   rw [hg,hf _ (List.getElem_mem hc),Option.bind_some]
   have htk:s.take (j+1)=s.take j++[s[j]]:=by rw [List.take_add_one,List.getElem?_eq_getElem hc];rfl
   have hdn:l.drop (j+1)=s.drop (j+1):=by
    have:=congrArg (fun x:List α=>x.drop 1) hd
    simpa [List.drop_drop,Nat.add_comm] using this
   have ej:IntKind.i64.wrap ((j:Int)+1)=((j+1:Nat):Int):=by rw [Z0r (by omega) (by omega)];omega
   have ei:IntKind.i64.wrap ((i:Int)+1)=((i+1:Nat):Int):=by rw [Z0r (by omega) (by omega)];omega
   rw [ej,ei]
   cases hp:p s[j]
   ·simp only [Bool.not_false,cond_true]
    rw [Z16 (by omega:i<l.length),Option.bind_some]
    have en:((i:Int)).toNat=i:=by omega
    rw [en]
    refine ih (l.set i s[j]) (i+1) (j+1) (by omega) (by omega) (by omega) (by simp;exact hll) ?_ ?_
    ·rw [List.drop_set_of_lt (by omega)];exact hdn
    ·rw [htk,List.filter_append,←ht,List.take_add_one,List.take_set_of_le (by omega),List.getElem?_set_self (by omega)]
     simp [hp]
   ·simp only [Bool.not_true,cond_false]
    refine ih l i (j+1) (by omega) (by omega) (by omega) hll hdn ?_
    rw [htk,List.filter_append,←ht]
    simp [hp]
  ·rw [decide_eq_false (by omega:¬(j:Int)<(l.length:Int)),cond_false]
   have hjs:j=s.length:=by omega
   have en:((i:Int)).toNat=i:=by omega
   have h3:Z2m l (i:Int)=some (l.drop i):=by
    unfold Z2m
    rw [decide_eq_true (by omega),en,Nat.ble_eq_true_of_le (by omega)];rfl
   have h4:Z3y (List.take i l++List.replicate (l.length - i) z) (i:Int)=some (l.take i):=by
    unfold Z3y
    rw [decide_eq_true (by omega),en,Nat.ble_eq_true_of_le (by simp;omega)]
    have:(List.take i l).length=i:=by simp;omega
    rw [List.take_append_of_le_length (by omega),List.take_take,Nat.min_self];rfl
   rw [en,h3,Option.bind_some,h4,Option.bind_some,ht,hjs,List.take_length]
theorem Z23 {α:Type}{l m:List α}(h:l.length+m.length≤Zq):Z1j l m=some (l++m):=by
 unfold Z1j;rw [Nat.ble_eq_true_of_le h];rfl
theorem Zu0 (x:Nat)(h:x<9223372036854775808):Zei .and .i64 (x:Int) 1=((x % 2:Nat):Int):=by
 have e:(BitVec.ofInt 64 (x:Int)&&& BitVec.ofInt 64 1).toNat=x % 2:=by
  rw [BitVec.toNat_and,BitVec.toNat_ofInt,BitVec.toNat_ofInt]
  have e1:(((x:Int) % ((2 ^ 64:Nat):Int))).toNat=x:=by omega
  have e2:(((1:Int) % ((2 ^ 64:Nat):Int))).toNat=1:=by decide
  rw [e1,e2,Nat.and_one_is_mod]
 show IntKind.i64.wrap (((BitVec.ofInt 64 (x:Int)&&& BitVec.ofInt 64 1).toNat:Nat):Int)=_
 rw [e,Z0r (by omega) (by omega)]
theorem Zti (n i:Nat)(h:i≤64):Z6v .i64 (n:Int) (i:Int)=some ((n / 2 ^ i:Nat):Int):=by
 unfold Z6v
 rw [decide_eq_false (by omega)]
 have e:min ((i:Int)).toNat IntKind.i64.bits=i:=by simp [IntKind.bits];omega
 rw [e]
 show some _=_
 congr 1
 have e2:((2:Int) ^ i)=((2 ^ i:Nat):Int):=by rw [Int.natCast_pow];rfl
 rw [e2,Int.fdiv_eq_ediv_of_nonneg _ (Int.natCast_nonneg _),←Int.natCast_ediv]
theorem Zly (i:Nat)(h:i<62):Z7s .i64 1 (i:Int)=some ((2 ^ i:Nat):Int):=by
 unfold Z7s
 rw [decide_eq_false (by omega)]
 have e:min ((i:Int)).toNat IntKind.i64.bits=i:=by simp [IntKind.bits];omega
 rw [e]
 show some _=_
 congr 1
 have e2:((2:Int) ^ i)=((2 ^ i:Nat):Int):=by rw [Int.natCast_pow];rfl
 have h2:2 ^ i<2 ^ 62:=Nat.pow_lt_pow_right (by decide) h
 rw [Int.one_mul,e2]
 generalize 2 ^ i=k at h2
 exact Z0r (by omega) (by omega)
theorem Zey (m n:Nat)(h:0<n):Z2j (m:Int) (n:Int)=some ((m % n:Nat):Int):=by
 unfold Z2j
 rw [decide_eq_false (by omega)]
 show some _=_
 congr 1
theorem Z7e {n i:Nat}(h:i<n):chk n (i:Int)=some ⟨i,h⟩:=by
 unfold chk
 rw [dif_pos ⟨by omega,by omega⟩]
 congr 1
end Go.Wb
namespace Go.Wb
open Go
def Rdb {α:Type}(P:Program)(T:TypeId)(k:Kd α):Prop:=
 ∀(H:Type) (enc:TypeId×Value→H) (w:World) (fuel:Nat) (cs:List Value) (y:DataW H×List MemPlace),DataW.trod enc P w 0 (fun _=>true) true fuel T cs=some y→∃x,k.C w Z6 x cs
section readers
variable {P : Program} {T E : TypeId} {α β γ : Type}
theorem Znc (h:P.underlying T=some .bool):Rdb P T Z5:=by
 intro H enc w fuel cs y hy
 cases fuel with
 | zero=>simp [DataW.trod] at hy
 | succ n=>
  unfold DataW.trod at hy
  rw [h] at hy
  match cs,hy with
  | [.bool b],_=>exact ⟨b,rfl⟩
theorem Zg2 {ik:IntKind}(h:P.underlying T=some (.int ik)):Rdb P T (Z0 ik):=by
 intro H enc w fuel cs y hy
 cases fuel with
 | zero=>simp [DataW.trod] at hy
 | succ n=>
  unfold DataW.trod at hy
  rw [h] at hy
  match cs,hy with
  | [.int k' n],hy=>
   simp only at hy
   split at hy
   ·rename_i hc
    obtain ⟨rfl,hw⟩:=hc
    simp only [Lit.wf,Bool.and_eq_true,decide_eq_true_eq] at hw
    exact ⟨n,rfl,hw⟩
   ·cases hy
theorem Zlc (h:P.underlying T=some (.int .u64)):Rdb P T Z01:=by
 intro H enc w fuel cs y hy
 obtain ⟨n,rfl,hn⟩:=Zg2 h H enc w fuel cs y hy
 refine ⟨BitVec.ofInt 64 n,?_⟩
 show [Value.int .u64 n]=[Value.int .u64 ((BitVec.ofInt 64 n).toNat:Int)]
 have h1:0≤n:=by simpa [IntKind.min,IntKind.signed,IntKind.bits] using hn.1
 have h2:n≤18446744073709551615:=by simpa [IntKind.max,IntKind.signed,IntKind.bits] using hn.2
 have:((BitVec.ofInt 64 n).toNat:Int)=n:=by rw [BitVec.toNat_ofInt];omega
 rw [this]
theorem Zhs {w:World}{a:Addr}{n:Nat}{cs:List Value}(h:w.cells? 0 a n=some cs):cs.length=n∧∀(j:Nat) u,cs[j]? =some u→w.cell? (a.add j)=some u:=by
 unfold World.cells? at h
 rw [if_pos (Nat.zero_le _)] at h
 have hl:cs.length=n:=by simpa using mapM_some_length h
 refine ⟨hl,fun j u hu=>?_⟩
 have hj:j<n:=by rw [←hl];exact (List.getElem?_eq_some_iff.1 hu).1
 have key:∀(l:List Nat) (r:List Value),l.mapM (fun i=>w.cell? (a.add i))=some r→∀(j:Nat) i u,l[j]? =some i→r[j]? =some u→w.cell? (a.add i)=some u:=by
  intro l
  induction l with
  | nil=>intro r _ j i u hi;simp at hi
  | cons x l ih=>
   intro r hr j i u hi hu
   rw [List.mapM_cons] at hr
   simp only [Option.bind_eq_bind,Option.bind_eq_some_iff] at hr
   obtain ⟨y,hy,ys,hys,e⟩:=hr
   have e':y::ys=r:=by simpa using e
   subst e'
   cases j with
   | zero=>simp at hi hu;subst hi;subst hu;exact hy
   | succ j=>exact ih ys hys j i u (by simpa using hi) (by simpa using hu)
 exact key _ _ h j j u (by simp [hj]) hu
theorem Zbb {k:Kd α}(h:P.underlying T=some (.slice E))(hz:P.cellsOf E=k.sz)(hpos:Nat.blt 0 k.sz=true)(he:Rdb P E k):Rdb P T (Z2 k):=by
 intro H enc w fuel cs y hy
 have hpos':0<k.sz:=by simpa using hpos
 cases fuel with
 | zero=>simp [DataW.trod] at hy
 | succ n=>
  unfold DataW.trod at hy
  rw [h] at hy
  match cs,hy with
  | [.slice none 0 0],hy=>exact ⟨[],_,rfl,none,0,rfl,Nat.le_refl _,by simp,fun h=>absurd h (by simp)⟩
  | [.slice none 0 (c+1)],hy=>simp at hy
  | [.slice none (l+1) c],hy=>simp at hy
  | [.slice (some a) len cap],hy=>
   simp only at hy
   split at hy
   ·rename_i hc
    obtain ⟨_,hlc,hcm⟩:=hc
    simp only [Option.map_eq_some_iff,Option.bind_eq_some_iff] at hy
    obtain ⟨elems,hel,_⟩:=hy
    have hone:∀i,i<len→∃cs z,w.cells? 0 (a.add (i*k.sz)) k.sz=some cs∧DataW.trod enc P w 0 (fun _=>true) true n E cs=some z:=by
     have key:∀(l:List Nat) (r:List (DataW H×List MemPlace)),l.mapM (fun i=>(w.cells? 0 (a.add (i*P.cellsOf E)) (P.cellsOf E)).bind (DataW.trod enc P w 0 (fun _=>true) true n E))=some r→∀i∈l,∃z,(w.cells? 0 (a.add (i*P.cellsOf E)) (P.cellsOf E)).bind (DataW.trod enc P w 0 (fun _=>true) true n E)=some z:=by
      intro l
      induction l with
      | nil=>intro r _ i hi;cases hi
      | cons x l ih=>
       intro r hr i hi
       rw [List.mapM_cons] at hr
       simp only [Option.bind_eq_bind] at hr
       obtain ⟨y,hy,hr⟩:=Option.bind_eq_some_iff.1 hr
       obtain ⟨ys,hys,_⟩:=Option.bind_eq_some_iff.1 hr
       rcases List.mem_cons.1 hi with rfl | hi
       ·exact ⟨y,hy⟩
       ·exact ih ys hys i hi
     intro i hi
     obtain ⟨z,hz'⟩:=key _ _ hel i (List.mem_range.2 hi)
     obtain ⟨cs,h1,h2⟩:=Option.bind_eq_some_iff.1 hz'
     rw [hz] at h1
     exact ⟨cs,z,h1,h2⟩
    by_cases h0:len=0
    ·subst h0
     exact ⟨[],_,rfl,some a,cap,rfl,Nat.zero_le _,by simpa [maxLen] using hcm,fun h=>absurd h (by simp)⟩
    ·obtain ⟨cs0,z0,hc0,_⟩:=hone 0 (by omega)
     obtain ⟨hl0,hg0⟩:=Zhs hc0
     have hspot:a.spot=none∧a.block<w.heap.size:=by
      obtain ⟨u,hu⟩:∃u,cs0[0]? =some u:=⟨cs0[0],List.getElem?_eq_getElem (by omega)⟩
      have:=hg0 0 u hu
      have e0:(a.add (0*k.sz)).add 0=a:=by simp [Addr.add]
      rw [e0] at this
      unfold World.cell? at this
      split at this
      ·rename_i hb
       refine ⟨?_,(Array.getElem?_eq_some_iff.1 hb).1⟩
       cases hs:a.spot with
       | none=>rfl
       | some s=>rw [hs] at this;simp at this
      ·cases this
     have hadd:∀i j,(a.add (i*k.sz)).add j=⟨a.block,a.off+i*k.sz+j,none⟩:=fun i j=>by
      obtain ⟨ab,ao,asp⟩:=a
      have hsp:asp=none:=hspot.1
      subst hsp
      unfold Addr.add
      by_cases h1:i*k.sz=0<;>by_cases h2:j=0<;>simp [h1,h2]
     have build:∀m,m≤len→∃l cl,l.length=m∧Cells k w Z6 l cl∧At w a.block a.off cl:=by
      intro m
      induction m with
      | zero=>intro _;exact ⟨[],[],rfl,rfl,fun j u hu=>by simp at hu⟩
      | succ m ih=>
       intro hm
       obtain ⟨l,cl,hl,hcl,hat⟩:=ih (by omega)
       obtain ⟨cs,z,hc,htr⟩:=hone m (by omega)
       obtain ⟨hlen,hg⟩:=Zhs hc
       obtain ⟨x,hx⟩:=he H enc w n cs z htr
       have hcll:=hcl.len
       refine ⟨l++[x],cl++cs,by simp [hl],hcl.append (Cells.single hx),fun j u hu=>?_⟩
       rw [List.getElem?_append] at hu
       split at hu
       ·exact hat j u hu
       ·rename_i hj
        have h5:=hg _ _ hu
        rw [hadd] at h5
        have e:a.off+m*k.sz+(j - cl.length)=a.off+j:=by rw [hcll,hl] at hj ⊢;omega
        rwa [e] at h5
     obtain ⟨l,cl,hl,hcl,hat⟩:=build len (Nat.le_refl _)
     subst hl
     refine ⟨l,_,rfl,some a,cap,rfl,hlc,by simpa [maxLen] using hcm,fun _=>⟨a.block,a.off,cl,?_,hspot.2,fun h=>h,hcl,hat⟩⟩
     obtain ⟨ab,ao,asp⟩:=a
     have hsp:asp=none:=hspot.1
     subst hsp
     rfl
   ·cases hy
def stF (P:Program)(T:TypeId):Option (List (TypeId×Nat)):=match P.underlying T with
 | some (.struct fs)=>some (fs.toList.map fun f=>(f.type,f.offset))
 | _=>none
def FRd {α:Type}(P:Program)(l:List (TypeId×Nat))(o:Nat)(k:Kd α):Prop:=
 ∀(H:Type) (enc:TypeId×Value→H) (w:World) (fuel:Nat) (cs:List Value),(∀p∈l,∃y,DataW.trod enc P w 0 (fun _=>true) true fuel p.1 ((cs.drop p.2).take (P.cellsOf p.1))=some y)→cs.length=o+k.sz→∃x,k.C w Z6 x (cs.drop o)
theorem Z7j {t:TypeId}{o:Nat}{k:Kd α}(h:Rdb P t k)(hz:P.cellsOf t=k.sz):FRd P [(t,o)] o k:=by
 intro H enc w fuel cs hl hlen
 obtain ⟨y,hy⟩:=hl (t,o) (by simp)
 simp only at hy
 rw [hz,List.take_of_length_le (by rw [List.length_drop];omega)] at hy
 exact h H enc w fuel _ y hy
theorem Z27 {t:TypeId}{o:Nat}{l:List (TypeId×Nat)}{k:Kd α}{m:Kd β}(h:Rdb P t k)(hz:P.cellsOf t=k.sz)(hr:FRd P l (o+k.sz) m):FRd P ((t,o)::l) o (Z4 k m):=by
 intro H enc w fuel cs hl hlen
 obtain ⟨y,hy⟩:=hl (t,o) (by simp)
 simp only at hy
 rw [hz] at hy
 obtain ⟨x1,h1⟩:=h H enc w fuel _ y hy
 obtain ⟨x2,h2⟩:=hr H enc w fuel cs (fun p hp=>hl p (by simp [hp])) (by rw [hlen];show o+(k.sz+m.sz)=_;omega)
 refine ⟨(x1,x2),(cs.drop o).take k.sz,cs.drop (o+k.sz),?_,h1,h2⟩
 rw [←List.drop_drop,List.take_append_drop]
theorem Z71 {l:List (TypeId×Nat)}{k:Kd β}{f:α→β}(g:β→α)(hs:stF P T=some l)(hz:P.cellsOf T=k.sz)(hg:∀y,f (g y)=y)(hf:FRd P l 0 k):Rdb P T (Z0u k f):=by
 intro H enc w fuel cs y hy
 unfold stF at hs
 split at hs
 ·rename_i fs hu
  cases fuel with
  | zero=>simp [DataW.trod] at hy
  | succ n=>
   unfold DataW.trod at hy
   rw [hu] at hy
   simp only at hy
   split at hy
   ·rename_i hlen
    obtain ⟨xs,hx,_⟩:=Option.map_eq_some_iff.1 hy
    have key:∀(l:List Field) (r:List (DataW H×List MemPlace)),l.mapM (fun f=>DataW.trod enc P w 0 (fun _=>true) true n f.type ((cs.drop f.offset).take (P.cellsOf f.type)))=some r→∀f∈l,∃z,DataW.trod enc P w 0 (fun _=>true) true n f.type ((cs.drop f.offset).take (P.cellsOf f.type))=some z:=by
     intro l
     induction l with
     | nil=>intro r _ i hi;cases hi
     | cons x l ih=>
      intro r hr i hi
      rw [List.mapM_cons] at hr
      simp only [Option.bind_eq_bind] at hr
      obtain ⟨y,hy,hr⟩:=Option.bind_eq_some_iff.1 hr
      obtain ⟨ys,hys,_⟩:=Option.bind_eq_some_iff.1 hr
      rcases List.mem_cons.1 hi with rfl | hi
      ·exact ⟨y,hy⟩
      ·exact ih ys hys i hi
    have hs':=Option.some.inj hs
    obtain ⟨x,hx'⟩:=hf H enc w n cs (fun p hp=>by
     rw [←hs'] at hp
     obtain ⟨f,hf,rfl⟩:=List.mem_map.1 hp
     exact key _ _ hx f hf) (by rw [hlen,hz];omega)
    exact ⟨g x,by show k.C w Z6 (f (g x)) cs;rw [hg];simpa using hx'⟩
   ·cases hy
 ·cases hs
theorem Ztz {n:Nat}{k:Kd α}(h:P.underlying T=some (.array n E))(hz:P.cellsOf E=k.sz)(hT:P.cellsOf T=n*k.sz)(he:Rdb P E k):Rdb P T (Zm n k):=by
 intro H enc w fuel cs y hy
 cases fuel with
 | zero=>simp [DataW.trod] at hy
 | succ m=>
  unfold DataW.trod at hy
  rw [h] at hy
  simp only at hy
  split at hy
  ·rename_i hlen
   obtain ⟨xs,hx,_⟩:=Option.map_eq_some_iff.1 hy
   have key:∀(l:List Nat) (r:List (DataW H×List MemPlace)),l.mapM (fun i=>DataW.trod enc P w 0 (fun _=>true) true m E ((cs.drop (i*P.cellsOf E)).take (P.cellsOf E)))=some r→∀f∈l,∃z,DataW.trod enc P w 0 (fun _=>true) true m E ((cs.drop (f*P.cellsOf E)).take (P.cellsOf E))=some z:=by
    intro l
    induction l with
    | nil=>intro r _ i hi;cases hi
    | cons x l ih=>
     intro r hr i hi
     rw [List.mapM_cons] at hr
     simp only [Option.bind_eq_bind] at hr
     obtain ⟨y,hy,hr⟩:=Option.bind_eq_some_iff.1 hr
     obtain ⟨ys,hys,_⟩:=Option.bind_eq_some_iff.1 hr
     rcases List.mem_cons.1 hi with rfl | hi
     ·exact ⟨y,hy⟩
     ·exact ih ys hys i hi
   have build:∀j,j≤n→∃l:List α,l.length=j∧Cells k w Z6 l (cs.take (j*k.sz)):=by
    intro j
    induction j with
    | zero=>intro _;exact ⟨[],rfl,by simp [Cells]⟩
    | succ j ih=>
     intro hj
     obtain ⟨l,hl,hc⟩:=ih (by omega)
     obtain ⟨z,hz'⟩:=key _ _ hx j (List.mem_range.2 (by omega))
     rw [hz] at hz'
     obtain ⟨x,hx'⟩:=he H enc w m _ z hz'
     refine ⟨l++[x],by simp [hl],?_⟩
     have:=hc.append (Cells.single hx')
     rwa [←List.take_add,←Nat.succ_mul] at this
   obtain ⟨l,hl,hc⟩:=build n (Nat.le_refl _)
   rw [List.take_of_length_le (by rw [hlen,hT];exact Nat.le_refl _)] at hc
   refine ⟨⟨l.toArray,by simpa using hl⟩,?_⟩
   show Cells k w Z6 (Vector.toList ⟨l.toArray,_⟩) cs
   simpa using hc
  ·cases hy
theorem Rdb.val {k:Kd α}{H:Type}{enc:TypeId×Value→H}{W:World}{base:Nat}{v:Value}{d:DataW H}{ps:List MemPlace}(h:Rdb P T k)(ht:Ty P T k)(hok:Value.okWide P W .any base T v)(hd:DataW.Trod enc P W 0 (fun _=>true) true T v d ps):∃x,(rd k x).R W Z6 Z6 v:=by
 obtain ⟨n,hn⟩:=hd
 obtain ⟨x,hx⟩:=h H enc W n _ _ hn
 obtain ⟨i,ds,_,hu,ha,_⟩:=ht.out
 refine ⟨x,_,hx,?_⟩
 unfold Value.okWide at hok
 rw [hu] at hok
 cases hk:k.agg with
 | true=>
  rw [hk] at ha
  cases ds<;>simp [Z87] at ha<;>(obtain ⟨cs,rfl,_⟩:=hok;simp [mkv,Value.cells])
 | false=>
  rw [hk] at ha
  have hna:∀cs,v≠ .agg cs:=by
   rintro cs rfl
   cases ds<;>simp [Z87] at ha<;>simp [Cell.okWide,Cell.ok,hu] at hok
  cases v<;>first | exact absurd rfl (hna _) | simp [mkv,Value.cells]
end readers
section row
open Go.ChangeShapes Go.WideShapes Go.ChangeAt Go.RowKit
variable {H : Type} {enc : TypeId × Value → H} {P : Program} {W W' : World}
theorem Fin.sameAt (h:Fin W Z6 W' Z6){p:MemPlace}(hp:p.block<W.heap.size):W.sameAt W' p:=by
 have e:=h.same p.block hp (fun h=>h)
 cases p with
 | cell b o=>simp only [MemPlace.block] at e;simp [World.sameAt,World.cell?,e]
 | map b=>simp only [MemPlace.block] at e;simp [World.sameAt,e]
theorem Fin.kept (h:Fin W Z6 W' Z6)(may:MemPlace→Prop):W.keptBut W' may:=by
 refine ⟨h.os,h.output,fun i hi=>?_⟩
 have:=(World.keptBut_refl W may).2.2 i hi
 rw [h.same i hi (fun h=>h)]
 exact this
theorem Zn8 {ts:List TypeId}{vs:List Value}{ds:List (DataW H)}{ps:List MemPlace}{sp:Nat→Bool}(hl:laidOutB P=true)(hT:(ts.all fun t=>P.readableRec t&&decide (t<P.types.size))=true)(h:DataW.TrodAll enc P W 0 (fun _=>true) true ts vs ds ps)
  (hf:Fin W Z6 W' Z6)(hlt:∀p∈ps,p.block<W.heap.size)(hs:∀p∈ps,sp p.block=true):DataW.TrodAll enc P W' 0 sp true ts vs ds ps:=by
 induction ts generalizing vs ds ps with
 | nil=>cases vs<;>cases ds<;>first | exact h | exact h.elim
 | cons t ts ih=>
  cases vs with
  | nil=>exact h.elim
  | cons v vs=>
   cases ds with
   | nil=>exact h.elim
   | cons d ds=>
    obtain ⟨p,q,h1,h2,rfl⟩:=h
    simp only [List.all_cons,Bool.and_eq_true,decide_eq_true_eq] at hT
    exact ⟨p,q,WideElems.Trod_stays hl hT.1.1 hT.1.2 h1 (fun x hx=>hf.sameAt (hlt x (by simp [hx]))) (fun x hx=>hs x (by simp [hx])),ih hT.2 h2 (fun x hx=>hlt x (by simp [hx])) (fun x hx=>hs x (by simp [hx])),rfl⟩
theorem Zqa {fn:Func}{s:ChangeSpec}{apart fresh handsOn again:Bool}{args:Array Value}{ds:List (DataW H)}{before:List MemPlace}{tb:TypeId}(hl:laidOutB P=true)(hT:(fn.params.toList.all fun t=>P.readableRec t&&decide (t<P.types.size))=true)
  (hv:s.vars=[])(hr:fn.resultTypes= #[tb])(hb:P.underlying tb=some .bool)(hW:DataW.Whole enc P fn.params.toList s.vars apart W args.toList ds [] before)(hfn:s.fn H (ds++[])={results:=[.lit (.bool true)],args:=ds})(hf:Fin W Z6 W' Z6):
  s.post enc P fn apart fresh handsOn again W args (.bool true) W':=by
 have hlt:=hW.lt
 have hW0:=hW
 obtain ⟨p,q,hA,hV,hps,hz,hn⟩:=hW
 rw [hv] at hV
 obtain ⟨_,rfl⟩:=trodVars_none hV
 have hpp:before=p:=by simpa using hps
 subst hpp
 have hres:∀b sp hd,DataW.TrodAll enc P W' b sp hd fn.resultTypes.toList ((Value.bool true).resultList fn.resultTypes.size) (s.fn H (ds++[])).results []:=fun b sp hd=>by
  rw [hr,hfn]
  exact trodAll_mk1 (shut_bool hb true)
 have hargs:∀sp:Nat→Bool,(∀x∈before,sp x.block=true)→DataW.TrodAll enc P W' 0 sp true fn.params.toList args.toList (s.fn H (ds++[])).args before:=fun sp hs=>by
  rw [hfn]
  exact Zn8 hl hT hA hf hlt hs
 have hvars:∀sp,DataW.TrodVars enc P W' sp s.vars (s.fn H (ds++[])).vars []:=fun sp=>by rw [hv,hfn];rfl
 have hfz:∀b off,MemPlace.cell b off∈before→W'.frozen? ⟨b,off,none⟩=false:=fun b off hb=>by
  have h1:=hz b off (by simpa using hb)
  have h2:=hf.same b (hlt _ hb) (fun h=>h)
  unfold World.frozen? at h1 ⊢
  simp only [h2]
  exact h1
 refine ⟨ds,[],before,[],before,[],hW0,hres _ _ _,hargs _ (fun x hx=>by simpa using hlt x hx),hvars _,hf.kept _,fun _=>?_⟩
 refine ⟨?_,_,_,([]++before)++[],⟨[]++before,[],trodAll_append (hargs _ (fun _ _=>rfl)) (hres _ _ _),hvars _,rfl,fun b off hp=>hfz b off (by simpa using hp),fun ha=>?_⟩,fun x hx _=>by simpa using hx⟩
 ·exact Go.RowKit.ok_one hr rfl (okWide_bool_mk hb _)
 ·have:=hn ha
  simpa using this
end row
end Go.Wb
namespace Go.Wb
open Go
def GA0 {β:Type}(B:β→Z1)(F:Option β):List Z1→Z1→Prop:=fun As B'=> ∃y,F=some y∧As=[]∧B'=B y
def GA1 {α β:Type}(kx:Kd α)(B:β→Z1)(F:α→Option β):List Z1→Z1→Prop:=fun As B'=> ∃x y,F x=some y∧As=[rd kx x]∧B'=B y
def GA2 {α γ β:Type}(kx:Kd α)(kz:Kd γ)(B:β→Z1)(F:α→γ→Option β):List Z1→Z1→Prop:=fun As B'=> ∃x z y,F x z=some y∧As=[rd kx x,rd kz z]∧B'=B y
def fa0 {β:Type}(P:Program)(B:β→Z1)(F:Option β):Z1:=fn0 P (GA0 B F)
def fa1 {α β:Type}(P:Program)(kx:Kd α)(B:β→Z1)(F:α→Option β):Z1:=fn0 P (GA1 kx B F)
def fa2 {α γ β:Type}(P:Program)(kx:Kd α)(kz:Kd γ)(B:β→Z1)(F:α→γ→Option β):Z1:=fn0 P (GA2 kx kz B F)
instance {β:Type}(P:Program)(B:β→Z1)(F:Option β):Dup (fa0 P B F):=⟨fun h=>h⟩
instance {α β:Type}(P:Program)(kx:Kd α)(B:β→Z1)(F:α→Option β):Dup (fa1 P kx B F):=⟨fun h=>h⟩
instance {α γ β:Type}(P:Program)(kx:Kd α)(kz:Kd γ)(B:β→Z1)(F:α→γ→Option β):Dup (fa2 P kx kz B F):=⟨fun h=>h⟩
def GU {α σ:Type}(enc:α→List Z1)(F:σ→α→Option σ)(L:σ→Zf):List Z1→Zf→Z1→Zf→Prop:=
 fun As R B R'=> ∃s x s',F s x=some s'∧As=enc x∧R=L s∧B=top∧R'=L s'
def stA {α σ:Type}(P:Program)(k:Kd α)(F:σ→α→Option σ)(L:σ→Zf):Z1:=fnR P (GU (fun x=>[rd k x]) F L)
instance {α σ:Type}(P:Program)(k:Kd α)(F:σ→α→Option σ)(L:σ→Zf):Dup (stA P k F L):=⟨fun h=>h⟩
section fas
variable {C : Ctx} {S S' : St} {o : Oper} {α β γ σ : Type}
end fas
section ret
variable {C : Ctx} {S : St} {fn : Func}
end ret
section steps
variable {C : Ctx} {S S' S'' : St} {o : Oper} {α : Type}
theorem OpE.post (h:OpE C o S S')(k:∀a w,Hold C S' a w→Hold C S'' a w):OpE C o S S'':=by
 intro a w hh
 have h1:=h a w hh
 refine ⟨h1.1,Oper.uponIn_mono (fun a' w' hx=>?_) (fun _ _ _ h=>h) _ h1.2⟩
 obtain ⟨T,rfl,h2⟩:=hx
 exact ⟨_,rfl,k _ _ h2⟩
end steps
end Go.Wb
namespace Go.Wb
open Go
section kas
variable {C : Ctx} {S S' : St} {o : Oper} {α σ : Type}
end kas
section Z1d
variable {C : Ctx} {S S' S'' : St} {β α : Type}
def Turn (C:Ctx)(S S':St):Prop:=S'.d=S.d∧∀O a w,HoldO C S O a w→∃O',HoldO C S' O' a w∧∀b,O' b≠0→O b≠0
theorem Turn.refl:Turn C S S:=⟨rfl,fun O _ _ h=>⟨O,h,fun _ h=>h⟩⟩
theorem Turn.trans (h:Turn C S S')(k:Turn C S' S''):Turn C S S'':=⟨k.1.trans h.1,fun O a w hh=>by
 obtain ⟨O1,h1,e1⟩:=h.2 O a w hh
 obtain ⟨O2,h2,e2⟩:=k.2 O1 a w h1
 exact ⟨O2,h2,fun b hb=>e1 b (e2 b hb)⟩⟩
theorem Turn.packF (i j:Nat){g:Nat}{v:Value}{T E:TypeId}{kO:Kd β}(c:Value→β){k:Kd α}{l:List α}(hij:i≠j)(hr:S.r i=Blk g T kO (c v))(hj:S.r j=Zb v E k l):Turn C S ((S.setr i (Z0o g T kO c E k l)).setr j emp):=
 ⟨rfl,fun O a w hh=>hh.packF c hij hr hj⟩
theorem RetOK.turn {fn:Func}{ζ:Type}{B:ζ→Z1}{R':ζ→Zf}(h:Turn C S S')(k:RetOK C fn S' B R'):RetOK C fn S B R':=
 ⟨h.1▸k.1,fun O a w hh=>by
  obtain ⟨O1,h1,e1⟩:=h.2 O a w hh
  obtain ⟨v,z,X',h2,h3,h4⟩:=k.2 O1 a w h1
  exact ⟨v,z,X',h2,fun b hb=>e1 b (h3 b hb),h4⟩⟩
theorem AOps.unboxF {ops:Array Oper}{Q:Exit→St→Prop}{x:List Oper}(i j:Nat){g:Nat}{T E:TypeId}{kO:Kd β}{c:Value→β}{k:Kd α}{l:List α}(hij:i≠j)(hr:S.r i=Z0o g T kO c E k l)(hj:S.r j=emp)(h:∀v,AOps C ops Q x ((S.setr i (Blk g T kO (c v))).setr j (Zb v E k l))):AOps C ops Q x S:=
 fun a w hh=>let ⟨v,h1⟩:=hh.unboxF hij hr hj;h v a w h1
end Z1d
section body
variable {C : Ctx} {S : St} {σ : Type}
end body
end Go.Wb
namespace Go.Wb
open Go
def Zb0 (P:Program)(T:TypeId)(i:Nat):Option TypeId:=match P.underlying T with
 | some (.struct fs)=>(fs[i]?).map fun f=>f.type
 | _=>none
section fieldv
variable {C : Ctx} {S S' : St} {o : Oper} {α β : Type}
theorem Zgc {T FT:TypeId}{i:Nat}{k:Kd α}{kf:Kd β}{x:α}{p:Operand}(L:Lens k kf)(ho:o.op= .field T p i)(hd:Z7 o C.N=true)(hfl:Fl C.P T i L)(hft:Zb0 C.P T i=some FT)(ht:Ty C.P FT kf)(ha:k.agg=true)(hp:Val C S p (rd k x)):OpE C o S (S.put o.dst (rd kf (L.get x))):=
 OpE.plain (by simp [ho]) hd fun O a w hh=>by
  obtain ⟨cs,hc,hv⟩:=hp.of hh
  obtain ⟨fs,f,ti,hu,hf,hoff,hti,hs,hne⟩:=hfl.out
  have hty:f.type=FT:=by
   unfold Zb0 at hft
   rw [hu] at hft
   simpa [hf] using hft
  have hg:=L.okget hc
  have hpart:=Z4t (P:=C.P) (w:=w) (off:=f.offset) (cs:=cs) (c:=(cs.drop L.off).take kf.sz) ht hg (by rw [hoff])
  have hv':a.eval p= .agg cs.toArray:=by rw [hv,ha];rfl
  refine ⟨_,?_,_,hg,rfl⟩
  simp [execOp,ho,hv',Instr.field,asAgg,run_underlying hu,hf,hty,hpart]
end fieldv
end Go.Wb
namespace Go.Wb
open Go
def Zhq (v:Value)(n:Nat):Prop:=0<n→∃g c,v= .slice (some ⟨g,0,none⟩) n c
section vlen
variable {C : Ctx} {S S' : St} {o : Oper} {α β : Type}
theorem AW.vlen {Q:Exit→St→Prop}{c:Code}(i:Nat){v:Value}{E:TypeId}{k:Kd α}{l:List α}(hr:S.r i=Zb v E k l)(h:Zhq v l.length→AW C c Q S):AW C c Q S:=by
 rintro a w ⟨O,hh⟩
 have h3:=hh.res i
 rw [hr] at h3
 obtain ⟨cl,hown,hc,hm⟩:=h3
 exact h (fun hp=>by obtain ⟨g,cap,cur,e,_⟩:=Zba hown hp;exact ⟨g,cap,e⟩) a w ⟨O,hh⟩
theorem Z20 {T E:TypeId}{m:Nat}{k:Kd α}{l:List α}{v:Value}{n:Int}{x:α}{p q:Operand}{ik:IntKind}(hv:Zhq v m)(hm:l.length=m)(ho:o.op= .indexAddr T p q)(hd:Z7 o C.N=true)(ht:Sl C.P T E k)(hp:Val C S p (Zc v))(hq:Val C S q (rd (Z0 ik) n))(hx:lget l n=some x):
  OpE C o S (S.put o.dst (erp v n.toNat (Lens.id k))):=
 OpE.plain (by simp [ho]) hd fun O a w hh=>by
  have h1:=Z26 (hp.of hh)
  have h2:=(Zv (hq.of hh)).1
  obtain ⟨h0,h5⟩:=Z08 hx
  have hi:=(List.getElem?_eq_some_iff.1 h5).1
  obtain ⟨g,cap,rfl⟩:=hv (by omega)
  obtain ⟨hu,ti,hti,hs⟩:=ht.out
  have h4:(0:Int)≤n∧n<m:=⟨h0,by omega⟩
  exact ⟨.pointer (some ⟨g,n.toNat*k.sz,none⟩),by simp [execOp,ho,h1,h2,Instr.indexAt,asIntOf,run_underlying hu,Instr.sureAddr,h4,sizeOf,typeInfo,hti,hs,Z1k],g,_,_,rfl,rfl⟩
end vlen
end Go.Wb
namespace Go.Wb
open Go
section ends
variable {C : Ctx} {S S' : St} {α β : Type}
def EndT (C:Ctx)(Q:Exit→St→Prop):Exit→St→Prop:=fun e S=> ∀a w,Hold C S a w→∃S',Q e S'∧Hold C S' a w
theorem EndT.done {Q:Exit→St→Prop}{e:Exit}(h:Q e S):EndT C Q e S:=fun a w hh=>⟨S,h,hh⟩
theorem EndT.unboxF {Q:Exit→St→Prop}{e:Exit}(i j:Nat){g:Nat}{T E:TypeId}{kO:Kd β}{c:Value→β}{k:Kd α}{l:List α}(hij:i≠j)(hr:S.r i=Z0o g T kO c E k l)(hj:S.r j=emp)(h:∀v,EndT C Q e ((S.setr i (Blk g T kO (c v))).setr j (Zb v E k l))):EndT C Q e S:=
 fun a w hh=>let ⟨v,h1⟩:=hh.unboxF hij hr hj;h v a w h1
end ends
end Go.Wb
namespace Go.Wb
open Go
def Zp8 (A B D F:Z1):Z1:=⟨fun w H M v=> ∃x y z u,v= .tuple #[x,y,z,u]∧A.R w H Z6 x∧B.R w H Z6 y∧D.R w H Z6 z∧F.R w H Z6 u,fun h ⟨x,y,z,u,e,hx,hy,hz,hu⟩=>⟨x,y,z,u,e,A.mono h.pure_ hx,B.mono h.pure_ hy,D.mono h.pure_ hz,F.mono h.pure_ hu⟩⟩
instance (A B D F:Z1):Dup (Zp8 A B D F):=⟨fun h=>h⟩
section tups
variable {C : Ctx} {S : St} {o : Oper} {A B D F : Z1} {p : Operand} {fn : Func}
end tups
end Go.Wb
namespace Go.Wb
open Go
section moveO
variable {C : Ctx} {S S' : St} {o : Oper} {α : Type}
end moveO
end Go.Wb
namespace Go.Wb
open Go
variable {C : Ctx} {o : Oper} {S S' : St}
theorem Goes.alloc {O:Nat→Nat}{a:Act}{w:World}(hh:HoldO C S O a w)(ob:Obj):Goes C Z6 O w O (w.alloc ob):=
 ⟨rfl,rfl,rfl,by simp,fun b hb _=>⟨rfl,heap_alloc_old w ob b hb⟩,fun b h=> .inl h,fun b h=>by have:=(hh.own b h).2;simp;omega,fun h=>h⟩
def omk (n:Int):Option Unit:=bif decide (n<0)||decide ((Zq:Int)<n) then none else some ()
theorem Zqy {n:Int}(h:omk n=some ()):∃m:Nat,n=(m:Int)∧m≤Zq:=by
 unfold omk at h
 cases hc:decide (n<0)||decide ((Zq:Int)<n)
 ·simp only [Bool.or_eq_false_iff,decide_eq_false_iff_not] at hc
  exact ⟨n.toNat,by omega,by omega⟩
 ·rw [hc] at h;cases h
theorem Zn9 {α:Type}{P:Program}{T E:TypeId}{k:Kd α}(he:El P T E k):P.underlying T=some (.slice E)∧∃i,P.info? E=some i∧i.size=k.sz∧i.bytes≤32768:=by
 obtain ⟨i,hi,hs⟩:=Option.map_eq_some_iff.1 he.sz
 obtain ⟨i',hi',hby⟩:=Option.map_eq_some_iff.1 he.by_
 obtain rfl:i=i':=by rw [hi] at hi';exact Option.some.inj hi'
 exact ⟨he.u,i,hi,hs,Nat.le_of_ble_eq_true hby⟩
theorem Zl8 {O:Nat→Nat}{i:Nat}{w w':World}{v':Value}(h:w.grownBy w' none)(hv:v'.ownBlock=some w.heap.size∨v'.ownBlock=none)(hs:∀b,v'.ownBlock=some b→b<w'.heap.size):Turns O i w (.slice none 0 0) v' w':=
 ⟨h,fun b h=>by simp [Value.ownBlock] at h,hv.elim .inr (fun e=> .inl (by rw [e];rfl)),hs⟩
theorem Zsj {α:Type}{T E:TypeId}{k:Kd α}{z:α}{n:Int}{jk:IntKind}{p q:Operand}(i:Nat)(hn:omk n=some ())(ho:o.op= .makeSlice T p q)(hd:Z7 o C.N=true)(he:El C.P T E k)(hz:Zr C.P E k z)(hp:Val C S p (rd (Z0 jk) n))(hq:Val C S q (rd (Z0 jk) n)):
  OpT C o S (fun S'=> ∃v,S'=(S.put o.dst (Zc v)).setr i (Zb v E k (List.replicate n.toNat z))):=
 OpT.value (by simp [ho]) fun O a w hh=>by
  obtain ⟨m,rfl,hm⟩:=Zqy hn
  obtain ⟨hu,ti,hti,hs,hby⟩:=Zn9 he
  obtain ⟨ti',zv,hti',hzv,hzc⟩:=hz.out
  obtain rfl:ti=ti':=by rw [hti] at hti';exact Option.some.inj hti'
  have h1:=(Zv (hp.of hh)).1
  have h2:=(Zv (hq.of hh)).1
  have hl:Zq=4294967296:=rfl
  have hz0:=hzc w (Zi C O)
  have hzl:zv.cells.size=k.sz:=by simpa using k.len hz0
  have hpos:0<k.sz:=by have:=he.pos;simpa using this
  have hb:ti.bytes*m≤281474976710656:=Nat.le_trans (Nat.mul_le_mul hby hm) (by decide)
  obtain ⟨w',h3,h4,h5⟩:=run_make_full (P:=C.P) w 0 T E ti zv k.sz hu hti hzv hs jk jk m hb (by simp only [maxLen];omega) (Nat.zero_le _)
  have hsz:w.heap.size<w'.heap.size:=by
   rcases h4.2 with ⟨e,_⟩ | ⟨g,cap,cur,e,_,hg,_⟩
   ·cases e
   ·cases e;exact (Array.getElem?_eq_some_iff.1 hg).1
  have t:Turns O i w (.slice none 0 0) (.slice (some ⟨w.heap.size,0,none⟩) m m) w':=Zl8 h5 (.inl rfl) (fun b hb=>by simp [Value.ownBlock] at hb;subst hb;exact hsz)
  have hmade:(madeCells zv.cells (m*k.sz)).toList=(List.replicate m zv.cells.toList).flatten:=by rw [←hzl];exact Zd2 _ (by omega) m
  rw [hmade] at h4
  have hkz:∀n,Cells k w (Zi C O) (List.replicate n z) (List.replicate n zv.cells.toList).flatten:=by
   intro n
   induction n with
   | zero=>rfl
   | succ n ih=>rw [List.replicate_succ,List.replicate_succ,List.flatten_cons];exact ⟨_,_,rfl,hz0,ih⟩
  refine ⟨_,w',_,?_,⟨_,rfl⟩,Z7u hh t hd _ rfl (cl:=(List.replicate m zv.cells.toList).flatten) (by simpa using h4) ((hkz _).mono t.ext)⟩
  simp [execOp,ho,h1,h2,h3]
section full
variable {α : Type} {k : Kd α} {l s m r : List α} {T E : TypeId} {p q u : Operand} {jk hk : IntKind} {hi : Int}
end full
end Go.Wb
namespace Go.Wb
open Go
section star
variable {C : Ctx} {S S' : St} {o : Oper} {α β γ : Type}
end star
section more
variable {C : Ctx} {S S' : St} {o : Oper} {α β γ : Type}
end more
end Go.Wb
namespace Go.Wb
open Go
section boxs
variable {C : Ctx} {S S' : St} {o : Oper} {α β γ : Type}
variable {ops : Array Oper}
end boxs
class PureK {α:Type} (k:Kd α):Prop where
 pure:∀{w H w' H' x cs},k.C w H x cs→k.C w' H' x cs
instance (ik:IntKind):PureK (Z0 ik):=⟨fun h=>h⟩
instance:PureK Z01:=⟨fun h=>h⟩
instance:PureK Z5:=⟨fun h=>h⟩
instance:PureK Z3j:=⟨fun h=>h⟩
instance:PureK Zov:=⟨fun h=>h⟩
instance {α β:Type}(k:Kd α)(m:Kd β)[PureK k][PureK m]:PureK (Z4 k m):=⟨fun ⟨c1,c2,e,h1,h2⟩=>⟨c1,c2,e,PureK.pure h1,PureK.pure h2⟩⟩
instance {α β:Type}(k:Kd β)(f:α→β)[PureK k]:PureK (Z0u k f):=⟨fun h=>PureK.pure (k:=k) h⟩
theorem Cells.pure {α:Type}{k:Kd α}[PureK k]{w w':World}{H H':HS}:∀{l:List α} {cs:List Value},Cells k w H l cs→Cells k w' H' l cs
 | [],_,h=>h
 | _::_,_,⟨c1,c2,e,h1,h2⟩=>⟨c1,c2,e,PureK.pure h1,Cells.pure h2⟩
instance {α:Type}(n:Nat)(k:Kd α)[PureK k]:PureK (Zm n k):=⟨fun h=>Cells.pure h⟩
instance (priority:=low){α:Type}(k:Kd α)(x:α)[PureK k]:Flat (rd k x):=⟨fun ⟨cs,h,e⟩=>⟨cs,PureK.pure h,e⟩⟩
instance (A B D:Z1)[Flat A][Flat B][Flat D]:Flat (Zhl A B D):=⟨fun ⟨x,y,z,e,h1,h2,h3⟩=>⟨x,y,z,e,Flat.flat h1,Flat.flat h2,Flat.flat h3⟩⟩
end Go.Wb
namespace Go.Wb
open Go
section short
variable {C : Ctx} {ops : Array Oper} {Q : Exit → St → Prop} {S : St} {o : Oper} {l : List Oper} {α β γ : Type}
theorem Md {t:Nat}{k:Kd α}{x:α}(h:(o.op,Z7 o C.N,S.s t,o.guard)=(.move (.tmp t),true,rd k x,none))(hK:AOps C ops Q l (S.put o.dst (rd k x))):AOps C ops Q (o::l) S:=by
 simp only [Prod.mk.injEq] at h
 exact AOps.cons (Ze h.1 h.2.1 (vt h.2.2.1)) h.2.2.2 hK
theorem As {t:Nat}{k:Kd α}{x:α}(h:(o.op,Z7 o C.N,S.s t,o.guard)=(.assign (.tmp t),true,rd k x,none))(hK:AOps C ops Q l (S.put o.dst (rd k x))):AOps C ops Q (o::l) S:=by
 simp only [Prod.mk.injEq] at h
 exact AOps.cons (Z0d h.1 h.2.1 (vt h.2.2.1)) h.2.2.2 hK
theorem Mp {t g:Nat}{k:Kd α}{kf:Kd β}{L:Lens k kf}(h:(o.op,Z7 o C.N,S.s t,o.guard)=(.move (.tmp t),true,Zp g L,none))(hK:AOps C ops Q l (S.put o.dst (Zp g L))):AOps C ops Q (o::l) S:=by
 simp only [Prod.mk.injEq] at h
 exact AOps.cons (Ze h.1 h.2.1 (vt h.2.2.1)) h.2.2.2 hK
theorem Mw {t:Nat}{v:Value}(h:(o.op,Z7 o C.N,S.s t,o.guard)=(.move (.tmp t),true,Zc v,none))(hK:AOps C ops Q l (S.put o.dst (Zc v))):AOps C ops Q (o::l) S:=by
 simp only [Prod.mk.injEq] at h
 exact AOps.cons (Ze h.1 h.2.1 (vt h.2.2.1)) h.2.2.2 hK
theorem Aw {t:Nat}{v:Value}(h:(o.op,Z7 o C.N,S.s t,o.guard)=(.assign (.tmp t),true,Zc v,none))(hK:AOps C ops Q l (S.put o.dst (Zc v))):AOps C ops Q (o::l) S:=by
 simp only [Prod.mk.injEq] at h
 exact AOps.cons (Z0d h.1 h.2.1 (vt h.2.2.1)) h.2.2.2 hK
theorem Mk {ik:IntKind}{n:Int}(h:(o.op,Z7 o C.N,o.guard,hasB ik n)=(.move (.const (.int ik n)),true,none,true))(hK:AOps C ops Q l (S.put o.dst (rd (Z0 ik) n))):AOps C ops Q (o::l) S:=by
 simp only [Prod.mk.injEq] at h
 exact AOps.cons (Ze h.1 h.2.1 (vk h.2.2.2)) h.2.2.1 hK
theorem Mt2 {t:Nat}{α':Type}{k:Kd α}{k':Kd α'}{x:α}{y:α'}(h:(o.op,Z7 o C.N,S.s t,o.guard)=(.move (.tmp t),true,Z4z (rd k x) (rd k' y),none))(hK:AOps C ops Q l (S.put o.dst (Z4z (rd k x) (rd k' y)))):AOps C ops Q (o::l) S:=by
 simp only [Prod.mk.injEq] at h
 exact AOps.cons (Ze h.1 h.2.1 (vt h.2.2.1)) h.2.2.2 hK
theorem Ak {ik:IntKind}{n:Int}(h:(o.op,Z7 o C.N,o.guard,hasB ik n)=(.assign (.const (.int ik n)),true,none,true))(hK:AOps C ops Q l (S.put o.dst (rd (Z0 ik) n))):AOps C ops Q (o::l) S:=by
 simp only [Prod.mk.injEq] at h
 exact AOps.cons (Z0d h.1 h.2.1 (vk h.2.2.2)) h.2.2.1 hK
theorem Ab {b:Bool}(h:(o.op,Z7 o C.N,o.guard)=(.assign (.const (.bool b)),true,none))(hK:AOps C ops Q l (S.put o.dst (rd Z5 b))):AOps C ops Q (o::l) S:=by
 simp only [Prod.mk.injEq] at h
 exact AOps.cons (Z0d h.1 h.2.1 vb) h.2.2 hK
theorem Ld {T T':TypeId}{t g:Nat}{k:Kd α}{kf:Kd β}{L:Lens k kf}{x:α}(ht:Ty C.P T kf)(i:Nat)(h:(o.op,Z7 o C.N,S.s t,S.r i,o.guard)=(.load T (.tmp t),true,Zp g L,Blk g T' k x,none))(hK:AOps C ops Q l (S.put o.dst (rd kf (L.get x)))):AOps C ops Q (o::l) S:=by
 simp only [Prod.mk.injEq] at h
 exact AOps.cons (Z22 h.1 h.2.1 ht (vt h.2.2.1) h.2.2.2.1) h.2.2.2.2 hK
theorem Lp1 {T:TypeId}{t:Nat}{k:Kd α}{x:α}(ht:Ty C.P T k)(h:(o.op,Z7 o C.N,S.s t,o.guard)=(.load T (.tmp t),true,rp k x,none))(hK:AOps C ops Q l (S.put o.dst (rd k x))):AOps C ops Q (o::l) S:=by
 simp only [Prod.mk.injEq] at h
 exact AOps.cons (Z2b h.1 h.2.1 ht (vt h.2.2.1)) h.2.2.2 hK
theorem Zs {T T':TypeId}{t u g:Nat}{k:Kd α}{kf:Kd β}{L:Lens k kf}{x:α}{y:β}(ht:Ty C.P T kf)(i:Nat)(h:(o.op,o.dst,S.s t,S.r i,S.s u,o.guard)=(.store T (.tmp t) (.tmp u),none,Zp g L,Blk g T' k x,rd kf y,none))(hK:AOps C ops Q l (S.setr i (Blk g T' k (L.set x y)))):AOps C ops Q (o::l) S:=by
 simp only [Prod.mk.injEq] at h
 exact AOps.cons (Zcg h.1 h.2.1 ht (vt h.2.2.1) h.2.2.2.1 (vt h.2.2.2.2.1)) h.2.2.2.2.2 hK
theorem Zo {T:TypeId}{n t g:Nat}{k:Kd α}{kf:Kd β}{kg:Kd γ}{L:Lens k kf}(M:Lens kf kg)(hf:Fl C.P T n M)(h:(o.op,Z7 o C.N,S.s t,o.guard)=(.fieldAddr T (.tmp t) n,true,Zp g L,none))(hK:AOps C ops Q l (S.put o.dst (Zp g (L.comp M)))):AOps C ops Q (o::l) S:=by
 simp only [Prod.mk.injEq] at h
 exact AOps.cons (Z2e M h.1 h.2.1 hf (vt h.2.2.1)) h.2.2.2 hK
theorem Fp {T:TypeId}{n t:Nat}{kf:Kd β}{kg:Kd γ}{x:β}(M:Lens kf kg)(hf:Fl C.P T n M)(h:(o.op,Z7 o C.N,S.s t,o.guard)=(.fieldAddr T (.tmp t) n,true,rp kf x,none))(hK:AOps C ops Q l (S.put o.dst (rp kg (M.get x)))):AOps C ops Q (o::l) S:=by
 simp only [Prod.mk.injEq] at h
 exact AOps.cons (Z2k M h.1 h.2.1 hf (vt h.2.2.1)) h.2.2.2 hK
theorem Nc {t g:Nat}{k:Kd α}{kf:Kd β}{L:Lens k kf}(h:(o.op,Z7 o C.N,S.s t,o.guard)=(.nilCheck (.tmp t),true,Zp g L,none))(hK:AOps C ops Q l (S.put o.dst (Zp g L))):AOps C ops Q (o::l) S:=by
 simp only [Prod.mk.injEq] at h
 exact AOps.cons (Zee h.1 h.2.1 (vt h.2.2.1)) h.2.2.2 hK
class AllDup (As:List Z1):Prop where
 vals:∀{C:Ctx} {S:St} (us:List Nat),us.map S.s=As→Vals C S (us.map .tmp) As
instance:AllDup []:=⟨fun us h=>by cases us with | nil=>trivial | cons u us=>cases h⟩
instance {A:Z1}{As:List Z1}[Dup A][AllDup As]:AllDup (A::As):=⟨fun us h=>by
 cases us with
 | nil=>cases h
 | cons u us=>
  have h1:=List.cons.inj h
  exact ⟨vt h1.1,AllDup.vals us h1.2⟩⟩
theorem Cl {f:FuncId}{ts:Array TypeId}{As:List Z1}{B:Z1}[AllDup As](us:List Nat)(hc:PCon C.P f As B)(he:Ent C.P f)(h:(o.op,Z7 o C.N,o.guard,us.map S.s)=(.call {callee:= .value (.func f),args:=(us.map Operand.tmp).toArray,argTypes:=ts},true,none,As))(hK:AOps C ops Q l (S.put o.dst B)):AOps C ops Q (o::l) S:=by
 simp only [Prod.mk.injEq] at h
 exact AOps.cons (Z0i hc he h.1 h.2.1 (AllDup.vals us h.2.2.2)) h.2.2.1 hK
theorem Gd {A:Z1}{j gt:Nat}{b want:Bool}(h0:(o.guard,(ops[j]?).bind (·.dst),Nat.blt gt C.N,S.s gt,Z7 o C.N)=(some (j,want),some gt,true,rd Z5 b,true))(h:(b==want)=true→OpE C o S (S.put o.dst A))(hK:AOps C ops Q l (S.put o.dst (gd (b==want) A))):AOps C ops Q (o::l) S:=by
 simp only [Prod.mk.injEq] at h0
 exact AOps.consG (OpG.guard h0.1 h0.2.1 h0.2.2.1 h0.2.2.2.1 h0.2.2.2.2 h) hK
theorem Ac {S':St}(h:OpE C o S S')(hg:o.guard=none)(hK:AOps C ops Q l S'):AOps C ops Q (o::l) S:=AOps.cons h hg hK
theorem Nl (h:Q .normal S):AOps C ops Q [] S:=AOps.nil h
theorem Ct {K:St→Prop}(hg:o.guard=none)(h:OpT C o S K)(hK:∀S',K S'→AOps C ops Q l S'):AOps C ops Q (o::l) S:=AOps.consT hg h hK
theorem Rg {id:Nat}(h:AOps C ops Q ops.toList S):AW C (.region id ops false) Q S:=AW.region h
theorem Cn {t:Nat}{b:Bool}{x y:Code}(hc:S.s t=rd Z5 b)(ht:b=true→AW C x Q S)(hf:b=false→AW C y Q S):AW C (.cond (.tmp t) x y) Q S:=AW.cond (vt hc) ht hf
theorem SR {x:Code}{id:Nat}(h:AOps C ops (Z4y (AW C x Q) Q) ops.toList S):AW C (.seq (.region id ops false) x) Q S:=AW.seq (AW.region h)
theorem vh {S':St}{rs:List Nat}{A:Z1}[Dup A](hs:∀t,rs.contains t=true→S'.s t=S.s t)(t:Nat)(h:rs.contains t=true)(h2:S.s t=A):Val C S' (.tmp t) A:=vt ((hs t h).trans h2)
end short
section shortS
variable {C : Ctx} {ops : Array Oper} {Q : St → Prop} {S : St} {o : Oper} {l : List Oper} {α β γ : Type} {m : Mt} {ms : List Mt}
def Stp.hasB (p:Stp)(m:Mt):Bool:=List.beq p.rs m.rs&&List.beq (p.us.map (·.1)) m.us&&List.beq p.rr m.rr&&List.beq (p.ur.map (·.1)) m.ur
theorem c1 (t:Nat):[t].contains t=true:=by simp
theorem Zt {t d:Nat}{k:Kd α}{x:α}(h:(o.op,Z7 o C.N,S.s t,o.guard,o.dst,m)=(.move (.tmp t),true,rd k x,none,some d,⟨[t],[d],[],[]⟩))(hK:SeqA C ops Q ms l (S.ap ⟨[t],[],[(d,rd k x)],[]⟩)):SeqA C ops Q (m::ms) (o::l) S:=by
 simp only [Prod.mk.injEq] at h
 exact SeqA.cons (loc [t] [] h.2.2.2.1 h.2.2.2.2.1 fun S' hs hr=>Ze h.1 h.2.1 (vh hs t (c1 t) h.2.2.1)) (by rw [h.2.2.2.2.2];exact ⟨rfl,rfl,rfl,rfl⟩) hK
theorem SMp {t d g:Nat}{k:Kd α}{kf:Kd β}{L:Lens k kf}(h:(o.op,Z7 o C.N,S.s t,o.guard,o.dst,m)=(.move (.tmp t),true,Zp g L,none,some d,⟨[t],[d],[],[]⟩))(hK:SeqA C ops Q ms l (S.ap ⟨[t],[],[(d,Zp g L)],[]⟩)):SeqA C ops Q (m::ms) (o::l) S:=by
 simp only [Prod.mk.injEq] at h
 exact SeqA.cons (loc [t] [] h.2.2.2.1 h.2.2.2.2.1 fun S' hs hr=>Ze h.1 h.2.1 (vh hs t (c1 t) h.2.2.1)) (by rw [h.2.2.2.2.2];exact ⟨rfl,rfl,rfl,rfl⟩) hK
theorem SAs {t d:Nat}{k:Kd α}{x:α}(h:(o.op,Z7 o C.N,S.s t,o.guard,o.dst,m)=(.assign (.tmp t),true,rd k x,none,some d,⟨[t],[d],[],[]⟩))(hK:SeqA C ops Q ms l (S.ap ⟨[t],[],[(d,rd k x)],[]⟩)):SeqA C ops Q (m::ms) (o::l) S:=by
 simp only [Prod.mk.injEq] at h
 exact SeqA.cons (loc [t] [] h.2.2.2.1 h.2.2.2.2.1 fun S' hs hr=>Z0d h.1 h.2.1 (vh hs t (c1 t) h.2.2.1)) (by rw [h.2.2.2.2.2];exact ⟨rfl,rfl,rfl,rfl⟩) hK
theorem SMw {t d:Nat}{v:Value}(h:(o.op,Z7 o C.N,S.s t,o.guard,o.dst,m)=(.move (.tmp t),true,Zc v,none,some d,⟨[t],[d],[],[]⟩))(hK:SeqA C ops Q ms l (S.ap ⟨[t],[],[(d,Zc v)],[]⟩)):SeqA C ops Q (m::ms) (o::l) S:=by
 simp only [Prod.mk.injEq] at h
 exact SeqA.cons (loc [t] [] h.2.2.2.1 h.2.2.2.2.1 fun S' hs hr=>Ze h.1 h.2.1 (vh hs t (c1 t) h.2.2.1)) (by rw [h.2.2.2.2.2];exact ⟨rfl,rfl,rfl,rfl⟩) hK
theorem lo {d:Nat}{A:Z1}(rs rr:List Nat)(hg:(o.guard,o.dst)=(none,some d))
  (h:∀S':St,(∀t,rs.contains t=true→S'.s t=S.s t)→(∀i,rr.contains i=true→S'.r i=S.r i)→OpE C o S' (S'.put o.dst A)):Loc C ops o S ⟨rs,rr,[(d,A)],[]⟩:=by
 simp only [Prod.mk.injEq] at hg
 exact loc rs rr hg.1 hg.2 h
theorem lg {d j gt:Nat}{A:Z1}{b want:Bool}(rs rr:List Nat)(h0:(o.guard,(ops[j]?).bind (·.dst),Nat.blt gt C.N,rs.contains gt,S.s gt,o.dst,Z7 o C.N)=(some (j,want),some gt,true,true,rd Z5 b,some d,true))
  (h:(b==want)=true→∀S':St,(∀t,rs.contains t=true→S'.s t=S.s t)→(∀i,rr.contains i=true→S'.r i=S.r i)→OpE C o S' (S'.put o.dst A)):Loc C ops o S ⟨rs,rr,[(d,gd (b==want) A)],[]⟩:=by
 simp only [Prod.mk.injEq] at h0
 exact Zrr rs rr h0.1 h0.2.1 h0.2.2.1 h0.2.2.2.1 h0.2.2.2.2.1 h0.2.2.2.2.2.1 h0.2.2.2.2.2.2 h
theorem SNc {t d g:Nat}{k:Kd α}{kf:Kd β}{L:Lens k kf}(h:(o.op,Z7 o C.N,S.s t,o.guard,o.dst,m)=(.nilCheck (.tmp t),true,Zp g L,none,some d,⟨[t],[d],[],[]⟩))(hK:SeqA C ops Q ms l (S.ap ⟨[t],[],[(d,Zp g L)],[]⟩)):SeqA C ops Q (m::ms) (o::l) S:=by
 simp only [Prod.mk.injEq] at h
 exact SeqA.cons (loc [t] [] h.2.2.2.1 h.2.2.2.2.1 fun S' hs hr=>Zee h.1 h.2.1 (vh hs t (c1 t) h.2.2.1)) (by rw [h.2.2.2.2.2];exact ⟨rfl,rfl,rfl,rfl⟩) hK
theorem SFd {T:TypeId}{n t d g:Nat}{k:Kd α}{kf:Kd β}{kg:Kd γ}{L:Lens k kf}(M:Lens kf kg)(hf:Fl C.P T n M)(h:(o.op,Z7 o C.N,S.s t,o.guard,o.dst,m)=(.fieldAddr T (.tmp t) n,true,Zp g L,none,some d,⟨[t],[d],[],[]⟩))(hK:SeqA C ops Q ms l (S.ap ⟨[t],[],[(d,Zp g (L.comp M))],[]⟩)):SeqA C ops Q (m::ms) (o::l) S:=by
 simp only [Prod.mk.injEq] at h
 exact SeqA.cons (loc [t] [] h.2.2.2.1 h.2.2.2.2.1 fun S' hs hr=>Z2e M h.1 h.2.1 hf (vh hs t (c1 t) h.2.2.1)) (by rw [h.2.2.2.2.2];exact ⟨rfl,rfl,rfl,rfl⟩) hK
theorem SFp {T:TypeId}{n t d:Nat}{kf:Kd β}{kg:Kd γ}{x:β}(M:Lens kf kg)(hf:Fl C.P T n M)(h:(o.op,Z7 o C.N,S.s t,o.guard,o.dst,m)=(.fieldAddr T (.tmp t) n,true,rp kf x,none,some d,⟨[t],[d],[],[]⟩))(hK:SeqA C ops Q ms l (S.ap ⟨[t],[],[(d,rp kg (M.get x))],[]⟩)):SeqA C ops Q (m::ms) (o::l) S:=by
 simp only [Prod.mk.injEq] at h
 exact SeqA.cons (loc [t] [] h.2.2.2.1 h.2.2.2.2.1 fun S' hs hr=>Z2k M h.1 h.2.1 hf (vh hs t (c1 t) h.2.2.1)) (by rw [h.2.2.2.2.2];exact ⟨rfl,rfl,rfl,rfl⟩) hK
theorem SLp {T:TypeId}{t d:Nat}{k:Kd α}{x:α}(ht:Ty C.P T k)(h:(o.op,Z7 o C.N,S.s t,o.guard,o.dst,m)=(.load T (.tmp t),true,rp k x,none,some d,⟨[t],[d],[],[]⟩))(hK:SeqA C ops Q ms l (S.ap ⟨[t],[],[(d,rd k x)],[]⟩)):SeqA C ops Q (m::ms) (o::l) S:=by
 simp only [Prod.mk.injEq] at h
 exact SeqA.cons (loc [t] [] h.2.2.2.1 h.2.2.2.2.1 fun S' hs hr=>Z2b h.1 h.2.1 ht (vh hs t (c1 t) h.2.2.1)) (by rw [h.2.2.2.2.2];exact ⟨rfl,rfl,rfl,rfl⟩) hK
theorem SLd {T T':TypeId}{t d g:Nat}{k:Kd α}{kf:Kd β}{L:Lens k kf}{x:α}(ht:Ty C.P T kf)(i:Nat)(h:(o.op,Z7 o C.N,S.s t,S.r i,o.guard,o.dst,m)=(.load T (.tmp t),true,Zp g L,Blk g T' k x,none,some d,⟨[t],[d],[i],[]⟩))(hK:SeqA C ops Q ms l (S.ap ⟨[t],[i],[(d,rd kf (L.get x))],[]⟩)):SeqA C ops Q (m::ms) (o::l) S:=by
 simp only [Prod.mk.injEq] at h
 exact SeqA.cons (loc [t] [i] h.2.2.2.2.1 h.2.2.2.2.2.1 fun S' hs hr=>Z22 h.1 h.2.1 ht (vh hs t (c1 t) h.2.2.1) ((hr i (c1 i)).trans h.2.2.2.1)) (by rw [h.2.2.2.2.2.2];exact ⟨rfl,rfl,rfl,rfl⟩) hK
theorem SSt {T T':TypeId}{t u g:Nat}{k:Kd α}{kf:Kd β}{L:Lens k kf}{x:α}{y:β}(ht:Ty C.P T kf)(i:Nat)(h:(o.op,o.dst,S.s t,S.r i,S.s u,o.guard,m)=(.store T (.tmp t) (.tmp u),none,Zp g L,Blk g T' k x,rd kf y,none,⟨[t,u],[],[i],[i]⟩))(hK:SeqA C ops Q ms l (S.ap ⟨[t,u],[i],[],[(i,Blk g T' k (L.set x y))]⟩)):SeqA C ops Q (m::ms) (o::l) S:=by
 simp only [Prod.mk.injEq] at h
 exact SeqA.cons (Z42 [t,u] [i] h.2.2.2.2.2.1 fun S' hs hr=>Zcg h.1 h.2.1 ht (vh hs t (by simp) h.2.2.1) ((hr i (c1 i)).trans h.2.2.2.1) (vh hs u (by simp) h.2.2.2.2.1)) (by rw [h.2.2.2.2.2.2];exact ⟨rfl,rfl,rfl,rfl⟩) hK
theorem SCl {f:FuncId}{ts:Array TypeId}{As:List Z1}{B:Z1}[AllDup As]{d:Nat}(us:List Nat)(hc:PCon C.P f As B)(he:Ent C.P f)(h:(o.op,Z7 o C.N,o.guard,us.map S.s,o.dst,m)=(.call {callee:= .value (.func f),args:=(us.map Operand.tmp).toArray,argTypes:=ts},true,none,As,some d,⟨us,[d],[],[]⟩))(hK:SeqA C ops Q ms l (S.ap ⟨us,[],[(d,B)],[]⟩)):SeqA C ops Q (m::ms) (o::l) S:=by
 simp only [Prod.mk.injEq] at h
 exact SeqA.cons (loc us [] h.2.2.1 h.2.2.2.2.1 fun S' hs hr=>Z0i hc he h.1 h.2.1 (AllDup.vals us (by
  rw [←h.2.2.2.1]
  exact List.map_congr_left fun t ht=>hs t (by simpa using ht)))) (by rw [h.2.2.2.2.2];exact ⟨rfl,rfl,rfl,rfl⟩) hK
end shortS
end Go.Wb
namespace Go.Wb
open Go
section more
variable {C : Ctx} {S S' : St} {o : Oper} {α : Type}
theorem Zhr:∀{L:List (Nat×Z1)},L.map (fun p=>S.s p.1)=L.map (fun p=>p.2)→Zce S L
 | [],_=>trivial
 | (t,A)::L,h=>⟨(List.cons.inj h).1,Zhr (List.cons.inj h).2⟩
theorem Zjb:∀{L:List (Nat×Zf)},L.map (fun p=>S.r p.1)=L.map (fun p=>p.2)→Z54 S L
 | [],_=>trivial
 | (t,A)::L,h=>⟨(List.cons.inj h).1,Zjb (List.cons.inj h).2⟩
theorem FX {d:List Nat}{L:List (Nat×Z1)}{M:List (Nat×Zf)}(h:(S.d,L.map (fun p=>S.s p.1),M.map (fun p=>S.r p.1))=(d,L.map (fun p=>p.2),M.map (fun p=>p.2))):Fit S d L M:=
 ⟨(Prod.mk.inj h).1,Zhr (Prod.mk.inj (Prod.mk.inj h).2).1,Zjb (Prod.mk.inj (Prod.mk.inj h).2).2⟩
end more
end Go.Wb
namespace Go.Wb
open Go
section brief
variable {C : Ctx} {Q : Exit → St → Prop} {S : St} {o : Oper} {ops : Array Oper} {l : List Oper}
def Stp.mt (p:Stp):Mt:=⟨p.rs,p.us.map (fun q=>q.1),p.rr,p.ur.map (fun q=>q.1)⟩
theorem Sd {Q':St→Prop}{ms:List Mt}{p:Stp}(hl:Loc C ops o S p)(h:SeqA C ops Q' ms l (S.ap p)):SeqA C ops Q' (p.mt::ms) (o::l) S:=⟨p,⟨rfl,rfl,rfl,rfl⟩,hl,h⟩
theorem Sn {Q':St→Prop}(h:Q' S):SeqA C ops Q' [] [] S:=h
theorem AR {id:Nat}{tb:List Mt}(hm:C.P.follows .mixedOrders=true)(hB:Z7i .any ops tb tb 0 (Array.replicate ops.size false)=true)(h:SeqA C ops (fun S'=>Q .normal S') tb ops.toList S):AW C (.region id ops true) Q S:=AW.regionAny tb hm hB h
theorem Cq {α:Type _}{t:Nat}{b:Bool}{x y:Code}{A B r:α}(hc:S.s t=rd Z5 b)(h:(bif b then A else B)=r)(ht:A=r→AW C x Q S)(hf:B=r→AW C y Q S):AW C (.cond (.tmp t) x y) Q S:=
 AW.cond (vt hc) (fun e=>ht (Zn5 e h)) (fun e=>hf (Zld e h))
theorem Cv {ι:Type}{T:ι→St}(hg:o.guard=none)(h:OpT C o S (fun S'=> ∃v,S'=T v))(hK:∀v,AOps C ops Q l (T v)):AOps C ops Q (o::l) S:=
 AOps.consT hg h (by rintro _ ⟨v,rfl⟩;exact hK v)
theorem LG {ν:Type}(I:ν→Prop×Nat×List (Nat×Z1)×List (Nat×Zf))(n0:ν){d:List Nat}{c:Code}(h0:(I n0).1)(f0:Fit S d (I n0).2.2.1 (I n0).2.2.2)
  (hr:∀n,(I n).1→AW C c (Z4y (fun S'=> ∃n',(I n').2.1<(I n).2.1∧(I n').1∧Fit S' d (I n').2.2.1 (I n').2.2.2) Q) ⟨Z1e (I n).2.2.1,Z2d (I n).2.2.2,d⟩):AW C (.loop c) Q S:=
 AW.loopG (fun n=>(I n).1) (fun n=>(I n).2.1) (fun n=>(I n).2.2.1) (fun n=>(I n).2.2.2) n0 h0 f0 hr
theorem JN {ν:Type}(I:ν→Prop×List (Nat×Z1)×List (Nat×Zf)){d:List Nat}{x y:Code}(hx:AW C x (Z4y (fun S'=> ∃n,(I n).1∧Fit S' d (I n).2.1 (I n).2.2) Q) S)(hy:∀n,(I n).1→AW C y Q ⟨Z1e (I n).2.1,Z2d (I n).2.2,d⟩):AW C (.seq x y) Q S:=
 AW.join (fun n=>(I n).1) (fun n=>(I n).2.1) (fun n=>(I n).2.2) hx hy
theorem I0 {P:Program}{f:FuncId}{fn:Func}{c:Code}{N:Nat}{As:List Z1}{B:Z1}(hf:P.funcs[f]? =some fn)(hb:fn.body=some c)(hN:fn.ntmps=N)(hA:Nat.ble As.length N=true)
  (h:∀w H,AW ⟨P,none,N,w,H,Z6⟩ c (Zbj ⟨P,none,N,w,H,Z6⟩ fn (fun _:Unit=>B) (fun _=>emp)) (St.init As emp)):PCon P f As B:=PCon.of (Con.intro0 hf hb hN hA h)
section built
variable {α β : Type}
theorem pc {T:TypeId}{k:Kd α}{kf:Kd β}{L:Lens k kf}{i:Nat}{p:Operand}{ps:List (Nat×Operand)}{z x:α}{y:β}(hf:Z0q C.P T i=some (L.off,kf.sz))(hv:Val C S p (rd kf y))(h:Z3f C S k (Z0q C.P T) ps (L.set z y) x):Z3f C S k (Z0q C.P T) ((i,p)::ps) z x:=⟨_,_,L,y,hf,hv,h⟩
theorem pn {k:Kd α}{pl:Nat→Option (Nat×Nat)}{z x:α}(h:z=x):Z3f C S k pl [] z x:=h
theorem opb {T:TypeId}{k:Kd α}{ps:List (Nat×Operand)}{z:α}(x:α)(hz:Zr C.P T k z)(h:(o.op,Z7 o C.N,k.agg)=(.build T ps.toArray,true,true))(hb:Z2f C.P T=true)(hp:Z3f C S k (Z0q C.P T) ps z x):OpE C o S (S.put o.dst (rd k x)):=
 Z0s (Prod.mk.inj h).1 (Prod.mk.inj (Prod.mk.inj h).2).1 (Prod.mk.inj (Prod.mk.inj h).2).2 hb hz hp
theorem osl {T E:TypeId}{k:Kd α}{z y:α}{p:Operand}(ht:Sl C.P T E k)(hz:Zr C.P E k z)(h:(o.op,Z7 o C.N,Nat.ble (1*k.sz) 16777216,Nat.blt 0 k.sz)=(.buildSlice T 1 #[(0,p)],true,true,true))(hp:Val C S p (rd k y)):OpE C o S (S.put o.dst (rd (Z2 k) [y])):=by
 have h1:=Prod.mk.inj h
 have h2:=Prod.mk.inj h1.2
 have h3:=Prod.mk.inj h2.2
 exact Z8b (n:=1) (ps:=[(0,p)]) (z:=z) (x:=(Vector.replicate 1 z).set 0 y) h1.1 h2.1 ht hz h3.1 h3.2 ⟨_,k,Lens.idx 1 k 0 (by decide),y,by show some _=some _;simp [Lens.idx],hp,rfl⟩ rfl
end built
theorem AW.marks {x:Code}(i j:Nat)(hij:i≠j){D:Nat}{ds:List Nat}(hr:S.r i=Dfr D)(hj:S.r j=Z3w ds)(h:AW C x Q ((S.setr i emp).setr j (Z3w (D::ds)))):AW C x Q S:=by
 rintro a w ⟨O,hh⟩
 have h1:=hh.res i
 rw [hr] at h1
 have h2:=hh.res j
 rw [hj] at h2
 obtain ⟨hm,hD⟩:=h1.2 D (by simp)
 have hm:O D=Ro i:=hm
 let O':Nat→Nat:=fun b=>if O b=Ro i then Ro j else O b
 have hO1:∀b,O b=Ro i→O' b=Ro j:=fun b h=>if_pos h
 have hO2:∀b q,O b=q→q≠Ro i→O' b=q:=fun b q h h1=>by
  show (if O b=Ro i then Ro j else O b)=q
  rw [if_neg (by rw [h];exact h1),h]
 have hO3:∀b,O' b≠0→O b≠0:=fun b h h0=>h (hO2 b 0 h0 (fun e=>Zw i e.symm))
 have hx:∀M M':HS,(∀b,M b→M' b)→Ext w (fun b=>C.H0 b∨O b≠0) M w (fun b=>C.H0 b∨O' b≠0) M':=fun M M' hm=>⟨Nat.le_refl _,fun b _ hn=>⟨fun h=>hn (h.imp id (hO3 b)),rfl⟩,fun b _ hb=>⟨hm b hb,rfl⟩⟩
 refine h a w ⟨O',⟨hh.h0,hh.os,hh.tape,hh.output,hh.size,hh.old,fun b hb=>hh.own b (hO3 b hb),hh.dfr,hh.n,fun s=>?_,fun m=>?_⟩⟩
 ·exact (S.s s).mono (hx _ _ fun b hb=>hO2 b _ hb (Z0m s i)) (hh.slot s)
 ·simp only [St.setr]
  by_cases e:m=j
  ·subst e
   rw [Zy]
   refine ⟨List.nodup_cons.2 ⟨fun hd=>?_,h2.1⟩,fun E hE=>?_⟩
   ·have h3:O D=Ro m:=(h2.2 D hd).1
    exact hij (Z14 (hm.symm.trans h3))
   ·rcases List.mem_cons.1 hE with rfl | hE
    ·exact ⟨hO1 _ hm,hD⟩
    ·exact ⟨hO2 _ _ (h2.2 E hE).1 (fun h=>hij (Z14 h).symm),(h2.2 E hE).2⟩
  ·rw [Zz _ _ e]
   by_cases e':m=i
   ·subst e'
    rw [Zy];trivial
   ·rw [Zz _ _ e']
    exact (S.r m).mono (hx _ _ fun b hb=>hO2 b _ hb (fun h=>e' (Z14 h))) (hh.res m)
theorem sq {x y:Code}(h:AW C x (Z4y (AW C y Q) Q) S):AW C (.seq x y) Q S:=AW.seq h
theorem sk (h:Q .normal S):AW C .skip Q S:=AW.skip h
theorem bk {id:Nat}{x:Code}(h:AW C x (Zcm id Q) S):AW C (.block id x) Q S:=AW.block h
theorem xt {id:Nat}(h:Q (.exit id) S):AW C (.exit id) Q S:=AW.exit h
theorem rt (h:Q .ret S):AW C .ret Q S:=AW.ret h
end brief
section binds
variable {α β γ δ ε ζ ρ : Type _}
theorem bs2 {X:Option α}{Y:α→Option β}{K:α→β→Option ρ}{r:ρ}(h:(X.bind fun a=>(Y a).bind fun b=>K a b)=some r):∃a,X=some a∧∃b,Y a=some b∧K a b=some r:=
 let ⟨a,ha,h⟩:=Za h;⟨a,ha,Za h⟩
theorem bs3 {X:Option α}{Y:α→Option β}{Z:α→β→Option γ}{K:α→β→γ→Option ρ}{r:ρ}(h:(X.bind fun a=>(Y a).bind fun b=>(Z a b).bind fun c=>K a b c)=some r):∃a,X=some a∧∃b,Y a=some b∧∃c,Z a b=some c∧K a b c=some r:=
 let ⟨a,ha,h⟩:=Za h;⟨a,ha,bs2 h⟩
theorem bs4 {X:Option α}{Y:α→Option β}{Z:α→β→Option γ}{W:α→β→γ→Option δ}{K:α→β→γ→δ→Option ρ}{r:ρ}(h:(X.bind fun a=>(Y a).bind fun b=>(Z a b).bind fun c=>(W a b c).bind fun d=>K a b c d)=some r):∃a,X=some a∧∃b,Y a=some b∧∃c,Z a b=some c∧∃d,W a b c=some d∧K a b c d=some r:=
 let ⟨a,ha,h⟩:=Za h;⟨a,ha,bs3 h⟩
end binds
section contracts
variable {α β γ δ ε ζ η ρ : Type _}
abbrev Q0 (P:Program)(f:FuncId)(R:ρ→Z1)(F:Option ρ):Prop:= ∀r,F=some r→PCon P f [] (R r)
abbrev Q1 (P:Program)(f:FuncId)(A:α→Z1)(R:ρ→Z1)(F:α→Option ρ):Prop:= ∀a r,F a=some r→PCon P f [A a] (R r)
abbrev Q2 (P:Program)(f:FuncId)(A:α→Z1)(B:β→Z1)(R:ρ→Z1)(F:α→β→Option ρ):Prop:= ∀a b r,F a b=some r→PCon P f [A a,B b] (R r)
abbrev Q3 (P:Program)(f:FuncId)(A:α→Z1)(B:β→Z1)(D:γ→Z1)(R:ρ→Z1)(F:α→β→γ→Option ρ):Prop:= ∀a b c r,F a b c=some r→PCon P f [A a,B b,D c] (R r)
abbrev Q4 (P:Program)(f:FuncId)(A:α→Z1)(B:β→Z1)(D:γ→Z1)(E:δ→Z1)(R:ρ→Z1)(F:α→β→γ→δ→Option ρ):Prop:= ∀a b c d r,F a b c d=some r→PCon P f [A a,B b,D c,E d] (R r)
end contracts
end Go.Wb
namespace Go.Wb
open Go
section tail
variable {C : Ctx} {S S' : St} {o : Oper} {α : Type}
def Z2w (v:Value)(k:Kd α)(l:List α):Zf:=
 ⟨fun w H M=> ∃g o c cl,v= .slice (some ⟨g,o,none⟩) l.length c∧l.length≤c∧c≤maxLen∧Cells k w H l cl∧At w g o cl∧(∀j,j<c*k.sz→(w.cell? ⟨g,o+j,none⟩).isSome=true∧w.frozen? ⟨g,o+j,none⟩=false)∧g<w.heap.size∧M g,
  fun {w H M w' H' M'} h ⟨g,o,c,cl,hv,h1,h2,hc,hat,hs,hg,hm⟩=>⟨g,o,c,cl,hv,h1,h2,hc.mono h.pure_,fun j u hu=>(World.cell?_of_block (a:=⟨g,o+j,none⟩) (h.own g hg hm).2).trans (hat j u hu),
   fun j hj=>⟨by rw [World.cell?_of_block (a:=⟨g,o+j,none⟩) (h.own g hg hm).2];exact (hs j hj).1,(World.frozen?_of_block (a:=⟨g,o+j,none⟩) (h.own g hg hm).2).trans (hs j hj).2⟩,Nat.lt_of_lt_of_le hg h.size,(h.own g hg hm).1⟩⟩
theorem Zh0 {O:Nat→Nat}{a:Act}{i:Nat}{w w':World}{v v':Value}{R:Zf}{A:Z1}(hh:HoldO C S O a w)(t:Turns O i w v v' w')(hd:Z7 o C.N=true)(u:Value)(hA:A.R w' (Zi C (Z1m O i v')) Z6 u)
  (hR:R.R w' (Zi C (Z1m O i v')) (fun b=>Z1m O i v' b=Ro i)):Hold C ((S.put o.dst A).setr i R) (a.put o.dst u) w':=by
 refine ⟨Z1m O i v',hh.goes (t.goes hh) (Z4c ..) (by cases o.dst<;>rfl) (Z59 ..) (fun s=>?_) (fun j=>?_)⟩
 ·cases hdst:o.dst with
  | none=>exact .inl ⟨rfl,Z0m s i,rfl⟩
  | some d=>
   by_cases e:s=d
   ·subst e
    right
    have hlt:s<a.tmps.size:=hh.n▸Z1o hd s hdst
    rw [Z52 hlt]
    simp only [St.put,St.set,St.setr,Zy]
    exact A.mono Ext.any hA
   ·exact .inl ⟨by simp only [St.put,St.set,St.setr];exact Zz _ _ e,Z0m s i,Z4h e _⟩
 ·by_cases e:j=i
  ·subst e
   right
   simp only [St.setr,Zy]
   exact hR
  ·exact .inl ⟨by simp only [St.setr];rw [Zz _ _ e];cases o.dst<;>rfl,fun h=>e (Z14 h)⟩
theorem Zqt {w:World}{H M:HS}{E:TypeId}{k:Kd α}{l:List α}{v:Value}(hl:0<l.length)(h:(Zb v E k l).R w H M):(Z2w v k l).R w H M:=by
 obtain ⟨cl,ho,hc,hm⟩:=h
 obtain ⟨g,cap,cur,rfl,hg,hnc,hcm,hcs,htk⟩:=Zba ho hl
 have hcell:∀j,w.cell? ⟨g,0+j,none⟩=cur[j]? :=fun j=>by simp [World.cell?,hg]
 refine ⟨g,0,cap,cl,rfl,hnc,hcm,hc,fun j u hu=>?_,fun j hj=>⟨?_,by simp [World.frozen?,hg]⟩,(Array.getElem?_eq_some_iff.1 hg).1,hm g rfl⟩
 ·rw [hcell,←Array.getElem?_toList]
  rw [←htk,List.getElem?_take] at hu
  split at hu
  ·exact hu
  ·cases hu
 ·rw [hcell,Array.getElem?_eq_getElem (by omega)];rfl
theorem HoldO.toT {O:Nat→Nat}{a:Act}{w:World}{i:Nat}{E:TypeId}{k:Kd α}{l:List α}{v:Value}(hh:HoldO C S O a w)(hr:S.r i=Zb v E k l)(hl:0<l.length):HoldO C (S.setr i (Z2w v k l)) O a w:=
 ⟨hh.h0,hh.os,hh.tape,hh.output,hh.size,hh.old,hh.own,hh.dfr,hh.n,hh.slot,fun j=>by
  by_cases e:j=i
  ·subst e
   simp only [St.setr,Zy]
   have:=hh.res j
   rw [hr] at this
   exact Zqt hl this
  ·simp only [St.setr]
   rw [Zz _ _ e]
   exact hh.res j⟩
theorem AW.toT {c:Code}{Q:Exit→St→Prop}(i:Nat){E:TypeId}{k:Kd α}{l:List α}{v:Value}(hr:S.r i=Zb v E k l)(hl:0<l.length)(h:AW C c Q (S.setr i (Z2w v k l))):AW C c Q S:=
 fun a w ⟨O,hh⟩=>h a w ⟨O,hh.toT hr hl⟩
theorem Zmb {T E':TypeId}{k k':Kd α}{l:List α}{v:Value}{p:Operand}(i:Nat)(ho:o.op= .call {callee:= .builtin .len,args:= #[p],argTypes:= #[T]})(hd:Z7 o C.N=true)(ht:Sl C.P T E' k')(hp:Val C S p (Zc v))(hr:S.r i=Z2w v k l):
  OpE C o S (S.put o.dst (rd (Z0 .i64) (l.length:Int))):=
 OpE.plain (by simp [ho]) hd fun O a w hh=>by
  have h1:=Z26 (hp.of hh)
  have h3:=hh.res i
  rw [hr] at h3
  obtain ⟨g,o,c,cl,rfl,h4,h5,_⟩:=h3
  simp only [maxLen] at h5
  refine ⟨.int .i64 l.length,?_,Z1r ⟨by simp [IntKind.min,IntKind.signed,IntKind.bits];try omega,by simp [IntKind.max,IntKind.signed,IntKind.bits];omega⟩⟩
  simp [execOp,ho,resolve,invoke,builtin,Builtin.len_,h1,run_underlying ht.u,goInt]
def etp (v:Value)(i sz:Nat):Z1:=
 ⟨fun _ _ _ u=> ∃g o n c,v= .slice (some ⟨g,o,none⟩) n c∧u= .pointer (some ⟨g,o+i*sz,none⟩),fun _ h=>h⟩
instance (v:Value)(i sz:Nat):Dup (etp v i sz):=⟨fun h=>h⟩
theorem Zlu {T E:TypeId}{k:Kd α}{l:List α}{v:Value}{n:Int}{x:α}{p q:Operand}{ik:IntKind}(i:Nat)(ho:o.op= .indexAddr T p q)(hd:Z7 o C.N=true)(ht:Sl C.P T E k)(hp:Val C S p (Zc v))(hr:S.r i=Z2w v k l)(hq:Val C S q (rd (Z0 ik) n))(hx:lget l n=some x):
  OpE C o S (S.put o.dst (etp v n.toNat k.sz)):=
 OpE.plain (by simp [ho]) hd fun O a w hh=>by
  obtain ⟨h0,hi'⟩:=Z08 hx
  have hi:=(List.getElem?_eq_some_iff.1 hi').1
  have h1:=Z26 (hp.of hh)
  have h2:=(Zv (hq.of hh)).1
  have h3:=hh.res i
  rw [hr] at h3
  obtain ⟨g,o,c,cl,rfl,_⟩:=h3
  obtain ⟨hu,ti,hti,hs⟩:=ht.out
  have h4:(0:Int)≤n∧n<l.length:=⟨h0,by omega⟩
  exact ⟨.pointer (some ⟨g,o+n.toNat*k.sz,none⟩),by simp [execOp,ho,h1,h2,Instr.indexAt,asIntOf,run_underlying hu,Instr.sureAddr,h4,sizeOf,typeInfo,hti,hs,Z1k],g,o,_,_,rfl,rfl⟩
theorem Zoj {T:TypeId}{n:Nat}{k:Kd α}{l:List α}{x:α}{v:Value}{p:Operand}(i:Nat)(ho:o.op= .load T p)(hd:Z7 o C.N=true)(ht:Ty C.P T k)(hp:Val C S p (etp v n k.sz))(hr:S.r i=Z2w v k l)(hx:l[n]? =some x):
  OpE C o S (S.put o.dst (rd k x)):=
 OpE.plain (by simp [ho]) hd fun O a w hh=>by
  obtain ⟨hn,rfl⟩:=List.getElem?_eq_some_iff.1 hx
  obtain ⟨g,o',c1,c2,rfl,h1⟩:=hp.of hh
  have h3:=hh.res i
  rw [hr] at h3
  obtain ⟨g',o2,c,cl,hv,_,_,hc,hat,_⟩:=h3
  cases hv
  have hcs:=hc.get n hn
  exact ⟨_,by simp [execOp,ho,h1,Instr.loadAt,Instr.sureAddr,Z9a ht hcs (hat.sub (n*k.sz) k.sz)],_,hcs,rfl⟩
theorem Zm0 {T E':TypeId}{k:Kd α}{l s:List α}{v:Value}{lo:Int}{p r:Operand}{jk:IntKind}(i:Nat)(h:Z2m l lo=some s)(ho:o.op= .slice T p (some r) none none)(hd:Z7 o C.N=true)(ht:Sl C.P T E' k)(hp:Val C S p (Zc v))(hr:S.r i=Z2w v k l)(hq:Val C S r (rd (Z0 jk) lo)):
  OpT C o S (fun S'=> ∃v',S'=(S.put o.dst (Zc v')).setr i (Z2w v' k s)):=
 OpT.value (by simp [ho]) fun O a w hh=>by
  obtain ⟨h0,h1,rfl⟩:=Zaq h
  have h2:=Z26 (hp.of hh)
  have h3:=(Zv (hq.of hh)).1
  have h4:=hh.res i
  rw [hr] at h4
  obtain ⟨g,f,c,cl,rfl,hnc,hcm,hc,hat,hs,hg,hm⟩:=h4
  have hbd:(Instr.sliceBounds true l.length c (some (.int jk lo)) none none).run C.P w= .ok (lo.toNat,l.length,c) w:=by
   simp [Instr.sliceBounds,run_sliceBound _ _ _ _ _ h0 (show lo≤(l.length:Int) by omega)]
  have hrun:=Z6x (P:=C.P) (w:=w) ht (some ⟨g,f,none⟩) l.length c lo.toNat l.length c (some (.int jk lo)) none none hbd
  have hle:(l.drop lo.toNat).length=l.length - lo.toNat:=List.length_drop
  obtain ⟨f',hv,hf⟩:∃f',(if c=lo.toNat then some (⟨g,f,none⟩:Addr) else (some (⟨g,f,none⟩:Addr)).map (·.add (lo.toNat*k.sz)))=some ⟨g,f',none⟩∧(c=lo.toNat∨f'=f+lo.toNat*k.sz):=by
   by_cases e:c=lo.toNat
   ·exact ⟨f,by rw [if_pos e],.inl e⟩
   ·exact ⟨f+lo.toNat*k.sz,by rw [if_neg e];simp [Z1k],.inr rfl⟩
  rw [hv] at hrun
  have t:Turns O i w (.slice (some ⟨g,f,none⟩) l.length c) (.slice (some ⟨g,f',none⟩) (l.length - lo.toNat) (c - lo.toNat)) w:=
   ⟨⟨rfl,rfl,rfl,Nat.le_refl _,fun _ _ _=>rfl⟩,fun b hb=>by cases hb;exact hm,.inl rfl,fun b hb=>by cases hb;exact hg⟩
  refine ⟨.slice (some ⟨g,f',none⟩) (l.length - lo.toNat) (c - lo.toNat),w,_,by simp [execOp,ho,h2,h3,hrun],⟨_,rfl⟩,Zh0 hh t hd _ rfl ⟨g,f',c - lo.toNat,cl.drop (lo.toNat*k.sz),by rw [hle],by omega,by omega,(hc.drop _ h1).mono (t.ext (C:=C)),?_,fun j hj=>?_,hg,if_pos rfl⟩⟩
  ·rcases hf with e | rfl
   ·intro j u hu
    have hlen:=hc.len
    have h6:l.length*k.sz≤lo.toNat*k.sz:=Nat.mul_le_mul_right _ (by omega)
    rw [List.getElem?_drop,List.getElem?_eq_none (by omega)] at hu
    cases hu
   ·intro j u hu
    rw [List.getElem?_drop] at hu
    have:=hat _ _ hu
    rwa [←Nat.add_assoc] at this
  ·rcases hf with e | rfl
   ·rw [e,Nat.sub_self,Nat.zero_mul] at hj;omega
   ·rw [Nat.add_assoc]
    refine hs _ ?_
    rw [Nat.sub_mul] at hj
    omega
theorem Zgu (b:Nat):∀(vs:List Value) (o:Nat) (w:World),(w.setCells b o vs).tape=w.tape
 | [],o,w=>rfl
 | v::vs,o,w=>by
  rw [World.setCells,Zgu b vs (o+1)]
  unfold World.setCell
  split<;>rfl
theorem Zon {P:Program}{w:World}{H H':HS}{T E ty:TypeId}{k:Kd α}{l m:List α}{g f c:Nat}{u:Value}{cl:List Value}(he:El P T E k)(hnc:l.length≤c)(hcm:c≤maxLen)(hc:Cells k w H l cl)(hat:At w g f cl)
  (hs:∀j,j<c*k.sz→(w.cell? ⟨g,f+j,none⟩).isSome=true∧w.frozen? ⟨g,f+j,none⟩=false)(hg:g<w.heap.size)(hu:SlC k w H' m u)(hl:l.length+m.length≤Zq):
  ∃g' f' c' w' ml,(Builtin.append_ #[T,T] ty #[.slice (some ⟨g,f,none⟩) l.length c,u]).run P w= .ok (.slice (some ⟨g',f',none⟩) (l.length+m.length) c') w'∧l.length+m.length≤c'∧c'≤maxLen∧At w' g' f' (cl++ml)∧
   (∀j,j<c'*k.sz→(w'.cell? ⟨g',f'+j,none⟩).isSome=true∧w'.frozen? ⟨g',f'+j,none⟩=false)∧g'<w'.heap.size∧Cells k w H' m ml∧w.grownBy w' (some g)∧(g'=g∨g'=w.heap.size):=by
 obtain ⟨A,c2,rfl,hmc,hc63,hcells⟩:=hu
 obtain ⟨i,hi,hsz⟩:=Option.map_eq_some_iff.1 he.sz
 obtain ⟨i',hi',hby⟩:=Option.map_eq_some_iff.1 he.by_
 obtain rfl:i=i':=by rw [hi] at hi';exact Option.some.inj hi'
 obtain ⟨i',hi',hz⟩:=Option.map_eq_some_iff.1 he.zr
 obtain rfl:i=i':=by rw [hi] at hi';exact Option.some.inj hi'
 obtain ⟨z,hz1,hz2⟩:=Option.map_eq_some_iff.1 hz
 have hby':i.bytes≤32768:=Nat.le_of_ble_eq_true hby
 have hlen:=hc.len
 obtain ⟨ml,hml,hsrc⟩:∃ml,Cells k w H' m ml∧Src P i.size T (.slice A m.length c2) m.length ml w:=by
  by_cases h0:m.length=0
  ·have hm0:m=[]:=List.eq_nil_of_length_eq_zero h0
   subst hm0
   refine ⟨[],rfl,⟨.inl ⟨E,he.u⟩,fun _=>rfl,?_,?_,by simp,fun _ h=>by cases h⟩⟩<;>cases A<;>simp [Builtin.firstCells,loadCells,loadCellsFrom]
  ·obtain ⟨b,off,ml,rfl,hb,hn,hcc,hat2⟩:=hcells (by omega)
   exact ⟨ml,hcc,Src.ofSlice w he.u ⟨b,off,none⟩ m.length c2 ml (by rw [hcc.len,hsz]) (fun j u hu=>by rw [Z1k];exact hat2 j u hu) hcc.one⟩
 have hnl:=hml.len
 have hlm:Zq=4294967296:=rfl
 by_cases hroom:l.length+m.length≤c
 ·have hle:l.length*k.sz+m.length*k.sz≤c*k.sz:=by rw [←Nat.add_mul];exact Nat.mul_le_mul_right _ hroom
  have hthere:∀j,j<ml.length→(w.cell? ⟨g,f+l.length*i.size+j,none⟩).isSome=true∧w.frozen? ⟨g,f+l.length*i.size+j,none⟩=false:=fun j hj=>by
   have:=hs (l.length*k.sz+j) (by omega)
   rwa [←Nat.add_assoc,←hsz] at this
  have hrun:=run_append_room_src (P:=P) w T T ty E i he.u hi g f l.length c _ m.length ml hsrc hroom (fun j hj=>(hthere j hj).1) (fun j hj=>(hthere j hj).2)
  refine ⟨g,f,c,_,ml,hrun,hroom,hcm,fun j u hu=>?_,fun j hj=>⟨?_,?_⟩,?_,hml,⟨?_,Zgu ..,?_,?_,fun b hb hne=>?_⟩,.inl rfl⟩
  ·by_cases hj:j<cl.length
   ·rw [List.getElem?_append_left hj] at hu
    rw [World.cell?_setCells_out _ _ _ _ _ (fun _ _=> .inl (by show f+j<_;rw [hsz];omega))]
    exact hat j u hu
   ·rw [List.getElem?_append_right (by omega)] at hu
    have hj2:j - cl.length<ml.length:=(List.getElem?_eq_some_iff.1 hu).1
    have:=World.cell?_setCells_in g ml (f+l.length*i.size) w (fun j hj=>(hthere j hj).1) (j - cl.length) hj2
    rw [show f+l.length*i.size+(j - cl.length)=f+j by rw [hsz];omega] at this
    rw [this,←hu,List.getElem?_eq_getElem hj2]
  ·by_cases hin:l.length*k.sz≤j∧j<l.length*k.sz+ml.length
   ·have:=World.cell?_setCells_in g ml (f+l.length*i.size) w (fun j hj=>(hthere j hj).1) (j - l.length*k.sz) (by omega)
    rw [show f+l.length*i.size+(j - l.length*k.sz)=f+j by rw [hsz];omega] at this
    rw [this];rfl
   ·rw [World.cell?_setCells_out _ _ _ _ _ (fun _ _=>by show f+j<_∨_≤f+j;rw [hsz];omega)]
    exact (hs j hj).1
  ·rw [World.frozen?_setCells];exact (hs j hj).2
  ·exact Nat.lt_of_lt_of_le hg (World.keptBut_setCells g (may:=fun _=>True) ml _ w (fun _ _=>trivial)).size
  ·exact (World.keptBut_setCells g (may:=fun _=>True) ml _ w (fun _ _=>trivial)).1
  ·exact (World.keptBut_setCells g (may:=fun _=>True) ml _ w (fun _ _=>trivial)).2.1
  ·exact (World.keptBut_setCells g (may:=fun _=>True) ml _ w (fun _ _=>trivial)).size
  ·exact (World.keptBut_setCells g (may:=fun p=>p.block=g) ml _ w (fun _ _=>rfl)).block hb (fun p hp e=>hne (by rw [←hp,←e]))
 ·have hold:(Builtin.firstCells i.size l.length (.slice (some ⟨g,f,none⟩) l.length c)).run P w.drew= .ok cl.toArray w.drew:=
   run_firstCells_some w.drew i.size l.length ⟨g,f,none⟩ l.length c cl (by rw [hlen,hsz]) (fun j u hu=>by rw [Z1k];simpa using hat j u hu)
  have hrun:=run_append_grow_src (P:=P) w T T ty E i z he.u hi hz1 (some ⟨g,f,none⟩) l.length c cl hold _ m.length ml hsrc (by omega) (by omega) (growslice_fits (by omega) (Nat.le_trans (Nat.mul_le_mul hl hby') (by decide)))
  have hge:=grownCap_ge w (l.length+m.length) c E
  have hmx:=grownCap_le_maxLen w (l.length+m.length) c E (by simp only [maxLen];omega)
  have hL:(cl++ml).length=(l.length+m.length)*k.sz:=by rw [List.length_append,hlen,hnl,Nat.add_mul]
  have hsize:((cl++ml).toArray++Builtin.zeroCells z.cells (grownCap w (l.length+m.length) c E - (l.length+m.length))).size=grownCap w (l.length+m.length) c E*k.sz:=by
   rw [Array.size_append,List.size_toArray,hL,size_zeroCells,hz2,←Nat.add_mul]
   congr 1
   omega
  have e1:=fun j=>World.cell?_alloc_new w.drew ((cl++ml).toArray++Builtin.zeroCells z.cells (grownCap w (l.length+m.length) c E - (l.length+m.length))) E j
  refine ⟨w.heap.size,0,_,_,ml,hrun,hge,hmx,fun j u hu=>?_,fun j hj=>⟨?_,?_⟩,?_,hml,⟨rfl,rfl,rfl,?_,fun b hb hne=>?_⟩,.inr rfl⟩
  ·rw [Nat.zero_add]
   refine (e1 j).trans ?_
   rw [Array.getElem?_append_left (by rw [List.size_toArray];exact (List.getElem?_eq_some_iff.1 hu).1),List.getElem?_toArray]
   exact hu
  ·rw [Nat.zero_add]
   refine (congrArg Option.isSome (e1 j)).trans ?_
   rw [Array.getElem?_eq_getElem (by rw [hsize];exact hj)];rfl
  ·rw [Nat.zero_add]
   exact World.frozen?_alloc_new w.drew _ _ j
  ·show w.heap.size<(w.heap.push _).size
   rw [Array.size_push];exact Nat.lt_succ_self _
  ·show w.heap.size≤(w.heap.push _).size
   rw [Array.size_push];exact Nat.le_succ _
  ·exact Go.RowKit.Below.heap_alloc w.drew _ b hb
theorem Ztv {T E:TypeId}{k:Kd α}{l m r:List α}{v:Value}{p q:Operand}(i:Nat)(hl:Z1j l m=some r)(ho:o.op= .call {callee:= .builtin .append,args:= #[p,q],argTypes:= #[T,T]})(hd:Z7 o C.N=true)(he:El C.P T E k)(hp:Val C S p (Zc v))(hr:S.r i=Z2w v k l)(hq:Val C S q (rd (Z2 k) m)):
  OpT C o S (fun S'=> ∃v',S'=(S.put o.dst (Zc v')).setr i (Z2w v' k r)):=
 OpT.value (by simp [ho]) fun O a w hh=>by
  obtain ⟨hlm,rfl⟩:=Z86 hl
  have h1:=Z26 (hp.of hh)
  have h2:=Z4l (hq.of hh)
  have h3:=hh.res i
  rw [hr] at h3
  obtain ⟨g,f,c,cl,rfl,hnc,hcm,hc,hat,hs,hg,hm⟩:=h3
  obtain ⟨g',f',c',w',ml,h4,h5,h6,h7,h8,h9,h10,h11,h12⟩:=Zon (ty:=o.type) he hnc hcm hc hat hs hg h2 hlm
  have t:Turns O i w (.slice (some ⟨g,f,none⟩) l.length c) (.slice (some ⟨g',f',none⟩) (l.length+m.length) c') w':=
   ⟨h11,fun b hb=>by cases hb;exact hm,by rcases h12 with rfl | rfl;exact .inl rfl;exact .inr rfl,fun b hb=>by cases hb;exact h9⟩
  refine ⟨_,w',_,?_,⟨_,rfl⟩,Zh0 hh t hd _ rfl ⟨g',f',c',cl++ml,by rw [List.length_append],by rw [List.length_append];exact h5,h6,(hc.mono (t.ext (C:=C))).append (h10.mono t.ext),h7,h8,h9,if_pos rfl⟩⟩
  simp only [execOp,ho,resolve,invoke,builtin,Sem.run_bind,Sem.run_pure,Result.andThen_ok,List.map_toArray,List.map_cons,List.map_nil,h1,h4]
end tail
end Go.Wb
namespace Go.Wb
open Go
def ds (w:Nat):Nat→Nat→Nat
 | 0,_=>0
 | n+1,x=>x % 2 ^ w+ds w n (x / 2 ^ w)
def mk (w:Nat):Nat→Nat
 | 0=>0
 | n+1=>2 ^ (2*w)*mk w n+(2 ^ w - 1)
end Go.Wb
namespace Go.Wb
open Go
section ve
variable {α β : Type} [Inhabited α] {n : Nat}
def ve (v:Vector α n)(i:Nat):α:=if h:i<n then v[i] else default
theorem Zdq (v:Vector α n)(i:Nat)(h:i<n):Vector.get v ⟨i,h⟩=ve v i:=by
 unfold ve;rw [dif_pos h];rfl
theorem Z5j (v:Vector α n)(i:Nat)(h:i<n):ve v i=v[i]:=by unfold ve;rw [dif_pos h]
theorem Zco {v w:Vector α n}(h:∀i,i<n→ve v i=ve w i):v=w:=by
 apply Vector.ext
 intro i hi
 have:=h i hi
 rwa [Z5j _ _ hi,Z5j _ _ hi] at this
theorem Zhm (v:Vector α n)(i:Nat)(hi:i<n)(x:α)(j:Nat)(hj:j<n):ve (Vector.set v i x hi) j=if i=j then x else ve v j:=by
 rw [Z5j _ _ hj,Z5j _ _ hj,Vector.getElem_set]
theorem Zj9 (g:Nat→α)(j:Nat)(hj:j<n):ve (Vector.ofFn (n:=n) fun i=>g i.1) j=g j:=by
 rw [Z5j _ _ hj,Vector.getElem_ofFn]
def Z4b (g:Nat→α)(b:Vector α n)(i:Nat):Vector α n:=Vector.ofFn fun k=>if k.1<i then g k.1 else ve b k.1
theorem Z8h (g:Nat→α)(b:Vector α n)(i j:Nat)(hj:j<n):ve (Z4b g b i) j=if j<i then g j else ve b j:=by
 unfold Z4b
 rw [Z5j _ _ hj,Vector.getElem_ofFn]
theorem Ziq (g:Nat→α)(b:Vector α n):Z4b g b 0=b:=Zco fun j hj=>by rw [Z8h _ _ _ _ hj,if_neg (by omega)]
theorem Zjo (g:Nat→α)(b:Vector α n)(i:Nat)(hi:i<n):Vector.set (Z4b g b i) i (g i) hi=Z4b g b (i+1):=Zco fun j hj=>by
 rw [Zhm _ _ _ _ _ hj,Z8h _ _ _ _ hj,Z8h _ _ _ _ hj]
 by_cases h1:i=j
 ·subst h1;simp
 ·rw [if_neg h1]
  by_cases h2:j<i
  ·rw [if_pos h2,if_pos (by omega)]
  ·rw [if_neg h2,if_neg (by omega)]
theorem Zhi (g:Nat→α)(b:Vector α n):Z4b g b n=Vector.ofFn (n:=n) fun i=>g i.1:=Zco fun j hj=>by rw [Z8h _ _ _ _ hj,if_pos hj,Zj9 _ _ hj]
end ve
section yf
variable {α β σ : Type}
end yf
end Go.Wb
namespace Go.Wb
open Go
section sort
variable {α : Type} (lt : α → α → Bool)
def Z2h (x:α):List α→List α
 | []=>[x]
 | y::R=>bif lt x y then y::Z2h x R else x::y::R
def srt (l:List α):List α:=(l.foldl (fun R x=>Z2h lt x R) []).reverse
structure Swo:Prop where
 asym:∀a b,lt a b=true→lt b a=false
 neg:∀a b c,lt a b=false→lt b c=false→lt a c=false
variable {lt}
end sort
end Go.Wb
