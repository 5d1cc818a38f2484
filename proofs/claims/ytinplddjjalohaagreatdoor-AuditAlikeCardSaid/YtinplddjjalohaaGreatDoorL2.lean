/- A part of the proof. -/
import Derived.Test.YtinplddjjalohaaGreatDoorL1
import Derived.DeepKeys5
import Derived.Laws.IdiomCopy
set_option linter.unusedVariables false
set_option linter.unusedSimpArgs false
set_option linter.unusedSectionVars false
namespace Go.Wb
open Go
def stf (P:Program)(T:TypeId):List (String×Nat×Nat):=match P.underlying T with
 | some (.struct fs)=>fs.toList.map fun f=>(f.name,f.type,f.offset)
 | _=>[]
theorem Ybo {P:Program}{T:TypeId}{p:String×Nat×Nat}{l:List (String×Nat×Nat)}(h:stf P T=p::l):∃fs,P.underlying T=some (.struct fs)∧fs.toList.map (fun f=>(f.name,f.type,f.offset))=p::l:=by
 unfold stf at h
 split at h
 ·exact ⟨_,by assumption,h⟩
 ·cases h
theorem Ydl {κ:Type}{P:Program}{kt ti n:Nat}{a b:String}{f:κ→Int×Int}(law:Go.Maps.Keyed P kt)(hf:stf P kt=[(a,ti,0),(b,ti,1)])(ha:(a !="_")=true)(hb:(b !="_")=true)
  (hk:P.keyType kt=true)(hc:P.cellsOf kt=2)(hi:P.underlying ti=some (.int .i64))(hci:P.cellsOf ti=1)(hs:P.types.size=n+1)(hinj:∀x y,f x=f y→x=y):
  Zpa P kt (Z15 (Z2 (Z0 .i64) (Z0 .i64)) f) where
 law:=law
 reads:=by
  rintro w H x cs ⟨c1,c2,rfl,⟨rfl,h1⟩,⟨rfl,h2⟩⟩
  obtain ⟨⟨l⟩,hu,hl⟩:=Ybo hf
  obtain ⟨p,l1,e0,hp,hl1⟩:=List.map_eq_cons_iff.1 hl
  obtain ⟨q,l2,rfl,hq,hl2⟩:=List.map_eq_cons_iff.1 hl1
  obtain rfl:=List.map_eq_nil_iff.1 hl2
  obtain rfl:l=[p,q]:=e0
  ·simp only [Prod.mk.injEq] at hp hq
   obtain ⟨hp0,hp1,hp2⟩:=hp
   obtain ⟨hq0,hq1,hq2⟩:=hq
   have w1:(Lit.int IntKind.i64 (f x).1).wf=true:=by simp [Lit.wf];exact h1
   have w2:(Lit.int IntKind.i64 (f x).2).wf=true:=by simp [Lit.wf];exact h2
   have n1:p.name≠"_":=by rw [hp0];simpa using ha
   have n2:q.name≠"_":=by rw [hq0];simpa using hb
   have e1:P.keyLits (n+2) kt [.int .i64 (f x).1,.int .i64 (f x).2]=some [.int .i64 (f x).1,.int .i64 (f x).2]:=by
    simp [Program.keyLits,hu,hc,n1,n2,hp1,hp2,hq1,hq2,hci,hi,w1,w2]
   refine ⟨.string (keyBytes [.int .i64 (f x).1,.int .i64 (f x).2]),?_⟩
   have e2:(mkv (Z15 (Z2 (Z0 .i64) (Z0 .i64)) f).agg ([Value.int .i64 (f x).1]++[Value.int .i64 (f x).2]))= .agg #[.int .i64 (f x).1,.int .i64 (f x).2]:=rfl
   rw [e2]
   unfold keyOf
   rw [hu,hs]
   simp [hk,Value.formed,hu,hc,Value.cells,e1]
 inj:=by
  rintro w H w' H' x y cs ds ⟨c1,c2,rfl,⟨rfl,_⟩,⟨rfl,_⟩⟩ ⟨d1,d2,rfl,⟨rfl,_⟩,⟨rfl,_⟩⟩
  constructor
  ·intro h
   simp [mkv,Z15,Z2] at h
   exact hinj _ _ (Prod.ext h.1 h.2)
  ·rintro rfl;rfl
 pure:=fun h=>h
section maps
variable {κ : Type} [DecidableEq κ] {C : Ctx} {S : St} {o : Oper}
def Z63 (k:Kd κ):Kd (List (κ×Int)) where
 sz:=1
 agg:=false
 C:=fun w H m cs=> ∃r,cs=[.map r]∧(r=none→m=[])∧∀b,r=some b→¬H b∧b<w.heap.size∧∃es clock,MapAt k w H b m es clock
 len:=by rintro w H m cs ⟨r,rfl,_⟩;rfl
 one:=by rintro w H m cs ⟨r,rfl,_⟩ v hv;rw [List.mem_singleton.1 hv];rfl
 flat:=fun _=>rfl
 mono:=by
  rintro w H w' H' m cs x ⟨r,rfl,h1,h2⟩
  refine ⟨r,rfl,h1,fun b hb=>?_⟩
  obtain ⟨h3,h4,es,clock,h5⟩:=h2 b hb
  obtain ⟨h6,h7⟩:=x.vis b h4 h3
  exact ⟨h6,Nat.lt_of_lt_of_le h4 x.size,es,clock,h5.mono x h7⟩
theorem Yue {k:Kd κ}{w:World}{H M:HS}{m:List (κ×Int)}{v:Value}(h:(rd (Z63 k) m).R w H M v):∃r,v= .map r∧(r=none→m=[])∧∀b,r=some b→¬H b∧b<w.heap.size∧∃es clock,MapAt k w H b m es clock:=by
 obtain ⟨cs,⟨r,rfl,h1,h2⟩,rfl⟩:=h
 exact ⟨r,rfl,h1,h2⟩
theorem vnm {k:Kd κ}:Val C S (.const (.map none)) (rd (Z63 k) []):=fun _ _ _ _=>⟨_,⟨none,rfl,fun _=>rfl,fun _ h=>by cases h⟩,rfl⟩
theorem HoldO.freezeM {O:Nat→Nat}{a:Act}{w:World}{t i b:Nat}{k:Kd κ}{m:List (κ×Int)}(hX:C.X=Ze)(hs:S.s t=Zb (.map (some b)))(hr:S.r i=Z2g b k m)(hh:HoldO C S O a w):Hold C ((S.set t (rd (Z63 k) m)).setr i emp) a w:=by
 have h3:=hh.res i
 rw [hr] at h3
 obtain ⟨hm,es,clock,ha⟩:=h3
 have h1:a.tmps.getD t undef= .map (some b):=Z5m (by have:=hh.slot t;rwa [hs] at this)
 let O':Nat→Nat:=fun b=>if O b=Ro i then 0 else O b
 have hO:∀b,O' b≠0→O b≠0∧O' b=O b:=fun b h=>by
  by_cases e:O b=Ro i
  ·exact absurd (if_pos e) h
  ·exact ⟨fun e0=>h (by simp only [O'];rw [if_neg e,e0]),if_neg e⟩
 have hext:Ext w (hid C O) Ze w (hid C O') Ze:=⟨Nat.le_refl _,fun b _ hn=>⟨fun h=>hn (h.imp id fun h=>(hO b h).1),rfl⟩,fun _ _ h=>h.elim⟩
 have go:Goes C (fun q=>q=Ro i) O w O' w:=⟨rfl,rfl,rfl,Nat.le_refl _,fun b hb hq=>⟨if_neg hq,rfl⟩,fun b h=> .inl (hO b h).1,fun b h=>(hh.own b (hO b h).1).2,fun h=>Z0b i h.symm⟩
 refine ⟨O',hh.goes go rfl rfl rfl (fun s=>?_) (fun j=>?_)⟩
 ·by_cases e:s=t
  ·subst e
   right
   simp only [St.set,St.setr,Zz]
   rw [h1]
   have hOb:O b=Ro i:=hm
   have hlt:b<w.heap.size:=(hh.own b (by rw [hOb];exact Z0b i)).2
   refine ⟨_,⟨some b,rfl,(fun h=>by cases h),fun b' hb'=>?_⟩,rfl⟩
   obtain rfl:=Option.some.inj hb'
   refine ⟨?_,hlt,es,clock,ha.mono hext rfl⟩
   rintro (h | h)
   ·have h6:=(hh.own b (by rw [hOb];exact Z0b i)).1
    rw [hX] at h6
    have h7:=hh.h0 b h
    rcases h6 with h6 | h6
    ·omega
    ·exact h6
   ·exact h (if_pos hOb)
  ·exact .inl ⟨by simp only [St.set,St.setr];exact Zy _ _ e,Z1e s i,rfl⟩
 ·by_cases e:j=i
  ·subst e
   right
   simp only [St.setr,Zz]
   trivial
  ·exact .inl ⟨by simp only [St.setr];rw [Zy _ _ e];rfl,fun h=>e (Z1z h)⟩
theorem AW.freezeM {Q:Exit→St→Prop}{c:Code}(t i:Nat){b:Nat}{k:Kd κ}{m:List (κ×Int)}(hX:C.X=Ze)(hs:S.s t=Zb (.map (some b)))(hr:S.r i=Z2g b k m)(h:AW C c Q ((S.set t (rd (Z63 k) m)).setr i emp)):AW C c Q S:=
 fun a w ⟨O,hh⟩=>h a w (hh.freezeM hX hs hr)
theorem AOps.freezeM {ops:Array Oper}{Q:Exit→St→Prop}{c:List Oper}(t i:Nat){b:Nat}{k:Kd κ}{m:List (κ×Int)}(hX:C.X=Ze)(hs:S.s t=Zb (.map (some b)))(hr:S.r i=Z2g b k m)(h:AOps C ops Q c ((S.set t (rd (Z63 k) m)).setr i emp)):AOps C ops Q c S:=
 fun a w ⟨O,hh⟩=>h a w (hh.freezeM hX hs hr)
theorem Y89 {T kt:TypeId}{k:Kd κ}{m:List (κ×Int)}{x:κ}{p q:Operand}(ho:o.op= .lookup T p q false)(hd:Zl o C.N=true)(ht:MTy C.P T kt k)(hp:Val C S p (rd (Z63 k) m))(hq:Val C S q (rd k x)):
  OpE C o S (S.put o.dst (rd (Z0 .i64) (Z0n m x))):=
 OpE.plain (by simp [ho]) hd fun O a w hh=>by
  obtain ⟨r,h1,h2,h3⟩:=Yue (hp.of hh)
  obtain ⟨cs,hc,hv⟩:=hq.of hh
  cases r with
  | none=>
   obtain rfl:=h2 rfl
   obtain ⟨e,hu,hz⟩:=ht.u
   obtain ⟨l,hl⟩:=ht.key.reads hc
   have hck:=ht.key.law.check w true hl
   have hf:(Instr.findKey kt (mkv k.agg cs) []).run C.P w= .ok none w:=by
    rcases ht.key.law.find w hl [] (by simp) with ⟨h,_⟩ | ⟨j,e,_,h,_⟩
    ·exact h
    ·simp at h
   refine ⟨.int .i64 0,?_,Z3k (show IntKind.i64.has 0 from ⟨by decide,by decide⟩)⟩
   simp [execOp,ho,h1,hv,Instr.lookup,run_underlying hu,hck,hf,Zxs hz,Result.andThen]
  | some b=>
   obtain ⟨_,_,es,clock,ha⟩:=h3 b rfl
   obtain ⟨h4,h5⟩:=Ztt ht ha hc
   exact ⟨_,by simp [execOp,ho,h1,hv,h4,Result.andThen],Z3k h5⟩
theorem Yim {T:TypeId}{k:Kd κ}{m:List (κ×Int)}{b i:Nat}{p:Operand}(ho:o.op= .call {callee:= .builtin .clear,args:= #[p],argTypes:= #[T]})(hd:o.dst=none)(hT:(C.P.underlying T).isSome=true)(hp:Val C S p (Zb (.map (some b))))(hr:S.r i=Z2g b k m):
  OpE C o S (S.setr i (Z2g b k [])):=
 OpE.value (by simp [ho]) fun O a w hh=>by
  have h1:a.eval p= .map (some b):=hp.of hh
  have h5:=hh.res i
  rw [hr] at h5
  obtain ⟨hm,es,clock,ha⟩:=h5
  obtain ⟨u,hu⟩:=Option.isSome_iff_exists.1 hT
  refine ⟨.tuple #[],Z2q w b (.map #[] clock),?_,?_⟩
  ·simp [execOp,ho,h1,resolve,invoke,builtin,Builtin.clear_,run_underlying hu,getObj,setObj,Sem.run,ha.1,Result.andThen,Z2q]
  rw [hd]
  have hlt:b<w.heap.size:=(Array.getElem?_eq_some_iff.1 ha.1).1
  exact Zp1 (dst:=none) (A:=top) (v:= .tuple #[]) hh hm (fun _ h=>by cases h) trivial ⟨hm,#[],clock,Zr7 hlt,trivial,fun _ h=>by simp at h,List.nodup_nil,List.nodup_nil⟩
end maps
end Go.Wb
namespace Go.Wb
open Go
section frz
variable {C : Ctx} {S : St} {α : Type}
theorem Hold.freezesB {a:Act}{w:World}{ts:List Nat}{i g:Nat}{T:TypeId}{k:Kd α}{x:α}(hX:C.X=Ze)(hs:Zct S (Zc g (Lens.id k)) ts)(hr:S.r i=Zh g T k x)(hh:Hold C S a w):Hold C ((S.setL ts (rp k x)).setr i emp) a w:=by
 obtain ⟨O,hh⟩:=hh
 have h3:=hh.res i
 rw [hr] at h3
 obtain ⟨hm,cs,hg,hc⟩:=h3
 let O':Nat→Nat:=fun b=>if O b=Ro i then 0 else O b
 have hO:∀b,O' b≠0→O b≠0∧O' b=O b:=fun b h=>by
  by_cases e:O b=Ro i
  ·exact absurd (if_pos e) h
  ·exact ⟨fun e0=>h (by simp only [O'];rw [if_neg e,e0]),if_neg e⟩
 have hext:Ext w (hid C O) Ze w (hid C O') Ze:=⟨Nat.le_refl _,fun b _ hn=>⟨fun h=>hn (h.imp id fun h=>(hO b h).1),rfl⟩,fun _ _ h=>h.elim⟩
 have go:Goes C (fun q=>q=Ro i) O w O' w:=⟨rfl,rfl,rfl,Nat.le_refl _,fun b hb hq=>⟨if_neg hq,rfl⟩,fun b h=> .inl (hO b h).1,fun b h=>(hh.own b (hO b h).1).2,fun h=>Z0b i h.symm⟩
 have hOg:O g=Ro i:=hm
 refine ⟨O',hh.goes go rfl rfl rfl (fun s=>?_) (fun j=>?_)⟩
 ·rcases Zsg (A:=rp k x) ts S.s s with ⟨h1,h2⟩ | ⟨h1,h2⟩
  ·right
   simp only [St.setL,St.setr]
   rw [h2]
   have h5:a.tmps.getD s undef= .pointer (some ⟨g,0,none⟩):=by
    have:=hh.slot s
    rw [Zwg hs s h1] at this
    exact Z83 this
   rw [h5]
   refine ⟨g,0,cs,rfl,(hh.own g (by rw [hOg];exact Z0b i)).2,?_,k.mono hext hc,fun j u hu=>by simp [World.cell?,hg,hu]⟩
   rintro (h | h)
   ·have h6:=(hh.own g (by rw [hOg];exact Z0b i)).1
    rw [hX] at h6
    have h7:=hh.h0 g h
    rcases h6 with h6 | h6
    ·omega
    ·exact h6
   ·exact h (if_pos hOg)
  ·exact .inl ⟨by simp only [St.setL,St.setr];exact h2,Z1e s i,rfl⟩
 ·by_cases e:j=i
  ·subst e
   right
   simp only [St.setr,Zz]
   trivial
  ·exact .inl ⟨by simp only [St.setr];rw [Zy _ _ e];rfl,fun h=>e (Z1z h)⟩
theorem AW.freezesB {Q:Exit→St→Prop}{c:Code}(ts:List Nat)(i:Nat){g:Nat}{T:TypeId}{k:Kd α}{x:α}(hX:C.X=Ze)(hs:Zct S (Zc g (Lens.id k)) ts)(hr:S.r i=Zh g T k x)(h:AW C c Q ((S.setL ts (rp k x)).setr i emp)):AW C c Q S:=
 fun a w hh=>h a w (hh.freezesB hX hs hr)
theorem AOps.freezesB {ops:Array Oper}{Q:Exit→St→Prop}{c:List Oper}(ts:List Nat)(i:Nat){g:Nat}{T:TypeId}{k:Kd α}{x:α}(hX:C.X=Ze)(hs:Zct S (Zc g (Lens.id k)) ts)(hr:S.r i=Zh g T k x)(h:AOps C ops Q c ((S.setL ts (rp k x)).setr i emp)):AOps C ops Q c S:=
 fun a w hh=>h a w (hh.freezesB hX hs hr)
variable {o : Oper}
theorem Yht {T E:TypeId}{n:Nat}{k:Kd α}{x:Vector α n}{s:List α}{lo:Int}{p q:Operand}{jk:IntKind}(h:Z5z x.toList lo=some s)(ho:o.op= .slice T p (some q) none none)(hd:Zl o C.N=true)(ht:Ar C.P T E n k)(hn:Nat.ble n 16777216=true)(hp:Val C S p (rp (Z3 n k) x))(hq:Val C S q (rd (Z0 jk) lo)):
  OpE C o S (S.put o.dst (rd (Z1 k) s)):=
 OpE.plain (by simp [ho]) hd fun O a w hh=>by
  obtain ⟨h0,h1,rfl⟩:=Zkk h
  obtain ⟨b,off,cs,h2,hb,hv,hc,hat⟩:=hp.of hh
  have h3:=(Z0u (hq.of hh)).1
  obtain ⟨hu,ti,hti,hs⟩:=ht.out
  have hc':Cells k w (hid C O) x.toList cs:=hc
  have hl:x.toList.length=n:=by simp
  rw [hl] at h1
  have hn':=Nat.le_of_ble_eq_true hn
  have hbd:(Instr.sliceBounds false n n (some (.int jk lo)) none none).run C.P w= .ok (lo.toNat,n,n) w:=by
   simp [Instr.sliceBounds,run_sliceBound _ _ _ _ _ h0 (show lo≤(n:Int) by omega)]
  refine ⟨.slice (some (if n=lo.toNat then ⟨b,off,none⟩ else (⟨b,off,none⟩:Addr).add (lo.toNat*k.sz))) (n - lo.toNat) (n - lo.toNat),?_,Z6c ⟨_,_,by rw [List.length_drop,hl],by rw [List.length_drop,hl];exact Nat.le_refl _,by omega,fun hlt=>?_⟩⟩
  ·simp [execOp,ho,h2,h3,Instr.sliceAt,run_underlying hu,Instr.sureAddr,hbd,sizeOf,typeInfo,hti,hs]
  ·rw [List.length_drop,hl] at hlt
   rw [if_neg (by omega),Z3r]
   exact ⟨b,_,_,rfl,hb,hv,hc'.drop lo.toNat (by omega),by
    have:=hat.sub (lo.toNat*k.sz) ((x.toList.drop lo.toNat).length*k.sz)
    rwa [List.take_of_length_le] at this
    have:=(hc'.drop lo.toNat (by omega)).len
    omega⟩
end frz
section maps
variable {κ : Type} [DecidableEq κ] {C : Ctx} {S : St} {o : Oper}
theorem Ykj {P:Program}{T kt:TypeId}{k:Kd κ}(ht:MTy P T kt k){w:World}{H:HS}{b:Nat}{m:List (κ×Int)}{es:Array MapEntry}{clock:Nat}(ha:MapAt k w H b m es clock){x:κ}{cs:List Value}(hc:k.C w H x cs){v:Int}(hv:IntKind.i64.has v):
  ∃(es':Array MapEntry) (clock':Nat),(Instr.mapUpdate T (.map (some b)) (mkv k.agg cs) (.int .i64 v)).run P w= .ok () (Z2q w b (.map es' clock'))∧EntC k w H (Z1x m x v) es'.toList∧(∀e∈es'.toList,e.born<clock')∧(es'.toList.map (·.born)).Nodup:=by
 obtain ⟨e,hu,hz⟩:=ht.u
 obtain ⟨l,hl⟩:=ht.key.reads hc
 have hck:=ht.key.law.check w false hl
 rcases Zxm ht.key ha.2.1 hc with ⟨h1,h2⟩ | ⟨j,en,u,h1,h2,h3,h4,h5,h6⟩
 ·refine ⟨es.push {key:=mkv k.agg cs,val:= .int .i64 v,born:=clock},clock+1,?_,?_,?_,?_⟩
  ·simp [Instr.mapUpdate,run_underlying hu,getObj,setObj,Sem.run,ha.1,hck,h1,Result.andThen,Z2q]
  ·rw [Zvn h2,Array.toList_push]
   exact ha.2.1.push hc hv rfl rfl
  ·intro e he
   rw [Array.toList_push,List.mem_append] at he
   rcases he with he | he
   ·exact Nat.lt_succ_of_lt (ha.2.2.1 e he)
   ·rw [List.mem_singleton.1 he];exact Nat.lt_succ_self _
  ·rw [Array.toList_push,List.map_append,List.nodup_append]
   refine ⟨ha.2.2.2.1,by simp,?_⟩
   intro a h7 c h8 e
   obtain ⟨e',he',rfl⟩:=List.mem_map.1 h7
   have:=ha.2.2.1 e' he'
   simp at h8
   omega
 ·have hst:=ht.key.law.stays w hl
  have hj:es[j]? =some en:=by rw [←Array.getElem?_toList];exact h2
  have e2:(es.modify j fun e=>{e with key:=mkv k.agg cs,val:= .int .i64 v}).toList=es.toList.set j {en with key:=mkv k.agg cs,val:= .int .i64 v}:=by
   rw [Array.toList_modify];exact Zvh h2
  refine ⟨es.modify j fun e=>{e with key:=mkv k.agg cs,val:= .int .i64 v},clock,?_,?_,?_,?_⟩
  ·simp [Instr.mapUpdate,run_underlying hu,getObj,setObj,Sem.run,ha.1,hck,h1,hj,h4,hst,Result.andThen,Z2q]
  ·rw [e2,Zq0 ha.2.2.2.2 h3]
   exact EntC.set hc hv ha.2.1 rfl rfl
  ·intro e' he'
   rw [e2] at he'
   rcases List.mem_or_eq_of_mem_set he' with h | h
   ·exact ha.2.2.1 e' h
   ·rw [h];exact ha.2.2.1 en (List.mem_of_getElem? h2)
  ·have e3:(es.modify j fun e=>{e with key:=mkv k.agg cs,val:= .int .i64 v}).toList.map (·.born)=es.toList.map (·.born):=by
    rw [e2,List.map_set]
    exact Zrg (by simp [h2])
   rw [e3];exact ha.2.2.2.1
theorem Y5d {T kt:TypeId}{k:Kd κ}{m:List (κ×Int)}{x:κ}{v:Int}{b i:Nat}{p q r:Operand}(ho:o.op= .mapUpdate T p q r)(hd:o.dst=none)(ht:MTy C.P T kt k)(hp:Val C S p (Zb (.map (some b))))(hr:S.r i=Z2g b k m)(hq:Val C S q (rd k x))(hv:Val C S r (rd (Z0 .i64) v)):
  OpE C o S (S.setr i (Z2g b k (Z1x m x v))):=
 OpE.skip (by simp [ho]) fun O a w hh=>by
  have h1:a.eval p= .map (some b):=hp.of hh
  obtain ⟨cs,hc,hq'⟩:=hq.of hh
  obtain ⟨h3,h4⟩:=Z0u (hv.of hh)
  have h5:=hh.res i
  rw [hr] at h5
  obtain ⟨hm,es,clock,ha⟩:=h5
  obtain ⟨es',clock',h6,h7,h8,h9⟩:=Ykj ht ha hc h4
  refine ⟨Z2q w b (.map es' clock'),by simp [execOp,ho,h1,hq',h3,h6,Result.andThen],?_⟩
  rw [hd]
  have hlt:b<w.heap.size:=(Array.getElem?_eq_some_iff.1 ha.1).1
  have hext:Ext w (hid C O) Ze (Z2q w b (.map es' clock')) (hid C O) Ze:=⟨by simp [Z2q],fun c hc hn=>⟨hn,Zjf (fun e=>hn (.inr (by rw [e];have hm':O b=Ro i:=hm;rw [hm'];exact Z0b i)))⟩,fun _ _ h=>h.elim⟩
  exact Zp1 (dst:=none) (A:=top) (v:=undef) hh hm (fun _ h=>by cases h) trivial ⟨hm,es',clock',Zr7 hlt,h7.mono hext,h8,h9,Zxu ha.2.2.2.2 _ _⟩
end maps
end Go.Wb
namespace Go.Wb
open Go
def Zvv {α:Type}(l m:List α):Option (List α):=match m with
 | []=>none
 | _::_=>Z0v l m
theorem Ypc {α:Type}{l m r:List α}(h:Zvv l m=some r):Z0v l m=some r∧m≠[]:=by
 cases m with
 | nil=>cases h
 | cons x m=>exact ⟨h,by simp⟩
section app
variable {C : Ctx} {S : St} {o : Oper} {α : Type} {k : Kd α} {l m r : List α} {T E : TypeId} {p q : Operand}
theorem Yne (i:Nat)(h:Zvv l m=some r)(ho:o.op= .call {callee:= .builtin .append,args:= #[p,q],argTypes:= #[T,T]})(hd:Zl o C.N=true)(he:El C.P T E k)(hp:Val C S p (fsl k l))(hq:Val C S q (rd (Z1 k) m)):OpT C o S (fun S'=> ∃v,S'=(S.put o.dst (Zb v)).setr i (Zf v E k r)):=
 OpT.value (by simp [ho]) fun O a w hh=>by
  obtain ⟨h,hne⟩:=Ypc h
  obtain ⟨hl,rfl⟩:=Z7c h
  obtain ⟨hs,A,h1⟩:=hp.of hh
  have h2:=Z6i (hq.of hh)
  generalize hep:a.eval p=vp at*
  generalize heq:a.eval q=vq at*
  have hrun:∀v' w',(Builtin.append_ #[T,T] o.type #[vp,vq]).run C.P w= .ok v' w'→(execOp a.eval o).run C.P w= .ok (.value v') w':=fun v' w' h=>by
   simp only [execOp,ho,resolve,invoke,builtin,Sem.run_bind,Sem.run_pure,Result.andThen_ok,List.map_toArray,List.map_cons,List.map_nil,hep,heq,h]
  have hpos':=List.length_pos_iff.2 hne
  obtain ⟨A',c',he',hlc,hc63,hcells⟩:=hs
  obtain ⟨i',hi,hsz⟩:=Option.map_eq_some_iff.1 he.sz
  cases A with
  | none=>
   have h0:l=[]:=by
    cases l with
    | nil=>rfl
    | cons x l=>
     obtain ⟨b,off,cl,e,_⟩:=hcells (by simp)
     rw [h1] at he'
     cases he';cases e
   subst h0
   subst h1
   obtain ⟨v',w',ml,h4,h5,h6,h7,h8,h9⟩:=Zqh (l:=([]:List α)) (ty:=o.type) he (World.ownsRow_nil w 0 E k.sz) h2 hl
   have t:Turns O i w (.slice none 0 0) v' w':=Zs4 h8 (h9.symm.imp id fun e=>e) (fun b hb=>(h5.lt b hb).2)
   have hc:=(h6 hpos').mono (t.ext (C:=C))
   exact ⟨v',w',_,hrun _ _ h4,⟨_,rfl⟩,Z77 hh t hd v' rfl (cl:=ml) (by simpa using h5) (by simpa using hc)⟩
  | some A=>
   subst h1
   cases he'
   obtain ⟨cl,hcl,hat⟩:∃cl,Cells k w (hid C O) l cl∧∀j u,cl[j]? =some u→w.cell? (A.add j)=some u:=by
    cases l with
    | nil=>exact ⟨[],rfl,by simp⟩
    | cons x l=>
     obtain ⟨b,off,cl,e,_,_,hc,hat⟩:=hcells (by simp)
     cases e
     exact ⟨cl,hc,fun j u hu=>by rw [Z3r];exact hat j u hu⟩
   obtain ⟨B,c,h3,hmc,hm63,hcells'⟩:=h2
   subst h3
   obtain ⟨b,off,ml,e,hb,hn,hc,hat'⟩:=hcells' (by omega)
   cases e
   obtain ⟨i'',hi',hby⟩:=Option.map_eq_some_iff.1 he.by_
   obtain rfl:i'=i'':=by rw [hi] at hi';exact Option.some.inj hi'
   obtain ⟨i'',hi',hz⟩:=Option.map_eq_some_iff.1 he.zr
   obtain rfl:i'=i'':=by rw [hi] at hi';exact Option.some.inj hi'
   obtain ⟨z,hz1,hz2⟩:=Option.map_eq_some_iff.1 hz
   have hby':i'.bytes≤32768:=Nat.le_of_ble_eq_true hby
   have hpos:0<k.sz:=by have:=he.pos;simpa using this
   have hlim:lim=4294967296:=rfl
   obtain ⟨v',w',r1,r2,r3⟩:=run_append_arg_grows (P:=C.P) w T o.type E i' z k.sz i'.bytes he.u hi hz1 hsz rfl hz2 hpos A l.length l.length cl hcl.len hat ⟨b,off,none⟩ m.length c ml hc.len (fun j u hu=>by rw [Z3r];exact hat' j u hu) (by omega) (by simp only [maxLen];omega)
    (Nat.le_trans (Nat.mul_le_mul hl hby') (by decide))
   have hbb:(l.length+m.length)*i'.bytes≤140737488355328:=Nat.le_trans (Nat.mul_le_mul hl hby') (by decide)
   have r0:=run_append_grow (P:=C.P) w T o.type E i' z he.u hi hz1 A l.length l.length cl (by rw [hsz];exact hcl.len) hat ⟨b,off,none⟩ m.length c ml (by rw [hsz];exact hc.len) (fun j u hu=>by rw [Z3r];exact hat' j u hu) (by omega) (by omega) (growslice_fits (by omega) hbb)
   have hv:v'.ownBlock=some w.heap.size∨v'.ownBlock=none:=by
    rw [r0] at r1
    injection r1 with e1 e2
    rw [←e1]
    exact .inl rfl
   have t:Turns O i w (.slice none 0 0) v' w':=Zs4 r3 hv (fun b hb=>(r2.lt b hb).2)
   exact ⟨v',w',_,hrun _ _ r1,⟨_,rfl⟩,Z77 hh t hd v' rfl (cl:=cl++ml) (by rw [List.length_append];exact Y2j r2) ((hcl.append hc).mono (t.ext (C:=C)))⟩
theorem Yfe {P:Program}{w:World}{H:HS}{T I E ty:TypeId}{k:Kd α}{z:α}{l:List α}{v:Value}{cl:List Value}{ik jk:IntKind}{n:Nat}(he:El P T E k)(hz:Zr P E k z)(hI:P.underlying I=some (.int ik))(ho:w.ownsRow 0 E k.sz v l.length cl)(hl:l.length+n≤lim):
  ∃v' w' ml,(Builtin.append_ #[T,I] ty #[v,.int jk n]).run P w= .ok v' w'∧w'.ownsRow 0 E k.sz v' (l.length+n) (cl++ml)∧Cells k w H (List.replicate n z) ml∧w.grownBy w' v.ownBlock∧(v'.ownBlock=v.ownBlock∨v'.ownBlock=some w.heap.size):=by
 obtain ⟨i,hi,hs⟩:=Option.map_eq_some_iff.1 he.sz
 obtain ⟨i',hi',hby⟩:=Option.map_eq_some_iff.1 he.by_
 obtain rfl:i=i':=by rw [hi] at hi';exact Option.some.inj hi'
 obtain ⟨i',zv,hi',hzv,hzc⟩:=hz.out
 obtain rfl:i=i':=by rw [hi] at hi';exact Option.some.inj hi'
 have hby':i.bytes≤32768:=Nat.le_of_ble_eq_true hby
 have hpos:0<k.sz:=by have:=he.pos;simpa using this
 have hlim:lim=4294967296:=rfl
 have hzs:zv.cells.size=k.sz:=by simpa using k.len (hzc w H)
 have hzl:(Builtin.zeroCells zv.cells n).toList.length=n*k.sz:=by simp [Builtin.zeroCells,hzs]
 have hcells:Cells k w H (List.replicate n z) (Builtin.zeroCells zv.cells n).toList:=by
  rw [show (Builtin.zeroCells zv.cells n).toList=(List.replicate n zv.cells.toList).flatten from Zqy _ (by omega) _]
  clear hzl hl
  induction n with
  | zero=>rfl
  | succ n ih=>rw [List.replicate_succ,List.replicate_succ,List.flatten_cons];exact ⟨_,_,rfl,hzc w H,ih⟩
 have hw:IntKind.i64.wrap (n:Int)=n:=by
  simp only [IntKind.wrap,IntKind.signed,IntKind.bits]
  have:(n:Int) % 18446744073709551616=n:=Int.emod_eq_of_lt (by omega) (by omega)
  simp [this];omega
 have h0:¬((n:Int)<0):=by omega
 have hb48:n*i.bytes≤4294967296*32768:=Nat.mul_le_mul (by omega) hby'
 have hb:¬((281474976710656:Int)<(n:Int)*(i.bytes:Int)):=by
  have:((n*i.bytes:Nat):Int)=(n:Int)*(i.bytes:Int):=by simp
  omega
 have hz0:∀w':World,(if n*i.size=0 then (pure #[]:Sem (Array Value)) else do pure (Builtin.zeroCells (←zeroValue E).cells n)).run P w'= .ok (Builtin.zeroCells zv.cells n) w':=fun w'=>by
  by_cases e:n*i.size=0
  ·have hn:n=0:=by
    rcases Nat.mul_eq_zero.1 e with h | h
    ·exact h
    ·omega
   subst hn
   simp [Builtin.zeroCells]
  ·rw [if_neg e]
   simp [zeroValue,typeInfo,hi,hzv]
 have hlenN:(cl++(Builtin.zeroCells zv.cells n).toList).length=(l.length+n)*k.sz:=by rw [List.length_append,ho.1,hzl,Nat.add_mul]
 have hszk:i.size=k.sz:=hs
 have hbb:(l.length+n)*i.bytes≤140737488355328:=Nat.le_trans (Nat.mul_le_mul hl hby') (by decide)
 have grown:∀(old:Nat),old<l.length+n→∀(row:Option Nat),
   (w.drew.alloc (.cells (cl.toArray++(Builtin.zeroCells zv.cells n)++Builtin.zeroCells zv.cells (grownCap w (l.length+n) old E - (l.length+n))) E)).ownsRow 0 E k.sz
    (.slice (some ⟨w.heap.size,0,none⟩) (l.length+n) (grownCap w (l.length+n) old E)) (l.length+n) (cl++(Builtin.zeroCells zv.cells n).toList)∧
   w.grownBy (w.drew.alloc (.cells (cl.toArray++(Builtin.zeroCells zv.cells n)++Builtin.zeroCells zv.cells (grownCap w (l.length+n) old E - (l.length+n))) E)) row:=by
  intro old hold row
  have hge:=grownCap_ge w (l.length+n) old E
  have hcm:grownCap w (l.length+n) old E≤maxLen:=grownCap_le_maxLen w (l.length+n) old E (by simp only [maxLen];omega)
  refine ⟨⟨hlenN,.inr ⟨w.heap.size,_,_,rfl,Nat.zero_le _,heap_alloc_new w.drew _,hge,hcm,?_,?_⟩⟩,⟨rfl,rfl,rfl,by simp,fun k hk _=>heap_alloc_old w.drew _ k hk⟩⟩
  ·simp only [Array.size_append,List.size_toArray,size_zeroCells,hzs,ho.1,←Nat.add_mul]
   congr 1
   omega
  ·simp only [Array.toList_append,List.append_assoc]
   rw [←List.append_assoc,←hlenN]
   exact List.take_left
 have hf48:∀old,old<l.length+n→¬(281474976710656<Builtin.nextslicecap (l.length+n) old*i.bytes):=fun old h=>by
  have:=growslice_fits (need:=l.length+n) (old:=old) (bytes:=i.bytes) (by omega) hbb
  omega
 rcases ho.2 with ⟨rfl,hl0⟩ | ⟨g,cap,cur,rfl,hbg,hg,hnc,hcm,hcs,htake⟩
 ·have hx:cl=[]:=List.eq_nil_of_length_eq_zero (by rw [ho.1,hl0];simp)
  subst hx
  by_cases hn0:n=0
  ·subst hn0
   refine ⟨.slice none 0 0,w,_,?_,?_,hcells,⟨rfl,rfl,rfl,Nat.le_refl _,fun _ _ _=>rfl⟩,.inl rfl⟩
   ·simp [Builtin.append_,run_underlying he.u,run_underlying hI,sizeOf,typeInfo,hi,asInt,asIntOf,IntKind.wrap,IntKind.signed,IntKind.bits]
   ·rw [hl0];exact ⟨by simpa [hl0] using hlenN,.inl ⟨rfl,rfl⟩⟩
  ·have hgr:=grown 0 (by omega) (Value.ownBlock (.slice none 0 0))
   refine ⟨_,_,_,?_,hgr.1,hcells,hgr.2,.inr rfl⟩
   have h1:=hf48 0 (by omega)
   rw [hl0] at h1 ⊢
   have hn':¬(0+n≤0):=by omega
   have h63:¬((9223372036854775807:Int)<(0+n:Nat)):=by omega
   have hz1:=hz0 w.drew
   simp only [Nat.zero_add] at h1 hn' h63 ⊢
   simp [Builtin.append_,run_underlying he.u,run_underlying hI,sizeOf,typeInfo,zeroValue,hi,hzv,asInt,asIntOf,hw,h0,hb,hn0,h1,h63,Question.forced,Builtin.firstCells,newRow,grownCap]
   intro e
   rcases Nat.mul_eq_zero.1 e with h | h<;>omega
 ·by_cases hroom:l.length+n≤cap
  ·have hfit:l.length*k.sz+(Builtin.zeroCells zv.cells n).toList.length≤cur.size:=by rw [hzl,hcs,←Nat.add_mul];exact Nat.mul_le_mul_right _ hroom
   have hst:=run_storeCells_at P g (l.length*k.sz) E (Builtin.zeroCells zv.cells n).toList 0 cur w hg (by simpa using hfit) hcells.one
   simp only [Nat.add_zero] at hst
   refine ⟨.slice (some ⟨g,0,none⟩) (l.length+n) cap,w.setRow g (cur.toList.take (l.length*k.sz)++(Builtin.zeroCells zv.cells n).toList++cur.toList.drop (l.length*k.sz+(Builtin.zeroCells zv.cells n).toList.length)).toArray,_,?_,⟨hlenN,.inr ⟨g,cap,_,rfl,hbg,setRow_heap w g cur _ E _ hg,hroom,hcm,?_,?_⟩⟩,hcells,⟨rfl,rfl,rfl,by simp,fun k _ hk=>setRow_other w g k _ (fun e=>hk (by simp [Value.ownBlock,e]))⟩,.inl rfl⟩
   ·have hz1:=hz0 w
    by_cases e:n*i.size=0
    ·have hn:n=0:=by
      rcases Nat.mul_eq_zero.1 e with h | h
      ·exact h
      ·omega
     subst hn
     rw [show Builtin.zeroCells zv.cells 0= #[] by simp [Builtin.zeroCells]] at hst ⊢
     simp [Builtin.append_,run_underlying he.u,run_underlying hI,sizeOf,typeInfo,zeroValue,hi,hzv,asInt,asIntOf,IntKind.wrap,IntKind.signed,IntKind.bits,hnc,hszk,storeCells] at hst ⊢
     exact (setRow_self _ _ _ _ _ hg).symm
    ·simp [Builtin.append_,run_underlying he.u,run_underlying hI,sizeOf,typeInfo,zeroValue,hi,hzv,asInt,asIntOf,hw,h0,hb,hroom,e,Addr.add_lit,hszk,hst]
     intro e'
     rw [hszk] at e
     exact absurd e' e
   ·have hz2:(Builtin.zeroCells zv.cells n).size=n*k.sz:=by simpa using hzl
    have hz3:l.length*k.sz+n*k.sz≤cur.size:=by rw [←hz2];simpa using hfit
    simp only [List.size_toArray,List.length_append,List.length_take,List.length_drop,Array.length_toList,hz2]
    omega
   ·rw [htake,←hlenN]
    exact List.take_left
  ·have hgr:=grown cap (by omega) (Value.ownBlock (.slice (some ⟨g,0,none⟩) l.length cap))
   have holds:∀j u,cl[j]? =some u→w.cell? ((⟨g,0,none⟩:Addr).add j)=some u:=ho.cells (g:=g) rfl
   have hfo:=run_firstCells_some (P:=P) w.drew k.sz l.length ⟨g,0,none⟩ l.length cap cl ho.1 (by simpa using holds)
   refine ⟨_,_,_,?_,hgr.1,hcells,hgr.2,.inr rfl⟩
   have h1:=hf48 cap (by omega)
   have h63:¬((9223372036854775807:Int)<(l.length:Int)+(n:Int)):=by omega
   have e:¬(n*i.size=0):=fun e=>by rcases Nat.mul_eq_zero.1 e with h | h<;>omega
   rw [hszk] at e
   have e2:¬(n=0):=by omega
   have e3:¬(k.sz=0):=by omega
   simp [Builtin.append_,run_underlying he.u,run_underlying hI,sizeOf,typeInfo,zeroValue,hi,hzv,asInt,asIntOf,hw,h0,hb,hroom,e,e2,e3,h1,h63,Question.forced,hszk,hfo,newRow,grownCap]
def Zrz {α:Type}(z:α)(l:List α)(n:Int):Option (List α):=bif decide (0≤n)&&Nat.ble (l.length+n.toNat) lim then some (l++List.replicate n.toNat z) else none
theorem Yje {α:Type}{z:α}{l r:List α}{n:Int}(h:Zrz z l n=some r):∃m:Nat,n=(m:Int)∧l.length+m≤lim∧r=l++List.replicate m z:=by
 unfold Zrz at h
 cases hc:(decide (0≤n)&&Nat.ble (l.length+n.toNat) lim) with
 | false=>rw [hc] at h;cases h
 | true=>
  rw [hc] at h
  obtain ⟨h1,h2⟩:=Bool.and_eq_true_iff.1 hc
  have h1:=of_decide_eq_true h1
  exact ⟨n.toNat,by omega,Nat.le_of_ble_eq_true h2,(Option.some.inj h).symm⟩
theorem Yhq {I:TypeId}{z:α}{v:Value}{n:Int}{ik jk:IntKind}(i:Nat)(h:Zrz z l n=some r)(ho:o.op= .call {callee:= .builtin .append,args:= #[p,q],argTypes:= #[T,I]})(hd:Zl o C.N=true)(he:El C.P T E k)(hz:Zr C.P E k z)(hI:C.P.underlying I=some (.int ik))(hp:Val C S p (Zb v))(hr:S.r i=Zf v E k l)(hq:Val C S q (rd (Z0 jk) n)):
  OpT C o S (fun S'=> ∃v',S'=(S.put o.dst (Zb v')).setr i (Zf v' E k r)):=
 OpT.value (by simp [ho]) fun O a w hh=>by
  obtain ⟨m,rfl,hl,rfl⟩:=Yje h
  have h1:=Z5m (hp.of hh)
  have h2:=(Z0u (hq.of hh)).1
  have h3:=hh.res i
  rw [hr] at h3
  obtain ⟨cl,hown,hc,hm⟩:=h3
  obtain ⟨v',w',ml,h4,h5,h6,h7,h8⟩:=Yfe (H:=hid C O) (ty:=o.type) (jk:=jk) he hz hI hown hl
  have t:Turns O i w v v' w':=⟨h7,hm,h8,fun b hb=>(h5.lt b hb).2⟩
  refine ⟨v',w',_,?_,⟨v',rfl⟩,Z77 hh t hd v' rfl (cl:=cl++ml) (by rw [List.length_append,List.length_replicate];exact h5) ((hc.mono (t.ext (C:=C))).append (h6.mono t.ext))⟩
  simp only [execOp,ho,resolve,invoke,builtin,Sem.run_bind,Sem.run_pure,Result.andThen_ok,List.map_toArray,List.map_cons,List.map_nil,h1,h2,h4]
end app
end Go.Wb
namespace Go.Wb
open Go
def cpy {α:Type}(l:List α)(lo:Nat)(m:List α):List α:=l.take lo++(m.take (l.length - lo)++l.drop (lo+Nat.min m.length (l.length - lo)))
theorem Ypj {α:Type}(l:List α)(lo:Nat)(m:List α)(h:lo≤l.length):(cpy l lo m).length=l.length:=by
 unfold cpy
 simp only [List.length_append,List.length_take,List.length_drop]
 have e:Nat.min m.length (l.length - lo)=min m.length (l.length - lo):=rfl
 omega
theorem Yi3 {α:Type}(l:List α)(lo:Nat)(m:List α)(h:lo≤l.length)(h0:Nat.min m.length (l.length - lo)=0):cpy l lo m=l:=by
 unfold cpy
 rw [h0]
 have:m.take (l.length - lo)=[]:=List.eq_nil_of_length_eq_zero (by rw [List.length_take];have e:Nat.min m.length (l.length - lo)=min m.length (l.length - lo):=rfl;omega)
 rw [this];simp
section copy
variable {C : Ctx} {S : St} {o : Oper} {α : Type} {k : Kd α} {l m : List α} {T T' E : TypeId} {p q : Operand}
theorem Yip {v:Value}{lo:Nat}(i:Nat)(ho:o.op= .call {callee:= .builtin .copy,args:= #[p,q],argTypes:= #[T,T']})(hd:Zl o C.N=true)(ht:Sl C.P T E k)(hs1:k.sz=1)(hp:Val C S p (Zro v lo k.sz))(hr:S.r i=Zf v E k l)(hlo:lo≤l.length)(hq:Val C S q (rd (Z1 k) m)):
  OpE C o S ((S.put o.dst (rd (Z0 .i64) ((Nat.min m.length (l.length - lo):Nat):Int))).setr i (Zf v E k (cpy l lo m))):=
 OpE.value (by simp [ho]) fun O a w hh=>by
  have h4:=hh.res i
  rw [hr] at h4
  obtain ⟨cl,hown,hc,hm⟩:=h4
  obtain ⟨hu,ti,hti,hs⟩:=ht.out
  obtain ⟨A2,c2,h2,hlc2,hc63,hcells⟩:=Z6i (hq.of hh)
  have hsz:(C.P.info? E).map (·.size)=some 1:=by rw [hti,←hs1,←hs];rfl
  have h63:l.length≤9223372036854775807:=by
   rcases hown.2 with ⟨_,h0⟩ | ⟨g',cap,cur,e,hb,hg,hnc,hcm,_⟩
   ·omega
   ·simp only [maxLen] at hcm;omega
  have hmin:Nat.min m.length (l.length - lo)≤l.length:=Nat.le_trans (Nat.min_le_right _ _) (Nat.sub_le _ _)
  have hA:∀w' H,(rd (Z0 .i64) ((Nat.min m.length (l.length - lo):Nat):Int)).R w' H Ze (goInt (Nat.min m.length (l.length - lo))):=fun w' H=>Z3k (show IntKind.i64.has _ from ⟨by first | (simp [IntKind.min,IntKind.signed,IntKind.bits];done) | (simp [IntKind.min,IntKind.signed,IntKind.bits];omega),by first | (simp [IntKind.max,IntKind.signed,IntKind.bits];done) | (simp [IntKind.max,IntKind.signed,IntKind.bits];omega)⟩)
  obtain ⟨A,dl,dc,h1,hdl,hAg⟩:∃A dl dc,a.eval p= .slice A dl dc∧dl=l.length - lo∧(0<l.length - lo→∃g c,v= .slice (some ⟨g,0,none⟩) l.length c∧A=some ⟨g,lo*k.sz,none⟩):=by
   rcases hp.of hh with ⟨g,n,c,rfl,A,h1,hA⟩ | ⟨rfl,A,c,h1⟩
   ·rcases hown.2 with ⟨e,h0⟩ | ⟨g',cap,cur,e,hb,hg,hnc,hcm,hcs,htk⟩
    ·cases e
    have en:n=l.length:=by injection e
    subst en
    exact ⟨A,_,_,h1,rfl,fun h=>⟨g,c,rfl,hA (by omega)⟩⟩
   ·have hl0:l.length=0:=by
     rcases hown.2 with ⟨e,h0⟩ | ⟨g',cap,cur,e,_⟩
     ·exact h0
     ·cases e
    exact ⟨A,0,c,h1,by omega,fun h=>by omega⟩
  subst hdl
  have hex:∀v' w',(Builtin.copy_ #[T,T'] o.type #[.slice A (l.length - lo) dc,.slice A2 m.length c2]).run C.P w= .ok v' w'→(execOp a.eval o).run C.P w= .ok (.value v') w':=fun v' w' h=>by
   simp only [execOp,ho,resolve,invoke,builtin,Sem.run_bind,Sem.run_pure,Result.andThen_ok,List.map_toArray,List.map_cons,List.map_nil,h1,h2,h]
  by_cases hn:Nat.min m.length (l.length - lo)=0
  ·have hrun:=run_copy_none (P:=C.P) w T T' o.type E A A2 (l.length - lo) dc m.length c2 hu hsz hn
   refine ⟨_,w,hex _ _ hrun,?_⟩
   rw [Yi3 l lo m hlo hn]
   have t:Turns O i w v v w:=⟨⟨rfl,rfl,rfl,Nat.le_refl _,fun _ _ _=>rfl⟩,hm,.inl rfl,fun b hb=>(hown.lt b hb).2⟩
   have h7:=Z77 (E:=E) (S:=S) (o:=o) (A:=rd (Z0 .i64) ((Nat.min m.length (l.length - lo):Nat):Int)) (l:=l) hh t hd (goInt 0) (by have:=hA w (hid C (Z5w O i v));rw [hn] at this ⊢;exact this) hown (hc.mono t.ext)
   exact h7
  ·have hpos1:0<m.length∧0<l.length - lo:=by
    have e:Nat.min m.length (l.length - lo)=min m.length (l.length - lo):=rfl
    omega
   obtain ⟨g,c,rfl,rfl⟩:=hAg hpos1.2
   obtain ⟨b,off,ml,rfl,hb,hv,hcm,hat⟩:=hcells hpos1.1
   rcases hown.2 with ⟨e,h0⟩ | ⟨g',cap,cur,e,hbg,hg,hnc,hcmx,hcs,htk⟩
   ·cases e
   obtain ⟨rfl,rfl⟩:g=g'∧c=cap:=by
    injection e with e1 e2 e3
    injection e1 with e1
    injection e1 with e1
    exact ⟨e1,e3⟩
   let n:=Nat.min m.length (l.length - lo)
   have hmlen:ml.length=m.length:=by rw [hcm.len,hs1,Nat.mul_one]
   have hnm:n≤m.length:=Nat.min_le_left _ _
   have hcsl:(ml.take n).length=Nat.min m.length (l.length - lo):=by rw [List.length_take,hmlen];exact Nat.min_eq_left hnm
   have hcurs:cur.size=c:=by rw [hcs,hs1,Nat.mul_one]
   have hfit:lo*k.sz+(ml.take n).length≤cur.size:=by
    rw [hcsl,hcurs,hs1]
    have:Nat.min m.length (l.length - lo)≤l.length - lo:=Nat.min_le_right _ _
    omega
   have hone:∀u∈ml.take n,u.oneCell'=true:=fun u hu=>hcm.one u (List.mem_of_mem_take hu)
   have hrun:=run_copy_row (P:=C.P) w T T' o.type E g (lo*k.sz) (l.length - lo) dc ⟨b,off,none⟩ m.length c2 cur E (ml.take n) hu hsz hg hcsl (fun j u hu=>by
    rw [Z3r]
    have hj:(ml.take n)[j]? =some u:=hu
    rw [List.getElem?_take] at hj
    split at hj
    ·exact hat j u hj
    ·cases hj) hfit hone
   rw [hcsl] at hrun
   refine ⟨_,_,hex _ _ hrun,?_⟩
   have t:Turns O i w (.slice (some ⟨g,0,none⟩) l.length c) (.slice (some ⟨g,0,none⟩) l.length c) (w.setRow g (cur.toList.take (lo*k.sz)++ml.take n++cur.toList.drop (lo*k.sz+Nat.min m.length (l.length - lo))).toArray):=
    ⟨⟨rfl,rfl,rfl,by simp,fun b hb hne=>setRow_other w g b _ (fun e=>hne (by simp [Value.ownBlock,e]))⟩,hm,.inl rfl,fun b hb=>by simp [Value.ownBlock] at hb;subst hb;simpa using (Array.getElem?_eq_some_iff.1 hg).1⟩
   have hx:=t.ext (C:=C)
   have hct:Cells k w (hid C O) (m.take n) (ml.take n):=by
    have:=hcm.take n hnm
    rwa [hs1,Nat.mul_one] at this
   have hln:lo+n≤l.length:=by
    have:n≤l.length - lo:=Nat.min_le_right _ _
    omega
   have hnew:Cells k w (hid C O) (cpy l lo m) (cl.take lo++(ml.take n++cl.drop (lo+n))):=by
    unfold cpy
    have e1:m.take (l.length - lo)=m.take n:=by
     by_cases h:m.length≤l.length - lo
     ·rw [List.take_of_length_le h,List.take_of_length_le]
      show m.length≤min m.length (l.length - lo)
      rw [Nat.min_eq_left h];exact Nat.le_refl _
     ·have:n=l.length - lo:=Nat.min_eq_right (by omega)
      rw [this]
    rw [e1]
    have h5:=hc.take lo hlo
    have h6:=hc.drop (lo+n) hln
    rw [hs1,Nat.mul_one] at h5 h6
    exact h5.append (hct.append h6)
   have hcll:cl.length=l.length:=by rw [hc.len,hs1,Nat.mul_one]
   refine Z77 hh t hd (goInt (Nat.min m.length (l.length - lo))) (hA _ _) (cl:=cl.take lo++(ml.take n++cl.drop (lo+n))) ?_ (hnew.mono hx)
   rw [Ypj l lo m hlo]
   have hltk:(ml.take n).length=n:=hcsl
   refine ⟨?_,.inr ⟨g,c,_,rfl,hbg,setRow_heap w g _ _ _ _ hg,hnc,hcmx,?_,?_⟩⟩
   ·simp only [List.length_append,List.length_take,List.length_drop,hmlen,hcll,hs1,Nat.mul_one]
    have:min n m.length=n:=Nat.min_eq_left hnm
    omega
   ·simp only [List.size_toArray,List.length_append,List.length_take,List.length_drop,Array.length_toList,hcurs,hs1,Nat.mul_one,hmlen]
    have:min n m.length=n:=Nat.min_eq_left hnm
    have e:Nat.min m.length (l.length - lo)=n:=rfl
    omega
   ·rw [hs1,Nat.mul_one,Nat.mul_one]
    have htk':cur.toList.take l.length=cl:=by rw [←htk,hs1,Nat.mul_one]
    rw [←htk']
    show (List.take lo cur.toList++ml.take n++List.drop (lo+n) cur.toList).take l.length=_
    have hlc:cur.toList.length=c:=by rw [Array.length_toList,hcurs]
    rw [List.append_assoc,List.take_append,List.take_append,List.length_take,hltk,hlc]
    have e1:min lo c=lo:=Nat.min_eq_left (by omega)
    have e2:n≤l.length - lo:=by omega
    rw [e1,List.take_take,List.take_take,List.take_take,Nat.min_eq_right (show lo≤l.length by omega),Nat.min_eq_left (show lo≤l.length by omega),Nat.min_eq_right e2,List.drop_take]
    congr 3
    omega
end copy
end Go.Wb
namespace Go.Wb
open Go
section ren
variable {C : Ctx} {S : St}
theorem Hold.dropr {a:Act}{w:World}(j:Nat)(hh:Hold C S a w):Hold C (S.setr j emp) a w:=by
 obtain ⟨O,hh⟩:=hh
 exact ⟨O,{hh with
  dfr:=hh.dfr
  slot:=hh.slot
  res:=fun i=>by
   by_cases e:i=j
   ·subst e;simp only [St.setr,Zz];trivial
   ·simp only [St.setr];rw [Zy _ _ e];exact hh.res i}⟩
theorem Hold.renameD {a:Act}{w:World}{i j:Nat}{R:Zu}(hij:i≠j)(hr:S.r i=R)(hh:Hold C S a w):Hold C (((S.setr j emp).setr i emp).setr j R) a w:=
 (hh.dropr j).rename hij (by simp only [St.setr];rw [Zy _ _ hij];exact hr) (by simp only [St.setr,Zz])
theorem AW.renameD {Q:Exit→St→Prop}{x:Code}(i j:Nat){R:Zu}(hij:i≠j)(hr:S.r i=R)(h:AW C x Q (((S.setr j emp).setr i emp).setr j R)):AW C x Q S:=fun a w hh=>h a w (hh.renameD hij hr)
theorem AOps.renameD {ops:Array Oper}{Q:Exit→St→Prop}{x:List Oper}(i j:Nat){R:Zu}(hij:i≠j)(hr:S.r i=R)(h:AOps C ops Q x (((S.setr j emp).setr i emp).setr j R)):AOps C ops Q x S:=fun a w hh=>h a w (hh.renameD hij hr)
theorem AW.dropr {Q:Exit→St→Prop}{x:Code}(j:Nat)(h:AW C x Q (S.setr j emp)):AW C x Q S:=fun a w hh=>h a w (hh.dropr j)
end ren
end Go.Wb
namespace Go.Wb
open Go
def cnt (L:Nat→Bool):Nat→Nat
 | 0=>0
 | n+1=>cnt L n+(if L n=true then 0 else 1)
def Z71 (L:Nat→Bool)(i:Nat):Nat→Bool:=fun j=>bif Nat.beq j i then true else L j
theorem Zkt (L:Nat→Bool)(i:Nat):Z71 L i i=true:=by simp [Z71]
theorem Z5h (L:Nat→Bool){i j:Nat}(h:j≠i):Z71 L i j=L j:=by
 unfold Z71
 have:Nat.beq j i=false:=by
  cases hb:Nat.beq j i with
  | false=>rfl
  | true=>exact absurd (Nat.eq_of_beq_eq_true hb) h
 rw [this];rfl
theorem Y5b (L:Nat→Bool)(i:Nat):∀n,n≤i→cnt (Z71 L i) n=cnt L n
 | 0,_=>rfl
 | n+1,h=>by rw [cnt,cnt,Y5b L i n (by omega),Z5h L (by omega)]
theorem Yb6 (L:Nat→Bool)(i:Nat)(hi:L i=false):∀n,i<n→cnt L n=cnt (Z71 L i) n+1
 | n+1,h=>by
  rw [cnt,cnt]
  by_cases e:i=n
  ·subst e
   rw [Y5b L i i (Nat.le_refl _),Zkt,hi];simp
  ·rw [Yb6 L i hi n (by omega),Z5h L (fun h=>e h.symm)]
   omega
theorem Zz6 (L:Nat→Bool):∀n,cnt L n=0→∀i,i<n→L i=true
 | n+1,h,i,hi=>by
  rw [cnt] at h
  by_cases e:i=n
  ·subst e
   cases hL:L i with
   | true=>rfl
   | false=>rw [hL] at h;simp at h
  ·exact Zz6 L n (by omega) i (by omega)
def gl (listed:Array Bool):Nat→Bool:=fun i=>listed.getD i false
theorem Y43 {listed:Array Bool}{i:Nat}(h:i<listed.size):gl (listed.setIfInBounds i true)=Z71 (gl listed) i:=by
 funext j
 unfold gl
 by_cases e:j=i
 ·subst e
  rw [Zkt];simp [Array.getD_eq_getD_getElem?,Array.getElem?_setIfInBounds,h]
 ·rw [Z5h _ e];simp [Array.getD_eq_getD_getElem?,Array.getElem?_setIfInBounds,Ne.symm e]
section set
variable {C : Ctx} {ops : Array Oper} {md : Region.Mode} {Inv : (Nat → Bool) → St → Prop}
theorem Yh5 {Q':Exit→Act→World→Prop}
  (step:∀L S' i o,Inv L S'→ops[i]? =some o→L i=false→(∀e∈o.after,Region.binds md e=true→L e.on=true)→∃p,Loc C ops o S' p∧Inv (Z71 L i) (S'.ap p))
  (back:∀(i:Nat) o,ops[i]? =some o→∀e∈o.after,Region.binds md e=true→e.on<i)
  (fin:∀L S' a w,(∀i,i<ops.size→L i=true)→Inv L S'→Hold C S' a w→Q' .normal a w):
  ∀(fuel:Nat) (listed:Array Bool) (S':St) (a:Act) (w:World),listed.size=ops.size→cnt (gl listed) ops.size=fuel→Inv (gl listed) S'→Hold C S' a w→wpAnyIn C.fen 0 C.P md ops Q' fuel listed a w:=by
 have all:∀(listed:Array Bool),listed.size=ops.size→Region.ready md ops listed=[]→∀i,i<ops.size→gl listed i=true:=by
  intro listed hs hr i
  induction i using Nat.strongRecOn with
  | _ i ih=>
   intro hi
   cases hL:gl listed i with
   | true=>rfl
   | false=>
    exfalso
    have hm:i∈Region.ready md ops listed:=mem_ready.2 ⟨by
     have:listed.getD i false=false:=hL
     simpa [Array.getD_eq_getD_getElem?,hs,hi] using this,ops[i],Array.getElem?_eq_getElem hi,fun e he hb=>by
      have:=back i _ (Array.getElem?_eq_getElem hi) e he hb
      exact ih e.on this (by omega)⟩
    rw [hr] at hm;cases hm
 intro fuel
 induction fuel with
 | zero=>
  intro listed S' a w hs hc hI hh
  have h1:=Zz6 _ _ hc
  refine ⟨?_,fin _ S' a w h1 hI hh⟩
  cases hq:Region.ready md ops listed with
  | nil=>rfl
  | cons j l=>
   have hj:j∈Region.ready md ops listed:=by rw [hq];simp
   obtain ⟨h2,o,h3,_⟩:=mem_ready.1 hj
   have hlt:j<ops.size:=(Array.getElem?_eq_some_iff.1 h3).1
   have h4:=h1 j hlt
   unfold gl at h4
   simp [Array.getD_eq_getD_getElem?,hs,hlt] at h2 h4
   rw [h4] at h2;cases h2
 | succ fuel ih=>
  intro listed S' a w hs hc hI hh
  refine ⟨fun h0=>fin _ S' a w (all listed hs h0) hI hh,fun i hi=>?_⟩
  obtain ⟨h2,o,ho,hdep⟩:=mem_ready.1 hi
  have hlt:i<ops.size:=(Array.getElem?_eq_some_iff.1 ho).1
  have hLi:gl listed i=false:=Y5c h2
  obtain ⟨p,hl,hn⟩:=step (gl listed) S' i o hI ho hLi hdep
  rw [←Y43 (by omega)] at hn
  have hc':cnt (gl (listed.setIfInBounds i true)) ops.size=fuel:=by
   have:=Yb6 (gl listed) i hLi ops.size hlt
   rw [Y43 (by omega)];omega
  have hs':(listed.setIfInBounds i true).size=ops.size:=by simp [hs]
  have hg:=hl S' rfl (fun _ _=>rfl) (fun _ _=>rfl) a w hh
  unfold wpOpIn
  simp only [ho]
  split
  ·rename_i hw
   rw [if_pos hw] at hg
   exact ⟨hg.1,Oper.uponIn_mono (fun a' w' hh'=>ih _ _ a' w' hs' hc' hn hh') (fun _ _ _ h=>h.elim) _ hg.2⟩
  ·rename_i hw
   rw [if_neg hw] at hg
   exact ⟨fun _ _=>trivial,ih _ _ _ _ hs' hc' hn hg⟩
theorem AW.regionSet {Q:Exit→St→Prop}{S:St}{id:Nat}(Inv:(Nat→Bool)→St→Prop)(hm:C.P.follows .mixedOrders=true)
  (back:(List.range ops.size).all (fun i=>match ops[i]? with | some o=>o.after.all fun e=> !Region.binds .any e||Nat.blt e.on i | none=>true)=true)
  (start:Inv (fun _=>false) S)
  (step:∀L S' i o,Inv L S'→ops[i]? =some o→L i=false→(∀e∈o.after,Region.binds .any e=true→L e.on=true)→∃p,Loc C ops o S' p∧Inv (Z71 L i) (S'.ap p))
  (fin:∀L S',(∀i,i<ops.size→L i=true)→Inv L S'→Q .normal S'):AW C (.region id ops true) Q S:=by
 intro a w hh
 have hz:gl (Array.replicate ops.size false)=fun _=>false:=by
  funext i
  unfold gl
  simp only [Array.getD_eq_getD_getElem?,Array.getElem?_replicate]
  split<;>rfl
 have hcz:∀n,cnt (fun _=>false) n=n:=fun n=>by
  induction n with
  | zero=>rfl
  | succ n ih=>rw [cnt,ih];rfl
 refine wpIn_region_any hm (Yh5 (Inv:=Inv) (md:= .any) step (fun i o ho e he hb=>?_) (fun L S' a' w' h1 h2 h3=>⟨S',fin L S' h1 h2,h3⟩) _ _ S _ _ (by simp) ?_ (by rw [hz];exact start) hh.drawn)
 ·have hlt:i<ops.size:=(Array.getElem?_eq_some_iff.1 ho).1
  have h1:=List.all_eq_true.1 back i (List.mem_range.2 hlt)
  simp only [ho] at h1
  have h2:=Array.all_eq_true_iff_forall_mem.1 h1 e he
  rw [hb] at h2
  simpa using h2
 ·rw [hz,hcz]
end set
section maps
variable {κ : Type} [DecidableEq κ] {C : Ctx} {S : St} {o : Oper}
def Zdf (b:Nat)(k:Kd κ)(m:List (κ×Int))(x:κ)(n:Nat):Zu:=
 ⟨fun w H M=>M b∧∃es clock,MapAt k w H b m es clock∧((∃(j:Nat) (e:MapEntry),es[j]? =some e∧e.born=n∧m[j]? =some (x,Z0n m x))∨(x∉List.map Prod.fst m∧clock=n)),
  fun h ⟨hm,es,clock,ha,r⟩=>let ⟨a,c⟩:=h.own b (Array.getElem?_eq_some_iff.1 ha.1).1 hm;⟨a,es,clock,ha.mono h.pure_ c,r⟩⟩
theorem EntC.at_ {k:Kd κ}{w:World}{H:HS}{m:List (κ×Int)}{es:List MapEntry}(h:EntC k w H m es){j:Nat}(hj:j<m.length):∃e,es[j]? =some e:=
 ⟨es[j]'(by rw [h.length];exact hj),List.getElem?_eq_getElem _⟩
theorem AW.mapOpen {Q:Exit→St→Prop}{c:Code}(x:κ){i b:Nat}{k:Kd κ}{m:List (κ×Int)}(hr:S.r i=Z2g b k m)(h:∀n,AW C c Q (S.setr i (Zdf b k m x n))):AW C c Q S:=by
 rintro a w ⟨O,hh⟩
 have h5:=hh.res i
 rw [hr] at h5
 obtain ⟨hm,es,clock,ha⟩:=h5
 obtain ⟨n,hn⟩:∃n,(∃(j:Nat) (e:MapEntry),es[j]? =some e∧e.born=n∧m[j]? =some (x,Z0n m x))∨(x∉m.map (·.1)∧clock=n):=by
  by_cases hx:x∈m.map (·.1)
  ·obtain ⟨p,hp,rfl⟩:=List.mem_map.1 hx
   obtain ⟨j,hj⟩:=List.getElem?_of_mem hp
   obtain ⟨e,he⟩:=ha.2.1.at_ (List.getElem?_eq_some_iff.1 hj).1
   exact ⟨e.born,.inl ⟨j,e,by rw [←Array.getElem?_toList];exact he,rfl,by rw [Zvm ha.2.2.2.2 hj];exact hj⟩⟩
  ·exact ⟨clock,.inr ⟨hx,rfl⟩⟩
 refine h n a w ⟨O,{hh with dfr:=hh.dfr,slot:=hh.slot,res:=fun j=>?_}⟩
 by_cases e:j=i
 ·subst e;simp only [St.setr,Zz];exact ⟨hm,es,clock,ha,hn⟩
 ·simp only [St.setr];rw [Zy _ _ e];exact hh.res j
theorem Yji {T kt:TypeId}{k:Kd κ}{m:List (κ×Int)}{x:κ}{b i n:Nat}{p q:Operand}(ho:o.op= .lookup T p q false)(hd:Zl o C.N=true)(ht:MTy C.P T kt k)(hp:Val C S p (Zb (.map (some b))))(hr:S.r i=Zdf b k m x n∨S.r i=Zim b k m x n)(hq:Val C S q (rd k x)):
  OpE C o S (S.put o.dst (rd (Z0 .i64) (Z0n m x))):=
 OpE.plain (by simp [ho]) hd fun O a w hh=>by
  have h1:a.eval p= .map (some b):=hp.of hh
  obtain ⟨cs,hc,hv⟩:=hq.of hh
  have h2:=hh.res i
  obtain ⟨m',es,clock,ha,e⟩:∃m' es clock,MapAt k w (hid C O) b m' es clock∧Z0n m' x=Z0n m x:=by
   rcases hr with hr | hr
   ·rw [hr] at h2
    obtain ⟨hm,es,clock,ha,_⟩:=h2
    exact ⟨m,es,clock,ha,rfl⟩
   ·rw [hr] at h2
    obtain ⟨hm,es,clock,ha,_⟩:=h2
    exact ⟨_,es,clock,ha,by unfold Z68;rw [Zsh,if_pos rfl]⟩
  obtain ⟨h3,h4⟩:=Ztt ht ha hc
  rw [e] at h3 h4
  exact ⟨_,by simp [execOp,ho,h1,hv,h3,Result.andThen],Z3k h4⟩
theorem Yst {k:Kd κ}{w:World}{H:HS}{b:Nat}{m:List (κ×Int)}{x:κ}{es:Array MapEntry}{clock j j':Nat}{e e':MapEntry}{v v':Int}(ha:MapAt k w H b m es clock)(hj:es[j]? =some e)(hm:m[j]? =some (x,v))(hj':es[j']? =some e')(hm':m[j']? =some (x,v')):e=e':=by
 have hn:=ha.2.2.2.2
 obtain ⟨h1,h2⟩:=List.getElem?_eq_some_iff.1 hm
 obtain ⟨h3,h4⟩:=List.getElem?_eq_some_iff.1 hm'
 have:j=j':=by
  have hlt:j<(m.map (·.1)).length:=by simpa using h1
  have hlt':j'<(m.map (·.1)).length:=by simpa using h3
  have he:(m.map (·.1))[j]=(m.map (·.1))[j']:=by simp [h2,h4]
  exact (List.getElem_inj hn).1 he
 subst this
 rw [hj] at hj'
 exact Option.some.inj hj'
theorem Ytg {P:Program}{T kt:TypeId}{k:Kd κ}(ht:MTy P T kt k){w:World}{H:HS}{b:Nat}{m:List (κ×Int)}{es:Array MapEntry}{clock:Nat}(ha:MapAt k w H b m es clock){x:κ}{cs:List Value}(hc:k.C w H x cs){n:Nat}(hopen:(∃(j:Nat) (e:MapEntry),es[j]? =some e∧e.born=n∧m[j]? =some (x,Z0n m x))∨(x∉List.map Prod.fst m∧clock=n)):
  ∃(es':Array MapEntry) (clock' j:Nat) (e:MapEntry),(Instr.mapEntry T (.map (some b)) (mkv k.agg cs)).run P w= .ok (.tuple #[.int .i64 (Z0n m x),goInt e.born]) (Z2q w b (.map es' clock'))∧IntKind.i64.has (Z0n m x)∧
   EntC k w H (Z68 m x) es'.toList∧(∀e∈es'.toList,e.born<clock')∧(es'.toList.map (·.born)).Nodup∧es'[j]? =some e∧(Z68 m x)[j]? =some (x,Z0n m x)∧e.born=n:=by
 obtain ⟨e,hu,hz⟩:=ht.u
 obtain ⟨l,hl⟩:=ht.key.reads hc
 have hck:=ht.key.law.check w false hl
 rcases Zxm ht.key ha.2.1 hc with ⟨h1,h2⟩ | ⟨j,en,v,h1,h2,h3,h4,h5,h6⟩
 ·have h0:=Y3y h2
  refine ⟨es.push {key:=mkv k.agg cs,val:= .int .i64 0,born:=clock},clock+1,es.size,{key:=mkv k.agg cs,val:= .int .i64 0,born:=clock},?_,by rw [h0];exact ⟨by decide,by decide⟩,?_,?_,?_,by simp,?_,?_⟩
  ·rw [h0]
   simp [Instr.mapEntry,run_underlying hu,getObj,setObj,Sem.run,ha.1,hck,h1,Zxs hz,Result.andThen,Z2q,goInt]
  ·unfold Z68
   rw [Zvn h2,h0,Array.toList_push]
   exact ha.2.1.push hc ⟨by decide,by decide⟩ rfl rfl
  ·intro e he
   rw [Array.toList_push,List.mem_append] at he
   rcases he with he | he
   ·exact Nat.lt_succ_of_lt (ha.2.2.1 e he)
   ·rw [List.mem_singleton.1 he];exact Nat.lt_succ_self _
  ·rw [Array.toList_push,List.map_append,List.nodup_append]
   refine ⟨ha.2.2.2.1,by simp,?_⟩
   intro a h7 c h8 e
   obtain ⟨e',he',rfl⟩:=List.mem_map.1 h7
   have:=ha.2.2.1 e' he'
   simp at h8
   omega
  ·unfold Z68
   have:=ha.2.1.length
   rw [Zvn h2,h0,List.getElem?_append_right (by simp at this;omega)]
   simp at this
   simp [this]
  ·rcases hopen with ⟨j',e',_,_,hx⟩ | ⟨_,h⟩
   ·exact absurd (List.mem_map.2 ⟨_,List.mem_of_getElem? hx,rfl⟩) h2
   ·exact h
 ·have hv:=Zvm ha.2.2.2.2 h3
  have hst:=ht.key.law.stays w hl
  have hmod:=Yk9 (key:=mkv k.agg cs) h2 h4
  have hj:es[j]? =some en:=by rw [←Array.getElem?_toList];exact h2
  refine ⟨es,clock,j,en,?_,by rw [hv];exact h6,?_,ha.2.2.1,ha.2.2.2.1,hj,?_,?_⟩
  ·rw [hv]
   simp [Instr.mapEntry,run_underlying hu,getObj,setObj,Sem.run,ha.1,hck,h1,h5,hj,h4,hst,hmod,Result.andThen,Z2q,goInt]
  ·unfold Z68
   rw [hv,Zq0 ha.2.2.2.2 h3,Zrg h3]
   exact ha.2.1
  ·unfold Z68
   rw [hv,Zq0 ha.2.2.2.2 h3,Zrg h3]
   exact h3
  ·rcases hopen with ⟨j',e',g1,g2,g3⟩ | ⟨hx,_⟩
   ·rw [Yst ha hj h3 g1 g3];exact g2
   ·exact absurd (List.mem_map.2 ⟨_,List.mem_of_getElem? h3,rfl⟩) hx
theorem Ynp {T kt:TypeId}{k:Kd κ}{m:List (κ×Int)}{x:κ}{b i n:Nat}{p q:Operand}(ho:o.op= .mapEntry T p q)(hd:Zl o C.N=true)(ht:MTy C.P T kt k)(hp:Val C S p (Zb (.map (some b))))(hr:S.r i=Zdf b k m x n)(hq:Val C S q (rd k x)):
  OpE C o S ((S.put o.dst (Z10 (rd (Z0 .i64) (Z0n m x)) (Zb (goInt n)))).setr i (Zim b k m x n)):=
 OpE.value (by simp [ho]) fun O a w hh=>by
  have h1:a.eval p= .map (some b):=hp.of hh
  obtain ⟨cs,hc,hv⟩:=hq.of hh
  have h2:=hh.res i
  rw [hr] at h2
  obtain ⟨hm,es,clock,ha,hopen⟩:=h2
  have hlt:b<w.heap.size:=(Array.getElem?_eq_some_iff.1 ha.1).1
  obtain ⟨es',clock',j,e,h3,h4,h5,h6,h7,h8,h9,h10⟩:=Ytg ht ha hc hopen
  rw [h10] at h3
  refine ⟨_,_,by simp only [execOp,ho,h1,hv,Sem.run_bind,h3];rfl,Zp1 hh hm (Z3e hd) ⟨_,_,rfl,Z3k h4,rfl⟩ ⟨hm,es',clock',?_,j,e,h8,h10,h9⟩⟩
  have hx:Ext w (hid C O) Ze (Z2q w b (.map es' clock')) (hid C O) Ze:=⟨by simp [Z2q],fun c hc hn=>⟨hn,Zjf (fun e=>hn (.inr (by rw [e];have hm':O b=Ro i:=hm;rw [hm'];exact Z0b i)))⟩,fun _ _ h=>h.elim⟩
  exact ⟨Zr7 hlt,h5.mono hx,h6,h7,Zxu ha.2.2.2.2 _ _⟩
structure MInv (S:St) (D:Nat→Nat) (A:Nat→Z8) (i:Nat) (R0 R1 R2:Zu) (L:Nat→Bool) (S':St):Prop where
 d:S'.d=S.d
 o:∀t,(∀j,j<6→D j≠t)→S'.s t=S.s t
 s:∀j,j<6→L j=true→S'.s (D j)=A j
 r:∀q,q≠i→S'.r q=S.r q
 ri:S'.r i=if L 6=true then R2 else if L 4=true then R1 else R0
 l6:L 6=true→L 2=true∧L 4=true
section minv
variable {D : Nat → Nat} {A : Nat → Z8} {i : Nat} {R0 R1 R2 : Zu} {L : Nat → Bool} {S' : St} {rs rr : List Nat}
theorem MInv.slot (inj:∀j j',j<6→j'<6→D j=D j'→j=j')(h:MInv S D A i R0 R1 R2 L S')(n:Nat)(hn:n<6)(h4:n≠4):MInv S D A i R0 R1 R2 (Z71 L n) (S'.ap ⟨rs,rr,[(D n,A n)],[]⟩) where
 d:=h.d
 o:=fun t ht=>by
  show upd S'.s (D n) (A n) t=_
  rw [Zy _ _ (fun e=>ht n hn e.symm)];exact h.o t ht
 s:=fun j hj hl=>by
  show upd S'.s (D n) (A n) (D j)=_
  by_cases e:j=n
  ·subst e;rw [Zz]
  ·rw [Zy _ _ (fun e'=>e (inj j n hj hn e'))]
   rw [Z5h L e] at hl
   exact h.s j hj hl
 r:=h.r
 ri:=by
  rw [Z5h L (by omega:(6:Nat)≠n),Z5h L (Ne.symm h4)];exact h.ri
 l6:=fun hl=>by
  rw [Z5h L (by omega:(6:Nat)≠n)] at hl
  obtain ⟨a,b⟩:=h.l6 hl
  refine ⟨?_,by rw [Z5h L (Ne.symm h4)];exact b⟩
  by_cases e:(2:Nat)=n
  ·rw [←e];exact Zkt L 2
  ·rw [Z5h L e];exact a
theorem MInv.entry (inj:∀j j',j<6→j'<6→D j=D j'→j=j')(h:MInv S D A i R0 R1 R2 L S')(h6:L 6=false):MInv S D A i R0 R1 R2 (Z71 L 4) (S'.ap ⟨rs,rr,[(D 4,A 4)],[(i,R1)]⟩) where
 d:=h.d
 o:=fun t ht=>by
  show upd S'.s (D 4) (A 4) t=_
  rw [Zy _ _ (fun e=>ht 4 (by omega) e.symm)];exact h.o t ht
 s:=fun j hj hl=>by
  show upd S'.s (D 4) (A 4) (D j)=_
  by_cases e:j=4
  ·subst e;rw [Zz]
  ·rw [Zy _ _ (fun e'=>e (inj j 4 hj (by omega) e'))]
   rw [Z5h L e] at hl
   exact h.s j hj hl
 r:=fun q hq=>by show upd S'.r i R1 q=_;rw [Zy _ _ hq];exact h.r q hq
 ri:=by
  rw [Z5h L (by omega:(6:Nat)≠4),Zkt,h6]
  show upd S'.r i R1 i=_
  rw [Zz];simp
 l6:=fun hl=>by rw [Z5h L (by omega:(6:Nat)≠4),h6] at hl;cases hl
theorem MInv.store (h:MInv S D A i R0 R1 R2 L S')(h2:L 2=true)(h4:L 4=true):MInv S D A i R0 R1 R2 (Z71 L 6) (S'.ap ⟨rs,rr,[],[(i,R2)]⟩) where
 d:=h.d
 o:=h.o
 s:=fun j hj hl=>by rw [Z5h L (by omega)] at hl;exact h.s j hj hl
 r:=fun q hq=>by show upd S'.r i R2 q=_;rw [Zy _ _ hq];exact h.r q hq
 ri:=by
  rw [Zkt]
  show upd S'.r i R2 i=_
  rw [Zz];simp
 l6:=fun _=>⟨by rw [Z5h L (by omega)];exact h2,by rw [Z5h L (by omega)];exact h4⟩
def Z5i (D:Nat→Nat)(A:Nat→Z8)(S:St):Nat→St
 | 0=>S
 | n+1=>(Z5i D A S n).set (D n) (A n)
theorem Zxb (D:Nat→Nat)(A:Nat→Z8)(S:St):∀n,(Z5i D A S n).r=S.r∧(Z5i D A S n).d=S.d
 | 0=>⟨rfl,rfl⟩
 | n+1=>Zxb D A S n
theorem Y6u {t:Nat}:∀n,(∀j,j<n→D j≠t)→(Z5i D A S n).s t=S.s t
 | 0,_=>rfl
 | n+1,h=>by
  show upd (Z5i D A S n).s (D n) (A n) t=_
  rw [Zy _ _ (fun e=>h n (by omega) e.symm)]
  exact Y6u n fun j hj=>h j (by omega)
theorem Y17 {N:Nat}(inj:∀j j',j<N→j'<N→D j=D j'→j=j'):∀n,n≤N→∀j,j<n→(Z5i D A S n).s (D j)=A j
 | n+1,hn,j,hj=>by
  show upd (Z5i D A S n).s (D n) (A n) (D j)=_
  by_cases e:j=n
  ·subst e;rw [Zz]
  ·rw [Zy _ _ (fun e'=>e (inj j n (by omega) (by omega) e'))]
   exact Y17 inj n (by omega) j (by omega)
theorem MInv.fin (inj:∀j j',j<6→j'<6→D j=D j'→j=j')(h:MInv S D A i R0 R1 R2 L S')(hL:∀j,j<7→L j=true):S'=(Z5i D A S 6).setr i R2:=by
 have hs:S'.s=(Z5i D A S 6).s:=by
  funext t
  by_cases ht:∃j,j<6∧D j=t
  ·obtain ⟨j,hj,rfl⟩:=ht
   rw [h.s j hj (hL j (by omega)),Y17 inj 6 (Nat.le_refl _) j hj]
  ·have ht':∀j,j<6→D j≠t:=fun j hj e=>ht ⟨j,hj,e⟩
   rw [h.o t ht',Y6u 6 ht']
 have hr:S'.r=upd (Z5i D A S 6).r i R2:=by
  funext q
  by_cases hq:q=i
  ·subst hq;rw [Zz,h.ri,hL 6 (by omega)];simp
  ·rw [Zy _ _ hq,h.r q hq,(Zxb D A S 6).1]
 have hd:S'.d=(Z5i D A S 6).d:=by rw [h.d,(Zxb D A S 6).2]
 cases S' with
 | mk s r d=>simp only at hs hr hd;subst hs;subst hr;subst hd;rfl
end minv
def aft (o:Oper)(l:List Nat):Bool:=l.all fun j=>o.after.any fun e=>Region.binds .any e&&Nat.beq e.on j
theorem Z82 {o:Oper}{l:List Nat}(h:aft o l=true){L:Nat→Bool}(hd:∀e∈o.after,Region.binds .any e=true→L e.on=true){j:Nat}(hj:j∈l):L j=true:=by
 have h1:=List.all_eq_true.1 h j hj
 obtain ⟨e,he,h2⟩:=Array.any_eq_true'.1 h1
 simp only [Bool.and_eq_true] at h2
 have:=Nat.eq_of_beq_eq_true h2.2
 subst this
 exact hd e he h2.1
def Zg3 (d0 d1 d2 d3 d4 d5:Nat):Nat→Nat
 | 0=>d0 | 1=>d1 | 2=>d2 | 3=>d3 | 4=>d4 | _=>d5
def Zs7 (A0 A1 A2 A3 A4 A5:Z8):Nat→Z8
 | 0=>A0 | 1=>A1 | 2=>A2 | 3=>A3 | 4=>A4 | _=>A5
def Zpb (l:List Nat)(D:Nat→Nat)(N:Nat):Bool:=(List.range 6).all fun j=>(Nat.blt (D j) N)&&(l.all fun t=> !Nat.beq (D j) t)&&(List.range 6).all fun j'=>Nat.beq j j'|| !Nat.beq (D j) (D j')
theorem Ybs {l:List Nat}{D:Nat→Nat}{N:Nat}(h:Zpb l D N=true):∀j j',j<6→j'<6→D j=D j'→j=j':=fun j j' hj hj' e=>by
 have h1:=List.all_eq_true.1 h j (List.mem_range.2 hj)
 simp only [Bool.and_eq_true] at h1
 have h2:=List.all_eq_true.1 h1.2 j' (List.mem_range.2 hj')
 rcases Bool.or_eq_true_iff.1 h2 with h3 | h3
 ·exact Nat.eq_of_beq_eq_true h3
 ·rw [e] at h3;simp at h3
theorem Y52 {l:List Nat}{D:Nat→Nat}{N:Nat}(h:Zpb l D N=true){t:Nat}(ht:t∈l):∀j,j<6→D j≠t:=fun j hj e=>by
 have h1:=List.all_eq_true.1 h j (List.mem_range.2 hj)
 simp only [Bool.and_eq_true] at h1
 have h2:=List.all_eq_true.1 h1.1.2 t ht
 rw [e] at h2;simp at h2
theorem Yxd {l:List Nat}{D:Nat→Nat}{N:Nat}(h:Zpb l D N=true){j:Nat}(hj:j<6):Nat.blt (D j) N=true:=by
 have h1:=List.all_eq_true.1 h j (List.mem_range.2 hj)
 simp only [Bool.and_eq_true] at h1
 exact h1.1.1
theorem Ypg {o:Oper}{N d:Nat}(h:o.dst=some d)(hd:Nat.blt d N=true):Zl o N=true:=by unfold Zl;rw [h];exact hd
theorem AW.mapInc {Q:Exit→St→Prop}{id i j1 b t0 t1 d0 d1 d2 d3 d4 d5:Nat}{o0 o1 o2 o3 o4 o5 o6:Oper}{T kt U U':TypeId}{k:Kd κ}{m:List (κ×Int)}{x:κ}(hm:C.P.follows .mixedOrders=true)(ht:MTy C.P T kt k)
  (e0:(o0.op,o0.dst,o0.guard)=(Op.move (.tmp t0),some d0,none))(e1:(o1.dst,o1.guard)=(some d1,none))(e2:(o2.op,o2.dst,o2.guard)=(Op.lookup T (.tmp d0) (.tmp d1) false,some d2,none))
  (e3:(o3.op,o3.dst,o3.guard)=(Op.binOp .add U (.tmp d2) (.const (.int .i64 1)) U',some d3,none))(e4:(o4.op,o4.dst,o4.guard)=(Op.mapEntry T (.tmp d0) (.tmp d1),some d4,none))
  (e5:(o5.op,o5.dst,o5.guard)=(Op.extract (.tmp d4) 1,some d5,none))(e6:(o6.op,o6.dst,o6.guard)=(Op.entryStore T (.tmp d0) (.tmp d5) (.tmp d3),none,none))
  (hback:(List.range (#[o0,o1,o2,o3,o4,o5,o6]:Array Oper).size).all (fun i=>match (#[o0,o1,o2,o3,o4,o5,o6]:Array Oper)[i]? with | some o=>o.after.all fun e=> !Region.binds .any e||Nat.blt e.on i | none=>true)=true)
  (haft:(aft o2 [0,1],aft o3 [2],aft o4 [0,1],aft o5 [4],aft o6 [0,2,3,4,5])=(true,true,true,true,true))(hdiff:Zpb [t0,t1] (Zg3 d0 d1 d2 d3 d4 d5) C.N=true)(hj1:Nat.beq j1 i=false)
  (hs:S.s t0=Zb (.map (some b)))(hr:S.r i=Z2g b k m)(h1:∀S':St,S'.s t1=S.s t1→S'.r j1=S.r j1→OpE C o1 S' (S'.put o1.dst (rd k x)))
  (hK:∀n:Nat,Q .normal ((Z5i (Zg3 d0 d1 d2 d3 d4 d5) (Zs7 (Zb (.map (some b))) (rd k x) (rd (Z0 .i64) (Z0n m x)) (rd (Z0 .i64) (IntKind.i64.wrap (Z0n m x+1))) (Z10 (rd (Z0 .i64) (Z0n m x)) (Zb (goInt n))) (Zb (goInt n))) S 6).setr i (Z2g b k (Z1x m x (IntKind.i64.wrap (Z0n m x+1)))))):
  AW C (.region id #[o0,o1,o2,o3,o4,o5,o6] true) Q S:=by
 simp only [Prod.mk.injEq] at e0 e1 e2 e3 e4 e5 e6 haft
 have inj:=Ybs hdiff
 have hj1':j1≠i:=fun e=>by rw [e] at hj1;simp at hj1
 have out0:=Y52 hdiff (t:=t0) (by simp)
 have out1:=Y52 hdiff (t:=t1) (by simp)
 refine AW.mapOpen x hr fun n=>?_
 refine AW.regionSet (MInv (S.setr i (Zdf b k m x n)) (Zg3 d0 d1 d2 d3 d4 d5) (Zs7 (Zb (.map (some b))) (rd k x) (rd (Z0 .i64) (Z0n m x)) (rd (Z0 .i64) (IntKind.i64.wrap (Z0n m x+1))) (Z10 (rd (Z0 .i64) (Z0n m x)) (Zb (goInt n))) (Zb (goInt n))) i (Zdf b k m x n) (Zim b k m x n) (Z2g b k (Z1x m x (IntKind.i64.wrap (Z0n m x+1))))) hm hback ⟨rfl,fun _ _=>rfl,(fun j _ h=>by cases h),fun _ _=>rfl,(by simp [St.setr,Zz]),(fun h=>by cases h)⟩ ?_ ?_
 ·intro L S' q o hI ho hL hdep
  have hlt:q<7:=by
   have:=(Array.getElem?_eq_some_iff.1 ho).1
   simpa using this
  have hst:S'.s t0=Zb (.map (some b)):=(hI.o t0 out0).trans hs
  have dk:∀{o:Oper} {d j:Nat},o.dst=some d→j<6→Zg3 d0 d1 d2 d3 d4 d5 j=d→Zl o C.N=true:=fun h hj e=>Ypg h (by rw [←e];exact Yxd hdiff hj)
  have cases7:q=0∨q=1∨q=2∨q=3∨q=4∨q=5∨q=6:=by omega
  rcases cases7 with rfl | rfl | rfl | rfl | rfl | rfl | rfl
  ·obtain rfl:o0=o:=by simpa using ho
   refine ⟨_,loc (A:=Zb (.map (some b))) [t0] [] e0.2.2 e0.2.1 fun S2 h2 _=>?_,hI.slot inj 0 (by omega) (by omega)⟩
   exact Zq e0.1 (dk (j:=0) e0.2.1 (by omega) rfl) (vt ((h2 t0 (by simp)).trans hst))
  ·obtain rfl:o1=o:=by simpa using ho
   refine ⟨_,loc (A:=rd k x) [t1] [j1] e1.2 e1.1 fun S2 h2 h3=>?_,hI.slot inj 1 (by omega) (by omega)⟩
   exact h1 S2 ((h2 t1 (by simp)).trans (hI.o t1 out1)) ((h3 j1 (by simp)).trans ((hI.r j1 hj1').trans (by simp only [St.setr];exact Zy _ _ hj1')))
  ·obtain rfl:o2=o:=by simpa using ho
   have l0:=Z82 haft.1 hdep (j:=0) (by simp)
   have l1:=Z82 haft.1 hdep (j:=1) (by simp)
   have h6:L 6=false:=by
    cases h:L 6 with
    | false=>rfl
    | true=>have:=(hI.l6 h).1;rw [hL] at this;cases this
   refine ⟨_,loc (A:=rd (Z0 .i64) (Z0n m x)) [d0,d1] [i] e2.2.2 e2.2.1 fun S2 h2 h3=>?_,hI.slot inj 2 (by omega) (by omega)⟩
   refine Yji e2.1 (dk (j:=2) e2.2.1 (by omega) rfl) ht (vt ((h2 d0 (by simp)).trans (hI.s 0 (by omega) l0))) (n:=n) (i:=i) ?_ (vt ((h2 d1 (by simp)).trans (hI.s 1 (by omega) l1)))
   have:=(h3 i (by simp)).trans hI.ri
   rw [h6] at this
   cases h4:L 4 with
   | false=>rw [h4] at this;exact .inl this
   | true=>rw [h4] at this;exact .inr this
  ·obtain rfl:o3=o:=by simpa using ho
   have l2:=Z82 haft.2.1 hdep (j:=2) (by simp)
   refine ⟨_,loc (A:=rd (Z0 .i64) (IntKind.i64.wrap (Z0n m x+1))) [d2] [] e3.2.2 e3.2.1 fun S2 h2 _=>?_,hI.slot inj 3 (by omega) (by omega)⟩
   exact Z06 e3.1 (dk (j:=3) e3.2.1 (by omega) rfl) (vt ((h2 d2 (by simp)).trans (hI.s 2 (by omega) l2))) (vk rfl)
  ·obtain rfl:o4=o:=by simpa using ho
   have l0:=Z82 haft.2.2.1 hdep (j:=0) (by simp)
   have l1:=Z82 haft.2.2.1 hdep (j:=1) (by simp)
   have h6:L 6=false:=by
    cases h:L 6 with
    | false=>rfl
    | true=>have:=(hI.l6 h).2;rw [hL] at this;cases this
   refine ⟨⟨[d0,d1],[i],[(d4,Z10 (rd (Z0 .i64) (Z0n m x)) (Zb (goInt n)))],[(i,Zim b k m x n)]⟩,Z19 [d0,d1] [i] e4.2.2 fun S2 h2 h3=>?_,hI.entry inj h6⟩
   have hri:S2.r i=Zdf b k m x n:=by
    have:=(h3 i (by simp)).trans hI.ri
    rw [h6,hL] at this
    simpa using this
   have:=Ynp e4.1 (dk (j:=4) e4.2.1 (by omega) rfl) ht (vt ((h2 d0 (by simp)).trans (hI.s 0 (by omega) l0))) hri (vt ((h2 d1 (by simp)).trans (hI.s 1 (by omega) l1)))
   rw [e4.2.1] at this
   exact this
  ·obtain rfl:o5=o:=by simpa using ho
   have l4:=Z82 haft.2.2.2.1 hdep (j:=4) (by simp)
   refine ⟨_,loc (A:=Zb (goInt n)) [d4] [] e5.2.2 e5.2.1 fun S2 h2 _=>?_,hI.slot inj 5 (by omega) (by omega)⟩
   exact Z18 e5.1 (dk (j:=5) e5.2.1 (by omega) rfl) (vt ((h2 d4 (by simp)).trans (hI.s 4 (by omega) l4)))
  ·obtain rfl:o6=o:=by simpa using ho
   have l0:=Z82 haft.2.2.2.2 hdep (j:=0) (by simp)
   have l2:=Z82 haft.2.2.2.2 hdep (j:=2) (by simp)
   have l3:=Z82 haft.2.2.2.2 hdep (j:=3) (by simp)
   have l4:=Z82 haft.2.2.2.2 hdep (j:=4) (by simp)
   have l5:=Z82 haft.2.2.2.2 hdep (j:=5) (by simp)
   refine ⟨_,Z4a (i:=i) (r:=Z2g b k (Z1x m x (IntKind.i64.wrap (Z0n m x+1)))) [d0,d5,d3] [i] e6.2.2 fun S2 h2 h3=>?_,hI.store l2 l4⟩
   have hri:S2.r i=Zim b k m x n:=by
    have:=(h3 i (by simp)).trans hI.ri
    rw [hL,l4] at this
    simpa using this
   exact Yx5 e6.1 e6.2.1 (vt ((h2 d0 (by simp)).trans (hI.s 0 (by omega) l0))) hri (vt ((h2 d5 (by simp)).trans (hI.s 5 (by omega) l5))) (vt ((h2 d3 (by simp)).trans (hI.s 3 (by omega) l3)))
 ·intro L S' hL hI
  have:=hI.fin inj fun j hj=>hL j (by simpa using hj)
  rw [this]
  have e:(Z5i (Zg3 d0 d1 d2 d3 d4 d5) (Zs7 (Zb (.map (some b))) (rd k x) (rd (Z0 .i64) (Z0n m x)) (rd (Z0 .i64) (IntKind.i64.wrap (Z0n m x+1))) (Z10 (rd (Z0 .i64) (Z0n m x)) (Zb (goInt n))) (Zb (goInt n))) (S.setr i (Zdf b k m x n)) 6).setr i (Z2g b k (Z1x m x (IntKind.i64.wrap (Z0n m x+1))))=
    (Z5i (Zg3 d0 d1 d2 d3 d4 d5) (Zs7 (Zb (.map (some b))) (rd k x) (rd (Z0 .i64) (Z0n m x)) (rd (Z0 .i64) (IntKind.i64.wrap (Z0n m x+1))) (Z10 (rd (Z0 .i64) (Z0n m x)) (Zb (goInt n))) (Zb (goInt n))) S 6).setr i (Z2g b k (Z1x m x (IntKind.i64.wrap (Z0n m x+1)))):=by
   simp only [St.setr,Z5i,St.set]
   congr 1
   funext q
   by_cases hq:q=i
   ·subst hq;rw [Zz,Zz]
   ·rw [Zy _ _ hq,Zy _ _ hq,Zy _ _ hq]
  rw [e]
  exact hK n
end maps
end Go.Wb
namespace Go.Wb
open Go
section Zb
variable {C : Ctx} {S : St} {o : Oper}
theorem Zpw {T:TypeId}{v:Value}{p:Operand}(ho:o.op= .load T p)(hd:Zl o C.N=true)(ht:Ty C.P T kraw)(hp:Val C S p (rp kraw v)):OpE C o S (S.put o.dst (Zb v)):=
 OpE.plain (by simp [ho]) hd fun O a w hh=>by
  obtain ⟨b,off,cs,h1,hb,hn,hc,hat⟩:=hp.of hh
  obtain ⟨rfl,h2⟩:=hc
  exact ⟨_,by simp [execOp,ho,h1,Instr.loadAt,Instr.sureAddr,Zkw ht (show kraw.C w (hid C O) v [v] from ⟨rfl,h2⟩) hat];rfl,rfl⟩
def omz {α:Type}(m:List α):Option Unit:=match m with
 | []=>some ()
 | _::_=>none
theorem Yw3 {α:Type}{m:List α}{u:Unit}(h:omz m=some u):m=[]:=by
 cases m with
 | nil=>rfl
 | cons x m=>cases h
variable {κ : Type} [DecidableEq κ]
def ItR (g b:Nat):Zu:=
 ⟨fun w H M=>M g∧∃s c,w.heap[g]? =some (.mapIter (some b) s #[] c),fun h ⟨hm,s,c,hg⟩=>let ⟨x,y⟩:=h.own g (Array.getElem?_eq_some_iff.1 hg).1 hm;⟨x,s,c,y.trans hg⟩⟩
theorem Yub {T kt:TypeId}{k:Kd κ}{m:List (κ×Int)}{b i:Nat}{p:Operand}(j:Nat)(ho:o.op= .range T p)(hd:Zl o C.N=true)(ht:MTy C.P T kt k)(hp:Val C S p (Zb (.map (some b))))(hr:S.r i=Z2g b k m)(hij:Nat.beq i j=false):
  OpT C o S (fun S'=> ∃g,S'=(S.put o.dst (Zb (.pointer (some ⟨g,0,none⟩)))).setr j (ItR g b)):=
 OpT.value (by simp [ho]) fun O a w hh=>by
  have h1:a.eval p= .map (some b):=hp.of hh
  have h2:=hh.res i
  rw [hr] at h2
  obtain ⟨hm,es,clock,ha⟩:=h2
  obtain ⟨e,hu,hz⟩:=ht.u
  refine ⟨.pointer (some ⟨w.heap.size,0,none⟩),w.alloc (.mapIter (some b) clock #[] clock),_,?_,⟨w.heap.size,rfl⟩,?_⟩
  ·simp [execOp,ho,h1,Instr.range,run_underlying hu,getObj,newObj,Sem.run,ha.1,Result.andThen]
  have go:=Zr8 hh (Ro j) (Z0b j) (.mapIter (some b) clock #[] clock)
  refine ⟨_,hh.goes go (Z7r ..) (by cases o.dst<;>rfl) (Z8e ..) (fun t=>?_) (fun q=>?_)⟩
  ·cases hdst:o.dst with
   | none=>exact .inl ⟨rfl,Z1e t j,rfl⟩
   | some d=>
    by_cases e:t=d
    ·subst e
     right
     have hlt:t<a.tmps.size:=hh.n▸Z3e hd t hdst
     rw [Z7s hlt]
     simp only [St.put,St.set,St.setr,Zz]
     rfl
    ·exact .inl ⟨by simp only [St.put,St.set,St.setr];exact Zy _ _ e,Z1e t j,Z7o e _⟩
  ·by_cases e:q=j
   ·subst e
    right
    simp only [St.setr,Zz]
    exact ⟨if_pos rfl,clock,clock,heap_alloc_new w _⟩
   ·exact .inl ⟨by simp only [St.setr];rw [Zy _ _ e];cases o.dst<;>rfl,fun h=>e (Z1z h)⟩
theorem Ys2 {k:Kd κ}{m:List (κ×Int)}{g b i j:Nat}{p:Operand}(hz:m=[])(ho:o.op= .next p false)(hd:Zl o C.N=true)(hp:Val C S p (Zb (.pointer (some ⟨g,0,none⟩))))(hr:S.r i=Z2g b k m)(hj:S.r j=ItR g b):
  OpE C o S (S.put o.dst (Zb (.tuple #[.bool false]))):=
 OpE.plain (by simp [ho]) hd fun O a w hh=>by
  have h1:a.eval p= .pointer (some ⟨g,0,none⟩):=hp.of hh
  have h2:=hh.res i
  rw [hr] at h2
  obtain ⟨hm,es,clock,ha⟩:=h2
  have h3:=hh.res j
  rw [hj] at h3
  obtain ⟨_,s,c,hg⟩:=h3
  have hes:es= #[]:=by
   have:=ha.2.1.length
   rw [hz] at this
   exact Array.eq_empty_of_size_eq_zero (by simpa using this)
  have hb:=ha.1
  rw [hes] at hb
  exact ⟨_,by simp [execOp,ho,h1,Instr.next,getObj,Sem.run,hg,hb,choose,Question.forced,Result.andThen],rfl⟩
theorem Yfb {p:Operand}{c:Bool}(ho:o.op= .extract p 0)(hd:Zl o C.N=true)(hp:Val C S p (Zb (.tuple #[.bool c]))):OpE C o S (S.put o.dst (rd Z6 c)):=
 OpE.plain (by simp [ho]) hd fun O a w hh=>by
  have h1:a.eval p= .tuple #[.bool c]:=hp.of hh
  exact ⟨.bool c,by simp [execOp,ho,h1,Instr.extract],Z56⟩
end Zb
end Go.Wb
namespace Go.Wb
open Go
section guards
variable {C : Ctx} {ops : Array Oper} {S S' : St} {o : Oper}
end guards
end Go.Wb
namespace Go.Wb
open Go
section ptr
variable {C : Ctx} {S S' : St} {o : Oper} {α : Type} {k : Kd α}
def PtC (k:Kd α)(w:World)(H:HS):Option α→Value→Prop
 | none,v=>v= .pointer none
 | some x,v=>(rp k x).R w H Ze v
theorem PtC.one {w:World}{H:HS}{x:Option α}{v:Value}(h:PtC k w H x v):v.oneCell'=true:=by
 cases x with
 | none=>rw [show v=_ from h];rfl
 | some x=>obtain ⟨b,off,cs,rfl,_⟩:=h;rfl
end ptr
section room
variable {C : Ctx} {S : St} {o : Oper} {α : Type} {k : Kd α}
end room
end Go.Wb
namespace Go.Wb
open Go
section fk
variable {C : Ctx} {S : St} {o : Oper} {α β : Type} {kx : Kd α} {ky : Kd β} {F : α → Option β}
end fk
end Go.Wb
namespace Go.Wb
open Go
def ds (w:Nat):Nat→Nat→Nat
 | 0,_=>0
 | n+1,x=>x % 2 ^ w+ds w n (x / 2 ^ w)
def mk (w:Nat):Nat→Nat
 | 0=>0
 | n+1=>2 ^ (2*w)*mk w n+(2 ^ w - 1)
theorem Zj2 (w:Nat):0<2 ^ w:=Nat.pow_pos (by decide)
theorem Zki (w n x:Nat):x&&& mk w (n+1)=2 ^ (2*w)*((x / 2 ^ (2*w))&&& mk w n)+x % 2 ^ w:=by
 have hw:2 ^ w - 1<2 ^ (2*w):=by
  have h1:=Zj2 w
  have h2:2 ^ w≤2 ^ (2*w):=Nat.pow_le_pow_right (by decide) (by omega)
  omega
 have hx:x % 2 ^ w<2 ^ (2*w):=by
  have h1:=Nat.mod_lt x (Zj2 w)
  have h2:2 ^ w≤2 ^ (2*w):=Nat.pow_le_pow_right (by decide) (by omega)
  omega
 apply Nat.eq_of_testBit_eq
 intro j
 rw [Nat.testBit_and,mk,Nat.testBit_two_pow_mul_add _ hw,Nat.testBit_two_pow_mul_add _ hx]
 by_cases h:j<2*w
 ·rw [if_pos h,if_pos h,Nat.testBit_two_pow_sub_one,Nat.testBit_mod_two_pow,Bool.and_comm]
 ·rw [if_neg h,if_neg h,Nat.testBit_and,Nat.testBit_div_two_pow]
  congr 2
  omega
theorem Yar (a b c:Nat)(h:c<a):(a*b+c) / a=b:=by
 rw [Nat.mul_add_div (by omega),Nat.div_eq_of_lt h,Nat.add_zero]
theorem Y0d (a b c:Nat)(h:c<a):(a*b+c) % a=c:=by
 rw [Nat.mul_add_mod,Nat.mod_eq_of_lt h]
theorem Zwe (w:Nat)(hw:0<w):∀(n x:Nat),ds (2*w) n (((x / 2 ^ w)&&& mk w n)+(x&&& mk w n))=ds w (2*n) x
 | 0,x=>rfl
 | n+1,x=>by
  have h1:=Nat.mod_lt x (Zj2 w)
  have h2:=Nat.mod_lt (x / 2 ^ w) (Zj2 w)
  have h3:2*2 ^ w≤2 ^ (2*w):=by
   have:2 ^ (w+1)≤2 ^ (2*w):=Nat.pow_le_pow_right (by decide) (by omega)
   rwa [Nat.pow_succ,Nat.mul_comm] at this
  have e1:x / 2 ^ w / 2 ^ (2*w)=x / 2 ^ (2*w) / 2 ^ w:=by rw [Nat.div_div_eq_div_mul,Nat.div_div_eq_div_mul,Nat.mul_comm]
  have e2:x / 2 ^ w / 2 ^ w=x / 2 ^ (2*w):=by rw [Nat.div_div_eq_div_mul,←Nat.pow_add];congr 2;omega
  have e:((x / 2 ^ w)&&& mk w (n+1))+(x&&& mk w (n+1))=2 ^ (2*w)*(((x / 2 ^ (2*w) / 2 ^ w)&&& mk w n)+((x / 2 ^ (2*w))&&& mk w n))+(x % 2 ^ w+(x / 2 ^ w) % 2 ^ w):=by
   rw [Zki,Zki,e1,Nat.mul_add];omega
  have h5:=Zwe w hw n (x / 2 ^ (2*w))
  show ds (2*w) (n+1) _=ds w (2*n+2) x
  rw [e,ds,Y0d _ _ _ (by omega),Yar _ _ _ (by omega),h5]
  show _=x % 2 ^ w+(x / 2 ^ w % 2 ^ w+ds w (2*n) (x / 2 ^ w / 2 ^ w))
  rw [e2];omega
def le4:Nat→Nat→Prop
 | 0,x=>x=0
 | n+1,x=>x % 16≤4∧le4 n (x / 16)
theorem Y9x:∀(n x:Nat),le4 (2*n) x→ds 8 n ((x / 16+x)&&& mk 4 n)=ds 4 (2*n) x∧((x / 16+x)&&& mk 4 n)<256 ^ n∧∀k,k<n→((x / 16+x)&&& mk 4 n) / 256 ^ k % 256≤8
 | 0,x,h=>by simp [ds,mk]
 | n+1,x,h=>by
  obtain ⟨h1,h2,h3⟩:x % 16≤4∧x / 16 % 16≤4∧le4 (2*n) (x / 16 / 16):=h
  have e2:x / 16 / 16=x / 256:=by omega
  rw [e2] at h3
  have h6:x / 256 % 16≤4:=by
   cases n with
   | zero=>have:x / 256=0:=h3;omega
   | succ n=>exact h3.1
  have ea:(x / 16+x) / 256=x / 256 / 16+x / 256:=by omega
  have em:(x / 16+x) % 16=x % 16+x / 16 % 16:=by omega
  obtain ⟨i1,i2,i3⟩:=Y9x n (x / 256) h3
  have e:(x / 16+x)&&& mk 4 (n+1)=256*((x / 256 / 16+x / 256)&&& mk 4 n)+(x % 16+x / 16 % 16):=by
   rw [Zki]
   show 256*(((x / 16+x) / 256)&&& mk 4 n)+(x / 16+x) % 16=_
   rw [ea,em]
  rw [e]
  generalize (x / 256 / 16+x / 256)&&& mk 4 n=y at*
  refine ⟨?_,?_,?_⟩
  ·show (256*y+(x % 16+x / 16 % 16)) % 256+ds 8 n ((256*y+(x % 16+x / 16 % 16)) / 256)=x % 16+(x / 16 % 16+ds 4 (2*n) (x / 16 / 16))
   rw [e2,←i1]
   have h7:(256*y+(x % 16+x / 16 % 16)) % 256=x % 16+x / 16 % 16:=by omega
   have h8:(256*y+(x % 16+x / 16 % 16)) / 256=y:=by omega
   rw [h7,h8];omega
  ·rw [Nat.pow_succ]
   generalize 256 ^ n=p at*
   omega
  ·intro k hk
   cases k with
   | zero=>rw [Nat.pow_zero,Nat.div_one];omega
   | succ k=>
    have h8:(256*y+(x % 16+x / 16 % 16)) / 256=y:=by omega
    rw [Nat.pow_succ,Nat.mul_comm (256 ^ k),←Nat.div_div_eq_div_mul,h8]
    exact i3 k (by omega)
theorem Y05:∀(n x:Nat),x<16 ^ n→(∀k,k<n→x / 16 ^ k % 16≤4)→le4 n x
 | 0,x,h,_=>by simpa [le4] using h
 | n+1,x,h,hk=>by
  refine ⟨by have:=hk 0 (by omega);simpa using this,Y05 n (x / 16) ?_ fun k h1=>?_⟩
  ·rw [Nat.pow_succ] at h
   generalize 16 ^ n=p at*
   omega
  ·have:=hk (k+1) (by omega)
   rwa [Nat.pow_succ,Nat.mul_comm (16 ^ k),←Nat.div_div_eq_div_mul] at this
theorem Zu8 (w:Nat)(hw:0<w):∀(n x:Nat),(((x / 2 ^ w)&&& mk w n)+(x&&& mk w n))<(2 ^ (2*w)) ^ n∧∀k,k<n→∃a b,a<2 ^ w∧b<2 ^ w∧(((x / 2 ^ w)&&& mk w n)+(x&&& mk w n)) / (2 ^ (2*w)) ^ k % 2 ^ (2*w)=x / (2 ^ (2*w)) ^ k % 2 ^ w+x / (2 ^ (2*w)) ^ k / 2 ^ w % 2 ^ w
 | 0,x=>by simp [mk]
 | n+1,x=>by
  have h1:=Nat.mod_lt x (Zj2 w)
  have h2:=Nat.mod_lt (x / 2 ^ w) (Zj2 w)
  have h3:2*2 ^ w≤2 ^ (2*w):=by
   have:2 ^ (w+1)≤2 ^ (2*w):=Nat.pow_le_pow_right (by decide) (by omega)
   rwa [Nat.pow_succ,Nat.mul_comm] at this
  have e1:x / 2 ^ w / 2 ^ (2*w)=x / 2 ^ (2*w) / 2 ^ w:=by rw [Nat.div_div_eq_div_mul,Nat.div_div_eq_div_mul,Nat.mul_comm]
  have e:((x / 2 ^ w)&&& mk w (n+1))+(x&&& mk w (n+1))=2 ^ (2*w)*(((x / 2 ^ (2*w) / 2 ^ w)&&& mk w n)+((x / 2 ^ (2*w))&&& mk w n))+(x % 2 ^ w+(x / 2 ^ w) % 2 ^ w):=by
   rw [Zki,Zki,e1,Nat.mul_add];omega
  obtain ⟨i1,i2⟩:=Zu8 w hw n (x / 2 ^ (2*w))
  rw [e]
  generalize (((x / 2 ^ (2*w) / 2 ^ w)&&& mk w n)+((x / 2 ^ (2*w))&&& mk w n))=y at*
  generalize 2 ^ (2*w)=q at*
  refine ⟨?_,fun k hk=>?_⟩
  ·have h4:(y+1)*q≤q ^ n*q:=Nat.mul_le_mul_right _ i1
   rw [Nat.pow_succ]
   have:(y+1)*q=q*y+q:=by rw [Nat.add_mul,Nat.one_mul,Nat.mul_comm]
   omega
  ·cases k with
   | zero=>exact ⟨x % 2 ^ w,x / 2 ^ w % 2 ^ w,h1,h2,by rw [Nat.pow_zero,Nat.div_one,Nat.div_one,Y0d _ _ _ (by omega)]⟩
   | succ k=>
    obtain ⟨a,b,ha,hb,hab⟩:=i2 k (by omega)
    refine ⟨a,b,ha,hb,?_⟩
    rw [Nat.pow_succ,Nat.mul_comm (q ^ k),←Nat.div_div_eq_div_mul,Yar _ _ _ (by omega),hab,←Nat.div_div_eq_div_mul]
theorem You (c:Nat)(h:c<256 ^ 8)(hk:∀k,k<8→c / 256 ^ k % 256≤8):(c+c / 256+(c+c / 256) / 65536+(c+c / 256+(c+c / 256) / 65536) / 4294967296) % 128=ds 8 8 c∧c+c / 256<18446744073709551616∧c+c / 256+(c+c / 256) / 65536<18446744073709551616∧c+c / 256+(c+c / 256) / 65536+(c+c / 256+(c+c / 256) / 65536) / 4294967296<18446744073709551616:=by
 have k0:=hk 0 (by omega)
 have k1:=hk 1 (by omega)
 have k2:=hk 2 (by omega)
 have k3:=hk 3 (by omega)
 have k4:=hk 4 (by omega)
 have k5:=hk 5 (by omega)
 have k6:=hk 6 (by omega)
 have k7:=hk 7 (by omega)
 simp only [Nat.reducePow,Nat.div_one] at k0 k1 k2 k3 k4 k5 k6 k7 h
 simp only [ds,Nat.reducePow]
 obtain ⟨b0,e0⟩:∃b,b=c % 256:=⟨_,rfl⟩
 obtain ⟨b1,e1⟩:∃b,b=c / 256 % 256:=⟨_,rfl⟩
 obtain ⟨b2,e2⟩:∃b,b=c / 65536 % 256:=⟨_,rfl⟩
 obtain ⟨b3,e3⟩:∃b,b=c / 16777216 % 256:=⟨_,rfl⟩
 obtain ⟨b4,e4⟩:∃b,b=c / 4294967296 % 256:=⟨_,rfl⟩
 obtain ⟨b5,e5⟩:∃b,b=c / 1099511627776 % 256:=⟨_,rfl⟩
 obtain ⟨b6,e6⟩:∃b,b=c / 281474976710656 % 256:=⟨_,rfl⟩
 obtain ⟨b7,e7⟩:∃b,b=c / 72057594037927936 % 256:=⟨_,rfl⟩
 have ec:c=b0+256*b1+65536*b2+16777216*b3+4294967296*b4+1099511627776*b5+281474976710656*b6+72057594037927936*b7:=by omega
 have h0:b0≤8:=by omega
 have h1:b1≤8:=by omega
 have h2:b2≤8:=by omega
 have h3:b3≤8:=by omega
 have h4:b4≤8:=by omega
 have h5:b5≤8:=by omega
 have h6:b6≤8:=by omega
 have h7:b7≤8:=by omega
 have s:c % 256+(c / 256 % 256+(c / 256 / 256 % 256+(c / 256 / 256 / 256 % 256+(c / 256 / 256 / 256 / 256 % 256+(c / 256 / 256 / 256 / 256 / 256 % 256+(c / 256 / 256 / 256 / 256 / 256 / 256 % 256+(c / 256 / 256 / 256 / 256 / 256 / 256 / 256 % 256+0)))))))=b0+b1+b2+b3+b4+b5+b6+b7:=by
  clear hk
  simp only [Nat.div_div_eq_div_mul,Nat.reduceMul]
  omega
 rw [s]
 clear s k0 k1 k2 k3 k4 k5 k6 k7 e0 e1 e2 e3 e4 e5 e6 e7 hk
 have d1:c / 256=b1+256*b2+65536*b3+16777216*b4+4294967296*b5+1099511627776*b6+281474976710656*b7:=by omega
 obtain ⟨y,hy⟩:∃y,y=c+c / 256:=⟨_,rfl⟩
 have y1:y=(b0+b1)+256*(b1+b2)+65536*(b2+b3)+16777216*(b3+b4)+4294967296*(b4+b5)+1099511627776*(b5+b6)+281474976710656*(b6+b7)+72057594037927936*b7:=by omega
 rw [←hy]
 clear hy d1 ec h
 obtain ⟨z,hz⟩:∃z,z=y / 65536:=⟨_,rfl⟩
 have z1:z=(b2+b3)+256*(b3+b4)+65536*(b4+b5)+16777216*(b5+b6)+4294967296*(b6+b7)+1099511627776*b7:=by omega
 rw [←hz]
 clear hz
 obtain ⟨v,hv⟩:∃v,v=(y+z) / 4294967296:=⟨_,rfl⟩
 have v1:v=(b4+b5+b6+b7)+256*(b5+b6+b7)+65536*(b6+b7)+16777216*b7:=by omega
 rw [←hv]
 clear hv
 refine ⟨?_,by omega,by omega,by omega⟩
 have:y+z+v=(b0+b1+b2+b3+b4+b5+b6+b7)+128*(2*(b1+b2+b3+b4+b5+b6+b7)+512*(b2+b3+b4+b5+b6+b7)+131072*(b3+b4+b5+b6+b7)+33554432*(b4+b5+b6+b7)+8589934592*(b5+b6+b7)+2199023255552*(b6+b7)+562949953421312*b7):=by omega
 rw [this,Nat.add_mul_mod_self_left]
 omega
theorem mk1:mk 1 32=6148914691236517205:=by decide
theorem mk2:mk 2 16=3689348814741910323:=by decide
theorem mk4:mk 4 8=1085102592571150095:=by decide
theorem Ynf (x:Nat)(hx:x<2 ^ 64):
  let a:=((x / 2&&& 6148914691236517205)+(x&&& 6148914691236517205))
  let b:=((a / 4&&& 3689348814741910323)+(a&&& 3689348814741910323))
  let c:=((b / 16+b)&&& 1085102592571150095)
  let d:=c+c / 256
  let e:=d+d / 65536
  let f:=e+e / 4294967296
  f % 128=ds 1 64 x∧a<18446744073709551616∧b<18446744073709551616∧b / 16+b<18446744073709551616∧d<18446744073709551616∧e<18446744073709551616∧f<18446744073709551616:=by
 intro a b c d e f
 have s1:=Zwe 1 (by decide) 32 x
 have t1:=Zu8 1 (by decide) 32 x
 have s2:=Zwe 2 (by decide) 16 a
 have t2:=Zu8 2 (by decide) 16 a
 rw [mk1] at s1 t1
 rw [mk2] at s2 t2
 have ha:a<18446744073709551616:=t1.1
 have hb:b<18446744073709551616:=t2.1
 have da:∀k,k<32→a / 4 ^ k % 4≤2:=fun k hk=>by
  obtain ⟨p,q,hp,hq,e⟩:=t1.2 k hk
  have e':a / 4 ^ k % 4=x / 4 ^ k % 2+x / 4 ^ k / 2 % 2:=e
  omega
 have db:∀k,k<16→b / 16 ^ k % 16≤4:=fun k hk=>by
  obtain ⟨p,q,hp,hq,e⟩:=t2.2 k hk
  have e':b / 16 ^ k % 16=a / 16 ^ k % 4+a / 16 ^ k / 4 % 4:=e
  have h1:=da (2*k) (by omega)
  have h2:=da (2*k+1) (by omega)
  rw [Nat.pow_mul] at h1
  rw [Nat.pow_succ,Nat.pow_mul,←Nat.div_div_eq_div_mul] at h2
  simp only [Nat.reducePow] at h1 h2
  omega
 have hle:=Y05 16 b (by simpa using hb) db
 obtain ⟨n1,n2,n3⟩:=Y9x 8 b hle
 rw [mk4] at n1 n2 n3
 have hc:=You c n2 n3
 have hbb:b / 16+b<18446744073709551616:=by
  have h15:=db 15 (by omega)
  simp only [Nat.reducePow] at h15
  omega
 refine ⟨?_,ha,hb,hbb,hc.2.1,hc.2.2.1,hc.2.2.2⟩
 rw [hc.1,n1]
 exact s2.trans s1
theorem Zqn:∀(n x:Nat),ds 1 n x=((List.range n).filter (fun i=>x.testBit i)).length
 | 0,x=>rfl
 | n+1,x=>by
  rw [ds,Zqn n,List.range_succ_eq_map,List.filter_cons]
  have e:((List.range n).map Nat.succ).filter (fun i=>x.testBit i)=((List.range n).filter (fun i=>(x / 2 ^ 1).testBit i)).map Nat.succ:=by
   rw [List.filter_map]
   congr 1
   apply List.filter_congr
   intro i _
   simp [Nat.testBit_succ]
  rw [e]
  have h0:x.testBit 0=decide (x % 2=1):=by simp [Nat.testBit_zero]
  rw [h0]
  by_cases h:x % 2=1
  ·simp [h];omega
  ·have:x % 2=0:=by omega
   simp [this]
end Go.Wb
namespace Go.Wb
open Go
section ve
variable {α β : Type} [Inhabited α] {n : Nat}
def ve (v:Vector α n)(i:Nat):α:=if h:i<n then v[i] else default
theorem Z31 (v:Vector α n)(i:Nat)(h:i<n):Vector.get v ⟨i,h⟩=ve v i:=by
 unfold ve;rw [dif_pos h];rfl
theorem Z6o (v:Vector α n)(i:Nat)(h:i<n):ve v i=v[i]:=by unfold ve;rw [dif_pos h]
theorem Zck {v w:Vector α n}(h:∀i,i<n→ve v i=ve w i):v=w:=by
 apply Vector.ext
 intro i hi
 have:=h i hi
 rwa [Z6o _ _ hi,Z6o _ _ hi] at this
theorem Zjl (v:Vector α n)(i:Nat)(hi:i<n)(x:α)(j:Nat)(hj:j<n):ve (Vector.set v i x hi) j=if i=j then x else ve v j:=by
 rw [Z6o _ _ hj,Z6o _ _ hj,Vector.getElem_set]
theorem Yi1 (x:α)(j:Nat)(hj:j<n):ve (Vector.replicate n x) j=x:=by
 rw [Z6o _ _ hj,Vector.getElem_replicate]
theorem Zez (g:Nat→α)(j:Nat)(hj:j<n):ve (Vector.ofFn (n:=n) fun i=>g i.1) j=g j:=by
 rw [Z6o _ _ hj,Vector.getElem_ofFn]
def Z3a (g:Nat→α)(b:Vector α n)(i:Nat):Vector α n:=Vector.ofFn fun k=>if k.1<i then g k.1 else ve b k.1
theorem Zbj (g:Nat→α)(b:Vector α n)(i j:Nat)(hj:j<n):ve (Z3a g b i) j=if j<i then g j else ve b j:=by
 unfold Z3a
 rw [Z6o _ _ hj,Vector.getElem_ofFn]
theorem Z9a (g:Nat→α)(b:Vector α n):Z3a g b 0=b:=Zck fun j hj=>by rw [Zbj _ _ _ _ hj,if_neg (by omega)]
theorem Z96 (g:Nat→α)(b:Vector α n)(i:Nat)(hi:i<n):Vector.set (Z3a g b i) i (g i) hi=Z3a g b (i+1):=Zck fun j hj=>by
 rw [Zjl _ _ _ _ _ hj,Zbj _ _ _ _ hj,Zbj _ _ _ _ hj]
 by_cases h1:i=j
 ·subst h1;simp
 ·rw [if_neg h1]
  by_cases h2:j<i
  ·rw [if_pos h2,if_pos (by omega)]
  ·rw [if_neg h2,if_neg (by omega)]
theorem Z91 (g:Nat→α)(b:Vector α n):Z3a g b n=Vector.ofFn (n:=n) fun i=>g i.1:=Zck fun j hj=>by rw [Zbj _ _ _ _ hj,if_pos hj,Zez _ _ hj]
end ve
section yf
variable {α β σ : Type}
def yf (y:σ→α→Option (Lp σ)):List α→σ→Option (Lp σ)
 | [],s=>some (.go s)
 | x::l,s=>(y s x).bind fun r=>match r with
  | .go s'=>yf y l s'
  | .out c s'=>some (.out c s')
def yb (r:Lp σ)(k:σ→Option (Lp σ)):Option (Lp σ):=match r with
 | .go s=>k s
 | .out c s=>some (.out c s)
theorem Zxh (y:σ→α→Option (Lp σ)):∀(l m:List α) (s:σ),yf y (l++m) s=(yf y l s).bind fun r=>yb r (yf y m)
 | [],m,s=>by simp [yf,yb]
 | x::l,m,s=>by
  rw [List.cons_append,yf,yf]
  cases h:y s x with
  | none=>rfl
  | some r=>
   rw [Option.bind_some,Option.bind_some]
   cases r with
   | go s'=>exact Zxh y l m s'
   | out c s'=>rfl
theorem Y8r:∀(l acc:List α),acc.length+l.length≤lim→yf Zky l acc=some (.go (acc++l))
 | [],acc,_=>by simp [yf]
 | x::l,acc,h=>by
  simp only [List.length_cons] at h
  rw [yf]
  show ((Z0v acc [x]).bind fun m=>some (Lp.go m:Lp (List α))).bind _=_
  rw [show Z0v acc [x]=some (acc++[x]) by unfold Z0v;rw [Nat.ble_eq_true_of_le (by simp;omega)];rfl]
  rw [Option.bind_some,Option.bind_some]
  show yf Zky l (acc++[x])=_
  rw [Y8r l (acc++[x]) (by simp;omega)]
  simp
theorem Yki (l:List α)(q:Itr α)(hq:∀(y:List α→α→Option (Lp (List α))) (s:List α),q.run (List α) y (.go s)=yf y l s)(h:l.length≤lim):Zo5 q=some l:=by
 unfold Zo5
 rw [hq,Y8r l [] (by simpa using h)]
 rfl
end yf
end Go.Wb
namespace Go.Wb
open Go
section sort
variable {α : Type} (lt : α → α → Bool)
def Z0t (x:α):List α→List α
 | []=>[x]
 | y::R=>bif lt x y then y::Z0t x R else x::y::R
def srt (l:List α):List α:=(l.foldl (fun R x=>Z0t lt x R) []).reverse
structure Swo:Prop where
 asym:∀a b,lt a b=true→lt b a=false
 neg:∀a b c,lt a b=false→lt b c=false→lt a c=false
def eqv (a b:α):Bool:= !lt a b&& !lt b a
def Z1j (l:List α):Prop:=l.Pairwise (fun a b=>lt b a=false)
variable {lt}
theorem Z8z (h:Swo lt)(a:α):eqv lt a a=true:=by
 unfold eqv
 cases e:lt a a
 ·rfl
 ·rw [h.asym a a e] at e;cases e
theorem Y8t (h:Swo lt){z x y:α}(hx:eqv lt z x=true)(hy:eqv lt z y=true):lt x y=false:=by
 unfold eqv at hx hy
 simp only [Bool.and_eq_true,Bool.not_eq_true'] at hx hy
 exact h.neg x z y hx.2 hy.1
theorem Ye7 (h:Swo lt){z x y:α}(hxy:lt x y=true):[x].filter (eqv lt z)++[y].filter (eqv lt z)=[y].filter (eqv lt z)++[x].filter (eqv lt z):=by
 cases hx:eqv lt z x
 ·simp [hx]
 ·cases hy:eqv lt z y
  ·simp [hy]
  ·rw [Y8t h hx hy] at hxy;cases hxy
theorem Ztx {x u:α}:∀{R:List α},u∈Z0t lt x R↔u=x∨u∈R
 | []=>by simp [Z0t]
 | y::R=>by
  rw [Z0t]
  cases lt x y
  ·simp
  ·simp only [cond_true,List.mem_cons,Ztx]
   constructor
   ·rintro (h | h | h)
    ·exact .inr (.inl h)
    ·exact .inl h
    ·exact .inr (.inr h)
   ·rintro (h | h | h)
    ·exact .inr (.inl h)
    ·exact .inl h
    ·exact .inr (.inr h)
theorem Y9m (h:Swo lt)(x:α):∀R:List α,Z1j lt R.reverse→Z1j lt (Z0t lt x R).reverse∧∀z,(Z0t lt x R).reverse.filter (eqv lt z)=R.reverse.filter (eqv lt z)++[x].filter (eqv lt z)
 | [],_=>by
  refine ⟨?_,fun z=>by simp [Z0t]⟩
  simp [Z0t,Z1j]
 | y::R,hs=>by
  rw [List.reverse_cons] at hs
  have hs':=hs
  unfold Z1j at hs
  rw [List.pairwise_append] at hs
  obtain ⟨h1,_,h3⟩:=hs
  have h3':∀u∈R,lt y u=false:=fun u hu=>h3 u (by simpa using hu) y (by simp)
  obtain ⟨i1,i2⟩:=Y9m h x R h1
  rw [Z0t]
  cases hxy:lt x y
  ·rw [cond_false]
   refine ⟨?_,fun z=>by rw [List.reverse_cons,List.filter_append]⟩
   rw [List.reverse_cons,List.reverse_cons]
   unfold Z1j
   rw [List.pairwise_append]
   refine ⟨hs',by simp,fun u hu v hv=>?_⟩
   obtain rfl:v=x:=by simpa using hv
   simp only [List.mem_append,List.mem_reverse,List.mem_singleton] at hu
   rcases hu with hu | rfl
   ·exact h.neg _ y _ hxy (h3' u hu)
   ·exact hxy
  ·rw [cond_true]
   rw [List.reverse_cons,List.reverse_cons]
   refine ⟨?_,fun z=>?_⟩
   ·unfold Z1j
    rw [List.pairwise_append]
    refine ⟨i1,by simp,fun u hu v hv=>?_⟩
    obtain rfl:v=y:=by simpa using hv
    rw [List.mem_reverse,Ztx] at hu
    rcases hu with rfl | hu
    ·exact h.asym _ _ hxy
    ·exact h3' u hu
   ·rw [List.filter_append,i2,List.filter_append,List.append_assoc,List.append_assoc,Ye7 h hxy]
theorem Zuw (h:Swo lt):∀(l R:List α),Z1j lt R.reverse→Z1j lt (l.foldl (fun R x=>Z0t lt x R) R).reverse∧∀z,(l.foldl (fun R x=>Z0t lt x R) R).reverse.filter (eqv lt z)=R.reverse.filter (eqv lt z)++l.filter (eqv lt z)
 | [],R,hR=>⟨hR,fun z=>by simp⟩
 | x::l,R,hR=>by
  obtain ⟨h1,h2⟩:=Y9m h x R hR
  obtain ⟨h3,h4⟩:=Zuw h l _ h1
  refine ⟨h3,fun z=>?_⟩
  rw [List.foldl_cons,h4,h2,List.append_assoc]
  congr 1
  rw [←List.filter_append];rfl
theorem Zab (h:Swo lt)(l:List α):Z1j lt (srt lt l):=(Zuw h l [] (by simp [Z1j])).1
theorem Z9t (h:Swo lt)(l:List α)(z:α):(srt lt l).filter (eqv lt z)=l.filter (eqv lt z):=by
 have:=(Zuw h l [] (by simp [Z1j])).2 z
 simpa [srt] using this
theorem Zxp (h:Swo lt):∀A B:List α,Z1j lt A→Z1j lt B→(∀z,A.filter (eqv lt z)=B.filter (eqv lt z))→A=B
 | [],[],_,_,_=>rfl
 | [],b::B,_,_,hf=>by
  have:=hf b
  rw [List.filter_cons_of_pos (Z8z h b)] at this
  cases this
 | a::A,[],_,_,hf=>by
  have:=hf a
  rw [List.filter_cons_of_pos (Z8z h a)] at this
  cases this
 | a::A,b::B,hA,hB,hf=>by
  unfold Z1j at hA hB
  rw [List.pairwise_cons] at hA hB
  have ha:a∈b::B:=by
   have h1:=hf a
   rw [List.filter_cons_of_pos (Z8z h a)] at h1
   have:a∈(b::B).filter (eqv lt a):=by rw [←h1];simp
   exact (List.mem_filter.1 this).1
  have hb:b∈a::A:=by
   have h1:=hf b
   rw [List.filter_cons_of_pos (Z8z h b)] at h1
   have:b∈(a::A).filter (eqv lt b):=by rw [h1];simp
   exact (List.mem_filter.1 this).1
  have e1:lt b a=false:=by
   rcases List.mem_cons.1 hb with e | hb
   ·subst e;have:=Z8z h b;unfold eqv at this;simpa using this
   ·exact hA.1 b hb
  have e2:lt a b=false:=by
   rcases List.mem_cons.1 ha with e | ha
   ·subst e;have:=Z8z h a;unfold eqv at this;simpa using this
   ·exact hB.1 a ha
  have hab:eqv lt a b=true:=by unfold eqv;rw [e1,e2];rfl
  have h1:=hf a
  rw [List.filter_cons_of_pos (Z8z h a),List.filter_cons_of_pos hab] at h1
  have e:=(List.cons.inj h1).1
  subst e
  rw [Zxp h A B hA.2 hB.2 fun z=>?_]
  have:=hf z
  cases hz:eqv lt z a
  ·rwa [List.filter_cons_of_neg (by simp [hz]),List.filter_cons_of_neg (by simp [hz])] at this
  ·rw [List.filter_cons_of_pos hz,List.filter_cons_of_pos hz] at this
   exact (List.cons.inj this).2
theorem Y5y (h:Swo lt){A L:List α}(hA:Z1j lt A)(hf:∀z,A.filter (eqv lt z)=L.filter (eqv lt z)):A=srt lt L:=
 Zxp h _ _ hA (Zab h L) fun z=>(hf z).trans (Z9t h L z).symm
theorem Zg2 (h:Swo lt){A:List α}(hA:Z1j lt A):srt lt A=A:=(Y5y h hA fun _=>rfl).symm
theorem Y13 (h:Swo lt)(A B:List α):srt lt (srt lt A++srt lt B)=srt lt (A++B):=
 Zxp h _ _ (Zab h _) (Zab h _) fun z=>by
  rw [Z9t h,Z9t h,List.filter_append,List.filter_append,Z9t h,Z9t h]
theorem Y7d (h:Swo lt){l:List α}{x:α}:x∈srt lt l↔x∈l:=by
 have hz:=Z9t h l x
 constructor
 ·intro hx
  have:x∈(srt lt l).filter (eqv lt x):=List.mem_filter.2 ⟨hx,Z8z h x⟩
  rw [hz] at this
  exact (List.mem_filter.1 this).1
 ·intro hx
  have:x∈l.filter (eqv lt x):=List.mem_filter.2 ⟨hx,Z8z h x⟩
  rw [←hz] at this
  exact (List.mem_filter.1 this).1
theorem Zte (h:Swo lt){X1 X2 Y1 Y2:List α}(hX:Z1j lt (X1++X2))(hY:Z1j lt (Y1++Y2))(h1:∀x∈X1,∀y∈Y2,lt y x=false)(h2:∀y∈Y1,∀x∈X2,lt y x=true):
  srt lt (X1++X2++(Y1++Y2))=srt lt (X1++Y1)++srt lt (X2++Y2):=by
 unfold Z1j at hX hY
 rw [List.pairwise_append] at hX hY
 refine (Y5y h ?_ fun z=>?_).symm
 ·unfold Z1j
  rw [List.pairwise_append]
  refine ⟨Zab h _,Zab h _,fun u hu v hv=>?_⟩
  rw [Y7d h,List.mem_append] at hu hv
  rcases hu with hu | hu<;>rcases hv with hv | hv
  ·exact hX.2.2 u hu v hv
  ·exact h1 u hu v hv
  ·exact h.asym _ _ (h2 u hu v hv)
  ·exact hY.2.2 u hu v hv
 ·rw [List.filter_append,Z9t h,Z9t h]
  simp only [List.filter_append,List.append_assoc]
  congr 1
  rw [←List.append_assoc,←List.append_assoc]
  congr 1
  cases hy:Y1.filter (eqv lt z) with
  | nil=>simp
  | cons y ys=>
   cases hx:X2.filter (eqv lt z) with
   | nil=>simp
   | cons x xs=>
    have a1:y∈Y1.filter (eqv lt z):=by rw [hy];simp
    have a2:x∈X2.filter (eqv lt z):=by rw [hx];simp
    rw [List.mem_filter] at a1 a2
    have:=h2 y a1.1 x a2.1
    rw [Y8t h a1.2 a2.2] at this
    cases this
theorem Z3d (h:Swo lt)(l:List α):(srt lt l).length=l.length:=by
 have hr:∀(x:α) (R:List α),(Z0t lt x R).length=R.length+1:=by
  intro x R
  induction R with
  | nil=>rfl
  | cons y R ih=>rw [Z0t];cases lt x y<;>simp [ih]
 have:∀(l R:List α),(l.foldl (fun R x=>Z0t lt x R) R).length=l.length+R.length:=by
  intro l
  induction l with
  | nil=>intro R;simp
  | cons x l ih=>intro R;rw [List.foldl_cons,ih,hr];simp;omega
 unfold srt
 rw [List.length_reverse,this];simp
end sort
end Go.Wb
