/- A part of the proof. -/
import Derived.Test.YtjppkmpecdbepaaGreatDoorL0
import Derived.Laws.StructEq
import Derived.ChangeKeysEq
import Derived.WalkKit
import Derived.ProofKit
import Derived.OpenShut
import Derived.Carry
import Derived.JoinedOf
import Derived.Laws.MakeOwn
import Derived.Laws.OwnMore
import Derived.ArgAppend
import Derived.Deep.AppendSrc
import Derived.KernelRfl
import Derived.Maps.Keyed
import Derived.DeepKeys5
import Derived.MapKept
import Derived.Maps.RangeRun
import Derived.LaidEql
import Derived.Stop.Asserts
import Derived.RowKitTokens
set_option linter.unusedVariables false
set_option linter.unusedSimpArgs false
namespace Go.Wb
open Go
section own
variable {C : Ctx} {S S' : St} {o : Oper} {α : Type}
theorem Z96 {T U E:TypeId}{k:Kd α}{l:List α}{p:Operand}(ho:o.op= .binOp .eql T p (.const (.slice none 0 0)) U)(hd:Zq o C.N=true)(ht:Sl C.P T E k)(hp:Val C S p (rd (Z1 k) l)):
  OpT C o S (fun S'=> ∃b:Bool,(b=true→l=[])∧S'=S.put o.dst (rd Z3 b)):=
 OpT.value (by simp [ho]) fun O a w hh=>by
  obtain ⟨A,c,h1,hlc,hc63,hcells⟩:=Z58 (hp.of hh)
  refine ⟨.bool A.isNone,w,_,?_,⟨A.isNone,fun h=>?_,rfl⟩,O,hh.yield_same (Z2r hd) Z49⟩
  ·have h2:=run_equal_slice_nil (P:=C.P) w T E A l.length c ht.u
   have hg:(eqGuard .eql T p (.const (.slice none 0 0)) (.slice A l.length c) (.slice none 0 0)).run C.P w= .ok () w:=rfl
   have h3:a.eval (.const (.slice none 0 0))= .slice none 0 0:=rfl
   simp only [execOp,ho,h1,h3,Sem.run_bind,hg,Result.andThen_ok,binOp,h2,Sem.run_pure]
  ·cases l with
   | nil=>rfl
   | cons x l=>
    obtain ⟨b,off,cl,rfl,_⟩:=hcells (by simp)
    cases h
theorem Y6f {O:Nat→Nat}{a:Act}{w:World}{i n c m g:Nat}{E:TypeId}{k:Kd α}{l:List α}(hh:HoldO C S O a w)(hd:Zq o C.N=true)(hr:S.r i=Zi (.slice (some ⟨g,0,none⟩) n c) E k l)(hm:m≤l.length):
  Hold C ((S.put o.dst (Zg (.slice (some ⟨g,0,none⟩) m c))).setr i (Zi (.slice (some ⟨g,0,none⟩) m c) E k (l.take m))) (a.put o.dst (.slice (some ⟨g,0,none⟩) m c)) w:=by
 have h3:=hh.res i
 rw [hr] at h3
 obtain ⟨cl,hown,hc,hmm⟩:=h3
 have t:Turns O i w (.slice (some ⟨g,0,none⟩) n c) (.slice (some ⟨g,0,none⟩) m c) w:=
  ⟨⟨rfl,rfl,rfl,Nat.le_refl _,fun _ _ _=>rfl⟩,hmm,.inl rfl,fun b hb=>by
   have:=hmm b hb
   exact (hh.own b (by rw [this];exact Z0m i)).2⟩
 refine Z5a hh t hd _ rfl (cl:=cl.take (m*k.sz)) ?_ ((hc.take m hm).mono (t.ext (C:=C)))
 rcases hown.2 with ⟨e,h0⟩ | ⟨g',cap,cur,e,hb,hg,hnc,hcm,hcs,htk⟩
 ·cases e
 ·obtain ⟨rfl,rfl,rfl⟩:g=g'∧n=l.length∧c=cap:=by
   injection e with e1 e2 e3
   injection e1 with e1
   injection e1 with e1
   exact ⟨e1,e2,e3⟩
  have hml:(l.take m).length=m:=by simp;omega
  have hle:m*k.sz≤l.length*k.sz:=Nat.mul_le_mul_right _ hm
  rw [hml]
  refine ⟨?_,.inr ⟨g,c,cur,rfl,hb,hg,by omega,hcm,hcs,?_⟩⟩
  ·rw [List.length_take,hc.len];omega
  ·rw [←htk,List.take_take,Nat.min_eq_left hle]
theorem Y1l {T E E':TypeId}{k k':Kd α}{l s:List α}{v:Value}{hi:Int}{p r:Operand}{jk:IntKind}(i:Nat)(h:Z5c l hi=some s)(ho:o.op= .slice T p none (some r) none)(hd:Zq o C.N=true)(ht:Sl C.P T E' k')(hp:Val C S p (Zg v))(hr:S.r i=Zi v E k l)(hq:Val C S r (rd (Z0 jk) hi)):
  OpT C o S (fun S'=> ∃v',S'=(S.put o.dst (Zg v')).setr i (Zi v' E k s)):=
 OpT.value (by simp [ho]) fun O a w hh=>by
  obtain ⟨h0,h1,rfl⟩:=Zt8 h
  have h2:=Z56 (hp.of hh)
  have h3:=(Z0q (hq.of hh)).1
  have h4:=hh.res i
  rw [hr] at h4
  obtain ⟨cl,hown,hc,hm⟩:=h4
  rcases hown.2 with ⟨rfl,hn⟩ | ⟨g,cap,cur,rfl,hb,hg,hnc,hcm,hcs,htk⟩
  ·have hz:hi.toNat=0:=by omega
   have hl0:l=[]:=List.eq_nil_of_length_eq_zero hn
   subst hl0
   refine ⟨.slice none 0 0,w,_,?_,⟨.slice none 0 0,rfl⟩,?_⟩
   ·have hbd:(Instr.sliceBounds true 0 0 none (some (.int jk hi)) none).run C.P w= .ok (0,hi.toNat,0) w:=by
     simp [Instr.sliceBounds,run_sliceBound _ _ _ _ _ (show 0≤hi by omega) (show hi≤((0:Nat):Int) by omega)]
    have:=Z8o (P:=C.P) (w:=w) ht none 0 0 0 hi.toNat 0 none (some (.int jk hi)) none hbd
    simp [execOp,ho,h2,h3,this,hz]
   ·have:=(hh.newnil i E k)
    have h5:HoldO C (S.setr i (Zi (.slice none 0 0) E k [])) O a w:=this
    have h6:=h5.yield_same (d:=o.dst) (A:=Zg (.slice none 0 0)) (v:= .slice none 0 0) (Z2r hd) rfl
    refine ⟨O,?_⟩
    have e:(S.setr i (Zi (.slice none 0 0) E k [])).put o.dst (Zg (.slice none 0 0))=(S.put o.dst (Zg (.slice none 0 0))).setr i (Zi (.slice none 0 0) E k (List.take hi.toNat [])):=by
     cases o.dst<;>simp [St.put,St.set,St.setr]
    rwa [e] at h6
  ·refine ⟨.slice (some ⟨g,0,none⟩) hi.toNat cap,w,_,?_,⟨_,rfl⟩,Y6f hh hd hr h1⟩
   have hbd:(Instr.sliceBounds true l.length cap none (some (.int jk hi)) none).run C.P w= .ok (0,hi.toNat,cap) w:=by
    simp [Instr.sliceBounds,run_sliceBound _ _ _ _ _ (show 0≤hi by omega) (show hi≤(cap:Int) by omega)]
   have:=Z8o (P:=C.P) (w:=w) ht (some ⟨g,0,none⟩) l.length cap 0 hi.toNat cap none (some (.int jk hi)) none hbd
   simp [execOp,ho,h2,h3,this,Z38]
def Z9j (v:Value)(lo sz:Nat):Zb:=
 ⟨fun _ _ _ u=>(∃g n c,v= .slice (some ⟨g,0,none⟩) n c∧∃A,u= .slice A (n - lo) (c - lo)∧(lo<n→A=some ⟨g,lo*sz,none⟩))∨(v= .slice none 0 0∧∃A c,u= .slice A 0 c∧c=0),fun _ h=>h⟩
instance (v:Value)(lo sz:Nat):Dup (Z9j v lo sz):=⟨fun h=>h⟩
theorem Zn3 {T E E':TypeId}{k:Kd α}{l s:List α}{v:Value}{lo:Int}{p r:Operand}{jk:IntKind}(i:Nat)(h:Z3z l lo=some s)(ho:o.op= .slice T p (some r) none none)(hd:Zq o C.N=true)(ht:Sl C.P T E' k)(hp:Val C S p (Zg v))(hr:S.r i=Zi v E k l)(hq:Val C S r (rd (Z0 jk) lo)):
  OpE C o S (S.put o.dst (Z9j v lo.toNat k.sz)):=
 OpE.plain (by simp [ho]) hd fun O a w hh=>by
  obtain ⟨h0,h1,rfl⟩:=Z8v h
  have h2:=Z56 (hp.of hh)
  have h3:=(Z0q (hq.of hh)).1
  have h4:=hh.res i
  rw [hr] at h4
  obtain ⟨cl,hown,hc,hm⟩:=h4
  rcases hown.2 with ⟨rfl,hn⟩ | ⟨g,cap,cur,rfl,hb,hg,hnc,hcm,hcs,htk⟩
  ·have hz:lo.toNat=0:=by omega
   have hbd:(Instr.sliceBounds true 0 0 (some (.int jk lo)) none none).run C.P w= .ok (lo.toNat,0,0) w:=by
    simp [Instr.sliceBounds,run_sliceBound _ _ _ _ _ h0 (show lo≤((0:Nat):Int) by omega)]
   have:=Z8o (P:=C.P) (w:=w) ht none 0 0 lo.toNat 0 0 (some (.int jk lo)) none none hbd
   exact ⟨.slice none 0 0,by simp [execOp,ho,h2,h3,this,hz],.inr ⟨rfl,_,_,rfl,rfl⟩⟩
  ·have hbd:(Instr.sliceBounds true l.length cap (some (.int jk lo)) none none).run C.P w= .ok (lo.toNat,l.length,cap) w:=by
    simp [Instr.sliceBounds,run_sliceBound _ _ _ _ _ h0 (show lo≤(l.length:Int) by omega)]
   have:=Z8o (P:=C.P) (w:=w) ht (some ⟨g,0,none⟩) l.length cap lo.toNat l.length cap (some (.int jk lo)) none none hbd
   refine ⟨_,by simp [execOp,ho,h2,h3,this];rfl,.inl ⟨g,_,_,rfl,_,rfl,fun hlt=>?_⟩⟩
   rw [if_neg (by omega)]
   simp [Z38]
theorem Y3b {w:World}{H:HS}{k:Kd α}{z:α}{zc:List Value}(hz:KZ k z zc):∀n,Cells k w H (List.replicate n z) (List.replicate n zc).flatten:=by
 intro n
 induction n with
 | zero=>rfl
 | succ n ih=>rw [List.replicate_succ,List.replicate_succ,List.flatten_cons];exact ⟨_,_,rfl,hz w H,ih⟩
theorem Zxy {T E:TypeId}{k:Kd α}{l:List α}{v:Value}{z:α}{lo:Nat}{p:Operand}(i:Nat)(ho:o.op= .call {callee:= .builtin .clear,args:= #[p],argTypes:= #[T]})(hd:o.dst=none)(ht:Sl C.P T E k)(hz:Zr C.P E k z)(hpos:Nat.blt 0 k.sz=true)(hp:Val C S p (Z9j v lo k.sz))(hr:S.r i=Zi v E k l)(hlo:lo≤l.length):
  OpE C o S (S.setr i (Zi v E k (l.take lo++List.replicate (l.length - lo) z))):=
 OpE.value (by simp [ho]) fun O a w hh=>by
  have h4:=hh.res i
  rw [hr] at h4
  obtain ⟨cl,hown,hc,hm⟩:=h4
  obtain ⟨hu,ti,hti,hs⟩:=ht.out
  have hpos':0<k.sz:=by simpa using hpos
  have hsame:l.length - lo=0→l.take lo++List.replicate (l.length - lo) z=l:=fun e=>by
   rw [e,List.replicate_zero,List.append_nil,List.take_of_length_le (by omega)]
  have nothing:l.length - lo=0→(∃A c,a.eval p= .slice A 0 c)→∃v' w',(execOp a.eval o).run C.P w= .ok (.value v') w'∧Hold C (S.setr i (Zi v E k (l.take lo++List.replicate (l.length - lo) z))) (a.put o.dst v') w':=by
   rintro e ⟨A,c,h1⟩
   refine ⟨.tuple #[],w,?_,O,?_⟩
   ·cases A<;>simp [execOp,ho,resolve,invoke,builtin,Builtin.clear_,h1,run_underlying hu]
   ·rw [hsame e,hd]
    have:S.setr i (Zi v E k l)=S:=by
     have:upd S.r i (Zi v E k l)=S.r:=by
      funext j
      by_cases e:j=i
      ·subst e;rw [Z02,hr]
      ·rw [Z00 _ _ e]
     simp [St.setr,this]
    rw [this];exact hh
  rcases hp.of hh with ⟨g,n,c,rfl,A,h1,hA⟩ | ⟨rfl,A,c,h1,_⟩
  ·rcases hown.2 with ⟨e,h0⟩ | ⟨g',cap,cur,e,hb,hg,hnc,hcm,hcs,htk⟩
   ·cases e
   obtain ⟨rfl,rfl,rfl⟩:g=g'∧n=l.length∧c=cap:=by
    injection e with e1 e2 e3
    injection e1 with e1
    injection e1 with e1
    exact ⟨e1,e2,e3⟩
   by_cases hn:l.length - lo=0
   ·exact nothing hn ⟨A,c - lo,by rw [h1,hn]⟩
   have hlt:lo<l.length:=by omega
   rw [hA hlt] at h1
   obtain ⟨m,hm'⟩:∃m,l.length - lo=m+1:=⟨l.length - lo - 1,by omega⟩
   obtain ⟨ti',zv,hti',hzv,hzc⟩:=hz.out
   obtain rfl:ti=ti':=by rw [hti] at hti';exact Option.some.inj hti'
   have hzl:zv.cells.toList.length=k.sz:=k.len (hzc w (hid C O))
   have hzs:zv.cells.size=k.sz:=by simpa using hzl
   have hzcells:(Builtin.zeroCells zv.cells (l.length - lo)).toList=(List.replicate (l.length - lo) zv.cells.toList).flatten:=Zeh _ (by omega) _
   have hlenz:(Builtin.zeroCells zv.cells (l.length - lo)).toList.length=(l.length - lo)*k.sz:=by
    rw [hzcells]
    have:=(Y3b (w:=w) (H:=hid C O) hzc (l.length - lo)).len
    simpa using this
   have hcurl:cur.toList.length=c*k.sz:=by simpa using hcs
   have hmul2:l.length*k.sz≤c*k.sz:=Nat.mul_le_mul_right _ hnc
   have hsum:lo*k.sz+(l.length - lo)*k.sz=l.length*k.sz:=by rw [←Nat.add_mul];congr 1;omega
   have h9:w.heap[g]? =some (.cells cur.toList.toArray E (0,0)):=by simpa using hg
   have hcz:=Y3b (w:=w) (H:=hid C O) hzc (l.length - lo)
   rw [←hzcells] at hcz
   have h5:=run_storeCells_at C.P g (lo*k.sz) E (Builtin.zeroCells zv.cells (l.length - lo)).toList 0 cur.toList.toArray w h9 (by simp only [List.size_toArray,Nat.add_zero];omega) hcz.one
   simp only [Nat.add_zero,List.toList_toArray] at h5
   have e5:(List.take (lo*k.sz) cur.toList++(Builtin.zeroCells zv.cells (l.length - lo)).toList++List.drop (lo*k.sz+(Builtin.zeroCells zv.cells (l.length - lo)).toList.length) cur.toList)=lay cur.toList (lo*k.sz) (Builtin.zeroCells zv.cells (l.length - lo)).toList:=by simp [lay]
   rw [e5] at h5
   let w':=w.setRow g (lay cur.toList (lo*k.sz) (Builtin.zeroCells zv.cells (l.length - lo)).toList).toArray
   have t:Turns O i w (.slice (some ⟨g,0,none⟩) l.length c) (.slice (some ⟨g,0,none⟩) l.length c) w':=
    ⟨⟨rfl,rfl,rfl,by simp [w'],fun b hb hne=>setRow_other w g b _ (fun e=>hne (by simp [Value.ownBlock,e]))⟩,hm,.inl rfl,fun b hb=>by simp [Value.ownBlock] at hb;subst hb;simpa [w'] using (Array.getElem?_eq_some_iff.1 hg).1⟩
   have hext:=t.ext (C:=C)
   have hnew:Cells k w' (hid C (Z4m O i (.slice (some ⟨g,0,none⟩) l.length c))) (l.take lo++List.replicate (l.length - lo) z) (cl.take (lo*k.sz)++(Builtin.zeroCells zv.cells (l.length - lo)).toList):=
    ((hc.take lo hlo).mono hext).append (hcz.mono hext)
   have hll:(l.take lo++List.replicate (l.length - lo) z).length=l.length:=by simp;omega
   refine ⟨.tuple #[],w',?_,?_⟩
   ·simp only [execOp,ho,resolve,invoke,builtin,Builtin.clear_,Sem.run_bind,Sem.run_pure,Result.andThen_ok,List.map_toArray,List.map_cons,List.map_nil,h1,run_underlying hu]
    rw [hm']
    rw [hm'] at h5
    simp [run_underlying hu,zeroValue,typeInfo,hti,hzv,h5,w',hm']
   ·rw [hd]
    have h7:=Z5a (E:=E) (S:=S) (o:={dst:=none,op:=o.op,type:=o.type,pos:=o.pos,after:=o.after,guard:=o.guard}) (A:=top) (l:=l.take lo++List.replicate (l.length - lo) z) hh t rfl undef trivial ?_ hnew
    ·exact h7
    ·rw [hll]
     refine ⟨?_,.inr ⟨g,c,_,rfl,Nat.zero_le _,setRow_heap w g _ _ _ _ hg,hnc,hcm,?_,?_⟩⟩
     ·rw [List.length_append,hlenz,List.length_take,hc.len];omega
     ·simp only [List.size_toArray];rw [Zjj (by omega),hcurl]
     ·simp only [List.toList_toArray]
      apply List.ext_getElem?
      intro j
      rw [List.getElem?_take,List.getElem?_append,List.length_take,hc.len,Nat.min_eq_left (by omega)]
      rw [Z92 (by omega),hlenz]
      by_cases hj:j<l.length*k.sz
      ·rw [if_pos hj]
       by_cases hj2:j<lo*k.sz
       ·rw [if_pos hj2,if_pos hj2,List.getElem?_take,if_pos hj2,←htk,List.getElem?_take,if_pos hj]
       ·rw [if_neg hj2,if_neg hj2,if_pos (by omega)]
      ·rw [if_neg hj,if_neg (by omega),List.getElem?_eq_none (by omega)]
  ·have hn:l.length=0:=by
    rcases hown.2 with ⟨e,h0⟩ | ⟨g',cap,cur,e,_⟩
    ·exact h0
    ·cases e
   exact nothing (by omega) ⟨A,c,h1⟩
end own
end Go.Wb
namespace Go.Wb
open Go
def Z28 {α:Type}(T:TypeId)(k:Kd α)(x:α):Zb:=
 ⟨fun w H M v=> ∃g,∃cs:List Value,v= .pointer (some ⟨g,0,none⟩)∧M g∧w.heap[g]? =some (.cells cs.toArray T (0,0))∧k.C w H x cs,
  fun h ⟨g,cs,hv,hm,hg,hc⟩=>let ⟨a,b⟩:=h.own g (Array.getElem?_eq_some_iff.1 hg).1 hm;⟨g,cs,hv,a,b.trans hg,Kd.mono _ h.pure_ hc⟩⟩
def Z1y {α:Type}(E:TypeId)(k:Kd α)(l:List α):Zb:=
 ⟨fun w H M v=>(Zi v E k l).R w H M,fun h hr=>(Zi _ E k l).mono h hr⟩
section Z3c
variable {C : Ctx} {S S' : St} {o : Oper} {α : Type}
theorem Yk3 {O:Nat→Nat}{a:Act}{w:World}{T:TypeId}{k:Kd α}{x:α}{cs:List Value}{d:Nat}(hh:HoldO C S O a w)(hdst:o.dst=some d)(hd:Zq o C.N=true)(hc:k.C w (hid C O) x cs):
  Hold C (S.put o.dst (Z28 T k x)) (a.put o.dst (.pointer (some ⟨w.heap.size,0,none⟩))) (w.alloc (.cells cs.toArray T)):=by
 have go:=Ziv hh (So d) (Z6d d) (.cells cs.toArray T)
 refine ⟨_,hh.goes go (Z6i ..) (by cases o.dst<;>rfl) (Z6e ..) (fun t=>?_) (fun j=> .inl ⟨by cases o.dst<;>rfl,fun h=>Z1g d j h.symm⟩)⟩
 rw [hdst]
 by_cases e:t=d
 ·subst e
  right
  have hlt:t<a.tmps.size:=hh.n▸Z2r hd t hdst
  rw [Z6c hlt]
  simp only [St.put,St.set,Z02]
  refine ⟨w.heap.size,cs,rfl,if_pos rfl,heap_alloc_new w _,k.mono ⟨by simp,fun b hb hn=>⟨?_,heap_alloc_old w _ b hb⟩,fun _ _ h=>h.elim⟩ hc⟩
  rintro (h | h)
  ·exact hn (.inl h)
  ·rw [if_neg (by omega)] at h;exact hn (.inr h)
 ·exact .inl ⟨by simp only [St.put,St.set];exact Z00 _ _ e,fun h=>e (Z8a h),Z6f e _⟩
theorem Z55 {T:TypeId}{k:Kd α}{z:α}{d:Nat}(ho:o.op= .alloc T)(hdst:o.dst=some d)(hd:Zq o C.N=true)(hz:Zr C.P T k z):OpE C o S (S.put o.dst (Z28 T k z)):=
 OpE.value (by simp [ho]) fun O a w hh=>by
  obtain ⟨ti,zv,hi,hzv,hc⟩:=hz.out
  refine ⟨.pointer (some ⟨w.heap.size,0,none⟩),w.alloc (.cells zv.cells.toList.toArray T),?_,Yk3 hh hdst hd (hc w (hid C O))⟩
  simp [execOp,ho,Instr.alloc,zeroValue,typeInfo,hi,hzv,newVar,newRow]
theorem Z4z {T T':TypeId}{k:Kd α}{x y:α}{t:Nat}{q:Operand}(ho:o.op= .store T (.tmp t) q)(hd:o.dst=none)(ht:Ty C.P T k)(hp:S.s t=Z28 T' k x)(hq:Val C S q (rd k y)):OpE C o S (S.set t (Z28 T' k y)):=
 OpE.skip (by simp [ho]) fun O a w hh=>by
  have h1:=hh.slot t
  rw [hp] at h1
  obtain ⟨g,cs,hv,hm,hg,hc⟩:=h1
  obtain ⟨c,h4,h5⟩:=hq.of hh
  have hev:a.eval (.tmp t)= .pointer (some ⟨g,0,none⟩):=hv
  have hrun:=Zjb (off:=0) hg ht h4 (by rw [k.len hc];omega)
  have hlay:lay cs 0 c=c:=Zzx (by rw [k.len hc,k.len h4])
  rw [hlay] at hrun
  refine ⟨w.setRow g c.toArray,by simp [execOp,ho,hev,h5,Instr.storeAt,Instr.sureAddr,hrun],O,?_⟩
  rw [hd]
  have hOg:O g=So t:=hm
  have go:=Y42 hh (g:=g) (by rw [hOg];exact Z6d t) c.toArray
  have hx:Ext w (hid C O) Zl (w.setRow g c.toArray) (hid C O) Zl:=⟨by simp,fun b hb hn=>⟨hn,setRow_other w g b _ (fun e=>hn (.inr (by rw [e,hOg];exact Z6d t)))⟩,fun _ _ h=>h.elim⟩
  refine hh.goes go rfl rfl rfl (fun s=>?_) (fun j=> .inl ⟨rfl,by rw [hOg];exact fun h=>Z1g t j h.symm⟩)
  by_cases e:s=t
  ·subst e
   right
   simp only [St.set,Z02]
   exact ⟨g,c,hv,hm,setRow_heap w g _ _ _ _ hg,k.mono hx h4⟩
  ·exact .inl ⟨by simp only [St.set];exact Z00 _ _ e,by rw [hOg];exact fun h=>e (Z8a h),rfl⟩
theorem Ztb {O:Nat→Nat}{a:Act}{w:World}{t i:Nat}{A:Zb}{R:Res}(hh:HoldO C S O a w)(hA:∀O',(∀b,O' b≠0→O b≠0)→A.R w (hid C O') Zl (a.tmps.getD t undef))
  (hR:∀O',(∀b,(O' b≠0↔O b≠0))→(∀b,O b=So t→O' b=Ro i)→R.R w (hid C O') (fun b=>O' b=Ro i))(he:∀b,O b≠Ro i):Hold C ((S.set t A).setr i R) a w:=by
 let O':Nat→Nat:=fun b=>if O b=So t then Ro i else O b
 have hO1:∀b,O b=So t→O' b=Ro i:=fun b h=>if_pos h
 have hO2:∀b,O b≠So t→O' b=O b:=fun b h=>if_neg h
 have hiff:∀b,(O' b≠0↔O b≠0):=fun b=>by
  by_cases e:O b=So t
  ·rw [hO1 b e,e];exact ⟨fun _=>Z6d t,fun _=>Z0m i⟩
  ·rw [hO2 b e]
 refine ⟨O',⟨hh.h0,hh.os,hh.tape,hh.output,hh.size,hh.old,fun b hb=>hh.own b ((hiff b).1 hb),hh.dfr,hh.n,fun s=>?_,fun j=>?_⟩⟩
 ·have hid':Ext w (fun b=>C.H0 b∨O b≠0) (fun b=>O b=So s) w (fun b=>C.H0 b∨O b≠0) (fun b=>O b=So s):=Ext.refl _ _ _
  by_cases e:s=t
  ·subst e
   simp only [St.set,St.setr,Z02]
   exact A.mono Ext.any (hA O' fun b=>(hiff b).1)
  ·simp only [St.set,St.setr]
   rw [Z00 _ _ e]
   refine (S.s s).mono ⟨Nat.le_refl _,fun b _ hn=>⟨fun h=>hn (h.imp id (hiff b).1),rfl⟩,fun b _ hb=>⟨?_,rfl⟩⟩ (hh.slot s)
   have hb':O b=So s:=hb
   show O' b=So s
   rw [hO2 b (by rw [hb'];exact fun h=>e (Z8a h)),hb']
 ·by_cases e:j=i
  ·subst e
   simp only [St.setr,Z02]
   exact hR O' hiff hO1
  ·simp only [St.setr]
   rw [Z00 _ _ e]
   refine (S.r j).mono ⟨Nat.le_refl _,fun b _ hn=>⟨fun h=>hn (h.imp id (hiff b).1),rfl⟩,fun b _ hb=>⟨?_,rfl⟩⟩ (hh.res j)
   have hb':O b=Ro j:=hb
   show O' b=Ro j
   rw [hO2 b (by rw [hb'];exact fun h=>Z1g t j h.symm),hb']
theorem HoldO.drop {O:Nat→Nat}{a:Act}{w:World}{i:Nat}(hr:S.r i=emp)(hh:HoldO C S O a w):∃O',HoldO C S O' a w∧(∀b,O' b≠Ro i)∧(∀b t,O b=So t→O' b=So t):=by
 let O':Nat→Nat:=fun b=>if O b=Ro i then 0 else O b
 have h1:∀b,O' b≠0→O b≠0∧O' b=O b:=fun b h=>by
  by_cases e:O b=Ro i
  ·exact absurd (if_pos e) h
  ·exact ⟨fun e0=>h (by simp only [O'];rw [if_neg e,e0]),if_neg e⟩
 have h2:∀b q,O b=q→q≠Ro i→O' b=q:=fun b q h hq=>by
  show (if O b=Ro i then 0 else O b)=q
  rw [if_neg (by rw [h];exact hq),h]
 refine ⟨O',⟨hh.h0,hh.os,hh.tape,hh.output,hh.size,hh.old,fun b hb=>hh.own b (h1 b hb).1,hh.dfr,hh.n,fun s=>?_,fun j=>?_⟩,fun b h=>?_,fun b t h=>h2 b _ h (Z1g t i)⟩
 ·exact (S.s s).mono ⟨Nat.le_refl _,fun b _ hn=>⟨fun h=>hn (h.imp id fun h=>(h1 b h).1),rfl⟩,fun b _ hb=>⟨h2 b _ hb (Z1g s i),rfl⟩⟩ (hh.slot s)
 ·by_cases e:j=i
  ·subst e;rw [hr];trivial
  ·exact (S.r j).mono ⟨Nat.le_refl _,fun b _ hn=>⟨fun h=>hn (h.imp id fun h=>(h1 b h).1),rfl⟩,fun b _ hb=>⟨h2 b _ hb (fun h=>e (Z26 h)),rfl⟩⟩ (hh.res j)
 ·have h':(if O b=Ro i then 0 else O b)=Ro i:=h
  split at h'
  ·exact Z0m i h'.symm
  ·rename_i hne;exact hne h'
theorem AW.unpackP {Q:Exit→St→Prop}{c:Code}(t i:Nat){T:TypeId}{k:Kd α}{x:α}(hs:S.s t=Z28 T k x)(hr:S.r i=emp)(h:∀g,AW C c Q ((S.set t (Za g (Lens.id k))).setr i (Zd g T k x))):AW C c Q S:=by
 rintro a w ⟨O,hh⟩
 obtain ⟨O1,hh1,hne,hso⟩:=hh.drop hr
 have h1:=hh1.slot t
 rw [hs] at h1
 obtain ⟨g,cs,hv,hm,hg,hc⟩:=h1
 refine h g a w (Ztb hh1 (fun O' _=>hv) (fun O' hiff hp=>⟨hp g hm,cs,hg,k.mono ⟨Nat.le_refl _,fun b _ hn=>⟨fun h=>hn (h.imp id (hiff b).1),rfl⟩,fun _ _ h=>h.elim⟩ hc⟩) hne)
theorem AW.unpackR {Q:Exit→St→Prop}{c:Code}(t i:Nat){E:TypeId}{k:Kd α}{l:List α}(hs:S.s t=Z1y E k l)(hr:S.r i=emp)(h:∀v,AW C c Q ((S.set t (Zg v)).setr i (Zi v E k l))):AW C c Q S:=by
 rintro a w ⟨O,hh⟩
 obtain ⟨O1,hh1,hne,hso⟩:=hh.drop hr
 have h1:=hh1.slot t
 rw [hs] at h1
 obtain ⟨cl,ho,hc,hm⟩:=h1
 refine h (a.tmps.getD t undef) a w (Ztb hh1 (fun O' _=>rfl) (fun O' hiff hp=>⟨cl,ho,hc.mono ⟨Nat.le_refl _,fun b _ hn=>⟨fun h=>hn (h.imp id (hiff b).1),rfl⟩,fun _ _ h=>h.elim⟩,fun b hb=>hp b (hm b hb)⟩) hne)
variable {ops : Array Oper}
theorem Z18 {us:List (Nat×Zb)}{ur:List (Nat×Res)}(rs rr:List Nat)(hg:o.guard=none)
  (h:∀S':St,(∀t,rs.contains t=true→S'.s t=S.s t)→(∀i,rr.contains i=true→S'.r i=S.r i)→OpE C o S' (S'.ap ⟨rs,rr,us,ur⟩)):Loc C ops o S ⟨rs,rr,us,ur⟩:=fun S' _ hs hr=>OpG.of hg (h S' hs hr)
end Z3c
structure Itr (α:Type):Type 1 where
 run:(σ:Type)→(σ→α→Option (Lp σ))→Lp σ→Option (Lp σ)
instance {α:Type}:Inhabited (Itr α):=⟨⟨fun _ _ _=>none⟩⟩
def yc {σ α:Type}(y:σ→α→Option (Lp σ))(r:Lp σ)(x:α):Option (Lp σ):=match r with
 | .go s=>y s x
 | .out _ _=>none
theorem Yaq {σ α:Type}{y:σ→α→Option (Lp σ)}{r r':Lp σ}{x:α}(h:yc y r x=some r'):∃s,r= .go s∧y s x=some r':=by
 cases r with
 | go s=>exact ⟨s,rfl,h⟩
 | out c s=>cases h
def GS1 {α:Type}(P:Program)(k:Kd α)(q:Itr α):List Zb→Res→Zb→Res→Prop:=
 fun As R B R'=> ∃(σ:Type) (y:σ→α→Option (Lp σ)) (L:Lp σ→Res) (r r':Lp σ),q.run σ y r=some r'∧As=[fnR P (GY (fun x=>[rd k x]) y L)]∧R=L r∧B=top∧R'=L r'
def Z2s {α:Type}(P:Program)(k:Kd α)(q:Itr α):Zb:=fnS P (GS1 P k q)
instance {α:Type}(P:Program)(k:Kd α)(q:Itr α):Dup (Z2s P k q):=⟨fun h=>h⟩
def ydA {α σ:Type}(P:Program)(k:Kd α)(y:σ→α→Option (Lp σ))(L:Lp σ→Res):Zb:=fnR P (GY (fun x=>[rd k x]) y L)
instance {α σ:Type}(P:Program)(k:Kd α)(y:σ→α→Option (Lp σ))(L:Lp σ→Res):Dup (ydA P k y L):=⟨fun h=>h⟩
section seqs
variable {C : Ctx} {S S' : St} {o : Oper} {α σ : Type}
theorem Zhu {f:FuncId}{cs:List Operand}{CAs:List Zb}{k:Kd α}(q:Itr α)(ho:o.op= .makeFunc (.func f) #[] cs.toArray)(hd:Zq o C.N=true)(he:Ent C.P f)(hc:Vals C S cs CAs)
  (hG:∀(σ:Type) (y:σ→α→Option (Lp σ)) (L:Lp σ→Res) (r r':Lp σ),q.run σ y r=some r'→Con C.P f (ydA C.P k y L::CAs) (L r) (fun _:Unit=>top) (fun _=>L r')):
  OpE C o S (S.put o.dst (Z2s C.P k q)):=
 Yc7 (fs:=[]) (FAs:=[]) ho hd he trivial hc (by rintro _ _ _ _ ⟨σ,y,L,r,r',h,rfl,rfl,rfl,rfl⟩;exact hG σ y L r r' h)
theorem Zbd {x p:Operand}{ts:Array TypeId}{k:Kd α}{y:σ→α→Option (Lp σ)}{L:Lp σ→Res}{a:α}{r r':Lp σ}(i:Nat)(hF:yc y r a=some r')(ho:o.op= .call {callee:= .value x,args:= #[p],argTypes:=ts})(hd:Zq o C.N=true)(hx:Val C S x (ydA C.P k y L))(hp:Val C S p (rd k a))(hr:S.r i=L r):
  OpE C o S ((S.put o.dst (rd Z3 r'.isGo)).setr i (L r')):=by
 obtain ⟨s,rfl,h⟩:=Yaq hF
 exact Y22 (xs:=[p]) i ho hd hx ⟨s,a,r',h,rfl,rfl,rfl,rfl⟩ ⟨hp,trivial⟩ hr
theorem Z21 {fn:Func}{i:Nat}{R:Res}(hf:fn.results= #[])(hd:S.d=[])(hr:S.r i=R):RetOK C fn S (fun _:Unit=>top) (fun _=>R):=
 ⟨hd,fun O a w hh=>by
  have h2:=hh.res i
  rw [hr] at h2
  refine ⟨.tuple #[],(),fun b=>O b=Ro i,?_,fun b hb=>by rw [hb];exact Z0m i,trivial,?_⟩
  ·have e:results fn a.tmps=(do let vs ←fn.results.mapM (Z6v a.tmps);pure (if h:vs.size=1 then vs[0] else .tuple vs)):=rfl
   rw [e,hf];simp
  ·refine R.mono ⟨Nat.le_refl _,fun b _ hn=>⟨?_,rfl⟩,fun b _ hb=>⟨hb,rfl⟩⟩ h2
   rintro (h | h)
   ·exact hn (.inl h)
   ·exact hn (.inr (by rw [h];exact Z0m i))⟩
end seqs
end Go.Wb
namespace Go.Wb
open Go
section slots2
variable {C : Ctx} {S S' : St} {o : Oper} {α : Type}
theorem Y6d {O:Nat→Nat}{a:Act}{w w':World}{v v':Value}{E:TypeId}{k:Kd α}{l:List α}{cl:List Value}{i d:Nat}(hh:HoldO C S O a w)(t:Turns O i w v v' w')(hdst:o.dst=some d)(hd:Zq o C.N=true)
  (ho:w'.ownsRow 0 E k.sz v' l.length cl)(hc:∀O',(∀b,O' b≠0→Z4m O i v' b≠0)→Cells k w' (hid C O') l cl):Hold C ((S.put o.dst (Z1y E k l)).setr i emp) (a.put o.dst v') w':=by
 obtain ⟨O1,h1⟩:∃O1,O1=Z4m O i v':=⟨_,rfl⟩
 let O2:Nat→Nat:=fun b=>if O1 b=Ro i then (if v'.ownBlock=some b then So d else 0) else (if O1 b=So d then 0 else O1 b)
 have e1:∀b,v'.ownBlock=some b→O2 b=So d:=fun b hb=>by
  have:O1 b=Ro i:=by rw [h1];exact if_pos hb
  show (if O1 b=Ro i then (if v'.ownBlock=some b then So d else 0) else _)=So d
  rw [if_pos this,if_pos hb]
 have e2:∀b q,O1 b=q→q≠Ro i→q≠So d→O2 b=q:=fun b q h hq hq'=>by
  show (if O1 b=Ro i then (if v'.ownBlock=some b then So d else 0) else (if O1 b=So d then 0 else O1 b))=q
  rw [if_neg (by rw [h];exact hq),if_neg (by rw [h];exact hq'),h]
 have e3:∀b,O2 b≠0→O1 b≠0:=fun b h=>by
  intro h0
  apply h
  show (if O1 b=Ro i then (if v'.ownBlock=some b then So d else 0) else (if O1 b=So d then 0 else O1 b))=0
  rw [h0,if_neg (fun e=>Z0m i e.symm),if_neg (fun e=>Z6d d e.symm)]
 have go1:=t.goes hh
 rw [←h1] at go1
 have e1o:∀b,b<w.heap.size→O b≠Ro i→O1 b=O b:=fun b hb hq=>(go1.same b hb hq).1
 refine ⟨O2,⟨hh.h0,t.g.os.trans hh.os,rfl,t.g.output.trans hh.output,Nat.le_trans hh.size t.g.size,fun b hb hX=>?_,fun b hb=>?_,?_,?_,fun s=>?_,fun j=>?_⟩⟩
 ·have hb1:b<w.heap.size:=Nat.lt_of_lt_of_le hb hh.size
  have hno:O b≠Ro i:=fun e=>by
   have h5:=(hh.own b (by rw [e];exact Z0m i)).1
   rcases h5 with h5 | h5
   ·omega
   ·exact hX h5
  exact ((go1.same b hb1 hno).2).trans (hh.old b hb hX)
 ·have h5:=e3 b hb
  refine ⟨?_,go1.lt b h5⟩
  rcases go1.own b h5 with h6 | h6
  ·exact (hh.own b h6).1
  ·exact .inl (Nat.le_trans hh.size h6)
 ·show (a.put o.dst v').defers=_
  rw [Z6i]
  have:((S.put o.dst (Z1y E k l)).setr i emp).d=S.d:=by cases o.dst<;>rfl
  rw [this];exact hh.dfr
 ·rw [Z6e];exact hh.n
 ·rw [hdst]
  by_cases e:s=d
  ·subst e
   have hlt:s<a.tmps.size:=hh.n▸Z2r hd s hdst
   rw [Z6c hlt]
   simp only [St.put,St.set,St.setr,Z02]
   exact ⟨cl,ho,hc O2 (fun b hb=>by rw [←h1];exact e3 b hb),fun b hb=>e1 b hb⟩
  ·rw [Z6f e]
   simp only [St.put,St.set,St.setr]
   rw [Z00 _ _ e]
   refine (S.s s).mono ⟨t.g.size,fun b hb hn=>?_,fun b hb hm=>?_⟩ (hh.slot s)
   ·have h0:O b=0:=Classical.byContradiction fun h=>hn (.inr h)
    have h6:=go1.same b hb (by rw [h0];exact fun h=>Z0m i h.symm)
    refine ⟨?_,h6.2⟩
    rintro (h | h)
    ·exact hn (.inl h)
    ·exact e3 b h (h6.1.trans h0)
   ·have hm':O b=So s:=hm
    have h6:=go1.same b hb (by rw [hm'];exact Z1g s i)
    exact ⟨e2 b _ (h6.1.trans hm') (Z1g s i) (fun h=>e (Z8a h)),h6.2⟩
 ·have hres:((S.put o.dst (Z1y E k l)).setr i emp).r j=upd S.r i emp j:=by cases o.dst<;>rfl
  rw [hres]
  by_cases e:j=i
  ·subst e;rw [Z02];trivial
  ·rw [Z00 _ _ e]
   refine (S.r j).mono ⟨t.g.size,fun b hb hn=>?_,fun b hb hm=>?_⟩ (hh.res j)
   ·have h0:O b=0:=Classical.byContradiction fun h=>hn (.inr h)
    have h6:=go1.same b hb (by rw [h0];exact fun h=>Z0m i h.symm)
    refine ⟨?_,h6.2⟩
    rintro (h | h)
    ·exact hn (.inl h)
    ·exact e3 b h (h6.1.trans h0)
   ·have hm':O b=Ro j:=hm
    have h6:=go1.same b hb (by rw [hm'];exact fun h=>e (Z26 h))
    exact ⟨e2 b _ (h6.1.trans hm') (fun h=>e (Z26 h)) (fun h=>Z1g d j h.symm),h6.2⟩
theorem Zbr {T E:TypeId}{k:Kd α}{l m r:List α}{v:Value}{p q:Operand}{d:Nat}(i:Nat)(hl:Z11 l m=some r)(ho:o.op= .call {callee:= .builtin .append,args:= #[p,q],argTypes:= #[T,T]})(hdst:o.dst=some d)(hd:Zq o C.N=true)(he:El C.P T E k)(hp:Val C S p (Zg v))(hr:S.r i=Zi v E k l)(hq:Val C S q (rd (Z1 k) m)):
  OpE C o S ((S.put o.dst (Z1y E k r)).setr i emp):=
 OpE.value (by simp [ho]) fun O a w hh=>by
  obtain ⟨hll,rfl⟩:=Z5y hl
  have h1:=Z56 (hp.of hh)
  have h2:=Z58 (hq.of hh)
  have h3:=hh.res i
  rw [hr] at h3
  obtain ⟨cl,hown,hc,hm⟩:=h3
  obtain ⟨v',w',ml,h4,h5,h6,h7,h8,h9⟩:=Zhw (ty:=o.type) he hown h2 hll
  have t:Turns O i w v v' w':=⟨h8,hm,h9,fun b hb=>(h5.lt b hb).2⟩
  refine ⟨v',w',?_,Y6d hh t hdst hd (cl:=cl++ml) (by rw [List.length_append];exact h5) fun O' hO'=>?_⟩
  ·simp only [execOp,ho,resolve,invoke,builtin,Sem.run_bind,Sem.run_pure,Result.andThen_ok,List.map_toArray,List.map_cons,List.map_nil,h1,h4]
  ·have hext:Ext w (hid C O) Zl w' (hid C O') Zl:=by
    have:=t.ext (C:=C)
    exact ⟨this.size,fun b hb hn=>⟨fun h=>(this.vis b hb hn).1 (h.imp id (hO' b)),(this.vis b hb hn).2⟩,fun _ _ h=>h.elim⟩
   refine (hc.mono hext).append ?_
   by_cases e:m.length=0
   ·have e':=List.eq_nil_of_length_eq_zero e
    subst e'
    rw [h7 rfl];rfl
   ·exact (h6 (by omega)).mono hext
theorem Znr {f:FuncId}{xs:List Operand}{ts:Array TypeId}{As:List Zb}{E:TypeId}{k:Kd α}{l:List α}{d:Nat}(hc:Con C.P f As emp (fun v:Value=>Zg v) (fun v=>Zi v E k l))(he:Ent C.P f)(ho:o.op= .call {callee:= .value (.func f),args:=xs.toArray,argTypes:=ts})(hdst:o.dst=some d)(hd:Zq o C.N=true)(hv:Vals C S xs As):
  OpE C o S (S.put o.dst (Z1y E k l)):=by
 rintro a w ⟨O,hh⟩
 refine ⟨fun _ _=>trivial,?_⟩
 have hrun:(execOp a.eval o).run C.P w= .ok (.enter f (xs.map a.eval).toArray) w:=by
  simp only [execOp,ho,resolve,Act.eval,Deferred.ofValue,Sem.run_bind,Sem.run_pure,Result.andThen_ok,invoke]
  simpa using he _ w
 rw [Oper.semAt_eq _ _ _ (by simp [ho]),hrun]
 refine ⟨fun h=>by simp [Ctx.fen,Fence.wide] at h,Z8y ?_⟩
 refine (hc w (hid C O) Zl _ hh.amb hh.hid_lt (fun b hb=>hb.elim) (hv.args hh) trivial).mono ?_
 rintro e w' ⟨v,z,X',rfl,hf,hB,hR⟩
 obtain rfl:v=z:=hB
 classical
 let O':Nat→Nat:=fun b=>if X' b then So d else if O b=So d then 0 else O b
 have hO:∀b,X' b→O' b=So d:=fun b h=>if_pos h
 have hO2:∀b q,b<w.heap.size→O b=q→q≠So d→O' b=q:=fun b q hb h hq=>by
  have hnx:¬X' b:=fun hx=>by
   rcases (hf.own b hx).1 with h1 | h1
   ·exact h1
   ·omega
  show (if X' b then So d else if O b=So d then 0 else O b)=q
  rw [if_neg hnx,if_neg (by rw [h];exact hq),h]
 have hj:Ext w' (join (hid C O) X') Zl w' (hid C O') Zl:=by
  refine ⟨Nat.le_refl _,fun b _ hn=>⟨?_,rfl⟩,fun _ _ h=>h.elim⟩
  rintro (h | h)
  ·exact hn (.inl (.inl h))
  ·by_cases hx:X' b
   ·exact hn (.inr hx)
   ·have h':(if X' b then So d else if O b=So d then 0 else O b)≠0:=h
    rw [if_neg hx] at h'
    split at h'
    ·exact h' rfl
    ·exact hn (.inl (.inr h'))
 refine ⟨_,rfl,O',⟨hh.h0,hf.os.trans hh.os,hf.tape.trans hh.tape,hf.output.trans hh.output,Nat.le_trans hh.size hf.size,fun b hb hX=>?_,fun b hb=>?_,?_,?_,fun s=>?_,fun j=>?_⟩⟩
 ·exact (hf.same b (Nat.lt_of_lt_of_le hb hh.size) (fun h=>h)).trans (hh.old b hb hX)
 ·by_cases hx:X' b
  ·have h5:=hf.own b hx
   refine ⟨.inl ?_,h5.2⟩
   rcases h5.1 with h6 | h6
   ·exact h6.elim
   ·exact Nat.le_trans hh.size h6
  ·have h':(if X' b then So d else if O b=So d then 0 else O b)≠0:=hb
   rw [if_neg hx] at h'
   split at h'
   ·exact absurd rfl h'
   ·exact ⟨(hh.own b h').1,Nat.lt_of_lt_of_le (hh.own b h').2 hf.size⟩
 ·rw [Z6i]
  have:(S.put o.dst (Z1y E k l)).d=S.d:=by cases o.dst<;>rfl
  rw [this];exact hh.dfr
 ·rw [Z6e];exact hh.n
 ·rw [hdst]
  by_cases e:s=d
  ·subst e
   have hlt:s<a.tmps.size:=hh.n▸Z2r hd s hdst
   rw [Z6c hlt]
   simp only [St.put,St.set,Z02]
   exact (Zi v E k l).mono ⟨hj.size,hj.vis,fun b _ hx=>⟨hO b hx,rfl⟩⟩ hR
  ·rw [Z6f e]
   simp only [St.put,St.set]
   rw [Z00 _ _ e]
   refine (S.s s).mono ⟨hf.size,fun b hb hn=>⟨?_,hf.same b hb (fun h=>h)⟩,fun b hb hm=>⟨hO2 b _ hb hm (fun h=>e (Z8a h)),hf.same b hb (fun h=>h)⟩⟩ (hh.slot s)
   rintro (h | h)
   ·exact hn (.inl h)
   ·have h0:O b=0:=Classical.byContradiction fun h=>hn (.inr h)
    exact h (hO2 b 0 hb h0 (fun e=>Z6d d e.symm))
 ·have hres:(S.put o.dst (Z1y E k l)).r j=S.r j:=by cases o.dst<;>rfl
  rw [hres]
  refine (S.r j).mono ⟨hf.size,fun b hb hn=>⟨?_,hf.same b hb (fun h=>h)⟩,fun b hb hm=>⟨hO2 b _ hb hm (fun h=>Z1g d j h.symm),hf.same b hb (fun h=>h)⟩⟩ (hh.res j)
  rintro (h | h)
  ·exact hn (.inl h)
  ·have h0:O b=0:=Classical.byContradiction fun h=>hn (.inr h)
   exact h (hO2 b 0 hb h0 (fun e=>Z6d d e.symm))
end slots2
end Go.Wb
namespace Go.Wb
open Go
class Flat (B:Zb):Prop where
 flat:∀{w H M w' H' M' v},B.R w H M v→B.R w' H' M' v
instance (ik:IntKind)(n:Int):Flat (rd (Z0 ik) n):=⟨fun ⟨cs,h,e⟩=>⟨cs,h,e⟩⟩
instance (b:Bool):Flat (rd Z3 b):=⟨fun ⟨cs,h,e⟩=>⟨cs,h,e⟩⟩
instance (b:BitVec 64):Flat (rd Zx b):=⟨fun ⟨cs,h,e⟩=>⟨cs,h,e⟩⟩
instance (A B:Zb)[Flat A][Flat B]:Flat (Z0t A B):=⟨fun ⟨x,y,e,h1,h2⟩=>⟨x,y,e,Flat.flat h1,Flat.flat h2⟩⟩
section lend
variable {C : Ctx} {S S' : St} {o : Oper} {α : Type}
def Zef (C:Ctx)(O:Nat→Nat)(i:Nat):HS:=fun b=>hid C O b∧O b≠Ro i
def Zn1 (C:Ctx)(S:St)(i:Nat)(x:Operand)(A:Zb):Prop:= ∀O a w,HoldO C S O a w→A.R w (Zef C O i) Zl (a.eval x)
theorem Ztv {w:World}{O:Nat→Nat}{i:Nat}:Ext w (hid C O) Zl w (Zef C O i) Zl:=⟨Nat.le_refl _,fun b _ hn=>⟨fun h=>hn h.1,rfl⟩,fun _ _ h=>h.elim⟩
theorem vB {i:Nat}{x:Operand}{A:Zb}(h:Val C S x A):Zn1 C S i x A:=fun O a w hh=>A.mono Ztv (h O a w hh)
theorem vL {i t:Nat}{E:TypeId}{k:Kd α}{l:List α}{v:Value}[Sh k E](hs:S.s t=Zg v)(hr:S.r i=Zi v E k l):Zn1 C S i (.tmp t) (rd (Z1 k) l):=fun O a w hh=>by
 have h1:a.eval (.tmp t)=v:=Z56 (by have:=hh.slot t;rwa [hs] at this)
 have h2:=hh.res i
 rw [hr] at h2
 obtain ⟨cl,ho,hc,hm⟩:=h2
 rw [h1]
 exact Z4y (Zaf (H':=Zl) ho (hc.mono Ztv) fun b hb h=>h.2 (hm b hb))
def ValsB (C:Ctx)(S:St)(i:Nat):List Operand→List Zb→Prop
 | [],[]=>True
 | x::xs,A::As=>Zn1 C S i x A∧ValsB C S i xs As
 | _,_=>False
theorem ValsB.args {O:Nat→Nat}{a:Act}{w:World}{i:Nat}(hh:HoldO C S O a w):∀{xs:List Operand} {As:List Zb},ValsB C S i xs As→Args w (Zef C O i) As (xs.map a.eval)
 | [],[],_=>trivial
 | _::_,_::_,⟨h1,h2⟩=>⟨h1 _ _ _ hh,ValsB.args hh h2⟩
 | [],_::_,h=>h.elim
 | _::_,[],h=>h.elim
theorem Z9v {f:FuncId}{xs:List Operand}{ts:Array TypeId}{As:List Zb}{B:Zb}[hB:Flat B](i:Nat)(hc:PCon C.P f As B)(he:Ent C.P f)(ho:o.op= .call {callee:= .value (.func f),args:=xs.toArray,argTypes:=ts})(hd:Zq o C.N=true)(hv:ValsB C S i xs As):
  OpE C o S (S.put o.dst B):=by
 rintro a w ⟨O,hh⟩
 refine ⟨fun _ _=>trivial,?_⟩
 have hrun:(execOp a.eval o).run C.P w= .ok (.enter f (xs.map a.eval).toArray) w:=by
  simp only [execOp,ho,resolve,Act.eval,Deferred.ofValue,Sem.run_bind,Sem.run_pure,Result.andThen_ok,invoke]
  simpa using he _ w
 rw [Oper.semAt_eq _ _ _ (by simp [ho]),hrun]
 refine ⟨fun h=>by simp [Ctx.fen,Fence.wide] at h,Z8y ?_⟩
 refine (hc w (Zef C O i) _ (hh.amb.mono ⟨Nat.le_refl _,fun b _ hn=>⟨fun h=>hn h.1,rfl⟩,fun _ _ h=>h.elim⟩) (fun b h=>hh.hid_lt b h.1) (hv.args hh)).mono ?_
 rintro e w' ⟨v,rfl,hf,hBv⟩
 exact ⟨_,rfl,O,hh.yield ⟨hf.os,hf.tape,hf.output,hf.size,fun b hb _=>⟨rfl,hf.same b hb (fun h=>h)⟩,fun b h=> .inl h,fun b h=>Nat.lt_of_lt_of_le (hh.own b h).2 hf.size,fun h=>h⟩ (Z2r hd) (hB.flat hBv)⟩
def St.setL (S:St)(ts:List Nat)(A:Zb):St:=⟨Z36 S.s (ts.map fun t=>(t,A)),S.r,S.d⟩
def Z89 (S:St)(A:Zb):List Nat→Prop
 | []=>True
 | t::ts=>S.s t=A∧Z89 S A ts
theorem Zt9 {A:Zb}:∀{ts:List Nat},Z89 S A ts→∀t∈ts,S.s t=A
 | [],_,t,h=>by cases h
 | u::ts,⟨h1,h2⟩,t,h=>by
  rcases List.mem_cons.1 h with rfl | h
  ·exact h1
  ·exact Zt9 h2 t h
theorem Zpi {A:Zb}:∀(ts:List Nat) (s:Nat→Zb) (t:Nat),(t∈ts∧Z36 s (ts.map fun t=>(t,A)) t=A)∨(t∉ts∧Z36 s (ts.map fun t=>(t,A)) t=s t)
 | [],s,t=> .inr ⟨by simp,rfl⟩
 | u::ts,s,t=>by
  simp only [List.map_cons,Z36]
  rcases Zpi ts (upd s u A) t with ⟨h1,h2⟩ | ⟨h1,h2⟩
  ·exact .inl ⟨List.mem_cons_of_mem _ h1,h2⟩
  ·by_cases e:t=u
   ·subst e;exact .inl ⟨by simp,h2.trans (Z02 ..)⟩
   ·exact .inr ⟨by simp [e,h1],h2.trans (Z00 _ _ e)⟩
theorem Hold.freezes {a:Act}{w:World}{ts:List Nat}{i:Nat}{E:TypeId}{k:Kd α}{l:List α}{v:Value}[Sh k E](hX:C.X=Zl)(hs:Z89 S (Zg v) ts)(hr:S.r i=Zi v E k l)(hh:Hold C S a w):Hold C ((S.setL ts (rd (Z1 k) l)).setr i emp) a w:=by
 obtain ⟨O,hh⟩:=hh
 have h3:=hh.res i
 rw [hr] at h3
 obtain ⟨cl,hown,hc,hm⟩:=h3
 let O':Nat→Nat:=fun b=>if O b=Ro i then 0 else O b
 have hO:∀b,O' b≠0→O b≠0∧O' b=O b:=fun b h=>by
  by_cases e:O b=Ro i
  ·exact absurd (if_pos e) h
  ·exact ⟨fun e0=>h (by simp only [O'];rw [if_neg e,e0]),if_neg e⟩
 have hext:Ext w (hid C O) Zl w (hid C O') Zl:=⟨Nat.le_refl _,fun b _ hn=>⟨fun h=>hn (h.imp id fun h=>(hO b h).1),rfl⟩,fun _ _ h=>h.elim⟩
 have go:Goes C (fun q=>q=Ro i) O w O' w:=⟨rfl,rfl,rfl,Nat.le_refl _,fun b hb hq=>⟨if_neg hq,rfl⟩,fun b h=> .inl (hO b h).1,fun b h=>(hh.own b (hO b h).1).2,fun h=>Z0m i h.symm⟩
 refine ⟨O',hh.goes go rfl rfl rfl (fun s=>?_) (fun j=>?_)⟩
 ·rcases Zpi (A:=rd (Z1 k) l) ts S.s s with ⟨h1,h2⟩ | ⟨h1,h2⟩
  ·right
   simp only [St.setL,St.setr]
   rw [h2]
   have h5:a.tmps.getD s undef=v:=Z56 (by have:=hh.slot s;rwa [Zt9 hs s h1] at this)
   rw [h5]
   refine Z4y (Zaf (H':=Zl) hown (hc.mono hext) fun b hb=>?_)
   rintro (h | h)
   ·have h5:=hm b hb
    have h6:=(hh.own b (by rw [h5];exact Z0m i)).1
    rw [hX] at h6
    have h7:=hh.h0 b h
    rcases h6 with h6 | h6
    ·omega
    ·exact h6
   ·exact h (if_pos (hm b hb))
  ·exact .inl ⟨by simp only [St.setL,St.setr];exact h2,Z1g s i,rfl⟩
 ·by_cases e:j=i
  ·subst e
   right
   simp only [St.setr,Z02]
   trivial
  ·exact .inl ⟨by simp only [St.setr];rw [Z00 _ _ e];rfl,fun h=>e (Z26 h)⟩
theorem AOps.freezes {ops:Array Oper}{Q:Exit→St→Prop}{c:List Oper}(ts:List Nat)(i:Nat){E:TypeId}{k:Kd α}{l:List α}{v:Value}[Sh k E](hX:C.X=Zl)(hs:Z89 S (Zg v) ts)(hr:S.r i=Zi v E k l)(h:AOps C ops Q c ((S.setL ts (rd (Z1 k) l)).setr i emp)):AOps C ops Q c S:=
 fun a w hh=>h a w (hh.freezes hX hs hr)
theorem AW.freezes {Q:Exit→St→Prop}{c:Code}(ts:List Nat)(i:Nat){E:TypeId}{k:Kd α}{l:List α}{v:Value}[Sh k E](hX:C.X=Zl)(hs:Z89 S (Zg v) ts)(hr:S.r i=Zi v E k l)(h:AW C c Q ((S.setL ts (rd (Z1 k) l)).setr i emp)):AW C c Q S:=
 fun a w hh=>h a w (hh.freezes hX hs hr)
section u64
variable {T U : TypeId} {x y : Operand} {m n : BitVec 64}
theorem Yhw (x:Nat):IntKind.u64.wrap (x:Int)=((x % 18446744073709551616:Nat):Int):=by
 simp [IntKind.wrap,IntKind.signed,IntKind.bits]
theorem Zo6 (z:Int):IntKind.u64.wrap z=((BitVec.ofInt 64 z).toNat:Int):=by
 rw [BitVec.toNat_ofInt]
 simp only [IntKind.wrap,IntKind.signed,IntKind.bits]
 have:=Int.emod_nonneg z (show (18446744073709551616:Int)≠0 by decide)
 simp
 omega
theorem Ykf (m n:BitVec 64):BitVec.ofInt 64 ((m.toNat:Int)+(n.toNat:Int))=m+n:=by rw [BitVec.ofInt_add,Z6y,Z6y]
theorem Yib (m n:BitVec 64):BitVec.ofInt 64 ((m.toNat:Int) - (n.toNat:Int))=m - n:=by
 apply BitVec.eq_of_toNat_eq
 rw [BitVec.toNat_ofInt,BitVec.toNat_sub]
 have:=m.isLt;have:=n.isLt
 omega
theorem Zar (ho:o.op= .binOp .add T x y U)(hd:Zq o C.N=true)(hx:Val C S x (rd Zx m))(hy:Val C S y (rd Zx n)):OpE C o S (S.put o.dst (rd Zx (m+n))):=
 OpE.plain (by simp [ho]) hd fun O a w hh=>by
  have h1:=Z3x (hx.of hh);have h2:=Z3x (hy.of hh)
  refine ⟨.int .u64 (IntKind.u64.wrap ((m.toNat:Int)+(n.toNat:Int))),by simp [execOp,ho,h1,h2,Z2k,binOp,Op.intArith],Z7t ?_⟩
  rw [Zo6,Ykf]
theorem Ych (ho:o.op= .binOp .sub T x y U)(hd:Zq o C.N=true)(hx:Val C S x (rd Zx m))(hy:Val C S y (rd Zx n)):OpE C o S (S.put o.dst (rd Zx (m - n))):=
 OpE.plain (by simp [ho]) hd fun O a w hh=>by
  have h1:=Z3x (hx.of hh);have h2:=Z3x (hy.of hh)
  refine ⟨.int .u64 (IntKind.u64.wrap ((m.toNat:Int) - (n.toNat:Int))),by simp [execOp,ho,h1,h2,Z2k,binOp,Op.intArith],Z7t ?_⟩
  rw [Zo6,Yib]
def Zg4 (m:BitVec 64)(n:Int):Option (BitVec 64):=bif decide (n<0) then none else some (m<<<n.toNat)
def Z3o (m:BitVec 64)(n:Int):Option (BitVec 64):=bif decide (n<0) then none else some (m>>>n.toNat)
theorem Yae {m r:BitVec 64}{n:Int}(h:Zg4 m n=some r):¬n<0∧m<<<n.toNat=r:=by
 unfold Zg4 at h
 by_cases e:n<0
 ·rw [decide_eq_true e] at h;cases h
 ·rw [decide_eq_false e] at h;exact ⟨e,Option.some.inj h⟩
theorem Yms {m r:BitVec 64}{n:Int}(h:Z3o m n=some r):¬n<0∧m>>>n.toNat=r:=by
 unfold Z3o at h
 by_cases e:n<0
 ·rw [decide_eq_true e] at h;cases h
 ·rw [decide_eq_false e] at h;exact ⟨e,Option.some.inj h⟩
theorem Ybj (m:BitVec 64)(k:Nat):IntKind.u64.wrap ((m.toNat:Int)*2 ^ (min k 64))=((m<<<k).toNat:Int):=by
 have e1:((m.toNat:Int)*2 ^ (min k 64))=((m.toNat*2 ^ (min k 64):Nat):Int):=by rw [Int.natCast_mul,Int.natCast_pow];rfl
 rw [e1,Yhw,BitVec.toNat_shiftLeft,Nat.shiftLeft_eq]
 congr 1
 rcases Nat.lt_or_ge k 64 with h | h
 ·rw [Nat.min_eq_left (by omega)]
 ·rw [Nat.min_eq_right h]
  obtain ⟨j,rfl⟩:∃j,k=j+64:=⟨k - 64,by omega⟩
  rw [Nat.pow_add,←Nat.mul_assoc,Nat.mul_mod_left,Nat.mul_mod_left]
theorem Ylf (m:BitVec 64)(k:Nat):((m.toNat:Int).fdiv (2 ^ (min k 64)))=((m>>>k).toNat:Int):=by
 rw [BitVec.toNat_ushiftRight,Nat.shiftRight_eq_div_pow]
 have e:((2:Int) ^ (min k 64))=((2 ^ (min k 64):Nat):Int):=by rw [Int.natCast_pow];rfl
 rw [e,Int.fdiv_eq_ediv_of_nonneg _ (Int.natCast_nonneg _),←Int.natCast_ediv]
 congr 1
 rcases Nat.lt_or_ge k 64 with h | h
 ·rw [Nat.min_eq_left (by omega)]
 ·rw [Nat.min_eq_right h]
  have hm:=m.isLt
  rw [Nat.div_eq_of_lt hm,Nat.div_eq_of_lt (Nat.lt_of_lt_of_le hm (Nat.pow_le_pow_right (by decide) h))]
theorem Zxx {r:BitVec 64}{jk:IntKind}{n:Int}(ho:o.op= .binOp .shl T x y U)(hd:Zq o C.N=true)(hx:Val C S x (rd Zx m))(hy:Val C S y (rd (Z0 jk) n))(h:Zg4 m n=some r):OpE C o S (S.put o.dst (rd Zx r)):=
 OpE.plain (by simp [ho]) hd fun O a w hh=>by
  obtain ⟨h0,rfl⟩:=Yae h
  have h1:=Z3x (hx.of hh);have h2:=(Z0q (hy.of hh)).1
  exact ⟨.int .u64 (IntKind.u64.wrap ((m.toNat:Int)*2 ^ (min n.toNat 64))),by simp [execOp,ho,h1,h2,Z2k,binOp,Op.shift,h0,IntKind.bits],Z7t (Ybj m n.toNat)⟩
theorem Z4k {r:BitVec 64}{jk:IntKind}{n:Int}(ho:o.op= .binOp .shr T x y U)(hd:Zq o C.N=true)(hx:Val C S x (rd Zx m))(hy:Val C S y (rd (Z0 jk) n))(h:Z3o m n=some r):OpE C o S (S.put o.dst (rd Zx r)):=
 OpE.plain (by simp [ho]) hd fun O a w hh=>by
  obtain ⟨h0,rfl⟩:=Yms h
  have h1:=Z3x (hx.of hh);have h2:=(Z0q (hy.of hh)).1
  exact ⟨.int .u64 ((m.toNat:Int).fdiv (2 ^ (min n.toNat 64))),by simp [execOp,ho,h1,h2,Z2k,binOp,Op.shift,h0,IntKind.bits],Z7t (Ylf m n.toNat)⟩
theorem Z6z {n:Int}{ik:IntKind}(ho:o.op= .convert T U x)(hd:Zq o C.N=true)(hT:(C.P.underlying T).isSome=true)(hU:C.P.underlying U=some (.int .u64))(hx:Val C S x (rd (Z0 ik) n)):OpE C o S (S.put o.dst (rd Zx (BitVec.ofInt 64 n))):=
 OpE.plain (by simp [ho]) hd fun O a w hh=>by
  have h1:=Z0q (hx.of hh)
  obtain ⟨d,hd'⟩:=Option.isSome_iff_exists.1 hT
  refine ⟨.int .u64 (IntKind.u64.wrap n),?_,Z7t (Zo6 n)⟩
  simp only [execOp,ho,h1.1,convert,Sem.run_bind,run_underlying hd',run_underlying hU,Result.andThen_ok]
  cases d<;>simp [Conv.intToInt]
theorem Z6h {ik:IntKind}(ho:o.op= .convert T U x)(hd:Zq o C.N=true)(hT:(C.P.underlying T).isSome=true)(hU:C.P.underlying U=some (.int ik))(hx:Val C S x (rd Zx m)):OpE C o S (S.put o.dst (rd (Z0 ik) (ik.wrap (m.toNat:Int)))):=
 OpE.plain (by simp [ho]) hd fun O a w hh=>by
  have h1:=Z3x (hx.of hh)
  obtain ⟨d,hd'⟩:=Option.isSome_iff_exists.1 hT
  refine ⟨.int ik (ik.wrap (m.toNat:Int)),?_,Z35 (Z72 _ _)⟩
  simp only [execOp,ho,h1,convert,Sem.run_bind,run_underlying hd',run_underlying hU,Result.andThen_ok]
  cases d<;>simp [Conv.intToInt]
end u64
end lend
end Go.Wb
namespace Go.Wb
open Go
theorem AW.weakQ {C:Ctx}{c:Code}{Q Q':Exit→St→Prop}{S:St}(h:AW C c Q' S)(hq:∀e S',Q' e S'→∃S'',Q e S''∧S'.d=S''.d∧(∀t,S''.s t=S'.s t∨S''.s t=top)∧(∀i,S''.r i=S'.r i∨S''.r i=emp)):AW C c Q S:=by
 intro a w hh
 refine wpIn_mono (h a w hh) ?_
 rintro e a' w' ⟨S',h1,O,h2⟩
 obtain ⟨S'',h3,h4,h5,h6⟩:=hq e S' h1
 exact ⟨S'',h3,O,h2.weak h4.symm h5 h6⟩
def Ygf {σ:Type}(M:σ→List (Nat×Res))(Mx:Code→σ→List (Nat×Res))(r:Lp σ):Exit→St→Prop
 | .normal,S'=> ∃s',r= .go s'∧Z5q S' (M s')
 | .exit id,S'=> ∃s',r= .out (.exit id) s'∧Z5q S' (Mx (.exit id) s')
 | .ret,S'=> ∃s',r= .out .ret s'∧Z5q S' (Mx .ret s')
 | _,_=>False
theorem AW.bodyOf {C:Ctx}{c:Code}{σ:Type}{M:σ→List (Nat×Res)}{Mx:Code→σ→List (Nat×Res)}{r:Lp σ}{S:St}(h:AW C c (Ygf M Mx r) S):AW C c (Zpm (fun s=>Z2e (M s)) (fun c s=>Z2e (Mx c s)) r) S:=by
 refine AW.weakQ h fun e S' hq=>?_
 have key:∀l:List (Nat×Res),Z5q S' l→∀i,(Z2e l) i=S'.r i∨(Z2e l) i=emp:=fun l hl=>Zib hl (fun _=> .inr rfl)
 cases e with
 | normal=>obtain ⟨s',h1,h2⟩:=hq;exact ⟨⟨S'.s,Z2e (M s'),S'.d⟩,⟨s',h1,rfl⟩,rfl,fun _=> .inl rfl,key _ h2⟩
 | exit id=>obtain ⟨s',h1,h2⟩:=hq;exact ⟨⟨S'.s,Z2e (Mx (.exit id) s'),S'.d⟩,⟨s',h1,rfl⟩,rfl,fun _=> .inl rfl,key _ h2⟩
 | ret=>obtain ⟨s',h1,h2⟩:=hq;exact ⟨⟨S'.s,Z2e (Mx .ret s'),S'.d⟩,⟨s',h1,rfl⟩,rfl,fun _=> .inl rfl,key _ h2⟩
 | goto t=>exact hq.elim
 | panic ch=>exact hq.elim
 | outgrown=>exact hq.elim
def Z5k {α:Type}(g:Nat)(T E:TypeId)(k:Kd α)(l:List α):Res:=
 ⟨fun w H M=> ∃v:Value,M g∧w.heap[g]? =some (.cells #[v] T (0,0))∧(∃cl,w.ownsRow 0 E k.sz v l.length cl∧Cells k w H l cl)∧∀b,v.ownBlock=some b→M b∧b≠g,
  fun {w H M w' H' M'} h ⟨v,h1,h2,⟨cl,ho,hc⟩,h3⟩=>by
  obtain ⟨a,b⟩:=h.own g (Array.getElem?_eq_some_iff.1 h2).1 h1
  refine ⟨v,a,b.trans h2,⟨cl,⟨ho.1,?_⟩,hc.mono h.pure_⟩,fun b hb=>⟨(h.own b (ho.lt b hb).2 (h3 b hb).1).1,(h3 b hb).2⟩⟩
  rcases ho.2 with e | ⟨g',cap,cur,rfl,hb,hg,r⟩
  ·exact .inl e
  ·exact .inr ⟨g',cap,cur,rfl,hb,(h.own g' (Array.getElem?_eq_some_iff.1 hg).1 (h3 g' rfl).1).2.trans hg,r⟩⟩
section box
variable {C : Ctx} {S S' : St} {o : Oper} {α : Type}
theorem Zkl {w:World}{E:TypeId}{sz n:Nat}{v:Value}{cl:List Value}(ho:w.ownsRow 0 E sz v n cl):v.oneCell'=true:=by
 rcases ho.2 with ⟨rfl,_⟩ | ⟨g,cap,cur,rfl,_⟩<;>rfl
theorem Zbo {t i:Nat}{E:TypeId}{k:Kd α}{l:List α}{v:Value}(hs:S.s t=Zg v)(hr:S.r i=Zi v E k l):Val C S (.tmp t) (rd kraw v):=fun O a w hh=>by
 have h1:a.eval (.tmp t)=v:=Z56 (by have:=hh.slot t;rwa [hs] at this)
 have h2:=hh.res i
 rw [hr] at h2
 obtain ⟨cl,ho,_⟩:=h2
 rw [h1]
 exact ⟨[v],⟨rfl,Zkl ho⟩,rfl⟩
theorem vkr {x:Operand}{v:Value}(h:Val C S x (Zg v))(h1:v.oneCell'=true):Val C S x (rd kraw v):=fun O a w hh=>⟨[v],⟨rfl,h1⟩,h O a w hh⟩
theorem Zmm {T T':TypeId}{g i:Nat}{v:Value}{p:Operand}(ho:o.op= .load T p)(hd:Zq o C.N=true)(ht:Ty C.P T kraw)(hp:Val C S p (Za g (Lens.id kraw)))(hr:S.r i=Zd g T' kraw v):OpE C o S (S.put o.dst (Zg v)):=by
 have h:=Z08 (i:=i) ho hd ht hp hr
 rintro a w hh
 have h1:=h a w hh
 refine ⟨h1.1,Oper.uponIn_mono (fun a' w' hx=>?_) (fun _ _ _ h=>h) _ h1.2⟩
 obtain ⟨S'',rfl,O,h2⟩:=hx
 refine ⟨_,rfl,O,{h2 with slot:=fun t=>?_,res:=fun j=>by have h5:=h2.res j;cases hdst:o.dst<;>rw [hdst] at h5<;>exact h5,dfr:=by have h5:=h2.dfr;cases hdst:o.dst<;>rw [hdst] at h5<;>exact h5}⟩
 have h5:=h2.slot t
 cases hdst:o.dst with
 | none=>rw [hdst] at h5;exact h5
 | some d=>
  rw [hdst] at h5
  by_cases e:t=d
  ·subst e
   simp only [St.put,St.set,Z02] at h5 ⊢
   obtain ⟨cs,⟨rfl,_⟩,e⟩:=h5
   exact e
  ·simp only [St.put,St.set] at h5 ⊢
   rw [Z00 _ _ e] at h5 ⊢
   exact h5
theorem Hold.unbox {a:Act}{w:World}{i j g:Nat}{T E:TypeId}{k:Kd α}{l:List α}(hij:i≠j)(hr:S.r i=Z5k g T E k l)(hj:S.r j=emp)(hh:Hold C S a w):∃v,Hold C ((S.setr i (Zd g T kraw v)).setr j (Zi v E k l)) a w:=by
 obtain ⟨O0,hh0⟩:=hh
 obtain ⟨O,hh,hne,_⟩:=hh0.drop hj
 have h1:=hh.res i
 rw [hr] at h1
 obtain ⟨v,hm,hg,⟨cl,ho,hc⟩,hb⟩:=h1
 have hmg:O g=Ro i:=hm
 let O':Nat→Nat:=fun b=>if v.ownBlock=some b then Ro j else O b
 have hO1:∀b,v.ownBlock=some b→O' b=Ro j:=fun b h=>if_pos h
 have hO2:∀b,v.ownBlock≠some b→O' b=O b:=fun b h=>if_neg h
 have hiff:∀b,O' b≠0↔O b≠0:=fun b=>by
  by_cases e:v.ownBlock=some b
  ·have h5:O b=Ro i:=(hb b e).1
   rw [hO1 b e,h5];exact ⟨fun _=>Z0m i,fun _=>Z0m j⟩
  ·rw [hO2 b e]
 have hext:Ext w (hid C O) Zl w (hid C O') Zl:=⟨Nat.le_refl _,fun b _ hn=>⟨fun h=>hn (h.imp id (hiff b).1),rfl⟩,fun _ _ h=>h.elim⟩
 refine ⟨v,O',⟨hh.h0,hh.os,hh.tape,hh.output,hh.size,hh.old,fun b hb=>hh.own b ((hiff b).1 hb),hh.dfr,hh.n,fun s=>?_,fun q=>?_⟩⟩
 ·refine (S.s s).mono ⟨Nat.le_refl _,hext.vis,fun b _ hb'=>⟨?_,rfl⟩⟩ (hh.slot s)
  have h5:O b=So s:=hb'
  show O' b=So s
  rw [hO2 b (fun e=>by have h6:O b=Ro i:=(hb b e).1;rw [h5] at h6;exact Z1g s i h6),h5]
 ·simp only [St.setr]
  by_cases e:q=j
  ·subst e
   rw [Z02]
   exact ⟨cl,ho,hc.mono hext,fun b hb'=>hO1 b hb'⟩
  ·rw [Z00 _ _ e]
   by_cases e':q=i
   ·subst e'
    rw [Z02]
    refine ⟨?_,[v],hg,rfl,Zkl ho⟩
    show O' g=Ro q
    rw [hO2 g (fun e=>(hb g e).2 rfl)];exact hmg
   ·rw [Z00 _ _ e']
    refine (S.r q).mono ⟨Nat.le_refl _,hext.vis,fun b _ hb'=>⟨?_,rfl⟩⟩ (hh.res q)
    have h5:O b=Ro q:=hb'
    show O' b=Ro q
    rw [hO2 b (fun e=>by have h6:O b=Ro i:=(hb b e).1;rw [h5] at h6;exact e' (Z26 h6)),h5]
theorem Hold.pack {a:Act}{w:World}{i j g:Nat}{v:Value}{T E:TypeId}{k:Kd α}{l:List α}(hij:i≠j)(hr:S.r i=Zd g T kraw v)(hj:S.r j=Zi v E k l)(hh:Hold C S a w):Hold C ((S.setr i (Z5k g T E k l)).setr j emp) a w:=by
 obtain ⟨O,hh⟩:=hh
 have h1:=hh.res i
 rw [hr] at h1
 obtain ⟨hm,cs,hg,rfl,_⟩:=h1
 have h2:=hh.res j
 rw [hj] at h2
 obtain ⟨cl,ho,hc,hb⟩:=h2
 let O':Nat→Nat:=fun b=>if O b=Ro j then Ro i else O b
 have hO1:∀b,O b=Ro j→O' b=Ro i:=fun b h=>if_pos h
 have hO2:∀b,O b≠Ro j→O' b=O b:=fun b h=>if_neg h
 have hiff:∀b,O' b≠0↔O b≠0:=fun b=>by
  by_cases e:O b=Ro j
  ·rw [hO1 b e,e];exact ⟨fun _=>Z0m j,fun _=>Z0m i⟩
  ·rw [hO2 b e]
 have hext:Ext w (hid C O) Zl w (hid C O') Zl:=⟨Nat.le_refl _,fun b _ hn=>⟨fun h=>hn (h.imp id (hiff b).1),rfl⟩,fun _ _ h=>h.elim⟩
 have hmg:O g=Ro i:=hm
 refine ⟨O',⟨hh.h0,hh.os,hh.tape,hh.output,hh.size,hh.old,fun b hb=>hh.own b ((hiff b).1 hb),hh.dfr,hh.n,fun s=>?_,fun q=>?_⟩⟩
 ·refine (S.s s).mono ⟨Nat.le_refl _,hext.vis,fun b _ hb'=>⟨?_,rfl⟩⟩ (hh.slot s)
  have h5:O b=So s:=hb'
  show O' b=So s
  rw [hO2 b (by rw [h5];exact Z1g s j),h5]
 ·simp only [St.setr]
  by_cases e:q=j
  ·subst e;rw [Z02];trivial
  ·rw [Z00 _ _ e]
   by_cases e':q=i
   ·subst e'
    rw [Z02]
    refine ⟨v,?_,hg,⟨cl,ho,hc.mono hext⟩,fun b hb'=>⟨hO1 b (hb b hb'),fun e5=>?_⟩⟩
    ·show O' g=Ro q
     rw [hO2 g (by rw [hmg];exact fun h=>hij (Z26 h))];exact hmg
    ·have h6:O b=Ro j:=hb b hb'
     rw [e5,hmg] at h6
     exact hij (Z26 h6)
   ·rw [Z00 _ _ e']
    refine (S.r q).mono ⟨Nat.le_refl _,hext.vis,fun b _ hb'=>⟨?_,rfl⟩⟩ (hh.res q)
    have h5:O b=Ro q:=hb'
    show O' b=Ro q
    rw [hO2 b (by rw [h5];exact fun h=>e (Z26 h)),h5]
theorem AW.unbox {Q:Exit→St→Prop}{c:Code}(i j:Nat){g:Nat}{T E:TypeId}{k:Kd α}{l:List α}(hij:i≠j)(hr:S.r i=Z5k g T E k l)(hj:S.r j=emp)(h:∀v,AW C c Q ((S.setr i (Zd g T kraw v)).setr j (Zi v E k l))):AW C c Q S:=
 fun a w hh=>let ⟨v,h1⟩:=hh.unbox hij hr hj;h v a w h1
theorem AW.pack {Q:Exit→St→Prop}{c:Code}(i j:Nat){g:Nat}{v:Value}{T E:TypeId}{k:Kd α}{l:List α}(hij:i≠j)(hr:S.r i=Zd g T kraw v)(hj:S.r j=Zi v E k l)(h:AW C c Q ((S.setr i (Z5k g T E k l)).setr j emp)):AW C c Q S:=
 fun a w hh=>h a w (hh.pack hij hr hj)
theorem AOps.pack {ops:Array Oper}{Q:Exit→St→Prop}{c:List Oper}(i j:Nat){g:Nat}{v:Value}{T E:TypeId}{k:Kd α}{l:List α}(hij:i≠j)(hr:S.r i=Zd g T kraw v)(hj:S.r j=Zi v E k l)(h:AOps C ops Q c ((S.setr i (Z5k g T E k l)).setr j emp)):AOps C ops Q c S:=
 fun a w hh=>h a w (hh.pack hij hr hj)
end box
def Zkt {α:Type}(l:List α)(x:α):Option (Lp (List α)):=(Z11 l [x]).bind fun m=>some (.go m)
def Y9g {σ:Type}:Lp σ→Option σ
 | .go s=>some s
 | .out _ _=>none
def Zr4 {α:Type}(q:Itr α):Option (List α):=(q.run (List α) Zkt (.go [])).bind Y9g
theorem Y1f {α:Type}{q:Itr α}{l:List α}(h:Zr4 q=some l):q.run (List α) Zkt (.go [])=some (.go l):=by
 obtain ⟨r,h1,h2⟩:=Z6 h
 cases r with
 | go s=>cases h2;exact h1
 | out c s=>cases h2
end Go.Wb
namespace Go.Wb
open Go
def gdx (t:Bool)(A:Zb):Zb:=⟨fun w H M v=>(t=true→A.R w H M v)∧(t=false→v=undef),fun h k=>⟨fun ht=>A.mono h (k.1 ht),k.2⟩⟩
instance (t:Bool)(A:Zb)[Dup A]:Dup (gdx t A):=⟨fun h=>⟨fun ht=>Dup.dup (h.1 ht),h.2⟩⟩
theorem Zj8 {α:Type _}[Inhabited α]{t:Bool}{x:Option α}{r:α}(h:opt t x=some r)(ht:t=true):x=some r:=by subst ht;exact h
section guards
variable {C : Ctx} {ops : Array Oper} {S S' : St} {o : Oper}
theorem vgx {t:Nat}{b:Bool}{A:Zb}[Dup A](h:S.s t=gdx b A)(hb:b=true):Val C S (.tmp t) A:=fun O a w hh=>by
 have h1:=hh.slot t
 rw [h] at h1
 exact Dup.dup (h1.1 hb)
theorem vgw {t:Nat}{c d:Bool}{A:Zb}[Dup A](h:S.s t=gd (c&&d) A)(hc:c=true):Val C S (.tmp t) (gd d A):=fun O a w hh hd=>by
 have h1:=hh.slot t
 rw [h] at h1
 exact Dup.dup (h1 (by rw [hc,hd];rfl))
theorem OpG.guardX {A:Zb}{j gt:Nat}{b want:Bool}(hg:o.guard=some (j,want))(hj:(ops[j]?).bind (·.dst)=some gt)(hn:Nat.blt gt C.N=true)(hb:S.s gt=rd Z3 b)(hd:Zq o C.N=true)
  (h:(b==want)=true→OpE C o S (S.put o.dst A)):OpG C ops o S (S.put o.dst (gdx (b==want) A)):=by
 rintro a w ⟨O,hh⟩
 have h1:=Zaa ((vt hb).of hh)
 have hlt:gt<a.tmps.size:=by rw [hh.n];simpa using hn
 have hy:yielded ops a.tmps j=some b:=by
  have h1':a.tmps[gt]?.getD undef= .bool b:=by simpa [Act.eval] using h1
  simp only [yielded,hj,Option.bind_some]
  rw [Array.getElem?_eq_getElem hlt] at h1' ⊢
  simp only [Option.getD_some] at h1'
  rw [h1']
 have hw:Region.wanted o (yielded ops a.tmps)=(b==want):=by
  simp only [Region.wanted,hg,hy]
  cases b<;>cases want<;>rfl
 rw [hw]
 cases hq:(b==want) with
 | true=>
  simp only [if_true]
  have h2:=h hq a w ⟨O,hh⟩
  refine ⟨h2.1,Oper.uponIn_mono (fun a' w' hx=>?_) (fun _ _ _ h=>h) _ h2.2⟩
  obtain ⟨S'',rfl,O',h4⟩:=hx
  refine ⟨O',{h4 with slot:=fun t=>?_,res:=fun i=>by have h5:=h4.res i;cases hdst:o.dst<;>rw [hdst] at h5<;>exact h5,dfr:=by have h5:=h4.dfr;cases hdst:o.dst<;>rw [hdst] at h5<;>exact h5}⟩
  cases hdst:o.dst with
  | none=>have:=h4.slot t;rw [hdst] at this;exact this
  | some d=>
   have h5:=h4.slot t
   rw [hdst] at h5
   by_cases e:t=d
   ·subst e
    simp only [St.put,St.set,Z02] at h5 ⊢
    exact ⟨fun _=>h5,fun h=>by cases h⟩
   ·simp only [St.put,St.set] at h5 ⊢
    rw [Z00 _ _ e] at h5 ⊢
    exact h5
 | false=>
  simp only [Bool.false_eq_true,if_false]
  exact ⟨O,hh.yield_same (Z2r hd) ⟨(fun h=>by cases h),(fun _=>rfl)⟩⟩
theorem OpG.guardN {A:Zb}{j gt:Nat}{b c want:Bool}(hg:o.guard=some (j,want))(hj:(ops[j]?).bind (·.dst)=some gt)(hn:Nat.blt gt C.N=true)(hb:S.s gt=gdx c (rd Z3 b))(hd:Zq o C.N=true)
  (h:(c&&(b==want))=true→OpE C o S (S.put o.dst A)):OpG C ops o S (S.put o.dst (gd (c&&(b==want)) A)):=by
 rintro a w ⟨O,hh⟩
 have h0:=hh.slot gt
 rw [hb] at h0
 have hlt:gt<a.tmps.size:=by rw [hh.n];simpa using hn
 have hw:Region.wanted o (yielded ops a.tmps)=(c&&(b==want)):=by
  cases c with
  | true=>
   have h1:a.tmps.getD gt undef= .bool b:=by
    obtain ⟨cs,rfl,e⟩:=h0.1 rfl
    exact e
   have hy:yielded ops a.tmps j=some b:=by
    have h1':a.tmps[gt]?.getD undef= .bool b:=by simpa using h1
    simp only [yielded,hj,Option.bind_some]
    rw [Array.getElem?_eq_getElem hlt] at h1' ⊢
    simp only [Option.getD_some] at h1'
    rw [h1']
   simp only [Region.wanted,hg,hy]
   cases b<;>cases want<;>rfl
  | false=>
   have h1:=h0.2 rfl
   have hy:yielded ops a.tmps j=none:=by
    have h1':a.tmps[gt]?.getD undef=undef:=by simpa using h1
    simp only [yielded,hj,Option.bind_some]
    rw [Array.getElem?_eq_getElem hlt] at h1' ⊢
    simp only [Option.getD_some] at h1'
    rw [h1']
    rfl
   simp only [Region.wanted,hg,hy]
   rfl
 rw [hw]
 cases hq:(c&&(b==want)) with
 | true=>
  simp only [if_true]
  have h2:=h hq a w ⟨O,hh⟩
  refine ⟨h2.1,Oper.uponIn_mono (fun a' w' hx=>?_) (fun _ _ _ h=>h) _ h2.2⟩
  obtain ⟨S'',rfl,O',h4⟩:=hx
  refine ⟨O',{h4 with slot:=fun t=>?_,res:=fun i=>by have h5:=h4.res i;cases hdst:o.dst<;>rw [hdst] at h5<;>exact h5,dfr:=by have h5:=h4.dfr;cases hdst:o.dst<;>rw [hdst] at h5<;>exact h5}⟩
  cases hdst:o.dst with
  | none=>have:=h4.slot t;rw [hdst] at this;exact this
  | some d=>
   have h5:=h4.slot t
   rw [hdst] at h5
   by_cases e:t=d
   ·subst e
    simp only [St.put,St.set,Z02] at h5 ⊢
    exact fun _=>h5
   ·simp only [St.put,St.set] at h5 ⊢
    rw [Z00 _ _ e] at h5 ⊢
    exact h5
 | false=>
  simp only [Bool.false_eq_true,if_false]
  exact ⟨O,hh.yield_same (Z2r hd) (fun h=>by cases h)⟩
end guards
end Go.Wb
namespace Go.Wb
open Go
def Z1c {α β:Type}(g:Nat)(T:TypeId)(kO:Kd β)(c:Value→β)(E:TypeId)(k:Kd α)(l:List α):Res:=
 ⟨fun w H M=> ∃v:Value,M g∧(∃cs:List Value,w.heap[g]? =some (.cells cs.toArray T (0,0))∧kO.C w H (c v) cs)∧(∃cl,w.ownsRow 0 E k.sz v l.length cl∧Cells k w H l cl)∧∀b,v.ownBlock=some b→M b∧b≠g,
  fun {w H M w' H' M'} h ⟨v,h1,⟨cs,h2,hk⟩,⟨cl,ho,hc⟩,h3⟩=>by
  obtain ⟨a,b⟩:=h.own g (Array.getElem?_eq_some_iff.1 h2).1 h1
  refine ⟨v,a,⟨cs,b.trans h2,kO.mono h.pure_ hk⟩,⟨cl,⟨ho.1,?_⟩,hc.mono h.pure_⟩,fun b hb=>⟨(h.own b (ho.lt b hb).2 (h3 b hb).1).1,(h3 b hb).2⟩⟩
  rcases ho.2 with e | ⟨g',cap,cur,rfl,hb,hg,r⟩
  ·exact .inl e
  ·exact .inr ⟨g',cap,cur,rfl,hb,(h.own g' (Array.getElem?_eq_some_iff.1 hg).1 (h3 g' rfl).1).2.trans hg,r⟩⟩
section boxf
variable {C : Ctx} {S S' : St} {o : Oper} {α β γ : Type}
theorem Hold.unboxF {a:Act}{w:World}{i j g:Nat}{T E:TypeId}{kO:Kd β}{c:Value→β}{k:Kd α}{l:List α}(hij:i≠j)(hr:S.r i=Z1c g T kO c E k l)(hj:S.r j=emp)(hh:Hold C S a w):∃v,Hold C ((S.setr i (Zd g T kO (c v))).setr j (Zi v E k l)) a w:=by
 obtain ⟨O0,hh0⟩:=hh
 obtain ⟨O,hh,hne,_⟩:=hh0.drop hj
 have h1:=hh.res i
 rw [hr] at h1
 obtain ⟨v,hm,⟨cs,hg,hkc⟩,⟨cl,ho,hc⟩,hb⟩:=h1
 have hmg:O g=Ro i:=hm
 let O':Nat→Nat:=fun b=>if v.ownBlock=some b then Ro j else O b
 have hO1:∀b,v.ownBlock=some b→O' b=Ro j:=fun b h=>if_pos h
 have hO2:∀b,v.ownBlock≠some b→O' b=O b:=fun b h=>if_neg h
 have hiff:∀b,O' b≠0↔O b≠0:=fun b=>by
  by_cases e:v.ownBlock=some b
  ·have h5:O b=Ro i:=(hb b e).1
   rw [hO1 b e,h5];exact ⟨fun _=>Z0m i,fun _=>Z0m j⟩
  ·rw [hO2 b e]
 have hext:Ext w (hid C O) Zl w (hid C O') Zl:=⟨Nat.le_refl _,fun b _ hn=>⟨fun h=>hn (h.imp id (hiff b).1),rfl⟩,fun _ _ h=>h.elim⟩
 refine ⟨v,O',⟨hh.h0,hh.os,hh.tape,hh.output,hh.size,hh.old,fun b hb=>hh.own b ((hiff b).1 hb),hh.dfr,hh.n,fun s=>?_,fun q=>?_⟩⟩
 ·refine (S.s s).mono ⟨Nat.le_refl _,hext.vis,fun b _ hb'=>⟨?_,rfl⟩⟩ (hh.slot s)
  have h5:O b=So s:=hb'
  show O' b=So s
  rw [hO2 b (fun e=>by have h6:O b=Ro i:=(hb b e).1;rw [h5] at h6;exact Z1g s i h6),h5]
 ·simp only [St.setr]
  by_cases e:q=j
  ·subst e
   rw [Z02]
   exact ⟨cl,ho,hc.mono hext,fun b hb'=>hO1 b hb'⟩
  ·rw [Z00 _ _ e]
   by_cases e':q=i
   ·subst e'
    rw [Z02]
    refine ⟨?_,cs,hg,kO.mono hext hkc⟩
    show O' g=Ro q
    rw [hO2 g (fun e=>(hb g e).2 rfl)];exact hmg
   ·rw [Z00 _ _ e']
    refine (S.r q).mono ⟨Nat.le_refl _,hext.vis,fun b _ hb'=>⟨?_,rfl⟩⟩ (hh.res q)
    have h5:O b=Ro q:=hb'
    show O' b=Ro q
    rw [hO2 b (fun e=>by have h6:O b=Ro i:=(hb b e).1;rw [h5] at h6;exact e' (Z26 h6)),h5]
theorem HoldO.packF {O:Nat→Nat}{a:Act}{w:World}{i j g:Nat}{v:Value}{T E:TypeId}{kO:Kd β}(c:Value→β){k:Kd α}{l:List α}(hij:i≠j)(hr:S.r i=Zd g T kO (c v))(hj:S.r j=Zi v E k l)(hh:HoldO C S O a w):∃O',HoldO C ((S.setr i (Z1c g T kO c E k l)).setr j emp) O' a w∧∀b,O' b≠0→O b≠0:=by
 have h1:=hh.res i
 rw [hr] at h1
 obtain ⟨hm,cs,hg,hkc⟩:=h1
 have h2:=hh.res j
 rw [hj] at h2
 obtain ⟨cl,ho,hc,hb⟩:=h2
 let O':Nat→Nat:=fun b=>if O b=Ro j then Ro i else O b
 have hO1:∀b,O b=Ro j→O' b=Ro i:=fun b h=>if_pos h
 have hO2:∀b,O b≠Ro j→O' b=O b:=fun b h=>if_neg h
 have hiff:∀b,O' b≠0↔O b≠0:=fun b=>by
  by_cases e:O b=Ro j
  ·rw [hO1 b e,e];exact ⟨fun _=>Z0m j,fun _=>Z0m i⟩
  ·rw [hO2 b e]
 have hext:Ext w (hid C O) Zl w (hid C O') Zl:=⟨Nat.le_refl _,fun b _ hn=>⟨fun h=>hn (h.imp id (hiff b).1),rfl⟩,fun _ _ h=>h.elim⟩
 have hmg:O g=Ro i:=hm
 refine ⟨O',⟨hh.h0,hh.os,hh.tape,hh.output,hh.size,hh.old,fun b hb=>hh.own b ((hiff b).1 hb),hh.dfr,hh.n,fun s=>?_,fun q=>?_⟩,fun b=>(hiff b).1⟩
 ·refine (S.s s).mono ⟨Nat.le_refl _,hext.vis,fun b _ hb'=>⟨?_,rfl⟩⟩ (hh.slot s)
  have h5:O b=So s:=hb'
  show O' b=So s
  rw [hO2 b (by rw [h5];exact Z1g s j),h5]
 ·simp only [St.setr]
  by_cases e:q=j
  ·subst e;rw [Z02];trivial
  ·rw [Z00 _ _ e]
   by_cases e':q=i
   ·subst e'
    rw [Z02]
    refine ⟨v,?_,⟨cs,hg,kO.mono hext hkc⟩,⟨cl,ho,hc.mono hext⟩,fun b hb'=>⟨hO1 b (hb b hb'),fun e5=>?_⟩⟩
    ·show O' g=Ro q
     rw [hO2 g (by rw [hmg];exact fun h=>hij (Z26 h))];exact hmg
    ·have h6:O b=Ro j:=hb b hb'
     rw [e5,hmg] at h6
     exact hij (Z26 h6)
   ·rw [Z00 _ _ e']
    refine (S.r q).mono ⟨Nat.le_refl _,hext.vis,fun b _ hb'=>⟨?_,rfl⟩⟩ (hh.res q)
    have h5:O b=Ro q:=hb'
    show O' b=Ro q
    rw [hO2 b (by rw [h5];exact fun h=>e (Z26 h)),h5]
theorem Hold.packF {a:Act}{w:World}{i j g:Nat}{v:Value}{T E:TypeId}{kO:Kd β}(c:Value→β){k:Kd α}{l:List α}(hij:i≠j)(hr:S.r i=Zd g T kO (c v))(hj:S.r j=Zi v E k l)(hh:Hold C S a w):Hold C ((S.setr i (Z1c g T kO c E k l)).setr j emp) a w:=by
 obtain ⟨O,hh⟩:=hh
 obtain ⟨O',h,_⟩:=hh.packF c hij hr hj
 exact ⟨O',h⟩
theorem AW.unboxF {Q:Exit→St→Prop}{x:Code}(i j:Nat){g:Nat}{T E:TypeId}{kO:Kd β}{c:Value→β}{k:Kd α}{l:List α}(hij:i≠j)(hr:S.r i=Z1c g T kO c E k l)(hj:S.r j=emp)(h:∀v,AW C x Q ((S.setr i (Zd g T kO (c v))).setr j (Zi v E k l))):AW C x Q S:=
 fun a w hh=>let ⟨v,h1⟩:=hh.unboxF hij hr hj;h v a w h1
theorem AW.packF {Q:Exit→St→Prop}{x:Code}(i j:Nat){g:Nat}{v:Value}{T E:TypeId}{kO:Kd β}(c:Value→β){k:Kd α}{l:List α}(hij:i≠j)(hr:S.r i=Zd g T kO (c v))(hj:S.r j=Zi v E k l)(h:AW C x Q ((S.setr i (Z1c g T kO c E k l)).setr j emp)):AW C x Q S:=
 fun a w hh=>h a w (hh.packF c hij hr hj)
theorem AOps.packF {ops:Array Oper}{Q:Exit→St→Prop}{x:List Oper}(i j:Nat){g:Nat}{v:Value}{T E:TypeId}{kO:Kd β}(c:Value→β){k:Kd α}{l:List α}(hij:i≠j)(hr:S.r i=Zd g T kO (c v))(hj:S.r j=Zi v E k l)(h:AOps C ops Q x ((S.setr i (Z1c g T kO c E k l)).setr j emp)):AOps C ops Q x S:=
 fun a w hh=>h a w (hh.packF c hij hr hj)
theorem Z3n {T T':TypeId}{g i:Nat}{kO:Kd β}{L:Lens kO kraw}{x:β}{p:Operand}(v:Value)(ho:o.op= .load T p)(hd:Zq o C.N=true)(ht:Ty C.P T kraw)(hp:Val C S p (Za g L))(hr:S.r i=Zd g T' kO x)(hv:L.get x=v):OpE C o S (S.put o.dst (Zg v)):=by
 subst hv
 have h:=Z08 (i:=i) ho hd ht hp hr
 rintro a w hh
 have h1:=h a w hh
 refine ⟨h1.1,Oper.uponIn_mono (fun a' w' hx=>?_) (fun _ _ _ h=>h) _ h1.2⟩
 obtain ⟨S'',rfl,O,h2⟩:=hx
 refine ⟨_,rfl,O,{h2 with slot:=fun t=>?_,res:=fun j=>by have h5:=h2.res j;cases hdst:o.dst<;>rw [hdst] at h5<;>exact h5,dfr:=by have h5:=h2.dfr;cases hdst:o.dst<;>rw [hdst] at h5<;>exact h5}⟩
 have h5:=h2.slot t
 cases hdst:o.dst with
 | none=>rw [hdst] at h5;exact h5
 | some d=>
  rw [hdst] at h5
  by_cases e:t=d
  ·subst e
   simp only [St.put,St.set,Z02] at h5 ⊢
   obtain ⟨cs,⟨rfl,_⟩,e⟩:=h5
   exact e
  ·simp only [St.put,St.set] at h5 ⊢
   rw [Z00 _ _ e] at h5 ⊢
   exact h5
theorem Hold.freezeF {a:Act}{w:World}{i j g:Nat}{v:Value}{T E:TypeId}{kO:Kd β}{x:β}{kP:Kd γ}{y:γ}{k:Kd α}{l:List α}[Sh k E](hX:C.X=Zl)(hij:i≠j)(hr:S.r i=Zd g T kO x)(hj:S.r j=Zi v E k l)
  (hcv:∀w H cs,kO.C w H x cs→SlC k w H l v→kP.C w H y cs)(hh:Hold C S a w):Hold C ((S.setr i (Zd g T kP y)).setr j emp) a w:=by
 obtain ⟨O,hh⟩:=hh
 have h1:=hh.res i
 rw [hr] at h1
 obtain ⟨hm,cs,hg,hkc⟩:=h1
 have h3:=hh.res j
 rw [hj] at h3
 obtain ⟨cl,hown,hc,hmm⟩:=h3
 let O':Nat→Nat:=fun b=>if O b=Ro j then 0 else O b
 have hO:∀b,O' b≠0→O b≠0∧O' b=O b:=fun b h=>by
  by_cases e:O b=Ro j
  ·exact absurd (if_pos e) h
  ·exact ⟨fun e0=>h (by simp only [O'];rw [if_neg e,e0]),if_neg e⟩
 have hext:Ext w (hid C O) Zl w (hid C O') Zl:=⟨Nat.le_refl _,fun b _ hn=>⟨fun h=>hn (h.imp id fun h=>(hO b h).1),rfl⟩,fun _ _ h=>h.elim⟩
 have go:Goes C (fun q=>q=Ro j) O w O' w:=⟨rfl,rfl,rfl,Nat.le_refl _,fun b hb hq=>⟨if_neg hq,rfl⟩,fun b h=> .inl (hO b h).1,fun b h=>(hh.own b (hO b h).1).2,fun h=>Z0m j h.symm⟩
 have hsl:SlC k w (hid C O') l v:=by
  refine Zaf (H':=Zl) hown (hc.mono hext) fun b hb=>?_
  rintro (h | h)
  ·have h5:=hmm b hb
   have h6:=(hh.own b (by rw [h5];exact Z0m j)).1
   rw [hX] at h6
   have h7:=hh.h0 b h
   rcases h6 with h6 | h6
   ·omega
   ·exact h6
  ·exact h (if_pos (hmm b hb))
 refine ⟨O',hh.goes go rfl rfl rfl (fun s=> .inl ⟨rfl,Z1g s j,rfl⟩) (fun q=>?_)⟩
 by_cases e:q=j
 ·subst e
  right
  simp only [St.setr,Z02]
  trivial
 ·by_cases e':q=i
  ·subst e'
   right
   simp only [St.setr]
   rw [Z00 _ _ e,Z02]
   have hmg:O g=Ro q:=hm
   have hOg:O' g=Ro q:=by
    show (if O g=Ro j then 0 else O g)=Ro q
    rw [if_neg (by rw [hmg];exact fun h=>e (Z26 h)),hmg]
   exact ⟨hOg,cs,hg,hcv _ _ _ (kO.mono hext hkc) hsl⟩
  ·exact .inl ⟨by simp only [St.setr];rw [Z00 _ _ e,Z00 _ _ e'],fun h=>e (Z26 h)⟩
theorem AW.freezeF {Q:Exit→St→Prop}{c:Code}(i j:Nat){g:Nat}{v:Value}{T E:TypeId}{kO:Kd β}{x:β}(kP:Kd γ)(y:γ){k:Kd α}{l:List α}[Sh k E](hX:C.X=Zl)(hij:i≠j)(hr:S.r i=Zd g T kO x)(hj:S.r j=Zi v E k l)
  (hcv:∀w H cs,kO.C w H x cs→SlC k w H l v→kP.C w H y cs)(h:AW C c Q ((S.setr i (Zd g T kP y)).setr j emp)):AW C c Q S:=
 fun a w hh=>h a w (hh.freezeF hX hij hr hj hcv)
theorem Zkb {T T' E:TypeId}{g i t:Nat}{kO:Kd β}{L:Lens kO kraw}{x:β}{k:Kd α}{l:List α}{p:Operand}(ho:o.op= .store T p (.tmp t))(hd:o.dst=none)(ht:Ty C.P T kraw)(hp:Val C S p (Za g L))(hr:S.r i=Zd g T' kO x)(hs:S.s t=Z1y E k l):
  OpE C o S ((S.set t top).setr i (Z1c g T' kO (fun v=>L.set x v) E k l)):=
 OpE.skip (by simp [ho]) fun O a w hh=>by
  have h1:=Z5x (hp.of hh)
  have hsl:=hh.slot t
  rw [hs] at hsl
  obtain ⟨cl,hown,hcl,hms⟩:=hsl
  have h2:=hh.res i
  rw [hr] at h2
  obtain ⟨hm,cs,hg,hc⟩:=h2
  obtain ⟨v,hv⟩:∃v,a.tmps.getD t undef=v:=⟨_,rfl⟩
  rw [hv] at hown hms
  have h5:a.eval (.tmp t)=v:=hv
  have h4:kraw.C w (hid C O) v [v]:=⟨rfl,Zkl hown⟩
  have hmk:mkv kraw.agg [v]=v:=rfl
  have hrun:=Zjb hg ht h4 (Zx5 (L:=L) hc)
  rw [hmk] at hrun
  refine ⟨w.setRow g (lay cs L.off [v]).toArray,by simp [execOp,ho,h1,h5,Instr.storeAt,Instr.sureAddr,hrun],?_⟩
  rw [hd]
  have hOg:O g=Ro i:=hm
  have hvb:∀b,v.ownBlock=some b→O b=So t:=fun b hb=>hms b hb
  have hne:∀b,v.ownBlock=some b→b≠g:=fun b hb e=>by
   have h6:=hvb b hb
   rw [e,hOg] at h6
   exact Z1g t i h6.symm
  let O':Nat→Nat:=fun b=>if O b=So t then Ro i else O b
  have hO1:∀b,O b=So t→O' b=Ro i:=fun b h=>if_pos h
  have hO2:∀b,O b≠So t→O' b=O b:=fun b h=>if_neg h
  have hiff:∀b,O' b≠0↔O b≠0:=fun b=>by
   by_cases e:O b=So t
   ·rw [hO1 b e,e];exact ⟨fun _=>Z6d t,fun _=>Z0m i⟩
   ·rw [hO2 b e]
  have hx:Ext w (hid C O) Zl (w.setRow g (lay cs L.off [v]).toArray) (hid C O') Zl:=⟨by simp,fun b hb hn=>⟨fun h=>hn (h.imp id (hiff b).1),setRow_other w g b _ (fun e=>hn (.inr (by rw [e,hOg];exact Z0m i)))⟩,fun _ _ h=>h.elim⟩
  refine ⟨O',⟨hh.h0,hh.os,hh.tape,hh.output,by have:=hh.size;simpa using this,fun b hb hX=>?_,fun b hb=>?_,hh.dfr,hh.n,fun s=>?_,fun j=>?_⟩⟩
  ·have hbg:b≠g:=fun e=>by
    have h6:=(hh.own g (by rw [hOg];exact Z0m i)).1
    rw [←e] at h6
    rcases h6 with h6 | h6
    ·omega
    ·exact hX h6
   rw [setRow_other w g b _ hbg]
   exact hh.old b hb hX
  ·have:=hh.own b ((hiff b).1 hb)
   exact ⟨this.1,by simpa using this.2⟩
  ·by_cases e:s=t
   ·subst e
    simp only [St.set,St.setr,Z02]
    trivial
   ·simp only [St.set,St.setr]
    rw [Z00 _ _ e]
    refine (S.s s).mono ⟨by simp,hx.vis,fun b hb hm'=>?_⟩ (hh.slot s)
    have h6:O b=So s:=hm'
    refine ⟨(hO2 b (by rw [h6];exact fun h=>e (Z8a h))).trans h6,setRow_other w g b _ (fun e'=>?_)⟩
    rw [e',hOg] at h6
    exact Z1g s i h6.symm
  ·by_cases e:j=i
   ·subst e
    simp only [St.setr,Z02]
    refine ⟨v,(hO2 g (by rw [hOg];exact fun h=>Z1g t j h.symm)).trans hOg,⟨_,setRow_heap w g _ _ _ _ hg,L.okset (kO.mono hx hc) ⟨rfl,Zkl hown⟩⟩,⟨cl,⟨hown.1,?_⟩,hcl.mono hx⟩,fun b hb=>⟨hO1 b (hvb b hb),hne b hb⟩⟩
    rcases hown.2 with e | ⟨g',cap,cur,hve,hb,hg',r⟩
    ·exact .inl e
    ·refine .inr ⟨g',cap,cur,hve,hb,?_,r⟩
     rw [setRow_other w g g' _ (hne g' (by rw [hve];rfl))]
     exact hg'
   ·simp only [St.setr,St.set]
    rw [Z00 _ _ e]
    refine (S.r j).mono ⟨by simp,hx.vis,fun b hb hm'=>?_⟩ (hh.res j)
    have h6:O b=Ro j:=hm'
    refine ⟨(hO2 b (by rw [h6];exact fun h=>Z1g t j h.symm)).trans h6,setRow_other w g b _ (fun e'=>?_)⟩
    rw [e',hOg] at h6
    exact e (Z26 h6).symm
theorem Z4h {x:Operand}{m:BitVec 64}(h:Val C S x (rd Zx m)):Val C S x (rd (Z0 .u64) (m.toNat:Int)):=fun O a w hh=>by
 have h1:=Z3x (h O a w hh)
 rw [h1]
 have:=m.isLt
 exact Z35 ⟨by simp [IntKind.min,IntKind.signed,IntKind.bits];try omega,by simp [IntKind.max,IntKind.signed,IntKind.bits];omega⟩
end boxf
end Go.Wb
namespace Go.Wb
open Go
section body
variable {C : Ctx} {S : St} {α : Type}
end body
end Go.Wb
namespace Go.Wb
open Go
section eqs
variable {α β : Type} {P : Program}
def EqK [DecidableEq α](P:Program)(n:Nat)(t:TypeId)(k:Kd α):Prop:=
 ∀d,n≤d→∀(w:World) (H:HS) x y cs ds,k.C w H x cs→k.C w H y ds→(Op.equalIn d t (mkv k.agg cs) (mkv k.agg ds)).run P w= .ok (decide (x=y)) w
theorem EqK.le [DecidableEq α]{m n:Nat}{t:TypeId}{k:Kd α}(h:EqK P m t k)(hmn:m≤n):EqK P n t k:=fun d hd=>h d (Nat.le_trans hmn hd)
theorem Yku {t:TypeId}{ik:IntKind}(h:P.underlying t=some (.int ik)):EqK P 1 t (Z0 ik):=by
 rintro d hd w H x y _ _ ⟨rfl,_⟩ ⟨rfl,_⟩
 obtain ⟨d,rfl⟩:∃m,d=m+1:=⟨d - 1,by omega⟩
 exact (run_equalIn_int w d t ik ik x y h).trans (by rw [show (x==y)=decide (x=y) from rfl])
theorem Yfa {t:TypeId}(h:P.underlying t=some (.int .u64)):EqK P 1 t Zx:=by
 rintro d hd w H x y _ _ rfl rfl
 obtain ⟨d,rfl⟩:∃m,d=m+1:=⟨d - 1,by omega⟩
 refine (run_equalIn_int w d t .u64 .u64 _ _ h).trans ?_
 congr 1
 rw [Bool.eq_iff_iff]
 simp only [beq_iff_eq,decide_eq_true_eq]
 constructor
 ·intro e
  exact BitVec.eq_of_toNat_eq (by exact_mod_cast e)
 ·rintro rfl;rfl
theorem Y95 {t:TypeId}(h:P.underlying t=some .bool):EqK P 1 t Z3:=by
 rintro d hd w H x y _ _ rfl rfl
 obtain ⟨d,rfl⟩:∃m,d=m+1:=⟨d - 1,by omega⟩
 refine (run_equalIn_bool' w d t x y h).trans ?_
 cases x<;>cases y<;>rfl
def EqF [DecidableEq α](P:Program)(n:Nat)(l:List (TypeId×Nat))(o:Nat)(k:Kd α):Prop:=
 ∀(fs:List Field),fs.map (fun f=>(f.type,f.offset))=l→(∀f∈fs,f.name≠"_")→∀d,n≤d→∀(w:World) (H:HS) x y (xs ys:List Value),k.C w H x (xs.drop o)→k.C w H y (ys.drop o)→
  (Op.eqFields d xs.toArray ys.toArray fs).run P w= .ok (decide (x=y)) w
theorem Zag [DecidableEq α]{n:Nat}{t:TypeId}{o:Nat}{k:Kd α}(h:EqK P n t k)(ht:Ty P t k):EqF P n [(t,o)] o k:=by
 intro fs hfs hn d hd w H x y xs ys hx hy
 obtain ⟨f,rfl⟩:∃f,fs=[f]:=by
  cases fs with
  | nil=>cases hfs
  | cons f l=>cases l with
   | nil=>exact ⟨f,rfl⟩
   | cons=>cases hfs
 simp only [List.map_cons,List.map_nil,List.cons.injEq,Prod.mk.injEq,and_true] at hfs
 obtain ⟨rfl,rfl⟩:=hfs
 have hname:=hn f (by simp)
 have lx:=k.len hx
 have ly:=k.len hy
 have p1:=Z8l (P:=P) ht hx (List.take_of_length_le (by omega):(xs.drop f.offset).take k.sz=_)
 have p2:=Z8l (P:=P) ht hy (List.take_of_length_le (by omega):(ys.drop f.offset).take k.sz=_)
 have h3:=h d hd w H x y _ _ hx hy
 simp only [Op.eqFields,Sem.run_bind,Sem.run_ite,hname,ne_eq,not_false_eq_true,if_true,p1,p2,h3,Result.andThen_ok]
 cases decide (x=y)<;>simp
theorem Z5n [DecidableEq α][DecidableEq β]{n:Nat}{t:TypeId}{o:Nat}{l:List (TypeId×Nat)}{k:Kd α}{m:Kd β}(h:EqK P n t k)(ht:Ty P t k)(hr:EqF P n l (o+k.sz) m):EqF P n ((t,o)::l) o (Z2 k m):=by
 intro fs hfs hn d hd w H x y xs ys hx hy
 cases fs with
 | nil=>cases hfs
 | cons f fs=>
  simp only [List.map_cons,List.cons.injEq,Prod.mk.injEq] at hfs
  obtain ⟨⟨rfl,rfl⟩,hfs⟩:=hfs
  obtain ⟨c1,c2,e1,hx1,hx2⟩:=hx
  obtain ⟨d1,d2,e2,hy1,hy2⟩:=hy
  have hname:=hn f (by simp)
  have lx:=k.len hx1
  have ly:=k.len hy1
  have p1:=Z8l (P:=P) (off:=f.offset) (cs:=xs) ht hx1 (by rw [e1,List.take_append_of_le_length (by omega),List.take_of_length_le (by omega)])
  have p2:=Z8l (P:=P) (off:=f.offset) (cs:=ys) ht hy1 (by rw [e2,List.take_append_of_le_length (by omega),List.take_of_length_le (by omega)])
  have q1:xs.drop (f.offset+k.sz)=c2:=by rw [←List.drop_drop,e1,List.drop_append_of_le_length (by omega),List.drop_of_length_le (by omega)];rfl
  have q2:ys.drop (f.offset+k.sz)=d2:=by rw [←List.drop_drop,e2,List.drop_append_of_le_length (by omega),List.drop_of_length_le (by omega)];rfl
  have h3:=h d hd w H x.1 y.1 _ _ hx1 hy1
  have h4:=hr fs hfs (fun f hf=>hn f (by simp [hf])) d hd w H x.2 y.2 xs ys (by rw [q1];exact hx2) (by rw [q2];exact hy2)
  simp only [Op.eqFields,Sem.run_bind,Sem.run_ite,hname,ne_eq,not_false_eq_true,if_true,p1,p2,h3,h4,Result.andThen_ok]
  by_cases h5:x.1=y.1
  ·have:decide (x=y)=decide (x.2=y.2):=by
    rw [decide_eq_decide,Prod.ext_iff];simp [h5]
   simp [h5,this]
  ·have:decide (x=y)=false:=by
    rw [decide_eq_false_iff_not,Prod.ext_iff];simp [h5]
   simp [h5,this]
def stE (P:Program)(T:TypeId):Option (List (TypeId×Nat)):=match P.underlying T with
 | some (.struct fs)=>bif fs.all (fun f=>f.name !="_") then some (fs.toList.map fun f=>(f.type,f.offset)) else none
 | _=>none
theorem Z9m [DecidableEq α][DecidableEq β]{t:TypeId}{n:Nat}{l:List (TypeId×Nat)}{k:Kd β}{f:α→β}{s:TypeId→Bool}(hf:∀x y,f x=f y→x=y)(hs:stE P t=some l)(hp:P.stoodInHeld t=false)(h:EqF P n l 0 k):EqK P (n+1) t (Z0k k f s):=by
 rintro d hd w H x y cs ds hx hy
 obtain ⟨d,rfl⟩:∃m,d=m+1:=⟨d - 1,by omega⟩
 unfold stE at hs
 split at hs
 ·rename_i fs hu
  cases hn:fs.all (fun f=>f.name !="_") with
  | true=>
   rw [hn] at hs
   have hfo:P.fieldsOf t=fs:=by unfold Program.fieldsOf;rw [hu]
   have h1:=run_equalIn_struct (P:=P) w d t cs.toArray ds.toArray (by rw [hu,hfo]) hp
   rw [hfo] at h1
   refine h1.trans ?_
   rw [h fs.toList (Option.some.inj hs) (fun f hf=>by simpa using (Array.all_eq_true_iff_forall_mem.1 hn) f (by simpa using hf)) d (by omega) w H (f x) (f y) cs ds hx hy]
   congr 1
   rw [decide_eq_decide]
   exact ⟨hf x y,fun e=>by rw [e]⟩
  | false=>rw [hn] at hs;cases hs
 ·cases hs
theorem eqi [DecidableEq α]{n:Nat}{e:TypeId}{k:Kd α}(h:EqK P n e k)(ht:Ty P e k)(hc:P.cellsOf e=k.sz)(d:Nat)(hd:n≤d)(w:World)(H:HS)(xs ys:List Value):∀(l m:List α) (i:Nat),l.length=m.length→Cells k w H l (xs.drop (i*k.sz))→Cells k w H m (ys.drop (i*k.sz))→
  (Op.eqItems d e (P.cellsOf e) xs.toArray ys.toArray (List.range' i l.length)).run P w= .ok (decide (l=m)) w
 | [],[],i,_,_,_=>by simp [Op.eqItems]
 | x::l,y::m,i,hl,hx,hy=>by
  obtain ⟨c1,c2,e1,hx1,hx2⟩:=hx
  obtain ⟨d1,d2,e2,hy1,hy2⟩:=hy
  have lx:=k.len hx1
  have ly:=k.len hy1
  have p1:=Z8l (P:=P) (off:=i*k.sz) (cs:=xs) ht hx1 (by rw [e1,List.take_append_of_le_length (by omega),List.take_of_length_le (by omega)])
  have p2:=Z8l (P:=P) (off:=i*k.sz) (cs:=ys) ht hy1 (by rw [e2,List.take_append_of_le_length (by omega),List.take_of_length_le (by omega)])
  have q1:xs.drop ((i+1)*k.sz)=c2:=by rw [Nat.add_mul,Nat.one_mul,←List.drop_drop,e1,List.drop_append_of_le_length (by omega),List.drop_of_length_le (by omega)];rfl
  have q2:ys.drop ((i+1)*k.sz)=d2:=by rw [Nat.add_mul,Nat.one_mul,←List.drop_drop,e2,List.drop_append_of_le_length (by omega),List.drop_of_length_le (by omega)];rfl
  have h3:=h d hd w H x y _ _ hx1 hy1
  have h4:=eqi h ht hc d hd w H xs ys l m (i+1) (by simpa using hl) (by rw [q1];exact hx2) (by rw [q2];exact hy2)
  rw [hc] at h4 ⊢
  rw [List.length_cons,List.range'_succ]
  simp only [Op.eqItems,Sem.run_bind,Sem.run_ite,p1,p2,h3,h4,Result.andThen_ok]
  by_cases h5:x=y
  ·simp [h5]
  ·simp [h5]
theorem Yns [DecidableEq α]{t e:TypeId}{n m:Nat}{k:Kd α}(h:EqK P n e k)(ht:Ty P e k)(ha:Ar P t e m k):EqK P (n+1) t (Z4 m k):=by
 rintro d hd w H x y cs ds hx hy
 obtain ⟨d,rfl⟩:∃m,d=m+1:=⟨d - 1,by omega⟩
 obtain ⟨i,hi,hs⟩:=ha.out.2
 have hc:P.cellsOf e=k.sz:=by unfold Program.cellsOf;rw [hi];exact hs
 have h1:=run_equalIn_array (P:=P) w d cs.toArray ds.toArray ha.u hi
 have h2:=eqi h ht hc d (by omega) w H cs ds x.toList y.toList 0 (by simp) (by rw [Nat.zero_mul,List.drop_zero];exact hx) (by rw [Nat.zero_mul,List.drop_zero];exact hy)
 rw [List.range_eq_range'] at h1
 simp only [Vector.length_toList] at h2
 refine h1.trans (h2.trans ?_)
 congr 1
 rw [decide_eq_decide]
 exact ⟨fun e=>Vector.toList_inj.1 e,fun e=>by rw [e]⟩
end eqs
section opers
variable {C : Ctx} {S : St} {α : Type} {o : Oper} {T U : TypeId} {x y : Operand} {m n : α} {k : Kd α}
theorem Z98 [DecidableEq α]{q:Nat}(ho:o.op= .binOp .eql T x y U)(hd:Zq o C.N=true)(he:EqK C.P q T k)(hq:q≤10000)(ha:k.agg=true)(hg:C.P.eqGuardType C.P.depth T=false)(hx:Val C S x (rd k m))(hy:Val C S y (rd k n)):OpE C o S (S.put o.dst (rd Z3 (decide (m=n)))):=
 OpE.plain (by simp [ho]) hd fun O a w hh=>by
  obtain ⟨cs,hc,h1⟩:=hx.of hh
  obtain ⟨ds,hds,h2⟩:=hy.of hh
  have h3:=he 10000 hq w _ m n cs ds hc hds
  rw [ha] at h1 h2 h3
  simp only [mkv,cond_true] at h1 h2 h3
  refine ⟨.bool (decide (m=n)),?_,Z49⟩
  have hgu:=run_eqGuard_agg (P:=C.P) w .eql T x y cs.toArray ds.toArray hg
  have hb:=run_eql_struct (P:=C.P) w T cs.toArray ds.toArray
  rw [h3] at hb
  simp [execOp,ho,h1,h2,hgu,hb]
theorem Ynl [DecidableEq α]{q:Nat}(ho:o.op= .binOp .neq T x y U)(hd:Zq o C.N=true)(he:EqK C.P q T k)(hq:q≤10000)(ha:k.agg=true)(hg:C.P.eqGuardType C.P.depth T=false)(hx:Val C S x (rd k m))(hy:Val C S y (rd k n)):OpE C o S (S.put o.dst (rd Z3 (decide (m≠n)))):=
 OpE.plain (by simp [ho]) hd fun O a w hh=>by
  obtain ⟨cs,hc,h1⟩:=hx.of hh
  obtain ⟨ds,hds,h2⟩:=hy.of hh
  have h3:=he 10000 hq w _ m n cs ds hc hds
  rw [ha] at h1 h2 h3
  simp only [mkv,cond_true] at h1 h2 h3
  refine ⟨.bool (decide (m≠n)),?_,Z49⟩
  have hgu:=run_eqGuard_agg (P:=C.P) w .neq T x y cs.toArray ds.toArray hg
  have hb:=run_neq_struct (P:=C.P) w T cs.toArray ds.toArray
  rw [h3] at hb
  simp [execOp,ho,h1,h2,hgu,hb]
end opers
end Go.Wb
namespace Go.Wb
open Go
theorem Zxa {α:Type}(l:List α)(i:Nat):lget l (i:Int)=l[i]? :=by
 unfold lget;rw [decide_eq_true (by omega)];rfl
theorem Yhe {n:Int}(h1: -9223372036854775808≤n)(h2:n≤9223372036854775807):IntKind.i64.wrap n=n:=Zq0 ⟨by simpa [IntKind.min,IntKind.signed,IntKind.bits] using h1,by simpa [IntKind.max,IntKind.signed,IntKind.bits] using h2⟩
end Go.Wb
namespace Go.Wb
open Go
def Rdb {α:Type}(P:Program)(T:TypeId)(k:Kd α):Prop:=
 ∀(H:Type) (enc:TypeId×Value→H) (w:World) (fuel:Nat) (cs:List Value) (y:DataW H×List MemPlace),DataW.trod enc P w 0 (fun _=>true) true fuel T cs=some y→∃x,k.C w Zl x cs
section readers
variable {P : Program} {T E : TypeId} {α β γ : Type}
theorem Yir (h:P.underlying T=some .bool):Rdb P T Z3:=by
 intro H enc w fuel cs y hy
 cases fuel with
 | zero=>simp [DataW.trod] at hy
 | succ n=>
  unfold DataW.trod at hy
  rw [h] at hy
  match cs,hy with
  | [.bool b],_=>exact ⟨b,rfl⟩
theorem Y3x {ik:IntKind}(h:P.underlying T=some (.int ik)):Rdb P T (Z0 ik):=by
 intro H enc w fuel cs y hy
 cases fuel with
 | zero=>simp [DataW.trod] at hy
 | succ n=>
  unfold DataW.trod at hy
  rw [h] at hy
  match cs,hy with
  | [.int k' n],hy=>
   simp only at hy
   split at hy
   ·rename_i hc
    obtain ⟨rfl,hw⟩:=hc
    simp only [Lit.wf,Bool.and_eq_true,decide_eq_true_eq] at hw
    exact ⟨n,rfl,hw⟩
   ·cases hy
theorem Y8j (h:P.underlying T=some (.int .u64)):Rdb P T Zx:=by
 intro H enc w fuel cs y hy
 obtain ⟨n,rfl,hn⟩:=Y3x h H enc w fuel cs y hy
 refine ⟨BitVec.ofInt 64 n,?_⟩
 show [Value.int .u64 n]=[Value.int .u64 ((BitVec.ofInt 64 n).toNat:Int)]
 have h1:0≤n:=by simpa [IntKind.min,IntKind.signed,IntKind.bits] using hn.1
 have h2:n≤18446744073709551615:=by simpa [IntKind.max,IntKind.signed,IntKind.bits] using hn.2
 have:((BitVec.ofInt 64 n).toNat:Int)=n:=by rw [BitVec.toNat_ofInt];omega
 rw [this]
theorem Y24 {w:World}{a:Addr}{n:Nat}{cs:List Value}(h:w.cells? 0 a n=some cs):cs.length=n∧∀(j:Nat) u,cs[j]? =some u→w.cell? (a.add j)=some u:=by
 unfold World.cells? at h
 rw [if_pos (Nat.zero_le _)] at h
 have hl:cs.length=n:=by simpa using mapM_some_length h
 refine ⟨hl,fun j u hu=>?_⟩
 have hj:j<n:=by rw [←hl];exact (List.getElem?_eq_some_iff.1 hu).1
 have key:∀(l:List Nat) (r:List Value),l.mapM (fun i=>w.cell? (a.add i))=some r→∀(j:Nat) i u,l[j]? =some i→r[j]? =some u→w.cell? (a.add i)=some u:=by
  intro l
  induction l with
  | nil=>intro r _ j i u hi;simp at hi
  | cons x l ih=>
   intro r hr j i u hi hu
   rw [List.mapM_cons] at hr
   simp only [Option.bind_eq_bind,Option.bind_eq_some_iff] at hr
   obtain ⟨y,hy,ys,hys,e⟩:=hr
   have e':y::ys=r:=by simpa using e
   subst e'
   cases j with
   | zero=>simp at hi hu;subst hi;subst hu;exact hy
   | succ j=>exact ih ys hys j i u (by simpa using hi) (by simpa using hu)
 exact key _ _ h j j u (by simp [hj]) hu
theorem Yot {k:Kd α}(h:P.underlying T=some (.slice E))(hz:P.cellsOf E=k.sz)(hpos:Nat.blt 0 k.sz=true)(he:Rdb P E k)(hsh:∀E,k.sh E=true:=by exact fun _=>rfl):Rdb P T (Z1 k):=by
 intro H enc w fuel cs y hy
 have hpos':0<k.sz:=by simpa using hpos
 cases fuel with
 | zero=>simp [DataW.trod] at hy
 | succ n=>
  unfold DataW.trod at hy
  rw [h] at hy
  match cs,hy with
  | [.slice none 0 0],hy=>exact ⟨[],_,rfl,none,0,rfl,Nat.le_refl _,by simp,fun h=>absurd h (by simp)⟩
  | [.slice none 0 (c+1)],hy=>simp at hy
  | [.slice none (l+1) c],hy=>simp at hy
  | [.slice (some a) len cap],hy=>
   simp only at hy
   split at hy
   ·rename_i hc
    obtain ⟨_,hlc,hcm⟩:=hc
    simp only [Option.map_eq_some_iff,Option.bind_eq_some_iff] at hy
    obtain ⟨elems,hel,_⟩:=hy
    have hone:∀i,i<len→∃cs z,w.cells? 0 (a.add (i*k.sz)) k.sz=some cs∧DataW.trod enc P w 0 (fun _=>true) true n E cs=some z:=by
     have key:∀(l:List Nat) (r:List (DataW H×List MemPlace)),l.mapM (fun i=>(w.cells? 0 (a.add (i*P.cellsOf E)) (P.cellsOf E)).bind (DataW.trod enc P w 0 (fun _=>true) true n E))=some r→∀i∈l,∃z,(w.cells? 0 (a.add (i*P.cellsOf E)) (P.cellsOf E)).bind (DataW.trod enc P w 0 (fun _=>true) true n E)=some z:=by
      intro l
      induction l with
      | nil=>intro r _ i hi;cases hi
      | cons x l ih=>
       intro r hr i hi
       rw [List.mapM_cons] at hr
       simp only [Option.bind_eq_bind] at hr
       obtain ⟨y,hy,hr⟩:=Option.bind_eq_some_iff.1 hr
       obtain ⟨ys,hys,_⟩:=Option.bind_eq_some_iff.1 hr
       rcases List.mem_cons.1 hi with rfl | hi
       ·exact ⟨y,hy⟩
       ·exact ih ys hys i hi
     intro i hi
     obtain ⟨z,hz'⟩:=key _ _ hel i (List.mem_range.2 hi)
     obtain ⟨cs,h1,h2⟩:=Option.bind_eq_some_iff.1 hz'
     rw [hz] at h1
     exact ⟨cs,z,h1,h2⟩
    by_cases h0:len=0
    ·subst h0
     exact ⟨[],_,rfl,some a,cap,rfl,Nat.zero_le _,by simpa [maxLen] using hcm,fun h=>absurd h (by simp)⟩
    ·obtain ⟨cs0,z0,hc0,_⟩:=hone 0 (by omega)
     obtain ⟨hl0,hg0⟩:=Y24 hc0
     have hspot:a.spot=none∧a.block<w.heap.size:=by
      obtain ⟨u,hu⟩:∃u,cs0[0]? =some u:=⟨cs0[0],List.getElem?_eq_getElem (by omega)⟩
      have:=hg0 0 u hu
      have e0:(a.add (0*k.sz)).add 0=a:=by simp [Addr.add]
      rw [e0] at this
      unfold World.cell? at this
      split at this
      ·rename_i hb
       refine ⟨?_,(Array.getElem?_eq_some_iff.1 hb).1⟩
       cases hs:a.spot with
       | none=>rfl
       | some s=>rw [hs] at this;simp at this
      ·cases this
     have hobj:∃cur E fr,w.heap[a.block]? =some (.cells cur E fr):=by
      obtain ⟨u,hu⟩:∃u,cs0[0]? =some u:=⟨cs0[0],List.getElem?_eq_getElem (by omega)⟩
      have:=hg0 0 u hu
      have e0:(a.add (0*k.sz)).add 0=a:=by simp [Addr.add]
      rw [e0] at this
      unfold World.cell? at this
      split at this
      ·rename_i hb
       exact ⟨_,_,_,hb⟩
      ·cases this
     have hadd:∀i j,(a.add (i*k.sz)).add j=⟨a.block,a.off+i*k.sz+j,none⟩:=fun i j=>by
      obtain ⟨ab,ao,asp⟩:=a
      have hsp:asp=none:=hspot.1
      subst hsp
      unfold Addr.add
      by_cases h1:i*k.sz=0<;>by_cases h2:j=0<;>simp [h1,h2]
     have build:∀m,m≤len→∃l cl,l.length=m∧Cells k w Zl l cl∧At w a.block a.off cl:=by
      intro m
      induction m with
      | zero=>intro _;exact ⟨[],[],rfl,rfl,fun j u hu=>by simp at hu⟩
      | succ m ih=>
       intro hm
       obtain ⟨l,cl,hl,hcl,hat⟩:=ih (by omega)
       obtain ⟨cs,z,hc,htr⟩:=hone m (by omega)
       obtain ⟨hlen,hg⟩:=Y24 hc
       obtain ⟨x,hx⟩:=he H enc w n cs z htr
       have hcll:=hcl.len
       refine ⟨l++[x],cl++cs,by simp [hl],hcl.append (Cells.single hx),fun j u hu=>?_⟩
       rw [List.getElem?_append] at hu
       split at hu
       ·exact hat j u hu
       ·rename_i hj
        have h5:=hg _ _ hu
        rw [hadd] at h5
        have e:a.off+m*k.sz+(j - cl.length)=a.off+j:=by rw [hcll,hl] at hj ⊢;omega
        rwa [e] at h5
     obtain ⟨l,cl,hl,hcl,hat⟩:=build len (Nat.le_refl _)
     subst hl
     obtain ⟨cur,E1,fr,hob⟩:=hobj
     refine ⟨l,_,rfl,some a,cap,rfl,hlc,by simpa [maxLen] using hcm,fun _=>⟨a.block,a.off,cl,?_,hspot.2,fun h=>h,hcl,hat,cur,E1,fr,hob,hsh E1⟩⟩
     obtain ⟨ab,ao,asp⟩:=a
     have hsp:asp=none:=hspot.1
     subst hsp
     rfl
   ·cases hy
def stF (P:Program)(T:TypeId):Option (List (TypeId×Nat)):=match P.underlying T with
 | some (.struct fs)=>some (fs.toList.map fun f=>(f.type,f.offset))
 | _=>none
def FRd {α:Type}(P:Program)(l:List (TypeId×Nat))(o:Nat)(k:Kd α):Prop:=
 ∀(H:Type) (enc:TypeId×Value→H) (w:World) (fuel:Nat) (cs:List Value),(∀p∈l,∃y,DataW.trod enc P w 0 (fun _=>true) true fuel p.1 ((cs.drop p.2).take (P.cellsOf p.1))=some y)→cs.length=o+k.sz→∃x,k.C w Zl x (cs.drop o)
theorem Zsw {t:TypeId}{o:Nat}{k:Kd α}(h:Rdb P t k)(hz:P.cellsOf t=k.sz):FRd P [(t,o)] o k:=by
 intro H enc w fuel cs hl hlen
 obtain ⟨y,hy⟩:=hl (t,o) (by simp)
 simp only at hy
 rw [hz,List.take_of_length_le (by rw [List.length_drop];omega)] at hy
 exact h H enc w fuel _ y hy
theorem Zai {t:TypeId}{o:Nat}{l:List (TypeId×Nat)}{k:Kd α}{m:Kd β}(h:Rdb P t k)(hz:P.cellsOf t=k.sz)(hr:FRd P l (o+k.sz) m):FRd P ((t,o)::l) o (Z2 k m):=by
 intro H enc w fuel cs hl hlen
 obtain ⟨y,hy⟩:=hl (t,o) (by simp)
 simp only at hy
 rw [hz] at hy
 obtain ⟨x1,h1⟩:=h H enc w fuel _ y hy
 obtain ⟨x2,h2⟩:=hr H enc w fuel cs (fun p hp=>hl p (by simp [hp])) (by rw [hlen];show o+(k.sz+m.sz)=_;omega)
 refine ⟨(x1,x2),(cs.drop o).take k.sz,cs.drop (o+k.sz),?_,h1,h2⟩
 rw [←List.drop_drop,List.take_append_drop]
theorem Zqt {l:List (TypeId×Nat)}{k:Kd β}{f:α→β}{s:TypeId→Bool}(g:β→α)(hs:stF P T=some l)(hz:P.cellsOf T=k.sz)(hg:∀y,f (g y)=y)(hf:FRd P l 0 k):Rdb P T (Z0k k f s):=by
 intro H enc w fuel cs y hy
 unfold stF at hs
 split at hs
 ·rename_i fs hu
  cases fuel with
  | zero=>simp [DataW.trod] at hy
  | succ n=>
   unfold DataW.trod at hy
   rw [hu] at hy
   simp only at hy
   split at hy
   ·rename_i hlen
    obtain ⟨xs,hx,_⟩:=Option.map_eq_some_iff.1 hy
    have key:∀(l:List Field) (r:List (DataW H×List MemPlace)),l.mapM (fun f=>DataW.trod enc P w 0 (fun _=>true) true n f.type ((cs.drop f.offset).take (P.cellsOf f.type)))=some r→∀f∈l,∃z,DataW.trod enc P w 0 (fun _=>true) true n f.type ((cs.drop f.offset).take (P.cellsOf f.type))=some z:=by
     intro l
     induction l with
     | nil=>intro r _ i hi;cases hi
     | cons x l ih=>
      intro r hr i hi
      rw [List.mapM_cons] at hr
      simp only [Option.bind_eq_bind] at hr
      obtain ⟨y,hy,hr⟩:=Option.bind_eq_some_iff.1 hr
      obtain ⟨ys,hys,_⟩:=Option.bind_eq_some_iff.1 hr
      rcases List.mem_cons.1 hi with rfl | hi
      ·exact ⟨y,hy⟩
      ·exact ih ys hys i hi
    have hs':=Option.some.inj hs
    obtain ⟨x,hx'⟩:=hf H enc w n cs (fun p hp=>by
     rw [←hs'] at hp
     obtain ⟨f,hf,rfl⟩:=List.mem_map.1 hp
     exact key _ _ hx f hf) (by rw [hlen,hz];omega)
    exact ⟨g x,by show k.C w Zl (f (g x)) cs;rw [hg];simpa using hx'⟩
   ·cases hy
 ·cases hs
theorem Zwk {n:Nat}{k:Kd α}(h:P.underlying T=some (.array n E))(hz:P.cellsOf E=k.sz)(hT:P.cellsOf T=n*k.sz)(he:Rdb P E k):Rdb P T (Z4 n k):=by
 intro H enc w fuel cs y hy
 cases fuel with
 | zero=>simp [DataW.trod] at hy
 | succ m=>
  unfold DataW.trod at hy
  rw [h] at hy
  simp only at hy
  split at hy
  ·rename_i hlen
   obtain ⟨xs,hx,_⟩:=Option.map_eq_some_iff.1 hy
   have key:∀(l:List Nat) (r:List (DataW H×List MemPlace)),l.mapM (fun i=>DataW.trod enc P w 0 (fun _=>true) true m E ((cs.drop (i*P.cellsOf E)).take (P.cellsOf E)))=some r→∀f∈l,∃z,DataW.trod enc P w 0 (fun _=>true) true m E ((cs.drop (f*P.cellsOf E)).take (P.cellsOf E))=some z:=by
    intro l
    induction l with
    | nil=>intro r _ i hi;cases hi
    | cons x l ih=>
     intro r hr i hi
     rw [List.mapM_cons] at hr
     simp only [Option.bind_eq_bind] at hr
     obtain ⟨y,hy,hr⟩:=Option.bind_eq_some_iff.1 hr
     obtain ⟨ys,hys,_⟩:=Option.bind_eq_some_iff.1 hr
     rcases List.mem_cons.1 hi with rfl | hi
     ·exact ⟨y,hy⟩
     ·exact ih ys hys i hi
   have build:∀j,j≤n→∃l:List α,l.length=j∧Cells k w Zl l (cs.take (j*k.sz)):=by
    intro j
    induction j with
    | zero=>intro _;exact ⟨[],rfl,by simp [Cells]⟩
    | succ j ih=>
     intro hj
     obtain ⟨l,hl,hc⟩:=ih (by omega)
     obtain ⟨z,hz'⟩:=key _ _ hx j (List.mem_range.2 (by omega))
     rw [hz] at hz'
     obtain ⟨x,hx'⟩:=he H enc w m _ z hz'
     refine ⟨l++[x],by simp [hl],?_⟩
     have:=hc.append (Cells.single hx')
     rwa [←List.take_add,←Nat.succ_mul] at this
   obtain ⟨l,hl,hc⟩:=build n (Nat.le_refl _)
   rw [List.take_of_length_le (by rw [hlen,hT];exact Nat.le_refl _)] at hc
   refine ⟨⟨l.toArray,by simpa using hl⟩,?_⟩
   show Cells k w Zl (Vector.toList ⟨l.toArray,_⟩) cs
   simpa using hc
  ·cases hy
theorem Rdb.val {k:Kd α}{H:Type}{enc:TypeId×Value→H}{W:World}{base:Nat}{v:Value}{d:DataW H}{ps:List MemPlace}(h:Rdb P T k)(ht:Ty P T k)(hok:Value.okWide P W .any base T v)(hd:DataW.Trod enc P W 0 (fun _=>true) true T v d ps):∃x,(rd k x).R W Zl Zl v:=by
 obtain ⟨n,hn⟩:=hd
 obtain ⟨x,hx⟩:=h H enc W n _ _ hn
 obtain ⟨i,ds,_,hu,ha,_⟩:=ht.out
 refine ⟨x,_,hx,?_⟩
 unfold Value.okWide at hok
 rw [hu] at hok
 cases hk:k.agg with
 | true=>
  rw [hk] at ha
  cases ds<;>simp [Zbh] at ha<;>(obtain ⟨cs,rfl,_⟩:=hok;simp [mkv,Value.cells])
 | false=>
  rw [hk] at ha
  have hna:∀cs,v≠ .agg cs:=by
   rintro cs rfl
   cases ds<;>simp [Zbh] at ha<;>simp [Cell.okWide,Cell.ok,hu] at hok
  cases v<;>first | exact absurd rfl (hna _) | simp [mkv,Value.cells]
end readers
section row
open Go.ChangeShapes Go.WideShapes Go.ChangeAt Go.RowKit
variable {H : Type} {enc : TypeId × Value → H} {P : Program} {W W' : World}
theorem Fin.sameAt (h:Fin W Zl W' Zl){p:MemPlace}(hp:p.block<W.heap.size):W.sameAt W' p:=by
 have e:=h.same p.block hp (fun h=>h)
 cases p with
 | cell b o=>simp only [MemPlace.block] at e;simp [World.sameAt,World.cell?,e]
 | map b=>simp only [MemPlace.block] at e;simp [World.sameAt,e]
theorem Fin.kept (h:Fin W Zl W' Zl)(may:MemPlace→Prop):W.keptBut W' may:=by
 refine ⟨h.os,h.output,fun i hi=>?_⟩
 have:=(World.keptBut_refl W may).2.2 i hi
 rw [h.same i hi (fun h=>h)]
 exact this
theorem Ycz {ts:List TypeId}{vs:List Value}{ds:List (DataW H)}{ps:List MemPlace}{sp:Nat→Bool}(hl:laidOutB P=true)(hT:(ts.all fun t=>P.readableRec t&&decide (t<P.types.size))=true)(h:DataW.TrodAll enc P W 0 (fun _=>true) true ts vs ds ps)
  (hf:Fin W Zl W' Zl)(hlt:∀p∈ps,p.block<W.heap.size)(hs:∀p∈ps,sp p.block=true):DataW.TrodAll enc P W' 0 sp true ts vs ds ps:=by
 induction ts generalizing vs ds ps with
 | nil=>cases vs<;>cases ds<;>first | exact h | exact h.elim
 | cons t ts ih=>
  cases vs with
  | nil=>exact h.elim
  | cons v vs=>
   cases ds with
   | nil=>exact h.elim
   | cons d ds=>
    obtain ⟨p,q,h1,h2,rfl⟩:=h
    simp only [List.all_cons,Bool.and_eq_true,decide_eq_true_eq] at hT
    exact ⟨p,q,WideElems.Trod_stays hl hT.1.1 hT.1.2 h1 (fun x hx=>hf.sameAt (hlt x (by simp [hx]))) (fun x hx=>hs x (by simp [hx])),ih hT.2 h2 (fun x hx=>hlt x (by simp [hx])) (fun x hx=>hs x (by simp [hx])),rfl⟩
theorem Yg1 {fn:Func}{s:ChangeSpec}{apart fresh handsOn again:Bool}{args:Array Value}{ds:List (DataW H)}{before:List MemPlace}{tb:TypeId}(hl:laidOutB P=true)(hT:(fn.params.toList.all fun t=>P.readableRec t&&decide (t<P.types.size))=true)
  (hv:s.vars=[])(hr:fn.resultTypes= #[tb])(hb:P.underlying tb=some .bool)(hW:DataW.Whole enc P fn.params.toList s.vars apart W args.toList ds [] before)(hfn:s.fn H (ds++[])={results:=[.lit (.bool true)],args:=ds})(hf:Fin W Zl W' Zl):
  s.post enc P fn apart fresh handsOn again W args (.bool true) W':=by
 have hlt:=hW.lt
 have hW0:=hW
 obtain ⟨p,q,hA,hV,hps,hz,hn⟩:=hW
 rw [hv] at hV
 obtain ⟨_,rfl⟩:=trodVars_none hV
 have hpp:before=p:=by simpa using hps
 subst hpp
 have hres:∀b sp hd,DataW.TrodAll enc P W' b sp hd fn.resultTypes.toList ((Value.bool true).resultList fn.resultTypes.size) (s.fn H (ds++[])).results []:=fun b sp hd=>by
  rw [hr,hfn]
  exact trodAll_mk1 (shut_bool hb true)
 have hargs:∀sp:Nat→Bool,(∀x∈before,sp x.block=true)→DataW.TrodAll enc P W' 0 sp true fn.params.toList args.toList (s.fn H (ds++[])).args before:=fun sp hs=>by
  rw [hfn]
  exact Ycz hl hT hA hf hlt hs
 have hvars:∀sp,DataW.TrodVars enc P W' sp s.vars (s.fn H (ds++[])).vars []:=fun sp=>by rw [hv,hfn];rfl
 have hfz:∀b off,MemPlace.cell b off∈before→W'.frozen? ⟨b,off,none⟩=false:=fun b off hb=>by
  have h1:=hz b off (by simpa using hb)
  have h2:=hf.same b (hlt _ hb) (fun h=>h)
  unfold World.frozen? at h1 ⊢
  simp only [h2]
  exact h1
 refine ⟨ds,[],before,[],before,[],hW0,hres _ _ _,hargs _ (fun x hx=>by simpa using hlt x hx),hvars _,hf.kept _,fun _=>?_⟩
 refine ⟨?_,_,_,([]++before)++[],⟨[]++before,[],trodAll_append (hargs _ (fun _ _=>rfl)) (hres _ _ _),hvars _,rfl,fun b off hp=>hfz b off (by simpa using hp),fun ha=>?_⟩,fun x hx _=>by simpa using hx⟩
 ·exact Go.RowKit.ok_one hr rfl (okWide_bool_mk hb _)
 ·have:=hn ha
  simpa using this
end row
end Go.Wb
namespace Go.Wb
open Go
def GA0 {β:Type}(B:β→Zb)(F:Option β):List Zb→Zb→Prop:=fun As B'=> ∃y,F=some y∧As=[]∧B'=B y
def GA1 {α β:Type}(kx:Kd α)(B:β→Zb)(F:α→Option β):List Zb→Zb→Prop:=fun As B'=> ∃x y,F x=some y∧As=[rd kx x]∧B'=B y
def GA2 {α γ β:Type}(kx:Kd α)(kz:Kd γ)(B:β→Zb)(F:α→γ→Option β):List Zb→Zb→Prop:=fun As B'=> ∃x z y,F x z=some y∧As=[rd kx x,rd kz z]∧B'=B y
def fa0 {β:Type}(P:Program)(B:β→Zb)(F:Option β):Zb:=fn0 P (GA0 B F)
def fa1 {α β:Type}(P:Program)(kx:Kd α)(B:β→Zb)(F:α→Option β):Zb:=fn0 P (GA1 kx B F)
def fa2 {α γ β:Type}(P:Program)(kx:Kd α)(kz:Kd γ)(B:β→Zb)(F:α→γ→Option β):Zb:=fn0 P (GA2 kx kz B F)
instance {β:Type}(P:Program)(B:β→Zb)(F:Option β):Dup (fa0 P B F):=⟨fun h=>h⟩
instance {α β:Type}(P:Program)(kx:Kd α)(B:β→Zb)(F:α→Option β):Dup (fa1 P kx B F):=⟨fun h=>h⟩
instance {α γ β:Type}(P:Program)(kx:Kd α)(kz:Kd γ)(B:β→Zb)(F:α→γ→Option β):Dup (fa2 P kx kz B F):=⟨fun h=>h⟩
def GU {α σ:Type}(enc:α→List Zb)(F:σ→α→Option σ)(L:σ→Res):List Zb→Res→Zb→Res→Prop:=
 fun As R B R'=> ∃s x s',F s x=some s'∧As=enc x∧R=L s∧B=top∧R'=L s'
def stA {α σ:Type}(P:Program)(k:Kd α)(F:σ→α→Option σ)(L:σ→Res):Zb:=fnR P (GU (fun x=>[rd k x]) F L)
instance {α σ:Type}(P:Program)(k:Kd α)(F:σ→α→Option σ)(L:σ→Res):Dup (stA P k F L):=⟨fun h=>h⟩
section fas
variable {C : Ctx} {S S' : St} {o : Oper} {α β γ σ : Type}
theorem Zwc {f:FuncId}{fs cs:List Operand}{FAs CAs:List Zb}{kx:Kd α}{B:β→Zb}(F:α→Option β)(ho:o.op= .makeFunc (.func f) fs.toArray cs.toArray)(hd:Zq o C.N=true)(he:Ent C.P f)(hf:Vals C S fs FAs)(hc:Vals C S cs CAs)(hG:∀x y,F x=some y→PCon C.P f (FAs++rd kx x::CAs) (B y)):
  OpE C o S (S.put o.dst (fa1 C.P kx B F)):=
 Zkx ho hd he hf hc (by rintro _ _ ⟨x,y,h,rfl,rfl⟩;simpa using hG x y h)
theorem Yit {x p:Operand}{ts:Array TypeId}{kx:Kd α}{B:β→Zb}{F:α→Option β}{a:α}{b:β}(hF:F a=some b)(ho:o.op= .call {callee:= .value x,args:= #[p],argTypes:=ts})(hd:Zq o C.N=true)(hx:Val C S x (fa1 C.P kx B F))(hp:Val C S p (rd kx a)):
  OpE C o S (S.put o.dst (B b)):=
 Znv (xs:=[p]) ho hd hx ⟨a,b,hF,rfl,rfl⟩ ⟨hp,trivial⟩
theorem Yft {f:FuncId}{fs cs:List Operand}{FAs CAs:List Zb}{k:Kd α}(F:σ→α→Option σ)(L:σ→Res)(ho:o.op= .makeFunc (.func f) fs.toArray cs.toArray)(hd:Zq o C.N=true)(he:Ent C.P f)(hf:Vals C S fs FAs)(hc:Vals C S cs CAs)
  (hG:∀s x s',F s x=some s'→Con C.P f (FAs++rd k x::CAs) (L s) (fun _:Unit=>top) (fun _=>L s')):
  OpE C o S (S.put o.dst (stA C.P k F L)):=
 Yef ho hd he hf hc (by rintro _ _ _ _ ⟨s,x,s',h,rfl,rfl,rfl,rfl⟩;simpa using hG s x s' h)
theorem Yp1 {x p:Operand}{ts:Array TypeId}{k:Kd α}{F:σ→α→Option σ}{L:σ→Res}{s s':σ}{a:α}(i:Nat)(hF:F s a=some s')(ho:o.op= .call {callee:= .value x,args:= #[p],argTypes:=ts})(hd:Zq o C.N=true)(hx:Val C S x (stA C.P k F L))(hp:Val C S p (rd k a))(hr:S.r i=L s):
  OpE C o S ((S.put o.dst top).setr i (L s')):=
 Y22 (xs:=[p]) i ho hd hx ⟨s,a,s',hF,rfl,rfl,rfl,rfl⟩ ⟨hp,trivial⟩ hr
end fas
section ret
variable {C : Ctx} {S : St} {fn : Func}
theorem Zwt {O:Nat→Nat}{a:Act}{w:World}{i:Nat}{R:Res}(hh:HoldO C S O a w)(hr:S.r i=R):R.R w (join C.H0 (fun b=>O b=Ro i)) (fun b=>O b=Ro i):=by
 have h2:=hh.res i
 rw [hr] at h2
 refine R.mono ⟨Nat.le_refl _,fun b _ hn=>⟨?_,rfl⟩,fun b _ hb=>⟨hb,rfl⟩⟩ h2
 rintro (h | h)
 ·exact hn (.inl h)
 ·exact hn (.inr (by rw [h];exact Z0m i))
theorem Z47 {r:ResultVar}{A:Zb}{R:Res}(i:Nat)(hf:fn.results= #[r])(hd:S.d=[])(h:Out C S r A)(hr:S.r i=R):RetOK C fn S (fun _:Unit=>A) (fun _=>R):=
 ⟨hd,fun O a w hh=>by
  obtain ⟨v,h1,h2⟩:=h O a w hh
  refine ⟨v,(),fun b=>O b=Ro i,?_,fun b hb=>by rw [hb];exact Z0m i,Z7d (M:=Zl) (M':=Zl) A h2 _ (fun b hb=>by rw [hb];exact Z0m i),Zwt hh hr⟩
  have e:results fn a.tmps=(do let vs ←fn.results.mapM (Z6v a.tmps);pure (if h:vs.size=1 then vs[0] else .tuple vs)):=rfl
  rw [e,hf]
  simp [h1]⟩
theorem Zaw {r r' r'':ResultVar}{A B D:Zb}(hf:fn.results= #[r,r',r''])(hd:S.d=[])(h:Out C S r A)(h':Out C S r' B)(h'':Out C S r'' D):RetOK C fn S (fun _:Unit=>Z3j A B D) (fun _=>emp):=
 ⟨hd,fun O a w hh=>by
  obtain ⟨v,h1,h2⟩:=h O a w hh
  obtain ⟨u,h3,h4⟩:=h' O a w hh
  obtain ⟨t,h5,h6⟩:=h'' O a w hh
  have hX:∀b,Zl b→O b≠0:=fun _ h=>h.elim
  refine ⟨.tuple #[v,u,t],(),Zl,?_,hX,⟨v,u,t,rfl,Z7d (M:=Zl) (M':=Zl) A h2 _ hX,Z7d (M:=Zl) (M':=Zl) B h4 _ hX,Z7d (M:=Zl) (M':=Zl) D h6 _ hX⟩,trivial⟩
  have e:results fn a.tmps=(do let vs ←fn.results.mapM (Z6v a.tmps);pure (if h:vs.size=1 then vs[0] else .tuple vs)):=rfl
  rw [e,hf]
  simp [h1,h3,h5]⟩
end ret
section steps
variable {C : Ctx} {S S' S'' : St} {o : Oper} {α : Type}
theorem OpE.post (h:OpE C o S S')(k:∀a w,Hold C S' a w→Hold C S'' a w):OpE C o S S'':=by
 intro a w hh
 have h1:=h a w hh
 refine ⟨h1.1,Oper.uponIn_mono (fun a' w' hx=>?_) (fun _ _ _ h=>h) _ h1.2⟩
 obtain ⟨T,rfl,h2⟩:=hx
 exact ⟨_,rfl,k _ _ h2⟩
theorem OpE.pre {ι:Type}{T:ι→St}(k:∀a w,Hold C S a w→∃i,Hold C (T i) a w)(h:∀i,OpE C o (T i) S'):OpE C o S S':=fun a w hh=>by
 obtain ⟨i,hi⟩:=k a w hh
 exact h i a w hi
theorem Hold.weak' {a:Act}{w:World}(h:Hold C S a w)(hd:S'.d=S.d)(hs:∀t,S'.s t=S.s t∨S'.s t=top)(hr:∀i,S'.r i=S.r i∨S'.r i=emp):Hold C S' a w:=by
 obtain ⟨O,hh⟩:=h
 exact ⟨O,hh.weak hd hs hr⟩
theorem Hold.unpackR {a:Act}{w:World}{t i:Nat}{E:TypeId}{k:Kd α}{l:List α}(hs:S.s t=Z1y E k l)(hr:S.r i=emp)(hh:Hold C S a w):∃v,Hold C ((S.set t (Zg v)).setr i (Zi v E k l)) a w:=by
 obtain ⟨O,hh⟩:=hh
 obtain ⟨O1,hh1,hne,hso⟩:=hh.drop hr
 have h1:=hh1.slot t
 rw [hs] at h1
 obtain ⟨cl,ho,hc,hm⟩:=h1
 exact ⟨a.tmps.getD t undef,Ztb hh1 (fun O' _=>rfl) (fun O' hiff hp=>⟨cl,ho,hc.mono ⟨Nat.le_refl _,fun b _ hn=>⟨fun h=>hn (h.imp id (hiff b).1),rfl⟩,fun _ _ h=>h.elim⟩,fun b hb=>hp b (hm b hb)⟩) hne⟩
theorem Hold.freezeS {a:Act}{w:World}{t i:Nat}{E:TypeId}{k:Kd α}{l:List α}[Sh k E](hX:C.X=Zl)(hs:S.s t=Z1y E k l)(hr:S.r i=emp)(hh:Hold C S a w):Hold C (S.set t (rd (Z1 k) l)) a w:=by
 obtain ⟨v,h1⟩:=hh.unpackR hs hr
 have h2:=h1.freeze (t:=t) (i:=i) (v:=v) (E:=E) (k:=k) (l:=l) hX (by simp [St.set,St.setr,Z02]) (by simp [St.setr,Z02])
 refine h2.weak' (S':=S.set t (rd (Z1 k) l)) rfl (fun u=> .inl ?_) (fun j=> .inl ?_)
 ·simp only [St.set,St.setr]
  by_cases e:u=t
  ·subst e;rw [Z02,Z02]
  ·rw [Z00 _ _ e,Z00 _ _ e,Z00 _ _ e]
 ·simp only [St.set,St.setr]
  by_cases e:j=i
  ·subst e;rw [Z02,hr]
  ·rw [Z00 _ _ e,Z00 _ _ e]
end steps
end Go.Wb
namespace Go.Wb
open Go
def kas (A:Zb):Kd Unit where
 sz:=1
 agg:=false
 C:=fun w H _ cs=> ∃v,cs=[v]∧v.oneCell'=true∧A.R w H Zl v
 len:=by rintro w H x cs ⟨v,rfl,_⟩;rfl
 one:=by rintro w H x cs ⟨v,rfl,h,_⟩ u hu;simp at hu;subst hu;exact h
 flat:=fun _=>rfl
 mono:=by rintro w H w' H' x cs e ⟨v,rfl,h,k⟩;exact ⟨v,rfl,h,A.mono e k⟩
section kas
variable {C : Ctx} {S S' : St} {o : Oper} {α σ : Type}
theorem Yjt {A:Zb}[Dup A]{w:World}{H M:HS}{v:Value}(h:(rd (kas A) ()).R w H M v):A.R w H M v:=by
 obtain ⟨cs,⟨u,rfl,_,hu⟩,rfl⟩:=h
 exact A.mono Ext.any hu
theorem Hold.asA {a:Act}{w:World}{t:Nat}{A:Zb}[Dup A](hs:S.s t=rd (kas A) ())(hh:Hold C S a w):Hold C (S.set t A) a w:=by
 obtain ⟨O,hh⟩:=hh
 refine ⟨O,{hh with slot:=fun u=>?_}⟩
 by_cases e:u=t
 ·subst e
  have h1:=hh.slot u
  rw [hs] at h1
  simp only [St.set,Z02]
  exact Yjt h1
 ·simp only [St.set]
  rw [Z00 _ _ e];exact hh.slot u
theorem Zaj {T T':TypeId}{g i d:Nat}{A:Zb}[Dup A]{p:Operand}(ho:o.op= .load T p)(hdst:o.dst=some d)(hd:Zq o C.N=true)(ht:Ty C.P T (kas A))(hp:Val C S p (Za g (Lens.id (kas A))))(hr:S.r i=Zd g T' (kas A) ()):OpE C o S (S.put o.dst A):=by
 refine (Z08 (i:=i) ho hd ht hp hr).post fun a w hh=>?_
 have h2:=hh.asA (t:=d) (A:=A) (by rw [hdst];simp [St.put,St.set,Z02])
 refine h2.weak' (S':=S.put o.dst A) (by rw [hdst];rfl) (fun u=> .inl ?_) (fun j=> .inl (by rw [hdst];rfl))
 rw [hdst]
 simp only [St.put,St.set]
 by_cases e:u=d
 ·subst e;rw [Z02,Z02]
 ·rw [Z00 _ _ e,Z00 _ _ e,Z00 _ _ e]
end kas
section turns
variable {C : Ctx} {S S' S'' : St} {β α : Type}
def Turn (C:Ctx)(S S':St):Prop:=S'.d=S.d∧∀O a w,HoldO C S O a w→∃O',HoldO C S' O' a w∧∀b,O' b≠0→O b≠0
theorem Turn.refl:Turn C S S:=⟨rfl,fun O _ _ h=>⟨O,h,fun _ h=>h⟩⟩
theorem Turn.trans (h:Turn C S S')(k:Turn C S' S''):Turn C S S'':=⟨k.1.trans h.1,fun O a w hh=>by
 obtain ⟨O1,h1,e1⟩:=h.2 O a w hh
 obtain ⟨O2,h2,e2⟩:=k.2 O1 a w h1
 exact ⟨O2,h2,fun b hb=>e1 b (e2 b hb)⟩⟩
theorem Turn.packF (i j:Nat){g:Nat}{v:Value}{T E:TypeId}{kO:Kd β}(c:Value→β){k:Kd α}{l:List α}(hij:i≠j)(hr:S.r i=Zd g T kO (c v))(hj:S.r j=Zi v E k l):Turn C S ((S.setr i (Z1c g T kO c E k l)).setr j emp):=
 ⟨rfl,fun O a w hh=>hh.packF c hij hr hj⟩
theorem RetOK.turn {fn:Func}{ζ:Type}{B:ζ→Zb}{R':ζ→Res}(h:Turn C S S')(k:RetOK C fn S' B R'):RetOK C fn S B R':=
 ⟨h.1▸k.1,fun O a w hh=>by
  obtain ⟨O1,h1,e1⟩:=h.2 O a w hh
  obtain ⟨v,z,X',h2,h3,h4⟩:=k.2 O1 a w h1
  exact ⟨v,z,X',h2,fun b hb=>e1 b (h3 b hb),h4⟩⟩
theorem AOps.unboxF {ops:Array Oper}{Q:Exit→St→Prop}{x:List Oper}(i j:Nat){g:Nat}{T E:TypeId}{kO:Kd β}{c:Value→β}{k:Kd α}{l:List α}(hij:i≠j)(hr:S.r i=Z1c g T kO c E k l)(hj:S.r j=emp)(h:∀v,AOps C ops Q x ((S.setr i (Zd g T kO (c v))).setr j (Zi v E k l))):AOps C ops Q x S:=
 fun a w hh=>let ⟨v,h1⟩:=hh.unboxF hij hr hj;h v a w h1
end turns
section body
variable {C : Ctx} {S : St} {σ : Type}
def bodyT (C:Ctx)(M:σ→List (Nat×Res))(r:Lp σ):Exit→St→Prop
 | .normal,S'=> ∃S'' s',Turn C S' S''∧r= .go s'∧Z5q S'' (M s')
 | .exit id,S'=> ∃S'' s',Turn C S' S''∧r= .out (.exit id) s'∧Z5q S'' (M s')
 | .ret,S'=> ∃S'' s',Turn C S' S''∧r= .out .ret s'∧Z5q S'' (M s')
 | _,_=>False
theorem AW.bodyT {c:Code}{M:σ→List (Nat×Res)}{r:Lp σ}(h:AW C c (bodyT C M r) S):AW C c (Zpm (fun s=>Z2e (M s)) (fun _ s=>Z2e (M s)) r) S:=by
 intro a w hh
 refine wpIn_mono (h a w hh) ?_
 have key:∀(S' S'':St) (s':σ) (a':Act) (w':World),Turn C S' S''→Z5q S'' (M s')→Hold C S' a' w'→Hold C ⟨S''.s,Z2e (M s'),S''.d⟩ a' w':=fun S' S'' s' a' w' ht hf hh=>by
  obtain ⟨O0,h0⟩:=hh
  obtain ⟨O,hO,_⟩:=ht.2 O0 a' w' h0
  exact ⟨O,hO.weak rfl (fun _=> .inl rfl) (Zib hf (fun _=> .inr rfl))⟩
 rintro e a' w' ⟨S',h1,h2⟩
 cases e with
 | normal=>obtain ⟨S'',s',ht,hr,hf⟩:=h1;exact ⟨_,⟨s',hr,rfl⟩,key _ _ _ _ _ ht hf h2⟩
 | exit id=>obtain ⟨S'',s',ht,hr,hf⟩:=h1;exact ⟨_,⟨s',hr,rfl⟩,key _ _ _ _ _ ht hf h2⟩
 | ret=>obtain ⟨S'',s',ht,hr,hf⟩:=h1;exact ⟨_,⟨s',hr,rfl⟩,key _ _ _ _ _ ht hf h2⟩
 | goto t=>exact h1.elim
 | panic ch=>exact h1.elim
 | outgrown=>exact h1.elim
end body
def Zn2 {σ β:Type _}(z:Lp σ)(f:σ→Option β)(g:Code→σ→Option β):Option β:=match z with
 | .go s=>f s
 | .out c s=>g c s
def Z9n:Code→Bool
 | .ret=>true
 | _=>false
def Zii (n:Nat):Code→Bool
 | .exit m=>Nat.beq m n
 | _=>false
theorem Y0m {c:Code}(h:Z9n c=true):c= .ret:=by
 cases c<;>first | rfl | cases h
theorem Yar {n:Nat}{c:Code}(h:Zii n c=true):c= .exit n:=by
 cases c<;>first | cases h | skip
 rename_i m
 rw [Nat.eq_of_beq_eq_true h]
end Go.Wb
namespace Go.Wb
open Go
def Z8m (P:Program)(T:TypeId)(i:Nat):Option TypeId:=match P.underlying T with
 | some (.struct fs)=>(fs[i]?).map fun f=>f.type
 | _=>none
section fieldv
variable {C : Ctx} {S S' : St} {o : Oper} {α β : Type}
theorem Z7o {T FT:TypeId}{i:Nat}{k:Kd α}{kf:Kd β}{x:α}{p:Operand}(L:Lens k kf)(ho:o.op= .field T p i)(hd:Zq o C.N=true)(hfl:Fl C.P T i L)(hft:Z8m C.P T i=some FT)(ht:Ty C.P FT kf)(ha:k.agg=true)(hp:Val C S p (rd k x)):OpE C o S (S.put o.dst (rd kf (L.get x))):=
 OpE.plain (by simp [ho]) hd fun O a w hh=>by
  obtain ⟨cs,hc,hv⟩:=hp.of hh
  obtain ⟨fs,f,ti,hu,hf,hoff,hti,hs,hne⟩:=hfl.out
  have hty:f.type=FT:=by
   unfold Z8m at hft
   rw [hu] at hft
   simpa [hf] using hft
  have hg:=L.okget hc
  have hpart:=Z8l (P:=C.P) (w:=w) (off:=f.offset) (cs:=cs) (c:=(cs.drop L.off).take kf.sz) ht hg (by rw [hoff])
  have hv':a.eval p= .agg cs.toArray:=by rw [hv,ha];rfl
  refine ⟨_,?_,_,hg,rfl⟩
  simp [execOp,ho,hv',Instr.field,asAgg,run_underlying hu,hf,hty,hpart]
end fieldv
end Go.Wb
namespace Go.Wb
open Go
def Y0q (v:Value)(n:Nat):Prop:=0<n→∃g c,v= .slice (some ⟨g,0,none⟩) n c
section vlen
variable {C : Ctx} {S S' : St} {o : Oper} {α β : Type}
theorem AW.vlen {Q:Exit→St→Prop}{c:Code}(i:Nat){v:Value}{E:TypeId}{k:Kd α}{l:List α}(hr:S.r i=Zi v E k l)(h:Y0q v l.length→AW C c Q S):AW C c Q S:=by
 rintro a w ⟨O,hh⟩
 have h3:=hh.res i
 rw [hr] at h3
 obtain ⟨cl,hown,hc,hm⟩:=h3
 exact h (fun hp=>by obtain ⟨g,cap,cur,e,_⟩:=Zrx hown hp;exact ⟨g,cap,e⟩) a w ⟨O,hh⟩
theorem Z24 {T E:TypeId}{m:Nat}{k:Kd α}{l:List α}{v:Value}{n:Int}{x:α}{p q:Operand}{ik:IntKind}(hv:Y0q v m)(hm:l.length=m)(ho:o.op= .indexAddr T p q)(hd:Zq o C.N=true)(ht:Sl C.P T E k)(hp:Val C S p (Zg v))(hq:Val C S q (rd (Z0 ik) n))(hx:lget l n=some x):
  OpE C o S (S.put o.dst (erp v n.toNat (Lens.id k))):=
 OpE.plain (by simp [ho]) hd fun O a w hh=>by
  have h1:=Z56 (hp.of hh)
  have h2:=(Z0q (hq.of hh)).1
  obtain ⟨h0,h5⟩:=Z0l hx
  have hi:=(List.getElem?_eq_some_iff.1 h5).1
  obtain ⟨g,cap,rfl⟩:=hv (by omega)
  obtain ⟨hu,ti,hti,hs⟩:=ht.out
  have h4:(0:Int)≤n∧n<m:=⟨h0,by omega⟩
  exact ⟨.pointer (some ⟨g,n.toNat*k.sz,none⟩),by simp [execOp,ho,h1,h2,Instr.indexAt,asIntOf,run_underlying hu,Instr.sureAddr,h4,sizeOf,typeInfo,hti,hs,Z38],g,_,_,rfl,rfl⟩
end vlen
end Go.Wb
namespace Go.Wb
open Go
section ends
variable {C : Ctx} {S S' : St} {α β : Type}
def EndT (C:Ctx)(Q:Exit→St→Prop):Exit→St→Prop:=fun e S=> ∀a w,Hold C S a w→∃S',Q e S'∧Hold C S' a w
theorem AW.endT {c:Code}{Q:Exit→St→Prop}(h:AW C c (EndT C Q) S):AW C c Q S:=fun a w hh=>
 wpIn_mono (h a w hh) fun e a' w' ⟨S',h1,h2⟩=>h1 a' w' h2
theorem EndT.done {Q:Exit→St→Prop}{e:Exit}(h:Q e S):EndT C Q e S:=fun a w hh=>⟨S,h,hh⟩
theorem EndT.unboxF {Q:Exit→St→Prop}{e:Exit}(i j:Nat){g:Nat}{T E:TypeId}{kO:Kd β}{c:Value→β}{k:Kd α}{l:List α}(hij:i≠j)(hr:S.r i=Z1c g T kO c E k l)(hj:S.r j=emp)(h:∀v,EndT C Q e ((S.setr i (Zd g T kO (c v))).setr j (Zi v E k l))):EndT C Q e S:=
 fun a w hh=>let ⟨v,h1⟩:=hh.unboxF hij hr hj;h v a w h1
theorem EndT.unpackR {Q:Exit→St→Prop}{e:Exit}(t i:Nat){E:TypeId}{k:Kd α}{l:List α}(hs:S.s t=Z1y E k l)(hr:S.r i=emp)(h:∀v,EndT C Q e ((S.set t (Zg v)).setr i (Zi v E k l))):EndT C Q e S:=
 fun a w hh=>let ⟨v,h1⟩:=hh.unpackR hs hr;h v a w h1
end ends
end Go.Wb
namespace Go.Wb
open Go
def Yj2 (A B D F:Zb):Zb:=⟨fun w H M v=> ∃x y z u,v= .tuple #[x,y,z,u]∧A.R w H Zl x∧B.R w H Zl y∧D.R w H Zl z∧F.R w H Zl u,fun h ⟨x,y,z,u,e,hx,hy,hz,hu⟩=>⟨x,y,z,u,e,A.mono h.pure_ hx,B.mono h.pure_ hy,D.mono h.pure_ hz,F.mono h.pure_ hu⟩⟩
instance (A B D F:Zb):Dup (Yj2 A B D F):=⟨fun h=>h⟩
section tups
variable {C : Ctx} {S : St} {o : Oper} {A B D F : Zb} {p : Operand} {fn : Func}
theorem Zho (ho:o.op= .extract p 0)(hd:Zq o C.N=true)(hp:Val C S p (Z3j A B D)):OpE C o S (S.put o.dst A):=
 OpE.plain (by simp [ho]) hd fun O a w hh=>by
  obtain ⟨x,y,z,h1,hx,hy,hz⟩:=hp.of hh
  exact ⟨x,by simp [execOp,ho,h1,Instr.extract],hx⟩
theorem Zh4 (ho:o.op= .extract p 1)(hd:Zq o C.N=true)(hp:Val C S p (Z3j A B D)):OpE C o S (S.put o.dst B):=
 OpE.plain (by simp [ho]) hd fun O a w hh=>by
  obtain ⟨x,y,z,h1,hx,hy,hz⟩:=hp.of hh
  exact ⟨y,by simp [execOp,ho,h1,Instr.extract],hy⟩
theorem Zgn (ho:o.op= .extract p 2)(hd:Zq o C.N=true)(hp:Val C S p (Z3j A B D)):OpE C o S (S.put o.dst D):=
 OpE.plain (by simp [ho]) hd fun O a w hh=>by
  obtain ⟨x,y,z,h1,hx,hy,hz⟩:=hp.of hh
  exact ⟨z,by simp [execOp,ho,h1,Instr.extract],hz⟩
end tups
end Go.Wb
namespace Go.Wb
open Go
section moveO
variable {C : Ctx} {S S' : St} {o : Oper} {α : Type}
theorem Hold.packR {a:Act}{w:World}{d i:Nat}{v:Value}{E:TypeId}{k:Kd α}{l:List α}(hs:S.s d=Zg v)(hr:S.r i=Zi v E k l)(hh:Hold C S a w):Hold C ((S.set d (Z1y E k l)).setr i emp) a w:=by
 obtain ⟨O,hh⟩:=hh
 have h1:a.tmps.getD d undef=v:=Z56 (by have:=hh.slot d;rwa [hs] at this)
 have h2:=hh.res i
 rw [hr] at h2
 obtain ⟨cl,ho,hc,hm⟩:=h2
 let O':Nat→Nat:=fun b=>if O b=Ro i then So d else if O b=So d then 0 else O b
 have e1:∀b,O b=Ro i→O' b=So d:=fun b h=>if_pos h
 have e2:∀b q,O b=q→q≠Ro i→q≠So d→O' b=q:=fun b q h hq hq'=>by
  show (if O b=Ro i then So d else if O b=So d then 0 else O b)=q
  rw [if_neg (by rw [h];exact hq),if_neg (by rw [h];exact hq'),h]
 have e3:∀b,O' b≠0→O b≠0:=fun b h h0=>by
  apply h
  show (if O b=Ro i then So d else if O b=So d then 0 else O b)=0
  rw [h0,if_neg (fun e=>Z0m i e.symm),if_neg (fun e=>Z6d d e.symm)]
 have hext:Ext w (hid C O) Zl w (hid C O') Zl:=⟨Nat.le_refl _,fun b _ hn=>⟨fun h=>hn (h.imp id (e3 b)),rfl⟩,fun _ _ h=>h.elim⟩
 refine ⟨O',⟨hh.h0,hh.os,hh.tape,hh.output,hh.size,hh.old,fun b hb=>hh.own b (e3 b hb),hh.dfr,hh.n,fun s=>?_,fun j=>?_⟩⟩
 ·by_cases e:s=d
  ·subst e
   simp only [St.set,St.setr,Z02]
   rw [h1]
   exact ⟨cl,ho,hc.mono hext,fun b hb=>e1 b (hm b hb)⟩
  ·simp only [St.set,St.setr]
   rw [Z00 _ _ e]
   refine (S.s s).mono ⟨Nat.le_refl _,hext.vis,fun b _ hb=>⟨?_,rfl⟩⟩ (hh.slot s)
   have hb':O b=So s:=hb
   exact e2 b _ hb' (Z1g s i) (fun h=>e (Z8a h))
 ·by_cases e:j=i
  ·subst e
   simp only [St.setr,Z02]
   trivial
  ·simp only [St.setr]
   rw [Z00 _ _ e]
   refine (S.r j).mono ⟨Nat.le_refl _,hext.vis,fun b _ hb=>⟨?_,rfl⟩⟩ (hh.res j)
   have hb':O b=Ro j:=hb
   exact e2 b _ hb' (fun h=>e (Z26 h)) (fun h=>Z1g d j h.symm)
theorem Yfh {t d:Nat}(i:Nat){E:TypeId}{k:Kd α}{l:List α}(hop:∀(S:St) (v:Value),S.s t=Zg v→OpE C o S (S.put o.dst (Zg v)))(hdst:o.dst=some d)(hne:Nat.beq d t=false)(hs:S.s t=Z1y E k l)(hr:S.r i=emp):OpE C o S ((S.set t top).put o.dst (Z1y E k l)):=by
 have hdt:d≠t:=fun e=>by rw [e] at hne;simp at hne
 refine OpE.pre (T:=fun v=>(S.set t (Zg v)).setr i (Zi v E k l)) (fun a w hh=>hh.unpackR hs hr) fun v=>?_
 refine (hop ((S.set t (Zg v)).setr i (Zi v E k l)) v (by simp [St.set,St.setr,Z02])).post fun a w hh=>?_
 rw [hdst] at hh ⊢
 have h2:=hh.packR (d:=d) (i:=i) (v:=v) (E:=E) (k:=k) (l:=l) (by simp [St.put,St.set,Z02]) (by simp [St.put,St.set,St.setr,Z02])
 refine h2.weak' (S':=(S.set t top).put (some d) (Z1y E k l)) rfl (fun u=>?_) (fun j=>?_)
 ·simp only [St.put,St.set,St.setr]
  by_cases e:u=d
  ·subst e;rw [Z02,Z02];exact .inl rfl
  ·rw [Z00 _ _ e,Z00 _ _ e,Z00 _ _ e]
   by_cases e':u=t
   ·subst e';rw [Z02];exact .inr rfl
   ·rw [Z00 _ _ e',Z00 _ _ e'];exact .inl rfl
 ·simp only [St.put,St.set,St.setr]
  by_cases e:j=i
  ·subst e;rw [Z02,hr];exact .inl rfl
  ·rw [Z00 _ _ e,Z00 _ _ e];exact .inl rfl
theorem Zbt {t d:Nat}(i:Nat){E:TypeId}{k:Kd α}{l:List α}(ho:o.op= .assign (.tmp t))(hdst:o.dst=some d)(hd:Zq o C.N=true)(hne:Nat.beq d t=false)(hs:S.s t=Z1y E k l)(hr:S.r i=emp):OpE C o S ((S.set t top).put o.dst (Z1y E k l)):=
 Yfh i (fun S v h=>Zn ho hd (vt h)) hdst hne hs hr
end moveO
end Go.Wb
namespace Go.Wb
open Go
variable {C : Ctx} {o : Oper} {S S' : St}
theorem Goes.alloc {O:Nat→Nat}{a:Act}{w:World}(hh:HoldO C S O a w)(ob:Obj):Goes C Zl O w O (w.alloc ob):=
 ⟨rfl,rfl,rfl,by simp,fun b hb _=>⟨rfl,heap_alloc_old w ob b hb⟩,fun b h=> .inl h,fun b h=>by have:=(hh.own b h).2;simp;omega,fun h=>h⟩
theorem Yau {α:Type}{T:TypeId}{k:Kd α}{x:α}{p:Operand}(ho:o.op= .box T p)(hd:Zq o C.N=true)(hp:Val C S p (rd k x)):OpE C o S (S.put o.dst (rp k x)):=
 OpE.value (by simp [ho]) fun O a w hh=>by
  obtain ⟨cs,hc,hv⟩:=hp.of hh
  refine ⟨.pointer (some ⟨w.heap.size,0,none⟩),w.alloc (.cells cs.toArray T),?_,O,hh.yield (Goes.alloc hh _) (Z2r hd) ?_⟩
  ·simp [execOp,ho,hv,Instr.box,newVar,newRow,Zg5 hc]
  ·refine ⟨w.heap.size,0,cs,rfl,by simp,?_,k.mono ⟨by simp,fun b hb hn=>⟨hn,heap_alloc_old w _ b hb⟩,fun _ _ h=>h.elim⟩ hc,At.row (heap_alloc_new w _) (by simp)⟩
   intro h
   have:=hh.hid_lt _ h
   omega
theorem Y3h {T:TypeId}{d:Nat}{A:Zb}[Dup A]{p:Operand}(ho:o.op= .load T p)(hdst:o.dst=some d)(hd:Zq o C.N=true)(ht:Ty C.P T (kas A))(hp:Val C S p (rp (kas A) ())):OpE C o S (S.put o.dst A):=by
 have h1:=Z4i ho hd ht hp
 refine OpE.post h1 fun a w hh=>?_
 have:=Hold.asA (t:=d) (A:=A) (by rw [hdst];exact Z02 _ _ _) hh
 rw [hdst] at this ⊢
 refine this.weak' rfl (fun t=>?_) (fun i=> .inl rfl)
 left
 show upd _ _ _ t=upd (upd _ _ _) _ _ t
 by_cases e:t=d
 ·subst e;rw [Z02,Z02]
 ·rw [Z00 _ _ e,Z00 _ _ e,Z00 _ _ e]
def omk (n:Int):Option Unit:=bif decide (n<0)||decide ((lim:Int)<n) then none else some ()
theorem Zzk {n:Int}(h:omk n=some ()):∃m:Nat,n=(m:Int)∧m≤lim:=by
 unfold omk at h
 cases hc:decide (n<0)||decide ((lim:Int)<n)
 ·simp only [Bool.or_eq_false_iff,decide_eq_false_iff_not] at hc
  exact ⟨n.toNat,by omega,by omega⟩
 ·rw [hc] at h;cases h
theorem Ztj {α:Type}{P:Program}{T E:TypeId}{k:Kd α}(he:El P T E k):P.underlying T=some (.slice E)∧∃i,P.info? E=some i∧i.size=k.sz∧i.bytes≤32768:=by
 obtain ⟨i,hi,hs⟩:=Option.map_eq_some_iff.1 he.sz
 obtain ⟨i',hi',hby⟩:=Option.map_eq_some_iff.1 he.by_
 obtain rfl:i=i':=by rw [hi] at hi';exact Option.some.inj hi'
 exact ⟨he.u,i,hi,hs,Nat.le_of_ble_eq_true hby⟩
theorem Zgy {O:Nat→Nat}{i:Nat}{w w':World}{v':Value}(h:w.grownBy w' none)(hv:v'.ownBlock=some w.heap.size∨v'.ownBlock=none)(hs:∀b,v'.ownBlock=some b→b<w'.heap.size):Turns O i w (.slice none 0 0) v' w':=
 ⟨h,fun b h=>by simp [Value.ownBlock] at h,hv.elim .inr (fun e=> .inl (by rw [e];rfl)),hs⟩
theorem Zwm {α:Type}{T E:TypeId}{k:Kd α}{z:α}{n:Int}{jk:IntKind}{q:Operand}(i:Nat)(hn:omk n=some ())(ho:o.op= .makeSlice T (.const (.int .i64 0)) q)(hd:Zq o C.N=true)(he:El C.P T E k)(hz:Zr C.P E k z)(hq:Val C S q (rd (Z0 jk) n)):
  OpT C o S (fun S'=> ∃v,S'=(S.put o.dst (Zg v)).setr i (Zi v E k [])):=
 OpT.value (by simp [ho]) fun O a w hh=>by
  obtain ⟨m,rfl,hm⟩:=Zzk hn
  obtain ⟨hu,ti,hti,hs,hby⟩:=Ztj he
  obtain ⟨ti',zv,hti',hzv,hzc⟩:=hz.out
  obtain rfl:ti=ti':=by rw [hti] at hti';exact Option.some.inj hti'
  have h2:=(Z0q (hq.of hh)).1
  have hl:lim=4294967296:=rfl
  have hb:ti.bytes*m≤281474976710656:=Nat.le_trans (Nat.mul_le_mul hby hm) (by decide)
  obtain ⟨w',h3,h4,h5⟩:=run_make_own (P:=C.P) w 0 T E ti zv k.sz hu hti hzv hs .i64 jk m hb (by simp only [maxLen];omega) (Nat.zero_le _)
  have hsz:w.heap.size<w'.heap.size:=by
   rcases h4.2 with ⟨e,_⟩ | ⟨g,cap,cur,e,_,hg,_⟩
   ·cases e
   ·cases e;exact (Array.getElem?_eq_some_iff.1 hg).1
  have t:Turns O i w (.slice none 0 0) (.slice (some ⟨w.heap.size,0,none⟩) 0 m) w':=Zgy h5 (.inl rfl) (fun b hb=>by simp [Value.ownBlock] at hb;subst hb;exact hsz)
  have h1:a.eval (.const (.int .i64 0))= .int .i64 0:=rfl
  refine ⟨_,w',_,?_,⟨_,rfl⟩,Z5a hh t hd _ rfl (cl:=[]) (by simpa using h4) rfl⟩
  simp only [execOp,ho,h1,h2,Sem.run_bind,h3,Result.andThen_ok,Sem.run_pure]
theorem Ygr {α:Type}{T E:TypeId}{k:Kd α}{z:α}{n:Int}{jk:IntKind}{p q:Operand}(i:Nat)(hn:omk n=some ())(ho:o.op= .makeSlice T p q)(hd:Zq o C.N=true)(he:El C.P T E k)(hz:Zr C.P E k z)(hp:Val C S p (rd (Z0 jk) n))(hq:Val C S q (rd (Z0 jk) n)):
  OpT C o S (fun S'=> ∃v,S'=(S.put o.dst (Zg v)).setr i (Zi v E k (List.replicate n.toNat z))):=
 OpT.value (by simp [ho]) fun O a w hh=>by
  obtain ⟨m,rfl,hm⟩:=Zzk hn
  obtain ⟨hu,ti,hti,hs,hby⟩:=Ztj he
  obtain ⟨ti',zv,hti',hzv,hzc⟩:=hz.out
  obtain rfl:ti=ti':=by rw [hti] at hti';exact Option.some.inj hti'
  have h1:=(Z0q (hp.of hh)).1
  have h2:=(Z0q (hq.of hh)).1
  have hl:lim=4294967296:=rfl
  have hz0:=hzc w (hid C O)
  have hzl:zv.cells.size=k.sz:=by simpa using k.len hz0
  have hpos:0<k.sz:=by have:=he.pos;simpa using this
  have hb:ti.bytes*m≤281474976710656:=Nat.le_trans (Nat.mul_le_mul hby hm) (by decide)
  obtain ⟨w',h3,h4,h5⟩:=run_make_full (P:=C.P) w 0 T E ti zv k.sz hu hti hzv hs jk jk m hb (by simp only [maxLen];omega) (Nat.zero_le _)
  have hsz:w.heap.size<w'.heap.size:=by
   rcases h4.2 with ⟨e,_⟩ | ⟨g,cap,cur,e,_,hg,_⟩
   ·cases e
   ·cases e;exact (Array.getElem?_eq_some_iff.1 hg).1
  have t:Turns O i w (.slice none 0 0) (.slice (some ⟨w.heap.size,0,none⟩) m m) w':=Zgy h5 (.inl rfl) (fun b hb=>by simp [Value.ownBlock] at hb;subst hb;exact hsz)
  have hmade:(madeCells zv.cells (m*k.sz)).toList=(List.replicate m zv.cells.toList).flatten:=by rw [←hzl];exact Zeh _ (by omega) m
  rw [hmade] at h4
  have hkz:∀n,Cells k w (hid C O) (List.replicate n z) (List.replicate n zv.cells.toList).flatten:=by
   intro n
   induction n with
   | zero=>rfl
   | succ n ih=>rw [List.replicate_succ,List.replicate_succ,List.flatten_cons];exact ⟨_,_,rfl,hz0,ih⟩
  refine ⟨_,w',_,?_,⟨_,rfl⟩,Z5a hh t hd _ rfl (cl:=(List.replicate m zv.cells.toList).flatten) (by simpa using h4) ((hkz _).mono t.ext)⟩
  simp [execOp,ho,h1,h2,h3]
section full
variable {α : Type} {k : Kd α} {l s m r : List α} {T E : TypeId} {p q u : Operand} {jk hk : IntKind} {hi : Int}
theorem Zw8 (h:Z5c l hi=some s)(ho:o.op= .slice T p none (some q) (some u))(hd:Zq o C.N=true)(ht:Sl C.P T E k)(hp:Val C S p (rd (Z1 k) l))(hq:Val C S q (rd (Z0 jk) hi))(hu:Val C S u (rd (Z0 hk) hi)):OpE C o S (S.put o.dst (fsl k s)):=by
 obtain ⟨h1,h2,rfl⟩:=Zt8 h
 exact Y5s ho hd ht hp hq hu h1 h2
theorem Zyj {w:World}{b sz n:Nat}{v:Value}{cl:List Value}(h:w.ownsRow b E sz v n cl):w.ownsRow 0 E sz v n cl:=⟨h.1,h.2.elim .inl fun ⟨g,cap,cur,e,_,r⟩=> .inr ⟨g,cap,cur,e,Nat.zero_le _,r⟩⟩
theorem Zxp {O:Nat→Nat}{a:Act}{w w':World}{v:Value}{cl:List Value}[Sh k E](hh:HoldO C S O a w)(hd:Zq o C.N=true)(hg:w.grownBy w' none)(ho:w'.ownsRow 0 E k.sz v l.length cl)(hb:∀b,v.ownBlock=some b→w.heap.size≤b)(hc:Cells k w (hid C O) l cl):Hold C (S.put o.dst (rd (Z1 k) l)) (a.put o.dst v) w':=by
 have go:Goes C Zl O w O w':=⟨hg.os,rfl,hg.output,hg.size,fun b hb _=>⟨rfl,hg.block b hb (by simp)⟩,fun b h=> .inl h,fun b h=>Nat.lt_of_lt_of_le (hh.own b h).2 hg.size,fun h=>h⟩
 have hx:Ext w (hid C O) Zl w' (hid C O) Zl:=⟨hg.size,fun b hb hn=>⟨hn,hg.block b hb (by simp)⟩,fun _ _ h=>h.elim⟩
 refine ⟨O,hh.yield go (Z2r hd) (Z4y (Zaf (H:=hid C O) (H':=hid C O) ho (hc.mono hx) fun b e h=>?_))⟩
 have:=hh.hid_lt _ h
 have:=hb b e
 omega
theorem Yba [Sh k E](h:Z11 l m=some r)(ho:o.op= .call {callee:= .builtin .append,args:= #[p,q],argTypes:= #[T,T]})(hd:Zq o C.N=true)(he:El C.P T E k)(hp:Val C S p (fsl k l))(hq:Val C S q (rd (Z1 k) m)):OpE C o S (S.put o.dst (rd (Z1 k) r)):=
 OpE.value (by simp [ho]) fun O a w hh=>by
  obtain ⟨hl,rfl⟩:=Z5y h
  obtain ⟨hs,A,h1⟩:=hp.of hh
  have h2:=Z58 (hq.of hh)
  generalize hep:a.eval p=vp at*
  generalize heq:a.eval q=vq at*
  have hrun:∀v' w',(Builtin.append_ #[T,T] o.type #[vp,vq]).run C.P w= .ok v' w'→(execOp a.eval o).run C.P w= .ok (.value v') w':=fun v' w' h=>by
   simp only [execOp,ho,resolve,invoke,builtin,Sem.run_bind,Sem.run_pure,Result.andThen_ok,List.map_toArray,List.map_cons,List.map_nil,hep,heq,h]
  have hs0:=hs
  obtain ⟨A',c',he',hlc,hc63,hcells⟩:=hs
  obtain ⟨i,hi,hsz⟩:=Option.map_eq_some_iff.1 he.sz
  cases A with
  | none=>
   have h0:l=[]:=by
    cases l with
    | nil=>rfl
    | cons x l=>
     obtain ⟨b,off,cl,e,_⟩:=hcells (by simp)
     rw [h1] at he'
     cases he';cases e
   subst h0
   subst h1
   obtain ⟨v',w',ml,h4,h5,h6,h7,h8,h9⟩:=Zhw (l:=([]:List α)) (ty:=o.type) he (World.ownsRow_nil w 0 E k.sz) h2 hl
   refine ⟨v',w',hrun _ _ h4,Zxp hh hd h8 (cl:=ml) (by simpa using h5) (fun b hb=>?_) ?_⟩
   ·rcases h9 with e | e
    ·rw [e] at hb;cases hb
    ·rw [e] at hb;cases hb;exact Nat.le_refl _
   ·by_cases e:m=[]
    ·rw [h7 e,e];rfl
    ·have:=h6 (List.length_pos_iff.2 e)
     simpa using this
  | some A=>
   subst h1
   cases he'
   obtain ⟨cl,hcl,hat⟩:∃cl,Cells k w (hid C O) l cl∧∀j u,cl[j]? =some u→w.cell? (A.add j)=some u:=by
    cases l with
    | nil=>exact ⟨[],rfl,by simp⟩
    | cons x l=>
     obtain ⟨b,off,cl,e,_,_,hc,hat⟩:=hcells (by simp)
     cases e
     exact ⟨cl,hc,fun j u hu=>by rw [Z38];exact hat.at_ j u hu⟩
   obtain ⟨B,c,h3,hmc,hm63,hcells'⟩:=h2
   subst h3
   by_cases hm:m.length=0
   ·have hm0:m=[]:=List.eq_nil_of_length_eq_zero hm
    subst hm0
    have hr:(Builtin.append_ #[T,T] o.type #[.slice (some A) l.length l.length,.slice B ([]:List α).length c]).run C.P w= .ok (.slice (some A) l.length l.length) w:=by
     cases B<;>simp [Builtin.append_,run_underlying he.u,sizeOf,typeInfo,hi,Builtin.lenOf,Builtin.firstCells,storeCells,loadCells,loadCellsFrom]
    exact ⟨_,w,hrun _ _ hr,O,hh.yield_same (Z2r hd) (Z4y (by rw [List.append_nil];exact hs0))⟩
   ·obtain ⟨b,off,ml,e,hb,hn,hc,hat'⟩:=hcells' (by omega)
    cases e
    obtain ⟨i',hi',hby⟩:=Option.map_eq_some_iff.1 he.by_
    obtain rfl:i=i':=by rw [hi] at hi';exact Option.some.inj hi'
    obtain ⟨i',hi',hz⟩:=Option.map_eq_some_iff.1 he.zr
    obtain rfl:i=i':=by rw [hi] at hi';exact Option.some.inj hi'
    obtain ⟨z,hz1,hz2⟩:=Option.map_eq_some_iff.1 hz
    have hby':i.bytes≤32768:=Nat.le_of_ble_eq_true hby
    have hpos:0<k.sz:=by have:=he.pos;simpa using this
    have hlim:lim=4294967296:=rfl
    obtain ⟨v',w',r1,r2,r3⟩:=run_append_arg_grows (P:=C.P) w T o.type E i z k.sz i.bytes he.u hi hz1 hsz rfl hz2 hpos A l.length l.length cl hcl.len hat ⟨b,off,none⟩ m.length c ml hc.len (fun j u hu=>by rw [Z38];exact hat'.at_ j u hu) (by omega) (by simp only [maxLen];omega)
     (Nat.le_trans (Nat.mul_le_mul hl hby') (by decide))
    exact ⟨v',w',hrun _ _ r1,Zxp hh hd r3 (cl:=cl++ml) (by rw [List.length_append];exact Zyj r2) (fun b hb=>(r2.lt b hb).1) (hcl.append hc)⟩
end full
def ksp {α:Type}(k:Kd α)(A:Zb):Kd α:=Z0k (Z2 k (kas A)) (fun x=>(x,()))
def Zqz {α:Type}(k:Kd α)(A:Zb):Lens (ksp k A) k:=Lens.iso (Lens.fst k (kas A)) (fun x=>x) (fun _ y=>y) (fun _=>rfl) (fun _ _=>rfl)
def Zny {α:Type}(k:Kd α)(A:Zb):Lens (ksp k A) (kas A):=Lens.iso (Lens.snd k (kas A)) (fun _=>()) (fun x _=>x) (fun _=>rfl) (fun _ _=>rfl)
theorem Zvn {α β:Type}{k:Kd α}{kf:Kd β}(L:Lens k kf){w:World}{H:HS}{pl:Nat→Option (Nat×Nat)}{i:Nat}{v:Value}{c:List Value}{z:α}{y:β}{cs:Array Value}(hpl:pl i=some (L.off,kf.sz))(h1:kf.C w H y c)(h2:v=mkv kf.agg c)(hc:k.C w H z cs.toList):
  ∃cs':Array Value,(∀rest,Instr.fill pl cs ((i,v)::rest)=Instr.fill pl cs' rest)∧k.C w H (L.set z y) cs'.toList:=by
 have hce:=Zg5 h1
 have hl:=kf.len h1
 have hfit:=L.fits
 have hkl:=k.len hc
 have hsz:cs.size=k.sz:=by rw [←hkl];simp
 have hfold:=Zob c L.off 0 cs (by rw [hl];omega)
 rw [Nat.add_zero] at hfold
 have hnew:=L.okset hc h1
 rw [←hfold] at hnew
 refine ⟨_,fun rest=>?_,hnew⟩
 simp only [Instr.fill,hpl,h2,hce]
 have hcond:¬(c.toArray.size≠kf.sz||decide (L.off+c.toArray.size>cs.size))=true:=by
  simp [hl];omega
 rw [if_neg hcond]
 congr 1
 rw [←Array.foldl_toList]
 have ez:c.toArray.zipIdx.toList=c.zipIdx:=by simp [Array.toList_zipIdx]
 rw [ez]
theorem Ylu {α β σ:Type}{T:TypeId}{k:Kd α}{k':Kd β}{y:σ→β→Option (Lp σ)}{L:Lp σ→Res}{x z:α}{p:Operand}{t:Nat}(ho:o.op= .build T #[(0,p),(1,.tmp t)])(hd:Zq o C.N=true)(hb:Z1d C.P T=true)(hz:Zr C.P T (Z2 k kraw) (z,.nilFunc))
  (h0:Z01 C.P T 0=some (0,k.sz))(h1:Z01 C.P T 1=some (k.sz,1))(hp:Val C S p (rd k x))(hA:S.s t=ydA C.P k' y L):OpE C o S (S.put o.dst (rd (ksp k (ydA C.P k' y L)) x)):=
 OpE.plain (by simp [ho]) hd fun O a w hh=>by
  obtain ⟨i',zv,hi',hzv,hzc⟩:=hz.out
  obtain ⟨c,hc,hv⟩:=hp.of hh
  have hy:=(vt (C:=C) hA).of hh
  generalize hep:a.eval p=vp at*
  generalize het:a.eval (.tmp t)=vy at*
  obtain ⟨cs1,f1,g1⟩:=Zvn (Lens.fst k kraw) (pl:=Z01 C.P T) (i:=0) h0 hc hv (hzc w (hid C O))
  obtain ⟨cs2,f2,g2⟩:=Zvn (Lens.snd k kraw) (pl:=Z01 C.P T) (i:=1) (v:=vy) (c:=[vy]) (y:=vy) h1 ⟨rfl,hy.1⟩ rfl g1
  have hf:Instr.fill (Z01 C.P T) zv.cells [(0,vp),(1,vy)]=some cs2:=by rw [f1,f2];rfl
  have hbuilt:C.P.built T [(0,vp),(1,vy)]=some cs2:=by
   unfold Program.built
   unfold Z1d at hb
   unfold Z01 at hf
   split at hb
   ·rename_i fs hu
    obtain ⟨places,hm⟩:=Option.isSome_iff_exists.1 hb
    simp only [hu,hm] at hf
    simp only [hi',hu,hzv,hm];exact hf
   ·rename_i n e hu
    obtain ⟨ie,hie⟩:=Option.isSome_iff_exists.1 hb
    simp only [hu,hie] at hf
    simp only [hi',hu,hzv,hie];exact hf
   ·cases hb
  have hrun:=run_build (P:=C.P) w T #[(0,vp),(1,vy)] cs2 (by simpa using hbuilt)
  have g3:(Z2 k kraw).C w (hid C O) (x,vy) cs2.toList:=g2
  obtain ⟨c1,d1,e1,hc1,hd1⟩:=g3
  refine ⟨.agg cs2,?_,cs2.toList,⟨c1,d1,e1,hc1,vy,hd1.1,hd1.2,hy⟩,rfl⟩
  have e: #[(0,p),(1,Operand.tmp t)].map (fun (q:Nat×Operand)=>(q.1,a.eval q.2))= #[(0,vp),(1,vy)]:=by simp [hep,het]
  simp only [execOp,ho,e,Sem.run_bind,hrun,Result.andThen_ok,Sem.run_pure]
end Go.Wb
namespace Go.Wb
open Go
section star
variable {C : Ctx} {S S' : St} {o : Oper} {α β γ : Type}
end star
section more
variable {C : Ctx} {S S' : St} {o : Oper} {α β γ : Type}
theorem vkp {x:Operand}{k:Kd α}{kf:Kd β}{g:Nat}{L:Lens k kf}(h:Val C S x (Za g L)):Val C S x (rd (kas (Za g L)) ()):=fun O a w hh=>
 ⟨[a.eval x],⟨_,rfl,by rw [Z5x (h.of hh)];rfl,h.of hh⟩,rfl⟩
theorem Hold.told {a:Act}{w:World}{i:Nat}(R:Res)(hr:S.r i=R)(hh:Hold C S a w):Hold C (S.setr i R) a w:=by
 obtain ⟨O,hh⟩:=hh
 refine ⟨O,{hh with res:=fun q=>?_}⟩
 simp only [St.setr]
 by_cases e:q=i
 ·subst e;rw [Z02,←hr];exact hh.res q
 ·rw [Z00 _ _ e];exact hh.res q
theorem AW.told {Q:Exit→St→Prop}{x:Code}(i:Nat)(R:Res)(hr:S.r i=R)(h:AW C x Q (S.setr i R)):AW C x Q S:=fun a w hh=>h a w (hh.told R hr)
theorem AOps.told {ops:Array Oper}{Q:Exit→St→Prop}{x:List Oper}(i:Nat)(R:Res)(hr:S.r i=R)(h:AOps C ops Q x (S.setr i R)):AOps C ops Q x S:=fun a w hh=>h a w (hh.told R hr)
theorem Zgc {fn:Func}{r r' r'':ResultVar}{A B D:Zb}{R:Res}(i:Nat)(hf:fn.results= #[r,r',r''])(hd:S.d=[])(h:Out C S r A)(h':Out C S r' B)(h'':Out C S r'' D)(hr:S.r i=R):RetOK C fn S (fun _:Unit=>Z3j A B D) (fun _=>R):=
 ⟨hd,fun O a w hh=>by
  obtain ⟨v,h1,h2⟩:=h O a w hh
  obtain ⟨u,h3,h4⟩:=h' O a w hh
  obtain ⟨z,h5,h6⟩:=h'' O a w hh
  have hX:∀b,(fun b=>O b=Ro i) b→O b≠0:=fun b hb=>by rw [hb];exact Z0m i
  refine ⟨.tuple #[v,u,z],(),fun b=>O b=Ro i,?_,hX,⟨v,u,z,rfl,Z7d (M:=Zl) (M':=Zl) A h2 _ hX,Z7d (M:=Zl) (M':=Zl) B h4 _ hX,Z7d (M:=Zl) (M':=Zl) D h6 _ hX⟩,Zwt hh hr⟩
  have e:results fn a.tmps=(do let vs ←fn.results.mapM (Z6v a.tmps);pure (if h:vs.size=1 then vs[0] else .tuple vs)):=rfl
  rw [e,hf]
  simp [h1,h3,h5]⟩
end more
end Go.Wb
namespace Go.Wb
open Go
section boxs
variable {C : Ctx} {S S' : St} {o : Oper} {α β γ : Type}
theorem Ymg {T T' E:TypeId}{g i:Nat}{kO:Kd β}{kf:Kd γ}{L:Lens kO kf}{c:Value→β}{y:γ}{k:Kd α}{l:List α}{p:Operand}(ho:o.op= .load T p)(hd:Zq o C.N=true)(ht:Ty C.P T kf)(hp:Val C S p (Za g L))(hr:S.r i=Z1c g T' kO c E k l)(hy:∀v,L.get (c v)=y):
  OpE C o S (S.put o.dst (rd kf y)):=
 OpE.plain (by simp [ho]) hd fun O a w hh=>by
  have h1:=Z5x (hp.of hh)
  have h2:=hh.res i
  rw [hr] at h2
  obtain ⟨v,hm,⟨cs,hg,hc⟩,_,_⟩:=h2
  have h3:=L.okget hc
  have hat:At w g L.off ((cs.drop L.off).take kf.sz):=At.row hg (by rw [kf.len h3])
  rw [hy v] at h3
  exact ⟨_,by simp [execOp,ho,h1,Instr.loadAt,Instr.sureAddr,Zc0 ht h3 hat],_,h3,rfl⟩
theorem Zyg {f:FuncId}{xs:List Operand}{ts:Array TypeId}{As:List Zb}{R:Res}{B:Zb}{R':Res}(i:Nat)(hc:Con C.P f As R (fun _:Unit=>B) (fun _=>R'))(he:Ent C.P f)(ho:o.op= .call {callee:= .value (.func f),args:=xs.toArray,argTypes:=ts})(hd:Zq o C.N=true)(hv:Vals C S xs As)
  (hr:S.r i=R):OpE C o S ((S.put o.dst B).setr i R'):=fun a w hh=>by
 have h:=Z0y i hc he ho hd hv hr a w hh
 refine ⟨h.1,Oper.uponIn_mono (fun a' w' ⟨S',⟨_,h1⟩,h2⟩=>⟨S',h1,h2⟩) (fun _ _ _ h=>h.elim) _ h.2⟩
variable {ops : Array Oper}
end boxs
class PureK {α:Type} (k:Kd α):Prop where
 pure:∀{w H w' H' x cs},k.C w H x cs→k.C w' H' x cs
instance (ik:IntKind):PureK (Z0 ik):=⟨fun h=>h⟩
instance:PureK Zx:=⟨fun h=>h⟩
instance:PureK Z3:=⟨fun h=>h⟩
instance:PureK Z68:=⟨fun h=>h⟩
instance:PureK Ycl:=⟨fun h=>h⟩
instance {α β:Type}(k:Kd α)(m:Kd β)[PureK k][PureK m]:PureK (Z2 k m):=⟨fun ⟨c1,c2,e,h1,h2⟩=>⟨c1,c2,e,PureK.pure h1,PureK.pure h2⟩⟩
instance {α β:Type}(k:Kd β)(f:α→β)(s:TypeId→Bool)[PureK k]:PureK (Z0k k f s):=⟨fun h=>PureK.pure (k:=k) h⟩
theorem Cells.pure {α:Type}{k:Kd α}[PureK k]{w w':World}{H H':HS}:∀{l:List α} {cs:List Value},Cells k w H l cs→Cells k w' H' l cs
 | [],_,h=>h
 | _::_,_,⟨c1,c2,e,h1,h2⟩=>⟨c1,c2,e,PureK.pure h1,Cells.pure h2⟩
instance {α:Type}(n:Nat)(k:Kd α)[PureK k]:PureK (Z4 n k):=⟨fun h=>Cells.pure h⟩
instance (priority:=low){α:Type}(k:Kd α)(x:α)[PureK k]:Flat (rd k x):=⟨fun ⟨cs,h,e⟩=>⟨cs,PureK.pure h,e⟩⟩
instance (A B D:Zb)[Flat A][Flat B][Flat D]:Flat (Z3j A B D):=⟨fun ⟨x,y,z,e,h1,h2,h3⟩=>⟨x,y,z,e,Flat.flat h1,Flat.flat h2,Flat.flat h3⟩⟩
end Go.Wb
namespace Go.Wb
open Go
section short
variable {C : Ctx} {ops : Array Oper} {Q : Exit → St → Prop} {S : St} {o : Oper} {l : List Oper} {α β γ : Type}
theorem Md {t:Nat}{k:Kd α}{x:α}(h:(o.op,Zq o C.N,S.s t,o.guard)=(.move (.tmp t),true,rd k x,none))(hK:AOps C ops Q l (S.put o.dst (rd k x))):AOps C ops Q (o::l) S:=by
 simp only [Prod.mk.injEq] at h
 exact AOps.cons (Zk h.1 h.2.1 (vt h.2.2.1)) h.2.2.2 hK
theorem As {t:Nat}{k:Kd α}{x:α}(h:(o.op,Zq o C.N,S.s t,o.guard)=(.assign (.tmp t),true,rd k x,none))(hK:AOps C ops Q l (S.put o.dst (rd k x))):AOps C ops Q (o::l) S:=by
 simp only [Prod.mk.injEq] at h
 exact AOps.cons (Zn h.1 h.2.1 (vt h.2.2.1)) h.2.2.2 hK
theorem Mp {t g:Nat}{k:Kd α}{kf:Kd β}{L:Lens k kf}(h:(o.op,Zq o C.N,S.s t,o.guard)=(.move (.tmp t),true,Za g L,none))(hK:AOps C ops Q l (S.put o.dst (Za g L))):AOps C ops Q (o::l) S:=by
 simp only [Prod.mk.injEq] at h
 exact AOps.cons (Zk h.1 h.2.1 (vt h.2.2.1)) h.2.2.2 hK
theorem Mw {t:Nat}{v:Value}(h:(o.op,Zq o C.N,S.s t,o.guard)=(.move (.tmp t),true,Zg v,none))(hK:AOps C ops Q l (S.put o.dst (Zg v))):AOps C ops Q (o::l) S:=by
 simp only [Prod.mk.injEq] at h
 exact AOps.cons (Zk h.1 h.2.1 (vt h.2.2.1)) h.2.2.2 hK
theorem Aw {t:Nat}{v:Value}(h:(o.op,Zq o C.N,S.s t,o.guard)=(.assign (.tmp t),true,Zg v,none))(hK:AOps C ops Q l (S.put o.dst (Zg v))):AOps C ops Q (o::l) S:=by
 simp only [Prod.mk.injEq] at h
 exact AOps.cons (Zn h.1 h.2.1 (vt h.2.2.1)) h.2.2.2 hK
theorem Mk {ik:IntKind}{n:Int}(h:(o.op,Zq o C.N,o.guard,hasB ik n)=(.move (.const (.int ik n)),true,none,true))(hK:AOps C ops Q l (S.put o.dst (rd (Z0 ik) n))):AOps C ops Q (o::l) S:=by
 simp only [Prod.mk.injEq] at h
 exact AOps.cons (Zk h.1 h.2.1 (vk h.2.2.2)) h.2.2.1 hK
theorem Mt2 {t:Nat}{α':Type}{k:Kd α}{k':Kd α'}{x:α}{y:α'}(h:(o.op,Zq o C.N,S.s t,o.guard)=(.move (.tmp t),true,Z0t (rd k x) (rd k' y),none))(hK:AOps C ops Q l (S.put o.dst (Z0t (rd k x) (rd k' y)))):AOps C ops Q (o::l) S:=by
 simp only [Prod.mk.injEq] at h
 exact AOps.cons (Zk h.1 h.2.1 (vt h.2.2.1)) h.2.2.2 hK
theorem Mr {t:Nat}{k:Kd α}{x:α}(h:(o.op,Zq o C.N,S.s t,o.guard)=(.move (.tmp t),true,rp k x,none))(hK:AOps C ops Q l (S.put o.dst (rp k x))):AOps C ops Q (o::l) S:=by
 simp only [Prod.mk.injEq] at h
 exact AOps.cons (Zk h.1 h.2.1 (vt h.2.2.1)) h.2.2.2 hK
theorem Ak {ik:IntKind}{n:Int}(h:(o.op,Zq o C.N,o.guard,hasB ik n)=(.assign (.const (.int ik n)),true,none,true))(hK:AOps C ops Q l (S.put o.dst (rd (Z0 ik) n))):AOps C ops Q (o::l) S:=by
 simp only [Prod.mk.injEq] at h
 exact AOps.cons (Zn h.1 h.2.1 (vk h.2.2.2)) h.2.2.1 hK
theorem Ab {b:Bool}(h:(o.op,Zq o C.N,o.guard)=(.assign (.const (.bool b)),true,none))(hK:AOps C ops Q l (S.put o.dst (rd Z3 b))):AOps C ops Q (o::l) S:=by
 simp only [Prod.mk.injEq] at h
 exact AOps.cons (Zn h.1 h.2.1 vb) h.2.2 hK
theorem Ld {T T':TypeId}{t g:Nat}{k:Kd α}{kf:Kd β}{L:Lens k kf}{x:α}(ht:Ty C.P T kf)(i:Nat)(h:(o.op,Zq o C.N,S.s t,S.r i,o.guard)=(.load T (.tmp t),true,Za g L,Zd g T' k x,none))(hK:AOps C ops Q l (S.put o.dst (rd kf (L.get x)))):AOps C ops Q (o::l) S:=by
 simp only [Prod.mk.injEq] at h
 exact AOps.cons (Z08 h.1 h.2.1 ht (vt h.2.2.1) h.2.2.2.1) h.2.2.2.2 hK
theorem Lp1 {T:TypeId}{t:Nat}{k:Kd α}{x:α}(ht:Ty C.P T k)(h:(o.op,Zq o C.N,S.s t,o.guard)=(.load T (.tmp t),true,rp k x,none))(hK:AOps C ops Q l (S.put o.dst (rd k x))):AOps C ops Q (o::l) S:=by
 simp only [Prod.mk.injEq] at h
 exact AOps.cons (Z4i h.1 h.2.1 ht (vt h.2.2.1)) h.2.2.2 hK
theorem Ze {T T':TypeId}{t u g:Nat}{k:Kd α}{kf:Kd β}{L:Lens k kf}{x:α}{y:β}(ht:Ty C.P T kf)(i:Nat)(h:(o.op,o.dst,S.s t,S.r i,S.s u,o.guard)=(.store T (.tmp t) (.tmp u),none,Za g L,Zd g T' k x,rd kf y,none))(hK:AOps C ops Q l (S.setr i (Zd g T' k (L.set x y)))):AOps C ops Q (o::l) S:=by
 simp only [Prod.mk.injEq] at h
 exact AOps.cons (Z3s h.1 h.2.1 ht (vt h.2.2.1) h.2.2.2.1 (vt h.2.2.2.2.1)) h.2.2.2.2.2 hK
theorem Zf {T:TypeId}{n t g:Nat}{k:Kd α}{kf:Kd β}{kg:Kd γ}{L:Lens k kf}(M:Lens kf kg)(hf:Fl C.P T n M)(h:(o.op,Zq o C.N,S.s t,o.guard)=(.fieldAddr T (.tmp t) n,true,Za g L,none))(hK:AOps C ops Q l (S.put o.dst (Za g (L.comp M)))):AOps C ops Q (o::l) S:=by
 simp only [Prod.mk.injEq] at h
 exact AOps.cons (Z0i M h.1 h.2.1 hf (vt h.2.2.1)) h.2.2.2 hK
theorem Fp {T:TypeId}{n t:Nat}{kf:Kd β}{kg:Kd γ}{x:β}(M:Lens kf kg)(hf:Fl C.P T n M)(h:(o.op,Zq o C.N,S.s t,o.guard)=(.fieldAddr T (.tmp t) n,true,rp kf x,none))(hK:AOps C ops Q l (S.put o.dst (rp kg (M.get x)))):AOps C ops Q (o::l) S:=by
 simp only [Prod.mk.injEq] at h
 exact AOps.cons (Z4n M h.1 h.2.1 hf (vt h.2.2.1)) h.2.2.2 hK
theorem Nc {t g:Nat}{k:Kd α}{kf:Kd β}{L:Lens k kf}(h:(o.op,Zq o C.N,S.s t,o.guard)=(.nilCheck (.tmp t),true,Za g L,none))(hK:AOps C ops Q l (S.put o.dst (Za g L))):AOps C ops Q (o::l) S:=by
 simp only [Prod.mk.injEq] at h
 exact AOps.cons (Zv8 h.1 h.2.1 (vt h.2.2.1)) h.2.2.2 hK
class AllDup (As:List Zb):Prop where
 vals:∀{C:Ctx} {S:St} (us:List Nat),us.map S.s=As→Vals C S (us.map .tmp) As
instance:AllDup []:=⟨fun us h=>by cases us with | nil=>trivial | cons u us=>cases h⟩
instance {A:Zb}{As:List Zb}[Dup A][AllDup As]:AllDup (A::As):=⟨fun us h=>by
 cases us with
 | nil=>cases h
 | cons u us=>
  have h1:=List.cons.inj h
  exact ⟨vt h1.1,AllDup.vals us h1.2⟩⟩
theorem Cl {f:FuncId}{ts:Array TypeId}{As:List Zb}{B:Zb}[AllDup As](us:List Nat)(hc:PCon C.P f As B)(he:Ent C.P f)(h:(o.op,Zq o C.N,o.guard,us.map S.s)=(.call {callee:= .value (.func f),args:=(us.map Operand.tmp).toArray,argTypes:=ts},true,none,As))(hK:AOps C ops Q l (S.put o.dst B)):AOps C ops Q (o::l) S:=by
 simp only [Prod.mk.injEq] at h
 exact AOps.cons (Zz hc he h.1 h.2.1 (AllDup.vals us h.2.2.2)) h.2.2.1 hK
theorem Gd {A:Zb}{j gt:Nat}{b want:Bool}(h0:(o.guard,(ops[j]?).bind (·.dst),Nat.blt gt C.N,S.s gt,Zq o C.N)=(some (j,want),some gt,true,rd Z3 b,true))(h:(b==want)=true→OpE C o S (S.put o.dst A))(hK:AOps C ops Q l (S.put o.dst (gd (b==want) A))):AOps C ops Q (o::l) S:=by
 simp only [Prod.mk.injEq] at h0
 exact AOps.consG (OpG.guard h0.1 h0.2.1 h0.2.2.1 h0.2.2.2.1 h0.2.2.2.2 h) hK
theorem Ac {S':St}(h:OpE C o S S')(hg:o.guard=none)(hK:AOps C ops Q l S'):AOps C ops Q (o::l) S:=AOps.cons h hg hK
theorem Nl (h:Q .normal S):AOps C ops Q [] S:=AOps.nil h
theorem Ct {K:St→Prop}(hg:o.guard=none)(h:OpT C o S K)(hK:∀S',K S'→AOps C ops Q l S'):AOps C ops Q (o::l) S:=AOps.consT hg h hK
theorem Rg {id:Nat}(h:AOps C ops Q ops.toList S):AW C (.region id ops false) Q S:=AW.region h
theorem Cn {t:Nat}{b:Bool}{x y:Code}(hc:S.s t=rd Z3 b)(ht:b=true→AW C x Q S)(hf:b=false→AW C y Q S):AW C (.cond (.tmp t) x y) Q S:=AW.cond (vt hc) ht hf
theorem si {τ:Type _}{a b:τ}(h:some a=some b):a=b:=Option.some.inj h
theorem SR {x:Code}{id:Nat}(h:AOps C ops (Z7k (AW C x Q) Q) ops.toList S):AW C (.seq (.region id ops false) x) Q S:=AW.seq (AW.region h)
theorem vh {S':St}{rs:List Nat}{A:Zb}[Dup A](hs:∀t,rs.contains t=true→S'.s t=S.s t)(t:Nat)(h:rs.contains t=true)(h2:S.s t=A):Val C S' (.tmp t) A:=vt ((hs t h).trans h2)
end short
section shortS
variable {C : Ctx} {ops : Array Oper} {Q : St → Prop} {S : St} {o : Oper} {l : List Oper} {α β γ : Type} {m : Mt} {ms : List Mt}
def Stp.hasB (p:Stp)(m:Mt):Bool:=List.beq p.rs m.rs&&List.beq (p.us.map (·.1)) m.us&&List.beq p.rr m.rr&&List.beq (p.ur.map (·.1)) m.ur
theorem c1 (t:Nat):[t].contains t=true:=by simp
theorem SMd {t d:Nat}{k:Kd α}{x:α}(h:(o.op,Zq o C.N,S.s t,o.guard,o.dst,m)=(.move (.tmp t),true,rd k x,none,some d,⟨[t],[d],[],[]⟩))(hK:SeqA C ops Q ms l (S.ap ⟨[t],[],[(d,rd k x)],[]⟩)):SeqA C ops Q (m::ms) (o::l) S:=by
 simp only [Prod.mk.injEq] at h
 exact SeqA.cons (loc [t] [] h.2.2.2.1 h.2.2.2.2.1 fun S' hs hr=>Zk h.1 h.2.1 (vh hs t (c1 t) h.2.2.1)) (by rw [h.2.2.2.2.2];exact ⟨rfl,rfl,rfl,rfl⟩) hK
theorem SMp {t d g:Nat}{k:Kd α}{kf:Kd β}{L:Lens k kf}(h:(o.op,Zq o C.N,S.s t,o.guard,o.dst,m)=(.move (.tmp t),true,Za g L,none,some d,⟨[t],[d],[],[]⟩))(hK:SeqA C ops Q ms l (S.ap ⟨[t],[],[(d,Za g L)],[]⟩)):SeqA C ops Q (m::ms) (o::l) S:=by
 simp only [Prod.mk.injEq] at h
 exact SeqA.cons (loc [t] [] h.2.2.2.1 h.2.2.2.2.1 fun S' hs hr=>Zk h.1 h.2.1 (vh hs t (c1 t) h.2.2.1)) (by rw [h.2.2.2.2.2];exact ⟨rfl,rfl,rfl,rfl⟩) hK
theorem SAs {t d:Nat}{k:Kd α}{x:α}(h:(o.op,Zq o C.N,S.s t,o.guard,o.dst,m)=(.assign (.tmp t),true,rd k x,none,some d,⟨[t],[d],[],[]⟩))(hK:SeqA C ops Q ms l (S.ap ⟨[t],[],[(d,rd k x)],[]⟩)):SeqA C ops Q (m::ms) (o::l) S:=by
 simp only [Prod.mk.injEq] at h
 exact SeqA.cons (loc [t] [] h.2.2.2.1 h.2.2.2.2.1 fun S' hs hr=>Zn h.1 h.2.1 (vh hs t (c1 t) h.2.2.1)) (by rw [h.2.2.2.2.2];exact ⟨rfl,rfl,rfl,rfl⟩) hK
theorem SMw {t d:Nat}{v:Value}(h:(o.op,Zq o C.N,S.s t,o.guard,o.dst,m)=(.move (.tmp t),true,Zg v,none,some d,⟨[t],[d],[],[]⟩))(hK:SeqA C ops Q ms l (S.ap ⟨[t],[],[(d,Zg v)],[]⟩)):SeqA C ops Q (m::ms) (o::l) S:=by
 simp only [Prod.mk.injEq] at h
 exact SeqA.cons (loc [t] [] h.2.2.2.1 h.2.2.2.2.1 fun S' hs hr=>Zk h.1 h.2.1 (vh hs t (c1 t) h.2.2.1)) (by rw [h.2.2.2.2.2];exact ⟨rfl,rfl,rfl,rfl⟩) hK
theorem lo {d:Nat}{A:Zb}(rs rr:List Nat)(hg:(o.guard,o.dst)=(none,some d))
  (h:∀S':St,(∀t,rs.contains t=true→S'.s t=S.s t)→(∀i,rr.contains i=true→S'.r i=S.r i)→OpE C o S' (S'.put o.dst A)):Loc C ops o S ⟨rs,rr,[(d,A)],[]⟩:=by
 simp only [Prod.mk.injEq] at hg
 exact loc rs rr hg.1 hg.2 h
theorem lg {d j gt:Nat}{A:Zb}{b want:Bool}(rs rr:List Nat)(h0:(o.guard,(ops[j]?).bind (·.dst),Nat.blt gt C.N,rs.contains gt,S.s gt,o.dst,Zq o C.N)=(some (j,want),some gt,true,true,rd Z3 b,some d,true))
  (h:(b==want)=true→∀S':St,(∀t,rs.contains t=true→S'.s t=S.s t)→(∀i,rr.contains i=true→S'.r i=S.r i)→OpE C o S' (S'.put o.dst A)):Loc C ops o S ⟨rs,rr,[(d,gd (b==want) A)],[]⟩:=by
 simp only [Prod.mk.injEq] at h0
 exact Ydj rs rr h0.1 h0.2.1 h0.2.2.1 h0.2.2.2.1 h0.2.2.2.2.1 h0.2.2.2.2.2.1 h0.2.2.2.2.2.2 h
theorem SNc {t d g:Nat}{k:Kd α}{kf:Kd β}{L:Lens k kf}(h:(o.op,Zq o C.N,S.s t,o.guard,o.dst,m)=(.nilCheck (.tmp t),true,Za g L,none,some d,⟨[t],[d],[],[]⟩))(hK:SeqA C ops Q ms l (S.ap ⟨[t],[],[(d,Za g L)],[]⟩)):SeqA C ops Q (m::ms) (o::l) S:=by
 simp only [Prod.mk.injEq] at h
 exact SeqA.cons (loc [t] [] h.2.2.2.1 h.2.2.2.2.1 fun S' hs hr=>Zv8 h.1 h.2.1 (vh hs t (c1 t) h.2.2.1)) (by rw [h.2.2.2.2.2];exact ⟨rfl,rfl,rfl,rfl⟩) hK
theorem SFd {T:TypeId}{n t d g:Nat}{k:Kd α}{kf:Kd β}{kg:Kd γ}{L:Lens k kf}(M:Lens kf kg)(hf:Fl C.P T n M)(h:(o.op,Zq o C.N,S.s t,o.guard,o.dst,m)=(.fieldAddr T (.tmp t) n,true,Za g L,none,some d,⟨[t],[d],[],[]⟩))(hK:SeqA C ops Q ms l (S.ap ⟨[t],[],[(d,Za g (L.comp M))],[]⟩)):SeqA C ops Q (m::ms) (o::l) S:=by
 simp only [Prod.mk.injEq] at h
 exact SeqA.cons (loc [t] [] h.2.2.2.1 h.2.2.2.2.1 fun S' hs hr=>Z0i M h.1 h.2.1 hf (vh hs t (c1 t) h.2.2.1)) (by rw [h.2.2.2.2.2];exact ⟨rfl,rfl,rfl,rfl⟩) hK
theorem SFp {T:TypeId}{n t d:Nat}{kf:Kd β}{kg:Kd γ}{x:β}(M:Lens kf kg)(hf:Fl C.P T n M)(h:(o.op,Zq o C.N,S.s t,o.guard,o.dst,m)=(.fieldAddr T (.tmp t) n,true,rp kf x,none,some d,⟨[t],[d],[],[]⟩))(hK:SeqA C ops Q ms l (S.ap ⟨[t],[],[(d,rp kg (M.get x))],[]⟩)):SeqA C ops Q (m::ms) (o::l) S:=by
 simp only [Prod.mk.injEq] at h
 exact SeqA.cons (loc [t] [] h.2.2.2.1 h.2.2.2.2.1 fun S' hs hr=>Z4n M h.1 h.2.1 hf (vh hs t (c1 t) h.2.2.1)) (by rw [h.2.2.2.2.2];exact ⟨rfl,rfl,rfl,rfl⟩) hK
theorem SLp {T:TypeId}{t d:Nat}{k:Kd α}{x:α}(ht:Ty C.P T k)(h:(o.op,Zq o C.N,S.s t,o.guard,o.dst,m)=(.load T (.tmp t),true,rp k x,none,some d,⟨[t],[d],[],[]⟩))(hK:SeqA C ops Q ms l (S.ap ⟨[t],[],[(d,rd k x)],[]⟩)):SeqA C ops Q (m::ms) (o::l) S:=by
 simp only [Prod.mk.injEq] at h
 exact SeqA.cons (loc [t] [] h.2.2.2.1 h.2.2.2.2.1 fun S' hs hr=>Z4i h.1 h.2.1 ht (vh hs t (c1 t) h.2.2.1)) (by rw [h.2.2.2.2.2];exact ⟨rfl,rfl,rfl,rfl⟩) hK
theorem Zu {T T':TypeId}{t d g:Nat}{k:Kd α}{kf:Kd β}{L:Lens k kf}{x:α}(ht:Ty C.P T kf)(i:Nat)(h:(o.op,Zq o C.N,S.s t,S.r i,o.guard,o.dst,m)=(.load T (.tmp t),true,Za g L,Zd g T' k x,none,some d,⟨[t],[d],[i],[]⟩))(hK:SeqA C ops Q ms l (S.ap ⟨[t],[i],[(d,rd kf (L.get x))],[]⟩)):SeqA C ops Q (m::ms) (o::l) S:=by
 simp only [Prod.mk.injEq] at h
 exact SeqA.cons (loc [t] [i] h.2.2.2.2.1 h.2.2.2.2.2.1 fun S' hs hr=>Z08 h.1 h.2.1 ht (vh hs t (c1 t) h.2.2.1) ((hr i (c1 i)).trans h.2.2.2.1)) (by rw [h.2.2.2.2.2.2];exact ⟨rfl,rfl,rfl,rfl⟩) hK
theorem SSt {T T':TypeId}{t u g:Nat}{k:Kd α}{kf:Kd β}{L:Lens k kf}{x:α}{y:β}(ht:Ty C.P T kf)(i:Nat)(h:(o.op,o.dst,S.s t,S.r i,S.s u,o.guard,m)=(.store T (.tmp t) (.tmp u),none,Za g L,Zd g T' k x,rd kf y,none,⟨[t,u],[],[i],[i]⟩))(hK:SeqA C ops Q ms l (S.ap ⟨[t,u],[i],[],[(i,Zd g T' k (L.set x y))]⟩)):SeqA C ops Q (m::ms) (o::l) S:=by
 simp only [Prod.mk.injEq] at h
 exact SeqA.cons (Z3d [t,u] [i] h.2.2.2.2.2.1 fun S' hs hr=>Z3s h.1 h.2.1 ht (vh hs t (by simp) h.2.2.1) ((hr i (c1 i)).trans h.2.2.2.1) (vh hs u (by simp) h.2.2.2.2.1)) (by rw [h.2.2.2.2.2.2];exact ⟨rfl,rfl,rfl,rfl⟩) hK
theorem SCl {f:FuncId}{ts:Array TypeId}{As:List Zb}{B:Zb}[AllDup As]{d:Nat}(us:List Nat)(hc:PCon C.P f As B)(he:Ent C.P f)(h:(o.op,Zq o C.N,o.guard,us.map S.s,o.dst,m)=(.call {callee:= .value (.func f),args:=(us.map Operand.tmp).toArray,argTypes:=ts},true,none,As,some d,⟨us,[d],[],[]⟩))(hK:SeqA C ops Q ms l (S.ap ⟨us,[],[(d,B)],[]⟩)):SeqA C ops Q (m::ms) (o::l) S:=by
 simp only [Prod.mk.injEq] at h
 exact SeqA.cons (loc us [] h.2.2.1 h.2.2.2.2.1 fun S' hs hr=>Zz hc he h.1 h.2.1 (AllDup.vals us (by
  rw [←h.2.2.2.1]
  exact List.map_congr_left fun t ht=>hs t (by simpa using ht)))) (by rw [h.2.2.2.2.2];exact ⟨rfl,rfl,rfl,rfl⟩) hK
end shortS
end Go.Wb
namespace Go.Wb
open Go
section more
variable {C : Ctx} {S S' : St} {o : Oper} {α : Type}
theorem Yk6 {O:Nat→Nat}{a:Act}{w:World}{t i:Nat}{v:Value}{E:TypeId}{k:Kd α}{l:List α}(hs:S.s t=Zg v)(hr:S.r i=Zi v E k l)(hh:HoldO C S O a w):Hold C ((S.set t (Z1y E k l)).setr i emp) a w:=by
 let O':Nat→Nat:=fun b=>if O b=Ro i then So t else if O b=So t then 0 else O b
 have hO1:∀b,O b=Ro i→O' b=So t:=fun b h=>if_pos h
 have hO2:∀b q,O b=q→q≠Ro i→q≠So t→O' b=q:=fun b q h h1 h2=>by
  show (if O b=Ro i then So t else if O b=So t then 0 else O b)=q
  rw [if_neg (by rw [h];exact h1),if_neg (by rw [h];exact h2),h]
 have hO3:∀b,O' b≠0→O b≠0:=fun b h h0=>h (hO2 b 0 h0 (fun e=>Z0m i e.symm) (fun e=>Z6d t e.symm))
 have hx:∀M M':HS,(∀b,M b→M' b)→Ext w (fun b=>C.H0 b∨O b≠0) M w (fun b=>C.H0 b∨O' b≠0) M':=fun M M' hm=>⟨Nat.le_refl _,fun b _ hn=>⟨fun h=>hn (h.imp id (hO3 b)),rfl⟩,fun b _ hb=>⟨hm b hb,rfl⟩⟩
 refine ⟨O',⟨hh.h0,hh.os,hh.tape,hh.output,hh.size,hh.old,fun b hb=>hh.own b (hO3 b hb),hh.dfr,hh.n,fun s=>?_,fun j=>?_⟩⟩
 ·by_cases e:s=t
  ·subst e
   have h1:=hh.slot s
   rw [hs] at h1
   have h2:=hh.res i
   rw [hr] at h2
   have h1:a.tmps.getD s undef=v:=h1
   simp only [St.set,St.setr,Z02]
   rw [h1]
   exact (Zi v E k l).mono (hx _ _ fun b hb=>hO1 b hb) h2
  ·simp only [St.set,St.setr]
   rw [Z00 _ _ e]
   exact (S.s s).mono (hx _ _ fun b hb=>hO2 b _ hb (Z1g s i) fun h=>e (Z8a h)) (hh.slot s)
 ·by_cases e:j=i
  ·subst e
   simp only [St.setr,Z02]
   trivial
  ·simp only [St.setr]
   rw [Z00 _ _ e]
   exact (S.r j).mono (hx _ _ fun b hb=>hO2 b _ hb (fun h=>e (Z26 h)) (fun h=>Z1g t j h.symm)) (hh.res j)
theorem Zye {E:TypeId}{k:Kd α}{l:List α}{i d:Nat}(h:OpT C o S (fun T=> ∃v,T=(S.put o.dst (Zg v)).setr i (Zi v E k l)))(hdst:o.dst=some d)(hri:S.r i=emp):OpE C o S (S.put o.dst (Z1y E k l)):=by
 intro a w hh
 have h1:=h a w hh
 refine ⟨h1.1,Oper.uponIn_mono (fun a' w' hx=>?_) (fun _ _ _ h=>h) _ h1.2⟩
 obtain ⟨T,⟨v,rfl⟩,O',h2⟩:=hx
 refine ⟨_,rfl,?_⟩
 have h3:=Yk6 (t:=d) (i:=i) (v:=v) (E:=E) (k:=k) (l:=l) (by rw [hdst];simp [St.put,St.set,St.setr,Z02]) (by simp [St.setr,Z02]) h2
 refine h3.weak' (S':=S.put o.dst (Z1y E k l)) (by rw [hdst];rfl) (fun u=> .inl ?_) (fun j=> .inl ?_)
 ·rw [hdst]
  simp only [St.put,St.set,St.setr]
  by_cases e:u=d
  ·subst e;rw [Z02,Z02]
  ·rw [Z00 _ _ e,Z00 _ _ e,Z00 _ _ e]
 ·rw [hdst]
  simp only [St.put,St.set,St.setr]
  by_cases e:j=i
  ·subst e;rw [Z02,hri]
  ·rw [Z00 _ _ e,Z00 _ _ e]
theorem Hold.rename {a:Act}{w:World}{i j:Nat}{R:Res}(hij:i≠j)(hr:S.r i=R)(hj:S.r j=emp)(hh:Hold C S a w):Hold C ((S.setr i emp).setr j R) a w:=by
 obtain ⟨O,hh⟩:=hh
 let O':Nat→Nat:=fun b=>if O b=Ro i then Ro j else if O b=Ro j then 0 else O b
 have hO1:∀b,O b=Ro i→O' b=Ro j:=fun b h=>if_pos h
 have hO2:∀b q,O b=q→q≠Ro i→q≠Ro j→O' b=q:=fun b q h h1 h2=>by
  show (if O b=Ro i then Ro j else if O b=Ro j then 0 else O b)=q
  rw [if_neg (by rw [h];exact h1),if_neg (by rw [h];exact h2),h]
 have hO3:∀b,O' b≠0→O b≠0:=fun b h h0=>h (hO2 b 0 h0 (fun e=>Z0m i e.symm) (fun e=>Z0m j e.symm))
 have hx:∀M M':HS,(∀b,M b→M' b)→Ext w (fun b=>C.H0 b∨O b≠0) M w (fun b=>C.H0 b∨O' b≠0) M':=fun M M' hm=>⟨Nat.le_refl _,fun b _ hn=>⟨fun h=>hn (h.imp id (hO3 b)),rfl⟩,fun b _ hb=>⟨hm b hb,rfl⟩⟩
 refine ⟨O',⟨hh.h0,hh.os,hh.tape,hh.output,hh.size,hh.old,fun b hb=>hh.own b (hO3 b hb),hh.dfr,hh.n,fun s=>?_,fun m=>?_⟩⟩
 ·exact (S.s s).mono (hx _ _ fun b hb=>hO2 b _ hb (Z1g s i) (Z1g s j)) (hh.slot s)
 ·simp only [St.setr]
  by_cases e:m=j
  ·subst e
   rw [Z02]
   have h2:=hh.res i
   rw [hr] at h2
   exact R.mono (hx _ _ fun b hb=>hO1 b hb) h2
  ·rw [Z00 _ _ e]
   by_cases e':m=i
   ·subst e'
    rw [Z02];trivial
   ·rw [Z00 _ _ e']
    exact (S.r m).mono (hx _ _ fun b hb=>hO2 b _ hb (fun h=>e' (Z26 h)) (fun h=>e (Z26 h))) (hh.res m)
theorem AW.rename {Q:Exit→St→Prop}{x:Code}(i j:Nat){R:Res}(hij:i≠j)(hr:S.r i=R)(hj:S.r j=emp)(h:AW C x Q ((S.setr i emp).setr j R)):AW C x Q S:=fun a w hh=>h a w (hh.rename hij hr hj)
theorem AOps.rename {ops:Array Oper}{Q:Exit→St→Prop}{x:List Oper}(i j:Nat){R:Res}(hij:i≠j)(hr:S.r i=R)(hj:S.r j=emp)(h:AOps C ops Q x ((S.setr i emp).setr j R)):AOps C ops Q x S:=fun a w hh=>h a w (hh.rename hij hr hj)
theorem Zsb {f:FuncId}{xs:List Operand}{ts:Array TypeId}{As:List Zb}{E:TypeId}{k:Kd α}[PureK k]{l:List α}(i:Nat)[Sh k E](hc:Con C.P f As emp (fun v:Value=>Zg v) (fun v=>Zi v E k l))(he:Ent C.P f)(ho:o.op= .call {callee:= .value (.func f),args:=xs.toArray,argTypes:=ts})(hd:Zq o C.N=true)(hv:ValsB C S i xs As):
  OpE C o S (S.put o.dst (rd (Z1 k) l)):=by
 rintro a w ⟨O,hh⟩
 refine ⟨fun _ _=>trivial,?_⟩
 have hrun:(execOp a.eval o).run C.P w= .ok (.enter f (xs.map a.eval).toArray) w:=by
  simp only [execOp,ho,resolve,Act.eval,Deferred.ofValue,Sem.run_bind,Sem.run_pure,Result.andThen_ok,invoke]
  simpa using he _ w
 rw [Oper.semAt_eq _ _ _ (by simp [ho]),hrun]
 refine ⟨fun h=>by simp [Ctx.fen,Fence.wide] at h,Z8y ?_⟩
 refine (hc w (Zef C O i) Zl _ (hh.amb.mono ⟨Nat.le_refl _,fun b _ hn=>⟨fun h=>hn h.1,rfl⟩,fun _ _ h=>h.elim⟩) (fun b h=>hh.hid_lt b h.1) (fun b hb=>hb.elim) (hv.args hh) trivial).mono ?_
 rintro e w' ⟨v,z,X',rfl,hf,hB,cl,hown,hcl,hm⟩
 obtain rfl:v=z:=hB
 refine ⟨_,rfl,O,hh.yield ⟨hf.os,hf.tape,hf.output,hf.size,fun b hb _=>⟨rfl,hf.same b hb (fun h=>h)⟩,fun b h=> .inl h,fun b h=>Nat.lt_of_lt_of_le (hh.own b h).2 hf.size,fun h=>h⟩ (Z2r hd) (Z4y (Zaf (H':=Zl) hown (Cells.pure hcl) fun b hb hn=>?_))⟩
 have h1:=hh.hid_lt b hn
 rcases (hf.own b (hm b hb)).1 with h2 | h2
 ·exact h2
 ·omega
theorem Y25:∀{L:List (Nat×Zb)},L.map (fun p=>S.s p.1)=L.map (fun p=>p.2)→Zk4 S L
 | [],_=>trivial
 | (t,A)::L,h=>⟨(List.cons.inj h).1,Y25 (List.cons.inj h).2⟩
theorem Zzz:∀{L:List (Nat×Res)},L.map (fun p=>S.r p.1)=L.map (fun p=>p.2)→Z5q S L
 | [],_=>trivial
 | (t,A)::L,h=>⟨(List.cons.inj h).1,Zzz (List.cons.inj h).2⟩
theorem FX {d:List Nat}{L:List (Nat×Zb)}{M:List (Nat×Res)}(h:(S.d,L.map (fun p=>S.s p.1),M.map (fun p=>S.r p.1))=(d,L.map (fun p=>p.2),M.map (fun p=>p.2))):Fit S d L M:=
 ⟨(Prod.mk.inj h).1,Y25 (Prod.mk.inj (Prod.mk.inj h).2).1,Zzz (Prod.mk.inj (Prod.mk.inj h).2).2⟩
end more
end Go.Wb
namespace Go.Wb
open Go
section brief
variable {C : Ctx} {Q : Exit → St → Prop} {S : St} {o : Oper} {ops : Array Oper} {l : List Oper}
def Stp.mt (p:Stp):Mt:=⟨p.rs,p.us.map (fun q=>q.1),p.rr,p.ur.map (fun q=>q.1)⟩
theorem Sd {Q':St→Prop}{ms:List Mt}{p:Stp}(hl:Loc C ops o S p)(h:SeqA C ops Q' ms l (S.ap p)):SeqA C ops Q' (p.mt::ms) (o::l) S:=⟨p,⟨rfl,rfl,rfl,rfl⟩,hl,h⟩
theorem Sn {Q':St→Prop}(h:Q' S):SeqA C ops Q' [] [] S:=h
theorem AR {id:Nat}{tb:List Mt}(hm:C.P.follows .mixedOrders=true)(hB:Zb2 .any ops tb tb 0 (Array.replicate ops.size false)=true)(h:SeqA C ops (fun S'=>Q .normal S') tb ops.toList S):AW C (.region id ops true) Q S:=AW.regionAny tb hm hB h
theorem Cq {α:Type _}{t:Nat}{b:Bool}{x y:Code}{A B r:α}(hc:S.s t=rd Z3 b)(h:(bif b then A else B)=r)(ht:A=r→AW C x Q S)(hf:B=r→AW C y Q S):AW C (.cond (.tmp t) x y) Q S:=
 AW.cond (vt hc) (fun e=>ht (Yfj e h)) (fun e=>hf (Y6m e h))
theorem Cv {ι:Type}{T:ι→St}(hg:o.guard=none)(h:OpT C o S (fun S'=> ∃v,S'=T v))(hK:∀v,AOps C ops Q l (T v)):AOps C ops Q (o::l) S:=
 AOps.consT hg h (by rintro _ ⟨v,rfl⟩;exact hK v)
theorem LG {ν:Type}(I:ν→Prop×Nat×List (Nat×Zb)×List (Nat×Res))(n0:ν){d:List Nat}{c:Code}(h0:(I n0).1)(f0:Fit S d (I n0).2.2.1 (I n0).2.2.2)
  (hr:∀n,(I n).1→AW C c (Z7k (fun S'=> ∃n',(I n').2.1<(I n).2.1∧(I n').1∧Fit S' d (I n').2.2.1 (I n').2.2.2) Q) ⟨Z3c (I n).2.2.1,Z2e (I n).2.2.2,d⟩):AW C (.loop c) Q S:=
 AW.loopG (fun n=>(I n).1) (fun n=>(I n).2.1) (fun n=>(I n).2.2.1) (fun n=>(I n).2.2.2) n0 h0 f0 hr
theorem JN {ν:Type}(I:ν→Prop×List (Nat×Zb)×List (Nat×Res)){d:List Nat}{x y:Code}(hx:AW C x (Z7k (fun S'=> ∃n,(I n).1∧Fit S' d (I n).2.1 (I n).2.2) Q) S)(hy:∀n,(I n).1→AW C y Q ⟨Z3c (I n).2.1,Z2e (I n).2.2,d⟩):AW C (.seq x y) Q S:=
 AW.join (fun n=>(I n).1) (fun n=>(I n).2.1) (fun n=>(I n).2.2) hx hy
theorem I0 {P:Program}{f:FuncId}{fn:Func}{c:Code}{N:Nat}{As:List Zb}{B:Zb}(hf:P.funcs[f]? =some fn)(hb:fn.body=some c)(hN:fn.ntmps=N)(hA:Nat.ble As.length N=true)
  (h:∀w H Z,AW ⟨P,none,N,w,H,Zl,Z⟩ c (Zhy ⟨P,none,N,w,H,Zl,Z⟩ fn (fun _:Unit=>B) (fun _=>emp)) (St.init As emp)):PCon P f As B:=PCon.of (Con.intro0 hf hb hN hA h)
section built
variable {α β : Type}
theorem pc {T:TypeId}{k:Kd α}{kf:Kd β}{L:Lens k kf}{i:Nat}{p:Operand}{ps:List (Nat×Operand)}{z x:α}{y:β}(hf:Z01 C.P T i=some (L.off,kf.sz))(hv:Val C S p (rd kf y))(h:Z6o C S k (Z01 C.P T) ps (L.set z y) x):Z6o C S k (Z01 C.P T) ((i,p)::ps) z x:=⟨_,_,L,y,hf,hv,h⟩
theorem pn {k:Kd α}{pl:Nat→Option (Nat×Nat)}{z x:α}(h:z=x):Z6o C S k pl [] z x:=h
theorem opb {T:TypeId}{k:Kd α}{ps:List (Nat×Operand)}{z:α}(x:α)(hz:Zr C.P T k z)(h:(o.op,Zq o C.N,k.agg)=(.build T ps.toArray,true,true))(hb:Z1d C.P T=true)(hp:Z6o C S k (Z01 C.P T) ps z x):OpE C o S (S.put o.dst (rd k x)):=
 Z23 (Prod.mk.inj h).1 (Prod.mk.inj (Prod.mk.inj h).2).1 (Prod.mk.inj (Prod.mk.inj h).2).2 hb hz hp
theorem osl {T E:TypeId}{k:Kd α}{z y:α}{p:Operand}[Sh k E](ht:Sl C.P T E k)(hz:Zr C.P E k z)(h:(o.op,Zq o C.N,Nat.ble (1*k.sz) 16777216,Nat.blt 0 k.sz)=(.buildSlice T 1 #[(0,p)],true,true,true))(hp:Val C S p (rd k y)):OpE C o S (S.put o.dst (rd (Z1 k) [y])):=by
 have h1:=Prod.mk.inj h
 have h2:=Prod.mk.inj h1.2
 have h3:=Prod.mk.inj h2.2
 exact Z4x (n:=1) (ps:=[(0,p)]) (z:=z) (x:=(Vector.replicate 1 z).set 0 y) h1.1 h2.1 ht hz h3.1 h3.2 ⟨_,k,Lens.idx 1 k 0 (by decide),y,by show some _=some _;simp [Lens.idx],hp,rfl⟩ rfl
end built
theorem LGd {ν:Type}(I:ν→Prop×Nat×List (Nat×Zb)×List (Nat×Res))(dd:ν→List Nat)(n0:ν){c:Code}(h0:(I n0).1)(f0:Fit S (dd n0) (I n0).2.2.1 (I n0).2.2.2)
  (hr:∀n,(I n).1→AW C c (Z7k (fun S'=> ∃n',(I n').2.1<(I n).2.1∧(I n').1∧Fit S' (dd n') (I n').2.2.1 (I n').2.2.2) Q) ⟨Z3c (I n).2.2.1,Z2e (I n).2.2.2,dd n⟩):AW C (.loop c) Q S:=by
 refine AW.loop (fun k S'=> ∃n,(I n).2.1=k∧(I n).1∧Fit S' (dd n) (I n).2.2.1 (I n).2.2.2) ⟨n0,rfl,h0,f0⟩ ?_
 rintro k S' ⟨n,rfl,h1,h2⟩
 refine AW.fit h2 ((hr n h1).mono fun e S' h=>?_)
 cases e with
 | normal=>
  obtain ⟨n',h3,h4,h5⟩:=h
  exact ⟨_,h3,n',rfl,h4,h5⟩
 | _=>exact h
theorem AW.mark0 {x:Code}(j:Nat)(hr:S.r j=emp)(h:AW C x Q (S.setr j (Z2w []))):AW C x Q S:=by
 rintro a w ⟨O,hh⟩
 refine h a w ⟨O,⟨hh.h0,hh.os,hh.tape,hh.output,hh.size,hh.old,hh.own,hh.dfr,hh.n,hh.slot,fun i=>?_⟩⟩
 by_cases e:i=j
 ·subst e
  simp only [St.setr,Z02]
  exact ⟨List.nodup_nil,fun D hD=>by cases hD⟩
 ·simp only [St.setr]
  rw [Z00 _ _ e]
  exact hh.res i
theorem AW.marks {x:Code}(i j:Nat)(hij:i≠j){D:Nat}{ds:List Nat}(hr:S.r i=Dfr D)(hj:S.r j=Z2w ds)(h:AW C x Q ((S.setr i emp).setr j (Z2w (D::ds)))):AW C x Q S:=by
 rintro a w ⟨O,hh⟩
 have h1:=hh.res i
 rw [hr] at h1
 have h2:=hh.res j
 rw [hj] at h2
 obtain ⟨hm,hD⟩:=h1.2 D (by simp)
 have hm:O D=Ro i:=hm
 let O':Nat→Nat:=fun b=>if O b=Ro i then Ro j else O b
 have hO1:∀b,O b=Ro i→O' b=Ro j:=fun b h=>if_pos h
 have hO2:∀b q,O b=q→q≠Ro i→O' b=q:=fun b q h h1=>by
  show (if O b=Ro i then Ro j else O b)=q
  rw [if_neg (by rw [h];exact h1),h]
 have hO3:∀b,O' b≠0→O b≠0:=fun b h h0=>h (hO2 b 0 h0 (fun e=>Z0m i e.symm))
 have hx:∀M M':HS,(∀b,M b→M' b)→Ext w (fun b=>C.H0 b∨O b≠0) M w (fun b=>C.H0 b∨O' b≠0) M':=fun M M' hm=>⟨Nat.le_refl _,fun b _ hn=>⟨fun h=>hn (h.imp id (hO3 b)),rfl⟩,fun b _ hb=>⟨hm b hb,rfl⟩⟩
 refine h a w ⟨O',⟨hh.h0,hh.os,hh.tape,hh.output,hh.size,hh.old,fun b hb=>hh.own b (hO3 b hb),hh.dfr,hh.n,fun s=>?_,fun m=>?_⟩⟩
 ·exact (S.s s).mono (hx _ _ fun b hb=>hO2 b _ hb (Z1g s i)) (hh.slot s)
 ·simp only [St.setr]
  by_cases e:m=j
  ·subst e
   rw [Z02]
   refine ⟨List.nodup_cons.2 ⟨fun hd=>?_,h2.1⟩,fun E hE=>?_⟩
   ·have h3:O D=Ro m:=(h2.2 D hd).1
    exact hij (Z26 (hm.symm.trans h3))
   ·rcases List.mem_cons.1 hE with rfl | hE
    ·exact ⟨hO1 _ hm,hD⟩
    ·exact ⟨hO2 _ _ (h2.2 E hE).1 (fun h=>hij (Z26 h).symm),(h2.2 E hE).2⟩
  ·rw [Z00 _ _ e]
   by_cases e':m=i
   ·subst e'
    rw [Z02];trivial
   ·rw [Z00 _ _ e']
    exact (S.r m).mono (hx _ _ fun b hb=>hO2 b _ hb (fun h=>e' (Z26 h))) (hh.res m)
theorem Zuk {fn:Func}{ζ:Type}{B:ζ→Zb}{R':ζ→Res}(i:Nat):∀(ds:List Nat) (S:St),S.d=ds→S.r i=Z2w ds→RetOK C fn ⟨S.s,upd S.r i (Z2w []),[]⟩ B R'→Zbs C fn B R' ds S
 | [],S,hd,hr,h=>by
  obtain ⟨s,r,d⟩:=S
  simp only at hd hr h
  subst hd
  have e:upd r i (Z2w [])=r:=funext fun t=>by
   by_cases e:t=i
   ·subst e;rw [Z02];exact hr.symm
   ·rw [Z00 _ _ e]
  rw [e] at h
  exact h
 | D::ds,S,hd,hr,h=>⟨hd,i,ds,hr,Zuk i ds ⟨S.s,upd S.r i (Z2w ds),ds⟩ rfl (Z02 ..) (by
  have e:upd (upd S.r i (Z2w ds)) i (Z2w [])=upd S.r i (Z2w []):=funext fun t=>by
   by_cases e:t=i
   ·subst e;rw [Z02,Z02]
   ·rw [Z00 _ _ e,Z00 _ _ e,Z00 _ _ e]
  show RetOK C fn ⟨S.s,upd (upd S.r i (Z2w ds)) i (Z2w []),[]⟩ B R'
  rw [e];exact h)⟩
theorem sq {x y:Code}(h:AW C x (Z7k (AW C y Q) Q) S):AW C (.seq x y) Q S:=AW.seq h
theorem sk (h:Q .normal S):AW C .skip Q S:=AW.skip h
theorem bk {id:Nat}{x:Code}(h:AW C x (Zlx id Q) S):AW C (.block id x) Q S:=AW.block h
theorem xt {id:Nat}(h:Q (.exit id) S):AW C (.exit id) Q S:=AW.exit h
theorem rt (h:Q .ret S):AW C .ret Q S:=AW.ret h
end brief
section binds
variable {α β γ δ ε ζ ρ : Type _}
theorem bs2 {X:Option α}{Y:α→Option β}{K:α→β→Option ρ}{r:ρ}(h:(X.bind fun a=>(Y a).bind fun b=>K a b)=some r):∃a,X=some a∧∃b,Y a=some b∧K a b=some r:=
 let ⟨a,ha,h⟩:=Z6 h;⟨a,ha,Z6 h⟩
theorem bs3 {X:Option α}{Y:α→Option β}{Z:α→β→Option γ}{K:α→β→γ→Option ρ}{r:ρ}(h:(X.bind fun a=>(Y a).bind fun b=>(Z a b).bind fun c=>K a b c)=some r):∃a,X=some a∧∃b,Y a=some b∧∃c,Z a b=some c∧K a b c=some r:=
 let ⟨a,ha,h⟩:=Z6 h;⟨a,ha,bs2 h⟩
theorem bs4 {X:Option α}{Y:α→Option β}{Z:α→β→Option γ}{W:α→β→γ→Option δ}{K:α→β→γ→δ→Option ρ}{r:ρ}(h:(X.bind fun a=>(Y a).bind fun b=>(Z a b).bind fun c=>(W a b c).bind fun d=>K a b c d)=some r):∃a,X=some a∧∃b,Y a=some b∧∃c,Z a b=some c∧∃d,W a b c=some d∧K a b c d=some r:=
 let ⟨a,ha,h⟩:=Z6 h;⟨a,ha,bs3 h⟩
end binds
section contracts
variable {α β γ δ ε ζ η ρ : Type _}
abbrev Q0 (P:Program)(f:FuncId)(R:ρ→Zb)(F:Option ρ):Prop:= ∀r,F=some r→PCon P f [] (R r)
abbrev Q1 (P:Program)(f:FuncId)(A:α→Zb)(R:ρ→Zb)(F:α→Option ρ):Prop:= ∀a r,F a=some r→PCon P f [A a] (R r)
abbrev Q2 (P:Program)(f:FuncId)(A:α→Zb)(B:β→Zb)(R:ρ→Zb)(F:α→β→Option ρ):Prop:= ∀a b r,F a b=some r→PCon P f [A a,B b] (R r)
abbrev Q3 (P:Program)(f:FuncId)(A:α→Zb)(B:β→Zb)(D:γ→Zb)(R:ρ→Zb)(F:α→β→γ→Option ρ):Prop:= ∀a b c r,F a b c=some r→PCon P f [A a,B b,D c] (R r)
abbrev Q4 (P:Program)(f:FuncId)(A:α→Zb)(B:β→Zb)(D:γ→Zb)(E:δ→Zb)(R:ρ→Zb)(F:α→β→γ→δ→Option ρ):Prop:= ∀a b c d r,F a b c d=some r→PCon P f [A a,B b,D c,E d] (R r)
abbrev Q6 (P:Program)(f:FuncId)(A:α→Zb)(B:β→Zb)(D:γ→Zb)(E:δ→Zb)(G:ε→Zb)(J:ζ→Zb)(R:ρ→Zb)(F:α→β→γ→δ→ε→ζ→Option ρ):Prop:= ∀a b c d e z r,F a b c d e z=some r→PCon P f [A a,B b,D c,E d,G e,J z] (R r)
end contracts
end Go.Wb
namespace Go.Wb
open Go
section tail
variable {C : Ctx} {S S' : St} {o : Oper} {α : Type}
def etp (v:Value)(i sz:Nat):Zb:=
 ⟨fun _ _ _ u=> ∃g o n c,v= .slice (some ⟨g,o,none⟩) n c∧u= .pointer (some ⟨g,o+i*sz,none⟩),fun _ h=>h⟩
instance (v:Value)(i sz:Nat):Dup (etp v i sz):=⟨fun h=>h⟩
end tail
end Go.Wb
namespace Go.Wb
open Go
section plain
variable {κ : Type} [DecidableEq κ]
def Z0w:List (κ×Int)→κ→Int
 | [],_=>0
 | p::m,x=>if p.1=x then p.2 else Z0w m x
def Z1i:List (κ×Int)→κ→Int→List (κ×Int)
 | [],x,v=>[(x,v)]
 | p::m,x,v=>if p.1=x then (p.1,v)::m else p::Z1i m x v
def Z52 (m:List (κ×Int))(x:κ):List (κ×Int):=Z1i m x (Z0w m x)
theorem Yew (m:List (κ×Int))(x y:κ)(v:Int):Z0w (Z1i m x v) y=if x=y then v else Z0w m y:=by
 induction m with
 | nil=>simp [Z1i,Z0w]
 | cons p m ih=>
  unfold Z1i
  split
  ·rename_i h;subst h;simp only [Z0w];split<;>rfl
  ·rename_i h
   simp only [Z0w,ih]
   by_cases h1:p.1=y
   ·rw [if_pos h1,if_pos h1,if_neg (fun e=>h (h1.trans e.symm))]
   ·rw [if_neg h1,if_neg h1]
theorem Yca (m:List (κ×Int))(x y:κ)(v:Int):y∈(Z1i m x v).map (·.1)↔y=x∨y∈m.map (·.1):=by
 induction m with
 | nil=>simp [Z1i]
 | cons p m ih=>
  unfold Z1i
  split
  ·rename_i h;subst h;simp
  ·simp only [List.map_cons,List.mem_cons,ih]
   constructor
   ·rintro (h | h | h)
    ·exact .inr (.inl h)
    ·exact .inl h
    ·exact .inr (.inr h)
   ·rintro (h | h | h)
    ·exact .inr (.inl h)
    ·exact .inl h
    ·exact .inr (.inr h)
theorem Zqu {m:List (κ×Int)}(h:(m.map (·.1)).Nodup)(x:κ)(v:Int):((Z1i m x v).map (·.1)).Nodup:=by
 induction m with
 | nil=>simp [Z1i]
 | cons p m ih=>
  rw [List.map_cons,List.nodup_cons] at h
  unfold Z1i
  split
  ·exact List.nodup_cons.2 h
  ·rename_i hn
   rw [List.map_cons,List.nodup_cons]
   refine ⟨fun hm=>?_,ih h.2⟩
   rcases (Yca m x p.1 v).1 hm with e | e
   ·exact hn e
   ·exact h.1 e
theorem Zw5 {m:List (κ×Int)}{x:κ}(h:x∉m.map (·.1)):Z0w m x=0:=by
 induction m with
 | nil=>rfl
 | cons p m ih=>
  simp only [List.map_cons,List.mem_cons,not_or] at h
  rw [Z0w,if_neg (fun e=>h.1 e.symm),ih h.2]
theorem Zrf {m:List (κ×Int)}{x:κ}{v:Int}{j:Nat}(hn:(m.map (·.1)).Nodup)(h:m[j]? =some (x,v)):Z0w m x=v:=by
 induction m generalizing j with
 | nil=>simp at h
 | cons p m ih=>
  rw [List.map_cons,List.nodup_cons] at hn
  cases j with
  | zero=>simp at h;subst h;simp [Z0w]
  | succ j=>
   simp only [List.getElem?_cons_succ] at h
   have hm:x∈m.map (·.1):=List.mem_map.2 ⟨_,List.mem_of_getElem? h,rfl⟩
   rw [Z0w,if_neg (fun (e:p.1=x)=>hn.1 (e▸hm)),ih hn.2 h]
theorem Zrl {m:List (κ×Int)}{x:κ}{v:Int}(h:x∉m.map (·.1)):Z1i m x v=m++[(x,v)]:=by
 induction m with
 | nil=>rfl
 | cons p m ih=>
  simp only [List.map_cons,List.mem_cons,not_or] at h
  rw [Z1i,if_neg (fun e=>h.1 e.symm),ih h.2];rfl
theorem Zmz {m:List (κ×Int)}{x:κ}{v u:Int}{j:Nat}(hn:(m.map (·.1)).Nodup)(h:m[j]? =some (x,v)):Z1i m x u=m.set j (x,u):=by
 induction m generalizing j with
 | nil=>simp at h
 | cons p m ih=>
  rw [List.map_cons,List.nodup_cons] at hn
  cases j with
  | zero=>simp at h;subst h;simp [Z1i]
  | succ j=>
   simp only [List.getElem?_cons_succ] at h
   have hm:x∈m.map (·.1):=List.mem_map.2 ⟨_,List.mem_of_getElem? h,rfl⟩
   rw [Z1i,if_neg (fun (e:p.1=x)=>hn.1 (e▸hm)),ih hn.2 h];rfl
end plain
structure Zmy {κ:Type} (P:Program) (kt:TypeId) (k:Kd κ):Prop where
 law:Go.Maps.Keyed P kt
 reads:∀{w H x cs},k.C w H x cs→∃l,keyOf P kt (mkv k.agg cs)=some l
 inj:∀{w H w' H' x y cs ds},k.C w H x cs→k.C w' H' y ds→(mkv k.agg cs=mkv k.agg ds↔x=y)
 pure:∀{w H w' H' x cs},k.C w H x cs→k.C w' H' x cs
structure MTy {κ:Type} (P:Program) (T kt:TypeId) (k:Kd κ):Prop where
 u:∃e,P.underlying T=some (.map kt e)∧(P.info? e).bind (·.zero)=some (.int .i64 0)
 key:Zmy P kt k
set_option linter.unusedSectionVars false
section maps
variable {κ : Type} [DecidableEq κ]
def EntC (k:Kd κ)(w:World)(H:HS):List (κ×Int)→List MapEntry→Prop
 | [],[]=>True
 | p::m,e::es=>(∃cs,e.key=mkv k.agg cs∧k.C w H p.1 cs)∧e.val= .int .i64 p.2∧IntKind.i64.has p.2∧EntC k w H m es
 | _,_=>False
theorem EntC.mono {k:Kd κ}{w w':World}{H H':HS}(x:Ext w H Zl w' H' Zl):∀{m:List (κ×Int)} {es:List MapEntry},EntC k w H m es→EntC k w' H' m es
 | [],[],h=>h
 | _::_,_::_,⟨⟨cs,h1,h2⟩,h3,h4,h5⟩=>⟨⟨cs,h1,k.mono x h2⟩,h3,h4,h5.mono x⟩
 | [],_::_,h=>h.elim
 | _::_,[],h=>h.elim
theorem EntC.length {k:Kd κ}{w:World}{H:HS}:∀{m:List (κ×Int)} {es:List MapEntry},EntC k w H m es→es.length=m.length
 | [],[],_=>rfl
 | _::_,_::_,h=>by simp [EntC.length h.2.2.2]
 | [],_::_,h=>h.elim
 | _::_,[],h=>h.elim
theorem EntC.get {k:Kd κ}{w:World}{H:HS}:∀{m:List (κ×Int)} {es:List MapEntry} {j:Nat} {e:MapEntry},EntC k w H m es→es[j]? =some e→∃p cs,m[j]? =some p∧e.key=mkv k.agg cs∧k.C w H p.1 cs∧e.val= .int .i64 p.2∧IntKind.i64.has p.2
 | [],[],_,_,_,h=>by simp at h
 | p::m,e::es,0,e',⟨⟨cs,h1,h2⟩,h3,h4,h5⟩,h=>by simp at h;subst h;exact ⟨p,cs,rfl,h1,h2,h3,h4⟩
 | p::m,e::es,j+1,e',⟨_,_,_,h5⟩,h=>by simpa using h5.get (by simpa using h)
 | [],_::_,_,_,h,_=>h.elim
 | _::_,[],_,_,h,_=>h.elim
theorem EntC.set {k:Kd κ}{w:World}{H:HS}{x:κ}{v:Int}{cs:List Value}(hc:k.C w H x cs)(hv:IntKind.i64.has v):∀{m:List (κ×Int)} {es:List MapEntry} {j:Nat} {e:MapEntry},EntC k w H m es→e.key=mkv k.agg cs→e.val= .int .i64 v→EntC k w H (m.set j (x,v)) (es.set j e)
 | [],[],_,_,_,_,_=>trivial
 | p::m,e::es,0,e',⟨_,_,_,h5⟩,h1,h2=>⟨⟨cs,h1,hc⟩,h2,hv,h5⟩
 | p::m,e::es,j+1,e',⟨h3,h4,h4',h5⟩,h1,h2=>⟨h3,h4,h4',EntC.set hc hv h5 h1 h2⟩
 | [],_::_,_,_,h,_,_=>h.elim
 | _::_,[],_,_,h,_,_=>h.elim
theorem EntC.push {k:Kd κ}{w:World}{H:HS}{x:κ}{v:Int}{cs:List Value}(hc:k.C w H x cs)(hv:IntKind.i64.has v){e:MapEntry}(h1:e.key=mkv k.agg cs)(h2:e.val= .int .i64 v):∀{m:List (κ×Int)} {es:List MapEntry},EntC k w H m es→EntC k w H (m++[(x,v)]) (es++[e])
 | [],[],_=>⟨⟨cs,h1,hc⟩,h2,hv,trivial⟩
 | p::m,e::es,⟨h3,h4,h4',h5⟩=>⟨h3,h4,h4',EntC.push hc hv h1 h2 h5⟩
 | [],_::_,h=>h.elim
 | _::_,[],h=>h.elim
def MapAt (k:Kd κ)(w:World)(H:HS)(b:Nat)(m:List (κ×Int))(es:Array MapEntry)(clock:Nat):Prop:=
 w.heap[b]? =some (.map es clock)∧EntC k w H m es.toList∧(∀e∈es.toList,e.born<clock)∧(es.toList.map (·.born)).Nodup∧(m.map (·.1)).Nodup
theorem MapAt.mono {k:Kd κ}{w w':World}{H H':HS}{b:Nat}{m:List (κ×Int)}{es:Array MapEntry}{clock:Nat}(x:Ext w H Zl w' H' Zl)(hb:w'.heap[b]? =w.heap[b]?)(h:MapAt k w H b m es clock):MapAt k w' H' b m es clock:=
 ⟨hb.trans h.1,h.2.1.mono x,h.2.2⟩
def Z2d (b:Nat)(k:Kd κ)(m:List (κ×Int)):Res:=
 ⟨fun w H M=>M b∧∃es clock,MapAt k w H b m es clock,
  fun h ⟨hm,es,clock,ha⟩=>let ⟨a,c⟩:=h.own b (Array.getElem?_eq_some_iff.1 ha.1).1 hm;⟨a,es,clock,ha.mono h.pure_ c⟩⟩
def Zcb (b:Nat)(k:Kd κ)(m:List (κ×Int))(x:κ)(n:Nat):Res:=
 ⟨fun w H M=>M b∧∃es clock,MapAt k w H b (Z52 m x) es clock∧∃(j:Nat) (e:MapEntry),es[j]? =some e∧e.born=n∧(Z52 m x)[j]? =some (x,Z0w m x),
  fun h ⟨hm,es,clock,ha,r⟩=>let ⟨a,c⟩:=h.own b (Array.getElem?_eq_some_iff.1 ha.1).1 hm;⟨a,es,clock,ha.mono h.pure_ c,r⟩⟩
theorem Zs4 {P:Program}{kt:TypeId}{k:Kd κ}(K:Zmy P kt k){w:World}{H:HS}{m:List (κ×Int)}{es:List MapEntry}(h:EntC k w H m es){x:κ}{ds:List Value}(hx:k.C w H x ds):
  ((Instr.findKey kt (mkv k.agg ds) es).run P w= .ok none w∧x∉m.map (·.1))∨∃j e v,(Instr.findKey kt (mkv k.agg ds) es).run P w= .ok (some (j,e.val)) w∧es[j]? =some e∧m[j]? =some (x,v)∧e.key=mkv k.agg ds∧e.val= .int .i64 v∧IntKind.i64.has v:=by
 obtain ⟨l,hl⟩:=K.reads hx
 have hall:∀e∈es,∃l,keyOf P kt e.key=some l:=fun e he=>by
  obtain ⟨j,hj⟩:=List.getElem?_of_mem he
  obtain ⟨p,cs,_,h1,h2,_⟩:=h.get hj
  rw [h1];exact K.reads h2
 rcases K.law.find w hl es hall with ⟨h1,h2⟩ | ⟨j,e,h1,h2,h3⟩
 ·refine .inl ⟨h1,fun hm=>?_⟩
  obtain ⟨p,hp,rfl⟩:=List.mem_map.1 hm
  obtain ⟨j,hj⟩:=List.getElem?_of_mem hp
  have hlt:j<es.length:=by rw [h.length];exact (List.getElem?_eq_some_iff.1 hj).1
  obtain ⟨p',cs,h4,h5,h6,_⟩:=h.get (List.getElem?_eq_getElem hlt)
  rw [hj] at h4
  obtain rfl:=Option.some.inj h4
  exact h2 _ (List.getElem_mem hlt) (h5.trans ((K.inj h6 hx).2 rfl))
 ·obtain ⟨p,cs,h4,h5,h6,h7,h8⟩:=h.get h2
  have:p.1=x:=(K.inj h6 hx).1 (h5.symm.trans h3)
  subst this
  exact .inr ⟨j,e,p.2,h1,h2,h4,h3,h7,h8⟩
theorem Znw {C:Ctx}{S:St}{o:Oper}{T:TypeId}(k:Kd κ)(i:Nat)(ho:o.op= .makeMap T none)(hd:Zq o C.N=true):
  OpT C o S (fun S'=> ∃b,S'=(S.put o.dst (Zg (.map (some b)))).setr i (Z2d b k [])):=
 OpT.value (by simp [ho]) fun O a w hh=>by
  refine ⟨.map (some w.heap.size),w.alloc (.map #[] 0),_,by simp only [execOp,ho,Option.map_none,Sem.run_bind,show (Instr.makeMap T none).run C.P w= .ok (.map (some w.heap.size)) (w.alloc (.map #[] 0)) from rfl];rfl,⟨w.heap.size,rfl⟩,?_⟩
  have go:=Ziv hh (Ro i) (Z0m i) (.map #[] 0)
  refine ⟨_,hh.goes go (Z6i ..) (by cases o.dst<;>rfl) (Z6e ..) (fun t=>?_) (fun j=>?_)⟩
  ·cases hdst:o.dst with
   | none=>exact .inl ⟨rfl,Z1g t i,rfl⟩
   | some d=>
    by_cases e:t=d
    ·subst e
     right
     have hlt:t<a.tmps.size:=hh.n▸Z2r hd t hdst
     rw [Z6c hlt]
     simp only [St.put,St.set,St.setr,Z02]
     rfl
    ·exact .inl ⟨by simp only [St.put,St.set,St.setr];exact Z00 _ _ e,Z1g t i,Z6f e _⟩
  ·by_cases e:j=i
   ·subst e
    right
    simp only [St.setr,Z02]
    exact ⟨if_pos rfl,#[],0,heap_alloc_new w _,trivial,fun _ h=>by simp at h,List.nodup_nil,List.nodup_nil⟩
   ·exact .inl ⟨by simp only [St.setr];rw [Z00 _ _ e];cases o.dst<;>rfl,fun h=>e (Z26 h)⟩
theorem Zxc {P:Program}{e:TypeId}{z:Value}{w:World}(h:(P.info? e).bind (·.zero)=some z):(zeroValue e).run P w= .ok z w:=by
 obtain ⟨i,hi,hz⟩:=Option.bind_eq_some_iff.1 h
 simp [zeroValue,typeInfo,hi,hz]
theorem Y3s {P:Program}{T kt:TypeId}{k:Kd κ}(ht:MTy P T kt k){w:World}{H:HS}{b:Nat}{m:List (κ×Int)}{es:Array MapEntry}{clock:Nat}(ha:MapAt k w H b m es clock){x:κ}{cs:List Value}(hc:k.C w H x cs):
  (Instr.lookup T (.map (some b)) (mkv k.agg cs) false).run P w= .ok (.int .i64 (Z0w m x)) w∧IntKind.i64.has (Z0w m x):=by
 obtain ⟨e,hu,hz⟩:=ht.u
 obtain ⟨l,hl⟩:=ht.key.reads hc
 have hck:=ht.key.law.check w es.isEmpty hl
 rcases Zs4 ht.key ha.2.1 hc with ⟨h1,h2⟩ | ⟨j,en,v,h1,h2,h3,h4,h5,h6⟩
 ·rw [Zw5 h2]
  refine ⟨?_,by decide,by decide⟩
  simp [Instr.lookup,run_underlying hu,getObj,Sem.run,ha.1,hck,h1,Zxc hz,Result.andThen]
 ·rw [Zrf ha.2.2.2.2 h3]
  refine ⟨?_,h6⟩
  simp [Instr.lookup,run_underlying hu,getObj,Sem.run,ha.1,hck,h1,h5,Result.andThen]
theorem Zdt {C:Ctx}{S:St}{o:Oper}{T kt:TypeId}{k:Kd κ}{m:List (κ×Int)}{x:κ}{b i:Nat}{p q:Operand}(ho:o.op= .lookup T p q false)(hd:Zq o C.N=true)(ht:MTy C.P T kt k)(hp:Val C S p (Zg (.map (some b))))(hr:S.r i=Z2d b k m)(hq:Val C S q (rd k x)):
  OpE C o S (S.put o.dst (rd (Z0 .i64) (Z0w m x))):=
 OpE.plain (by simp [ho]) hd fun O a w hh=>by
  have h1:a.eval p= .map (some b):=hp.of hh
  obtain ⟨cs,hc,hv⟩:=hq.of hh
  have h2:=hh.res i
  rw [hr] at h2
  obtain ⟨hm,es,clock,ha⟩:=h2
  obtain ⟨h3,h4⟩:=Y3s ht ha hc
  exact ⟨_,by simp [execOp,ho,h1,hv,h3,Result.andThen],Z35 h4⟩
end maps
end Go.Wb
namespace Go.Wb
open Go
section maps
variable {κ : Type} [DecidableEq κ]
def Z2c (w:World)(b:Nat)(o:Obj):World:={w with heap:=w.heap.setIfInBounds b o}
theorem Zl2 {α:Type}:∀{m:List α} {j:Nat} {a:α},m[j]? =some a→m.set j a=m
 | [],_,_,h=>by simp at h
 | x::m,0,a,h=>by simp at h;subst h;rfl
 | x::m,j+1,a,h=>by simp only [List.getElem?_cons_succ] at h;rw [List.set_cons_succ,Zl2 h]
theorem Yj3 {es:Array MapEntry}{j:Nat}{e:MapEntry}{key:Value}(h:es.toList[j]? =some e)(hk:e.key=key):(es.modify j fun e=>{e with key})=es:=by
 apply Array.ext
 ·simp
 ·intro i h1 h2
  rw [Array.getElem_modify]
  split
  ·rename_i hij
   subst hij
   have:es[j]=e:=by
    rw [Array.getElem?_toList,Array.getElem?_eq_getElem h2] at h
    exact Option.some.inj h
   rw [this,←hk]
  ·rfl
theorem Zfr {w:World}{b c:Nat}{o:Obj}(h:c≠b):(Z2c w b o).heap[c]? =w.heap[c]? :=by
 simp only [Z2c,Array.getElem?_setIfInBounds]
 rw [if_neg (fun e=>h e.symm)]
theorem Zi3 {w:World}{b:Nat}{o:Obj}(h:b<w.heap.size):(Z2c w b o).heap[b]? =some o:=by
 simp [Z2c,Array.getElem?_setIfInBounds,h]
theorem Zkp {C:Ctx}{S:St}{O:Nat→Nat}{a:Act}{w:World}{i b:Nat}{ob:Obj}{A:Zb}{R:Res}{v:Value}{dst:Option Nat}(hh:HoldO C S O a w)(hb:O b=Ro i)(hd:∀t,dst=some t→t<C.N)(hA:A.R w (hid C O) Zl v)
  (hR:R.R (Z2c w b ob) (hid C O) (fun c=>O c=Ro i)):Hold C ((S.put dst A).setr i R) (a.put dst v) (Z2c w b ob):=by
 have go:Goes C (fun q=>q=Ro i) O w O (Z2c w b ob):=⟨rfl,rfl,rfl,by simp [Z2c],fun c hc hq=>⟨rfl,Zfr (fun e=>hq (e▸hb))⟩,fun c h=> .inl h,fun c h=>by have:=(hh.own c h).2;simpa [Z2c] using this,fun h=>Z0m i h.symm⟩
 have hx:Ext w (hid C O) Zl (Z2c w b ob) (hid C O) Zl:=⟨by simp [Z2c],fun c hc hn=>⟨hn,Zfr (fun e=>hn (.inr (by rw [e,hb];exact Z0m i)))⟩,fun _ _ h=>h.elim⟩
 refine ⟨O,hh.goes go (Z6i ..) (by cases dst<;>rfl) (Z6e ..) (fun t=>?_) (fun j=>?_)⟩
 ·cases dst with
  | none=>exact .inl ⟨rfl,Z1g t i,rfl⟩
  | some d=>
   by_cases e:t=d
   ·subst e
    right
    have hlt:t<a.tmps.size:=hh.n▸hd t rfl
    rw [Z6c hlt]
    simp only [St.put,St.set,St.setr,Z02]
    exact A.mono Ext.any (A.mono hx hA)
   ·exact .inl ⟨by simp only [St.put,St.set,St.setr];exact Z00 _ _ e,Z1g t i,Z6f e _⟩
 ·by_cases e:j=i
  ·subst e
   right
   simp only [St.setr,Z02]
   exact hR
  ·exact .inl ⟨by simp only [St.setr];rw [Z00 _ _ e];cases dst<;>rfl,fun h=>e (Z26 h)⟩
theorem Y17 (m:List (κ×Int))(x:κ)(u v:Int):Z1i (Z1i m x u) x v=Z1i m x v:=by
 induction m with
 | nil=>simp [Z1i]
 | cons p m ih=>
  by_cases h:p.1=x
  ·simp [Z1i,h]
  ·simp [Z1i,h,ih]
theorem Zr5 {α:Type}{f:α→α}:∀{m:List α} {j:Nat} {a:α},m[j]? =some a→m.modify j f=m.set j (f a)
 | [],_,_,h=>by simp at h
 | x::m,0,a,h=>by simp at h;subst h;rfl
 | x::m,j+1,a,h=>by
  simp only [List.getElem?_cons_succ] at h
  rw [List.set_cons_succ,←Zr5 h];rfl
theorem Yp2 {P:Program}{T:TypeId}{k:Kd κ}{w:World}{H:HS}{b n j:Nat}{m:List (κ×Int)}{x:κ}{e:MapEntry}{es:Array MapEntry}{clock:Nat}{v:Int}(ha:MapAt k w H b (Z52 m x) es clock)(hj:es[j]? =some e)(hn:e.born=n)(hm:(Z52 m x)[j]? =some (x,Z0w m x))(hv:IntKind.i64.has v):
  ∃es',(Instr.entryStore T (.map (some b)) (goInt n) (.int .i64 v)).run P w= .ok () (Z2c w b (.map es' clock))∧EntC k w H (Z1i m x v) es'.toList∧(∀e∈es'.toList,e.born<clock)∧(es'.toList.map (·.born)).Nodup:=by
 obtain ⟨hlt,hje⟩:=Array.getElem?_eq_some_iff.1 hj
 have hnd:=ha.2.2.2.1
 have hf:es.findIdx? (fun e=>(e.born:Int)==(n:Int))=some j:=by
  rw [Array.findIdx?_eq_some_iff_getElem]
  refine ⟨hlt,by rw [hje,hn];simp,fun i hi=>?_⟩
  intro hb
  have h5:(es[i].born:Int)=(n:Int):=by simpa using hb
  have hbi:es[i].born=n:=by omega
  have h1:(es.toList.map (·.born))[i]'(by simp;omega)=(es.toList.map (·.born))[j]'(by simpa using hlt):=by
   simp [hje,hn,hbi]
  exact (List.pairwise_iff_getElem.1 hnd i j (by simp;omega) (by simpa using hlt) hi) h1
 obtain ⟨p,cs,h4,h5,h6,h7,h8⟩:=ha.2.1.get (j:=j) (e:=e) (by rw [Array.getElem?_toList];exact hj)
 rw [hm] at h4
 obtain rfl:=Option.some.inj h4
 refine ⟨es.modify j fun e=>{e with val:= .int .i64 v},?_,?_,?_,?_⟩
 ·simp [Instr.entryStore,getObj,setObj,Sem.run,ha.1,goInt,asInt,asIntOf,hf,Result.andThen,Z2c]
 ·have e1:Z1i m x v=(Z52 m x).set j (x,v):=by
   rw [←Zmz ha.2.2.2.2 hm (u:=v)]
   unfold Z52;rw [Y17]
  rw [e1,Array.toList_modify]
  have e2:es.toList.modify j (fun e=>{e with val:= .int .i64 v})=es.toList.set j {e with val:= .int .i64 v}:=by
   exact Zr5 (by rw [Array.getElem?_toList];exact hj)
  rw [e2]
  exact EntC.set h6 hv ha.2.1 h5 rfl
 ·intro e' he'
  obtain ⟨i,hi⟩:=List.getElem?_of_mem he'
  rw [Array.toList_modify,List.getElem?_modify] at hi
  cases h9:es.toList[i]? with
  | none=>simp [h9] at hi
  | some e0=>
   have:=ha.2.2.1 e0 (List.mem_of_getElem? h9)
   simp only [h9,Option.map_eq_map,Option.map_some,Option.some.injEq] at hi
   rw [←hi]
   split<;>exact this
 ·have e3:(es.modify j fun e=>{e with val:= .int .i64 v}).toList.map (·.born)=es.toList.map (·.born):=by
   apply List.ext_getElem?
   intro i
   rw [Array.toList_modify,List.getElem?_map,List.getElem?_map,List.getElem?_modify]
   cases es.toList[i]? with
   | none=>rfl
   | some e0=>simp only [Option.map_eq_map,Option.map_some];split<;>rfl
  rw [e3];exact hnd
theorem Ydu {C:Ctx}{S:St}{o:Oper}{T:TypeId}{k:Kd κ}{m:List (κ×Int)}{x:κ}{b i n:Nat}{v:Int}{p q r:Operand}(ho:o.op= .entryStore T p q r)(hd:o.dst=none)(hp:Val C S p (Zg (.map (some b))))(hr:S.r i=Zcb b k m x n)(hq:Val C S q (Zg (goInt n)))(hv:Val C S r (rd (Z0 .i64) v)):
  OpE C o S (S.setr i (Z2d b k (Z1i m x v))):=
 OpE.skip (by simp [ho]) fun O a w hh=>by
  have h1:a.eval p= .map (some b):=hp.of hh
  have h2:a.eval q=goInt n:=hq.of hh
  obtain ⟨h3,h4⟩:=Z0q (hv.of hh)
  have h5:=hh.res i
  rw [hr] at h5
  obtain ⟨hm,es,clock,ha,j,e,hj,hn,hx⟩:=h5
  obtain ⟨es',h6,h7,h8,h9⟩:=Yp2 (P:=C.P) (T:=T) ha hj hn hx h4
  refine ⟨Z2c w b (.map es' clock),by simp [execOp,ho,h1,h2,h3,h6,Result.andThen],?_⟩
  rw [hd]
  have hlt:b<w.heap.size:=(Array.getElem?_eq_some_iff.1 ha.1).1
  have hext:Ext w (hid C O) Zl (Z2c w b (.map es' clock)) (hid C O) Zl:=⟨by simp [Z2c],fun c hc hn=>⟨hn,Zfr (fun e=>hn (.inr (by rw [e];have hm':O b=Ro i:=hm;rw [hm'];exact Z0m i)))⟩,fun _ _ h=>h.elim⟩
  have hnd:((Z1i m x v).map (·.1)).Nodup:=by
   have:=Zqu ha.2.2.2.2 x v
   unfold Z52 at this
   rwa [Y17] at this
  exact Zkp (dst:=none) (A:=top) (v:=undef) hh hm (fun _ h=>by cases h) trivial ⟨hm,es',clock,Zi3 hlt,h7.mono hext,h8,h9,hnd⟩
theorem Y5y {P:Program}{kt:TypeId}{ik:IntKind}(hk:P.underlying kt=some (.int ik)):Zmy P kt (Z0 ik) where
 law:=Go.Maps.int_keyed hk
 reads:=by
  rintro w H x cs ⟨rfl,h⟩
  exact ⟨_,Go.Maps.keyOf_int_mk hk (a:=x) (by simp [Lit.wf];exact h)⟩
 inj:=by
  rintro w H w' H' x y cs ds ⟨rfl,_⟩ ⟨rfl,_⟩
  simp [mkv,Z0]
 pure:=fun h=>h
end maps
end Go.Wb
namespace Go.Wb
open Go
structure Dy where
 T:TypeId
 R:World→HS→Value→Prop
 mono:∀{w H w' H' v},Ext w H Zl w' H' Zl→R w H v→R w' H' v
def dy {α:Type}(T:TypeId)(k:Kd α)(x:α):Dy:=⟨T,fun w H v=> ∃cs,k.C w H x cs∧v=mkv k.agg cs,fun h ⟨cs,hc,hv⟩=>⟨cs,k.mono h hc,hv⟩⟩
section errs
variable {ε : Type} {d : ε → Option Dy}
def ErrC (d:ε→Option Dy)(w:World)(H:HS)(e:ε)(v:Value):Prop:=
 match d e with
 | none=>v= .nilIface
 | some y=> ∃u,v= .iface y.T u∧y.R w H u
theorem ErrC.none {w:World}{H:HS}{e:ε}{v:Value}(h:d e=none):ErrC d w H e v↔v= .nilIface:=by unfold ErrC;rw [h]
theorem ErrC.some {w:World}{H:HS}{e:ε}{v:Value}{y:Dy}(h:d e=some y):ErrC d w H e v↔ ∃u,v= .iface y.T u∧y.R w H u:=by unfold ErrC;rw [h]
theorem ErrC.mono {w w':World}{H H':HS}{e:ε}{v:Value}(x:Ext w H Zl w' H' Zl)(h:ErrC d w H e v):ErrC d w' H' e v:=by
 cases hd:d e with
 | none=>exact (ErrC.none hd).2 ((ErrC.none hd).1 h)
 | some y=>
  obtain ⟨u,h1,h2⟩:=(ErrC.some hd).1 h
  exact (ErrC.some hd).2 ⟨u,h1,y.mono x h2⟩
def Z8g (d:ε→Option Dy):Kd ε where
 sz:=1
 agg:=false
 C:=fun w H e cs=> ∃v,cs=[v]∧ErrC d w H e v
 len:=by rintro w H e cs ⟨v,rfl,_⟩;rfl
 one:=by
  rintro w H e cs ⟨v,rfl,h⟩ u hu
  rw [List.mem_singleton.1 hu]
  cases hd:d e with
  | none=>rw [(ErrC.none hd).1 h];rfl
  | some y=>obtain ⟨u',h1,_⟩:=(ErrC.some hd).1 h;rw [h1];rfl
 flat:=fun _=>rfl
 mono:=fun x ⟨v,h1,h2⟩=>⟨v,h1,h2.mono x⟩
theorem Zjs {w:World}{H M:HS}{e:ε}{v:Value}:(rd (Z8g d) e).R w H M v↔ErrC d w H e v:=
 ⟨fun ⟨cs,⟨u,h1,h2⟩,h3⟩=>by subst h1;rw [h3];exact h2,fun h=>⟨[v],⟨v,rfl,h⟩,rfl⟩⟩
theorem vne {C:Ctx}{S:St}{e:ε}(h:d e=none):Val C S (.const .nilIface) (rd (Z8g d) e):=fun _ _ _ _=>Zjs.2 ((ErrC.none h).2 rfl)
def Zcz (P:Program)(T:TypeId):Bool:=match P.underlying T with
 | some (.interface _)=>false
 | some _=>true
 | none=>false
theorem Y2l {P:Program}{T:TypeId}(h:Zcz P T=true)(v:Value)(w:World):(Instr.makeInterface T v).run P w= .ok (.iface T v) w:=by
 unfold Zcz at h
 cases hu:P.underlying T with
 | none=>rw [hu] at h;cases h
 | some u=>
  rw [hu] at h
  unfold Instr.makeInterface
  rw [Sem.run_bind,run_underlying hu w]
  cases u<;>first | (cases h;done) | rfl
variable {C : Ctx} {S : St} {o : Oper}
theorem Zvr {α:Type}{T:TypeId}{k:Kd α}{x:α}(e:ε){p:Operand}(ho:o.op= .makeInterface T p)(hd:Zq o C.N=true)(hT:Zcz C.P T=true)(he:d e=some (dy T k x))(hp:Val C S p (rd k x)):OpE C o S (S.put o.dst (rd (Z8g d) e)):=
 OpE.plain (by simp [ho]) hd fun O a w hh=>by
  have h1:=hp.of hh
  exact ⟨.iface T (a.eval p),by simp only [execOp,ho,Sem.run_bind,Y2l hT];rfl,Zjs.2 ((ErrC.some he).2 ⟨_,rfl,h1⟩)⟩
theorem Yh1 {α β:Type}{k:Kd α}{kf:Kd β}{L:Lens k kf}{g:Nat}{T:TypeId}{p:Operand}(ho:o.op= .makeInterface T p)(hd:Zq o C.N=true)(hT:Zcz C.P T=true)(hL:L.off=0)(hp:Val C S p (Za g L)):OpE C o S (S.put o.dst (Zg (.iface T (.pointer (some ⟨g,0,none⟩))))):=
 OpE.plain (by simp [ho]) hd fun O a w hh=>by
  have h1:a.eval p= .pointer (some ⟨g,L.off,none⟩):=hp.of hh
  rw [hL] at h1
  exact ⟨_,by simp only [execOp,ho,h1,Sem.run_bind,Y2l hT];rfl,rfl⟩
def Zli (P:Program)(T:TypeId):Bool:=match P.underlying T with
 | some (.interface _)=>true
 | _=>false
theorem Ycd {P:Program}{T:TypeId}(h:Zli P T=true){w:World}{H:HS}{e:ε}{v:Value}(hv:ErrC d w H e v):(Op.equal T v .nilIface).run P w= .ok (d e).isNone w:=by
 unfold Zli at h
 cases hu:P.underlying T with
 | none=>rw [hu] at h;cases h
 | some u=>
  rw [hu] at h
  cases u<;>first | (cases h;done) | skip
  cases hd:d e with
  | none=>
   rw [(ErrC.none hd).1 hv]
   rw [show ∀v,Op.equal T v .nilIface=Op.equalIn (9999+1) T v .nilIface from fun _=>rfl,Op.equalIn]
   simp [run_underlying hu,Sem.run_bind,Result.andThen]
  | some y=>
   obtain ⟨u',h1,_⟩:=(ErrC.some hd).1 hv
   rw [h1]
   rw [show ∀v,Op.equal T v .nilIface=Op.equalIn (9999+1) T v .nilIface from fun _=>rfl,Op.equalIn]
   simp [run_underlying hu,Sem.run_bind,Result.andThen]
theorem Ymn {P:Program}{op:BinOp}{T:TypeId}{p:Operand}{v:Value}{w:World}(hv:v= .nilIface∨∃t u,v= .iface t u):(eqGuard op T p (.const .nilIface) v .nilIface).run P w= .ok () w:=by
 unfold eqGuard
 rcases hv with rfl | ⟨t,u,rfl⟩
 ·cases op<;>simp
 ·cases op<;>simp
theorem ErrC.form {w:World}{H:HS}{e:ε}{v:Value}(h:ErrC d w H e v):v= .nilIface∨∃t u,v= .iface t u:=by
 cases hd:d e with
 | none=>exact .inl ((ErrC.none hd).1 h)
 | some y=>obtain ⟨u,h1,_⟩:=(ErrC.some hd).1 h;exact .inr ⟨_,u,h1⟩
theorem Zsc {e:ε}{b:Bool}{T U:TypeId}{p:Operand}(ho:o.op= .binOp .neq T p (.const .nilIface) U)(hd:Zq o C.N=true)(hT:Zli C.P T=true)(hb:(d e).isNone=b)(hp:Val C S p (rd (Z8g d) e)):OpE C o S (S.put o.dst (rd Z3 (!b))):=
 OpE.plain (by simp [ho]) hd fun O a w hh=>by
  have h1:=Zjs.1 (hp.of hh)
  have h2:=Ycd (P:=C.P) hT h1
  have h3:=Ymn (P:=C.P) (op:= .neq) (T:=T) (p:=p) (w:=w) h1.form
  refine ⟨.bool (!b),?_,_,rfl,rfl⟩
  have h4:(binOp .neq T (a.eval p) .nilIface).run C.P w= .ok (.bool (!b)) w:=by
   rcases h1.form with h5 | ⟨t,u,h5⟩<;>(rw [h5] at h2 ⊢;simp [binOp,Sem.run_bind,h2,hb,Result.andThen])
  simp only [execOp,ho,Sem.run_bind,show a.eval (.const .nilIface)=Value.nilIface from rfl,h3,h4,Result.andThen,Sem.run_pure]
theorem Ycq {P:Program}{f:FuncId}{X:Type}{k:Kd X}{T Tp:TypeId}{g:Nat}{e:ε}{x:X}{r:Bool×X}{A:World→Prop}(hag:k.agg=true)
  (h0:d e=none→r=(false,x))(h1:∀y,d e=some y→y=dy T k r.2∧r.1=true)(hZ:∀w H,Amb P w H→A w)
  (nil:∀t w,Calls P f #[.nilIface,t] w fun ev w'=>ev= .returned (.bool false)∧w'=w)
  (hit:∀(cs cur:List Value) (w:World),A w→cs.length=k.sz→cur.length=k.sz→(∀v∈cs,v.oneCell'=true)→w.heap[g]? =some (.cells cur.toArray T (0,0))→
   Calls P f #[.iface T (.agg cs.toArray),.iface Tp (.pointer (some ⟨g,0,none⟩))] w fun ev w'=>ev= .returned (.bool true)∧∃o1 o2 o3 o4,w'=((((w.alloc o1).alloc o2).alloc o3).alloc o4).setRow g cs.toArray):
  Con P f [rd (Z8g d) e,Zg (.iface Tp (.pointer (some ⟨g,0,none⟩)))] (Zd g T k x) (fun _:Unit=>rd Z3 r.1) (fun _=>Zd g T k r.2):=by
 intro w H XX vs hA hH hX hargs hR
 match vs,hargs with
 | [v,u],⟨hv,hu,_⟩=>
  have hu':u= .iface Tp (.pointer (some ⟨g,0,none⟩)):=hu
  subst hu'
  have hv':=Zjs.1 hv
  obtain ⟨hg,cur,hgc,hc⟩:=hR
  cases hd:d e with
  | none=>
   have hn:=(ErrC.none hd).1 hv'
   subst hn
   refine (nil _ w).mono ?_
   rintro ev w' ⟨rfl,rfl⟩
   rw [h0 hd]
   refine ⟨_,(),XX,rfl,⟨rfl,rfl,rfl,Nat.le_refl _,fun _ _ _=>rfl,fun b hb=>⟨.inl hb,(hX b hb).2⟩⟩,⟨_,rfl,rfl⟩,hg,cur,hgc,?_⟩
   refine k.mono ⟨Nat.le_refl _,fun b _ hn=>⟨fun h=>h.elim hn fun h=>hn (hX b h).1,rfl⟩,fun _ _ h=>h.elim⟩ hc
  | some y=>
   obtain ⟨rfl,hr1⟩:=h1 y hd
   obtain ⟨u,rfl,cs,hcs,rfl⟩:=(ErrC.some hd).1 hv'
   have hlt:g<w.heap.size:=(Array.getElem?_eq_some_iff.1 hgc).1
   have hm:mkv k.agg cs= .agg cs.toArray:=by rw [hag];rfl
   have hcall:=hit cs cur w (hZ w H hA) (k.len hcs) (k.len hc) (k.one hcs) hgc
   rw [show (dy T k r.2).T=T from rfl,hm]
   refine hcall.mono ?_
   rintro ev w' ⟨rfl,o1,o2,o3,o4,rfl⟩
   have hsz:((((w.alloc o1).alloc o2).alloc o3).alloc o4).heap.size=w.heap.size+4:=by simp
   have hold:∀b,b<w.heap.size→((((w.alloc o1).alloc o2).alloc o3).alloc o4).heap[b]? =w.heap[b]? :=fun b hb=>by
    rw [heap_alloc_old _ _ b (by simp;omega),heap_alloc_old _ _ b (by simp;omega),heap_alloc_old _ _ b (by simp;omega),heap_alloc_old _ _ b hb]
   have hne:∀b,b<w.heap.size→b≠g→(((((w.alloc o1).alloc o2).alloc o3).alloc o4).setRow g cs.toArray).heap[b]? =w.heap[b]? :=fun b hb hn=>(setRow_other _ g b _ hn).trans (hold b hb)
   have hx:Ext w H Zl (((((w.alloc o1).alloc o2).alloc o3).alloc o4).setRow g cs.toArray) (join H XX) Zl:=
    ⟨by simp;omega,fun b hb hn=>⟨fun h=>h.elim hn fun h=>hn (hX b h).1,hne b hb fun e=>hn (e▸(hX g hg).1)⟩,fun _ _ h=>h.elim⟩
   refine ⟨_,(),XX,rfl,⟨rfl,rfl,rfl,by simp;omega,fun b hb hn=>hne b hb fun e=>hn (e▸hg),fun b hb=>⟨.inl hb,by simp;have:=(hX b hb).2;omega⟩⟩,⟨_,rfl,by rw [hr1];rfl⟩,hg,cs,?_,k.mono hx hcs⟩
   exact setRow_heap _ g _ _ _ _ ((hold g hlt).trans hgc)
end errs
theorem Y4u {α:Type}{P:Program}{T T':TypeId}{k:Kd α}{fr:Nat×Nat}{b:Nat}{cs:List Value}{w:World}(ht:Ty P T k)(hag:k.agg=true)(hl:cs.length=k.sz)(h1:∀v∈cs,v.oneCell'=true)(hb:w.heap[b]? =some (.cells cs.toArray T' fr)):(loadVar T ⟨b,0,none⟩).run P w= .ok (.agg cs.toArray) w:=by
 obtain ⟨i,d,hi,hu,ha,hs⟩:=ht.out
 have hagg:(isAgg T).run P w= .ok true w:=by
  unfold isAgg
  rw [Sem.run_bind,run_underlying hu w]
  rw [hag] at ha
  cases d<;>first | (cases ha;done) | rfl
 have h2:(loadCells ⟨b,0,none⟩ cs.length).run P w= .ok cs.toArray w:=
  run_loadCells_list (P:=P) w ⟨b,0,none⟩ cs (fun j v hv=>by
   rw [Z38]
   simp [World.cell?,hb,hv])
 rw [hl,←hs] at h2
 simp [loadVar,Sem.run_bind,hagg,sizeOf,typeInfo,hi,h2]
theorem Y4x {α:Type}{P:Program}{T T':TypeId}{k:Kd α}{g:Nat}{cs cur:List Value}{w:World}(ht:Ty P T k)(hag:k.agg=true)(hl:cs.length=k.sz)(hl2:cur.length=k.sz)(h1:∀v∈cs,v.oneCell'=true)(hg:w.heap[g]? =some (.cells cur.toArray T' (0,0))):(storeVar T ⟨g,0,none⟩ (.agg cs.toArray)).run P w= .ok () (w.setRow g cs.toArray):=by
 obtain ⟨i,d,hi,hu,ha,hs⟩:=ht.out
 have h2:=run_storeCells_at P g 0 T' cs 0 cur.toArray w hg (by simp;omega) h1
 simp only [Nat.add_zero,List.toList_toArray] at h2
 have e:(List.take 0 cur++cs++List.drop (0+cs.length) cur)=cs:=by
  rw [Nat.zero_add,hl,←hl2];simp
 rw [e] at h2
 simp [storeVar,sizeOf,typeInfo,hi,Value.cells,hs,hl,h2]
theorem Y7o (w:World)(o1 o2 o3 o4:Obj):((((w.alloc o1).alloc o2).alloc o3).alloc o4).heap[w.heap.size+1+1+1]? =some o4:=by
 have:=heap_alloc_new (((w.alloc o1).alloc o2).alloc o3) o4
 simpa using this
theorem Ynj {g:Nat}{o:Obj}(w:World)(o1 o2 o3 o4:Obj)(hl:g<w.heap.size)(h:w.heap[g]? =some o):((((w.alloc o1).alloc o2).alloc o3).alloc o4).heap[g]? =some o:=by
 rw [heap_alloc_old _ _ g (by simp;omega),heap_alloc_old _ _ g (by simp;omega),heap_alloc_old _ _ g (by simp;omega),heap_alloc_old _ _ g hl];exact h
end Go.Wb
namespace Go.Wb
open Go
def stf (P:Program)(T:TypeId):List (String×Nat×Nat):=match P.underlying T with
 | some (.struct fs)=>fs.toList.map fun f=>(f.name,f.type,f.offset)
 | _=>[]
theorem Ymv {P:Program}{T:TypeId}{p:String×Nat×Nat}{l:List (String×Nat×Nat)}(h:stf P T=p::l):∃fs,P.underlying T=some (.struct fs)∧fs.toList.map (fun f=>(f.name,f.type,f.offset))=p::l:=by
 unfold stf at h
 split at h
 ·exact ⟨_,by assumption,h⟩
 ·cases h
theorem Yjx {κ:Type}{P:Program}{kt ti n:Nat}{a b:String}{f:κ→Int×Int}(law:Go.Maps.Keyed P kt)(hf:stf P kt=[(a,ti,0),(b,ti,1)])(ha:(a !="_")=true)(hb:(b !="_")=true)
  (hk:P.keyType kt=true)(hc:P.cellsOf kt=2)(hi:P.underlying ti=some (.int .i64))(hci:P.cellsOf ti=1)(hs:P.types.size=n+1)(hinj:∀x y,f x=f y→x=y):
  Zmy P kt (Z0k (Z2 (Z0 .i64) (Z0 .i64)) f) where
 law:=law
 reads:=by
  rintro w H x cs ⟨c1,c2,rfl,⟨rfl,h1⟩,⟨rfl,h2⟩⟩
  obtain ⟨⟨l⟩,hu,hl⟩:=Ymv hf
  obtain ⟨p,l1,e0,hp,hl1⟩:=List.map_eq_cons_iff.1 hl
  obtain ⟨q,l2,rfl,hq,hl2⟩:=List.map_eq_cons_iff.1 hl1
  obtain rfl:=List.map_eq_nil_iff.1 hl2
  obtain rfl:l=[p,q]:=e0
  ·simp only [Prod.mk.injEq] at hp hq
   obtain ⟨hp0,hp1,hp2⟩:=hp
   obtain ⟨hq0,hq1,hq2⟩:=hq
   have w1:(Lit.int IntKind.i64 (f x).1).wf=true:=by simp [Lit.wf];exact h1
   have w2:(Lit.int IntKind.i64 (f x).2).wf=true:=by simp [Lit.wf];exact h2
   have n1:p.name≠"_":=by rw [hp0];simpa using ha
   have n2:q.name≠"_":=by rw [hq0];simpa using hb
   have e1:P.keyLits (n+2) kt [.int .i64 (f x).1,.int .i64 (f x).2]=some [.int .i64 (f x).1,.int .i64 (f x).2]:=by
    simp [Program.keyLits,hu,hc,n1,n2,hp1,hp2,hq1,hq2,hci,hi,w1,w2]
   refine ⟨.string (keyBytes [.int .i64 (f x).1,.int .i64 (f x).2]),?_⟩
   have e2:(mkv (Z0k (Z2 (Z0 .i64) (Z0 .i64)) f).agg ([Value.int .i64 (f x).1]++[Value.int .i64 (f x).2]))= .agg #[.int .i64 (f x).1,.int .i64 (f x).2]:=rfl
   rw [e2]
   unfold keyOf
   rw [hu,hs]
   simp [hk,Value.formed,hu,hc,Value.cells,e1]
 inj:=by
  rintro w H w' H' x y cs ds ⟨c1,c2,rfl,⟨rfl,_⟩,⟨rfl,_⟩⟩ ⟨d1,d2,rfl,⟨rfl,_⟩,⟨rfl,_⟩⟩
  constructor
  ·intro h
   simp [mkv,Z0k,Z2] at h
   exact hinj _ _ (Prod.ext h.1 h.2)
  ·rintro rfl;rfl
 pure:=fun h=>h
section maps
variable {κ : Type} [DecidableEq κ] {C : Ctx} {S : St} {o : Oper}
def Y9j (k:Kd κ):Kd (List (κ×Int)) where
 sz:=1
 agg:=false
 C:=fun w H m cs=> ∃r,cs=[.map r]∧(r=none→m=[])∧∀b,r=some b→¬H b∧b<w.heap.size∧∃es clock,MapAt k w H b m es clock
 len:=by rintro w H m cs ⟨r,rfl,_⟩;rfl
 one:=by rintro w H m cs ⟨r,rfl,_⟩ v hv;rw [List.mem_singleton.1 hv];rfl
 flat:=fun _=>rfl
 mono:=by
  rintro w H w' H' m cs x ⟨r,rfl,h1,h2⟩
  refine ⟨r,rfl,h1,fun b hb=>?_⟩
  obtain ⟨h3,h4,es,clock,h5⟩:=h2 b hb
  obtain ⟨h6,h7⟩:=x.vis b h4 h3
  exact ⟨h6,Nat.lt_of_lt_of_le h4 x.size,es,clock,h5.mono x h7⟩
theorem Yen {T:TypeId}{k:Kd κ}{m:List (κ×Int)}{b i:Nat}{p:Operand}(ho:o.op= .call {callee:= .builtin .clear,args:= #[p],argTypes:= #[T]})(hd:o.dst=none)(hT:(C.P.underlying T).isSome=true)(hp:Val C S p (Zg (.map (some b))))(hr:S.r i=Z2d b k m):
  OpE C o S (S.setr i (Z2d b k [])):=
 OpE.value (by simp [ho]) fun O a w hh=>by
  have h1:a.eval p= .map (some b):=hp.of hh
  have h5:=hh.res i
  rw [hr] at h5
  obtain ⟨hm,es,clock,ha⟩:=h5
  obtain ⟨u,hu⟩:=Option.isSome_iff_exists.1 hT
  refine ⟨.tuple #[],Z2c w b (.map #[] clock),?_,?_⟩
  ·simp [execOp,ho,h1,resolve,invoke,builtin,Builtin.clear_,run_underlying hu,getObj,setObj,Sem.run,ha.1,Result.andThen,Z2c]
  rw [hd]
  have hlt:b<w.heap.size:=(Array.getElem?_eq_some_iff.1 ha.1).1
  exact Zkp (dst:=none) (A:=top) (v:= .tuple #[]) hh hm (fun _ h=>by cases h) trivial ⟨hm,#[],clock,Zi3 hlt,trivial,fun _ h=>by simp at h,List.nodup_nil,List.nodup_nil⟩
end maps
end Go.Wb
namespace Go.Wb
open Go
section frz
variable {C : Ctx} {S : St} {α : Type}
theorem Hold.freezesB {a:Act}{w:World}{ts:List Nat}{i g:Nat}{T:TypeId}{k:Kd α}{x:α}(hX:C.X=Zl)(hs:Z89 S (Za g (Lens.id k)) ts)(hr:S.r i=Zd g T k x)(hh:Hold C S a w):Hold C ((S.setL ts (rp k x)).setr i emp) a w:=by
 obtain ⟨O,hh⟩:=hh
 have h3:=hh.res i
 rw [hr] at h3
 obtain ⟨hm,cs,hg,hc⟩:=h3
 let O':Nat→Nat:=fun b=>if O b=Ro i then 0 else O b
 have hO:∀b,O' b≠0→O b≠0∧O' b=O b:=fun b h=>by
  by_cases e:O b=Ro i
  ·exact absurd (if_pos e) h
  ·exact ⟨fun e0=>h (by simp only [O'];rw [if_neg e,e0]),if_neg e⟩
 have hext:Ext w (hid C O) Zl w (hid C O') Zl:=⟨Nat.le_refl _,fun b _ hn=>⟨fun h=>hn (h.imp id fun h=>(hO b h).1),rfl⟩,fun _ _ h=>h.elim⟩
 have go:Goes C (fun q=>q=Ro i) O w O' w:=⟨rfl,rfl,rfl,Nat.le_refl _,fun b hb hq=>⟨if_neg hq,rfl⟩,fun b h=> .inl (hO b h).1,fun b h=>(hh.own b (hO b h).1).2,fun h=>Z0m i h.symm⟩
 have hOg:O g=Ro i:=hm
 refine ⟨O',hh.goes go rfl rfl rfl (fun s=>?_) (fun j=>?_)⟩
 ·rcases Zpi (A:=rp k x) ts S.s s with ⟨h1,h2⟩ | ⟨h1,h2⟩
  ·right
   simp only [St.setL,St.setr]
   rw [h2]
   have h5:a.tmps.getD s undef= .pointer (some ⟨g,0,none⟩):=by
    have:=hh.slot s
    rw [Zt9 hs s h1] at this
    exact Z5x this
   rw [h5]
   refine ⟨g,0,cs,rfl,(hh.own g (by rw [hOg];exact Z0m i)).2,?_,k.mono hext hc,fun j u hu=>by simp [World.cell?,hg,hu]⟩
   rintro (h | h)
   ·have h6:=(hh.own g (by rw [hOg];exact Z0m i)).1
    rw [hX] at h6
    have h7:=hh.h0 g h
    rcases h6 with h6 | h6
    ·omega
    ·exact h6
   ·exact h (if_pos hOg)
  ·exact .inl ⟨by simp only [St.setL,St.setr];exact h2,Z1g s i,rfl⟩
 ·by_cases e:j=i
  ·subst e
   right
   simp only [St.setr,Z02]
   trivial
  ·exact .inl ⟨by simp only [St.setr];rw [Z00 _ _ e];rfl,fun h=>e (Z26 h)⟩
theorem AW.freezesB {Q:Exit→St→Prop}{c:Code}(ts:List Nat)(i:Nat){g:Nat}{T:TypeId}{k:Kd α}{x:α}(hX:C.X=Zl)(hs:Z89 S (Za g (Lens.id k)) ts)(hr:S.r i=Zd g T k x)(h:AW C c Q ((S.setL ts (rp k x)).setr i emp)):AW C c Q S:=
 fun a w hh=>h a w (hh.freezesB hX hs hr)
theorem AOps.freezesB {ops:Array Oper}{Q:Exit→St→Prop}{c:List Oper}(ts:List Nat)(i:Nat){g:Nat}{T:TypeId}{k:Kd α}{x:α}(hX:C.X=Zl)(hs:Z89 S (Za g (Lens.id k)) ts)(hr:S.r i=Zd g T k x)(h:AOps C ops Q c ((S.setL ts (rp k x)).setr i emp)):AOps C ops Q c S:=
 fun a w hh=>h a w (hh.freezesB hX hs hr)
variable {o : Oper}
theorem Zyd {T E:TypeId}{n:Nat}{k:Kd α}{x:Vector α n}{s:List α}{lo:Int}{p q:Operand}{jk:IntKind}(h:Z3z x.toList lo=some s)(ho:o.op= .slice T p (some q) none none)(hd:Zq o C.N=true)(ht:Ar C.P T E n k)(hn:Nat.ble n 16777216=true)(hp:Val C S p (rp (Z4 n k) x))(hq:Val C S q (rd (Z0 jk) lo))(hsh:∀E,k.sh E=true:=by exact fun _=>rfl)(hps:Nat.blt 0 k.sz=true:=by rfl):
  OpE C o S (S.put o.dst (rd (Z1 k) s)):=
 OpE.plain (by simp [ho]) hd fun O a w hh=>by
  obtain ⟨h0,h1,rfl⟩:=Z8v h
  obtain ⟨b,off,cs,h2,hb,hv,hc,hat⟩:=hp.of hh
  have h3:=(Z0q (hq.of hh)).1
  obtain ⟨hu,ti,hti,hs⟩:=ht.out
  have hc':Cells k w (hid C O) x.toList cs:=hc
  have hl:x.toList.length=n:=by simp
  rw [hl] at h1
  have hn':=Nat.le_of_ble_eq_true hn
  have hbd:(Instr.sliceBounds false n n (some (.int jk lo)) none none).run C.P w= .ok (lo.toNat,n,n) w:=by
   simp [Instr.sliceBounds,run_sliceBound _ _ _ _ _ h0 (show lo≤(n:Int) by omega)]
  refine ⟨.slice (some (if n=lo.toNat then ⟨b,off,none⟩ else (⟨b,off,none⟩:Addr).add (lo.toNat*k.sz))) (n - lo.toNat) (n - lo.toNat),?_,Z4y ⟨_,_,by rw [List.length_drop,hl],by rw [List.length_drop,hl];exact Nat.le_refl _,by omega,fun hlt=>?_⟩⟩
  ·simp [execOp,ho,h2,h3,Instr.sliceAt,run_underlying hu,Instr.sureAddr,hbd,sizeOf,typeInfo,hti,hs]
  ·rw [List.length_drop,hl] at hlt
   rw [if_neg (by omega),Z38]
   have hlen:=(hc'.drop lo.toNat (by omega)).len
   have hat2:At w b (off+lo.toNat*k.sz) (cs.drop (lo.toNat*k.sz)):=by
    have:=hat.sub (lo.toNat*k.sz) ((x.toList.drop lo.toNat).length*k.sz)
    rwa [List.take_of_length_le] at this
    omega
   have hpos:0<k.sz:=by simpa using hps
   obtain ⟨cur,E1,fr,hob⟩:=hat2.obj (by rw [hlen];exact Nat.mul_pos (by rw [List.length_drop,hl];omega) hpos)
   exact ⟨b,_,_,rfl,hb,hv,hc'.drop lo.toNat (by omega),hat2,cur,E1,fr,hob,hsh E1⟩
end frz
section maps
variable {κ : Type} [DecidableEq κ] {C : Ctx} {S : St} {o : Oper}
theorem Ynd {P:Program}{T kt:TypeId}{k:Kd κ}(ht:MTy P T kt k){w:World}{H:HS}{b:Nat}{m:List (κ×Int)}{es:Array MapEntry}{clock:Nat}(ha:MapAt k w H b m es clock){x:κ}{cs:List Value}(hc:k.C w H x cs){v:Int}(hv:IntKind.i64.has v):
  ∃(es':Array MapEntry) (clock':Nat),(Instr.mapUpdate T (.map (some b)) (mkv k.agg cs) (.int .i64 v)).run P w= .ok () (Z2c w b (.map es' clock'))∧EntC k w H (Z1i m x v) es'.toList∧(∀e∈es'.toList,e.born<clock')∧(es'.toList.map (·.born)).Nodup:=by
 obtain ⟨e,hu,hz⟩:=ht.u
 obtain ⟨l,hl⟩:=ht.key.reads hc
 have hck:=ht.key.law.check w false hl
 rcases Zs4 ht.key ha.2.1 hc with ⟨h1,h2⟩ | ⟨j,en,u,h1,h2,h3,h4,h5,h6⟩
 ·refine ⟨es.push {key:=mkv k.agg cs,val:= .int .i64 v,born:=clock},clock+1,?_,?_,?_,?_⟩
  ·simp [Instr.mapUpdate,run_underlying hu,getObj,setObj,Sem.run,ha.1,hck,h1,Result.andThen,Z2c]
  ·rw [Zrl h2,Array.toList_push]
   exact ha.2.1.push hc hv rfl rfl
  ·intro e he
   rw [Array.toList_push,List.mem_append] at he
   rcases he with he | he
   ·exact Nat.lt_succ_of_lt (ha.2.2.1 e he)
   ·rw [List.mem_singleton.1 he];exact Nat.lt_succ_self _
  ·rw [Array.toList_push,List.map_append,List.nodup_append]
   refine ⟨ha.2.2.2.1,by simp,?_⟩
   intro a h7 c h8 e
   obtain ⟨e',he',rfl⟩:=List.mem_map.1 h7
   have:=ha.2.2.1 e' he'
   simp at h8
   omega
 ·have hst:=ht.key.law.stays w hl
  have hj:es[j]? =some en:=by rw [←Array.getElem?_toList];exact h2
  have e2:(es.modify j fun e=>{e with key:=mkv k.agg cs,val:= .int .i64 v}).toList=es.toList.set j {en with key:=mkv k.agg cs,val:= .int .i64 v}:=by
   rw [Array.toList_modify];exact Zr5 h2
  refine ⟨es.modify j fun e=>{e with key:=mkv k.agg cs,val:= .int .i64 v},clock,?_,?_,?_,?_⟩
  ·simp [Instr.mapUpdate,run_underlying hu,getObj,setObj,Sem.run,ha.1,hck,h1,hj,h4,hst,Result.andThen,Z2c]
  ·rw [e2,Zmz ha.2.2.2.2 h3]
   exact EntC.set hc hv ha.2.1 rfl rfl
  ·intro e' he'
   rw [e2] at he'
   rcases List.mem_or_eq_of_mem_set he' with h | h
   ·exact ha.2.2.1 e' h
   ·rw [h];exact ha.2.2.1 en (List.mem_of_getElem? h2)
  ·have e3:(es.modify j fun e=>{e with key:=mkv k.agg cs,val:= .int .i64 v}).toList.map (·.born)=es.toList.map (·.born):=by
    rw [e2,List.map_set]
    exact Zl2 (by simp [h2])
   rw [e3];exact ha.2.2.2.1
theorem Zxs {T kt:TypeId}{k:Kd κ}{m:List (κ×Int)}{x:κ}{v:Int}{b i:Nat}{p q r:Operand}(ho:o.op= .mapUpdate T p q r)(hd:o.dst=none)(ht:MTy C.P T kt k)(hp:Val C S p (Zg (.map (some b))))(hr:S.r i=Z2d b k m)(hq:Val C S q (rd k x))(hv:Val C S r (rd (Z0 .i64) v)):
  OpE C o S (S.setr i (Z2d b k (Z1i m x v))):=
 OpE.skip (by simp [ho]) fun O a w hh=>by
  have h1:a.eval p= .map (some b):=hp.of hh
  obtain ⟨cs,hc,hq'⟩:=hq.of hh
  obtain ⟨h3,h4⟩:=Z0q (hv.of hh)
  have h5:=hh.res i
  rw [hr] at h5
  obtain ⟨hm,es,clock,ha⟩:=h5
  obtain ⟨es',clock',h6,h7,h8,h9⟩:=Ynd ht ha hc h4
  refine ⟨Z2c w b (.map es' clock'),by simp [execOp,ho,h1,hq',h3,h6,Result.andThen],?_⟩
  rw [hd]
  have hlt:b<w.heap.size:=(Array.getElem?_eq_some_iff.1 ha.1).1
  have hext:Ext w (hid C O) Zl (Z2c w b (.map es' clock')) (hid C O) Zl:=⟨by simp [Z2c],fun c hc hn=>⟨hn,Zfr (fun e=>hn (.inr (by rw [e];have hm':O b=Ro i:=hm;rw [hm'];exact Z0m i)))⟩,fun _ _ h=>h.elim⟩
  exact Zkp (dst:=none) (A:=top) (v:=undef) hh hm (fun _ h=>by cases h) trivial ⟨hm,es',clock',Zi3 hlt,h7.mono hext,h8,h9,Zqu ha.2.2.2.2 _ _⟩
end maps
end Go.Wb
