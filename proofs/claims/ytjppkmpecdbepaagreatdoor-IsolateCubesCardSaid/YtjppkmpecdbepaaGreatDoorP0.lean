/- A part of the proof. -/
import Derived.Test.YtjppkmpecdbepaaGreatDoorG4
set_option linter.unusedVariables false
set_option linter.unusedSimpArgs false
namespace Go.Proofs.YtjppkmpecdbepaaGreatDoor.W
open Go Go.Wb
def Z79 (t p:Int)(x:Ray):Bool:=(x.Left&&decide (x.At=t))&&decide (x.Port=p)
theorem Y1p {α:Type}{l m:List α}(h:l.length+m.length≤lim):Z11 l m=some (l++m):=by
 unfold Z11
 rw [show Nat.ble (l.length+m.length) lim=true from Nat.ble_eq_true_of_le h];rfl
theorem Y4q (t p:Int)(x:Ray):Za8 (⟨t,p⟩:isolate_goal) x=some (Z79 t p x):=by
 unfold Za8 Z79
 congr 1
 cases x.Left
 ·rfl
 ·rw [Bool.true_and,Bool.true_and,←Bool.decide_and]
  refine decide_eq_decide.2 ⟨fun e=>?_,fun ⟨a,b⟩=>by subst a;subst b;rfl⟩
  injection e with a b;exact ⟨a,b⟩
theorem Znn (t p:Int):∀(l:List Ray) (i:Nat) (acc:List Zs),acc.length+l.length≤1000000→
  Z7i (fun x=>Za8 (⟨t,p⟩:isolate_goal) x) Zcr l i acc=some (acc++(l.filter (Z79 t p)).map (·.Cube))
 | [],i,acc,_=>by rw [Z7i];simp
 | x::l,i,acc,h=>by
  have hlim:lim=4294967296:=rfl
  rw [Z7i,Y4q,Option.bind_some]
  rw [List.length_cons] at h
  cases hh:Z79 t p x with
  | true=>
   rw [cond_true]
   unfold Zcr
   rw [Option.bind_some,Y1p (by simp;omega),Option.bind_some]
   have:=Znn t p l (i+1) (acc++[x.Cube]) (by rw [List.length_append,List.length_singleton];omega)
   unfold Zcr at this
   rw [this,List.filter_cons,hh];simp
  | false=>
   rw [cond_false,Znn t p l (i+1) acc (by omega),List.filter_cons,hh];simp
theorem Yhg (l:List Ray)(t p:Int)(h:l.length≤300):Zaq l t p=some ((l.filter (Z79 t p)).map (·.Cube)):=by
 unfold Zaq Zmd
 rw [Znn t p l 0 [] (by simp;omega)];rfl
theorem Ztt (l:List Ray)(t p:Int)(h:l.length≤300):∀(m i:Nat) (acc:List Zs),i≤l.length→l.length<i+m→acc.length≤i→
  Z9g l t p m acc (i:Int)=some (acc++((l.drop i).filter (Z79 t p)).map (·.Cube))
 | 0,i,acc,h1,h2,_=>by omega
 | m+1,i,acc,h1,h2,h3=>by
  have hlim:lim=4294967296:=rfl
  have hw:IntKind.i64.wrap ((i:Int)+1)=((i+1:Nat):Int):=by rw [Yhe (by omega) (by omega)];omega
  rw [Z9g]
  by_cases hi:i<l.length
  ·have hg:lget l (i:Int)=some l[i]:=by rw [Zxa,List.getElem?_eq_getElem hi]
   rw [decide_eq_true (by omega),cond_true,hg,Option.bind_some,List.drop_eq_getElem_cons hi,List.filter_cons]
   have ho:∀b:Bool,∃y,opt b (some l[i])=some y∧(b=true→y=l[i]):=fun b=>by
    cases b
    ·exact ⟨_,rfl,fun e=>by cases e⟩
    ·exact ⟨_,rfl,fun _=>rfl⟩
   obtain ⟨y,hy,ey⟩:=ho l[i].Left
   rw [hy,Option.bind_some]
   obtain ⟨z,hz,ez⟩:=ho (l[i].Left&&decide (y.At=t))
   rw [hz,Option.bind_some]
   have e:((l[i].Left&&decide (y.At=t))&&decide (z.Port=p))=Z79 t p l[i]:=by
    unfold Z79
    cases hL:l[i].Left with
    | false=>simp
    | true=>
     have e1:=ey hL
     subst e1
     cases hA:decide (l[i].At=t) with
     | false=>simp
     | true=>
      rw [ez (by rw [hL,hA];rfl)]
   rw [e]
   cases hh:Z79 t p l[i] with
   | true=>
    rw [cond_true,Option.bind_some,Y1p (by simp;omega),Option.bind_some,hw,Ztt l t p h m (i+1) _ (by omega) (by omega) (by simp;omega)];simp
   | false=>
    rw [cond_false,hw,Ztt l t p h m (i+1) acc (by omega) (by omega) (by omega)];simp
  ·rw [decide_eq_false (by omega),cond_false,List.drop_of_length_le (by omega)];simp
theorem Yd0 (l:List Ray)(t p:Int)(h:l.length≤300):Zfq l t p=some ((l.filter (Z79 t p)).map (·.Cube)):=by
 unfold Zfq
 have:=Ztt l t p h ((((l.length:Int):Int) - 0).toNat+1) 0 [] (by omega) (by omega) (by simp)
 rw [show ((0:Nat):Int)=0 from rfl,List.drop_zero,List.nil_append] at this
 exact this
theorem Zxn (s:List Zs):∀(m i:Nat),i+m=s.length→Zab s s m i=some true
 | 0,i,h=>rfl
 | m+1,i,h=>by
  have hg:lget s (i:Int)=some s[i]:=by rw [Zxa,List.getElem?_eq_getElem (by omega)]
  rw [Zab,hg,Option.bind_some,Option.bind_some,decide_eq_false (by simp),cond_false]
  exact Zxn s m (i+1) (by omega)
theorem Ykl (s:List Zs):Zfv s s=some true:=by
 unfold Zfv
 rw [decide_eq_false (by simp),cond_false]
 exact Zxn s _ 0 (by omega)
theorem Y8i:Zh0=some true:=by decide+kernel
theorem Y4z (l:List Ray)(t p:Int):Zea l t p=some true:=by
 unfold Zea
 rw [Y8i]
 by_cases h:(l.length:Int)>300
 ·rw [decide_eq_true h];rfl
 ·rw [decide_eq_false h,cond_false,Yhg l t p (by omega),Option.bind_some,Yd0 l t p (by omega),Option.bind_some,Ykl];rfl
end Go.Proofs.YtjppkmpecdbepaaGreatDoor.W
