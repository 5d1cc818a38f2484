/- A part of the proof. -/
import Derived.Test.YtinplddjjalohaaGreatDoorG3
set_option linter.unusedVariables false
set_option linter.unusedSimpArgs false
namespace Go.Proofs.YtinplddjjalohaaGreatDoor.W
open Go Go.Wb
abbrev big:Nat:=1000000
theorem Z5o {α:Type}(P Q:List α)(x:α)(i:Int)(h:i=(P.length:Int)):lget (P++x::Q) i=some x:=by
 subst h
 rw [Z6j,List.getElem?_append_right (Nat.le_refl _)];simp
theorem Z9e {α:Type}(P Q:List α)(x y:α)(i:Nat)(h:i=P.length):List.set (P++x::Q) i y=P++y::Q:=by
 subst h
 rw [List.set_append_right _ _ (Nat.le_refl _)];simp
theorem wr {n:Int}(h1: -4611686018427387904≤n)(h2:n≤4611686018427387904):IntKind.i64.wrap n=n:=Z2r (by omega) (by omega)
theorem Zcm (n:Nat)(h:n≤4611686018427387904):IntKind.i64.wrap ((BitVec.ofNat 64 n).toNat:Int)=(n:Int):=by
 have:(BitVec.ofNat 64 n).toNat=n:=by rw [BitVec.toNat_ofNat];omega
 rw [this,wr (by omega) (by omega)]
theorem Zpu (k:Int)(n:Nat)(hk:k=(n:Int))(h:n≤4611686018427387904):Z3s (BitVec.ofInt 64 (IntKind.i64.wrap k)) ((1:BitVec 64).toNat:Int)=some (BitVec.ofNat 64 (n / 2)):=by
 subst hk
 rw [wr (by omega) (by omega),show ((1:BitVec 64).toNat:Int)=((1:Nat):Int) from rfl]
 unfold Z3s
 rw [decide_eq_false (by omega),cond_false,BitVec.ofInt_natCast,Int.toNat_natCast]
 congr 1
 apply BitVec.eq_of_toNat_eq
 rw [BitVec.toNat_ushiftRight,BitVec.toNat_ofNat,BitVec.toNat_ofNat,Nat.shiftRight_eq_div_pow]
 omega
theorem Zz4 (n a b:Nat):∀(U V P M Q:List Action) (i f:Nat),U.length=V.length→P.length=a+i→P.length+U.length+M.length=b+i→i+U.length=n→U.length<f→(P++U++M++V++Q).length≤big→
  Zef (n:Int) (b:Int) (a:Int) f (P++U++M++V++Q) (i:Int)=some (P++V++M++U++Q)
 | [],V,P,M,Q,i,f,h1,h2,h3,h4,h5,h6=>by
  have hV:V=[]:=List.eq_nil_of_length_eq_zero (by simpa using h1.symm)
  subst hV
  obtain ⟨f,rfl⟩:∃k,f=k+1:=⟨f - 1,by simp at h5;omega⟩
  rw [Zef,decide_eq_false (by simp at h4;omega),cond_false]
 | u::U,[],P,M,Q,i,f,h1,h2,h3,h4,h5,h6=>by simp at h1
 | u::U,v::V,P,M,Q,i,f,h1,h2,h3,h4,h5,h6=>by
  obtain ⟨f,rfl⟩:∃k,f=k+1:=⟨f - 1,by simp at h5;omega⟩
  simp only [List.length_cons,List.length_append] at h1 h3 h4 h5 h6
  have hbig:big=1000000:=rfl
  have ea:IntKind.i64.wrap ((a:Int)+(i:Int))=(P.length:Int):=by rw [wr (by omega) (by omega)];omega
  have eb:IntKind.i64.wrap ((b:Int)+(i:Int))=((P++u::U++M).length:Int):=by
   rw [wr (by omega) (by omega)];simp only [List.length_append,List.length_cons];omega
  have e1:P++u::U++M++v::V++Q=(P++u::U++M)++v::(V++Q):=by simp
  have e2:P++u::U++M++v::V++Q=P++u::(U++M++v::V++Q):=by simp
  have e3:P++v::(U++M++v::V++Q)=(P++v::U++M)++v::(V++Q):=by simp
  have e4:(P++v::U++M)++u::(V++Q)=(P++[v])++U++(M++[u])++V++Q:=by simp
  have g1:lget (P++u::U++M++v::V++Q) ((P++u::U++M).length:Int)=some v:=by rw [e1];exact Z5o _ _ _ _ rfl
  have g2:lget (P++u::U++M++v::V++Q) (P.length:Int)=some u:=by rw [e2];exact Z5o _ _ _ _ rfl
  have s1:List.set (P++u::U++M++v::V++Q) ((P.length:Int)).toNat v=(P++v::U++M)++v::(V++Q):=by
   rw [e2,Int.toNat_natCast,Z9e _ _ _ _ _ rfl,e3]
  have hl:(P++u::U++M).length=(P++v::U++M).length:=by simp
  have g3:lget ((P++v::U++M)++v::(V++Q)) ((P++u::U++M).length:Int)=some v:=Z5o _ _ _ _ (by rw [hl])
  have s2:List.set ((P++v::U++M)++v::(V++Q)) (((P++u::U++M).length:Int)).toNat u=(P++[v])++U++(M++[u])++V++Q:=by
   rw [Int.toNat_natCast,Z9e _ _ _ _ _ hl,e4]
  have ei:IntKind.i64.wrap ((i:Int)+1)=((i+1:Nat):Int):=by rw [wr (by omega) (by omega)];omega
  rw [Zef,decide_eq_true (by omega),cond_true,eb,g1,Option.bind_some,ea,g2,Option.bind_some,Option.bind_some,s1,g3,Option.bind_some,s2,ei,
   Zz4 n a b U V (P++[v]) (M++[u]) Q (i+1) f (by omega) (by simp only [List.length_append,List.length_cons,List.length_nil];omega) (by simp only [List.length_append,List.length_cons,List.length_nil];omega) (by omega) (by omega) (by simp only [List.length_append,List.length_cons,List.length_nil];omega)]
  simp
theorem Zsk (U V P M Q:List Action)(cmp:Action→Action→Option Int)(a b n:Int)(h:U.length=V.length)(ha:a=(P.length:Int))(hb:b=((P++U++M).length:Int))(hn:n=(U.length:Int))(hl:(P++U++M++V++Q).length≤big):
  Zd9 (P++U++M++V++Q) a b n cmp=some (P++V++M++U++Q):=by
 subst ha hb hn
 unfold Zd9
 exact Zz4 U.length P.length (P++U++M).length U V P M Q 0 _ h rfl (by simp only [List.length_append];omega) (by omega) (by omega) hl
theorem Zyx (cmp:Action→Action→Option Int):∀(f:Nat) (X Y P Q:List Action) (m:Nat),0<X.length→0<Y.length→X.length+Y.length≤f→P.length+X.length=m→(P++X++Y++Q).length≤big→
  Zdx (m:Int) cmp f (P++X++Y++Q) (X.length:Int) (Y.length:Int)=some (P++Y++X++Q)
 | 0,X,Y,P,Q,m,h1,h2,h3,h4,h5=>by omega
 | f+1,X,Y,P,Q,m,h1,h2,h3,h4,h5=>by
  have hbig:big=1000000:=rfl
  simp only [List.length_append] at h5
  have em:IntKind.i64.wrap ((m:Int) - (X.length:Int))=(P.length:Int):=by rw [wr (by omega) (by omega)];omega
  rw [Zdx,em]
  by_cases he:X.length=Y.length
  ·rw [decide_eq_false (by omega),cond_false]
   have:=Zsk X Y P [] Q cmp (P.length:Int) (m:Int) (X.length:Int) he rfl (by simp;omega) rfl (by simp only [List.length_append,List.length_nil];omega)
   simp only [List.append_nil] at this
   rw [this];rfl
  ·rw [decide_eq_true (by omega),cond_true]
   by_cases hg:X.length>Y.length
   ·rw [decide_eq_true (by omega),cond_true]
    have hx:X=X.take Y.length++X.drop Y.length:=(List.take_append_drop ..).symm
    generalize hX1:X.take Y.length=X1 at hx
    generalize hX2:X.drop Y.length=X2 at hx
    have l1:X1.length=Y.length:=by rw [←hX1];simp;omega
    have l2:X2.length=X.length - Y.length:=by rw [←hX2];simp
    have:=Zsk X1 Y P X2 Q cmp (P.length:Int) (m:Int) (Y.length:Int) l1 rfl (by simp only [List.length_append];omega) (by omega) (by simp only [List.length_append];omega)
    have e1:P++X++Y++Q=P++X1++X2++Y++Q:=by rw [hx];simp
    have e2:P++Y++X2++X1++Q=(P++Y)++X2++X1++Q:=by simp
    have e3:IntKind.i64.wrap ((X.length:Int) - (Y.length:Int))=(X2.length:Int):=by rw [wr (by omega) (by omega)];omega
    have e4:((Y.length:Nat):Int)=(X1.length:Int):=by omega
    rw [e1,this,Option.bind_some,e2,e3,e4,Zyx cmp f X2 X1 (P++Y) Q m (by omega) (by omega) (by omega) (by simp only [List.length_append];omega) (by simp only [List.length_append];omega)]
    rw [hx];simp
   ·rw [decide_eq_false (by omega),cond_false]
    have hy:Y=Y.take (Y.length - X.length)++Y.drop (Y.length - X.length):=(List.take_append_drop ..).symm
    generalize hY1:Y.take (Y.length - X.length)=Y1 at hy
    generalize hY2:Y.drop (Y.length - X.length)=Y2 at hy
    have l1:Y1.length=Y.length - X.length:=by rw [←hY1];simp
    have l2:Y2.length=X.length:=by rw [←hY2];simp;omega
    have hb:IntKind.i64.wrap (IntKind.i64.wrap ((m:Int)+(Y.length:Int)) - (X.length:Int))=((P++X++Y1).length:Int):=by
     rw [wr (n:=(m:Int)+(Y.length:Int)) (by omega) (by omega),wr (by omega) (by omega)];simp only [List.length_append];omega
    have:=Zsk X Y2 P Y1 Q cmp (P.length:Int) ((P++X++Y1).length:Int) (X.length:Int) (by omega) rfl rfl rfl (by simp only [List.length_append];omega)
    have e1:P++X++Y++Q=P++X++Y1++Y2++Q:=by rw [hy];simp
    have e2:P++Y2++Y1++X++Q=P++Y2++Y1++(X++Q):=by simp
    have e3:IntKind.i64.wrap ((Y.length:Int) - (X.length:Int))=(Y1.length:Int):=by rw [wr (by omega) (by omega)];omega
    have e4:((X.length:Nat):Int)=(Y2.length:Int):=by omega
    rw [hb,e1,this,Option.bind_some,e2,e3,e4,Zyx cmp f Y2 Y1 P (X++Q) m (by omega) (by omega) (by omega) (by omega) (by simp only [List.length_append];omega)]
    rw [hy];simp
theorem Yfg (cmp:Action→Action→Option Int)(X Y P Q:List Action)(a m b:Int)(h1:0<X.length)(h2:0<Y.length)(ha:a=(P.length:Int))(hm:m=((P++X).length:Int))(hb:b=((P++X++Y).length:Int))(hl:(P++X++Y++Q).length≤big):
  Zg1 (P++X++Y++Q) a m b cmp=some (P++Y++X++Q):=by
 subst ha hm hb
 have hbig:big=1000000:=rfl
 simp only [List.length_append] at hl
 unfold Zg1
 have e1:IntKind.i64.wrap (((P++X).length:Int) - (P.length:Int))=(X.length:Int):=by rw [wr (by simp only [List.length_append];omega) (by simp only [List.length_append];omega)];simp only [List.length_append];omega
 have e2:IntKind.i64.wrap (((P++X++Y).length:Int) - ((P++X).length:Int))=(Y.length:Int):=by rw [wr (by simp only [List.length_append];omega) (by simp only [List.length_append];omega)];simp only [List.length_append];omega
 rw [e1,e2]
 exact Zyx cmp Z0s X Y P Q _ h1 h2 (by unfold Z0s;omega) (by simp) (by simp only [List.length_append];omega)
theorem Zmx {β:Type}(G:Nat→Int→Int→Option β)(K:Int→Option β)(t:Nat→Bool)(lo s hi:Nat)
  (step:∀(f i j:Nat),lo≤i→i<j→j≤hi→G (f+1) (i:Int) (j:Int)=bif t ((i+j) / 2) then G f (((i+j) / 2+1:Nat):Int) (j:Int) else G f (i:Int) (((i+j) / 2:Nat):Int))
  (stop:∀(f i:Nat),lo≤i→i≤hi→G (f+1) (i:Int) (i:Int)=K (i:Int))(ht:∀c,lo≤c→c<s→t c=true)(hf:∀c,s≤c→c<hi→t c=false):
  ∀(f i j:Nat),lo≤i→i≤s→s≤j→j≤hi→j - i<f→G f (i:Int) (j:Int)=K (s:Int)
 | 0,i,j,_,_,_,_,h=>by omega
 | f+1,i,j,h1,h2,h3,h4,h5=>by
  by_cases hij:i<j
  ·rw [step f i j h1 hij h4]
   by_cases hc:(i+j) / 2<s
   ·rw [ht _ (by omega) hc,cond_true]
    exact Zmx G K t lo s hi step stop ht hf f _ j (by omega) (by omega) h3 h4 (by omega)
   ·rw [hf _ (by omega) (by omega),cond_false]
    exact Zmx G K t lo s hi step stop ht hf f i _ h1 h2 (by omega) (by omega) (by omega)
  ·have e1:i=s:=by omega
   have e2:j=s:=by omega
   rw [e1,e2]
   exact stop f s (by omega) (by omega)
theorem Zpp (t:Nat→Bool)(lo:Nat):∀(n:Nat),(∀c d,lo≤c→c≤d→d<lo+n→t c=false→t d=false)→∃s,lo≤s∧s≤lo+n∧(∀c,lo≤c→c<s→t c=true)∧∀c,s≤c→c<lo+n→t c=false
 | 0,_=>⟨lo,Nat.le_refl _,Nat.le_refl _,fun c h1 h2=>by omega,fun c h1 h2=>by omega⟩
 | n+1,hm=>by
  obtain ⟨s,h1,h2,h3,h4⟩:=Zpp t lo n fun c d a b e f=>hm c d a b (by omega) f
  by_cases hs:s<lo+n
  ·refine ⟨s,h1,by omega,h3,fun c a b=>?_⟩
   by_cases hc:c<lo+n
   ·exact h4 c a hc
   ·exact hm s c h1 a b (h4 s (Nat.le_refl _) hs)
  ·have:s=lo+n:=by omega
   subst this
   cases ht:t (lo+n)
   ·exact ⟨lo+n,h1,by omega,h3,fun c a b=>by rw [show c=lo+n by omega,ht]⟩
   ·refine ⟨lo+n+1,by omega,by omega,fun c a b=>?_,fun c a b=>by omega⟩
    by_cases hc:c<lo+n
    ·exact h3 c a hc
    ·have:c=lo+n:=by omega
     rw [this,ht]
end Go.Proofs.YtinplddjjalohaaGreatDoor.W
namespace Go.Proofs.YtinplddjjalohaaGreatDoor.W
open Go Go.Wb
section sym
variable (lt : Action → Action → Bool) (cmp : Action → Action → Option Int)
def Z6u:Prop:= ∀x y,∃c,cmp x y=some c∧decide (c<0)=lt x y
variable {lt cmp}
theorem Zzc (e:Nat):∀(Y P Q:List Action) (x:Action) (k f:Nat),k=P.length→k+Y.length+1=e→Y.length<f→(P++x::(Y++Q)).length≤big→
  Z9r (e:Int) f (P++x::(Y++Q)) (k:Int)=some (P++Y++x::Q)
 | [],P,Q,x,k,f,h1,h2,h3,h4=>by
  obtain ⟨f,rfl⟩:∃k,f=k+1:=⟨f - 1,by simp at h3;omega⟩
  have hbig:big=1000000:=rfl
  simp only [List.length_append,List.length_cons,List.length_nil] at h2 h4
  rw [Z9r,wr (by omega) (by omega),decide_eq_false (by omega),cond_false]
  simp
 | y::Y,P,Q,x,k,f,h1,h2,h3,h4=>by
  obtain ⟨f,rfl⟩:∃k,f=k+1:=⟨f - 1,by simp at h3;omega⟩
  have hbig:big=1000000:=rfl
  simp only [List.length_append,List.length_cons] at h2 h3 h4
  have ek:IntKind.i64.wrap ((k:Int)+1)=((k+1:Nat):Int):=by rw [wr (by omega) (by omega)];omega
  have e1:P++x::(y::Y++Q)=(P++[x])++y::(Y++Q):=by simp
  have e2:(P++[y])++y::(Y++Q)=P++y::(y::(Y++Q)):=by simp
  have g1:lget (P++x::(y::Y++Q)) ((k+1:Nat):Int)=some y:=by rw [e1];exact Z5o _ _ _ _ (by simp;omega)
  have g2:lget (P++x::(y::Y++Q)) (k:Int)=some x:=Z5o _ _ _ _ (by omega)
  have s1:List.set (P++x::(y::Y++Q)) ((k:Int)).toNat y=(P++[y])++y::(Y++Q):=by rw [Int.toNat_natCast,Z9e _ _ _ _ _ h1];simp
  have g3:lget ((P++[y])++y::(Y++Q)) ((k+1:Nat):Int)=some y:=Z5o _ _ _ _ (by simp;omega)
  have s2:List.set ((P++[y])++y::(Y++Q)) (((k+1:Nat):Int)).toNat x=(P++[y])++x::(Y++Q):=by rw [Int.toNat_natCast,Z9e _ _ _ _ _ (by simp;omega)]
  rw [Z9r,wr (n:=(e:Int) - 1) (by omega) (by omega),decide_eq_true (by omega),cond_true,ek,g1,Option.bind_some,g2,Option.bind_some,Option.bind_some,s1,g3,Option.bind_some,s2,
   Zzc e Y (P++[y]) Q x (k+1) f (by simp;omega) (by omega) (by omega) (by simp only [List.length_append,List.length_cons,List.length_nil];omega)]
  simp
theorem Y30 (s:Nat):∀(R P Q:List Action) (x:Action) (k f:Nat),k=s+R.length→P.length=s→R.length<f→(P++R.reverse++x::Q).length≤big→
  Z9k (s:Int) f (P++R.reverse++x::Q) (k:Int)=some (P++x::(R.reverse++Q))
 | [],P,Q,x,k,f,h1,h2,h3,h4=>by
  obtain ⟨f,rfl⟩:∃k,f=k+1:=⟨f - 1,by simp at h3;omega⟩
  rw [Z9k,decide_eq_false (by simp at h1;omega),cond_false]
  simp
 | y::R,P,Q,x,k,f,h1,h2,h3,h4=>by
  obtain ⟨f,rfl⟩:∃k,f=k+1:=⟨f - 1,by simp at h3;omega⟩
  have hbig:big=1000000:=rfl
  simp only [List.length_append,List.length_cons,List.length_reverse] at h1 h3 h4
  have ek:IntKind.i64.wrap ((k:Int) - 1)=((k - 1:Nat):Int):=by rw [wr (by omega) (by omega)];omega
  have e1:P++(y::R).reverse++x::Q=(P++R.reverse)++y::(x::Q):=by simp
  have e1':P++(y::R).reverse++x::Q=(P++R.reverse++[y])++x::Q:=by simp
  have g1:lget (P++(y::R).reverse++x::Q) ((k - 1:Nat):Int)=some y:=by rw [e1];exact Z5o _ _ _ _ (by simp;omega)
  have g2:lget (P++(y::R).reverse++x::Q) (k:Int)=some x:=by rw [e1'];exact Z5o _ _ _ _ (by simp;omega)
  have s1:List.set (P++(y::R).reverse++x::Q) ((k:Int)).toNat y=(P++R.reverse)++y::(y::Q):=by rw [e1',Int.toNat_natCast,Z9e _ _ _ _ _ (by simp;omega)];simp
  have g3:lget ((P++R.reverse)++y::(y::Q)) ((k - 1:Nat):Int)=some y:=Z5o _ _ _ _ (by simp;omega)
  have s2:List.set ((P++R.reverse)++y::(y::Q)) (((k - 1:Nat):Int)).toNat x=P++R.reverse++x::(y::Q):=by rw [Int.toNat_natCast,Z9e _ _ _ _ _ (by simp;omega)]
  rw [Z9k,decide_eq_true (by omega),cond_true,ek,g1,Option.bind_some,g2,Option.bind_some,Option.bind_some,s1,g3,Option.bind_some,s2,
   Y30 s R P (y::Q) x (k - 1) f (by omega) h2 (by omega) (by simp only [List.length_append,List.length_cons,List.length_reverse];omega)]
  simp
theorem Zrm {α:Type}(P X Q:List α)(c:Nat)(h1:P.length≤c)(h2:c<P.length+X.length):lget (P++X++Q) (c:Int)=some (X[c - P.length]'(by omega)):=by
 rw [Z6j,List.append_assoc,List.getElem?_append_right h1,List.getElem?_append_left (by omega),List.getElem?_eq_getElem]
theorem Ymw {l:List Action}(h:Z1j lt l){i j:Nat}(hi:i<l.length)(hj:j<l.length)(hij:i<j):lt l[j] l[i]=false:=(List.pairwise_iff_getElem.1 h) i j hi hj hij
theorem Zbm (hs:Swo lt){l:List Action}(h:Z1j lt l){i j:Nat}(hi:i<l.length)(hj:j<l.length)(hij:i≤j):lt l[j] l[i]=false:=by
 rcases Nat.lt_or_eq_of_le hij with h1 | h1
 ·exact Ymw h hi hj h1
 ·subst h1
  have:=Z8z hs l[i]
  unfold eqv at this
  simpa using this
theorem Zpd {A B:List Action}(h:Z1j lt (A++B)):Z1j lt A:=(List.pairwise_append.1 h).1
theorem Zqo {A B:List Action}(h:Z1j lt (A++B)):Z1j lt B:=(List.pairwise_append.1 h).2.1
theorem Yti (hs:Swo lt)(hc:Z6u lt cmp)(x:Action)(Y P Q:List Action)(hY:Z1j lt Y)(hl:(P++x::(Y++Q)).length≤big):
  Z9n (P++x::(Y++Q)) (P.length:Int) cmp ((((P.length+1+Y.length:Nat):Int) - ((P.length+1:Nat):Int)).toNat+1) ((P.length+1:Nat):Int) ((P.length+1+Y.length:Nat):Int)=some (P++srt lt (x::Y)++Q):=by
 have hbig:big=1000000:=rfl
 simp only [List.length_append,List.length_cons] at hl
 have eD:P++x::(Y++Q)=(P++[x])++Y++Q:=by simp
 let t:Nat→Bool:=fun c=>if h:c - (P.length+1)<Y.length then lt Y[c - (P.length+1)] x else false
 have htv:∀c (h:c - (P.length+1)<Y.length),t c=lt Y[c - (P.length+1)] x:=fun c h=>by simp only [t];rw [dif_pos h]
 obtain ⟨s,s1,s2,s3,s4⟩:=Zpp t (P.length+1) Y.length fun c d h1 h2 h3 h4=>by
  rw [htv c (by omega)] at h4
  rw [htv d (by omega)]
  exact hs.neg _ _ _ (Zbm hs hY (by omega) (by omega) (by omega)) h4
 have key:=Zmx (Z9n (P++x::(Y++Q)) (P.length:Int) cmp) (fun i=>Z9r i ((((IntKind.i64.wrap (i - 1)):Int) - (P.length:Int)).toNat+1) (P++x::(Y++Q)) (P.length:Int)) t (P.length+1) s (P.length+1+Y.length)
  (fun f i j h1 h2 h3=>by
   obtain ⟨c,hc1,hc2⟩:=hc (Y[(i+j) / 2 - (P.length+1)]'(by omega)) x
   have gx:lget (P++x::(Y++Q)) (P.length:Int)=some x:=Z5o _ _ _ _ rfl
   have gy:lget (P++x::(Y++Q)) (((i+j) / 2:Nat):Int)=some (Y[(i+j) / 2 - (P.length+1)]'(by omega)):=by
    rw [eD,Zrm (P++[x]) Y Q _ (by simp;omega) (by simp;omega)]
    simp
   have e1:IntKind.i64.wrap ((((i+j) / 2:Nat):Int)+1)=(((i+j) / 2+1:Nat):Int):=by rw [wr (by omega) (by omega)];omega
   rw [Z9n,decide_eq_true (by omega),cond_true,Zpu _ (i+j) (by omega) (by omega),Option.bind_some,Zcm _ (by omega),gy,Option.bind_some,gx,Option.bind_some,hc1,Option.bind_some,hc2,htv _ (by omega),e1])
  (fun f i h1 h2=>by rw [Z9n,decide_eq_false (by omega),cond_false]) s3 (fun c h1 h2=>s4 c h1 h2)
 rw [key _ _ _ (Nat.le_refl _) s1 s2 (Nat.le_refl _) (by omega)]
 have hy:Y=Y.take (s - (P.length+1))++Y.drop (s - (P.length+1)):=(List.take_append_drop ..).symm
 have l1:(Y.take (s - (P.length+1))).length=s - (P.length+1):=by simp;omega
 have hm:=Zzc s (Y.take (s - (P.length+1))) P (Y.drop (s - (P.length+1))++Q) x P.length ((((IntKind.i64.wrap ((s:Int) - 1)):Int) - (P.length:Int)).toNat+1) rfl (by omega) (by rw [wr (by omega) (by omega)];omega) (by simp only [List.length_append,List.length_cons,List.length_drop];omega)
 rw [←List.append_assoc,←hy] at hm
 show Z9r (s:Int) _ _ _=_
 rw [hm]
 have h1:∀y∈Y.take (s - (P.length+1)),lt y x=true:=fun y hy1=>by
  obtain ⟨i,hi,rfl⟩:=List.getElem_of_mem hy1
  rw [l1] at hi
  have:=s3 (i+(P.length+1)) (by omega) (by omega)
  rw [htv _ (by omega)] at this
  simpa using this
 have h2:∀y∈Y.drop (s - (P.length+1)),lt y x=false:=fun y hy1=>by
  obtain ⟨i,hi,rfl⟩:=List.getElem_of_mem hy1
  rw [List.length_drop] at hi
  have:=s4 (s+i) (by omega) (by omega)
  rw [htv _ (by omega)] at this
  rw [List.getElem_drop]
  have e:s+i - (P.length+1)=s - (P.length+1)+i:=by omega
  simpa [e] using this
 have hY':=hY
 rw [hy] at hY'
 have h3:=Zte hs (X1:=[]) (X2:=[x]) (Y1:=Y.take (s - (P.length+1))) (Y2:=Y.drop (s - (P.length+1))) (by simp [Z1j]) hY' (by simp) (fun y hy1 u hu=>by rw [show u=x by simpa using hu];exact h1 y hy1)
 simp only [List.nil_append,←hy] at h3
 have h4:srt lt ([x]++Y.drop (s - (P.length+1)))=[x]++Y.drop (s - (P.length+1)):=Zg2 hs (by
  unfold Z1j
  rw [List.pairwise_append]
  exact ⟨by simp,(Zqo hY'),fun u hu v hv=>by rw [show u=x by simpa using hu];exact h2 v hv⟩)
 rw [h4,Zg2 hs (Zpd hY')] at h3
 rw [show x::Y=[x]++Y from rfl,h3]
 simp
theorem Ydy (hs:Swo lt)(hc:Z6u lt cmp)(x:Action)(X P Q:List Action)(hX:Z1j lt X)(hl:(P++X++x::Q).length≤big):
  Za3 (P++X++x::Q) ((P.length+X.length:Nat):Int) cmp ((((P.length+X.length:Nat):Int) - (P.length:Int)).toNat+1) (P.length:Int) ((P.length+X.length:Nat):Int)=some (P++srt lt (X++[x])++Q):=by
 have hbig:big=1000000:=rfl
 simp only [List.length_append,List.length_cons] at hl
 let t:Nat→Bool:=fun c=>if h:c - P.length<X.length then !lt x X[c - P.length] else false
 have htv:∀c (h:c - P.length<X.length),t c= !lt x X[c - P.length]:=fun c h=>by simp only [t];rw [dif_pos h]
 obtain ⟨s,s1,s2,s3,s4⟩:=Zpp t P.length X.length fun c d h1 h2 h3 h4=>by
  rw [htv c (by omega)] at h4
  rw [htv d (by omega)]
  simp only [Bool.not_eq_false'] at h4 ⊢
  cases hd:lt x X[d - P.length]
  ·have:=hs.neg _ _ _ hd (Zbm hs hX (i:=c - P.length) (j:=d - P.length) (by omega) (by omega) (by omega))
   rw [this] at h4;cases h4
  ·rfl
 have key:=Zmx (Za3 (P++X++x::Q) ((P.length+X.length:Nat):Int) cmp) (fun i=>Z9k i (((((P.length+X.length:Nat):Int):Int) - i).toNat+1) (P++X++x::Q) ((P.length+X.length:Nat):Int)) t P.length s (P.length+X.length)
  (fun f i j h1 h2 h3=>by
   obtain ⟨c,hc1,hc2⟩:=hc x (X[(i+j) / 2 - P.length]'(by omega))
   have gx:lget (P++X++x::Q) ((P.length+X.length:Nat):Int)=some x:=Z5o _ _ _ _ (by simp)
   have gy:lget (P++X++x::Q) (((i+j) / 2:Nat):Int)=some (X[(i+j) / 2 - P.length]'(by omega)):=Zrm P X (x::Q) _ (by omega) (by omega)
   have e1:IntKind.i64.wrap ((((i+j) / 2:Nat):Int)+1)=(((i+j) / 2+1:Nat):Int):=by rw [wr (by omega) (by omega)];omega
   rw [Za3,decide_eq_true (by omega),cond_true,Zpu _ (i+j) (by omega) (by omega),Option.bind_some,Zcm _ (by omega),gx,Option.bind_some,gy,Option.bind_some,hc1,Option.bind_some,hc2,htv _ (by omega),e1])
  (fun f i h1 h2=>by rw [Za3,decide_eq_false (by omega),cond_false]) s3 (fun c h1 h2=>s4 c h1 h2)
 rw [key _ _ _ (Nat.le_refl _) s1 s2 (Nat.le_refl _) (by omega)]
 have hx:X=X.take (s - P.length)++X.drop (s - P.length):=(List.take_append_drop ..).symm
 have l1:(X.take (s - P.length)).length=s - P.length:=by simp;omega
 have hm:=Y30 s (X.drop (s - P.length)).reverse (P++X.take (s - P.length)) Q x (P.length+X.length) (((((P.length+X.length:Nat):Int):Int) - (s:Int)).toNat+1) (by simp;omega) (by simp;omega) (by simp;omega) (by simp only [List.length_append,List.length_cons,List.length_reverse,List.length_drop,List.length_take];omega)
 rw [List.reverse_reverse,List.append_assoc P,←hx] at hm
 show Z9k (s:Int) _ _ _=_
 rw [hm]
 have h1:∀u∈X.take (s - P.length),lt x u=false:=fun u hu=>by
  obtain ⟨i,hi,rfl⟩:=List.getElem_of_mem hu
  rw [l1] at hi
  have:=s3 (i+P.length) (by omega) (by omega)
  rw [htv _ (by omega)] at this
  simpa using this
 have h2:∀u∈X.drop (s - P.length),lt x u=true:=fun u hu=>by
  obtain ⟨i,hi,rfl⟩:=List.getElem_of_mem hu
  rw [List.length_drop] at hi
  have:=s4 (s+i) (by omega) (by omega)
  rw [htv _ (by omega)] at this
  rw [List.getElem_drop]
  have e:s+i - P.length=s - P.length+i:=by omega
  simpa [e] using this
 have hX':=hX
 rw [hx] at hX'
 have h3:=Zte hs (X1:=X.take (s - P.length)) (X2:=X.drop (s - P.length)) (Y1:=[x]) (Y2:=[]) hX' (by simp [Z1j]) (by simp) (fun y hy1 u hu=>by rw [show y=x by simpa using hy1];exact h2 u hu)
 simp only [List.append_nil,←hx] at h3
 have h4:srt lt (X.take (s - P.length)++[x])=X.take (s - P.length)++[x]:=Zg2 hs (by
  unfold Z1j
  rw [List.pairwise_append]
  exact ⟨(Zpd hX'),by simp,fun u hu v hv=>by rw [show v=x by simpa using hv];exact h1 u hu⟩)
 rw [h4,Zg2 hs (Zqo hX')] at h3
 rw [h3]
 simp
end sym
end Go.Proofs.YtinplddjjalohaaGreatDoor.W
namespace Go.Proofs.YtinplddjjalohaaGreatDoor.W
open Go Go.Wb
section sym
variable {lt : Action → Action → Bool} {cmp : Action → Action → Option Int}
def Zol (lt:Action→Action→Bool)(cmp:Action→Action→Option Int)(f:Nat)(R:List Action→Int→Int→Int→(Action→Action→Option Int)→Option (List Action)):Prop:=
 ∀(P X Y Q:List Action) (a m b:Int),a=(P.length:Int)→m=(P.length:Int)+(X.length:Int)→b=(P.length:Int)+(X.length:Int)+(Y.length:Int)→0<X.length→0<Y.length→X.length+Y.length≤f→Z1j lt X→Z1j lt Y→(P++X++Y++Q).length≤big→
  R (P++X++Y++Q) a m b cmp=some (P++srt lt (X++Y)++Q)
theorem Y0x (hs:Swo lt){X Y:List Action}(hX:Z1j lt X)(hY:Z1j lt Y)(h:¬(0<X.length∧0<Y.length)):srt lt (X++Y)=X++Y:=by
 cases X with
 | nil=>exact Zg2 hs hY
 | cons x X=>
  cases Y with
  | nil=>rw [List.append_nil];exact Zg2 hs hX
  | cons y Y=>exact absurd ⟨by simp,by simp⟩ h
theorem Yut (hs:Swo lt){f:Nat}{R:List Action→Int→Int→Int→(Action→Action→Option Int)→Option (List Action)}(hR:Zol lt cmp f R)(P X2 Y2 Q:List Action)(mid:Nat)(m start b:Int)
  (h1:mid=P.length)(h2:(mid:Int)+m - start=(P.length:Int)+(X2.length:Int))(h3:b=(P.length:Int)+(X2.length:Int)+(Y2.length:Int))(hm:0≤m∧m≤big)(hst:0≤start∧start≤big)(hf:X2.length+Y2.length≤f)(hX:Z1j lt X2)(hY:Z1j lt Y2)(hl:(P++X2++Y2++Q).length≤big):
  Zgg (BitVec.ofNat 64 mid) m start b R cmp (P++X2++Y2++Q)=some (P++srt lt (X2++Y2)++Q):=by
 have hbig:big=1000000:=rfl
 have hl':=hl
 simp only [List.length_append] at hl'
 unfold Zgg
 rw [Zcm mid (by omega)]
 have e1:IntKind.i64.wrap (IntKind.i64.wrap ((mid:Int)+m) - start)=(P.length:Int)+(X2.length:Int):=by
  rw [wr (n:=(mid:Int)+m) (by omega) (by omega),wr (by omega) (by omega),h2]
 rw [e1]
 by_cases hc:0<X2.length∧0<Y2.length
 ·rw [decide_eq_true (by omega),decide_eq_true (by omega),Bool.and_true,cond_true,hR P X2 Y2 Q _ _ _ (by omega) rfl h3 hc.1 hc.2 hf hX hY hl]
  rfl
 ·have:(decide ((mid:Int)<(P.length:Int)+(X2.length:Int))&&decide ((P.length:Int)+(X2.length:Int)<b))=false:=by
   rw [Bool.and_eq_false_iff,decide_eq_false_iff_not,decide_eq_false_iff_not]
   by_cases h:0<X2.length
   ·exact .inr (fun h'=>hc ⟨h,by omega⟩)
   ·exact .inl (by omega)
  rw [this,cond_false,Y0x hs hX hY hc]
  simp
theorem Yl1 (hs:Swo lt){f:Nat}{R:List Action→Int→Int→Int→(Action→Action→Option Int)→Option (List Action)}(hR:Zol lt cmp f R)(P X1 Y1 X2 Y2 Q:List Action)(mid:Nat)(a m start b:Int)
  (ha:a=(P.length:Int))(h1:mid=P.length+X1.length+Y1.length)(hs1:start=(P.length:Int)+(X1.length:Int))(hm:m=start+(X2.length:Int))(h3:b=(mid:Int)+(X2.length:Int)+(Y2.length:Int))
  (hf1:X1.length+Y1.length≤f)(hf2:X2.length+Y2.length≤f)(hX1:Z1j lt X1)(hY1:Z1j lt Y1)(hX2:Z1j lt X2)(hY2:Z1j lt Y2)(hl:(P++X1++Y1++X2++Y2++Q).length≤big):
  Zb6 a start (BitVec.ofNat 64 mid) R cmp m b (P++X1++Y1++X2++Y2++Q)=some (P++srt lt (X1++Y1)++srt lt (X2++Y2)++Q):=by
 have hbig:big=1000000:=rfl
 have hl':=hl
 simp only [List.length_append] at hl'
 have hlen:(srt lt (X1++Y1)).length=X1.length+Y1.length:=by rw [Z3d hs];simp
 have last:=Yut hs hR (P++srt lt (X1++Y1)) X2 Y2 Q mid m start b (by simp only [List.length_append,hlen];omega) (by simp only [List.length_append,hlen];omega) (by simp only [List.length_append,hlen];omega) (by omega) (by omega) hf2 hX2 hY2 (by simp only [List.length_append,hlen];omega)
 unfold Zb6
 rw [Zcm mid (by omega)]
 by_cases hc:0<X1.length∧0<Y1.length
 ·have hr:=hR P X1 Y1 (X2++Y2++Q) a start (mid:Int) ha hs1 (by omega) hc.1 hc.2 hf1 hX1 hY1 (by simp only [List.length_append];omega)
  have e:P++X1++Y1++X2++Y2++Q=P++X1++Y1++(X2++Y2++Q):=by simp
  have e':P++srt lt (X1++Y1)++(X2++Y2++Q)=P++srt lt (X1++Y1)++X2++Y2++Q:=by simp
  rw [decide_eq_true (by omega),decide_eq_true (by omega),Bool.and_true,cond_true,e,hr,Option.bind_some,e',last]
 ·have hd:(decide (a<start)&&decide (start<(mid:Int)))=false:=by
   rw [Bool.and_eq_false_iff,decide_eq_false_iff_not,decide_eq_false_iff_not]
   by_cases h:0<X1.length
   ·exact .inr (fun h'=>hc ⟨h,by omega⟩)
   ·exact .inl (by omega)
  rw [hd,cond_false]
  rw [Y0x hs hX1 hY1 hc] at last ⊢
  have e:P++X1++Y1++X2++Y2++Q=P++(X1++Y1)++X2++Y2++Q:=by simp
  rw [e,last]
theorem Zzv (hs:Swo lt)(hc:Z6u lt cmp){f:Nat}{R:List Action→Int→Int→Int→(Action→Action→Option Int)→Option (List Action)}(hR:Zol lt cmp f R)(P X Y Q:List Action)(mid lo hi:Nat)
  (hmid:mid=(P.length+(P.length+X.length+Y.length)) / 2)(h2:2≤X.length)(h2':2≤Y.length)(hf:X.length+Y.length≤f+1)(hX:Z1j lt X)(hY:Z1j lt Y)(hl:(P++X++Y++Q).length≤big)
  (hlh:(mid<P.length+X.length∧lo+(P.length+X.length+Y.length)=mid+(P.length+X.length)∧hi=mid)∨(P.length+X.length≤mid∧lo=P.length∧hi=P.length+X.length)):
  Zfp (P++X++Y++Q) (BitVec.ofNat 64 mid) ((P.length:Int)+(X.length:Int)) cmp (P.length:Int) R ((P.length:Int)+(X.length:Int)+(Y.length:Int)) (lo:Int) (hi:Int)=some (P++srt lt (X++Y)++Q):=by
 have hbig:big=1000000:=rfl
 have hl':=hl
 simp only [List.length_append] at hl'
 have hin:∀c,lo≤c→c<hi→P.length≤c∧c<P.length+X.length∧P.length+X.length≤mid+(P.length+X.length) - 1 - c∧mid+(P.length+X.length) - 1 - c<P.length+X.length+Y.length:=fun c a b=>by rcases hlh with h | h<;>omega
 let t:Nat→Bool:=fun c=>if h:(c - P.length<X.length∧(mid+(P.length+X.length) - 1 - c) - (P.length+X.length)<Y.length) then !lt (Y[(mid+(P.length+X.length) - 1 - c) - (P.length+X.length)]'h.2) (X[c - P.length]'h.1) else false
 have htv:∀c (h1:c - P.length<X.length) (h2:(mid+(P.length+X.length) - 1 - c) - (P.length+X.length)<Y.length),t c= !lt (Y[(mid+(P.length+X.length) - 1 - c) - (P.length+X.length)]'h2) (X[c - P.length]'h1):=fun c h1 h2=>by simp only [t];rw [dif_pos ⟨h1,h2⟩]
 have hlohi:lo≤hi:=by rcases hlh with h | h<;>omega
 obtain ⟨s,s1,s2,s3,s4⟩:=Zpp t lo (hi - lo) fun c d h1 h2 h3 h4=>by
  have a1:=hin c h1 (by omega)
  have a2:=hin d (by omega) (by omega)
  rw [htv c (by omega) (by omega)] at h4
  rw [htv d (by omega) (by omega)]
  simp only [Bool.not_eq_false'] at h4 ⊢
  cases hd:lt (Y[(mid+(P.length+X.length) - 1 - d) - (P.length+X.length)]'(by omega)) (X[d - P.length]'(by omega))
  ·have b1:=Zbm hs hX (i:=c - P.length) (j:=d - P.length) (by omega) (by omega) (by omega)
   have b2:=Zbm hs hY (i:=(mid+(P.length+X.length) - 1 - d) - (P.length+X.length)) (j:=(mid+(P.length+X.length) - 1 - c) - (P.length+X.length)) (by omega) (by omega) (by omega)
   rw [hs.neg _ _ _ (hs.neg _ _ _ b2 hd) b1] at h4;cases h4
  ·rfl
 have e0:lo+(hi - lo)=hi:=by omega
 rw [e0] at s2 s4
 unfold Zfp
 have key:=Zmx (Zbg (P++X++Y++Q) (BitVec.ofNat 64 mid) ((P.length:Int)+(X.length:Int)) cmp (P.length:Int) R ((P.length:Int)+(X.length:Int)+(Y.length:Int)))
  (fun start=>bif ((decide (start<((P.length:Int)+(X.length:Int))))&&(decide (((P.length:Int)+(X.length:Int))<(IntKind.i64.wrap ((IntKind.i64.wrap ((IntKind.i64.wrap ((BitVec.ofNat 64 mid).toNat:Int))+((P.length:Int)+(X.length:Int)))) - start))))) then (Zg1 (P++X++Y++Q) start ((P.length:Int)+(X.length:Int)) (IntKind.i64.wrap ((IntKind.i64.wrap ((IntKind.i64.wrap ((BitVec.ofNat 64 mid).toNat:Int))+((P.length:Int)+(X.length:Int)))) - start)) cmp).bind fun l59=>Zb6 (P.length:Int) start (BitVec.ofNat 64 mid) R cmp ((P.length:Int)+(X.length:Int)) ((P.length:Int)+(X.length:Int)+(Y.length:Int)) l59 else Zb6 (P.length:Int) start (BitVec.ofNat 64 mid) R cmp ((P.length:Int)+(X.length:Int)) ((P.length:Int)+(X.length:Int)+(Y.length:Int)) (P++X++Y++Q))
  t lo s hi
  (fun f i j h1 h2 h3=>by
   have a1:=hin ((i+j) / 2) (by omega) (by omega)
   obtain ⟨c,hc1,hc2⟩:=hc (Y[(mid+(P.length+X.length) - 1 - (i+j) / 2) - (P.length+X.length)]'(by omega)) (X[(i+j) / 2 - P.length]'(by omega))
   have gx:lget (P++X++Y++Q) (((i+j) / 2:Nat):Int)=some (X[(i+j) / 2 - P.length]'(by omega)):=by
    rw [List.append_assoc (P++X)]
    exact Zrm P X (Y++Q) _ a1.1 a1.2.1
   have ep:IntKind.i64.wrap (IntKind.i64.wrap (IntKind.i64.wrap ((mid:Int)+((P.length:Int)+(X.length:Int))) - 1) - (((i+j) / 2:Nat):Int))=((mid+(P.length+X.length) - 1 - (i+j) / 2:Nat):Int):=by
    rw [wr (n:=(mid:Int)+((P.length:Int)+(X.length:Int))) (by omega) (by omega),wr (n:=(mid:Int)+((P.length:Int)+(X.length:Int)) - 1) (by omega) (by omega),wr (by omega) (by omega)];omega
   have gy:lget (P++X++Y++Q) ((mid+(P.length+X.length) - 1 - (i+j) / 2:Nat):Int)=some (Y[(mid+(P.length+X.length) - 1 - (i+j) / 2) - (P.length+X.length)]'(by omega)):=by
    rw [Zrm (P++X) Y Q _ (by simp;omega) (by simp;omega)]
    simp
   have e1:IntKind.i64.wrap ((((i+j) / 2:Nat):Int)+1)=(((i+j) / 2+1:Nat):Int):=by rw [wr (by omega) (by omega)];omega
   rw [Zbg,decide_eq_true (by omega),cond_true,Zpu _ (i+j) (by omega) (by omega),Option.bind_some,Zcm mid (by omega),Zcm ((i+j) / 2) (by omega),ep,gy,Option.bind_some,gx,Option.bind_some,hc1,Option.bind_some,hc2,htv _ (by omega) (by omega),e1])
  (fun f i h1 h2=>by rw [Zbg,decide_eq_false (by omega),cond_false]) s3 (fun c h1 h2=>s4 c h1 h2)
 rw [key _ _ _ (Nat.le_refl _) s1 s2 (Nat.le_refl _) (by omega)]
 have hsm:P.length≤s∧s≤P.length+X.length∧s≤mid∧mid+X.length≤s+(X.length+Y.length):=by rcases hlh with h | h<;>omega
 have hx:X=X.take (s - P.length)++X.drop (s - P.length):=(List.take_append_drop ..).symm
 have hy:Y=Y.take (mid - s)++Y.drop (mid - s):=(List.take_append_drop ..).symm
 have l1:(X.take (s - P.length)).length=s - P.length:=by simp;omega
 have l2:(X.drop (s - P.length)).length=P.length+X.length - s:=by simp;omega
 have l3:(Y.take (mid - s)).length=mid - s:=by simp;omega
 have l4:(Y.drop (mid - s)).length=Y.length - (mid - s):=by simp
 have hX':=hX
 rw [hx] at hX'
 have hY':=hY
 rw [hy] at hY'
 have hx1:∀x∈X.take (s - P.length),∀y∈Y.drop (mid - s),lt y x=false:=fun x hxm y hym=>by
  obtain ⟨i,hii,rfl⟩:=List.getElem_of_mem hxm
  obtain ⟨j,hj,rfl⟩:=List.getElem_of_mem hym
  rw [l1] at hii
  rw [l4] at hj
  have hc':lo≤s - 1:=by rcases hlh with h | h<;>omega
  have a1:=hin (s - 1) hc' (by omega)
  have:=s3 (s - 1) hc' (by omega)
  rw [htv _ (by omega) (by omega),Bool.not_eq_true'] at this
  rw [List.getElem_drop,List.getElem_take]
  have b1:=Zbm hs hX (i:=i) (j:=s - 1 - P.length) (by omega) (by omega) (by omega)
  have b2:=Zbm hs hY (i:=(mid+(P.length+X.length) - 1 - (s - 1)) - (P.length+X.length)) (j:=mid - s+j) (by omega) (by omega) (by omega)
  exact hs.neg _ _ _ (hs.neg _ _ _ b2 this) b1
 have hx2:∀y∈Y.take (mid - s),∀x∈X.drop (s - P.length),lt y x=true:=fun y hym x hxm=>by
  obtain ⟨i,hii,rfl⟩:=List.getElem_of_mem hxm
  obtain ⟨j,hj,rfl⟩:=List.getElem_of_mem hym
  rw [l3] at hj
  rw [l2] at hii
  have hc':s<hi:=by rcases hlh with h | h<;>omega
  have a1:=hin s s1 hc'
  have:=s4 s (Nat.le_refl _) hc'
  rw [htv _ (by omega) (by omega),Bool.not_eq_false'] at this
  rw [List.getElem_drop,List.getElem_take]
  have b1:=Zbm hs hX (i:=s - P.length) (j:=s - P.length+i) (by omega) (by omega) (by omega)
  have b2:=Zbm hs hY (i:=j) (j:=(mid+(P.length+X.length) - 1 - s) - (P.length+X.length)) (by omega) (by omega) (by omega)
  cases hd:lt (Y[j]'(by omega)) (X[s - P.length+i]'(by omega))
  ·rw [hs.neg _ _ _ (hs.neg _ _ _ b2 hd) b1] at this;cases this
  ·rfl
 have hsp:=Zte hs hX' hY' hx1 hx2
 rw [←hx,←hy] at hsp
 rw [hsp]
 generalize X.take (s - P.length)=X1 at*
 generalize X.drop (s - P.length)=X2 at*
 generalize Y.take (mid - s)=Y1 at*
 generalize Y.drop (mid - s)=Y2 at*
 have last:=Yl1 hs hR P X1 Y1 X2 Y2 Q mid (P.length:Int) ((P.length:Int)+(X.length:Int)) (s:Int) ((P.length:Int)+(X.length:Int)+(Y.length:Int)) rfl (by omega) (by omega) (by omega) (by omega) (by omega) (by omega) (Zpd hX') (Zpd hY') (Zqo hX') (Zqo hY') (by simp only [List.length_append];omega)
 have ee:IntKind.i64.wrap (IntKind.i64.wrap ((mid:Int)+((P.length:Int)+(X.length:Int))) - (s:Int))=((P++X1++X2++Y1).length:Int):=by
  rw [wr (n:=(mid:Int)+((P.length:Int)+(X.length:Int))) (by omega) (by omega),wr (by omega) (by omega)];simp only [List.length_append];omega
 have eres:P++srt lt (X1++Y1)++srt lt (X2++Y2)++Q=P++(srt lt (X1++Y1)++srt lt (X2++Y2))++Q:=by simp
 rw [eres] at last
 show (bif _ then _ else _)=_
 rw [Zcm mid (by omega),ee]
 have hlen4:(P++X1++X2++Y1).length=P.length+X1.length+X2.length+Y1.length:=by simp only [List.length_append]
 by_cases hcc:0<X2.length∧0<Y1.length
 ·have eL:P++X++Y++Q=(P++X1)++X2++Y1++(Y2++Q):=by rw [hx,hy];simp
  have hr:=Yfg cmp X2 Y1 (P++X1) (Y2++Q) (s:Int) ((P.length:Int)+(X.length:Int)) ((P++X1++X2++Y1).length:Int) hcc.1 hcc.2 (by simp only [List.length_append];omega) (by simp only [List.length_append];omega) rfl (by simp only [List.length_append];omega)
  have eR:(P++X1)++Y1++X2++(Y2++Q)=P++X1++Y1++X2++Y2++Q:=by simp
  rw [decide_eq_true (by omega),decide_eq_true (by omega),Bool.and_true,cond_true,eL,hr,Option.bind_some,eR,last]
 ·have hd:(decide ((s:Int)<(P.length:Int)+(X.length:Int))&&decide ((P.length:Int)+(X.length:Int)<((P++X1++X2++Y1).length:Int)))=false:=by
   rw [Bool.and_eq_false_iff,decide_eq_false_iff_not,decide_eq_false_iff_not]
   by_cases h:0<X2.length
   ·exact .inr (fun h'=>hcc ⟨h,by omega⟩)
   ·exact .inl (by omega)
  have eL:P++X++Y++Q=P++X1++Y1++X2++Y2++Q:=by
   rw [hx,hy]
   have:X2=[]∨Y1=[]:=by
    rcases Nat.eq_zero_or_pos X2.length with h | h
    ·exact .inl (List.eq_nil_of_length_eq_zero h)
    ·rcases Nat.eq_zero_or_pos Y1.length with h' | h'
     ·exact .inr (List.eq_nil_of_length_eq_zero h')
     ·exact absurd ⟨h,h'⟩ hcc
   rcases this with h | h
   ·subst h;simp
   ·subst h;simp
  rw [hd,cond_false,eL,last]
theorem Zx4 (hs:Swo lt)(hc:Z6u lt cmp):∀f,Zol lt cmp f (Zi8 f)
 | 0=>fun P X Y Q a m b _ _ _ h1 h2 h3=>by omega
 | f+1=>by
  intro P X Y Q a m b ha hm hb h1 h2 h3 hX hY hl
  subst ha hm hb
  have hbig:big=1000000:=rfl
  have hl':=hl
  simp only [List.length_append] at hl'
  show Zlw (Zi8 f) _ _ _ _ _=_
  unfold Zlw
  have e1:IntKind.i64.wrap ((P.length:Int)+(X.length:Int) - (P.length:Int))=(X.length:Int):=by rw [wr (by omega) (by omega)];omega
  have e2:IntKind.i64.wrap ((P.length:Int)+(X.length:Int)+(Y.length:Int) - ((P.length:Int)+(X.length:Int)))=(Y.length:Int):=by rw [wr (by omega) (by omega)];omega
  rw [e1,e2]
  by_cases hx1:X.length=1
  ·obtain ⟨x,rfl⟩:∃x,X=[x]:=List.length_eq_one_iff.1 hx1
   have:=Yti hs hc x Y P Q hY (by simpa using hl)
   rw [decide_eq_true (by omega),cond_true]
   have e:P++[x]++Y++Q=P++x::(Y++Q):=by simp
   have e4:(P.length:Int)+([x].length:Int)=((P.length+1:Nat):Int):=by simp
   have e5:((P.length+1:Nat):Int)+(Y.length:Int)=((P.length+1+Y.length:Nat):Int):=by omega
   rw [e,e4,e5,this];rfl
  ·rw [decide_eq_false (by omega),cond_false]
   by_cases hy1:Y.length=1
   ·obtain ⟨y,rfl⟩:∃y,Y=[y]:=List.length_eq_one_iff.1 hy1
    have:=Ydy hs hc y X P Q hX (by simpa using hl)
    rw [decide_eq_true (by omega),cond_true]
    have e:P++X++[y]++Q=P++X++y::Q:=by simp
    have e4:(P.length:Int)+(X.length:Int)=((P.length+X.length:Nat):Int):=by omega
    rw [e,e4,this]
   ·rw [decide_eq_false (by omega),cond_false,Zpu _ (P.length+(P.length+X.length+Y.length)) (by omega) (by omega),Option.bind_some,Zcm _ (by omega)]
    by_cases hmm:(P.length+(P.length+X.length+Y.length)) / 2<P.length+X.length
    ·rw [decide_eq_true (by omega),cond_true]
     have e3:IntKind.i64.wrap (IntKind.i64.wrap ((((P.length+(P.length+X.length+Y.length)) / 2:Nat):Int)+((P.length:Int)+(X.length:Int))) - ((P.length:Int)+(X.length:Int)+(Y.length:Int)))=(((P.length+(P.length+X.length+Y.length)) / 2+(P.length+X.length) - (P.length+X.length+Y.length):Nat):Int):=by
      rw [wr (n:=(((P.length+(P.length+X.length+Y.length)) / 2:Nat):Int)+((P.length:Int)+(X.length:Int))) (by omega) (by omega),wr (by omega) (by omega)];omega
     rw [e3]
     exact Zzv hs hc (Zx4 hs hc f) P X Y Q _ _ _ rfl (by omega) (by omega) (by omega) hX hY hl (.inl ⟨hmm,by omega,rfl⟩)
    ·rw [decide_eq_false (by omega),cond_false]
     have e4:(P.length:Int)+(X.length:Int)=((P.length+X.length:Nat):Int):=by omega
     have:=Zzv hs hc (Zx4 hs hc f) P X Y Q _ P.length (P.length+X.length) rfl (by omega) (by omega) (by omega) hX hY hl (.inr ⟨by omega,rfl,rfl⟩)
     rw [←e4] at this
     exact this
theorem Y7s (hs:Swo lt)(hc:Z6u lt cmp)(P X Y Q:List Action)(a m b:Int)(ha:a=(P.length:Int))(hm:m=(P.length:Int)+(X.length:Int))(hb:b=(P.length:Int)+(X.length:Int)+(Y.length:Int))(h1:0<X.length)(h2:0<Y.length)(hX:Z1j lt X)(hY:Z1j lt Y)(hl:(P++X++Y++Q).length≤big):
  Zs1 (P++X++Y++Q) a m b cmp=some (P++srt lt (X++Y)++Q):=
 Zx4 hs hc Z0s P X Y Q a m b ha hm hb h1 h2 (by have hbig:big=1000000:=rfl;simp only [List.length_append] at hl;unfold Z0s;omega) hX hY hl
end sym
end Go.Proofs.YtinplddjjalohaaGreatDoor.W
namespace Go.Proofs.YtinplddjjalohaaGreatDoor.W
open Go Go.Wb
section ins
variable {lt : Action → Action → Bool} {cmp : Action → Action → Option Int}
theorem Ya0 (hc:Z6u lt cmp)(go:List Action→Int→Option (List Action))(i:Int)(P:List Action)(x:Action):∀(R S:List Action) (m:Nat),R.length<m→(P++R.reverse++x::S).length≤big→
  Z98 (P.length:Int) cmp go i m (P++R.reverse++x::S) ((P.length+R.length:Nat):Int)=go (P++(Z0t lt x R).reverse++S) (IntKind.i64.wrap (i+1))
 | [],S,m,h,_=>by
  obtain ⟨m,rfl⟩:∃k,m=k+1:=⟨m - 1,by simp at h;omega⟩
  rw [Z98,decide_eq_false (by simp)]
  simp [opt,Z0t]
 | y::R,S,m,h,hl=>by
  have hbig:big=1000000:=rfl
  simp only [List.length_cons,List.length_append,List.length_reverse] at h hl
  obtain ⟨m,rfl⟩:∃k,m=k+1:=⟨m - 1,by omega⟩
  have e0:P++(y::R).reverse++x::S=(P++R.reverse)++y::(x::S):=by simp
  have ej:IntKind.i64.wrap (((P.length+(y::R).length:Nat):Int) - 1)=((P.length+R.length:Nat):Int):=by rw [wr (by simp only [List.length_cons];omega) (by simp only [List.length_cons];omega)];simp only [List.length_cons];omega
  have g1:∀a b:Action,lget ((P++R.reverse)++a::(b::S)) ((P.length+(y::R).length:Nat):Int)=some b:=fun a b=>by
   have:(P++R.reverse)++a::(b::S)=(P++R.reverse++[a])++b::S:=by simp
   rw [this];exact Z5o _ _ _ _ (by simp)
  have g0:∀a b:Action,lget ((P++R.reverse)++a::(b::S)) ((P.length+R.length:Nat):Int)=some a:=fun a b=>Z5o _ _ _ _ (by simp)
  have s1:∀a b c:Action,List.set ((P++R.reverse)++a::(b::S)) (((P.length+(y::R).length:Nat):Int)).toNat c=(P++R.reverse)++a::(c::S):=fun a b c=>by
   have:(P++R.reverse)++a::(b::S)=(P++R.reverse++[a])++b::S:=by simp
   rw [this,Int.toNat_natCast,Z9e _ _ _ _ _ (by simp)];simp
  have s0:∀a b c:Action,List.set ((P++R.reverse)++a::(b::S)) (((P.length+R.length:Nat):Int)).toNat c=(P++R.reverse)++c::(b::S):=fun a b c=>by
   rw [Int.toNat_natCast,Z9e _ _ _ _ _ (by simp)]
  obtain ⟨c,hc1,hc2⟩:=hc x y
  rw [e0,Z98,decide_eq_true (by simp only [List.length_cons];omega),Z4j,g1,Option.bind_some,Z4j,ej,g0,Option.bind_some,Z4j,hc1,Option.bind_some,Bool.true_and,hc2,Z0t]
  cases lt x y
  ·rw [cond_false,cond_false]
   simp
  ·rw [cond_true,cond_true,Option.bind_some,Option.bind_some,Option.bind_some,s1,g0,Option.bind_some,s0,Ya0 hc go i P x R (y::S) m (by omega) (by simp only [List.length_append,List.length_cons,List.length_reverse];omega)]
   simp
theorem Zwm (x:Action)(R:List Action):(Z0t lt x R).length=R.length+1:=by
 induction R with
 | nil=>rfl
 | cons y R ih=>rw [Z0t];cases lt x y<;>simp [ih]
theorem Y3n (hc:Z6u lt cmp)(P Q:List Action):∀(T R:List Action) (m:Nat),T.length<m→(P++R.reverse++T++Q).length≤big→
  Z78 ((P.length+R.length+T.length:Nat):Int) (P.length:Int) cmp m (P++R.reverse++T++Q) ((P.length+R.length:Nat):Int)=some (P++(T.foldl (fun R x=>Z0t lt x R) R).reverse++Q)
 | [],R,m,h,_=>by
  obtain ⟨m,rfl⟩:∃k,m=k+1:=⟨m - 1,by simp at h;omega⟩
  rw [Z78,decide_eq_false (by simp),cond_false]
  simp
 | x::T,R,m,h,h2=>by
  have hbig:big=1000000:=rfl
  simp only [List.length_cons,List.length_append,List.length_reverse] at h h2
  obtain ⟨m,rfl⟩:∃k,m=k+1:=⟨m - 1,by omega⟩
  have e:IntKind.i64.wrap (((P.length+R.length:Nat):Int)+1)=((P.length+(Z0t lt x R).length:Nat):Int):=by rw [Zwm,wr (by omega) (by omega)];omega
  have hn:P.length+R.length+(x::T).length=P.length+(Z0t lt x R).length+T.length:=by rw [Zwm,List.length_cons];omega
  have e0:P++R.reverse++x::T++Q=P++R.reverse++x::(T++Q):=by simp
  rw [Z78,decide_eq_true (by simp only [List.length_cons];omega),cond_true,e0,Ya0 hc _ _ P x R (T++Q) Z0s (by unfold Z0s;omega) (by simp only [List.length_append,List.length_cons,List.length_reverse];omega),e,hn,
   ←List.append_assoc,Y3n hc P Q T (Z0t lt x R) m (by omega) (by simp only [List.length_append,List.length_reverse,Zwm];omega),List.foldl_cons]
theorem Yam (hc:Z6u lt cmp)(P L Q:List Action)(a b:Int)(ha:a=(P.length:Int))(hb:b=(P.length:Int)+(L.length:Int))(h:(P++L++Q).length≤big):Zcb (P++L++Q) a b cmp=some (P++srt lt L++Q):=by
 subst ha hb
 have hbig:big=1000000:=rfl
 have h':=h
 simp only [List.length_append] at h'
 unfold Zcb srt
 cases L with
 | nil=>
  rw [wr (by omega) (by omega)]
  obtain ⟨m,hm⟩:∃m,(((P.length:Int)+(([]:List Action).length:Int)) - ((P.length:Int)+1)).toNat+1=m+1:=⟨_,rfl⟩
  rw [hm,Z78,decide_eq_false (by simp only [List.length_nil];omega),cond_false]
  rfl
 | cons x L=>
  simp only [List.length_cons] at h'
  have:=Y3n hc P Q L [x] ((((P.length:Int)+((x::L).length:Int)) - ((P.length:Int)+1)).toNat+1) (by simp only [List.length_cons];omega) (by simp only [List.length_append,List.length_reverse,List.length_cons,List.length_nil];omega)
  have e1:((P.length+[x].length+L.length:Nat):Int)=(P.length:Int)+((x::L).length:Int):=by simp;omega
  have e2:((P.length+[x].length:Nat):Int)=(P.length:Int)+1:=by simp
  have e3:P++[x].reverse++L++Q=P++x::L++Q:=by simp
  rw [e1,e2,e3] at this
  rw [wr (by omega) (by omega),this]
  rfl
end ins
end Go.Proofs.YtinplddjjalohaaGreatDoor.W
namespace Go.Proofs.YtinplddjjalohaaGreatDoor.W
open Go Go.Wb
section stable
variable {lt : Action → Action → Bool} {cmp : Action → Action → Option Int}
def Z5g (lt:Action→Action→Bool)(s:Nat)(L:List Action):List Action:=
 if h:s=0∨L.length<s then srt lt L else srt lt (L.take s)++Z5g lt s (L.drop s)
termination_by L.length
decreasing_by simp;omega
theorem Zdg {s:Nat}{L:List Action}(h:L.length<s):Z5g lt s L=srt lt L:=by rw [Z5g,dif_pos (.inr h)]
theorem Zd1 {s:Nat}{A L:List Action}(hA:A.length=s)(h0:0<s):Z5g lt s (A++L)=srt lt A++Z5g lt s L:=by
 subst hA
 rw [Z5g,dif_neg (by rw [List.length_append];omega),List.take_left,List.drop_left]
theorem Ygr:srt lt ([]:List Action)=[]:=rfl
theorem Y1y {s:Nat}{L:List Action}(h:L.length≤s)(h0:0<s):Z5g lt s L=srt lt L:=by
 rcases Nat.lt_or_eq_of_le h with h1 | h1
 ·exact Zdg h1
 ·have:=Zd1 (lt:=lt) (L:=[]) h1 h0
  have e:Z5g lt s []=srt lt []:=Zdg (by simpa using h0)
  rw [List.append_nil,e,Ygr,List.append_nil] at this
  exact this
theorem Yav (hs:Swo lt)(s:Nat)(h0:0<s):∀(n:Nat) (L:List Action),L.length≤n→(Z5g lt s L).length=L.length
 | 0,L,h=>by rw [Zdg (by omega),Z3d hs]
 | n+1,L,h=>by
  by_cases hl:L.length<s
  ·rw [Zdg hl,Z3d hs]
  ·have e:L=L.take s++L.drop s:=(List.take_append_drop ..).symm
   have h1:(L.take s).length=s:=by simp;omega
   rw [e,Zd1 h1 h0,List.length_append,Z3d hs,Yav hs s h0 n (L.drop s) (by simp;omega),List.length_append]
theorem Ya4 (hs:Swo lt)(hc:Z6u lt cmp)(n:Nat):∀(k:Nat) (D L:List Action) (f:Nat),L.length≤k→D.length+L.length=n→n≤100000→L.length<f*20→
  Zcz (n:Int) cmp f (D++L) (D.length:Int) ((D.length+20:Nat):Int)=Z9d (n:Int) cmp (((n:Int) - 20).toNat+1) (D++Z5g lt 20 L) 20
 | k,D,L,0,_,_,_,h=>by omega
 | k,D,L,f+1,hk,hn,hb,hf=>by
  have hbig:big=1000000:=rfl
  rw [Zcz]
  by_cases hl:L.length<20
  ·have:=Yam hc D L [] (D.length:Int) (n:Int) rfl (by omega) (by simp only [List.length_append,List.length_nil];omega)
   simp only [List.append_nil] at this
   rw [decide_eq_false (by omega),cond_false,this,Option.bind_some,Zdg hl]
  ·obtain ⟨k,rfl⟩:∃j,k=j+1:=⟨k - 1,by omega⟩
   have e:L=L.take 20++L.drop 20:=(List.take_append_drop ..).symm
   have h1:(L.take 20).length=20:=by simp;omega
   have h2:(L.drop 20).length=L.length - 20:=by simp
   generalize L.take 20=A at*
   generalize L.drop 20=B at*
   subst e
   have:=Yam hc D A B (D.length:Int) ((D.length+20:Nat):Int) rfl (by omega) (by simp only [List.length_append] at hn ⊢;omega)
   have e20:IntKind.i64.wrap (((D.length+20:Nat):Int)+20)=(((D++srt lt A).length+20:Nat):Int):=by rw [wr (by omega) (by omega),List.length_append,Z3d hs];omega
   have e21:((D.length+20:Nat):Int)=((D++srt lt A).length:Int):=by rw [List.length_append,Z3d hs];omega
   simp only [List.length_append] at hn hl hf hk
   rw [decide_eq_true (by omega),cond_true,←List.append_assoc,this,Option.bind_some,e20,e21,
    Ya4 hs hc n k (D++srt lt A) B f (by omega) (by simp only [List.length_append,Z3d hs];omega) hb (by omega),Zd1 h1 (by omega)]
   simp
theorem Y25 (hs:Swo lt)(hc:Z6u lt cmp)(go:List Action→Int→Option (List Action))(n s:Nat)(hs0:0<s)(hs1:s≤100000):∀(k:Nat) (D L:List Action) (f:Nat),L.length≤k→D.length+L.length=n→n≤100000→L.length<f*(2*s)→
  Zij (n:Int) (s:Int) cmp go f (D++Z5g lt s L) (D.length:Int) ((D.length+2*s:Nat):Int)=go (D++Z5g lt (2*s) L) ((2*s:Nat):Int)
 | k,D,L,0,_,_,_,h=>by omega
 | k,D,L,f+1,hk,hn,hb,hf=>by
  have hbig:big=1000000:=rfl
  rw [Zij]
  have em:IntKind.i64.wrap ((D.length:Int)+(s:Int))=((D.length+s:Nat):Int):=by rw [wr (by omega) (by omega)];omega
  have eg:IntKind.i64.wrap ((s:Int)*2)=((2*s:Nat):Int):=by rw [wr (by omega) (by omega)];omega
  by_cases hl:L.length<2*s
  ·rw [decide_eq_false (by omega),cond_false,em,eg,Zdg hl]
   by_cases hl2:s<L.length
   ·have e:L=L.take s++L.drop s:=(List.take_append_drop ..).symm
    have h1:(L.take s).length=s:=by simp;omega
    have h2:(L.drop s).length=L.length - s:=by simp
    generalize L.take s=A at*
    generalize L.drop s=B at*
    subst e
    simp only [List.length_append] at hn hl hl2
    rw [Zd1 h1 hs0,Zdg (by omega)]
    have:=Y7s hs hc D (srt lt A) (srt lt B) [] (D.length:Int) ((D.length+s:Nat):Int) (n:Int) rfl (by rw [Z3d hs];omega) (by rw [Z3d hs,Z3d hs];omega) (by rw [Z3d hs];omega) (by rw [Z3d hs];omega) (Zab hs _) (Zab hs _)
     (by simp only [List.length_append,Z3d hs,List.length_nil];omega)
    simp only [List.append_nil,List.append_assoc] at this
    rw [decide_eq_true (by omega),cond_true,this,Option.bind_some,Y13 hs]
   ·rw [decide_eq_false (by omega),cond_false,Y1y (by omega) hs0]
  ·obtain ⟨k,rfl⟩:∃j,k=j+1:=⟨k - 1,by omega⟩
   have e:L=L.take s++((L.drop s).take s++(L.drop s).drop s):=by rw [List.take_append_drop,List.take_append_drop]
   have h1:(L.take s).length=s:=by simp;omega
   have h2:((L.drop s).take s).length=s:=by simp;omega
   have h3:((L.drop s).drop s).length=L.length - 2*s:=by simp;omega
   generalize L.take s=A at*
   generalize (L.drop s).take s=B at*
   generalize (L.drop s).drop s=E at*
   subst e
   simp only [List.length_append] at hn hl hk hf
   have hf':E.length<f*(2*s):=by rw [Nat.add_mul] at hf;omega
   have hE:=Yav hs s hs0 E.length E (Nat.le_refl _)
   have:=Y7s hs hc D (srt lt A) (srt lt B) (Z5g lt s E) (D.length:Int) ((D.length+s:Nat):Int) ((D.length+2*s:Nat):Int) rfl (by rw [Z3d hs];omega) (by rw [Z3d hs,Z3d hs];omega) (by rw [Z3d hs];omega) (by rw [Z3d hs];omega) (Zab hs _) (Zab hs _)
    (by simp only [List.length_append,Z3d hs,hE];omega)
   have e2:D++Z5g lt s (A++(B++E))=D++srt lt A++srt lt B++Z5g lt s E:=by rw [Zd1 h1 hs0,Zd1 h2 hs0];simp
   have e3:IntKind.i64.wrap (((D.length+2*s:Nat):Int)+IntKind.i64.wrap (2*(s:Int)))=(((D++srt lt (A++B)).length+2*s:Nat):Int):=by
    rw [wr (n:=2*(s:Int)) (by omega) (by omega),wr (by omega) (by omega),List.length_append,Z3d hs,List.length_append];omega
   have e4:((D.length+2*s:Nat):Int)=((D++srt lt (A++B)).length:Int):=by rw [List.length_append,Z3d hs,List.length_append];omega
   rw [decide_eq_true (by omega),cond_true,em,e2,this,Option.bind_some,Y13 hs,e3,e4,
    Y25 hs hc go n s hs0 hs1 k (D++srt lt (A++B)) E f (by omega) (by simp only [List.length_append,Z3d hs];omega) hb hf']
   have e5:A++(B++E)=(A++B)++E:=by simp
   rw [e5,Zd1 (by simp;omega) (by omega)]
   simp
theorem Y2c (hs:Swo lt)(hc:Z6u lt cmp)(L:List Action)(hb:L.length≤100000):∀(f s:Nat),0<f→0<s→s≤200000→L.length<f+s→
  Z9d (L.length:Int) cmp f (Z5g lt s L) (s:Int)=some (srt lt L)
 | 0,s,hf,h0,h1,h2=>by omega
 | f+1,s,hf,h0,h1,h2=>by
  rw [Z9d]
  by_cases hl:s<L.length
  ·have e2:IntKind.i64.wrap (2*(s:Int))=((2*s:Nat):Int):=by rw [wr (by omega) (by omega)];omega
   have:=Y25 hs hc (Z9d (L.length:Int) cmp f) L.length s h0 (by omega) L.length [] L ((((L.length:Int):Int) - ((2*s:Nat):Int)).toNat+2) (Nat.le_refl _) (by simp) hb (by
    have h3:L.length<(L.length - 2*s+2)*(2*s):=by
     have:L.length - 2*s+2≤(L.length - 2*s+2)*(2*s):=Nat.le_mul_of_pos_right _ (by omega)
     by_cases hc:L.length<2*s
     ·have:2*(2*s)≤(L.length - 2*s+2)*(2*s):=Nat.mul_le_mul_right _ (by omega)
      omega
     ·have e:(L.length - 2*s+2)*(2*s)=(L.length - 2*s+1)*(2*s)+2*s:=by rw [show L.length - 2*s+2=(L.length - 2*s+1)+1 from rfl,Nat.add_mul,Nat.one_mul]
      have:L.length - 2*s+1≤(L.length - 2*s+1)*(2*s):=Nat.le_mul_of_pos_right _ (by omega)
      omega
    have e:(((L.length:Int):Int) - ((2*s:Nat):Int)).toNat+2=L.length - 2*s+2:=by omega
    rw [e];exact h3)
   simp only [List.nil_append,List.length_nil,Nat.zero_add] at this
   rw [decide_eq_true (by omega),cond_true,e2]
   have e0:((0:Nat):Int)=0:=rfl
   rw [e0] at this
   rw [this,Y2c hs hc L hb f (2*s) (by omega) (by omega) (by omega) (by omega)]
  ·rw [decide_eq_false (by omega),cond_false,Y1y (by omega) h0]
theorem Yg4 (hs:Swo lt)(hc:Z6u lt cmp)(L:List Action)(hb:L.length≤100000):Zf4 L cmp=some (srt lt L):=by
 unfold Zf4 Zmu
 have h1:=Ya4 hs hc L.length L.length [] L ((((L.length:Int):Int) - 20).toNat+2) (Nat.le_refl _) (by simp) hb (by omega)
 have h2:=Y2c hs hc L hb ((((L.length:Int):Int) - 20).toNat+1) 20 (by omega) (by omega) (by omega) (by omega)
 simp only [List.nil_append,List.length_nil,Nat.zero_add] at h1
 have e0:((0:Nat):Int)=0:=rfl
 have e20:((20:Nat):Int)=20:=rfl
 rw [e0,e20] at h1
 rw [e20] at h2
 rw [h1,h2];rfl
end stable
end Go.Proofs.YtinplddjjalohaaGreatDoor.W
namespace Go.Proofs.YtinplddjjalohaaGreatDoor.W
open Go Go.Wb
def Z2v (a b:Wide):Wide:=⟨a.Hi&&& b.Hi,a.Lo&&& b.Lo⟩
def wor (a b:Wide):Wide:=⟨a.Hi||| b.Hi,a.Lo||| b.Lo⟩
def Z95 (a b:Wide):Wide:=⟨a.Hi ^^^ b.Hi,a.Lo ^^^ b.Lo⟩
def Z3z (a b:Wide):Wide:=⟨a.Hi&&& ~~~b.Hi,a.Lo&&& ~~~b.Lo⟩
def wt (a:Wide)(i:Nat):Bool:=bif Nat.blt i 64 then a.Lo.getLsbD i else a.Hi.getLsbD (i - 64)
def Z57 (i:Nat):Wide:=bif Nat.blt i 64 then ⟨0,1#64<<<i⟩ else ⟨1#64<<<(i - 64),0⟩
theorem Z9v {i n:Nat}(h:i<n):Nat.blt i n=true:=by simpa using h
theorem Zaa {i n:Nat}(h:¬i<n):Nat.blt i n=false:=by
 cases hb:Nat.blt i n
 ·rfl
 ·exact absurd (by simpa using hb) h
theorem Zql {a b:Wide}(h:∀i,i<128→wt a i=wt b i):a=b:=by
 obtain ⟨ah,al⟩:=a
 obtain ⟨bh,bl⟩:=b
 have h1:ah=bh:=BitVec.eq_of_getLsbD_eq fun i hi=>by
  have:=h (i+64) (by omega)
  unfold wt at this
  rw [Zaa (by omega)] at this
  simpa using this
 have h2:al=bl:=BitVec.eq_of_getLsbD_eq fun i hi=>by
  have:=h i (by omega)
  unfold wt at this
  rw [Z9v (by omega)] at this
  simpa using this
 rw [h1,h2]
theorem Zd7 (a b:Wide)(i:Nat):wt (Z2v a b) i=(wt a i&&wt b i):=by
 unfold wt Z2v
 cases Nat.blt i 64<;>simp
theorem Y11 (a b:Wide)(i:Nat):wt (wor a b) i=(wt a i||wt b i):=by
 unfold wt wor
 cases Nat.blt i 64<;>simp
theorem Zwv (a b:Wide)(i:Nat):wt (Z95 a b) i=(wt a i !=wt b i):=by
 unfold wt Z95
 cases Nat.blt i 64<;>simp
theorem Yn7 (a b:Wide)(i:Nat)(h:i<128):wt (Z3z a b) i=(wt a i&& !wt b i):=by
 unfold wt Z3z
 by_cases hi:i<64
 ·rw [Z9v hi];simp [hi]
 ·rw [Zaa hi];simp [show i - 64<64 by omega]
theorem Zlm (i:Nat):wt Z0p i=false:=by
 unfold wt Z0p
 cases Nat.blt i 64<;>simp
theorem Y83 (i j:Nat)(hi:i<128)(hj:j<128):wt (Z57 i) j=decide (i=j):=by
 unfold wt Z57
 by_cases h1:i<64
 ·rw [Z9v h1,cond_true]
  by_cases h2:j<64
  ·rw [Z9v h2,cond_true,BitVec.getLsbD_shiftLeft]
   by_cases e:i=j
   ·subst e;simp [h2]
   ·simp [h2,e,BitVec.getLsbD_one];omega
  ·rw [Zaa h2,cond_false]
   have:i≠j:=by omega
   simp [this]
 ·rw [Zaa h1,cond_false]
  by_cases h2:j<64
  ·rw [Z9v h2,cond_true]
   have:i≠j:=by omega
   simp [this]
  ·rw [Zaa h2,cond_false,BitVec.getLsbD_shiftLeft]
   by_cases e:i=j
   ·subst e;simp [show i - 64<64 by omega]
   ·simp [show j - 64<64 by omega,e,BitVec.getLsbD_one];omega
def Z4s (a:Wide):Bool:=decide ((a.Hi||| a.Lo)=(0:BitVec 64))
theorem Znb (a:Wide):Z4s a=true↔ ∀i,i<128→wt a i=false:=by
 unfold Z4s
 rw [decide_eq_true_eq]
 constructor
 ·intro h i hi
  have hb:∀j,(a.Hi.getLsbD j||a.Lo.getLsbD j)=false:=fun j=>by rw [←BitVec.getLsbD_or,h];simp
  unfold wt
  by_cases h1:i<64
  ·rw [Z9v h1,cond_true]
   have:=hb i
   simp only [Bool.or_eq_false_iff] at this
   exact this.2
  ·rw [Zaa h1,cond_false]
   have:=hb (i - 64)
   simp only [Bool.or_eq_false_iff] at this
   exact this.1
 ·intro h
  apply BitVec.eq_of_getLsbD_eq
  intro j hj
  have h1:=h j (by omega)
  have h2:=h (j+64) (by omega)
  unfold wt at h1 h2
  rw [Z9v hj] at h1
  rw [Zaa (by omega)] at h2
  simp at h1 h2
  simp [h1,h2]
theorem Yhn (a:Wide):Z4s a=decide (a=Z0p):=by
 rw [Bool.eq_iff_iff,Znb,decide_eq_true_eq]
 constructor
 ·intro h
  exact Zql fun i hi=>by rw [h i hi,Zlm]
 ·rintro rfl i _
  exact Zlm i
theorem Yds {a:Wide}:Z4s a=false↔ ∃i,i<128∧wt a i=true:=by
 rw [←Bool.not_eq_true,Znb]
 constructor
 ·intro h
  apply Classical.byContradiction
  intro hn
  exact h fun i hi=>by
   cases hw:wt a i
   ·rfl
   ·exact absurd ⟨i,hi,hw⟩ hn
 ·rintro ⟨i,hi,hw⟩ h
  rw [h i hi] at hw;cases hw
theorem Y66 (a:Wide)(i:Nat)(h:i<128):(!Z4s (Z2v a (Z57 i)))=wt a i:=by
 cases hw:wt a i
 ·have:Z4s (Z2v a (Z57 i))=true:=by
   rw [Znb]
   intro j hj
   rw [Zd7,Y83 i j h hj]
   by_cases e:i=j
   ·subst e;rw [hw];rfl
   ·simp [e]
  rw [this];rfl
 ·have:Z4s (Z2v a (Z57 i))=false:=by
   rw [Yds]
   exact ⟨i,h,by rw [Zd7,Y83 i i h h,hw];simp⟩
  rw [this];rfl
theorem Zrf (x:BitVec 64)(n:Nat):Za7 x (n:Int)=some (x<<<n):=by
 unfold Za7
 rw [decide_eq_false (by omega)]
 simp
theorem Ywr (x:BitVec 64)(n:Nat):Z3s x (n:Int)=some (x>>>n):=by
 unfold Z3s
 rw [decide_eq_false (by omega)]
 simp
theorem Y0y (a b:Wide):Zcf a b=some (Z2v a b):=rfl
theorem Zvx (a b:Wide):Z97 a b=some (wor a b):=rfl
theorem Zq4 (a b:Wide):Za6 a b=some (Z3z a b):=rfl
theorem Zui (i:Nat)(h:i<128):Zb5 (i:Int)=some (Z57 i):=by
 unfold Zb5
 have h1:(decide ((i:Int)<0)||decide ((i:Int)>127))=false:=by simp;omega
 have hq:Zfm .i64 (i:Int) 64=some ((i / 64:Nat):Int):=by
  unfold Zfm
  rw [decide_eq_false (by decide)]
  show some (IntKind.i64.wrap ((i / 64:Nat):Int))=_
  rw [Z2r (by omega) (by omega)]
 have hm:Z8b (i:Int) 64=some ((i % 64:Nat):Int):=Y36 i 64 (by omega)
 rw [h1,cond_false,hq,Option.bind_some,hm,Option.bind_some,Zrf,Option.bind_some,Z2h (by omega),Option.bind_some]
 unfold Z57
 by_cases h2:i<64
 ·rw [Z9v h2,cond_true]
  have e1:i / 64=0:=by omega
  have e2:i % 64=i:=by omega
  simp only [e1,e2]
  rfl
 ·rw [Zaa h2,cond_false]
  have e1:i / 64=1:=by omega
  have e2:i % 64=i - 64:=by omega
  simp only [e1,e2]
  rfl
abbrev Cube:=Vector Tern 24
abbrev Header:=Vector Wide 24
def Z1o (t:Tern):Tern:=⟨Z2v t.Value t.Mask,t.Mask⟩
theorem Zq9 (t:Tern):Z7i t=some (Z1o t):=rfl
def Z1w (c:Cube):Cube:=Vector.ofFn fun i=>Z1o (ve c i.1)
theorem Zje (c:Cube)(i:Nat)(h:i<24):ve (Z1w c) i=Z1o (ve c i):=Zez (fun i=>Z1o (ve c i)) i h
theorem Ycd (t:Tern):Z1o (Z1o t)=Z1o t:=by
 unfold Z1o
 congr 1
 exact Zql fun i hi=>by simp only [Zd7];cases wt t.Value i<;>cases wt t.Mask i<;>rfl
def Z44 (a b:Tern):Tern:=⟨wor (Z3z (Z1o a).Value b.Mask) (Z1o b).Value,wor a.Mask b.Mask⟩
theorem Zzj (a b:Tern):Zl3 a b=some (Z44 a b):=rfl
def Zcr (a b:Cube):Cube:=Vector.ofFn fun i=>Z44 (ve a i.1) (ve b i.1)
theorem Y5j (a b:Cube)(i:Nat)(h:i<24):ve (Zcr a b) i=Z44 (ve a i) (ve b i):=Zez (fun i=>Z44 (ve a i) (ve b i)) i h
theorem Y3w (f:Int→Option Tern)(g:Nat→Tern)(hf:∀i:Nat,i<24→f (i:Int)=some (g i))(b:Cube):∀(m i:Nat),i+m=24→Z9s f m i (Z3a g b i)=some (Vector.ofFn (fun i=>g i.1))
 | 0,i,h=>by
  have:i=24:=by omega
  subst this
  rw [Z9s,Z91]
 | m+1,i,h=>by
  rw [Z9s,hf i (by omega),Option.bind_some,Z2h (by omega),Option.bind_some]
  show Z9s f m (i+1) (Vector.set (Z3a g b i) i (g i) _)=_
  rw [Z96 g b i (by omega),Y3w f g hf b m (i+1) (by omega)]
theorem Y9h (f:Int→Option Tern)(g:Nat→Tern)(hf:∀i:Nat,i<24→f (i:Int)=some (g i)):Zge f=some (Vector.ofFn (fun i=>g i.1)):=by
 unfold Zge
 have:=Y3w f g hf (Vector.replicate 24 zTern) 24 0 rfl
 rw [Z9a] at this
 exact this
theorem Yah (r:Cube):Zgv r=some (Z1w r):=by
 unfold Zgv
 rw [Y9h (fun x=>Zgd x r) (fun i=>Z1o (ve r i)) (fun i hi=>by unfold Zgd;rw [Z2h hi,Option.bind_some,Z31,Zq9];rfl)]
 rfl
def Zcn (r:Cube)(h:Header):Header:=Vector.ofFn fun f=>wor (Z3z (ve h f.1) (ve r f.1).Mask) (Z2v (ve r f.1).Value (ve r f.1).Mask)
theorem Y0r (r:Cube)(h:Header):∀(l:List Tern) (i:Nat),i+l.length=24→l=(Vector.toList r).drop i→Zbp l i (Z3a (fun f=>wor (Z3z (ve h f) (ve r f).Mask) (Z2v (ve r f).Value (ve r f).Mask)) h i)=some (Zcn r h)
 | [],i,h1,h2=>by
  have:i=24:=by simpa using h1
  subst this
  rw [Zbp,Z91];rfl
 | x::l,i,h1,h2=>by
  simp only [List.length_cons] at h1
  have hi:i<(Vector.toList r).length:=by simp;omega
  rw [List.drop_eq_getElem_cons hi] at h2
  obtain ⟨rfl,h3⟩:=List.cons.inj h2
  have hx:(Vector.toList r)[i]=ve r i:=by rw [Vector.getElem_toList,Z6o _ _ (by omega)]
  rw [Zbp,hx,Z2h (by omega),Option.bind_some,Z31,Zq4,Option.bind_some,Y0y,Option.bind_some,Zvx,Option.bind_some,Option.bind_some,Zbj _ _ _ _ (by omega),if_neg (by omega)]
  have:=Z96 (fun f=>wor (Z3z (ve h f) (ve r f).Mask) (Z2v (ve r f).Value (ve r f).Mask)) h i (by omega)
  rw [this]
  exact Y0r r h l (i+1) (by omega) h3
theorem Y4v (r:Cube)(h:Header):Zgm r h=some (Zcn r h):=by
 unfold Zgm
 have:=Y0r r h (Vector.toList r) 0 (by simp) rfl
 rw [Z9a] at this
 exact this
def Z8x (r:Cube)(f:Int)(v m:Wide):Cube:=bif decide (f≥0)&&decide (f<24) then Vector.ofFn fun i=>if f.toNat=i.1 then Z44 (ve (Z1w r) f.toNat) ⟨v,m⟩ else ve (Z1w r) i.1 else Z1w r
theorem Zgx (r:Cube)(f:Int)(v m:Wide):Z9f r f v m=some (Z8x r f v m):=by
 unfold Z9f Z8x Z8y
 rw [Yah,Option.bind_some,Option.bind_some]
 cases hc:(decide (f≥0)&&decide (f<24))
 ·rfl
 ·simp only [Bool.and_eq_true,decide_eq_true_eq] at hc
  obtain ⟨n,rfl⟩:∃n:Nat,f=(n:Int):=⟨f.toNat,by omega⟩
  have hn:n<24:=by omega
  have e:Vector.set (Z1w r) n (Z44 (ve (Z1w r) n) ⟨v,m⟩) hn=Vector.ofFn fun i:_root_.Fin 24=>if n=i.1 then Z44 (ve (Z1w r) n) ⟨v,m⟩ else ve (Z1w r) i.1:=Zck fun j hj=>by
   rw [Zjl _ _ _ _ _ hj]
   exact (Zez (fun i=>if n=i then Z44 (ve (Z1w r) n) ⟨v,m⟩ else ve (Z1w r) i) j hj).symm
  rw [cond_true,cond_true,Z2h hn,Option.bind_some,Z31,Zzj,Option.bind_some,Option.bind_some,Int.toNat_natCast]
  exact congrArg some e
theorem Yab (n:Int):∃x,Zj0 n=some x:=by
 unfold Zj0
 cases decide (n≥64)
 ·have h0:0≤Z2o n 0:=by
   unfold Z2o
   by_cases h:(0:Int)>n
   ·simp [h]
   ·simp [h];omega
  obtain ⟨k,hk⟩:∃k:Nat,Z2o n 0=(k:Int):=⟨(Z2o n 0).toNat,by omega⟩
  rw [cond_false,hk,Zrf]
  exact ⟨_,rfl⟩
 ·exact ⟨_,rfl⟩
def Zbc (n:Int):Wide:=(Zaf n).getD Z0p
theorem Zye (n:Int):Zaf n=some (Zbc n):=by
 obtain ⟨x,hx⟩:=Yab (IntKind.i64.wrap ((Z5k (Z2o n 0) 128) - 64))
 obtain ⟨y,hy⟩:=Yab (Z5k (Z2o n 0) 128)
 have:Zaf n=some ⟨x,y⟩:=by unfold Zaf;rw [hx,Option.bind_some,hy];rfl
 unfold Zbc
 rw [this];rfl
def Zhl (n:Int):Int:=(Zer n).getD 0
theorem Ywm:∃v,Zl4=some v:=by unfold Zl4;exact ⟨_,rfl⟩
theorem Ycb (n:Int):Zer n=some (Zhl n):=by
 have:∃x,Zer n=some x:=by
  unfold Zer Zqs Z8y
  rw [Option.bind_some]
  cases hc:(decide (n≥0)&&decide (n<24))
  ·exact ⟨_,rfl⟩
  ·simp only [Bool.and_eq_true,decide_eq_true_eq] at hc
   obtain ⟨k,rfl⟩:∃k:Nat,n=(k:Int):=⟨n.toNat,by omega⟩
   obtain ⟨v,hv⟩:=Ywm
   rw [Bool.not_true,cond_false,hv,Option.bind_some,Z28 (by simp;omega),Option.bind_some,Option.bind_some]
   exact ⟨_,rfl⟩
 obtain ⟨x,hx⟩:=this
 unfold Zhl
 rw [hx];rfl
def oxT (o:Oxm):Tern:=bif decide (o.Field≥0)&&decide (o.Field<24) then (bif o.Masked then ⟨o.Value,o.Mask⟩ else ⟨o.Value,Zbc (Zhl o.Field)⟩) else ⟨Z0p,Z0p⟩
theorem Yaz (o:Oxm):Zhe o=some (oxT o):=by
 unfold Zhe oxT Z8y
 rw [Option.bind_some]
 cases decide (o.Field≥0)&&decide (o.Field<24)
 ·rfl
 ·rw [Bool.not_true,cond_false,cond_true]
  cases o.Masked
  ·rw [cond_false,cond_false,Ycb,Option.bind_some,Zye];rfl
  ·rfl
def Z2p:Cube:=Vector.replicate 24 zTern
def Zc1 (a:Action):Cube:=
 bif decide (a.Kind=25) then Z8x Z2p a.Oxm.Field (oxT a.Oxm).Value (oxT a.Oxm).Mask
 else bif decide (a.Kind=17) then Z8x Z2p 5 (Z57 12) (Z57 12)
 else bif decide (a.Kind=18) then Z8x (Z8x Z2p 5 ⟨0,0⟩ (Zbc 13)) 6 ⟨0,0⟩ (Zbc 3)
 else Z2p
theorem Y3k (a:Action):Zhh a=some (Zc1 a):=by
 unfold Zhh Zc1
 rw [show Zc7=some Z2p from rfl,Option.bind_some]
 cases decide (a.Kind=25)
 ·rw [cond_false,cond_false]
  cases decide (a.Kind=17)
  ·rw [cond_false,cond_false]
   cases decide (a.Kind=18)
   ·rfl
   ·rw [cond_true,cond_true,Zye,Option.bind_some,Zgx,Option.bind_some,Zye,Option.bind_some,Zgx];rfl
  ·rw [cond_true,cond_true,show (12:Int)=((12:Nat):Int) from rfl,Zui 12 (by decide),Option.bind_some,Option.bind_some,Zgx];rfl
 ·rw [cond_true,cond_true,Yaz,Option.bind_some,Zgx];rfl
def Zhm (a:Action):Int:=bif decide (a.Port=4294967293) then a.Max else 0
theorem Yea (a:Action):Zmz a=some (Zhm a):=by
 unfold Zmz Zhm
 cases decide (a.Port=4294967293)<;>rfl
theorem Y6p {α:Type}(p:α→Bool):∀l:List α,0≤Z0f p l→(l.take ((Z0f p l).toNat+1)).filter (fun x=> !p x)=l.take (Z0f p l).toNat
 | [],h=>by simp [Z0f] at h
 | x::l,h=>by
  unfold Z0f at h ⊢
  cases hp:p x
  ·rw [hp] at h
   by_cases h':Z0f p l<0
   ·simp [h'] at h
   ·simp only [cond_false,decide_eq_false h']
    have e:(Z0f p l+1).toNat=(Z0f p l).toNat+1:=by omega
    rw [e,List.take_succ_cons,List.take_succ_cons,List.filter_cons_of_pos (by simp [hp]),Y6p p l (by omega)]
  ·simp [hp]
theorem Yjr {α:Type}(p:α→Bool)(l:List α)(h:Z0f p l<0):l.filter (fun x=> !p x)=l:=by
 rw [List.filter_eq_self]
 intro x hx
 rw [Y4o p l h x hx];rfl
theorem Zpe {α:Type}(p:α→Bool):∀l:List α,(Z0f p l<0∧l.find? p=none)∨∃n:Nat,Z0f p l=(n:Int)∧∃h:n<l.length,l.find? p=some l[n]∧p l[n]=true
 | []=> .inl ⟨by simp [Z0f],rfl⟩
 | x::l=>by
  unfold Z0f
  cases hp:p x
  ·rw [cond_false,List.find?_cons_of_neg (by simp [hp])]
   rcases Zpe p l with ⟨h1,h2⟩ | ⟨n,h1,h2,h3,h4⟩
   ·left;rw [decide_eq_true h1];exact ⟨by show (-1:Int)<0;decide,h2⟩
   ·right
    rw [decide_eq_false (by omega)]
    exact ⟨n+1,by show Z0f p l+1=_;omega,by simp;omega,by simpa using h3,by simpa using h4⟩
  ·right
   exact ⟨0,rfl,by simp,by rw [List.find?_cons_of_pos hp];rfl,hp⟩
theorem Zw3 (s:List Action)(f:Action→Option Bool)(p:Action→Bool)(hf:∀x∈s,f x=some (p x)):Zec s f=some (Z0f p s):=by
 unfold Zec
 rw [show ((s.length:Int)).toNat=s.length by omega]
 exact Zcx p (fun i=>by rw [Zcw]) (fun m i=>by rw [Zcw]) hf
theorem Y5i (s:List Group)(f:Group→Option Bool)(p:Group→Bool)(hf:∀x∈s,f x=some (p x)):Zj1 s f=some (Z0f p s):=by
 unfold Zj1
 rw [show ((s.length:Int)).toNat=s.length by omega]
 exact Zcx p (fun i=>by rw [Zd5]) (fun m i=>by rw [Zd5]) hf
theorem Y2p (s:List Bucket)(f:Bucket→Option Bool)(p:Bucket→Bool)(hf:∀x∈s,f x=some (p x)):Zgq s f=some (Z0f p s):=by
 unfold Zgq
 rw [show ((s.length:Int)).toNat=s.length by omega]
 exact Zcx p (fun i=>by rw [Zed]) (fun m i=>by rw [Zed]) hf
theorem Y9r (s:List Int)(v:Int):Zf8 s v=some (Z0f (fun x=>decide (v=x)) s):=by
 unfold Zf8
 rw [show ((s.length:Int)).toNat=s.length by omega]
 exact Zcx (f:=fun x=>some (decide (v=x))) (fun x=>decide (v=x)) (fun i=>by rw [Zes]) (fun m i=>by rw [Zes];rfl) (fun _ _=>rfl)
theorem Yqc (s:List Int)(v:Int):Zkj s v=some (s.contains v):=by
 unfold Zkj;rw [Y9r,Option.bind_some,Zc6]
 congr 1
 rw [Bool.eq_iff_iff,List.any_eq_true,List.contains_iff_mem]
 simp
theorem Ym7 (e:Env)(n:Int):Znk e n=some (!e.Down.contains n):=by
 unfold Znk;rw [Yqc];rfl
theorem Y78 (s:List Action)(f:Action→Option Bool)(p:Action→Bool)(hf:∀x∈s,f x=some (p x))(hl:s.length≤lim):Zml s f=some (s.filter (fun x=> !p x)):=by
 have hlim:lim=4294967296:=rfl
 unfold Zml
 rw [Zw3 s f p hf,Option.bind_some]
 by_cases h:Z0f p s<0
 ·have:=Zf1 p s
  rw [decide_eq_true (by omega),cond_true,Yjr p s h]
 ·have hlt:=Zfc p s
  rw [decide_eq_false (by omega),cond_false,Z2r (by omega) (by omega)]
  have key:=Ypm (z:=Zrw) (G:=Ze2 f) (s:=s) (f:=f) p (fun m l i j=>by rw [Ze2]) hf hl (((s.length:Int) - (Z0f p s+1)).toNat+1) s (Z0f p s).toNat ((Z0f p s).toNat+1) (by omega) (by omega) (by omega) rfl rfl (Y6p p s (by omega)).symm
  rw [show ((Z0f p s).toNat:Int)=Z0f p s by omega,show (((Z0f p s).toNat+1:Nat):Int)=Z0f p s+1 by omega] at key
  exact key
theorem Y4e (s:List Action)(f:Action→Option Bool)(p:Action→Bool)(hf:∀x∈s,f x=some (p x)):Zn6 s f=some (s.any p):=by
 unfold Zn6;rw [Zw3 s f p hf,Option.bind_some,Zc6]
def Z07 (a:Action):aset_spot:=bif decide (a.Kind=25) then ⟨a.Kind,a.Oxm.Field⟩ else ⟨a.Kind,0⟩
theorem Zou (a:Action):Zbk a=some (Z07 a):=by
 unfold Zbk Z07
 cases decide (a.Kind=25)<;>rfl
theorem Zhj (a:Action):(Z07 a).kind=a.Kind:=by
 unfold Z07
 cases decide (a.Kind=25)<;>rfl
theorem Yx9 (b c:Action):Ze8 b c=some (decide (Z07 c=Z07 b)):=by
 unfold Ze8
 rw [Zou,Option.bind_some,Zou];rfl
def wr1 (l:List Action)(x:Action):List Action:=bif decide (Z0f (fun b=>decide (Z07 x=Z07 b)) l<0) then l++[x] else l.set (Z0f (fun b=>decide (Z07 x=Z07 b)) l).toNat x
theorem Zy8 (l:List Action)(x:Action):(wr1 l x).length≤l.length+1:=by
 unfold wr1
 cases decide (Z0f (fun b=>decide (Z07 x=Z07 b)) l<0)<;>simp
theorem Zyw:∀(l:List Action) (i:Nat) (acc:List Action),acc.length+l.length≤lim→Zax l i acc=some (l.foldl wr1 acc)
 | [],i,acc,_=>by rw [Zax];rfl
 | x::l,i,acc,h=>by
  simp only [List.length_cons] at h
  have hw:=Zy8 acc x
  rw [Zax,Zw3 acc (fun y=>Ze8 y x) (fun b=>decide (Z07 x=Z07 b)) (fun y _=>Yx9 y x),Option.bind_some,List.foldl_cons]
  have hi:=Zfc (fun b=>decide (Z07 x=Z07 b)) acc
  by_cases hc:Z0f (fun b=>decide (Z07 x=Z07 b)) acc<0
  ·rw [decide_eq_true hc,cond_true,Z1h (by simp;omega),Option.bind_some,Zyw l (i+1) _ (by simp;omega)]
   unfold wr1
   rw [decide_eq_true hc,cond_true]
  ·obtain ⟨n,hn⟩:∃n:Nat,Z0f (fun b=>decide (Z07 x=Z07 b)) acc=(n:Int):=⟨(Z0f (fun b=>decide (Z07 x=Z07 b)) acc).toNat,by omega⟩
   rw [decide_eq_false hc,cond_false,hn,Z28 (by omega),Option.bind_some,Zyw l (i+1) _ (by simp;omega)]
   unfold wr1
   rw [decide_eq_false hc,cond_false,hn]
theorem Zyv (s l:List Action)(h:s.length+l.length≤lim):Zd3 s l=some (l.foldl wr1 s):=by
 unfold Zd3 Z6r
 rw [Z1h (by simp;omega),Option.bind_some,List.nil_append,Zyw l 0 s h]
theorem Zq3:∀(l s:List Action),(l.foldl wr1 s).length≤s.length+l.length
 | [],s=>by simp
 | x::l,s=>by
  have h1:=Zq3 l (wr1 s x)
  have h2:=Zy8 s x
  rw [List.foldl_cons,List.length_cons];omega
theorem Ykf (l:List Action)(x:Action)(h:(l.map Z07).Nodup):((wr1 l x).map Z07).Nodup:=by
 unfold wr1
 rcases Zpe (fun b=>decide (Z07 x=Z07 b)) l with ⟨h1,h2⟩ | ⟨n,h1,h2,h3,h4⟩
 ·rw [decide_eq_true h1,cond_true,List.map_append,List.nodup_append]
  refine ⟨h,by simp,?_⟩
  intro a ha b hb e
  simp only [List.map_cons,List.map_nil,List.mem_singleton] at hb
  subst e;subst hb
  obtain ⟨y,hy,hk⟩:=List.mem_map.1 ha
  have:=List.find?_eq_none.1 h2 y hy
  simp [hk] at this
 ·rw [decide_eq_false (by omega),cond_false,h1,Int.toNat_natCast]
  have hk:Z07 x=Z07 l[n]:=by simpa using h4
  have:(l.set n x).map Z07=l.map Z07:=by
   rw [List.map_set,hk]
   apply List.ext_getElem
   ·simp
   ·intro i h5 h6
    rw [List.getElem_set]
    split
    ·rename_i e;subst e;simp
    ·rfl
  rw [this];exact h
theorem Y24:∀(l s:List Action),(s.map Z07).Nodup→((l.foldl wr1 s).map Z07).Nodup
 | [],s,h=>h
 | x::l,s,h=>Y24 l _ (Ykf s x h)
def Z46 (k:Int):Int:=Z0f (fun x=>decide (k=x)) [18,17,25,22,0]
theorem Zqa (k:Int):Ze5 k=some (Z46 k):=by
 unfold Ze5 Z46
 rw [Y9r];rfl
def Z5b (goes:Bool)(a:Action):Bool:= !(decide (Z46 a.Kind<0)||(goes&&decide (a.Kind=0)))
def Zc9 (a b:Action):Int:=
 bif decide (IntKind.i64.wrap (Z46 (Z07 a).kind - Z46 (Z07 b).kind)≠0) then IntKind.i64.wrap (Z46 (Z07 a).kind - Z46 (Z07 b).kind)
 else bif decide ((Z07 a).field<(Z07 b).field) then -1 else bif decide ((Z07 a).field>(Z07 b).field) then 1 else 0
theorem Y2b (a b:Action):Z92 a b=some (Zc9 a b):=by
 unfold Z92 Zc9
 rw [Zou,Option.bind_some,Zou,Option.bind_some,Zqa,Option.bind_some,Zqa,Option.bind_some]
 cases decide (IntKind.i64.wrap (Z46 (Z07 a).kind - Z46 (Z07 b).kind)≠0)
 ·rw [cond_false,cond_false]
  cases decide ((Z07 a).field<(Z07 b).field)
  ·rw [cond_false,cond_false]
   cases decide ((Z07 a).field>(Z07 b).field)<;>rfl
  ·rfl
 ·rfl
theorem Zlv {α:Type}(lt:α→α→Bool)(x:α):∀R:List α,(Z0t lt x R).Perm (x::R)
 | []=>List.Perm.refl _
 | y::R=>by
  rw [Z0t]
  cases lt x y
  ·exact List.Perm.refl _
  ·exact ((Zlv lt x R).cons y).trans (List.Perm.swap x y R)
theorem Y1o {α:Type}(lt:α→α→Bool):∀(l R:List α),(l.foldl (fun R x=>Z0t lt x R) R).Perm (l++R)
 | [],R=>List.Perm.refl _
 | x::l,R=>by
  rw [List.foldl_cons]
  refine (Y1o lt l _).trans ?_
  refine ((Zlv lt x R).append_left l).trans ?_
  exact List.perm_middle
theorem Y6o {α:Type}(lt:α→α→Bool)(l:List α):(srt lt l).Perm l:=by
 unfold srt
 refine (List.reverse_perm _).trans ?_
 have:=Y1o lt l []
 rwa [List.append_nil] at this
theorem Zfj {α:Type}(lt:α→α→Bool)(x:α)(R:List α):(Z0t lt x R).length=R.length+1:=by
 have:=(Zlv lt x R).length_eq
 simpa using this
def ltA (a b:Action):Bool:=decide (Zc9 a b<0)
theorem Y2z (go:List Action→Int→Option (List Action))(i:Int)(x:Action):∀(R S:List Action) (m:Nat),R.length<m→R.length≤lim→
  Z98 0 Z92 go i m (R.reverse++x::S) (R.length:Int)=go ((Z0t ltA x R).reverse++S) (IntKind.i64.wrap (i+1))
 | [],S,m,h,_=>by
  obtain ⟨m,rfl⟩:∃k,m=k+1:=⟨m - 1,by simp at h;omega⟩
  rw [Z98]
  simp [opt,Z0t]
 | y::R,S,m,h,hl=>by
  have hlim:lim=4294967296:=rfl
  simp only [List.length_cons] at h hl
  obtain ⟨m,rfl⟩:∃k,m=k+1:=⟨m - 1,by omega⟩
  have e0:(y::R).reverse++x::S=R.reverse++y::x::S:=by simp
  have ej:IntKind.i64.wrap (((y::R).length:Int) - 1)=(R.length:Int):=by rw [Z2r (by simp only [List.length_cons];omega) (by simp only [List.length_cons];omega)];simp only [List.length_cons];omega
  have hlen:∀a b:Action,(R.reverse++a::b::S).length=R.length+(S.length+2):=fun a b=>by simp
  have g1:∀a b:Action,lget (R.reverse++a::b::S) (((y::R).length:Int))=some b:=fun a b=>by
   rw [Z6j,List.getElem?_append_right (by simp)];first | done | simp
  have g0:∀a b:Action,lget (R.reverse++a::b::S) ((R.length:Int))=some a:=fun a b=>by
   rw [Z6j,List.getElem?_append_right (by simp)];first | done | simp
  have s1:∀a b c:Action,List.set (R.reverse++a::b::S) (((y::R).length:Int)).toNat c=R.reverse++a::c::S:=fun a b c=>by
   rw [Int.toNat_natCast,List.set_append_right _ _ (by simp)];first | done | simp
  have s0:∀a b c:Action,List.set (R.reverse++a::b::S) ((R.length:Int)).toNat c=R.reverse++c::b::S:=fun a b c=>by
   rw [Int.toNat_natCast,List.set_append_right _ _ (by simp)];first | done | simp
  rw [e0,Z98,decide_eq_true (by simp only [List.length_cons];omega),Z4j,g1,Option.bind_some,Z4j,ej,g0,Option.bind_some,Z4j,Y2b,Option.bind_some,Bool.true_and,Z0t]
  show (bif ltA x y then _ else _)=_
  cases ltA x y
  ·rw [cond_false,cond_false]
   simp
  ·rw [cond_true,cond_true,Option.bind_some,Option.bind_some,Option.bind_some,s1,g0,Option.bind_some,s0,Y2z go i x R (y::S) m (by omega) (by omega)]
   simp
theorem Y73:∀(T R:List Action) (m:Nat),T.length<m→1≤R.length→R.length+T.length≤1000→
  Z78 ((R.length+T.length:Nat):Int) 0 Z92 m (R.reverse++T) (R.length:Int)=some ((T.foldl (fun R x=>Z0t ltA x R) R).reverse)
 | [],R,m,h,_,_=>by
  obtain ⟨m,rfl⟩:∃k,m=k+1:=⟨m - 1,by simp at h;omega⟩
  rw [Z78,decide_eq_false (by simp),cond_false]
  simp
 | x::T,R,m,h,h1,h2=>by
  have hlim:lim=4294967296:=rfl
  simp only [List.length_cons] at h h2
  obtain ⟨m,rfl⟩:∃k,m=k+1:=⟨m - 1,by omega⟩
  have e:IntKind.i64.wrap ((R.length:Int)+1)=(((Z0t ltA x R).length:Nat):Int):=by rw [Zfj,Z2r (by omega) (by omega)];omega
  have hn:R.length+(x::T).length=(Z0t ltA x R).length+T.length:=by rw [Zfj,List.length_cons];omega
  rw [Z78,decide_eq_true (by simp;omega),cond_true,Y2z _ _ x R T Z0s (by unfold Z0s;omega) (by omega),e,hn,Y73 T (Z0t ltA x R) m (by omega) (by rw [Zfj];omega) (by rw [Zfj];omega),List.foldl_cons]
theorem Yll (l:List Action)(h:l.length≤1000):Zcb l 0 (l.length:Int) Z92=some (srt ltA l):=by
 unfold Zcb srt
 have e:IntKind.i64.wrap ((0:Int)+1)=1:=by decide
 rw [e]
 cases l with
 | nil=>rfl
 | cons x l=>
  simp only [List.length_cons] at h
  have:=Y73 l [x] ((((x::l).length:Int) - 1).toNat+1) (by simp) (by simp) (by simp;omega)
  have e2:(([x].length+l.length:Nat):Int)=((x::l).length:Int):=by simp;omega
  rw [e2] at this
  simp only [List.reverse_singleton,List.singleton_append] at this
  rw [List.foldl_cons]
  exact this
theorem Yez (l:List Action)(h:l.length<20):Zf4 l Z92=some (srt ltA l):=by
 unfold Zf4 Zmu
 obtain ⟨m,hm⟩:∃m,(((l.length:Int):Int) - 20).toNat+2=m+1:=⟨_,rfl⟩
 rw [hm,Zcz,decide_eq_false (by omega),cond_false,Yll l (by omega),Option.bind_some]
 obtain ⟨k,hk⟩:∃m,(((l.length:Int):Int) - 20).toNat+1=m+1:=⟨_,rfl⟩
 rw [hk,Z9d,decide_eq_false (by omega),cond_false]
 rfl
def Z4t (s:List Action):List Action:=srt ltA (s.filter (Z5b (s.any fun a=>decide (a.Kind=22))))
theorem Ys7 (s:List Action)(h:s.length<20):Z89 s=some (Z4t s):=by
 have hlim:lim=4294967296:=rfl
 unfold Z89 Z6r Z4t
 rw [Y4e s Znn (fun a=>decide (a.Kind=22)) (fun _ _=>rfl),Option.bind_some,Z1h (by simp;omega),Option.bind_some,List.nil_append]
 have hf:∀a:Action,Zcj a (s.any fun a=>decide (a.Kind=22))=some (!Z5b (s.any fun a=>decide (a.Kind=22)) a):=fun a=>by
  unfold Zcj Z5b
  rw [Zqa,Option.bind_some,Bool.not_not]
 rw [Y78 s _ (fun a=> !Z5b (s.any fun a=>decide (a.Kind=22)) a) (fun a _=>hf a) (by omega),Option.bind_some]
 simp only [Bool.not_not]
 rw [Yez _ (Nat.lt_of_le_of_lt (List.length_filter_le ..) h)]
 rfl
def Zil (bs:List Bucket):Prop:=bs.length≤3∧∀x∈bs,x.Acts.length≤12
def Z6l (l:List Group):Prop:=l.length≤9∧∀g∈l,Zil g.Buckets
theorem Y5h (bs:List Bucket)(h:∀x∈bs,x.Acts.length≤12):∀(m i:Nat),i+m=bs.length→Zbb m i bs=some bs
 | 0,i,_=>by rw [Zbb]
 | m+1,i,hi=>by
  have hlim:lim=4294967296:=rfl
  have hlt:i<bs.length:=by omega
  have ha:=h bs[i] (List.getElem_mem hlt)
  have e:List.set bs ((i:Int)).toNat {bs[i] with Acts:=bs[i].Acts}=bs:=by
   rw [Int.toNat_natCast];exact List.set_getElem_self hlt
  rw [Zbb,Z28 hlt,Option.bind_some]
  unfold Z6r
  rw [Z1h (by simp;omega),Option.bind_some,Option.bind_some,List.nil_append,e]
  exact Y5h bs h m (i+1) (by omega)
theorem Yja (bs:List Bucket)(h:Zil bs):Zkd bs=some bs:=by
 have hlim:lim=4294967296:=rfl
 have:=h.1
 unfold Zkd Zp0
 rw [Z1h (by simp;omega),Option.bind_some,List.nil_append,show ((bs.length:Int)).toNat=bs.length by omega]
 exact Y5h bs h.2 bs.length 0 (by omega)
theorem Ykc (g:Group)(h:Zil g.Buckets):Zni [g]=some [g]:=by
 unfold Zni Zrc
 rw [Z1h (by simp [lim]),Option.bind_some]
 show Zeg 1 0 [g]=_
 rw [Zeg]
 show ((some g).bind fun e8=>_)=_
 rw [Option.bind_some,Yja _ h,Option.bind_some]
 rfl
def Zh6 (l:List Group)(id:Int):Option Group:=l.find? fun g=>decide (g.ID=id)
theorem Y9e (l:List Group)(id:Int)(hl:Z6l l):Zkm l id=some (match Zh6 l id with | none=>((⟨0,0,[]⟩:Group),false) | some g=>(g,true)):=by
 have h9:=hl.1
 unfold Zkm Zfg Zh6
 rw [Y5i l (fun x=>Zkg x id) (fun g=>decide (g.ID=id)) (fun _ _=>rfl),Option.bind_some,Option.bind_some]
 rcases Zpe (fun g:Group=>decide (g.ID=id)) l with ⟨h1,h2⟩ | ⟨n,h1,h2,h3,h4⟩
 ·rw [decide_eq_true h1,cond_true,h2]
 ·have hs:Zic l (n:Int) (IntKind.i64.wrap ((n:Int)+1))=some [l[n]]:=by
   rw [Z2r (by omega) (by omega)]
   unfold Zic
   rw [decide_eq_true (by omega),decide_eq_true (by omega),Nat.ble_eq_true_of_le (by omega)]
   show some _=some _
   have e2:((n:Int)+1).toNat=n+1:=by omega
   have e3:(l.take n).length=n:=by simp;omega
   rw [e2,Int.toNat_natCast,List.take_succ_eq_append_getElem h2,List.drop_append,e3,List.drop_of_length_le (by omega),Nat.sub_self]
   rfl
  rw [decide_eq_false (by omega),cond_false,h1,hs,Option.bind_some,Ykc _ (hl.2 _ (List.getElem_mem h2)),Option.bind_some,h3]
  rfl
theorem Y5z {l:List Group}{id:Int}{g:Group}(h:Zh6 l id=some g):g∈l:=List.mem_of_find?_eq_some h
def Zew (e:Env)(n:Nat):Int:=(Zf6 e (n:Int)).getD 0
theorem Y84 (e:Env)(n:Nat)(hn:0<n)(hn2:n≤1000):Zf6 e (n:Int)=some (Zew e n)∧0≤Zew e n∧Zew e n<n:=by
 have key:∃t,Zf6 e (n:Int)=some t∧0≤t∧t<n:=by
  unfold Zf6 Z8b
  rw [decide_eq_false (by omega),cond_false,decide_eq_false (by omega),cond_false,Option.bind_some]
  have h1:=Int.tmod_lt_of_pos e.Turn (show (0:Int)<n by omega)
  have h2: -(n:Int)<e.Turn.tmod (n:Int):=by
   have:=Int.lt_tmod_of_pos e.Turn (show (0:Int)<n by omega)
   exact this
  by_cases hc:e.Turn.tmod (n:Int)<0
  ·rw [decide_eq_true hc,cond_true,Z2r (by omega) (by omega)]
   exact ⟨_,rfl,by omega,by omega⟩
  ·rw [decide_eq_false hc,cond_false]
   exact ⟨_,rfl,by omega,by omega⟩
 obtain ⟨t,ht,h1,h2⟩:=key
 have e:Zew e n=t:=by unfold Zew;rw [ht];rfl
 rw [e]
 exact ⟨ht,h1,h2⟩
def Zhz (e:Env)(bs:List Bucket):Int:=Z0f (fun x=> !e.Down.contains x.Watch) bs
def Z8a (e:Env)(g:Group):List Int:=
 bif decide (g.Buckets.length=0) then []
 else bif decide (g.Kind=0) then (List.range' 0 g.Buckets.length).map fun (i:Nat)=>(i:Int)
 else bif decide (g.Kind=1) then [Zew e g.Buckets.length]
 else bif decide (g.Kind=2) then [0]
 else bif decide (g.Kind=3) then (bif decide (Zhz e g.Buckets≥0) then [Zhz e g.Buckets] else [])
 else []
theorem Y2u:∀(m i:Nat) (acc:List Int),acc.length+m≤lim→Zc5 m i acc=some (acc++(List.range' i m).map fun (i:Nat)=>(i:Int))
 | 0,i,acc,_=>by rw [Zc5];simp
 | m+1,i,acc,h=>by
  rw [Zc5,Z1h (by simp;omega),Option.bind_some,Y2u m (i+1) _ (by simp;omega),List.range'_succ]
  simp
theorem Yeg (e:Env)(g:Group)(h:Zil g.Buckets):Zle e g=some (Z8a e g):=by
 have hlim:lim=4294967296:=rfl
 have h3:=h.1
 unfold Zle Z8a
 simp only
 have hz:decide ((g.Buckets.length:Int)=0)=decide (g.Buckets.length=0):=by
  rw [decide_eq_decide];omega
 rw [hz]
 by_cases h0:g.Buckets.length=0
 ·rw [decide_eq_true h0];rfl
 ·rw [decide_eq_false h0,cond_false,cond_false]
  cases decide (g.Kind=0)
  ·rw [cond_false,cond_false]
   cases decide (g.Kind=1)
   ·rw [cond_false,cond_false]
    cases decide (g.Kind=2)
    ·rw [cond_false,cond_false]
     cases decide (g.Kind=3)
     ·rfl
     ·rw [cond_true,cond_true]
      unfold Zs8 Zhz
      simp only
      rw [Y2p g.Buckets (fun x=>Zhu x (⟨e,g⟩:env_world)) (fun x=> !e.Down.contains x.Watch) (fun x _=>by unfold Zhu;rw [Ym7];rfl),Option.bind_some,Option.bind_some]
      cases decide (Z0f (fun x=> !e.Down.contains x.Watch) g.Buckets≥0)<;>rfl
    ·rfl
   ·rw [cond_true,cond_true,(Y84 e g.Buckets.length (by omega) (by omega)).1];rfl
  ·rw [cond_true,cond_true,show ((g.Buckets.length:Int)).toNat=g.Buckets.length by omega,Y2u _ 0 [] (by simp;omega)]
   rfl
theorem Y8d (e:Env)(g:Group)(h:Zil g.Buckets):(Z8a e g).length≤3∧∀i∈Z8a e g,∃n:Nat,i=(n:Int)∧n<g.Buckets.length:=by
 have h3:=h.1
 unfold Z8a
 by_cases h0:g.Buckets.length=0
 ·rw [decide_eq_true h0];simp
 ·rw [decide_eq_false h0,cond_false]
  cases decide (g.Kind=0)
  ·rw [cond_false]
   cases decide (g.Kind=1)
   ·rw [cond_false]
    cases decide (g.Kind=2)
    ·rw [cond_false]
     cases decide (g.Kind=3)
     ·simp
     ·rw [cond_true]
      have hlt:=Zfc (fun x:Bucket=> !e.Down.contains x.Watch) g.Buckets
      by_cases hc:Zhz e g.Buckets≥0
      ·rw [decide_eq_true hc,cond_true]
       refine ⟨by simp,fun i hi=>?_⟩
       rw [List.mem_singleton] at hi
       subst hi
       exact ⟨(Zhz e g.Buckets).toNat,by omega,by unfold Zhz at hc ⊢;omega⟩
      ·rw [decide_eq_false hc,cond_false];simp
    ·refine ⟨by simp,fun i hi=>?_⟩
     simp only [cond_true,List.mem_singleton] at hi
     subst hi
     exact ⟨0,rfl,by omega⟩
   ·obtain ⟨_,h1,h2⟩:=Y84 e g.Buckets.length (by omega) (by omega)
    refine ⟨by simp,fun i hi=>?_⟩
    simp only [cond_true,List.mem_singleton] at hi
    subst hi
    exact ⟨(Zew e g.Buckets.length).toNat,by omega,by omega⟩
  ·refine ⟨by simp;omega,fun i hi=>?_⟩
   simp only [cond_true,List.mem_map] at hi
   obtain ⟨n,hn,rfl⟩:=hi
   exact ⟨n,rfl,by have:=(List.mem_range'_1.1 hn).2;omega⟩
def Z93 (acts:List Action):List Action:=Z4t (acts.foldl wr1 [])
def Z42 (l:List Action):Nat:=l.countP fun a=>decide (a.Kind=0)||decide (a.Kind=22)
theorem Yer {a b:Action}(ha:a.Kind≠25)(h:a.Kind=b.Kind):Z07 a=Z07 b:=by
 unfold Z07
 rw [decide_eq_false ha,decide_eq_false (h▸ha),h];rfl
theorem Zxt (k:Int)(hk:k≠25):∀l:List Action,(l.map Z07).Nodup→(l.countP fun a=>decide (a.Kind=k))≤1
 | [],_=>by simp
 | a::l,h=>by
  rw [List.map_cons,List.nodup_cons] at h
  rw [List.countP_cons]
  have ih:=Zxt k hk l h.2
  by_cases ha:a.Kind=k
  ·have:(l.countP fun a=>decide (a.Kind=k))=0:=by
    rw [List.countP_eq_zero]
    intro b hb hbk
    have hbk':b.Kind=k:=by simpa using hbk
    exact h.1 (List.mem_map.2 ⟨b,hb,(Yer (by rw [ha];exact hk) (by rw [ha,hbk'])).symm⟩)
   rw [this,decide_eq_true ha];simp
  ·rw [decide_eq_false ha];simpa using ih
theorem Ydr {l m:List Action}(h:l.Perm m):Z42 l=Z42 m:=h.countP_eq _
theorem Y93 (acts:List Action):Z42 (Z93 acts)≤1:=by
 unfold Z93 Z4t
 rw [Ydr (Y6o _ _)]
 have hn:=Y24 acts [] (by simp)
 generalize acts.foldl wr1 []=s at*
 unfold Z42
 rw [List.countP_filter]
 cases hg:s.any (fun a=>decide (a.Kind=22))
 ·refine Nat.le_trans (List.countP_mono_left fun a ha h=>?_) (Zxt 0 (by decide) s hn)
  rw [List.any_eq_false] at hg
  have:=hg a ha
  simp only [Bool.and_eq_true,Bool.or_eq_true,decide_eq_true_eq] at h
  rcases h.1 with h | h
  ·simpa using h
  ·exact absurd (by simpa using h) this
 ·refine Nat.le_trans (List.countP_mono_left fun a ha h=>?_) (Zxt 22 (by decide) s hn)
  simp only [Bool.and_eq_true,Bool.or_eq_true,decide_eq_true_eq] at h
  rcases h.1 with h1 | h1
  ·have h2:=h.2
   unfold Z5b at h2
   simp [h1] at h2
  ·simpa using h1
def doA (G:Int→Header→List Out):List Action→List Out→Header→List Out×Header
 | [],o,h=>(o,h)
 | a::l,o,h=>bif decide (a.Kind=0) then doA G l (o++[⟨a.Port,Zhm a,h⟩]) h
  else bif decide (a.Kind=22) then doA G l (o++G a.Group h) h
  else doA G l o (Zcn (Zc1 a) h)
def Zc4 (bs:List Bucket)(i:Int):List Action:=match bs[i.toNat]? with
 | some b=>b.Acts
 | none=>[]
def goG (l:List Group)(e:Env):Nat→Int→Header→List Out
 | 0,_,_=>[]
 | d+1,id,h=>match Zh6 l id with
  | none=>[]
  | some g=>(Z8a e g).flatMap fun i=>(doA (goG l e d) (Z93 (Zc4 g.Buckets i)) [] h).1
theorem Zci (G:Int→Header→List Out):∀(l:List Action) (o:List Out) (h:Header),doA G l o h=(o++(doA G l [] h).1,(doA G l [] h).2)
 | [],o,h=>by simp [doA]
 | a::l,o,h=>by
  rw [doA,doA]
  cases decide (a.Kind=0)
  ·rw [cond_false,cond_false]
   cases decide (a.Kind=22)
   ·rw [cond_false,cond_false];exact Zci G l o _
   ·rw [cond_true,cond_true,Zci G l (o++_),Zci G l ([]++_)];simp
  ·rw [cond_true,cond_true,Zci G l (o++_),Zci G l ([]++_)];simp
theorem Zs5 (G:Int→Header→List Out)(B:Nat)(hB:1≤B)(hG:∀id h,(G id h).length≤B):∀(l:List Action) (h:Header),(doA G l [] h).1.length≤Z42 l*B
 | [],h=>by simp [doA]
 | a::l,h=>by
  have ih:=Zs5 G B hB hG l
  unfold Z42 at ih ⊢
  rw [doA,List.countP_cons]
  by_cases h0:a.Kind=0
  ·rw [decide_eq_true h0,cond_true,Zci]
   simp only [List.nil_append,List.length_append,List.length_cons,List.length_nil,Bool.true_or,if_true]
   have:=ih h
   rw [Nat.add_mul,Nat.one_mul];omega
  ·rw [decide_eq_false h0,cond_false]
   by_cases h1:a.Kind=22
   ·rw [decide_eq_true h1,cond_true,Zci]
    have h2:=hG a.Group h
    simp only [List.nil_append,List.length_append,Bool.or_true,if_true]
    have:=ih h
    rw [Nat.add_mul,Nat.one_mul];omega
   ·rw [decide_eq_false h1,cond_false]
    have:=ih (Zcn (Zc1 a) h)
    simpa using this
theorem Y3m {α β:Type}(f:α→List β)(k:Nat):∀l:List α,(∀x∈l,(f x).length≤k)→(l.flatMap f).length≤l.length*k
 | [],_=>by simp
 | x::l,h=>by
  rw [List.flatMap_cons,List.length_append,List.length_cons,Nat.succ_mul]
  have h1:=h x (by simp)
  have h2:=Y3m f k l fun y hy=>h y (by simp [hy])
  omega
theorem Zjk (l:List Group)(e:Env)(hl:Z6l l):∀(d:Nat) (id:Int) (h:Header),(goG l e d id h).length≤3 ^ d
 | 0,id,h=>by simp [goG]
 | d+1,id,h=>by
  rw [goG]
  cases hf:Zh6 l id with
  | none=>simp
  | some g=>
   have hb:=hl.2 g (Y5z hf)
   have ht:=(Y8d e g hb).1
   have h1:1≤3 ^ d:=Nat.pow_pos (by decide)
   have:=Y3m (fun i=>(doA (goG l e d) (Z93 (Zc4 g.Buckets i)) [] h).1) (3 ^ d) (Z8a e g) fun i _=>by
    have h2:=Zs5 (goG l e d) (3 ^ d) h1 (Zjk l e hl d) (Z93 (Zc4 g.Buckets i)) h
    have h3:=Y93 (Zc4 g.Buckets i)
    have h4:Z42 (Z93 (Zc4 g.Buckets i))*3 ^ d≤1*3 ^ d:=Nat.mul_le_mul_right _ h3
    omega
   have h5:(Z8a e g).length*3 ^ d≤3*3 ^ d:=Nat.mul_le_mul_right _ ht
   have e1:3 ^ (d+1)=3*3 ^ d:=by rw [Nat.pow_succ,Nat.mul_comm]
   show ((Z8a e g).flatMap _).length≤_
   omega
theorem Zng (R:Z0w→Int→Option Z0w)(G:Int→Header→List Out)(e:Env)(l:List Group)(dep:Int)(B:Nat)(hB:1≤B)(hG:∀id h,(G id h).length≤B)
  (hR:∀o id h,o.length+B≤lim→R ⟨e,l,o,h,dep⟩ id=some ⟨e,l,o++G id h,h,dep⟩):
  ∀(acts:List Action) (i:Nat) (o:List Out) (h:Header),o.length+Z42 acts*B≤lim→Z9c R acts i o e l h dep=some ⟨e,l,(doA G acts o h).1,(doA G acts o h).2,dep⟩
 | [],i,o,h,_=>by rw [Z9c];rfl
 | a::acts,i,o,h,hb=>by
  unfold Z42 at hb
  rw [List.countP_cons] at hb
  rw [Z9c,doA]
  by_cases h0:a.Kind=0
  ·simp only [decide_eq_true h0,Bool.true_or,if_true,Nat.add_mul,Nat.one_mul] at hb
   rw [decide_eq_true h0,cond_true,cond_true,Yea,Option.bind_some,Z1h (by simp;omega),Option.bind_some]
   exact Zng R G e l dep B hB hG hR acts (i+1) _ h (by unfold Z42;simp;omega)
  ·rw [decide_eq_false h0,cond_false,cond_false]
   by_cases h1:a.Kind=22
   ·simp only [decide_eq_true h1,Bool.or_true,if_true,Nat.add_mul,Nat.one_mul] at hb
    have h2:=hG a.Group h
    rw [decide_eq_true h1,cond_true,cond_true,hR o a.Group h (by omega),Option.bind_some]
    exact Zng R G e l dep B hB hG hR acts (i+1) _ h (by unfold Z42;simp;omega)
   ·simp only [decide_eq_false h0,decide_eq_false h1,Bool.or_self] at hb
    rw [decide_eq_false h1,cond_false,cond_false,Y3k,Option.bind_some,Y4v,Option.bind_some]
    exact Zng R G e l dep B hB hG hR acts (i+1) o _ (by unfold Z42;simpa using hb)
theorem Y2d (R:Z0w→List Action→Option Z0w)(G:Int→Header→List Out)(e:Env)(l:List Group)(g:Group)(hg:Zil g.Buckets)(r1:Z0w)(dep:Int)(hd:0≤dep∧dep≤9)(B:Nat)(hB:1≤B)(hG:∀id h,(G id h).length≤B)
  (hR:∀o acts,Z42 acts≤1→o.length+B≤lim→R ⟨e,l,o,r1.header,dep⟩ acts=some ⟨e,l,(doA G acts o r1.header).1,(doA G acts o r1.header).2,dep⟩):
  ∀(ts:List Int) (i:Nat) (o:List Out),(∀t∈ts,∃n:Nat,t=(n:Int)∧n<g.Buckets.length)→o.length+ts.length*B≤lim→
   Zcv (g,true) R r1 ts i o e l r1.header dep=some ⟨e,l,o++ts.flatMap fun i=>(doA G (Z93 (Zc4 g.Buckets i)) [] r1.header).1,r1.header,dep - 1⟩
 | [],i,o,_,_=>by rw [Zcv,Z2r (by omega) (by omega)];simp
 | t::ts,i,o,ht,hb=>by
  have hlim:lim=4294967296:=rfl
  obtain ⟨n,rfl,hn⟩:=ht t (by simp)
  simp only [List.length_cons,Nat.add_mul,Nat.one_mul] at hb
  have hacts:=hg.2 g.Buckets[n] (List.getElem_mem hn)
  have hba:Zc4 g.Buckets (n:Int)=g.Buckets[n].Acts:=by
   unfold Zc4
   rw [Int.toNat_natCast,List.getElem?_eq_getElem hn]
  have hwl:=Zq3 g.Buckets[n].Acts []
  simp only [List.length_nil,Nat.zero_add] at hwl
  have hlen:=Zs5 G B hB hG (Z93 g.Buckets[n].Acts) r1.header
  have hout:=Y93 g.Buckets[n].Acts
  have hmul:Z42 (Z93 g.Buckets[n].Acts)*B≤1*B:=Nat.mul_le_mul_right _ hout
  rw [Zcv]
  simp only
  rw [Z28 hn,Option.bind_some,Zyv _ _ (by simp;omega),Option.bind_some,Ys7 _ (by omega),Option.bind_some,show Z4t (g.Buckets[n].Acts.foldl wr1 [])=Z93 g.Buckets[n].Acts from rfl,hR o _ hout (by omega),Option.bind_some]
  simp only
  rw [Zci]
  simp only
  rw [Y2d R G e l g hg r1 dep hd B hB hG hR ts (i+1) _ (fun t h=>ht t (by simp [h])) (by rw [List.length_append];omega),List.flatMap_cons,hba]
  simp
theorem Yd5 (l:List Group)(e:Env)(hl:Z6l l):∀(d:Nat),d≤8→
  (∀n o id h,2*d+1≤n→o.length+3 ^ d≤lim→(Z3g n).2 ⟨e,l,o,h,((8 - d:Nat):Int)⟩ id=some ⟨e,l,o++goG l e d id h,h,((8 - d:Nat):Int)⟩)∧
  (∀n o acts h,2*d+2≤n→o.length+Z42 acts*3 ^ d≤lim→(Z3g n).1 ⟨e,l,o,h,((8 - d:Nat):Int)⟩ acts=some ⟨e,l,(doA (goG l e d) acts o h).1,(doA (goG l e d) acts o h).2,((8 - d:Nat):Int)⟩):=by
 have hlim:lim=4294967296:=rfl
 intro d
 induction d with
 | zero=>
  intro hd
  have h1:∀n o id h,2*0+1≤n→o.length+3 ^ 0≤lim→(Z3g n).2 ⟨e,l,o,h,((8 - 0:Nat):Int)⟩ id=some ⟨e,l,o++goG l e 0 id h,h,((8 - 0:Nat):Int)⟩:=by
   intro n o id h hn _
   obtain ⟨n,rfl⟩:∃k,n=k+1:=⟨n - 1,by omega⟩
   show Zf3 (Z3g n).1 (Z3g n).2 _ _=_
   unfold Zf3
   simp only
   rw [Y9e l id hl,Option.bind_some]
   have:∀x:Group×Bool,((!x.2)||decide (((8 - 0:Nat):Int)≥8))=true:=fun x=>by simp
   rw [this]
   simp [goG]
  refine ⟨h1,?_⟩
  intro n o acts h hn hb
  obtain ⟨n,rfl⟩:∃k,n=k+1:=⟨n - 1,by omega⟩
  show Zd2 (Z3g n).1 (Z3g n).2 _ _=_
  unfold Zd2
  exact Zng _ (goG l e 0) e l _ (3 ^ 0) (by decide) (Zjk l e hl 0) (fun o id h hb=>h1 n o id h (by omega) hb) acts 0 o h hb
 | succ d ih=>
  intro hd
  obtain ⟨ih1,ih2⟩:=ih (by omega)
  have hp:3 ^ (d+1)=3*3 ^ d:=by rw [Nat.pow_succ,Nat.mul_comm]
  have h1:∀n o id h,2*(d+1)+1≤n→o.length+3 ^ (d+1)≤lim→(Z3g n).2 ⟨e,l,o,h,((8 - (d+1):Nat):Int)⟩ id=some ⟨e,l,o++goG l e (d+1) id h,h,((8 - (d+1):Nat):Int)⟩:=by
   intro n o id h hn hb
   obtain ⟨n,rfl⟩:∃k,n=k+1:=⟨n - 1,by omega⟩
   show Zf3 (Z3g n).1 (Z3g n).2 _ _=_
   unfold Zf3
   simp only
   rw [Y9e l id hl,Option.bind_some,goG]
   cases hf:Zh6 l id with
   | none=>simp
   | some g=>
    have hg:=hl.2 g (Y5z hf)
    obtain ⟨t1,t2⟩:=Y8d e g hg
    simp only [Bool.not_true,Bool.false_or]
    rw [decide_eq_false (by omega),cond_false,Yeg e g hg,Option.bind_some]
    have ew:IntKind.i64.wrap (((8 - (d+1):Nat):Int)+1)=((8 - d:Nat):Int):=by rw [Z2r (by omega) (by omega)];omega
    rw [ew]
    have hmul:(Z8a e g).length*3 ^ d≤3*3 ^ d:=Nat.mul_le_mul_right _ t1
    have:=Y2d (Z3g n).1 (goG l e d) e l g hg ⟨e,l,o,h,((8 - (d+1):Nat):Int)⟩ ((8 - d:Nat):Int) (by omega) (3 ^ d) (Nat.pow_pos (by decide)) (Zjk l e hl d)
     (fun o acts ho hb=>ih2 n o acts h (by omega) (by
      have:Z42 acts*3 ^ d≤1*3 ^ d:=Nat.mul_le_mul_right _ ho
      omega)) (Z8a e g) 0 o t2 (by omega)
    simp only at this
    rw [this]
    congr 2
    omega
  refine ⟨h1,?_⟩
  intro n o acts h hn hb
  obtain ⟨n,rfl⟩:∃k,n=k+1:=⟨n - 1,by omega⟩
  show Zd2 (Z3g n).1 (Z3g n).2 _ _=_
  unfold Zd2
  exact Zng _ (goG l e (d+1)) e l _ (3 ^ (d+1)) (Nat.pow_pos (by decide)) (Zjk l e hl (d+1)) (fun o id h hb=>h1 n o id h (by omega) hb) acts 0 o h hb
theorem Yof (l:List Group)(e:Env)(acts:List Action)(h:Header)(hl:Z6l l)(ha:acts.length≤100):Zfe l e acts h=some (doA (goG l e 8) acts [] h):=by
 have hlim:lim=4294967296:=rfl
 unfold Zfe Zyt
 have ho:Z42 acts≤100:=Nat.le_trans List.countP_le_length ha
 have hm:Z42 acts*3 ^ 8≤100*3 ^ 8:=Nat.mul_le_mul_right _ ho
 have:=(Yd5 l e hl 8 (by decide)).2 Z0s [] acts h (by unfold Z0s;omega) (by simp only [List.length_nil];omega)
 rw [show (((8 - 8:Nat)):Int)=0 from rfl] at this
 rw [this]
 rfl
end Go.Proofs.YtinplddjjalohaaGreatDoor.W
namespace Go.Proofs.YtinplddjjalohaaGreatDoor.W
open Go Go.Wb
theorem Yfo (a b:Cube):Zjb a b=some (Zcr a b):=by
 unfold Zjb
 rw [Y9h (fun x=>Ziy x a b) (fun i=>Z44 (ve a i) (ve b i)) (fun i hi=>by unfold Ziy;rw [Z2h hi,Option.bind_some,Option.bind_some,Z31,Z31,Zzj];rfl)]
 rfl
def Zr0 (r:Cube)(a:Action):Atom:=bif decide (a.Kind=0) then ⟨r,false,a.Port,Zhm a⟩ else ⟨r,true,a.Group,0⟩
def Zek (a:Action):Bool:=decide (a.Kind=0)||decide (a.Kind=22)
def doT:List Action→Cube→List Atom×Cube
 | [],r=>([],r)
 | a::l,r=>bif Zek a then (Zr0 r a::(doT l r).1,(doT l r).2) else doT l (Zcr r (Zc1 a))
theorem Yec (r:Cube)(o:List Atom)(a:Action)(h:o.length+1≤lim):Zdh ⟨r,o⟩ a=some (bif Zek a then ⟨r,o++[Zr0 r a]⟩ else ⟨Zcr r (Zc1 a),o⟩):=by
 have hj:∀x:Atom,Zd8 ⟨r,o⟩ x=some ⟨r,o++[x]⟩:=fun x=>by
  unfold Zd8
  rw [Z1h (by simpa using h),Option.bind_some]
 unfold Zdh Zek Zr0 Zhm
 cases decide (a.Kind=0)
 ·rw [cond_false]
  cases decide (a.Kind=22)
  ·rw [cond_false,Y3k,Option.bind_some,Yfo];rfl
  ·rw [cond_true,hj];rfl
 ·rw [cond_true]
  cases decide (a.Port=4294967293)
  ·rw [cond_false,hj];rfl
  ·rw [cond_true,hj];rfl
theorem Zxo:∀(l:List Action) (i:Nat) (r:Cube) (o:List Atom),o.length+l.length≤lim→Zbd Z62 (fun s x=>Zdh s x) l i ⟨r,o⟩=some ⟨(doT l r).2,o++(doT l r).1⟩
 | [],i,r,o,_=>by rw [Zbd];simp [doT]
 | a::l,i,r,o,h=>by
  simp only [List.length_cons] at h
  rw [Zbd,Yec r o a (by omega),Option.bind_some,doT]
  cases Zek a
  ·rw [cond_false,cond_false,Zxo l (i+1) _ o (by omega)]
  ·rw [cond_true,cond_true,Zxo l (i+1) _ _ (by simp;omega)]
   simp
theorem Yrm (acts:List Action)(r:Cube)(h:acts.length≤lim):Zj7 acts r=some (doT acts (Z1w r)):=by
 unfold Zj7 Zpn
 rw [Yah,Option.bind_some,Zxo acts 0 _ [] (by simpa using h),Option.bind_some]
 rfl
theorem Zi9:∀(l:List Action) (r:Cube),(doT l r).1.length=Z42 l
 | [],r=>rfl
 | a::l,r=>by
  have ih:=Zi9 l
  unfold Z42 at ih ⊢
  rw [doT,List.countP_cons]
  show _=_+if Zek a=true then 1 else 0
  cases Zek a
  ·simp [ih]
  ·simp [ih]
end Go.Proofs.YtinplddjjalohaaGreatDoor.W
namespace Go.Proofs.YtinplddjjalohaaGreatDoor.W
open Go Go.Wb
end Go.Proofs.YtinplddjjalohaaGreatDoor.W
namespace Go.Proofs.YtinplddjjalohaaGreatDoor.W
open Go Go.Wb
theorem Ybd (s:List Bucket)(f:Bucket→Option Bool)(p:Bucket→Bool)(hf:∀x∈s,f x=some (p x)):Znc s f=some (s.any p):=by
 unfold Znc;rw [Y2p s f p hf,Option.bind_some,Zc6]
theorem Yx8 (s:List Group)(f:Group→Option Bool)(p:Group→Bool)(hf:∀x∈s,f x=some (p x)):Zgh s f=some (s.any p):=by
 unfold Zgh;rw [Y5i s f p hf,Option.bind_some,Zc6]
def Zft (bs:List Bucket)(many:Int):Bool:=decide ((bs.length:Int)≤many)&& !(bs.any fun x=> !decide ((x.Acts.length:Int)≤12))
theorem Yn0 (bs:List Bucket)(many:Int):Zjr bs many=some (Zft bs many):=by
 unfold Zjr Zft
 rw [Ybd bs Zrv (fun x=> !decide ((x.Acts.length:Int)≤12)) (fun x _=>rfl)]
 cases decide ((bs.length:Int)≤many)<;>rfl
def Zfv (l:List Group)(many bm:Int):Bool:=decide ((l.length:Int)≤many)&& !(l.any fun g=> !Zft g.Buckets bm)
theorem Ymv (l:List Group)(many bm:Int):Znh l many bm=some (Zfv l many bm):=by
 unfold Znh Zfv
 rw [Yx8 l (fun x=>Zfr x bm) (fun g=> !Zft g.Buckets bm) (fun g _=>by unfold Zfr;rw [Yn0];rfl)]
 cases decide ((l.length:Int)≤many)<;>rfl
theorem Yex {l:List Group}(h:Zfv l 9 3=true):Z6l l:=by
 unfold Zfv at h
 simp only [Bool.and_eq_true,decide_eq_true_eq,Bool.not_eq_true',List.any_eq_false] at h
 refine ⟨by omega,fun g hg=>?_⟩
 have h1:Zft g.Buckets 3=true:=by simpa using h.2 g hg
 unfold Zft at h1
 simp only [Bool.and_eq_true,decide_eq_true_eq,Bool.not_eq_true',List.any_eq_false] at h1
 refine ⟨by omega,fun x hx=>?_⟩
 have h2:decide ((x.Acts.length:Int)≤12)=true:=by simpa using h1.2 x hx
 rw [decide_eq_true_eq] at h2
 omega
end Go.Proofs.YtinplddjjalohaaGreatDoor.W
namespace Go.Proofs.YtinplddjjalohaaGreatDoor.W
open Go Go.Wb
theorem Zxc (a b:Wide):Zf5 a b=some (Z2v a b):=rfl
theorem Yvi (a b:Wide):Zby a b=some (wor a b):=rfl
theorem Y1q (a b:Wide):Zm4 a b=some (Z3z a b):=rfl
theorem Y21 (t:Tern):Za0 t=some (Z1o t):=rfl
theorem inc (n:Nat)(h:n<9223372036854775807):IntKind.i64.wrap ((n:Int)+1)=((n+1:Nat):Int):=by rw [Z2r (by omega) (by omega)];omega
theorem Y4w (c:Cube):∀(m i:Nat),i≤24→24<i+m→Zd6 m (Z3a (fun i=>Z1o (ve c i)) c i) (i:Int)=some (Z1w c)
 | 0,i,h1,h2=>by omega
 | m+1,i,h1,h2=>by
  rw [Zd6]
  by_cases h:i<24
  ·rw [decide_eq_true (by omega),cond_true,Z2h h,Option.bind_some,Y21,Option.bind_some,Option.bind_some,Z31,Zbj _ _ _ _ h,if_neg (by omega),inc i (by omega)]
   show Zd6 m (Vector.set (Z3a (fun i=>Z1o (ve c i)) c i) i (Z1o (ve c i)) _) _=_
   rw [Z96 (fun i=>Z1o (ve c i)) c i h,Y4w c m (i+1) (by omega) (by omega)]
  ·have:i=24:=by omega
   subst this
   rw [decide_eq_false (by omega),cond_false,Z91];rfl
theorem Zu9 (c:Cube):Zdi c=some (Z1w c):=by
 unfold Zdi
 have:=Y4w c (((24:Int) - 0).toNat+1) 0 (by omega) (by decide)
 rw [Z9a] at this
 exact this
theorem Y7c (a b:Cube):∀(m i:Nat),i≤24→24<i+m→Zdr (Z1w b) m (Z3a (fun i=>Z44 (ve a i) (ve b i)) (Z1w a) i) (i:Int)=some (Zcr a b)
 | 0,i,h1,h2=>by omega
 | m+1,i,h1,h2=>by
  rw [Zdr]
  by_cases h:i<24
  ·simp only [decide_eq_true (show ((i:Int)<24) by omega),cond_true,Z2h h,Option.bind_some,Z31,Y1q,Yvi,inc i (by omega)]
   rw [Zbj _ _ _ _ h,if_neg (by omega),Zje _ _ h,Zje _ _ h]
   have:=Z96 (fun i=>Z44 (ve a i) (ve b i)) (Z1w a) i h
   show Zdr (Z1w b) m (Vector.set (Z3a (fun i=>Z44 (ve a i) (ve b i)) (Z1w a) i) i (Z44 (ve a i) (ve b i)) _) _=_
   rw [this]
   exact Y7c a b m (i+1) (by omega) (by omega)
  ·have:i=24:=by omega
   subst this
   rw [decide_eq_false (by omega),cond_false,Z91];rfl
theorem Zyo (a b:Cube):Zfk a b=some (Zcr a b):=by
 unfold Zfk
 rw [Zu9,Option.bind_some,Zu9,Option.bind_some]
 have:=Y7c a b (((24:Int) - 0).toNat+1) 0 (by omega) (by decide)
 rw [Z9a] at this
 exact this
theorem Y62 (a:Tern):Z44 a zTern=Z1o a:=by
 unfold Z44 Z1o
 have h1:wor (Z3z (Z2v a.Value a.Mask) zTern.Mask) (Z2v zTern.Value zTern.Mask)=Z2v a.Value a.Mask:=Zql fun i hi=>by
  have z:wt zTern.Mask i=false:=Zlm i
  have z2:wt zTern.Value i=false:=Zlm i
  simp only [Y11,Yn7 _ _ _ hi,Zd7,z,z2]
  cases wt a.Value i<;>cases wt a.Mask i<;>rfl
 have h2:wor a.Mask zTern.Mask=a.Mask:=Zql fun i hi=>by
  have z:wt zTern.Mask i=false:=Zlm i
  rw [Y11,z,Bool.or_false]
 show (⟨wor (Z3z (Z2v a.Value a.Mask) zTern.Mask) (Z2v zTern.Value zTern.Mask),wor a.Mask zTern.Mask⟩:Tern)=_
 rw [h1,h2]
theorem Yl4 (a b:Tern):Z44 (Z1o a) b=Z44 a b:=by
 unfold Z44
 rw [Ycd];rfl
theorem Zll (r:Cube)(f:Int)(v m:Wide):Zaj r f v m=some (Z8x r f v m):=by
 unfold Zaj Z8x Zc8
 rw [Option.bind_some]
 have hz:∀i,i<24→ve Z2p i=zTern:=fun i hi=>Yi1 _ _ hi
 cases hc:(decide (f≥0)&&decide (f<24))
 ·rw [cond_false,cond_false]
  unfold Zhr
  rw [Zyo,Option.bind_some]
  have e:Zcr r (Vector.replicate 24 zTern)=Z1w r:=Zck fun i hi=>by
   rw [Y5j _ _ _ hi,Zje _ _ hi,show ve (Vector.replicate 24 zTern) i=zTern from hz i hi,Y62]
  rw [e]
 ·simp only [Bool.and_eq_true,decide_eq_true_eq] at hc
  obtain ⟨n,rfl⟩:∃n:Nat,f=(n:Int):=⟨f.toNat,by omega⟩
  have hn:n<24:=by omega
  rw [cond_true,cond_true,Z2h hn,Option.bind_some,Int.toNat_natCast]
  unfold Zhr
  rw [Zyo,Option.bind_some]
  have e:Zcr r (Vector.set (Vector.replicate 24 zTern) n (⟨v,m⟩:Tern) hn)=Vector.ofFn fun i:_root_.Fin 24=>if n=i.1 then Z44 (ve (Z1w r) n) ⟨v,m⟩ else ve (Z1w r) i.1:=Zck fun i hi=>by
   rw [Y5j _ _ _ hi,Zjl _ _ _ _ _ hi]
   refine Eq.trans ?_ (Zez (fun i=>if n=i then Z44 (ve (Z1w r) n) ⟨v,m⟩ else ve (Z1w r) i) i hi).symm
   by_cases h:n=i
   ·subst h
    simp only [if_true]
    rw [Zje _ _ hi,Yl4]
   ·simp only [if_neg h]
    rw [Zje _ _ hi,show ve (Vector.replicate 24 zTern) i=zTern from hz i hi,Y62]
  exact congrArg some e
theorem Yve:∀f:_root_.Fin 24,Zo4 (f.1:Int)=some (Zhl (f.1:Int))∧Zaz (Zhl (f.1:Int))=some (Zbc (Zhl (f.1:Int))):=by decide+kernel
theorem Ywv:Zaz 13=some (Zbc 13):=by decide+kernel
theorem Ylq:Zaz 3=some (Zbc 3):=by decide+kernel
theorem Ye6:Zav 12=some (Z57 12):=by decide+kernel
theorem Y0z (o:Oxm):Zh1 o=some (oxT o):=by
 unfold Zh1 oxT Zc8
 rw [Option.bind_some]
 cases hc:decide (o.Field≥0)&&decide (o.Field<24)
 ·rfl
 ·simp only [Bool.and_eq_true,decide_eq_true_eq] at hc
  obtain ⟨h1,h2⟩:=Yve ⟨o.Field.toNat,by omega⟩
  have e:((o.Field.toNat:Nat):Int)=o.Field:=by omega
  simp only [e] at h1 h2
  rw [Bool.not_true,cond_false,cond_true]
  cases o.Masked
  ·rw [cond_false,cond_false,h1,Option.bind_some,h2];rfl
  ·rfl
theorem Ygb (a:Action):Zma a=some (Zc1 a):=by
 have h84:Za8=some Z2p:=rfl
 unfold Zma Zc1
 cases decide (a.Kind=25)
 ·rw [cond_false,cond_false]
  cases decide (a.Kind=17)
  ·rw [cond_false,cond_false]
   cases decide (a.Kind=18)
   ·rfl
   ·rw [cond_true,cond_true,h84,Option.bind_some,Ywv,Option.bind_some,Zll,Option.bind_some,Ylq,Option.bind_some,Zll];rfl
  ·rw [cond_true,cond_true,h84,Option.bind_some,Ye6,Option.bind_some,Option.bind_some,Zll];rfl
 ·rw [cond_true,cond_true,Y0z,Option.bind_some,h84,Option.bind_some,Zll];rfl
theorem Ykp (a b:Action):Znu a b=some (decide (Z07 b=Z07 a)):=by
 unfold Znu
 congr 1
 rw [Bool.eq_iff_iff]
 unfold Z07
 by_cases ha:a.Kind=25
 ·by_cases hb:b.Kind=25
  ·simp [ha,hb,eq_comm]
  ·have:a.Kind≠b.Kind:=fun e=>hb (e▸ha)
   simp [ha,hb,this,eq_comm]
 ·by_cases hb:b.Kind=25
  ·have:a.Kind≠b.Kind:=fun e=>ha (e.trans hb)
   simp [ha,hb,this,eq_comm]
  ·simp [ha,hb,eq_comm]
theorem Yad {α:Type}(p:α→Bool):∀(l:List α) (j:Nat) (h:j<l.length),Z0f p (l.take (j+1))=bif decide (Z0f p (l.take j)<0) then (bif p l[j] then (j:Int) else -1) else Z0f p (l.take j)
 | [],j,h=>by simp at h
 | x::l,0,h=>by
  simp only [List.take_zero,List.take_succ_cons,Z0f,List.getElem_cons_zero]
  cases p x<;>rfl
 | x::l,j+1,h=>by
  have hj:j<l.length:=by simpa using h
  have ih:=Yad p l j hj
  have hq:=Zf1 p (l.take j)
  rw [List.take_succ_cons,List.take_succ_cons,Z0f,Z0f,ih,List.getElem_cons_succ]
  generalize Z0f p (l.take j)=q at*
  generalize p l[j]=r at*
  cases p x
  ·simp only [cond_false]
   by_cases hn:q<0
   ·simp only [decide_eq_true hn,cond_true]
    cases r
    ·rfl
    ·simp only [cond_true]
     rw [decide_eq_false (show ¬((j:Int)<0) by omega),cond_false]
     have:decide ((-1:Int)<0)=true:=rfl
     rw [this,cond_true]
     omega
   ·simp only [decide_eq_false hn,cond_false]
    rw [decide_eq_false (show ¬(q+1<0) by omega),cond_false]
  ·rfl
theorem Y7e (l l2:List Action)(i:Nat)(hi:i<l2.length)(hl:l.length≤100)(hl2:l2.length≤100)(go:List Action→Int→Option (List Action)):∀(m j:Nat),j≤l.length→l.length<j+m→
  Zdc l l2 (i:Int) go m (Z0f (fun b=>decide (Z07 l2[i]=Z07 b)) (l.take j)) (j:Int)=go (wr1 l l2[i]) ((i+1:Nat):Int)
 | 0,j,h1,h2=>by omega
 | m+1,j,h1,h2=>by
  have hlim:lim=4294967296:=rfl
  rw [Zdc]
  by_cases hj:j<l.length
  ·have hs:=Yad (fun b=>decide (Z07 l2[i]=Z07 b)) l j hj
   have ih:=Y7e l l2 i hi hl hl2 go m (j+1) (by omega) (by omega)
   rw [decide_eq_true (show (j:Int)<(l.length:Int) by omega),cond_true,inc j (by omega)]
   by_cases hn:Z0f (fun b=>decide (Z07 l2[i]=Z07 b)) (l.take j)<0
   ·rw [decide_eq_true hn,cond_true] at hs
    rw [decide_eq_true hn,Z4j,Z28 hj,Option.bind_some,Z4j,Z28 hi,Option.bind_some,Z4j,Ykp,Option.bind_some,Bool.true_and]
    rw [hs] at ih
    cases hp:decide (Z07 l2[i]=Z07 l[j])
    ·rw [hp,cond_false] at ih
     rw [cond_false]
     have e:Z0f (fun b=>decide (Z07 l2[i]=Z07 b)) (l.take j)= -1:=by
      have:=Zf1 (fun b=>decide (Z07 l2[i]=Z07 b)) (l.take j);omega
     rw [e];exact ih
    ·rw [hp,cond_true] at ih
     rw [cond_true];exact ih
   ·rw [decide_eq_false hn,cond_false] at hs
    rw [decide_eq_false hn]
    simp only [Zpi,Option.bind_some,Bool.false_and,cond_false]
    rw [hs] at ih
    exact ih
  ·have e:l.take j=l:=List.take_of_length_le (by omega)
   rw [decide_eq_false (by omega),cond_false,e]
   unfold wr1
   have hlt:=Zfc (fun b=>decide (Z07 l2[i]=Z07 b)) l
   by_cases hn:Z0f (fun b=>decide (Z07 l2[i]=Z07 b)) l<0
   ·rw [decide_eq_true hn,cond_true,cond_true,Z28 hi,Option.bind_some,Z1h (by simp;omega),Option.bind_some,inc i (by omega)]
   ·obtain ⟨n,hn2⟩:∃n:Nat,Z0f (fun b=>decide (Z07 l2[i]=Z07 b)) l=(n:Int):=⟨(Z0f (fun b=>decide (Z07 l2[i]=Z07 b)) l).toNat,by omega⟩
    rw [decide_eq_false hn,cond_false,cond_false,Z28 hi,Option.bind_some,hn2,Z28 (by omega),Option.bind_some,inc i (by omega)]
theorem Y4y (l2:List Action)(hl2:l2.length≤50):∀(m i:Nat) (acc:List Action),i≤l2.length→l2.length<i+m→acc.length≤i+50→Zbq l2 m acc (i:Int)=some ((l2.drop i).foldl wr1 acc)
 | 0,i,acc,h1,h2,_=>by omega
 | m+1,i,acc,h1,h2,h3=>by
  rw [Zbq]
  by_cases hi:i<l2.length
  ·have h4:=Y7e acc l2 i hi (by omega) (by omega) (Zbq l2 m) ((((acc.length:Int):Int) - 0).toNat+1) 0 (by omega) (by omega)
   rw [List.take_zero,show ((0:Nat):Int)=0 from rfl] at h4
   have h5:=Zy8 acc l2[i]
   rw [decide_eq_true (by omega),cond_true]
   refine Eq.trans h4 ?_
   rw [Y4y l2 hl2 m (i+1) _ (by omega) (by omega) (by omega),List.drop_eq_getElem_cons hi,List.foldl_cons]
  ·rw [decide_eq_false (by omega),cond_false,List.drop_of_length_le (by omega)];rfl
theorem Yce (s l:List Action)(hs:s.length≤50)(h:l.length≤50):Zn8 s l=some (l.foldl wr1 s):=by
 unfold Zn8
 have:=Y4y l h ((((l.length:Int):Int) - 0).toNat+1) 0 s (by omega) (by omega) (by omega)
 rw [Z1h (by simp [lim];omega),Option.bind_some,List.nil_append]
 rw [show ((0:Nat):Int)=0 from rfl,List.drop_zero] at this
 exact this
def cls (k:Int)(l:List Action):List Action:=l.filter fun a=>decide (a.Kind=k)
theorem Zt3 (l:List Action)(k:Int)(hl:l.length≤50):∀(m i:Nat) (acc:List Action),i≤l.length→l.length<i+m→acc.length≤i→Zea l k m acc (i:Int)=some (acc++cls k (l.drop i))
 | 0,i,acc,h1,h2,_=>by omega
 | m+1,i,acc,h1,h2,h3=>by
  have hlim:lim=4294967296:=rfl
  rw [Zea]
  by_cases hi:i<l.length
  ·rw [decide_eq_true (by omega),cond_true,Z28 hi,Option.bind_some,inc i (by omega),List.drop_eq_getElem_cons hi]
   unfold cls
   by_cases hk:l[i].Kind=k
   ·rw [decide_eq_true hk,cond_true,Option.bind_some,Z1h (by simp;omega),Option.bind_some,Zt3 l k hl m (i+1) _ (by omega) (by omega) (by simp;omega),List.filter_cons_of_pos (by simp [hk])]
    simp [cls]
   ·rw [decide_eq_false hk,cond_false,Zt3 l k hl m (i+1) _ (by omega) (by omega) (by omega),List.filter_cons_of_neg (by simp [hk])]
    simp [cls]
  ·rw [decide_eq_false (by omega),cond_false,List.drop_of_length_le (by omega)]
   simp [cls]
theorem Zk7 (l:List Action)(k:Int)(hl:l.length≤50):Z8r l k=some (cls k l):=by
 unfold Z8r
 have:=Zt3 l k hl ((((l.length:Int):Int) - 0).toNat+1) 0 [] (by omega) (by omega) (by simp)
 rw [show ((0:Nat):Int)=0 from rfl] at this
 rw [this];simp
def ltF (a b:Action):Bool:=decide (b.Oxm.Field>a.Oxm.Field)
theorem Zug (l1:List Action)(i:Nat)(hi:i<l1.length)(hi2:l1.length≤50)(go:List Action→Int→Option (List Action))(A:List Action)(hA:A.length≤50):∀(Br S:List Action) (c:Action) (m:Nat),Br.length<m→Br.length≤50→
  Zeh (A.length:Int) l1 (i:Int) go m (A++(Br.reverse++c::S)) ((A.length+Br.length:Nat):Int)=go (A++l1[i]::(Br.reverse++S)) ((i+1:Nat):Int)
 | [],S,c,m,hm,_=>by
  obtain ⟨m,rfl⟩:∃k,m=k+1:=⟨m - 1,by simp at hm;omega⟩
  have g0:lget (A++c::S) (A.length:Int)=some c:=by
   rw [Z6j,List.getElem?_append_right (Nat.le_refl _)];simp
  have s0:List.set (A++c::S) ((A.length:Int)).toNat l1[i]=A++l1[i]::S:=by
   rw [Int.toNat_natCast,List.set_append_right _ _ (Nat.le_refl _)];simp
  rw [Zeh,decide_eq_false (by simp),cond_false,Z28 hi,Option.bind_some]
  simp only [List.reverse_nil,List.nil_append]
  rw [g0,Option.bind_some,s0,inc i (by omega)]
 | b::Br,S,c,m,hm,hb=>by
  simp only [List.length_cons] at hm hb
  obtain ⟨m,rfl⟩:∃k,m=k+1:=⟨m - 1,by omega⟩
  have e0:A++((b::Br).reverse++c::S)=(A++Br.reverse)++b::c::S:=by simp
  have ej:IntKind.i64.wrap (((A.length+(b::Br).length:Nat):Int) - 1)=((A.length+Br.length:Nat):Int):=by rw [Z2r (by simp only [List.length_cons];omega) (by simp only [List.length_cons];omega)];simp only [List.length_cons];omega
  have hlen:(A++Br.reverse).length=A.length+Br.length:=by simp
  have g0:lget ((A++Br.reverse)++b::c::S) ((A.length+Br.length:Nat):Int)=some b:=by
   rw [Z6j,List.getElem?_append_right (by omega),hlen,Nat.sub_self];rfl
  have g1:lget ((A++Br.reverse)++b::c::S) ((A.length+(b::Br).length:Nat):Int)=some c:=by
   rw [Z6j,List.getElem?_append_right (by simp only [List.length_cons];omega),hlen]
   have:A.length+(b::Br).length - (A.length+Br.length)=1:=by simp only [List.length_cons];omega
   rw [this];rfl
  have s1:List.set ((A++Br.reverse)++b::c::S) (((A.length+(b::Br).length:Nat):Int)).toNat b=A++(Br.reverse++b::b::S):=by
   rw [Int.toNat_natCast,List.set_append_right _ _ (by simp only [List.length_cons];omega),hlen]
   have:A.length+(b::Br).length - (A.length+Br.length)=1:=by simp only [List.length_cons];omega
   rw [this];simp
  rw [e0,Zeh,decide_eq_true (by simp only [List.length_cons];omega),cond_true,ej,g0,Option.bind_some,g1,Option.bind_some,s1,Zug l1 i hi hi2 go A hA Br (b::S) b m (by omega) (by omega)]
  simp
theorem Y16 (l1:List Action)(i:Nat)(hi:i<l1.length)(hi2:l1.length≤50)(go:List Action→Int→Option (List Action)):∀(Ar B:List Action) (m:Nat),Ar.length<m→Ar.length+B.length≤50→
  Zem (Ar.reverse++B) l1 (i:Int) go m (Ar.length:Int)=go ((Z0t ltF l1[i] Ar).reverse++B) ((i+1:Nat):Int)
 | [],B,m,hm,hb=>by
  have hlim:lim=4294967296:=rfl
  obtain ⟨m,rfl⟩:∃k,m=k+1:=⟨m - 1,by simp at hm;omega⟩
  simp only [List.length_nil,Nat.zero_add] at hb
  rw [Zem,show decide ((([]:List Action).length:Int)>0)=false from rfl]
  simp only [Zpi,Option.bind_some,Bool.false_and,cond_false,List.reverse_nil,List.nil_append]
  rw [Z1h (by simp;omega),Option.bind_some]
  have e1:IntKind.i64.wrap (((B++[(⟨0,0,0,0,0,Z7t⟩:Action)]).length:Int) - 1)=((([]:List Action).length+B.reverse.length:Nat):Int):=by rw [Z2r (by simp<;>omega) (by simp<;>omega)];simp
  have:=Zug l1 i hi hi2 go [] (by simp) B.reverse [] (⟨0,0,0,0,0,Z7t⟩:Action) ((((([]:List Action).length+B.reverse.length:Nat):Int) - (([]:List Action).length:Int)).toNat+1) (by simp<;>omega) (by simp<;>omega)
  simp only [List.nil_append,List.reverse_reverse,List.append_nil] at this
  rw [e1]
  refine Eq.trans this ?_
  simp [Z0t]
 | y::Ar,B,m,hm,hb=>by
  have hlim:lim=4294967296:=rfl
  simp only [List.length_cons] at hm hb
  obtain ⟨m,rfl⟩:∃k,m=k+1:=⟨m - 1,by omega⟩
  have ej:IntKind.i64.wrap (((y::Ar).length:Int) - 1)=(Ar.length:Int):=by rw [Z2r (by simp only [List.length_cons];omega) (by simp only [List.length_cons];omega)];simp only [List.length_cons];omega
  have e0:(y::Ar).reverse++B=Ar.reverse++y::B:=by simp
  have g0:lget (Ar.reverse++y::B) (Ar.length:Int)=some y:=by
   rw [Z6j,List.getElem?_append_right (by simp)];simp
  rw [Zem,decide_eq_true (by simp only [List.length_cons];omega),Z4j,ej,e0,g0,Option.bind_some,Z4j,Z28 hi,Option.bind_some,Bool.true_and,Z0t]
  show (bif ltF l1[i] y then _ else _)=_
  cases ltF l1[i] y
  ·rw [cond_false,cond_false,Z1h (by simp;omega),Option.bind_some]
   have e1:IntKind.i64.wrap (((Ar.reverse++y::B++[(⟨0,0,0,0,0,Z7t⟩:Action)]).length:Int) - 1)=(((y::Ar).reverse.length+B.reverse.length:Nat):Int):=by rw [Z2r (by simp;omega) (by simp;omega)];simp;omega
   have:=Zug l1 i hi hi2 go (y::Ar).reverse (by simp;omega) B.reverse [] (⟨0,0,0,0,0,Z7t⟩:Action) (((((y::Ar).reverse.length+B.reverse.length:Nat):Int) - ((y::Ar).length:Int)).toNat+1) (by simp;omega) (by simp;omega)
   simp only [List.reverse_reverse,List.append_nil] at this
   rw [e1]
   have e2:Ar.reverse++y::B++[(⟨0,0,0,0,0,Z7t⟩:Action)]=(y::Ar).reverse++(B++[(⟨0,0,0,0,0,Z7t⟩:Action)]):=by simp
   have e3:(((y::Ar).length:Int))=(((y::Ar).reverse.length:Nat):Int):=by simp
   rw [e2]
   rw [e3] at this ⊢
   refine Eq.trans this ?_
   simp
  ·rw [cond_true,cond_true,Y16 l1 i hi hi2 go Ar (y::B) m (by omega) (by simp only [List.length_cons];omega)]
   simp
theorem Yag (l:List Action)(hl:l.length≤50):∀(m i:Nat) (R:List Action),i≤l.length→l.length<i+m→R.length≤i→Zaq l m R.reverse (i:Int)=some (((l.drop i).foldl (fun R x=>Z0t ltF x R) R).reverse)
 | 0,i,R,h1,h2,_=>by omega
 | m+1,i,R,h1,h2,h3=>by
  rw [Zaq]
  by_cases hi:i<l.length
  ·have h4:=Y16 l i hi hl (Zaq l m) R [] Z0s (by unfold Z0s;omega) (by simp;omega)
   rw [List.append_nil,List.append_nil] at h4
   have e:((R.reverse).length:Int)=(R.length:Int):=by simp
   rw [decide_eq_true (by omega),cond_true,e,h4,Yag l hl m (i+1) _ (by omega) (by omega) (by rw [Zfj];omega),List.drop_eq_getElem_cons hi,List.foldl_cons]
  ·rw [decide_eq_false (by omega),cond_false,List.drop_of_length_le (by omega)];rfl
theorem Ylb (l:List Action)(hl:l.length≤50):Zmh l=some (srt ltF l):=by
 unfold Zmh srt
 have:=Yag l hl ((((l.length:Int):Int) - 0).toNat+1) 0 [] (by omega) (by omega) (by simp)
 rw [show ((0:Nat):Int)=0 from rfl,List.drop_zero] at this
 exact this
theorem Z7u {α:Type}(lt:α→α→Bool)(x:α):∀P Q:List α,(∀y∈P,lt x y=true)→Z0t lt x (P++Q)=P++Z0t lt x Q
 | [],Q,_=>rfl
 | y::P,Q,h=>by
  rw [List.cons_append,Z0t,h y (by simp),cond_true,Z7u lt x P Q fun z hz=>h z (by simp [hz])];rfl
theorem Zm9 {α:Type}(lt:α→α→Bool)(x:α):∀Q:List α,(∀y∈Q,lt x y=false)→Z0t lt x Q=x::Q
 | [],_=>rfl
 | y::Q,h=>by rw [Z0t,h y (by simp),cond_false]
theorem Y1x {α:Type}(lt lt':α→α→Bool)(x:α):∀P Q:List α,(∀y∈P,lt x y=lt' x y)→(∀y∈Q,lt x y=false)→Z0t lt x (P++Q)=Z0t lt' x P++Q
 | [],Q,_,hq=>by rw [List.nil_append,Zm9 lt x Q hq];rfl
 | y::P,Q,hp,hq=>by
  rw [List.cons_append,Z0t,Z0t,hp y (by simp)]
  cases lt' x y
  ·rfl
  ·rw [cond_true,cond_true,Y1x lt lt' x P Q (fun z hz=>hp z (by simp [hz])) hq];rfl
def tn (k:Int):Int:=if k=18 then 0 else if k=17 then 1 else if k=25 then 2 else if k=22 then 3 else if k=0 then 4 else -1
theorem Zlr (k:Int):Z46 k=tn k:=by
 unfold Z46 tn
 simp only [Z0f]
 by_cases h1:k=18
 ·subst h1;rfl
 ·by_cases h2:k=17
  ·subst h2;rfl
  ·by_cases h3:k=25
   ·subst h3;rfl
   ·by_cases h4:k=22
    ·subst h4;rfl
    ·by_cases h5:k=0
     ·subst h5;rfl
     ·simp [h1,h2,h3,h4,h5]
theorem Ywg (x y:Action)(k j:Int)(hx:x.Kind=k)(hy:y.Kind=j)(hk: -1≤tn k∧tn k≤4)(hj: -1≤tn j∧tn j≤4)(hne:tn k≠tn j):ltA x y=decide (tn k<tn j):=by
 unfold ltA Zc9
 have e:decide (tn k - tn j≠0)=true:=decide_eq_true (by omega)
 rw [Zhj,Zhj,hx,hy,Zlr,Zlr,Z2r (by omega) (by omega),e,cond_true,decide_eq_decide]
 omega
theorem Zov (x y:Action)(k:Int)(hx:x.Kind=k)(hy:y.Kind=k)(hk:k≠25):ltA x y=false:=by
 unfold ltA Zc9
 rw [Zhj,Zhj,hx,hy,Int.sub_self,show IntKind.i64.wrap 0=0 by decide,show decide ((0:Int)≠0)=false from rfl,cond_false]
 have e1:(Z07 x).field=0:=by unfold Z07;rw [decide_eq_false (by rw [hx];exact hk)];rfl
 have e2:(Z07 y).field=0:=by unfold Z07;rw [decide_eq_false (by rw [hy];exact hk)];rfl
 rw [e1,e2];rfl
theorem Ysl (x y:Action)(hx:x.Kind=25)(hy:y.Kind=25):ltA x y=ltF x y:=by
 unfold ltA Zc9 ltF
 rw [Zhj,Zhj,hx,hy,Int.sub_self,show IntKind.i64.wrap 0=0 by decide,show decide ((0:Int)≠0)=false from rfl,cond_false]
 have e1:(Z07 x).field=x.Oxm.Field:=by unfold Z07;rw [decide_eq_true hx];rfl
 have e2:(Z07 y).field=y.Oxm.Field:=by unfold Z07;rw [decide_eq_true hy];rfl
 rw [e1,e2]
 by_cases h:x.Oxm.Field<y.Oxm.Field
 ·rw [decide_eq_true h,cond_true];rfl
 ·rw [decide_eq_false h,cond_false]
  cases decide (x.Oxm.Field>y.Oxm.Field)<;>rfl
theorem Zgw:∀(l E D C B A:List Action),(∀y∈E,y.Kind=0)→(∀y∈D,y.Kind=22)→(∀y∈C,y.Kind=25)→(∀y∈B,y.Kind=17)→(∀y∈A,y.Kind=18)→(∀y∈l,0≤tn y.Kind)→
  l.foldl (fun R x=>Z0t ltA x R) (E++(D++(C++(B++A))))=(cls 0 l).reverse++E++((cls 22 l).reverse++D++((cls 25 l).foldl (fun R x=>Z0t ltF x R) C++((cls 17 l).reverse++B++((cls 18 l).reverse++A))))
 | [],E,D,C,B,A,_,_,_,_,_,_=>by simp [cls]
 | x::l,E,D,C,B,A,hE,hD,hC,hB,hA,hl=>by
  have hx:=hl x (by simp)
  have hl':∀y∈l,0≤tn y.Kind:=fun y hy=>hl y (by simp [hy])
  have rk:∀k:Int, -1≤tn k∧tn k≤4:=fun k=>by unfold tn;split<;>(try split)<;>(try split)<;>(try split)<;>(try split)<;>omega
  have far:∀(y:Action) (k j:Int),x.Kind=k→y.Kind=j→tn k≠tn j→ltA x y=decide (tn k<tn j):=fun y k j h1 h2 h3=>Ywg x y k j h1 h2 (rk k) (rk j) h3
  rw [List.foldl_cons]
  have hxk:x.Kind=18∨x.Kind=17∨x.Kind=25∨x.Kind=22∨x.Kind=0:=by
   unfold tn at hx
   by_cases h1:x.Kind=18
   ·exact .inl h1
   ·by_cases h2:x.Kind=17
    ·exact .inr (.inl h2)
    ·by_cases h3:x.Kind=25
     ·exact .inr (.inr (.inl h3))
     ·by_cases h4:x.Kind=22
      ·exact .inr (.inr (.inr (.inl h4)))
      ·by_cases h5:x.Kind=0
       ·exact .inr (.inr (.inr (.inr h5)))
       ·simp [h1,h2,h3,h4,h5] at hx
  have c1:∀k,x.Kind=k→cls k (x::l)=x::cls k l:=fun k h=>by unfold cls;rw [List.filter_cons_of_pos (by simp [h])]
  have c0:∀k,x.Kind≠k→cls k (x::l)=cls k l:=fun k h=>by unfold cls;rw [List.filter_cons_of_neg (by simp [h])]
  rcases hxk with h | h | h | h | h
  ·rw [Z7u ltA x E _ fun y hy=>(far y 18 0 h (hE y hy) (by decide)).trans rfl,Z7u ltA x D _ fun y hy=>(far y 18 22 h (hD y hy) (by decide)).trans rfl,Z7u ltA x C _ fun y hy=>(far y 18 25 h (hC y hy) (by decide)).trans rfl,Z7u ltA x B _ fun y hy=>(far y 18 17 h (hB y hy) (by decide)).trans rfl,Zm9 ltA x A fun y hy=>Zov x y 18 h (hA y hy) (by decide),
    Zgw l E D C B (x::A) hE hD hC hB (fun y hy=>by rcases List.mem_cons.1 hy with rfl | hy;exact h;exact hA y hy) hl',c1 18 h,c0 17 (by rw [h];decide),c0 25 (by rw [h];decide),c0 22 (by rw [h];decide),c0 0 (by rw [h];decide)]
   simp
  ·rw [Z7u ltA x E _ fun y hy=>(far y 17 0 h (hE y hy) (by decide)).trans rfl,Z7u ltA x D _ fun y hy=>(far y 17 22 h (hD y hy) (by decide)).trans rfl,Z7u ltA x C _ fun y hy=>(far y 17 25 h (hC y hy) (by decide)).trans rfl,Zm9 ltA x (B++A) fun y hy=>(by
    rcases List.mem_append.1 hy with hy | hy
    ·exact Zov x y 17 h (hB y hy) (by decide)
    ·exact (far y 17 18 h (hA y hy) (by decide)).trans rfl)]
   have:=Zgw l E D C (x::B) A hE hD hC (fun y hy=>by rcases List.mem_cons.1 hy with rfl | hy;exact h;exact hB y hy) hA hl'
   rw [List.cons_append] at this
   rw [this,c1 17 h,c0 18 (by rw [h];decide),c0 25 (by rw [h];decide),c0 22 (by rw [h];decide),c0 0 (by rw [h];decide)]
   simp
  ·rw [Z7u ltA x E _ fun y hy=>(far y 25 0 h (hE y hy) (by decide)).trans rfl,Z7u ltA x D _ fun y hy=>(far y 25 22 h (hD y hy) (by decide)).trans rfl,Y1x ltA ltF x C (B++A) (fun y hy=>Ysl x y h (hC y hy)) (fun y hy=>(by
    rcases List.mem_append.1 hy with hy | hy
    ·exact (far y 25 17 h (hB y hy) (by decide)).trans rfl
    ·exact (far y 25 18 h (hA y hy) (by decide)).trans rfl)),
    Zgw l E D (Z0t ltF x C) B A hE hD (fun y hy=>by rcases List.mem_cons.1 ((Zlv ltF x C).mem_iff.1 hy) with rfl | hy;exact h;exact hC y hy) hB hA hl',c1 25 h,c0 18 (by rw [h];decide),c0 17 (by rw [h];decide),c0 22 (by rw [h];decide),c0 0 (by rw [h];decide)]
   rw [List.foldl_cons]
  ·rw [Z7u ltA x E _ fun y hy=>(far y 22 0 h (hE y hy) (by decide)).trans rfl,Zm9 ltA x (D++(C++(B++A))) fun y hy=>(by
    rcases List.mem_append.1 hy with hy | hy
    ·exact Zov x y 22 h (hD y hy) (by decide)
    ·rcases List.mem_append.1 hy with hy | hy
     ·exact (far y 22 25 h (hC y hy) (by decide)).trans rfl
     ·rcases List.mem_append.1 hy with hy | hy
      ·exact (far y 22 17 h (hB y hy) (by decide)).trans rfl
      ·exact (far y 22 18 h (hA y hy) (by decide)).trans rfl)]
   have:=Zgw l E (x::D) C B A hE (fun y hy=>by rcases List.mem_cons.1 hy with rfl | hy;exact h;exact hD y hy) hC hB hA hl'
   rw [List.cons_append] at this
   rw [this,c1 22 h,c0 18 (by rw [h];decide),c0 17 (by rw [h];decide),c0 25 (by rw [h];decide),c0 0 (by rw [h];decide)]
   simp
  ·rw [Zm9 ltA x (E++(D++(C++(B++A)))) fun y hy=>(by
    rcases List.mem_append.1 hy with hy | hy
    ·exact Zov x y 0 h (hE y hy) (by decide)
    ·rcases List.mem_append.1 hy with hy | hy
     ·exact (far y 0 22 h (hD y hy) (by decide)).trans rfl
     ·rcases List.mem_append.1 hy with hy | hy
      ·exact (far y 0 25 h (hC y hy) (by decide)).trans rfl
      ·rcases List.mem_append.1 hy with hy | hy
       ·exact (far y 0 17 h (hB y hy) (by decide)).trans rfl
       ·exact (far y 0 18 h (hA y hy) (by decide)).trans rfl)]
   have:=Zgw l (x::E) D C B A (fun y hy=>by rcases List.mem_cons.1 hy with rfl | hy;exact h;exact hE y hy) hD hC hB hA hl'
   rw [List.cons_append] at this
   rw [this,c1 0 h,c0 18 (by rw [h];decide),c0 17 (by rw [h];decide),c0 25 (by rw [h];decide),c0 22 (by rw [h];decide)]
   simp
theorem Yvk (l:List Action)(h:∀y∈l,0≤tn y.Kind):srt ltA l=cls 18 l++(cls 17 l++(srt ltF (cls 25 l)++(cls 22 l++cls 0 l))):=by
 unfold srt
 have:=Zgw l [] [] [] [] [] (by simp) (by simp) (by simp) (by simp) (by simp) h
 simp only [List.nil_append,List.append_nil] at this
 rw [this]
 simp
theorem Zmg (k:Int)(p:Action→Bool)(l:List Action)(h:∀a,a.Kind=k→p a=true):cls k (l.filter p)=cls k l:=by
 unfold cls
 rw [List.filter_filter]
 apply List.filter_congr
 intro a _
 by_cases hk:a.Kind=k
 ·simp [hk,h a hk]
 ·simp [hk]
theorem Yv1 (k:Int)(p:Action→Bool)(l:List Action)(h:∀a,a.Kind=k→p a=false):cls k (l.filter p)=[]:=by
 unfold cls
 rw [List.filter_filter,List.filter_eq_nil_iff]
 intro a _
 by_cases hk:a.Kind=k
 ·simp [hk,h a hk]
 ·simp [hk]
theorem Yme (s:List Action)(h:s.length≤50):Zis s=some (Z4t s):=by
 have hlim:lim=4294967296:=rfl
 have lc:∀k,(cls k s).length≤50:=fun k=>Nat.le_trans (List.length_filter_le ..) (by omega)
 have l18:=lc 18
 have l17:=lc 17
 have l25:=lc 25
 have l22:=lc 22
 have l0:=lc 0
 have ls:(srt ltF (cls 25 s)).length≤50:=by rw [(Y6o _ _).length_eq];exact l25
 unfold Zis Z4t
 rw [Zk7 s 18 (by omega),Option.bind_some,Zk7 s 17 (by omega),Option.bind_some,Z1h (by omega),Option.bind_some,Zk7 s 25 (by omega),Option.bind_some,Ylb _ (by omega),Option.bind_some,Z1h (by rw [List.length_append];omega),Option.bind_some,Zk7 s 22 (by omega),Option.bind_some]
 have hk:∀(b:Bool) (a:Action),Z5b b a=true→0≤tn a.Kind:=fun b a ha=>by
  unfold Z5b at ha
  rw [Zlr] at ha
  simp only [Bool.not_eq_true',Bool.or_eq_false_iff,decide_eq_false_iff_not] at ha
  omega
 have kp:∀(b:Bool) (k:Int),0≤tn k→k≠0→∀a:Action,a.Kind=k→Z5b b a=true:=fun b k hk h0 a ha=>by
  unfold Z5b
  rw [Zlr,ha,decide_eq_false (by omega),decide_eq_false h0];simp
 have hany:(s.any fun a=>decide (a.Kind=22))=decide (((cls 22 s).length:Int)>0):=by
  rw [Bool.eq_iff_iff,List.any_eq_true,decide_eq_true_eq]
  constructor
  ·rintro ⟨a,ha,hk⟩
   have:a∈cls 22 s:=List.mem_filter.2 ⟨ha,hk⟩
   have:=List.length_pos_of_mem this
   omega
  ·intro hp
   obtain ⟨a,ha⟩:=List.exists_mem_of_length_pos (show 0<(cls 22 s).length by omega)
   have:=List.mem_filter.1 ha
   exact ⟨a,this.1,this.2⟩
 rw [Yvk _ (fun y hy=>hk _ y (List.mem_filter.1 hy).2),Zmg 18 _ _ (kp _ 18 (by decide) (by decide)),Zmg 17 _ _ (kp _ 17 (by decide) (by decide)),Zmg 25 _ _ (kp _ 25 (by decide) (by decide)),Zmg 22 _ _ (kp _ 22 (by decide) (by decide)),hany]
 cases hg:decide (((cls 22 s).length:Int)>0)
 ·have e22:cls 22 s=[]:=List.eq_nil_of_length_eq_zero (by rw [decide_eq_false_iff_not] at hg;omega)
  have e0:cls 0 (s.filter (Z5b false))=cls 0 s:=Zmg 0 _ _ fun a ha=>by
   unfold Z5b
   rw [Zlr,ha];rfl
  rw [cond_false,Zk7 s 0 (by omega),Option.bind_some,Z1h (by simp only [List.length_append];omega),Option.bind_some,e22,e0]
  simp
 ·have e0:cls 0 (s.filter (Z5b true))=[]:=Yv1 0 _ _ fun a ha=>by
   unfold Z5b
   rw [ha];simp
  rw [cond_true,Z1h (by simp only [List.length_append];omega),Option.bind_some,e0]
  simp
end Go.Proofs.YtinplddjjalohaaGreatDoor.W
namespace Go.Proofs.YtinplddjjalohaaGreatDoor.W
open Go Go.Wb
def Yid (G:Int→Header→List Out)(h:Header)(x:Atom):List Out:=bif x.Group then G x.Port (Zcn x.Rewrite h) else [⟨x.Port,x.Max,Zcn x.Rewrite h⟩]
end Go.Proofs.YtinplddjjalohaaGreatDoor.W
namespace Go.Proofs.YtinplddjjalohaaGreatDoor.W
open Go Go.Wb
theorem Zs9 (acts:List Action)(ha:acts.length≤1000):∀(m i:Nat) (r:Cube) (o:List Atom),i≤acts.length→acts.length<i+m→o.length≤i→Z88 acts m r o (i:Int)=some (o++(doT (acts.drop i) r).1,(doT (acts.drop i) r).2)
 | 0,i,r,o,h1,h2,_=>by omega
 | m+1,i,r,o,h1,h2,hb=>by
  have hlim:lim=4294967296:=rfl
  rw [Z88]
  by_cases hi:i<acts.length
  ·rw [decide_eq_true (by omega),cond_true,Z28 hi,Option.bind_some,List.drop_eq_getElem_cons hi,doT]
   unfold Zek Zr0 Zhm
   by_cases h0:acts[i].Kind=0
   ·have hj:∀x:Atom,Zhy o (Z88 acts m) r (i:Int) x=some (o++x::(doT (acts.drop (i+1)) r).1,(doT (acts.drop (i+1)) r).2):=fun x=>by
     unfold Zhy
     rw [Z1h (by simp only [List.length_cons,List.length_nil];omega),Option.bind_some,inc i (by omega),Zs9 acts ha m (i+1) r _ (by omega) (by omega) (by simp only [List.length_append,List.length_cons,List.length_nil];omega)]
     simp
    rw [decide_eq_true h0]
    simp only [cond_true,Option.bind_some,Bool.true_or]
    cases hp:decide (acts[i].Port=4294967293)
    ·simp only [hp,cond_false]
     rw [hj]
    ·simp only [hp,cond_true]
     rw [hj]
   ·rw [decide_eq_false h0]
    simp only [cond_false,Option.bind_some,Bool.false_or]
    by_cases h4:acts[i].Kind=22
    ·rw [decide_eq_true h4]
     simp only [cond_true,Option.bind_some]
     rw [Z1h (by simp only [List.length_cons,List.length_nil];omega),Option.bind_some,inc i (by omega),Zs9 acts ha m (i+1) r _ (by omega) (by omega) (by simp only [List.length_append,List.length_cons,List.length_nil];omega)]
     simp
    ·rw [decide_eq_false h4]
     simp only [cond_false,Option.bind_some]
     rw [Ygb,Option.bind_some,Zyo,Option.bind_some,inc i (by omega),Zs9 acts ha m (i+1) _ o (by omega) (by omega) (by omega)]
  ·rw [decide_eq_false (by omega),cond_false,List.drop_of_length_le (by omega)];simp [doT]
theorem Y1r (acts:List Action)(r:Cube)(ha:acts.length≤1000):Zdy acts r=some (doT acts (Z1w r)):=by
 unfold Zdy
 rw [Zu9,Option.bind_some]
 have:=Zs9 acts ha ((((acts.length:Int):Int) - 0).toNat+1) 0 (Z1w r) [] (by omega) (by omega) (by simp)
 rw [show ((0:Nat):Int)=0 from rfl] at this
 rw [this];simp
end Go.Proofs.YtinplddjjalohaaGreatDoor.W
namespace Go.Proofs.YtinplddjjalohaaGreatDoor.W
open Go Go.Wb
end Go.Proofs.YtinplddjjalohaaGreatDoor.W
namespace Go.Proofs.YtinplddjjalohaaGreatDoor.W
open Go Go.Wb
end Go.Proofs.YtinplddjjalohaaGreatDoor.W
namespace Go.Proofs.YtinplddjjalohaaGreatDoor.W
open Go Go.Wb
theorem Yxo (a b:Wide):Zq8 a b=some (Z95 a b):=rfl
theorem Y7k (a:Wide):Zi3 a=some (Z4s a):=rfl
theorem Y1v (a:Wide):Zg7 a=some (Z4s a):=by
 unfold Zg7
 congr 1
 rw [Yhn,Bool.eq_iff_iff]
 obtain ⟨h,l⟩:=a
 simp [Z0p]
theorem bvn (i:Nat)(h:i<18446744073709551616):((BitVec.ofInt 64 (i:Int)).toNat:Int)=(i:Int):=by
 rw [BitVec.toNat_ofInt];omega
theorem Yug (i:Nat)(h:i<128):Zav (i:Int)=some (Z57 i):=by
 unfold Zav
 have h1:(decide ((i:Int)<0)||decide ((i:Int)>127))=false:=by simp;omega
 rw [h1,cond_false]
 unfold Z57
 by_cases h2:i<64
 ·rw [Z9v h2,cond_true,decide_eq_true (by omega),cond_true,bvn i (by omega),Zrf,Option.bind_some]
  rfl
 ·have e:IntKind.i64.wrap ((i:Int) - 64)=((i - 64:Nat):Int):=by rw [Z2r (by omega) (by omega)];omega
  rw [Zaa h2,cond_false,decide_eq_false (by omega),cond_false,e,bvn (i - 64) (by omega),Zrf,Option.bind_some]
  rfl
theorem Y6q (a:Wide)(i:Nat)(h:i<128):Zgt a (i:Int)=some (wt a i):=by
 unfold Zgt
 rw [Zui i h,Option.bind_some,Y0y,Option.bind_some,Y7k,Option.bind_some,Y66 a i h]
theorem Ytr (a:Wide)(i:Nat)(h:i<128):Zl2 a (i:Int)=some (wt a i):=by
 unfold Zl2
 rw [Yug i h,Option.bind_some,Zxc,Option.bind_some,Y1v,Option.bind_some,Y66 a i h]
theorem Yhc (n:Nat)(h:n<18446744073709551616):Zit .and .i64 (IntKind.i64.wrap (n:Int)) 127=((n % 128:Nat):Int):=by
 have e:(BitVec.ofInt 64 (IntKind.i64.wrap (n:Int))&&& BitVec.ofInt 64 127).toNat=n % 128:=by
  have e1:BitVec.ofInt 64 (IntKind.i64.wrap (n:Int))=BitVec.ofNat 64 n:=by
   apply BitVec.eq_of_toNat_eq
   rw [BitVec.toNat_ofInt,BitVec.toNat_ofNat]
   simp only [IntKind.wrap,IntKind.signed,IntKind.bits]
   simp
   omega
  have e2:BitVec.ofInt 64 127=BitVec.ofNat 64 127:=rfl
  rw [e1,e2,BitVec.toNat_and,BitVec.toNat_ofNat,BitVec.toNat_ofNat,Nat.mod_eq_of_lt h]
  exact Nat.and_two_pow_sub_one_eq_mod n 7
 show IntKind.i64.wrap ((BitVec.ofInt 64 (IntKind.i64.wrap (n:Int))&&& BitVec.ofInt 64 127).toNat:Int)=_
 rw [e,Z2r (by omega) (by omega)]
def cnt (x:BitVec 64):Nat:=ds 1 64 x.toNat
theorem Y38 (x:BitVec 64):Zi4 x=some (cnt x:Int):=by
 obtain ⟨h0,ha,hb,hbb,hd,he,hf⟩:=Ynf x.toNat x.isLt
 have sh:∀(x:BitVec 64) (n:BitVec 64),Z3s x (n.toNat:Int)=some (x>>>n.toNat):=fun x n=>Ywr x n.toNat
 unfold Zi4
 simp only [sh,Option.bind_some]
 congr 1
 have t1:((1:BitVec 64)).toNat=1:=rfl
 have t2:((2:BitVec 64)).toNat=2:=rfl
 have t4:((4:BitVec 64)).toNat=4:=rfl
 have t8:((8:BitVec 64)).toNat=8:=rfl
 have t16:((16:BitVec 64)).toNat=16:=rfl
 have t32:((32:BitVec 64)).toNat=32:=rfl
 rw [t1,t2,t4,t8,t16,t32]
 generalize hA:(x>>>1&&& (6148914691236517205:BitVec 64))+(x&&& (6148914691236517205:BitVec 64))=A
 have eA:A.toNat=(x.toNat / 2&&& 6148914691236517205)+(x.toNat&&& 6148914691236517205):=by
  rw [←hA,BitVec.toNat_add,BitVec.toNat_and,BitVec.toNat_and,BitVec.toNat_ushiftRight,Nat.shiftRight_eq_div_pow]
  exact Nat.mod_eq_of_lt ha
 generalize hB:(A>>>2&&& (3689348814741910323:BitVec 64))+(A&&& (3689348814741910323:BitVec 64))=B
 have eB:B.toNat=(A.toNat / 4&&& 3689348814741910323)+(A.toNat&&& 3689348814741910323):=by
  rw [←hB,BitVec.toNat_add,BitVec.toNat_and,BitVec.toNat_and,BitVec.toNat_ushiftRight,Nat.shiftRight_eq_div_pow]
  rw [eA]
  exact Nat.mod_eq_of_lt hb
 generalize hC:(B>>>4+B)&&& (1085102592571150095:BitVec 64)=D
 have eC:D.toNat=(B.toNat / 16+B.toNat)&&& 1085102592571150095:=by
  rw [←hC,BitVec.toNat_and,BitVec.toNat_add,BitVec.toNat_ushiftRight,Nat.shiftRight_eq_div_pow]
  have:(B.toNat / 2 ^ 4+B.toNat) % 2 ^ 64=B.toNat / 16+B.toNat:=by
   rw [eB,eA]
   exact Nat.mod_eq_of_lt hbb
  rw [this];rfl
 rw [←eA,←eB,←eC] at hd he hf h0
 generalize hE:D+D>>>8=E
 have eE:E.toNat=D.toNat+D.toNat / 256:=by
  rw [←hE,BitVec.toNat_add,BitVec.toNat_ushiftRight,Nat.shiftRight_eq_div_pow]
  exact Nat.mod_eq_of_lt hd
 rw [←eE] at he hf h0
 generalize hG:E+E>>>16=G
 have eG:G.toNat=E.toNat+E.toNat / 65536:=by
  rw [←hG,BitVec.toNat_add,BitVec.toNat_ushiftRight,Nat.shiftRight_eq_div_pow]
  exact Nat.mod_eq_of_lt he
 rw [←eG] at hf h0
 generalize hK:G+G>>>32=K
 have eK:K.toNat=G.toNat+G.toNat / 4294967296:=by
  rw [←hK,BitVec.toNat_add,BitVec.toNat_ushiftRight,Nat.shiftRight_eq_div_pow]
  exact Nat.mod_eq_of_lt hf
 rw [←eK] at h0
 rw [Yhc _ K.isLt,h0]
 rfl
theorem Zzx (x:BitVec 64):cnt x≤64:=by
 unfold cnt
 rw [Zqn]
 exact Nat.le_trans (List.length_filter_le ..) (by simp)
def Z81 (a:Wide):List Nat:=(List.range 128).filter (wt a)
theorem Yse (a:Wide):(Z81 a).length=cnt a.Lo+cnt a.Hi:=by
 have e:List.range (64+64)=List.range 64++(List.range 64).map (64+ ·):=List.range_add
 unfold Z81 cnt
 rw [show (128:Nat)=64+64 from rfl,e,List.filter_append,List.length_append,Zqn,Zqn,List.filter_map,List.length_map]
 congr 2
theorem Yeo (a:Wide):Zkc a=some ((Z81 a).length:Int):=by
 have h1:=Zzx a.Hi
 have h2:=Zzx a.Lo
 rw [Yse]
 unfold Zkc
 rw [Y38,Option.bind_some,Y38,Option.bind_some]
 generalize cnt a.Hi=p at*
 generalize cnt a.Lo=q at*
 rw [Z2r (by omega) (by omega)]
 congr 1
 omega
def Z5y (a:Wide):Nat→List Int
 | 0=>[]
 | n+1=>bif wt a n then (n:Int)::Z5y a n else Z5y a n
theorem Y5k (a:Wide):∀n,(Z5y a n).length=((List.range n).filter (wt a)).length
 | 0=>rfl
 | n+1=>by
  rw [List.range_succ,List.filter_append,List.length_append,Z5y,←Y5k a n]
  cases h:wt a n<;>simp [h]
theorem Zut (a:Wide):∀(n:Nat) (i:Int),i∈Z5y a n↔ ∃k:Nat,i=(k:Int)∧k<n∧wt a k=true
 | 0,i=>by simp [Z5y]
 | n+1,i=>by
  rw [Z5y]
  cases h:wt a n
  ·rw [cond_false,Zut a n i]
   constructor
   ·rintro ⟨k,rfl,h1,h2⟩;exact ⟨k,rfl,by omega,h2⟩
   ·rintro ⟨k,rfl,h1,h2⟩
    have:k≠n:=fun e=>by rw [e,h] at h2;cases h2
    exact ⟨k,rfl,by omega,h2⟩
  ·rw [cond_true,List.mem_cons,Zut a n i]
   constructor
   ·rintro (rfl | ⟨k,rfl,h1,h2⟩)
    ·exact ⟨n,rfl,by omega,h⟩
    ·exact ⟨k,rfl,by omega,h2⟩
   ·rintro ⟨k,rfl,h1,h2⟩
    by_cases e:k=n
    ·left;rw [e]
    ·right;exact ⟨k,rfl,by omega,h2⟩
theorem Yq7 (a:Wide):∀(n m:Nat) (acc:List Int),n≤128→n<m→acc.length+(Z5y a n).length=(Z81 a).length→Zbt a m acc ((n:Int) - 1)=some (acc++Z5y a n):=by
 have hlim:lim=4294967296:=rfl
 have hup:(Z81 a).length≤128:=by
  unfold Z81;exact Nat.le_trans (List.length_filter_le ..) (by simp)
 intro n
 induction n with
 | zero=>
  intro m acc h1 h2 h3
  obtain ⟨m,rfl⟩:∃k,m=k+1:=⟨m - 1,by omega⟩
  rw [Zbt,decide_eq_false (by omega),Zpi,Option.bind_some,Bool.false_and,cond_false]
  simp [Z5y]
 | succ n ih=>
  intro m acc h1 h2 h3
  obtain ⟨m,rfl⟩:∃k,m=k+1:=⟨m - 1,by omega⟩
  have e:((n+1:Nat):Int) - 1=(n:Int):=by omega
  rw [e,Zbt,decide_eq_true (by omega),Z4j,Yeo,Option.bind_some,Bool.true_and]
  by_cases hc:acc.length<(Z81 a).length
  ·have e2:IntKind.i64.wrap ((n:Int) - 1)=(n:Int) - 1:=Z2r (by omega) (by omega)
   rw [decide_eq_true (by omega),cond_true,Y6q a n (by omega),Option.bind_some,e2,Z5y]
   rw [Z5y] at h3
   cases hw:wt a n
   ·rw [hw,cond_false] at h3
    rw [cond_false,cond_false,ih m acc (by omega) (by omega) h3]
   ·rw [hw,cond_true,List.length_cons] at h3
    rw [cond_true,cond_true,Z1h (by simp;omega),Option.bind_some,ih m _ (by omega) (by omega) (by simp;omega)]
    simp
  ·rw [decide_eq_false (by omega),cond_false]
   have:Z5y a (n+1)=[]:=List.eq_nil_of_length_eq_zero (by omega)
   rw [this];simp
end Go.Proofs.YtinplddjjalohaaGreatDoor.W
namespace Go.Proofs.YtinplddjjalohaaGreatDoor.W
open Go Go.Wb
theorem Ys5 (t:Tern):Za0 t=some (Z1o t):=rfl
theorem Y57 (f:Int→Option (Tern×Bool))(g:Nat→Tern)(hf:∀i:Nat,i<24→f (i:Int)=some (g i,true))(b:Cube):∀(m i:Nat),i+m=24→Z74 f m i (Z3a g b i)=some (Vector.ofFn (fun i=>g i.1),true)
 | 0,i,h=>by
  have:i=24:=by omega
  subst this
  rw [Z74,Z91]
 | m+1,i,h=>by
  rw [Z74,hf i (by omega),Option.bind_some,Bool.not_true,cond_false,Z2h (by omega),Option.bind_some]
  show Z74 f m (i+1) (Vector.set (Z3a g b i) i (g i) _)=_
  rw [Z96 g b i (by omega),Y57 f g hf b m (i+1) (by omega)]
theorem Yaf (c:Cube):Zgs c=some (Z1w c):=by
 unfold Zgs Zdb
 have:=Y57 (fun x=>Ziw x c) (fun i=>Z1o (ve c i)) (fun i hi=>by unfold Ziw;rw [Z2h hi,Option.bind_some,Z31,Zq9];rfl) (Vector.replicate 24 zTern) 24 0 rfl
 rw [Z9a] at this
 rw [show ((24:Int)).toNat=24 from rfl,this]
 rfl
theorem Y9j (c:Cube):∀(m i:Nat),i≤24→24<i+m→Zcy m (Z3a (fun i=>Z1o (ve c i)) c i) (i:Int)=some (Z1w c)
 | 0,i,h1,h2=>by omega
 | m+1,i,h1,h2=>by
  rw [Zcy]
  by_cases h:i<24
  ·have e:IntKind.i64.wrap ((i:Int)+1)=((i+1:Nat):Int):=by rw [Z2r (by omega) (by omega)];omega
   rw [decide_eq_true (by omega),cond_true,Z2h h,Option.bind_some,Ys5,Option.bind_some,Option.bind_some,Z31,Zbj _ _ _ _ h,if_neg (by omega),e]
   show Zcy m (Vector.set (Z3a (fun i=>Z1o (ve c i)) c i) i (Z1o (ve c i)) _) _=_
   rw [Z96 (fun i=>Z1o (ve c i)) c i h,Y9j c m (i+1) (by omega) (by omega)]
  ·have:i=24:=by omega
   subst this
   rw [decide_eq_false (by omega),cond_false,Z91];rfl
theorem Yk2 (c:Cube):Zm6 c=some (Z1w c):=by
 unfold Zm6
 have:=Y9j c (((24:Int) - 0).toNat+1) 0 (by omega) (by decide)
 rw [Z9a] at this
 exact this
def Ycr (x y:Tern):Bool:= !Z4s (Z2v (Z2v x.Mask y.Mask) (Z95 x.Value y.Value))
def apart (a b:Atom):Bool:= !(a.Group==b.Group)||decide (a.Port≠b.Port)||decide (a.Max≠b.Max)||(List.range' 0 24).any fun f=>Ycr (ve a.Rewrite f) (ve b.Rewrite f)
def Zi1 (t:Tern)(i:Nat)(on:Bool):Tern:=bif on then ⟨wor (Z3z (Z1o t).Value (Z57 i)) (Z57 i),wor (Z1o t).Mask (Z57 i)⟩ else ⟨Z3z (Z1o t).Value (Z57 i),wor (Z1o t).Mask (Z57 i)⟩
theorem Y1g (t:Tern)(i:Nat)(h:i<128)(on:Bool):Zgu t (i:Int) on=some (Zi1 t i on):=by
 unfold Zgu
 rw [Zui i h,Option.bind_some,Zq9,Option.bind_some,Zvx,Option.bind_some,Zq4,Option.bind_some]
 cases on
 ·rfl
 ·rw [cond_true,Zvx];rfl
def Ylc (c:Cube)(f bit:Nat)(on:Bool):Option Cube:=
 bif wt (ve c f).Mask bit&&(wt (ve c f).Value bit==on) then none else some (Vector.ofFn fun k=>if f=k.1 then Zi1 (ve c f) bit (!on) else ve c k.1)
theorem Yke (c:Cube)(f:Nat)(hf:f<24)(t:Tern):Vector.set c f t hf=Vector.ofFn fun k=>if f=k.1 then t else ve c k.1:=Zck fun j hj=>by
 rw [Zjl _ _ _ _ _ hj,Zez (fun k=>if f=k then t else ve c k) j hj]
def sgl (x y:Tern)(k:Nat):Bool×Bool:=bif wt x.Mask k==wt y.Mask k then (false,false) else (true,bif wt x.Mask k then wt x.Value k else wt y.Value k)
def rp (c:Cube)(x y:Tern)(f k:Nat):Option Cube:=bif (sgl x y k).1 then Ylc c f k (sgl x y k).2 else none
def Zdu (t:Tern)(v:Wide):Bool:=Z4s (Z2v (Z95 t.Value v) t.Mask)
theorem Yd8 (t:Tern)(v:Wide):Zdu t v=true↔ ∀k,k<128→wt t.Mask k=true→wt t.Value k=wt v k:=by
 unfold Zdu
 rw [Znb]
 constructor
 ·intro h k hk hm
  have:=h k hk
  rw [Zd7,Zwv,hm] at this
  revert this
  cases wt t.Value k<;>cases wt v k<;>decide
 ·intro h k hk
  rw [Zd7,Zwv]
  cases hm:wt t.Mask k
  ·simp
  ·rw [h k hk hm];simp
theorem Y8l (t:Tern)(v:Wide):Zfy t v=some (Zdu t v):=rfl
def Zh4 (c:Cube)(h:Header):Bool:=(List.range' 0 24).all fun f=>Zdu (ve c f) (ve h f)
theorem Y8c (c:Cube)(h:Header):∀(l:List Tern) (i:Nat),i+l.length=24→l=(Vector.toList c).drop i→Zbo h l i=some ((List.range' i l.length).all fun f=>Zdu (ve c f) (ve h f))
 | [],i,h1,h2=>by rw [Zbo];rfl
 | x::l,i,h1,h2=>by
  simp only [List.length_cons] at h1
  have hi:i<(Vector.toList c).length:=by simp;omega
  rw [List.drop_eq_getElem_cons hi] at h2
  obtain ⟨rfl,h3⟩:=List.cons.inj h2
  have hx:(Vector.toList c)[i]=ve c i:=by rw [Vector.getElem_toList,Z6o _ _ (by omega)]
  rw [Zbo,Z2h (by omega),Option.bind_some,Z31,Y8l,Option.bind_some,Y8c c h l (i+1) (by omega) h3,List.length_cons,List.range'_succ,List.all_cons,hx]
  cases Zdu (ve c i) (ve h i)<;>rfl
theorem Yvg (c:Cube)(h:Header):Zlh c h=some (Zh4 c h):=by
 unfold Zlh Zh4
 have:=Y8c c h (Vector.toList c) 0 (by simp) rfl
 rw [this]
 simp
end Go.Proofs.YtinplddjjalohaaGreatDoor.W
namespace Go.Proofs.YtinplddjjalohaaGreatDoor.W
open Go Go.Wb
end Go.Proofs.YtinplddjjalohaaGreatDoor.W
namespace Go.Proofs.YtinplddjjalohaaGreatDoor.W
open Go Go.Wb
theorem Y0h (k:Int): -1≤Z46 k∧Z46 k≤4:=by
 unfold Z46
 have h1:=Zf1 (fun x=>decide (k=x)) [18,17,25,22,0]
 have h2:=Zfc (fun x=>decide (k=x)) [18,17,25,22,0]
 simp only [List.length_cons,List.length_nil] at h2
 omega
theorem Zps (a b:Action):ltA a b=decide (Z46 (Z07 a).kind<Z46 (Z07 b).kind∨(Z46 (Z07 a).kind=Z46 (Z07 b).kind∧(Z07 a).field<(Z07 b).field)):=by
 have h1:=Y0h (Z07 a).kind
 have h2:=Y0h (Z07 b).kind
 unfold ltA Zc9
 rw [wr (by omega) (by omega)]
 generalize Z46 (Z07 a).kind=x at*
 generalize Z46 (Z07 b).kind=y at*
 generalize (Z07 a).field=f at*
 generalize (Z07 b).field=g at*
 by_cases e:x - y=0
 ·have e1:decide (x - y≠0)=false:=decide_eq_false (by omega)
  rw [e1,cond_false]
  by_cases h3:f<g
  ·have e2:decide (f<g)=true:=decide_eq_true h3
   rw [e2,cond_true]
   simp;omega
  ·have e2:decide (f<g)=false:=decide_eq_false h3
   rw [e2,cond_false]
   by_cases h4:f>g
   ·have e3:decide (f>g)=true:=decide_eq_true h4
    rw [e3,cond_true]
    simp;omega
   ·have e3:decide (f>g)=false:=decide_eq_false h4
    rw [e3,cond_false]
    simp;omega
 ·have e1:decide (x - y≠0)=true:=decide_eq_true (by omega)
  rw [e1,cond_true,decide_eq_decide]
  omega
theorem Y9o:Swo ltA where
 asym:=fun a b h=>by
  rw [Zps,decide_eq_true_eq] at h
  rw [Zps,decide_eq_false_iff_not]
  omega
 neg:=fun a b c h k=>by
  rw [Zps,decide_eq_false_iff_not] at h k
  rw [Zps,decide_eq_false_iff_not]
  omega
theorem Yor:Z6u ltA Z92:=fun x y=>⟨Zc9 x y,Y2b x y,rfl⟩
theorem Yb1 (s:List Action)(h:s.length≤100000):Z89 s=some (Z4t s):=by
 have hlim:lim=4294967296:=rfl
 unfold Z89 Z6r Z4t
 rw [Y4e s Znn (fun a=>decide (a.Kind=22)) (fun _ _=>rfl),Option.bind_some,Z1h (by simp;omega),Option.bind_some,List.nil_append]
 have hf:∀a:Action,Zcj a (s.any fun a=>decide (a.Kind=22))=some (!Z5b (s.any fun a=>decide (a.Kind=22)) a):=fun a=>by
  unfold Zcj Z5b
  rw [Zqa,Option.bind_some,Bool.not_not]
 rw [Y78 s _ (fun a=> !Z5b (s.any fun a=>decide (a.Kind=22)) a) (fun a _=>hf a) (by omega),Option.bind_some]
 simp only [Bool.not_not]
 rw [Yg4 Y9o Yor _ (Nat.le_trans (List.length_filter_le ..) h)]
 rfl
theorem Zmy (s:List Action):(Z4t s).length≤s.length:=by
 unfold Z4t
 rw [Z3d Y9o]
 exact List.length_filter_le ..
def Z3h (a b:Tern):Option Tern:=bif Z4s (Z2v (Z95 a.Value b.Value) (Z2v a.Mask b.Mask)) then some ⟨wor (Z1o a).Value (Z1o b).Value,wor a.Mask b.Mask⟩ else none
def Z1u {α:Type}(z:α):Option α→α×Bool
 | some a=>(a,true)
 | none=>(z,false)
theorem Y3v (a b:Tern):Zgy a b=some (Z1u zTern (Z3h a b)):=by
 have h:Zgy a b=bif !(Z4s (Z2v (Z95 a.Value b.Value) (Z2v a.Mask b.Mask))) then some (zTern,false) else some (⟨wor (Z1o a).Value (Z1o b).Value,wor a.Mask b.Mask⟩,true):=rfl
 rw [h]
 unfold Z3h
 cases Z4s (Z2v (Z95 a.Value b.Value) (Z2v a.Mask b.Mask))<;>rfl
def Z6h (g:Nat→Option Tern):Option Cube:=bif (List.range 24).all (fun i=>(g i).isSome) then some (Vector.ofFn fun i=>(g i.1).getD zTern) else none
theorem Y3j {g:Nat→Option Tern}{c:Cube}(h:Z6h g=some c)(i:Nat)(hi:i<24):g i=some (ve c i):=by
 unfold Z6h at h
 cases ha:(List.range 24).all (fun i=>(g i).isSome)
 ·rw [ha] at h;cases h
 ·rw [ha,cond_true] at h
  rw [List.all_eq_true] at ha
  have h1:=ha i (by simpa using hi)
  obtain ⟨x,hx⟩:=Option.isSome_iff_exists.1 h1
  rw [←Option.some.inj h,Zez (fun i=>(g i).getD zTern) i hi,hx];rfl
theorem Ys9 {g:Nat→Option Tern}(h:Z6h g=none):∃i,i<24∧g i=none:=by
 unfold Z6h at h
 cases ha:(List.range 24).all (fun i=>(g i).isSome)
 ·rw [List.all_eq_false] at ha
  obtain ⟨i,hi,h1⟩:=ha
  exact ⟨i,by simpa using hi,by simpa using h1⟩
 ·rw [ha] at h;cases h
theorem Yoj {g:Nat→Option Tern}{c:Cube}(h:∀i,i<24→g i=some (ve c i)):Z6h g=some c:=by
 cases hc:Z6h g with
 | none=>obtain ⟨i,hi,h1⟩:=Ys9 hc;rw [h i hi] at h1;cases h1
 | some d=>
  congr 1
  refine Zck fun i hi=>?_
  have:=Y3j hc i hi
  rw [h i hi] at this
  exact (Option.some.inj this).symm
theorem Y1k {g:Nat→Option Tern}(i:Nat)(hi:i<24)(h:g i=none):Z6h g=none:=by
 cases hc:Z6h g with
 | none=>rfl
 | some c=>have:=Y3j hc i hi;rw [h] at this;cases this
theorem Yak (f:Int→Option (Tern×Bool))(g:Nat→Option Tern)(hf:∀i:Nat,i<24→f (i:Int)=some (Z1u zTern (g i))):∀(m i:Nat) (b:Cube),i+m=24→(∀j,j<i→g j=some (ve b j))→
  Z74 f m i b=some (Z1u Z2p (Z6h g))
 | 0,i,b,h,hb=>by
  rw [Z74,Yoj (c:=b) (fun j hj=>hb j (by omega))];rfl
 | m+1,i,b,h,hb=>by
  rw [Z74,hf i (by omega),Option.bind_some]
  cases hg:g i with
  | none=>
   rw [Y1k i (by omega) hg];rfl
  | some t=>
   show (chk 24 (i:Int)).bind _=_
   rw [Z2h (by omega),Option.bind_some]
   refine Yak f g hf m (i+1) _ (by omega) fun j hj=>?_
   rw [Zjl _ _ _ _ _ (by omega)]
   by_cases e:i=j
   ·subst e;rw [if_pos rfl,hg];rfl
   ·rw [if_neg e];exact hb j (by omega)
theorem Yvy (f:Int→Option (Tern×Bool))(g:Nat→Option Tern)(hf:∀i:Nat,i<24→f (i:Int)=some (Z1u zTern (g i))):Zdb f=some (Z1u Z2p (Z6h g)):=by
 unfold Zdb
 exact Yak f g hf 24 0 _ rfl fun j hj=>by omega
def Z6a (a b:Cube):Option Cube:=Z6h fun i=>Z3h (ve a i) (ve b i)
theorem Zxl (a b:Cube):Zb9 a b=some (Z1u Z2p (Z6a a b)):=by
 unfold Zb9
 rw [Yvy _ (fun i=>Z3h (ve a i) (ve b i)) (fun i hi=>by unfold Zk8;rw [Z2h hi,Option.bind_some,Option.bind_some,Z31,Z31,Y3v];rfl)]
 rfl
def Z7j (r c:Cube):Option Cube:=bif (List.range 24).all (fun i=>(Z3h (ve r i) (ve c i)).isSome) then some (Vector.ofFn fun i=>Z1o ⟨(ve c i.1).Value,Z3z (ve c i.1).Mask (ve r i.1).Mask⟩) else none
theorem Y0u (f:Int→Option Tern)(g:Nat→Tern)(hf:∀i:Nat,i<24→f (i:Int)=some (g i))(b:Cube):∀(m i:Nat),i+m=24→Z9m f m i (Z3a g b i)=some (Vector.ofFn (fun i=>g i.1))
 | 0,i,h=>by
  have:i=24:=by omega
  subst this
  rw [Z9m,Z91]
 | m+1,i,h=>by
  rw [Z9m,hf i (by omega),Option.bind_some,Z2h (by omega),Option.bind_some]
  show Z9m f m (i+1) (Vector.set (Z3a g b i) i (g i) _)=_
  rw [Z96 g b i (by omega),Y0u f g hf b m (i+1) (by omega)]
theorem Ydb (f:Int→Option Tern)(g:Nat→Tern)(hf:∀i:Nat,i<24→f (i:Int)=some (g i)):Zna f=some (Vector.ofFn (fun i=>g i.1)):=by
 unfold Zna
 have:=Y0u f g hf (Vector.replicate 24 zTern) 24 0 rfl
 rw [Z9a] at this
 exact this
theorem Y5t (r c:Cube):∀(l:List Tern) (i:Nat),i+l.length=24→l=(Vector.toList r).drop i→(∀j,j<i→(Z3h (ve r j) (ve c j)).isSome=true)→Zb0 c r l i=some (Z1u Z2p (Z7j r c))
 | [],i,h1,h2,h3=>by
  have hi:i=24:=by simpa using h1
  subst hi
  have hall:(List.range 24).all (fun i=>(Z3h (ve r i) (ve c i)).isSome)=true:=by
   rw [List.all_eq_true];intro i hi;exact h3 i (by simpa using hi)
  unfold Z7j
  rw [hall,cond_true,Zb0,Ydb _ (fun i=>Z1o ⟨(ve c i).Value,Z3z (ve c i).Mask (ve r i).Mask⟩) (fun i hi=>by
   unfold Znx
   rw [Z2h hi,Option.bind_some,Option.bind_some,Option.bind_some,Z31,Z31];rfl)]
  rfl
 | x::l,i,h1,h2,h3=>by
  simp only [List.length_cons] at h1
  have hi:i<(Vector.toList r).length:=by simp;omega
  rw [List.drop_eq_getElem_cons hi] at h2
  obtain ⟨rfl,h4⟩:=List.cons.inj h2
  have hx:(Vector.toList r)[i]=ve r i:=by rw [Vector.getElem_toList,Z6o _ _ (by omega)]
  rw [Zb0,hx,Z2h (by omega),Option.bind_some,Z31,Y3v,Option.bind_some]
  cases hm:Z3h (ve r i) (ve c i) with
  | none=>
   have hall:(List.range 24).all (fun i=>(Z3h (ve r i) (ve c i)).isSome)=false:=by
    rw [List.all_eq_false]
    exact ⟨i,by simp;omega,by simp [hm]⟩
   unfold Z7j
   rw [hall];rfl
  | some t=>
   exact Y5t r c l (i+1) (by omega) h4 fun j hj=>by
    by_cases e:j=i
    ·subst e;rw [hm];rfl
    ·exact h3 j (by omega)
theorem Ydv (r c:Cube):Zn2 r c=some (Z1u Z2p (Z7j r c)):=by
 unfold Zn2
 exact Y5t r c (Vector.toList r) 0 (by simp) rfl fun j hj=>by omega
def Zdn (c:Cube)(o:Oxm):Cube:=if h:0≤o.Field∧o.Field.toNat<24 then Vector.set c o.Field.toNat (oxT o) h.2 else c
theorem Y3h (c:Cube)(o:Oxm)(n:Nat)(hn:o.Field=(n:Int))(h:n<24):Zdn c o=Vector.set c n (oxT o) h:=by
 unfold Zdn
 rw [dif_pos (by omega)]
 simp [hn]
theorem Y01 (c:Cube)(o:Oxm)(h:¬(0≤o.Field∧o.Field<24)):Zdn c o=c:=by
 unfold Zdn
 rw [dif_neg (by omega)]
theorem Zt4:∀(l:List Oxm) (i:Nat) (c:Cube),Zb3 l i c=some (l.foldl Zdn c)
 | [],i,c=>rfl
 | o::l,i,c=>by
  rw [Zb3,List.foldl_cons]
  unfold Z8y
  rw [Option.bind_some]
  by_cases h:0≤o.Field∧o.Field<24
  ·obtain ⟨n,hn⟩:∃n:Nat,o.Field=(n:Int):=⟨o.Field.toNat,by omega⟩
   have hn24:n<24:=by have:=h.2;omega
   have hd:(decide (o.Field≥0)&&decide (o.Field<24))=true:=by simp;omega
   have hc:chk 24 o.Field=some ⟨n,hn24⟩:=by rw [hn];exact Z2h hn24
   rw [hd,cond_true,Yaz,Option.bind_some,hc,Option.bind_some,Y3h c o n hn hn24,Zt4 l (i+1)]
  ·have hd:(decide (o.Field≥0)&&decide (o.Field<24))=false:=by
    rw [Bool.and_eq_false_iff,decide_eq_false_iff_not,decide_eq_false_iff_not];omega
   rw [hd,cond_false,Y01 c o h,Zt4 l (i+1)]
def Ypv (l:List Oxm):Cube:=l.foldl Zdn Z2p
def Z8q (f:Flow):Cube:=Z1w (Ypv f.Match)
theorem Y7b (f:Flow):Zev f=some (Z8q f):=by
 unfold Zev Zqj Zh0
 rw [Option.bind_some,Zt4,Option.bind_some,Yaf];rfl
def ofI (l:List Inst)(k:Int):Option Inst:=l.find? fun i=>decide (i.Kind=k)
theorem Ya6 (s:List Inst)(f:Inst→Option Bool)(p:Inst→Bool)(hf:∀x∈s,f x=some (p x)):Zg6 s f=some (Z0f p s):=by
 unfold Zg6
 rw [show ((s.length:Int)).toNat=s.length by omega]
 exact Zcx p (fun i=>by rw [Zd0]) (fun m i=>by rw [Zd0]) hf
def Zuu:Inst:=⟨0,0,Z0p,Z0p,[]⟩
theorem Z85 (l:List Inst)(k:Int)(hl:∀i∈l,i.Acts.length≤12):Z64 l k=some (Z1u Zuu (ofI l k)):=by
 have hlim:lim=4294967296:=rfl
 unfold Z64 ofI
 rw [Ya6 l (fun x=>Zmd x k) (fun i=>decide (i.Kind=k)) (fun _ _=>rfl),Option.bind_some]
 rcases Zpe (fun i:Inst=>decide (i.Kind=k)) l with ⟨h1,h2⟩ | ⟨n,h1,h2,h3,h4⟩
 ·rw [decide_eq_true h1,cond_true,h2];rfl
 ·have:=hl _ (List.getElem_mem h2)
  rw [decide_eq_false (by omega),cond_false,h1,Z28 h2,Option.bind_some,h3]
  unfold Z6r
  rw [Z1h (by simp;omega),Option.bind_some]
  rfl
theorem Z8w {l:List Inst}{k:Int}{i:Inst}(h:ofI l k=some i):i∈l:=List.mem_of_find?_eq_some h
end Go.Proofs.YtinplddjjalohaaGreatDoor.W
namespace Go.Proofs.YtinplddjjalohaaGreatDoor.W
open Go Go.Wb
end Go.Proofs.YtinplddjjalohaaGreatDoor.W
namespace Go.Proofs.YtinplddjjalohaaGreatDoor.W
open Go Go.Wb
def Zi7 (x a:Tern):List Int:=Z5y (Z3z x.Mask a.Mask) 128
theorem Ycj (a x:Tern):Zjj a x=some (Zi7 x a):=by
 unfold Zjj Zi7
 rw [Zq4,Option.bind_some]
 have:=Yq7 (Z3z x.Mask a.Mask) 128 Z0s [] (by omega) (by unfold Z0s;omega) (by rw [Y5k];simp [Z81])
 simpa using this
def Zlf (c:Cube)(f:Nat)(t:Tern):Cube:=Vector.ofFn fun k=>if f=k.1 then t else ve c k.1
theorem Zze (c:Cube)(f:Nat)(hf:f<24)(t:Tern):Vector.set c f t hf=Zlf c f t:=Yke c f hf t
def Zbh (xv:Wide)(f:Nat):List Int→Cube→List Cube×Cube
 | [],left=>([],left)
 | i::l,left=>(Zlf left f (Zi1 (ve left f) i.toNat (!wt xv i.toNat))::(Zbh xv f l (Zlf left f (Zi1 (ve left f) i.toNat (wt xv i.toNat)))).1,(Zbh xv f l (Zlf left f (Zi1 (ve left f) i.toNat (wt xv i.toNat)))).2)
def Zlo (x:Cube):Nat→Nat→Cube→List Cube
 | 0,f,left=>[]
 | m+1,f,left=>(Zbh (ve x f).Value f (Zi7 (ve x f) (ve left f)) left).1++Zlo x m (f+1) (Zbh (ve x f).Value f (Zi7 (ve x f) (ve left f)) left).2
def Z5r (a x:Cube):Bool:=(Z6a a x).isSome
def Zdt (a x:Cube):List Cube:=bif Z5r a x then Zlo x 24 0 (Z1w a) else [Z1w a]
def Yao (l:List Int):Prop:= ∀i∈l,∃k:Nat,i=(k:Int)∧k<128
theorem Yj2 (x a:Tern):Yao (Zi7 x a):=fun i hi=>by
 obtain ⟨k,h1,h2,_⟩:=(Zut _ _ _).1 hi
 exact ⟨k,h1,h2⟩
theorem Y7w (sg:Type)(y:sg→Cube→Option (Lp sg))(go:Nat→Cube→Lp sg→Option (Lp sg))(f:Nat)(hf:f<24)(x:Tern):∀(l:List Int) (k:Nat) (left:Cube) (s:sg),Yao l→
  Zdl sg go f x y l k left (.go s)=(yf y (Zbh x.Value f l left).1 s).bind fun r=>match r with
   | .go s'=>go (f+1) (Zbh x.Value f l left).2 (.go s')
   | .out c s'=>some (.out c s')
 | [],k,left,s,_=>rfl
 | i::l,k,left,s,hl=>by
  obtain ⟨b,rfl,hb⟩:=hl i (by simp)
  have ih:=fun left s=>Y7w sg y go f hf x l (k+1) left s fun j hj=>hl j (by simp [hj])
  rw [Zdl,Y6q _ b hb,Option.bind_some,Z2h hf,Option.bind_some,Z31,Y1g _ b hb,Option.bind_some,Option.bind_some,Zze]
  rw [Zbh,Int.toNat_natCast,yf]
  show (y s _).bind _=_
  cases y s (Zlf left f (Zi1 (ve left f) b (!wt x.Value b))) with
  | none=>rfl
  | some r=>
   cases r with
   | out c q=>rfl
   | go q=>
    simp only [Option.bind_some,Lp.isGo,Bool.not_true,cond_false]
    rw [Z31,Y1g _ b hb,Option.bind_some,Zze,ih]
theorem Y15 (sg:Type)(y:sg→Cube→Option (Lp sg))(x:Cube):∀(l:List Tern) (f:Nat) (left:Cube) (s:sg),f+l.length=24→l=(Vector.toList x).drop f→
  Za5 sg y l f left (.go s)=yf y (Zlo x l.length f left) s
 | [],f,left,s,h1,h2=>rfl
 | t::l,f,left,s,h1,h2=>by
  simp only [List.length_cons] at h1
  have hi:f<(Vector.toList x).length:=by simp;omega
  rw [List.drop_eq_getElem_cons hi] at h2
  obtain ⟨rfl,h3⟩:=List.cons.inj h2
  have hx:(Vector.toList x)[f]=ve x f:=by rw [Vector.getElem_toList,Z6o _ _ (by omega)]
  have ih:=fun left s=>Y15 sg y x l (f+1) left s (by omega) h3
  rw [Za5,Z2h (by omega),Option.bind_some,Z31,hx,Ycj,Option.bind_some,List.length_cons,Zlo,Zxh]
  cases hb:Zi7 (ve x f) (ve left f) with
  | nil=>
   rw [decide_eq_true (by simp),cond_true,ih]
   rfl
  | cons i bl=>
   rw [decide_eq_false (by simp;omega),cond_false,Y7w sg y _ f (by omega) (ve x f) _ 0 left s (by rw [←hb];exact Yj2 _ _)]
   cases yf y (Zbh (ve x f).Value f (i::bl) left).1 s with
   | none=>rfl
   | some r=>
    cases r with
    | out c q=>rfl
    | go q=>exact ih _ q
theorem Yhw (sg:Type)(y:sg→Cube→Option (Lp sg))(a x:Cube)(s:sg):Zb8 sg y (.go s) a x=yf y (Zdt a x) s:=by
 unfold Zb8 Zdt Z5r
 rw [Yaf,Option.bind_some,Zxl,Option.bind_some]
 cases Z6a a x with
 | none=>
  show (bif (!false) then _ else _)=yf y [Z1w a] s
  rw [Bool.not_false,cond_true,yf]
  show (y s (Z1w a)).bind _=_
  cases y s (Z1w a) with
  | none=>rfl
  | some r=>cases r<;>rfl
 | some z=>
  show (bif (!true) then _ else _)=yf y (Zlo x 24 0 (Z1w a)) s
  rw [Bool.not_true,cond_false]
  have:=Y15 sg y x (Vector.toList x) 0 (Z1w a) s (by simp) rfl
  rw [this];simp
theorem Ywj (a x:Cube):Z5r a x=(List.range' 0 24).all fun f=>(Z3h (ve a f) (ve x f)).isSome:=by
 unfold Z5r Z6a Z6h
 rw [List.range_eq_range']
 cases (List.range' 0 24).all fun f=>(Z3h (ve a f) (ve x f)).isSome<;>rfl
end Go.Proofs.YtinplddjjalohaaGreatDoor.W
namespace Go.Proofs.YtinplddjjalohaaGreatDoor.W
open Go Go.Wb
def Zfu (a b:Tern):Bool:=Z4s (Z3z b.Mask a.Mask)&&Zdu b a.Value
theorem Yuo (a b:Tern):Zmk a b=some (Zfu a b):=by
 unfold Zmk Zfu
 rw [Zq4,Option.bind_some,Y7k,Option.bind_some,Y8l]
 cases Z4s (Z3z b.Mask a.Mask)<;>rfl
def Z7y (a b:Cube):Bool:=(List.range' 0 24).all fun f=>Zfu (ve a f) (ve b f)
theorem Y7t (a b:Cube):∀(l:List Tern) (i:Nat),i+l.length=24→l=(Vector.toList a).drop i→Zcc b l i=some ((List.range' i l.length).all fun f=>Zfu (ve a f) (ve b f))
 | [],i,h1,h2=>by rw [Zcc];rfl
 | x::l,i,h1,h2=>by
  simp only [List.length_cons] at h1
  have hi:i<(Vector.toList a).length:=by simp;omega
  rw [List.drop_eq_getElem_cons hi] at h2
  obtain ⟨rfl,h3⟩:=List.cons.inj h2
  have hx:(Vector.toList a)[i]=ve a i:=by rw [Vector.getElem_toList,Z6o _ _ (by omega)]
  rw [Zcc,Z2h (by omega),Option.bind_some,Z31,Yuo,Option.bind_some,Y7t a b l (i+1) (by omega) h3,List.length_cons,List.range'_succ,List.all_cons,hx]
  cases Zfu (ve a i) (ve b i)<;>rfl
theorem Yik (a b:Cube):Zkn a b=some (Z7y a b):=by
 unfold Zkn Z7y
 have:=Y7t a b (Vector.toList a) 0 (by simp) rfl
 rw [this];simp
theorem Yl0 {a b:Cube}(h:Z7y a b=true):Z5r a b=true:=by
 rw [Ywj]
 unfold Z7y at h
 rw [List.all_eq_true] at h ⊢
 intro f hf
 have h1:=h f hf
 unfold Zfu at h1
 rw [Bool.and_eq_true] at h1
 have h2:=(Yd8 _ _).1 h1.2
 unfold Z3h
 have:Z4s (Z2v (Z95 (ve a f).Value (ve b f).Value) (Z2v (ve a f).Mask (ve b f).Mask))=true:=(Znb _).2 fun k hk=>by
  have h3:=h2 k hk
  simp only [Zd7,Zwv]
  revert h3
  cases wt (ve b f).Mask k<;>cases wt (ve a f).Mask k<;>cases wt (ve a f).Value k<;>cases wt (ve b f).Value k<;>simp
 rw [this];rfl
def Zwd (c:Cube):Header:=Vector.ofFn fun f=>(Z1o (ve c f.1)).Value
theorem Y51 (c:Cube)(b:Header):∀(l:List Tern) (i:Nat),i+l.length=24→l=(Vector.toList c).drop i→Zai l i (Z3a (fun f=>(Z1o (ve c f)).Value) b i)=some (Zwd c)
 | [],i,h1,h2=>by
  have:i=24:=by simpa using h1
  subst this
  rw [Zai,Z91];rfl
 | x::l,i,h1,h2=>by
  simp only [List.length_cons] at h1
  have hi:i<(Vector.toList c).length:=by simp;omega
  rw [List.drop_eq_getElem_cons hi] at h2
  obtain ⟨rfl,h3⟩:=List.cons.inj h2
  have hx:(Vector.toList c)[i]=ve c i:=by rw [Vector.getElem_toList,Z6o _ _ (by omega)]
  rw [Zai,Zq9,Option.bind_some,Z2h (by omega),Option.bind_some,hx]
  show Zai l (i+1) (Vector.set (Z3a (fun f=>(Z1o (ve c f)).Value) b i) i ((Z1o (ve c i)).Value) _)=_
  rw [Z96 (fun f=>(Z1o (ve c f)).Value) b i (by omega),Y51 c b l (i+1) (by omega) h3]
theorem Yqe (c:Cube):Zk5 c=some (Zwd c):=by
 unfold Zk5
 have:=Y51 c (Vector.replicate 24 Z0p) (Vector.toList c) 0 (by simp) rfl
 rw [Z9a] at this
 exact this
def Z3y:Header:=Vector.replicate 24 Z0p
def Z6m (c:Cube):List Cube→Nat→Option Nat
 | [],i=>none
 | x::l,i=>bif Z5r c x then some i else Z6m c l (i+1)
def Z52 (R:Cube→Int→Header×Bool×Int):List Cube→Int→Header×Bool×Int
 | [],n=>(Z3y,false,n)
 | p::ps,n=>bif (R p n).2.1||decide ((R p n).2.2<0) then R p n else Z52 R ps (R p n).2.2
def Z6s (free:Bool):Nat→Cube→List Cube→Int→Header×Bool×Int
 | 0,_,_,_=>(Z3y,false, -1)
 | d+1,c,l,n=>bif !free&&decide (n<1) then (Z3y,false, -1) else
   bif l.any (Z7y c) then (Z3y,false,bif free then n else n - 1) else
    match Z6m c l 0 with
    | none=>(Zwd c,true,bif free then n else n - 1)
    | some i=>match l[i]? with
     | none=>(Z3y,false, -1)
     | some x=>Z52 (fun p m=>Z6s free d p (l.drop (i+1)) m) (Zdt c x) (bif free then n else n - 1)
theorem Y4n (c:Cube):∀(l:List Cube) (k:Nat),match Z6m c l k with
  | none=> ∀x∈l,Z5r c x=false
  | some i=> ∃j,i=k+j∧∃h:j<l.length,Z5r c l[j]=true∧∀x∈l.take j,Z5r c x=false
 | [],k=>by simp [Z6m]
 | x::l,k=>by
  rw [Z6m]
  cases hm:Z5r c x
  ·rw [cond_false]
   have ih:=Y4n c l (k+1)
   cases hf:Z6m c l (k+1) with
   | none=>
    rw [hf] at ih
    intro y hy
    rcases List.mem_cons.1 hy with rfl | hy
    ·exact hm
    ·exact ih y hy
   | some i=>
    rw [hf] at ih
    obtain ⟨j,h1,h2,h3,h4⟩:=ih
    refine ⟨j+1,by omega,by simpa using h2,by simpa using h3,fun y hy=>?_⟩
    rw [List.take_succ_cons] at hy
    rcases List.mem_cons.1 hy with rfl | hy
    ·exact hm
    ·exact h4 y hy
  ·rw [cond_true]
   exact ⟨0,by omega,by simp,by simpa using hm,by simp⟩
theorem Zyc {R:Cube→Int→Header×Bool×Int}(hR:∀p m,(R p m).2.1=false→(R p m).1=Z3y):∀(ps:List Cube) (n:Int),(Z52 R ps n).2.1=false→(Z52 R ps n).1=Z3y
 | [],n,_=>rfl
 | p::ps,n,h=>by
  rw [Z52] at h ⊢
  cases hc:(R p n).2.1||decide ((R p n).2.2<0)
  ·rw [hc,cond_false] at h
   rw [cond_false]
   exact Zyc hR ps _ h
  ·rw [hc,cond_true] at h
   rw [cond_true]
   exact hR _ _ h
theorem Zux (free:Bool):∀(d:Nat) (c:Cube) (l:List Cube) (n:Int),(Z6s free d c l n).2.1=false→(Z6s free d c l n).1=Z3y
 | 0,c,l,n,_=>rfl
 | d+1,c,l,n,h=>by
  rw [Z6s] at h ⊢
  cases h1: !free&&decide (n<1)
  ·rw [h1,cond_false] at h
   rw [cond_false]
   cases h2:l.any (Z7y c)
   ·rw [h2,cond_false] at h
    rw [cond_false]
    cases h3:Z6m c l 0 with
    | none=>rw [h3] at h;cases h
    | some i=>
     rw [h3] at h
     simp only at h ⊢
     cases h4:l[i]? with
     | none=>rfl
     | some x=>
      rw [h4] at h
      simp only at h ⊢
      exact Zyc (fun p m=>Zux free d p _ m) _ _ h
   ·rfl
  ·rfl
end Go.Proofs.YtinplddjjalohaaGreatDoor.W
namespace Go.Proofs.YtinplddjjalohaaGreatDoor.W
open Go Go.Wb
theorem Zzq {α:Type}(z:α)(o:Option α):(Z1u z o).2=o.isSome:=by cases o<;>rfl
def Zbl (c:Cube)(l:List Cube)(i:Nat)(first:Int):Int:=bif decide (first<0) then (match Z6m c l i with | none=>first | some k=>(k:Int)) else first
theorem Zor (c:Cube):∀(l:List Cube) (i:Nat) (first:Int),∃j:Int,Z8j c l i first=some (bif l.any (Z7y c) then (true,j) else (false,Zbl c l i first))
 | [],i,first=>by
  refine ⟨0,?_⟩
  rw [Z8j]
  unfold Zbl Z6m
  cases decide (first<0)<;>rfl
 | x::l,i,first=>by
  rw [Z8j,Zxl,Option.bind_some,Zzq,List.any_cons]
  show ∃j,(bif !(Z5r c x) then _ else _)=_
  cases hm:Z5r c x
  ·have hw:Z7y c x=false:=by
    cases hw:Z7y c x
    ·rfl
    ·rw [Yl0 hw] at hm;cases hm
   obtain ⟨j,hj⟩:=Zor c l (i+1) first
   refine ⟨j,?_⟩
   rw [Bool.not_false,cond_true,hw,Bool.false_or,hj]
   unfold Zbl
   rw [Z6m,hm,cond_false]
  ·rw [Bool.not_true,cond_false,Yik,Option.bind_some]
   cases hw:Z7y c x
   ·rw [cond_false,Bool.false_or]
    have hf:∀f:Int,Zbl c (x::l) i f=bif decide (f<0) then (i:Int) else f:=fun f=>by
     unfold Zbl
     rw [Z6m,hm,cond_true]
    by_cases h:first<0
    ·obtain ⟨j,hj⟩:=Zor c l (i+1) (i:Int)
     refine ⟨j,?_⟩
     rw [decide_eq_true h,cond_true,hj,hf,decide_eq_true h,cond_true]
     unfold Zbl
     rw [decide_eq_false (by omega),cond_false]
    ·obtain ⟨j,hj⟩:=Zor c l (i+1) first
     refine ⟨j,?_⟩
     rw [decide_eq_false h,cond_false,hj,hf,decide_eq_false h,cond_false]
     unfold Zbl
     rw [decide_eq_false h,cond_false]
   ·exact ⟨_,rfl⟩
theorem Yqq {α:Type}(l:List α)(i:Nat)(h:i≤l.length):Z5z l (i:Int)=some (l.drop i):=by
 unfold Z5z
 rw [decide_eq_true (by omega),Int.toNat_natCast,Nat.ble_eq_true_of_le h];rfl
def cl (n:Int)(free:Bool):cover_look:=⟨⟨n,free⟩⟩
def Zfa (free:Bool)(N:Int)(f:Option (Header×Bool×Bool×cover_look))(n:Int)(r:Header×Bool×Int):Prop:=
 ∃s',f=some (r.1,r.2.1,decide (0≤r.2.2),s')∧(0≤r.2.2→s'=cl r.2.2 free∧r.2.2≤N)
theorem Y4s (free:Bool)(N:Int)(l:List Cube)(i:Nat)(hi:i<l.length)(hN:N<9223372036854775808)(x10:Bool×Int)(hx:x10.2=(i:Int))(hl:l.length<4294967296)(R:cover_look→Cube→List Cube→Option (Header×Bool×Bool×cover_look))(R':Cube→Int→Header×Bool×Int)
  (hR:∀p n,0≤n→n≤N→Zfa free N (R (cl n free) p (l.drop (i+1))) n (R' p n))(hn:∀p m,(R' p m).2.1=false→(R' p m).1=Z3y):∀(ps:List Cube) (n:Int),0≤n→n≤N→
  ∃s',yf (fun (s:cover_look×Header×Bool×Bool) x=>Za1 l x10 R s.1 s.2.1 s.2.2.1 s.2.2.2 x) ps (cl n free,Z3y,false,true)=
   some (bif (Z52 R' ps n).2.1||decide ((Z52 R' ps n).2.2<0) then .out (.exit 1) (s',(Z52 R' ps n).1,(Z52 R' ps n).2.1,decide (0≤(Z52 R' ps n).2.2)) else .go (s',Z3y,false,true))∧(0≤(Z52 R' ps n).2.2→s'=cl (Z52 R' ps n).2.2 free∧(Z52 R' ps n).2.2≤N)
 | [],n,h0,h1=>by
  refine ⟨cl n free,?_,fun _=>⟨rfl,h1⟩⟩
  rw [yf,Z52,decide_eq_false (by show ¬(n<0);omega)];rfl
 | p::ps,n,h0,h1=>by
  obtain ⟨s',h2,h3⟩:=hR p n h0 h1
  have hb:Za1 l x10 R (cl n free) Z3y false true p=some (bif (R' p n).2.1||decide ((R' p n).2.2<0) then .out (.exit 1) (s',(R' p n).1,(R' p n).2.1,decide (0≤(R' p n).2.2)) else .go (s',(R' p n).1,(R' p n).2.1,decide (0≤(R' p n).2.2))):=by
   unfold Za1
   rw [hx,inc i (by omega),Yqq _ _ (by omega),Option.bind_some,h2,Option.bind_some]
   have:(!decide (0≤(R' p n).2.2))=decide ((R' p n).2.2<0):=by
    by_cases h:(R' p n).2.2<0
    ·rw [decide_eq_true h,decide_eq_false (by omega)];rfl
    ·rw [decide_eq_false h,decide_eq_true (by omega)];rfl
   show (bif ((R' p n).2.1|| !decide (0≤(R' p n).2.2)) then _ else _)=_
   rw [this]
   cases (R' p n).2.1||decide ((R' p n).2.2<0)<;>rfl
  rw [yf]
  show ∃s'',(Za1 l x10 R (cl n free) Z3y false true p).bind _=_∧_
  rw [hb,Option.bind_some,Z52]
  cases hc:(R' p n).2.1||decide ((R' p n).2.2<0)
  ·rw [Bool.or_eq_false_iff,decide_eq_false_iff_not] at hc
   have h4:0≤(R' p n).2.2:=by omega
   obtain ⟨h5,h6⟩:=h3 h4
   obtain ⟨s'',h7,h8⟩:=Y4s free N l i hi hN x10 hx hl R R' hR hn ps (R' p n).2.2 h4 h6
   refine ⟨s'',?_,h8⟩
   rw [cond_false,cond_false,h5,hn p n hc.1,hc.1,decide_eq_true h4]
   exact h7
  ·refine ⟨s',?_,h3⟩
   rw [cond_true,cond_true,hc];rfl
theorem Yjm (free:Bool)(N:Int)(hN:N<9223372036854775808)(d fuel:Nat)(c:Cube)(l:List Cube)(hl:l.length<4294967296)(n:Int)(h0:0≤n)(h1:n≤N)
  (ih:∀i,i<l.length→∀p n,0≤n→n≤N→Zfa free N (Z8g fuel (cl n free) p (l.drop (i+1))) n (Z6s free d p (l.drop (i+1)) n)):
  Zfa free N (Z8g (fuel+1) (cl n free) c l) n (Z6s free (d+1) c l n):=by
 show Zfa free N (Zlz (Z8g fuel) (cl n free) c l) n _
 unfold Zlz
 have hpay:Zm3 (cl n free).purse=some (!(!free&&decide (n<1)),⟨bif free then n else n - 1,free⟩):=by
  unfold Zm3
  cases free
  ·have e:IntKind.i64.wrap (n - 1)=n - 1:=Z2r (by omega) (by omega)
   show some (decide (IntKind.i64.wrap (n - 1)≥0),(⟨IntKind.i64.wrap (n - 1),false⟩:cover_purse))=_
   rw [e]
   by_cases h:n<1
   ·rw [decide_eq_true h,decide_eq_false (by omega)];rfl
   ·rw [decide_eq_false h,decide_eq_true (by omega)];rfl
  ·rfl
 rw [hpay,Option.bind_some,Z6s]
 cases hp: !free&&decide (n<1)
 ·have hn1:0≤(bif free then n else n - 1)∧(bif free then n else n - 1)≤N:=by
   cases free
   ·simp only [Bool.not_false,Bool.true_and,decide_eq_false_iff_not] at hp
    simp only [cond_false];omega
   ·simp only [cond_true];omega
  generalize (bif free then n else n - 1)=n1 at hn1 ⊢
  simp only [Bool.not_false,Bool.not_true,cond_false]
  obtain ⟨j,hj⟩:=Zor c l 0 (-1)
  unfold Zqm
  rw [hj,Option.bind_some]
  cases hw:l.any (Z7y c)
  ·simp only [cond_false]
   have hfi:Zbl c l 0 (-1)=match Z6m c l 0 with | none=> -1 | some k=>(k:Int):=rfl
   rw [hfi]
   have hsp:=Y4n c l 0
   cases hf:Z6m c l 0 with
   | none=>
    simp only
    rw [show decide ((-1:Int)<0)=true from rfl,cond_true,Yqe,Option.bind_some]
    exact ⟨cl n1 free,by rw [decide_eq_true hn1.1];rfl,fun _=>⟨rfl,hn1.2⟩⟩
   | some i=>
    rw [hf] at hsp
    obtain ⟨j',hj1,hj2,hj3,hj4⟩:=hsp
    have hij:i=j':=by omega
    subst hij
    simp only
    rw [decide_eq_false (by omega),cond_false,Z28 hj2,Option.bind_some,List.getElem?_eq_getElem hj2]
    unfold Zr6
    rw [Option.bind_some]
    obtain ⟨s',h2,h3⟩:=Y4s free N l i hj2 hN (false,(i:Int)) rfl hl (Z8g fuel) (fun p m=>Z6s free d p (l.drop (i+1)) m) (fun p n a b=>ih i hj2 p n a b) (fun p m h=>Zux free d p _ m h) (Zdt c l[i]) n1 hn1.1 hn1.2
    show Zfa free N ((Zb8 (cover_look×Header×Bool×Bool) (fun s x=>Za1 l (false,(i:Int)) (Z8g fuel) s.1 s.2.1 s.2.2.1 s.2.2.2 x) (.go (cl n1 free,Z3y,false,true)) c l[i]).bind _) n (Z52 (fun p m=>Z6s free d p (l.drop (i+1)) m) (Zdt c l[i]) n1)
    rw [Yhw,h2,Option.bind_some]
    have hnn:=Zyc (R:=fun p m=>Z6s free d p (l.drop (i+1)) m) (fun p m h=>Zux free d p _ m h) (Zdt c l[i]) n1
    generalize Z52 (fun p m=>Z6s free d p (l.drop (i+1)) m) (Zdt c l[i]) n1=r at*
    cases hc:r.2.1||decide (r.2.2<0)
    ·rw [Bool.or_eq_false_iff,decide_eq_false_iff_not] at hc
     refine ⟨s',?_,h3⟩
     rw [hnn hc.1,hc.1,decide_eq_true (show 0≤r.2.2 by omega)];rfl
    ·exact ⟨s',rfl,h3⟩
  ·refine ⟨cl n1 free,?_,fun _=>⟨rfl,hn1.2⟩⟩
   show some (Z3y,false,true,cl n1 free)=some (Z3y,false,decide (0≤n1),cl n1 free)
   rw [decide_eq_true hn1.1]
 ·exact ⟨_,rfl,fun h=>by simp at h⟩
theorem Y29 (free:Bool)(N:Int)(hN:N<9223372036854775808):∀(d fuel:Nat) (c:Cube) (l:List Cube) (n:Int),l.length<d→d≤fuel→l.length<4294967296→0≤n→n≤N→
  Zfa free N (Z8g fuel (cl n free) c l) n (Z6s free d c l n)
 | 0,fuel,c,l,n,h,_,_,_,_=>by omega
 | d+1,0,c,l,n,_,h,_,_,_=>by omega
 | d+1,fuel+1,c,l,n,h1,h2,h3,h4,h5=>
  Yjm free N hN d fuel c l h3 n h4 h5 fun i hi p m h6 h7=>Y29 free N hN d fuel p (l.drop (i+1)) m (by rw [List.length_drop];omega) (by omega) (by rw [List.length_drop];omega) h6 h7
end Go.Proofs.YtinplddjjalohaaGreatDoor.W
namespace Go.Proofs.YtinplddjjalohaaGreatDoor.W
open Go Go.Wb
end Go.Proofs.YtinplddjjalohaaGreatDoor.W
namespace Go.Proofs.YtinplddjjalohaaGreatDoor.W
open Go Go.Wb
def Zir (c:Cube)(l:List Cube)(most:Int):Header×Bool×Int:=Z6s (decide (most≥1099511627776)) (l.length+1) c l (Z2o most 0)
def Z36 (c:Cube)(l:List Cube)(most:Int):Header×Bool×Int:=bif decide ((Zir c l most).2.2<0) then (Z3y,false,5) else ((Zir c l most).1,(Zir c l most).2.1,0)
theorem Yx0 (m:Int):0≤Z2o m 0∧Z2o m 0≤max m 0:=by
 unfold Z2o
 by_cases h:(0:Int)>m
 ·rw [decide_eq_true h,cond_true];omega
 ·rw [decide_eq_false h,cond_false];omega
theorem Y10 (c:Cube)(l:List Cube)(most:Int)(hm:most≤9223372036854775807)(hl:l.length≤1000000):Zfw c l most=some (Z36 c l most):=by
 have hi:=Yx0 most
 unfold Zfw Ztn Z36
 obtain ⟨s',h1,h2⟩:=Y29 (decide (most≥1099511627776)) (Z2o most 0) (by omega) (l.length+1) Z0s c l (Z2o most 0) (by omega) (by unfold Z0s;omega) (by omega) hi.1 (by omega)
 show (Z8g Z0s (cl (Z2o most 0) (decide (most≥1099511627776))) c l).bind _=_
 rw [h1,Option.bind_some]
 show (bif !(decide (0≤(Zir c l most).2.2)) then _ else _)=_
 by_cases h:(Zir c l most).2.2<0
 ·rw [decide_eq_true h,decide_eq_false (by omega)];rfl
 ·rw [decide_eq_false h,decide_eq_true (by omega)];rfl
theorem Y0o:∀(l:List Rule) (pre:List Cube),Zbi l pre.length (pre++List.replicate l.length (Vector.replicate 24 zTern))=some (pre++l.map (·.Cube))
 | [],pre=>by simp [Zbi]
 | r::l,pre=>by
  have hlt:pre.length<(pre++List.replicate (r::l).length (Vector.replicate 24 zTern)).length:=by simp
  rw [Zbi,Z28 hlt,Option.bind_some,Int.toNat_natCast]
  have e:List.set (pre++List.replicate (r::l).length (Vector.replicate 24 zTern)) pre.length r.Cube=(pre++[r.Cube])++List.replicate l.length (Vector.replicate 24 zTern):=by
   rw [List.length_cons,List.replicate_succ,List.set_append_right _ _ (Nat.le_refl _)];simp
  have ih:=Y0o l (pre++[r.Cube])
  rw [e]
  rw [List.length_append,List.length_singleton] at ih
  rw [ih];simp
theorem Yp7 (n:Nat)(h:n≤lim):omk (n:Int)=some ():=by
 unfold omk
 rw [decide_eq_false (by omega),decide_eq_false (by omega)];rfl
theorem Yvh (l:List Rule)(h:l.length≤1000000):Zjh l=some (l.map (·.Cube)):=by
 have hlim:lim=4294967296:=rfl
 unfold Zjh
 rw [Yp7 _ (by omega),Option.bind_some,Int.toNat_natCast]
 exact Y0o l []
theorem Y75 (l:List Rule)(hl:l.length≤1000000):∀(m i:Nat) (acc:List Cube),i≤l.length→l.length<i+m→acc.length≤i→Zfz l m acc (i:Int)=some (acc++(l.drop i).map (·.Cube))
 | 0,i,acc,h1,h2,_=>by omega
 | m+1,i,acc,h1,h2,h3=>by
  have hlim:lim=4294967296:=rfl
  rw [Zfz]
  by_cases hi:i<l.length
  ·rw [decide_eq_true (by omega),cond_true,Z28 hi,Option.bind_some,Z1h (by simp;omega),Option.bind_some,inc i (by omega),Y75 l hl m (i+1) _ (by omega) (by omega) (by simp;omega),List.drop_eq_getElem_cons hi,List.map_cons,List.append_assoc]
   rfl
  ·rw [decide_eq_false (by omega),cond_false,List.drop_of_length_le (by omega)];simp
theorem Ywa (l:List Rule)(hl:l.length≤1000000):Zfn l=some (l.map (·.Cube)):=by
 unfold Zfn
 have:=Y75 l hl ((((l.length:Int):Int) - 0).toNat+1) 0 [] (by omega) (by omega) (by simp)
 rw [show ((0:Nat):Int)=0 from rfl,List.drop_zero,List.nil_append] at this
 exact this
theorem Y71 {α:Type}(l:List α)(i:Nat)(h:i≤l.length):Z45 l (i:Int)=some (l.take i):=by
 unfold Z45
 simp [Nat.ble_eq_true_of_le h]
def Zqx (l:List Rule)(i most:Int):Header×Bool×Int:=bif decide (i<0)||decide (i≥(l.length:Int)) then (Z3y,false,6) else match l[i.toNat]? with
 | none=>(Z3y,false,6)
 | some r=>Z36 r.Cube ((l.take i.toNat).map (·.Cube)) most
theorem Yxb (l:List Rule)(i most:Int)(hl:l.length≤1000000)(hm:most≤9223372036854775807):Zf9 l i most=some (Zqx l i most):=by
 unfold Zf9 Zqx
 cases hc:decide (i<0)||decide (i≥(l.length:Int))
 ·rw [Bool.or_eq_false_iff,decide_eq_false_iff_not,decide_eq_false_iff_not] at hc
  obtain ⟨n,rfl⟩:∃n:Nat,i=(n:Int):=⟨i.toNat,by omega⟩
  have hn:n<l.length:=by omega
  rw [cond_false,cond_false,Yvh l hl,Option.bind_some,Z28 (show n<(l.map (·.Cube)).length by simpa using hn),Option.bind_some,Y71 _ _ (by simp;omega),Option.bind_some,Int.toNat_natCast,List.getElem?_eq_getElem hn,Y10 _ _ _ hm (by simp;omega),Option.bind_some]
  simp [List.map_take]
 ·rfl
end Go.Proofs.YtinplddjjalohaaGreatDoor.W
namespace Go.Proofs.YtinplddjjalohaaGreatDoor.W
open Go Go.Wb
section ins
def Zks (lt:Int→Int→Bool)(cmp:Int→Int→Option Int)(A:List Int):Prop:= ∀x∈A,∀y∈A,∃c,cmp x y=some c∧decide (c<0)=lt x y
variable {lt : Int → Int → Bool} {cmp : Int → Int → Option Int}
theorem Y6k {A:List Int}(hc:Zks lt cmp A)(go:List Int→Int→Option (List Int))(i:Int)(P:List Int)(x:Int)(hx:x∈A):∀(R S:List Int) (m:Nat),(∀y∈R,y∈A)→R.length<m→(P++R.reverse++x::S).length≤big→
  Zd4 (P.length:Int) cmp go i m (P++R.reverse++x::S) ((P.length+R.length:Nat):Int)=go (P++(Z0t lt x R).reverse++S) (IntKind.i64.wrap (i+1))
 | [],S,m,_,h,_=>by
  obtain ⟨m,rfl⟩:∃k,m=k+1:=⟨m - 1,by simp at h;omega⟩
  rw [Zd4,decide_eq_false (by simp)]
  simp [opt,Z0t]
 | y::R,S,m,hR,h,hl=>by
  have hbig:big=1000000:=rfl
  simp only [List.length_cons,List.length_append,List.length_reverse] at h hl
  obtain ⟨m,rfl⟩:∃k,m=k+1:=⟨m - 1,by omega⟩
  have e0:P++(y::R).reverse++x::S=(P++R.reverse)++y::(x::S):=by simp
  have ej:IntKind.i64.wrap (((P.length+(y::R).length:Nat):Int) - 1)=((P.length+R.length:Nat):Int):=by rw [wr (by simp only [List.length_cons];omega) (by simp only [List.length_cons];omega)];simp only [List.length_cons];omega
  have g1:∀a b:Int,lget ((P++R.reverse)++a::(b::S)) ((P.length+(y::R).length:Nat):Int)=some b:=fun a b=>by
   have:(P++R.reverse)++a::(b::S)=(P++R.reverse++[a])++b::S:=by simp
   rw [this];exact Z5o _ _ _ _ (by simp)
  have g0:∀a b:Int,lget ((P++R.reverse)++a::(b::S)) ((P.length+R.length:Nat):Int)=some a:=fun a b=>Z5o _ _ _ _ (by simp)
  have s1:∀a b c:Int,List.set ((P++R.reverse)++a::(b::S)) (((P.length+(y::R).length:Nat):Int)).toNat c=(P++R.reverse)++a::(c::S):=fun a b c=>by
   have:(P++R.reverse)++a::(b::S)=(P++R.reverse++[a])++b::S:=by simp
   rw [this,Int.toNat_natCast,Z9e _ _ _ _ _ (by simp)];simp
  have s0:∀a b c:Int,List.set ((P++R.reverse)++a::(b::S)) (((P.length+R.length:Nat):Int)).toNat c=(P++R.reverse)++c::(b::S):=fun a b c=>by
   rw [Int.toNat_natCast,Z9e _ _ _ _ _ (by simp)]
  obtain ⟨c,hc1,hc2⟩:=hc x hx y (hR y (by simp))
  rw [e0,Zd4,decide_eq_true (by simp only [List.length_cons];omega),Z4j,g1,Option.bind_some,Z4j,ej,g0,Option.bind_some,Z4j,hc1,Option.bind_some,Bool.true_and,hc2,Z0t]
  cases lt x y
  ·rw [cond_false,cond_false]
   simp
  ·rw [cond_true,cond_true,Option.bind_some,Option.bind_some,Option.bind_some,s1,g0,Option.bind_some,s0,Y6k hc go i P x hx R (y::S) m (fun z hz=>hR z (by simp [hz])) (by omega) (by simp only [List.length_append,List.length_cons,List.length_reverse];omega)]
   simp
theorem Zw5 (x:Int)(R:List Int):(Z0t lt x R).length=R.length+1:=by
 induction R with
 | nil=>rfl
 | cons y R ih=>rw [Z0t];cases lt x y<;>simp [ih]
theorem Y3c {A:List Int}(hc:Zks lt cmp A)(P Q:List Int):∀(T R:List Int) (m:Nat),(∀y∈T,y∈A)→(∀y∈R,y∈A)→T.length<m→(P++R.reverse++T++Q).length≤big→
  Z9l ((P.length+R.length+T.length:Nat):Int) (P.length:Int) cmp m (P++R.reverse++T++Q) ((P.length+R.length:Nat):Int)=some (P++(T.foldl (fun R x=>Z0t lt x R) R).reverse++Q)
 | [],R,m,_,_,h,_=>by
  obtain ⟨m,rfl⟩:∃k,m=k+1:=⟨m - 1,by simp at h;omega⟩
  rw [Z9l,decide_eq_false (by simp),cond_false]
  simp
 | x::T,R,m,hT,hR,h,h2=>by
  have hbig:big=1000000:=rfl
  simp only [List.length_cons,List.length_append,List.length_reverse] at h h2
  obtain ⟨m,rfl⟩:∃k,m=k+1:=⟨m - 1,by omega⟩
  have e:IntKind.i64.wrap (((P.length+R.length:Nat):Int)+1)=((P.length+(Z0t lt x R).length:Nat):Int):=by rw [Zw5,wr (by omega) (by omega)];omega
  have hn:P.length+R.length+(x::T).length=P.length+(Z0t lt x R).length+T.length:=by rw [Zw5,List.length_cons];omega
  have e0:P++R.reverse++x::T++Q=P++R.reverse++x::(T++Q):=by simp
  rw [Z9l,decide_eq_true (by simp only [List.length_cons];omega),cond_true,e0,Y6k hc _ _ P x (hT x (by simp)) R (T++Q) Z0s hR (by unfold Z0s;omega) (by simp only [List.length_append,List.length_cons,List.length_reverse];omega),e,hn,
   ←List.append_assoc,Y3c hc P Q T (Z0t lt x R) m (fun y hy=>hT y (by simp [hy])) (fun y hy=>by rcases Ztx.1 hy with e | e;rw [e];exact hT x (by simp);exact hR y e) (by omega) (by simp only [List.length_append,List.length_reverse,Zw5];omega),List.foldl_cons]
theorem Ywi (P L Q:List Int)(hc:Zks lt cmp L)(a b:Int)(ha:a=(P.length:Int))(hb:b=(P.length:Int)+(L.length:Int))(h:(P++L++Q).length≤big):Zhx (P++L++Q) a b cmp=some (P++srt lt L++Q):=by
 subst ha hb
 have hbig:big=1000000:=rfl
 have h':=h
 simp only [List.length_append] at h'
 unfold Zhx srt
 cases L with
 | nil=>
  rw [wr (by omega) (by omega)]
  obtain ⟨m,hm⟩:∃m,(((P.length:Int)+(([]:List Int).length:Int)) - ((P.length:Int)+1)).toNat+1=m+1:=⟨_,rfl⟩
  rw [hm,Z9l,decide_eq_false (by simp only [List.length_nil];omega),cond_false]
  rfl
 | cons x L=>
  simp only [List.length_cons] at h'
  have:=Y3c hc P Q L [x] ((((P.length:Int)+((x::L).length:Int)) - ((P.length:Int)+1)).toNat+1) (fun y hy=>by simp [hy]) (fun y hy=>by simp at hy;simp [hy]) (by simp only [List.length_cons];omega) (by simp only [List.length_append,List.length_reverse,List.length_cons,List.length_nil];omega)
  have e1:((P.length+[x].length+L.length:Nat):Int)=(P.length:Int)+((x::L).length:Int):=by simp;omega
  have e2:((P.length+[x].length:Nat):Int)=(P.length:Int)+1:=by simp
  have e3:P++[x].reverse++L++Q=P++x::L++Q:=by simp
  rw [e1,e2,e3] at this
  rw [wr (by omega) (by omega),this]
  rfl
theorem Ymr (L:List Int)(hc:Zks lt cmp L)(h:L.length<20):Zm0 L cmp=some (srt lt L):=by
 unfold Zm0 Zpv
 obtain ⟨m,hm⟩:∃m,(((L.length:Int):Int) - 20).toNat+2=m+1:=⟨_,rfl⟩
 have:=Ywi [] L [] hc 0 (L.length:Int) rfl (by simp) (by simp only [List.nil_append,List.append_nil];show _≤1000000;omega)
 simp only [List.nil_append,List.append_nil] at this
 rw [hm,Zld,decide_eq_false (by omega),cond_false,this,Option.bind_some]
 obtain ⟨k,hk⟩:∃m,(((L.length:Int):Int) - 20).toNat+1=m+1:=⟨_,rfl⟩
 rw [hk,Zhb,decide_eq_false (by omega),cond_false]
 rfl
end ins
end Go.Proofs.YtinplddjjalohaaGreatDoor.W
