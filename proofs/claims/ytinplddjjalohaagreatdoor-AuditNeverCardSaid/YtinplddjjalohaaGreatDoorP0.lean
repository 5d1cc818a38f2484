/- A part of the proof. -/
import Derived.Test.YtinplddjjalohaaGreatDoorG3
set_option linter.unusedVariables false
set_option linter.unusedSimpArgs false
namespace Go.Proofs.YtinplddjjalohaaGreatDoor.W
open Go Go.Wb
abbrev big:Nat:=1000000
theorem Z6a {α:Type}(P Q:List α)(x:α)(i:Int)(h:i=(P.length:Int)):lget (P++x::Q) i=some x:=by
 subst h
 rw [Z75,List.getElem?_append_right (Nat.le_refl _)];simp
theorem Z97 {α:Type}(P Q:List α)(x y:α)(i:Nat)(h:i=P.length):List.set (P++x::Q) i y=P++y::Q:=by
 subst h
 rw [List.set_append_right _ _ (Nat.le_refl _)];simp
theorem wr {n:Int}(h1: -4611686018427387904≤n)(h2:n≤4611686018427387904):IntKind.i64.wrap n=n:=Z2w (by omega) (by omega)
theorem Zbm (n:Nat)(h:n≤4611686018427387904):IntKind.i64.wrap ((BitVec.ofNat 64 n).toNat:Int)=(n:Int):=by
 have:(BitVec.ofNat 64 n).toNat=n:=by rw [BitVec.toNat_ofNat];omega
 rw [this,wr (by omega) (by omega)]
theorem Zou (k:Int)(n:Nat)(hk:k=(n:Int))(h:n≤4611686018427387904):Z43 (BitVec.ofInt 64 (IntKind.i64.wrap k)) ((1:BitVec 64).toNat:Int)=some (BitVec.ofNat 64 (n / 2)):=by
 subst hk
 rw [wr (by omega) (by omega),show ((1:BitVec 64).toNat:Int)=((1:Nat):Int) from rfl]
 unfold Z43
 rw [decide_eq_false (by omega),cond_false,BitVec.ofInt_natCast,Int.toNat_natCast]
 congr 1
 apply BitVec.eq_of_toNat_eq
 rw [BitVec.toNat_ushiftRight,BitVec.toNat_ofNat,BitVec.toNat_ofNat,Nat.shiftRight_eq_div_pow]
 omega
theorem Y57 (n a b:Nat):∀(U V P M Q:List Action) (i f:Nat),U.length=V.length→P.length=a+i→P.length+U.length+M.length=b+i→i+U.length=n→U.length<f→(P++U++M++V++Q).length≤big→
  Zfr (n:Int) (b:Int) (a:Int) f (P++U++M++V++Q) (i:Int)=some (P++V++M++U++Q)
 | [],V,P,M,Q,i,f,h1,h2,h3,h4,h5,h6=>by
  have hV:V=[]:=List.eq_nil_of_length_eq_zero (by simpa using h1.symm)
  subst hV
  obtain ⟨f,rfl⟩:∃k,f=k+1:=⟨f - 1,by simp at h5;omega⟩
  rw [Zfr,decide_eq_false (by simp at h4;omega),cond_false]
 | u::U,[],P,M,Q,i,f,h1,h2,h3,h4,h5,h6=>by simp at h1
 | u::U,v::V,P,M,Q,i,f,h1,h2,h3,h4,h5,h6=>by
  obtain ⟨f,rfl⟩:∃k,f=k+1:=⟨f - 1,by simp at h5;omega⟩
  simp only [List.length_cons,List.length_append] at h1 h3 h4 h5 h6
  have hbig:big=1000000:=rfl
  have ea:IntKind.i64.wrap ((a:Int)+(i:Int))=(P.length:Int):=by rw [wr (by omega) (by omega)];omega
  have eb:IntKind.i64.wrap ((b:Int)+(i:Int))=((P++u::U++M).length:Int):=by
   rw [wr (by omega) (by omega)];simp only [List.length_append,List.length_cons];omega
  have e1:P++u::U++M++v::V++Q=(P++u::U++M)++v::(V++Q):=by simp
  have e2:P++u::U++M++v::V++Q=P++u::(U++M++v::V++Q):=by simp
  have e3:P++v::(U++M++v::V++Q)=(P++v::U++M)++v::(V++Q):=by simp
  have e4:(P++v::U++M)++u::(V++Q)=(P++[v])++U++(M++[u])++V++Q:=by simp
  have g1:lget (P++u::U++M++v::V++Q) ((P++u::U++M).length:Int)=some v:=by rw [e1];exact Z6a _ _ _ _ rfl
  have g2:lget (P++u::U++M++v::V++Q) (P.length:Int)=some u:=by rw [e2];exact Z6a _ _ _ _ rfl
  have s1:List.set (P++u::U++M++v::V++Q) ((P.length:Int)).toNat v=(P++v::U++M)++v::(V++Q):=by
   rw [e2,Int.toNat_natCast,Z97 _ _ _ _ _ rfl,e3]
  have hl:(P++u::U++M).length=(P++v::U++M).length:=by simp
  have g3:lget ((P++v::U++M)++v::(V++Q)) ((P++u::U++M).length:Int)=some v:=Z6a _ _ _ _ (by rw [hl])
  have s2:List.set ((P++v::U++M)++v::(V++Q)) (((P++u::U++M).length:Int)).toNat u=(P++[v])++U++(M++[u])++V++Q:=by
   rw [Int.toNat_natCast,Z97 _ _ _ _ _ hl,e4]
  have ei:IntKind.i64.wrap ((i:Int)+1)=((i+1:Nat):Int):=by rw [wr (by omega) (by omega)];omega
  rw [Zfr,decide_eq_true (by omega),cond_true,eb,g1,Option.bind_some,ea,g2,Option.bind_some,Option.bind_some,s1,g3,Option.bind_some,s2,ei,
   Y57 n a b U V (P++[v]) (M++[u]) Q (i+1) f (by omega) (by simp only [List.length_append,List.length_cons,List.length_nil];omega) (by simp only [List.length_append,List.length_cons,List.length_nil];omega) (by omega) (by omega) (by simp only [List.length_append,List.length_cons,List.length_nil];omega)]
  simp
theorem Zwl (U V P M Q:List Action)(cmp:Action→Action→Option Int)(a b n:Int)(h:U.length=V.length)(ha:a=(P.length:Int))(hb:b=((P++U++M).length:Int))(hn:n=(U.length:Int))(hl:(P++U++M++V++Q).length≤big):
  Zeu (P++U++M++V++Q) a b n cmp=some (P++V++M++U++Q):=by
 subst ha hb hn
 unfold Zeu
 exact Y57 U.length P.length (P++U++M).length U V P M Q 0 _ h rfl (by simp only [List.length_append];omega) (by omega) (by omega) hl
theorem Zu8 (cmp:Action→Action→Option Int):∀(f:Nat) (X Y P Q:List Action) (m:Nat),0<X.length→0<Y.length→X.length+Y.length≤f→P.length+X.length=m→(P++X++Y++Q).length≤big→
  Zex (m:Int) cmp f (P++X++Y++Q) (X.length:Int) (Y.length:Int)=some (P++Y++X++Q)
 | 0,X,Y,P,Q,m,h1,h2,h3,h4,h5=>by omega
 | f+1,X,Y,P,Q,m,h1,h2,h3,h4,h5=>by
  have hbig:big=1000000:=rfl
  simp only [List.length_append] at h5
  have em:IntKind.i64.wrap ((m:Int) - (X.length:Int))=(P.length:Int):=by rw [wr (by omega) (by omega)];omega
  rw [Zex,em]
  by_cases he:X.length=Y.length
  ·rw [decide_eq_false (by omega),cond_false]
   have:=Zwl X Y P [] Q cmp (P.length:Int) (m:Int) (X.length:Int) he rfl (by simp;omega) rfl (by simp only [List.length_append,List.length_nil];omega)
   simp only [List.append_nil] at this
   rw [this];rfl
  ·rw [decide_eq_true (by omega),cond_true]
   by_cases hg:X.length>Y.length
   ·rw [decide_eq_true (by omega),cond_true]
    have hx:X=X.take Y.length++X.drop Y.length:=(List.take_append_drop ..).symm
    generalize hX1:X.take Y.length=X1 at hx
    generalize hX2:X.drop Y.length=X2 at hx
    have l1:X1.length=Y.length:=by rw [←hX1];simp;omega
    have l2:X2.length=X.length - Y.length:=by rw [←hX2];simp
    have:=Zwl X1 Y P X2 Q cmp (P.length:Int) (m:Int) (Y.length:Int) l1 rfl (by simp only [List.length_append];omega) (by omega) (by simp only [List.length_append];omega)
    have e1:P++X++Y++Q=P++X1++X2++Y++Q:=by rw [hx];simp
    have e2:P++Y++X2++X1++Q=(P++Y)++X2++X1++Q:=by simp
    have e3:IntKind.i64.wrap ((X.length:Int) - (Y.length:Int))=(X2.length:Int):=by rw [wr (by omega) (by omega)];omega
    have e4:((Y.length:Nat):Int)=(X1.length:Int):=by omega
    rw [e1,this,Option.bind_some,e2,e3,e4,Zu8 cmp f X2 X1 (P++Y) Q m (by omega) (by omega) (by omega) (by simp only [List.length_append];omega) (by simp only [List.length_append];omega)]
    rw [hx];simp
   ·rw [decide_eq_false (by omega),cond_false]
    have hy:Y=Y.take (Y.length - X.length)++Y.drop (Y.length - X.length):=(List.take_append_drop ..).symm
    generalize hY1:Y.take (Y.length - X.length)=Y1 at hy
    generalize hY2:Y.drop (Y.length - X.length)=Y2 at hy
    have l1:Y1.length=Y.length - X.length:=by rw [←hY1];simp
    have l2:Y2.length=X.length:=by rw [←hY2];simp;omega
    have hb:IntKind.i64.wrap (IntKind.i64.wrap ((m:Int)+(Y.length:Int)) - (X.length:Int))=((P++X++Y1).length:Int):=by
     rw [wr (n:=(m:Int)+(Y.length:Int)) (by omega) (by omega),wr (by omega) (by omega)];simp only [List.length_append];omega
    have:=Zwl X Y2 P Y1 Q cmp (P.length:Int) ((P++X++Y1).length:Int) (X.length:Int) (by omega) rfl rfl rfl (by simp only [List.length_append];omega)
    have e1:P++X++Y++Q=P++X++Y1++Y2++Q:=by rw [hy];simp
    have e2:P++Y2++Y1++X++Q=P++Y2++Y1++(X++Q):=by simp
    have e3:IntKind.i64.wrap ((Y.length:Int) - (X.length:Int))=(Y1.length:Int):=by rw [wr (by omega) (by omega)];omega
    have e4:((X.length:Nat):Int)=(Y2.length:Int):=by omega
    rw [hb,e1,this,Option.bind_some,e2,e3,e4,Zu8 cmp f Y2 Y1 P (X++Q) m (by omega) (by omega) (by omega) (by omega) (by simp only [List.length_append];omega)]
    rw [hy];simp
theorem Yv5 (cmp:Action→Action→Option Int)(X Y P Q:List Action)(a m b:Int)(h1:0<X.length)(h2:0<Y.length)(ha:a=(P.length:Int))(hm:m=((P++X).length:Int))(hb:b=((P++X++Y).length:Int))(hl:(P++X++Y++Q).length≤big):
  Zgp (P++X++Y++Q) a m b cmp=some (P++Y++X++Q):=by
 subst ha hm hb
 have hbig:big=1000000:=rfl
 simp only [List.length_append] at hl
 unfold Zgp
 have e1:IntKind.i64.wrap (((P++X).length:Int) - (P.length:Int))=(X.length:Int):=by rw [wr (by simp only [List.length_append];omega) (by simp only [List.length_append];omega)];simp only [List.length_append];omega
 have e2:IntKind.i64.wrap (((P++X++Y).length:Int) - ((P++X).length:Int))=(Y.length:Int):=by rw [wr (by simp only [List.length_append];omega) (by simp only [List.length_append];omega)];simp only [List.length_append];omega
 rw [e1,e2]
 exact Zu8 cmp Z0v X Y P Q _ h1 h2 (by unfold Z0v;omega) (by simp) (by simp only [List.length_append];omega)
theorem Zmr {β:Type}(G:Nat→Int→Int→Option β)(K:Int→Option β)(t:Nat→Bool)(lo s hi:Nat)
  (step:∀(f i j:Nat),lo≤i→i<j→j≤hi→G (f+1) (i:Int) (j:Int)=bif t ((i+j) / 2) then G f (((i+j) / 2+1:Nat):Int) (j:Int) else G f (i:Int) (((i+j) / 2:Nat):Int))
  (stop:∀(f i:Nat),lo≤i→i≤hi→G (f+1) (i:Int) (i:Int)=K (i:Int))(ht:∀c,lo≤c→c<s→t c=true)(hf:∀c,s≤c→c<hi→t c=false):
  ∀(f i j:Nat),lo≤i→i≤s→s≤j→j≤hi→j - i<f→G f (i:Int) (j:Int)=K (s:Int)
 | 0,i,j,_,_,_,_,h=>by omega
 | f+1,i,j,h1,h2,h3,h4,h5=>by
  by_cases hij:i<j
  ·rw [step f i j h1 hij h4]
   by_cases hc:(i+j) / 2<s
   ·rw [ht _ (by omega) hc,cond_true]
    exact Zmr G K t lo s hi step stop ht hf f _ j (by omega) (by omega) h3 h4 (by omega)
   ·rw [hf _ (by omega) (by omega),cond_false]
    exact Zmr G K t lo s hi step stop ht hf f i _ h1 h2 (by omega) (by omega) (by omega)
  ·have e1:i=s:=by omega
   have e2:j=s:=by omega
   rw [e1,e2]
   exact stop f s (by omega) (by omega)
theorem Zst (t:Nat→Bool)(lo:Nat):∀(n:Nat),(∀c d,lo≤c→c≤d→d<lo+n→t c=false→t d=false)→∃s,lo≤s∧s≤lo+n∧(∀c,lo≤c→c<s→t c=true)∧∀c,s≤c→c<lo+n→t c=false
 | 0,_=>⟨lo,Nat.le_refl _,Nat.le_refl _,fun c h1 h2=>by omega,fun c h1 h2=>by omega⟩
 | n+1,hm=>by
  obtain ⟨s,h1,h2,h3,h4⟩:=Zst t lo n fun c d a b e f=>hm c d a b (by omega) f
  by_cases hs:s<lo+n
  ·refine ⟨s,h1,by omega,h3,fun c a b=>?_⟩
   by_cases hc:c<lo+n
   ·exact h4 c a hc
   ·exact hm s c h1 a b (h4 s (Nat.le_refl _) hs)
  ·have:s=lo+n:=by omega
   subst this
   cases ht:t (lo+n)
   ·exact ⟨lo+n,h1,by omega,h3,fun c a b=>by rw [show c=lo+n by omega,ht]⟩
   ·refine ⟨lo+n+1,by omega,by omega,fun c a b=>?_,fun c a b=>by omega⟩
    by_cases hc:c<lo+n
    ·exact h3 c a hc
    ·have:c=lo+n:=by omega
     rw [this,ht]
end Go.Proofs.YtinplddjjalohaaGreatDoor.W
namespace Go.Proofs.YtinplddjjalohaaGreatDoor.W
open Go Go.Wb
section sym
variable (lt : Action → Action → Bool) (cmp : Action → Action → Option Int)
def Z73:Prop:= ∀x y,∃c,cmp x y=some c∧decide (c<0)=lt x y
variable {lt cmp}
theorem Y8m (e:Nat):∀(Y P Q:List Action) (x:Action) (k f:Nat),k=P.length→k+Y.length+1=e→Y.length<f→(P++x::(Y++Q)).length≤big→
  Zbc (e:Int) f (P++x::(Y++Q)) (k:Int)=some (P++Y++x::Q)
 | [],P,Q,x,k,f,h1,h2,h3,h4=>by
  obtain ⟨f,rfl⟩:∃k,f=k+1:=⟨f - 1,by simp at h3;omega⟩
  have hbig:big=1000000:=rfl
  simp only [List.length_append,List.length_cons,List.length_nil] at h2 h4
  rw [Zbc,wr (by omega) (by omega),decide_eq_false (by omega),cond_false]
  simp
 | y::Y,P,Q,x,k,f,h1,h2,h3,h4=>by
  obtain ⟨f,rfl⟩:∃k,f=k+1:=⟨f - 1,by simp at h3;omega⟩
  have hbig:big=1000000:=rfl
  simp only [List.length_append,List.length_cons] at h2 h3 h4
  have ek:IntKind.i64.wrap ((k:Int)+1)=((k+1:Nat):Int):=by rw [wr (by omega) (by omega)];omega
  have e1:P++x::(y::Y++Q)=(P++[x])++y::(Y++Q):=by simp
  have e2:(P++[y])++y::(Y++Q)=P++y::(y::(Y++Q)):=by simp
  have g1:lget (P++x::(y::Y++Q)) ((k+1:Nat):Int)=some y:=by rw [e1];exact Z6a _ _ _ _ (by simp;omega)
  have g2:lget (P++x::(y::Y++Q)) (k:Int)=some x:=Z6a _ _ _ _ (by omega)
  have s1:List.set (P++x::(y::Y++Q)) ((k:Int)).toNat y=(P++[y])++y::(Y++Q):=by rw [Int.toNat_natCast,Z97 _ _ _ _ _ h1];simp
  have g3:lget ((P++[y])++y::(Y++Q)) ((k+1:Nat):Int)=some y:=Z6a _ _ _ _ (by simp;omega)
  have s2:List.set ((P++[y])++y::(Y++Q)) (((k+1:Nat):Int)).toNat x=(P++[y])++x::(Y++Q):=by rw [Int.toNat_natCast,Z97 _ _ _ _ _ (by simp;omega)]
  rw [Zbc,wr (n:=(e:Int) - 1) (by omega) (by omega),decide_eq_true (by omega),cond_true,ek,g1,Option.bind_some,g2,Option.bind_some,Option.bind_some,s1,g3,Option.bind_some,s2,
   Y8m e Y (P++[y]) Q x (k+1) f (by simp;omega) (by omega) (by omega) (by simp only [List.length_append,List.length_cons,List.length_nil];omega)]
  simp
theorem Y7n (s:Nat):∀(R P Q:List Action) (x:Action) (k f:Nat),k=s+R.length→P.length=s→R.length<f→(P++R.reverse++x::Q).length≤big→
  Zan (s:Int) f (P++R.reverse++x::Q) (k:Int)=some (P++x::(R.reverse++Q))
 | [],P,Q,x,k,f,h1,h2,h3,h4=>by
  obtain ⟨f,rfl⟩:∃k,f=k+1:=⟨f - 1,by simp at h3;omega⟩
  rw [Zan,decide_eq_false (by simp at h1;omega),cond_false]
  simp
 | y::R,P,Q,x,k,f,h1,h2,h3,h4=>by
  obtain ⟨f,rfl⟩:∃k,f=k+1:=⟨f - 1,by simp at h3;omega⟩
  have hbig:big=1000000:=rfl
  simp only [List.length_append,List.length_cons,List.length_reverse] at h1 h3 h4
  have ek:IntKind.i64.wrap ((k:Int) - 1)=((k - 1:Nat):Int):=by rw [wr (by omega) (by omega)];omega
  have e1:P++(y::R).reverse++x::Q=(P++R.reverse)++y::(x::Q):=by simp
  have e1':P++(y::R).reverse++x::Q=(P++R.reverse++[y])++x::Q:=by simp
  have g1:lget (P++(y::R).reverse++x::Q) ((k - 1:Nat):Int)=some y:=by rw [e1];exact Z6a _ _ _ _ (by simp;omega)
  have g2:lget (P++(y::R).reverse++x::Q) (k:Int)=some x:=by rw [e1'];exact Z6a _ _ _ _ (by simp;omega)
  have s1:List.set (P++(y::R).reverse++x::Q) ((k:Int)).toNat y=(P++R.reverse)++y::(y::Q):=by rw [e1',Int.toNat_natCast,Z97 _ _ _ _ _ (by simp;omega)];simp
  have g3:lget ((P++R.reverse)++y::(y::Q)) ((k - 1:Nat):Int)=some y:=Z6a _ _ _ _ (by simp;omega)
  have s2:List.set ((P++R.reverse)++y::(y::Q)) (((k - 1:Nat):Int)).toNat x=P++R.reverse++x::(y::Q):=by rw [Int.toNat_natCast,Z97 _ _ _ _ _ (by simp;omega)]
  rw [Zan,decide_eq_true (by omega),cond_true,ek,g1,Option.bind_some,g2,Option.bind_some,Option.bind_some,s1,g3,Option.bind_some,s2,
   Y7n s R P (y::Q) x (k - 1) f (by omega) h2 (by omega) (by simp only [List.length_append,List.length_cons,List.length_reverse];omega)]
  simp
theorem Zp9 {α:Type}(P X Q:List α)(c:Nat)(h1:P.length≤c)(h2:c<P.length+X.length):lget (P++X++Q) (c:Int)=some (X[c - P.length]'(by omega)):=by
 rw [Z75,List.append_assoc,List.getElem?_append_right h1,List.getElem?_append_left (by omega),List.getElem?_eq_getElem]
theorem Yrb {l:List Action}(h:Z1k lt l){i j:Nat}(hi:i<l.length)(hj:j<l.length)(hij:i<j):lt l[j] l[i]=false:=(List.pairwise_iff_getElem.1 h) i j hi hj hij
theorem Zbv (hs:Swo lt){l:List Action}(h:Z1k lt l){i j:Nat}(hi:i<l.length)(hj:j<l.length)(hij:i≤j):lt l[j] l[i]=false:=by
 rcases Nat.lt_or_eq_of_le hij with h1 | h1
 ·exact Yrb h hi hj h1
 ·subst h1
  have:=Z9t hs l[i]
  unfold eqv at this
  simpa using this
theorem Zrr {A B:List Action}(h:Z1k lt (A++B)):Z1k lt A:=(List.pairwise_append.1 h).1
theorem Zqo {A B:List Action}(h:Z1k lt (A++B)):Z1k lt B:=(List.pairwise_append.1 h).2.1
theorem Yth (hs:Swo lt)(hc:Z73 lt cmp)(x:Action)(Y P Q:List Action)(hY:Z1k lt Y)(hl:(P++x::(Y++Q)).length≤big):
  Zbe (P++x::(Y++Q)) (P.length:Int) cmp ((((P.length+1+Y.length:Nat):Int) - ((P.length+1:Nat):Int)).toNat+1) ((P.length+1:Nat):Int) ((P.length+1+Y.length:Nat):Int)=some (P++srt lt (x::Y)++Q):=by
 have hbig:big=1000000:=rfl
 simp only [List.length_append,List.length_cons] at hl
 have eD:P++x::(Y++Q)=(P++[x])++Y++Q:=by simp
 let t:Nat→Bool:=fun c=>if h:c - (P.length+1)<Y.length then lt Y[c - (P.length+1)] x else false
 have htv:∀c (h:c - (P.length+1)<Y.length),t c=lt Y[c - (P.length+1)] x:=fun c h=>by simp only [t];rw [dif_pos h]
 obtain ⟨s,s1,s2,s3,s4⟩:=Zst t (P.length+1) Y.length fun c d h1 h2 h3 h4=>by
  rw [htv c (by omega)] at h4
  rw [htv d (by omega)]
  exact hs.neg _ _ _ (Zbv hs hY (by omega) (by omega) (by omega)) h4
 have key:=Zmr (Zbe (P++x::(Y++Q)) (P.length:Int) cmp) (fun i=>Zbc i ((((IntKind.i64.wrap (i - 1)):Int) - (P.length:Int)).toNat+1) (P++x::(Y++Q)) (P.length:Int)) t (P.length+1) s (P.length+1+Y.length)
  (fun f i j h1 h2 h3=>by
   obtain ⟨c,hc1,hc2⟩:=hc (Y[(i+j) / 2 - (P.length+1)]'(by omega)) x
   have gx:lget (P++x::(Y++Q)) (P.length:Int)=some x:=Z6a _ _ _ _ rfl
   have gy:lget (P++x::(Y++Q)) (((i+j) / 2:Nat):Int)=some (Y[(i+j) / 2 - (P.length+1)]'(by omega)):=by
    rw [eD,Zp9 (P++[x]) Y Q _ (by simp;omega) (by simp;omega)]
    simp
   have e1:IntKind.i64.wrap ((((i+j) / 2:Nat):Int)+1)=(((i+j) / 2+1:Nat):Int):=by rw [wr (by omega) (by omega)];omega
   rw [Zbe,decide_eq_true (by omega),cond_true,Zou _ (i+j) (by omega) (by omega),Option.bind_some,Zbm _ (by omega),gy,Option.bind_some,gx,Option.bind_some,hc1,Option.bind_some,hc2,htv _ (by omega),e1])
  (fun f i h1 h2=>by rw [Zbe,decide_eq_false (by omega),cond_false]) s3 (fun c h1 h2=>s4 c h1 h2)
 rw [key _ _ _ (Nat.le_refl _) s1 s2 (Nat.le_refl _) (by omega)]
 have hy:Y=Y.take (s - (P.length+1))++Y.drop (s - (P.length+1)):=(List.take_append_drop ..).symm
 have l1:(Y.take (s - (P.length+1))).length=s - (P.length+1):=by simp;omega
 have hm:=Y8m s (Y.take (s - (P.length+1))) P (Y.drop (s - (P.length+1))++Q) x P.length ((((IntKind.i64.wrap ((s:Int) - 1)):Int) - (P.length:Int)).toNat+1) rfl (by omega) (by rw [wr (by omega) (by omega)];omega) (by simp only [List.length_append,List.length_cons,List.length_drop];omega)
 rw [←List.append_assoc,←hy] at hm
 show Zbc (s:Int) _ _ _=_
 rw [hm]
 have h1:∀y∈Y.take (s - (P.length+1)),lt y x=true:=fun y hy1=>by
  obtain ⟨i,hi,rfl⟩:=List.getElem_of_mem hy1
  rw [l1] at hi
  have:=s3 (i+(P.length+1)) (by omega) (by omega)
  rw [htv _ (by omega)] at this
  simpa using this
 have h2:∀y∈Y.drop (s - (P.length+1)),lt y x=false:=fun y hy1=>by
  obtain ⟨i,hi,rfl⟩:=List.getElem_of_mem hy1
  rw [List.length_drop] at hi
  have:=s4 (s+i) (by omega) (by omega)
  rw [htv _ (by omega)] at this
  rw [List.getElem_drop]
  have e:s+i - (P.length+1)=s - (P.length+1)+i:=by omega
  simpa [e] using this
 have hY':=hY
 rw [hy] at hY'
 have h3:=Zvz hs (X1:=[]) (X2:=[x]) (Y1:=Y.take (s - (P.length+1))) (Y2:=Y.drop (s - (P.length+1))) (by simp [Z1k]) hY' (by simp) (fun y hy1 u hu=>by rw [show u=x by simpa using hu];exact h1 y hy1)
 simp only [List.nil_append,←hy] at h3
 have h4:srt lt ([x]++Y.drop (s - (P.length+1)))=[x]++Y.drop (s - (P.length+1)):=Zhk hs (by
  unfold Z1k
  rw [List.pairwise_append]
  exact ⟨by simp,(Zqo hY'),fun u hu v hv=>by rw [show u=x by simpa using hu];exact h2 v hv⟩)
 rw [h4,Zhk hs (Zrr hY')] at h3
 rw [show x::Y=[x]++Y from rfl,h3]
 simp
theorem Yt1 (hs:Swo lt)(hc:Z73 lt cmp)(x:Action)(X P Q:List Action)(hX:Z1k lt X)(hl:(P++X++x::Q).length≤big):
  Zb1 (P++X++x::Q) ((P.length+X.length:Nat):Int) cmp ((((P.length+X.length:Nat):Int) - (P.length:Int)).toNat+1) (P.length:Int) ((P.length+X.length:Nat):Int)=some (P++srt lt (X++[x])++Q):=by
 have hbig:big=1000000:=rfl
 simp only [List.length_append,List.length_cons] at hl
 let t:Nat→Bool:=fun c=>if h:c - P.length<X.length then !lt x X[c - P.length] else false
 have htv:∀c (h:c - P.length<X.length),t c= !lt x X[c - P.length]:=fun c h=>by simp only [t];rw [dif_pos h]
 obtain ⟨s,s1,s2,s3,s4⟩:=Zst t P.length X.length fun c d h1 h2 h3 h4=>by
  rw [htv c (by omega)] at h4
  rw [htv d (by omega)]
  simp only [Bool.not_eq_false'] at h4 ⊢
  cases hd:lt x X[d - P.length]
  ·have:=hs.neg _ _ _ hd (Zbv hs hX (i:=c - P.length) (j:=d - P.length) (by omega) (by omega) (by omega))
   rw [this] at h4;cases h4
  ·rfl
 have key:=Zmr (Zb1 (P++X++x::Q) ((P.length+X.length:Nat):Int) cmp) (fun i=>Zan i (((((P.length+X.length:Nat):Int):Int) - i).toNat+1) (P++X++x::Q) ((P.length+X.length:Nat):Int)) t P.length s (P.length+X.length)
  (fun f i j h1 h2 h3=>by
   obtain ⟨c,hc1,hc2⟩:=hc x (X[(i+j) / 2 - P.length]'(by omega))
   have gx:lget (P++X++x::Q) ((P.length+X.length:Nat):Int)=some x:=Z6a _ _ _ _ (by simp)
   have gy:lget (P++X++x::Q) (((i+j) / 2:Nat):Int)=some (X[(i+j) / 2 - P.length]'(by omega)):=Zp9 P X (x::Q) _ (by omega) (by omega)
   have e1:IntKind.i64.wrap ((((i+j) / 2:Nat):Int)+1)=(((i+j) / 2+1:Nat):Int):=by rw [wr (by omega) (by omega)];omega
   rw [Zb1,decide_eq_true (by omega),cond_true,Zou _ (i+j) (by omega) (by omega),Option.bind_some,Zbm _ (by omega),gx,Option.bind_some,gy,Option.bind_some,hc1,Option.bind_some,hc2,htv _ (by omega),e1])
  (fun f i h1 h2=>by rw [Zb1,decide_eq_false (by omega),cond_false]) s3 (fun c h1 h2=>s4 c h1 h2)
 rw [key _ _ _ (Nat.le_refl _) s1 s2 (Nat.le_refl _) (by omega)]
 have hx:X=X.take (s - P.length)++X.drop (s - P.length):=(List.take_append_drop ..).symm
 have l1:(X.take (s - P.length)).length=s - P.length:=by simp;omega
 have hm:=Y7n s (X.drop (s - P.length)).reverse (P++X.take (s - P.length)) Q x (P.length+X.length) (((((P.length+X.length:Nat):Int):Int) - (s:Int)).toNat+1) (by simp;omega) (by simp;omega) (by simp;omega) (by simp only [List.length_append,List.length_cons,List.length_reverse,List.length_drop,List.length_take];omega)
 rw [List.reverse_reverse,List.append_assoc P,←hx] at hm
 show Zan (s:Int) _ _ _=_
 rw [hm]
 have h1:∀u∈X.take (s - P.length),lt x u=false:=fun u hu=>by
  obtain ⟨i,hi,rfl⟩:=List.getElem_of_mem hu
  rw [l1] at hi
  have:=s3 (i+P.length) (by omega) (by omega)
  rw [htv _ (by omega)] at this
  simpa using this
 have h2:∀u∈X.drop (s - P.length),lt x u=true:=fun u hu=>by
  obtain ⟨i,hi,rfl⟩:=List.getElem_of_mem hu
  rw [List.length_drop] at hi
  have:=s4 (s+i) (by omega) (by omega)
  rw [htv _ (by omega)] at this
  rw [List.getElem_drop]
  have e:s+i - P.length=s - P.length+i:=by omega
  simpa [e] using this
 have hX':=hX
 rw [hx] at hX'
 have h3:=Zvz hs (X1:=X.take (s - P.length)) (X2:=X.drop (s - P.length)) (Y1:=[x]) (Y2:=[]) hX' (by simp [Z1k]) (by simp) (fun y hy1 u hu=>by rw [show y=x by simpa using hy1];exact h2 u hu)
 simp only [List.append_nil,←hx] at h3
 have h4:srt lt (X.take (s - P.length)++[x])=X.take (s - P.length)++[x]:=Zhk hs (by
  unfold Z1k
  rw [List.pairwise_append]
  exact ⟨(Zrr hX'),by simp,fun u hu v hv=>by rw [show v=x by simpa using hv];exact h1 u hu⟩)
 rw [h4,Zhk hs (Zqo hX')] at h3
 rw [h3]
 simp
end sym
end Go.Proofs.YtinplddjjalohaaGreatDoor.W
namespace Go.Proofs.YtinplddjjalohaaGreatDoor.W
open Go Go.Wb
section sym
variable {lt : Action → Action → Bool} {cmp : Action → Action → Option Int}
def Zq7 (lt:Action→Action→Bool)(cmp:Action→Action→Option Int)(f:Nat)(R:List Action→Int→Int→Int→(Action→Action→Option Int)→Option (List Action)):Prop:=
 ∀(P X Y Q:List Action) (a m b:Int),a=(P.length:Int)→m=(P.length:Int)+(X.length:Int)→b=(P.length:Int)+(X.length:Int)+(Y.length:Int)→0<X.length→0<Y.length→X.length+Y.length≤f→Z1k lt X→Z1k lt Y→(P++X++Y++Q).length≤big→
  R (P++X++Y++Q) a m b cmp=some (P++srt lt (X++Y)++Q)
theorem Y2r (hs:Swo lt){X Y:List Action}(hX:Z1k lt X)(hY:Z1k lt Y)(h:¬(0<X.length∧0<Y.length)):srt lt (X++Y)=X++Y:=by
 cases X with
 | nil=>exact Zhk hs hY
 | cons x X=>
  cases Y with
  | nil=>rw [List.append_nil];exact Zhk hs hX
  | cons y Y=>exact absurd ⟨by simp,by simp⟩ h
theorem Ykl (hs:Swo lt){f:Nat}{R:List Action→Int→Int→Int→(Action→Action→Option Int)→Option (List Action)}(hR:Zq7 lt cmp f R)(P X2 Y2 Q:List Action)(mid:Nat)(m start b:Int)
  (h1:mid=P.length)(h2:(mid:Int)+m - start=(P.length:Int)+(X2.length:Int))(h3:b=(P.length:Int)+(X2.length:Int)+(Y2.length:Int))(hm:0≤m∧m≤big)(hst:0≤start∧start≤big)(hf:X2.length+Y2.length≤f)(hX:Z1k lt X2)(hY:Z1k lt Y2)(hl:(P++X2++Y2++Q).length≤big):
  Zhw (BitVec.ofNat 64 mid) m start b R cmp (P++X2++Y2++Q)=some (P++srt lt (X2++Y2)++Q):=by
 have hbig:big=1000000:=rfl
 have hl':=hl
 simp only [List.length_append] at hl'
 unfold Zhw
 rw [Zbm mid (by omega)]
 have e1:IntKind.i64.wrap (IntKind.i64.wrap ((mid:Int)+m) - start)=(P.length:Int)+(X2.length:Int):=by
  rw [wr (n:=(mid:Int)+m) (by omega) (by omega),wr (by omega) (by omega),h2]
 rw [e1]
 by_cases hc:0<X2.length∧0<Y2.length
 ·rw [decide_eq_true (by omega),decide_eq_true (by omega),Bool.and_true,cond_true,hR P X2 Y2 Q _ _ _ (by omega) rfl h3 hc.1 hc.2 hf hX hY hl]
  rfl
 ·have:(decide ((mid:Int)<(P.length:Int)+(X2.length:Int))&&decide ((P.length:Int)+(X2.length:Int)<b))=false:=by
   rw [Bool.and_eq_false_iff,decide_eq_false_iff_not,decide_eq_false_iff_not]
   by_cases h:0<X2.length
   ·exact .inr (fun h'=>hc ⟨h,by omega⟩)
   ·exact .inl (by omega)
  rw [this,cond_false,Y2r hs hX hY hc]
  simp
theorem Yxv (hs:Swo lt){f:Nat}{R:List Action→Int→Int→Int→(Action→Action→Option Int)→Option (List Action)}(hR:Zq7 lt cmp f R)(P X1 Y1 X2 Y2 Q:List Action)(mid:Nat)(a m start b:Int)
  (ha:a=(P.length:Int))(h1:mid=P.length+X1.length+Y1.length)(hs1:start=(P.length:Int)+(X1.length:Int))(hm:m=start+(X2.length:Int))(h3:b=(mid:Int)+(X2.length:Int)+(Y2.length:Int))
  (hf1:X1.length+Y1.length≤f)(hf2:X2.length+Y2.length≤f)(hX1:Z1k lt X1)(hY1:Z1k lt Y1)(hX2:Z1k lt X2)(hY2:Z1k lt Y2)(hl:(P++X1++Y1++X2++Y2++Q).length≤big):
  Zck a start (BitVec.ofNat 64 mid) R cmp m b (P++X1++Y1++X2++Y2++Q)=some (P++srt lt (X1++Y1)++srt lt (X2++Y2)++Q):=by
 have hbig:big=1000000:=rfl
 have hl':=hl
 simp only [List.length_append] at hl'
 have hlen:(srt lt (X1++Y1)).length=X1.length+Y1.length:=by rw [Z3p hs];simp
 have last:=Ykl hs hR (P++srt lt (X1++Y1)) X2 Y2 Q mid m start b (by simp only [List.length_append,hlen];omega) (by simp only [List.length_append,hlen];omega) (by simp only [List.length_append,hlen];omega) (by omega) (by omega) hf2 hX2 hY2 (by simp only [List.length_append,hlen];omega)
 unfold Zck
 rw [Zbm mid (by omega)]
 by_cases hc:0<X1.length∧0<Y1.length
 ·have hr:=hR P X1 Y1 (X2++Y2++Q) a start (mid:Int) ha hs1 (by omega) hc.1 hc.2 hf1 hX1 hY1 (by simp only [List.length_append];omega)
  have e:P++X1++Y1++X2++Y2++Q=P++X1++Y1++(X2++Y2++Q):=by simp
  have e':P++srt lt (X1++Y1)++(X2++Y2++Q)=P++srt lt (X1++Y1)++X2++Y2++Q:=by simp
  rw [decide_eq_true (by omega),decide_eq_true (by omega),Bool.and_true,cond_true,e,hr,Option.bind_some,e',last]
 ·have hd:(decide (a<start)&&decide (start<(mid:Int)))=false:=by
   rw [Bool.and_eq_false_iff,decide_eq_false_iff_not,decide_eq_false_iff_not]
   by_cases h:0<X1.length
   ·exact .inr (fun h'=>hc ⟨h,by omega⟩)
   ·exact .inl (by omega)
  rw [hd,cond_false]
  rw [Y2r hs hX1 hY1 hc] at last ⊢
  have e:P++X1++Y1++X2++Y2++Q=P++(X1++Y1)++X2++Y2++Q:=by simp
  rw [e,last]
theorem Y04 (hs:Swo lt)(hc:Z73 lt cmp){f:Nat}{R:List Action→Int→Int→Int→(Action→Action→Option Int)→Option (List Action)}(hR:Zq7 lt cmp f R)(P X Y Q:List Action)(mid lo hi:Nat)
  (hmid:mid=(P.length+(P.length+X.length+Y.length)) / 2)(h2:2≤X.length)(h2':2≤Y.length)(hf:X.length+Y.length≤f+1)(hX:Z1k lt X)(hY:Z1k lt Y)(hl:(P++X++Y++Q).length≤big)
  (hlh:(mid<P.length+X.length∧lo+(P.length+X.length+Y.length)=mid+(P.length+X.length)∧hi=mid)∨(P.length+X.length≤mid∧lo=P.length∧hi=P.length+X.length)):
  Zi5 (P++X++Y++Q) (BitVec.ofNat 64 mid) ((P.length:Int)+(X.length:Int)) cmp (P.length:Int) R ((P.length:Int)+(X.length:Int)+(Y.length:Int)) (lo:Int) (hi:Int)=some (P++srt lt (X++Y)++Q):=by
 have hbig:big=1000000:=rfl
 have hl':=hl
 simp only [List.length_append] at hl'
 have hin:∀c,lo≤c→c<hi→P.length≤c∧c<P.length+X.length∧P.length+X.length≤mid+(P.length+X.length) - 1 - c∧mid+(P.length+X.length) - 1 - c<P.length+X.length+Y.length:=fun c a b=>by rcases hlh with h | h<;>omega
 let t:Nat→Bool:=fun c=>if h:(c - P.length<X.length∧(mid+(P.length+X.length) - 1 - c) - (P.length+X.length)<Y.length) then !lt (Y[(mid+(P.length+X.length) - 1 - c) - (P.length+X.length)]'h.2) (X[c - P.length]'h.1) else false
 have htv:∀c (h1:c - P.length<X.length) (h2:(mid+(P.length+X.length) - 1 - c) - (P.length+X.length)<Y.length),t c= !lt (Y[(mid+(P.length+X.length) - 1 - c) - (P.length+X.length)]'h2) (X[c - P.length]'h1):=fun c h1 h2=>by simp only [t];rw [dif_pos ⟨h1,h2⟩]
 have hlohi:lo≤hi:=by rcases hlh with h | h<;>omega
 obtain ⟨s,s1,s2,s3,s4⟩:=Zst t lo (hi - lo) fun c d h1 h2 h3 h4=>by
  have a1:=hin c h1 (by omega)
  have a2:=hin d (by omega) (by omega)
  rw [htv c (by omega) (by omega)] at h4
  rw [htv d (by omega) (by omega)]
  simp only [Bool.not_eq_false'] at h4 ⊢
  cases hd:lt (Y[(mid+(P.length+X.length) - 1 - d) - (P.length+X.length)]'(by omega)) (X[d - P.length]'(by omega))
  ·have b1:=Zbv hs hX (i:=c - P.length) (j:=d - P.length) (by omega) (by omega) (by omega)
   have b2:=Zbv hs hY (i:=(mid+(P.length+X.length) - 1 - d) - (P.length+X.length)) (j:=(mid+(P.length+X.length) - 1 - c) - (P.length+X.length)) (by omega) (by omega) (by omega)
   rw [hs.neg _ _ _ (hs.neg _ _ _ b2 hd) b1] at h4;cases h4
  ·rfl
 have e0:lo+(hi - lo)=hi:=by omega
 rw [e0] at s2 s4
 unfold Zi5
 have key:=Zmr (Zci (P++X++Y++Q) (BitVec.ofNat 64 mid) ((P.length:Int)+(X.length:Int)) cmp (P.length:Int) R ((P.length:Int)+(X.length:Int)+(Y.length:Int)))
  (fun start=>bif ((decide (start<((P.length:Int)+(X.length:Int))))&&(decide (((P.length:Int)+(X.length:Int))<(IntKind.i64.wrap ((IntKind.i64.wrap ((IntKind.i64.wrap ((BitVec.ofNat 64 mid).toNat:Int))+((P.length:Int)+(X.length:Int)))) - start))))) then (Zgp (P++X++Y++Q) start ((P.length:Int)+(X.length:Int)) (IntKind.i64.wrap ((IntKind.i64.wrap ((IntKind.i64.wrap ((BitVec.ofNat 64 mid).toNat:Int))+((P.length:Int)+(X.length:Int)))) - start)) cmp).bind fun l59=>Zck (P.length:Int) start (BitVec.ofNat 64 mid) R cmp ((P.length:Int)+(X.length:Int)) ((P.length:Int)+(X.length:Int)+(Y.length:Int)) l59 else Zck (P.length:Int) start (BitVec.ofNat 64 mid) R cmp ((P.length:Int)+(X.length:Int)) ((P.length:Int)+(X.length:Int)+(Y.length:Int)) (P++X++Y++Q))
  t lo s hi
  (fun f i j h1 h2 h3=>by
   have a1:=hin ((i+j) / 2) (by omega) (by omega)
   obtain ⟨c,hc1,hc2⟩:=hc (Y[(mid+(P.length+X.length) - 1 - (i+j) / 2) - (P.length+X.length)]'(by omega)) (X[(i+j) / 2 - P.length]'(by omega))
   have gx:lget (P++X++Y++Q) (((i+j) / 2:Nat):Int)=some (X[(i+j) / 2 - P.length]'(by omega)):=by
    rw [List.append_assoc (P++X)]
    exact Zp9 P X (Y++Q) _ a1.1 a1.2.1
   have ep:IntKind.i64.wrap (IntKind.i64.wrap (IntKind.i64.wrap ((mid:Int)+((P.length:Int)+(X.length:Int))) - 1) - (((i+j) / 2:Nat):Int))=((mid+(P.length+X.length) - 1 - (i+j) / 2:Nat):Int):=by
    rw [wr (n:=(mid:Int)+((P.length:Int)+(X.length:Int))) (by omega) (by omega),wr (n:=(mid:Int)+((P.length:Int)+(X.length:Int)) - 1) (by omega) (by omega),wr (by omega) (by omega)];omega
   have gy:lget (P++X++Y++Q) ((mid+(P.length+X.length) - 1 - (i+j) / 2:Nat):Int)=some (Y[(mid+(P.length+X.length) - 1 - (i+j) / 2) - (P.length+X.length)]'(by omega)):=by
    rw [Zp9 (P++X) Y Q _ (by simp;omega) (by simp;omega)]
    simp
   have e1:IntKind.i64.wrap ((((i+j) / 2:Nat):Int)+1)=(((i+j) / 2+1:Nat):Int):=by rw [wr (by omega) (by omega)];omega
   rw [Zci,decide_eq_true (by omega),cond_true,Zou _ (i+j) (by omega) (by omega),Option.bind_some,Zbm mid (by omega),Zbm ((i+j) / 2) (by omega),ep,gy,Option.bind_some,gx,Option.bind_some,hc1,Option.bind_some,hc2,htv _ (by omega) (by omega),e1])
  (fun f i h1 h2=>by rw [Zci,decide_eq_false (by omega),cond_false]) s3 (fun c h1 h2=>s4 c h1 h2)
 rw [key _ _ _ (Nat.le_refl _) s1 s2 (Nat.le_refl _) (by omega)]
 have hsm:P.length≤s∧s≤P.length+X.length∧s≤mid∧mid+X.length≤s+(X.length+Y.length):=by rcases hlh with h | h<;>omega
 have hx:X=X.take (s - P.length)++X.drop (s - P.length):=(List.take_append_drop ..).symm
 have hy:Y=Y.take (mid - s)++Y.drop (mid - s):=(List.take_append_drop ..).symm
 have l1:(X.take (s - P.length)).length=s - P.length:=by simp;omega
 have l2:(X.drop (s - P.length)).length=P.length+X.length - s:=by simp;omega
 have l3:(Y.take (mid - s)).length=mid - s:=by simp;omega
 have l4:(Y.drop (mid - s)).length=Y.length - (mid - s):=by simp
 have hX':=hX
 rw [hx] at hX'
 have hY':=hY
 rw [hy] at hY'
 have hx1:∀x∈X.take (s - P.length),∀y∈Y.drop (mid - s),lt y x=false:=fun x hxm y hym=>by
  obtain ⟨i,hii,rfl⟩:=List.getElem_of_mem hxm
  obtain ⟨j,hj,rfl⟩:=List.getElem_of_mem hym
  rw [l1] at hii
  rw [l4] at hj
  have hc':lo≤s - 1:=by rcases hlh with h | h<;>omega
  have a1:=hin (s - 1) hc' (by omega)
  have:=s3 (s - 1) hc' (by omega)
  rw [htv _ (by omega) (by omega),Bool.not_eq_true'] at this
  rw [List.getElem_drop,List.getElem_take]
  have b1:=Zbv hs hX (i:=i) (j:=s - 1 - P.length) (by omega) (by omega) (by omega)
  have b2:=Zbv hs hY (i:=(mid+(P.length+X.length) - 1 - (s - 1)) - (P.length+X.length)) (j:=mid - s+j) (by omega) (by omega) (by omega)
  exact hs.neg _ _ _ (hs.neg _ _ _ b2 this) b1
 have hx2:∀y∈Y.take (mid - s),∀x∈X.drop (s - P.length),lt y x=true:=fun y hym x hxm=>by
  obtain ⟨i,hii,rfl⟩:=List.getElem_of_mem hxm
  obtain ⟨j,hj,rfl⟩:=List.getElem_of_mem hym
  rw [l3] at hj
  rw [l2] at hii
  have hc':s<hi:=by rcases hlh with h | h<;>omega
  have a1:=hin s s1 hc'
  have:=s4 s (Nat.le_refl _) hc'
  rw [htv _ (by omega) (by omega),Bool.not_eq_false'] at this
  rw [List.getElem_drop,List.getElem_take]
  have b1:=Zbv hs hX (i:=s - P.length) (j:=s - P.length+i) (by omega) (by omega) (by omega)
  have b2:=Zbv hs hY (i:=j) (j:=(mid+(P.length+X.length) - 1 - s) - (P.length+X.length)) (by omega) (by omega) (by omega)
  cases hd:lt (Y[j]'(by omega)) (X[s - P.length+i]'(by omega))
  ·rw [hs.neg _ _ _ (hs.neg _ _ _ b2 hd) b1] at this;cases this
  ·rfl
 have hsp:=Zvz hs hX' hY' hx1 hx2
 rw [←hx,←hy] at hsp
 rw [hsp]
 generalize X.take (s - P.length)=X1 at*
 generalize X.drop (s - P.length)=X2 at*
 generalize Y.take (mid - s)=Y1 at*
 generalize Y.drop (mid - s)=Y2 at*
 have last:=Yxv hs hR P X1 Y1 X2 Y2 Q mid (P.length:Int) ((P.length:Int)+(X.length:Int)) (s:Int) ((P.length:Int)+(X.length:Int)+(Y.length:Int)) rfl (by omega) (by omega) (by omega) (by omega) (by omega) (by omega) (Zrr hX') (Zrr hY') (Zqo hX') (Zqo hY') (by simp only [List.length_append];omega)
 have ee:IntKind.i64.wrap (IntKind.i64.wrap ((mid:Int)+((P.length:Int)+(X.length:Int))) - (s:Int))=((P++X1++X2++Y1).length:Int):=by
  rw [wr (n:=(mid:Int)+((P.length:Int)+(X.length:Int))) (by omega) (by omega),wr (by omega) (by omega)];simp only [List.length_append];omega
 have eres:P++srt lt (X1++Y1)++srt lt (X2++Y2)++Q=P++(srt lt (X1++Y1)++srt lt (X2++Y2))++Q:=by simp
 rw [eres] at last
 show (bif _ then _ else _)=_
 rw [Zbm mid (by omega),ee]
 have hlen4:(P++X1++X2++Y1).length=P.length+X1.length+X2.length+Y1.length:=by simp only [List.length_append]
 by_cases hcc:0<X2.length∧0<Y1.length
 ·have eL:P++X++Y++Q=(P++X1)++X2++Y1++(Y2++Q):=by rw [hx,hy];simp
  have hr:=Yv5 cmp X2 Y1 (P++X1) (Y2++Q) (s:Int) ((P.length:Int)+(X.length:Int)) ((P++X1++X2++Y1).length:Int) hcc.1 hcc.2 (by simp only [List.length_append];omega) (by simp only [List.length_append];omega) rfl (by simp only [List.length_append];omega)
  have eR:(P++X1)++Y1++X2++(Y2++Q)=P++X1++Y1++X2++Y2++Q:=by simp
  rw [decide_eq_true (by omega),decide_eq_true (by omega),Bool.and_true,cond_true,eL,hr,Option.bind_some,eR,last]
 ·have hd:(decide ((s:Int)<(P.length:Int)+(X.length:Int))&&decide ((P.length:Int)+(X.length:Int)<((P++X1++X2++Y1).length:Int)))=false:=by
   rw [Bool.and_eq_false_iff,decide_eq_false_iff_not,decide_eq_false_iff_not]
   by_cases h:0<X2.length
   ·exact .inr (fun h'=>hcc ⟨h,by omega⟩)
   ·exact .inl (by omega)
  have eL:P++X++Y++Q=P++X1++Y1++X2++Y2++Q:=by
   rw [hx,hy]
   have:X2=[]∨Y1=[]:=by
    rcases Nat.eq_zero_or_pos X2.length with h | h
    ·exact .inl (List.eq_nil_of_length_eq_zero h)
    ·rcases Nat.eq_zero_or_pos Y1.length with h' | h'
     ·exact .inr (List.eq_nil_of_length_eq_zero h')
     ·exact absurd ⟨h,h'⟩ hcc
   rcases this with h | h
   ·subst h;simp
   ·subst h;simp
  rw [hd,cond_false,eL,last]
theorem Zto (hs:Swo lt)(hc:Z73 lt cmp):∀f,Zq7 lt cmp f (Zhr f)
 | 0=>fun P X Y Q a m b _ _ _ h1 h2 h3=>by omega
 | f+1=>by
  intro P X Y Q a m b ha hm hb h1 h2 h3 hX hY hl
  subst ha hm hb
  have hbig:big=1000000:=rfl
  have hl':=hl
  simp only [List.length_append] at hl'
  show Zkm (Zhr f) _ _ _ _ _=_
  unfold Zkm
  have e1:IntKind.i64.wrap ((P.length:Int)+(X.length:Int) - (P.length:Int))=(X.length:Int):=by rw [wr (by omega) (by omega)];omega
  have e2:IntKind.i64.wrap ((P.length:Int)+(X.length:Int)+(Y.length:Int) - ((P.length:Int)+(X.length:Int)))=(Y.length:Int):=by rw [wr (by omega) (by omega)];omega
  rw [e1,e2]
  by_cases hx1:X.length=1
  ·obtain ⟨x,rfl⟩:∃x,X=[x]:=List.length_eq_one_iff.1 hx1
   have:=Yth hs hc x Y P Q hY (by simpa using hl)
   rw [decide_eq_true (by omega),cond_true]
   have e:P++[x]++Y++Q=P++x::(Y++Q):=by simp
   have e4:(P.length:Int)+([x].length:Int)=((P.length+1:Nat):Int):=by simp
   have e5:((P.length+1:Nat):Int)+(Y.length:Int)=((P.length+1+Y.length:Nat):Int):=by omega
   rw [e,e4,e5,this];rfl
  ·rw [decide_eq_false (by omega),cond_false]
   by_cases hy1:Y.length=1
   ·obtain ⟨y,rfl⟩:∃y,Y=[y]:=List.length_eq_one_iff.1 hy1
    have:=Yt1 hs hc y X P Q hX (by simpa using hl)
    rw [decide_eq_true (by omega),cond_true]
    have e:P++X++[y]++Q=P++X++y::Q:=by simp
    have e4:(P.length:Int)+(X.length:Int)=((P.length+X.length:Nat):Int):=by omega
    rw [e,e4,this]
   ·rw [decide_eq_false (by omega),cond_false,Zou _ (P.length+(P.length+X.length+Y.length)) (by omega) (by omega),Option.bind_some,Zbm _ (by omega)]
    by_cases hmm:(P.length+(P.length+X.length+Y.length)) / 2<P.length+X.length
    ·rw [decide_eq_true (by omega),cond_true]
     have e3:IntKind.i64.wrap (IntKind.i64.wrap ((((P.length+(P.length+X.length+Y.length)) / 2:Nat):Int)+((P.length:Int)+(X.length:Int))) - ((P.length:Int)+(X.length:Int)+(Y.length:Int)))=(((P.length+(P.length+X.length+Y.length)) / 2+(P.length+X.length) - (P.length+X.length+Y.length):Nat):Int):=by
      rw [wr (n:=(((P.length+(P.length+X.length+Y.length)) / 2:Nat):Int)+((P.length:Int)+(X.length:Int))) (by omega) (by omega),wr (by omega) (by omega)];omega
     rw [e3]
     exact Y04 hs hc (Zto hs hc f) P X Y Q _ _ _ rfl (by omega) (by omega) (by omega) hX hY hl (.inl ⟨hmm,by omega,rfl⟩)
    ·rw [decide_eq_false (by omega),cond_false]
     have e4:(P.length:Int)+(X.length:Int)=((P.length+X.length:Nat):Int):=by omega
     have:=Y04 hs hc (Zto hs hc f) P X Y Q _ P.length (P.length+X.length) rfl (by omega) (by omega) (by omega) hX hY hl (.inr ⟨by omega,rfl,rfl⟩)
     rw [←e4] at this
     exact this
theorem Y27 (hs:Swo lt)(hc:Z73 lt cmp)(P X Y Q:List Action)(a m b:Int)(ha:a=(P.length:Int))(hm:m=(P.length:Int)+(X.length:Int))(hb:b=(P.length:Int)+(X.length:Int)+(Y.length:Int))(h1:0<X.length)(h2:0<Y.length)(hX:Z1k lt X)(hY:Z1k lt Y)(hl:(P++X++Y++Q).length≤big):
  Zol (P++X++Y++Q) a m b cmp=some (P++srt lt (X++Y)++Q):=
 Zto hs hc Z0v P X Y Q a m b ha hm hb h1 h2 (by have hbig:big=1000000:=rfl;simp only [List.length_append] at hl;unfold Z0v;omega) hX hY hl
end sym
end Go.Proofs.YtinplddjjalohaaGreatDoor.W
namespace Go.Proofs.YtinplddjjalohaaGreatDoor.W
open Go Go.Wb
section ins
variable {lt : Action → Action → Bool} {cmp : Action → Action → Option Int}
theorem Y6a (hc:Z73 lt cmp)(go:List Action→Int→Option (List Action))(i:Int)(P:List Action)(x:Action):∀(R S:List Action) (m:Nat),R.length<m→(P++R.reverse++x::S).length≤big→
  Z93 (P.length:Int) cmp go i m (P++R.reverse++x::S) ((P.length+R.length:Nat):Int)=go (P++(Z0u lt x R).reverse++S) (IntKind.i64.wrap (i+1))
 | [],S,m,h,_=>by
  obtain ⟨m,rfl⟩:∃k,m=k+1:=⟨m - 1,by simp at h;omega⟩
  rw [Z93,decide_eq_false (by simp)]
  simp [opt,Z0u]
 | y::R,S,m,h,hl=>by
  have hbig:big=1000000:=rfl
  simp only [List.length_cons,List.length_append,List.length_reverse] at h hl
  obtain ⟨m,rfl⟩:∃k,m=k+1:=⟨m - 1,by omega⟩
  have e0:P++(y::R).reverse++x::S=(P++R.reverse)++y::(x::S):=by simp
  have ej:IntKind.i64.wrap (((P.length+(y::R).length:Nat):Int) - 1)=((P.length+R.length:Nat):Int):=by rw [wr (by simp only [List.length_cons];omega) (by simp only [List.length_cons];omega)];simp only [List.length_cons];omega
  have g1:∀a b:Action,lget ((P++R.reverse)++a::(b::S)) ((P.length+(y::R).length:Nat):Int)=some b:=fun a b=>by
   have:(P++R.reverse)++a::(b::S)=(P++R.reverse++[a])++b::S:=by simp
   rw [this];exact Z6a _ _ _ _ (by simp)
  have g0:∀a b:Action,lget ((P++R.reverse)++a::(b::S)) ((P.length+R.length:Nat):Int)=some a:=fun a b=>Z6a _ _ _ _ (by simp)
  have s1:∀a b c:Action,List.set ((P++R.reverse)++a::(b::S)) (((P.length+(y::R).length:Nat):Int)).toNat c=(P++R.reverse)++a::(c::S):=fun a b c=>by
   have:(P++R.reverse)++a::(b::S)=(P++R.reverse++[a])++b::S:=by simp
   rw [this,Int.toNat_natCast,Z97 _ _ _ _ _ (by simp)];simp
  have s0:∀a b c:Action,List.set ((P++R.reverse)++a::(b::S)) (((P.length+R.length:Nat):Int)).toNat c=(P++R.reverse)++c::(b::S):=fun a b c=>by
   rw [Int.toNat_natCast,Z97 _ _ _ _ _ (by simp)]
  obtain ⟨c,hc1,hc2⟩:=hc x y
  rw [e0,Z93,decide_eq_true (by simp only [List.length_cons];omega),Z54,g1,Option.bind_some,Z54,ej,g0,Option.bind_some,Z54,hc1,Option.bind_some,Bool.true_and,hc2,Z0u]
  cases lt x y
  ·rw [cond_false,cond_false]
   simp
  ·rw [cond_true,cond_true,Option.bind_some,Option.bind_some,Option.bind_some,s1,g0,Option.bind_some,s0,Y6a hc go i P x R (y::S) m (by omega) (by simp only [List.length_append,List.length_cons,List.length_reverse];omega)]
   simp
theorem Zxm (x:Action)(R:List Action):(Z0u lt x R).length=R.length+1:=by
 induction R with
 | nil=>rfl
 | cons y R ih=>rw [Z0u];cases lt x y<;>simp [ih]
theorem Y01 (hc:Z73 lt cmp)(P Q:List Action):∀(T R:List Action) (m:Nat),T.length<m→(P++R.reverse++T++Q).length≤big→
  Z7z ((P.length+R.length+T.length:Nat):Int) (P.length:Int) cmp m (P++R.reverse++T++Q) ((P.length+R.length:Nat):Int)=some (P++(T.foldl (fun R x=>Z0u lt x R) R).reverse++Q)
 | [],R,m,h,_=>by
  obtain ⟨m,rfl⟩:∃k,m=k+1:=⟨m - 1,by simp at h;omega⟩
  rw [Z7z,decide_eq_false (by simp),cond_false]
  simp
 | x::T,R,m,h,h2=>by
  have hbig:big=1000000:=rfl
  simp only [List.length_cons,List.length_append,List.length_reverse] at h h2
  obtain ⟨m,rfl⟩:∃k,m=k+1:=⟨m - 1,by omega⟩
  have e:IntKind.i64.wrap (((P.length+R.length:Nat):Int)+1)=((P.length+(Z0u lt x R).length:Nat):Int):=by rw [Zxm,wr (by omega) (by omega)];omega
  have hn:P.length+R.length+(x::T).length=P.length+(Z0u lt x R).length+T.length:=by rw [Zxm,List.length_cons];omega
  have e0:P++R.reverse++x::T++Q=P++R.reverse++x::(T++Q):=by simp
  rw [Z7z,decide_eq_true (by simp only [List.length_cons];omega),cond_true,e0,Y6a hc _ _ P x R (T++Q) Z0v (by unfold Z0v;omega) (by simp only [List.length_append,List.length_cons,List.length_reverse];omega),e,hn,
   ←List.append_assoc,Y01 hc P Q T (Z0u lt x R) m (by omega) (by simp only [List.length_append,List.length_reverse,Zxm];omega),List.foldl_cons]
theorem Y13 (hc:Z73 lt cmp)(P L Q:List Action)(a b:Int)(ha:a=(P.length:Int))(hb:b=(P.length:Int)+(L.length:Int))(h:(P++L++Q).length≤big):Zcr (P++L++Q) a b cmp=some (P++srt lt L++Q):=by
 subst ha hb
 have hbig:big=1000000:=rfl
 have h':=h
 simp only [List.length_append] at h'
 unfold Zcr srt
 cases L with
 | nil=>
  rw [wr (by omega) (by omega)]
  obtain ⟨m,hm⟩:∃m,(((P.length:Int)+(([]:List Action).length:Int)) - ((P.length:Int)+1)).toNat+1=m+1:=⟨_,rfl⟩
  rw [hm,Z7z,decide_eq_false (by simp only [List.length_nil];omega),cond_false]
  rfl
 | cons x L=>
  simp only [List.length_cons] at h'
  have:=Y01 hc P Q L [x] ((((P.length:Int)+((x::L).length:Int)) - ((P.length:Int)+1)).toNat+1) (by simp only [List.length_cons];omega) (by simp only [List.length_append,List.length_reverse,List.length_cons,List.length_nil];omega)
  have e1:((P.length+[x].length+L.length:Nat):Int)=(P.length:Int)+((x::L).length:Int):=by simp;omega
  have e2:((P.length+[x].length:Nat):Int)=(P.length:Int)+1:=by simp
  have e3:P++[x].reverse++L++Q=P++x::L++Q:=by simp
  rw [e1,e2,e3] at this
  rw [wr (by omega) (by omega),this]
  rfl
end ins
end Go.Proofs.YtinplddjjalohaaGreatDoor.W
namespace Go.Proofs.YtinplddjjalohaaGreatDoor.W
open Go Go.Wb
section stable
variable {lt : Action → Action → Bool} {cmp : Action → Action → Option Int}
def Z5u (lt:Action→Action→Bool)(s:Nat)(L:List Action):List Action:=
 if h:s=0∨L.length<s then srt lt L else srt lt (L.take s)++Z5u lt s (L.drop s)
termination_by L.length
decreasing_by simp;omega
theorem Zei {s:Nat}{L:List Action}(h:L.length<s):Z5u lt s L=srt lt L:=by rw [Z5u,dif_pos (.inr h)]
theorem Zfm {s:Nat}{A L:List Action}(hA:A.length=s)(h0:0<s):Z5u lt s (A++L)=srt lt A++Z5u lt s L:=by
 subst hA
 rw [Z5u,dif_neg (by rw [List.length_append];omega),List.take_left,List.drop_left]
theorem Yym:srt lt ([]:List Action)=[]:=rfl
theorem Y42 {s:Nat}{L:List Action}(h:L.length≤s)(h0:0<s):Z5u lt s L=srt lt L:=by
 rcases Nat.lt_or_eq_of_le h with h1 | h1
 ·exact Zei h1
 ·have:=Zfm (lt:=lt) (L:=[]) h1 h0
  have e:Z5u lt s []=srt lt []:=Zei (by simpa using h0)
  rw [List.append_nil,e,Yym,List.append_nil] at this
  exact this
theorem Y0v (hs:Swo lt)(s:Nat)(h0:0<s):∀(n:Nat) (L:List Action),L.length≤n→(Z5u lt s L).length=L.length
 | 0,L,h=>by rw [Zei (by omega),Z3p hs]
 | n+1,L,h=>by
  by_cases hl:L.length<s
  ·rw [Zei hl,Z3p hs]
  ·have e:L=L.take s++L.drop s:=(List.take_append_drop ..).symm
   have h1:(L.take s).length=s:=by simp;omega
   rw [e,Zfm h1 h0,List.length_append,Z3p hs,Y0v hs s h0 n (L.drop s) (by simp;omega),List.length_append]
theorem Y0t (hs:Swo lt)(hc:Z73 lt cmp)(n:Nat):∀(k:Nat) (D L:List Action) (f:Nat),L.length≤k→D.length+L.length=n→n≤100000→L.length<f*20→
  Zfb (n:Int) cmp f (D++L) (D.length:Int) ((D.length+20:Nat):Int)=Z9r (n:Int) cmp (((n:Int) - 20).toNat+1) (D++Z5u lt 20 L) 20
 | k,D,L,0,_,_,_,h=>by omega
 | k,D,L,f+1,hk,hn,hb,hf=>by
  have hbig:big=1000000:=rfl
  rw [Zfb]
  by_cases hl:L.length<20
  ·have:=Y13 hc D L [] (D.length:Int) (n:Int) rfl (by omega) (by simp only [List.length_append,List.length_nil];omega)
   simp only [List.append_nil] at this
   rw [decide_eq_false (by omega),cond_false,this,Option.bind_some,Zei hl]
  ·obtain ⟨k,rfl⟩:∃j,k=j+1:=⟨k - 1,by omega⟩
   have e:L=L.take 20++L.drop 20:=(List.take_append_drop ..).symm
   have h1:(L.take 20).length=20:=by simp;omega
   have h2:(L.drop 20).length=L.length - 20:=by simp
   generalize L.take 20=A at*
   generalize L.drop 20=B at*
   subst e
   have:=Y13 hc D A B (D.length:Int) ((D.length+20:Nat):Int) rfl (by omega) (by simp only [List.length_append] at hn ⊢;omega)
   have e20:IntKind.i64.wrap (((D.length+20:Nat):Int)+20)=(((D++srt lt A).length+20:Nat):Int):=by rw [wr (by omega) (by omega),List.length_append,Z3p hs];omega
   have e21:((D.length+20:Nat):Int)=((D++srt lt A).length:Int):=by rw [List.length_append,Z3p hs];omega
   simp only [List.length_append] at hn hl hf hk
   rw [decide_eq_true (by omega),cond_true,←List.append_assoc,this,Option.bind_some,e20,e21,
    Y0t hs hc n k (D++srt lt A) B f (by omega) (by simp only [List.length_append,Z3p hs];omega) hb (by omega),Zfm h1 (by omega)]
   simp
theorem Y36 (hs:Swo lt)(hc:Z73 lt cmp)(go:List Action→Int→Option (List Action))(n s:Nat)(hs0:0<s)(hs1:s≤100000):∀(k:Nat) (D L:List Action) (f:Nat),L.length≤k→D.length+L.length=n→n≤100000→L.length<f*(2*s)→
  Zg3 (n:Int) (s:Int) cmp go f (D++Z5u lt s L) (D.length:Int) ((D.length+2*s:Nat):Int)=go (D++Z5u lt (2*s) L) ((2*s:Nat):Int)
 | k,D,L,0,_,_,_,h=>by omega
 | k,D,L,f+1,hk,hn,hb,hf=>by
  have hbig:big=1000000:=rfl
  rw [Zg3]
  have em:IntKind.i64.wrap ((D.length:Int)+(s:Int))=((D.length+s:Nat):Int):=by rw [wr (by omega) (by omega)];omega
  have eg:IntKind.i64.wrap ((s:Int)*2)=((2*s:Nat):Int):=by rw [wr (by omega) (by omega)];omega
  by_cases hl:L.length<2*s
  ·rw [decide_eq_false (by omega),cond_false,em,eg,Zei hl]
   by_cases hl2:s<L.length
   ·have e:L=L.take s++L.drop s:=(List.take_append_drop ..).symm
    have h1:(L.take s).length=s:=by simp;omega
    have h2:(L.drop s).length=L.length - s:=by simp
    generalize L.take s=A at*
    generalize L.drop s=B at*
    subst e
    simp only [List.length_append] at hn hl hl2
    rw [Zfm h1 hs0,Zei (by omega)]
    have:=Y27 hs hc D (srt lt A) (srt lt B) [] (D.length:Int) ((D.length+s:Nat):Int) (n:Int) rfl (by rw [Z3p hs];omega) (by rw [Z3p hs,Z3p hs];omega) (by rw [Z3p hs];omega) (by rw [Z3p hs];omega) (Za2 hs _) (Za2 hs _)
     (by simp only [List.length_append,Z3p hs,List.length_nil];omega)
    simp only [List.append_nil,List.append_assoc] at this
    rw [decide_eq_true (by omega),cond_true,this,Option.bind_some,Y9q hs]
   ·rw [decide_eq_false (by omega),cond_false,Y42 (by omega) hs0]
  ·obtain ⟨k,rfl⟩:∃j,k=j+1:=⟨k - 1,by omega⟩
   have e:L=L.take s++((L.drop s).take s++(L.drop s).drop s):=by rw [List.take_append_drop,List.take_append_drop]
   have h1:(L.take s).length=s:=by simp;omega
   have h2:((L.drop s).take s).length=s:=by simp;omega
   have h3:((L.drop s).drop s).length=L.length - 2*s:=by simp;omega
   generalize L.take s=A at*
   generalize (L.drop s).take s=B at*
   generalize (L.drop s).drop s=E at*
   subst e
   simp only [List.length_append] at hn hl hk hf
   have hf':E.length<f*(2*s):=by rw [Nat.add_mul] at hf;omega
   have hE:=Y0v hs s hs0 E.length E (Nat.le_refl _)
   have:=Y27 hs hc D (srt lt A) (srt lt B) (Z5u lt s E) (D.length:Int) ((D.length+s:Nat):Int) ((D.length+2*s:Nat):Int) rfl (by rw [Z3p hs];omega) (by rw [Z3p hs,Z3p hs];omega) (by rw [Z3p hs];omega) (by rw [Z3p hs];omega) (Za2 hs _) (Za2 hs _)
    (by simp only [List.length_append,Z3p hs,hE];omega)
   have e2:D++Z5u lt s (A++(B++E))=D++srt lt A++srt lt B++Z5u lt s E:=by rw [Zfm h1 hs0,Zfm h2 hs0];simp
   have e3:IntKind.i64.wrap (((D.length+2*s:Nat):Int)+IntKind.i64.wrap (2*(s:Int)))=(((D++srt lt (A++B)).length+2*s:Nat):Int):=by
    rw [wr (n:=2*(s:Int)) (by omega) (by omega),wr (by omega) (by omega),List.length_append,Z3p hs,List.length_append];omega
   have e4:((D.length+2*s:Nat):Int)=((D++srt lt (A++B)).length:Int):=by rw [List.length_append,Z3p hs,List.length_append];omega
   rw [decide_eq_true (by omega),cond_true,em,e2,this,Option.bind_some,Y9q hs,e3,e4,
    Y36 hs hc go n s hs0 hs1 k (D++srt lt (A++B)) E f (by omega) (by simp only [List.length_append,Z3p hs];omega) hb hf']
   have e5:A++(B++E)=(A++B)++E:=by simp
   rw [e5,Zfm (by simp;omega) (by omega)]
   simp
theorem Y7g (hs:Swo lt)(hc:Z73 lt cmp)(L:List Action)(hb:L.length≤100000):∀(f s:Nat),0<f→0<s→s≤200000→L.length<f+s→
  Z9r (L.length:Int) cmp f (Z5u lt s L) (s:Int)=some (srt lt L)
 | 0,s,hf,h0,h1,h2=>by omega
 | f+1,s,hf,h0,h1,h2=>by
  rw [Z9r]
  by_cases hl:s<L.length
  ·have e2:IntKind.i64.wrap (2*(s:Int))=((2*s:Nat):Int):=by rw [wr (by omega) (by omega)];omega
   have:=Y36 hs hc (Z9r (L.length:Int) cmp f) L.length s h0 (by omega) L.length [] L ((((L.length:Int):Int) - ((2*s:Nat):Int)).toNat+2) (Nat.le_refl _) (by simp) hb (by
    have h3:L.length<(L.length - 2*s+2)*(2*s):=by
     have:L.length - 2*s+2≤(L.length - 2*s+2)*(2*s):=Nat.le_mul_of_pos_right _ (by omega)
     by_cases hc:L.length<2*s
     ·have:2*(2*s)≤(L.length - 2*s+2)*(2*s):=Nat.mul_le_mul_right _ (by omega)
      omega
     ·have e:(L.length - 2*s+2)*(2*s)=(L.length - 2*s+1)*(2*s)+2*s:=by rw [show L.length - 2*s+2=(L.length - 2*s+1)+1 from rfl,Nat.add_mul,Nat.one_mul]
      have:L.length - 2*s+1≤(L.length - 2*s+1)*(2*s):=Nat.le_mul_of_pos_right _ (by omega)
      omega
    have e:(((L.length:Int):Int) - ((2*s:Nat):Int)).toNat+2=L.length - 2*s+2:=by omega
    rw [e];exact h3)
   simp only [List.nil_append,List.length_nil,Nat.zero_add] at this
   rw [decide_eq_true (by omega),cond_true,e2]
   have e0:((0:Nat):Int)=0:=rfl
   rw [e0] at this
   rw [this,Y7g hs hc L hb f (2*s) (by omega) (by omega) (by omega) (by omega)]
  ·rw [decide_eq_false (by omega),cond_false,Y42 (by omega) h0]
theorem Yxt (hs:Swo lt)(hc:Z73 lt cmp)(L:List Action)(hb:L.length≤100000):Zey L cmp=some (srt lt L):=by
 unfold Zey Zk1
 have h1:=Y0t hs hc L.length L.length [] L ((((L.length:Int):Int) - 20).toNat+2) (Nat.le_refl _) (by simp) hb (by omega)
 have h2:=Y7g hs hc L hb ((((L.length:Int):Int) - 20).toNat+1) 20 (by omega) (by omega) (by omega) (by omega)
 simp only [List.nil_append,List.length_nil,Nat.zero_add] at h1
 have e0:((0:Nat):Int)=0:=rfl
 have e20:((20:Nat):Int)=20:=rfl
 rw [e0,e20] at h1
 rw [e20] at h2
 rw [h1,h2];rfl
end stable
end Go.Proofs.YtinplddjjalohaaGreatDoor.W
namespace Go.Proofs.YtinplddjjalohaaGreatDoor.W
open Go Go.Wb
def Z21 (a b:Wide):Wide:=⟨a.Hi&&& b.Hi,a.Lo&&& b.Lo⟩
def wor (a b:Wide):Wide:=⟨a.Hi||| b.Hi,a.Lo||| b.Lo⟩
def Z6w (a b:Wide):Wide:=⟨a.Hi ^^^ b.Hi,a.Lo ^^^ b.Lo⟩
def Z3e (a b:Wide):Wide:=⟨a.Hi&&& ~~~b.Hi,a.Lo&&& ~~~b.Lo⟩
def wt (a:Wide)(i:Nat):Bool:=bif Nat.blt i 64 then a.Lo.getLsbD i else a.Hi.getLsbD (i - 64)
def Z56 (i:Nat):Wide:=bif Nat.blt i 64 then ⟨0,1#64<<<i⟩ else ⟨1#64<<<(i - 64),0⟩
theorem Za9 {i n:Nat}(h:i<n):Nat.blt i n=true:=by simpa using h
theorem Zb7 {i n:Nat}(h:¬i<n):Nat.blt i n=false:=by
 cases hb:Nat.blt i n
 ·rfl
 ·exact absurd (by simpa using hb) h
theorem Zb0 {a b:Wide}(h:∀i,i<128→wt a i=wt b i):a=b:=by
 obtain ⟨ah,al⟩:=a
 obtain ⟨bh,bl⟩:=b
 have h1:ah=bh:=BitVec.eq_of_getLsbD_eq fun i hi=>by
  have:=h (i+64) (by omega)
  unfold wt at this
  rw [Zb7 (by omega)] at this
  simpa using this
 have h2:al=bl:=BitVec.eq_of_getLsbD_eq fun i hi=>by
  have:=h i (by omega)
  unfold wt at this
  rw [Za9 (by omega)] at this
  simpa using this
 rw [h1,h2]
theorem Z3j (a b:Wide)(i:Nat):wt (Z21 a b) i=(wt a i&&wt b i):=by
 unfold wt Z21
 cases Nat.blt i 64<;>simp
theorem Z66 (a b:Wide)(i:Nat):wt (wor a b) i=(wt a i||wt b i):=by
 unfold wt wor
 cases Nat.blt i 64<;>simp
theorem Zem (a b:Wide)(i:Nat):wt (Z6w a b) i=(wt a i !=wt b i):=by
 unfold wt Z6w
 cases Nat.blt i 64<;>simp
theorem Z5y (a b:Wide)(i:Nat)(h:i<128):wt (Z3e a b) i=(wt a i&& !wt b i):=by
 unfold wt Z3e
 by_cases hi:i<64
 ·rw [Za9 hi];simp [hi]
 ·rw [Zb7 hi];simp [show i - 64<64 by omega]
theorem Zd4 (i:Nat):wt Z0s i=false:=by
 unfold wt Z0s
 cases Nat.blt i 64<;>simp
theorem Zj9 (i j:Nat)(hi:i<128)(hj:j<128):wt (Z56 i) j=decide (i=j):=by
 unfold wt Z56
 by_cases h1:i<64
 ·rw [Za9 h1,cond_true]
  by_cases h2:j<64
  ·rw [Za9 h2,cond_true,BitVec.getLsbD_shiftLeft]
   by_cases e:i=j
   ·subst e;simp [h2]
   ·simp [h2,e,BitVec.getLsbD_one];omega
  ·rw [Zb7 h2,cond_false]
   have:i≠j:=by omega
   simp [this]
 ·rw [Zb7 h1,cond_false]
  by_cases h2:j<64
  ·rw [Za9 h2,cond_true]
   have:i≠j:=by omega
   simp [this]
  ·rw [Zb7 h2,cond_false,BitVec.getLsbD_shiftLeft]
   by_cases e:i=j
   ·subst e;simp [show i - 64<64 by omega]
   ·simp [show j - 64<64 by omega,e,BitVec.getLsbD_one];omega
def Z3m (a:Wide):Bool:=decide ((a.Hi||| a.Lo)=(0:BitVec 64))
theorem Zb6 (a:Wide):Z3m a=true↔ ∀i,i<128→wt a i=false:=by
 unfold Z3m
 rw [decide_eq_true_eq]
 constructor
 ·intro h i hi
  have hb:∀j,(a.Hi.getLsbD j||a.Lo.getLsbD j)=false:=fun j=>by rw [←BitVec.getLsbD_or,h];simp
  unfold wt
  by_cases h1:i<64
  ·rw [Za9 h1,cond_true]
   have:=hb i
   simp only [Bool.or_eq_false_iff] at this
   exact this.2
  ·rw [Zb7 h1,cond_false]
   have:=hb (i - 64)
   simp only [Bool.or_eq_false_iff] at this
   exact this.1
 ·intro h
  apply BitVec.eq_of_getLsbD_eq
  intro j hj
  have h1:=h j (by omega)
  have h2:=h (j+64) (by omega)
  unfold wt at h1 h2
  rw [Za9 hj] at h1
  rw [Zb7 (by omega)] at h2
  simp at h1 h2
  simp [h1,h2]
theorem Yme (a:Wide):Z3m a=decide (a=Z0s):=by
 rw [Bool.eq_iff_iff,Zb6,decide_eq_true_eq]
 constructor
 ·intro h
  exact Zb0 fun i hi=>by rw [h i hi,Zd4]
 ·rintro rfl i _
  exact Zd4 i
theorem Yry {a:Wide}:Z3m a=false↔ ∃i,i<128∧wt a i=true:=by
 rw [←Bool.not_eq_true,Zb6]
 constructor
 ·intro h
  apply Classical.byContradiction
  intro hn
  exact h fun i hi=>by
   cases hw:wt a i
   ·rfl
   ·exact absurd ⟨i,hi,hw⟩ hn
 ·rintro ⟨i,hi,hw⟩ h
  rw [h i hi] at hw;cases hw
theorem Y2x (a:Wide)(i:Nat)(h:i<128):(!Z3m (Z21 a (Z56 i)))=wt a i:=by
 cases hw:wt a i
 ·have:Z3m (Z21 a (Z56 i))=true:=by
   rw [Zb6]
   intro j hj
   rw [Z3j,Zj9 i j h hj]
   by_cases e:i=j
   ·subst e;rw [hw];rfl
   ·simp [e]
  rw [this];rfl
 ·have:Z3m (Z21 a (Z56 i))=false:=by
   rw [Yry]
   exact ⟨i,h,by rw [Z3j,Zj9 i i h h,hw];simp⟩
  rw [this];rfl
theorem Zrp (x:BitVec 64)(n:Nat):Zae x (n:Int)=some (x<<<n):=by
 unfold Zae
 rw [decide_eq_false (by omega)]
 simp
theorem Ydo (x:BitVec 64)(n:Nat):Z43 x (n:Int)=some (x>>>n):=by
 unfold Z43
 rw [decide_eq_false (by omega)]
 simp
theorem Yck (a b:Wide):Zc1 a b=some (Z21 a b):=rfl
theorem Zy7 (a b:Wide):Z9c a b=some (wor a b):=rfl
theorem Zox (a b:Wide):Zas a b=some (Z3e a b):=rfl
theorem Zy9 (i:Nat)(h:i<128):Zcc (i:Int)=some (Z56 i):=by
 unfold Zcc
 have h1:(decide ((i:Int)<0)||decide ((i:Int)>127))=false:=by simp;omega
 have hq:Zhg .i64 (i:Int) 64=some ((i / 64:Nat):Int):=by
  unfold Zhg
  rw [decide_eq_false (by decide)]
  show some (IntKind.i64.wrap ((i / 64:Nat):Int))=_
  rw [Z2w (by omega) (by omega)]
 have hm:Zb8 (i:Int) 64=some ((i % 64:Nat):Int):=Yuz i 64 (by omega)
 rw [h1,cond_false,hq,Option.bind_some,hm,Option.bind_some,Zrp,Option.bind_some,Z2m (by omega),Option.bind_some]
 unfold Z56
 by_cases h2:i<64
 ·rw [Za9 h2,cond_true]
  have e1:i / 64=0:=by omega
  have e2:i % 64=i:=by omega
  simp only [e1,e2]
  rfl
 ·rw [Zb7 h2,cond_false]
  have e1:i / 64=1:=by omega
  have e2:i % 64=i - 64:=by omega
  simp only [e1,e2]
  rfl
abbrev Cube:=Vector Tern 24
abbrev Header:=Vector Wide 24
def Z10 (t:Tern):Tern:=⟨Z21 t.Value t.Mask,t.Mask⟩
theorem Zr4 (t:Tern):Z83 t=some (Z10 t):=rfl
def Z1d (c:Cube):Cube:=Vector.ofFn fun i=>Z10 (ve c i.1)
theorem Z8a (c:Cube)(i:Nat)(h:i<24):ve (Z1d c) i=Z10 (ve c i):=Z81 (fun i=>Z10 (ve c i)) i h
theorem Yuc (t:Tern):Z10 (Z10 t)=Z10 t:=by
 unfold Z10
 congr 1
 exact Zb0 fun i hi=>by simp only [Z3j];cases wt t.Value i<;>cases wt t.Mask i<;>rfl
def Z3g (a b:Tern):Tern:=⟨wor (Z3e (Z10 a).Value b.Mask) (Z10 b).Value,wor a.Mask b.Mask⟩
theorem Yav (a b:Tern):Zjx a b=some (Z3g a b):=rfl
def Za1 (a b:Cube):Cube:=Vector.ofFn fun i=>Z3g (ve a i.1) (ve b i.1)
theorem Zvb (a b:Cube)(i:Nat)(h:i<24):ve (Za1 a b) i=Z3g (ve a i) (ve b i):=Z81 (fun i=>Z3g (ve a i) (ve b i)) i h
theorem Y4u (f:Int→Option Tern)(g:Nat→Tern)(hf:∀i:Nat,i<24→f (i:Int)=some (g i))(b:Cube):∀(m i:Nat),i+m=24→Zax f m i (Z3b g b i)=some (Vector.ofFn (fun i=>g i.1))
 | 0,i,h=>by
  have:i=24:=by omega
  subst this
  rw [Zax,Z9w]
 | m+1,i,h=>by
  rw [Zax,hf i (by omega),Option.bind_some,Z2m (by omega),Option.bind_some]
  show Zax f m (i+1) (Vector.set (Z3b g b i) i (g i) _)=_
  rw [Z9j g b i (by omega),Y4u f g hf b m (i+1) (by omega)]
theorem Y3y (f:Int→Option Tern)(g:Nat→Tern)(hf:∀i:Nat,i<24→f (i:Int)=some (g i)):Zh0 f=some (Vector.ofFn (fun i=>g i.1)):=by
 unfold Zh0
 have:=Y4u f g hf (Vector.replicate 24 zTern) 24 0 rfl
 rw [Z9u] at this
 exact this
theorem Yag (r:Cube):Zgm r=some (Z1d r):=by
 unfold Zgm
 rw [Y3y (fun x=>Zgx x r) (fun i=>Z10 (ve r i)) (fun i hi=>by unfold Zgx;rw [Z2m hi,Option.bind_some,Z36,Zr4];rfl)]
 rfl
def Z31 (r:Cube)(h:Header):Header:=Vector.ofFn fun f=>wor (Z3e (ve h f.1) (ve r f.1).Mask) (Z21 (ve r f.1).Value (ve r f.1).Mask)
theorem Z8n (r:Cube)(h:Header)(f:Nat)(hf:f<24):ve (Z31 r h) f=wor (Z3e (ve h f) (ve r f).Mask) (Z21 (ve r f).Value (ve r f).Mask):=Z81 (fun f=>wor (Z3e (ve h f) (ve r f).Mask) (Z21 (ve r f).Value (ve r f).Mask)) f hf
theorem Y2b (r:Cube)(h:Header):∀(l:List Tern) (i:Nat),i+l.length=24→l=(Vector.toList r).drop i→Zcd l i (Z3b (fun f=>wor (Z3e (ve h f) (ve r f).Mask) (Z21 (ve r f).Value (ve r f).Mask)) h i)=some (Z31 r h)
 | [],i,h1,h2=>by
  have:i=24:=by simpa using h1
  subst this
  rw [Zcd,Z9w];rfl
 | x::l,i,h1,h2=>by
  simp only [List.length_cons] at h1
  have hi:i<(Vector.toList r).length:=by simp;omega
  rw [List.drop_eq_getElem_cons hi] at h2
  obtain ⟨rfl,h3⟩:=List.cons.inj h2
  have hx:(Vector.toList r)[i]=ve r i:=by rw [Vector.getElem_toList,Z7b _ _ (by omega)]
  rw [Zcd,hx,Z2m (by omega),Option.bind_some,Z36,Zox,Option.bind_some,Yck,Option.bind_some,Zy7,Option.bind_some,Option.bind_some,Zc7 _ _ _ _ (by omega),if_neg (by omega)]
  have:=Z9j (fun f=>wor (Z3e (ve h f) (ve r f).Mask) (Z21 (ve r f).Value (ve r f).Mask)) h i (by omega)
  rw [this]
  exact Y2b r h l (i+1) (by omega) h3
theorem Ybr (r:Cube)(h:Header):Zfv r h=some (Z31 r h):=by
 unfold Zfv
 have:=Y2b r h (Vector.toList r) 0 (by simp) rfl
 rw [Z9u] at this
 exact this
def Z5z (r:Cube)(f:Int)(v m:Wide):Cube:=bif decide (f≥0)&&decide (f<24) then Vector.ofFn fun i=>if f.toNat=i.1 then Z3g (ve (Z1d r) f.toNat) ⟨v,m⟩ else ve (Z1d r) i.1 else Z1d r
theorem Zjm (r:Cube)(f:Int)(v m:Wide):Z9x r f v m=some (Z5z r f v m):=by
 unfold Z9x Z5z Z9v
 rw [Yag,Option.bind_some,Option.bind_some]
 cases hc:(decide (f≥0)&&decide (f<24))
 ·rfl
 ·simp only [Bool.and_eq_true,decide_eq_true_eq] at hc
  obtain ⟨n,rfl⟩:∃n:Nat,f=(n:Int):=⟨f.toNat,by omega⟩
  have hn:n<24:=by omega
  have e:Vector.set (Z1d r) n (Z3g (ve (Z1d r) n) ⟨v,m⟩) hn=Vector.ofFn fun i:_root_.Fin 24=>if n=i.1 then Z3g (ve (Z1d r) n) ⟨v,m⟩ else ve (Z1d r) i.1:=Z80 fun j hj=>by
   rw [Zn4 _ _ _ _ _ hj]
   exact (Z81 (fun i=>if n=i then Z3g (ve (Z1d r) n) ⟨v,m⟩ else ve (Z1d r) i) j hj).symm
  rw [cond_true,cond_true,Z2m hn,Option.bind_some,Z36,Yav,Option.bind_some,Option.bind_some,Int.toNat_natCast]
  exact congrArg some e
theorem Y58 (n:Int):∃x,Zhl n=some x:=by
 unfold Zhl
 cases decide (n≥64)
 ·have h0:0≤Z2r n 0:=by
   unfold Z2r
   by_cases h:(0:Int)>n
   ·simp [h]
   ·simp [h];omega
  obtain ⟨k,hk⟩:∃k:Nat,Z2r n 0=(k:Int):=⟨(Z2r n 0).toNat,by omega⟩
  rw [cond_false,hk,Zrp]
  exact ⟨_,rfl⟩
 ·exact ⟨_,rfl⟩
def Zce (n:Int):Wide:=(Zar n).getD Z0s
theorem Zvm (n:Int):Zar n=some (Zce n):=by
 obtain ⟨x,hx⟩:=Y58 (IntKind.i64.wrap ((Z5w (Z2r n 0) 128) - 64))
 obtain ⟨y,hy⟩:=Y58 (Z5w (Z2r n 0) 128)
 have:Zar n=some ⟨x,y⟩:=by unfold Zar;rw [hx,Option.bind_some,hy];rfl
 unfold Zce
 rw [this];rfl
def Zi2 (n:Int):Int:=(Zf4 n).getD 0
theorem Ytp:∃v,Zma=some v:=by unfold Zma;exact ⟨_,rfl⟩
theorem Yps (n:Int):Zf4 n=some (Zi2 n):=by
 have:∃x,Zf4 n=some x:=by
  unfold Zf4 Zro Z9v
  rw [Option.bind_some]
  cases hc:(decide (n≥0)&&decide (n<24))
  ·exact ⟨_,rfl⟩
  ·simp only [Bool.and_eq_true,decide_eq_true_eq] at hc
   obtain ⟨k,rfl⟩:∃k:Nat,n=(k:Int):=⟨n.toNat,by omega⟩
   obtain ⟨v,hv⟩:=Ytp
   rw [Bool.not_true,cond_false,hv,Option.bind_some,Z29 (by simp;omega),Option.bind_some,Option.bind_some]
   exact ⟨_,rfl⟩
 obtain ⟨x,hx⟩:=this
 unfold Zi2
 rw [hx];rfl
def oxT (o:Oxm):Tern:=bif decide (o.Field≥0)&&decide (o.Field<24) then (bif o.Masked then ⟨o.Value,o.Mask⟩ else ⟨o.Value,Zce (Zi2 o.Field)⟩) else ⟨Z0s,Z0s⟩
theorem Y84 (o:Oxm):Zga o=some (oxT o):=by
 unfold Zga oxT Z9v
 rw [Option.bind_some]
 cases decide (o.Field≥0)&&decide (o.Field<24)
 ·rfl
 ·rw [Bool.not_true,cond_false,cond_true]
  cases o.Masked
  ·rw [cond_false,cond_false,Yps,Option.bind_some,Zvm];rfl
  ·rfl
def Z2a:Cube:=Vector.replicate 24 zTern
def Zbw (a:Action):Cube:=
 bif decide (a.Kind=25) then Z5z Z2a a.Oxm.Field (oxT a.Oxm).Value (oxT a.Oxm).Mask
 else bif decide (a.Kind=17) then Z5z Z2a 5 (Z56 12) (Z56 12)
 else bif decide (a.Kind=18) then Z5z (Z5z Z2a 5 ⟨0,0⟩ (Zce 13)) 6 ⟨0,0⟩ (Zce 3)
 else Z2a
theorem Y32 (a:Action):Zgn a=some (Zbw a):=by
 unfold Zgn Zbw
 rw [show Zby=some Z2a from rfl,Option.bind_some]
 cases decide (a.Kind=25)
 ·rw [cond_false,cond_false]
  cases decide (a.Kind=17)
  ·rw [cond_false,cond_false]
   cases decide (a.Kind=18)
   ·rfl
   ·rw [cond_true,cond_true,Zvm,Option.bind_some,Zjm,Option.bind_some,Zvm,Option.bind_some,Zjm];rfl
  ·rw [cond_true,cond_true,show (12:Int)=((12:Nat):Int) from rfl,Zy9 12 (by decide),Option.bind_some,Option.bind_some,Zjm];rfl
 ·rw [cond_true,cond_true,Y84,Option.bind_some,Zjm];rfl
def Ziz (a:Action):Int:=bif decide (a.Port=4294967293) then a.Max else 0
theorem Yud (a:Action):Zlk a=some (Ziz a):=by
 unfold Zlk Ziz
 cases decide (a.Port=4294967293)<;>rfl
theorem Y5v {α:Type}(p:α→Bool):∀l:List α,0≤Z0f p l→(l.take ((Z0f p l).toNat+1)).filter (fun x=> !p x)=l.take (Z0f p l).toNat
 | [],h=>by simp [Z0f] at h
 | x::l,h=>by
  unfold Z0f at h ⊢
  cases hp:p x
  ·rw [hp] at h
   by_cases h':Z0f p l<0
   ·simp [h'] at h
   ·simp only [cond_false,decide_eq_false h']
    have e:(Z0f p l+1).toNat=(Z0f p l).toNat+1:=by omega
    rw [e,List.take_succ_cons,List.take_succ_cons,List.filter_cons_of_pos (by simp [hp]),Y5v p l (by omega)]
  ·simp [hp]
theorem Ydg {α:Type}(p:α→Bool)(l:List α)(h:Z0f p l<0):l.filter (fun x=> !p x)=l:=by
 rw [List.filter_eq_self]
 intro x hx
 rw [Y2k p l h x hx];rfl
theorem Zsp {α:Type}(p:α→Bool):∀l:List α,(Z0f p l<0∧l.find? p=none)∨∃n:Nat,Z0f p l=(n:Int)∧∃h:n<l.length,l.find? p=some l[n]∧p l[n]=true
 | []=> .inl ⟨by simp [Z0f],rfl⟩
 | x::l=>by
  unfold Z0f
  cases hp:p x
  ·rw [cond_false,List.find?_cons_of_neg (by simp [hp])]
   rcases Zsp p l with ⟨h1,h2⟩ | ⟨n,h1,h2,h3,h4⟩
   ·left;rw [decide_eq_true h1];exact ⟨by show (-1:Int)<0;decide,h2⟩
   ·right
    rw [decide_eq_false (by omega)]
    exact ⟨n+1,by show Z0f p l+1=_;omega,by simp;omega,by simpa using h3,by simpa using h4⟩
  ·right
   exact ⟨0,rfl,by simp,by rw [List.find?_cons_of_pos hp];rfl,hp⟩
theorem Zyh (s:List Action)(f:Action→Option Bool)(p:Action→Bool)(hf:∀x∈s,f x=some (p x)):Zdo s f=some (Z0f p s):=by
 unfold Zdo
 rw [show ((s.length:Int)).toNat=s.length by omega]
 exact Zde p (fun i=>by rw [Zed]) (fun m i=>by rw [Zed]) hf
theorem Ybz (s:List Group)(f:Group→Option Bool)(p:Group→Bool)(hf:∀x∈s,f x=some (p x)):Zgu s f=some (Z0f p s):=by
 unfold Zgu
 rw [show ((s.length:Int)).toNat=s.length by omega]
 exact Zde p (fun i=>by rw [Zdi]) (fun m i=>by rw [Zdi]) hf
theorem Ybg (s:List Bucket)(f:Bucket→Option Bool)(p:Bucket→Bool)(hf:∀x∈s,f x=some (p x)):Zhz s f=some (Z0f p s):=by
 unfold Zhz
 rw [show ((s.length:Int)).toNat=s.length by omega]
 exact Zde p (fun i=>by rw [Zdt]) (fun m i=>by rw [Zdt]) hf
theorem Ybi (s:List Int)(v:Int):Zhi s v=some (Z0f (fun x=>decide (v=x)) s):=by
 unfold Zhi
 rw [show ((s.length:Int)).toNat=s.length by omega]
 exact Zde (f:=fun x=>some (decide (v=x))) (fun x=>decide (v=x)) (fun i=>by rw [Zew]) (fun m i=>by rw [Zew];rfl) (fun _ _=>rfl)
theorem Yqa (s:List Int)(v:Int):Zmg s v=some (s.contains v):=by
 unfold Zmg;rw [Ybi,Option.bind_some,Za3]
 congr 1
 rw [Bool.eq_iff_iff,List.any_eq_true,List.contains_iff_mem]
 simp
theorem Yqd (e:Env)(n:Int):Zkw e n=some (!e.Down.contains n):=by
 unfold Zkw;rw [Yqa];rfl
theorem Y5j (s:List Action)(f:Action→Option Bool)(p:Action→Bool)(hf:∀x∈s,f x=some (p x))(hl:s.length≤lim):Zls s f=some (s.filter (fun x=> !p x)):=by
 have hlim:lim=4294967296:=rfl
 unfold Zls
 rw [Zyh s f p hf,Option.bind_some]
 by_cases h:Z0f p s<0
 ·have:=Zdr p s
  rw [decide_eq_true (by omega),cond_true,Ydg p s h]
 ·have hlt:=Zi6 p s
  rw [decide_eq_false (by omega),cond_false,Z2w (by omega) (by omega)]
  have key:=Ysd (z:=Zsm) (G:=Zeh f) (s:=s) (f:=f) p (fun m l i j=>by rw [Zeh]) hf hl (((s.length:Int) - (Z0f p s+1)).toNat+1) s (Z0f p s).toNat ((Z0f p s).toNat+1) (by omega) (by omega) (by omega) rfl rfl (Y5v p s (by omega)).symm
  rw [show ((Z0f p s).toNat:Int)=Z0f p s by omega,show (((Z0f p s).toNat+1:Nat):Int)=Z0f p s+1 by omega] at key
  exact key
theorem Y87 (s:List Action)(f:Action→Option Bool)(p:Action→Bool)(hf:∀x∈s,f x=some (p x)):Zln s f=some (s.any p):=by
 unfold Zln;rw [Zyh s f p hf,Option.bind_some,Za3]
def Z07 (a:Action):aset_spot:=bif decide (a.Kind=25) then ⟨a.Kind,a.Oxm.Field⟩ else ⟨a.Kind,0⟩
theorem Zqq (a:Action):Zd8 a=some (Z07 a):=by
 unfold Zd8 Z07
 cases decide (a.Kind=25)<;>rfl
theorem Zgf (a:Action):(Z07 a).kind=a.Kind:=by
 unfold Z07
 cases decide (a.Kind=25)<;>rfl
theorem Yi1 (b c:Action):Ze1 b c=some (decide (Z07 c=Z07 b)):=by
 unfold Ze1
 rw [Zqq,Option.bind_some,Zqq];rfl
def wr1 (l:List Action)(x:Action):List Action:=bif decide (Z0f (fun b=>decide (Z07 x=Z07 b)) l<0) then l++[x] else l.set (Z0f (fun b=>decide (Z07 x=Z07 b)) l).toNat x
theorem Zw8 (l:List Action)(x:Action):(wr1 l x).length≤l.length+1:=by
 unfold wr1
 cases decide (Z0f (fun b=>decide (Z07 x=Z07 b)) l<0)<;>simp
theorem Zvj:∀(l:List Action) (i:Nat) (acc:List Action),acc.length+l.length≤lim→Zbh l i acc=some (l.foldl wr1 acc)
 | [],i,acc,_=>by rw [Zbh];rfl
 | x::l,i,acc,h=>by
  simp only [List.length_cons] at h
  have hw:=Zw8 acc x
  rw [Zbh,Zyh acc (fun y=>Ze1 y x) (fun b=>decide (Z07 x=Z07 b)) (fun y _=>Yi1 y x),Option.bind_some,List.foldl_cons]
  have hi:=Zi6 (fun b=>decide (Z07 x=Z07 b)) acc
  by_cases hc:Z0f (fun b=>decide (Z07 x=Z07 b)) acc<0
  ·rw [decide_eq_true hc,cond_true,Z1p (by simp;omega),Option.bind_some,Zvj l (i+1) _ (by simp;omega)]
   unfold wr1
   rw [decide_eq_true hc,cond_true]
  ·obtain ⟨n,hn⟩:∃n:Nat,Z0f (fun b=>decide (Z07 x=Z07 b)) acc=(n:Int):=⟨(Z0f (fun b=>decide (Z07 x=Z07 b)) acc).toNat,by omega⟩
   rw [decide_eq_false hc,cond_false,hn,Z29 (by omega),Option.bind_some,Zvj l (i+1) _ (by simp;omega)]
   unfold wr1
   rw [decide_eq_false hc,cond_false,hn]
theorem Zx5 (s l:List Action)(h:s.length+l.length≤lim):Ze3 s l=some (l.foldl wr1 s):=by
 unfold Ze3 Z7l
 rw [Z1p (by simp;omega),Option.bind_some,List.nil_append,Zvj l 0 s h]
theorem Zsr:∀(l s:List Action),(l.foldl wr1 s).length≤s.length+l.length
 | [],s=>by simp
 | x::l,s=>by
  have h1:=Zsr l (wr1 s x)
  have h2:=Zw8 s x
  rw [List.foldl_cons,List.length_cons];omega
theorem Yo6 (l:List Action)(x:Action)(h:(l.map Z07).Nodup):((wr1 l x).map Z07).Nodup:=by
 unfold wr1
 rcases Zsp (fun b=>decide (Z07 x=Z07 b)) l with ⟨h1,h2⟩ | ⟨n,h1,h2,h3,h4⟩
 ·rw [decide_eq_true h1,cond_true,List.map_append,List.nodup_append]
  refine ⟨h,by simp,?_⟩
  intro a ha b hb e
  simp only [List.map_cons,List.map_nil,List.mem_singleton] at hb
  subst e;subst hb
  obtain ⟨y,hy,hk⟩:=List.mem_map.1 ha
  have:=List.find?_eq_none.1 h2 y hy
  simp [hk] at this
 ·rw [decide_eq_false (by omega),cond_false,h1,Int.toNat_natCast]
  have hk:Z07 x=Z07 l[n]:=by simpa using h4
  have:(l.set n x).map Z07=l.map Z07:=by
   rw [List.map_set,hk]
   apply List.ext_getElem
   ·simp
   ·intro i h5 h6
    rw [List.getElem_set]
    split
    ·rename_i e;subst e;simp
    ·rfl
  rw [this];exact h
theorem Y0k:∀(l s:List Action),(s.map Z07).Nodup→((l.foldl wr1 s).map Z07).Nodup
 | [],s,h=>h
 | x::l,s,h=>Y0k l _ (Yo6 s x h)
def Z4m (k:Int):Int:=Z0f (fun x=>decide (k=x)) [18,17,25,22,0]
theorem Zrm (k:Int):Zdl k=some (Z4m k):=by
 unfold Zdl Z4m
 rw [Ybi];rfl
def Z5i (goes:Bool)(a:Action):Bool:= !(decide (Z4m a.Kind<0)||(goes&&decide (a.Kind=0)))
def Zd1 (a b:Action):Int:=
 bif decide (IntKind.i64.wrap (Z4m (Z07 a).kind - Z4m (Z07 b).kind)≠0) then IntKind.i64.wrap (Z4m (Z07 a).kind - Z4m (Z07 b).kind)
 else bif decide ((Z07 a).field<(Z07 b).field) then -1 else bif decide ((Z07 a).field>(Z07 b).field) then 1 else 0
theorem Yap (a b:Action):Z9e a b=some (Zd1 a b):=by
 unfold Z9e Zd1
 rw [Zqq,Option.bind_some,Zqq,Option.bind_some,Zrm,Option.bind_some,Zrm,Option.bind_some]
 cases decide (IntKind.i64.wrap (Z4m (Z07 a).kind - Z4m (Z07 b).kind)≠0)
 ·rw [cond_false,cond_false]
  cases decide ((Z07 a).field<(Z07 b).field)
  ·rw [cond_false,cond_false]
   cases decide ((Z07 a).field>(Z07 b).field)<;>rfl
  ·rfl
 ·rfl
theorem Zno {α:Type}(lt:α→α→Bool)(x:α):∀R:List α,(Z0u lt x R).Perm (x::R)
 | []=>List.Perm.refl _
 | y::R=>by
  rw [Z0u]
  cases lt x y
  ·exact List.Perm.refl _
  ·exact ((Zno lt x R).cons y).trans (List.Perm.swap x y R)
theorem Y6z {α:Type}(lt:α→α→Bool):∀(l R:List α),(l.foldl (fun R x=>Z0u lt x R) R).Perm (l++R)
 | [],R=>List.Perm.refl _
 | x::l,R=>by
  rw [List.foldl_cons]
  refine (Y6z lt l _).trans ?_
  refine ((Zno lt x R).append_left l).trans ?_
  exact List.perm_middle
theorem Yc7 {α:Type}(lt:α→α→Bool)(l:List α):(srt lt l).Perm l:=by
 unfold srt
 refine (List.reverse_perm _).trans ?_
 have:=Y6z lt l []
 rwa [List.append_nil] at this
theorem Zip {α:Type}(lt:α→α→Bool)(x:α)(R:List α):(Z0u lt x R).length=R.length+1:=by
 have:=(Zno lt x R).length_eq
 simpa using this
def ltA (a b:Action):Bool:=decide (Zd1 a b<0)
theorem Yci (go:List Action→Int→Option (List Action))(i:Int)(x:Action):∀(R S:List Action) (m:Nat),R.length<m→R.length≤lim→
  Z93 0 Z9e go i m (R.reverse++x::S) (R.length:Int)=go ((Z0u ltA x R).reverse++S) (IntKind.i64.wrap (i+1))
 | [],S,m,h,_=>by
  obtain ⟨m,rfl⟩:∃k,m=k+1:=⟨m - 1,by simp at h;omega⟩
  rw [Z93]
  simp [opt,Z0u]
 | y::R,S,m,h,hl=>by
  have hlim:lim=4294967296:=rfl
  simp only [List.length_cons] at h hl
  obtain ⟨m,rfl⟩:∃k,m=k+1:=⟨m - 1,by omega⟩
  have e0:(y::R).reverse++x::S=R.reverse++y::x::S:=by simp
  have ej:IntKind.i64.wrap (((y::R).length:Int) - 1)=(R.length:Int):=by rw [Z2w (by simp only [List.length_cons];omega) (by simp only [List.length_cons];omega)];simp only [List.length_cons];omega
  have hlen:∀a b:Action,(R.reverse++a::b::S).length=R.length+(S.length+2):=fun a b=>by simp
  have g1:∀a b:Action,lget (R.reverse++a::b::S) (((y::R).length:Int))=some b:=fun a b=>by
   rw [Z75,List.getElem?_append_right (by simp)];first | done | simp
  have g0:∀a b:Action,lget (R.reverse++a::b::S) ((R.length:Int))=some a:=fun a b=>by
   rw [Z75,List.getElem?_append_right (by simp)];first | done | simp
  have s1:∀a b c:Action,List.set (R.reverse++a::b::S) (((y::R).length:Int)).toNat c=R.reverse++a::c::S:=fun a b c=>by
   rw [Int.toNat_natCast,List.set_append_right _ _ (by simp)];first | done | simp
  have s0:∀a b c:Action,List.set (R.reverse++a::b::S) ((R.length:Int)).toNat c=R.reverse++c::b::S:=fun a b c=>by
   rw [Int.toNat_natCast,List.set_append_right _ _ (by simp)];first | done | simp
  rw [e0,Z93,decide_eq_true (by simp only [List.length_cons];omega),Z54,g1,Option.bind_some,Z54,ej,g0,Option.bind_some,Z54,Yap,Option.bind_some,Bool.true_and,Z0u]
  show (bif ltA x y then _ else _)=_
  cases ltA x y
  ·rw [cond_false,cond_false]
   simp
  ·rw [cond_true,cond_true,Option.bind_some,Option.bind_some,Option.bind_some,s1,g0,Option.bind_some,s0,Yci go i x R (y::S) m (by omega) (by omega)]
   simp
theorem Ya1:∀(T R:List Action) (m:Nat),T.length<m→1≤R.length→R.length+T.length≤1000→
  Z7z ((R.length+T.length:Nat):Int) 0 Z9e m (R.reverse++T) (R.length:Int)=some ((T.foldl (fun R x=>Z0u ltA x R) R).reverse)
 | [],R,m,h,_,_=>by
  obtain ⟨m,rfl⟩:∃k,m=k+1:=⟨m - 1,by simp at h;omega⟩
  rw [Z7z,decide_eq_false (by simp),cond_false]
  simp
 | x::T,R,m,h,h1,h2=>by
  have hlim:lim=4294967296:=rfl
  simp only [List.length_cons] at h h2
  obtain ⟨m,rfl⟩:∃k,m=k+1:=⟨m - 1,by omega⟩
  have e:IntKind.i64.wrap ((R.length:Int)+1)=(((Z0u ltA x R).length:Nat):Int):=by rw [Zip,Z2w (by omega) (by omega)];omega
  have hn:R.length+(x::T).length=(Z0u ltA x R).length+T.length:=by rw [Zip,List.length_cons];omega
  rw [Z7z,decide_eq_true (by simp;omega),cond_true,Yci _ _ x R T Z0v (by unfold Z0v;omega) (by omega),e,hn,Ya1 T (Z0u ltA x R) m (by omega) (by rw [Zip];omega) (by rw [Zip];omega),List.foldl_cons]
theorem Yw6 (l:List Action)(h:l.length≤1000):Zcr l 0 (l.length:Int) Z9e=some (srt ltA l):=by
 unfold Zcr srt
 have e:IntKind.i64.wrap ((0:Int)+1)=1:=by decide
 rw [e]
 cases l with
 | nil=>rfl
 | cons x l=>
  simp only [List.length_cons] at h
  have:=Ya1 l [x] ((((x::l).length:Int) - 1).toNat+1) (by simp) (by simp) (by simp;omega)
  have e2:(([x].length+l.length:Nat):Int)=((x::l).length:Int):=by simp;omega
  rw [e2] at this
  simp only [List.reverse_singleton,List.singleton_append] at this
  rw [List.foldl_cons]
  exact this
theorem Yzb (l:List Action)(h:l.length<20):Zey l Z9e=some (srt ltA l):=by
 unfold Zey Zk1
 obtain ⟨m,hm⟩:∃m,(((l.length:Int):Int) - 20).toNat+2=m+1:=⟨_,rfl⟩
 rw [hm,Zfb,decide_eq_false (by omega),cond_false,Yw6 l (by omega),Option.bind_some]
 obtain ⟨k,hk⟩:∃m,(((l.length:Int):Int) - 20).toNat+1=m+1:=⟨_,rfl⟩
 rw [hk,Z9r,decide_eq_false (by omega),cond_false]
 rfl
def Z5h (s:List Action):List Action:=srt ltA (s.filter (Z5i (s.any fun a=>decide (a.Kind=22))))
theorem Ynl (s:List Action)(h:s.length<20):Z8d s=some (Z5h s):=by
 have hlim:lim=4294967296:=rfl
 unfold Z8d Z7l Z5h
 rw [Y87 s Zjw (fun a=>decide (a.Kind=22)) (fun _ _=>rfl),Option.bind_some,Z1p (by simp;omega),Option.bind_some,List.nil_append]
 have hf:∀a:Action,Zc8 a (s.any fun a=>decide (a.Kind=22))=some (!Z5i (s.any fun a=>decide (a.Kind=22)) a):=fun a=>by
  unfold Zc8 Z5i
  rw [Zrm,Option.bind_some,Bool.not_not]
 rw [Y5j s _ (fun a=> !Z5i (s.any fun a=>decide (a.Kind=22)) a) (fun a _=>hf a) (by omega),Option.bind_some]
 simp only [Bool.not_not]
 rw [Yzb _ (Nat.lt_of_le_of_lt (List.length_filter_le ..) h)]
 rfl
def Zhh (bs:List Bucket):Prop:=bs.length≤3∧∀x∈bs,x.Acts.length≤12
def Z7j (l:List Group):Prop:=l.length≤9∧∀g∈l,Zhh g.Buckets
theorem Y8j (bs:List Bucket)(h:∀x∈bs,x.Acts.length≤12):∀(m i:Nat),i+m=bs.length→Zbr m i bs=some bs
 | 0,i,_=>by rw [Zbr]
 | m+1,i,hi=>by
  have hlim:lim=4294967296:=rfl
  have hlt:i<bs.length:=by omega
  have ha:=h bs[i] (List.getElem_mem hlt)
  have e:List.set bs ((i:Int)).toNat {bs[i] with Acts:=bs[i].Acts}=bs:=by
   rw [Int.toNat_natCast];exact List.set_getElem_self hlt
  rw [Zbr,Z29 hlt,Option.bind_some]
  unfold Z7l
  rw [Z1p (by simp;omega),Option.bind_some,Option.bind_some,List.nil_append,e]
  exact Y8j bs h m (i+1) (by omega)
theorem Yfw (bs:List Bucket)(h:Zhh bs):Zmd bs=some bs:=by
 have hlim:lim=4294967296:=rfl
 have:=h.1
 unfold Zmd Zs9
 rw [Z1p (by simp;omega),Option.bind_some,List.nil_append,show ((bs.length:Int)).toNat=bs.length by omega]
 exact Y8j bs h.2 bs.length 0 (by omega)
theorem Yrs (g:Group)(h:Zhh g.Buckets):Zmf [g]=some [g]:=by
 unfold Zmf Zq6
 rw [Z1p (by simp [lim]),Option.bind_some]
 show Zfd 1 0 [g]=_
 rw [Zfd]
 show ((some g).bind fun e8=>_)=_
 rw [Option.bind_some,Yfw _ h,Option.bind_some]
 rfl
def Zj5 (l:List Group)(id:Int):Option Group:=l.find? fun g=>decide (g.ID=id)
theorem Yab (l:List Group)(id:Int)(hl:Z7j l):Zmz l id=some (match Zj5 l id with | none=>((⟨0,0,[]⟩:Group),false) | some g=>(g,true)):=by
 have h9:=hl.1
 unfold Zmz Zj3 Zj5
 rw [Ybz l (fun x=>Zo1 x id) (fun g=>decide (g.ID=id)) (fun _ _=>rfl),Option.bind_some,Option.bind_some]
 rcases Zsp (fun g:Group=>decide (g.ID=id)) l with ⟨h1,h2⟩ | ⟨n,h1,h2,h3,h4⟩
 ·rw [decide_eq_true h1,cond_true,h2]
 ·have hs:Zg0 l (n:Int) (IntKind.i64.wrap ((n:Int)+1))=some [l[n]]:=by
   rw [Z2w (by omega) (by omega)]
   unfold Zg0
   rw [decide_eq_true (by omega),decide_eq_true (by omega),Nat.ble_eq_true_of_le (by omega)]
   show some _=some _
   have e2:((n:Int)+1).toNat=n+1:=by omega
   have e3:(l.take n).length=n:=by simp;omega
   rw [e2,Int.toNat_natCast,List.take_succ_eq_append_getElem h2,List.drop_append,e3,List.drop_of_length_le (by omega),Nat.sub_self]
   rfl
  rw [decide_eq_false (by omega),cond_false,h1,hs,Option.bind_some,Yrs _ (hl.2 _ (List.getElem_mem h2)),Option.bind_some,h3]
  rfl
theorem Ya8 {l:List Group}{id:Int}{g:Group}(h:Zj5 l id=some g):g∈l:=List.mem_of_find?_eq_some h
def Zfe (e:Env)(n:Nat):Int:=(Zez e (n:Int)).getD 0
theorem Y1t (e:Env)(n:Nat)(hn:0<n)(hn2:n≤1000):Zez e (n:Int)=some (Zfe e n)∧0≤Zfe e n∧Zfe e n<n:=by
 have key:∃t,Zez e (n:Int)=some t∧0≤t∧t<n:=by
  unfold Zez Zb8
  rw [decide_eq_false (by omega),cond_false,decide_eq_false (by omega),cond_false,Option.bind_some]
  have h1:=Int.tmod_lt_of_pos e.Turn (show (0:Int)<n by omega)
  have h2: -(n:Int)<e.Turn.tmod (n:Int):=by
   have:=Int.lt_tmod_of_pos e.Turn (show (0:Int)<n by omega)
   exact this
  by_cases hc:e.Turn.tmod (n:Int)<0
  ·rw [decide_eq_true hc,cond_true,Z2w (by omega) (by omega)]
   exact ⟨_,rfl,by omega,by omega⟩
  ·rw [decide_eq_false hc,cond_false]
   exact ⟨_,rfl,by omega,by omega⟩
 obtain ⟨t,ht,h1,h2⟩:=key
 have e:Zfe e n=t:=by unfold Zfe;rw [ht];rfl
 rw [e]
 exact ⟨ht,h1,h2⟩
def Zi4 (e:Env)(bs:List Bucket):Int:=Z0f (fun x=> !e.Down.contains x.Watch) bs
def Z8c (e:Env)(g:Group):List Int:=
 bif decide (g.Buckets.length=0) then []
 else bif decide (g.Kind=0) then (List.range' 0 g.Buckets.length).map fun (i:Nat)=>(i:Int)
 else bif decide (g.Kind=1) then [Zfe e g.Buckets.length]
 else bif decide (g.Kind=2) then [0]
 else bif decide (g.Kind=3) then (bif decide (Zi4 e g.Buckets≥0) then [Zi4 e g.Buckets] else [])
 else []
theorem Y68:∀(m i:Nat) (acc:List Int),acc.length+m≤lim→Zcb m i acc=some (acc++(List.range' i m).map fun (i:Nat)=>(i:Int))
 | 0,i,acc,_=>by rw [Zcb];simp
 | m+1,i,acc,h=>by
  rw [Zcb,Z1p (by simp;omega),Option.bind_some,Y68 m (i+1) _ (by simp;omega),List.range'_succ]
  simp
theorem Yly (e:Env)(g:Group)(h:Zhh g.Buckets):Zl0 e g=some (Z8c e g):=by
 have hlim:lim=4294967296:=rfl
 have h3:=h.1
 unfold Zl0 Z8c
 simp only
 have hz:decide ((g.Buckets.length:Int)=0)=decide (g.Buckets.length=0):=by
  rw [decide_eq_decide];omega
 rw [hz]
 by_cases h0:g.Buckets.length=0
 ·rw [decide_eq_true h0];rfl
 ·rw [decide_eq_false h0,cond_false,cond_false]
  cases decide (g.Kind=0)
  ·rw [cond_false,cond_false]
   cases decide (g.Kind=1)
   ·rw [cond_false,cond_false]
    cases decide (g.Kind=2)
    ·rw [cond_false,cond_false]
     cases decide (g.Kind=3)
     ·rfl
     ·rw [cond_true,cond_true]
      unfold Zpb Zi4
      simp only
      rw [Ybg g.Buckets (fun x=>Zhy x (⟨e,g⟩:env_world)) (fun x=> !e.Down.contains x.Watch) (fun x _=>by unfold Zhy;rw [Yqd];rfl),Option.bind_some,Option.bind_some]
      cases decide (Z0f (fun x=> !e.Down.contains x.Watch) g.Buckets≥0)<;>rfl
    ·rfl
   ·rw [cond_true,cond_true,(Y1t e g.Buckets.length (by omega) (by omega)).1];rfl
  ·rw [cond_true,cond_true,show ((g.Buckets.length:Int)).toNat=g.Buckets.length by omega,Y68 _ 0 [] (by simp;omega)]
   rfl
theorem Y7b (e:Env)(g:Group)(h:Zhh g.Buckets):(Z8c e g).length≤3∧∀i∈Z8c e g,∃n:Nat,i=(n:Int)∧n<g.Buckets.length:=by
 have h3:=h.1
 unfold Z8c
 by_cases h0:g.Buckets.length=0
 ·rw [decide_eq_true h0];simp
 ·rw [decide_eq_false h0,cond_false]
  cases decide (g.Kind=0)
  ·rw [cond_false]
   cases decide (g.Kind=1)
   ·rw [cond_false]
    cases decide (g.Kind=2)
    ·rw [cond_false]
     cases decide (g.Kind=3)
     ·simp
     ·rw [cond_true]
      have hlt:=Zi6 (fun x:Bucket=> !e.Down.contains x.Watch) g.Buckets
      by_cases hc:Zi4 e g.Buckets≥0
      ·rw [decide_eq_true hc,cond_true]
       refine ⟨by simp,fun i hi=>?_⟩
       rw [List.mem_singleton] at hi
       subst hi
       exact ⟨(Zi4 e g.Buckets).toNat,by omega,by unfold Zi4 at hc ⊢;omega⟩
      ·rw [decide_eq_false hc,cond_false];simp
    ·refine ⟨by simp,fun i hi=>?_⟩
     simp only [cond_true,List.mem_singleton] at hi
     subst hi
     exact ⟨0,rfl,by omega⟩
   ·obtain ⟨_,h1,h2⟩:=Y1t e g.Buckets.length (by omega) (by omega)
    refine ⟨by simp,fun i hi=>?_⟩
    simp only [cond_true,List.mem_singleton] at hi
    subst hi
    exact ⟨(Zfe e g.Buckets.length).toNat,by omega,by omega⟩
  ·refine ⟨by simp;omega,fun i hi=>?_⟩
   simp only [cond_true,List.mem_map] at hi
   obtain ⟨n,hn,rfl⟩:=hi
   exact ⟨n,rfl,by have:=(List.mem_range'_1.1 hn).2;omega⟩
def Z9q (acts:List Action):List Action:=Z5h (acts.foldl wr1 [])
def Z4f (l:List Action):Nat:=l.countP fun a=>decide (a.Kind=0)||decide (a.Kind=22)
theorem Yg0 {a b:Action}(ha:a.Kind≠25)(h:a.Kind=b.Kind):Z07 a=Z07 b:=by
 unfold Z07
 rw [decide_eq_false ha,decide_eq_false (h▸ha),h];rfl
theorem Zu7 (k:Int)(hk:k≠25):∀l:List Action,(l.map Z07).Nodup→(l.countP fun a=>decide (a.Kind=k))≤1
 | [],_=>by simp
 | a::l,h=>by
  rw [List.map_cons,List.nodup_cons] at h
  rw [List.countP_cons]
  have ih:=Zu7 k hk l h.2
  by_cases ha:a.Kind=k
  ·have:(l.countP fun a=>decide (a.Kind=k))=0:=by
    rw [List.countP_eq_zero]
    intro b hb hbk
    have hbk':b.Kind=k:=by simpa using hbk
    exact h.1 (List.mem_map.2 ⟨b,hb,(Yg0 (by rw [ha];exact hk) (by rw [ha,hbk'])).symm⟩)
   rw [this,decide_eq_true ha];simp
  ·rw [decide_eq_false ha];simpa using ih
theorem Yot {l m:List Action}(h:l.Perm m):Z4f l=Z4f m:=h.countP_eq _
theorem Y6k (acts:List Action):Z4f (Z9q acts)≤1:=by
 unfold Z9q Z5h
 rw [Yot (Yc7 _ _)]
 have hn:=Y0k acts [] (by simp)
 generalize acts.foldl wr1 []=s at*
 unfold Z4f
 rw [List.countP_filter]
 cases hg:s.any (fun a=>decide (a.Kind=22))
 ·refine Nat.le_trans (List.countP_mono_left fun a ha h=>?_) (Zu7 0 (by decide) s hn)
  rw [List.any_eq_false] at hg
  have:=hg a ha
  simp only [Bool.and_eq_true,Bool.or_eq_true,decide_eq_true_eq] at h
  rcases h.1 with h | h
  ·simpa using h
  ·exact absurd (by simpa using h) this
 ·refine Nat.le_trans (List.countP_mono_left fun a ha h=>?_) (Zu7 22 (by decide) s hn)
  simp only [Bool.and_eq_true,Bool.or_eq_true,decide_eq_true_eq] at h
  rcases h.1 with h1 | h1
  ·have h2:=h.2
   unfold Z5i at h2
   simp [h1] at h2
  ·simpa using h1
def doA (G:Int→Header→List Out):List Action→List Out→Header→List Out×Header
 | [],o,h=>(o,h)
 | a::l,o,h=>bif decide (a.Kind=0) then doA G l (o++[⟨a.Port,Ziz a,h⟩]) h
  else bif decide (a.Kind=22) then doA G l (o++G a.Group h) h
  else doA G l o (Z31 (Zbw a) h)
def Zcg (bs:List Bucket)(i:Int):List Action:=match bs[i.toNat]? with
 | some b=>b.Acts
 | none=>[]
def goG (l:List Group)(e:Env):Nat→Int→Header→List Out
 | 0,_,_=>[]
 | d+1,id,h=>match Zj5 l id with
  | none=>[]
  | some g=>(Z8c e g).flatMap fun i=>(doA (goG l e d) (Z9q (Zcg g.Buckets i)) [] h).1
theorem Z94 (G:Int→Header→List Out):∀(l:List Action) (o:List Out) (h:Header),doA G l o h=(o++(doA G l [] h).1,(doA G l [] h).2)
 | [],o,h=>by simp [doA]
 | a::l,o,h=>by
  rw [doA,doA]
  cases decide (a.Kind=0)
  ·rw [cond_false,cond_false]
   cases decide (a.Kind=22)
   ·rw [cond_false,cond_false];exact Z94 G l o _
   ·rw [cond_true,cond_true,Z94 G l (o++_),Z94 G l ([]++_)];simp
  ·rw [cond_true,cond_true,Z94 G l (o++_),Z94 G l ([]++_)];simp
theorem Zri (G:Int→Header→List Out)(B:Nat)(hB:1≤B)(hG:∀id h,(G id h).length≤B):∀(l:List Action) (h:Header),(doA G l [] h).1.length≤Z4f l*B
 | [],h=>by simp [doA]
 | a::l,h=>by
  have ih:=Zri G B hB hG l
  unfold Z4f at ih ⊢
  rw [doA,List.countP_cons]
  by_cases h0:a.Kind=0
  ·rw [decide_eq_true h0,cond_true,Z94]
   simp only [List.nil_append,List.length_append,List.length_cons,List.length_nil,Bool.true_or,if_true]
   have:=ih h
   rw [Nat.add_mul,Nat.one_mul];omega
  ·rw [decide_eq_false h0,cond_false]
   by_cases h1:a.Kind=22
   ·rw [decide_eq_true h1,cond_true,Z94]
    have h2:=hG a.Group h
    simp only [List.nil_append,List.length_append,Bool.or_true,if_true]
    have:=ih h
    rw [Nat.add_mul,Nat.one_mul];omega
   ·rw [decide_eq_false h1,cond_false]
    have:=ih (Z31 (Zbw a) h)
    simpa using this
theorem Y4i {α β:Type}(f:α→List β)(k:Nat):∀l:List α,(∀x∈l,(f x).length≤k)→(l.flatMap f).length≤l.length*k
 | [],_=>by simp
 | x::l,h=>by
  rw [List.flatMap_cons,List.length_append,List.length_cons,Nat.succ_mul]
  have h1:=h x (by simp)
  have h2:=Y4i f k l fun y hy=>h y (by simp [hy])
  omega
theorem Zkd (l:List Group)(e:Env)(hl:Z7j l):∀(d:Nat) (id:Int) (h:Header),(goG l e d id h).length≤3 ^ d
 | 0,id,h=>by simp [goG]
 | d+1,id,h=>by
  rw [goG]
  cases hf:Zj5 l id with
  | none=>simp
  | some g=>
   have hb:=hl.2 g (Ya8 hf)
   have ht:=(Y7b e g hb).1
   have h1:1≤3 ^ d:=Nat.pow_pos (by decide)
   have:=Y4i (fun i=>(doA (goG l e d) (Z9q (Zcg g.Buckets i)) [] h).1) (3 ^ d) (Z8c e g) fun i _=>by
    have h2:=Zri (goG l e d) (3 ^ d) h1 (Zkd l e hl d) (Z9q (Zcg g.Buckets i)) h
    have h3:=Y6k (Zcg g.Buckets i)
    have h4:Z4f (Z9q (Zcg g.Buckets i))*3 ^ d≤1*3 ^ d:=Nat.mul_le_mul_right _ h3
    omega
   have h5:(Z8c e g).length*3 ^ d≤3*3 ^ d:=Nat.mul_le_mul_right _ ht
   have e1:3 ^ (d+1)=3*3 ^ d:=by rw [Nat.pow_succ,Nat.mul_comm]
   show ((Z8c e g).flatMap _).length≤_
   omega
theorem Znr (R:Z0x→Int→Option Z0x)(G:Int→Header→List Out)(e:Env)(l:List Group)(dep:Int)(B:Nat)(hB:1≤B)(hG:∀id h,(G id h).length≤B)
  (hR:∀o id h,o.length+B≤lim→R ⟨e,l,o,h,dep⟩ id=some ⟨e,l,o++G id h,h,dep⟩):
  ∀(acts:List Action) (i:Nat) (o:List Out) (h:Header),o.length+Z4f acts*B≤lim→Z9p R acts i o e l h dep=some ⟨e,l,(doA G acts o h).1,(doA G acts o h).2,dep⟩
 | [],i,o,h,_=>by rw [Z9p];rfl
 | a::acts,i,o,h,hb=>by
  unfold Z4f at hb
  rw [List.countP_cons] at hb
  rw [Z9p,doA]
  by_cases h0:a.Kind=0
  ·simp only [decide_eq_true h0,Bool.true_or,if_true,Nat.add_mul,Nat.one_mul] at hb
   rw [decide_eq_true h0,cond_true,cond_true,Yud,Option.bind_some,Z1p (by simp;omega),Option.bind_some]
   exact Znr R G e l dep B hB hG hR acts (i+1) _ h (by unfold Z4f;simp;omega)
  ·rw [decide_eq_false h0,cond_false,cond_false]
   by_cases h1:a.Kind=22
   ·simp only [decide_eq_true h1,Bool.or_true,if_true,Nat.add_mul,Nat.one_mul] at hb
    have h2:=hG a.Group h
    rw [decide_eq_true h1,cond_true,cond_true,hR o a.Group h (by omega),Option.bind_some]
    exact Znr R G e l dep B hB hG hR acts (i+1) _ h (by unfold Z4f;simp;omega)
   ·simp only [decide_eq_false h0,decide_eq_false h1,Bool.or_self] at hb
    rw [decide_eq_false h1,cond_false,cond_false,Y32,Option.bind_some,Ybr,Option.bind_some]
    exact Znr R G e l dep B hB hG hR acts (i+1) o _ (by unfold Z4f;simpa using hb)
theorem Y6h (R:Z0x→List Action→Option Z0x)(G:Int→Header→List Out)(e:Env)(l:List Group)(g:Group)(hg:Zhh g.Buckets)(r1:Z0x)(dep:Int)(hd:0≤dep∧dep≤9)(B:Nat)(hB:1≤B)(hG:∀id h,(G id h).length≤B)
  (hR:∀o acts,Z4f acts≤1→o.length+B≤lim→R ⟨e,l,o,r1.header,dep⟩ acts=some ⟨e,l,(doA G acts o r1.header).1,(doA G acts o r1.header).2,dep⟩):
  ∀(ts:List Int) (i:Nat) (o:List Out),(∀t∈ts,∃n:Nat,t=(n:Int)∧n<g.Buckets.length)→o.length+ts.length*B≤lim→
   Zc3 (g,true) R r1 ts i o e l r1.header dep=some ⟨e,l,o++ts.flatMap fun i=>(doA G (Z9q (Zcg g.Buckets i)) [] r1.header).1,r1.header,dep - 1⟩
 | [],i,o,_,_=>by rw [Zc3,Z2w (by omega) (by omega)];simp
 | t::ts,i,o,ht,hb=>by
  have hlim:lim=4294967296:=rfl
  obtain ⟨n,rfl,hn⟩:=ht t (by simp)
  simp only [List.length_cons,Nat.add_mul,Nat.one_mul] at hb
  have hacts:=hg.2 g.Buckets[n] (List.getElem_mem hn)
  have hba:Zcg g.Buckets (n:Int)=g.Buckets[n].Acts:=by
   unfold Zcg
   rw [Int.toNat_natCast,List.getElem?_eq_getElem hn]
  have hwl:=Zsr g.Buckets[n].Acts []
  simp only [List.length_nil,Nat.zero_add] at hwl
  have hlen:=Zri G B hB hG (Z9q g.Buckets[n].Acts) r1.header
  have hout:=Y6k g.Buckets[n].Acts
  have hmul:Z4f (Z9q g.Buckets[n].Acts)*B≤1*B:=Nat.mul_le_mul_right _ hout
  rw [Zc3]
  simp only
  rw [Z29 hn,Option.bind_some,Zx5 _ _ (by simp;omega),Option.bind_some,Ynl _ (by omega),Option.bind_some,show Z5h (g.Buckets[n].Acts.foldl wr1 [])=Z9q g.Buckets[n].Acts from rfl,hR o _ hout (by omega),Option.bind_some]
  simp only
  rw [Z94]
  simp only
  rw [Y6h R G e l g hg r1 dep hd B hB hG hR ts (i+1) _ (fun t h=>ht t (by simp [h])) (by rw [List.length_append];omega),List.flatMap_cons,hba]
  simp
theorem Yl3 (l:List Group)(e:Env)(hl:Z7j l):∀(d:Nat),d≤8→
  (∀n o id h,2*d+1≤n→o.length+3 ^ d≤lim→(Z3o n).2 ⟨e,l,o,h,((8 - d:Nat):Int)⟩ id=some ⟨e,l,o++goG l e d id h,h,((8 - d:Nat):Int)⟩)∧
  (∀n o acts h,2*d+2≤n→o.length+Z4f acts*3 ^ d≤lim→(Z3o n).1 ⟨e,l,o,h,((8 - d:Nat):Int)⟩ acts=some ⟨e,l,(doA (goG l e d) acts o h).1,(doA (goG l e d) acts o h).2,((8 - d:Nat):Int)⟩):=by
 have hlim:lim=4294967296:=rfl
 intro d
 induction d with
 | zero=>
  intro hd
  have h1:∀n o id h,2*0+1≤n→o.length+3 ^ 0≤lim→(Z3o n).2 ⟨e,l,o,h,((8 - 0:Nat):Int)⟩ id=some ⟨e,l,o++goG l e 0 id h,h,((8 - 0:Nat):Int)⟩:=by
   intro n o id h hn _
   obtain ⟨n,rfl⟩:∃k,n=k+1:=⟨n - 1,by omega⟩
   show Ze6 (Z3o n).1 (Z3o n).2 _ _=_
   unfold Ze6
   simp only
   rw [Yab l id hl,Option.bind_some]
   have:∀x:Group×Bool,((!x.2)||decide (((8 - 0:Nat):Int)≥8))=true:=fun x=>by simp
   rw [this]
   simp [goG]
  refine ⟨h1,?_⟩
  intro n o acts h hn hb
  obtain ⟨n,rfl⟩:∃k,n=k+1:=⟨n - 1,by omega⟩
  show Zf3 (Z3o n).1 (Z3o n).2 _ _=_
  unfold Zf3
  exact Znr _ (goG l e 0) e l _ (3 ^ 0) (by decide) (Zkd l e hl 0) (fun o id h hb=>h1 n o id h (by omega) hb) acts 0 o h hb
 | succ d ih=>
  intro hd
  obtain ⟨ih1,ih2⟩:=ih (by omega)
  have hp:3 ^ (d+1)=3*3 ^ d:=by rw [Nat.pow_succ,Nat.mul_comm]
  have h1:∀n o id h,2*(d+1)+1≤n→o.length+3 ^ (d+1)≤lim→(Z3o n).2 ⟨e,l,o,h,((8 - (d+1):Nat):Int)⟩ id=some ⟨e,l,o++goG l e (d+1) id h,h,((8 - (d+1):Nat):Int)⟩:=by
   intro n o id h hn hb
   obtain ⟨n,rfl⟩:∃k,n=k+1:=⟨n - 1,by omega⟩
   show Ze6 (Z3o n).1 (Z3o n).2 _ _=_
   unfold Ze6
   simp only
   rw [Yab l id hl,Option.bind_some,goG]
   cases hf:Zj5 l id with
   | none=>simp
   | some g=>
    have hg:=hl.2 g (Ya8 hf)
    obtain ⟨t1,t2⟩:=Y7b e g hg
    simp only [Bool.not_true,Bool.false_or]
    rw [decide_eq_false (by omega),cond_false,Yly e g hg,Option.bind_some]
    have ew:IntKind.i64.wrap (((8 - (d+1):Nat):Int)+1)=((8 - d:Nat):Int):=by rw [Z2w (by omega) (by omega)];omega
    rw [ew]
    have hmul:(Z8c e g).length*3 ^ d≤3*3 ^ d:=Nat.mul_le_mul_right _ t1
    have:=Y6h (Z3o n).1 (goG l e d) e l g hg ⟨e,l,o,h,((8 - (d+1):Nat):Int)⟩ ((8 - d:Nat):Int) (by omega) (3 ^ d) (Nat.pow_pos (by decide)) (Zkd l e hl d)
     (fun o acts ho hb=>ih2 n o acts h (by omega) (by
      have:Z4f acts*3 ^ d≤1*3 ^ d:=Nat.mul_le_mul_right _ ho
      omega)) (Z8c e g) 0 o t2 (by omega)
    simp only at this
    rw [this]
    congr 2
    omega
  refine ⟨h1,?_⟩
  intro n o acts h hn hb
  obtain ⟨n,rfl⟩:∃k,n=k+1:=⟨n - 1,by omega⟩
  show Zf3 (Z3o n).1 (Z3o n).2 _ _=_
  unfold Zf3
  exact Znr _ (goG l e (d+1)) e l _ (3 ^ (d+1)) (Nat.pow_pos (by decide)) (Zkd l e hl (d+1)) (fun o id h hb=>h1 n o id h (by omega) hb) acts 0 o h hb
theorem Yet (l:List Group)(e:Env)(acts:List Action)(h:Header)(hl:Z7j l)(ha:acts.length≤100):Zh5 l e acts h=some (doA (goG l e 8) acts [] h):=by
 have hlim:lim=4294967296:=rfl
 unfold Zh5 Zzo
 have ho:Z4f acts≤100:=Nat.le_trans List.countP_le_length ha
 have hm:Z4f acts*3 ^ 8≤100*3 ^ 8:=Nat.mul_le_mul_right _ ho
 have:=(Yl3 l e hl 8 (by decide)).2 Z0v [] acts h (by unfold Z0v;omega) (by simp only [List.length_nil];omega)
 rw [show (((8 - 8:Nat)):Int)=0 from rfl] at this
 rw [this]
 rfl
end Go.Proofs.YtinplddjjalohaaGreatDoor.W
namespace Go.Proofs.YtinplddjjalohaaGreatDoor.W
open Go Go.Wb
theorem Ymb (a b:Cube):Zjv a b=some (Za1 a b):=by
 unfold Zjv
 rw [Y3y (fun x=>Zhd x a b) (fun i=>Z3g (ve a i) (ve b i)) (fun i hi=>by unfold Zhd;rw [Z2m hi,Option.bind_some,Option.bind_some,Z36,Z36,Yav];rfl)]
 rfl
def Zki (r:Cube)(a:Action):Atom:=bif decide (a.Kind=0) then ⟨r,false,a.Port,Ziz a⟩ else ⟨r,true,a.Group,0⟩
def Zd3 (a:Action):Bool:=decide (a.Kind=0)||decide (a.Kind=22)
def doT:List Action→Cube→List Atom×Cube
 | [],r=>([],r)
 | a::l,r=>bif Zd3 a then (Zki r a::(doT l r).1,(doT l r).2) else doT l (Za1 r (Zbw a))
theorem Yru (r:Cube)(o:List Atom)(a:Action)(h:o.length+1≤lim):Zen ⟨r,o⟩ a=some (bif Zd3 a then ⟨r,o++[Zki r a]⟩ else ⟨Za1 r (Zbw a),o⟩):=by
 have hj:∀x:Atom,Zds ⟨r,o⟩ x=some ⟨r,o++[x]⟩:=fun x=>by
  unfold Zds
  rw [Z1p (by simpa using h),Option.bind_some]
 unfold Zen Zd3 Zki Ziz
 cases decide (a.Kind=0)
 ·rw [cond_false]
  cases decide (a.Kind=22)
  ·rw [cond_false,Y32,Option.bind_some,Ymb];rfl
  ·rw [cond_true,hj];rfl
 ·rw [cond_true]
  cases decide (a.Port=4294967293)
  ·rw [cond_false,hj];rfl
  ·rw [cond_true,hj];rfl
theorem Zyu:∀(l:List Action) (i:Nat) (r:Cube) (o:List Atom),o.length+l.length≤lim→Zcx Z6r (fun s x=>Zen s x) l i ⟨r,o⟩=some ⟨(doT l r).2,o++(doT l r).1⟩
 | [],i,r,o,_=>by rw [Zcx];simp [doT]
 | a::l,i,r,o,h=>by
  simp only [List.length_cons] at h
  rw [Zcx,Yru r o a (by omega),Option.bind_some,doT]
  cases Zd3 a
  ·rw [cond_false,cond_false,Zyu l (i+1) _ o (by omega)]
  ·rw [cond_true,cond_true,Zyu l (i+1) _ _ (by simp;omega)]
   simp
theorem Yls (acts:List Action)(r:Cube)(h:acts.length≤lim):Zm1 acts r=some (doT acts (Z1d r)):=by
 unfold Zm1 Zqm
 rw [Yag,Option.bind_some,Zyu acts 0 _ [] (by simpa using h),Option.bind_some]
 rfl
theorem Zh7:∀(l:List Action) (r:Cube),(doT l r).1.length=Z4f l
 | [],r=>rfl
 | a::l,r=>by
  have ih:=Zh7 l
  unfold Z4f at ih ⊢
  rw [doT,List.countP_cons]
  show _=_+if Zd3 a=true then 1 else 0
  cases Zd3 a
  ·simp [ih]
  ·simp [ih]
end Go.Proofs.YtinplddjjalohaaGreatDoor.W
namespace Go.Proofs.YtinplddjjalohaaGreatDoor.W
open Go Go.Wb
end Go.Proofs.YtinplddjjalohaaGreatDoor.W
namespace Go.Proofs.YtinplddjjalohaaGreatDoor.W
open Go Go.Wb
theorem Yp2 (s:List Bucket)(f:Bucket→Option Bool)(p:Bucket→Bool)(hf:∀x∈s,f x=some (p x)):Zl8 s f=some (s.any p):=by
 unfold Zl8;rw [Ybg s f p hf,Option.bind_some,Za3]
theorem Yr0 (s:List Group)(f:Group→Option Bool)(p:Group→Bool)(hf:∀x∈s,f x=some (p x)):Zh1 s f=some (s.any p):=by
 unfold Zh1;rw [Ybz s f p hf,Option.bind_some,Za3]
def Zi7 (bs:List Bucket)(many:Int):Bool:=decide ((bs.length:Int)≤many)&& !(bs.any fun x=> !decide ((x.Acts.length:Int)≤12))
theorem Yrp (bs:List Bucket)(many:Int):Zkb bs many=some (Zi7 bs many):=by
 unfold Zkb Zi7
 rw [Yp2 bs Zpe (fun x=> !decide ((x.Acts.length:Int)≤12)) (fun x _=>rfl)]
 cases decide ((bs.length:Int)≤many)<;>rfl
def Zh8 (l:List Group)(many bm:Int):Bool:=decide ((l.length:Int)≤many)&& !(l.any fun g=> !Zi7 g.Buckets bm)
theorem Yto (l:List Group)(many bm:Int):Zo8 l many bm=some (Zh8 l many bm):=by
 unfold Zo8 Zh8
 rw [Yr0 l (fun x=>Zix x bm) (fun g=> !Zi7 g.Buckets bm) (fun g _=>by unfold Zix;rw [Yrp];rfl)]
 cases decide ((l.length:Int)≤many)<;>rfl
theorem Yoy {l:List Group}(h:Zh8 l 9 3=true):Z7j l:=by
 unfold Zh8 at h
 simp only [Bool.and_eq_true,decide_eq_true_eq,Bool.not_eq_true',List.any_eq_false] at h
 refine ⟨by omega,fun g hg=>?_⟩
 have h1:Zi7 g.Buckets 3=true:=by simpa using h.2 g hg
 unfold Zi7 at h1
 simp only [Bool.and_eq_true,decide_eq_true_eq,Bool.not_eq_true',List.any_eq_false] at h1
 refine ⟨by omega,fun x hx=>?_⟩
 have h2:decide ((x.Acts.length:Int)≤12)=true:=by simpa using h1.2 x hx
 rw [decide_eq_true_eq] at h2
 omega
end Go.Proofs.YtinplddjjalohaaGreatDoor.W
namespace Go.Proofs.YtinplddjjalohaaGreatDoor.W
open Go Go.Wb
theorem Zzp (a b:Wide):Ze4 a b=some (Z21 a b):=rfl
theorem Yhs (a b:Wide):Zbz a b=some (wor a b):=rfl
theorem Y08 (a b:Wide):Zlb a b=some (Z3e a b):=rfl
theorem Y3b (t:Tern):Zad t=some (Z10 t):=rfl
theorem inc (n:Nat)(h:n<9223372036854775807):IntKind.i64.wrap ((n:Int)+1)=((n+1:Nat):Int):=by rw [Z2w (by omega) (by omega)];omega
theorem Yb1 (c:Cube):∀(m i:Nat),i≤24→24<i+m→Zef m (Z3b (fun i=>Z10 (ve c i)) c i) (i:Int)=some (Z1d c)
 | 0,i,h1,h2=>by omega
 | m+1,i,h1,h2=>by
  rw [Zef]
  by_cases h:i<24
  ·rw [decide_eq_true (by omega),cond_true,Z2m h,Option.bind_some,Y3b,Option.bind_some,Option.bind_some,Z36,Zc7 _ _ _ _ h,if_neg (by omega),inc i (by omega)]
   show Zef m (Vector.set (Z3b (fun i=>Z10 (ve c i)) c i) i (Z10 (ve c i)) _) _=_
   rw [Z9j (fun i=>Z10 (ve c i)) c i h,Yb1 c m (i+1) (by omega) (by omega)]
  ·have:i=24:=by omega
   subst this
   rw [decide_eq_false (by omega),cond_false,Z9w];rfl
theorem Zuf (c:Cube):Zf8 c=some (Z1d c):=by
 unfold Zf8
 have:=Yb1 c (((24:Int) - 0).toNat+1) 0 (by omega) (by decide)
 rw [Z9u] at this
 exact this
theorem Y09 (a b:Cube):∀(m i:Nat),i≤24→24<i+m→Zev (Z1d b) m (Z3b (fun i=>Z3g (ve a i) (ve b i)) (Z1d a) i) (i:Int)=some (Za1 a b)
 | 0,i,h1,h2=>by omega
 | m+1,i,h1,h2=>by
  rw [Zev]
  by_cases h:i<24
  ·simp only [decide_eq_true (show ((i:Int)<24) by omega),cond_true,Z2m h,Option.bind_some,Z36,Y08,Yhs,inc i (by omega)]
   rw [Zc7 _ _ _ _ h,if_neg (by omega),Z8a _ _ h,Z8a _ _ h]
   have:=Z9j (fun i=>Z3g (ve a i) (ve b i)) (Z1d a) i h
   show Zev (Z1d b) m (Vector.set (Z3b (fun i=>Z3g (ve a i) (ve b i)) (Z1d a) i) i (Z3g (ve a i) (ve b i)) _) _=_
   rw [this]
   exact Y09 a b m (i+1) (by omega) (by omega)
  ·have:i=24:=by omega
   subst this
   rw [decide_eq_false (by omega),cond_false,Z9w];rfl
theorem Zz4 (a b:Cube):Zjb a b=some (Za1 a b):=by
 unfold Zjb
 rw [Zuf,Option.bind_some,Zuf,Option.bind_some]
 have:=Y09 a b (((24:Int) - 0).toNat+1) 0 (by omega) (by decide)
 rw [Z9u] at this
 exact this
theorem Ycb (a:Tern):Z3g a zTern=Z10 a:=by
 unfold Z3g Z10
 have h1:wor (Z3e (Z21 a.Value a.Mask) zTern.Mask) (Z21 zTern.Value zTern.Mask)=Z21 a.Value a.Mask:=Zb0 fun i hi=>by
  have z:wt zTern.Mask i=false:=Zd4 i
  have z2:wt zTern.Value i=false:=Zd4 i
  simp only [Z66,Z5y _ _ _ hi,Z3j,z,z2]
  cases wt a.Value i<;>cases wt a.Mask i<;>rfl
 have h2:wor a.Mask zTern.Mask=a.Mask:=Zb0 fun i hi=>by
  have z:wt zTern.Mask i=false:=Zd4 i
  rw [Z66,z,Bool.or_false]
 show (⟨wor (Z3e (Z21 a.Value a.Mask) zTern.Mask) (Z21 zTern.Value zTern.Mask),wor a.Mask zTern.Mask⟩:Tern)=_
 rw [h1,h2]
theorem Yk1 (a b:Tern):Z3g (Z10 a) b=Z3g a b:=by
 unfold Z3g
 rw [Yuc];rfl
theorem Zna (r:Cube)(f:Int)(v m:Wide):Zaq r f v m=some (Z5z r f v m):=by
 unfold Zaq Z5z Zc9
 rw [Option.bind_some]
 have hz:∀i,i<24→ve Z2a i=zTern:=fun i hi=>Zt1 _ _ hi
 cases hc:(decide (f≥0)&&decide (f<24))
 ·rw [cond_false,cond_false]
  unfold Zim
  rw [Zz4,Option.bind_some]
  have e:Za1 r (Vector.replicate 24 zTern)=Z1d r:=Z80 fun i hi=>by
   rw [Zvb _ _ _ hi,Z8a _ _ hi,show ve (Vector.replicate 24 zTern) i=zTern from hz i hi,Ycb]
  rw [e]
 ·simp only [Bool.and_eq_true,decide_eq_true_eq] at hc
  obtain ⟨n,rfl⟩:∃n:Nat,f=(n:Int):=⟨f.toNat,by omega⟩
  have hn:n<24:=by omega
  rw [cond_true,cond_true,Z2m hn,Option.bind_some,Int.toNat_natCast]
  unfold Zim
  rw [Zz4,Option.bind_some]
  have e:Za1 r (Vector.set (Vector.replicate 24 zTern) n (⟨v,m⟩:Tern) hn)=Vector.ofFn fun i:_root_.Fin 24=>if n=i.1 then Z3g (ve (Z1d r) n) ⟨v,m⟩ else ve (Z1d r) i.1:=Z80 fun i hi=>by
   rw [Zvb _ _ _ hi,Zn4 _ _ _ _ _ hi]
   refine Eq.trans ?_ (Z81 (fun i=>if n=i then Z3g (ve (Z1d r) n) ⟨v,m⟩ else ve (Z1d r) i) i hi).symm
   by_cases h:n=i
   ·subst h
    simp only [if_true]
    rw [Z8a _ _ hi,Yk1]
   ·simp only [if_neg h]
    rw [Z8a _ _ hi,show ve (Vector.replicate 24 zTern) i=zTern from hz i hi,Ycb]
  exact congrArg some e
theorem Yy1:∀f:_root_.Fin 24,Zr7 (f.1:Int)=some (Zi2 (f.1:Int))∧Zdd (Zi2 (f.1:Int))=some (Zce (Zi2 (f.1:Int))):=by decide+kernel
theorem Ynh:Zdd 13=some (Zce 13):=by decide+kernel
theorem Ywl:Zdd 3=some (Zce 3):=by decide+kernel
theorem Ylc:Zb4 12=some (Z56 12):=by decide+kernel
theorem Y56 (o:Oxm):Zgc o=some (oxT o):=by
 unfold Zgc oxT Zc9
 rw [Option.bind_some]
 cases hc:decide (o.Field≥0)&&decide (o.Field<24)
 ·rfl
 ·simp only [Bool.and_eq_true,decide_eq_true_eq] at hc
  obtain ⟨h1,h2⟩:=Yy1 ⟨o.Field.toNat,by omega⟩
  have e:((o.Field.toNat:Nat):Int)=o.Field:=by omega
  simp only [e] at h1 h2
  rw [Bool.not_true,cond_false,cond_true]
  cases o.Masked
  ·rw [cond_false,cond_false,h1,Option.bind_some,h2];rfl
  ·rfl
theorem Ydq (a:Action):Znj a=some (Zbw a):=by
 have h84:Zac=some Z2a:=rfl
 unfold Znj Zbw
 cases decide (a.Kind=25)
 ·rw [cond_false,cond_false]
  cases decide (a.Kind=17)
  ·rw [cond_false,cond_false]
   cases decide (a.Kind=18)
   ·rfl
   ·rw [cond_true,cond_true,h84,Option.bind_some,Ynh,Option.bind_some,Zna,Option.bind_some,Ywl,Option.bind_some,Zna];rfl
  ·rw [cond_true,cond_true,h84,Option.bind_some,Ylc,Option.bind_some,Option.bind_some,Zna];rfl
 ·rw [cond_true,cond_true,Y56,Option.bind_some,h84,Option.bind_some,Zna];rfl
theorem Yni (a b:Action):Znh a b=some (decide (Z07 b=Z07 a)):=by
 unfold Znh
 congr 1
 rw [Bool.eq_iff_iff]
 unfold Z07
 by_cases ha:a.Kind=25
 ·by_cases hb:b.Kind=25
  ·simp [ha,hb,eq_comm]
  ·have:a.Kind≠b.Kind:=fun e=>hb (e▸ha)
   simp [ha,hb,this,eq_comm]
 ·by_cases hb:b.Kind=25
  ·have:a.Kind≠b.Kind:=fun e=>ha (e.trans hb)
   simp [ha,hb,this,eq_comm]
  ·simp [ha,hb,eq_comm]
theorem Yc2 {α:Type}(p:α→Bool):∀(l:List α) (j:Nat) (h:j<l.length),Z0f p (l.take (j+1))=bif decide (Z0f p (l.take j)<0) then (bif p l[j] then (j:Int) else -1) else Z0f p (l.take j)
 | [],j,h=>by simp at h
 | x::l,0,h=>by
  simp only [List.take_zero,List.take_succ_cons,Z0f,List.getElem_cons_zero]
  cases p x<;>rfl
 | x::l,j+1,h=>by
  have hj:j<l.length:=by simpa using h
  have ih:=Yc2 p l j hj
  have hq:=Zdr p (l.take j)
  rw [List.take_succ_cons,List.take_succ_cons,Z0f,Z0f,ih,List.getElem_cons_succ]
  generalize Z0f p (l.take j)=q at*
  generalize p l[j]=r at*
  cases p x
  ·simp only [cond_false]
   by_cases hn:q<0
   ·simp only [decide_eq_true hn,cond_true]
    cases r
    ·rfl
    ·simp only [cond_true]
     rw [decide_eq_false (show ¬((j:Int)<0) by omega),cond_false]
     have:decide ((-1:Int)<0)=true:=rfl
     rw [this,cond_true]
     omega
   ·simp only [decide_eq_false hn,cond_false]
    rw [decide_eq_false (show ¬(q+1<0) by omega),cond_false]
  ·rfl
theorem Y6n (l l2:List Action)(i:Nat)(hi:i<l2.length)(hl:l.length≤100)(hl2:l2.length≤100)(go:List Action→Int→Option (List Action)):∀(m j:Nat),j≤l.length→l.length<j+m→
  Zep l l2 (i:Int) go m (Z0f (fun b=>decide (Z07 l2[i]=Z07 b)) (l.take j)) (j:Int)=go (wr1 l l2[i]) ((i+1:Nat):Int)
 | 0,j,h1,h2=>by omega
 | m+1,j,h1,h2=>by
  have hlim:lim=4294967296:=rfl
  rw [Zep]
  by_cases hj:j<l.length
  ·have hs:=Yc2 (fun b=>decide (Z07 l2[i]=Z07 b)) l j hj
   have ih:=Y6n l l2 i hi hl hl2 go m (j+1) (by omega) (by omega)
   rw [decide_eq_true (show (j:Int)<(l.length:Int) by omega),cond_true,inc j (by omega)]
   by_cases hn:Z0f (fun b=>decide (Z07 l2[i]=Z07 b)) (l.take j)<0
   ·rw [decide_eq_true hn,cond_true] at hs
    rw [decide_eq_true hn,Z54,Z29 hj,Option.bind_some,Z54,Z29 hi,Option.bind_some,Z54,Yni,Option.bind_some,Bool.true_and]
    rw [hs] at ih
    cases hp:decide (Z07 l2[i]=Z07 l[j])
    ·rw [hp,cond_false] at ih
     rw [cond_false]
     have e:Z0f (fun b=>decide (Z07 l2[i]=Z07 b)) (l.take j)= -1:=by
      have:=Zdr (fun b=>decide (Z07 l2[i]=Z07 b)) (l.take j);omega
     rw [e];exact ih
    ·rw [hp,cond_true] at ih
     rw [cond_true];exact ih
   ·rw [decide_eq_false hn,cond_false] at hs
    rw [decide_eq_false hn]
    simp only [Zp6,Option.bind_some,Bool.false_and,cond_false]
    rw [hs] at ih
    exact ih
  ·have e:l.take j=l:=List.take_of_length_le (by omega)
   rw [decide_eq_false (by omega),cond_false,e]
   unfold wr1
   have hlt:=Zi6 (fun b=>decide (Z07 l2[i]=Z07 b)) l
   by_cases hn:Z0f (fun b=>decide (Z07 l2[i]=Z07 b)) l<0
   ·rw [decide_eq_true hn,cond_true,cond_true,Z29 hi,Option.bind_some,Z1p (by simp;omega),Option.bind_some,inc i (by omega)]
   ·obtain ⟨n,hn2⟩:∃n:Nat,Z0f (fun b=>decide (Z07 l2[i]=Z07 b)) l=(n:Int):=⟨(Z0f (fun b=>decide (Z07 l2[i]=Z07 b)) l).toNat,by omega⟩
    rw [decide_eq_false hn,cond_false,cond_false,Z29 hi,Option.bind_some,hn2,Z29 (by omega),Option.bind_some,inc i (by omega)]
theorem Y06 (l2:List Action)(hl2:l2.length≤50):∀(m i:Nat) (acc:List Action),i≤l2.length→l2.length<i+m→acc.length≤i+50→Zcw l2 m acc (i:Int)=some ((l2.drop i).foldl wr1 acc)
 | 0,i,acc,h1,h2,_=>by omega
 | m+1,i,acc,h1,h2,h3=>by
  rw [Zcw]
  by_cases hi:i<l2.length
  ·have h4:=Y6n acc l2 i hi (by omega) (by omega) (Zcw l2 m) ((((acc.length:Int):Int) - 0).toNat+1) 0 (by omega) (by omega)
   rw [List.take_zero,show ((0:Nat):Int)=0 from rfl] at h4
   have h5:=Zw8 acc l2[i]
   rw [decide_eq_true (by omega),cond_true]
   refine Eq.trans h4 ?_
   rw [Y06 l2 hl2 m (i+1) _ (by omega) (by omega) (by omega),List.drop_eq_getElem_cons hi,List.foldl_cons]
  ·rw [decide_eq_false (by omega),cond_false,List.drop_of_length_le (by omega)];rfl
theorem Yfb (s l:List Action)(hs:s.length≤50)(h:l.length≤50):Zkk s l=some (l.foldl wr1 s):=by
 unfold Zkk
 have:=Y06 l h ((((l.length:Int):Int) - 0).toNat+1) 0 s (by omega) (by omega) (by omega)
 rw [Z1p (by simp [lim];omega),Option.bind_some,List.nil_append]
 rw [show ((0:Nat):Int)=0 from rfl,List.drop_zero] at this
 exact this
def cls (k:Int)(l:List Action):List Action:=l.filter fun a=>decide (a.Kind=k)
theorem Zv2 (l:List Action)(k:Int)(hl:l.length≤50):∀(m i:Nat) (acc:List Action),i≤l.length→l.length<i+m→acc.length≤i→Zet l k m acc (i:Int)=some (acc++cls k (l.drop i))
 | 0,i,acc,h1,h2,_=>by omega
 | m+1,i,acc,h1,h2,h3=>by
  have hlim:lim=4294967296:=rfl
  rw [Zet]
  by_cases hi:i<l.length
  ·rw [decide_eq_true (by omega),cond_true,Z29 hi,Option.bind_some,inc i (by omega),List.drop_eq_getElem_cons hi]
   unfold cls
   by_cases hk:l[i].Kind=k
   ·rw [decide_eq_true hk,cond_true,Option.bind_some,Z1p (by simp;omega),Option.bind_some,Zv2 l k hl m (i+1) _ (by omega) (by omega) (by simp;omega),List.filter_cons_of_pos (by simp [hk])]
    simp [cls]
   ·rw [decide_eq_false hk,cond_false,Zv2 l k hl m (i+1) _ (by omega) (by omega) (by omega),List.filter_cons_of_neg (by simp [hk])]
    simp [cls]
  ·rw [decide_eq_false (by omega),cond_false,List.drop_of_length_le (by omega)]
   simp [cls]
theorem Zlt (l:List Action)(k:Int)(hl:l.length≤50):Z9z l k=some (cls k l):=by
 unfold Z9z
 have:=Zv2 l k hl ((((l.length:Int):Int) - 0).toNat+1) 0 [] (by omega) (by omega) (by simp)
 rw [show ((0:Nat):Int)=0 from rfl] at this
 rw [this];simp
def ltF (a b:Action):Bool:=decide (b.Oxm.Field>a.Oxm.Field)
theorem Zzj (l1:List Action)(i:Nat)(hi:i<l1.length)(hi2:l1.length≤50)(go:List Action→Int→Option (List Action))(A:List Action)(hA:A.length≤50):∀(Br S:List Action) (c:Action) (m:Nat),Br.length<m→Br.length≤50→
  Ze9 (A.length:Int) l1 (i:Int) go m (A++(Br.reverse++c::S)) ((A.length+Br.length:Nat):Int)=go (A++l1[i]::(Br.reverse++S)) ((i+1:Nat):Int)
 | [],S,c,m,hm,_=>by
  obtain ⟨m,rfl⟩:∃k,m=k+1:=⟨m - 1,by simp at hm;omega⟩
  have g0:lget (A++c::S) (A.length:Int)=some c:=by
   rw [Z75,List.getElem?_append_right (Nat.le_refl _)];simp
  have s0:List.set (A++c::S) ((A.length:Int)).toNat l1[i]=A++l1[i]::S:=by
   rw [Int.toNat_natCast,List.set_append_right _ _ (Nat.le_refl _)];simp
  rw [Ze9,decide_eq_false (by simp),cond_false,Z29 hi,Option.bind_some]
  simp only [List.reverse_nil,List.nil_append]
  rw [g0,Option.bind_some,s0,inc i (by omega)]
 | b::Br,S,c,m,hm,hb=>by
  simp only [List.length_cons] at hm hb
  obtain ⟨m,rfl⟩:∃k,m=k+1:=⟨m - 1,by omega⟩
  have e0:A++((b::Br).reverse++c::S)=(A++Br.reverse)++b::c::S:=by simp
  have ej:IntKind.i64.wrap (((A.length+(b::Br).length:Nat):Int) - 1)=((A.length+Br.length:Nat):Int):=by rw [Z2w (by simp only [List.length_cons];omega) (by simp only [List.length_cons];omega)];simp only [List.length_cons];omega
  have hlen:(A++Br.reverse).length=A.length+Br.length:=by simp
  have g0:lget ((A++Br.reverse)++b::c::S) ((A.length+Br.length:Nat):Int)=some b:=by
   rw [Z75,List.getElem?_append_right (by omega),hlen,Nat.sub_self];rfl
  have g1:lget ((A++Br.reverse)++b::c::S) ((A.length+(b::Br).length:Nat):Int)=some c:=by
   rw [Z75,List.getElem?_append_right (by simp only [List.length_cons];omega),hlen]
   have:A.length+(b::Br).length - (A.length+Br.length)=1:=by simp only [List.length_cons];omega
   rw [this];rfl
  have s1:List.set ((A++Br.reverse)++b::c::S) (((A.length+(b::Br).length:Nat):Int)).toNat b=A++(Br.reverse++b::b::S):=by
   rw [Int.toNat_natCast,List.set_append_right _ _ (by simp only [List.length_cons];omega),hlen]
   have:A.length+(b::Br).length - (A.length+Br.length)=1:=by simp only [List.length_cons];omega
   rw [this];simp
  rw [e0,Ze9,decide_eq_true (by simp only [List.length_cons];omega),cond_true,ej,g0,Option.bind_some,g1,Option.bind_some,s1,Zzj l1 i hi hi2 go A hA Br (b::S) b m (by omega) (by omega)]
  simp
theorem Y8r (l1:List Action)(i:Nat)(hi:i<l1.length)(hi2:l1.length≤50)(go:List Action→Int→Option (List Action)):∀(Ar B:List Action) (m:Nat),Ar.length<m→Ar.length+B.length≤50→
  Zfi (Ar.reverse++B) l1 (i:Int) go m (Ar.length:Int)=go ((Z0u ltF l1[i] Ar).reverse++B) ((i+1:Nat):Int)
 | [],B,m,hm,hb=>by
  have hlim:lim=4294967296:=rfl
  obtain ⟨m,rfl⟩:∃k,m=k+1:=⟨m - 1,by simp at hm;omega⟩
  simp only [List.length_nil,Nat.zero_add] at hb
  rw [Zfi,show decide ((([]:List Action).length:Int)>0)=false from rfl]
  simp only [Zp6,Option.bind_some,Bool.false_and,cond_false,List.reverse_nil,List.nil_append]
  rw [Z1p (by simp;omega),Option.bind_some]
  have e1:IntKind.i64.wrap (((B++[(⟨0,0,0,0,0,Z8q⟩:Action)]).length:Int) - 1)=((([]:List Action).length+B.reverse.length:Nat):Int):=by rw [Z2w (by simp<;>omega) (by simp<;>omega)];simp
  have:=Zzj l1 i hi hi2 go [] (by simp) B.reverse [] (⟨0,0,0,0,0,Z8q⟩:Action) ((((([]:List Action).length+B.reverse.length:Nat):Int) - (([]:List Action).length:Int)).toNat+1) (by simp<;>omega) (by simp<;>omega)
  simp only [List.nil_append,List.reverse_reverse,List.append_nil] at this
  rw [e1]
  refine Eq.trans this ?_
  simp [Z0u]
 | y::Ar,B,m,hm,hb=>by
  have hlim:lim=4294967296:=rfl
  simp only [List.length_cons] at hm hb
  obtain ⟨m,rfl⟩:∃k,m=k+1:=⟨m - 1,by omega⟩
  have ej:IntKind.i64.wrap (((y::Ar).length:Int) - 1)=(Ar.length:Int):=by rw [Z2w (by simp only [List.length_cons];omega) (by simp only [List.length_cons];omega)];simp only [List.length_cons];omega
  have e0:(y::Ar).reverse++B=Ar.reverse++y::B:=by simp
  have g0:lget (Ar.reverse++y::B) (Ar.length:Int)=some y:=by
   rw [Z75,List.getElem?_append_right (by simp)];simp
  rw [Zfi,decide_eq_true (by simp only [List.length_cons];omega),Z54,ej,e0,g0,Option.bind_some,Z54,Z29 hi,Option.bind_some,Bool.true_and,Z0u]
  show (bif ltF l1[i] y then _ else _)=_
  cases ltF l1[i] y
  ·rw [cond_false,cond_false,Z1p (by simp;omega),Option.bind_some]
   have e1:IntKind.i64.wrap (((Ar.reverse++y::B++[(⟨0,0,0,0,0,Z8q⟩:Action)]).length:Int) - 1)=(((y::Ar).reverse.length+B.reverse.length:Nat):Int):=by rw [Z2w (by simp;omega) (by simp;omega)];simp;omega
   have:=Zzj l1 i hi hi2 go (y::Ar).reverse (by simp;omega) B.reverse [] (⟨0,0,0,0,0,Z8q⟩:Action) (((((y::Ar).reverse.length+B.reverse.length:Nat):Int) - ((y::Ar).length:Int)).toNat+1) (by simp;omega) (by simp;omega)
   simp only [List.reverse_reverse,List.append_nil] at this
   rw [e1]
   have e2:Ar.reverse++y::B++[(⟨0,0,0,0,0,Z8q⟩:Action)]=(y::Ar).reverse++(B++[(⟨0,0,0,0,0,Z8q⟩:Action)]):=by simp
   have e3:(((y::Ar).length:Int))=(((y::Ar).reverse.length:Nat):Int):=by simp
   rw [e2]
   rw [e3] at this ⊢
   refine Eq.trans this ?_
   simp
  ·rw [cond_true,cond_true,Y8r l1 i hi hi2 go Ar (y::B) m (by omega) (by simp only [List.length_cons];omega)]
   simp
theorem Y1s (l:List Action)(hl:l.length≤50):∀(m i:Nat) (R:List Action),i≤l.length→l.length<i+m→R.length≤i→Zaj l m R.reverse (i:Int)=some (((l.drop i).foldl (fun R x=>Z0u ltF x R) R).reverse)
 | 0,i,R,h1,h2,_=>by omega
 | m+1,i,R,h1,h2,h3=>by
  rw [Zaj]
  by_cases hi:i<l.length
  ·have h4:=Y8r l i hi hl (Zaj l m) R [] Z0v (by unfold Z0v;omega) (by simp;omega)
   rw [List.append_nil,List.append_nil] at h4
   have e:((R.reverse).length:Int)=(R.length:Int):=by simp
   rw [decide_eq_true (by omega),cond_true,e,h4,Y1s l hl m (i+1) _ (by omega) (by omega) (by rw [Zip];omega),List.drop_eq_getElem_cons hi,List.foldl_cons]
  ·rw [decide_eq_false (by omega),cond_false,List.drop_of_length_le (by omega)];rfl
theorem Ynt (l:List Action)(hl:l.length≤50):Znf l=some (srt ltF l):=by
 unfold Znf srt
 have:=Y1s l hl ((((l.length:Int):Int) - 0).toNat+1) 0 [] (by omega) (by omega) (by simp)
 rw [show ((0:Nat):Int)=0 from rfl,List.drop_zero] at this
 exact this
theorem Z8e {α:Type}(lt:α→α→Bool)(x:α):∀P Q:List α,(∀y∈P,lt x y=true)→Z0u lt x (P++Q)=P++Z0u lt x Q
 | [],Q,_=>rfl
 | y::P,Q,h=>by
  rw [List.cons_append,Z0u,h y (by simp),cond_true,Z8e lt x P Q fun z hz=>h z (by simp [hz])];rfl
theorem Zmu {α:Type}(lt:α→α→Bool)(x:α):∀Q:List α,(∀y∈Q,lt x y=false)→Z0u lt x Q=x::Q
 | [],_=>rfl
 | y::Q,h=>by rw [Z0u,h y (by simp),cond_false]
theorem Y19 {α:Type}(lt lt':α→α→Bool)(x:α):∀P Q:List α,(∀y∈P,lt x y=lt' x y)→(∀y∈Q,lt x y=false)→Z0u lt x (P++Q)=Z0u lt' x P++Q
 | [],Q,_,hq=>by rw [List.nil_append,Zmu lt x Q hq];rfl
 | y::P,Q,hp,hq=>by
  rw [List.cons_append,Z0u,Z0u,hp y (by simp)]
  cases lt' x y
  ·rfl
  ·rw [cond_true,cond_true,Y19 lt lt' x P Q (fun z hz=>hp z (by simp [hz])) hq];rfl
def tn (k:Int):Int:=if k=18 then 0 else if k=17 then 1 else if k=25 then 2 else if k=22 then 3 else if k=0 then 4 else -1
theorem Zoi (k:Int):Z4m k=tn k:=by
 unfold Z4m tn
 simp only [Z0f]
 by_cases h1:k=18
 ·subst h1;rfl
 ·by_cases h2:k=17
  ·subst h2;rfl
  ·by_cases h3:k=25
   ·subst h3;rfl
   ·by_cases h4:k=22
    ·subst h4;rfl
    ·by_cases h5:k=0
     ·subst h5;rfl
     ·simp [h1,h2,h3,h4,h5]
theorem Yo1 (x y:Action)(k j:Int)(hx:x.Kind=k)(hy:y.Kind=j)(hk: -1≤tn k∧tn k≤4)(hj: -1≤tn j∧tn j≤4)(hne:tn k≠tn j):ltA x y=decide (tn k<tn j):=by
 unfold ltA Zd1
 have e:decide (tn k - tn j≠0)=true:=decide_eq_true (by omega)
 rw [Zgf,Zgf,hx,hy,Zoi,Zoi,Z2w (by omega) (by omega),e,cond_true,decide_eq_decide]
 omega
theorem Zpf (x y:Action)(k:Int)(hx:x.Kind=k)(hy:y.Kind=k)(hk:k≠25):ltA x y=false:=by
 unfold ltA Zd1
 rw [Zgf,Zgf,hx,hy,Int.sub_self,show IntKind.i64.wrap 0=0 by decide,show decide ((0:Int)≠0)=false from rfl,cond_false]
 have e1:(Z07 x).field=0:=by unfold Z07;rw [decide_eq_false (by rw [hx];exact hk)];rfl
 have e2:(Z07 y).field=0:=by unfold Z07;rw [decide_eq_false (by rw [hy];exact hk)];rfl
 rw [e1,e2];rfl
theorem Ynz (x y:Action)(hx:x.Kind=25)(hy:y.Kind=25):ltA x y=ltF x y:=by
 unfold ltA Zd1 ltF
 rw [Zgf,Zgf,hx,hy,Int.sub_self,show IntKind.i64.wrap 0=0 by decide,show decide ((0:Int)≠0)=false from rfl,cond_false]
 have e1:(Z07 x).field=x.Oxm.Field:=by unfold Z07;rw [decide_eq_true hx];rfl
 have e2:(Z07 y).field=y.Oxm.Field:=by unfold Z07;rw [decide_eq_true hy];rfl
 rw [e1,e2]
 by_cases h:x.Oxm.Field<y.Oxm.Field
 ·rw [decide_eq_true h,cond_true];rfl
 ·rw [decide_eq_false h,cond_false]
  cases decide (x.Oxm.Field>y.Oxm.Field)<;>rfl
theorem Zid:∀(l E D C B A:List Action),(∀y∈E,y.Kind=0)→(∀y∈D,y.Kind=22)→(∀y∈C,y.Kind=25)→(∀y∈B,y.Kind=17)→(∀y∈A,y.Kind=18)→(∀y∈l,0≤tn y.Kind)→
  l.foldl (fun R x=>Z0u ltA x R) (E++(D++(C++(B++A))))=(cls 0 l).reverse++E++((cls 22 l).reverse++D++((cls 25 l).foldl (fun R x=>Z0u ltF x R) C++((cls 17 l).reverse++B++((cls 18 l).reverse++A))))
 | [],E,D,C,B,A,_,_,_,_,_,_=>by simp [cls]
 | x::l,E,D,C,B,A,hE,hD,hC,hB,hA,hl=>by
  have hx:=hl x (by simp)
  have hl':∀y∈l,0≤tn y.Kind:=fun y hy=>hl y (by simp [hy])
  have rk:∀k:Int, -1≤tn k∧tn k≤4:=fun k=>by unfold tn;split<;>(try split)<;>(try split)<;>(try split)<;>(try split)<;>omega
  have far:∀(y:Action) (k j:Int),x.Kind=k→y.Kind=j→tn k≠tn j→ltA x y=decide (tn k<tn j):=fun y k j h1 h2 h3=>Yo1 x y k j h1 h2 (rk k) (rk j) h3
  rw [List.foldl_cons]
  have hxk:x.Kind=18∨x.Kind=17∨x.Kind=25∨x.Kind=22∨x.Kind=0:=by
   unfold tn at hx
   by_cases h1:x.Kind=18
   ·exact .inl h1
   ·by_cases h2:x.Kind=17
    ·exact .inr (.inl h2)
    ·by_cases h3:x.Kind=25
     ·exact .inr (.inr (.inl h3))
     ·by_cases h4:x.Kind=22
      ·exact .inr (.inr (.inr (.inl h4)))
      ·by_cases h5:x.Kind=0
       ·exact .inr (.inr (.inr (.inr h5)))
       ·simp [h1,h2,h3,h4,h5] at hx
  have c1:∀k,x.Kind=k→cls k (x::l)=x::cls k l:=fun k h=>by unfold cls;rw [List.filter_cons_of_pos (by simp [h])]
  have c0:∀k,x.Kind≠k→cls k (x::l)=cls k l:=fun k h=>by unfold cls;rw [List.filter_cons_of_neg (by simp [h])]
  rcases hxk with h | h | h | h | h
  ·rw [Z8e ltA x E _ fun y hy=>(far y 18 0 h (hE y hy) (by decide)).trans rfl,Z8e ltA x D _ fun y hy=>(far y 18 22 h (hD y hy) (by decide)).trans rfl,Z8e ltA x C _ fun y hy=>(far y 18 25 h (hC y hy) (by decide)).trans rfl,Z8e ltA x B _ fun y hy=>(far y 18 17 h (hB y hy) (by decide)).trans rfl,Zmu ltA x A fun y hy=>Zpf x y 18 h (hA y hy) (by decide),
    Zid l E D C B (x::A) hE hD hC hB (fun y hy=>by rcases List.mem_cons.1 hy with rfl | hy;exact h;exact hA y hy) hl',c1 18 h,c0 17 (by rw [h];decide),c0 25 (by rw [h];decide),c0 22 (by rw [h];decide),c0 0 (by rw [h];decide)]
   simp
  ·rw [Z8e ltA x E _ fun y hy=>(far y 17 0 h (hE y hy) (by decide)).trans rfl,Z8e ltA x D _ fun y hy=>(far y 17 22 h (hD y hy) (by decide)).trans rfl,Z8e ltA x C _ fun y hy=>(far y 17 25 h (hC y hy) (by decide)).trans rfl,Zmu ltA x (B++A) fun y hy=>(by
    rcases List.mem_append.1 hy with hy | hy
    ·exact Zpf x y 17 h (hB y hy) (by decide)
    ·exact (far y 17 18 h (hA y hy) (by decide)).trans rfl)]
   have:=Zid l E D C (x::B) A hE hD hC (fun y hy=>by rcases List.mem_cons.1 hy with rfl | hy;exact h;exact hB y hy) hA hl'
   rw [List.cons_append] at this
   rw [this,c1 17 h,c0 18 (by rw [h];decide),c0 25 (by rw [h];decide),c0 22 (by rw [h];decide),c0 0 (by rw [h];decide)]
   simp
  ·rw [Z8e ltA x E _ fun y hy=>(far y 25 0 h (hE y hy) (by decide)).trans rfl,Z8e ltA x D _ fun y hy=>(far y 25 22 h (hD y hy) (by decide)).trans rfl,Y19 ltA ltF x C (B++A) (fun y hy=>Ynz x y h (hC y hy)) (fun y hy=>(by
    rcases List.mem_append.1 hy with hy | hy
    ·exact (far y 25 17 h (hB y hy) (by decide)).trans rfl
    ·exact (far y 25 18 h (hA y hy) (by decide)).trans rfl)),
    Zid l E D (Z0u ltF x C) B A hE hD (fun y hy=>by rcases List.mem_cons.1 ((Zno ltF x C).mem_iff.1 hy) with rfl | hy;exact h;exact hC y hy) hB hA hl',c1 25 h,c0 18 (by rw [h];decide),c0 17 (by rw [h];decide),c0 22 (by rw [h];decide),c0 0 (by rw [h];decide)]
   rw [List.foldl_cons]
  ·rw [Z8e ltA x E _ fun y hy=>(far y 22 0 h (hE y hy) (by decide)).trans rfl,Zmu ltA x (D++(C++(B++A))) fun y hy=>(by
    rcases List.mem_append.1 hy with hy | hy
    ·exact Zpf x y 22 h (hD y hy) (by decide)
    ·rcases List.mem_append.1 hy with hy | hy
     ·exact (far y 22 25 h (hC y hy) (by decide)).trans rfl
     ·rcases List.mem_append.1 hy with hy | hy
      ·exact (far y 22 17 h (hB y hy) (by decide)).trans rfl
      ·exact (far y 22 18 h (hA y hy) (by decide)).trans rfl)]
   have:=Zid l E (x::D) C B A hE (fun y hy=>by rcases List.mem_cons.1 hy with rfl | hy;exact h;exact hD y hy) hC hB hA hl'
   rw [List.cons_append] at this
   rw [this,c1 22 h,c0 18 (by rw [h];decide),c0 17 (by rw [h];decide),c0 25 (by rw [h];decide),c0 0 (by rw [h];decide)]
   simp
  ·rw [Zmu ltA x (E++(D++(C++(B++A)))) fun y hy=>(by
    rcases List.mem_append.1 hy with hy | hy
    ·exact Zpf x y 0 h (hE y hy) (by decide)
    ·rcases List.mem_append.1 hy with hy | hy
     ·exact (far y 0 22 h (hD y hy) (by decide)).trans rfl
     ·rcases List.mem_append.1 hy with hy | hy
      ·exact (far y 0 25 h (hC y hy) (by decide)).trans rfl
      ·rcases List.mem_append.1 hy with hy | hy
       ·exact (far y 0 17 h (hB y hy) (by decide)).trans rfl
       ·exact (far y 0 18 h (hA y hy) (by decide)).trans rfl)]
   have:=Zid l (x::E) D C B A (fun y hy=>by rcases List.mem_cons.1 hy with rfl | hy;exact h;exact hE y hy) hD hC hB hA hl'
   rw [List.cons_append] at this
   rw [this,c1 0 h,c0 18 (by rw [h];decide),c0 17 (by rw [h];decide),c0 25 (by rw [h];decide),c0 22 (by rw [h];decide)]
   simp
theorem Yjn (l:List Action)(h:∀y∈l,0≤tn y.Kind):srt ltA l=cls 18 l++(cls 17 l++(srt ltF (cls 25 l)++(cls 22 l++cls 0 l))):=by
 unfold srt
 have:=Zid l [] [] [] [] [] (by simp) (by simp) (by simp) (by simp) (by simp) h
 simp only [List.nil_append,List.append_nil] at this
 rw [this]
 simp
theorem Zkp (k:Int)(p:Action→Bool)(l:List Action)(h:∀a,a.Kind=k→p a=true):cls k (l.filter p)=cls k l:=by
 unfold cls
 rw [List.filter_filter]
 apply List.filter_congr
 intro a _
 by_cases hk:a.Kind=k
 ·simp [hk,h a hk]
 ·simp [hk]
theorem Yge (k:Int)(p:Action→Bool)(l:List Action)(h:∀a,a.Kind=k→p a=false):cls k (l.filter p)=[]:=by
 unfold cls
 rw [List.filter_filter,List.filter_eq_nil_iff]
 intro a _
 by_cases hk:a.Kind=k
 ·simp [hk,h a hk]
 ·simp [hk]
theorem Ysg (s:List Action)(h:s.length≤50):Zj4 s=some (Z5h s):=by
 have hlim:lim=4294967296:=rfl
 have lc:∀k,(cls k s).length≤50:=fun k=>Nat.le_trans (List.length_filter_le ..) (by omega)
 have l18:=lc 18
 have l17:=lc 17
 have l25:=lc 25
 have l22:=lc 22
 have l0:=lc 0
 have ls:(srt ltF (cls 25 s)).length≤50:=by rw [(Yc7 _ _).length_eq];exact l25
 unfold Zj4 Z5h
 rw [Zlt s 18 (by omega),Option.bind_some,Zlt s 17 (by omega),Option.bind_some,Z1p (by omega),Option.bind_some,Zlt s 25 (by omega),Option.bind_some,Ynt _ (by omega),Option.bind_some,Z1p (by rw [List.length_append];omega),Option.bind_some,Zlt s 22 (by omega),Option.bind_some]
 have hk:∀(b:Bool) (a:Action),Z5i b a=true→0≤tn a.Kind:=fun b a ha=>by
  unfold Z5i at ha
  rw [Zoi] at ha
  simp only [Bool.not_eq_true',Bool.or_eq_false_iff,decide_eq_false_iff_not] at ha
  omega
 have kp:∀(b:Bool) (k:Int),0≤tn k→k≠0→∀a:Action,a.Kind=k→Z5i b a=true:=fun b k hk h0 a ha=>by
  unfold Z5i
  rw [Zoi,ha,decide_eq_false (by omega),decide_eq_false h0];simp
 have hany:(s.any fun a=>decide (a.Kind=22))=decide (((cls 22 s).length:Int)>0):=by
  rw [Bool.eq_iff_iff,List.any_eq_true,decide_eq_true_eq]
  constructor
  ·rintro ⟨a,ha,hk⟩
   have:a∈cls 22 s:=List.mem_filter.2 ⟨ha,hk⟩
   have:=List.length_pos_of_mem this
   omega
  ·intro hp
   obtain ⟨a,ha⟩:=List.exists_mem_of_length_pos (show 0<(cls 22 s).length by omega)
   have:=List.mem_filter.1 ha
   exact ⟨a,this.1,this.2⟩
 rw [Yjn _ (fun y hy=>hk _ y (List.mem_filter.1 hy).2),Zkp 18 _ _ (kp _ 18 (by decide) (by decide)),Zkp 17 _ _ (kp _ 17 (by decide) (by decide)),Zkp 25 _ _ (kp _ 25 (by decide) (by decide)),Zkp 22 _ _ (kp _ 22 (by decide) (by decide)),hany]
 cases hg:decide (((cls 22 s).length:Int)>0)
 ·have e22:cls 22 s=[]:=List.eq_nil_of_length_eq_zero (by rw [decide_eq_false_iff_not] at hg;omega)
  have e0:cls 0 (s.filter (Z5i false))=cls 0 s:=Zkp 0 _ _ fun a ha=>by
   unfold Z5i
   rw [Zoi,ha];rfl
  rw [cond_false,Zlt s 0 (by omega),Option.bind_some,Z1p (by simp only [List.length_append];omega),Option.bind_some,e22,e0]
  simp
 ·have e0:cls 0 (s.filter (Z5i true))=[]:=Yge 0 _ _ fun a ha=>by
   unfold Z5i
   rw [ha];simp
  rw [cond_true,Z1p (by simp only [List.length_append];omega),Option.bind_some,e0]
  simp
end Go.Proofs.YtinplddjjalohaaGreatDoor.W
namespace Go.Proofs.YtinplddjjalohaaGreatDoor.W
open Go Go.Wb
def Zqs (G:Int→Header→List Out)(h:Header)(x:Atom):List Out:=bif x.Group then G x.Port (Z31 x.Rewrite h) else [⟨x.Port,x.Max,Z31 x.Rewrite h⟩]
end Go.Proofs.YtinplddjjalohaaGreatDoor.W
namespace Go.Proofs.YtinplddjjalohaaGreatDoor.W
open Go Go.Wb
theorem Zt3 (acts:List Action)(ha:acts.length≤1000):∀(m i:Nat) (r:Cube) (o:List Atom),i≤acts.length→acts.length<i+m→o.length≤i→Z8m acts m r o (i:Int)=some (o++(doT (acts.drop i) r).1,(doT (acts.drop i) r).2)
 | 0,i,r,o,h1,h2,_=>by omega
 | m+1,i,r,o,h1,h2,hb=>by
  have hlim:lim=4294967296:=rfl
  rw [Z8m]
  by_cases hi:i<acts.length
  ·rw [decide_eq_true (by omega),cond_true,Z29 hi,Option.bind_some,List.drop_eq_getElem_cons hi,doT]
   unfold Zd3 Zki Ziz
   by_cases h0:acts[i].Kind=0
   ·have hj:∀x:Atom,Zji o (Z8m acts m) r (i:Int) x=some (o++x::(doT (acts.drop (i+1)) r).1,(doT (acts.drop (i+1)) r).2):=fun x=>by
     unfold Zji
     rw [Z1p (by simp only [List.length_cons,List.length_nil];omega),Option.bind_some,inc i (by omega),Zt3 acts ha m (i+1) r _ (by omega) (by omega) (by simp only [List.length_append,List.length_cons,List.length_nil];omega)]
     simp
    rw [decide_eq_true h0]
    simp only [cond_true,Option.bind_some,Bool.true_or]
    cases hp:decide (acts[i].Port=4294967293)
    ·simp only [hp,cond_false]
     rw [hj]
    ·simp only [hp,cond_true]
     rw [hj]
   ·rw [decide_eq_false h0]
    simp only [cond_false,Option.bind_some,Bool.false_or]
    by_cases h4:acts[i].Kind=22
    ·rw [decide_eq_true h4]
     simp only [cond_true,Option.bind_some]
     rw [Z1p (by simp only [List.length_cons,List.length_nil];omega),Option.bind_some,inc i (by omega),Zt3 acts ha m (i+1) r _ (by omega) (by omega) (by simp only [List.length_append,List.length_cons,List.length_nil];omega)]
     simp
    ·rw [decide_eq_false h4]
     simp only [cond_false,Option.bind_some]
     rw [Ydq,Option.bind_some,Zz4,Option.bind_some,inc i (by omega),Zt3 acts ha m (i+1) _ o (by omega) (by omega) (by omega)]
  ·rw [decide_eq_false (by omega),cond_false,List.drop_of_length_le (by omega)];simp [doT]
theorem Y4v (acts:List Action)(r:Cube)(ha:acts.length≤1000):Zfj acts r=some (doT acts (Z1d r)):=by
 unfold Zfj
 rw [Zuf,Option.bind_some]
 have:=Zt3 acts ha ((((acts.length:Int):Int) - 0).toNat+1) 0 (Z1d r) [] (by omega) (by omega) (by simp)
 rw [show ((0:Nat):Int)=0 from rfl] at this
 rw [this];simp
end Go.Proofs.YtinplddjjalohaaGreatDoor.W
namespace Go.Proofs.YtinplddjjalohaaGreatDoor.W
open Go Go.Wb
theorem Yu4 (r s:Cube)(h:Header):Z31 (Za1 r s) h=Z31 s (Z31 r h):=Z80 fun f hf=>by
 rw [Z8n _ _ _ hf,Z8n _ _ _ hf,Z8n _ _ _ hf,Zvb _ _ _ hf]
 unfold Z3g Z10
 exact Zb0 fun i hi=>by
  simp only [Z3j,Z66,Z5y _ _ _ hi]
  cases wt (ve h f) i<;>cases wt (ve r f).Value i<;>cases wt (ve r f).Mask i<;>cases wt (ve s f).Value i<;>cases wt (ve s f).Mask i<;>rfl
theorem Yno (r:Cube)(h:Header):Z31 (Z1d r) h=Z31 r h:=Z80 fun f hf=>by
 rw [Z8n _ _ _ hf,Z8n _ _ _ hf,Z8a _ _ hf]
 unfold Z10
 exact Zb0 fun i hi=>by
  simp only [Z3j,Z66,Z5y _ _ _ hi]
  cases wt (ve h f) i<;>cases wt (ve r f).Value i<;>cases wt (ve r f).Mask i<;>rfl
theorem Zqu (G:Int→Header→List Out)(h:Header):∀(l:List Action) (r:Cube),doA G l [] (Z31 r h)=((doT l r).1.flatMap (Zqs G h),Z31 (doT l r).2 h)
 | [],r=>rfl
 | a::l,r=>by
  rw [doA,doT]
  unfold Zd3 Zki
  by_cases h0:a.Kind=0
  ·rw [decide_eq_true h0]
   simp only [cond_true,Bool.true_or,List.flatMap_cons]
   rw [Z94,Zqu G h l r]
   rfl
  ·rw [decide_eq_false h0]
   by_cases h1:a.Kind=22
   ·rw [decide_eq_true h1]
    simp only [cond_true,cond_false,Bool.false_or,List.flatMap_cons]
    rw [Z94,Zqu G h l r]
    rfl
   ·rw [decide_eq_false h1]
    simp only [cond_false,Bool.false_or]
    rw [←Yu4,Zqu G h l _]
end Go.Proofs.YtinplddjjalohaaGreatDoor.W
namespace Go.Proofs.YtinplddjjalohaaGreatDoor.W
open Go Go.Wb
end Go.Proofs.YtinplddjjalohaaGreatDoor.W
namespace Go.Proofs.YtinplddjjalohaaGreatDoor.W
open Go Go.Wb
theorem Yyl (a b:Wide):Zq8 a b=some (Z6w a b):=rfl
theorem Y51 (a:Wide):Zhp a=some (Z3m a):=rfl
theorem Y97 (a:Wide):Ziu a=some (Z3m a):=by
 unfold Ziu
 congr 1
 rw [Yme,Bool.eq_iff_iff]
 obtain ⟨h,l⟩:=a
 simp [Z0s]
theorem bvn (i:Nat)(h:i<18446744073709551616):((BitVec.ofInt 64 (i:Int)).toNat:Int)=(i:Int):=by
 rw [BitVec.toNat_ofInt];omega
theorem Ypg (i:Nat)(h:i<128):Zb4 (i:Int)=some (Z56 i):=by
 unfold Zb4
 have h1:(decide ((i:Int)<0)||decide ((i:Int)>127))=false:=by simp;omega
 rw [h1,cond_false]
 unfold Z56
 by_cases h2:i<64
 ·rw [Za9 h2,cond_true,decide_eq_true (by omega),cond_true,bvn i (by omega),Zrp,Option.bind_some]
  rfl
 ·have e:IntKind.i64.wrap ((i:Int) - 64)=((i - 64:Nat):Int):=by rw [Z2w (by omega) (by omega)];omega
  rw [Zb7 h2,cond_false,decide_eq_false (by omega),cond_false,e,bvn (i - 64) (by omega),Zrp,Option.bind_some]
  rfl
theorem Y7m (a:Wide)(i:Nat)(h:i<128):Ziw a (i:Int)=some (wt a i):=by
 unfold Ziw
 rw [Zy9 i h,Option.bind_some,Yck,Option.bind_some,Y51,Option.bind_some,Y2x a i h]
theorem Yvw (a:Wide)(i:Nat)(h:i<128):Zmb a (i:Int)=some (wt a i):=by
 unfold Zmb
 rw [Ypg i h,Option.bind_some,Zzp,Option.bind_some,Y97,Option.bind_some,Y2x a i h]
theorem Yek (n:Nat)(h:n<18446744073709551616):Zgo .and .i64 (IntKind.i64.wrap (n:Int)) 127=((n % 128:Nat):Int):=by
 have e:(BitVec.ofInt 64 (IntKind.i64.wrap (n:Int))&&& BitVec.ofInt 64 127).toNat=n % 128:=by
  have e1:BitVec.ofInt 64 (IntKind.i64.wrap (n:Int))=BitVec.ofNat 64 n:=by
   apply BitVec.eq_of_toNat_eq
   rw [BitVec.toNat_ofInt,BitVec.toNat_ofNat]
   simp only [IntKind.wrap,IntKind.signed,IntKind.bits]
   simp
   omega
  have e2:BitVec.ofInt 64 127=BitVec.ofNat 64 127:=rfl
  rw [e1,e2,BitVec.toNat_and,BitVec.toNat_ofNat,BitVec.toNat_ofNat,Nat.mod_eq_of_lt h]
  exact Nat.and_two_pow_sub_one_eq_mod n 7
 show IntKind.i64.wrap ((BitVec.ofInt 64 (IntKind.i64.wrap (n:Int))&&& BitVec.ofInt 64 127).toNat:Int)=_
 rw [e,Z2w (by omega) (by omega)]
def cnt (x:BitVec 64):Nat:=ds 1 64 x.toNat
theorem Y3h (x:BitVec 64):Zif x=some (cnt x:Int):=by
 obtain ⟨h0,ha,hb,hbb,hd,he,hf⟩:=Yts x.toNat x.isLt
 have sh:∀(x:BitVec 64) (n:BitVec 64),Z43 x (n.toNat:Int)=some (x>>>n.toNat):=fun x n=>Ydo x n.toNat
 unfold Zif
 simp only [sh,Option.bind_some]
 congr 1
 have t1:((1:BitVec 64)).toNat=1:=rfl
 have t2:((2:BitVec 64)).toNat=2:=rfl
 have t4:((4:BitVec 64)).toNat=4:=rfl
 have t8:((8:BitVec 64)).toNat=8:=rfl
 have t16:((16:BitVec 64)).toNat=16:=rfl
 have t32:((32:BitVec 64)).toNat=32:=rfl
 rw [t1,t2,t4,t8,t16,t32]
 generalize hA:(x>>>1&&& (6148914691236517205:BitVec 64))+(x&&& (6148914691236517205:BitVec 64))=A
 have eA:A.toNat=(x.toNat / 2&&& 6148914691236517205)+(x.toNat&&& 6148914691236517205):=by
  rw [←hA,BitVec.toNat_add,BitVec.toNat_and,BitVec.toNat_and,BitVec.toNat_ushiftRight,Nat.shiftRight_eq_div_pow]
  exact Nat.mod_eq_of_lt ha
 generalize hB:(A>>>2&&& (3689348814741910323:BitVec 64))+(A&&& (3689348814741910323:BitVec 64))=B
 have eB:B.toNat=(A.toNat / 4&&& 3689348814741910323)+(A.toNat&&& 3689348814741910323):=by
  rw [←hB,BitVec.toNat_add,BitVec.toNat_and,BitVec.toNat_and,BitVec.toNat_ushiftRight,Nat.shiftRight_eq_div_pow]
  rw [eA]
  exact Nat.mod_eq_of_lt hb
 generalize hC:(B>>>4+B)&&& (1085102592571150095:BitVec 64)=D
 have eC:D.toNat=(B.toNat / 16+B.toNat)&&& 1085102592571150095:=by
  rw [←hC,BitVec.toNat_and,BitVec.toNat_add,BitVec.toNat_ushiftRight,Nat.shiftRight_eq_div_pow]
  have:(B.toNat / 2 ^ 4+B.toNat) % 2 ^ 64=B.toNat / 16+B.toNat:=by
   rw [eB,eA]
   exact Nat.mod_eq_of_lt hbb
  rw [this];rfl
 rw [←eA,←eB,←eC] at hd he hf h0
 generalize hE:D+D>>>8=E
 have eE:E.toNat=D.toNat+D.toNat / 256:=by
  rw [←hE,BitVec.toNat_add,BitVec.toNat_ushiftRight,Nat.shiftRight_eq_div_pow]
  exact Nat.mod_eq_of_lt hd
 rw [←eE] at he hf h0
 generalize hG:E+E>>>16=G
 have eG:G.toNat=E.toNat+E.toNat / 65536:=by
  rw [←hG,BitVec.toNat_add,BitVec.toNat_ushiftRight,Nat.shiftRight_eq_div_pow]
  exact Nat.mod_eq_of_lt he
 rw [←eG] at hf h0
 generalize hK:G+G>>>32=K
 have eK:K.toNat=G.toNat+G.toNat / 4294967296:=by
  rw [←hK,BitVec.toNat_add,BitVec.toNat_ushiftRight,Nat.shiftRight_eq_div_pow]
  exact Nat.mod_eq_of_lt hf
 rw [←eK] at h0
 rw [Yek _ K.isLt,h0]
 rfl
theorem Y8i (x:BitVec 64):cnt x≤64:=by
 unfold cnt
 rw [Zqf]
 exact Nat.le_trans (List.length_filter_le ..) (by simp)
def Z8b (a:Wide):List Nat:=(List.range 128).filter (wt a)
theorem Ymk (a:Wide):(Z8b a).length=cnt a.Lo+cnt a.Hi:=by
 have e:List.range (64+64)=List.range 64++(List.range 64).map (64+ ·):=List.range_add
 unfold Z8b cnt
 rw [show (128:Nat)=64+64 from rfl,e,List.filter_append,List.length_append,Zqf,Zqf,List.filter_map,List.length_map]
 congr 2
theorem Yow (a:Wide):Zlu a=some ((Z8b a).length:Int):=by
 have h1:=Y8i a.Hi
 have h2:=Y8i a.Lo
 rw [Ymk]
 unfold Zlu
 rw [Y3h,Option.bind_some,Y3h,Option.bind_some]
 generalize cnt a.Hi=p at*
 generalize cnt a.Lo=q at*
 rw [Z2w (by omega) (by omega)]
 congr 1
 omega
def Z5n (a:Wide):Nat→List Int
 | 0=>[]
 | n+1=>bif wt a n then (n:Int)::Z5n a n else Z5n a n
theorem Y9h (a:Wide):∀n,(Z5n a n).length=((List.range n).filter (wt a)).length
 | 0=>rfl
 | n+1=>by
  rw [List.range_succ,List.filter_append,List.length_append,Z5n,←Y9h a n]
  cases h:wt a n<;>simp [h]
theorem Ze0 (a:Wide):∀(n:Nat) (i:Int),i∈Z5n a n↔ ∃k:Nat,i=(k:Int)∧k<n∧wt a k=true
 | 0,i=>by simp [Z5n]
 | n+1,i=>by
  rw [Z5n]
  cases h:wt a n
  ·rw [cond_false,Ze0 a n i]
   constructor
   ·rintro ⟨k,rfl,h1,h2⟩;exact ⟨k,rfl,by omega,h2⟩
   ·rintro ⟨k,rfl,h1,h2⟩
    have:k≠n:=fun e=>by rw [e,h] at h2;cases h2
    exact ⟨k,rfl,by omega,h2⟩
  ·rw [cond_true,List.mem_cons,Ze0 a n i]
   constructor
   ·rintro (rfl | ⟨k,rfl,h1,h2⟩)
    ·exact ⟨n,rfl,by omega,h⟩
    ·exact ⟨k,rfl,by omega,h2⟩
   ·rintro ⟨k,rfl,h1,h2⟩
    by_cases e:k=n
    ·left;rw [e]
    ·right;exact ⟨k,rfl,by omega,h2⟩
theorem Yq7 (a:Wide):∀(n m:Nat) (acc:List Int),n≤128→n<m→acc.length+(Z5n a n).length=(Z8b a).length→Zbs a m acc ((n:Int) - 1)=some (acc++Z5n a n):=by
 have hlim:lim=4294967296:=rfl
 have hup:(Z8b a).length≤128:=by
  unfold Z8b;exact Nat.le_trans (List.length_filter_le ..) (by simp)
 intro n
 induction n with
 | zero=>
  intro m acc h1 h2 h3
  obtain ⟨m,rfl⟩:∃k,m=k+1:=⟨m - 1,by omega⟩
  rw [Zbs,decide_eq_false (by omega),Zp6,Option.bind_some,Bool.false_and,cond_false]
  simp [Z5n]
 | succ n ih=>
  intro m acc h1 h2 h3
  obtain ⟨m,rfl⟩:∃k,m=k+1:=⟨m - 1,by omega⟩
  have e:((n+1:Nat):Int) - 1=(n:Int):=by omega
  rw [e,Zbs,decide_eq_true (by omega),Z54,Yow,Option.bind_some,Bool.true_and]
  by_cases hc:acc.length<(Z8b a).length
  ·have e2:IntKind.i64.wrap ((n:Int) - 1)=(n:Int) - 1:=Z2w (by omega) (by omega)
   rw [decide_eq_true (by omega),cond_true,Y7m a n (by omega),Option.bind_some,e2,Z5n]
   rw [Z5n] at h3
   cases hw:wt a n
   ·rw [hw,cond_false] at h3
    rw [cond_false,cond_false,ih m acc (by omega) (by omega) h3]
   ·rw [hw,cond_true,List.length_cons] at h3
    rw [cond_true,cond_true,Z1p (by simp;omega),Option.bind_some,ih m _ (by omega) (by omega) (by simp;omega)]
    simp
  ·rw [decide_eq_false (by omega),cond_false]
   have:Z5n a (n+1)=[]:=List.eq_nil_of_length_eq_zero (by omega)
   rw [this];simp
end Go.Proofs.YtinplddjjalohaaGreatDoor.W
namespace Go.Proofs.YtinplddjjalohaaGreatDoor.W
open Go Go.Wb
theorem Yda (t:Tern):Zad t=some (Z10 t):=rfl
theorem Ybw (f:Int→Option (Tern×Bool))(g:Nat→Tern)(hf:∀i:Nat,i<24→f (i:Int)=some (g i,true))(b:Cube):∀(m i:Nat),i+m=24→Z7w f m i (Z3b g b i)=some (Vector.ofFn (fun i=>g i.1),true)
 | 0,i,h=>by
  have:i=24:=by omega
  subst this
  rw [Z7w,Z9w]
 | m+1,i,h=>by
  rw [Z7w,hf i (by omega),Option.bind_some,Bool.not_true,cond_false,Z2m (by omega),Option.bind_some]
  show Z7w f m (i+1) (Vector.set (Z3b g b i) i (g i) _)=_
  rw [Z9j g b i (by omega),Ybw f g hf b m (i+1) (by omega)]
theorem Y00 (c:Cube):Zgi c=some (Z1d c):=by
 unfold Zgi Zdp
 have:=Ybw (fun x=>Zil x c) (fun i=>Z10 (ve c i)) (fun i hi=>by unfold Zil;rw [Z2m hi,Option.bind_some,Z36,Zr4];rfl) (Vector.replicate 24 zTern) 24 0 rfl
 rw [Z9u] at this
 rw [show ((24:Int)).toNat=24 from rfl,this]
 rfl
theorem Y3n (c:Cube):∀(m i:Nat),i≤24→24<i+m→Zfo m (Z3b (fun i=>Z10 (ve c i)) c i) (i:Int)=some (Z1d c)
 | 0,i,h1,h2=>by omega
 | m+1,i,h1,h2=>by
  rw [Zfo]
  by_cases h:i<24
  ·have e:IntKind.i64.wrap ((i:Int)+1)=((i+1:Nat):Int):=by rw [Z2w (by omega) (by omega)];omega
   rw [decide_eq_true (by omega),cond_true,Z2m h,Option.bind_some,Yda,Option.bind_some,Option.bind_some,Z36,Zc7 _ _ _ _ h,if_neg (by omega),e]
   show Zfo m (Vector.set (Z3b (fun i=>Z10 (ve c i)) c i) i (Z10 (ve c i)) _) _=_
   rw [Z9j (fun i=>Z10 (ve c i)) c i h,Y3n c m (i+1) (by omega) (by omega)]
  ·have:i=24:=by omega
   subst this
   rw [decide_eq_false (by omega),cond_false,Z9w];rfl
theorem Yxx (c:Cube):Zk3 c=some (Z1d c):=by
 unfold Zk3
 have:=Y3n c (((24:Int) - 0).toNat+1) 0 (by omega) (by decide)
 rw [Z9u] at this
 exact this
def Yui (x y:Tern):Bool:= !Z3m (Z21 (Z21 x.Mask y.Mask) (Z6w x.Value y.Value))
def apart (a b:Atom):Bool:= !(a.Group==b.Group)||decide (a.Port≠b.Port)||decide (a.Max≠b.Max)||(List.range' 0 24).any fun f=>Yui (ve a.Rewrite f) (ve b.Rewrite f)
def Z5q (t:Tern)(i:Nat)(on:Bool):Tern:=bif on then ⟨wor (Z3e (Z10 t).Value (Z56 i)) (Z56 i),wor (Z10 t).Mask (Z56 i)⟩ else ⟨Z3e (Z10 t).Value (Z56 i),wor (Z10 t).Mask (Z56 i)⟩
theorem Y53 (t:Tern)(i:Nat)(h:i<128)(on:Bool):Zjh t (i:Int) on=some (Z5q t i on):=by
 unfold Zjh
 rw [Zy9 i h,Option.bind_some,Zr4,Option.bind_some,Zy7,Option.bind_some,Zox,Option.bind_some]
 cases on
 ·rfl
 ·rw [cond_true,Zy7];rfl
def Yjf (c:Cube)(f bit:Nat)(on:Bool):Option Cube:=
 bif wt (ve c f).Mask bit&&(wt (ve c f).Value bit==on) then none else some (Vector.ofFn fun k=>if f=k.1 then Z5q (ve c f) bit (!on) else ve c k.1)
theorem Yt5 (c:Cube)(f:Nat)(hf:f<24)(t:Tern):Vector.set c f t hf=Vector.ofFn fun k=>if f=k.1 then t else ve c k.1:=Z80 fun j hj=>by
 rw [Zn4 _ _ _ _ _ hj,Z81 (fun k=>if f=k then t else ve c k) j hj]
def sgl (x y:Tern)(k:Nat):Bool×Bool:=bif wt x.Mask k==wt y.Mask k then (false,false) else (true,bif wt x.Mask k then wt x.Value k else wt y.Value k)
def rp (c:Cube)(x y:Tern)(f k:Nat):Option Cube:=bif (sgl x y k).1 then Yjf c f k (sgl x y k).2 else none
def Z48 (t:Tern)(v:Wide):Bool:=Z3m (Z21 (Z6w t.Value v) t.Mask)
theorem Z42 (t:Tern)(v:Wide):Z48 t v=true↔ ∀k,k<128→wt t.Mask k=true→wt t.Value k=wt v k:=by
 unfold Z48
 rw [Zb6]
 constructor
 ·intro h k hk hm
  have:=h k hk
  rw [Z3j,Zem,hm] at this
  revert this
  cases wt t.Value k<;>cases wt v k<;>decide
 ·intro h k hk
  rw [Z3j,Zem]
  cases hm:wt t.Mask k
  ·simp
  ·rw [h k hk hm];simp
theorem Yad (t:Tern)(v:Wide):Zja t v=some (Z48 t v):=rfl
def Z0d (c:Cube)(h:Header):Bool:=(List.range' 0 24).all fun f=>Z48 (ve c f) (ve h f)
theorem Y6j (c:Cube)(h:Header):∀(l:List Tern) (i:Nat),i+l.length=24→l=(Vector.toList c).drop i→Zbo h l i=some ((List.range' i l.length).all fun f=>Z48 (ve c f) (ve h f))
 | [],i,h1,h2=>by rw [Zbo];rfl
 | x::l,i,h1,h2=>by
  simp only [List.length_cons] at h1
  have hi:i<(Vector.toList c).length:=by simp;omega
  rw [List.drop_eq_getElem_cons hi] at h2
  obtain ⟨rfl,h3⟩:=List.cons.inj h2
  have hx:(Vector.toList c)[i]=ve c i:=by rw [Vector.getElem_toList,Z7b _ _ (by omega)]
  rw [Zbo,Z2m (by omega),Option.bind_some,Z36,Yad,Option.bind_some,Y6j c h l (i+1) (by omega) h3,List.length_cons,List.range'_succ,List.all_cons,hx]
  cases Z48 (ve c i) (ve h i)<;>rfl
theorem Yjz (c:Cube)(h:Header):Zm0 c h=some (Z0d c h):=by
 unfold Zm0 Z0d
 have:=Y6j c h (Vector.toList c) 0 (by simp) rfl
 rw [this]
 simp
theorem Z4i (c:Cube)(h:Header):Z0d c h=true↔ ∀f,f<24→Z48 (ve c f) (ve h f)=true:=by
 unfold Z0d
 rw [List.all_eq_true]
 constructor
 ·intro hh f hf
  exact hh f (by rw [List.mem_range'_1];omega)
 ·intro hh f hf
  exact hh f (by have:=(List.mem_range'_1.1 hf).2;omega)
theorem Zwo (t:Tern)(v:Wide):Z48 (Z10 t) v=Z48 t v:=by
 rw [Bool.eq_iff_iff,Z42,Z42]
 unfold Z10
 constructor
 ·intro h k hk hm
  have:=h k hk hm
  rw [Z3j,hm,Bool.and_true] at this
  exact this
 ·intro h k hk hm
  have hm':wt t.Mask k=true:=hm
  rw [Z3j,hm',Bool.and_true]
  exact h k hk hm'
theorem Y7v (c:Cube)(h:Header):Z0d (Z1d c) h=Z0d c h:=by
 rw [Bool.eq_iff_iff,Z4i,Z4i]
 constructor
 ·intro hh f hf
  have:=hh f hf
  rwa [Z8a _ _ hf,Zwo] at this
 ·intro hh f hf
  rw [Z8a _ _ hf,Zwo]
  exact hh f hf
theorem Y9s (t:Tern)(i:Nat)(hi:i<128)(on:Bool)(v:Wide):Z48 (Z5q t i on) v=true↔(∀k,k<128→k≠i→wt t.Mask k=true→wt t.Value k=wt v k)∧wt v i=on:=by
 have hm:∀k,k<128→wt (Z5q t i on).Mask k=(wt t.Mask k||decide (i=k)):=fun k hk=>by
  unfold Z5q Z10
  cases on<;>simp only [cond_true,cond_false,Z66,Zj9 i k hi hk]
 have hv:∀k,k<128→wt (Z5q t i on).Value k=if i=k then on else (wt t.Value k&&wt t.Mask k):=fun k hk=>by
  unfold Z5q Z10
  by_cases e:i=k
  ·subst e
   cases on<;>simp [cond_true,cond_false,Z66,Z5y _ _ _ hk,Z3j,Zj9 i i hi hi]
  ·cases on<;>simp [cond_true,cond_false,Z66,Z5y _ _ _ hk,Z3j,Zj9 i k hi hk,e]
 rw [Z42]
 constructor
 ·intro h
  refine ⟨fun k hk hne hmk=>?_,?_⟩
  ·have:=h k hk (by rw [hm k hk,hmk];rfl)
   rw [hv k hk,if_neg (fun e=>hne e.symm),hmk,Bool.and_true] at this
   exact this
  ·have:=h i hi (by rw [hm i hi];simp)
   rw [hv i hi,if_pos rfl] at this
   exact this.symm
 ·rintro ⟨h1,h2⟩ k hk hmk
  rw [hv k hk]
  by_cases e:i=k
  ·subst e;rw [if_pos rfl,h2]
  ·rw [if_neg e]
   rw [hm k hk] at hmk
   have hmk':wt t.Mask k=true:=by simpa [e] using hmk
   rw [hmk',Bool.and_true]
   exact h1 k hk (fun e'=>e e'.symm) hmk'
end Go.Proofs.YtinplddjjalohaaGreatDoor.W
namespace Go.Proofs.YtinplddjjalohaaGreatDoor.W
open Go Go.Wb
def Zvo (h:Header)(r:Rule):Bool:=Z0d r.Cube h
end Go.Proofs.YtinplddjjalohaaGreatDoor.W
namespace Go.Proofs.YtinplddjjalohaaGreatDoor.W
open Go Go.Wb
theorem Y9n (k:Int): -1≤Z4m k∧Z4m k≤4:=by
 unfold Z4m
 have h1:=Zdr (fun x=>decide (k=x)) [18,17,25,22,0]
 have h2:=Zi6 (fun x=>decide (k=x)) [18,17,25,22,0]
 simp only [List.length_cons,List.length_nil] at h2
 omega
theorem Zsn (a b:Action):ltA a b=decide (Z4m (Z07 a).kind<Z4m (Z07 b).kind∨(Z4m (Z07 a).kind=Z4m (Z07 b).kind∧(Z07 a).field<(Z07 b).field)):=by
 have h1:=Y9n (Z07 a).kind
 have h2:=Y9n (Z07 b).kind
 unfold ltA Zd1
 rw [wr (by omega) (by omega)]
 generalize Z4m (Z07 a).kind=x at*
 generalize Z4m (Z07 b).kind=y at*
 generalize (Z07 a).field=f at*
 generalize (Z07 b).field=g at*
 by_cases e:x - y=0
 ·have e1:decide (x - y≠0)=false:=decide_eq_false (by omega)
  rw [e1,cond_false]
  by_cases h3:f<g
  ·have e2:decide (f<g)=true:=decide_eq_true h3
   rw [e2,cond_true]
   simp;omega
  ·have e2:decide (f<g)=false:=decide_eq_false h3
   rw [e2,cond_false]
   by_cases h4:f>g
   ·have e3:decide (f>g)=true:=decide_eq_true h4
    rw [e3,cond_true]
    simp;omega
   ·have e3:decide (f>g)=false:=decide_eq_false h4
    rw [e3,cond_false]
    simp;omega
 ·have e1:decide (x - y≠0)=true:=decide_eq_true (by omega)
  rw [e1,cond_true,decide_eq_decide]
  omega
theorem Y82:Swo ltA where
 asym:=fun a b h=>by
  rw [Zsn,decide_eq_true_eq] at h
  rw [Zsn,decide_eq_false_iff_not]
  omega
 neg:=fun a b c h k=>by
  rw [Zsn,decide_eq_false_iff_not] at h k
  rw [Zsn,decide_eq_false_iff_not]
  omega
theorem Yv1:Z73 ltA Z9e:=fun x y=>⟨Zd1 x y,Yap x y,rfl⟩
theorem Y5k (s:List Action)(h:s.length≤100000):Z8d s=some (Z5h s):=by
 have hlim:lim=4294967296:=rfl
 unfold Z8d Z7l Z5h
 rw [Y87 s Zjw (fun a=>decide (a.Kind=22)) (fun _ _=>rfl),Option.bind_some,Z1p (by simp;omega),Option.bind_some,List.nil_append]
 have hf:∀a:Action,Zc8 a (s.any fun a=>decide (a.Kind=22))=some (!Z5i (s.any fun a=>decide (a.Kind=22)) a):=fun a=>by
  unfold Zc8 Z5i
  rw [Zrm,Option.bind_some,Bool.not_not]
 rw [Y5j s _ (fun a=> !Z5i (s.any fun a=>decide (a.Kind=22)) a) (fun a _=>hf a) (by omega),Option.bind_some]
 simp only [Bool.not_not]
 rw [Yxt Y82 Yv1 _ (Nat.le_trans (List.length_filter_le ..) h)]
 rfl
theorem Znp (s:List Action):(Z5h s).length≤s.length:=by
 unfold Z5h
 rw [Z3p Y82]
 exact List.length_filter_le ..
def Z2l (a b:Tern):Option Tern:=bif Z3m (Z21 (Z6w a.Value b.Value) (Z21 a.Mask b.Mask)) then some ⟨wor (Z10 a).Value (Z10 b).Value,wor a.Mask b.Mask⟩ else none
def Z1v {α:Type}(z:α):Option α→α×Bool
 | some a=>(a,true)
 | none=>(z,false)
theorem Y9e (a b:Tern):Zjd a b=some (Z1v zTern (Z2l a b)):=by
 have h:Zjd a b=bif !(Z3m (Z21 (Z6w a.Value b.Value) (Z21 a.Mask b.Mask))) then some (zTern,false) else some (⟨wor (Z10 a).Value (Z10 b).Value,wor a.Mask b.Mask⟩,true):=rfl
 rw [h]
 unfold Z2l
 cases Z3m (Z21 (Z6w a.Value b.Value) (Z21 a.Mask b.Mask))<;>rfl
def Z74 (g:Nat→Option Tern):Option Cube:=bif (List.range 24).all (fun i=>(g i).isSome) then some (Vector.ofFn fun i=>(g i.1).getD zTern) else none
theorem Zi9 {g:Nat→Option Tern}{c:Cube}(h:Z74 g=some c)(i:Nat)(hi:i<24):g i=some (ve c i):=by
 unfold Z74 at h
 cases ha:(List.range 24).all (fun i=>(g i).isSome)
 ·rw [ha] at h;cases h
 ·rw [ha,cond_true] at h
  rw [List.all_eq_true] at ha
  have h1:=ha i (by simpa using hi)
  obtain ⟨x,hx⟩:=Option.isSome_iff_exists.1 h1
  rw [←Option.some.inj h,Z81 (fun i=>(g i).getD zTern) i hi,hx];rfl
theorem Y3e {g:Nat→Option Tern}(h:Z74 g=none):∃i,i<24∧g i=none:=by
 unfold Z74 at h
 cases ha:(List.range 24).all (fun i=>(g i).isSome)
 ·rw [List.all_eq_false] at ha
  obtain ⟨i,hi,h1⟩:=ha
  exact ⟨i,by simpa using hi,by simpa using h1⟩
 ·rw [ha] at h;cases h
theorem Ysb {g:Nat→Option Tern}{c:Cube}(h:∀i,i<24→g i=some (ve c i)):Z74 g=some c:=by
 cases hc:Z74 g with
 | none=>obtain ⟨i,hi,h1⟩:=Y3e hc;rw [h i hi] at h1;cases h1
 | some d=>
  congr 1
  refine Z80 fun i hi=>?_
  have:=Zi9 hc i hi
  rw [h i hi] at this
  exact (Option.some.inj this).symm
theorem Yao {g:Nat→Option Tern}(i:Nat)(hi:i<24)(h:g i=none):Z74 g=none:=by
 cases hc:Z74 g with
 | none=>rfl
 | some c=>have:=Zi9 hc i hi;rw [h] at this;cases this
theorem Y4g (f:Int→Option (Tern×Bool))(g:Nat→Option Tern)(hf:∀i:Nat,i<24→f (i:Int)=some (Z1v zTern (g i))):∀(m i:Nat) (b:Cube),i+m=24→(∀j,j<i→g j=some (ve b j))→
  Z7w f m i b=some (Z1v Z2a (Z74 g))
 | 0,i,b,h,hb=>by
  rw [Z7w,Ysb (c:=b) (fun j hj=>hb j (by omega))];rfl
 | m+1,i,b,h,hb=>by
  rw [Z7w,hf i (by omega),Option.bind_some]
  cases hg:g i with
  | none=>
   rw [Yao i (by omega) hg];rfl
  | some t=>
   show (chk 24 (i:Int)).bind _=_
   rw [Z2m (by omega),Option.bind_some]
   refine Y4g f g hf m (i+1) _ (by omega) fun j hj=>?_
   rw [Zn4 _ _ _ _ _ (by omega)]
   by_cases e:i=j
   ·subst e;rw [if_pos rfl,hg];rfl
   ·rw [if_neg e];exact hb j (by omega)
theorem Yiu (f:Int→Option (Tern×Bool))(g:Nat→Option Tern)(hf:∀i:Nat,i<24→f (i:Int)=some (Z1v zTern (g i))):Zdp f=some (Z1v Z2a (Z74 g)):=by
 unfold Zdp
 exact Y4g f g hf 24 0 _ rfl fun j hj=>by omega
def Z4n (a b:Cube):Option Cube:=Z74 fun i=>Z2l (ve a i) (ve b i)
theorem Zxl (a b:Cube):Zch a b=some (Z1v Z2a (Z4n a b)):=by
 unfold Zch
 rw [Yiu _ (fun i=>Z2l (ve a i) (ve b i)) (fun i hi=>by unfold Zjr;rw [Z2m hi,Option.bind_some,Option.bind_some,Z36,Z36,Y9e];rfl)]
 rfl
def Z5e (r c:Cube):Option Cube:=bif (List.range 24).all (fun i=>(Z2l (ve r i) (ve c i)).isSome) then some (Vector.ofFn fun i=>Z10 ⟨(ve c i.1).Value,Z3e (ve c i.1).Mask (ve r i.1).Mask⟩) else none
theorem Ycc (f:Int→Option Tern)(g:Nat→Tern)(hf:∀i:Nat,i<24→f (i:Int)=some (g i))(b:Cube):∀(m i:Nat),i+m=24→Zay f m i (Z3b g b i)=some (Vector.ofFn (fun i=>g i.1))
 | 0,i,h=>by
  have:i=24:=by omega
  subst this
  rw [Zay,Z9w]
 | m+1,i,h=>by
  rw [Zay,hf i (by omega),Option.bind_some,Z2m (by omega),Option.bind_some]
  show Zay f m (i+1) (Vector.set (Z3b g b i) i (g i) _)=_
  rw [Z9j g b i (by omega),Ycc f g hf b m (i+1) (by omega)]
theorem Yd1 (f:Int→Option Tern)(g:Nat→Tern)(hf:∀i:Nat,i<24→f (i:Int)=some (g i)):Zly f=some (Vector.ofFn (fun i=>g i.1)):=by
 unfold Zly
 have:=Ycc f g hf (Vector.replicate 24 zTern) 24 0 rfl
 rw [Z9u] at this
 exact this
theorem Y5i (r c:Cube):∀(l:List Tern) (i:Nat),i+l.length=24→l=(Vector.toList r).drop i→(∀j,j<i→(Z2l (ve r j) (ve c j)).isSome=true)→Zbj c r l i=some (Z1v Z2a (Z5e r c))
 | [],i,h1,h2,h3=>by
  have hi:i=24:=by simpa using h1
  subst hi
  have hall:(List.range 24).all (fun i=>(Z2l (ve r i) (ve c i)).isSome)=true:=by
   rw [List.all_eq_true];intro i hi;exact h3 i (by simpa using hi)
  unfold Z5e
  rw [hall,cond_true,Zbj,Yd1 _ (fun i=>Z10 ⟨(ve c i).Value,Z3e (ve c i).Mask (ve r i).Mask⟩) (fun i hi=>by
   unfold Znd
   rw [Z2m hi,Option.bind_some,Option.bind_some,Option.bind_some,Z36,Z36];rfl)]
  rfl
 | x::l,i,h1,h2,h3=>by
  simp only [List.length_cons] at h1
  have hi:i<(Vector.toList r).length:=by simp;omega
  rw [List.drop_eq_getElem_cons hi] at h2
  obtain ⟨rfl,h4⟩:=List.cons.inj h2
  have hx:(Vector.toList r)[i]=ve r i:=by rw [Vector.getElem_toList,Z7b _ _ (by omega)]
  rw [Zbj,hx,Z2m (by omega),Option.bind_some,Z36,Y9e,Option.bind_some]
  cases hm:Z2l (ve r i) (ve c i) with
  | none=>
   have hall:(List.range 24).all (fun i=>(Z2l (ve r i) (ve c i)).isSome)=false:=by
    rw [List.all_eq_false]
    exact ⟨i,by simp;omega,by simp [hm]⟩
   unfold Z5e
   rw [hall];rfl
  | some t=>
   exact Y5i r c l (i+1) (by omega) h4 fun j hj=>by
    by_cases e:j=i
    ·subst e;rw [hm];rfl
    ·exact h3 j (by omega)
theorem Ynq (r c:Cube):Znx r c=some (Z1v Z2a (Z5e r c)):=by
 unfold Znx
 exact Y5i r c (Vector.toList r) 0 (by simp) rfl fun j hj=>by omega
def Zea (c:Cube)(o:Oxm):Cube:=if h:0≤o.Field∧o.Field.toNat<24 then Vector.set c o.Field.toNat (oxT o) h.2 else c
theorem Yb2 (c:Cube)(o:Oxm)(n:Nat)(hn:o.Field=(n:Int))(h:n<24):Zea c o=Vector.set c n (oxT o) h:=by
 unfold Zea
 rw [dif_pos (by omega)]
 simp [hn]
theorem Y1u (c:Cube)(o:Oxm)(h:¬(0≤o.Field∧o.Field<24)):Zea c o=c:=by
 unfold Zea
 rw [dif_neg (by omega)]
theorem Zuu:∀(l:List Oxm) (i:Nat) (c:Cube),Zco l i c=some (l.foldl Zea c)
 | [],i,c=>rfl
 | o::l,i,c=>by
  rw [Zco,List.foldl_cons]
  unfold Z9v
  rw [Option.bind_some]
  by_cases h:0≤o.Field∧o.Field<24
  ·obtain ⟨n,hn⟩:∃n:Nat,o.Field=(n:Int):=⟨o.Field.toNat,by omega⟩
   have hn24:n<24:=by have:=h.2;omega
   have hd:(decide (o.Field≥0)&&decide (o.Field<24))=true:=by simp;omega
   have hc:chk 24 o.Field=some ⟨n,hn24⟩:=by rw [hn];exact Z2m hn24
   rw [hd,cond_true,Y84,Option.bind_some,hc,Option.bind_some,Yb2 c o n hn hn24,Zuu l (i+1)]
  ·have hd:(decide (o.Field≥0)&&decide (o.Field<24))=false:=by
    rw [Bool.and_eq_false_iff,decide_eq_false_iff_not,decide_eq_false_iff_not];omega
   rw [hd,cond_false,Y1u c o h,Zuu l (i+1)]
def Yrg (l:List Oxm):Cube:=l.foldl Zea Z2a
def Z7d (f:Flow):Cube:=Z1d (Yrg f.Match)
theorem Y1m (f:Flow):Ze5 f=some (Z7d f):=by
 unfold Ze5 Zrj Zhn
 rw [Option.bind_some,Zuu,Option.bind_some,Y00];rfl
def ofI (l:List Inst)(k:Int):Option Inst:=l.find? fun i=>decide (i.Kind=k)
theorem Y0x (s:List Inst)(f:Inst→Option Bool)(p:Inst→Bool)(hf:∀x∈s,f x=some (p x)):Zhu s f=some (Z0f p s):=by
 unfold Zhu
 rw [show ((s.length:Int)).toNat=s.length by omega]
 exact Zde p (fun i=>by rw [Zek]) (fun m i=>by rw [Zek]) hf
def Zzf:Inst:=⟨0,0,Z0s,Z0s,[]⟩
theorem Z8x (l:List Inst)(k:Int)(hl:∀i∈l,i.Acts.length≤12):Z6q l k=some (Z1v Zzf (ofI l k)):=by
 have hlim:lim=4294967296:=rfl
 unfold Z6q ofI
 rw [Y0x l (fun x=>Zmh x k) (fun i=>decide (i.Kind=k)) (fun _ _=>rfl),Option.bind_some]
 rcases Zsp (fun i:Inst=>decide (i.Kind=k)) l with ⟨h1,h2⟩ | ⟨n,h1,h2,h3,h4⟩
 ·rw [decide_eq_true h1,cond_true,h2];rfl
 ·have:=hl _ (List.getElem_mem h2)
  rw [decide_eq_false (by omega),cond_false,h1,Z29 h2,Option.bind_some,h3]
  unfold Z7l
  rw [Z1p (by simp;omega),Option.bind_some]
  rfl
theorem Z9b {l:List Inst}{k:Int}{i:Inst}(h:ofI l k=some i):i∈l:=List.mem_of_find?_eq_some h
end Go.Proofs.YtinplddjjalohaaGreatDoor.W
namespace Go.Proofs.YtinplddjjalohaaGreatDoor.W
open Go Go.Wb
theorem Y1b {a:Wide}(h:Z3m a=false):∃k,k<128∧wt a k=true:=by
 by_cases hx:∃k,k<128∧wt a k=true
 ·exact hx
 ·exfalso
  have:Z3m a=true:=(Zb6 a).2 fun k hk=>by
   cases hq:wt a k
   ·rfl
   ·exact absurd ⟨k,hk,hq⟩ hx
  rw [this] at h;cases h
theorem Zuh {a b c:Tern}(h:Z2l a b=some c)(v:Wide):Z48 c v=true↔Z48 a v=true∧Z48 b v=true:=by
 unfold Z2l at h
 cases hz:Z3m (Z21 (Z6w a.Value b.Value) (Z21 a.Mask b.Mask))
 ·rw [hz] at h;cases h
 ·rw [hz,cond_true] at h
  rw [Zb6] at hz
  obtain rfl:=Option.some.inj h
  rw [Z42,Z42,Z42]
  unfold Z10
  simp only [Z66,Z3j]
  simp only [Z3j,Zem] at hz
  constructor
  ·intro h1
   refine ⟨fun k hk hm=>?_,fun k hk hm=>?_⟩
   ·have h2:=h1 k hk
    have h3:=hz k hk
    revert h2 h3
    rw [hm]
    cases wt b.Mask k<;>cases wt a.Value k<;>cases wt b.Value k<;>cases wt v k<;>simp
   ·have h2:=h1 k hk
    have h3:=hz k hk
    revert h2 h3
    rw [hm]
    cases wt a.Mask k<;>cases wt a.Value k<;>cases wt b.Value k<;>cases wt v k<;>simp
  ·rintro ⟨ha,hb⟩ k hk hm
   have h1:=ha k hk
   have h2:=hb k hk
   revert hm h1 h2
   cases wt a.Mask k<;>cases wt b.Mask k<;>cases wt a.Value k<;>cases wt b.Value k<;>cases wt v k<;>simp
theorem Ydu {a b:Tern}(h:Z2l a b=none)(v:Wide)(ha:Z48 a v=true)(hb:Z48 b v=true):False:=by
 unfold Z2l at h
 cases hz:Z3m (Z21 (Z6w a.Value b.Value) (Z21 a.Mask b.Mask))
 ·obtain ⟨k,hk,h1⟩:=Y1b hz
  have h2:=(Z42 a v).1 ha k hk
  have h3:=(Z42 b v).1 hb k hk
  simp only [Z3j,Zem] at h1
  revert h1 h2 h3
  cases wt a.Mask k<;>cases wt b.Mask k<;>cases wt a.Value k<;>cases wt b.Value k<;>cases wt v k<;>simp
 ·rw [hz] at h;cases h
theorem Yxb {a b c:Cube}(h:Z4n a b=some c)(v:Header):Z0d c v=true↔Z0d a v=true∧Z0d b v=true:=by
 unfold Z4n at h
 rw [Z4i,Z4i,Z4i]
 constructor
 ·intro h1
  exact ⟨fun f hf=>((Zuh (Zi9 h f hf) _).1 (h1 f hf)).1,fun f hf=>((Zuh (Zi9 h f hf) _).1 (h1 f hf)).2⟩
 ·rintro ⟨ha,hb⟩ f hf
  exact (Zuh (Zi9 h f hf) _).2 ⟨ha f hf,hb f hf⟩
theorem Y98 {a b:Cube}(h:Z4n a b=none)(v:Header)(ha:Z0d a v=true)(hb:Z0d b v=true):False:=by
 unfold Z4n at h
 obtain ⟨f,hf,h1⟩:=Y3e h
 exact Ydu h1 (ve v f) ((Z4i _ _).1 ha f hf) ((Z4i _ _).1 hb f hf)
theorem Y21 {a b:Tern}(h:(Z2l a b).isSome=true)(k:Nat)(hk:k<128):((wt a.Value k !=wt b.Value k)&&(wt a.Mask k&&wt b.Mask k))=false:=by
 unfold Z2l at h
 cases hz:Z3m (Z21 (Z6w a.Value b.Value) (Z21 a.Mask b.Mask))
 ·rw [hz] at h;cases h
 ·rw [Zb6] at hz
  have:=hz k hk
  simpa only [Z3j,Zem] using this
end Go.Proofs.YtinplddjjalohaaGreatDoor.W
namespace Go.Proofs.YtinplddjjalohaaGreatDoor.W
open Go Go.Wb
def Zc5 (x a:Tern):List Int:=Z5n (Z3e x.Mask a.Mask) 128
theorem Yhx (a x:Tern):Zm5 a x=some (Zc5 x a):=by
 unfold Zm5 Zc5
 rw [Zox,Option.bind_some]
 have:=Yq7 (Z3e x.Mask a.Mask) 128 Z0v [] (by omega) (by unfold Z0v;omega) (by rw [Y9h];simp [Z8b])
 simpa using this
def Z92 (c:Cube)(f:Nat)(t:Tern):Cube:=Vector.ofFn fun k=>if f=k.1 then t else ve c k.1
theorem Yc8 (c:Cube)(f:Nat)(hf:f<24)(t:Tern):Vector.set c f t hf=Z92 c f t:=Yt5 c f hf t
theorem Zm8 (c:Cube)(f:Nat)(t:Tern)(g:Nat)(hg:g<24):ve (Z92 c f t) g=if f=g then t else ve c g:=Z81 (fun k=>if f=k then t else ve c k) g hg
def Z57 (xv:Wide)(f:Nat):List Int→Cube→List Cube×Cube
 | [],left=>([],left)
 | i::l,left=>(Z92 left f (Z5q (ve left f) i.toNat (!wt xv i.toNat))::(Z57 xv f l (Z92 left f (Z5q (ve left f) i.toNat (wt xv i.toNat)))).1,(Z57 xv f l (Z92 left f (Z5q (ve left f) i.toNat (wt xv i.toNat)))).2)
def Zbi (x:Cube):Nat→Nat→Cube→List Cube
 | 0,f,left=>[]
 | m+1,f,left=>(Z57 (ve x f).Value f (Zc5 (ve x f) (ve left f)) left).1++Zbi x m (f+1) (Z57 (ve x f).Value f (Zc5 (ve x f) (ve left f)) left).2
def Z41 (a x:Cube):Bool:=(Z4n a x).isSome
def Z8f (a x:Cube):List Cube:=bif Z41 a x then Zbi x 24 0 (Z1d a) else [Z1d a]
def Zrs (l:List Int):Prop:= ∀i∈l,∃k:Nat,i=(k:Int)∧k<128
theorem Zxt (x a:Tern):Zrs (Zc5 x a):=fun i hi=>by
 obtain ⟨k,h1,h2,_⟩:=(Ze0 _ _ _).1 hi
 exact ⟨k,h1,h2⟩
theorem Y48 (sg:Type)(y:sg→Cube→Option (Lp sg))(go:Nat→Cube→Lp sg→Option (Lp sg))(f:Nat)(hf:f<24)(x:Tern):∀(l:List Int) (k:Nat) (left:Cube) (s:sg),Zrs l→
  Zfg sg go f x y l k left (.go s)=(yf y (Z57 x.Value f l left).1 s).bind fun r=>match r with
   | .go s'=>go (f+1) (Z57 x.Value f l left).2 (.go s')
   | .out c s'=>some (.out c s')
 | [],k,left,s,_=>rfl
 | i::l,k,left,s,hl=>by
  obtain ⟨b,rfl,hb⟩:=hl i (by simp)
  have ih:=fun left s=>Y48 sg y go f hf x l (k+1) left s fun j hj=>hl j (by simp [hj])
  rw [Zfg,Y7m _ b hb,Option.bind_some,Z2m hf,Option.bind_some,Z36,Y53 _ b hb,Option.bind_some,Option.bind_some,Yc8]
  rw [Z57,Int.toNat_natCast,yf]
  show (y s _).bind _=_
  cases y s (Z92 left f (Z5q (ve left f) b (!wt x.Value b))) with
  | none=>rfl
  | some r=>
   cases r with
   | out c q=>rfl
   | go q=>
    simp only [Option.bind_some,Lp.isGo,Bool.not_true,cond_false]
    rw [Z36,Y53 _ b hb,Option.bind_some,Yc8,ih]
theorem Y9a (sg:Type)(y:sg→Cube→Option (Lp sg))(x:Cube):∀(l:List Tern) (f:Nat) (left:Cube) (s:sg),f+l.length=24→l=(Vector.toList x).drop f→
  Zao sg y l f left (.go s)=yf y (Zbi x l.length f left) s
 | [],f,left,s,h1,h2=>rfl
 | t::l,f,left,s,h1,h2=>by
  simp only [List.length_cons] at h1
  have hi:f<(Vector.toList x).length:=by simp;omega
  rw [List.drop_eq_getElem_cons hi] at h2
  obtain ⟨rfl,h3⟩:=List.cons.inj h2
  have hx:(Vector.toList x)[f]=ve x f:=by rw [Vector.getElem_toList,Z7b _ _ (by omega)]
  have ih:=fun left s=>Y9a sg y x l (f+1) left s (by omega) h3
  rw [Zao,Z2m (by omega),Option.bind_some,Z36,hx,Yhx,Option.bind_some,List.length_cons,Zbi,Zud]
  cases hb:Zc5 (ve x f) (ve left f) with
  | nil=>
   rw [decide_eq_true (by simp),cond_true,ih]
   rfl
  | cons i bl=>
   rw [decide_eq_false (by simp;omega),cond_false,Y48 sg y _ f (by omega) (ve x f) _ 0 left s (by rw [←hb];exact Zxt _ _)]
   cases yf y (Z57 (ve x f).Value f (i::bl) left).1 s with
   | none=>rfl
   | some r=>
    cases r with
    | out c q=>rfl
    | go q=>exact ih _ q
theorem Ygv (sg:Type)(y:sg→Cube→Option (Lp sg))(a x:Cube)(s:sg):Zc6 sg y (.go s) a x=yf y (Z8f a x) s:=by
 unfold Zc6 Z8f Z41
 rw [Y00,Option.bind_some,Zxl,Option.bind_some]
 cases Z4n a x with
 | none=>
  show (bif (!false) then _ else _)=yf y [Z1d a] s
  rw [Bool.not_false,cond_true,yf]
  show (y s (Z1d a)).bind _=_
  cases y s (Z1d a) with
  | none=>rfl
  | some r=>cases r<;>rfl
 | some z=>
  show (bif (!true) then _ else _)=yf y (Zbi x 24 0 (Z1d a)) s
  rw [Bool.not_true,cond_false]
  have:=Y9a sg y x (Vector.toList x) 0 (Z1d a) s (by simp) rfl
  rw [this];simp
theorem Y5t (xv:Wide)(f:Nat):∀(l:List Int) (left:Cube) (g:Nat),g<24→g≠f→ve (Z57 xv f l left).2 g=ve left g
 | [],left,g,_,_=>rfl
 | i::l,left,g,hg,hne=>by
  rw [Z57]
  show ve (Z57 xv f l _).2 g=_
  rw [Y5t xv f l _ g hg hne,Zm8 _ _ _ _ hg,if_neg (fun e=>hne e.symm)]
theorem Yh7 (a x:Cube):Z41 a x=(List.range' 0 24).all fun f=>(Z2l (ve a f) (ve x f)).isSome:=by
 unfold Z41 Z4n Z74
 rw [List.range_eq_range']
 cases (List.range' 0 24).all fun f=>(Z2l (ve a f) (ve x f)).isSome<;>rfl
end Go.Proofs.YtinplddjjalohaaGreatDoor.W
namespace Go.Proofs.YtinplddjjalohaaGreatDoor.W
open Go Go.Wb
def Zf7 (a b:Tern):Bool:=Z3m (Z3e b.Mask a.Mask)&&Z48 b a.Value
theorem Yrv (a b:Tern):Zke a b=some (Zf7 a b):=by
 unfold Zke Zf7
 rw [Zox,Option.bind_some,Y51,Option.bind_some,Yad]
 cases Z3m (Z3e b.Mask a.Mask)<;>rfl
def Z60 (a b:Cube):Bool:=(List.range' 0 24).all fun f=>Zf7 (ve a f) (ve b f)
theorem Y8a (a b:Cube):∀(l:List Tern) (i:Nat),i+l.length=24→l=(Vector.toList a).drop i→Zbl b l i=some ((List.range' i l.length).all fun f=>Zf7 (ve a f) (ve b f))
 | [],i,h1,h2=>by rw [Zbl];rfl
 | x::l,i,h1,h2=>by
  simp only [List.length_cons] at h1
  have hi:i<(Vector.toList a).length:=by simp;omega
  rw [List.drop_eq_getElem_cons hi] at h2
  obtain ⟨rfl,h3⟩:=List.cons.inj h2
  have hx:(Vector.toList a)[i]=ve a i:=by rw [Vector.getElem_toList,Z7b _ _ (by omega)]
  rw [Zbl,Z2m (by omega),Option.bind_some,Z36,Yrv,Option.bind_some,Y8a a b l (i+1) (by omega) h3,List.length_cons,List.range'_succ,List.all_cons,hx]
  cases Zf7 (ve a i) (ve b i)<;>rfl
theorem Ywz (a b:Cube):Zmi a b=some (Z60 a b):=by
 unfold Zmi Z60
 have:=Y8a a b (Vector.toList a) 0 (by simp) rfl
 rw [this];simp
theorem Ynf {a b:Cube}(h:Z60 a b=true):Z41 a b=true:=by
 rw [Yh7]
 unfold Z60 at h
 rw [List.all_eq_true] at h ⊢
 intro f hf
 have h1:=h f hf
 unfold Zf7 at h1
 rw [Bool.and_eq_true] at h1
 have h2:=(Z42 _ _).1 h1.2
 unfold Z2l
 have:Z3m (Z21 (Z6w (ve a f).Value (ve b f).Value) (Z21 (ve a f).Mask (ve b f).Mask))=true:=(Zb6 _).2 fun k hk=>by
  have h3:=h2 k hk
  simp only [Z3j,Zem]
  revert h3
  cases wt (ve b f).Mask k<;>cases wt (ve a f).Mask k<;>cases wt (ve a f).Value k<;>cases wt (ve b f).Value k<;>simp
 rw [this];rfl
def Znv (c:Cube):Header:=Vector.ofFn fun f=>(Z10 (ve c f.1)).Value
theorem Y0r (c:Cube)(b:Header):∀(l:List Tern) (i:Nat),i+l.length=24→l=(Vector.toList c).drop i→Zaz l i (Z3b (fun f=>(Z10 (ve c f)).Value) b i)=some (Znv c)
 | [],i,h1,h2=>by
  have:i=24:=by simpa using h1
  subst this
  rw [Zaz,Z9w];rfl
 | x::l,i,h1,h2=>by
  simp only [List.length_cons] at h1
  have hi:i<(Vector.toList c).length:=by simp;omega
  rw [List.drop_eq_getElem_cons hi] at h2
  obtain ⟨rfl,h3⟩:=List.cons.inj h2
  have hx:(Vector.toList c)[i]=ve c i:=by rw [Vector.getElem_toList,Z7b _ _ (by omega)]
  rw [Zaz,Zr4,Option.bind_some,Z2m (by omega),Option.bind_some,hx]
  show Zaz l (i+1) (Vector.set (Z3b (fun f=>(Z10 (ve c f)).Value) b i) i ((Z10 (ve c i)).Value) _)=_
  rw [Z9j (fun f=>(Z10 (ve c f)).Value) b i (by omega),Y0r c b l (i+1) (by omega) h3]
theorem Yj4 (c:Cube):Zn0 c=some (Znv c):=by
 unfold Zn0
 have:=Y0r c (Vector.replicate 24 Z0s) (Vector.toList c) 0 (by simp) rfl
 rw [Z9u] at this
 exact this
def Z4c:Header:=Vector.replicate 24 Z0s
def Z5k (c:Cube):List Cube→Nat→Option Nat
 | [],i=>none
 | x::l,i=>bif Z41 c x then some i else Z5k c l (i+1)
def Z3y (R:Cube→Int→Header×Bool×Int):List Cube→Int→Header×Bool×Int
 | [],n=>(Z4c,false,n)
 | p::ps,n=>bif (R p n).2.1||decide ((R p n).2.2<0) then R p n else Z3y R ps (R p n).2.2
def Z4a (free:Bool):Nat→Cube→List Cube→Int→Header×Bool×Int
 | 0,_,_,_=>(Z4c,false, -1)
 | d+1,c,l,n=>bif !free&&decide (n<1) then (Z4c,false, -1) else
   bif l.any (Z60 c) then (Z4c,false,bif free then n else n - 1) else
    match Z5k c l 0 with
    | none=>(Znv c,true,bif free then n else n - 1)
    | some i=>match l[i]? with
     | none=>(Z4c,false, -1)
     | some x=>Z3y (fun p m=>Z4a free d p (l.drop (i+1)) m) (Z8f c x) (bif free then n else n - 1)
theorem Zoz (c:Cube):∀(l:List Cube) (k:Nat),match Z5k c l k with
  | none=> ∀x∈l,Z41 c x=false
  | some i=> ∃j,i=k+j∧∃h:j<l.length,Z41 c l[j]=true∧∀x∈l.take j,Z41 c x=false
 | [],k=>by simp [Z5k]
 | x::l,k=>by
  rw [Z5k]
  cases hm:Z41 c x
  ·rw [cond_false]
   have ih:=Zoz c l (k+1)
   cases hf:Z5k c l (k+1) with
   | none=>
    rw [hf] at ih
    intro y hy
    rcases List.mem_cons.1 hy with rfl | hy
    ·exact hm
    ·exact ih y hy
   | some i=>
    rw [hf] at ih
    obtain ⟨j,h1,h2,h3,h4⟩:=ih
    refine ⟨j+1,by omega,by simpa using h2,by simpa using h3,fun y hy=>?_⟩
    rw [List.take_succ_cons] at hy
    rcases List.mem_cons.1 hy with rfl | hy
    ·exact hm
    ·exact h4 y hy
  ·rw [cond_true]
   exact ⟨0,by omega,by simp,by simpa using hm,by simp⟩
theorem Zxv {R:Cube→Int→Header×Bool×Int}(hR:∀p m,(R p m).2.1=false→(R p m).1=Z4c):∀(ps:List Cube) (n:Int),(Z3y R ps n).2.1=false→(Z3y R ps n).1=Z4c
 | [],n,_=>rfl
 | p::ps,n,h=>by
  rw [Z3y] at h ⊢
  cases hc:(R p n).2.1||decide ((R p n).2.2<0)
  ·rw [hc,cond_false] at h
   rw [cond_false]
   exact Zxv hR ps _ h
  ·rw [hc,cond_true] at h
   rw [cond_true]
   exact hR _ _ h
theorem Zu6 (free:Bool):∀(d:Nat) (c:Cube) (l:List Cube) (n:Int),(Z4a free d c l n).2.1=false→(Z4a free d c l n).1=Z4c
 | 0,c,l,n,_=>rfl
 | d+1,c,l,n,h=>by
  rw [Z4a] at h ⊢
  cases h1: !free&&decide (n<1)
  ·rw [h1,cond_false] at h
   rw [cond_false]
   cases h2:l.any (Z60 c)
   ·rw [h2,cond_false] at h
    rw [cond_false]
    cases h3:Z5k c l 0 with
    | none=>rw [h3] at h;cases h
    | some i=>
     rw [h3] at h
     simp only at h ⊢
     cases h4:l[i]? with
     | none=>rfl
     | some x=>
      rw [h4] at h
      simp only at h ⊢
      exact Zxv (fun p m=>Zu6 free d p _ m) _ _ h
   ·rfl
  ·rfl
end Go.Proofs.YtinplddjjalohaaGreatDoor.W
namespace Go.Proofs.YtinplddjjalohaaGreatDoor.W
open Go Go.Wb
theorem Yb4 {α:Type}(z:α)(o:Option α):(Z1v z o).2=o.isSome:=by cases o<;>rfl
def Zcy (c:Cube)(l:List Cube)(i:Nat)(first:Int):Int:=bif decide (first<0) then (match Z5k c l i with | none=>first | some k=>(k:Int)) else first
theorem Zpi (c:Cube):∀(l:List Cube) (i:Nat) (first:Int),∃j:Int,Z90 c l i first=some (bif l.any (Z60 c) then (true,j) else (false,Zcy c l i first))
 | [],i,first=>by
  refine ⟨0,?_⟩
  rw [Z90]
  unfold Zcy Z5k
  cases decide (first<0)<;>rfl
 | x::l,i,first=>by
  rw [Z90,Zxl,Option.bind_some,Yb4,List.any_cons]
  show ∃j,(bif !(Z41 c x) then _ else _)=_
  cases hm:Z41 c x
  ·have hw:Z60 c x=false:=by
    cases hw:Z60 c x
    ·rfl
    ·rw [Ynf hw] at hm;cases hm
   obtain ⟨j,hj⟩:=Zpi c l (i+1) first
   refine ⟨j,?_⟩
   rw [Bool.not_false,cond_true,hw,Bool.false_or,hj]
   unfold Zcy
   rw [Z5k,hm,cond_false]
  ·rw [Bool.not_true,cond_false,Ywz,Option.bind_some]
   cases hw:Z60 c x
   ·rw [cond_false,Bool.false_or]
    have hf:∀f:Int,Zcy c (x::l) i f=bif decide (f<0) then (i:Int) else f:=fun f=>by
     unfold Zcy
     rw [Z5k,hm,cond_true]
    by_cases h:first<0
    ·obtain ⟨j,hj⟩:=Zpi c l (i+1) (i:Int)
     refine ⟨j,?_⟩
     rw [decide_eq_true h,cond_true,hj,hf,decide_eq_true h,cond_true]
     unfold Zcy
     rw [decide_eq_false (by omega),cond_false]
    ·obtain ⟨j,hj⟩:=Zpi c l (i+1) first
     refine ⟨j,?_⟩
     rw [decide_eq_false h,cond_false,hj,hf,decide_eq_false h,cond_false]
     unfold Zcy
     rw [decide_eq_false h,cond_false]
   ·exact ⟨_,rfl⟩
theorem Yiz {α:Type}(l:List α)(i:Nat)(h:i≤l.length):Z6t l (i:Int)=some (l.drop i):=by
 unfold Z6t
 rw [decide_eq_true (by omega),Int.toNat_natCast,Nat.ble_eq_true_of_le h];rfl
def cl (n:Int)(free:Bool):cover_look:=⟨⟨n,free⟩⟩
def Zg8 (free:Bool)(N:Int)(f:Option (Header×Bool×Bool×cover_look))(n:Int)(r:Header×Bool×Int):Prop:=
 ∃s',f=some (r.1,r.2.1,decide (0≤r.2.2),s')∧(0≤r.2.2→s'=cl r.2.2 free∧r.2.2≤N)
theorem Y71 (free:Bool)(N:Int)(l:List Cube)(i:Nat)(hi:i<l.length)(hN:N<9223372036854775808)(x10:Bool×Int)(hx:x10.2=(i:Int))(hl:l.length<4294967296)(R:cover_look→Cube→List Cube→Option (Header×Bool×Bool×cover_look))(R':Cube→Int→Header×Bool×Int)
  (hR:∀p n,0≤n→n≤N→Zg8 free N (R (cl n free) p (l.drop (i+1))) n (R' p n))(hn:∀p m,(R' p m).2.1=false→(R' p m).1=Z4c):∀(ps:List Cube) (n:Int),0≤n→n≤N→
  ∃s',yf (fun (s:cover_look×Header×Bool×Bool) x=>Za4 l x10 R s.1 s.2.1 s.2.2.1 s.2.2.2 x) ps (cl n free,Z4c,false,true)=
   some (bif (Z3y R' ps n).2.1||decide ((Z3y R' ps n).2.2<0) then .out (.exit 1) (s',(Z3y R' ps n).1,(Z3y R' ps n).2.1,decide (0≤(Z3y R' ps n).2.2)) else .go (s',Z4c,false,true))∧(0≤(Z3y R' ps n).2.2→s'=cl (Z3y R' ps n).2.2 free∧(Z3y R' ps n).2.2≤N)
 | [],n,h0,h1=>by
  refine ⟨cl n free,?_,fun _=>⟨rfl,h1⟩⟩
  rw [yf,Z3y,decide_eq_false (by show ¬(n<0);omega)];rfl
 | p::ps,n,h0,h1=>by
  obtain ⟨s',h2,h3⟩:=hR p n h0 h1
  have hb:Za4 l x10 R (cl n free) Z4c false true p=some (bif (R' p n).2.1||decide ((R' p n).2.2<0) then .out (.exit 1) (s',(R' p n).1,(R' p n).2.1,decide (0≤(R' p n).2.2)) else .go (s',(R' p n).1,(R' p n).2.1,decide (0≤(R' p n).2.2))):=by
   unfold Za4
   rw [hx,inc i (by omega),Yiz _ _ (by omega),Option.bind_some,h2,Option.bind_some]
   have:(!decide (0≤(R' p n).2.2))=decide ((R' p n).2.2<0):=by
    by_cases h:(R' p n).2.2<0
    ·rw [decide_eq_true h,decide_eq_false (by omega)];rfl
    ·rw [decide_eq_false h,decide_eq_true (by omega)];rfl
   show (bif ((R' p n).2.1|| !decide (0≤(R' p n).2.2)) then _ else _)=_
   rw [this]
   cases (R' p n).2.1||decide ((R' p n).2.2<0)<;>rfl
  rw [yf]
  show ∃s'',(Za4 l x10 R (cl n free) Z4c false true p).bind _=_∧_
  rw [hb,Option.bind_some,Z3y]
  cases hc:(R' p n).2.1||decide ((R' p n).2.2<0)
  ·rw [Bool.or_eq_false_iff,decide_eq_false_iff_not] at hc
   have h4:0≤(R' p n).2.2:=by omega
   obtain ⟨h5,h6⟩:=h3 h4
   obtain ⟨s'',h7,h8⟩:=Y71 free N l i hi hN x10 hx hl R R' hR hn ps (R' p n).2.2 h4 h6
   refine ⟨s'',?_,h8⟩
   rw [cond_false,cond_false,h5,hn p n hc.1,hc.1,decide_eq_true h4]
   exact h7
  ·refine ⟨s',?_,h3⟩
   rw [cond_true,cond_true,hc];rfl
theorem Ysr (free:Bool)(N:Int)(hN:N<9223372036854775808)(d fuel:Nat)(c:Cube)(l:List Cube)(hl:l.length<4294967296)(n:Int)(h0:0≤n)(h1:n≤N)
  (ih:∀i,i<l.length→∀p n,0≤n→n≤N→Zg8 free N (Z8z fuel (cl n free) p (l.drop (i+1))) n (Z4a free d p (l.drop (i+1)) n)):
  Zg8 free N (Z8z (fuel+1) (cl n free) c l) n (Z4a free (d+1) c l n):=by
 show Zg8 free N (Zo9 (Z8z fuel) (cl n free) c l) n _
 unfold Zo9
 have hpay:Zn9 (cl n free).purse=some (!(!free&&decide (n<1)),⟨bif free then n else n - 1,free⟩):=by
  unfold Zn9
  cases free
  ·have e:IntKind.i64.wrap (n - 1)=n - 1:=Z2w (by omega) (by omega)
   show some (decide (IntKind.i64.wrap (n - 1)≥0),(⟨IntKind.i64.wrap (n - 1),false⟩:cover_purse))=_
   rw [e]
   by_cases h:n<1
   ·rw [decide_eq_true h,decide_eq_false (by omega)];rfl
   ·rw [decide_eq_false h,decide_eq_true (by omega)];rfl
  ·rfl
 rw [hpay,Option.bind_some,Z4a]
 cases hp: !free&&decide (n<1)
 ·have hn1:0≤(bif free then n else n - 1)∧(bif free then n else n - 1)≤N:=by
   cases free
   ·simp only [Bool.not_false,Bool.true_and,decide_eq_false_iff_not] at hp
    simp only [cond_false];omega
   ·simp only [cond_true];omega
  generalize (bif free then n else n - 1)=n1 at hn1 ⊢
  simp only [Bool.not_false,Bool.not_true,cond_false]
  obtain ⟨j,hj⟩:=Zpi c l 0 (-1)
  unfold Zr1
  rw [hj,Option.bind_some]
  cases hw:l.any (Z60 c)
  ·simp only [cond_false]
   have hfi:Zcy c l 0 (-1)=match Z5k c l 0 with | none=> -1 | some k=>(k:Int):=rfl
   rw [hfi]
   have hsp:=Zoz c l 0
   cases hf:Z5k c l 0 with
   | none=>
    simp only
    rw [show decide ((-1:Int)<0)=true from rfl,cond_true,Yj4,Option.bind_some]
    exact ⟨cl n1 free,by rw [decide_eq_true hn1.1];rfl,fun _=>⟨rfl,hn1.2⟩⟩
   | some i=>
    rw [hf] at hsp
    obtain ⟨j',hj1,hj2,hj3,hj4⟩:=hsp
    have hij:i=j':=by omega
    subst hij
    simp only
    rw [decide_eq_false (by omega),cond_false,Z29 hj2,Option.bind_some,List.getElem?_eq_getElem hj2]
    unfold Zqg
    rw [Option.bind_some]
    obtain ⟨s',h2,h3⟩:=Y71 free N l i hj2 hN (false,(i:Int)) rfl hl (Z8z fuel) (fun p m=>Z4a free d p (l.drop (i+1)) m) (fun p n a b=>ih i hj2 p n a b) (fun p m h=>Zu6 free d p _ m h) (Z8f c l[i]) n1 hn1.1 hn1.2
    show Zg8 free N ((Zc6 (cover_look×Header×Bool×Bool) (fun s x=>Za4 l (false,(i:Int)) (Z8z fuel) s.1 s.2.1 s.2.2.1 s.2.2.2 x) (.go (cl n1 free,Z4c,false,true)) c l[i]).bind _) n (Z3y (fun p m=>Z4a free d p (l.drop (i+1)) m) (Z8f c l[i]) n1)
    rw [Ygv,h2,Option.bind_some]
    have hnn:=Zxv (R:=fun p m=>Z4a free d p (l.drop (i+1)) m) (fun p m h=>Zu6 free d p _ m h) (Z8f c l[i]) n1
    generalize Z3y (fun p m=>Z4a free d p (l.drop (i+1)) m) (Z8f c l[i]) n1=r at*
    cases hc:r.2.1||decide (r.2.2<0)
    ·rw [Bool.or_eq_false_iff,decide_eq_false_iff_not] at hc
     refine ⟨s',?_,h3⟩
     rw [hnn hc.1,hc.1,decide_eq_true (show 0≤r.2.2 by omega)];rfl
    ·exact ⟨s',rfl,h3⟩
  ·refine ⟨cl n1 free,?_,fun _=>⟨rfl,hn1.2⟩⟩
   show some (Z4c,false,true,cl n1 free)=some (Z4c,false,decide (0≤n1),cl n1 free)
   rw [decide_eq_true hn1.1]
 ·exact ⟨_,rfl,fun h=>by simp at h⟩
theorem Y5y (free:Bool)(N:Int)(hN:N<9223372036854775808):∀(d fuel:Nat) (c:Cube) (l:List Cube) (n:Int),l.length<d→d≤fuel→l.length<4294967296→0≤n→n≤N→
  Zg8 free N (Z8z fuel (cl n free) c l) n (Z4a free d c l n)
 | 0,fuel,c,l,n,h,_,_,_,_=>by omega
 | d+1,0,c,l,n,_,h,_,_,_=>by omega
 | d+1,fuel+1,c,l,n,h1,h2,h3,h4,h5=>
  Ysr free N hN d fuel c l h3 n h4 h5 fun i hi p m h6 h7=>Y5y free N hN d fuel p (l.drop (i+1)) m (by rw [List.length_drop];omega) (by omega) (by rw [List.length_drop];omega) h6 h7
end Go.Proofs.YtinplddjjalohaaGreatDoor.W
namespace Go.Proofs.YtinplddjjalohaaGreatDoor.W
open Go Go.Wb
end Go.Proofs.YtinplddjjalohaaGreatDoor.W
namespace Go.Proofs.YtinplddjjalohaaGreatDoor.W
open Go Go.Wb
theorem Zt4 (a:Wide):∀n,(Z5n a n).Nodup
 | 0=>List.nodup_nil
 | n+1=>by
  rw [Z5n]
  cases wt a n
  ·exact Zt4 a n
  ·rw [cond_true,List.nodup_cons]
   refine ⟨fun h=>?_,Zt4 a n⟩
   obtain ⟨k,h1,h2,_⟩:=(Ze0 _ _ _).1 h
   omega
theorem Ynb (t:Tern)(i:Nat)(hi:i<128)(on:Bool)(k:Nat)(hk:k<128):wt (Z5q t i on).Mask k=(wt t.Mask k||decide (i=k)):=by
 unfold Z5q Z10
 cases on<;>simp only [cond_true,cond_false,Z66,Zj9 i k hi hk]
theorem Y40 {c:Cube}{f:Nat}(hf:f<24){t:Tern}{h:Header}:Z0d (Z92 c f t) h=true↔(∀g,g<24→g≠f→Z48 (ve c g) (ve h g)=true)∧Z48 t (ve h f)=true:=by
 rw [Z4i]
 constructor
 ·intro hh
  refine ⟨fun g hg hne=>?_,?_⟩
  ·have:=hh g hg
   rwa [Zm8 _ _ _ _ hg,if_neg (fun e=>hne e.symm)] at this
  ·have:=hh f hf
   rwa [Zm8 _ _ _ _ hf,if_pos rfl] at this
 ·rintro ⟨h1,h2⟩ g hg
  rw [Zm8 _ _ _ _ hg]
  by_cases e:f=g
  ·subst e;rw [if_pos rfl];exact h2
  ·rw [if_neg e];exact h1 g hg fun e'=>e e'.symm
theorem Zzl {c:Cube}{f b:Nat}(hf:f<24)(hb:b<128){on:Bool}{h:Header}(hm:wt (ve c f).Mask b=false)(hh:Z0d (Z92 c f (Z5q (ve c f) b on)) h=true):Z0d c h=true∧wt (ve h f) b=on:=by
 obtain ⟨h1,h2⟩:=(Y40 hf).1 hh
 obtain ⟨h3,h4⟩:=(Y9s _ _ hb _ _).1 h2
 refine ⟨(Z4i _ _).2 fun g hg=>?_,h4⟩
 by_cases e:g=f
 ·subst e
  exact (Z42 _ _).2 fun k hk hmk=>h3 k hk (fun e=>by rw [e,hm] at hmk;cases hmk) hmk
 ·exact h1 g hg e
theorem Y9b (xv:Wide)(f:Nat)(hf:f<24)(h:Header):∀(l:List Int) (left:Cube),Zrs l→l.Nodup→(∀i∈l,wt (ve left f).Mask i.toNat=false)→
  (∀p∈(Z57 xv f l left).1,Z0d p h=true→Z0d left h=true∧∃i∈l,wt (ve h f) i.toNat= !wt xv i.toNat)∧(Z0d (Z57 xv f l left).2 h=true→Z0d left h=true)
 | [],left,_,_,_=>⟨fun p hp=>(List.not_mem_nil hp).elim,fun hh=>hh⟩
 | i::l,left,hl,hn,hm=>by
  obtain ⟨b,rfl,hb⟩:=hl i (by simp)
  rw [List.nodup_cons] at hn
  have hmb:=hm _ (List.mem_cons_self ..)
  rw [Int.toNat_natCast] at hmb
  have ih:=Y9b xv f hf h l (Z92 left f (Z5q (ve left f) b (wt xv b))) (fun j hj=>hl j (by simp [hj])) hn.2 (fun j hj=>by
   obtain ⟨k,rfl,hk⟩:=hl j (by simp [hj])
   have h1:=hm _ (List.mem_cons_of_mem _ hj)
   rw [Int.toNat_natCast] at h1 ⊢
   rw [Zm8 _ _ _ _ hf,if_pos rfl,Ynb _ _ hb _ _ hk,h1,Bool.false_or,decide_eq_false_iff_not]
   intro e
   subst e
   exact hn.1 hj)
  rw [Z57,Int.toNat_natCast]
  refine ⟨fun p hp hh=>?_,fun hh=>(Zzl hf hb hmb (ih.2 hh)).1⟩
  rcases List.mem_cons.1 hp with rfl | hp
  ·obtain ⟨h1,h2⟩:=Zzl hf hb hmb hh
   exact ⟨h1,(b:Int),by simp,by rw [Int.toNat_natCast];exact h2⟩
  ·obtain ⟨h1,i,hi,h2⟩:=ih.1 p hp hh
   exact ⟨(Zzl hf hb hmb h1).1,i,by simp [hi],h2⟩
theorem Y0j (x:Cube)(h:Header):∀(m f:Nat) (left:Cube),f+m=24→∀p∈Zbi x m f left,Z0d p h=true→Z0d left h=true∧Z0d x h=false
 | 0,f,left,_,p,hp=>by cases hp
 | m+1,f,left,hm,p,hp=>by
  intro hh
  have hf:f<24:=by omega
  have hs:=Y9b (ve x f).Value f hf h (Zc5 (ve x f) (ve left f)) left (Zxt _ _) (Zt4 _ _) (fun i hi=>by
   obtain ⟨k,rfl,hk,hw⟩:=(Ze0 _ _ _).1 hi
   rw [Z5y _ _ _ hk] at hw
   rw [Int.toNat_natCast]
   cases hq:wt (ve left f).Mask k
   ·rfl
   ·rw [hq] at hw;simp at hw)
  rw [Zbi] at hp
  rcases List.mem_append.1 hp with hp | hp
  ·obtain ⟨h1,i,hi,h2⟩:=hs.1 p hp hh
   obtain ⟨k,rfl,hk,hw⟩:=(Ze0 _ _ _).1 hi
   rw [Z5y _ _ _ hk,Bool.and_eq_true] at hw
   rw [Int.toNat_natCast] at h2
   refine ⟨h1,?_⟩
   cases hx:Z0d x h
   ·rfl
   ·have:=(Z42 _ _).1 ((Z4i _ _).1 hx f hf) k hk hw.1
    rw [h2] at this
    cases hv:wt (ve x f).Value k<;>rw [hv] at this<;>simp at this
  ·obtain ⟨h1,h2⟩:=Y0j x h m (f+1) _ (by omega) p hp hh
   exact ⟨hs.2 h1,h2⟩
theorem Yli {a x:Cube}(hm:Z41 a x=true){h:Header}{p:Cube}(hp:p∈Z8f a x)(hh:Z0d p h=true):Z0d a h=true∧Z0d x h=false:=by
 unfold Z8f at hp
 rw [hm,cond_true] at hp
 have:=Y0j x h 24 0 (Z1d a) rfl p hp hh
 rwa [Y7v] at this
theorem Y92 (c:Cube):Z0d c (Znv c)=true:=(Z4i _ _).2 fun f hf=>(Z42 _ _).2 fun k hk hm=>by
 unfold Znv
 rw [Z81 (fun f=>(Z10 (ve c f)).Value) f hf]
 unfold Z10
 rw [Z3j,hm,Bool.and_true]
theorem Zzz {a x:Cube}(hm:Z41 a x=false){h:Header}(h1:Z0d a h=true):Z0d x h=false:=by
 cases hx:Z0d x h
 ·rfl
 ·unfold Z41 at hm
  cases hc:Z4n a x with
  | none=>exact (Y98 hc h h1 hx).elim
  | some z=>rw [hc] at hm;cases hm
theorem Y6e {R:Cube→Int→Header×Bool×Int}:∀(ps:List Cube) (n:Int),(Z3y R ps n).2.1=true→∃p∈ps,∃m,Z3y R ps n=R p m
 | [],n,h=>by cases h
 | p::ps,n,h=>by
  rw [Z3y] at h ⊢
  cases hc:(R p n).2.1||decide ((R p n).2.2<0)
  ·rw [hc,cond_false] at h
   rw [cond_false]
   obtain ⟨q,hq,m,e⟩:=Y6e ps _ h
   exact ⟨q,by simp [hq],m,e⟩
  ·exact ⟨p,by simp,n,rfl⟩
theorem Y1l (free:Bool):∀(d:Nat) (c:Cube) (l:List Cube) (n:Int),(Z4a free d c l n).2.1=true→Z0d c (Z4a free d c l n).1=true∧∀x∈l,Z0d x (Z4a free d c l n).1=false
 | 0,c,l,n,h=>by cases h
 | d+1,c,l,n,h=>by
  rw [Z4a] at h ⊢
  cases h1: !free&&decide (n<1)
  ·rw [h1,cond_false] at h
   rw [cond_false]
   cases h2:l.any (Z60 c)
   ·rw [h2,cond_false] at h
    rw [cond_false]
    have hsp:=Zoz c l 0
    cases h3:Z5k c l 0 with
    | none=>
     rw [h3] at hsp
     exact ⟨Y92 c,fun x hx=>Zzz (hsp x hx) (Y92 c)⟩
    | some i=>
     rw [h3] at h hsp
     obtain ⟨j,hj1,hj2,hj3,hj4⟩:=hsp
     have hij:i=j:=by omega
     subst hij
     simp only at h ⊢
     rw [List.getElem?_eq_getElem hj2] at h ⊢
     simp only at h ⊢
     obtain ⟨p,hp,m,e⟩:=Y6e _ _ h
     rw [e] at h ⊢
     obtain ⟨h5,h6⟩:=Y1l free d p (l.drop (i+1)) m h
     obtain ⟨h7,h8⟩:=Yli hj3 hp h5
     refine ⟨h7,fun x hx=>?_⟩
     rw [←List.take_append_drop i l,List.mem_append] at hx
     rcases hx with hx | hx
     ·exact Zzz (hj4 x hx) h7
     ·rw [List.drop_eq_getElem_cons hj2] at hx
      rcases List.mem_cons.1 hx with rfl | hx
      ·exact h8
      ·exact h6 x hx
   ·rw [h2] at h;cases h
  ·rw [h1] at h;cases h
def Zcu (c:Cube)(l:List Cube)(most:Int):Header×Bool×Int:=Z4a (decide (most≥1099511627776)) (l.length+1) c l (Z2r most 0)
def Z1t (c:Cube)(l:List Cube)(most:Int):Header×Bool×Int:=bif decide ((Zcu c l most).2.2<0) then (Z4c,false,5) else ((Zcu c l most).1,(Zcu c l most).2.1,0)
theorem Yfe (m:Int):0≤Z2r m 0∧Z2r m 0≤max m 0:=by
 unfold Z2r
 by_cases h:(0:Int)>m
 ·rw [decide_eq_true h,cond_true];omega
 ·rw [decide_eq_false h,cond_false];omega
theorem Y90 (c:Cube)(l:List Cube)(most:Int)(hm:most≤9223372036854775807)(hl:l.length≤1000000):Zhs c l most=some (Z1t c l most):=by
 have hi:=Yfe most
 unfold Zhs Zwb Z1t
 obtain ⟨s',h1,h2⟩:=Y5y (decide (most≥1099511627776)) (Z2r most 0) (by omega) (l.length+1) Z0v c l (Z2r most 0) (by omega) (by unfold Z0v;omega) (by omega) hi.1 (by omega)
 show (Z8z Z0v (cl (Z2r most 0) (decide (most≥1099511627776))) c l).bind _=_
 rw [h1,Option.bind_some]
 show (bif !(decide (0≤(Zcu c l most).2.2)) then _ else _)=_
 by_cases h:(Zcu c l most).2.2<0
 ·rw [decide_eq_true h,decide_eq_false (by omega)];rfl
 ·rw [decide_eq_false h,decide_eq_true (by omega)];rfl
theorem Yhd {c:Cube}{l:List Cube}{most:Int}(h:(Z1t c l most).2.1=true):Z0d c (Z1t c l most).1=true∧∀x∈l,Z0d x (Z1t c l most).1=false:=by
 unfold Z1t at h ⊢
 cases hc:decide ((Zcu c l most).2.2<0)
 ·rw [hc,cond_false] at h
  rw [cond_false]
  exact Y1l _ _ _ _ _ h
 ·rw [hc] at h;cases h
theorem Y62:∀(l:List Rule) (pre:List Cube),Zc4 l pre.length (pre++List.replicate l.length (Vector.replicate 24 zTern))=some (pre++l.map (·.Cube))
 | [],pre=>by simp [Zc4]
 | r::l,pre=>by
  have hlt:pre.length<(pre++List.replicate (r::l).length (Vector.replicate 24 zTern)).length:=by simp
  rw [Zc4,Z29 hlt,Option.bind_some,Int.toNat_natCast]
  have e:List.set (pre++List.replicate (r::l).length (Vector.replicate 24 zTern)) pre.length r.Cube=(pre++[r.Cube])++List.replicate l.length (Vector.replicate 24 zTern):=by
   rw [List.length_cons,List.replicate_succ,List.set_append_right _ _ (Nat.le_refl _)];simp
  have ih:=Y62 l (pre++[r.Cube])
  rw [e]
  rw [List.length_append,List.length_singleton] at ih
  rw [ih];simp
theorem Yx1 (n:Nat)(h:n≤lim):omk (n:Int)=some ():=by
 unfold omk
 rw [decide_eq_false (by omega),decide_eq_false (by omega)];rfl
theorem Yqs (l:List Rule)(h:l.length≤1000000):Znt l=some (l.map (·.Cube)):=by
 have hlim:lim=4294967296:=rfl
 unfold Znt
 rw [Yx1 _ (by omega),Option.bind_some,Int.toNat_natCast]
 exact Y62 l []
theorem Ybn (l:List Rule)(hl:l.length≤1000000):∀(m i:Nat) (acc:List Cube),i≤l.length→l.length<i+m→acc.length≤i→Zib l m acc (i:Int)=some (acc++(l.drop i).map (·.Cube))
 | 0,i,acc,h1,h2,_=>by omega
 | m+1,i,acc,h1,h2,h3=>by
  have hlim:lim=4294967296:=rfl
  rw [Zib]
  by_cases hi:i<l.length
  ·rw [decide_eq_true (by omega),cond_true,Z29 hi,Option.bind_some,Z1p (by simp;omega),Option.bind_some,inc i (by omega),Ybn l hl m (i+1) _ (by omega) (by omega) (by simp;omega),List.drop_eq_getElem_cons hi,List.map_cons,List.append_assoc]
   rfl
  ·rw [decide_eq_false (by omega),cond_false,List.drop_of_length_le (by omega)];simp
theorem Ytj (l:List Rule)(hl:l.length≤1000000):Zio l=some (l.map (·.Cube)):=by
 unfold Zio
 have:=Ybn l hl ((((l.length:Int):Int) - 0).toNat+1) 0 [] (by omega) (by omega) (by simp)
 rw [show ((0:Nat):Int)=0 from rfl,List.drop_zero,List.nil_append] at this
 exact this
theorem Y86 {α:Type}(l:List α)(i:Nat)(h:i≤l.length):Z4j l (i:Int)=some (l.take i):=by
 unfold Z4j
 simp [Nat.ble_eq_true_of_le h]
def Zsf (l:List Rule)(i most:Int):Header×Bool×Int:=bif decide (i<0)||decide (i≥(l.length:Int)) then (Z4c,false,6) else match l[i.toNat]? with
 | none=>(Z4c,false,6)
 | some r=>Z1t r.Cube ((l.take i.toNat).map (·.Cube)) most
theorem Yk0 (l:List Rule)(i most:Int)(hl:l.length≤1000000)(hm:most≤9223372036854775807):Zhj l i most=some (Zsf l i most):=by
 unfold Zhj Zsf
 cases hc:decide (i<0)||decide (i≥(l.length:Int))
 ·rw [Bool.or_eq_false_iff,decide_eq_false_iff_not,decide_eq_false_iff_not] at hc
  obtain ⟨n,rfl⟩:∃n:Nat,i=(n:Int):=⟨i.toNat,by omega⟩
  have hn:n<l.length:=by omega
  rw [cond_false,cond_false,Yqs l hl,Option.bind_some,Z29 (show n<(l.map (·.Cube)).length by simpa using hn),Option.bind_some,Y86 _ _ (by simp;omega),Option.bind_some,Int.toNat_natCast,List.getElem?_eq_getElem hn,Y90 _ _ _ hm (by simp;omega),Option.bind_some]
  simp [List.map_take]
 ·rfl
end Go.Proofs.YtinplddjjalohaaGreatDoor.W
