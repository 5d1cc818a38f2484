/- A part of the proof. -/
import Derived.RangeFuncFrom
import Derived.RangeFuncLeaves
import Derived.Laws.AppendOwn
import Derived.Laws.OwnMore
import Derived.Still
import GoSem.ClaimJoined
import Derived.Laws.CopyRow
import Derived.RangeFuncRecord
import Derived.OrdersIn
import Derived.Maps.AppendAt
import Derived.Laws.Slices
import Derived.Laws.Small
import Derived.Laws.Cover3
set_option linter.unusedVariables false
set_option linter.unusedSimpArgs false
namespace Go.Wb
open Go
abbrev HS:=Nat→Prop
structure Ext (w:World) (H M:HS) (w':World) (H' M':HS):Prop where
 size:w.heap.size≤w'.heap.size
 vis:∀b,b<w.heap.size→¬H b→¬H' b∧w'.heap[b]? =w.heap[b]?
 own:∀b,b<w.heap.size→M b→M' b∧w'.heap[b]? =w.heap[b]?
theorem Ext.refl (w:World)(H M:HS):Ext w H M w H M:=⟨Nat.le_refl _,fun _ _ h=>⟨h,rfl⟩,fun _ _ h=>⟨h,rfl⟩⟩
theorem Ext.trans {a b c:World}{H M H' M' H'' M'':HS}(h:Ext a H M b H' M')(k:Ext b H' M' c H'' M''):Ext a H M c H'' M'':=
 ⟨Nat.le_trans h.size k.size,
  fun i hi hn=>let ⟨x,y⟩:=h.vis i hi hn;let ⟨x',y'⟩:=k.vis i (Nat.lt_of_lt_of_le hi h.size) x;⟨x',y'.trans y⟩,
  fun i hi hn=>let ⟨x,y⟩:=h.own i hi hn;let ⟨x',y'⟩:=k.own i (Nat.lt_of_lt_of_le hi h.size) x;⟨x',y'.trans y⟩⟩
def Zl:HS:=fun _=>False
def Zcc (_:World):Unit:=()
def Amb (P:Program)(w:World)(H:HS):Prop:= ∀g,P.globalNamed "errors.errorType"=some g→
 ¬H g∧g<w.heap.size∧∃u t,(P.cutTypes.find? (·.1=="internal/reflectlite.rtype")).map (·.2)=some u∧t<P.types.size∧P.rowNamed t [101,114,114,111,114]=true∧w.cell? ⟨g,0,none⟩=some (.iface u (.agg #[typeHandle P t]))
theorem Amb.mono {P:Program}{w w':World}{H H':HS}(e:Ext w H Zl w' H' Zl)(h:Amb P w H):Amb P w' H':=fun g hg=>
 let ⟨a,b,u,t,h1,h2,h3,h4⟩:=h g hg
 let ⟨c,d⟩:=e.vis g b a
 ⟨c,Nat.lt_of_lt_of_le b e.size,u,t,h1,h2,h3,(World.cell?_of_block (a:=⟨g,0,none⟩) d).trans h4⟩
theorem Ext.pure_ {w w':World}{H M H' M':HS}(h:Ext w H M w' H' M'):Ext w H Zl w' H' Zl:=⟨h.size,h.vis,fun _ _ h=>h.elim⟩
structure Zb where
 R:World→HS→HS→Value→Prop
 mono:∀{w H M w' H' M' v},Ext w H M w' H' M'→R w H M v→R w' H' M' v
structure Res where
 R:World→HS→HS→Prop
 mono:∀{w H M w' H' M'},Ext w H M w' H' M'→R w H M→R w' H' M'
def top:Zb:=⟨fun _ _ _ _=>True,fun _ h=>h⟩
def emp:Res:=⟨fun _ _ _=>True,fun _ h=>h⟩
def Zg (v:Value):Zb:=⟨fun _ _ _ u=>u=v,fun _ h=>h⟩
def mkv (agg:Bool)(cs:List Value):Value:=bif agg then .agg cs.toArray else cs.headD undef
structure Kd (α:Type) where
 sz:Nat
 agg:Bool
 C:World→HS→α→List Value→Prop
 len:∀{w H x cs},C w H x cs→cs.length=sz
 one:∀{w H x cs},C w H x cs→∀v∈cs,v.oneCell'=true
 flat:agg=false→sz=1
 mono:∀{w H w' H' x cs},Ext w H Zl w' H' Zl→C w H x cs→C w' H' x cs
 sh:TypeId→Bool:=fun _=>true
theorem Zy5 {agg:Bool}{cs:List Value}(h1:∀v∈cs,v.oneCell'=true)(h:agg=false→cs.length=1):(mkv agg cs).cells.toList=cs:=by
 cases agg with
 | true=>simp [mkv,Value.cells]
 | false=>
  have hl:=h rfl
  match cs,hl,h1 with
  | [c],_,h1=>
   have:=h1 c (by simp)
   simp only [mkv,cond_false,List.headD_cons]
   cases c<;>simp_all [Value.oneCell',Value.cells]
def rd {α:Type}(k:Kd α)(x:α):Zb:=
 ⟨fun w H _ v=> ∃cs,k.C w H x cs∧v=mkv k.agg cs,fun h ⟨cs,hc,hv⟩=>⟨cs,k.mono h.pure_ hc,hv⟩⟩
def upd {α:Type}(s:Nat→α)(d:Nat)(x:α):Nat→α:=fun t=>bif Nat.beq t d then x else s t
theorem Z02 {α:Type}(s:Nat→α)(d:Nat)(x:α):upd s d x d=x:=by simp [upd]
theorem Z00 {α:Type}(s:Nat→α){d t:Nat}(x:α)(h:t≠d):upd s d x t=s t:=by
 have:Nat.beq t d=false:=by
  cases hb:Nat.beq t d with
  | false=>rfl
  | true=>exact absurd (Nat.eq_of_beq_eq_true hb) h
 simp [upd,this]
structure St where
 s:Nat→Zb
 r:Nat→Res
 d:List Nat
def marks (l:List Nat):List Deferred:=l.map fun D=>{target:= .collected D,args:= #[]}
def St.set (S:St)(d:Nat)(A:Zb):St:=⟨upd S.s d A,S.r,S.d⟩
def St.put (S:St)(d:Option Nat)(A:Zb):St:=match d with | some d=>S.set d A | none=>S
def St.setr (S:St)(i:Nat)(r:Res):St:=⟨S.s,upd S.r i r,S.d⟩
structure Ctx where
 P:Program
 ro:Option Nat
 N:Nat
 w0:World
 H0:HS
 X:HS
 amb:Amb P w0 H0∧∀b,X b→H0 b
def Ctx.fen (C:Ctx):Fence:={Fence.wide with round:=C.ro}
def So (t:Nat):Nat:=2*t+1
def Ro (i:Nat):Nat:=2*i+2
structure HoldO (C:Ctx) (S:St) (O:Nat→Nat) (a:Act) (w:World):Prop where
 h0:∀b,C.H0 b→b<C.w0.heap.size
 os:w.os=C.w0.os
 tape:Zcc w=Zcc C.w0
 output:w.output=C.w0.output
 size:C.w0.heap.size≤w.heap.size
 old:∀b,b<C.w0.heap.size→¬C.X b→w.heap[b]? =C.w0.heap[b]?
 own:∀b,O b≠0→(C.w0.heap.size≤b∨C.X b)∧b<w.heap.size
 dfr:a.defers=marks S.d
 n:a.tmps.size=C.N
 slot:∀t,(S.s t).R w (fun b=>C.H0 b∨O b≠0) (fun b=>O b=So t) (a.tmps.getD t undef)
 res:∀i,(S.r i).R w (fun b=>C.H0 b∨O b≠0) (fun b=>O b=Ro i)
def Hold (C:Ctx)(S:St)(a:Act)(w:World):Prop:= ∃O,HoldO C S O a w
def AW (C:Ctx)(c:Code)(Q:Exit→St→Prop)(S:St):Prop:=
 ∀a w,Hold C S a w→c.wpIn C.fen 0 C.P (fun e a' w'=> ∃S',Q e S'∧Hold C S' a' w') a w
section control
variable {C : Ctx} {Q : Exit → St → Prop} {S : St}
theorem AW.mono {c:Code}{Q':Exit→St→Prop}(h:AW C c Q S)(hq:∀e S',Q e S'→Q' e S'):AW C c Q' S:=
 fun a w hh=>wpIn_mono (h a w hh) fun e a' w' ⟨S',h1,h2⟩=>⟨S',hq _ _ h1,h2⟩
def Z7k (K:St→Prop)(Q:Exit→St→Prop):Exit→St→Prop
 | .normal,S=>K S
 | e,S=>Q e S
theorem AW.skip (h:Q .normal S):AW C .skip Q S:=fun _ _ hh=>wpIn_skip ⟨S,h,hh⟩
theorem AW.label {l:Nat}(h:Q .normal S):AW C (.label l) Q S:=fun _ _ hh=>wpIn_label ⟨S,h,hh⟩
theorem AW.exit {id:Nat}(h:Q (.exit id) S):AW C (.exit id) Q S:=fun _ _ hh=>wpIn_exit ⟨S,h,hh⟩
theorem AW.ret (h:Q .ret S):AW C .ret Q S:=fun _ _ hh=>wpIn_ret ⟨S,h,hh⟩
theorem AW.seq {x y:Code}(h:AW C x (Z7k (AW C y Q) Q) S):AW C (.seq x y) Q S:=by
 intro a w hh
 refine wpIn_seq (wpIn_mono (h a w hh) ?_)
 rintro e a' w' ⟨S',h1,h2⟩
 cases e with
 | normal=>exact h1 a' w' h2
 | exit id=>exact ⟨S',h1,h2⟩
 | goto l=>exact ⟨S',h1,h2⟩
 | ret=>exact ⟨S',h1,h2⟩
 | panic ch=>exact ⟨S',h1,h2⟩
 | outgrown=>exact ⟨S',h1,h2⟩
def Zlx (id:Nat)(Q:Exit→St→Prop):Exit→St→Prop
 | .exit id',S=>bif Nat.beq id' id then Q .normal S else Q (.exit id') S
 | e,S=>Q e S
theorem AW.block {id:Nat}{c:Code}(h:AW C c (Zlx id Q) S):AW C (.block id c) Q S:=by
 intro a w hh
 refine wpIn_block (wpIn_mono (h a w hh) ?_)
 rintro e a' w' ⟨S',h1,h2⟩
 cases e with
 | normal=>exact ⟨S',h1,h2⟩
 | exit id'=>
  simp only [Exit.inBlock]
  by_cases hid:id'=id
  ·subst hid
   rw [if_pos rfl]
   exact ⟨S',by simpa [Zlx] using h1,h2⟩
  ·rw [if_neg hid]
   have:Nat.beq id' id=false:=by
    cases hb:Nat.beq id' id with
    | false=>rfl
    | true=>exact absurd (Nat.eq_of_beq_eq_true hb) hid
   exact ⟨S',by simpa [Zlx,this] using h1,h2⟩
 | goto l=>exact ⟨S',h1,h2⟩
 | ret=>exact ⟨S',h1,h2⟩
 | panic ch=>exact ⟨S',h1,h2⟩
 | outgrown=>exact ⟨S',h1,h2⟩
theorem AW.loop {c:Code}(I:Nat→St→Prop){k:Nat}(h0:I k S)(round:∀k S,I k S→AW C c (Z7k (fun S'=> ∃k',k'<k∧I k' S') Q) S):AW C (.loop c) Q S:=by
 intro a w hh b kk cs hro hb hr
 have key:∀j S a w,I j S→Hold C S a w→
   ∃e a' w',(∃S',Q e S'∧Hold C S' a' w')∧ArrivesIn (Machine.fenced C.P C.fen) C.P (lone (b.atR a (.code c:: .inLoop c::kk)) cs w) b kk cs e a' w':=by
  intro j
  induction j using Nat.strongRecOn with
  | _ j ih=>
   intro S a w hI hS
   obtain ⟨e,a₁,w₁,⟨S',hq,hS'⟩,harr⟩:=round j S hI a w hS b (.inLoop c::kk) cs hro hb hr
   cases e with
   | normal=>
    obtain ⟨k',hlt,hI'⟩:=hq
    obtain ⟨e₂,a₂,w₂,hq₂,harr₂⟩:=ih k' hlt S' a₁ w₁ hI' hS'
    exact ⟨e₂,a₂,w₂,hq₂,.of_steps (StepsIn.trans harr (.one (fenced_calm hb hr rfl) stepR_inLoop)) harr₂⟩
   | exit id=>exact ⟨_,a₁,w₁,⟨S',hq,hS'⟩,.pass (x:= .inLoop c) rfl (fun _ _=> .inl (by simp)) harr⟩
   | goto l=>exact ⟨_,a₁,w₁,⟨S',hq,hS'⟩,.pass (x:= .inLoop c) rfl (fun _ _=> .inl (by simp)) harr⟩
   | ret=>exact ⟨_,a₁,w₁,⟨S',hq,hS'⟩,.pass (x:= .inLoop c) rfl (fun _ _=> .inl (by simp)) harr⟩
   | panic ch=>exact ⟨_,a₁,w₁,⟨S',hq,hS'⟩,.pass (x:= .inLoop c) rfl (fun _ _=> .inl (by simp)) harr⟩
   | outgrown=>exact ⟨_,a₁,w₁,⟨S',hq,hS'⟩,.pass (x:= .inLoop c) rfl (fun _ _=> .inl (by simp)) harr⟩
 obtain ⟨e,a',w',hq,harr⟩:=key _ S a w h0 hh
 exact ⟨e,a',w',hq,.of_steps (.one (fenced_calm hb hr rfl) stepR_loop) harr⟩
end control
end Go.Wb
namespace Go.Wb
open Go
section hold
variable {C : Ctx} {S S' : St} {O O' : Nat → Nat} {a a' : Act} {w w' : World}
theorem Z1g (t i:Nat):So t≠Ro i:=by unfold So Ro;omega
theorem Z8a {t u:Nat}(h:So t=So u):t=u:=by unfold So at h;omega
theorem Z26 {t u:Nat}(h:Ro t=Ro u):t=u:=by unfold Ro at h;omega
theorem Z6d (t:Nat):So t≠0:=by unfold So;omega
theorem Z0m (t:Nat):Ro t≠0:=by unfold Ro;omega
structure Goes (C:Ctx) (τ:Nat→Prop) (O:Nat→Nat) (w:World) (O':Nat→Nat) (w':World):Prop where
 os:w'.os=w.os
 tape:Zcc w'=Zcc w
 output:w'.output=w.output
 size:w.heap.size≤w'.heap.size
 same:∀b,b<w.heap.size→¬τ (O b)→O' b=O b∧w'.heap[b]? =w.heap[b]?
 own:∀b,O' b≠0→O b≠0∨w.heap.size≤b
 lt:∀b,O' b≠0→b<w'.heap.size
 zero:¬τ 0
theorem Goes.refl (C:Ctx)(O:Nat→Nat)(w:World)(h:∀b,O b≠0→b<w.heap.size):Goes C Zl O w O w:=
 ⟨rfl,rfl,rfl,Nat.le_refl _,fun _ _ _=>⟨rfl,rfl⟩,fun _ h=> .inl h,h,fun h=>h⟩
theorem Goes.ext {τ:Nat→Prop}(g:Goes C τ O w O' w'){o:Nat}(ho:¬τ o):Ext w (fun b=>C.H0 b∨O b≠0) (fun b=>O b=o) w' (fun b=>C.H0 b∨O' b≠0) (fun b=>O' b=o):=
 ⟨g.size,
  fun b hb hn=>by
   have h1:O b=0:=Classical.byContradiction fun h=>hn (.inr h)
   have h2:=g.same b hb (by rw [h1];exact g.zero)
   refine ⟨?_,h2.2⟩
   rintro (h | h)
   ·exact hn (.inl h)
   ·exact h (h2.1.trans h1),
  fun b hb hm=>by
   subst hm
   have h2:=g.same b hb ho
   exact ⟨h2.1,h2.2⟩⟩
theorem HoldO.goes {τ:Nat→Prop}(h:HoldO C S O a w)(g:Goes C τ O w O' w')(hd:a'.defers=a.defers)(hd':S'.d=S.d)(hn:a'.tmps.size=a.tmps.size)
  (hs:∀t,(S'.s t=S.s t∧¬τ (So t)∧a'.tmps.getD t undef=a.tmps.getD t undef)∨(S'.s t).R w' (fun b=>C.H0 b∨O' b≠0) (fun b=>O' b=So t) (a'.tmps.getD t undef))
  (hr:∀i,(S'.r i=S.r i∧¬τ (Ro i))∨(S'.r i).R w' (fun b=>C.H0 b∨O' b≠0) (fun b=>O' b=Ro i)):HoldO C S' O' a' w' where
 h0:=h.h0
 os:=g.os.trans h.os
 tape:=g.tape.trans h.tape
 output:=g.output.trans h.output
 size:=Nat.le_trans h.size g.size
 old:=fun b hb hx=>by
  have h1:O b=0:=Classical.byContradiction fun hO=>by
   rcases (h.own b hO).1 with h2 | h2
   ·omega
   ·exact hx h2
  exact (g.same b (Nat.lt_of_lt_of_le hb h.size) (by rw [h1];exact g.zero)).2.trans (h.old b hb hx)
 own:=fun b hO=>⟨by
  rcases g.own b hO with h1 | h1
  ·exact (h.own b h1).1
  ·exact .inl (Nat.le_trans h.size h1),g.lt b hO⟩
 dfr:=by rw [hd,hd'];exact h.dfr
 n:=hn.trans h.n
 slot:=fun t=>by
  rcases hs t with ⟨h1,h2,h3⟩ | h1
  ·rw [h1,h3]
   exact (S.s t).mono (g.ext h2) (h.slot t)
  ·exact h1
 res:=fun i=>by
  rcases hr i with ⟨h1,h2⟩ | h1
  ·rw [h1]
   exact (S.r i).mono (g.ext h2) (h.res i)
  ·exact h1
theorem Z6e (a:Act)(d:Option Nat)(v:Value):(a.put d v).tmps.size=a.tmps.size:=by cases d<;>simp [Act.put]
theorem Z6i (a:Act)(d:Option Nat)(v:Value):(a.put d v).defers=a.defers:=by cases d<;>simp [Act.put]
theorem Z6c {a:Act}{d:Nat}(h:d<a.tmps.size)(v:Value):(a.put (some d) v).tmps.getD d undef=v:=by simp [Act.put,h]
theorem Z6f {a:Act}{d t:Nat}(h:t≠d)(v:Value):(a.put (some d) v).tmps.getD t undef=a.tmps.getD t undef:=by
 simp only [Act.put,Array.getD_eq_getD_getElem?,Array.getElem?_setIfInBounds]
 rw [if_neg (fun e=>h e.symm)]
theorem Ext.any {w:World}{H M:HS}:Ext w H Zl w H M:=⟨Nat.le_refl _,fun _ _ h=>⟨h,rfl⟩,fun _ _ h=>h.elim⟩
theorem HoldO.yield {d:Option Nat}{A:Zb}{v:Value}(h:HoldO C S O a w)(g:Goes C Zl O w O' w')(hd:∀t,d=some t→t<C.N)
  (hA:A.R w' (fun b=>C.H0 b∨O' b≠0) Zl v):HoldO C (S.put d A) O' (a.put d v) w':=by
 refine h.goes g (Z6i ..) (by cases d<;>rfl) (Z6e ..) (fun t=>?_) (fun i=> .inl ⟨by cases d<;>rfl,fun h=>h⟩)
 cases d with
 | none=>exact .inl ⟨rfl,fun h=>h,rfl⟩
 | some d=>
  by_cases e:t=d
  ·subst e
   right
   have hlt:t<a.tmps.size:=h.n▸hd t rfl
   rw [Z6c hlt]
   simp only [St.put,St.set,Z02]
   exact A.mono Ext.any hA
  ·exact .inl ⟨by simp only [St.put,St.set];exact Z00 _ _ e,fun h=>h,Z6f e _⟩
theorem HoldO.yield_same {d:Option Nat}{A:Zb}{v:Value}(h:HoldO C S O a w)(hd:∀t,d=some t→t<C.N)
  (hA:A.R w (fun b=>C.H0 b∨O b≠0) Zl v):HoldO C (S.put d A) O (a.put d v) w:=
 h.yield (Goes.refl C O w fun b hb=>(h.own b hb).2) hd hA
theorem HoldO.weak (h:HoldO C S O a w)(hd:S'.d=S.d)(hs:∀t,S'.s t=S.s t∨S'.s t=top)(hr:∀i,S'.r i=S.r i∨S'.r i=emp):HoldO C S' O a w:=
 {h with
  dfr:=by rw [hd];exact h.dfr
  slot:=fun t=>by
   rcases hs t with e | e
   ·rw [e];exact h.slot t
   ·rw [e];trivial
  res:=fun i=>by
   rcases hr i with e | e
   ·rw [e];exact h.res i
   ·rw [e];trivial}
end hold
theorem Oper.uponIn_mono {F:Fence}{n:Nat}{P:Program}{o:Oper}{a:Act}{next next':Act→World→Prop}{Q Q':Exit→Act→World→Prop}(hn:∀a w,next a w→next' a w)(hQ:∀e a w,Q e a w→Q' e a w)
  (r:Result Next)(h:o.uponIn F n P a next Q r):o.uponIn F n P a next' Q' r:=by
 have hl:LetsOut Q→LetsOut Q':=fun ⟨a,w,h⟩=>⟨a,w,hQ _ _ _ h⟩
 cases r with
 | halt x w=>cases x<;>first | exact h.elim | exact hQ _ _ _ h
 | ok x w=>
  cases x with
  | value v=>exact hn _ _ h
  | skip=>exact hn _ _ h
  | defer d=>exact hn _ _ h
  | row r l=>exact ⟨h.1,h.2.mono fun v w' hR=>hn _ _ hR⟩
  | enter f l=>
   refine ⟨h.1,h.2.mono fun e w' hR=>?_⟩
   cases e with
   | returned v=>exact hn _ _ hR
   | panicked ch=>exact hQ _ _ _ hR
   | outgrown=>exact hl hR
  | round l f t a' b=>
   refine ⟨h.1,h.2.mono fun e w' hR=>?_⟩
   cases e with
   | returned v=>exact hn _ _ hR
   | panicked ch=>exact hQ _ _ _ hR
   | outgrown=>exact hl hR
  | _=>exact h.elim
def OpT (C:Ctx)(o:Oper)(S:St)(K:St→Prop):Prop:=
 ∀a w,Hold C S a w→o.wpIn C.fen 0 C.P a w (fun a' w'=> ∃S',K S'∧Hold C S' a' w') (fun _ _ _=>False)
def wpL (C:Ctx)(ops:Array Oper)(Q:Exit→Act→World→Prop):List Oper→Act→World→Prop
 | [],a,w=>Q .normal a w
 | o::rest,a,w=>if Region.wanted o (yielded ops a.tmps) then o.wpIn C.fen 0 C.P a w (wpL C ops Q rest) Q else wpL C ops Q rest (a.put o.dst undef) w
theorem Ztf {C:Ctx}{ops:Array Oper}{Q:Exit→Act→World→Prop}:∀(l:List Oper) (idx:List Nat) (a:Act) (w:World),idx.map (fun i=>ops[i]?)=l.map some→wpL C ops Q l a w→
  wpOpsIn C.fen 0 C.P ops Q idx a w
 | [],[],a,w,_,h=>h
 | [],_::_,_,_,e,_=>by simp at e
 | _::_,[],_,_,e,_=>by simp at e
 | o::l,i::idx,a,w,e,h=>by
  simp only [List.map_cons,List.cons.injEq] at e
  simp only [wpOpsIn,e.1]
  simp only [wpL] at h
  split
  ·rename_i hw
   rw [if_pos hw] at h
   exact ⟨h.1,Oper.uponIn_mono (fun a w h=>Ztf l idx a w e.2 h) (fun _ _ _ h=>h) _ h.2⟩
  ·rename_i hw
   rw [if_neg hw] at h
   exact ⟨fun f _=>trivial,Ztf l idx _ w e.2 h⟩
def AOps (C:Ctx)(ops:Array Oper)(Q:Exit→St→Prop)(l:List Oper)(S:St):Prop:=
 ∀a w,Hold C S a w→wpL C ops (fun e a w=> ∃S',Q e S'∧Hold C S' a w) l a w
section ops
variable {C : Ctx} {ops : Array Oper} {Q : Exit → St → Prop} {S : St}
theorem Y78 (ops:Array Oper):(List.range ops.size).map (fun i=>ops[i]?)=ops.toList.map some:=by
 apply List.ext_getElem
 ·simp
 ·intro i h1 h2
  simp at h1
  simp [h1]
theorem AW.region {id:Nat}(h:AOps C ops Q ops.toList S):AW C (.region id ops false) Q S:=
 fun a w hh=>wpIn_region (Ztf _ _ a w (Y78 ops) (h a w hh))
theorem AOps.nil (h:Q .normal S):AOps C ops Q [] S:=fun a w hh=>⟨S,h,hh⟩
theorem Y20 {o:Oper}{y:Nat→Option Bool}(h:o.guard=none):Region.wanted o y=true:=by simp [Region.wanted,h]
theorem AOps.consT {o:Oper}{l:List Oper}{K:St→Prop}(hg:o.guard=none)(h:OpT C o S K)(hK:∀S',K S'→AOps C ops Q l S'):AOps C ops Q (o::l) S:=by
 intro a w hh
 simp only [wpL,Y20 hg,if_true]
 exact ⟨(h a w hh).1,Oper.uponIn_mono (fun a' w' ⟨S',h1,h2⟩=>hK S' h1 a' w' h2) (fun _ _ _ h=>h.elim) _ (h a w hh).2⟩
def OpE (C:Ctx)(o:Oper)(S S':St):Prop:=OpT C o S (fun T=>T=S')
theorem AOps.cons {o:Oper}{l:List Oper}{S':St}(h:OpE C o S S')(hg:o.guard=none)(hK:AOps C ops Q l S'):AOps C ops Q (o::l) S:=
 AOps.consT hg h fun _ e=>e▸hK
theorem AW.weak {c:Code}{S':St}(hd:S'.d=S.d)(hs:∀t,S'.s t=S.s t∨S'.s t=top)(hr:∀i,S'.r i=S.r i∨S'.r i=emp)(h:AW C c Q S'):AW C c Q S:=
 fun a w ⟨O,hh⟩=>h a w ⟨O,hh.weak hd hs hr⟩
end ops
end Go.Wb
namespace Go.Wb
open Go
section kinds
variable {α β : Type}
def Z0 (ik:IntKind):Kd Int where
 sz:=1
 agg:=false
 C:=fun _ _ x cs=>cs=[.int ik x]∧ik.has x
 len:=by rintro w H x cs ⟨rfl,_⟩;rfl
 one:=by rintro w H x cs ⟨rfl,_⟩ v hv;simp at hv;subst hv;rfl
 flat:=fun _=>rfl
 mono:=fun _ h=>h
def Zx:Kd (BitVec 64) where
 sz:=1
 agg:=false
 C:=fun _ _ x cs=>cs=[.int .u64 (x.toNat:Int)]
 len:=by rintro w H x cs rfl;rfl
 one:=by rintro w H x cs rfl v hv;simp at hv;subst hv;rfl
 flat:=fun _=>rfl
 mono:=fun _ h=>h
def Z3:Kd Bool where
 sz:=1
 agg:=false
 C:=fun _ _ x cs=>cs=[.bool x]
 len:=by rintro w H x cs rfl;rfl
 one:=by rintro w H x cs rfl v hv;simp at hv;subst hv;rfl
 flat:=fun _=>rfl
 mono:=fun _ h=>h
def Z68:Kd ByteArray where
 sz:=1
 agg:=false
 C:=fun _ _ x cs=>cs=[.string x]∧x.size≤9223372036854775807
 len:=by rintro w H x cs ⟨rfl,_⟩;rfl
 one:=by rintro w H x cs ⟨rfl,_⟩ v hv;simp at hv;subst hv;rfl
 flat:=fun _=>rfl
 mono:=fun _ h=>h
def kraw:Kd Value where
 sz:=1
 agg:=false
 C:=fun _ _ x cs=>cs=[x]∧x.oneCell'=true
 len:=by rintro w H x cs ⟨rfl,_⟩;rfl
 one:=by rintro w H x cs ⟨rfl,h⟩ v hv;simp at hv;subst hv;exact h
 flat:=fun _=>rfl
 mono:=fun _ h=>h
def Cells (k:Kd α)(w:World)(H:HS):List α→List Value→Prop
 | [],cs=>cs=[]
 | x::l,cs=> ∃c1 c2,cs=c1++c2∧k.C w H x c1∧Cells k w H l c2
theorem Cells.len {k:Kd α}{w:World}{H:HS}:∀{l:List α} {cs:List Value},Cells k w H l cs→cs.length=l.length*k.sz
 | [],_,h=>by simp [Cells] at h;simp [h]
 | x::l,_,h=>by
  obtain ⟨c1,c2,rfl,h1,h2⟩:=h
  rw [List.length_append,k.len h1,Cells.len h2,List.length_cons,Nat.add_mul,Nat.one_mul,Nat.add_comm]
theorem Cells.one {k:Kd α}{w:World}{H:HS}:∀{l:List α} {cs:List Value},Cells k w H l cs→∀v∈cs,v.oneCell'=true
 | [],_,h,v,hv=>by simp [Cells] at h;subst h;cases hv
 | x::l,_,h,v,hv=>by
  obtain ⟨c1,c2,rfl,h1,h2⟩:=h
  rcases List.mem_append.1 hv with h | h
  ·exact k.one h1 v h
  ·exact Cells.one h2 v h
theorem Cells.mono {k:Kd α}{w w':World}{H H':HS}(e:Ext w H Zl w' H' Zl):∀{l:List α} {cs:List Value},Cells k w H l cs→Cells k w' H' l cs
 | [],_,h=>h
 | x::l,_,h=>by
  obtain ⟨c1,c2,rfl,h1,h2⟩:=h
  exact ⟨c1,c2,rfl,k.mono e h1,Cells.mono e h2⟩
theorem Cells.append {k:Kd α}{w:World}{H:HS}:∀{l m:List α} {cs ds:List Value},Cells k w H l cs→Cells k w H m ds→Cells k w H (l++m) (cs++ds)
 | [],_,_,_,h,h'=>by simp [Cells] at h;subst h;exact h'
 | x::l,_,_,_,h,h'=>by
  obtain ⟨c1,c2,rfl,h1,h2⟩:=h
  exact ⟨c1,_,List.append_assoc ..,h1,Cells.append h2 h'⟩
theorem Cells.single {k:Kd α}{w:World}{H:HS}{x:α}{cs:List Value}(h:k.C w H x cs):Cells k w H [x] cs:=⟨cs,[],by simp,h,rfl⟩
theorem Cells.split {k:Kd α}{w:World}{H:HS}:∀{l m:List α} {cs:List Value},Cells k w H (l++m) cs→Cells k w H l (cs.take (l.length*k.sz))∧Cells k w H m (cs.drop (l.length*k.sz))
 | [],_,_,h=>by simpa [Cells] using h
 | x::l,m,_,h=>by
  obtain ⟨c1,c2,rfl,h1,h2⟩:=h
  have hl:=k.len h1
  obtain ⟨h3,h4⟩:=Cells.split (l:=l) h2
  have e1:(x::l).length*k.sz=c1.length+l.length*k.sz:=by rw [List.length_cons,Nat.add_mul,Nat.one_mul,hl,Nat.add_comm]
  rw [e1]
  refine ⟨⟨c1,c2.take (l.length*k.sz),?_,h1,h3⟩,?_⟩
  ·rw [List.take_append,List.take_of_length_le (by omega)];simp
  ·rw [List.drop_append,List.drop_of_length_le (by omega)];simpa using h4
theorem Cells.get {k:Kd α}{w:World}{H:HS}{l:List α}{cs:List Value}(h:Cells k w H l cs)(i:Nat)(hi:i<l.length):k.C w H l[i] ((cs.drop (i*k.sz)).take k.sz):=by
 have e:l=l.take i++(l[i]::l.drop (i+1)):=by simp
 rw [e] at h
 obtain ⟨-,h2⟩:=h.split
 have hl:(l.take i).length=i:=by rw [List.length_take];omega
 rw [hl] at h2
 obtain ⟨c1,c2,e2,h3, -⟩:=h2
 rw [e2]
 have:=k.len h3
 rw [List.take_append,List.take_of_length_le (by omega)]
 simpa [this] using h3
theorem Cells.take {k:Kd α}{w:World}{H:HS}{l:List α}{cs:List Value}(h:Cells k w H l cs)(i:Nat)(hi:i≤l.length):Cells k w H (l.take i) (cs.take (i*k.sz)):=by
 have e:l=l.take i++l.drop i:=by simp
 rw [e] at h
 have:=h.split.1
 rwa [List.length_take,Nat.min_eq_left hi] at this
theorem Cells.drop {k:Kd α}{w:World}{H:HS}{l:List α}{cs:List Value}(h:Cells k w H l cs)(i:Nat)(hi:i≤l.length):Cells k w H (l.drop i) (cs.drop (i*k.sz)):=by
 have e:l=l.take i++l.drop i:=by simp
 rw [e] at h
 have:=h.split.2
 rwa [List.length_take,Nat.min_eq_left hi] at this
def lay (cs:List Value)(off:Nat)(c:List Value):List Value:=cs.take off++(c++cs.drop (off+c.length))
theorem Cells.set {k:Kd α}{w:World}{H:HS}{l:List α}{cs c:List Value}{y:α}(h:Cells k w H l cs)(i:Nat)(hi:i<l.length)(hy:k.C w H y c):Cells k w H (l.set i y) (lay cs (i*k.sz) c):=by
 have h1:=h.take i (by omega)
 have h2:=h.drop (i+1) (by omega)
 have e:l.set i y=l.take i++([y]++l.drop (i+1)):=by
  rw [List.set_eq_take_append_cons_drop,if_pos hi];rfl
 rw [e]
 unfold lay
 rw [k.len hy,←Nat.succ_mul]
 exact h1.append ((Cells.single hy).append h2)
def At (w:World)(b off:Nat)(cs:List Value):Prop:= ∀(j:Nat) u,cs[j]? =some u→w.cell? ⟨b,off+j,none⟩=some u
theorem At.sub {w:World}{b off:Nat}{cs:List Value}(h:At w b off cs)(i n:Nat):At w b (off+i) ((cs.drop i).take n):=fun j u hu=>by
 rw [List.getElem?_take] at hu
 split at hu
 ·rw [List.getElem?_drop] at hu
  rw [Nat.add_assoc];exact h _ _ hu
 ·cases hu
theorem At.mono {w w':World}{b off:Nat}{cs:List Value}(h:At w b off cs)(e:w'.heap[b]? =w.heap[b]?):At w' b off cs:=fun j u hu=>(World.cell?_of_block (w:=w) (a:=⟨b,off+j,none⟩) e).trans (h j u hu)
theorem At.obj {w:World}{b off:Nat}{cs:List Value}(h:At w b off cs)(hp:0<cs.length):∃cur E fr,w.heap[b]? =some (.cells cur E fr):=by
 have h1:=h 0 cs[0] (List.getElem?_eq_getElem hp)
 unfold World.cell? at h1
 split at h1
 ·rename_i hb;exact ⟨_,_,_,hb⟩
 ·cases h1
class Sh {α:Type} (k:Kd α) (E:TypeId):Prop where
 out:k.sh E=true
structure AtK (k:Kd α) (w:World) (b off:Nat) (cs:List Value):Prop where
 at_:At w b off cs
 tag:∃cur E fr,w.heap[b]? =some (.cells cur E fr)∧k.sh E=true
theorem AtK.mono {k:Kd α}{w w':World}{b off:Nat}{cs:List Value}(h:AtK k w b off cs)(e:w'.heap[b]? =w.heap[b]?):AtK k w' b off cs:=⟨h.at_.mono e,by rw [e];exact h.tag⟩
def SlC (k:Kd α)(w:World)(H:HS)(l:List α)(v:Value):Prop:=
 ∃A c,v= .slice A l.length c∧l.length≤c∧c≤9223372036854775807∧
  (0<l.length→∃b off cl,A=some ⟨b,off,none⟩∧b<w.heap.size∧¬H b∧Cells k w H l cl∧AtK k w b off cl)
def Z1 (k:Kd α):Kd (List α) where
 sz:=1
 agg:=false
 C:=fun w H l cs=> ∃v,cs=[v]∧SlC k w H l v
 len:=by rintro w H x cs ⟨v,rfl,_⟩;rfl
 one:=by rintro w H x cs ⟨v,rfl,A,c,rfl,_⟩ u hu;simp at hu;subst hu;rfl
 flat:=fun _=>rfl
 mono:=by
  rintro w H w' H' l cs e ⟨v,rfl,A,c,rfl,h1,h2,h3⟩
  refine ⟨_,rfl,A,c,rfl,h1,h2,fun hp=>?_⟩
  obtain ⟨b,off,cl,rfl,hb,hn,hc,hat⟩:=h3 hp
  obtain ⟨hn',hs⟩:=e.vis b hb hn
  exact ⟨b,off,cl,rfl,Nat.lt_of_lt_of_le hb e.size,hn',hc.mono e,hat.mono hs⟩
def Z2 (k:Kd α)(m:Kd β):Kd (α×β) where
 sz:=k.sz+m.sz
 agg:=true
 C:=fun w H x cs=> ∃c1 c2,cs=c1++c2∧k.C w H x.1 c1∧m.C w H x.2 c2
 len:=by rintro w H x cs ⟨c1,c2,rfl,h1,h2⟩;rw [List.length_append,k.len h1,m.len h2]
 one:=by
  rintro w H x cs ⟨c1,c2,rfl,h1,h2⟩ v hv
  rcases List.mem_append.1 hv with h | h
  ·exact k.one h1 v h
  ·exact m.one h2 v h
 flat:=fun h=>by cases h
 mono:=by
  rintro w H w' H' x cs e ⟨c1,c2,rfl,h1,h2⟩
  exact ⟨c1,c2,rfl,k.mono e h1,m.mono e h2⟩
def Z0k (k:Kd β)(f:α→β)(s:TypeId→Bool:=fun _=>true):Kd α where
 sz:=k.sz
 agg:=true
 C:=fun w H x cs=>k.C w H (f x) cs
 len:=fun h=>k.len h
 one:=fun h=>k.one h
 flat:=fun h=>by cases h
 mono:=fun e h=>k.mono e h
 sh:=s
def Z4 (n:Nat)(k:Kd α):Kd (Vector α n) where
 sz:=n*k.sz
 agg:=true
 C:=fun w H x cs=>Cells k w H x.toList cs
 len:=fun h=>by rw [h.len];simp
 one:=fun h=>h.one
 flat:=fun h=>by cases h
 mono:=fun e h=>h.mono e
def Ycl:Kd Unit where
 sz:=0
 agg:=true
 C:=fun _ _ _ cs=>cs=[]
 len:=by rintro w H x cs rfl;rfl
 one:=by rintro w H x cs rfl v hv;cases hv
 flat:=fun h=>by cases h
 mono:=fun _ h=>h
end kinds
structure Lens {α β:Type} (k:Kd α) (kf:Kd β) where
 off:Nat
 get:α→β
 set:α→β→α
 fits:off+kf.sz≤k.sz
 okget:∀{w H x cs},k.C w H x cs→kf.C w H (get x) ((cs.drop off).take kf.sz)
 okset:∀{w H x y cs c},k.C w H x cs→kf.C w H y c→k.C w H (set x y) (lay cs off c)
section lenses
variable {α β γ : Type}
theorem Zjj {cs c:List Value}{off:Nat}(h:off+c.length≤cs.length):(lay cs off c).length=cs.length:=by
 simp [lay];omega
theorem Z92 {cs c:List Value}{off:Nat}(h:off+c.length≤cs.length)(i:Nat):(lay cs off c)[i]? =if i<off then cs[i]? else if i<off+c.length then c[i - off]? else cs[i]? :=by
 unfold lay
 rw [List.getElem?_append,List.length_take,Nat.min_eq_left (by omega)]
 by_cases h1:i<off
 ·simp [h1]
 ·rw [if_neg h1,if_neg h1,List.getElem?_append]
  by_cases h2:i<off+c.length
  ·rw [if_pos h2,if_pos (by omega)]
  ·rw [if_neg h2,if_neg (by omega),List.getElem?_drop]
   congr 1
   omega
theorem Zyc {cs c:List Value}{o1 o2 n:Nat}(h:o1+n≤cs.length)(h2:o2+c.length≤n):lay cs o1 (lay ((cs.drop o1).take n) o2 c)=lay cs (o1+o2) c:=by
 have hl:((cs.drop o1).take n).length=n:=by simp;omega
 have hl2:(lay ((cs.drop o1).take n) o2 c).length=n:=by rw [Zjj (by omega),hl]
 apply List.ext_getElem?
 intro i
 rw [Z92 (cs:=cs) (off:=o1) (by omega),Z92 (cs:=cs) (c:=c) (off:=o1+o2) (by omega),hl2]
 by_cases h1:i<o1
 ·rw [if_pos h1,if_pos (by omega)]
 ·rw [if_neg h1]
  by_cases h3:i<o1+n
  ·rw [if_pos h3,Z92 (cs:=(cs.drop o1).take n) (c:=c) (off:=o2) (by omega)]
   by_cases h4:i - o1<o2
   ·rw [if_pos h4,if_pos (by omega),List.getElem?_take,if_pos (by omega),List.getElem?_drop]
    congr 1
    omega
   ·rw [if_neg h4,if_neg (show ¬i<o1+o2 by omega)]
    by_cases h5:i - o1<o2+c.length
    ·rw [if_pos h5,if_pos (by omega)]
     congr 1
     omega
    ·rw [if_neg h5,if_neg (by omega),List.getElem?_take,if_pos (by omega),List.getElem?_drop]
     congr 1
     omega
  ·rw [if_neg h3,if_neg (by omega),if_neg (by omega)]
theorem Zzx {cs c:List Value}(h:c.length=cs.length):lay cs 0 c=c:=by
 unfold lay
 rw [List.take_zero,List.nil_append,Nat.zero_add,List.drop_of_length_le (by omega),List.append_nil]
def Lens.id (k:Kd α):Lens k k where
 off:=0
 get:=fun x=>x
 set:=fun _ y=>y
 fits:=by omega
 okget:=fun h=>by rw [List.drop_zero,List.take_of_length_le (by rw [k.len h];omega)];exact h
 okset:=fun h h'=>by rw [Zzx (by rw [k.len h,k.len h'])];exact h'
def Lens.comp {k:Kd α}{m:Kd β}{p:Kd γ}(L:Lens k m)(M:Lens m p):Lens k p where
 off:=L.off+M.off
 get:=fun x=>M.get (L.get x)
 set:=fun x y=>L.set x (M.set (L.get x) y)
 fits:=by have:=L.fits;have:=M.fits;omega
 okget:=fun h=>by
  have h1:=M.okget (L.okget h)
  rwa [List.drop_take,List.drop_drop,List.take_take,Nat.min_eq_left (by have:=M.fits;omega)] at h1
 okset:=fun h h'=>by
  have h1:=L.okset h (M.okset (L.okget h) h')
  rwa [Zyc (by rw [k.len h];exact L.fits) (by rw [p.len h'];exact M.fits)] at h1
def Lens.fst (k:Kd α)(m:Kd β):Lens (Z2 k m) k where
 off:=0
 get:=fun x=>x.1
 set:=fun x y=>(y,x.2)
 fits:=by show 0+k.sz≤k.sz+m.sz;omega
 okget:=by
  rintro w H x cs ⟨c1,c2,rfl,h1,h2⟩
  rw [List.drop_zero,List.take_append,List.take_of_length_le (by rw [k.len h1];omega),k.len h1,Nat.sub_self,List.take_zero,List.append_nil]
  exact h1
 okset:=by
  rintro w H x y cs c ⟨c1,c2,rfl,h1,h2⟩ h3
  refine ⟨c,c2,?_,h3,h2⟩
  unfold lay
  rw [List.take_zero,List.nil_append,Nat.zero_add,List.drop_append,List.drop_of_length_le (by rw [k.len h1,k.len h3];omega),k.len h3,k.len h1,Nat.sub_self]
  simp
def Lens.snd (k:Kd α)(m:Kd β):Lens (Z2 k m) m where
 off:=k.sz
 get:=fun x=>x.2
 set:=fun x y=>(x.1,y)
 fits:=by show k.sz+m.sz≤k.sz+m.sz;omega
 okget:=by
  rintro w H x cs ⟨c1,c2,rfl,h1,h2⟩
  rw [List.drop_append,List.drop_of_length_le (by rw [k.len h1];omega),k.len h1,Nat.sub_self,List.drop_zero,List.nil_append,List.take_of_length_le (by rw [m.len h2];omega)]
  exact h2
 okset:=by
  rintro w H x y cs c ⟨c1,c2,rfl,h1,h2⟩ h3
  refine ⟨c1,c,?_,h1,h3⟩
  unfold lay
  rw [List.take_append,List.take_of_length_le (by rw [k.len h1];omega),k.len h1,Nat.sub_self,List.take_zero,List.append_nil,List.drop_of_length_le (by simp [k.len h1,m.len h2,m.len h3])]
  simp
instance {ik:IntKind}{E:TypeId}:Sh (Z0 ik) E:=⟨rfl⟩
instance {E:TypeId}:Sh Zx E:=⟨rfl⟩
instance {E:TypeId}:Sh Z3 E:=⟨rfl⟩
instance {E:TypeId}:Sh Z68 E:=⟨rfl⟩
instance {E:TypeId}:Sh kraw E:=⟨rfl⟩
instance {α:Type}{k:Kd α}{E:TypeId}:Sh (Z1 k) E:=⟨rfl⟩
instance {α:Type}{k:Kd α}{n:Nat}{E:TypeId}:Sh (Z4 n k) E:=⟨rfl⟩
def Lens.iso {k:Kd β}{f:α→β}{s:TypeId→Bool}{p:Kd γ}(L:Lens k p)(get:α→γ)(set:α→γ→α)(hg:∀x,L.get (f x)=get x)(hs:∀x y,f (set x y)=L.set (f x) y):Lens (Z0k k f s) p where
 off:=L.off
 get:=get
 set:=set
 fits:=L.fits
 okget:=fun {w H x cs} h=>by rw [←hg];exact L.okget (k:=k) (x:=f x) h
 okset:=fun {w H x y cs c} h h'=>by show k.C w H (f (set x y)) _;rw [hs];exact L.okset (x:=f x) h h'
def Lens.idx (n:Nat)(k:Kd α)(i:Nat)(h:i<n):Lens (Z4 n k) k where
 off:=i*k.sz
 get:=fun x=>x[i]
 set:=fun x y=>x.set i y
 fits:=by
  show i*k.sz+k.sz≤n*k.sz
  rw [←Nat.succ_mul];exact Nat.mul_le_mul_right _ h
 okget:=fun {w H x cs} hc=>by
  have:=Cells.get (k:=k) (l:=x.toList) hc i (by simpa using h)
  simpa using this
 okset:=fun {w H x y cs c} hc hy=>by
  have:=Cells.set (k:=k) (l:=x.toList) hc i (by simpa using h) hy
  show Cells k w H (x.set i y).toList _
  simpa [Vector.toList_set] using this
end lenses
end Go.Wb
namespace Go.Wb
open Go
class Dup (A:Zb):Prop where
 dup:∀{w H M M' v},A.R w H M v→A.R w H M' v
instance {α:Type}(k:Kd α)(x:α):Dup (rd k x):=⟨fun h=>h⟩
instance (v:Value):Dup (Zg v):=⟨fun h=>h⟩
instance:Dup top:=⟨fun h=>h⟩
def hid (C:Ctx)(O:Nat→Nat):HS:=fun b=>C.H0 b∨O b≠0
def Val (C:Ctx)(S:St)(x:Operand)(A:Zb):Prop:= ∀O a w,HoldO C S O a w→A.R w (hid C O) Zl (a.eval x)
def Za {α β:Type}{k:Kd α}{kf:Kd β}(g:Nat)(L:Lens k kf):Zb:=Zg (.pointer (some ⟨g,L.off,none⟩))
instance {α β:Type}{k:Kd α}{kf:Kd β}(g:Nat)(L:Lens k kf):Dup (Za g L):=⟨fun h=>h⟩
def rp {α:Type}(k:Kd α)(x:α):Zb:=
 ⟨fun w H _ v=> ∃b off cs,v= .pointer (some ⟨b,off,none⟩)∧b<w.heap.size∧¬H b∧k.C w H x cs∧At w b off cs,
  fun h ⟨b,off,cs,hv,hb,hn,hc,hat⟩=>let ⟨x,y⟩:=h.vis b hb hn;⟨b,off,cs,hv,Nat.lt_of_lt_of_le hb h.size,x,k.mono h.pure_ hc,hat.mono y⟩⟩
instance {α:Type}(k:Kd α)(x:α):Dup (rp k x):=⟨fun h=>h⟩
def Z0t (A B:Zb):Zb:=⟨fun w H M v=> ∃x y,v= .tuple #[x,y]∧A.R w H Zl x∧B.R w H Zl y,fun h ⟨x,y,e,hx,hy⟩=>⟨x,y,e,A.mono h.pure_ hx,B.mono h.pure_ hy⟩⟩
def Z3j (A B D:Zb):Zb:=⟨fun w H M v=> ∃x y z,v= .tuple #[x,y,z]∧A.R w H Zl x∧B.R w H Zl y∧D.R w H Zl z,fun h ⟨x,y,z,e,hx,hy,hz⟩=>⟨x,y,z,e,A.mono h.pure_ hx,B.mono h.pure_ hy,D.mono h.pure_ hz⟩⟩
instance (A B:Zb):Dup (Z0t A B):=⟨fun h=>h⟩
instance (A B D:Zb):Dup (Z3j A B D):=⟨fun h=>h⟩
def gd (t:Bool)(A:Zb):Zb:=⟨fun w H M v=>t=true→A.R w H M v,fun h k ht=>A.mono h (k ht)⟩
instance (t:Bool)(A:Zb)[Dup A]:Dup (gd t A):=⟨fun h ht=>Dup.dup (h ht)⟩
def Zd {α:Type}(g:Nat)(T:TypeId)(k:Kd α)(x:α):Res where
 R:=fun w H M=>M g∧∃cs:List Value,w.heap[g]? =some (.cells cs.toArray T (0,0))∧k.C w H x cs
 mono:=by
  rintro w H M w' H' M' h ⟨hm,cs,hg,hc⟩
  obtain ⟨a,b⟩:=h.own g (Array.getElem?_eq_some_iff.1 hg).1 hm
  exact ⟨a,cs,b.trans hg,k.mono h.pure_ hc⟩
def Zi {α:Type}(v:Value)(E:TypeId)(k:Kd α)(l:List α):Res:=
 ⟨fun w H M=> ∃cl,w.ownsRow 0 E k.sz v l.length cl∧Cells k w H l cl∧∀b,v.ownBlock=some b→M b,
  fun {w H M w' H' M'} h ⟨cl,ho,hc,hm⟩=>⟨cl,by
   refine ⟨ho.1,?_⟩
   rcases ho.2 with e | ⟨g,cap,cur,rfl,hb,hg,r⟩
   ·exact .inl e
   ·exact .inr ⟨g,cap,cur,rfl,hb,(h.own g (Array.getElem?_eq_some_iff.1 hg).1 (hm g rfl)).2.trans hg,r⟩,hc.mono h.pure_,fun b hb=>(h.own b (ho.lt b hb).2 (hm b hb)).1⟩⟩
section vals
variable {C : Ctx} {S : St}
theorem vt {t:Nat}{A:Zb}[Dup A](h:S.s t=A):Val C S (.tmp t) A:=fun O a w hh=>by
 have:=hh.slot t
 rw [h] at this
 exact Dup.dup this
theorem vi {ik:IntKind}{n:Int}(h:ik.has n):Val C S (.const (.int ik n)) (rd (Z0 ik) n):=fun _ _ _ _=>⟨_,⟨rfl,h⟩,rfl⟩
theorem vu {x:BitVec 64}{n:Int}(h:(x.toNat:Int)=n):Val C S (.const (.int .u64 n)) (rd Zx x):=fun _ _ _ _=>⟨_,rfl,by rw [h];rfl⟩
theorem vb {b:Bool}:Val C S (.const (.bool b)) (rd Z3 b):=fun _ _ _ _=>⟨_,rfl,rfl⟩
theorem vs {s:ByteArray}(h:s.size≤9223372036854775807):Val C S (.const (.string s)) (rd Z68 s):=fun _ _ _ _=>⟨_,⟨rfl,h⟩,rfl⟩
theorem vc {v:Value}:Val C S (.const v) (Zg v):=fun _ _ _ _=>rfl
theorem Z04 {α:Type}{k:Kd α}:Val C S (.const (.slice none 0 0)) (rd (Z1 k) []):=fun _ _ _ _=>⟨_,⟨_,rfl,none,0,rfl,Nat.le_refl _,by simp,fun h=>absurd h (by simp)⟩,rfl⟩
theorem Val.of {x:Operand}{A:Zb}(h:Val C S x A){O:Nat→Nat}{a:Act}{w:World}(hh:HoldO C S O a w):A.R w (hid C O) Zl (a.eval x):=h O a w hh
end vals
def Zq (o:Oper)(N:Nat):Bool:=match o.dst with | some d=>Nat.blt d N | none=>true
theorem Z2r {o:Oper}{N:Nat}(h:Zq o N=true):∀t,o.dst=some t→t<N:=fun t e=>by
 simp [Zq,e] at h
 exact h
section opers
variable {C : Ctx} {S S' : St} {o : Oper}
theorem OpE.value (hno:∀c,o.op≠ .defer c)(h:∀O a w,HoldO C S O a w→∃v w',(execOp a.eval o).run C.P w= .ok (.value v) w'∧Hold C S' (a.put o.dst v) w'):OpE C o S S':=by
 rintro a w ⟨O,hh⟩
 obtain ⟨v,w',h1,h2⟩:=h O a w hh
 refine ⟨fun _ _=>trivial,?_⟩
 rw [Oper.semAt_eq _ _ _ hno,h1]
 exact ⟨S',rfl,h2⟩
theorem OpE.skip (hno:∀c,o.op≠ .defer c)(h:∀O a w,HoldO C S O a w→∃w',(execOp a.eval o).run C.P w= .ok .skip w'∧Hold C S' (a.put o.dst undef) w'):OpE C o S S':=by
 rintro a w ⟨O,hh⟩
 obtain ⟨w',h1,h2⟩:=h O a w hh
 refine ⟨fun _ _=>trivial,?_⟩
 rw [Oper.semAt_eq _ _ _ hno,h1]
 exact ⟨S',rfl,h2⟩
theorem OpE.plain {A:Zb}(hno:∀c,o.op≠ .defer c)(hd:Zq o C.N=true)(h:∀O a w,HoldO C S O a w→∃v,(execOp a.eval o).run C.P w= .ok (.value v) w∧A.R w (hid C O) Zl v):OpE C o S (S.put o.dst A):=
 OpE.value hno fun O a w hh=>let ⟨v,h1,h2⟩:=h O a w hh;⟨v,w,h1,O,hh.yield_same (Z2r hd) h2⟩
theorem Zk {x:Operand}{A:Zb}(ho:o.op= .move x)(hd:Zq o C.N=true)(h:Val C S x A):OpE C o S (S.put o.dst A):=
 OpE.plain (by simp [ho]) hd fun O a w hh=>⟨_,by simp [execOp,ho],h.of hh⟩
theorem Zn {x:Operand}{A:Zb}(ho:o.op= .assign x)(hd:Zq o C.N=true)(h:Val C S x A):OpE C o S (S.put o.dst A):=
 OpE.plain (by simp [ho]) hd fun O a w hh=>⟨_,by simp [execOp,ho],h.of hh⟩
theorem Zaa {w:World}{H M:HS}{b:Bool}{v:Value}(h:(rd Z3 b).R w H M v):v= .bool b:=by
 obtain ⟨cs,rfl,rfl⟩:=h;rfl
theorem Z0q {w:World}{H M:HS}{ik:IntKind}{n:Int}{v:Value}(h:(rd (Z0 ik) n).R w H M v):v= .int ik n∧ik.has n:=by
 obtain ⟨cs,⟨rfl,h⟩,rfl⟩:=h;exact ⟨rfl,h⟩
theorem Z3x {w:World}{H M:HS}{x:BitVec 64}{v:Value}(h:(rd Zx x).R w H M v):v= .int .u64 (x.toNat:Int):=by
 obtain ⟨cs,rfl,rfl⟩:=h;rfl
theorem Z58 {α:Type}{k:Kd α}{w:World}{H M:HS}{l:List α}{v:Value}(h:(rd (Z1 k) l).R w H M v):SlC k w H l v:=by
 obtain ⟨cs,⟨u,rfl,h⟩,rfl⟩:=h;exact h
theorem Z4y {α:Type}{k:Kd α}{w:World}{H M:HS}{l:List α}{v:Value}(h:SlC k w H l v):(rd (Z1 k) l).R w H M v:=⟨_,⟨_,rfl,h⟩,rfl⟩
theorem Z49 {w:World}{H M:HS}{b:Bool}:(rd Z3 b).R w H M (.bool b):=⟨_,rfl,rfl⟩
theorem Z35 {w:World}{H M:HS}{ik:IntKind}{n:Int}(h:ik.has n):(rd (Z0 ik) n).R w H M (.int ik n):=⟨_,⟨rfl,h⟩,rfl⟩
theorem Z7t {w:World}{H M:HS}{x:BitVec 64}{n:Int}(h:n=(x.toNat:Int)):(rd Zx x).R w H M (.int .u64 n):=⟨_,rfl,by rw [h];rfl⟩
theorem Z72 (ik:IntKind)(n:Int):ik.has (ik.wrap n):=by
 cases ik<;>simp [IntKind.has,IntKind.min,IntKind.max,IntKind.wrap,IntKind.signed,IntKind.bits]<;>omega
theorem Z2k {op:BinOp}{T:TypeId}{x y:Operand}{k k':IntKind}{a b:Int}{P:Program}{w:World}:(eqGuard op T x y (.int k a) (.int k' b)).run P w= .ok () w:=by
 cases op<;>rfl
section ints
variable {T U : TypeId} {x y : Operand} {ik : IntKind} {m n : Int}
theorem Z0o (ho:o.op= .binOp .add T x y U)(hd:Zq o C.N=true)(hx:Val C S x (rd (Z0 ik) m))(hy:Val C S y (rd (Z0 ik) n)):OpE C o S (S.put o.dst (rd (Z0 ik) (ik.wrap (m+n)))):=
 OpE.plain (by simp [ho]) hd fun O a w hh=>by
  have h1:=(Z0q (hx.of hh)).1;have h2:=(Z0q (hy.of hh)).1
  exact ⟨_,by simp [execOp,ho,h1,h2,Z2k,binOp,Op.intArith],Z35 (Z72 _ _)⟩
theorem Z14 (ho:o.op= .binOp .sub T x y U)(hd:Zq o C.N=true)(hx:Val C S x (rd (Z0 ik) m))(hy:Val C S y (rd (Z0 ik) n)):OpE C o S (S.put o.dst (rd (Z0 ik) (ik.wrap (m - n)))):=
 OpE.plain (by simp [ho]) hd fun O a w hh=>by
  have h1:=(Z0q (hx.of hh)).1;have h2:=(Z0q (hy.of hh)).1
  exact ⟨_,by simp [execOp,ho,h1,h2,Z2k,binOp,Op.intArith],Z35 (Z72 _ _)⟩
theorem Z5f (ho:o.op= .binOp .mul T x y U)(hd:Zq o C.N=true)(hx:Val C S x (rd (Z0 ik) m))(hy:Val C S y (rd (Z0 ik) n)):OpE C o S (S.put o.dst (rd (Z0 ik) (ik.wrap (m*n)))):=
 OpE.plain (by simp [ho]) hd fun O a w hh=>by
  have h1:=(Z0q (hx.of hh)).1;have h2:=(Z0q (hy.of hh)).1
  exact ⟨_,by simp [execOp,ho,h1,h2,Z2k,binOp,Op.intArith],Z35 (Z72 _ _)⟩
theorem Zy (ho:o.op= .binOp .eql T x y U)(hd:Zq o C.N=true)(hx:Val C S x (rd (Z0 ik) m))(hy:Val C S y (rd (Z0 ik) n)):OpE C o S (S.put o.dst (rd Z3 (decide (m=n)))):=
 OpE.plain (by simp [ho]) hd fun O a w hh=>by
  have h1:=(Z0q (hx.of hh)).1;have h2:=(Z0q (hy.of hh)).1
  have e:(m==n)=decide (m=n):=by by_cases e:m=n<;>simp [e]
  exact ⟨.bool (m==n),by simp [execOp,ho,h1,h2,Z2k,binOp,Op.intCmp],by rw [e];exact Z49⟩
theorem Z2j (ho:o.op= .binOp .neq T x y U)(hd:Zq o C.N=true)(hx:Val C S x (rd (Z0 ik) m))(hy:Val C S y (rd (Z0 ik) n)):OpE C o S (S.put o.dst (rd Z3 (decide (m≠n)))):=
 OpE.plain (by simp [ho]) hd fun O a w hh=>by
  have h1:=(Z0q (hx.of hh)).1;have h2:=(Z0q (hy.of hh)).1
  have e:(m !=n)=decide (m≠n):=by by_cases e:m=n<;>simp [e]
  exact ⟨.bool (m !=n),by simp [execOp,ho,h1,h2,Z2k,binOp,Op.intCmp],by rw [e];exact Z49⟩
theorem Zh (ho:o.op= .binOp .lss T x y U)(hd:Zq o C.N=true)(hx:Val C S x (rd (Z0 ik) m))(hy:Val C S y (rd (Z0 ik) n)):OpE C o S (S.put o.dst (rd Z3 (decide (m<n)))):=
 OpE.plain (by simp [ho]) hd fun O a w hh=>by
  have h1:=(Z0q (hx.of hh)).1;have h2:=(Z0q (hy.of hh)).1
  exact ⟨_,by simp [execOp,ho,h1,h2,Z2k,binOp,Op.intCmp],Z49⟩
theorem Z50 (ho:o.op= .binOp .leq T x y U)(hd:Zq o C.N=true)(hx:Val C S x (rd (Z0 ik) m))(hy:Val C S y (rd (Z0 ik) n)):OpE C o S (S.put o.dst (rd Z3 (decide (m≤n)))):=
 OpE.plain (by simp [ho]) hd fun O a w hh=>by
  have h1:=(Z0q (hx.of hh)).1;have h2:=(Z0q (hy.of hh)).1
  exact ⟨_,by simp [execOp,ho,h1,h2,Z2k,binOp,Op.intCmp],Z49⟩
theorem Z1s (ho:o.op= .binOp .gtr T x y U)(hd:Zq o C.N=true)(hx:Val C S x (rd (Z0 ik) m))(hy:Val C S y (rd (Z0 ik) n)):OpE C o S (S.put o.dst (rd Z3 (decide (m>n)))):=
 OpE.plain (by simp [ho]) hd fun O a w hh=>by
  have h1:=(Z0q (hx.of hh)).1;have h2:=(Z0q (hy.of hh)).1
  exact ⟨_,by simp [execOp,ho,h1,h2,Z2k,binOp,Op.intCmp],Z49⟩
theorem Z1z (ho:o.op= .binOp .geq T x y U)(hd:Zq o C.N=true)(hx:Val C S x (rd (Z0 ik) m))(hy:Val C S y (rd (Z0 ik) n)):OpE C o S (S.put o.dst (rd Z3 (decide (m≥n)))):=
 OpE.plain (by simp [ho]) hd fun O a w hh=>by
  have h1:=(Z0q (hx.of hh)).1;have h2:=(Z0q (hy.of hh)).1
  exact ⟨_,by simp [execOp,ho,h1,h2,Z2k,binOp,Op.intCmp],Z49⟩
end ints
theorem Z0g {T:TypeId}{x:Operand}{b:Bool}(ho:o.op= .unOp .not T x)(hd:Zq o C.N=true)(hx:Val C S x (rd Z3 b)):OpE C o S (S.put o.dst (rd Z3 (!b))):=
 OpE.plain (by simp [ho]) hd fun O a w hh=>by
  have h1:=Zaa (hx.of hh)
  exact ⟨_,by simp [execOp,ho,h1,Op.unary],Z49⟩
end opers
end Go.Wb
namespace Go.Wb
open Go
def Zbh:TypeDesc→Bool
 | .struct _=>true
 | .array _ _=>true
 | _=>false
class Ty {α:Type} (P:Program) (T:TypeId) (k:Kd α):Prop where
 sz:(P.info? T).map (·.size)=some k.sz
 ag:(P.underlying T).map Zbh=some k.agg
def KZ {α:Type}(k:Kd α)(z:α)(cs:List Value):Prop:= ∀w H,k.C w H z cs
class Zr {α:outParam Type} (P:Program) (T:TypeId) (k:outParam (Kd α)) (z:outParam α):Prop where
 is:∃cs,KZ k z cs∧(P.info? T).bind (·.zero)=some (mkv k.agg cs)
def Zx8 (P:Program)(T:TypeId)(i:Nat):Option (Nat×Nat):=
 match P.underlying T with
 | some (.struct fs)=>(fs[i]?).bind fun f=>(P.info? f.type).map fun ti=>(f.offset,ti.size)
 | _=>none
class Fl {α:Type} {β:outParam Type} {k:Kd α} {kf:outParam (Kd β)} (P:Program) (T:TypeId) (i:Nat) (L:outParam (Lens k kf)):Prop where
 at_:Zx8 P T i=some (L.off,kf.sz)
 ne:Nat.beq kf.sz 0=false
class Sl {α:Type} (P:Program) (T:TypeId) (E:outParam TypeId) (k:Kd α):Prop where
 u:P.underlying T=some (.slice E)
 sz:(P.info? E).map (·.size)=some k.sz
class Ar {α:Type} (P:Program) (T:TypeId) (E:outParam TypeId) (n:Nat) (k:Kd α):Prop where
 u:P.underlying T=some (.array n E)
 sz:(P.info? E).map (·.size)=some k.sz
theorem Ty.out {α:Type}{P:Program}{T:TypeId}{k:Kd α}(h:Ty P T k):∃i d,P.info? T=some i∧P.underlying T=some d∧Zbh d=k.agg∧i.size=k.sz:=by
 obtain ⟨i,h1,h2⟩:=Option.map_eq_some_iff.1 h.sz
 obtain ⟨d,h3,h4⟩:=Option.map_eq_some_iff.1 h.ag
 exact ⟨i,d,h1,h3,h4,h2⟩
theorem Zr.out {α:Type}{P:Program}{T:TypeId}{k:Kd α}{z:α}(h:Zr P T k z):∃i zv,P.info? T=some i∧i.zero=some zv∧∀w H,k.C w H z zv.cells.toList:=by
 obtain ⟨cs,h1,h2⟩:=h
 obtain ⟨i,h3,h4⟩:=Option.bind_eq_some_iff.1 h2
 refine ⟨i,_,h3,h4,fun w H=>?_⟩
 rw [Zy5 (k.one (h1 w H)) (fun e=>(k.len (h1 w H)).trans (k.flat e))]
 exact h1 w H
theorem Fl.out {α β:Type}{k:Kd α}{kf:Kd β}{P:Program}{T:TypeId}{i:Nat}{L:Lens k kf}(h:Fl P T i L):∃fs f ti,P.underlying T=some (.struct fs)∧fs[i]? =some f∧f.offset=L.off∧P.info? f.type=some ti∧ti.size=kf.sz∧kf.sz≠0:=by
 have h1:=h.at_
 unfold Zx8 at h1
 split at h1
 ·rename_i fs hu
  obtain ⟨f,h2,h3⟩:=Option.bind_eq_some_iff.1 h1
  obtain ⟨ti,h4,h5⟩:=Option.map_eq_some_iff.1 h3
  simp only [Prod.mk.injEq] at h5
  exact ⟨fs,f,ti,hu,h2,h5.1,h4,h5.2,fun e=>by have:=h.ne;rw [e] at this;cases this⟩
 ·cases h1
theorem Sl.out {α:Type}{P:Program}{T E:TypeId}{k:Kd α}(h:Sl P T E k):P.underlying T=some (.slice E)∧∃i,P.info? E=some i∧i.size=k.sz:=
 ⟨h.u,Option.map_eq_some_iff.1 h.sz⟩
theorem Ar.out {α:Type}{P:Program}{T E:TypeId}{n:Nat}{k:Kd α}(h:Ar P T E n k):P.underlying T=some (.array n E)∧∃i,P.info? E=some i∧i.size=k.sz:=
 ⟨h.u,Option.map_eq_some_iff.1 h.sz⟩
theorem Ziw (ik:IntKind)(h:ik.has 0):KZ (Z0 ik) 0 [.int ik 0]:=fun _ _=>⟨rfl,h⟩
theorem Z13:KZ (Z0 .i64) 0 [.int .i64 0]:=Ziw _ ⟨by decide,by decide⟩
theorem Zak:KZ Zx 0 [.int .u64 0]:=fun _ _=>rfl
theorem Z7x:KZ Z3 false [.bool false]:=fun _ _=>rfl
theorem Y9f:KZ Z68 ⟨#[]⟩ [.string ⟨#[]⟩]:=fun _ _=>⟨rfl,by decide⟩
theorem Z2m {α:Type}(k:Kd α):KZ (Z1 k) [] [.slice none 0 0]:=fun _ _=>⟨_,rfl,none,0,rfl,Nat.le_refl _,by simp,fun h=>absurd h (by simp)⟩
theorem Za9 {v:Value}(h:v.oneCell'=true):KZ kraw v [v]:=fun _ _=>⟨rfl,h⟩
theorem Z0b {α β:Type}{k:Kd α}{m:Kd β}{x:α}{y:β}{c d:List Value}(h:KZ k x c)(h':KZ m y d):KZ (Z2 k m) (x,y) (c++d):=fun w H=>⟨c,d,rfl,h w H,h' w H⟩
theorem Z1j {α β:Type}{k:Kd β}{f:α→β}{s:TypeId→Bool}{z:α}{c:List Value}(h:KZ k (f z) c):KZ (Z0k k f s) z c:=fun w H=>h w H
theorem Z3e {α:Type}{k:Kd α}{z:α}{c:List Value}(n:Nat)(h:KZ k z c):KZ (Z4 n k) (Vector.replicate n z) (List.replicate n c).flatten:=fun w H=>by
 show Cells k w H (Vector.replicate n z).toList _
 rw [Vector.toList_replicate]
 induction n with
 | zero=>rfl
 | succ n ih=>rw [List.replicate_succ,List.replicate_succ,List.flatten_cons];exact ⟨c,_,rfl,h w H,ih⟩
theorem Z38 (g off j:Nat):(⟨g,off,none⟩:Addr).add j=⟨g,off+j,none⟩:=by
 unfold Addr.add
 split
 ·rename_i h;subst h;rfl
 ·rfl
section mem
variable {α β : Type} {P : Program} {w : World} {H : HS}
theorem At.row {w:World}{g off:Nat}{cur cs:List Value}{T:TypeId}{fr:Nat×Nat}(hg:w.heap[g]? =some (.cells cur.toArray T fr))(h:cs=(cur.drop off).take cs.length):At w g off cs:=fun j u hu=>by
 rw [h,List.getElem?_take] at hu
 split at hu
 ·rw [List.getElem?_drop] at hu
  simp [World.cell?,hg,hu]
 ·cases hu
theorem Zc0 {T:TypeId}{k:Kd α}{x:α}{g off:Nat}{cs:List Value}(ht:Ty P T k)(hc:k.C w H x cs)(hat:At w g off cs):(loadVar T ⟨g,off,none⟩).run P w= .ok (mkv k.agg cs) w:=by
 obtain ⟨i,d,hi,hu,ha,hs⟩:=ht.out
 have hl:=k.len hc
 have hagg:(isAgg T).run P w= .ok k.agg w:=by
  unfold isAgg
  rw [Sem.run_bind,run_underlying hu w]
  rw [←ha]
  cases d<;>simp [Zbh]
 cases hk:k.agg with
 | true=>
  have h1:(loadCells ⟨g,off,none⟩ cs.length).run P w= .ok cs.toArray w:=
   run_loadCells_list (P:=P) w ⟨g,off,none⟩ cs (fun j v hv=>by rw [Z38];exact hat j v hv)
  rw [hl,←hs] at h1
  simp [loadVar,Sem.run_bind,hagg,hk,sizeOf,typeInfo,hi,h1,mkv]
 | false=>
  have h1:cs.length=1:=hl.trans (k.flat hk)
  match cs,h1 with
  | [c],_=>
   have h2:=hat 0 c rfl
   rw [Nat.add_zero] at h2
   simp [loadVar,Sem.run_bind,hagg,hk,h2,mkv]
theorem Zg5 {k:Kd α}{x:α}{cs:List Value}(hc:k.C w H x cs):(mkv k.agg cs).cells=cs.toArray:=by
 have:=Zy5 (agg:=k.agg) (k.one hc) (fun h=>(k.len hc).trans (k.flat h))
 rw [←Array.toArray_toList (xs:=(mkv k.agg cs).cells),this]
theorem Zjb {T T':TypeId}{k:Kd α}{x:α}{g off:Nat}{cur cs:List Value}(hg:w.heap[g]? =some (.cells cur.toArray T' (0,0)))(ht:Ty P T k)(hc:k.C w H x cs)(hfit:off+k.sz≤cur.length):
  (storeVar T ⟨g,off,none⟩ (mkv k.agg cs)).run P w= .ok () (w.setRow g (lay cur off cs).toArray):=by
 obtain ⟨i,d,hi,hu,ha,hs⟩:=ht.out
 have hl:=k.len hc
 have h1:=run_storeCells_at P g off T' cs 0 cur.toArray w hg (by simp;omega) (k.one hc)
 simp only [Nat.add_zero,List.toList_toArray] at h1
 have e:(List.take off cur++cs++List.drop (off+cs.length) cur)=lay cur off cs:=by simp [lay]
 rw [e] at h1
 have h2:=Zg5 hc
 simp [storeVar,sizeOf,typeInfo,hi,h2,hs,hl,h1]
end mem
section opers
variable {C : Ctx} {S S' : St} {o : Oper} {α β γ : Type}
theorem Z5x {α β:Type}{k:Kd α}{kf:Kd β}{g:Nat}{L:Lens k kf}{w:World}{H M:HS}{v:Value}(h:(Za g L).R w H M v):v= .pointer (some ⟨g,L.off,none⟩):=h
theorem Z08 {T T':TypeId}{k:Kd α}{kf:Kd β}{L:Lens k kf}{g i:Nat}{x:α}{p:Operand}(ho:o.op= .load T p)(hd:Zq o C.N=true)(ht:Ty C.P T kf)(hp:Val C S p (Za g L))(hr:S.r i=Zd g T' k x):
  OpE C o S (S.put o.dst (rd kf (L.get x))):=
 OpE.plain (by simp [ho]) hd fun O a w hh=>by
  have h1:=Z5x (hp.of hh)
  have h2:=hh.res i
  rw [hr] at h2
  obtain ⟨hm,cs,hg,hc⟩:=h2
  have h3:=L.okget hc
  have hat:At w g L.off ((cs.drop L.off).take kf.sz):=At.row hg (by rw [kf.len h3])
  exact ⟨_,by simp [execOp,ho,h1,Instr.loadAt,Instr.sureAddr,Zc0 ht h3 hat],_,h3,rfl⟩
theorem Z4i {T:TypeId}{k:Kd α}{x:α}{p:Operand}(ho:o.op= .load T p)(hd:Zq o C.N=true)(ht:Ty C.P T k)(hp:Val C S p (rp k x)):OpE C o S (S.put o.dst (rd k x)):=
 OpE.plain (by simp [ho]) hd fun O a w hh=>by
  obtain ⟨b,off,cs,h1,hb,hn,hc,hat⟩:=hp.of hh
  exact ⟨_,by simp [execOp,ho,h1,Instr.loadAt,Instr.sureAddr,Zc0 ht hc hat],_,hc,rfl⟩
theorem Zx5 {k:Kd α}{kf:Kd β}{L:Lens k kf}{w:World}{H:HS}{x:α}{cs:List Value}(hc:k.C w H x cs):L.off+kf.sz≤cs.length:=by rw [k.len hc];exact L.fits
theorem Y42 {O:Nat→Nat}{a:Act}{w:World}(hh:HoldO C S O a w){g:Nat}(hg:O g≠0)(cs:Array Value):Goes C (fun q=>q=O g) O w O (w.setRow g cs) where
 os:=rfl
 tape:=rfl
 output:=rfl
 size:=by simp
 same:=fun b hb hq=>⟨rfl,setRow_other w g b cs (fun e=>hq (by rw [e]))⟩
 own:=fun b h=> .inl h
 lt:=fun b h=>by have:=(hh.own b h).2;simpa using this
 zero:=fun h=>hg h.symm
theorem Z3s {T T':TypeId}{k:Kd α}{kf:Kd β}{L:Lens k kf}{g i:Nat}{x:α}{y:β}{p q:Operand}(ho:o.op= .store T p q)(hd:o.dst=none)(ht:Ty C.P T kf)(hp:Val C S p (Za g L))(hr:S.r i=Zd g T' k x)(hq:Val C S q (rd kf y)):
  OpE C o S (S.setr i (Zd g T' k (L.set x y))):=
 OpE.skip (by simp [ho]) fun O a w hh=>by
  have h1:=Z5x (hp.of hh)
  obtain ⟨c,h4,h5⟩:=hq.of hh
  have h2:=hh.res i
  rw [hr] at h2
  obtain ⟨hm,cs,hg,hc⟩:=h2
  have hrun:=Zjb hg ht h4 (Zx5 (L:=L) hc)
  refine ⟨w.setRow g (lay cs L.off c).toArray,by simp [execOp,ho,h1,h5,Instr.storeAt,Instr.sureAddr,hrun],O,?_⟩
  rw [hd]
  have hOg:O g=Ro i:=hm
  have go:=Y42 hh (g:=g) (by rw [hOg];exact Z0m i) (lay cs L.off c).toArray
  have hx:Ext w (hid C O) Zl (w.setRow g (lay cs L.off c).toArray) (hid C O) Zl:=⟨by simp,fun b hb hn=>⟨hn,setRow_other w g b _ (fun e=>hn (.inr (by rw [e,hOg];exact Z0m i)))⟩,fun _ _ h=>h.elim⟩
  refine hh.goes go rfl rfl rfl (fun t=> .inl ⟨rfl,?_,rfl⟩) (fun j=>?_)
  ·rw [hOg];exact Z1g t i
  ·by_cases e:j=i
   ·subst e
    right
    simp only [St.setr,Z02]
    exact ⟨hm,_,setRow_heap w g _ _ _ _ hg,k.mono hx (L.okset hc h4)⟩
   ·left
    refine ⟨by simp only [St.setr];exact Z00 _ _ e,?_⟩
    rw [hOg];exact fun h=>e (Z26 h)
theorem Zpv {P:Program}{w:World}{T:TypeId}{i:Nat}{k:Kd α}{kf:Kd β}{L:Lens k kf}(h:Fl P T i L)(g off:Nat):(Instr.fieldAt T (.pointer (some ⟨g,off,none⟩)) i).run P w= .ok (.pointer (some ⟨g,off+L.off,none⟩)) w:=by
 obtain ⟨fs,f,ti,hu,hf,hoff,hi,hs,h0⟩:=h.out
 simp [Instr.fieldAt,run_underlying hu,hf,Instr.sureAddr,fieldPlace,sizeOf,typeInfo,hi,hs,h0,hoff,Z38]
theorem Z0i {T:TypeId}{n:Nat}{k:Kd α}{kf:Kd β}{kg:Kd γ}{L:Lens k kf}(M:Lens kf kg){g:Nat}{p:Operand}(ho:o.op= .fieldAddr T p n)(hd:Zq o C.N=true)(hf:Fl C.P T n M)(hp:Val C S p (Za g L)):
  OpE C o S (S.put o.dst (Za g (L.comp M))):=
 OpE.plain (by simp [ho]) hd fun O a w hh=>by
  have h1:=Z5x (hp.of hh)
  exact ⟨.pointer (some ⟨g,L.off+M.off,none⟩),by simp [execOp,ho,h1,Zpv hf],rfl⟩
theorem Z4n {T:TypeId}{n:Nat}{kf:Kd β}{kg:Kd γ}(M:Lens kf kg){x:β}{p:Operand}(ho:o.op= .fieldAddr T p n)(hd:Zq o C.N=true)(hf:Fl C.P T n M)(hp:Val C S p (rp kf x)):
  OpE C o S (S.put o.dst (rp kg (M.get x))):=
 OpE.plain (by simp [ho]) hd fun O a w hh=>by
  obtain ⟨b,off,cs,h1,hb,hn,hc,hat⟩:=hp.of hh
  exact ⟨.pointer (some ⟨b,off+M.off,none⟩),by simp [execOp,ho,h1,Zpv hf],_,_,_,rfl,hb,hn,M.okget hc,hat.sub _ _⟩
theorem Yi5 {T E:TypeId}{n:Nat}{k:Kd α}{kf:Kd β}{L:Lens k (Z4 n kf)}{g:Nat}{i:Int}{p q:Operand}{ik:IntKind}(ho:o.op= .indexAddr T p q)(hd:Zq o C.N=true)(ht:Ar C.P T E n kf)(hp:Val C S p (Za g L))(hq:Val C S q (rd (Z0 ik) i))(h0:0≤i)(hi:i.toNat<n):
  OpE C o S (S.put o.dst (Za g (L.comp (Lens.idx n kf i.toNat hi)))):=
 OpE.plain (by simp [ho]) hd fun O a w hh=>by
  have h1:=Z5x (hp.of hh)
  have h2:=(Z0q (hq.of hh)).1
  obtain ⟨hu,ti,hti,hs⟩:=ht.out
  have h3:(0:Int)≤i∧i<n:=⟨h0,by omega⟩
  exact ⟨.pointer (some ⟨g,L.off+i.toNat*kf.sz,none⟩),by simp [execOp,ho,h1,h2,Instr.indexAt,asIntOf,run_underlying hu,Instr.sureAddr,h3,sizeOf,typeInfo,hti,hs,Z38],rfl⟩
theorem Yet {T E:TypeId}{n:Nat}{kf:Kd β}{x:Vector β n}{i:Int}{p q:Operand}{ik:IntKind}(ho:o.op= .indexAddr T p q)(hd:Zq o C.N=true)(ht:Ar C.P T E n kf)(hp:Val C S p (rp (Z4 n kf) x))(hq:Val C S q (rd (Z0 ik) i))(h0:0≤i)(hi:i.toNat<n):
  OpE C o S (S.put o.dst (rp kf x[i.toNat])):=
 OpE.plain (by simp [ho]) hd fun O a w hh=>by
  obtain ⟨b,off,cs,h1,hb,hn,hc,hat⟩:=hp.of hh
  have h2:=(Z0q (hq.of hh)).1
  obtain ⟨hu,ti,hti,hs⟩:=ht.out
  have h3:(0:Int)≤i∧i<n:=⟨h0,by omega⟩
  exact ⟨.pointer (some ⟨b,off+i.toNat*kf.sz,none⟩),by simp [execOp,ho,h1,h2,Instr.indexAt,asIntOf,run_underlying hu,Instr.sureAddr,h3,sizeOf,typeInfo,hti,hs,Z38],_,_,_,rfl,hb,hn,(Lens.idx n kf i.toNat hi).okget hc,hat.sub _ _⟩
theorem Ymk {T E:TypeId}{k:Kd α}{l:List α}{i:Int}{p q:Operand}{ik:IntKind}(ho:o.op= .indexAddr T p q)(hd:Zq o C.N=true)(ht:Sl C.P T E k)(hp:Val C S p (rd (Z1 k) l))(hq:Val C S q (rd (Z0 ik) i))(h0:0≤i)(hi:i.toNat<l.length):
  OpE C o S (S.put o.dst (rp k l[i.toNat])):=
 OpE.plain (by simp [ho]) hd fun O a w hh=>by
  obtain ⟨A,c,h1,hlc,hc63,hcells⟩:=Z58 (hp.of hh)
  obtain ⟨b,off,cl,rfl,hb,hn,hc,hat⟩:=hcells (by omega)
  have h2:=(Z0q (hq.of hh)).1
  obtain ⟨hu,ti,hti,hs⟩:=ht.out
  have h3:(0:Int)≤i∧i<l.length:=⟨h0,by omega⟩
  exact ⟨.pointer (some ⟨b,off+i.toNat*k.sz,none⟩),by simp [execOp,ho,h1,h2,Instr.indexAt,asIntOf,run_underlying hu,Instr.sureAddr,h3,sizeOf,typeInfo,hti,hs,Z38],_,_,_,rfl,hb,hn,hc.get _ hi,hat.at_.sub _ _⟩
theorem Zv8 {α β:Type}{k:Kd α}{kf:Kd β}{L:Lens k kf}{g:Nat}{p:Operand}(ho:o.op= .nilCheck p)(hd:Zq o C.N=true)(hp:Val C S p (Za g L)):OpE C o S (S.put o.dst (Za g L)):=
 OpE.plain (by simp [ho]) hd fun O a w hh=>by
  have h1:=Z5x (hp.of hh)
  exact ⟨_,by simp [execOp,ho,h1],rfl⟩
theorem Ziv {O:Nat→Nat}{a:Act}{w:World}(hh:HoldO C S O a w)(q:Nat)(hq:q≠0)(ob:Obj):Goes C (fun t=>t=q) O w (fun b=>if b=w.heap.size then q else O b) (w.alloc ob) where
 os:=rfl
 tape:=rfl
 output:=rfl
 size:=by simp
 same:=fun b hb _=>⟨by rw [if_neg (by omega)],heap_alloc_old w ob b hb⟩
 own:=fun b h=>by
  by_cases e:b=w.heap.size
  ·right;omega
  ·rw [if_neg e] at h;exact .inl h
 lt:=fun b h=>by
  by_cases e:b=w.heap.size
  ·simp [e]
  ·rw [if_neg e] at h;have:=(hh.own b h).2;simp;omega
 zero:=fun h=>hq h.symm
theorem Y0o {O:Nat→Nat}{a:Act}{w:World}{T:TypeId}{k:Kd α}{x:α}{cs:List Value}(i:Nat)(hh:HoldO C S O a w)(hd:Zq o C.N=true)(hc:k.C w (hid C O) x cs):
  Hold C ((S.put o.dst (Za w.heap.size (Lens.id k))).setr i (Zd w.heap.size T k x)) (a.put o.dst (.pointer (some ⟨w.heap.size,0,none⟩))) (w.alloc (.cells cs.toArray T)):=by
 have go:=Ziv hh (Ro i) (Z0m i) (.cells cs.toArray T)
 refine ⟨_,hh.goes go (Z6i ..) (by cases o.dst<;>rfl) (Z6e ..) (fun t=>?_) (fun j=>?_)⟩
 ·cases hdst:o.dst with
  | none=>exact .inl ⟨rfl,Z1g t i,rfl⟩
  | some d=>
   by_cases e:t=d
   ·subst e
    right
    have hlt:t<a.tmps.size:=hh.n▸Z2r hd t hdst
    rw [Z6c hlt]
    simp only [St.put,St.set,St.setr,Z02]
    rfl
   ·exact .inl ⟨by simp only [St.put,St.set,St.setr];exact Z00 _ _ e,Z1g t i,Z6f e _⟩
 ·by_cases e:j=i
  ·subst e
   right
   simp only [St.setr,Z02]
   refine ⟨if_pos rfl,cs,heap_alloc_new w _,k.mono ⟨by simp,fun b hb hn=>⟨?_,heap_alloc_old w _ b hb⟩,fun _ _ h=>h.elim⟩ hc⟩
   rintro (h | h)
   ·exact hn (.inl h)
   ·rw [if_neg (by omega)] at h;exact hn (.inr h)
  ·exact .inl ⟨by simp only [St.setr];rw [Z00 _ _ e];cases o.dst<;>rfl,fun h=>e (Z26 h)⟩
theorem OpT.value {K:St→Prop}(hno:∀c,o.op≠ .defer c)(h:∀O a w,HoldO C S O a w→∃v w' S',(execOp a.eval o).run C.P w= .ok (.value v) w'∧K S'∧Hold C S' (a.put o.dst v) w'):OpT C o S K:=by
 rintro a w ⟨O,hh⟩
 obtain ⟨v,w',S',h1,h2,h3⟩:=h O a w hh
 refine ⟨fun _ _=>trivial,?_⟩
 rw [Oper.semAt_eq _ _ _ hno,h1]
 exact ⟨S',h2,h3⟩
theorem Zm {T:TypeId}{k:Kd α}{x:α}{p:Operand}(i:Nat)(ho:o.op= .box T p)(hd:Zq o C.N=true)(hp:Val C S p (rd k x)):
  OpT C o S (fun S'=> ∃g,S'=(S.put o.dst (Za g (Lens.id k))).setr i (Zd g T k x)):=
 OpT.value (by simp [ho]) fun O a w hh=>by
  obtain ⟨cs,hc,hv⟩:=hp.of hh
  refine ⟨.pointer (some ⟨w.heap.size,0,none⟩),w.alloc (.cells cs.toArray T),_,?_,⟨w.heap.size,rfl⟩,Y0o i hh hd hc⟩
  simp [execOp,ho,hv,Instr.box,newVar,newRow,Zg5 hc]
theorem Zo {T:TypeId}{k:Kd α}{z:α}(i:Nat)(ho:o.op= .alloc T)(hd:Zq o C.N=true)(hz:Zr C.P T k z):
  OpT C o S (fun S'=> ∃g,S'=(S.put o.dst (Za g (Lens.id k))).setr i (Zd g T k z)):=
 OpT.value (by simp [ho]) fun O a w hh=>by
  obtain ⟨ti,zv,hi,hzv,hc⟩:=hz.out
  have hc':=hc w (hid C O)
  refine ⟨.pointer (some ⟨w.heap.size,0,none⟩),w.alloc (.cells zv.cells.toList.toArray T),_,?_,⟨w.heap.size,rfl⟩,Y0o i hh hd hc'⟩
  simp [execOp,ho,Instr.alloc,zeroValue,typeInfo,hi,hzv,newVar,newRow]
theorem Z10 {A B:Zb}{p:Operand}(ho:o.op= .extract p 0)(hd:Zq o C.N=true)(hp:Val C S p (Z0t A B)):OpE C o S (S.put o.dst A):=
 OpE.plain (by simp [ho]) hd fun O a w hh=>by
  obtain ⟨x,y,h1,hx,hy⟩:=hp.of hh
  exact ⟨x,by simp [execOp,ho,h1,Instr.extract],hx⟩
theorem Z0z {A B:Zb}{p:Operand}(ho:o.op= .extract p 1)(hd:Zq o C.N=true)(hp:Val C S p (Z0t A B)):OpE C o S (S.put o.dst B):=
 OpE.plain (by simp [ho]) hd fun O a w hh=>by
  obtain ⟨x,y,h1,hx,hy⟩:=hp.of hh
  exact ⟨y,by simp [execOp,ho,h1,Instr.extract],hy⟩
theorem Y4s {T:TypeId}{E:TypeId}{k:Kd α}{l:List α}{p:Operand}{ts:Array TypeId}(ho:o.op= .call {callee:= .builtin .len,args:= #[p],argTypes:= #[T]})(hd:Zq o C.N=true)(ht:Sl C.P T E k)(hp:Val C S p (rd (Z1 k) l)):
  OpE C o S (S.put o.dst (rd (Z0 .i64) (l.length:Int))):=
 OpE.plain (by simp [ho]) hd fun O a w hh=>by
  obtain ⟨A,c,h1,hlc,hc63,hcells⟩:=Z58 (hp.of hh)
  refine ⟨.int .i64 l.length,?_,Z35 ⟨by simp [IntKind.min,IntKind.signed,IntKind.bits];try omega,by simp [IntKind.max,IntKind.signed,IntKind.bits];omega⟩⟩
  simp [execOp,ho,resolve,invoke,builtin,Builtin.len_,h1,run_underlying ht.u,goInt]
end opers
end Go.Wb
namespace Go.Wb
open Go
structure Fin (w:World) (X:HS) (w':World) (X':HS):Prop where
 os:w'.os=w.os
 tape:Zcc w'=Zcc w
 output:w'.output=w.output
 size:w.heap.size≤w'.heap.size
 same:∀b,b<w.heap.size→¬X b→w'.heap[b]? =w.heap[b]?
 own:∀b,X' b→(X b∨w.heap.size≤b)∧b<w'.heap.size
def Args (w:World)(H:HS):List Zb→List Value→Prop
 | [],[]=>True
 | A::As,v::vs=>A.R w H Zl v∧Args w H As vs
 | _,_=>False
def join (H X:HS):HS:=fun b=>H b∨X b
def Con (P:Program)(f:FuncId)(As:List Zb)(R:Res){ζ:Type}(B:ζ→Zb)(R':ζ→Res):Prop:=
 ∀w H X vs,Amb P w H→(∀b,H b→b<w.heap.size)→(∀b,X b→H b∧b<w.heap.size)→Args w H As vs→R.R w H X→Calls P f vs.toArray w (fun e w'=> ∃v z X',e= .returned v∧Fin w X w' X'∧(B z).R w' (join H X') Zl v∧(R' z).R w' (join H X') X')
def PCon (P:Program)(f:FuncId)(As:List Zb)(B:Zb):Prop:=
 ∀w H vs,Amb P w H→(∀b,H b→b<w.heap.size)→Args w H As vs→Calls P f vs.toArray w (fun e w'=> ∃v,e= .returned v∧Fin w Zl w' Zl∧B.R w' H Zl v)
theorem Z8y {ro:Option Nat}{n:Nat}{P:Program}{f:FuncId}{args:Array Value}{w:World}{R:Ending→World→Prop}(h:Calls P f args w R):CallsIn {Fence.wide with round:=ro} n P f args w R:=
 ⟨trivial,fun cs _=>let ⟨e,w',fr,r,s,x⟩:=h cs;⟨e,w',fr,r,comesIn_wide.2 s,x⟩⟩
def Vals (C:Ctx)(S:St):List Operand→List Zb→Prop
 | [],[]=>True
 | x::xs,A::As=>Val C S x A∧Vals C S xs As
 | _,_=>False
theorem Vals.args {C:Ctx}{S:St}{O:Nat→Nat}{a:Act}{w:World}(hh:HoldO C S O a w):∀{xs:List Operand} {As:List Zb},Vals C S xs As→Args w (hid C O) As (xs.map a.eval)
 | [],[],_=>trivial
 | _::_,_::_,⟨h1,h2⟩=>⟨h1.of hh,Vals.args hh h2⟩
 | [],_::_,h=>h.elim
 | _::_,[],h=>h.elim
def Ent (P:Program)(f:FuncId):Prop:= ∀args w,(callFunc f args).run P w= .ok (.enter f args) w
theorem Ent.mk {P:Program}{f:FuncId}{fn:Func}(hf:P.funcs[f]? =some fn)(hb:fn.body.isSome=true)(hn:(fn.name=="runtime.NumGoroutine")=false):Ent P f:=fun args w=>by
 have hnone:fn.body.isNone=false:=by cases h:fn.body<;>simp_all
 unfold callFunc
 simp only [Sem.run_bind,run_program,Result.andThen_ok,hf,hn,hnone,Bool.false_eq_true,if_false,Sem.run_pure]
section calls
variable {C : Ctx} {S S' : St} {o : Oper}
theorem HoldO.amb {O:Nat→Nat}{a:Act}{w:World}(hh:HoldO C S O a w):Amb C.P w (hid C O):=
 C.amb.1.mono ⟨hh.size,fun b hb hn=>⟨fun h=>h.elim hn fun h=>by
  rcases (hh.own b h).1 with h1 | h1
  ·omega
  ·exact hn (C.amb.2 b h1),hh.old b hb fun h=>hn (C.amb.2 b h)⟩,fun _ _ h=>h.elim⟩
theorem HoldO.hid_lt {O:Nat→Nat}{a:Act}{w:World}(hh:HoldO C S O a w):∀b,hid C O b→b<w.heap.size:=fun b h=>h.elim (fun h=>Nat.lt_of_lt_of_le (hh.h0 b h) hh.size) (fun h=>(hh.own b h).2)
theorem Args.mono {w w':World}{H H':HS}(e:Ext w H Zl w' H' Zl):∀{As:List Zb} {vs:List Value},Args w H As vs→Args w' H' As vs
 | [],[],_=>trivial
 | A::_,_::_,⟨h1,h2⟩=>⟨A.mono e h1,Args.mono e h2⟩
 | [],_::_,h=>h.elim
 | _::_,[],h=>h.elim
theorem Zz {f:FuncId}{xs:List Operand}{ts:Array TypeId}{As:List Zb}{B:Zb}(hc:PCon C.P f As B)(he:Ent C.P f)(ho:o.op= .call {callee:= .value (.func f),args:=xs.toArray,argTypes:=ts})(hd:Zq o C.N=true)(hv:Vals C S xs As):
  OpE C o S (S.put o.dst B):=by
 rintro a w ⟨O,hh⟩
 refine ⟨fun _ _=>trivial,?_⟩
 have hrun:(execOp a.eval o).run C.P w= .ok (.enter f (xs.map a.eval).toArray) w:=by
  simp only [execOp,ho,resolve,Act.eval,Deferred.ofValue,Sem.run_bind,Sem.run_pure,Result.andThen_ok,invoke]
  simpa using he _ w
 rw [Oper.semAt_eq _ _ _ (by simp [ho]),hrun]
 refine ⟨fun h=>by simp [Ctx.fen,Fence.wide] at h,Z8y ?_⟩
 refine (hc w (hid C O) _ hh.amb hh.hid_lt (hv.args hh)).mono ?_
 rintro e w' ⟨v,rfl,hf,hB⟩
 refine ⟨_,rfl,O,hh.yield ⟨hf.os,hf.tape,hf.output,hf.size,fun b hb _=>⟨rfl,hf.same b hb (fun h=>h)⟩,fun b h=> .inl h,fun b h=>Nat.lt_of_lt_of_le (hh.own b h).2 hf.size,fun h=>h⟩ (Z2r hd) hB⟩
theorem Z0y {f:FuncId}{xs:List Operand}{ts:Array TypeId}{As:List Zb}{R:Res}{ζ:Type}{B:ζ→Zb}{R':ζ→Res}(i:Nat)(hc:Con C.P f As R B R')(he:Ent C.P f)(ho:o.op= .call {callee:= .value (.func f),args:=xs.toArray,argTypes:=ts})(hd:Zq o C.N=true)(hv:Vals C S xs As)
  (hr:S.r i=R):OpT C o S (fun S'=> ∃z,S'=(S.put o.dst (B z)).setr i (R' z)):=by
 rintro a w ⟨O,hh⟩
 refine ⟨fun _ _=>trivial,?_⟩
 have hrun:(execOp a.eval o).run C.P w= .ok (.enter f (xs.map a.eval).toArray) w:=by
  simp only [execOp,ho,resolve,Act.eval,Deferred.ofValue,Sem.run_bind,Sem.run_pure,Result.andThen_ok,invoke]
  simpa using he _ w
 rw [Oper.semAt_eq _ _ _ (by simp [ho]),hrun]
 refine ⟨fun h=>by simp [Ctx.fen,Fence.wide] at h,Z8y ?_⟩
 have hres:=hh.res i
 rw [hr] at hres
 refine (hc w (hid C O) (fun b=>O b=Ro i) _ hh.amb hh.hid_lt (fun b hb=>⟨.inr (by rw [hb];exact Z0m i),(hh.own b (by rw [hb];exact Z0m i)).2⟩) (hv.args hh) hres).mono ?_
 rintro e w' ⟨v,z,X',rfl,hf,hB,hR⟩
 classical
 let O':Nat→Nat:=fun b=>if X' b then Ro i else O b
 have hO:∀b,X' b→O' b=Ro i:=fun b h=>if_pos h
 have hO2:∀b,¬X' b→O' b=O b:=fun b h=>if_neg h
 have hj:Ext w' (join (hid C O) X') Zl w' (hid C O') Zl:=by
  refine ⟨Nat.le_refl _,fun b _ hn=>⟨?_,rfl⟩,fun _ _ h=>h.elim⟩
  rintro (h | h)
  ·exact hn (.inl (.inl h))
  ·by_cases hx:X' b
   ·exact hn (.inr hx)
   ·rw [hO2 b hx] at h;exact hn (.inl (.inr h))
 have go:Goes C (fun q=>q=Ro i) O w O' w':=by
  refine ⟨hf.os,hf.tape,hf.output,hf.size,fun b hb hq=>?_,fun b h=>?_,fun b h=>?_,fun h=>Z0m i h.symm⟩
  ·have hnx:¬X' b:=fun hx=>by
    rcases (hf.own b hx).1 with h1 | h1
    ·exact hq h1
    ·omega
   exact ⟨hO2 b hnx,hf.same b hb hq⟩
  ·by_cases hx:X' b
   ·rcases (hf.own b hx).1 with h1 | h1
    ·left;rw [h1];exact Z0m i
    ·exact .inr h1
   ·rw [hO2 b hx] at h;exact .inl h
  ·by_cases hx:X' b
   ·exact (hf.own b hx).2
   ·rw [hO2 b hx] at h;exact Nat.lt_of_lt_of_le (hh.own b h).2 hf.size
 refine ⟨_,⟨z,rfl⟩,O',hh.goes go (Z6i ..) (by cases o.dst<;>rfl) (Z6e ..) (fun t=>?_) (fun j=>?_)⟩
 ·cases hdst:o.dst with
  | none=>exact .inl ⟨rfl,Z1g t i,rfl⟩
  | some d=>
   by_cases e:t=d
   ·subst e
    right
    have hlt:t<a.tmps.size:=hh.n▸Z2r hd t hdst
    rw [Z6c hlt]
    simp only [St.put,St.set,St.setr,Z02]
    exact (B z).mono Ext.any ((B z).mono hj hB)
   ·exact .inl ⟨by simp only [St.put,St.set,St.setr];exact Z00 _ _ e,Z1g t i,Z6f e _⟩
 ·by_cases e:j=i
  ·subst e
   right
   simp only [St.setr,Z02]
   exact (R' z).mono ⟨hj.size,hj.vis,fun b _ hx=>⟨hO b hx,rfl⟩⟩ hR
  ·exact .inl ⟨by simp only [St.setr];rw [Z00 _ _ e];cases o.dst<;>rfl,fun h=>e (Z26 h)⟩
theorem PCon.of_row {α:Type}{P:Program}{f:FuncId}{As:List Zb}{E:TypeId}{k:Kd α}[hsh:Sh k E]{l:List α}(h:Con P f As emp (fun v:Value=>Zg v) (fun v=>Zi v E k l)):PCon P f As (rd (Z1 k) l):=by
 intro w H vs hZ hH hA
 refine (h w H Zl vs hZ hH (fun _ h=>h.elim) hA trivial).mono ?_
 rintro e w' ⟨v,z,X',rfl,hf,hB,cl,ho,hc,hm⟩
 have hv:v=z:=hB
 subst hv
 refine ⟨v,rfl,⟨hf.os,hf.tape,hf.output,hf.size,hf.same,fun b h=>h.elim⟩,Z4y ?_⟩
 rcases ho.2 with ⟨rfl,h0⟩ | ⟨g,cap,cur,rfl,hb,hg,hn,hcm,hcs,htk⟩
 ·have hl0:l=[]:=List.eq_nil_of_length_eq_zero h0
  subst hl0
  exact ⟨none,0,rfl,by simp,by simp,fun h=>absurd h (by simp)⟩
 ·refine ⟨some ⟨g,0,none⟩,cap,rfl,hn,by simpa [maxLen] using hcm,fun _=>⟨g,0,cl,rfl,(Array.getElem?_eq_some_iff.1 hg).1,?_,hc.mono ⟨Nat.le_refl _,fun b _ hj=>⟨fun hh=>hj (.inl hh),rfl⟩,fun _ _ h=>h.elim⟩,?_⟩⟩
  ·intro hH'
   have hx:=hm g rfl
   rcases (hf.own g hx).1 with h1 | h1
   ·exact h1.elim
   ·have:=hH g hH';omega
  ·have:=ho.cells (g:=g) rfl
   refine ⟨fun j u hu=>?_,cur,E,_,hg,hsh.out⟩
   have:=this j u hu
   rwa [Z38] at this
def St.init (As:List Zb)(R:Res):St:=⟨fun t=>(As[t]?).getD top,fun i=>match i with | 0=>R | _=>emp,[]⟩
def RetOK (C:Ctx)(fn:Func)(S:St){ζ:Type}(B:ζ→Zb)(R':ζ→Res):Prop:=
 S.d=[]∧∀O a w,HoldO C S O a w→∃v z,∃X':HS,(results fn a.tmps).run C.P w= .ok v w∧(∀b,X' b→O b≠0)∧(B z).R w (join C.H0 X') Zl v∧(R' z).R w (join C.H0 X') X'
def Z2w (ds:List Nat):Res:=⟨fun w _ M=>ds.Nodup∧∀D∈ds,M D∧w.heap[D]? =some (.deferred (some [])),fun h ⟨h0,h1⟩=>⟨h0,fun D hD=>let ⟨a,b⟩:=h.own D (Array.getElem?_eq_some_iff.1 (h1 D hD).2).1 (h1 D hD).1;⟨a,b.trans (h1 D hD).2⟩⟩⟩
abbrev Dfr (D:Nat):Res:=Z2w [D]
theorem Dfr.mk {D:Nat}{w:World}{H M:HS}(h1:M D)(h2:w.heap[D]? =some (.deferred (some []))):(Dfr D).R w H M:=⟨by simp,fun E hE=>by rw [List.mem_singleton.1 hE];exact ⟨h1,h2⟩⟩
def Zbs (C:Ctx)(fn:Func){ζ:Type}(B:ζ→Zb)(R':ζ→Res):List Nat→St→Prop
 | [],S=>RetOK C fn S B R'
 | D::ds,S=>S.d=D::ds∧∃i E,S.r i=Z2w (D::E)∧Zbs C fn B R' ds ⟨S.s,upd S.r i (Z2w E),ds⟩
def Zhy (C:Ctx)(fn:Func){ζ:Type}(B:ζ→Zb)(R':ζ→Res):Exit→St→Prop
 | .normal,S=>Zbs C fn B R' S.d S
 | .ret,S=>Zbs C fn B R' S.d S
 | _,_=>False
theorem Hold.take {a:Act}{w:World}{D:Nat}{ds E:List Nat}{i:Nat}(hd:S.d=D::ds)(hr:S.r i=Z2w (D::E))(hh:Hold C S a w):
  (Instr.takeDeferred D).run C.P w= .ok [] (w.putObj D (.deferred none))∧Hold C ⟨S.s,upd S.r i (Z2w E),ds⟩ {a with defers:=marks ds} (w.putObj D (.deferred none)):=by
 obtain ⟨O,hh⟩:=hh
 have h1:=hh.res i
 rw [hr] at h1
 obtain ⟨hnd,hall⟩:=h1
 obtain ⟨hm,hD⟩:=hall D (by simp)
 have hOD:O D=Ro i:=hm
 refine ⟨run_takeDeferred hD,O,?_⟩
 have go:Goes C (fun q=>q=Ro i) O w O (w.putObj D (.deferred none)):=
  ⟨rfl,rfl,rfl,by simp,fun b hb hq=>⟨rfl,World.putObj_heap_other (fun e=>hq (e▸hOD))⟩,fun b h=> .inl h,fun b h=>by have:=(hh.own b h).2;simpa using this,fun h=>Z0m i h.symm⟩
 have h2:=hh.goes (S':=⟨S.s,upd S.r i (Z2w E),S.d⟩) (a':=a) go rfl rfl rfl (fun t=> .inl ⟨rfl,Z1g t i,rfl⟩) (fun j=>by
  by_cases e:j=i
  ·subst e;right
   show (upd S.r j (Z2w E) j).R _ _ _
   rw [Z02]
   refine ⟨(List.nodup_cons.1 hnd).2,fun D' h'=>⟨(hall D' (by simp [h'])).1,(World.putObj_heap_other ?_).trans (hall D' (by simp [h'])).2⟩⟩
   intro e
   subst e
   exact (List.nodup_cons.1 hnd).1 h'
  ·exact .inl ⟨Z00 _ _ e,fun h=>e (Z26 h)⟩)
 exact {h2 with dfr:=rfl,n:=h2.n,slot:=h2.slot,res:=h2.res}
end calls
theorem Y0y {P:Program}{f:FuncId}{fn:Func}{c:Code}{N:Nat}{As:List Zb}{R:Res}{ζ:Type}{B:ζ→Zb}{R':ζ→Res}(hf:P.funcs[f]? =some fn)(hb:fn.body=some c)(hN:fn.ntmps=N)(hA:Nat.ble As.length N=true)
  {w:World}{H X:HS}{vs:List Value}(hZ:Amb P w H)(hH:∀b,H b→b<w.heap.size)(hX:∀b,X b→H b∧b<w.heap.size)(hargs:Args w H As vs)(hR:R.R w H X)(h:AW ⟨P,none,N,w,H,X,⟨hZ,fun b hb=>(hX b hb).1⟩⟩ c (Zhy ⟨P,none,N,w,H,X,⟨hZ,fun b hb=>(hX b hb).1⟩⟩ fn B R') (St.init As R)):
  Calls P f vs.toArray w (fun e w'=> ∃v z X',e= .returned v∧Fin w X w' X'∧(B z).R w' (join H X') Zl v∧(R' z).R w' (join H X') X'):=by
 classical
 have hlen:∀{As:List Zb} {vs:List Value},Args w H As vs→vs.length=As.length:=by
  intro As
  induction As with
  | nil=>intro vs h;cases vs with | nil=>rfl | cons=>exact h.elim
  | cons A As ih=>intro vs h;cases vs with | nil=>exact h.elim | cons v vs=>simp [ih h.2]
 refine callsIn_wide.1 (callsIn_of_wp_marks (F:=Fence.wide) (n:=0) hf hb trivial ?_)
 let O:Nat→Nat:=fun b=>if X b then Ro 0 else 0
 have hext:Ext w H Zl w (fun b=>H b∨O b≠0) Zl:=by
  refine ⟨Nat.le_refl _,fun b _ hn=>⟨?_,rfl⟩,fun _ _ h=>h.elim⟩
  rintro (h | h)
  ·exact hn h
  ·by_cases hx:X b
   ·exact hn (hX b hx).1
   ·exact h (if_neg hx)
 have hold:HoldO ⟨P,none,N,w,H,X,⟨hZ,fun b hb=>(hX b hb).1⟩⟩ (St.init As R) O {tmps:=vs.toArray++Array.replicate (fn.ntmps - vs.toArray.size) undef,defers:=[]} w:=by
  refine ⟨hH,rfl,rfl,rfl,Nat.le_refl _,fun _ _ _=>rfl,fun b hb=>?_,rfl,?_,fun t=>?_,fun i=>?_⟩
  ·by_cases hx:X b
   ·exact ⟨.inr hx,(hX b hx).2⟩
   ·exact absurd (if_neg hx) hb
  ·have:=hlen hargs
   have:=Nat.le_of_ble_eq_true hA
   simp;omega
  ·have key:∀(As:List Zb) (vs:List Value) (t:Nat) (v:Value),Args w H As vs→As[t]? ≠none→((As[t]?).getD top).R w H Zl (vs.getD t v):=by
    intro As
    induction As with
    | nil=>intro vs t v h hne;simp at hne
    | cons A As ih=>
     intro vs t v h hne
     cases vs with
     | nil=>exact h.elim
     | cons u vs=>
      cases t with
      | zero=>exact h.1
      | succ t=>simpa using ih vs t v h.2 (by simpa using hne)
   show ((As[t]?).getD top).R w _ _ _
   cases hq:As[t]? with
   | none=>trivial
   | some A=>
    have hlt:t<As.length:=(List.getElem?_eq_some_iff.1 hq).1
    have h1:=key As vs t undef hargs (by simp [hq])
    rw [hq] at h1
    have e:(vs.toArray++Array.replicate (fn.ntmps - vs.toArray.size) undef).getD t undef=vs.getD t undef:=by
     have hl:=hlen hargs
     have hlt':t<vs.length:=by omega
     simp [Array.getD_eq_getD_getElem?,Array.getElem?_append,hlt',List.getD_eq_getElem?_getD]
    rw [e]
    exact A.mono Ext.any (A.mono hext h1)
  ·show (match i with | 0=>R | _=>emp:Res).R _ _ _
   cases i with
   | zero=>exact R.mono ⟨Nat.le_refl _,hext.vis,fun b _ hx=>⟨if_pos hx,rfl⟩⟩ hR
   | succ i=>trivial
 refine wpIn_mono (h _ w ⟨O,hold⟩) ?_
 rintro e a' w' ⟨S',hQ,O',hh'⟩
 have fin:∀(ds:List Nat) (S':St) (a':Act) (w':World),S'.d=ds→Hold ⟨P,none,N,w,H,X,⟨hZ,fun b hb=>(hX b hb).1⟩⟩ S' a' w'→Zbs ⟨P,none,N,w,H,X,⟨hZ,fun b hb=>(hX b hb).1⟩⟩ fn B R' ds S'→
   LeavesInM Fence.wide 0 P fn a'.tmps (fun e w'=> ∃v z X',e= .returned v∧Fin w X w' X'∧(B z).R w' (join H X') Zl v∧(R' z).R w' (join H X') X') (marks ds) .returning w':=by
  intro ds
  induction ds with
  | nil=>
   rintro S' a' w' hd' ⟨O',hh'⟩ ⟨hd,hr⟩
   obtain ⟨v,z,X',h1,h2,h3,h4⟩:=hr O' a' w' hh'
   refine ⟨v,h1,v,z,X',rfl,⟨hh'.os,hh'.tape,hh'.output,hh'.size,hh'.old,fun b hb=>?_⟩,h3,h4⟩
   have:=hh'.own b (h2 b hb)
   exact ⟨this.1.symm,this.2⟩
  | cons D ds ih=>
   rintro S' a' w' hd' hh' ⟨hd,i,E,hr,hrest⟩
   obtain ⟨h1,h2⟩:=hh'.take hd hr
   exact ⟨by simp,.inl ⟨D,_,rfl,h1,ih _ {a' with defers:=marks ds} _ rfl h2 hrest⟩⟩
 have fin':Zbs ⟨P,none,N,w,H,X,⟨hZ,fun b hb=>(hX b hb).1⟩⟩ fn B R' S'.d S'→LeavesInM Fence.wide 0 P fn a'.tmps (fun e w'=> ∃v z X',e= .returned v∧Fin w X w' X'∧(B z).R w' (join H X') Zl v∧(R' z).R w' (join H X') X') a'.defers .returning w':=fun h=>by
  have h5:=fin S'.d S' a' w' rfl ⟨O',hh'⟩ h
  rw [hh'.dfr];exact h5
 cases e with
 | normal=>exact fin' hQ
 | ret=>exact fin' hQ
 | exit id=>exact hQ.elim
 | goto l=>exact hQ.elim
 | panic ch=>exact hQ.elim
 | outgrown=>exact hQ.elim
theorem Con.intro {P:Program}{f:FuncId}{fn:Func}{c:Code}{N:Nat}{As:List Zb}{R:Res}{ζ:Type}{B:ζ→Zb}{R':ζ→Res}(hf:P.funcs[f]? =some fn)(hb:fn.body=some c)(hN:fn.ntmps=N)(hA:Nat.ble As.length N=true)
  (h:∀w H X Z,AW ⟨P,none,N,w,H,X,Z⟩ c (Zhy ⟨P,none,N,w,H,X,Z⟩ fn B R') (St.init As R)):Con P f As R B R':=
 fun w H X _ hZ hH hX hargs hR=>Y0y hf hb hN hA hZ hH hX hargs hR (h w H X _)
theorem Con.intro0 {P:Program}{f:FuncId}{fn:Func}{c:Code}{N:Nat}{As:List Zb}{ζ:Type}{B:ζ→Zb}{R':ζ→Res}(hf:P.funcs[f]? =some fn)(hb:fn.body=some c)(hN:fn.ntmps=N)(hA:Nat.ble As.length N=true)
  (h:∀w H Z,AW ⟨P,none,N,w,H,Zl,Z⟩ c (Zhy ⟨P,none,N,w,H,Zl,Z⟩ fn B R') (St.init As emp)):Con P f As emp B R':=by
 intro w H X vs hZ hH hX hA' _
 refine (Y0y hf hb hN hA hZ hH (fun _ h=>h.elim) hA' trivial (h w H _)).mono ?_
 rintro e w' ⟨v,z,X',rfl,hf,hB,hR⟩
 exact ⟨v,z,X',rfl,⟨hf.os,hf.tape,hf.output,hf.size,fun b hb _=>hf.same b hb (fun h=>h),fun b hb=>⟨(hf.own b hb).1.elim (fun h=>h.elim) .inr,(hf.own b hb).2⟩⟩,hB,hR⟩
end Go.Wb
namespace Go.Wb
open Go
section u64
variable {C : Ctx} {S S' : St} {o : Oper} {T U : TypeId} {x y : Operand} {m n : BitVec 64}
theorem Z6y (m:BitVec 64):BitVec.ofInt 64 (m.toNat:Int)=m:=by
 apply BitVec.eq_of_toNat_eq
 rw [BitVec.toNat_ofInt]
 have:=m.isLt
 omega
theorem Zlw (m:BitVec 64):IntKind.u64.wrap (m.toNat:Int)=(m.toNat:Int):=by
 have:=m.isLt
 simp [IntKind.wrap,IntKind.signed,IntKind.bits]
 omega
theorem Z7m (ho:o.op= .binOp .and T x y U)(hd:Zq o C.N=true)(hx:Val C S x (rd Zx m))(hy:Val C S y (rd Zx n)):OpE C o S (S.put o.dst (rd Zx (m&&& n))):=
 OpE.plain (by simp [ho]) hd fun O a w hh=>by
  have h1:=Z3x (hx.of hh);have h2:=Z3x (hy.of hh)
  refine ⟨.int .u64 ((m&&& n).toNat:Int),?_,Z7t rfl⟩
  have e:Op.intBits .and .u64 (m.toNat:Int) (n.toNat:Int)=pure (.int .u64 ((m&&& n).toNat:Int)):=by
   show pure (Value.int .u64 (IntKind.u64.wrap ((BitVec.ofInt 64 (m.toNat:Int)&&& BitVec.ofInt 64 (n.toNat:Int)).toNat:Int)))=_
   rw [Z6y,Z6y,Zlw]
  simp only [execOp,ho,h1,h2,binOp]
  simp [Z2k,e]
theorem Zk0 (ho:o.op= .binOp .or T x y U)(hd:Zq o C.N=true)(hx:Val C S x (rd Zx m))(hy:Val C S y (rd Zx n)):OpE C o S (S.put o.dst (rd Zx (m||| n))):=
 OpE.plain (by simp [ho]) hd fun O a w hh=>by
  have h1:=Z3x (hx.of hh);have h2:=Z3x (hy.of hh)
  refine ⟨.int .u64 ((m||| n).toNat:Int),?_,Z7t rfl⟩
  have e:Op.intBits .or .u64 (m.toNat:Int) (n.toNat:Int)=pure (.int .u64 ((m||| n).toNat:Int)):=by
   show pure (Value.int .u64 (IntKind.u64.wrap ((BitVec.ofInt 64 (m.toNat:Int)||| BitVec.ofInt 64 (n.toNat:Int)).toNat:Int)))=_
   rw [Z6y,Z6y,Zlw]
  simp only [execOp,ho,h1,h2,binOp]
  simp [Z2k,e]
theorem Zz3 (ho:o.op= .binOp .xor T x y U)(hd:Zq o C.N=true)(hx:Val C S x (rd Zx m))(hy:Val C S y (rd Zx n)):OpE C o S (S.put o.dst (rd Zx (m ^^^ n))):=
 OpE.plain (by simp [ho]) hd fun O a w hh=>by
  have h1:=Z3x (hx.of hh);have h2:=Z3x (hy.of hh)
  refine ⟨.int .u64 ((m ^^^ n).toNat:Int),?_,Z7t rfl⟩
  have e:Op.intBits .xor .u64 (m.toNat:Int) (n.toNat:Int)=pure (.int .u64 ((m ^^^ n).toNat:Int)):=by
   show pure (Value.int .u64 (IntKind.u64.wrap ((BitVec.ofInt 64 (m.toNat:Int) ^^^ BitVec.ofInt 64 (n.toNat:Int)).toNat:Int)))=_
   rw [Z6y,Z6y,Zlw]
  simp only [execOp,ho,h1,h2,binOp]
  simp [Z2k,e]
theorem Zwl (ho:o.op= .binOp .andNot T x y U)(hd:Zq o C.N=true)(hx:Val C S x (rd Zx m))(hy:Val C S y (rd Zx n)):OpE C o S (S.put o.dst (rd Zx (m&&& ~~~n))):=
 OpE.plain (by simp [ho]) hd fun O a w hh=>by
  have h1:=Z3x (hx.of hh);have h2:=Z3x (hy.of hh)
  refine ⟨.int .u64 ((m&&& ~~~n).toNat:Int),?_,Z7t rfl⟩
  have e:Op.intBits .andNot .u64 (m.toNat:Int) (n.toNat:Int)=pure (.int .u64 ((m&&& ~~~n).toNat:Int)):=by
   show pure (Value.int .u64 (IntKind.u64.wrap ((BitVec.ofInt 64 (m.toNat:Int)&&& ~~~(BitVec.ofInt 64 (n.toNat:Int))).toNat:Int)))=_
   rw [Z6y,Z6y,Zlw]
  simp only [execOp,ho,h1,h2,binOp]
  simp [Z2k,e]
theorem Ziu (ho:o.op= .binOp .eql T x y U)(hd:Zq o C.N=true)(hx:Val C S x (rd Zx m))(hy:Val C S y (rd Zx n)):OpE C o S (S.put o.dst (rd Z3 (decide (m=n)))):=
 OpE.plain (by simp [ho]) hd fun O a w hh=>by
  have h1:=Z3x (hx.of hh);have h2:=Z3x (hy.of hh)
  have e:((m.toNat:Int)==(n.toNat:Int))=decide (m=n):=by
   by_cases e:m=n
   ·simp [e]
   ·have:¬(m.toNat:Int)=n.toNat:=fun h=>e (BitVec.eq_of_toNat_eq (by omega))
    simp [e,this]
  exact ⟨.bool ((m.toNat:Int)==(n.toNat:Int)),by simp [execOp,ho,h1,h2,Z2k,binOp,Op.intCmp],by rw [e];exact Z49⟩
end u64
section build
variable {C : Ctx} {S S' : St} {o : Oper} {α : Type}
def Z01 (P:Program)(T:TypeId):Nat→Option (Nat×Nat):=
 match P.underlying T with
 | some (.struct fs)=>match fs.toList.mapM (fun f=>(P.info? f.type).map fun i=>(f.offset,i.size)) with
  | some places=>fun x=>places.toArray[x]?
  | none=>fun _=>none
 | some (.array _ e)=>match P.info? e with
  | some ie=>fun i=>some (i*ie.size,ie.size)
  | none=>fun _=>none
 | _=>fun _=>none
def Z1d (P:Program)(T:TypeId):Bool:=
 match P.underlying T with
 | some (.struct fs)=>(fs.toList.mapM (fun f=>(P.info? f.type).map fun i=>(f.offset,i.size))).isSome
 | some (.array _ e)=>(P.info? e).isSome
 | _=>false
def Z6o (C:Ctx)(S:St){α:Type}(k:Kd α)(pl:Nat→Option (Nat×Nat)):List (Nat×Operand)→α→α→Prop
 | [],z,x=>z=x
 | (i,p)::ps,z,x=> ∃(β:Type) (kf:Kd β) (L:Lens k kf) (y:β),pl i=some (L.off,kf.sz)∧Val C S p (rd kf y)∧Z6o C S k pl ps (L.set z y) x
theorem Zob:∀(c:List Value) (off n:Nat) (cs:Array Value),off+n+c.length≤cs.size→
  ((c.zipIdx n).foldl (fun (cs:Array Value) (q:Value×Nat)=>cs.setIfInBounds (off+q.2) q.1) cs).toList=lay cs.toList (off+n) c
 | [],off,n,cs,_=>by simp [lay]
 | v::c,off,n,cs,h=>by
  have h':off+(n+1)+c.length≤(cs.setIfInBounds (off+n) v).size:=by simp at h ⊢;omega
  rw [List.zipIdx_cons,List.foldl_cons,Zob c off (n+1) _ h']
  apply List.ext_getElem?
  intro i
  simp only [List.length_cons] at h
  rw [Z92 (by simp;omega),Z92 (by simp;omega)]
  simp only [List.length_cons,Array.toList_setIfInBounds]
  by_cases h1:i<off+n
  ·rw [if_pos (by omega),if_pos h1,List.getElem?_set_ne (by omega)]
  ·rw [if_neg h1]
   by_cases h2:i=off+n
   ·subst h2
    rw [if_pos (by omega),if_pos (by omega),List.getElem?_set_self (by simp;omega),Nat.sub_self]
    rfl
   ·rw [if_neg (by omega)]
    by_cases h3:i<off+(n+1)+c.length
    ·rw [if_pos h3,if_pos (by omega)]
     have:i - (off+n)=(i - (off+(n+1)))+1:=by omega
     rw [this,List.getElem?_cons_succ]
    ·rw [if_neg h3,if_neg (by omega),List.getElem?_set_ne (by omega)]
theorem Zu9 {O:Nat→Nat}{a:Act}{w:World}(hh:HoldO C S O a w){k:Kd α}{pl:Nat→Option (Nat×Nat)}:∀{ps:List (Nat×Operand)} {z x:α} {cs:Array Value},Z6o C S k pl ps z x→k.C w (hid C O) z cs.toList→
  ∃cs',Instr.fill pl cs (ps.map fun q=>(q.1,a.eval q.2))=some cs'∧k.C w (hid C O) x cs'.toList
 | [],z,x,cs,h,hc=>⟨cs,rfl,by have:z=x:=h;rw [←this];exact hc⟩
 | (i,p)::ps,z,x,cs,h,hc=>by
  obtain ⟨β,kf,L,y,hpl,hp,hps⟩:=h
  obtain ⟨c,h1,h2⟩:=hp.of hh
  have hce:=Zg5 h1
  have hl:=kf.len h1
  have hfit:=L.fits
  have hkl:=k.len hc
  have hsz:cs.size=k.sz:=by rw [←hkl];simp
  have hfold:=Zob c L.off 0 cs (by rw [hl];omega)
  rw [Nat.add_zero] at hfold
  have hnew:=L.okset hc h1
  rw [←hfold] at hnew
  obtain ⟨cs',h3,h4⟩:=Zu9 hh hps hnew
  refine ⟨cs',?_,h4⟩
  simp only [List.map_cons,Instr.fill,hpl,h2,hce]
  have hcond:¬(c.toArray.size≠kf.sz||decide (L.off+c.toArray.size>cs.size))=true:=by
   simp [hl];omega
  rw [if_neg hcond]
  rw [←h3]
  congr 1
  rw [←Array.foldl_toList]
  have ez:c.toArray.zipIdx.toList=c.zipIdx:=by simp [Array.toList_zipIdx]
  rw [ez]
theorem Z23 {T:TypeId}{k:Kd α}{ps:List (Nat×Operand)}{z x:α}(ho:o.op= .build T ps.toArray)(hd:Zq o C.N=true)(hk:k.agg=true)(hb:Z1d C.P T=true)(hz:Zr C.P T k z)(hp:Z6o C S k (Z01 C.P T) ps z x):
  OpE C o S (S.put o.dst (rd k x)):=
 OpE.plain (by simp [ho]) hd fun O a w hh=>by
  obtain ⟨i',zv,hi',hzv,hzc⟩:=hz.out
  obtain ⟨cs',h3,h4⟩:=Zu9 hh hp (hzc w (hid C O))
  have hbuilt:C.P.built T (ps.map fun q=>(q.1,a.eval q.2))=some cs':=by
   unfold Program.built
   unfold Z1d at hb
   unfold Z01 at h3
   split at hb
   ·rename_i fs hu
    obtain ⟨places,hm⟩:=Option.isSome_iff_exists.1 hb
    simp only [hu,hm] at h3
    simp only [hi',hu,hzv,hm];exact h3
   ·rename_i n e hu
    obtain ⟨ie,hie⟩:=Option.isSome_iff_exists.1 hb
    simp only [hu,hie] at h3
    simp only [hi',hu,hzv,hie];exact h3
   ·cases hb
  refine ⟨.agg cs',?_,cs'.toList,h4,by simp [mkv,hk]⟩
  have:=run_build (P:=C.P) w T (ps.map fun q=>(q.1,a.eval q.2)).toArray cs' (by simpa using hbuilt)
  have e:ps.toArray.map (fun (q:Nat×Operand)=>(q.1,a.eval q.2))=(ps.map fun q=>(q.1,a.eval q.2)).toArray:=by simp
  simp only [execOp,ho,e,Sem.run_bind,this,Result.andThen_ok,Sem.run_pure]
end build
section ret
variable {C : Ctx} {S : St} {fn : Func} {α β : Type}
def Z6v (tmps:Array Value):ResultVar→Sem Value
 | .tmp t=>pure (tmps.getD t undef)
 | .cell a t=>do loadVar t (←asAddr (tmps.getD a undef))
def Out (C:Ctx)(S:St)(r:ResultVar)(A:Zb):Prop:=
 ∀O a w,HoldO C S O a w→∃v,(Z6v a.tmps r).run C.P w= .ok v w∧A.R w (hid C O) Zl v
theorem Z5 {t:Nat}{A:Zb}[Dup A](h:S.s t=A):Out C S (.tmp t) A:=fun O a w hh=>⟨_,rfl,(vt h).of hh⟩
theorem Zv {T:TypeId}{p g i:Nat}{k:Kd α}{x:α}(h:S.s p=Za g (Lens.id k))(hr:S.r i=Zd g T k x)(ht:Ty C.P T k):Out C S (.cell p T) (rd k x):=fun O a w hh=>by
 have h1:a.tmps.getD p undef= .pointer (some ⟨g,0,none⟩):=Z5x ((vt h).of hh)
 have h2:=hh.res i
 rw [hr] at h2
 obtain ⟨hm,cs,hg,hc⟩:=h2
 have hat:At w g 0 cs:=At.row hg (by simp)
 refine ⟨mkv k.agg cs,?_,cs,hc,rfl⟩
 simp only [Z6v,h1,asAddr,Sem.run_bind,Sem.run_pure,Result.andThen_ok]
 exact Zc0 ht hc hat
theorem Z7d {O:Nat→Nat}{w:World}{M M':HS}(A:Zb){v:Value}(h:A.R w (hid C O) Zl v)(X':HS)(hX:∀b,X' b→O b≠0):A.R w (join C.H0 X') Zl v:=
 A.mono ⟨Nat.le_refl _,fun b _ hn=>⟨fun h=>hn (h.imp id (hX b)),rfl⟩,fun _ _ h=>h.elim⟩ h
theorem Z9 {r:ResultVar}{A:Zb}(hf:fn.results= #[r])(hd:S.d=[])(h:Out C S r A):RetOK C fn S (fun _:Unit=>A) (fun _=>emp):=
 ⟨hd,fun O a w hh=>by
  obtain ⟨v,h1,h2⟩:=h O a w hh
  refine ⟨v,(),Zl,?_,fun _ h=>h.elim,Z7d (M:=Zl) (M':=Zl) A h2 Zl (fun _ h=>h.elim),trivial⟩
  have e:results fn a.tmps=(do let vs ←fn.results.mapM (Z6v a.tmps);pure (if h:vs.size=1 then vs[0] else .tuple vs)):=rfl
  rw [e,hf]
  simp [h1]⟩
theorem Z0c {r r':ResultVar}{A B:Zb}(hf:fn.results= #[r,r'])(hd:S.d=[])(h:Out C S r A)(h':Out C S r' B):RetOK C fn S (fun _:Unit=>Z0t A B) (fun _=>emp):=
 ⟨hd,fun O a w hh=>by
  obtain ⟨v,h1,h2⟩:=h O a w hh
  obtain ⟨u,h3,h4⟩:=h' O a w hh
  refine ⟨.tuple #[v,u],(),Zl,?_,fun _ h=>h.elim,⟨v,u,rfl,Z7d (M:=Zl) (M':=Zl) A h2 Zl (fun _ h=>h.elim),Z7d (M:=Zl) (M':=Zl) B h4 Zl (fun _ h=>h.elim)⟩,trivial⟩
  have e:results fn a.tmps=(do let vs ←fn.results.mapM (Z6v a.tmps);pure (if h:vs.size=1 then vs[0] else .tuple vs)):=rfl
  rw [e,hf]
  simp [h1,h3]⟩
theorem PCon.of {P:Program}{f:FuncId}{As:List Zb}{B:Zb}(h:Con P f As emp (fun _:Unit=>B) (fun _=>emp)):PCon P f As B:=by
 intro w H vs hZ hH hA
 refine (h w H Zl vs hZ hH (fun _ h=>h.elim) hA trivial).mono ?_
 rintro e w' ⟨v,z,X',rfl,hf,hB,_⟩
 refine ⟨v,rfl,⟨hf.os,hf.tape,hf.output,hf.size,hf.same,fun b h=>h.elim⟩,B.mono ⟨Nat.le_refl _,fun b _ hj=>⟨fun hh=>hj (.inl hh),rfl⟩,fun _ _ h=>h.elim⟩ hB⟩
end ret
end Go.Wb
namespace Go.Wb
open Go
def OpG (C:Ctx)(ops:Array Oper)(o:Oper)(S S':St):Prop:=
 ∀a w,Hold C S a w→if Region.wanted o (yielded ops a.tmps) then o.wpIn C.fen 0 C.P a w (fun a' w'=>Hold C S' a' w') (fun _ _ _=>False) else Hold C S' (a.put o.dst undef) w
section guards
variable {C : Ctx} {ops : Array Oper} {Q : Exit → St → Prop} {S S' : St} {o : Oper}
theorem OpG.of (hg:o.guard=none)(h:OpE C o S S'):OpG C ops o S S':=fun a w hh=>by
 rw [if_pos (Y20 hg)]
 exact ⟨(h a w hh).1,Oper.uponIn_mono (fun a' w' ⟨S'',h1,h2⟩=>h1▸h2) (fun _ _ _ h=>h) _ (h a w hh).2⟩
theorem OpG.guard {A:Zb}{j gt:Nat}{b want:Bool}(hg:o.guard=some (j,want))(hj:(ops[j]?).bind (·.dst)=some gt)(hn:Nat.blt gt C.N=true)(hb:S.s gt=rd Z3 b)(hd:Zq o C.N=true)
  (h:(b==want)=true→OpE C o S (S.put o.dst A)):OpG C ops o S (S.put o.dst (gd (b==want) A)):=by
 rintro a w ⟨O,hh⟩
 have h1:=Zaa ((vt hb).of hh)
 have hlt:gt<a.tmps.size:=by rw [hh.n];simpa using hn
 have hy:yielded ops a.tmps j=some b:=by
  have h1':a.tmps[gt]?.getD undef= .bool b:=by simpa [Act.eval] using h1
  simp only [yielded,hj,Option.bind_some]
  rw [Array.getElem?_eq_getElem hlt] at h1' ⊢
  simp only [Option.getD_some] at h1'
  rw [h1']
 have hw:Region.wanted o (yielded ops a.tmps)=(b==want):=by
  simp only [Region.wanted,hg,hy]
  cases b<;>cases want<;>rfl
 rw [hw]
 cases hq:(b==want) with
 | true=>
  simp only [if_true]
  have h2:=h hq a w ⟨O,hh⟩
  refine ⟨h2.1,Oper.uponIn_mono (fun a' w' hx=>?_) (fun _ _ _ h=>h) _ h2.2⟩
  obtain ⟨S'',rfl,O',h4⟩:=hx
  refine ⟨O',{h4 with slot:=fun t=>?_,res:=fun i=>by have h5:=h4.res i;cases hdst:o.dst<;>rw [hdst] at h5<;>exact h5,dfr:=by have h5:=h4.dfr;cases hdst:o.dst<;>rw [hdst] at h5<;>exact h5}⟩
  cases hdst:o.dst with
  | none=>have:=h4.slot t;rw [hdst] at this;exact this
  | some d=>
   have h5:=h4.slot t
   rw [hdst] at h5
   by_cases e:t=d
   ·subst e
    simp only [St.put,St.set,Z02] at h5 ⊢
    exact fun _=>h5
   ·simp only [St.put,St.set] at h5 ⊢
    rw [Z00 _ _ e] at h5 ⊢
    exact h5
 | false=>
  simp only [Bool.false_eq_true,if_false]
  exact ⟨O,hh.yield_same (Z2r hd) (fun h=>by cases h)⟩
theorem AOps.consG {l:List Oper}(h:OpG C ops o S S')(hK:AOps C ops Q l S'):AOps C ops Q (o::l) S:=by
 intro a w hh
 have h1:=h a w hh
 simp only [wpL]
 split
 ·rename_i hw
  rw [if_pos hw] at h1
  exact ⟨h1.1,Oper.uponIn_mono (fun a' w' h2=>hK a' w' h2) (fun _ _ _ h=>h.elim) _ h1.2⟩
 ·rename_i hw
  rw [if_neg hw] at h1
  exact hK _ _ h1
theorem Z8 {t:Nat}{b:Bool}{A:Zb}[Dup A](h:S.s t=gd b A)(hb:b=true):Val C S (.tmp t) A:=fun O a w hh=>by
 have:=hh.slot t
 rw [h] at this
 exact Dup.dup (this hb)
end guards
structure Stp where
 rs:List Nat
 rr:List Nat
 us:List (Nat×Zb)
 ur:List (Nat×Res)
def Z36 {α:Type}(s:Nat→α):List (Nat×α)→Nat→α
 | []=>s
 | (d,x)::l=>Z36 (upd s d x) l
def St.ap (S:St)(p:Stp):St:=⟨Z36 S.s p.us,Z36 S.r p.ur,S.d⟩
structure Mt where
 rs:List Nat
 us:List Nat
 rr:List Nat
 ur:List Nat
structure Stp.has (p:Stp) (m:Mt):Prop where
 rs:p.rs=m.rs
 us:p.us.map (·.1)=m.us
 rr:p.rr=m.rr
 ur:p.ur.map (·.1)=m.ur
def Z7s (a b:List Nat):Bool:=a.all fun x=>b.all fun y=> !Nat.beq x y
def Mt.apart (m n:Mt):Bool:=Z7s m.us n.rs&&Z7s m.us n.us&&Z7s m.rs n.us&&Z7s m.ur n.rr&&Z7s m.ur n.ur&&Z7s m.rr n.ur
theorem Z9w {a b:List Nat}(h:Z7s a b=true):∀x∈a,∀y∈b,x≠y:=fun x hx y hy e=>by
 subst e
 have:=List.all_eq_true.1 (List.all_eq_true.1 h x hx) x hy
 simp at this
theorem Z5s {α:Type}:∀(l:List (Nat×α)) (s:Nat→α) (t:Nat),(∀x∈l.map (·.1),x≠t)→Z36 s l t=s t
 | [],_,_,_=>rfl
 | (d,x)::l,s,t,h=>by
  simp only [Z36]
  rw [Z5s l _ t (fun y hy=>h y (by simp at hy ⊢;exact .inr hy)),Z00 _ _ (fun e=>h d (by simp) e.symm)]
theorem Zto {α:Type}:∀(l:List (Nat×α)) (s s':Nat→α) (t:Nat),(∃x∈l.map (·.1),x=t)→Z36 s l t=Z36 s' l t
 | [],_,_,_,h=>by simp at h
 | (d,x)::l,s,s',t,h=>by
  simp only [Z36]
  by_cases h':∃y∈l.map (·.1),y=t
  ·exact Zto l _ _ t h'
  ·have hno:∀y∈l.map (·.1),y≠t:=fun y hy e=>h' ⟨y,hy,e⟩
   rw [Z5s l _ t hno,Z5s l _ t hno]
   obtain ⟨y,hy,rfl⟩:=h
   have:y=d:=by
    simp at hy
    rcases hy with rfl | hy
    ·rfl
    ·exact absurd rfl (hno y (by simpa using hy))
   subst this
   rw [Z02,Z02]
theorem Y1o {α:Type}(l m:List (Nat×α))(s:Nat→α)(h:∀x∈l.map (·.1),∀y∈m.map (·.1),x≠y):Z36 (Z36 s l) m=Z36 (Z36 s m) l:=by
 funext t
 by_cases hm:∃y∈m.map (·.1),y=t
 ·have hl:∀x∈l.map (·.1),x≠t:=fun x hx e=>by
   obtain ⟨y,hy,e'⟩:=hm
   exact h x hx y hy (e.trans e'.symm)
  rw [Z5s l _ t hl,Zto m _ s t hm]
 ·have hm':∀y∈m.map (·.1),y≠t:=fun y hy e=>hm ⟨y,hy,e⟩
  rw [Z5s m _ t hm']
  by_cases hl:∃x∈l.map (·.1),x=t
  ·exact Zto l _ _ t hl
  ·have hl':∀y∈l.map (·.1),y≠t:=fun y hy e=>hl ⟨y,hy,e⟩
   rw [Z5s l _ t hl',Z5s l _ t hl',Z5s m _ t hm']
section any
variable {C : Ctx} {ops : Array Oper} {md : Region.Mode} {tb : List Mt}
def Loc (C:Ctx)(ops:Array Oper)(o:Oper)(S:St)(p:Stp):Prop:=
 ∀S':St,S'.d=S.d→(∀t,p.rs.contains t=true→S'.s t=S.s t)→(∀i,p.rr.contains i=true→S'.r i=S.r i)→OpG C ops o S' (S'.ap p)
def Zfb (C:Ctx)(md:Region.Mode)(ops:Array Oper)(tb:List Mt)(Q:St→Prop):Nat→Array Bool→St→Prop
 | 0,listed,S=>Region.ready md ops listed=[]∧Q S
 | fuel+1,listed,S=>(Region.ready md ops listed=[]→Q S)∧
  ∀i∈Region.ready md ops listed,∃o m p,ops[i]? =some o∧tb[i]? =some m∧Stp.has p m∧Loc C ops o S p∧Zfb C md ops tb Q fuel (listed.setIfInBounds i true) (S.ap p)
theorem Zrt {Q:St→Prop}{Q':Exit→Act→World→Prop}(hQ:∀S a w,Q S→Hold C S a w→Q' .normal a w):∀(fuel:Nat) (listed:Array Bool) (S:St) (a:Act) (w:World),Hold C S a w→
  Zfb C md ops tb Q fuel listed S→wpAnyIn C.fen 0 C.P md ops Q' fuel listed a w
 | 0,_,S,_,_,hh,h=>⟨h.1,hQ _ _ _ h.2 hh⟩
 | fuel+1,_,S,a,w,hh,h=>⟨fun h0=>hQ _ _ _ (h.1 h0) hh,fun i hi=>by
   obtain ⟨o,m,p,ho,_,_,hl,hn⟩:=h.2 i hi
   have hg:=hl S rfl (fun _ _=>rfl) (fun _ _=>rfl) a w hh
   unfold wpOpIn
   simp only [ho]
   split
   ·rename_i hw
    rw [if_pos hw] at hg
    exact ⟨hg.1,Oper.uponIn_mono (fun a' w' hh'=>Zrt hQ fuel _ _ a' w' hh' hn) (fun _ _ _ h=>h.elim) _ hg.2⟩
   ·rename_i hw
    rw [if_neg hw] at hg
    exact ⟨fun _ _=>trivial,Zrt hQ fuel _ _ _ _ hg hn⟩⟩
theorem Loc.move {o:Oper}{S:St}{p q:Stp}{m n:Mt}(hp:p.has m)(hq:q.has n)(h:m.apart n=true)(hl:Loc C ops o S p):Loc C ops o (S.ap q) p:=by
 simp only [Mt.apart,Bool.and_eq_true] at h
 obtain ⟨⟨⟨⟨⟨h1,h2⟩,h3⟩,h4⟩,h5⟩,h6⟩:=h
 intro S' hd hs hr
 refine hl S' hd (fun t ht=>?_) (fun i hi=>?_)
 ·rw [hs t ht]
  refine Z5s _ _ _ fun x hx e=>?_
  subst e
  exact Z9w h3 _ (by rw [←hp.rs];simpa using ht) _ (by rw [←hq.us];exact hx) rfl
 ·rw [hr i hi]
  refine Z5s _ _ _ fun x hx e=>?_
  subst e
  exact Z9w h6 _ (by rw [←hp.rr];simpa using hi) _ (by rw [←hq.ur];exact hx) rfl
theorem Loc.back {o:Oper}{S:St}{p q:Stp}{m n:Mt}(hp:p.has m)(hq:q.has n)(h:m.apart n=true)(hl:Loc C ops o (S.ap q) p):Loc C ops o S p:=by
 simp only [Mt.apart,Bool.and_eq_true] at h
 obtain ⟨⟨⟨⟨⟨h1,h2⟩,h3⟩,h4⟩,h5⟩,h6⟩:=h
 intro S' hd hs hr
 refine hl S' hd (fun t ht=>?_) (fun i hi=>?_)
 ·rw [hs t ht]
  refine (Z5s _ _ _ fun x hx e=>?_).symm
  subst e
  exact Z9w h3 _ (by rw [←hp.rs];simpa using ht) _ (by rw [←hq.us];exact hx) rfl
 ·rw [hr i hi]
  refine (Z5s _ _ _ fun x hx e=>?_).symm
  subst e
  exact Z9w h6 _ (by rw [←hp.rr];simpa using hi) _ (by rw [←hq.ur];exact hx) rfl
theorem Zc1 {a b:List Nat}(h:Z7s a b=true):Z7s b a=true:=by
 refine List.all_eq_true.2 fun x hx=>List.all_eq_true.2 fun y hy=>?_
 have:=Z9w h y hy x hx
 cases e:Nat.beq x y with
 | false=>rfl
 | true=>exact absurd (Nat.eq_of_beq_eq_true e).symm this
theorem Mt.apart_symm {m n:Mt}(h:m.apart n=true):n.apart m=true:=by
 simp only [Mt.apart,Bool.and_eq_true] at h ⊢
 obtain ⟨⟨⟨⟨⟨h1,h2⟩,h3⟩,h4⟩,h5⟩,h6⟩:=h
 exact ⟨⟨⟨⟨⟨Zc1 h3,Zc1 h2⟩,Zc1 h1⟩,Zc1 h6⟩,Zc1 h5⟩,Zc1 h4⟩
theorem Yjq {S:St}{p q:Stp}{m n:Mt}(hp:p.has m)(hq:q.has n)(h:m.apart n=true):(S.ap p).ap q=(S.ap q).ap p:=by
 simp only [Mt.apart,Bool.and_eq_true] at h
 obtain ⟨⟨⟨⟨⟨h1,h2⟩,h3⟩,h4⟩,h5⟩,h6⟩:=h
 simp only [St.ap]
 rw [Y1o p.us q.us _ (by rw [hp.us,hq.us];exact Z9w h2),Y1o p.ur q.ur _ (by rw [hp.ur,hq.ur];exact Z9w h5)]
inductive Dep (md:Region.Mode) (ops:Array Oper) (i:Nat):Nat→Prop
 | one {j:Nat} {o:Oper} {e}:ops[j]? =some o→e∈o.after→Region.binds md e=true→e.on=i→Dep md ops i j
 | more {j:Nat} {o:Oper} {e}:ops[j]? =some o→e∈o.after→Region.binds md e=true→Dep md ops i e.on→Dep md ops i j
def Clo (md:Region.Mode)(ops:Array Oper)(listed:Array Bool):Prop:=
 ∀k o,ops[k]? =some o→listed.getD k false=true→∀e∈o.after,Region.binds md e=true→listed.getD e.on false=true
theorem Clo.dep {listed:Array Bool}{i:Nat}(hc:Clo md ops listed)(hi:listed.getD i false=false){j:Nat}(h:Dep md ops i j):listed.getD j false=false:=by
 induction h with
 | one ho he hb hq=>exact Bool.eq_false_iff.2 fun hj=>by have:=hc _ _ ho hj _ he hb;rw [hq,hi] at this;cases this
 | more ho he hb _ ih=>exact Bool.eq_false_iff.2 fun hj=>by have:=hc _ _ ho hj _ he hb;rw [ih] at this;cases this
theorem Y11 {l:Array Bool}{i:Nat}(h:l.getD i true=false):l.getD i false=false:=by
 simp only [Array.getD_eq_getD_getElem?] at h ⊢
 cases e:l[i]? <;>rw [e] at h<;>simp at h ⊢;exact h
theorem Y6c {l:Array Bool}{i j:Nat}(h:l.getD i false=true):(l.setIfInBounds j true).getD i false=true:=by
 simp only [Array.getD_eq_getD_getElem?] at h ⊢
 rw [Array.getElem?_setIfInBounds]
 split
 ·split
  ·rfl
  ·rename_i e1 e2;subst e1;rw [Array.getElem?_eq_none (Nat.le_of_not_lt e2)] at h;exact h
 ·exact h
theorem Clo.add {listed:Array Bool}{j:Nat}(hc:Clo md ops listed)(hj:j∈Region.ready md ops listed):Clo md ops (listed.setIfInBounds j true):=fun k o ho hk e he hb=>by
 obtain ⟨hjun,oj,hoj,hall⟩:=mem_ready.1 hj
 refine Y6c ?_
 by_cases hkj:j=k
 ·subst hkj;rw [hoj] at ho;cases ho;exact hall e he hb
 ·refine hc k o ho ?_ e he hb
  rwa [Array.getD_eq_getD_getElem?,Array.getElem?_setIfInBounds_ne hkj,←Array.getD_eq_getD_getElem?] at hk
theorem Clo.none {n:Nat}:Clo md ops (Array.replicate n false):=fun k o _ hk=>by
 simp only [Array.getD_eq_getD_getElem?,Array.getElem?_replicate] at hk
 split at hk<;>cases hk
theorem Ygu {Q:St→Prop}{i:Nat}{oi:Oper}{mi:Mt}{pi:Stp}(hi:ops[i]? =some oi)(hm:tb[i]? =some mi)(hp:pi.has mi):
  ∀(fuel:Nat) (listed:Array Bool) (S:St),
   (∀j oj mj,ops[j]? =some oj→tb[j]? =some mj→j≠i→listed.getD j true=false→¬Dep md ops i j→mi.apart mj=true)→Clo md ops listed→
   i∈Region.ready md ops listed→Loc C ops oi S pi→
   Zfb C md ops tb Q fuel (listed.setIfInBounds i true) (S.ap pi)→Zfb C md ops tb Q (fuel+1) listed S:=by
 intro fuel
 induction fuel with
 | zero=>
  intro listed S _ _ hr hy H
  refine ⟨fun h=>(by rw [h] at hr;cases hr),fun j hj=>?_⟩
  by_cases hji:j=i
  ·subst hji;exact ⟨oi,mi,pi,hi,hm,hp,hy,H⟩
  ·have:=ready_mono hj hji
   rw [H.1] at this
   cases this
 | succ fuel ih=>
  intro listed S hfree hcl hr hy H
  refine ⟨fun h=>(by rw [h] at hr;cases hr),fun j hj=>?_⟩
  by_cases hji:j=i
  ·subst hji;exact ⟨oi,mi,pi,hi,hm,hp,hy,H⟩
  ·obtain ⟨oj,mj,pj,hoj,hmj,hpj,hlj,hnj⟩:=H.2 j (ready_mono hj hji)
   obtain ⟨hjun,oj',hoj',hall⟩:=mem_ready.1 hj
   obtain rfl:oj=oj':=by rw [hoj] at hoj';exact Option.some.inj hoj'
   have h0:=Y11 (mem_ready.1 hr).1
   have hnot:¬Dep md ops i j:=fun hd=>by
    cases hd with
    | one ho he hb hq=>rw [hoj'] at ho;cases ho;have:=hall _ he hb;rw [hq,h0] at this;cases this
    | more ho he hb hd=>rw [hoj'] at ho;cases ho;have:=hall _ he hb;rw [hcl.dep h0 hd] at this;cases this
   have hap:=hfree j oj mj hoj hmj hji hjun hnot
   refine ⟨oj,mj,pj,hoj,hmj,hpj,Loc.back hpj hp (Mt.apart_symm hap) hlj,?_⟩
   have hfree':∀k ok mk,ops[k]? =some ok→tb[k]? =some mk→k≠i→(listed.setIfInBounds j true).getD k true=false→
     ¬Dep md ops i k→mi.apart mk=true:=fun k ok mk hk hmk hki hun hno=>by
    refine hfree k ok mk hk hmk hki ?_ hno
    by_cases hjk:j=k
    ·subst hjk;exact hjun
    ·rw [getD_set_ne true hjk] at hun;exact hun
   refine ih (listed.setIfInBounds j true) (S.ap pj) hfree' (hcl.add hj) (ready_mono hr (Ne.symm hji)) (Loc.move hp hpj hap hy) ?_
   rw [Yjq hpj hp (Mt.apart_symm hap),Array.setIfInBounds_comm _ _ hji]
   exact hnj
def Zdu (md:Region.Mode)(ops:Array Oper)(i:Nat):Nat→Nat→Bool
 | 0,_=>false
 | n+1,j=>match ops[j]? with
  | some o=>o.after.any (fun e=>Region.binds md e&&Nat.beq e.on i)||o.after.any (fun e=>Region.binds md e&&Zdu md ops i n e.on)
  | none=>false
theorem Zox {i:Nat}:∀n j,Zdu md ops i n j=true→Dep md ops i j
 | n+1,j,h=>by
  unfold Zdu at h
  split at h
  ·rename_i o ho
   rcases Bool.or_eq_true_iff.1 h with h | h<;>obtain ⟨e,he,h4⟩:=Array.any_eq_true'.1 h<;>simp only [Bool.and_eq_true] at h4
   ·exact .one ho he h4.1 (Nat.eq_of_beq_eq_true h4.2)
   ·exact .more ho he h4.1 (Zox n _ h4.2)
  ·cases h
def Zyb (md:Region.Mode)(ops:Array Oper)(tb:List Mt)(listed:Array Bool)(i:Nat)(mi:Mt):Bool:=
 (List.range ops.size).all fun j=>Nat.beq j i||listed.getD j true||(match ops[j]?,tb[j]? with
  | some _,some mj=>Zdu md ops i 1 j||mi.apart mj||Zdu md ops i 4 j
  | _,_=>true)
theorem Ye6 {i:Nat}{mi:Mt}{listed:Array Bool}(h:Zyb md ops tb listed i mi=true):∀j oj mj,ops[j]? =some oj→tb[j]? =some mj→j≠i→listed.getD j true=false→¬Dep md ops i j→mi.apart mj=true:=by
 intro j oj mj hj hmj hne hun hno
 have hlt:j<ops.size:=(Array.getElem?_eq_some_iff.1 hj).1
 have h1:=List.all_eq_true.1 h j (List.mem_range.2 hlt)
 simp only [hj,hmj,hun,Bool.or_false,Bool.or_assoc] at h1
 rcases Bool.or_eq_true_iff.1 h1 with h2 | h2
 ·exact absurd (Nat.eq_of_beq_eq_true h2) hne
 ·rcases Bool.or_eq_true_iff.1 h2 with h3 | h3
  ·exact absurd (Zox _ _ h3) hno
  ·rcases Bool.or_eq_true_iff.1 h3 with h3 | h3
   ·exact h3
   ·exact absurd (Zox _ _ h3) hno
def Zb2 (md:Region.Mode)(ops:Array Oper)(tb:List Mt):List Mt→Nat→Array Bool→Bool
 | [],_,listed=>(Region.ready md ops listed).isEmpty
 | m::l,k,listed=>(Region.ready md ops listed).contains k&&Zyb md ops tb listed k m&&Zb2 md ops tb l (k+1) (listed.setIfInBounds k true)
def SeqA (C:Ctx)(ops:Array Oper)(Q:St→Prop):List Mt→List Oper→St→Prop
 | [],[],S=>Q S
 | m::ms,o::l,S=> ∃p,Stp.has p m∧Loc C ops o S p∧SeqA C ops Q ms l (S.ap p)
 | _,_,_=>False
theorem Y2f {Q:St→Prop}:∀(l:List Oper) (ms:List Mt) (k:Nat) (listed:Array Bool) (S:St),(∀j,l[j]? =ops[k+j]?)→(∀j,ms[j]? =tb[k+j]?)→
  Zb2 md ops tb ms k listed=true→Clo md ops listed→SeqA C ops Q ms l S→Zfb C md ops tb Q l.length listed S
 | [],[],_,_,_,_,_,hB,_,h=>⟨by simpa [Zb2] using hB,h⟩
 | [],_::_,_,_,_,_,_,_,_,h=>h.elim
 | _::_,[],_,_,_,_,_,_,_,h=>h.elim
 | o::l,m::ms,k,listed,S,hl,hms,hB,hcl,h=>by
  have h0:ops[k]? =some o:=by simpa using (hl 0).symm
  have h1:tb[k]? =some m:=by simpa using (hms 0).symm
  simp only [Zb2,Bool.and_eq_true] at hB
  obtain ⟨⟨hr,hf⟩,hB'⟩:=hB
  obtain ⟨p,hp,hlc,hn⟩:=h
  exact Ygu h0 h1 hp l.length listed S (Ye6 hf) hcl (by simpa using hr) hlc
   (Y2f l ms (k+1) _ _ (fun j=>by have:=hl (j+1);simpa [Nat.add_assoc,Nat.add_comm 1 j] using this) (fun j=>by have:=hms (j+1);simpa [Nat.add_assoc,Nat.add_comm 1 j] using this) hB' (hcl.add (by simpa using hr)) hn)
theorem Hold.drawn {S:St}{a:Act}{w:World}(h:Hold C S a w):Hold C S a {w with drawn:=w.drawn+1}:=by
 obtain ⟨O,hh⟩:=h
 have e:∀H M,Ext w H M {w with drawn:=w.drawn+1} H M:=fun H M=>⟨Nat.le_refl _,fun _ _ h=>⟨h,rfl⟩,fun _ _ h=>⟨h,rfl⟩⟩
 exact ⟨O,⟨hh.h0,hh.os,hh.tape,hh.output,hh.size,hh.old,hh.own,hh.dfr,hh.n,fun t=>(S.s t).mono (e _ _) (hh.slot t),fun i=>(S.r i).mono (e _ _) (hh.res i)⟩⟩
theorem AW.regionAny {Q:Exit→St→Prop}{S:St}{id:Nat}(tb:List Mt)(hm:C.P.follows .mixedOrders=true)(hB:Zb2 .any ops tb tb 0 (Array.replicate ops.size false)=true)(h:SeqA C ops (fun S'=>Q .normal S') tb ops.toList S):
  AW C (.region id ops true) Q S:=by
 intro a w hh
 refine wpIn_region_any hm (Zrt (tb:=tb) (Q:=fun S'=>Q .normal S') (fun S' a' w' h1 h2=>⟨S',h1,h2⟩) _ _ S _ _ hh.drawn ?_)
 have:=Y2f (C:=C) (md:= .any) (tb:=tb) ops.toList tb 0 (Array.replicate ops.size false) S (by simp) (by simp) hB Clo.none h
 simpa using this
section steps
variable {S : St} {o : Oper}
theorem loc {d:Nat}{A:Zb}(rs rr:List Nat)(hg:o.guard=none)(hdst:o.dst=some d)
  (h:∀S':St,(∀t,rs.contains t=true→S'.s t=S.s t)→(∀i,rr.contains i=true→S'.r i=S.r i)→OpE C o S' (S'.put o.dst A)):Loc C ops o S ⟨rs,rr,[(d,A)],[]⟩:=fun S' _ hs hr=>by
 have:=h S' hs hr
 rw [hdst] at this
 exact OpG.of hg this
theorem Ydj {d j gt:Nat}{A:Zb}{b want:Bool}(rs rr:List Nat)(hg:o.guard=some (j,want))(hj:(ops[j]?).bind (·.dst)=some gt)(hn:Nat.blt gt C.N=true)(hgs:rs.contains gt=true)(hb:S.s gt=rd Z3 b)(hdst:o.dst=some d)(hd:Zq o C.N=true)
  (h:(b==want)=true→∀S':St,(∀t,rs.contains t=true→S'.s t=S.s t)→(∀i,rr.contains i=true→S'.r i=S.r i)→OpE C o S' (S'.put o.dst A)):Loc C ops o S ⟨rs,rr,[(d,gd (b==want) A)],[]⟩:=fun S' _ hs hr=>by
 have:=OpG.guard (ops:=ops) (A:=A) hg hj hn ((hs gt hgs).trans hb) hd (fun hq=>h hq S' hs hr)
 rw [hdst] at this
 exact this
theorem Z3d {i:Nat}{r:Res}(rs rr:List Nat)(hg:o.guard=none)
  (h:∀S':St,(∀t,rs.contains t=true→S'.s t=S.s t)→(∀i,rr.contains i=true→S'.r i=S.r i)→OpE C o S' (S'.setr i r)):Loc C ops o S ⟨rs,rr,[],[(i,r)]⟩:=fun S' _ hs hr=>OpG.of hg (h S' hs hr)
theorem SeqA.cons {Q:St→Prop}{m:Mt}{ms:List Mt}{l:List Oper}{p:Stp}(hl:Loc C ops o S p)(hp:p.has m)(h:SeqA C ops Q ms l (S.ap p)):SeqA C ops Q (m::ms) (o::l) S:=⟨p,hp,hl,h⟩
end steps
end any
end Go.Wb
namespace Go.Wb
open Go
section rows
variable {C : Ctx} {S S' : St} {o : Oper} {α β : Type}
theorem Z56 {v u:Value}{w:World}{H M:HS}(h:(Zg v).R w H M u):u=v:=h
structure Turns (O:Nat→Nat) (i:Nat) (w:World) (v v':Value) (w':World):Prop where
 g:w.grownBy w' v.ownBlock
 m:∀b,v.ownBlock=some b→O b=Ro i
 n:v'.ownBlock=v.ownBlock∨v'.ownBlock=some w.heap.size
 l:∀b,v'.ownBlock=some b→b<w'.heap.size
def Z4m (O:Nat→Nat)(i:Nat)(v':Value):Nat→Nat:=fun b=>if v'.ownBlock=some b then Ro i else O b
theorem Turns.notin {O:Nat→Nat}{i:Nat}{w w':World}{v v':Value}(t:Turns O i w v v' w'){b:Nat}(hb:b<w.heap.size)(ho:O b≠Ro i):v'.ownBlock≠some b∧some b≠v.ownBlock:=by
 refine ⟨fun h=>?_,fun h=>ho (t.m b h.symm)⟩
 rcases t.n with e | e
 ·exact ho (t.m b (e.symm.trans h))
 ·rw [e] at h;have:=Option.some.inj h;omega
theorem Turns.goes {O:Nat→Nat}{a:Act}{i:Nat}{w w':World}{v v':Value}(hh:HoldO C S O a w)(t:Turns O i w v v' w'):Goes C (fun q=>q=Ro i) O w (Z4m O i v') w' where
 os:=t.g.os
 tape:=rfl
 output:=t.g.output
 size:=t.g.size
 same:=fun b hb hq=>by
  have:=t.notin hb hq
  exact ⟨if_neg this.1,t.g.block b hb this.2⟩
 own:=fun b h=>by
  unfold Z4m at h
  split at h
  ·rename_i e
   rcases t.n with e' | e'
   ·left;rw [t.m b (e'.symm.trans e)];exact Z0m i
   ·right;rw [e'] at e;have:=Option.some.inj e;omega
  ·exact .inl h
 lt:=fun b h=>by
  unfold Z4m at h
  split at h
  ·rename_i e;exact t.l b e
  ·exact Nat.lt_of_lt_of_le (hh.own b h).2 t.g.size
 zero:=fun h=>Z0m i h.symm
theorem Turns.ext {O:Nat→Nat}{i:Nat}{w w':World}{v v':Value}(t:Turns O i w v v' w'):Ext w (hid C O) Zl w' (hid C (Z4m O i v')) Zl:=
 ⟨t.g.size,fun b hb hn=>by
  have h0:O b=0:=Classical.byContradiction fun h=>hn (.inr h)
  have:=t.notin hb (by rw [h0];exact fun h=>Z0m i h.symm)
  refine ⟨?_,t.g.block b hb this.2⟩
  rintro (h | h)
  ·exact hn (.inl h)
  ·unfold Z4m at h;rw [if_neg this.1] at h;exact h h0,fun _ _ h=>h.elim⟩
theorem Z5a {O:Nat→Nat}{a:Act}{i:Nat}{w w':World}{v v':Value}{E:TypeId}{k:Kd α}{l:List α}{cl:List Value}{A:Zb}(hh:HoldO C S O a w)(t:Turns O i w v v' w')(hd:Zq o C.N=true)(u:Value)(hA:A.R w' (hid C (Z4m O i v')) Zl u)
  (ho:w'.ownsRow 0 E k.sz v' l.length cl)(hc:Cells k w' (hid C (Z4m O i v')) l cl):Hold C ((S.put o.dst A).setr i (Zi v' E k l)) (a.put o.dst u) w':=by
 refine ⟨Z4m O i v',hh.goes (t.goes hh) (Z6i ..) (by cases o.dst<;>rfl) (Z6e ..) (fun s=>?_) (fun j=>?_)⟩
 ·cases hdst:o.dst with
  | none=>exact .inl ⟨rfl,Z1g s i,rfl⟩
  | some d=>
   by_cases e:s=d
   ·subst e
    right
    have hlt:s<a.tmps.size:=hh.n▸Z2r hd s hdst
    rw [Z6c hlt]
    simp only [St.put,St.set,St.setr,Z02]
    exact A.mono Ext.any hA
   ·exact .inl ⟨by simp only [St.put,St.set,St.setr];exact Z00 _ _ e,Z1g s i,Z6f e _⟩
 ·by_cases e:j=i
  ·subst e
   right
   simp only [St.setr,Z02]
   exact ⟨cl,ho,hc,fun b hb=>if_pos hb⟩
  ·exact .inl ⟨by simp only [St.setr];rw [Z00 _ _ e];cases o.dst<;>rfl,fun h=>e (Z26 h)⟩
class El {α:Type} (P:Program) (T:TypeId) (E:outParam TypeId) (k:Kd α):Prop where
 u:P.underlying T=some (.slice E)
 sz:(P.info? E).map (·.size)=some k.sz
 by_:(P.info? E).map (fun i=>Nat.ble i.bytes 32768)=some true
 zr:(P.info? E).map (fun i=>(i.zero.map fun z=>z.cells.size))=some (some k.sz)
 pos:Nat.blt 0 k.sz=true
def lim:Nat:=4294967296
theorem Zhw {P:Program}{w:World}{H:HS}{T E ty:TypeId}{k:Kd α}{l m:List α}{v u:Value}{cl:List Value}(he:El P T E k)(ho:w.ownsRow 0 E k.sz v l.length cl)(hu:SlC k w H m u)(hl:l.length+m.length≤lim):
  ∃v' w' ml,(Builtin.append_ #[T,T] ty #[v,u]).run P w= .ok v' w'∧w'.ownsRow 0 E k.sz v' (l.length+m.length) (cl++ml)∧(0<m.length→Cells k w H m ml)∧(m=[]→ml=[])∧w.grownBy w' v.ownBlock∧(v'.ownBlock=v.ownBlock∨v'.ownBlock=some w.heap.size):=by
 obtain ⟨A,c,rfl,hmc,hc63,hcells⟩:=hu
 obtain ⟨i,hi,hs⟩:=Option.map_eq_some_iff.1 he.sz
 obtain ⟨i',hi',hby⟩:=Option.map_eq_some_iff.1 he.by_
 obtain rfl:i=i':=by rw [hi] at hi';exact Option.some.inj hi'
 obtain ⟨i',hi',hz⟩:=Option.map_eq_some_iff.1 he.zr
 obtain rfl:i=i':=by rw [hi] at hi';exact Option.some.inj hi'
 obtain ⟨z,hz1,hz2⟩:=Option.map_eq_some_iff.1 hz
 have hby':i.bytes≤32768:=Nat.le_of_ble_eq_true hby
 have hpos:0<k.sz:=by have:=he.pos;simpa using this
 by_cases h0:m.length=0
 ·have hm0:m=[]:=List.eq_nil_of_length_eq_zero h0
  subst hm0
  have hrun:(Builtin.append_ #[T,T] ty #[v,.slice A ([]:List α).length c]).run P w= .ok v w:=by
   rcases ho.2 with ⟨rfl,hn⟩ | ⟨g,cap,cur,rfl,_,_,hnc,_⟩
   ·cases A<;>simp [Builtin.append_,run_underlying he.u,sizeOf,typeInfo,hi,Builtin.lenOf,Builtin.firstCells,loadCells,loadCellsFrom]
   ·cases A<;>simp [Builtin.append_,run_underlying he.u,sizeOf,typeInfo,hi,Builtin.lenOf,Builtin.firstCells,hnc,storeCells,loadCells,loadCellsFrom]
  exact ⟨v,w,[],hrun,by simpa using ho,fun h=>absurd h (by simp),fun _=>rfl,⟨rfl,rfl,rfl,Nat.le_refl _,fun _ _ _=>rfl⟩,.inl rfl⟩
 ·obtain ⟨b,off,ml,rfl,hb,hn,hc,hat⟩:=hcells (by omega)
  have hlen:=hc.len
  obtain ⟨v',w',h1,h2,h3,_,h5⟩:=run_append_own_at (P:=P) w 0 T ty E i z k.sz i.bytes he.u hi hz1 hs rfl hz2 hpos v l.length cl ho ⟨b,off,none⟩ m.length c ml hlen (fun j u hu=>by rw [Z38];exact hat.at_ j u hu) hc.one
   (by have:lim=4294967296:=rfl;simp only [maxLen];omega) (Nat.le_trans (Nat.mul_le_mul hl hby') (by decide)) (Nat.zero_le _)
  exact ⟨v',w',ml,h1,h2,fun _=>hc,fun e=>by subst e;simp at h0,h3,h5⟩
theorem Yfw {T E:TypeId}{k:Kd α}{l m:List α}{v:Value}{p q:Operand}(i:Nat)(ho:o.op= .call {callee:= .builtin .append,args:= #[p,q],argTypes:= #[T,T]})(hd:Zq o C.N=true)(he:El C.P T E k)(hp:Val C S p (Zg v))(hr:S.r i=Zi v E k l)(hq:Val C S q (rd (Z1 k) m))(hl:l.length+m.length≤lim):
  OpT C o S (fun S'=> ∃v',S'=(S.put o.dst (Zg v')).setr i (Zi v' E k (l++m))):=
 OpT.value (by simp [ho]) fun O a w hh=>by
  have h1:=Z56 (hp.of hh)
  have h2:=Z58 (hq.of hh)
  have h3:=hh.res i
  rw [hr] at h3
  obtain ⟨cl,hown,hc,hm⟩:=h3
  obtain ⟨v',w',ml,h4,h5,h6,h7,h8,h9⟩:=Zhw (ty:=o.type) he hown h2 hl
  have t:Turns O i w v v' w':=⟨h8,hm,h9,fun b hb=>(h5.lt b hb).2⟩
  have hc':=hc.mono (t.ext (C:=C))
  refine ⟨v',w',_,?_,⟨v',rfl⟩,Z5a hh t hd v' rfl (cl:=cl++ml) (by rw [List.length_append];exact h5) (hc'.append ?_)⟩
  ·simp only [execOp,ho,resolve,invoke,builtin,Sem.run_bind,Sem.run_pure,Result.andThen_ok,List.map_toArray,List.map_cons,List.map_nil,h1,h4]
  ·by_cases e:m.length=0
   ·have e':=List.eq_nil_of_length_eq_zero e
    subst e'
    rw [h7 rfl];rfl
   ·exact (h6 (by omega)).mono t.ext
theorem HoldO.newnil {O:Nat→Nat}{a:Act}{w:World}(hh:HoldO C S O a w)(i:Nat)(E:TypeId)(k:Kd α):HoldO C (S.setr i (Zi (.slice none 0 0) E k [])) O a w:=
 {hh with
  dfr:=hh.dfr
  slot:=hh.slot
  res:=fun j=>by
   by_cases e:j=i
   ·subst e
    simp only [St.setr,Z02]
    exact ⟨[],World.ownsRow_nil _ _ _ _,rfl,fun b h=>by simp [Value.ownBlock] at h⟩
   ·simp only [St.setr];rw [Z00 _ _ e];exact hh.res j}
theorem AOps.newnil {ops:Array Oper}{Q:Exit→St→Prop}{l:List Oper}(i:Nat)(E:TypeId)(k:Kd α)(h:AOps C ops Q l (S.setr i (Zi (.slice none 0 0) E k []))):AOps C ops Q l S:=
 fun a w ⟨O,hh⟩=>h a w ⟨O,hh.newnil i E k⟩
theorem AW.newnil {c:Code}{Q:Exit→St→Prop}(i:Nat)(E:TypeId)(k:Kd α)(h:AW C c Q (S.setr i (Zi (.slice none 0 0) E k []))):AW C c Q S:=
 fun a w ⟨O,hh⟩=>h a w ⟨O,hh.newnil i E k⟩
theorem Zaf {w:World}{H H':HS}{E:TypeId}{k:Kd α}[hsh:Sh k E]{l:List α}{v:Value}{cl:List Value}(ho:w.ownsRow 0 E k.sz v l.length cl)(hc:Cells k w H l cl)(hn:∀b,v.ownBlock=some b→¬H b):SlC k w H l v:=by
 rcases ho.2 with ⟨rfl,h0⟩ | ⟨g,cap,cur,rfl,hb,hg,hnc,hcm,hcs,htk⟩
 ·have hl0:l=[]:=List.eq_nil_of_length_eq_zero h0
  subst hl0
  exact ⟨none,0,rfl,by simp,by simp,fun h=>absurd h (by simp)⟩
 ·refine ⟨some ⟨g,0,none⟩,cap,rfl,hnc,by simpa [maxLen] using hcm,fun _=>⟨g,0,cl,rfl,(Array.getElem?_eq_some_iff.1 hg).1,hn g rfl,hc,?_⟩⟩
  have:=ho.cells (g:=g) rfl
  refine ⟨fun j u hu=>?_,cur,E,_,hg,hsh.out⟩
  have:=this j u hu
  rwa [Z38] at this
theorem HoldO.freeze {O:Nat→Nat}{a:Act}{w:World}{t i:Nat}{E:TypeId}{k:Kd α}[Sh k E]{l:List α}{v:Value}(hX:C.X=Zl)(hs:S.s t=Zg v)(hr:S.r i=Zi v E k l)(hh:HoldO C S O a w):∃O',HoldO C ((S.set t (rd (Z1 k) l)).setr i emp) O' a w∧∀b,O' b≠0→O b≠0:=by
 have h3:=hh.res i
 rw [hr] at h3
 obtain ⟨cl,hown,hc,hm⟩:=h3
 have h1:a.tmps.getD t undef=v:=Z56 (by have:=hh.slot t;rwa [hs] at this)
 let O':Nat→Nat:=fun b=>if O b=Ro i then 0 else O b
 have hO:∀b,O' b≠0→O b≠0∧O' b=O b:=fun b h=>by
  by_cases e:O b=Ro i
  ·exact absurd (if_pos e) h
  ·exact ⟨fun e0=>h (by simp only [O'];rw [if_neg e,e0]),if_neg e⟩
 have hext:Ext w (hid C O) Zl w (hid C O') Zl:=⟨Nat.le_refl _,fun b _ hn=>⟨fun h=>hn (h.imp id fun h=>(hO b h).1),rfl⟩,fun _ _ h=>h.elim⟩
 have go:Goes C (fun q=>q=Ro i) O w O' w:=⟨rfl,rfl,rfl,Nat.le_refl _,fun b hb hq=>⟨if_neg hq,rfl⟩,fun b h=> .inl (hO b h).1,fun b h=>(hh.own b (hO b h).1).2,fun h=>Z0m i h.symm⟩
 refine ⟨O',hh.goes go rfl rfl rfl (fun s=>?_) (fun j=>?_),fun b hb=>(hO b hb).1⟩
 ·by_cases e:s=t
  ·subst e
   right
   simp only [St.set,St.setr,Z02]
   rw [h1]
   refine Z4y (Zaf (H':=Zl) hown (hc.mono hext) fun b hb=>?_)
   rintro (h | h)
   ·have h5:=hm b hb
    have h6:=(hh.own b (by rw [h5];exact Z0m i)).1
    rw [hX] at h6
    have h7:=hh.h0 b h
    rcases h6 with h6 | h6
    ·omega
    ·exact h6
   ·exact h (if_pos (hm b hb))
  ·exact .inl ⟨by simp only [St.set,St.setr];exact Z00 _ _ e,Z1g s i,rfl⟩
 ·by_cases e:j=i
  ·subst e
   right
   simp only [St.setr,Z02]
   trivial
  ·exact .inl ⟨by simp only [St.setr];rw [Z00 _ _ e];rfl,fun h=>e (Z26 h)⟩
theorem Hold.freeze {a:Act}{w:World}{t i:Nat}{E:TypeId}{k:Kd α}[Sh k E]{l:List α}{v:Value}(hX:C.X=Zl)(hs:S.s t=Zg v)(hr:S.r i=Zi v E k l)(hh:Hold C S a w):Hold C ((S.set t (rd (Z1 k) l)).setr i emp) a w:=
 let ⟨_,hh⟩:=hh
 let ⟨O',h,_⟩:=hh.freeze hX hs hr
 ⟨O',h⟩
theorem AOps.freeze {ops:Array Oper}{Q:Exit→St→Prop}{c:List Oper}(t i:Nat){E:TypeId}{k:Kd α}[Sh k E]{l:List α}{v:Value}(hX:C.X=Zl)(hs:S.s t=Zg v)(hr:S.r i=Zi v E k l)(h:AOps C ops Q c ((S.set t (rd (Z1 k) l)).setr i emp)):AOps C ops Q c S:=
 fun a w hh=>h a w (hh.freeze hX hs hr)
theorem AW.freeze {Q:Exit→St→Prop}{c:Code}(t i:Nat){E:TypeId}{k:Kd α}[Sh k E]{l:List α}{v:Value}(hX:C.X=Zl)(hs:S.s t=Zg v)(hr:S.r i=Zi v E k l)(h:AW C c Q ((S.set t (rd (Z1 k) l)).setr i emp)):AW C c Q S:=
 fun a w hh=>h a w (hh.freeze hX hs hr)
end rows
end Go.Wb
namespace Go.Wb
open Go
section rows
variable {C : Ctx} {S S' : St} {o : Oper} {α β γ : Type}
theorem Zeh (z:Array Value)(h:0<z.size):∀n,(madeCells z (n*z.size)).toList=(List.replicate n z.toList).flatten:=by
 intro n
 apply List.ext_getElem?
 intro j
 simp only [madeCells,Array.toList_map,List.getElem?_map]
 have hr:(Array.range (n*z.size)).toList=List.range (n*z.size):=by simp
 rw [hr]
 by_cases hj:j<n*z.size
 ·rw [List.getElem?_range hj]
  have hlt:j % z.size<z.size:=Nat.mod_lt _ h
  simp only [Option.map_some]
  have:∀(n j:Nat),j<n*z.size→(List.replicate n z.toList).flatten[j]? =z[j % z.size]? :=by
   intro n
   induction n with
   | zero=>intro j hj;omega
   | succ n ih=>
    intro j hj
    rw [List.replicate_succ,List.flatten_cons,List.getElem?_append]
    by_cases hc:j<z.toList.length
    ·rw [if_pos hc,Nat.mod_eq_of_lt (by simpa using hc)];simp
    ·rw [if_neg hc]
     simp only [Array.length_toList] at hc ⊢
     rw [ih (j - z.size) (by rw [Nat.succ_mul] at hj;omega),←Nat.mod_eq_sub_mod (by omega)]
  rw [this n j hj,Array.getElem?_eq_getElem hlt]
  simp [getElem!_pos,hlt]
 ·rw [List.getElem?_eq_none (by simpa using hj),List.getElem?_eq_none]
  ·rfl
  ·simp
   have:∀n,((List.replicate n z.toList).flatten).length=n*z.size:=by
    intro n
    induction n with
    | zero=>simp
    | succ n ih=>simp
   omega
theorem Yd2 {O:Nat→Nat}{a:Act}{w:World}{E:TypeId}{k:Kd α}{l:List α}{cl:List Value}(i:Nat)(hh:HoldO C S O a w)(hd:Zq o C.N=true)(hc:Cells k w (hid C O) l cl)(hlen:l.length≤9223372036854775807):
  Hold C ((S.put o.dst (Zg (.slice (some ⟨w.heap.size,0,none⟩) l.length l.length))).setr i (Zi (.slice (some ⟨w.heap.size,0,none⟩) l.length l.length) E k l)) (a.put o.dst (.slice (some ⟨w.heap.size,0,none⟩) l.length l.length)) (w.alloc (.cells cl.toArray E)):=by
 have t:Turns O i w (.slice none 0 0) (.slice (some ⟨w.heap.size,0,none⟩) l.length l.length) (w.alloc (.cells cl.toArray E)):=
  ⟨World.grownBy_alloc w _ _,fun b h=>by simp [Value.ownBlock] at h,.inr rfl,fun b h=>by simp [Value.ownBlock] at h;subst h;simp⟩
 have hl:=hc.len
 refine Z5a hh t hd _ rfl (cl:=cl) ?_ (hc.mono t.ext)
 have:=World.ownsRow_lit (base:=0) (e:=E) (size:=k.sz) w cl.toArray l.length (Nat.zero_le _) (by simpa [maxLen] using hlen) (by simpa using hl)
 simpa using this
theorem Zvp {O:Nat→Nat}{a:Act}{w:World}{T E:TypeId}{n:Nat}{k:Kd α}{ps:List (Nat×Operand)}{z:α}{x:Vector α n}(hh:HoldO C S O a w)(ht:Sl C.P T E k)(hz:Zr C.P E k z)(hn:Nat.ble (n*k.sz) 16777216=true)(hpos:Nat.blt 0 k.sz=true)
  (hp:Z6o C S (Z4 n k) (fun i=>some (i*k.sz,k.sz)) ps (Vector.replicate n z) x):∃cl,(Instr.buildSlice T n (ps.map fun q=>(q.1,a.eval q.2)).toArray).run C.P w= .ok (.slice (some ⟨w.heap.size,0,none⟩) n n) (w.alloc (.cells cl.toArray E))∧Cells k w (hid C O) x.toList cl:=by
 obtain ⟨hu,ti,hti,hs⟩:=ht.out
 obtain ⟨ti',zv,hti',hzv,hzc⟩:=hz.out
 obtain rfl:ti=ti':=by rw [hti] at hti';exact Option.some.inj hti'
 have hz0:=hzc w (hid C O)
 have hzl:=k.len hz0
 have hsz:zv.cells.size=k.sz:=by simpa using hzl
 have hn':n*k.sz≤16777216:=Nat.le_of_ble_eq_true hn
 have hpos':0<k.sz:=by simpa using hpos
 have hmade:(madeCells zv.cells (n*k.sz)).toList=(List.replicate n zv.cells.toList).flatten:=by rw [←hsz];exact Zeh _ (by omega) n
 have hcells:(Z4 n k).C w (hid C O) (Vector.replicate n z) (madeCells zv.cells (n*k.sz)).toList:=by
  rw [hmade]
  have hkz:∀n,Cells k w (hid C O) (List.replicate n z) (List.replicate n zv.cells.toList).flatten:=by
   intro n
   induction n with
   | zero=>rfl
   | succ n ih=>rw [List.replicate_succ,List.replicate_succ,List.flatten_cons];exact ⟨_,_,rfl,hz0,ih⟩
  show Cells k _ _ (Vector.replicate n z).toList _
  rw [Vector.toList_replicate]
  exact hkz n
 obtain ⟨cs',h3,h4⟩:=Zu9 hh hp hcells
 refine ⟨cs'.toList,?_,h4⟩
 have hle:¬(n*k.sz>2 ^ 24):=by simp;omega
 by_cases h0:n*k.sz=0
 ·have hmm:madeCells zv.cells (n*k.sz)= #[]:=by simp [h0,madeCells]
  rw [hmm] at h3
  have hr0:Array.range 0= #[]:=rfl
  simp [Instr.buildSlice,run_underlying hu,sizeOf,typeInfo,hti,hs,h0,h3,newRow,hr0]
 ·simp only [Instr.buildSlice,Sem.run_bind,run_underlying hu,Result.andThen_ok,sizeOf,typeInfo,run_program,hti,hs,hle,if_false,h0,Sem.run_pure,zeroValue,hzv,List.toList_toArray]
  have hmm:((Array.range (n*k.sz)).map (fun x=>zv.cells[x % zv.cells.size]!))=madeCells zv.cells (n*k.sz):=rfl
  simp [hmm,h3,newRow]
theorem Z65 {T E:TypeId}{n:Nat}{k:Kd α}{ps:List (Nat×Operand)}{z:α}{x:Vector α n}{l:List α}(i:Nat)(ho:o.op= .buildSlice T n ps.toArray)(hd:Zq o C.N=true)(ht:Sl C.P T E k)(hz:Zr C.P E k z)(hn:Nat.ble (n*k.sz) 16777216=true)(hpos:Nat.blt 0 k.sz=true)
  (hp:Z6o C S (Z4 n k) (fun i=>some (i*k.sz,k.sz)) ps (Vector.replicate n z) x)(hl:x.toList=l):
  OpT C o S (fun S'=> ∃v,S'=(S.put o.dst (Zg v)).setr i (Zi v E k l)):=
 OpT.value (by simp [ho]) fun O a w hh=>by
  obtain ⟨cl,h1,h2⟩:=Zvp hh ht hz hn hpos hp
  rw [hl] at h2
  have hln:l.length=n:=by rw [←hl];simp
  have hn':n*k.sz≤16777216:=Nat.le_of_ble_eq_true hn
  have hpos':0<k.sz:=by simpa using hpos
  have hle:n≤n*k.sz:=Nat.le_mul_of_pos_right _ hpos'
  have h3:=Yd2 (E:=E) i hh hd h2 (by omega)
  refine ⟨_,_,_,?_,⟨_,rfl⟩,h3⟩
  have e:ps.toArray.map (fun (q:Nat×Operand)=>(q.1,a.eval q.2))=(ps.map fun q=>(q.1,a.eval q.2)).toArray:=by simp
  simp only [execOp,ho,e,Sem.run_bind,h1,Result.andThen_ok,Sem.run_pure,hln]
theorem Z4x {T E:TypeId}{n:Nat}{k:Kd α}{ps:List (Nat×Operand)}{z:α}{x:Vector α n}{l:List α}[hsh:Sh k E](ho:o.op= .buildSlice T n ps.toArray)(hd:Zq o C.N=true)(ht:Sl C.P T E k)(hz:Zr C.P E k z)(hn:Nat.ble (n*k.sz) 16777216=true)(hpos:Nat.blt 0 k.sz=true)
  (hp:Z6o C S (Z4 n k) (fun i=>some (i*k.sz,k.sz)) ps (Vector.replicate n z) x)(hl:x.toList=l):
  OpE C o S (S.put o.dst (rd (Z1 k) l)):=
 OpE.value (by simp [ho]) fun O a w hh=>by
  obtain ⟨cl,h1,h2⟩:=Zvp hh ht hz hn hpos hp
  rw [hl] at h2
  have hln:l.length=n:=by rw [←hl];simp
  have hn':n*k.sz≤16777216:=Nat.le_of_ble_eq_true hn
  have hpos':0<k.sz:=by simpa using hpos
  have hle:n≤n*k.sz:=Nat.le_mul_of_pos_right _ hpos'
  have hcl:=h2.len
  refine ⟨_,_,?_,O,hh.yield (A:=rd (Z1 k) l) (v:= .slice (some ⟨w.heap.size,0,none⟩) n n) (w':=w.alloc (.cells cl.toArray E)) ⟨rfl,rfl,rfl,by simp,fun b hb _=>⟨rfl,heap_alloc_old w _ b hb⟩,fun b h=> .inl h,fun b h=>by have:=(hh.own b h).2;simp;omega,fun h=>h⟩ (Z2r hd) (Z4y ?_)⟩
  ·have e:ps.toArray.map (fun (q:Nat×Operand)=>(q.1,a.eval q.2))=(ps.map fun q=>(q.1,a.eval q.2)).toArray:=by simp
   simp only [execOp,ho,e,Sem.run_bind,h1,Result.andThen_ok,Sem.run_pure]
  ·refine ⟨some ⟨w.heap.size,0,none⟩,n,by rw [hln],by omega,by omega,fun _=>⟨w.heap.size,0,cl,rfl,by simp,?_,h2.mono ⟨by simp,fun b hb hn=>⟨hn,heap_alloc_old w _ b hb⟩,fun _ _ h=>h.elim⟩,⟨At.row (heap_alloc_new w _) (by simp),_,E,_,heap_alloc_new w _,hsh.out⟩⟩⟩
   intro h
   have:=hh.hid_lt _ h
   omega
theorem Zeg {k:Kd α}{w:World}{H:HS}{l:List α}{v:Value}(h:SlC k w H l v)(lo hi:Nat)(h1:lo≤hi)(h2:hi≤l.length):∃A c,v= .slice A l.length c∧l.length≤c∧∀m,hi≤m→m≤c→SlC k w H ((l.take hi).drop lo) (.slice (if m=lo then A else A.map (·.add (lo*k.sz))) (hi - lo) (m - lo)):=by
 obtain ⟨A,c,rfl,hlc,hc63,hcells⟩:=h
 refine ⟨A,c,rfl,hlc,fun m hm1 hm2=>?_⟩
 have hln:((l.take hi).drop lo).length=hi - lo:=by simp;omega
 refine ⟨_,m - lo,by rw [hln],by omega,by omega,fun hp=>?_⟩
 rw [hln] at hp
 obtain ⟨b,off,cl,rfl,hb,hn,hc,hat⟩:=hcells (by omega)
 rw [if_neg (by omega)]
 refine ⟨b,off+lo*k.sz,((cl.take (hi*k.sz)).drop (lo*k.sz)),by simp [Z38],hb,hn,?_,?_⟩
 ·exact (hc.take hi h2).drop lo (by simp;omega)
 ·refine ⟨fun j u hu=>?_,hat.tag⟩
  rw [List.getElem?_drop,List.getElem?_take] at hu
  split at hu
  ·rw [Nat.add_assoc];exact hat.at_ _ _ hu
  ·cases hu
theorem Z8o {P:Program}{w:World}{T E:TypeId}{k:Kd α}(ht:Sl P T E k)(A:Option Addr)(n c lo hi m:Nat)(x y z:Option Value)
  (hb:(Instr.sliceBounds true n c x y z).run P w= .ok (lo,hi,m) w):
  (Instr.sliceAt T (.slice A n c) x y z).run P w= .ok (.slice (if m=lo then A else A.map (·.add (lo*k.sz))) (hi - lo) (m - lo)) w:=by
 obtain ⟨hu,ti,hti,hs⟩:=ht.out
 simp [Instr.sliceAt,Instr.slice,run_underlying hu,hb,sizeOf,typeInfo,hti,hs]
section slicing
variable {T E : TypeId} {k : Kd α} {l : List α} {p q r : Operand} {ik jk : IntKind} {lo hi : Int}
theorem Ynq (ho:o.op= .slice T p (some q) (some r) none)(hd:Zq o C.N=true)(ht:Sl C.P T E k)(hp:Val C S p (rd (Z1 k) l))(hq:Val C S q (rd (Z0 ik) lo))(hr:Val C S r (rd (Z0 jk) hi))(h0:0≤lo)(h1:lo≤hi)(h2:hi.toNat≤l.length):
  OpE C o S (S.put o.dst (rd (Z1 k) ((l.take hi.toNat).drop lo.toNat))):=
 OpE.plain (by simp [ho]) hd fun O a w hh=>by
  obtain ⟨A,c,h3,hlc,h4⟩:=Zeg (Z58 (hp.of hh)) lo.toNat hi.toNat (by omega) h2
  have h5:=(Z0q (hq.of hh)).1;have h6:=(Z0q (hr.of hh)).1
  refine ⟨_,?_,Z4y (h4 c (by omega) (Nat.le_refl _))⟩
  have hb:(Instr.sliceBounds true l.length c (some (.int ik lo)) (some (.int jk hi)) none).run C.P w= .ok (lo.toNat,hi.toNat,c) w:=by
   simp [Instr.sliceBounds,run_sliceBound _ _ _ _ _ h0 (show lo≤(hi.toNat:Int) by omega),run_sliceBound _ _ _ _ _ (show 0≤hi by omega) (show hi≤(c:Int) by omega)]
  simp [execOp,ho,h3,h5,h6,Z8o ht A _ _ _ _ _ _ _ _ hb]
theorem Ylj (ho:o.op= .slice T p none (some r) none)(hd:Zq o C.N=true)(ht:Sl C.P T E k)(hp:Val C S p (rd (Z1 k) l))(hr:Val C S r (rd (Z0 jk) hi))(h1:0≤hi)(h2:hi.toNat≤l.length):
  OpE C o S (S.put o.dst (rd (Z1 k) (l.take hi.toNat))):=
 OpE.plain (by simp [ho]) hd fun O a w hh=>by
  obtain ⟨A,c,h3,hlc,h4⟩:=Zeg (Z58 (hp.of hh)) 0 hi.toNat (by omega) h2
  have h6:=(Z0q (hr.of hh)).1
  refine ⟨_,?_,Z4y (by simpa using h4 c (by omega) (Nat.le_refl _))⟩
  have hb:(Instr.sliceBounds true l.length c none (some (.int jk hi)) none).run C.P w= .ok (0,hi.toNat,c) w:=by
   simp [Instr.sliceBounds,run_sliceBound _ _ _ _ _ (show 0≤hi by omega) (show hi≤(c:Int) by omega)]
  have:=Z8o ht A _ _ _ _ _ _ _ _ hb
  simp only [Nat.zero_mul,Nat.sub_zero] at this
  simp [execOp,ho,h3,h6,this]
theorem Ygv (ho:o.op= .slice T p (some q) none none)(hd:Zq o C.N=true)(ht:Sl C.P T E k)(hp:Val C S p (rd (Z1 k) l))(hq:Val C S q (rd (Z0 ik) lo))(h0:0≤lo)(h2:lo.toNat≤l.length):
  OpE C o S (S.put o.dst (rd (Z1 k) (l.drop lo.toNat))):=
 OpE.plain (by simp [ho]) hd fun O a w hh=>by
  obtain ⟨A,c,h3,hlc,h4⟩:=Zeg (Z58 (hp.of hh)) lo.toNat l.length (by omega) (Nat.le_refl _)
  have h5:=(Z0q (hq.of hh)).1
  refine ⟨_,?_,Z4y (by simpa using h4 c hlc (Nat.le_refl _))⟩
  have hb:(Instr.sliceBounds true l.length c (some (.int ik lo)) none none).run C.P w= .ok (lo.toNat,l.length,c) w:=by
   simp [Instr.sliceBounds,run_sliceBound _ _ _ _ _ h0 (show lo≤(l.length:Int) by omega)]
  simp [execOp,ho,h3,h5,Z8o ht A _ _ _ _ _ _ _ _ hb]
def fsl (k:Kd α)(l:List α):Zb:=⟨fun w H M v=>SlC k w H l v∧∃A,v= .slice A l.length l.length,fun h ⟨h1,h2⟩=>⟨Z58 ((rd (Z1 k) l).mono h (Z4y h1)),h2⟩⟩
instance (k:Kd α)(l:List α):Dup (fsl k l):=⟨fun h=>h⟩
theorem Y5s {s:Operand}{hk:IntKind}(ho:o.op= .slice T p none (some r) (some s))(hd:Zq o C.N=true)(ht:Sl C.P T E k)(hp:Val C S p (rd (Z1 k) l))(hr:Val C S r (rd (Z0 jk) hi))(hs:Val C S s (rd (Z0 hk) hi))(h1:0≤hi)(h2:hi.toNat≤l.length):
  OpE C o S (S.put o.dst (fsl k (l.take hi.toNat))):=
 OpE.plain (by simp [ho]) hd fun O a w hh=>by
  obtain ⟨A,c,h3,hlc,h4⟩:=Zeg (Z58 (hp.of hh)) 0 hi.toNat (by omega) h2
  have h6:=(Z0q (hr.of hh)).1
  have h7:=(Z0q (hs.of hh)).1
  have h8:=h4 hi.toNat (Nat.le_refl _) (by omega)
  simp only [Nat.sub_zero,List.drop_zero] at h8
  refine ⟨_,?_,h8,_,by rw [List.length_take,Nat.min_eq_left h2]⟩
  have hb:(Instr.sliceBounds true l.length c none (some (.int jk hi)) (some (.int hk hi))).run C.P w= .ok (0,hi.toNat,hi.toNat) w:=by
   simp [Instr.sliceBounds,run_sliceBound _ _ _ _ _ (show 0≤hi by omega) (show hi≤(c:Int) by omega),run_sliceBound _ _ _ _ _ (show 0≤hi by omega) (show hi≤(hi.toNat:Int) by omega)]
  have:=Z8o ht A _ _ _ _ _ _ _ _ hb
  simp only [Nat.sub_zero] at this
  simp [execOp,ho,h3,h6,h7,this]
end slicing
end rows
end Go.Wb
namespace Go.Wb
open Go
section rows
variable {C : Ctx} {S S' : St} {o : Oper} {α β γ : Type}
theorem Ybs {w:World}{E:TypeId}{k:Kd α}{l:List α}{v:Value}{cl:List Value}(ho:w.ownsRow 0 E k.sz v l.length cl):∃A c,v= .slice A l.length c∧l.length≤9223372036854775807:=by
 rcases ho.2 with ⟨rfl,h0⟩ | ⟨g,cap,cur,rfl,hb,hg,hnc,hcm,hcs,htk⟩
 ·rw [h0];exact ⟨none,0,rfl,by omega⟩
 ·exact ⟨_,cap,rfl,by simp only [maxLen] at hcm;omega⟩
theorem Z2v {T E E':TypeId}{k k':Kd α}{l:List α}{v:Value}{p:Operand}(i:Nat)(ho:o.op= .call {callee:= .builtin .len,args:= #[p],argTypes:= #[T]})(hd:Zq o C.N=true)(ht:Sl C.P T E' k')(hp:Val C S p (Zg v))(hr:S.r i=Zi v E k l):
  OpE C o S (S.put o.dst (rd (Z0 .i64) (l.length:Int))):=
 OpE.plain (by simp [ho]) hd fun O a w hh=>by
  have h1:=Z56 (hp.of hh)
  have h3:=hh.res i
  rw [hr] at h3
  obtain ⟨cl,hown,hc,hm⟩:=h3
  obtain ⟨A,c,rfl,hle⟩:=Ybs hown
  refine ⟨.int .i64 l.length,?_,Z35 ⟨by simp [IntKind.min,IntKind.signed,IntKind.bits];try omega,by simp [IntKind.max,IntKind.signed,IntKind.bits];omega⟩⟩
  simp [execOp,ho,resolve,invoke,builtin,Builtin.len_,h1,run_underlying ht.u,goInt]
def erp {α β:Type}{k:Kd α}{kf:Kd β}(v:Value)(i:Nat)(L:Lens k kf):Zb:=
 ⟨fun _ _ _ u=> ∃g n c,v= .slice (some ⟨g,0,none⟩) n c∧u= .pointer (some ⟨g,i*k.sz+L.off,none⟩),fun _ h=>h⟩
instance {α β:Type}{k:Kd α}{kf:Kd β}(v:Value)(i:Nat)(L:Lens k kf):Dup (erp v i L):=⟨fun h=>h⟩
theorem Zrx {w:World}{E:TypeId}{k:Kd α}{l:List α}{v:Value}{cl:List Value}(ho:w.ownsRow 0 E k.sz v l.length cl)(hp:0<l.length):∃g cap cur,v= .slice (some ⟨g,0,none⟩) l.length cap∧w.heap[g]? =some (.cells cur E (0,0))∧l.length≤cap∧cap≤maxLen∧cur.size=cap*k.sz∧cur.toList.take (l.length*k.sz)=cl:=by
 rcases ho.2 with ⟨rfl,h0⟩ | ⟨g,cap,cur,rfl,hb,hg,hnc,hcm,hcs,htk⟩
 ·omega
 ·exact ⟨g,cap,cur,rfl,hg,hnc,hcm,hcs,htk⟩
theorem Y9s {T E:TypeId}{k:Kd α}{l:List α}{v:Value}{n:Int}{p q:Operand}{ik:IntKind}(i:Nat)(ho:o.op= .indexAddr T p q)(hd:Zq o C.N=true)(ht:Sl C.P T E k)(hp:Val C S p (Zg v))(hr:S.r i=Zi v E k l)(hq:Val C S q (rd (Z0 ik) n))(h0:0≤n)(hi:n.toNat<l.length):
  OpE C o S (S.put o.dst (erp v n.toNat (Lens.id k))):=
 OpE.plain (by simp [ho]) hd fun O a w hh=>by
  have h1:=Z56 (hp.of hh)
  have h2:=(Z0q (hq.of hh)).1
  have h3:=hh.res i
  rw [hr] at h3
  obtain ⟨cl,hown,hc,hm⟩:=h3
  obtain ⟨g,cap,cur,rfl,hg,_⟩:=Zrx hown (by omega)
  obtain ⟨hu,ti,hti,hs⟩:=ht.out
  have h4:(0:Int)≤n∧n<l.length:=⟨h0,by omega⟩
  exact ⟨.pointer (some ⟨g,n.toNat*k.sz,none⟩),by simp [execOp,ho,h1,h2,Instr.indexAt,asIntOf,run_underlying hu,Instr.sureAddr,h4,sizeOf,typeInfo,hti,hs,Z38],g,_,_,rfl,rfl⟩
theorem Z6j {T:TypeId}{n m:Nat}{k:Kd α}{kf:Kd β}{kg:Kd γ}{L:Lens k kf}(M:Lens kf kg){v:Value}{p:Operand}(ho:o.op= .fieldAddr T p n)(hd:Zq o C.N=true)(hf:Fl C.P T n M)(hp:Val C S p (erp v m L)):
  OpE C o S (S.put o.dst (erp v m (L.comp M))):=
 OpE.plain (by simp [ho]) hd fun O a w hh=>by
  obtain ⟨g,c1,c2,hv,h1⟩:=hp.of hh
  exact ⟨.pointer (some ⟨g,m*k.sz+L.off+M.off,none⟩),by simp [execOp,ho,h1,Zpv hf],g,c1,c2,hv,by simp [Lens.comp,Nat.add_assoc]⟩
theorem Yhu {w:World}{H:HS}{E:TypeId}{k:Kd α}{kf:Kd β}{L:Lens k kf}{l:List α}{g n c:Nat}{cl:List Value}(ho:w.ownsRow 0 E k.sz (.slice (some ⟨g,0,none⟩) n c) l.length cl)(hc:Cells k w H l cl)(i:Nat)(hi:i<l.length):
  ∃cs,kf.C w H (L.get l[i]) cs∧At w g (i*k.sz+L.off) cs:=by
 have h1:=L.okget (hc.get i hi)
 refine ⟨_,h1,fun j u hu=>?_⟩
 have h2:=ho.cells (g:=g) rfl
 have h3:cl[i*k.sz+L.off+j]? =some u:=by
  rw [List.getElem?_take] at hu
  split at hu
  ·rw [List.getElem?_drop,List.getElem?_take] at hu
   split at hu
   ·rw [List.getElem?_drop] at hu
    rw [←hu,Nat.add_assoc]
   ·cases hu
  ·cases hu
 have:=h2 _ _ h3
 rwa [Z38,Nat.zero_add] at this
theorem Ygo {T E:TypeId}{n:Nat}{k:Kd α}{kf:Kd β}{L:Lens k kf}{l:List α}{v:Value}{p:Operand}(i:Nat)(ho:o.op= .load T p)(hd:Zq o C.N=true)(ht:Ty C.P T kf)(hp:Val C S p (erp v n L))(hr:S.r i=Zi v E k l)(hi:n<l.length):
  OpE C o S (S.put o.dst (rd kf (L.get l[n]))):=
 OpE.plain (by simp [ho]) hd fun O a w hh=>by
  obtain ⟨g,c1,c2,rfl,h1⟩:=hp.of hh
  have h3:=hh.res i
  rw [hr] at h3
  obtain ⟨cl,hown,hc,hm⟩:=h3
  obtain ⟨cs,hcs,hat⟩:=Yhu (L:=L) hown hc n hi
  exact ⟨_,by simp [execOp,ho,h1,Instr.loadAt,Instr.sureAddr,Zc0 ht hcs hat],cs,hcs,rfl⟩
theorem Yod {T E:TypeId}{n:Nat}{k:Kd α}{kf:Kd β}{L:Lens k kf}{l:List α}{y:β}{v:Value}{p q:Operand}(i:Nat)(ho:o.op= .store T p q)(hd:o.dst=none)(ht:Ty C.P T kf)(hp:Val C S p (erp v n L))(hr:S.r i=Zi v E k l)(hi:n<l.length)(hq:Val C S q (rd kf y)):
  OpE C o S (S.setr i (Zi v E k (l.set n (L.set l[n] y)))):=
 OpE.skip (by simp [ho]) fun O a w hh=>by
  obtain ⟨g,c1,c2,rfl,h1⟩:=hp.of hh
  obtain ⟨c,h4,h5⟩:=hq.of hh
  have h3:=hh.res i
  rw [hr] at h3
  obtain ⟨cl,hown,hc,hm⟩:=h3
  obtain ⟨g',cap,cur,e,hg,hnc,hcm,hcs,htk⟩:=Zrx hown (by omega)
  obtain ⟨rfl,rfl,rfl⟩:g=g'∧c1=l.length∧c2=cap:=by
   injection e with e1 e2 e3
   injection e1 with e1
   injection e1 with e1
   exact ⟨e1,e2,e3⟩
  have hLf:=L.fits
  have hc4:=kf.len h4
  have hmul:n*k.sz+k.sz≤l.length*k.sz:=by rw [←Nat.succ_mul];exact Nat.mul_le_mul_right _ hi
  have hmul2:l.length*k.sz≤c2*k.sz:=Nat.mul_le_mul_right _ hnc
  have hcurl:cur.toList.length=c2*k.sz:=by simpa using hcs
  have hrun:=Zjb (P:=C.P) (T:=T) (off:=n*k.sz+L.off) (cur:=cur.toList) (by simpa using hg) ht h4 (by omega)
  have t:Turns O i w (.slice (some ⟨g,0,none⟩) l.length c2) (.slice (some ⟨g,0,none⟩) l.length c2) (w.setRow g (lay cur.toList (n*k.sz+L.off) c).toArray):=
   ⟨⟨rfl,rfl,rfl,by simp,fun b hb hne=>setRow_other w g b _ (fun e=>hne (by simp [Value.ownBlock,e]))⟩,hm,.inl rfl,fun b hb=>by simp [Value.ownBlock] at hb;subst hb;simpa using (Array.getElem?_eq_some_iff.1 hg).1⟩
  have hO:Z4m O i (.slice (some ⟨g,0,none⟩) l.length c2)=O:=by
   funext b
   unfold Z4m
   split
   ·rename_i e;exact (hm b e).symm
   ·rfl
  have hext:=t.ext (C:=C)
  have hc':=hc.mono hext
  have hnew:Cells k (w.setRow g (lay cur.toList (n*k.sz+L.off) c).toArray) (hid C (Z4m O i (.slice (some ⟨g,0,none⟩) l.length c2))) (l.set n (L.set l[n] y)) (lay cl (n*k.sz+L.off) c):=by
   have h6:=hc'.set n hi (L.okset (hc'.get n hi) (kf.mono hext h4))
   rwa [Zyc (by rw [hc.len];omega) (by omega)] at h6
  refine ⟨_,by simp [execOp,ho,h1,h5,Instr.storeAt,Instr.sureAddr,hrun];rfl,?_⟩
  rw [hd]
  have h7:=Z5a (E:=E) (S:=S) (o:={dst:=none,op:=o.op,type:=o.type,pos:=o.pos,after:=o.after,guard:=o.guard}) (A:=top) (l:=l.set n (L.set l[n] y)) (cl:=lay cl (n*k.sz+L.off) c) hh t rfl undef trivial ?_ hnew
  ·exact h7
  ·refine ⟨?_,.inr ⟨g,c2,_,by simp,Nat.zero_le _,setRow_heap w g _ _ _ _ hg,by simpa using hnc,hcm,?_,?_⟩⟩
   ·rw [Zjj (by rw [hc.len];omega),hc.len];simp
   ·simp only [List.size_toArray];rw [Zjj (by omega),hcurl]
   ·rw [←htk]
    simp only [List.toList_toArray,List.length_set]
    apply List.ext_getElem?
    intro j
    rw [Z92 (by simp;omega)]
    rw [List.getElem?_take]
    by_cases hj:j<l.length*k.sz
    ·rw [if_pos hj,Z92 (by omega),List.getElem?_take,if_pos hj]
    ·rw [if_neg hj,if_neg (by omega),if_neg (by omega),List.getElem?_take,if_neg hj]
end rows
end Go.Wb
namespace Go.Wb
open Go
def CV (P:Program)(v:Value)(vs:List Value)(w:World)(R:Ending→World→Prop):Prop:=
 (∃f fst cap,v= .func (.func f) fst cap∧Ent P f∧Calls P f (fst++vs.toArray++cap) w R)∨
 (∃l f tmps assign body,v= .func (.yield l) #[] #[]∧(Instr.yield l vs.toArray).run P w= .ok (.round l f tmps assign body) w∧∀ro,RoundIn {Fence.wide with round:=ro} 0 P l f tmps assign body w R)
theorem CV.mono {P:Program}{v:Value}{vs:List Value}{w:World}{R R':Ending→World→Prop}(h:CV P v vs w R)(hr:∀e w',R e w'→R' e w'):CV P v vs w R':=by
 rcases h with ⟨f,fst,cap,h1,h2,h3⟩ | ⟨l,f,tmps,assign,body,h1,h2,h3⟩
 ·exact .inl ⟨f,fst,cap,h1,h2,h3.mono hr⟩
 ·exact .inr ⟨l,f,tmps,assign,body,h1,h2,fun ro=>(h3 ro).mono hr⟩
def fn0 (P:Program)(G:List Zb→Zb→Prop):Zb where
 R:=fun w H _ v=>v.oneCell'=true∧∀(w':World) (H':HS) As B vs,G As B→Ext w H Zl w' H' Zl→(∀b,H' b→b<w'.heap.size)→Args w' H' As vs→
  CV P v vs w' (fun e w''=> ∃u,e= .returned u∧Fin w' Zl w'' Zl∧B.R w'' H' Zl u)
 mono:=fun h ⟨k0,k⟩=>⟨k0,fun w' H' As B vs hG he=>k w' H' As B vs hG (h.pure_.trans he)⟩
def fnR (P:Program)(G:List Zb→Res→Zb→Res→Prop):Zb where
 R:=fun w H _ v=>v.oneCell'=true∧∀(w':World) (H' X:HS) As R B R' vs,G As R B R'→Ext w H Zl w' H' Zl→(∀b,H' b→b<w'.heap.size)→(∀b,X b→H' b∧b<w'.heap.size)→Args w' H' As vs→R.R w' H' X→
  CV P v vs w' (fun e w''=> ∃u X',e= .returned u∧Fin w' X w'' X'∧B.R w'' (join H' X') Zl u∧R'.R w'' (join H' X') X')
 mono:=fun h ⟨k0,k⟩=>⟨k0,fun w' H' X As R B R' vs hG he=>k w' H' X As R B R' vs hG (h.pure_.trans he)⟩
instance (P:Program)(G:List Zb→Zb→Prop):Dup (fn0 P G):=⟨fun h=>h⟩
instance (P:Program)(G:List Zb→Res→Zb→Res→Prop):Dup (fnR P G):=⟨fun h=>h⟩
def fnS (P:Program)(G:List Zb→Res→Zb→Res→Prop):Zb where
 R:=fun w H _ v=> ∃f fst cap,v= .func (.func f) fst cap∧Ent P f∧∀(w':World) (H' X:HS) As R B R' vs,G As R B R'→Ext w H Zl w' H' Zl→(∀b,H' b→b<w'.heap.size)→(∀b,X b→H' b∧b<w'.heap.size)→Args w' H' As vs→R.R w' H' X→
  Calls P f (fst++vs.toArray++cap) w' (fun e w''=> ∃u X',e= .returned u∧Fin w' X w'' X'∧B.R w'' (join H' X') Zl u∧R'.R w'' (join H' X') X')
 mono:=fun h ⟨f,fst,cap,hv,he,k⟩=>⟨f,fst,cap,hv,he,fun w' H' X As R B R' vs hG he=>k w' H' X As R B R' vs hG (h.pure_.trans he)⟩
instance (P:Program)(G:List Zb→Res→Zb→Res→Prop):Dup (fnS P G):=⟨fun h=>h⟩
section fns
variable {C : Ctx} {S S' : St} {o : Oper}
theorem Zwi {a:Act}{w:World}{x:Operand}{xs:List Operand}{ts:Array TypeId}{R:Ending→World→Prop}{next:Act→World→Prop}(ho:o.op= .call {callee:= .value x,args:=xs.toArray,argTypes:=ts})
  (h:CV C.P (a.eval x) (xs.map a.eval) w R)(hR:∀e w',R e w'→∃v,e= .returned v∧next (a.put o.dst v) w'):o.wpIn C.fen 0 C.P a w next (fun _ _ _=>False):=by
 refine ⟨fun _ _=>trivial,?_⟩
 rw [Oper.semAt_eq _ _ _ (by simp [ho])]
 rcases h with ⟨f,fst,cap,h1,h2,h3⟩ | ⟨l,f,tmps,assign,body,h1,h2,h3⟩
 ·have hrun:(execOp a.eval o).run C.P w= .ok (.enter f (fst++(xs.map a.eval).toArray++cap)) w:=by
   simp only [execOp,ho,resolve,h1,Deferred.ofValue,Sem.run_bind,Sem.run_pure,Result.andThen_ok,invoke]
   simpa using h2 _ w
  rw [hrun]
  refine ⟨fun h=>by simp [Ctx.fen,Fence.wide] at h,Z8y (h3.mono ?_)⟩
  rintro e w' hr
  obtain ⟨v,rfl,hn⟩:=hR e w' hr
  exact hn
 ·have hrun:(execOp a.eval o).run C.P w= .ok (.round l f tmps assign body) w:=by
   simp only [execOp,ho,resolve,h1,Deferred.ofValue,Sem.run_bind,Sem.run_pure,Result.andThen_ok,invoke]
   simpa using h2
  rw [hrun]
  refine ⟨fun h=>by simp [Ctx.fen,Fence.wide] at h,(h3 C.ro).mono ?_⟩
  rintro e w' hr
  obtain ⟨v,rfl,hn⟩:=hR e w' hr
  exact hn
theorem Znv {x:Operand}{xs:List Operand}{ts:Array TypeId}{G:List Zb→Zb→Prop}{As:List Zb}{B:Zb}(ho:o.op= .call {callee:= .value x,args:=xs.toArray,argTypes:=ts})(hd:Zq o C.N=true)(hx:Val C S x (fn0 C.P G))(hG:G As B)(hv:Vals C S xs As):
  OpE C o S (S.put o.dst B):=by
 rintro a w ⟨O,hh⟩
 refine Zwi ho ((hx.of hh).2 w (hid C O) As B _ hG (Ext.refl _ _ _) hh.hid_lt (hv.args hh)) ?_
 rintro e w' ⟨v,rfl,hf,hB⟩
 exact ⟨v,rfl,_,rfl,O,hh.yield ⟨hf.os,hf.tape,hf.output,hf.size,fun b hb _=>⟨rfl,hf.same b hb (fun h=>h)⟩,fun b h=> .inl h,fun b h=>Nat.lt_of_lt_of_le (hh.own b h).2 hf.size,fun h=>h⟩ (Z2r hd) hB⟩
theorem Yno {O:Nat→Nat}{a:Act}{w w':World}{X':HS}{B:Zb}{R':Res}{v:Value}(i:Nat)(hh:HoldO C S O a w)(hd:Zq o C.N=true)(hf:Fin w (fun b=>O b=Ro i) w' X')(hB:B.R w' (join (hid C O) X') Zl v)(hR:R'.R w' (join (hid C O) X') X'):
  Hold C ((S.put o.dst B).setr i R') (a.put o.dst v) w':=by
 classical
 let O':Nat→Nat:=fun b=>if X' b then Ro i else O b
 have hO:∀b,X' b→O' b=Ro i:=fun b h=>if_pos h
 have hO2:∀b,¬X' b→O' b=O b:=fun b h=>if_neg h
 have hj:Ext w' (join (hid C O) X') Zl w' (hid C O') Zl:=by
  refine ⟨Nat.le_refl _,fun b _ hn=>⟨?_,rfl⟩,fun _ _ h=>h.elim⟩
  rintro (h | h)
  ·exact hn (.inl (.inl h))
  ·by_cases hx:X' b
   ·exact hn (.inr hx)
   ·rw [hO2 b hx] at h;exact hn (.inl (.inr h))
 have go:Goes C (fun q=>q=Ro i) O w O' w':=by
  refine ⟨hf.os,hf.tape,hf.output,hf.size,fun b hb hq=>?_,fun b h=>?_,fun b h=>?_,fun h=>Z0m i h.symm⟩
  ·have hnx:¬X' b:=fun hx=>by
    rcases (hf.own b hx).1 with h1 | h1
    ·exact hq h1
    ·omega
   exact ⟨hO2 b hnx,hf.same b hb hq⟩
  ·by_cases hx:X' b
   ·rcases (hf.own b hx).1 with h1 | h1
    ·left;rw [h1];exact Z0m i
    ·exact .inr h1
   ·rw [hO2 b hx] at h;exact .inl h
  ·by_cases hx:X' b
   ·exact (hf.own b hx).2
   ·rw [hO2 b hx] at h;exact Nat.lt_of_lt_of_le (hh.own b h).2 hf.size
 refine ⟨O',hh.goes go (Z6i ..) (by cases o.dst<;>rfl) (Z6e ..) (fun t=>?_) (fun j=>?_)⟩
 ·cases hdst:o.dst with
  | none=>exact .inl ⟨rfl,Z1g t i,rfl⟩
  | some d=>
   by_cases e:t=d
   ·subst e
    right
    have hlt:t<a.tmps.size:=hh.n▸Z2r hd t hdst
    rw [Z6c hlt]
    simp only [St.put,St.set,St.setr,Z02]
    exact B.mono Ext.any (B.mono hj hB)
   ·exact .inl ⟨by simp only [St.put,St.set,St.setr];exact Z00 _ _ e,Z1g t i,Z6f e _⟩
 ·by_cases e:j=i
  ·subst e
   right
   simp only [St.setr,Z02]
   exact R'.mono ⟨hj.size,hj.vis,fun b _ hx=>⟨hO b hx,rfl⟩⟩ hR
  ·exact .inl ⟨by simp only [St.setr];rw [Z00 _ _ e];cases o.dst<;>rfl,fun h=>e (Z26 h)⟩
theorem Y22 {x:Operand}{xs:List Operand}{ts:Array TypeId}{G:List Zb→Res→Zb→Res→Prop}{As:List Zb}{R:Res}{B:Zb}{R':Res}(i:Nat)(ho:o.op= .call {callee:= .value x,args:=xs.toArray,argTypes:=ts})(hd:Zq o C.N=true)(hx:Val C S x (fnR C.P G))(hG:G As R B R')(hv:Vals C S xs As)(hr:S.r i=R):
  OpE C o S ((S.put o.dst B).setr i R'):=by
 rintro a w ⟨O,hh⟩
 have hres:=hh.res i
 rw [hr] at hres
 refine Zwi ho ((hx.of hh).2 w (hid C O) (fun b=>O b=Ro i) As R B R' _ hG (Ext.refl _ _ _) hh.hid_lt (fun b hb=>⟨.inr (by rw [hb];exact Z0m i),(hh.own b (by rw [hb];exact Z0m i)).2⟩) (hv.args hh) hres) ?_
 rintro e w' ⟨v,X',rfl,hf,hB,hR⟩
 exact ⟨v,rfl,_,rfl,Yno i hh hd hf hB hR⟩
theorem Args.append {w:World}{H:HS}:∀{As Bs:List Zb} {vs us:List Value},Args w H As vs→Args w H Bs us→Args w H (As++Bs) (vs++us)
 | [],_,[],_,_,h=>h
 | _::_,_,_::_,_,⟨h1,h2⟩,h=>⟨h1,Args.append h2 h⟩
 | [],_,_::_,_,h,_=>h.elim
 | _::_,_,[],_,h,_=>h.elim
theorem Y3o {P:Program}{f:FuncId}{G:List Zb→Zb→Prop}{FAs CAs:List Zb}{w:World}{H M:HS}{fs cs:List Value}(hZ:Amb P w H)(he:Ent P f)(hG:∀As B,G As B→PCon P f (FAs++As++CAs) B)(hf:Args w H FAs fs)(hc:Args w H CAs cs):
  (fn0 P G).R w H M (.func (.func f) fs.toArray cs.toArray):=by
 refine ⟨rfl,?_⟩
 intro w' H' As B vs hGA hext hH hA
 refine .inl ⟨f,fs.toArray,cs.toArray,rfl,he,?_⟩
 have:=hG As B hGA w' H' (fs++vs++cs) (hZ.mono hext) hH (((hf.mono hext).append hA).append (hc.mono hext))
 simpa using this
theorem Y8h {P:Program}{f:FuncId}{G:List Zb→Res→Zb→Res→Prop}{FAs CAs:List Zb}{w:World}{H M:HS}{fs cs:List Value}(hZ:Amb P w H)(he:Ent P f)(hG:∀As R B R',G As R B R'→Con P f (FAs++As++CAs) R (fun _:Unit=>B) (fun _=>R'))(hf:Args w H FAs fs)(hc:Args w H CAs cs):
  (fnR P G).R w H M (.func (.func f) fs.toArray cs.toArray):=by
 refine ⟨rfl,?_⟩
 intro w' H' X As R B R' vs hGA hext hH hX hA hR
 refine .inl ⟨f,fs.toArray,cs.toArray,rfl,he,?_⟩
 have h0:=hG As R B R' hGA w' H' X (fs++vs++cs) (hZ.mono hext) hH hX (((hf.mono hext).append hA).append (hc.mono hext)) hR
 have e:(fs++vs++cs).toArray=fs.toArray++vs.toArray++cs.toArray:=by simp
 rw [e] at h0
 exact h0.mono fun e w'' ⟨v,_,X',h⟩=>⟨v,X',h⟩
theorem Y9a {P:Program}{f:FuncId}{G:List Zb→Res→Zb→Res→Prop}{FAs CAs:List Zb}{w:World}{H M:HS}{fs cs:List Value}(hZ:Amb P w H)(he:Ent P f)(hG:∀As R B R',G As R B R'→Con P f (FAs++As++CAs) R (fun _:Unit=>B) (fun _=>R'))(hf:Args w H FAs fs)(hc:Args w H CAs cs):
  (fnS P G).R w H M (.func (.func f) fs.toArray cs.toArray):=by
 refine ⟨f,fs.toArray,cs.toArray,rfl,he,?_⟩
 intro w' H' X As R B R' vs hGA hext hH hX hA hR
 have h0:=hG As R B R' hGA w' H' X (fs++vs++cs) (hZ.mono hext) hH hX (((hf.mono hext).append hA).append (hc.mono hext)) hR
 have e:(fs++vs++cs).toArray=fs.toArray++vs.toArray++cs.toArray:=by simp
 rw [e] at h0
 exact h0.mono fun e w'' ⟨v,_,X',h⟩=>⟨v,X',h⟩
theorem Yc7 {f:FuncId}{fs cs:List Operand}{G:List Zb→Res→Zb→Res→Prop}{FAs CAs:List Zb}(ho:o.op= .makeFunc (.func f) fs.toArray cs.toArray)(hd:Zq o C.N=true)(he:Ent C.P f)(hf:Vals C S fs FAs)(hc:Vals C S cs CAs)(hG:∀As R B R',G As R B R'→Con C.P f (FAs++As++CAs) R (fun _:Unit=>B) (fun _=>R')):
  OpE C o S (S.put o.dst (fnS C.P G)):=
 OpE.plain (by simp [ho]) hd fun O a w hh=>⟨.func (.func f) (fs.map a.eval).toArray (cs.map a.eval).toArray,by simp [execOp,ho,Instr.makeFunc],Y9a hh.amb he hG (hf.args hh) (hc.args hh)⟩
theorem Zkx {f:FuncId}{fs cs:List Operand}{G:List Zb→Zb→Prop}{FAs CAs:List Zb}(ho:o.op= .makeFunc (.func f) fs.toArray cs.toArray)(hd:Zq o C.N=true)(he:Ent C.P f)(hf:Vals C S fs FAs)(hc:Vals C S cs CAs)(hG:∀As B,G As B→PCon C.P f (FAs++As++CAs) B):
  OpE C o S (S.put o.dst (fn0 C.P G)):=
 OpE.plain (by simp [ho]) hd fun O a w hh=>⟨.func (.func f) (fs.map a.eval).toArray (cs.map a.eval).toArray,by simp [execOp,ho,Instr.makeFunc],Y3o hh.amb he hG (hf.args hh) (hc.args hh)⟩
theorem Yef {f:FuncId}{fs cs:List Operand}{G:List Zb→Res→Zb→Res→Prop}{FAs CAs:List Zb}(ho:o.op= .makeFunc (.func f) fs.toArray cs.toArray)(hd:Zq o C.N=true)(he:Ent C.P f)(hf:Vals C S fs FAs)(hc:Vals C S cs CAs)(hG:∀As R B R',G As R B R'→Con C.P f (FAs++As++CAs) R (fun _:Unit=>B) (fun _=>R')):
  OpE C o S (S.put o.dst (fnR C.P G)):=
 OpE.plain (by simp [ho]) hd fun O a w hh=>⟨.func (.func f) (fs.map a.eval).toArray (cs.map a.eval).toArray,by simp [execOp,ho,Instr.makeFunc],Y8h hh.amb he hG (hf.args hh) (hc.args hh)⟩
theorem vfn {f:FuncId}{G:List Zb→Zb→Prop}(he:Ent C.P f)(hG:∀As B,G As B→PCon C.P f As B):Val C S (.func f) (fn0 C.P G):=fun O a w hh=>
 Y3o (FAs:=[]) (CAs:=[]) (fs:=[]) (cs:=[]) hh.amb he (fun As B h=>by simpa using hG As B h) trivial trivial
end fns
end Go.Wb
namespace Go.Wb
open Go
inductive Lp (σ:Type) where
 | go (s:σ)
 | out (c:Code) (s:σ)
def Lp.isGo {σ:Type}:Lp σ→Bool
 | .go _=>true
 | .out _ _=>false
def LR (l D:Nat)(rec:Loop)(r:Nat→Res):Res where
 R:=fun w H M=>M l∧M D∧w.heap[l]? =some (.loop rec)∧w.heap[D]? =some (.deferred (some []))∧∃O:Nat→Nat,(∀b,O b≠0→M b∧b<w.heap.size∧b≠l∧b≠D)∧∀i,(r i).R w H (fun b=>O b=Ro i)
 mono:=by
  rintro w H M w' H' M' h ⟨h1,h2,h3,h4,O,h5,h6⟩
  obtain ⟨a1,a2⟩:=h.own l (Array.getElem?_eq_some_iff.1 h3).1 h1
  obtain ⟨b1,b2⟩:=h.own D (Array.getElem?_eq_some_iff.1 h4).1 h2
  refine ⟨a1,b1,a2.trans h3,b2.trans h4,O,fun b hb=>?_,fun i=>(r i).mono ⟨h.size,h.vis,fun b hlt hb=>⟨hb,?_⟩⟩ (h6 i)⟩
  ·obtain ⟨x1,x2,x3,x4⟩:=h5 b hb
   exact ⟨(h.own b x2 x1).1,Nat.lt_of_lt_of_le x2 h.size,x3,x4⟩
  ·obtain ⟨x1,x2,x3,x4⟩:=h5 b (by rw [hb];exact Z0m i)
   exact (h.own b x2 x1).2
def Ztw (S:St):List (Nat×Zb)→Prop
 | []=>True
 | (t,A)::L=>S.s t=A∧Dup A∧Ztw S L
def Z3c (L:List (Nat×Zb)):Nat→Zb:=Z36 (fun _=>top) L
theorem Zx7 {C:Ctx}{S:St}{O:Nat→Nat}{a:Act}{w:World}(hh:HoldO C S O a w):∀{L:List (Nat×Zb)} {s:Nat→Zb},Ztw S L→(∀t,(s t).R w (hid C O) Zl (a.tmps.getD t undef))→∀t,(Z36 s L t).R w (hid C O) Zl (a.tmps.getD t undef)
 | [],s,_,h,t=>h t
 | (d,A)::L,s,⟨h1,h2,h3⟩,h,t=>by
  refine Zx7 hh h3 (fun u=>?_) t
  by_cases e:u=d
  ·subst e
   rw [Z02]
   have:=hh.slot u
   rw [h1] at this
   exact h2.dup this
  ·rw [Z00 _ _ e];exact h u
def Za5 (s:Nat→Zb):List Nat→List Zb→Nat→Zb
 | p::ps,A::As=>Za5 (upd s p A) ps As
 | _,_=>s
theorem withPs_holds {w:World}{H:HS}{n:Nat}:∀{ps:List Nat} {As:List Zb} {vs:List Value} {s:Nat→Zb} {T:Array Value},T.size=n→(∀p∈ps,p<n)→Args w H As vs→(∀t,(s t).R w H Zl (T.getD t undef))→
  ((ps.zip vs).foldl (fun t (q:Nat×Value)=>t.setIfInBounds q.1 q.2) T).size=n∧(As.length=ps.length→∀t,(Za5 s ps As t).R w H Zl (((ps.zip vs).foldl (fun t (q:Nat×Value)=>t.setIfInBounds q.1 q.2) T).getD t undef))
 | [],As,vs,s,T,hn,_,hA,h=>⟨by simpa using hn,fun _ t=>by cases As<;>simpa [Za5] using h t⟩
 | p::ps,[],[],s,T,hn,_,_,h=>⟨by simpa using hn,fun e=>by simp at e⟩
 | p::ps,[],_::_,_,_,_,_,hA,_=>hA.elim
 | p::ps,_::_,[],_,_,_,_,hA,_=>hA.elim
 | p::ps,A::As,v::vs,s,T,hn,hp,⟨h1,h2⟩,h=>by
  have hpl:=hp p (by simp)
  have:=withPs_holds (ps:=ps) (As:=As) (vs:=vs) (s:=upd s p A) (T:=T.setIfInBounds p v) (n:=n) (by simpa using hn) (fun q hq=>hp q (by simp [hq])) h2 (fun t=>by
   by_cases e:t=p
   ·subst e
    rw [Z02]
    have:(T.setIfInBounds t v).getD t undef=v:=by simp [hn,hpl]
    rw [this];exact h1
   ·rw [Z00 _ _ e]
    have:(T.setIfInBounds p v).getD t undef=T.getD t undef:=by
     simp only [Array.getD_eq_getD_getElem?,Array.getElem?_setIfInBounds]
     rw [if_neg (fun e'=>e e'.symm)]
    rw [this];exact h t)
  exact ⟨this.1,fun e=>this.2 (by simpa using e)⟩
section rangeFunc
variable {C : Ctx} {Q : Exit → St → Prop} {S : St} {σ α : Type}
def GY (enc:α→List Zb)(F:σ→α→Option (Lp σ))(L:Lp σ→Res):List Zb→Res→Zb→Res→Prop:=
 fun As R B R'=> ∃s x r,F s x=some r∧As=enc x∧R=L (.go s)∧B=rd Z3 r.isGo∧R'=L r
def Zpm (rs:σ→Nat→Res)(rx:Code→σ→Nat→Res)(r:Lp σ):Exit→St→Prop
 | .normal,S'=> ∃s',r= .go s'∧S'.r=rs s'
 | .exit id,S'=> ∃s',r= .out (.exit id) s'∧S'.r=rx (.exit id) s'
 | .ret,S'=> ∃s',r= .out .ret s'∧S'.r=rx .ret s'
 | _,_=>False
theorem AW.rangeFunc {g:Operand}{ps:Array Tmp}{assign body:Code}{GS:List Zb→Res→Zb→Res→Prop}(enc:α→List Zb)(F:σ→α→Option (Lp σ))(rs:σ→Nat→Res)(rx:Code→σ→Nat→Res)(L:List (Nat×Zb))(K:σ→α→St→Prop)(i0:Nat){s0:σ}{sE:Lp σ}
  (hro:C.ro=none)(hg:Val C S g (fnS C.P GS))(hk:Ztw S L)(hs:S.r=rs s0)(hlen:∀x,(enc x).length=ps.size)(hps:∀p∈ps.toList,p<C.N)
  (hassign:∀s x r,F s x=some r→∀l w H X Z,AW ⟨C.P,some l,C.N,w,H,X,Z⟩ assign (fun e S'=>e= .normal∧K s x S') ⟨Za5 (Z3c L) ps.toList (enc x),rs s,[]⟩)
  (hbody:∀s x r,F s x=some r→∀S1,K s x S1→∀l w H X Z,AW ⟨C.P,some l,C.N,w,H,X,Z⟩ body (Zpm rs rx r) S1)
  (hseq:∀Lf:Lp σ→Res,∃B,GS [fnR C.P (GY enc F Lf)] (Lf (.go s0)) B (Lf sE))
  (hend:∀D,match sE with
   | .go s1=>Q .normal ⟨Z3c L,upd (rs s1) i0 (Dfr D),D::S.d⟩
   | .out c s1=>AW C c Q ⟨Z3c L,upd (rx c s1) i0 (Dfr D),D::S.d⟩):
  AW C (.rangeFunc g ps assign body) Q S:=by
 rintro a w ⟨O,hh⟩
 refine wpIn_rangeFunc ?_
 intro fn hfn
 have hround:C.fen.round=none:=hro
 rw [hround]
 obtain ⟨D,hD⟩:∃D,D=w.heap.size:=⟨_,rfl⟩
 obtain ⟨l,hl⟩:∃l,l=w.heap.size+1:=⟨_,rfl⟩
 obtain ⟨rec,hrec⟩:∃rec:LoopState→Option Code→Loop,rec=fun st pe=>{state:=st,pending:=pe,fn,tmps:=a.tmps,params:=ps,assign,body,defers:=w.heap.size}:=⟨_,rfl⟩
 obtain ⟨W1,hW1⟩:∃W1,(w.alloc (.deferred (some []))).alloc (.loop (rec .ready none))=W1:=⟨_,rfl⟩
 have hlD:l≠D:=by omega
 have hsz1:W1.heap.size=w.heap.size+2:=by rw [←hW1];simp
 have hL1:W1.heap[l]? =some (.loop (rec .ready none)):=by
  rw [←hW1,hl];have:=World.alloc_heap_new (w.alloc (.deferred (some []))) (.loop (rec .ready none));rwa [World.size_alloc] at this
 have hK1:W1.heap[D]? =some (.deferred (some [])):=by
  rw [←hW1,hD,heap_alloc_old _ _ _ (by simp)];exact World.alloc_heap_new w _
 have hold1:∀b,b<w.heap.size→W1.heap[b]? =w.heap[b]? :=fun b hb=>by
  rw [←hW1,heap_alloc_old _ _ _ (by simp;omega),heap_alloc_old _ _ _ hb]
 -- what the loop has, by its state
 let Lf:Lp σ→Res:=fun r=>match r with
  | .go s=>LR l D (rec .ready none) (rs s)
  | .out c s=>LR l D (rec .done (some c)) (rx c s)
 let H1:HS:=fun b=>hid C O b∨b=l∨b=D
 let X1:HS:=fun b=>(∃i,O b=Ro i)∨b=l∨b=D
 have hext1:Ext w (hid C O) Zl W1 H1 Zl:=by
  refine ⟨by omega,fun b hb hn=>⟨?_,hold1 b hb⟩,fun _ _ h=>h.elim⟩
  rintro (h | h | h)
  ·exact hn h
  ·omega
  ·omega
 have hH1:∀b,H1 b→b<W1.heap.size:=by
  rintro b (h | h | h)
  ·have:=hh.hid_lt b h;omega
  ·omega
  ·omega
 have hX1:∀b,X1 b→H1 b∧b<W1.heap.size:=by
  rintro b (⟨i,h⟩ | h | h)
  ·have h0:O b≠0:=by rw [h];exact Z0m i
   have:=(hh.own b h0).2
   exact ⟨.inl (.inr h0),by omega⟩
  ·exact ⟨.inr (.inl h),by omega⟩
  ·exact ⟨.inr (.inr h),by omega⟩
 obtain ⟨gf,fst,cap,hgv,hge,hgc⟩:=hg.of hh
 obtain ⟨B,hGS⟩:=hseq Lf
 -- the loop's things as it begins
 have hR1:(Lf (.go s0)).R W1 H1 X1:=by
  classical
  refine ⟨.inr (.inl rfl),.inr (.inr rfl),hL1,hK1,fun b=>if ∃i,O b=Ro i then O b else 0,fun b hb=>?_,fun i=>?_⟩
  ·dsimp only at hb
   by_cases e:∃i,O b=Ro i
   ·rw [if_pos e] at hb
    have:=(hh.own b hb).2
    exact ⟨.inl e,by omega,by omega,by omega⟩
   ·exact absurd (if_neg e) hb
  ·have h1:=hh.res i
   rw [hs] at h1
   refine (rs s0 i).mono ⟨by omega,hext1.vis,fun b hb hm=>⟨?_,hold1 b hb⟩⟩ h1
   show (if ∃i,O b=Ro i then O b else 0)=Ro i
   rw [if_pos ⟨i,hm⟩];exact hm
 -- the Z3c, in whatever the world has become
 have hslot:∀t,((Z3c L) t).R w (hid C O) Zl (a.tmps.getD t undef):=Zx7 hh hk (fun _=>trivial)
 -- yield
 have hy:(fnR C.P (GY enc F Lf)).R W1 H1 Zl (.func (.yield l) #[] #[]):=by
  refine ⟨rfl,?_⟩
  rintro w' H' X As R B' R' vs ⟨s,x,r,hF,rfl,rfl,rfl,rfl⟩ hext hH hX hA hR
  obtain ⟨hXl,hXD,hl',hD',Oy,hOy,hry⟩:=hR
  have hll:l<w'.heap.size:=(Array.getElem?_eq_some_iff.1 hl').1
  have hargs:vs.length=(enc x).length:=by
   have:∀{As:List Zb} {vs:List Value},Args w' H' As vs→vs.length=As.length:=by
    intro As
    induction As with
    | nil=>intro vs h;cases vs with | nil=>rfl | cons=>exact h.elim
    | cons A As ih=>intro vs h;cases vs with | nil=>exact h.elim | cons v vs=>simp [ih h.2]
   exact this hA
  have hrun:=run_yield (P:=C.P) (args:=vs.toArray) hl' (by rw [hrec];simp [hargs,hlen x])
  rw [hrec] at hrun
  refine .inr ⟨l,fn,_,assign,body,rfl,hrun,fun ro=>roundIn_of_wpIn trivial ?_⟩
  -- the assignment
  have hsl:∀t,((Z3c L) t).R w' H' Zl (a.tmps.getD t undef):=fun t=>((Z3c L) t).mono (hext1.trans hext) (hslot t)
  obtain ⟨hn0,hps0⟩:=withPs_holds (n:=C.N) (ps:=ps.toList) (As:=enc x) (vs:=vs) (s:=Z3c L) (T:=a.tmps) hh.n hps hA hsl
  have hps1:=hps0 (by simpa using hlen x)
  have hfold:(ps.zip vs.toArray).foldl (fun tmps (q:Nat×Value)=>tmps.setIfInBounds q.1 q.2) a.tmps=(ps.toList.zip vs).foldl (fun t (q:Nat×Value)=>t.setIfInBounds q.1 q.2) a.tmps:=by
   rw [←Array.foldl_toList];simp
  let Ca:Ctx:=⟨C.P,some l,C.N,w',H',fun b=>Oy b≠0,hh.amb.mono (hext1.trans hext),fun b hb=>(hX b (hOy b hb).1).1⟩
  have hvy:Ext w' H' Zl w' (hid Ca Oy) Zl:=⟨Nat.le_refl _,fun b _ hn=>⟨by
   rintro (h | h)
   ·exact hn h
   ·exact hn (hX b (hOy b h).1).1,rfl⟩,fun _ _ h=>h.elim⟩
  have hca:HoldO Ca ⟨Za5 (Z3c L) ps.toList (enc x),rs s,[]⟩ Oy {tmps:=(ps.toList.zip vs).foldl (fun t (q:Nat×Value)=>t.setIfInBounds q.1 q.2) a.tmps,defers:=[]} w':=
   ⟨hH,rfl,rfl,rfl,Nat.le_refl _,fun _ _ _=>rfl,fun b hb=>⟨.inr hb,(hOy b hb).2.1⟩,rfl,hn0,fun t=>(Za5 (Z3c L) ps.toList (enc x) t).mono Ext.any ((Za5 (Z3c L) ps.toList (enc x) t).mono hvy (hps1 t)),
    fun i=>(rs s i).mono ⟨Nat.le_refl _,hvy.vis,fun b _ hb=>⟨hb,rfl⟩⟩ (hry i)⟩
  have has:=hassign s x r hF l w' H' (fun b=>Oy b≠0) _ _ w' ⟨Oy,hca⟩
  have hgoal:assign.wpIn Ca.fen 0 C.P (fun e a' w'=> ∃S',(e= .normal∧K s x S')∧Hold Ca S' a' w') {tmps:=(ps.zip vs.toArray).foldl (fun tmps (q:Nat×Value)=>tmps.setIfInBounds q.1 q.2) a.tmps,defers:=[]} w':=by rw [hfold];exact has
  refine wpIn_mono hgoal ?_
  rintro e a1 w1 ⟨S1,⟨rfl,hK⟩,O1,h1⟩
  have hXl0:¬Oy l≠0:=fun h=>(hOy l h).2.2.1 rfl
  have hXD0:¬Oy D≠0:=fun h=>(hOy D h).2.2.2 rfl
  have hDl:D<w'.heap.size:=(Array.getElem?_eq_some_iff.1 hD').1
  have hl1:w1.heap[l]? =some (.loop (rec .ready none)):=(h1.old l hll hXl0).trans hl'
  have hD1:w1.heap[D]? =some (.deferred (some [])):=(h1.old D hDl hXD0).trans hD'
  have hO1l:O1 l=0:=Classical.byContradiction fun h=>by
   have h5:w'.heap.size≤l∨Oy l≠0:=(h1.own l h).1
   rcases h5 with h5 | h5
   ·omega
   ·exact hXl0 h5
  have hO1D:O1 D=0:=Classical.byContradiction fun h=>by
   have h5:w'.heap.size≤D∨Oy D≠0:=(h1.own D h).1
   rcases h5 with h5 | h5
   ·omega
   ·exact hXD0 h5
  have hH'l:H' l:=(hX l hXl).1
  have hH'D:H' D:=(hX D hXD).1
  refine ⟨_,run_beginRound hl1 (by rw [hrec]),?_⟩
  -- the body
  let w2:=w1.putObj l (.loop {rec .ready none with state:= .busy})
  let Cb:Ctx:=⟨C.P,some l,C.N,w2,hid Ca O1,fun b=>O1 b≠0,h1.amb.mono ⟨by rw [World.putObj_size];exact Nat.le_refl _,fun b _ hn=>⟨hn,World.putObj_heap_other (fun e=>hn (.inl (e▸hH'l)))⟩,fun _ _ h=>h.elim⟩,fun b hb=> .inr hb⟩
  have hl1lt:l<w1.heap.size:=(Array.getElem?_eq_some_iff.1 hl1).1
  have hsz2:w2.heap.size=w1.heap.size:=World.putObj_size
  have he2:∀M:HS,¬M l→Ext w1 (hid Ca O1) M w2 (hid Cb O1) M:=fun M hM=>⟨by omega,fun b _ hn=>⟨by
   rintro (h | h)
   ·exact hn h
   ·exact hn (.inr h),World.putObj_heap_other (fun e=>hn (.inl (e▸hH'l)))⟩,fun b _ hb=>⟨hb,World.putObj_heap_other (fun e=>hM (e▸hb))⟩⟩
  have hcb:HoldO Cb S1 O1 a1 w2:=
   ⟨fun b hb=>by have:=h1.hid_lt b hb;show b<w2.heap.size;omega,rfl,rfl,rfl,Nat.le_refl _,fun _ _ _=>rfl,fun b hb=>⟨.inr hb,by have:=(h1.own b hb).2;omega⟩,h1.dfr,h1.n,
    fun t=>(S1.s t).mono (he2 _ (by show ¬O1 l=So t;rw [hO1l];exact fun h=>Z6d t h.symm)) (h1.slot t),fun i=>(S1.r i).mono (he2 _ (by show ¬O1 l=Ro i;rw [hO1l];exact fun h=>Z0m i h.symm)) (h1.res i)⟩
  refine wpIn_mono (hbody s x r hF S1 hK l w2 (hid Ca O1) (fun b=>O1 b≠0) _ a1 w2 ⟨O1,hcb⟩) ?_
  rintro e a3 w3 ⟨S3,hq,O3,h3⟩
  have hl2:w2.heap[l]? =some (.loop {rec .ready none with state:= .busy}):=World.putObj_heap_same hl1lt
  have hl3:w3.heap[l]? =some (.loop {rec .ready none with state:= .busy}):=(h3.old l (by show l<w2.heap.size;omega) (fun h=>h hO1l)).trans hl2
  have hD3:w3.heap[D]? =some (.deferred (some [])):=(h3.old D (by show D<w2.heap.size;have:=h1.size;omega) (fun h=>h hO1D)).trans ((World.putObj_heap_other (fun e=>hlD e.symm)).trans hD1)
  have hl3lt:l<w3.heap.size:=(Array.getElem?_eq_some_iff.1 hl3).1
  have hO3:∀b,O3 b≠0→(X b∨w'.heap.size≤b)∧b<w3.heap.size∧b≠l∧b≠D:=fun b hb=>by
   have h5:w2.heap.size≤b∨O1 b≠0:=(h3.own b hb).1
   have h6:=(h3.own b hb).2
   have h7:w'.heap.size≤w1.heap.size:=h1.size
   rcases h5 with h5 | h5
   ·exact ⟨.inr (by omega),h6,by omega,by omega⟩
   ·have h8:w'.heap.size≤b∨Oy b≠0:=(h1.own b h5).1
    refine ⟨?_,h6,fun e=>h5 (e▸hO1l),fun e=>h5 (e▸hO1D)⟩
    rcases h8 with h8 | h8
    ·exact .inr h8
    ·exact .inl (hOy b h8).1
  -- how it ends
  have fin:∀(jump:Option Code) (rr:Nat→Res),S3.r=rr→∃v w4,(Instr.endRound l jump).run C.P w3= .ok v w4∧v= .bool jump.isNone∧
    Fin w' X w4 (fun b=>O3 b≠0∨b=l∨b=D)∧(LR l D (rec (if jump.isNone then .ready else .done) jump) rr).R w4 (join H' (fun b=>O3 b≠0∨b=l∨b=D)) (fun b=>O3 b≠0∨b=l∨b=D):=by
   intro jump rr hrr
   have hr4:=run_endRound (P:=C.P) jump hl3
   refine ⟨_,_,hr4,rfl,⟨h3.os.trans h1.os,h3.tape.trans h1.tape,h3.output.trans h1.output,?_,fun b hb hnx=>?_,fun b hb=>?_⟩,?_⟩
   ·have h3s:w2.heap.size≤w3.heap.size:=h3.size
    have h1s:w'.heap.size≤w1.heap.size:=h1.size
    simp only [World.putObj_size];show w'.heap.size≤w3.heap.size;omega
   ·have hbl:b≠l:=fun e=>hnx (e▸hXl)
    have hO1b:¬O1 b≠0:=fun h=>by
     have h8:w'.heap.size≤b∨Oy b≠0:=(h1.own b h).1
     rcases h8 with h8 | h8
     ·omega
     ·exact hnx (hOy b h8).1
    have hblt:b<w2.heap.size:=by have e:Ca.w0.heap.size=w'.heap.size:=rfl;have:=h1.size;omega
    rw [World.putObj_heap_other hbl,h3.old b hblt hO1b]
    show w2.heap[b]? =_
    rw [World.putObj_heap_other hbl]
    exact h1.old b hb (fun h=>hnx (hOy b h).1)
   ·simp only [World.putObj_size]
    rcases hb with hb | hb | hb
    ·exact ⟨(hO3 b hb).1,(hO3 b hb).2.1⟩
    ·exact ⟨.inl (hb▸hXl),hb▸hl3lt⟩
    ·exact ⟨.inl (hb▸hXD),hb▸(Array.getElem?_eq_some_iff.1 hD3).1⟩
   ·refine ⟨.inr (.inl rfl),.inr (.inr rfl),?_,(World.putObj_heap_other (fun e=>hlD e.symm)).trans hD3,O3,fun b hb=>⟨.inl hb,by simp only [World.putObj_size];exact (hO3 b hb).2.1,(hO3 b hb).2.2⟩,fun i=>?_⟩
    ·rw [World.putObj_heap_same hl3lt,hrec]
    ·have h9:=h3.res i
     rw [hrr] at h9
     refine (rr i).mono ⟨by simp,fun b _ hn=>⟨?_,?_⟩,fun b _ hb=>⟨hb,?_⟩⟩ h9
     ·rintro (h | h | h | h)
      ·exact hn (.inl (.inl h))
      ·exact hn (.inr h)
      ·exact hn (.inl (.inl (h▸hH'l)))
      ·exact hn (.inl (.inl (h▸hH'D)))
     ·exact World.putObj_heap_other (fun e=>hn (.inl (.inl (e▸hH'l))))
     ·have:O3 b≠0:=by rw [hb];exact Z0m i
      exact World.putObj_heap_other (hO3 b this).2.2.1
  cases e with
  | normal=>
   obtain ⟨s',rfl,hrr⟩:=hq
   obtain ⟨v,w4,h4,rfl,h5,h6⟩:=fin none _ hrr
   exact ⟨_,w4,h4,_,_,rfl,h5,Z49,h6⟩
  | exit id=>
   obtain ⟨s',rfl,hrr⟩:=hq
   obtain ⟨v,w4,h4,rfl,h5,h6⟩:=fin (some (.exit id)) _ hrr
   exact ⟨_,w4,h4,_,_,rfl,h5,Z49,h6⟩
  | ret=>
   obtain ⟨s',rfl,hrr⟩:=hq
   obtain ⟨v,w4,h4,rfl,h5,h6⟩:=fin (some .ret) _ hrr
   exact ⟨_,w4,h4,_,_,rfl,h5,Z49,h6⟩
  | goto t=>exact hq.elim
  | panic ch=>exact hq.elim
  | outgrown=>exact hq.elim
 refine ⟨l,[{target:= .collected D,args:= #[]}],W1,{target:= .fn (.func gf) cap,args:=fst++ #[.func (.yield l) #[] #[]]},W1,gf,fst++ #[.func (.yield l) #[] #[]]++cap,W1,?_,?_,fun _ _=>trivial,?_,fun h=>by simp [Ctx.fen,Fence.wide] at h,?_⟩
 ·rw [←hW1,hrec,hl,hD];exact run_enterLoop_outer _ _ _ _ _
 ·simp only [resolve,hgv,Deferred.ofValue,Sem.run_pure]
  simp [Act.eval]
 ·simp only [invoke];exact hge _ _
 ·refine Z8y ((hgc W1 H1 X1 _ _ _ _ [.func (.yield l) #[] #[]] hGS hext1 hH1 hX1 ⟨hy,trivial⟩ hR1).mono ?_)
  rintro e w2 ⟨u,X2,rfl,hf,_,hR2⟩
  -- the state behind the loop
  have back:∀(rec2:Loop) (rr:Nat→Res),(LR l D rec2 rr).R w2 (join H1 X2) X2→∀ob:Obj,
    Hold C ⟨Z3c L,upd rr i0 (Dfr D),D::S.d⟩ {a with defers:=[{target:= .collected D,args:= #[]}]++a.defers} (w2.putObj l ob):=by
   rintro rec2 rr ⟨hx1,hx2,hl2,hD2,O2,hO2,hr2⟩ ob
   have hfs:W1.heap.size≤w2.heap.size:=hf.size
   have hX2:∀b,X2 b→(∃i,O b=Ro i)∨w.heap.size≤b:=fun b hb=>by
    rcases (hf.own b hb).1 with h | h
    ·rcases h with h | h | h
     ·exact .inl h
     ·right;omega
     ·right;omega
    ·right;omega
   have hO3:∀b,(if b=D then Ro i0 else O2 b)≠0→b=D∨(O2 b≠0):=fun b h=>by
    by_cases e:b=D
    ·exact .inl e
    ·rw [if_neg e] at h;exact .inr h
   have hext:Ext w (hid C O) Zl (w2.putObj l ob) (hid C (fun b=>if b=D then Ro i0 else O2 b)) Zl:=by
    refine ⟨by simp only [World.putObj_size];omega,fun b hb hn=>⟨?_,?_⟩,fun _ _ h=>h.elim⟩
    ·rintro (h | h)
     ·exact hn (.inl h)
     ·rcases hO3 b h with h | h
      ·omega
      ·rcases hX2 b (hO2 b h).1 with ⟨i,h'⟩ | h'
       ·exact hn (.inr (by rw [h'];exact Z0m i))
       ·omega
    ·rw [World.putObj_heap_other (by omega),hf.same b (by omega) ?_,hold1 b hb]
     rintro (⟨i,h⟩ | h | h)
     ·exact hn (.inr (by rw [h];exact Z0m i))
     ·omega
     ·omega
   refine ⟨fun b=>if b=D then Ro i0 else O2 b,hh.h0,?_,?_,?_,?_,fun b hb hnx=>?_,fun b hb=>?_,?_,hh.n,fun t=>?_,fun i=>?_⟩
   ·show w2.os=_;rw [hf.os,←hW1];exact hh.os
   ·exact rfl
   ·show w2.output=_;rw [hf.output,←hW1];exact hh.output
   ·simp only [World.putObj_size];have:=hh.size;omega
   ·have hbw:b<w.heap.size:=Nat.lt_of_lt_of_le hb hh.size
    rw [World.putObj_heap_other (by omega),hf.same b (by omega) ?_,hold1 b hbw]
    ·exact hh.old b hb hnx
    ·rintro (⟨i,h⟩ | h | h)
     ·rcases (hh.own b (by rw [h];exact Z0m i)).1 with h' | h'
      ·omega
      ·exact hnx h'
     ·omega
     ·omega
   ·simp only [World.putObj_size]
    have hs0:=hh.size
    rcases hO3 b hb with h | h
    ·exact ⟨.inl (by omega),by omega⟩
    ·refine ⟨?_,(hO2 b h).2.1⟩
     rcases hX2 b (hO2 b h).1 with ⟨i,h'⟩ | h'
     ·exact (hh.own b (by rw [h'];exact Z0m i)).1
     ·exact .inl (by omega)
   ·show [_]++a.defers=marks (D::S.d)
    rw [hh.dfr];rfl
   ·exact ((Z3c L) t).mono Ext.any (((Z3c L) t).mono hext (hslot t))
   ·have hview:Ext w2 (join H1 X2) Zl (w2.putObj l ob) (hid C (fun b=>if b=D then Ro i0 else O2 b)) Zl:=by
     refine ⟨by simp,fun b _ hn=>⟨?_,World.putObj_heap_other (fun e=>hn (.inl (.inr (.inl e))))⟩,fun _ _ h=>h.elim⟩
     rintro (h | h)
     ·exact hn (.inl (.inl (.inl h)))
     ·rcases hO3 b h with h | h
      ·exact hn (.inl (.inr (.inr h)))
      ·exact hn (.inr (hO2 b h).1)
    show (upd rr i0 (Dfr D) i).R _ _ _
    by_cases e:i=i0
    ·subst e
     rw [Z02]
     exact Dfr.mk (if_pos rfl) ((World.putObj_heap_other (fun e=>hlD e.symm)).trans hD2)
    ·rw [Z00 _ _ e]
     refine (rr i).mono ⟨hview.size,hview.vis,fun b _ hb=>?_⟩ (hr2 i)
     have h0:O2 b≠0:=by rw [hb];exact Z0m i
     have hbD:=(hO2 b h0).2.2.2
     exact ⟨(if_neg hbD).trans hb,World.putObj_heap_other (hO2 b h0).2.2.1⟩
  cases sE with
  | go s1=>
   have hl2:w2.heap[l]? =some (.loop (rec .ready none)):=hR2.2.2.1
   exact ⟨none,_,by have:=run_endLoop (P:=C.P) hl2 (by rw [hrec];simp);rw [hrec] at this;exact this,_,hend D,back _ _ hR2 _⟩
  | out c s1=>
   have hl2:w2.heap[l]? =some (.loop (rec .done (some c))):=hR2.2.2.1
   exact ⟨some c,_,by have:=run_endLoop (P:=C.P) hl2 (by rw [hrec];simp);rw [hrec] at this;exact this,hend D _ _ (back _ _ hR2 _)⟩
end rangeFunc
end Go.Wb
namespace Go.Wb
open Go
theorem Z6 {α β:Type _}{x:Option α}{f:α→Option β}{r:β}(h:x.bind f=some r):∃y,x=some y∧f y=some r:=by
 cases x with
 | none=>cases h
 | some y=>exact ⟨y,rfl,h⟩
theorem Yfj {α:Type _}{t:Bool}{x y:α}{r:α}(ht:t=true)(h:(bif t then x else y)=r):x=r:=by subst ht;exact h
theorem Y6m {α:Type _}{t:Bool}{x y:α}{r:α}(ht:t=false)(h:(bif t then x else y)=r):y=r:=by subst ht;exact h
def opt {α:Type _}[Inhabited α](t:Bool)(x:Option α):Option α:=bif t then x else some default
theorem Z1p {α:Type _}[Inhabited α]{t:Bool}{x:Option α}{r:α}(h:opt t x=some r)(ht:(t==true)=true):x=some r:=by
 cases t with
 | true=>exact h
 | false=>cases ht
theorem Z4a {α:Type _}[Inhabited α]{t:Bool}{x:Option α}{r:α}(h:opt (!t) x=some r)(ht:(t==false)=true):x=some r:=by
 cases t with
 | false=>exact h
 | true=>cases ht
def lget {α:Type}(l:List α)(i:Int):Option α:=bif decide (0≤i) then l[i.toNat]? else none
theorem Z0l {α:Type}{l:List α}{i:Int}{x:α}(h:lget l i=some x):0≤i∧l[i.toNat]? =some x:=by
 unfold lget at h
 cases hc:decide (0≤i) with
 | true=>exact ⟨of_decide_eq_true hc,by rwa [hc] at h⟩
 | false=>rw [hc] at h;cases h
def chk (n:Nat)(i:Int):Option (_root_.Fin n):=if h:0≤i∧i.toNat<n then some ⟨i.toNat,h.2⟩ else none
theorem Zze {n:Nat}{i:Int}{j:_root_.Fin n}(h:chk n i=some j):0≤i∧i.toNat=j.1:=by
 unfold chk at h
 split at h
 ·rename_i h'
  cases h
  exact ⟨h'.1,rfl⟩
 ·cases h
def Z9f (m n:Int):Option Int:=bif decide (n=0) then none else some (m.tmod n)
theorem Yn0 {m n r:Int}(h:Z9f m n=some r):n≠0∧m.tmod n=r:=by
 unfold Z9f at h
 by_cases e:n=0
 ·rw [decide_eq_true e] at h;cases h
 ·rw [decide_eq_false e] at h;exact ⟨e,Option.some.inj h⟩
def Zek (ik:IntKind)(m n:Int):Option Int:=bif decide (n=0) then none else some (ik.wrap (m.tdiv n))
theorem Yly {ik:IntKind}{m n r:Int}(h:Zek ik m n=some r):n≠0∧ik.wrap (m.tdiv n)=r:=by
 unfold Zek at h
 by_cases e:n=0
 ·rw [decide_eq_true e] at h;cases h
 ·rw [decide_eq_false e] at h;exact ⟨e,Option.some.inj h⟩
def Zfw (ik:IntKind)(m n:Int):Option Int:=bif decide (n<0) then none else some (ik.wrap (m*2 ^ (min n.toNat ik.bits)))
def Zam (ik:IntKind)(m n:Int):Option Int:=bif decide (n<0) then none else some (m.fdiv (2 ^ (min n.toNat ik.bits)))
theorem Y6y {ik:IntKind}{m n r:Int}(h:Zfw ik m n=some r):¬n<0∧ik.wrap (m*2 ^ (min n.toNat ik.bits))=r:=by
 unfold Zfw at h
 by_cases e:n<0
 ·rw [decide_eq_true e] at h;cases h
 ·rw [decide_eq_false e] at h;exact ⟨e,Option.some.inj h⟩
theorem Yd3 {ik:IntKind}{m n r:Int}(h:Zam ik m n=some r):¬n<0∧m.fdiv (2 ^ (min n.toNat ik.bits))=r:=by
 unfold Zam at h
 by_cases e:n<0
 ·rw [decide_eq_true e] at h;cases h
 ·rw [decide_eq_false e] at h;exact ⟨e,Option.some.inj h⟩
def Z11 {α:Type}(l m:List α):Option (List α):=bif Nat.ble (l.length+m.length) lim then some (l++m) else none
theorem Z5y {α:Type}{l m r:List α}(h:Z11 l m=some r):l.length+m.length≤lim∧l++m=r:=by
 unfold Z11 at h
 cases hc:Nat.ble (l.length+m.length) lim with
 | true=>rw [hc] at h;exact ⟨Nat.le_of_ble_eq_true hc,Option.some.inj h⟩
 | false=>rw [hc] at h;cases h
def Zmc {α:Type}(l:List α)(lo hi:Int):Option (List α):=bif decide (0≤lo)&&(decide (lo≤hi)&&Nat.ble hi.toNat l.length) then some ((l.take hi.toNat).drop lo.toNat) else none
theorem Ymp {α:Type}{l r:List α}{lo hi:Int}(h:Zmc l lo hi=some r):0≤lo∧lo≤hi∧hi.toNat≤l.length∧(l.take hi.toNat).drop lo.toNat=r:=by
 unfold Zmc at h
 cases hc:(decide (0≤lo)&&(decide (lo≤hi)&&Nat.ble hi.toNat l.length)) with
 | true=>
  rw [hc] at h
  simp only [Bool.and_eq_true,decide_eq_true_eq] at hc
  exact ⟨hc.1,hc.2.1,Nat.le_of_ble_eq_true hc.2.2,Option.some.inj h⟩
 | false=>rw [hc] at h;cases h
def Z5c {α:Type}(l:List α)(hi:Int):Option (List α):=bif decide (0≤hi)&&Nat.ble hi.toNat l.length then some (l.take hi.toNat) else none
theorem Zt8 {α:Type}{l r:List α}{hi:Int}(h:Z5c l hi=some r):0≤hi∧hi.toNat≤l.length∧l.take hi.toNat=r:=by
 unfold Z5c at h
 cases hc:(decide (0≤hi)&&Nat.ble hi.toNat l.length) with
 | true=>
  rw [hc] at h
  simp only [Bool.and_eq_true,decide_eq_true_eq] at hc
  exact ⟨hc.1,Nat.le_of_ble_eq_true hc.2,Option.some.inj h⟩
 | false=>rw [hc] at h;cases h
def Z3z {α:Type}(l:List α)(lo:Int):Option (List α):=bif decide (0≤lo)&&Nat.ble lo.toNat l.length then some (l.drop lo.toNat) else none
theorem Z8v {α:Type}{l r:List α}{lo:Int}(h:Z3z l lo=some r):0≤lo∧lo.toNat≤l.length∧l.drop lo.toNat=r:=by
 unfold Z3z at h
 cases hc:(decide (0≤lo)&&Nat.ble lo.toNat l.length) with
 | true=>
  rw [hc] at h
  simp only [Bool.and_eq_true,decide_eq_true_eq] at hc
  exact ⟨hc.1,Nat.le_of_ble_eq_true hc.2,Option.some.inj h⟩
 | false=>rw [hc] at h;cases h
structure Sfx {α:Type} (L:List α) (i:Nat) (l:List α):Prop where
 e:L.drop i=l
theorem Sfx.start {α:Type}(L:List α):Sfx L 0 L:=⟨rfl⟩
theorem Sfx.len {α:Type}{L l:List α}{i:Nat}(h:Sfx L i l)(hl:l≠[]):i<L.length:=by
 rcases Nat.lt_or_ge i L.length with h1 | h1
 ·exact h1
 ·exact absurd (h.e▸List.drop_of_length_le h1) hl
theorem Sfx.nil {α:Type}{L:List α}{i:Nat}(h:Sfx L i []):¬((i:Int)<(L.length:Int)):=by
 have:=List.drop_eq_nil_iff.1 h.e;omega
theorem Sfx.cons {α:Type}{L l:List α}{x:α}{i:Nat}(h:Sfx L i (x::l)):((i:Int)<(L.length:Int)):=by
 have:=h.len (by simp);omega
theorem Sfx.get {α:Type}{L l:List α}{x:α}{i:Nat}(h:Sfx L i (x::l)):L[i]? =some x:=by
 have h1:=congrArg (fun m:List α=>m[0]?) h.e
 simpa [List.getElem?_drop] using h1
theorem Sfx.lget {α:Type}{L l:List α}{x:α}{i:Nat}(h:Sfx L i (x::l)):lget L (i:Int)=some x:=by
 unfold Go.Wb.lget
 rw [decide_eq_true (by omega)]
 exact h.get
theorem Sfx.next {α:Type}{L l:List α}{x:α}{i:Nat}(h:Sfx L i (x::l)):Sfx L (i+1) l:=⟨by
 have h1:=congrArg (fun m:List α=>m.drop 1) h.e
 simpa [List.drop_drop,Nat.add_comm] using h1⟩
def Z2e (M:List (Nat×Res)):Nat→Res:=Z36 (fun _=>emp) M
def Zk4 (S:St):List (Nat×Zb)→Prop
 | []=>True
 | (t,A)::L=>S.s t=A∧Zk4 S L
def Z5q (S:St):List (Nat×Res)→Prop
 | []=>True
 | (t,A)::L=>S.r t=A∧Z5q S L
theorem Y28 {S:St}:∀{L:List (Nat×Zb)} {s:Nat→Zb},Zk4 S L→(∀t,s t=S.s t∨s t=top)→∀t,Z36 s L t=S.s t∨Z36 s L t=top
 | [],_,_,h,t=>h t
 | (d,A)::L,s,⟨h1,h2⟩,h,t=>Y28 h2 (s:=upd s d A) (fun u=>by
  by_cases e:u=d
  ·subst e;rw [Z02];exact .inl h1.symm
  ·rw [Z00 _ _ e];exact h u) t
theorem Zib {S:St}:∀{L:List (Nat×Res)} {s:Nat→Res},Z5q S L→(∀t,s t=S.r t∨s t=emp)→∀t,Z36 s L t=S.r t∨Z36 s L t=emp
 | [],_,_,h,t=>h t
 | (d,A)::L,s,⟨h1,h2⟩,h,t=>Zib h2 (s:=upd s d A) (fun u=>by
  by_cases e:u=d
  ·subst e;rw [Z02];exact .inl h1.symm
  ·rw [Z00 _ _ e];exact h u) t
structure Fit (S:St) (d:List Nat) (L:List (Nat×Zb)) (M:List (Nat×Res)):Prop where
 d:S.d=d
 s:Zk4 S L
 r:Z5q S M
section control
variable {C : Ctx} {Q : Exit → St → Prop} {S : St}
theorem AW.fit {c:Code}{d:List Nat}{L:List (Nat×Zb)}{M:List (Nat×Res)}(f:Fit S d L M)(h:AW C c Q ⟨Z3c L,Z2e M,d⟩):AW C c Q S:=
 AW.weak f.d.symm (Y28 f.s (fun _=> .inr rfl)) (Zib f.r (fun _=> .inr rfl)) h
theorem AW.cond {t:Operand}{b:Bool}{x y:Code}(hc:Val C S t (rd Z3 b))(ht:b=true→AW C x Q S)(hf:b=false→AW C y Q S):AW C (.cond t x y) Q S:=by
 rintro a w ⟨O,hh⟩
 have h1:=Zaa (hc.of hh)
 exact wpIn_cond_split h1 (fun e=>ht e a w ⟨O,hh⟩) (fun e=>hf e a w ⟨O,hh⟩)
theorem AW.join {ν:Type}(G:ν→Prop)(L:ν→List (Nat×Zb))(M:ν→List (Nat×Res)){d:List Nat}{x y:Code}(hx:AW C x (Z7k (fun S'=> ∃n,G n∧Fit S' d (L n) (M n)) Q) S)(hy:∀n,G n→AW C y Q ⟨Z3c (L n),Z2e (M n),d⟩):AW C (.seq x y) Q S:=
 AW.seq (hx.mono fun e S' h=>match e,h with
  | .normal,⟨n,h1,h2⟩=>AW.fit h2 (hy n h1)
  | .exit _,h=>h
  | .goto _,h=>h
  | .ret,h=>h
  | .panic _,h=>h
  | .outgrown,h=>h)
theorem AW.loopG {ν:Type}(G:ν→Prop)(m:ν→Nat)(L:ν→List (Nat×Zb))(M:ν→List (Nat×Res)){d:List Nat}{c:Code}(n0:ν)(h0:G n0)(f0:Fit S d (L n0) (M n0))
  (hr:∀n,G n→AW C c (Z7k (fun S'=> ∃n',m n'<m n∧G n'∧Fit S' d (L n') (M n')) Q) ⟨Z3c (L n),Z2e (M n),d⟩):AW C (.loop c) Q S:=by
 refine AW.loop (fun k S'=> ∃n,m n=k∧G n∧Fit S' d (L n) (M n)) ⟨n0,rfl,h0,f0⟩ ?_
 rintro k S' ⟨n,rfl,h1,h2⟩
 refine AW.fit h2 ((hr n h1).mono fun e S' h=>?_)
 cases e with
 | normal=>
  obtain ⟨n',h3,h4,h5⟩:=h
  exact ⟨_,h3,n',rfl,h4,h5⟩
 | _=>exact h
end control
section opers
variable {C : Ctx} {S S' : St} {o : Oper} {α β γ : Type}
def hasB (ik:IntKind)(n:Int):Bool:=decide (ik.min≤n)&&decide (n≤ik.max)
theorem Y4m {ik:IntKind}{n:Int}(h:hasB ik n=true):ik.has n:=by
 simp only [hasB,Bool.and_eq_true,decide_eq_true_eq] at h
 exact h
theorem vk {ik:IntKind}{n:Int}(h:hasB ik n=true):Val C S (.const (.int ik n)) (rd (Z0 ik) n):=vi (Y4m h)
theorem vku {n:Int}(x:BitVec 64)(h:(x.toNat:Int)=n):Val C S (.const (.int .u64 n)) (rd Zx x):=vu h
theorem Z0d {T E:TypeId}{k:Kd α}{l:List α}{i:Int}{x:α}{p q:Operand}{ik:IntKind}(ho:o.op= .indexAddr T p q)(hd:Zq o C.N=true)(ht:Sl C.P T E k)(hp:Val C S p (rd (Z1 k) l))(hq:Val C S q (rd (Z0 ik) i))(hx:lget l i=some x):
  OpE C o S (S.put o.dst (rp k x)):=by
 obtain ⟨h0,h1⟩:=Z0l hx
 obtain ⟨h2,h3⟩:=List.getElem?_eq_some_iff.1 h1
 have:=Ymk (S:=S) ho hd ht hp hq h0 h2
 rwa [h3] at this
theorem Z2o {T E:TypeId}{n:Nat}{k:Kd α}{kf:Kd β}{L:Lens k (Z4 n kf)}{g:Nat}{i:Int}{j:_root_.Fin n}{p q:Operand}{ik:IntKind}(ho:o.op= .indexAddr T p q)(hd:Zq o C.N=true)(ht:Ar C.P T E n kf)(hp:Val C S p (Za g L))(hq:Val C S q (rd (Z0 ik) i))(hj:chk n i=some j):
  OpE C o S (S.put o.dst (Za g (L.comp (Lens.idx n kf j.1 j.2)))):=by
 obtain ⟨h0,h1⟩:=Zze hj
 have h2:i.toNat<n:=by omega
 have:=Yi5 (S:=S) ho hd ht hp hq h0 h2
 have e:(⟨i.toNat,h2⟩:_root_.Fin n)=j:=_root_.Fin.ext h1
 subst e
 exact this
theorem Z69 {T E:TypeId}{n:Nat}{kf:Kd β}{x:Vector β n}{i:Int}{j:_root_.Fin n}{p q:Operand}{ik:IntKind}(ho:o.op= .indexAddr T p q)(hd:Zq o C.N=true)(ht:Ar C.P T E n kf)(hp:Val C S p (rp (Z4 n kf) x))(hq:Val C S q (rd (Z0 ik) i))(hj:chk n i=some j):
  OpE C o S (S.put o.dst (rp kf (x.get j))):=by
 obtain ⟨h0,h1⟩:=Zze hj
 have h2:i.toNat<n:=by omega
 have:=Yet (S:=S) ho hd ht hp hq h0 h2
 have e:(⟨i.toNat,h2⟩:_root_.Fin n)=j:=_root_.Fin.ext h1
 subst e
 exact this
theorem Z1w {T E:TypeId}{k:Kd α}{l:List α}{v:Value}{n:Int}{x:α}{p q:Operand}{ik:IntKind}(i:Nat)(ho:o.op= .indexAddr T p q)(hd:Zq o C.N=true)(ht:Sl C.P T E k)(hp:Val C S p (Zg v))(hr:S.r i=Zi v E k l)(hq:Val C S q (rd (Z0 ik) n))(hx:lget l n=some x):
  OpE C o S (S.put o.dst (erp v n.toNat (Lens.id k))):=by
 obtain ⟨h0,h1⟩:=Z0l hx
 exact Y9s i ho hd ht hp hr hq h0 (List.getElem?_eq_some_iff.1 h1).1
theorem Z1l {T E:TypeId}{n:Nat}{k:Kd α}{kf:Kd β}{L:Lens k kf}{l:List α}{x:α}{v:Value}{p:Operand}(i:Nat)(ho:o.op= .load T p)(hd:Zq o C.N=true)(ht:Ty C.P T kf)(hp:Val C S p (erp v n L))(hr:S.r i=Zi v E k l)(hx:l[n]? =some x):
  OpE C o S (S.put o.dst (rd kf (L.get x))):=by
 obtain ⟨h1,h2⟩:=List.getElem?_eq_some_iff.1 hx
 have:=Ygo (S:=S) i ho hd ht hp hr h1
 rwa [h2] at this
theorem Z2b {T E:TypeId}{n:Nat}{k:Kd α}{kf:Kd β}{L:Lens k kf}{l:List α}{x:α}{y:β}{v:Value}{p q:Operand}(i:Nat)(ho:o.op= .store T p q)(hd:o.dst=none)(ht:Ty C.P T kf)(hp:Val C S p (erp v n L))(hr:S.r i=Zi v E k l)(hx:l[n]? =some x)(hq:Val C S q (rd kf y)):
  OpE C o S (S.setr i (Zi v E k (l.set n (L.set x y)))):=by
 obtain ⟨h1,h2⟩:=List.getElem?_eq_some_iff.1 hx
 have:=Yod (S:=S) i ho hd ht hp hr h1 hq
 rwa [h2] at this
section ints
variable {T U : TypeId} {x y : Operand} {ik : IntKind} {m n r : Int}
theorem Zq0 {ik:IntKind}{n:Int}(h:ik.has n):ik.wrap n=n:=by
 obtain ⟨h1,h2⟩:=h
 cases ik<;>simp [IntKind.min,IntKind.max,IntKind.wrap,IntKind.signed,IntKind.bits] at* <;>omega
theorem Z0a {i:Nat}{t:Nat}(ho:o.op= .binOp .add T x y U)(hd:Zq o C.N=true)(hx:Val C S x (rd (Z0 ik) (i:Int)))(hy:Val C S y (rd (Z0 ik) 1))(hn:Val C S (.tmp t) (rd (Z0 ik) n))(hl:(i:Int)<n):OpE C o S (S.put o.dst (rd (Z0 ik) ((i+1:Nat):Int))):=
 OpE.plain (by simp [ho]) hd fun O a w hh=>by
  have h1:=Z0q (hx.of hh);have h2:=(Z0q (hy.of hh)).1
  have h3:=(Z0q (hn.of hh)).2
  have h4:ik.has ((i+1:Nat):Int):=⟨by have:=h1.2.1;omega,by have:=h3.2;omega⟩
  have e:ik.wrap ((i:Int)+1)=((i+1:Nat):Int):=by
   rw [show ((i:Int)+1)=((i+1:Nat):Int) by omega]
   exact Zq0 h4
  exact ⟨_,by simp [execOp,ho,h1.1,h2,Z2k,binOp,Op.intArith];rfl,by rw [e];exact Z35 h4⟩
theorem Z43 {i:Nat}{c:Int}(ho:o.op= .binOp .add T x y U)(hd:Zq o C.N=true)(hx:Val C S x (rd (Z0 ik) (i:Int)))(hy:Val C S y (rd (Z0 ik) 1))(hn:hasB ik c=true)(hl:(i:Int)<c):OpE C o S (S.put o.dst (rd (Z0 ik) ((i+1:Nat):Int))):=
 OpE.plain (by simp [ho]) hd fun O a w hh=>by
  have h1:=Z0q (hx.of hh);have h2:=(Z0q (hy.of hh)).1
  have h3:=Y4m hn
  have h4:ik.has ((i+1:Nat):Int):=⟨by have:=h1.2.1;omega,by have:=h3.2;omega⟩
  have e:ik.wrap ((i:Int)+1)=((i+1:Nat):Int):=by
   rw [show ((i:Int)+1)=((i+1:Nat):Int) by omega]
   exact Zq0 h4
  exact ⟨_,by simp [execOp,ho,h1.1,h2,Z2k,binOp,Op.intArith];rfl,by rw [e];exact Z35 h4⟩
theorem Y68 {m n:Int}(h:ik.has m):ik.has (m.tmod n):=by
 have h0:ik.min≤0:=by cases ik<;>decide
 have h1:0≤ik.max:=by cases ik<;>decide
 obtain ⟨h2,h3⟩:=h
 rcases Int.le_total 0 m with hm | hm
 ·have:=Int.tmod_nonneg n hm
  have h5:m.tmod n≤m:=by
   have e:=Int.tmod_add_tdiv_mul m n
   have h6:0≤(m.tdiv n)*n:=by
    rcases Int.le_total 0 n with hn | hn
    ·exact Int.mul_nonneg (Int.tdiv_nonneg hm hn) hn
    ·have:m.tdiv n≤0:=by
      have:=Int.tdiv_nonneg hm (b:= -n) (by omega)
      rw [Int.tdiv_neg] at this;omega
     have:=Int.mul_nonneg (a:= -(m.tdiv n)) (b:= -n) (by omega) (by omega)
     rwa [Int.neg_mul_neg] at this
   omega
  exact ⟨by omega,by omega⟩
 ·have e:m.tmod n= -((-m).tmod n):=by rw [Int.neg_tmod];omega
  have:=Int.tmod_nonneg n (a:= -m) (by omega)
  have h5:(-m).tmod n≤ -m:=by
   have e:=Int.tmod_add_tdiv_mul (-m) n
   have hm':0≤ -m:=by omega
   have h6:0≤((-m).tdiv n)*n:=by
    rcases Int.le_total 0 n with hn | hn
    ·exact Int.mul_nonneg (Int.tdiv_nonneg hm' hn) hn
    ·have:(-m).tdiv n≤0:=by
      have:=Int.tdiv_nonneg hm' (b:= -n) (by omega)
      rw [Int.tdiv_neg] at this;omega
     have:=Int.mul_nonneg (a:= -((-m).tdiv n)) (b:= -n) (by omega) (by omega)
     rwa [Int.neg_mul_neg] at this
   omega
  exact ⟨by omega,by omega⟩
theorem Zjh (ho:o.op= .binOp .rem T x y U)(hd:Zq o C.N=true)(hx:Val C S x (rd (Z0 ik) m))(hy:Val C S y (rd (Z0 ik) n))(h:Z9f m n=some r):OpE C o S (S.put o.dst (rd (Z0 ik) r)):=
 OpE.plain (by simp [ho]) hd fun O a w hh=>by
  obtain ⟨h0,rfl⟩:=Yn0 h
  have h1:=Z0q (hx.of hh);have h2:=(Z0q (hy.of hh)).1
  exact ⟨_,by simp [execOp,ho,h1.1,h2,Z2k,binOp,Op.intDiv,h0],Z35 (Y68 h1.2)⟩
theorem Zxj (ho:o.op= .binOp .quo T x y U)(hd:Zq o C.N=true)(hx:Val C S x (rd (Z0 ik) m))(hy:Val C S y (rd (Z0 ik) n))(h:Zek ik m n=some r):OpE C o S (S.put o.dst (rd (Z0 ik) r)):=
 OpE.plain (by simp [ho]) hd fun O a w hh=>by
  obtain ⟨h0,rfl⟩:=Yly h
  have h1:=Z0q (hx.of hh);have h2:=(Z0q (hy.of hh)).1
  exact ⟨_,by simp [execOp,ho,h1.1,h2,Z2k,binOp,Op.intDiv,h0],Z35 (Z72 _ _)⟩
theorem Yb3 {m:Int}{k:Nat}(h:ik.has m):ik.has (m.fdiv (2 ^ k)):=by
 have h0:ik.min≤0:=by cases ik<;>decide
 have h1:0≤ik.max:=by cases ik<;>decide
 obtain ⟨h2,h3⟩:=h
 have hp:(1:Int)≤2 ^ k:=by
  have:=Nat.one_le_two_pow (n:=k)
  have e:((2 ^ k:Nat):Int)=(2:Int) ^ k:=by simp
  omega
 rw [Int.fdiv_eq_ediv_of_nonneg _ (by omega)]
 rcases Int.le_total 0 m with hm | hm
 ·have:=Int.ediv_nonneg hm (b:=2 ^ k) (by omega)
  have:=Int.ediv_le_self (2 ^ k) hm
  exact ⟨by omega,by omega⟩
 ·have e1:m / 2 ^ k≤0:=by
   have:=Int.ediv_le_ediv (c:=2 ^ k) (by omega) hm
   simpa using this
  have e2:m≤m / 2 ^ k:=by
   rw [Int.le_ediv_iff_mul_le (by omega)]
   have:=Int.mul_le_mul_of_nonneg_left (c:= -m) hp (by omega)
   have e3: -m*2 ^ k= -(m*2 ^ k):=Int.neg_mul _ _
   omega
  exact ⟨by omega,by omega⟩
theorem Zz7 {jk:IntKind}(ho:o.op= .binOp .shl T x y U)(hd:Zq o C.N=true)(hx:Val C S x (rd (Z0 ik) m))(hy:Val C S y (rd (Z0 jk) n))(h:Zfw ik m n=some r):OpE C o S (S.put o.dst (rd (Z0 ik) r)):=
 OpE.plain (by simp [ho]) hd fun O a w hh=>by
  obtain ⟨h0,rfl⟩:=Y6y h
  have h1:=Z0q (hx.of hh);have h2:=(Z0q (hy.of hh)).1
  exact ⟨_,by simp [execOp,ho,h1.1,h2,Z2k,binOp,Op.shift,h0],Z35 (Z72 _ _)⟩
theorem Zlr {jk:IntKind}(ho:o.op= .binOp .shr T x y U)(hd:Zq o C.N=true)(hx:Val C S x (rd (Z0 ik) m))(hy:Val C S y (rd (Z0 jk) n))(h:Zam ik m n=some r):OpE C o S (S.put o.dst (rd (Z0 ik) r)):=
 OpE.plain (by simp [ho]) hd fun O a w hh=>by
  obtain ⟨h0,rfl⟩:=Yd3 h
  have h1:=Z0q (hx.of hh);have h2:=(Z0q (hy.of hh)).1
  exact ⟨_,by simp [execOp,ho,h1.1,h2,Z2k,binOp,Op.shift,h0],Z35 (Yb3 h1.2)⟩
def Z71 (op:BinOp)(ik:IntKind)(m n:Int):Int:=
 let a:=BitVec.ofInt ik.bits m
 let b:=BitVec.ofInt ik.bits n
 match op with
 | .and=>ik.wrap (a&&& b).toNat
 | .or=>ik.wrap (a||| b).toNat
 | .xor=>ik.wrap (a ^^^ b).toNat
 | _=>ik.wrap (a&&& ~~~b).toNat
theorem Ztk (ho:o.op= .binOp .and T x y U)(hd:Zq o C.N=true)(hx:Val C S x (rd (Z0 ik) m))(hy:Val C S y (rd (Z0 ik) n)):OpE C o S (S.put o.dst (rd (Z0 ik) (Z71 .and ik m n))):=
 OpE.plain (by simp [ho]) hd fun O a w hh=>by
  have h1:=Z0q (hx.of hh);have h2:=(Z0q (hy.of hh)).1
  exact ⟨_,by simp only [execOp,ho,h1.1,h2,binOp];simp [Z2k];rfl,Z35 (Z72 _ _)⟩
theorem Ynp (ho:o.op= .binOp .or T x y U)(hd:Zq o C.N=true)(hx:Val C S x (rd (Z0 ik) m))(hy:Val C S y (rd (Z0 ik) n)):OpE C o S (S.put o.dst (rd (Z0 ik) (Z71 .or ik m n))):=
 OpE.plain (by simp [ho]) hd fun O a w hh=>by
  have h1:=Z0q (hx.of hh);have h2:=(Z0q (hy.of hh)).1
  exact ⟨_,by simp only [execOp,ho,h1.1,h2,binOp];simp [Z2k];rfl,Z35 (Z72 _ _)⟩
theorem Y14 (ho:o.op= .binOp .andNot T x y U)(hd:Zq o C.N=true)(hx:Val C S x (rd (Z0 ik) m))(hy:Val C S y (rd (Z0 ik) n)):OpE C o S (S.put o.dst (rd (Z0 ik) (Z71 .andNot ik m n))):=
 OpE.plain (by simp [ho]) hd fun O a w hh=>by
  have h1:=Z0q (hx.of hh);have h2:=(Z0q (hy.of hh)).1
  exact ⟨_,by simp only [execOp,ho,h1.1,h2,binOp];simp [Z2k];rfl,Z35 (Z72 _ _)⟩
def Z6s (m n:Int):Int:=bif decide (n<m) then n else m
def Z4b (m n:Int):Int:=bif decide (n>m) then n else m
theorem Zmp (ho:o.op= .call {callee:= .builtin .min,args:= #[x,y],argTypes:= #[T,U]})(hd:Zq o C.N=true)(hx:Val C S x (rd (Z0 ik) m))(hy:Val C S y (rd (Z0 ik) n)):OpE C o S (S.put o.dst (rd (Z0 ik) (Z6s m n))):=
 OpE.plain (by simp [ho]) hd fun O a w hh=>by
  have h1:=Z0q (hx.of hh);have h2:=Z0q (hy.of hh)
  have e:(if n<m then n else m)=Z6s m n:=by unfold Z6s;by_cases e:n<m<;>simp [e]
  refine ⟨.int ik (Z6s m n),?_,Z35 ?_⟩
  ·simp [execOp,ho,resolve,invoke,builtin,Builtin.min_,Builtin.min2,h1.1,h2.1,e]
  ·unfold Z6s;cases decide (n<m);exact h1.2;exact h2.2
theorem Za2 (ho:o.op= .call {callee:= .builtin .max,args:= #[x,y],argTypes:= #[T,U]})(hd:Zq o C.N=true)(hx:Val C S x (rd (Z0 ik) m))(hy:Val C S y (rd (Z0 ik) n)):OpE C o S (S.put o.dst (rd (Z0 ik) (Z4b m n))):=
 OpE.plain (by simp [ho]) hd fun O a w hh=>by
  have h1:=Z0q (hx.of hh);have h2:=Z0q (hy.of hh)
  have e:(if m<n then n else m)=Z4b m n:=by unfold Z4b;by_cases e:m<n<;>simp [e]
  refine ⟨.int ik (Z4b m n),?_,Z35 ?_⟩
  ·simp [execOp,ho,resolve,invoke,builtin,Builtin.max_,Builtin.max2,h1.1,h2.1,e]
  ·unfold Z4b;cases decide (n>m);exact h1.2;exact h2.2
theorem Y2t {jk:IntKind}(ho:o.op= .convert T U x)(hd:Zq o C.N=true)(hT:(C.P.underlying T).isSome=true)(hU:C.P.underlying U=some (.int jk))(hx:Val C S x (rd (Z0 ik) m)):OpE C o S (S.put o.dst (rd (Z0 jk) (jk.wrap m))):=
 OpE.plain (by simp [ho]) hd fun O a w hh=>by
  have h1:=Z0q (hx.of hh)
  obtain ⟨d,hd'⟩:=Option.isSome_iff_exists.1 hT
  refine ⟨.int jk (jk.wrap m),?_,Z35 (Z72 _ _)⟩
  simp only [execOp,ho,h1.1,convert,Sem.run_bind,run_underlying hd',run_underlying hU,Result.andThen_ok]
  cases d<;>simp [Conv.intToInt]
end ints
section bools
variable {T U : TypeId} {x y c : Operand} {m n : Bool}
theorem Z0h {o:Oper}(ho:o.op= .pick c x (.const (.bool false)))(hd:Zq o C.N=true)(hc:Val C S c (rd Z3 m))(hx:Val C S x (gd (m==true) (rd Z3 n))):OpE C o S (S.put o.dst (rd Z3 (m&&n))):=
 OpE.plain (by simp [ho]) hd fun O a w hh=>by
  have h1:=Zaa (hc.of hh)
  cases m with
  | true=>
   refine ⟨a.eval x,by simp [execOp,ho,h1,asBool],?_⟩
   exact hx.of hh rfl
  | false=>exact ⟨a.eval (.const (.bool false)),by simp [execOp,ho,h1,asBool],Z49⟩
theorem Z1u {o:Oper}(ho:o.op= .pick c (.const (.bool true)) x)(hd:Zq o C.N=true)(hc:Val C S c (rd Z3 m))(hx:Val C S x (gd (m==false) (rd Z3 n))):OpE C o S (S.put o.dst (rd Z3 (m||n))):=
 OpE.plain (by simp [ho]) hd fun O a w hh=>by
  have h1:=Zaa (hc.of hh)
  cases m with
  | false=>
   refine ⟨a.eval x,by simp [execOp,ho,h1,asBool],?_⟩
   exact hx.of hh rfl
  | true=>exact ⟨a.eval (.const (.bool true)),by simp [execOp,ho,h1,asBool],Z49⟩
end bools
end opers
end Go.Wb
namespace Go.Wb
open Go
theorem Zc7 {P:Program}{b:Frame}{a:Act}{k:List Item}{cs:List Frame}{w:World}{c:Code}:step P (lone (b.atR a (.code (.scope c)::k)) cs w)= .next (lone (b.atR a (.code c:: .inScope c::k)) cs w):=
 step_lone_go (by simp [stepG,stepG.exec,Frame.atR])
theorem Y5f {P:Program}{b:Frame}{a:Act}{k:List Item}{cs:List Frame}{w:World}{c:Code}:step P (lone (b.atR a (.inScope c::k)) cs w)= .next (lone (b.atR a k) cs w):=
 step_lone_go (by simp [stepG,stepG.exec,Frame.atR])
def Yej (Q:Exit→St→Prop):Exit→St→Prop
 | .goto _,_=>False
 | e,S=>Q e S
theorem AW.scope {C:Ctx}{Q:Exit→St→Prop}{S:St}{c:Code}(h:AW C c (Yej Q) S):AW C (.scope c) Q S:=by
 intro a w hh b k cs hro hb hr
 have h0:(lone (b.atR a (.code (.scope c)::k)) cs w).fenced C.P C.fen:=fenced_calm hb hr rfl
 obtain ⟨e,a₁,w₁,⟨S',hq,hS'⟩,harr⟩:=h a w hh b (.inScope c::k) cs hro hb hr
 cases e with
 | normal=>exact ⟨.normal,a₁,w₁,⟨S',hq,hS'⟩,.head h0 Zc7 (StepsIn.trans harr (.one (fenced_calm hb hr rfl) Y5f))⟩
 | exit id=>
  have hx:exitTo id (.inScope c::k)=exitTo id k:=by simp [exitTo]
  exact ⟨.exit id,a₁,w₁,⟨S',hq,hS'⟩,fun k' hk=> .head h0 Zc7 (harr.1 k' (by rw [hx];exact hk)),
   fun hr' hk=>let ⟨k₁,h1,h2⟩:=harr.2 hr' (by rw [hx];exact hk);⟨k₁,h1,.head h0 Zc7 h2⟩⟩
 | goto l=>exact hq.elim
 | ret=>exact ⟨_,a₁,w₁,⟨S',hq,hS'⟩,.of_steps (.one h0 Zc7) harr⟩
 | panic ch=>exact ⟨_,a₁,w₁,⟨S',hq,hS'⟩,.of_steps (.one h0 Zc7) harr⟩
 | outgrown=>exact ⟨_,a₁,w₁,⟨S',hq,hS'⟩,.of_steps (.one h0 Zc7) harr⟩
def GF1 {α β:Type}(kx:Kd α)(ky:Kd β)(F:α→Option β):List Zb→Zb→Prop:=fun As B=> ∃x y,F x=some y∧As=[rd kx x]∧B=rd ky y
def GF2 {α β γ:Type}(kx:Kd α)(kz:Kd γ)(ky:Kd β)(F:α→γ→Option β):List Zb→Zb→Prop:=fun As B=> ∃x z y,F x z=some y∧As=[rd kx x,rd kz z]∧B=rd ky y
def fn1 {α β:Type}(P:Program)(kx:Kd α)(ky:Kd β)(F:α→Option β):Zb:=fn0 P (GF1 kx ky F)
def fn2 {α β γ:Type}(P:Program)(kx:Kd α)(kz:Kd γ)(ky:Kd β)(F:α→γ→Option β):Zb:=fn0 P (GF2 kx kz ky F)
instance {α β:Type}(P:Program)(kx:Kd α)(ky:Kd β)(F:α→Option β):Dup (fn1 P kx ky F):=⟨fun h=>h⟩
instance {α β γ:Type}(P:Program)(kx:Kd α)(kz:Kd γ)(ky:Kd β)(F:α→γ→Option β):Dup (fn2 P kx kz ky F):=⟨fun h=>h⟩
section fns
variable {C : Ctx} {S S' : St} {o : Oper} {α β γ : Type}
theorem Z30 {f:FuncId}{cs:List Operand}{CAs:List Zb}{kx:Kd α}{ky:Kd β}(F:α→Option β)(ho:o.op= .makeFunc (.func f) #[] cs.toArray)(hd:Zq o C.N=true)(he:Ent C.P f)(hc:Vals C S cs CAs)(hG:∀x y,F x=some y→PCon C.P f (rd kx x::CAs) (rd ky y)):
  OpE C o S (S.put o.dst (fn1 C.P kx ky F)):=
 Zkx (fs:=[]) (FAs:=[]) ho hd he trivial hc (by rintro _ _ ⟨x,y,h,rfl,rfl⟩;exact hG x y h)
theorem Ymf {f:FuncId}{cs:List Operand}{CAs:List Zb}{kx:Kd α}{kz:Kd γ}{ky:Kd β}(F:α→γ→Option β)(ho:o.op= .makeFunc (.func f) #[] cs.toArray)(hd:Zq o C.N=true)(he:Ent C.P f)(hc:Vals C S cs CAs)(hG:∀x z y,F x z=some y→PCon C.P f (rd kx x::rd kz z::CAs) (rd ky y)):
  OpE C o S (S.put o.dst (fn2 C.P kx kz ky F)):=
 Zkx (fs:=[]) (FAs:=[]) ho hd he trivial hc (by rintro _ _ ⟨x,z,y,h,rfl,rfl⟩;exact hG x z y h)
theorem vf1 {f:FuncId}{kx:Kd α}{ky:Kd β}{F:α→Option β}(he:Ent C.P f)(hG:∀x y,F x=some y→PCon C.P f [rd kx x] (rd ky y)):Val C S (.func f) (fn1 C.P kx ky F):=
 vfn he (by rintro _ _ ⟨x,y,h,rfl,rfl⟩;exact hG x y h)
theorem vf2 {f:FuncId}{kx:Kd α}{kz:Kd γ}{ky:Kd β}{F:α→γ→Option β}(he:Ent C.P f)(hG:∀x z y,F x z=some y→PCon C.P f [rd kx x,rd kz z] (rd ky y)):Val C S (.func f) (fn2 C.P kx kz ky F):=
 vfn he (by rintro _ _ ⟨x,z,y,h,rfl,rfl⟩;exact hG x z y h)
theorem Z2z {x p:Operand}{ts:Array TypeId}{kx:Kd α}{ky:Kd β}{F:α→Option β}{a:α}{b:β}(hF:F a=some b)(ho:o.op= .call {callee:= .value x,args:= #[p],argTypes:=ts})(hd:Zq o C.N=true)(hx:Val C S x (fn1 C.P kx ky F))(hp:Val C S p (rd kx a)):
  OpE C o S (S.put o.dst (rd ky b)):=
 Znv (xs:=[p]) ho hd hx ⟨a,b,hF,rfl,rfl⟩ ⟨hp,trivial⟩
theorem Z7w {x p q:Operand}{ts:Array TypeId}{kx:Kd α}{kz:Kd γ}{ky:Kd β}{F:α→γ→Option β}{a:α}{c:γ}{b:β}(hF:F a c=some b)(ho:o.op= .call {callee:= .value x,args:= #[p,q],argTypes:=ts})(hd:Zq o C.N=true)(hx:Val C S x (fn2 C.P kx kz ky F))(hp:Val C S p (rd kx a))(hq:Val C S q (rd kz c)):
  OpE C o S (S.put o.dst (rd ky b)):=
 Znv (xs:=[p,q]) ho hd hx ⟨a,c,b,hF,rfl,rfl⟩ ⟨hp,hq,trivial⟩
theorem Z1f {T E:TypeId}{k:Kd α}{l m r:List α}{v:Value}{p q:Operand}(i:Nat)(hl:Z11 l m=some r)(ho:o.op= .call {callee:= .builtin .append,args:= #[p,q],argTypes:= #[T,T]})(hd:Zq o C.N=true)(he:El C.P T E k)(hp:Val C S p (Zg v))(hr:S.r i=Zi v E k l)(hq:Val C S q (rd (Z1 k) m)):
  OpT C o S (fun S'=> ∃v',S'=(S.put o.dst (Zg v')).setr i (Zi v' E k r)):=by
 obtain ⟨h1,rfl⟩:=Z5y hl
 exact Yfw i ho hd he hp hr hq h1
theorem Z07 {T:TypeId}{E:TypeId}{k:Kd α}{l:List α}{p:Operand}(ho:o.op= .call {callee:= .builtin .len,args:= #[p],argTypes:= #[T]})(hd:Zq o C.N=true)(ht:Sl C.P T E k)(hp:Val C S p (rd (Z1 k) l)):
  OpE C o S (S.put o.dst (rd (Z0 .i64) (l.length:Int))):=Y4s (ts:= #[]) ho hd ht hp
theorem Z29 {fn:Func}{t i:Nat}{E:TypeId}{k:Kd α}{l:List α}{v:Value}(hf:fn.results= #[.tmp t])(hd:S.d=[])(hs:S.s t=Zg v)(hr:S.r i=Zi v E k l):RetOK C fn S (fun v=>Zg v) (fun v=>Zi v E k l):=
 ⟨hd,fun O a w hh=>by
  have h1:a.tmps.getD t undef=v:=Z56 (by have:=hh.slot t;rwa [hs] at this)
  have h2:=hh.res i
  rw [hr] at h2
  refine ⟨v,v,fun b=>O b=Ro i,?_,fun b hb=>by rw [hb];exact Z0m i,rfl,?_⟩
  ·have e:results fn a.tmps=(do let vs ←fn.results.mapM (Z6v a.tmps);pure (if h:vs.size=1 then vs[0] else .tuple vs)):=rfl
   rw [e,hf]
   simp only [Array.getD_eq_getD_getElem?] at h1
   simp [Z6v,h1]
  ·refine (Zi v E k l).mono ⟨Nat.le_refl _,fun b _ hn=>⟨?_,rfl⟩,fun b _ hb=>⟨hb,rfl⟩⟩ h2
   rintro (h | h)
   ·exact hn (.inl h)
   ·exact hn (.inr (by rw [h];exact Z0m i))⟩
theorem Hold.freezeB {a:Act}{w:World}{t i g:Nat}{T:TypeId}{k:Kd α}{x:α}(hX:C.X=Zl)(hs:S.s t=Za g (Lens.id k))(hr:S.r i=Zd g T k x)(hh:Hold C S a w):Hold C ((S.set t (rp k x)).setr i emp) a w:=by
 obtain ⟨O,hh⟩:=hh
 have h3:=hh.res i
 rw [hr] at h3
 obtain ⟨hm,cs,hg,hc⟩:=h3
 have h1:a.tmps.getD t undef= .pointer (some ⟨g,0,none⟩):=Z5x (by have:=hh.slot t;rwa [hs] at this)
 let O':Nat→Nat:=fun b=>if O b=Ro i then 0 else O b
 have hO:∀b,O' b≠0→O b≠0∧O' b=O b:=fun b h=>by
  by_cases e:O b=Ro i
  ·exact absurd (if_pos e) h
  ·exact ⟨fun e0=>h (by simp only [O'];rw [if_neg e,e0]),if_neg e⟩
 have hext:Ext w (hid C O) Zl w (hid C O') Zl:=⟨Nat.le_refl _,fun b _ hn=>⟨fun h=>hn (h.imp id fun h=>(hO b h).1),rfl⟩,fun _ _ h=>h.elim⟩
 have go:Goes C (fun q=>q=Ro i) O w O' w:=⟨rfl,rfl,rfl,Nat.le_refl _,fun b hb hq=>⟨if_neg hq,rfl⟩,fun b h=> .inl (hO b h).1,fun b h=>(hh.own b (hO b h).1).2,fun h=>Z0m i h.symm⟩
 have hmg:O g=Ro i:=hm
 refine ⟨O',hh.goes go rfl rfl rfl (fun s=>?_) (fun j=>?_)⟩
 ·by_cases e:s=t
  ·subst e
   right
   simp only [St.set,St.setr,Z02]
   rw [h1]
   refine ⟨g,0,cs,rfl,(Array.getElem?_eq_some_iff.1 hg).1,?_,k.mono hext hc,At.row hg (by simp)⟩
   rintro (h | h)
   ·have h6:=(hh.own g (by rw [hmg];exact Z0m i)).1
    rw [hX] at h6
    have h7:=hh.h0 g h
    rcases h6 with h6 | h6
    ·omega
    ·exact h6
   ·exact h (if_pos hmg)
  ·exact .inl ⟨by simp only [St.set,St.setr];exact Z00 _ _ e,Z1g s i,rfl⟩
 ·by_cases e:j=i
  ·subst e
   right
   simp only [St.setr,Z02]
   trivial
  ·exact .inl ⟨by simp only [St.setr];rw [Z00 _ _ e];rfl,fun h=>e (Z26 h)⟩
theorem AW.freezeB {Q:Exit→St→Prop}{c:Code}(t i:Nat){g:Nat}{T:TypeId}{k:Kd α}{x:α}(hX:C.X=Zl)(hs:S.s t=Za g (Lens.id k))(hr:S.r i=Zd g T k x)(h:AW C c Q ((S.set t (rp k x)).setr i emp)):AW C c Q S:=
 fun a w hh=>h a w (hh.freezeB hX hs hr)
theorem AOps.freezeB {ops:Array Oper}{Q:Exit→St→Prop}{c:List Oper}(t i:Nat){g:Nat}{T:TypeId}{k:Kd α}{x:α}(hX:C.X=Zl)(hs:S.s t=Za g (Lens.id k))(hr:S.r i=Zd g T k x)(h:AOps C ops Q c ((S.set t (rp k x)).setr i emp)):AOps C ops Q c S:=
 fun a w hh=>h a w (hh.freezeB hX hs hr)
theorem Z1k {k:Kd α}{x:α}{p:Operand}(ho:o.op= .nilCheck p)(hd:Zq o C.N=true)(hp:Val C S p (rp k x)):OpE C o S (S.put o.dst (rp k x)):=
 OpE.plain (by simp [ho]) hd fun O a w hh=>by
  have h0:=hp.of hh
  obtain ⟨b,off,cs,h1,hb,hn,hc,hat⟩:=h0
  exact ⟨_,by simp [execOp,ho,h1],b,off,cs,rfl,hb,hn,hc,hat⟩
theorem Z8l {P:Program}{w:World}{H:HS}{E:TypeId}{k:Kd α}{x:α}{cs c:List Value}{off:Nat}(ht:Ty P E k)(hc:k.C w H x c)(he:(cs.drop off).take k.sz=c):(part E cs.toArray off).run P w= .ok (mkv k.agg c) w:=by
 obtain ⟨i,d,hi,hu,ha,hs⟩:=ht.out
 have hagg:(isAgg E).run P w= .ok k.agg w:=by
  unfold isAgg
  rw [Sem.run_bind,run_underlying hu w]
  rw [←ha]
  cases d<;>simp [Zbh]
 cases hk:k.agg with
 | true=>
  have e:cs.toArray.extract off (off+k.sz)=c.toArray:=by
   apply Array.ext'
   rw [←he]
   simp
  simp only [part,Sem.run_bind,hagg,hk,sizeOf,typeInfo,run_program,Result.andThen_ok,hi,hs,mkv,if_true,Sem.run_pure,e,cond_true]
 | false=>
  have h1:c.length=1:=(k.len hc).trans (k.flat hk)
  match c,h1 with
  | [v],_=>
   have h2:cs[off]? =some v:=by
    have:=congrArg (fun l:List Value=>l[0]?) he
    simp only [List.getElem?_take,List.getElem?_drop] at this
    rw [k.flat hk] at this
    simpa using this
   simp [part,Sem.run_bind,hagg,hk,h2,mkv]
theorem Z7n {T E:TypeId}{n:Nat}{k:Kd α}{v:Vector α n}{i:Int}{x:α}{p q:Operand}{ik:IntKind}(ho:o.op= .index T p q)(hd:Zq o C.N=true)(ht:Ar C.P T E n k)(hE:Ty C.P E k)(hp:Val C S p (rd (Z4 n k) v))(hq:Val C S q (rd (Z0 ik) i))(hx:lget v.toList i=some x):
  OpE C o S (S.put o.dst (rd k x)):=
 OpE.plain (by simp [ho]) hd fun O a w hh=>by
  obtain ⟨h0,h1⟩:=Z0l hx
  obtain ⟨h2,h3⟩:=List.getElem?_eq_some_iff.1 h1
  obtain ⟨cs,hc,hv⟩:=hp.of hh
  have hi:=(Z0q (hq.of hh)).1
  obtain ⟨hu,ti,hti,hs⟩:=ht.out
  have hg:=Cells.get (k:=k) hc i.toNat h2
  rw [h3] at hg
  have hpart:=Z8l (P:=C.P) hE hg rfl
  have h4:(0:Int)≤i∧i<n:=⟨h0,by simp at h2;omega⟩
  refine ⟨_,?_,_,hg,rfl⟩
  have hv':a.eval p= .agg cs.toArray:=by simpa [mkv,Z4] using hv
  simp [execOp,ho,hv',hi,Instr.index,asIntOf,run_underlying hu,h4,sizeOf,typeInfo,hti,hs,hpart]
end fns
structure Cnt (n:Int) (i m:Nat):Prop where
 e:(n - (i:Int)).toNat=m
theorem Cnt.start (n:Int):Cnt n 0 n.toNat:=⟨by simp⟩
theorem Cnt.zero {n:Int}{i:Nat}(h:Cnt n i 0):¬((i:Int)<n):=by have:=h.e;omega
theorem Cnt.succ {n:Int}{i m:Nat}(h:Cnt n i (m+1)):(i:Int)<n:=by have:=h.e;omega
theorem Cnt.next {n:Int}{i m:Nat}(h:Cnt n i (m+1)):Cnt n (i+1) m:=⟨by have:=h.e;omega⟩
theorem Sfx.niln {α:Type}{L:List α}{i:Nat}{n:Int}(h:Sfx L i [])(e:(L.length:Int)=n):¬((i:Int)<n):=e▸h.nil
theorem Sfx.consn {α:Type}{L l:List α}{x:α}{i:Nat}{n:Int}(h:Sfx L i (x::l))(e:(L.length:Int)=n):(i:Int)<n:=e▸h.cons
def Z2p:Nat:=4294967296
section slices
variable {C : Ctx} {S : St} {o : Oper} {α : Type} {T E : TypeId} {k : Kd α} {l s : List α} {p q r : Operand} {ik jk : IntKind} {lo hi : Int}
theorem Ydq (h:Zmc l lo hi=some s)(ho:o.op= .slice T p (some q) (some r) none)(hd:Zq o C.N=true)(ht:Sl C.P T E k)(hp:Val C S p (rd (Z1 k) l))(hq:Val C S q (rd (Z0 ik) lo))(hr:Val C S r (rd (Z0 jk) hi)):OpE C o S (S.put o.dst (rd (Z1 k) s)):=by
 obtain ⟨h0,h1,h2,rfl⟩:=Ymp h
 exact Ynq ho hd ht hp hq hr h0 h1 h2
theorem Zj9 (h:Z5c l hi=some s)(ho:o.op= .slice T p none (some r) none)(hd:Zq o C.N=true)(ht:Sl C.P T E k)(hp:Val C S p (rd (Z1 k) l))(hr:Val C S r (rd (Z0 jk) hi)):OpE C o S (S.put o.dst (rd (Z1 k) s)):=by
 obtain ⟨h0,h1,rfl⟩:=Zt8 h
 exact Ylj ho hd ht hp hr h0 h1
theorem Zj1 (h:Z3z l lo=some s)(ho:o.op= .slice T p (some q) none none)(hd:Zq o C.N=true)(ht:Sl C.P T E k)(hp:Val C S p (rd (Z1 k) l))(hq:Val C S q (rd (Z0 ik) lo)):OpE C o S (S.put o.dst (rd (Z1 k) s)):=by
 obtain ⟨h0,h1,rfl⟩:=Z8v h
 exact Ygv ho hd ht hp hq h0 h1
end slices
end Go.Wb
