/- A part of the proof. -/
import Derived.Test.YtjppkmpecdbepaaGreatDoorG2
set_option linter.unusedVariables false
set_option maxHeartbeats 1000000
set_option maxRecDepth 4000
set_option linter.unusedSimpArgs false
namespace Go.Proofs.YtjppkmpecdbepaaGreatDoor.W
open Go Go.Wb
theorem e32:Ent Tryz.prog 32:=Ent.mk Tryz.func32 rfl rfl
theorem Zbk:Ent Tryz.prog 103:=Ent.mk Tryz.func103 rfl rfl
theorem Zip:Ent Tryz.prog 269:=Ent.mk Tryz.func269 rfl rfl
theorem Y6s:Ent Tryz.prog 199:=Ent.mk Tryz.func199 rfl rfl
theorem Y5d:Ent Tryz.prog 273:=Ent.mk Tryz.func273 rfl rfl
theorem Y41:Ent Tryz.prog 154:=Ent.mk Tryz.func154 rfl rfl
theorem Ym1:Ent Tryz.prog 240:=Ent.mk Tryz.func240 rfl rfl
theorem Yb2:Ent Tryz.prog 239:=Ent.mk Tryz.func239 rfl rfl
theorem Zvl:Ent Tryz.prog 202:=Ent.mk Tryz.func202 rfl rfl
def Zb9 (i1:Int):Option Wide:=
 (bif ((decide (i1<0))||(decide (i1>127))) then some (⟨0,0⟩:Wide) else (Zek .i64 i1 64).bind fun q4=>(Z9f i1 64).bind fun q5=>(Zg4 (1:BitVec 64) q5).bind fun q6=>(chk 2 q4).bind fun j7=>some (⟨(Vector.get (Vector.set (Vector.replicate 2 0) j7.1 q6 j7.2) (⟨1,by decide⟩:_root_.Fin 2)),(Vector.get (Vector.set (Vector.replicate 2 0) j7.1 q6 j7.2) (⟨0,by decide⟩:_root_.Fin 2))⟩:Wide))
theorem Zi4:Q1 Tryz.prog 269 (rd (Z0 .i64)) (rd Zw) Zb9:=fun i1 r h=>I0 Tryz.func269 rfl Tryz.ntmps269 rfl fun w H Z=>by
 unfold Zb9 at h
 refine SR<|Cv rfl (Zo 3 rfl rfl Z39) fun g2=>Nl<|SR<|Cv rfl (Zo 4 rfl rfl Ykr) fun g3=>Nl<|sq<|SR<|Md rfl<|Ac (Zh rfl rfl (vt rfl) (vk rfl)) rfl<|Md rfl<|Gd rfl (fun hq=>Zk (A:=rd (Z0 .i64) i1) rfl rfl (vt rfl))<|Gd rfl (fun hq=>Z1s rfl rfl (Z8 rfl hq) (vk rfl))<|Ac (Z1u rfl rfl (vt rfl) (vt rfl)) rfl<|Nl<|Cq rfl h (fun h=>?_) (fun h=>?_)
 ·refine SR<|Ac (opb (⟨0,0⟩:Wide) Z39 rfl Z5z (pn rfl)) rfl<|Ze Z06 3 rfl<|Nl<|rt ?_
  cases h;exact Z9 Tryz.results269 rfl (Zv rfl (i:=3) rfl Z06)
 ·refine sk<|sq ?_
  obtain ⟨q4,hq4,q5,hq5,q6,hq6,j7,hj7,h⟩:=bs4 h
  refine Rg<|Md rfl<|Ac (Zxj rfl rfl (vt rfl) (vk rfl) hq4) rfl<|Md rfl<|Ac (Zjh rfl rfl (vt rfl) (vk rfl) hq5) rfl<|Ac (Zxx rfl rfl (vku (1:BitVec 64) rfl) (vt rfl) hq6) rfl<|Ac (Z2o rfl rfl Zsd (vt rfl) (vt rfl) hj7) rfl<|Ze Z1q 4 rfl<|Nl<|SR<|Ac (Z2o rfl rfl Zsd (vt rfl) (vk rfl) rfl) rfl<|Ld Z1q 4 rfl<|Ac (Z2o rfl rfl Zsd (vt rfl) (vk rfl) rfl) rfl<|Ld Z1q 4 rfl<|Ac (opb (⟨(Vector.get (Vector.set (Vector.replicate 2 0) j7.1 q6 j7.2) (⟨1,by decide⟩:_root_.Fin 2)),(Vector.get (Vector.set (Vector.replicate 2 0) j7.1 q6 j7.2) (⟨0,by decide⟩:_root_.Fin 2))⟩:Wide) Z39 rfl Z5z (pc Zct (vt rfl)<|pc Z7y (vt rfl)<|pn rfl)) rfl<|Ze Z06 3 rfl<|Nl<|rt ?_
  cases h;exact Z9 Tryz.results269 rfl (Zv rfl (i:=3) rfl Z06)
def Zrr (a1:Action):Option Zs:=
 (Zfi).bind fun x4=>(bif (decide (a1.Kind=25)) then (Zm3 a1.Oxm).bind fun x6=>(Z8h x4 a1.Oxm.Field x6.Value x6.Mask).bind fun x8=>some x8 else (bif (decide (a1.Kind=17)) then (Zb9 12).bind fun x9=>(Zb9 12).bind fun x10=>(Z8h x4 5 x9 x10).bind fun x11=>some x11 else (bif (decide (a1.Kind=18)) then (Za6 13).bind fun x12=>(Z8h x4 5 (⟨0,0⟩:Wide) x12).bind fun x13=>(Za6 3).bind fun x14=>(Z8h x13 6 (⟨0,0⟩:Wide) x14).bind fun x15=>some x15 else some x4)))
theorem Yf9:Q1 Tryz.prog 273 (rd Zj) (rd (Z4 24 Z7)) Zrr:=fun a1 r h=>I0 Tryz.func273 rfl Tryz.ntmps273 rfl fun w H Z=>by
 unfold Zrr at h
 refine SR<|Cv rfl (Zm 2 rfl rfl (vt rfl)) fun g2=>Cv rfl (Zo 3 rfl rfl Z60) fun g3=>Nl<|sq ?_
 obtain ⟨x4,hx4,h⟩:=Z6 h
 refine Rg<|Cl [] (Zqd _ hx4) e32 rfl<|Cv rfl (Zo 4 rfl rfl Z60) fun g5=>Ze Z0s 4 rfl<|Nl<|sq<|SR<|Zf lAction_0 Z57 rfl<|Ld Zc 2 rfl<|Nl<|bk<|SR<|Ac (Zy rfl rfl (vt rfl) (vk rfl)) rfl<|As rfl<|Nl<|Cq rfl h (fun h=>?_) (fun h=>?_)
 ·refine sq ?_
  obtain ⟨x6,hx6,h⟩:=Z6 h
  refine Rg<|Zf Z6g Z6r rfl<|Ld Z3m 2 rfl<|Cl [11] (Y48 _ _ hx6) Y1j rfl<|Cv rfl (Zo 5 rfl rfl Z2l) fun g7=>Ze Z0j 5 rfl<|Nl ?_
  obtain ⟨x8,hx8,h⟩:=Z6 h
  refine Rg<|Ld Z0s 4 rfl<|Zf Z6g Z6r rfl<|Zf lOxm_0 Z45 rfl<|Ld Zc 2 rfl<|Zf lTern_0 Z42 rfl<|Ld Z06 5 rfl<|Zf lTern_1 Z3q rfl<|Ld Z06 5 rfl<|Cl [13,16,18,20] (Zat _ _ _ _ _ hx8) Zbk rfl<|Ze Z0s 4 rfl<|Nl<|SR<|Ld Z0s 4 rfl<|Ze Z0s 3 rfl<|Nl<|rt ?_
  cases h;exact Z9 Tryz.results273 rfl (Zv rfl (i:=3) rfl Z0s)
 ·refine SR<|Ac (Zy rfl rfl (vt rfl) (vk rfl)) rfl<|As rfl<|Nl<|Cq rfl h (fun h=>?_) (fun h=>?_)
  ·obtain ⟨x9,hx9,x10,hx10,x11,hx11,h⟩:=bs3 h
   refine AR Z03 (by kernel_rfl)<|Zu Z0s 4 rfl<|Sd (lo [] [] rfl fun S hs hr=>Zz (xs:=[.const (Value.int IntKind.i64 12)]) (Zi4 _ _ hx9) Zip rfl rfl ⟨vk rfl,trivial⟩)<|Sd (lo [] [] rfl fun S hs hr=>Zz (xs:=[.const (Value.int IntKind.i64 12)]) (Zi4 _ _ hx10) Zip rfl rfl ⟨vk rfl,trivial⟩)<|Sd (lo [24,25,26] [] rfl fun S hs hr=>Zz (xs:=[.tmp 24,.const (Value.int IntKind.i64 5),.tmp 25,.tmp 26]) (Zat _ _ _ _ _ hx11) Zbk rfl rfl ⟨vt ((hs 24 rfl).trans rfl),vk rfl,vt ((hs 25 rfl).trans rfl),vt ((hs 26 rfl).trans rfl),trivial⟩)<|SSt Z0s 4 rfl<|Sn<|SR<|Ld Z0s 4 rfl<|Ze Z0s 3 rfl<|Nl<|rt ?_
   cases h;exact Z9 Tryz.results273 rfl (Zv rfl (i:=3) rfl Z0s)
  ·refine SR<|Ac (Zy rfl rfl (vt rfl) (vk rfl)) rfl<|As rfl<|Nl<|Cq rfl h (fun h=>?_) (fun h=>?_)
   ·refine sq ?_
    obtain ⟨x12,hx12,x13,hx13,h⟩:=bs2 h
    refine AR Z03 (by kernel_rfl)<|Zu Z0s 4 rfl<|Sd (lo [] [] rfl fun S hs hr=>opb (⟨0,0⟩:Wide) Z39 rfl Z5z (pn rfl))<|Sd (lo [] [] rfl fun S hs hr=>Zz (xs:=[.const (Value.int IntKind.i64 13)]) (Zem _ _ hx12) Zew rfl rfl ⟨vk rfl,trivial⟩)<|Sd (lo [30,31,32] [] rfl fun S hs hr=>Zz (xs:=[.tmp 30,.const (Value.int IntKind.i64 5),.tmp 31,.tmp 32]) (Zat _ _ _ _ _ hx13) Zbk rfl rfl ⟨vt ((hs 30 rfl).trans rfl),vk rfl,vt ((hs 31 rfl).trans rfl),vt ((hs 32 rfl).trans rfl),trivial⟩)<|SSt Z0s 4 rfl<|Sn ?_
    obtain ⟨x14,hx14,x15,hx15,h⟩:=bs2 h
    refine AR Z03 (by kernel_rfl)<|Zu Z0s 4 rfl<|Sd (lo [] [] rfl fun S hs hr=>opb (⟨0,0⟩:Wide) Z39 rfl Z5z (pn rfl))<|Sd (lo [] [] rfl fun S hs hr=>Zz (xs:=[.const (Value.int IntKind.i64 3)]) (Zem _ _ hx14) Zew rfl rfl ⟨vk rfl,trivial⟩)<|Sd (lo [34,35,36] [] rfl fun S hs hr=>Zz (xs:=[.tmp 34,.const (Value.int IntKind.i64 6),.tmp 35,.tmp 36]) (Zat _ _ _ _ _ hx15) Zbk rfl rfl ⟨vt ((hs 34 rfl).trans rfl),vk rfl,vt ((hs 35 rfl).trans rfl),vt ((hs 36 rfl).trans rfl),trivial⟩)<|SSt Z0s 4 rfl<|Sn<|SR<|Ld Z0s 4 rfl<|Ze Z0s 3 rfl<|Nl<|rt ?_
    cases h;exact Z9 Tryz.results273 rfl (Zv rfl (i:=3) rfl Z0s)
   ·refine sk<|SR<|Ld Z0s 4 rfl<|Ze Z0s 3 rfl<|Nl<|rt ?_
    cases h;exact Z9 Tryz.results273 rfl (Zv rfl (i:=3) rfl Z0s)
def Zj6 (i1:Int)(x2:Zs)(x3:Zs):Option Tern:=
 (chk 24 i1).bind fun j5=>(chk 24 i1).bind fun j6=>(Zkg (Vector.get x2 j5) (Vector.get x3 j6)).bind fun x7=>some x7
theorem Yov:Q3 Tryz.prog 199 (rd (Z0 .i64)) (rp (Z4 24 Z7)) (rp (Z4 24 Z7)) (rd Z7) Zj6:=fun i1 x2 x3 r h=>I0 Tryz.func199 rfl Tryz.ntmps199 rfl fun w H Z=>by
 unfold Zj6 at h
 refine SR<|Cv rfl (Zo 5 rfl rfl Z2l) fun g4=>Nl<|sq ?_
 obtain ⟨j5,hj5,j6,hj6,x7,hx7,h⟩:=bs3 h
 refine AR Z03 (by kernel_rfl)<|SMd rfl<|Sd (lo [1,5] [] rfl fun S hs hr=>Z69 rfl rfl Z8n (vh hs 1 rfl rfl) (vh hs 5 rfl rfl) hj5)<|SLp Z0j rfl<|SMd rfl<|Sd (lo [2,8] [] rfl fun S hs hr=>Z69 rfl rfl Z8n (vh hs 2 rfl rfl) (vh hs 8 rfl rfl) hj6)<|SLp Z0j rfl<|SCl [7,10] (Zx2 _ _ _ hx7) Y39 rfl<|SSt Z0j 5 rfl<|Sn<|rt ?_
 cases h;exact Z9 Tryz.results199 rfl (Zv rfl (i:=5) rfl Z0j)
def Zld (a1:Zs)(b2:Zs):Option Zs:=
 (Zhx (fun x=>Zj6 x a1 b2)).bind fun x6=>some x6
theorem Zxr:Q2 Tryz.prog 154 (rd (Z4 24 Z7)) (rd (Z4 24 Z7)) (rd (Z4 24 Z7)) Zld:=fun a1 b2 r h=>I0 Tryz.func154 rfl Tryz.ntmps154 rfl fun w H Z=>by
 unfold Zld at h
 refine SR<|Cv rfl (Zm 3 rfl rfl (vt rfl)) fun g3=>Cv rfl (Zm 4 rfl rfl (vt rfl)) fun g4=>Cv rfl (Zo 5 rfl rfl Z60) fun g5=>Nl<|sq<|AW.freezeB 2 3 rfl rfl rfl<|AW.freezeB 3 4 rfl rfl rfl ?_
 obtain ⟨x6,hx6,h⟩:=Z6 h
 refine Rg<|Ac (Z30 (cs:=[.tmp 2,.tmp 3]) (CAs:=[rp (Z4 24 Z7) a1,rp (Z4 24 Z7) b2]) (fun x=>Zj6 x a1 b2) rfl rfl Y6s ⟨vt rfl,vt rfl,trivial⟩ (fun x y h=>Yov _ _ _ y h)) rfl<|Cl [5] (Y0c _ _ hx6) Zx4 rfl<|Ze Z0s 5 rfl<|Nl<|rt ?_
 cases h;exact Z9 Tryz.results154 rfl (Zv rfl (i:=5) rfl Z0s)
def Zey (t1:Z53)(b7:Atom):Option Z53:=
 (Z11 t1.atoms [b7]).bind fun l8=>some (⟨t1.got,l8⟩:Z53)
def Ziz (t1:Z53)(a4:Action):Option Z53:=
 (bif (decide (a4.Kind=0)) then (bif (decide (a4.Port=4294967293)) then Zey t1 {{(⟨t1.got,false,0,0⟩:Atom) with Port:=a4.Port} with Max:=a4.Max} else Zey t1 {(⟨t1.got,false,0,0⟩:Atom) with Port:=a4.Port}) else (bif (decide (a4.Kind=22)) then Zey t1 {{(⟨t1.got,false,0,0⟩:Atom) with Group:=true} with Port:=a4.Group} else (Zrr a4).bind fun x10=>(Zld t1.got x10).bind fun x11=>some (⟨x11,t1.atoms⟩:Z53)))
theorem Y67 (g2 gT:Nat)(t1:Z53)(a4:Action)(r:Z53)(h:Ziz t1 a4=some r):Con Tryz.prog 240 [Za g2 (Lens.id Z4p),rd Zj a4] (Z1c g2 gT Z4p (fun v=>(⟨t1.got,v⟩:atom_trace_o1)) 206 Z0p t1.atoms) (fun _:Unit=>top) (fun _=>Z1c g2 gT Z4p (fun v=>(⟨r.got,v⟩:atom_trace_o1)) 206 Z0p r.atoms):=by
 refine Con.intro Tryz.func240 rfl Tryz.ntmps240 rfl fun w H X Z=>?_
 unfold Ziz at h
 refine AW.unboxF 0 2001 (by decide) rfl rfl fun v3=>SR<|Cv rfl (Zm 4 rfl rfl (vt rfl)) fun g5=>Nl<|SR<|Mp rfl<|Nc rfl<|Zf latom_trace_o1_0 Zl0 rfl<|Ld Z0s 0 rfl<|Ac (opb (⟨t1.got,false,0,0⟩:Atom) Z9p rfl Y88 (pc Ylv (vt rfl)<|pn rfl)) rfl<|Cv rfl (Zo 5 rfl rfl Z9p) fun g6=>Ze Zad 5 rfl<|Nl ?_
 refine JN (d:=[]) (ν:=Atom) (fun b7=>(Zey t1 b7=some r,[(0,Za g2 (Lens.id Z4p)),(4,Za g6 (Lens.id Z0p))],[(0,Zd g2 gT Z4p (⟨t1.got,v3⟩:atom_trace_o1)),(5,Zd g6 206 Z0p b7),(2001,Zi v3 206 Z0p t1.atoms)])) ?hx1 ?hy1
 case hy1=>
  intro b7 h
  dsimp only at h ⊢
  unfold Zey at h
  obtain ⟨l8,hl8,h⟩:=Z6 h
  refine AW.endT<|AR Z03 (by kernel_rfl)<|SMp rfl<|SMp rfl<|SNc rfl<|SFd Zf4 Zv1 rfl<|Sd (lo [42] [0] rfl fun S hs hr=>Z3n v3 rfl rfl Zq6 (vh hs 42 rfl rfl) (i:=0) ((hr 0 rfl).trans rfl) rfl)<|Zu Zad 5 rfl<|Sd (lo [44] [] rfl fun S hs hr=>osl Z67 Z9p rfl (vh hs 44 rfl rfl))<|Sd (Z18 (us:=[(46,Z1y 206 Z0p l8)]) (ur:=[(2001,emp)]) [43,45] [2001] rfl fun S hs hr=>Zbr 2001 hl8 rfl rfl rfl Zcp (vh hs 43 rfl rfl) ((hr 2001 rfl).trans rfl) (vh hs 45 rfl rfl))<|SNc rfl<|SFd Zf4 Zv1 rfl<|Sd (Z18 (us:=[(46,top)]) (ur:=[(0,Z1c g2 gT Z4p (fun v=>((Lens.comp (Lens.id Z4p) Zf4)).set (⟨t1.got,v3⟩:atom_trace_o1) v) 206 Z0p l8)]) [48,46] [0] rfl fun S hs hr=>Zkb rfl rfl Zq6 (vh hs 48 rfl rfl) ((hr 0 rfl).trans rfl) ((hs 46 rfl).trans rfl))<|Sn<|EndT.unboxF 0 2001 (by decide) rfl rfl fun v9=>EndT.done ?_
  cases h;exact RetOK.turn (Turn.packF 0 2001 (fun v=>(⟨t1.got,v⟩:atom_trace_o1)) (by decide) rfl rfl) (Z21 (i:=0) Tryz.results240 rfl rfl)
 case hx1=>
  refine SR<|Zf lAction_0 Z57 rfl<|Ld Zc 4 rfl<|Nl<|bk<|SR<|Ac (Zy rfl rfl (vt rfl) (vk rfl)) rfl<|As rfl<|Nl<|Cq rfl h (fun h=>?_) (fun h=>?_)
  ·refine SR<|Zf lAction_1 Z8k rfl<|Ld Zc 4 rfl<|Zf Zcf Zeo rfl<|Ze Zc 5 rfl<|Nl<|SR<|Zf lAction_1 Z8k rfl<|Ld Zc 4 rfl<|Ac (Zy rfl rfl (vt rfl) (vk rfl)) rfl<|Nl<|Cq rfl h (fun h=>?_) (fun h=>?_)
   ·refine Rg<|Zf Z81 Zao rfl<|Ld Zc 4 rfl<|Zf Zt5 Zx1 rfl<|Ze Zc 5 rfl<|Nl ?_
    exact ⟨_,h,FX rfl⟩
   ·refine sk ?_
    exact ⟨_,h,FX rfl⟩
  ·refine SR<|Ac (Zy rfl rfl (vt rfl) (vk rfl)) rfl<|As rfl<|Nl<|Cq rfl h (fun h=>?_) (fun h=>?_)
   ·refine AR Z03 (by kernel_rfl)<|SFd lAction_3 Z9e rfl<|Zu Zc 4 rfl<|SFd Ztu Y27 rfl<|Sd (Z3d [37] [5] rfl fun S hs hr=>Z3s rfl rfl ty4 (vh hs 37 rfl rfl) (i:=5) ((hr 5 rfl).trans rfl) vb)<|SFd Zcf Zeo rfl<|SSt Zc 5 rfl<|Sn ?_
    exact ⟨_,h,FX rfl⟩
   ·refine sq ?_
    obtain ⟨x10,hx10,x11,hx11,h⟩:=bs2 h
    refine AR Z03 (by kernel_rfl)<|SMp rfl<|SMp rfl<|SNc rfl<|SFd latom_trace_o1_0 Zl0 rfl<|Zu Z0s 0 rfl<|Zu Z0v 4 rfl<|SCl [17] (Yf9 _ _ hx10) Y5d rfl<|SCl [16,18] (Zxr _ _ _ hx11) Y41 rfl<|SNc rfl<|SFd latom_trace_o1_0 Zl0 rfl<|SSt Z0s 0 rfl<|Sn<|rt ?_
    cases h;exact RetOK.turn (Turn.packF 0 2001 (fun v=>(⟨x11,v⟩:atom_trace_o1)) (by decide) rfl rfl) (Z21 (i:=0) Tryz.results240 rfl rfl)
def Zhm (sg:Type)(d2:(sg→Action→Option sg)):(List Action)→Nat→sg→Option sg
 | [],i6,s5=>some s5
 | x8::l7,i6,s5=>(d2 s5 x8).bind fun s10=>(Zhm sg d2 l7) (i6+1) s10
def Zrh (l1:(List Action))(sg:Type)(d2:(sg→Action→Option sg))(s3:sg):Option sg:=
 Zhm sg d2 l1 0 s3
theorem Y4w (l1:(List Action))(sg:Type)(d2:(sg→Action→Option sg))(L:sg→Res)(s3:sg)(r:sg)(h:Zrh l1 sg d2 s3=some r):Con Tryz.prog 239 [rd (Z1 Zj) l1,stA Tryz.prog Zj d2 L] (L s3) (fun _:Unit=>top) (fun _=>L r):=by
 refine Con.intro Tryz.func239 rfl Tryz.ntmps239 rfl fun w H X Z=>?_
 unfold Zrh at h
 refine SR<|Md rfl<|Ac (Z07 rfl rfl Z17 (vt rfl)) rfl<|Mk rfl<|Nl<|bk<|LG (d:=[]) (ν:=(List Action)×Nat×sg) (fun (l7,i6,s5)=>(Sfx l1 i6 l7∧Zhm sg d2 l7 i6 s5=some r,l7.length,[(1,stA Tryz.prog Zj d2 L),(6,rd (Z1 Zj) l1),(7,rd (Z0 .i64) (l1.length:Int)),(8,rd (Z0 .i64) (i6:Int))],[(0,L s5)])) (l1,0,s3) ⟨Sfx.start _,h⟩ (FX rfl) ?_
 rintro ⟨l7,i6,s5⟩ ⟨hsf1,h⟩
 dsimp only at hsf1 h ⊢
 cases l7 with
 | nil=>
  unfold Zhm at h
  refine SR<|Ac (Zh rfl rfl (vt rfl) (vt rfl)) rfl<|Nl<|sq<|Cn rfl (fun hc=>absurd (of_decide_eq_true hc) hsf1.nil) (fun hc=>?_)
  refine xt ?_
  cases h;exact Z21 (i:=0) Tryz.results239 rfl rfl
 | cons x8 l7=>
  unfold Zhm at h
  refine SR<|Ac (Zh rfl rfl (vt rfl) (vt rfl)) rfl<|Nl<|sq<|Cn rfl (fun hc=>?_) (fun hc=>absurd hsf1.cons (of_decide_eq_false hc))
  have hlti6:=of_decide_eq_true hc
  refine sk<|sq<|bk<|SR<|Ac (Z0d rfl rfl Z17 (vt rfl) (vt rfl) hsf1.lget) rfl<|Lp1 Z0v rfl<|Cv rfl (Zo 6 rfl rfl Z48) fun g9=>Ze Z0v 6 rfl<|Nl ?_
  obtain ⟨s10,hs10,h⟩:=Z6 h
  refine Rg<|Ac (Zk (A:=stA Tryz.prog Zj d2 L) rfl rfl (vt rfl)) rfl<|Ld Z0v 6 rfl<|Ac (Yp1 0 hs10 rfl rfl (vt rfl) (vt rfl) rfl) rfl<|Nl<|Rg<|Ac (Z0a (t:=7) rfl rfl (vt rfl) (vk rfl) (vt rfl) hlti6) rfl<|Md rfl<|Nl ?_
  exact ⟨(_,_,_),Nat.lt_succ_self _,⟨hsf1.next,h⟩,FX rfl⟩
def Zhz (a1:(List Action))(x2:Zs):Option ((List Atom)×Zs):=
 (Zhc x2).bind fun x5=>(Zrh a1 Z53 (fun s x=>Ziz s x) (⟨x5,[]⟩:Z53)).bind fun b7=>some (b7.atoms,b7.got)
theorem Zyx:Q2 Tryz.prog 202 (rd (Z1 Zj)) (rd (Z4 24 Z7)) (fun r=>Z0t (rd (Z1 Z0p) r.1) (rd (Z4 24 Z7) r.2)) Zhz:=fun a1 x2 r h=>I0 Tryz.func202 rfl Tryz.ntmps202 rfl fun w H Z=>by
 unfold Zhz at h
 refine SR<|Cv rfl (Zm 4 rfl rfl (vt rfl)) fun g3=>Ac (Zn (A:=rd (Z1 Z0p) []) rfl rfl Z04) rfl<|Cv rfl (Zo 6 rfl rfl Z60) fun g4=>Nl<|sq<|AW.newnil 2221 206 Z0p ?_
 obtain ⟨x5,hx5,h⟩:=Z6 h
 refine Rg<|Ld Z0s 4 rfl<|Cl [7] (Ztr _ _ hx5) Zuj rfl<|Ac (opb (⟨x5,(.slice none 0 0)⟩:atom_trace_o1) Yds rfl Y66 (pc Ydv (vt rfl)<|pn rfl)) rfl<|Cv rfl (Zm 11 rfl rfl (vt rfl)) fun g6=>Ac (Zn (A:=Za g6 (Lens.id Z4p)) rfl rfl (vt rfl)) rfl<|Nl<|sq ?_
 obtain ⟨b7,hb7,h⟩:=Z6 h
 refine Rg<|Md rfl<|Mp rfl<|Ac (Yft (fs:=[.tmp 12]) (cs:=[]) (FAs:=[Za g6 (Lens.id Z4p)]) (CAs:=[]) (k:=Zj) (fun s x=>Ziz s x) (fun (s:Z53)=>Z1c g6 387 Z4p (fun v=>(⟨s.got,v⟩:atom_trace_o1)) 206 Z0p s.atoms) rfl rfl Ym1 ⟨vt rfl,trivial⟩ trivial (fun s x s2 h=>Y67 _ _ s x s2 h)) rfl<|AOps.packF 11 2221 (fun v=>(⟨x5,v⟩:atom_trace_o1)) (by decide) rfl rfl<|Cv rfl (Z0y 11 (xs:=[.tmp 11,.tmp 13]) (Y4w _ Z53 _ (fun (s:Z53)=>Z1c g6 387 Z4p (fun v=>(⟨s.got,v⟩:atom_trace_o1)) 206 Z0p s.atoms) _ _ hb7) Yb2 rfl rfl ⟨vt rfl,vt rfl,trivial⟩ rfl) fun _u=>AOps.unboxF 11 2221 (by decide) rfl rfl fun v8=>Nl<|sq<|AR Z03 (by kernel_rfl)<|SMp rfl<|SNc rfl<|SFd Zf4 Zv1 rfl<|Sd (lo [17] [11] rfl fun S hs hr=>Z3n v8 rfl rfl Zq6 (vh hs 17 rfl rfl) (i:=11) ((hr 11 rfl).trans rfl) rfl)<|SMp rfl<|SNc rfl<|SFd latom_trace_o1_0 Zl0 rfl<|Zu Z0s 11 rfl<|Sd (lo [18] [] rfl fun S hs hr=>Zn (A:=Zg v8) rfl rfl (vh hs 18 rfl rfl))<|SSt Z0s 6 rfl<|Sn<|AW.freezes [4,18] 2221 rfl ⟨rfl,rfl,trivial⟩ rfl<|rt ?_
 cases h;exact Z0c Tryz.results202 rfl (Z5 rfl) (Zv rfl (i:=6) rfl Z0s)
def Zi7 (w1:walk_way)(l2:(List Action)):Option walk_way:=
 (Zhz l2 w1.got).bind fun x5=>(Z5c w1.atoms (w1.atoms.length:Int)).bind fun s7=>(Z11 s7 x5.1).bind fun l8=>some {{w1 with atoms:=l8} with got:=x5.2}
theorem Zvj:Q2 Tryz.prog 267 (rd Z1o) (rd (Z1 Zj)) (rd Z1o) Zi7:=fun w1 l2 r h=>I0 Tryz.func267 rfl Tryz.ntmps267 rfl fun w H Z=>by
 unfold Zi7 at h
 refine SR<|Cv rfl (Zm 3 rfl rfl (vt rfl)) fun g3=>Cv rfl (Zo 5 rfl rfl Zaz) fun g4=>Nl<|sq ?_
 obtain ⟨x5,hx5,h⟩:=Z6 h
 refine Rg<|Md rfl<|Zf lwalk_way_1 Zd6 rfl<|Ld Z0s 3 rfl<|Cl [8,10] (Zyx _ _ _ hx5) Zvl rfl<|Mt2 rfl<|Ac (Z10 rfl rfl (vt rfl)) rfl<|Ac (Z0z rfl rfl (vt rfl)) rfl<|Cv rfl (Zo 7 rfl rfl Z60) fun g6=>As rfl<|Ze Z0s 7 rfl<|Nl<|sq ?_
 obtain ⟨s7,hs7,l8,hl8,h⟩:=bs2 h
 refine AR Z03 (by kernel_rfl)<|SFd Zcy Zfd rfl<|Zu Z82 3 rfl<|SFd Zcy Zfd rfl<|Zu Z82 3 rfl<|Sd (lo [17] [] rfl fun S hs hr=>Z07 rfl rfl Z67 (vh hs 17 rfl rfl))<|SFd Zcy Zfd rfl<|Zu Z82 3 rfl<|Sd (lo [20] [] rfl fun S hs hr=>Z07 rfl rfl Z67 (vh hs 20 rfl rfl))<|Sd (lo [15,18,21] [] rfl fun S hs hr=>Zw8 hs7 rfl rfl Z67 (vh hs 15 rfl rfl) (vh hs 18 rfl rfl) (vh hs 21 rfl rfl))<|SMd rfl<|Sd (lo [22,23] [] rfl fun S hs hr=>Yba hl8 rfl rfl Zcp (vh hs 22 rfl rfl) (vh hs 23 rfl rfl))<|Zu Z0s 7 rfl<|SFd Zcy Zfd rfl<|SSt Z82 3 rfl<|SFd lwalk_way_1 Zd6 rfl<|SSt Z0s 3 rfl<|Sn<|SR<|Ld Z37 3 rfl<|Ze Z37 5 rfl<|Nl<|rt ?_
 cases h;exact Z9 Tryz.results267 rfl (Zv rfl (i:=5) rfl Z37)
def Zcv (a1:Action):Option aset_spot:=
 (bif (decide (a1.Kind=25)) then some (⟨a1.Kind,a1.Oxm.Field⟩:aset_spot) else some (⟨a1.Kind,0⟩:aset_spot))
theorem Zke:Q1 Tryz.prog 248 (rd Zj) (rd Z5l) Zcv:=fun a1 r h=>I0 Tryz.func248 rfl Tryz.ntmps248 rfl fun w H Z=>by
 unfold Zcv at h
 refine SR<|Cv rfl (Zm 2 rfl rfl (vt rfl)) fun g2=>Cv rfl (Zo 3 rfl rfl Zec) fun g3=>Nl<|sq<|SR<|Zf lAction_0 Z57 rfl<|Ld Zc 2 rfl<|Ac (Zy rfl rfl (vt rfl) (vk rfl)) rfl<|Nl<|Cq rfl h (fun h=>?_) (fun h=>?_)
 ·refine SR<|Zf lAction_0 Z57 rfl<|Ld Zc 2 rfl<|Zf Z6g Z6r rfl<|Zf lOxm_0 Z45 rfl<|Ld Zc 2 rfl<|Ac (opb (⟨a1.Kind,a1.Oxm.Field⟩:aset_spot) Zec rfl Y3d (pc Y0p (vt rfl)<|pc Yg9 (vt rfl)<|pn rfl)) rfl<|Ze Zax 3 rfl<|Nl<|rt ?_
  cases h;exact Z9 Tryz.results248 rfl (Zv rfl (i:=3) rfl Zax)
 ·refine sk<|SR<|Zf lAction_0 Z57 rfl<|Ld Zc 2 rfl<|Ac (opb (⟨a1.Kind,0⟩:aset_spot) Zec rfl Y3d (pc Y0p (vt rfl)<|pn rfl)) rfl<|Ze Zax 3 rfl<|Nl<|rt ?_
  cases h;exact Z9 Tryz.results248 rfl (Zv rfl (i:=3) rfl Zax)
end Go.Proofs.YtjppkmpecdbepaaGreatDoor.W
set_option maxHeartbeats 1000000
set_option maxRecDepth 4000
namespace Go.Proofs.YtjppkmpecdbepaaGreatDoor.W
open Go Go.Wb
theorem Znk:Ent Tryz.prog 248:=Ent.mk Tryz.func248 rfl rfl
theorem Yn8:Ent Tryz.prog 250:=Ent.mk Tryz.func250 rfl rfl
theorem Zuh:Ent Tryz.prog 249:=Ent.mk Tryz.func249 rfl rfl
theorem Zvf:Ent Tryz.prog 245:=Ent.mk Tryz.func245 rfl rfl
def Zlq (b1:Action)(x2:Action):Option Bool:=
 (Zcv x2).bind fun x4=>(Zcv b1).bind fun x5=>some (decide (x4=x5))
theorem Yi1:Q2 Tryz.prog 250 (rd Zj) (rp Zj) (rd Z3) Zlq:=fun b1 x2 r h=>I0 Tryz.func250 rfl Tryz.ntmps250 rfl fun w H Z=>by
 unfold Zlq at h
 refine SR<|Cv rfl (Zm 3 rfl rfl (vt rfl)) fun g3=>Ab rfl<|Nl<|sq ?_
 obtain ⟨x4,hx4,x5,hx5,h⟩:=bs2 h
 refine AR Z03 (by kernel_rfl)<|SLp Z0v rfl<|SCl [4] (Zke _ _ hx4) Znk rfl<|Zu Z0v 3 rfl<|SCl [6] (Zke _ _ hx5) Znk rfl<|Sd (lo [5,7] [] rfl fun S hs hr=>Z98 rfl rfl Yna (by decide) rfl Yhp (vh hs 5 rfl rfl) (vh hs 7 rfl rfl))<|SAs rfl<|Sn<|rt ?_
 cases h;exact Z9 Tryz.results250 rfl (Z5 rfl)
def Zdf (s1:(List Action))(x2:(Action→Option Bool)):Nat→Nat→Option Int
 | 0,i3=>some (-1)
 | m4+1,i3=>(lget s1 (i3:Int)).bind fun x5=>(x2 x5).bind fun x6=>(bif x6 then some (i3:Int) else (Zdf s1 x2 m4) (i3+1))
def Zdl (s1:(List Action))(x2:(Action→Option Bool)):Option Int:=
 Zdf s1 x2 ((s1.length:Int):Int).toNat 0
theorem Zre:Q2 Tryz.prog 249 (rd (Z1 Zj)) (fn1 Tryz.prog Zj Z3) (rd (Z0 .i64)) Zdl:=fun s1 x2 r h=>I0 Tryz.func249 rfl Tryz.ntmps249 rfl fun w H Z=>by
 unfold Zdl at h
 refine SR<|Ak rfl<|Nl<|sq<|SR<|Md rfl<|Ac (Z07 rfl rfl Z17 (vt rfl)) rfl<|Mk rfl<|Nl<|bk<|LG (d:=[]) (ν:=Nat×Nat) (fun (m4,i3)=>(Cnt (s1.length:Int) i3 m4∧Zdf s1 x2 m4 i3=some r,m4,[(0,rd (Z1 Zj) s1),(1,fn1 Tryz.prog Zj Z3 x2),(7,rd (Z0 .i64) (s1.length:Int)),(8,rd (Z0 .i64) (i3:Int))],[])) (((s1.length:Int):Int).toNat,0) ⟨Cnt.start _,h⟩ (FX rfl) ?_
 rintro ⟨m4,i3⟩ ⟨hsf1,h⟩
 dsimp only at hsf1 h ⊢
 cases m4 with
 | zero=>
  unfold Zdf at h
  refine SR<|Ac (Zh rfl rfl (vt rfl) (vt rfl)) rfl<|Nl<|sq<|Cn rfl (fun hc=>absurd (of_decide_eq_true hc) hsf1.zero) (fun hc=>?_)
  refine xt<|SR<|Ak rfl<|Nl<|rt ?_
  cases h;exact Z9 Tryz.results249 rfl (Z5 rfl)
 | succ m4=>
  unfold Zdf at h
  refine SR<|Ac (Zh rfl rfl (vt rfl) (vt rfl)) rfl<|Nl<|sq<|Cn rfl (fun hc=>?_) (fun hc=>absurd hsf1.succ (of_decide_eq_false hc))
  have hlti3:=of_decide_eq_true hc
  refine sk<|sq<|bk<|SR<|Md rfl<|As rfl<|Nl<|sq ?_
  obtain ⟨x5,hx5,x6,hx6,h⟩:=bs2 h
  refine Rg<|Ac (Zk (A:=fn1 Tryz.prog Zj Z3 x2) rfl rfl (vt rfl)) rfl<|Md rfl<|Md rfl<|Ac (Z0d rfl rfl Z17 (vt rfl) (vt rfl) hx5) rfl<|Lp1 Z0v rfl<|Ac (Z2z hx6 rfl rfl (vt rfl) (vt rfl)) rfl<|Nl<|Cq rfl h (fun h=>?_) (fun h=>?_)
  ·refine SR<|Md rfl<|As rfl<|Nl<|rt ?_
   cases h;exact Z9 Tryz.results249 rfl (Z5 rfl)
  ·refine sk<|Rg<|Ac (Z0a (t:=7) rfl rfl (vt rfl) (vk rfl) (vt rfl) hlti3) rfl<|Md rfl<|Nl ?_
   exact ⟨(_,_),Nat.lt_succ_self _,⟨hsf1.next,h⟩,FX rfl⟩
def Zd0:(List Action)→Nat→(List Action)→Option (List Action)
 | [],i9,l7=>some l7
 | x11::l10,i9,l7=>(Zdl l7 (fun x=>Zlq x x11)).bind fun x13=>(bif (decide (x13<0)) then (Z11 l7 [x11]).bind fun l14=>(Zd0 l10) (i9+1) l14 else (lget l7 x13).bind fun x16=>(Zd0 l10) (i9+1) (List.set l7 x13.toNat x11))
def Zj3 (s1:(List Action))(l2:(List Action)):Option (List Action):=
 (Z8z s1).bind fun x3=>Zd0 l2 0 x3
theorem Y4b:Q2 Tryz.prog 204 (rd (Z1 Zj)) (rd (Z1 Zj)) (rd (Z1 Zj)) Zj3:=fun s1 l2 r h=>I0 Tryz.func204 rfl Tryz.ntmps204 rfl fun w H Z=>by
 unfold Zj3 at h
 refine SR<|Ac (Zn (A:=rd (Z1 Zj) []) rfl rfl Z04) rfl<|Nl<|sq ?_
 obtain ⟨x3,hx3,h⟩:=Z6 h
 refine Rg<|Md rfl<|Cv rfl (Z0y 1001 (xs:=[.tmp 9]) (Zrg _ _ hx3) Zfo rfl rfl ⟨vt rfl,trivial⟩ rfl) fun v4=>Aw rfl<|Nl<|sq<|SR<|Md rfl<|Ac (Z07 rfl rfl Z17 (vt rfl)) rfl<|Mk rfl<|Nl<|bk<|LG (d:=[]) (ν:=(List Action)×Nat×(List Action)×Value) (fun (l10,i9,l7,v8)=>(Sfx l2 i9 l10∧Zd0 l10 i9 l7=some r,l10.length,[(5,Zg v8),(11,rd (Z1 Zj) l2),(12,rd (Z0 .i64) (l2.length:Int)),(13,rd (Z0 .i64) (i9:Int))],[(1001,Zi v8 109 Zj l7)])) (l2,0,x3,v4) ⟨Sfx.start _,h⟩ (FX rfl) ?_
 rintro ⟨l10,i9,l7,v8⟩ ⟨hsf1,h⟩
 dsimp only at hsf1 h ⊢
 cases l10 with
 | nil=>
  unfold Zd0 at h
  refine SR<|Ac (Zh rfl rfl (vt rfl) (vt rfl)) rfl<|Nl<|sq<|Cn rfl (fun hc=>absurd (of_decide_eq_true hc) hsf1.nil) (fun hc=>?_)
  refine xt<|SR<|Mw rfl<|Aw rfl<|Nl<|AW.freezes [4,5,31] 1001 rfl ⟨rfl,rfl,rfl,trivial⟩ rfl<|rt ?_
  cases h;exact Z9 Tryz.results204 rfl (Z5 rfl)
 | cons x11 l10=>
  unfold Zd0 at h
  refine SR<|Ac (Zh rfl rfl (vt rfl) (vt rfl)) rfl<|Nl<|sq<|Cn rfl (fun hc=>?_) (fun hc=>absurd hsf1.cons (of_decide_eq_false hc))
  have hlti9:=of_decide_eq_true hc
  refine sk<|sq<|bk<|SR<|Ac (Z0d rfl rfl Z17 (vt rfl) (vt rfl) hsf1.lget) rfl<|Lp1 Z0v rfl<|Cv rfl (Zo 8 rfl rfl Z48) fun g12=>Ze Z0v 8 rfl<|Nl<|sq<|AW.freezeB 7 8 rfl rfl rfl ?_
  obtain ⟨x13,hx13,h⟩:=Z6 h
  refine Rg<|Mw rfl<|Ac (Z30 (cs:=[.tmp 7]) (CAs:=[rp Zj x11]) (fun x=>Zlq x x11) rfl rfl Yn8 ⟨vt rfl,trivial⟩ (fun x y h=>Yi1 _ _ y h)) rfl<|Ac (Z9v (xs:=[.tmp 17,.tmp 18]) 1001 (Zre _ _ _ hx13) Zuh rfl rfl ⟨vL rfl rfl,vB (vt rfl),trivial⟩) rfl<|As rfl<|Nl<|SR<|Md rfl<|Ac (Zh rfl rfl (vt rfl) (vk rfl)) rfl<|Nl<|Cq rfl h (fun h=>?_) (fun h=>?_)
  ·obtain ⟨l14,hl14,h⟩:=Z6 h
   refine Rg<|Mw rfl<|Lp1 Z0v rfl<|Ac (osl Z17 Z48 rfl (vt rfl)) rfl<|Cv rfl (Z1f 1001 hl14 rfl rfl Zz0 (vt rfl) rfl (vt rfl)) fun v15=>Aw rfl<|Nl<|Rg<|Ac (Z0a (t:=12) rfl rfl (vt rfl) (vk rfl) (vt rfl) hlti9) rfl<|Md rfl<|Nl ?_
   exact ⟨(_,_,_,_),Nat.lt_succ_self _,⟨hsf1.next,h⟩,FX rfl⟩
  ·obtain ⟨x16,hx16,h⟩:=Z6 h
   refine Rg<|Mw rfl<|Md rfl<|Lp1 Z0v rfl<|Ac (Z1w 1001 rfl rfl Z17 (vt rfl) rfl (vt rfl) hx16) rfl<|Ac (Z2b 1001 rfl rfl Z0v (vt rfl) rfl (Z0l hx16).2 (vt rfl)) rfl<|Nl<|Rg<|Ac (Z0a (t:=12) rfl rfl (vt rfl) (vk rfl) (vt rfl) hlti9) rfl<|Md rfl<|Nl ?_
   exact ⟨(_,_,_,_),Nat.lt_succ_self _,⟨hsf1.next,h⟩,FX rfl⟩
def Zom (s1:(List Action))(x2:(Action→Option Bool)):Option Bool:=
 (Zdl s1 x2).bind fun x3=>some (decide (x3≥0))
theorem Yg4:Q2 Tryz.prog 241 (rd (Z1 Zj)) (fn1 Tryz.prog Zj Z3) (rd Z3) Zom:=fun s1 x2 r h=>I0 Tryz.func241 rfl Tryz.ntmps241 rfl fun w H Z=>by
 unfold Zom at h
 refine SR<|Ab rfl<|Nl<|sq ?_
 obtain ⟨x3,hx3,h⟩:=Z6 h
 refine Rg<|Md rfl<|Ac (Zk (A:=fn1 Tryz.prog Zj Z3 x2) rfl rfl (vt rfl)) rfl<|Cl [5,6] (Zre _ _ _ hx3) Zuh rfl<|Ac (Z1z rfl rfl (vt rfl) (vk rfl)) rfl<|As rfl<|Nl<|rt ?_
 cases h;exact Z9 Tryz.results241 rfl (Z5 rfl)
def Zoo (a1:Action):Option Bool:=
 some (decide (a1.Kind=22))
theorem Ync:Q1 Tryz.prog 242 (rd Zj) (rd Z3) Zoo:=fun a1 r h=>I0 Tryz.func242 rfl Tryz.ntmps242 rfl fun w H Z=>by
 unfold Zoo at h
 refine SR<|Cv rfl (Zm 2 rfl rfl (vt rfl)) fun g2=>Ab rfl<|Nl<|SR<|Zf lAction_0 Z57 rfl<|Ld Zc 2 rfl<|Ac (Zy rfl rfl (vt rfl) (vk rfl)) rfl<|As rfl<|Nl<|rt ?_
 cases h;exact Z9 Tryz.results242 rfl (Z5 rfl)
def Zei (k1:Int):Option Int:=
 (Zk2 [18,17,25,22,0] k1).bind fun x2=>some x2
theorem Zo9:Q1 Tryz.prog 245 (rd (Z0 .i64)) (rd (Z0 .i64)) Zei:=fun k1 r h=>I0 Tryz.func245 rfl Tryz.ntmps245 rfl fun w H Z=>by
 unfold Zei at h
 refine SR<|Ak rfl<|Nl<|sq ?_
 obtain ⟨x2,hx2,h⟩:=Z6 h
 refine Rg<|Ac (Z4x (ps:=[(0,.const (Value.int IntKind.i64 18)),(1,.const (Value.int IntKind.i64 17)),(2,.const (Value.int IntKind.i64 25)),(3,.const (Value.int IntKind.i64 22)),(4,.const (Value.int IntKind.i64 0))]) (l:=[18,17,25,22,0]) rfl rfl Z15 zr3 rfl rfl ⟨_,_,Lens.idx 5 (Z0 .i64) 0 (by decide),_,rfl,vk rfl,_,_,Lens.idx 5 (Z0 .i64) 1 (by decide),_,rfl,vk rfl,_,_,Lens.idx 5 (Z0 .i64) 2 (by decide),_,rfl,vk rfl,_,_,Lens.idx 5 (Z0 .i64) 3 (by decide),_,rfl,vk rfl,_,_,Lens.idx 5 (Z0 .i64) 4 (by decide),_,rfl,vk rfl,rfl⟩ rfl) rfl<|Md rfl<|Cl [3,4] (Y4a _ _ _ hx2) Y2e rfl<|As rfl<|Nl<|rt ?_
 cases h;exact Z9 Tryz.results245 rfl (Z5 rfl)
def Zji (a1:Action)(x2:Bool):Option Bool:=
 (Zei a1.Kind).bind fun x4=>some ((decide (x4<0))||(x2&&(decide (a1.Kind=0))))
theorem Ykz:Q2 Tryz.prog 244 (rd Zj) (rp Z3) (rd Z3) Zji:=fun a1 x2 r h=>I0 Tryz.func244 rfl Tryz.ntmps244 rfl fun w H Z=>by
 unfold Zji at h
 refine SR<|Cv rfl (Zm 3 rfl rfl (vt rfl)) fun g3=>Ab rfl<|Nl<|sq ?_
 obtain ⟨x4,hx4,h⟩:=Z6 h
 refine Rg<|Zf lAction_0 Z57 rfl<|Ld Zc 3 rfl<|Cl [5] (Zo9 _ _ hx4) Zvf rfl<|Ac (Zh rfl rfl (vt rfl) (vk rfl)) rfl<|Md rfl<|Gd rfl (fun hq=>Z4i rfl rfl ty4 (vt rfl))<|AOps.consG (OpG.guardX rfl rfl rfl rfl rfl fun hq=>Zk (A:=rd Z3 x2) rfl rfl (Z8 rfl hq))<|AOps.consG (OpG.guardN rfl rfl rfl rfl rfl fun hq=>Z0i lAction_0 rfl rfl Z57 (vt rfl))<|AOps.consG (OpG.guardN rfl rfl rfl rfl rfl fun hq=>Z08 rfl rfl Zc (Z8 rfl hq) (i:=3) rfl)<|AOps.consG (OpG.guardN rfl rfl rfl rfl rfl fun hq=>Zy rfl rfl (Z8 rfl hq) (vk rfl))<|Gd rfl (fun hq=>Z0h rfl rfl (vgx rfl hq) (vgw rfl hq))<|Ac (Z1u rfl rfl (vt rfl) (vt rfl)) rfl<|As rfl<|Nl<|rt ?_
 cases h;exact Z9 Tryz.results244 rfl (Z5 rfl)
def Zgb (d3:(Action→Option Bool)):Nat→(List Action)→Int→Int→Option (List Action)
 | 0,_,_,_=>none
 | m11+1,l8,i9,j10=>(bif (decide (j10<(l8.length:Int))) then (lget l8 j10).bind fun x12=>(d3 x12).bind fun x14=>(bif (!x14) then (lget l8 i9).bind fun x15=>(Zgb d3 m11) (List.set l8 i9.toNat x12) (IntKind.i64.wrap (i9+1)) (IntKind.i64.wrap (j10+1)) else (Zgb d3 m11) l8 i9 (IntKind.i64.wrap (j10+1))) else (Z3z l8 i9).bind fun s16=>(Z5c (List.take i9.toNat l8++List.replicate (l8.length - i9.toNat) Zrq) i9).bind fun s17=>some s17)
def Zr7 (s1:(List Action))(d3:(Action→Option Bool)):Option (List Action):=
 (Zdl s1 d3).bind fun x4=>(bif (decide (x4=(-1))) then some s1 else Zgb d3 ((((s1.length:Int):Int) - (IntKind.i64.wrap (x4+1))).toNat+1) s1 x4 (IntKind.i64.wrap (x4+1)))
theorem Yez (v2:Value)(s1:(List Action))(d3:(Action→Option Bool))(r:(List Action))(h:Zr7 s1 d3=some r):Con Tryz.prog 243 [Zg v2,fn1 Tryz.prog Zj Z3 d3] (Zi v2 109 Zj s1) (fun v=>Zg v) (fun v=>Zi v 109 Zj r):=by
 refine Con.intro Tryz.func243 rfl Tryz.ntmps243 rfl fun w H X Z=>?_
 unfold Zr7 at h
 refine sq<|AW.newnil 1001 109 Zj<|Rg<|Ac (Zn rfl rfl vc) rfl<|Nl<|sq ?_
 obtain ⟨x4,hx4,h⟩:=Z6 h
 refine Rg<|Mw rfl<|Ac (Zk (A:=fn1 Tryz.prog Zj Z3 d3) rfl rfl (vt rfl)) rfl<|Ac (Z9v (xs:=[.tmp 8,.tmp 9]) 0 (Zre _ _ _ hx4) Zuh rfl rfl ⟨vL rfl rfl,vB (vt rfl),trivial⟩) rfl<|As rfl<|Nl<|sq<|SR<|Md rfl<|Ac (Zy rfl rfl (vt rfl) (vk rfl)) rfl<|Nl<|Cq rfl h (fun h=>?_) (fun h=>?_)
 ·refine SR<|Mw rfl<|Aw rfl<|Nl<|rt ?_
  cases h;exact Z29 (i:=0) Tryz.results243 rfl rfl rfl
 ·refine sk<|sq<|SR<|Md rfl<|Ac (Z0o rfl rfl (vt rfl) (vk rfl)) rfl<|As rfl<|Nl<|bk<|LG (d:=[]) (ν:=Nat×(List Action)×Int×Int) (fun (m11,l8,i9,j10)=>(True∧Zgb d3 m11 l8 i9 j10=some r,m11,[(0,Zg v2),(1,fn1 Tryz.prog Zj Z3 d3),(5,rd (Z0 .i64) i9),(6,rd (Z0 .i64) j10)],[(0,Zi v2 109 Zj l8)])) (((((s1.length:Int):Int) - (IntKind.i64.wrap (x4+1))).toNat+1),s1,x4,(IntKind.i64.wrap (x4+1))) ⟨trivial,h⟩ (FX rfl) ?_
  rintro ⟨m11,l8,i9,j10⟩ ⟨hsf1,h⟩
  dsimp only at h ⊢
  cases m11 with
  | zero=>cases h
  | succ m11=>
   unfold Zgb at h
   refine sq<|SR<|Md rfl<|Mw rfl<|Ac (Z2v 0 rfl rfl Z17 (vt rfl) rfl) rfl<|Ac (Zh rfl rfl (vt rfl) (vt rfl)) rfl<|Nl<|Cq rfl h (fun h=>?_) (fun h=>?_)
   ·refine sk<|sq<|bk<|sq ?_
    obtain ⟨x12,hx12,h⟩:=Z6 h
    refine Rg<|Mw rfl<|Md rfl<|Ac (Z1w 0 rfl rfl Z17 (vt rfl) rfl (vt rfl) hx12) rfl<|Ac (Z1l 0 rfl rfl Z0v (vt rfl) rfl (Z0l hx12).2) rfl<|Cv rfl (Zo 8 rfl rfl Z48) fun g13=>Ze Z0v 8 rfl<|Nl<|sq ?_
    obtain ⟨x14,hx14,h⟩:=Z6 h
    refine Rg<|Ac (Zk (A:=fn1 Tryz.prog Zj Z3 d3) rfl rfl (vt rfl)) rfl<|Ld Z0v 8 rfl<|Ac (Z2z hx14 rfl rfl (vt rfl) (vt rfl)) rfl<|Ac (Z0g rfl rfl (vt rfl)) rfl<|Nl<|Cq rfl h (fun h=>?_) (fun h=>?_)
    ·refine sq ?_
     obtain ⟨x15,hx15,h⟩:=Z6 h
     refine Rg<|Mw rfl<|Md rfl<|Ld Z0v 8 rfl<|Ac (Z1w 0 rfl rfl Z17 (vt rfl) rfl (vt rfl) hx15) rfl<|Ac (Z2b 0 rfl rfl Z0v (vt rfl) rfl (Z0l hx15).2 (vt rfl)) rfl<|Nl<|Rg<|Md rfl<|Ac (Z0o rfl rfl (vt rfl) (vk rfl)) rfl<|As rfl<|Nl<|Rg<|Md rfl<|Ac (Z0o rfl rfl (vt rfl) (vk rfl)) rfl<|As rfl<|Nl ?_
     exact ⟨(_,_,_,_),Nat.lt_succ_self _,⟨trivial,h⟩,FX rfl⟩
    ·refine sk<|Rg<|Md rfl<|Ac (Z0o rfl rfl (vt rfl) (vk rfl)) rfl<|As rfl<|Nl ?_
     exact ⟨(_,_,_,_),Nat.lt_succ_self _,⟨trivial,h⟩,FX rfl⟩
   ·refine xt<|sq ?_
    obtain ⟨s16,hs16,h⟩:=Z6 h
    refine Rg<|Mw rfl<|Md rfl<|Ac (Zn3 0 hs16 rfl rfl Z17 (vt rfl) rfl (vt rfl)) rfl<|Ac (Zxy 0 rfl rfl Z17 Z48 rfl (vt rfl) rfl (Z8v hs16).2.1) rfl<|Nl<|sq ?_
    obtain ⟨s17,hs17,h⟩:=Z6 h
    refine Rg<|Mw rfl<|Md rfl<|Cv rfl (Y1l 0 hs17 rfl rfl Z17 (vt rfl) rfl (vt rfl)) fun v18=>Aw rfl<|Nl<|rt ?_
    cases h;exact Z29 (i:=0) Tryz.results243 rfl rfl rfl
def Zlc (a3:Int)(x5:(Action→Action→Option Int))(go1:(List Action)→Int→Option (List Action))(i9:Int):Nat→(List Action)→Int→Option (List Action)
 | 0,_,_=>none
 | m15+1,l13,j14=>(opt (decide (j14>a3)) (lget l13 j14)).bind fun x16=>(opt (decide (j14>a3)) (lget l13 (IntKind.i64.wrap (j14 - 1)))).bind fun x17=>(opt (decide (j14>a3)) (x5 x16 x17)).bind fun x18=>(bif ((decide (j14>a3))&&(decide (x18<0))) then (lget l13 (IntKind.i64.wrap (j14 - 1))).bind fun x19=>(lget l13 j14).bind fun x20=>(lget l13 j14).bind fun x21=>(lget (List.set l13 j14.toNat x19) (IntKind.i64.wrap (j14 - 1))).bind fun x22=>(Zlc a3 x5 go1 i9 m15) (List.set (List.set l13 j14.toNat x19) (IntKind.i64.wrap (j14 - 1)).toNat x20) (IntKind.i64.wrap (j14 - 1)) else go1 l13 (IntKind.i64.wrap (i9+1)))
def Zg1 (b4:Int)(a3:Int)(x5:(Action→Action→Option Int)):Nat→(List Action)→Int→Option (List Action)
 | 0,_,_=>none
 | m10+1,l8,i9=>(bif (decide (i9<b4)) then Zlc a3 x5 (Zg1 b4 a3 x5 m10) i9 Z2p l8 i9 else some l8)
def Zjf (d1:(List Action))(a3:Int)(b4:Int)(x5:(Action→Action→Option Int)):Option (List Action):=
 Zg1 b4 a3 x5 (((b4:Int) - (IntKind.i64.wrap (a3+1))).toNat+1) d1 (IntKind.i64.wrap (a3+1))
theorem Y49 (v2:Value)(d1:(List Action))(a3:Int)(b4:Int)(x5:(Action→Action→Option Int))(r:(List Action))(h:Zjf d1 a3 b4 x5=some r):Con Tryz.prog 291 [Zg v2,rd (Z0 .i64) a3,rd (Z0 .i64) b4,fn2 Tryz.prog Zj Zj (Z0 .i64) x5] (Zi v2 109 Zj d1) (fun _:Unit=>top) (fun _=>Zi v2 109 Zj r):=by
 refine Con.intro Tryz.func291 rfl Tryz.ntmps291 rfl fun w H X Z=>?_
 unfold Zjf at h
 refine SR<|Md rfl<|Ac (Z0o rfl rfl (vt rfl) (vk rfl)) rfl<|As rfl<|Nl<|bk<|LG (d:=[]) (ν:=Nat×(List Action)×Int) (fun (m10,l8,i9)=>(True∧Zg1 b4 a3 x5 m10 l8 i9=some r,m10,[(0,Zg v2),(1,rd (Z0 .i64) a3),(2,rd (Z0 .i64) b4),(3,fn2 Tryz.prog Zj Zj (Z0 .i64) x5),(8,rd (Z0 .i64) i9)],[(0,Zi v2 109 Zj l8)])) ((((b4:Int) - (IntKind.i64.wrap (a3+1))).toNat+1),d1,(IntKind.i64.wrap (a3+1))) ⟨trivial,h⟩ (FX rfl) ?_
 rintro ⟨m10,l8,i9⟩ ⟨hsf1,h⟩
 dsimp only at h ⊢
 cases m10 with
 | zero=>cases h
 | succ m10=>
  unfold Zg1 at h
  refine sq<|SR<|Md rfl<|Md rfl<|Ac (Zh rfl rfl (vt rfl) (vt rfl)) rfl<|Nl<|Cq rfl h (fun h=>?_) (fun h=>?_)
  ·refine sk<|sq<|bk<|SR<|Md rfl<|As rfl<|Nl<|bk<|LG (d:=[]) (ν:=Nat×(List Action)×Int) (fun (m15,l13,j14)=>(True∧Zlc a3 x5 (Zg1 b4 a3 x5 m10) i9 m15 l13 j14=some r,m15,[(0,Zg v2),(1,rd (Z0 .i64) a3),(2,rd (Z0 .i64) b4),(3,fn2 Tryz.prog Zj Zj (Z0 .i64) x5),(8,rd (Z0 .i64) i9),(9,rd (Z0 .i64) j14)],[(0,Zi v2 109 Zj l13)])) (Z2p,l8,i9) ⟨trivial,h⟩ (FX rfl) ?_
   rintro ⟨m15,l13,j14⟩ ⟨hsf2,h⟩
   dsimp only at h ⊢
   cases m15 with
   | zero=>cases h
   | succ m15=>
    unfold Zlc at h
    refine sq<|sq ?_
    obtain ⟨x16,hx16,x17,hx17,x18,hx18,h⟩:=bs3 h
    refine AR Z03 (by kernel_rfl)<|SMd rfl<|SMd rfl<|Sd (lo [18,19] [] rfl fun S hs hr=>Z1s rfl rfl (vh hs 18 rfl rfl) (vh hs 19 rfl rfl))<|SMd rfl<|Sd (lg [3,21] [] rfl fun hq S hs hr=>Zk (A:=fn2 Tryz.prog Zj Zj (Z0 .i64) x5) rfl rfl (vh hs 3 rfl rfl))<|Sd (lg [0,21] [] rfl fun hq S hs hr=>Zk (A:=Zg v2) rfl rfl (vh hs 0 rfl rfl))<|Sd (lg [9,21] [] rfl fun hq S hs hr=>Zk (A:=rd (Z0 .i64) j14) rfl rfl (vh hs 9 rfl rfl))<|Sd (lg [23,24,21] [0] rfl fun hq S hs hr=>Z1w 0 rfl rfl Z17 (Z8 ((hs 23 rfl).trans rfl) hq) ((hr 0 rfl).trans rfl) (Z8 ((hs 24 rfl).trans rfl) hq) (Z1p hx16 hq))<|Sd (lg [25,21] [0] rfl fun hq S hs hr=>Z1l 0 rfl rfl Z0v (Z8 ((hs 25 rfl).trans rfl) hq) ((hr 0 rfl).trans rfl) (Z0l (Z1p hx16 hq)).2)<|Sd (lg [0,21] [] rfl fun hq S hs hr=>Zk (A:=Zg v2) rfl rfl (vh hs 0 rfl rfl))<|Sd (lg [9,21] [] rfl fun hq S hs hr=>Zk (A:=rd (Z0 .i64) j14) rfl rfl (vh hs 9 rfl rfl))<|Sd (lg [28,21] [] rfl fun hq S hs hr=>Z14 rfl rfl (Z8 ((hs 28 rfl).trans rfl) hq) (vk rfl))<|Sd (lg [27,29,21] [0] rfl fun hq S hs hr=>Z1w 0 rfl rfl Z17 (Z8 ((hs 27 rfl).trans rfl) hq) ((hr 0 rfl).trans rfl) (Z8 ((hs 29 rfl).trans rfl) hq) (Z1p hx17 hq))<|Sd (lg [30,21] [0] rfl fun hq S hs hr=>Z1l 0 rfl rfl Z0v (Z8 ((hs 30 rfl).trans rfl) hq) ((hr 0 rfl).trans rfl) (Z0l (Z1p hx17 hq)).2)<|Sd (lg [22,26,31,21] [] rfl fun hq S hs hr=>Z7w (Z1p hx18 hq) rfl rfl (Z8 ((hs 22 rfl).trans rfl) hq) (Z8 ((hs 26 rfl).trans rfl) hq) (Z8 ((hs 31 rfl).trans rfl) hq))<|Sd (lg [32,21] [] rfl fun hq S hs hr=>Zh rfl rfl (Z8 ((hs 32 rfl).trans rfl) hq) (vk rfl))<|Sd (lo [33,21] [] rfl fun S hs hr=>Z0h rfl rfl (vh hs 21 rfl rfl) (vh hs 33 rfl rfl))<|Sn<|Cq rfl h (fun h=>?_) (fun h=>?_)
    ·refine sk<|sq<|bk<|AW.vlen 0 rfl fun hvl0_266=>?_
     obtain ⟨x19,hx19,x20,hx20,x21,hx21,x22,hx22,h⟩:=bs4 h
     refine AR Z03 (by kernel_rfl)<|SMw rfl<|SMd rfl<|SMw rfl<|SMd rfl<|Sd (lo [40] [] rfl fun S hs hr=>Z14 rfl rfl (vh hs 40 rfl rfl) (vk rfl))<|SMw rfl<|SMd rfl<|Sd (lo [43] [] rfl fun S hs hr=>Z14 rfl rfl (vh hs 43 rfl rfl) (vk rfl))<|Sd (lo [42,44] [] rfl fun S hs hr=>Z24 (l:=l13) hvl0_266 rfl rfl rfl Z17 (vh hs 42 rfl rfl) (vh hs 44 rfl rfl) hx19)<|Sd (lo [45] [0] rfl fun S hs hr=>Z1l 0 rfl rfl Z0v (vh hs 45 rfl rfl) ((hr 0 rfl).trans rfl) (Z0l hx19).2)<|SMw rfl<|SMd rfl<|Sd (lo [47,48] [] rfl fun S hs hr=>Z24 (l:=l13) hvl0_266 rfl rfl rfl Z17 (vh hs 47 rfl rfl) (vh hs 48 rfl rfl) hx20)<|Sd (lo [49] [0] rfl fun S hs hr=>Z1l 0 rfl rfl Z0v (vh hs 49 rfl rfl) ((hr 0 rfl).trans rfl) (Z0l hx20).2)<|Sd (lo [37,38] [] rfl fun S hs hr=>Z24 (l:=l13) hvl0_266 rfl rfl rfl Z17 (vh hs 37 rfl rfl) (vh hs 38 rfl rfl) hx21)<|Sd (Z3d [51,46] [0] rfl fun S hs hr=>Z2b 0 rfl rfl Z0v (vh hs 51 rfl rfl) ((hr 0 rfl).trans rfl) (Z0l hx21).2 (vh hs 46 rfl rfl))<|Sd (lo [39,41] [] rfl fun S hs hr=>Z24 (l:=(List.set l13 j14.toNat x19)) hvl0_266 (by simp) rfl rfl Z17 (vh hs 39 rfl rfl) (vh hs 41 rfl rfl) hx22)<|Sd (Z3d [52,50] [0] rfl fun S hs hr=>Z2b 0 rfl rfl Z0v (vh hs 52 rfl rfl) ((hr 0 rfl).trans rfl) (Z0l hx22).2 (vh hs 50 rfl rfl))<|Sn<|Rg<|Md rfl<|Ac (Z14 rfl rfl (vt rfl) (vk rfl)) rfl<|As rfl<|Nl ?_
     exact ⟨(_,_,_),Nat.lt_succ_self _,⟨trivial,h⟩,FX rfl⟩
    ·refine xt<|Rg<|Md rfl<|Ac (Z0o rfl rfl (vt rfl) (vk rfl)) rfl<|As rfl<|Nl ?_
     exact ⟨(_,_,_),Nat.lt_succ_self _,⟨trivial,h⟩,FX rfl⟩
  ·refine xt ?_
   cases h;exact Z21 (i:=0) Tryz.results291 rfl rfl
end Go.Proofs.YtjppkmpecdbepaaGreatDoor.W
set_option maxHeartbeats 1000000
set_option maxRecDepth 4000
namespace Go.Proofs.YtjppkmpecdbepaaGreatDoor.W
open Go Go.Wb
theorem Zr0:Ent Tryz.prog 304:=Ent.mk Tryz.func304 rfl rfl
theorem Zil:Ent Tryz.prog 292:=Ent.mk Tryz.func292 rfl rfl
theorem Ycf:Ent Tryz.prog 300:=Ent.mk Tryz.func300 rfl rfl
theorem Zvi:Ent Tryz.prog 291:=Ent.mk Tryz.func291 rfl rfl
theorem Yj4:Ent Tryz.prog 274:=Ent.mk Tryz.func274 rfl rfl
theorem Y55:Ent Tryz.prog 241:=Ent.mk Tryz.func241 rfl rfl
theorem Y4y:Ent Tryz.prog 242:=Ent.mk Tryz.func242 rfl rfl
theorem Ynr:Ent Tryz.prog 244:=Ent.mk Tryz.func244 rfl rfl
theorem Ygp:Ent Tryz.prog 243:=Ent.mk Tryz.func243 rfl rfl
theorem Yhy:Ent Tryz.prog 246:=Ent.mk Tryz.func246 rfl rfl
theorem Y9b:Ent Tryz.prog 247:=Ent.mk Tryz.func247 rfl rfl
theorem Zdc:Ent Tryz.prog 266:=Ent.mk Tryz.func266 rfl rfl
theorem Y40:Ent Tryz.prog 203:=Ent.mk Tryz.func203 rfl rfl
theorem Zvm:Ent Tryz.prog 267:=Ent.mk Tryz.func267 rfl rfl
theorem Y0v:Ent Tryz.prog 204:=Ent.mk Tryz.func204 rfl rfl
def Zie (n5:Int)(b4:Int)(a3:Int):Nat→(List Action)→Int→Option (List Action)
 | 0,_,_=>none
 | m11+1,l9,i10=>(bif (decide (i10<n5)) then (lget l9 (IntKind.i64.wrap (b4+i10))).bind fun x12=>(lget l9 (IntKind.i64.wrap (a3+i10))).bind fun x13=>(lget l9 (IntKind.i64.wrap (a3+i10))).bind fun x14=>(lget (List.set l9 (IntKind.i64.wrap (a3+i10)).toNat x12) (IntKind.i64.wrap (b4+i10))).bind fun x15=>(Zie n5 b4 a3 m11) (List.set (List.set l9 (IntKind.i64.wrap (a3+i10)).toNat x12) (IntKind.i64.wrap (b4+i10)).toNat x13) (IntKind.i64.wrap (i10+1)) else some l9)
def Zhl (d1:(List Action))(a3:Int)(b4:Int)(n5:Int)(x6:(Action→Action→Option Int)):Option (List Action):=
 Zie n5 b4 a3 (((n5:Int) - 0).toNat+1) d1 0
theorem Zr9 (v2:Value)(d1:(List Action))(a3:Int)(b4:Int)(n5:Int)(x6:(Action→Action→Option Int))(r:(List Action))(h:Zhl d1 a3 b4 n5 x6=some r):Con Tryz.prog 304 [Zg v2,rd (Z0 .i64) a3,rd (Z0 .i64) b4,rd (Z0 .i64) n5,fn2 Tryz.prog Zj Zj (Z0 .i64) x6] (Zi v2 109 Zj d1) (fun _:Unit=>top) (fun _=>Zi v2 109 Zj r):=by
 refine Con.intro Tryz.func304 rfl Tryz.ntmps304 rfl fun w H X Z=>?_
 unfold Zhl at h
 refine SR<|Ak rfl<|Nl<|bk<|LG (d:=[]) (ν:=Nat×(List Action)×Int) (fun (m11,l9,i10)=>(True∧Zie n5 b4 a3 m11 l9 i10=some r,m11,[(0,Zg v2),(1,rd (Z0 .i64) a3),(2,rd (Z0 .i64) b4),(3,rd (Z0 .i64) n5),(10,rd (Z0 .i64) i10)],[(0,Zi v2 109 Zj l9)])) ((((n5:Int) - 0).toNat+1),d1,0) ⟨trivial,h⟩ (FX rfl) ?_
 rintro ⟨m11,l9,i10⟩ ⟨hsf1,h⟩
 dsimp only at h ⊢
 cases m11 with
 | zero=>cases h
 | succ m11=>
  unfold Zie at h
  refine sq<|SR<|Md rfl<|Md rfl<|Ac (Zh rfl rfl (vt rfl) (vt rfl)) rfl<|Nl<|Cq rfl h (fun h=>?_) (fun h=>?_)
  ·refine sk<|sq<|bk<|AW.vlen 0 rfl fun hvl0_123=>?_
   obtain ⟨x12,hx12,x13,hx13,x14,hx14,x15,hx15,h⟩:=bs4 h
   refine AR Z03 (by kernel_rfl)<|SMw rfl<|SMd rfl<|SMd rfl<|Sd (lo [17,18] [] rfl fun S hs hr=>Z0o rfl rfl (vh hs 17 rfl rfl) (vh hs 18 rfl rfl))<|SMw rfl<|SMd rfl<|SMd rfl<|Sd (lo [21,22] [] rfl fun S hs hr=>Z0o rfl rfl (vh hs 21 rfl rfl) (vh hs 22 rfl rfl))<|SMw rfl<|SMd rfl<|SMd rfl<|Sd (lo [25,26] [] rfl fun S hs hr=>Z0o rfl rfl (vh hs 25 rfl rfl) (vh hs 26 rfl rfl))<|Sd (lo [24,27] [] rfl fun S hs hr=>Z24 (l:=l9) hvl0_123 rfl rfl rfl Z17 (vh hs 24 rfl rfl) (vh hs 27 rfl rfl) hx12)<|Sd (lo [28] [0] rfl fun S hs hr=>Z1l 0 rfl rfl Z0v (vh hs 28 rfl rfl) ((hr 0 rfl).trans rfl) (Z0l hx12).2)<|SMw rfl<|SMd rfl<|SMd rfl<|Sd (lo [31,32] [] rfl fun S hs hr=>Z0o rfl rfl (vh hs 31 rfl rfl) (vh hs 32 rfl rfl))<|Sd (lo [30,33] [] rfl fun S hs hr=>Z24 (l:=l9) hvl0_123 rfl rfl rfl Z17 (vh hs 30 rfl rfl) (vh hs 33 rfl rfl) hx13)<|Sd (lo [34] [0] rfl fun S hs hr=>Z1l 0 rfl rfl Z0v (vh hs 34 rfl rfl) ((hr 0 rfl).trans rfl) (Z0l hx13).2)<|Sd (lo [16,19] [] rfl fun S hs hr=>Z24 (l:=l9) hvl0_123 rfl rfl rfl Z17 (vh hs 16 rfl rfl) (vh hs 19 rfl rfl) hx14)<|Sd (Z3d [36,29] [0] rfl fun S hs hr=>Z2b 0 rfl rfl Z0v (vh hs 36 rfl rfl) ((hr 0 rfl).trans rfl) (Z0l hx14).2 (vh hs 29 rfl rfl))<|Sd (lo [20,23] [] rfl fun S hs hr=>Z24 (l:=(List.set l9 (IntKind.i64.wrap (a3+i10)).toNat x12)) hvl0_123 (by simp) rfl rfl Z17 (vh hs 20 rfl rfl) (vh hs 23 rfl rfl) hx15)<|Sd (Z3d [37,35] [0] rfl fun S hs hr=>Z2b 0 rfl rfl Z0v (vh hs 37 rfl rfl) ((hr 0 rfl).trans rfl) (Z0l hx15).2 (vh hs 35 rfl rfl))<|Sn<|Rg<|Md rfl<|Ac (Z0o rfl rfl (vt rfl) (vk rfl)) rfl<|As rfl<|Nl ?_
   exact ⟨(_,_,_),Nat.lt_succ_self _,⟨trivial,h⟩,FX rfl⟩
  ·refine xt ?_
   cases h;exact Z21 (i:=0) Tryz.results304 rfl rfl
def Zgr (m4:Int)(x6:(Action→Action→Option Int)):Nat→(List Action)→Int→Int→Option (List Action)
 | 0,_,_,_=>none
 | m13+1,l10,i11,j12=>(bif (decide (i11≠j12)) then (bif (decide (i11>j12)) then (Zhl l10 (IntKind.i64.wrap (m4 - i11)) m4 j12 x6).bind fun l14=>(Zgr m4 x6 m13) l14 (IntKind.i64.wrap (i11 - j12)) j12 else (Zhl l10 (IntKind.i64.wrap (m4 - i11)) (IntKind.i64.wrap ((IntKind.i64.wrap (m4+j12)) - i11)) i11 x6).bind fun l15=>(Zgr m4 x6 m13) l15 i11 (IntKind.i64.wrap (j12 - i11))) else (Zhl l10 (IntKind.i64.wrap (m4 - i11)) m4 i11 x6).bind fun l16=>some l16)
def Zpf (d1:(List Action))(a3:Int)(m4:Int)(b5:Int)(x6:(Action→Action→Option Int)):Option (List Action):=
 Zgr m4 x6 Z2p d1 (IntKind.i64.wrap (m4 - a3)) (IntKind.i64.wrap (b5 - m4))
theorem Yey (v2:Value)(d1:(List Action))(a3:Int)(m4:Int)(b5:Int)(x6:(Action→Action→Option Int))(r:(List Action))(h:Zpf d1 a3 m4 b5 x6=some r):Con Tryz.prog 300 [Zg v2,rd (Z0 .i64) a3,rd (Z0 .i64) m4,rd (Z0 .i64) b5,fn2 Tryz.prog Zj Zj (Z0 .i64) x6] (Zi v2 109 Zj d1) (fun _:Unit=>top) (fun _=>Zi v2 109 Zj r):=by
 refine Con.intro Tryz.func300 rfl Tryz.ntmps300 rfl fun w H X Z=>?_
 unfold Zpf at h
 refine SR<|Md rfl<|Md rfl<|Ac (Z14 rfl rfl (vt rfl) (vt rfl)) rfl<|As rfl<|Nl<|SR<|Md rfl<|Md rfl<|Ac (Z14 rfl rfl (vt rfl) (vt rfl)) rfl<|As rfl<|Nl<|sq<|bk<|LG (d:=[]) (ν:=Nat×(List Action)×Int×Int) (fun (m13,l10,i11,j12)=>(True∧Zgr m4 x6 m13 l10 i11 j12=some r,m13,[(0,Zg v2),(2,rd (Z0 .i64) m4),(4,fn2 Tryz.prog Zj Zj (Z0 .i64) x6),(10,rd (Z0 .i64) i11),(11,rd (Z0 .i64) j12)],[(0,Zi v2 109 Zj l10)])) (Z2p,d1,(IntKind.i64.wrap (m4 - a3)),(IntKind.i64.wrap (b5 - m4))) ⟨trivial,h⟩ (FX rfl) ?_
 rintro ⟨m13,l10,i11,j12⟩ ⟨hsf1,h⟩
 dsimp only at h ⊢
 cases m13 with
 | zero=>cases h
 | succ m13=>
  unfold Zgr at h
  refine sq<|SR<|Md rfl<|Md rfl<|Ac (Z2j rfl rfl (vt rfl) (vt rfl)) rfl<|Nl<|Cq rfl h (fun h=>?_) (fun h=>?_)
  ·refine sk<|bk<|SR<|Md rfl<|Md rfl<|Ac (Z1s rfl rfl (vt rfl) (vt rfl)) rfl<|Nl<|Cq rfl h (fun h=>?_) (fun h=>?_)
   ·refine sq ?_
    obtain ⟨l14,hl14,h⟩:=Z6 h
    refine Rg<|Mw rfl<|Md rfl<|Md rfl<|Ac (Z14 rfl rfl (vt rfl) (vt rfl)) rfl<|Md rfl<|Md rfl<|Ac (Zk (A:=fn2 Tryz.prog Zj Zj (Z0 .i64) x6) rfl rfl (vt rfl)) rfl<|Cv rfl (Z0y 0 (xs:=[.tmp 24,.tmp 27,.tmp 28,.tmp 29,.tmp 30]) (Zr9 _ _ _ _ _ _ _ hl14) Zr0 rfl rfl ⟨vt rfl,vt rfl,vt rfl,vt rfl,vt rfl,trivial⟩ rfl) fun _u=>Nl<|Rg<|Md rfl<|Md rfl<|Ac (Z14 rfl rfl (vt rfl) (vt rfl)) rfl<|As rfl<|Nl ?_
    exact ⟨(_,_,_,_),Nat.lt_succ_self _,⟨trivial,h⟩,FX rfl⟩
   ·refine sq ?_
    obtain ⟨l15,hl15,h⟩:=Z6 h
    refine Rg<|Mw rfl<|Md rfl<|Md rfl<|Ac (Z14 rfl rfl (vt rfl) (vt rfl)) rfl<|Md rfl<|Md rfl<|Ac (Z0o rfl rfl (vt rfl) (vt rfl)) rfl<|Md rfl<|Ac (Z14 rfl rfl (vt rfl) (vt rfl)) rfl<|Md rfl<|Ac (Zk (A:=fn2 Tryz.prog Zj Zj (Z0 .i64) x6) rfl rfl (vt rfl)) rfl<|Cv rfl (Z0y 0 (xs:=[.tmp 35,.tmp 38,.tmp 43,.tmp 44,.tmp 45]) (Zr9 _ _ _ _ _ _ _ hl15) Zr0 rfl rfl ⟨vt rfl,vt rfl,vt rfl,vt rfl,vt rfl,trivial⟩ rfl) fun _u=>Nl<|Rg<|Md rfl<|Md rfl<|Ac (Z14 rfl rfl (vt rfl) (vt rfl)) rfl<|As rfl<|Nl ?_
    exact ⟨(_,_,_,_),Nat.lt_succ_self _,⟨trivial,h⟩,FX rfl⟩
  ·refine xt ?_
   obtain ⟨l16,hl16,h⟩:=Z6 h
   refine Rg<|Mw rfl<|Md rfl<|Md rfl<|Ac (Z14 rfl rfl (vt rfl) (vt rfl)) rfl<|Md rfl<|Md rfl<|Ac (Zk (A:=fn2 Tryz.prog Zj Zj (Z0 .i64) x6) rfl rfl (vt rfl)) rfl<|Cv rfl (Z0y 0 (xs:=[.tmp 50,.tmp 53,.tmp 54,.tmp 55,.tmp 56]) (Zr9 _ _ _ _ _ _ _ hl16) Zr0 rfl rfl ⟨vt rfl,vt rfl,vt rfl,vt rfl,vt rfl,trivial⟩ rfl) fun _u=>Nl ?_
   cases h;exact Z21 (i:=0) Tryz.results300 rfl rfl
def Znc (i9:Int):Nat→(List Action)→Int→Option (List Action)
 | 0,_,_=>none
 | m20+1,l18,k19=>(bif (decide (k19<(IntKind.i64.wrap (i9 - 1)))) then (lget l18 (IntKind.i64.wrap (k19+1))).bind fun x21=>(lget l18 k19).bind fun x22=>(lget l18 k19).bind fun x23=>(lget (List.set l18 k19.toNat x21) (IntKind.i64.wrap (k19+1))).bind fun x24=>(Znc i9 m20) (List.set (List.set l18 k19.toNat x21) (IntKind.i64.wrap (k19+1)).toNat x22) (IntKind.i64.wrap (k19+1)) else some l18)
def Zds (d1:(List Action))(a3:Int)(x6:(Action→Action→Option Int)):Nat→Int→Int→Option (List Action)
 | 0,_,_=>none
 | m11+1,i9,j10=>(bif (decide (i9<j10)) then (Z3o (BitVec.ofInt 64 (IntKind.i64.wrap (i9+j10))) ((1:BitVec 64).toNat:Int)).bind fun q12=>(lget d1 (IntKind.i64.wrap (q12.toNat:Int))).bind fun x13=>(lget d1 a3).bind fun x14=>(x6 x13 x14).bind fun x15=>(bif (decide (x15<0)) then (Zds d1 a3 x6 m11) (IntKind.i64.wrap ((IntKind.i64.wrap (q12.toNat:Int))+1)) j10 else (Zds d1 a3 x6 m11) i9 (IntKind.i64.wrap (q12.toNat:Int))) else Znc i9 ((((IntKind.i64.wrap (i9 - 1)):Int) - a3).toNat+1) d1 a3)
def Zmx (i27:Int):Nat→(List Action)→Int→Option (List Action)
 | 0,_,_=>none
 | m38+1,l36,k37=>(bif (decide (k37>i27)) then (lget l36 (IntKind.i64.wrap (k37 - 1))).bind fun x39=>(lget l36 k37).bind fun x40=>(lget l36 k37).bind fun x41=>(lget (List.set l36 k37.toNat x39) (IntKind.i64.wrap (k37 - 1))).bind fun x42=>(Zmx i27 m38) (List.set (List.set l36 k37.toNat x39) (IntKind.i64.wrap (k37 - 1)).toNat x40) (IntKind.i64.wrap (k37 - 1)) else some l36)
def Zgt (d1:(List Action))(m4:Int)(x6:(Action→Action→Option Int)):Nat→Int→Int→Option (List Action)
 | 0,_,_=>none
 | m29+1,i27,j28=>(bif (decide (i27<j28)) then (Z3o (BitVec.ofInt 64 (IntKind.i64.wrap (i27+j28))) ((1:BitVec 64).toNat:Int)).bind fun q30=>(lget d1 m4).bind fun x31=>(lget d1 (IntKind.i64.wrap (q30.toNat:Int))).bind fun x32=>(x6 x31 x32).bind fun x33=>(bif (!(decide (x33<0))) then (Zgt d1 m4 x6 m29) (IntKind.i64.wrap ((IntKind.i64.wrap (q30.toNat:Int))+1)) j28 else (Zgt d1 m4 x6 m29) i27 (IntKind.i64.wrap (q30.toNat:Int))) else Zmx i27 (((m4:Int) - i27).toNat+1) d1 m4)
def Zlj (q43:(BitVec 64))(m4:Int)(s48:Int)(b5:Int)(R_slices_symMergeCmpFunc_Action:((List Action)→Int→Int→Int→(Action→Action→Option Int)→Option (List Action)))(x6:(Action→Action→Option Int))(l56:(List Action)):Option (List Action):=
 (bif ((decide ((IntKind.i64.wrap (q43.toNat:Int))<(IntKind.i64.wrap ((IntKind.i64.wrap ((IntKind.i64.wrap (q43.toNat:Int))+m4)) - s48))))&&(decide ((IntKind.i64.wrap ((IntKind.i64.wrap ((IntKind.i64.wrap (q43.toNat:Int))+m4)) - s48))<b5))) then (R_slices_symMergeCmpFunc_Action l56 (IntKind.i64.wrap (q43.toNat:Int)) (IntKind.i64.wrap ((IntKind.i64.wrap ((IntKind.i64.wrap (q43.toNat:Int))+m4)) - s48)) b5 x6).bind fun l57=>some l57 else some l56)
def Ziy (a3:Int)(s48:Int)(q43:(BitVec 64))(R_slices_symMergeCmpFunc_Action:((List Action)→Int→Int→Int→(Action→Action→Option Int)→Option (List Action)))(x6:(Action→Action→Option Int))(m4:Int)(b5:Int)(l55:(List Action)):Option (List Action):=
 (bif ((decide (a3<s48))&&(decide (s48<(IntKind.i64.wrap (q43.toNat:Int))))) then (R_slices_symMergeCmpFunc_Action l55 a3 s48 (IntKind.i64.wrap (q43.toNat:Int)) x6).bind fun l58=>Zlj q43 m4 s48 b5 R_slices_symMergeCmpFunc_Action x6 l58 else Zlj q43 m4 s48 b5 R_slices_symMergeCmpFunc_Action x6 l55)
def Zel (d1:(List Action))(q43:(BitVec 64))(m4:Int)(x6:(Action→Action→Option Int))(a3:Int)(R_slices_symMergeCmpFunc_Action:((List Action)→Int→Int→Int→(Action→Action→Option Int)→Option (List Action)))(b5:Int):Nat→Int→Int→Option (List Action)
 | 0,_,_=>none
 | m50+1,s48,x49=>(bif (decide (s48<x49)) then (Z3o (BitVec.ofInt 64 (IntKind.i64.wrap (s48+x49))) ((1:BitVec 64).toNat:Int)).bind fun q51=>(lget d1 (IntKind.i64.wrap ((IntKind.i64.wrap ((IntKind.i64.wrap ((IntKind.i64.wrap (q43.toNat:Int))+m4)) - 1)) - (IntKind.i64.wrap (q51.toNat:Int))))).bind fun x52=>(lget d1 (IntKind.i64.wrap (q51.toNat:Int))).bind fun x53=>(x6 x52 x53).bind fun x54=>(bif (!(decide (x54<0))) then (Zel d1 q43 m4 x6 a3 R_slices_symMergeCmpFunc_Action b5 m50) (IntKind.i64.wrap ((IntKind.i64.wrap (q51.toNat:Int))+1)) x49 else (Zel d1 q43 m4 x6 a3 R_slices_symMergeCmpFunc_Action b5 m50) s48 (IntKind.i64.wrap (q51.toNat:Int))) else (bif ((decide (s48<m4))&&(decide (m4<(IntKind.i64.wrap ((IntKind.i64.wrap ((IntKind.i64.wrap (q43.toNat:Int))+m4)) - s48))))) then (Zpf d1 s48 m4 (IntKind.i64.wrap ((IntKind.i64.wrap ((IntKind.i64.wrap (q43.toNat:Int))+m4)) - s48)) x6).bind fun l59=>Ziy a3 s48 q43 R_slices_symMergeCmpFunc_Action x6 m4 b5 l59 else Ziy a3 s48 q43 R_slices_symMergeCmpFunc_Action x6 m4 b5 d1))
def Zm0 (d1:(List Action))(q43:(BitVec 64))(m4:Int)(x6:(Action→Action→Option Int))(a3:Int)(R_slices_symMergeCmpFunc_Action:((List Action)→Int→Int→Int→(Action→Action→Option Int)→Option (List Action)))(b5:Int)(s44:Int)(x45:Int):Option (List Action):=
 Zel d1 q43 m4 x6 a3 R_slices_symMergeCmpFunc_Action b5 (((x45:Int) - s44).toNat+1) s44 x45
def Zpn (R_slices_symMergeCmpFunc_Action:((List Action)→Int→Int→Int→(Action→Action→Option Int)→Option (List Action)))(d1:(List Action))(a3:Int)(m4:Int)(b5:Int)(x6:(Action→Action→Option Int)):Option (List Action):=
 (bif (decide ((IntKind.i64.wrap (m4 - a3))=1)) then Zds d1 a3 x6 (((b5:Int) - m4).toNat+1) m4 b5 else (bif (decide ((IntKind.i64.wrap (b5 - m4))=1)) then Zgt d1 m4 x6 (((m4:Int) - a3).toNat+1) a3 m4 else (Z3o (BitVec.ofInt 64 (IntKind.i64.wrap (a3+b5))) ((1:BitVec 64).toNat:Int)).bind fun q43=>(bif (decide (m4>(IntKind.i64.wrap (q43.toNat:Int)))) then Zm0 d1 q43 m4 x6 a3 R_slices_symMergeCmpFunc_Action b5 (IntKind.i64.wrap ((IntKind.i64.wrap ((IntKind.i64.wrap (q43.toNat:Int))+m4)) - b5)) (IntKind.i64.wrap (q43.toNat:Int)) else Zm0 d1 q43 m4 x6 a3 R_slices_symMergeCmpFunc_Action b5 a3 m4)))
theorem Yb7 (R_slices_symMergeCmpFunc_Action:((List Action)→Int→Int→Int→(Action→Action→Option Int)→Option (List Action)))(hR_slices_symMergeCmpFunc_Action:∀(v2:Value) (d1:(List Action)) (a3:Int) (m4:Int) (b5:Int) (x6:(Action→Action→Option Int)) (r:(List Action)),R_slices_symMergeCmpFunc_Action d1 a3 m4 b5 x6=some r→Con Tryz.prog 292 [Zg v2,rd (Z0 .i64) a3,rd (Z0 .i64) m4,rd (Z0 .i64) b5,fn2 Tryz.prog Zj Zj (Z0 .i64) x6] (Zi v2 109 Zj d1) (fun _:Unit=>top) (fun _=>Zi v2 109 Zj r))(v2:Value)(d1:(List Action))(a3:Int)(m4:Int)(b5:Int)(x6:(Action→Action→Option Int))(r:(List Action))(h:Zpn R_slices_symMergeCmpFunc_Action d1 a3 m4 b5 x6=some r):Con Tryz.prog 292 [Zg v2,rd (Z0 .i64) a3,rd (Z0 .i64) m4,rd (Z0 .i64) b5,fn2 Tryz.prog Zj Zj (Z0 .i64) x6] (Zi v2 109 Zj d1) (fun _:Unit=>top) (fun _=>Zi v2 109 Zj r):=by
 refine Con.intro Tryz.func292 rfl Tryz.ntmps292 rfl fun w H X Z=>?_
 unfold Zpn at h
 refine sq<|SR<|Md rfl<|Md rfl<|Ac (Z14 rfl rfl (vt rfl) (vt rfl)) rfl<|Ac (Zy rfl rfl (vt rfl) (vk rfl)) rfl<|Nl<|Cq rfl h (fun h=>?_) (fun h=>?_)
 ·refine SR<|Md rfl<|As rfl<|Nl<|SR<|Md rfl<|As rfl<|Nl<|sq<|bk<|LG (d:=[]) (ν:=Nat×Int×Int) (fun (m11,i9,j10)=>(True∧Zds d1 a3 x6 m11 i9 j10=some r,m11,[(0,Zg v2),(1,rd (Z0 .i64) a3),(4,fn2 Tryz.prog Zj Zj (Z0 .i64) x6),(10,rd (Z0 .i64) i9),(11,rd (Z0 .i64) j10)],[(0,Zi v2 109 Zj d1)])) ((((b5:Int) - m4).toNat+1),m4,b5) ⟨trivial,h⟩ (FX rfl) ?_
  rintro ⟨m11,i9,j10⟩ ⟨hsf1,h⟩
  dsimp only at h ⊢
  cases m11 with
  | zero=>cases h
  | succ m11=>
   unfold Zds at h
   refine sq<|SR<|Md rfl<|Md rfl<|Ac (Zh rfl rfl (vt rfl) (vt rfl)) rfl<|Nl<|Cq rfl h (fun h=>?_) (fun h=>?_)
   ·refine sk<|bk<|sq ?_
    obtain ⟨q12,hq12,h⟩:=Z6 h
    refine Rg<|Md rfl<|Md rfl<|Ac (Z0o rfl rfl (vt rfl) (vt rfl)) rfl<|Ac (Z6z rfl rfl us3 Z86 (vt rfl)) rfl<|Ac (Z4k rfl rfl (vt rfl) (Z4h (vku (1:BitVec 64) rfl)) hq12) rfl<|Ac (Z6h rfl rfl Z84 un3 (vt rfl)) rfl<|As rfl<|Nl<|sq ?_
    obtain ⟨x13,hx13,x14,hx14,x15,hx15,h⟩:=bs3 h
    refine AR Z03 (by kernel_rfl)<|Sd (lo [4] [] rfl fun S hs hr=>Zk (A:=fn2 Tryz.prog Zj Zj (Z0 .i64) x6) rfl rfl (vh hs 4 rfl rfl))<|SMw rfl<|SMd rfl<|Sd (lo [41,42] [0] rfl fun S hs hr=>Z1w 0 rfl rfl Z17 (vh hs 41 rfl rfl) ((hr 0 rfl).trans rfl) (vh hs 42 rfl rfl) hx13)<|Sd (lo [43] [0] rfl fun S hs hr=>Z1l 0 rfl rfl Z0v (vh hs 43 rfl rfl) ((hr 0 rfl).trans rfl) (Z0l hx13).2)<|SMw rfl<|SMd rfl<|Sd (lo [45,46] [0] rfl fun S hs hr=>Z1w 0 rfl rfl Z17 (vh hs 45 rfl rfl) ((hr 0 rfl).trans rfl) (vh hs 46 rfl rfl) hx14)<|Sd (lo [47] [0] rfl fun S hs hr=>Z1l 0 rfl rfl Z0v (vh hs 47 rfl rfl) ((hr 0 rfl).trans rfl) (Z0l hx14).2)<|Sd (lo [40,44,48] [] rfl fun S hs hr=>Z7w hx15 rfl rfl (vh hs 40 rfl rfl) (vh hs 44 rfl rfl) (vh hs 48 rfl rfl))<|Sd (lo [49] [] rfl fun S hs hr=>Zh rfl rfl (vh hs 49 rfl rfl) (vk rfl))<|Sn<|Cq rfl h (fun h=>?_) (fun h=>?_)
    ·refine Rg<|Md rfl<|Ac (Z0o rfl rfl (vt rfl) (vk rfl)) rfl<|As rfl<|Nl ?_
     exact ⟨(_,_,_),Nat.lt_succ_self _,⟨trivial,h⟩,FX rfl⟩
    ·refine Rg<|Md rfl<|As rfl<|Nl ?_
     exact ⟨(_,_,_),Nat.lt_succ_self _,⟨trivial,h⟩,FX rfl⟩
   ·refine xt<|sq<|SR<|Md rfl<|As rfl<|Nl<|bk<|LG (d:=[]) (ν:=Nat×(List Action)×Int) (fun (m20,l18,k19)=>(True∧Znc i9 m20 l18 k19=some r,m20,[(0,Zg v2),(10,rd (Z0 .i64) i9),(13,rd (Z0 .i64) k19)],[(0,Zi v2 109 Zj l18)])) (((((IntKind.i64.wrap (i9 - 1)):Int) - a3).toNat+1),d1,a3) ⟨trivial,h⟩ (FX rfl) ?_
    rintro ⟨m20,l18,k19⟩ ⟨hsf2,h⟩
    dsimp only at h ⊢
    cases m20 with
    | zero=>cases h
    | succ m20=>
     unfold Znc at h
     refine sq<|SR<|Md rfl<|Md rfl<|Ac (Z14 rfl rfl (vt rfl) (vk rfl)) rfl<|Ac (Zh rfl rfl (vt rfl) (vt rfl)) rfl<|Nl<|Cq rfl h (fun h=>?_) (fun h=>?_)
     ·refine sk<|sq<|bk<|AW.vlen 0 rfl fun hvl0_205=>?_
      obtain ⟨x21,hx21,x22,hx22,x23,hx23,x24,hx24,h⟩:=bs4 h
      refine AR Z03 (by kernel_rfl)<|SMw rfl<|SMd rfl<|SMw rfl<|SMd rfl<|Sd (lo [64] [] rfl fun S hs hr=>Z0o rfl rfl (vh hs 64 rfl rfl) (vk rfl))<|SMw rfl<|SMd rfl<|Sd (lo [67] [] rfl fun S hs hr=>Z0o rfl rfl (vh hs 67 rfl rfl) (vk rfl))<|Sd (lo [66,68] [] rfl fun S hs hr=>Z24 (l:=l18) hvl0_205 rfl rfl rfl Z17 (vh hs 66 rfl rfl) (vh hs 68 rfl rfl) hx21)<|Sd (lo [69] [0] rfl fun S hs hr=>Z1l 0 rfl rfl Z0v (vh hs 69 rfl rfl) ((hr 0 rfl).trans rfl) (Z0l hx21).2)<|SMw rfl<|SMd rfl<|Sd (lo [71,72] [] rfl fun S hs hr=>Z24 (l:=l18) hvl0_205 rfl rfl rfl Z17 (vh hs 71 rfl rfl) (vh hs 72 rfl rfl) hx22)<|Sd (lo [73] [0] rfl fun S hs hr=>Z1l 0 rfl rfl Z0v (vh hs 73 rfl rfl) ((hr 0 rfl).trans rfl) (Z0l hx22).2)<|Sd (lo [61,62] [] rfl fun S hs hr=>Z24 (l:=l18) hvl0_205 rfl rfl rfl Z17 (vh hs 61 rfl rfl) (vh hs 62 rfl rfl) hx23)<|Sd (Z3d [75,70] [0] rfl fun S hs hr=>Z2b 0 rfl rfl Z0v (vh hs 75 rfl rfl) ((hr 0 rfl).trans rfl) (Z0l hx23).2 (vh hs 70 rfl rfl))<|Sd (lo [63,65] [] rfl fun S hs hr=>Z24 (l:=(List.set l18 k19.toNat x21)) hvl0_205 (by simp) rfl rfl Z17 (vh hs 63 rfl rfl) (vh hs 65 rfl rfl) hx24)<|Sd (Z3d [76,74] [0] rfl fun S hs hr=>Z2b 0 rfl rfl Z0v (vh hs 76 rfl rfl) ((hr 0 rfl).trans rfl) (Z0l hx24).2 (vh hs 74 rfl rfl))<|Sn<|Rg<|Md rfl<|Ac (Z0o rfl rfl (vt rfl) (vk rfl)) rfl<|As rfl<|Nl ?_
      exact ⟨(_,_,_),Nat.lt_succ_self _,⟨trivial,h⟩,FX rfl⟩
     ·refine xt<|rt ?_
      cases h;exact Z21 (i:=0) Tryz.results292 rfl rfl
 ·refine sk<|sq<|SR<|Md rfl<|Md rfl<|Ac (Z14 rfl rfl (vt rfl) (vt rfl)) rfl<|Ac (Zy rfl rfl (vt rfl) (vk rfl)) rfl<|Nl<|Cq rfl h (fun h=>?_) (fun h=>?_)
  ·refine SR<|Md rfl<|As rfl<|Nl<|SR<|Md rfl<|As rfl<|Nl<|sq<|bk<|LG (d:=[]) (ν:=Nat×Int×Int) (fun (m29,i27,j28)=>(True∧Zgt d1 m4 x6 m29 i27 j28=some r,m29,[(0,Zg v2),(2,rd (Z0 .i64) m4),(4,fn2 Tryz.prog Zj Zj (Z0 .i64) x6),(14,rd (Z0 .i64) i27),(15,rd (Z0 .i64) j28)],[(0,Zi v2 109 Zj d1)])) ((((m4:Int) - a3).toNat+1),a3,m4) ⟨trivial,h⟩ (FX rfl) ?_
   rintro ⟨m29,i27,j28⟩ ⟨hsf3,h⟩
   dsimp only at h ⊢
   cases m29 with
   | zero=>cases h
   | succ m29=>
    unfold Zgt at h
    refine sq<|SR<|Md rfl<|Md rfl<|Ac (Zh rfl rfl (vt rfl) (vt rfl)) rfl<|Nl<|Cq rfl h (fun h=>?_) (fun h=>?_)
    ·refine sk<|bk<|sq ?_
     obtain ⟨q30,hq30,h⟩:=Z6 h
     refine Rg<|Md rfl<|Md rfl<|Ac (Z0o rfl rfl (vt rfl) (vt rfl)) rfl<|Ac (Z6z rfl rfl us3 Z86 (vt rfl)) rfl<|Ac (Z4k rfl rfl (vt rfl) (Z4h (vku (1:BitVec 64) rfl)) hq30) rfl<|Ac (Z6h rfl rfl Z84 un3 (vt rfl)) rfl<|As rfl<|Nl<|sq ?_
     obtain ⟨x31,hx31,x32,hx32,x33,hx33,h⟩:=bs3 h
     refine AR Z03 (by kernel_rfl)<|Sd (lo [4] [] rfl fun S hs hr=>Zk (A:=fn2 Tryz.prog Zj Zj (Z0 .i64) x6) rfl rfl (vh hs 4 rfl rfl))<|SMw rfl<|SMd rfl<|Sd (lo [93,94] [0] rfl fun S hs hr=>Z1w 0 rfl rfl Z17 (vh hs 93 rfl rfl) ((hr 0 rfl).trans rfl) (vh hs 94 rfl rfl) hx31)<|Sd (lo [95] [0] rfl fun S hs hr=>Z1l 0 rfl rfl Z0v (vh hs 95 rfl rfl) ((hr 0 rfl).trans rfl) (Z0l hx31).2)<|SMw rfl<|SMd rfl<|Sd (lo [97,98] [0] rfl fun S hs hr=>Z1w 0 rfl rfl Z17 (vh hs 97 rfl rfl) ((hr 0 rfl).trans rfl) (vh hs 98 rfl rfl) hx32)<|Sd (lo [99] [0] rfl fun S hs hr=>Z1l 0 rfl rfl Z0v (vh hs 99 rfl rfl) ((hr 0 rfl).trans rfl) (Z0l hx32).2)<|Sd (lo [92,96,100] [] rfl fun S hs hr=>Z7w hx33 rfl rfl (vh hs 92 rfl rfl) (vh hs 96 rfl rfl) (vh hs 100 rfl rfl))<|Sd (lo [101] [] rfl fun S hs hr=>Zh rfl rfl (vh hs 101 rfl rfl) (vk rfl))<|Sd (lo [102] [] rfl fun S hs hr=>Z0g rfl rfl (vh hs 102 rfl rfl))<|Sn<|Cq rfl h (fun h=>?_) (fun h=>?_)
     ·refine Rg<|Md rfl<|Ac (Z0o rfl rfl (vt rfl) (vk rfl)) rfl<|As rfl<|Nl ?_
      exact ⟨(_,_,_),Nat.lt_succ_self _,⟨trivial,h⟩,FX rfl⟩
     ·refine Rg<|Md rfl<|As rfl<|Nl ?_
      exact ⟨(_,_,_),Nat.lt_succ_self _,⟨trivial,h⟩,FX rfl⟩
    ·refine xt<|sq<|SR<|Md rfl<|As rfl<|Nl<|bk<|LG (d:=[]) (ν:=Nat×(List Action)×Int) (fun (m38,l36,k37)=>(True∧Zmx i27 m38 l36 k37=some r,m38,[(0,Zg v2),(14,rd (Z0 .i64) i27),(17,rd (Z0 .i64) k37)],[(0,Zi v2 109 Zj l36)])) ((((m4:Int) - i27).toNat+1),d1,m4) ⟨trivial,h⟩ (FX rfl) ?_
     rintro ⟨m38,l36,k37⟩ ⟨hsf4,h⟩
     dsimp only at h ⊢
     cases m38 with
     | zero=>cases h
     | succ m38=>
      unfold Zmx at h
      refine sq<|SR<|Md rfl<|Md rfl<|Ac (Z1s rfl rfl (vt rfl) (vt rfl)) rfl<|Nl<|Cq rfl h (fun h=>?_) (fun h=>?_)
      ·refine sk<|sq<|bk<|AW.vlen 0 rfl fun hvl0_446=>?_
       obtain ⟨x39,hx39,x40,hx40,x41,hx41,x42,hx42,h⟩:=bs4 h
       refine AR Z03 (by kernel_rfl)<|SMw rfl<|SMd rfl<|SMw rfl<|SMd rfl<|Sd (lo [116] [] rfl fun S hs hr=>Z14 rfl rfl (vh hs 116 rfl rfl) (vk rfl))<|SMw rfl<|SMd rfl<|Sd (lo [119] [] rfl fun S hs hr=>Z14 rfl rfl (vh hs 119 rfl rfl) (vk rfl))<|Sd (lo [118,120] [] rfl fun S hs hr=>Z24 (l:=l36) hvl0_446 rfl rfl rfl Z17 (vh hs 118 rfl rfl) (vh hs 120 rfl rfl) hx39)<|Sd (lo [121] [0] rfl fun S hs hr=>Z1l 0 rfl rfl Z0v (vh hs 121 rfl rfl) ((hr 0 rfl).trans rfl) (Z0l hx39).2)<|SMw rfl<|SMd rfl<|Sd (lo [123,124] [] rfl fun S hs hr=>Z24 (l:=l36) hvl0_446 rfl rfl rfl Z17 (vh hs 123 rfl rfl) (vh hs 124 rfl rfl) hx40)<|Sd (lo [125] [0] rfl fun S hs hr=>Z1l 0 rfl rfl Z0v (vh hs 125 rfl rfl) ((hr 0 rfl).trans rfl) (Z0l hx40).2)<|Sd (lo [113,114] [] rfl fun S hs hr=>Z24 (l:=l36) hvl0_446 rfl rfl rfl Z17 (vh hs 113 rfl rfl) (vh hs 114 rfl rfl) hx41)<|Sd (Z3d [127,122] [0] rfl fun S hs hr=>Z2b 0 rfl rfl Z0v (vh hs 127 rfl rfl) ((hr 0 rfl).trans rfl) (Z0l hx41).2 (vh hs 122 rfl rfl))<|Sd (lo [115,117] [] rfl fun S hs hr=>Z24 (l:=(List.set l36 k37.toNat x39)) hvl0_446 (by simp) rfl rfl Z17 (vh hs 115 rfl rfl) (vh hs 117 rfl rfl) hx42)<|Sd (Z3d [128,126] [0] rfl fun S hs hr=>Z2b 0 rfl rfl Z0v (vh hs 128 rfl rfl) ((hr 0 rfl).trans rfl) (Z0l hx42).2 (vh hs 126 rfl rfl))<|Sn<|Rg<|Md rfl<|Ac (Z14 rfl rfl (vt rfl) (vk rfl)) rfl<|As rfl<|Nl ?_
       exact ⟨(_,_,_),Nat.lt_succ_self _,⟨trivial,h⟩,FX rfl⟩
      ·refine xt<|rt ?_
       cases h;exact Z21 (i:=0) Tryz.results292 rfl rfl
  ·refine sk<|sq ?_
   obtain ⟨q43,hq43,h⟩:=Z6 h
   refine Rg<|Md rfl<|Md rfl<|Ac (Z0o rfl rfl (vt rfl) (vt rfl)) rfl<|Ac (Z6z rfl rfl us3 Z86 (vt rfl)) rfl<|Ac (Z4k rfl rfl (vt rfl) (Z4h (vku (1:BitVec 64) rfl)) hq43) rfl<|Ac (Z6h rfl rfl Z84 un3 (vt rfl)) rfl<|As rfl<|Nl<|SR<|Md rfl<|Md rfl<|Ac (Z0o rfl rfl (vt rfl) (vt rfl)) rfl<|As rfl<|Nl<|SR<|Ak rfl<|Ak rfl<|Nl ?_
   refine JN (d:=[]) (ν:=Int×Int) (fun (s44,x45)=>(Zm0 d1 q43 m4 x6 a3 R_slices_symMergeCmpFunc_Action b5 s44 x45=some r,[(0,Zg v2),(1,rd (Z0 .i64) a3),(2,rd (Z0 .i64) m4),(3,rd (Z0 .i64) b5),(4,fn2 Tryz.prog Zj Zj (Z0 .i64) x6),(18,rd (Z0 .i64) (IntKind.i64.wrap (q43.toNat:Int))),(19,rd (Z0 .i64) (IntKind.i64.wrap ((IntKind.i64.wrap (q43.toNat:Int))+m4))),(20,rd (Z0 .i64) s44),(21,rd (Z0 .i64) x45)],[(0,Zi v2 109 Zj d1)])) ?hx5 ?hy5
   case hy5=>
    rintro ⟨s44,x45⟩ h
    dsimp only at h ⊢
    unfold Zm0 at h
    refine SR<|Md rfl<|Ac (Z14 rfl rfl (vt rfl) (vk rfl)) rfl<|As rfl<|Nl<|sq<|bk<|LG (d:=[]) (ν:=Nat×Int×Int) (fun (m50,s48,x49)=>(True∧Zel d1 q43 m4 x6 a3 R_slices_symMergeCmpFunc_Action b5 m50 s48 x49=some r,m50,[(0,Zg v2),(1,rd (Z0 .i64) a3),(2,rd (Z0 .i64) m4),(3,rd (Z0 .i64) b5),(4,fn2 Tryz.prog Zj Zj (Z0 .i64) x6),(18,rd (Z0 .i64) (IntKind.i64.wrap (q43.toNat:Int))),(19,rd (Z0 .i64) (IntKind.i64.wrap ((IntKind.i64.wrap (q43.toNat:Int))+m4))),(20,rd (Z0 .i64) s48),(21,rd (Z0 .i64) x49),(22,rd (Z0 .i64) (IntKind.i64.wrap ((IntKind.i64.wrap ((IntKind.i64.wrap (q43.toNat:Int))+m4)) - 1)))],[(0,Zi v2 109 Zj d1)])) ((((x45:Int) - s44).toNat+1),s44,x45) ⟨trivial,h⟩ (FX rfl) ?_
    rintro ⟨m50,s48,x49⟩ ⟨hsf6,h⟩
    dsimp only at h ⊢
    cases m50 with
    | zero=>cases h
    | succ m50=>
     unfold Zel at h
     refine sq<|SR<|Md rfl<|Md rfl<|Ac (Zh rfl rfl (vt rfl) (vt rfl)) rfl<|Nl<|Cq rfl h (fun h=>?_) (fun h=>?_)
     ·refine sk<|bk<|sq ?_
      obtain ⟨q51,hq51,h⟩:=Z6 h
      refine Rg<|Md rfl<|Md rfl<|Ac (Z0o rfl rfl (vt rfl) (vt rfl)) rfl<|Ac (Z6z rfl rfl us3 Z86 (vt rfl)) rfl<|Ac (Z4k rfl rfl (vt rfl) (Z4h (vku (1:BitVec 64) rfl)) hq51) rfl<|Ac (Z6h rfl rfl Z84 un3 (vt rfl)) rfl<|As rfl<|Nl<|sq ?_
      obtain ⟨x52,hx52,x53,hx53,x54,hx54,h⟩:=bs3 h
      refine AR Z03 (by kernel_rfl)<|Sd (lo [4] [] rfl fun S hs hr=>Zk (A:=fn2 Tryz.prog Zj Zj (Z0 .i64) x6) rfl rfl (vh hs 4 rfl rfl))<|SMw rfl<|SMd rfl<|SMd rfl<|Sd (lo [160,161] [] rfl fun S hs hr=>Z14 rfl rfl (vh hs 160 rfl rfl) (vh hs 161 rfl rfl))<|Sd (lo [159,162] [0] rfl fun S hs hr=>Z1w 0 rfl rfl Z17 (vh hs 159 rfl rfl) ((hr 0 rfl).trans rfl) (vh hs 162 rfl rfl) hx52)<|Sd (lo [163] [0] rfl fun S hs hr=>Z1l 0 rfl rfl Z0v (vh hs 163 rfl rfl) ((hr 0 rfl).trans rfl) (Z0l hx52).2)<|SMw rfl<|SMd rfl<|Sd (lo [165,166] [0] rfl fun S hs hr=>Z1w 0 rfl rfl Z17 (vh hs 165 rfl rfl) ((hr 0 rfl).trans rfl) (vh hs 166 rfl rfl) hx53)<|Sd (lo [167] [0] rfl fun S hs hr=>Z1l 0 rfl rfl Z0v (vh hs 167 rfl rfl) ((hr 0 rfl).trans rfl) (Z0l hx53).2)<|Sd (lo [158,164,168] [] rfl fun S hs hr=>Z7w hx54 rfl rfl (vh hs 158 rfl rfl) (vh hs 164 rfl rfl) (vh hs 168 rfl rfl))<|Sd (lo [169] [] rfl fun S hs hr=>Zh rfl rfl (vh hs 169 rfl rfl) (vk rfl))<|Sd (lo [170] [] rfl fun S hs hr=>Z0g rfl rfl (vh hs 170 rfl rfl))<|Sn<|Cq rfl h (fun h=>?_) (fun h=>?_)
      ·refine Rg<|Md rfl<|Ac (Z0o rfl rfl (vt rfl) (vk rfl)) rfl<|As rfl<|Nl ?_
       exact ⟨(_,_,_),Nat.lt_succ_self _,⟨trivial,h⟩,FX rfl⟩
      ·refine Rg<|Md rfl<|As rfl<|Nl ?_
       exact ⟨(_,_,_),Nat.lt_succ_self _,⟨trivial,h⟩,FX rfl⟩
     ·refine xt<|SR<|Md rfl<|Md rfl<|Ac (Z14 rfl rfl (vt rfl) (vt rfl)) rfl<|As rfl<|Nl ?_
      refine JN (d:=[]) (ν:=(List Action)) (fun l55=>(Ziy a3 s48 q43 R_slices_symMergeCmpFunc_Action x6 m4 b5 l55=some r,[(0,Zg v2),(1,rd (Z0 .i64) a3),(3,rd (Z0 .i64) b5),(4,fn2 Tryz.prog Zj Zj (Z0 .i64) x6),(18,rd (Z0 .i64) (IntKind.i64.wrap (q43.toNat:Int))),(20,rd (Z0 .i64) s48),(24,rd (Z0 .i64) (IntKind.i64.wrap ((IntKind.i64.wrap ((IntKind.i64.wrap (q43.toNat:Int))+m4)) - s48)))],[(0,Zi v2 109 Zj l55)])) ?hx7 ?hy7
      case hy7=>
       intro l55 h
       dsimp only at h ⊢
       unfold Ziy at h
       refine JN (d:=[]) (ν:=(List Action)) (fun l56=>(Zlj q43 m4 s48 b5 R_slices_symMergeCmpFunc_Action x6 l56=some r,[(0,Zg v2),(3,rd (Z0 .i64) b5),(4,fn2 Tryz.prog Zj Zj (Z0 .i64) x6),(18,rd (Z0 .i64) (IntKind.i64.wrap (q43.toNat:Int))),(24,rd (Z0 .i64) (IntKind.i64.wrap ((IntKind.i64.wrap ((IntKind.i64.wrap (q43.toNat:Int))+m4)) - s48)))],[(0,Zi v2 109 Zj l56)])) ?hx8 ?hy8
       case hy8=>
        intro l56 h
        dsimp only at h ⊢
        unfold Zlj at h
        refine SR<|Md rfl<|Md rfl<|Ac (Zh rfl rfl (vt rfl) (vt rfl)) rfl<|Md rfl<|Gd rfl (fun hq=>Zk (A:=rd (Z0 .i64) (IntKind.i64.wrap ((IntKind.i64.wrap ((IntKind.i64.wrap (q43.toNat:Int))+m4)) - s48))) rfl rfl (vt rfl))<|Gd rfl (fun hq=>Zk (A:=rd (Z0 .i64) b5) rfl rfl (vt rfl))<|Gd rfl (fun hq=>Zh rfl rfl (Z8 rfl hq) (Z8 rfl hq))<|Ac (Z0h rfl rfl (vt rfl) (vt rfl)) rfl<|Nl<|Cq rfl h (fun h=>?_) (fun h=>?_)
        ·obtain ⟨l57,hl57,h⟩:=Z6 h
         refine Rg<|Mw rfl<|Md rfl<|Md rfl<|Md rfl<|Ac (Zk (A:=fn2 Tryz.prog Zj Zj (Z0 .i64) x6) rfl rfl (vt rfl)) rfl<|Cv rfl (Z0y 0 (xs:=[.tmp 214,.tmp 215,.tmp 216,.tmp 217,.tmp 218]) (hR_slices_symMergeCmpFunc_Action _ _ _ _ _ _ _ hl57) Zil rfl rfl ⟨vt rfl,vt rfl,vt rfl,vt rfl,vt rfl,trivial⟩ rfl) fun _u=>Nl ?_
         cases h;exact Z21 (i:=0) Tryz.results292 rfl rfl
        ·refine sk ?_
         cases h;exact Z21 (i:=0) Tryz.results292 rfl rfl
       case hx8=>
        refine SR<|Md rfl<|Md rfl<|Ac (Zh rfl rfl (vt rfl) (vt rfl)) rfl<|Md rfl<|Gd rfl (fun hq=>Zk (A:=rd (Z0 .i64) s48) rfl rfl (vt rfl))<|Gd rfl (fun hq=>Zk (A:=rd (Z0 .i64) (IntKind.i64.wrap (q43.toNat:Int))) rfl rfl (vt rfl))<|Gd rfl (fun hq=>Zh rfl rfl (Z8 rfl hq) (Z8 rfl hq))<|Ac (Z0h rfl rfl (vt rfl) (vt rfl)) rfl<|Nl<|Cq rfl h (fun h=>?_) (fun h=>?_)
        ·obtain ⟨l58,hl58,h⟩:=Z6 h
         refine Rg<|Mw rfl<|Md rfl<|Md rfl<|Md rfl<|Ac (Zk (A:=fn2 Tryz.prog Zj Zj (Z0 .i64) x6) rfl rfl (vt rfl)) rfl<|Cv rfl (Z0y 0 (xs:=[.tmp 200,.tmp 201,.tmp 202,.tmp 203,.tmp 204]) (hR_slices_symMergeCmpFunc_Action _ _ _ _ _ _ _ hl58) Zil rfl rfl ⟨vt rfl,vt rfl,vt rfl,vt rfl,vt rfl,trivial⟩ rfl) fun _u=>Nl ?_
         exact ⟨_,h,FX rfl⟩
        ·refine sk ?_
         exact ⟨_,h,FX rfl⟩
      case hx7=>
       refine SR<|Md rfl<|Md rfl<|Ac (Zh rfl rfl (vt rfl) (vt rfl)) rfl<|Md rfl<|Gd rfl (fun hq=>Zk (A:=rd (Z0 .i64) m4) rfl rfl (vt rfl))<|Gd rfl (fun hq=>Zk (A:=rd (Z0 .i64) (IntKind.i64.wrap ((IntKind.i64.wrap ((IntKind.i64.wrap (q43.toNat:Int))+m4)) - s48))) rfl rfl (vt rfl))<|Gd rfl (fun hq=>Zh rfl rfl (Z8 rfl hq) (Z8 rfl hq))<|Ac (Z0h rfl rfl (vt rfl) (vt rfl)) rfl<|Nl<|Cq rfl h (fun h=>?_) (fun h=>?_)
       ·obtain ⟨l59,hl59,h⟩:=Z6 h
        refine Rg<|Mw rfl<|Md rfl<|Md rfl<|Md rfl<|Ac (Zk (A:=fn2 Tryz.prog Zj Zj (Z0 .i64) x6) rfl rfl (vt rfl)) rfl<|Cv rfl (Z0y 0 (xs:=[.tmp 186,.tmp 187,.tmp 188,.tmp 189,.tmp 190]) (Yey _ _ _ _ _ _ _ hl59) Ycf rfl rfl ⟨vt rfl,vt rfl,vt rfl,vt rfl,vt rfl,trivial⟩ rfl) fun _u=>Nl ?_
        exact ⟨_,h,FX rfl⟩
       ·refine sk ?_
        exact ⟨_,h,FX rfl⟩
   case hx5=>
    refine SR<|Md rfl<|Md rfl<|Ac (Z1s rfl rfl (vt rfl) (vt rfl)) rfl<|Nl<|Cq rfl h (fun h=>?_) (fun h=>?_)
    ·refine SR<|Md rfl<|Md rfl<|Ac (Z14 rfl rfl (vt rfl) (vt rfl)) rfl<|As rfl<|Nl<|Rg<|Md rfl<|As rfl<|Nl ?_
     exact ⟨(_,_),h,FX rfl⟩
    ·refine SR<|Md rfl<|As rfl<|Nl<|Rg<|Md rfl<|As rfl<|Nl ?_
     exact ⟨(_,_),h,FX rfl⟩
def Zne:Nat→((List Action)→Int→Int→Int→(Action→Action→Option Int)→Option (List Action))
 | 0=>(fun _ _ _ _ _=>none)
 | n+1=>(Zpn (Zne n))
theorem Y1i:∀n:Nat,(∀(v2:Value) (d1:(List Action)) (a3:Int) (m4:Int) (b5:Int) (x6:(Action→Action→Option Int)) (r:(List Action)),(Zne n) d1 a3 m4 b5 x6=some r→Con Tryz.prog 292 [Zg v2,rd (Z0 .i64) a3,rd (Z0 .i64) m4,rd (Z0 .i64) b5,fn2 Tryz.prog Zj Zj (Z0 .i64) x6] (Zi v2 109 Zj d1) (fun _:Unit=>top) (fun _=>Zi v2 109 Zj r))
 | 0=>(by intros;rename_i h;cases h)
 | n+1=>by
  have ih:=Y1i n
  exact (Yb7 (Zne n) ih)
def Zqn (d1:(List Action))(a3:Int)(m4:Int)(b5:Int)(x6:(Action→Action→Option Int)):Option (List Action):=(Zne Z2p) d1 a3 m4 b5 x6
theorem Zxi:∀(v2:Value) (d1:(List Action)) (a3:Int) (m4:Int) (b5:Int) (x6:(Action→Action→Option Int)) (r:(List Action)),Zqn d1 a3 m4 b5 x6=some r→Con Tryz.prog 292 [Zg v2,rd (Z0 .i64) a3,rd (Z0 .i64) m4,rd (Z0 .i64) b5,fn2 Tryz.prog Zj Zj (Z0 .i64) x6] (Zi v2 109 Zj d1) (fun _:Unit=>top) (fun _=>Zi v2 109 Zj r):=Y1i Z2p
def Zjx (n3:Int)(b17:Int)(x4:(Action→Action→Option Int))(go2:(List Action)→Int→Option (List Action)):Nat→(List Action)→Int→Int→Option (List Action)
 | 0,_,_,_=>none
 | m25+1,l22,a23,b24=>(bif (decide (b24≤n3)) then (Zqn l22 a23 (IntKind.i64.wrap (a23+b17)) b24 x4).bind fun l26=>(Zjx n3 b17 x4 go2 m25) l26 b24 (IntKind.i64.wrap (b24+(IntKind.i64.wrap (2*b17)))) else (bif (decide ((IntKind.i64.wrap (a23+b17))<n3)) then (Zqn l22 a23 (IntKind.i64.wrap (a23+b17)) n3 x4).bind fun l27=>go2 l27 (IntKind.i64.wrap (b17*2)) else go2 l22 (IntKind.i64.wrap (b17*2))))
def Zgh (n3:Int)(x4:(Action→Action→Option Int)):Nat→(List Action)→Int→Option (List Action)
 | 0,_,_=>none
 | m18+1,l16,b17=>(bif (decide (b17<n3)) then Zjx n3 b17 x4 (Zgh n3 x4 m18) (((n3:Int) - (IntKind.i64.wrap (2*b17))).toNat+2) l16 0 (IntKind.i64.wrap (2*b17)) else some l16)
def Zlh (n3:Int)(x4:(Action→Action→Option Int)):Nat→(List Action)→Int→Int→Option (List Action)
 | 0,_,_,_=>none
 | m11+1,l8,a9,b10=>(bif (decide (b10≤n3)) then (Zjf l8 a9 b10 x4).bind fun l12=>(Zlh n3 x4 m11) l12 b10 (IntKind.i64.wrap (b10+20)) else (Zjf l8 a9 n3 x4).bind fun l13=>Zgh n3 x4 (((n3:Int) - 20).toNat+1) l13 20)
def Ztn (d1:(List Action))(n3:Int)(x4:(Action→Action→Option Int)):Option (List Action):=
 Zlh n3 x4 (((n3:Int) - 20).toNat+2) d1 0 20
theorem Y90 (v2:Value)(d1:(List Action))(n3:Int)(x4:(Action→Action→Option Int))(r:(List Action))(h:Ztn d1 n3 x4=some r):Con Tryz.prog 274 [Zg v2,rd (Z0 .i64) n3,fn2 Tryz.prog Zj Zj (Z0 .i64) x4] (Zi v2 109 Zj d1) (fun _:Unit=>top) (fun _=>Zi v2 109 Zj r):=by
 refine Con.intro Tryz.func274 rfl Tryz.ntmps274 rfl fun w H X Z=>?_
 unfold Ztn at h
 refine SR<|Ak rfl<|Nl<|SR<|Md rfl<|Ak rfl<|As rfl<|Nl<|sq<|bk<|LG (d:=[]) (ν:=Nat×(List Action)×Int×Int) (fun (m11,l8,a9,b10)=>(True∧Zlh n3 x4 m11 l8 a9 b10=some r,m11,[(0,Zg v2),(1,rd (Z0 .i64) n3),(2,fn2 Tryz.prog Zj Zj (Z0 .i64) x4),(6,rd (Z0 .i64) 20),(7,rd (Z0 .i64) a9),(8,rd (Z0 .i64) b10)],[(0,Zi v2 109 Zj l8)])) ((((n3:Int) - 20).toNat+2),d1,0,20) ⟨trivial,h⟩ (FX rfl) ?_
 rintro ⟨m11,l8,a9,b10⟩ ⟨hsf1,h⟩
 dsimp only at h ⊢
 cases m11 with
 | zero=>cases h
 | succ m11=>
  unfold Zlh at h
  refine sq<|SR<|Md rfl<|Md rfl<|Ac (Z50 rfl rfl (vt rfl) (vt rfl)) rfl<|Nl<|Cq rfl h (fun h=>?_) (fun h=>?_)
  ·refine sk<|bk<|sq ?_
   obtain ⟨l12,hl12,h⟩:=Z6 h
   refine Rg<|Mw rfl<|Md rfl<|Md rfl<|Ac (Zk (A:=fn2 Tryz.prog Zj Zj (Z0 .i64) x4) rfl rfl (vt rfl)) rfl<|Cv rfl (Z0y 0 (xs:=[.tmp 14,.tmp 15,.tmp 16,.tmp 17]) (Y49 _ _ _ _ _ _ hl12) Zvi rfl rfl ⟨vt rfl,vt rfl,vt rfl,vt rfl,trivial⟩ rfl) fun _u=>Nl<|SR<|Md rfl<|As rfl<|Nl<|Rg<|Md rfl<|Md rfl<|Ac (Z0o rfl rfl (vt rfl) (vt rfl)) rfl<|As rfl<|Nl ?_
   exact ⟨(_,_,_,_),Nat.lt_succ_self _,⟨trivial,h⟩,FX rfl⟩
  ·refine xt<|sq ?_
   obtain ⟨l13,hl13,h⟩:=Z6 h
   refine Rg<|Mw rfl<|Md rfl<|Md rfl<|Ac (Zk (A:=fn2 Tryz.prog Zj Zj (Z0 .i64) x4) rfl rfl (vt rfl)) rfl<|Cv rfl (Z0y 0 (xs:=[.tmp 23,.tmp 24,.tmp 25,.tmp 26]) (Y49 _ _ _ _ _ _ hl13) Zvi rfl rfl ⟨vt rfl,vt rfl,vt rfl,vt rfl,trivial⟩ rfl) fun _u=>Nl<|bk<|LG (d:=[]) (ν:=Nat×(List Action)×Int) (fun (m18,l16,b17)=>(True∧Zgh n3 x4 m18 l16 b17=some r,m18,[(0,Zg v2),(1,rd (Z0 .i64) n3),(2,fn2 Tryz.prog Zj Zj (Z0 .i64) x4),(6,rd (Z0 .i64) b17)],[(0,Zi v2 109 Zj l16)])) ((((n3:Int) - 20).toNat+1),l13,20) ⟨trivial,h⟩ (FX rfl) ?_
   rintro ⟨m18,l16,b17⟩ ⟨hsf2,h⟩
   dsimp only at h ⊢
   cases m18 with
   | zero=>cases h
   | succ m18=>
    unfold Zgh at h
    refine sq<|SR<|Md rfl<|Md rfl<|Ac (Zh rfl rfl (vt rfl) (vt rfl)) rfl<|Nl<|Cq rfl h (fun h=>?_) (fun h=>?_)
    ·refine sk<|bk<|SR<|Md rfl<|Ac (Z5f rfl rfl (vk rfl) (vt rfl)) rfl<|Ak rfl<|As rfl<|Nl<|sq<|bk<|LG (d:=[]) (ν:=Nat×(List Action)×Int×Int) (fun (m25,l22,a23,b24)=>(True∧Zjx n3 b17 x4 (Zgh n3 x4 m18) m25 l22 a23 b24=some r,m25,[(0,Zg v2),(1,rd (Z0 .i64) n3),(2,fn2 Tryz.prog Zj Zj (Z0 .i64) x4),(6,rd (Z0 .i64) b17),(7,rd (Z0 .i64) a23),(8,rd (Z0 .i64) b24)],[(0,Zi v2 109 Zj l22)])) ((((n3:Int) - (IntKind.i64.wrap (2*b17))).toNat+2),l16,0,(IntKind.i64.wrap (2*b17))) ⟨trivial,h⟩ (FX rfl) ?_
     rintro ⟨m25,l22,a23,b24⟩ ⟨hsf3,h⟩
     dsimp only at h ⊢
     cases m25 with
     | zero=>cases h
     | succ m25=>
      unfold Zjx at h
      refine sq<|SR<|Md rfl<|Md rfl<|Ac (Z50 rfl rfl (vt rfl) (vt rfl)) rfl<|Nl<|Cq rfl h (fun h=>?_) (fun h=>?_)
      ·refine sk<|bk<|sq ?_
       obtain ⟨l26,hl26,h⟩:=Z6 h
       refine Rg<|Mw rfl<|Md rfl<|Md rfl<|Md rfl<|Ac (Z0o rfl rfl (vt rfl) (vt rfl)) rfl<|Md rfl<|Ac (Zk (A:=fn2 Tryz.prog Zj Zj (Z0 .i64) x4) rfl rfl (vt rfl)) rfl<|Cv rfl (Z0y 0 (xs:=[.tmp 36,.tmp 37,.tmp 40,.tmp 41,.tmp 42]) (Zxi _ _ _ _ _ _ _ hl26) Zil rfl rfl ⟨vt rfl,vt rfl,vt rfl,vt rfl,vt rfl,trivial⟩ rfl) fun _u=>Nl<|SR<|Md rfl<|As rfl<|Nl<|Rg<|Md rfl<|Md rfl<|Ac (Z5f rfl rfl (vk rfl) (vt rfl)) rfl<|Ac (Z0o rfl rfl (vt rfl) (vt rfl)) rfl<|As rfl<|Nl ?_
       exact ⟨(_,_,_,_),Nat.lt_succ_self _,⟨trivial,h⟩,FX rfl⟩
      ·refine xt<|sq<|SR<|Md rfl<|Md rfl<|Ac (Z0o rfl rfl (vt rfl) (vt rfl)) rfl<|As rfl<|Nl<|SR<|Md rfl<|Md rfl<|Ac (Zh rfl rfl (vt rfl) (vt rfl)) rfl<|Nl<|Cq rfl h (fun h=>?_) (fun h=>?_)
       ·obtain ⟨l27,hl27,h⟩:=Z6 h
        refine Rg<|Mw rfl<|Md rfl<|Md rfl<|Md rfl<|Ac (Zk (A:=fn2 Tryz.prog Zj Zj (Z0 .i64) x4) rfl rfl (vt rfl)) rfl<|Cv rfl (Z0y 0 (xs:=[.tmp 55,.tmp 56,.tmp 57,.tmp 58,.tmp 59]) (Zxi _ _ _ _ _ _ _ hl27) Zil rfl rfl ⟨vt rfl,vt rfl,vt rfl,vt rfl,vt rfl,trivial⟩ rfl) fun _u=>Nl<|Rg<|Md rfl<|Ac (Z5f rfl rfl (vt rfl) (vk rfl)) rfl<|As rfl<|Nl ?_
        exact ⟨(_,_,_),Nat.lt_succ_self _,⟨trivial,h⟩,FX rfl⟩
       ·refine sk<|Rg<|Md rfl<|Ac (Z5f rfl rfl (vt rfl) (vk rfl)) rfl<|As rfl<|Nl ?_
        exact ⟨(_,_,_),Nat.lt_succ_self _,⟨trivial,h⟩,FX rfl⟩
    ·refine xt ?_
     cases h;exact Z21 (i:=0) Tryz.results274 rfl rfl
def Zsm (x1:(List Action))(x3:(Action→Action→Option Int)):Option (List Action):=
 (Ztn x1 (x1.length:Int) x3).bind fun l4=>some l4
theorem Y5k (v2:Value)(x1:(List Action))(x3:(Action→Action→Option Int))(r:(List Action))(h:Zsm x1 x3=some r):Con Tryz.prog 246 [Zg v2,fn2 Tryz.prog Zj Zj (Z0 .i64) x3] (Zi v2 109 Zj x1) (fun _:Unit=>top) (fun _=>Zi v2 109 Zj r):=by
 refine Con.intro Tryz.func246 rfl Tryz.ntmps246 rfl fun w H X Z=>?_
 unfold Zsm at h
 obtain ⟨l4,hl4,h⟩:=Z6 h
 refine Rg<|Mw rfl<|Mw rfl<|Ac (Z2v 0 rfl rfl Z17 (vt rfl) rfl) rfl<|Ac (Zk (A:=fn2 Tryz.prog Zj Zj (Z0 .i64) x3) rfl rfl (vt rfl)) rfl<|Cv rfl (Z0y 0 (xs:=[.tmp 4,.tmp 6,.tmp 7]) (Y90 _ _ _ _ _ hl4) Yj4 rfl rfl ⟨vt rfl,vt rfl,vt rfl,trivial⟩ rfl) fun _u=>Nl ?_
 cases h;exact Z21 (i:=0) Tryz.results246 rfl rfl
def Zt3 (a1:Action)(b2:Action):Option Int:=
 (Zcv a1).bind fun x5=>(Zcv b2).bind fun x6=>(Zei x5.kind).bind fun x9=>(Zei x6.kind).bind fun x10=>(bif (decide ((IntKind.i64.wrap (x9 - x10))≠0)) then some (IntKind.i64.wrap (x9 - x10)) else (bif (decide (x5.field<x6.field)) then some (-1) else (bif (decide (x5.field>x6.field)) then some 1 else some 0)))
theorem Yg0:Q2 Tryz.prog 247 (rd Zj) (rd Zj) (rd (Z0 .i64)) Zt3:=fun a1 b2 r h=>I0 Tryz.func247 rfl Tryz.ntmps247 rfl fun w H Z=>by
 unfold Zt3 at h
 refine SR<|Cv rfl (Zm 3 rfl rfl (vt rfl)) fun g3=>Cv rfl (Zm 4 rfl rfl (vt rfl)) fun g4=>Ak rfl<|Nl<|sq ?_
 obtain ⟨x5,hx5,x6,hx6,h⟩:=bs2 h
 refine AR Z03 (by kernel_rfl)<|Zu Z0v 3 rfl<|SCl [8] (Zke _ _ hx5) Znk rfl<|Zu Z0v 4 rfl<|SCl [10] (Zke _ _ hx6) Znk rfl<|Sd (Z18 (us:=[(5,Z28 394 Z5l Zm1)]) (ur:=[]) [] [] rfl fun S hs hr=>Z55 rfl rfl rfl Zec)<|Sd (Z18 (us:=[(6,Z28 394 Z5l Zm1)]) (ur:=[]) [] [] rfl fun S hs hr=>Z55 rfl rfl rfl Zec)<|Sd (Z18 (us:=[(5,Z28 394 Z5l x5)]) (ur:=[]) [5,9] [] rfl fun S hs hr=>Z4z rfl rfl Zax ((hs 5 rfl).trans rfl) (vh hs 9 rfl rfl))<|Sd (Z18 (us:=[(6,Z28 394 Z5l x6)]) (ur:=[]) [6,11] [] rfl fun S hs hr=>Z4z rfl rfl Zax ((hs 6 rfl).trans rfl) (vh hs 11 rfl rfl))<|Sn<|AW.unpackP 5 6 rfl rfl fun g7=>AW.unpackP 6 7 rfl rfl fun g8=>sq<|sq ?_
 obtain ⟨x9,hx9,x10,hx10,h⟩:=bs2 h
 refine AR Z03 (by kernel_rfl)<|SFd laset_spot_0 Y12 rfl<|Zu Zc 6 rfl<|SCl [13] (Zo9 _ _ hx9) Zvf rfl<|SFd laset_spot_0 Y12 rfl<|Zu Zc 7 rfl<|SCl [16] (Zo9 _ _ hx10) Zvf rfl<|Sd (lo [14,17] [] rfl fun S hs hr=>Z14 rfl rfl (vh hs 14 rfl rfl) (vh hs 17 rfl rfl))<|SAs rfl<|Sn<|SR<|Md rfl<|Ac (Z2j rfl rfl (vt rfl) (vk rfl)) rfl<|Nl<|Cq rfl h (fun h=>?_) (fun h=>?_)
 ·refine SR<|Md rfl<|As rfl<|Nl<|rt ?_
  cases h;exact Z9 Tryz.results247 rfl (Z5 rfl)
 ·refine sk<|sq<|bk<|SR<|Zf laset_spot_1 Zlt rfl<|Ld Zc 6 rfl<|Zf laset_spot_1 Zlt rfl<|Ld Zc 7 rfl<|Ac (Zh rfl rfl (vt rfl) (vt rfl)) rfl<|As rfl<|Nl<|Cq rfl h (fun h=>?_) (fun h=>?_)
  ·refine SR<|Ak rfl<|Nl<|rt ?_
   cases h;exact Z9 Tryz.results247 rfl (Z5 rfl)
  ·refine SR<|Zf laset_spot_1 Zlt rfl<|Ld Zc 6 rfl<|Zf laset_spot_1 Zlt rfl<|Ld Zc 7 rfl<|Ac (Z1s rfl rfl (vt rfl) (vt rfl)) rfl<|As rfl<|Nl<|Cq rfl h (fun h=>?_) (fun h=>?_)
   ·refine SR<|Ak rfl<|Nl<|rt ?_
    cases h;exact Z9 Tryz.results247 rfl (Z5 rfl)
   ·refine sk<|SR<|Ak rfl<|Nl<|rt ?_
    cases h;exact Z9 Tryz.results247 rfl (Z5 rfl)
def Zna (s1:(List Action)):Option (List Action):=
 (Zom s1 Zoo).bind fun x2=>(Z8z s1).bind fun x4=>(Zr7 x4 (fun x=>Zji x x2)).bind fun x6=>(Zsm x6 Zt3).bind fun l8=>some l8
theorem Y2b:Q1 Tryz.prog 203 (rd (Z1 Zj)) (rd (Z1 Zj)) Zna:=fun s1 r h=>I0 Tryz.func203 rfl Tryz.ntmps203 rfl fun w H Z=>by
 unfold Zna at h
 refine SR<|Ac (Zn (A:=rd (Z1 Zj) []) rfl rfl Z04) rfl<|Nl<|sq ?_
 obtain ⟨x2,hx2,h⟩:=Z6 h
 refine Rg<|Md rfl<|Ac (Zz (xs:=[.tmp 5,.func 242]) (Yg4 _ _ _ hx2) Y55 rfl rfl ⟨vt rfl,vf1 Y4y Ync,trivial⟩) rfl<|Cv rfl (Zo 4 rfl rfl zr4) fun g3=>Ze ty4 4 rfl<|Nl<|sq<|AW.freezeB 3 4 rfl rfl rfl ?_
 obtain ⟨x4,hx4,x6,hx6,h⟩:=bs2 h
 refine Rg<|Md rfl<|Cv rfl (Z0y 1001 (xs:=[.tmp 7]) (Zrg _ _ hx4) Zfo rfl rfl ⟨vt rfl,trivial⟩ rfl) fun v5=>Ac (Z30 (cs:=[.tmp 3]) (CAs:=[rp Z3 x2]) (fun x=>Zji x x2) rfl rfl Ynr ⟨vt rfl,trivial⟩ (fun x y h=>Ykz _ _ y h)) rfl<|Cv rfl (Z0y 1001 (xs:=[.tmp 8,.tmp 9]) (Yez _ _ _ _ hx6) Ygp rfl rfl ⟨vt rfl,vt rfl,trivial⟩ rfl) fun v7=>Aw rfl<|Nl<|sq ?_
 obtain ⟨l8,hl8,h⟩:=Z6 h
 refine Rg<|Mw rfl<|Cv rfl (Z0y 1001 (xs:=[.tmp 11,.func 247]) (Y5k _ _ _ _ hl8) Yhy rfl rfl ⟨vt rfl,vf2 Y9b Yg0,trivial⟩ rfl) fun _u=>Nl<|SR<|Mw rfl<|Aw rfl<|Nl<|AW.freezes [2,4,10,11,13] 1001 rfl ⟨rfl,rfl,rfl,rfl,rfl,trivial⟩ rfl<|rt ?_
 cases h;exact Z9 Tryz.results203 rfl (Z5 rfl)
def Zjn (l3:(List Inst))(a2:Int)(b9:walk_way):Option (walk_way×Int×Bool):=
 (Z9r l3 1).bind fun x10=>(bif ((x10.2&&(decide (x10.1.Table>a2)))&&(decide (x10.1.Table<4))) then some (b9,x10.1.Table,true) else (Zna b9.set).bind fun x12=>(Zi7 b9 x12).bind fun x13=>some (x13,0,false))
def Zjr (l3:(List Inst))(a2:Int)(b8:walk_way):Option (walk_way×Int×Bool):=
 (Z9r l3 2).bind fun x14=>(bif x14.2 then (Z8h b8.got 1 x14.1.Value x14.1.Mask).bind fun x16=>Zjn l3 a2 {b8 with got:=x16} else Zjn l3 a2 b8)
def Zjl (l3:(List Inst))(a2:Int)(b7:walk_way):Option (walk_way×Int×Bool):=
 (Z9r l3 3).bind fun x17=>(bif x17.2 then (Zj3 b7.set x17.1.Acts).bind fun x19=>Zjr l3 a2 {b7 with set:=x19} else Zjr l3 a2 b7)
def Zl6 (l3:(List Inst))(a2:Int)(b6:walk_way):Option (walk_way×Int×Bool):=
 (Z9r l3 5).bind fun x20=>(bif x20.2 then Zjl l3 a2 {b6 with set:=[]} else Zjl l3 a2 b6)
def Zps (w1:walk_way)(a2:Int)(l3:(List Inst)):Option (walk_way×Int×Bool):=
 (Z9r l3 4).bind fun x22=>(bif x22.2 then (Zi7 w1 x22.1.Acts).bind fun x24=>Zl6 l3 a2 x24 else Zl6 l3 a2 w1)
theorem Yhx:Q3 Tryz.prog 230 (rd Z1o) (rd (Z0 .i64)) (rd (Z1 Z0f)) (fun r=>Z3j (rd Z1o r.1) (rd (Z0 .i64) r.2.1) (rd Z3 r.2.2)) Zps:=fun w1 a2 l3 r h=>I0 Tryz.func230 rfl Tryz.ntmps230 rfl fun w H Z=>by
 unfold Zps at h
 refine SR<|Cv rfl (Zm 4 rfl rfl (vt rfl)) fun g4=>Cv rfl (Zo 7 rfl rfl Zaz) fun g5=>Ak rfl<|Ab rfl<|Nl ?_
 refine JN (d:=[]) (ν:=walk_way) (fun b6=>(Zl6 l3 a2 b6=some r,[(1,rd (Z0 .i64) a2),(2,rd (Z1 Z0f) l3),(3,Za g4 (Lens.id Z1o)),(6,Za g5 (Lens.id Z1o))],[(4,Zd g4 324 Z1o b6),(7,Zd g5 324 Z1o Zby)])) ?hx1 ?hy1
 case hy1=>
  intro b6 h
  dsimp only at h ⊢
  unfold Zl6 at h
  refine JN (d:=[]) (ν:=walk_way) (fun b7=>(Zjl l3 a2 b7=some r,[(1,rd (Z0 .i64) a2),(2,rd (Z1 Z0f) l3),(3,Za g4 (Lens.id Z1o)),(6,Za g5 (Lens.id Z1o))],[(4,Zd g4 324 Z1o b7),(7,Zd g5 324 Z1o Zby)])) ?hx2 ?hy2
  case hy2=>
   intro b7 h
   dsimp only at h ⊢
   unfold Zjl at h
   refine JN (d:=[]) (ν:=walk_way) (fun b8=>(Zjr l3 a2 b8=some r,[(1,rd (Z0 .i64) a2),(2,rd (Z1 Z0f) l3),(3,Za g4 (Lens.id Z1o)),(6,Za g5 (Lens.id Z1o))],[(4,Zd g4 324 Z1o b8),(7,Zd g5 324 Z1o Zby)])) ?hx3 ?hy3
   case hy3=>
    intro b8 h
    dsimp only at h ⊢
    unfold Zjr at h
    refine JN (d:=[]) (ν:=walk_way) (fun b9=>(Zjn l3 a2 b9=some r,[(1,rd (Z0 .i64) a2),(2,rd (Z1 Z0f) l3),(3,Za g4 (Lens.id Z1o)),(6,Za g5 (Lens.id Z1o))],[(4,Zd g4 324 Z1o b9),(7,Zd g5 324 Z1o Zby)])) ?hx4 ?hy4
    case hy4=>
     intro b9 h
     dsimp only at h ⊢
     unfold Zjn at h
     refine sq ?_
     obtain ⟨x10,hx10,h⟩:=Z6 h
     refine Rg<|Md rfl<|Ac (Zz (xs:=[.tmp 63,.const (Value.int IntKind.i64 1)]) (Zfn _ _ _ hx10) Zdc rfl rfl ⟨vt rfl,vk rfl,trivial⟩) rfl<|Mt2 rfl<|Ac (Z10 rfl rfl (vt rfl)) rfl<|Ac (Z0z rfl rfl (vt rfl)) rfl<|Cv rfl (Zo 18 rfl rfl Z44) fun g11=>Ze Z2h 18 rfl<|As rfl<|Nl<|sq<|SR<|Md rfl<|Md rfl<|Gd rfl (fun hq=>Z0i Z5o rfl rfl Z5r (vt rfl))<|Gd rfl (fun hq=>Z08 rfl rfl Zc (Z8 rfl hq) (i:=18) rfl)<|Gd rfl (fun hq=>Zk (A:=rd (Z0 .i64) a2) rfl rfl (vt rfl))<|Gd rfl (fun hq=>Z1s rfl rfl (Z8 rfl hq) (Z8 rfl hq))<|Ac (Z0h rfl rfl (vt rfl) (vt rfl)) rfl<|Md rfl<|Gd rfl (fun hq=>Z0i Z5o rfl rfl Z5r (vt rfl))<|Gd rfl (fun hq=>Z08 rfl rfl Zc (Z8 rfl hq) (i:=18) rfl)<|Gd rfl (fun hq=>Zh rfl rfl (Z8 rfl hq) (vk rfl))<|Ac (Z0h rfl rfl (vt rfl) (vt rfl)) rfl<|Nl<|Cq rfl h (fun h=>?_) (fun h=>?_)
     ·refine sq<|AR Z03 (by kernel_rfl)<|Zu Z37 4 rfl<|SFd Z5o Z5r rfl<|Zu Zc 18 rfl<|SSt Z37 7 rfl<|SAs rfl<|Sd (lo [] [] rfl fun S hs hr=>Zn (A:=rd Z3 true) rfl rfl vb)<|Sn<|rt ?_
      cases h;exact Zaw Tryz.results230 rfl (Zv rfl (i:=7) rfl Z37) (Z5 rfl) (Z5 rfl)
     ·refine sk<|sq ?_
      obtain ⟨x12,hx12,x13,hx13,h⟩:=bs2 h
      refine AR Z03 (by kernel_rfl)<|Zu Z37 4 rfl<|SFd Zhe Zmq rfl<|Zu Z2x 4 rfl<|SCl [84] (Y2b _ _ hx12) Y40 rfl<|SCl [82,85] (Zvj _ _ _ hx13) Zvm rfl<|SSt Z37 7 rfl<|Sd (lo [] [] rfl fun S hs hr=>Zn (A:=rd (Z0 .i64) 0) rfl rfl (vk rfl))<|Sd (lo [] [] rfl fun S hs hr=>Zn (A:=rd Z3 false) rfl rfl vb)<|Sn<|rt ?_
      cases h;exact Zaw Tryz.results230 rfl (Zv rfl (i:=7) rfl Z37) (Z5 rfl) (Z5 rfl)
    case hx4=>
     refine sq ?_
     obtain ⟨x14,hx14,h⟩:=Z6 h
     refine Rg<|Md rfl<|Ac (Zz (xs:=[.tmp 49,.const (Value.int IntKind.i64 2)]) (Zfn _ _ _ hx14) Zdc rfl rfl ⟨vt rfl,vk rfl,trivial⟩) rfl<|Mt2 rfl<|Ac (Z10 rfl rfl (vt rfl)) rfl<|Ac (Z0z rfl rfl (vt rfl)) rfl<|Cv rfl (Zo 16 rfl rfl Z44) fun g15=>Ze Z2h 16 rfl<|As rfl<|Nl<|SR<|Md rfl<|Nl<|Cq rfl h (fun h=>?_) (fun h=>?_)
     ·obtain ⟨x16,hx16,h⟩:=Z6 h
      refine Rg<|Zf lwalk_way_1 Zd6 rfl<|Ld Z0s 4 rfl<|Zf Z7g Z8x rfl<|Ld Z06 16 rfl<|Zf Z7r Z8d rfl<|Ld Z06 16 rfl<|Ac (Zz (xs:=[.tmp 55,.const (Value.int IntKind.i64 1),.tmp 57,.tmp 59]) (Zat _ _ _ _ _ hx16) Zbk rfl rfl ⟨vt rfl,vk rfl,vt rfl,vt rfl,trivial⟩) rfl<|Zf lwalk_way_1 Zd6 rfl<|Ze Z0s 4 rfl<|Nl ?_
      exact ⟨_,h,FX rfl⟩
     ·refine sk ?_
      exact ⟨_,h,FX rfl⟩
   case hx3=>
    refine sq ?_
    obtain ⟨x17,hx17,h⟩:=Z6 h
    refine Rg<|Md rfl<|Ac (Zz (xs:=[.tmp 37,.const (Value.int IntKind.i64 3)]) (Zfn _ _ _ hx17) Zdc rfl rfl ⟨vt rfl,vk rfl,trivial⟩) rfl<|Mt2 rfl<|Ac (Z10 rfl rfl (vt rfl)) rfl<|Ac (Z0z rfl rfl (vt rfl)) rfl<|Cv rfl (Zo 14 rfl rfl Z44) fun g18=>Ze Z2h 14 rfl<|As rfl<|Nl<|SR<|Md rfl<|Nl<|Cq rfl h (fun h=>?_) (fun h=>?_)
    ·obtain ⟨x19,hx19,h⟩:=Z6 h
     refine Rg<|Zf Zhe Zmq rfl<|Ld Z2x 4 rfl<|Zf lInst_4 Z4l rfl<|Ld Z2x 14 rfl<|Cl [43,45] (Y4b _ _ _ hx19) Y0v rfl<|Zf Zhe Zmq rfl<|Ze Z2x 4 rfl<|Nl ?_
     exact ⟨_,h,FX rfl⟩
    ·refine sk ?_
     exact ⟨_,h,FX rfl⟩
  case hx2=>
   refine sq ?_
   obtain ⟨x20,hx20,h⟩:=Z6 h
   refine Rg<|Md rfl<|Ac (Zz (xs:=[.tmp 30,.const (Value.int IntKind.i64 5)]) (Zfn _ _ _ hx20) Zdc rfl rfl ⟨vt rfl,vk rfl,trivial⟩) rfl<|Mt2 rfl<|Ac (Z10 rfl rfl (vt rfl)) rfl<|Ac (Z0z rfl rfl (vt rfl)) rfl<|Cv rfl (Zo 12 rfl rfl Z44) fun g21=>Ze Z2h 12 rfl<|As rfl<|Nl<|SR<|Md rfl<|Nl<|Cq rfl h (fun h=>?_) (fun h=>?_)
   ·refine Rg<|Zf Zhe Zmq rfl<|Ac (Z3s rfl rfl Z2x (vt rfl) (i:=4) rfl Z04) rfl<|Nl ?_
    exact ⟨_,h,FX rfl⟩
   ·refine sk ?_
    exact ⟨_,h,FX rfl⟩
 case hx1=>
  refine sq ?_
  obtain ⟨x22,hx22,h⟩:=Z6 h
  refine Rg<|Md rfl<|Ac (Zz (xs:=[.tmp 20,.const (Value.int IntKind.i64 4)]) (Zfn _ _ _ hx22) Zdc rfl rfl ⟨vt rfl,vk rfl,trivial⟩) rfl<|Mt2 rfl<|Ac (Z10 rfl rfl (vt rfl)) rfl<|Ac (Z0z rfl rfl (vt rfl)) rfl<|Cv rfl (Zo 10 rfl rfl Z44) fun g23=>Ze Z2h 10 rfl<|As rfl<|Nl<|SR<|Md rfl<|Nl<|Cq rfl h (fun h=>?_) (fun h=>?_)
  ·obtain ⟨x24,hx24,h⟩:=Z6 h
   refine Rg<|Ld Z37 4 rfl<|Zf lInst_4 Z4l rfl<|Ld Z2x 10 rfl<|Cl [25,27] (Zvj _ _ _ hx24) Zvm rfl<|Ze Z37 4 rfl<|Nl ?_
   exact ⟨_,h,FX rfl⟩
  ·refine sk ?_
   exact ⟨_,h,FX rfl⟩
def Zgm (s:List Atom):Option (List Atom):=Z11 [] s
theorem Ybt (s:List Atom)(r:List Atom)(h:Zgm s=some r):Con Tryz.prog 191 [rd (Z1 Z0p) s] emp (fun v=>Zg v) (fun v=>Zi v 206 Z0p r):=by
 refine Con.intro0 Tryz.func191 rfl Tryz.ntmps191 rfl fun w H Z=>?_
 unfold Zgm at h
 refine AW.newnil 1001 206 Z0p<|SR<|Ac (Zn (A:=Zg (.slice none 0 0)) rfl rfl vc) rfl<|Nl<|sq<|SR<|Md rfl<|Ct rfl (Z96 rfl rfl Z67 (vt rfl)) ?_
 rintro _ ⟨b,hb,rfl⟩
 refine Nl<|Cn rfl (fun hc=>?_) (fun hc=>?_)
 ·obtain rfl:=hb hc
  refine SR<|Ac (Zn (A:=Zg (.slice none 0 0)) rfl rfl vc) rfl<|Nl<|rt ?_
  obtain rfl:=(Z5y h).2
  exact Z29 (i:=1001) Tryz.results191 rfl rfl rfl
 ·refine sk<|SR<|Cv rfl (Z65 1002 (ps:=[]) (l:=[]) rfl rfl Z67 Z9p rfl rfl rfl rfl) fun v1=>Md rfl<|Cv rfl (Z1f 1002 h rfl rfl Zcp (vt rfl) rfl (vt rfl)) fun v2=>Aw rfl<|Nl<|rt ?_
  exact Z29 (i:=1002) Tryz.results191 rfl rfl rfl
theorem Y1c (s:List Atom)(r:List Atom)(h:Zgm s=some r):PCon Tryz.prog 191 [rd (Z1 Z0p) s] (rd (Z1 Z0p) r):=PCon.of_row (Ybt s r h)
end Go.Proofs.YtjppkmpecdbepaaGreatDoor.W
set_option maxHeartbeats 1000000
set_option maxRecDepth 4000
namespace Go.Proofs.YtjppkmpecdbepaaGreatDoor.W
open Go Go.Wb
theorem Zzq:Ent Tryz.prog 191:=Ent.mk Tryz.func191 rfl rfl
theorem Yag:Ent Tryz.prog 228:=Ent.mk Tryz.func228 rfl rfl
theorem Zw2:Ent Tryz.prog 231:=Ent.mk Tryz.func231 rfl rfl
theorem Yi7:Ent Tryz.prog 229:=Ent.mk Tryz.func229 rfl rfl
theorem Y75:Ent Tryz.prog 230:=Ent.mk Tryz.func230 rfl rfl
theorem Y43:Ent Tryz.prog 194:=Ent.mk Tryz.func194 rfl rfl
theorem Yo6:Ent Tryz.prog 193:=Ent.mk Tryz.func193 rfl rfl
theorem Yem:Ent Tryz.prog 192:=Ent.mk Tryz.func192 rfl rfl
theorem Yfl:Ent Tryz.prog 146:=Ent.mk Tryz.func146 rfl rfl
theorem Y58:Ent Tryz.prog 145:=Ent.mk Tryz.func145 rfl rfl
def Zn9 (w1:walk_way):Option Rule:=
 (Zgm w1.atoms).bind fun x4=>some (⟨w1.cube,x4⟩:Rule)
theorem Zvu:Q1 Tryz.prog 231 (rd Z1o) (rd Z0n) Zn9:=fun w1 r h=>I0 Tryz.func231 rfl Tryz.ntmps231 rfl fun w H Z=>by
 unfold Zn9 at h
 refine SR<|Cv rfl (Zm 2 rfl rfl (vt rfl)) fun g2=>Cv rfl (Zo 3 rfl rfl Z8e) fun g3=>Nl<|sq ?_
 obtain ⟨x4,hx4,h⟩:=Z6 h
 refine AR Z03 (by kernel_rfl)<|SFd lwalk_way_0 Zt0 rfl<|Zu Z09 2 rfl<|SFd Zcy Zfd rfl<|Zu Z82 2 rfl<|SCl [6] (Y1c _ _ hx4) Zzq rfl<|Sd (lo [4,7] [] rfl fun S hs hr=>opb (⟨w1.cube,x4⟩:Rule) Z8e rfl Ybn (pc Ydl (vh hs 4 rfl rfl)<|pc Yn7 (vh hs 7 rfl rfl)<|pn rfl))<|SSt Z7h 3 rfl<|Sn<|rt ?_
 cases h;exact Z9 Tryz.results231 rfl (Zv rfl (i:=3) rfl Z7h)
def Zlf (sg:Type)(go1:Nat→(Lp sg)→Option (Bool×Lp sg))(i11:Nat)(s22:(Lp sg))(o23:Bool):Option (Bool×Lp sg):=
 (bif (!o23) then some (false,s22) else go1 (i11+1) s22)
def Z87 (sg:Type)(w5:walk_way)(y1:(sg→Rule→Option (Lp sg)))(a4:Int)(s3:Switch)(R_walk_search_table:((Lp sg)→Switch→Int→walk_way→Option (Bool×Lp sg))):(List Int)→Nat→(Lp sg)→Option (Bool×Lp sg)
 | [],i11,s10=>(Zn9 w5).bind fun x13=>(yc y1 s10 x13).bind fun s14=>some ((Lp.isGo s14),s14)
 | x15::l12,i11,s10=>(chk 4 a4).bind fun j16=>(lget (Vector.get s3.Tables j16) x15).bind fun x17=>(Zs6 w5 x17).bind fun x19=>(bif (!x19.2) then (Z87 sg w5 y1 a4 s3 R_walk_search_table l12) (i11+1) s10 else (Zps x19.1 a4 x17.Insts).bind fun x21=>(bif x21.2.2 then (R_walk_search_table s10 s3 x21.2.1 x21.1).bind fun b24=>Zlf sg (Z87 sg w5 y1 a4 s3 R_walk_search_table l12) i11 b24.2 b24.1 else (Zn9 x21.1).bind fun x25=>(yc y1 s10 x25).bind fun s26=>Zlf sg (Z87 sg w5 y1 a4 s3 R_walk_search_table l12) i11 s26 (Lp.isGo s26)))
def Zt2 (sg:Type)(y1:(sg→Rule→Option (Lp sg)))(R_walk_search_table:((Lp sg)→Switch→Int→walk_way→Option (Bool×Lp sg)))(s2:(Lp sg))(s3:Switch)(a4:Int)(w5:walk_way):Option (Bool×Lp sg):=
 (chk 4 a4).bind fun j7=>(Zph (Vector.get s3.Tables j7)).bind fun x8=>Z87 sg w5 y1 a4 s3 R_walk_search_table x8 0 s2
theorem Yok (sg:Type)(y1:(sg→Rule→Option (Lp sg)))(L:Lp sg→Res)(R_walk_search_table:((Lp sg)→Switch→Int→walk_way→Option (Bool×Lp sg)))(hR_walk_search_table:∀(s2:(Lp sg)) (s3:Switch) (a4:Int) (w5:walk_way) (r:(Bool×Lp sg)),R_walk_search_table s2 s3 a4 w5=some r→Con Tryz.prog 194 [rp (ksp kSwitch (ydA Tryz.prog Z0n y1 L)) s3,rd (Z0 .i64) a4,rd Z1o w5] (L s2) (fun _:Unit=>rd Z3 r.1) (fun _=>L r.2))(s2:(Lp sg))(s3:Switch)(a4:Int)(w5:walk_way)(r:(Bool×Lp sg))(h:Zt2 sg y1 R_walk_search_table s2 s3 a4 w5=some r):Con Tryz.prog 194 [rp (ksp kSwitch (ydA Tryz.prog Z0n y1 L)) s3,rd (Z0 .i64) a4,rd Z1o w5] (L s2) (fun _:Unit=>rd Z3 r.1) (fun _=>L r.2):=by
 refine Con.intro Tryz.func194 rfl Tryz.ntmps194 rfl fun w H X Z=>?_
 unfold Zt2 at h
 refine SR<|Cv rfl (Zm 6 rfl rfl (vt rfl)) fun g6=>Ab rfl<|Nl<|AW.scope<|sq<|AW.label<|sq<|sq ?_
 obtain ⟨j7,hj7,x8,hx8,h⟩:=bs2 h
 refine Rg<|Mr rfl<|Md rfl<|Ac (Z1k rfl rfl (vt rfl)) rfl<|Ac (Z4n (Zqz kSwitch (ydA Tryz.prog Z0n y1 L)) rfl rfl (Y3y _) (vt rfl)) rfl<|Fp Z8c Z9s rfl<|Ac (Z69 rfl rfl Za3 (vt rfl) (vt rfl) hj7) rfl<|Lp1 Z2n rfl<|Cl [20] (Y5x _ _ hx8) Yag rfl<|Ac (Z07 rfl rfl Z15 (vt rfl)) rfl<|Mk rfl<|Nl<|bk<|LG (d:=[]) (ν:=(List Int)×Nat×(Lp sg)) (fun (l12,i11,s10)=>(Sfx x8 i11 l12∧Z87 sg w5 y1 a4 s3 R_walk_search_table l12 i11 s10=some r,l12.length,[(0,rp (ksp kSwitch (ydA Tryz.prog Z0n y1 L)) s3),(1,rd (Z0 .i64) a4),(5,Za g6 (Lens.id Z1o)),(21,rd (Z1 (Z0 .i64)) x8),(22,rd (Z0 .i64) (x8.length:Int)),(23,rd (Z0 .i64) (i11:Int))],[(0,L s10),(6,Zd g6 324 Z1o w5)])) (x8,0,s2) ⟨Sfx.start _,h⟩ (FX rfl) ?_
 rintro ⟨l12,i11,s10⟩ ⟨hsf1,h⟩
 dsimp only at hsf1 h ⊢
 cases l12 with
 | nil=>
  unfold Z87 at h
  refine SR<|Ac (Zh rfl rfl (vt rfl) (vt rfl)) rfl<|Nl<|sq<|Cn rfl (fun hc=>absurd (of_decide_eq_true hc) hsf1.nil) (fun hc=>?_)
  refine xt<|sq ?_
  obtain ⟨x13,hx13,s14,hs14,h⟩:=bs2 h
  refine AR Z03 (by kernel_rfl)<|Sd (lo [0] [] rfl fun S hs hr=>Zk (A:=rp (ksp kSwitch (ydA Tryz.prog Z0n y1 L)) s3) rfl rfl (vh hs 0 rfl rfl))<|Sd (lo [69] [] rfl fun S hs hr=>Z1k rfl rfl (vh hs 69 rfl rfl))<|Sd (lo [70] [] rfl fun S hs hr=>Z4n (Zny kSwitch (ydA Tryz.prog Z0n y1 L)) rfl rfl (Y37 _) (vh hs 70 rfl rfl))<|Sd (lo [71] [] rfl fun S hs hr=>Y3h (A:=ydA Tryz.prog Z0n y1 L) rfl rfl rfl (Y3w _) (vh hs 71 rfl rfl))<|Zu Z37 6 rfl<|SCl [73] (Zvu _ _ hx13) Zw2 rfl<|Sd (Z18 (us:=[(75,rd Z3 (Lp.isGo s14))]) (ur:=[(0,L s14)]) [72,74] [0] rfl fun S hs hr=>Zbd 0 hs14 rfl rfl (vh hs 72 rfl rfl) (vh hs 74 rfl rfl) ((hr 0 rfl).trans rfl))<|SAs rfl<|Sn<|rt ?_
  cases h;exact Z47 (i:=0) Tryz.results194 rfl (Z5 rfl) rfl
 | cons x15 l12=>
  unfold Z87 at h
  refine SR<|Ac (Zh rfl rfl (vt rfl) (vt rfl)) rfl<|Nl<|sq<|Cn rfl (fun hc=>?_) (fun hc=>absurd hsf1.cons (of_decide_eq_false hc))
  have hlti11:=of_decide_eq_true hc
  refine sk<|sq<|bk<|SR<|Ac (Z0d rfl rfl Z15 (vt rfl) (vt rfl) hsf1.lget) rfl<|Lp1 Zc rfl<|As rfl<|Nl<|sq ?_
  obtain ⟨j16,hj16,x17,hx17,h⟩:=bs2 h
  refine Rg<|Mr rfl<|Md rfl<|Ac (Z1k rfl rfl (vt rfl)) rfl<|Ac (Z4n (Zqz kSwitch (ydA Tryz.prog Z0n y1 L)) rfl rfl (Y3y _) (vt rfl)) rfl<|Fp Z8c Z9s rfl<|Ac (Z69 rfl rfl Za3 (vt rfl) (vt rfl) hj16) rfl<|Lp1 Z2n rfl<|Md rfl<|Ac (Z0d rfl rfl Z25 (vt rfl) (vt rfl) hx17) rfl<|Lp1 Z19 rfl<|Cv rfl (Zo 10 rfl rfl Z4j) fun g18=>Ze Z19 10 rfl<|Nl<|sq ?_
  obtain ⟨x19,hx19,h⟩:=Z6 h
  refine Rg<|Ld Z37 6 rfl<|Ld Z19 10 rfl<|Cl [38,39] (Y7b _ _ _ hx19) Yi7 rfl<|Mt2 rfl<|Ac (Z10 rfl rfl (vt rfl)) rfl<|Ac (Z0z rfl rfl (vt rfl)) rfl<|Cv rfl (Zo 11 rfl rfl Zaz) fun g20=>Ze Z37 11 rfl<|As rfl<|Nl<|sq<|SR<|Md rfl<|Ac (Z0g rfl rfl (vt rfl)) rfl<|Nl<|Cq rfl h (fun h=>?_) (fun h=>?_)
  ·refine xt<|Rg<|Ac (Z0a (t:=22) rfl rfl (vt rfl) (vk rfl) (vt rfl) hlti11) rfl<|Md rfl<|Nl ?_
   exact ⟨(_,_,_),Nat.lt_succ_self _,⟨hsf1.next,h⟩,FX rfl⟩
  ·refine sk<|sq ?_
   obtain ⟨x21,hx21,h⟩:=Z6 h
   refine Rg<|Ld Z37 11 rfl<|Md rfl<|Zf lFlow_6 Z7q rfl<|Ld Z4r 10 rfl<|Cl [46,47,49] (Yhx _ _ _ _ hx21) Y75 rfl<|Ac (Zk (A:=Z3j (rd Z1o x21.1) (rd (Z0 .i64) x21.2.1) (rd Z3 x21.2.2)) rfl rfl (vt rfl)) rfl<|Ac (Zho rfl rfl (vt rfl)) rfl<|Ac (Zh4 rfl rfl (vt rfl)) rfl<|Ac (Zgn rfl rfl (vt rfl)) rfl<|Ze Z37 11 rfl<|As rfl<|As rfl<|Nl ?_
   refine JN (d:=[]) (ν:=(Lp sg)×Bool) (fun (s22,o23)=>(Zlf sg (Z87 sg w5 y1 a4 s3 R_walk_search_table l12) i11 s22 o23=some r,[(0,rp (ksp kSwitch (ydA Tryz.prog Z0n y1 L)) s3),(1,rd (Z0 .i64) a4),(5,Za g6 (Lens.id Z1o)),(11,rd Z3 o23),(21,rd (Z1 (Z0 .i64)) x8),(22,rd (Z0 .i64) (x8.length:Int)),(23,rd (Z0 .i64) (i11:Int))],[(0,L s22),(6,Zd g6 324 Z1o w5)])) ?hx2 ?hy2
   case hy2=>
    rintro ⟨s22,o23⟩ h
    dsimp only at h ⊢
    unfold Zlf at h
    refine SR<|Md rfl<|Ac (Z0g rfl rfl (vt rfl)) rfl<|Nl<|Cq rfl h (fun h=>?_) (fun h=>?_)
    ·refine SR<|Ab rfl<|Nl<|rt ?_
     cases h;exact Z47 (i:=0) Tryz.results194 rfl (Z5 rfl) rfl
    ·refine sk<|Rg<|Ac (Z0a (t:=22) rfl rfl (vt rfl) (vk rfl) (vt rfl) hlti11) rfl<|Md rfl<|Nl ?_
     exact ⟨(_,_,_),Nat.lt_succ_self _,⟨hsf1.next,h⟩,FX rfl⟩
   case hx2=>
    refine SR<|Md rfl<|Nl<|Cq rfl h (fun h=>?_) (fun h=>?_)
    ·obtain ⟨b24,hb24,h⟩:=Z6 h
     refine Rg<|Mr rfl<|Md rfl<|Ld Z37 11 rfl<|Cv rfl (Z0y 0 (xs:=[.tmp 55,.tmp 56,.tmp 57]) (hR_walk_search_table _ _ _ _ _ hb24) Y43 rfl rfl ⟨vt rfl,vt rfl,vt rfl,trivial⟩ rfl) fun _u=>As rfl<|Nl ?_
     exact ⟨(_,_),h,FX rfl⟩
    ·obtain ⟨x25,hx25,s26,hs26,h⟩:=bs2 h
     refine AR Z03 (by kernel_rfl)<|Sd (lo [0] [] rfl fun S hs hr=>Zk (A:=rp (ksp kSwitch (ydA Tryz.prog Z0n y1 L)) s3) rfl rfl (vh hs 0 rfl rfl))<|Sd (lo [59] [] rfl fun S hs hr=>Z1k rfl rfl (vh hs 59 rfl rfl))<|Sd (lo [60] [] rfl fun S hs hr=>Z4n (Zny kSwitch (ydA Tryz.prog Z0n y1 L)) rfl rfl (Y37 _) (vh hs 60 rfl rfl))<|Sd (lo [61] [] rfl fun S hs hr=>Y3h (A:=ydA Tryz.prog Z0n y1 L) rfl rfl rfl (Y3w _) (vh hs 61 rfl rfl))<|Zu Z37 11 rfl<|SCl [63] (Zvu _ _ hx25) Zw2 rfl<|Sd (Z18 (us:=[(65,rd Z3 (Lp.isGo s26))]) (ur:=[(0,L s26)]) [62,64] [0] rfl fun S hs hr=>Zbd 0 hs26 rfl rfl (vh hs 62 rfl rfl) (vh hs 64 rfl rfl) ((hr 0 rfl).trans rfl))<|SAs rfl<|Sn ?_
     exact ⟨(_,_),h,FX rfl⟩
def Zl3 (sg:Type)(y1:(sg→Rule→Option (Lp sg))):Nat→((Lp sg)→Switch→Int→walk_way→Option (Bool×Lp sg))
 | 0=>(fun _ _ _ _=>none)
 | n+1=>Zt2 sg y1 (Zl3 sg y1 n)
theorem Zzi (sg:Type)(y1:(sg→Rule→Option (Lp sg)))(L:Lp sg→Res):∀n:Nat,(∀(s2:(Lp sg)) (s3:Switch) (a4:Int) (w5:walk_way) (r:(Bool×Lp sg)),(Zl3 sg y1 n) s2 s3 a4 w5=some r→Con Tryz.prog 194 [rp (ksp kSwitch (ydA Tryz.prog Z0n y1 L)) s3,rd (Z0 .i64) a4,rd Z1o w5] (L s2) (fun _:Unit=>rd Z3 r.1) (fun _=>L r.2))
 | 0=>(by intros;rename_i h;cases h)
 | n+1=>Yok sg y1 L (Zl3 sg y1 n) (Zzi sg y1 L n)
def Zwu (sg:Type)(y1:(sg→Rule→Option (Lp sg)))(s2:(Lp sg))(s3:Switch)(a4:Int)(w5:walk_way):Option (Bool×Lp sg):=Zl3 sg y1 Z2p s2 s3 a4 w5
theorem Y4n (sg:Type)(y1:(sg→Rule→Option (Lp sg)))(L:Lp sg→Res):∀(s2:(Lp sg)) (s3:Switch) (a4:Int) (w5:walk_way) (r:(Bool×Lp sg)),(Zwu sg y1) s2 s3 a4 w5=some r→Con Tryz.prog 194 [rp (ksp kSwitch (ydA Tryz.prog Z0n y1 L)) s3,rd (Z0 .i64) a4,rd Z1o w5] (L s2) (fun _:Unit=>rd Z3 r.1) (fun _=>L r.2):=Zzi sg y1 L Z2p
def Zh8 (sg:Type)(y1:(sg→Rule→Option (Lp sg)))(s2:(Lp sg))(x3:Switch):Option (Lp sg):=
 (Z9y).bind fun x5=>(Zfi).bind fun x6=>(Zwu sg y1 s2 x3 0 (⟨x5,x6,[],[]⟩:walk_way)).bind fun b7=>some b7.2
theorem Ygz (sg:Type)(y1:(sg→Rule→Option (Lp sg)))(L:Lp sg→Res)(s2:(Lp sg))(x3:Switch)(r:(Lp sg))(h:Zh8 sg y1 s2 x3=some r):Con Tryz.prog 193 [ydA Tryz.prog Z0n y1 L,rp kSwitch x3] (L s2) (fun _:Unit=>top) (fun _=>L r):=by
 refine Con.intro Tryz.func193 rfl Tryz.ntmps193 rfl fun w H X Z=>?_
 unfold Zh8 at h
 refine SR<|Lp1 Z27 rfl<|Ac (Zk (A:=ydA Tryz.prog Z0n y1 L) rfl rfl (vt rfl)) rfl<|Ac (Ylu (x:=x3) rfl rfl (by kernel_rfl) Yel (by kernel_rfl) (by kernel_rfl) (vt rfl) rfl) rfl<|Ac (Yau rfl rfl (vt rfl)) rfl<|Ac (Zn (A:=rp (ksp kSwitch (ydA Tryz.prog Z0n y1 L)) x3) rfl rfl (vt rfl)) rfl<|Nl ?_
 obtain ⟨x5,hx5,x6,hx6,b7,hb7,h⟩:=bs3 h
 refine Rg<|Mr rfl<|Cl [] (Zeu _ hx5) e10 rfl<|Cl [] (Zqd _ hx6) e32 rfl<|Ac (opb (⟨x5,x6,[],[]⟩:walk_way) Zaz rfl Zyu (pc Ylk (vt rfl)<|pc Y9c (vt rfl)<|pn rfl)) rfl<|Cv rfl (Z0y 0 (xs:=[.tmp 8,.const (Value.int IntKind.i64 0),.tmp 11]) (Y4n sg y1 L _ _ _ _ _ hb7) Y43 rfl rfl ⟨vt rfl,vk rfl,vt rfl,trivial⟩ rfl) fun _u=>Nl ?_
 cases h;exact Z21 (i:=0) Tryz.results193 rfl rfl
def Zqm (s1:Switch):Option (Itr Rule):=
 some (Itr.mk fun σ y s=>Zh8 σ y s s1)
theorem Y89:Q1 Tryz.prog 146 (rd kSwitch) (Z2s Tryz.prog Z0n) Zqm:=fun s1 r h=>I0 Tryz.func146 rfl Tryz.ntmps146 rfl fun w H Z=>by
 unfold Zqm at h
 refine SR<|Cv rfl (Zm 2 rfl rfl (vt rfl)) fun g2=>Ac (Zn (A:=Zg .nilFunc) rfl rfl vc) rfl<|Nl<|sq<|AW.freezeB 1 2 rfl rfl rfl<|Rg<|Ac (Zhu (Itr.mk fun σ y s=>Zh8 σ y s s1) (cs:=[.tmp 1]) (CAs:=[rp kSwitch s1]) rfl rfl Yo6 ⟨vt rfl,trivial⟩ (fun σ y L s r h=>Ygz σ y L s s1 r h)) rfl<|Ac (Zn (A:=Z2s Tryz.prog Z0n (Itr.mk fun σ y s=>Zh8 σ y s s1)) rfl rfl (vt rfl)) rfl<|Nl<|rt ?_
 cases h;exact Z9 Tryz.results146 rfl (Z5 rfl)
def Zqk (q:Itr Rule):Option (List Rule):=Zr4 q
theorem Ybc (q:Itr Rule)(r:List Rule)(h:Zqk q=some r):Con Tryz.prog 192 [Zg (.slice none 0 0),Z2s Tryz.prog Z0n q] emp (fun v=>Zg v) (fun v=>Zi v 165 Z0n r):=by
 refine Con.intro0 Tryz.func192 rfl Tryz.ntmps192 rfl fun w H Z=>?_
 have h:=Y1f h
 refine AW.newnil 1001 165 Z0n<|SR<|Cv rfl (Zm (k:=kraw) 3 rfl rfl (vkr (vt rfl) rfl)) fun g=>Ac (Zn (A:=Zg (.slice none 0 0)) rfl rfl vc) rfl<|AOps.pack 3 1001 (by decide) rfl rfl<|Nl<|sq<|SR<|Ac (Zk (A:=Z2s Tryz.prog Z0n q) rfl rfl (vt rfl)) rfl<|Nl<|bk<|AW.fit (d:=[]) (L:=[(2,Za g (Lens.id kraw)),(6,Z2s Tryz.prog Z0n q)]) (M:=[(3,Z5k g 149 165 Z0n [])]) ⟨rfl,⟨rfl,rfl,trivial⟩,⟨rfl,trivial⟩⟩ ?_
 refine AW.rangeFunc (fun x=>[rd Z0n x]) Zkt (fun s=>Z2e [(3,Z5k g 149 165 Z0n s)]) (fun _ _=>Z2e []) [(2,Za g (Lens.id kraw))]
  (fun s x S1=> ∃g5,Fit S1 [] [(2,Za g (Lens.id kraw)),(5,Za g5 (Lens.id Z0n))] [(3,Z5k g 149 165 Z0n s),(6,Zd g5 165 Z0n x)]) 1003 (s0:=[]) (sE:= .go r)
  rfl (vt rfl) ⟨rfl,inferInstance,trivial⟩ rfl (fun _=>rfl) (by intro p hp;have hp:p∈[7]:=hp;rw [List.mem_singleton.1 hp];show 7<13;decide) ?ha ?hb (fun Lf=>⟨top,_,_,Lf,_,_,h,rfl,rfl,rfl,rfl⟩) ?he
 case ha=>
  intro s x r' hF l w H X Z
  refine Rg<|Cv rfl (Zo 6 rfl rfl Z8e) fun g5=>Ze Z7h 6 rfl<|Nl ?_
  exact ⟨rfl,g5,rfl,⟨rfl,rfl,trivial⟩,⟨rfl,rfl,trivial⟩⟩
 case hb=>
  rintro s x r' hF S1 ⟨g5,hfit⟩ l w H X Z
  refine AW.fit hfit<|AW.bodyOf (M:=fun s=>[(3,Z5k g 149 165 Z0n s)]) (Mx:=fun _ _=>[]) ?_
  obtain ⟨m,hm,hF⟩:=Z6 hF
  cases hF
  refine bk<|AW.unbox 3 1001 (by decide) rfl rfl fun v=>Rg<|Ac (Zmm (i:=3) rfl rfl Zqe (vt rfl) rfl) rfl<|Ld Z7h 6 rfl<|Ac (Z4x (ps:=[(0,.tmp 9)]) (l:=[x]) rfl rfl Z4f Z8e rfl rfl ⟨_,_,Lens.idx 1 Z0n 0 (by decide),_,rfl,vt rfl,rfl⟩ rfl) rfl<|Cv rfl (Z1f 1001 hm rfl rfl Zo5 (vt rfl) rfl (vt rfl)) fun v2=>Ac (Z3s rfl rfl Zqe (vt rfl) (i:=3) rfl (Zbo (i:=1001) rfl rfl)) rfl<|AOps.pack 3 1001 (by decide) rfl rfl<|Nl ?_
  exact ⟨_,rfl,rfl,trivial⟩
 case he=>
  intro D
  refine AW.unbox 3 1001 (by decide) rfl rfl fun v=>SR<|Ac (Zmm (i:=3) rfl rfl Zqe (vt rfl) rfl) rfl<|Aw rfl<|Nl<|rt ?_
  exact ⟨rfl,1003,_,rfl,Z29 (i:=1001) Tryz.results192 rfl rfl rfl⟩
theorem Yhk (q:Itr Rule)(r:List Rule)(h:Zqk q=some r):PCon Tryz.prog 192 [Zg (.slice none 0 0),Z2s Tryz.prog Z0n q] (rd (Z1 Z0n) r):=PCon.of_row (Ybc q r h)
def Zno (s1:(Itr Rule)):Option (List Rule):=
 (Zqk s1).bind fun x2=>some x2
theorem Yl2:Q1 Tryz.prog 145 (Z2s Tryz.prog Z0n) (rd (Z1 Z0n)) Zno:=fun s1 r h=>I0 Tryz.func145 rfl Tryz.ntmps145 rfl fun w H Z=>by
 unfold Zno at h
 refine SR<|Ac (Zn (A:=rd (Z1 Z0n) []) rfl rfl Z04) rfl<|Nl<|sq ?_
 obtain ⟨x2,hx2,h⟩:=Z6 h
 refine Rg<|Ac (Zk (A:=Z2s Tryz.prog Z0n s1) rfl rfl (vt rfl)) rfl<|Ac (Zz (xs:=[.const (Value.slice none 0 0),.tmp 3]) (Yhk _ _ hx2) Yem rfl rfl ⟨vc,vt rfl,trivial⟩) rfl<|As rfl<|Nl<|rt ?_
 cases h;exact Z9 Tryz.results145 rfl (Z5 rfl)
def Zst (s1:Switch):Option (List Rule):=
 (Zqm s1).bind fun x3=>(Zno x3).bind fun x4=>some x4
theorem Ymc:Q1 Tryz.prog 96 (rd kSwitch) (rd (Z1 Z0n)) Zst:=fun s1 r h=>I0 Tryz.func96 rfl Tryz.ntmps96 rfl fun w H Z=>by
 unfold Zst at h
 refine SR<|Cv rfl (Zm 2 rfl rfl (vt rfl)) fun g2=>Ac (Zn (A:=rd (Z1 Z0n) []) rfl rfl Z04) rfl<|Nl<|sq ?_
 obtain ⟨x3,hx3,x4,hx4,h⟩:=bs2 h
 refine Rg<|Ld Z27 2 rfl<|Cl [3] (Y89 _ _ hx3) Yfl rfl<|Cl [4] (Yl2 _ _ hx4) Y58 rfl<|As rfl<|Nl<|rt ?_
 cases h;exact Z9 Tryz.results96 rfl (Z5 rfl)
def Zqq (p1:cover_purse):Option (Bool×cover_purse):=
 (bif p1.free then some (true,p1) else some ((decide (({p1 with left:=(IntKind.i64.wrap (p1.left - 1))}.left)≥0)),{p1 with left:=(IntKind.i64.wrap (p1.left - 1))}))
theorem Yom (g2 gT:Nat)(p1:cover_purse)(r:(Bool×cover_purse))(h:Zqq p1=some r):Con Tryz.prog 226 [Za g2 (Lens.id Z54)] (Zd g2 gT Z54 p1) (fun _:Unit=>rd Z3 r.1) (fun _=>Zd g2 gT Z54 r.2):=by
 refine Con.intro Tryz.func226 rfl Tryz.ntmps226 rfl fun w H X Z=>?_
 unfold Zqq at h
 refine SR<|Ab rfl<|Nl<|sq<|SR<|Mp rfl<|Nc rfl<|Zf lcover_purse_1 Yh9 rfl<|Ld ty4 0 rfl<|Nl<|Cq rfl h (fun h=>?_) (fun h=>?_)
 ·refine SR<|Ab rfl<|Nl<|rt ?_
  cases h;exact Z47 (i:=0) Tryz.results226 rfl (Z5 rfl) rfl
 ·refine sk<|SR<|Mp rfl<|Nc rfl<|Zf lcover_purse_0 Zod rfl<|Ld Zc 0 rfl<|Ac (Z14 rfl rfl (vt rfl) (vk rfl)) rfl<|Nc rfl<|Zf lcover_purse_0 Zod rfl<|Ze Zc 0 rfl<|Nl<|SR<|Mp rfl<|Nc rfl<|Zf lcover_purse_0 Zod rfl<|Ld Zc 0 rfl<|Ac (Z1z rfl rfl (vt rfl) (vk rfl)) rfl<|As rfl<|Nl<|rt ?_
  cases h;exact Z47 (i:=0) Tryz.results226 rfl (Z5 rfl) rfl
def Zal (x1:Zs):(List Zs)→Nat→Int→Option (Bool×Int)
 | [],i6,x5=>some (false,x5)
 | x8::l7,i6,x5=>(Z9k x1 x8).bind fun x10=>(bif (!x10.2) then (Zal x1 l7) (i6+1) x5 else (Zn4 x1 x8).bind fun x12=>(bif x12 then some (true,(i6:Int)) else (bif (decide (x5<0)) then (Zal x1 l7) (i6+1) (i6:Int) else (Zal x1 l7) (i6+1) x5)))
def Zoz (x1:Zs)(l2:(List Zs)):Option (Bool×Int):=
 Zal x1 l2 0 (-1)
theorem Ym4:Q2 Tryz.prog 227 (rd (Z4 24 Z7)) (rd (Z1 (Z4 24 Z7))) (fun r=>Z0t (rd Z3 r.1) (rd (Z0 .i64) r.2)) Zoz:=fun x1 l2 r h=>I0 Tryz.func227 rfl Tryz.ntmps227 rfl fun w H Z=>by
 unfold Zoz at h
 refine SR<|Cv rfl (Zm 3 rfl rfl (vt rfl)) fun g3=>Ab rfl<|Ak rfl<|Nl<|SR<|Ak rfl<|Nl<|sq<|SR<|Md rfl<|Ac (Z07 rfl rfl Z3b (vt rfl)) rfl<|Mk rfl<|Nl<|bk<|LG (d:=[]) (ν:=(List Zs)×Nat×Int) (fun (l7,i6,x5)=>(Sfx l2 i6 l7∧Zal x1 l7 i6 x5=some r,l7.length,[(2,Za g3 (Lens.id (Z4 24 Z7))),(6,rd (Z0 .i64) x5),(11,rd (Z1 (Z4 24 Z7)) l2),(12,rd (Z0 .i64) (l2.length:Int)),(13,rd (Z0 .i64) (i6:Int))],[(3,Zd g3 32 (Z4 24 Z7) x1)])) (l2,0,(-1)) ⟨Sfx.start _,h⟩ (FX rfl) ?_
 rintro ⟨l7,i6,x5⟩ ⟨hsf1,h⟩
 dsimp only at hsf1 h ⊢
 cases l7 with
 | nil=>
  unfold Zal at h
  refine SR<|Ac (Zh rfl rfl (vt rfl) (vt rfl)) rfl<|Nl<|sq<|Cn rfl (fun hc=>absurd (of_decide_eq_true hc) hsf1.nil) (fun hc=>?_)
  refine xt<|SR<|Md rfl<|Ab rfl<|As rfl<|Nl<|rt ?_
  cases h;exact Z0c Tryz.results227 rfl (Z5 rfl) (Z5 rfl)
 | cons x8 l7=>
  unfold Zal at h
  refine SR<|Ac (Zh rfl rfl (vt rfl) (vt rfl)) rfl<|Nl<|sq<|Cn rfl (fun hc=>?_) (fun hc=>absurd hsf1.cons (of_decide_eq_false hc))
  have hlti6:=of_decide_eq_true hc
  refine sk<|sq<|bk<|SR<|Md rfl<|Ac (Z0d rfl rfl Z3b (vt rfl) (vt rfl) hsf1.lget) rfl<|Lp1 Z09 rfl<|Cv rfl (Zo 9 rfl rfl Z22) fun g9=>As rfl<|Ze Z09 9 rfl<|Nl<|sq ?_
  obtain ⟨x10,hx10,h⟩:=Z6 h
  refine Rg<|Ld Z09 3 rfl<|Ld Z09 9 rfl<|Cl [19,20] (Zde _ _ _ hx10) Zen rfl<|Mt2 rfl<|Ac (Z10 rfl rfl (vt rfl)) rfl<|Ac (Z0z rfl rfl (vt rfl)) rfl<|Cv rfl (Zo 10 rfl rfl Z22) fun g11=>Ze Z09 10 rfl<|As rfl<|Nl<|bk<|SR<|Md rfl<|Ac (Z0g rfl rfl (vt rfl)) rfl<|As rfl<|Nl<|Cq rfl h (fun h=>?_) (fun h=>?_)
  ·refine sk<|Rg<|Ac (Z0a (t:=12) rfl rfl (vt rfl) (vk rfl) (vt rfl) hlti6) rfl<|Md rfl<|Nl ?_
   exact ⟨(_,_,_),Nat.lt_succ_self _,⟨hsf1.next,h⟩,FX rfl⟩
  ·refine sq ?_
   obtain ⟨x12,hx12,h⟩:=Z6 h
   refine Rg<|Ld Z09 3 rfl<|Ld Z09 9 rfl<|Cl [28,29] (Zvo _ _ _ hx12) Zwp rfl<|As rfl<|Nl<|Cq rfl h (fun h=>?_) (fun h=>?_)
   ·refine SR<|Md rfl<|Ab rfl<|As rfl<|Nl<|rt ?_
    cases h;exact Z0c Tryz.results227 rfl (Z5 rfl) (Z5 rfl)
   ·refine SR<|Md rfl<|Ac (Zh rfl rfl (vt rfl) (vk rfl)) rfl<|As rfl<|Nl<|Cq rfl h (fun h=>?_) (fun h=>?_)
    ·refine Rg<|Md rfl<|As rfl<|Nl<|Rg<|Ac (Z0a (t:=12) rfl rfl (vt rfl) (vk rfl) (vt rfl) hlti6) rfl<|Md rfl<|Nl ?_
     exact ⟨(_,_,_),Nat.lt_succ_self _,⟨hsf1.next,h⟩,FX rfl⟩
    ·refine sk<|Rg<|Ac (Z0a (t:=12) rfl rfl (vt rfl) (vk rfl) (vt rfl) hlti6) rfl<|Md rfl<|Nl ?_
     exact ⟨(_,_,_),Nat.lt_succ_self _,⟨hsf1.next,h⟩,FX rfl⟩
end Go.Proofs.YtjppkmpecdbepaaGreatDoor.W
set_option maxHeartbeats 1000000
set_option maxRecDepth 4000
namespace Go.Proofs.YtjppkmpecdbepaaGreatDoor.W
open Go Go.Wb
theorem Y3f:Ent Tryz.prog 290:=Ent.mk Tryz.func290 rfl rfl
theorem Yih:Ent Tryz.prog 268:=Ent.mk Tryz.func268 rfl rfl
theorem Zxh:Ent Tryz.prog 234:=Ent.mk Tryz.func234 rfl rfl
theorem Yab:Ent Tryz.prog 233:=Ent.mk Tryz.func233 rfl rfl
theorem Zy4:Ent Tryz.prog 235:=Ent.mk Tryz.func235 rfl rfl
theorem Yco:Ent Tryz.prog 232:=Ent.mk Tryz.func232 rfl rfl
theorem Y51:Ent Tryz.prog 226:=Ent.mk Tryz.func226 rfl rfl
theorem Yht:Ent Tryz.prog 227:=Ent.mk Tryz.func227 rfl rfl
theorem e18:Ent Tryz.prog 18:=Ent.mk Tryz.func18 rfl rfl
theorem Zxu:Ent Tryz.prog 195:=Ent.mk Tryz.func195 rfl rfl
theorem Zzv:Ent Tryz.prog 189:=Ent.mk Tryz.func189 rfl rfl
def Zgz:(List Tern)→Nat→Z3i→Option Z3i
 | [],i7,b6=>some b6
 | x9::l8,i7,b6=>(Z6k x9).bind fun x11=>(chk 24 (i7:Int)).bind fun j12=>(Zgz l8) (i7+1) (Vector.set b6 j12.1 x11.Value j12.2)
def Zly (x1:Zs):Option Z3i:=
 Zgz (Vector.toList x1) 0 (Vector.replicate 24 Z0r)
theorem Y31:Q1 Tryz.prog 18 (rd (Z4 24 Z7)) (rd (Z4 24 Zw)) Zly:=fun x1 r h=>I0 Tryz.func18 rfl Tryz.ntmps18 rfl fun w H Z=>by
 unfold Zly at h
 refine SR<|Cv rfl (Zm 2 rfl rfl (vt rfl)) fun g2=>Cv rfl (Zo 3 rfl rfl Z6n) fun g3=>Nl<|SR<|Cv rfl (Zo 4 rfl rfl Z6n) fun g4=>Nl<|sq<|SR<|Ld Z09 2 rfl<|Mk rfl<|Nl<|bk<|LG (d:=[]) (ν:=(List Tern)×Nat×Z3i) (fun (l8,i7,b6)=>(Sfx (Vector.toList x1) i7 l8∧Zgz l8 i7 b6=some r,l8.length,[(2,Za g3 (Lens.id (Z4 24 Zw))),(3,Za g4 (Lens.id (Z4 24 Zw))),(6,rd (Z4 24 Z7) x1),(7,rd (Z0 .i64) (i7:Int))],[(3,Zd g3 36 (Z4 24 Zw) (Vector.replicate 24 Z0r)),(4,Zd g4 36 (Z4 24 Zw) b6)])) ((Vector.toList x1),0,(Vector.replicate 24 Z0r)) ⟨Sfx.start _,h⟩ (FX rfl) ?_
 rintro ⟨l8,i7,b6⟩ ⟨hsf1,h⟩
 dsimp only at hsf1 h ⊢
 cases l8 with
 | nil=>
  unfold Zgz at h
  refine SR<|Ac (Zh rfl rfl (vt rfl) (vk rfl)) rfl<|Nl<|sq<|Cn rfl (fun hc=>absurd (of_decide_eq_true hc) (hsf1.niln (by simp))) (fun hc=>?_)
  refine xt<|SR<|Ld Z34 4 rfl<|Ze Z34 3 rfl<|Nl<|rt ?_
  cases h;exact Z9 Tryz.results18 rfl (Zv rfl (i:=3) rfl Z34)
 | cons x9 l8=>
  unfold Zgz at h
  refine SR<|Ac (Zh rfl rfl (vt rfl) (vk rfl)) rfl<|Nl<|sq<|Cn rfl (fun hc=>?_) (fun hc=>absurd (hsf1.consn (by simp)) (of_decide_eq_false hc))
  have hlti7:=of_decide_eq_true hc
  refine sk<|sq<|bk<|SR<|Md rfl<|Ac (Z7n rfl rfl Z3t Z0j (vt rfl) (vt rfl) hsf1.lget) rfl<|Cv rfl (Zo 6 rfl rfl Z2l) fun g10=>As rfl<|Ze Z0j 6 rfl<|Nl ?_
  obtain ⟨x11,hx11,j12,hj12,h⟩:=bs2 h
  refine Rg<|Md rfl<|Ld Z0j 6 rfl<|Cl [12] (Z7p _ _ hx11) e33 rfl<|Ac (Z7o lTern_0 rfl rfl Z42 Y7d Z06 rfl (vt rfl)) rfl<|Ac (Z2o rfl rfl Zww (vt rfl) (vt rfl) hj12) rfl<|Ze Z06 4 rfl<|Nl<|Rg<|Ac (Z43 rfl rfl (vt rfl) (vk rfl) rfl hlti7) rfl<|Md rfl<|Nl ?_
  exact ⟨(_,_,_),Nat.lt_succ_self _,⟨hsf1.next,h⟩,FX rfl⟩
def Ziq (x1:(BitVec 64)):Option Int:=
 (Z3o x1 ((1:BitVec 64).toNat:Int)).bind fun q2=>(Z3o ((q2&&& (6148914691236517205:BitVec 64))+(x1&&& (6148914691236517205:BitVec 64))) ((2:BitVec 64).toNat:Int)).bind fun q3=>(Z3o ((q3&&& (3689348814741910323:BitVec 64))+(((q2&&& (6148914691236517205:BitVec 64))+(x1&&& (6148914691236517205:BitVec 64)))&&& (3689348814741910323:BitVec 64))) ((4:BitVec 64).toNat:Int)).bind fun q4=>(Z3o ((q4+((q3&&& (3689348814741910323:BitVec 64))+(((q2&&& (6148914691236517205:BitVec 64))+(x1&&& (6148914691236517205:BitVec 64)))&&& (3689348814741910323:BitVec 64))))&&& (1085102592571150095:BitVec 64)) ((8:BitVec 64).toNat:Int)).bind fun q5=>(Z3o (((q4+((q3&&& (3689348814741910323:BitVec 64))+(((q2&&& (6148914691236517205:BitVec 64))+(x1&&& (6148914691236517205:BitVec 64)))&&& (3689348814741910323:BitVec 64))))&&& (1085102592571150095:BitVec 64))+q5) ((16:BitVec 64).toNat:Int)).bind fun q6=>(Z3o ((((q4+((q3&&& (3689348814741910323:BitVec 64))+(((q2&&& (6148914691236517205:BitVec 64))+(x1&&& (6148914691236517205:BitVec 64)))&&& (3689348814741910323:BitVec 64))))&&& (1085102592571150095:BitVec 64))+q5)+q6) ((32:BitVec 64).toNat:Int)).bind fun q7=>some (Z71 .and .i64 (IntKind.i64.wrap ((((((q4+((q3&&& (3689348814741910323:BitVec 64))+(((q2&&& (6148914691236517205:BitVec 64))+(x1&&& (6148914691236517205:BitVec 64)))&&& (3689348814741910323:BitVec 64))))&&& (1085102592571150095:BitVec 64))+q5)+q6)+q7).toNat:Int)) 127)
theorem Y3g:Q1 Tryz.prog 290 (rd Zx) (rd (Z0 .i64)) Ziq:=fun x1 r h=>I0 Tryz.func290 rfl Tryz.ntmps290 rfl fun w H Z=>by
 unfold Ziq at h
 refine SR<|Ak rfl<|Nl<|sq ?_
 obtain ⟨q2,hq2,h⟩:=Z6 h
 refine Rg<|Md rfl<|Ac (Z4k rfl rfl (vt rfl) (Z4h (vku (1:BitVec 64) rfl)) hq2) rfl<|Ac (Z7m rfl rfl (vt rfl) (vku (6148914691236517205:BitVec 64) rfl)) rfl<|Md rfl<|Ac (Z7m rfl rfl (vt rfl) (vku (6148914691236517205:BitVec 64) rfl)) rfl<|Ac (Zar rfl rfl (vt rfl) (vt rfl)) rfl<|As rfl<|Nl<|sq ?_
 obtain ⟨q3,hq3,h⟩:=Z6 h
 refine Rg<|Md rfl<|Ac (Z4k rfl rfl (vt rfl) (Z4h (vku (2:BitVec 64) rfl)) hq3) rfl<|Ac (Z7m rfl rfl (vt rfl) (vku (3689348814741910323:BitVec 64) rfl)) rfl<|Md rfl<|Ac (Z7m rfl rfl (vt rfl) (vku (3689348814741910323:BitVec 64) rfl)) rfl<|Ac (Zar rfl rfl (vt rfl) (vt rfl)) rfl<|As rfl<|Nl<|sq ?_
 obtain ⟨q4,hq4,h⟩:=Z6 h
 refine Rg<|Md rfl<|Ac (Z4k rfl rfl (vt rfl) (Z4h (vku (4:BitVec 64) rfl)) hq4) rfl<|Md rfl<|Ac (Zar rfl rfl (vt rfl) (vt rfl)) rfl<|Ac (Z7m rfl rfl (vt rfl) (vku (1085102592571150095:BitVec 64) rfl)) rfl<|As rfl<|Nl<|sq ?_
 obtain ⟨q5,hq5,h⟩:=Z6 h
 refine Rg<|Md rfl<|Md rfl<|Ac (Z4k rfl rfl (vt rfl) (Z4h (vku (8:BitVec 64) rfl)) hq5) rfl<|Ac (Zar rfl rfl (vt rfl) (vt rfl)) rfl<|As rfl<|Nl<|sq ?_
 obtain ⟨q6,hq6,h⟩:=Z6 h
 refine Rg<|Md rfl<|Md rfl<|Ac (Z4k rfl rfl (vt rfl) (Z4h (vku (16:BitVec 64) rfl)) hq6) rfl<|Ac (Zar rfl rfl (vt rfl) (vt rfl)) rfl<|As rfl<|Nl<|sq ?_
 obtain ⟨q7,hq7,h⟩:=Z6 h
 refine Rg<|Md rfl<|Md rfl<|Ac (Z4k rfl rfl (vt rfl) (Z4h (vku (32:BitVec 64) rfl)) hq7) rfl<|Ac (Zar rfl rfl (vt rfl) (vt rfl)) rfl<|As rfl<|Nl<|SR<|Md rfl<|Ac (Z6h rfl rfl Zus un3 (vt rfl)) rfl<|Ac (Ztk rfl rfl (vt rfl) (vk rfl)) rfl<|As rfl<|Nl<|rt ?_
 cases h;exact Z9 Tryz.results290 rfl (Z5 rfl)
def Zqf (a1:Wide):Option Int:=
 (Ziq a1.Hi).bind fun x3=>(Ziq a1.Lo).bind fun x4=>some (IntKind.i64.wrap (x3+x4))
theorem Ym6:Q1 Tryz.prog 268 (rd Zw) (rd (Z0 .i64)) Zqf:=fun a1 r h=>I0 Tryz.func268 rfl Tryz.ntmps268 rfl fun w H Z=>by
 unfold Zqf at h
 refine SR<|Cv rfl (Zm 2 rfl rfl (vt rfl)) fun g2=>Ak rfl<|Nl<|sq ?_
 obtain ⟨x3,hx3,x4,hx4,h⟩:=bs2 h
 refine AR Z03 (by kernel_rfl)<|SFd lWide_0 Z5d rfl<|Zu Z1q 2 rfl<|SCl [4] (Y3g _ _ hx3) Y3f rfl<|SFd lWide_1 Z5t rfl<|Zu Z1q 2 rfl<|SCl [7] (Y3g _ _ hx4) Y3f rfl<|Sd (lo [5,8] [] rfl fun S hs hr=>Z0o rfl rfl (vh hs 5 rfl rfl) (vh hs 8 rfl rfl))<|SAs rfl<|Sn<|rt ?_
 cases h;exact Z9 Tryz.results268 rfl (Z5 rfl)
def Zkn (a1:Wide)(i2:Int):Option Bool:=
 (Zb9 i2).bind fun x4=>(Zb1 a1 x4).bind fun x5=>(Z7c x5).bind fun x6=>some (!x6)
theorem Y0d:Q2 Tryz.prog 234 (rd Zw) (rd (Z0 .i64)) (rd Z3) Zkn:=fun a1 i2 r h=>I0 Tryz.func234 rfl Tryz.ntmps234 rfl fun w H Z=>by
 unfold Zkn at h
 refine SR<|Cv rfl (Zm 3 rfl rfl (vt rfl)) fun g3=>Ab rfl<|Nl<|sq ?_
 obtain ⟨x4,hx4,x5,hx5,x6,hx6,h⟩:=bs3 h
 refine AR Z03 (by kernel_rfl)<|Zu Z06 3 rfl<|SMd rfl<|SCl [6] (Zi4 _ _ hx4) Zip rfl<|SCl [5,7] (Zle _ _ _ hx5) e61 rfl<|SCl [8] (Z9a _ _ hx6) Z8q rfl<|Sd (lo [9] [] rfl fun S hs hr=>Z0g rfl rfl (vh hs 9 rfl rfl))<|SAs rfl<|Sn<|rt ?_
 cases h;exact Z9 Tryz.results234 rfl (Z5 rfl)
def Zgd (x5:Wide):Nat→(List Int)→Int→Option (List Int)
 | 0,_,_=>none
 | m13+1,l10,i12=>(opt (decide (i12≥0)) (Zqf x5)).bind fun x14=>(bif ((decide (i12≥0))&&(decide ((l10.length:Int)<x14))) then (Zkn x5 i12).bind fun x15=>(bif x15 then (Z11 l10 [i12]).bind fun l16=>(Zgd x5 m13) l16 (IntKind.i64.wrap (i12 - 1)) else (Zgd x5 m13) l10 (IntKind.i64.wrap (i12 - 1))) else some l10)
def Zv0 (a1:Tern)(b2:Tern):Option (List Int):=
 (Z7a b2.Mask a1.Mask).bind fun x5=>Zgd x5 Z2p [] 127
theorem Y7k:Q2 Tryz.prog 233 (rd Z7) (rd Z7) (rd (Z1 (Z0 .i64))) Zv0:=fun a1 b2 r h=>I0 Tryz.func233 rfl Tryz.ntmps233 rfl fun w H Z=>by
 unfold Zv0 at h
 refine SR<|Cv rfl (Zm 3 rfl rfl (vt rfl)) fun g3=>Cv rfl (Zm 4 rfl rfl (vt rfl)) fun g4=>Ac (Zn (A:=rd (Z1 (Z0 .i64)) []) rfl rfl Z04) rfl<|Nl<|sq ?_
 obtain ⟨x5,hx5,h⟩:=Z6 h
 refine Rg<|Zf lTern_1 Z3q rfl<|Ld Z06 4 rfl<|Zf lTern_1 Z3q rfl<|Ld Z06 3 rfl<|Cl [9,11] (Z95 _ _ _ hx5) Z8b rfl<|Cv rfl (Zo 6 rfl rfl Z39) fun g6=>Ze Z06 6 rfl<|Nl<|sq<|AW.newnil 1001 3 (Z0 .i64)<|Rg<|Ac (Zn rfl rfl vc) rfl<|Nl<|sq<|SR<|Ak rfl<|Nl<|bk<|LG (d:=[]) (ν:=Nat×(List Int)×Int×Value) (fun (m13,l10,i12,v11)=>(True∧Zgd x5 m13 l10 i12=some r,m13,[(5,Za g6 (Lens.id Zw)),(6,Zg v11),(7,rd (Z0 .i64) i12)],[(6,Zd g6 28 Zw x5),(1001,Zi v11 3 (Z0 .i64) l10)])) (Z2p,[],127,(.slice none 0 0)) ⟨trivial,h⟩ (FX rfl) ?_
 rintro ⟨m13,l10,i12,v11⟩ ⟨hsf1,h⟩
 dsimp only at h ⊢
 cases m13 with
 | zero=>cases h
 | succ m13=>
  unfold Zgd at h
  refine sq<|sq ?_
  obtain ⟨x14,hx14,h⟩:=Z6 h
  refine Rg<|Md rfl<|Ac (Z1z rfl rfl (vt rfl) (vk rfl)) rfl<|Md rfl<|Gd rfl (fun hq=>Zk (A:=Zg v11) rfl rfl (vt rfl))<|Gd rfl (fun hq=>Z2v 1001 rfl rfl Z15 (Z8 rfl hq) rfl)<|Gd rfl (fun hq=>Z08 rfl rfl Z06 (vt rfl) (i:=6) rfl)<|Gd rfl (fun hq=>Zz (xs:=[.tmp 18]) (Ym6 _ _ (Z1p hx14 hq)) Yih rfl rfl ⟨Z8 rfl hq,trivial⟩)<|Gd rfl (fun hq=>Zh rfl rfl (Z8 rfl hq) (Z8 rfl hq))<|Ac (Z0h rfl rfl (vt rfl) (vt rfl)) rfl<|Nl<|Cq rfl h (fun h=>?_) (fun h=>?_)
  ·refine sk<|sq<|bk<|sq ?_
   obtain ⟨x15,hx15,h⟩:=Z6 h
   refine Rg<|Ld Z06 6 rfl<|Md rfl<|Cl [24,25] (Y0d _ _ _ hx15) Zxh rfl<|Nl<|Cq rfl h (fun h=>?_) (fun h=>?_)
   ·obtain ⟨l16,hl16,h⟩:=Z6 h
    refine Rg<|Mw rfl<|Md rfl<|Ac (osl Z15 zr3 rfl (vt rfl)) rfl<|Cv rfl (Z1f 1001 hl16 rfl rfl Z74 (vt rfl) rfl (vt rfl)) fun v17=>Aw rfl<|Nl<|Rg<|Md rfl<|Ac (Z14 rfl rfl (vt rfl) (vk rfl)) rfl<|As rfl<|Nl ?_
    exact ⟨(_,_,_,_),Nat.lt_succ_self _,⟨trivial,h⟩,FX rfl⟩
   ·refine sk<|Rg<|Md rfl<|Ac (Z14 rfl rfl (vt rfl) (vk rfl)) rfl<|As rfl<|Nl ?_
    exact ⟨(_,_,_,_),Nat.lt_succ_self _,⟨trivial,h⟩,FX rfl⟩
  ·refine xt<|SR<|Mw rfl<|Aw rfl<|Nl<|AW.freezes [4,6,31] 1001 rfl ⟨rfl,rfl,rfl,trivial⟩ rfl<|rt ?_
   cases h;exact Z9 Tryz.results233 rfl (Z5 rfl)
def Zj2 (t1:Tern)(i2:Int)(o3:Bool):Option Tern:=
 (Zb9 i2).bind fun x6=>(Z6k t1).bind fun x8=>(Z8u x8.Mask x6).bind fun x9=>(Z7a x8.Value x6).bind fun x10=>(bif o3 then (Z8u ({{x8 with Mask:=x9} with Value:=x10}.Value) x6).bind fun x11=>some {{{x8 with Mask:=x9} with Value:=x10} with Value:=x11} else some {{x8 with Mask:=x9} with Value:=x10})
theorem Y1q:Q3 Tryz.prog 235 (rd Z7) (rd (Z0 .i64)) (rd Z3) (rd Z7) Zj2:=fun t1 i2 o3 r h=>I0 Tryz.func235 rfl Tryz.ntmps235 rfl fun w H Z=>by
 unfold Zj2 at h
 refine SR<|Cv rfl (Zm 4 rfl rfl (vt rfl)) fun g4=>Cv rfl (Zo 7 rfl rfl Z2l) fun g5=>Nl<|sq ?_
 obtain ⟨x6,hx6,h⟩:=Z6 h
 refine Rg<|Md rfl<|Cl [8] (Zi4 _ _ hx6) Zip rfl<|Cv rfl (Zo 8 rfl rfl Z39) fun g7=>Ze Z06 8 rfl<|Nl<|sq ?_
 obtain ⟨x8,hx8,h⟩:=Z6 h
 refine Rg<|Ld Z0j 4 rfl<|Cl [10] (Z7p _ _ hx8) e33 rfl<|Ze Z0j 4 rfl<|Nl<|sq ?_
 obtain ⟨x9,hx9,x10,hx10,h⟩:=bs2 h
 refine AR Z03 (by kernel_rfl)<|SFd lTern_1 Z3q rfl<|Zu Z06 4 rfl<|Zu Z06 8 rfl<|SCl [13,14] (Zbq _ _ _ hx9) Zcg rfl<|SFd lTern_0 Z42 rfl<|Zu Z06 4 rfl<|Zu Z06 8 rfl<|SCl [17,18] (Z95 _ _ _ hx10) Z8b rfl<|SFd lTern_1 Z3q rfl<|SSt Z06 4 rfl<|SFd lTern_0 Z42 rfl<|SSt Z06 4 rfl<|Sn<|sq<|SR<|Md rfl<|Nl<|Cq rfl h (fun h=>?_) (fun h=>?_)
 ·obtain ⟨x11,hx11,h⟩:=Z6 h
  refine Rg<|Zf lTern_0 Z42 rfl<|Ld Z06 4 rfl<|Ld Z06 8 rfl<|Cl [24,25] (Zbq _ _ _ hx11) Zcg rfl<|Zf lTern_0 Z42 rfl<|Ze Z06 4 rfl<|Nl<|SR<|Ld Z0j 4 rfl<|Ze Z0j 7 rfl<|Nl<|rt ?_
  cases h;exact Z9 Tryz.results235 rfl (Zv rfl (i:=7) rfl Z0j)
 ·refine sk<|SR<|Ld Z0j 4 rfl<|Ze Z0j 7 rfl<|Nl<|rt ?_
  cases h;exact Z9 Tryz.results235 rfl (Zv rfl (i:=7) rfl Z0j)
def Zd9 (sg:Type)(go1:Nat→Zs→(Lp sg)→Option (Lp sg))(i14:Nat)(x16:Tern)(y1:(sg→Zs→Option (Lp sg))):(List Int)→Nat→Zs→(Lp sg)→Option (Lp sg)
 | [],i24,b22,s23=>go1 (i14+1) b22 s23
 | x26::l25,i24,b22,s23=>(Zkn x16.Value x26).bind fun x27=>(chk 24 (i14:Int)).bind fun j29=>(Zj2 (Vector.get b22 j29) x26 (!x27)).bind fun x30=>(chk 24 (i14:Int)).bind fun j31=>(yc y1 s23 (Vector.set b22 j31.1 x30 j31.2)).bind fun s32=>(bif (!(Lp.isGo s32)) then some s32 else (chk 24 (i14:Int)).bind fun j33=>(Zj2 (Vector.get b22 j33) x26 x27).bind fun x34=>(chk 24 (i14:Int)).bind fun j35=>(Zd9 sg go1 i14 x16 y1 l25) (i24+1) (Vector.set b22 j35.1 x34 j35.2) s32)
def Z9q (sg:Type)(y1:(sg→Zs→Option (Lp sg))):(List Tern)→Nat→Zs→(Lp sg)→Option (Lp sg)
 | [],i14,b12,s13=>some s13
 | x16::l15,i14,b12,s13=>(chk 24 (i14:Int)).bind fun j18=>(Zv0 (Vector.get b12 j18) x16).bind fun x19=>(bif (decide ((x19.length:Int)=0)) then (Z9q sg y1 l15) (i14+1) b12 s13 else Zd9 sg (Z9q sg y1 l15) i14 x16 y1 x19 0 b12 s13)
def Zhd (sg:Type)(y1:(sg→Zs→Option (Lp sg)))(s2:(Lp sg))(x3:Zs)(x4:Zs):Option (Lp sg):=
 (Zcs x3).bind fun x5=>(Z9k x3 x4).bind fun x7=>(bif (!x7.2) then (yc y1 s2 x5).bind fun s9=>some s9 else Z9q sg y1 (Vector.toList x4) 0 x5 s2)
theorem Y7s (sg:Type)(y1:(sg→Zs→Option (Lp sg)))(L:Lp sg→Res)(s2:(Lp sg))(x3:Zs)(x4:Zs)(r:(Lp sg))(h:Zhd sg y1 s2 x3 x4=some r):Con Tryz.prog 232 [ydA Tryz.prog (Z4 24 Z7) y1 L,rp (Z4 24 Z7) x3,rp (Z4 24 Z7) x4] (L s2) (fun _:Unit=>top) (fun _=>L r):=by
 refine Con.intro Tryz.func232 rfl Tryz.ntmps232 rfl fun w H X Z=>?_
 unfold Zhd at h
 refine AW.scope<|sq ?_
 obtain ⟨x5,hx5,h⟩:=Z6 h
 refine Rg<|Lp1 Z09 rfl<|Cl [14] (Zif _ _ hx5) e31 rfl<|Cv rfl (Zo 5 rfl rfl Z22) fun g6=>Ze Z09 5 rfl<|Nl<|sq<|sq ?_
 obtain ⟨x7,hx7,h⟩:=Z6 h
 refine Rg<|Lp1 Z09 rfl<|Lp1 Z09 rfl<|Cl [17,18] (Zde _ _ _ hx7) Zen rfl<|Mt2 rfl<|Ac (Z10 rfl rfl (vt rfl)) rfl<|Ac (Z0z rfl rfl (vt rfl)) rfl<|Cv rfl (Zo 6 rfl rfl Z22) fun g8=>Ze Z09 6 rfl<|As rfl<|Nl<|SR<|Md rfl<|Ac (Z0g rfl rfl (vt rfl)) rfl<|Nl<|Cq rfl h (fun h=>?_) (fun h=>?_)
 ·refine sq ?_
  obtain ⟨s9,hs9,h⟩:=Z6 h
  refine Rg<|Ac (Zk (A:=ydA Tryz.prog (Z4 24 Z7) y1 L) rfl rfl (vt rfl)) rfl<|Ld Z09 5 rfl<|Ac (Zbd 0 hs9 rfl rfl (vt rfl) (vt rfl) rfl) rfl<|Nl<|rt ?_
  cases h;exact Z21 (i:=0) Tryz.results232 rfl rfl
 ·refine sk<|sq<|AW.label<|SR<|Lp1 Z09 rfl<|Mk rfl<|Nl<|bk<|LG (d:=[]) (ν:=(List Tern)×Nat×Zs×(Lp sg)) (fun (l15,i14,b12,s13)=>(Sfx (Vector.toList x4) i14 l15∧Z9q sg y1 l15 i14 b12 s13=some r,l15.length,[(0,ydA Tryz.prog (Z4 24 Z7) y1 L),(4,Za g6 (Lens.id (Z4 24 Z7))),(27,rd (Z4 24 Z7) x4),(28,rd (Z0 .i64) (i14:Int))],[(0,L s13),(5,Zd g6 32 (Z4 24 Z7) b12)])) ((Vector.toList x4),0,x5,s2) ⟨Sfx.start _,h⟩ (FX rfl) ?_
  rintro ⟨l15,i14,b12,s13⟩ ⟨hsf1,h⟩
  dsimp only at hsf1 h ⊢
  cases l15 with
  | nil=>
   unfold Z9q at h
   refine SR<|Ac (Zh rfl rfl (vt rfl) (vk rfl)) rfl<|Nl<|sq<|Cn rfl (fun hc=>absurd (of_decide_eq_true hc) (hsf1.niln (by simp))) (fun hc=>?_)
   refine xt ?_
   cases h;exact Z21 (i:=0) Tryz.results232 rfl rfl
  | cons x16 l15=>
   unfold Z9q at h
   refine SR<|Ac (Zh rfl rfl (vt rfl) (vk rfl)) rfl<|Nl<|sq<|Cn rfl (fun hc=>?_) (fun hc=>absurd (hsf1.consn (by simp)) (of_decide_eq_false hc))
   have hlti14:=of_decide_eq_true hc
   refine sk<|sq<|bk<|SR<|Md rfl<|Ac (Z7n rfl rfl Z3t Z0j (vt rfl) (vt rfl) hsf1.lget) rfl<|Cv rfl (Zo 9 rfl rfl Z2l) fun g17=>As rfl<|Ze Z0j 9 rfl<|Nl<|sq ?_
   obtain ⟨j18,hj18,x19,hx19,h⟩:=bs2 h
   refine AR Z03 (by kernel_rfl)<|SMd rfl<|Sd (lo [4,32] [] rfl fun S hs hr=>Z2o rfl rfl Z3t (vh hs 4 rfl rfl) (vh hs 32 rfl rfl) hj18)<|Zu Z0j 5 rfl<|Zu Z0j 9 rfl<|SCl [34,35] (Y7k _ _ _ hx19) Yab rfl<|SAs rfl<|Sn<|sq<|SR<|Md rfl<|Ac (Z07 rfl rfl Z15 (vt rfl)) rfl<|Ac (Zy rfl rfl (vt rfl) (vk rfl)) rfl<|Nl<|Cq rfl h (fun h=>?_) (fun h=>?_)
   ·refine xt<|Rg<|Ac (Z43 rfl rfl (vt rfl) (vk rfl) rfl hlti14) rfl<|Md rfl<|Nl ?_
    exact ⟨(_,_,_,_),Nat.lt_succ_self _,⟨hsf1.next,h⟩,FX rfl⟩
   ·refine sk<|SR<|Md rfl<|Ac (Z07 rfl rfl Z15 (vt rfl)) rfl<|Mk rfl<|Nl<|bk<|LG (d:=[]) (ν:=(List Int)×Nat×Zs×(Lp sg)) (fun (l25,i24,b22,s23)=>(Sfx x19 i24 l25∧Zd9 sg (Z9q sg y1 l15) i14 x16 y1 l25 i24 b22 s23=some r,l25.length,[(0,ydA Tryz.prog (Z4 24 Z7) y1 L),(4,Za g6 (Lens.id (Z4 24 Z7))),(7,rd (Z0 .i64) (i14:Int)),(8,Za g17 (Lens.id Z7)),(27,rd (Z4 24 Z7) x4),(28,rd (Z0 .i64) (i14:Int)),(40,rd (Z1 (Z0 .i64)) x19),(41,rd (Z0 .i64) (x19.length:Int)),(42,rd (Z0 .i64) (i24:Int))],[(0,L s23),(5,Zd g6 32 (Z4 24 Z7) b22),(9,Zd g17 30 Z7 x16)])) (x19,0,b12,s13) ⟨Sfx.start _,h⟩ (FX rfl) ?_
    rintro ⟨l25,i24,b22,s23⟩ ⟨hsf2,h⟩
    dsimp only at hsf2 h ⊢
    cases l25 with
    | nil=>
     unfold Zd9 at h
     refine SR<|Ac (Zh rfl rfl (vt rfl) (vt rfl)) rfl<|Nl<|sq<|Cn rfl (fun hc=>absurd (of_decide_eq_true hc) hsf2.nil) (fun hc=>?_)
     refine xt<|Rg<|Ac (Z43 rfl rfl (vt rfl) (vk rfl) rfl hlti14) rfl<|Md rfl<|Nl ?_
     exact ⟨(_,_,_,_),Nat.lt_succ_self _,⟨hsf1.next,h⟩,FX rfl⟩
    | cons x26 l25=>
     unfold Zd9 at h
     refine SR<|Ac (Zh rfl rfl (vt rfl) (vt rfl)) rfl<|Nl<|sq<|Cn rfl (fun hc=>?_) (fun hc=>absurd hsf2.cons (of_decide_eq_false hc))
     have hlti24:=of_decide_eq_true hc
     refine sk<|sq<|bk<|SR<|Ac (Z0d rfl rfl Z15 (vt rfl) (vt rfl) hsf2.lget) rfl<|Lp1 Zc rfl<|As rfl<|Nl<|sq ?_
     obtain ⟨x27,hx27,h⟩:=Z6 h
     refine Rg<|Zf lTern_0 Z42 rfl<|Ld Z06 9 rfl<|Md rfl<|Cl [47,48] (Y0d _ _ _ hx27) Zxh rfl<|As rfl<|Nl<|SR<|Ld Z09 5 rfl<|Cv rfl (Zo 14 rfl rfl Z22) fun g28=>Ze Z09 14 rfl<|Nl<|sq ?_
     obtain ⟨j29,hj29,x30,hx30,j31,hj31,h⟩:=bs3 h
     refine Rg<|Md rfl<|Md rfl<|Ac (Z2o rfl rfl Z3t (vt rfl) (vt rfl) hj29) rfl<|Ld Z0j 5 rfl<|Md rfl<|Md rfl<|Ac (Z0g rfl rfl (vt rfl)) rfl<|Cl [54,55,57] (Y1q _ _ _ _ hx30) Zy4 rfl<|Ac (Z2o rfl rfl Z3t (vt rfl) (vt rfl) hj31) rfl<|Ze Z0j 14 rfl<|Nl<|sq<|sq ?_
     obtain ⟨s32,hs32,h⟩:=Z6 h
     refine Rg<|Ac (Zk (A:=ydA Tryz.prog (Z4 24 Z7) y1 L) rfl rfl (vt rfl)) rfl<|Ld Z09 14 rfl<|Ac (Zbd 0 hs32 rfl rfl (vt rfl) (vt rfl) rfl) rfl<|Ac (Z0g rfl rfl (vt rfl)) rfl<|Nl<|Cq rfl h (fun h=>?_) (fun h=>?_)
     ·refine xt ?_
      cases h;exact Z21 (i:=0) Tryz.results232 rfl rfl
     ·refine sk ?_
      obtain ⟨j33,hj33,x34,hx34,j35,hj35,h⟩:=bs3 h
      refine Rg<|Md rfl<|Md rfl<|Ac (Z2o rfl rfl Z3t (vt rfl) (vt rfl) hj33) rfl<|Ld Z0j 5 rfl<|Md rfl<|Md rfl<|Cl [67,68,69] (Y1q _ _ _ _ hx34) Zy4 rfl<|Ac (Z2o rfl rfl Z3t (vt rfl) (vt rfl) hj35) rfl<|Ze Z0j 5 rfl<|Nl<|Rg<|Ac (Z0a (t:=41) rfl rfl (vt rfl) (vk rfl) (vt rfl) hlti24) rfl<|Md rfl<|Nl ?_
      exact ⟨(_,_,_,_),Nat.lt_succ_self _,⟨hsf2.next,h⟩,FX rfl⟩
def Zju (a1:Zs)(b2:Zs):Option (Itr Zs):=
 some (Itr.mk fun σ y s=>Zhd σ y s a1 b2)
theorem Zvw:Q2 Tryz.prog 195 (rd (Z4 24 Z7)) (rd (Z4 24 Z7)) (Z2s Tryz.prog (Z4 24 Z7)) Zju:=fun a1 b2 r h=>I0 Tryz.func195 rfl Tryz.ntmps195 rfl fun w H Z=>by
 unfold Zju at h
 refine SR<|Cv rfl (Zm 3 rfl rfl (vt rfl)) fun g3=>Cv rfl (Zm 4 rfl rfl (vt rfl)) fun g4=>Ac (Zn (A:=Zg .nilFunc) rfl rfl vc) rfl<|Nl<|sq<|AW.freezeB 2 3 rfl rfl rfl<|AW.freezeB 3 4 rfl rfl rfl<|Rg<|Ac (Zhu (Itr.mk fun σ y s=>Zhd σ y s a1 b2) (cs:=[.tmp 2,.tmp 3]) (CAs:=[rp (Z4 24 Z7) a1,rp (Z4 24 Z7) b2]) rfl rfl Yco ⟨vt rfl,vt rfl,trivial⟩ (fun σ y L s r h=>Y7s σ y L s a1 b2 r h)) rfl<|Ac (Zn (A:=Z2s Tryz.prog (Z4 24 Z7) (Itr.mk fun σ y s=>Zhd σ y s a1 b2)) rfl rfl (vt rfl)) rfl<|Nl<|rt ?_
 cases h;exact Z9 Tryz.results195 rfl (Z5 rfl)
def Zm2 (l4:(List Zs))(x10:(Bool×Int))(R_cover_look_at:(cover_look→Zs→(List Zs)→Option (Z3i×Bool×Bool×cover_look)))(b18:cover_look)(b19:Z3i)(b20:Bool)(b21:Bool)(x23:Zs):Option (Lp (cover_look×Z3i×Bool×Bool)):=
 (Z3z l4 (IntKind.i64.wrap (x10.2+1))).bind fun s25=>(R_cover_look_at b18 x23 s25).bind fun b26=>(bif (b26.2.1||(!b26.2.2.1)) then some (.out (.exit 1) (b26.2.2.2,b26.1,b26.2.1,b26.2.2.1)) else some (.go (b26.2.2.2,b26.1,b26.2.1,b26.2.2.1)))
def Zp7 (R_cover_look_at:(cover_look→Zs→(List Zs)→Option (Z3i×Bool×Bool×cover_look)))(s1:cover_look)(x3:Zs)(l4:(List Zs)):Option (Z3i×Bool×Bool×cover_look):=
 (Zqq s1.purse).bind fun b9=>(bif (!b9.1) then some ((Vector.replicate 24 Z0r),false,false,{s1 with purse:=b9.2}) else (Zoz x3 l4).bind fun x10=>(bif x10.1 then some ((Vector.replicate 24 Z0r),false,true,{s1 with purse:=b9.2}) else (bif (decide (x10.2<0)) then (Zly x3).bind fun x12=>some (x12,true,true,{s1 with purse:=b9.2}) else (lget l4 x10.2).bind fun x16=>(Zju x3 x16).bind fun x17=>(Itr.run x17 (cover_look×Z3i×Bool×Bool) (fun s x=>Zm2 l4 x10 R_cover_look_at s.1 s.2.1 s.2.2.1 s.2.2.2 x) (.go ({s1 with purse:=b9.2},(Vector.replicate 24 Z0r),false,true))).bind fun z22=>Zn2 z22 (fun s27=>some (s27.2.1,s27.2.2.1,s27.2.2.2,s27.1)) (fun c s27=>bif Zii 1 c then some (s27.2.1,s27.2.2.1,s27.2.2.2,s27.1) else none))))
theorem Yo0 (R_cover_look_at:(cover_look→Zs→(List Zs)→Option (Z3i×Bool×Bool×cover_look)))(hR_cover_look_at:∀(g2 gT:Nat) (s1:cover_look) (x3:Zs) (l4:(List Zs)) (r:(Z3i×Bool×Bool×cover_look)),R_cover_look_at s1 x3 l4=some r→Con Tryz.prog 189 [Za g2 (Lens.id Z20),rd (Z4 24 Z7) x3,rd (Z1 (Z4 24 Z7)) l4] (Zd g2 gT Z20 s1) (fun _:Unit=>Z3j (rd (Z4 24 Zw) r.1) (rd Z3 r.2.1) (rd Z3 r.2.2.1)) (fun _=>Zd g2 gT Z20 r.2.2.2))(g2 gT:Nat)(s1:cover_look)(x3:Zs)(l4:(List Zs))(r:(Z3i×Bool×Bool×cover_look))(h:Zp7 R_cover_look_at s1 x3 l4=some r):Con Tryz.prog 189 [Za g2 (Lens.id Z20),rd (Z4 24 Z7) x3,rd (Z1 (Z4 24 Z7)) l4] (Zd g2 gT Z20 s1) (fun _:Unit=>Z3j (rd (Z4 24 Zw) r.1) (rd Z3 r.2.1) (rd Z3 r.2.2.1)) (fun _=>Zd g2 gT Z20 r.2.2.2):=by
 refine Con.intro Tryz.func189 rfl Tryz.ntmps189 rfl fun w H X Z=>?_
 unfold Zp7 at h
 refine SR<|Cv rfl (Zm 4 rfl rfl (vkp (vt rfl))) fun g5=>Cv rfl (Zm 5 rfl rfl (vt rfl)) fun g6=>Cv rfl (Zm 6 rfl rfl (vt rfl)) fun g7=>Cv rfl (Zo 7 rfl rfl Z6n) fun g8=>Ab rfl<|Ab rfl<|Nl<|AW.scope<|sq<|sq ?_
 obtain ⟨b9,hb9,h⟩:=Z6 h
 refine Rg<|Ac (Zaj (A:=Za g2 (Lens.id Z20)) rfl rfl rfl (Zxo _) (vt rfl) (i:=4) rfl) rfl<|Nc rfl<|Zf lcover_look_0 Ygs rfl<|Cv rfl (Z0y 0 (xs:=[.tmp 17]) (Yom _ _ _ _ hb9) Y51 rfl rfl ⟨vt rfl,trivial⟩ rfl) fun _u=>AOps.told 0 (Zd g2 gT Z20 {s1 with purse:=b9.2}) rfl<|Ac (Z0g rfl rfl (vt rfl)) rfl<|Nl<|Cq rfl h (fun h=>?_) (fun h=>?_)
 ·refine SR<|Ac (Z23 (ps:=[]) (x:=(Vector.replicate 24 Z0r)) rfl rfl rfl (by kernel_rfl) Z6n rfl) rfl<|Ze Z34 7 rfl<|Ab rfl<|Ab rfl<|Nl<|rt ?_
  cases h;exact Zgc (i:=0) Tryz.results189 rfl (Zv rfl (i:=7) rfl Z34) (Z5 rfl) (Z5 rfl) rfl
 ·refine sk<|sq ?_
  obtain ⟨x10,hx10,h⟩:=Z6 h
  refine Rg<|Ld Z09 5 rfl<|Ld Zm7 6 rfl<|Cl [22,23] (Ym4 _ _ _ hx10) Yht rfl<|Mt2 rfl<|Ac (Z10 rfl rfl (vt rfl)) rfl<|Ac (Z0z rfl rfl (vt rfl)) rfl<|Cv rfl (Zo 11 rfl rfl zr3) fun g11=>As rfl<|Ze Zc 11 rfl<|Nl<|sq<|bk<|SR<|Md rfl<|As rfl<|Nl<|Cq rfl h (fun h=>?_) (fun h=>?_)
  ·refine SR<|Ac (Z23 (ps:=[]) (x:=(Vector.replicate 24 Z0r)) rfl rfl rfl (by kernel_rfl) Z6n rfl) rfl<|Ze Z34 7 rfl<|Ab rfl<|Ab rfl<|Nl<|rt ?_
   cases h;exact Zgc (i:=0) Tryz.results189 rfl (Zv rfl (i:=7) rfl Z34) (Z5 rfl) (Z5 rfl) rfl
  ·refine SR<|Ld Zc 11 rfl<|Ac (Zh rfl rfl (vt rfl) (vk rfl)) rfl<|As rfl<|Nl<|Cq rfl h (fun h=>?_) (fun h=>?_)
   ·refine sq ?_
    obtain ⟨x12,hx12,h⟩:=Z6 h
    refine Rg<|Ld Z09 5 rfl<|Cl [33] (Y31 _ _ hx12) e18 rfl<|Ze Z34 7 rfl<|Ab rfl<|Ab rfl<|Nl<|rt ?_
    cases h;exact Zgc (i:=0) Tryz.results189 rfl (Zv rfl (i:=7) rfl Z34) (Z5 rfl) (Z5 rfl) rfl
   ·refine sk<|SR<|Cv rfl (Zo 12 rfl rfl Z6n) fun g13=>Nl<|SR<|Cv rfl (Zo 13 rfl rfl zr4) fun g14=>Cv rfl (Zo 14 rfl rfl zr4) fun g15=>Ac (Z3s rfl rfl ty4 (vt rfl) (i:=13) rfl vb) rfl<|Ac (Z3s rfl rfl ty4 (vt rfl) (i:=14) rfl vb) rfl<|Nl<|sq<|AW.label<|sq<|sq ?_
    obtain ⟨x16,hx16,x17,hx17,h⟩:=bs2 h
    refine AR Z03 (by kernel_rfl)<|Zu Z09 5 rfl<|Zu Zm7 6 rfl<|Zu Zc 11 rfl<|Sd (lo [36,37] [] rfl fun S hs hr=>Z0d rfl rfl Z3b (vh hs 36 rfl rfl) (vh hs 37 rfl rfl) hx16)<|SLp Z09 rfl<|SCl [35,39] (Zvw _ _ _ hx17) Zxu rfl<|Sn<|bk ?_
    obtain ⟨z22,hz22,h⟩:=Z6 h
    refine AW.fit (d:=[]) (L:=[(3,Za g5 (Lens.id (kas (Za g2 (Lens.id Z20))))),(5,Za g7 (Lens.id (Z1 (Z4 24 Z7)))),(6,Za g8 (Lens.id (Z4 24 Zw))),(7,rd Z3 false),(8,rd Z3 false),(10,Za g11 (Lens.id (Z0 .i64))),(11,Za g13 (Lens.id (Z4 24 Zw))),(12,Za g14 (Lens.id Z3)),(13,Za g15 (Lens.id Z3)),(40,Z2s Tryz.prog (Z4 24 Z7) x17)]) (M:=[(4,Zd g5 310 (kas (Za g2 (Lens.id Z20))) ()),(0,Zd g2 gT Z20 {s1 with purse:=b9.2}),(6,Zd g7 25 (Z1 (Z4 24 Z7)) l4),(7,Zd g8 36 (Z4 24 Zw) (Vector.replicate 24 Z0r)),(11,Zd g11 3 (Z0 .i64) x10.2),(12,Zd g13 36 (Z4 24 Zw) (Vector.replicate 24 Z0r)),(13,Zd g14 4 Z3 false),(14,Zd g15 4 Z3 true)]) (FX rfl) ?_
    refine AW.rangeFunc (σ:=cover_look×Z3i×Bool×Bool) (fun x=>[rd (Z4 24 Z7) x]) (fun s x=>Zm2 l4 x10 R_cover_look_at s.1 s.2.1 s.2.2.1 s.2.2.2 x) (fun s=>Z2e ((fun s=>[(4,Zd g5 310 (kas (Za g2 (Lens.id Z20))) ()),(0,Zd g2 gT Z20 s.1),(6,Zd g7 25 (Z1 (Z4 24 Z7)) l4),(7,Zd g8 36 (Z4 24 Zw) (Vector.replicate 24 Z0r)),(11,Zd g11 3 (Z0 .i64) x10.2),(12,Zd g13 36 (Z4 24 Zw) s.2.1),(13,Zd g14 4 Z3 s.2.2.1),(14,Zd g15 4 Z3 s.2.2.2)]) s)) (fun _ s=>Z2e ((fun s=>[(4,Zd g5 310 (kas (Za g2 (Lens.id Z20))) ()),(0,Zd g2 gT Z20 s.1),(6,Zd g7 25 (Z1 (Z4 24 Z7)) l4),(7,Zd g8 36 (Z4 24 Zw) (Vector.replicate 24 Z0r)),(11,Zd g11 3 (Z0 .i64) x10.2),(12,Zd g13 36 (Z4 24 Zw) s.2.1),(13,Zd g14 4 Z3 s.2.2.1),(14,Zd g15 4 Z3 s.2.2.2)]) s)) [(3,Za g5 (Lens.id (kas (Za g2 (Lens.id Z20))))),(5,Za g7 (Lens.id (Z1 (Z4 24 Z7)))),(6,Za g8 (Lens.id (Z4 24 Zw))),(7,rd Z3 false),(8,rd Z3 false),(10,Za g11 (Lens.id (Z0 .i64))),(11,Za g13 (Lens.id (Z4 24 Zw))),(12,Za g14 (Lens.id Z3)),(13,Za g15 (Lens.id Z3))] (fun s x23 S1=> ∃(g24:Nat),Fit S1 [] [(3,Za g5 (Lens.id (kas (Za g2 (Lens.id Z20))))),(5,Za g7 (Lens.id (Z1 (Z4 24 Z7)))),(6,Za g8 (Lens.id (Z4 24 Zw))),(7,rd Z3 false),(8,rd Z3 false),(10,Za g11 (Lens.id (Z0 .i64))),(11,Za g13 (Lens.id (Z4 24 Zw))),(12,Za g14 (Lens.id Z3)),(13,Za g15 (Lens.id Z3)),(14,Za g24 (Lens.id (Z4 24 Z7)))] [(4,Zd g5 310 (kas (Za g2 (Lens.id Z20))) ()),(0,Zd g2 gT Z20 s.1),(6,Zd g7 25 (Z1 (Z4 24 Z7)) l4),(7,Zd g8 36 (Z4 24 Zw) (Vector.replicate 24 Z0r)),(11,Zd g11 3 (Z0 .i64) x10.2),(12,Zd g13 36 (Z4 24 Zw) s.2.1),(13,Zd g14 4 Z3 s.2.2.1),(14,Zd g15 4 Z3 s.2.2.2),(15,Zd g24 32 (Z4 24 Z7) x23)]) 3001 (s0:=({s1 with purse:=b9.2},(Vector.replicate 24 Z0r),false,true)) (sE:=z22) rfl (vt rfl) ⟨rfl,inferInstance,rfl,inferInstance,rfl,inferInstance,rfl,inferInstance,rfl,inferInstance,rfl,inferInstance,rfl,inferInstance,rfl,inferInstance,rfl,inferInstance,trivial⟩ rfl (fun _=>rfl) (by intro p hp;have hp:p∈[41]:=hp;rw [List.mem_singleton.1 hp];show 41<61;decide) ?ha1 ?hb1 (fun Lf=>⟨top,_,_,Lf,_,_,hz22,rfl,rfl,rfl,rfl⟩) ?he1
    case ha1=>
     rintro ⟨b18,b19,b20,b21⟩ x23 r hF l w H X Z
     refine Rg<|Cv rfl (Zo 15 rfl rfl Z22) fun g24=>Ze Z09 15 rfl<|Nl ?_
     exact ⟨rfl,g24,FX rfl⟩
    case hb1=>
     rintro ⟨b18,b19,b20,b21⟩ x23 r h S1 ⟨g24,hfit⟩ l w H X Z
     refine AW.fit (d:=[]) (L:=[(3,Za g5 (Lens.id (kas (Za g2 (Lens.id Z20))))),(5,Za g7 (Lens.id (Z1 (Z4 24 Z7)))),(6,Za g8 (Lens.id (Z4 24 Zw))),(7,rd Z3 false),(8,rd Z3 false),(10,Za g11 (Lens.id (Z0 .i64))),(11,Za g13 (Lens.id (Z4 24 Zw))),(12,Za g14 (Lens.id Z3)),(13,Za g15 (Lens.id Z3)),(14,Za g24 (Lens.id (Z4 24 Z7)))]) (M:=[(4,Zd g5 310 (kas (Za g2 (Lens.id Z20))) ()),(0,Zd g2 gT Z20 b18),(6,Zd g7 25 (Z1 (Z4 24 Z7)) l4),(7,Zd g8 36 (Z4 24 Zw) (Vector.replicate 24 Z0r)),(11,Zd g11 3 (Z0 .i64) x10.2),(12,Zd g13 36 (Z4 24 Zw) b19),(13,Zd g14 4 Z3 b20),(14,Zd g15 4 Z3 b21),(15,Zd g24 32 (Z4 24 Z7) x23)]) hfit<|AW.bodyT ?_
     change Zm2 l4 x10 R_cover_look_at b18 b19 b20 b21 x23=some r at h
     unfold Zm2 at h
     refine bk<|sq ?_
     obtain ⟨s25,hs25,b26,hb26,h⟩:=bs2 h
     refine AR Z03 (by kernel_rfl)<|Sd (lo [3] [4] rfl fun S hs hr=>Zaj (A:=Za g2 (Lens.id Z20)) rfl rfl rfl (Zxo _) (vh hs 3 rfl rfl) (i:=4) ((hr 4 rfl).trans rfl))<|Zu Z09 15 rfl<|Zu Zm7 6 rfl<|Zu Zc 11 rfl<|Sd (lo [46] [] rfl fun S hs hr=>Z0o rfl rfl (vh hs 46 rfl rfl) (vk rfl))<|Sd (lo [45,47] [] rfl fun S hs hr=>Zj1 hs25 rfl rfl Z3b (vh hs 45 rfl rfl) (vh hs 47 rfl rfl))<|Sd (Z18 (us:=[(49,Z3j (rd (Z4 24 Zw) b26.1) (rd Z3 b26.2.1) (rd Z3 b26.2.2.1))]) (ur:=[(0,Zd g2 gT Z20 b26.2.2.2)]) [43,44,48] [0] rfl fun S hs hr=>Zyg 0 (xs:=[.tmp 43,.tmp 44,.tmp 48]) (hR_cover_look_at _ _ _ _ _ _ hb26) Zzv rfl rfl ⟨vt ((hs 43 rfl).trans rfl),vt ((hs 44 rfl).trans rfl),vt ((hs 48 rfl).trans rfl),trivial⟩ ((hr 0 rfl).trans rfl))<|Sd (lo [49] [] rfl fun S hs hr=>Zk (A:=Z3j (rd (Z4 24 Zw) b26.1) (rd Z3 b26.2.1) (rd Z3 b26.2.2.1)) rfl rfl (vh hs 49 rfl rfl))<|Sd (lo [42] [] rfl fun S hs hr=>Zho rfl rfl (vh hs 42 rfl rfl))<|Sd (lo [42] [] rfl fun S hs hr=>Zh4 rfl rfl (vh hs 42 rfl rfl))<|Sd (lo [42] [] rfl fun S hs hr=>Zgn rfl rfl (vh hs 42 rfl rfl))<|SSt Z34 12 rfl<|SSt ty4 13 rfl<|SSt ty4 14 rfl<|Sn<|SR<|Ld ty4 13 rfl<|Md rfl<|Gd rfl (fun hq=>Z08 rfl rfl ty4 (vt rfl) (i:=14) rfl)<|Gd rfl (fun hq=>Z0g rfl rfl (Z8 rfl hq))<|Ac (Z1u rfl rfl (vt rfl) (vt rfl)) rfl<|Nl<|Cq rfl h (fun h=>?_) (fun h=>?_)
     ·refine xt ?_
      obtain rfl:=si h
      exact ⟨_,(b26.2.2.2,b26.1,b26.2.1,b26.2.2.1),Turn.refl,rfl,⟨rfl,rfl,rfl,rfl,rfl,rfl,rfl,rfl,trivial⟩⟩
     ·refine sk ?_
      obtain rfl:=si h
      exact ⟨_,(b26.2.2.2,b26.1,b26.2.1,b26.2.2.1),Turn.refl,rfl,⟨rfl,rfl,rfl,rfl,rfl,rfl,rfl,rfl,trivial⟩⟩
    case he1=>
     intro D
     cases z22 with
     | go s27=>
      change _=some r at h
      refine sq<|AR Z03 (by kernel_rfl)<|Zu Z34 12 rfl<|Zu ty4 13 rfl<|Zu ty4 14 rfl<|SSt Z34 7 rfl<|SAs rfl<|SAs rfl<|Sn<|rt ?_
      cases h;exact ⟨rfl,3001,_,rfl,Zgc (i:=0) Tryz.results189 rfl (Zv rfl (i:=7) rfl Z34) (Z5 rfl) (Z5 rfl) rfl⟩
     | out c s27=>
      change (bif Zii 1 c then _ else _)=some r at h
      cases hc:Zii 1 c with
      | true=>
       rw [hc] at h
       have hc:=Yar hc
       subst hc
       change _=some r at h
       refine xt<|sq<|AR Z03 (by kernel_rfl)<|Zu Z34 12 rfl<|Zu ty4 13 rfl<|Zu ty4 14 rfl<|SSt Z34 7 rfl<|SAs rfl<|SAs rfl<|Sn<|rt ?_
       cases h;exact ⟨rfl,3001,_,rfl,Zgc (i:=0) Tryz.results189 rfl (Zv rfl (i:=7) rfl Z34) (Z5 rfl) (Z5 rfl) rfl⟩
      | false=>
       rw [hc] at h
       cases h
def Zix:Nat→(cover_look→Zs→(List Zs)→Option (Z3i×Bool×Bool×cover_look))
 | 0=>(fun _ _ _=>none)
 | n+1=>(Zp7 (Zix n))
theorem Y3t:∀n:Nat,(∀(g2 gT:Nat) (s1:cover_look) (x3:Zs) (l4:(List Zs)) (r:(Z3i×Bool×Bool×cover_look)),(Zix n) s1 x3 l4=some r→Con Tryz.prog 189 [Za g2 (Lens.id Z20),rd (Z4 24 Z7) x3,rd (Z1 (Z4 24 Z7)) l4] (Zd g2 gT Z20 s1) (fun _:Unit=>Z3j (rd (Z4 24 Zw) r.1) (rd Z3 r.2.1) (rd Z3 r.2.2.1)) (fun _=>Zd g2 gT Z20 r.2.2.2))
 | 0=>(by intros;rename_i h;cases h)
 | n+1=>by
  have ih:=Y3t n
  exact (Yo0 (Zix n) ih)
def Y1b (s1:cover_look)(x3:Zs)(l4:(List Zs)):Option (Z3i×Bool×Bool×cover_look):=(Zix Z2p) s1 x3 l4
theorem Y77:∀(g2 gT:Nat) (s1:cover_look) (x3:Zs) (l4:(List Zs)) (r:(Z3i×Bool×Bool×cover_look)),Y1b s1 x3 l4=some r→Con Tryz.prog 189 [Za g2 (Lens.id Z20),rd (Z4 24 Z7) x3,rd (Z1 (Z4 24 Z7)) l4] (Zd g2 gT Z20 s1) (fun _:Unit=>Z3j (rd (Z4 24 Zw) r.1) (rd Z3 r.2.1) (rd Z3 r.2.2.1)) (fun _=>Zd g2 gT Z20 r.2.2.2):=Y3t Z2p
end Go.Proofs.YtjppkmpecdbepaaGreatDoor.W
set_option maxHeartbeats 1000000
set_option maxRecDepth 4000
namespace Go.Proofs.YtjppkmpecdbepaaGreatDoor.W
open Go Go.Wb
theorem Yal:Ent Tryz.prog 190:=Ent.mk Tryz.func190 rfl rfl
theorem Yiy:Ent Tryz.prog 144:=Ent.mk Tryz.func144 rfl rfl
theorem Yai:Ent Tryz.prog 143:=Ent.mk Tryz.func143 rfl rfl
theorem e96:Ent Tryz.prog 96:=Ent.mk Tryz.func96 rfl rfl
theorem e95:Ent Tryz.prog 95:=Ent.mk Tryz.func95 rfl rfl
theorem e97:Ent Tryz.prog 97:=Ent.mk Tryz.func97 rfl rfl
theorem Y0j:Ent Tryz.prog 147:=Ent.mk Tryz.func147 rfl rfl
theorem Yop:Ent Tryz.prog 148:=Ent.mk Tryz.func148 rfl rfl
def Zsk (x1:Zs)(l2:(List Zs))(m3:Int):Option (Z3i×Bool×Int):=
 (Y1b (⟨(⟨(Z4b m3 0),(decide (m3≥1099511627776))⟩:cover_purse)⟩:cover_look) x1 l2).bind fun b7=>(bif (!b7.2.2.1) then some ((Vector.replicate 24 Z0r),false,5) else some (b7.1,b7.2.1,0))
theorem Y5g:Q3 Tryz.prog 143 (rd (Z4 24 Z7)) (rd (Z1 (Z4 24 Z7))) (rd (Z0 .i64)) (fun r=>Z3j (rd (Z4 24 Zw) r.1) (rd Z3 r.2.1) (rd (Z0 .i64) r.2.2)) Zsk:=fun x1 l2 m3 r h=>I0 Tryz.func143 rfl Tryz.ntmps143 rfl fun w H Z=>by
 unfold Zsk at h
 refine SR<|Cv rfl (Zm 4 rfl rfl (vt rfl)) fun g4=>Cv rfl (Zo 7 rfl rfl Z6n) fun g5=>Ab rfl<|Ak rfl<|Nl<|SR<|Md rfl<|Ac (Za2 rfl rfl (vt rfl) (vk rfl)) rfl<|Md rfl<|Ac (Z1z rfl rfl (vt rfl) (vk rfl)) rfl<|Ac (opb (⟨(Z4b m3 0),(decide (m3≥1099511627776))⟩:cover_purse) Yk0 rfl Yj0 (pc Ygw (vt rfl)<|pc Yi3 (vt rfl)<|pn rfl)) rfl<|Ac (opb (⟨(⟨(Z4b m3 0),(decide (m3≥1099511627776))⟩:cover_purse)⟩:cover_look) Y5r rfl Yjo (pc Ylb (vt rfl)<|pn rfl)) rfl<|Cv rfl (Zm 20 rfl rfl (vt rfl)) fun g6=>Ac (Zn (A:=Za g6 (Lens.id Z20)) rfl rfl (vt rfl)) rfl<|Nl<|sq ?_
 obtain ⟨b7,hb7,h⟩:=Z6 h
 refine Rg<|Mp rfl<|Ld Z09 4 rfl<|Md rfl<|Cv rfl (Z0y 20 (xs:=[.tmp 21,.tmp 22,.tmp 23]) (Y77 _ _ _ _ _ _ hb7) Zzv rfl rfl ⟨vt rfl,vt rfl,vt rfl,trivial⟩ rfl) fun _u=>Ac (Zk (A:=Z3j (rd (Z4 24 Zw) b7.1) (rd Z3 b7.2.1) (rd Z3 b7.2.2.1)) rfl rfl (vt rfl)) rfl<|Ac (Zho rfl rfl (vt rfl)) rfl<|Ac (Zh4 rfl rfl (vt rfl)) rfl<|Ac (Zgn rfl rfl (vt rfl)) rfl<|Cv rfl (Zo 11 rfl rfl Z6n) fun g8=>Ze Z34 11 rfl<|As rfl<|As rfl<|Nl<|sq<|SR<|Md rfl<|Ac (Z0g rfl rfl (vt rfl)) rfl<|Nl<|Cq rfl h (fun h=>?_) (fun h=>?_)
 ·refine SR<|Ac (Z23 (ps:=[]) (x:=(Vector.replicate 24 Z0r)) rfl rfl rfl (by kernel_rfl) Z6n rfl) rfl<|Ze Z34 7 rfl<|Ab rfl<|Ak rfl<|Nl<|rt ?_
  cases h;exact Zaw Tryz.results143 rfl (Zv rfl (i:=7) rfl Z34) (Z5 rfl) (Z5 rfl)
 ·refine sk<|SR<|Ld Z34 11 rfl<|Md rfl<|Ze Z34 7 rfl<|As rfl<|Ak rfl<|Nl<|rt ?_
  cases h;exact Zaw Tryz.results143 rfl (Zv rfl (i:=7) rfl Z34) (Z5 rfl) (Z5 rfl)
def Zp3 (s:List Rule):Option (List Rule):=Z11 [] s
theorem Yki (s:List Rule)(r:List Rule)(h:Zp3 s=some r):Con Tryz.prog 190 [rd (Z1 Z0n) s] emp (fun v=>Zg v) (fun v=>Zi v 165 Z0n r):=by
 refine Con.intro0 Tryz.func190 rfl Tryz.ntmps190 rfl fun w H Z=>?_
 unfold Zp3 at h
 refine AW.newnil 1001 165 Z0n<|SR<|Ac (Zn (A:=Zg (.slice none 0 0)) rfl rfl vc) rfl<|Nl<|sq<|SR<|Md rfl<|Ct rfl (Z96 rfl rfl Z4f (vt rfl)) ?_
 rintro _ ⟨b,hb,rfl⟩
 refine Nl<|Cn rfl (fun hc=>?_) (fun hc=>?_)
 ·obtain rfl:=hb hc
  refine SR<|Ac (Zn (A:=Zg (.slice none 0 0)) rfl rfl vc) rfl<|Nl<|rt ?_
  obtain rfl:=(Z5y h).2
  exact Z29 (i:=1001) Tryz.results190 rfl rfl rfl
 ·refine sk<|SR<|Cv rfl (Z65 1002 (ps:=[]) (l:=[]) rfl rfl Z4f Z8e rfl rfl rfl rfl) fun v1=>Md rfl<|Cv rfl (Z1f 1002 h rfl rfl Zo5 (vt rfl) rfl (vt rfl)) fun v2=>Aw rfl<|Nl<|rt ?_
  exact Z29 (i:=1002) Tryz.results190 rfl rfl rfl
def Zdp:Nat→Nat→(List Rule)→Option (List Rule)
 | 0,i6,l5=>some l5
 | m7+1,i6,l5=>(lget l5 (i6:Int)).bind fun x8=>(Zgm x8.Atoms).bind fun x9=>(lget l5 (i6:Int)).bind fun x10=>(Zdp m7) (i6+1) (List.set l5 (i6:Int).toNat {x10 with Atoms:=x9})
def Zok (l1:(List Rule)):Option (List Rule):=
 (Zp3 l1).bind fun x2=>Zdp ((x2.length:Int):Int).toNat 0 x2
theorem Y6x:Q1 Tryz.prog 144 (rd (Z1 Z0n)) (rd (Z1 Z0n)) Zok:=fun l1 r h=>I0 Tryz.func144 rfl Tryz.ntmps144 rfl fun w H Z=>by
 unfold Zok at h
 refine SR<|Ac (Zn (A:=rd (Z1 Z0n) []) rfl rfl Z04) rfl<|Nl<|sq ?_
 obtain ⟨x2,hx2,h⟩:=Z6 h
 refine Rg<|Md rfl<|Cv rfl (Z0y 1001 (xs:=[.tmp 5]) (Yki _ _ hx2) Yal rfl rfl ⟨vt rfl,trivial⟩ rfl) fun v3=>Aw rfl<|Nl<|sq<|SR<|Mw rfl<|Ac (Z2v 1001 rfl rfl Z4f (vt rfl) rfl) rfl<|Mk rfl<|Nl<|bk<|LG (d:=[]) (ν:=Nat×Nat×(List Rule)) (fun (m7,i6,l5)=>(Cnt (x2.length:Int) i6 m7∧Zdp m7 i6 l5=some r,m7,[(3,Zg v3),(8,rd (Z0 .i64) (x2.length:Int)),(9,rd (Z0 .i64) (i6:Int))],[(1001,Zi v3 165 Z0n l5)])) (((x2.length:Int):Int).toNat,0,x2) ⟨Cnt.start _,h⟩ (FX rfl) ?_
 rintro ⟨m7,i6,l5⟩ ⟨hsf1,h⟩
 dsimp only at hsf1 h ⊢
 cases m7 with
 | zero=>
  unfold Zdp at h
  refine SR<|Ac (Zh rfl rfl (vt rfl) (vt rfl)) rfl<|Nl<|sq<|Cn rfl (fun hc=>absurd (of_decide_eq_true hc) hsf1.zero) (fun hc=>?_)
  refine xt<|SR<|Mw rfl<|Aw rfl<|Nl<|AW.freezes [2,3,23] 1001 rfl ⟨rfl,rfl,rfl,trivial⟩ rfl<|rt ?_
  cases h;exact Z9 Tryz.results144 rfl (Z5 rfl)
 | succ m7=>
  unfold Zdp at h
  refine SR<|Ac (Zh rfl rfl (vt rfl) (vt rfl)) rfl<|Nl<|sq<|Cn rfl (fun hc=>?_) (fun hc=>absurd hsf1.succ (of_decide_eq_false hc))
  have hlti6:=of_decide_eq_true hc
  refine sk<|sq<|bk<|SR<|Md rfl<|As rfl<|Nl ?_
  obtain ⟨x8,hx8,x9,hx9,x10,hx10,h⟩:=bs3 h
  refine Rg<|Mw rfl<|Md rfl<|Mw rfl<|Md rfl<|Ac (Z1w 1001 rfl rfl Z4f (vt rfl) rfl (vt rfl) hx8) rfl<|Ac (Z6j lRule_1 rfl rfl Zuy (vt rfl)) rfl<|Ac (Z1l 1001 rfl rfl Z82 (vt rfl) rfl (Z0l hx8).2) rfl<|Cl [18] (Y1c _ _ hx9) Zzq rfl<|Ac (Z1w 1001 rfl rfl Z4f (vt rfl) rfl (vt rfl) hx10) rfl<|Ac (Z6j lRule_1 rfl rfl Zuy (vt rfl)) rfl<|Ac (Z2b 1001 rfl rfl Z82 (vt rfl) rfl (Z0l hx10).2 (vt rfl)) rfl<|Nl<|Rg<|Ac (Z0a (t:=8) rfl rfl (vt rfl) (vk rfl) (vt rfl) hlti6) rfl<|Md rfl<|Nl ?_
  exact ⟨(_,_,_),Nat.lt_succ_self _,⟨hsf1.next,h⟩,FX rfl⟩
def Zba (m2:Int):(List Rule)→Nat→(List Rule)→(List Zs)→Option ((List Rule)×Int)
 | [],i11,l7,l9=>(Zok l7).bind fun x13=>some (x13,0)
 | x14::l12,i11,l7,l9=>(Zsk x14.Cube l9 m2).bind fun x16=>(bif (decide (x16.2.2≠0)) then some ([],x16.2.2) else (bif (!x16.2.1) then (Zba m2 l12) (i11+1) l7 l9 else (Z11 l7 [x14]).bind fun l18=>(Z11 l9 [x14.Cube]).bind fun l20=>(Zba m2 l12) (i11+1) l18 l20))
def Zru (l1:(List Rule))(m2:Int):Option ((List Rule)×Int):=
 Zba m2 l1 0 [] []
theorem Yf5:Q2 Tryz.prog 95 (rd (Z1 Z0n)) (rd (Z0 .i64)) (fun r=>Z0t (rd (Z1 Z0n) r.1) (rd (Z0 .i64) r.2)) Zru:=fun l1 m2 r h=>I0 Tryz.func95 rfl Tryz.ntmps95 rfl fun w H Z=>by
 unfold Zru at h
 refine SR<|Ac (Zn (A:=rd (Z1 Z0n) []) rfl rfl Z04) rfl<|Ak rfl<|Nl<|AW.scope<|sq<|AW.newnil 1001 165 Z0n<|Rg<|Ac (Zn rfl rfl vc) rfl<|Nl<|sq<|AW.newnil 1002 32 (Z4 24 Z7)<|Rg<|Ac (Zn rfl rfl vc) rfl<|Nl<|sq<|AW.label<|sq<|SR<|Md rfl<|Ac (Z07 rfl rfl Z4f (vt rfl)) rfl<|Mk rfl<|Nl<|bk<|LG (d:=[]) (ν:=(List Rule)×Nat×(List Rule)×(List Zs)×Value×Value) (fun (l12,i11,l7,l9,v8,v10)=>(Sfx l1 i11 l12∧Zba m2 l12 i11 l7 l9=some r,l12.length,[(1,rd (Z0 .i64) m2),(6,Zg v8),(7,Zg v10),(13,rd (Z1 Z0n) l1),(14,rd (Z0 .i64) (l1.length:Int)),(15,rd (Z0 .i64) (i11:Int))],[(1001,Zi v8 165 Z0n l7),(1002,Zi v10 32 (Z4 24 Z7) l9)])) (l1,0,[],[],(.slice none 0 0),(.slice none 0 0)) ⟨Sfx.start _,h⟩ (FX rfl) ?_
 rintro ⟨l12,i11,l7,l9,v8,v10⟩ ⟨hsf1,h⟩
 dsimp only at hsf1 h ⊢
 cases l12 with
 | nil=>
  unfold Zba at h
  refine SR<|Ac (Zh rfl rfl (vt rfl) (vt rfl)) rfl<|Nl<|sq<|Cn rfl (fun hc=>absurd (of_decide_eq_true hc) hsf1.nil) (fun hc=>?_)
  refine xt<|sq<|AW.freezes [6] 1001 rfl ⟨rfl,trivial⟩ rfl ?_
  obtain ⟨x13,hx13,h⟩:=Z6 h
  refine Rg<|Md rfl<|Cl [45] (Y6x _ _ hx13) Yiy rfl<|As rfl<|Ak rfl<|Nl<|rt ?_
  cases h;exact Z0c Tryz.results95 rfl (Z5 rfl) (Z5 rfl)
 | cons x14 l12=>
  unfold Zba at h
  refine SR<|Ac (Zh rfl rfl (vt rfl) (vt rfl)) rfl<|Nl<|sq<|Cn rfl (fun hc=>?_) (fun hc=>absurd hsf1.cons (of_decide_eq_false hc))
  have hlti11:=of_decide_eq_true hc
  refine sk<|sq<|bk<|SR<|Ac (Z0d rfl rfl Z4f (vt rfl) (vt rfl) hsf1.lget) rfl<|Lp1 Z7h rfl<|Cv rfl (Zo 10 rfl rfl Z8e) fun g15=>Ze Z7h 10 rfl<|Nl<|sq ?_
  obtain ⟨x16,hx16,h⟩:=Z6 h
  refine Rg<|Zf lRule_0 Zn7 rfl<|Ld Z09 10 rfl<|Mw rfl<|Md rfl<|Ac (Z9v (xs:=[.tmp 21,.tmp 22,.tmp 23]) 1002 (Y5g _ _ _ _ hx16) Yai rfl rfl ⟨vB (vt rfl),vL rfl rfl,vB (vt rfl),trivial⟩) rfl<|Ac (Zk (A:=Z3j (rd (Z4 24 Zw) x16.1) (rd Z3 x16.2.1) (rd (Z0 .i64) x16.2.2)) rfl rfl (vt rfl)) rfl<|Ac (Zho rfl rfl (vt rfl)) rfl<|Ac (Zh4 rfl rfl (vt rfl)) rfl<|Ac (Zgn rfl rfl (vt rfl)) rfl<|Cv rfl (Zo 11 rfl rfl Z6n) fun g17=>Ze Z34 11 rfl<|As rfl<|As rfl<|Nl<|sq<|bk<|SR<|Md rfl<|Ac (Z2j rfl rfl (vt rfl) (vk rfl)) rfl<|As rfl<|Nl<|Cq rfl h (fun h=>?_) (fun h=>?_)
  ·refine SR<|Md rfl<|Ac (Zn (A:=rd (Z1 Z0n) []) rfl rfl Z04) rfl<|As rfl<|Nl<|rt ?_
   cases h;exact Z0c Tryz.results95 rfl (Z5 rfl) (Z5 rfl)
  ·refine SR<|Md rfl<|Ac (Z0g rfl rfl (vt rfl)) rfl<|As rfl<|Nl<|Cq rfl h (fun h=>?_) (fun h=>?_)
   ·refine xt<|Rg<|Ac (Z0a (t:=14) rfl rfl (vt rfl) (vk rfl) (vt rfl) hlti11) rfl<|Md rfl<|Nl ?_
    exact ⟨(_,_,_,_,_,_),Nat.lt_succ_self _,⟨hsf1.next,h⟩,FX rfl⟩
   ·refine sk ?_
    obtain ⟨l18,hl18,l20,hl20,h⟩:=bs2 h
    refine AR Z03 (by kernel_rfl)<|SMw rfl<|Zu Z7h 10 rfl<|Sd (lo [36] [] rfl fun S hs hr=>osl Z4f Z8e rfl (vh hs 36 rfl rfl))<|Sd (Z18 (us:=[(38,Z1y 165 Z0n l18)]) (ur:=[(1001,emp)]) [35,37] [1001] rfl fun S hs hr=>Zbr 1001 hl18 rfl rfl rfl Zo5 (vh hs 35 rfl rfl) ((hr 1001 rfl).trans rfl) (vh hs 37 rfl rfl))<|SMw rfl<|SFd lRule_0 Zn7 rfl<|Zu Z09 10 rfl<|Sd (lo [41] [] rfl fun S hs hr=>osl Z3b Z22 rfl (vh hs 41 rfl rfl))<|Sd (Z18 (us:=[(43,Z1y 32 (Z4 24 Z7) l20)]) (ur:=[(1002,emp)]) [39,42] [1002] rfl fun S hs hr=>Zbr 1002 hl20 rfl rfl rfl Zjo (vh hs 39 rfl rfl) ((hr 1002 rfl).trans rfl) (vh hs 42 rfl rfl))<|Sd (Z18 (us:=[(38,top),(6,Z1y 165 Z0n l18)]) (ur:=[]) [38] [1003] rfl fun S hs hr=>Zbt 1003 rfl rfl rfl rfl ((hs 38 rfl).trans rfl) ((hr 1003 rfl).trans rfl))<|Sd (Z18 (us:=[(43,top),(7,Z1y 32 (Z4 24 Z7) l20)]) (ur:=[]) [43] [1004] rfl fun S hs hr=>Zbt 1004 rfl rfl rfl rfl ((hs 43 rfl).trans rfl) ((hr 1004 rfl).trans rfl))<|Sn<|AW.unpackR 6 1001 rfl rfl fun v19=>AW.unpackR 7 1002 rfl rfl fun v21=>Rg<|Ac (Z0a (t:=14) rfl rfl (vt rfl) (vk rfl) (vt rfl) hlti11) rfl<|Md rfl<|Nl ?_
    exact ⟨(_,_,_,_,_,_),Nat.lt_succ_self _,⟨hsf1.next,h⟩,FX rfl⟩
def Zdh (l1:(List Group)):(List Group)→Nat→(List Group)→Option (List Group)
 | [],i6,l4=>some l4
 | x8::l7,i6,l4=>(Z3z l1 (i6:Int)).bind fun s10=>(Za7 s10 x8.ID).bind fun x11=>(Z11 l4 [x11.1]).bind fun l13=>(Zdh l1 l7) (i6+1) l13
def Ztl (l1:(List Group)):Option (List Group):=
 Zdh l1 l1 0 []
theorem Ybd:Q1 Tryz.prog 97 (rd (Z1 Zt)) (rd (Z1 Zt)) Ztl:=fun l1 r h=>I0 Tryz.func97 rfl Tryz.ntmps97 rfl fun w H Z=>by
 unfold Ztl at h
 refine SR<|Ac (Zn (A:=rd (Z1 Zt) []) rfl rfl Z04) rfl<|Nl<|sq<|AW.newnil 1001 83 Zt<|Rg<|Ac (Zn rfl rfl vc) rfl<|Nl<|sq<|SR<|Md rfl<|Ac (Z07 rfl rfl Z1n (vt rfl)) rfl<|Mk rfl<|Nl<|bk<|LG (d:=[]) (ν:=(List Group)×Nat×(List Group)×Value) (fun (l7,i6,l4,v5)=>(Sfx l1 i6 l7∧Zdh l1 l7 i6 l4=some r,l7.length,[(0,rd (Z1 Zt) l1),(3,Zg v5),(8,rd (Z1 Zt) l1),(9,rd (Z0 .i64) (l1.length:Int)),(10,rd (Z0 .i64) (i6:Int))],[(1001,Zi v5 83 Zt l4)])) (l1,0,[],(.slice none 0 0)) ⟨Sfx.start _,h⟩ (FX rfl) ?_
 rintro ⟨l7,i6,l4,v5⟩ ⟨hsf1,h⟩
 dsimp only at hsf1 h ⊢
 cases l7 with
 | nil=>
  unfold Zdh at h
  refine SR<|Ac (Zh rfl rfl (vt rfl) (vt rfl)) rfl<|Nl<|sq<|Cn rfl (fun hc=>absurd (of_decide_eq_true hc) hsf1.nil) (fun hc=>?_)
  refine xt<|SR<|Mw rfl<|Aw rfl<|Nl<|AW.freezes [2,3,29] 1001 rfl ⟨rfl,rfl,rfl,trivial⟩ rfl<|rt ?_
  cases h;exact Z9 Tryz.results97 rfl (Z5 rfl)
 | cons x8 l7=>
  unfold Zdh at h
  refine SR<|Ac (Zh rfl rfl (vt rfl) (vt rfl)) rfl<|Nl<|sq<|Cn rfl (fun hc=>?_) (fun hc=>absurd hsf1.cons (of_decide_eq_false hc))
  have hlti6:=of_decide_eq_true hc
  refine sk<|sq<|bk<|SR<|Md rfl<|Ac (Z0d rfl rfl Z1n (vt rfl) (vt rfl) hsf1.lget) rfl<|Lp1 Z1m rfl<|Cv rfl (Zo 6 rfl rfl Z3a) fun g9=>As rfl<|Ze Z1m 6 rfl<|Nl<|sq ?_
  obtain ⟨s10,hs10,x11,hx11,h⟩:=bs2 h
  refine AR Z03 (by kernel_rfl)<|SMd rfl<|SMd rfl<|Sd (lo [16,17] [] rfl fun S hs hr=>Zj1 hs10 rfl rfl Z1n (vh hs 16 rfl rfl) (vh hs 17 rfl rfl))<|SFd lGroup_0 Z90 rfl<|Zu Zc 6 rfl<|SCl [18,20] (Zer _ _ _ hx11) e28 rfl<|Sd (lo [21] [] rfl fun S hs hr=>Zk (A:=Z0t (rd Zt x11.1) (rd Z3 x11.2)) rfl rfl (vh hs 21 rfl rfl))<|Sd (lo [15] [] rfl fun S hs hr=>Z10 rfl rfl (vh hs 15 rfl rfl))<|Sd (lo [15] [] rfl fun S hs hr=>Z0z rfl rfl (vh hs 15 rfl rfl))<|Sd (Z18 (us:=[(6,Z28 83 Zt Z8p)]) (ur:=[]) [] [] rfl fun S hs hr=>Z55 rfl rfl rfl Z3a)<|Sd (Z18 (us:=[(6,Z28 83 Zt x11.1)]) (ur:=[]) [6,22] [] rfl fun S hs hr=>Z4z rfl rfl Z1m ((hs 6 rfl).trans rfl) (vh hs 22 rfl rfl))<|SAs rfl<|Sn<|AW.unpackP 6 7 rfl rfl fun g12=>?_
  obtain ⟨l13,hl13,h⟩:=Z6 h
  refine Rg<|Mw rfl<|Ld Z1m 7 rfl<|Ac (osl Z1n Z3a rfl (vt rfl)) rfl<|Cv rfl (Z1f 1001 hl13 rfl rfl Zn8 (vt rfl) rfl (vt rfl)) fun v14=>Aw rfl<|Nl<|Rg<|Ac (Z0a (t:=9) rfl rfl (vt rfl) (vk rfl) (vt rfl) hlti6) rfl<|Md rfl<|Nl ?_
  exact ⟨(_,_,_,_),Nat.lt_succ_self _,⟨hsf1.next,h⟩,FX rfl⟩
def Zpg (s1:Switch)(m2:Int):Option (Flat×Int):=
 (Zst s1).bind fun x5=>(Zru x5 m2).bind fun x6=>(bif (decide (x6.2≠0)) then some ((⟨[],[]⟩:Flat),x6.2) else (Ztl s1.Groups).bind fun x7=>some ((⟨x6.1,x7⟩:Flat),0))
theorem Yll:Q2 Tryz.prog 54 (rd kSwitch) (rd (Z0 .i64)) (fun r=>Z0t (rd Z4d r.1) (rd (Z0 .i64) r.2)) Zpg:=fun s1 m2 r h=>I0 Tryz.func54 rfl Tryz.ntmps54 rfl fun w H Z=>by
 unfold Zpg at h
 refine SR<|Cv rfl (Zm 3 rfl rfl (vt rfl)) fun g3=>Cv rfl (Zo 5 rfl rfl Zig) fun g4=>Ak rfl<|Nl<|sq ?_
 obtain ⟨x5,hx5,x6,hx6,h⟩:=bs2 h
 refine Rg<|Ld Z27 3 rfl<|Cl [9] (Ymc _ _ hx5) e96 rfl<|Md rfl<|Cl [10,11] (Yf5 _ _ _ hx6) e95 rfl<|Mt2 rfl<|Ac (Z10 rfl rfl (vt rfl)) rfl<|Ac (Z0z rfl rfl (vt rfl)) rfl<|As rfl<|As rfl<|Nl<|sq<|SR<|Md rfl<|Ac (Z2j rfl rfl (vt rfl) (vk rfl)) rfl<|Nl<|Cq rfl h (fun h=>?_) (fun h=>?_)
 ·refine SR<|Ac (opb (⟨[],[]⟩:Flat) Zig rfl Zzl (pn rfl)) rfl<|Md rfl<|Ze Z88 5 rfl<|As rfl<|Nl<|rt ?_
  cases h;exact Z0c Tryz.results54 rfl (Zv rfl (i:=5) rfl Z88) (Z5 rfl)
 ·refine sk<|sq ?_
  obtain ⟨x7,hx7,h⟩:=Z6 h
  refine Rg<|Md rfl<|Zf Z66 Z77 rfl<|Ld Z3r 3 rfl<|Cl [21] (Ybd _ _ hx7) e97 rfl<|Ac (opb (⟨x6.1,x7⟩:Flat) Zig rfl Zzl (pc Yf7 (vt rfl)<|pc Ynu (vt rfl)<|pn rfl)) rfl<|Ze Z88 5 rfl<|Ak rfl<|Nl<|rt ?_
  cases h;exact Z0c Tryz.results54 rfl (Zv rfl (i:=5) rfl Z88) (Z5 rfl)
def Zj4 (p1:Z4c):Option (Bool×Z4c):=
 some ((decide ((p1.cubes.length:Int)>p1.most)),(⟨p1.cubes,p1.most⟩:Z4c))
theorem Y0w (g2 gT:Nat)(p1:Z4c)(r:(Bool×Z4c))(h:Zj4 p1=some r):Con Tryz.prog 147 [Za g2 (Lens.id Z1x)] (Z1c g2 gT Z1x (fun v=>(⟨v,p1.most⟩:slice_heap_o0)) 32 (Z4 24 Z7) p1.cubes) (fun _:Unit=>rd Z3 r.1) (fun _=>Z1c g2 gT Z1x (fun v=>(⟨v,r.2.most⟩:slice_heap_o0)) 32 (Z4 24 Z7) r.2.cubes):=by
 refine Con.intro Tryz.func147 rfl Tryz.ntmps147 rfl fun w H X Z=>?_
 unfold Zj4 at h
 refine AW.unboxF 0 2000 (by decide) rfl rfl fun v3=>SR<|Ab rfl<|Nl<|sq<|AR Z03 (by kernel_rfl)<|SMp rfl<|SNc rfl<|SFd lslice_heap_o0_0 Zbf rfl<|Sd (lo [5] [0] rfl fun S hs hr=>Z3n v3 rfl rfl Zbb (vh hs 5 rfl rfl) (i:=0) ((hr 0 rfl).trans rfl) rfl)<|Sd (lo [6] [2000] rfl fun S hs hr=>Z2v 2000 rfl rfl Z3b (vh hs 6 rfl rfl) ((hr 2000 rfl).trans rfl))<|SMp rfl<|SNc rfl<|SFd lslice_heap_o0_1 Ydt rfl<|Zu Zc 0 rfl<|Sd (lo [7,11] [] rfl fun S hs hr=>Z1s rfl rfl (vh hs 7 rfl rfl) (vh hs 11 rfl rfl))<|SAs rfl<|Sn<|rt ?_
 cases h;exact RetOK.turn (Turn.packF 0 2000 (fun v=>(⟨v,p1.most⟩:slice_heap_o0)) (by decide) rfl rfl) (Z47 (i:=0) Tryz.results147 rfl (Z5 rfl) rfl)
def Zim (l21:(List Zs))(b23:Int)(x25:Zs):Option (Lp ((List Zs)×Int)):=
 (Z11 l21 [x25]).bind fun l28=>(Zj4 (⟨l28,b23⟩:Z4c)).bind fun b30=>(bif b30.1 then some (.out .ret (b30.2.cubes,b30.2.most)) else some (.go (b30.2.cubes,b30.2.most)))
def Zgs (x4:Zs):(List Zs)→Nat→(List Zs)→Int→Option (Bool×Z4c)
 | [],i16,l13,b15=>some (true,(⟨l13,b15⟩:Z4c))
 | x18::l17,i16,l13,b15=>(Zju x18 x4).bind fun x20=>(Itr.run x20 ((List Zs)×Int) (fun s x=>Zim s.1 s.2 x) (.go (l13,b15))).bind fun z24=>Zn2 z24 (fun s32=>(Zgs x4 l17) (i16+1) s32.1 s32.2) (fun c s32=>bif Z9n c then some (false,(⟨s32.1,s32.2⟩:Z4c)) else none)
def Zr6 (p1:Z4c)(x4:Zs):Option (Bool×Z4c):=
 Zgs x4 p1.cubes 0 [] p1.most
theorem Yho (g2 gT:Nat)(p1:Z4c)(x4:Zs)(r:(Bool×Z4c))(h:Zr6 p1 x4=some r):Con Tryz.prog 148 [Za g2 (Lens.id Z1x),rd (Z4 24 Z7) x4] (Z1c g2 gT Z1x (fun v=>(⟨v,p1.most⟩:slice_heap_o0)) 32 (Z4 24 Z7) p1.cubes) (fun _:Unit=>rd Z3 r.1) (fun _=>Z1c g2 gT Z1x (fun v=>(⟨v,r.2.most⟩:slice_heap_o0)) 32 (Z4 24 Z7) r.2.cubes):=by
 refine Con.intro Tryz.func148 rfl Tryz.ntmps148 rfl fun w H X Z=>?_
 unfold Zr6 at h
 refine AW.unboxF 0 2000 (by decide) rfl rfl fun v3=>SR<|Cv rfl (Zm 3 rfl rfl (vkp (vt rfl))) fun g5=>Cv rfl (Zm 4 rfl rfl (vt rfl)) fun g6=>Cv rfl (Zo 5 rfl rfl zr4) fun g7=>Nl<|SR<|Ac (Zaj (A:=Za g2 (Lens.id Z1x)) rfl rfl rfl (Zfs _) (vt rfl) (i:=3) rfl) rfl<|Nc rfl<|Zf lslice_heap_o0_0 Zbf rfl<|Ac (Z3n v3 rfl rfl Zbb (vt rfl) (i:=0) rfl rfl) rfl<|Aw rfl<|Nl<|SR<|Ac (Zaj (A:=Za g2 (Lens.id Z1x)) rfl rfl rfl (Zfs _) (vt rfl) (i:=3) rfl) rfl<|Nc rfl<|Zf lslice_heap_o0_0 Zbf rfl<|AOps.rename 2000 1001 (by decide) rfl rfl<|AOps.newnil 2000 32 (Z4 24 Z7)<|Ac (Z3s rfl rfl Zbb (vt rfl) (i:=0) rfl (vkr vc rfl)) rfl<|Nl<|sq<|SR<|Mw rfl<|Ac (Z2v 1001 rfl rfl Z3b (vt rfl) rfl) rfl<|Mk rfl<|Nl<|bk<|AW.mark0 2990 rfl<|LGd (ν:=(List Zs)×Nat×(List Zs)×Int×(List Nat)×Value) (fun (l17,i16,l13,b15,d12,v14)=>(Sfx p1.cubes i16 l17∧Zgs x4 l17 i16 l13 b15=some r,l17.length,[(2,Za g5 (Lens.id (kas (Za g2 (Lens.id Z1x))))),(3,Za g6 (Lens.id (Z4 24 Z7))),(4,Za g7 (Lens.id Z3)),(16,Zg v3),(17,rd (Z0 .i64) (p1.cubes.length:Int)),(18,rd (Z0 .i64) (i16:Int))],[(0,Zd g2 gT Z1x (⟨v14,b15⟩:slice_heap_o0)),(3,Zd g5 265 (kas (Za g2 (Lens.id Z1x))) ()),(4,Zd g6 32 (Z4 24 Z7) x4),(5,Zd g7 4 Z3 false),(1001,Zi v3 32 (Z4 24 Z7) p1.cubes),(2000,Zi v14 32 (Z4 24 Z7) l13),(2990,Z2w d12)])) (fun (_,_,_,_,d12,_)=>d12) (p1.cubes,0,[],p1.most,[],(.slice none 0 0)) ⟨Sfx.start _,h⟩ (FX rfl) ?_
 rintro ⟨l17,i16,l13,b15,d12,v14⟩ ⟨hsf1,h⟩
 dsimp only at hsf1 h ⊢
 cases l17 with
 | nil=>
  unfold Zgs at h
  refine SR<|Ac (Zh rfl rfl (vt rfl) (vt rfl)) rfl<|Nl<|sq<|Cn rfl (fun hc=>absurd (of_decide_eq_true hc) hsf1.nil) (fun hc=>?_)
  refine xt<|SR<|Ac (Z3s rfl rfl ty4 (vt rfl) (i:=5) rfl vb) rfl<|Nl<|rt ?_
  cases h;exact (Zuk 2990 _ _ rfl rfl (RetOK.turn (Turn.packF 0 2000 (fun v=>(⟨v,b15⟩:slice_heap_o0)) (by decide) rfl rfl) (Z47 (i:=0) Tryz.results148 rfl (Zv rfl (i:=5) rfl ty4) rfl)))
 | cons x18 l17=>
  unfold Zgs at h
  refine SR<|Ac (Zh rfl rfl (vt rfl) (vt rfl)) rfl<|Nl<|sq<|Cn rfl (fun hc=>?_) (fun hc=>absurd hsf1.cons (of_decide_eq_false hc))
  have hlti16:=of_decide_eq_true hc
  refine sk<|sq<|bk<|SR<|Ac (Z1w 1001 rfl rfl Z3b (vt rfl) rfl (vt rfl) hsf1.lget) rfl<|Ac (Z1l 1001 rfl rfl Z09 (vt rfl) rfl (Z0l hsf1.lget).2) rfl<|Cv rfl (Zo 8 rfl rfl Z22) fun g19=>Ze Z09 8 rfl<|Nl<|sq ?_
  obtain ⟨x20,hx20,h⟩:=Z6 h
  refine Rg<|Ld Z09 8 rfl<|Ld Z09 4 rfl<|Cl [22,23] (Zvw _ _ _ hx20) Zxu rfl<|Nl<|bk ?_
  obtain ⟨z24,hz24,h⟩:=Z6 h
  refine AW.packF 0 2000 (fun v=>(⟨v,b15⟩:slice_heap_o0)) (by decide) rfl rfl<|AW.fit (d:=d12) (L:=[(2,Za g5 (Lens.id (kas (Za g2 (Lens.id Z1x))))),(3,Za g6 (Lens.id (Z4 24 Z7))),(4,Za g7 (Lens.id Z3)),(16,Zg v3),(17,rd (Z0 .i64) (p1.cubes.length:Int)),(18,rd (Z0 .i64) (i16:Int)),(24,Z2s Tryz.prog (Z4 24 Z7) x20)]) (M:=[(0,Z1c g2 gT Z1x (fun v=>(⟨v,b15⟩:slice_heap_o0)) 32 (Z4 24 Z7) l13),(3,Zd g5 265 (kas (Za g2 (Lens.id Z1x))) ()),(4,Zd g6 32 (Z4 24 Z7) x4),(5,Zd g7 4 Z3 false),(1001,Zi v3 32 (Z4 24 Z7) p1.cubes),(2990,Z2w d12)]) (FX rfl) ?_
  refine AW.rangeFunc (σ:=(List Zs)×Int) (fun x=>[rd (Z4 24 Z7) x]) (fun s x=>Zim s.1 s.2 x) (fun s=>Z2e ((fun s=>[(0,Z1c g2 gT Z1x (fun v=>(⟨v,s.2⟩:slice_heap_o0)) 32 (Z4 24 Z7) s.1),(3,Zd g5 265 (kas (Za g2 (Lens.id Z1x))) ()),(4,Zd g6 32 (Z4 24 Z7) x4),(5,Zd g7 4 Z3 false),(1001,Zi v3 32 (Z4 24 Z7) p1.cubes),(2990,Z2w d12)]) s)) (fun _ s=>Z2e ((fun s=>[(0,Z1c g2 gT Z1x (fun v=>(⟨v,s.2⟩:slice_heap_o0)) 32 (Z4 24 Z7) s.1),(3,Zd g5 265 (kas (Za g2 (Lens.id Z1x))) ()),(4,Zd g6 32 (Z4 24 Z7) x4),(5,Zd g7 4 Z3 false),(1001,Zi v3 32 (Z4 24 Z7) p1.cubes),(2990,Z2w d12)]) s)) [(2,Za g5 (Lens.id (kas (Za g2 (Lens.id Z1x))))),(3,Za g6 (Lens.id (Z4 24 Z7))),(4,Za g7 (Lens.id Z3)),(16,Zg v3),(17,rd (Z0 .i64) (p1.cubes.length:Int)),(18,rd (Z0 .i64) (i16:Int))] (fun s x25 S1=> ∃(g26:Nat),Fit S1 [] [(2,Za g5 (Lens.id (kas (Za g2 (Lens.id Z1x))))),(3,Za g6 (Lens.id (Z4 24 Z7))),(4,Za g7 (Lens.id Z3)),(8,Za g26 (Lens.id (Z4 24 Z7))),(16,Zg v3),(17,rd (Z0 .i64) (p1.cubes.length:Int)),(18,rd (Z0 .i64) (i16:Int))] [(0,Z1c g2 gT Z1x (fun v=>(⟨v,s.2⟩:slice_heap_o0)) 32 (Z4 24 Z7) s.1),(3,Zd g5 265 (kas (Za g2 (Lens.id Z1x))) ()),(4,Zd g6 32 (Z4 24 Z7) x4),(5,Zd g7 4 Z3 false),(1001,Zi v3 32 (Z4 24 Z7) p1.cubes),(2990,Z2w d12),(9,Zd g26 32 (Z4 24 Z7) x25)]) 3002 (s0:=(l13,b15)) (sE:=z24) rfl (vt rfl) ⟨rfl,inferInstance,rfl,inferInstance,rfl,inferInstance,rfl,inferInstance,rfl,inferInstance,rfl,inferInstance,trivial⟩ rfl (fun _=>rfl) (by intro p hp;have hp:p∈[25]:=hp;rw [List.mem_singleton.1 hp];show 25<39;decide) ?ha2 ?hb2 (fun Lf=>⟨top,_,_,Lf,_,_,hz24,rfl,rfl,rfl,rfl⟩) ?he2
  case ha2=>
   rintro ⟨l21,b23⟩ x25 r hF l w H X Z
   refine Rg<|Cv rfl (Zo 9 rfl rfl Z22) fun g26=>Ze Z09 9 rfl<|Nl ?_
   exact ⟨rfl,g26,FX rfl⟩
  case hb2=>
   rintro ⟨l21,b23⟩ x25 r h S1 ⟨g26,hfit⟩ l w H X Z
   refine AW.fit (d:=[]) (L:=[(2,Za g5 (Lens.id (kas (Za g2 (Lens.id Z1x))))),(3,Za g6 (Lens.id (Z4 24 Z7))),(4,Za g7 (Lens.id Z3)),(8,Za g26 (Lens.id (Z4 24 Z7))),(16,Zg v3),(17,rd (Z0 .i64) (p1.cubes.length:Int)),(18,rd (Z0 .i64) (i16:Int))]) (M:=[(0,Z1c g2 gT Z1x (fun v=>(⟨v,b23⟩:slice_heap_o0)) 32 (Z4 24 Z7) l21),(3,Zd g5 265 (kas (Za g2 (Lens.id Z1x))) ()),(4,Zd g6 32 (Z4 24 Z7) x4),(5,Zd g7 4 Z3 false),(1001,Zi v3 32 (Z4 24 Z7) p1.cubes),(2990,Z2w d12),(9,Zd g26 32 (Z4 24 Z7) x25)]) hfit<|AW.bodyT ?_
   change Zim l21 b23 x25=some r at h
   unfold Zim at h
   refine AW.unboxF 0 2000 (by decide) rfl rfl fun v27=>bk<|sq ?_
   obtain ⟨l28,hl28,h⟩:=Z6 h
   refine AR Z03 (by kernel_rfl)<|Sd (lo [2] [3] rfl fun S hs hr=>Zaj (A:=Za g2 (Lens.id Z1x)) rfl rfl rfl (Zfs _) (vh hs 2 rfl rfl) (i:=3) ((hr 3 rfl).trans rfl))<|Sd (lo [2] [3] rfl fun S hs hr=>Zaj (A:=Za g2 (Lens.id Z1x)) rfl rfl rfl (Zfs _) (vh hs 2 rfl rfl) (i:=3) ((hr 3 rfl).trans rfl))<|SNc rfl<|SFd lslice_heap_o0_0 Zbf rfl<|Sd (lo [29] [0] rfl fun S hs hr=>Z3n v27 rfl rfl Zbb (vh hs 29 rfl rfl) (i:=0) ((hr 0 rfl).trans rfl) rfl)<|Zu Z09 9 rfl<|Sd (lo [31] [] rfl fun S hs hr=>osl Z3b Z22 rfl (vh hs 31 rfl rfl))<|Sd (Z18 (us:=[(33,Z1y 32 (Z4 24 Z7) l28)]) (ur:=[(2000,emp)]) [30,32] [2000] rfl fun S hs hr=>Zbr 2000 hl28 rfl rfl rfl Zjo (vh hs 30 rfl rfl) ((hr 2000 rfl).trans rfl) (vh hs 32 rfl rfl))<|SNc rfl<|SFd lslice_heap_o0_0 Zbf rfl<|Sd (Z18 (us:=[(33,top)]) (ur:=[(0,Z1c g2 gT Z1x (fun v=>((Lens.comp (Lens.id Z1x) lslice_heap_o0_0)).set (⟨v27,b23⟩:slice_heap_o0) v) 32 (Z4 24 Z7) l28)]) [35,33] [0] rfl fun S hs hr=>Zkb rfl rfl Zbb (vh hs 35 rfl rfl) ((hr 0 rfl).trans rfl) ((hs 33 rfl).trans rfl))<|Sn<|AW.unboxF 0 2000 (by decide) rfl rfl fun v29=>sq ?_
   obtain ⟨b30,hb30,h⟩:=Z6 h
   refine Rg<|Ac (Zaj (A:=Za g2 (Lens.id Z1x)) rfl rfl rfl (Zfs _) (vt rfl) (i:=3) rfl) rfl<|AOps.packF 0 2000 (fun v=>(⟨v,b23⟩:slice_heap_o0)) (by decide) rfl rfl<|Cv rfl (Z0y 0 (xs:=[.tmp 36]) (Y0w _ _ _ _ hb30) Y0j rfl rfl ⟨vt rfl,trivial⟩ rfl) fun _u=>AOps.unboxF 0 2000 (by decide) rfl rfl fun v31=>Nl<|Cq rfl h (fun h=>?_) (fun h=>?_)
   ·refine SR<|Ac (Z3s rfl rfl ty4 (vt rfl) (i:=5) rfl vb) rfl<|Nl<|rt ?_
    obtain rfl:=si h
    exact ⟨_,(b30.2.cubes,b30.2.most),(Turn.packF 0 2000 (fun v=>(⟨v,b30.2.most⟩:slice_heap_o0)) (by decide) rfl rfl),rfl,⟨rfl,rfl,rfl,rfl,rfl,rfl,trivial⟩⟩
   ·refine sk ?_
    obtain rfl:=si h
    exact ⟨_,(b30.2.cubes,b30.2.most),(Turn.packF 0 2000 (fun v=>(⟨v,b30.2.most⟩:slice_heap_o0)) (by decide) rfl rfl),rfl,⟨rfl,rfl,rfl,rfl,rfl,rfl,trivial⟩⟩
  case he2=>
   intro D
   cases z24 with
   | go s32=>
    change _=some r at h
    refine AW.marks 3002 2990 (by decide) rfl rfl<|AW.unboxF 0 2000 (by decide) rfl rfl fun v33=>Rg<|Ac (Z0a (t:=17) rfl rfl (vt rfl) (vk rfl) (vt rfl) hlti16) rfl<|Md rfl<|Nl ?_
    exact ⟨(_,_,_,_,_,_),Nat.lt_succ_self _,⟨hsf1.next,h⟩,FX rfl⟩
   | out c s32=>
    change (bif Z9n c then _ else _)=some r at h
    cases hc:Z9n c with
    | true=>
     rw [hc] at h
     have hc:=Y0m hc
     subst hc
     change _=some r at h
     refine AW.marks 3002 2990 (by decide) rfl rfl<|AW.unboxF 0 2000 (by decide) rfl rfl fun v34=>rt ?_
     cases h;exact (Zuk 2990 _ _ rfl rfl (RetOK.turn (Turn.packF 0 2000 (fun v=>(⟨v,s32.2⟩:slice_heap_o0)) (by decide) rfl rfl) (Z47 (i:=0) Tryz.results148 rfl (Zv rfl (i:=5) rfl ty4) rfl)))
    | false=>
     rw [hc] at h
     cases h
def Zh5:(List Rule)→Nat→(List Zs)→Int→Option ((List Zs)×Int)
 | [],i18,l15,b17=>some (l15,0)
 | x20::l19,i18,l15,b17=>(Zr6 (⟨l15,b17⟩:Z4c) x20.Cube).bind fun b22=>(bif (!b22.1) then some ([],5) else (Zh5 l19) (i18+1) b22.2.cubes b22.2.most)
def Zro (x1:Flat)(i2:Int)(m3:Int):Option ((List Zs)×Int):=
 (bif ((decide (i2<0))||(decide (i2≥(x1.Rules.length:Int)))) then some ([],6) else (lget x1.Rules i2).bind fun x5=>(Zcs x5.Cube).bind fun x6=>(Zj4 (⟨[x6],m3⟩:Z4c)).bind fun b9=>(bif b9.1 then some ([],5) else (Z5c x1.Rules i2).bind fun s11=>Zh5 s11 0 b9.2.cubes b9.2.most))
theorem Ykn:Q3 Tryz.prog 98 (rd Z4d) (rd (Z0 .i64)) (rd (Z0 .i64)) (fun r=>Z0t (rd (Z1 (Z4 24 Z7)) r.1) (rd (Z0 .i64) r.2)) Zro:=fun x1 i2 m3 r h=>I0 Tryz.func98 rfl Tryz.ntmps98 rfl fun w H Z=>by
 unfold Zro at h
 refine SR<|Cv rfl (Zm 4 rfl rfl (vt rfl)) fun g4=>Ac (Zn (A:=rd (Z1 (Z4 24 Z7)) []) rfl rfl Z04) rfl<|Ak rfl<|Nl<|sq<|SR<|Md rfl<|Ac (Zh rfl rfl (vt rfl) (vk rfl)) rfl<|Md rfl<|Gd rfl (fun hq=>Zk (A:=rd (Z0 .i64) i2) rfl rfl (vt rfl))<|Gd rfl (fun hq=>Z0i lFlat_0 rfl rfl Zha (vt rfl))<|Gd rfl (fun hq=>Z08 rfl rfl Ze4 (Z8 rfl hq) (i:=4) rfl)<|Gd rfl (fun hq=>Z07 rfl rfl Z4f (Z8 rfl hq))<|Gd rfl (fun hq=>Z1z rfl rfl (Z8 rfl hq) (Z8 rfl hq))<|Ac (Z1u rfl rfl (vt rfl) (vt rfl)) rfl<|Nl<|Cq rfl h (fun h=>?_) (fun h=>?_)
 ·refine SR<|Ac (Zn (A:=rd (Z1 (Z4 24 Z7)) []) rfl rfl Z04) rfl<|Ak rfl<|Nl<|rt ?_
  cases h;exact Z0c Tryz.results98 rfl (Z5 rfl) (Z5 rfl)
 ·refine sk<|sq ?_
  obtain ⟨x5,hx5,x6,hx6,h⟩:=bs2 h
  refine Rg<|Zf lFlat_0 Zha rfl<|Ld Ze4 4 rfl<|Md rfl<|Ac (Z0d rfl rfl Z4f (vt rfl) (vt rfl) hx5) rfl<|Fp lRule_0 Zn7 rfl<|Lp1 Z09 rfl<|Cl [25] (Zif _ _ hx6) e31 rfl<|Cv rfl (Z65 1001 (ps:=[(0,.tmp 26)]) (l:=[x6]) rfl rfl Z3b Z22 rfl rfl ⟨_,_,Lens.idx 1 (Z4 24 Z7) 0 (by decide),_,rfl,vt rfl,rfl⟩ rfl) fun v7=>Md rfl<|Ac (opb (⟨v7,m3⟩:slice_heap_o0) Yhv rfl Yc1 (pc Y7n (Zbo (i:=1001) rfl rfl)<|pc Y7a (vt rfl)<|pn rfl)) rfl<|AOps.rename 1001 2620 (by decide) rfl rfl<|Cv rfl (Zm 31 rfl rfl (vt rfl)) fun g8=>Ac (Zn (A:=Za g8 (Lens.id Z1x)) rfl rfl (vt rfl)) rfl<|Nl<|sq<|sq ?_
  obtain ⟨b9,hb9,h⟩:=Z6 h
  refine Rg<|Mp rfl<|AOps.packF 31 2620 (fun v=>(⟨v,m3⟩:slice_heap_o0)) (by decide) rfl rfl<|Cv rfl (Z0y 31 (xs:=[.tmp 31]) (Y0w _ _ _ _ hb9) Y0j rfl rfl ⟨vt rfl,trivial⟩ rfl) fun _u=>AOps.unboxF 31 2620 (by decide) rfl rfl fun v10=>Nl<|Cq rfl h (fun h=>?_) (fun h=>?_)
  ·refine SR<|Ac (Zn (A:=rd (Z1 (Z4 24 Z7)) []) rfl rfl Z04) rfl<|Ak rfl<|Nl<|rt ?_
   cases h;exact Z0c Tryz.results98 rfl (Z5 rfl) (Z5 rfl)
  ·refine sk<|sq<|sq ?_
   obtain ⟨s11,hs11,h⟩:=Z6 h
   refine Rg<|Zf lFlat_0 Zha rfl<|Ld Ze4 4 rfl<|Md rfl<|Ac (Zj9 hs11 rfl rfl Z4f (vt rfl) (vt rfl)) rfl<|Ac (Z07 rfl rfl Z4f (vt rfl)) rfl<|Mk rfl<|Nl<|bk<|LG (d:=[]) (ν:=(List Rule)×Nat×(List Zs)×Int×Value) (fun (l19,i18,l15,b17,v16)=>(Sfx s11 i18 l19∧Zh5 l19 i18 l15 b17=some r,l19.length,[(8,Za g8 (Lens.id Z1x)),(36,rd (Z1 Z0n) s11),(37,rd (Z0 .i64) (s11.length:Int)),(38,rd (Z0 .i64) (i18:Int))],[(31,Zd g8 267 Z1x (⟨v16,b17⟩:slice_heap_o0)),(2620,Zi v16 32 (Z4 24 Z7) l15)])) (s11,0,b9.2.cubes,b9.2.most,v10) ⟨Sfx.start _,h⟩ (FX rfl) ?_
   rintro ⟨l19,i18,l15,b17,v16⟩ ⟨hsf1,h⟩
   dsimp only at hsf1 h ⊢
   cases l19 with
   | nil=>
    unfold Zh5 at h
    refine SR<|Ac (Zh rfl rfl (vt rfl) (vt rfl)) rfl<|Nl<|sq<|Cn rfl (fun hc=>absurd (of_decide_eq_true hc) hsf1.nil) (fun hc=>?_)
    refine xt<|SR<|Mp rfl<|Nc rfl<|Zf lslice_heap_o0_0 Zbf rfl<|Ac (Z3n v16 rfl rfl Zbb (vt rfl) (i:=31) rfl rfl) rfl<|Aw rfl<|Ak rfl<|Nl<|AW.freezes [6,51] 2620 rfl ⟨rfl,rfl,trivial⟩ rfl<|rt ?_
    cases h;exact Z0c Tryz.results98 rfl (Z5 rfl) (Z5 rfl)
   | cons x20 l19=>
    unfold Zh5 at h
    refine SR<|Ac (Zh rfl rfl (vt rfl) (vt rfl)) rfl<|Nl<|sq<|Cn rfl (fun hc=>?_) (fun hc=>absurd hsf1.cons (of_decide_eq_false hc))
    have hlti18:=of_decide_eq_true hc
    refine sk<|sq<|bk<|SR<|Ac (Z0d rfl rfl Z4f (vt rfl) (vt rfl) hsf1.lget) rfl<|Lp1 Z7h rfl<|Cv rfl (Zo 11 rfl rfl Z8e) fun g21=>Ze Z7h 11 rfl<|Nl<|sq ?_
    obtain ⟨b22,hb22,h⟩:=Z6 h
    refine Rg<|Mp rfl<|Zf lRule_0 Zn7 rfl<|Ld Z09 11 rfl<|AOps.packF 31 2620 (fun v=>(⟨v,b17⟩:slice_heap_o0)) (by decide) rfl rfl<|Cv rfl (Z0y 31 (xs:=[.tmp 42,.tmp 44]) (Yho _ _ _ _ _ hb22) Yop rfl rfl ⟨vt rfl,vt rfl,trivial⟩ rfl) fun _u=>AOps.unboxF 31 2620 (by decide) rfl rfl fun v23=>Ac (Z0g rfl rfl (vt rfl)) rfl<|Nl<|Cq rfl h (fun h=>?_) (fun h=>?_)
    ·refine SR<|Ac (Zn (A:=rd (Z1 (Z4 24 Z7)) []) rfl rfl Z04) rfl<|Ak rfl<|Nl<|rt ?_
     cases h;exact Z0c Tryz.results98 rfl (Z5 rfl) (Z5 rfl)
    ·refine sk<|Rg<|Ac (Z0a (t:=37) rfl rfl (vt rfl) (vk rfl) (vt rfl) hlti18) rfl<|Md rfl<|Nl ?_
     exact ⟨(_,_,_,_,_),Nat.lt_succ_self _,⟨hsf1.next,h⟩,FX rfl⟩
end Go.Proofs.YtjppkmpecdbepaaGreatDoor.W
set_option maxHeartbeats 1000000
set_option maxRecDepth 4000
namespace Go.Proofs.YtjppkmpecdbepaaGreatDoor.W
open Go Go.Wb
theorem e98:Ent Tryz.prog 98:=Ent.mk Tryz.func98 rfl rfl
theorem e54:Ent Tryz.prog 54:=Ent.mk Tryz.func54 rfl rfl
theorem e55:Ent Tryz.prog 55:=Ent.mk Tryz.func55 rfl rfl
theorem Yin:Ent Tryz.prog 272:=Ent.mk Tryz.func272 rfl rfl
theorem Yaw:Ent Tryz.prog 271:=Ent.mk Tryz.func271 rfl rfl
theorem Yjd:Ent Tryz.prog 237:=Ent.mk Tryz.func237 rfl rfl
theorem Yjg:Ent Tryz.prog 238:=Ent.mk Tryz.func238 rfl rfl
theorem Y6r:Ent Tryz.prog 161:=Ent.mk Tryz.func161 rfl rfl
def Zgf (x1:Flat)(m2:Int):Nat→Nat→(List (List Zs))→Option ((List (List Zs))×Int)
 | 0,i8,l6=>some (l6,0)
 | m9+1,i8,l6=>(Zro x1 (i8:Int) m2).bind fun x10=>(bif (decide (x10.2≠0)) then some ([],x10.2) else (Z11 l6 [x10.1]).bind fun l11=>(Zgf x1 m2 m9) (i8+1) l11)
def Zsh (x1:Flat)(m2:Int):Option ((List (List Zs))×Int):=
 Zgf x1 m2 ((x1.Rules.length:Int):Int).toNat 0 []
theorem Ymo:Q2 Tryz.prog 55 (rd Z4d) (rd (Z0 .i64)) (fun r=>Z0t (rd (Z1 (Z1 (Z4 24 Z7))) r.1) (rd (Z0 .i64) r.2)) Zsh:=fun x1 m2 r h=>I0 Tryz.func55 rfl Tryz.ntmps55 rfl fun w H Z=>by
 unfold Zsh at h
 refine SR<|Cv rfl (Zm 3 rfl rfl (vt rfl)) fun g3=>Ac (Zn (A:=rd (Z1 (Z1 (Z4 24 Z7))) []) rfl rfl Z04) rfl<|Ak rfl<|Nl<|sq<|AW.newnil 1001 25 (Z1 (Z4 24 Z7))<|Rg<|Ac (Zn rfl rfl vc) rfl<|Nl<|sq<|SR<|Zf lFlat_0 Zha rfl<|Ld Ze4 3 rfl<|Ac (Z07 rfl rfl Z4f (vt rfl)) rfl<|Mk rfl<|Nl<|bk<|LG (d:=[]) (ν:=Nat×Nat×(List (List Zs))×Value) (fun (m9,i8,l6,v7)=>(Cnt (x1.Rules.length:Int) i8 m9∧Zgf x1 m2 m9 i8 l6=some r,m9,[(1,rd (Z0 .i64) m2),(2,Za g3 (Lens.id Z4d)),(6,Zg v7),(12,rd (Z0 .i64) (x1.Rules.length:Int)),(13,rd (Z0 .i64) (i8:Int))],[(3,Zd g3 151 Z4d x1),(1001,Zi v7 25 (Z1 (Z4 24 Z7)) l6)])) (((x1.Rules.length:Int):Int).toNat,0,[],(.slice none 0 0)) ⟨Cnt.start _,h⟩ (FX rfl) ?_
 rintro ⟨m9,i8,l6,v7⟩ ⟨hsf1,h⟩
 dsimp only at hsf1 h ⊢
 cases m9 with
 | zero=>
  unfold Zgf at h
  refine SR<|Ac (Zh rfl rfl (vt rfl) (vt rfl)) rfl<|Nl<|sq<|Cn rfl (fun hc=>absurd (of_decide_eq_true hc) hsf1.zero) (fun hc=>?_)
  refine xt<|SR<|Mw rfl<|Aw rfl<|Ak rfl<|Nl<|AW.freezes [4,6,31] 1001 rfl ⟨rfl,rfl,rfl,trivial⟩ rfl<|rt ?_
  cases h;exact Z0c Tryz.results55 rfl (Z5 rfl) (Z5 rfl)
 | succ m9=>
  unfold Zgf at h
  refine SR<|Ac (Zh rfl rfl (vt rfl) (vt rfl)) rfl<|Nl<|sq<|Cn rfl (fun hc=>?_) (fun hc=>absurd hsf1.succ (of_decide_eq_false hc))
  have hlti8:=of_decide_eq_true hc
  refine sk<|sq<|bk<|SR<|Md rfl<|As rfl<|Nl<|sq ?_
  obtain ⟨x10,hx10,h⟩:=Z6 h
  refine Rg<|Ld Z88 3 rfl<|Md rfl<|Md rfl<|Cl [17,18,19] (Ykn _ _ _ _ hx10) e98 rfl<|Mt2 rfl<|Ac (Z10 rfl rfl (vt rfl)) rfl<|Ac (Z0z rfl rfl (vt rfl)) rfl<|As rfl<|As rfl<|Nl<|sq<|SR<|Md rfl<|Ac (Z2j rfl rfl (vt rfl) (vk rfl)) rfl<|Nl<|Cq rfl h (fun h=>?_) (fun h=>?_)
  ·refine SR<|Md rfl<|Ac (Zn (A:=rd (Z1 (Z1 (Z4 24 Z7))) []) rfl rfl Z04) rfl<|As rfl<|Nl<|rt ?_
   cases h;exact Z0c Tryz.results55 rfl (Z5 rfl) (Z5 rfl)
  ·refine sk ?_
   obtain ⟨l11,hl11,h⟩:=Z6 h
   refine Rg<|Mw rfl<|Md rfl<|Ac (osl Zso Y59 rfl (vt rfl)) rfl<|Cv rfl (Z1f 1001 hl11 rfl rfl Ybk (vt rfl) rfl (vt rfl)) fun v12=>Aw rfl<|Nl<|Rg<|Ac (Z0a (t:=12) rfl rfl (vt rfl) (vk rfl) (vt rfl) hlti8) rfl<|Md rfl<|Nl ?_
   exact ⟨(_,_,_,_),Nat.lt_succ_self _,⟨hsf1.next,h⟩,FX rfl⟩
def Ze3 (m2:Int):(List Switch)→Nat→(List spread_table)→Option ((List spread_table)×Int)
 | [],i8,l6=>some (l6,0)
 | x10::l9,i8,l6=>(Zpg x10 m2).bind fun x12=>(bif (decide (x12.2≠0)) then some ([],5) else (Zsh x12.1 m2).bind fun x14=>(bif (decide (x14.2≠0)) then some ([],5) else (Z11 l6 [(⟨x12.1,x14.1⟩:spread_table)]).bind fun l15=>(Ze3 m2 l9) (i8+1) l15))
def Zs3 (n1:Net)(m2:Int):Option ((List spread_table)×Int):=
 Ze3 m2 n1.Switches 0 []
theorem Ykw:Q2 Tryz.prog 29 (rd Z1v) (rd (Z0 .i64)) (fun r=>Z0t (rd (Z1 Z2f) r.1) (rd (Z0 .i64) r.2)) Zs3:=fun n1 m2 r h=>I0 Tryz.func29 rfl Tryz.ntmps29 rfl fun w H Z=>by
 unfold Zs3 at h
 refine SR<|Cv rfl (Zm 3 rfl rfl (vt rfl)) fun g3=>Ac (Zn (A:=rd (Z1 Z2f) []) rfl rfl Z04) rfl<|Ak rfl<|Nl<|sq<|AW.newnil 1001 158 Z2f<|Rg<|Ac (Zn rfl rfl vc) rfl<|Nl<|sq<|SR<|Zf lNet_0 Zh7 rfl<|Ld Zfp 3 rfl<|Ac (Z07 rfl rfl Z7v (vt rfl)) rfl<|Mk rfl<|Nl<|bk<|LG (d:=[]) (ν:=(List Switch)×Nat×(List spread_table)×Value) (fun (l9,i8,l6,v7)=>(Sfx n1.Switches i8 l9∧Ze3 m2 l9 i8 l6=some r,l9.length,[(1,rd (Z0 .i64) m2),(6,Zg v7),(13,rd (Z1 kSwitch) n1.Switches),(14,rd (Z0 .i64) (n1.Switches.length:Int)),(15,rd (Z0 .i64) (i8:Int))],[(1001,Zi v7 158 Z2f l6)])) (n1.Switches,0,[],(.slice none 0 0)) ⟨Sfx.start _,h⟩ (FX rfl) ?_
 rintro ⟨l9,i8,l6,v7⟩ ⟨hsf1,h⟩
 dsimp only at hsf1 h ⊢
 cases l9 with
 | nil=>
  unfold Ze3 at h
  refine SR<|Ac (Zh rfl rfl (vt rfl) (vt rfl)) rfl<|Nl<|sq<|Cn rfl (fun hc=>absurd (of_decide_eq_true hc) hsf1.nil) (fun hc=>?_)
  refine xt<|SR<|Mw rfl<|Aw rfl<|Ak rfl<|Nl<|AW.freezes [4,6,42] 1001 rfl ⟨rfl,rfl,rfl,trivial⟩ rfl<|rt ?_
  cases h;exact Z0c Tryz.results29 rfl (Z5 rfl) (Z5 rfl)
 | cons x10 l9=>
  unfold Ze3 at h
  refine SR<|Ac (Zh rfl rfl (vt rfl) (vt rfl)) rfl<|Nl<|sq<|Cn rfl (fun hc=>?_) (fun hc=>absurd hsf1.cons (of_decide_eq_false hc))
  have hlti8:=of_decide_eq_true hc
  refine sk<|sq<|bk<|SR<|Ac (Z0d rfl rfl Z7v (vt rfl) (vt rfl) hsf1.lget) rfl<|Lp1 Z27 rfl<|Cv rfl (Zo 9 rfl rfl Z5v) fun g11=>Ze Z27 9 rfl<|Nl<|sq ?_
  obtain ⟨x12,hx12,h⟩:=Z6 h
  refine Rg<|Ld Z27 9 rfl<|Md rfl<|Cl [20,21] (Yll _ _ _ hx12) e54 rfl<|Mt2 rfl<|Ac (Z10 rfl rfl (vt rfl)) rfl<|Ac (Z0z rfl rfl (vt rfl)) rfl<|Cv rfl (Zo 10 rfl rfl Zig) fun g13=>Ze Z88 10 rfl<|As rfl<|Nl<|sq<|SR<|Md rfl<|Ac (Z2j rfl rfl (vt rfl) (vk rfl)) rfl<|Nl<|Cq rfl h (fun h=>?_) (fun h=>?_)
  ·refine SR<|Ac (Zn (A:=rd (Z1 Z2f) []) rfl rfl Z04) rfl<|Ak rfl<|Nl<|rt ?_
   cases h;exact Z0c Tryz.results29 rfl (Z5 rfl) (Z5 rfl)
  ·refine sk<|sq ?_
   obtain ⟨x14,hx14,h⟩:=Z6 h
   refine Rg<|Ld Z88 10 rfl<|Md rfl<|Cl [28,29] (Ymo _ _ _ hx14) e55 rfl<|Ac (Zk (A:=Z0t (rd (Z1 (Z1 (Z4 24 Z7))) x14.1) (rd (Z0 .i64) x14.2)) rfl rfl (vt rfl)) rfl<|Ac (Z10 rfl rfl (vt rfl)) rfl<|Ac (Z0z rfl rfl (vt rfl)) rfl<|As rfl<|As rfl<|Nl<|sq<|SR<|Md rfl<|Ac (Z2j rfl rfl (vt rfl) (vk rfl)) rfl<|Nl<|Cq rfl h (fun h=>?_) (fun h=>?_)
   ·refine SR<|Ac (Zn (A:=rd (Z1 Z2f) []) rfl rfl Z04) rfl<|Ak rfl<|Nl<|rt ?_
    cases h;exact Z0c Tryz.results29 rfl (Z5 rfl) (Z5 rfl)
   ·refine sk ?_
    obtain ⟨l15,hl15,h⟩:=Z6 h
    refine Rg<|Mw rfl<|Ld Z88 10 rfl<|Md rfl<|Ac (opb (⟨x12.1,x14.1⟩:spread_table) Zsf rfl Yac (pc Yj7 (vt rfl)<|pc Ya8 (vt rfl)<|pn rfl)) rfl<|Ac (osl Zwf Zsf rfl (vt rfl)) rfl<|Cv rfl (Z1f 1001 hl15 rfl rfl Y84 (vt rfl) rfl (vt rfl)) fun v16=>Aw rfl<|Nl<|Rg<|Ac (Z0a (t:=14) rfl rfl (vt rfl) (vk rfl) (vt rfl) hlti8) rfl<|Md rfl<|Nl ?_
    exact ⟨(_,_,_,_),Nat.lt_succ_self _,⟨hsf1.next,h⟩,FX rfl⟩
def Zoi (b1:spread_beam)(x2:Zs):Option (spread_beam×Bool):=
 (Zki b1.got x2).bind fun x6=>(bif (!x6.2) then some ((⟨(Vector.replicate 24 Z1h),(Vector.replicate 24 Z1h)⟩:spread_beam),false) else (Z9k x6.1 b1.cube).bind fun x8=>some ({b1 with cube:=x8.1},x8.2))
theorem Y9q:Q2 Tryz.prog 56 (rd Z2u) (rd (Z4 24 Z7)) (fun r=>Z0t (rd Z2u r.1) (rd Z3 r.2)) Zoi:=fun b1 x2 r h=>I0 Tryz.func56 rfl Tryz.ntmps56 rfl fun w H Z=>by
 unfold Zoi at h
 refine SR<|Cv rfl (Zm 3 rfl rfl (vt rfl)) fun g3=>Cv rfl (Zm 4 rfl rfl (vt rfl)) fun g4=>Cv rfl (Zo 5 rfl rfl Za1) fun g5=>Ab rfl<|Nl<|sq ?_
 obtain ⟨x6,hx6,h⟩:=Z6 h
 refine Rg<|Zf lspread_beam_1 Zay rfl<|Ld Z0s 3 rfl<|Ld Z09 4 rfl<|Cl [10,11] (Y1k _ _ _ hx6) e99 rfl<|Mt2 rfl<|Ac (Z10 rfl rfl (vt rfl)) rfl<|Ac (Z0z rfl rfl (vt rfl)) rfl<|Cv rfl (Zo 7 rfl rfl Z22) fun g7=>Ze Z09 7 rfl<|As rfl<|Nl<|sq<|SR<|Md rfl<|Ac (Z0g rfl rfl (vt rfl)) rfl<|Nl<|Cq rfl h (fun h=>?_) (fun h=>?_)
 ·refine SR<|Ac (opb (⟨(Vector.replicate 24 Z1h),(Vector.replicate 24 Z1h)⟩:spread_beam) Za1 rfl Zti (pn rfl)) rfl<|Ze Z5b 5 rfl<|Ab rfl<|Nl<|rt ?_
  cases h;exact Z0c Tryz.results56 rfl (Zv rfl (i:=5) rfl Z5b) (Z5 rfl)
 ·refine sk<|sq ?_
  obtain ⟨x8,hx8,h⟩:=Z6 h
  refine Rg<|Ld Z09 7 rfl<|Zf lspread_beam_0 Zex rfl<|Ld Z09 3 rfl<|Cl [19,21] (Zde _ _ _ hx8) Zen rfl<|Mt2 rfl<|Ac (Z10 rfl rfl (vt rfl)) rfl<|Ac (Z0z rfl rfl (vt rfl)) rfl<|Zf lspread_beam_0 Zex rfl<|Ze Z09 3 rfl<|As rfl<|Nl<|SR<|Ld Z5b 3 rfl<|Md rfl<|Ze Z5b 5 rfl<|As rfl<|Nl<|rt ?_
  cases h;exact Z0c Tryz.results56 rfl (Zv rfl (i:=5) rfl Z5b) (Z5 rfl)
def Zsa (x1:Env)(n2:Int):Option Int:=
 (bif (decide (n2<1)) then some 0 else (Z9f x1.Turn n2).bind fun q4=>(bif (decide (q4<0)) then some (IntKind.i64.wrap (q4+n2)) else some q4))
theorem Yo8:Q2 Tryz.prog 237 (rd Z1a) (rd (Z0 .i64)) (rd (Z0 .i64)) Zsa:=fun x1 n2 r h=>I0 Tryz.func237 rfl Tryz.ntmps237 rfl fun w H Z=>by
 unfold Zsa at h
 refine SR<|Cv rfl (Zm 3 rfl rfl (vt rfl)) fun g3=>Ak rfl<|Nl<|sq<|SR<|Md rfl<|Ac (Zh rfl rfl (vt rfl) (vk rfl)) rfl<|Nl<|Cq rfl h (fun h=>?_) (fun h=>?_)
 ·refine SR<|Ak rfl<|Nl<|rt ?_
  cases h;exact Z9 Tryz.results237 rfl (Z5 rfl)
 ·refine sk<|sq ?_
  obtain ⟨q4,hq4,h⟩:=Z6 h
  refine Rg<|Zf lEnv_0 Zvv rfl<|Ld Zc 3 rfl<|Md rfl<|Ac (Zjh rfl rfl (vt rfl) (vt rfl) hq4) rfl<|As rfl<|Nl<|sq<|SR<|Md rfl<|Ac (Zh rfl rfl (vt rfl) (vk rfl)) rfl<|Nl<|Cq rfl h (fun h=>?_) (fun h=>?_)
  ·refine Rg<|Md rfl<|Md rfl<|Ac (Z0o rfl rfl (vt rfl) (vt rfl)) rfl<|As rfl<|Nl<|SR<|Md rfl<|As rfl<|Nl<|rt ?_
   cases h;exact Z9 Tryz.results237 rfl (Z5 rfl)
  ·refine sk<|SR<|Md rfl<|As rfl<|Nl<|rt ?_
   cases h;exact Z9 Tryz.results237 rfl (Z5 rfl)
def Zuc (x1:Env)(p2:Int):Option Bool:=
 (Zhb x1.Down p2).bind fun x4=>some (!x4)
theorem Ybl:Q2 Tryz.prog 272 (rd Z1a) (rd (Z0 .i64)) (rd Z3) Zuc:=fun x1 p2 r h=>I0 Tryz.func272 rfl Tryz.ntmps272 rfl fun w H Z=>by
 unfold Zuc at h
 refine SR<|Cv rfl (Zm 3 rfl rfl (vt rfl)) fun g3=>Ab rfl<|Nl<|sq ?_
 obtain ⟨x4,hx4,h⟩:=Z6 h
 refine Rg<|Zf lEnv_1 Yl9 rfl<|Ld Yf3 3 rfl<|Md rfl<|Cl [6,7] (Zrv _ _ _ hx4) Zsn rfl<|Ac (Z0g rfl rfl (vt rfl)) rfl<|As rfl<|Nl<|rt ?_
 cases h;exact Z9 Tryz.results272 rfl (Z5 rfl)
def Zl9 (x1:Bucket)(x2:env_world):Option Bool:=
 (Zuc x2.Env x1.Watch).bind fun x4=>some x4
theorem Y5e:Q2 Tryz.prog 271 (rd Z16) (rp Z7f) (rd Z3) Zl9:=fun x1 x2 r h=>I0 Tryz.func271 rfl Tryz.ntmps271 rfl fun w H Z=>by
 unfold Zl9 at h
 refine SR<|Cv rfl (Zm 3 rfl rfl (vt rfl)) fun g3=>Ab rfl<|Nl<|sq ?_
 obtain ⟨x4,hx4,h⟩:=Z6 h
 refine Rg<|Fp lenv_world_0 Y0e rfl<|Lp1 Z6q rfl<|Zf lBucket_1 Zfm rfl<|Ld Zc 3 rfl<|Cl [5,7] (Ybl _ _ _ hx4) Yin rfl<|As rfl<|Nl<|rt ?_
 cases h;exact Z9 Tryz.results271 rfl (Z5 rfl)
def Zui (w1:env_world):Option Int:=
 (Zi5 w1.Group.Buckets (fun x=>Zl9 x w1)).bind fun x3=>some x3
theorem Yhh:Q1 Tryz.prog 238 (rd Z7f) (rd (Z0 .i64)) Zui:=fun w1 r h=>I0 Tryz.func238 rfl Tryz.ntmps238 rfl fun w H Z=>by
 unfold Zui at h
 refine SR<|Cv rfl (Zm 2 rfl rfl (vt rfl)) fun g2=>Ak rfl<|Nl<|sq<|AW.freezeB 1 2 rfl rfl rfl ?_
 obtain ⟨x3,hx3,h⟩:=Z6 h
 refine Rg<|Fp lenv_world_1 Zgp rfl<|Fp lGroup_2 Z4o rfl<|Lp1 Z3u rfl<|Ac (Z30 (cs:=[.tmp 1]) (CAs:=[rp Z7f w1]) (fun x=>Zl9 x w1) rfl rfl Yaw ⟨vt rfl,trivial⟩ (fun x y h=>Y5e _ _ y h)) rfl<|Cl [5,6] (Zzt _ _ _ hx3) Y3z rfl<|As rfl<|Nl<|rt ?_
 cases h;exact Z9 Tryz.results238 rfl (Z5 rfl)
def Zf0:Nat→Nat→(List Int)→Option (List Int)
 | 0,i10,l8=>some l8
 | m11+1,i10,l8=>(Z11 l8 [(i10:Int)]).bind fun l12=>(Zf0 m11) (i10+1) l12
def Zpc (x1:Env)(x2:Group):Option (List Int):=
 (bif (decide (((((⟨x1,x2⟩:env_world).Group).Buckets).length:Int)=0)) then some [] else (bif (decide ((((⟨x1,x2⟩:env_world).Group).Kind)=0)) then Zf0 (((((⟨x1,x2⟩:env_world).Group).Buckets).length:Int):Int).toNat 0 [] else (bif (decide ((((⟨x1,x2⟩:env_world).Group).Kind)=1)) then (Zsa ((⟨x1,x2⟩:env_world).Env) ((((⟨x1,x2⟩:env_world).Group).Buckets).length:Int)).bind fun x14=>some [x14] else (bif (decide ((((⟨x1,x2⟩:env_world).Group).Kind)=2)) then some [0] else (bif (decide ((((⟨x1,x2⟩:env_world).Group).Kind)=3)) then (Zui (⟨x1,x2⟩:env_world)).bind fun x15=>(bif (decide (x15≥0)) then some [x15] else some []) else some [])))))
theorem Ygg:Q2 Tryz.prog 201 (rd Z1a) (rd Zt) (rd (Z1 (Z0 .i64))) Zpc:=fun x1 x2 r h=>I0 Tryz.func201 rfl Tryz.ntmps201 rfl fun w H Z=>by
 unfold Zpc at h
 refine SR<|Cv rfl (Zm 3 rfl rfl (vt rfl)) fun g3=>Cv rfl (Zm 4 rfl rfl (vt rfl)) fun g4=>Ac (Zn (A:=rd (Z1 (Z0 .i64)) []) rfl rfl Z04) rfl<|Nl<|SR<|Ld Z6q 3 rfl<|Ld Z1m 4 rfl<|Ac (opb (⟨x1,x2⟩:env_world) Y2s rfl Ygm (pc Y6l (vt rfl)<|pc Ydy (vt rfl)<|pn rfl)) rfl<|Cv rfl (Zo 6 rfl rfl Y2s) fun g5=>Ze Zwr 6 rfl<|Nl<|sq<|SR<|Zf lenv_world_1 Zgp rfl<|Zf lGroup_2 Z4o rfl<|Ld Z3u 6 rfl<|Ac (Z07 rfl rfl Z2y (vt rfl)) rfl<|Ac (Zy rfl rfl (vt rfl) (vk rfl)) rfl<|Nl<|Cq rfl h (fun h=>?_) (fun h=>?_)
 ·refine SR<|Ac (Zn (A:=rd (Z1 (Z0 .i64)) []) rfl rfl Z04) rfl<|Nl<|rt ?_
  cases h;exact Z9 Tryz.results201 rfl (Z5 rfl)
 ·refine sk<|sq<|SR<|Zf lenv_world_1 Zgp rfl<|Zf lGroup_1 Zo8 rfl<|Ld Zc 6 rfl<|Nl<|bk<|SR<|Ac (Zy rfl rfl (vt rfl) (vk rfl)) rfl<|As rfl<|Nl<|Cq rfl h (fun h=>?_) (fun h=>?_)
  ·refine sq<|AW.newnil 1001 3 (Z0 .i64)<|Rg<|Ac (Zn rfl rfl vc) rfl<|Nl<|sq<|SR<|Zf lenv_world_1 Zgp rfl<|Zf lGroup_2 Z4o rfl<|Ld Z3u 6 rfl<|Ac (Z07 rfl rfl Z2y (vt rfl)) rfl<|Mk rfl<|Nl<|bk<|LG (d:=[]) (ν:=Nat×Nat×(List Int)×Value) (fun (m11,i10,l8,v9)=>(Cnt ((((⟨x1,x2⟩:env_world).Group).Buckets).length:Int) i10 m11∧Zf0 m11 i10 l8=some r,m11,[(6,Zg v9),(25,rd (Z0 .i64) ((((⟨x1,x2⟩:env_world).Group).Buckets).length:Int)),(26,rd (Z0 .i64) (i10:Int))],[(1001,Zi v9 3 (Z0 .i64) l8)])) ((((((⟨x1,x2⟩:env_world).Group).Buckets).length:Int):Int).toNat,0,[],(.slice none 0 0)) ⟨Cnt.start _,h⟩ (FX rfl) ?_
   rintro ⟨m11,i10,l8,v9⟩ ⟨hsf1,h⟩
   dsimp only at hsf1 h ⊢
   cases m11 with
   | zero=>
    unfold Zf0 at h
    refine SR<|Ac (Zh rfl rfl (vt rfl) (vt rfl)) rfl<|Nl<|sq<|Cn rfl (fun hc=>absurd (of_decide_eq_true hc) hsf1.zero) (fun hc=>?_)
    refine xt<|SR<|Mw rfl<|Aw rfl<|Nl<|AW.freezes [4,6,34] 1001 rfl ⟨rfl,rfl,rfl,trivial⟩ rfl<|rt ?_
    cases h;exact Z9 Tryz.results201 rfl (Z5 rfl)
   | succ m11=>
    unfold Zf0 at h
    refine SR<|Ac (Zh rfl rfl (vt rfl) (vt rfl)) rfl<|Nl<|sq<|Cn rfl (fun hc=>?_) (fun hc=>absurd hsf1.succ (of_decide_eq_false hc))
    have hlti10:=of_decide_eq_true hc
    refine sk<|sq<|bk<|SR<|Md rfl<|As rfl<|Nl ?_
    obtain ⟨l12,hl12,h⟩:=Z6 h
    refine Rg<|Mw rfl<|Md rfl<|Ac (osl Z15 zr3 rfl (vt rfl)) rfl<|Cv rfl (Z1f 1001 hl12 rfl rfl Z74 (vt rfl) rfl (vt rfl)) fun v13=>Aw rfl<|Nl<|Rg<|Ac (Z0a (t:=25) rfl rfl (vt rfl) (vk rfl) (vt rfl) hlti10) rfl<|Md rfl<|Nl ?_
    exact ⟨(_,_,_,_),Nat.lt_succ_self _,⟨hsf1.next,h⟩,FX rfl⟩
  ·refine SR<|Ac (Zy rfl rfl (vt rfl) (vk rfl)) rfl<|As rfl<|Nl<|Cq rfl h (fun h=>?_) (fun h=>?_)
   ·refine sq ?_
    obtain ⟨x14,hx14,h⟩:=Z6 h
    refine Rg<|Zf lenv_world_0 Y0e rfl<|Ld Z6q 6 rfl<|Zf lenv_world_1 Zgp rfl<|Zf lGroup_2 Z4o rfl<|Ld Z3u 6 rfl<|Ac (Z07 rfl rfl Z2y (vt rfl)) rfl<|Cl [38,42] (Yo8 _ _ _ hx14) Yjd rfl<|Ac (osl Z15 zr3 rfl (vt rfl)) rfl<|As rfl<|Nl<|rt ?_
    cases h;exact Z9 Tryz.results201 rfl (Z5 rfl)
   ·refine SR<|Ac (Zy rfl rfl (vt rfl) (vk rfl)) rfl<|As rfl<|Nl<|Cq rfl h (fun h=>?_) (fun h=>?_)
    ·refine SR<|Ac (osl Z15 zr3 rfl (vk rfl)) rfl<|As rfl<|Nl<|rt ?_
     cases h;exact Z9 Tryz.results201 rfl (Z5 rfl)
    ·refine SR<|Ac (Zy rfl rfl (vt rfl) (vk rfl)) rfl<|As rfl<|Nl<|Cq rfl h (fun h=>?_) (fun h=>?_)
     ·refine sq ?_
      obtain ⟨x15,hx15,h⟩:=Z6 h
      refine Rg<|Ld Zwr 6 rfl<|Cl [50] (Yhh _ _ hx15) Yjg rfl<|As rfl<|Nl<|SR<|Md rfl<|Ac (Z1z rfl rfl (vt rfl) (vk rfl)) rfl<|Nl<|Cq rfl h (fun h=>?_) (fun h=>?_)
      ·refine SR<|Md rfl<|Ac (osl Z15 zr3 rfl (vt rfl)) rfl<|As rfl<|Nl<|rt ?_
       cases h;exact Z9 Tryz.results201 rfl (Z5 rfl)
      ·refine sk<|SR<|Ac (Zn (A:=rd (Z1 (Z0 .i64)) []) rfl rfl Z04) rfl<|Nl<|rt ?_
       cases h;exact Z9 Tryz.results201 rfl (Z5 rfl)
     ·refine sk<|SR<|Ac (Zn (A:=rd (Z1 (Z0 .i64)) []) rfl rfl Z04) rfl<|Nl<|rt ?_
      cases h;exact Z9 Tryz.results201 rfl (Z5 rfl)
def Zcw (R_norm_world_group:(norm_world→Int→Zs→Option (List Atom)))(w1:norm_world):(List Atom)→Nat→(List Atom)→Option (List Atom)
 | [],i8,l6=>some l6
 | x10::l9,i8,l6=>(bif x10.Group then (R_norm_world_group w1 x10.Port x10.Rewrite).bind fun x12=>(Z11 l6 x12).bind fun l13=>(Zcw R_norm_world_group w1 l9) (i8+1) l13 else (Zhc x10.Rewrite).bind fun x15=>(Z11 l6 [{x10 with Rewrite:=x15}]).bind fun l16=>(Zcw R_norm_world_group w1 l9) (i8+1) l16)
def Znp (R_norm_world_list:(norm_world→(List Atom)→Option (List Atom)))(R_norm_world_group:(norm_world→Int→Zs→Option (List Atom)))(w1:norm_world)(a2:(List Atom)):Option (List Atom):=
 Zcw R_norm_world_group w1 a2 0 []
theorem Yko (R_norm_world_list:(norm_world→(List Atom)→Option (List Atom)))(hR_norm_world_list:∀(w1:norm_world) (a2:(List Atom)) (r:(List Atom)),R_norm_world_list w1 a2=some r→PCon Tryz.prog 105 [rd Z3l w1,rd (Z1 Z0p) a2] (rd (Z1 Z0p) r))(R_norm_world_group:(norm_world→Int→Zs→Option (List Atom)))(hR_norm_world_group:∀(w1:norm_world) (i2:Int) (x3:Zs) (r:(List Atom)),R_norm_world_group w1 i2 x3=some r→PCon Tryz.prog 161 [rd Z3l w1,rd (Z0 .i64) i2,rd (Z4 24 Z7) x3] (rd (Z1 Z0p) r))(w1:norm_world)(a2:(List Atom))(r:(List Atom))(h:Znp R_norm_world_list R_norm_world_group w1 a2=some r):PCon Tryz.prog 105 [rd Z3l w1,rd (Z1 Z0p) a2] (rd (Z1 Z0p) r):=by
 refine PCon.of (Con.intro0 Tryz.func105 rfl Tryz.ntmps105 rfl fun w H Z=>?_)
 unfold Znp at h
 refine SR<|Cv rfl (Zm 3 rfl rfl (vt rfl)) fun g3=>Ac (Zn (A:=rd (Z1 Z0p) []) rfl rfl Z04) rfl<|Nl<|sq<|AW.newnil 1001 206 Z0p<|Rg<|Ac (Zn rfl rfl vc) rfl<|Nl<|sq<|SR<|Md rfl<|Ac (Z07 rfl rfl Z67 (vt rfl)) rfl<|Mk rfl<|Nl<|bk<|LG (d:=[]) (ν:=(List Atom)×Nat×(List Atom)×Value) (fun (l9,i8,l6,v7)=>(Sfx a2 i8 l9∧Zcw R_norm_world_group w1 l9 i8 l6=some r,l9.length,[(2,Za g3 (Lens.id Z3l)),(5,Zg v7),(8,rd (Z1 Z0p) a2),(9,rd (Z0 .i64) (a2.length:Int)),(10,rd (Z0 .i64) (i8:Int))],[(3,Zd g3 213 Z3l w1),(1001,Zi v7 206 Z0p l6)])) (a2,0,[],(.slice none 0 0)) ⟨Sfx.start _,h⟩ (FX rfl) ?_
 rintro ⟨l9,i8,l6,v7⟩ ⟨hsf1,h⟩
 dsimp only at hsf1 h ⊢
 cases l9 with
 | nil=>
  unfold Zcw at h
  refine SR<|Ac (Zh rfl rfl (vt rfl) (vt rfl)) rfl<|Nl<|sq<|Cn rfl (fun hc=>absurd (of_decide_eq_true hc) hsf1.nil) (fun hc=>?_)
  refine xt<|SR<|Mw rfl<|Aw rfl<|Nl<|AW.freezes [4,5,33] 1001 rfl ⟨rfl,rfl,rfl,trivial⟩ rfl<|rt ?_
  cases h;exact Z9 Tryz.results105 rfl (Z5 rfl)
 | cons x10 l9=>
  unfold Zcw at h
  refine SR<|Ac (Zh rfl rfl (vt rfl) (vt rfl)) rfl<|Nl<|sq<|Cn rfl (fun hc=>?_) (fun hc=>absurd hsf1.cons (of_decide_eq_false hc))
  have hlti8:=of_decide_eq_true hc
  refine sk<|sq<|bk<|SR<|Ac (Z0d rfl rfl Z67 (vt rfl) (vt rfl) hsf1.lget) rfl<|Lp1 Zad rfl<|Cv rfl (Zo 8 rfl rfl Z9p) fun g11=>Ze Zad 8 rfl<|Nl<|sq<|SR<|Zf Ztu Y27 rfl<|Ld ty4 8 rfl<|Nl<|Cq rfl h (fun h=>?_) (fun h=>?_)
  ·refine sq ?_
   obtain ⟨x12,hx12,l13,hl13,h⟩:=bs2 h
   refine Rg<|Mw rfl<|Ld Y29 3 rfl<|Zf Zcf Zeo rfl<|Ld Zc 8 rfl<|Zf lAtom_0 Zir rfl<|Ld Z0s 8 rfl<|Cl [17,19,21] (hR_norm_world_group _ _ _ _ hx12) Y6r rfl<|Cv rfl (Z1f 1001 hl13 rfl rfl Zcp (vt rfl) rfl (vt rfl)) fun v14=>Aw rfl<|Nl<|xt<|Rg<|Ac (Z0a (t:=9) rfl rfl (vt rfl) (vk rfl) (vt rfl) hlti8) rfl<|Md rfl<|Nl ?_
   exact ⟨(_,_,_,_),Nat.lt_succ_self _,⟨hsf1.next,h⟩,FX rfl⟩
  ·refine sk<|sq ?_
   obtain ⟨x15,hx15,h⟩:=Z6 h
   refine Rg<|Zf lAtom_0 Zir rfl<|Ld Z0s 8 rfl<|Cl [25] (Ztr _ _ hx15) Zuj rfl<|Zf lAtom_0 Zir rfl<|Ze Z0s 8 rfl<|Nl ?_
   obtain ⟨l16,hl16,h⟩:=Z6 h
   refine Rg<|Mw rfl<|Ld Zad 8 rfl<|Ac (osl Z67 Z9p rfl (vt rfl)) rfl<|Cv rfl (Z1f 1001 hl16 rfl rfl Zcp (vt rfl) rfl (vt rfl)) fun v17=>Aw rfl<|Nl<|Rg<|Ac (Z0a (t:=9) rfl rfl (vt rfl) (vk rfl) (vt rfl) hlti8) rfl<|Md rfl<|Nl ?_
   exact ⟨(_,_,_,_),Nat.lt_succ_self _,⟨hsf1.next,h⟩,FX rfl⟩
end Go.Proofs.YtjppkmpecdbepaaGreatDoor.W
