/- A part of the proof. -/
import Derived.Test.YtjppkmpecdbepaaGreatDoorG0
set_option linter.unusedVariables false
set_option maxHeartbeats 1000000
set_option maxRecDepth 4000
set_option linter.unusedSimpArgs false
namespace Go.Proofs.YtjppkmpecdbepaaGreatDoor.W
open Go Go.Wb
theorem e68:Ent Tryz.prog 68:=Ent.mk Tryz.func68 rfl rfl
theorem e66:Ent Tryz.prog 66:=Ent.mk Tryz.func66 rfl rfl
theorem e67:Ent Tryz.prog 67:=Ent.mk Tryz.func67 rfl rfl
theorem e41:Ent Tryz.prog 41:=Ent.mk Tryz.func41 rfl rfl
theorem Y1y:Ent Tryz.prog 166:=Ent.mk Tryz.func166 rfl rfl
theorem Y3c:Ent Tryz.prog 137:=Ent.mk Tryz.func137 rfl rfl
theorem Yde:Ent Tryz.prog 138:=Ent.mk Tryz.func138 rfl rfl
def Zug (x1:Bucket):Option Bool:=
 (Zoq x1).bind fun x3=>some (!x3)
theorem Ye7:Q1 Tryz.prog 67 (rd Z16) (rd Z3) Zug:=fun x1 r h=>I0 Tryz.func67 rfl Tryz.ntmps67 rfl fun w H Z=>by
 unfold Zug at h
 refine SR<|Cv rfl (Zm 2 rfl rfl (vt rfl)) fun g2=>Ab rfl<|Nl<|sq ?_
 obtain ⟨x3,hx3,h⟩:=Z6 h
 refine Rg<|Ld Z76 2 rfl<|Cl [3] (Y72 _ _ hx3) e68 rfl<|Ac (Z0g rfl rfl (vt rfl)) rfl<|As rfl<|Nl<|rt ?_
 cases h;exact Z9 Tryz.results67 rfl (Z5 rfl)
def Zgq:(List Bucket)→Nat→(List Int)→Option ((List Int)×Int)
 | [],i7,l5=>(bif (decide ((l5.length:Int)>60000)) then some ([],1) else some (l5,0))
 | x9::l8,i7,l5=>(Zca x9.Acts).bind fun x11=>(Z3h l5 (IntKind.i64.wrap (16+(x11.1.length:Int))) 2).bind fun x12=>(Z3h x12 x9.Weight 2).bind fun x13=>(Z3h x13 x9.Watch 4).bind fun x15=>(Z3h x15 x9.WatchGroup 4).bind fun x16=>(Z11 x16 [0,0,0,0]).bind fun l18=>(Z11 l18 x11.1).bind fun l20=>(Zgq l8) (i7+1) l20
def Zks (l1:(List Bucket)):Option ((List Int)×Int):=
 (opt (!(decide ((l1.length:Int)>100))) (Zpr l1 Zug)).bind fun x2=>(bif ((decide ((l1.length:Int)>100))||x2) then some ([],1) else Zgq l1 0 [])
theorem Y26:Q1 Tryz.prog 41 (rd (Z1 Z16)) (fun r=>Z0t (rd (Z1 (Z0 .u8)) r.1) (rd (Z0 .i64) r.2)) Zks:=fun l1 r h=>I0 Tryz.func41 rfl Tryz.ntmps41 rfl fun w H Z=>by
 unfold Zks at h
 refine SR<|Ac (Zn (A:=rd (Z1 (Z0 .u8)) []) rfl rfl Z04) rfl<|Ak rfl<|Nl<|sq<|sq ?_
 obtain ⟨x2,hx2,h⟩:=Z6 h
 refine Rg<|Md rfl<|Ac (Z07 rfl rfl Z2y (vt rfl)) rfl<|Ac (Z1s rfl rfl (vt rfl) (vk rfl)) rfl<|Md rfl<|Gd rfl (fun hq=>Zk (A:=rd (Z1 Z16) l1) rfl rfl (vt rfl))<|Gd rfl (fun hq=>Zz (xs:=[.tmp 13,.func 67]) (Yl0 _ _ _ (Z4a hx2 hq)) e66 rfl rfl ⟨Z8 rfl hq,vf1 e67 Ye7,trivial⟩)<|Ac (Z1u rfl rfl (vt rfl) (vt rfl)) rfl<|Nl<|Cq rfl h (fun h=>?_) (fun h=>?_)
 ·refine SR<|Ac (Zn (A:=rd (Z1 (Z0 .u8)) []) rfl rfl Z04) rfl<|Ak rfl<|Nl<|rt ?_
  cases h;exact Z0c Tryz.results41 rfl (Z5 rfl) (Z5 rfl)
 ·refine sk<|sq<|AW.newnil 1001 5 (Z0 .u8)<|Rg<|Ac (Zn rfl rfl vc) rfl<|Nl<|sq<|SR<|Md rfl<|Ac (Z07 rfl rfl Z2y (vt rfl)) rfl<|Mk rfl<|Nl<|bk<|LG (d:=[]) (ν:=(List Bucket)×Nat×(List Int)×Value) (fun (l8,i7,l5,v6)=>(Sfx l1 i7 l8∧Zgq l8 i7 l5=some r,l8.length,[(4,Zg v6),(16,rd (Z1 Z16) l1),(17,rd (Z0 .i64) (l1.length:Int)),(18,rd (Z0 .i64) (i7:Int))],[(1001,Zi v6 5 (Z0 .u8) l5)])) (l1,0,[],(.slice none 0 0)) ⟨Sfx.start _,h⟩ (FX rfl) ?_
  rintro ⟨l8,i7,l5,v6⟩ ⟨hsf1,h⟩
  dsimp only at hsf1 h ⊢
  cases l8 with
  | nil=>
   unfold Zgq at h
   refine SR<|Ac (Zh rfl rfl (vt rfl) (vt rfl)) rfl<|Nl<|sq<|Cn rfl (fun hc=>absurd (of_decide_eq_true hc) hsf1.nil) (fun hc=>?_)
   refine xt<|sq<|SR<|Mw rfl<|Ac (Z2v 1001 rfl rfl Z3w (vt rfl) rfl) rfl<|Ac (Z1s rfl rfl (vt rfl) (vk rfl)) rfl<|Nl<|Cq rfl h (fun h=>?_) (fun h=>?_)
   ·refine SR<|Ac (Zn (A:=rd (Z1 (Z0 .u8)) []) rfl rfl Z04) rfl<|Ak rfl<|Nl<|rt ?_
    cases h;exact Z0c Tryz.results41 rfl (Z5 rfl) (Z5 rfl)
   ·refine sk<|SR<|Mw rfl<|Aw rfl<|Ak rfl<|Nl<|AW.freezes [2,4,49,52] 1001 rfl ⟨rfl,rfl,rfl,rfl,trivial⟩ rfl<|rt ?_
    cases h;exact Z0c Tryz.results41 rfl (Z5 rfl) (Z5 rfl)
  | cons x9 l8=>
   unfold Zgq at h
   refine SR<|Ac (Zh rfl rfl (vt rfl) (vt rfl)) rfl<|Nl<|sq<|Cn rfl (fun hc=>?_) (fun hc=>absurd hsf1.cons (of_decide_eq_false hc))
   have hlti7:=of_decide_eq_true hc
   refine sk<|sq<|bk<|SR<|Ac (Z0d rfl rfl Z2y (vt rfl) (vt rfl) hsf1.lget) rfl<|Lp1 Z76 rfl<|Cv rfl (Zo 7 rfl rfl Z8i) fun g10=>Ze Z76 7 rfl<|Nl<|sq ?_
   obtain ⟨x11,hx11,h⟩:=Z6 h
   refine Rg<|Zf lBucket_3 Zc9 rfl<|Ld Z2x 7 rfl<|Cl [24] (Zi2 _ _ hx11) e69 rfl<|Mt2 rfl<|Ac (Z10 rfl rfl (vt rfl)) rfl<|Ac (Z0z rfl rfl (vt rfl)) rfl<|As rfl<|As rfl<|Nl<|sq ?_
   obtain ⟨x12,hx12,x13,hx13,h⟩:=bs2 h
   refine AR Z03 (by kernel_rfl)<|SMw rfl<|SMd rfl<|Sd (lo [29] [] rfl fun S hs hr=>Z07 rfl rfl Z3w (vh hs 29 rfl rfl))<|Sd (lo [30] [] rfl fun S hs hr=>Z0o rfl rfl (vk rfl) (vh hs 30 rfl rfl))<|Sd (lo [28,31] [1001] rfl fun S hs hr=>Zsb (xs:=[.tmp 28,.tmp 31,.const (Value.int IntKind.i64 2)]) 1001 (Z5p _ _ _ _ hx12) e70 rfl rfl ⟨vL ((hs 28 rfl).trans rfl) ((hr 1001 rfl).trans rfl),vB (vh hs 31 rfl rfl),vB (vk rfl),trivial⟩)<|SFd lBucket_0 Zuw rfl<|Zu Zc 7 rfl<|Sd (Z18 (us:=[(35,Z1y 5 (Z0 .u8) x13)]) (ur:=[]) [32,34] [] rfl fun S hs hr=>Znr (xs:=[.tmp 32,.tmp 34,.const (Value.int IntKind.i64 2)]) (Z5p _ _ _ _ hx13) e70 rfl rfl rfl ⟨vt ((hs 32 rfl).trans rfl),vt ((hs 34 rfl).trans rfl),vk rfl,trivial⟩)<|Sd (Z18 (us:=[(35,top),(4,Z1y 5 (Z0 .u8) x13)]) (ur:=[]) [35] [1003] rfl fun S hs hr=>Zbt 1003 rfl rfl rfl rfl ((hs 35 rfl).trans rfl) ((hr 1003 rfl).trans rfl))<|Sn<|AW.unpackR 4 1002 rfl rfl fun v14=>AW.renameD 1002 1001 (by decide) rfl<|sq ?_
   obtain ⟨x15,hx15,x16,hx16,h⟩:=bs2 h
   refine AR Z03 (by kernel_rfl)<|SMw rfl<|SFd lBucket_1 Zfm rfl<|Zu Zc 7 rfl<|Sd (lo [36,38] [1001] rfl fun S hs hr=>Zsb (xs:=[.tmp 36,.tmp 38,.const (Value.int IntKind.i64 4)]) 1001 (Z5p _ _ _ _ hx15) e70 rfl rfl ⟨vL ((hs 36 rfl).trans rfl) ((hr 1001 rfl).trans rfl),vB (vh hs 38 rfl rfl),vB (vk rfl),trivial⟩)<|SFd lBucket_2 Zs8 rfl<|Zu Zc 7 rfl<|Sd (Z18 (us:=[(42,Z1y 5 (Z0 .u8) x16)]) (ur:=[]) [39,41] [] rfl fun S hs hr=>Znr (xs:=[.tmp 39,.tmp 41,.const (Value.int IntKind.i64 4)]) (Z5p _ _ _ _ hx16) e70 rfl rfl rfl ⟨vt ((hs 39 rfl).trans rfl),vt ((hs 41 rfl).trans rfl),vk rfl,trivial⟩)<|Sd (Z18 (us:=[(42,top),(4,Z1y 5 (Z0 .u8) x16)]) (ur:=[]) [42] [1005] rfl fun S hs hr=>Zbt 1005 rfl rfl rfl rfl ((hs 42 rfl).trans rfl) ((hr 1005 rfl).trans rfl))<|Sn<|AW.unpackR 4 1004 rfl rfl fun v17=>AW.renameD 1004 1001 (by decide) rfl ?_
   obtain ⟨l18,hl18,l20,hl20,h⟩:=bs2 h
   refine Rg<|Mw rfl<|Ac (Z4x (ps:=[(0,.const (Value.int IntKind.u8 0)),(1,.const (Value.int IntKind.u8 0)),(2,.const (Value.int IntKind.u8 0)),(3,.const (Value.int IntKind.u8 0))]) (l:=[0,0,0,0]) rfl rfl Z3w zr5 rfl rfl ⟨_,_,Lens.idx 4 (Z0 .u8) 0 (by decide),_,rfl,vk rfl,_,_,Lens.idx 4 (Z0 .u8) 1 (by decide),_,rfl,vk rfl,_,_,Lens.idx 4 (Z0 .u8) 2 (by decide),_,rfl,vk rfl,_,_,Lens.idx 4 (Z0 .u8) 3 (by decide),_,rfl,vk rfl,rfl⟩ rfl) rfl<|Cv rfl (Z1f 1001 hl18 rfl rfl Z4q (vt rfl) rfl (vt rfl)) fun v19=>Md rfl<|Cv rfl (Z1f 1001 hl20 rfl rfl Z4q (vt rfl) rfl (vt rfl)) fun v21=>Aw rfl<|Nl<|Rg<|Ac (Z0a (t:=17) rfl rfl (vt rfl) (vk rfl) (vt rfl) hlti7) rfl<|Md rfl<|Nl ?_
   exact ⟨(_,_,_,_),Nat.lt_succ_self _,⟨hsf1.next,h⟩,FX rfl⟩
def Zi6 (n1:Int)(t2:Int):Option Bool:=
 some ((decide (n1≥0))&&(decide (n1≤t2)))
theorem Y3q:Q2 Tryz.prog 166 (rd (Z0 .i64)) (rd (Z0 .i64)) (rd Z3) Zi6:=fun n1 t2 r h=>I0 Tryz.func166 rfl Tryz.ntmps166 rfl fun w H Z=>by
 unfold Zi6 at h
 refine SR<|Ab rfl<|Nl<|SR<|Md rfl<|Ac (Z1z rfl rfl (vt rfl) (vk rfl)) rfl<|Md rfl<|Gd rfl (fun hq=>Zk (A:=rd (Z0 .i64) n1) rfl rfl (vt rfl))<|Gd rfl (fun hq=>Zk (A:=rd (Z0 .i64) t2) rfl rfl (vt rfl))<|Gd rfl (fun hq=>Z50 rfl rfl (Z8 rfl hq) (Z8 rfl hq))<|Ac (Z0h rfl rfl (vt rfl) (vt rfl)) rfl<|As rfl<|Nl<|rt ?_
 cases h;exact Z9 Tryz.results166 rfl (Z5 rfl)
def Zul (x1:GroupMod):Option Bool:=
 (Zks x1.Buckets).bind fun x3=>(opt (decide (x3.2=0)) (Zi6 x1.Command 2)).bind fun x4=>(opt ((decide (x3.2=0))&&x4) (Zi6 x1.Kind 3)).bind fun x5=>(opt (((decide (x3.2=0))&&x4)&&x5) (Z7z x1.ID 4)).bind fun x6=>some ((((decide (x3.2=0))&&x4)&&x5)&&x6)
theorem Ygx:Q1 Tryz.prog 108 (rd Z5m) (rd Z3) Zul:=fun x1 r h=>I0 Tryz.func108 rfl Tryz.ntmps108 rfl fun w H Z=>by
 unfold Zul at h
 refine SR<|Cv rfl (Zm 2 rfl rfl (vt rfl)) fun g2=>Ab rfl<|Nl<|sq ?_
 obtain ⟨x3,hx3,h⟩:=Z6 h
 refine Rg<|Zf lGroupMod_3 Zqw rfl<|Ld Z3u 2 rfl<|Cl [7] (Y26 _ _ hx3) e41 rfl<|Mt2 rfl<|Ac (Z10 rfl rfl (vt rfl)) rfl<|Ac (Z0z rfl rfl (vt rfl)) rfl<|As rfl<|As rfl<|Nl<|sq ?_
 obtain ⟨x4,hx4,x5,hx5,x6,hx6,h⟩:=bs3 h
 refine Rg<|Md rfl<|Ac (Zy rfl rfl (vt rfl) (vk rfl)) rfl<|Md rfl<|Gd rfl (fun hq=>Z0i Z7j rfl rfl Z80 (vt rfl))<|Gd rfl (fun hq=>Z08 rfl rfl Zc (Z8 rfl hq) (i:=2) rfl)<|Gd rfl (fun hq=>Zz (xs:=[.tmp 15,.const (Value.int IntKind.i64 2)]) (Y3q _ _ _ (Z1p hx4 hq)) Y1y rfl rfl ⟨Z8 rfl hq,vk rfl,trivial⟩)<|Ac (Z0h rfl rfl (vt rfl) (vt rfl)) rfl<|Md rfl<|Gd rfl (fun hq=>Z0i lGroupMod_1 rfl rfl Zpa (vt rfl))<|Gd rfl (fun hq=>Z08 rfl rfl Zc (Z8 rfl hq) (i:=2) rfl)<|Gd rfl (fun hq=>Zz (xs:=[.tmp 20,.const (Value.int IntKind.i64 3)]) (Y3q _ _ _ (Z1p hx5 hq)) Y1y rfl rfl ⟨Z8 rfl hq,vk rfl,trivial⟩)<|Ac (Z0h rfl rfl (vt rfl) (vt rfl)) rfl<|Md rfl<|Gd rfl (fun hq=>Z0i lGroupMod_2 rfl rfl Zhi (vt rfl))<|Gd rfl (fun hq=>Z08 rfl rfl Zc (Z8 rfl hq) (i:=2) rfl)<|Gd rfl (fun hq=>Zz (xs:=[.tmp 25,.const (Value.int IntKind.i64 4)]) (Zco _ _ _ (Z1p hx6 hq)) e78 rfl rfl ⟨Z8 rfl hq,vk rfl,trivial⟩)<|Ac (Z0h rfl rfl (vt rfl) (vt rfl)) rfl<|As rfl<|Nl<|rt ?_
 cases h;exact Z9 Tryz.results108 rfl (Z5 rfl)
def Z9d (k1:Int)(x2:Int):Option Err:=
 some (Err.e218 (⟨(⟨true,k1,x2⟩:Fault)⟩:state_refused))
theorem Zfl:Q2 Tryz.prog 83 (rd (Z0 .i64)) (rd (Z0 .i64)) (rd Z3y) Z9d:=fun k1 x2 r h=>I0 Tryz.func83 rfl Tryz.ntmps83 rfl fun w H Z=>by
 unfold Z9d at h
 refine SR<|Ac (Zn (A:=rd Z3y Err.no) rfl rfl (vne rfl)) rfl<|Nl<|SR<|Md rfl<|Md rfl<|Ac (opb (⟨true,k1,x2⟩:Fault) Z1t rfl Z41 (pc Zc2 vb<|pc Zce (vt rfl)<|pc Zbu (vt rfl)<|pn rfl)) rfl<|Ac (opb (⟨(⟨true,k1,x2⟩:Fault)⟩:state_refused) Zts rfl Y08 (pc Y1r (vt rfl)<|pn rfl)) rfl<|Ac (Zvr (d:=Zmu) (Err.e218 (⟨(⟨true,k1,x2⟩:Fault)⟩:state_refused)) rfl rfl Zwd rfl (vt rfl)) rfl<|As rfl<|Nl<|rt ?_
 cases h;exact Z9 Tryz.results83 rfl (Z5 rfl)
def Z40 (x1:Int):Option Fault:=
 some (⟨true,6,x1⟩:Fault)
theorem Z4w:Q1 Tryz.prog 119 (rd (Z0 .i64)) (rd Z12) Z40:=fun x1 r h=>I0 Tryz.func119 rfl Tryz.ntmps119 rfl fun w H Z=>by
 unfold Z40 at h
 refine SR<|Cv rfl (Zo 3 rfl rfl Z1t) fun g2=>Nl<|SR<|Md rfl<|Ac (opb (⟨true,6,x1⟩:Fault) Z1t rfl Z41 (pc Zc2 vb<|pc Zce (vk rfl)<|pc Zbu (vt rfl)<|pn rfl)) rfl<|Ze Z05 3 rfl<|Nl<|rt ?_
 cases h;exact Z9 Tryz.results119 rfl (Zv rfl (i:=3) rfl Z05)
def Zc4 (k2:Int)(w3:(Action→Option Int)):(List Action)→Nat→(List Int)→Option (List Int)
 | [],i8,l6=>some l6
 | x10::l9,i8,l6=>(bif (decide (x10.Kind=k2)) then (w3 x10).bind fun x12=>(Z11 l6 [x12]).bind fun l13=>(Zc4 k2 w3 l9) (i8+1) l13 else (Zc4 k2 w3 l9) (i8+1) l6)
def Zko (l1:(List Action))(k2:Int)(w3:(Action→Option Int)):Option (List Int):=
 Zc4 k2 w3 l1 0 []
theorem Zyh:Q3 Tryz.prog 137 (rd (Z1 Zj)) (rd (Z0 .i64)) (fn1 Tryz.prog Zj (Z0 .i64)) (rd (Z1 (Z0 .i64))) Zko:=fun l1 k2 w3 r h=>I0 Tryz.func137 rfl Tryz.ntmps137 rfl fun w H Z=>by
 unfold Zko at h
 refine SR<|Ac (Zn (A:=rd (Z1 (Z0 .i64)) []) rfl rfl Z04) rfl<|Nl<|sq<|AW.newnil 1001 3 (Z0 .i64)<|Rg<|Ac (Zn rfl rfl vc) rfl<|Nl<|sq<|SR<|Md rfl<|Ac (Z07 rfl rfl Z17 (vt rfl)) rfl<|Mk rfl<|Nl<|bk<|LG (d:=[]) (ν:=(List Action)×Nat×(List Int)×Value) (fun (l9,i8,l6,v7)=>(Sfx l1 i8 l9∧Zc4 k2 w3 l9 i8 l6=some r,l9.length,[(1,rd (Z0 .i64) k2),(2,fn1 Tryz.prog Zj (Z0 .i64) w3),(7,Zg v7),(10,rd (Z1 Zj) l1),(11,rd (Z0 .i64) (l1.length:Int)),(12,rd (Z0 .i64) (i8:Int))],[(1001,Zi v7 3 (Z0 .i64) l6)])) (l1,0,[],(.slice none 0 0)) ⟨Sfx.start _,h⟩ (FX rfl) ?_
 rintro ⟨l9,i8,l6,v7⟩ ⟨hsf1,h⟩
 dsimp only at hsf1 h ⊢
 cases l9 with
 | nil=>
  unfold Zc4 at h
  refine SR<|Ac (Zh rfl rfl (vt rfl) (vt rfl)) rfl<|Nl<|sq<|Cn rfl (fun hc=>absurd (of_decide_eq_true hc) hsf1.nil) (fun hc=>?_)
  refine xt<|SR<|Mw rfl<|Aw rfl<|Nl<|AW.freezes [6,7,27] 1001 rfl ⟨rfl,rfl,rfl,trivial⟩ rfl<|rt ?_
  cases h;exact Z9 Tryz.results137 rfl (Z5 rfl)
 | cons x10 l9=>
  unfold Zc4 at h
  refine SR<|Ac (Zh rfl rfl (vt rfl) (vt rfl)) rfl<|Nl<|sq<|Cn rfl (fun hc=>?_) (fun hc=>absurd hsf1.cons (of_decide_eq_false hc))
  have hlti8:=of_decide_eq_true hc
  refine sk<|sq<|bk<|SR<|Ac (Z0d rfl rfl Z17 (vt rfl) (vt rfl) hsf1.lget) rfl<|Lp1 Z0v rfl<|Cv rfl (Zo 10 rfl rfl Z48) fun g11=>Ze Z0v 10 rfl<|Nl<|SR<|Zf lAction_0 Z57 rfl<|Ld Zc 10 rfl<|Md rfl<|Ac (Zy rfl rfl (vt rfl) (vt rfl)) rfl<|Nl<|Cq rfl h (fun h=>?_) (fun h=>?_)
  ·obtain ⟨x12,hx12,l13,hl13,h⟩:=bs2 h
   refine Rg<|Mw rfl<|Ac (Zk (A:=fn1 Tryz.prog Zj (Z0 .i64) w3) rfl rfl (vt rfl)) rfl<|Ld Z0v 10 rfl<|Ac (Z2z hx12 rfl rfl (vt rfl) (vt rfl)) rfl<|Ac (osl Z15 zr3 rfl (vt rfl)) rfl<|Cv rfl (Z1f 1001 hl13 rfl rfl Z74 (vt rfl) rfl (vt rfl)) fun v14=>Aw rfl<|Nl<|Rg<|Ac (Z0a (t:=11) rfl rfl (vt rfl) (vk rfl) (vt rfl) hlti8) rfl<|Md rfl<|Nl ?_
   exact ⟨(_,_,_,_),Nat.lt_succ_self _,⟨hsf1.next,h⟩,FX rfl⟩
  ·refine sk<|Rg<|Ac (Z0a (t:=11) rfl rfl (vt rfl) (vk rfl) (vt rfl) hlti8) rfl<|Md rfl<|Nl ?_
   exact ⟨(_,_,_,_),Nat.lt_succ_self _,⟨hsf1.next,h⟩,FX rfl⟩
def Zv2 (a1:Action):Option Int:=
 some a1.Group
theorem Yoc:Q1 Tryz.prog 138 (rd Zj) (rd (Z0 .i64)) Zv2:=fun a1 r h=>I0 Tryz.func138 rfl Tryz.ntmps138 rfl fun w H Z=>by
 unfold Zv2 at h
 refine SR<|Cv rfl (Zm 2 rfl rfl (vt rfl)) fun g2=>Ak rfl<|Nl<|SR<|Zf lAction_3 Z9e rfl<|Ld Zc 2 rfl<|As rfl<|Nl<|rt ?_
 cases h;exact Z9 Tryz.results138 rfl (Z5 rfl)
def Zh6 (l1:(List Action)):Option (List Int):=
 (Zko l1 22 Zv2).bind fun x2=>some x2
theorem Zs5:Q1 Tryz.prog 85 (rd (Z1 Zj)) (rd (Z1 (Z0 .i64))) Zh6:=fun l1 r h=>I0 Tryz.func85 rfl Tryz.ntmps85 rfl fun w H Z=>by
 unfold Zh6 at h
 refine SR<|Ac (Zn (A:=rd (Z1 (Z0 .i64)) []) rfl rfl Z04) rfl<|Nl<|sq ?_
 obtain ⟨x2,hx2,h⟩:=Z6 h
 refine Rg<|Md rfl<|Ac (Zz (xs:=[.tmp 3,.const (Value.int IntKind.i64 22),.func 138]) (Zyh _ _ _ _ hx2) Y3c rfl rfl ⟨vt rfl,vk rfl,vf1 Yde Yoc,trivial⟩) rfl<|As rfl<|Nl<|rt ?_
 cases h;exact Z9 Tryz.results85 rfl (Z5 rfl)
end Go.Proofs.YtjppkmpecdbepaaGreatDoor.W
set_option maxHeartbeats 1000000
set_option maxRecDepth 4000
namespace Go.Proofs.YtjppkmpecdbepaaGreatDoor.W
open Go Go.Wb
theorem e85:Ent Tryz.prog 85:=Ent.mk Tryz.func85 rfl rfl
theorem Y2e:Ent Tryz.prog 251:=Ent.mk Tryz.func251 rfl rfl
theorem Zor:Ent Tryz.prog 123:=Ent.mk Tryz.func123 rfl rfl
theorem Zsn:Ent Tryz.prog 209:=Ent.mk Tryz.func209 rfl rfl
theorem Y5b:Ent Tryz.prog 208:=Ent.mk Tryz.func208 rfl rfl
theorem e72:Ent Tryz.prog 72:=Ent.mk Tryz.func72 rfl rfl
theorem Z4s:Ent Tryz.prog 119:=Ent.mk Tryz.func119 rfl rfl
theorem e43:Ent Tryz.prog 43:=Ent.mk Tryz.func43 rfl rfl
theorem Yo7:Ent Tryz.prog 210:=Ent.mk Tryz.func210 rfl rfl
theorem e90:Ent Tryz.prog 90:=Ent.mk Tryz.func90 rfl rfl
def Zh9:(List Bucket)→Nat→(List Int)→Option (List Int)
 | [],i6,l4=>some l4
 | x8::l7,i6,l4=>(Zh6 x8.Acts).bind fun x10=>(Z11 l4 x10).bind fun l11=>(Zh9 l7) (i6+1) l11
def Ze5 (l1:(List Bucket)):Option (List Int):=
 Zh9 l1 0 []
theorem Zrd:Q1 Tryz.prog 123 (rd (Z1 Z16)) (rd (Z1 (Z0 .i64))) Ze5:=fun l1 r h=>I0 Tryz.func123 rfl Tryz.ntmps123 rfl fun w H Z=>by
 unfold Ze5 at h
 refine SR<|Ac (Zn (A:=rd (Z1 (Z0 .i64)) []) rfl rfl Z04) rfl<|Nl<|sq<|AW.newnil 1001 3 (Z0 .i64)<|Rg<|Ac (Zn rfl rfl vc) rfl<|Nl<|sq<|SR<|Md rfl<|Ac (Z07 rfl rfl Z2y (vt rfl)) rfl<|Mk rfl<|Nl<|bk<|LG (d:=[]) (ν:=(List Bucket)×Nat×(List Int)×Value) (fun (l7,i6,l4,v5)=>(Sfx l1 i6 l7∧Zh9 l7 i6 l4=some r,l7.length,[(3,Zg v5),(6,rd (Z1 Z16) l1),(7,rd (Z0 .i64) (l1.length:Int)),(8,rd (Z0 .i64) (i6:Int))],[(1001,Zi v5 3 (Z0 .i64) l4)])) (l1,0,[],(.slice none 0 0)) ⟨Sfx.start _,h⟩ (FX rfl) ?_
 rintro ⟨l7,i6,l4,v5⟩ ⟨hsf1,h⟩
 dsimp only at hsf1 h ⊢
 cases l7 with
 | nil=>
  unfold Zh9 at h
  refine SR<|Ac (Zh rfl rfl (vt rfl) (vt rfl)) rfl<|Nl<|sq<|Cn rfl (fun hc=>absurd (of_decide_eq_true hc) hsf1.nil) (fun hc=>?_)
  refine xt<|SR<|Mw rfl<|Aw rfl<|Nl<|AW.freezes [2,3,18] 1001 rfl ⟨rfl,rfl,rfl,trivial⟩ rfl<|rt ?_
  cases h;exact Z9 Tryz.results123 rfl (Z5 rfl)
 | cons x8 l7=>
  unfold Zh9 at h
  refine SR<|Ac (Zh rfl rfl (vt rfl) (vt rfl)) rfl<|Nl<|sq<|Cn rfl (fun hc=>?_) (fun hc=>absurd hsf1.cons (of_decide_eq_false hc))
  have hlti6:=of_decide_eq_true hc
  refine sk<|sq<|bk<|SR<|Ac (Z0d rfl rfl Z2y (vt rfl) (vt rfl) hsf1.lget) rfl<|Lp1 Z76 rfl<|Cv rfl (Zo 6 rfl rfl Z8i) fun g9=>Ze Z76 6 rfl<|Nl ?_
  obtain ⟨x10,hx10,l11,hl11,h⟩:=bs2 h
  refine Rg<|Mw rfl<|Zf lBucket_3 Zc9 rfl<|Ld Z2x 6 rfl<|Cl [14] (Zs5 _ _ hx10) e85 rfl<|Cv rfl (Z1f 1001 hl11 rfl rfl Z74 (vt rfl) rfl (vt rfl)) fun v12=>Aw rfl<|Nl<|Rg<|Ac (Z0a (t:=7) rfl rfl (vt rfl) (vk rfl) (vt rfl) hlti6) rfl<|Md rfl<|Nl ?_
  exact ⟨(_,_,_,_),Nat.lt_succ_self _,⟨hsf1.next,h⟩,FX rfl⟩
def Zf6 (s1:(List Int))(x2:Int):Nat→Nat→Option Int
 | 0,i3=>some (-1)
 | m4+1,i3=>(lget s1 (i3:Int)).bind fun x5=>(bif (decide (x2=x5)) then some (i3:Int) else (Zf6 s1 x2 m4) (i3+1))
def Zk2 (s1:(List Int))(x2:Int):Option Int:=
 Zf6 s1 x2 ((s1.length:Int):Int).toNat 0
theorem Y4a:Q2 Tryz.prog 251 (rd (Z1 (Z0 .i64))) (rd (Z0 .i64)) (rd (Z0 .i64)) Zk2:=fun s1 x2 r h=>I0 Tryz.func251 rfl Tryz.ntmps251 rfl fun w H Z=>by
 unfold Zk2 at h
 refine SR<|Ak rfl<|Nl<|sq<|SR<|Md rfl<|Ac (Z07 rfl rfl Z15 (vt rfl)) rfl<|Mk rfl<|Nl<|bk<|LG (d:=[]) (ν:=Nat×Nat) (fun (m4,i3)=>(Cnt (s1.length:Int) i3 m4∧Zf6 s1 x2 m4 i3=some r,m4,[(0,rd (Z1 (Z0 .i64)) s1),(1,rd (Z0 .i64) x2),(7,rd (Z0 .i64) (s1.length:Int)),(8,rd (Z0 .i64) (i3:Int))],[])) (((s1.length:Int):Int).toNat,0) ⟨Cnt.start _,h⟩ (FX rfl) ?_
 rintro ⟨m4,i3⟩ ⟨hsf1,h⟩
 dsimp only at hsf1 h ⊢
 cases m4 with
 | zero=>
  unfold Zf6 at h
  refine SR<|Ac (Zh rfl rfl (vt rfl) (vt rfl)) rfl<|Nl<|sq<|Cn rfl (fun hc=>absurd (of_decide_eq_true hc) hsf1.zero) (fun hc=>?_)
  refine xt<|SR<|Ak rfl<|Nl<|rt ?_
  cases h;exact Z9 Tryz.results251 rfl (Z5 rfl)
 | succ m4=>
  unfold Zf6 at h
  refine SR<|Ac (Zh rfl rfl (vt rfl) (vt rfl)) rfl<|Nl<|sq<|Cn rfl (fun hc=>?_) (fun hc=>absurd hsf1.succ (of_decide_eq_false hc))
  have hlti3:=of_decide_eq_true hc
  refine sk<|sq<|bk<|SR<|Md rfl<|As rfl<|Nl<|sq ?_
  obtain ⟨x5,hx5,h⟩:=Z6 h
  refine Rg<|Md rfl<|Md rfl<|Md rfl<|Ac (Z0d rfl rfl Z15 (vt rfl) (vt rfl) hx5) rfl<|Lp1 Zc rfl<|Ac (Zy rfl rfl (vt rfl) (vt rfl)) rfl<|Nl<|Cq rfl h (fun h=>?_) (fun h=>?_)
  ·refine SR<|Md rfl<|As rfl<|Nl<|rt ?_
   cases h;exact Z9 Tryz.results251 rfl (Z5 rfl)
  ·refine sk<|Rg<|Ac (Z0a (t:=7) rfl rfl (vt rfl) (vk rfl) (vt rfl) hlti3) rfl<|Md rfl<|Nl ?_
   exact ⟨(_,_),Nat.lt_succ_self _,⟨hsf1.next,h⟩,FX rfl⟩
def Zhb (s1:(List Int))(x2:Int):Option Bool:=
 (Zk2 s1 x2).bind fun x3=>some (decide (x3≥0))
theorem Zrv:Q2 Tryz.prog 209 (rd (Z1 (Z0 .i64))) (rd (Z0 .i64)) (rd Z3) Zhb:=fun s1 x2 r h=>I0 Tryz.func209 rfl Tryz.ntmps209 rfl fun w H Z=>by
 unfold Zhb at h
 refine SR<|Ab rfl<|Nl<|sq ?_
 obtain ⟨x3,hx3,h⟩:=Z6 h
 refine Rg<|Md rfl<|Md rfl<|Cl [5,6] (Y4a _ _ _ hx3) Y2e rfl<|Ac (Z1z rfl rfl (vt rfl) (vk rfl)) rfl<|As rfl<|Nl<|rt ?_
 cases h;exact Z9 Tryz.results209 rfl (Z5 rfl)
def Zbv (x1:Group)(x2:Int):Option Bool:=
 (opt (decide (x1.ID≠x2)) (Ze5 x1.Buckets)).bind fun x4=>(opt (decide (x1.ID≠x2)) (Zhb x4 x2)).bind fun x5=>some ((decide (x1.ID≠x2))&&x5)
theorem Yeb:Q2 Tryz.prog 208 (rd Zt) (rp (Z0 .i64)) (rd Z3) Zbv:=fun x1 x2 r h=>I0 Tryz.func208 rfl Tryz.ntmps208 rfl fun w H Z=>by
 unfold Zbv at h
 refine SR<|Cv rfl (Zm 3 rfl rfl (vt rfl)) fun g3=>Ab rfl<|Nl<|sq ?_
 obtain ⟨x4,hx4,x5,hx5,h⟩:=bs2 h
 refine AR Z03 (by kernel_rfl)<|SFd lGroup_0 Z90 rfl<|Zu Zc 3 rfl<|SLp Zc rfl<|Sd (lo [5,6] [] rfl fun S hs hr=>Z2j rfl rfl (vh hs 5 rfl rfl) (vh hs 6 rfl rfl))<|SMd rfl<|Sd (lg [2,8] [] rfl fun hq S hs hr=>Z0i lGroup_2 rfl rfl Z4o (vh hs 2 rfl rfl))<|Sd (lg [9,8] [3] rfl fun hq S hs hr=>Z08 rfl rfl Z3u (Z8 ((hs 9 rfl).trans rfl) hq) (i:=3) ((hr 3 rfl).trans rfl))<|Sd (lg [10,8] [] rfl fun hq S hs hr=>Zz (xs:=[.tmp 10]) (Zrd _ _ (Z1p hx4 hq)) Zor rfl rfl ⟨Z8 ((hs 10 rfl).trans rfl) hq,trivial⟩)<|Sd (lg [1,8] [] rfl fun hq S hs hr=>Z4i rfl rfl Zc (vh hs 1 rfl rfl))<|Sd (lg [11,12,8] [] rfl fun hq S hs hr=>Zz (xs:=[.tmp 11,.tmp 12]) (Zrv _ _ _ (Z1p hx5 hq)) Zsn rfl rfl ⟨Z8 ((hs 11 rfl).trans rfl) hq,Z8 ((hs 12 rfl).trans rfl) hq,trivial⟩)<|Sd (lo [13,8] [] rfl fun S hs hr=>Z0h rfl rfl (vh hs 8 rfl rfl) (vh hs 13 rfl rfl))<|SAs rfl<|Sn<|rt ?_
 cases h;exact Z9 Tryz.results208 rfl (Z5 rfl)
def Zdm (i1:Int):Option Bool:=
 some ((decide (i1≥0))&&(decide (i1≤4294967040)))
theorem Zsv:Q1 Tryz.prog 72 (rd (Z0 .i64)) (rd Z3) Zdm:=fun i1 r h=>I0 Tryz.func72 rfl Tryz.ntmps72 rfl fun w H Z=>by
 unfold Zdm at h
 refine SR<|Ab rfl<|Nl<|SR<|Md rfl<|Ac (Z1z rfl rfl (vt rfl) (vk rfl)) rfl<|Md rfl<|Gd rfl (fun hq=>Zk (A:=rd (Z0 .i64) i1) rfl rfl (vt rfl))<|Gd rfl (fun hq=>Z50 rfl rfl (Z8 rfl hq) (vk rfl))<|Ac (Z0h rfl rfl (vt rfl) (vt rfl)) rfl<|As rfl<|Nl<|rt ?_
 cases h;exact Z9 Tryz.results72 rfl (Z5 rfl)
def Zl1 (s1:(List Group))(x2:(Group→Option Bool)):Option Bool:=
 (Zdb s1 x2).bind fun x3=>some (decide (x3≥0))
theorem Y4c:Q2 Tryz.prog 43 (rd (Z1 Zt)) (fn1 Tryz.prog Zt Z3) (rd Z3) Zl1:=fun s1 x2 r h=>I0 Tryz.func43 rfl Tryz.ntmps43 rfl fun w H Z=>by
 unfold Zl1 at h
 refine SR<|Ab rfl<|Nl<|sq ?_
 obtain ⟨x3,hx3,h⟩:=Z6 h
 refine Rg<|Md rfl<|Ac (Zk (A:=fn1 Tryz.prog Zt Z3 x2) rfl rfl (vt rfl)) rfl<|Cl [5,6] (Zqv _ _ _ hx3) e75 rfl<|Ac (Z1z rfl rfl (vt rfl) (vk rfl)) rfl<|As rfl<|Nl<|rt ?_
 cases h;exact Z9 Tryz.results43 rfl (Z5 rfl)
def Zia (x1:Group)(x2:Int):Option Bool:=
 some (decide (x1.ID=x2))
theorem Y6t:Q2 Tryz.prog 210 (rd Zt) (rp (Z0 .i64)) (rd Z3) Zia:=fun x1 x2 r h=>I0 Tryz.func210 rfl Tryz.ntmps210 rfl fun w H Z=>by
 unfold Zia at h
 refine SR<|Cv rfl (Zm 3 rfl rfl (vt rfl)) fun g3=>Ab rfl<|Nl<|SR<|Zf lGroup_0 Z90 rfl<|Ld Zc 3 rfl<|Lp1 Zc rfl<|Ac (Zy rfl rfl (vt rfl) (vt rfl)) rfl<|As rfl<|Nl<|rt ?_
 cases h;exact Z9 Tryz.results210 rfl (Z5 rfl)
def Zgu (d3:(Group→Option Bool)):Nat→(List Group)→Int→Int→Option (List Group)
 | 0,_,_,_=>none
 | m11+1,l8,i9,j10=>(bif (decide (j10<(l8.length:Int))) then (lget l8 j10).bind fun x12=>(d3 x12).bind fun x14=>(bif (!x14) then (lget l8 i9).bind fun x15=>(Zgu d3 m11) (List.set l8 i9.toNat x12) (IntKind.i64.wrap (i9+1)) (IntKind.i64.wrap (j10+1)) else (Zgu d3 m11) l8 i9 (IntKind.i64.wrap (j10+1))) else (Z3z l8 i9).bind fun s16=>(Z5c (List.take i9.toNat l8++List.replicate (l8.length - i9.toNat) Z8p) i9).bind fun s17=>some s17)
def Znh (s1:(List Group))(d3:(Group→Option Bool)):Option (List Group):=
 (Zdb s1 d3).bind fun x4=>(bif (decide (x4=(-1))) then some s1 else Zgu d3 ((((s1.length:Int):Int) - (IntKind.i64.wrap (x4+1))).toNat+1) s1 x4 (IntKind.i64.wrap (x4+1)))
theorem Y04 (v2:Value)(s1:(List Group))(d3:(Group→Option Bool))(r:(List Group))(h:Znh s1 d3=some r):Con Tryz.prog 90 [Zg v2,fn1 Tryz.prog Zt Z3 d3] (Zi v2 83 Zt s1) (fun v=>Zg v) (fun v=>Zi v 83 Zt r):=by
 refine Con.intro Tryz.func90 rfl Tryz.ntmps90 rfl fun w H X Z=>?_
 unfold Znh at h
 refine sq<|AW.newnil 1001 83 Zt<|Rg<|Ac (Zn rfl rfl vc) rfl<|Nl<|sq ?_
 obtain ⟨x4,hx4,h⟩:=Z6 h
 refine Rg<|Mw rfl<|Ac (Zk (A:=fn1 Tryz.prog Zt Z3 d3) rfl rfl (vt rfl)) rfl<|Ac (Z9v (xs:=[.tmp 8,.tmp 9]) 0 (Zqv _ _ _ hx4) e75 rfl rfl ⟨vL rfl rfl,vB (vt rfl),trivial⟩) rfl<|As rfl<|Nl<|sq<|SR<|Md rfl<|Ac (Zy rfl rfl (vt rfl) (vk rfl)) rfl<|Nl<|Cq rfl h (fun h=>?_) (fun h=>?_)
 ·refine SR<|Mw rfl<|Aw rfl<|Nl<|rt ?_
  cases h;exact Z29 (i:=0) Tryz.results90 rfl rfl rfl
 ·refine sk<|sq<|SR<|Md rfl<|Ac (Z0o rfl rfl (vt rfl) (vk rfl)) rfl<|As rfl<|Nl<|bk<|LG (d:=[]) (ν:=Nat×(List Group)×Int×Int) (fun (m11,l8,i9,j10)=>(True∧Zgu d3 m11 l8 i9 j10=some r,m11,[(0,Zg v2),(1,fn1 Tryz.prog Zt Z3 d3),(5,rd (Z0 .i64) i9),(6,rd (Z0 .i64) j10)],[(0,Zi v2 83 Zt l8)])) (((((s1.length:Int):Int) - (IntKind.i64.wrap (x4+1))).toNat+1),s1,x4,(IntKind.i64.wrap (x4+1))) ⟨trivial,h⟩ (FX rfl) ?_
  rintro ⟨m11,l8,i9,j10⟩ ⟨hsf1,h⟩
  dsimp only at h ⊢
  cases m11 with
  | zero=>cases h
  | succ m11=>
   unfold Zgu at h
   refine sq<|SR<|Md rfl<|Mw rfl<|Ac (Z2v 0 rfl rfl Z1n (vt rfl) rfl) rfl<|Ac (Zh rfl rfl (vt rfl) (vt rfl)) rfl<|Nl<|Cq rfl h (fun h=>?_) (fun h=>?_)
   ·refine sk<|sq<|bk<|sq ?_
    obtain ⟨x12,hx12,h⟩:=Z6 h
    refine Rg<|Mw rfl<|Md rfl<|Ac (Z1w 0 rfl rfl Z1n (vt rfl) rfl (vt rfl) hx12) rfl<|Ac (Z1l 0 rfl rfl Z1m (vt rfl) rfl (Z0l hx12).2) rfl<|Cv rfl (Zo 8 rfl rfl Z3a) fun g13=>Ze Z1m 8 rfl<|Nl<|sq ?_
    obtain ⟨x14,hx14,h⟩:=Z6 h
    refine Rg<|Ac (Zk (A:=fn1 Tryz.prog Zt Z3 d3) rfl rfl (vt rfl)) rfl<|Ld Z1m 8 rfl<|Ac (Z2z hx14 rfl rfl (vt rfl) (vt rfl)) rfl<|Ac (Z0g rfl rfl (vt rfl)) rfl<|Nl<|Cq rfl h (fun h=>?_) (fun h=>?_)
    ·refine sq ?_
     obtain ⟨x15,hx15,h⟩:=Z6 h
     refine Rg<|Mw rfl<|Md rfl<|Ld Z1m 8 rfl<|Ac (Z1w 0 rfl rfl Z1n (vt rfl) rfl (vt rfl) hx15) rfl<|Ac (Z2b 0 rfl rfl Z1m (vt rfl) rfl (Z0l hx15).2 (vt rfl)) rfl<|Nl<|Rg<|Md rfl<|Ac (Z0o rfl rfl (vt rfl) (vk rfl)) rfl<|As rfl<|Nl<|Rg<|Md rfl<|Ac (Z0o rfl rfl (vt rfl) (vk rfl)) rfl<|As rfl<|Nl ?_
     exact ⟨(_,_,_,_),Nat.lt_succ_self _,⟨trivial,h⟩,FX rfl⟩
    ·refine sk<|Rg<|Md rfl<|Ac (Z0o rfl rfl (vt rfl) (vk rfl)) rfl<|As rfl<|Nl ?_
     exact ⟨(_,_,_,_),Nat.lt_succ_self _,⟨trivial,h⟩,FX rfl⟩
   ·refine xt<|sq ?_
    obtain ⟨s16,hs16,h⟩:=Z6 h
    refine Rg<|Mw rfl<|Md rfl<|Ac (Zn3 0 hs16 rfl rfl Z1n (vt rfl) rfl (vt rfl)) rfl<|Ac (Zxy 0 rfl rfl Z1n Z3a rfl (vt rfl) rfl (Z8v hs16).2.1) rfl<|Nl<|sq ?_
    obtain ⟨s17,hs17,h⟩:=Z6 h
    refine Rg<|Mw rfl<|Md rfl<|Cv rfl (Y1l 0 hs17 rfl rfl Z1n (vt rfl) rfl (vt rfl)) fun v18=>Aw rfl<|Nl<|rt ?_
    cases h;exact Z29 (i:=0) Tryz.results90 rfl rfl rfl
def Zqc (l1:(List Group))(i2:Int):Option ((List Group)×Fault):=
 (bif (decide (i2=4294967292)) then some ([],(⟨false,0,0⟩:Fault)) else (Zdm i2).bind fun x5=>(bif (!x5) then (Z40 1).bind fun x6=>some ([],x6) else (Z83 l1 i2).bind fun x7=>(opt (decide (x7≥0)) (Zl1 l1 (fun x=>Zbv x i2))).bind fun x8=>(bif ((decide (x7≥0))&&x8) then (Z40 9).bind fun x9=>some ([],x9) else (Zbj l1).bind fun x10=>(Znh x10 (fun x=>Zia x i2)).bind fun x12=>some (x12,(⟨false,0,0⟩:Fault)))))
theorem Yec:Q2 Tryz.prog 167 (rd (Z1 Zt)) (rd (Z0 .i64)) (fun r=>Z0t (rd (Z1 Zt) r.1) (rd Z12 r.2)) Zqc:=fun l1 i2 r h=>I0 Tryz.func167 rfl Tryz.ntmps167 rfl fun w H Z=>by
 unfold Zqc at h
 refine SR<|Cv rfl (Zm 4 rfl rfl (vt rfl)) fun g3=>Ac (Zn (A:=rd (Z1 Zt) []) rfl rfl Z04) rfl<|Cv rfl (Zo 6 rfl rfl Z1t) fun g4=>Nl<|sq<|AW.freezeB 3 4 rfl rfl rfl<|Rg<|Ac (Z30 (cs:=[.tmp 3]) (CAs:=[rp (Z0 .i64) i2]) (fun x=>Zbv x i2) rfl rfl Y5b ⟨vt rfl,trivial⟩ (fun x y h=>Yeb _ _ y h)) rfl<|Ac (Zn (A:=fn1 Tryz.prog Zt Z3 (fun x=>Zbv x i2)) rfl rfl (vt rfl)) rfl<|Nl<|sq<|bk<|SR<|Lp1 Zc rfl<|Ac (Zy rfl rfl (vt rfl) (vk rfl)) rfl<|As rfl<|Nl<|Cq rfl h (fun h=>?_) (fun h=>?_)
 ·refine SR<|Ac (opb (⟨false,0,0⟩:Fault) Z1t rfl Z41 (pn rfl)) rfl<|Ac (Zn (A:=rd (Z1 Zt) []) rfl rfl Z04) rfl<|Ze Z05 6 rfl<|Nl<|rt ?_
  cases h;exact Z0c Tryz.results167 rfl (Z5 rfl) (Zv rfl (i:=6) rfl Z05)
 ·refine sq ?_
  obtain ⟨x5,hx5,h⟩:=Z6 h
  refine Rg<|Lp1 Zc rfl<|Cl [13] (Zsv _ _ hx5) e72 rfl<|Ac (Z0g rfl rfl (vt rfl)) rfl<|As rfl<|Nl<|Cq rfl h (fun h=>?_) (fun h=>?_)
  ·refine sq ?_
   obtain ⟨x6,hx6,h⟩:=Z6 h
   refine Rg<|Ac (Zz (xs:=[.const (Value.int IntKind.i64 1)]) (Z4w _ _ hx6) Z4s rfl rfl ⟨vk rfl,trivial⟩) rfl<|Ac (Zn (A:=rd (Z1 Zt) []) rfl rfl Z04) rfl<|Ze Z05 6 rfl<|Nl<|rt ?_
   cases h;exact Z0c Tryz.results167 rfl (Z5 rfl) (Zv rfl (i:=6) rfl Z05)
  ·refine sq ?_
   obtain ⟨x7,hx7,x8,hx8,h⟩:=bs2 h
   refine Rg<|Md rfl<|Lp1 Zc rfl<|Cl [18,19] (Zcl _ _ _ hx7) e52 rfl<|Ac (Z1z rfl rfl (vt rfl) (vk rfl)) rfl<|Md rfl<|Gd rfl (fun hq=>Zk (A:=rd (Z1 Zt) l1) rfl rfl (vt rfl))<|Gd rfl (fun hq=>Zk (A:=fn1 Tryz.prog Zt Z3 (fun x=>Zbv x i2)) rfl rfl (vt rfl))<|Gd rfl (fun hq=>Zz (xs:=[.tmp 23,.tmp 24]) (Y4c _ _ _ (Z1p hx8 hq)) e43 rfl rfl ⟨Z8 rfl hq,Z8 rfl hq,trivial⟩)<|Ac (Z0h rfl rfl (vt rfl) (vt rfl)) rfl<|As rfl<|Nl<|Cq rfl h (fun h=>?_) (fun h=>?_)
   ·refine sq ?_
    obtain ⟨x9,hx9,h⟩:=Z6 h
    refine Rg<|Ac (Zz (xs:=[.const (Value.int IntKind.i64 9)]) (Z4w _ _ hx9) Z4s rfl rfl ⟨vk rfl,trivial⟩) rfl<|Ac (Zn (A:=rd (Z1 Zt) []) rfl rfl Z04) rfl<|Ze Z05 6 rfl<|Nl<|rt ?_
    cases h;exact Z0c Tryz.results167 rfl (Z5 rfl) (Zv rfl (i:=6) rfl Z05)
   ·refine sk<|sq ?_
    obtain ⟨x10,hx10,x12,hx12,h⟩:=bs2 h
    refine Rg<|Md rfl<|Cv rfl (Z0y 1001 (xs:=[.tmp 28]) (Zva _ _ hx10) e53 rfl rfl ⟨vt rfl,trivial⟩ rfl) fun v11=>Ac (Z30 (cs:=[.tmp 3]) (CAs:=[rp (Z0 .i64) i2]) (fun x=>Zia x i2) rfl rfl Yo7 ⟨vt rfl,trivial⟩ (fun x y h=>Y6t _ _ y h)) rfl<|Cv rfl (Z0y 1001 (xs:=[.tmp 29,.tmp 30]) (Y04 _ _ _ _ hx12) e90 rfl rfl ⟨vt rfl,vt rfl,trivial⟩ rfl) fun v13=>Ac (opb (⟨false,0,0⟩:Fault) Z1t rfl Z41 (pn rfl)) rfl<|Aw rfl<|Ze Z05 6 rfl<|Nl<|AW.freezes [4,31] 1001 rfl ⟨rfl,rfl,trivial⟩ rfl<|rt ?_
    cases h;exact Z0c Tryz.results167 rfl (Z5 rfl) (Zv rfl (i:=6) rfl Z05)
end Go.Proofs.YtjppkmpecdbepaaGreatDoor.W
set_option maxHeartbeats 1000000
set_option maxRecDepth 4000
namespace Go.Proofs.YtjppkmpecdbepaaGreatDoor.W
open Go Go.Wb
theorem Ya1:Ent Tryz.prog 120:=Ent.mk Tryz.func120 rfl rfl
theorem Yg5:Ent Tryz.prog 121:=Ent.mk Tryz.func121 rfl rfl
theorem Ynt:Ent Tryz.prog 176:=Ent.mk Tryz.func176 rfl rfl
theorem Ydb:Ent Tryz.prog 124:=Ent.mk Tryz.func124 rfl rfl
theorem Zwy:Ent Tryz.prog 122:=Ent.mk Tryz.func122 rfl rfl
theorem Zx3:Ent Tryz.prog 118:=Ent.mk Tryz.func118 rfl rfl
def Zte (k1:Int):Option (Int×Fault):=
 (bif (decide (k1=1)) then (Z40 2).bind fun x3=>some (1,x3) else (Z40 1).bind fun x4=>some (0,x4))
theorem Y53:Q1 Tryz.prog 120 (rd (Z0 .i64)) (fun r=>Z0t (rd (Z0 .i64) r.1) (rd Z12 r.2)) Zte:=fun k1 r h=>I0 Tryz.func120 rfl Tryz.ntmps120 rfl fun w H Z=>by
 unfold Zte at h
 refine SR<|Ak rfl<|Cv rfl (Zo 4 rfl rfl Z1t) fun g2=>Nl<|sq<|SR<|Md rfl<|Ac (Zy rfl rfl (vt rfl) (vk rfl)) rfl<|Nl<|Cq rfl h (fun h=>?_) (fun h=>?_)
 ·refine sq ?_
  obtain ⟨x3,hx3,h⟩:=Z6 h
  refine Rg<|Ac (Zz (xs:=[.const (Value.int IntKind.i64 2)]) (Z4w _ _ hx3) Z4s rfl rfl ⟨vk rfl,trivial⟩) rfl<|Ak rfl<|Ze Z05 4 rfl<|Nl<|rt ?_
  cases h;exact Z0c Tryz.results120 rfl (Z5 rfl) (Zv rfl (i:=4) rfl Z05)
 ·refine sk<|sq ?_
  obtain ⟨x4,hx4,h⟩:=Z6 h
  refine Rg<|Ac (Zz (xs:=[.const (Value.int IntKind.i64 1)]) (Z4w _ _ hx4) Z4s rfl rfl ⟨vk rfl,trivial⟩) rfl<|Ak rfl<|Ze Z05 4 rfl<|Nl<|rt ?_
  cases h;exact Z0c Tryz.results120 rfl (Z5 rfl) (Zv rfl (i:=4) rfl Z05)
def Zra (k1:Int)(p2:Int):Option Bool:=
 (bif (decide (k1=3)) then some ((decide (p2≥1))&&(decide (p2≤6))) else some (decide (p2=4294967295)))
theorem Ylr:Q2 Tryz.prog 121 (rd (Z0 .i64)) (rd (Z0 .i64)) (rd Z3) Zra:=fun k1 p2 r h=>I0 Tryz.func121 rfl Tryz.ntmps121 rfl fun w H Z=>by
 unfold Zra at h
 refine SR<|Ab rfl<|Nl<|sq<|SR<|Md rfl<|Ac (Zy rfl rfl (vt rfl) (vk rfl)) rfl<|Nl<|Cq rfl h (fun h=>?_) (fun h=>?_)
 ·refine SR<|Md rfl<|Ac (Z1z rfl rfl (vt rfl) (vk rfl)) rfl<|Md rfl<|Gd rfl (fun hq=>Zk (A:=rd (Z0 .i64) p2) rfl rfl (vt rfl))<|Gd rfl (fun hq=>Z50 rfl rfl (Z8 rfl hq) (vk rfl))<|Ac (Z0h rfl rfl (vt rfl) (vt rfl)) rfl<|As rfl<|Nl<|rt ?_
  cases h;exact Z9 Tryz.results121 rfl (Z5 rfl)
 ·refine sk<|SR<|Md rfl<|Ac (Zy rfl rfl (vt rfl) (vk rfl)) rfl<|As rfl<|Nl<|rt ?_
  cases h;exact Z9 Tryz.results121 rfl (Z5 rfl)
def Zej (x7:(Int×Fault))(k1:Int):(List Bucket)→Nat→Option Fault
 | [],i9=>some (⟨false,0,0⟩:Fault)
 | x11::l10,i9=>(bif (decide (x11.WatchGroup≠4294967295)) then (Z40 6).bind fun x13=>some x13 else (bif (decide (x11.Weight≠x7.1)) then some x7.2 else (Zra k1 x11.Watch).bind fun x14=>(bif (!x14) then (Z40 13).bind fun x15=>some x15 else (Zej x7 k1 l10) (i9+1))))
def Zhr (k1:Int)(l2:(List Bucket)):Option Fault:=
 (bif ((decide (k1<0))||(decide (k1>3))) then (Z40 10).bind fun x4=>some x4 else (bif (decide ((l2.length:Int)>4)) then (Z40 4).bind fun x5=>some x5 else (bif ((decide (k1=2))&&(decide ((l2.length:Int)≠1))) then (Z40 1).bind fun x6=>some x6 else (Zte k1).bind fun x7=>Zej x7 k1 l2 0)))
theorem Zwz:Q2 Tryz.prog 73 (rd (Z0 .i64)) (rd (Z1 Z16)) (rd Z12) Zhr:=fun k1 l2 r h=>I0 Tryz.func73 rfl Tryz.ntmps73 rfl fun w H Z=>by
 unfold Zhr at h
 refine SR<|Cv rfl (Zo 5 rfl rfl Z1t) fun g3=>Nl<|sq<|bk<|SR<|Md rfl<|Ac (Zh rfl rfl (vt rfl) (vk rfl)) rfl<|Md rfl<|Gd rfl (fun hq=>Zk (A:=rd (Z0 .i64) k1) rfl rfl (vt rfl))<|Gd rfl (fun hq=>Z1s rfl rfl (Z8 rfl hq) (vk rfl))<|Ac (Z1u rfl rfl (vt rfl) (vt rfl)) rfl<|As rfl<|Nl<|Cq rfl h (fun h=>?_) (fun h=>?_)
 ·refine sq ?_
  obtain ⟨x4,hx4,h⟩:=Z6 h
  refine Rg<|Ac (Zz (xs:=[.const (Value.int IntKind.i64 10)]) (Z4w _ _ hx4) Z4s rfl rfl ⟨vk rfl,trivial⟩) rfl<|Ze Z05 5 rfl<|Nl<|rt ?_
  cases h;exact Z9 Tryz.results73 rfl (Zv rfl (i:=5) rfl Z05)
 ·refine SR<|Md rfl<|Ac (Z07 rfl rfl Z2y (vt rfl)) rfl<|Ac (Z1s rfl rfl (vt rfl) (vk rfl)) rfl<|As rfl<|Nl<|Cq rfl h (fun h=>?_) (fun h=>?_)
  ·refine sq ?_
   obtain ⟨x5,hx5,h⟩:=Z6 h
   refine Rg<|Ac (Zz (xs:=[.const (Value.int IntKind.i64 4)]) (Z4w _ _ hx5) Z4s rfl rfl ⟨vk rfl,trivial⟩) rfl<|Ze Z05 5 rfl<|Nl<|rt ?_
   cases h;exact Z9 Tryz.results73 rfl (Zv rfl (i:=5) rfl Z05)
  ·refine SR<|Md rfl<|Ac (Zy rfl rfl (vt rfl) (vk rfl)) rfl<|Md rfl<|Gd rfl (fun hq=>Zk (A:=rd (Z1 Z16) l2) rfl rfl (vt rfl))<|Gd rfl (fun hq=>Z07 rfl rfl Z2y (Z8 rfl hq))<|Gd rfl (fun hq=>Z2j rfl rfl (Z8 rfl hq) (vk rfl))<|Ac (Z0h rfl rfl (vt rfl) (vt rfl)) rfl<|As rfl<|Nl<|Cq rfl h (fun h=>?_) (fun h=>?_)
   ·refine sq ?_
    obtain ⟨x6,hx6,h⟩:=Z6 h
    refine Rg<|Ac (Zz (xs:=[.const (Value.int IntKind.i64 1)]) (Z4w _ _ hx6) Z4s rfl rfl ⟨vk rfl,trivial⟩) rfl<|Ze Z05 5 rfl<|Nl<|rt ?_
    cases h;exact Z9 Tryz.results73 rfl (Zv rfl (i:=5) rfl Z05)
   ·refine sk<|sq ?_
    obtain ⟨x7,hx7,h⟩:=Z6 h
    refine Rg<|Md rfl<|Cl [32] (Y53 _ _ hx7) Ya1 rfl<|Mt2 rfl<|Ac (Z10 rfl rfl (vt rfl)) rfl<|Ac (Z0z rfl rfl (vt rfl)) rfl<|Cv rfl (Zo 7 rfl rfl Z1t) fun g8=>As rfl<|Ze Z05 7 rfl<|Nl<|sq<|SR<|Md rfl<|Ac (Z07 rfl rfl Z2y (vt rfl)) rfl<|Mk rfl<|Nl<|bk<|LG (d:=[]) (ν:=(List Bucket)×Nat) (fun (l10,i9)=>(Sfx l2 i9 l10∧Zej x7 k1 l10 i9=some r,l10.length,[(0,rd (Z0 .i64) k1),(4,Za g3 (Lens.id Z12)),(5,rd (Z0 .i64) x7.1),(6,Za g8 (Lens.id Z12)),(36,rd (Z1 Z16) l2),(37,rd (Z0 .i64) (l2.length:Int)),(38,rd (Z0 .i64) (i9:Int))],[(5,Zd g3 99 Z12 Z4g),(7,Zd g8 99 Z12 x7.2)])) (l2,0) ⟨Sfx.start _,h⟩ (FX rfl) ?_
    rintro ⟨l10,i9⟩ ⟨hsf1,h⟩
    dsimp only at hsf1 h ⊢
    cases l10 with
    | nil=>
     unfold Zej at h
     refine SR<|Ac (Zh rfl rfl (vt rfl) (vt rfl)) rfl<|Nl<|sq<|Cn rfl (fun hc=>absurd (of_decide_eq_true hc) hsf1.nil) (fun hc=>?_)
     refine xt<|SR<|Ac (opb (⟨false,0,0⟩:Fault) Z1t rfl Z41 (pn rfl)) rfl<|Ze Z05 5 rfl<|Nl<|rt ?_
     cases h;exact Z9 Tryz.results73 rfl (Zv rfl (i:=5) rfl Z05)
    | cons x11 l10=>
     unfold Zej at h
     refine SR<|Ac (Zh rfl rfl (vt rfl) (vt rfl)) rfl<|Nl<|sq<|Cn rfl (fun hc=>?_) (fun hc=>absurd hsf1.cons (of_decide_eq_false hc))
     have hlti9:=of_decide_eq_true hc
     refine sk<|sq<|bk<|SR<|Ac (Z0d rfl rfl Z2y (vt rfl) (vt rfl) hsf1.lget) rfl<|Lp1 Z76 rfl<|Cv rfl (Zo 9 rfl rfl Z8i) fun g12=>Ze Z76 9 rfl<|Nl<|bk<|SR<|Zf lBucket_2 Zs8 rfl<|Ld Zc 9 rfl<|Ac (Z2j rfl rfl (vt rfl) (vk rfl)) rfl<|As rfl<|Nl<|Cq rfl h (fun h=>?_) (fun h=>?_)
     ·refine sq ?_
      obtain ⟨x13,hx13,h⟩:=Z6 h
      refine Rg<|Ac (Zz (xs:=[.const (Value.int IntKind.i64 6)]) (Z4w _ _ hx13) Z4s rfl rfl ⟨vk rfl,trivial⟩) rfl<|Ze Z05 5 rfl<|Nl<|rt ?_
      cases h;exact Z9 Tryz.results73 rfl (Zv rfl (i:=5) rfl Z05)
     ·refine SR<|Zf lBucket_0 Zuw rfl<|Ld Zc 9 rfl<|Md rfl<|Ac (Z2j rfl rfl (vt rfl) (vt rfl)) rfl<|As rfl<|Nl<|Cq rfl h (fun h=>?_) (fun h=>?_)
      ·refine SR<|Ld Z05 7 rfl<|Ze Z05 5 rfl<|Nl<|rt ?_
       cases h;exact Z9 Tryz.results73 rfl (Zv rfl (i:=5) rfl Z05)
      ·refine sq ?_
       obtain ⟨x14,hx14,h⟩:=Z6 h
       refine Rg<|Md rfl<|Zf lBucket_1 Zfm rfl<|Ld Zc 9 rfl<|Cl [54,56] (Ylr _ _ _ hx14) Yg5 rfl<|Ac (Z0g rfl rfl (vt rfl)) rfl<|As rfl<|Nl<|Cq rfl h (fun h=>?_) (fun h=>?_)
       ·refine sq ?_
        obtain ⟨x15,hx15,h⟩:=Z6 h
        refine Rg<|Ac (Zz (xs:=[.const (Value.int IntKind.i64 13)]) (Z4w _ _ hx15) Z4s rfl rfl ⟨vk rfl,trivial⟩) rfl<|Ze Z05 5 rfl<|Nl<|rt ?_
        cases h;exact Z9 Tryz.results73 rfl (Zv rfl (i:=5) rfl Z05)
       ·refine sk<|Rg<|Ac (Z0a (t:=37) rfl rfl (vt rfl) (vk rfl) (vt rfl) hlti9) rfl<|Md rfl<|Nl ?_
        exact ⟨(_,_),Nat.lt_succ_self _,⟨hsf1.next,h⟩,FX rfl⟩
def Zj5 (i1:Int)(x2:(List Group)):Option Bool:=
 (Z83 x2 i1).bind fun x3=>some (decide (x3<0))
theorem Y7t:Q2 Tryz.prog 124 (rd (Z0 .i64)) (rp (Z1 Zt)) (rd Z3) Zj5:=fun i1 x2 r h=>I0 Tryz.func124 rfl Tryz.ntmps124 rfl fun w H Z=>by
 unfold Zj5 at h
 refine SR<|Ab rfl<|Nl<|sq ?_
 obtain ⟨x3,hx3,h⟩:=Z6 h
 refine Rg<|Lp1 Z3r rfl<|Md rfl<|Cl [4,5] (Zcl _ _ _ hx3) e52 rfl<|Ac (Zh rfl rfl (vt rfl) (vk rfl)) rfl<|As rfl<|Nl<|rt ?_
 cases h;exact Z9 Tryz.results124 rfl (Z5 rfl)
def Zgo (s1:(List Int))(x2:(Int→Option Bool)):Nat→Nat→Option Int
 | 0,i3=>some (-1)
 | m4+1,i3=>(lget s1 (i3:Int)).bind fun x5=>(x2 x5).bind fun x6=>(bif x6 then some (i3:Int) else (Zgo s1 x2 m4) (i3+1))
def Zpj (s1:(List Int))(x2:(Int→Option Bool)):Option Int:=
 Zgo s1 x2 ((s1.length:Int):Int).toNat 0
theorem Yeh:Q2 Tryz.prog 176 (rd (Z1 (Z0 .i64))) (fn1 Tryz.prog (Z0 .i64) Z3) (rd (Z0 .i64)) Zpj:=fun s1 x2 r h=>I0 Tryz.func176 rfl Tryz.ntmps176 rfl fun w H Z=>by
 unfold Zpj at h
 refine SR<|Ak rfl<|Nl<|sq<|SR<|Md rfl<|Ac (Z07 rfl rfl Z15 (vt rfl)) rfl<|Mk rfl<|Nl<|bk<|LG (d:=[]) (ν:=Nat×Nat) (fun (m4,i3)=>(Cnt (s1.length:Int) i3 m4∧Zgo s1 x2 m4 i3=some r,m4,[(0,rd (Z1 (Z0 .i64)) s1),(1,fn1 Tryz.prog (Z0 .i64) Z3 x2),(7,rd (Z0 .i64) (s1.length:Int)),(8,rd (Z0 .i64) (i3:Int))],[])) (((s1.length:Int):Int).toNat,0) ⟨Cnt.start _,h⟩ (FX rfl) ?_
 rintro ⟨m4,i3⟩ ⟨hsf1,h⟩
 dsimp only at hsf1 h ⊢
 cases m4 with
 | zero=>
  unfold Zgo at h
  refine SR<|Ac (Zh rfl rfl (vt rfl) (vt rfl)) rfl<|Nl<|sq<|Cn rfl (fun hc=>absurd (of_decide_eq_true hc) hsf1.zero) (fun hc=>?_)
  refine xt<|SR<|Ak rfl<|Nl<|rt ?_
  cases h;exact Z9 Tryz.results176 rfl (Z5 rfl)
 | succ m4=>
  unfold Zgo at h
  refine SR<|Ac (Zh rfl rfl (vt rfl) (vt rfl)) rfl<|Nl<|sq<|Cn rfl (fun hc=>?_) (fun hc=>absurd hsf1.succ (of_decide_eq_false hc))
  have hlti3:=of_decide_eq_true hc
  refine sk<|sq<|bk<|SR<|Md rfl<|As rfl<|Nl<|sq ?_
  obtain ⟨x5,hx5,x6,hx6,h⟩:=bs2 h
  refine Rg<|Ac (Zk (A:=fn1 Tryz.prog (Z0 .i64) Z3 x2) rfl rfl (vt rfl)) rfl<|Md rfl<|Md rfl<|Ac (Z0d rfl rfl Z15 (vt rfl) (vt rfl) hx5) rfl<|Lp1 Zc rfl<|Ac (Z2z hx6 rfl rfl (vt rfl) (vt rfl)) rfl<|Nl<|Cq rfl h (fun h=>?_) (fun h=>?_)
  ·refine SR<|Md rfl<|As rfl<|Nl<|rt ?_
   cases h;exact Z9 Tryz.results176 rfl (Z5 rfl)
  ·refine sk<|Rg<|Ac (Z0a (t:=7) rfl rfl (vt rfl) (vk rfl) (vt rfl) hlti3) rfl<|Md rfl<|Nl ?_
   exact ⟨(_,_),Nat.lt_succ_self _,⟨hsf1.next,h⟩,FX rfl⟩
def Zic (s1:(List Int))(x2:(Int→Option Bool)):Option Bool:=
 (Zpj s1 x2).bind fun x3=>some (decide (x3≥0))
theorem Zyv:Q2 Tryz.prog 122 (rd (Z1 (Z0 .i64))) (fn1 Tryz.prog (Z0 .i64) Z3) (rd Z3) Zic:=fun s1 x2 r h=>I0 Tryz.func122 rfl Tryz.ntmps122 rfl fun w H Z=>by
 unfold Zic at h
 refine SR<|Ab rfl<|Nl<|sq ?_
 obtain ⟨x3,hx3,h⟩:=Z6 h
 refine Rg<|Md rfl<|Ac (Zk (A:=fn1 Tryz.prog (Z0 .i64) Z3 x2) rfl rfl (vt rfl)) rfl<|Cl [5,6] (Yeh _ _ _ hx3) Ynt rfl<|Ac (Z1z rfl rfl (vt rfl) (vk rfl)) rfl<|As rfl<|Nl<|rt ?_
 cases h;exact Z9 Tryz.results122 rfl (Z5 rfl)
def Zjv (l1:(List Group))(b2:(List Bucket)):Option Bool:=
 (Ze5 b2).bind fun x4=>(Zic x4 (fun x=>Zj5 x l1)).bind fun x5=>some (!x5)
theorem Y3r:Q2 Tryz.prog 74 (rd (Z1 Zt)) (rd (Z1 Z16)) (rd Z3) Zjv:=fun l1 b2 r h=>I0 Tryz.func74 rfl Tryz.ntmps74 rfl fun w H Z=>by
 unfold Zjv at h
 refine SR<|Cv rfl (Zm 3 rfl rfl (vt rfl)) fun g3=>Ab rfl<|Nl<|sq<|AW.freezeB 2 3 rfl rfl rfl ?_
 obtain ⟨x4,hx4,x5,hx5,h⟩:=bs2 h
 refine Rg<|Md rfl<|Cl [5] (Zrd _ _ hx4) Zor rfl<|Ac (Z30 (cs:=[.tmp 2]) (CAs:=[rp (Z1 Zt) l1]) (fun x=>Zj5 x l1) rfl rfl Ydb ⟨vt rfl,trivial⟩ (fun x y h=>Y7t _ _ y h)) rfl<|Cl [6,7] (Zyv _ _ _ hx5) Zwy rfl<|Ac (Z0g rfl rfl (vt rfl)) rfl<|As rfl<|Nl<|rt ?_
 cases h;exact Z9 Tryz.results74 rfl (Z5 rfl)
def Zd3 (x2:(List Group))(R_group_walk_from:((List Group)→(List (Int×Int))→Int→Option (List (Int×Int)))):(List Int)→Nat→(List (Int×Int))→Option (List (Int×Int))
 | [],i9,m8=>some m8
 | x11::l10,i9,m8=>(Z83 x2 x11).bind fun x12=>(bif ((decide (x12<0))||(decide ((Z0w m8 x12)>0))) then (Zd3 x2 R_group_walk_from l10) (i9+1) m8 else (R_group_walk_from x2 (Z1i m8 x12 (IntKind.i64.wrap ((Z0w m8 x12)+1))) x12).bind fun m13=>(Zd3 x2 R_group_walk_from l10) (i9+1) m13)
def Zt4 (R_group_walk_from:((List Group)→(List (Int×Int))→Int→Option (List (Int×Int))))(x2:(List Group))(m3:(List (Int×Int)))(a4:Int):Option (List (Int×Int)):=
 (lget x2 a4).bind fun x5=>(Ze5 x5.Buckets).bind fun x6=>Zd3 x2 R_group_walk_from x6 0 m3
theorem Yim (R_group_walk_from:((List Group)→(List (Int×Int))→Int→Option (List (Int×Int))))(hR_group_walk_from:∀(g1:Nat) (x2:(List Group)) (m3:(List (Int×Int))) (a4:Int) (r:(List (Int×Int))),R_group_walk_from x2 m3 a4=some r→Con Tryz.prog 118 [rp Z5e (⟨x2,(.map (some g1))⟩:group_walk_o1),rd (Z0 .i64) a4] (Z2d g1 (Z0 .i64) m3) (fun _:Unit=>top) (fun _=>Z2d g1 (Z0 .i64) r))(g1:Nat)(x2:(List Group))(m3:(List (Int×Int)))(a4:Int)(r:(List (Int×Int)))(h:Zt4 R_group_walk_from x2 m3 a4=some r):Con Tryz.prog 118 [rp Z5e (⟨x2,(.map (some g1))⟩:group_walk_o1),rd (Z0 .i64) a4] (Z2d g1 (Z0 .i64) m3) (fun _:Unit=>top) (fun _=>Z2d g1 (Z0 .i64) r):=by
 refine Con.intro Tryz.func118 rfl Tryz.ntmps118 rfl fun w H X Z=>?_
 unfold Zt4 at h
 refine AW.scope<|sq<|AW.label<|sq ?_
 obtain ⟨x5,hx5,x6,hx6,h⟩:=bs2 h
 refine Rg<|Mr rfl<|Ac (Z1k rfl rfl (vt rfl)) rfl<|Fp lgroup_walk_o1_0 Y1e rfl<|Lp1 Z3r rfl<|Md rfl<|Ac (Z0d rfl rfl Z1n (vt rfl) (vt rfl) hx5) rfl<|Fp lGroup_2 Z4o rfl<|Lp1 Z3u rfl<|Cl [14] (Zrd _ _ hx6) Zor rfl<|Ac (Z07 rfl rfl Z15 (vt rfl)) rfl<|Mk rfl<|Nl<|bk<|LG (d:=[]) (ν:=(List Int)×Nat×(List (Int×Int))) (fun (l10,i9,m8)=>(Sfx x6 i9 l10∧Zd3 x2 R_group_walk_from l10 i9 m8=some r,l10.length,[(0,rp Z5e (⟨x2,(.map (some g1))⟩:group_walk_o1)),(15,rd (Z1 (Z0 .i64)) x6),(16,rd (Z0 .i64) (x6.length:Int)),(17,rd (Z0 .i64) (i9:Int))],[(0,Z2d g1 (Z0 .i64) m8)])) (x6,0,m3) ⟨Sfx.start _,h⟩ (FX rfl) ?_
 rintro ⟨l10,i9,m8⟩ ⟨hsf1,h⟩
 dsimp only at hsf1 h ⊢
 cases l10 with
 | nil=>
  unfold Zd3 at h
  refine SR<|Ac (Zh rfl rfl (vt rfl) (vt rfl)) rfl<|Nl<|sq<|Cn rfl (fun hc=>absurd (of_decide_eq_true hc) hsf1.nil) (fun hc=>?_)
  refine xt ?_
  cases h;exact Z21 (i:=0) Tryz.results118 rfl rfl
 | cons x11 l10=>
  unfold Zd3 at h
  refine SR<|Ac (Zh rfl rfl (vt rfl) (vt rfl)) rfl<|Nl<|sq<|Cn rfl (fun hc=>?_) (fun hc=>absurd hsf1.cons (of_decide_eq_false hc))
  have hlti9:=of_decide_eq_true hc
  refine sk<|sq<|bk<|SR<|Ac (Z0d rfl rfl Z15 (vt rfl) (vt rfl) hsf1.lget) rfl<|Lp1 Zc rfl<|As rfl<|Nl<|sq ?_
  obtain ⟨x12,hx12,h⟩:=Z6 h
  refine Rg<|Mr rfl<|Ac (Z1k rfl rfl (vt rfl)) rfl<|Fp lgroup_walk_o1_0 Y1e rfl<|Lp1 Z3r rfl<|Md rfl<|Cl [24,25] (Zcl _ _ _ hx12) e52 rfl<|As rfl<|Nl<|sq<|SR<|Md rfl<|Ac (Zh rfl rfl (vt rfl) (vk rfl)) rfl<|Md rfl<|Gd rfl (fun hq=>Zk (A:=rp Z5e (⟨x2,(.map (some g1))⟩:group_walk_o1)) rfl rfl (vt rfl))<|Gd rfl (fun hq=>Z1k rfl rfl (Z8 rfl hq))<|Gd rfl (fun hq=>Z4n lgroup_walk_o1_1 rfl rfl Zkc (Z8 rfl hq))<|Gd rfl (fun hq=>Zky rfl rfl Zij (Z8 rfl hq))<|Gd rfl (fun hq=>Zk (A:=rd (Z0 .i64) x12) rfl rfl (vt rfl))<|Gd rfl (fun hq=>Zdt (i:=0) rfl rfl Z9u (Z8 rfl hq) rfl (Z8 rfl hq))<|Gd rfl (fun hq=>Z1s rfl rfl (Z8 rfl hq) (vk rfl))<|Ac (Z1u rfl rfl (vt rfl) (vt rfl)) rfl<|Nl<|Cq rfl h (fun h=>?_) (fun h=>?_)
  ·refine xt<|Rg<|Ac (Z0a (t:=16) rfl rfl (vt rfl) (vk rfl) (vt rfl) hlti9) rfl<|Md rfl<|Nl ?_
   exact ⟨(_,_,_),Nat.lt_succ_self _,⟨hsf1.next,h⟩,FX rfl⟩
  ·refine sk<|SR<|Mr rfl<|Ac (Z1k rfl rfl (vt rfl)) rfl<|Fp lgroup_walk_o1_1 Zkc rfl<|Ac (Zky rfl rfl Zij (vt rfl)) rfl<|Md rfl<|Ac (Zdt (i:=0) rfl rfl Z9u (vt rfl) rfl (vt rfl)) rfl<|Ac (Z0o rfl rfl (vt rfl) (vk rfl)) rfl<|Ac (Zxs (i:=0) rfl rfl Z9u (vt rfl) rfl (vt rfl) (vt rfl)) rfl<|Nl ?_
   obtain ⟨m13,hm13,h⟩:=Z6 h
   refine Rg<|Mr rfl<|Md rfl<|Cv rfl (Z0y 0 (xs:=[.tmp 45,.tmp 46]) (hR_group_walk_from _ _ _ _ _ hm13) Zx3 rfl rfl ⟨(vt rfl),(vt rfl),trivial⟩ rfl) fun _u=>Nl<|Rg<|Ac (Z0a (t:=16) rfl rfl (vt rfl) (vk rfl) (vt rfl) hlti9) rfl<|Md rfl<|Nl ?_
   exact ⟨(_,_,_),Nat.lt_succ_self _,⟨hsf1.next,h⟩,FX rfl⟩
def Zlb:Nat→((List Group)→(List (Int×Int))→Int→Option (List (Int×Int)))
 | 0=>(fun _ _ _=>none)
 | n+1=>(Zt4 (Zlb n))
theorem Zyq:∀n:Nat,(∀(g1:Nat) (x2:(List Group)) (m3:(List (Int×Int))) (a4:Int) (r:(List (Int×Int))),(Zlb n) x2 m3 a4=some r→Con Tryz.prog 118 [rp Z5e (⟨x2,(.map (some g1))⟩:group_walk_o1),rd (Z0 .i64) a4] (Z2d g1 (Z0 .i64) m3) (fun _:Unit=>top) (fun _=>Z2d g1 (Z0 .i64) r))
 | 0=>(by intros;rename_i h;cases h)
 | n+1=>by
  have ih:=Zyq n
  exact (Yim (Zlb n) ih)
def Zzw (x2:(List Group))(m3:(List (Int×Int)))(a4:Int):Option (List (Int×Int)):=(Zlb Z2p) x2 m3 a4
theorem Ye9:∀(g1:Nat) (x2:(List Group)) (m3:(List (Int×Int))) (a4:Int) (r:(List (Int×Int))),Zzw x2 m3 a4=some r→Con Tryz.prog 118 [rp Z5e (⟨x2,(.map (some g1))⟩:group_walk_o1),rd (Z0 .i64) a4] (Z2d g1 (Z0 .i64) m3) (fun _:Unit=>top) (fun _=>Z2d g1 (Z0 .i64) r):=Zyq Z2p
def Zq2 (m10:(List (Int×Int)))(go1:Nat→(List (Int×Int))→Option Bool)(i6:Nat):Nat→Option Bool
 | 0=>none
 | m12+1=>(omz m10).bind fun u13=>go1 (i6+1) m10
def Zb5 (l1:(List Group)):(List Group)→Nat→(List (Int×Int))→Option Bool
 | [],i6,m5=>some false
 | x8::l7,i6,m5=>(Zzw l1 [] (i6:Int)).bind fun m10=>Zq2 m10 (Zb5 l1 l7) i6 Z2p
def Zma (l1:(List Group)):Option Bool:=
 Zb5 l1 l1 0 []
theorem Y44:Q1 Tryz.prog 71 (rd (Z1 Zt)) (rd Z3) Zma:=fun l1 r h=>I0 Tryz.func71 rfl Tryz.ntmps71 rfl fun w H Z=>by
 unfold Zma at h
 refine SR<|Ab rfl<|Nl<|SR<|Md rfl<|Cv rfl (Znw (Z0 .i64) 9 rfl rfl) fun g2=>Ac (opb (⟨l1,(.map (some g2))⟩:group_walk_o1) Yl7 rfl Y93 (pc Ya5 (vt rfl)<|pc Y6z (vkr (vt rfl) rfl)<|pn rfl)) rfl<|Cv rfl (Zm 11 rfl rfl (vt rfl)) fun g3=>AOps.freezeB 10 11 rfl rfl rfl<|Ac (Zn (A:=rp Z5e (⟨l1,(.map (some g2))⟩:group_walk_o1)) rfl rfl (vt rfl)) rfl<|Nl<|sq<|SR<|Md rfl<|Ac (Z07 rfl rfl Z1n (vt rfl)) rfl<|Mk rfl<|Nl<|bk<|LG (d:=[]) (ν:=(List Group)×Nat×(List (Int×Int))) (fun (l7,i6,m5)=>(Sfx l1 i6 l7∧Zb5 l1 l7 i6 m5=some r,l7.length,[(0,rd (Z1 Zt) l1),(3,rp Z5e (⟨l1,(.map (some g2))⟩:group_walk_o1)),(11,rd (Z1 Zt) l1),(12,rd (Z0 .i64) (l1.length:Int)),(13,rd (Z0 .i64) (i6:Int))],[(9,Z2d g2 (Z0 .i64) m5)])) (l1,0,[]) ⟨Sfx.start _,h⟩ (FX rfl) ?_
 rintro ⟨l7,i6,m5⟩ ⟨hsf1,h⟩
 dsimp only at hsf1 h ⊢
 cases l7 with
 | nil=>
  unfold Zb5 at h
  refine SR<|Ac (Zh rfl rfl (vt rfl) (vt rfl)) rfl<|Nl<|sq<|Cn rfl (fun hc=>absurd (of_decide_eq_true hc) hsf1.nil) (fun hc=>?_)
  refine xt<|SR<|Ab rfl<|Nl<|rt ?_
  cases h;exact Z9 Tryz.results71 rfl (Z5 rfl)
 | cons x8 l7=>
  unfold Zb5 at h
  refine SR<|Ac (Zh rfl rfl (vt rfl) (vt rfl)) rfl<|Nl<|sq<|Cn rfl (fun hc=>?_) (fun hc=>absurd hsf1.cons (of_decide_eq_false hc))
  have hlti6:=of_decide_eq_true hc
  refine sk<|sq<|bk<|SR<|Md rfl<|Ac (Z0d rfl rfl Z1n (vt rfl) (vt rfl) hsf1.lget) rfl<|Lp1 Z1m rfl<|Cv rfl (Zo 6 rfl rfl Z3a) fun g9=>As rfl<|Ze Z1m 6 rfl<|Nl<|SR<|Mr rfl<|Ac (Z1k rfl rfl (vt rfl)) rfl<|Fp lgroup_walk_o1_1 Zkc rfl<|Ac (Zky rfl rfl Zij (vt rfl)) rfl<|Ac (Yen (i:=9) rfl rfl Yoy (vt rfl) rfl) rfl<|Nl<|sq ?_
  obtain ⟨m10,hm10,h⟩:=Z6 h
  refine Rg<|Mr rfl<|Md rfl<|Cv rfl (Z0y 9 (xs:=[.tmp 22,.tmp 23]) (Ye9 _ _ _ _ _ hm10) Zx3 rfl rfl ⟨(vt rfl),(vt rfl),trivial⟩ rfl) fun _u=>Nl<|SR<|Mr rfl<|Ac (Z1k rfl rfl (vt rfl)) rfl<|Fp lgroup_walk_o1_1 Zkc rfl<|Ac (Zky rfl rfl Zij (vt rfl)) rfl<|Cv rfl (Ydd (i:=9) 30 rfl rfl Z9u (vt rfl) rfl rfl) fun g11=>Nl<|bk<|LG (d:=[]) (ν:=Nat) (fun m12=>(True∧Zq2 m10 (Zb5 l1 l7) i6 m12=some r,m12,[(0,rd (Z1 Zt) l1),(3,rp Z5e (⟨l1,(.map (some g2))⟩:group_walk_o1)),(5,Za g9 (Lens.id Zt)),(11,rd (Z1 Zt) l1),(12,rd (Z0 .i64) (l1.length:Int)),(13,rd (Z0 .i64) (i6:Int)),(29,Zg (.pointer (some ⟨g11,0,none⟩)))],[(6,Zd g9 83 Zt x8),(9,Z2d g2 (Z0 .i64) m10),(30,ItR g11 g2)])) Z2p ⟨trivial,h⟩ (FX rfl) ?_
  rintro m12 ⟨hsf2,h⟩
  dsimp only at h ⊢
  cases m12 with
  | zero=>cases h
  | succ m12=>
   unfold Zq2 at h
   refine sq ?_
   obtain ⟨u13,hu13,h⟩:=Z6 h
   refine Rg<|Ac (Yd1 (i:=9) (j:=30) (Yjs hu13) rfl rfl (vt rfl) rfl rfl) rfl<|Ac (Yj9 rfl rfl (vt rfl)) rfl<|Nl<|sq<|Cn rfl (fun hc=>by cases hc) (fun hc=>?_)
   refine xt<|Rg<|Ac (Z0a (t:=12) rfl rfl (vt rfl) (vk rfl) (vt rfl) hlti6) rfl<|Md rfl<|Nl ?_
   exact ⟨(_,_,_),Nat.lt_succ_self _,⟨hsf1.next,h⟩,FX rfl⟩
end Go.Proofs.YtjppkmpecdbepaaGreatDoor.W
set_option maxHeartbeats 1000000
set_option maxRecDepth 4000
namespace Go.Proofs.YtjppkmpecdbepaaGreatDoor.W
open Go Go.Wb
theorem e73:Ent Tryz.prog 73:=Ent.mk Tryz.func73 rfl rfl
theorem e74:Ent Tryz.prog 74:=Ent.mk Tryz.func74 rfl rfl
theorem e71:Ent Tryz.prog 71:=Ent.mk Tryz.func71 rfl rfl
theorem Yiv:Ent Tryz.prog 167:=Ent.mk Tryz.func167 rfl rfl
theorem Yc8:Ent Tryz.prog 168:=Ent.mk Tryz.func168 rfl rfl
theorem Zx6:Ent Tryz.prog 169:=Ent.mk Tryz.func169 rfl rfl
theorem You:Ent Tryz.prog 136:=Ent.mk Tryz.func136 rfl rfl
theorem Yma:Ent Tryz.prog 113:=Ent.mk Tryz.func113 rfl rfl
theorem e84:Ent Tryz.prog 84:=Ent.mk Tryz.func84 rfl rfl
def Zik (m3:GroupMod)(x10:(List Bucket))(l12:(List Group)):Option ((List Group)×Fault):=
 (Zjv l12 ((⟨m3.ID,m3.Kind,x10⟩:Group).Buckets)).bind fun x14=>(bif (!x14) then some ([],(⟨true,2,9⟩:Fault)) else (Zma l12).bind fun x15=>(bif x15 then (Z40 7).bind fun x16=>some ([],x16) else some (l12,(⟨false,0,0⟩:Fault))))
def Znt (l1:(List Group))(a2:Int)(m3:GroupMod):Option ((List Group)×Fault):=
 (Zhr m3.Kind m3.Buckets).bind fun x6=>(bif x6.Is then some ([],x6) else (Zbj l1).bind fun x8=>(Zmr m3.Buckets).bind fun x10=>(bif (decide (a2<0)) then (Z11 x8 [(⟨m3.ID,m3.Kind,x10⟩:Group)]).bind fun l17=>Zik m3 x10 l17 else (lget x8 a2).bind fun x19=>Zik m3 x10 (List.set x8 a2.toNat (⟨m3.ID,m3.Kind,x10⟩:Group))))
theorem Yea:Q3 Tryz.prog 168 (rd (Z1 Zt)) (rd (Z0 .i64)) (rd Z5m) (fun r=>Z0t (rd (Z1 Zt) r.1) (rd Z12 r.2)) Znt:=fun l1 a2 m3 r h=>I0 Tryz.func168 rfl Tryz.ntmps168 rfl fun w H Z=>by
 unfold Znt at h
 refine SR<|Cv rfl (Zm 6 rfl rfl (vt rfl)) fun g4=>Ac (Zn (A:=rd (Z1 Zt) []) rfl rfl Z04) rfl<|Cv rfl (Zo 8 rfl rfl Z1t) fun g5=>Nl<|sq<|sq ?_
 obtain ⟨x6,hx6,h⟩:=Z6 h
 refine Rg<|Zf lGroupMod_1 Zpa rfl<|Ld Zc 6 rfl<|Zf lGroupMod_3 Zqw rfl<|Ld Z3u 6 rfl<|Cl [12,14] (Zwz _ _ _ hx6) e73 rfl<|Cv rfl (Zo 9 rfl rfl Z1t) fun g7=>Ze Z05 9 rfl<|Nl<|SR<|Zf lFault_0 Zan rfl<|Ld ty4 9 rfl<|Nl<|Cq rfl h (fun h=>?_) (fun h=>?_)
 ·refine sq<|AR Z03 (by kernel_rfl)<|Zu Z05 9 rfl<|Sd (lo [] [] rfl fun S hs hr=>Zn (A:=rd (Z1 Zt) []) rfl rfl Z04)<|SSt Z05 8 rfl<|Sn<|rt ?_
  cases h;exact Z0c Tryz.results168 rfl (Z5 rfl) (Zv rfl (i:=8) rfl Z05)
 ·refine sk<|sq ?_
  obtain ⟨x8,hx8,h⟩:=Z6 h
  refine Rg<|Md rfl<|Cv rfl (Z0y 1001 (xs:=[.tmp 19]) (Zva _ _ hx8) e53 rfl rfl ⟨vt rfl,trivial⟩ rfl) fun v9=>Aw rfl<|Nl<|sq ?_
  obtain ⟨x10,hx10,h⟩:=Z6 h
  refine AR Z03 (by kernel_rfl)<|SFd lGroupMod_2 Zhi rfl<|Zu Zc 6 rfl<|SFd lGroupMod_1 Zpa rfl<|Zu Zc 6 rfl<|SFd lGroupMod_3 Zqw rfl<|Zu Z3u 6 rfl<|SCl [26] (Zz9 _ _ hx10) e94 rfl<|Sd (lo [22,24,27] [] rfl fun S hs hr=>opb (⟨m3.ID,m3.Kind,x10⟩:Group) Z3a rfl Zy9 (pc Ya7 (vh hs 22 rfl rfl)<|pc Yhj (vh hs 24 rfl rfl)<|pc Yi0 (vh hs 27 rfl rfl)<|pn rfl))<|Sd (Z18 (us:=[(10,Z28 83 Zt Z8p)]) (ur:=[]) [] [] rfl fun S hs hr=>Z55 rfl rfl rfl Z3a)<|Sd (Z18 (us:=[(10,Z28 83 Zt (⟨m3.ID,m3.Kind,x10⟩:Group))]) (ur:=[]) [10,28] [] rfl fun S hs hr=>Z4z rfl rfl Z1m ((hs 10 rfl).trans rfl) (vh hs 28 rfl rfl))<|Sn<|AW.unpackP 10 11 rfl rfl fun g11=>?_
  refine JN (d:=[]) (ν:=(List Group)×Value) (fun (l12,v13)=>(Zik m3 x10 l12=some r,[(7,Za g5 (Lens.id Z12)),(9,Zg v13),(10,Za g11 (Lens.id Zt))],[(8,Zd g5 99 Z12 Z4g),(11,Zd g11 83 Zt (⟨m3.ID,m3.Kind,x10⟩:Group)),(1001,Zi v13 83 Zt l12)])) ?hx1 ?hy1
  case hy1=>
   rintro ⟨l12,v13⟩ h
   dsimp only at h ⊢
   unfold Zik at h
   refine sq<|bk<|sq ?_
   obtain ⟨x14,hx14,h⟩:=Z6 h
   refine Rg<|Mw rfl<|Zf lGroup_2 Z4o rfl<|Ld Z3u 11 rfl<|Ac (Z9v (xs:=[.tmp 40,.tmp 42]) 1001 (Y3r _ _ _ hx14) e74 rfl rfl ⟨vL rfl rfl,vB (vt rfl),trivial⟩) rfl<|Ac (Z0g rfl rfl (vt rfl)) rfl<|As rfl<|Nl<|Cq rfl h (fun h=>?_) (fun h=>?_)
   ·refine SR<|Ac (opb (⟨true,2,9⟩:Fault) Z1t rfl Z41 (pc Zc2 vb<|pc Zce (vk rfl)<|pc Zbu (vk rfl)<|pn rfl)) rfl<|Ac (Zn (A:=rd (Z1 Zt) []) rfl rfl Z04) rfl<|Ze Z05 8 rfl<|Nl<|rt ?_
    cases h;exact Z0c Tryz.results168 rfl (Z5 rfl) (Zv rfl (i:=8) rfl Z05)
   ·refine sq ?_
    obtain ⟨x15,hx15,h⟩:=Z6 h
    refine Rg<|Mw rfl<|Ac (Z9v (xs:=[.tmp 47]) 1001 (Y44 _ _ hx15) e71 rfl rfl ⟨vL rfl rfl,trivial⟩) rfl<|As rfl<|Nl<|Cq rfl h (fun h=>?_) (fun h=>?_)
    ·refine sq ?_
     obtain ⟨x16,hx16,h⟩:=Z6 h
     refine Rg<|Ac (Zz (xs:=[.const (Value.int IntKind.i64 7)]) (Z4w _ _ hx16) Z4s rfl rfl ⟨vk rfl,trivial⟩) rfl<|Ac (Zn (A:=rd (Z1 Zt) []) rfl rfl Z04) rfl<|Ze Z05 8 rfl<|Nl<|rt ?_
     cases h;exact Z0c Tryz.results168 rfl (Z5 rfl) (Zv rfl (i:=8) rfl Z05)
    ·refine sk<|SR<|Mw rfl<|Ac (opb (⟨false,0,0⟩:Fault) Z1t rfl Z41 (pn rfl)) rfl<|Aw rfl<|Ze Z05 8 rfl<|Nl<|AW.freezes [6,9,40,47,50] 1001 rfl ⟨rfl,rfl,rfl,rfl,rfl,trivial⟩ rfl<|rt ?_
     cases h;exact Z0c Tryz.results168 rfl (Z5 rfl) (Zv rfl (i:=8) rfl Z05)
  case hx1=>
   refine SR<|Md rfl<|Ac (Zh rfl rfl (vt rfl) (vk rfl)) rfl<|Nl<|Cq rfl h (fun h=>?_) (fun h=>?_)
   ·obtain ⟨l17,hl17,h⟩:=Z6 h
    refine Rg<|Mw rfl<|Ld Z1m 11 rfl<|Ac (osl Z1n Z3a rfl (vt rfl)) rfl<|Cv rfl (Z1f 1001 hl17 rfl rfl Zn8 (vt rfl) rfl (vt rfl)) fun v18=>Aw rfl<|Nl ?_
    exact ⟨(_,_),h,FX rfl⟩
   ·obtain ⟨x19,hx19,h⟩:=Z6 h
    refine Rg<|Mw rfl<|Md rfl<|Ld Z1m 11 rfl<|Ac (Z1w 1001 rfl rfl Z1n (vt rfl) rfl (vt rfl) hx19) rfl<|Ac (Z2b 1001 rfl rfl Z1m (vt rfl) rfl (Z0l hx19).2 (vt rfl)) rfl<|Nl ?_
    exact ⟨(_,_),h,FX rfl⟩
def Zur (l1:(List Group))(m2:GroupMod):Option ((List Group)×Fault):=
 (Z83 l1 m2.ID).bind fun x5=>(bif ((decide (m2.Command<0))||(decide (m2.Command>2))) then (Z40 11).bind fun x6=>some ([],x6) else (bif (decide (m2.Command=2)) then (Zqc l1 m2.ID).bind fun x7=>some (x7.1,x7.2) else (Zdm m2.ID).bind fun x8=>(bif (!x8) then (Z40 1).bind fun x9=>some ([],x9) else (bif ((decide (m2.Command=1))&&(decide (x5<0))) then (Z40 8).bind fun x10=>some ([],x10) else (bif ((decide (m2.Command=0))&&(decide (x5≥0))) then (Z40 0).bind fun x11=>some ([],x11) else (bif ((decide (m2.Command=0))&&(decide ((l1.length:Int)≥8))) then (Z40 3).bind fun x12=>some ([],x12) else (Znt l1 x5 m2).bind fun x13=>some (x13.1,x13.2)))))))
theorem Yc5:Q2 Tryz.prog 109 (rd (Z1 Zt)) (rd Z5m) (fun r=>Z0t (rd (Z1 Zt) r.1) (rd Z12 r.2)) Zur:=fun l1 m2 r h=>I0 Tryz.func109 rfl Tryz.ntmps109 rfl fun w H Z=>by
 unfold Zur at h
 refine SR<|Cv rfl (Zm 4 rfl rfl (vt rfl)) fun g3=>Ac (Zn (A:=rd (Z1 Zt) []) rfl rfl Z04) rfl<|Cv rfl (Zo 6 rfl rfl Z1t) fun g4=>Nl<|sq ?_
 obtain ⟨x5,hx5,h⟩:=Z6 h
 refine Rg<|Md rfl<|Zf lGroupMod_2 Zhi rfl<|Ld Zc 4 rfl<|Cl [7,9] (Zcl _ _ _ hx5) e52 rfl<|As rfl<|Nl<|sq<|bk<|SR<|Zf Z7j Z80 rfl<|Ld Zc 4 rfl<|Ac (Zh rfl rfl (vt rfl) (vk rfl)) rfl<|Md rfl<|Gd rfl (fun hq=>Z0i Z7j rfl rfl Z80 (vt rfl))<|Gd rfl (fun hq=>Z08 rfl rfl Zc (Z8 rfl hq) (i:=4) rfl)<|Gd rfl (fun hq=>Z1s rfl rfl (Z8 rfl hq) (vk rfl))<|Ac (Z1u rfl rfl (vt rfl) (vt rfl)) rfl<|As rfl<|Nl<|Cq rfl h (fun h=>?_) (fun h=>?_)
 ·refine sq ?_
  obtain ⟨x6,hx6,h⟩:=Z6 h
  refine Rg<|Ac (Zz (xs:=[.const (Value.int IntKind.i64 11)]) (Z4w _ _ hx6) Z4s rfl rfl ⟨vk rfl,trivial⟩) rfl<|Ac (Zn (A:=rd (Z1 Zt) []) rfl rfl Z04) rfl<|Ze Z05 6 rfl<|Nl<|rt ?_
  cases h;exact Z0c Tryz.results109 rfl (Z5 rfl) (Zv rfl (i:=6) rfl Z05)
 ·refine SR<|Zf Z7j Z80 rfl<|Ld Zc 4 rfl<|Ac (Zy rfl rfl (vt rfl) (vk rfl)) rfl<|As rfl<|Nl<|Cq rfl h (fun h=>?_) (fun h=>?_)
  ·refine sq ?_
   obtain ⟨x7,hx7,h⟩:=Z6 h
   refine Rg<|Md rfl<|Zf lGroupMod_2 Zhi rfl<|Ld Zc 4 rfl<|Cl [25,27] (Yec _ _ _ hx7) Yiv rfl<|Ac (Z10 rfl rfl (vt rfl)) rfl<|Ac (Z0z rfl rfl (vt rfl)) rfl<|As rfl<|Ze Z05 6 rfl<|Nl<|rt ?_
   cases h;exact Z0c Tryz.results109 rfl (Z5 rfl) (Zv rfl (i:=6) rfl Z05)
  ·refine sq ?_
   obtain ⟨x8,hx8,h⟩:=Z6 h
   refine Rg<|Zf lGroupMod_2 Zhi rfl<|Ld Zc 4 rfl<|Cl [33] (Zsv _ _ hx8) e72 rfl<|Ac (Z0g rfl rfl (vt rfl)) rfl<|As rfl<|Nl<|Cq rfl h (fun h=>?_) (fun h=>?_)
   ·refine sq ?_
    obtain ⟨x9,hx9,h⟩:=Z6 h
    refine Rg<|Ac (Zz (xs:=[.const (Value.int IntKind.i64 1)]) (Z4w _ _ hx9) Z4s rfl rfl ⟨vk rfl,trivial⟩) rfl<|Ac (Zn (A:=rd (Z1 Zt) []) rfl rfl Z04) rfl<|Ze Z05 6 rfl<|Nl<|rt ?_
    cases h;exact Z0c Tryz.results109 rfl (Z5 rfl) (Zv rfl (i:=6) rfl Z05)
   ·refine SR<|Zf Z7j Z80 rfl<|Ld Zc 4 rfl<|Ac (Zy rfl rfl (vt rfl) (vk rfl)) rfl<|Md rfl<|Gd rfl (fun hq=>Zk (A:=rd (Z0 .i64) x5) rfl rfl (vt rfl))<|Gd rfl (fun hq=>Zh rfl rfl (Z8 rfl hq) (vk rfl))<|Ac (Z0h rfl rfl (vt rfl) (vt rfl)) rfl<|As rfl<|Nl<|Cq rfl h (fun h=>?_) (fun h=>?_)
    ·refine sq ?_
     obtain ⟨x10,hx10,h⟩:=Z6 h
     refine Rg<|Ac (Zz (xs:=[.const (Value.int IntKind.i64 8)]) (Z4w _ _ hx10) Z4s rfl rfl ⟨vk rfl,trivial⟩) rfl<|Ac (Zn (A:=rd (Z1 Zt) []) rfl rfl Z04) rfl<|Ze Z05 6 rfl<|Nl<|rt ?_
     cases h;exact Z0c Tryz.results109 rfl (Z5 rfl) (Zv rfl (i:=6) rfl Z05)
    ·refine SR<|Zf Z7j Z80 rfl<|Ld Zc 4 rfl<|Ac (Zy rfl rfl (vt rfl) (vk rfl)) rfl<|Md rfl<|Gd rfl (fun hq=>Zk (A:=rd (Z0 .i64) x5) rfl rfl (vt rfl))<|Gd rfl (fun hq=>Z1z rfl rfl (Z8 rfl hq) (vk rfl))<|Ac (Z0h rfl rfl (vt rfl) (vt rfl)) rfl<|As rfl<|Nl<|Cq rfl h (fun h=>?_) (fun h=>?_)
     ·refine sq ?_
      obtain ⟨x11,hx11,h⟩:=Z6 h
      refine Rg<|Ac (Zz (xs:=[.const (Value.int IntKind.i64 0)]) (Z4w _ _ hx11) Z4s rfl rfl ⟨vk rfl,trivial⟩) rfl<|Ac (Zn (A:=rd (Z1 Zt) []) rfl rfl Z04) rfl<|Ze Z05 6 rfl<|Nl<|rt ?_
      cases h;exact Z0c Tryz.results109 rfl (Z5 rfl) (Zv rfl (i:=6) rfl Z05)
     ·refine SR<|Zf Z7j Z80 rfl<|Ld Zc 4 rfl<|Ac (Zy rfl rfl (vt rfl) (vk rfl)) rfl<|Md rfl<|Gd rfl (fun hq=>Zk (A:=rd (Z1 Zt) l1) rfl rfl (vt rfl))<|Gd rfl (fun hq=>Z07 rfl rfl Z1n (Z8 rfl hq))<|Gd rfl (fun hq=>Z1z rfl rfl (Z8 rfl hq) (vk rfl))<|Ac (Z0h rfl rfl (vt rfl) (vt rfl)) rfl<|As rfl<|Nl<|Cq rfl h (fun h=>?_) (fun h=>?_)
      ·refine sq ?_
       obtain ⟨x12,hx12,h⟩:=Z6 h
       refine Rg<|Ac (Zz (xs:=[.const (Value.int IntKind.i64 3)]) (Z4w _ _ hx12) Z4s rfl rfl ⟨vk rfl,trivial⟩) rfl<|Ac (Zn (A:=rd (Z1 Zt) []) rfl rfl Z04) rfl<|Ze Z05 6 rfl<|Nl<|rt ?_
       cases h;exact Z0c Tryz.results109 rfl (Z5 rfl) (Zv rfl (i:=6) rfl Z05)
      ·refine sk<|sq ?_
       obtain ⟨x13,hx13,h⟩:=Z6 h
       refine Rg<|Md rfl<|Md rfl<|Ld Zla 4 rfl<|Cl [65,66,67] (Yea _ _ _ _ hx13) Yc8 rfl<|Ac (Z10 rfl rfl (vt rfl)) rfl<|Ac (Z0z rfl rfl (vt rfl)) rfl<|As rfl<|Ze Z05 6 rfl<|Nl<|rt ?_
       cases h;exact Z0c Tryz.results109 rfl (Z5 rfl) (Zv rfl (i:=6) rfl Z05)
def Zfx (x1:Fault):Option Err:=
 (bif (!x1.Is) then some Err.no else some (Err.e218 (⟨x1⟩:state_refused)))
theorem Zuz:Q1 Tryz.prog 110 (rd Z12) (rd Z3y) Zfx:=fun x1 r h=>I0 Tryz.func110 rfl Tryz.ntmps110 rfl fun w H Z=>by
 unfold Zfx at h
 refine SR<|Cv rfl (Zm 2 rfl rfl (vt rfl)) fun g2=>Ac (Zn (A:=rd Z3y Err.no) rfl rfl (vne rfl)) rfl<|Nl<|sq<|SR<|Zf lFault_0 Zan rfl<|Ld ty4 2 rfl<|Ac (Z0g rfl rfl (vt rfl)) rfl<|Nl<|Cq rfl h (fun h=>?_) (fun h=>?_)
 ·refine SR<|Ac (Zn (A:=rd Z3y Err.no) rfl rfl (vne rfl)) rfl<|Nl<|rt ?_
  cases h;exact Z9 Tryz.results110 rfl (Z5 rfl)
 ·refine sk<|SR<|Ld Z05 2 rfl<|Ac (opb (⟨x1⟩:state_refused) Zts rfl Y08 (pc Y1r (vt rfl)<|pn rfl)) rfl<|Ac (Zvr (d:=Zmu) (Err.e218 (⟨x1⟩:state_refused)) rfl rfl Zwd rfl (vt rfl)) rfl<|As rfl<|Nl<|rt ?_
  cases h;exact Z9 Tryz.results110 rfl (Z5 rfl)
def Zbl (w2:((List Action)→Option (List Int))):(List Inst)→Nat→(List Int)→Option (List Int)
 | [],i8,l6=>some l6
 | x10::l9,i8,l6=>(bif ((decide (x10.Kind=3))||(decide (x10.Kind=4))) then (w2 x10.Acts).bind fun x12=>(Z11 l6 x12).bind fun l13=>(Zbl w2 l9) (i8+1) l13 else (Zbl w2 l9) (i8+1) l6)
def Zm8 (x1:Flow)(w2:((List Action)→Option (List Int))):Option (List Int):=
 Zbl w2 x1.Insts 0 []
theorem Zyz:Q2 Tryz.prog 169 (rd Zp) (fn1 Tryz.prog (Z1 Zj) (Z1 (Z0 .i64))) (rd (Z1 (Z0 .i64))) Zm8:=fun x1 w2 r h=>I0 Tryz.func169 rfl Tryz.ntmps169 rfl fun w H Z=>by
 unfold Zm8 at h
 refine SR<|Cv rfl (Zm 3 rfl rfl (vt rfl)) fun g3=>Ac (Zn (A:=rd (Z1 (Z0 .i64)) []) rfl rfl Z04) rfl<|Nl<|sq<|AW.newnil 1001 3 (Z0 .i64)<|Rg<|Ac (Zn rfl rfl vc) rfl<|Nl<|sq<|SR<|Zf lFlow_6 Z7q rfl<|Ld Z4r 3 rfl<|Ac (Z07 rfl rfl Z46 (vt rfl)) rfl<|Mk rfl<|Nl<|bk<|LG (d:=[]) (ν:=(List Inst)×Nat×(List Int)×Value) (fun (l9,i8,l6,v7)=>(Sfx x1.Insts i8 l9∧Zbl w2 l9 i8 l6=some r,l9.length,[(1,fn1 Tryz.prog (Z1 Zj) (Z1 (Z0 .i64)) w2),(5,Zg v7),(9,rd (Z1 Z0f) x1.Insts),(10,rd (Z0 .i64) (x1.Insts.length:Int)),(11,rd (Z0 .i64) (i8:Int))],[(1001,Zi v7 3 (Z0 .i64) l6)])) (x1.Insts,0,[],(.slice none 0 0)) ⟨Sfx.start _,h⟩ (FX rfl) ?_
 rintro ⟨l9,i8,l6,v7⟩ ⟨hsf1,h⟩
 dsimp only at hsf1 h ⊢
 cases l9 with
 | nil=>
  unfold Zbl at h
  refine SR<|Ac (Zh rfl rfl (vt rfl) (vt rfl)) rfl<|Nl<|sq<|Cn rfl (fun hc=>absurd (of_decide_eq_true hc) hsf1.nil) (fun hc=>?_)
  refine xt<|SR<|Mw rfl<|Aw rfl<|Nl<|AW.freezes [4,5,30] 1001 rfl ⟨rfl,rfl,rfl,trivial⟩ rfl<|rt ?_
  cases h;exact Z9 Tryz.results169 rfl (Z5 rfl)
 | cons x10 l9=>
  unfold Zbl at h
  refine SR<|Ac (Zh rfl rfl (vt rfl) (vt rfl)) rfl<|Nl<|sq<|Cn rfl (fun hc=>?_) (fun hc=>absurd hsf1.cons (of_decide_eq_false hc))
  have hlti8:=of_decide_eq_true hc
  refine sk<|sq<|bk<|SR<|Ac (Z0d rfl rfl Z46 (vt rfl) (vt rfl) hsf1.lget) rfl<|Lp1 Z2h rfl<|Cv rfl (Zo 8 rfl rfl Z44) fun g11=>Ze Z2h 8 rfl<|Nl<|SR<|Zf lInst_0 Z5w rfl<|Ld Zc 8 rfl<|Ac (Zy rfl rfl (vt rfl) (vk rfl)) rfl<|Md rfl<|Gd rfl (fun hq=>Z0i lInst_0 rfl rfl Z5w (vt rfl))<|Gd rfl (fun hq=>Z08 rfl rfl Zc (Z8 rfl hq) (i:=8) rfl)<|Gd rfl (fun hq=>Zy rfl rfl (Z8 rfl hq) (vk rfl))<|Ac (Z1u rfl rfl (vt rfl) (vt rfl)) rfl<|Nl<|Cq rfl h (fun h=>?_) (fun h=>?_)
  ·obtain ⟨x12,hx12,l13,hl13,h⟩:=bs2 h
   refine Rg<|Mw rfl<|Ac (Zk (A:=fn1 Tryz.prog (Z1 Zj) (Z1 (Z0 .i64)) w2) rfl rfl (vt rfl)) rfl<|Zf lInst_4 Z4l rfl<|Ld Z2x 8 rfl<|Ac (Z2z hx12 rfl rfl (vt rfl) (vt rfl)) rfl<|Cv rfl (Z1f 1001 hl13 rfl rfl Z74 (vt rfl) rfl (vt rfl)) fun v14=>Aw rfl<|Nl<|Rg<|Ac (Z0a (t:=10) rfl rfl (vt rfl) (vk rfl) (vt rfl) hlti8) rfl<|Md rfl<|Nl ?_
   exact ⟨(_,_,_,_),Nat.lt_succ_self _,⟨hsf1.next,h⟩,FX rfl⟩
  ·refine sk<|Rg<|Ac (Z0a (t:=10) rfl rfl (vt rfl) (vk rfl) (vt rfl) hlti8) rfl<|Md rfl<|Nl ?_
   exact ⟨(_,_,_,_),Nat.lt_succ_self _,⟨hsf1.next,h⟩,FX rfl⟩
def Ztz (x1:Flow):Option (List Int):=
 (Zm8 x1 Zh6).bind fun x3=>some x3
theorem Yk7:Q1 Tryz.prog 113 (rd Zp) (rd (Z1 (Z0 .i64))) Ztz:=fun x1 r h=>I0 Tryz.func113 rfl Tryz.ntmps113 rfl fun w H Z=>by
 unfold Ztz at h
 refine SR<|Cv rfl (Zm 2 rfl rfl (vt rfl)) fun g2=>Ac (Zn (A:=rd (Z1 (Z0 .i64)) []) rfl rfl Z04) rfl<|Nl<|sq ?_
 obtain ⟨x3,hx3,h⟩:=Z6 h
 refine Rg<|Ld Z19 2 rfl<|Ac (Zz (xs:=[.tmp 3,.func 85]) (Zyz _ _ _ hx3) Zx6 rfl rfl ⟨vt rfl,vf1 e85 Zs5,trivial⟩) rfl<|As rfl<|Nl<|rt ?_
 cases h;exact Z9 Tryz.results113 rfl (Z5 rfl)
def Zkq (i1:Int)(x2:(List Group)):Option Bool:=
 (Za7 x2 i1).bind fun x3=>some (!x3.2)
theorem Ybp:Q2 Tryz.prog 136 (rd (Z0 .i64)) (rp (Z1 Zt)) (rd Z3) Zkq:=fun i1 x2 r h=>I0 Tryz.func136 rfl Tryz.ntmps136 rfl fun w H Z=>by
 unfold Zkq at h
 refine SR<|Ab rfl<|Nl<|sq ?_
 obtain ⟨x3,hx3,h⟩:=Z6 h
 refine Rg<|Lp1 Z3r rfl<|Md rfl<|Cl [7,8] (Zer _ _ _ hx3) e28 rfl<|Mt2 rfl<|Ac (Z10 rfl rfl (vt rfl)) rfl<|Ac (Z0z rfl rfl (vt rfl)) rfl<|Cv rfl (Zo 5 rfl rfl Z3a) fun g4=>Ze Z1m 5 rfl<|As rfl<|Nl<|SR<|Md rfl<|Ac (Z0g rfl rfl (vt rfl)) rfl<|As rfl<|Nl<|rt ?_
 cases h;exact Z9 Tryz.results136 rfl (Z5 rfl)
def Zv7 (l1:(List Group))(i2:(List Int)):Option Bool:=
 (Zic i2 (fun x=>Zkq x l1)).bind fun x4=>some x4
theorem Ym7:Q2 Tryz.prog 84 (rd (Z1 Zt)) (rd (Z1 (Z0 .i64))) (rd Z3) Zv7:=fun l1 i2 r h=>I0 Tryz.func84 rfl Tryz.ntmps84 rfl fun w H Z=>by
 unfold Zv7 at h
 refine SR<|Cv rfl (Zm 3 rfl rfl (vt rfl)) fun g3=>Ab rfl<|Nl<|sq<|AW.freezeB 2 3 rfl rfl rfl ?_
 obtain ⟨x4,hx4,h⟩:=Z6 h
 refine Rg<|Md rfl<|Ac (Z30 (cs:=[.tmp 2]) (CAs:=[rp (Z1 Zt) l1]) (fun x=>Zkq x l1) rfl rfl You ⟨vt rfl,trivial⟩ (fun x y h=>Ybp _ _ y h)) rfl<|Cl [5,6] (Zyv _ _ _ hx4) Zwy rfl<|As rfl<|Nl<|rt ?_
 cases h;exact Z9 Tryz.results84 rfl (Z5 rfl)
def Zhp (s1:(List Flow))(x2:(Flow→Option Bool)):Nat→Nat→Option Int
 | 0,i3=>some (-1)
 | m4+1,i3=>(lget s1 (i3:Int)).bind fun x5=>(x2 x5).bind fun x6=>(bif x6 then some (i3:Int) else (Zhp s1 x2 m4) (i3+1))
def Zs9 (s1:(List Flow))(x2:(Flow→Option Bool)):Option Int:=
 Zhp s1 x2 ((s1.length:Int):Int).toNat 0
theorem Ym5:Q2 Tryz.prog 89 (rd (Z1 Zp)) (fn1 Tryz.prog Zp Z3) (rd (Z0 .i64)) Zs9:=fun s1 x2 r h=>I0 Tryz.func89 rfl Tryz.ntmps89 rfl fun w H Z=>by
 unfold Zs9 at h
 refine SR<|Ak rfl<|Nl<|sq<|SR<|Md rfl<|Ac (Z07 rfl rfl Z25 (vt rfl)) rfl<|Mk rfl<|Nl<|bk<|LG (d:=[]) (ν:=Nat×Nat) (fun (m4,i3)=>(Cnt (s1.length:Int) i3 m4∧Zhp s1 x2 m4 i3=some r,m4,[(0,rd (Z1 Zp) s1),(1,fn1 Tryz.prog Zp Z3 x2),(7,rd (Z0 .i64) (s1.length:Int)),(8,rd (Z0 .i64) (i3:Int))],[])) (((s1.length:Int):Int).toNat,0) ⟨Cnt.start _,h⟩ (FX rfl) ?_
 rintro ⟨m4,i3⟩ ⟨hsf1,h⟩
 dsimp only at hsf1 h ⊢
 cases m4 with
 | zero=>
  unfold Zhp at h
  refine SR<|Ac (Zh rfl rfl (vt rfl) (vt rfl)) rfl<|Nl<|sq<|Cn rfl (fun hc=>absurd (of_decide_eq_true hc) hsf1.zero) (fun hc=>?_)
  refine xt<|SR<|Ak rfl<|Nl<|rt ?_
  cases h;exact Z9 Tryz.results89 rfl (Z5 rfl)
 | succ m4=>
  unfold Zhp at h
  refine SR<|Ac (Zh rfl rfl (vt rfl) (vt rfl)) rfl<|Nl<|sq<|Cn rfl (fun hc=>?_) (fun hc=>absurd hsf1.succ (of_decide_eq_false hc))
  have hlti3:=of_decide_eq_true hc
  refine sk<|sq<|bk<|SR<|Md rfl<|As rfl<|Nl<|sq ?_
  obtain ⟨x5,hx5,x6,hx6,h⟩:=bs2 h
  refine Rg<|Ac (Zk (A:=fn1 Tryz.prog Zp Z3 x2) rfl rfl (vt rfl)) rfl<|Md rfl<|Md rfl<|Ac (Z0d rfl rfl Z25 (vt rfl) (vt rfl) hx5) rfl<|Lp1 Z19 rfl<|Ac (Z2z hx6 rfl rfl (vt rfl) (vt rfl)) rfl<|Nl<|Cq rfl h (fun h=>?_) (fun h=>?_)
  ·refine SR<|Md rfl<|As rfl<|Nl<|rt ?_
   cases h;exact Z9 Tryz.results89 rfl (Z5 rfl)
  ·refine sk<|Rg<|Ac (Z0a (t:=7) rfl rfl (vt rfl) (vk rfl) (vt rfl) hlti3) rfl<|Md rfl<|Nl ?_
   exact ⟨(_,_),Nat.lt_succ_self _,⟨hsf1.next,h⟩,FX rfl⟩
end Go.Proofs.YtjppkmpecdbepaaGreatDoor.W
set_option maxHeartbeats 1000000
set_option maxRecDepth 4000
namespace Go.Proofs.YtjppkmpecdbepaaGreatDoor.W
open Go Go.Wb
theorem e89:Ent Tryz.prog 89:=Ent.mk Tryz.func89 rfl rfl
theorem Ycs:Ent Tryz.prog 108:=Ent.mk Tryz.func108 rfl rfl
theorem e83:Ent Tryz.prog 83:=Ent.mk Tryz.func83 rfl rfl
theorem Ykc:Ent Tryz.prog 109:=Ent.mk Tryz.func109 rfl rfl
theorem Zoc:Ent Tryz.prog 110:=Ent.mk Tryz.func110 rfl rfl
theorem Y7w:Ent Tryz.prog 107:=Ent.mk Tryz.func107 rfl rfl
theorem e62:Ent Tryz.prog 62:=Ent.mk Tryz.func62 rfl rfl
theorem e64:Ent Tryz.prog 64:=Ent.mk Tryz.func64 rfl rfl
theorem e63:Ent Tryz.prog 63:=Ent.mk Tryz.func63 rfl rfl
theorem Zry:Ent Tryz.prog 255:=Ent.mk Tryz.func255 rfl rfl
def Zka (w1:state_work)(x7:((List Group)×Fault)):Nat→Nat→Option (Err×state_work)
 | 0,i11=>some (Err.no,{w1 with Switch:={w1.Switch with Groups:=x7.1}})
 | m12+1,i11=>none
def Zp2 (w1:state_work)(m3:GroupMod):Option (Err×state_work):=
 (Zul m3).bind fun x5=>(bif (!x5) then (Z9d 1 6).bind fun x6=>some (x6,w1) else (Zur w1.Switch.Groups m3).bind fun x7=>(bif x7.2.Is then (Zfx x7.2).bind fun x10=>some (x10,w1) else (bif (decide (m3.Command≠2)) then some (Err.no,{w1 with Switch:={w1.Switch with Groups:=x7.1}}) else Zka w1 x7 (4:Int).toNat 0)))
theorem Yl3 (g2 gT:Nat)(w1:state_work)(m3:GroupMod)(r:(Err×state_work))(h:Zp2 w1 m3=some r):Con Tryz.prog 64 [Za g2 (Lens.id Z2g),rd Z5m m3] (Zd g2 gT Z2g w1) (fun _:Unit=>rd Z3y r.1) (fun _=>Zd g2 gT Z2g r.2):=by
 refine Con.intro Tryz.func64 rfl Tryz.ntmps64 rfl fun w H X Z=>?_
 unfold Zp2 at h
 refine SR<|Cv rfl (Zm 4 rfl rfl (vt rfl)) fun g4=>Ac (Zn (A:=rd Z3y Err.no) rfl rfl (vne rfl)) rfl<|Nl<|sq<|sq ?_
 obtain ⟨x5,hx5,h⟩:=Z6 h
 refine Rg<|Ld Zla 4 rfl<|Cl [8] (Ygx _ _ hx5) Ycs rfl<|Ac (Z0g rfl rfl (vt rfl)) rfl<|Nl<|Cq rfl h (fun h=>?_) (fun h=>?_)
 ·refine sq ?_
  obtain ⟨x6,hx6,h⟩:=Z6 h
  refine Rg<|Ac (Zz (xs:=[.const (Value.int IntKind.i64 1),.const (Value.int IntKind.i64 6)]) (Zfl _ _ _ hx6) e83 rfl rfl ⟨vk rfl,vk rfl,trivial⟩) rfl<|As rfl<|Nl<|rt ?_
  cases h;exact Z47 (i:=0) Tryz.results64 rfl (Z5 rfl) rfl
 ·refine sk<|sq ?_
  obtain ⟨x7,hx7,h⟩:=Z6 h
  refine AR Z03 (by kernel_rfl)<|SMp rfl<|SNc rfl<|SFd lstate_work_0 Zap rfl<|SFd Z66 Z77 rfl<|Zu Z3r 0 rfl<|Zu Zla 4 rfl<|SCl [17,18] (Yc5 _ _ _ hx7) Ykc rfl<|Sd (lo [19] [] rfl fun S hs hr=>Zk (A:=Z0t (rd (Z1 Zt) x7.1) (rd Z12 x7.2)) rfl rfl (vh hs 19 rfl rfl))<|Sd (lo [12] [] rfl fun S hs hr=>Z10 rfl rfl (vh hs 12 rfl rfl))<|Sd (lo [12] [] rfl fun S hs hr=>Z0z rfl rfl (vh hs 12 rfl rfl))<|Sd (Z18 (us:=[(5,Z28 63 (Z1 Zt) [])]) (ur:=[]) [] [] rfl fun S hs hr=>Z55 rfl rfl rfl Yf2)<|Sd (Z18 (us:=[(6,Z28 99 Z12 Z4g)]) (ur:=[]) [] [] rfl fun S hs hr=>Z55 rfl rfl rfl Z1t)<|Sd (Z18 (us:=[(5,Z28 63 (Z1 Zt) x7.1)]) (ur:=[]) [5,20] [] rfl fun S hs hr=>Z4z rfl rfl Z3r ((hs 5 rfl).trans rfl) (vh hs 20 rfl rfl))<|Sd (Z18 (us:=[(6,Z28 99 Z12 x7.2)]) (ur:=[]) [6,21] [] rfl fun S hs hr=>Z4z rfl rfl Z05 ((hs 6 rfl).trans rfl) (vh hs 21 rfl rfl))<|Sn<|AW.unpackP 5 6 rfl rfl fun g8=>AW.unpackP 6 7 rfl rfl fun g9=>sq<|SR<|Zf lFault_0 Zan rfl<|Ld ty4 7 rfl<|Nl<|Cq rfl h (fun h=>?_) (fun h=>?_)
  ·refine sq ?_
   obtain ⟨x10,hx10,h⟩:=Z6 h
   refine Rg<|Ld Z05 7 rfl<|Cl [24] (Zuz _ _ hx10) Zoc rfl<|As rfl<|Nl<|rt ?_
   cases h;exact Z47 (i:=0) Tryz.results64 rfl (Z5 rfl) rfl
  ·refine sk<|SR<|Mp rfl<|Ld Z3r 6 rfl<|Nc rfl<|Zf lstate_work_0 Zap rfl<|Zf Z66 Z77 rfl<|Ze Z3r 0 rfl<|Nl<|sq<|SR<|Zf Z7j Z80 rfl<|Ld Zc 4 rfl<|Ac (Z2j rfl rfl (vt rfl) (vk rfl)) rfl<|Nl<|Cq rfl h (fun h=>?_) (fun h=>?_)
   ·refine SR<|Ac (Zn (A:=rd Z3y Err.no) rfl rfl (vne rfl)) rfl<|Nl<|rt ?_
    cases h;exact Z47 (i:=0) Tryz.results64 rfl (Z5 rfl) rfl
   ·refine sk<|sq<|SR<|Mk rfl<|Nl<|bk<|LG (d:=[]) (ν:=Nat×Nat) (fun (m12,i11)=>(Cnt 4 i11 m12∧Zka w1 x7 m12 i11=some r,m12,[(0,Za g2 (Lens.id Z2g)),(5,Za g8 (Lens.id (Z1 Zt))),(34,rd (Z0 .i64) (i11:Int))],[(0,Zd g2 gT Z2g {w1 with Switch:={w1.Switch with Groups:=x7.1}}),(6,Zd g8 63 (Z1 Zt) x7.1)])) ((4:Int).toNat,0) ⟨Cnt.start _,h⟩ (FX rfl) ?_
    rintro ⟨m12,i11⟩ ⟨hsf1,h⟩
    dsimp only at hsf1 h ⊢
    cases m12 with
    | zero=>
     unfold Zka at h
     refine SR<|Ac (Zh rfl rfl (vt rfl) (vk rfl)) rfl<|Nl<|sq<|Cn rfl (fun hc=>absurd (of_decide_eq_true hc) hsf1.zero) (fun hc=>?_)
     refine xt<|SR<|Ac (Zn (A:=rd Z3y Err.no) rfl rfl (vne rfl)) rfl<|Nl<|rt ?_
     cases h;exact Z47 (i:=0) Tryz.results64 rfl (Z5 rfl) rfl
    | succ m12=>
     unfold Zka at h
     refine SR<|Ac (Zh rfl rfl (vt rfl) (vk rfl)) rfl<|Nl<|sq<|Cn rfl (fun hc=>?_) (fun hc=>absurd hsf1.succ (of_decide_eq_false hc))
     have hlti11:=of_decide_eq_true hc
     refine sk<|sq<|bk<|SR<|Md rfl<|As rfl<|Nl ?_
     cases h
theorem Ya4 {w:World}{H:HS}(h:Amb Tryz.prog w H):w.cell? ⟨0,0,none⟩=some (.iface 335 (.agg #[.pointer (some ⟨1,139,none⟩)])):=by
 obtain ⟨_,_,u,t,h1,h2,h3,h4⟩:=h 0 (by kernel_rfl)
 obtain rfl:=Option.some.inj ((show (Tryz.prog.cutTypes.find? (·.1=="internal/reflectlite.rtype")).map (·.2)=some 335 by kernel_rfl).symm.trans h1)
 have hm:t∈(List.range 469).filter fun t=>Tryz.prog.rowNamed t [101,114,114,111,114]:=List.mem_filter.2 ⟨List.mem_range.2 (by rw [←show Tryz.prog.types.size=469 by kernel_rfl];exact h2),h3⟩
 rw [show ((List.range 469).filter fun t=>Tryz.prog.rowNamed t [101,114,114,111,114])=[139] by kernel_rfl] at hm
 obtain rfl:=List.mem_singleton.1 hm
 rw [show typeHandle Tryz.prog 139= .pointer (some ⟨1,139,none⟩) by kernel_rfl] at h4
 exact h4
open Go.RowKit Go.Extern.Stop Go.Stop Go.Extern in
theorem Yd7 (t:Value)(w:World):Calls Tryz.prog 107 #[.nilIface,t] w fun e w'=>e= .returned (.bool false)∧w'=w:=by
 go_enter Tryz.func107,Tryz.ntmps107
 go_wp2
 go_ret
 exact ⟨rfl,rfl⟩
open Go.Extern in
theorem Y8k (h:Value)(w:World):(Go.method 569 335 (.agg #[h]) "Kind").run Tryz.prog w= .ok (321,h) w:=by kernel_rfl
theorem Ym2 (h:Value)(w:World):(Go.method 569 335 (.agg #[h]) "Elem").run Tryz.prog w= .ok (331,.agg #[h]) w:=by kernel_rfl
theorem Ykh (h:Value)(w:World):(Go.method 569 335 (.agg #[h]) "Implements").run Tryz.prog w= .ok (332,.agg #[h]) w:=by kernel_rfl
theorem Yiw (h:Value)(w:World):(Go.method 569 335 (.agg #[h]) "AssignableTo").run Tryz.prog w= .ok (329,.agg #[h]) w:=by kernel_rfl
open Go.Extern in
theorem Y18 (z:Sem Value)(f:TypeId→Addr→Nat→Nat→Sem Value)(v:Value):
  ReflectliteValue.method z f #[v]=(do match ←ReflectliteValue.parts v with | none=>z | some (t,a,fl)=>f t a fl (fl % 32)):=rfl
open Go.Extern in
theorem Yeq (v x:Value):ReflectliteValue.set #[v,x]=(do
  let (some (dst,a,fl),some (src,b,_)):=(←ReflectliteValue.parts v,←ReflectliteValue.parts x)
   | unsupported (.noEntry "extern/(internal/reflectlite.Value).Set.zeroValue")
  if fl / ReflectliteValue.flagAddr % 2==0 then unsupported (.noEntry "extern/(internal/reflectlite.Value).Set.unaddressable")
  let val ←loadVar src b
  if ←Rtype.directlyAssignable dst src then storeVar dst a val
  else if ←Rtype.implements dst src then
   if (←Rtype.kind src)==20 then
    match val with
    | .nilIface=>unsupported (.noEntry "extern/reflectlite: a nil value of one interface type handed on as a value of another")
    | _=>storeVar dst a val
   else storeVar dst a (.iface src val)
  else panicString ("reflectlite.Set: value of type "++(←Rtype.spelt src)++" is not assignable to type "++(←Rtype.spelt dst))
  pure (.tuple #[])):=rfl
section
open Go.RowKit Go.Extern.Stop Go.Stop Go.Extern
theorem Yap (t:Addr)(w:World):(ReflectliteValue.unpack (.iface 220 (.pointer (some t)))).run Tryz.prog w= .ok (.agg #[.pointer (some ⟨1,220,none⟩),.pointer (some ⟨w.heap.size,0,none⟩),.int .u64 150]) (w.alloc (.cells #[.pointer (some t)] 220)):=by kernel_rfl
theorem Ynh (a:Addr)(w:World):(ReflectliteValue.methodAny (ReflectliteValue.valueError "reflectlite.Value.Type" 0) (fun t _ _ _=>ReflectliteType.toType t) #[.agg #[.pointer (some ⟨1,220,none⟩),.pointer (some a),.int .u64 150]]).run Tryz.prog w= .ok (.iface 335 (.agg #[.pointer (some ⟨1,220,none⟩)])) w:=by kernel_rfl
theorem Y4o (w:World):((ReflectliteType.abiMethod fun t=>(fun a:Nat=>Value.int IntKind.u8 (a:Int))<$>Rtype.kind t) #[.pointer (some ⟨1,220,none⟩)]).run Tryz.prog w= .ok (.int .u8 22) w:=by kernel_rfl
theorem Yhc (w:World):((ReflectliteType.abiMethod fun t=>(fun a:Nat=>Value.int IntKind.u8 (a:Int))<$>Rtype.kind t) #[.pointer (some ⟨1,218,none⟩)]).run Tryz.prog w= .ok (.int .u8 25) w:=by kernel_rfl
theorem Y2v:Tryz.prog.underlying 220=some (.pointer 218):=by kernel_rfl
theorem Zxf (a:Addr)(w:World):(ReflectliteValue.parts (.agg #[.pointer (some ⟨1,220,none⟩),.pointer (some a),.int .u64 150])).run Tryz.prog w= .ok (some (220,a,150)) w:=by kernel_rfl
theorem Yd9 (a p:Addr)(W:World)(ha:W.cell? a=some (.pointer (some p))):
  (ReflectliteValue.method (ReflectliteValue.valueError "reflectlite.Value.IsNil" 0) ReflectliteValue.isNil #[.agg #[.pointer (some ⟨1,220,none⟩),.pointer (some a),.int .u64 150]]).run Tryz.prog W= .ok (.bool false) W:=by
 rw [Y18]
 simp only [Sem.run_bind,Zxf,Result.andThen]
 simp [ReflectliteValue.isNil,loadVar,isAgg,underlying,Y2v,ha,Result.andThen]
theorem Yh2 (w:World):(ReflectliteType.method ReflectliteType.elem #[.agg #[.pointer (some ⟨1,220,none⟩)]]).run Tryz.prog w= .ok (.iface 335 (.agg #[.pointer (some ⟨1,218,none⟩)])) w:=by kernel_rfl
theorem Yn9 (w:World):(ReflectliteType.relation "Implements" ReflectliteType.implements_ #[.agg #[.pointer (some ⟨1,218,none⟩)],.iface 335 (.agg #[.pointer (some ⟨1,139,none⟩)])]).run Tryz.prog w= .ok (.bool true) w:=by kernel_rfl
theorem Ycp (v:Value)(w:World):(ReflectliteType.typeOf #[.iface 218 v]).run Tryz.prog w= .ok (.iface 335 (.agg #[.pointer (some ⟨1,218,none⟩)])) w:=by kernel_rfl
theorem Yoq (w:World):(ReflectliteType.relation "AssignableTo" ReflectliteType.assignableTo #[.agg #[.pointer (some ⟨1,218,none⟩)],.iface 335 (.agg #[.pointer (some ⟨1,218,none⟩)])]).run Tryz.prog w= .ok (.bool true) w:=by kernel_rfl
theorem Y5i (cs:Array Value)(w:World):(ReflectliteValue.unpack (.iface 218 (.agg cs))).run Tryz.prog w= .ok (.agg #[.pointer (some ⟨1,218,none⟩),.pointer (some ⟨w.heap.size,0,none⟩),.int .u64 153]) (w.alloc (.cells cs 218)):=by kernel_rfl
theorem Yog (w:World):(Rtype.elem? 220).run Tryz.prog w= .ok (some 218) w:=by kernel_rfl
theorem Y8y (p:Addr)(w:World):(ReflectliteValue.mk 218 p ReflectliteValue.flagAddr).run Tryz.prog w= .ok (.agg #[.pointer (some ⟨1,218,none⟩),.pointer (some p),.int .u64 409]) w:=by kernel_rfl
theorem Ybi (a p:Addr)(W:World)(ha:W.cell? a=some (.pointer (some p))):
  (ReflectliteValue.method (ReflectliteValue.valueError "reflectlite.Value.Elem" 0) ReflectliteValue.elem #[.agg #[.pointer (some ⟨1,220,none⟩),.pointer (some a),.int .u64 150]]).run Tryz.prog W
   = .ok (.agg #[.pointer (some ⟨1,218,none⟩),.pointer (some p),.int .u64 409]) W:=by
 rw [Y18]
 simp only [Sem.run_bind,Zxf,Result.andThen]
 simp [ReflectliteValue.elem,loadVar,isAgg,underlying,Y2v,ha,Result.andThen,Yog,Y8y]
theorem Y8z (a:Addr)(w:World):(ReflectliteValue.parts (.agg #[.pointer (some ⟨1,218,none⟩),.pointer (some a),.int .u64 409])).run Tryz.prog w= .ok (some (218,a,409)) w:=by kernel_rfl
theorem Ym3 (a:Addr)(w:World):(ReflectliteValue.parts (.agg #[.pointer (some ⟨1,218,none⟩),.pointer (some a),.int .u64 153])).run Tryz.prog w= .ok (some (218,a,153)) w:=by kernel_rfl
theorem Ynm (w:World):(Rtype.directlyAssignable 218 218).run Tryz.prog w= .ok true w:=by kernel_rfl
theorem Yij (g b:Nat)(cs cur:List Value)(W:World)(hl:cs.length=Kd.sz Z5i)(hl2:cur.length=Kd.sz Z5i)(h1:∀v∈cs,v.oneCell'=true)(hb:W.heap[b]? =some (.cells cs.toArray 218 (0,0)))(hg:W.heap[g]? =some (.cells cur.toArray 218 (0,0))):
  (ReflectliteValue.set #[.agg #[.pointer (some ⟨1,218,none⟩),.pointer (some ⟨g,0,none⟩),.int .u64 409],.agg #[.pointer (some ⟨1,218,none⟩),.pointer (some ⟨b,0,none⟩),.int .u64 153]]).run Tryz.prog W= .ok (.tuple #[]) (W.setRow g cs.toArray):=by
 have h2:=Y4u (P:=Tryz.prog) Y4g rfl hl h1 hb
 have h3:=Y4x (P:=Tryz.prog) Y4g rfl hl hl2 h1 hg
 rw [Yeq]
 simp only [Sem.run_bind,Y8z,Ym3,Result.andThen]
 simp [ReflectliteValue.flagAddr,h2,h3,Result.andThen,Ynm]
set_option maxHeartbeats 4000000 in
theorem Yjk (g:Nat)(cs cur:List Value)(w:World)(hg:w.cell? ⟨0,0,none⟩=some (.iface 335 (.agg #[.pointer (some ⟨1,139,none⟩)])))(hl:cs.length=Kd.sz Z5i)(hl2:cur.length=Kd.sz Z5i)(h1:∀v∈cs,v.oneCell'=true)(hc:w.heap[g]? =some (.cells cur.toArray 218 (0,0))):
  Calls Tryz.prog 107 #[.iface 218 (.agg cs.toArray),.iface 220 (.pointer (some ⟨g,0,none⟩))] w fun ev w'=>ev= .returned (.bool true)∧∃o1 o2 o3 o4,w'=((((w.alloc o1).alloc o2).alloc o3).alloc o4).setRow g cs.toArray:=by
 have h6:= @run_callFunc_extern Tryz.prog 162 _ (fun args=>ReflectliteValue.unpack (args.getD 0 (.tuple #[]))) Tryz.func162 (by kernel_rfl) (by kernel_rfl) (by kernel_rfl) (by kernel_rfl)
 have h7:= @run_callFunc_extern Tryz.prog 163 _ (ReflectliteValue.methodAny (ReflectliteValue.valueError "reflectlite.Value.Type" 0) (fun t _ _ _=>ReflectliteType.toType t)) Tryz.func163 (by kernel_rfl) (by kernel_rfl) (by kernel_rfl) (by kernel_rfl)
 have h8:= @run_callFunc_extern Tryz.prog 164 _ (ReflectliteValue.method (ReflectliteValue.valueError "reflectlite.Value.IsNil" 0) ReflectliteValue.isNil) Tryz.func164 (by kernel_rfl) (by kernel_rfl) (by kernel_rfl) (by kernel_rfl)
 have h27:= @run_callFunc_extern Tryz.prog 321 _ (ReflectliteType.abiMethod fun t=>do pure (.int .u8 (←Rtype.kind t))) Tryz.func321 (by kernel_rfl) (by kernel_rfl) (by kernel_rfl) (by kernel_rfl)
 have h37:= @run_callFunc_extern Tryz.prog 331 _ (ReflectliteType.method ReflectliteType.elem) Tryz.func331 (by kernel_rfl) (by kernel_rfl) (by kernel_rfl) (by kernel_rfl)
 have h38:= @run_callFunc_extern Tryz.prog 332 _ (ReflectliteType.relation "Implements" ReflectliteType.implements_) Tryz.func332 (by kernel_rfl) (by kernel_rfl) (by kernel_rfl) (by kernel_rfl)
 have h10:= @run_callFunc_extern Tryz.prog 205 _ ReflectliteType.typeOf Tryz.func205 (by kernel_rfl) (by kernel_rfl) (by kernel_rfl) (by kernel_rfl)
 have h35:= @run_callFunc_extern Tryz.prog 329 _ (ReflectliteType.relation "AssignableTo" ReflectliteType.assignableTo) Tryz.func329 (by kernel_rfl) (by kernel_rfl) (by kernel_rfl) (by kernel_rfl)
 have h11:= @run_callFunc_extern Tryz.prog 206 _ (ReflectliteValue.method (ReflectliteValue.valueError "reflectlite.Value.Elem" 0) ReflectliteValue.elem) Tryz.func206 (by kernel_rfl) (by kernel_rfl) (by kernel_rfl) (by kernel_rfl)
 have h12:= @run_callFunc_extern Tryz.prog 207 _ ReflectliteValue.set Tryz.func207 (by kernel_rfl) (by kernel_rfl) (by kernel_rfl) (by kernel_rfl)
 have tO:=Ycp
 have mA:=Yiw
 have a25:=Yoq
 have v25:=Y5i cs.toArray
 have f6:=Yap
 have f7:=Ynh
 have mK:=Y8k
 have mE:=Ym2
 have mI:=Ykh
 have k27:=Y4o
 have k25:=Yhc
 have e27:=Yh2
 have i25:=Yn9
 have n8:=Yd9 ⟨w.heap.size,0,none⟩ ⟨g,0,none⟩ ((w.alloc (.cells #[.pointer (some ⟨g,0,none⟩)] 220)).alloc (.cells #[.pointer (some ⟨1,220,none⟩),.pointer (some ⟨w.heap.size,0,none⟩),.int .u64 150] 282)) (by simp)
 have hlt:0<w.heap.size:=by
  rcases Nat.lt_or_ge 0 w.heap.size with h | h
  ·exact h
  ·simp [World.cell?,Array.getElem?_eq_none h] at hg
 have hg2:((w.alloc (.cells #[.pointer (some ⟨g,0,none⟩)] 220)).alloc (.cells #[.pointer (some ⟨1,220,none⟩),.pointer (some ⟨w.heap.size,0,none⟩),.int .u64 150] 282)).cell? ⟨0,0,none⟩=some (.iface 335 (.agg #[.pointer (some ⟨1,139,none⟩)])):=by
  rw [World.cell?_alloc_lt _ _ ⟨0,0,none⟩ (by simp<;>omega),World.cell?_alloc_lt _ _ ⟨0,0,none⟩ hlt];exact hg
 have hgl:g<w.heap.size:=(Array.getElem?_eq_some_iff.1 hc).1
 have el:=Ybi ⟨w.heap.size,0,none⟩ ⟨g,0,none⟩ (((w.alloc (.cells #[.pointer (some ⟨g,0,none⟩)] 220)).alloc (.cells #[.pointer (some ⟨1,220,none⟩),.pointer (some ⟨w.heap.size,0,none⟩),.int .u64 150] 282)).alloc (.cells #[.pointer (some ⟨1,220,none⟩),.pointer (some ⟨w.heap.size,0,none⟩),.int .u64 150] 282)) (by rw [World.cell?_alloc_lt _ _ ⟨w.heap.size,0,none⟩ (by simp<;>omega)];simp)
 have st:=Yij g (w.heap.size+1+1+1) cs cur ((((w.alloc (.cells #[.pointer (some ⟨g,0,none⟩)] 220)).alloc (.cells #[.pointer (some ⟨1,220,none⟩),.pointer (some ⟨w.heap.size,0,none⟩),.int .u64 150] 282)).alloc (.cells #[.pointer (some ⟨1,220,none⟩),.pointer (some ⟨w.heap.size,0,none⟩),.int .u64 150] 282)).alloc (.cells cs.toArray 218)) hl hl2 h1
  (Y7o w _ _ _ _) (Ynj w _ _ _ _ hgl hc)
 go_enter Tryz.func107,Tryz.ntmps107
 go_wp2
 refine wp_loop_rounds 1 ?_
 rw [rounds_succ]
 go_wp2
 go_ret
 exact ⟨rfl,_,_,_,_,rfl⟩
end
def Y2g:Err→state_refused→Option (Bool×state_refused)
 | .no,x=>some (false,x)
 | .e218 y,_=>some (true,y)
theorem Y5o (e:Err)(x:state_refused)(r:Bool×state_refused)(h:Y2g e x=some r)(g:Nat):Con Tryz.prog 107 [rd Z3y e,Zg (.iface 220 (.pointer (some ⟨g,0,none⟩)))] (Zd g 218 Z5i x) (fun _:Unit=>rd Z3 r.1) (fun _=>Zd g 218 Z5i r.2):=
 Ycq (A:=fun w=>w.cell? ⟨0,0,none⟩=some (.iface 335 (.agg #[.pointer (some ⟨1,139,none⟩)]))) rfl (fun hd=>by cases e<;>first | (cases hd;done) | (exact (Option.some.inj h).symm))
  (fun y hd=>by cases e<;>first | (cases hd;done) | (cases h;done) | (cases h;cases hd;exact ⟨rfl,rfl⟩)) (fun w H=>Ya4) Yd7 (fun cs cur w hA hl hl2 h1 hg=>Yjk g cs cur w hA hl hl2 h1 hg)
def Zlm (w1:state_work)(x2:Err):Option (Switch×Fault):=
 (Y2g x2 Zo3).bind fun a6=>(bif a6.1 then some ((⟨(Vector.replicate 4 []),[]⟩:Switch),a6.2.Fault) else some (w1.Switch,(⟨false,0,0⟩:Fault)))
theorem Y0i:Q2 Tryz.prog 63 (rp Z2g) (rd Z3y) (fun r=>Z0t (rd kSwitch r.1) (rd Z12 r.2)) Zlm:=fun w1 x2 r h=>I0 Tryz.func63 rfl Tryz.ntmps63 rfl fun w H Z=>by
 unfold Zlm at h
 refine SR<|Cv rfl (Zo 5 rfl rfl Z5v) fun g3=>Cv rfl (Zo 6 rfl rfl Z1t) fun g4=>Nl<|SR<|Cv rfl (Zo 7 rfl rfl Zts) fun g5=>Nl<|sq<|sq ?_
 obtain ⟨a6,ha6,h⟩:=Z6 h
 refine Rg<|Md rfl<|Ac (Yh1 rfl rfl Ydk rfl (vt rfl)) rfl<|Cv rfl (Z0y 7 (xs:=[.tmp 7,.tmp 8]) (Y5o _ _ _ ha6 _) Y7w rfl rfl ⟨(vt rfl),(vt rfl),trivial⟩ rfl) fun _u=>Nl<|Cq rfl h (fun h=>?_) (fun h=>?_)
 ·refine sq<|AR Z03 (by kernel_rfl)<|Sd (lo [] [] rfl fun S hs hr=>opb (⟨(Vector.replicate 4 []),[]⟩:Switch) Z5v rfl Zy3 (pn rfl))<|SFd lstate_refused_0 Yfc rfl<|Zu Z05 7 rfl<|SSt Z27 5 rfl<|SSt Z05 6 rfl<|Sn<|rt ?_
  cases h;exact Z0c Tryz.results63 rfl (Zv rfl (i:=5) rfl Z27) (Zv rfl (i:=6) rfl Z05)
 ·refine sk<|SR<|Mr rfl<|Ac (Z1k rfl rfl (vt rfl)) rfl<|Fp lstate_work_0 Zap rfl<|Lp1 Z27 rfl<|Ac (opb (⟨false,0,0⟩:Fault) Z1t rfl Z41 (pn rfl)) rfl<|Ze Z27 5 rfl<|Ze Z05 6 rfl<|Nl<|rt ?_
  cases h;exact Z0c Tryz.results63 rfl (Zv rfl (i:=5) rfl Z27) (Zv rfl (i:=6) rfl Z05)
def Zv5 (s1:Switch)(m2:GroupMod):Option (Switch×Fault):=
 (Zls s1).bind fun x7=>(Zp2 (⟨x7⟩:state_work) m2).bind fun b9=>(Zlm b9.2 b9.1).bind fun x10=>some (x10.1,x10.2)
theorem Ydg:Q2 Tryz.prog 34 (rd kSwitch) (rd Z5m) (fun r=>Z0t (rd kSwitch r.1) (rd Z12 r.2)) Zv5:=fun s1 m2 r h=>I0 Tryz.func34 rfl Tryz.ntmps34 rfl fun w H Z=>by
 unfold Zv5 at h
 refine SR<|Cv rfl (Zm 3 rfl rfl (vt rfl)) fun g3=>Cv rfl (Zm 4 rfl rfl (vt rfl)) fun g4=>Cv rfl (Zo 5 rfl rfl Z5v) fun g5=>Cv rfl (Zo 6 rfl rfl Z1t) fun g6=>Nl<|sq ?_
 obtain ⟨x7,hx7,h⟩:=Z6 h
 refine Rg<|Ld Z27 3 rfl<|Cl [7] (Zzr _ _ hx7) e62 rfl<|Ac (opb (⟨x7⟩:state_work) Zsy rfl Zp5 (pc Zv3 (vt rfl)<|pn rfl)) rfl<|Cv rfl (Zm 11 rfl rfl (vt rfl)) fun g8=>Ac (Zn (A:=Za g8 (Lens.id Z2g)) rfl rfl (vt rfl)) rfl<|Nl<|sq ?_
 obtain ⟨b9,hb9,x10,hx10,h⟩:=bs2 h
 refine Rg<|Mp rfl<|Mp rfl<|Ld Zla 4 rfl<|Cv rfl (Z0y 11 (xs:=[.tmp 12,.tmp 13]) (Yl3 _ _ _ _ _ hb9) e64 rfl rfl ⟨vt rfl,vt rfl,trivial⟩ rfl) fun _u=>AOps.freezesB [6,10,11,12] 11 rfl ⟨rfl,rfl,rfl,rfl,trivial⟩ rfl<|Cl [11,14] (Y0i _ _ _ hx10) e63 rfl<|Ac (Z10 rfl rfl (vt rfl)) rfl<|Ac (Z0z rfl rfl (vt rfl)) rfl<|Ze Z27 5 rfl<|Ze Z05 6 rfl<|Nl<|rt ?_
 cases h;exact Z0c Tryz.results34 rfl (Zv rfl (i:=5) rfl Z27) (Zv rfl (i:=6) rfl Z05)
def Zdz (k1:Int)(x2:Int):Option Fault:=
 some (⟨true,k1,x2⟩:Fault)
theorem Zow:Q2 Tryz.prog 131 (rd (Z0 .i64)) (rd (Z0 .i64)) (rd Z12) Zdz:=fun k1 x2 r h=>I0 Tryz.func131 rfl Tryz.ntmps131 rfl fun w H Z=>by
 unfold Zdz at h
 refine SR<|Cv rfl (Zo 5 rfl rfl Z1t) fun g3=>Nl<|SR<|Md rfl<|Md rfl<|Ac (opb (⟨true,k1,x2⟩:Fault) Z1t rfl Z41 (pc Zc2 vb<|pc Zce (vt rfl)<|pc Zbu (vt rfl)<|pn rfl)) rfl<|Ze Z05 5 rfl<|Nl<|rt ?_
 cases h;exact Z9 Tryz.results131 rfl (Zv rfl (i:=5) rfl Z05)
def Zuq (m1:flowmod_mod):Option Bool:=
 some ((decide (m1.FlowMod.Command≥0))&&(decide (m1.FlowMod.Command≤2)))
theorem Yis:Q1 Tryz.prog 132 (rp Z33) (rd Z3) Zuq:=fun m1 r h=>I0 Tryz.func132 rfl Tryz.ntmps132 rfl fun w H Z=>by
 unfold Zuq at h
 refine SR<|Ab rfl<|Nl<|SR<|Mr rfl<|Ac (Z1k rfl rfl (vt rfl)) rfl<|Fp lflowmod_mod_0 Z3v rfl<|Fp lFlowMod_3 Z7e rfl<|Lp1 Zc rfl<|Ac (Z1z rfl rfl (vt rfl) (vk rfl)) rfl<|Md rfl<|Gd rfl (fun hq=>Zk (A:=rp Z33 m1) rfl rfl (vt rfl))<|Gd rfl (fun hq=>Z1k rfl rfl (Z8 rfl hq))<|Gd rfl (fun hq=>Z4n lflowmod_mod_0 rfl rfl Z3v (Z8 rfl hq))<|Gd rfl (fun hq=>Z4n lFlowMod_3 rfl rfl Z7e (Z8 rfl hq))<|Gd rfl (fun hq=>Z4i rfl rfl Zc (Z8 rfl hq))<|Gd rfl (fun hq=>Z50 rfl rfl (Z8 rfl hq) (vk rfl))<|Ac (Z0h rfl rfl (vt rfl) (vt rfl)) rfl<|As rfl<|Nl<|rt ?_
 cases h;exact Z9 Tryz.results132 rfl (Z5 rfl)
def Zdw (x1:Int):(List (BitVec 64))→Nat→(List Wide)→Option Need
 | [],i9,l7=>some (⟨x1,l7⟩:Need)
 | x11::l10,i9,l7=>(Z11 l7 [(⟨0,x11⟩:Wide)]).bind fun l12=>(Zdw x1 l10) (i9+1) l12
def Zgw (x1:Int)(x2:(List (BitVec 64))):Option Need:=
 Zdw x1 x2 0 []
theorem Zt7:Q2 Tryz.prog 255 (rd (Z0 .i64)) (rd (Z1 Zx)) (rd kNeed) Zgw:=fun x1 x2 r h=>I0 Tryz.func255 rfl Tryz.ntmps255 rfl fun w H Z=>by
 unfold Zgw at h
 refine SR<|Cv rfl (Zo 5 rfl rfl Zgk) fun g3=>Nl<|sq<|AW.newnil 2121 28 Zw<|Rg<|Md rfl<|Ac (opb (⟨x1,(.slice none 0 0)⟩:Need_o1) Y1d rfl Yox (pc Y6w (vt rfl)<|pn rfl)) rfl<|Cv rfl (Zo 6 rfl rfl Y1d) fun g4=>Ze Y7h 6 rfl<|Nl<|sq<|SR<|Md rfl<|Ac (Z07 rfl rfl Z51 (vt rfl)) rfl<|Mk rfl<|Nl<|bk<|LG (d:=[]) (ν:=(List (BitVec 64))×Nat×(List Wide)×Value) (fun (l10,i9,l7,v8)=>(Sfx x2 i9 l10∧Zdw x1 l10 i9 l7=some r,l10.length,[(4,Za g3 (Lens.id kNeed)),(5,Za g4 (Lens.id kNeed_o1)),(10,rd (Z1 Zx) x2),(11,rd (Z0 .i64) (x2.length:Int)),(12,rd (Z0 .i64) (i9:Int))],[(5,Zd g3 358 kNeed Zp0),(6,Zd g4 358 kNeed_o1 (⟨x1,v8⟩:Need_o1)),(2121,Zi v8 28 Zw l7)])) (x2,0,[],(.slice none 0 0)) ⟨Sfx.start _,h⟩ (FX rfl) ?_
 rintro ⟨l10,i9,l7,v8⟩ ⟨hsf1,h⟩
 dsimp only at hsf1 h ⊢
 cases l10 with
 | nil=>
  unfold Zdw at h
  refine SR<|Ac (Zh rfl rfl (vt rfl) (vt rfl)) rfl<|Nl<|sq<|Cn rfl (fun hc=>absurd (of_decide_eq_true hc) hsf1.nil) (fun hc=>?_)
  refine xt<|sq<|AW.freezeF 6 2121 kNeed (⟨x1,l7⟩:Need) rfl (by decide) rfl rfl (Ybz _ _)<|Rg<|Ac (Z08 (L:=(Lens.id kNeed)) rfl rfl Zav (vt rfl) (i:=6) rfl) rfl<|Ze Zav 5 rfl<|Nl<|rt ?_
  cases h;exact Z9 Tryz.results255 rfl (Zv rfl (i:=5) rfl Zav)
 | cons x11 l10=>
  unfold Zdw at h
  refine SR<|Ac (Zh rfl rfl (vt rfl) (vt rfl)) rfl<|Nl<|sq<|Cn rfl (fun hc=>?_) (fun hc=>absurd hsf1.cons (of_decide_eq_false hc))
  have hlti9:=of_decide_eq_true hc
  refine sk<|sq<|bk<|SR<|Ac (Z0d rfl rfl Z51 (vt rfl) (vt rfl) hsf1.lget) rfl<|Lp1 Z1q rfl<|As rfl<|Nl ?_
  obtain ⟨l12,hl12,h⟩:=Z6 h
  refine Rg<|Zf Zoe Zxd rfl<|Ac (Z3n v8 rfl rfl Zxt (vt rfl) (i:=6) rfl rfl) rfl<|Md rfl<|Ac (opb (⟨0,x11⟩:Wide) Z39 rfl Z5z (pc Z7y (vt rfl)<|pn rfl)) rfl<|Ac (osl Zk8 Z39 rfl (vt rfl)) rfl<|Cv rfl (Z1f 2121 hl12 rfl rfl Y9v (vt rfl) rfl (vt rfl)) fun v13=>Zf Zoe Zxd rfl<|Ac (Z3s rfl rfl Zxt (vt rfl) (i:=6) rfl (Zbo (i:=2121) rfl rfl)) rfl<|Nl<|Rg<|Ac (Z0a (t:=11) rfl rfl (vt rfl) (vk rfl) (vt rfl) hlti9) rfl<|Md rfl<|Nl ?_
  exact ⟨(_,_,_,_),Nat.lt_succ_self _,⟨hsf1.next,h⟩,FX rfl⟩
def Z7b (t1:(List (BitVec 64)))(p2:(List (BitVec 64))):Option (List Need):=
 (Zgw 4 t1).bind fun x3=>(bif (decide ((p2.length:Int)>0)) then (Zgw 9 p2).bind fun x5=>(Z11 [x3] [x5]).bind fun l6=>some l6 else some [x3])
theorem Z8w:Q2 Tryz.prog 256 (rd (Z1 Zx)) (rd (Z1 Zx)) (rd (Z1 kNeed)) Z7b:=fun t1 p2 r h=>I0 Tryz.func256 rfl Tryz.ntmps256 rfl fun w H Z=>by
 unfold Z7b at h
 refine SR<|Ac (Zn (A:=rd (Z1 kNeed) []) rfl rfl Z04) rfl<|Nl<|sq ?_
 obtain ⟨x3,hx3,h⟩:=Z6 h
 refine Rg<|Md rfl<|Ac (Zz (xs:=[.const (Value.int IntKind.i64 4),.tmp 6]) (Zt7 _ _ _ hx3) Zry rfl rfl ⟨vk rfl,vt rfl,trivial⟩) rfl<|Cv rfl (Z65 1001 (ps:=[(0,.tmp 7)]) (l:=[x3]) rfl rfl Zgl Zgk rfl rfl ⟨_,_,Lens.idx 1 kNeed 0 (by decide),_,rfl,vt rfl,rfl⟩ rfl) fun v4=>Aw rfl<|Nl<|sq<|SR<|Md rfl<|Ac (Z07 rfl rfl Z51 (vt rfl)) rfl<|Ac (Z1s rfl rfl (vt rfl) (vk rfl)) rfl<|Nl<|Cq rfl h (fun h=>?_) (fun h=>?_)
 ·obtain ⟨x5,hx5,l6,hl6,h⟩:=bs2 h
  refine Rg<|Mw rfl<|Md rfl<|Ac (Zz (xs:=[.const (Value.int IntKind.i64 9),.tmp 13]) (Zt7 _ _ _ hx5) Zry rfl rfl ⟨vk rfl,vt rfl,trivial⟩) rfl<|Ac (osl Zgl Zgk rfl (vt rfl)) rfl<|Cv rfl (Z1f 1001 hl6 rfl rfl Yaf (vt rfl) rfl (vt rfl)) fun v7=>Aw rfl<|Nl<|SR<|Mw rfl<|Aw rfl<|Nl<|AW.freezes [4,5,16,17] 1001 rfl ⟨rfl,rfl,rfl,rfl,trivial⟩ rfl<|rt ?_
  cases h;exact Z9 Tryz.results256 rfl (Z5 rfl)
 ·refine sk<|SR<|Mw rfl<|Aw rfl<|Nl<|AW.freezes [4,5,8,17] 1001 rfl ⟨rfl,rfl,rfl,rfl,trivial⟩ rfl<|rt ?_
  cases h;exact Z9 Tryz.results256 rfl (Z5 rfl)
end Go.Proofs.YtjppkmpecdbepaaGreatDoor.W
set_option maxHeartbeats 1000000
set_option maxRecDepth 4000
namespace Go.Proofs.YtjppkmpecdbepaaGreatDoor.W
open Go Go.Wb
theorem Z8j:Ent Tryz.prog 256:=Ent.mk Tryz.func256 rfl rfl
theorem Yh4:Ent Tryz.prog 285:=Ent.mk Tryz.func285 rfl rfl
theorem Yad:Ent Tryz.prog 257:=Ent.mk Tryz.func257 rfl rfl
theorem e218:Ent Tryz.prog 218:=Ent.mk Tryz.func218 rfl rfl
theorem Y86:Ent Tryz.prog 219:=Ent.mk Tryz.func219 rfl rfl
theorem Zya:Ent Tryz.prog 180:=Ent.mk Tryz.func180 rfl rfl
theorem Zsq:Ent Tryz.prog 131:=Ent.mk Tryz.func131 rfl rfl
theorem Ygj:Ent Tryz.prog 132:=Ent.mk Tryz.func132 rfl rfl
theorem Ydr:Ent Tryz.prog 133:=Ent.mk Tryz.func133 rfl rfl
def Zi0 (x1:Int)(x15:Bool):Option (List Need):=
 (bif x15 then (Z7b [(34525:BitVec 64)] []).bind fun x16=>some x16 else (bif (decide (x1=23)) then (Z7b [(34887:BitVec 64),(34888:BitVec 64)] []).bind fun x17=>some x17 else some []))
def Zfh (x1:Int)(x13:Bool):Option (List Need):=
 (bif x13 then (Z7b [(2054:BitVec 64)] []).bind fun x14=>some x14 else (bif (decide (x1=21)) then Zi0 x1 (decide (x1=21)) else Zi0 x1 (decide (x1=22))))
def Znb (x1:Int)(x11:Bool):Option (List Need):=
 (bif x11 then (Z7b [(2048:BitVec 64)] [(1:BitVec 64)]).bind fun x12=>some x12 else (bif (decide (x1=18)) then Zfh x1 (decide (x1=18)) else (bif (decide (x1=19)) then Zfh x1 (decide (x1=19)) else Zfh x1 (decide (x1=20)))))
def Znf (x1:Int)(x9:Bool):Option (List Need):=
 (bif x9 then (Z7b [(2048:BitVec 64),(34525:BitVec 64)] [(17:BitVec 64)]).bind fun x10=>some x10 else (bif (decide (x1=16)) then Znb x1 (decide (x1=16)) else Znb x1 (decide (x1=17))))
def Zjd (x1:Int)(x7:Bool):Option (List Need):=
 (bif x7 then (Z7b [(2048:BitVec 64),(34525:BitVec 64)] [(6:BitVec 64)]).bind fun x8=>some x8 else (bif (decide (x1=14)) then Znf x1 (decide (x1=14)) else Znf x1 (decide (x1=15))))
def Zmv (x1:Int)(x5:Bool):Option (List Need):=
 (bif x5 then (Z7b [(2048:BitVec 64)] []).bind fun x6=>some x6 else (bif (decide (x1=12)) then Zjd x1 (decide (x1=12)) else Zjd x1 (decide (x1=13))))
def Zdy (x1:Int)(x3:Bool):Option (List Need):=
 (bif x3 then (Z7b [(2048:BitVec 64),(34525:BitVec 64)] []).bind fun x4=>some x4 else (bif (decide (x1=10)) then Zmv x1 (decide (x1=10)) else Zmv x1 (decide (x1=11))))
def Zub (x1:Int):Option (List Need):=
 (bif (decide (x1=6)) then (Zgw 5 []).bind fun x2=>some [x2] else (bif (decide (x1=7)) then Zdy x1 (decide (x1=7)) else (bif (decide (x1=8)) then Zdy x1 (decide (x1=8)) else Zdy x1 (decide (x1=9)))))
theorem Y9l:Q1 Tryz.prog 218 (rd (Z0 .i64)) (rd (Z1 kNeed)) Zub:=fun x1 r h=>I0 Tryz.func218 rfl Tryz.ntmps218 rfl fun w H Z=>by
 unfold Zub at h
 refine SR<|Ac (Zn (A:=rd (Z1 kNeed) []) rfl rfl Z04) rfl<|Nl<|SR<|Ac (Zn (A:=rd Zx (2048:BitVec 64)) rfl rfl (vku (2048:BitVec 64) rfl)) rfl<|Ac (Zn (A:=rd Zx (34525:BitVec 64)) rfl rfl (vku (34525:BitVec 64) rfl)) rfl<|Nl<|sq<|SR<|Md rfl<|Nl<|bk<|SR<|Ac (Zy rfl rfl (vt rfl) (vk rfl)) rfl<|As rfl<|Nl<|Cq rfl h (fun h=>?_) (fun h=>?_)
 ·refine sq ?_
  obtain ⟨x2,hx2,h⟩:=Z6 h
  refine Rg<|Ac (Zz (xs:=[.const (Value.int IntKind.i64 5),.const (Value.slice none 0 0)]) (Zt7 _ _ _ hx2) Zry rfl rfl ⟨vk rfl,Z04,trivial⟩) rfl<|Ac (osl Zgl Zgk rfl (vt rfl)) rfl<|As rfl<|Nl<|rt ?_
  cases h;exact Z9 Tryz.results218 rfl (Z5 rfl)
 ·refine JN (d:=[]) (ν:=Bool) (fun x3=>(Zdy x1 x3=some r,[(3,rd Zx (2048:BitVec 64)),(4,rd Zx (34525:BitVec 64)),(5,rd (Z0 .i64) x1),(10,rd Z3 x3)],[])) ?hx1 ?hy1
  case hy1=>
   intro x3 h
   dsimp only at h ⊢
   unfold Zdy at h
   refine Cq rfl h (fun h=>?_) (fun h=>?_)
   ·refine sq ?_
    obtain ⟨x4,hx4,h⟩:=Z6 h
    refine Rg<|Md rfl<|Md rfl<|Ac (Z4x (ps:=[(0,.tmp 14),(1,.tmp 15)]) (l:=[(2048:BitVec 64),(34525:BitVec 64)]) rfl rfl Z51 Z6b rfl rfl ⟨_,_,Lens.idx 2 Zx 0 (by decide),_,rfl,vt rfl,_,_,Lens.idx 2 Zx 1 (by decide),_,rfl,vt rfl,rfl⟩ rfl) rfl<|Ac (Zz (xs:=[.tmp 16,.const (Value.slice none 0 0)]) (Z8w _ _ _ hx4) Z8j rfl rfl ⟨vt rfl,Z04,trivial⟩) rfl<|As rfl<|Nl<|rt ?_
    cases h;exact Z9 Tryz.results218 rfl (Z5 rfl)
   ·refine JN (d:=[]) (ν:=Bool) (fun x5=>(Zmv x1 x5=some r,[(3,rd Zx (2048:BitVec 64)),(4,rd Zx (34525:BitVec 64)),(5,rd (Z0 .i64) x1),(18,rd Z3 x5)],[])) ?hx2 ?hy2
    case hy2=>
     intro x5 h
     dsimp only at h ⊢
     unfold Zmv at h
     refine Cq rfl h (fun h=>?_) (fun h=>?_)
     ·refine sq ?_
      obtain ⟨x6,hx6,h⟩:=Z6 h
      refine Rg<|Md rfl<|Ac (osl Z51 Z6b rfl (vt rfl)) rfl<|Ac (Zz (xs:=[.tmp 22,.const (Value.slice none 0 0)]) (Z8w _ _ _ hx6) Z8j rfl rfl ⟨vt rfl,Z04,trivial⟩) rfl<|As rfl<|Nl<|rt ?_
      cases h;exact Z9 Tryz.results218 rfl (Z5 rfl)
     ·refine JN (d:=[]) (ν:=Bool) (fun x7=>(Zjd x1 x7=some r,[(3,rd Zx (2048:BitVec 64)),(4,rd Zx (34525:BitVec 64)),(5,rd (Z0 .i64) x1),(24,rd Z3 x7)],[])) ?hx3 ?hy3
      case hy3=>
       intro x7 h
       dsimp only at h ⊢
       unfold Zjd at h
       refine Cq rfl h (fun h=>?_) (fun h=>?_)
       ·refine sq ?_
        obtain ⟨x8,hx8,h⟩:=Z6 h
        refine Rg<|Md rfl<|Md rfl<|Ac (Z4x (ps:=[(0,.tmp 27),(1,.tmp 28)]) (l:=[(2048:BitVec 64),(34525:BitVec 64)]) rfl rfl Z51 Z6b rfl rfl ⟨_,_,Lens.idx 2 Zx 0 (by decide),_,rfl,vt rfl,_,_,Lens.idx 2 Zx 1 (by decide),_,rfl,vt rfl,rfl⟩ rfl) rfl<|Ac (osl Z51 Z6b rfl (vku (6:BitVec 64) rfl)) rfl<|Cl [29,30] (Z8w _ _ _ hx8) Z8j rfl<|As rfl<|Nl<|rt ?_
        cases h;exact Z9 Tryz.results218 rfl (Z5 rfl)
       ·refine JN (d:=[]) (ν:=Bool) (fun x9=>(Znf x1 x9=some r,[(3,rd Zx (2048:BitVec 64)),(4,rd Zx (34525:BitVec 64)),(5,rd (Z0 .i64) x1),(32,rd Z3 x9)],[])) ?hx4 ?hy4
        case hy4=>
         intro x9 h
         dsimp only at h ⊢
         unfold Znf at h
         refine Cq rfl h (fun h=>?_) (fun h=>?_)
         ·refine sq ?_
          obtain ⟨x10,hx10,h⟩:=Z6 h
          refine Rg<|Md rfl<|Md rfl<|Ac (Z4x (ps:=[(0,.tmp 35),(1,.tmp 36)]) (l:=[(2048:BitVec 64),(34525:BitVec 64)]) rfl rfl Z51 Z6b rfl rfl ⟨_,_,Lens.idx 2 Zx 0 (by decide),_,rfl,vt rfl,_,_,Lens.idx 2 Zx 1 (by decide),_,rfl,vt rfl,rfl⟩ rfl) rfl<|Ac (osl Z51 Z6b rfl (vku (17:BitVec 64) rfl)) rfl<|Cl [37,38] (Z8w _ _ _ hx10) Z8j rfl<|As rfl<|Nl<|rt ?_
          cases h;exact Z9 Tryz.results218 rfl (Z5 rfl)
         ·refine JN (d:=[]) (ν:=Bool) (fun x11=>(Znb x1 x11=some r,[(3,rd Zx (2048:BitVec 64)),(4,rd Zx (34525:BitVec 64)),(5,rd (Z0 .i64) x1),(40,rd Z3 x11)],[])) ?hx5 ?hy5
          case hy5=>
           intro x11 h
           dsimp only at h ⊢
           unfold Znb at h
           refine Cq rfl h (fun h=>?_) (fun h=>?_)
           ·refine sq ?_
            obtain ⟨x12,hx12,h⟩:=Z6 h
            refine Rg<|Md rfl<|Ac (osl Z51 Z6b rfl (vt rfl)) rfl<|Ac (osl Z51 Z6b rfl (vku (1:BitVec 64) rfl)) rfl<|Cl [44,45] (Z8w _ _ _ hx12) Z8j rfl<|As rfl<|Nl<|rt ?_
            cases h;exact Z9 Tryz.results218 rfl (Z5 rfl)
           ·refine JN (d:=[]) (ν:=Bool) (fun x13=>(Zfh x1 x13=some r,[(4,rd Zx (34525:BitVec 64)),(5,rd (Z0 .i64) x1),(47,rd Z3 x13)],[])) ?hx6 ?hy6
            case hy6=>
             intro x13 h
             dsimp only at h ⊢
             unfold Zfh at h
             refine Cq rfl h (fun h=>?_) (fun h=>?_)
             ·refine sq ?_
              obtain ⟨x14,hx14,h⟩:=Z6 h
              refine Rg<|Ac (osl Z51 Z6b rfl (vku (2054:BitVec 64) rfl)) rfl<|Ac (Zz (xs:=[.tmp 51,.const (Value.slice none 0 0)]) (Z8w _ _ _ hx14) Z8j rfl rfl ⟨vt rfl,Z04,trivial⟩) rfl<|As rfl<|Nl<|rt ?_
              cases h;exact Z9 Tryz.results218 rfl (Z5 rfl)
             ·refine JN (d:=[]) (ν:=Bool) (fun x15=>(Zi0 x1 x15=some r,[(4,rd Zx (34525:BitVec 64)),(5,rd (Z0 .i64) x1),(53,rd Z3 x15)],[])) ?hx7 ?hy7
              case hy7=>
               intro x15 h
               dsimp only at h ⊢
               unfold Zi0 at h
               refine Cq rfl h (fun h=>?_) (fun h=>?_)
               ·refine sq ?_
                obtain ⟨x16,hx16,h⟩:=Z6 h
                refine Rg<|Md rfl<|Ac (osl Z51 Z6b rfl (vt rfl)) rfl<|Ac (Zz (xs:=[.tmp 57,.const (Value.slice none 0 0)]) (Z8w _ _ _ hx16) Z8j rfl rfl ⟨vt rfl,Z04,trivial⟩) rfl<|As rfl<|Nl<|rt ?_
                cases h;exact Z9 Tryz.results218 rfl (Z5 rfl)
               ·refine SR<|Ac (Zy rfl rfl (vt rfl) (vk rfl)) rfl<|As rfl<|Nl<|Cq rfl h (fun h=>?_) (fun h=>?_)
                ·refine sq ?_
                 obtain ⟨x17,hx17,h⟩:=Z6 h
                 refine Rg<|Ac (Z4x (ps:=[(0,.const (Value.int IntKind.u64 34887)),(1,.const (Value.int IntKind.u64 34888))]) (l:=[(34887:BitVec 64),(34888:BitVec 64)]) rfl rfl Z51 Z6b rfl rfl ⟨_,_,Lens.idx 2 Zx 0 (by decide),_,rfl,vku (34887:BitVec 64) rfl,_,_,Lens.idx 2 Zx 1 (by decide),_,rfl,vku (34888:BitVec 64) rfl,rfl⟩ rfl) rfl<|Ac (Zz (xs:=[.tmp 61,.const (Value.slice none 0 0)]) (Z8w _ _ _ hx17) Z8j rfl rfl ⟨vt rfl,Z04,trivial⟩) rfl<|As rfl<|Nl<|rt ?_
                 cases h;exact Z9 Tryz.results218 rfl (Z5 rfl)
                ·refine sk<|SR<|Ac (Zn (A:=rd (Z1 kNeed) []) rfl rfl Z04) rfl<|Nl<|rt ?_
                 cases h;exact Z9 Tryz.results218 rfl (Z5 rfl)
              case hx7=>
               refine SR<|Ac (Zy rfl rfl (vt rfl) (vk rfl)) rfl<|As rfl<|Nl<|Cq rfl h (fun h=>?_) (fun h=>?_)
               ·refine sk ?_
                exact ⟨_,h,FX rfl⟩
               ·refine Rg<|Ac (Zy rfl rfl (vt rfl) (vk rfl)) rfl<|As rfl<|Nl ?_
                exact ⟨_,h,FX rfl⟩
            case hx6=>
             refine SR<|Ac (Zy rfl rfl (vt rfl) (vk rfl)) rfl<|As rfl<|Nl<|Cq rfl h (fun h=>?_) (fun h=>?_)
             ·refine sk ?_
              exact ⟨_,h,FX rfl⟩
             ·refine SR<|Ac (Zy rfl rfl (vt rfl) (vk rfl)) rfl<|As rfl<|Nl<|Cq rfl h (fun h=>?_) (fun h=>?_)
              ·refine sk ?_
               exact ⟨_,h,FX rfl⟩
              ·refine Rg<|Ac (Zy rfl rfl (vt rfl) (vk rfl)) rfl<|As rfl<|Nl ?_
               exact ⟨_,h,FX rfl⟩
          case hx5=>
           refine SR<|Ac (Zy rfl rfl (vt rfl) (vk rfl)) rfl<|As rfl<|Nl<|Cq rfl h (fun h=>?_) (fun h=>?_)
           ·refine sk ?_
            exact ⟨_,h,FX rfl⟩
           ·refine Rg<|Ac (Zy rfl rfl (vt rfl) (vk rfl)) rfl<|As rfl<|Nl ?_
            exact ⟨_,h,FX rfl⟩
        case hx4=>
         refine SR<|Ac (Zy rfl rfl (vt rfl) (vk rfl)) rfl<|As rfl<|Nl<|Cq rfl h (fun h=>?_) (fun h=>?_)
         ·refine sk ?_
          exact ⟨_,h,FX rfl⟩
         ·refine Rg<|Ac (Zy rfl rfl (vt rfl) (vk rfl)) rfl<|As rfl<|Nl ?_
          exact ⟨_,h,FX rfl⟩
      case hx3=>
       refine SR<|Ac (Zy rfl rfl (vt rfl) (vk rfl)) rfl<|As rfl<|Nl<|Cq rfl h (fun h=>?_) (fun h=>?_)
       ·refine sk ?_
        exact ⟨_,h,FX rfl⟩
       ·refine Rg<|Ac (Zy rfl rfl (vt rfl) (vk rfl)) rfl<|As rfl<|Nl ?_
        exact ⟨_,h,FX rfl⟩
    case hx2=>
     refine SR<|Ac (Zy rfl rfl (vt rfl) (vk rfl)) rfl<|As rfl<|Nl<|Cq rfl h (fun h=>?_) (fun h=>?_)
     ·refine sk ?_
      exact ⟨_,h,FX rfl⟩
     ·refine Rg<|Ac (Zy rfl rfl (vt rfl) (vk rfl)) rfl<|As rfl<|Nl ?_
      exact ⟨_,h,FX rfl⟩
  case hx1=>
   refine SR<|Ac (Zy rfl rfl (vt rfl) (vk rfl)) rfl<|As rfl<|Nl<|Cq rfl h (fun h=>?_) (fun h=>?_)
   ·refine sk ?_
    exact ⟨_,h,FX rfl⟩
   ·refine SR<|Ac (Zy rfl rfl (vt rfl) (vk rfl)) rfl<|As rfl<|Nl<|Cq rfl h (fun h=>?_) (fun h=>?_)
    ·refine sk ?_
     exact ⟨_,h,FX rfl⟩
    ·refine Rg<|Ac (Zy rfl rfl (vt rfl) (vk rfl)) rfl<|As rfl<|Nl ?_
     exact ⟨_,h,FX rfl⟩
def Zf7 (s1:(List Wide))(x2:Wide):Nat→Nat→Option Int
 | 0,i4=>some (-1)
 | m5+1,i4=>(lget s1 (i4:Int)).bind fun x6=>(bif (decide (x2=x6)) then some (i4:Int) else (Zf7 s1 x2 m5) (i4+1))
def Zq3 (s1:(List Wide))(x2:Wide):Option Int:=
 Zf7 s1 x2 ((s1.length:Int):Int).toNat 0
theorem Yc2:Q2 Tryz.prog 285 (rd (Z1 Zw)) (rd Zw) (rd (Z0 .i64)) Zq3:=fun s1 x2 r h=>I0 Tryz.func285 rfl Tryz.ntmps285 rfl fun w H Z=>by
 unfold Zq3 at h
 refine SR<|Cv rfl (Zm 4 rfl rfl (vt rfl)) fun g3=>Ak rfl<|Nl<|sq<|SR<|Md rfl<|Ac (Z07 rfl rfl Zk8 (vt rfl)) rfl<|Mk rfl<|Nl<|bk<|LG (d:=[]) (ν:=Nat×Nat) (fun (m5,i4)=>(Cnt (s1.length:Int) i4 m5∧Zf7 s1 x2 m5 i4=some r,m5,[(0,rd (Z1 Zw) s1),(3,Za g3 (Lens.id Zw)),(7,rd (Z0 .i64) (s1.length:Int)),(8,rd (Z0 .i64) (i4:Int))],[(4,Zd g3 28 Zw x2)])) (((s1.length:Int):Int).toNat,0) ⟨Cnt.start _,h⟩ (FX rfl) ?_
 rintro ⟨m5,i4⟩ ⟨hsf1,h⟩
 dsimp only at hsf1 h ⊢
 cases m5 with
 | zero=>
  unfold Zf7 at h
  refine SR<|Ac (Zh rfl rfl (vt rfl) (vt rfl)) rfl<|Nl<|sq<|Cn rfl (fun hc=>absurd (of_decide_eq_true hc) hsf1.zero) (fun hc=>?_)
  refine xt<|SR<|Ak rfl<|Nl<|rt ?_
  cases h;exact Z9 Tryz.results285 rfl (Z5 rfl)
 | succ m5=>
  unfold Zf7 at h
  refine SR<|Ac (Zh rfl rfl (vt rfl) (vt rfl)) rfl<|Nl<|sq<|Cn rfl (fun hc=>?_) (fun hc=>absurd hsf1.succ (of_decide_eq_false hc))
  have hlti4:=of_decide_eq_true hc
  refine sk<|sq<|bk<|SR<|Md rfl<|As rfl<|Nl<|sq ?_
  obtain ⟨x6,hx6,h⟩:=Z6 h
  refine AR Z03 (by kernel_rfl)<|Zu Z06 4 rfl<|SMd rfl<|SMd rfl<|Sd (lo [12,13] [] rfl fun S hs hr=>Z0d rfl rfl Zk8 (vh hs 12 rfl rfl) (vh hs 13 rfl rfl) hx6)<|SLp Z06 rfl<|Sd (lo [11,15] [] rfl fun S hs hr=>Z98 rfl rfl Zae (by decide) rfl Zum (vh hs 11 rfl rfl) (vh hs 15 rfl rfl))<|Sn<|Cq rfl h (fun h=>?_) (fun h=>?_)
  ·refine SR<|Md rfl<|As rfl<|Nl<|rt ?_
   cases h;exact Z9 Tryz.results285 rfl (Z5 rfl)
  ·refine sk<|Rg<|Ac (Z0a (t:=7) rfl rfl (vt rfl) (vk rfl) (vt rfl) hlti4) rfl<|Md rfl<|Nl ?_
   exact ⟨(_,_),Nat.lt_succ_self _,⟨hsf1.next,h⟩,FX rfl⟩
def Zud (s1:(List Wide))(x2:Wide):Option Bool:=
 (Zq3 s1 x2).bind fun x4=>some (decide (x4≥0))
theorem Yif:Q2 Tryz.prog 257 (rd (Z1 Zw)) (rd Zw) (rd Z3) Zud:=fun s1 x2 r h=>I0 Tryz.func257 rfl Tryz.ntmps257 rfl fun w H Z=>by
 unfold Zud at h
 refine SR<|Cv rfl (Zm 4 rfl rfl (vt rfl)) fun g3=>Ab rfl<|Nl<|sq ?_
 obtain ⟨x4,hx4,h⟩:=Z6 h
 refine Rg<|Md rfl<|Ld Z06 4 rfl<|Cl [5,6] (Yc2 _ _ _ hx4) Yh4 rfl<|Ac (Z1z rfl rfl (vt rfl) (vk rfl)) rfl<|As rfl<|Nl<|rt ?_
 cases h;exact Z9 Tryz.results257 rfl (Z5 rfl)
def Zqr (o1:Oxm)(n2:Need):Option Bool:=
 (opt ((((decide (o1.Field=n2.Field))==true)&&((decide ((n2.Values.length:Int)=0))==false))&&((!o1.Masked)==true)) (Zud n2.Values o1.Value)).bind fun x5=>some ((decide (o1.Field=n2.Field))&&((decide ((n2.Values.length:Int)=0))||((!o1.Masked)&&x5)))
theorem Yni:Q2 Tryz.prog 219 (rd Z0e) (rd kNeed) (rd Z3) Zqr:=fun o1 n2 r h=>I0 Tryz.func219 rfl Tryz.ntmps219 rfl fun w H Z=>by
 unfold Zqr at h
 refine SR<|Cv rfl (Zm 3 rfl rfl (vt rfl)) fun g3=>Cv rfl (Zm 4 rfl rfl (vt rfl)) fun g4=>Ab rfl<|Nl<|sq ?_
 obtain ⟨x5,hx5,h⟩:=Z6 h
 refine Rg<|Zf lOxm_0 Z45 rfl<|Ld Zc 3 rfl<|Zf Y03 Ycr rfl<|Ld Zc 4 rfl<|Ac (Zy rfl rfl (vt rfl) (vt rfl)) rfl<|Md rfl<|Gd rfl (fun hq=>Z0i Zup rfl rfl Zx0 (vt rfl))<|Gd rfl (fun hq=>Z08 rfl rfl Y2p (Z8 rfl hq) (i:=4) rfl)<|Gd rfl (fun hq=>Z07 rfl rfl Zk8 (Z8 rfl hq))<|Gd rfl (fun hq=>Zy rfl rfl (Z8 rfl hq) (vk rfl))<|AOps.consG (OpG.guardX rfl rfl rfl rfl rfl fun hq=>Zk (A:=rd Z3 (decide ((n2.Values.length:Int)=0))) rfl rfl (Z8 rfl hq))<|AOps.consG (OpG.guardN rfl rfl rfl rfl rfl fun hq=>Z0i Z91 rfl rfl Z9x (vt rfl))<|AOps.consG (OpG.guardN rfl rfl rfl rfl rfl fun hq=>Z08 rfl rfl ty4 (Z8 rfl hq) (i:=3) rfl)<|AOps.consG (OpG.guardN rfl rfl rfl rfl rfl fun hq=>Z0g rfl rfl (Z8 rfl hq))<|AOps.consG (OpG.guardNX rfl rfl rfl rfl rfl fun hq=>Zk (A:=rd Z3 (!o1.Masked)) rfl rfl (Z8 rfl hq))<|AOps.consG (OpG.guardN rfl rfl rfl rfl rfl fun hq=>Z0i Zup rfl rfl Zx0 (vt rfl))<|AOps.consG (OpG.guardN rfl rfl rfl rfl rfl fun hq=>Z08 rfl rfl Y2p (Z8 rfl hq) (i:=4) rfl)<|AOps.consG (OpG.guardN rfl rfl rfl rfl rfl fun hq=>Z0i lOxm_2 rfl rfl Zbw (vt rfl))<|AOps.consG (OpG.guardN rfl rfl rfl rfl rfl fun hq=>Z08 rfl rfl Z06 (Z8 rfl hq) (i:=3) rfl)<|AOps.consG (OpG.guardN rfl rfl rfl rfl rfl fun hq=>Zz (xs:=[.tmp 21,.tmp 23]) (Yif _ _ _ (Zj8 hx5 hq)) Yad rfl rfl ⟨Z8 rfl hq,Z8 rfl hq,trivial⟩)<|AOps.consG (OpG.guardN rfl rfl rfl rfl rfl fun hq=>Z0h rfl rfl (vgx rfl hq) (vgw rfl hq))<|Gd rfl (fun hq=>Z1u rfl rfl (vgx rfl hq) (vgw rfl hq))<|Ac (Z0h rfl rfl (vt rfl) (vt rfl)) rfl<|As rfl<|Nl<|rt ?_
 cases h;exact Z9 Tryz.results219 rfl (Z5 rfl)
def Zfa (x6:Need)(go1:Nat→Option Bool)(i4:Nat):(List Oxm)→Nat→Option Bool
 | [],i8=>some false
 | x10::l9,i8=>(Zqr x10 x6).bind fun x12=>(bif x12 then go1 (i4+1) else (Zfa x6 go1 i4 l9) (i8+1))
def Zas (l1:(List Oxm)):(List Need)→Nat→Option Bool
 | [],i4=>some true
 | x6::l5,i4=>Zfa x6 (Zas l1 l5) i4 l1 0
def Zmf (l1:(List Oxm))(x2:Int):Option Bool:=
 (Zub x2).bind fun x3=>Zas l1 x3 0
theorem Zxq:Q2 Tryz.prog 180 (rd (Z1 Z0e)) (rd (Z0 .i64)) (rd Z3) Zmf:=fun l1 x2 r h=>I0 Tryz.func180 rfl Tryz.ntmps180 rfl fun w H Z=>by
 unfold Zmf at h
 refine SR<|Ab rfl<|Nl<|AW.scope<|sq<|AW.label<|sq<|sq ?_
 obtain ⟨x3,hx3,h⟩:=Z6 h
 refine Rg<|Md rfl<|Cl [9] (Y9l _ _ hx3) e218 rfl<|Ac (Z07 rfl rfl Zgl (vt rfl)) rfl<|Mk rfl<|Nl<|bk<|LG (d:=[]) (ν:=(List Need)×Nat) (fun (l5,i4)=>(Sfx x3 i4 l5∧Zas l1 l5 i4=some r,l5.length,[(0,rd (Z1 Z0e) l1),(10,rd (Z1 kNeed) x3),(11,rd (Z0 .i64) (x3.length:Int)),(12,rd (Z0 .i64) (i4:Int))],[])) (x3,0) ⟨Sfx.start _,h⟩ (FX rfl) ?_
 rintro ⟨l5,i4⟩ ⟨hsf1,h⟩
 dsimp only at hsf1 h ⊢
 cases l5 with
 | nil=>
  unfold Zas at h
  refine SR<|Ac (Zh rfl rfl (vt rfl) (vt rfl)) rfl<|Nl<|sq<|Cn rfl (fun hc=>absurd (of_decide_eq_true hc) hsf1.nil) (fun hc=>?_)
  refine xt<|SR<|Ab rfl<|Nl<|rt ?_
  cases h;exact Z9 Tryz.results180 rfl (Z5 rfl)
 | cons x6 l5=>
  unfold Zas at h
  refine SR<|Ac (Zh rfl rfl (vt rfl) (vt rfl)) rfl<|Nl<|sq<|Cn rfl (fun hc=>?_) (fun hc=>absurd hsf1.cons (of_decide_eq_false hc))
  have hlti4:=of_decide_eq_true hc
  refine sk<|sq<|bk<|SR<|Ac (Z0d rfl rfl Zgl (vt rfl) (vt rfl) hsf1.lget) rfl<|Lp1 Zav rfl<|Cv rfl (Zo 7 rfl rfl Zgk) fun g7=>Ze Zav 7 rfl<|Nl<|sq<|SR<|Md rfl<|Ac (Z07 rfl rfl Z4t (vt rfl)) rfl<|Mk rfl<|Nl<|bk<|LG (d:=[]) (ν:=(List Oxm)×Nat) (fun (l9,i8)=>(Sfx l1 i8 l9∧Zfa x6 (Zas l1 l5) i4 l9 i8=some r,l9.length,[(0,rd (Z1 Z0e) l1),(6,Za g7 (Lens.id kNeed)),(10,rd (Z1 kNeed) x3),(11,rd (Z0 .i64) (x3.length:Int)),(12,rd (Z0 .i64) (i4:Int)),(16,rd (Z1 Z0e) l1),(17,rd (Z0 .i64) (l1.length:Int)),(18,rd (Z0 .i64) (i8:Int))],[(7,Zd g7 358 kNeed x6)])) (l1,0) ⟨Sfx.start _,h⟩ (FX rfl) ?_
  rintro ⟨l9,i8⟩ ⟨hsf2,h⟩
  dsimp only at hsf2 h ⊢
  cases l9 with
  | nil=>
   unfold Zfa at h
   refine SR<|Ac (Zh rfl rfl (vt rfl) (vt rfl)) rfl<|Nl<|sq<|Cn rfl (fun hc=>absurd (of_decide_eq_true hc) hsf2.nil) (fun hc=>?_)
   refine xt<|SR<|Ab rfl<|Nl<|rt ?_
   cases h;exact Z9 Tryz.results180 rfl (Z5 rfl)
  | cons x10 l9=>
   unfold Zfa at h
   refine SR<|Ac (Zh rfl rfl (vt rfl) (vt rfl)) rfl<|Nl<|sq<|Cn rfl (fun hc=>?_) (fun hc=>absurd hsf2.cons (of_decide_eq_false hc))
   have hlti8:=of_decide_eq_true hc
   refine sk<|sq<|bk<|SR<|Ac (Z0d rfl rfl Z4t (vt rfl) (vt rfl) hsf2.lget) rfl<|Lp1 Z3m rfl<|Cv rfl (Zo 9 rfl rfl Z9h) fun g11=>Ze Z3m 9 rfl<|Nl<|sq ?_
   obtain ⟨x12,hx12,h⟩:=Z6 h
   refine Rg<|Ld Z3m 9 rfl<|Ld Zav 7 rfl<|Cl [22,23] (Yni _ _ _ hx12) Y86 rfl<|Nl<|Cq rfl h (fun h=>?_) (fun h=>?_)
   ·refine xt<|Rg<|Ac (Z0a (t:=11) rfl rfl (vt rfl) (vk rfl) (vt rfl) hlti4) rfl<|Md rfl<|Nl ?_
    exact ⟨(_,_),Nat.lt_succ_self _,⟨hsf1.next,h⟩,FX rfl⟩
   ·refine sk<|Rg<|Ac (Z0a (t:=17) rfl rfl (vt rfl) (vk rfl) (vt rfl) hlti8) rfl<|Md rfl<|Nl ?_
    exact ⟨(_,_),Nat.lt_succ_self _,⟨hsf2.next,h⟩,FX rfl⟩
def Zfu (m1:flowmod_mod):(List Action)→Nat→Option Bool
 | [],i3=>some true
 | x5::l4,i3=>(opt (decide (x5.Kind=25)) (Zmf m1.FlowMod.Match x5.Oxm.Field)).bind fun x7=>(bif ((decide (x5.Kind=25))&&(!x7)) then some false else (Zfu m1 l4) (i3+1))
def Zv4 (m1:flowmod_mod)(l2:(List Action)):Option Bool:=
 Zfu m1 l2 0
theorem Y7j:Q2 Tryz.prog 133 (rp Z33) (rd (Z1 Zj)) (rd Z3) Zv4:=fun m1 l2 r h=>I0 Tryz.func133 rfl Tryz.ntmps133 rfl fun w H Z=>by
 unfold Zv4 at h
 refine SR<|Ab rfl<|Nl<|sq<|SR<|Md rfl<|Ac (Z07 rfl rfl Z17 (vt rfl)) rfl<|Mk rfl<|Nl<|bk<|LG (d:=[]) (ν:=(List Action)×Nat) (fun (l4,i3)=>(Sfx l2 i3 l4∧Zfu m1 l4 i3=some r,l4.length,[(0,rp Z33 m1),(7,rd (Z1 Zj) l2),(8,rd (Z0 .i64) (l2.length:Int)),(9,rd (Z0 .i64) (i3:Int))],[])) (l2,0) ⟨Sfx.start _,h⟩ (FX rfl) ?_
 rintro ⟨l4,i3⟩ ⟨hsf1,h⟩
 dsimp only at hsf1 h ⊢
 cases l4 with
 | nil=>
  unfold Zfu at h
  refine SR<|Ac (Zh rfl rfl (vt rfl) (vt rfl)) rfl<|Nl<|sq<|Cn rfl (fun hc=>absurd (of_decide_eq_true hc) hsf1.nil) (fun hc=>?_)
  refine xt<|SR<|Ab rfl<|Nl<|rt ?_
  cases h;exact Z9 Tryz.results133 rfl (Z5 rfl)
 | cons x5 l4=>
  unfold Zfu at h
  refine SR<|Ac (Zh rfl rfl (vt rfl) (vt rfl)) rfl<|Nl<|sq<|Cn rfl (fun hc=>?_) (fun hc=>absurd hsf1.cons (of_decide_eq_false hc))
  have hlti3:=of_decide_eq_true hc
  refine sk<|sq<|bk<|SR<|Ac (Z0d rfl rfl Z17 (vt rfl) (vt rfl) hsf1.lget) rfl<|Lp1 Z0v rfl<|Cv rfl (Zo 7 rfl rfl Z48) fun g6=>Ze Z0v 7 rfl<|Nl<|sq ?_
  obtain ⟨x7,hx7,h⟩:=Z6 h
  refine AR Z03 (by kernel_rfl)<|SFd lAction_0 Z57 rfl<|Zu Zc 7 rfl<|Sd (lo [14] [] rfl fun S hs hr=>Zy rfl rfl (vh hs 14 rfl rfl) (vk rfl))<|SMd rfl<|Sd (lg [0,16] [] rfl fun hq S hs hr=>Zk (A:=rp Z33 m1) rfl rfl (vh hs 0 rfl rfl))<|Sd (lg [17,16] [] rfl fun hq S hs hr=>Z1k rfl rfl (Z8 ((hs 17 rfl).trans rfl) hq))<|Sd (lg [18,16] [] rfl fun hq S hs hr=>Z4n lflowmod_mod_0 rfl rfl Z3v (Z8 ((hs 18 rfl).trans rfl) hq))<|Sd (lg [19,16] [] rfl fun hq S hs hr=>Z4n lFlowMod_11 rfl rfl Zdx (Z8 ((hs 19 rfl).trans rfl) hq))<|Sd (lg [20,16] [] rfl fun hq S hs hr=>Z4i rfl rfl Z73 (Z8 ((hs 20 rfl).trans rfl) hq))<|Sd (lg [6,16] [] rfl fun hq S hs hr=>Z0i Z6g rfl rfl Z6r (vh hs 6 rfl rfl))<|Sd (lg [22,16] [] rfl fun hq S hs hr=>Z0i lOxm_0 rfl rfl Z45 (Z8 ((hs 22 rfl).trans rfl) hq))<|Sd (lg [23,16] [7] rfl fun hq S hs hr=>Z08 rfl rfl Zc (Z8 ((hs 23 rfl).trans rfl) hq) (i:=7) ((hr 7 rfl).trans rfl))<|Sd (lg [21,24,16] [] rfl fun hq S hs hr=>Zz (xs:=[.tmp 21,.tmp 24]) (Zxq _ _ _ (Z1p hx7 hq)) Zya rfl rfl ⟨Z8 ((hs 21 rfl).trans rfl) hq,Z8 ((hs 24 rfl).trans rfl) hq,trivial⟩)<|Sd (lg [25,16] [] rfl fun hq S hs hr=>Z0g rfl rfl (Z8 ((hs 25 rfl).trans rfl) hq))<|Sd (lo [26,16] [] rfl fun S hs hr=>Z0h rfl rfl (vh hs 16 rfl rfl) (vh hs 26 rfl rfl))<|Sn<|Cq rfl h (fun h=>?_) (fun h=>?_)
  ·refine SR<|Ab rfl<|Nl<|rt ?_
   cases h;exact Z9 Tryz.results133 rfl (Z5 rfl)
  ·refine sk<|Rg<|Ac (Z0a (t:=8) rfl rfl (vt rfl) (vk rfl) (vt rfl) hlti3) rfl<|Md rfl<|Nl ?_
   exact ⟨(_,_),Nat.lt_succ_self _,⟨hsf1.next,h⟩,FX rfl⟩
def Zez (x1:FlowMod):(List Inst)→Nat→Option Fault
 | [],i8=>some (⟨false,0,0⟩:Fault)
 | x10::l9,i8=>(Zv4 (⟨x1⟩:flowmod_mod) x10.Acts).bind fun x12=>(bif (!x12) then (Zdz 2 10).bind fun x13=>some x13 else (Zez x1 l9) (i8+1))
def Zl8 (x1:FlowMod):Option Fault:=
 (bif ((decide ((((⟨x1⟩:flowmod_mod).FlowMod).Command)<0))||(decide ((((⟨x1⟩:flowmod_mod).FlowMod).Command)>4))) then (Zdz 5 6).bind fun x5=>some x5 else (bif (decide ((((⟨x1⟩:flowmod_mod).FlowMod).Flags)>31)) then (Zdz 5 7).bind fun x6=>some x6 else (Zuq (⟨x1⟩:flowmod_mod)).bind fun x7=>(bif (!x7) then some (⟨false,0,0⟩:Fault) else Zez x1 (((⟨x1⟩:flowmod_mod).FlowMod).Insts) 0)))
theorem Y2h:Q1 Tryz.prog 81 (rd Z1b) (rd Z12) Zl8:=fun x1 r h=>I0 Tryz.func81 rfl Tryz.ntmps81 rfl fun w H Z=>by
 unfold Zl8 at h
 refine SR<|Cv rfl (Zm 2 rfl rfl (vt rfl)) fun g2=>Cv rfl (Zo 3 rfl rfl Z1t) fun g3=>Nl<|SR<|Ld Z3f 2 rfl<|Ac (opb (⟨x1⟩:flowmod_mod) Y2m rfl Zz6 (pc Zwv (vt rfl)<|pn rfl)) rfl<|Cv rfl (Zm 9 rfl rfl (vt rfl)) fun g4=>Ac (Zn (A:=Za g4 (Lens.id Z33)) rfl rfl (vt rfl)) rfl<|Nl<|sq<|bk<|SR<|Mp rfl<|Nc rfl<|Zf lflowmod_mod_0 Z3v rfl<|Zf lFlowMod_3 Z7e rfl<|Ld Zc 9 rfl<|Ac (Zh rfl rfl (vt rfl) (vk rfl)) rfl<|Md rfl<|Gd rfl (fun hq=>Zk (A:=Za g4 (Lens.id Z33)) rfl rfl (vt rfl))<|Gd rfl (fun hq=>Zv8 rfl rfl (Z8 rfl hq))<|Gd rfl (fun hq=>Z0i lflowmod_mod_0 rfl rfl Z3v (Z8 rfl hq))<|Gd rfl (fun hq=>Z0i lFlowMod_3 rfl rfl Z7e (Z8 rfl hq))<|Gd rfl (fun hq=>Z08 rfl rfl Zc (Z8 rfl hq) (i:=9) rfl)<|Gd rfl (fun hq=>Z1s rfl rfl (Z8 rfl hq) (vk rfl))<|Ac (Z1u rfl rfl (vt rfl) (vt rfl)) rfl<|As rfl<|Nl<|Cq rfl h (fun h=>?_) (fun h=>?_)
 ·refine sq ?_
  obtain ⟨x5,hx5,h⟩:=Z6 h
  refine Rg<|Ac (Zz (xs:=[.const (Value.int IntKind.i64 5),.const (Value.int IntKind.i64 6)]) (Zow _ _ _ hx5) Zsq rfl rfl ⟨vk rfl,vk rfl,trivial⟩) rfl<|Ze Z05 3 rfl<|Nl<|rt ?_
  cases h;exact Z9 Tryz.results81 rfl (Zv rfl (i:=3) rfl Z05)
 ·refine SR<|Mp rfl<|Nc rfl<|Zf lflowmod_mod_0 Z3v rfl<|Zf lFlowMod_10 Zh1 rfl<|Ld Zc 9 rfl<|Ac (Z1s rfl rfl (vt rfl) (vk rfl)) rfl<|As rfl<|Nl<|Cq rfl h (fun h=>?_) (fun h=>?_)
  ·refine sq ?_
   obtain ⟨x6,hx6,h⟩:=Z6 h
   refine Rg<|Ac (Zz (xs:=[.const (Value.int IntKind.i64 5),.const (Value.int IntKind.i64 7)]) (Zow _ _ _ hx6) Zsq rfl rfl ⟨vk rfl,vk rfl,trivial⟩) rfl<|Ze Z05 3 rfl<|Nl<|rt ?_
   cases h;exact Z9 Tryz.results81 rfl (Zv rfl (i:=3) rfl Z05)
  ·refine sq<|AW.freezesB [3,8,10,11,26,27] 9 rfl ⟨rfl,rfl,rfl,rfl,rfl,rfl,trivial⟩ rfl ?_
   obtain ⟨x7,hx7,h⟩:=Z6 h
   refine Rg<|Mr rfl<|Cl [34] (Yis _ _ hx7) Ygj rfl<|Ac (Z0g rfl rfl (vt rfl)) rfl<|As rfl<|Nl<|Cq rfl h (fun h=>?_) (fun h=>?_)
   ·refine SR<|Ac (opb (⟨false,0,0⟩:Fault) Z1t rfl Z41 (pn rfl)) rfl<|Ze Z05 3 rfl<|Nl<|rt ?_
    cases h;exact Z9 Tryz.results81 rfl (Zv rfl (i:=3) rfl Z05)
   ·refine sk<|sq<|SR<|Mr rfl<|Ac (Z1k rfl rfl (vt rfl)) rfl<|Fp lflowmod_mod_0 Z3v rfl<|Fp lFlowMod_12 Zd1 rfl<|Lp1 Z4r rfl<|Ac (Z07 rfl rfl Z46 (vt rfl)) rfl<|Mk rfl<|Nl<|bk<|LG (d:=[]) (ν:=(List Inst)×Nat) (fun (l9,i8)=>(Sfx (((⟨x1⟩:flowmod_mod).FlowMod).Insts) i8 l9∧Zez x1 l9 i8=some r,l9.length,[(2,Za g3 (Lens.id Z12)),(3,rp Z33 (⟨x1⟩:flowmod_mod)),(42,rd (Z1 Z0f) (((⟨x1⟩:flowmod_mod).FlowMod).Insts)),(43,rd (Z0 .i64) ((((⟨x1⟩:flowmod_mod).FlowMod).Insts).length:Int)),(44,rd (Z0 .i64) (i8:Int))],[(3,Zd g3 99 Z12 Z4g)])) ((((⟨x1⟩:flowmod_mod).FlowMod).Insts),0) ⟨Sfx.start _,h⟩ (FX rfl) ?_
    rintro ⟨l9,i8⟩ ⟨hsf1,h⟩
    dsimp only at hsf1 h ⊢
    cases l9 with
    | nil=>
     unfold Zez at h
     refine SR<|Ac (Zh rfl rfl (vt rfl) (vt rfl)) rfl<|Nl<|sq<|Cn rfl (fun hc=>absurd (of_decide_eq_true hc) hsf1.nil) (fun hc=>?_)
     refine xt<|SR<|Ac (opb (⟨false,0,0⟩:Fault) Z1t rfl Z41 (pn rfl)) rfl<|Ze Z05 3 rfl<|Nl<|rt ?_
     cases h;exact Z9 Tryz.results81 rfl (Zv rfl (i:=3) rfl Z05)
    | cons x10 l9=>
     unfold Zez at h
     refine SR<|Ac (Zh rfl rfl (vt rfl) (vt rfl)) rfl<|Nl<|sq<|Cn rfl (fun hc=>?_) (fun hc=>absurd hsf1.cons (of_decide_eq_false hc))
     have hlti8:=of_decide_eq_true hc
     refine sk<|sq<|bk<|SR<|Ac (Z0d rfl rfl Z46 (vt rfl) (vt rfl) hsf1.lget) rfl<|Lp1 Z2h rfl<|Cv rfl (Zo 6 rfl rfl Z44) fun g11=>Ze Z2h 6 rfl<|Nl<|sq ?_
     obtain ⟨x12,hx12,h⟩:=Z6 h
     refine Rg<|Mr rfl<|Zf lInst_4 Z4l rfl<|Ld Z2x 6 rfl<|Cl [48,50] (Y7j _ _ _ hx12) Ydr rfl<|Ac (Z0g rfl rfl (vt rfl)) rfl<|Nl<|Cq rfl h (fun h=>?_) (fun h=>?_)
     ·refine sq ?_
      obtain ⟨x13,hx13,h⟩:=Z6 h
      refine Rg<|Ac (Zz (xs:=[.const (Value.int IntKind.i64 2),.const (Value.int IntKind.i64 10)]) (Zow _ _ _ hx13) Zsq rfl rfl ⟨vk rfl,vk rfl,trivial⟩) rfl<|Ze Z05 3 rfl<|Nl<|rt ?_
      cases h;exact Z9 Tryz.results81 rfl (Zv rfl (i:=3) rfl Z05)
     ·refine sk<|Rg<|Ac (Z0a (t:=43) rfl rfl (vt rfl) (vk rfl) (vt rfl) hlti8) rfl<|Md rfl<|Nl ?_
      exact ⟨(_,_),Nat.lt_succ_self _,⟨hsf1.next,h⟩,FX rfl⟩
def Zjg (x1:Int):Option Bool:=
 some ((decide (x1=3))||(decide (x1=4)))
theorem Zvh:Q1 Tryz.prog 114 (rd (Z0 .i64)) (rd Z3) Zjg:=fun x1 r h=>I0 Tryz.func114 rfl Tryz.ntmps114 rfl fun w H Z=>by
 unfold Zjg at h
 refine SR<|Ab rfl<|Nl<|SR<|Md rfl<|Ac (Zy rfl rfl (vt rfl) (vk rfl)) rfl<|Md rfl<|Gd rfl (fun hq=>Zk (A:=rd (Z0 .i64) x1) rfl rfl (vt rfl))<|Gd rfl (fun hq=>Zy rfl rfl (Z8 rfl hq) (vk rfl))<|Ac (Z1u rfl rfl (vt rfl) (vt rfl)) rfl<|As rfl<|Nl<|rt ?_
 cases h;exact Z9 Tryz.results114 rfl (Z5 rfl)
def Ztc:Option Ztd:=
 some (Vector.set (Vector.set (Vector.set (Vector.set (Vector.set (Vector.set (Vector.set (Vector.set (Vector.set (Vector.replicate 9 0) 0 1 (by decide)) 1 1 (by decide)) 2 2 (by decide)) 3 2 (by decide)) 4 2 (by decide)) 5 4 (by decide)) 6 4 (by decide)) 7 4 (by decide)) 8 2 (by decide))
theorem Yay:Q0 Tryz.prog 76 (rd (Z4 9 (Z0 .i64))) Ztc:=fun r h=>I0 Tryz.func76 rfl Tryz.ntmps76 rfl fun w H Z=>by
 unfold Ztc at h
 refine SR<|Cv rfl (Zo 1 rfl rfl Zfz) fun g1=>Nl<|SR<|Ac (Z23 (ps:=[(0,.const (Value.int IntKind.i64 1)),(1,.const (Value.int IntKind.i64 1)),(2,.const (Value.int IntKind.i64 2)),(3,.const (Value.int IntKind.i64 2)),(4,.const (Value.int IntKind.i64 2)),(5,.const (Value.int IntKind.i64 4)),(6,.const (Value.int IntKind.i64 4)),(7,.const (Value.int IntKind.i64 4)),(8,.const (Value.int IntKind.i64 2))]) (x:=(Vector.set (Vector.set (Vector.set (Vector.set (Vector.set (Vector.set (Vector.set (Vector.set (Vector.set (Vector.replicate 9 0) 0 1 (by decide)) 1 1 (by decide)) 2 2 (by decide)) 3 2 (by decide)) 4 2 (by decide)) 5 4 (by decide)) 6 4 (by decide)) 7 4 (by decide)) 8 2 (by decide))) rfl rfl rfl (by kernel_rfl) Zfz ⟨_,_,Lens.idx 9 (Z0 .i64) 0 (by decide),_,by kernel_rfl,(vk rfl),_,_,Lens.idx 9 (Z0 .i64) 1 (by decide),_,by kernel_rfl,(vk rfl),_,_,Lens.idx 9 (Z0 .i64) 2 (by decide),_,by kernel_rfl,(vk rfl),_,_,Lens.idx 9 (Z0 .i64) 3 (by decide),_,by kernel_rfl,(vk rfl),_,_,Lens.idx 9 (Z0 .i64) 4 (by decide),_,by kernel_rfl,(vk rfl),_,_,Lens.idx 9 (Z0 .i64) 5 (by decide),_,by kernel_rfl,(vk rfl),_,_,Lens.idx 9 (Z0 .i64) 6 (by decide),_,by kernel_rfl,(vk rfl),_,_,Lens.idx 9 (Z0 .i64) 7 (by decide),_,by kernel_rfl,(vk rfl),_,_,Lens.idx 9 (Z0 .i64) 8 (by decide),_,by kernel_rfl,(vk rfl),rfl⟩) rfl<|Ze Zgx 1 rfl<|Nl<|rt ?_
 cases h;exact Z9 Tryz.results76 rfl (Zv rfl (i:=1) rfl Zgx)
end Go.Proofs.YtjppkmpecdbepaaGreatDoor.W
set_option maxHeartbeats 1000000
set_option maxRecDepth 4000
namespace Go.Proofs.YtjppkmpecdbepaaGreatDoor.W
open Go Go.Wb
theorem Y9u:Ent Tryz.prog 217:=Ent.mk Tryz.func217 rfl rfl
theorem Yje:Ent Tryz.prog 178:=Ent.mk Tryz.func178 rfl rfl
theorem Ygt:Ent Tryz.prog 177:=Ent.mk Tryz.func177 rfl rfl
theorem Y01:Ent Tryz.prog 179:=Ent.mk Tryz.func179 rfl rfl
theorem Ykm:Ent Tryz.prog 126:=Ent.mk Tryz.func126 rfl rfl
theorem Y9n:Ent Tryz.prog 128:=Ent.mk Tryz.func128 rfl rfl
def Zuu (m1:flowmod_mod):Option Ztd:=
 some (Vector.set (Vector.set (Vector.set (Vector.set (Vector.set (Vector.set (Vector.set (Vector.set (Vector.set (Vector.replicate 9 0) 0 m1.FlowMod.Table (by decide)) 1 m1.FlowMod.Command (by decide)) 2 m1.FlowMod.Idle (by decide)) 3 m1.FlowMod.Hard (by decide)) 4 m1.FlowMod.Priority (by decide)) 5 m1.FlowMod.Buffer (by decide)) 6 m1.FlowMod.OutPort (by decide)) 7 m1.FlowMod.OutGroup (by decide)) 8 m1.FlowMod.Flags (by decide))
theorem Y5l:Q1 Tryz.prog 77 (rp Z33) (rd (Z4 9 (Z0 .i64))) Zuu:=fun m1 r h=>I0 Tryz.func77 rfl Tryz.ntmps77 rfl fun w H Z=>by
 unfold Zuu at h
 refine SR<|Cv rfl (Zo 3 rfl rfl Zfz) fun g2=>Nl<|sq<|AR Z03 (by kernel_rfl)<|Sd (lo [0] [] rfl fun S hs hr=>Zk (A:=rp Z33 m1) rfl rfl (vh hs 0 rfl rfl))<|Sd (lo [3] [] rfl fun S hs hr=>Z1k rfl rfl (vh hs 3 rfl rfl))<|SFp lflowmod_mod_0 Z3v rfl<|SFp lFlowMod_2 Zf1 rfl<|SLp Zc rfl<|Sd (lo [0] [] rfl fun S hs hr=>Zk (A:=rp Z33 m1) rfl rfl (vh hs 0 rfl rfl))<|Sd (lo [8] [] rfl fun S hs hr=>Z1k rfl rfl (vh hs 8 rfl rfl))<|SFp lflowmod_mod_0 Z3v rfl<|SFp lFlowMod_3 Z7e rfl<|SLp Zc rfl<|Sd (lo [0] [] rfl fun S hs hr=>Zk (A:=rp Z33 m1) rfl rfl (vh hs 0 rfl rfl))<|Sd (lo [13] [] rfl fun S hs hr=>Z1k rfl rfl (vh hs 13 rfl rfl))<|SFp lflowmod_mod_0 Z3v rfl<|SFp lFlowMod_4 Zri rfl<|SLp Zc rfl<|Sd (lo [0] [] rfl fun S hs hr=>Zk (A:=rp Z33 m1) rfl rfl (vh hs 0 rfl rfl))<|Sd (lo [18] [] rfl fun S hs hr=>Z1k rfl rfl (vh hs 18 rfl rfl))<|SFp lflowmod_mod_0 Z3v rfl<|SFp lFlowMod_5 Zrz rfl<|SLp Zc rfl<|Sd (lo [0] [] rfl fun S hs hr=>Zk (A:=rp Z33 m1) rfl rfl (vh hs 0 rfl rfl))<|Sd (lo [23] [] rfl fun S hs hr=>Z1k rfl rfl (vh hs 23 rfl rfl))<|SFp lflowmod_mod_0 Z3v rfl<|SFp lFlowMod_6 Zrn rfl<|SLp Zc rfl<|Sd (lo [0] [] rfl fun S hs hr=>Zk (A:=rp Z33 m1) rfl rfl (vh hs 0 rfl rfl))<|Sd (lo [28] [] rfl fun S hs hr=>Z1k rfl rfl (vh hs 28 rfl rfl))<|SFp lflowmod_mod_0 Z3v rfl<|SFp lFlowMod_7 Yn3 rfl<|SLp Zc rfl<|Sd (lo [0] [] rfl fun S hs hr=>Zk (A:=rp Z33 m1) rfl rfl (vh hs 0 rfl rfl))<|Sd (lo [33] [] rfl fun S hs hr=>Z1k rfl rfl (vh hs 33 rfl rfl))<|SFp lflowmod_mod_0 Z3v rfl<|SFp lFlowMod_8 Zxz rfl<|SLp Zc rfl<|Sd (lo [0] [] rfl fun S hs hr=>Zk (A:=rp Z33 m1) rfl rfl (vh hs 0 rfl rfl))<|Sd (lo [38] [] rfl fun S hs hr=>Z1k rfl rfl (vh hs 38 rfl rfl))<|SFp lflowmod_mod_0 Z3v rfl<|SFp lFlowMod_9 Y3i rfl<|SLp Zc rfl<|Sd (lo [0] [] rfl fun S hs hr=>Zk (A:=rp Z33 m1) rfl rfl (vh hs 0 rfl rfl))<|Sd (lo [43] [] rfl fun S hs hr=>Z1k rfl rfl (vh hs 43 rfl rfl))<|SFp lflowmod_mod_0 Z3v rfl<|SFp lFlowMod_10 Zh1 rfl<|SLp Zc rfl<|Sd (lo [7,12,17,22,27,32,37,42,47] [] rfl fun S hs hr=>Z23 (ps:=[(0,.tmp 7),(1,.tmp 12),(2,.tmp 17),(3,.tmp 22),(4,.tmp 27),(5,.tmp 32),(6,.tmp 37),(7,.tmp 42),(8,.tmp 47)]) (x:=(Vector.set (Vector.set (Vector.set (Vector.set (Vector.set (Vector.set (Vector.set (Vector.set (Vector.set (Vector.replicate 9 0) 0 m1.FlowMod.Table (by decide)) 1 m1.FlowMod.Command (by decide)) 2 m1.FlowMod.Idle (by decide)) 3 m1.FlowMod.Hard (by decide)) 4 m1.FlowMod.Priority (by decide)) 5 m1.FlowMod.Buffer (by decide)) 6 m1.FlowMod.OutPort (by decide)) 7 m1.FlowMod.OutGroup (by decide)) 8 m1.FlowMod.Flags (by decide))) rfl rfl rfl (by kernel_rfl) Zfz ⟨_,_,Lens.idx 9 (Z0 .i64) 0 (by decide),_,by kernel_rfl,(vh hs 7 rfl rfl),_,_,Lens.idx 9 (Z0 .i64) 1 (by decide),_,by kernel_rfl,(vh hs 12 rfl rfl),_,_,Lens.idx 9 (Z0 .i64) 2 (by decide),_,by kernel_rfl,(vh hs 17 rfl rfl),_,_,Lens.idx 9 (Z0 .i64) 3 (by decide),_,by kernel_rfl,(vh hs 22 rfl rfl),_,_,Lens.idx 9 (Z0 .i64) 4 (by decide),_,by kernel_rfl,(vh hs 27 rfl rfl),_,_,Lens.idx 9 (Z0 .i64) 5 (by decide),_,by kernel_rfl,(vh hs 32 rfl rfl),_,_,Lens.idx 9 (Z0 .i64) 6 (by decide),_,by kernel_rfl,(vh hs 37 rfl rfl),_,_,Lens.idx 9 (Z0 .i64) 7 (by decide),_,by kernel_rfl,(vh hs 42 rfl rfl),_,_,Lens.idx 9 (Z0 .i64) 8 (by decide),_,by kernel_rfl,(vh hs 47 rfl rfl),rfl⟩)<|SSt Zgx 3 rfl<|Sn ?_
 refine rt ?_
 cases h;exact Z9 Tryz.results77 rfl (Zv rfl (i:=3) rfl Zgx)
def Zni (p1:Oxm)(x2:Oxm):Option Bool:=
 some (decide (p1.Field=x2.Field))
theorem Y6h:Q2 Tryz.prog 178 (rd Z0e) (rp Z0e) (rd Z3) Zni:=fun p1 x2 r h=>I0 Tryz.func178 rfl Tryz.ntmps178 rfl fun w H Z=>by
 unfold Zni at h
 refine SR<|Cv rfl (Zm 3 rfl rfl (vt rfl)) fun g3=>Ab rfl<|Nl<|SR<|Zf lOxm_0 Z45 rfl<|Ld Zc 3 rfl<|Fp lOxm_0 Z45 rfl<|Lp1 Zc rfl<|Ac (Zy rfl rfl (vt rfl) (vt rfl)) rfl<|As rfl<|Nl<|rt ?_
 cases h;exact Z9 Tryz.results178 rfl (Z5 rfl)
def Zft (s1:(List Oxm))(x2:(Oxm→Option Bool)):Nat→Nat→Option Int
 | 0,i3=>some (-1)
 | m4+1,i3=>(lget s1 (i3:Int)).bind fun x5=>(x2 x5).bind fun x6=>(bif x6 then some (i3:Int) else (Zft s1 x2 m4) (i3+1))
def Zuo (s1:(List Oxm))(x2:(Oxm→Option Bool)):Option Int:=
 Zft s1 x2 ((s1.length:Int):Int).toNat 0
theorem Ymb:Q2 Tryz.prog 217 (rd (Z1 Z0e)) (fn1 Tryz.prog Z0e Z3) (rd (Z0 .i64)) Zuo:=fun s1 x2 r h=>I0 Tryz.func217 rfl Tryz.ntmps217 rfl fun w H Z=>by
 unfold Zuo at h
 refine SR<|Ak rfl<|Nl<|sq<|SR<|Md rfl<|Ac (Z07 rfl rfl Z4t (vt rfl)) rfl<|Mk rfl<|Nl<|bk<|LG (d:=[]) (ν:=Nat×Nat) (fun (m4,i3)=>(Cnt (s1.length:Int) i3 m4∧Zft s1 x2 m4 i3=some r,m4,[(0,rd (Z1 Z0e) s1),(1,fn1 Tryz.prog Z0e Z3 x2),(7,rd (Z0 .i64) (s1.length:Int)),(8,rd (Z0 .i64) (i3:Int))],[])) (((s1.length:Int):Int).toNat,0) ⟨Cnt.start _,h⟩ (FX rfl) ?_
 rintro ⟨m4,i3⟩ ⟨hsf1,h⟩
 dsimp only at hsf1 h ⊢
 cases m4 with
 | zero=>
  unfold Zft at h
  refine SR<|Ac (Zh rfl rfl (vt rfl) (vt rfl)) rfl<|Nl<|sq<|Cn rfl (fun hc=>absurd (of_decide_eq_true hc) hsf1.zero) (fun hc=>?_)
  refine xt<|SR<|Ak rfl<|Nl<|rt ?_
  cases h;exact Z9 Tryz.results217 rfl (Z5 rfl)
 | succ m4=>
  unfold Zft at h
  refine SR<|Ac (Zh rfl rfl (vt rfl) (vt rfl)) rfl<|Nl<|sq<|Cn rfl (fun hc=>?_) (fun hc=>absurd hsf1.succ (of_decide_eq_false hc))
  have hlti3:=of_decide_eq_true hc
  refine sk<|sq<|bk<|SR<|Md rfl<|As rfl<|Nl<|sq ?_
  obtain ⟨x5,hx5,x6,hx6,h⟩:=bs2 h
  refine Rg<|Ac (Zk (A:=fn1 Tryz.prog Z0e Z3 x2) rfl rfl (vt rfl)) rfl<|Md rfl<|Md rfl<|Ac (Z0d rfl rfl Z4t (vt rfl) (vt rfl) hx5) rfl<|Lp1 Z3m rfl<|Ac (Z2z hx6 rfl rfl (vt rfl) (vt rfl)) rfl<|Nl<|Cq rfl h (fun h=>?_) (fun h=>?_)
  ·refine SR<|Md rfl<|As rfl<|Nl<|rt ?_
   cases h;exact Z9 Tryz.results217 rfl (Z5 rfl)
  ·refine sk<|Rg<|Ac (Z0a (t:=7) rfl rfl (vt rfl) (vk rfl) (vt rfl) hlti3) rfl<|Md rfl<|Nl ?_
   exact ⟨(_,_),Nat.lt_succ_self _,⟨hsf1.next,h⟩,FX rfl⟩
def Zq1 (s1:(List Oxm))(x2:(Oxm→Option Bool)):Option Bool:=
 (Zuo s1 x2).bind fun x3=>some (decide (x3≥0))
theorem Yeo:Q2 Tryz.prog 177 (rd (Z1 Z0e)) (fn1 Tryz.prog Z0e Z3) (rd Z3) Zq1:=fun s1 x2 r h=>I0 Tryz.func177 rfl Tryz.ntmps177 rfl fun w H Z=>by
 unfold Zq1 at h
 refine SR<|Ab rfl<|Nl<|sq ?_
 obtain ⟨x3,hx3,h⟩:=Z6 h
 refine Rg<|Md rfl<|Ac (Zk (A:=fn1 Tryz.prog Z0e Z3 x2) rfl rfl (vt rfl)) rfl<|Cl [5,6] (Ymb _ _ _ hx3) Y9u rfl<|Ac (Z1z rfl rfl (vt rfl) (vk rfl)) rfl<|As rfl<|Nl<|rt ?_
 cases h;exact Z9 Tryz.results177 rfl (Z5 rfl)
def Zl7 (x1:Int):Option Fault:=
 some (⟨true,4,x1⟩:Fault)
theorem Y0n:Q1 Tryz.prog 179 (rd (Z0 .i64)) (rd Z12) Zl7:=fun x1 r h=>I0 Tryz.func179 rfl Tryz.ntmps179 rfl fun w H Z=>by
 unfold Zl7 at h
 refine SR<|Cv rfl (Zo 3 rfl rfl Z1t) fun g2=>Nl<|SR<|Md rfl<|Ac (opb (⟨true,4,x1⟩:Fault) Z1t rfl Z41 (pc Zc2 vb<|pc Zce (vk rfl)<|pc Zbu (vt rfl)<|pn rfl)) rfl<|Ze Z05 3 rfl<|Nl<|rt ?_
 cases h;exact Z9 Tryz.results179 rfl (Zv rfl (i:=3) rfl Z05)
def Zgv (l1:(List Oxm)):(List Oxm)→Nat→Option Fault
 | [],i3=>some (⟨false,0,0⟩:Fault)
 | x5::l4,i3=>(Z5c l1 (i3:Int)).bind fun s7=>(Zq1 s7 (fun x=>Zni x x5)).bind fun x8=>(bif x8 then (Zl7 10).bind fun x9=>some x9 else (Z5c l1 (i3:Int)).bind fun s10=>(Zmf s10 x5.Field).bind fun x11=>(bif (!x11) then (Zl7 9).bind fun x12=>some x12 else (Zgv l1 l4) (i3+1)))
def Zqh (l1:(List Oxm)):Option Fault:=
 Zgv l1 l1 0
theorem Y5p:Q1 Tryz.prog 126 (rd (Z1 Z0e)) (rd Z12) Zqh:=fun l1 r h=>I0 Tryz.func126 rfl Tryz.ntmps126 rfl fun w H Z=>by
 unfold Zqh at h
 refine SR<|Cv rfl (Zo 3 rfl rfl Z1t) fun g2=>Nl<|sq<|SR<|Md rfl<|Ac (Z07 rfl rfl Z4t (vt rfl)) rfl<|Mk rfl<|Nl<|bk<|LG (d:=[]) (ν:=(List Oxm)×Nat) (fun (l4,i3)=>(Sfx l1 i3 l4∧Zgv l1 l4 i3=some r,l4.length,[(0,rd (Z1 Z0e) l1),(2,Za g2 (Lens.id Z12)),(5,rd (Z1 Z0e) l1),(6,rd (Z0 .i64) (l1.length:Int)),(7,rd (Z0 .i64) (i3:Int))],[(3,Zd g2 99 Z12 Z4g)])) (l1,0) ⟨Sfx.start _,h⟩ (FX rfl) ?_
 rintro ⟨l4,i3⟩ ⟨hsf1,h⟩
 dsimp only at hsf1 h ⊢
 cases l4 with
 | nil=>
  unfold Zgv at h
  refine SR<|Ac (Zh rfl rfl (vt rfl) (vt rfl)) rfl<|Nl<|sq<|Cn rfl (fun hc=>absurd (of_decide_eq_true hc) hsf1.nil) (fun hc=>?_)
  refine xt<|SR<|Ac (opb (⟨false,0,0⟩:Fault) Z1t rfl Z41 (pn rfl)) rfl<|Ze Z05 3 rfl<|Nl<|rt ?_
  cases h;exact Z9 Tryz.results126 rfl (Zv rfl (i:=3) rfl Z05)
 | cons x5 l4=>
  unfold Zgv at h
  refine SR<|Ac (Zh rfl rfl (vt rfl) (vt rfl)) rfl<|Nl<|sq<|Cn rfl (fun hc=>?_) (fun hc=>absurd hsf1.cons (of_decide_eq_false hc))
  have hlti3:=of_decide_eq_true hc
  refine sk<|sq<|bk<|SR<|Md rfl<|Ac (Z0d rfl rfl Z4t (vt rfl) (vt rfl) hsf1.lget) rfl<|Lp1 Z3m rfl<|Cv rfl (Zo 5 rfl rfl Z9h) fun g6=>As rfl<|Ze Z3m 5 rfl<|Nl<|sq<|sq<|AW.freezeB 4 5 rfl rfl rfl ?_
  obtain ⟨s7,hs7,x8,hx8,h⟩:=bs2 h
  refine Rg<|Md rfl<|Md rfl<|Ac (Zj9 hs7 rfl rfl Z4t (vt rfl) (vt rfl)) rfl<|Ac (Z30 (cs:=[.tmp 4]) (CAs:=[rp Z0e x5]) (fun x=>Zni x x5) rfl rfl Yje ⟨vt rfl,trivial⟩ (fun x y h=>Y6h _ _ y h)) rfl<|Cl [14,15] (Yeo _ _ _ hx8) Ygt rfl<|Nl<|Cq rfl h (fun h=>?_) (fun h=>?_)
  ·refine sq ?_
   obtain ⟨x9,hx9,h⟩:=Z6 h
   refine Rg<|Ac (Zz (xs:=[.const (Value.int IntKind.i64 10)]) (Y0n _ _ hx9) Y01 rfl rfl ⟨vk rfl,trivial⟩) rfl<|Ze Z05 3 rfl<|Nl<|rt ?_
   cases h;exact Z9 Tryz.results126 rfl (Zv rfl (i:=3) rfl Z05)
  ·refine sk<|sq ?_
   obtain ⟨s10,hs10,x11,hx11,h⟩:=bs2 h
   refine AR Z03 (by kernel_rfl)<|SMd rfl<|SMd rfl<|Sd (lo [18,19] [] rfl fun S hs hr=>Zj9 hs10 rfl rfl Z4t (vh hs 18 rfl rfl) (vh hs 19 rfl rfl))<|SFp lOxm_0 Z45 rfl<|SLp Zc rfl<|SCl [20,22] (Zxq _ _ _ hx11) Zya rfl<|Sd (lo [23] [] rfl fun S hs hr=>Z0g rfl rfl (vh hs 23 rfl rfl))<|Sn<|Cq rfl h (fun h=>?_) (fun h=>?_)
   ·refine sq ?_
    obtain ⟨x12,hx12,h⟩:=Z6 h
    refine Rg<|Ac (Zz (xs:=[.const (Value.int IntKind.i64 9)]) (Y0n _ _ hx12) Y01 rfl rfl ⟨vk rfl,trivial⟩) rfl<|Ze Z05 3 rfl<|Nl<|rt ?_
    cases h;exact Z9 Tryz.results126 rfl (Zv rfl (i:=3) rfl Z05)
   ·refine sk<|Rg<|Ac (Z0a (t:=6) rfl rfl (vt rfl) (vk rfl) (vt rfl) hlti3) rfl<|Md rfl<|Nl ?_
    exact ⟨(_,_),Nat.lt_succ_self _,⟨hsf1.next,h⟩,FX rfl⟩
def Znu (n1:Int):Option Int:=
 some (Z71 .andNot .i64 (IntKind.i64.wrap (n1+7)) 7)
theorem Ykk:Q1 Tryz.prog 128 (rd (Z0 .i64)) (rd (Z0 .i64)) Znu:=fun n1 r h=>I0 Tryz.func128 rfl Tryz.ntmps128 rfl fun w H Z=>by
 unfold Znu at h
 refine SR<|Ak rfl<|Nl<|SR<|Md rfl<|Ac (Z0o rfl rfl (vt rfl) (vk rfl)) rfl<|Ac (Y14 rfl rfl (vt rfl) (vk rfl)) rfl<|As rfl<|Nl<|rt ?_
 cases h;exact Z9 Tryz.results128 rfl (Z5 rfl)
def Ze8:(List Oxm)→Nat→(List Int)→Option ((List Int)×Int)
 | [],i10,l8=>(bif (decide ((l8.length:Int)>1004)) then some ([],1) else (Z3z l8 2).bind fun s12=>(Z3h [] (l8.length:Int) 2).bind fun x13=>(Znu ((cpy l8 (2:Int).toNat x13).length:Int)).bind fun x14=>(Zeq 0 (cpy l8 (2:Int).toNat x13) (IntKind.i64.wrap (x14 - ((cpy l8 (2:Int).toNat x13).length:Int)))).bind fun l15=>some (l15,0))
 | x17::l11,i10,l8=>(Zk6 x17).bind fun x19=>(bif (decide (x19.2≠0)) then some ([],x19.2) else (Z11 l8 x19.1).bind fun l20=>(Ze8 l11) (i10+1) l20)
def Zot (l1:(List Oxm)):Option ((List Int)×Int):=
 (Zqh l1).bind fun x2=>(bif x2.Is then some ([],1) else (Z3h [] 1 2).bind fun x3=>(Z3h x3 0 2).bind fun x4=>Ze8 l1 0 x4)
theorem Yjy:Q1 Tryz.prog 79 (rd (Z1 Z0e)) (fun r=>Z0t (rd (Z1 (Z0 .u8)) r.1) (rd (Z0 .i64) r.2)) Zot:=fun l1 r h=>I0 Tryz.func79 rfl Tryz.ntmps79 rfl fun w H Z=>by
 unfold Zot at h
 refine SR<|Ac (Zn (A:=rd (Z1 (Z0 .u8)) []) rfl rfl Z04) rfl<|Ak rfl<|Nl<|sq<|sq ?_
 obtain ⟨x2,hx2,h⟩:=Z6 h
 refine Rg<|Md rfl<|Cl [9] (Y5p _ _ hx2) Ykm rfl<|Ac (Z7o lFault_0 rfl rfl Zan Zoj ty4 rfl (vt rfl)) rfl<|Nl<|Cq rfl h (fun h=>?_) (fun h=>?_)
 ·refine SR<|Ac (Zn (A:=rd (Z1 (Z0 .u8)) []) rfl rfl Z04) rfl<|Ak rfl<|Nl<|rt ?_
  cases h;exact Z0c Tryz.results79 rfl (Z5 rfl) (Z5 rfl)
 ·refine sk<|sq ?_
  obtain ⟨x3,hx3,x4,hx4,h⟩:=bs2 h
  refine Rg<|Ac (Zz (xs:=[.const (Value.slice none 0 0),.const (Value.int IntKind.i64 1),.const (Value.int IntKind.i64 2)]) (Zbn _ _ _ _ hx3) e70 rfl rfl ⟨Z04,vk rfl,vk rfl,trivial⟩) rfl<|Cv rfl (Z0y 1001 (xs:=[.tmp 12,.const (Value.int IntKind.i64 0),.const (Value.int IntKind.i64 2)]) (Z5p _ _ _ _ hx4) e70 rfl rfl ⟨vt rfl,vk rfl,vk rfl,trivial⟩ rfl) fun v5=>Aw rfl<|Nl<|sq<|SR<|Md rfl<|Ac (Z07 rfl rfl Z4t (vt rfl)) rfl<|Mk rfl<|Nl<|bk<|LG (d:=[]) (ν:=(List Oxm)×Nat×(List Int)×Value) (fun (l11,i10,l8,v9)=>(Sfx l1 i10 l11∧Ze8 l11 i10 l8=some r,l11.length,[(4,Zg v9),(14,rd (Z1 Z0e) l1),(15,rd (Z0 .i64) (l1.length:Int)),(16,rd (Z0 .i64) (i10:Int))],[(1001,Zi v9 5 (Z0 .u8) l8)])) (l1,0,x4,v5) ⟨Sfx.start _,h⟩ (FX rfl) ?_
  rintro ⟨l11,i10,l8,v9⟩ ⟨hsf1,h⟩
  dsimp only at hsf1 h ⊢
  cases l11 with
  | nil=>
   unfold Ze8 at h
   refine SR<|Ac (Zh rfl rfl (vt rfl) (vt rfl)) rfl<|Nl<|sq<|Cn rfl (fun hc=>absurd (of_decide_eq_true hc) hsf1.nil) (fun hc=>?_)
   refine xt<|sq<|SR<|Mw rfl<|Ac (Z2v 1001 rfl rfl Z3w (vt rfl) rfl) rfl<|Ac (Z1s rfl rfl (vt rfl) (vk rfl)) rfl<|Nl<|Cq rfl h (fun h=>?_) (fun h=>?_)
   ·refine SR<|Ac (Zn (A:=rd (Z1 (Z0 .u8)) []) rfl rfl Z04) rfl<|Ak rfl<|Nl<|rt ?_
    cases h;exact Z0c Tryz.results79 rfl (Z5 rfl) (Z5 rfl)
   ·refine sk<|sq ?_
    obtain ⟨s12,hs12,x13,hx13,h⟩:=bs2 h
    refine AR Z03 (by kernel_rfl)<|SMw rfl<|Sd (lo [35] [1001] rfl fun S hs hr=>Zn3 1001 hs12 rfl rfl Z3w (vh hs 35 rfl rfl) ((hr 1001 rfl).trans rfl) (vk rfl))<|SMw rfl<|Sd (lo [37] [1001] rfl fun S hs hr=>Z2v 1001 rfl rfl Z3w (vh hs 37 rfl rfl) ((hr 1001 rfl).trans rfl))<|Sd (lo [38] [] rfl fun S hs hr=>Zz (xs:=[.const (Value.slice none 0 0),.tmp 38,.const (Value.int IntKind.i64 2)]) (Zbn _ _ _ _ hx13) e70 rfl rfl ⟨Z04,vt ((hs 38 rfl).trans rfl),vk rfl,trivial⟩)<|Sd (Z18 (us:=[(40,rd (Z0 .i64) ((Nat.min (List.length x13) (List.length l8 - (2:Int).toNat):Nat):Int))]) (ur:=[(1001,Zi v9 5 (Z0 .u8) (cpy l8 (2:Int).toNat x13))]) [36,39] [1001] rfl fun S hs hr=>Y9e 1001 rfl rfl Z3w rfl (vh hs 36 rfl rfl) ((hr 1001 rfl).trans rfl) (Z8v hs12).2.1 (vh hs 39 rfl rfl))<|Sn<|sq ?_
    obtain ⟨x14,hx14,l15,hl15,h⟩:=bs2 h
    refine Rg<|Mw rfl<|Mw rfl<|Ac (Z2v 1001 rfl rfl Z3w (vt rfl) rfl) rfl<|Cl [43] (Ykk _ _ hx14) Y9n rfl<|Mw rfl<|Ac (Z2v 1001 rfl rfl Z3w (vt rfl) rfl) rfl<|Ac (Z14 rfl rfl (vt rfl) (vt rfl)) rfl<|Cv rfl (Zw6 1001 hl15 rfl rfl Z4q zr5 un3 (vt rfl) rfl (vt rfl)) fun v16=>Aw rfl<|Ak rfl<|Nl<|AW.freezes [2,48] 1001 rfl ⟨rfl,rfl,trivial⟩ rfl<|rt ?_
    cases h;exact Z0c Tryz.results79 rfl (Z5 rfl) (Z5 rfl)
  | cons x17 l11=>
   unfold Ze8 at h
   refine SR<|Ac (Zh rfl rfl (vt rfl) (vt rfl)) rfl<|Nl<|sq<|Cn rfl (fun hc=>?_) (fun hc=>absurd hsf1.cons (of_decide_eq_false hc))
   have hlti10:=of_decide_eq_true hc
   refine sk<|sq<|bk<|SR<|Ac (Z0d rfl rfl Z4t (vt rfl) (vt rfl) hsf1.lget) rfl<|Lp1 Z3m rfl<|Cv rfl (Zo 7 rfl rfl Z9h) fun g18=>Ze Z3m 7 rfl<|Nl<|sq ?_
   obtain ⟨x19,hx19,h⟩:=Z6 h
   refine Rg<|Ld Z3m 7 rfl<|Cl [21] (Zw9 _ _ hx19) Y4i rfl<|Mt2 rfl<|Ac (Z10 rfl rfl (vt rfl)) rfl<|Ac (Z0z rfl rfl (vt rfl)) rfl<|As rfl<|As rfl<|Nl<|sq<|SR<|Md rfl<|Ac (Z2j rfl rfl (vt rfl) (vk rfl)) rfl<|Nl<|Cq rfl h (fun h=>?_) (fun h=>?_)
   ·refine SR<|Md rfl<|Ac (Zn (A:=rd (Z1 (Z0 .u8)) []) rfl rfl Z04) rfl<|As rfl<|Nl<|rt ?_
    cases h;exact Z0c Tryz.results79 rfl (Z5 rfl) (Z5 rfl)
   ·refine sk ?_
    obtain ⟨l20,hl20,h⟩:=Z6 h
    refine Rg<|Mw rfl<|Md rfl<|Cv rfl (Z1f 1001 hl20 rfl rfl Z4q (vt rfl) rfl (vt rfl)) fun v21=>Aw rfl<|Nl<|Rg<|Ac (Z0a (t:=15) rfl rfl (vt rfl) (vk rfl) (vt rfl) hlti10) rfl<|Md rfl<|Nl ?_
    exact ⟨(_,_,_,_),Nat.lt_succ_self _,⟨hsf1.next,h⟩,FX rfl⟩
def Zoh (i1:Inst):Option Bool:=
 (opt (decide ((i1.Value.Hi||| i1.Mask.Hi)=(0:BitVec 64))) (Z7a i1.Value i1.Mask)).bind fun x3=>(opt (decide ((i1.Value.Hi||| i1.Mask.Hi)=(0:BitVec 64))) (Z7c x3)).bind fun x4=>some ((decide ((i1.Value.Hi||| i1.Mask.Hi)=(0:BitVec 64)))&&x4)
theorem Ynf:Q1 Tryz.prog 185 (rd Z0f) (rd Z3) Zoh:=fun i1 r h=>I0 Tryz.func185 rfl Tryz.ntmps185 rfl fun w H Z=>by
 unfold Zoh at h
 refine SR<|Cv rfl (Zm 2 rfl rfl (vt rfl)) fun g2=>Ab rfl<|Nl<|sq ?_
 obtain ⟨x3,hx3,x4,hx4,h⟩:=bs2 h
 refine Rg<|Zf Z7g Z8x rfl<|Zf lWide_0 Z5d rfl<|Ld Z1q 2 rfl<|Zf Z7r Z8d rfl<|Zf lWide_0 Z5d rfl<|Ld Z1q 2 rfl<|Ac (Zk0 rfl rfl (vt rfl) (vt rfl)) rfl<|Ac (Ziu rfl rfl (vt rfl) (vku (0:BitVec 64) rfl)) rfl<|Md rfl<|Gd rfl (fun hq=>Z0i Z7g rfl rfl Z8x (vt rfl))<|Gd rfl (fun hq=>Z08 rfl rfl Z06 (Z8 rfl hq) (i:=2) rfl)<|Gd rfl (fun hq=>Z0i Z7r rfl rfl Z8d (vt rfl))<|Gd rfl (fun hq=>Z08 rfl rfl Z06 (Z8 rfl hq) (i:=2) rfl)<|Gd rfl (fun hq=>Zz (xs:=[.tmp 13,.tmp 15]) (Z95 _ _ _ (Z1p hx3 hq)) Z8b rfl rfl ⟨Z8 rfl hq,Z8 rfl hq,trivial⟩)<|Gd rfl (fun hq=>Zz (xs:=[.tmp 16]) (Z9a _ _ (Z1p hx4 hq)) Z8q rfl rfl ⟨Z8 rfl hq,trivial⟩)<|Ac (Z0h rfl rfl (vt rfl) (vt rfl)) rfl<|As rfl<|Nl<|rt ?_
 cases h;exact Z9 Tryz.results185 rfl (Z5 rfl)
end Go.Proofs.YtjppkmpecdbepaaGreatDoor.W
set_option maxHeartbeats 1000000
set_option maxRecDepth 4000
namespace Go.Proofs.YtjppkmpecdbepaaGreatDoor.W
open Go Go.Wb
theorem Y87:Ent Tryz.prog 261:=Ent.mk Tryz.func261 rfl rfl
theorem Y73:Ent Tryz.prog 262:=Ent.mk Tryz.func262 rfl rfl
theorem Ycn:Ent Tryz.prog 224:=Ent.mk Tryz.func224 rfl rfl
theorem Yfs:Ent Tryz.prog 186:=Ent.mk Tryz.func186 rfl rfl
theorem Yjz:Ent Tryz.prog 185:=Ent.mk Tryz.func185 rfl rfl
theorem Y9y:Ent Tryz.prog 129:=Ent.mk Tryz.func129 rfl rfl
theorem Yjj:Ent Tryz.prog 130:=Ent.mk Tryz.func130 rfl rfl
theorem e76:Ent Tryz.prog 76:=Ent.mk Tryz.func76 rfl rfl
theorem e77:Ent Tryz.prog 77:=Ent.mk Tryz.func77 rfl rfl
theorem e79:Ent Tryz.prog 79:=Ent.mk Tryz.func79 rfl rfl
theorem e80:Ent Tryz.prog 80:=Ent.mk Tryz.func80 rfl rfl
theorem e81:Ent Tryz.prog 81:=Ent.mk Tryz.func81 rfl rfl
def Zdo (s2:(List Action))(x3:(Action→Action→Option Bool)):(List Action)→Nat→Option Bool
 | [],i4=>some true
 | x6::l5,i4=>(lget s2 (i4:Int)).bind fun x8=>(x3 x6 x8).bind fun x10=>(bif (!x10) then some false else (Zdo s2 x3 l5) (i4+1))
def Zvc (s1:(List Action))(s2:(List Action))(x3:(Action→Action→Option Bool)):Option Bool:=
 (bif (decide ((s1.length:Int)≠(s2.length:Int))) then some false else Zdo s2 x3 s1 0)
theorem Yce:Q3 Tryz.prog 261 (rd (Z1 Zj)) (rd (Z1 Zj)) (fn2 Tryz.prog Zj Zj Z3) (rd Z3) Zvc:=fun s1 s2 x3 r h=>I0 Tryz.func261 rfl Tryz.ntmps261 rfl fun w H Z=>by
 unfold Zvc at h
 refine SR<|Ab rfl<|Nl<|sq<|SR<|Md rfl<|Ac (Z07 rfl rfl Z17 (vt rfl)) rfl<|Md rfl<|Ac (Z07 rfl rfl Z17 (vt rfl)) rfl<|Ac (Z2j rfl rfl (vt rfl) (vt rfl)) rfl<|Nl<|Cq rfl h (fun h=>?_) (fun h=>?_)
 ·refine SR<|Ab rfl<|Nl<|rt ?_
  cases h;exact Z9 Tryz.results261 rfl (Z5 rfl)
 ·refine sk<|sq<|SR<|Md rfl<|Ac (Z07 rfl rfl Z17 (vt rfl)) rfl<|Mk rfl<|Nl<|bk<|LG (d:=[]) (ν:=(List Action)×Nat) (fun (l5,i4)=>(Sfx s1 i4 l5∧Zdo s2 x3 l5 i4=some r,l5.length,[(1,rd (Z1 Zj) s2),(2,fn2 Tryz.prog Zj Zj Z3 x3),(15,rd (Z1 Zj) s1),(16,rd (Z0 .i64) (s1.length:Int)),(17,rd (Z0 .i64) (i4:Int))],[])) (s1,0) ⟨Sfx.start _,h⟩ (FX rfl) ?_
  rintro ⟨l5,i4⟩ ⟨hsf1,h⟩
  dsimp only at hsf1 h ⊢
  cases l5 with
  | nil=>
   unfold Zdo at h
   refine SR<|Ac (Zh rfl rfl (vt rfl) (vt rfl)) rfl<|Nl<|sq<|Cn rfl (fun hc=>absurd (of_decide_eq_true hc) hsf1.nil) (fun hc=>?_)
   refine xt<|SR<|Ab rfl<|Nl<|rt ?_
   cases h;exact Z9 Tryz.results261 rfl (Z5 rfl)
  | cons x6 l5=>
   unfold Zdo at h
   refine SR<|Ac (Zh rfl rfl (vt rfl) (vt rfl)) rfl<|Nl<|sq<|Cn rfl (fun hc=>?_) (fun hc=>absurd hsf1.cons (of_decide_eq_false hc))
   have hlti4:=of_decide_eq_true hc
   refine sk<|sq<|bk<|SR<|Md rfl<|Ac (Z0d rfl rfl Z17 (vt rfl) (vt rfl) hsf1.lget) rfl<|Lp1 Z0v rfl<|Cv rfl (Zo 9 rfl rfl Z48) fun g7=>As rfl<|Ze Z0v 9 rfl<|Nl<|sq ?_
   obtain ⟨x8,hx8,h⟩:=Z6 h
   refine Rg<|Md rfl<|Md rfl<|Ac (Z0d rfl rfl Z17 (vt rfl) (vt rfl) hx8) rfl<|Lp1 Z0v rfl<|Cv rfl (Zo 10 rfl rfl Z48) fun g9=>Ze Z0v 10 rfl<|Nl<|sq ?_
   obtain ⟨x10,hx10,h⟩:=Z6 h
   refine Rg<|Ac (Zk (A:=fn2 Tryz.prog Zj Zj Z3 x3) rfl rfl (vt rfl)) rfl<|Ld Z0v 9 rfl<|Ld Z0v 10 rfl<|Ac (Z7w hx10 rfl rfl (vt rfl) (vt rfl) (vt rfl)) rfl<|Ac (Z0g rfl rfl (vt rfl)) rfl<|Nl<|Cq rfl h (fun h=>?_) (fun h=>?_)
   ·refine SR<|Ab rfl<|Nl<|rt ?_
    cases h;exact Z9 Tryz.results261 rfl (Z5 rfl)
   ·refine sk<|Rg<|Ac (Z0a (t:=16) rfl rfl (vt rfl) (vk rfl) (vt rfl) hlti4) rfl<|Md rfl<|Nl ?_
    exact ⟨(_,_),Nat.lt_succ_self _,⟨hsf1.next,h⟩,FX rfl⟩
def Zov (a1:Action)(b2:Action):Option Bool:=
 some (decide (a1=b2))
theorem Y9p:Q2 Tryz.prog 262 (rd Zj) (rd Zj) (rd Z3) Zov:=fun a1 b2 r h=>I0 Tryz.func262 rfl Tryz.ntmps262 rfl fun w H Z=>by
 unfold Zov at h
 refine SR<|Cv rfl (Zm 3 rfl rfl (vt rfl)) fun g3=>Cv rfl (Zm 4 rfl rfl (vt rfl)) fun g4=>Ab rfl<|Nl<|SR<|Ld Z0v 3 rfl<|Ld Z0v 4 rfl<|Ac (Z98 rfl rfl Y3u (by decide) rfl Zy1 (vt rfl) (vt rfl)) rfl<|As rfl<|Nl<|rt ?_
 cases h;exact Z9 Tryz.results262 rfl (Z5 rfl)
def Zsl (a1:(List Action))(b2:(List Action)):Option Bool:=
 (Zvc a1 b2 Zov).bind fun x3=>some x3
theorem Ymi:Q2 Tryz.prog 224 (rd (Z1 Zj)) (rd (Z1 Zj)) (rd Z3) Zsl:=fun a1 b2 r h=>I0 Tryz.func224 rfl Tryz.ntmps224 rfl fun w H Z=>by
 unfold Zsl at h
 refine SR<|Ab rfl<|Nl<|sq ?_
 obtain ⟨x3,hx3,h⟩:=Z6 h
 refine Rg<|Md rfl<|Md rfl<|Ac (Zz (xs:=[.tmp 5,.tmp 6,.func 262]) (Yce _ _ _ _ hx3) Y87 rfl rfl ⟨vt rfl,vt rfl,vf2 Y73 Y9p,trivial⟩) rfl<|As rfl<|Nl<|rt ?_
 cases h;exact Z9 Tryz.results224 rfl (Z5 rfl)
def Zvb (a1:Inst)(b2:Inst):Option Bool:=
 (opt ((((decide (a1.Kind=b2.Kind))&&(decide (a1.Table=b2.Table)))&&(decide (a1.Value=b2.Value)))&&(decide (a1.Mask=b2.Mask))) (Zsl a1.Acts b2.Acts)).bind fun x5=>some (((((decide (a1.Kind=b2.Kind))&&(decide (a1.Table=b2.Table)))&&(decide (a1.Value=b2.Value)))&&(decide (a1.Mask=b2.Mask)))&&x5)
theorem Yhz:Q2 Tryz.prog 186 (rd Z0f) (rd Z0f) (rd Z3) Zvb:=fun a1 b2 r h=>I0 Tryz.func186 rfl Tryz.ntmps186 rfl fun w H Z=>by
 unfold Zvb at h
 refine SR<|Cv rfl (Zm 3 rfl rfl (vt rfl)) fun g3=>Cv rfl (Zm 4 rfl rfl (vt rfl)) fun g4=>Ab rfl<|Nl<|sq ?_
 obtain ⟨x5,hx5,h⟩:=Z6 h
 refine Rg<|Zf lInst_0 Z5w rfl<|Ld Zc 3 rfl<|Zf lInst_0 Z5w rfl<|Ld Zc 4 rfl<|Ac (Zy rfl rfl (vt rfl) (vt rfl)) rfl<|Md rfl<|Gd rfl (fun hq=>Z0i Z5o rfl rfl Z5r (vt rfl))<|Gd rfl (fun hq=>Z08 rfl rfl Zc (Z8 rfl hq) (i:=3) rfl)<|Gd rfl (fun hq=>Z0i Z5o rfl rfl Z5r (vt rfl))<|Gd rfl (fun hq=>Z08 rfl rfl Zc (Z8 rfl hq) (i:=4) rfl)<|Gd rfl (fun hq=>Zy rfl rfl (Z8 rfl hq) (Z8 rfl hq))<|Ac (Z0h rfl rfl (vt rfl) (vt rfl)) rfl<|Md rfl<|Gd rfl (fun hq=>Z0i Z7g rfl rfl Z8x (vt rfl))<|Gd rfl (fun hq=>Z08 rfl rfl Z06 (Z8 rfl hq) (i:=3) rfl)<|Gd rfl (fun hq=>Z0i Z7g rfl rfl Z8x (vt rfl))<|Gd rfl (fun hq=>Z08 rfl rfl Z06 (Z8 rfl hq) (i:=4) rfl)<|Gd rfl (fun hq=>Z98 rfl rfl Zae (by decide) rfl Zum (Z8 rfl hq) (Z8 rfl hq))<|Ac (Z0h rfl rfl (vt rfl) (vt rfl)) rfl<|Md rfl<|Gd rfl (fun hq=>Z0i Z7r rfl rfl Z8d (vt rfl))<|Gd rfl (fun hq=>Z08 rfl rfl Z06 (Z8 rfl hq) (i:=3) rfl)<|Gd rfl (fun hq=>Z0i Z7r rfl rfl Z8d (vt rfl))<|Gd rfl (fun hq=>Z08 rfl rfl Z06 (Z8 rfl hq) (i:=4) rfl)<|Gd rfl (fun hq=>Z98 rfl rfl Zae (by decide) rfl Zum (Z8 rfl hq) (Z8 rfl hq))<|Ac (Z0h rfl rfl (vt rfl) (vt rfl)) rfl<|Md rfl<|Gd rfl (fun hq=>Z0i lInst_4 rfl rfl Z4l (vt rfl))<|Gd rfl (fun hq=>Z08 rfl rfl Z2x (Z8 rfl hq) (i:=3) rfl)<|Gd rfl (fun hq=>Z0i lInst_4 rfl rfl Z4l (vt rfl))<|Gd rfl (fun hq=>Z08 rfl rfl Z2x (Z8 rfl hq) (i:=4) rfl)<|Gd rfl (fun hq=>Zz (xs:=[.tmp 33,.tmp 35]) (Ymi _ _ _ (Z1p hx5 hq)) Ycn rfl rfl ⟨Z8 rfl hq,Z8 rfl hq,trivial⟩)<|Ac (Z0h rfl rfl (vt rfl) (vt rfl)) rfl<|As rfl<|Nl<|rt ?_
 cases h;exact Z9 Tryz.results186 rfl (Z5 rfl)
def Zbx (i1:Inst)(b5:Inst)(o6:Bool):Option Bool:=
 (opt o6 (Zvb i1 b5)).bind fun x7=>some (o6&&x7)
def Zll (i1:Inst)(x3:((List Int)×Int))(x9:Bool):Option Bool:=
 (bif x9 then Zbx i1 {(⟨i1.Kind,0,Z0r,Z0r,[]⟩:Inst) with Acts:=i1.Acts} (decide (x3.2=0)) else (bif (decide (i1.Kind=5)) then Zbx i1 (⟨i1.Kind,0,Z0r,Z0r,[]⟩:Inst) true else some false))
def Zqx (i1:Inst):Option Bool:=
 (Zca i1.Acts).bind fun x3=>(bif (decide (i1.Kind=1)) then Zbx i1 {(⟨i1.Kind,0,Z0r,Z0r,[]⟩:Inst) with Table:=i1.Table} ((decide (i1.Table≥0))&&(decide (i1.Table<255))) else (bif (decide (i1.Kind=2)) then (Zoh i1).bind fun x8=>Zbx i1 {{(⟨i1.Kind,0,Z0r,Z0r,[]⟩:Inst) with Value:=i1.Value} with Mask:=i1.Mask} x8 else (bif (decide (i1.Kind=3)) then Zll i1 x3 (decide (i1.Kind=3)) else Zll i1 x3 (decide (i1.Kind=4)))))
theorem Y9d:Q1 Tryz.prog 129 (rd Z0f) (rd Z3) Zqx:=fun i1 r h=>I0 Tryz.func129 rfl Tryz.ntmps129 rfl fun w H Z=>by
 unfold Zqx at h
 refine SR<|Cv rfl (Zm 2 rfl rfl (vt rfl)) fun g2=>Ab rfl<|Nl<|sq ?_
 obtain ⟨x3,hx3,h⟩:=Z6 h
 refine Rg<|Zf lInst_4 Z4l rfl<|Ld Z2x 2 rfl<|Cl [9] (Zi2 _ _ hx3) e69 rfl<|Mt2 rfl<|Ac (Z10 rfl rfl (vt rfl)) rfl<|Ac (Z0z rfl rfl (vt rfl)) rfl<|As rfl<|As rfl<|Nl<|SR<|Zf lInst_0 Z5w rfl<|Ld Zc 2 rfl<|Ac (opb (⟨i1.Kind,0,Z0r,Z0r,[]⟩:Inst) Z44 rfl Zo1 (pc Zza (vt rfl)<|pn rfl)) rfl<|Cv rfl (Zo 6 rfl rfl Z44) fun g4=>Ze Z2h 6 rfl<|Nl<|SR<|Ab rfl<|Nl ?_
 refine JN (d:=[]) (ν:=Inst×Bool) (fun (b5,o6)=>(Zbx i1 b5 o6=some r,[(1,Za g2 (Lens.id Z0f)),(5,Za g4 (Lens.id Z0f)),(6,rd Z3 o6)],[(2,Zd g2 115 Z0f i1),(6,Zd g4 115 Z0f b5)])) ?hx1 ?hy1
 case hy1=>
  rintro ⟨b5,o6⟩ h
  dsimp only at h ⊢
  unfold Zbx at h
  refine sq ?_
  obtain ⟨x7,hx7,h⟩:=Z6 h
  refine Rg<|Md rfl<|Md rfl<|Gd rfl (fun hq=>Z08 rfl rfl Z2h (vt rfl) (i:=2) rfl)<|Gd rfl (fun hq=>Z08 rfl rfl Z2h (vt rfl) (i:=6) rfl)<|Gd rfl (fun hq=>Zz (xs:=[.tmp 53,.tmp 54]) (Yhz _ _ _ (Z1p hx7 hq)) Yfs rfl rfl ⟨Z8 rfl hq,Z8 rfl hq,trivial⟩)<|Ac (Z0h rfl rfl (vt rfl) (vt rfl)) rfl<|As rfl<|Nl<|rt ?_
  cases h;exact Z9 Tryz.results129 rfl (Z5 rfl)
 case hx1=>
  refine SR<|Zf lInst_0 Z5w rfl<|Ld Zc 2 rfl<|Nl<|bk<|SR<|Ac (Zy rfl rfl (vt rfl) (vk rfl)) rfl<|As rfl<|Nl<|Cq rfl h (fun h=>?_) (fun h=>?_)
  ·refine AR Z03 (by kernel_rfl)<|SFd Z5o Z5r rfl<|Zu Zc 2 rfl<|SFd Z5o Z5r rfl<|Zu Zc 2 rfl<|Sd (lo [23] [] rfl fun S hs hr=>Z1z rfl rfl (vh hs 23 rfl rfl) (vk rfl))<|SMd rfl<|Sd (lg [1,25] [] rfl fun hq S hs hr=>Z0i Z5o rfl rfl Z5r (vh hs 1 rfl rfl))<|Sd (lg [26,25] [2] rfl fun hq S hs hr=>Z08 rfl rfl Zc (Z8 ((hs 26 rfl).trans rfl) hq) (i:=2) ((hr 2 rfl).trans rfl))<|Sd (lg [27,25] [] rfl fun hq S hs hr=>Zh rfl rfl (Z8 ((hs 27 rfl).trans rfl) hq) (vk rfl))<|Sd (lo [28,25] [] rfl fun S hs hr=>Z0h rfl rfl (vh hs 25 rfl rfl) (vh hs 28 rfl rfl))<|SFd Z5o Z5r rfl<|SSt Zc 6 rfl<|SAs rfl<|Sn ?_
   exact ⟨(_,_),h,FX rfl⟩
  ·refine SR<|Ac (Zy rfl rfl (vt rfl) (vk rfl)) rfl<|As rfl<|Nl<|Cq rfl h (fun h=>?_) (fun h=>?_)
   ·obtain ⟨x8,hx8,h⟩:=Z6 h
    refine AR Z03 (by kernel_rfl)<|SFd Z7g Z8x rfl<|Zu Z06 2 rfl<|SFd Z7r Z8d rfl<|Zu Z06 2 rfl<|Zu Z2h 2 rfl<|SCl [37] (Ynf _ _ hx8) Yjz rfl<|SFd Z7g Z8x rfl<|SSt Z06 6 rfl<|SFd Z7r Z8d rfl<|SSt Z06 6 rfl<|SAs rfl<|Sn ?_
    exact ⟨(_,_),h,FX rfl⟩
   ·refine JN (d:=[]) (ν:=Bool) (fun x9=>(Zll i1 x3 x9=some r,[(1,Za g2 (Lens.id Z0f)),(4,rd (Z0 .i64) x3.2),(5,Za g4 (Lens.id Z0f)),(6,rd Z3 true),(17,rd (Z0 .i64) i1.Kind),(41,rd Z3 x9)],[(2,Zd g2 115 Z0f i1),(6,Zd g4 115 Z0f (⟨i1.Kind,0,Z0r,Z0r,[]⟩:Inst))])) ?hx2 ?hy2
    case hy2=>
     intro x9 h
     dsimp only at h ⊢
     unfold Zll at h
     refine Cq rfl h (fun h=>?_) (fun h=>?_)
     ·refine Rg<|Zf lInst_4 Z4l rfl<|Ld Z2x 2 rfl<|Md rfl<|Ac (Zy rfl rfl (vt rfl) (vk rfl)) rfl<|Zf lInst_4 Z4l rfl<|Ze Z2x 6 rfl<|As rfl<|Nl ?_
      exact ⟨(_,_),h,FX rfl⟩
     ·refine SR<|Ac (Zy rfl rfl (vt rfl) (vk rfl)) rfl<|As rfl<|Nl<|Cq rfl h (fun h=>?_) (fun h=>?_)
      ·refine sk ?_
       exact ⟨(_,_),h,FX rfl⟩
      ·refine SR<|Ab rfl<|Nl<|rt ?_
       cases h;exact Z9 Tryz.results129 rfl (Z5 rfl)
    case hx2=>
     refine SR<|Ac (Zy rfl rfl (vt rfl) (vk rfl)) rfl<|As rfl<|Nl<|Cq rfl h (fun h=>?_) (fun h=>?_)
     ·refine sk ?_
      exact ⟨_,h,FX rfl⟩
     ·refine Rg<|Ac (Zy rfl rfl (vt rfl) (vk rfl)) rfl<|As rfl<|Nl ?_
      exact ⟨_,h,FX rfl⟩
def Znd (i1:Inst)(x8:Bool):Option (List Int):=
 (bif x8 then (Zca i1.Acts).bind fun x9=>(Z11 (List.replicate 4 (0:Int)) x9.1).bind fun l10=>some l10 else some (List.replicate 4 (0:Int)))
def Zs1 (i1:Inst):Option (List Int):=
 (bif (decide (i1.Kind=1)) then (lget (List.replicate 4 (0:Int)) 0).bind fun x5=>some (List.set (List.replicate 4 (0:Int)) (0:Int).toNat (IntKind.u8.wrap i1.Table)) else (bif (decide (i1.Kind=2)) then (Zci (List.replicate 4 (0:Int)) i1.Value 8).bind fun x6=>(Zci x6 i1.Mask 8).bind fun x7=>some x7 else (bif (decide (i1.Kind=3)) then Znd i1 (decide (i1.Kind=3)) else Znd i1 (decide (i1.Kind=4)))))
theorem Ymr:Q1 Tryz.prog 130 (rd Z0f) (rd (Z1 (Z0 .u8))) Zs1:=fun i1 r h=>I0 Tryz.func130 rfl Tryz.ntmps130 rfl fun w H Z=>by
 unfold Zs1 at h
 refine SR<|Cv rfl (Zm 2 rfl rfl (vt rfl)) fun g2=>Ac (Zn (A:=rd (Z1 (Z0 .u8)) []) rfl rfl Z04) rfl<|Nl<|SR<|Cv rfl (Ykq 1001 4 24 (by decide) rfl rfl Z4q zr5 (vk rfl) (vk rfl)) fun v4=>Aw rfl<|Nl<|sq<|SR<|Zf lInst_0 Z5w rfl<|Ld Zc 2 rfl<|Nl<|bk<|SR<|Ac (Zy rfl rfl (vt rfl) (vk rfl)) rfl<|As rfl<|Nl<|Cq rfl h (fun h=>?_) (fun h=>?_)
 ·obtain ⟨x5,hx5,h⟩:=Z6 h
  refine Rg<|Mw rfl<|Zf Z5o Z5r rfl<|Ld Zc 2 rfl<|Ac (Y2t rfl rfl us3 un5 (vt rfl)) rfl<|Ac (Z1w 1001 rfl rfl Z3w (vt rfl) rfl (vk rfl) hx5) rfl<|Ac (Z2b 1001 rfl rfl ty5 (vt rfl) rfl (Z0l hx5).2 (vt rfl)) rfl<|Nl<|SR<|Mw rfl<|Aw rfl<|Nl<|AW.freezes [2,3,6,11,37] 1001 rfl ⟨rfl,rfl,rfl,rfl,rfl,trivial⟩ rfl<|rt ?_
  cases h;exact Z9 Tryz.results130 rfl (Z5 rfl)
 ·refine SR<|Ac (Zy rfl rfl (vt rfl) (vk rfl)) rfl<|As rfl<|Nl<|Cq rfl h (fun h=>?_) (fun h=>?_)
  ·refine sq<|AW.freezes [3,6] 1001 rfl ⟨rfl,rfl,trivial⟩ rfl ?_
   obtain ⟨x6,hx6,x7,hx7,h⟩:=bs2 h
   refine AR Z03 (by kernel_rfl)<|SMd rfl<|SFd Z7g Z8x rfl<|Zu Z06 2 rfl<|Sd (lo [18,20] [] rfl fun S hs hr=>Zz (xs:=[.tmp 18,.tmp 20,.const (Value.int IntKind.i64 8)]) (Zjt _ _ _ _ hx6) Zn0 rfl rfl ⟨vt ((hs 18 rfl).trans rfl),vt ((hs 20 rfl).trans rfl),vk rfl,trivial⟩)<|SFd Z7r Z8d rfl<|Zu Z06 2 rfl<|Sd (lo [21,23] [] rfl fun S hs hr=>Zz (xs:=[.tmp 21,.tmp 23,.const (Value.int IntKind.i64 8)]) (Zjt _ _ _ _ hx7) Zn0 rfl rfl ⟨vt ((hs 21 rfl).trans rfl),vt ((hs 23 rfl).trans rfl),vk rfl,trivial⟩)<|SAs rfl<|Sn<|rt ?_
   cases h;exact Z9 Tryz.results130 rfl (Z5 rfl)
  ·refine JN (d:=[]) (ν:=Bool) (fun x8=>(Znd i1 x8=some r,[(1,Za g2 (Lens.id Z0f)),(3,Zg v4),(25,rd Z3 x8)],[(2,Zd g2 115 Z0f i1),(1001,Zi v4 5 (Z0 .u8) (List.replicate 4 (0:Int)))])) ?hx1 ?hy1
   case hy1=>
    intro x8 h
    dsimp only at h ⊢
    unfold Znd at h
    refine Cq rfl h (fun h=>?_) (fun h=>?_)
    ·refine sq ?_
     obtain ⟨x9,hx9,h⟩:=Z6 h
     refine Rg<|Zf lInst_4 Z4l rfl<|Ld Z2x 2 rfl<|Cl [30] (Zi2 _ _ hx9) e69 rfl<|Mt2 rfl<|Ac (Z10 rfl rfl (vt rfl)) rfl<|Ac (Z0z rfl rfl (vt rfl)) rfl<|As rfl<|As rfl<|Nl<|sq ?_
     obtain ⟨l10,hl10,h⟩:=Z6 h
     refine Rg<|Mw rfl<|Md rfl<|Cv rfl (Z1f 1001 hl10 rfl rfl Z4q (vt rfl) rfl (vt rfl)) fun v11=>Aw rfl<|Nl<|AW.freezes [2,36] 1001 rfl ⟨rfl,rfl,trivial⟩ rfl<|rt ?_
     cases h;exact Z9 Tryz.results130 rfl (Z5 rfl)
    ·refine sk<|SR<|Mw rfl<|Aw rfl<|Nl<|AW.freezes [2,3,37] 1001 rfl ⟨rfl,rfl,rfl,trivial⟩ rfl<|rt ?_
     cases h;exact Z9 Tryz.results130 rfl (Z5 rfl)
   case hx1=>
    refine SR<|Ac (Zy rfl rfl (vt rfl) (vk rfl)) rfl<|As rfl<|Nl<|Cq rfl h (fun h=>?_) (fun h=>?_)
    ·refine sk ?_
     exact ⟨_,h,FX rfl⟩
    ·refine Rg<|Ac (Zy rfl rfl (vt rfl) (vk rfl)) rfl<|As rfl<|Nl ?_
     exact ⟨_,h,FX rfl⟩
def Zgg:(List Inst)→Nat→(List Int)→(List (Int×Int))→Option ((List Int)×Int)
 | [],i9,l6,m8=>(bif (decide ((l6.length:Int)>60000)) then some ([],1) else some (l6,0))
 | x11::l10,i9,l6,m8=>(Zqx x11).bind fun x13=>(bif ((!x13)||(decide ((Z0w (Z1i m8 x11.Kind (IntKind.i64.wrap ((Z0w m8 x11.Kind)+1))) x11.Kind)>1))) then some ([],1) else (Zs1 x11).bind fun x14=>(Z3h l6 x11.Kind 2).bind fun x15=>(Z3h x15 (IntKind.i64.wrap (4+(x14.length:Int))) 2).bind fun x16=>(Z11 x16 x14).bind fun l18=>(Zgg l10) (i9+1) l18 (Z1i m8 x11.Kind (IntKind.i64.wrap ((Z0w m8 x11.Kind)+1))))
def Znx (l1:(List Inst)):Option ((List Int)×Int):=
 Zgg l1 0 [] []
theorem Y6v:Q1 Tryz.prog 80 (rd (Z1 Z0f)) (fun r=>Z0t (rd (Z1 (Z0 .u8)) r.1) (rd (Z0 .i64) r.2)) Znx:=fun l1 r h=>I0 Tryz.func80 rfl Tryz.ntmps80 rfl fun w H Z=>by
 unfold Znx at h
 refine SR<|Ac (Zn (A:=rd (Z1 (Z0 .u8)) []) rfl rfl Z04) rfl<|Ak rfl<|Nl<|sq<|AW.newnil 1001 5 (Z0 .u8)<|Rg<|Ac (Zn rfl rfl vc) rfl<|Nl<|SR<|Cv rfl (Znw (Z0 .i64) 10 rfl rfl) fun g2=>Aw rfl<|Nl<|sq<|SR<|Md rfl<|Ac (Z07 rfl rfl Z46 (vt rfl)) rfl<|Mk rfl<|Nl<|bk<|LG (d:=[]) (ν:=(List Inst)×Nat×(List Int)×(List (Int×Int))×Value) (fun (l10,i9,l6,m8,v7)=>(Sfx l1 i9 l10∧Zgg l10 i9 l6 m8=some r,l10.length,[(4,Zg v7),(5,Zg (.map (some g2))),(10,rd (Z1 Z0f) l1),(11,rd (Z0 .i64) (l1.length:Int)),(12,rd (Z0 .i64) (i9:Int))],[(10,Z2d g2 (Z0 .i64) m8),(1001,Zi v7 5 (Z0 .u8) l6)])) (l1,0,[],[],(.slice none 0 0)) ⟨Sfx.start _,h⟩ (FX rfl) ?_
 rintro ⟨l10,i9,l6,m8,v7⟩ ⟨hsf1,h⟩
 dsimp only at hsf1 h ⊢
 cases l10 with
 | nil=>
  unfold Zgg at h
  refine SR<|Ac (Zh rfl rfl (vt rfl) (vt rfl)) rfl<|Nl<|sq<|Cn rfl (fun hc=>absurd (of_decide_eq_true hc) hsf1.nil) (fun hc=>?_)
  refine xt<|sq<|SR<|Mw rfl<|Ac (Z2v 1001 rfl rfl Z3w (vt rfl) rfl) rfl<|Ac (Z1s rfl rfl (vt rfl) (vk rfl)) rfl<|Nl<|Cq rfl h (fun h=>?_) (fun h=>?_)
  ·refine SR<|Ac (Zn (A:=rd (Z1 (Z0 .u8)) []) rfl rfl Z04) rfl<|Ak rfl<|Nl<|rt ?_
   cases h;exact Z0c Tryz.results80 rfl (Z5 rfl) (Z5 rfl)
  ·refine sk<|SR<|Mw rfl<|Aw rfl<|Ak rfl<|Nl<|AW.freezes [2,4,45,48] 1001 rfl ⟨rfl,rfl,rfl,rfl,trivial⟩ rfl<|rt ?_
   cases h;exact Z0c Tryz.results80 rfl (Z5 rfl) (Z5 rfl)
 | cons x11 l10=>
  unfold Zgg at h
  refine SR<|Ac (Zh rfl rfl (vt rfl) (vt rfl)) rfl<|Nl<|sq<|Cn rfl (fun hc=>?_) (fun hc=>absurd hsf1.cons (of_decide_eq_false hc))
  have hlti9:=of_decide_eq_true hc
  refine sk<|sq<|bk<|SR<|Ac (Z0d rfl rfl Z46 (vt rfl) (vt rfl) hsf1.lget) rfl<|Lp1 Z2h rfl<|Cv rfl (Zo 8 rfl rfl Z44) fun g12=>Ze Z2h 8 rfl<|Nl<|SR<|Mw rfl<|Zf lInst_0 Z5w rfl<|Ld Zc 8 rfl<|Ac (Zdt (i:=10) rfl rfl Z9u (vt rfl) rfl (vt rfl)) rfl<|Ac (Z0o rfl rfl (vt rfl) (vk rfl)) rfl<|Ac (Zxs (i:=10) rfl rfl Z9u (vt rfl) rfl (vt rfl) (vt rfl)) rfl<|Nl<|sq<|sq ?_
  obtain ⟨x13,hx13,h⟩:=Z6 h
  refine Rg<|Ld Z2h 8 rfl<|Cl [21] (Y9d _ _ hx13) Y9y rfl<|Ac (Z0g rfl rfl (vt rfl)) rfl<|Md rfl<|Gd rfl (fun hq=>Zk (A:=Zg (.map (some g2))) rfl rfl (vt rfl))<|Gd rfl (fun hq=>Z0i lInst_0 rfl rfl Z5w (vt rfl))<|Gd rfl (fun hq=>Z08 rfl rfl Zc (Z8 rfl hq) (i:=8) rfl)<|Gd rfl (fun hq=>Zdt (i:=10) rfl rfl Z9u (Z8 rfl hq) rfl (Z8 rfl hq))<|Gd rfl (fun hq=>Z1s rfl rfl (Z8 rfl hq) (vk rfl))<|Ac (Z1u rfl rfl (vt rfl) (vt rfl)) rfl<|Nl<|Cq rfl h (fun h=>?_) (fun h=>?_)
  ·refine SR<|Ac (Zn (A:=rd (Z1 (Z0 .u8)) []) rfl rfl Z04) rfl<|Ak rfl<|Nl<|rt ?_
   cases h;exact Z0c Tryz.results80 rfl (Z5 rfl) (Z5 rfl)
  ·refine sk<|sq ?_
   obtain ⟨x14,hx14,h⟩:=Z6 h
   refine Rg<|Ld Z2h 8 rfl<|Cl [31] (Ymr _ _ hx14) Yjj rfl<|As rfl<|Nl<|sq ?_
   obtain ⟨x15,hx15,x16,hx16,h⟩:=bs2 h
   refine Rg<|Mw rfl<|Zf lInst_0 Z5w rfl<|Ld Zc 8 rfl<|Ac (Zsb (xs:=[.tmp 33,.tmp 35,.const (Value.int IntKind.i64 2)]) 1001 (Z5p _ _ _ _ hx15) e70 rfl rfl ⟨vL rfl rfl,vB (vt rfl),vB (vk rfl),trivial⟩) rfl<|Md rfl<|Ac (Z07 rfl rfl Z3w (vt rfl)) rfl<|Ac (Z0o rfl rfl (vk rfl) (vt rfl)) rfl<|Cv rfl (Z0y 1002 (xs:=[.tmp 36,.tmp 39,.const (Value.int IntKind.i64 2)]) (Z5p _ _ _ _ hx16) e70 rfl rfl ⟨vt rfl,vt rfl,vk rfl,trivial⟩ rfl) fun v17=>AOps.renameD 1002 1001 (by decide) rfl<|Aw rfl<|Nl ?_
   obtain ⟨l18,hl18,h⟩:=Z6 h
   refine Rg<|Mw rfl<|Md rfl<|Cv rfl (Z1f 1001 hl18 rfl rfl Z4q (vt rfl) rfl (vt rfl)) fun v19=>Aw rfl<|Nl<|Rg<|Ac (Z0a (t:=11) rfl rfl (vt rfl) (vk rfl) (vt rfl) hlti9) rfl<|Md rfl<|Nl ?_
   exact ⟨(_,_,_,_,_),Nat.lt_succ_self _,⟨hsf1.next,h⟩,FX rfl⟩
def Zfj (x1:FlowMod)(x4:Ztd):(List Int)→Nat→Option Bool
 | [],i7=>(Zot (((⟨x1⟩:flowmod_mod).FlowMod).Match)).bind fun x9=>(Znx (((⟨x1⟩:flowmod_mod).FlowMod).Insts)).bind fun x10=>(opt ((decide (x9.2=0))&&(decide (x10.2=0))) (Zl8 x1)).bind fun x11=>some (((decide (x9.2=0))&&(decide (x10.2=0)))&&(!x11.Is))
 | x12::l8,i7=>(chk 9 (i7:Int)).bind fun j13=>(Z7z x12 (Vector.get x4 j13)).bind fun x14=>(bif (!x14) then some false else (Zfj x1 x4 l8) (i7+1))
def Zm5 (x1:FlowMod):Option Bool:=
 (Ztc).bind fun x4=>(Zuu (⟨x1⟩:flowmod_mod)).bind fun x6=>Zfj x1 x4 (Vector.toList x6) 0
theorem Zyo:Q1 Tryz.prog 45 (rd Z1b) (rd Z3) Zm5:=fun x1 r h=>I0 Tryz.func45 rfl Tryz.ntmps45 rfl fun w H Z=>by
 unfold Zm5 at h
 refine SR<|Cv rfl (Zm 2 rfl rfl (vt rfl)) fun g2=>Ab rfl<|Nl<|SR<|Ld Z3f 2 rfl<|Ac (opb (⟨x1⟩:flowmod_mod) Y2m rfl Zz6 (pc Zwv (vt rfl)<|pn rfl)) rfl<|Cv rfl (Zm 14 rfl rfl (vt rfl)) fun g3=>Ac (Zn (A:=Za g3 (Lens.id Z33)) rfl rfl (vt rfl)) rfl<|Nl<|sq ?_
 obtain ⟨x4,hx4,h⟩:=Z6 h
 refine Rg<|Cl [] (Yay _ hx4) e76 rfl<|Cv rfl (Zo 5 rfl rfl Zfz) fun g5=>Ze Zgx 5 rfl<|Nl<|sq<|sq<|AW.freezesB [3,13] 14 rfl ⟨rfl,rfl,trivial⟩ rfl ?_
 obtain ⟨x6,hx6,h⟩:=Z6 h
 refine Rg<|Mr rfl<|Cl [15] (Y5l _ _ hx6) e77 rfl<|Mk rfl<|Nl<|bk<|LG (d:=[]) (ν:=(List Int)×Nat) (fun (l8,i7)=>(Sfx (Vector.toList x6) i7 l8∧Zfj x1 x4 l8 i7=some r,l8.length,[(1,Za g2 (Lens.id Z1b)),(3,rp Z33 (⟨x1⟩:flowmod_mod)),(4,Za g5 (Lens.id (Z4 9 (Z0 .i64)))),(16,rd (Z4 9 (Z0 .i64)) x6),(17,rd (Z0 .i64) (i7:Int))],[(2,Zd g2 118 Z1b x1),(5,Zd g5 184 (Z4 9 (Z0 .i64)) x4)])) ((Vector.toList x6),0) ⟨Sfx.start _,h⟩ (FX rfl) ?_
 rintro ⟨l8,i7⟩ ⟨hsf1,h⟩
 dsimp only at hsf1 h ⊢
 cases l8 with
 | nil=>
  unfold Zfj at h
  refine SR<|Ac (Zh rfl rfl (vt rfl) (vk rfl)) rfl<|Nl<|sq<|Cn rfl (fun hc=>absurd (of_decide_eq_true hc) (hsf1.niln (by simp))) (fun hc=>?_)
  refine xt<|sq ?_
  obtain ⟨x9,hx9,h⟩:=Z6 h
  refine Rg<|Mr rfl<|Ac (Z1k rfl rfl (vt rfl)) rfl<|Fp lflowmod_mod_0 Z3v rfl<|Fp lFlowMod_11 Zdx rfl<|Lp1 Z73 rfl<|Cl [33] (Yjy _ _ hx9) e79 rfl<|Mt2 rfl<|Ac (Z10 rfl rfl (vt rfl)) rfl<|Ac (Z0z rfl rfl (vt rfl)) rfl<|As rfl<|As rfl<|Nl<|sq ?_
  obtain ⟨x10,hx10,h⟩:=Z6 h
  refine Rg<|Mr rfl<|Ac (Z1k rfl rfl (vt rfl)) rfl<|Fp lflowmod_mod_0 Z3v rfl<|Fp lFlowMod_12 Zd1 rfl<|Lp1 Z4r rfl<|Cl [42] (Y6v _ _ hx10) e80 rfl<|Mt2 rfl<|Ac (Z10 rfl rfl (vt rfl)) rfl<|Ac (Z0z rfl rfl (vt rfl)) rfl<|As rfl<|As rfl<|Nl<|sq ?_
  obtain ⟨x11,hx11,h⟩:=Z6 h
  refine Rg<|Md rfl<|Ac (Zy rfl rfl (vt rfl) (vk rfl)) rfl<|Md rfl<|Gd rfl (fun hq=>Zk (A:=rd (Z0 .i64) x10.2) rfl rfl (vt rfl))<|Gd rfl (fun hq=>Zy rfl rfl (Z8 rfl hq) (vk rfl))<|Ac (Z0h rfl rfl (vt rfl) (vt rfl)) rfl<|Md rfl<|Gd rfl (fun hq=>Z08 rfl rfl Z3f (vt rfl) (i:=2) rfl)<|Gd rfl (fun hq=>Zz (xs:=[.tmp 53]) (Y2h _ _ (Z1p hx11 hq)) e81 rfl rfl ⟨Z8 rfl hq,trivial⟩)<|Gd rfl (fun hq=>Z7o lFault_0 rfl rfl Zan Zoj ty4 rfl (Z8 rfl hq))<|Gd rfl (fun hq=>Z0g rfl rfl (Z8 rfl hq))<|Ac (Z0h rfl rfl (vt rfl) (vt rfl)) rfl<|As rfl<|Nl<|rt ?_
  cases h;exact Z9 Tryz.results45 rfl (Z5 rfl)
 | cons x12 l8=>
  unfold Zfj at h
  refine SR<|Ac (Zh rfl rfl (vt rfl) (vk rfl)) rfl<|Nl<|sq<|Cn rfl (fun hc=>?_) (fun hc=>absurd (hsf1.consn (by simp)) (of_decide_eq_false hc))
  have hlti7:=of_decide_eq_true hc
  refine sk<|sq<|bk<|SR<|Md rfl<|Ac (Z7n rfl rfl Y4j Zc (vt rfl) (vt rfl) hsf1.lget) rfl<|As rfl<|As rfl<|Nl<|sq ?_
  obtain ⟨j13,hj13,x14,hx14,h⟩:=bs2 h
  refine Rg<|Md rfl<|Md rfl<|Ac (Z2o rfl rfl Y4j (vt rfl) (vt rfl) hj13) rfl<|Ld Zc 5 rfl<|Cl [21,24] (Zco _ _ _ hx14) e78 rfl<|Ac (Z0g rfl rfl (vt rfl)) rfl<|Nl<|Cq rfl h (fun h=>?_) (fun h=>?_)
  ·refine SR<|Ab rfl<|Nl<|rt ?_
   cases h;exact Z9 Tryz.results45 rfl (Z5 rfl)
  ·refine sk<|Rg<|Ac (Z43 rfl rfl (vt rfl) (vk rfl) rfl hlti7) rfl<|Md rfl<|Nl ?_
   exact ⟨(_,_),Nat.lt_succ_self _,⟨hsf1.next,h⟩,FX rfl⟩
def Zn6 (x6:Inst)(w1:state_work)(go1:Nat→Option Err)(i4:Nat)(x9:Bool):Option Err:=
 (bif x9 then (Zh6 x6.Acts).bind fun x10=>(Zv7 w1.Switch.Groups x10).bind fun x11=>(bif x11 then (Z9d 2 9).bind fun x12=>some x12 else go1 (i4+1)) else go1 (i4+1))
def Z8f (a2:Int)(w1:state_work):(List Inst)→Nat→Option Err
 | [],i4=>some Err.no
 | x6::l5,i4=>(bif (decide (x6.Kind=1)) then (bif ((decide (x6.Table≤a2))||(decide (x6.Table≥4))) then (Z9d 3 2).bind fun x8=>some x8 else (Z8f a2 w1 l5) (i4+1)) else (bif (decide (x6.Kind=3)) then Zn6 x6 w1 (Z8f a2 w1 l5) i4 (decide (x6.Kind=3)) else Zn6 x6 w1 (Z8f a2 w1 l5) i4 (decide (x6.Kind=4))))
def Znj (w1:state_work)(a2:Int)(l3:(List Inst)):Option Err:=
 Z8f a2 w1 l3 0
theorem Y1n:Q3 Tryz.prog 47 (rp Z2g) (rd (Z0 .i64)) (rd (Z1 Z0f)) (rd Z3y) Znj:=fun w1 a2 l3 r h=>I0 Tryz.func47 rfl Tryz.ntmps47 rfl fun w H Z=>by
 unfold Znj at h
 refine SR<|Ac (Zn (A:=rd Z3y Err.no) rfl rfl (vne rfl)) rfl<|Nl<|sq<|SR<|Md rfl<|Ac (Z07 rfl rfl Z46 (vt rfl)) rfl<|Mk rfl<|Nl<|bk<|LG (d:=[]) (ν:=(List Inst)×Nat) (fun (l5,i4)=>(Sfx l3 i4 l5∧Z8f a2 w1 l5 i4=some r,l5.length,[(0,rp Z2g w1),(1,rd (Z0 .i64) a2),(9,rd (Z1 Z0f) l3),(10,rd (Z0 .i64) (l3.length:Int)),(11,rd (Z0 .i64) (i4:Int))],[])) (l3,0) ⟨Sfx.start _,h⟩ (FX rfl) ?_
 rintro ⟨l5,i4⟩ ⟨hsf1,h⟩
 dsimp only at hsf1 h ⊢
 cases l5 with
 | nil=>
  unfold Z8f at h
  refine SR<|Ac (Zh rfl rfl (vt rfl) (vt rfl)) rfl<|Nl<|sq<|Cn rfl (fun hc=>absurd (of_decide_eq_true hc) hsf1.nil) (fun hc=>?_)
  refine xt<|SR<|Ac (Zn (A:=rd Z3y Err.no) rfl rfl (vne rfl)) rfl<|Nl<|rt ?_
  cases h;exact Z9 Tryz.results47 rfl (Z5 rfl)
 | cons x6 l5=>
  unfold Z8f at h
  refine SR<|Ac (Zh rfl rfl (vt rfl) (vt rfl)) rfl<|Nl<|sq<|Cn rfl (fun hc=>?_) (fun hc=>absurd hsf1.cons (of_decide_eq_false hc))
  have hlti4:=of_decide_eq_true hc
  refine sk<|sq<|bk<|SR<|Ac (Z0d rfl rfl Z46 (vt rfl) (vt rfl) hsf1.lget) rfl<|Lp1 Z2h rfl<|Cv rfl (Zo 9 rfl rfl Z44) fun g7=>Ze Z2h 9 rfl<|Nl<|SR<|Zf lInst_0 Z5w rfl<|Ld Zc 9 rfl<|Nl<|bk<|SR<|Ac (Zy rfl rfl (vt rfl) (vk rfl)) rfl<|As rfl<|Nl<|Cq rfl h (fun h=>?_) (fun h=>?_)
  ·refine SR<|Zf Z5o Z5r rfl<|Ld Zc 9 rfl<|Md rfl<|Ac (Z50 rfl rfl (vt rfl) (vt rfl)) rfl<|Md rfl<|Gd rfl (fun hq=>Z0i Z5o rfl rfl Z5r (vt rfl))<|Gd rfl (fun hq=>Z08 rfl rfl Zc (Z8 rfl hq) (i:=9) rfl)<|Gd rfl (fun hq=>Z1z rfl rfl (Z8 rfl hq) (vk rfl))<|Ac (Z1u rfl rfl (vt rfl) (vt rfl)) rfl<|Nl<|Cq rfl h (fun h=>?_) (fun h=>?_)
   ·refine sq ?_
    obtain ⟨x8,hx8,h⟩:=Z6 h
    refine Rg<|Ac (Zz (xs:=[.const (Value.int IntKind.i64 3),.const (Value.int IntKind.i64 2)]) (Zfl _ _ _ hx8) e83 rfl rfl ⟨vk rfl,vk rfl,trivial⟩) rfl<|As rfl<|Nl<|rt ?_
    cases h;exact Z9 Tryz.results47 rfl (Z5 rfl)
   ·refine sk<|Rg<|Ac (Z0a (t:=10) rfl rfl (vt rfl) (vk rfl) (vt rfl) hlti4) rfl<|Md rfl<|Nl ?_
    exact ⟨(_,_),Nat.lt_succ_self _,⟨hsf1.next,h⟩,FX rfl⟩
  ·refine JN (d:=[]) (ν:=Bool) (fun x9=>(Zn6 x6 w1 (Z8f a2 w1 l5) i4 x9=some r,[(0,rp Z2g w1),(1,rd (Z0 .i64) a2),(8,Za g7 (Lens.id Z0f)),(9,rd (Z1 Z0f) l3),(10,rd (Z0 .i64) (l3.length:Int)),(11,rd (Z0 .i64) (i4:Int)),(29,rd Z3 x9)],[(9,Zd g7 115 Z0f x6)])) ?hx2 ?hy2
   case hy2=>
    intro x9 h
    dsimp only at h ⊢
    unfold Zn6 at h
    refine Cq rfl h (fun h=>?_) (fun h=>?_)
    ·refine sq ?_
     obtain ⟨x10,hx10,x11,hx11,h⟩:=bs2 h
     refine AR Z03 (by kernel_rfl)<|Sd (lo [0] [] rfl fun S hs hr=>Zk (A:=rp Z2g w1) rfl rfl (vh hs 0 rfl rfl))<|Sd (lo [32] [] rfl fun S hs hr=>Z1k rfl rfl (vh hs 32 rfl rfl))<|SFp lstate_work_0 Zap rfl<|SFp Z66 Z77 rfl<|SLp Z3r rfl<|SFd lInst_4 Z4l rfl<|Zu Z2x 9 rfl<|SCl [38] (Zs5 _ _ hx10) e85 rfl<|SCl [36,39] (Ym7 _ _ _ hx11) e84 rfl<|Sn<|Cq rfl h (fun h=>?_) (fun h=>?_)
     ·refine sq ?_
      obtain ⟨x12,hx12,h⟩:=Z6 h
      refine Rg<|Ac (Zz (xs:=[.const (Value.int IntKind.i64 2),.const (Value.int IntKind.i64 9)]) (Zfl _ _ _ hx12) e83 rfl rfl ⟨vk rfl,vk rfl,trivial⟩) rfl<|As rfl<|Nl<|rt ?_
      cases h;exact Z9 Tryz.results47 rfl (Z5 rfl)
     ·refine sk<|Rg<|Ac (Z0a (t:=10) rfl rfl (vt rfl) (vk rfl) (vt rfl) hlti4) rfl<|Md rfl<|Nl ?_
      exact ⟨(_,_),Nat.lt_succ_self _,⟨hsf1.next,h⟩,FX rfl⟩
    ·refine sk<|Rg<|Ac (Z0a (t:=10) rfl rfl (vt rfl) (vk rfl) (vt rfl) hlti4) rfl<|Md rfl<|Nl ?_
     exact ⟨(_,_),Nat.lt_succ_self _,⟨hsf1.next,h⟩,FX rfl⟩
   case hx2=>
    refine SR<|Ac (Zy rfl rfl (vt rfl) (vk rfl)) rfl<|As rfl<|Nl<|Cq rfl h (fun h=>?_) (fun h=>?_)
    ·refine sk ?_
     exact ⟨_,h,FX rfl⟩
    ·refine Rg<|Ac (Zy rfl rfl (vt rfl) (vk rfl)) rfl<|As rfl<|Nl ?_
     exact ⟨_,h,FX rfl⟩
end Go.Proofs.YtjppkmpecdbepaaGreatDoor.W
set_option maxHeartbeats 1000000
set_option maxRecDepth 4000
namespace Go.Proofs.YtjppkmpecdbepaaGreatDoor.W
open Go Go.Wb
theorem e10:Ent Tryz.prog 10:=Ent.mk Tryz.func10 rfl rfl
theorem Y1j:Ent Tryz.prog 225:=Ent.mk Tryz.func225 rfl rfl
theorem e61:Ent Tryz.prog 61:=Ent.mk Tryz.func61 rfl rfl
theorem e33:Ent Tryz.prog 33:=Ent.mk Tryz.func33 rfl rfl
theorem e60:Ent Tryz.prog 60:=Ent.mk Tryz.func60 rfl rfl
theorem e59:Ent Tryz.prog 59:=Ent.mk Tryz.func59 rfl rfl
def Zkj (x1:Int):Option Bool:=
 some (decide ((Z71 .and .i64 x1 2)≠0))
theorem Y4d:Q1 Tryz.prog 87 (rd (Z0 .i64)) (rd Z3) Zkj:=fun x1 r h=>I0 Tryz.func87 rfl Tryz.ntmps87 rfl fun w H Z=>by
 unfold Zkj at h
 refine SR<|Ab rfl<|Nl<|SR<|Md rfl<|Ac (Ztk rfl rfl (vt rfl) (vk rfl)) rfl<|Ac (Z2j rfl rfl (vt rfl) (vk rfl)) rfl<|As rfl<|Nl<|rt ?_
 cases h;exact Z9 Tryz.results87 rfl (Z5 rfl)
def Z9y:Option Zs:=
 some (Vector.replicate 24 Z1h)
theorem Zeu:Q0 Tryz.prog 10 (rd (Z4 24 Z7)) Z9y:=fun r h=>I0 Tryz.func10 rfl Tryz.ntmps10 rfl fun w H Z=>by
 unfold Z9y at h
 refine SR<|Cv rfl (Zo 1 rfl rfl Z22) fun g1=>Nl<|SR<|Ac (Z23 (ps:=[]) (x:=(Vector.replicate 24 Z1h)) rfl rfl rfl (by kernel_rfl) Z22 rfl) rfl<|Ze Z09 1 rfl<|Nl<|rt ?_
 cases h;exact Z9 Tryz.results10 rfl (Zv rfl (i:=1) rfl Z09)
def Zm3 (o1:Oxm):Option Tern:=
 (Z85 o1.Field).bind fun x4=>(bif (!x4) then some (⟨Z0r,Z0r⟩:Tern) else (bif o1.Masked then some (⟨o1.Value,o1.Mask⟩:Tern) else (Zmh o1.Field).bind fun x5=>(Za6 x5).bind fun x6=>some (⟨o1.Value,x6⟩:Tern)))
theorem Y48:Q1 Tryz.prog 225 (rd Z0e) (rd Z7) Zm3:=fun o1 r h=>I0 Tryz.func225 rfl Tryz.ntmps225 rfl fun w H Z=>by
 unfold Zm3 at h
 refine SR<|Cv rfl (Zm 2 rfl rfl (vt rfl)) fun g2=>Cv rfl (Zo 3 rfl rfl Z2l) fun g3=>Nl<|sq<|bk<|sq ?_
 obtain ⟨x4,hx4,h⟩:=Z6 h
 refine Rg<|Zf lOxm_0 Z45 rfl<|Ld Zc 2 rfl<|Cl [5] (Zcm _ _ hx4) Zbi rfl<|Ac (Z0g rfl rfl (vt rfl)) rfl<|As rfl<|Nl<|Cq rfl h (fun h=>?_) (fun h=>?_)
 ·refine SR<|Ac (opb (⟨Z0r,Z0r⟩:Tern) Z2l rfl Z78 (pn rfl)) rfl<|Ze Z0j 3 rfl<|Nl<|rt ?_
  cases h;exact Z9 Tryz.results225 rfl (Zv rfl (i:=3) rfl Z0j)
 ·refine SR<|Zf Z91 Z9x rfl<|Ld ty4 2 rfl<|As rfl<|Nl<|Cq rfl h (fun h=>?_) (fun h=>?_)
  ·refine SR<|Zf lOxm_2 Zbw rfl<|Ld Z06 2 rfl<|Zf Zac Zbm rfl<|Ld Z06 2 rfl<|Ac (opb (⟨o1.Value,o1.Mask⟩:Tern) Z2l rfl Z78 (pc Z8t (vt rfl)<|pc Z8s (vt rfl)<|pn rfl)) rfl<|Ze Z0j 3 rfl<|Nl<|rt ?_
   cases h;exact Z9 Tryz.results225 rfl (Zv rfl (i:=3) rfl Z0j)
  ·refine sk<|sq ?_
   obtain ⟨x5,hx5,x6,hx6,h⟩:=bs2 h
   refine AR Z03 (by kernel_rfl)<|SFd lOxm_2 Zbw rfl<|Zu Z06 2 rfl<|SFd lOxm_0 Z45 rfl<|Zu Zc 2 rfl<|SCl [20] (Y00 _ _ hx5) Y0a rfl<|SCl [21] (Zem _ _ hx6) Zew rfl<|Sd (lo [18,22] [] rfl fun S hs hr=>opb (⟨o1.Value,x6⟩:Tern) Z2l rfl Z78 (pc Z8t (vh hs 18 rfl rfl)<|pc Z8s (vh hs 22 rfl rfl)<|pn rfl))<|SSt Z0j 3 rfl<|Sn<|rt ?_
   cases h;exact Z9 Tryz.results225 rfl (Zv rfl (i:=3) rfl Z0j)
def Zbg:(List Oxm)→Nat→Zs→Option Zs
 | [],i7,b6=>some b6
 | x9::l8,i7,b6=>(Z85 x9.Field).bind fun x11=>(bif x11 then (Zm3 x9).bind fun x12=>(chk 24 x9.Field).bind fun j13=>(Zbg l8) (i7+1) (Vector.set b6 j13.1 x12 j13.2) else (Zbg l8) (i7+1) b6)
def Zu3 (l1:(List Oxm)):Option Zs:=
 (Z9y).bind fun x3=>Zbg l1 0 x3
theorem Yk5:Q1 Tryz.prog 188 (rd (Z1 Z0e)) (rd (Z4 24 Z7)) Zu3:=fun l1 r h=>I0 Tryz.func188 rfl Tryz.ntmps188 rfl fun w H Z=>by
 unfold Zu3 at h
 refine SR<|Cv rfl (Zo 3 rfl rfl Z22) fun g2=>Nl<|sq ?_
 obtain ⟨x3,hx3,h⟩:=Z6 h
 refine Rg<|Cl [] (Zeu _ hx3) e10 rfl<|Cv rfl (Zo 4 rfl rfl Z22) fun g4=>Ze Z09 4 rfl<|Nl<|sq<|SR<|Md rfl<|Ac (Z07 rfl rfl Z4t (vt rfl)) rfl<|Mk rfl<|Nl<|bk<|LG (d:=[]) (ν:=(List Oxm)×Nat×Zs) (fun (l8,i7,b6)=>(Sfx l1 i7 l8∧Zbg l8 i7 b6=some r,l8.length,[(2,Za g2 (Lens.id (Z4 24 Z7))),(3,Za g4 (Lens.id (Z4 24 Z7))),(7,rd (Z1 Z0e) l1),(8,rd (Z0 .i64) (l1.length:Int)),(9,rd (Z0 .i64) (i7:Int))],[(3,Zd g2 32 (Z4 24 Z7) (Vector.replicate 24 Z1h)),(4,Zd g4 32 (Z4 24 Z7) b6)])) (l1,0,x3) ⟨Sfx.start _,h⟩ (FX rfl) ?_
 rintro ⟨l8,i7,b6⟩ ⟨hsf1,h⟩
 dsimp only at hsf1 h ⊢
 cases l8 with
 | nil=>
  unfold Zbg at h
  refine SR<|Ac (Zh rfl rfl (vt rfl) (vt rfl)) rfl<|Nl<|sq<|Cn rfl (fun hc=>absurd (of_decide_eq_true hc) hsf1.nil) (fun hc=>?_)
  refine xt<|SR<|Ld Z09 4 rfl<|Ze Z09 3 rfl<|Nl<|rt ?_
  cases h;exact Z9 Tryz.results188 rfl (Zv rfl (i:=3) rfl Z09)
 | cons x9 l8=>
  unfold Zbg at h
  refine SR<|Ac (Zh rfl rfl (vt rfl) (vt rfl)) rfl<|Nl<|sq<|Cn rfl (fun hc=>?_) (fun hc=>absurd hsf1.cons (of_decide_eq_false hc))
  have hlti7:=of_decide_eq_true hc
  refine sk<|sq<|bk<|SR<|Ac (Z0d rfl rfl Z4t (vt rfl) (vt rfl) hsf1.lget) rfl<|Lp1 Z3m rfl<|Cv rfl (Zo 6 rfl rfl Z9h) fun g10=>Ze Z3m 6 rfl<|Nl<|sq ?_
  obtain ⟨x11,hx11,h⟩:=Z6 h
  refine Rg<|Zf lOxm_0 Z45 rfl<|Ld Zc 6 rfl<|Cl [14] (Zcm _ _ hx11) Zbi rfl<|Nl<|Cq rfl h (fun h=>?_) (fun h=>?_)
  ·obtain ⟨x12,hx12,j13,hj13,h⟩:=bs2 h
   refine AR Z03 (by kernel_rfl)<|SFd lOxm_0 Z45 rfl<|Zu Zc 6 rfl<|Zu Z3m 6 rfl<|SCl [18] (Y48 _ _ hx12) Y1j rfl<|Sd (lo [3,17] [] rfl fun S hs hr=>Z2o rfl rfl Z3t (vh hs 3 rfl rfl) (vh hs 17 rfl rfl) hj13)<|SSt Z0j 4 rfl<|Sn<|Rg<|Ac (Z0a (t:=8) rfl rfl (vt rfl) (vk rfl) (vt rfl) hlti7) rfl<|Md rfl<|Nl ?_
   exact ⟨(_,_,_),Nat.lt_succ_self _,⟨hsf1.next,h⟩,FX rfl⟩
  ·refine sk<|Rg<|Ac (Z0a (t:=8) rfl rfl (vt rfl) (vk rfl) (vt rfl) hlti7) rfl<|Md rfl<|Nl ?_
   exact ⟨(_,_,_),Nat.lt_succ_self _,⟨hsf1.next,h⟩,FX rfl⟩
def Zb1 (a1:Wide)(b2:Wide):Option Wide:=
 some (⟨(a1.Hi&&& b2.Hi),(a1.Lo&&& b2.Lo)⟩:Wide)
theorem Zle:Q2 Tryz.prog 61 (rd Zw) (rd Zw) (rd Zw) Zb1:=fun a1 b2 r h=>I0 Tryz.func61 rfl Tryz.ntmps61 rfl fun w H Z=>by
 unfold Zb1 at h
 refine SR<|Cv rfl (Zm 3 rfl rfl (vt rfl)) fun g3=>Cv rfl (Zm 4 rfl rfl (vt rfl)) fun g4=>Cv rfl (Zo 5 rfl rfl Z39) fun g5=>Nl<|SR<|Zf lWide_0 Z5d rfl<|Ld Z1q 3 rfl<|Zf lWide_0 Z5d rfl<|Ld Z1q 4 rfl<|Ac (Z7m rfl rfl (vt rfl) (vt rfl)) rfl<|Zf lWide_1 Z5t rfl<|Ld Z1q 3 rfl<|Zf lWide_1 Z5t rfl<|Ld Z1q 4 rfl<|Ac (Z7m rfl rfl (vt rfl) (vt rfl)) rfl<|Ac (opb (⟨(a1.Hi&&& b2.Hi),(a1.Lo&&& b2.Lo)⟩:Wide) Z39 rfl Z5z (pc Zct (vt rfl)<|pc Z7y (vt rfl)<|pn rfl)) rfl<|Ze Z06 5 rfl<|Nl<|rt ?_
 cases h;exact Z9 Tryz.results61 rfl (Zv rfl (i:=5) rfl Z06)
def Z6k (t1:Tern):Option Tern:=
 (Zb1 t1.Value t1.Mask).bind fun x4=>some (⟨x4,t1.Mask⟩:Tern)
theorem Z7p:Q1 Tryz.prog 33 (rd Z7) (rd Z7) Z6k:=fun t1 r h=>I0 Tryz.func33 rfl Tryz.ntmps33 rfl fun w H Z=>by
 unfold Z6k at h
 refine SR<|Cv rfl (Zm 2 rfl rfl (vt rfl)) fun g2=>Cv rfl (Zo 3 rfl rfl Z2l) fun g3=>Nl<|sq ?_
 obtain ⟨x4,hx4,h⟩:=Z6 h
 refine AR Z03 (by kernel_rfl)<|SFd lTern_0 Z42 rfl<|Zu Z06 2 rfl<|SFd lTern_1 Z3q rfl<|Zu Z06 2 rfl<|SCl [4,6] (Zle _ _ _ hx4) e61 rfl<|SFd lTern_1 Z3q rfl<|Zu Z06 2 rfl<|Sd (lo [7,9] [] rfl fun S hs hr=>opb (⟨x4,t1.Mask⟩:Tern) Z2l rfl Z78 (pc Z8t (vh hs 7 rfl rfl)<|pc Z8s (vh hs 9 rfl rfl)<|pn rfl))<|SSt Z0j 3 rfl<|Sn<|rt ?_
 cases h;exact Z9 Tryz.results33 rfl (Zv rfl (i:=3) rfl Z0j)
def Zn5 (i1:Int)(x2:Zs):Option (Tern×Bool):=
 (chk 24 i1).bind fun j4=>(Z6k (Vector.get x2 j4)).bind fun x5=>some (x5,true)
theorem Yo5:Q2 Tryz.prog 60 (rd (Z0 .i64)) (rp (Z4 24 Z7)) (fun r=>Z0t (rd Z7 r.1) (rd Z3 r.2)) Zn5:=fun i1 x2 r h=>I0 Tryz.func60 rfl Tryz.ntmps60 rfl fun w H Z=>by
 unfold Zn5 at h
 refine SR<|Cv rfl (Zo 4 rfl rfl Z2l) fun g3=>Ab rfl<|Nl<|sq ?_
 obtain ⟨j4,hj4,x5,hx5,h⟩:=bs2 h
 refine Rg<|Md rfl<|Ac (Z69 rfl rfl Z3t (vt rfl) (vt rfl) hj4) rfl<|Lp1 Z0j rfl<|Cl [7] (Z7p _ _ hx5) e33 rfl<|Ze Z0j 4 rfl<|Ab rfl<|Nl<|rt ?_
 cases h;exact Z0c Tryz.results60 rfl (Zv rfl (i:=4) rfl Z0j) (Z5 rfl)
def Zfc (x1:(Int→Option (Tern×Bool))):Nat→Nat→Zs→Option (Zs×Bool)
 | 0,i6,b5=>some (b5,true)
 | m7+1,i6,b5=>(x1 (i6:Int)).bind fun x8=>(bif (!x8.2) then some ((Vector.replicate 24 Z1h),false) else (chk 24 (i6:Int)).bind fun j10=>(Zfc x1 m7) (i6+1) (Vector.set b5 j10.1 x8.1 j10.2))
def Zmn (x1:(Int→Option (Tern×Bool))):Option (Zs×Bool):=
 Zfc x1 (24:Int).toNat 0 (Vector.replicate 24 Z1h)
theorem Zzs:Q1 Tryz.prog 59 (fa1 Tryz.prog (Z0 .i64) (fun (y:(Tern×Bool))=>Z0t (rd Z7 y.1) (rd Z3 y.2))) (fun r=>Z0t (rd (Z4 24 Z7) r.1) (rd Z3 r.2)) Zmn:=fun x1 r h=>I0 Tryz.func59 rfl Tryz.ntmps59 rfl fun w H Z=>by
 unfold Zmn at h
 refine SR<|Cv rfl (Zo 3 rfl rfl Z22) fun g2=>Ab rfl<|Nl<|SR<|Cv rfl (Zo 5 rfl rfl Z22) fun g3=>Nl<|sq<|SR<|Mk rfl<|Nl<|bk<|LG (d:=[]) (ν:=Nat×Nat×Zs) (fun (m7,i6,b5)=>(Cnt 24 i6 m7∧Zfc x1 m7 i6 b5=some r,m7,[(0,fa1 Tryz.prog (Z0 .i64) (fun (y:(Tern×Bool))=>Z0t (rd Z7 y.1) (rd Z3 y.2)) x1),(2,Za g2 (Lens.id (Z4 24 Z7))),(4,Za g3 (Lens.id (Z4 24 Z7))),(8,rd (Z0 .i64) (i6:Int))],[(3,Zd g2 32 (Z4 24 Z7) (Vector.replicate 24 Z1h)),(5,Zd g3 32 (Z4 24 Z7) b5)])) ((24:Int).toNat,0,(Vector.replicate 24 Z1h)) ⟨Cnt.start _,h⟩ (FX rfl) ?_
 rintro ⟨m7,i6,b5⟩ ⟨hsf1,h⟩
 dsimp only at hsf1 h ⊢
 cases m7 with
 | zero=>
  unfold Zfc at h
  refine SR<|Ac (Zh rfl rfl (vt rfl) (vk rfl)) rfl<|Nl<|sq<|Cn rfl (fun hc=>absurd (of_decide_eq_true hc) hsf1.zero) (fun hc=>?_)
  refine xt<|SR<|Ld Z09 5 rfl<|Ze Z09 3 rfl<|Ab rfl<|Nl<|rt ?_
  cases h;exact Z0c Tryz.results59 rfl (Zv rfl (i:=3) rfl Z09) (Z5 rfl)
 | succ m7=>
  unfold Zfc at h
  refine SR<|Ac (Zh rfl rfl (vt rfl) (vk rfl)) rfl<|Nl<|sq<|Cn rfl (fun hc=>?_) (fun hc=>absurd hsf1.succ (of_decide_eq_false hc))
  have hlti6:=of_decide_eq_true hc
  refine sk<|sq<|bk<|SR<|Md rfl<|As rfl<|Nl<|sq ?_
  obtain ⟨x8,hx8,h⟩:=Z6 h
  refine Rg<|Ac (Zk (A:=fa1 Tryz.prog (Z0 .i64) (fun (y:(Tern×Bool))=>Z0t (rd Z7 y.1) (rd Z3 y.2)) x1) rfl rfl (vt rfl)) rfl<|Md rfl<|Ac (Yit (B:=(fun (y:(Tern×Bool))=>Z0t (rd Z7 y.1) (rd Z3 y.2))) hx8 rfl rfl (vt rfl) (vt rfl)) rfl<|Mt2 rfl<|Ac (Z10 rfl rfl (vt rfl)) rfl<|Ac (Z0z rfl rfl (vt rfl)) rfl<|Cv rfl (Zo 7 rfl rfl Z2l) fun g9=>Ze Z0j 7 rfl<|As rfl<|Nl<|sq<|SR<|Md rfl<|Ac (Z0g rfl rfl (vt rfl)) rfl<|Nl<|Cq rfl h (fun h=>?_) (fun h=>?_)
  ·refine SR<|Ac (Z23 (ps:=[]) (x:=(Vector.replicate 24 Z1h)) rfl rfl rfl (by kernel_rfl) Z22 rfl) rfl<|Ze Z09 3 rfl<|Ab rfl<|Nl<|rt ?_
   cases h;exact Z0c Tryz.results59 rfl (Zv rfl (i:=3) rfl Z09) (Z5 rfl)
  ·refine sk ?_
   obtain ⟨j10,hj10,h⟩:=Z6 h
   refine Rg<|Md rfl<|Ld Z0j 7 rfl<|Ac (Z2o rfl rfl Z3t (vt rfl) (vt rfl) hj10) rfl<|Ze Z0j 5 rfl<|Nl<|Rg<|Ac (Z43 rfl rfl (vt rfl) (vk rfl) rfl hlti6) rfl<|Md rfl<|Nl ?_
   exact ⟨(_,_,_),Nat.lt_succ_self _,⟨hsf1.next,h⟩,FX rfl⟩
def Zcs (x1:Zs):Option Zs:=
 (Zmn (fun x=>Zn5 x x1)).bind fun x4=>some x4.1
theorem Zif:Q1 Tryz.prog 31 (rd (Z4 24 Z7)) (rd (Z4 24 Z7)) Zcs:=fun x1 r h=>I0 Tryz.func31 rfl Tryz.ntmps31 rfl fun w H Z=>by
 unfold Zcs at h
 refine SR<|Cv rfl (Zm 2 rfl rfl (vt rfl)) fun g2=>Cv rfl (Zo 3 rfl rfl Z22) fun g3=>Nl<|sq<|AW.freezeB 1 2 rfl rfl rfl ?_
 obtain ⟨x4,hx4,h⟩:=Z6 h
 refine Rg<|Ac (Zwc (fs:=[]) (FAs:=[]) (cs:=[.tmp 1]) (CAs:=[rp (Z4 24 Z7) x1]) (kx:=(Z0 .i64)) (B:=(fun (y:(Tern×Bool))=>Z0t (rd Z7 y.1) (rd Z3 y.2))) (fun x=>Zn5 x x1) rfl rfl e60 trivial ⟨vt rfl,trivial⟩ (fun x y h=>Yo5 _ _ y h)) rfl<|Cl [6] (Zzs _ _ hx4) e59 rfl<|Mt2 rfl<|Ac (Z10 rfl rfl (vt rfl)) rfl<|Ac (Z0z rfl rfl (vt rfl)) rfl<|Cv rfl (Zo 4 rfl rfl Z22) fun g5=>Ze Z09 4 rfl<|As rfl<|Nl<|SR<|Ld Z09 4 rfl<|Ze Z09 3 rfl<|Nl<|rt ?_
 cases h;exact Z9 Tryz.results31 rfl (Zv rfl (i:=3) rfl Z09)
end Go.Proofs.YtjppkmpecdbepaaGreatDoor.W
set_option maxHeartbeats 1000000
set_option maxRecDepth 4000
namespace Go.Proofs.YtjppkmpecdbepaaGreatDoor.W
open Go Go.Wb
theorem Yjh:Ent Tryz.prog 188:=Ent.mk Tryz.func188 rfl rfl
theorem e31:Ent Tryz.prog 31:=Ent.mk Tryz.func31 rfl rfl
theorem Yjm:Ent Tryz.prog 270:=Ent.mk Tryz.func270 rfl rfl
theorem Yhr:Ent Tryz.prog 236:=Ent.mk Tryz.func236 rfl rfl
theorem Zys:Ent Tryz.prog 196:=Ent.mk Tryz.func196 rfl rfl
theorem Zcg:Ent Tryz.prog 197:=Ent.mk Tryz.func197 rfl rfl
theorem Zy6:Ent Tryz.prog 149:=Ent.mk Tryz.func149 rfl rfl
theorem Y7x:Ent Tryz.prog 153:=Ent.mk Tryz.func153 rfl rfl
theorem Zcx:Ent Tryz.prog 140:=Ent.mk Tryz.func140 rfl rfl
theorem Zen:Ent Tryz.prog 100:=Ent.mk Tryz.func100 rfl rfl
def Z97 (x1:Flow):Option Zs:=
 (Zu3 x1.Match).bind fun x4=>(Zcs x4).bind fun x5=>some x5
theorem Zc6:Q1 Tryz.prog 140 (rd Zp) (rd (Z4 24 Z7)) Z97:=fun x1 r h=>I0 Tryz.func140 rfl Tryz.ntmps140 rfl fun w H Z=>by
 unfold Z97 at h
 refine SR<|Cv rfl (Zm 2 rfl rfl (vt rfl)) fun g2=>Cv rfl (Zo 3 rfl rfl Z22) fun g3=>Nl<|sq ?_
 obtain ⟨x4,hx4,x5,hx5,h⟩:=bs2 h
 refine Rg<|Zf lFlow_5 Zhk rfl<|Ld Z73 2 rfl<|Cl [4] (Yk5 _ _ hx4) Yjh rfl<|Cl [5] (Zif _ _ hx5) e31 rfl<|Ze Z09 3 rfl<|Nl<|rt ?_
 cases h;exact Z9 Tryz.results140 rfl (Zv rfl (i:=3) rfl Z09)
def Zqp (a1:Wide)(b2:Wide):Option Wide:=
 some (⟨(a1.Hi ^^^ b2.Hi),(a1.Lo ^^^ b2.Lo)⟩:Wide)
theorem Y63:Q2 Tryz.prog 270 (rd Zw) (rd Zw) (rd Zw) Zqp:=fun a1 b2 r h=>I0 Tryz.func270 rfl Tryz.ntmps270 rfl fun w H Z=>by
 unfold Zqp at h
 refine SR<|Cv rfl (Zm 3 rfl rfl (vt rfl)) fun g3=>Cv rfl (Zm 4 rfl rfl (vt rfl)) fun g4=>Cv rfl (Zo 5 rfl rfl Z39) fun g5=>Nl<|SR<|Zf lWide_0 Z5d rfl<|Ld Z1q 3 rfl<|Zf lWide_0 Z5d rfl<|Ld Z1q 4 rfl<|Ac (Zz3 rfl rfl (vt rfl) (vt rfl)) rfl<|Zf lWide_1 Z5t rfl<|Ld Z1q 3 rfl<|Zf lWide_1 Z5t rfl<|Ld Z1q 4 rfl<|Ac (Zz3 rfl rfl (vt rfl) (vt rfl)) rfl<|Ac (opb (⟨(a1.Hi ^^^ b2.Hi),(a1.Lo ^^^ b2.Lo)⟩:Wide) Z39 rfl Z5z (pc Zct (vt rfl)<|pc Z7y (vt rfl)<|pn rfl)) rfl<|Ze Z06 5 rfl<|Nl<|rt ?_
 cases h;exact Z9 Tryz.results270 rfl (Zv rfl (i:=5) rfl Z06)
def Zpd (a1:Wide)(b2:Wide)(m3:Wide):Option Wide:=
 (Zqp a1 b2).bind fun x8=>(Zb1 x8 m3).bind fun x9=>some x9
theorem Ydo:Q3 Tryz.prog 236 (rd Zw) (rd Zw) (rd Zw) (rd Zw) Zpd:=fun a1 b2 m3 r h=>I0 Tryz.func236 rfl Tryz.ntmps236 rfl fun w H Z=>by
 unfold Zpd at h
 refine SR<|Cv rfl (Zm 4 rfl rfl (vt rfl)) fun g4=>Cv rfl (Zm 5 rfl rfl (vt rfl)) fun g5=>Cv rfl (Zm 6 rfl rfl (vt rfl)) fun g6=>Cv rfl (Zo 7 rfl rfl Z39) fun g7=>Nl<|sq ?_
 obtain ⟨x8,hx8,x9,hx9,h⟩:=bs2 h
 refine AR Z03 (by kernel_rfl)<|Zu Z06 4 rfl<|Zu Z06 5 rfl<|SCl [7,8] (Y63 _ _ _ hx8) Yjm rfl<|Zu Z06 6 rfl<|SCl [9,10] (Zle _ _ _ hx9) e61 rfl<|SSt Z06 7 rfl<|Sn<|rt ?_
 cases h;exact Z9 Tryz.results236 rfl (Zv rfl (i:=7) rfl Z06)
def Zhs (t1:Tern)(x2:Wide):Option Bool:=
 (Zpd t1.Value x2 t1.Mask).bind fun x5=>(Z7c x5).bind fun x6=>some x6
theorem Zxv:Q2 Tryz.prog 196 (rd Z7) (rd Zw) (rd Z3) Zhs:=fun t1 x2 r h=>I0 Tryz.func196 rfl Tryz.ntmps196 rfl fun w H Z=>by
 unfold Zhs at h
 refine SR<|Cv rfl (Zm 3 rfl rfl (vt rfl)) fun g3=>Cv rfl (Zm 4 rfl rfl (vt rfl)) fun g4=>Ab rfl<|Nl<|sq ?_
 obtain ⟨x5,hx5,x6,hx6,h⟩:=bs2 h
 refine Rg<|Zf lTern_0 Z42 rfl<|Ld Z06 3 rfl<|Ld Z06 4 rfl<|Zf lTern_1 Z3q rfl<|Ld Z06 3 rfl<|Cl [6,7,9] (Ydo _ _ _ _ hx5) Yhr rfl<|Cl [10] (Z9a _ _ hx6) Z8q rfl<|As rfl<|Nl<|rt ?_
 cases h;exact Z9 Tryz.results196 rfl (Z5 rfl)
def Z8u (a1:Wide)(b2:Wide):Option Wide:=
 some (⟨(a1.Hi||| b2.Hi),(a1.Lo||| b2.Lo)⟩:Wide)
theorem Zbq:Q2 Tryz.prog 197 (rd Zw) (rd Zw) (rd Zw) Z8u:=fun a1 b2 r h=>I0 Tryz.func197 rfl Tryz.ntmps197 rfl fun w H Z=>by
 unfold Z8u at h
 refine SR<|Cv rfl (Zm 3 rfl rfl (vt rfl)) fun g3=>Cv rfl (Zm 4 rfl rfl (vt rfl)) fun g4=>Cv rfl (Zo 5 rfl rfl Z39) fun g5=>Nl<|SR<|Zf lWide_0 Z5d rfl<|Ld Z1q 3 rfl<|Zf lWide_0 Z5d rfl<|Ld Z1q 4 rfl<|Ac (Zk0 rfl rfl (vt rfl) (vt rfl)) rfl<|Zf lWide_1 Z5t rfl<|Ld Z1q 3 rfl<|Zf lWide_1 Z5t rfl<|Ld Z1q 4 rfl<|Ac (Zk0 rfl rfl (vt rfl) (vt rfl)) rfl<|Ac (opb (⟨(a1.Hi||| b2.Hi),(a1.Lo||| b2.Lo)⟩:Wide) Z39 rfl Z5z (pc Zct (vt rfl)<|pc Z7y (vt rfl)<|pn rfl)) rfl<|Ze Z06 5 rfl<|Nl<|rt ?_
 cases h;exact Z9 Tryz.results197 rfl (Zv rfl (i:=5) rfl Z06)
def Zi9 (a1:Tern)(b2:Tern):Option (Tern×Bool):=
 (Zb1 a1.Mask b2.Mask).bind fun x6=>(Zhs (⟨a1.Value,x6⟩:Tern) b2.Value).bind fun x7=>(bif (!x7) then some ((⟨Z0r,Z0r⟩:Tern),false) else (Z6k a1).bind fun x8=>(Z6k b2).bind fun x9=>(Z8u x8.Value x9.Value).bind fun x10=>(Z8u x8.Mask x9.Mask).bind fun x11=>some ((⟨x10,x11⟩:Tern),true))
theorem Zzh:Q2 Tryz.prog 149 (rd Z7) (rd Z7) (fun r=>Z0t (rd Z7 r.1) (rd Z3 r.2)) Zi9:=fun a1 b2 r h=>I0 Tryz.func149 rfl Tryz.ntmps149 rfl fun w H Z=>by
 unfold Zi9 at h
 refine SR<|Cv rfl (Zm 3 rfl rfl (vt rfl)) fun g3=>Cv rfl (Zm 4 rfl rfl (vt rfl)) fun g4=>Cv rfl (Zo 5 rfl rfl Z2l) fun g5=>Ab rfl<|Nl<|sq<|sq ?_
 obtain ⟨x6,hx6,x7,hx7,h⟩:=bs2 h
 refine AR Z03 (by kernel_rfl)<|SFd lTern_0 Z42 rfl<|Zu Z06 3 rfl<|SFd lTern_1 Z3q rfl<|Zu Z06 3 rfl<|SFd lTern_1 Z3q rfl<|Zu Z06 4 rfl<|SCl [9,11] (Zle _ _ _ hx6) e61 rfl<|Sd (lo [7,12] [] rfl fun S hs hr=>opb (⟨a1.Value,x6⟩:Tern) Z2l rfl Z78 (pc Z8t (vh hs 7 rfl rfl)<|pc Z8s (vh hs 12 rfl rfl)<|pn rfl))<|SFd lTern_0 Z42 rfl<|Zu Z06 4 rfl<|SCl [13,15] (Zxv _ _ _ hx7) Zys rfl<|Sd (lo [16] [] rfl fun S hs hr=>Z0g rfl rfl (vh hs 16 rfl rfl))<|Sn<|Cq rfl h (fun h=>?_) (fun h=>?_)
 ·refine SR<|Ac (opb (⟨Z0r,Z0r⟩:Tern) Z2l rfl Z78 (pn rfl)) rfl<|Ze Z0j 5 rfl<|Ab rfl<|Nl<|rt ?_
  cases h;exact Z0c Tryz.results149 rfl (Zv rfl (i:=5) rfl Z0j) (Z5 rfl)
 ·refine sk<|sq ?_
  obtain ⟨x8,hx8,x9,hx9,h⟩:=bs2 h
  refine AR Z03 (by kernel_rfl)<|Zu Z0j 3 rfl<|SCl [19] (Z7p _ _ hx8) e33 rfl<|Zu Z0j 4 rfl<|SCl [21] (Z7p _ _ hx9) e33 rfl<|SSt Z0j 3 rfl<|SSt Z0j 4 rfl<|Sn<|sq ?_
  obtain ⟨x10,hx10,x11,hx11,h⟩:=bs2 h
  refine AR Z03 (by kernel_rfl)<|SFd lTern_0 Z42 rfl<|Zu Z06 3 rfl<|SFd lTern_0 Z42 rfl<|Zu Z06 4 rfl<|SCl [24,26] (Zbq _ _ _ hx10) Zcg rfl<|SFd lTern_1 Z3q rfl<|Zu Z06 3 rfl<|SFd lTern_1 Z3q rfl<|Zu Z06 4 rfl<|SCl [29,31] (Zbq _ _ _ hx11) Zcg rfl<|Sd (lo [27,32] [] rfl fun S hs hr=>opb (⟨x10,x11⟩:Tern) Z2l rfl Z78 (pc Z8t (vh hs 27 rfl rfl)<|pc Z8s (vh hs 32 rfl rfl)<|pn rfl))<|SSt Z0j 5 rfl<|Sd (lo [] [] rfl fun S hs hr=>Zn (A:=rd Z3 true) rfl rfl vb)<|Sn<|rt ?_
  cases h;exact Z0c Tryz.results149 rfl (Zv rfl (i:=5) rfl Z0j) (Z5 rfl)
def Zjc (i1:Int)(x2:Zs)(x3:Zs):Option (Tern×Bool):=
 (chk 24 i1).bind fun j5=>(chk 24 i1).bind fun j6=>(Zi9 (Vector.get x2 j5) (Vector.get x3 j6)).bind fun x7=>some (x7.1,x7.2)
theorem Ygl:Q3 Tryz.prog 153 (rd (Z0 .i64)) (rp (Z4 24 Z7)) (rp (Z4 24 Z7)) (fun r=>Z0t (rd Z7 r.1) (rd Z3 r.2)) Zjc:=fun i1 x2 x3 r h=>I0 Tryz.func153 rfl Tryz.ntmps153 rfl fun w H Z=>by
 unfold Zjc at h
 refine SR<|Cv rfl (Zo 5 rfl rfl Z2l) fun g4=>Ab rfl<|Nl<|sq ?_
 obtain ⟨j5,hj5,j6,hj6,x7,hx7,h⟩:=bs3 h
 refine AR Z03 (by kernel_rfl)<|SMd rfl<|Sd (lo [1,6] [] rfl fun S hs hr=>Z69 rfl rfl Z3t (vh hs 1 rfl rfl) (vh hs 6 rfl rfl) hj5)<|SLp Z0j rfl<|SMd rfl<|Sd (lo [2,9] [] rfl fun S hs hr=>Z69 rfl rfl Z3t (vh hs 2 rfl rfl) (vh hs 9 rfl rfl) hj6)<|SLp Z0j rfl<|SCl [8,11] (Zzh _ _ _ hx7) Zy6 rfl<|Sd (lo [12] [] rfl fun S hs hr=>Z10 rfl rfl (vh hs 12 rfl rfl))<|Sd (lo [12] [] rfl fun S hs hr=>Z0z rfl rfl (vh hs 12 rfl rfl))<|SSt Z0j 5 rfl<|SAs rfl<|Sn<|rt ?_
 cases h;exact Z0c Tryz.results153 rfl (Zv rfl (i:=5) rfl Z0j) (Z5 rfl)
def Z9k (a1:Zs)(b2:Zs):Option (Zs×Bool):=
 (Zmn (fun x=>Zjc x a1 b2)).bind fun x6=>some (x6.1,x6.2)
theorem Zde:Q2 Tryz.prog 100 (rd (Z4 24 Z7)) (rd (Z4 24 Z7)) (fun r=>Z0t (rd (Z4 24 Z7) r.1) (rd Z3 r.2)) Z9k:=fun a1 b2 r h=>I0 Tryz.func100 rfl Tryz.ntmps100 rfl fun w H Z=>by
 unfold Z9k at h
 refine SR<|Cv rfl (Zm 3 rfl rfl (vt rfl)) fun g3=>Cv rfl (Zm 4 rfl rfl (vt rfl)) fun g4=>Cv rfl (Zo 5 rfl rfl Z22) fun g5=>Ab rfl<|Nl<|sq<|AW.freezeB 2 3 rfl rfl rfl<|AW.freezeB 3 4 rfl rfl rfl ?_
 obtain ⟨x6,hx6,h⟩:=Z6 h
 refine Rg<|Ac (Zwc (fs:=[]) (FAs:=[]) (cs:=[.tmp 2,.tmp 3]) (CAs:=[rp (Z4 24 Z7) a1,rp (Z4 24 Z7) b2]) (kx:=(Z0 .i64)) (B:=(fun (y:(Tern×Bool))=>Z0t (rd Z7 y.1) (rd Z3 y.2))) (fun x=>Zjc x a1 b2) rfl rfl Y7x trivial ⟨vt rfl,vt rfl,trivial⟩ (fun x y h=>Ygl _ _ _ y h)) rfl<|Cl [6] (Zzs _ _ hx6) e59 rfl<|Ac (Z10 rfl rfl (vt rfl)) rfl<|Ac (Z0z rfl rfl (vt rfl)) rfl<|Ze Z09 5 rfl<|As rfl<|Nl<|rt ?_
 cases h;exact Z0c Tryz.results100 rfl (Zv rfl (i:=5) rfl Z09) (Z5 rfl)
def Zlk (a1:Flow)(b2:Flow):Option Bool:=
 (bif (decide (a1.Priority≠b2.Priority)) then some false else (Z97 a1).bind fun x5=>(Z97 b2).bind fun x6=>(Z9k x5 x6).bind fun x7=>some x7.2)
theorem Zyw:Q2 Tryz.prog 88 (rd Zp) (rd Zp) (rd Z3) Zlk:=fun a1 b2 r h=>I0 Tryz.func88 rfl Tryz.ntmps88 rfl fun w H Z=>by
 unfold Zlk at h
 refine SR<|Cv rfl (Zm 3 rfl rfl (vt rfl)) fun g3=>Cv rfl (Zm 4 rfl rfl (vt rfl)) fun g4=>Ab rfl<|Nl<|sq<|SR<|Zf lFlow_1 Z6t rfl<|Ld Zc 3 rfl<|Zf lFlow_1 Z6t rfl<|Ld Zc 4 rfl<|Ac (Z2j rfl rfl (vt rfl) (vt rfl)) rfl<|Nl<|Cq rfl h (fun h=>?_) (fun h=>?_)
 ·refine SR<|Ab rfl<|Nl<|rt ?_
  cases h;exact Z9 Tryz.results88 rfl (Z5 rfl)
 ·refine sk<|sq ?_
  obtain ⟨x5,hx5,x6,hx6,x7,hx7,h⟩:=bs3 h
  refine AR Z03 (by kernel_rfl)<|Zu Z19 3 rfl<|SCl [13] (Zc6 _ _ hx5) Zcx rfl<|Zu Z19 4 rfl<|SCl [15] (Zc6 _ _ hx6) Zcx rfl<|SCl [14,16] (Zde _ _ _ hx7) Zen rfl<|Sd (lo [17] [] rfl fun S hs hr=>Zk (A:=Z0t (rd (Z4 24 Z7) x7.1) (rd Z3 x7.2)) rfl rfl (vh hs 17 rfl rfl))<|Sd (lo [12] [] rfl fun S hs hr=>Z10 rfl rfl (vh hs 12 rfl rfl))<|Sd (lo [12] [] rfl fun S hs hr=>Z0z rfl rfl (vh hs 12 rfl rfl))<|Sd (Z18 (us:=[(5,Z28 32 (Z4 24 Z7) (Vector.replicate 24 Z1h))]) (ur:=[]) [] [] rfl fun S hs hr=>Z55 rfl rfl rfl Z22)<|Sd (Z18 (us:=[(5,Z28 32 (Z4 24 Z7) x7.1)]) (ur:=[]) [5,18] [] rfl fun S hs hr=>Z4z rfl rfl Z09 ((hs 5 rfl).trans rfl) (vh hs 18 rfl rfl))<|SAs rfl<|Sn<|AW.unpackP 5 6 rfl rfl fun g8=>SR<|Md rfl<|As rfl<|Nl<|rt ?_
  cases h;exact Z9 Tryz.results88 rfl (Z5 rfl)
end Go.Proofs.YtjppkmpecdbepaaGreatDoor.W
