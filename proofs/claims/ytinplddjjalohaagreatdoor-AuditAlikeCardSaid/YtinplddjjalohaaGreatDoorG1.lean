/- A part of the proof. -/
import Derived.Test.YtinplddjjalohaaGreatDoorG0
set_option linter.unusedVariables false
set_option maxHeartbeats 1000000
set_option maxRecDepth 4000
set_option linter.unusedSimpArgs false
namespace Go.Proofs.YtinplddjjalohaaGreatDoor.W
open Go Go.Wb
theorem e64:Ent Tryz.prog 64:=Ent.mk Tryz.func64 rfl rfl
theorem Ysf:Ent Tryz.prog 294:=Ent.mk Tryz.func294 rfl rfl
theorem Yuf:Ent Tryz.prog 213:=Ent.mk Tryz.func213 rfl rfl
theorem Yh8:Ent Tryz.prog 126:=Ent.mk Tryz.func126 rfl rfl
theorem Yvs:Ent Tryz.prog 127:=Ent.mk Tryz.func127 rfl rfl
theorem e62:Ent Tryz.prog 62:=Ent.mk Tryz.func62 rfl rfl
theorem e61:Ent Tryz.prog 61:=Ent.mk Tryz.func61 rfl rfl
theorem e16:Ent Tryz.prog 16:=Ent.mk Tryz.func16 rfl rfl
theorem e29:Ent Tryz.prog 29:=Ent.mk Tryz.func29 rfl rfl
theorem e28:Ent Tryz.prog 28:=Ent.mk Tryz.func28 rfl rfl
def Zia (s1:Switch):Option (List Rule):=
 (Zp3).bind fun x3=>(Za8).bind fun x4=>(Zvt s1 0 x3 x4 [] []).bind fun x5=>some x5
theorem Ygl:Q1 Tryz.prog 29 (rd Z08) (rd (Z1 Z09)) Zia:=fun s1 r h=>I0 Tryz.func29 rfl Tryz.ntmps29 rfl fun w H Z=>by
 unfold Zia at h
 refine SR<|Cv rfl (Zs 2 rfl rfl (vt rfl)) fun g2=>Ac (Zv (A:=rd (Z1 Z09) []) rfl rfl Z1f) rfl<|Nl<|sq ?_
 obtain ⟨x3,hx3,x4,hx4,x5,hx5,h⟩:=bs3 h
 refine AR Z00 (by kernel_rfl)<|Zo Z20 2 rfl<|SCl [] (Yxe _ hx3) e64 rfl<|SCl [] (Zke _ hx4) e65 rfl<|Sd (lo [3,4,5] [] rfl fun S hs hr=>Z0c (xs:=[.tmp 3,.const (Value.int IntKind.i64 0),.tmp 4,.tmp 5,.const (Value.slice none 0 0),.const (Value.slice none 0 0)]) (Ynb _ _ _ _ _ _ _ hx5) e63 rfl rfl ⟨vt ((hs 3 rfl).trans rfl),vk rfl,vt ((hs 4 rfl).trans rfl),vt ((hs 5 rfl).trans rfl),Z1f,Z1f,trivial⟩)<|SAs rfl<|Sn<|rt ?_
 cases h;exact Zd Tryz.results29 rfl (Z5 rfl)
def Zfz (l1:(List Rule)):Nat→(List Za)→Int→Option (List Za)
 | 0,_,_=>none
 | m9+1,l6,i8=>(bif (decide (i8<(l1.length:Int))) then (lget l1 i8).bind fun x10=>(Z0v l6 [x10.Cube]).bind fun l11=>(Zfz l1 m9) l11 (IntKind.i64.wrap (i8+1)) else some l6)
def Zfn (l1:(List Rule)):Option (List Za):=
 Zfz l1 ((((l1.length:Int):Int) - 0).toNat+1) [] 0
theorem Yts (l1:(List Rule))(r:(List Za))(h:Zfn l1=some r):Con Tryz.prog 62 [rd (Z1 Z09) l1] emp (fun v=>Zb v) (fun v=>Zf v 123 (Z3 24 Z4) r):=by
 refine Con.intro0 Tryz.func62 rfl Tryz.ntmps62 rfl fun w H Z=>?_
 unfold Zfn at h
 refine sq<|AW.newnil 1001 123 (Z3 24 Z4)<|Rg<|Ac (Zv rfl rfl vc) rfl<|Nl<|SR<|Cv rfl (Z4q 1002 (ps:=[]) (l:=[]) rfl rfl Z4l Z1i rfl rfl rfl rfl) fun v2=>Aw rfl<|Nl<|sq<|SR<|Ak rfl<|Nl<|bk<|LG (d:=[]) (ν:=Nat×(List Za)×Int×Value) (fun (m9,l6,i8,v7)=>(True∧Zfz l1 m9 l6 i8=some r,m9,[(0,rd (Z1 Z09) l1),(3,Zb v7),(4,rd (Z0 .i64) i8)],[(1002,Zf v7 123 (Z3 24 Z4) l6)])) (((((l1.length:Int):Int) - 0).toNat+1),[],0,v2) ⟨trivial,h⟩ (FX rfl) ?_
 rintro ⟨m9,l6,i8,v7⟩ ⟨hsf1,h⟩
 dsimp only at h ⊢
 cases m9 with
 | zero=>cases h
 | succ m9=>
  unfold Zfz at h
  refine sq<|SR<|Md rfl<|Md rfl<|Ac (Z0i rfl rfl Z3q (vt rfl)) rfl<|Ac (Zj rfl rfl (vt rfl) (vt rfl)) rfl<|Nl<|Cq rfl h (fun h=>?_) (fun h=>?_)
  ·refine sk<|sq<|bk ?_
   obtain ⟨x10,hx10,l11,hl11,h⟩:=bs2 h
   refine Rg<|Mw rfl<|Md rfl<|Md rfl<|Ac (Z0k rfl rfl Z3q (vt rfl) (vt rfl) hx10) rfl<|Fp lRule_0 Zmp rfl<|Lp1 Z02 rfl<|Ac (osl Z4l Z1i rfl (vt rfl)) rfl<|Cv rfl (Z29 1002 hl11 rfl rfl Zqq (vt rfl) rfl (vt rfl)) fun v12=>Aw rfl<|Nl<|Rg<|Md rfl<|Ac (Z06 rfl rfl (vt rfl) (vk rfl)) rfl<|As rfl<|Nl ?_
   exact ⟨(_,_,_,_),Nat.lt_succ_self _,⟨trivial,h⟩,FX rfl⟩
  ·refine xt<|SR<|Mw rfl<|Aw rfl<|Nl<|rt ?_
   cases h;exact Z3m (i:=1002) Tryz.results62 rfl rfl rfl
theorem Yfd (l1:(List Rule))(r:(List Za))(h:Zfn l1=some r):PCon Tryz.prog 62 [rd (Z1 Z09) l1] (rd (Z1 (Z3 24 Z4)) r):=PCon.of_row (Yts l1 r h)
def Zdo (l2:(List Za))(x1:Za):Nat→(List Za)→Int→Option (List Za)
 | 0,_,_=>none
 | m11+1,l8,i10=>(bif (decide (i10<(l2.length:Int))) then (lget l2 i10).bind fun x12=>(Zgz x1 x12).bind fun x13=>(bif x13.2 then (lget l2 i10).bind fun x15=>(Z0v l8 [x15]).bind fun l16=>(Zdo l2 x1 m11) l16 (IntKind.i64.wrap (i10+1)) else (Zdo l2 x1 m11) l8 (IntKind.i64.wrap (i10+1))) else some l8)
def Zrl (x1:Za)(l2:(List Za)):Option (List Za):=
 Zdo l2 x1 ((((l2.length:Int):Int) - 0).toNat+1) [] 0
theorem Ys1:Q2 Tryz.prog 126 (rd (Z3 24 Z4)) (rd (Z1 (Z3 24 Z4))) (rd (Z1 (Z3 24 Z4))) Zrl:=fun x1 l2 r h=>I0 Tryz.func126 rfl Tryz.ntmps126 rfl fun w H Z=>by
 unfold Zrl at h
 refine SR<|Cv rfl (Zs 3 rfl rfl (vt rfl)) fun g3=>Ac (Zv (A:=rd (Z1 (Z3 24 Z4)) []) rfl rfl Z1f) rfl<|Nl<|SR<|Cv rfl (Z4q 1001 (ps:=[]) (l:=[]) rfl rfl Z4l Z1i rfl rfl rfl rfl) fun v4=>Aw rfl<|Nl<|sq<|SR<|Ak rfl<|Nl<|bk<|LG (d:=[]) (ν:=Nat×(List Za)×Int×Value) (fun (m11,l8,i10,v9)=>(True∧Zdo l2 x1 m11 l8 i10=some r,m11,[(1,rd (Z1 (Z3 24 Z4)) l2),(2,Zc g3 (Lens.id (Z3 24 Z4))),(5,Zb v9),(6,rd (Z0 .i64) i10)],[(3,Zh g3 123 (Z3 24 Z4) x1),(1001,Zf v9 123 (Z3 24 Z4) l8)])) (((((l2.length:Int):Int) - 0).toNat+1),[],0,v4) ⟨trivial,h⟩ (FX rfl) ?_
 rintro ⟨m11,l8,i10,v9⟩ ⟨hsf1,h⟩
 dsimp only at h ⊢
 cases m11 with
 | zero=>cases h
 | succ m11=>
  unfold Zdo at h
  refine sq<|SR<|Md rfl<|Md rfl<|Ac (Z0i rfl rfl Z4l (vt rfl)) rfl<|Ac (Zj rfl rfl (vt rfl) (vt rfl)) rfl<|Nl<|Cq rfl h (fun h=>?_) (fun h=>?_)
  ·refine sk<|sq<|bk<|sq ?_
   obtain ⟨x12,hx12,x13,hx13,h⟩:=bs2 h
   refine AR Z00 (by kernel_rfl)<|Zo Z02 3 rfl<|Zt rfl<|Zt rfl<|Sd (lo [18,19] [] rfl fun S hs hr=>Z0k rfl rfl Z4l (vh hs 18 rfl rfl) (vh hs 19 rfl rfl) hx12)<|SLp Z02 rfl<|SCl [17,21] (Y35 _ _ _ hx13) Zzl rfl<|Sd (lo [22] [] rfl fun S hs hr=>Zq (A:=Z10 (rd (Z3 24 Z4) x13.1) (rd Z6 x13.2)) rfl rfl (vh hs 22 rfl rfl))<|Sd (lo [16] [] rfl fun S hs hr=>Z1c rfl rfl (vh hs 16 rfl rfl))<|Sd (lo [16] [] rfl fun S hs hr=>Z18 rfl rfl (vh hs 16 rfl rfl))<|Sd (Z19 (us:=[(7,Z2t 123 (Z3 24 Z4) (Vector.replicate 24 zTern))]) (ur:=[]) [] [] rfl fun S hs hr=>Z7k rfl rfl rfl Z1i)<|Sd (Z19 (us:=[(7,Z2t 123 (Z3 24 Z4) x13.1)]) (ur:=[]) [7,23] [] rfl fun S hs hr=>Z70 rfl rfl Z02 ((hs 7 rfl).trans rfl) (vh hs 23 rfl rfl))<|SAs rfl<|Sn<|AW.unpackP 7 8 rfl rfl fun g14=>SR<|Md rfl<|Nl<|Cq rfl h (fun h=>?_) (fun h=>?_)
   ·obtain ⟨x15,hx15,l16,hl16,h⟩:=bs2 h
    refine Rg<|Mw rfl<|Md rfl<|Md rfl<|Ac (Z0k rfl rfl Z4l (vt rfl) (vt rfl) hx15) rfl<|Lp1 Z02 rfl<|Ac (osl Z4l Z1i rfl (vt rfl)) rfl<|Cv rfl (Z29 1001 hl16 rfl rfl Zqq (vt rfl) rfl (vt rfl)) fun v17=>Aw rfl<|Nl<|Rg<|Md rfl<|Ac (Z06 rfl rfl (vt rfl) (vk rfl)) rfl<|As rfl<|Nl ?_
    exact ⟨(_,_,_,_),Nat.lt_succ_self _,⟨trivial,h⟩,FX rfl⟩
   ·refine sk<|Rg<|Md rfl<|Ac (Z06 rfl rfl (vt rfl) (vk rfl)) rfl<|As rfl<|Nl ?_
    exact ⟨(_,_,_,_),Nat.lt_succ_self _,⟨trivial,h⟩,FX rfl⟩
  ·refine xt<|SR<|Mw rfl<|Aw rfl<|Nl<|AW.freezes [4,5,33] 1001 rfl ⟨rfl,rfl,rfl,trivial⟩ rfl<|rt ?_
   cases h;exact Zd Tryz.results126 rfl (Z5 rfl)
def Zl2 (a1:Wide)(i2:Int):Option Bool:=
 (Zav i2).bind fun x4=>(Zf5 a1 x4).bind fun x5=>(Zg7 x5).bind fun x6=>some (!x6)
theorem Yls:Q2 Tryz.prog 294 (rd Zn) (rd (Z0 .i64)) (rd Z6) Zl2:=fun a1 i2 r h=>I0 Tryz.func294 rfl Tryz.ntmps294 rfl fun w H Z=>by
 unfold Zl2 at h
 refine SR<|Cv rfl (Zs 3 rfl rfl (vt rfl)) fun g3=>Ab rfl<|Nl<|sq ?_
 obtain ⟨x4,hx4,x5,hx5,x6,hx6,h⟩:=bs3 h
 refine AR Z00 (by kernel_rfl)<|Zo Zw 3 rfl<|Zt rfl<|SCl [6] (Zrr _ _ hx4) Zr5 rfl<|SCl [5,7] (Zq5 _ _ _ hx5) Zp7 rfl<|SCl [8] (Y8h _ _ hx6) Y6x rfl<|Sd (lo [9] [] rfl fun S hs hr=>Z0y rfl rfl (vh hs 9 rfl rfl))<|SAs rfl<|Sn<|rt ?_
 cases h;exact Zd Tryz.results294 rfl (Z5 rfl)
def Ze1 (a1:Wide):Nat→Int→Int→Option Int
 | 0,_,_=>none
 | m7+1,n5,i6=>(bif (decide (i6<128)) then (Zl2 a1 i6).bind fun x8=>(bif x8 then (Ze1 a1 m7) (IntKind.i64.wrap (n5+1)) (IntKind.i64.wrap (i6+1)) else (Ze1 a1 m7) n5 (IntKind.i64.wrap (i6+1))) else some n5)
def Zlg (a1:Wide):Option Int:=
 Ze1 a1 (((128:Int) - 0).toNat+1) 0 0
theorem Ycn:Q1 Tryz.prog 213 (rd Zn) (rd (Z0 .i64)) Zlg:=fun a1 r h=>I0 Tryz.func213 rfl Tryz.ntmps213 rfl fun w H Z=>by
 unfold Zlg at h
 refine SR<|Cv rfl (Zs 2 rfl rfl (vt rfl)) fun g2=>Ak rfl<|Nl<|SR<|Ak rfl<|Nl<|sq<|SR<|Ak rfl<|Nl<|bk<|LG (d:=[]) (ν:=Nat×Int×Int) (fun (m7,n5,i6)=>(True∧Ze1 a1 m7 n5 i6=some r,m7,[(1,Zc g2 (Lens.id Zn)),(3,rd (Z0 .i64) n5),(4,rd (Z0 .i64) i6)],[(2,Zh g2 29 Zn a1)])) ((((128:Int) - 0).toNat+1),0,0) ⟨trivial,h⟩ (FX rfl) ?_
 rintro ⟨m7,n5,i6⟩ ⟨hsf1,h⟩
 dsimp only at h ⊢
 cases m7 with
 | zero=>cases h
 | succ m7=>
  unfold Ze1 at h
  refine sq<|SR<|Md rfl<|Ac (Zj rfl rfl (vt rfl) (vk rfl)) rfl<|Nl<|Cq rfl h (fun h=>?_) (fun h=>?_)
  ·refine sk<|sq<|bk<|sq ?_
   obtain ⟨x8,hx8,h⟩:=Z7 h
   refine Rg<|Ld Zw 2 rfl<|Md rfl<|Cl [9,10] (Yls _ _ _ hx8) Ysf rfl<|Nl<|Cq rfl h (fun h=>?_) (fun h=>?_)
   ·refine Rg<|Md rfl<|Ac (Z06 rfl rfl (vt rfl) (vk rfl)) rfl<|As rfl<|Nl<|Rg<|Md rfl<|Ac (Z06 rfl rfl (vt rfl) (vk rfl)) rfl<|As rfl<|Nl ?_
    exact ⟨(_,_,_),Nat.lt_succ_self _,⟨trivial,h⟩,FX rfl⟩
   ·refine sk<|Rg<|Md rfl<|Ac (Z06 rfl rfl (vt rfl) (vk rfl)) rfl<|As rfl<|Nl ?_
    exact ⟨(_,_,_),Nat.lt_succ_self _,⟨trivial,h⟩,FX rfl⟩
  ·refine xt<|SR<|Md rfl<|As rfl<|Nl<|rt ?_
   cases h;exact Zd Tryz.results213 rfl (Z5 rfl)
def Zht (x1:Za):Nat→Int→Int→Option Int
 | 0,_,_=>none
 | m7+1,n5,x6=>(bif (decide (x6<24)) then (chk 24 x6).bind fun j8=>(Zlg ((Vector.get x1 j8).Mask)).bind fun x9=>(Zht x1 m7) (IntKind.i64.wrap (n5+x9)) (IntKind.i64.wrap (x6+1)) else some n5)
def Zlc (x1:Za):Option Int:=
 Zht x1 (((24:Int) - 0).toNat+1) 0 0
theorem Yhp:Q1 Tryz.prog 127 (rd (Z3 24 Z4)) (rd (Z0 .i64)) Zlc:=fun x1 r h=>I0 Tryz.func127 rfl Tryz.ntmps127 rfl fun w H Z=>by
 unfold Zlc at h
 refine SR<|Cv rfl (Zs 2 rfl rfl (vt rfl)) fun g2=>Ak rfl<|Nl<|SR<|Ak rfl<|Nl<|sq<|SR<|Ak rfl<|Nl<|bk<|LG (d:=[]) (ν:=Nat×Int×Int) (fun (m7,n5,x6)=>(True∧Zht x1 m7 n5 x6=some r,m7,[(1,Zc g2 (Lens.id (Z3 24 Z4))),(3,rd (Z0 .i64) n5),(4,rd (Z0 .i64) x6)],[(2,Zh g2 123 (Z3 24 Z4) x1)])) ((((24:Int) - 0).toNat+1),0,0) ⟨trivial,h⟩ (FX rfl) ?_
 rintro ⟨m7,n5,x6⟩ ⟨hsf1,h⟩
 dsimp only at h ⊢
 cases m7 with
 | zero=>cases h
 | succ m7=>
  unfold Zht at h
  refine sq<|SR<|Md rfl<|Ac (Zj rfl rfl (vt rfl) (vk rfl)) rfl<|Nl<|Cq rfl h (fun h=>?_) (fun h=>?_)
  ·refine sk<|sq<|bk ?_
   obtain ⟨j8,hj8,x9,hx9,h⟩:=bs2 h
   refine Rg<|Md rfl<|Md rfl<|Ac (Z13 rfl rfl Z2l (vt rfl) (vt rfl) hj8) rfl<|Zk lTern_1 Z2c rfl<|Ld Zw 2 rfl<|Cl [13] (Ycn _ _ hx9) Yuf rfl<|Ac (Z06 rfl rfl (vt rfl) (vt rfl)) rfl<|As rfl<|Nl<|Rg<|Md rfl<|Ac (Z06 rfl rfl (vt rfl) (vk rfl)) rfl<|As rfl<|Nl ?_
   exact ⟨(_,_,_),Nat.lt_succ_self _,⟨trivial,h⟩,FX rfl⟩
  ·refine xt<|SR<|Md rfl<|As rfl<|Nl<|rt ?_
   cases h;exact Zd Tryz.results127 rfl (Z5 rfl)
def Zfx (x4:(List Za)):Nat→Int→Int→Option Int
 | 0,_,_=>none
 | m9+1,n7,i8=>(bif (decide (i8<(x4.length:Int))) then (lget x4 i8).bind fun x10=>(Zlc x10).bind fun x11=>(Zfx x4 m9) (Z5k (IntKind.i64.wrap (n7*(Z2o x11 1))) 1099511627776) (IntKind.i64.wrap (i8+1)) else some n7)
def Zl1 (x1:Za)(l2:(List Za)):Option Int:=
 (Zrl x1 l2).bind fun x4=>Zfx x4 ((((x4.length:Int):Int) - 0).toNat+1) (Z5k (IntKind.i64.wrap ((x4.length:Int)+1)) 1099511627776) 0
theorem Ys6:Q2 Tryz.prog 61 (rd (Z3 24 Z4)) (rd (Z1 (Z3 24 Z4))) (rd (Z0 .i64)) Zl1:=fun x1 l2 r h=>I0 Tryz.func61 rfl Tryz.ntmps61 rfl fun w H Z=>by
 unfold Zl1 at h
 refine SR<|Cv rfl (Zs 3 rfl rfl (vt rfl)) fun g3=>Ak rfl<|Nl<|sq ?_
 obtain ⟨x4,hx4,h⟩:=Z7 h
 refine Rg<|Ld Z02 3 rfl<|Md rfl<|Cl [8,9] (Ys1 _ _ _ hx4) Yh8 rfl<|As rfl<|Nl<|SR<|Md rfl<|Ac (Z0i rfl rfl Z4l (vt rfl)) rfl<|Ac (Z06 rfl rfl (vt rfl) (vk rfl)) rfl<|Ac (Zur rfl rfl (vt rfl) (vk rfl)) rfl<|As rfl<|Nl<|sq<|SR<|Ak rfl<|Nl<|bk<|LG (d:=[]) (ν:=Nat×Int×Int) (fun (m9,n7,i8)=>(True∧Zfx x4 m9 n7 i8=some r,m9,[(5,rd (Z1 (Z3 24 Z4)) x4),(6,rd (Z0 .i64) n7),(7,rd (Z0 .i64) i8)],[])) (((((x4.length:Int):Int) - 0).toNat+1),(Z5k (IntKind.i64.wrap ((x4.length:Int)+1)) 1099511627776),0) ⟨trivial,h⟩ (FX rfl) ?_
 rintro ⟨m9,n7,i8⟩ ⟨hsf1,h⟩
 dsimp only at h ⊢
 cases m9 with
 | zero=>cases h
 | succ m9=>
  unfold Zfx at h
  refine sq<|SR<|Md rfl<|Md rfl<|Ac (Z0i rfl rfl Z4l (vt rfl)) rfl<|Ac (Zj rfl rfl (vt rfl) (vt rfl)) rfl<|Nl<|Cq rfl h (fun h=>?_) (fun h=>?_)
  ·refine sk<|sq<|bk ?_
   obtain ⟨x10,hx10,x11,hx11,h⟩:=bs2 h
   refine Rg<|Md rfl<|Md rfl<|Md rfl<|Ac (Z0k rfl rfl Z4l (vt rfl) (vt rfl) hx10) rfl<|Lp1 Z02 rfl<|Cl [25] (Yhp _ _ hx11) Yvs rfl<|Ac (Zl6 rfl rfl (vt rfl) (vk rfl)) rfl<|Ac (Z80 rfl rfl (vt rfl) (vt rfl)) rfl<|Ac (Zur rfl rfl (vt rfl) (vk rfl)) rfl<|As rfl<|Nl<|Rg<|Md rfl<|Ac (Z06 rfl rfl (vt rfl) (vk rfl)) rfl<|As rfl<|Nl ?_
   exact ⟨(_,_,_),Nat.lt_succ_self _,⟨trivial,h⟩,FX rfl⟩
  ·refine xt<|SR<|Md rfl<|As rfl<|Nl<|rt ?_
   cases h;exact Zd Tryz.results61 rfl (Z5 rfl)
def Zhc (l1:(List Rule)):Nat→Int→Int→Option Int
 | 0,_,_=>none
 | m6+1,n4,i5=>(bif (decide (i5<(l1.length:Int))) then (lget l1 i5).bind fun x7=>(Z45 l1 i5).bind fun s8=>(Zfn s8).bind fun x9=>(Zl1 x7.Cube x9).bind fun x10=>(Zhc l1 m6) (Z2o n4 x10) (IntKind.i64.wrap (i5+1)) else some n4)
def Zfh (l1:(List Rule)):Option Int:=
 Zhc l1 ((((l1.length:Int):Int) - 0).toNat+1) 0 0
theorem Ybp:Q1 Tryz.prog 28 (rd (Z1 Z09)) (rd (Z0 .i64)) Zfh:=fun l1 r h=>I0 Tryz.func28 rfl Tryz.ntmps28 rfl fun w H Z=>by
 unfold Zfh at h
 refine SR<|Ak rfl<|Nl<|SR<|Ak rfl<|Nl<|sq<|SR<|Ak rfl<|Nl<|bk<|LG (d:=[]) (ν:=Nat×Int×Int) (fun (m6,n4,i5)=>(True∧Zhc l1 m6 n4 i5=some r,m6,[(0,rd (Z1 Z09) l1),(3,rd (Z0 .i64) n4),(4,rd (Z0 .i64) i5)],[])) (((((l1.length:Int):Int) - 0).toNat+1),0,0) ⟨trivial,h⟩ (FX rfl) ?_
 rintro ⟨m6,n4,i5⟩ ⟨hsf1,h⟩
 dsimp only at h ⊢
 cases m6 with
 | zero=>cases h
 | succ m6=>
  unfold Zhc at h
  refine sq<|SR<|Md rfl<|Md rfl<|Ac (Z0i rfl rfl Z3q (vt rfl)) rfl<|Ac (Zj rfl rfl (vt rfl) (vt rfl)) rfl<|Nl<|Cq rfl h (fun h=>?_) (fun h=>?_)
  ·refine sk<|sq<|bk ?_
   obtain ⟨x7,hx7,s8,hs8,x9,hx9,x10,hx10,h⟩:=bs4 h
   refine AR Z00 (by kernel_rfl)<|Zt rfl<|Zt rfl<|Zt rfl<|Sd (lo [12,13] [] rfl fun S hs hr=>Z0k rfl rfl Z3q (vh hs 12 rfl rfl) (vh hs 13 rfl rfl) hx7)<|SFp lRule_0 Zmp rfl<|SLp Z02 rfl<|Zt rfl<|Zt rfl<|Sd (lo [17,18] [] rfl fun S hs hr=>Zqz hs8 rfl rfl Z3q (vh hs 17 rfl rfl) (vh hs 18 rfl rfl))<|SCl [19] (Yfd _ _ hx9) e62 rfl<|SCl [16,20] (Ys6 _ _ _ hx10) e61 rfl<|Sd (lo [11,21] [] rfl fun S hs hr=>Zl6 rfl rfl (vh hs 11 rfl rfl) (vh hs 21 rfl rfl))<|SAs rfl<|Sn<|Rg<|Md rfl<|Ac (Z06 rfl rfl (vt rfl) (vk rfl)) rfl<|As rfl<|Nl ?_
   exact ⟨(_,_,_),Nat.lt_succ_self _,⟨trivial,h⟩,FX rfl⟩
  ·refine xt<|SR<|Md rfl<|As rfl<|Nl<|rt ?_
   cases h;exact Zd Tryz.results28 rfl (Z5 rfl)
def Zmr (s1:Switch)(m2:Int):Option Bool:=
 (Znj s1 3).bind fun x4=>(opt ((x4==true)&&((decide (m2≤1024))==false)) (Zia s1)).bind fun x5=>(opt ((x4==true)&&((decide (m2≤1024))==false)) (Zfh x5)).bind fun x6=>some (x4&&((decide (m2≤1024))||(decide (x6≤4096))))
theorem Yiw:Q2 Tryz.prog 8 (rd Z08) (rd (Z0 .i64)) (rd Z6) Zmr:=fun s1 m2 r h=>I0 Tryz.func8 rfl Tryz.ntmps8 rfl fun w H Z=>by
 unfold Zmr at h
 refine SR<|Cv rfl (Zs 3 rfl rfl (vt rfl)) fun g3=>Ab rfl<|Nl<|sq ?_
 obtain ⟨x4,hx4,x5,hx5,x6,hx6,h⟩:=bs3 h
 refine Rg<|Ld Z20 3 rfl<|Ac (Z0c (xs:=[.tmp 5,.const (Value.int IntKind.i64 3)]) (Y7f _ _ _ hx4) e16 rfl rfl ⟨vt rfl,vk rfl,trivial⟩) rfl<|Md rfl<|Gd rfl (fun hq=>Zq (A:=rd (Z0 .i64) m2) rfl rfl (vt rfl))<|Gd rfl (fun hq=>Z5j rfl rfl (Zi rfl hq) (vk rfl))<|AOps.consG (OpG.guardX rfl rfl rfl rfl rfl fun hq=>Zq (A:=rd Z6 (decide (m2≤1024))) rfl rfl (Zi rfl hq))<|AOps.consG (OpG.guardN rfl rfl rfl rfl rfl fun hq=>Z1s rfl rfl Z20 (vt rfl) (i:=3) rfl)<|AOps.consG (OpG.guardN rfl rfl rfl rfl rfl fun hq=>Z0c (xs:=[.tmp 11]) (Ygl _ _ (Zx6 hx5 hq)) e29 rfl rfl ⟨Zi rfl hq,trivial⟩)<|AOps.consG (OpG.guardN rfl rfl rfl rfl rfl fun hq=>Z0c (xs:=[.tmp 12]) (Ybp _ _ (Zx6 hx6 hq)) e28 rfl rfl ⟨Zi rfl hq,trivial⟩)<|AOps.consG (OpG.guardN rfl rfl rfl rfl rfl fun hq=>Z5j rfl rfl (Zi rfl hq) (vk rfl))<|Gd rfl (fun hq=>Z3j rfl rfl (vgx rfl hq) (vgw rfl hq))<|Ac (Z1k rfl rfl (vt rfl) (vt rfl)) rfl<|As rfl<|Nl<|rt ?_
 cases h;exact Zd Tryz.results8 rfl (Z5 rfl)
end Go.Proofs.YtinplddjjalohaaGreatDoor.W
set_option maxHeartbeats 1000000
set_option maxRecDepth 4000
namespace Go.Proofs.YtinplddjjalohaaGreatDoor.W
open Go Go.Wb
theorem Zuc:Ent Tryz.prog 398:=Ent.mk Tryz.func398 rfl rfl
theorem Zp4:Ent Tryz.prog 381:=Ent.mk Tryz.func381 rfl rfl
theorem Ytt:Ent Tryz.prog 394:=Ent.mk Tryz.func394 rfl rfl
theorem Y64:Ent Tryz.prog 380:=Ent.mk Tryz.func380 rfl rfl
theorem Yn1:Ent Tryz.prog 353:=Ent.mk Tryz.func353 rfl rfl
def Zh0:Option Za:=
 some (Vector.replicate 24 zTern)
theorem Zzk:Q0 Tryz.prog 226 (rd (Z3 24 Z4)) Zh0:=fun r h=>I0 Tryz.func226 rfl Tryz.ntmps226 rfl fun w H Z=>by
 unfold Zh0 at h
 refine SR<|Cv rfl (Zm 1 rfl rfl Z1i) fun g1=>Nl<|SR<|Ac (Z1m (ps:=[]) (x:=(Vector.replicate 24 zTern)) rfl rfl rfl (by kernel_rfl) Z1i rfl) rfl<|Zg Z02 1 rfl<|Nl<|rt ?_
 cases h;exact Zd Tryz.results226 rfl (Zx rfl (i:=1) rfl Z02)
def Zc7:Option Za:=
 some (Vector.replicate 24 zTern)
theorem Ztj:Q0 Tryz.prog 143 (rd (Z3 24 Z4)) Zc7:=fun r h=>I0 Tryz.func143 rfl Tryz.ntmps143 rfl fun w H Z=>by
 unfold Zc7 at h
 refine SR<|Cv rfl (Zm 1 rfl rfl Z3p) fun g1=>Nl<|SR<|Ac (Z1m (ps:=[]) (x:=(Vector.replicate 24 zTern)) rfl rfl rfl (by kernel_rfl) Z3p rfl) rfl<|Zg Z04 1 rfl<|Nl<|rt ?_
 cases h;exact Zd Tryz.results143 rfl (Zx rfl (i:=1) rfl Z04)
def Zgi (i1:Int)(j2:Int)(x3:(List Flow)):Option Int:=
 (lget x3 i1).bind fun x4=>(lget x3 j2).bind fun x5=>(bif (decide (x4.Priority>x5.Priority)) then some (-1) else (lget x3 i1).bind fun x6=>(lget x3 j2).bind fun x7=>(bif (decide (x6.Priority<x7.Priority)) then some 1 else some 0))
theorem Yq4:Q3 Tryz.prog 308 (rd (Z0 .i64)) (rd (Z0 .i64)) (rp (Z1 Z03)) (rd (Z0 .i64)) Zgi:=fun i1 j2 x3 r h=>I0 Tryz.func308 rfl Tryz.ntmps308 rfl fun w H Z=>by
 unfold Zgi at h
 refine SR<|Ak rfl<|Nl<|sq<|bk<|sq ?_
 obtain ⟨x4,hx4,x5,hx5,h⟩:=bs2 h
 refine AR Z00 (by kernel_rfl)<|SLp Z38 rfl<|Zt rfl<|Sd (lo [7,8] [] rfl fun S hs hr=>Z0k rfl rfl Z2e (vh hs 7 rfl rfl) (vh hs 8 rfl rfl) hx4)<|SFp lFlow_1 Zao rfl<|SLp Zp rfl<|SLp Z38 rfl<|Zt rfl<|Sd (lo [12,13] [] rfl fun S hs hr=>Z0k rfl rfl Z2e (vh hs 12 rfl rfl) (vh hs 13 rfl rfl) hx5)<|SFp lFlow_1 Zao rfl<|SLp Zp rfl<|Sd (lo [11,16] [] rfl fun S hs hr=>Z2m rfl rfl (vh hs 11 rfl rfl) (vh hs 16 rfl rfl))<|SAs rfl<|Sn<|Cq rfl h (fun h=>?_) (fun h=>?_)
 ·refine SR<|Ak rfl<|Nl<|rt ?_
  cases h;exact Zd Tryz.results308 rfl (Z5 rfl)
 ·refine sq ?_
  obtain ⟨x6,hx6,x7,hx7,h⟩:=bs2 h
  refine AR Z00 (by kernel_rfl)<|SLp Z38 rfl<|Zt rfl<|Sd (lo [19,20] [] rfl fun S hs hr=>Z0k rfl rfl Z2e (vh hs 19 rfl rfl) (vh hs 20 rfl rfl) hx6)<|SFp lFlow_1 Zao rfl<|SLp Zp rfl<|SLp Z38 rfl<|Zt rfl<|Sd (lo [24,25] [] rfl fun S hs hr=>Z0k rfl rfl Z2e (vh hs 24 rfl rfl) (vh hs 25 rfl rfl) hx7)<|SFp lFlow_1 Zao rfl<|SLp Zp rfl<|Sd (lo [23,28] [] rfl fun S hs hr=>Zj rfl rfl (vh hs 23 rfl rfl) (vh hs 28 rfl rfl))<|SAs rfl<|Sn<|Cq rfl h (fun h=>?_) (fun h=>?_)
  ·refine SR<|Ak rfl<|Nl<|rt ?_
   cases h;exact Zd Tryz.results308 rfl (Z5 rfl)
  ·refine sk<|SR<|Ak rfl<|Nl<|rt ?_
   cases h;exact Zd Tryz.results308 rfl (Z5 rfl)
def Zd4 (a3:Int)(x5:(Int→Int→Option Int))(go1:(List Int)→Int→Option (List Int))(i9:Int):Nat→(List Int)→Int→Option (List Int)
 | 0,_,_=>none
 | m15+1,l13,j14=>(opt (decide (j14>a3)) (lget l13 j14)).bind fun x16=>(opt (decide (j14>a3)) (lget l13 (IntKind.i64.wrap (j14 - 1)))).bind fun x17=>(opt (decide (j14>a3)) (x5 x16 x17)).bind fun x18=>(bif ((decide (j14>a3))&&(decide (x18<0))) then (lget l13 (IntKind.i64.wrap (j14 - 1))).bind fun x19=>(lget l13 j14).bind fun x20=>(lget l13 j14).bind fun x21=>(lget (List.set l13 j14.toNat x19) (IntKind.i64.wrap (j14 - 1))).bind fun x22=>(Zd4 a3 x5 go1 i9 m15) (List.set (List.set l13 j14.toNat x19) (IntKind.i64.wrap (j14 - 1)).toNat x20) (IntKind.i64.wrap (j14 - 1)) else go1 l13 (IntKind.i64.wrap (i9+1)))
def Z9l (b4:Int)(a3:Int)(x5:(Int→Int→Option Int)):Nat→(List Int)→Int→Option (List Int)
 | 0,_,_=>none
 | m10+1,l8,i9=>(bif (decide (i9<b4)) then Zd4 a3 x5 (Z9l b4 a3 x5 m10) i9 Z0s l8 i9 else some l8)
def Zhx (d1:(List Int))(a3:Int)(b4:Int)(x5:(Int→Int→Option Int)):Option (List Int):=
 Z9l b4 a3 x5 (((b4:Int) - (IntKind.i64.wrap (a3+1))).toNat+1) d1 (IntKind.i64.wrap (a3+1))
theorem Y2a (v2:Value)(d1:(List Int))(a3:Int)(b4:Int)(x5:(Int→Int→Option Int))(r:(List Int))(h:Zhx d1 a3 b4 x5=some r):Con Tryz.prog 380 [Zb v2,rd (Z0 .i64) a3,rd (Z0 .i64) b4,fn2 Tryz.prog (Z0 .i64) (Z0 .i64) (Z0 .i64) x5] (Zf v2 3 (Z0 .i64) d1) (fun _:Unit=>top) (fun _=>Zf v2 3 (Z0 .i64) r):=by
 refine Con.intro Tryz.func380 rfl Tryz.ntmps380 rfl fun w H X Z=>?_
 unfold Zhx at h
 refine SR<|Md rfl<|Ac (Z06 rfl rfl (vt rfl) (vk rfl)) rfl<|As rfl<|Nl<|bk<|LG (d:=[]) (ν:=Nat×(List Int)×Int) (fun (m10,l8,i9)=>(True∧Z9l b4 a3 x5 m10 l8 i9=some r,m10,[(0,Zb v2),(1,rd (Z0 .i64) a3),(2,rd (Z0 .i64) b4),(3,fn2 Tryz.prog (Z0 .i64) (Z0 .i64) (Z0 .i64) x5),(8,rd (Z0 .i64) i9)],[(0,Zf v2 3 (Z0 .i64) l8)])) ((((b4:Int) - (IntKind.i64.wrap (a3+1))).toNat+1),d1,(IntKind.i64.wrap (a3+1))) ⟨trivial,h⟩ (FX rfl) ?_
 rintro ⟨m10,l8,i9⟩ ⟨hsf1,h⟩
 dsimp only at h ⊢
 cases m10 with
 | zero=>cases h
 | succ m10=>
  unfold Z9l at h
  refine sq<|SR<|Md rfl<|Md rfl<|Ac (Zj rfl rfl (vt rfl) (vt rfl)) rfl<|Nl<|Cq rfl h (fun h=>?_) (fun h=>?_)
  ·refine sk<|sq<|bk<|SR<|Md rfl<|As rfl<|Nl<|bk<|LG (d:=[]) (ν:=Nat×(List Int)×Int) (fun (m15,l13,j14)=>(True∧Zd4 a3 x5 (Z9l b4 a3 x5 m10) i9 m15 l13 j14=some r,m15,[(0,Zb v2),(1,rd (Z0 .i64) a3),(2,rd (Z0 .i64) b4),(3,fn2 Tryz.prog (Z0 .i64) (Z0 .i64) (Z0 .i64) x5),(8,rd (Z0 .i64) i9),(9,rd (Z0 .i64) j14)],[(0,Zf v2 3 (Z0 .i64) l13)])) (Z0s,l8,i9) ⟨trivial,h⟩ (FX rfl) ?_
   rintro ⟨m15,l13,j14⟩ ⟨hsf2,h⟩
   dsimp only at h ⊢
   cases m15 with
   | zero=>cases h
   | succ m15=>
    unfold Zd4 at h
    refine sq<|sq ?_
    obtain ⟨x16,hx16,x17,hx17,x18,hx18,h⟩:=bs3 h
    refine AR Z00 (by kernel_rfl)<|Zt rfl<|Zt rfl<|Sd (lo [18,19] [] rfl fun S hs hr=>Z2m rfl rfl (vh hs 18 rfl rfl) (vh hs 19 rfl rfl))<|Zt rfl<|Sd (lg [3,21] [] rfl fun hq S hs hr=>Zq (A:=fn2 Tryz.prog (Z0 .i64) (Z0 .i64) (Z0 .i64) x5) rfl rfl (vh hs 3 rfl rfl))<|Sd (lg [0,21] [] rfl fun hq S hs hr=>Zq (A:=Zb v2) rfl rfl (vh hs 0 rfl rfl))<|Sd (lg [9,21] [] rfl fun hq S hs hr=>Zq (A:=rd (Z0 .i64) j14) rfl rfl (vh hs 9 rfl rfl))<|Sd (lg [23,24,21] [0] rfl fun hq S hs hr=>Z22 0 rfl rfl Z11 (Zi ((hs 23 rfl).trans rfl) hq) ((hr 0 rfl).trans rfl) (Zi ((hs 24 rfl).trans rfl) hq) (Z2i hx16 hq))<|Sd (lg [25,21] [0] rfl fun hq S hs hr=>Z1q 0 rfl rfl Zp (Zi ((hs 25 rfl).trans rfl) hq) ((hr 0 rfl).trans rfl) (Z0m (Z2i hx16 hq)).2)<|Sd (lg [0,21] [] rfl fun hq S hs hr=>Zq (A:=Zb v2) rfl rfl (vh hs 0 rfl rfl))<|Sd (lg [9,21] [] rfl fun hq S hs hr=>Zq (A:=rd (Z0 .i64) j14) rfl rfl (vh hs 9 rfl rfl))<|Sd (lg [28,21] [] rfl fun hq S hs hr=>Z0r rfl rfl (Zi ((hs 28 rfl).trans rfl) hq) (vk rfl))<|Sd (lg [27,29,21] [0] rfl fun hq S hs hr=>Z22 0 rfl rfl Z11 (Zi ((hs 27 rfl).trans rfl) hq) ((hr 0 rfl).trans rfl) (Zi ((hs 29 rfl).trans rfl) hq) (Z2i hx17 hq))<|Sd (lg [30,21] [0] rfl fun hq S hs hr=>Z1q 0 rfl rfl Zp (Zi ((hs 30 rfl).trans rfl) hq) ((hr 0 rfl).trans rfl) (Z0m (Z2i hx17 hq)).2)<|Sd (lg [22,26,31,21] [] rfl fun hq S hs hr=>Zbr (Z2i hx18 hq) rfl rfl (Zi ((hs 22 rfl).trans rfl) hq) (Zi ((hs 26 rfl).trans rfl) hq) (Zi ((hs 31 rfl).trans rfl) hq))<|Sd (lg [32,21] [] rfl fun hq S hs hr=>Zj rfl rfl (Zi ((hs 32 rfl).trans rfl) hq) (vk rfl))<|Sd (lo [33,21] [] rfl fun S hs hr=>Z1k rfl rfl (vh hs 21 rfl rfl) (vh hs 33 rfl rfl))<|Sn<|Cq rfl h (fun h=>?_) (fun h=>?_)
    ·refine sk<|sq<|bk<|AW.vlen 0 rfl fun hvl0_266=>?_
     obtain ⟨x19,hx19,x20,hx20,x21,hx21,x22,hx22,h⟩:=bs4 h
     refine AR Z00 (by kernel_rfl)<|SMw rfl<|Zt rfl<|SMw rfl<|Zt rfl<|Sd (lo [40] [] rfl fun S hs hr=>Z0r rfl rfl (vh hs 40 rfl rfl) (vk rfl))<|SMw rfl<|Zt rfl<|Sd (lo [43] [] rfl fun S hs hr=>Z0r rfl rfl (vh hs 43 rfl rfl) (vk rfl))<|Sd (lo [42,44] [] rfl fun S hs hr=>Z2j (l:=l13) hvl0_266 rfl rfl rfl Z11 (vh hs 42 rfl rfl) (vh hs 44 rfl rfl) hx19)<|Sd (lo [45] [0] rfl fun S hs hr=>Z1q 0 rfl rfl Zp (vh hs 45 rfl rfl) ((hr 0 rfl).trans rfl) (Z0m hx19).2)<|SMw rfl<|Zt rfl<|Sd (lo [47,48] [] rfl fun S hs hr=>Z2j (l:=l13) hvl0_266 rfl rfl rfl Z11 (vh hs 47 rfl rfl) (vh hs 48 rfl rfl) hx20)<|Sd (lo [49] [0] rfl fun S hs hr=>Z1q 0 rfl rfl Zp (vh hs 49 rfl rfl) ((hr 0 rfl).trans rfl) (Z0m hx20).2)<|Sd (lo [37,38] [] rfl fun S hs hr=>Z2j (l:=l13) hvl0_266 rfl rfl rfl Z11 (vh hs 37 rfl rfl) (vh hs 38 rfl rfl) hx21)<|Sd (Z4a [51,46] [0] rfl fun S hs hr=>Z2w 0 rfl rfl Zp (vh hs 51 rfl rfl) ((hr 0 rfl).trans rfl) (Z0m hx21).2 (vh hs 46 rfl rfl))<|Sd (lo [39,41] [] rfl fun S hs hr=>Z2j (l:=(List.set l13 j14.toNat x19)) hvl0_266 (by simp) rfl rfl Z11 (vh hs 39 rfl rfl) (vh hs 41 rfl rfl) hx22)<|Sd (Z4a [52,50] [0] rfl fun S hs hr=>Z2w 0 rfl rfl Zp (vh hs 52 rfl rfl) ((hr 0 rfl).trans rfl) (Z0m hx22).2 (vh hs 50 rfl rfl))<|Sn<|Rg<|Md rfl<|Ac (Z0r rfl rfl (vt rfl) (vk rfl)) rfl<|As rfl<|Nl ?_
     exact ⟨(_,_,_),Nat.lt_succ_self _,⟨trivial,h⟩,FX rfl⟩
    ·refine xt<|Rg<|Md rfl<|Ac (Z06 rfl rfl (vt rfl) (vk rfl)) rfl<|As rfl<|Nl ?_
     exact ⟨(_,_,_),Nat.lt_succ_self _,⟨trivial,h⟩,FX rfl⟩
  ·refine xt ?_
   cases h;exact Z2d (i:=0) Tryz.results380 rfl rfl
def Zru (n5:Int)(b4:Int)(a3:Int):Nat→(List Int)→Int→Option (List Int)
 | 0,_,_=>none
 | m11+1,l9,i10=>(bif (decide (i10<n5)) then (lget l9 (IntKind.i64.wrap (b4+i10))).bind fun x12=>(lget l9 (IntKind.i64.wrap (a3+i10))).bind fun x13=>(lget l9 (IntKind.i64.wrap (a3+i10))).bind fun x14=>(lget (List.set l9 (IntKind.i64.wrap (a3+i10)).toNat x12) (IntKind.i64.wrap (b4+i10))).bind fun x15=>(Zru n5 b4 a3 m11) (List.set (List.set l9 (IntKind.i64.wrap (a3+i10)).toNat x12) (IntKind.i64.wrap (b4+i10)).toNat x13) (IntKind.i64.wrap (i10+1)) else some l9)
def Zlj (d1:(List Int))(a3:Int)(b4:Int)(n5:Int)(x6:(Int→Int→Option Int)):Option (List Int):=
 Zru n5 b4 a3 (((n5:Int) - 0).toNat+1) d1 0
theorem Zw1 (v2:Value)(d1:(List Int))(a3:Int)(b4:Int)(n5:Int)(x6:(Int→Int→Option Int))(r:(List Int))(h:Zlj d1 a3 b4 n5 x6=some r):Con Tryz.prog 398 [Zb v2,rd (Z0 .i64) a3,rd (Z0 .i64) b4,rd (Z0 .i64) n5,fn2 Tryz.prog (Z0 .i64) (Z0 .i64) (Z0 .i64) x6] (Zf v2 3 (Z0 .i64) d1) (fun _:Unit=>top) (fun _=>Zf v2 3 (Z0 .i64) r):=by
 refine Con.intro Tryz.func398 rfl Tryz.ntmps398 rfl fun w H X Z=>?_
 unfold Zlj at h
 refine SR<|Ak rfl<|Nl<|bk<|LG (d:=[]) (ν:=Nat×(List Int)×Int) (fun (m11,l9,i10)=>(True∧Zru n5 b4 a3 m11 l9 i10=some r,m11,[(0,Zb v2),(1,rd (Z0 .i64) a3),(2,rd (Z0 .i64) b4),(3,rd (Z0 .i64) n5),(10,rd (Z0 .i64) i10)],[(0,Zf v2 3 (Z0 .i64) l9)])) ((((n5:Int) - 0).toNat+1),d1,0) ⟨trivial,h⟩ (FX rfl) ?_
 rintro ⟨m11,l9,i10⟩ ⟨hsf1,h⟩
 dsimp only at h ⊢
 cases m11 with
 | zero=>cases h
 | succ m11=>
  unfold Zru at h
  refine sq<|SR<|Md rfl<|Md rfl<|Ac (Zj rfl rfl (vt rfl) (vt rfl)) rfl<|Nl<|Cq rfl h (fun h=>?_) (fun h=>?_)
  ·refine sk<|sq<|bk<|AW.vlen 0 rfl fun hvl0_123=>?_
   obtain ⟨x12,hx12,x13,hx13,x14,hx14,x15,hx15,h⟩:=bs4 h
   refine AR Z00 (by kernel_rfl)<|SMw rfl<|Zt rfl<|Zt rfl<|Sd (lo [17,18] [] rfl fun S hs hr=>Z06 rfl rfl (vh hs 17 rfl rfl) (vh hs 18 rfl rfl))<|SMw rfl<|Zt rfl<|Zt rfl<|Sd (lo [21,22] [] rfl fun S hs hr=>Z06 rfl rfl (vh hs 21 rfl rfl) (vh hs 22 rfl rfl))<|SMw rfl<|Zt rfl<|Zt rfl<|Sd (lo [25,26] [] rfl fun S hs hr=>Z06 rfl rfl (vh hs 25 rfl rfl) (vh hs 26 rfl rfl))<|Sd (lo [24,27] [] rfl fun S hs hr=>Z2j (l:=l9) hvl0_123 rfl rfl rfl Z11 (vh hs 24 rfl rfl) (vh hs 27 rfl rfl) hx12)<|Sd (lo [28] [0] rfl fun S hs hr=>Z1q 0 rfl rfl Zp (vh hs 28 rfl rfl) ((hr 0 rfl).trans rfl) (Z0m hx12).2)<|SMw rfl<|Zt rfl<|Zt rfl<|Sd (lo [31,32] [] rfl fun S hs hr=>Z06 rfl rfl (vh hs 31 rfl rfl) (vh hs 32 rfl rfl))<|Sd (lo [30,33] [] rfl fun S hs hr=>Z2j (l:=l9) hvl0_123 rfl rfl rfl Z11 (vh hs 30 rfl rfl) (vh hs 33 rfl rfl) hx13)<|Sd (lo [34] [0] rfl fun S hs hr=>Z1q 0 rfl rfl Zp (vh hs 34 rfl rfl) ((hr 0 rfl).trans rfl) (Z0m hx13).2)<|Sd (lo [16,19] [] rfl fun S hs hr=>Z2j (l:=l9) hvl0_123 rfl rfl rfl Z11 (vh hs 16 rfl rfl) (vh hs 19 rfl rfl) hx14)<|Sd (Z4a [36,29] [0] rfl fun S hs hr=>Z2w 0 rfl rfl Zp (vh hs 36 rfl rfl) ((hr 0 rfl).trans rfl) (Z0m hx14).2 (vh hs 29 rfl rfl))<|Sd (lo [20,23] [] rfl fun S hs hr=>Z2j (l:=(List.set l9 (IntKind.i64.wrap (a3+i10)).toNat x12)) hvl0_123 (by simp) rfl rfl Z11 (vh hs 20 rfl rfl) (vh hs 23 rfl rfl) hx15)<|Sd (Z4a [37,35] [0] rfl fun S hs hr=>Z2w 0 rfl rfl Zp (vh hs 37 rfl rfl) ((hr 0 rfl).trans rfl) (Z0m hx15).2 (vh hs 35 rfl rfl))<|Sn<|Rg<|Md rfl<|Ac (Z06 rfl rfl (vt rfl) (vk rfl)) rfl<|As rfl<|Nl ?_
   exact ⟨(_,_,_),Nat.lt_succ_self _,⟨trivial,h⟩,FX rfl⟩
  ·refine xt ?_
   cases h;exact Z2d (i:=0) Tryz.results398 rfl rfl
def Zmj (m4:Int)(x6:(Int→Int→Option Int)):Nat→(List Int)→Int→Int→Option (List Int)
 | 0,_,_,_=>none
 | m13+1,l10,i11,j12=>(bif (decide (i11≠j12)) then (bif (decide (i11>j12)) then (Zlj l10 (IntKind.i64.wrap (m4 - i11)) m4 j12 x6).bind fun l14=>(Zmj m4 x6 m13) l14 (IntKind.i64.wrap (i11 - j12)) j12 else (Zlj l10 (IntKind.i64.wrap (m4 - i11)) (IntKind.i64.wrap ((IntKind.i64.wrap (m4+j12)) - i11)) i11 x6).bind fun l15=>(Zmj m4 x6 m13) l15 i11 (IntKind.i64.wrap (j12 - i11))) else (Zlj l10 (IntKind.i64.wrap (m4 - i11)) m4 i11 x6).bind fun l16=>some l16)
def Zyn (d1:(List Int))(a3:Int)(m4:Int)(b5:Int)(x6:(Int→Int→Option Int)):Option (List Int):=
 Zmj m4 x6 Z0s d1 (IntKind.i64.wrap (m4 - a3)) (IntKind.i64.wrap (b5 - m4))
theorem Yp1 (v2:Value)(d1:(List Int))(a3:Int)(m4:Int)(b5:Int)(x6:(Int→Int→Option Int))(r:(List Int))(h:Zyn d1 a3 m4 b5 x6=some r):Con Tryz.prog 394 [Zb v2,rd (Z0 .i64) a3,rd (Z0 .i64) m4,rd (Z0 .i64) b5,fn2 Tryz.prog (Z0 .i64) (Z0 .i64) (Z0 .i64) x6] (Zf v2 3 (Z0 .i64) d1) (fun _:Unit=>top) (fun _=>Zf v2 3 (Z0 .i64) r):=by
 refine Con.intro Tryz.func394 rfl Tryz.ntmps394 rfl fun w H X Z=>?_
 unfold Zyn at h
 refine SR<|Md rfl<|Md rfl<|Ac (Z0r rfl rfl (vt rfl) (vt rfl)) rfl<|As rfl<|Nl<|SR<|Md rfl<|Md rfl<|Ac (Z0r rfl rfl (vt rfl) (vt rfl)) rfl<|As rfl<|Nl<|sq<|bk<|LG (d:=[]) (ν:=Nat×(List Int)×Int×Int) (fun (m13,l10,i11,j12)=>(True∧Zmj m4 x6 m13 l10 i11 j12=some r,m13,[(0,Zb v2),(2,rd (Z0 .i64) m4),(4,fn2 Tryz.prog (Z0 .i64) (Z0 .i64) (Z0 .i64) x6),(10,rd (Z0 .i64) i11),(11,rd (Z0 .i64) j12)],[(0,Zf v2 3 (Z0 .i64) l10)])) (Z0s,d1,(IntKind.i64.wrap (m4 - a3)),(IntKind.i64.wrap (b5 - m4))) ⟨trivial,h⟩ (FX rfl) ?_
 rintro ⟨m13,l10,i11,j12⟩ ⟨hsf1,h⟩
 dsimp only at h ⊢
 cases m13 with
 | zero=>cases h
 | succ m13=>
  unfold Zmj at h
  refine sq<|SR<|Md rfl<|Md rfl<|Ac (Z5t rfl rfl (vt rfl) (vt rfl)) rfl<|Nl<|Cq rfl h (fun h=>?_) (fun h=>?_)
  ·refine sk<|bk<|SR<|Md rfl<|Md rfl<|Ac (Z2m rfl rfl (vt rfl) (vt rfl)) rfl<|Nl<|Cq rfl h (fun h=>?_) (fun h=>?_)
   ·refine sq ?_
    obtain ⟨l14,hl14,h⟩:=Z7 h
    refine Rg<|Mw rfl<|Md rfl<|Md rfl<|Ac (Z0r rfl rfl (vt rfl) (vt rfl)) rfl<|Md rfl<|Md rfl<|Ac (Zq (A:=fn2 Tryz.prog (Z0 .i64) (Z0 .i64) (Z0 .i64) x6) rfl rfl (vt rfl)) rfl<|Cv rfl (Z1a 0 (xs:=[.tmp 24,.tmp 27,.tmp 28,.tmp 29,.tmp 30]) (Zw1 _ _ _ _ _ _ _ hl14) Zuc rfl rfl ⟨vt rfl,vt rfl,vt rfl,vt rfl,vt rfl,trivial⟩ rfl) fun _u=>Nl<|Rg<|Md rfl<|Md rfl<|Ac (Z0r rfl rfl (vt rfl) (vt rfl)) rfl<|As rfl<|Nl ?_
    exact ⟨(_,_,_,_),Nat.lt_succ_self _,⟨trivial,h⟩,FX rfl⟩
   ·refine sq ?_
    obtain ⟨l15,hl15,h⟩:=Z7 h
    refine Rg<|Mw rfl<|Md rfl<|Md rfl<|Ac (Z0r rfl rfl (vt rfl) (vt rfl)) rfl<|Md rfl<|Md rfl<|Ac (Z06 rfl rfl (vt rfl) (vt rfl)) rfl<|Md rfl<|Ac (Z0r rfl rfl (vt rfl) (vt rfl)) rfl<|Md rfl<|Ac (Zq (A:=fn2 Tryz.prog (Z0 .i64) (Z0 .i64) (Z0 .i64) x6) rfl rfl (vt rfl)) rfl<|Cv rfl (Z1a 0 (xs:=[.tmp 35,.tmp 38,.tmp 43,.tmp 44,.tmp 45]) (Zw1 _ _ _ _ _ _ _ hl15) Zuc rfl rfl ⟨vt rfl,vt rfl,vt rfl,vt rfl,vt rfl,trivial⟩ rfl) fun _u=>Nl<|Rg<|Md rfl<|Md rfl<|Ac (Z0r rfl rfl (vt rfl) (vt rfl)) rfl<|As rfl<|Nl ?_
    exact ⟨(_,_,_,_),Nat.lt_succ_self _,⟨trivial,h⟩,FX rfl⟩
  ·refine xt ?_
   obtain ⟨l16,hl16,h⟩:=Z7 h
   refine Rg<|Mw rfl<|Md rfl<|Md rfl<|Ac (Z0r rfl rfl (vt rfl) (vt rfl)) rfl<|Md rfl<|Md rfl<|Ac (Zq (A:=fn2 Tryz.prog (Z0 .i64) (Z0 .i64) (Z0 .i64) x6) rfl rfl (vt rfl)) rfl<|Cv rfl (Z1a 0 (xs:=[.tmp 50,.tmp 53,.tmp 54,.tmp 55,.tmp 56]) (Zw1 _ _ _ _ _ _ _ hl16) Zuc rfl rfl ⟨vt rfl,vt rfl,vt rfl,vt rfl,vt rfl,trivial⟩ rfl) fun _u=>Nl ?_
   cases h;exact Z2d (i:=0) Tryz.results394 rfl rfl
def Zrj (i9:Int):Nat→(List Int)→Int→Option (List Int)
 | 0,_,_=>none
 | m20+1,l18,k19=>(bif (decide (k19<(IntKind.i64.wrap (i9 - 1)))) then (lget l18 (IntKind.i64.wrap (k19+1))).bind fun x21=>(lget l18 k19).bind fun x22=>(lget l18 k19).bind fun x23=>(lget (List.set l18 k19.toNat x21) (IntKind.i64.wrap (k19+1))).bind fun x24=>(Zrj i9 m20) (List.set (List.set l18 k19.toNat x21) (IntKind.i64.wrap (k19+1)).toNat x22) (IntKind.i64.wrap (k19+1)) else some l18)
def Zk1 (d1:(List Int))(a3:Int)(x6:(Int→Int→Option Int)):Nat→Int→Int→Option (List Int)
 | 0,_,_=>none
 | m11+1,i9,j10=>(bif (decide (i9<j10)) then (Z3s (BitVec.ofInt 64 (IntKind.i64.wrap (i9+j10))) ((1:BitVec 64).toNat:Int)).bind fun q12=>(lget d1 (IntKind.i64.wrap (q12.toNat:Int))).bind fun x13=>(lget d1 a3).bind fun x14=>(x6 x13 x14).bind fun x15=>(bif (decide (x15<0)) then (Zk1 d1 a3 x6 m11) (IntKind.i64.wrap ((IntKind.i64.wrap (q12.toNat:Int))+1)) j10 else (Zk1 d1 a3 x6 m11) i9 (IntKind.i64.wrap (q12.toNat:Int))) else Zrj i9 ((((IntKind.i64.wrap (i9 - 1)):Int) - a3).toNat+1) d1 a3)
def Zpg (i27:Int):Nat→(List Int)→Int→Option (List Int)
 | 0,_,_=>none
 | m38+1,l36,k37=>(bif (decide (k37>i27)) then (lget l36 (IntKind.i64.wrap (k37 - 1))).bind fun x39=>(lget l36 k37).bind fun x40=>(lget l36 k37).bind fun x41=>(lget (List.set l36 k37.toNat x39) (IntKind.i64.wrap (k37 - 1))).bind fun x42=>(Zpg i27 m38) (List.set (List.set l36 k37.toNat x39) (IntKind.i64.wrap (k37 - 1)).toNat x40) (IntKind.i64.wrap (k37 - 1)) else some l36)
def Znv (d1:(List Int))(m4:Int)(x6:(Int→Int→Option Int)):Nat→Int→Int→Option (List Int)
 | 0,_,_=>none
 | m29+1,i27,j28=>(bif (decide (i27<j28)) then (Z3s (BitVec.ofInt 64 (IntKind.i64.wrap (i27+j28))) ((1:BitVec 64).toNat:Int)).bind fun q30=>(lget d1 m4).bind fun x31=>(lget d1 (IntKind.i64.wrap (q30.toNat:Int))).bind fun x32=>(x6 x31 x32).bind fun x33=>(bif (!(decide (x33<0))) then (Znv d1 m4 x6 m29) (IntKind.i64.wrap ((IntKind.i64.wrap (q30.toNat:Int))+1)) j28 else (Znv d1 m4 x6 m29) i27 (IntKind.i64.wrap (q30.toNat:Int))) else Zpg i27 (((m4:Int) - i27).toNat+1) d1 m4)
def Zo7 (q43:(BitVec 64))(m4:Int)(s48:Int)(b5:Int)(R_slices_symMergeCmpFunc_int:((List Int)→Int→Int→Int→(Int→Int→Option Int)→Option (List Int)))(x6:(Int→Int→Option Int))(l56:(List Int)):Option (List Int):=
 (bif ((decide ((IntKind.i64.wrap (q43.toNat:Int))<(IntKind.i64.wrap ((IntKind.i64.wrap ((IntKind.i64.wrap (q43.toNat:Int))+m4)) - s48))))&&(decide ((IntKind.i64.wrap ((IntKind.i64.wrap ((IntKind.i64.wrap (q43.toNat:Int))+m4)) - s48))<b5))) then (R_slices_symMergeCmpFunc_int l56 (IntKind.i64.wrap (q43.toNat:Int)) (IntKind.i64.wrap ((IntKind.i64.wrap ((IntKind.i64.wrap (q43.toNat:Int))+m4)) - s48)) b5 x6).bind fun l57=>some l57 else some l56)
def Zog (a3:Int)(s48:Int)(q43:(BitVec 64))(R_slices_symMergeCmpFunc_int:((List Int)→Int→Int→Int→(Int→Int→Option Int)→Option (List Int)))(x6:(Int→Int→Option Int))(m4:Int)(b5:Int)(l55:(List Int)):Option (List Int):=
 (bif ((decide (a3<s48))&&(decide (s48<(IntKind.i64.wrap (q43.toNat:Int))))) then (R_slices_symMergeCmpFunc_int l55 a3 s48 (IntKind.i64.wrap (q43.toNat:Int)) x6).bind fun l58=>Zo7 q43 m4 s48 b5 R_slices_symMergeCmpFunc_int x6 l58 else Zo7 q43 m4 s48 b5 R_slices_symMergeCmpFunc_int x6 l55)
def Zjx (d1:(List Int))(q43:(BitVec 64))(m4:Int)(x6:(Int→Int→Option Int))(a3:Int)(R_slices_symMergeCmpFunc_int:((List Int)→Int→Int→Int→(Int→Int→Option Int)→Option (List Int)))(b5:Int):Nat→Int→Int→Option (List Int)
 | 0,_,_=>none
 | m50+1,s48,x49=>(bif (decide (s48<x49)) then (Z3s (BitVec.ofInt 64 (IntKind.i64.wrap (s48+x49))) ((1:BitVec 64).toNat:Int)).bind fun q51=>(lget d1 (IntKind.i64.wrap ((IntKind.i64.wrap ((IntKind.i64.wrap ((IntKind.i64.wrap (q43.toNat:Int))+m4)) - 1)) - (IntKind.i64.wrap (q51.toNat:Int))))).bind fun x52=>(lget d1 (IntKind.i64.wrap (q51.toNat:Int))).bind fun x53=>(x6 x52 x53).bind fun x54=>(bif (!(decide (x54<0))) then (Zjx d1 q43 m4 x6 a3 R_slices_symMergeCmpFunc_int b5 m50) (IntKind.i64.wrap ((IntKind.i64.wrap (q51.toNat:Int))+1)) x49 else (Zjx d1 q43 m4 x6 a3 R_slices_symMergeCmpFunc_int b5 m50) s48 (IntKind.i64.wrap (q51.toNat:Int))) else (bif ((decide (s48<m4))&&(decide (m4<(IntKind.i64.wrap ((IntKind.i64.wrap ((IntKind.i64.wrap (q43.toNat:Int))+m4)) - s48))))) then (Zyn d1 s48 m4 (IntKind.i64.wrap ((IntKind.i64.wrap ((IntKind.i64.wrap (q43.toNat:Int))+m4)) - s48)) x6).bind fun l59=>Zog a3 s48 q43 R_slices_symMergeCmpFunc_int x6 m4 b5 l59 else Zog a3 s48 q43 R_slices_symMergeCmpFunc_int x6 m4 b5 d1))
def Zot (d1:(List Int))(q43:(BitVec 64))(m4:Int)(x6:(Int→Int→Option Int))(a3:Int)(R_slices_symMergeCmpFunc_int:((List Int)→Int→Int→Int→(Int→Int→Option Int)→Option (List Int)))(b5:Int)(s44:Int)(x45:Int):Option (List Int):=
 Zjx d1 q43 m4 x6 a3 R_slices_symMergeCmpFunc_int b5 (((x45:Int) - s44).toNat+1) s44 x45
def Zx0 (R_slices_symMergeCmpFunc_int:((List Int)→Int→Int→Int→(Int→Int→Option Int)→Option (List Int)))(d1:(List Int))(a3:Int)(m4:Int)(b5:Int)(x6:(Int→Int→Option Int)):Option (List Int):=
 (bif (decide ((IntKind.i64.wrap (m4 - a3))=1)) then Zk1 d1 a3 x6 (((b5:Int) - m4).toNat+1) m4 b5 else (bif (decide ((IntKind.i64.wrap (b5 - m4))=1)) then Znv d1 m4 x6 (((m4:Int) - a3).toNat+1) a3 m4 else (Z3s (BitVec.ofInt 64 (IntKind.i64.wrap (a3+b5))) ((1:BitVec 64).toNat:Int)).bind fun q43=>(bif (decide (m4>(IntKind.i64.wrap (q43.toNat:Int)))) then Zot d1 q43 m4 x6 a3 R_slices_symMergeCmpFunc_int b5 (IntKind.i64.wrap ((IntKind.i64.wrap ((IntKind.i64.wrap (q43.toNat:Int))+m4)) - b5)) (IntKind.i64.wrap (q43.toNat:Int)) else Zot d1 q43 m4 x6 a3 R_slices_symMergeCmpFunc_int b5 a3 m4)))
theorem Ywk (R_slices_symMergeCmpFunc_int:((List Int)→Int→Int→Int→(Int→Int→Option Int)→Option (List Int)))(hR_slices_symMergeCmpFunc_int:∀(v2:Value) (d1:(List Int)) (a3:Int) (m4:Int) (b5:Int) (x6:(Int→Int→Option Int)) (r:(List Int)),R_slices_symMergeCmpFunc_int d1 a3 m4 b5 x6=some r→Con Tryz.prog 381 [Zb v2,rd (Z0 .i64) a3,rd (Z0 .i64) m4,rd (Z0 .i64) b5,fn2 Tryz.prog (Z0 .i64) (Z0 .i64) (Z0 .i64) x6] (Zf v2 3 (Z0 .i64) d1) (fun _:Unit=>top) (fun _=>Zf v2 3 (Z0 .i64) r))(v2:Value)(d1:(List Int))(a3:Int)(m4:Int)(b5:Int)(x6:(Int→Int→Option Int))(r:(List Int))(h:Zx0 R_slices_symMergeCmpFunc_int d1 a3 m4 b5 x6=some r):Con Tryz.prog 381 [Zb v2,rd (Z0 .i64) a3,rd (Z0 .i64) m4,rd (Z0 .i64) b5,fn2 Tryz.prog (Z0 .i64) (Z0 .i64) (Z0 .i64) x6] (Zf v2 3 (Z0 .i64) d1) (fun _:Unit=>top) (fun _=>Zf v2 3 (Z0 .i64) r):=by
 refine Con.intro Tryz.func381 rfl Tryz.ntmps381 rfl fun w H X Z=>?_
 unfold Zx0 at h
 refine sq<|SR<|Md rfl<|Md rfl<|Ac (Z0r rfl rfl (vt rfl) (vt rfl)) rfl<|Ac (Z0j rfl rfl (vt rfl) (vk rfl)) rfl<|Nl<|Cq rfl h (fun h=>?_) (fun h=>?_)
 ·refine SR<|Md rfl<|As rfl<|Nl<|SR<|Md rfl<|As rfl<|Nl<|sq<|bk<|LG (d:=[]) (ν:=Nat×Int×Int) (fun (m11,i9,j10)=>(True∧Zk1 d1 a3 x6 m11 i9 j10=some r,m11,[(0,Zb v2),(1,rd (Z0 .i64) a3),(4,fn2 Tryz.prog (Z0 .i64) (Z0 .i64) (Z0 .i64) x6),(10,rd (Z0 .i64) i9),(11,rd (Z0 .i64) j10)],[(0,Zf v2 3 (Z0 .i64) d1)])) ((((b5:Int) - m4).toNat+1),m4,b5) ⟨trivial,h⟩ (FX rfl) ?_
  rintro ⟨m11,i9,j10⟩ ⟨hsf1,h⟩
  dsimp only at h ⊢
  cases m11 with
  | zero=>cases h
  | succ m11=>
   unfold Zk1 at h
   refine sq<|SR<|Md rfl<|Md rfl<|Ac (Zj rfl rfl (vt rfl) (vt rfl)) rfl<|Nl<|Cq rfl h (fun h=>?_) (fun h=>?_)
   ·refine sk<|bk<|sq ?_
    obtain ⟨q12,hq12,h⟩:=Z7 h
    refine Rg<|Md rfl<|Md rfl<|Ac (Z06 rfl rfl (vt rfl) (vt rfl)) rfl<|Ac (Z8s rfl rfl us3 Z94 (vt rfl)) rfl<|Ac (Z67 rfl rfl (vt rfl) (Z5a (vku (1:BitVec 64) rfl)) hq12) rfl<|Ac (Zam rfl rfl Zc2 un3 (vt rfl)) rfl<|As rfl<|Nl<|sq ?_
    obtain ⟨x13,hx13,x14,hx14,x15,hx15,h⟩:=bs3 h
    refine AR Z00 (by kernel_rfl)<|Sd (lo [4] [] rfl fun S hs hr=>Zq (A:=fn2 Tryz.prog (Z0 .i64) (Z0 .i64) (Z0 .i64) x6) rfl rfl (vh hs 4 rfl rfl))<|SMw rfl<|Zt rfl<|Sd (lo [41,42] [0] rfl fun S hs hr=>Z22 0 rfl rfl Z11 (vh hs 41 rfl rfl) ((hr 0 rfl).trans rfl) (vh hs 42 rfl rfl) hx13)<|Sd (lo [43] [0] rfl fun S hs hr=>Z1q 0 rfl rfl Zp (vh hs 43 rfl rfl) ((hr 0 rfl).trans rfl) (Z0m hx13).2)<|SMw rfl<|Zt rfl<|Sd (lo [45,46] [0] rfl fun S hs hr=>Z22 0 rfl rfl Z11 (vh hs 45 rfl rfl) ((hr 0 rfl).trans rfl) (vh hs 46 rfl rfl) hx14)<|Sd (lo [47] [0] rfl fun S hs hr=>Z1q 0 rfl rfl Zp (vh hs 47 rfl rfl) ((hr 0 rfl).trans rfl) (Z0m hx14).2)<|Sd (lo [40,44,48] [] rfl fun S hs hr=>Zbr hx15 rfl rfl (vh hs 40 rfl rfl) (vh hs 44 rfl rfl) (vh hs 48 rfl rfl))<|Sd (lo [49] [] rfl fun S hs hr=>Zj rfl rfl (vh hs 49 rfl rfl) (vk rfl))<|Sn<|Cq rfl h (fun h=>?_) (fun h=>?_)
    ·refine Rg<|Md rfl<|Ac (Z06 rfl rfl (vt rfl) (vk rfl)) rfl<|As rfl<|Nl ?_
     exact ⟨(_,_,_),Nat.lt_succ_self _,⟨trivial,h⟩,FX rfl⟩
    ·refine Rg<|Md rfl<|As rfl<|Nl ?_
     exact ⟨(_,_,_),Nat.lt_succ_self _,⟨trivial,h⟩,FX rfl⟩
   ·refine xt<|sq<|SR<|Md rfl<|As rfl<|Nl<|bk<|LG (d:=[]) (ν:=Nat×(List Int)×Int) (fun (m20,l18,k19)=>(True∧Zrj i9 m20 l18 k19=some r,m20,[(0,Zb v2),(10,rd (Z0 .i64) i9),(13,rd (Z0 .i64) k19)],[(0,Zf v2 3 (Z0 .i64) l18)])) (((((IntKind.i64.wrap (i9 - 1)):Int) - a3).toNat+1),d1,a3) ⟨trivial,h⟩ (FX rfl) ?_
    rintro ⟨m20,l18,k19⟩ ⟨hsf2,h⟩
    dsimp only at h ⊢
    cases m20 with
    | zero=>cases h
    | succ m20=>
     unfold Zrj at h
     refine sq<|SR<|Md rfl<|Md rfl<|Ac (Z0r rfl rfl (vt rfl) (vk rfl)) rfl<|Ac (Zj rfl rfl (vt rfl) (vt rfl)) rfl<|Nl<|Cq rfl h (fun h=>?_) (fun h=>?_)
     ·refine sk<|sq<|bk<|AW.vlen 0 rfl fun hvl0_205=>?_
      obtain ⟨x21,hx21,x22,hx22,x23,hx23,x24,hx24,h⟩:=bs4 h
      refine AR Z00 (by kernel_rfl)<|SMw rfl<|Zt rfl<|SMw rfl<|Zt rfl<|Sd (lo [64] [] rfl fun S hs hr=>Z06 rfl rfl (vh hs 64 rfl rfl) (vk rfl))<|SMw rfl<|Zt rfl<|Sd (lo [67] [] rfl fun S hs hr=>Z06 rfl rfl (vh hs 67 rfl rfl) (vk rfl))<|Sd (lo [66,68] [] rfl fun S hs hr=>Z2j (l:=l18) hvl0_205 rfl rfl rfl Z11 (vh hs 66 rfl rfl) (vh hs 68 rfl rfl) hx21)<|Sd (lo [69] [0] rfl fun S hs hr=>Z1q 0 rfl rfl Zp (vh hs 69 rfl rfl) ((hr 0 rfl).trans rfl) (Z0m hx21).2)<|SMw rfl<|Zt rfl<|Sd (lo [71,72] [] rfl fun S hs hr=>Z2j (l:=l18) hvl0_205 rfl rfl rfl Z11 (vh hs 71 rfl rfl) (vh hs 72 rfl rfl) hx22)<|Sd (lo [73] [0] rfl fun S hs hr=>Z1q 0 rfl rfl Zp (vh hs 73 rfl rfl) ((hr 0 rfl).trans rfl) (Z0m hx22).2)<|Sd (lo [61,62] [] rfl fun S hs hr=>Z2j (l:=l18) hvl0_205 rfl rfl rfl Z11 (vh hs 61 rfl rfl) (vh hs 62 rfl rfl) hx23)<|Sd (Z4a [75,70] [0] rfl fun S hs hr=>Z2w 0 rfl rfl Zp (vh hs 75 rfl rfl) ((hr 0 rfl).trans rfl) (Z0m hx23).2 (vh hs 70 rfl rfl))<|Sd (lo [63,65] [] rfl fun S hs hr=>Z2j (l:=(List.set l18 k19.toNat x21)) hvl0_205 (by simp) rfl rfl Z11 (vh hs 63 rfl rfl) (vh hs 65 rfl rfl) hx24)<|Sd (Z4a [76,74] [0] rfl fun S hs hr=>Z2w 0 rfl rfl Zp (vh hs 76 rfl rfl) ((hr 0 rfl).trans rfl) (Z0m hx24).2 (vh hs 74 rfl rfl))<|Sn<|Rg<|Md rfl<|Ac (Z06 rfl rfl (vt rfl) (vk rfl)) rfl<|As rfl<|Nl ?_
      exact ⟨(_,_,_),Nat.lt_succ_self _,⟨trivial,h⟩,FX rfl⟩
     ·refine xt<|rt ?_
      cases h;exact Z2d (i:=0) Tryz.results381 rfl rfl
 ·refine sk<|sq<|SR<|Md rfl<|Md rfl<|Ac (Z0r rfl rfl (vt rfl) (vt rfl)) rfl<|Ac (Z0j rfl rfl (vt rfl) (vk rfl)) rfl<|Nl<|Cq rfl h (fun h=>?_) (fun h=>?_)
  ·refine SR<|Md rfl<|As rfl<|Nl<|SR<|Md rfl<|As rfl<|Nl<|sq<|bk<|LG (d:=[]) (ν:=Nat×Int×Int) (fun (m29,i27,j28)=>(True∧Znv d1 m4 x6 m29 i27 j28=some r,m29,[(0,Zb v2),(2,rd (Z0 .i64) m4),(4,fn2 Tryz.prog (Z0 .i64) (Z0 .i64) (Z0 .i64) x6),(14,rd (Z0 .i64) i27),(15,rd (Z0 .i64) j28)],[(0,Zf v2 3 (Z0 .i64) d1)])) ((((m4:Int) - a3).toNat+1),a3,m4) ⟨trivial,h⟩ (FX rfl) ?_
   rintro ⟨m29,i27,j28⟩ ⟨hsf3,h⟩
   dsimp only at h ⊢
   cases m29 with
   | zero=>cases h
   | succ m29=>
    unfold Znv at h
    refine sq<|SR<|Md rfl<|Md rfl<|Ac (Zj rfl rfl (vt rfl) (vt rfl)) rfl<|Nl<|Cq rfl h (fun h=>?_) (fun h=>?_)
    ·refine sk<|bk<|sq ?_
     obtain ⟨q30,hq30,h⟩:=Z7 h
     refine Rg<|Md rfl<|Md rfl<|Ac (Z06 rfl rfl (vt rfl) (vt rfl)) rfl<|Ac (Z8s rfl rfl us3 Z94 (vt rfl)) rfl<|Ac (Z67 rfl rfl (vt rfl) (Z5a (vku (1:BitVec 64) rfl)) hq30) rfl<|Ac (Zam rfl rfl Zc2 un3 (vt rfl)) rfl<|As rfl<|Nl<|sq ?_
     obtain ⟨x31,hx31,x32,hx32,x33,hx33,h⟩:=bs3 h
     refine AR Z00 (by kernel_rfl)<|Sd (lo [4] [] rfl fun S hs hr=>Zq (A:=fn2 Tryz.prog (Z0 .i64) (Z0 .i64) (Z0 .i64) x6) rfl rfl (vh hs 4 rfl rfl))<|SMw rfl<|Zt rfl<|Sd (lo [93,94] [0] rfl fun S hs hr=>Z22 0 rfl rfl Z11 (vh hs 93 rfl rfl) ((hr 0 rfl).trans rfl) (vh hs 94 rfl rfl) hx31)<|Sd (lo [95] [0] rfl fun S hs hr=>Z1q 0 rfl rfl Zp (vh hs 95 rfl rfl) ((hr 0 rfl).trans rfl) (Z0m hx31).2)<|SMw rfl<|Zt rfl<|Sd (lo [97,98] [0] rfl fun S hs hr=>Z22 0 rfl rfl Z11 (vh hs 97 rfl rfl) ((hr 0 rfl).trans rfl) (vh hs 98 rfl rfl) hx32)<|Sd (lo [99] [0] rfl fun S hs hr=>Z1q 0 rfl rfl Zp (vh hs 99 rfl rfl) ((hr 0 rfl).trans rfl) (Z0m hx32).2)<|Sd (lo [92,96,100] [] rfl fun S hs hr=>Zbr hx33 rfl rfl (vh hs 92 rfl rfl) (vh hs 96 rfl rfl) (vh hs 100 rfl rfl))<|Sd (lo [101] [] rfl fun S hs hr=>Zj rfl rfl (vh hs 101 rfl rfl) (vk rfl))<|Sd (lo [102] [] rfl fun S hs hr=>Z0y rfl rfl (vh hs 102 rfl rfl))<|Sn<|Cq rfl h (fun h=>?_) (fun h=>?_)
     ·refine Rg<|Md rfl<|Ac (Z06 rfl rfl (vt rfl) (vk rfl)) rfl<|As rfl<|Nl ?_
      exact ⟨(_,_,_),Nat.lt_succ_self _,⟨trivial,h⟩,FX rfl⟩
     ·refine Rg<|Md rfl<|As rfl<|Nl ?_
      exact ⟨(_,_,_),Nat.lt_succ_self _,⟨trivial,h⟩,FX rfl⟩
    ·refine xt<|sq<|SR<|Md rfl<|As rfl<|Nl<|bk<|LG (d:=[]) (ν:=Nat×(List Int)×Int) (fun (m38,l36,k37)=>(True∧Zpg i27 m38 l36 k37=some r,m38,[(0,Zb v2),(14,rd (Z0 .i64) i27),(17,rd (Z0 .i64) k37)],[(0,Zf v2 3 (Z0 .i64) l36)])) ((((m4:Int) - i27).toNat+1),d1,m4) ⟨trivial,h⟩ (FX rfl) ?_
     rintro ⟨m38,l36,k37⟩ ⟨hsf4,h⟩
     dsimp only at h ⊢
     cases m38 with
     | zero=>cases h
     | succ m38=>
      unfold Zpg at h
      refine sq<|SR<|Md rfl<|Md rfl<|Ac (Z2m rfl rfl (vt rfl) (vt rfl)) rfl<|Nl<|Cq rfl h (fun h=>?_) (fun h=>?_)
      ·refine sk<|sq<|bk<|AW.vlen 0 rfl fun hvl0_446=>?_
       obtain ⟨x39,hx39,x40,hx40,x41,hx41,x42,hx42,h⟩:=bs4 h
       refine AR Z00 (by kernel_rfl)<|SMw rfl<|Zt rfl<|SMw rfl<|Zt rfl<|Sd (lo [116] [] rfl fun S hs hr=>Z0r rfl rfl (vh hs 116 rfl rfl) (vk rfl))<|SMw rfl<|Zt rfl<|Sd (lo [119] [] rfl fun S hs hr=>Z0r rfl rfl (vh hs 119 rfl rfl) (vk rfl))<|Sd (lo [118,120] [] rfl fun S hs hr=>Z2j (l:=l36) hvl0_446 rfl rfl rfl Z11 (vh hs 118 rfl rfl) (vh hs 120 rfl rfl) hx39)<|Sd (lo [121] [0] rfl fun S hs hr=>Z1q 0 rfl rfl Zp (vh hs 121 rfl rfl) ((hr 0 rfl).trans rfl) (Z0m hx39).2)<|SMw rfl<|Zt rfl<|Sd (lo [123,124] [] rfl fun S hs hr=>Z2j (l:=l36) hvl0_446 rfl rfl rfl Z11 (vh hs 123 rfl rfl) (vh hs 124 rfl rfl) hx40)<|Sd (lo [125] [0] rfl fun S hs hr=>Z1q 0 rfl rfl Zp (vh hs 125 rfl rfl) ((hr 0 rfl).trans rfl) (Z0m hx40).2)<|Sd (lo [113,114] [] rfl fun S hs hr=>Z2j (l:=l36) hvl0_446 rfl rfl rfl Z11 (vh hs 113 rfl rfl) (vh hs 114 rfl rfl) hx41)<|Sd (Z4a [127,122] [0] rfl fun S hs hr=>Z2w 0 rfl rfl Zp (vh hs 127 rfl rfl) ((hr 0 rfl).trans rfl) (Z0m hx41).2 (vh hs 122 rfl rfl))<|Sd (lo [115,117] [] rfl fun S hs hr=>Z2j (l:=(List.set l36 k37.toNat x39)) hvl0_446 (by simp) rfl rfl Z11 (vh hs 115 rfl rfl) (vh hs 117 rfl rfl) hx42)<|Sd (Z4a [128,126] [0] rfl fun S hs hr=>Z2w 0 rfl rfl Zp (vh hs 128 rfl rfl) ((hr 0 rfl).trans rfl) (Z0m hx42).2 (vh hs 126 rfl rfl))<|Sn<|Rg<|Md rfl<|Ac (Z0r rfl rfl (vt rfl) (vk rfl)) rfl<|As rfl<|Nl ?_
       exact ⟨(_,_,_),Nat.lt_succ_self _,⟨trivial,h⟩,FX rfl⟩
      ·refine xt<|rt ?_
       cases h;exact Z2d (i:=0) Tryz.results381 rfl rfl
  ·refine sk<|sq ?_
   obtain ⟨q43,hq43,h⟩:=Z7 h
   refine Rg<|Md rfl<|Md rfl<|Ac (Z06 rfl rfl (vt rfl) (vt rfl)) rfl<|Ac (Z8s rfl rfl us3 Z94 (vt rfl)) rfl<|Ac (Z67 rfl rfl (vt rfl) (Z5a (vku (1:BitVec 64) rfl)) hq43) rfl<|Ac (Zam rfl rfl Zc2 un3 (vt rfl)) rfl<|As rfl<|Nl<|SR<|Md rfl<|Md rfl<|Ac (Z06 rfl rfl (vt rfl) (vt rfl)) rfl<|As rfl<|Nl<|SR<|Ak rfl<|Ak rfl<|Nl ?_
   refine JN (d:=[]) (ν:=Int×Int) (fun (s44,x45)=>(Zot d1 q43 m4 x6 a3 R_slices_symMergeCmpFunc_int b5 s44 x45=some r,[(0,Zb v2),(1,rd (Z0 .i64) a3),(2,rd (Z0 .i64) m4),(3,rd (Z0 .i64) b5),(4,fn2 Tryz.prog (Z0 .i64) (Z0 .i64) (Z0 .i64) x6),(18,rd (Z0 .i64) (IntKind.i64.wrap (q43.toNat:Int))),(19,rd (Z0 .i64) (IntKind.i64.wrap ((IntKind.i64.wrap (q43.toNat:Int))+m4))),(20,rd (Z0 .i64) s44),(21,rd (Z0 .i64) x45)],[(0,Zf v2 3 (Z0 .i64) d1)])) ?hx5 ?hy5
   case hy5=>
    rintro ⟨s44,x45⟩ h
    dsimp only at h ⊢
    unfold Zot at h
    refine SR<|Md rfl<|Ac (Z0r rfl rfl (vt rfl) (vk rfl)) rfl<|As rfl<|Nl<|sq<|bk<|LG (d:=[]) (ν:=Nat×Int×Int) (fun (m50,s48,x49)=>(True∧Zjx d1 q43 m4 x6 a3 R_slices_symMergeCmpFunc_int b5 m50 s48 x49=some r,m50,[(0,Zb v2),(1,rd (Z0 .i64) a3),(2,rd (Z0 .i64) m4),(3,rd (Z0 .i64) b5),(4,fn2 Tryz.prog (Z0 .i64) (Z0 .i64) (Z0 .i64) x6),(18,rd (Z0 .i64) (IntKind.i64.wrap (q43.toNat:Int))),(19,rd (Z0 .i64) (IntKind.i64.wrap ((IntKind.i64.wrap (q43.toNat:Int))+m4))),(20,rd (Z0 .i64) s48),(21,rd (Z0 .i64) x49),(22,rd (Z0 .i64) (IntKind.i64.wrap ((IntKind.i64.wrap ((IntKind.i64.wrap (q43.toNat:Int))+m4)) - 1)))],[(0,Zf v2 3 (Z0 .i64) d1)])) ((((x45:Int) - s44).toNat+1),s44,x45) ⟨trivial,h⟩ (FX rfl) ?_
    rintro ⟨m50,s48,x49⟩ ⟨hsf6,h⟩
    dsimp only at h ⊢
    cases m50 with
    | zero=>cases h
    | succ m50=>
     unfold Zjx at h
     refine sq<|SR<|Md rfl<|Md rfl<|Ac (Zj rfl rfl (vt rfl) (vt rfl)) rfl<|Nl<|Cq rfl h (fun h=>?_) (fun h=>?_)
     ·refine sk<|bk<|sq ?_
      obtain ⟨q51,hq51,h⟩:=Z7 h
      refine Rg<|Md rfl<|Md rfl<|Ac (Z06 rfl rfl (vt rfl) (vt rfl)) rfl<|Ac (Z8s rfl rfl us3 Z94 (vt rfl)) rfl<|Ac (Z67 rfl rfl (vt rfl) (Z5a (vku (1:BitVec 64) rfl)) hq51) rfl<|Ac (Zam rfl rfl Zc2 un3 (vt rfl)) rfl<|As rfl<|Nl<|sq ?_
      obtain ⟨x52,hx52,x53,hx53,x54,hx54,h⟩:=bs3 h
      refine AR Z00 (by kernel_rfl)<|Sd (lo [4] [] rfl fun S hs hr=>Zq (A:=fn2 Tryz.prog (Z0 .i64) (Z0 .i64) (Z0 .i64) x6) rfl rfl (vh hs 4 rfl rfl))<|SMw rfl<|Zt rfl<|Zt rfl<|Sd (lo [160,161] [] rfl fun S hs hr=>Z0r rfl rfl (vh hs 160 rfl rfl) (vh hs 161 rfl rfl))<|Sd (lo [159,162] [0] rfl fun S hs hr=>Z22 0 rfl rfl Z11 (vh hs 159 rfl rfl) ((hr 0 rfl).trans rfl) (vh hs 162 rfl rfl) hx52)<|Sd (lo [163] [0] rfl fun S hs hr=>Z1q 0 rfl rfl Zp (vh hs 163 rfl rfl) ((hr 0 rfl).trans rfl) (Z0m hx52).2)<|SMw rfl<|Zt rfl<|Sd (lo [165,166] [0] rfl fun S hs hr=>Z22 0 rfl rfl Z11 (vh hs 165 rfl rfl) ((hr 0 rfl).trans rfl) (vh hs 166 rfl rfl) hx53)<|Sd (lo [167] [0] rfl fun S hs hr=>Z1q 0 rfl rfl Zp (vh hs 167 rfl rfl) ((hr 0 rfl).trans rfl) (Z0m hx53).2)<|Sd (lo [158,164,168] [] rfl fun S hs hr=>Zbr hx54 rfl rfl (vh hs 158 rfl rfl) (vh hs 164 rfl rfl) (vh hs 168 rfl rfl))<|Sd (lo [169] [] rfl fun S hs hr=>Zj rfl rfl (vh hs 169 rfl rfl) (vk rfl))<|Sd (lo [170] [] rfl fun S hs hr=>Z0y rfl rfl (vh hs 170 rfl rfl))<|Sn<|Cq rfl h (fun h=>?_) (fun h=>?_)
      ·refine Rg<|Md rfl<|Ac (Z06 rfl rfl (vt rfl) (vk rfl)) rfl<|As rfl<|Nl ?_
       exact ⟨(_,_,_),Nat.lt_succ_self _,⟨trivial,h⟩,FX rfl⟩
      ·refine Rg<|Md rfl<|As rfl<|Nl ?_
       exact ⟨(_,_,_),Nat.lt_succ_self _,⟨trivial,h⟩,FX rfl⟩
     ·refine xt<|SR<|Md rfl<|Md rfl<|Ac (Z0r rfl rfl (vt rfl) (vt rfl)) rfl<|As rfl<|Nl ?_
      refine JN (d:=[]) (ν:=(List Int)) (fun l55=>(Zog a3 s48 q43 R_slices_symMergeCmpFunc_int x6 m4 b5 l55=some r,[(0,Zb v2),(1,rd (Z0 .i64) a3),(3,rd (Z0 .i64) b5),(4,fn2 Tryz.prog (Z0 .i64) (Z0 .i64) (Z0 .i64) x6),(18,rd (Z0 .i64) (IntKind.i64.wrap (q43.toNat:Int))),(20,rd (Z0 .i64) s48),(24,rd (Z0 .i64) (IntKind.i64.wrap ((IntKind.i64.wrap ((IntKind.i64.wrap (q43.toNat:Int))+m4)) - s48)))],[(0,Zf v2 3 (Z0 .i64) l55)])) ?hx7 ?hy7
      case hy7=>
       intro l55 h
       dsimp only at h ⊢
       unfold Zog at h
       refine JN (d:=[]) (ν:=(List Int)) (fun l56=>(Zo7 q43 m4 s48 b5 R_slices_symMergeCmpFunc_int x6 l56=some r,[(0,Zb v2),(3,rd (Z0 .i64) b5),(4,fn2 Tryz.prog (Z0 .i64) (Z0 .i64) (Z0 .i64) x6),(18,rd (Z0 .i64) (IntKind.i64.wrap (q43.toNat:Int))),(24,rd (Z0 .i64) (IntKind.i64.wrap ((IntKind.i64.wrap ((IntKind.i64.wrap (q43.toNat:Int))+m4)) - s48)))],[(0,Zf v2 3 (Z0 .i64) l56)])) ?hx8 ?hy8
       case hy8=>
        intro l56 h
        dsimp only at h ⊢
        unfold Zo7 at h
        refine SR<|Md rfl<|Md rfl<|Ac (Zj rfl rfl (vt rfl) (vt rfl)) rfl<|Md rfl<|Gd rfl (fun hq=>Zq (A:=rd (Z0 .i64) (IntKind.i64.wrap ((IntKind.i64.wrap ((IntKind.i64.wrap (q43.toNat:Int))+m4)) - s48))) rfl rfl (vt rfl))<|Gd rfl (fun hq=>Zq (A:=rd (Z0 .i64) b5) rfl rfl (vt rfl))<|Gd rfl (fun hq=>Zj rfl rfl (Zi rfl hq) (Zi rfl hq))<|Ac (Z1k rfl rfl (vt rfl) (vt rfl)) rfl<|Nl<|Cq rfl h (fun h=>?_) (fun h=>?_)
        ·obtain ⟨l57,hl57,h⟩:=Z7 h
         refine Rg<|Mw rfl<|Md rfl<|Md rfl<|Md rfl<|Ac (Zq (A:=fn2 Tryz.prog (Z0 .i64) (Z0 .i64) (Z0 .i64) x6) rfl rfl (vt rfl)) rfl<|Cv rfl (Z1a 0 (xs:=[.tmp 214,.tmp 215,.tmp 216,.tmp 217,.tmp 218]) (hR_slices_symMergeCmpFunc_int _ _ _ _ _ _ _ hl57) Zp4 rfl rfl ⟨vt rfl,vt rfl,vt rfl,vt rfl,vt rfl,trivial⟩ rfl) fun _u=>Nl ?_
         cases h;exact Z2d (i:=0) Tryz.results381 rfl rfl
        ·refine sk ?_
         cases h;exact Z2d (i:=0) Tryz.results381 rfl rfl
       case hx8=>
        refine SR<|Md rfl<|Md rfl<|Ac (Zj rfl rfl (vt rfl) (vt rfl)) rfl<|Md rfl<|Gd rfl (fun hq=>Zq (A:=rd (Z0 .i64) s48) rfl rfl (vt rfl))<|Gd rfl (fun hq=>Zq (A:=rd (Z0 .i64) (IntKind.i64.wrap (q43.toNat:Int))) rfl rfl (vt rfl))<|Gd rfl (fun hq=>Zj rfl rfl (Zi rfl hq) (Zi rfl hq))<|Ac (Z1k rfl rfl (vt rfl) (vt rfl)) rfl<|Nl<|Cq rfl h (fun h=>?_) (fun h=>?_)
        ·obtain ⟨l58,hl58,h⟩:=Z7 h
         refine Rg<|Mw rfl<|Md rfl<|Md rfl<|Md rfl<|Ac (Zq (A:=fn2 Tryz.prog (Z0 .i64) (Z0 .i64) (Z0 .i64) x6) rfl rfl (vt rfl)) rfl<|Cv rfl (Z1a 0 (xs:=[.tmp 200,.tmp 201,.tmp 202,.tmp 203,.tmp 204]) (hR_slices_symMergeCmpFunc_int _ _ _ _ _ _ _ hl58) Zp4 rfl rfl ⟨vt rfl,vt rfl,vt rfl,vt rfl,vt rfl,trivial⟩ rfl) fun _u=>Nl ?_
         exact ⟨_,h,FX rfl⟩
        ·refine sk ?_
         exact ⟨_,h,FX rfl⟩
      case hx7=>
       refine SR<|Md rfl<|Md rfl<|Ac (Zj rfl rfl (vt rfl) (vt rfl)) rfl<|Md rfl<|Gd rfl (fun hq=>Zq (A:=rd (Z0 .i64) m4) rfl rfl (vt rfl))<|Gd rfl (fun hq=>Zq (A:=rd (Z0 .i64) (IntKind.i64.wrap ((IntKind.i64.wrap ((IntKind.i64.wrap (q43.toNat:Int))+m4)) - s48))) rfl rfl (vt rfl))<|Gd rfl (fun hq=>Zj rfl rfl (Zi rfl hq) (Zi rfl hq))<|Ac (Z1k rfl rfl (vt rfl) (vt rfl)) rfl<|Nl<|Cq rfl h (fun h=>?_) (fun h=>?_)
       ·obtain ⟨l59,hl59,h⟩:=Z7 h
        refine Rg<|Mw rfl<|Md rfl<|Md rfl<|Md rfl<|Ac (Zq (A:=fn2 Tryz.prog (Z0 .i64) (Z0 .i64) (Z0 .i64) x6) rfl rfl (vt rfl)) rfl<|Cv rfl (Z1a 0 (xs:=[.tmp 186,.tmp 187,.tmp 188,.tmp 189,.tmp 190]) (Yp1 _ _ _ _ _ _ _ hl59) Ytt rfl rfl ⟨vt rfl,vt rfl,vt rfl,vt rfl,vt rfl,trivial⟩ rfl) fun _u=>Nl ?_
        exact ⟨_,h,FX rfl⟩
       ·refine sk ?_
        exact ⟨_,h,FX rfl⟩
   case hx5=>
    refine SR<|Md rfl<|Md rfl<|Ac (Z2m rfl rfl (vt rfl) (vt rfl)) rfl<|Nl<|Cq rfl h (fun h=>?_) (fun h=>?_)
    ·refine SR<|Md rfl<|Md rfl<|Ac (Z0r rfl rfl (vt rfl) (vt rfl)) rfl<|As rfl<|Nl<|Rg<|Md rfl<|As rfl<|Nl ?_
     exact ⟨(_,_),h,FX rfl⟩
    ·refine SR<|Md rfl<|As rfl<|Nl<|Rg<|Md rfl<|As rfl<|Nl ?_
     exact ⟨(_,_),h,FX rfl⟩
def Zo6:Nat→((List Int)→Int→Int→Int→(Int→Int→Option Int)→Option (List Int))
 | 0=>(fun _ _ _ _ _=>none)
 | n+1=>(Zx0 (Zo6 n))
theorem Y3l:∀n:Nat,(∀(v2:Value) (d1:(List Int)) (a3:Int) (m4:Int) (b5:Int) (x6:(Int→Int→Option Int)) (r:(List Int)),(Zo6 n) d1 a3 m4 b5 x6=some r→Con Tryz.prog 381 [Zb v2,rd (Z0 .i64) a3,rd (Z0 .i64) m4,rd (Z0 .i64) b5,fn2 Tryz.prog (Z0 .i64) (Z0 .i64) (Z0 .i64) x6] (Zf v2 3 (Z0 .i64) d1) (fun _:Unit=>top) (fun _=>Zf v2 3 (Z0 .i64) r))
 | 0=>(by intros;rename_i h;cases h)
 | n+1=>by
  have ih:=Y3l n
  exact (Ywk (Zo6 n) ih)
def Zuv (d1:(List Int))(a3:Int)(m4:Int)(b5:Int)(x6:(Int→Int→Option Int)):Option (List Int):=(Zo6 Z0s) d1 a3 m4 b5 x6
theorem Y2s:∀(v2:Value) (d1:(List Int)) (a3:Int) (m4:Int) (b5:Int) (x6:(Int→Int→Option Int)) (r:(List Int)),Zuv d1 a3 m4 b5 x6=some r→Con Tryz.prog 381 [Zb v2,rd (Z0 .i64) a3,rd (Z0 .i64) m4,rd (Z0 .i64) b5,fn2 Tryz.prog (Z0 .i64) (Z0 .i64) (Z0 .i64) x6] (Zf v2 3 (Z0 .i64) d1) (fun _:Unit=>top) (fun _=>Zf v2 3 (Z0 .i64) r):=Y3l Z0s
def Zqc (n3:Int)(b17:Int)(x4:(Int→Int→Option Int))(go2:(List Int)→Int→Option (List Int)):Nat→(List Int)→Int→Int→Option (List Int)
 | 0,_,_,_=>none
 | m25+1,l22,a23,b24=>(bif (decide (b24≤n3)) then (Zuv l22 a23 (IntKind.i64.wrap (a23+b17)) b24 x4).bind fun l26=>(Zqc n3 b17 x4 go2 m25) l26 b24 (IntKind.i64.wrap (b24+(IntKind.i64.wrap (2*b17)))) else (bif (decide ((IntKind.i64.wrap (a23+b17))<n3)) then (Zuv l22 a23 (IntKind.i64.wrap (a23+b17)) n3 x4).bind fun l27=>go2 l27 (IntKind.i64.wrap (b17*2)) else go2 l22 (IntKind.i64.wrap (b17*2))))
def Zhb (n3:Int)(x4:(Int→Int→Option Int)):Nat→(List Int)→Int→Option (List Int)
 | 0,_,_=>none
 | m18+1,l16,b17=>(bif (decide (b17<n3)) then Zqc n3 b17 x4 (Zhb n3 x4 m18) (((n3:Int) - (IntKind.i64.wrap (2*b17))).toNat+2) l16 0 (IntKind.i64.wrap (2*b17)) else some l16)
def Zld (n3:Int)(x4:(Int→Int→Option Int)):Nat→(List Int)→Int→Int→Option (List Int)
 | 0,_,_,_=>none
 | m11+1,l8,a9,b10=>(bif (decide (b10≤n3)) then (Zhx l8 a9 b10 x4).bind fun l12=>(Zld n3 x4 m11) l12 b10 (IntKind.i64.wrap (b10+20)) else (Zhx l8 a9 n3 x4).bind fun l13=>Zhb n3 x4 (((n3:Int) - 20).toNat+1) l13 20)
def Zpv (d1:(List Int))(n3:Int)(x4:(Int→Int→Option Int)):Option (List Int):=
 Zld n3 x4 (((n3:Int) - 20).toNat+2) d1 0 20
theorem Ynt (v2:Value)(d1:(List Int))(n3:Int)(x4:(Int→Int→Option Int))(r:(List Int))(h:Zpv d1 n3 x4=some r):Con Tryz.prog 353 [Zb v2,rd (Z0 .i64) n3,fn2 Tryz.prog (Z0 .i64) (Z0 .i64) (Z0 .i64) x4] (Zf v2 3 (Z0 .i64) d1) (fun _:Unit=>top) (fun _=>Zf v2 3 (Z0 .i64) r):=by
 refine Con.intro Tryz.func353 rfl Tryz.ntmps353 rfl fun w H X Z=>?_
 unfold Zpv at h
 refine SR<|Ak rfl<|Nl<|SR<|Md rfl<|Ak rfl<|As rfl<|Nl<|sq<|bk<|LG (d:=[]) (ν:=Nat×(List Int)×Int×Int) (fun (m11,l8,a9,b10)=>(True∧Zld n3 x4 m11 l8 a9 b10=some r,m11,[(0,Zb v2),(1,rd (Z0 .i64) n3),(2,fn2 Tryz.prog (Z0 .i64) (Z0 .i64) (Z0 .i64) x4),(6,rd (Z0 .i64) 20),(7,rd (Z0 .i64) a9),(8,rd (Z0 .i64) b10)],[(0,Zf v2 3 (Z0 .i64) l8)])) ((((n3:Int) - 20).toNat+2),d1,0,20) ⟨trivial,h⟩ (FX rfl) ?_
 rintro ⟨m11,l8,a9,b10⟩ ⟨hsf1,h⟩
 dsimp only at h ⊢
 cases m11 with
 | zero=>cases h
 | succ m11=>
  unfold Zld at h
  refine sq<|SR<|Md rfl<|Md rfl<|Ac (Z5j rfl rfl (vt rfl) (vt rfl)) rfl<|Nl<|Cq rfl h (fun h=>?_) (fun h=>?_)
  ·refine sk<|bk<|sq ?_
   obtain ⟨l12,hl12,h⟩:=Z7 h
   refine Rg<|Mw rfl<|Md rfl<|Md rfl<|Ac (Zq (A:=fn2 Tryz.prog (Z0 .i64) (Z0 .i64) (Z0 .i64) x4) rfl rfl (vt rfl)) rfl<|Cv rfl (Z1a 0 (xs:=[.tmp 14,.tmp 15,.tmp 16,.tmp 17]) (Y2a _ _ _ _ _ _ hl12) Y64 rfl rfl ⟨vt rfl,vt rfl,vt rfl,vt rfl,trivial⟩ rfl) fun _u=>Nl<|SR<|Md rfl<|As rfl<|Nl<|Rg<|Md rfl<|Md rfl<|Ac (Z06 rfl rfl (vt rfl) (vt rfl)) rfl<|As rfl<|Nl ?_
   exact ⟨(_,_,_,_),Nat.lt_succ_self _,⟨trivial,h⟩,FX rfl⟩
  ·refine xt<|sq ?_
   obtain ⟨l13,hl13,h⟩:=Z7 h
   refine Rg<|Mw rfl<|Md rfl<|Md rfl<|Ac (Zq (A:=fn2 Tryz.prog (Z0 .i64) (Z0 .i64) (Z0 .i64) x4) rfl rfl (vt rfl)) rfl<|Cv rfl (Z1a 0 (xs:=[.tmp 23,.tmp 24,.tmp 25,.tmp 26]) (Y2a _ _ _ _ _ _ hl13) Y64 rfl rfl ⟨vt rfl,vt rfl,vt rfl,vt rfl,trivial⟩ rfl) fun _u=>Nl<|bk<|LG (d:=[]) (ν:=Nat×(List Int)×Int) (fun (m18,l16,b17)=>(True∧Zhb n3 x4 m18 l16 b17=some r,m18,[(0,Zb v2),(1,rd (Z0 .i64) n3),(2,fn2 Tryz.prog (Z0 .i64) (Z0 .i64) (Z0 .i64) x4),(6,rd (Z0 .i64) b17)],[(0,Zf v2 3 (Z0 .i64) l16)])) ((((n3:Int) - 20).toNat+1),l13,20) ⟨trivial,h⟩ (FX rfl) ?_
   rintro ⟨m18,l16,b17⟩ ⟨hsf2,h⟩
   dsimp only at h ⊢
   cases m18 with
   | zero=>cases h
   | succ m18=>
    unfold Zhb at h
    refine sq<|SR<|Md rfl<|Md rfl<|Ac (Zj rfl rfl (vt rfl) (vt rfl)) rfl<|Nl<|Cq rfl h (fun h=>?_) (fun h=>?_)
    ·refine sk<|bk<|SR<|Md rfl<|Ac (Z80 rfl rfl (vk rfl) (vt rfl)) rfl<|Ak rfl<|As rfl<|Nl<|sq<|bk<|LG (d:=[]) (ν:=Nat×(List Int)×Int×Int) (fun (m25,l22,a23,b24)=>(True∧Zqc n3 b17 x4 (Zhb n3 x4 m18) m25 l22 a23 b24=some r,m25,[(0,Zb v2),(1,rd (Z0 .i64) n3),(2,fn2 Tryz.prog (Z0 .i64) (Z0 .i64) (Z0 .i64) x4),(6,rd (Z0 .i64) b17),(7,rd (Z0 .i64) a23),(8,rd (Z0 .i64) b24)],[(0,Zf v2 3 (Z0 .i64) l22)])) ((((n3:Int) - (IntKind.i64.wrap (2*b17))).toNat+2),l16,0,(IntKind.i64.wrap (2*b17))) ⟨trivial,h⟩ (FX rfl) ?_
     rintro ⟨m25,l22,a23,b24⟩ ⟨hsf3,h⟩
     dsimp only at h ⊢
     cases m25 with
     | zero=>cases h
     | succ m25=>
      unfold Zqc at h
      refine sq<|SR<|Md rfl<|Md rfl<|Ac (Z5j rfl rfl (vt rfl) (vt rfl)) rfl<|Nl<|Cq rfl h (fun h=>?_) (fun h=>?_)
      ·refine sk<|bk<|sq ?_
       obtain ⟨l26,hl26,h⟩:=Z7 h
       refine Rg<|Mw rfl<|Md rfl<|Md rfl<|Md rfl<|Ac (Z06 rfl rfl (vt rfl) (vt rfl)) rfl<|Md rfl<|Ac (Zq (A:=fn2 Tryz.prog (Z0 .i64) (Z0 .i64) (Z0 .i64) x4) rfl rfl (vt rfl)) rfl<|Cv rfl (Z1a 0 (xs:=[.tmp 36,.tmp 37,.tmp 40,.tmp 41,.tmp 42]) (Y2s _ _ _ _ _ _ _ hl26) Zp4 rfl rfl ⟨vt rfl,vt rfl,vt rfl,vt rfl,vt rfl,trivial⟩ rfl) fun _u=>Nl<|SR<|Md rfl<|As rfl<|Nl<|Rg<|Md rfl<|Md rfl<|Ac (Z80 rfl rfl (vk rfl) (vt rfl)) rfl<|Ac (Z06 rfl rfl (vt rfl) (vt rfl)) rfl<|As rfl<|Nl ?_
       exact ⟨(_,_,_,_),Nat.lt_succ_self _,⟨trivial,h⟩,FX rfl⟩
      ·refine xt<|sq<|SR<|Md rfl<|Md rfl<|Ac (Z06 rfl rfl (vt rfl) (vt rfl)) rfl<|As rfl<|Nl<|SR<|Md rfl<|Md rfl<|Ac (Zj rfl rfl (vt rfl) (vt rfl)) rfl<|Nl<|Cq rfl h (fun h=>?_) (fun h=>?_)
       ·obtain ⟨l27,hl27,h⟩:=Z7 h
        refine Rg<|Mw rfl<|Md rfl<|Md rfl<|Md rfl<|Ac (Zq (A:=fn2 Tryz.prog (Z0 .i64) (Z0 .i64) (Z0 .i64) x4) rfl rfl (vt rfl)) rfl<|Cv rfl (Z1a 0 (xs:=[.tmp 55,.tmp 56,.tmp 57,.tmp 58,.tmp 59]) (Y2s _ _ _ _ _ _ _ hl27) Zp4 rfl rfl ⟨vt rfl,vt rfl,vt rfl,vt rfl,vt rfl,trivial⟩ rfl) fun _u=>Nl<|Rg<|Md rfl<|Ac (Z80 rfl rfl (vt rfl) (vk rfl)) rfl<|As rfl<|Nl ?_
        exact ⟨(_,_,_),Nat.lt_succ_self _,⟨trivial,h⟩,FX rfl⟩
       ·refine sk<|Rg<|Md rfl<|Ac (Z80 rfl rfl (vt rfl) (vk rfl)) rfl<|As rfl<|Nl ?_
        exact ⟨(_,_,_),Nat.lt_succ_self _,⟨trivial,h⟩,FX rfl⟩
    ·refine xt ?_
     cases h;exact Z2d (i:=0) Tryz.results353 rfl rfl
def Zm0 (x1:(List Int))(x3:(Int→Int→Option Int)):Option (List Int):=
 (Zpv x1 (x1.length:Int) x3).bind fun l4=>some l4
theorem Yeu (v2:Value)(x1:(List Int))(x3:(Int→Int→Option Int))(r:(List Int))(h:Zm0 x1 x3=some r):Con Tryz.prog 307 [Zb v2,fn2 Tryz.prog (Z0 .i64) (Z0 .i64) (Z0 .i64) x3] (Zf v2 3 (Z0 .i64) x1) (fun _:Unit=>top) (fun _=>Zf v2 3 (Z0 .i64) r):=by
 refine Con.intro Tryz.func307 rfl Tryz.ntmps307 rfl fun w H X Z=>?_
 unfold Zm0 at h
 obtain ⟨l4,hl4,h⟩:=Z7 h
 refine Rg<|Mw rfl<|Mw rfl<|Ac (Z4k 0 rfl rfl Z11 (vt rfl) rfl) rfl<|Ac (Zq (A:=fn2 Tryz.prog (Z0 .i64) (Z0 .i64) (Z0 .i64) x3) rfl rfl (vt rfl)) rfl<|Cv rfl (Z1a 0 (xs:=[.tmp 4,.tmp 6,.tmp 7]) (Ynt _ _ _ _ _ hl4) Yn1 rfl rfl ⟨vt rfl,vt rfl,vt rfl,trivial⟩ rfl) fun _u=>Nl ?_
 cases h;exact Z2d (i:=0) Tryz.results307 rfl rfl
end Go.Proofs.YtinplddjjalohaaGreatDoor.W
set_option maxHeartbeats 1000000
set_option maxRecDepth 4000
namespace Go.Proofs.YtinplddjjalohaaGreatDoor.W
open Go Go.Wb
theorem Yuk:Ent Tryz.prog 308:=Ent.mk Tryz.func308 rfl rfl
theorem Yky:Ent Tryz.prog 307:=Ent.mk Tryz.func307 rfl rfl
theorem Zoc:Ent Tryz.prog 237:=Ent.mk Tryz.func237 rfl rfl
theorem Yli:Ent Tryz.prog 369:=Ent.mk Tryz.func369 rfl rfl
theorem Yla:Ent Tryz.prog 334:=Ent.mk Tryz.func334 rfl rfl
theorem Yb0:Ent Tryz.prog 385:=Ent.mk Tryz.func385 rfl rfl
theorem Ykn:Ent Tryz.prog 368:=Ent.mk Tryz.func368 rfl rfl
theorem Zyr:Ent Tryz.prog 357:=Ent.mk Tryz.func357 rfl rfl
theorem Y6h:Ent Tryz.prog 226:=Ent.mk Tryz.func226 rfl rfl
theorem Ya1:Ent Tryz.prog 339:=Ent.mk Tryz.func339 rfl rfl
def Zc3 (t1:(List Flow)):Nat→Nat→(List Int)→Option (List Int)
 | 0,i9,l7=>(Zm0 l7 (fun x z=>Zgi x z t1)).bind fun l11=>some l11
 | m10+1,i9,l7=>(Z0v l7 [(i9:Int)]).bind fun l12=>(Zc3 t1 m10) (i9+1) l12
def Zhw (t1:(List Flow)):Option (List Int):=
 (omk (t1.length:Int)).bind fun u3=>Zc3 t1 ((t1.length:Int):Int).toNat 0 []
theorem Y44:Q1 Tryz.prog 228 (rd (Z1 Z03)) (rd (Z1 (Z0 .i64))) Zhw:=fun t1 r h=>I0 Tryz.func228 rfl Tryz.ntmps228 rfl fun w H Z=>by
 unfold Zhw at h
 refine SR<|Cv rfl (Zs 2 rfl rfl (vt rfl)) fun g2=>Ac (Zv (A:=rd (Z1 (Z0 .i64)) []) rfl rfl Z1f) rfl<|Nl<|sq ?_
 obtain ⟨u3,hu3,h⟩:=Z7 h
 refine Rg<|Ld Z38 2 rfl<|Ac (Z0i rfl rfl Z2e (vt rfl)) rfl<|Cv rfl (Yn2 1001 hu3 rfl rfl Zg9 zr3 (vt rfl)) fun v4=>Aw rfl<|Nl<|sq<|SR<|Ld Z38 2 rfl<|Ac (Z0i rfl rfl Z2e (vt rfl)) rfl<|Mk rfl<|Nl<|bk<|LG (d:=[]) (ν:=Nat×Nat×(List Int)×Value) (fun (m10,i9,l7,v8)=>(Cnt (t1.length:Int) i9 m10∧Zc3 t1 m10 i9 l7=some r,m10,[(1,Zc g2 (Lens.id (Z1 Z03))),(3,Zb v8),(9,rd (Z0 .i64) (t1.length:Int)),(10,rd (Z0 .i64) (i9:Int))],[(2,Zh g2 22 (Z1 Z03) t1),(1001,Zf v8 3 (Z0 .i64) l7)])) (((t1.length:Int):Int).toNat,0,[],v4) ⟨Cnt.start _,h⟩ (FX rfl) ?_
 rintro ⟨m10,i9,l7,v8⟩ ⟨hsf1,h⟩
 dsimp only at hsf1 h ⊢
 cases m10 with
 | zero=>
  unfold Zc3 at h
  refine SR<|Ac (Zj rfl rfl (vt rfl) (vt rfl)) rfl<|Nl<|sq<|Cn rfl (fun hc=>absurd (of_decide_eq_true hc) hsf1.zero) (fun hc=>?_)
  refine xt<|sq<|AW.freezeB 1 2 rfl rfl rfl ?_
  obtain ⟨l11,hl11,h⟩:=Z7 h
  refine Rg<|Mw rfl<|Ac (Yhg (cs:=[.tmp 1]) (CAs:=[rp (Z1 Z03) t1]) (fun x z=>Zgi x z t1) rfl rfl Yuk ⟨vt rfl,trivial⟩ (fun x z y h=>Yq4 _ _ _ y h)) rfl<|Cv rfl (Z1a 1001 (xs:=[.tmp 18,.tmp 19]) (Yeu _ _ _ _ hl11) Yky rfl rfl ⟨vt rfl,vt rfl,trivial⟩ rfl) fun _u=>Nl<|SR<|Mw rfl<|Aw rfl<|Nl<|AW.freezes [2,3,18,21] 1001 rfl ⟨rfl,rfl,rfl,rfl,trivial⟩ rfl<|rt ?_
  cases h;exact Zd Tryz.results228 rfl (Z5 rfl)
 | succ m10=>
  unfold Zc3 at h
  refine SR<|Ac (Zj rfl rfl (vt rfl) (vt rfl)) rfl<|Nl<|sq<|Cn rfl (fun hc=>?_) (fun hc=>absurd hsf1.succ (of_decide_eq_false hc))
  have hlti9:=of_decide_eq_true hc
  refine sk<|sq<|bk<|SR<|Md rfl<|As rfl<|Nl ?_
  obtain ⟨l12,hl12,h⟩:=Z7 h
  refine Rg<|Mw rfl<|Md rfl<|Ac (osl Z11 zr3 rfl (vt rfl)) rfl<|Cv rfl (Z29 1001 hl12 rfl rfl Zg9 (vt rfl) rfl (vt rfl)) fun v13=>Aw rfl<|Nl<|Rg<|Ac (Z12 (t:=9) rfl rfl (vt rfl) (vk rfl) (vt rfl) hlti9) rfl<|Md rfl<|Nl ?_
  exact ⟨(_,_,_,_),Nat.lt_succ_self _,⟨hsf1.next,h⟩,FX rfl⟩
def Z8y (x1:Int):Option Bool:=
 some ((decide (x1≥0))&&(decide (x1<24)))
theorem Zox:Q1 Tryz.prog 237 (rd (Z0 .i64)) (rd Z6) Z8y:=fun x1 r h=>I0 Tryz.func237 rfl Tryz.ntmps237 rfl fun w H Z=>by
 unfold Z8y at h
 refine SR<|Ab rfl<|Nl<|SR<|Md rfl<|Ac (Z3v rfl rfl (vt rfl) (vk rfl)) rfl<|Md rfl<|Gd rfl (fun hq=>Zq (A:=rd (Z0 .i64) x1) rfl rfl (vt rfl))<|Gd rfl (fun hq=>Zj rfl rfl (Zi rfl hq) (vk rfl))<|Ac (Z1k rfl rfl (vt rfl) (vt rfl)) rfl<|As rfl<|Nl<|rt ?_
 cases h;exact Zd Tryz.results237 rfl (Z5 rfl)
def Zl4:Option Ye0:=
 some (Vector.set (Vector.set (Vector.set (Vector.set (Vector.set (Vector.set (Vector.set (Vector.set (Vector.set (Vector.set (Vector.set (Vector.set (Vector.set (Vector.set (Vector.set (Vector.set (Vector.set (Vector.set (Vector.set (Vector.set (Vector.set (Vector.set (Vector.set (Vector.set (Vector.replicate 24 Zko) 0 (⟨{data:= #[105,110,95,112,111,114,116]},0,32,false⟩:field_row) (by decide)) 1 (⟨{data:= #[109,101,116,97,100,97,116,97]},2,64,true⟩:field_row) (by decide)) 2 (⟨{data:= #[101,116,104,95,100,115,116]},3,48,true⟩:field_row) (by decide)) 3 (⟨{data:= #[101,116,104,95,115,114,99]},4,48,true⟩:field_row) (by decide)) 4 (⟨{data:= #[101,116,104,95,116,121,112,101]},5,16,false⟩:field_row) (by decide)) 5 (⟨{data:= #[118,108,97,110,95,118,105,100]},6,13,true⟩:field_row) (by decide)) 6 (⟨{data:= #[118,108,97,110,95,112,99,112]},7,3,false⟩:field_row) (by decide)) 7 (⟨{data:= #[105,112,95,100,115,99,112]},8,6,false⟩:field_row) (by decide)) 8 (⟨{data:= #[105,112,95,101,99,110]},9,2,false⟩:field_row) (by decide)) 9 (⟨{data:= #[105,112,95,112,114,111,116,111]},10,8,false⟩:field_row) (by decide)) 10 (⟨{data:= #[105,112,118,52,95,115,114,99]},11,32,true⟩:field_row) (by decide)) 11 (⟨{data:= #[105,112,118,52,95,100,115,116]},12,32,true⟩:field_row) (by decide)) 12 (⟨{data:= #[116,99,112,95,115,114,99]},13,16,false⟩:field_row) (by decide)) 13 (⟨{data:= #[116,99,112,95,100,115,116]},14,16,false⟩:field_row) (by decide)) 14 (⟨{data:= #[117,100,112,95,115,114,99]},15,16,false⟩:field_row) (by decide)) 15 (⟨{data:= #[117,100,112,95,100,115,116]},16,16,false⟩:field_row) (by decide)) 16 (⟨{data:= #[105,99,109,112,118,52,95,116,121,112,101]},19,8,false⟩:field_row) (by decide)) 17 (⟨{data:= #[105,99,109,112,118,52,95,99,111,100,101]},20,8,false⟩:field_row) (by decide)) 18 (⟨{data:= #[97,114,112,95,111,112]},21,16,false⟩:field_row) (by decide)) 19 (⟨{data:= #[97,114,112,95,115,112,97]},22,32,true⟩:field_row) (by decide)) 20 (⟨{data:= #[97,114,112,95,116,112,97]},23,32,true⟩:field_row) (by decide)) 21 (⟨{data:= #[105,112,118,54,95,115,114,99]},26,128,true⟩:field_row) (by decide)) 22 (⟨{data:= #[105,112,118,54,95,100,115,116]},27,128,true⟩:field_row) (by decide)) 23 (⟨{data:= #[109,112,108,115,95,108,97,98,101,108]},34,20,false⟩:field_row) (by decide))
theorem Yci:Q0 Tryz.prog 369 (rd (Z3 24 Z23)) Zl4:=fun r h=>I0 Tryz.func369 rfl Tryz.ntmps369 rfl fun w H Z=>by
 unfold Zl4 at h
 refine SR<|Cv rfl (Zm 1 rfl rfl Y3d) fun g1=>Nl<|SR<|Ac (Z1m (ps:=[(0,.const (Value.string {data:= #[105,110,95,112,111,114,116]})),(1,.const (Value.int IntKind.i64 0)),(2,.const (Value.int IntKind.i64 32)),(3,.const (Value.bool false))]) (x:=(⟨{data:= #[105,110,95,112,111,114,116]},0,32,false⟩:field_row)) rfl rfl rfl (by kernel_rfl) Z33 ⟨_,_,Z3b,_,by kernel_rfl,(vs (by decide)),_,_,lfield_row_1,_,by kernel_rfl,(vk rfl),_,_,Z32,_,by kernel_rfl,(vk rfl),_,_,Z3c,_,by kernel_rfl,vb,rfl⟩) rfl<|Ac (Z1m (ps:=[(0,.const (Value.string {data:= #[109,101,116,97,100,97,116,97]})),(1,.const (Value.int IntKind.i64 2)),(2,.const (Value.int IntKind.i64 64)),(3,.const (Value.bool true))]) (x:=(⟨{data:= #[109,101,116,97,100,97,116,97]},2,64,true⟩:field_row)) rfl rfl rfl (by kernel_rfl) Z33 ⟨_,_,Z3b,_,by kernel_rfl,(vs (by decide)),_,_,lfield_row_1,_,by kernel_rfl,(vk rfl),_,_,Z32,_,by kernel_rfl,(vk rfl),_,_,Z3c,_,by kernel_rfl,vb,rfl⟩) rfl<|Ac (Z1m (ps:=[(0,.const (Value.string {data:= #[101,116,104,95,100,115,116]})),(1,.const (Value.int IntKind.i64 3)),(2,.const (Value.int IntKind.i64 48)),(3,.const (Value.bool true))]) (x:=(⟨{data:= #[101,116,104,95,100,115,116]},3,48,true⟩:field_row)) rfl rfl rfl (by kernel_rfl) Z33 ⟨_,_,Z3b,_,by kernel_rfl,(vs (by decide)),_,_,lfield_row_1,_,by kernel_rfl,(vk rfl),_,_,Z32,_,by kernel_rfl,(vk rfl),_,_,Z3c,_,by kernel_rfl,vb,rfl⟩) rfl<|Ac (Z1m (ps:=[(0,.const (Value.string {data:= #[101,116,104,95,115,114,99]})),(1,.const (Value.int IntKind.i64 4)),(2,.const (Value.int IntKind.i64 48)),(3,.const (Value.bool true))]) (x:=(⟨{data:= #[101,116,104,95,115,114,99]},4,48,true⟩:field_row)) rfl rfl rfl (by kernel_rfl) Z33 ⟨_,_,Z3b,_,by kernel_rfl,(vs (by decide)),_,_,lfield_row_1,_,by kernel_rfl,(vk rfl),_,_,Z32,_,by kernel_rfl,(vk rfl),_,_,Z3c,_,by kernel_rfl,vb,rfl⟩) rfl<|Ac (Z1m (ps:=[(0,.const (Value.string {data:= #[101,116,104,95,116,121,112,101]})),(1,.const (Value.int IntKind.i64 5)),(2,.const (Value.int IntKind.i64 16)),(3,.const (Value.bool false))]) (x:=(⟨{data:= #[101,116,104,95,116,121,112,101]},5,16,false⟩:field_row)) rfl rfl rfl (by kernel_rfl) Z33 ⟨_,_,Z3b,_,by kernel_rfl,(vs (by decide)),_,_,lfield_row_1,_,by kernel_rfl,(vk rfl),_,_,Z32,_,by kernel_rfl,(vk rfl),_,_,Z3c,_,by kernel_rfl,vb,rfl⟩) rfl<|Ac (Z1m (ps:=[(0,.const (Value.string {data:= #[118,108,97,110,95,118,105,100]})),(1,.const (Value.int IntKind.i64 6)),(2,.const (Value.int IntKind.i64 13)),(3,.const (Value.bool true))]) (x:=(⟨{data:= #[118,108,97,110,95,118,105,100]},6,13,true⟩:field_row)) rfl rfl rfl (by kernel_rfl) Z33 ⟨_,_,Z3b,_,by kernel_rfl,(vs (by decide)),_,_,lfield_row_1,_,by kernel_rfl,(vk rfl),_,_,Z32,_,by kernel_rfl,(vk rfl),_,_,Z3c,_,by kernel_rfl,vb,rfl⟩) rfl ?_
 refine Ac (Z1m (ps:=[(0,.const (Value.string {data:= #[118,108,97,110,95,112,99,112]})),(1,.const (Value.int IntKind.i64 7)),(2,.const (Value.int IntKind.i64 3)),(3,.const (Value.bool false))]) (x:=(⟨{data:= #[118,108,97,110,95,112,99,112]},7,3,false⟩:field_row)) rfl rfl rfl (by kernel_rfl) Z33 ⟨_,_,Z3b,_,by kernel_rfl,(vs (by decide)),_,_,lfield_row_1,_,by kernel_rfl,(vk rfl),_,_,Z32,_,by kernel_rfl,(vk rfl),_,_,Z3c,_,by kernel_rfl,vb,rfl⟩) rfl<|Ac (Z1m (ps:=[(0,.const (Value.string {data:= #[105,112,95,100,115,99,112]})),(1,.const (Value.int IntKind.i64 8)),(2,.const (Value.int IntKind.i64 6)),(3,.const (Value.bool false))]) (x:=(⟨{data:= #[105,112,95,100,115,99,112]},8,6,false⟩:field_row)) rfl rfl rfl (by kernel_rfl) Z33 ⟨_,_,Z3b,_,by kernel_rfl,(vs (by decide)),_,_,lfield_row_1,_,by kernel_rfl,(vk rfl),_,_,Z32,_,by kernel_rfl,(vk rfl),_,_,Z3c,_,by kernel_rfl,vb,rfl⟩) rfl<|Ac (Z1m (ps:=[(0,.const (Value.string {data:= #[105,112,95,101,99,110]})),(1,.const (Value.int IntKind.i64 9)),(2,.const (Value.int IntKind.i64 2)),(3,.const (Value.bool false))]) (x:=(⟨{data:= #[105,112,95,101,99,110]},9,2,false⟩:field_row)) rfl rfl rfl (by kernel_rfl) Z33 ⟨_,_,Z3b,_,by kernel_rfl,(vs (by decide)),_,_,lfield_row_1,_,by kernel_rfl,(vk rfl),_,_,Z32,_,by kernel_rfl,(vk rfl),_,_,Z3c,_,by kernel_rfl,vb,rfl⟩) rfl<|Ac (Z1m (ps:=[(0,.const (Value.string {data:= #[105,112,95,112,114,111,116,111]})),(1,.const (Value.int IntKind.i64 10)),(2,.const (Value.int IntKind.i64 8)),(3,.const (Value.bool false))]) (x:=(⟨{data:= #[105,112,95,112,114,111,116,111]},10,8,false⟩:field_row)) rfl rfl rfl (by kernel_rfl) Z33 ⟨_,_,Z3b,_,by kernel_rfl,(vs (by decide)),_,_,lfield_row_1,_,by kernel_rfl,(vk rfl),_,_,Z32,_,by kernel_rfl,(vk rfl),_,_,Z3c,_,by kernel_rfl,vb,rfl⟩) rfl<|Ac (Z1m (ps:=[(0,.const (Value.string {data:= #[105,112,118,52,95,115,114,99]})),(1,.const (Value.int IntKind.i64 11)),(2,.const (Value.int IntKind.i64 32)),(3,.const (Value.bool true))]) (x:=(⟨{data:= #[105,112,118,52,95,115,114,99]},11,32,true⟩:field_row)) rfl rfl rfl (by kernel_rfl) Z33 ⟨_,_,Z3b,_,by kernel_rfl,(vs (by decide)),_,_,lfield_row_1,_,by kernel_rfl,(vk rfl),_,_,Z32,_,by kernel_rfl,(vk rfl),_,_,Z3c,_,by kernel_rfl,vb,rfl⟩) rfl<|Ac (Z1m (ps:=[(0,.const (Value.string {data:= #[105,112,118,52,95,100,115,116]})),(1,.const (Value.int IntKind.i64 12)),(2,.const (Value.int IntKind.i64 32)),(3,.const (Value.bool true))]) (x:=(⟨{data:= #[105,112,118,52,95,100,115,116]},12,32,true⟩:field_row)) rfl rfl rfl (by kernel_rfl) Z33 ⟨_,_,Z3b,_,by kernel_rfl,(vs (by decide)),_,_,lfield_row_1,_,by kernel_rfl,(vk rfl),_,_,Z32,_,by kernel_rfl,(vk rfl),_,_,Z3c,_,by kernel_rfl,vb,rfl⟩) rfl ?_
 refine Ac (Z1m (ps:=[(0,.const (Value.string {data:= #[116,99,112,95,115,114,99]})),(1,.const (Value.int IntKind.i64 13)),(2,.const (Value.int IntKind.i64 16)),(3,.const (Value.bool false))]) (x:=(⟨{data:= #[116,99,112,95,115,114,99]},13,16,false⟩:field_row)) rfl rfl rfl (by kernel_rfl) Z33 ⟨_,_,Z3b,_,by kernel_rfl,(vs (by decide)),_,_,lfield_row_1,_,by kernel_rfl,(vk rfl),_,_,Z32,_,by kernel_rfl,(vk rfl),_,_,Z3c,_,by kernel_rfl,vb,rfl⟩) rfl<|Ac (Z1m (ps:=[(0,.const (Value.string {data:= #[116,99,112,95,100,115,116]})),(1,.const (Value.int IntKind.i64 14)),(2,.const (Value.int IntKind.i64 16)),(3,.const (Value.bool false))]) (x:=(⟨{data:= #[116,99,112,95,100,115,116]},14,16,false⟩:field_row)) rfl rfl rfl (by kernel_rfl) Z33 ⟨_,_,Z3b,_,by kernel_rfl,(vs (by decide)),_,_,lfield_row_1,_,by kernel_rfl,(vk rfl),_,_,Z32,_,by kernel_rfl,(vk rfl),_,_,Z3c,_,by kernel_rfl,vb,rfl⟩) rfl<|Ac (Z1m (ps:=[(0,.const (Value.string {data:= #[117,100,112,95,115,114,99]})),(1,.const (Value.int IntKind.i64 15)),(2,.const (Value.int IntKind.i64 16)),(3,.const (Value.bool false))]) (x:=(⟨{data:= #[117,100,112,95,115,114,99]},15,16,false⟩:field_row)) rfl rfl rfl (by kernel_rfl) Z33 ⟨_,_,Z3b,_,by kernel_rfl,(vs (by decide)),_,_,lfield_row_1,_,by kernel_rfl,(vk rfl),_,_,Z32,_,by kernel_rfl,(vk rfl),_,_,Z3c,_,by kernel_rfl,vb,rfl⟩) rfl<|Ac (Z1m (ps:=[(0,.const (Value.string {data:= #[117,100,112,95,100,115,116]})),(1,.const (Value.int IntKind.i64 16)),(2,.const (Value.int IntKind.i64 16)),(3,.const (Value.bool false))]) (x:=(⟨{data:= #[117,100,112,95,100,115,116]},16,16,false⟩:field_row)) rfl rfl rfl (by kernel_rfl) Z33 ⟨_,_,Z3b,_,by kernel_rfl,(vs (by decide)),_,_,lfield_row_1,_,by kernel_rfl,(vk rfl),_,_,Z32,_,by kernel_rfl,(vk rfl),_,_,Z3c,_,by kernel_rfl,vb,rfl⟩) rfl<|Ac (Z1m (ps:=[(0,.const (Value.string {data:= #[105,99,109,112,118,52,95,116,121,112,101]})),(1,.const (Value.int IntKind.i64 19)),(2,.const (Value.int IntKind.i64 8)),(3,.const (Value.bool false))]) (x:=(⟨{data:= #[105,99,109,112,118,52,95,116,121,112,101]},19,8,false⟩:field_row)) rfl rfl rfl (by kernel_rfl) Z33 ⟨_,_,Z3b,_,by kernel_rfl,(vs (by decide)),_,_,lfield_row_1,_,by kernel_rfl,(vk rfl),_,_,Z32,_,by kernel_rfl,(vk rfl),_,_,Z3c,_,by kernel_rfl,vb,rfl⟩) rfl<|Ac (Z1m (ps:=[(0,.const (Value.string {data:= #[105,99,109,112,118,52,95,99,111,100,101]})),(1,.const (Value.int IntKind.i64 20)),(2,.const (Value.int IntKind.i64 8)),(3,.const (Value.bool false))]) (x:=(⟨{data:= #[105,99,109,112,118,52,95,99,111,100,101]},20,8,false⟩:field_row)) rfl rfl rfl (by kernel_rfl) Z33 ⟨_,_,Z3b,_,by kernel_rfl,(vs (by decide)),_,_,lfield_row_1,_,by kernel_rfl,(vk rfl),_,_,Z32,_,by kernel_rfl,(vk rfl),_,_,Z3c,_,by kernel_rfl,vb,rfl⟩) rfl ?_
 refine Ac (Z1m (ps:=[(0,.const (Value.string {data:= #[97,114,112,95,111,112]})),(1,.const (Value.int IntKind.i64 21)),(2,.const (Value.int IntKind.i64 16)),(3,.const (Value.bool false))]) (x:=(⟨{data:= #[97,114,112,95,111,112]},21,16,false⟩:field_row)) rfl rfl rfl (by kernel_rfl) Z33 ⟨_,_,Z3b,_,by kernel_rfl,(vs (by decide)),_,_,lfield_row_1,_,by kernel_rfl,(vk rfl),_,_,Z32,_,by kernel_rfl,(vk rfl),_,_,Z3c,_,by kernel_rfl,vb,rfl⟩) rfl<|Ac (Z1m (ps:=[(0,.const (Value.string {data:= #[97,114,112,95,115,112,97]})),(1,.const (Value.int IntKind.i64 22)),(2,.const (Value.int IntKind.i64 32)),(3,.const (Value.bool true))]) (x:=(⟨{data:= #[97,114,112,95,115,112,97]},22,32,true⟩:field_row)) rfl rfl rfl (by kernel_rfl) Z33 ⟨_,_,Z3b,_,by kernel_rfl,(vs (by decide)),_,_,lfield_row_1,_,by kernel_rfl,(vk rfl),_,_,Z32,_,by kernel_rfl,(vk rfl),_,_,Z3c,_,by kernel_rfl,vb,rfl⟩) rfl<|Ac (Z1m (ps:=[(0,.const (Value.string {data:= #[97,114,112,95,116,112,97]})),(1,.const (Value.int IntKind.i64 23)),(2,.const (Value.int IntKind.i64 32)),(3,.const (Value.bool true))]) (x:=(⟨{data:= #[97,114,112,95,116,112,97]},23,32,true⟩:field_row)) rfl rfl rfl (by kernel_rfl) Z33 ⟨_,_,Z3b,_,by kernel_rfl,(vs (by decide)),_,_,lfield_row_1,_,by kernel_rfl,(vk rfl),_,_,Z32,_,by kernel_rfl,(vk rfl),_,_,Z3c,_,by kernel_rfl,vb,rfl⟩) rfl<|Ac (Z1m (ps:=[(0,.const (Value.string {data:= #[105,112,118,54,95,115,114,99]})),(1,.const (Value.int IntKind.i64 26)),(2,.const (Value.int IntKind.i64 128)),(3,.const (Value.bool true))]) (x:=(⟨{data:= #[105,112,118,54,95,115,114,99]},26,128,true⟩:field_row)) rfl rfl rfl (by kernel_rfl) Z33 ⟨_,_,Z3b,_,by kernel_rfl,(vs (by decide)),_,_,lfield_row_1,_,by kernel_rfl,(vk rfl),_,_,Z32,_,by kernel_rfl,(vk rfl),_,_,Z3c,_,by kernel_rfl,vb,rfl⟩) rfl<|Ac (Z1m (ps:=[(0,.const (Value.string {data:= #[105,112,118,54,95,100,115,116]})),(1,.const (Value.int IntKind.i64 27)),(2,.const (Value.int IntKind.i64 128)),(3,.const (Value.bool true))]) (x:=(⟨{data:= #[105,112,118,54,95,100,115,116]},27,128,true⟩:field_row)) rfl rfl rfl (by kernel_rfl) Z33 ⟨_,_,Z3b,_,by kernel_rfl,(vs (by decide)),_,_,lfield_row_1,_,by kernel_rfl,(vk rfl),_,_,Z32,_,by kernel_rfl,(vk rfl),_,_,Z3c,_,by kernel_rfl,vb,rfl⟩) rfl<|Ac (Z1m (ps:=[(0,.const (Value.string {data:= #[109,112,108,115,95,108,97,98,101,108]})),(1,.const (Value.int IntKind.i64 34)),(2,.const (Value.int IntKind.i64 20)),(3,.const (Value.bool false))]) (x:=(⟨{data:= #[109,112,108,115,95,108,97,98,101,108]},34,20,false⟩:field_row)) rfl rfl rfl (by kernel_rfl) Z33 ⟨_,_,Z3b,_,by kernel_rfl,(vs (by decide)),_,_,lfield_row_1,_,by kernel_rfl,(vk rfl),_,_,Z32,_,by kernel_rfl,(vk rfl),_,_,Z3c,_,by kernel_rfl,vb,rfl⟩) rfl ?_
 refine Ac (Z1m (ps:=[(0,.tmp 1),(1,.tmp 2),(2,.tmp 3),(3,.tmp 4),(4,.tmp 5),(5,.tmp 6),(6,.tmp 7),(7,.tmp 8),(8,.tmp 9),(9,.tmp 10),(10,.tmp 11),(11,.tmp 12),(12,.tmp 13),(13,.tmp 14),(14,.tmp 15),(15,.tmp 16),(16,.tmp 17),(17,.tmp 18),(18,.tmp 19),(19,.tmp 20),(20,.tmp 21),(21,.tmp 22),(22,.tmp 23),(23,.tmp 24)]) (x:=(Vector.set (Vector.set (Vector.set (Vector.set (Vector.set (Vector.set (Vector.set (Vector.set (Vector.set (Vector.set (Vector.set (Vector.set (Vector.set (Vector.set (Vector.set (Vector.set (Vector.set (Vector.set (Vector.set (Vector.set (Vector.set (Vector.set (Vector.set (Vector.set (Vector.replicate 24 Zko) 0 (⟨{data:= #[105,110,95,112,111,114,116]},0,32,false⟩:field_row) (by decide)) 1 (⟨{data:= #[109,101,116,97,100,97,116,97]},2,64,true⟩:field_row) (by decide)) 2 (⟨{data:= #[101,116,104,95,100,115,116]},3,48,true⟩:field_row) (by decide)) 3 (⟨{data:= #[101,116,104,95,115,114,99]},4,48,true⟩:field_row) (by decide)) 4 (⟨{data:= #[101,116,104,95,116,121,112,101]},5,16,false⟩:field_row) (by decide)) 5 (⟨{data:= #[118,108,97,110,95,118,105,100]},6,13,true⟩:field_row) (by decide)) 6 (⟨{data:= #[118,108,97,110,95,112,99,112]},7,3,false⟩:field_row) (by decide)) 7 (⟨{data:= #[105,112,95,100,115,99,112]},8,6,false⟩:field_row) (by decide)) 8 (⟨{data:= #[105,112,95,101,99,110]},9,2,false⟩:field_row) (by decide)) 9 (⟨{data:= #[105,112,95,112,114,111,116,111]},10,8,false⟩:field_row) (by decide)) 10 (⟨{data:= #[105,112,118,52,95,115,114,99]},11,32,true⟩:field_row) (by decide)) 11 (⟨{data:= #[105,112,118,52,95,100,115,116]},12,32,true⟩:field_row) (by decide)) 12 (⟨{data:= #[116,99,112,95,115,114,99]},13,16,false⟩:field_row) (by decide)) 13 (⟨{data:= #[116,99,112,95,100,115,116]},14,16,false⟩:field_row) (by decide)) 14 (⟨{data:= #[117,100,112,95,115,114,99]},15,16,false⟩:field_row) (by decide)) 15 (⟨{data:= #[117,100,112,95,100,115,116]},16,16,false⟩:field_row) (by decide)) 16 (⟨{data:= #[105,99,109,112,118,52,95,116,121,112,101]},19,8,false⟩:field_row) (by decide)) 17 (⟨{data:= #[105,99,109,112,118,52,95,99,111,100,101]},20,8,false⟩:field_row) (by decide)) 18 (⟨{data:= #[97,114,112,95,111,112]},21,16,false⟩:field_row) (by decide)) 19 (⟨{data:= #[97,114,112,95,115,112,97]},22,32,true⟩:field_row) (by decide)) 20 (⟨{data:= #[97,114,112,95,116,112,97]},23,32,true⟩:field_row) (by decide)) 21 (⟨{data:= #[105,112,118,54,95,115,114,99]},26,128,true⟩:field_row) (by decide)) 22 (⟨{data:= #[105,112,118,54,95,100,115,116]},27,128,true⟩:field_row) (by decide)) 23 (⟨{data:= #[109,112,108,115,95,108,97,98,101,108]},34,20,false⟩:field_row) (by decide))) rfl rfl rfl (by kernel_rfl) Y3d ⟨_,_,Lens.idx 24 Z23 0 (by decide),_,by kernel_rfl,(vt rfl),_,_,Lens.idx 24 Z23 1 (by decide),_,by kernel_rfl,(vt rfl),_,_,Lens.idx 24 Z23 2 (by decide),_,by kernel_rfl,(vt rfl),_,_,Lens.idx 24 Z23 3 (by decide),_,by kernel_rfl,(vt rfl),_,_,Lens.idx 24 Z23 4 (by decide),_,by kernel_rfl,(vt rfl),_,_,Lens.idx 24 Z23 5 (by decide),_,by kernel_rfl,(vt rfl),_,_,Lens.idx 24 Z23 6 (by decide),_,by kernel_rfl,(vt rfl),_,_,Lens.idx 24 Z23 7 (by decide),_,by kernel_rfl,(vt rfl),_,_,Lens.idx 24 Z23 8 (by decide),_,by kernel_rfl,(vt rfl),_,_,Lens.idx 24 Z23 9 (by decide),_,by kernel_rfl,(vt rfl),_,_,Lens.idx 24 Z23 10 (by decide),_,by kernel_rfl,(vt rfl),_,_,Lens.idx 24 Z23 11 (by decide),_,by kernel_rfl,(vt rfl),_,_,Lens.idx 24 Z23 12 (by decide),_,by kernel_rfl,(vt rfl),_,_,Lens.idx 24 Z23 13 (by decide),_,by kernel_rfl,(vt rfl),_,_,Lens.idx 24 Z23 14 (by decide),_,by kernel_rfl,(vt rfl),_,_,Lens.idx 24 Z23 15 (by decide),_,by kernel_rfl,(vt rfl),_,_,Lens.idx 24 Z23 16 (by decide),_,by kernel_rfl,(vt rfl),_,_,Lens.idx 24 Z23 17 (by decide),_,by kernel_rfl,(vt rfl),_,_,Lens.idx 24 Z23 18 (by decide),_,by kernel_rfl,(vt rfl),_,_,Lens.idx 24 Z23 19 (by decide),_,by kernel_rfl,(vt rfl),_,_,Lens.idx 24 Z23 20 (by decide),_,by kernel_rfl,(vt rfl),_,_,Lens.idx 24 Z23 21 (by decide),_,by kernel_rfl,(vt rfl),_,_,Lens.idx 24 Z23 22 (by decide),_,by kernel_rfl,(vt rfl),_,_,Lens.idx 24 Z23 23 (by decide),_,by kernel_rfl,(vt rfl),rfl⟩) rfl ?_
 refine Zg Y7l 1 rfl<|Nl<|rt ?_
 cases h;exact Zd Tryz.results369 rfl (Zx rfl (i:=1) rfl Y7l)
def Zqs (x1:Int):Option field_row:=
 (Z8y x1).bind fun x3=>(bif (!x3) then some (⟨(⟨#[]⟩:ByteArray),(-1),0,false⟩:field_row) else (Zl4).bind fun x4=>(lget (Vector.toList x4) x1).bind fun x5=>some x5)
theorem Ytq:Q1 Tryz.prog 334 (rd (Z0 .i64)) (rd Z23) Zqs:=fun x1 r h=>I0 Tryz.func334 rfl Tryz.ntmps334 rfl fun w H Z=>by
 unfold Zqs at h
 refine SR<|Cv rfl (Zm 3 rfl rfl Z33) fun g2=>Nl<|sq<|sq ?_
 obtain ⟨x3,hx3,h⟩:=Z7 h
 refine Rg<|Md rfl<|Cl [3] (Zox _ _ hx3) Zoc rfl<|Ac (Z0y rfl rfl (vt rfl)) rfl<|Nl<|Cq rfl h (fun h=>?_) (fun h=>?_)
 ·refine SR<|Ac (opb (⟨(⟨#[]⟩:ByteArray),(-1),0,false⟩:field_row) Z33 rfl Yf9 (pc Yx2 (vk rfl)<|pn rfl)) rfl<|Zg Zjs 3 rfl<|Nl<|rt ?_
  cases h;exact Zd Tryz.results334 rfl (Zx rfl (i:=3) rfl Zjs)
 ·refine sk<|sq ?_
  obtain ⟨x4,hx4,x5,hx5,h⟩:=bs2 h
  refine Rg<|Cl [] (Yci _ hx4) Yli rfl<|Md rfl<|Ac (Z8d rfl rfl Yjv Zjs (vt rfl) (vt rfl) hx5) rfl<|Zg Zjs 3 rfl<|Nl<|rt ?_
  cases h;exact Zd Tryz.results334 rfl (Zx rfl (i:=3) rfl Zjs)
def Zer (x1:Int):Option Int:=
 (Zqs x1).bind fun x2=>some x2.bits
theorem Yra:Q1 Tryz.prog 368 (rd (Z0 .i64)) (rd (Z0 .i64)) Zer:=fun x1 r h=>I0 Tryz.func368 rfl Tryz.ntmps368 rfl fun w H Z=>by
 unfold Zer at h
 refine SR<|Ak rfl<|Nl<|sq ?_
 obtain ⟨x2,hx2,h⟩:=Z7 h
 refine Rg<|Md rfl<|Cl [3] (Ytq _ _ hx2) Yla rfl<|Ac (Zin Z32 rfl rfl Yo1 Yu5 Zp rfl (vt rfl)) rfl<|As rfl<|Nl<|rt ?_
 cases h;exact Zd Tryz.results368 rfl (Z5 rfl)
def Zj0 (n1:Int):Option (BitVec 64):=
 (bif (decide (n1≥64)) then some (18446744073709551615:BitVec 64) else (Za7 (1:BitVec 64) (Z2o n1 0)).bind fun q2=>some (q2 - (1:BitVec 64)))
theorem Y0v:Q1 Tryz.prog 385 (rd (Z0 .i64)) (rd Z05) Zj0:=fun n1 r h=>I0 Tryz.func385 rfl Tryz.ntmps385 rfl fun w H Z=>by
 unfold Zj0 at h
 refine SR<|Ac (Zv (A:=rd Z05 (0:BitVec 64)) rfl rfl (vku (0:BitVec 64) rfl)) rfl<|Nl<|sq<|SR<|Md rfl<|Ac (Z3v rfl rfl (vt rfl) (vk rfl)) rfl<|Nl<|Cq rfl h (fun h=>?_) (fun h=>?_)
 ·refine SR<|Ac (Zv (A:=rd Z05 (18446744073709551615:BitVec 64)) rfl rfl (vku (18446744073709551615:BitVec 64) rfl)) rfl<|Nl<|rt ?_
  cases h;exact Zd Tryz.results385 rfl (Z5 rfl)
 ·refine sk<|sq ?_
  obtain ⟨q2,hq2,h⟩:=Z7 h
  refine Rg<|Md rfl<|Ac (Zl6 rfl rfl (vt rfl) (vk rfl)) rfl<|Ac (Zsa rfl rfl (vku (1:BitVec 64) rfl) (vt rfl) hq2) rfl<|Ac (Yq6 rfl rfl (vt rfl) (vku (1:BitVec 64) rfl)) rfl<|As rfl<|Nl<|rt ?_
  cases h;exact Zd Tryz.results385 rfl (Z5 rfl)
def Zaf (n1:Int):Option Wide:=
 (Zj0 (IntKind.i64.wrap ((Z5k (Z2o n1 0) 128) - 64))).bind fun x3=>(Zj0 (Z5k (Z2o n1 0) 128)).bind fun x4=>some (⟨x3,x4⟩:Wide)
theorem Zv5:Q1 Tryz.prog 357 (rd (Z0 .i64)) (rd Zn) Zaf:=fun n1 r h=>I0 Tryz.func357 rfl Tryz.ntmps357 rfl fun w H Z=>by
 unfold Zaf at h
 refine SR<|Cv rfl (Zm 3 rfl rfl Z27) fun g2=>Nl<|SR<|Md rfl<|Ac (Zl6 rfl rfl (vt rfl) (vk rfl)) rfl<|Ac (Zur rfl rfl (vt rfl) (vk rfl)) rfl<|As rfl<|Nl<|sq ?_
 obtain ⟨x3,hx3,x4,hx4,h⟩:=bs2 h
 refine Rg<|Md rfl<|Ac (Z0r rfl rfl (vt rfl) (vk rfl)) rfl<|Cl [7] (Y0v _ _ hx3) Yb0 rfl<|Md rfl<|Cl [9] (Y0v _ _ hx4) Yb0 rfl<|Ac (opb (⟨x3,x4⟩:Wide) Z27 rfl Z4h (pc Z7q (vt rfl)<|pc Z84 (vt rfl)<|pn rfl)) rfl<|Zg Zw 3 rfl<|Nl<|rt ?_
 cases h;exact Zd Tryz.results357 rfl (Zx rfl (i:=3) rfl Zw)
def Zhe (o1:Oxm):Option Tern:=
 (Z8y o1.Field).bind fun x4=>(bif (!x4) then some (⟨Z0p,Z0p⟩:Tern) else (bif o1.Masked then some (⟨o1.Value,o1.Mask⟩:Tern) else (Zer o1.Field).bind fun x5=>(Zaf x5).bind fun x6=>some (⟨o1.Value,x6⟩:Tern)))
theorem Y2h:Q1 Tryz.prog 339 (rd Z0h) (rd Z4) Zhe:=fun o1 r h=>I0 Tryz.func339 rfl Tryz.ntmps339 rfl fun w H Z=>by
 unfold Zhe at h
 refine SR<|Cv rfl (Zs 2 rfl rfl (vt rfl)) fun g2=>Cv rfl (Zm 3 rfl rfl Z1n) fun g3=>Nl<|sq<|bk<|sq ?_
 obtain ⟨x4,hx4,h⟩:=Z7 h
 refine Rg<|Zk Z4f Z4r rfl<|Ld Zp 2 rfl<|Cl [5] (Zox _ _ hx4) Zoc rfl<|Ac (Z0y rfl rfl (vt rfl)) rfl<|As rfl<|Nl<|Cq rfl h (fun h=>?_) (fun h=>?_)
 ·refine SR<|Ac (opb (⟨Z0p,Z0p⟩:Tern) Z1n rfl Z4c (pn rfl)) rfl<|Zg Z01 3 rfl<|Nl<|rt ?_
  cases h;exact Zd Tryz.results339 rfl (Zx rfl (i:=3) rfl Z01)
 ·refine SR<|Zk Zxe Zzn rfl<|Ld ty4 2 rfl<|As rfl<|Nl<|Cq rfl h (fun h=>?_) (fun h=>?_)
  ·refine SR<|Zk Zmq Zq2 rfl<|Ld Zw 2 rfl<|Zk Zx3 Y8z rfl<|Ld Zw 2 rfl<|Ac (opb (⟨o1.Value,o1.Mask⟩:Tern) Z1n rfl Z4c (pc Z5n (vt rfl)<|pc Z5s (vt rfl)<|pn rfl)) rfl<|Zg Z01 3 rfl<|Nl<|rt ?_
   cases h;exact Zd Tryz.results339 rfl (Zx rfl (i:=3) rfl Z01)
  ·refine sk<|sq ?_
   obtain ⟨x5,hx5,x6,hx6,h⟩:=bs2 h
   refine AR Z00 (by kernel_rfl)<|SFd Zmq Zq2 rfl<|Zo Zw 2 rfl<|SFd Z4f Z4r rfl<|Zo Zp 2 rfl<|SCl [20] (Yra _ _ hx5) Ykn rfl<|SCl [21] (Zv5 _ _ hx6) Zyr rfl<|Sd (lo [18,22] [] rfl fun S hs hr=>opb (⟨o1.Value,x6⟩:Tern) Z1n rfl Z4c (pc Z5n (vh hs 18 rfl rfl)<|pc Z5s (vh hs 22 rfl rfl)<|pn rfl))<|SSt Z01 3 rfl<|Sn<|rt ?_
   cases h;exact Zd Tryz.results339 rfl (Zx rfl (i:=3) rfl Z01)
def Zb3:(List Oxm)→Nat→Za→Option Za
 | [],i7,b6=>some b6
 | x9::l8,i7,b6=>(Z8y x9.Field).bind fun x11=>(bif x11 then (Zhe x9).bind fun x12=>(chk 24 x9.Field).bind fun j13=>(Zb3 l8) (i7+1) (Vector.set b6 j13.1 x12 j13.2) else (Zb3 l8) (i7+1) b6)
def Zqj (l1:(List Oxm)):Option Za:=
 (Zh0).bind fun x3=>Zb3 l1 0 x3
theorem Yfw:Q1 Tryz.prog 276 (rd (Z1 Z0h)) (rd (Z3 24 Z4)) Zqj:=fun l1 r h=>I0 Tryz.func276 rfl Tryz.ntmps276 rfl fun w H Z=>by
 unfold Zqj at h
 refine SR<|Cv rfl (Zm 3 rfl rfl Z1i) fun g2=>Nl<|sq ?_
 obtain ⟨x3,hx3,h⟩:=Z7 h
 refine Rg<|Cl [] (Zzk _ hx3) Y6h rfl<|Cv rfl (Zm 4 rfl rfl Z1i) fun g4=>Zg Z02 4 rfl<|Nl<|sq<|SR<|Md rfl<|Ac (Z0i rfl rfl Z4w (vt rfl)) rfl<|Mk rfl<|Nl<|bk<|LG (d:=[]) (ν:=(List Oxm)×Nat×Za) (fun (l8,i7,b6)=>(Sfx l1 i7 l8∧Zb3 l8 i7 b6=some r,l8.length,[(2,Zc g2 (Lens.id (Z3 24 Z4))),(3,Zc g4 (Lens.id (Z3 24 Z4))),(7,rd (Z1 Z0h) l1),(8,rd (Z0 .i64) (l1.length:Int)),(9,rd (Z0 .i64) (i7:Int))],[(3,Zh g2 123 (Z3 24 Z4) (Vector.replicate 24 zTern)),(4,Zh g4 123 (Z3 24 Z4) b6)])) (l1,0,x3) ⟨Sfx.start _,h⟩ (FX rfl) ?_
 rintro ⟨l8,i7,b6⟩ ⟨hsf1,h⟩
 dsimp only at hsf1 h ⊢
 cases l8 with
 | nil=>
  unfold Zb3 at h
  refine SR<|Ac (Zj rfl rfl (vt rfl) (vt rfl)) rfl<|Nl<|sq<|Cn rfl (fun hc=>absurd (of_decide_eq_true hc) hsf1.nil) (fun hc=>?_)
  refine xt<|SR<|Ld Z02 4 rfl<|Zg Z02 3 rfl<|Nl<|rt ?_
  cases h;exact Zd Tryz.results276 rfl (Zx rfl (i:=3) rfl Z02)
 | cons x9 l8=>
  unfold Zb3 at h
  refine SR<|Ac (Zj rfl rfl (vt rfl) (vt rfl)) rfl<|Nl<|sq<|Cn rfl (fun hc=>?_) (fun hc=>absurd hsf1.cons (of_decide_eq_false hc))
  have hlti7:=of_decide_eq_true hc
  refine sk<|sq<|bk<|SR<|Ac (Z0k rfl rfl Z4w (vt rfl) (vt rfl) hsf1.lget) rfl<|Lp1 Z7f rfl<|Cv rfl (Zm 6 rfl rfl Zri) fun g10=>Zg Z7f 6 rfl<|Nl<|sq ?_
  obtain ⟨x11,hx11,h⟩:=Z7 h
  refine Rg<|Zk Z4f Z4r rfl<|Ld Zp 6 rfl<|Cl [14] (Zox _ _ hx11) Zoc rfl<|Nl<|Cq rfl h (fun h=>?_) (fun h=>?_)
  ·obtain ⟨x12,hx12,j13,hj13,h⟩:=bs2 h
   refine AR Z00 (by kernel_rfl)<|SFd Z4f Z4r rfl<|Zo Zp 6 rfl<|Zo Z7f 6 rfl<|SCl [18] (Y2h _ _ hx12) Ya1 rfl<|Sd (lo [3,17] [] rfl fun S hs hr=>Z13 rfl rfl Z2l (vh hs 3 rfl rfl) (vh hs 17 rfl rfl) hj13)<|SSt Z01 4 rfl<|Sn<|Rg<|Ac (Z12 (t:=8) rfl rfl (vt rfl) (vk rfl) (vt rfl) hlti7) rfl<|Md rfl<|Nl ?_
   exact ⟨(_,_,_),Nat.lt_succ_self _,⟨hsf1.next,h⟩,FX rfl⟩
  ·refine sk<|Rg<|Ac (Z12 (t:=8) rfl rfl (vt rfl) (vk rfl) (vt rfl) hlti7) rfl<|Md rfl<|Nl ?_
   exact ⟨(_,_,_),Nat.lt_succ_self _,⟨hsf1.next,h⟩,FX rfl⟩
end Go.Proofs.YtinplddjjalohaaGreatDoor.W
set_option maxHeartbeats 1000000
set_option maxRecDepth 4000
namespace Go.Proofs.YtinplddjjalohaaGreatDoor.W
open Go Go.Wb
theorem Zns:Ent Tryz.prog 235:=Ent.mk Tryz.func235 rfl rfl
theorem Za4:Ent Tryz.prog 312:=Ent.mk Tryz.func312 rfl rfl
theorem Yle:Ent Tryz.prog 338:=Ent.mk Tryz.func338 rfl rfl
theorem Y0n:Ent Tryz.prog 272:=Ent.mk Tryz.func272 rfl rfl
theorem Yka:Ent Tryz.prog 276:=Ent.mk Tryz.func276 rfl rfl
theorem Y0g:Ent Tryz.prog 275:=Ent.mk Tryz.func275 rfl rfl
theorem Yqy:Ent Tryz.prog 382:=Ent.mk Tryz.func382 rfl rfl
def Zcf (a1:Wide)(b2:Wide):Option Wide:=
 some (⟨(a1.Hi&&& b2.Hi),(a1.Lo&&& b2.Lo)⟩:Wide)
theorem Zlq:Q2 Tryz.prog 235 (rd Zn) (rd Zn) (rd Zn) Zcf:=fun a1 b2 r h=>I0 Tryz.func235 rfl Tryz.ntmps235 rfl fun w H Z=>by
 unfold Zcf at h
 refine SR<|Cv rfl (Zs 3 rfl rfl (vt rfl)) fun g3=>Cv rfl (Zs 4 rfl rfl (vt rfl)) fun g4=>Cv rfl (Zm 5 rfl rfl Z27) fun g5=>Nl<|SR<|Zk lWide_0 Z4b rfl<|Ld Z1g 3 rfl<|Zk lWide_0 Z4b rfl<|Ld Z1g 4 rfl<|Ac (Zal rfl rfl (vt rfl) (vt rfl)) rfl<|Zk lWide_1 Z4d rfl<|Ld Z1g 3 rfl<|Zk lWide_1 Z4d rfl<|Ld Z1g 4 rfl<|Ac (Zal rfl rfl (vt rfl) (vt rfl)) rfl<|Ac (opb (⟨(a1.Hi&&& b2.Hi),(a1.Lo&&& b2.Lo)⟩:Wide) Z27 rfl Z4h (pc Z7q (vt rfl)<|pc Z84 (vt rfl)<|pn rfl)) rfl<|Zg Zw 5 rfl<|Nl<|rt ?_
 cases h;exact Zd Tryz.results235 rfl (Zx rfl (i:=5) rfl Zw)
def Z7i (t1:Tern):Option Tern:=
 (Zcf t1.Value t1.Mask).bind fun x4=>some (⟨x4,t1.Mask⟩:Tern)
theorem Z9o:Q1 Tryz.prog 312 (rd Z4) (rd Z4) Z7i:=fun t1 r h=>I0 Tryz.func312 rfl Tryz.ntmps312 rfl fun w H Z=>by
 unfold Z7i at h
 refine SR<|Cv rfl (Zs 2 rfl rfl (vt rfl)) fun g2=>Cv rfl (Zm 3 rfl rfl Z1n) fun g3=>Nl<|sq ?_
 obtain ⟨x4,hx4,h⟩:=Z7 h
 refine AR Z00 (by kernel_rfl)<|SFd lTern_0 Z2x rfl<|Zo Zw 2 rfl<|SFd lTern_1 Z2c rfl<|Zo Zw 2 rfl<|SCl [4,6] (Zlq _ _ _ hx4) Zns rfl<|SFd lTern_1 Z2c rfl<|Zo Zw 2 rfl<|Sd (lo [7,9] [] rfl fun S hs hr=>opb (⟨x4,t1.Mask⟩:Tern) Z1n rfl Z4c (pc Z5n (vh hs 7 rfl rfl)<|pc Z5s (vh hs 9 rfl rfl)<|pn rfl))<|SSt Z01 3 rfl<|Sn<|rt ?_
 cases h;exact Zd Tryz.results312 rfl (Zx rfl (i:=3) rfl Z01)
def Ziw (i1:Int)(x2:Za):Option (Tern×Bool):=
 (chk 24 i1).bind fun j4=>(Z7i (Vector.get x2 j4)).bind fun x5=>some (x5,true)
theorem Yg5:Q2 Tryz.prog 338 (rd (Z0 .i64)) (rp (Z3 24 Z4)) (fun r=>Z10 (rd Z4 r.1) (rd Z6 r.2)) Ziw:=fun i1 x2 r h=>I0 Tryz.func338 rfl Tryz.ntmps338 rfl fun w H Z=>by
 unfold Ziw at h
 refine SR<|Cv rfl (Zm 4 rfl rfl Z1n) fun g3=>Ab rfl<|Nl<|sq ?_
 obtain ⟨j4,hj4,x5,hx5,h⟩:=bs2 h
 refine Rg<|Md rfl<|Ac (Z7x rfl rfl Z2l (vt rfl) (vt rfl) hj4) rfl<|Lp1 Z01 rfl<|Cl [7] (Z9o _ _ hx5) Za4 rfl<|Zg Z01 4 rfl<|Ab rfl<|Nl<|rt ?_
 cases h;exact Z1d Tryz.results338 rfl (Zx rfl (i:=4) rfl Z01) (Z5 rfl)
def Z74 (x1:(Int→Option (Tern×Bool))):Nat→Nat→Za→Option (Za×Bool)
 | 0,i6,b5=>some (b5,true)
 | m7+1,i6,b5=>(x1 (i6:Int)).bind fun x8=>(bif (!x8.2) then some ((Vector.replicate 24 zTern),false) else (chk 24 (i6:Int)).bind fun j10=>(Z74 x1 m7) (i6+1) (Vector.set b5 j10.1 x8.1 j10.2))
def Zdb (x1:(Int→Option (Tern×Bool))):Option (Za×Bool):=
 Z74 x1 (24:Int).toNat 0 (Vector.replicate 24 zTern)
theorem Y56:Q1 Tryz.prog 272 (fa1 Tryz.prog (Z0 .i64) (fun (y:(Tern×Bool))=>Z10 (rd Z4 y.1) (rd Z6 y.2))) (fun r=>Z10 (rd (Z3 24 Z4) r.1) (rd Z6 r.2)) Zdb:=fun x1 r h=>I0 Tryz.func272 rfl Tryz.ntmps272 rfl fun w H Z=>by
 unfold Zdb at h
 refine SR<|Cv rfl (Zm 3 rfl rfl Z1i) fun g2=>Ab rfl<|Nl<|SR<|Cv rfl (Zm 5 rfl rfl Z1i) fun g3=>Nl<|sq<|SR<|Mk rfl<|Nl<|bk<|LG (d:=[]) (ν:=Nat×Nat×Za) (fun (m7,i6,b5)=>(Cnt 24 i6 m7∧Z74 x1 m7 i6 b5=some r,m7,[(0,fa1 Tryz.prog (Z0 .i64) (fun (y:(Tern×Bool))=>Z10 (rd Z4 y.1) (rd Z6 y.2)) x1),(2,Zc g2 (Lens.id (Z3 24 Z4))),(4,Zc g3 (Lens.id (Z3 24 Z4))),(8,rd (Z0 .i64) (i6:Int))],[(3,Zh g2 123 (Z3 24 Z4) (Vector.replicate 24 zTern)),(5,Zh g3 123 (Z3 24 Z4) b5)])) ((24:Int).toNat,0,(Vector.replicate 24 zTern)) ⟨Cnt.start _,h⟩ (FX rfl) ?_
 rintro ⟨m7,i6,b5⟩ ⟨hsf1,h⟩
 dsimp only at hsf1 h ⊢
 cases m7 with
 | zero=>
  unfold Z74 at h
  refine SR<|Ac (Zj rfl rfl (vt rfl) (vk rfl)) rfl<|Nl<|sq<|Cn rfl (fun hc=>absurd (of_decide_eq_true hc) hsf1.zero) (fun hc=>?_)
  refine xt<|SR<|Ld Z02 5 rfl<|Zg Z02 3 rfl<|Ab rfl<|Nl<|rt ?_
  cases h;exact Z1d Tryz.results272 rfl (Zx rfl (i:=3) rfl Z02) (Z5 rfl)
 | succ m7=>
  unfold Z74 at h
  refine SR<|Ac (Zj rfl rfl (vt rfl) (vk rfl)) rfl<|Nl<|sq<|Cn rfl (fun hc=>?_) (fun hc=>absurd hsf1.succ (of_decide_eq_false hc))
  have hlti6:=of_decide_eq_true hc
  refine sk<|sq<|bk<|SR<|Md rfl<|As rfl<|Nl<|sq ?_
  obtain ⟨x8,hx8,h⟩:=Z7 h
  refine Rg<|Ac (Zq (A:=fa1 Tryz.prog (Z0 .i64) (fun (y:(Tern×Bool))=>Z10 (rd Z4 y.1) (rd Z6 y.2)) x1) rfl rfl (vt rfl)) rfl<|Md rfl<|Ac (Yrz (B:=(fun (y:(Tern×Bool))=>Z10 (rd Z4 y.1) (rd Z6 y.2))) hx8 rfl rfl (vt rfl) (vt rfl)) rfl<|Mt2 rfl<|Ac (Z1c rfl rfl (vt rfl)) rfl<|Ac (Z18 rfl rfl (vt rfl)) rfl<|Cv rfl (Zm 7 rfl rfl Z1n) fun g9=>Zg Z01 7 rfl<|As rfl<|Nl<|sq<|SR<|Md rfl<|Ac (Z0y rfl rfl (vt rfl)) rfl<|Nl<|Cq rfl h (fun h=>?_) (fun h=>?_)
  ·refine SR<|Ac (Z1m (ps:=[]) (x:=(Vector.replicate 24 zTern)) rfl rfl rfl (by kernel_rfl) Z1i rfl) rfl<|Zg Z02 3 rfl<|Ab rfl<|Nl<|rt ?_
   cases h;exact Z1d Tryz.results272 rfl (Zx rfl (i:=3) rfl Z02) (Z5 rfl)
  ·refine sk ?_
   obtain ⟨j10,hj10,h⟩:=Z7 h
   refine Rg<|Md rfl<|Ld Z01 7 rfl<|Ac (Z13 rfl rfl Z2l (vt rfl) (vt rfl) hj10) rfl<|Zg Z01 5 rfl<|Nl<|Rg<|Ac (Z5f rfl rfl (vt rfl) (vk rfl) rfl hlti6) rfl<|Md rfl<|Nl ?_
   exact ⟨(_,_,_),Nat.lt_succ_self _,⟨hsf1.next,h⟩,FX rfl⟩
def Zgs (x1:Za):Option Za:=
 (Zdb (fun x=>Ziw x x1)).bind fun x4=>some x4.1
theorem Y7u:Q1 Tryz.prog 275 (rd (Z3 24 Z4)) (rd (Z3 24 Z4)) Zgs:=fun x1 r h=>I0 Tryz.func275 rfl Tryz.ntmps275 rfl fun w H Z=>by
 unfold Zgs at h
 refine SR<|Cv rfl (Zs 2 rfl rfl (vt rfl)) fun g2=>Cv rfl (Zm 3 rfl rfl Z1i) fun g3=>Nl<|sq<|AW.freezeB 1 2 rfl rfl rfl ?_
 obtain ⟨x4,hx4,h⟩:=Z7 h
 refine Rg<|Ac (Y9f (fs:=[]) (FAs:=[]) (cs:=[.tmp 1]) (CAs:=[rp (Z3 24 Z4) x1]) (kx:=(Z0 .i64)) (B:=(fun (y:(Tern×Bool))=>Z10 (rd Z4 y.1) (rd Z6 y.2))) (fun x=>Ziw x x1) rfl rfl Yle trivial ⟨vt rfl,trivial⟩ (fun x y h=>Yg5 _ _ y h)) rfl<|Cl [6] (Y56 _ _ hx4) Y0n rfl<|Mt2 rfl<|Ac (Z1c rfl rfl (vt rfl)) rfl<|Ac (Z18 rfl rfl (vt rfl)) rfl<|Cv rfl (Zm 4 rfl rfl Z1i) fun g5=>Zg Z02 4 rfl<|As rfl<|Nl<|SR<|Ld Z02 4 rfl<|Zg Z02 3 rfl<|Nl<|rt ?_
 cases h;exact Zd Tryz.results275 rfl (Zx rfl (i:=3) rfl Z02)
def Zev (x1:Flow):Option Za:=
 (Zqj x1.Match).bind fun x4=>(Zgs x4).bind fun x5=>some x5
theorem Zvi:Q1 Tryz.prog 201 (rd Z03) (rd (Z3 24 Z4)) Zev:=fun x1 r h=>I0 Tryz.func201 rfl Tryz.ntmps201 rfl fun w H Z=>by
 unfold Zev at h
 refine SR<|Cv rfl (Zs 2 rfl rfl (vt rfl)) fun g2=>Cv rfl (Zm 3 rfl rfl Z1i) fun g3=>Nl<|sq ?_
 obtain ⟨x4,hx4,x5,hx5,h⟩:=bs2 h
 refine Rg<|Zk lFlow_5 Zln rfl<|Ld Zce 2 rfl<|Cl [4] (Yfw _ _ hx4) Yka rfl<|Cl [5] (Y7u _ _ hx5) Y0g rfl<|Zg Z02 3 rfl<|Nl<|rt ?_
 cases h;exact Zd Tryz.results201 rfl (Zx rfl (i:=3) rfl Z02)
def Zwl (a1:Wide)(b2:Wide):Option Wide:=
 some (⟨(a1.Hi ^^^ b2.Hi),(a1.Lo ^^^ b2.Lo)⟩:Wide)
theorem Yv0:Q2 Tryz.prog 382 (rd Zn) (rd Zn) (rd Zn) Zwl:=fun a1 b2 r h=>I0 Tryz.func382 rfl Tryz.ntmps382 rfl fun w H Z=>by
 unfold Zwl at h
 refine SR<|Cv rfl (Zs 3 rfl rfl (vt rfl)) fun g3=>Cv rfl (Zs 4 rfl rfl (vt rfl)) fun g4=>Cv rfl (Zm 5 rfl rfl Z27) fun g5=>Nl<|SR<|Zk lWide_0 Z4b rfl<|Ld Z1g 3 rfl<|Zk lWide_0 Z4b rfl<|Ld Z1g 4 rfl<|Ac (Zph rfl rfl (vt rfl) (vt rfl)) rfl<|Zk lWide_1 Z4d rfl<|Ld Z1g 3 rfl<|Zk lWide_1 Z4d rfl<|Ld Z1g 4 rfl<|Ac (Zph rfl rfl (vt rfl) (vt rfl)) rfl<|Ac (opb (⟨(a1.Hi ^^^ b2.Hi),(a1.Lo ^^^ b2.Lo)⟩:Wide) Z27 rfl Z4h (pc Z7q (vt rfl)<|pc Z84 (vt rfl)<|pn rfl)) rfl<|Zg Zw 5 rfl<|Nl<|rt ?_
 cases h;exact Zd Tryz.results382 rfl (Zx rfl (i:=5) rfl Zw)
def Ztm (a1:Wide)(b2:Wide)(m3:Wide):Option Wide:=
 (Zwl a1 b2).bind fun x8=>(Zcf x8 m3).bind fun x9=>some x9
theorem Yei:Q3 Tryz.prog 354 (rd Zn) (rd Zn) (rd Zn) (rd Zn) Ztm:=fun a1 b2 m3 r h=>I0 Tryz.func354 rfl Tryz.ntmps354 rfl fun w H Z=>by
 unfold Ztm at h
 refine SR<|Cv rfl (Zs 4 rfl rfl (vt rfl)) fun g4=>Cv rfl (Zs 5 rfl rfl (vt rfl)) fun g5=>Cv rfl (Zs 6 rfl rfl (vt rfl)) fun g6=>Cv rfl (Zm 7 rfl rfl Z27) fun g7=>Nl<|sq ?_
 obtain ⟨x8,hx8,x9,hx9,h⟩:=bs2 h
 refine AR Z00 (by kernel_rfl)<|Zo Zw 4 rfl<|Zo Zw 5 rfl<|SCl [7,8] (Yv0 _ _ _ hx8) Yqy rfl<|Zo Zw 6 rfl<|SCl [9,10] (Zlq _ _ _ hx9) Zns rfl<|SSt Zw 7 rfl<|Sn<|rt ?_
 cases h;exact Zd Tryz.results354 rfl (Zx rfl (i:=7) rfl Zw)
def Zi3 (a1:Wide):Option Bool:=
 some (decide ((a1.Hi||| a1.Lo)=(0:BitVec 64)))
theorem Ztg:Q1 Tryz.prog 332 (rd Zn) (rd Z6) Zi3:=fun a1 r h=>I0 Tryz.func332 rfl Tryz.ntmps332 rfl fun w H Z=>by
 unfold Zi3 at h
 refine SR<|Cv rfl (Zs 2 rfl rfl (vt rfl)) fun g2=>Ab rfl<|Nl<|SR<|Zk lWide_0 Z4b rfl<|Ld Z1g 2 rfl<|Zk lWide_1 Z4d rfl<|Ld Z1g 2 rfl<|Ac (Znm rfl rfl (vt rfl) (vt rfl)) rfl<|Ac (Zsj rfl rfl (vt rfl) (vku (0:BitVec 64) rfl)) rfl<|As rfl<|Nl<|rt ?_
 cases h;exact Zd Tryz.results332 rfl (Z5 rfl)
end Go.Proofs.YtinplddjjalohaaGreatDoor.W
set_option maxHeartbeats 1000000
set_option maxRecDepth 4000
namespace Go.Proofs.YtinplddjjalohaaGreatDoor.W
open Go Go.Wb
theorem Yn9:Ent Tryz.prog 354:=Ent.mk Tryz.func354 rfl rfl
theorem Zyh:Ent Tryz.prog 332:=Ent.mk Tryz.func332 rfl rfl
theorem Zsq:Ent Tryz.prog 309:=Ent.mk Tryz.func309 rfl rfl
theorem Zeq:Ent Tryz.prog 233:=Ent.mk Tryz.func233 rfl rfl
theorem Zj3:Ent Tryz.prog 234:=Ent.mk Tryz.func234 rfl rfl
theorem Ysd:Ent Tryz.prog 378:=Ent.mk Tryz.func378 rfl rfl
theorem Ygc:Ent Tryz.prog 377:=Ent.mk Tryz.func377 rfl rfl
theorem Y0t:Ent Tryz.prog 274:=Ent.mk Tryz.func274 rfl rfl
theorem Yi2:Ent Tryz.prog 273:=Ent.mk Tryz.func273 rfl rfl
def Zfy (t1:Tern)(x2:Wide):Option Bool:=
 (Ztm t1.Value x2 t1.Mask).bind fun x5=>(Zi3 x5).bind fun x6=>some x6
theorem Zya:Q2 Tryz.prog 309 (rd Z4) (rd Zn) (rd Z6) Zfy:=fun t1 x2 r h=>I0 Tryz.func309 rfl Tryz.ntmps309 rfl fun w H Z=>by
 unfold Zfy at h
 refine SR<|Cv rfl (Zs 3 rfl rfl (vt rfl)) fun g3=>Cv rfl (Zs 4 rfl rfl (vt rfl)) fun g4=>Ab rfl<|Nl<|sq ?_
 obtain ⟨x5,hx5,x6,hx6,h⟩:=bs2 h
 refine Rg<|Zk lTern_0 Z2x rfl<|Ld Zw 3 rfl<|Ld Zw 4 rfl<|Zk lTern_1 Z2c rfl<|Ld Zw 3 rfl<|Cl [6,7,9] (Yei _ _ _ _ hx5) Yn9 rfl<|Cl [10] (Ztg _ _ hx6) Zyh rfl<|As rfl<|Nl<|rt ?_
 cases h;exact Zd Tryz.results309 rfl (Z5 rfl)
def Z97 (a1:Wide)(b2:Wide):Option Wide:=
 some (⟨(a1.Hi||| b2.Hi),(a1.Lo||| b2.Lo)⟩:Wide)
theorem Zel:Q2 Tryz.prog 233 (rd Zn) (rd Zn) (rd Zn) Z97:=fun a1 b2 r h=>I0 Tryz.func233 rfl Tryz.ntmps233 rfl fun w H Z=>by
 unfold Z97 at h
 refine SR<|Cv rfl (Zs 3 rfl rfl (vt rfl)) fun g3=>Cv rfl (Zs 4 rfl rfl (vt rfl)) fun g4=>Cv rfl (Zm 5 rfl rfl Z27) fun g5=>Nl<|SR<|Zk lWide_0 Z4b rfl<|Ld Z1g 3 rfl<|Zk lWide_0 Z4b rfl<|Ld Z1g 4 rfl<|Ac (Znm rfl rfl (vt rfl) (vt rfl)) rfl<|Zk lWide_1 Z4d rfl<|Ld Z1g 3 rfl<|Zk lWide_1 Z4d rfl<|Ld Z1g 4 rfl<|Ac (Znm rfl rfl (vt rfl) (vt rfl)) rfl<|Ac (opb (⟨(a1.Hi||| b2.Hi),(a1.Lo||| b2.Lo)⟩:Wide) Z27 rfl Z4h (pc Z7q (vt rfl)<|pc Z84 (vt rfl)<|pn rfl)) rfl<|Zg Zw 5 rfl<|Nl<|rt ?_
 cases h;exact Zd Tryz.results233 rfl (Zx rfl (i:=5) rfl Zw)
def Zgy (a1:Tern)(b2:Tern):Option (Tern×Bool):=
 (Zcf a1.Mask b2.Mask).bind fun x6=>(Zfy (⟨a1.Value,x6⟩:Tern) b2.Value).bind fun x7=>(bif (!x7) then some ((⟨Z0p,Z0p⟩:Tern),false) else (Z7i a1).bind fun x8=>(Z7i b2).bind fun x9=>(Z97 x8.Value x9.Value).bind fun x10=>(Z97 x8.Mask x9.Mask).bind fun x11=>some ((⟨x10,x11⟩:Tern),true))
theorem Y63:Q2 Tryz.prog 274 (rd Z4) (rd Z4) (fun r=>Z10 (rd Z4 r.1) (rd Z6 r.2)) Zgy:=fun a1 b2 r h=>I0 Tryz.func274 rfl Tryz.ntmps274 rfl fun w H Z=>by
 unfold Zgy at h
 refine SR<|Cv rfl (Zs 3 rfl rfl (vt rfl)) fun g3=>Cv rfl (Zs 4 rfl rfl (vt rfl)) fun g4=>Cv rfl (Zm 5 rfl rfl Z1n) fun g5=>Ab rfl<|Nl<|sq<|sq ?_
 obtain ⟨x6,hx6,x7,hx7,h⟩:=bs2 h
 refine AR Z00 (by kernel_rfl)<|SFd lTern_0 Z2x rfl<|Zo Zw 3 rfl<|SFd lTern_1 Z2c rfl<|Zo Zw 3 rfl<|SFd lTern_1 Z2c rfl<|Zo Zw 4 rfl<|SCl [9,11] (Zlq _ _ _ hx6) Zns rfl<|Sd (lo [7,12] [] rfl fun S hs hr=>opb (⟨a1.Value,x6⟩:Tern) Z1n rfl Z4c (pc Z5n (vh hs 7 rfl rfl)<|pc Z5s (vh hs 12 rfl rfl)<|pn rfl))<|SFd lTern_0 Z2x rfl<|Zo Zw 4 rfl<|SCl [13,15] (Zya _ _ _ hx7) Zsq rfl<|Sd (lo [16] [] rfl fun S hs hr=>Z0y rfl rfl (vh hs 16 rfl rfl))<|Sn<|Cq rfl h (fun h=>?_) (fun h=>?_)
 ·refine SR<|Ac (opb (⟨Z0p,Z0p⟩:Tern) Z1n rfl Z4c (pn rfl)) rfl<|Zg Z01 5 rfl<|Ab rfl<|Nl<|rt ?_
  cases h;exact Z1d Tryz.results274 rfl (Zx rfl (i:=5) rfl Z01) (Z5 rfl)
 ·refine sk<|sq ?_
  obtain ⟨x8,hx8,x9,hx9,h⟩:=bs2 h
  refine AR Z00 (by kernel_rfl)<|Zo Z01 3 rfl<|SCl [19] (Z9o _ _ hx8) Za4 rfl<|Zo Z01 4 rfl<|SCl [21] (Z9o _ _ hx9) Za4 rfl<|SSt Z01 3 rfl<|SSt Z01 4 rfl<|Sn<|sq ?_
  obtain ⟨x10,hx10,x11,hx11,h⟩:=bs2 h
  refine AR Z00 (by kernel_rfl)<|SFd lTern_0 Z2x rfl<|Zo Zw 3 rfl<|SFd lTern_0 Z2x rfl<|Zo Zw 4 rfl<|SCl [24,26] (Zel _ _ _ hx10) Zeq rfl<|SFd lTern_1 Z2c rfl<|Zo Zw 3 rfl<|SFd lTern_1 Z2c rfl<|Zo Zw 4 rfl<|SCl [29,31] (Zel _ _ _ hx11) Zeq rfl<|Sd (lo [27,32] [] rfl fun S hs hr=>opb (⟨x10,x11⟩:Tern) Z1n rfl Z4c (pc Z5n (vh hs 27 rfl rfl)<|pc Z5s (vh hs 32 rfl rfl)<|pn rfl))<|SSt Z01 5 rfl<|Sd (lo [] [] rfl fun S hs hr=>Zv (A:=rd Z6 true) rfl rfl vb)<|Sn<|rt ?_
  cases h;exact Z1d Tryz.results274 rfl (Zx rfl (i:=5) rfl Z01) (Z5 rfl)
def Za6 (a1:Wide)(b2:Wide):Option Wide:=
 some (⟨(a1.Hi&&& ~~~b2.Hi),(a1.Lo&&& ~~~b2.Lo)⟩:Wide)
theorem Zfb:Q2 Tryz.prog 234 (rd Zn) (rd Zn) (rd Zn) Za6:=fun a1 b2 r h=>I0 Tryz.func234 rfl Tryz.ntmps234 rfl fun w H Z=>by
 unfold Za6 at h
 refine SR<|Cv rfl (Zs 3 rfl rfl (vt rfl)) fun g3=>Cv rfl (Zs 4 rfl rfl (vt rfl)) fun g4=>Cv rfl (Zm 5 rfl rfl Z27) fun g5=>Nl<|SR<|Zk lWide_0 Z4b rfl<|Ld Z1g 3 rfl<|Zk lWide_0 Z4b rfl<|Ld Z1g 4 rfl<|Ac (Zqt rfl rfl (vt rfl) (vt rfl)) rfl<|Zk lWide_1 Z4d rfl<|Ld Z1g 3 rfl<|Zk lWide_1 Z4d rfl<|Ld Z1g 4 rfl<|Ac (Zqt rfl rfl (vt rfl) (vt rfl)) rfl<|Ac (opb (⟨(a1.Hi&&& ~~~b2.Hi),(a1.Lo&&& ~~~b2.Lo)⟩:Wide) Z27 rfl Z4h (pc Z7q (vt rfl)<|pc Z84 (vt rfl)<|pn rfl)) rfl<|Zg Zw 5 rfl<|Nl<|rt ?_
 cases h;exact Zd Tryz.results234 rfl (Zx rfl (i:=5) rfl Zw)
def Znx (i1:Int)(x2:Za)(x3:Za):Option Tern:=
 (chk 24 i1).bind fun j5=>(chk 24 i1).bind fun j6=>(chk 24 i1).bind fun j7=>(Za6 ((Vector.get x2 j6).Mask) ((Vector.get x3 j7).Mask)).bind fun x8=>(Z7i (⟨(Vector.get x2 j5).Value,x8⟩:Tern)).bind fun x9=>some x9
theorem Yft:Q3 Tryz.prog 378 (rd (Z0 .i64)) (rp (Z3 24 Z4)) (rp (Z3 24 Z4)) (rd Z4) Znx:=fun i1 x2 x3 r h=>I0 Tryz.func378 rfl Tryz.ntmps378 rfl fun w H Z=>by
 unfold Znx at h
 refine SR<|Cv rfl (Zm 5 rfl rfl Z1n) fun g4=>Nl<|sq ?_
 obtain ⟨j5,hj5,j6,hj6,j7,hj7,x8,hx8,h⟩:=bs4 h
 obtain ⟨x9,hx9,h⟩:=Z7 h
 refine AR Z00 (by kernel_rfl)<|Zt rfl<|Sd (lo [1,5] [] rfl fun S hs hr=>Z7x rfl rfl Z2l (vh hs 1 rfl rfl) (vh hs 5 rfl rfl) hj5)<|SFp lTern_0 Z2x rfl<|SLp Zw rfl<|Zt rfl<|Sd (lo [1,9] [] rfl fun S hs hr=>Z7x rfl rfl Z2l (vh hs 1 rfl rfl) (vh hs 9 rfl rfl) hj6)<|SFp lTern_1 Z2c rfl<|SLp Zw rfl<|Zt rfl<|Sd (lo [2,13] [] rfl fun S hs hr=>Z7x rfl rfl Z47 (vh hs 2 rfl rfl) (vh hs 13 rfl rfl) hj7)<|SFp lTern_1 Z2c rfl<|SLp Zw rfl<|SCl [12,16] (Zfb _ _ _ hx8) Zj3 rfl<|Sd (lo [8,17] [] rfl fun S hs hr=>opb (⟨(Vector.get x2 j5).Value,x8⟩:Tern) Z1n rfl Z4c (pc Z5n (vh hs 8 rfl rfl)<|pc Z5s (vh hs 17 rfl rfl)<|pn rfl))<|SCl [18] (Z9o _ _ hx9) Za4 rfl<|SSt Z01 5 rfl<|Sn<|rt ?_
 cases h;exact Zd Tryz.results378 rfl (Zx rfl (i:=5) rfl Z01)
def Z9m (x1:(Int→Option Tern)):Nat→Nat→Za→Option Za
 | 0,i6,b5=>some b5
 | m7+1,i6,b5=>(x1 (i6:Int)).bind fun x8=>(chk 24 (i6:Int)).bind fun j9=>(Z9m x1 m7) (i6+1) (Vector.set b5 j9.1 x8 j9.2)
def Zna (x1:(Int→Option Tern)):Option Za:=
 Z9m x1 (24:Int).toNat 0 (Vector.replicate 24 zTern)
theorem Ybe:Q1 Tryz.prog 377 (fn1 Tryz.prog (Z0 .i64) Z4) (rd (Z3 24 Z4)) Zna:=fun x1 r h=>I0 Tryz.func377 rfl Tryz.ntmps377 rfl fun w H Z=>by
 unfold Zna at h
 refine SR<|Cv rfl (Zm 3 rfl rfl Z1i) fun g2=>Nl<|SR<|Cv rfl (Zm 4 rfl rfl Z1i) fun g3=>Nl<|sq<|SR<|Mk rfl<|Nl<|bk<|LG (d:=[]) (ν:=Nat×Nat×Za) (fun (m7,i6,b5)=>(Cnt 24 i6 m7∧Z9m x1 m7 i6 b5=some r,m7,[(0,fn1 Tryz.prog (Z0 .i64) Z4 x1),(2,Zc g2 (Lens.id (Z3 24 Z4))),(3,Zc g3 (Lens.id (Z3 24 Z4))),(5,rd (Z0 .i64) (i6:Int))],[(3,Zh g2 123 (Z3 24 Z4) (Vector.replicate 24 zTern)),(4,Zh g3 123 (Z3 24 Z4) b5)])) ((24:Int).toNat,0,(Vector.replicate 24 zTern)) ⟨Cnt.start _,h⟩ (FX rfl) ?_
 rintro ⟨m7,i6,b5⟩ ⟨hsf1,h⟩
 dsimp only at hsf1 h ⊢
 cases m7 with
 | zero=>
  unfold Z9m at h
  refine SR<|Ac (Zj rfl rfl (vt rfl) (vk rfl)) rfl<|Nl<|sq<|Cn rfl (fun hc=>absurd (of_decide_eq_true hc) hsf1.zero) (fun hc=>?_)
  refine xt<|SR<|Ld Z02 4 rfl<|Zg Z02 3 rfl<|Nl<|rt ?_
  cases h;exact Zd Tryz.results377 rfl (Zx rfl (i:=3) rfl Z02)
 | succ m7=>
  unfold Z9m at h
  refine SR<|Ac (Zj rfl rfl (vt rfl) (vk rfl)) rfl<|Nl<|sq<|Cn rfl (fun hc=>?_) (fun hc=>absurd hsf1.succ (of_decide_eq_false hc))
  have hlti6:=of_decide_eq_true hc
  refine sk<|sq<|bk<|SR<|Md rfl<|As rfl<|Nl ?_
  obtain ⟨x8,hx8,j9,hj9,h⟩:=bs2 h
  refine Rg<|Md rfl<|Ac (Zq (A:=fn1 Tryz.prog (Z0 .i64) Z4 x1) rfl rfl (vt rfl)) rfl<|Md rfl<|Ac (Zat hx8 rfl rfl (vt rfl) (vt rfl)) rfl<|Ac (Z13 rfl rfl Z2l (vt rfl) (vt rfl) hj9) rfl<|Zg Z01 4 rfl<|Nl<|Rg<|Ac (Z5f rfl rfl (vt rfl) (vk rfl) rfl hlti6) rfl<|Md rfl<|Nl ?_
  exact ⟨(_,_,_),Nat.lt_succ_self _,⟨hsf1.next,h⟩,FX rfl⟩
def Zb0 (x2:Za)(x1:Za):(List Tern)→Nat→Option (Za×Bool)
 | [],i6=>(Zna (fun x=>Znx x x2 x1)).bind fun x8=>some (x8,true)
 | x9::l7,i6=>(chk 24 (i6:Int)).bind fun j11=>(Zgy x9 (Vector.get x2 j11)).bind fun x12=>(bif (!x12.2) then some ((Vector.replicate 24 zTern),false) else (Zb0 x2 x1 l7) (i6+1))
def Zn2 (x1:Za)(x2:Za):Option (Za×Bool):=
 Zb0 x2 x1 (Vector.toList x1) 0
theorem Yo2:Q2 Tryz.prog 351 (rd (Z3 24 Z4)) (rd (Z3 24 Z4)) (fun r=>Z10 (rd (Z3 24 Z4) r.1) (rd Z6 r.2)) Zn2:=fun x1 x2 r h=>I0 Tryz.func351 rfl Tryz.ntmps351 rfl fun w H Z=>by
 unfold Zn2 at h
 refine SR<|Cv rfl (Zs 3 rfl rfl (vt rfl)) fun g3=>Cv rfl (Zs 4 rfl rfl (vt rfl)) fun g4=>Cv rfl (Zm 5 rfl rfl Z1i) fun g5=>Ab rfl<|Nl<|sq<|SR<|Ld Z04 3 rfl<|Mk rfl<|Nl<|bk<|LG (d:=[]) (ν:=(List Tern)×Nat) (fun (l7,i6)=>(Sfx (Vector.toList x1) i6 l7∧Zb0 x2 x1 l7 i6=some r,l7.length,[(2,Zc g3 (Lens.id (Z3 24 Z4))),(3,Zc g4 (Lens.id (Z3 24 Z4))),(4,Zc g5 (Lens.id (Z3 24 Z4))),(10,rd (Z3 24 Z4) x1),(11,rd (Z0 .i64) (i6:Int))],[(3,Zh g3 131 (Z3 24 Z4) x1),(4,Zh g4 123 (Z3 24 Z4) x2),(5,Zh g5 123 (Z3 24 Z4) (Vector.replicate 24 zTern))])) ((Vector.toList x1),0) ⟨Sfx.start _,h⟩ (FX rfl) ?_
 rintro ⟨l7,i6⟩ ⟨hsf1,h⟩
 dsimp only at hsf1 h ⊢
 cases l7 with
 | nil=>
  unfold Zb0 at h
  refine SR<|Ac (Zj rfl rfl (vt rfl) (vk rfl)) rfl<|Nl<|sq<|Cn rfl (fun hc=>absurd (of_decide_eq_true hc) (hsf1.niln (by simp))) (fun hc=>?_)
  refine xt<|sq<|AW.freezeB 3 4 rfl rfl rfl<|AW.freezeB 2 3 rfl rfl rfl ?_
  obtain ⟨x8,hx8,h⟩:=Z7 h
  refine Rg<|Ac (Z9b (cs:=[.tmp 3,.tmp 2]) (CAs:=[rp (Z3 24 Z4) x2,rp (Z3 24 Z4) x1]) (fun x=>Znx x x2 x1) rfl rfl Ysd ⟨vt rfl,vt rfl,trivial⟩ (fun x y h=>Yft _ _ _ y h)) rfl<|Cl [27] (Ybe _ _ hx8) Ygc rfl<|Zg Z02 5 rfl<|Ab rfl<|Nl<|rt ?_
  cases h;exact Z1d Tryz.results351 rfl (Zx rfl (i:=5) rfl Z02) (Z5 rfl)
 | cons x9 l7=>
  unfold Zb0 at h
  refine SR<|Ac (Zj rfl rfl (vt rfl) (vk rfl)) rfl<|Nl<|sq<|Cn rfl (fun hc=>?_) (fun hc=>absurd (hsf1.consn (by simp)) (of_decide_eq_false hc))
  have hlti6:=of_decide_eq_true hc
  refine sk<|sq<|bk<|SR<|Md rfl<|Ac (Z8d rfl rfl Z47 Z01 (vt rfl) (vt rfl) hsf1.lget) rfl<|Cv rfl (Zm 8 rfl rfl Z1n) fun g10=>As rfl<|Zg Z01 8 rfl<|Nl<|sq ?_
  obtain ⟨j11,hj11,x12,hx12,h⟩:=bs2 h
  refine AR Z00 (by kernel_rfl)<|Zo Z01 8 rfl<|Zt rfl<|Sd (lo [3,17] [] rfl fun S hs hr=>Z13 rfl rfl Z2l (vh hs 3 rfl rfl) (vh hs 17 rfl rfl) hj11)<|Zo Z01 4 rfl<|SCl [16,19] (Y63 _ _ _ hx12) Y0t rfl<|Sd (lo [20] [] rfl fun S hs hr=>Zq (A:=Z10 (rd Z4 x12.1) (rd Z6 x12.2)) rfl rfl (vh hs 20 rfl rfl))<|Sd (lo [15] [] rfl fun S hs hr=>Z1c rfl rfl (vh hs 15 rfl rfl))<|Sd (lo [15] [] rfl fun S hs hr=>Z18 rfl rfl (vh hs 15 rfl rfl))<|Sd (Z19 (us:=[(8,Z2t 121 Z4 zTern)]) (ur:=[]) [] [] rfl fun S hs hr=>Z7k rfl rfl rfl Z1n)<|Sd (Z19 (us:=[(8,Z2t 121 Z4 x12.1)]) (ur:=[]) [8,21] [] rfl fun S hs hr=>Z70 rfl rfl Z01 ((hs 8 rfl).trans rfl) (vh hs 21 rfl rfl))<|SAs rfl<|Sn<|AW.unpackP 8 9 rfl rfl fun g13=>SR<|Md rfl<|Ac (Z0y rfl rfl (vt rfl)) rfl<|Nl<|Cq rfl h (fun h=>?_) (fun h=>?_)
  ·refine SR<|Ac (Z1m (ps:=[]) (x:=(Vector.replicate 24 zTern)) rfl rfl rfl (by kernel_rfl) Z1i rfl) rfl<|Zg Z02 5 rfl<|Ab rfl<|Nl<|rt ?_
   cases h;exact Z1d Tryz.results351 rfl (Zx rfl (i:=5) rfl Z02) (Z5 rfl)
  ·refine sk<|Rg<|Ac (Z5f rfl rfl (vt rfl) (vk rfl) rfl hlti6) rfl<|Md rfl<|Nl ?_
   exact ⟨(_,_),Nat.lt_succ_self _,⟨hsf1.next,h⟩,FX rfl⟩
def Zk8 (i1:Int)(x2:Za)(x3:Za):Option (Tern×Bool):=
 (chk 24 i1).bind fun j5=>(chk 24 i1).bind fun j6=>(Zgy (Vector.get x2 j5) (Vector.get x3 j6)).bind fun x7=>some (x7.1,x7.2)
theorem Yis:Q3 Tryz.prog 273 (rd (Z0 .i64)) (rp (Z3 24 Z4)) (rp (Z3 24 Z4)) (fun r=>Z10 (rd Z4 r.1) (rd Z6 r.2)) Zk8:=fun i1 x2 x3 r h=>I0 Tryz.func273 rfl Tryz.ntmps273 rfl fun w H Z=>by
 unfold Zk8 at h
 refine SR<|Cv rfl (Zm 5 rfl rfl Z1n) fun g4=>Ab rfl<|Nl<|sq ?_
 obtain ⟨j5,hj5,j6,hj6,x7,hx7,h⟩:=bs3 h
 refine AR Z00 (by kernel_rfl)<|Zt rfl<|Sd (lo [1,6] [] rfl fun S hs hr=>Z7x rfl rfl Z2l (vh hs 1 rfl rfl) (vh hs 6 rfl rfl) hj5)<|SLp Z01 rfl<|Zt rfl<|Sd (lo [2,9] [] rfl fun S hs hr=>Z7x rfl rfl Z2l (vh hs 2 rfl rfl) (vh hs 9 rfl rfl) hj6)<|SLp Z01 rfl<|SCl [8,11] (Y63 _ _ _ hx7) Y0t rfl<|Sd (lo [12] [] rfl fun S hs hr=>Z1c rfl rfl (vh hs 12 rfl rfl))<|Sd (lo [12] [] rfl fun S hs hr=>Z18 rfl rfl (vh hs 12 rfl rfl))<|SSt Z01 5 rfl<|SAs rfl<|Sn<|rt ?_
 cases h;exact Z1d Tryz.results273 rfl (Zx rfl (i:=5) rfl Z01) (Z5 rfl)
def Zb9 (a1:Za)(b2:Za):Option (Za×Bool):=
 (Zdb (fun x=>Zk8 x a1 b2)).bind fun x6=>some (x6.1,x6.2)
theorem Zyq:Q2 Tryz.prog 200 (rd (Z3 24 Z4)) (rd (Z3 24 Z4)) (fun r=>Z10 (rd (Z3 24 Z4) r.1) (rd Z6 r.2)) Zb9:=fun a1 b2 r h=>I0 Tryz.func200 rfl Tryz.ntmps200 rfl fun w H Z=>by
 unfold Zb9 at h
 refine SR<|Cv rfl (Zs 3 rfl rfl (vt rfl)) fun g3=>Cv rfl (Zs 4 rfl rfl (vt rfl)) fun g4=>Cv rfl (Zm 5 rfl rfl Z1i) fun g5=>Ab rfl<|Nl<|sq<|AW.freezeB 2 3 rfl rfl rfl<|AW.freezeB 3 4 rfl rfl rfl ?_
 obtain ⟨x6,hx6,h⟩:=Z7 h
 refine Rg<|Ac (Y9f (fs:=[]) (FAs:=[]) (cs:=[.tmp 2,.tmp 3]) (CAs:=[rp (Z3 24 Z4) a1,rp (Z3 24 Z4) b2]) (kx:=(Z0 .i64)) (B:=(fun (y:(Tern×Bool))=>Z10 (rd Z4 y.1) (rd Z6 y.2))) (fun x=>Zk8 x a1 b2) rfl rfl Yi2 trivial ⟨vt rfl,vt rfl,trivial⟩ (fun x y h=>Yis _ _ _ y h)) rfl<|Cl [6] (Y56 _ _ hx6) Y0n rfl<|Ac (Z1c rfl rfl (vt rfl)) rfl<|Ac (Z18 rfl rfl (vt rfl)) rfl<|Zg Z02 5 rfl<|As rfl<|Nl<|rt ?_
 cases h;exact Z1d Tryz.results200 rfl (Zx rfl (i:=5) rfl Z02) (Z5 rfl)
end Go.Proofs.YtinplddjjalohaaGreatDoor.W
set_option maxHeartbeats 1000000
set_option maxRecDepth 4000
namespace Go.Proofs.YtinplddjjalohaaGreatDoor.W
open Go Go.Wb
theorem Ztl:Ent Tryz.prog 201:=Ent.mk Tryz.func201 rfl rfl
theorem Ys3:Ent Tryz.prog 351:=Ent.mk Tryz.func351 rfl rfl
theorem Zwr:Ent Tryz.prog 200:=Ent.mk Tryz.func200 rfl rfl
theorem Ybc:Ent Tryz.prog 230:=Ent.mk Tryz.func230 rfl rfl
theorem Zka:Ent Tryz.prog 148:=Ent.mk Tryz.func148 rfl rfl
theorem Yg6:Ent Tryz.prog 311:=Ent.mk Tryz.func311 rfl rfl
theorem Y5q:Ent Tryz.prog 310:=Ent.mk Tryz.func310 rfl rfl
theorem Yaq:Ent Tryz.prog 236:=Ent.mk Tryz.func236 rfl rfl
theorem Y92:Ent Tryz.prog 238:=Ent.mk Tryz.func238 rfl rfl
def Zne (w1:walk_way)(x2:Flow):Option (walk_way×Bool):=
 (Zev x2).bind fun x6=>(Zn2 w1.got x6).bind fun x7=>(bif (!x7.2) then some ((⟨(Vector.replicate 24 zTern),(Vector.replicate 24 zTern),[],[]⟩:walk_way),false) else (Zb9 x7.1 w1.cube).bind fun x9=>some ({w1 with cube:=x9.1},x9.2))
theorem Yhe:Q2 Tryz.prog 304 (rd Z1v) (rd Z03) (fun r=>Z10 (rd Z1v r.1) (rd Z6 r.2)) Zne:=fun w1 x2 r h=>I0 Tryz.func304 rfl Tryz.ntmps304 rfl fun w H Z=>by
 unfold Zne at h
 refine SR<|Cv rfl (Zs 3 rfl rfl (vt rfl)) fun g3=>Cv rfl (Zs 4 rfl rfl (vt rfl)) fun g4=>Cv rfl (Zm 5 rfl rfl Zgb) fun g5=>Ab rfl<|Nl<|sq ?_
 obtain ⟨x6,hx6,x7,hx7,h⟩:=bs2 h
 refine AR Z00 (by kernel_rfl)<|SFd lwalk_way_1 Zjp rfl<|Zo Z04 3 rfl<|Zo Z2b 4 rfl<|SCl [11] (Zvi _ _ hx6) Ztl rfl<|SCl [10,12] (Yo2 _ _ _ hx7) Ys3 rfl<|Sd (lo [13] [] rfl fun S hs hr=>Zq (A:=Z10 (rd (Z3 24 Z4) x7.1) (rd Z6 x7.2)) rfl rfl (vh hs 13 rfl rfl))<|Sd (lo [8] [] rfl fun S hs hr=>Z1c rfl rfl (vh hs 8 rfl rfl))<|Sd (lo [8] [] rfl fun S hs hr=>Z18 rfl rfl (vh hs 8 rfl rfl))<|Sd (Z19 (us:=[(6,Z2t 123 (Z3 24 Z4) (Vector.replicate 24 zTern))]) (ur:=[]) [] [] rfl fun S hs hr=>Z7k rfl rfl rfl Z1i)<|Sd (Z19 (us:=[(6,Z2t 123 (Z3 24 Z4) x7.1)]) (ur:=[]) [6,14] [] rfl fun S hs hr=>Z70 rfl rfl Z02 ((hs 6 rfl).trans rfl) (vh hs 14 rfl rfl))<|SAs rfl<|Sn<|AW.unpackP 6 7 rfl rfl fun g8=>sq<|SR<|Md rfl<|Ac (Z0y rfl rfl (vt rfl)) rfl<|Nl<|Cq rfl h (fun h=>?_) (fun h=>?_)
 ·refine SR<|Ac (opb (⟨(Vector.replicate 24 zTern),(Vector.replicate 24 zTern),[],[]⟩:walk_way) Zgb rfl Y1h (pn rfl)) rfl<|Zg Z3i 5 rfl<|Ab rfl<|Nl<|rt ?_
  cases h;exact Z1d Tryz.results304 rfl (Zx rfl (i:=5) rfl Z3i) (Z5 rfl)
 ·refine sk<|sq ?_
  obtain ⟨x9,hx9,h⟩:=Z7 h
  refine Rg<|Ld Z02 7 rfl<|Zk lwalk_way_0 Zvk rfl<|Ld Z02 3 rfl<|Cl [20,22] (Zyq _ _ _ hx9) Zwr rfl<|Mt2 rfl<|Ac (Z1c rfl rfl (vt rfl)) rfl<|Ac (Z18 rfl rfl (vt rfl)) rfl<|Zk lwalk_way_0 Zvk rfl<|Zg Z02 3 rfl<|As rfl<|Nl<|SR<|Ld Z3i 3 rfl<|Md rfl<|Zg Z3i 5 rfl<|As rfl<|Nl<|rt ?_
  cases h;exact Z1d Tryz.results304 rfl (Zx rfl (i:=5) rfl Z3i) (Z5 rfl)
def Zmd (i1:Inst)(x2:Int):Option Bool:=
 some (decide (i1.Kind=x2))
theorem Ysy:Q2 Tryz.prog 230 (rd Z0a) (rp (Z0 .i64)) (rd Z6) Zmd:=fun i1 x2 r h=>I0 Tryz.func230 rfl Tryz.ntmps230 rfl fun w H Z=>by
 unfold Zmd at h
 refine SR<|Cv rfl (Zs 3 rfl rfl (vt rfl)) fun g3=>Ab rfl<|Nl<|SR<|Zk Ze4 Zf7 rfl<|Ld Zp 3 rfl<|Lp1 Zp rfl<|Ac (Z0j rfl rfl (vt rfl) (vt rfl)) rfl<|As rfl<|Nl<|rt ?_
 cases h;exact Zd Tryz.results230 rfl (Z5 rfl)
def Z6r (s:List Action):Option (List Action):=Z0v [] s
theorem Zsl (s:List Action)(r:List Action)(h:Z6r s=some r):Con Tryz.prog 148 [rd (Z1 Z9) s] emp (fun v=>Zb v) (fun v=>Zf v 219 Z9 r):=by
 refine Con.intro0 Tryz.func148 rfl Tryz.ntmps148 rfl fun w H Z=>?_
 unfold Z6r at h
 refine AW.newnil 1001 219 Z9<|SR<|Ac (Zv (A:=Zb (.slice none 0 0)) rfl rfl vc) rfl<|Nl<|sq<|SR<|Md rfl<|Ct rfl (Zbx rfl rfl Z0g (vt rfl)) ?_
 rintro _ ⟨b,hb,rfl⟩
 refine Nl<|Cn rfl (fun hc=>?_) (fun hc=>?_)
 ·obtain rfl:=hb hc
  refine SR<|Ac (Zv (A:=Zb (.slice none 0 0)) rfl rfl vc) rfl<|Nl<|rt ?_
  obtain rfl:=(Z7c h).2
  exact Z3m (i:=1001) Tryz.results148 rfl rfl rfl
 ·refine sk<|SR<|Cv rfl (Z4q 1002 (ps:=[]) (l:=[]) rfl rfl Z0g Z66 rfl rfl rfl rfl) fun v1=>Md rfl<|Cv rfl (Z29 1002 h rfl rfl Z8l (vt rfl) rfl (vt rfl)) fun v2=>Aw rfl<|Nl<|rt ?_
  exact Z3m (i:=1002) Tryz.results148 rfl rfl rfl
theorem Zsr (s:List Action)(r:List Action)(h:Z6r s=some r):PCon Tryz.prog 148 [rd (Z1 Z9) s] (rd (Z1 Z9) r):=PCon.of_row (Zsl s r h)
def Z64 (l1:(List Inst))(k2:Int):Option (Inst×Bool):=
 (Zg6 l1 (fun x=>Zmd x k2)).bind fun x5=>(bif (decide (x5<0)) then some ((⟨0,0,Z0p,Z0p,[]⟩:Inst),false) else (lget l1 x5).bind fun x6=>(Z6r x6.Acts).bind fun x8=>some ({x6 with Acts:=x8},true))
theorem Z8n:Q2 Tryz.prog 139 (rd (Z1 Z0a)) (rd (Z0 .i64)) (fun r=>Z10 (rd Z0a r.1) (rd Z6 r.2)) Z64:=fun l1 k2 r h=>I0 Tryz.func139 rfl Tryz.ntmps139 rfl fun w H Z=>by
 unfold Z64 at h
 refine SR<|Cv rfl (Zs 4 rfl rfl (vt rfl)) fun g3=>Cv rfl (Zm 5 rfl rfl Z3f) fun g4=>Ab rfl<|Nl<|sq<|AW.freezeB 3 4 rfl rfl rfl ?_
 obtain ⟨x5,hx5,h⟩:=Z7 h
 refine Rg<|Md rfl<|Ac (Z9b (cs:=[.tmp 3]) (CAs:=[rp (Z0 .i64) k2]) (fun x=>Zmd x k2) rfl rfl Ybc ⟨vt rfl,trivial⟩ (fun x y h=>Ysy _ _ y h)) rfl<|Cl [8,9] (Y5f _ _ _ hx5) Y88 rfl<|As rfl<|Nl<|sq<|SR<|Md rfl<|Ac (Zj rfl rfl (vt rfl) (vk rfl)) rfl<|Nl<|Cq rfl h (fun h=>?_) (fun h=>?_)
 ·refine SR<|Ac (opb (⟨0,0,Z0p,Z0p,[]⟩:Inst) Z3f rfl Y86 (pn rfl)) rfl<|Zg Z25 5 rfl<|Ab rfl<|Nl<|rt ?_
  cases h;exact Z1d Tryz.results139 rfl (Zx rfl (i:=5) rfl Z25) (Z5 rfl)
 ·refine sk<|sq ?_
  obtain ⟨x6,hx6,h⟩:=Z7 h
  refine Rg<|Md rfl<|Md rfl<|Ac (Z0k rfl rfl Z4p (vt rfl) (vt rfl) hx6) rfl<|Lp1 Z25 rfl<|Cv rfl (Zm 8 rfl rfl Z3f) fun g7=>Zg Z25 8 rfl<|Nl<|sq ?_
  obtain ⟨x8,hx8,h⟩:=Z7 h
  refine Rg<|Zk Z60 Z6w rfl<|Ld Z2z 8 rfl<|Cl [19] (Zsr _ _ hx8) Zka rfl<|Zk Z60 Z6w rfl<|Zg Z2z 8 rfl<|Nl<|SR<|Ld Z25 8 rfl<|Zg Z25 5 rfl<|Ab rfl<|Nl<|rt ?_
  cases h;exact Z1d Tryz.results139 rfl (Zx rfl (i:=5) rfl Z25) (Z5 rfl)
def Zgd (i1:Int)(x2:Za):Option Tern:=
 (chk 24 i1).bind fun j4=>(Z7i (Vector.get x2 j4)).bind fun x5=>some x5
theorem Yjp:Q2 Tryz.prog 311 (rd (Z0 .i64)) (rp (Z3 24 Z4)) (rd Z4) Zgd:=fun i1 x2 r h=>I0 Tryz.func311 rfl Tryz.ntmps311 rfl fun w H Z=>by
 unfold Zgd at h
 refine SR<|Cv rfl (Zm 4 rfl rfl Z1n) fun g3=>Nl<|sq ?_
 obtain ⟨j4,hj4,x5,hx5,h⟩:=bs2 h
 refine Rg<|Md rfl<|Ac (Z7x rfl rfl Z47 (vt rfl) (vt rfl) hj4) rfl<|Lp1 Z01 rfl<|Cl [6] (Z9o _ _ hx5) Za4 rfl<|Zg Z01 4 rfl<|Nl<|rt ?_
 cases h;exact Zd Tryz.results311 rfl (Zx rfl (i:=4) rfl Z01)
def Z9s (x1:(Int→Option Tern)):Nat→Nat→Za→Option Za
 | 0,i6,b5=>some b5
 | m7+1,i6,b5=>(x1 (i6:Int)).bind fun x8=>(chk 24 (i6:Int)).bind fun j9=>(Z9s x1 m7) (i6+1) (Vector.set b5 j9.1 x8 j9.2)
def Zge (x1:(Int→Option Tern)):Option Za:=
 Z9s x1 (24:Int).toNat 0 (Vector.replicate 24 zTern)
theorem Y6c:Q1 Tryz.prog 310 (fn1 Tryz.prog (Z0 .i64) Z4) (rd (Z3 24 Z4)) Zge:=fun x1 r h=>I0 Tryz.func310 rfl Tryz.ntmps310 rfl fun w H Z=>by
 unfold Zge at h
 refine SR<|Cv rfl (Zm 3 rfl rfl Z3p) fun g2=>Nl<|SR<|Cv rfl (Zm 4 rfl rfl Z3p) fun g3=>Nl<|sq<|SR<|Mk rfl<|Nl<|bk<|LG (d:=[]) (ν:=Nat×Nat×Za) (fun (m7,i6,b5)=>(Cnt 24 i6 m7∧Z9s x1 m7 i6 b5=some r,m7,[(0,fn1 Tryz.prog (Z0 .i64) Z4 x1),(2,Zc g2 (Lens.id (Z3 24 Z4))),(3,Zc g3 (Lens.id (Z3 24 Z4))),(5,rd (Z0 .i64) (i6:Int))],[(3,Zh g2 131 (Z3 24 Z4) (Vector.replicate 24 zTern)),(4,Zh g3 131 (Z3 24 Z4) b5)])) ((24:Int).toNat,0,(Vector.replicate 24 zTern)) ⟨Cnt.start _,h⟩ (FX rfl) ?_
 rintro ⟨m7,i6,b5⟩ ⟨hsf1,h⟩
 dsimp only at hsf1 h ⊢
 cases m7 with
 | zero=>
  unfold Z9s at h
  refine SR<|Ac (Zj rfl rfl (vt rfl) (vk rfl)) rfl<|Nl<|sq<|Cn rfl (fun hc=>absurd (of_decide_eq_true hc) hsf1.zero) (fun hc=>?_)
  refine xt<|SR<|Ld Z04 4 rfl<|Zg Z04 3 rfl<|Nl<|rt ?_
  cases h;exact Zd Tryz.results310 rfl (Zx rfl (i:=3) rfl Z04)
 | succ m7=>
  unfold Z9s at h
  refine SR<|Ac (Zj rfl rfl (vt rfl) (vk rfl)) rfl<|Nl<|sq<|Cn rfl (fun hc=>?_) (fun hc=>absurd hsf1.succ (of_decide_eq_false hc))
  have hlti6:=of_decide_eq_true hc
  refine sk<|sq<|bk<|SR<|Md rfl<|As rfl<|Nl ?_
  obtain ⟨x8,hx8,j9,hj9,h⟩:=bs2 h
  refine Rg<|Md rfl<|Ac (Zq (A:=fn1 Tryz.prog (Z0 .i64) Z4 x1) rfl rfl (vt rfl)) rfl<|Md rfl<|Ac (Zat hx8 rfl rfl (vt rfl) (vt rfl)) rfl<|Ac (Z13 rfl rfl Z47 (vt rfl) (vt rfl) hj9) rfl<|Zg Z01 4 rfl<|Nl<|Rg<|Ac (Z5f rfl rfl (vt rfl) (vk rfl) rfl hlti6) rfl<|Md rfl<|Nl ?_
  exact ⟨(_,_,_),Nat.lt_succ_self _,⟨hsf1.next,h⟩,FX rfl⟩
def Zgv (x1:Za):Option Za:=
 (Zge (fun x=>Zgd x x1)).bind fun x4=>some x4
theorem Y28:Q1 Tryz.prog 236 (rd (Z3 24 Z4)) (rd (Z3 24 Z4)) Zgv:=fun x1 r h=>I0 Tryz.func236 rfl Tryz.ntmps236 rfl fun w H Z=>by
 unfold Zgv at h
 refine SR<|Cv rfl (Zs 2 rfl rfl (vt rfl)) fun g2=>Cv rfl (Zm 3 rfl rfl Z3p) fun g3=>Nl<|sq<|AW.freezeB 1 2 rfl rfl rfl ?_
 obtain ⟨x4,hx4,h⟩:=Z7 h
 refine Rg<|Ac (Z9b (cs:=[.tmp 1]) (CAs:=[rp (Z3 24 Z4) x1]) (fun x=>Zgd x x1) rfl rfl Yg6 ⟨vt rfl,trivial⟩ (fun x y h=>Yjp _ _ y h)) rfl<|Cl [3] (Y6c _ _ hx4) Y5q rfl<|Zg Z04 3 rfl<|Nl<|rt ?_
 cases h;exact Zd Tryz.results236 rfl (Zx rfl (i:=3) rfl Z04)
def Zl3 (a1:Tern)(b2:Tern):Option Tern:=
 (Z7i a1).bind fun x6=>(Z7i b2).bind fun x7=>(Za6 x6.Value x7.Mask).bind fun x8=>(Z97 x8 x7.Value).bind fun x9=>(Z97 x6.Mask x7.Mask).bind fun x10=>some (⟨x9,x10⟩:Tern)
theorem Y1d:Q2 Tryz.prog 238 (rd Z4) (rd Z4) (rd Z4) Zl3:=fun a1 b2 r h=>I0 Tryz.func238 rfl Tryz.ntmps238 rfl fun w H Z=>by
 unfold Zl3 at h
 refine SR<|Cv rfl (Zs 3 rfl rfl (vt rfl)) fun g3=>Cv rfl (Zs 4 rfl rfl (vt rfl)) fun g4=>Cv rfl (Zm 5 rfl rfl Z1n) fun g5=>Nl<|sq ?_
 obtain ⟨x6,hx6,x7,hx7,h⟩:=bs2 h
 refine AR Z00 (by kernel_rfl)<|Zo Z01 3 rfl<|SCl [5] (Z9o _ _ hx6) Za4 rfl<|Zo Z01 4 rfl<|SCl [7] (Z9o _ _ hx7) Za4 rfl<|SSt Z01 3 rfl<|SSt Z01 4 rfl<|Sn<|sq ?_
 obtain ⟨x8,hx8,x9,hx9,x10,hx10,h⟩:=bs3 h
 refine AR Z00 (by kernel_rfl)<|SFd lTern_0 Z2x rfl<|Zo Zw 3 rfl<|SFd lTern_1 Z2c rfl<|Zo Zw 4 rfl<|SCl [10,12] (Zfb _ _ _ hx8) Zj3 rfl<|SFd lTern_0 Z2x rfl<|Zo Zw 4 rfl<|SCl [13,15] (Zel _ _ _ hx9) Zeq rfl<|SFd lTern_1 Z2c rfl<|Zo Zw 3 rfl<|SFd lTern_1 Z2c rfl<|Zo Zw 4 rfl<|SCl [18,20] (Zel _ _ _ hx10) Zeq rfl<|Sd (lo [16,21] [] rfl fun S hs hr=>opb (⟨x9,x10⟩:Tern) Z1n rfl Z4c (pc Z5n (vh hs 16 rfl rfl)<|pc Z5s (vh hs 21 rfl rfl)<|pn rfl))<|SSt Z01 5 rfl<|Sn<|rt ?_
 cases h;exact Zd Tryz.results238 rfl (Zx rfl (i:=5) rfl Z01)
def Z9f (x1:Za)(x2:Int)(x3:Wide)(m4:Wide):Option Za:=
 (Zgv x1).bind fun x9=>(Z8y x2).bind fun x10=>(bif x10 then (chk 24 x2).bind fun j11=>(Zl3 (Vector.get x9 j11) (⟨x3,m4⟩:Tern)).bind fun x12=>(chk 24 x2).bind fun j13=>some (Vector.set x9 j13.1 x12 j13.2) else some x9)
theorem Zi5:Q4 Tryz.prog 142 (rd (Z3 24 Z4)) (rd (Z0 .i64)) (rd Zn) (rd Zn) (rd (Z3 24 Z4)) Z9f:=fun x1 x2 x3 m4 r h=>I0 Tryz.func142 rfl Tryz.ntmps142 rfl fun w H Z=>by
 unfold Z9f at h
 refine SR<|Cv rfl (Zs 5 rfl rfl (vt rfl)) fun g5=>Cv rfl (Zs 7 rfl rfl (vt rfl)) fun g6=>Cv rfl (Zs 8 rfl rfl (vt rfl)) fun g7=>Cv rfl (Zm 9 rfl rfl Z3p) fun g8=>Nl<|sq ?_
 obtain ⟨x9,hx9,h⟩:=Z7 h
 refine Rg<|Ld Z04 5 rfl<|Cl [9] (Y28 _ _ hx9) Yaq rfl<|Zg Z04 5 rfl<|Nl<|sq<|sq ?_
 obtain ⟨x10,hx10,h⟩:=Z7 h
 refine Rg<|Md rfl<|Cl [11] (Zox _ _ hx10) Zoc rfl<|Nl<|Cq rfl h (fun h=>?_) (fun h=>?_)
 ·obtain ⟨j11,hj11,x12,hx12,j13,hj13,h⟩:=bs3 h
  refine AR Z00 (by kernel_rfl)<|Zt rfl<|Zt rfl<|Sd (lo [4,14] [] rfl fun S hs hr=>Z13 rfl rfl Z47 (vh hs 4 rfl rfl) (vh hs 14 rfl rfl) hj11)<|Zo Z01 5 rfl<|Zo Zw 7 rfl<|Zo Zw 8 rfl<|Sd (lo [17,18] [] rfl fun S hs hr=>opb (⟨x3,m4⟩:Tern) Z1n rfl Z4c (pc Z5n (vh hs 17 rfl rfl)<|pc Z5s (vh hs 18 rfl rfl)<|pn rfl))<|SCl [16,19] (Y1d _ _ _ hx12) Y92 rfl<|Sd (lo [4,13] [] rfl fun S hs hr=>Z13 rfl rfl Z47 (vh hs 4 rfl rfl) (vh hs 13 rfl rfl) hj13)<|SSt Z01 5 rfl<|Sn<|SR<|Ld Z04 5 rfl<|Zg Z04 9 rfl<|Nl<|rt ?_
  cases h;exact Zd Tryz.results142 rfl (Zx rfl (i:=9) rfl Z04)
 ·refine sk<|SR<|Ld Z04 5 rfl<|Zg Z04 9 rfl<|Nl<|rt ?_
  cases h;exact Zd Tryz.results142 rfl (Zx rfl (i:=9) rfl Z04)
end Go.Proofs.YtinplddjjalohaaGreatDoor.W
set_option maxHeartbeats 1000000
set_option maxRecDepth 4000
namespace Go.Proofs.YtinplddjjalohaaGreatDoor.W
open Go Go.Wb
theorem Zta:Ent Tryz.prog 143:=Ent.mk Tryz.func143 rfl rfl
theorem Zhf:Ent Tryz.prog 142:=Ent.mk Tryz.func142 rfl rfl
theorem Zpf:Ent Tryz.prog 356:=Ent.mk Tryz.func356 rfl rfl
theorem Yvb:Ent Tryz.prog 400:=Ent.mk Tryz.func400 rfl rfl
theorem Y5l:Ent Tryz.prog 315:=Ent.mk Tryz.func315 rfl rfl
theorem Yu7:Ent Tryz.prog 397:=Ent.mk Tryz.func397 rfl rfl
theorem Ydt:Ent Tryz.prog 393:=Ent.mk Tryz.func393 rfl rfl
theorem Ypi:Ent Tryz.prog 392:=Ent.mk Tryz.func392 rfl rfl
theorem Yk1:Ent Tryz.prog 379:=Ent.mk Tryz.func379 rfl rfl
def Zb5 (i1:Int):Option Wide:=
 (bif ((decide (i1<0))||(decide (i1>127))) then some (⟨0,0⟩:Wide) else (Zfm .i64 i1 64).bind fun q4=>(Z8b i1 64).bind fun q5=>(Za7 (1:BitVec 64) q5).bind fun q6=>(chk 2 q4).bind fun j7=>some (⟨(Vector.get (Vector.set (Vector.replicate 2 0) j7.1 q6 j7.2) (⟨1,by decide⟩:_root_.Fin 2)),(Vector.get (Vector.set (Vector.replicate 2 0) j7.1 q6 j7.2) (⟨0,by decide⟩:_root_.Fin 2))⟩:Wide))
theorem Zq6:Q1 Tryz.prog 356 (rd (Z0 .i64)) (rd Zn) Zb5:=fun i1 r h=>I0 Tryz.func356 rfl Tryz.ntmps356 rfl fun w H Z=>by
 unfold Zb5 at h
 refine SR<|Cv rfl (Zm 3 rfl rfl Z27) fun g2=>Nl<|SR<|Cv rfl (Zm 4 rfl rfl Yq9) fun g3=>Nl<|sq<|SR<|Md rfl<|Ac (Zj rfl rfl (vt rfl) (vk rfl)) rfl<|Md rfl<|Gd rfl (fun hq=>Zq (A:=rd (Z0 .i64) i1) rfl rfl (vt rfl))<|Gd rfl (fun hq=>Z2m rfl rfl (Zi rfl hq) (vk rfl))<|Ac (Z3j rfl rfl (vt rfl) (vt rfl)) rfl<|Nl<|Cq rfl h (fun h=>?_) (fun h=>?_)
 ·refine SR<|Ac (opb (⟨0,0⟩:Wide) Z27 rfl Z4h (pn rfl)) rfl<|Zg Zw 3 rfl<|Nl<|rt ?_
  cases h;exact Zd Tryz.results356 rfl (Zx rfl (i:=3) rfl Zw)
 ·refine sk<|sq ?_
  obtain ⟨q4,hq4,q5,hq5,q6,hq6,j7,hj7,h⟩:=bs4 h
  refine Rg<|Md rfl<|Ac (Yu4 rfl rfl (vt rfl) (vk rfl) hq4) rfl<|Md rfl<|Ac (Zsf rfl rfl (vt rfl) (vk rfl) hq5) rfl<|Ac (Zsa rfl rfl (vku (1:BitVec 64) rfl) (vt rfl) hq6) rfl<|Ac (Z13 rfl rfl Zyl (vt rfl) (vt rfl) hj7) rfl<|Zg Z1g 4 rfl<|Nl<|SR<|Ac (Z13 rfl rfl Zyl (vt rfl) (vk rfl) rfl) rfl<|Ld Z1g 4 rfl<|Ac (Z13 rfl rfl Zyl (vt rfl) (vk rfl) rfl) rfl<|Ld Z1g 4 rfl<|Ac (opb (⟨(Vector.get (Vector.set (Vector.replicate 2 0) j7.1 q6 j7.2) (⟨1,by decide⟩:_root_.Fin 2)),(Vector.get (Vector.set (Vector.replicate 2 0) j7.1 q6 j7.2) (⟨0,by decide⟩:_root_.Fin 2))⟩:Wide) Z27 rfl Z4h (pc Z7q (vt rfl)<|pc Z84 (vt rfl)<|pn rfl)) rfl<|Zg Zw 3 rfl<|Nl<|rt ?_
  cases h;exact Zd Tryz.results356 rfl (Zx rfl (i:=3) rfl Zw)
def Zhh (a1:Action):Option Za:=
 (Zc7).bind fun x4=>(bif (decide (a1.Kind=25)) then (Zhe a1.Oxm).bind fun x6=>(Z9f x4 a1.Oxm.Field x6.Value x6.Mask).bind fun x8=>some x8 else (bif (decide (a1.Kind=17)) then (Zb5 12).bind fun x9=>(Zb5 12).bind fun x10=>(Z9f x4 5 x9 x10).bind fun x11=>some x11 else (bif (decide (a1.Kind=18)) then (Zaf 13).bind fun x12=>(Z9f x4 5 (⟨0,0⟩:Wide) x12).bind fun x13=>(Zaf 3).bind fun x14=>(Z9f x13 6 (⟨0,0⟩:Wide) x14).bind fun x15=>some x15 else some x4)))
theorem Y7q:Q1 Tryz.prog 315 (rd Z9) (rd (Z3 24 Z4)) Zhh:=fun a1 r h=>I0 Tryz.func315 rfl Tryz.ntmps315 rfl fun w H Z=>by
 unfold Zhh at h
 refine SR<|Cv rfl (Zs 2 rfl rfl (vt rfl)) fun g2=>Cv rfl (Zm 3 rfl rfl Z3p) fun g3=>Nl<|sq ?_
 obtain ⟨x4,hx4,h⟩:=Z7 h
 refine Rg<|Cl [] (Ztj _ hx4) Zta rfl<|Cv rfl (Zm 4 rfl rfl Z3p) fun g5=>Zg Z04 4 rfl<|Nl<|sq<|SR<|Zk Z58 Z5u rfl<|Ld Zp 2 rfl<|Nl<|bk<|SR<|Ac (Z0j rfl rfl (vt rfl) (vk rfl)) rfl<|As rfl<|Nl<|Cq rfl h (fun h=>?_) (fun h=>?_)
 ·refine sq ?_
  obtain ⟨x6,hx6,h⟩:=Z7 h
  refine Rg<|Zk Z8t Za9 rfl<|Ld Z7f 2 rfl<|Cl [11] (Y2h _ _ hx6) Ya1 rfl<|Cv rfl (Zm 5 rfl rfl Z1n) fun g7=>Zg Z01 5 rfl<|Nl ?_
  obtain ⟨x8,hx8,h⟩:=Z7 h
  refine Rg<|Ld Z04 4 rfl<|Zk Z8t Za9 rfl<|Zk Z4f Z4r rfl<|Ld Zp 2 rfl<|Zk lTern_0 Z2x rfl<|Ld Zw 5 rfl<|Zk lTern_1 Z2c rfl<|Ld Zw 5 rfl<|Cl [13,16,18,20] (Zi5 _ _ _ _ _ hx8) Zhf rfl<|Zg Z04 4 rfl<|Nl<|SR<|Ld Z04 4 rfl<|Zg Z04 3 rfl<|Nl<|rt ?_
  cases h;exact Zd Tryz.results315 rfl (Zx rfl (i:=3) rfl Z04)
 ·refine SR<|Ac (Z0j rfl rfl (vt rfl) (vk rfl)) rfl<|As rfl<|Nl<|Cq rfl h (fun h=>?_) (fun h=>?_)
  ·obtain ⟨x9,hx9,x10,hx10,x11,hx11,h⟩:=bs3 h
   refine AR Z00 (by kernel_rfl)<|Zo Z04 4 rfl<|Sd (lo [] [] rfl fun S hs hr=>Z0c (xs:=[.const (Value.int IntKind.i64 12)]) (Zq6 _ _ hx9) Zpf rfl rfl ⟨vk rfl,trivial⟩)<|Sd (lo [] [] rfl fun S hs hr=>Z0c (xs:=[.const (Value.int IntKind.i64 12)]) (Zq6 _ _ hx10) Zpf rfl rfl ⟨vk rfl,trivial⟩)<|Sd (lo [24,25,26] [] rfl fun S hs hr=>Z0c (xs:=[.tmp 24,.const (Value.int IntKind.i64 5),.tmp 25,.tmp 26]) (Zi5 _ _ _ _ _ hx11) Zhf rfl rfl ⟨vt ((hs 24 rfl).trans rfl),vk rfl,vt ((hs 25 rfl).trans rfl),vt ((hs 26 rfl).trans rfl),trivial⟩)<|SSt Z04 4 rfl<|Sn<|SR<|Ld Z04 4 rfl<|Zg Z04 3 rfl<|Nl<|rt ?_
   cases h;exact Zd Tryz.results315 rfl (Zx rfl (i:=3) rfl Z04)
  ·refine SR<|Ac (Z0j rfl rfl (vt rfl) (vk rfl)) rfl<|As rfl<|Nl<|Cq rfl h (fun h=>?_) (fun h=>?_)
   ·refine sq ?_
    obtain ⟨x12,hx12,x13,hx13,h⟩:=bs2 h
    refine AR Z00 (by kernel_rfl)<|Zo Z04 4 rfl<|Sd (lo [] [] rfl fun S hs hr=>opb (⟨0,0⟩:Wide) Z27 rfl Z4h (pn rfl))<|Sd (lo [] [] rfl fun S hs hr=>Z0c (xs:=[.const (Value.int IntKind.i64 13)]) (Zv5 _ _ hx12) Zyr rfl rfl ⟨vk rfl,trivial⟩)<|Sd (lo [30,31,32] [] rfl fun S hs hr=>Z0c (xs:=[.tmp 30,.const (Value.int IntKind.i64 5),.tmp 31,.tmp 32]) (Zi5 _ _ _ _ _ hx13) Zhf rfl rfl ⟨vt ((hs 30 rfl).trans rfl),vk rfl,vt ((hs 31 rfl).trans rfl),vt ((hs 32 rfl).trans rfl),trivial⟩)<|SSt Z04 4 rfl<|Sn ?_
    obtain ⟨x14,hx14,x15,hx15,h⟩:=bs2 h
    refine AR Z00 (by kernel_rfl)<|Zo Z04 4 rfl<|Sd (lo [] [] rfl fun S hs hr=>opb (⟨0,0⟩:Wide) Z27 rfl Z4h (pn rfl))<|Sd (lo [] [] rfl fun S hs hr=>Z0c (xs:=[.const (Value.int IntKind.i64 3)]) (Zv5 _ _ hx14) Zyr rfl rfl ⟨vk rfl,trivial⟩)<|Sd (lo [34,35,36] [] rfl fun S hs hr=>Z0c (xs:=[.tmp 34,.const (Value.int IntKind.i64 6),.tmp 35,.tmp 36]) (Zi5 _ _ _ _ _ hx15) Zhf rfl rfl ⟨vt ((hs 34 rfl).trans rfl),vk rfl,vt ((hs 35 rfl).trans rfl),vt ((hs 36 rfl).trans rfl),trivial⟩)<|SSt Z04 4 rfl<|Sn<|SR<|Ld Z04 4 rfl<|Zg Z04 3 rfl<|Nl<|rt ?_
    cases h;exact Zd Tryz.results315 rfl (Zx rfl (i:=3) rfl Z04)
   ·refine sk<|SR<|Ld Z04 4 rfl<|Zg Z04 3 rfl<|Nl<|rt ?_
    cases h;exact Zd Tryz.results315 rfl (Zx rfl (i:=3) rfl Z04)
def Ziy (i1:Int)(x2:Za)(x3:Za):Option Tern:=
 (chk 24 i1).bind fun j5=>(chk 24 i1).bind fun j6=>(Zl3 (Vector.get x2 j5) (Vector.get x3 j6)).bind fun x7=>some x7
theorem Yr5:Q3 Tryz.prog 400 (rd (Z0 .i64)) (rp (Z3 24 Z4)) (rp (Z3 24 Z4)) (rd Z4) Ziy:=fun i1 x2 x3 r h=>I0 Tryz.func400 rfl Tryz.ntmps400 rfl fun w H Z=>by
 unfold Ziy at h
 refine SR<|Cv rfl (Zm 5 rfl rfl Z1n) fun g4=>Nl<|sq ?_
 obtain ⟨j5,hj5,j6,hj6,x7,hx7,h⟩:=bs3 h
 refine AR Z00 (by kernel_rfl)<|Zt rfl<|Sd (lo [1,5] [] rfl fun S hs hr=>Z7x rfl rfl Z47 (vh hs 1 rfl rfl) (vh hs 5 rfl rfl) hj5)<|SLp Z01 rfl<|Zt rfl<|Sd (lo [2,8] [] rfl fun S hs hr=>Z7x rfl rfl Z47 (vh hs 2 rfl rfl) (vh hs 8 rfl rfl) hj6)<|SLp Z01 rfl<|SCl [7,10] (Y1d _ _ _ hx7) Y92 rfl<|SSt Z01 5 rfl<|Sn<|rt ?_
 cases h;exact Zd Tryz.results400 rfl (Zx rfl (i:=5) rfl Z01)
def Zjb (a1:Za)(b2:Za):Option Za:=
 (Zge (fun x=>Ziy x a1 b2)).bind fun x6=>some x6
theorem Ylp:Q2 Tryz.prog 397 (rd (Z3 24 Z4)) (rd (Z3 24 Z4)) (rd (Z3 24 Z4)) Zjb:=fun a1 b2 r h=>I0 Tryz.func397 rfl Tryz.ntmps397 rfl fun w H Z=>by
 unfold Zjb at h
 refine SR<|Cv rfl (Zs 3 rfl rfl (vt rfl)) fun g3=>Cv rfl (Zs 4 rfl rfl (vt rfl)) fun g4=>Cv rfl (Zm 5 rfl rfl Z3p) fun g5=>Nl<|sq<|AW.freezeB 2 3 rfl rfl rfl<|AW.freezeB 3 4 rfl rfl rfl ?_
 obtain ⟨x6,hx6,h⟩:=Z7 h
 refine Rg<|Ac (Z9b (cs:=[.tmp 2,.tmp 3]) (CAs:=[rp (Z3 24 Z4) a1,rp (Z3 24 Z4) b2]) (fun x=>Ziy x a1 b2) rfl rfl Yvb ⟨vt rfl,vt rfl,trivial⟩ (fun x y h=>Yr5 _ _ _ y h)) rfl<|Cl [5] (Y6c _ _ hx6) Y5q rfl<|Zg Z04 5 rfl<|Nl<|rt ?_
 cases h;exact Zd Tryz.results397 rfl (Zx rfl (i:=5) rfl Z04)
def Zd8 (t1:Z62)(b7:Atom):Option Z62:=
 (Z0v t1.atoms [b7]).bind fun l8=>some (⟨t1.got,l8⟩:Z62)
def Zdh (t1:Z62)(a4:Action):Option Z62:=
 (bif (decide (a4.Kind=0)) then (bif (decide (a4.Port=4294967293)) then Zd8 t1 {{(⟨t1.got,false,0,0⟩:Atom) with Port:=a4.Port} with Max:=a4.Max} else Zd8 t1 {(⟨t1.got,false,0,0⟩:Atom) with Port:=a4.Port}) else (bif (decide (a4.Kind=22)) then Zd8 t1 {{(⟨t1.got,false,0,0⟩:Atom) with Group:=true} with Port:=a4.Group} else (Zhh a4).bind fun x10=>(Zjb t1.got x10).bind fun x11=>some (⟨x11,t1.atoms⟩:Z62)))
theorem Ygs (g2 gT:Nat)(t1:Z62)(a4:Action)(r:Z62)(h:Zdh t1 a4=some r):Con Tryz.prog 393 [Zc g2 (Lens.id Z5p),rd Z9 a4] (Z1b g2 gT Z5p (fun v=>(⟨t1.got,v⟩:atom_trace_o1)) 296 Z0q t1.atoms) (fun _:Unit=>top) (fun _=>Z1b g2 gT Z5p (fun v=>(⟨r.got,v⟩:atom_trace_o1)) 296 Z0q r.atoms):=by
 refine Con.intro Tryz.func393 rfl Tryz.ntmps393 rfl fun w H X Z=>?_
 unfold Zdh at h
 refine AW.unboxF 0 2001 (by decide) rfl rfl fun v3=>SR<|Cv rfl (Zs 4 rfl rfl (vt rfl)) fun g5=>Nl<|SR<|Mp rfl<|Nc rfl<|Zk latom_trace_o1_0 Zo3 rfl<|Ld Z04 0 rfl<|Ac (opb (⟨t1.got,false,0,0⟩:Atom) Z7b rfl Ztu (pc Zxg (vt rfl)<|pn rfl)) rfl<|Cv rfl (Zm 5 rfl rfl Z7b) fun g6=>Zg Zp9 5 rfl<|Nl ?_
 refine JN (d:=[]) (ν:=Atom) (fun b7=>(Zd8 t1 b7=some r,[(0,Zc g2 (Lens.id Z5p)),(4,Zc g6 (Lens.id Z0q))],[(0,Zh g2 gT Z5p (⟨t1.got,v3⟩:atom_trace_o1)),(5,Zh g6 296 Z0q b7),(2001,Zf v3 296 Z0q t1.atoms)])) ?hx1 ?hy1
 case hy1=>
  intro b7 h
  dsimp only at h ⊢
  unfold Zd8 at h
  obtain ⟨l8,hl8,h⟩:=Z7 h
  refine AW.endT<|AR Z00 (by kernel_rfl)<|SMp rfl<|SMp rfl<|SNc rfl<|SFd Zl5 Zsy rfl<|Sd (lo [42] [0] rfl fun S hs hr=>Zb1 v3 rfl rfl Zwy (vh hs 42 rfl rfl) (i:=0) ((hr 0 rfl).trans rfl) rfl)<|Zo Zp9 5 rfl<|Sd (lo [44] [] rfl fun S hs hr=>osl Z7n Z7b rfl (vh hs 44 rfl rfl))<|Sd (Z19 (us:=[(46,Z1p 296 Z0q l8)]) (ur:=[(2001,emp)]) [43,45] [2001] rfl fun S hs hr=>Z8k 2001 hl8 rfl rfl rfl Zak (vh hs 43 rfl rfl) ((hr 2001 rfl).trans rfl) (vh hs 45 rfl rfl))<|SNc rfl<|SFd Zl5 Zsy rfl<|Sd (Z19 (us:=[(46,top)]) (ur:=[(0,Z1b g2 gT Z5p (fun v=>((Lens.comp (Lens.id Z5p) Zl5)).set (⟨t1.got,v3⟩:atom_trace_o1) v) 296 Z0q l8)]) [48,46] [0] rfl fun S hs hr=>Zu1 rfl rfl Zwy (vh hs 48 rfl rfl) ((hr 0 rfl).trans rfl) ((hs 46 rfl).trans rfl))<|Sn<|EndT.unboxF 0 2001 (by decide) rfl rfl fun v9=>EndT.done ?_
  cases h;exact RetOK.turn (Turn.packF 0 2001 (fun v=>(⟨t1.got,v⟩:atom_trace_o1)) (by decide) rfl rfl) (Z2d (i:=0) Tryz.results393 rfl rfl)
 case hx1=>
  refine SR<|Zk Z58 Z5u rfl<|Ld Zp 4 rfl<|Nl<|bk<|SR<|Ac (Z0j rfl rfl (vt rfl) (vk rfl)) rfl<|As rfl<|Nl<|Cq rfl h (fun h=>?_) (fun h=>?_)
  ·refine SR<|Zk Zh5 Zli rfl<|Ld Zp 4 rfl<|Zk lAtom_2 Ztc rfl<|Zg Zp 5 rfl<|Nl<|SR<|Zk Zh5 Zli rfl<|Ld Zp 4 rfl<|Ac (Z0j rfl rfl (vt rfl) (vk rfl)) rfl<|Nl<|Cq rfl h (fun h=>?_) (fun h=>?_)
   ·refine Rg<|Zk Zrp Zyj rfl<|Ld Zp 4 rfl<|Zk Zvo Y6t rfl<|Zg Zp 5 rfl<|Nl ?_
    exact ⟨_,h,FX rfl⟩
   ·refine sk ?_
    exact ⟨_,h,FX rfl⟩
  ·refine SR<|Ac (Z0j rfl rfl (vt rfl) (vk rfl)) rfl<|As rfl<|Nl<|Cq rfl h (fun h=>?_) (fun h=>?_)
   ·refine AR Z00 (by kernel_rfl)<|SFd Zp5 Zu3 rfl<|Zo Zp 4 rfl<|SFd lAtom_1 Yuq rfl<|Sd (Z4a [37] [5] rfl fun S hs hr=>Z6y rfl rfl ty4 (vh hs 37 rfl rfl) (i:=5) ((hr 5 rfl).trans rfl) vb)<|SFd lAtom_2 Ztc rfl<|SSt Zp 5 rfl<|Sn ?_
    exact ⟨_,h,FX rfl⟩
   ·refine sq ?_
    obtain ⟨x10,hx10,x11,hx11,h⟩:=bs2 h
    refine AR Z00 (by kernel_rfl)<|SMp rfl<|SMp rfl<|SNc rfl<|SFd latom_trace_o1_0 Zo3 rfl<|Zo Z04 0 rfl<|Zo Z0z 4 rfl<|SCl [17] (Y7q _ _ hx10) Y5l rfl<|SCl [16,18] (Ylp _ _ _ hx11) Yu7 rfl<|SNc rfl<|SFd latom_trace_o1_0 Zo3 rfl<|SSt Z04 0 rfl<|Sn<|rt ?_
    cases h;exact RetOK.turn (Turn.packF 0 2001 (fun v=>(⟨x11,v⟩:atom_trace_o1)) (by decide) rfl rfl) (Z2d (i:=0) Tryz.results393 rfl rfl)
def Zbd (sg:Type)(d2:(sg→Action→Option sg)):(List Action)→Nat→sg→Option sg
 | [],i6,s5=>some s5
 | x8::l7,i6,s5=>(d2 s5 x8).bind fun s10=>(Zbd sg d2 l7) (i6+1) s10
def Zpn (l1:(List Action))(sg:Type)(d2:(sg→Action→Option sg))(s3:sg):Option sg:=
 Zbd sg d2 l1 0 s3
theorem Ykw (l1:(List Action))(sg:Type)(d2:(sg→Action→Option sg))(L:sg→Zu)(s3:sg)(r:sg)(h:Zpn l1 sg d2 s3=some r):Con Tryz.prog 392 [rd (Z1 Z9) l1,stA Tryz.prog Z9 d2 L] (L s3) (fun _:Unit=>top) (fun _=>L r):=by
 refine Con.intro Tryz.func392 rfl Tryz.ntmps392 rfl fun w H X Z=>?_
 unfold Zpn at h
 refine SR<|Md rfl<|Ac (Z0i rfl rfl Z0g (vt rfl)) rfl<|Mk rfl<|Nl<|bk<|LG (d:=[]) (ν:=(List Action)×Nat×sg) (fun (l7,i6,s5)=>(Sfx l1 i6 l7∧Zbd sg d2 l7 i6 s5=some r,l7.length,[(1,stA Tryz.prog Z9 d2 L),(6,rd (Z1 Z9) l1),(7,rd (Z0 .i64) (l1.length:Int)),(8,rd (Z0 .i64) (i6:Int))],[(0,L s5)])) (l1,0,s3) ⟨Sfx.start _,h⟩ (FX rfl) ?_
 rintro ⟨l7,i6,s5⟩ ⟨hsf1,h⟩
 dsimp only at hsf1 h ⊢
 cases l7 with
 | nil=>
  unfold Zbd at h
  refine SR<|Ac (Zj rfl rfl (vt rfl) (vt rfl)) rfl<|Nl<|sq<|Cn rfl (fun hc=>absurd (of_decide_eq_true hc) hsf1.nil) (fun hc=>?_)
  refine xt ?_
  cases h;exact Z2d (i:=0) Tryz.results392 rfl rfl
 | cons x8 l7=>
  unfold Zbd at h
  refine SR<|Ac (Zj rfl rfl (vt rfl) (vt rfl)) rfl<|Nl<|sq<|Cn rfl (fun hc=>?_) (fun hc=>absurd hsf1.cons (of_decide_eq_false hc))
  have hlti6:=of_decide_eq_true hc
  refine sk<|sq<|bk<|SR<|Ac (Z0k rfl rfl Z0g (vt rfl) (vt rfl) hsf1.lget) rfl<|Lp1 Z0z rfl<|Cv rfl (Zm 6 rfl rfl Z66) fun g9=>Zg Z0z 6 rfl<|Nl ?_
  obtain ⟨s10,hs10,h⟩:=Z7 h
  refine Rg<|Ac (Zq (A:=stA Tryz.prog Z9 d2 L) rfl rfl (vt rfl)) rfl<|Ld Z0z 6 rfl<|Ac (Ysv 0 hs10 rfl rfl (vt rfl) (vt rfl) rfl) rfl<|Nl<|Rg<|Ac (Z12 (t:=7) rfl rfl (vt rfl) (vk rfl) (vt rfl) hlti6) rfl<|Md rfl<|Nl ?_
  exact ⟨(_,_,_),Nat.lt_succ_self _,⟨hsf1.next,h⟩,FX rfl⟩
def Zj7 (a1:(List Action))(x2:Za):Option ((List Atom)×Za):=
 (Zgv x2).bind fun x5=>(Zpn a1 Z62 (fun s x=>Zdh s x) (⟨x5,[]⟩:Z62)).bind fun b7=>some (b7.atoms,b7.got)
theorem Yoc:Q2 Tryz.prog 379 (rd (Z1 Z9)) (rd (Z3 24 Z4)) (fun r=>Z10 (rd (Z1 Z0q) r.1) (rd (Z3 24 Z4) r.2)) Zj7:=fun a1 x2 r h=>I0 Tryz.func379 rfl Tryz.ntmps379 rfl fun w H Z=>by
 unfold Zj7 at h
 refine SR<|Cv rfl (Zs 4 rfl rfl (vt rfl)) fun g3=>Ac (Zv (A:=rd (Z1 Z0q) []) rfl rfl Z1f) rfl<|Cv rfl (Zm 6 rfl rfl Z3p) fun g4=>Nl<|sq<|AW.newnil 2221 296 Z0q ?_
 obtain ⟨x5,hx5,h⟩:=Z7 h
 refine Rg<|Ld Z04 4 rfl<|Cl [7] (Y28 _ _ hx5) Yaq rfl<|Ac (opb (⟨x5,(.slice none 0 0)⟩:atom_trace_o1) Yl6 rfl Yf6 (pc Yum (vt rfl)<|pn rfl)) rfl<|Cv rfl (Zs 11 rfl rfl (vt rfl)) fun g6=>Ac (Zv (A:=Zc g6 (Lens.id Z5p)) rfl rfl (vt rfl)) rfl<|Nl<|sq ?_
 obtain ⟨b7,hb7,h⟩:=Z7 h
 refine Rg<|Md rfl<|Mp rfl<|Ac (Yix (fs:=[.tmp 12]) (cs:=[]) (FAs:=[Zc g6 (Lens.id Z5p)]) (CAs:=[]) (k:=Z9) (fun s x=>Zdh s x) (fun (s:Z62)=>Z1b g6 416 Z5p (fun v=>(⟨s.got,v⟩:atom_trace_o1)) 296 Z0q s.atoms) rfl rfl Ydt ⟨vt rfl,trivial⟩ trivial (fun s x s2 h=>Ygs _ _ s x s2 h)) rfl<|AOps.packF 11 2221 (fun v=>(⟨x5,v⟩:atom_trace_o1)) (by decide) rfl rfl<|Cv rfl (Z1a 11 (xs:=[.tmp 11,.tmp 13]) (Ykw _ Z62 _ (fun (s:Z62)=>Z1b g6 416 Z5p (fun v=>(⟨s.got,v⟩:atom_trace_o1)) 296 Z0q s.atoms) _ _ hb7) Ypi rfl rfl ⟨vt rfl,vt rfl,trivial⟩ rfl) fun _u=>AOps.unboxF 11 2221 (by decide) rfl rfl fun v8=>Nl<|sq<|AR Z00 (by kernel_rfl)<|SMp rfl<|SNc rfl<|SFd Zl5 Zsy rfl<|Sd (lo [17] [11] rfl fun S hs hr=>Zb1 v8 rfl rfl Zwy (vh hs 17 rfl rfl) (i:=11) ((hr 11 rfl).trans rfl) rfl)<|SMp rfl<|SNc rfl<|SFd latom_trace_o1_0 Zo3 rfl<|Zo Z04 11 rfl<|Sd (lo [18] [] rfl fun S hs hr=>Zv (A:=Zb v8) rfl rfl (vh hs 18 rfl rfl))<|SSt Z04 6 rfl<|Sn<|AW.freezes [4,18] 2221 rfl ⟨rfl,rfl,trivial⟩ rfl<|rt ?_
 cases h;exact Z1d Tryz.results379 rfl (Z5 rfl) (Zx rfl (i:=6) rfl Z04)
def Zdv (w1:walk_way)(l2:(List Action)):Option walk_way:=
 (Zj7 l2 w1.got).bind fun x5=>(Z45 w1.atoms (w1.atoms.length:Int)).bind fun s7=>(Z0v s7 x5.1).bind fun l8=>some {{w1 with atoms:=l8} with got:=x5.2}
theorem Zzo:Q2 Tryz.prog 352 (rd Z1v) (rd (Z1 Z9)) (rd Z1v) Zdv:=fun w1 l2 r h=>I0 Tryz.func352 rfl Tryz.ntmps352 rfl fun w H Z=>by
 unfold Zdv at h
 refine SR<|Cv rfl (Zs 3 rfl rfl (vt rfl)) fun g3=>Cv rfl (Zm 5 rfl rfl Zgb) fun g4=>Nl<|sq ?_
 obtain ⟨x5,hx5,h⟩:=Z7 h
 refine Rg<|Md rfl<|Zk lwalk_way_1 Zjp rfl<|Ld Z04 3 rfl<|Cl [8,10] (Yoc _ _ _ hx5) Yk1 rfl<|Mt2 rfl<|Ac (Z1c rfl rfl (vt rfl)) rfl<|Ac (Z18 rfl rfl (vt rfl)) rfl<|Cv rfl (Zm 7 rfl rfl Z3p) fun g6=>As rfl<|Zg Z04 7 rfl<|Nl<|sq ?_
 obtain ⟨s7,hs7,l8,hl8,h⟩:=bs2 h
 refine AR Z00 (by kernel_rfl)<|SFd Zih Zl7 rfl<|Zo Zeu 3 rfl<|SFd Zih Zl7 rfl<|Zo Zeu 3 rfl<|Sd (lo [17] [] rfl fun S hs hr=>Z0i rfl rfl Z7n (vh hs 17 rfl rfl))<|SFd Zih Zl7 rfl<|Zo Zeu 3 rfl<|Sd (lo [20] [] rfl fun S hs hr=>Z0i rfl rfl Z7n (vh hs 20 rfl rfl))<|Sd (lo [15,18,21] [] rfl fun S hs hr=>Zvu hs7 rfl rfl Z7n (vh hs 15 rfl rfl) (vh hs 18 rfl rfl) (vh hs 21 rfl rfl))<|Zt rfl<|Sd (lo [22,23] [] rfl fun S hs hr=>Ymm hl8 rfl rfl Zak (vh hs 22 rfl rfl) (vh hs 23 rfl rfl))<|Zo Z04 7 rfl<|SFd Zih Zl7 rfl<|SSt Zeu 3 rfl<|SFd lwalk_way_1 Zjp rfl<|SSt Z04 3 rfl<|Sn<|SR<|Ld Z3i 3 rfl<|Zg Z3i 5 rfl<|Nl<|rt ?_
 cases h;exact Zd Tryz.results352 rfl (Zx rfl (i:=5) rfl Z3i)
def Zbk (a1:Action):Option aset_spot:=
 (bif (decide (a1.Kind=25)) then some (⟨a1.Kind,a1.Oxm.Field⟩:aset_spot) else some (⟨a1.Kind,0⟩:aset_spot))
theorem Zqf:Q1 Tryz.prog 153 (rd Z9) (rd Z76) Zbk:=fun a1 r h=>I0 Tryz.func153 rfl Tryz.ntmps153 rfl fun w H Z=>by
 unfold Zbk at h
 refine SR<|Cv rfl (Zs 2 rfl rfl (vt rfl)) fun g2=>Cv rfl (Zm 3 rfl rfl Zl8) fun g3=>Nl<|sq<|SR<|Zk Z58 Z5u rfl<|Ld Zp 2 rfl<|Ac (Z0j rfl rfl (vt rfl) (vk rfl)) rfl<|Nl<|Cq rfl h (fun h=>?_) (fun h=>?_)
 ·refine SR<|Zk Z58 Z5u rfl<|Ld Zp 2 rfl<|Zk Z8t Za9 rfl<|Zk Z4f Z4r rfl<|Ld Zp 2 rfl<|Ac (opb (⟨a1.Kind,a1.Oxm.Field⟩:aset_spot) Zl8 rfl Y90 (pc Y80 (vt rfl)<|pc Yqv (vt rfl)<|pn rfl)) rfl<|Zg Zfl 3 rfl<|Nl<|rt ?_
  cases h;exact Zd Tryz.results153 rfl (Zx rfl (i:=3) rfl Zfl)
 ·refine sk<|SR<|Zk Z58 Z5u rfl<|Ld Zp 2 rfl<|Ac (opb (⟨a1.Kind,0⟩:aset_spot) Zl8 rfl Y90 (pc Y80 (vt rfl)<|pn rfl)) rfl<|Zg Zfl 3 rfl<|Nl<|rt ?_
  cases h;exact Zd Tryz.results153 rfl (Zx rfl (i:=3) rfl Zfl)
end Go.Proofs.YtinplddjjalohaaGreatDoor.W
set_option maxHeartbeats 1000000
set_option maxRecDepth 4000
namespace Go.Proofs.YtinplddjjalohaaGreatDoor.W
open Go Go.Wb
theorem Zr2:Ent Tryz.prog 153:=Ent.mk Tryz.func153 rfl rfl
theorem Ysn:Ent Tryz.prog 232:=Ent.mk Tryz.func232 rfl rfl
theorem Zx5:Ent Tryz.prog 231:=Ent.mk Tryz.func231 rfl rfl
theorem Y0a:Ent Tryz.prog 240:=Ent.mk Tryz.func240 rfl rfl
theorem Zvb:Ent Tryz.prog 150:=Ent.mk Tryz.func150 rfl rfl
def Ze8 (b1:Action)(x2:Action):Option Bool:=
 (Zbk x2).bind fun x4=>(Zbk b1).bind fun x5=>some (decide (x4=x5))
theorem Yi4:Q2 Tryz.prog 232 (rd Z9) (rp Z9) (rd Z6) Ze8:=fun b1 x2 r h=>I0 Tryz.func232 rfl Tryz.ntmps232 rfl fun w H Z=>by
 unfold Ze8 at h
 refine SR<|Cv rfl (Zs 3 rfl rfl (vt rfl)) fun g3=>Ab rfl<|Nl<|sq ?_
 obtain ⟨x4,hx4,x5,hx5,h⟩:=bs2 h
 refine AR Z00 (by kernel_rfl)<|SLp Z0z rfl<|SCl [4] (Zqf _ _ hx4) Zr2 rfl<|Zo Z0z 3 rfl<|SCl [6] (Zqf _ _ hx5) Zr2 rfl<|Sd (lo [5,7] [] rfl fun S hs hr=>Zqb rfl rfl Yo6 (by decide) rfl Ypf (vh hs 5 rfl rfl) (vh hs 7 rfl rfl))<|SAs rfl<|Sn<|rt ?_
 cases h;exact Zd Tryz.results232 rfl (Z5 rfl)
def Zcw (s1:(List Action))(x2:(Action→Option Bool)):Nat→Nat→Option Int
 | 0,i3=>some (-1)
 | m4+1,i3=>(lget s1 (i3:Int)).bind fun x5=>(x2 x5).bind fun x6=>(bif x6 then some (i3:Int) else (Zcw s1 x2 m4) (i3+1))
def Zec (s1:(List Action))(x2:(Action→Option Bool)):Option Int:=
 Zcw s1 x2 ((s1.length:Int):Int).toNat 0
theorem Zxk:Q2 Tryz.prog 231 (rd (Z1 Z9)) (fn1 Tryz.prog Z9 Z6) (rd (Z0 .i64)) Zec:=fun s1 x2 r h=>I0 Tryz.func231 rfl Tryz.ntmps231 rfl fun w H Z=>by
 unfold Zec at h
 refine SR<|Ak rfl<|Nl<|sq<|SR<|Md rfl<|Ac (Z0i rfl rfl Z0g (vt rfl)) rfl<|Mk rfl<|Nl<|bk<|LG (d:=[]) (ν:=Nat×Nat) (fun (m4,i3)=>(Cnt (s1.length:Int) i3 m4∧Zcw s1 x2 m4 i3=some r,m4,[(0,rd (Z1 Z9) s1),(1,fn1 Tryz.prog Z9 Z6 x2),(7,rd (Z0 .i64) (s1.length:Int)),(8,rd (Z0 .i64) (i3:Int))],[])) (((s1.length:Int):Int).toNat,0) ⟨Cnt.start _,h⟩ (FX rfl) ?_
 rintro ⟨m4,i3⟩ ⟨hsf1,h⟩
 dsimp only at hsf1 h ⊢
 cases m4 with
 | zero=>
  unfold Zcw at h
  refine SR<|Ac (Zj rfl rfl (vt rfl) (vt rfl)) rfl<|Nl<|sq<|Cn rfl (fun hc=>absurd (of_decide_eq_true hc) hsf1.zero) (fun hc=>?_)
  refine xt<|SR<|Ak rfl<|Nl<|rt ?_
  cases h;exact Zd Tryz.results231 rfl (Z5 rfl)
 | succ m4=>
  unfold Zcw at h
  refine SR<|Ac (Zj rfl rfl (vt rfl) (vt rfl)) rfl<|Nl<|sq<|Cn rfl (fun hc=>?_) (fun hc=>absurd hsf1.succ (of_decide_eq_false hc))
  have hlti3:=of_decide_eq_true hc
  refine sk<|sq<|bk<|SR<|Md rfl<|As rfl<|Nl<|sq ?_
  obtain ⟨x5,hx5,x6,hx6,h⟩:=bs2 h
  refine Rg<|Ac (Zq (A:=fn1 Tryz.prog Z9 Z6 x2) rfl rfl (vt rfl)) rfl<|Md rfl<|Md rfl<|Ac (Z0k rfl rfl Z0g (vt rfl) (vt rfl) hx5) rfl<|Lp1 Z0z rfl<|Ac (Zat hx6 rfl rfl (vt rfl) (vt rfl)) rfl<|Nl<|Cq rfl h (fun h=>?_) (fun h=>?_)
  ·refine SR<|Md rfl<|As rfl<|Nl<|rt ?_
   cases h;exact Zd Tryz.results231 rfl (Z5 rfl)
  ·refine sk<|Rg<|Ac (Z12 (t:=7) rfl rfl (vt rfl) (vk rfl) (vt rfl) hlti3) rfl<|Md rfl<|Nl ?_
   exact ⟨(_,_),Nat.lt_succ_self _,⟨hsf1.next,h⟩,FX rfl⟩
def Zax:(List Action)→Nat→(List Action)→Option (List Action)
 | [],i9,l7=>some l7
 | x11::l10,i9,l7=>(Zec l7 (fun x=>Ze8 x x11)).bind fun x13=>(bif (decide (x13<0)) then (Z0v l7 [x11]).bind fun l14=>(Zax l10) (i9+1) l14 else (lget l7 x13).bind fun x16=>(Zax l10) (i9+1) (List.set l7 x13.toNat x11))
def Zd3 (s1:(List Action))(l2:(List Action)):Option (List Action):=
 (Z6r s1).bind fun x3=>Zax l2 0 x3
theorem Zwc:Q2 Tryz.prog 140 (rd (Z1 Z9)) (rd (Z1 Z9)) (rd (Z1 Z9)) Zd3:=fun s1 l2 r h=>I0 Tryz.func140 rfl Tryz.ntmps140 rfl fun w H Z=>by
 unfold Zd3 at h
 refine SR<|Ac (Zv (A:=rd (Z1 Z9) []) rfl rfl Z1f) rfl<|Nl<|sq ?_
 obtain ⟨x3,hx3,h⟩:=Z7 h
 refine Rg<|Md rfl<|Cv rfl (Z1a 1001 (xs:=[.tmp 9]) (Zsl _ _ hx3) Zka rfl rfl ⟨vt rfl,trivial⟩ rfl) fun v4=>Aw rfl<|Nl<|sq<|SR<|Md rfl<|Ac (Z0i rfl rfl Z0g (vt rfl)) rfl<|Mk rfl<|Nl<|bk<|LG (d:=[]) (ν:=(List Action)×Nat×(List Action)×Value) (fun (l10,i9,l7,v8)=>(Sfx l2 i9 l10∧Zax l10 i9 l7=some r,l10.length,[(5,Zb v8),(11,rd (Z1 Z9) l2),(12,rd (Z0 .i64) (l2.length:Int)),(13,rd (Z0 .i64) (i9:Int))],[(1001,Zf v8 219 Z9 l7)])) (l2,0,x3,v4) ⟨Sfx.start _,h⟩ (FX rfl) ?_
 rintro ⟨l10,i9,l7,v8⟩ ⟨hsf1,h⟩
 dsimp only at hsf1 h ⊢
 cases l10 with
 | nil=>
  unfold Zax at h
  refine SR<|Ac (Zj rfl rfl (vt rfl) (vt rfl)) rfl<|Nl<|sq<|Cn rfl (fun hc=>absurd (of_decide_eq_true hc) hsf1.nil) (fun hc=>?_)
  refine xt<|SR<|Mw rfl<|Aw rfl<|Nl<|AW.freezes [4,5,31] 1001 rfl ⟨rfl,rfl,rfl,trivial⟩ rfl<|rt ?_
  cases h;exact Zd Tryz.results140 rfl (Z5 rfl)
 | cons x11 l10=>
  unfold Zax at h
  refine SR<|Ac (Zj rfl rfl (vt rfl) (vt rfl)) rfl<|Nl<|sq<|Cn rfl (fun hc=>?_) (fun hc=>absurd hsf1.cons (of_decide_eq_false hc))
  have hlti9:=of_decide_eq_true hc
  refine sk<|sq<|bk<|SR<|Ac (Z0k rfl rfl Z0g (vt rfl) (vt rfl) hsf1.lget) rfl<|Lp1 Z0z rfl<|Cv rfl (Zm 8 rfl rfl Z66) fun g12=>Zg Z0z 8 rfl<|Nl<|sq<|AW.freezeB 7 8 rfl rfl rfl ?_
  obtain ⟨x13,hx13,h⟩:=Z7 h
  refine Rg<|Mw rfl<|Ac (Z9b (cs:=[.tmp 7]) (CAs:=[rp Z9 x11]) (fun x=>Ze8 x x11) rfl rfl Ysn ⟨vt rfl,trivial⟩ (fun x y h=>Yi4 _ _ y h)) rfl<|Ac (Zsw (xs:=[.tmp 17,.tmp 18]) 1001 (Zxk _ _ _ hx13) Zx5 rfl rfl ⟨vL rfl rfl,vB (vt rfl),trivial⟩) rfl<|As rfl<|Nl<|SR<|Md rfl<|Ac (Zj rfl rfl (vt rfl) (vk rfl)) rfl<|Nl<|Cq rfl h (fun h=>?_) (fun h=>?_)
  ·obtain ⟨l14,hl14,h⟩:=Z7 h
   refine Rg<|Mw rfl<|Lp1 Z0z rfl<|Ac (osl Z0g Z66 rfl (vt rfl)) rfl<|Cv rfl (Z29 1001 hl14 rfl rfl Z8l (vt rfl) rfl (vt rfl)) fun v15=>Aw rfl<|Nl<|Rg<|Ac (Z12 (t:=12) rfl rfl (vt rfl) (vk rfl) (vt rfl) hlti9) rfl<|Md rfl<|Nl ?_
   exact ⟨(_,_,_,_),Nat.lt_succ_self _,⟨hsf1.next,h⟩,FX rfl⟩
  ·obtain ⟨x16,hx16,h⟩:=Z7 h
   refine Rg<|Mw rfl<|Md rfl<|Lp1 Z0z rfl<|Ac (Z22 1001 rfl rfl Z0g (vt rfl) rfl (vt rfl) hx16) rfl<|Ac (Z2w 1001 rfl rfl Z0z (vt rfl) rfl (Z0m hx16).2 (vt rfl)) rfl<|Nl<|Rg<|Ac (Z12 (t:=12) rfl rfl (vt rfl) (vk rfl) (vt rfl) hlti9) rfl<|Md rfl<|Nl ?_
   exact ⟨(_,_,_,_),Nat.lt_succ_self _,⟨hsf1.next,h⟩,FX rfl⟩
def Zn6 (s1:(List Action))(x2:(Action→Option Bool)):Option Bool:=
 (Zec s1 x2).bind fun x3=>some (decide (x3≥0))
theorem Yp2:Q2 Tryz.prog 145 (rd (Z1 Z9)) (fn1 Tryz.prog Z9 Z6) (rd Z6) Zn6:=fun s1 x2 r h=>I0 Tryz.func145 rfl Tryz.ntmps145 rfl fun w H Z=>by
 unfold Zn6 at h
 refine SR<|Ab rfl<|Nl<|sq ?_
 obtain ⟨x3,hx3,h⟩:=Z7 h
 refine Rg<|Md rfl<|Ac (Zq (A:=fn1 Tryz.prog Z9 Z6 x2) rfl rfl (vt rfl)) rfl<|Cl [5,6] (Zxk _ _ _ hx3) Zx5 rfl<|Ac (Z3v rfl rfl (vt rfl) (vk rfl)) rfl<|As rfl<|Nl<|rt ?_
 cases h;exact Zd Tryz.results145 rfl (Z5 rfl)
def Znn (a1:Action):Option Bool:=
 some (decide (a1.Kind=22))
theorem Ym9:Q1 Tryz.prog 146 (rd Z9) (rd Z6) Znn:=fun a1 r h=>I0 Tryz.func146 rfl Tryz.ntmps146 rfl fun w H Z=>by
 unfold Znn at h
 refine SR<|Cv rfl (Zs 2 rfl rfl (vt rfl)) fun g2=>Ab rfl<|Nl<|SR<|Zk Z58 Z5u rfl<|Ld Zp 2 rfl<|Ac (Z0j rfl rfl (vt rfl) (vk rfl)) rfl<|As rfl<|Nl<|rt ?_
 cases h;exact Zd Tryz.results146 rfl (Z5 rfl)
def Zes (s1:(List Int))(x2:Int):Nat→Nat→Option Int
 | 0,i3=>some (-1)
 | m4+1,i3=>(lget s1 (i3:Int)).bind fun x5=>(bif (decide (x2=x5)) then some (i3:Int) else (Zes s1 x2 m4) (i3+1))
def Zf8 (s1:(List Int))(x2:Int):Option Int:=
 Zes s1 x2 ((s1.length:Int):Int).toNat 0
theorem Y8n:Q2 Tryz.prog 240 (rd (Z1 (Z0 .i64))) (rd (Z0 .i64)) (rd (Z0 .i64)) Zf8:=fun s1 x2 r h=>I0 Tryz.func240 rfl Tryz.ntmps240 rfl fun w H Z=>by
 unfold Zf8 at h
 refine SR<|Ak rfl<|Nl<|sq<|SR<|Md rfl<|Ac (Z0i rfl rfl Z11 (vt rfl)) rfl<|Mk rfl<|Nl<|bk<|LG (d:=[]) (ν:=Nat×Nat) (fun (m4,i3)=>(Cnt (s1.length:Int) i3 m4∧Zes s1 x2 m4 i3=some r,m4,[(0,rd (Z1 (Z0 .i64)) s1),(1,rd (Z0 .i64) x2),(7,rd (Z0 .i64) (s1.length:Int)),(8,rd (Z0 .i64) (i3:Int))],[])) (((s1.length:Int):Int).toNat,0) ⟨Cnt.start _,h⟩ (FX rfl) ?_
 rintro ⟨m4,i3⟩ ⟨hsf1,h⟩
 dsimp only at hsf1 h ⊢
 cases m4 with
 | zero=>
  unfold Zes at h
  refine SR<|Ac (Zj rfl rfl (vt rfl) (vt rfl)) rfl<|Nl<|sq<|Cn rfl (fun hc=>absurd (of_decide_eq_true hc) hsf1.zero) (fun hc=>?_)
  refine xt<|SR<|Ak rfl<|Nl<|rt ?_
  cases h;exact Zd Tryz.results240 rfl (Z5 rfl)
 | succ m4=>
  unfold Zes at h
  refine SR<|Ac (Zj rfl rfl (vt rfl) (vt rfl)) rfl<|Nl<|sq<|Cn rfl (fun hc=>?_) (fun hc=>absurd hsf1.succ (of_decide_eq_false hc))
  have hlti3:=of_decide_eq_true hc
  refine sk<|sq<|bk<|SR<|Md rfl<|As rfl<|Nl<|sq ?_
  obtain ⟨x5,hx5,h⟩:=Z7 h
  refine Rg<|Md rfl<|Md rfl<|Md rfl<|Ac (Z0k rfl rfl Z11 (vt rfl) (vt rfl) hx5) rfl<|Lp1 Zp rfl<|Ac (Z0j rfl rfl (vt rfl) (vt rfl)) rfl<|Nl<|Cq rfl h (fun h=>?_) (fun h=>?_)
  ·refine SR<|Md rfl<|As rfl<|Nl<|rt ?_
   cases h;exact Zd Tryz.results240 rfl (Z5 rfl)
  ·refine sk<|Rg<|Ac (Z12 (t:=7) rfl rfl (vt rfl) (vk rfl) (vt rfl) hlti3) rfl<|Md rfl<|Nl ?_
   exact ⟨(_,_),Nat.lt_succ_self _,⟨hsf1.next,h⟩,FX rfl⟩
def Ze5 (k1:Int):Option Int:=
 (Zf8 [18,17,25,22,0] k1).bind fun x2=>some x2
theorem Zw2:Q1 Tryz.prog 150 (rd (Z0 .i64)) (rd (Z0 .i64)) Ze5:=fun k1 r h=>I0 Tryz.func150 rfl Tryz.ntmps150 rfl fun w H Z=>by
 unfold Ze5 at h
 refine SR<|Ak rfl<|Nl<|sq ?_
 obtain ⟨x2,hx2,h⟩:=Z7 h
 refine Rg<|Ac (Zjc (ps:=[(0,.const (Value.int IntKind.i64 18)),(1,.const (Value.int IntKind.i64 17)),(2,.const (Value.int IntKind.i64 25)),(3,.const (Value.int IntKind.i64 22)),(4,.const (Value.int IntKind.i64 0))]) (l:=[18,17,25,22,0]) rfl rfl Z11 zr3 rfl rfl ⟨_,_,Lens.idx 5 (Z0 .i64) 0 (by decide),_,rfl,(vk rfl),_,_,Lens.idx 5 (Z0 .i64) 1 (by decide),_,rfl,(vk rfl),_,_,Lens.idx 5 (Z0 .i64) 2 (by decide),_,rfl,(vk rfl),_,_,Lens.idx 5 (Z0 .i64) 3 (by decide),_,rfl,(vk rfl),_,_,Lens.idx 5 (Z0 .i64) 4 (by decide),_,rfl,(vk rfl),rfl⟩ rfl) rfl<|Md rfl<|Cl [3,4] (Y8n _ _ _ hx2) Y0a rfl<|As rfl<|Nl<|rt ?_
 cases h;exact Zd Tryz.results150 rfl (Z5 rfl)
def Zcj (a1:Action)(x2:Bool):Option Bool:=
 (Ze5 a1.Kind).bind fun x4=>some ((decide (x4<0))||(x2&&(decide (a1.Kind=0))))
theorem Yj3:Q2 Tryz.prog 149 (rd Z9) (rp Z6) (rd Z6) Zcj:=fun a1 x2 r h=>I0 Tryz.func149 rfl Tryz.ntmps149 rfl fun w H Z=>by
 unfold Zcj at h
 refine SR<|Cv rfl (Zs 3 rfl rfl (vt rfl)) fun g3=>Ab rfl<|Nl<|sq ?_
 obtain ⟨x4,hx4,h⟩:=Z7 h
 refine Rg<|Zk Z58 Z5u rfl<|Ld Zp 3 rfl<|Cl [5] (Zw2 _ _ hx4) Zvb rfl<|Ac (Zj rfl rfl (vt rfl) (vk rfl)) rfl<|Md rfl<|Gd rfl (fun hq=>Z9u rfl rfl ty4 (vt rfl))<|AOps.consG (OpG.guardX rfl rfl rfl rfl rfl fun hq=>Zq (A:=rd Z6 x2) rfl rfl (Zi rfl hq))<|AOps.consG (OpG.guardN rfl rfl rfl rfl rfl fun hq=>Z2n Z58 rfl rfl Z5u (vt rfl))<|AOps.consG (OpG.guardN rfl rfl rfl rfl rfl fun hq=>Z1s rfl rfl Zp (Zi rfl hq) (i:=3) rfl)<|AOps.consG (OpG.guardN rfl rfl rfl rfl rfl fun hq=>Z0j rfl rfl (Zi rfl hq) (vk rfl))<|Gd rfl (fun hq=>Z1k rfl rfl (vgx rfl hq) (vgw rfl hq))<|Ac (Z3j rfl rfl (vt rfl) (vt rfl)) rfl<|As rfl<|Nl<|rt ?_
 cases h;exact Zd Tryz.results149 rfl (Z5 rfl)
def Ze2 (d3:(Action→Option Bool)):Nat→(List Action)→Int→Int→Option (List Action)
 | 0,_,_,_=>none
 | m11+1,l8,i9,j10=>(bif (decide (j10<(l8.length:Int))) then (lget l8 j10).bind fun x12=>(d3 x12).bind fun x14=>(bif (!x14) then (lget l8 i9).bind fun x15=>(Ze2 d3 m11) (List.set l8 i9.toNat x12) (IntKind.i64.wrap (i9+1)) (IntKind.i64.wrap (j10+1)) else (Ze2 d3 m11) l8 i9 (IntKind.i64.wrap (j10+1))) else (Z5z l8 i9).bind fun s16=>(Z45 (List.take i9.toNat l8++List.replicate (l8.length - i9.toNat) Zrw) i9).bind fun s17=>some s17)
def Zml (s1:(List Action))(d3:(Action→Option Bool)):Option (List Action):=
 (Zec s1 d3).bind fun x4=>(bif (decide (x4=(-1))) then some s1 else Ze2 d3 ((((s1.length:Int):Int) - (IntKind.i64.wrap (x4+1))).toNat+1) s1 x4 (IntKind.i64.wrap (x4+1)))
theorem Yta (v2:Value)(s1:(List Action))(d3:(Action→Option Bool))(r:(List Action))(h:Zml s1 d3=some r):Con Tryz.prog 147 [Zb v2,fn1 Tryz.prog Z9 Z6 d3] (Zf v2 219 Z9 s1) (fun v=>Zb v) (fun v=>Zf v 219 Z9 r):=by
 refine Con.intro Tryz.func147 rfl Tryz.ntmps147 rfl fun w H X Z=>?_
 unfold Zml at h
 refine sq<|AW.newnil 1001 219 Z9<|Rg<|Ac (Zv rfl rfl vc) rfl<|Nl<|sq ?_
 obtain ⟨x4,hx4,h⟩:=Z7 h
 refine Rg<|Mw rfl<|Ac (Zq (A:=fn1 Tryz.prog Z9 Z6 d3) rfl rfl (vt rfl)) rfl<|Ac (Zsw (xs:=[.tmp 8,.tmp 9]) 0 (Zxk _ _ _ hx4) Zx5 rfl rfl ⟨vL rfl rfl,vB (vt rfl),trivial⟩) rfl<|As rfl<|Nl<|sq<|SR<|Md rfl<|Ac (Z0j rfl rfl (vt rfl) (vk rfl)) rfl<|Nl<|Cq rfl h (fun h=>?_) (fun h=>?_)
 ·refine SR<|Mw rfl<|Aw rfl<|Nl<|rt ?_
  cases h;exact Z3m (i:=0) Tryz.results147 rfl rfl rfl
 ·refine sk<|sq<|SR<|Md rfl<|Ac (Z06 rfl rfl (vt rfl) (vk rfl)) rfl<|As rfl<|Nl<|bk<|LG (d:=[]) (ν:=Nat×(List Action)×Int×Int) (fun (m11,l8,i9,j10)=>(True∧Ze2 d3 m11 l8 i9 j10=some r,m11,[(0,Zb v2),(1,fn1 Tryz.prog Z9 Z6 d3),(5,rd (Z0 .i64) i9),(6,rd (Z0 .i64) j10)],[(0,Zf v2 219 Z9 l8)])) (((((s1.length:Int):Int) - (IntKind.i64.wrap (x4+1))).toNat+1),s1,x4,(IntKind.i64.wrap (x4+1))) ⟨trivial,h⟩ (FX rfl) ?_
  rintro ⟨m11,l8,i9,j10⟩ ⟨hsf1,h⟩
  dsimp only at h ⊢
  cases m11 with
  | zero=>cases h
  | succ m11=>
   unfold Ze2 at h
   refine sq<|SR<|Md rfl<|Mw rfl<|Ac (Z4k 0 rfl rfl Z0g (vt rfl) rfl) rfl<|Ac (Zj rfl rfl (vt rfl) (vt rfl)) rfl<|Nl<|Cq rfl h (fun h=>?_) (fun h=>?_)
   ·refine sk<|sq<|bk<|sq ?_
    obtain ⟨x12,hx12,h⟩:=Z7 h
    refine Rg<|Mw rfl<|Md rfl<|Ac (Z22 0 rfl rfl Z0g (vt rfl) rfl (vt rfl) hx12) rfl<|Ac (Z1q 0 rfl rfl Z0z (vt rfl) rfl (Z0m hx12).2) rfl<|Cv rfl (Zm 8 rfl rfl Z66) fun g13=>Zg Z0z 8 rfl<|Nl<|sq ?_
    obtain ⟨x14,hx14,h⟩:=Z7 h
    refine Rg<|Ac (Zq (A:=fn1 Tryz.prog Z9 Z6 d3) rfl rfl (vt rfl)) rfl<|Ld Z0z 8 rfl<|Ac (Zat hx14 rfl rfl (vt rfl) (vt rfl)) rfl<|Ac (Z0y rfl rfl (vt rfl)) rfl<|Nl<|Cq rfl h (fun h=>?_) (fun h=>?_)
    ·refine sq ?_
     obtain ⟨x15,hx15,h⟩:=Z7 h
     refine Rg<|Mw rfl<|Md rfl<|Ld Z0z 8 rfl<|Ac (Z22 0 rfl rfl Z0g (vt rfl) rfl (vt rfl) hx15) rfl<|Ac (Z2w 0 rfl rfl Z0z (vt rfl) rfl (Z0m hx15).2 (vt rfl)) rfl<|Nl<|Rg<|Md rfl<|Ac (Z06 rfl rfl (vt rfl) (vk rfl)) rfl<|As rfl<|Nl<|Rg<|Md rfl<|Ac (Z06 rfl rfl (vt rfl) (vk rfl)) rfl<|As rfl<|Nl ?_
     exact ⟨(_,_,_,_),Nat.lt_succ_self _,⟨trivial,h⟩,FX rfl⟩
    ·refine sk<|Rg<|Md rfl<|Ac (Z06 rfl rfl (vt rfl) (vk rfl)) rfl<|As rfl<|Nl ?_
     exact ⟨(_,_,_,_),Nat.lt_succ_self _,⟨trivial,h⟩,FX rfl⟩
   ·refine xt<|sq ?_
    obtain ⟨s16,hs16,h⟩:=Z7 h
    refine Rg<|Mw rfl<|Md rfl<|Ac (Y1c 0 hs16 rfl rfl Z0g (vt rfl) rfl (vt rfl)) rfl<|Ac (Yoy 0 rfl rfl Z0g Z66 rfl (vt rfl) rfl (Zkk hs16).2.1) rfl<|Nl<|sq ?_
    obtain ⟨s17,hs17,h⟩:=Z7 h
    refine Rg<|Mw rfl<|Md rfl<|Cv rfl (Yuc 0 hs17 rfl rfl Z0g (vt rfl) rfl (vt rfl)) fun v18=>Aw rfl<|Nl<|rt ?_
    cases h;exact Z3m (i:=0) Tryz.results147 rfl rfl rfl
end Go.Proofs.YtinplddjjalohaaGreatDoor.W
