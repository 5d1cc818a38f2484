/- A part of the proof. -/
import Derived.Test.YtinplddjjalohaaGreatDoorG0
set_option linter.unusedVariables false
set_option maxHeartbeats 1000000
set_option maxRecDepth 4000
set_option linter.unusedSimpArgs false
namespace Go.Proofs.YtinplddjjalohaaGreatDoor.W
open Go Go.Wb
theorem e64:Ent Tryz.prog 64:=Ent.mk Tryz.func64 rfl rfl
theorem Yf2:Ent Tryz.prog 294:=Ent.mk Tryz.func294 rfl rfl
theorem Ypb:Ent Tryz.prog 213:=Ent.mk Tryz.func213 rfl rfl
theorem Yiv:Ent Tryz.prog 126:=Ent.mk Tryz.func126 rfl rfl
theorem Yj1:Ent Tryz.prog 127:=Ent.mk Tryz.func127 rfl rfl
theorem e62:Ent Tryz.prog 62:=Ent.mk Tryz.func62 rfl rfl
theorem e61:Ent Tryz.prog 61:=Ent.mk Tryz.func61 rfl rfl
theorem e16:Ent Tryz.prog 16:=Ent.mk Tryz.func16 rfl rfl
theorem e29:Ent Tryz.prog 29:=Ent.mk Tryz.func29 rfl rfl
theorem e28:Ent Tryz.prog 28:=Ent.mk Tryz.func28 rfl rfl
def Zii (s1:Switch):Option (List Rule):=
 (Zpg).bind fun x3=>(Zac).bind fun x4=>(Ztb s1 0 x3 x4 [] []).bind fun x5=>some x5
theorem Ygn:Q1 Tryz.prog 29 (rd Z09) (rd (Z1 Z0a)) Zii:=fun s1 r h=>I0 Tryz.func29 rfl Tryz.ntmps29 rfl fun w H Z=>by
 unfold Zii at h
 refine SR<|Cv rfl (Zs 2 rfl rfl (vt rfl)) fun g2=>Ac (Zv (A:=rd (Z1 Z0a) []) rfl rfl Z1j) rfl<|Nl<|sq ?_
 obtain ⟨x3,hx3,x4,hx4,x5,hx5,h⟩:=bs3 h
 refine AR Z00 (by kernel_rfl)<|Zp Z28 2 rfl<|SCl [] (Ys7 _ hx3) e64 rfl<|SCl [] (Zoh _ hx4) e65 rfl<|Sd (lo [3,4,5] [] rfl fun S hs hr=>Z0g (xs:=[.tmp 3,.const (Value.int IntKind.i64 0),.tmp 4,.tmp 5,.const (Value.slice none 0 0),.const (Value.slice none 0 0)]) (Yq6 _ _ _ _ _ _ _ hx5) e63 rfl rfl ⟨vt ((hs 3 rfl).trans rfl),vk rfl,vt ((hs 4 rfl).trans rfl),vt ((hs 5 rfl).trans rfl),Z1j,Z1j,trivial⟩)<|SAs rfl<|Sn<|rt ?_
 cases h;exact Zd Tryz.results29 rfl (Z5 rfl)
def Zib (l1:(List Rule)):Nat→(List Za)→Int→Option (List Za)
 | 0,_,_=>none
 | m9+1,l6,i8=>(bif (decide (i8<(l1.length:Int))) then (lget l1 i8).bind fun x10=>(Z0y l6 [x10.Cube]).bind fun l11=>(Zib l1 m9) l11 (IntKind.i64.wrap (i8+1)) else some l6)
def Zio (l1:(List Rule)):Option (List Za):=
 Zib l1 ((((l1.length:Int):Int) - 0).toNat+1) [] 0
theorem Yd3 (l1:(List Rule))(r:(List Za))(h:Zio l1=some r):Con Tryz.prog 62 [rd (Z1 Z0a) l1] emp (fun v=>Zc v) (fun v=>Zg v 123 (Z3 24 Z4) r):=by
 refine Con.intro0 Tryz.func62 rfl Tryz.ntmps62 rfl fun w H Z=>?_
 unfold Zio at h
 refine sq<|AW.newnil 1001 123 (Z3 24 Z4)<|Rg<|Ac (Zv rfl rfl vc) rfl<|Nl<|SR<|Cv rfl (Z5g 1002 (ps:=[]) (l:=[]) rfl rfl Z4z Z1l rfl rfl rfl rfl) fun v2=>Aw rfl<|Nl<|sq<|SR<|Ak rfl<|Nl<|bk<|LG (d:=[]) (ν:=Nat×(List Za)×Int×Value) (fun (m9,l6,i8,v7)=>(True∧Zib l1 m9 l6 i8=some r,m9,[(0,rd (Z1 Z0a) l1),(3,Zc v7),(4,rd (Z0 .i64) i8)],[(1002,Zg v7 123 (Z3 24 Z4) l6)])) (((((l1.length:Int):Int) - 0).toNat+1),[],0,v2) ⟨trivial,h⟩ (FX rfl) ?_
 rintro ⟨m9,l6,i8,v7⟩ ⟨hsf1,h⟩
 dsimp only at h ⊢
 cases m9 with
 | zero=>cases h
 | succ m9=>
  unfold Zib at h
  refine sq<|SR<|Md rfl<|Md rfl<|Ac (Z0i rfl rfl Z44 (vt rfl)) rfl<|Ac (Zj rfl rfl (vt rfl) (vt rfl)) rfl<|Nl<|Cq rfl h (fun h=>?_) (fun h=>?_)
  ·refine sk<|sq<|bk ?_
   obtain ⟨x10,hx10,l11,hl11,h⟩:=bs2 h
   refine Rg<|Mw rfl<|Md rfl<|Md rfl<|Ac (Z0j rfl rfl Z44 (vt rfl) (vt rfl) hx10) rfl<|Fp lRule_0 Zo2 rfl<|Lp1 Z02 rfl<|Ac (osl Z4z Z1l rfl (vt rfl)) rfl<|Cv rfl (Z2f 1002 hl11 rfl rfl Zsj (vt rfl) rfl (vt rfl)) fun v12=>Aw rfl<|Nl<|Rg<|Md rfl<|Ac (Z05 rfl rfl (vt rfl) (vk rfl)) rfl<|As rfl<|Nl ?_
   exact ⟨(_,_,_,_),Nat.lt_succ_self _,⟨trivial,h⟩,FX rfl⟩
  ·refine xt<|SR<|Mw rfl<|Aw rfl<|Nl<|rt ?_
   cases h;exact Z49 (i:=1002) Tryz.results62 rfl rfl rfl
theorem Ygg (l1:(List Rule))(r:(List Za))(h:Zio l1=some r):PCon Tryz.prog 62 [rd (Z1 Z0a) l1] (rd (Z1 (Z3 24 Z4)) r):=PCon.of_row (Yd3 l1 r h)
def Zf5 (l2:(List Za))(x1:Za):Nat→(List Za)→Int→Option (List Za)
 | 0,_,_=>none
 | m11+1,l8,i10=>(bif (decide (i10<(l2.length:Int))) then (lget l2 i10).bind fun x12=>(Ziv x1 x12).bind fun x13=>(bif x13.2 then (lget l2 i10).bind fun x15=>(Z0y l8 [x15]).bind fun l16=>(Zf5 l2 x1 m11) l16 (IntKind.i64.wrap (i10+1)) else (Zf5 l2 x1 m11) l8 (IntKind.i64.wrap (i10+1))) else some l8)
def Zru (x1:Za)(l2:(List Za)):Option (List Za):=
 Zf5 l2 x1 ((((l2.length:Int):Int) - 0).toNat+1) [] 0
theorem Yoa:Q2 Tryz.prog 126 (rd (Z3 24 Z4)) (rd (Z1 (Z3 24 Z4))) (rd (Z1 (Z3 24 Z4))) Zru:=fun x1 l2 r h=>I0 Tryz.func126 rfl Tryz.ntmps126 rfl fun w H Z=>by
 unfold Zru at h
 refine SR<|Cv rfl (Zs 3 rfl rfl (vt rfl)) fun g3=>Ac (Zv (A:=rd (Z1 (Z3 24 Z4)) []) rfl rfl Z1j) rfl<|Nl<|SR<|Cv rfl (Z5g 1001 (ps:=[]) (l:=[]) rfl rfl Z4z Z1l rfl rfl rfl rfl) fun v4=>Aw rfl<|Nl<|sq<|SR<|Ak rfl<|Nl<|bk<|LG (d:=[]) (ν:=Nat×(List Za)×Int×Value) (fun (m11,l8,i10,v9)=>(True∧Zf5 l2 x1 m11 l8 i10=some r,m11,[(1,rd (Z1 (Z3 24 Z4)) l2),(2,Zb g3 (Lens.id (Z3 24 Z4))),(5,Zc v9),(6,rd (Z0 .i64) i10)],[(3,Zh g3 123 (Z3 24 Z4) x1),(1001,Zg v9 123 (Z3 24 Z4) l8)])) (((((l2.length:Int):Int) - 0).toNat+1),[],0,v4) ⟨trivial,h⟩ (FX rfl) ?_
 rintro ⟨m11,l8,i10,v9⟩ ⟨hsf1,h⟩
 dsimp only at h ⊢
 cases m11 with
 | zero=>cases h
 | succ m11=>
  unfold Zf5 at h
  refine sq<|SR<|Md rfl<|Md rfl<|Ac (Z0i rfl rfl Z4z (vt rfl)) rfl<|Ac (Zj rfl rfl (vt rfl) (vt rfl)) rfl<|Nl<|Cq rfl h (fun h=>?_) (fun h=>?_)
  ·refine sk<|sq<|bk<|sq ?_
   obtain ⟨x12,hx12,x13,hx13,h⟩:=bs2 h
   refine AR Z00 (by kernel_rfl)<|Zp Z02 3 rfl<|Zt rfl<|Zt rfl<|Sd (lo [18,19] [] rfl fun S hs hr=>Z0j rfl rfl Z4z (vh hs 18 rfl rfl) (vh hs 19 rfl rfl) hx12)<|SLp Z02 rfl<|SCl [17,21] (Y8p _ _ _ hx13) Y3c rfl<|Sd (lo [22] [] rfl fun S hs hr=>Zq (A:=Z12 (rd (Z3 24 Z4) x13.1) (rd Z6 x13.2)) rfl rfl (vh hs 22 rfl rfl))<|Sd (lo [16] [] rfl fun S hs hr=>Z1e rfl rfl (vh hs 16 rfl rfl))<|Sd (lo [16] [] rfl fun S hs hr=>Z1a rfl rfl (vh hs 16 rfl rfl))<|Sd (Z1g (us:=[(7,Z2u 123 (Z3 24 Z4) (Vector.replicate 24 zTern))]) (ur:=[]) [] [] rfl fun S hs hr=>Z7x rfl rfl rfl Z1l)<|Sd (Z1g (us:=[(7,Z2u 123 (Z3 24 Z4) x13.1)]) (ur:=[]) [7,23] [] rfl fun S hs hr=>Z89 rfl rfl Z02 ((hs 7 rfl).trans rfl) (vh hs 23 rfl rfl))<|SAs rfl<|Sn<|AW.unpackP 7 8 rfl rfl fun g14=>SR<|Md rfl<|Nl<|Cq rfl h (fun h=>?_) (fun h=>?_)
   ·obtain ⟨x15,hx15,l16,hl16,h⟩:=bs2 h
    refine Rg<|Mw rfl<|Md rfl<|Md rfl<|Ac (Z0j rfl rfl Z4z (vt rfl) (vt rfl) hx15) rfl<|Lp1 Z02 rfl<|Ac (osl Z4z Z1l rfl (vt rfl)) rfl<|Cv rfl (Z2f 1001 hl16 rfl rfl Zsj (vt rfl) rfl (vt rfl)) fun v17=>Aw rfl<|Nl<|Rg<|Md rfl<|Ac (Z05 rfl rfl (vt rfl) (vk rfl)) rfl<|As rfl<|Nl ?_
    exact ⟨(_,_,_,_),Nat.lt_succ_self _,⟨trivial,h⟩,FX rfl⟩
   ·refine sk<|Rg<|Md rfl<|Ac (Z05 rfl rfl (vt rfl) (vk rfl)) rfl<|As rfl<|Nl ?_
    exact ⟨(_,_,_,_),Nat.lt_succ_self _,⟨trivial,h⟩,FX rfl⟩
  ·refine xt<|SR<|Mw rfl<|Aw rfl<|Nl<|AW.freezes [4,5,33] 1001 rfl ⟨rfl,rfl,rfl,trivial⟩ rfl<|rt ?_
   cases h;exact Zd Tryz.results126 rfl (Z5 rfl)
def Zmb (a1:Wide)(i2:Int):Option Bool:=
 (Zb4 i2).bind fun x4=>(Ze4 a1 x4).bind fun x5=>(Ziu x5).bind fun x6=>some (!x6)
theorem Yp3:Q2 Tryz.prog 294 (rd Zn) (rd (Z0 .i64)) (rd Z6) Zmb:=fun a1 i2 r h=>I0 Tryz.func294 rfl Tryz.ntmps294 rfl fun w H Z=>by
 unfold Zmb at h
 refine SR<|Cv rfl (Zs 3 rfl rfl (vt rfl)) fun g3=>Ab rfl<|Nl<|sq ?_
 obtain ⟨x4,hx4,x5,hx5,x6,hx6,h⟩:=bs3 h
 refine AR Z00 (by kernel_rfl)<|Zp Zw 3 rfl<|Zt rfl<|SCl [6] (Zp3 _ _ hx4) Zrx rfl<|SCl [5,7] (Zr2 _ _ _ hx5) Zpd rfl<|SCl [8] (Y5h _ _ hx6) Ybs rfl<|Sd (lo [9] [] rfl fun S hs hr=>Z0z rfl rfl (vh hs 9 rfl rfl))<|SAs rfl<|Sn<|rt ?_
 cases h;exact Zd Tryz.results294 rfl (Z5 rfl)
def Zdw (a1:Wide):Nat→Int→Int→Option Int
 | 0,_,_=>none
 | m7+1,n5,i6=>(bif (decide (i6<128)) then (Zmb a1 i6).bind fun x8=>(bif x8 then (Zdw a1 m7) (IntKind.i64.wrap (n5+1)) (IntKind.i64.wrap (i6+1)) else (Zdw a1 m7) n5 (IntKind.i64.wrap (i6+1))) else some n5)
def Zn7 (a1:Wide):Option Int:=
 Zdw a1 (((128:Int) - 0).toNat+1) 0 0
theorem Yvd:Q1 Tryz.prog 213 (rd Zn) (rd (Z0 .i64)) Zn7:=fun a1 r h=>I0 Tryz.func213 rfl Tryz.ntmps213 rfl fun w H Z=>by
 unfold Zn7 at h
 refine SR<|Cv rfl (Zs 2 rfl rfl (vt rfl)) fun g2=>Ak rfl<|Nl<|SR<|Ak rfl<|Nl<|sq<|SR<|Ak rfl<|Nl<|bk<|LG (d:=[]) (ν:=Nat×Int×Int) (fun (m7,n5,i6)=>(True∧Zdw a1 m7 n5 i6=some r,m7,[(1,Zb g2 (Lens.id Zn)),(3,rd (Z0 .i64) n5),(4,rd (Z0 .i64) i6)],[(2,Zh g2 29 Zn a1)])) ((((128:Int) - 0).toNat+1),0,0) ⟨trivial,h⟩ (FX rfl) ?_
 rintro ⟨m7,n5,i6⟩ ⟨hsf1,h⟩
 dsimp only at h ⊢
 cases m7 with
 | zero=>cases h
 | succ m7=>
  unfold Zdw at h
  refine sq<|SR<|Md rfl<|Ac (Zj rfl rfl (vt rfl) (vk rfl)) rfl<|Nl<|Cq rfl h (fun h=>?_) (fun h=>?_)
  ·refine sk<|sq<|bk<|sq ?_
   obtain ⟨x8,hx8,h⟩:=Z7 h
   refine Rg<|Ld Zw 2 rfl<|Md rfl<|Cl [9,10] (Yp3 _ _ _ hx8) Yf2 rfl<|Nl<|Cq rfl h (fun h=>?_) (fun h=>?_)
   ·refine Rg<|Md rfl<|Ac (Z05 rfl rfl (vt rfl) (vk rfl)) rfl<|As rfl<|Nl<|Rg<|Md rfl<|Ac (Z05 rfl rfl (vt rfl) (vk rfl)) rfl<|As rfl<|Nl ?_
    exact ⟨(_,_,_),Nat.lt_succ_self _,⟨trivial,h⟩,FX rfl⟩
   ·refine sk<|Rg<|Md rfl<|Ac (Z05 rfl rfl (vt rfl) (vk rfl)) rfl<|As rfl<|Nl ?_
    exact ⟨(_,_,_),Nat.lt_succ_self _,⟨trivial,h⟩,FX rfl⟩
  ·refine xt<|SR<|Md rfl<|As rfl<|Nl<|rt ?_
   cases h;exact Zd Tryz.results213 rfl (Z5 rfl)
def Zg6 (x1:Za):Nat→Int→Int→Option Int
 | 0,_,_=>none
 | m7+1,n5,x6=>(bif (decide (x6<24)) then (chk 24 x6).bind fun j8=>(Zn7 ((Vector.get x1 j8).Mask)).bind fun x9=>(Zg6 x1 m7) (IntKind.i64.wrap (n5+x9)) (IntKind.i64.wrap (x6+1)) else some n5)
def Zks (x1:Za):Option Int:=
 Zg6 x1 (((24:Int) - 0).toNat+1) 0 0
theorem Yk7:Q1 Tryz.prog 127 (rd (Z3 24 Z4)) (rd (Z0 .i64)) Zks:=fun x1 r h=>I0 Tryz.func127 rfl Tryz.ntmps127 rfl fun w H Z=>by
 unfold Zks at h
 refine SR<|Cv rfl (Zs 2 rfl rfl (vt rfl)) fun g2=>Ak rfl<|Nl<|SR<|Ak rfl<|Nl<|sq<|SR<|Ak rfl<|Nl<|bk<|LG (d:=[]) (ν:=Nat×Int×Int) (fun (m7,n5,x6)=>(True∧Zg6 x1 m7 n5 x6=some r,m7,[(1,Zb g2 (Lens.id (Z3 24 Z4))),(3,rd (Z0 .i64) n5),(4,rd (Z0 .i64) x6)],[(2,Zh g2 123 (Z3 24 Z4) x1)])) ((((24:Int) - 0).toNat+1),0,0) ⟨trivial,h⟩ (FX rfl) ?_
 rintro ⟨m7,n5,x6⟩ ⟨hsf1,h⟩
 dsimp only at h ⊢
 cases m7 with
 | zero=>cases h
 | succ m7=>
  unfold Zg6 at h
  refine sq<|SR<|Md rfl<|Ac (Zj rfl rfl (vt rfl) (vk rfl)) rfl<|Nl<|Cq rfl h (fun h=>?_) (fun h=>?_)
  ·refine sk<|sq<|bk ?_
   obtain ⟨j8,hj8,x9,hx9,h⟩:=bs2 h
   refine Rg<|Md rfl<|Md rfl<|Ac (Z19 rfl rfl Z2p (vt rfl) (vt rfl) hj8) rfl<|Zk lTern_1 Z2g rfl<|Ld Zw 2 rfl<|Cl [13] (Yvd _ _ hx9) Ypb rfl<|Ac (Z05 rfl rfl (vt rfl) (vt rfl)) rfl<|As rfl<|Nl<|Rg<|Md rfl<|Ac (Z05 rfl rfl (vt rfl) (vk rfl)) rfl<|As rfl<|Nl ?_
   exact ⟨(_,_,_),Nat.lt_succ_self _,⟨trivial,h⟩,FX rfl⟩
  ·refine xt<|SR<|Md rfl<|As rfl<|Nl<|rt ?_
   cases h;exact Zd Tryz.results127 rfl (Z5 rfl)
def Zhx (x4:(List Za)):Nat→Int→Int→Option Int
 | 0,_,_=>none
 | m9+1,n7,i8=>(bif (decide (i8<(x4.length:Int))) then (lget x4 i8).bind fun x10=>(Zks x10).bind fun x11=>(Zhx x4 m9) (Z5w (IntKind.i64.wrap (n7*(Z2r x11 1))) 1099511627776) (IntKind.i64.wrap (i8+1)) else some n7)
def Znq (x1:Za)(l2:(List Za)):Option Int:=
 (Zru x1 l2).bind fun x4=>Zhx x4 ((((x4.length:Int):Int) - 0).toNat+1) (Z5w (IntKind.i64.wrap ((x4.length:Int)+1)) 1099511627776) 0
theorem Yt6:Q2 Tryz.prog 61 (rd (Z3 24 Z4)) (rd (Z1 (Z3 24 Z4))) (rd (Z0 .i64)) Znq:=fun x1 l2 r h=>I0 Tryz.func61 rfl Tryz.ntmps61 rfl fun w H Z=>by
 unfold Znq at h
 refine SR<|Cv rfl (Zs 3 rfl rfl (vt rfl)) fun g3=>Ak rfl<|Nl<|sq ?_
 obtain ⟨x4,hx4,h⟩:=Z7 h
 refine Rg<|Ld Z02 3 rfl<|Md rfl<|Cl [8,9] (Yoa _ _ _ hx4) Yiv rfl<|As rfl<|Nl<|SR<|Md rfl<|Ac (Z0i rfl rfl Z4z (vt rfl)) rfl<|Ac (Z05 rfl rfl (vt rfl) (vk rfl)) rfl<|Ac (Zxp rfl rfl (vt rfl) (vk rfl)) rfl<|As rfl<|Nl<|sq<|SR<|Ak rfl<|Nl<|bk<|LG (d:=[]) (ν:=Nat×Int×Int) (fun (m9,n7,i8)=>(True∧Zhx x4 m9 n7 i8=some r,m9,[(5,rd (Z1 (Z3 24 Z4)) x4),(6,rd (Z0 .i64) n7),(7,rd (Z0 .i64) i8)],[])) (((((x4.length:Int):Int) - 0).toNat+1),(Z5w (IntKind.i64.wrap ((x4.length:Int)+1)) 1099511627776),0) ⟨trivial,h⟩ (FX rfl) ?_
 rintro ⟨m9,n7,i8⟩ ⟨hsf1,h⟩
 dsimp only at h ⊢
 cases m9 with
 | zero=>cases h
 | succ m9=>
  unfold Zhx at h
  refine sq<|SR<|Md rfl<|Md rfl<|Ac (Z0i rfl rfl Z4z (vt rfl)) rfl<|Ac (Zj rfl rfl (vt rfl) (vt rfl)) rfl<|Nl<|Cq rfl h (fun h=>?_) (fun h=>?_)
  ·refine sk<|sq<|bk ?_
   obtain ⟨x10,hx10,x11,hx11,h⟩:=bs2 h
   refine Rg<|Md rfl<|Md rfl<|Md rfl<|Ac (Z0j rfl rfl Z4z (vt rfl) (vt rfl) hx10) rfl<|Lp1 Z02 rfl<|Cl [25] (Yk7 _ _ hx11) Yj1 rfl<|Ac (Zk5 rfl rfl (vt rfl) (vk rfl)) rfl<|Ac (Z8g rfl rfl (vt rfl) (vt rfl)) rfl<|Ac (Zxp rfl rfl (vt rfl) (vk rfl)) rfl<|As rfl<|Nl<|Rg<|Md rfl<|Ac (Z05 rfl rfl (vt rfl) (vk rfl)) rfl<|As rfl<|Nl ?_
   exact ⟨(_,_,_),Nat.lt_succ_self _,⟨trivial,h⟩,FX rfl⟩
  ·refine xt<|SR<|Md rfl<|As rfl<|Nl<|rt ?_
   cases h;exact Zd Tryz.results61 rfl (Z5 rfl)
def Zir (l1:(List Rule)):Nat→Int→Int→Option Int
 | 0,_,_=>none
 | m6+1,n4,i5=>(bif (decide (i5<(l1.length:Int))) then (lget l1 i5).bind fun x7=>(Z4j l1 i5).bind fun s8=>(Zio s8).bind fun x9=>(Znq x7.Cube x9).bind fun x10=>(Zir l1 m6) (Z2r n4 x10) (IntKind.i64.wrap (i5+1)) else some n4)
def Zgg (l1:(List Rule)):Option Int:=
 Zir l1 ((((l1.length:Int):Int) - 0).toNat+1) 0 0
theorem Ymv:Q1 Tryz.prog 28 (rd (Z1 Z0a)) (rd (Z0 .i64)) Zgg:=fun l1 r h=>I0 Tryz.func28 rfl Tryz.ntmps28 rfl fun w H Z=>by
 unfold Zgg at h
 refine SR<|Ak rfl<|Nl<|SR<|Ak rfl<|Nl<|sq<|SR<|Ak rfl<|Nl<|bk<|LG (d:=[]) (ν:=Nat×Int×Int) (fun (m6,n4,i5)=>(True∧Zir l1 m6 n4 i5=some r,m6,[(0,rd (Z1 Z0a) l1),(3,rd (Z0 .i64) n4),(4,rd (Z0 .i64) i5)],[])) (((((l1.length:Int):Int) - 0).toNat+1),0,0) ⟨trivial,h⟩ (FX rfl) ?_
 rintro ⟨m6,n4,i5⟩ ⟨hsf1,h⟩
 dsimp only at h ⊢
 cases m6 with
 | zero=>cases h
 | succ m6=>
  unfold Zir at h
  refine sq<|SR<|Md rfl<|Md rfl<|Ac (Z0i rfl rfl Z44 (vt rfl)) rfl<|Ac (Zj rfl rfl (vt rfl) (vt rfl)) rfl<|Nl<|Cq rfl h (fun h=>?_) (fun h=>?_)
  ·refine sk<|sq<|bk ?_
   obtain ⟨x7,hx7,s8,hs8,x9,hx9,x10,hx10,h⟩:=bs4 h
   refine AR Z00 (by kernel_rfl)<|Zt rfl<|Zt rfl<|Zt rfl<|Sd (lo [12,13] [] rfl fun S hs hr=>Z0j rfl rfl Z44 (vh hs 12 rfl rfl) (vh hs 13 rfl rfl) hx7)<|SFp lRule_0 Zo2 rfl<|SLp Z02 rfl<|Zt rfl<|Zt rfl<|Sd (lo [17,18] [] rfl fun S hs hr=>Zs1 hs8 rfl rfl Z44 (vh hs 17 rfl rfl) (vh hs 18 rfl rfl))<|SCl [19] (Ygg _ _ hx9) e62 rfl<|SCl [16,20] (Yt6 _ _ _ hx10) e61 rfl<|Sd (lo [11,21] [] rfl fun S hs hr=>Zk5 rfl rfl (vh hs 11 rfl rfl) (vh hs 21 rfl rfl))<|SAs rfl<|Sn<|Rg<|Md rfl<|Ac (Z05 rfl rfl (vt rfl) (vk rfl)) rfl<|As rfl<|Nl ?_
   exact ⟨(_,_,_),Nat.lt_succ_self _,⟨trivial,h⟩,FX rfl⟩
  ·refine xt<|SR<|Md rfl<|As rfl<|Nl<|rt ?_
   cases h;exact Zd Tryz.results28 rfl (Z5 rfl)
def Zk7 (s1:Switch)(m2:Int):Option Bool:=
 (Zp0 s1 3).bind fun x4=>(opt ((x4==true)&&((decide (m2≤1024))==false)) (Zii s1)).bind fun x5=>(opt ((x4==true)&&((decide (m2≤1024))==false)) (Zgg x5)).bind fun x6=>some (x4&&((decide (m2≤1024))||(decide (x6≤4096))))
theorem Ycs:Q2 Tryz.prog 8 (rd Z09) (rd (Z0 .i64)) (rd Z6) Zk7:=fun s1 m2 r h=>I0 Tryz.func8 rfl Tryz.ntmps8 rfl fun w H Z=>by
 unfold Zk7 at h
 refine SR<|Cv rfl (Zs 3 rfl rfl (vt rfl)) fun g3=>Ab rfl<|Nl<|sq ?_
 obtain ⟨x4,hx4,x5,hx5,x6,hx6,h⟩:=bs3 h
 refine Rg<|Ld Z28 3 rfl<|Ac (Z0g (xs:=[.tmp 5,.const (Value.int IntKind.i64 3)]) (Ylq _ _ _ hx4) e16 rfl rfl ⟨vt rfl,vk rfl,trivial⟩) rfl<|Md rfl<|Gd rfl (fun hq=>Zq (A:=rd (Z0 .i64) m2) rfl rfl (vt rfl))<|Gd rfl (fun hq=>Z68 rfl rfl (Zi rfl hq) (vk rfl))<|AOps.consG (OpG.guardX rfl rfl rfl rfl rfl fun hq=>Zq (A:=rd Z6 (decide (m2≤1024))) rfl rfl (Zi rfl hq))<|AOps.consG (OpG.guardN rfl rfl rfl rfl rfl fun hq=>Z1z rfl rfl Z28 (vt rfl) (i:=3) rfl)<|AOps.consG (OpG.guardN rfl rfl rfl rfl rfl fun hq=>Z0g (xs:=[.tmp 11]) (Ygn _ _ (Zu3 hx5 hq)) e29 rfl rfl ⟨Zi rfl hq,trivial⟩)<|AOps.consG (OpG.guardN rfl rfl rfl rfl rfl fun hq=>Z0g (xs:=[.tmp 12]) (Ymv _ _ (Zu3 hx6 hq)) e28 rfl rfl ⟨Zi rfl hq,trivial⟩)<|AOps.consG (OpG.guardN rfl rfl rfl rfl rfl fun hq=>Z68 rfl rfl (Zi rfl hq) (vk rfl))<|Gd rfl (fun hq=>Z4d rfl rfl (vgx rfl hq) (vgw rfl hq))<|Ac (Z1m rfl rfl (vt rfl) (vt rfl)) rfl<|As rfl<|Nl<|rt ?_
 cases h;exact Zd Tryz.results8 rfl (Z5 rfl)
end Go.Proofs.YtinplddjjalohaaGreatDoor.W
set_option maxHeartbeats 1000000
set_option maxRecDepth 4000
namespace Go.Proofs.YtinplddjjalohaaGreatDoor.W
open Go Go.Wb
theorem Zu9:Ent Tryz.prog 398:=Ent.mk Tryz.func398 rfl rfl
theorem Zq5:Ent Tryz.prog 381:=Ent.mk Tryz.func381 rfl rfl
theorem Yqu:Ent Tryz.prog 394:=Ent.mk Tryz.func394 rfl rfl
theorem Zzy:Ent Tryz.prog 380:=Ent.mk Tryz.func380 rfl rfl
theorem Ydt:Ent Tryz.prog 353:=Ent.mk Tryz.func353 rfl rfl
def Zhn:Option Za:=
 some (Vector.replicate 24 zTern)
theorem Y6c:Q0 Tryz.prog 226 (rd (Z3 24 Z4)) Zhn:=fun r h=>I0 Tryz.func226 rfl Tryz.ntmps226 rfl fun w H Z=>by
 unfold Zhn at h
 refine SR<|Cv rfl (Zm 1 rfl rfl Z1l) fun g1=>Nl<|SR<|Ac (Z1o (ps:=[]) (x:=(Vector.replicate 24 zTern)) rfl rfl rfl (by kernel_rfl) Z1l rfl) rfl<|Zf Z02 1 rfl<|Nl<|rt ?_
 cases h;exact Zd Tryz.results226 rfl (Zx rfl (i:=1) rfl Z02)
def Zby:Option Za:=
 some (Vector.replicate 24 zTern)
theorem Zym:Q0 Tryz.prog 143 (rd (Z3 24 Z4)) Zby:=fun r h=>I0 Tryz.func143 rfl Tryz.ntmps143 rfl fun w H Z=>by
 unfold Zby at h
 refine SR<|Cv rfl (Zm 1 rfl rfl Z3v) fun g1=>Nl<|SR<|Ac (Z1o (ps:=[]) (x:=(Vector.replicate 24 zTern)) rfl rfl rfl (by kernel_rfl) Z3v rfl) rfl<|Zf Z03 1 rfl<|Nl<|rt ?_
 cases h;exact Zd Tryz.results143 rfl (Zx rfl (i:=1) rfl Z03)
def Zie (i1:Int)(j2:Int)(x3:(List Flow)):Option Int:=
 (lget x3 i1).bind fun x4=>(lget x3 j2).bind fun x5=>(bif (decide (x4.Priority>x5.Priority)) then some (-1) else (lget x3 i1).bind fun x6=>(lget x3 j2).bind fun x7=>(bif (decide (x6.Priority<x7.Priority)) then some 1 else some 0))
theorem Yu2:Q3 Tryz.prog 308 (rd (Z0 .i64)) (rd (Z0 .i64)) (rp (Z1 Z08)) (rd (Z0 .i64)) Zie:=fun i1 j2 x3 r h=>I0 Tryz.func308 rfl Tryz.ntmps308 rfl fun w H Z=>by
 unfold Zie at h
 refine SR<|Ak rfl<|Nl<|sq<|bk<|sq ?_
 obtain ⟨x4,hx4,x5,hx5,h⟩:=bs2 h
 refine AR Z00 (by kernel_rfl)<|SLp Z46 rfl<|Zt rfl<|Sd (lo [7,8] [] rfl fun S hs hr=>Z0j rfl rfl Z2q (vh hs 7 rfl rfl) (vh hs 8 rfl rfl) hx4)<|SFp lFlow_1 Zbf rfl<|SLp Zo rfl<|SLp Z46 rfl<|Zt rfl<|Sd (lo [12,13] [] rfl fun S hs hr=>Z0j rfl rfl Z2q (vh hs 12 rfl rfl) (vh hs 13 rfl rfl) hx5)<|SFp lFlow_1 Zbf rfl<|SLp Zo rfl<|Sd (lo [11,16] [] rfl fun S hs hr=>Z2s rfl rfl (vh hs 11 rfl rfl) (vh hs 16 rfl rfl))<|SAs rfl<|Sn<|Cq rfl h (fun h=>?_) (fun h=>?_)
 ·refine SR<|Ak rfl<|Nl<|rt ?_
  cases h;exact Zd Tryz.results308 rfl (Z5 rfl)
 ·refine sq ?_
  obtain ⟨x6,hx6,x7,hx7,h⟩:=bs2 h
  refine AR Z00 (by kernel_rfl)<|SLp Z46 rfl<|Zt rfl<|Sd (lo [19,20] [] rfl fun S hs hr=>Z0j rfl rfl Z2q (vh hs 19 rfl rfl) (vh hs 20 rfl rfl) hx6)<|SFp lFlow_1 Zbf rfl<|SLp Zo rfl<|SLp Z46 rfl<|Zt rfl<|Sd (lo [24,25] [] rfl fun S hs hr=>Z0j rfl rfl Z2q (vh hs 24 rfl rfl) (vh hs 25 rfl rfl) hx7)<|SFp lFlow_1 Zbf rfl<|SLp Zo rfl<|Sd (lo [23,28] [] rfl fun S hs hr=>Zj rfl rfl (vh hs 23 rfl rfl) (vh hs 28 rfl rfl))<|SAs rfl<|Sn<|Cq rfl h (fun h=>?_) (fun h=>?_)
  ·refine SR<|Ak rfl<|Nl<|rt ?_
   cases h;exact Zd Tryz.results308 rfl (Z5 rfl)
  ·refine sk<|SR<|Ak rfl<|Nl<|rt ?_
   cases h;exact Zd Tryz.results308 rfl (Z5 rfl)
def Zdu (a3:Int)(x5:(Int→Int→Option Int))(go1:(List Int)→Int→Option (List Int))(i9:Int):Nat→(List Int)→Int→Option (List Int)
 | 0,_,_=>none
 | m15+1,l13,j14=>(opt (decide (j14>a3)) (lget l13 j14)).bind fun x16=>(opt (decide (j14>a3)) (lget l13 (IntKind.i64.wrap (j14 - 1)))).bind fun x17=>(opt (decide (j14>a3)) (x5 x16 x17)).bind fun x18=>(bif ((decide (j14>a3))&&(decide (x18<0))) then (lget l13 (IntKind.i64.wrap (j14 - 1))).bind fun x19=>(lget l13 j14).bind fun x20=>(lget l13 j14).bind fun x21=>(lget (List.set l13 j14.toNat x19) (IntKind.i64.wrap (j14 - 1))).bind fun x22=>(Zdu a3 x5 go1 i9 m15) (List.set (List.set l13 j14.toNat x19) (IntKind.i64.wrap (j14 - 1)).toNat x20) (IntKind.i64.wrap (j14 - 1)) else go1 l13 (IntKind.i64.wrap (i9+1)))
def Zbg (b4:Int)(a3:Int)(x5:(Int→Int→Option Int)):Nat→(List Int)→Int→Option (List Int)
 | 0,_,_=>none
 | m10+1,l8,i9=>(bif (decide (i9<b4)) then Zdu a3 x5 (Zbg b4 a3 x5 m10) i9 Z0v l8 i9 else some l8)
def Zi3 (d1:(List Int))(a3:Int)(b4:Int)(x5:(Int→Int→Option Int)):Option (List Int):=
 Zbg b4 a3 x5 (((b4:Int) - (IntKind.i64.wrap (a3+1))).toNat+1) d1 (IntKind.i64.wrap (a3+1))
theorem Y70 (v2:Value)(d1:(List Int))(a3:Int)(b4:Int)(x5:(Int→Int→Option Int))(r:(List Int))(h:Zi3 d1 a3 b4 x5=some r):Con Tryz.prog 380 [Zc v2,rd (Z0 .i64) a3,rd (Z0 .i64) b4,fn2 Tryz.prog (Z0 .i64) (Z0 .i64) (Z0 .i64) x5] (Zg v2 3 (Z0 .i64) d1) (fun _:Unit=>top) (fun _=>Zg v2 3 (Z0 .i64) r):=by
 refine Con.intro Tryz.func380 rfl Tryz.ntmps380 rfl fun w H X Z=>?_
 unfold Zi3 at h
 refine SR<|Md rfl<|Ac (Z05 rfl rfl (vt rfl) (vk rfl)) rfl<|As rfl<|Nl<|bk<|LG (d:=[]) (ν:=Nat×(List Int)×Int) (fun (m10,l8,i9)=>(True∧Zbg b4 a3 x5 m10 l8 i9=some r,m10,[(0,Zc v2),(1,rd (Z0 .i64) a3),(2,rd (Z0 .i64) b4),(3,fn2 Tryz.prog (Z0 .i64) (Z0 .i64) (Z0 .i64) x5),(8,rd (Z0 .i64) i9)],[(0,Zg v2 3 (Z0 .i64) l8)])) ((((b4:Int) - (IntKind.i64.wrap (a3+1))).toNat+1),d1,(IntKind.i64.wrap (a3+1))) ⟨trivial,h⟩ (FX rfl) ?_
 rintro ⟨m10,l8,i9⟩ ⟨hsf1,h⟩
 dsimp only at h ⊢
 cases m10 with
 | zero=>cases h
 | succ m10=>
  unfold Zbg at h
  refine sq<|SR<|Md rfl<|Md rfl<|Ac (Zj rfl rfl (vt rfl) (vt rfl)) rfl<|Nl<|Cq rfl h (fun h=>?_) (fun h=>?_)
  ·refine sk<|sq<|bk<|SR<|Md rfl<|As rfl<|Nl<|bk<|LG (d:=[]) (ν:=Nat×(List Int)×Int) (fun (m15,l13,j14)=>(True∧Zdu a3 x5 (Zbg b4 a3 x5 m10) i9 m15 l13 j14=some r,m15,[(0,Zc v2),(1,rd (Z0 .i64) a3),(2,rd (Z0 .i64) b4),(3,fn2 Tryz.prog (Z0 .i64) (Z0 .i64) (Z0 .i64) x5),(8,rd (Z0 .i64) i9),(9,rd (Z0 .i64) j14)],[(0,Zg v2 3 (Z0 .i64) l13)])) (Z0v,l8,i9) ⟨trivial,h⟩ (FX rfl) ?_
   rintro ⟨m15,l13,j14⟩ ⟨hsf2,h⟩
   dsimp only at h ⊢
   cases m15 with
   | zero=>cases h
   | succ m15=>
    unfold Zdu at h
    refine sq<|sq ?_
    obtain ⟨x16,hx16,x17,hx17,x18,hx18,h⟩:=bs3 h
    refine AR Z00 (by kernel_rfl)<|Zt rfl<|Zt rfl<|Sd (lo [18,19] [] rfl fun S hs hr=>Z2s rfl rfl (vh hs 18 rfl rfl) (vh hs 19 rfl rfl))<|Zt rfl<|Sd (lg [3,21] [] rfl fun hq S hs hr=>Zq (A:=fn2 Tryz.prog (Z0 .i64) (Z0 .i64) (Z0 .i64) x5) rfl rfl (vh hs 3 rfl rfl))<|Sd (lg [0,21] [] rfl fun hq S hs hr=>Zq (A:=Zc v2) rfl rfl (vh hs 0 rfl rfl))<|Sd (lg [9,21] [] rfl fun hq S hs hr=>Zq (A:=rd (Z0 .i64) j14) rfl rfl (vh hs 9 rfl rfl))<|Sd (lg [23,24,21] [0] rfl fun hq S hs hr=>Z23 0 rfl rfl Z15 (Zi ((hs 23 rfl).trans rfl) hq) ((hr 0 rfl).trans rfl) (Zi ((hs 24 rfl).trans rfl) hq) (Z2j hx16 hq))<|Sd (lg [25,21] [0] rfl fun hq S hs hr=>Z1r 0 rfl rfl Zo (Zi ((hs 25 rfl).trans rfl) hq) ((hr 0 rfl).trans rfl) (Z0n (Z2j hx16 hq)).2)<|Sd (lg [0,21] [] rfl fun hq S hs hr=>Zq (A:=Zc v2) rfl rfl (vh hs 0 rfl rfl))<|Sd (lg [9,21] [] rfl fun hq S hs hr=>Zq (A:=rd (Z0 .i64) j14) rfl rfl (vh hs 9 rfl rfl))<|Sd (lg [28,21] [] rfl fun hq S hs hr=>Z0t rfl rfl (Zi ((hs 28 rfl).trans rfl) hq) (vk rfl))<|Sd (lg [27,29,21] [0] rfl fun hq S hs hr=>Z23 0 rfl rfl Z15 (Zi ((hs 27 rfl).trans rfl) hq) ((hr 0 rfl).trans rfl) (Zi ((hs 29 rfl).trans rfl) hq) (Z2j hx17 hq))<|Sd (lg [30,21] [0] rfl fun hq S hs hr=>Z1r 0 rfl rfl Zo (Zi ((hs 30 rfl).trans rfl) hq) ((hr 0 rfl).trans rfl) (Z0n (Z2j hx17 hq)).2)<|Sd (lg [22,26,31,21] [] rfl fun hq S hs hr=>Zd2 (Z2j hx18 hq) rfl rfl (Zi ((hs 22 rfl).trans rfl) hq) (Zi ((hs 26 rfl).trans rfl) hq) (Zi ((hs 31 rfl).trans rfl) hq))<|Sd (lg [32,21] [] rfl fun hq S hs hr=>Zj rfl rfl (Zi ((hs 32 rfl).trans rfl) hq) (vk rfl))<|Sd (lo [33,21] [] rfl fun S hs hr=>Z1m rfl rfl (vh hs 21 rfl rfl) (vh hs 33 rfl rfl))<|Sn<|Cq rfl h (fun h=>?_) (fun h=>?_)
    ·refine sk<|sq<|bk<|AW.vlen 0 rfl fun hvl0_266=>?_
     obtain ⟨x19,hx19,x20,hx20,x21,hx21,x22,hx22,h⟩:=bs4 h
     refine AR Z00 (by kernel_rfl)<|SMw rfl<|Zt rfl<|SMw rfl<|Zt rfl<|Sd (lo [40] [] rfl fun S hs hr=>Z0t rfl rfl (vh hs 40 rfl rfl) (vk rfl))<|SMw rfl<|Zt rfl<|Sd (lo [43] [] rfl fun S hs hr=>Z0t rfl rfl (vh hs 43 rfl rfl) (vk rfl))<|Sd (lo [42,44] [] rfl fun S hs hr=>Z2k (l:=l13) hvl0_266 rfl rfl rfl Z15 (vh hs 42 rfl rfl) (vh hs 44 rfl rfl) hx19)<|Sd (lo [45] [0] rfl fun S hs hr=>Z1r 0 rfl rfl Zo (vh hs 45 rfl rfl) ((hr 0 rfl).trans rfl) (Z0n hx19).2)<|SMw rfl<|Zt rfl<|Sd (lo [47,48] [] rfl fun S hs hr=>Z2k (l:=l13) hvl0_266 rfl rfl rfl Z15 (vh hs 47 rfl rfl) (vh hs 48 rfl rfl) hx20)<|Sd (lo [49] [0] rfl fun S hs hr=>Z1r 0 rfl rfl Zo (vh hs 49 rfl rfl) ((hr 0 rfl).trans rfl) (Z0n hx20).2)<|Sd (lo [37,38] [] rfl fun S hs hr=>Z2k (l:=l13) hvl0_266 rfl rfl rfl Z15 (vh hs 37 rfl rfl) (vh hs 38 rfl rfl) hx21)<|Sd (Z4q [51,46] [0] rfl fun S hs hr=>Z30 0 rfl rfl Zo (vh hs 51 rfl rfl) ((hr 0 rfl).trans rfl) (Z0n hx21).2 (vh hs 46 rfl rfl))<|Sd (lo [39,41] [] rfl fun S hs hr=>Z2k (l:=(List.set l13 j14.toNat x19)) hvl0_266 (by simp) rfl rfl Z15 (vh hs 39 rfl rfl) (vh hs 41 rfl rfl) hx22)<|Sd (Z4q [52,50] [0] rfl fun S hs hr=>Z30 0 rfl rfl Zo (vh hs 52 rfl rfl) ((hr 0 rfl).trans rfl) (Z0n hx22).2 (vh hs 50 rfl rfl))<|Sn<|Rg<|Md rfl<|Ac (Z0t rfl rfl (vt rfl) (vk rfl)) rfl<|As rfl<|Nl ?_
     exact ⟨(_,_,_),Nat.lt_succ_self _,⟨trivial,h⟩,FX rfl⟩
    ·refine xt<|Rg<|Md rfl<|Ac (Z05 rfl rfl (vt rfl) (vk rfl)) rfl<|As rfl<|Nl ?_
     exact ⟨(_,_,_),Nat.lt_succ_self _,⟨trivial,h⟩,FX rfl⟩
  ·refine xt ?_
   cases h;exact Z2e (i:=0) Tryz.results380 rfl rfl
def Zp2 (n5:Int)(b4:Int)(a3:Int):Nat→(List Int)→Int→Option (List Int)
 | 0,_,_=>none
 | m11+1,l9,i10=>(bif (decide (i10<n5)) then (lget l9 (IntKind.i64.wrap (b4+i10))).bind fun x12=>(lget l9 (IntKind.i64.wrap (a3+i10))).bind fun x13=>(lget l9 (IntKind.i64.wrap (a3+i10))).bind fun x14=>(lget (List.set l9 (IntKind.i64.wrap (a3+i10)).toNat x12) (IntKind.i64.wrap (b4+i10))).bind fun x15=>(Zp2 n5 b4 a3 m11) (List.set (List.set l9 (IntKind.i64.wrap (a3+i10)).toNat x12) (IntKind.i64.wrap (b4+i10)).toNat x13) (IntKind.i64.wrap (i10+1)) else some l9)
def Zms (d1:(List Int))(a3:Int)(b4:Int)(n5:Int)(x6:(Int→Int→Option Int)):Option (List Int):=
 Zp2 n5 b4 a3 (((n5:Int) - 0).toNat+1) d1 0
theorem Zw5 (v2:Value)(d1:(List Int))(a3:Int)(b4:Int)(n5:Int)(x6:(Int→Int→Option Int))(r:(List Int))(h:Zms d1 a3 b4 n5 x6=some r):Con Tryz.prog 398 [Zc v2,rd (Z0 .i64) a3,rd (Z0 .i64) b4,rd (Z0 .i64) n5,fn2 Tryz.prog (Z0 .i64) (Z0 .i64) (Z0 .i64) x6] (Zg v2 3 (Z0 .i64) d1) (fun _:Unit=>top) (fun _=>Zg v2 3 (Z0 .i64) r):=by
 refine Con.intro Tryz.func398 rfl Tryz.ntmps398 rfl fun w H X Z=>?_
 unfold Zms at h
 refine SR<|Ak rfl<|Nl<|bk<|LG (d:=[]) (ν:=Nat×(List Int)×Int) (fun (m11,l9,i10)=>(True∧Zp2 n5 b4 a3 m11 l9 i10=some r,m11,[(0,Zc v2),(1,rd (Z0 .i64) a3),(2,rd (Z0 .i64) b4),(3,rd (Z0 .i64) n5),(10,rd (Z0 .i64) i10)],[(0,Zg v2 3 (Z0 .i64) l9)])) ((((n5:Int) - 0).toNat+1),d1,0) ⟨trivial,h⟩ (FX rfl) ?_
 rintro ⟨m11,l9,i10⟩ ⟨hsf1,h⟩
 dsimp only at h ⊢
 cases m11 with
 | zero=>cases h
 | succ m11=>
  unfold Zp2 at h
  refine sq<|SR<|Md rfl<|Md rfl<|Ac (Zj rfl rfl (vt rfl) (vt rfl)) rfl<|Nl<|Cq rfl h (fun h=>?_) (fun h=>?_)
  ·refine sk<|sq<|bk<|AW.vlen 0 rfl fun hvl0_123=>?_
   obtain ⟨x12,hx12,x13,hx13,x14,hx14,x15,hx15,h⟩:=bs4 h
   refine AR Z00 (by kernel_rfl)<|SMw rfl<|Zt rfl<|Zt rfl<|Sd (lo [17,18] [] rfl fun S hs hr=>Z05 rfl rfl (vh hs 17 rfl rfl) (vh hs 18 rfl rfl))<|SMw rfl<|Zt rfl<|Zt rfl<|Sd (lo [21,22] [] rfl fun S hs hr=>Z05 rfl rfl (vh hs 21 rfl rfl) (vh hs 22 rfl rfl))<|SMw rfl<|Zt rfl<|Zt rfl<|Sd (lo [25,26] [] rfl fun S hs hr=>Z05 rfl rfl (vh hs 25 rfl rfl) (vh hs 26 rfl rfl))<|Sd (lo [24,27] [] rfl fun S hs hr=>Z2k (l:=l9) hvl0_123 rfl rfl rfl Z15 (vh hs 24 rfl rfl) (vh hs 27 rfl rfl) hx12)<|Sd (lo [28] [0] rfl fun S hs hr=>Z1r 0 rfl rfl Zo (vh hs 28 rfl rfl) ((hr 0 rfl).trans rfl) (Z0n hx12).2)<|SMw rfl<|Zt rfl<|Zt rfl<|Sd (lo [31,32] [] rfl fun S hs hr=>Z05 rfl rfl (vh hs 31 rfl rfl) (vh hs 32 rfl rfl))<|Sd (lo [30,33] [] rfl fun S hs hr=>Z2k (l:=l9) hvl0_123 rfl rfl rfl Z15 (vh hs 30 rfl rfl) (vh hs 33 rfl rfl) hx13)<|Sd (lo [34] [0] rfl fun S hs hr=>Z1r 0 rfl rfl Zo (vh hs 34 rfl rfl) ((hr 0 rfl).trans rfl) (Z0n hx13).2)<|Sd (lo [16,19] [] rfl fun S hs hr=>Z2k (l:=l9) hvl0_123 rfl rfl rfl Z15 (vh hs 16 rfl rfl) (vh hs 19 rfl rfl) hx14)<|Sd (Z4q [36,29] [0] rfl fun S hs hr=>Z30 0 rfl rfl Zo (vh hs 36 rfl rfl) ((hr 0 rfl).trans rfl) (Z0n hx14).2 (vh hs 29 rfl rfl))<|Sd (lo [20,23] [] rfl fun S hs hr=>Z2k (l:=(List.set l9 (IntKind.i64.wrap (a3+i10)).toNat x12)) hvl0_123 (by simp) rfl rfl Z15 (vh hs 20 rfl rfl) (vh hs 23 rfl rfl) hx15)<|Sd (Z4q [37,35] [0] rfl fun S hs hr=>Z30 0 rfl rfl Zo (vh hs 37 rfl rfl) ((hr 0 rfl).trans rfl) (Z0n hx15).2 (vh hs 35 rfl rfl))<|Sn<|Rg<|Md rfl<|Ac (Z05 rfl rfl (vt rfl) (vk rfl)) rfl<|As rfl<|Nl ?_
   exact ⟨(_,_,_),Nat.lt_succ_self _,⟨trivial,h⟩,FX rfl⟩
  ·refine xt ?_
   cases h;exact Z2e (i:=0) Tryz.results398 rfl rfl
def Znw (m4:Int)(x6:(Int→Int→Option Int)):Nat→(List Int)→Int→Int→Option (List Int)
 | 0,_,_,_=>none
 | m13+1,l10,i11,j12=>(bif (decide (i11≠j12)) then (bif (decide (i11>j12)) then (Zms l10 (IntKind.i64.wrap (m4 - i11)) m4 j12 x6).bind fun l14=>(Znw m4 x6 m13) l14 (IntKind.i64.wrap (i11 - j12)) j12 else (Zms l10 (IntKind.i64.wrap (m4 - i11)) (IntKind.i64.wrap ((IntKind.i64.wrap (m4+j12)) - i11)) i11 x6).bind fun l15=>(Znw m4 x6 m13) l15 i11 (IntKind.i64.wrap (j12 - i11))) else (Zms l10 (IntKind.i64.wrap (m4 - i11)) m4 i11 x6).bind fun l16=>some l16)
def Zvc (d1:(List Int))(a3:Int)(m4:Int)(b5:Int)(x6:(Int→Int→Option Int)):Option (List Int):=
 Znw m4 x6 Z0v d1 (IntKind.i64.wrap (m4 - a3)) (IntKind.i64.wrap (b5 - m4))
theorem Ytl (v2:Value)(d1:(List Int))(a3:Int)(m4:Int)(b5:Int)(x6:(Int→Int→Option Int))(r:(List Int))(h:Zvc d1 a3 m4 b5 x6=some r):Con Tryz.prog 394 [Zc v2,rd (Z0 .i64) a3,rd (Z0 .i64) m4,rd (Z0 .i64) b5,fn2 Tryz.prog (Z0 .i64) (Z0 .i64) (Z0 .i64) x6] (Zg v2 3 (Z0 .i64) d1) (fun _:Unit=>top) (fun _=>Zg v2 3 (Z0 .i64) r):=by
 refine Con.intro Tryz.func394 rfl Tryz.ntmps394 rfl fun w H X Z=>?_
 unfold Zvc at h
 refine SR<|Md rfl<|Md rfl<|Ac (Z0t rfl rfl (vt rfl) (vt rfl)) rfl<|As rfl<|Nl<|SR<|Md rfl<|Md rfl<|Ac (Z0t rfl rfl (vt rfl) (vt rfl)) rfl<|As rfl<|Nl<|sq<|bk<|LG (d:=[]) (ν:=Nat×(List Int)×Int×Int) (fun (m13,l10,i11,j12)=>(True∧Znw m4 x6 m13 l10 i11 j12=some r,m13,[(0,Zc v2),(2,rd (Z0 .i64) m4),(4,fn2 Tryz.prog (Z0 .i64) (Z0 .i64) (Z0 .i64) x6),(10,rd (Z0 .i64) i11),(11,rd (Z0 .i64) j12)],[(0,Zg v2 3 (Z0 .i64) l10)])) (Z0v,d1,(IntKind.i64.wrap (m4 - a3)),(IntKind.i64.wrap (b5 - m4))) ⟨trivial,h⟩ (FX rfl) ?_
 rintro ⟨m13,l10,i11,j12⟩ ⟨hsf1,h⟩
 dsimp only at h ⊢
 cases m13 with
 | zero=>cases h
 | succ m13=>
  unfold Znw at h
  refine sq<|SR<|Md rfl<|Md rfl<|Ac (Z6f rfl rfl (vt rfl) (vt rfl)) rfl<|Nl<|Cq rfl h (fun h=>?_) (fun h=>?_)
  ·refine sk<|bk<|SR<|Md rfl<|Md rfl<|Ac (Z2s rfl rfl (vt rfl) (vt rfl)) rfl<|Nl<|Cq rfl h (fun h=>?_) (fun h=>?_)
   ·refine sq ?_
    obtain ⟨l14,hl14,h⟩:=Z7 h
    refine Rg<|Mw rfl<|Md rfl<|Md rfl<|Ac (Z0t rfl rfl (vt rfl) (vt rfl)) rfl<|Md rfl<|Md rfl<|Ac (Zq (A:=fn2 Tryz.prog (Z0 .i64) (Z0 .i64) (Z0 .i64) x6) rfl rfl (vt rfl)) rfl<|Cv rfl (Z1c 0 (xs:=[.tmp 24,.tmp 27,.tmp 28,.tmp 29,.tmp 30]) (Zw5 _ _ _ _ _ _ _ hl14) Zu9 rfl rfl ⟨vt rfl,vt rfl,vt rfl,vt rfl,vt rfl,trivial⟩ rfl) fun _u=>Nl<|Rg<|Md rfl<|Md rfl<|Ac (Z0t rfl rfl (vt rfl) (vt rfl)) rfl<|As rfl<|Nl ?_
    exact ⟨(_,_,_,_),Nat.lt_succ_self _,⟨trivial,h⟩,FX rfl⟩
   ·refine sq ?_
    obtain ⟨l15,hl15,h⟩:=Z7 h
    refine Rg<|Mw rfl<|Md rfl<|Md rfl<|Ac (Z0t rfl rfl (vt rfl) (vt rfl)) rfl<|Md rfl<|Md rfl<|Ac (Z05 rfl rfl (vt rfl) (vt rfl)) rfl<|Md rfl<|Ac (Z0t rfl rfl (vt rfl) (vt rfl)) rfl<|Md rfl<|Ac (Zq (A:=fn2 Tryz.prog (Z0 .i64) (Z0 .i64) (Z0 .i64) x6) rfl rfl (vt rfl)) rfl<|Cv rfl (Z1c 0 (xs:=[.tmp 35,.tmp 38,.tmp 43,.tmp 44,.tmp 45]) (Zw5 _ _ _ _ _ _ _ hl15) Zu9 rfl rfl ⟨vt rfl,vt rfl,vt rfl,vt rfl,vt rfl,trivial⟩ rfl) fun _u=>Nl<|Rg<|Md rfl<|Md rfl<|Ac (Z0t rfl rfl (vt rfl) (vt rfl)) rfl<|As rfl<|Nl ?_
    exact ⟨(_,_,_,_),Nat.lt_succ_self _,⟨trivial,h⟩,FX rfl⟩
  ·refine xt ?_
   obtain ⟨l16,hl16,h⟩:=Z7 h
   refine Rg<|Mw rfl<|Md rfl<|Md rfl<|Ac (Z0t rfl rfl (vt rfl) (vt rfl)) rfl<|Md rfl<|Md rfl<|Ac (Zq (A:=fn2 Tryz.prog (Z0 .i64) (Z0 .i64) (Z0 .i64) x6) rfl rfl (vt rfl)) rfl<|Cv rfl (Z1c 0 (xs:=[.tmp 50,.tmp 53,.tmp 54,.tmp 55,.tmp 56]) (Zw5 _ _ _ _ _ _ _ hl16) Zu9 rfl rfl ⟨vt rfl,vt rfl,vt rfl,vt rfl,vt rfl,trivial⟩ rfl) fun _u=>Nl ?_
   cases h;exact Z2e (i:=0) Tryz.results394 rfl rfl
def Zsz (i9:Int):Nat→(List Int)→Int→Option (List Int)
 | 0,_,_=>none
 | m20+1,l18,k19=>(bif (decide (k19<(IntKind.i64.wrap (i9 - 1)))) then (lget l18 (IntKind.i64.wrap (k19+1))).bind fun x21=>(lget l18 k19).bind fun x22=>(lget l18 k19).bind fun x23=>(lget (List.set l18 k19.toNat x21) (IntKind.i64.wrap (k19+1))).bind fun x24=>(Zsz i9 m20) (List.set (List.set l18 k19.toNat x21) (IntKind.i64.wrap (k19+1)).toNat x22) (IntKind.i64.wrap (k19+1)) else some l18)
def Zjz (d1:(List Int))(a3:Int)(x6:(Int→Int→Option Int)):Nat→Int→Int→Option (List Int)
 | 0,_,_=>none
 | m11+1,i9,j10=>(bif (decide (i9<j10)) then (Z43 (BitVec.ofInt 64 (IntKind.i64.wrap (i9+j10))) ((1:BitVec 64).toNat:Int)).bind fun q12=>(lget d1 (IntKind.i64.wrap (q12.toNat:Int))).bind fun x13=>(lget d1 a3).bind fun x14=>(x6 x13 x14).bind fun x15=>(bif (decide (x15<0)) then (Zjz d1 a3 x6 m11) (IntKind.i64.wrap ((IntKind.i64.wrap (q12.toNat:Int))+1)) j10 else (Zjz d1 a3 x6 m11) i9 (IntKind.i64.wrap (q12.toNat:Int))) else Zsz i9 ((((IntKind.i64.wrap (i9 - 1)):Int) - a3).toNat+1) d1 a3)
def Zrb (i27:Int):Nat→(List Int)→Int→Option (List Int)
 | 0,_,_=>none
 | m38+1,l36,k37=>(bif (decide (k37>i27)) then (lget l36 (IntKind.i64.wrap (k37 - 1))).bind fun x39=>(lget l36 k37).bind fun x40=>(lget l36 k37).bind fun x41=>(lget (List.set l36 k37.toNat x39) (IntKind.i64.wrap (k37 - 1))).bind fun x42=>(Zrb i27 m38) (List.set (List.set l36 k37.toNat x39) (IntKind.i64.wrap (k37 - 1)).toNat x40) (IntKind.i64.wrap (k37 - 1)) else some l36)
def Zmn (d1:(List Int))(m4:Int)(x6:(Int→Int→Option Int)):Nat→Int→Int→Option (List Int)
 | 0,_,_=>none
 | m29+1,i27,j28=>(bif (decide (i27<j28)) then (Z43 (BitVec.ofInt 64 (IntKind.i64.wrap (i27+j28))) ((1:BitVec 64).toNat:Int)).bind fun q30=>(lget d1 m4).bind fun x31=>(lget d1 (IntKind.i64.wrap (q30.toNat:Int))).bind fun x32=>(x6 x31 x32).bind fun x33=>(bif (!(decide (x33<0))) then (Zmn d1 m4 x6 m29) (IntKind.i64.wrap ((IntKind.i64.wrap (q30.toNat:Int))+1)) j28 else (Zmn d1 m4 x6 m29) i27 (IntKind.i64.wrap (q30.toNat:Int))) else Zrb i27 (((m4:Int) - i27).toNat+1) d1 m4)
def Zqy (q43:(BitVec 64))(m4:Int)(s48:Int)(b5:Int)(R_slices_symMergeCmpFunc_int:((List Int)→Int→Int→Int→(Int→Int→Option Int)→Option (List Int)))(x6:(Int→Int→Option Int))(l56:(List Int)):Option (List Int):=
 (bif ((decide ((IntKind.i64.wrap (q43.toNat:Int))<(IntKind.i64.wrap ((IntKind.i64.wrap ((IntKind.i64.wrap (q43.toNat:Int))+m4)) - s48))))&&(decide ((IntKind.i64.wrap ((IntKind.i64.wrap ((IntKind.i64.wrap (q43.toNat:Int))+m4)) - s48))<b5))) then (R_slices_symMergeCmpFunc_int l56 (IntKind.i64.wrap (q43.toNat:Int)) (IntKind.i64.wrap ((IntKind.i64.wrap ((IntKind.i64.wrap (q43.toNat:Int))+m4)) - s48)) b5 x6).bind fun l57=>some l57 else some l56)
def Zs3 (a3:Int)(s48:Int)(q43:(BitVec 64))(R_slices_symMergeCmpFunc_int:((List Int)→Int→Int→Int→(Int→Int→Option Int)→Option (List Int)))(x6:(Int→Int→Option Int))(m4:Int)(b5:Int)(l55:(List Int)):Option (List Int):=
 (bif ((decide (a3<s48))&&(decide (s48<(IntKind.i64.wrap (q43.toNat:Int))))) then (R_slices_symMergeCmpFunc_int l55 a3 s48 (IntKind.i64.wrap (q43.toNat:Int)) x6).bind fun l58=>Zqy q43 m4 s48 b5 R_slices_symMergeCmpFunc_int x6 l58 else Zqy q43 m4 s48 b5 R_slices_symMergeCmpFunc_int x6 l55)
def Zn8 (d1:(List Int))(q43:(BitVec 64))(m4:Int)(x6:(Int→Int→Option Int))(a3:Int)(R_slices_symMergeCmpFunc_int:((List Int)→Int→Int→Int→(Int→Int→Option Int)→Option (List Int)))(b5:Int):Nat→Int→Int→Option (List Int)
 | 0,_,_=>none
 | m50+1,s48,x49=>(bif (decide (s48<x49)) then (Z43 (BitVec.ofInt 64 (IntKind.i64.wrap (s48+x49))) ((1:BitVec 64).toNat:Int)).bind fun q51=>(lget d1 (IntKind.i64.wrap ((IntKind.i64.wrap ((IntKind.i64.wrap ((IntKind.i64.wrap (q43.toNat:Int))+m4)) - 1)) - (IntKind.i64.wrap (q51.toNat:Int))))).bind fun x52=>(lget d1 (IntKind.i64.wrap (q51.toNat:Int))).bind fun x53=>(x6 x52 x53).bind fun x54=>(bif (!(decide (x54<0))) then (Zn8 d1 q43 m4 x6 a3 R_slices_symMergeCmpFunc_int b5 m50) (IntKind.i64.wrap ((IntKind.i64.wrap (q51.toNat:Int))+1)) x49 else (Zn8 d1 q43 m4 x6 a3 R_slices_symMergeCmpFunc_int b5 m50) s48 (IntKind.i64.wrap (q51.toNat:Int))) else (bif ((decide (s48<m4))&&(decide (m4<(IntKind.i64.wrap ((IntKind.i64.wrap ((IntKind.i64.wrap (q43.toNat:Int))+m4)) - s48))))) then (Zvc d1 s48 m4 (IntKind.i64.wrap ((IntKind.i64.wrap ((IntKind.i64.wrap (q43.toNat:Int))+m4)) - s48)) x6).bind fun l59=>Zs3 a3 s48 q43 R_slices_symMergeCmpFunc_int x6 m4 b5 l59 else Zs3 a3 s48 q43 R_slices_symMergeCmpFunc_int x6 m4 b5 d1))
def Zso (d1:(List Int))(q43:(BitVec 64))(m4:Int)(x6:(Int→Int→Option Int))(a3:Int)(R_slices_symMergeCmpFunc_int:((List Int)→Int→Int→Int→(Int→Int→Option Int)→Option (List Int)))(b5:Int)(s44:Int)(x45:Int):Option (List Int):=
 Zn8 d1 q43 m4 x6 a3 R_slices_symMergeCmpFunc_int b5 (((x45:Int) - s44).toNat+1) s44 x45
def Ztd (R_slices_symMergeCmpFunc_int:((List Int)→Int→Int→Int→(Int→Int→Option Int)→Option (List Int)))(d1:(List Int))(a3:Int)(m4:Int)(b5:Int)(x6:(Int→Int→Option Int)):Option (List Int):=
 (bif (decide ((IntKind.i64.wrap (m4 - a3))=1)) then Zjz d1 a3 x6 (((b5:Int) - m4).toNat+1) m4 b5 else (bif (decide ((IntKind.i64.wrap (b5 - m4))=1)) then Zmn d1 m4 x6 (((m4:Int) - a3).toNat+1) a3 m4 else (Z43 (BitVec.ofInt 64 (IntKind.i64.wrap (a3+b5))) ((1:BitVec 64).toNat:Int)).bind fun q43=>(bif (decide (m4>(IntKind.i64.wrap (q43.toNat:Int)))) then Zso d1 q43 m4 x6 a3 R_slices_symMergeCmpFunc_int b5 (IntKind.i64.wrap ((IntKind.i64.wrap ((IntKind.i64.wrap (q43.toNat:Int))+m4)) - b5)) (IntKind.i64.wrap (q43.toNat:Int)) else Zso d1 q43 m4 x6 a3 R_slices_symMergeCmpFunc_int b5 a3 m4)))
theorem Yu6 (R_slices_symMergeCmpFunc_int:((List Int)→Int→Int→Int→(Int→Int→Option Int)→Option (List Int)))(hR_slices_symMergeCmpFunc_int:∀(v2:Value) (d1:(List Int)) (a3:Int) (m4:Int) (b5:Int) (x6:(Int→Int→Option Int)) (r:(List Int)),R_slices_symMergeCmpFunc_int d1 a3 m4 b5 x6=some r→Con Tryz.prog 381 [Zc v2,rd (Z0 .i64) a3,rd (Z0 .i64) m4,rd (Z0 .i64) b5,fn2 Tryz.prog (Z0 .i64) (Z0 .i64) (Z0 .i64) x6] (Zg v2 3 (Z0 .i64) d1) (fun _:Unit=>top) (fun _=>Zg v2 3 (Z0 .i64) r))(v2:Value)(d1:(List Int))(a3:Int)(m4:Int)(b5:Int)(x6:(Int→Int→Option Int))(r:(List Int))(h:Ztd R_slices_symMergeCmpFunc_int d1 a3 m4 b5 x6=some r):Con Tryz.prog 381 [Zc v2,rd (Z0 .i64) a3,rd (Z0 .i64) m4,rd (Z0 .i64) b5,fn2 Tryz.prog (Z0 .i64) (Z0 .i64) (Z0 .i64) x6] (Zg v2 3 (Z0 .i64) d1) (fun _:Unit=>top) (fun _=>Zg v2 3 (Z0 .i64) r):=by
 refine Con.intro Tryz.func381 rfl Tryz.ntmps381 rfl fun w H X Z=>?_
 unfold Ztd at h
 refine sq<|SR<|Md rfl<|Md rfl<|Ac (Z0t rfl rfl (vt rfl) (vt rfl)) rfl<|Ac (Z0m rfl rfl (vt rfl) (vk rfl)) rfl<|Nl<|Cq rfl h (fun h=>?_) (fun h=>?_)
 ·refine SR<|Md rfl<|As rfl<|Nl<|SR<|Md rfl<|As rfl<|Nl<|sq<|bk<|LG (d:=[]) (ν:=Nat×Int×Int) (fun (m11,i9,j10)=>(True∧Zjz d1 a3 x6 m11 i9 j10=some r,m11,[(0,Zc v2),(1,rd (Z0 .i64) a3),(4,fn2 Tryz.prog (Z0 .i64) (Z0 .i64) (Z0 .i64) x6),(10,rd (Z0 .i64) i9),(11,rd (Z0 .i64) j10)],[(0,Zg v2 3 (Z0 .i64) d1)])) ((((b5:Int) - m4).toNat+1),m4,b5) ⟨trivial,h⟩ (FX rfl) ?_
  rintro ⟨m11,i9,j10⟩ ⟨hsf1,h⟩
  dsimp only at h ⊢
  cases m11 with
  | zero=>cases h
  | succ m11=>
   unfold Zjz at h
   refine sq<|SR<|Md rfl<|Md rfl<|Ac (Zj rfl rfl (vt rfl) (vt rfl)) rfl<|Nl<|Cq rfl h (fun h=>?_) (fun h=>?_)
   ·refine sk<|bk<|sq ?_
    obtain ⟨q12,hq12,h⟩:=Z7 h
    refine Rg<|Md rfl<|Md rfl<|Ac (Z05 rfl rfl (vt rfl) (vt rfl)) rfl<|Ac (Z9n rfl rfl us3 Z96 (vt rfl)) rfl<|Ac (Z70 rfl rfl (vt rfl) (Z5s (vku (1:BitVec 64) rfl)) hq12) rfl<|Ac (Za8 rfl rfl Zbk un3 (vt rfl)) rfl<|As rfl<|Nl<|sq ?_
    obtain ⟨x13,hx13,x14,hx14,x15,hx15,h⟩:=bs3 h
    refine AR Z00 (by kernel_rfl)<|Sd (lo [4] [] rfl fun S hs hr=>Zq (A:=fn2 Tryz.prog (Z0 .i64) (Z0 .i64) (Z0 .i64) x6) rfl rfl (vh hs 4 rfl rfl))<|SMw rfl<|Zt rfl<|Sd (lo [41,42] [0] rfl fun S hs hr=>Z23 0 rfl rfl Z15 (vh hs 41 rfl rfl) ((hr 0 rfl).trans rfl) (vh hs 42 rfl rfl) hx13)<|Sd (lo [43] [0] rfl fun S hs hr=>Z1r 0 rfl rfl Zo (vh hs 43 rfl rfl) ((hr 0 rfl).trans rfl) (Z0n hx13).2)<|SMw rfl<|Zt rfl<|Sd (lo [45,46] [0] rfl fun S hs hr=>Z23 0 rfl rfl Z15 (vh hs 45 rfl rfl) ((hr 0 rfl).trans rfl) (vh hs 46 rfl rfl) hx14)<|Sd (lo [47] [0] rfl fun S hs hr=>Z1r 0 rfl rfl Zo (vh hs 47 rfl rfl) ((hr 0 rfl).trans rfl) (Z0n hx14).2)<|Sd (lo [40,44,48] [] rfl fun S hs hr=>Zd2 hx15 rfl rfl (vh hs 40 rfl rfl) (vh hs 44 rfl rfl) (vh hs 48 rfl rfl))<|Sd (lo [49] [] rfl fun S hs hr=>Zj rfl rfl (vh hs 49 rfl rfl) (vk rfl))<|Sn<|Cq rfl h (fun h=>?_) (fun h=>?_)
    ·refine Rg<|Md rfl<|Ac (Z05 rfl rfl (vt rfl) (vk rfl)) rfl<|As rfl<|Nl ?_
     exact ⟨(_,_,_),Nat.lt_succ_self _,⟨trivial,h⟩,FX rfl⟩
    ·refine Rg<|Md rfl<|As rfl<|Nl ?_
     exact ⟨(_,_,_),Nat.lt_succ_self _,⟨trivial,h⟩,FX rfl⟩
   ·refine xt<|sq<|SR<|Md rfl<|As rfl<|Nl<|bk<|LG (d:=[]) (ν:=Nat×(List Int)×Int) (fun (m20,l18,k19)=>(True∧Zsz i9 m20 l18 k19=some r,m20,[(0,Zc v2),(10,rd (Z0 .i64) i9),(13,rd (Z0 .i64) k19)],[(0,Zg v2 3 (Z0 .i64) l18)])) (((((IntKind.i64.wrap (i9 - 1)):Int) - a3).toNat+1),d1,a3) ⟨trivial,h⟩ (FX rfl) ?_
    rintro ⟨m20,l18,k19⟩ ⟨hsf2,h⟩
    dsimp only at h ⊢
    cases m20 with
    | zero=>cases h
    | succ m20=>
     unfold Zsz at h
     refine sq<|SR<|Md rfl<|Md rfl<|Ac (Z0t rfl rfl (vt rfl) (vk rfl)) rfl<|Ac (Zj rfl rfl (vt rfl) (vt rfl)) rfl<|Nl<|Cq rfl h (fun h=>?_) (fun h=>?_)
     ·refine sk<|sq<|bk<|AW.vlen 0 rfl fun hvl0_205=>?_
      obtain ⟨x21,hx21,x22,hx22,x23,hx23,x24,hx24,h⟩:=bs4 h
      refine AR Z00 (by kernel_rfl)<|SMw rfl<|Zt rfl<|SMw rfl<|Zt rfl<|Sd (lo [64] [] rfl fun S hs hr=>Z05 rfl rfl (vh hs 64 rfl rfl) (vk rfl))<|SMw rfl<|Zt rfl<|Sd (lo [67] [] rfl fun S hs hr=>Z05 rfl rfl (vh hs 67 rfl rfl) (vk rfl))<|Sd (lo [66,68] [] rfl fun S hs hr=>Z2k (l:=l18) hvl0_205 rfl rfl rfl Z15 (vh hs 66 rfl rfl) (vh hs 68 rfl rfl) hx21)<|Sd (lo [69] [0] rfl fun S hs hr=>Z1r 0 rfl rfl Zo (vh hs 69 rfl rfl) ((hr 0 rfl).trans rfl) (Z0n hx21).2)<|SMw rfl<|Zt rfl<|Sd (lo [71,72] [] rfl fun S hs hr=>Z2k (l:=l18) hvl0_205 rfl rfl rfl Z15 (vh hs 71 rfl rfl) (vh hs 72 rfl rfl) hx22)<|Sd (lo [73] [0] rfl fun S hs hr=>Z1r 0 rfl rfl Zo (vh hs 73 rfl rfl) ((hr 0 rfl).trans rfl) (Z0n hx22).2)<|Sd (lo [61,62] [] rfl fun S hs hr=>Z2k (l:=l18) hvl0_205 rfl rfl rfl Z15 (vh hs 61 rfl rfl) (vh hs 62 rfl rfl) hx23)<|Sd (Z4q [75,70] [0] rfl fun S hs hr=>Z30 0 rfl rfl Zo (vh hs 75 rfl rfl) ((hr 0 rfl).trans rfl) (Z0n hx23).2 (vh hs 70 rfl rfl))<|Sd (lo [63,65] [] rfl fun S hs hr=>Z2k (l:=(List.set l18 k19.toNat x21)) hvl0_205 (by simp) rfl rfl Z15 (vh hs 63 rfl rfl) (vh hs 65 rfl rfl) hx24)<|Sd (Z4q [76,74] [0] rfl fun S hs hr=>Z30 0 rfl rfl Zo (vh hs 76 rfl rfl) ((hr 0 rfl).trans rfl) (Z0n hx24).2 (vh hs 74 rfl rfl))<|Sn<|Rg<|Md rfl<|Ac (Z05 rfl rfl (vt rfl) (vk rfl)) rfl<|As rfl<|Nl ?_
      exact ⟨(_,_,_),Nat.lt_succ_self _,⟨trivial,h⟩,FX rfl⟩
     ·refine xt<|rt ?_
      cases h;exact Z2e (i:=0) Tryz.results381 rfl rfl
 ·refine sk<|sq<|SR<|Md rfl<|Md rfl<|Ac (Z0t rfl rfl (vt rfl) (vt rfl)) rfl<|Ac (Z0m rfl rfl (vt rfl) (vk rfl)) rfl<|Nl<|Cq rfl h (fun h=>?_) (fun h=>?_)
  ·refine SR<|Md rfl<|As rfl<|Nl<|SR<|Md rfl<|As rfl<|Nl<|sq<|bk<|LG (d:=[]) (ν:=Nat×Int×Int) (fun (m29,i27,j28)=>(True∧Zmn d1 m4 x6 m29 i27 j28=some r,m29,[(0,Zc v2),(2,rd (Z0 .i64) m4),(4,fn2 Tryz.prog (Z0 .i64) (Z0 .i64) (Z0 .i64) x6),(14,rd (Z0 .i64) i27),(15,rd (Z0 .i64) j28)],[(0,Zg v2 3 (Z0 .i64) d1)])) ((((m4:Int) - a3).toNat+1),a3,m4) ⟨trivial,h⟩ (FX rfl) ?_
   rintro ⟨m29,i27,j28⟩ ⟨hsf3,h⟩
   dsimp only at h ⊢
   cases m29 with
   | zero=>cases h
   | succ m29=>
    unfold Zmn at h
    refine sq<|SR<|Md rfl<|Md rfl<|Ac (Zj rfl rfl (vt rfl) (vt rfl)) rfl<|Nl<|Cq rfl h (fun h=>?_) (fun h=>?_)
    ·refine sk<|bk<|sq ?_
     obtain ⟨q30,hq30,h⟩:=Z7 h
     refine Rg<|Md rfl<|Md rfl<|Ac (Z05 rfl rfl (vt rfl) (vt rfl)) rfl<|Ac (Z9n rfl rfl us3 Z96 (vt rfl)) rfl<|Ac (Z70 rfl rfl (vt rfl) (Z5s (vku (1:BitVec 64) rfl)) hq30) rfl<|Ac (Za8 rfl rfl Zbk un3 (vt rfl)) rfl<|As rfl<|Nl<|sq ?_
     obtain ⟨x31,hx31,x32,hx32,x33,hx33,h⟩:=bs3 h
     refine AR Z00 (by kernel_rfl)<|Sd (lo [4] [] rfl fun S hs hr=>Zq (A:=fn2 Tryz.prog (Z0 .i64) (Z0 .i64) (Z0 .i64) x6) rfl rfl (vh hs 4 rfl rfl))<|SMw rfl<|Zt rfl<|Sd (lo [93,94] [0] rfl fun S hs hr=>Z23 0 rfl rfl Z15 (vh hs 93 rfl rfl) ((hr 0 rfl).trans rfl) (vh hs 94 rfl rfl) hx31)<|Sd (lo [95] [0] rfl fun S hs hr=>Z1r 0 rfl rfl Zo (vh hs 95 rfl rfl) ((hr 0 rfl).trans rfl) (Z0n hx31).2)<|SMw rfl<|Zt rfl<|Sd (lo [97,98] [0] rfl fun S hs hr=>Z23 0 rfl rfl Z15 (vh hs 97 rfl rfl) ((hr 0 rfl).trans rfl) (vh hs 98 rfl rfl) hx32)<|Sd (lo [99] [0] rfl fun S hs hr=>Z1r 0 rfl rfl Zo (vh hs 99 rfl rfl) ((hr 0 rfl).trans rfl) (Z0n hx32).2)<|Sd (lo [92,96,100] [] rfl fun S hs hr=>Zd2 hx33 rfl rfl (vh hs 92 rfl rfl) (vh hs 96 rfl rfl) (vh hs 100 rfl rfl))<|Sd (lo [101] [] rfl fun S hs hr=>Zj rfl rfl (vh hs 101 rfl rfl) (vk rfl))<|Sd (lo [102] [] rfl fun S hs hr=>Z0z rfl rfl (vh hs 102 rfl rfl))<|Sn<|Cq rfl h (fun h=>?_) (fun h=>?_)
     ·refine Rg<|Md rfl<|Ac (Z05 rfl rfl (vt rfl) (vk rfl)) rfl<|As rfl<|Nl ?_
      exact ⟨(_,_,_),Nat.lt_succ_self _,⟨trivial,h⟩,FX rfl⟩
     ·refine Rg<|Md rfl<|As rfl<|Nl ?_
      exact ⟨(_,_,_),Nat.lt_succ_self _,⟨trivial,h⟩,FX rfl⟩
    ·refine xt<|sq<|SR<|Md rfl<|As rfl<|Nl<|bk<|LG (d:=[]) (ν:=Nat×(List Int)×Int) (fun (m38,l36,k37)=>(True∧Zrb i27 m38 l36 k37=some r,m38,[(0,Zc v2),(14,rd (Z0 .i64) i27),(17,rd (Z0 .i64) k37)],[(0,Zg v2 3 (Z0 .i64) l36)])) ((((m4:Int) - i27).toNat+1),d1,m4) ⟨trivial,h⟩ (FX rfl) ?_
     rintro ⟨m38,l36,k37⟩ ⟨hsf4,h⟩
     dsimp only at h ⊢
     cases m38 with
     | zero=>cases h
     | succ m38=>
      unfold Zrb at h
      refine sq<|SR<|Md rfl<|Md rfl<|Ac (Z2s rfl rfl (vt rfl) (vt rfl)) rfl<|Nl<|Cq rfl h (fun h=>?_) (fun h=>?_)
      ·refine sk<|sq<|bk<|AW.vlen 0 rfl fun hvl0_446=>?_
       obtain ⟨x39,hx39,x40,hx40,x41,hx41,x42,hx42,h⟩:=bs4 h
       refine AR Z00 (by kernel_rfl)<|SMw rfl<|Zt rfl<|SMw rfl<|Zt rfl<|Sd (lo [116] [] rfl fun S hs hr=>Z0t rfl rfl (vh hs 116 rfl rfl) (vk rfl))<|SMw rfl<|Zt rfl<|Sd (lo [119] [] rfl fun S hs hr=>Z0t rfl rfl (vh hs 119 rfl rfl) (vk rfl))<|Sd (lo [118,120] [] rfl fun S hs hr=>Z2k (l:=l36) hvl0_446 rfl rfl rfl Z15 (vh hs 118 rfl rfl) (vh hs 120 rfl rfl) hx39)<|Sd (lo [121] [0] rfl fun S hs hr=>Z1r 0 rfl rfl Zo (vh hs 121 rfl rfl) ((hr 0 rfl).trans rfl) (Z0n hx39).2)<|SMw rfl<|Zt rfl<|Sd (lo [123,124] [] rfl fun S hs hr=>Z2k (l:=l36) hvl0_446 rfl rfl rfl Z15 (vh hs 123 rfl rfl) (vh hs 124 rfl rfl) hx40)<|Sd (lo [125] [0] rfl fun S hs hr=>Z1r 0 rfl rfl Zo (vh hs 125 rfl rfl) ((hr 0 rfl).trans rfl) (Z0n hx40).2)<|Sd (lo [113,114] [] rfl fun S hs hr=>Z2k (l:=l36) hvl0_446 rfl rfl rfl Z15 (vh hs 113 rfl rfl) (vh hs 114 rfl rfl) hx41)<|Sd (Z4q [127,122] [0] rfl fun S hs hr=>Z30 0 rfl rfl Zo (vh hs 127 rfl rfl) ((hr 0 rfl).trans rfl) (Z0n hx41).2 (vh hs 122 rfl rfl))<|Sd (lo [115,117] [] rfl fun S hs hr=>Z2k (l:=(List.set l36 k37.toNat x39)) hvl0_446 (by simp) rfl rfl Z15 (vh hs 115 rfl rfl) (vh hs 117 rfl rfl) hx42)<|Sd (Z4q [128,126] [0] rfl fun S hs hr=>Z30 0 rfl rfl Zo (vh hs 128 rfl rfl) ((hr 0 rfl).trans rfl) (Z0n hx42).2 (vh hs 126 rfl rfl))<|Sn<|Rg<|Md rfl<|Ac (Z0t rfl rfl (vt rfl) (vk rfl)) rfl<|As rfl<|Nl ?_
       exact ⟨(_,_,_),Nat.lt_succ_self _,⟨trivial,h⟩,FX rfl⟩
      ·refine xt<|rt ?_
       cases h;exact Z2e (i:=0) Tryz.results381 rfl rfl
  ·refine sk<|sq ?_
   obtain ⟨q43,hq43,h⟩:=Z7 h
   refine Rg<|Md rfl<|Md rfl<|Ac (Z05 rfl rfl (vt rfl) (vt rfl)) rfl<|Ac (Z9n rfl rfl us3 Z96 (vt rfl)) rfl<|Ac (Z70 rfl rfl (vt rfl) (Z5s (vku (1:BitVec 64) rfl)) hq43) rfl<|Ac (Za8 rfl rfl Zbk un3 (vt rfl)) rfl<|As rfl<|Nl<|SR<|Md rfl<|Md rfl<|Ac (Z05 rfl rfl (vt rfl) (vt rfl)) rfl<|As rfl<|Nl<|SR<|Ak rfl<|Ak rfl<|Nl ?_
   refine JN (d:=[]) (ν:=Int×Int) (fun (s44,x45)=>(Zso d1 q43 m4 x6 a3 R_slices_symMergeCmpFunc_int b5 s44 x45=some r,[(0,Zc v2),(1,rd (Z0 .i64) a3),(2,rd (Z0 .i64) m4),(3,rd (Z0 .i64) b5),(4,fn2 Tryz.prog (Z0 .i64) (Z0 .i64) (Z0 .i64) x6),(18,rd (Z0 .i64) (IntKind.i64.wrap (q43.toNat:Int))),(19,rd (Z0 .i64) (IntKind.i64.wrap ((IntKind.i64.wrap (q43.toNat:Int))+m4))),(20,rd (Z0 .i64) s44),(21,rd (Z0 .i64) x45)],[(0,Zg v2 3 (Z0 .i64) d1)])) ?hx5 ?hy5
   case hy5=>
    rintro ⟨s44,x45⟩ h
    dsimp only at h ⊢
    unfold Zso at h
    refine SR<|Md rfl<|Ac (Z0t rfl rfl (vt rfl) (vk rfl)) rfl<|As rfl<|Nl<|sq<|bk<|LG (d:=[]) (ν:=Nat×Int×Int) (fun (m50,s48,x49)=>(True∧Zn8 d1 q43 m4 x6 a3 R_slices_symMergeCmpFunc_int b5 m50 s48 x49=some r,m50,[(0,Zc v2),(1,rd (Z0 .i64) a3),(2,rd (Z0 .i64) m4),(3,rd (Z0 .i64) b5),(4,fn2 Tryz.prog (Z0 .i64) (Z0 .i64) (Z0 .i64) x6),(18,rd (Z0 .i64) (IntKind.i64.wrap (q43.toNat:Int))),(19,rd (Z0 .i64) (IntKind.i64.wrap ((IntKind.i64.wrap (q43.toNat:Int))+m4))),(20,rd (Z0 .i64) s48),(21,rd (Z0 .i64) x49),(22,rd (Z0 .i64) (IntKind.i64.wrap ((IntKind.i64.wrap ((IntKind.i64.wrap (q43.toNat:Int))+m4)) - 1)))],[(0,Zg v2 3 (Z0 .i64) d1)])) ((((x45:Int) - s44).toNat+1),s44,x45) ⟨trivial,h⟩ (FX rfl) ?_
    rintro ⟨m50,s48,x49⟩ ⟨hsf6,h⟩
    dsimp only at h ⊢
    cases m50 with
    | zero=>cases h
    | succ m50=>
     unfold Zn8 at h
     refine sq<|SR<|Md rfl<|Md rfl<|Ac (Zj rfl rfl (vt rfl) (vt rfl)) rfl<|Nl<|Cq rfl h (fun h=>?_) (fun h=>?_)
     ·refine sk<|bk<|sq ?_
      obtain ⟨q51,hq51,h⟩:=Z7 h
      refine Rg<|Md rfl<|Md rfl<|Ac (Z05 rfl rfl (vt rfl) (vt rfl)) rfl<|Ac (Z9n rfl rfl us3 Z96 (vt rfl)) rfl<|Ac (Z70 rfl rfl (vt rfl) (Z5s (vku (1:BitVec 64) rfl)) hq51) rfl<|Ac (Za8 rfl rfl Zbk un3 (vt rfl)) rfl<|As rfl<|Nl<|sq ?_
      obtain ⟨x52,hx52,x53,hx53,x54,hx54,h⟩:=bs3 h
      refine AR Z00 (by kernel_rfl)<|Sd (lo [4] [] rfl fun S hs hr=>Zq (A:=fn2 Tryz.prog (Z0 .i64) (Z0 .i64) (Z0 .i64) x6) rfl rfl (vh hs 4 rfl rfl))<|SMw rfl<|Zt rfl<|Zt rfl<|Sd (lo [160,161] [] rfl fun S hs hr=>Z0t rfl rfl (vh hs 160 rfl rfl) (vh hs 161 rfl rfl))<|Sd (lo [159,162] [0] rfl fun S hs hr=>Z23 0 rfl rfl Z15 (vh hs 159 rfl rfl) ((hr 0 rfl).trans rfl) (vh hs 162 rfl rfl) hx52)<|Sd (lo [163] [0] rfl fun S hs hr=>Z1r 0 rfl rfl Zo (vh hs 163 rfl rfl) ((hr 0 rfl).trans rfl) (Z0n hx52).2)<|SMw rfl<|Zt rfl<|Sd (lo [165,166] [0] rfl fun S hs hr=>Z23 0 rfl rfl Z15 (vh hs 165 rfl rfl) ((hr 0 rfl).trans rfl) (vh hs 166 rfl rfl) hx53)<|Sd (lo [167] [0] rfl fun S hs hr=>Z1r 0 rfl rfl Zo (vh hs 167 rfl rfl) ((hr 0 rfl).trans rfl) (Z0n hx53).2)<|Sd (lo [158,164,168] [] rfl fun S hs hr=>Zd2 hx54 rfl rfl (vh hs 158 rfl rfl) (vh hs 164 rfl rfl) (vh hs 168 rfl rfl))<|Sd (lo [169] [] rfl fun S hs hr=>Zj rfl rfl (vh hs 169 rfl rfl) (vk rfl))<|Sd (lo [170] [] rfl fun S hs hr=>Z0z rfl rfl (vh hs 170 rfl rfl))<|Sn<|Cq rfl h (fun h=>?_) (fun h=>?_)
      ·refine Rg<|Md rfl<|Ac (Z05 rfl rfl (vt rfl) (vk rfl)) rfl<|As rfl<|Nl ?_
       exact ⟨(_,_,_),Nat.lt_succ_self _,⟨trivial,h⟩,FX rfl⟩
      ·refine Rg<|Md rfl<|As rfl<|Nl ?_
       exact ⟨(_,_,_),Nat.lt_succ_self _,⟨trivial,h⟩,FX rfl⟩
     ·refine xt<|SR<|Md rfl<|Md rfl<|Ac (Z0t rfl rfl (vt rfl) (vt rfl)) rfl<|As rfl<|Nl ?_
      refine JN (d:=[]) (ν:=(List Int)) (fun l55=>(Zs3 a3 s48 q43 R_slices_symMergeCmpFunc_int x6 m4 b5 l55=some r,[(0,Zc v2),(1,rd (Z0 .i64) a3),(3,rd (Z0 .i64) b5),(4,fn2 Tryz.prog (Z0 .i64) (Z0 .i64) (Z0 .i64) x6),(18,rd (Z0 .i64) (IntKind.i64.wrap (q43.toNat:Int))),(20,rd (Z0 .i64) s48),(24,rd (Z0 .i64) (IntKind.i64.wrap ((IntKind.i64.wrap ((IntKind.i64.wrap (q43.toNat:Int))+m4)) - s48)))],[(0,Zg v2 3 (Z0 .i64) l55)])) ?hx7 ?hy7
      case hy7=>
       intro l55 h
       dsimp only at h ⊢
       unfold Zs3 at h
       refine JN (d:=[]) (ν:=(List Int)) (fun l56=>(Zqy q43 m4 s48 b5 R_slices_symMergeCmpFunc_int x6 l56=some r,[(0,Zc v2),(3,rd (Z0 .i64) b5),(4,fn2 Tryz.prog (Z0 .i64) (Z0 .i64) (Z0 .i64) x6),(18,rd (Z0 .i64) (IntKind.i64.wrap (q43.toNat:Int))),(24,rd (Z0 .i64) (IntKind.i64.wrap ((IntKind.i64.wrap ((IntKind.i64.wrap (q43.toNat:Int))+m4)) - s48)))],[(0,Zg v2 3 (Z0 .i64) l56)])) ?hx8 ?hy8
       case hy8=>
        intro l56 h
        dsimp only at h ⊢
        unfold Zqy at h
        refine SR<|Md rfl<|Md rfl<|Ac (Zj rfl rfl (vt rfl) (vt rfl)) rfl<|Md rfl<|Gd rfl (fun hq=>Zq (A:=rd (Z0 .i64) (IntKind.i64.wrap ((IntKind.i64.wrap ((IntKind.i64.wrap (q43.toNat:Int))+m4)) - s48))) rfl rfl (vt rfl))<|Gd rfl (fun hq=>Zq (A:=rd (Z0 .i64) b5) rfl rfl (vt rfl))<|Gd rfl (fun hq=>Zj rfl rfl (Zi rfl hq) (Zi rfl hq))<|Ac (Z1m rfl rfl (vt rfl) (vt rfl)) rfl<|Nl<|Cq rfl h (fun h=>?_) (fun h=>?_)
        ·obtain ⟨l57,hl57,h⟩:=Z7 h
         refine Rg<|Mw rfl<|Md rfl<|Md rfl<|Md rfl<|Ac (Zq (A:=fn2 Tryz.prog (Z0 .i64) (Z0 .i64) (Z0 .i64) x6) rfl rfl (vt rfl)) rfl<|Cv rfl (Z1c 0 (xs:=[.tmp 214,.tmp 215,.tmp 216,.tmp 217,.tmp 218]) (hR_slices_symMergeCmpFunc_int _ _ _ _ _ _ _ hl57) Zq5 rfl rfl ⟨vt rfl,vt rfl,vt rfl,vt rfl,vt rfl,trivial⟩ rfl) fun _u=>Nl ?_
         cases h;exact Z2e (i:=0) Tryz.results381 rfl rfl
        ·refine sk ?_
         cases h;exact Z2e (i:=0) Tryz.results381 rfl rfl
       case hx8=>
        refine SR<|Md rfl<|Md rfl<|Ac (Zj rfl rfl (vt rfl) (vt rfl)) rfl<|Md rfl<|Gd rfl (fun hq=>Zq (A:=rd (Z0 .i64) s48) rfl rfl (vt rfl))<|Gd rfl (fun hq=>Zq (A:=rd (Z0 .i64) (IntKind.i64.wrap (q43.toNat:Int))) rfl rfl (vt rfl))<|Gd rfl (fun hq=>Zj rfl rfl (Zi rfl hq) (Zi rfl hq))<|Ac (Z1m rfl rfl (vt rfl) (vt rfl)) rfl<|Nl<|Cq rfl h (fun h=>?_) (fun h=>?_)
        ·obtain ⟨l58,hl58,h⟩:=Z7 h
         refine Rg<|Mw rfl<|Md rfl<|Md rfl<|Md rfl<|Ac (Zq (A:=fn2 Tryz.prog (Z0 .i64) (Z0 .i64) (Z0 .i64) x6) rfl rfl (vt rfl)) rfl<|Cv rfl (Z1c 0 (xs:=[.tmp 200,.tmp 201,.tmp 202,.tmp 203,.tmp 204]) (hR_slices_symMergeCmpFunc_int _ _ _ _ _ _ _ hl58) Zq5 rfl rfl ⟨vt rfl,vt rfl,vt rfl,vt rfl,vt rfl,trivial⟩ rfl) fun _u=>Nl ?_
         exact ⟨_,h,FX rfl⟩
        ·refine sk ?_
         exact ⟨_,h,FX rfl⟩
      case hx7=>
       refine SR<|Md rfl<|Md rfl<|Ac (Zj rfl rfl (vt rfl) (vt rfl)) rfl<|Md rfl<|Gd rfl (fun hq=>Zq (A:=rd (Z0 .i64) m4) rfl rfl (vt rfl))<|Gd rfl (fun hq=>Zq (A:=rd (Z0 .i64) (IntKind.i64.wrap ((IntKind.i64.wrap ((IntKind.i64.wrap (q43.toNat:Int))+m4)) - s48))) rfl rfl (vt rfl))<|Gd rfl (fun hq=>Zj rfl rfl (Zi rfl hq) (Zi rfl hq))<|Ac (Z1m rfl rfl (vt rfl) (vt rfl)) rfl<|Nl<|Cq rfl h (fun h=>?_) (fun h=>?_)
       ·obtain ⟨l59,hl59,h⟩:=Z7 h
        refine Rg<|Mw rfl<|Md rfl<|Md rfl<|Md rfl<|Ac (Zq (A:=fn2 Tryz.prog (Z0 .i64) (Z0 .i64) (Z0 .i64) x6) rfl rfl (vt rfl)) rfl<|Cv rfl (Z1c 0 (xs:=[.tmp 186,.tmp 187,.tmp 188,.tmp 189,.tmp 190]) (Ytl _ _ _ _ _ _ _ hl59) Yqu rfl rfl ⟨vt rfl,vt rfl,vt rfl,vt rfl,vt rfl,trivial⟩ rfl) fun _u=>Nl ?_
        exact ⟨_,h,FX rfl⟩
       ·refine sk ?_
        exact ⟨_,h,FX rfl⟩
   case hx5=>
    refine SR<|Md rfl<|Md rfl<|Ac (Z2s rfl rfl (vt rfl) (vt rfl)) rfl<|Nl<|Cq rfl h (fun h=>?_) (fun h=>?_)
    ·refine SR<|Md rfl<|Md rfl<|Ac (Z0t rfl rfl (vt rfl) (vt rfl)) rfl<|As rfl<|Nl<|Rg<|Md rfl<|As rfl<|Nl ?_
     exact ⟨(_,_),h,FX rfl⟩
    ·refine SR<|Md rfl<|As rfl<|Nl<|Rg<|Md rfl<|As rfl<|Nl ?_
     exact ⟨(_,_),h,FX rfl⟩
def Zr5:Nat→((List Int)→Int→Int→Int→(Int→Int→Option Int)→Option (List Int))
 | 0=>(fun _ _ _ _ _=>none)
 | n+1=>(Ztd (Zr5 n))
theorem Y1z:∀n:Nat,(∀(v2:Value) (d1:(List Int)) (a3:Int) (m4:Int) (b5:Int) (x6:(Int→Int→Option Int)) (r:(List Int)),(Zr5 n) d1 a3 m4 b5 x6=some r→Con Tryz.prog 381 [Zc v2,rd (Z0 .i64) a3,rd (Z0 .i64) m4,rd (Z0 .i64) b5,fn2 Tryz.prog (Z0 .i64) (Z0 .i64) (Z0 .i64) x6] (Zg v2 3 (Z0 .i64) d1) (fun _:Unit=>top) (fun _=>Zg v2 3 (Z0 .i64) r))
 | 0=>(by intros;rename_i h;cases h)
 | n+1=>by
  have ih:=Y1z n
  exact (Yu6 (Zr5 n) ih)
def Zyy (d1:(List Int))(a3:Int)(m4:Int)(b5:Int)(x6:(Int→Int→Option Int)):Option (List Int):=(Zr5 Z0v) d1 a3 m4 b5 x6
theorem Y8n:∀(v2:Value) (d1:(List Int)) (a3:Int) (m4:Int) (b5:Int) (x6:(Int→Int→Option Int)) (r:(List Int)),Zyy d1 a3 m4 b5 x6=some r→Con Tryz.prog 381 [Zc v2,rd (Z0 .i64) a3,rd (Z0 .i64) m4,rd (Z0 .i64) b5,fn2 Tryz.prog (Z0 .i64) (Z0 .i64) (Z0 .i64) x6] (Zg v2 3 (Z0 .i64) d1) (fun _:Unit=>top) (fun _=>Zg v2 3 (Z0 .i64) r):=Y1z Z0v
def Zsi (n3:Int)(b17:Int)(x4:(Int→Int→Option Int))(go2:(List Int)→Int→Option (List Int)):Nat→(List Int)→Int→Int→Option (List Int)
 | 0,_,_,_=>none
 | m25+1,l22,a23,b24=>(bif (decide (b24≤n3)) then (Zyy l22 a23 (IntKind.i64.wrap (a23+b17)) b24 x4).bind fun l26=>(Zsi n3 b17 x4 go2 m25) l26 b24 (IntKind.i64.wrap (b24+(IntKind.i64.wrap (2*b17)))) else (bif (decide ((IntKind.i64.wrap (a23+b17))<n3)) then (Zyy l22 a23 (IntKind.i64.wrap (a23+b17)) n3 x4).bind fun l27=>go2 l27 (IntKind.i64.wrap (b17*2)) else go2 l22 (IntKind.i64.wrap (b17*2))))
def Zjj (n3:Int)(x4:(Int→Int→Option Int)):Nat→(List Int)→Int→Option (List Int)
 | 0,_,_=>none
 | m18+1,l16,b17=>(bif (decide (b17<n3)) then Zsi n3 b17 x4 (Zjj n3 x4 m18) (((n3:Int) - (IntKind.i64.wrap (2*b17))).toNat+2) l16 0 (IntKind.i64.wrap (2*b17)) else some l16)
def Zo6 (n3:Int)(x4:(Int→Int→Option Int)):Nat→(List Int)→Int→Int→Option (List Int)
 | 0,_,_,_=>none
 | m11+1,l8,a9,b10=>(bif (decide (b10≤n3)) then (Zi3 l8 a9 b10 x4).bind fun l12=>(Zo6 n3 x4 m11) l12 b10 (IntKind.i64.wrap (b10+20)) else (Zi3 l8 a9 n3 x4).bind fun l13=>Zjj n3 x4 (((n3:Int) - 20).toNat+1) l13 20)
def Zqb (d1:(List Int))(n3:Int)(x4:(Int→Int→Option Int)):Option (List Int):=
 Zo6 n3 x4 (((n3:Int) - 20).toNat+2) d1 0 20
theorem Ynm (v2:Value)(d1:(List Int))(n3:Int)(x4:(Int→Int→Option Int))(r:(List Int))(h:Zqb d1 n3 x4=some r):Con Tryz.prog 353 [Zc v2,rd (Z0 .i64) n3,fn2 Tryz.prog (Z0 .i64) (Z0 .i64) (Z0 .i64) x4] (Zg v2 3 (Z0 .i64) d1) (fun _:Unit=>top) (fun _=>Zg v2 3 (Z0 .i64) r):=by
 refine Con.intro Tryz.func353 rfl Tryz.ntmps353 rfl fun w H X Z=>?_
 unfold Zqb at h
 refine SR<|Ak rfl<|Nl<|SR<|Md rfl<|Ak rfl<|As rfl<|Nl<|sq<|bk<|LG (d:=[]) (ν:=Nat×(List Int)×Int×Int) (fun (m11,l8,a9,b10)=>(True∧Zo6 n3 x4 m11 l8 a9 b10=some r,m11,[(0,Zc v2),(1,rd (Z0 .i64) n3),(2,fn2 Tryz.prog (Z0 .i64) (Z0 .i64) (Z0 .i64) x4),(6,rd (Z0 .i64) 20),(7,rd (Z0 .i64) a9),(8,rd (Z0 .i64) b10)],[(0,Zg v2 3 (Z0 .i64) l8)])) ((((n3:Int) - 20).toNat+2),d1,0,20) ⟨trivial,h⟩ (FX rfl) ?_
 rintro ⟨m11,l8,a9,b10⟩ ⟨hsf1,h⟩
 dsimp only at h ⊢
 cases m11 with
 | zero=>cases h
 | succ m11=>
  unfold Zo6 at h
  refine sq<|SR<|Md rfl<|Md rfl<|Ac (Z68 rfl rfl (vt rfl) (vt rfl)) rfl<|Nl<|Cq rfl h (fun h=>?_) (fun h=>?_)
  ·refine sk<|bk<|sq ?_
   obtain ⟨l12,hl12,h⟩:=Z7 h
   refine Rg<|Mw rfl<|Md rfl<|Md rfl<|Ac (Zq (A:=fn2 Tryz.prog (Z0 .i64) (Z0 .i64) (Z0 .i64) x4) rfl rfl (vt rfl)) rfl<|Cv rfl (Z1c 0 (xs:=[.tmp 14,.tmp 15,.tmp 16,.tmp 17]) (Y70 _ _ _ _ _ _ hl12) Zzy rfl rfl ⟨vt rfl,vt rfl,vt rfl,vt rfl,trivial⟩ rfl) fun _u=>Nl<|SR<|Md rfl<|As rfl<|Nl<|Rg<|Md rfl<|Md rfl<|Ac (Z05 rfl rfl (vt rfl) (vt rfl)) rfl<|As rfl<|Nl ?_
   exact ⟨(_,_,_,_),Nat.lt_succ_self _,⟨trivial,h⟩,FX rfl⟩
  ·refine xt<|sq ?_
   obtain ⟨l13,hl13,h⟩:=Z7 h
   refine Rg<|Mw rfl<|Md rfl<|Md rfl<|Ac (Zq (A:=fn2 Tryz.prog (Z0 .i64) (Z0 .i64) (Z0 .i64) x4) rfl rfl (vt rfl)) rfl<|Cv rfl (Z1c 0 (xs:=[.tmp 23,.tmp 24,.tmp 25,.tmp 26]) (Y70 _ _ _ _ _ _ hl13) Zzy rfl rfl ⟨vt rfl,vt rfl,vt rfl,vt rfl,trivial⟩ rfl) fun _u=>Nl<|bk<|LG (d:=[]) (ν:=Nat×(List Int)×Int) (fun (m18,l16,b17)=>(True∧Zjj n3 x4 m18 l16 b17=some r,m18,[(0,Zc v2),(1,rd (Z0 .i64) n3),(2,fn2 Tryz.prog (Z0 .i64) (Z0 .i64) (Z0 .i64) x4),(6,rd (Z0 .i64) b17)],[(0,Zg v2 3 (Z0 .i64) l16)])) ((((n3:Int) - 20).toNat+1),l13,20) ⟨trivial,h⟩ (FX rfl) ?_
   rintro ⟨m18,l16,b17⟩ ⟨hsf2,h⟩
   dsimp only at h ⊢
   cases m18 with
   | zero=>cases h
   | succ m18=>
    unfold Zjj at h
    refine sq<|SR<|Md rfl<|Md rfl<|Ac (Zj rfl rfl (vt rfl) (vt rfl)) rfl<|Nl<|Cq rfl h (fun h=>?_) (fun h=>?_)
    ·refine sk<|bk<|SR<|Md rfl<|Ac (Z8g rfl rfl (vk rfl) (vt rfl)) rfl<|Ak rfl<|As rfl<|Nl<|sq<|bk<|LG (d:=[]) (ν:=Nat×(List Int)×Int×Int) (fun (m25,l22,a23,b24)=>(True∧Zsi n3 b17 x4 (Zjj n3 x4 m18) m25 l22 a23 b24=some r,m25,[(0,Zc v2),(1,rd (Z0 .i64) n3),(2,fn2 Tryz.prog (Z0 .i64) (Z0 .i64) (Z0 .i64) x4),(6,rd (Z0 .i64) b17),(7,rd (Z0 .i64) a23),(8,rd (Z0 .i64) b24)],[(0,Zg v2 3 (Z0 .i64) l22)])) ((((n3:Int) - (IntKind.i64.wrap (2*b17))).toNat+2),l16,0,(IntKind.i64.wrap (2*b17))) ⟨trivial,h⟩ (FX rfl) ?_
     rintro ⟨m25,l22,a23,b24⟩ ⟨hsf3,h⟩
     dsimp only at h ⊢
     cases m25 with
     | zero=>cases h
     | succ m25=>
      unfold Zsi at h
      refine sq<|SR<|Md rfl<|Md rfl<|Ac (Z68 rfl rfl (vt rfl) (vt rfl)) rfl<|Nl<|Cq rfl h (fun h=>?_) (fun h=>?_)
      ·refine sk<|bk<|sq ?_
       obtain ⟨l26,hl26,h⟩:=Z7 h
       refine Rg<|Mw rfl<|Md rfl<|Md rfl<|Md rfl<|Ac (Z05 rfl rfl (vt rfl) (vt rfl)) rfl<|Md rfl<|Ac (Zq (A:=fn2 Tryz.prog (Z0 .i64) (Z0 .i64) (Z0 .i64) x4) rfl rfl (vt rfl)) rfl<|Cv rfl (Z1c 0 (xs:=[.tmp 36,.tmp 37,.tmp 40,.tmp 41,.tmp 42]) (Y8n _ _ _ _ _ _ _ hl26) Zq5 rfl rfl ⟨vt rfl,vt rfl,vt rfl,vt rfl,vt rfl,trivial⟩ rfl) fun _u=>Nl<|SR<|Md rfl<|As rfl<|Nl<|Rg<|Md rfl<|Md rfl<|Ac (Z8g rfl rfl (vk rfl) (vt rfl)) rfl<|Ac (Z05 rfl rfl (vt rfl) (vt rfl)) rfl<|As rfl<|Nl ?_
       exact ⟨(_,_,_,_),Nat.lt_succ_self _,⟨trivial,h⟩,FX rfl⟩
      ·refine xt<|sq<|SR<|Md rfl<|Md rfl<|Ac (Z05 rfl rfl (vt rfl) (vt rfl)) rfl<|As rfl<|Nl<|SR<|Md rfl<|Md rfl<|Ac (Zj rfl rfl (vt rfl) (vt rfl)) rfl<|Nl<|Cq rfl h (fun h=>?_) (fun h=>?_)
       ·obtain ⟨l27,hl27,h⟩:=Z7 h
        refine Rg<|Mw rfl<|Md rfl<|Md rfl<|Md rfl<|Ac (Zq (A:=fn2 Tryz.prog (Z0 .i64) (Z0 .i64) (Z0 .i64) x4) rfl rfl (vt rfl)) rfl<|Cv rfl (Z1c 0 (xs:=[.tmp 55,.tmp 56,.tmp 57,.tmp 58,.tmp 59]) (Y8n _ _ _ _ _ _ _ hl27) Zq5 rfl rfl ⟨vt rfl,vt rfl,vt rfl,vt rfl,vt rfl,trivial⟩ rfl) fun _u=>Nl<|Rg<|Md rfl<|Ac (Z8g rfl rfl (vt rfl) (vk rfl)) rfl<|As rfl<|Nl ?_
        exact ⟨(_,_,_),Nat.lt_succ_self _,⟨trivial,h⟩,FX rfl⟩
       ·refine sk<|Rg<|Md rfl<|Ac (Z8g rfl rfl (vt rfl) (vk rfl)) rfl<|As rfl<|Nl ?_
        exact ⟨(_,_,_),Nat.lt_succ_self _,⟨trivial,h⟩,FX rfl⟩
    ·refine xt ?_
     cases h;exact Z2e (i:=0) Tryz.results353 rfl rfl
def Znk (x1:(List Int))(x3:(Int→Int→Option Int)):Option (List Int):=
 (Zqb x1 (x1.length:Int) x3).bind fun l4=>some l4
theorem Yk2 (v2:Value)(x1:(List Int))(x3:(Int→Int→Option Int))(r:(List Int))(h:Znk x1 x3=some r):Con Tryz.prog 307 [Zc v2,fn2 Tryz.prog (Z0 .i64) (Z0 .i64) (Z0 .i64) x3] (Zg v2 3 (Z0 .i64) x1) (fun _:Unit=>top) (fun _=>Zg v2 3 (Z0 .i64) r):=by
 refine Con.intro Tryz.func307 rfl Tryz.ntmps307 rfl fun w H X Z=>?_
 unfold Znk at h
 obtain ⟨l4,hl4,h⟩:=Z7 h
 refine Rg<|Mw rfl<|Mw rfl<|Ac (Z51 0 rfl rfl Z15 (vt rfl) rfl) rfl<|Ac (Zq (A:=fn2 Tryz.prog (Z0 .i64) (Z0 .i64) (Z0 .i64) x3) rfl rfl (vt rfl)) rfl<|Cv rfl (Z1c 0 (xs:=[.tmp 4,.tmp 6,.tmp 7]) (Ynm _ _ _ _ _ hl4) Ydt rfl rfl ⟨vt rfl,vt rfl,vt rfl,trivial⟩ rfl) fun _u=>Nl ?_
 cases h;exact Z2e (i:=0) Tryz.results307 rfl rfl
end Go.Proofs.YtinplddjjalohaaGreatDoor.W
set_option maxHeartbeats 1000000
set_option maxRecDepth 4000
namespace Go.Proofs.YtinplddjjalohaaGreatDoor.W
open Go Go.Wb
theorem Yp5:Ent Tryz.prog 308:=Ent.mk Tryz.func308 rfl rfl
theorem Ywk:Ent Tryz.prog 307:=Ent.mk Tryz.func307 rfl rfl
theorem Zq3:Ent Tryz.prog 237:=Ent.mk Tryz.func237 rfl rfl
theorem Yr4:Ent Tryz.prog 369:=Ent.mk Tryz.func369 rfl rfl
theorem Ylf:Ent Tryz.prog 334:=Ent.mk Tryz.func334 rfl rfl
theorem Y64:Ent Tryz.prog 385:=Ent.mk Tryz.func385 rfl rfl
theorem Ynr:Ent Tryz.prog 368:=Ent.mk Tryz.func368 rfl rfl
theorem Zwc:Ent Tryz.prog 357:=Ent.mk Tryz.func357 rfl rfl
theorem Y9m:Ent Tryz.prog 226:=Ent.mk Tryz.func226 rfl rfl
theorem Y8v:Ent Tryz.prog 339:=Ent.mk Tryz.func339 rfl rfl
def Zbq (t1:(List Flow)):Nat→Nat→(List Int)→Option (List Int)
 | 0,i9,l7=>(Znk l7 (fun x z=>Zie x z t1)).bind fun l11=>some l11
 | m10+1,i9,l7=>(Z0y l7 [(i9:Int)]).bind fun l12=>(Zbq t1 m10) (i9+1) l12
def Zho (t1:(List Flow)):Option (List Int):=
 (omk (t1.length:Int)).bind fun u3=>Zbq t1 ((t1.length:Int):Int).toNat 0 []
theorem Ybt:Q1 Tryz.prog 228 (rd (Z1 Z08)) (rd (Z1 (Z0 .i64))) Zho:=fun t1 r h=>I0 Tryz.func228 rfl Tryz.ntmps228 rfl fun w H Z=>by
 unfold Zho at h
 refine SR<|Cv rfl (Zs 2 rfl rfl (vt rfl)) fun g2=>Ac (Zv (A:=rd (Z1 (Z0 .i64)) []) rfl rfl Z1j) rfl<|Nl<|sq ?_
 obtain ⟨u3,hu3,h⟩:=Z7 h
 refine Rg<|Ld Z46 2 rfl<|Ac (Z0i rfl rfl Z2q (vt rfl)) rfl<|Cv rfl (Yyd 1001 hu3 rfl rfl Zik zr3 (vt rfl)) fun v4=>Aw rfl<|Nl<|sq<|SR<|Ld Z46 2 rfl<|Ac (Z0i rfl rfl Z2q (vt rfl)) rfl<|Mk rfl<|Nl<|bk<|LG (d:=[]) (ν:=Nat×Nat×(List Int)×Value) (fun (m10,i9,l7,v8)=>(Cnt (t1.length:Int) i9 m10∧Zbq t1 m10 i9 l7=some r,m10,[(1,Zb g2 (Lens.id (Z1 Z08))),(3,Zc v8),(9,rd (Z0 .i64) (t1.length:Int)),(10,rd (Z0 .i64) (i9:Int))],[(2,Zh g2 22 (Z1 Z08) t1),(1001,Zg v8 3 (Z0 .i64) l7)])) (((t1.length:Int):Int).toNat,0,[],v4) ⟨Cnt.start _,h⟩ (FX rfl) ?_
 rintro ⟨m10,i9,l7,v8⟩ ⟨hsf1,h⟩
 dsimp only at hsf1 h ⊢
 cases m10 with
 | zero=>
  unfold Zbq at h
  refine SR<|Ac (Zj rfl rfl (vt rfl) (vt rfl)) rfl<|Nl<|sq<|Cn rfl (fun hc=>absurd (of_decide_eq_true hc) hsf1.zero) (fun hc=>?_)
  refine xt<|sq<|AW.freezeB 1 2 rfl rfl rfl ?_
  obtain ⟨l11,hl11,h⟩:=Z7 h
  refine Rg<|Mw rfl<|Ac (Ymw (cs:=[.tmp 1]) (CAs:=[rp (Z1 Z08) t1]) (fun x z=>Zie x z t1) rfl rfl Yp5 ⟨vt rfl,trivial⟩ (fun x z y h=>Yu2 _ _ _ y h)) rfl<|Cv rfl (Z1c 1001 (xs:=[.tmp 18,.tmp 19]) (Yk2 _ _ _ _ hl11) Ywk rfl rfl ⟨vt rfl,vt rfl,trivial⟩ rfl) fun _u=>Nl<|SR<|Mw rfl<|Aw rfl<|Nl<|AW.freezes [2,3,18,21] 1001 rfl ⟨rfl,rfl,rfl,rfl,trivial⟩ rfl<|rt ?_
  cases h;exact Zd Tryz.results228 rfl (Z5 rfl)
 | succ m10=>
  unfold Zbq at h
  refine SR<|Ac (Zj rfl rfl (vt rfl) (vt rfl)) rfl<|Nl<|sq<|Cn rfl (fun hc=>?_) (fun hc=>absurd hsf1.succ (of_decide_eq_false hc))
  have hlti9:=of_decide_eq_true hc
  refine sk<|sq<|bk<|SR<|Md rfl<|As rfl<|Nl ?_
  obtain ⟨l12,hl12,h⟩:=Z7 h
  refine Rg<|Mw rfl<|Md rfl<|Ac (osl Z15 zr3 rfl (vt rfl)) rfl<|Cv rfl (Z2f 1001 hl12 rfl rfl Zik (vt rfl) rfl (vt rfl)) fun v13=>Aw rfl<|Nl<|Rg<|Ac (Z13 (t:=9) rfl rfl (vt rfl) (vk rfl) (vt rfl) hlti9) rfl<|Md rfl<|Nl ?_
  exact ⟨(_,_,_,_),Nat.lt_succ_self _,⟨hsf1.next,h⟩,FX rfl⟩
def Z9v (x1:Int):Option Bool:=
 some ((decide (x1≥0))&&(decide (x1<24)))
theorem Zqv:Q1 Tryz.prog 237 (rd (Z0 .i64)) (rd Z6) Z9v:=fun x1 r h=>I0 Tryz.func237 rfl Tryz.ntmps237 rfl fun w H Z=>by
 unfold Z9v at h
 refine SR<|Ab rfl<|Nl<|SR<|Md rfl<|Ac (Z45 rfl rfl (vt rfl) (vk rfl)) rfl<|Md rfl<|Gd rfl (fun hq=>Zq (A:=rd (Z0 .i64) x1) rfl rfl (vt rfl))<|Gd rfl (fun hq=>Zj rfl rfl (Zi rfl hq) (vk rfl))<|Ac (Z1m rfl rfl (vt rfl) (vt rfl)) rfl<|As rfl<|Nl<|rt ?_
 cases h;exact Zd Tryz.results237 rfl (Z5 rfl)
def Zma:Option Yis:=
 some (Vector.set (Vector.set (Vector.set (Vector.set (Vector.set (Vector.set (Vector.set (Vector.set (Vector.set (Vector.set (Vector.set (Vector.set (Vector.set (Vector.set (Vector.set (Vector.set (Vector.set (Vector.set (Vector.set (Vector.set (Vector.set (Vector.set (Vector.set (Vector.set (Vector.replicate 24 Zkg) 0 (⟨{data:= #[105,110,95,112,111,114,116]},0,32,false⟩:field_row) (by decide)) 1 (⟨{data:= #[109,101,116,97,100,97,116,97]},2,64,true⟩:field_row) (by decide)) 2 (⟨{data:= #[101,116,104,95,100,115,116]},3,48,true⟩:field_row) (by decide)) 3 (⟨{data:= #[101,116,104,95,115,114,99]},4,48,true⟩:field_row) (by decide)) 4 (⟨{data:= #[101,116,104,95,116,121,112,101]},5,16,false⟩:field_row) (by decide)) 5 (⟨{data:= #[118,108,97,110,95,118,105,100]},6,13,true⟩:field_row) (by decide)) 6 (⟨{data:= #[118,108,97,110,95,112,99,112]},7,3,false⟩:field_row) (by decide)) 7 (⟨{data:= #[105,112,95,100,115,99,112]},8,6,false⟩:field_row) (by decide)) 8 (⟨{data:= #[105,112,95,101,99,110]},9,2,false⟩:field_row) (by decide)) 9 (⟨{data:= #[105,112,95,112,114,111,116,111]},10,8,false⟩:field_row) (by decide)) 10 (⟨{data:= #[105,112,118,52,95,115,114,99]},11,32,true⟩:field_row) (by decide)) 11 (⟨{data:= #[105,112,118,52,95,100,115,116]},12,32,true⟩:field_row) (by decide)) 12 (⟨{data:= #[116,99,112,95,115,114,99]},13,16,false⟩:field_row) (by decide)) 13 (⟨{data:= #[116,99,112,95,100,115,116]},14,16,false⟩:field_row) (by decide)) 14 (⟨{data:= #[117,100,112,95,115,114,99]},15,16,false⟩:field_row) (by decide)) 15 (⟨{data:= #[117,100,112,95,100,115,116]},16,16,false⟩:field_row) (by decide)) 16 (⟨{data:= #[105,99,109,112,118,52,95,116,121,112,101]},19,8,false⟩:field_row) (by decide)) 17 (⟨{data:= #[105,99,109,112,118,52,95,99,111,100,101]},20,8,false⟩:field_row) (by decide)) 18 (⟨{data:= #[97,114,112,95,111,112]},21,16,false⟩:field_row) (by decide)) 19 (⟨{data:= #[97,114,112,95,115,112,97]},22,32,true⟩:field_row) (by decide)) 20 (⟨{data:= #[97,114,112,95,116,112,97]},23,32,true⟩:field_row) (by decide)) 21 (⟨{data:= #[105,112,118,54,95,115,114,99]},26,128,true⟩:field_row) (by decide)) 22 (⟨{data:= #[105,112,118,54,95,100,115,116]},27,128,true⟩:field_row) (by decide)) 23 (⟨{data:= #[109,112,108,115,95,108,97,98,101,108]},34,20,false⟩:field_row) (by decide))
theorem Yjl:Q0 Tryz.prog 369 (rd (Z3 24 Z27)) Zma:=fun r h=>I0 Tryz.func369 rfl Tryz.ntmps369 rfl fun w H Z=>by
 unfold Zma at h
 refine SR<|Cv rfl (Zm 1 rfl rfl Y5c) fun g1=>Nl<|SR<|Ac (Z1o (ps:=[(0,.const (Value.string {data:= #[105,110,95,112,111,114,116]})),(1,.const (Value.int IntKind.i64 0)),(2,.const (Value.int IntKind.i64 32)),(3,.const (Value.bool false))]) (x:=(⟨{data:= #[105,110,95,112,111,114,116]},0,32,false⟩:field_row)) rfl rfl rfl (by kernel_rfl) Z38 ⟨_,_,Z3n,_,by kernel_rfl,(vs (by decide)),_,_,lfield_row_1,_,by kernel_rfl,(vk rfl),_,_,Z3a,_,by kernel_rfl,(vk rfl),_,_,Z3i,_,by kernel_rfl,vb,rfl⟩) rfl<|Ac (Z1o (ps:=[(0,.const (Value.string {data:= #[109,101,116,97,100,97,116,97]})),(1,.const (Value.int IntKind.i64 2)),(2,.const (Value.int IntKind.i64 64)),(3,.const (Value.bool true))]) (x:=(⟨{data:= #[109,101,116,97,100,97,116,97]},2,64,true⟩:field_row)) rfl rfl rfl (by kernel_rfl) Z38 ⟨_,_,Z3n,_,by kernel_rfl,(vs (by decide)),_,_,lfield_row_1,_,by kernel_rfl,(vk rfl),_,_,Z3a,_,by kernel_rfl,(vk rfl),_,_,Z3i,_,by kernel_rfl,vb,rfl⟩) rfl<|Ac (Z1o (ps:=[(0,.const (Value.string {data:= #[101,116,104,95,100,115,116]})),(1,.const (Value.int IntKind.i64 3)),(2,.const (Value.int IntKind.i64 48)),(3,.const (Value.bool true))]) (x:=(⟨{data:= #[101,116,104,95,100,115,116]},3,48,true⟩:field_row)) rfl rfl rfl (by kernel_rfl) Z38 ⟨_,_,Z3n,_,by kernel_rfl,(vs (by decide)),_,_,lfield_row_1,_,by kernel_rfl,(vk rfl),_,_,Z3a,_,by kernel_rfl,(vk rfl),_,_,Z3i,_,by kernel_rfl,vb,rfl⟩) rfl<|Ac (Z1o (ps:=[(0,.const (Value.string {data:= #[101,116,104,95,115,114,99]})),(1,.const (Value.int IntKind.i64 4)),(2,.const (Value.int IntKind.i64 48)),(3,.const (Value.bool true))]) (x:=(⟨{data:= #[101,116,104,95,115,114,99]},4,48,true⟩:field_row)) rfl rfl rfl (by kernel_rfl) Z38 ⟨_,_,Z3n,_,by kernel_rfl,(vs (by decide)),_,_,lfield_row_1,_,by kernel_rfl,(vk rfl),_,_,Z3a,_,by kernel_rfl,(vk rfl),_,_,Z3i,_,by kernel_rfl,vb,rfl⟩) rfl<|Ac (Z1o (ps:=[(0,.const (Value.string {data:= #[101,116,104,95,116,121,112,101]})),(1,.const (Value.int IntKind.i64 5)),(2,.const (Value.int IntKind.i64 16)),(3,.const (Value.bool false))]) (x:=(⟨{data:= #[101,116,104,95,116,121,112,101]},5,16,false⟩:field_row)) rfl rfl rfl (by kernel_rfl) Z38 ⟨_,_,Z3n,_,by kernel_rfl,(vs (by decide)),_,_,lfield_row_1,_,by kernel_rfl,(vk rfl),_,_,Z3a,_,by kernel_rfl,(vk rfl),_,_,Z3i,_,by kernel_rfl,vb,rfl⟩) rfl<|Ac (Z1o (ps:=[(0,.const (Value.string {data:= #[118,108,97,110,95,118,105,100]})),(1,.const (Value.int IntKind.i64 6)),(2,.const (Value.int IntKind.i64 13)),(3,.const (Value.bool true))]) (x:=(⟨{data:= #[118,108,97,110,95,118,105,100]},6,13,true⟩:field_row)) rfl rfl rfl (by kernel_rfl) Z38 ⟨_,_,Z3n,_,by kernel_rfl,(vs (by decide)),_,_,lfield_row_1,_,by kernel_rfl,(vk rfl),_,_,Z3a,_,by kernel_rfl,(vk rfl),_,_,Z3i,_,by kernel_rfl,vb,rfl⟩) rfl ?_
 refine Ac (Z1o (ps:=[(0,.const (Value.string {data:= #[118,108,97,110,95,112,99,112]})),(1,.const (Value.int IntKind.i64 7)),(2,.const (Value.int IntKind.i64 3)),(3,.const (Value.bool false))]) (x:=(⟨{data:= #[118,108,97,110,95,112,99,112]},7,3,false⟩:field_row)) rfl rfl rfl (by kernel_rfl) Z38 ⟨_,_,Z3n,_,by kernel_rfl,(vs (by decide)),_,_,lfield_row_1,_,by kernel_rfl,(vk rfl),_,_,Z3a,_,by kernel_rfl,(vk rfl),_,_,Z3i,_,by kernel_rfl,vb,rfl⟩) rfl<|Ac (Z1o (ps:=[(0,.const (Value.string {data:= #[105,112,95,100,115,99,112]})),(1,.const (Value.int IntKind.i64 8)),(2,.const (Value.int IntKind.i64 6)),(3,.const (Value.bool false))]) (x:=(⟨{data:= #[105,112,95,100,115,99,112]},8,6,false⟩:field_row)) rfl rfl rfl (by kernel_rfl) Z38 ⟨_,_,Z3n,_,by kernel_rfl,(vs (by decide)),_,_,lfield_row_1,_,by kernel_rfl,(vk rfl),_,_,Z3a,_,by kernel_rfl,(vk rfl),_,_,Z3i,_,by kernel_rfl,vb,rfl⟩) rfl<|Ac (Z1o (ps:=[(0,.const (Value.string {data:= #[105,112,95,101,99,110]})),(1,.const (Value.int IntKind.i64 9)),(2,.const (Value.int IntKind.i64 2)),(3,.const (Value.bool false))]) (x:=(⟨{data:= #[105,112,95,101,99,110]},9,2,false⟩:field_row)) rfl rfl rfl (by kernel_rfl) Z38 ⟨_,_,Z3n,_,by kernel_rfl,(vs (by decide)),_,_,lfield_row_1,_,by kernel_rfl,(vk rfl),_,_,Z3a,_,by kernel_rfl,(vk rfl),_,_,Z3i,_,by kernel_rfl,vb,rfl⟩) rfl<|Ac (Z1o (ps:=[(0,.const (Value.string {data:= #[105,112,95,112,114,111,116,111]})),(1,.const (Value.int IntKind.i64 10)),(2,.const (Value.int IntKind.i64 8)),(3,.const (Value.bool false))]) (x:=(⟨{data:= #[105,112,95,112,114,111,116,111]},10,8,false⟩:field_row)) rfl rfl rfl (by kernel_rfl) Z38 ⟨_,_,Z3n,_,by kernel_rfl,(vs (by decide)),_,_,lfield_row_1,_,by kernel_rfl,(vk rfl),_,_,Z3a,_,by kernel_rfl,(vk rfl),_,_,Z3i,_,by kernel_rfl,vb,rfl⟩) rfl<|Ac (Z1o (ps:=[(0,.const (Value.string {data:= #[105,112,118,52,95,115,114,99]})),(1,.const (Value.int IntKind.i64 11)),(2,.const (Value.int IntKind.i64 32)),(3,.const (Value.bool true))]) (x:=(⟨{data:= #[105,112,118,52,95,115,114,99]},11,32,true⟩:field_row)) rfl rfl rfl (by kernel_rfl) Z38 ⟨_,_,Z3n,_,by kernel_rfl,(vs (by decide)),_,_,lfield_row_1,_,by kernel_rfl,(vk rfl),_,_,Z3a,_,by kernel_rfl,(vk rfl),_,_,Z3i,_,by kernel_rfl,vb,rfl⟩) rfl<|Ac (Z1o (ps:=[(0,.const (Value.string {data:= #[105,112,118,52,95,100,115,116]})),(1,.const (Value.int IntKind.i64 12)),(2,.const (Value.int IntKind.i64 32)),(3,.const (Value.bool true))]) (x:=(⟨{data:= #[105,112,118,52,95,100,115,116]},12,32,true⟩:field_row)) rfl rfl rfl (by kernel_rfl) Z38 ⟨_,_,Z3n,_,by kernel_rfl,(vs (by decide)),_,_,lfield_row_1,_,by kernel_rfl,(vk rfl),_,_,Z3a,_,by kernel_rfl,(vk rfl),_,_,Z3i,_,by kernel_rfl,vb,rfl⟩) rfl ?_
 refine Ac (Z1o (ps:=[(0,.const (Value.string {data:= #[116,99,112,95,115,114,99]})),(1,.const (Value.int IntKind.i64 13)),(2,.const (Value.int IntKind.i64 16)),(3,.const (Value.bool false))]) (x:=(⟨{data:= #[116,99,112,95,115,114,99]},13,16,false⟩:field_row)) rfl rfl rfl (by kernel_rfl) Z38 ⟨_,_,Z3n,_,by kernel_rfl,(vs (by decide)),_,_,lfield_row_1,_,by kernel_rfl,(vk rfl),_,_,Z3a,_,by kernel_rfl,(vk rfl),_,_,Z3i,_,by kernel_rfl,vb,rfl⟩) rfl<|Ac (Z1o (ps:=[(0,.const (Value.string {data:= #[116,99,112,95,100,115,116]})),(1,.const (Value.int IntKind.i64 14)),(2,.const (Value.int IntKind.i64 16)),(3,.const (Value.bool false))]) (x:=(⟨{data:= #[116,99,112,95,100,115,116]},14,16,false⟩:field_row)) rfl rfl rfl (by kernel_rfl) Z38 ⟨_,_,Z3n,_,by kernel_rfl,(vs (by decide)),_,_,lfield_row_1,_,by kernel_rfl,(vk rfl),_,_,Z3a,_,by kernel_rfl,(vk rfl),_,_,Z3i,_,by kernel_rfl,vb,rfl⟩) rfl<|Ac (Z1o (ps:=[(0,.const (Value.string {data:= #[117,100,112,95,115,114,99]})),(1,.const (Value.int IntKind.i64 15)),(2,.const (Value.int IntKind.i64 16)),(3,.const (Value.bool false))]) (x:=(⟨{data:= #[117,100,112,95,115,114,99]},15,16,false⟩:field_row)) rfl rfl rfl (by kernel_rfl) Z38 ⟨_,_,Z3n,_,by kernel_rfl,(vs (by decide)),_,_,lfield_row_1,_,by kernel_rfl,(vk rfl),_,_,Z3a,_,by kernel_rfl,(vk rfl),_,_,Z3i,_,by kernel_rfl,vb,rfl⟩) rfl<|Ac (Z1o (ps:=[(0,.const (Value.string {data:= #[117,100,112,95,100,115,116]})),(1,.const (Value.int IntKind.i64 16)),(2,.const (Value.int IntKind.i64 16)),(3,.const (Value.bool false))]) (x:=(⟨{data:= #[117,100,112,95,100,115,116]},16,16,false⟩:field_row)) rfl rfl rfl (by kernel_rfl) Z38 ⟨_,_,Z3n,_,by kernel_rfl,(vs (by decide)),_,_,lfield_row_1,_,by kernel_rfl,(vk rfl),_,_,Z3a,_,by kernel_rfl,(vk rfl),_,_,Z3i,_,by kernel_rfl,vb,rfl⟩) rfl<|Ac (Z1o (ps:=[(0,.const (Value.string {data:= #[105,99,109,112,118,52,95,116,121,112,101]})),(1,.const (Value.int IntKind.i64 19)),(2,.const (Value.int IntKind.i64 8)),(3,.const (Value.bool false))]) (x:=(⟨{data:= #[105,99,109,112,118,52,95,116,121,112,101]},19,8,false⟩:field_row)) rfl rfl rfl (by kernel_rfl) Z38 ⟨_,_,Z3n,_,by kernel_rfl,(vs (by decide)),_,_,lfield_row_1,_,by kernel_rfl,(vk rfl),_,_,Z3a,_,by kernel_rfl,(vk rfl),_,_,Z3i,_,by kernel_rfl,vb,rfl⟩) rfl<|Ac (Z1o (ps:=[(0,.const (Value.string {data:= #[105,99,109,112,118,52,95,99,111,100,101]})),(1,.const (Value.int IntKind.i64 20)),(2,.const (Value.int IntKind.i64 8)),(3,.const (Value.bool false))]) (x:=(⟨{data:= #[105,99,109,112,118,52,95,99,111,100,101]},20,8,false⟩:field_row)) rfl rfl rfl (by kernel_rfl) Z38 ⟨_,_,Z3n,_,by kernel_rfl,(vs (by decide)),_,_,lfield_row_1,_,by kernel_rfl,(vk rfl),_,_,Z3a,_,by kernel_rfl,(vk rfl),_,_,Z3i,_,by kernel_rfl,vb,rfl⟩) rfl ?_
 refine Ac (Z1o (ps:=[(0,.const (Value.string {data:= #[97,114,112,95,111,112]})),(1,.const (Value.int IntKind.i64 21)),(2,.const (Value.int IntKind.i64 16)),(3,.const (Value.bool false))]) (x:=(⟨{data:= #[97,114,112,95,111,112]},21,16,false⟩:field_row)) rfl rfl rfl (by kernel_rfl) Z38 ⟨_,_,Z3n,_,by kernel_rfl,(vs (by decide)),_,_,lfield_row_1,_,by kernel_rfl,(vk rfl),_,_,Z3a,_,by kernel_rfl,(vk rfl),_,_,Z3i,_,by kernel_rfl,vb,rfl⟩) rfl<|Ac (Z1o (ps:=[(0,.const (Value.string {data:= #[97,114,112,95,115,112,97]})),(1,.const (Value.int IntKind.i64 22)),(2,.const (Value.int IntKind.i64 32)),(3,.const (Value.bool true))]) (x:=(⟨{data:= #[97,114,112,95,115,112,97]},22,32,true⟩:field_row)) rfl rfl rfl (by kernel_rfl) Z38 ⟨_,_,Z3n,_,by kernel_rfl,(vs (by decide)),_,_,lfield_row_1,_,by kernel_rfl,(vk rfl),_,_,Z3a,_,by kernel_rfl,(vk rfl),_,_,Z3i,_,by kernel_rfl,vb,rfl⟩) rfl<|Ac (Z1o (ps:=[(0,.const (Value.string {data:= #[97,114,112,95,116,112,97]})),(1,.const (Value.int IntKind.i64 23)),(2,.const (Value.int IntKind.i64 32)),(3,.const (Value.bool true))]) (x:=(⟨{data:= #[97,114,112,95,116,112,97]},23,32,true⟩:field_row)) rfl rfl rfl (by kernel_rfl) Z38 ⟨_,_,Z3n,_,by kernel_rfl,(vs (by decide)),_,_,lfield_row_1,_,by kernel_rfl,(vk rfl),_,_,Z3a,_,by kernel_rfl,(vk rfl),_,_,Z3i,_,by kernel_rfl,vb,rfl⟩) rfl<|Ac (Z1o (ps:=[(0,.const (Value.string {data:= #[105,112,118,54,95,115,114,99]})),(1,.const (Value.int IntKind.i64 26)),(2,.const (Value.int IntKind.i64 128)),(3,.const (Value.bool true))]) (x:=(⟨{data:= #[105,112,118,54,95,115,114,99]},26,128,true⟩:field_row)) rfl rfl rfl (by kernel_rfl) Z38 ⟨_,_,Z3n,_,by kernel_rfl,(vs (by decide)),_,_,lfield_row_1,_,by kernel_rfl,(vk rfl),_,_,Z3a,_,by kernel_rfl,(vk rfl),_,_,Z3i,_,by kernel_rfl,vb,rfl⟩) rfl<|Ac (Z1o (ps:=[(0,.const (Value.string {data:= #[105,112,118,54,95,100,115,116]})),(1,.const (Value.int IntKind.i64 27)),(2,.const (Value.int IntKind.i64 128)),(3,.const (Value.bool true))]) (x:=(⟨{data:= #[105,112,118,54,95,100,115,116]},27,128,true⟩:field_row)) rfl rfl rfl (by kernel_rfl) Z38 ⟨_,_,Z3n,_,by kernel_rfl,(vs (by decide)),_,_,lfield_row_1,_,by kernel_rfl,(vk rfl),_,_,Z3a,_,by kernel_rfl,(vk rfl),_,_,Z3i,_,by kernel_rfl,vb,rfl⟩) rfl<|Ac (Z1o (ps:=[(0,.const (Value.string {data:= #[109,112,108,115,95,108,97,98,101,108]})),(1,.const (Value.int IntKind.i64 34)),(2,.const (Value.int IntKind.i64 20)),(3,.const (Value.bool false))]) (x:=(⟨{data:= #[109,112,108,115,95,108,97,98,101,108]},34,20,false⟩:field_row)) rfl rfl rfl (by kernel_rfl) Z38 ⟨_,_,Z3n,_,by kernel_rfl,(vs (by decide)),_,_,lfield_row_1,_,by kernel_rfl,(vk rfl),_,_,Z3a,_,by kernel_rfl,(vk rfl),_,_,Z3i,_,by kernel_rfl,vb,rfl⟩) rfl ?_
 refine Ac (Z1o (ps:=[(0,.tmp 1),(1,.tmp 2),(2,.tmp 3),(3,.tmp 4),(4,.tmp 5),(5,.tmp 6),(6,.tmp 7),(7,.tmp 8),(8,.tmp 9),(9,.tmp 10),(10,.tmp 11),(11,.tmp 12),(12,.tmp 13),(13,.tmp 14),(14,.tmp 15),(15,.tmp 16),(16,.tmp 17),(17,.tmp 18),(18,.tmp 19),(19,.tmp 20),(20,.tmp 21),(21,.tmp 22),(22,.tmp 23),(23,.tmp 24)]) (x:=(Vector.set (Vector.set (Vector.set (Vector.set (Vector.set (Vector.set (Vector.set (Vector.set (Vector.set (Vector.set (Vector.set (Vector.set (Vector.set (Vector.set (Vector.set (Vector.set (Vector.set (Vector.set (Vector.set (Vector.set (Vector.set (Vector.set (Vector.set (Vector.set (Vector.replicate 24 Zkg) 0 (⟨{data:= #[105,110,95,112,111,114,116]},0,32,false⟩:field_row) (by decide)) 1 (⟨{data:= #[109,101,116,97,100,97,116,97]},2,64,true⟩:field_row) (by decide)) 2 (⟨{data:= #[101,116,104,95,100,115,116]},3,48,true⟩:field_row) (by decide)) 3 (⟨{data:= #[101,116,104,95,115,114,99]},4,48,true⟩:field_row) (by decide)) 4 (⟨{data:= #[101,116,104,95,116,121,112,101]},5,16,false⟩:field_row) (by decide)) 5 (⟨{data:= #[118,108,97,110,95,118,105,100]},6,13,true⟩:field_row) (by decide)) 6 (⟨{data:= #[118,108,97,110,95,112,99,112]},7,3,false⟩:field_row) (by decide)) 7 (⟨{data:= #[105,112,95,100,115,99,112]},8,6,false⟩:field_row) (by decide)) 8 (⟨{data:= #[105,112,95,101,99,110]},9,2,false⟩:field_row) (by decide)) 9 (⟨{data:= #[105,112,95,112,114,111,116,111]},10,8,false⟩:field_row) (by decide)) 10 (⟨{data:= #[105,112,118,52,95,115,114,99]},11,32,true⟩:field_row) (by decide)) 11 (⟨{data:= #[105,112,118,52,95,100,115,116]},12,32,true⟩:field_row) (by decide)) 12 (⟨{data:= #[116,99,112,95,115,114,99]},13,16,false⟩:field_row) (by decide)) 13 (⟨{data:= #[116,99,112,95,100,115,116]},14,16,false⟩:field_row) (by decide)) 14 (⟨{data:= #[117,100,112,95,115,114,99]},15,16,false⟩:field_row) (by decide)) 15 (⟨{data:= #[117,100,112,95,100,115,116]},16,16,false⟩:field_row) (by decide)) 16 (⟨{data:= #[105,99,109,112,118,52,95,116,121,112,101]},19,8,false⟩:field_row) (by decide)) 17 (⟨{data:= #[105,99,109,112,118,52,95,99,111,100,101]},20,8,false⟩:field_row) (by decide)) 18 (⟨{data:= #[97,114,112,95,111,112]},21,16,false⟩:field_row) (by decide)) 19 (⟨{data:= #[97,114,112,95,115,112,97]},22,32,true⟩:field_row) (by decide)) 20 (⟨{data:= #[97,114,112,95,116,112,97]},23,32,true⟩:field_row) (by decide)) 21 (⟨{data:= #[105,112,118,54,95,115,114,99]},26,128,true⟩:field_row) (by decide)) 22 (⟨{data:= #[105,112,118,54,95,100,115,116]},27,128,true⟩:field_row) (by decide)) 23 (⟨{data:= #[109,112,108,115,95,108,97,98,101,108]},34,20,false⟩:field_row) (by decide))) rfl rfl rfl (by kernel_rfl) Y5c ⟨_,_,Lens.idx 24 Z27 0 (by decide),_,by kernel_rfl,(vt rfl),_,_,Lens.idx 24 Z27 1 (by decide),_,by kernel_rfl,(vt rfl),_,_,Lens.idx 24 Z27 2 (by decide),_,by kernel_rfl,(vt rfl),_,_,Lens.idx 24 Z27 3 (by decide),_,by kernel_rfl,(vt rfl),_,_,Lens.idx 24 Z27 4 (by decide),_,by kernel_rfl,(vt rfl),_,_,Lens.idx 24 Z27 5 (by decide),_,by kernel_rfl,(vt rfl),_,_,Lens.idx 24 Z27 6 (by decide),_,by kernel_rfl,(vt rfl),_,_,Lens.idx 24 Z27 7 (by decide),_,by kernel_rfl,(vt rfl),_,_,Lens.idx 24 Z27 8 (by decide),_,by kernel_rfl,(vt rfl),_,_,Lens.idx 24 Z27 9 (by decide),_,by kernel_rfl,(vt rfl),_,_,Lens.idx 24 Z27 10 (by decide),_,by kernel_rfl,(vt rfl),_,_,Lens.idx 24 Z27 11 (by decide),_,by kernel_rfl,(vt rfl),_,_,Lens.idx 24 Z27 12 (by decide),_,by kernel_rfl,(vt rfl),_,_,Lens.idx 24 Z27 13 (by decide),_,by kernel_rfl,(vt rfl),_,_,Lens.idx 24 Z27 14 (by decide),_,by kernel_rfl,(vt rfl),_,_,Lens.idx 24 Z27 15 (by decide),_,by kernel_rfl,(vt rfl),_,_,Lens.idx 24 Z27 16 (by decide),_,by kernel_rfl,(vt rfl),_,_,Lens.idx 24 Z27 17 (by decide),_,by kernel_rfl,(vt rfl),_,_,Lens.idx 24 Z27 18 (by decide),_,by kernel_rfl,(vt rfl),_,_,Lens.idx 24 Z27 19 (by decide),_,by kernel_rfl,(vt rfl),_,_,Lens.idx 24 Z27 20 (by decide),_,by kernel_rfl,(vt rfl),_,_,Lens.idx 24 Z27 21 (by decide),_,by kernel_rfl,(vt rfl),_,_,Lens.idx 24 Z27 22 (by decide),_,by kernel_rfl,(vt rfl),_,_,Lens.idx 24 Z27 23 (by decide),_,by kernel_rfl,(vt rfl),rfl⟩) rfl ?_
 refine Zf Y5d 1 rfl<|Nl<|rt ?_
 cases h;exact Zd Tryz.results369 rfl (Zx rfl (i:=1) rfl Y5d)
def Zro (x1:Int):Option field_row:=
 (Z9v x1).bind fun x3=>(bif (!x3) then some (⟨(⟨#[]⟩:ByteArray),(-1),0,false⟩:field_row) else (Zma).bind fun x4=>(lget (Vector.toList x4) x1).bind fun x5=>some x5)
theorem Yfp:Q1 Tryz.prog 334 (rd (Z0 .i64)) (rd Z27) Zro:=fun x1 r h=>I0 Tryz.func334 rfl Tryz.ntmps334 rfl fun w H Z=>by
 unfold Zro at h
 refine SR<|Cv rfl (Zm 3 rfl rfl Z38) fun g2=>Nl<|sq<|sq ?_
 obtain ⟨x3,hx3,h⟩:=Z7 h
 refine Rg<|Md rfl<|Cl [3] (Zqv _ _ hx3) Zq3 rfl<|Ac (Z0z rfl rfl (vt rfl)) rfl<|Nl<|Cq rfl h (fun h=>?_) (fun h=>?_)
 ·refine SR<|Ac (opb (⟨(⟨#[]⟩:ByteArray),(-1),0,false⟩:field_row) Z38 rfl Yxm (pc Ynk (vk rfl)<|pn rfl)) rfl<|Zf Znn 3 rfl<|Nl<|rt ?_
  cases h;exact Zd Tryz.results334 rfl (Zx rfl (i:=3) rfl Znn)
 ·refine sk<|sq ?_
  obtain ⟨x4,hx4,x5,hx5,h⟩:=bs2 h
  refine Rg<|Cl [] (Yjl _ hx4) Yr4 rfl<|Md rfl<|Ac (Z8w rfl rfl Ytg Znn (vt rfl) (vt rfl) hx5) rfl<|Zf Znn 3 rfl<|Nl<|rt ?_
  cases h;exact Zd Tryz.results334 rfl (Zx rfl (i:=3) rfl Znn)
def Zf4 (x1:Int):Option Int:=
 (Zro x1).bind fun x2=>some x2.bits
theorem Ykn:Q1 Tryz.prog 368 (rd (Z0 .i64)) (rd (Z0 .i64)) Zf4:=fun x1 r h=>I0 Tryz.func368 rfl Tryz.ntmps368 rfl fun w H Z=>by
 unfold Zf4 at h
 refine SR<|Ak rfl<|Nl<|sq ?_
 obtain ⟨x2,hx2,h⟩:=Z7 h
 refine Rg<|Md rfl<|Cl [3] (Yfp _ _ hx2) Ylf rfl<|Ac (Zgz Z3a rfl rfl Yxp Yp0 Zo rfl (vt rfl)) rfl<|As rfl<|Nl<|rt ?_
 cases h;exact Zd Tryz.results368 rfl (Z5 rfl)
def Zhl (n1:Int):Option (BitVec 64):=
 (bif (decide (n1≥64)) then some (18446744073709551615:BitVec 64) else (Zae (1:BitVec 64) (Z2r n1 0)).bind fun q2=>some (q2 - (1:BitVec 64)))
theorem Y6s:Q1 Tryz.prog 385 (rd (Z0 .i64)) (rd Z04) Zhl:=fun n1 r h=>I0 Tryz.func385 rfl Tryz.ntmps385 rfl fun w H Z=>by
 unfold Zhl at h
 refine SR<|Ac (Zv (A:=rd Z04 (0:BitVec 64)) rfl rfl (vku (0:BitVec 64) rfl)) rfl<|Nl<|sq<|SR<|Md rfl<|Ac (Z45 rfl rfl (vt rfl) (vk rfl)) rfl<|Nl<|Cq rfl h (fun h=>?_) (fun h=>?_)
 ·refine SR<|Ac (Zv (A:=rd Z04 (18446744073709551615:BitVec 64)) rfl rfl (vku (18446744073709551615:BitVec 64) rfl)) rfl<|Nl<|rt ?_
  cases h;exact Zd Tryz.results385 rfl (Z5 rfl)
 ·refine sk<|sq ?_
  obtain ⟨q2,hq2,h⟩:=Z7 h
  refine Rg<|Md rfl<|Ac (Zk5 rfl rfl (vt rfl) (vk rfl)) rfl<|Ac (Zph rfl rfl (vku (1:BitVec 64) rfl) (vt rfl) hq2) rfl<|Ac (Ytu rfl rfl (vt rfl) (vku (1:BitVec 64) rfl)) rfl<|As rfl<|Nl<|rt ?_
  cases h;exact Zd Tryz.results385 rfl (Z5 rfl)
def Zar (n1:Int):Option Wide:=
 (Zhl (IntKind.i64.wrap ((Z5w (Z2r n1 0) 128) - 64))).bind fun x3=>(Zhl (Z5w (Z2r n1 0) 128)).bind fun x4=>some (⟨x3,x4⟩:Wide)
theorem Zyt:Q1 Tryz.prog 357 (rd (Z0 .i64)) (rd Zn) Zar:=fun n1 r h=>I0 Tryz.func357 rfl Tryz.ntmps357 rfl fun w H Z=>by
 unfold Zar at h
 refine SR<|Cv rfl (Zm 3 rfl rfl Z2c) fun g2=>Nl<|SR<|Md rfl<|Ac (Zk5 rfl rfl (vt rfl) (vk rfl)) rfl<|Ac (Zxp rfl rfl (vt rfl) (vk rfl)) rfl<|As rfl<|Nl<|sq ?_
 obtain ⟨x3,hx3,x4,hx4,h⟩:=bs2 h
 refine Rg<|Md rfl<|Ac (Z0t rfl rfl (vt rfl) (vk rfl)) rfl<|Cl [7] (Y6s _ _ hx3) Y64 rfl<|Md rfl<|Cl [9] (Y6s _ _ hx4) Y64 rfl<|Ac (opb (⟨x3,x4⟩:Wide) Z2c rfl Z4t (pc Z8y (vt rfl)<|pc Z8i (vt rfl)<|pn rfl)) rfl<|Zf Zw 3 rfl<|Nl<|rt ?_
 cases h;exact Zd Tryz.results357 rfl (Zx rfl (i:=3) rfl Zw)
def Zga (o1:Oxm):Option Tern:=
 (Z9v o1.Field).bind fun x4=>(bif (!x4) then some (⟨Z0s,Z0s⟩:Tern) else (bif o1.Masked then some (⟨o1.Value,o1.Mask⟩:Tern) else (Zf4 o1.Field).bind fun x5=>(Zar x5).bind fun x6=>some (⟨o1.Value,x6⟩:Tern)))
theorem Yam:Q1 Tryz.prog 339 (rd Z0k) (rd Z4) Zga:=fun o1 r h=>I0 Tryz.func339 rfl Tryz.ntmps339 rfl fun w H Z=>by
 unfold Zga at h
 refine SR<|Cv rfl (Zs 2 rfl rfl (vt rfl)) fun g2=>Cv rfl (Zm 3 rfl rfl Z1n) fun g3=>Nl<|sq<|bk<|sq ?_
 obtain ⟨x4,hx4,h⟩:=Z7 h
 refine Rg<|Zk Z4w Z52 rfl<|Ld Zo 2 rfl<|Cl [5] (Zqv _ _ hx4) Zq3 rfl<|Ac (Z0z rfl rfl (vt rfl)) rfl<|As rfl<|Nl<|Cq rfl h (fun h=>?_) (fun h=>?_)
 ·refine SR<|Ac (opb (⟨Z0s,Z0s⟩:Tern) Z1n rfl Z4x (pn rfl)) rfl<|Zf Z01 3 rfl<|Nl<|rt ?_
  cases h;exact Zd Tryz.results339 rfl (Zx rfl (i:=3) rfl Z01)
 ·refine SR<|Zk Zvg Y9z rfl<|Ld ty4 2 rfl<|As rfl<|Nl<|Cq rfl h (fun h=>?_) (fun h=>?_)
  ·refine SR<|Zk Zm6 Zss rfl<|Ld Zw 2 rfl<|Zk Zxk Y7u rfl<|Ld Zw 2 rfl<|Ac (opb (⟨o1.Value,o1.Mask⟩:Tern) Z1n rfl Z4x (pc Z5x (vt rfl)<|pc Z6e (vt rfl)<|pn rfl)) rfl<|Zf Z01 3 rfl<|Nl<|rt ?_
   cases h;exact Zd Tryz.results339 rfl (Zx rfl (i:=3) rfl Z01)
  ·refine sk<|sq ?_
   obtain ⟨x5,hx5,x6,hx6,h⟩:=bs2 h
   refine AR Z00 (by kernel_rfl)<|SFd Zm6 Zss rfl<|Zp Zw 2 rfl<|SFd Z4w Z52 rfl<|Zp Zo 2 rfl<|SCl [20] (Ykn _ _ hx5) Ynr rfl<|SCl [21] (Zyt _ _ hx6) Zwc rfl<|Sd (lo [18,22] [] rfl fun S hs hr=>opb (⟨o1.Value,x6⟩:Tern) Z1n rfl Z4x (pc Z5x (vh hs 18 rfl rfl)<|pc Z6e (vh hs 22 rfl rfl)<|pn rfl))<|SSt Z01 3 rfl<|Sn<|rt ?_
   cases h;exact Zd Tryz.results339 rfl (Zx rfl (i:=3) rfl Z01)
def Zco:(List Oxm)→Nat→Za→Option Za
 | [],i7,b6=>some b6
 | x9::l8,i7,b6=>(Z9v x9.Field).bind fun x11=>(bif x11 then (Zga x9).bind fun x12=>(chk 24 x9.Field).bind fun j13=>(Zco l8) (i7+1) (Vector.set b6 j13.1 x12 j13.2) else (Zco l8) (i7+1) b6)
def Zrj (l1:(List Oxm)):Option Za:=
 (Zhn).bind fun x3=>Zco l1 0 x3
theorem Yu0:Q1 Tryz.prog 276 (rd (Z1 Z0k)) (rd (Z3 24 Z4)) Zrj:=fun l1 r h=>I0 Tryz.func276 rfl Tryz.ntmps276 rfl fun w H Z=>by
 unfold Zrj at h
 refine SR<|Cv rfl (Zm 3 rfl rfl Z1l) fun g2=>Nl<|sq ?_
 obtain ⟨x3,hx3,h⟩:=Z7 h
 refine Rg<|Cl [] (Y6c _ hx3) Y9m rfl<|Cv rfl (Zm 4 rfl rfl Z1l) fun g4=>Zf Z02 4 rfl<|Nl<|sq<|SR<|Md rfl<|Ac (Z0i rfl rfl Z5f (vt rfl)) rfl<|Mk rfl<|Nl<|bk<|LG (d:=[]) (ν:=(List Oxm)×Nat×Za) (fun (l8,i7,b6)=>(Sfx l1 i7 l8∧Zco l8 i7 b6=some r,l8.length,[(2,Zb g2 (Lens.id (Z3 24 Z4))),(3,Zb g4 (Lens.id (Z3 24 Z4))),(7,rd (Z1 Z0k) l1),(8,rd (Z0 .i64) (l1.length:Int)),(9,rd (Z0 .i64) (i7:Int))],[(3,Zh g2 123 (Z3 24 Z4) (Vector.replicate 24 zTern)),(4,Zh g4 123 (Z3 24 Z4) b6)])) (l1,0,x3) ⟨Sfx.start _,h⟩ (FX rfl) ?_
 rintro ⟨l8,i7,b6⟩ ⟨hsf1,h⟩
 dsimp only at hsf1 h ⊢
 cases l8 with
 | nil=>
  unfold Zco at h
  refine SR<|Ac (Zj rfl rfl (vt rfl) (vt rfl)) rfl<|Nl<|sq<|Cn rfl (fun hc=>absurd (of_decide_eq_true hc) hsf1.nil) (fun hc=>?_)
  refine xt<|SR<|Ld Z02 4 rfl<|Zf Z02 3 rfl<|Nl<|rt ?_
  cases h;exact Zd Tryz.results276 rfl (Zx rfl (i:=3) rfl Z02)
 | cons x9 l8=>
  unfold Zco at h
  refine SR<|Ac (Zj rfl rfl (vt rfl) (vt rfl)) rfl<|Nl<|sq<|Cn rfl (fun hc=>?_) (fun hc=>absurd hsf1.cons (of_decide_eq_false hc))
  have hlti7:=of_decide_eq_true hc
  refine sk<|sq<|bk<|SR<|Ac (Z0j rfl rfl Z5f (vt rfl) (vt rfl) hsf1.lget) rfl<|Lp1 Z7p rfl<|Cv rfl (Zm 6 rfl rfl Zsk) fun g10=>Zf Z7p 6 rfl<|Nl<|sq ?_
  obtain ⟨x11,hx11,h⟩:=Z7 h
  refine Rg<|Zk Z4w Z52 rfl<|Ld Zo 6 rfl<|Cl [14] (Zqv _ _ hx11) Zq3 rfl<|Nl<|Cq rfl h (fun h=>?_) (fun h=>?_)
  ·obtain ⟨x12,hx12,j13,hj13,h⟩:=bs2 h
   refine AR Z00 (by kernel_rfl)<|SFd Z4w Z52 rfl<|Zp Zo 6 rfl<|Zp Z7p 6 rfl<|SCl [18] (Yam _ _ hx12) Y8v rfl<|Sd (lo [3,17] [] rfl fun S hs hr=>Z19 rfl rfl Z2p (vh hs 3 rfl rfl) (vh hs 17 rfl rfl) hj13)<|SSt Z01 4 rfl<|Sn<|Rg<|Ac (Z13 (t:=8) rfl rfl (vt rfl) (vk rfl) (vt rfl) hlti7) rfl<|Md rfl<|Nl ?_
   exact ⟨(_,_,_),Nat.lt_succ_self _,⟨hsf1.next,h⟩,FX rfl⟩
  ·refine sk<|Rg<|Ac (Z13 (t:=8) rfl rfl (vt rfl) (vk rfl) (vt rfl) hlti7) rfl<|Md rfl<|Nl ?_
   exact ⟨(_,_,_),Nat.lt_succ_self _,⟨hsf1.next,h⟩,FX rfl⟩
end Go.Proofs.YtinplddjjalohaaGreatDoor.W
set_option maxHeartbeats 1000000
set_option maxRecDepth 4000
namespace Go.Proofs.YtinplddjjalohaaGreatDoor.W
open Go Go.Wb
theorem Zjq:Ent Tryz.prog 235:=Ent.mk Tryz.func235 rfl rfl
theorem Za7:Ent Tryz.prog 312:=Ent.mk Tryz.func312 rfl rfl
theorem Yu3:Ent Tryz.prog 338:=Ent.mk Tryz.func338 rfl rfl
theorem Ycg:Ent Tryz.prog 272:=Ent.mk Tryz.func272 rfl rfl
theorem Ycw:Ent Tryz.prog 276:=Ent.mk Tryz.func276 rfl rfl
theorem Y50:Ent Tryz.prog 275:=Ent.mk Tryz.func275 rfl rfl
theorem Yir:Ent Tryz.prog 382:=Ent.mk Tryz.func382 rfl rfl
def Zc1 (a1:Wide)(b2:Wide):Option Wide:=
 some (⟨(a1.Hi&&& b2.Hi),(a1.Lo&&& b2.Lo)⟩:Wide)
theorem Zkz:Q2 Tryz.prog 235 (rd Zn) (rd Zn) (rd Zn) Zc1:=fun a1 b2 r h=>I0 Tryz.func235 rfl Tryz.ntmps235 rfl fun w H Z=>by
 unfold Zc1 at h
 refine SR<|Cv rfl (Zs 3 rfl rfl (vt rfl)) fun g3=>Cv rfl (Zs 4 rfl rfl (vt rfl)) fun g4=>Cv rfl (Zm 5 rfl rfl Z2c) fun g5=>Nl<|SR<|Zk lWide_0 Z4s rfl<|Ld Z1h 3 rfl<|Zk lWide_0 Z4s rfl<|Ld Z1h 4 rfl<|Ac (Zat rfl rfl (vt rfl) (vt rfl)) rfl<|Zk lWide_1 Z4r rfl<|Ld Z1h 3 rfl<|Zk lWide_1 Z4r rfl<|Ld Z1h 4 rfl<|Ac (Zat rfl rfl (vt rfl) (vt rfl)) rfl<|Ac (opb (⟨(a1.Hi&&& b2.Hi),(a1.Lo&&& b2.Lo)⟩:Wide) Z2c rfl Z4t (pc Z8y (vt rfl)<|pc Z8i (vt rfl)<|pn rfl)) rfl<|Zf Zw 5 rfl<|Nl<|rt ?_
 cases h;exact Zd Tryz.results235 rfl (Zx rfl (i:=5) rfl Zw)
def Z83 (t1:Tern):Option Tern:=
 (Zc1 t1.Value t1.Mask).bind fun x4=>some (⟨x4,t1.Mask⟩:Tern)
theorem Zb9:Q1 Tryz.prog 312 (rd Z4) (rd Z4) Z83:=fun t1 r h=>I0 Tryz.func312 rfl Tryz.ntmps312 rfl fun w H Z=>by
 unfold Z83 at h
 refine SR<|Cv rfl (Zs 2 rfl rfl (vt rfl)) fun g2=>Cv rfl (Zm 3 rfl rfl Z1n) fun g3=>Nl<|sq ?_
 obtain ⟨x4,hx4,h⟩:=Z7 h
 refine AR Z00 (by kernel_rfl)<|SFd lTern_0 Z32 rfl<|Zp Zw 2 rfl<|SFd lTern_1 Z2g rfl<|Zp Zw 2 rfl<|SCl [4,6] (Zkz _ _ _ hx4) Zjq rfl<|SFd lTern_1 Z2g rfl<|Zp Zw 2 rfl<|Sd (lo [7,9] [] rfl fun S hs hr=>opb (⟨x4,t1.Mask⟩:Tern) Z1n rfl Z4x (pc Z5x (vh hs 7 rfl rfl)<|pc Z6e (vh hs 9 rfl rfl)<|pn rfl))<|SSt Z01 3 rfl<|Sn<|rt ?_
 cases h;exact Zd Tryz.results312 rfl (Zx rfl (i:=3) rfl Z01)
def Zil (i1:Int)(x2:Za):Option (Tern×Bool):=
 (chk 24 i1).bind fun j4=>(Z83 (Vector.get x2 j4)).bind fun x5=>some (x5,true)
theorem Ygr:Q2 Tryz.prog 338 (rd (Z0 .i64)) (rp (Z3 24 Z4)) (fun r=>Z12 (rd Z4 r.1) (rd Z6 r.2)) Zil:=fun i1 x2 r h=>I0 Tryz.func338 rfl Tryz.ntmps338 rfl fun w H Z=>by
 unfold Zil at h
 refine SR<|Cv rfl (Zm 4 rfl rfl Z1n) fun g3=>Ab rfl<|Nl<|sq ?_
 obtain ⟨j4,hj4,x5,hx5,h⟩:=bs2 h
 refine Rg<|Md rfl<|Ac (Z8t rfl rfl Z2p (vt rfl) (vt rfl) hj4) rfl<|Lp1 Z01 rfl<|Cl [7] (Zb9 _ _ hx5) Za7 rfl<|Zf Z01 4 rfl<|Ab rfl<|Nl<|rt ?_
 cases h;exact Z1f Tryz.results338 rfl (Zx rfl (i:=4) rfl Z01) (Z5 rfl)
def Z7w (x1:(Int→Option (Tern×Bool))):Nat→Nat→Za→Option (Za×Bool)
 | 0,i6,b5=>some (b5,true)
 | m7+1,i6,b5=>(x1 (i6:Int)).bind fun x8=>(bif (!x8.2) then some ((Vector.replicate 24 zTern),false) else (chk 24 (i6:Int)).bind fun j10=>(Z7w x1 m7) (i6+1) (Vector.set b5 j10.1 x8.1 j10.2))
def Zdp (x1:(Int→Option (Tern×Bool))):Option (Za×Bool):=
 Z7w x1 (24:Int).toNat 0 (Vector.replicate 24 zTern)
theorem Y6x:Q1 Tryz.prog 272 (fa1 Tryz.prog (Z0 .i64) (fun (y:(Tern×Bool))=>Z12 (rd Z4 y.1) (rd Z6 y.2))) (fun r=>Z12 (rd (Z3 24 Z4) r.1) (rd Z6 r.2)) Zdp:=fun x1 r h=>I0 Tryz.func272 rfl Tryz.ntmps272 rfl fun w H Z=>by
 unfold Zdp at h
 refine SR<|Cv rfl (Zm 3 rfl rfl Z1l) fun g2=>Ab rfl<|Nl<|SR<|Cv rfl (Zm 5 rfl rfl Z1l) fun g3=>Nl<|sq<|SR<|Mk rfl<|Nl<|bk<|LG (d:=[]) (ν:=Nat×Nat×Za) (fun (m7,i6,b5)=>(Cnt 24 i6 m7∧Z7w x1 m7 i6 b5=some r,m7,[(0,fa1 Tryz.prog (Z0 .i64) (fun (y:(Tern×Bool))=>Z12 (rd Z4 y.1) (rd Z6 y.2)) x1),(2,Zb g2 (Lens.id (Z3 24 Z4))),(4,Zb g3 (Lens.id (Z3 24 Z4))),(8,rd (Z0 .i64) (i6:Int))],[(3,Zh g2 123 (Z3 24 Z4) (Vector.replicate 24 zTern)),(5,Zh g3 123 (Z3 24 Z4) b5)])) ((24:Int).toNat,0,(Vector.replicate 24 zTern)) ⟨Cnt.start _,h⟩ (FX rfl) ?_
 rintro ⟨m7,i6,b5⟩ ⟨hsf1,h⟩
 dsimp only at hsf1 h ⊢
 cases m7 with
 | zero=>
  unfold Z7w at h
  refine SR<|Ac (Zj rfl rfl (vt rfl) (vk rfl)) rfl<|Nl<|sq<|Cn rfl (fun hc=>absurd (of_decide_eq_true hc) hsf1.zero) (fun hc=>?_)
  refine xt<|SR<|Ld Z02 5 rfl<|Zf Z02 3 rfl<|Ab rfl<|Nl<|rt ?_
  cases h;exact Z1f Tryz.results272 rfl (Zx rfl (i:=3) rfl Z02) (Z5 rfl)
 | succ m7=>
  unfold Z7w at h
  refine SR<|Ac (Zj rfl rfl (vt rfl) (vk rfl)) rfl<|Nl<|sq<|Cn rfl (fun hc=>?_) (fun hc=>absurd hsf1.succ (of_decide_eq_false hc))
  have hlti6:=of_decide_eq_true hc
  refine sk<|sq<|bk<|SR<|Md rfl<|As rfl<|Nl<|sq ?_
  obtain ⟨x8,hx8,h⟩:=Z7 h
  refine Rg<|Ac (Zq (A:=fa1 Tryz.prog (Z0 .i64) (fun (y:(Tern×Bool))=>Z12 (rd Z4 y.1) (rd Z6 y.2)) x1) rfl rfl (vt rfl)) rfl<|Md rfl<|Ac (Yj9 (B:=(fun (y:(Tern×Bool))=>Z12 (rd Z4 y.1) (rd Z6 y.2))) hx8 rfl rfl (vt rfl) (vt rfl)) rfl<|Mt2 rfl<|Ac (Z1e rfl rfl (vt rfl)) rfl<|Ac (Z1a rfl rfl (vt rfl)) rfl<|Cv rfl (Zm 7 rfl rfl Z1n) fun g9=>Zf Z01 7 rfl<|As rfl<|Nl<|sq<|SR<|Md rfl<|Ac (Z0z rfl rfl (vt rfl)) rfl<|Nl<|Cq rfl h (fun h=>?_) (fun h=>?_)
  ·refine SR<|Ac (Z1o (ps:=[]) (x:=(Vector.replicate 24 zTern)) rfl rfl rfl (by kernel_rfl) Z1l rfl) rfl<|Zf Z02 3 rfl<|Ab rfl<|Nl<|rt ?_
   cases h;exact Z1f Tryz.results272 rfl (Zx rfl (i:=3) rfl Z02) (Z5 rfl)
  ·refine sk ?_
   obtain ⟨j10,hj10,h⟩:=Z7 h
   refine Rg<|Md rfl<|Ld Z01 7 rfl<|Ac (Z19 rfl rfl Z2p (vt rfl) (vt rfl) hj10) rfl<|Zf Z01 5 rfl<|Nl<|Rg<|Ac (Z5r rfl rfl (vt rfl) (vk rfl) rfl hlti6) rfl<|Md rfl<|Nl ?_
   exact ⟨(_,_,_),Nat.lt_succ_self _,⟨hsf1.next,h⟩,FX rfl⟩
def Zgi (x1:Za):Option Za:=
 (Zdp (fun x=>Zil x x1)).bind fun x4=>some x4.1
theorem Y2q:Q1 Tryz.prog 275 (rd (Z3 24 Z4)) (rd (Z3 24 Z4)) Zgi:=fun x1 r h=>I0 Tryz.func275 rfl Tryz.ntmps275 rfl fun w H Z=>by
 unfold Zgi at h
 refine SR<|Cv rfl (Zs 2 rfl rfl (vt rfl)) fun g2=>Cv rfl (Zm 3 rfl rfl Z1l) fun g3=>Nl<|sq<|AW.freezeB 1 2 rfl rfl rfl ?_
 obtain ⟨x4,hx4,h⟩:=Z7 h
 refine Rg<|Ac (Y8h (fs:=[]) (FAs:=[]) (cs:=[.tmp 1]) (CAs:=[rp (Z3 24 Z4) x1]) (kx:=(Z0 .i64)) (B:=(fun (y:(Tern×Bool))=>Z12 (rd Z4 y.1) (rd Z6 y.2))) (fun x=>Zil x x1) rfl rfl Yu3 trivial ⟨vt rfl,trivial⟩ (fun x y h=>Ygr _ _ y h)) rfl<|Cl [6] (Y6x _ _ hx4) Ycg rfl<|Mt2 rfl<|Ac (Z1e rfl rfl (vt rfl)) rfl<|Ac (Z1a rfl rfl (vt rfl)) rfl<|Cv rfl (Zm 4 rfl rfl Z1l) fun g5=>Zf Z02 4 rfl<|As rfl<|Nl<|SR<|Ld Z02 4 rfl<|Zf Z02 3 rfl<|Nl<|rt ?_
 cases h;exact Zd Tryz.results275 rfl (Zx rfl (i:=3) rfl Z02)
def Ze5 (x1:Flow):Option Za:=
 (Zrj x1.Match).bind fun x4=>(Zgi x4).bind fun x5=>some x5
theorem Zx1:Q1 Tryz.prog 201 (rd Z08) (rd (Z3 24 Z4)) Ze5:=fun x1 r h=>I0 Tryz.func201 rfl Tryz.ntmps201 rfl fun w H Z=>by
 unfold Ze5 at h
 refine SR<|Cv rfl (Zs 2 rfl rfl (vt rfl)) fun g2=>Cv rfl (Zm 3 rfl rfl Z1l) fun g3=>Nl<|sq ?_
 obtain ⟨x4,hx4,x5,hx5,h⟩:=bs2 h
 refine Rg<|Zk lFlow_5 Zlc rfl<|Ld Zca 2 rfl<|Cl [4] (Yu0 _ _ hx4) Ycw rfl<|Cl [5] (Y2q _ _ hx5) Y50 rfl<|Zf Z02 3 rfl<|Nl<|rt ?_
 cases h;exact Zd Tryz.results201 rfl (Zx rfl (i:=3) rfl Z02)
def Zy3 (a1:Wide)(b2:Wide):Option Wide:=
 some (⟨(a1.Hi ^^^ b2.Hi),(a1.Lo ^^^ b2.Lo)⟩:Wide)
theorem Yhg:Q2 Tryz.prog 382 (rd Zn) (rd Zn) (rd Zn) Zy3:=fun a1 b2 r h=>I0 Tryz.func382 rfl Tryz.ntmps382 rfl fun w H Z=>by
 unfold Zy3 at h
 refine SR<|Cv rfl (Zs 3 rfl rfl (vt rfl)) fun g3=>Cv rfl (Zs 4 rfl rfl (vt rfl)) fun g4=>Cv rfl (Zm 5 rfl rfl Z2c) fun g5=>Nl<|SR<|Zk lWide_0 Z4s rfl<|Ld Z1h 3 rfl<|Zk lWide_0 Z4s rfl<|Ld Z1h 4 rfl<|Ac (Zrz rfl rfl (vt rfl) (vt rfl)) rfl<|Zk lWide_1 Z4r rfl<|Ld Z1h 3 rfl<|Zk lWide_1 Z4r rfl<|Ld Z1h 4 rfl<|Ac (Zrz rfl rfl (vt rfl) (vt rfl)) rfl<|Ac (opb (⟨(a1.Hi ^^^ b2.Hi),(a1.Lo ^^^ b2.Lo)⟩:Wide) Z2c rfl Z4t (pc Z8y (vt rfl)<|pc Z8i (vt rfl)<|pn rfl)) rfl<|Zf Zw 5 rfl<|Nl<|rt ?_
 cases h;exact Zd Tryz.results382 rfl (Zx rfl (i:=5) rfl Zw)
def Zxu (a1:Wide)(b2:Wide)(m3:Wide):Option Wide:=
 (Zy3 a1 b2).bind fun x8=>(Zc1 x8 m3).bind fun x9=>some x9
theorem Ydh:Q3 Tryz.prog 354 (rd Zn) (rd Zn) (rd Zn) (rd Zn) Zxu:=fun a1 b2 m3 r h=>I0 Tryz.func354 rfl Tryz.ntmps354 rfl fun w H Z=>by
 unfold Zxu at h
 refine SR<|Cv rfl (Zs 4 rfl rfl (vt rfl)) fun g4=>Cv rfl (Zs 5 rfl rfl (vt rfl)) fun g5=>Cv rfl (Zs 6 rfl rfl (vt rfl)) fun g6=>Cv rfl (Zm 7 rfl rfl Z2c) fun g7=>Nl<|sq ?_
 obtain ⟨x8,hx8,x9,hx9,h⟩:=bs2 h
 refine AR Z00 (by kernel_rfl)<|Zp Zw 4 rfl<|Zp Zw 5 rfl<|SCl [7,8] (Yhg _ _ _ hx8) Yir rfl<|Zp Zw 6 rfl<|SCl [9,10] (Zkz _ _ _ hx9) Zjq rfl<|SSt Zw 7 rfl<|Sn<|rt ?_
 cases h;exact Zd Tryz.results354 rfl (Zx rfl (i:=7) rfl Zw)
def Zhp (a1:Wide):Option Bool:=
 some (decide ((a1.Hi||| a1.Lo)=(0:BitVec 64)))
theorem Zu5:Q1 Tryz.prog 332 (rd Zn) (rd Z6) Zhp:=fun a1 r h=>I0 Tryz.func332 rfl Tryz.ntmps332 rfl fun w H Z=>by
 unfold Zhp at h
 refine SR<|Cv rfl (Zs 2 rfl rfl (vt rfl)) fun g2=>Ab rfl<|Nl<|SR<|Zk lWide_0 Z4s rfl<|Ld Z1h 2 rfl<|Zk lWide_1 Z4r rfl<|Ld Z1h 2 rfl<|Ac (Zl7 rfl rfl (vt rfl) (vt rfl)) rfl<|Ac (Zzc rfl rfl (vt rfl) (vku (0:BitVec 64) rfl)) rfl<|As rfl<|Nl<|rt ?_
 cases h;exact Zd Tryz.results332 rfl (Z5 rfl)
end Go.Proofs.YtinplddjjalohaaGreatDoor.W
set_option maxHeartbeats 1000000
set_option maxRecDepth 4000
namespace Go.Proofs.YtinplddjjalohaaGreatDoor.W
open Go Go.Wb
theorem Yic:Ent Tryz.prog 354:=Ent.mk Tryz.func354 rfl rfl
theorem Ztp:Ent Tryz.prog 332:=Ent.mk Tryz.func332 rfl rfl
theorem Zu2:Ent Tryz.prog 309:=Ent.mk Tryz.func309 rfl rfl
theorem Zeo:Ent Tryz.prog 233:=Ent.mk Tryz.func233 rfl rfl
theorem Zj6:Ent Tryz.prog 234:=Ent.mk Tryz.func234 rfl rfl
theorem Yxu:Ent Tryz.prog 378:=Ent.mk Tryz.func378 rfl rfl
theorem Yf0:Ent Tryz.prog 377:=Ent.mk Tryz.func377 rfl rfl
theorem Y93:Ent Tryz.prog 274:=Ent.mk Tryz.func274 rfl rfl
theorem Yt2:Ent Tryz.prog 273:=Ent.mk Tryz.func273 rfl rfl
def Zja (t1:Tern)(x2:Wide):Option Bool:=
 (Zxu t1.Value x2 t1.Mask).bind fun x5=>(Zhp x5).bind fun x6=>some x6
theorem Zxq:Q2 Tryz.prog 309 (rd Z4) (rd Zn) (rd Z6) Zja:=fun t1 x2 r h=>I0 Tryz.func309 rfl Tryz.ntmps309 rfl fun w H Z=>by
 unfold Zja at h
 refine SR<|Cv rfl (Zs 3 rfl rfl (vt rfl)) fun g3=>Cv rfl (Zs 4 rfl rfl (vt rfl)) fun g4=>Ab rfl<|Nl<|sq ?_
 obtain ⟨x5,hx5,x6,hx6,h⟩:=bs2 h
 refine Rg<|Zk lTern_0 Z32 rfl<|Ld Zw 3 rfl<|Ld Zw 4 rfl<|Zk lTern_1 Z2g rfl<|Ld Zw 3 rfl<|Cl [6,7,9] (Ydh _ _ _ _ hx5) Yic rfl<|Cl [10] (Zu5 _ _ hx6) Ztp rfl<|As rfl<|Nl<|rt ?_
 cases h;exact Zd Tryz.results309 rfl (Z5 rfl)
def Z9c (a1:Wide)(b2:Wide):Option Wide:=
 some (⟨(a1.Hi||| b2.Hi),(a1.Lo||| b2.Lo)⟩:Wide)
theorem Zej:Q2 Tryz.prog 233 (rd Zn) (rd Zn) (rd Zn) Z9c:=fun a1 b2 r h=>I0 Tryz.func233 rfl Tryz.ntmps233 rfl fun w H Z=>by
 unfold Z9c at h
 refine SR<|Cv rfl (Zs 3 rfl rfl (vt rfl)) fun g3=>Cv rfl (Zs 4 rfl rfl (vt rfl)) fun g4=>Cv rfl (Zm 5 rfl rfl Z2c) fun g5=>Nl<|SR<|Zk lWide_0 Z4s rfl<|Ld Z1h 3 rfl<|Zk lWide_0 Z4s rfl<|Ld Z1h 4 rfl<|Ac (Zl7 rfl rfl (vt rfl) (vt rfl)) rfl<|Zk lWide_1 Z4r rfl<|Ld Z1h 3 rfl<|Zk lWide_1 Z4r rfl<|Ld Z1h 4 rfl<|Ac (Zl7 rfl rfl (vt rfl) (vt rfl)) rfl<|Ac (opb (⟨(a1.Hi||| b2.Hi),(a1.Lo||| b2.Lo)⟩:Wide) Z2c rfl Z4t (pc Z8y (vt rfl)<|pc Z8i (vt rfl)<|pn rfl)) rfl<|Zf Zw 5 rfl<|Nl<|rt ?_
 cases h;exact Zd Tryz.results233 rfl (Zx rfl (i:=5) rfl Zw)
def Zjd (a1:Tern)(b2:Tern):Option (Tern×Bool):=
 (Zc1 a1.Mask b2.Mask).bind fun x6=>(Zja (⟨a1.Value,x6⟩:Tern) b2.Value).bind fun x7=>(bif (!x7) then some ((⟨Z0s,Z0s⟩:Tern),false) else (Z83 a1).bind fun x8=>(Z83 b2).bind fun x9=>(Z9c x8.Value x9.Value).bind fun x10=>(Z9c x8.Mask x9.Mask).bind fun x11=>some ((⟨x10,x11⟩:Tern),true))
theorem Yba:Q2 Tryz.prog 274 (rd Z4) (rd Z4) (fun r=>Z12 (rd Z4 r.1) (rd Z6 r.2)) Zjd:=fun a1 b2 r h=>I0 Tryz.func274 rfl Tryz.ntmps274 rfl fun w H Z=>by
 unfold Zjd at h
 refine SR<|Cv rfl (Zs 3 rfl rfl (vt rfl)) fun g3=>Cv rfl (Zs 4 rfl rfl (vt rfl)) fun g4=>Cv rfl (Zm 5 rfl rfl Z1n) fun g5=>Ab rfl<|Nl<|sq<|sq ?_
 obtain ⟨x6,hx6,x7,hx7,h⟩:=bs2 h
 refine AR Z00 (by kernel_rfl)<|SFd lTern_0 Z32 rfl<|Zp Zw 3 rfl<|SFd lTern_1 Z2g rfl<|Zp Zw 3 rfl<|SFd lTern_1 Z2g rfl<|Zp Zw 4 rfl<|SCl [9,11] (Zkz _ _ _ hx6) Zjq rfl<|Sd (lo [7,12] [] rfl fun S hs hr=>opb (⟨a1.Value,x6⟩:Tern) Z1n rfl Z4x (pc Z5x (vh hs 7 rfl rfl)<|pc Z6e (vh hs 12 rfl rfl)<|pn rfl))<|SFd lTern_0 Z32 rfl<|Zp Zw 4 rfl<|SCl [13,15] (Zxq _ _ _ hx7) Zu2 rfl<|Sd (lo [16] [] rfl fun S hs hr=>Z0z rfl rfl (vh hs 16 rfl rfl))<|Sn<|Cq rfl h (fun h=>?_) (fun h=>?_)
 ·refine SR<|Ac (opb (⟨Z0s,Z0s⟩:Tern) Z1n rfl Z4x (pn rfl)) rfl<|Zf Z01 5 rfl<|Ab rfl<|Nl<|rt ?_
  cases h;exact Z1f Tryz.results274 rfl (Zx rfl (i:=5) rfl Z01) (Z5 rfl)
 ·refine sk<|sq ?_
  obtain ⟨x8,hx8,x9,hx9,h⟩:=bs2 h
  refine AR Z00 (by kernel_rfl)<|Zp Z01 3 rfl<|SCl [19] (Zb9 _ _ hx8) Za7 rfl<|Zp Z01 4 rfl<|SCl [21] (Zb9 _ _ hx9) Za7 rfl<|SSt Z01 3 rfl<|SSt Z01 4 rfl<|Sn<|sq ?_
  obtain ⟨x10,hx10,x11,hx11,h⟩:=bs2 h
  refine AR Z00 (by kernel_rfl)<|SFd lTern_0 Z32 rfl<|Zp Zw 3 rfl<|SFd lTern_0 Z32 rfl<|Zp Zw 4 rfl<|SCl [24,26] (Zej _ _ _ hx10) Zeo rfl<|SFd lTern_1 Z2g rfl<|Zp Zw 3 rfl<|SFd lTern_1 Z2g rfl<|Zp Zw 4 rfl<|SCl [29,31] (Zej _ _ _ hx11) Zeo rfl<|Sd (lo [27,32] [] rfl fun S hs hr=>opb (⟨x10,x11⟩:Tern) Z1n rfl Z4x (pc Z5x (vh hs 27 rfl rfl)<|pc Z6e (vh hs 32 rfl rfl)<|pn rfl))<|SSt Z01 5 rfl<|Sd (lo [] [] rfl fun S hs hr=>Zv (A:=rd Z6 true) rfl rfl vb)<|Sn<|rt ?_
  cases h;exact Z1f Tryz.results274 rfl (Zx rfl (i:=5) rfl Z01) (Z5 rfl)
def Zas (a1:Wide)(b2:Wide):Option Wide:=
 some (⟨(a1.Hi&&& ~~~b2.Hi),(a1.Lo&&& ~~~b2.Lo)⟩:Wide)
theorem Ziy:Q2 Tryz.prog 234 (rd Zn) (rd Zn) (rd Zn) Zas:=fun a1 b2 r h=>I0 Tryz.func234 rfl Tryz.ntmps234 rfl fun w H Z=>by
 unfold Zas at h
 refine SR<|Cv rfl (Zs 3 rfl rfl (vt rfl)) fun g3=>Cv rfl (Zs 4 rfl rfl (vt rfl)) fun g4=>Cv rfl (Zm 5 rfl rfl Z2c) fun g5=>Nl<|SR<|Zk lWide_0 Z4s rfl<|Ld Z1h 3 rfl<|Zk lWide_0 Z4s rfl<|Ld Z1h 4 rfl<|Ac (Zos rfl rfl (vt rfl) (vt rfl)) rfl<|Zk lWide_1 Z4r rfl<|Ld Z1h 3 rfl<|Zk lWide_1 Z4r rfl<|Ld Z1h 4 rfl<|Ac (Zos rfl rfl (vt rfl) (vt rfl)) rfl<|Ac (opb (⟨(a1.Hi&&& ~~~b2.Hi),(a1.Lo&&& ~~~b2.Lo)⟩:Wide) Z2c rfl Z4t (pc Z8y (vt rfl)<|pc Z8i (vt rfl)<|pn rfl)) rfl<|Zf Zw 5 rfl<|Nl<|rt ?_
 cases h;exact Zd Tryz.results234 rfl (Zx rfl (i:=5) rfl Zw)
def Znd (i1:Int)(x2:Za)(x3:Za):Option Tern:=
 (chk 24 i1).bind fun j5=>(chk 24 i1).bind fun j6=>(chk 24 i1).bind fun j7=>(Zas ((Vector.get x2 j6).Mask) ((Vector.get x3 j7).Mask)).bind fun x8=>(Z83 (⟨(Vector.get x2 j5).Value,x8⟩:Tern)).bind fun x9=>some x9
theorem Ysu:Q3 Tryz.prog 378 (rd (Z0 .i64)) (rp (Z3 24 Z4)) (rp (Z3 24 Z4)) (rd Z4) Znd:=fun i1 x2 x3 r h=>I0 Tryz.func378 rfl Tryz.ntmps378 rfl fun w H Z=>by
 unfold Znd at h
 refine SR<|Cv rfl (Zm 5 rfl rfl Z1n) fun g4=>Nl<|sq ?_
 obtain ⟨j5,hj5,j6,hj6,j7,hj7,x8,hx8,h⟩:=bs4 h
 obtain ⟨x9,hx9,h⟩:=Z7 h
 refine AR Z00 (by kernel_rfl)<|Zt rfl<|Sd (lo [1,5] [] rfl fun S hs hr=>Z8t rfl rfl Z2p (vh hs 1 rfl rfl) (vh hs 5 rfl rfl) hj5)<|SFp lTern_0 Z32 rfl<|SLp Zw rfl<|Zt rfl<|Sd (lo [1,9] [] rfl fun S hs hr=>Z8t rfl rfl Z2p (vh hs 1 rfl rfl) (vh hs 9 rfl rfl) hj6)<|SFp lTern_1 Z2g rfl<|SLp Zw rfl<|Zt rfl<|Sd (lo [2,13] [] rfl fun S hs hr=>Z8t rfl rfl Z4k (vh hs 2 rfl rfl) (vh hs 13 rfl rfl) hj7)<|SFp lTern_1 Z2g rfl<|SLp Zw rfl<|SCl [12,16] (Ziy _ _ _ hx8) Zj6 rfl<|Sd (lo [8,17] [] rfl fun S hs hr=>opb (⟨(Vector.get x2 j5).Value,x8⟩:Tern) Z1n rfl Z4x (pc Z5x (vh hs 8 rfl rfl)<|pc Z6e (vh hs 17 rfl rfl)<|pn rfl))<|SCl [18] (Zb9 _ _ hx9) Za7 rfl<|SSt Z01 5 rfl<|Sn<|rt ?_
 cases h;exact Zd Tryz.results378 rfl (Zx rfl (i:=5) rfl Z01)
def Zay (x1:(Int→Option Tern)):Nat→Nat→Za→Option Za
 | 0,i6,b5=>some b5
 | m7+1,i6,b5=>(x1 (i6:Int)).bind fun x8=>(chk 24 (i6:Int)).bind fun j9=>(Zay x1 m7) (i6+1) (Vector.set b5 j9.1 x8 j9.2)
def Zly (x1:(Int→Option Tern)):Option Za:=
 Zay x1 (24:Int).toNat 0 (Vector.replicate 24 zTern)
theorem Yvl:Q1 Tryz.prog 377 (fn1 Tryz.prog (Z0 .i64) Z4) (rd (Z3 24 Z4)) Zly:=fun x1 r h=>I0 Tryz.func377 rfl Tryz.ntmps377 rfl fun w H Z=>by
 unfold Zly at h
 refine SR<|Cv rfl (Zm 3 rfl rfl Z1l) fun g2=>Nl<|SR<|Cv rfl (Zm 4 rfl rfl Z1l) fun g3=>Nl<|sq<|SR<|Mk rfl<|Nl<|bk<|LG (d:=[]) (ν:=Nat×Nat×Za) (fun (m7,i6,b5)=>(Cnt 24 i6 m7∧Zay x1 m7 i6 b5=some r,m7,[(0,fn1 Tryz.prog (Z0 .i64) Z4 x1),(2,Zb g2 (Lens.id (Z3 24 Z4))),(3,Zb g3 (Lens.id (Z3 24 Z4))),(5,rd (Z0 .i64) (i6:Int))],[(3,Zh g2 123 (Z3 24 Z4) (Vector.replicate 24 zTern)),(4,Zh g3 123 (Z3 24 Z4) b5)])) ((24:Int).toNat,0,(Vector.replicate 24 zTern)) ⟨Cnt.start _,h⟩ (FX rfl) ?_
 rintro ⟨m7,i6,b5⟩ ⟨hsf1,h⟩
 dsimp only at hsf1 h ⊢
 cases m7 with
 | zero=>
  unfold Zay at h
  refine SR<|Ac (Zj rfl rfl (vt rfl) (vk rfl)) rfl<|Nl<|sq<|Cn rfl (fun hc=>absurd (of_decide_eq_true hc) hsf1.zero) (fun hc=>?_)
  refine xt<|SR<|Ld Z02 4 rfl<|Zf Z02 3 rfl<|Nl<|rt ?_
  cases h;exact Zd Tryz.results377 rfl (Zx rfl (i:=3) rfl Z02)
 | succ m7=>
  unfold Zay at h
  refine SR<|Ac (Zj rfl rfl (vt rfl) (vk rfl)) rfl<|Nl<|sq<|Cn rfl (fun hc=>?_) (fun hc=>absurd hsf1.succ (of_decide_eq_false hc))
  have hlti6:=of_decide_eq_true hc
  refine sk<|sq<|bk<|SR<|Md rfl<|As rfl<|Nl ?_
  obtain ⟨x8,hx8,j9,hj9,h⟩:=bs2 h
  refine Rg<|Md rfl<|Ac (Zq (A:=fn1 Tryz.prog (Z0 .i64) Z4 x1) rfl rfl (vt rfl)) rfl<|Md rfl<|Ac (Z9a hx8 rfl rfl (vt rfl) (vt rfl)) rfl<|Ac (Z19 rfl rfl Z2p (vt rfl) (vt rfl) hj9) rfl<|Zf Z01 4 rfl<|Nl<|Rg<|Ac (Z5r rfl rfl (vt rfl) (vk rfl) rfl hlti6) rfl<|Md rfl<|Nl ?_
  exact ⟨(_,_,_),Nat.lt_succ_self _,⟨hsf1.next,h⟩,FX rfl⟩
def Zbj (x2:Za)(x1:Za):(List Tern)→Nat→Option (Za×Bool)
 | [],i6=>(Zly (fun x=>Znd x x2 x1)).bind fun x8=>some (x8,true)
 | x9::l7,i6=>(chk 24 (i6:Int)).bind fun j11=>(Zjd x9 (Vector.get x2 j11)).bind fun x12=>(bif (!x12.2) then some ((Vector.replicate 24 zTern),false) else (Zbj x2 x1 l7) (i6+1))
def Znx (x1:Za)(x2:Za):Option (Za×Bool):=
 Zbj x2 x1 (Vector.toList x1) 0
theorem Yuw:Q2 Tryz.prog 351 (rd (Z3 24 Z4)) (rd (Z3 24 Z4)) (fun r=>Z12 (rd (Z3 24 Z4) r.1) (rd Z6 r.2)) Znx:=fun x1 x2 r h=>I0 Tryz.func351 rfl Tryz.ntmps351 rfl fun w H Z=>by
 unfold Znx at h
 refine SR<|Cv rfl (Zs 3 rfl rfl (vt rfl)) fun g3=>Cv rfl (Zs 4 rfl rfl (vt rfl)) fun g4=>Cv rfl (Zm 5 rfl rfl Z1l) fun g5=>Ab rfl<|Nl<|sq<|SR<|Ld Z03 3 rfl<|Mk rfl<|Nl<|bk<|LG (d:=[]) (ν:=(List Tern)×Nat) (fun (l7,i6)=>(Sfx (Vector.toList x1) i6 l7∧Zbj x2 x1 l7 i6=some r,l7.length,[(2,Zb g3 (Lens.id (Z3 24 Z4))),(3,Zb g4 (Lens.id (Z3 24 Z4))),(4,Zb g5 (Lens.id (Z3 24 Z4))),(10,rd (Z3 24 Z4) x1),(11,rd (Z0 .i64) (i6:Int))],[(3,Zh g3 131 (Z3 24 Z4) x1),(4,Zh g4 123 (Z3 24 Z4) x2),(5,Zh g5 123 (Z3 24 Z4) (Vector.replicate 24 zTern))])) ((Vector.toList x1),0) ⟨Sfx.start _,h⟩ (FX rfl) ?_
 rintro ⟨l7,i6⟩ ⟨hsf1,h⟩
 dsimp only at hsf1 h ⊢
 cases l7 with
 | nil=>
  unfold Zbj at h
  refine SR<|Ac (Zj rfl rfl (vt rfl) (vk rfl)) rfl<|Nl<|sq<|Cn rfl (fun hc=>absurd (of_decide_eq_true hc) (hsf1.niln (by simp))) (fun hc=>?_)
  refine xt<|sq<|AW.freezeB 3 4 rfl rfl rfl<|AW.freezeB 2 3 rfl rfl rfl ?_
  obtain ⟨x8,hx8,h⟩:=Z7 h
  refine Rg<|Ac (Z8l (cs:=[.tmp 3,.tmp 2]) (CAs:=[rp (Z3 24 Z4) x2,rp (Z3 24 Z4) x1]) (fun x=>Znd x x2 x1) rfl rfl Yxu ⟨vt rfl,vt rfl,trivial⟩ (fun x y h=>Ysu _ _ _ y h)) rfl<|Cl [27] (Yvl _ _ hx8) Yf0 rfl<|Zf Z02 5 rfl<|Ab rfl<|Nl<|rt ?_
  cases h;exact Z1f Tryz.results351 rfl (Zx rfl (i:=5) rfl Z02) (Z5 rfl)
 | cons x9 l7=>
  unfold Zbj at h
  refine SR<|Ac (Zj rfl rfl (vt rfl) (vk rfl)) rfl<|Nl<|sq<|Cn rfl (fun hc=>?_) (fun hc=>absurd (hsf1.consn (by simp)) (of_decide_eq_false hc))
  have hlti6:=of_decide_eq_true hc
  refine sk<|sq<|bk<|SR<|Md rfl<|Ac (Z8w rfl rfl Z4k Z01 (vt rfl) (vt rfl) hsf1.lget) rfl<|Cv rfl (Zm 8 rfl rfl Z1n) fun g10=>As rfl<|Zf Z01 8 rfl<|Nl<|sq ?_
  obtain ⟨j11,hj11,x12,hx12,h⟩:=bs2 h
  refine AR Z00 (by kernel_rfl)<|Zp Z01 8 rfl<|Zt rfl<|Sd (lo [3,17] [] rfl fun S hs hr=>Z19 rfl rfl Z2p (vh hs 3 rfl rfl) (vh hs 17 rfl rfl) hj11)<|Zp Z01 4 rfl<|SCl [16,19] (Yba _ _ _ hx12) Y93 rfl<|Sd (lo [20] [] rfl fun S hs hr=>Zq (A:=Z12 (rd Z4 x12.1) (rd Z6 x12.2)) rfl rfl (vh hs 20 rfl rfl))<|Sd (lo [15] [] rfl fun S hs hr=>Z1e rfl rfl (vh hs 15 rfl rfl))<|Sd (lo [15] [] rfl fun S hs hr=>Z1a rfl rfl (vh hs 15 rfl rfl))<|Sd (Z1g (us:=[(8,Z2u 121 Z4 zTern)]) (ur:=[]) [] [] rfl fun S hs hr=>Z7x rfl rfl rfl Z1n)<|Sd (Z1g (us:=[(8,Z2u 121 Z4 x12.1)]) (ur:=[]) [8,21] [] rfl fun S hs hr=>Z89 rfl rfl Z01 ((hs 8 rfl).trans rfl) (vh hs 21 rfl rfl))<|SAs rfl<|Sn<|AW.unpackP 8 9 rfl rfl fun g13=>SR<|Md rfl<|Ac (Z0z rfl rfl (vt rfl)) rfl<|Nl<|Cq rfl h (fun h=>?_) (fun h=>?_)
  ·refine SR<|Ac (Z1o (ps:=[]) (x:=(Vector.replicate 24 zTern)) rfl rfl rfl (by kernel_rfl) Z1l rfl) rfl<|Zf Z02 5 rfl<|Ab rfl<|Nl<|rt ?_
   cases h;exact Z1f Tryz.results351 rfl (Zx rfl (i:=5) rfl Z02) (Z5 rfl)
  ·refine sk<|Rg<|Ac (Z5r rfl rfl (vt rfl) (vk rfl) rfl hlti6) rfl<|Md rfl<|Nl ?_
   exact ⟨(_,_),Nat.lt_succ_self _,⟨hsf1.next,h⟩,FX rfl⟩
def Zjr (i1:Int)(x2:Za)(x3:Za):Option (Tern×Bool):=
 (chk 24 i1).bind fun j5=>(chk 24 i1).bind fun j6=>(Zjd (Vector.get x2 j5) (Vector.get x3 j6)).bind fun x7=>some (x7.1,x7.2)
theorem Yvj:Q3 Tryz.prog 273 (rd (Z0 .i64)) (rp (Z3 24 Z4)) (rp (Z3 24 Z4)) (fun r=>Z12 (rd Z4 r.1) (rd Z6 r.2)) Zjr:=fun i1 x2 x3 r h=>I0 Tryz.func273 rfl Tryz.ntmps273 rfl fun w H Z=>by
 unfold Zjr at h
 refine SR<|Cv rfl (Zm 5 rfl rfl Z1n) fun g4=>Ab rfl<|Nl<|sq ?_
 obtain ⟨j5,hj5,j6,hj6,x7,hx7,h⟩:=bs3 h
 refine AR Z00 (by kernel_rfl)<|Zt rfl<|Sd (lo [1,6] [] rfl fun S hs hr=>Z8t rfl rfl Z2p (vh hs 1 rfl rfl) (vh hs 6 rfl rfl) hj5)<|SLp Z01 rfl<|Zt rfl<|Sd (lo [2,9] [] rfl fun S hs hr=>Z8t rfl rfl Z2p (vh hs 2 rfl rfl) (vh hs 9 rfl rfl) hj6)<|SLp Z01 rfl<|SCl [8,11] (Yba _ _ _ hx7) Y93 rfl<|Sd (lo [12] [] rfl fun S hs hr=>Z1e rfl rfl (vh hs 12 rfl rfl))<|Sd (lo [12] [] rfl fun S hs hr=>Z1a rfl rfl (vh hs 12 rfl rfl))<|SSt Z01 5 rfl<|SAs rfl<|Sn<|rt ?_
 cases h;exact Z1f Tryz.results273 rfl (Zx rfl (i:=5) rfl Z01) (Z5 rfl)
def Zch (a1:Za)(b2:Za):Option (Za×Bool):=
 (Zdp (fun x=>Zjr x a1 b2)).bind fun x6=>some (x6.1,x6.2)
theorem Zt6:Q2 Tryz.prog 200 (rd (Z3 24 Z4)) (rd (Z3 24 Z4)) (fun r=>Z12 (rd (Z3 24 Z4) r.1) (rd Z6 r.2)) Zch:=fun a1 b2 r h=>I0 Tryz.func200 rfl Tryz.ntmps200 rfl fun w H Z=>by
 unfold Zch at h
 refine SR<|Cv rfl (Zs 3 rfl rfl (vt rfl)) fun g3=>Cv rfl (Zs 4 rfl rfl (vt rfl)) fun g4=>Cv rfl (Zm 5 rfl rfl Z1l) fun g5=>Ab rfl<|Nl<|sq<|AW.freezeB 2 3 rfl rfl rfl<|AW.freezeB 3 4 rfl rfl rfl ?_
 obtain ⟨x6,hx6,h⟩:=Z7 h
 refine Rg<|Ac (Y8h (fs:=[]) (FAs:=[]) (cs:=[.tmp 2,.tmp 3]) (CAs:=[rp (Z3 24 Z4) a1,rp (Z3 24 Z4) b2]) (kx:=(Z0 .i64)) (B:=(fun (y:(Tern×Bool))=>Z12 (rd Z4 y.1) (rd Z6 y.2))) (fun x=>Zjr x a1 b2) rfl rfl Yt2 trivial ⟨vt rfl,vt rfl,trivial⟩ (fun x y h=>Yvj _ _ _ y h)) rfl<|Cl [6] (Y6x _ _ hx6) Ycg rfl<|Ac (Z1e rfl rfl (vt rfl)) rfl<|Ac (Z1a rfl rfl (vt rfl)) rfl<|Zf Z02 5 rfl<|As rfl<|Nl<|rt ?_
 cases h;exact Z1f Tryz.results200 rfl (Zx rfl (i:=5) rfl Z02) (Z5 rfl)
end Go.Proofs.YtinplddjjalohaaGreatDoor.W
set_option maxHeartbeats 1000000
set_option maxRecDepth 4000
namespace Go.Proofs.YtinplddjjalohaaGreatDoor.W
open Go Go.Wb
theorem Zus:Ent Tryz.prog 201:=Ent.mk Tryz.func201 rfl rfl
theorem Yf8:Ent Tryz.prog 351:=Ent.mk Tryz.func351 rfl rfl
theorem Zv3:Ent Tryz.prog 200:=Ent.mk Tryz.func200 rfl rfl
theorem Yty:Ent Tryz.prog 230:=Ent.mk Tryz.func230 rfl rfl
theorem Zni:Ent Tryz.prog 148:=Ent.mk Tryz.func148 rfl rfl
theorem Yjj:Ent Tryz.prog 311:=Ent.mk Tryz.func311 rfl rfl
theorem Yae:Ent Tryz.prog 310:=Ent.mk Tryz.func310 rfl rfl
theorem Y3s:Ent Tryz.prog 236:=Ent.mk Tryz.func236 rfl rfl
theorem Y1k:Ent Tryz.prog 238:=Ent.mk Tryz.func238 rfl rfl
def Zjt (w1:walk_way)(x2:Flow):Option (walk_way×Bool):=
 (Ze5 x2).bind fun x6=>(Znx w1.got x6).bind fun x7=>(bif (!x7.2) then some ((⟨(Vector.replicate 24 zTern),(Vector.replicate 24 zTern),[],[]⟩:walk_way),false) else (Zch x7.1 w1.cube).bind fun x9=>some ({w1 with cube:=x9.1},x9.2))
theorem Yex:Q2 Tryz.prog 304 (rd Z22) (rd Z08) (fun r=>Z12 (rd Z22 r.1) (rd Z6 r.2)) Zjt:=fun w1 x2 r h=>I0 Tryz.func304 rfl Tryz.ntmps304 rfl fun w H Z=>by
 unfold Zjt at h
 refine SR<|Cv rfl (Zs 3 rfl rfl (vt rfl)) fun g3=>Cv rfl (Zs 4 rfl rfl (vt rfl)) fun g4=>Cv rfl (Zm 5 rfl rfl Zjk) fun g5=>Ab rfl<|Nl<|sq ?_
 obtain ⟨x6,hx6,x7,hx7,h⟩:=bs2 h
 refine AR Z00 (by kernel_rfl)<|SFd lwalk_way_1 Zof rfl<|Zp Z03 3 rfl<|Zp Z2n 4 rfl<|SCl [11] (Zx1 _ _ hx6) Zus rfl<|SCl [10,12] (Yuw _ _ _ hx7) Yf8 rfl<|Sd (lo [13] [] rfl fun S hs hr=>Zq (A:=Z12 (rd (Z3 24 Z4) x7.1) (rd Z6 x7.2)) rfl rfl (vh hs 13 rfl rfl))<|Sd (lo [8] [] rfl fun S hs hr=>Z1e rfl rfl (vh hs 8 rfl rfl))<|Sd (lo [8] [] rfl fun S hs hr=>Z1a rfl rfl (vh hs 8 rfl rfl))<|Sd (Z1g (us:=[(6,Z2u 123 (Z3 24 Z4) (Vector.replicate 24 zTern))]) (ur:=[]) [] [] rfl fun S hs hr=>Z7x rfl rfl rfl Z1l)<|Sd (Z1g (us:=[(6,Z2u 123 (Z3 24 Z4) x7.1)]) (ur:=[]) [6,14] [] rfl fun S hs hr=>Z89 rfl rfl Z02 ((hs 6 rfl).trans rfl) (vh hs 14 rfl rfl))<|SAs rfl<|Sn<|AW.unpackP 6 7 rfl rfl fun g8=>sq<|SR<|Md rfl<|Ac (Z0z rfl rfl (vt rfl)) rfl<|Nl<|Cq rfl h (fun h=>?_) (fun h=>?_)
 ·refine SR<|Ac (opb (⟨(Vector.replicate 24 zTern),(Vector.replicate 24 zTern),[],[]⟩:walk_way) Zjk rfl Y1n (pn rfl)) rfl<|Zf Z3z 5 rfl<|Ab rfl<|Nl<|rt ?_
  cases h;exact Z1f Tryz.results304 rfl (Zx rfl (i:=5) rfl Z3z) (Z5 rfl)
 ·refine sk<|sq ?_
  obtain ⟨x9,hx9,h⟩:=Z7 h
  refine Rg<|Ld Z02 7 rfl<|Zk lwalk_way_0 Zz9 rfl<|Ld Z02 3 rfl<|Cl [20,22] (Zt6 _ _ _ hx9) Zv3 rfl<|Mt2 rfl<|Ac (Z1e rfl rfl (vt rfl)) rfl<|Ac (Z1a rfl rfl (vt rfl)) rfl<|Zk lwalk_way_0 Zz9 rfl<|Zf Z02 3 rfl<|As rfl<|Nl<|SR<|Ld Z3z 3 rfl<|Md rfl<|Zf Z3z 5 rfl<|As rfl<|Nl<|rt ?_
  cases h;exact Z1f Tryz.results304 rfl (Zx rfl (i:=5) rfl Z3z) (Z5 rfl)
def Zmh (i1:Inst)(x2:Int):Option Bool:=
 some (decide (i1.Kind=x2))
theorem Yx5:Q2 Tryz.prog 230 (rd Z0b) (rp (Z0 .i64)) (rd Z6) Zmh:=fun i1 x2 r h=>I0 Tryz.func230 rfl Tryz.ntmps230 rfl fun w H Z=>by
 unfold Zmh at h
 refine SR<|Cv rfl (Zs 3 rfl rfl (vt rfl)) fun g3=>Ab rfl<|Nl<|SR<|Zk Zfa Zjo rfl<|Ld Zo 3 rfl<|Lp1 Zo rfl<|Ac (Z0m rfl rfl (vt rfl) (vt rfl)) rfl<|As rfl<|Nl<|rt ?_
 cases h;exact Zd Tryz.results230 rfl (Z5 rfl)
def Z7l (s:List Action):Option (List Action):=Z0y [] s
theorem Ztr (s:List Action)(r:List Action)(h:Z7l s=some r):Con Tryz.prog 148 [rd (Z1 Z9) s] emp (fun v=>Zc v) (fun v=>Zg v 219 Z9 r):=by
 refine Con.intro0 Tryz.func148 rfl Tryz.ntmps148 rfl fun w H Z=>?_
 unfold Z7l at h
 refine AW.newnil 1001 219 Z9<|SR<|Ac (Zv (A:=Zc (.slice none 0 0)) rfl rfl vc) rfl<|Nl<|sq<|SR<|Md rfl<|Ct rfl (Zdv rfl rfl Z0h (vt rfl)) ?_
 rintro _ ⟨b,hb,rfl⟩
 refine Nl<|Cn rfl (fun hc=>?_) (fun hc=>?_)
 ·obtain rfl:=hb hc
  refine SR<|Ac (Zv (A:=Zc (.slice none 0 0)) rfl rfl vc) rfl<|Nl<|rt ?_
  obtain rfl:=(Z8k h).2
  exact Z49 (i:=1001) Tryz.results148 rfl rfl rfl
 ·refine sk<|SR<|Cv rfl (Z5g 1002 (ps:=[]) (l:=[]) rfl rfl Z0h Z71 rfl rfl rfl rfl) fun v1=>Md rfl<|Cv rfl (Z2f 1002 h rfl rfl Z9m (vt rfl) rfl (vt rfl)) fun v2=>Aw rfl<|Nl<|rt ?_
  exact Z49 (i:=1002) Tryz.results148 rfl rfl rfl
theorem Zze (s:List Action)(r:List Action)(h:Z7l s=some r):PCon Tryz.prog 148 [rd (Z1 Z9) s] (rd (Z1 Z9) r):=PCon.of_row (Ztr s r h)
def Z6q (l1:(List Inst))(k2:Int):Option (Inst×Bool):=
 (Zhu l1 (fun x=>Zmh x k2)).bind fun x5=>(bif (decide (x5<0)) then some ((⟨0,0,Z0s,Z0s,[]⟩:Inst),false) else (lget l1 x5).bind fun x6=>(Z7l x6.Acts).bind fun x8=>some ({x6 with Acts:=x8},true))
theorem Z9y:Q2 Tryz.prog 139 (rd (Z1 Z0b)) (rd (Z0 .i64)) (fun r=>Z12 (rd Z0b r.1) (rd Z6 r.2)) Z6q:=fun l1 k2 r h=>I0 Tryz.func139 rfl Tryz.ntmps139 rfl fun w H Z=>by
 unfold Z6q at h
 refine SR<|Cv rfl (Zs 4 rfl rfl (vt rfl)) fun g3=>Cv rfl (Zm 5 rfl rfl Z3k) fun g4=>Ab rfl<|Nl<|sq<|AW.freezeB 3 4 rfl rfl rfl ?_
 obtain ⟨x5,hx5,h⟩:=Z7 h
 refine Rg<|Md rfl<|Ac (Z8l (cs:=[.tmp 3]) (CAs:=[rp (Z0 .i64) k2]) (fun x=>Zmh x k2) rfl rfl Yty ⟨vt rfl,trivial⟩ (fun x y h=>Yx5 _ _ y h)) rfl<|Cl [8,9] (Y49 _ _ _ hx5) Y2j rfl<|As rfl<|Nl<|sq<|SR<|Md rfl<|Ac (Zj rfl rfl (vt rfl) (vk rfl)) rfl<|Nl<|Cq rfl h (fun h=>?_) (fun h=>?_)
 ·refine SR<|Ac (opb (⟨0,0,Z0s,Z0s,[]⟩:Inst) Z3k rfl Yau (pn rfl)) rfl<|Zf Z2b 5 rfl<|Ab rfl<|Nl<|rt ?_
  cases h;exact Z1f Tryz.results139 rfl (Zx rfl (i:=5) rfl Z2b) (Z5 rfl)
 ·refine sk<|sq ?_
  obtain ⟨x6,hx6,h⟩:=Z7 h
  refine Rg<|Md rfl<|Md rfl<|Ac (Z0j rfl rfl Z50 (vt rfl) (vt rfl) hx6) rfl<|Lp1 Z2b rfl<|Cv rfl (Zm 8 rfl rfl Z3k) fun g7=>Zf Z2b 8 rfl<|Nl<|sq ?_
  obtain ⟨x8,hx8,h⟩:=Z7 h
  refine Rg<|Zk Z6g Z7h rfl<|Ld Z34 8 rfl<|Cl [19] (Zze _ _ hx8) Zni rfl<|Zk Z6g Z7h rfl<|Zf Z34 8 rfl<|Nl<|SR<|Ld Z2b 8 rfl<|Zf Z2b 5 rfl<|Ab rfl<|Nl<|rt ?_
  cases h;exact Z1f Tryz.results139 rfl (Zx rfl (i:=5) rfl Z2b) (Z5 rfl)
def Zgx (i1:Int)(x2:Za):Option Tern:=
 (chk 24 i1).bind fun j4=>(Z83 (Vector.get x2 j4)).bind fun x5=>some x5
theorem Ydr:Q2 Tryz.prog 311 (rd (Z0 .i64)) (rp (Z3 24 Z4)) (rd Z4) Zgx:=fun i1 x2 r h=>I0 Tryz.func311 rfl Tryz.ntmps311 rfl fun w H Z=>by
 unfold Zgx at h
 refine SR<|Cv rfl (Zm 4 rfl rfl Z1n) fun g3=>Nl<|sq ?_
 obtain ⟨j4,hj4,x5,hx5,h⟩:=bs2 h
 refine Rg<|Md rfl<|Ac (Z8t rfl rfl Z4k (vt rfl) (vt rfl) hj4) rfl<|Lp1 Z01 rfl<|Cl [6] (Zb9 _ _ hx5) Za7 rfl<|Zf Z01 4 rfl<|Nl<|rt ?_
 cases h;exact Zd Tryz.results311 rfl (Zx rfl (i:=4) rfl Z01)
def Zax (x1:(Int→Option Tern)):Nat→Nat→Za→Option Za
 | 0,i6,b5=>some b5
 | m7+1,i6,b5=>(x1 (i6:Int)).bind fun x8=>(chk 24 (i6:Int)).bind fun j9=>(Zax x1 m7) (i6+1) (Vector.set b5 j9.1 x8 j9.2)
def Zh0 (x1:(Int→Option Tern)):Option Za:=
 Zax x1 (24:Int).toNat 0 (Vector.replicate 24 zTern)
theorem Y1e:Q1 Tryz.prog 310 (fn1 Tryz.prog (Z0 .i64) Z4) (rd (Z3 24 Z4)) Zh0:=fun x1 r h=>I0 Tryz.func310 rfl Tryz.ntmps310 rfl fun w H Z=>by
 unfold Zh0 at h
 refine SR<|Cv rfl (Zm 3 rfl rfl Z3v) fun g2=>Nl<|SR<|Cv rfl (Zm 4 rfl rfl Z3v) fun g3=>Nl<|sq<|SR<|Mk rfl<|Nl<|bk<|LG (d:=[]) (ν:=Nat×Nat×Za) (fun (m7,i6,b5)=>(Cnt 24 i6 m7∧Zax x1 m7 i6 b5=some r,m7,[(0,fn1 Tryz.prog (Z0 .i64) Z4 x1),(2,Zb g2 (Lens.id (Z3 24 Z4))),(3,Zb g3 (Lens.id (Z3 24 Z4))),(5,rd (Z0 .i64) (i6:Int))],[(3,Zh g2 131 (Z3 24 Z4) (Vector.replicate 24 zTern)),(4,Zh g3 131 (Z3 24 Z4) b5)])) ((24:Int).toNat,0,(Vector.replicate 24 zTern)) ⟨Cnt.start _,h⟩ (FX rfl) ?_
 rintro ⟨m7,i6,b5⟩ ⟨hsf1,h⟩
 dsimp only at hsf1 h ⊢
 cases m7 with
 | zero=>
  unfold Zax at h
  refine SR<|Ac (Zj rfl rfl (vt rfl) (vk rfl)) rfl<|Nl<|sq<|Cn rfl (fun hc=>absurd (of_decide_eq_true hc) hsf1.zero) (fun hc=>?_)
  refine xt<|SR<|Ld Z03 4 rfl<|Zf Z03 3 rfl<|Nl<|rt ?_
  cases h;exact Zd Tryz.results310 rfl (Zx rfl (i:=3) rfl Z03)
 | succ m7=>
  unfold Zax at h
  refine SR<|Ac (Zj rfl rfl (vt rfl) (vk rfl)) rfl<|Nl<|sq<|Cn rfl (fun hc=>?_) (fun hc=>absurd hsf1.succ (of_decide_eq_false hc))
  have hlti6:=of_decide_eq_true hc
  refine sk<|sq<|bk<|SR<|Md rfl<|As rfl<|Nl ?_
  obtain ⟨x8,hx8,j9,hj9,h⟩:=bs2 h
  refine Rg<|Md rfl<|Ac (Zq (A:=fn1 Tryz.prog (Z0 .i64) Z4 x1) rfl rfl (vt rfl)) rfl<|Md rfl<|Ac (Z9a hx8 rfl rfl (vt rfl) (vt rfl)) rfl<|Ac (Z19 rfl rfl Z4k (vt rfl) (vt rfl) hj9) rfl<|Zf Z01 4 rfl<|Nl<|Rg<|Ac (Z5r rfl rfl (vt rfl) (vk rfl) rfl hlti6) rfl<|Md rfl<|Nl ?_
  exact ⟨(_,_,_),Nat.lt_succ_self _,⟨hsf1.next,h⟩,FX rfl⟩
def Zgm (x1:Za):Option Za:=
 (Zh0 (fun x=>Zgx x x1)).bind fun x4=>some x4
theorem Y94:Q1 Tryz.prog 236 (rd (Z3 24 Z4)) (rd (Z3 24 Z4)) Zgm:=fun x1 r h=>I0 Tryz.func236 rfl Tryz.ntmps236 rfl fun w H Z=>by
 unfold Zgm at h
 refine SR<|Cv rfl (Zs 2 rfl rfl (vt rfl)) fun g2=>Cv rfl (Zm 3 rfl rfl Z3v) fun g3=>Nl<|sq<|AW.freezeB 1 2 rfl rfl rfl ?_
 obtain ⟨x4,hx4,h⟩:=Z7 h
 refine Rg<|Ac (Z8l (cs:=[.tmp 1]) (CAs:=[rp (Z3 24 Z4) x1]) (fun x=>Zgx x x1) rfl rfl Yjj ⟨vt rfl,trivial⟩ (fun x y h=>Ydr _ _ y h)) rfl<|Cl [3] (Y1e _ _ hx4) Yae rfl<|Zf Z03 3 rfl<|Nl<|rt ?_
 cases h;exact Zd Tryz.results236 rfl (Zx rfl (i:=3) rfl Z03)
def Zjx (a1:Tern)(b2:Tern):Option Tern:=
 (Z83 a1).bind fun x6=>(Z83 b2).bind fun x7=>(Zas x6.Value x7.Mask).bind fun x8=>(Z9c x8 x7.Value).bind fun x9=>(Z9c x6.Mask x7.Mask).bind fun x10=>some (⟨x9,x10⟩:Tern)
theorem Y95:Q2 Tryz.prog 238 (rd Z4) (rd Z4) (rd Z4) Zjx:=fun a1 b2 r h=>I0 Tryz.func238 rfl Tryz.ntmps238 rfl fun w H Z=>by
 unfold Zjx at h
 refine SR<|Cv rfl (Zs 3 rfl rfl (vt rfl)) fun g3=>Cv rfl (Zs 4 rfl rfl (vt rfl)) fun g4=>Cv rfl (Zm 5 rfl rfl Z1n) fun g5=>Nl<|sq ?_
 obtain ⟨x6,hx6,x7,hx7,h⟩:=bs2 h
 refine AR Z00 (by kernel_rfl)<|Zp Z01 3 rfl<|SCl [5] (Zb9 _ _ hx6) Za7 rfl<|Zp Z01 4 rfl<|SCl [7] (Zb9 _ _ hx7) Za7 rfl<|SSt Z01 3 rfl<|SSt Z01 4 rfl<|Sn<|sq ?_
 obtain ⟨x8,hx8,x9,hx9,x10,hx10,h⟩:=bs3 h
 refine AR Z00 (by kernel_rfl)<|SFd lTern_0 Z32 rfl<|Zp Zw 3 rfl<|SFd lTern_1 Z2g rfl<|Zp Zw 4 rfl<|SCl [10,12] (Ziy _ _ _ hx8) Zj6 rfl<|SFd lTern_0 Z32 rfl<|Zp Zw 4 rfl<|SCl [13,15] (Zej _ _ _ hx9) Zeo rfl<|SFd lTern_1 Z2g rfl<|Zp Zw 3 rfl<|SFd lTern_1 Z2g rfl<|Zp Zw 4 rfl<|SCl [18,20] (Zej _ _ _ hx10) Zeo rfl<|Sd (lo [16,21] [] rfl fun S hs hr=>opb (⟨x9,x10⟩:Tern) Z1n rfl Z4x (pc Z5x (vh hs 16 rfl rfl)<|pc Z6e (vh hs 21 rfl rfl)<|pn rfl))<|SSt Z01 5 rfl<|Sn<|rt ?_
 cases h;exact Zd Tryz.results238 rfl (Zx rfl (i:=5) rfl Z01)
def Z9x (x1:Za)(x2:Int)(x3:Wide)(m4:Wide):Option Za:=
 (Zgm x1).bind fun x9=>(Z9v x2).bind fun x10=>(bif x10 then (chk 24 x2).bind fun j11=>(Zjx (Vector.get x9 j11) (⟨x3,m4⟩:Tern)).bind fun x12=>(chk 24 x2).bind fun j13=>some (Vector.set x9 j13.1 x12 j13.2) else some x9)
theorem Zha:Q4 Tryz.prog 142 (rd (Z3 24 Z4)) (rd (Z0 .i64)) (rd Zn) (rd Zn) (rd (Z3 24 Z4)) Z9x:=fun x1 x2 x3 m4 r h=>I0 Tryz.func142 rfl Tryz.ntmps142 rfl fun w H Z=>by
 unfold Z9x at h
 refine SR<|Cv rfl (Zs 5 rfl rfl (vt rfl)) fun g5=>Cv rfl (Zs 7 rfl rfl (vt rfl)) fun g6=>Cv rfl (Zs 8 rfl rfl (vt rfl)) fun g7=>Cv rfl (Zm 9 rfl rfl Z3v) fun g8=>Nl<|sq ?_
 obtain ⟨x9,hx9,h⟩:=Z7 h
 refine Rg<|Ld Z03 5 rfl<|Cl [9] (Y94 _ _ hx9) Y3s rfl<|Zf Z03 5 rfl<|Nl<|sq<|sq ?_
 obtain ⟨x10,hx10,h⟩:=Z7 h
 refine Rg<|Md rfl<|Cl [11] (Zqv _ _ hx10) Zq3 rfl<|Nl<|Cq rfl h (fun h=>?_) (fun h=>?_)
 ·obtain ⟨j11,hj11,x12,hx12,j13,hj13,h⟩:=bs3 h
  refine AR Z00 (by kernel_rfl)<|Zt rfl<|Zt rfl<|Sd (lo [4,14] [] rfl fun S hs hr=>Z19 rfl rfl Z4k (vh hs 4 rfl rfl) (vh hs 14 rfl rfl) hj11)<|Zp Z01 5 rfl<|Zp Zw 7 rfl<|Zp Zw 8 rfl<|Sd (lo [17,18] [] rfl fun S hs hr=>opb (⟨x3,m4⟩:Tern) Z1n rfl Z4x (pc Z5x (vh hs 17 rfl rfl)<|pc Z6e (vh hs 18 rfl rfl)<|pn rfl))<|SCl [16,19] (Y95 _ _ _ hx12) Y1k rfl<|Sd (lo [4,13] [] rfl fun S hs hr=>Z19 rfl rfl Z4k (vh hs 4 rfl rfl) (vh hs 13 rfl rfl) hj13)<|SSt Z01 5 rfl<|Sn<|SR<|Ld Z03 5 rfl<|Zf Z03 9 rfl<|Nl<|rt ?_
  cases h;exact Zd Tryz.results142 rfl (Zx rfl (i:=9) rfl Z03)
 ·refine sk<|SR<|Ld Z03 5 rfl<|Zf Z03 9 rfl<|Nl<|rt ?_
  cases h;exact Zd Tryz.results142 rfl (Zx rfl (i:=9) rfl Z03)
end Go.Proofs.YtinplddjjalohaaGreatDoor.W
set_option maxHeartbeats 1000000
set_option maxRecDepth 4000
namespace Go.Proofs.YtinplddjjalohaaGreatDoor.W
open Go Go.Wb
theorem Zvq:Ent Tryz.prog 143:=Ent.mk Tryz.func143 rfl rfl
theorem Zgy:Ent Tryz.prog 142:=Ent.mk Tryz.func142 rfl rfl
theorem Zpt:Ent Tryz.prog 356:=Ent.mk Tryz.func356 rfl rfl
theorem Yf5:Ent Tryz.prog 400:=Ent.mk Tryz.func400 rfl rfl
theorem Y3d:Ent Tryz.prog 315:=Ent.mk Tryz.func315 rfl rfl
theorem Ygs:Ent Tryz.prog 397:=Ent.mk Tryz.func397 rfl rfl
theorem Yql:Ent Tryz.prog 393:=Ent.mk Tryz.func393 rfl rfl
theorem Ydk:Ent Tryz.prog 392:=Ent.mk Tryz.func392 rfl rfl
theorem Yp7:Ent Tryz.prog 379:=Ent.mk Tryz.func379 rfl rfl
def Zcc (i1:Int):Option Wide:=
 (bif ((decide (i1<0))||(decide (i1>127))) then some (⟨0,0⟩:Wide) else (Zhg .i64 i1 64).bind fun q4=>(Zb8 i1 64).bind fun q5=>(Zae (1:BitVec 64) q5).bind fun q6=>(chk 2 q4).bind fun j7=>some (⟨(Vector.get (Vector.set (Vector.replicate 2 0) j7.1 q6 j7.2) (⟨1,by decide⟩:_root_.Fin 2)),(Vector.get (Vector.set (Vector.replicate 2 0) j7.1 q6 j7.2) (⟨0,by decide⟩:_root_.Fin 2))⟩:Wide))
theorem Zqn:Q1 Tryz.prog 356 (rd (Z0 .i64)) (rd Zn) Zcc:=fun i1 r h=>I0 Tryz.func356 rfl Tryz.ntmps356 rfl fun w H Z=>by
 unfold Zcc at h
 refine SR<|Cv rfl (Zm 3 rfl rfl Z2c) fun g2=>Nl<|SR<|Cv rfl (Zm 4 rfl rfl Ynj) fun g3=>Nl<|sq<|SR<|Md rfl<|Ac (Zj rfl rfl (vt rfl) (vk rfl)) rfl<|Md rfl<|Gd rfl (fun hq=>Zq (A:=rd (Z0 .i64) i1) rfl rfl (vt rfl))<|Gd rfl (fun hq=>Z2s rfl rfl (Zi rfl hq) (vk rfl))<|Ac (Z4d rfl rfl (vt rfl) (vt rfl)) rfl<|Nl<|Cq rfl h (fun h=>?_) (fun h=>?_)
 ·refine SR<|Ac (opb (⟨0,0⟩:Wide) Z2c rfl Z4t (pn rfl)) rfl<|Zf Zw 3 rfl<|Nl<|rt ?_
  cases h;exact Zd Tryz.results356 rfl (Zx rfl (i:=3) rfl Zw)
 ·refine sk<|sq ?_
  obtain ⟨q4,hq4,q5,hq5,q6,hq6,j7,hj7,h⟩:=bs4 h
  refine Rg<|Md rfl<|Ac (Ykj rfl rfl (vt rfl) (vk rfl) hq4) rfl<|Md rfl<|Ac (Y8t rfl rfl (vt rfl) (vk rfl) hq5) rfl<|Ac (Zph rfl rfl (vku (1:BitVec 64) rfl) (vt rfl) hq6) rfl<|Ac (Z19 rfl rfl Zzg (vt rfl) (vt rfl) hj7) rfl<|Zf Z1h 4 rfl<|Nl<|SR<|Ac (Z19 rfl rfl Zzg (vt rfl) (vk rfl) rfl) rfl<|Ld Z1h 4 rfl<|Ac (Z19 rfl rfl Zzg (vt rfl) (vk rfl) rfl) rfl<|Ld Z1h 4 rfl<|Ac (opb (⟨(Vector.get (Vector.set (Vector.replicate 2 0) j7.1 q6 j7.2) (⟨1,by decide⟩:_root_.Fin 2)),(Vector.get (Vector.set (Vector.replicate 2 0) j7.1 q6 j7.2) (⟨0,by decide⟩:_root_.Fin 2))⟩:Wide) Z2c rfl Z4t (pc Z8y (vt rfl)<|pc Z8i (vt rfl)<|pn rfl)) rfl<|Zf Zw 3 rfl<|Nl<|rt ?_
  cases h;exact Zd Tryz.results356 rfl (Zx rfl (i:=3) rfl Zw)
def Zgn (a1:Action):Option Za:=
 (Zby).bind fun x4=>(bif (decide (a1.Kind=25)) then (Zga a1.Oxm).bind fun x6=>(Z9x x4 a1.Oxm.Field x6.Value x6.Mask).bind fun x8=>some x8 else (bif (decide (a1.Kind=17)) then (Zcc 12).bind fun x9=>(Zcc 12).bind fun x10=>(Z9x x4 5 x9 x10).bind fun x11=>some x11 else (bif (decide (a1.Kind=18)) then (Zar 13).bind fun x12=>(Z9x x4 5 (⟨0,0⟩:Wide) x12).bind fun x13=>(Zar 3).bind fun x14=>(Z9x x13 6 (⟨0,0⟩:Wide) x14).bind fun x15=>some x15 else some x4)))
theorem Y5a:Q1 Tryz.prog 315 (rd Z9) (rd (Z3 24 Z4)) Zgn:=fun a1 r h=>I0 Tryz.func315 rfl Tryz.ntmps315 rfl fun w H Z=>by
 unfold Zgn at h
 refine SR<|Cv rfl (Zs 2 rfl rfl (vt rfl)) fun g2=>Cv rfl (Zm 3 rfl rfl Z3v) fun g3=>Nl<|sq ?_
 obtain ⟨x4,hx4,h⟩:=Z7 h
 refine Rg<|Cl [] (Zym _ hx4) Zvq rfl<|Cv rfl (Zm 4 rfl rfl Z3v) fun g5=>Zf Z03 4 rfl<|Nl<|sq<|SR<|Zk Z5t Z67 rfl<|Ld Zo 2 rfl<|Nl<|bk<|SR<|Ac (Z0m rfl rfl (vt rfl) (vk rfl)) rfl<|As rfl<|Nl<|Cq rfl h (fun h=>?_) (fun h=>?_)
 ·refine sq ?_
  obtain ⟨x6,hx6,h⟩:=Z7 h
  refine Rg<|Zk Z9s Zaa rfl<|Ld Z7p 2 rfl<|Cl [11] (Yam _ _ hx6) Y8v rfl<|Cv rfl (Zm 5 rfl rfl Z1n) fun g7=>Zf Z01 5 rfl<|Nl ?_
  obtain ⟨x8,hx8,h⟩:=Z7 h
  refine Rg<|Ld Z03 4 rfl<|Zk Z9s Zaa rfl<|Zk Z4w Z52 rfl<|Ld Zo 2 rfl<|Zk lTern_0 Z32 rfl<|Ld Zw 5 rfl<|Zk lTern_1 Z2g rfl<|Ld Zw 5 rfl<|Cl [13,16,18,20] (Zha _ _ _ _ _ hx8) Zgy rfl<|Zf Z03 4 rfl<|Nl<|SR<|Ld Z03 4 rfl<|Zf Z03 3 rfl<|Nl<|rt ?_
  cases h;exact Zd Tryz.results315 rfl (Zx rfl (i:=3) rfl Z03)
 ·refine SR<|Ac (Z0m rfl rfl (vt rfl) (vk rfl)) rfl<|As rfl<|Nl<|Cq rfl h (fun h=>?_) (fun h=>?_)
  ·obtain ⟨x9,hx9,x10,hx10,x11,hx11,h⟩:=bs3 h
   refine AR Z00 (by kernel_rfl)<|Zp Z03 4 rfl<|Sd (lo [] [] rfl fun S hs hr=>Z0g (xs:=[.const (Value.int IntKind.i64 12)]) (Zqn _ _ hx9) Zpt rfl rfl ⟨vk rfl,trivial⟩)<|Sd (lo [] [] rfl fun S hs hr=>Z0g (xs:=[.const (Value.int IntKind.i64 12)]) (Zqn _ _ hx10) Zpt rfl rfl ⟨vk rfl,trivial⟩)<|Sd (lo [24,25,26] [] rfl fun S hs hr=>Z0g (xs:=[.tmp 24,.const (Value.int IntKind.i64 5),.tmp 25,.tmp 26]) (Zha _ _ _ _ _ hx11) Zgy rfl rfl ⟨vt ((hs 24 rfl).trans rfl),vk rfl,vt ((hs 25 rfl).trans rfl),vt ((hs 26 rfl).trans rfl),trivial⟩)<|SSt Z03 4 rfl<|Sn<|SR<|Ld Z03 4 rfl<|Zf Z03 3 rfl<|Nl<|rt ?_
   cases h;exact Zd Tryz.results315 rfl (Zx rfl (i:=3) rfl Z03)
  ·refine SR<|Ac (Z0m rfl rfl (vt rfl) (vk rfl)) rfl<|As rfl<|Nl<|Cq rfl h (fun h=>?_) (fun h=>?_)
   ·refine sq ?_
    obtain ⟨x12,hx12,x13,hx13,h⟩:=bs2 h
    refine AR Z00 (by kernel_rfl)<|Zp Z03 4 rfl<|Sd (lo [] [] rfl fun S hs hr=>opb (⟨0,0⟩:Wide) Z2c rfl Z4t (pn rfl))<|Sd (lo [] [] rfl fun S hs hr=>Z0g (xs:=[.const (Value.int IntKind.i64 13)]) (Zyt _ _ hx12) Zwc rfl rfl ⟨vk rfl,trivial⟩)<|Sd (lo [30,31,32] [] rfl fun S hs hr=>Z0g (xs:=[.tmp 30,.const (Value.int IntKind.i64 5),.tmp 31,.tmp 32]) (Zha _ _ _ _ _ hx13) Zgy rfl rfl ⟨vt ((hs 30 rfl).trans rfl),vk rfl,vt ((hs 31 rfl).trans rfl),vt ((hs 32 rfl).trans rfl),trivial⟩)<|SSt Z03 4 rfl<|Sn ?_
    obtain ⟨x14,hx14,x15,hx15,h⟩:=bs2 h
    refine AR Z00 (by kernel_rfl)<|Zp Z03 4 rfl<|Sd (lo [] [] rfl fun S hs hr=>opb (⟨0,0⟩:Wide) Z2c rfl Z4t (pn rfl))<|Sd (lo [] [] rfl fun S hs hr=>Z0g (xs:=[.const (Value.int IntKind.i64 3)]) (Zyt _ _ hx14) Zwc rfl rfl ⟨vk rfl,trivial⟩)<|Sd (lo [34,35,36] [] rfl fun S hs hr=>Z0g (xs:=[.tmp 34,.const (Value.int IntKind.i64 6),.tmp 35,.tmp 36]) (Zha _ _ _ _ _ hx15) Zgy rfl rfl ⟨vt ((hs 34 rfl).trans rfl),vk rfl,vt ((hs 35 rfl).trans rfl),vt ((hs 36 rfl).trans rfl),trivial⟩)<|SSt Z03 4 rfl<|Sn<|SR<|Ld Z03 4 rfl<|Zf Z03 3 rfl<|Nl<|rt ?_
    cases h;exact Zd Tryz.results315 rfl (Zx rfl (i:=3) rfl Z03)
   ·refine sk<|SR<|Ld Z03 4 rfl<|Zf Z03 3 rfl<|Nl<|rt ?_
    cases h;exact Zd Tryz.results315 rfl (Zx rfl (i:=3) rfl Z03)
def Zhd (i1:Int)(x2:Za)(x3:Za):Option Tern:=
 (chk 24 i1).bind fun j5=>(chk 24 i1).bind fun j6=>(Zjx (Vector.get x2 j5) (Vector.get x3 j6)).bind fun x7=>some x7
theorem Yw2:Q3 Tryz.prog 400 (rd (Z0 .i64)) (rp (Z3 24 Z4)) (rp (Z3 24 Z4)) (rd Z4) Zhd:=fun i1 x2 x3 r h=>I0 Tryz.func400 rfl Tryz.ntmps400 rfl fun w H Z=>by
 unfold Zhd at h
 refine SR<|Cv rfl (Zm 5 rfl rfl Z1n) fun g4=>Nl<|sq ?_
 obtain ⟨j5,hj5,j6,hj6,x7,hx7,h⟩:=bs3 h
 refine AR Z00 (by kernel_rfl)<|Zt rfl<|Sd (lo [1,5] [] rfl fun S hs hr=>Z8t rfl rfl Z4k (vh hs 1 rfl rfl) (vh hs 5 rfl rfl) hj5)<|SLp Z01 rfl<|Zt rfl<|Sd (lo [2,8] [] rfl fun S hs hr=>Z8t rfl rfl Z4k (vh hs 2 rfl rfl) (vh hs 8 rfl rfl) hj6)<|SLp Z01 rfl<|SCl [7,10] (Y95 _ _ _ hx7) Y1k rfl<|SSt Z01 5 rfl<|Sn<|rt ?_
 cases h;exact Zd Tryz.results400 rfl (Zx rfl (i:=5) rfl Z01)
def Zjv (a1:Za)(b2:Za):Option Za:=
 (Zh0 (fun x=>Zhd x a1 b2)).bind fun x6=>some x6
theorem Ym6:Q2 Tryz.prog 397 (rd (Z3 24 Z4)) (rd (Z3 24 Z4)) (rd (Z3 24 Z4)) Zjv:=fun a1 b2 r h=>I0 Tryz.func397 rfl Tryz.ntmps397 rfl fun w H Z=>by
 unfold Zjv at h
 refine SR<|Cv rfl (Zs 3 rfl rfl (vt rfl)) fun g3=>Cv rfl (Zs 4 rfl rfl (vt rfl)) fun g4=>Cv rfl (Zm 5 rfl rfl Z3v) fun g5=>Nl<|sq<|AW.freezeB 2 3 rfl rfl rfl<|AW.freezeB 3 4 rfl rfl rfl ?_
 obtain ⟨x6,hx6,h⟩:=Z7 h
 refine Rg<|Ac (Z8l (cs:=[.tmp 2,.tmp 3]) (CAs:=[rp (Z3 24 Z4) a1,rp (Z3 24 Z4) b2]) (fun x=>Zhd x a1 b2) rfl rfl Yf5 ⟨vt rfl,vt rfl,trivial⟩ (fun x y h=>Yw2 _ _ _ y h)) rfl<|Cl [5] (Y1e _ _ hx6) Yae rfl<|Zf Z03 5 rfl<|Nl<|rt ?_
 cases h;exact Zd Tryz.results397 rfl (Zx rfl (i:=5) rfl Z03)
def Zds (t1:Z6r)(b7:Atom):Option Z6r:=
 (Z0y t1.atoms [b7]).bind fun l8=>some (⟨t1.got,l8⟩:Z6r)
def Zen (t1:Z6r)(a4:Action):Option Z6r:=
 (bif (decide (a4.Kind=0)) then (bif (decide (a4.Port=4294967293)) then Zds t1 {{(⟨t1.got,false,0,0⟩:Atom) with Port:=a4.Port} with Max:=a4.Max} else Zds t1 {(⟨t1.got,false,0,0⟩:Atom) with Port:=a4.Port}) else (bif (decide (a4.Kind=22)) then Zds t1 {{(⟨t1.got,false,0,0⟩:Atom) with Group:=true} with Port:=a4.Group} else (Zgn a4).bind fun x10=>(Zjv t1.got x10).bind fun x11=>some (⟨x11,t1.atoms⟩:Z6r)))
theorem Yyu (g2 gT:Nat)(t1:Z6r)(a4:Action)(r:Z6r)(h:Zen t1 a4=some r):Con Tryz.prog 393 [Zb g2 (Lens.id Z65),rd Z9 a4] (Z1b g2 gT Z65 (fun v=>(⟨t1.got,v⟩:atom_trace_o1)) 296 Z0r t1.atoms) (fun _:Unit=>top) (fun _=>Z1b g2 gT Z65 (fun v=>(⟨r.got,v⟩:atom_trace_o1)) 296 Z0r r.atoms):=by
 refine Con.intro Tryz.func393 rfl Tryz.ntmps393 rfl fun w H X Z=>?_
 unfold Zen at h
 refine AW.unboxF 0 2001 (by decide) rfl rfl fun v3=>SR<|Cv rfl (Zs 4 rfl rfl (vt rfl)) fun g5=>Nl<|SR<|Mp rfl<|Nc rfl<|Zk latom_trace_o1_0 Zoy rfl<|Ld Z03 0 rfl<|Ac (opb (⟨t1.got,false,0,0⟩:Atom) Z87 rfl Zte (pc Zvi (vt rfl)<|pn rfl)) rfl<|Cv rfl (Zm 5 rfl rfl Z87) fun g6=>Zf Zop 5 rfl<|Nl ?_
 refine JN (d:=[]) (ν:=Atom) (fun b7=>(Zds t1 b7=some r,[(0,Zb g2 (Lens.id Z65)),(4,Zb g6 (Lens.id Z0r))],[(0,Zh g2 gT Z65 (⟨t1.got,v3⟩:atom_trace_o1)),(5,Zh g6 296 Z0r b7),(2001,Zg v3 296 Z0r t1.atoms)])) ?hx1 ?hy1
 case hy1=>
  intro b7 h
  dsimp only at h ⊢
  unfold Zds at h
  obtain ⟨l8,hl8,h⟩:=Z7 h
  refine AW.endT<|AR Z00 (by kernel_rfl)<|SMp rfl<|SMp rfl<|SNc rfl<|SFd Zjy Zz2 rfl<|Sd (lo [42] [0] rfl fun S hs hr=>Zcf v3 rfl rfl Ztq (vh hs 42 rfl rfl) (i:=0) ((hr 0 rfl).trans rfl) rfl)<|Zp Zop 5 rfl<|Sd (lo [44] [] rfl fun S hs hr=>osl Z8p Z87 rfl (vh hs 44 rfl rfl))<|Sd (Z1g (us:=[(46,Z25 296 Z0r l8)]) (ur:=[(2001,emp)]) [43,45] [2001] rfl fun S hs hr=>Z9l 2001 hl8 rfl rfl rfl Zap (vh hs 43 rfl rfl) ((hr 2001 rfl).trans rfl) (vh hs 45 rfl rfl))<|SNc rfl<|SFd Zjy Zz2 rfl<|Sd (Z1g (us:=[(46,top)]) (ur:=[(0,Z1b g2 gT Z65 (fun v=>((Lens.comp (Lens.id Z65) Zjy)).set (⟨t1.got,v3⟩:atom_trace_o1) v) 296 Z0r l8)]) [48,46] [0] rfl fun S hs hr=>Zu0 rfl rfl Ztq (vh hs 48 rfl rfl) ((hr 0 rfl).trans rfl) ((hs 46 rfl).trans rfl))<|Sn<|EndT.unboxF 0 2001 (by decide) rfl rfl fun v9=>EndT.done ?_
  cases h;exact RetOK.turn (Turn.packF 0 2001 (fun v=>(⟨t1.got,v⟩:atom_trace_o1)) (by decide) rfl rfl) (Z2e (i:=0) Tryz.results393 rfl rfl)
 case hx1=>
  refine SR<|Zk Z5t Z67 rfl<|Ld Zo 4 rfl<|Nl<|bk<|SR<|Ac (Z0m rfl rfl (vt rfl) (vk rfl)) rfl<|As rfl<|Nl<|Cq rfl h (fun h=>?_) (fun h=>?_)
  ·refine SR<|Zk Zgl Zju rfl<|Ld Zo 4 rfl<|Zk lAtom_2 Zwi rfl<|Zf Zo 5 rfl<|Nl<|SR<|Zk Zgl Zju rfl<|Ld Zo 4 rfl<|Ac (Z0m rfl rfl (vt rfl) (vk rfl)) rfl<|Nl<|Cq rfl h (fun h=>?_) (fun h=>?_)
   ·refine Rg<|Zk Zse Zw1 rfl<|Ld Zo 4 rfl<|Zk Zzt Y4b rfl<|Zf Zo 5 rfl<|Nl ?_
    exact ⟨_,h,FX rfl⟩
   ·refine sk ?_
    exact ⟨_,h,FX rfl⟩
  ·refine SR<|Ac (Z0m rfl rfl (vt rfl) (vk rfl)) rfl<|As rfl<|Nl<|Cq rfl h (fun h=>?_) (fun h=>?_)
   ·refine AR Z00 (by kernel_rfl)<|SFd Zs6 Zy6 rfl<|Zp Zo 4 rfl<|SFd lAtom_1 Yka rfl<|Sd (Z4q [37] [5] rfl fun S hs hr=>Z76 rfl rfl ty4 (vh hs 37 rfl rfl) (i:=5) ((hr 5 rfl).trans rfl) vb)<|SFd lAtom_2 Zwi rfl<|SSt Zo 5 rfl<|Sn ?_
    exact ⟨_,h,FX rfl⟩
   ·refine sq ?_
    obtain ⟨x10,hx10,x11,hx11,h⟩:=bs2 h
    refine AR Z00 (by kernel_rfl)<|SMp rfl<|SMp rfl<|SNc rfl<|SFd latom_trace_o1_0 Zoy rfl<|Zp Z03 0 rfl<|Zp Z11 4 rfl<|SCl [17] (Y5a _ _ hx10) Y3d rfl<|SCl [16,18] (Ym6 _ _ _ hx11) Ygs rfl<|SNc rfl<|SFd latom_trace_o1_0 Zoy rfl<|SSt Z03 0 rfl<|Sn<|rt ?_
    cases h;exact RetOK.turn (Turn.packF 0 2001 (fun v=>(⟨x11,v⟩:atom_trace_o1)) (by decide) rfl rfl) (Z2e (i:=0) Tryz.results393 rfl rfl)
def Zcx (sg:Type)(d2:(sg→Action→Option sg)):(List Action)→Nat→sg→Option sg
 | [],i6,s5=>some s5
 | x8::l7,i6,s5=>(d2 s5 x8).bind fun s10=>(Zcx sg d2 l7) (i6+1) s10
def Zqm (l1:(List Action))(sg:Type)(d2:(sg→Action→Option sg))(s3:sg):Option sg:=
 Zcx sg d2 l1 0 s3
theorem Yr1 (l1:(List Action))(sg:Type)(d2:(sg→Action→Option sg))(L:sg→Zu)(s3:sg)(r:sg)(h:Zqm l1 sg d2 s3=some r):Con Tryz.prog 392 [rd (Z1 Z9) l1,stA Tryz.prog Z9 d2 L] (L s3) (fun _:Unit=>top) (fun _=>L r):=by
 refine Con.intro Tryz.func392 rfl Tryz.ntmps392 rfl fun w H X Z=>?_
 unfold Zqm at h
 refine SR<|Md rfl<|Ac (Z0i rfl rfl Z0h (vt rfl)) rfl<|Mk rfl<|Nl<|bk<|LG (d:=[]) (ν:=(List Action)×Nat×sg) (fun (l7,i6,s5)=>(Sfx l1 i6 l7∧Zcx sg d2 l7 i6 s5=some r,l7.length,[(1,stA Tryz.prog Z9 d2 L),(6,rd (Z1 Z9) l1),(7,rd (Z0 .i64) (l1.length:Int)),(8,rd (Z0 .i64) (i6:Int))],[(0,L s5)])) (l1,0,s3) ⟨Sfx.start _,h⟩ (FX rfl) ?_
 rintro ⟨l7,i6,s5⟩ ⟨hsf1,h⟩
 dsimp only at hsf1 h ⊢
 cases l7 with
 | nil=>
  unfold Zcx at h
  refine SR<|Ac (Zj rfl rfl (vt rfl) (vt rfl)) rfl<|Nl<|sq<|Cn rfl (fun hc=>absurd (of_decide_eq_true hc) hsf1.nil) (fun hc=>?_)
  refine xt ?_
  cases h;exact Z2e (i:=0) Tryz.results392 rfl rfl
 | cons x8 l7=>
  unfold Zcx at h
  refine SR<|Ac (Zj rfl rfl (vt rfl) (vt rfl)) rfl<|Nl<|sq<|Cn rfl (fun hc=>?_) (fun hc=>absurd hsf1.cons (of_decide_eq_false hc))
  have hlti6:=of_decide_eq_true hc
  refine sk<|sq<|bk<|SR<|Ac (Z0j rfl rfl Z0h (vt rfl) (vt rfl) hsf1.lget) rfl<|Lp1 Z11 rfl<|Cv rfl (Zm 6 rfl rfl Z71) fun g9=>Zf Z11 6 rfl<|Nl ?_
  obtain ⟨s10,hs10,h⟩:=Z7 h
  refine Rg<|Ac (Zq (A:=stA Tryz.prog Z9 d2 L) rfl rfl (vt rfl)) rfl<|Ld Z11 6 rfl<|Ac (Yqr 0 hs10 rfl rfl (vt rfl) (vt rfl) rfl) rfl<|Nl<|Rg<|Ac (Z13 (t:=7) rfl rfl (vt rfl) (vk rfl) (vt rfl) hlti6) rfl<|Md rfl<|Nl ?_
  exact ⟨(_,_,_),Nat.lt_succ_self _,⟨hsf1.next,h⟩,FX rfl⟩
def Zm1 (a1:(List Action))(x2:Za):Option ((List Atom)×Za):=
 (Zgm x2).bind fun x5=>(Zqm a1 Z6r (fun s x=>Zen s x) (⟨x5,[]⟩:Z6r)).bind fun b7=>some (b7.atoms,b7.got)
theorem Yws:Q2 Tryz.prog 379 (rd (Z1 Z9)) (rd (Z3 24 Z4)) (fun r=>Z12 (rd (Z1 Z0r) r.1) (rd (Z3 24 Z4) r.2)) Zm1:=fun a1 x2 r h=>I0 Tryz.func379 rfl Tryz.ntmps379 rfl fun w H Z=>by
 unfold Zm1 at h
 refine SR<|Cv rfl (Zs 4 rfl rfl (vt rfl)) fun g3=>Ac (Zv (A:=rd (Z1 Z0r) []) rfl rfl Z1j) rfl<|Cv rfl (Zm 6 rfl rfl Z3v) fun g4=>Nl<|sq<|AW.newnil 2221 296 Z0r ?_
 obtain ⟨x5,hx5,h⟩:=Z7 h
 refine Rg<|Ld Z03 4 rfl<|Cl [7] (Y94 _ _ hx5) Y3s rfl<|Ac (opb (⟨x5,(.slice none 0 0)⟩:atom_trace_o1) Yky rfl Yl6 (pc Yz6 (vt rfl)<|pn rfl)) rfl<|Cv rfl (Zs 11 rfl rfl (vt rfl)) fun g6=>Ac (Zv (A:=Zb g6 (Lens.id Z65)) rfl rfl (vt rfl)) rfl<|Nl<|sq ?_
 obtain ⟨b7,hb7,h⟩:=Z7 h
 refine Rg<|Md rfl<|Mp rfl<|Ac (Yjp (fs:=[.tmp 12]) (cs:=[]) (FAs:=[Zb g6 (Lens.id Z65)]) (CAs:=[]) (k:=Z9) (fun s x=>Zen s x) (fun (s:Z6r)=>Z1b g6 416 Z65 (fun v=>(⟨s.got,v⟩:atom_trace_o1)) 296 Z0r s.atoms) rfl rfl Yql ⟨vt rfl,trivial⟩ trivial (fun s x s2 h=>Yyu _ _ s x s2 h)) rfl<|AOps.packF 11 2221 (fun v=>(⟨x5,v⟩:atom_trace_o1)) (by decide) rfl rfl<|Cv rfl (Z1c 11 (xs:=[.tmp 11,.tmp 13]) (Yr1 _ Z6r _ (fun (s:Z6r)=>Z1b g6 416 Z65 (fun v=>(⟨s.got,v⟩:atom_trace_o1)) 296 Z0r s.atoms) _ _ hb7) Ydk rfl rfl ⟨vt rfl,vt rfl,trivial⟩ rfl) fun _u=>AOps.unboxF 11 2221 (by decide) rfl rfl fun v8=>Nl<|sq<|AR Z00 (by kernel_rfl)<|SMp rfl<|SNc rfl<|SFd Zjy Zz2 rfl<|Sd (lo [17] [11] rfl fun S hs hr=>Zcf v8 rfl rfl Ztq (vh hs 17 rfl rfl) (i:=11) ((hr 11 rfl).trans rfl) rfl)<|SMp rfl<|SNc rfl<|SFd latom_trace_o1_0 Zoy rfl<|Zp Z03 11 rfl<|Sd (lo [18] [] rfl fun S hs hr=>Zv (A:=Zc v8) rfl rfl (vh hs 18 rfl rfl))<|SSt Z03 6 rfl<|Sn<|AW.freezes [4,18] 2221 rfl ⟨rfl,rfl,trivial⟩ rfl<|rt ?_
 cases h;exact Z1f Tryz.results379 rfl (Z5 rfl) (Zx rfl (i:=6) rfl Z03)
def Zeg (w1:walk_way)(l2:(List Action)):Option walk_way:=
 (Zm1 l2 w1.got).bind fun x5=>(Z4j w1.atoms (w1.atoms.length:Int)).bind fun s7=>(Z0y s7 x5.1).bind fun l8=>some {{w1 with atoms:=l8} with got:=x5.2}
theorem Y15:Q2 Tryz.prog 352 (rd Z22) (rd (Z1 Z9)) (rd Z22) Zeg:=fun w1 l2 r h=>I0 Tryz.func352 rfl Tryz.ntmps352 rfl fun w H Z=>by
 unfold Zeg at h
 refine SR<|Cv rfl (Zs 3 rfl rfl (vt rfl)) fun g3=>Cv rfl (Zm 5 rfl rfl Zjk) fun g4=>Nl<|sq ?_
 obtain ⟨x5,hx5,h⟩:=Z7 h
 refine Rg<|Md rfl<|Zk lwalk_way_1 Zof rfl<|Ld Z03 3 rfl<|Cl [8,10] (Yws _ _ _ hx5) Yp7 rfl<|Mt2 rfl<|Ac (Z1e rfl rfl (vt rfl)) rfl<|Ac (Z1a rfl rfl (vt rfl)) rfl<|Cv rfl (Zm 7 rfl rfl Z3v) fun g6=>As rfl<|Zf Z03 7 rfl<|Nl<|sq ?_
 obtain ⟨s7,hs7,l8,hl8,h⟩:=bs2 h
 refine AR Z00 (by kernel_rfl)<|SFd Zi8 Zk4 rfl<|Zp Zf6 3 rfl<|SFd Zi8 Zk4 rfl<|Zp Zf6 3 rfl<|Sd (lo [17] [] rfl fun S hs hr=>Z0i rfl rfl Z8p (vh hs 17 rfl rfl))<|SFd Zi8 Zk4 rfl<|Zp Zf6 3 rfl<|Sd (lo [20] [] rfl fun S hs hr=>Z0i rfl rfl Z8p (vh hs 20 rfl rfl))<|Sd (lo [15,18,21] [] rfl fun S hs hr=>Zzr hs7 rfl rfl Z8p (vh hs 15 rfl rfl) (vh hs 18 rfl rfl) (vh hs 21 rfl rfl))<|Zt rfl<|Sd (lo [22,23] [] rfl fun S hs hr=>Yh8 hl8 rfl rfl Zap (vh hs 22 rfl rfl) (vh hs 23 rfl rfl))<|Zp Z03 7 rfl<|SFd Zi8 Zk4 rfl<|SSt Zf6 3 rfl<|SFd lwalk_way_1 Zof rfl<|SSt Z03 3 rfl<|Sn<|SR<|Ld Z3z 3 rfl<|Zf Z3z 5 rfl<|Nl<|rt ?_
 cases h;exact Zd Tryz.results352 rfl (Zx rfl (i:=5) rfl Z3z)
def Zd8 (a1:Action):Option aset_spot:=
 (bif (decide (a1.Kind=25)) then some (⟨a1.Kind,a1.Oxm.Field⟩:aset_spot) else some (⟨a1.Kind,0⟩:aset_spot))
theorem Zp5:Q1 Tryz.prog 153 (rd Z9) (rd Z7t) Zd8:=fun a1 r h=>I0 Tryz.func153 rfl Tryz.ntmps153 rfl fun w H Z=>by
 unfold Zd8 at h
 refine SR<|Cv rfl (Zs 2 rfl rfl (vt rfl)) fun g2=>Cv rfl (Zm 3 rfl rfl Zm7) fun g3=>Nl<|sq<|SR<|Zk Z5t Z67 rfl<|Ld Zo 2 rfl<|Ac (Z0m rfl rfl (vt rfl) (vk rfl)) rfl<|Nl<|Cq rfl h (fun h=>?_) (fun h=>?_)
 ·refine SR<|Zk Z5t Z67 rfl<|Ld Zo 2 rfl<|Zk Z9s Zaa rfl<|Zk Z4w Z52 rfl<|Ld Zo 2 rfl<|Ac (opb (⟨a1.Kind,a1.Oxm.Field⟩:aset_spot) Zm7 rfl Y73 (pc Y12 (vt rfl)<|pc Ykz (vt rfl)<|pn rfl)) rfl<|Zf Zjn 3 rfl<|Nl<|rt ?_
  cases h;exact Zd Tryz.results153 rfl (Zx rfl (i:=3) rfl Zjn)
 ·refine sk<|SR<|Zk Z5t Z67 rfl<|Ld Zo 2 rfl<|Ac (opb (⟨a1.Kind,0⟩:aset_spot) Zm7 rfl Y73 (pc Y12 (vt rfl)<|pn rfl)) rfl<|Zf Zjn 3 rfl<|Nl<|rt ?_
  cases h;exact Zd Tryz.results153 rfl (Zx rfl (i:=3) rfl Zjn)
end Go.Proofs.YtinplddjjalohaaGreatDoor.W
set_option maxHeartbeats 1000000
set_option maxRecDepth 4000
namespace Go.Proofs.YtinplddjjalohaaGreatDoor.W
open Go Go.Wb
theorem Zpm:Ent Tryz.prog 153:=Ent.mk Tryz.func153 rfl rfl
theorem Ygq:Ent Tryz.prog 232:=Ent.mk Tryz.func232 rfl rfl
theorem Zub:Ent Tryz.prog 231:=Ent.mk Tryz.func231 rfl rfl
theorem Zzv:Ent Tryz.prog 240:=Ent.mk Tryz.func240 rfl rfl
theorem Zua:Ent Tryz.prog 150:=Ent.mk Tryz.func150 rfl rfl
def Ze1 (b1:Action)(x2:Action):Option Bool:=
 (Zd8 x2).bind fun x4=>(Zd8 b1).bind fun x5=>some (decide (x4=x5))
theorem Yfm:Q2 Tryz.prog 232 (rd Z9) (rp Z9) (rd Z6) Ze1:=fun b1 x2 r h=>I0 Tryz.func232 rfl Tryz.ntmps232 rfl fun w H Z=>by
 unfold Ze1 at h
 refine SR<|Cv rfl (Zs 3 rfl rfl (vt rfl)) fun g3=>Ab rfl<|Nl<|sq ?_
 obtain ⟨x4,hx4,x5,hx5,h⟩:=bs2 h
 refine AR Z00 (by kernel_rfl)<|SLp Z11 rfl<|SCl [4] (Zp5 _ _ hx4) Zpm rfl<|Zp Z11 3 rfl<|SCl [6] (Zp5 _ _ hx5) Zpm rfl<|Sd (lo [5,7] [] rfl fun S hs hr=>Zr0 rfl rfl Yl5 (by decide) rfl Yfl (vh hs 5 rfl rfl) (vh hs 7 rfl rfl))<|SAs rfl<|Sn<|rt ?_
 cases h;exact Zd Tryz.results232 rfl (Z5 rfl)
def Zed (s1:(List Action))(x2:(Action→Option Bool)):Nat→Nat→Option Int
 | 0,i3=>some (-1)
 | m4+1,i3=>(lget s1 (i3:Int)).bind fun x5=>(x2 x5).bind fun x6=>(bif x6 then some (i3:Int) else (Zed s1 x2 m4) (i3+1))
def Zdo (s1:(List Action))(x2:(Action→Option Bool)):Option Int:=
 Zed s1 x2 ((s1.length:Int):Int).toNat 0
theorem Zw0:Q2 Tryz.prog 231 (rd (Z1 Z9)) (fn1 Tryz.prog Z9 Z6) (rd (Z0 .i64)) Zdo:=fun s1 x2 r h=>I0 Tryz.func231 rfl Tryz.ntmps231 rfl fun w H Z=>by
 unfold Zdo at h
 refine SR<|Ak rfl<|Nl<|sq<|SR<|Md rfl<|Ac (Z0i rfl rfl Z0h (vt rfl)) rfl<|Mk rfl<|Nl<|bk<|LG (d:=[]) (ν:=Nat×Nat) (fun (m4,i3)=>(Cnt (s1.length:Int) i3 m4∧Zed s1 x2 m4 i3=some r,m4,[(0,rd (Z1 Z9) s1),(1,fn1 Tryz.prog Z9 Z6 x2),(7,rd (Z0 .i64) (s1.length:Int)),(8,rd (Z0 .i64) (i3:Int))],[])) (((s1.length:Int):Int).toNat,0) ⟨Cnt.start _,h⟩ (FX rfl) ?_
 rintro ⟨m4,i3⟩ ⟨hsf1,h⟩
 dsimp only at hsf1 h ⊢
 cases m4 with
 | zero=>
  unfold Zed at h
  refine SR<|Ac (Zj rfl rfl (vt rfl) (vt rfl)) rfl<|Nl<|sq<|Cn rfl (fun hc=>absurd (of_decide_eq_true hc) hsf1.zero) (fun hc=>?_)
  refine xt<|SR<|Ak rfl<|Nl<|rt ?_
  cases h;exact Zd Tryz.results231 rfl (Z5 rfl)
 | succ m4=>
  unfold Zed at h
  refine SR<|Ac (Zj rfl rfl (vt rfl) (vt rfl)) rfl<|Nl<|sq<|Cn rfl (fun hc=>?_) (fun hc=>absurd hsf1.succ (of_decide_eq_false hc))
  have hlti3:=of_decide_eq_true hc
  refine sk<|sq<|bk<|SR<|Md rfl<|As rfl<|Nl<|sq ?_
  obtain ⟨x5,hx5,x6,hx6,h⟩:=bs2 h
  refine Rg<|Ac (Zq (A:=fn1 Tryz.prog Z9 Z6 x2) rfl rfl (vt rfl)) rfl<|Md rfl<|Md rfl<|Ac (Z0j rfl rfl Z0h (vt rfl) (vt rfl) hx5) rfl<|Lp1 Z11 rfl<|Ac (Z9a hx6 rfl rfl (vt rfl) (vt rfl)) rfl<|Nl<|Cq rfl h (fun h=>?_) (fun h=>?_)
  ·refine SR<|Md rfl<|As rfl<|Nl<|rt ?_
   cases h;exact Zd Tryz.results231 rfl (Z5 rfl)
  ·refine sk<|Rg<|Ac (Z13 (t:=7) rfl rfl (vt rfl) (vk rfl) (vt rfl) hlti3) rfl<|Md rfl<|Nl ?_
   exact ⟨(_,_),Nat.lt_succ_self _,⟨hsf1.next,h⟩,FX rfl⟩
def Zbh:(List Action)→Nat→(List Action)→Option (List Action)
 | [],i9,l7=>some l7
 | x11::l10,i9,l7=>(Zdo l7 (fun x=>Ze1 x x11)).bind fun x13=>(bif (decide (x13<0)) then (Z0y l7 [x11]).bind fun l14=>(Zbh l10) (i9+1) l14 else (lget l7 x13).bind fun x16=>(Zbh l10) (i9+1) (List.set l7 x13.toNat x11))
def Ze3 (s1:(List Action))(l2:(List Action)):Option (List Action):=
 (Z7l s1).bind fun x3=>Zbh l2 0 x3
theorem Zy4:Q2 Tryz.prog 140 (rd (Z1 Z9)) (rd (Z1 Z9)) (rd (Z1 Z9)) Ze3:=fun s1 l2 r h=>I0 Tryz.func140 rfl Tryz.ntmps140 rfl fun w H Z=>by
 unfold Ze3 at h
 refine SR<|Ac (Zv (A:=rd (Z1 Z9) []) rfl rfl Z1j) rfl<|Nl<|sq ?_
 obtain ⟨x3,hx3,h⟩:=Z7 h
 refine Rg<|Md rfl<|Cv rfl (Z1c 1001 (xs:=[.tmp 9]) (Ztr _ _ hx3) Zni rfl rfl ⟨vt rfl,trivial⟩ rfl) fun v4=>Aw rfl<|Nl<|sq<|SR<|Md rfl<|Ac (Z0i rfl rfl Z0h (vt rfl)) rfl<|Mk rfl<|Nl<|bk<|LG (d:=[]) (ν:=(List Action)×Nat×(List Action)×Value) (fun (l10,i9,l7,v8)=>(Sfx l2 i9 l10∧Zbh l10 i9 l7=some r,l10.length,[(5,Zc v8),(11,rd (Z1 Z9) l2),(12,rd (Z0 .i64) (l2.length:Int)),(13,rd (Z0 .i64) (i9:Int))],[(1001,Zg v8 219 Z9 l7)])) (l2,0,x3,v4) ⟨Sfx.start _,h⟩ (FX rfl) ?_
 rintro ⟨l10,i9,l7,v8⟩ ⟨hsf1,h⟩
 dsimp only at hsf1 h ⊢
 cases l10 with
 | nil=>
  unfold Zbh at h
  refine SR<|Ac (Zj rfl rfl (vt rfl) (vt rfl)) rfl<|Nl<|sq<|Cn rfl (fun hc=>absurd (of_decide_eq_true hc) hsf1.nil) (fun hc=>?_)
  refine xt<|SR<|Mw rfl<|Aw rfl<|Nl<|AW.freezes [4,5,31] 1001 rfl ⟨rfl,rfl,rfl,trivial⟩ rfl<|rt ?_
  cases h;exact Zd Tryz.results140 rfl (Z5 rfl)
 | cons x11 l10=>
  unfold Zbh at h
  refine SR<|Ac (Zj rfl rfl (vt rfl) (vt rfl)) rfl<|Nl<|sq<|Cn rfl (fun hc=>?_) (fun hc=>absurd hsf1.cons (of_decide_eq_false hc))
  have hlti9:=of_decide_eq_true hc
  refine sk<|sq<|bk<|SR<|Ac (Z0j rfl rfl Z0h (vt rfl) (vt rfl) hsf1.lget) rfl<|Lp1 Z11 rfl<|Cv rfl (Zm 8 rfl rfl Z71) fun g12=>Zf Z11 8 rfl<|Nl<|sq<|AW.freezeB 7 8 rfl rfl rfl ?_
  obtain ⟨x13,hx13,h⟩:=Z7 h
  refine Rg<|Mw rfl<|Ac (Z8l (cs:=[.tmp 7]) (CAs:=[rp Z9 x11]) (fun x=>Ze1 x x11) rfl rfl Ygq ⟨vt rfl,trivial⟩ (fun x y h=>Yfm _ _ y h)) rfl<|Ac (Zvr (xs:=[.tmp 17,.tmp 18]) 1001 (Zw0 _ _ _ hx13) Zub rfl rfl ⟨vL rfl rfl,vB (vt rfl),trivial⟩) rfl<|As rfl<|Nl<|SR<|Md rfl<|Ac (Zj rfl rfl (vt rfl) (vk rfl)) rfl<|Nl<|Cq rfl h (fun h=>?_) (fun h=>?_)
  ·obtain ⟨l14,hl14,h⟩:=Z7 h
   refine Rg<|Mw rfl<|Lp1 Z11 rfl<|Ac (osl Z0h Z71 rfl (vt rfl)) rfl<|Cv rfl (Z2f 1001 hl14 rfl rfl Z9m (vt rfl) rfl (vt rfl)) fun v15=>Aw rfl<|Nl<|Rg<|Ac (Z13 (t:=12) rfl rfl (vt rfl) (vk rfl) (vt rfl) hlti9) rfl<|Md rfl<|Nl ?_
   exact ⟨(_,_,_,_),Nat.lt_succ_self _,⟨hsf1.next,h⟩,FX rfl⟩
  ·obtain ⟨x16,hx16,h⟩:=Z7 h
   refine Rg<|Mw rfl<|Md rfl<|Lp1 Z11 rfl<|Ac (Z23 1001 rfl rfl Z0h (vt rfl) rfl (vt rfl) hx16) rfl<|Ac (Z30 1001 rfl rfl Z11 (vt rfl) rfl (Z0n hx16).2 (vt rfl)) rfl<|Nl<|Rg<|Ac (Z13 (t:=12) rfl rfl (vt rfl) (vk rfl) (vt rfl) hlti9) rfl<|Md rfl<|Nl ?_
   exact ⟨(_,_,_,_),Nat.lt_succ_self _,⟨hsf1.next,h⟩,FX rfl⟩
def Zln (s1:(List Action))(x2:(Action→Option Bool)):Option Bool:=
 (Zdo s1 x2).bind fun x3=>some (decide (x3≥0))
theorem Ypi:Q2 Tryz.prog 145 (rd (Z1 Z9)) (fn1 Tryz.prog Z9 Z6) (rd Z6) Zln:=fun s1 x2 r h=>I0 Tryz.func145 rfl Tryz.ntmps145 rfl fun w H Z=>by
 unfold Zln at h
 refine SR<|Ab rfl<|Nl<|sq ?_
 obtain ⟨x3,hx3,h⟩:=Z7 h
 refine Rg<|Md rfl<|Ac (Zq (A:=fn1 Tryz.prog Z9 Z6 x2) rfl rfl (vt rfl)) rfl<|Cl [5,6] (Zw0 _ _ _ hx3) Zub rfl<|Ac (Z45 rfl rfl (vt rfl) (vk rfl)) rfl<|As rfl<|Nl<|rt ?_
 cases h;exact Zd Tryz.results145 rfl (Z5 rfl)
def Zjw (a1:Action):Option Bool:=
 some (decide (a1.Kind=22))
theorem Yh4:Q1 Tryz.prog 146 (rd Z9) (rd Z6) Zjw:=fun a1 r h=>I0 Tryz.func146 rfl Tryz.ntmps146 rfl fun w H Z=>by
 unfold Zjw at h
 refine SR<|Cv rfl (Zs 2 rfl rfl (vt rfl)) fun g2=>Ab rfl<|Nl<|SR<|Zk Z5t Z67 rfl<|Ld Zo 2 rfl<|Ac (Z0m rfl rfl (vt rfl) (vk rfl)) rfl<|As rfl<|Nl<|rt ?_
 cases h;exact Zd Tryz.results146 rfl (Z5 rfl)
def Zew (s1:(List Int))(x2:Int):Nat→Nat→Option Int
 | 0,i3=>some (-1)
 | m4+1,i3=>(lget s1 (i3:Int)).bind fun x5=>(bif (decide (x2=x5)) then some (i3:Int) else (Zew s1 x2 m4) (i3+1))
def Zhi (s1:(List Int))(x2:Int):Option Int:=
 Zew s1 x2 ((s1.length:Int):Int).toNat 0
theorem Ybk:Q2 Tryz.prog 240 (rd (Z1 (Z0 .i64))) (rd (Z0 .i64)) (rd (Z0 .i64)) Zhi:=fun s1 x2 r h=>I0 Tryz.func240 rfl Tryz.ntmps240 rfl fun w H Z=>by
 unfold Zhi at h
 refine SR<|Ak rfl<|Nl<|sq<|SR<|Md rfl<|Ac (Z0i rfl rfl Z15 (vt rfl)) rfl<|Mk rfl<|Nl<|bk<|LG (d:=[]) (ν:=Nat×Nat) (fun (m4,i3)=>(Cnt (s1.length:Int) i3 m4∧Zew s1 x2 m4 i3=some r,m4,[(0,rd (Z1 (Z0 .i64)) s1),(1,rd (Z0 .i64) x2),(7,rd (Z0 .i64) (s1.length:Int)),(8,rd (Z0 .i64) (i3:Int))],[])) (((s1.length:Int):Int).toNat,0) ⟨Cnt.start _,h⟩ (FX rfl) ?_
 rintro ⟨m4,i3⟩ ⟨hsf1,h⟩
 dsimp only at hsf1 h ⊢
 cases m4 with
 | zero=>
  unfold Zew at h
  refine SR<|Ac (Zj rfl rfl (vt rfl) (vt rfl)) rfl<|Nl<|sq<|Cn rfl (fun hc=>absurd (of_decide_eq_true hc) hsf1.zero) (fun hc=>?_)
  refine xt<|SR<|Ak rfl<|Nl<|rt ?_
  cases h;exact Zd Tryz.results240 rfl (Z5 rfl)
 | succ m4=>
  unfold Zew at h
  refine SR<|Ac (Zj rfl rfl (vt rfl) (vt rfl)) rfl<|Nl<|sq<|Cn rfl (fun hc=>?_) (fun hc=>absurd hsf1.succ (of_decide_eq_false hc))
  have hlti3:=of_decide_eq_true hc
  refine sk<|sq<|bk<|SR<|Md rfl<|As rfl<|Nl<|sq ?_
  obtain ⟨x5,hx5,h⟩:=Z7 h
  refine Rg<|Md rfl<|Md rfl<|Md rfl<|Ac (Z0j rfl rfl Z15 (vt rfl) (vt rfl) hx5) rfl<|Lp1 Zo rfl<|Ac (Z0m rfl rfl (vt rfl) (vt rfl)) rfl<|Nl<|Cq rfl h (fun h=>?_) (fun h=>?_)
  ·refine SR<|Md rfl<|As rfl<|Nl<|rt ?_
   cases h;exact Zd Tryz.results240 rfl (Z5 rfl)
  ·refine sk<|Rg<|Ac (Z13 (t:=7) rfl rfl (vt rfl) (vk rfl) (vt rfl) hlti3) rfl<|Md rfl<|Nl ?_
   exact ⟨(_,_),Nat.lt_succ_self _,⟨hsf1.next,h⟩,FX rfl⟩
def Zdl (k1:Int):Option Int:=
 (Zhi [18,17,25,22,0] k1).bind fun x2=>some x2
theorem Ztm:Q1 Tryz.prog 150 (rd (Z0 .i64)) (rd (Z0 .i64)) Zdl:=fun k1 r h=>I0 Tryz.func150 rfl Tryz.ntmps150 rfl fun w H Z=>by
 unfold Zdl at h
 refine SR<|Ak rfl<|Nl<|sq ?_
 obtain ⟨x2,hx2,h⟩:=Z7 h
 refine Rg<|Ac (Zrd (ps:=[(0,.const (Value.int IntKind.i64 18)),(1,.const (Value.int IntKind.i64 17)),(2,.const (Value.int IntKind.i64 25)),(3,.const (Value.int IntKind.i64 22)),(4,.const (Value.int IntKind.i64 0))]) (l:=[18,17,25,22,0]) rfl rfl Z15 zr3 rfl rfl ⟨_,_,Lens.idx 5 (Z0 .i64) 0 (by decide),_,rfl,(vk rfl),_,_,Lens.idx 5 (Z0 .i64) 1 (by decide),_,rfl,(vk rfl),_,_,Lens.idx 5 (Z0 .i64) 2 (by decide),_,rfl,(vk rfl),_,_,Lens.idx 5 (Z0 .i64) 3 (by decide),_,rfl,(vk rfl),_,_,Lens.idx 5 (Z0 .i64) 4 (by decide),_,rfl,(vk rfl),rfl⟩ rfl) rfl<|Md rfl<|Cl [3,4] (Ybk _ _ _ hx2) Zzv rfl<|As rfl<|Nl<|rt ?_
 cases h;exact Zd Tryz.results150 rfl (Z5 rfl)
def Zc8 (a1:Action)(x2:Bool):Option Bool:=
 (Zdl a1.Kind).bind fun x4=>some ((decide (x4<0))||(x2&&(decide (a1.Kind=0))))
theorem Yv6:Q2 Tryz.prog 149 (rd Z9) (rp Z6) (rd Z6) Zc8:=fun a1 x2 r h=>I0 Tryz.func149 rfl Tryz.ntmps149 rfl fun w H Z=>by
 unfold Zc8 at h
 refine SR<|Cv rfl (Zs 3 rfl rfl (vt rfl)) fun g3=>Ab rfl<|Nl<|sq ?_
 obtain ⟨x4,hx4,h⟩:=Z7 h
 refine Rg<|Zk Z5t Z67 rfl<|Ld Zo 3 rfl<|Cl [5] (Ztm _ _ hx4) Zua rfl<|Ac (Zj rfl rfl (vt rfl) (vk rfl)) rfl<|Md rfl<|Gd rfl (fun hq=>Zav rfl rfl ty4 (vt rfl))<|AOps.consG (OpG.guardX rfl rfl rfl rfl rfl fun hq=>Zq (A:=rd Z6 x2) rfl rfl (Zi rfl hq))<|AOps.consG (OpG.guardN rfl rfl rfl rfl rfl fun hq=>Z2v Z5t rfl rfl Z67 (vt rfl))<|AOps.consG (OpG.guardN rfl rfl rfl rfl rfl fun hq=>Z1z rfl rfl Zo (Zi rfl hq) (i:=3) rfl)<|AOps.consG (OpG.guardN rfl rfl rfl rfl rfl fun hq=>Z0m rfl rfl (Zi rfl hq) (vk rfl))<|Gd rfl (fun hq=>Z1m rfl rfl (vgx rfl hq) (vgw rfl hq))<|Ac (Z4d rfl rfl (vt rfl) (vt rfl)) rfl<|As rfl<|Nl<|rt ?_
 cases h;exact Zd Tryz.results149 rfl (Z5 rfl)
def Zeh (d3:(Action→Option Bool)):Nat→(List Action)→Int→Int→Option (List Action)
 | 0,_,_,_=>none
 | m11+1,l8,i9,j10=>(bif (decide (j10<(l8.length:Int))) then (lget l8 j10).bind fun x12=>(d3 x12).bind fun x14=>(bif (!x14) then (lget l8 i9).bind fun x15=>(Zeh d3 m11) (List.set l8 i9.toNat x12) (IntKind.i64.wrap (i9+1)) (IntKind.i64.wrap (j10+1)) else (Zeh d3 m11) l8 i9 (IntKind.i64.wrap (j10+1))) else (Z6t l8 i9).bind fun s16=>(Z4j (List.take i9.toNat l8++List.replicate (l8.length - i9.toNat) Zsm) i9).bind fun s17=>some s17)
def Zls (s1:(List Action))(d3:(Action→Option Bool)):Option (List Action):=
 (Zdo s1 d3).bind fun x4=>(bif (decide (x4=(-1))) then some s1 else Zeh d3 ((((s1.length:Int):Int) - (IntKind.i64.wrap (x4+1))).toNat+1) s1 x4 (IntKind.i64.wrap (x4+1)))
theorem Yv8 (v2:Value)(s1:(List Action))(d3:(Action→Option Bool))(r:(List Action))(h:Zls s1 d3=some r):Con Tryz.prog 147 [Zc v2,fn1 Tryz.prog Z9 Z6 d3] (Zg v2 219 Z9 s1) (fun v=>Zc v) (fun v=>Zg v 219 Z9 r):=by
 refine Con.intro Tryz.func147 rfl Tryz.ntmps147 rfl fun w H X Z=>?_
 unfold Zls at h
 refine sq<|AW.newnil 1001 219 Z9<|Rg<|Ac (Zv rfl rfl vc) rfl<|Nl<|sq ?_
 obtain ⟨x4,hx4,h⟩:=Z7 h
 refine Rg<|Mw rfl<|Ac (Zq (A:=fn1 Tryz.prog Z9 Z6 d3) rfl rfl (vt rfl)) rfl<|Ac (Zvr (xs:=[.tmp 8,.tmp 9]) 0 (Zw0 _ _ _ hx4) Zub rfl rfl ⟨vL rfl rfl,vB (vt rfl),trivial⟩) rfl<|As rfl<|Nl<|sq<|SR<|Md rfl<|Ac (Z0m rfl rfl (vt rfl) (vk rfl)) rfl<|Nl<|Cq rfl h (fun h=>?_) (fun h=>?_)
 ·refine SR<|Mw rfl<|Aw rfl<|Nl<|rt ?_
  cases h;exact Z49 (i:=0) Tryz.results147 rfl rfl rfl
 ·refine sk<|sq<|SR<|Md rfl<|Ac (Z05 rfl rfl (vt rfl) (vk rfl)) rfl<|As rfl<|Nl<|bk<|LG (d:=[]) (ν:=Nat×(List Action)×Int×Int) (fun (m11,l8,i9,j10)=>(True∧Zeh d3 m11 l8 i9 j10=some r,m11,[(0,Zc v2),(1,fn1 Tryz.prog Z9 Z6 d3),(5,rd (Z0 .i64) i9),(6,rd (Z0 .i64) j10)],[(0,Zg v2 219 Z9 l8)])) (((((s1.length:Int):Int) - (IntKind.i64.wrap (x4+1))).toNat+1),s1,x4,(IntKind.i64.wrap (x4+1))) ⟨trivial,h⟩ (FX rfl) ?_
  rintro ⟨m11,l8,i9,j10⟩ ⟨hsf1,h⟩
  dsimp only at h ⊢
  cases m11 with
  | zero=>cases h
  | succ m11=>
   unfold Zeh at h
   refine sq<|SR<|Md rfl<|Mw rfl<|Ac (Z51 0 rfl rfl Z0h (vt rfl) rfl) rfl<|Ac (Zj rfl rfl (vt rfl) (vt rfl)) rfl<|Nl<|Cq rfl h (fun h=>?_) (fun h=>?_)
   ·refine sk<|sq<|bk<|sq ?_
    obtain ⟨x12,hx12,h⟩:=Z7 h
    refine Rg<|Mw rfl<|Md rfl<|Ac (Z23 0 rfl rfl Z0h (vt rfl) rfl (vt rfl) hx12) rfl<|Ac (Z1r 0 rfl rfl Z11 (vt rfl) rfl (Z0n hx12).2) rfl<|Cv rfl (Zm 8 rfl rfl Z71) fun g13=>Zf Z11 8 rfl<|Nl<|sq ?_
    obtain ⟨x14,hx14,h⟩:=Z7 h
    refine Rg<|Ac (Zq (A:=fn1 Tryz.prog Z9 Z6 d3) rfl rfl (vt rfl)) rfl<|Ld Z11 8 rfl<|Ac (Z9a hx14 rfl rfl (vt rfl) (vt rfl)) rfl<|Ac (Z0z rfl rfl (vt rfl)) rfl<|Nl<|Cq rfl h (fun h=>?_) (fun h=>?_)
    ·refine sq ?_
     obtain ⟨x15,hx15,h⟩:=Z7 h
     refine Rg<|Mw rfl<|Md rfl<|Ld Z11 8 rfl<|Ac (Z23 0 rfl rfl Z0h (vt rfl) rfl (vt rfl) hx15) rfl<|Ac (Z30 0 rfl rfl Z11 (vt rfl) rfl (Z0n hx15).2 (vt rfl)) rfl<|Nl<|Rg<|Md rfl<|Ac (Z05 rfl rfl (vt rfl) (vk rfl)) rfl<|As rfl<|Nl<|Rg<|Md rfl<|Ac (Z05 rfl rfl (vt rfl) (vk rfl)) rfl<|As rfl<|Nl ?_
     exact ⟨(_,_,_,_),Nat.lt_succ_self _,⟨trivial,h⟩,FX rfl⟩
    ·refine sk<|Rg<|Md rfl<|Ac (Z05 rfl rfl (vt rfl) (vk rfl)) rfl<|As rfl<|Nl ?_
     exact ⟨(_,_,_,_),Nat.lt_succ_self _,⟨trivial,h⟩,FX rfl⟩
   ·refine xt<|sq ?_
    obtain ⟨s16,hs16,h⟩:=Z7 h
    refine Rg<|Mw rfl<|Md rfl<|Ac (Ya2 0 hs16 rfl rfl Z0h (vt rfl) rfl (vt rfl)) rfl<|Ac (Yg2 0 rfl rfl Z0h Z71 rfl (vt rfl) rfl (Zob hs16).2.1) rfl<|Nl<|sq ?_
    obtain ⟨s17,hs17,h⟩:=Z7 h
    refine Rg<|Mw rfl<|Md rfl<|Cv rfl (Yd6 0 hs17 rfl rfl Z0h (vt rfl) rfl (vt rfl)) fun v18=>Aw rfl<|Nl<|rt ?_
    cases h;exact Z49 (i:=0) Tryz.results147 rfl rfl rfl
end Go.Proofs.YtinplddjjalohaaGreatDoor.W
