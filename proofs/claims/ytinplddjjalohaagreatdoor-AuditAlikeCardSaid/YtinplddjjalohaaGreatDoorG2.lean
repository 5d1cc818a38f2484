/- A part of the proof. -/
import Derived.Test.YtinplddjjalohaaGreatDoorG1
set_option linter.unusedVariables false
set_option maxHeartbeats 1000000
set_option maxRecDepth 4000
set_option linter.unusedSimpArgs false
namespace Go.Proofs.YtinplddjjalohaaGreatDoor.W
open Go Go.Wb
theorem Zyd:Ent Tryz.prog 386:=Ent.mk Tryz.func386 rfl rfl
theorem Zo0:Ent Tryz.prog 317:=Ent.mk Tryz.func317 rfl rfl
theorem Yiv:Ent Tryz.prog 358:=Ent.mk Tryz.func358 rfl rfl
theorem Y2y:Ent Tryz.prog 316:=Ent.mk Tryz.func316 rfl rfl
theorem Ysb:Ent Tryz.prog 241:=Ent.mk Tryz.func241 rfl rfl
theorem Ykz:Ent Tryz.prog 145:=Ent.mk Tryz.func145 rfl rfl
theorem Yf0:Ent Tryz.prog 146:=Ent.mk Tryz.func146 rfl rfl
theorem Ygz:Ent Tryz.prog 149:=Ent.mk Tryz.func149 rfl rfl
theorem Yee:Ent Tryz.prog 147:=Ent.mk Tryz.func147 rfl rfl
theorem Yu1:Ent Tryz.prog 151:=Ent.mk Tryz.func151 rfl rfl
theorem Ynn:Ent Tryz.prog 152:=Ent.mk Tryz.func152 rfl rfl
theorem Z8m:Ent Tryz.prog 139:=Ent.mk Tryz.func139 rfl rfl
theorem e72:Ent Tryz.prog 72:=Ent.mk Tryz.func72 rfl rfl
theorem Y03:Ent Tryz.prog 352:=Ent.mk Tryz.func352 rfl rfl
theorem Zts:Ent Tryz.prog 140:=Ent.mk Tryz.func140 rfl rfl
def Z98 (a3:Int)(x5:(Action→Action→Option Int))(go1:(List Action)→Int→Option (List Action))(i9:Int):Nat→(List Action)→Int→Option (List Action)
 | 0,_,_=>none
 | m15+1,l13,j14=>(opt (decide (j14>a3)) (lget l13 j14)).bind fun x16=>(opt (decide (j14>a3)) (lget l13 (IntKind.i64.wrap (j14 - 1)))).bind fun x17=>(opt (decide (j14>a3)) (x5 x16 x17)).bind fun x18=>(bif ((decide (j14>a3))&&(decide (x18<0))) then (lget l13 (IntKind.i64.wrap (j14 - 1))).bind fun x19=>(lget l13 j14).bind fun x20=>(lget l13 j14).bind fun x21=>(lget (List.set l13 j14.toNat x19) (IntKind.i64.wrap (j14 - 1))).bind fun x22=>(Z98 a3 x5 go1 i9 m15) (List.set (List.set l13 j14.toNat x19) (IntKind.i64.wrap (j14 - 1)).toNat x20) (IntKind.i64.wrap (j14 - 1)) else go1 l13 (IntKind.i64.wrap (i9+1)))
def Z78 (b4:Int)(a3:Int)(x5:(Action→Action→Option Int)):Nat→(List Action)→Int→Option (List Action)
 | 0,_,_=>none
 | m10+1,l8,i9=>(bif (decide (i9<b4)) then Z98 a3 x5 (Z78 b4 a3 x5 m10) i9 Z0s l8 i9 else some l8)
def Zcb (d1:(List Action))(a3:Int)(b4:Int)(x5:(Action→Action→Option Int)):Option (List Action):=
 Z78 b4 a3 x5 (((b4:Int) - (IntKind.i64.wrap (a3+1))).toNat+1) d1 (IntKind.i64.wrap (a3+1))
theorem Y4m (v2:Value)(d1:(List Action))(a3:Int)(b4:Int)(x5:(Action→Action→Option Int))(r:(List Action))(h:Zcb d1 a3 b4 x5=some r):Con Tryz.prog 316 [Zb v2,rd (Z0 .i64) a3,rd (Z0 .i64) b4,fn2 Tryz.prog Z9 Z9 (Z0 .i64) x5] (Zf v2 219 Z9 d1) (fun _:Unit=>top) (fun _=>Zf v2 219 Z9 r):=by
 refine Con.intro Tryz.func316 rfl Tryz.ntmps316 rfl fun w H X Z=>?_
 unfold Zcb at h
 refine SR<|Md rfl<|Ac (Z06 rfl rfl (vt rfl) (vk rfl)) rfl<|As rfl<|Nl<|bk<|LG (d:=[]) (ν:=Nat×(List Action)×Int) (fun (m10,l8,i9)=>(True∧Z78 b4 a3 x5 m10 l8 i9=some r,m10,[(0,Zb v2),(1,rd (Z0 .i64) a3),(2,rd (Z0 .i64) b4),(3,fn2 Tryz.prog Z9 Z9 (Z0 .i64) x5),(8,rd (Z0 .i64) i9)],[(0,Zf v2 219 Z9 l8)])) ((((b4:Int) - (IntKind.i64.wrap (a3+1))).toNat+1),d1,(IntKind.i64.wrap (a3+1))) ⟨trivial,h⟩ (FX rfl) ?_
 rintro ⟨m10,l8,i9⟩ ⟨hsf1,h⟩
 dsimp only at h ⊢
 cases m10 with
 | zero=>cases h
 | succ m10=>
  unfold Z78 at h
  refine sq<|SR<|Md rfl<|Md rfl<|Ac (Zj rfl rfl (vt rfl) (vt rfl)) rfl<|Nl<|Cq rfl h (fun h=>?_) (fun h=>?_)
  ·refine sk<|sq<|bk<|SR<|Md rfl<|As rfl<|Nl<|bk<|LG (d:=[]) (ν:=Nat×(List Action)×Int) (fun (m15,l13,j14)=>(True∧Z98 a3 x5 (Z78 b4 a3 x5 m10) i9 m15 l13 j14=some r,m15,[(0,Zb v2),(1,rd (Z0 .i64) a3),(2,rd (Z0 .i64) b4),(3,fn2 Tryz.prog Z9 Z9 (Z0 .i64) x5),(8,rd (Z0 .i64) i9),(9,rd (Z0 .i64) j14)],[(0,Zf v2 219 Z9 l13)])) (Z0s,l8,i9) ⟨trivial,h⟩ (FX rfl) ?_
   rintro ⟨m15,l13,j14⟩ ⟨hsf2,h⟩
   dsimp only at h ⊢
   cases m15 with
   | zero=>cases h
   | succ m15=>
    unfold Z98 at h
    refine sq<|sq ?_
    obtain ⟨x16,hx16,x17,hx17,x18,hx18,h⟩:=bs3 h
    refine AR Z00 (by kernel_rfl)<|Zt rfl<|Zt rfl<|Sd (lo [18,19] [] rfl fun S hs hr=>Z2m rfl rfl (vh hs 18 rfl rfl) (vh hs 19 rfl rfl))<|Zt rfl<|Sd (lg [3,21] [] rfl fun hq S hs hr=>Zq (A:=fn2 Tryz.prog Z9 Z9 (Z0 .i64) x5) rfl rfl (vh hs 3 rfl rfl))<|Sd (lg [0,21] [] rfl fun hq S hs hr=>Zq (A:=Zb v2) rfl rfl (vh hs 0 rfl rfl))<|Sd (lg [9,21] [] rfl fun hq S hs hr=>Zq (A:=rd (Z0 .i64) j14) rfl rfl (vh hs 9 rfl rfl))<|Sd (lg [23,24,21] [0] rfl fun hq S hs hr=>Z22 0 rfl rfl Z0g (Zi ((hs 23 rfl).trans rfl) hq) ((hr 0 rfl).trans rfl) (Zi ((hs 24 rfl).trans rfl) hq) (Z2i hx16 hq))<|Sd (lg [25,21] [0] rfl fun hq S hs hr=>Z1q 0 rfl rfl Z0z (Zi ((hs 25 rfl).trans rfl) hq) ((hr 0 rfl).trans rfl) (Z0m (Z2i hx16 hq)).2)<|Sd (lg [0,21] [] rfl fun hq S hs hr=>Zq (A:=Zb v2) rfl rfl (vh hs 0 rfl rfl))<|Sd (lg [9,21] [] rfl fun hq S hs hr=>Zq (A:=rd (Z0 .i64) j14) rfl rfl (vh hs 9 rfl rfl))<|Sd (lg [28,21] [] rfl fun hq S hs hr=>Z0r rfl rfl (Zi ((hs 28 rfl).trans rfl) hq) (vk rfl))<|Sd (lg [27,29,21] [0] rfl fun hq S hs hr=>Z22 0 rfl rfl Z0g (Zi ((hs 27 rfl).trans rfl) hq) ((hr 0 rfl).trans rfl) (Zi ((hs 29 rfl).trans rfl) hq) (Z2i hx17 hq))<|Sd (lg [30,21] [0] rfl fun hq S hs hr=>Z1q 0 rfl rfl Z0z (Zi ((hs 30 rfl).trans rfl) hq) ((hr 0 rfl).trans rfl) (Z0m (Z2i hx17 hq)).2)<|Sd (lg [22,26,31,21] [] rfl fun hq S hs hr=>Zbr (Z2i hx18 hq) rfl rfl (Zi ((hs 22 rfl).trans rfl) hq) (Zi ((hs 26 rfl).trans rfl) hq) (Zi ((hs 31 rfl).trans rfl) hq))<|Sd (lg [32,21] [] rfl fun hq S hs hr=>Zj rfl rfl (Zi ((hs 32 rfl).trans rfl) hq) (vk rfl))<|Sd (lo [33,21] [] rfl fun S hs hr=>Z1k rfl rfl (vh hs 21 rfl rfl) (vh hs 33 rfl rfl))<|Sn<|Cq rfl h (fun h=>?_) (fun h=>?_)
    ·refine sk<|sq<|bk<|AW.vlen 0 rfl fun hvl0_266=>?_
     obtain ⟨x19,hx19,x20,hx20,x21,hx21,x22,hx22,h⟩:=bs4 h
     refine AR Z00 (by kernel_rfl)<|SMw rfl<|Zt rfl<|SMw rfl<|Zt rfl<|Sd (lo [40] [] rfl fun S hs hr=>Z0r rfl rfl (vh hs 40 rfl rfl) (vk rfl))<|SMw rfl<|Zt rfl<|Sd (lo [43] [] rfl fun S hs hr=>Z0r rfl rfl (vh hs 43 rfl rfl) (vk rfl))<|Sd (lo [42,44] [] rfl fun S hs hr=>Z2j (l:=l13) hvl0_266 rfl rfl rfl Z0g (vh hs 42 rfl rfl) (vh hs 44 rfl rfl) hx19)<|Sd (lo [45] [0] rfl fun S hs hr=>Z1q 0 rfl rfl Z0z (vh hs 45 rfl rfl) ((hr 0 rfl).trans rfl) (Z0m hx19).2)<|SMw rfl<|Zt rfl<|Sd (lo [47,48] [] rfl fun S hs hr=>Z2j (l:=l13) hvl0_266 rfl rfl rfl Z0g (vh hs 47 rfl rfl) (vh hs 48 rfl rfl) hx20)<|Sd (lo [49] [0] rfl fun S hs hr=>Z1q 0 rfl rfl Z0z (vh hs 49 rfl rfl) ((hr 0 rfl).trans rfl) (Z0m hx20).2)<|Sd (lo [37,38] [] rfl fun S hs hr=>Z2j (l:=l13) hvl0_266 rfl rfl rfl Z0g (vh hs 37 rfl rfl) (vh hs 38 rfl rfl) hx21)<|Sd (Z4a [51,46] [0] rfl fun S hs hr=>Z2w 0 rfl rfl Z0z (vh hs 51 rfl rfl) ((hr 0 rfl).trans rfl) (Z0m hx21).2 (vh hs 46 rfl rfl))<|Sd (lo [39,41] [] rfl fun S hs hr=>Z2j (l:=(List.set l13 j14.toNat x19)) hvl0_266 (by simp) rfl rfl Z0g (vh hs 39 rfl rfl) (vh hs 41 rfl rfl) hx22)<|Sd (Z4a [52,50] [0] rfl fun S hs hr=>Z2w 0 rfl rfl Z0z (vh hs 52 rfl rfl) ((hr 0 rfl).trans rfl) (Z0m hx22).2 (vh hs 50 rfl rfl))<|Sn<|Rg<|Md rfl<|Ac (Z0r rfl rfl (vt rfl) (vk rfl)) rfl<|As rfl<|Nl ?_
     exact ⟨(_,_,_),Nat.lt_succ_self _,⟨trivial,h⟩,FX rfl⟩
    ·refine xt<|Rg<|Md rfl<|Ac (Z06 rfl rfl (vt rfl) (vk rfl)) rfl<|As rfl<|Nl ?_
     exact ⟨(_,_,_),Nat.lt_succ_self _,⟨trivial,h⟩,FX rfl⟩
  ·refine xt ?_
   cases h;exact Z2d (i:=0) Tryz.results316 rfl rfl
def Zef (n5:Int)(b4:Int)(a3:Int):Nat→(List Action)→Int→Option (List Action)
 | 0,_,_=>none
 | m11+1,l9,i10=>(bif (decide (i10<n5)) then (lget l9 (IntKind.i64.wrap (b4+i10))).bind fun x12=>(lget l9 (IntKind.i64.wrap (a3+i10))).bind fun x13=>(lget l9 (IntKind.i64.wrap (a3+i10))).bind fun x14=>(lget (List.set l9 (IntKind.i64.wrap (a3+i10)).toNat x12) (IntKind.i64.wrap (b4+i10))).bind fun x15=>(Zef n5 b4 a3 m11) (List.set (List.set l9 (IntKind.i64.wrap (a3+i10)).toNat x12) (IntKind.i64.wrap (b4+i10)).toNat x13) (IntKind.i64.wrap (i10+1)) else some l9)
def Zd9 (d1:(List Action))(a3:Int)(b4:Int)(n5:Int)(x6:(Action→Action→Option Int)):Option (List Action):=
 Zef n5 b4 a3 (((n5:Int) - 0).toNat+1) d1 0
theorem Zvc (v2:Value)(d1:(List Action))(a3:Int)(b4:Int)(n5:Int)(x6:(Action→Action→Option Int))(r:(List Action))(h:Zd9 d1 a3 b4 n5 x6=some r):Con Tryz.prog 386 [Zb v2,rd (Z0 .i64) a3,rd (Z0 .i64) b4,rd (Z0 .i64) n5,fn2 Tryz.prog Z9 Z9 (Z0 .i64) x6] (Zf v2 219 Z9 d1) (fun _:Unit=>top) (fun _=>Zf v2 219 Z9 r):=by
 refine Con.intro Tryz.func386 rfl Tryz.ntmps386 rfl fun w H X Z=>?_
 unfold Zd9 at h
 refine SR<|Ak rfl<|Nl<|bk<|LG (d:=[]) (ν:=Nat×(List Action)×Int) (fun (m11,l9,i10)=>(True∧Zef n5 b4 a3 m11 l9 i10=some r,m11,[(0,Zb v2),(1,rd (Z0 .i64) a3),(2,rd (Z0 .i64) b4),(3,rd (Z0 .i64) n5),(10,rd (Z0 .i64) i10)],[(0,Zf v2 219 Z9 l9)])) ((((n5:Int) - 0).toNat+1),d1,0) ⟨trivial,h⟩ (FX rfl) ?_
 rintro ⟨m11,l9,i10⟩ ⟨hsf1,h⟩
 dsimp only at h ⊢
 cases m11 with
 | zero=>cases h
 | succ m11=>
  unfold Zef at h
  refine sq<|SR<|Md rfl<|Md rfl<|Ac (Zj rfl rfl (vt rfl) (vt rfl)) rfl<|Nl<|Cq rfl h (fun h=>?_) (fun h=>?_)
  ·refine sk<|sq<|bk<|AW.vlen 0 rfl fun hvl0_123=>?_
   obtain ⟨x12,hx12,x13,hx13,x14,hx14,x15,hx15,h⟩:=bs4 h
   refine AR Z00 (by kernel_rfl)<|SMw rfl<|Zt rfl<|Zt rfl<|Sd (lo [17,18] [] rfl fun S hs hr=>Z06 rfl rfl (vh hs 17 rfl rfl) (vh hs 18 rfl rfl))<|SMw rfl<|Zt rfl<|Zt rfl<|Sd (lo [21,22] [] rfl fun S hs hr=>Z06 rfl rfl (vh hs 21 rfl rfl) (vh hs 22 rfl rfl))<|SMw rfl<|Zt rfl<|Zt rfl<|Sd (lo [25,26] [] rfl fun S hs hr=>Z06 rfl rfl (vh hs 25 rfl rfl) (vh hs 26 rfl rfl))<|Sd (lo [24,27] [] rfl fun S hs hr=>Z2j (l:=l9) hvl0_123 rfl rfl rfl Z0g (vh hs 24 rfl rfl) (vh hs 27 rfl rfl) hx12)<|Sd (lo [28] [0] rfl fun S hs hr=>Z1q 0 rfl rfl Z0z (vh hs 28 rfl rfl) ((hr 0 rfl).trans rfl) (Z0m hx12).2)<|SMw rfl<|Zt rfl<|Zt rfl<|Sd (lo [31,32] [] rfl fun S hs hr=>Z06 rfl rfl (vh hs 31 rfl rfl) (vh hs 32 rfl rfl))<|Sd (lo [30,33] [] rfl fun S hs hr=>Z2j (l:=l9) hvl0_123 rfl rfl rfl Z0g (vh hs 30 rfl rfl) (vh hs 33 rfl rfl) hx13)<|Sd (lo [34] [0] rfl fun S hs hr=>Z1q 0 rfl rfl Z0z (vh hs 34 rfl rfl) ((hr 0 rfl).trans rfl) (Z0m hx13).2)<|Sd (lo [16,19] [] rfl fun S hs hr=>Z2j (l:=l9) hvl0_123 rfl rfl rfl Z0g (vh hs 16 rfl rfl) (vh hs 19 rfl rfl) hx14)<|Sd (Z4a [36,29] [0] rfl fun S hs hr=>Z2w 0 rfl rfl Z0z (vh hs 36 rfl rfl) ((hr 0 rfl).trans rfl) (Z0m hx14).2 (vh hs 29 rfl rfl))<|Sd (lo [20,23] [] rfl fun S hs hr=>Z2j (l:=(List.set l9 (IntKind.i64.wrap (a3+i10)).toNat x12)) hvl0_123 (by simp) rfl rfl Z0g (vh hs 20 rfl rfl) (vh hs 23 rfl rfl) hx15)<|Sd (Z4a [37,35] [0] rfl fun S hs hr=>Z2w 0 rfl rfl Z0z (vh hs 37 rfl rfl) ((hr 0 rfl).trans rfl) (Z0m hx15).2 (vh hs 35 rfl rfl))<|Sn<|Rg<|Md rfl<|Ac (Z06 rfl rfl (vt rfl) (vk rfl)) rfl<|As rfl<|Nl ?_
   exact ⟨(_,_,_),Nat.lt_succ_self _,⟨trivial,h⟩,FX rfl⟩
  ·refine xt ?_
   cases h;exact Z2d (i:=0) Tryz.results386 rfl rfl
def Zdx (m4:Int)(x6:(Action→Action→Option Int)):Nat→(List Action)→Int→Int→Option (List Action)
 | 0,_,_,_=>none
 | m13+1,l10,i11,j12=>(bif (decide (i11≠j12)) then (bif (decide (i11>j12)) then (Zd9 l10 (IntKind.i64.wrap (m4 - i11)) m4 j12 x6).bind fun l14=>(Zdx m4 x6 m13) l14 (IntKind.i64.wrap (i11 - j12)) j12 else (Zd9 l10 (IntKind.i64.wrap (m4 - i11)) (IntKind.i64.wrap ((IntKind.i64.wrap (m4+j12)) - i11)) i11 x6).bind fun l15=>(Zdx m4 x6 m13) l15 i11 (IntKind.i64.wrap (j12 - i11))) else (Zd9 l10 (IntKind.i64.wrap (m4 - i11)) m4 i11 x6).bind fun l16=>some l16)
def Zg1 (d1:(List Action))(a3:Int)(m4:Int)(b5:Int)(x6:(Action→Action→Option Int)):Option (List Action):=
 Zdx m4 x6 Z0s d1 (IntKind.i64.wrap (m4 - a3)) (IntKind.i64.wrap (b5 - m4))
theorem Yil (v2:Value)(d1:(List Action))(a3:Int)(m4:Int)(b5:Int)(x6:(Action→Action→Option Int))(r:(List Action))(h:Zg1 d1 a3 m4 b5 x6=some r):Con Tryz.prog 358 [Zb v2,rd (Z0 .i64) a3,rd (Z0 .i64) m4,rd (Z0 .i64) b5,fn2 Tryz.prog Z9 Z9 (Z0 .i64) x6] (Zf v2 219 Z9 d1) (fun _:Unit=>top) (fun _=>Zf v2 219 Z9 r):=by
 refine Con.intro Tryz.func358 rfl Tryz.ntmps358 rfl fun w H X Z=>?_
 unfold Zg1 at h
 refine SR<|Md rfl<|Md rfl<|Ac (Z0r rfl rfl (vt rfl) (vt rfl)) rfl<|As rfl<|Nl<|SR<|Md rfl<|Md rfl<|Ac (Z0r rfl rfl (vt rfl) (vt rfl)) rfl<|As rfl<|Nl<|sq<|bk<|LG (d:=[]) (ν:=Nat×(List Action)×Int×Int) (fun (m13,l10,i11,j12)=>(True∧Zdx m4 x6 m13 l10 i11 j12=some r,m13,[(0,Zb v2),(2,rd (Z0 .i64) m4),(4,fn2 Tryz.prog Z9 Z9 (Z0 .i64) x6),(10,rd (Z0 .i64) i11),(11,rd (Z0 .i64) j12)],[(0,Zf v2 219 Z9 l10)])) (Z0s,d1,(IntKind.i64.wrap (m4 - a3)),(IntKind.i64.wrap (b5 - m4))) ⟨trivial,h⟩ (FX rfl) ?_
 rintro ⟨m13,l10,i11,j12⟩ ⟨hsf1,h⟩
 dsimp only at h ⊢
 cases m13 with
 | zero=>cases h
 | succ m13=>
  unfold Zdx at h
  refine sq<|SR<|Md rfl<|Md rfl<|Ac (Z5t rfl rfl (vt rfl) (vt rfl)) rfl<|Nl<|Cq rfl h (fun h=>?_) (fun h=>?_)
  ·refine sk<|bk<|SR<|Md rfl<|Md rfl<|Ac (Z2m rfl rfl (vt rfl) (vt rfl)) rfl<|Nl<|Cq rfl h (fun h=>?_) (fun h=>?_)
   ·refine sq ?_
    obtain ⟨l14,hl14,h⟩:=Z7 h
    refine Rg<|Mw rfl<|Md rfl<|Md rfl<|Ac (Z0r rfl rfl (vt rfl) (vt rfl)) rfl<|Md rfl<|Md rfl<|Ac (Zq (A:=fn2 Tryz.prog Z9 Z9 (Z0 .i64) x6) rfl rfl (vt rfl)) rfl<|Cv rfl (Z1a 0 (xs:=[.tmp 24,.tmp 27,.tmp 28,.tmp 29,.tmp 30]) (Zvc _ _ _ _ _ _ _ hl14) Zyd rfl rfl ⟨vt rfl,vt rfl,vt rfl,vt rfl,vt rfl,trivial⟩ rfl) fun _u=>Nl<|Rg<|Md rfl<|Md rfl<|Ac (Z0r rfl rfl (vt rfl) (vt rfl)) rfl<|As rfl<|Nl ?_
    exact ⟨(_,_,_,_),Nat.lt_succ_self _,⟨trivial,h⟩,FX rfl⟩
   ·refine sq ?_
    obtain ⟨l15,hl15,h⟩:=Z7 h
    refine Rg<|Mw rfl<|Md rfl<|Md rfl<|Ac (Z0r rfl rfl (vt rfl) (vt rfl)) rfl<|Md rfl<|Md rfl<|Ac (Z06 rfl rfl (vt rfl) (vt rfl)) rfl<|Md rfl<|Ac (Z0r rfl rfl (vt rfl) (vt rfl)) rfl<|Md rfl<|Ac (Zq (A:=fn2 Tryz.prog Z9 Z9 (Z0 .i64) x6) rfl rfl (vt rfl)) rfl<|Cv rfl (Z1a 0 (xs:=[.tmp 35,.tmp 38,.tmp 43,.tmp 44,.tmp 45]) (Zvc _ _ _ _ _ _ _ hl15) Zyd rfl rfl ⟨vt rfl,vt rfl,vt rfl,vt rfl,vt rfl,trivial⟩ rfl) fun _u=>Nl<|Rg<|Md rfl<|Md rfl<|Ac (Z0r rfl rfl (vt rfl) (vt rfl)) rfl<|As rfl<|Nl ?_
    exact ⟨(_,_,_,_),Nat.lt_succ_self _,⟨trivial,h⟩,FX rfl⟩
  ·refine xt ?_
   obtain ⟨l16,hl16,h⟩:=Z7 h
   refine Rg<|Mw rfl<|Md rfl<|Md rfl<|Ac (Z0r rfl rfl (vt rfl) (vt rfl)) rfl<|Md rfl<|Md rfl<|Ac (Zq (A:=fn2 Tryz.prog Z9 Z9 (Z0 .i64) x6) rfl rfl (vt rfl)) rfl<|Cv rfl (Z1a 0 (xs:=[.tmp 50,.tmp 53,.tmp 54,.tmp 55,.tmp 56]) (Zvc _ _ _ _ _ _ _ hl16) Zyd rfl rfl ⟨vt rfl,vt rfl,vt rfl,vt rfl,vt rfl,trivial⟩ rfl) fun _u=>Nl ?_
   cases h;exact Z2d (i:=0) Tryz.results358 rfl rfl
def Z9r (i9:Int):Nat→(List Action)→Int→Option (List Action)
 | 0,_,_=>none
 | m20+1,l18,k19=>(bif (decide (k19<(IntKind.i64.wrap (i9 - 1)))) then (lget l18 (IntKind.i64.wrap (k19+1))).bind fun x21=>(lget l18 k19).bind fun x22=>(lget l18 k19).bind fun x23=>(lget (List.set l18 k19.toNat x21) (IntKind.i64.wrap (k19+1))).bind fun x24=>(Z9r i9 m20) (List.set (List.set l18 k19.toNat x21) (IntKind.i64.wrap (k19+1)).toNat x22) (IntKind.i64.wrap (k19+1)) else some l18)
def Z9n (d1:(List Action))(a3:Int)(x6:(Action→Action→Option Int)):Nat→Int→Int→Option (List Action)
 | 0,_,_=>none
 | m11+1,i9,j10=>(bif (decide (i9<j10)) then (Z3s (BitVec.ofInt 64 (IntKind.i64.wrap (i9+j10))) ((1:BitVec 64).toNat:Int)).bind fun q12=>(lget d1 (IntKind.i64.wrap (q12.toNat:Int))).bind fun x13=>(lget d1 a3).bind fun x14=>(x6 x13 x14).bind fun x15=>(bif (decide (x15<0)) then (Z9n d1 a3 x6 m11) (IntKind.i64.wrap ((IntKind.i64.wrap (q12.toNat:Int))+1)) j10 else (Z9n d1 a3 x6 m11) i9 (IntKind.i64.wrap (q12.toNat:Int))) else Z9r i9 ((((IntKind.i64.wrap (i9 - 1)):Int) - a3).toNat+1) d1 a3)
def Z9k (i27:Int):Nat→(List Action)→Int→Option (List Action)
 | 0,_,_=>none
 | m38+1,l36,k37=>(bif (decide (k37>i27)) then (lget l36 (IntKind.i64.wrap (k37 - 1))).bind fun x39=>(lget l36 k37).bind fun x40=>(lget l36 k37).bind fun x41=>(lget (List.set l36 k37.toNat x39) (IntKind.i64.wrap (k37 - 1))).bind fun x42=>(Z9k i27 m38) (List.set (List.set l36 k37.toNat x39) (IntKind.i64.wrap (k37 - 1)).toNat x40) (IntKind.i64.wrap (k37 - 1)) else some l36)
def Za3 (d1:(List Action))(m4:Int)(x6:(Action→Action→Option Int)):Nat→Int→Int→Option (List Action)
 | 0,_,_=>none
 | m29+1,i27,j28=>(bif (decide (i27<j28)) then (Z3s (BitVec.ofInt 64 (IntKind.i64.wrap (i27+j28))) ((1:BitVec 64).toNat:Int)).bind fun q30=>(lget d1 m4).bind fun x31=>(lget d1 (IntKind.i64.wrap (q30.toNat:Int))).bind fun x32=>(x6 x31 x32).bind fun x33=>(bif (!(decide (x33<0))) then (Za3 d1 m4 x6 m29) (IntKind.i64.wrap ((IntKind.i64.wrap (q30.toNat:Int))+1)) j28 else (Za3 d1 m4 x6 m29) i27 (IntKind.i64.wrap (q30.toNat:Int))) else Z9k i27 (((m4:Int) - i27).toNat+1) d1 m4)
def Zgg (q43:(BitVec 64))(m4:Int)(s48:Int)(b5:Int)(R_slices_symMergeCmpFunc_Action:((List Action)→Int→Int→Int→(Action→Action→Option Int)→Option (List Action)))(x6:(Action→Action→Option Int))(l56:(List Action)):Option (List Action):=
 (bif ((decide ((IntKind.i64.wrap (q43.toNat:Int))<(IntKind.i64.wrap ((IntKind.i64.wrap ((IntKind.i64.wrap (q43.toNat:Int))+m4)) - s48))))&&(decide ((IntKind.i64.wrap ((IntKind.i64.wrap ((IntKind.i64.wrap (q43.toNat:Int))+m4)) - s48))<b5))) then (R_slices_symMergeCmpFunc_Action l56 (IntKind.i64.wrap (q43.toNat:Int)) (IntKind.i64.wrap ((IntKind.i64.wrap ((IntKind.i64.wrap (q43.toNat:Int))+m4)) - s48)) b5 x6).bind fun l57=>some l57 else some l56)
def Zb6 (a3:Int)(s48:Int)(q43:(BitVec 64))(R_slices_symMergeCmpFunc_Action:((List Action)→Int→Int→Int→(Action→Action→Option Int)→Option (List Action)))(x6:(Action→Action→Option Int))(m4:Int)(b5:Int)(l55:(List Action)):Option (List Action):=
 (bif ((decide (a3<s48))&&(decide (s48<(IntKind.i64.wrap (q43.toNat:Int))))) then (R_slices_symMergeCmpFunc_Action l55 a3 s48 (IntKind.i64.wrap (q43.toNat:Int)) x6).bind fun l58=>Zgg q43 m4 s48 b5 R_slices_symMergeCmpFunc_Action x6 l58 else Zgg q43 m4 s48 b5 R_slices_symMergeCmpFunc_Action x6 l55)
def Zbg (d1:(List Action))(q43:(BitVec 64))(m4:Int)(x6:(Action→Action→Option Int))(a3:Int)(R_slices_symMergeCmpFunc_Action:((List Action)→Int→Int→Int→(Action→Action→Option Int)→Option (List Action)))(b5:Int):Nat→Int→Int→Option (List Action)
 | 0,_,_=>none
 | m50+1,s48,x49=>(bif (decide (s48<x49)) then (Z3s (BitVec.ofInt 64 (IntKind.i64.wrap (s48+x49))) ((1:BitVec 64).toNat:Int)).bind fun q51=>(lget d1 (IntKind.i64.wrap ((IntKind.i64.wrap ((IntKind.i64.wrap ((IntKind.i64.wrap (q43.toNat:Int))+m4)) - 1)) - (IntKind.i64.wrap (q51.toNat:Int))))).bind fun x52=>(lget d1 (IntKind.i64.wrap (q51.toNat:Int))).bind fun x53=>(x6 x52 x53).bind fun x54=>(bif (!(decide (x54<0))) then (Zbg d1 q43 m4 x6 a3 R_slices_symMergeCmpFunc_Action b5 m50) (IntKind.i64.wrap ((IntKind.i64.wrap (q51.toNat:Int))+1)) x49 else (Zbg d1 q43 m4 x6 a3 R_slices_symMergeCmpFunc_Action b5 m50) s48 (IntKind.i64.wrap (q51.toNat:Int))) else (bif ((decide (s48<m4))&&(decide (m4<(IntKind.i64.wrap ((IntKind.i64.wrap ((IntKind.i64.wrap (q43.toNat:Int))+m4)) - s48))))) then (Zg1 d1 s48 m4 (IntKind.i64.wrap ((IntKind.i64.wrap ((IntKind.i64.wrap (q43.toNat:Int))+m4)) - s48)) x6).bind fun l59=>Zb6 a3 s48 q43 R_slices_symMergeCmpFunc_Action x6 m4 b5 l59 else Zb6 a3 s48 q43 R_slices_symMergeCmpFunc_Action x6 m4 b5 d1))
def Zfp (d1:(List Action))(q43:(BitVec 64))(m4:Int)(x6:(Action→Action→Option Int))(a3:Int)(R_slices_symMergeCmpFunc_Action:((List Action)→Int→Int→Int→(Action→Action→Option Int)→Option (List Action)))(b5:Int)(s44:Int)(x45:Int):Option (List Action):=
 Zbg d1 q43 m4 x6 a3 R_slices_symMergeCmpFunc_Action b5 (((x45:Int) - s44).toNat+1) s44 x45
def Zlw (R_slices_symMergeCmpFunc_Action:((List Action)→Int→Int→Int→(Action→Action→Option Int)→Option (List Action)))(d1:(List Action))(a3:Int)(m4:Int)(b5:Int)(x6:(Action→Action→Option Int)):Option (List Action):=
 (bif (decide ((IntKind.i64.wrap (m4 - a3))=1)) then Z9n d1 a3 x6 (((b5:Int) - m4).toNat+1) m4 b5 else (bif (decide ((IntKind.i64.wrap (b5 - m4))=1)) then Za3 d1 m4 x6 (((m4:Int) - a3).toNat+1) a3 m4 else (Z3s (BitVec.ofInt 64 (IntKind.i64.wrap (a3+b5))) ((1:BitVec 64).toNat:Int)).bind fun q43=>(bif (decide (m4>(IntKind.i64.wrap (q43.toNat:Int)))) then Zfp d1 q43 m4 x6 a3 R_slices_symMergeCmpFunc_Action b5 (IntKind.i64.wrap ((IntKind.i64.wrap ((IntKind.i64.wrap (q43.toNat:Int))+m4)) - b5)) (IntKind.i64.wrap (q43.toNat:Int)) else Zfp d1 q43 m4 x6 a3 R_slices_symMergeCmpFunc_Action b5 a3 m4)))
theorem Yw1 (R_slices_symMergeCmpFunc_Action:((List Action)→Int→Int→Int→(Action→Action→Option Int)→Option (List Action)))(hR_slices_symMergeCmpFunc_Action:∀(v2:Value) (d1:(List Action)) (a3:Int) (m4:Int) (b5:Int) (x6:(Action→Action→Option Int)) (r:(List Action)),R_slices_symMergeCmpFunc_Action d1 a3 m4 b5 x6=some r→Con Tryz.prog 317 [Zb v2,rd (Z0 .i64) a3,rd (Z0 .i64) m4,rd (Z0 .i64) b5,fn2 Tryz.prog Z9 Z9 (Z0 .i64) x6] (Zf v2 219 Z9 d1) (fun _:Unit=>top) (fun _=>Zf v2 219 Z9 r))(v2:Value)(d1:(List Action))(a3:Int)(m4:Int)(b5:Int)(x6:(Action→Action→Option Int))(r:(List Action))(h:Zlw R_slices_symMergeCmpFunc_Action d1 a3 m4 b5 x6=some r):Con Tryz.prog 317 [Zb v2,rd (Z0 .i64) a3,rd (Z0 .i64) m4,rd (Z0 .i64) b5,fn2 Tryz.prog Z9 Z9 (Z0 .i64) x6] (Zf v2 219 Z9 d1) (fun _:Unit=>top) (fun _=>Zf v2 219 Z9 r):=by
 refine Con.intro Tryz.func317 rfl Tryz.ntmps317 rfl fun w H X Z=>?_
 unfold Zlw at h
 refine sq<|SR<|Md rfl<|Md rfl<|Ac (Z0r rfl rfl (vt rfl) (vt rfl)) rfl<|Ac (Z0j rfl rfl (vt rfl) (vk rfl)) rfl<|Nl<|Cq rfl h (fun h=>?_) (fun h=>?_)
 ·refine SR<|Md rfl<|As rfl<|Nl<|SR<|Md rfl<|As rfl<|Nl<|sq<|bk<|LG (d:=[]) (ν:=Nat×Int×Int) (fun (m11,i9,j10)=>(True∧Z9n d1 a3 x6 m11 i9 j10=some r,m11,[(0,Zb v2),(1,rd (Z0 .i64) a3),(4,fn2 Tryz.prog Z9 Z9 (Z0 .i64) x6),(10,rd (Z0 .i64) i9),(11,rd (Z0 .i64) j10)],[(0,Zf v2 219 Z9 d1)])) ((((b5:Int) - m4).toNat+1),m4,b5) ⟨trivial,h⟩ (FX rfl) ?_
  rintro ⟨m11,i9,j10⟩ ⟨hsf1,h⟩
  dsimp only at h ⊢
  cases m11 with
  | zero=>cases h
  | succ m11=>
   unfold Z9n at h
   refine sq<|SR<|Md rfl<|Md rfl<|Ac (Zj rfl rfl (vt rfl) (vt rfl)) rfl<|Nl<|Cq rfl h (fun h=>?_) (fun h=>?_)
   ·refine sk<|bk<|sq ?_
    obtain ⟨q12,hq12,h⟩:=Z7 h
    refine Rg<|Md rfl<|Md rfl<|Ac (Z06 rfl rfl (vt rfl) (vt rfl)) rfl<|Ac (Z8s rfl rfl us3 Z94 (vt rfl)) rfl<|Ac (Z67 rfl rfl (vt rfl) (Z5a (vku (1:BitVec 64) rfl)) hq12) rfl<|Ac (Zam rfl rfl Zc2 un3 (vt rfl)) rfl<|As rfl<|Nl<|sq ?_
    obtain ⟨x13,hx13,x14,hx14,x15,hx15,h⟩:=bs3 h
    refine AR Z00 (by kernel_rfl)<|Sd (lo [4] [] rfl fun S hs hr=>Zq (A:=fn2 Tryz.prog Z9 Z9 (Z0 .i64) x6) rfl rfl (vh hs 4 rfl rfl))<|SMw rfl<|Zt rfl<|Sd (lo [41,42] [0] rfl fun S hs hr=>Z22 0 rfl rfl Z0g (vh hs 41 rfl rfl) ((hr 0 rfl).trans rfl) (vh hs 42 rfl rfl) hx13)<|Sd (lo [43] [0] rfl fun S hs hr=>Z1q 0 rfl rfl Z0z (vh hs 43 rfl rfl) ((hr 0 rfl).trans rfl) (Z0m hx13).2)<|SMw rfl<|Zt rfl<|Sd (lo [45,46] [0] rfl fun S hs hr=>Z22 0 rfl rfl Z0g (vh hs 45 rfl rfl) ((hr 0 rfl).trans rfl) (vh hs 46 rfl rfl) hx14)<|Sd (lo [47] [0] rfl fun S hs hr=>Z1q 0 rfl rfl Z0z (vh hs 47 rfl rfl) ((hr 0 rfl).trans rfl) (Z0m hx14).2)<|Sd (lo [40,44,48] [] rfl fun S hs hr=>Zbr hx15 rfl rfl (vh hs 40 rfl rfl) (vh hs 44 rfl rfl) (vh hs 48 rfl rfl))<|Sd (lo [49] [] rfl fun S hs hr=>Zj rfl rfl (vh hs 49 rfl rfl) (vk rfl))<|Sn<|Cq rfl h (fun h=>?_) (fun h=>?_)
    ·refine Rg<|Md rfl<|Ac (Z06 rfl rfl (vt rfl) (vk rfl)) rfl<|As rfl<|Nl ?_
     exact ⟨(_,_,_),Nat.lt_succ_self _,⟨trivial,h⟩,FX rfl⟩
    ·refine Rg<|Md rfl<|As rfl<|Nl ?_
     exact ⟨(_,_,_),Nat.lt_succ_self _,⟨trivial,h⟩,FX rfl⟩
   ·refine xt<|sq<|SR<|Md rfl<|As rfl<|Nl<|bk<|LG (d:=[]) (ν:=Nat×(List Action)×Int) (fun (m20,l18,k19)=>(True∧Z9r i9 m20 l18 k19=some r,m20,[(0,Zb v2),(10,rd (Z0 .i64) i9),(13,rd (Z0 .i64) k19)],[(0,Zf v2 219 Z9 l18)])) (((((IntKind.i64.wrap (i9 - 1)):Int) - a3).toNat+1),d1,a3) ⟨trivial,h⟩ (FX rfl) ?_
    rintro ⟨m20,l18,k19⟩ ⟨hsf2,h⟩
    dsimp only at h ⊢
    cases m20 with
    | zero=>cases h
    | succ m20=>
     unfold Z9r at h
     refine sq<|SR<|Md rfl<|Md rfl<|Ac (Z0r rfl rfl (vt rfl) (vk rfl)) rfl<|Ac (Zj rfl rfl (vt rfl) (vt rfl)) rfl<|Nl<|Cq rfl h (fun h=>?_) (fun h=>?_)
     ·refine sk<|sq<|bk<|AW.vlen 0 rfl fun hvl0_205=>?_
      obtain ⟨x21,hx21,x22,hx22,x23,hx23,x24,hx24,h⟩:=bs4 h
      refine AR Z00 (by kernel_rfl)<|SMw rfl<|Zt rfl<|SMw rfl<|Zt rfl<|Sd (lo [64] [] rfl fun S hs hr=>Z06 rfl rfl (vh hs 64 rfl rfl) (vk rfl))<|SMw rfl<|Zt rfl<|Sd (lo [67] [] rfl fun S hs hr=>Z06 rfl rfl (vh hs 67 rfl rfl) (vk rfl))<|Sd (lo [66,68] [] rfl fun S hs hr=>Z2j (l:=l18) hvl0_205 rfl rfl rfl Z0g (vh hs 66 rfl rfl) (vh hs 68 rfl rfl) hx21)<|Sd (lo [69] [0] rfl fun S hs hr=>Z1q 0 rfl rfl Z0z (vh hs 69 rfl rfl) ((hr 0 rfl).trans rfl) (Z0m hx21).2)<|SMw rfl<|Zt rfl<|Sd (lo [71,72] [] rfl fun S hs hr=>Z2j (l:=l18) hvl0_205 rfl rfl rfl Z0g (vh hs 71 rfl rfl) (vh hs 72 rfl rfl) hx22)<|Sd (lo [73] [0] rfl fun S hs hr=>Z1q 0 rfl rfl Z0z (vh hs 73 rfl rfl) ((hr 0 rfl).trans rfl) (Z0m hx22).2)<|Sd (lo [61,62] [] rfl fun S hs hr=>Z2j (l:=l18) hvl0_205 rfl rfl rfl Z0g (vh hs 61 rfl rfl) (vh hs 62 rfl rfl) hx23)<|Sd (Z4a [75,70] [0] rfl fun S hs hr=>Z2w 0 rfl rfl Z0z (vh hs 75 rfl rfl) ((hr 0 rfl).trans rfl) (Z0m hx23).2 (vh hs 70 rfl rfl))<|Sd (lo [63,65] [] rfl fun S hs hr=>Z2j (l:=(List.set l18 k19.toNat x21)) hvl0_205 (by simp) rfl rfl Z0g (vh hs 63 rfl rfl) (vh hs 65 rfl rfl) hx24)<|Sd (Z4a [76,74] [0] rfl fun S hs hr=>Z2w 0 rfl rfl Z0z (vh hs 76 rfl rfl) ((hr 0 rfl).trans rfl) (Z0m hx24).2 (vh hs 74 rfl rfl))<|Sn<|Rg<|Md rfl<|Ac (Z06 rfl rfl (vt rfl) (vk rfl)) rfl<|As rfl<|Nl ?_
      exact ⟨(_,_,_),Nat.lt_succ_self _,⟨trivial,h⟩,FX rfl⟩
     ·refine xt<|rt ?_
      cases h;exact Z2d (i:=0) Tryz.results317 rfl rfl
 ·refine sk<|sq<|SR<|Md rfl<|Md rfl<|Ac (Z0r rfl rfl (vt rfl) (vt rfl)) rfl<|Ac (Z0j rfl rfl (vt rfl) (vk rfl)) rfl<|Nl<|Cq rfl h (fun h=>?_) (fun h=>?_)
  ·refine SR<|Md rfl<|As rfl<|Nl<|SR<|Md rfl<|As rfl<|Nl<|sq<|bk<|LG (d:=[]) (ν:=Nat×Int×Int) (fun (m29,i27,j28)=>(True∧Za3 d1 m4 x6 m29 i27 j28=some r,m29,[(0,Zb v2),(2,rd (Z0 .i64) m4),(4,fn2 Tryz.prog Z9 Z9 (Z0 .i64) x6),(14,rd (Z0 .i64) i27),(15,rd (Z0 .i64) j28)],[(0,Zf v2 219 Z9 d1)])) ((((m4:Int) - a3).toNat+1),a3,m4) ⟨trivial,h⟩ (FX rfl) ?_
   rintro ⟨m29,i27,j28⟩ ⟨hsf3,h⟩
   dsimp only at h ⊢
   cases m29 with
   | zero=>cases h
   | succ m29=>
    unfold Za3 at h
    refine sq<|SR<|Md rfl<|Md rfl<|Ac (Zj rfl rfl (vt rfl) (vt rfl)) rfl<|Nl<|Cq rfl h (fun h=>?_) (fun h=>?_)
    ·refine sk<|bk<|sq ?_
     obtain ⟨q30,hq30,h⟩:=Z7 h
     refine Rg<|Md rfl<|Md rfl<|Ac (Z06 rfl rfl (vt rfl) (vt rfl)) rfl<|Ac (Z8s rfl rfl us3 Z94 (vt rfl)) rfl<|Ac (Z67 rfl rfl (vt rfl) (Z5a (vku (1:BitVec 64) rfl)) hq30) rfl<|Ac (Zam rfl rfl Zc2 un3 (vt rfl)) rfl<|As rfl<|Nl<|sq ?_
     obtain ⟨x31,hx31,x32,hx32,x33,hx33,h⟩:=bs3 h
     refine AR Z00 (by kernel_rfl)<|Sd (lo [4] [] rfl fun S hs hr=>Zq (A:=fn2 Tryz.prog Z9 Z9 (Z0 .i64) x6) rfl rfl (vh hs 4 rfl rfl))<|SMw rfl<|Zt rfl<|Sd (lo [93,94] [0] rfl fun S hs hr=>Z22 0 rfl rfl Z0g (vh hs 93 rfl rfl) ((hr 0 rfl).trans rfl) (vh hs 94 rfl rfl) hx31)<|Sd (lo [95] [0] rfl fun S hs hr=>Z1q 0 rfl rfl Z0z (vh hs 95 rfl rfl) ((hr 0 rfl).trans rfl) (Z0m hx31).2)<|SMw rfl<|Zt rfl<|Sd (lo [97,98] [0] rfl fun S hs hr=>Z22 0 rfl rfl Z0g (vh hs 97 rfl rfl) ((hr 0 rfl).trans rfl) (vh hs 98 rfl rfl) hx32)<|Sd (lo [99] [0] rfl fun S hs hr=>Z1q 0 rfl rfl Z0z (vh hs 99 rfl rfl) ((hr 0 rfl).trans rfl) (Z0m hx32).2)<|Sd (lo [92,96,100] [] rfl fun S hs hr=>Zbr hx33 rfl rfl (vh hs 92 rfl rfl) (vh hs 96 rfl rfl) (vh hs 100 rfl rfl))<|Sd (lo [101] [] rfl fun S hs hr=>Zj rfl rfl (vh hs 101 rfl rfl) (vk rfl))<|Sd (lo [102] [] rfl fun S hs hr=>Z0y rfl rfl (vh hs 102 rfl rfl))<|Sn<|Cq rfl h (fun h=>?_) (fun h=>?_)
     ·refine Rg<|Md rfl<|Ac (Z06 rfl rfl (vt rfl) (vk rfl)) rfl<|As rfl<|Nl ?_
      exact ⟨(_,_,_),Nat.lt_succ_self _,⟨trivial,h⟩,FX rfl⟩
     ·refine Rg<|Md rfl<|As rfl<|Nl ?_
      exact ⟨(_,_,_),Nat.lt_succ_self _,⟨trivial,h⟩,FX rfl⟩
    ·refine xt<|sq<|SR<|Md rfl<|As rfl<|Nl<|bk<|LG (d:=[]) (ν:=Nat×(List Action)×Int) (fun (m38,l36,k37)=>(True∧Z9k i27 m38 l36 k37=some r,m38,[(0,Zb v2),(14,rd (Z0 .i64) i27),(17,rd (Z0 .i64) k37)],[(0,Zf v2 219 Z9 l36)])) ((((m4:Int) - i27).toNat+1),d1,m4) ⟨trivial,h⟩ (FX rfl) ?_
     rintro ⟨m38,l36,k37⟩ ⟨hsf4,h⟩
     dsimp only at h ⊢
     cases m38 with
     | zero=>cases h
     | succ m38=>
      unfold Z9k at h
      refine sq<|SR<|Md rfl<|Md rfl<|Ac (Z2m rfl rfl (vt rfl) (vt rfl)) rfl<|Nl<|Cq rfl h (fun h=>?_) (fun h=>?_)
      ·refine sk<|sq<|bk<|AW.vlen 0 rfl fun hvl0_446=>?_
       obtain ⟨x39,hx39,x40,hx40,x41,hx41,x42,hx42,h⟩:=bs4 h
       refine AR Z00 (by kernel_rfl)<|SMw rfl<|Zt rfl<|SMw rfl<|Zt rfl<|Sd (lo [116] [] rfl fun S hs hr=>Z0r rfl rfl (vh hs 116 rfl rfl) (vk rfl))<|SMw rfl<|Zt rfl<|Sd (lo [119] [] rfl fun S hs hr=>Z0r rfl rfl (vh hs 119 rfl rfl) (vk rfl))<|Sd (lo [118,120] [] rfl fun S hs hr=>Z2j (l:=l36) hvl0_446 rfl rfl rfl Z0g (vh hs 118 rfl rfl) (vh hs 120 rfl rfl) hx39)<|Sd (lo [121] [0] rfl fun S hs hr=>Z1q 0 rfl rfl Z0z (vh hs 121 rfl rfl) ((hr 0 rfl).trans rfl) (Z0m hx39).2)<|SMw rfl<|Zt rfl<|Sd (lo [123,124] [] rfl fun S hs hr=>Z2j (l:=l36) hvl0_446 rfl rfl rfl Z0g (vh hs 123 rfl rfl) (vh hs 124 rfl rfl) hx40)<|Sd (lo [125] [0] rfl fun S hs hr=>Z1q 0 rfl rfl Z0z (vh hs 125 rfl rfl) ((hr 0 rfl).trans rfl) (Z0m hx40).2)<|Sd (lo [113,114] [] rfl fun S hs hr=>Z2j (l:=l36) hvl0_446 rfl rfl rfl Z0g (vh hs 113 rfl rfl) (vh hs 114 rfl rfl) hx41)<|Sd (Z4a [127,122] [0] rfl fun S hs hr=>Z2w 0 rfl rfl Z0z (vh hs 127 rfl rfl) ((hr 0 rfl).trans rfl) (Z0m hx41).2 (vh hs 122 rfl rfl))<|Sd (lo [115,117] [] rfl fun S hs hr=>Z2j (l:=(List.set l36 k37.toNat x39)) hvl0_446 (by simp) rfl rfl Z0g (vh hs 115 rfl rfl) (vh hs 117 rfl rfl) hx42)<|Sd (Z4a [128,126] [0] rfl fun S hs hr=>Z2w 0 rfl rfl Z0z (vh hs 128 rfl rfl) ((hr 0 rfl).trans rfl) (Z0m hx42).2 (vh hs 126 rfl rfl))<|Sn<|Rg<|Md rfl<|Ac (Z0r rfl rfl (vt rfl) (vk rfl)) rfl<|As rfl<|Nl ?_
       exact ⟨(_,_,_),Nat.lt_succ_self _,⟨trivial,h⟩,FX rfl⟩
      ·refine xt<|rt ?_
       cases h;exact Z2d (i:=0) Tryz.results317 rfl rfl
  ·refine sk<|sq ?_
   obtain ⟨q43,hq43,h⟩:=Z7 h
   refine Rg<|Md rfl<|Md rfl<|Ac (Z06 rfl rfl (vt rfl) (vt rfl)) rfl<|Ac (Z8s rfl rfl us3 Z94 (vt rfl)) rfl<|Ac (Z67 rfl rfl (vt rfl) (Z5a (vku (1:BitVec 64) rfl)) hq43) rfl<|Ac (Zam rfl rfl Zc2 un3 (vt rfl)) rfl<|As rfl<|Nl<|SR<|Md rfl<|Md rfl<|Ac (Z06 rfl rfl (vt rfl) (vt rfl)) rfl<|As rfl<|Nl<|SR<|Ak rfl<|Ak rfl<|Nl ?_
   refine JN (d:=[]) (ν:=Int×Int) (fun (s44,x45)=>(Zfp d1 q43 m4 x6 a3 R_slices_symMergeCmpFunc_Action b5 s44 x45=some r,[(0,Zb v2),(1,rd (Z0 .i64) a3),(2,rd (Z0 .i64) m4),(3,rd (Z0 .i64) b5),(4,fn2 Tryz.prog Z9 Z9 (Z0 .i64) x6),(18,rd (Z0 .i64) (IntKind.i64.wrap (q43.toNat:Int))),(19,rd (Z0 .i64) (IntKind.i64.wrap ((IntKind.i64.wrap (q43.toNat:Int))+m4))),(20,rd (Z0 .i64) s44),(21,rd (Z0 .i64) x45)],[(0,Zf v2 219 Z9 d1)])) ?hx5 ?hy5
   case hy5=>
    rintro ⟨s44,x45⟩ h
    dsimp only at h ⊢
    unfold Zfp at h
    refine SR<|Md rfl<|Ac (Z0r rfl rfl (vt rfl) (vk rfl)) rfl<|As rfl<|Nl<|sq<|bk<|LG (d:=[]) (ν:=Nat×Int×Int) (fun (m50,s48,x49)=>(True∧Zbg d1 q43 m4 x6 a3 R_slices_symMergeCmpFunc_Action b5 m50 s48 x49=some r,m50,[(0,Zb v2),(1,rd (Z0 .i64) a3),(2,rd (Z0 .i64) m4),(3,rd (Z0 .i64) b5),(4,fn2 Tryz.prog Z9 Z9 (Z0 .i64) x6),(18,rd (Z0 .i64) (IntKind.i64.wrap (q43.toNat:Int))),(19,rd (Z0 .i64) (IntKind.i64.wrap ((IntKind.i64.wrap (q43.toNat:Int))+m4))),(20,rd (Z0 .i64) s48),(21,rd (Z0 .i64) x49),(22,rd (Z0 .i64) (IntKind.i64.wrap ((IntKind.i64.wrap ((IntKind.i64.wrap (q43.toNat:Int))+m4)) - 1)))],[(0,Zf v2 219 Z9 d1)])) ((((x45:Int) - s44).toNat+1),s44,x45) ⟨trivial,h⟩ (FX rfl) ?_
    rintro ⟨m50,s48,x49⟩ ⟨hsf6,h⟩
    dsimp only at h ⊢
    cases m50 with
    | zero=>cases h
    | succ m50=>
     unfold Zbg at h
     refine sq<|SR<|Md rfl<|Md rfl<|Ac (Zj rfl rfl (vt rfl) (vt rfl)) rfl<|Nl<|Cq rfl h (fun h=>?_) (fun h=>?_)
     ·refine sk<|bk<|sq ?_
      obtain ⟨q51,hq51,h⟩:=Z7 h
      refine Rg<|Md rfl<|Md rfl<|Ac (Z06 rfl rfl (vt rfl) (vt rfl)) rfl<|Ac (Z8s rfl rfl us3 Z94 (vt rfl)) rfl<|Ac (Z67 rfl rfl (vt rfl) (Z5a (vku (1:BitVec 64) rfl)) hq51) rfl<|Ac (Zam rfl rfl Zc2 un3 (vt rfl)) rfl<|As rfl<|Nl<|sq ?_
      obtain ⟨x52,hx52,x53,hx53,x54,hx54,h⟩:=bs3 h
      refine AR Z00 (by kernel_rfl)<|Sd (lo [4] [] rfl fun S hs hr=>Zq (A:=fn2 Tryz.prog Z9 Z9 (Z0 .i64) x6) rfl rfl (vh hs 4 rfl rfl))<|SMw rfl<|Zt rfl<|Zt rfl<|Sd (lo [160,161] [] rfl fun S hs hr=>Z0r rfl rfl (vh hs 160 rfl rfl) (vh hs 161 rfl rfl))<|Sd (lo [159,162] [0] rfl fun S hs hr=>Z22 0 rfl rfl Z0g (vh hs 159 rfl rfl) ((hr 0 rfl).trans rfl) (vh hs 162 rfl rfl) hx52)<|Sd (lo [163] [0] rfl fun S hs hr=>Z1q 0 rfl rfl Z0z (vh hs 163 rfl rfl) ((hr 0 rfl).trans rfl) (Z0m hx52).2)<|SMw rfl<|Zt rfl<|Sd (lo [165,166] [0] rfl fun S hs hr=>Z22 0 rfl rfl Z0g (vh hs 165 rfl rfl) ((hr 0 rfl).trans rfl) (vh hs 166 rfl rfl) hx53)<|Sd (lo [167] [0] rfl fun S hs hr=>Z1q 0 rfl rfl Z0z (vh hs 167 rfl rfl) ((hr 0 rfl).trans rfl) (Z0m hx53).2)<|Sd (lo [158,164,168] [] rfl fun S hs hr=>Zbr hx54 rfl rfl (vh hs 158 rfl rfl) (vh hs 164 rfl rfl) (vh hs 168 rfl rfl))<|Sd (lo [169] [] rfl fun S hs hr=>Zj rfl rfl (vh hs 169 rfl rfl) (vk rfl))<|Sd (lo [170] [] rfl fun S hs hr=>Z0y rfl rfl (vh hs 170 rfl rfl))<|Sn<|Cq rfl h (fun h=>?_) (fun h=>?_)
      ·refine Rg<|Md rfl<|Ac (Z06 rfl rfl (vt rfl) (vk rfl)) rfl<|As rfl<|Nl ?_
       exact ⟨(_,_,_),Nat.lt_succ_self _,⟨trivial,h⟩,FX rfl⟩
      ·refine Rg<|Md rfl<|As rfl<|Nl ?_
       exact ⟨(_,_,_),Nat.lt_succ_self _,⟨trivial,h⟩,FX rfl⟩
     ·refine xt<|SR<|Md rfl<|Md rfl<|Ac (Z0r rfl rfl (vt rfl) (vt rfl)) rfl<|As rfl<|Nl ?_
      refine JN (d:=[]) (ν:=(List Action)) (fun l55=>(Zb6 a3 s48 q43 R_slices_symMergeCmpFunc_Action x6 m4 b5 l55=some r,[(0,Zb v2),(1,rd (Z0 .i64) a3),(3,rd (Z0 .i64) b5),(4,fn2 Tryz.prog Z9 Z9 (Z0 .i64) x6),(18,rd (Z0 .i64) (IntKind.i64.wrap (q43.toNat:Int))),(20,rd (Z0 .i64) s48),(24,rd (Z0 .i64) (IntKind.i64.wrap ((IntKind.i64.wrap ((IntKind.i64.wrap (q43.toNat:Int))+m4)) - s48)))],[(0,Zf v2 219 Z9 l55)])) ?hx7 ?hy7
      case hy7=>
       intro l55 h
       dsimp only at h ⊢
       unfold Zb6 at h
       refine JN (d:=[]) (ν:=(List Action)) (fun l56=>(Zgg q43 m4 s48 b5 R_slices_symMergeCmpFunc_Action x6 l56=some r,[(0,Zb v2),(3,rd (Z0 .i64) b5),(4,fn2 Tryz.prog Z9 Z9 (Z0 .i64) x6),(18,rd (Z0 .i64) (IntKind.i64.wrap (q43.toNat:Int))),(24,rd (Z0 .i64) (IntKind.i64.wrap ((IntKind.i64.wrap ((IntKind.i64.wrap (q43.toNat:Int))+m4)) - s48)))],[(0,Zf v2 219 Z9 l56)])) ?hx8 ?hy8
       case hy8=>
        intro l56 h
        dsimp only at h ⊢
        unfold Zgg at h
        refine SR<|Md rfl<|Md rfl<|Ac (Zj rfl rfl (vt rfl) (vt rfl)) rfl<|Md rfl<|Gd rfl (fun hq=>Zq (A:=rd (Z0 .i64) (IntKind.i64.wrap ((IntKind.i64.wrap ((IntKind.i64.wrap (q43.toNat:Int))+m4)) - s48))) rfl rfl (vt rfl))<|Gd rfl (fun hq=>Zq (A:=rd (Z0 .i64) b5) rfl rfl (vt rfl))<|Gd rfl (fun hq=>Zj rfl rfl (Zi rfl hq) (Zi rfl hq))<|Ac (Z1k rfl rfl (vt rfl) (vt rfl)) rfl<|Nl<|Cq rfl h (fun h=>?_) (fun h=>?_)
        ·obtain ⟨l57,hl57,h⟩:=Z7 h
         refine Rg<|Mw rfl<|Md rfl<|Md rfl<|Md rfl<|Ac (Zq (A:=fn2 Tryz.prog Z9 Z9 (Z0 .i64) x6) rfl rfl (vt rfl)) rfl<|Cv rfl (Z1a 0 (xs:=[.tmp 214,.tmp 215,.tmp 216,.tmp 217,.tmp 218]) (hR_slices_symMergeCmpFunc_Action _ _ _ _ _ _ _ hl57) Zo0 rfl rfl ⟨vt rfl,vt rfl,vt rfl,vt rfl,vt rfl,trivial⟩ rfl) fun _u=>Nl ?_
         cases h;exact Z2d (i:=0) Tryz.results317 rfl rfl
        ·refine sk ?_
         cases h;exact Z2d (i:=0) Tryz.results317 rfl rfl
       case hx8=>
        refine SR<|Md rfl<|Md rfl<|Ac (Zj rfl rfl (vt rfl) (vt rfl)) rfl<|Md rfl<|Gd rfl (fun hq=>Zq (A:=rd (Z0 .i64) s48) rfl rfl (vt rfl))<|Gd rfl (fun hq=>Zq (A:=rd (Z0 .i64) (IntKind.i64.wrap (q43.toNat:Int))) rfl rfl (vt rfl))<|Gd rfl (fun hq=>Zj rfl rfl (Zi rfl hq) (Zi rfl hq))<|Ac (Z1k rfl rfl (vt rfl) (vt rfl)) rfl<|Nl<|Cq rfl h (fun h=>?_) (fun h=>?_)
        ·obtain ⟨l58,hl58,h⟩:=Z7 h
         refine Rg<|Mw rfl<|Md rfl<|Md rfl<|Md rfl<|Ac (Zq (A:=fn2 Tryz.prog Z9 Z9 (Z0 .i64) x6) rfl rfl (vt rfl)) rfl<|Cv rfl (Z1a 0 (xs:=[.tmp 200,.tmp 201,.tmp 202,.tmp 203,.tmp 204]) (hR_slices_symMergeCmpFunc_Action _ _ _ _ _ _ _ hl58) Zo0 rfl rfl ⟨vt rfl,vt rfl,vt rfl,vt rfl,vt rfl,trivial⟩ rfl) fun _u=>Nl ?_
         exact ⟨_,h,FX rfl⟩
        ·refine sk ?_
         exact ⟨_,h,FX rfl⟩
      case hx7=>
       refine SR<|Md rfl<|Md rfl<|Ac (Zj rfl rfl (vt rfl) (vt rfl)) rfl<|Md rfl<|Gd rfl (fun hq=>Zq (A:=rd (Z0 .i64) m4) rfl rfl (vt rfl))<|Gd rfl (fun hq=>Zq (A:=rd (Z0 .i64) (IntKind.i64.wrap ((IntKind.i64.wrap ((IntKind.i64.wrap (q43.toNat:Int))+m4)) - s48))) rfl rfl (vt rfl))<|Gd rfl (fun hq=>Zj rfl rfl (Zi rfl hq) (Zi rfl hq))<|Ac (Z1k rfl rfl (vt rfl) (vt rfl)) rfl<|Nl<|Cq rfl h (fun h=>?_) (fun h=>?_)
       ·obtain ⟨l59,hl59,h⟩:=Z7 h
        refine Rg<|Mw rfl<|Md rfl<|Md rfl<|Md rfl<|Ac (Zq (A:=fn2 Tryz.prog Z9 Z9 (Z0 .i64) x6) rfl rfl (vt rfl)) rfl<|Cv rfl (Z1a 0 (xs:=[.tmp 186,.tmp 187,.tmp 188,.tmp 189,.tmp 190]) (Yil _ _ _ _ _ _ _ hl59) Yiv rfl rfl ⟨vt rfl,vt rfl,vt rfl,vt rfl,vt rfl,trivial⟩ rfl) fun _u=>Nl ?_
        exact ⟨_,h,FX rfl⟩
       ·refine sk ?_
        exact ⟨_,h,FX rfl⟩
   case hx5=>
    refine SR<|Md rfl<|Md rfl<|Ac (Z2m rfl rfl (vt rfl) (vt rfl)) rfl<|Nl<|Cq rfl h (fun h=>?_) (fun h=>?_)
    ·refine SR<|Md rfl<|Md rfl<|Ac (Z0r rfl rfl (vt rfl) (vt rfl)) rfl<|As rfl<|Nl<|Rg<|Md rfl<|As rfl<|Nl ?_
     exact ⟨(_,_),h,FX rfl⟩
    ·refine SR<|Md rfl<|As rfl<|Nl<|Rg<|Md rfl<|As rfl<|Nl ?_
     exact ⟨(_,_),h,FX rfl⟩
def Zi8:Nat→((List Action)→Int→Int→Int→(Action→Action→Option Int)→Option (List Action))
 | 0=>(fun _ _ _ _ _=>none)
 | n+1=>(Zlw (Zi8 n))
theorem Y1e:∀n:Nat,(∀(v2:Value) (d1:(List Action)) (a3:Int) (m4:Int) (b5:Int) (x6:(Action→Action→Option Int)) (r:(List Action)),(Zi8 n) d1 a3 m4 b5 x6=some r→Con Tryz.prog 317 [Zb v2,rd (Z0 .i64) a3,rd (Z0 .i64) m4,rd (Z0 .i64) b5,fn2 Tryz.prog Z9 Z9 (Z0 .i64) x6] (Zf v2 219 Z9 d1) (fun _:Unit=>top) (fun _=>Zf v2 219 Z9 r))
 | 0=>(by intros;rename_i h;cases h)
 | n+1=>by
  have ih:=Y1e n
  exact (Yw1 (Zi8 n) ih)
def Zs1 (d1:(List Action))(a3:Int)(m4:Int)(b5:Int)(x6:(Action→Action→Option Int)):Option (List Action):=(Zi8 Z0s) d1 a3 m4 b5 x6
theorem Yba:∀(v2:Value) (d1:(List Action)) (a3:Int) (m4:Int) (b5:Int) (x6:(Action→Action→Option Int)) (r:(List Action)),Zs1 d1 a3 m4 b5 x6=some r→Con Tryz.prog 317 [Zb v2,rd (Z0 .i64) a3,rd (Z0 .i64) m4,rd (Z0 .i64) b5,fn2 Tryz.prog Z9 Z9 (Z0 .i64) x6] (Zf v2 219 Z9 d1) (fun _:Unit=>top) (fun _=>Zf v2 219 Z9 r):=Y1e Z0s
def Zij (n3:Int)(b17:Int)(x4:(Action→Action→Option Int))(go2:(List Action)→Int→Option (List Action)):Nat→(List Action)→Int→Int→Option (List Action)
 | 0,_,_,_=>none
 | m25+1,l22,a23,b24=>(bif (decide (b24≤n3)) then (Zs1 l22 a23 (IntKind.i64.wrap (a23+b17)) b24 x4).bind fun l26=>(Zij n3 b17 x4 go2 m25) l26 b24 (IntKind.i64.wrap (b24+(IntKind.i64.wrap (2*b17)))) else (bif (decide ((IntKind.i64.wrap (a23+b17))<n3)) then (Zs1 l22 a23 (IntKind.i64.wrap (a23+b17)) n3 x4).bind fun l27=>go2 l27 (IntKind.i64.wrap (b17*2)) else go2 l22 (IntKind.i64.wrap (b17*2))))
def Z9d (n3:Int)(x4:(Action→Action→Option Int)):Nat→(List Action)→Int→Option (List Action)
 | 0,_,_=>none
 | m18+1,l16,b17=>(bif (decide (b17<n3)) then Zij n3 b17 x4 (Z9d n3 x4 m18) (((n3:Int) - (IntKind.i64.wrap (2*b17))).toNat+2) l16 0 (IntKind.i64.wrap (2*b17)) else some l16)
def Zcz (n3:Int)(x4:(Action→Action→Option Int)):Nat→(List Action)→Int→Int→Option (List Action)
 | 0,_,_,_=>none
 | m11+1,l8,a9,b10=>(bif (decide (b10≤n3)) then (Zcb l8 a9 b10 x4).bind fun l12=>(Zcz n3 x4 m11) l12 b10 (IntKind.i64.wrap (b10+20)) else (Zcb l8 a9 n3 x4).bind fun l13=>Z9d n3 x4 (((n3:Int) - 20).toNat+1) l13 20)
def Zmu (d1:(List Action))(n3:Int)(x4:(Action→Action→Option Int)):Option (List Action):=
 Zcz n3 x4 (((n3:Int) - 20).toNat+2) d1 0 20
theorem Yew (v2:Value)(d1:(List Action))(n3:Int)(x4:(Action→Action→Option Int))(r:(List Action))(h:Zmu d1 n3 x4=some r):Con Tryz.prog 241 [Zb v2,rd (Z0 .i64) n3,fn2 Tryz.prog Z9 Z9 (Z0 .i64) x4] (Zf v2 219 Z9 d1) (fun _:Unit=>top) (fun _=>Zf v2 219 Z9 r):=by
 refine Con.intro Tryz.func241 rfl Tryz.ntmps241 rfl fun w H X Z=>?_
 unfold Zmu at h
 refine SR<|Ak rfl<|Nl<|SR<|Md rfl<|Ak rfl<|As rfl<|Nl<|sq<|bk<|LG (d:=[]) (ν:=Nat×(List Action)×Int×Int) (fun (m11,l8,a9,b10)=>(True∧Zcz n3 x4 m11 l8 a9 b10=some r,m11,[(0,Zb v2),(1,rd (Z0 .i64) n3),(2,fn2 Tryz.prog Z9 Z9 (Z0 .i64) x4),(6,rd (Z0 .i64) 20),(7,rd (Z0 .i64) a9),(8,rd (Z0 .i64) b10)],[(0,Zf v2 219 Z9 l8)])) ((((n3:Int) - 20).toNat+2),d1,0,20) ⟨trivial,h⟩ (FX rfl) ?_
 rintro ⟨m11,l8,a9,b10⟩ ⟨hsf1,h⟩
 dsimp only at h ⊢
 cases m11 with
 | zero=>cases h
 | succ m11=>
  unfold Zcz at h
  refine sq<|SR<|Md rfl<|Md rfl<|Ac (Z5j rfl rfl (vt rfl) (vt rfl)) rfl<|Nl<|Cq rfl h (fun h=>?_) (fun h=>?_)
  ·refine sk<|bk<|sq ?_
   obtain ⟨l12,hl12,h⟩:=Z7 h
   refine Rg<|Mw rfl<|Md rfl<|Md rfl<|Ac (Zq (A:=fn2 Tryz.prog Z9 Z9 (Z0 .i64) x4) rfl rfl (vt rfl)) rfl<|Cv rfl (Z1a 0 (xs:=[.tmp 14,.tmp 15,.tmp 16,.tmp 17]) (Y4m _ _ _ _ _ _ hl12) Y2y rfl rfl ⟨vt rfl,vt rfl,vt rfl,vt rfl,trivial⟩ rfl) fun _u=>Nl<|SR<|Md rfl<|As rfl<|Nl<|Rg<|Md rfl<|Md rfl<|Ac (Z06 rfl rfl (vt rfl) (vt rfl)) rfl<|As rfl<|Nl ?_
   exact ⟨(_,_,_,_),Nat.lt_succ_self _,⟨trivial,h⟩,FX rfl⟩
  ·refine xt<|sq ?_
   obtain ⟨l13,hl13,h⟩:=Z7 h
   refine Rg<|Mw rfl<|Md rfl<|Md rfl<|Ac (Zq (A:=fn2 Tryz.prog Z9 Z9 (Z0 .i64) x4) rfl rfl (vt rfl)) rfl<|Cv rfl (Z1a 0 (xs:=[.tmp 23,.tmp 24,.tmp 25,.tmp 26]) (Y4m _ _ _ _ _ _ hl13) Y2y rfl rfl ⟨vt rfl,vt rfl,vt rfl,vt rfl,trivial⟩ rfl) fun _u=>Nl<|bk<|LG (d:=[]) (ν:=Nat×(List Action)×Int) (fun (m18,l16,b17)=>(True∧Z9d n3 x4 m18 l16 b17=some r,m18,[(0,Zb v2),(1,rd (Z0 .i64) n3),(2,fn2 Tryz.prog Z9 Z9 (Z0 .i64) x4),(6,rd (Z0 .i64) b17)],[(0,Zf v2 219 Z9 l16)])) ((((n3:Int) - 20).toNat+1),l13,20) ⟨trivial,h⟩ (FX rfl) ?_
   rintro ⟨m18,l16,b17⟩ ⟨hsf2,h⟩
   dsimp only at h ⊢
   cases m18 with
   | zero=>cases h
   | succ m18=>
    unfold Z9d at h
    refine sq<|SR<|Md rfl<|Md rfl<|Ac (Zj rfl rfl (vt rfl) (vt rfl)) rfl<|Nl<|Cq rfl h (fun h=>?_) (fun h=>?_)
    ·refine sk<|bk<|SR<|Md rfl<|Ac (Z80 rfl rfl (vk rfl) (vt rfl)) rfl<|Ak rfl<|As rfl<|Nl<|sq<|bk<|LG (d:=[]) (ν:=Nat×(List Action)×Int×Int) (fun (m25,l22,a23,b24)=>(True∧Zij n3 b17 x4 (Z9d n3 x4 m18) m25 l22 a23 b24=some r,m25,[(0,Zb v2),(1,rd (Z0 .i64) n3),(2,fn2 Tryz.prog Z9 Z9 (Z0 .i64) x4),(6,rd (Z0 .i64) b17),(7,rd (Z0 .i64) a23),(8,rd (Z0 .i64) b24)],[(0,Zf v2 219 Z9 l22)])) ((((n3:Int) - (IntKind.i64.wrap (2*b17))).toNat+2),l16,0,(IntKind.i64.wrap (2*b17))) ⟨trivial,h⟩ (FX rfl) ?_
     rintro ⟨m25,l22,a23,b24⟩ ⟨hsf3,h⟩
     dsimp only at h ⊢
     cases m25 with
     | zero=>cases h
     | succ m25=>
      unfold Zij at h
      refine sq<|SR<|Md rfl<|Md rfl<|Ac (Z5j rfl rfl (vt rfl) (vt rfl)) rfl<|Nl<|Cq rfl h (fun h=>?_) (fun h=>?_)
      ·refine sk<|bk<|sq ?_
       obtain ⟨l26,hl26,h⟩:=Z7 h
       refine Rg<|Mw rfl<|Md rfl<|Md rfl<|Md rfl<|Ac (Z06 rfl rfl (vt rfl) (vt rfl)) rfl<|Md rfl<|Ac (Zq (A:=fn2 Tryz.prog Z9 Z9 (Z0 .i64) x4) rfl rfl (vt rfl)) rfl<|Cv rfl (Z1a 0 (xs:=[.tmp 36,.tmp 37,.tmp 40,.tmp 41,.tmp 42]) (Yba _ _ _ _ _ _ _ hl26) Zo0 rfl rfl ⟨vt rfl,vt rfl,vt rfl,vt rfl,vt rfl,trivial⟩ rfl) fun _u=>Nl<|SR<|Md rfl<|As rfl<|Nl<|Rg<|Md rfl<|Md rfl<|Ac (Z80 rfl rfl (vk rfl) (vt rfl)) rfl<|Ac (Z06 rfl rfl (vt rfl) (vt rfl)) rfl<|As rfl<|Nl ?_
       exact ⟨(_,_,_,_),Nat.lt_succ_self _,⟨trivial,h⟩,FX rfl⟩
      ·refine xt<|sq<|SR<|Md rfl<|Md rfl<|Ac (Z06 rfl rfl (vt rfl) (vt rfl)) rfl<|As rfl<|Nl<|SR<|Md rfl<|Md rfl<|Ac (Zj rfl rfl (vt rfl) (vt rfl)) rfl<|Nl<|Cq rfl h (fun h=>?_) (fun h=>?_)
       ·obtain ⟨l27,hl27,h⟩:=Z7 h
        refine Rg<|Mw rfl<|Md rfl<|Md rfl<|Md rfl<|Ac (Zq (A:=fn2 Tryz.prog Z9 Z9 (Z0 .i64) x4) rfl rfl (vt rfl)) rfl<|Cv rfl (Z1a 0 (xs:=[.tmp 55,.tmp 56,.tmp 57,.tmp 58,.tmp 59]) (Yba _ _ _ _ _ _ _ hl27) Zo0 rfl rfl ⟨vt rfl,vt rfl,vt rfl,vt rfl,vt rfl,trivial⟩ rfl) fun _u=>Nl<|Rg<|Md rfl<|Ac (Z80 rfl rfl (vt rfl) (vk rfl)) rfl<|As rfl<|Nl ?_
        exact ⟨(_,_,_),Nat.lt_succ_self _,⟨trivial,h⟩,FX rfl⟩
       ·refine sk<|Rg<|Md rfl<|Ac (Z80 rfl rfl (vt rfl) (vk rfl)) rfl<|As rfl<|Nl ?_
        exact ⟨(_,_,_),Nat.lt_succ_self _,⟨trivial,h⟩,FX rfl⟩
    ·refine xt ?_
     cases h;exact Z2d (i:=0) Tryz.results241 rfl rfl
def Zf4 (x1:(List Action))(x3:(Action→Action→Option Int)):Option (List Action):=
 (Zmu x1 (x1.length:Int) x3).bind fun l4=>some l4
theorem Yw8 (v2:Value)(x1:(List Action))(x3:(Action→Action→Option Int))(r:(List Action))(h:Zf4 x1 x3=some r):Con Tryz.prog 151 [Zb v2,fn2 Tryz.prog Z9 Z9 (Z0 .i64) x3] (Zf v2 219 Z9 x1) (fun _:Unit=>top) (fun _=>Zf v2 219 Z9 r):=by
 refine Con.intro Tryz.func151 rfl Tryz.ntmps151 rfl fun w H X Z=>?_
 unfold Zf4 at h
 obtain ⟨l4,hl4,h⟩:=Z7 h
 refine Rg<|Mw rfl<|Mw rfl<|Ac (Z4k 0 rfl rfl Z0g (vt rfl) rfl) rfl<|Ac (Zq (A:=fn2 Tryz.prog Z9 Z9 (Z0 .i64) x3) rfl rfl (vt rfl)) rfl<|Cv rfl (Z1a 0 (xs:=[.tmp 4,.tmp 6,.tmp 7]) (Yew _ _ _ _ _ hl4) Ysb rfl rfl ⟨vt rfl,vt rfl,vt rfl,trivial⟩ rfl) fun _u=>Nl ?_
 cases h;exact Z2d (i:=0) Tryz.results151 rfl rfl
def Z92 (a1:Action)(b2:Action):Option Int:=
 (Zbk a1).bind fun x5=>(Zbk b2).bind fun x6=>(Ze5 x5.kind).bind fun x9=>(Ze5 x6.kind).bind fun x10=>(bif (decide ((IntKind.i64.wrap (x9 - x10))≠0)) then some (IntKind.i64.wrap (x9 - x10)) else (bif (decide (x5.field<x6.field)) then some (-1) else (bif (decide (x5.field>x6.field)) then some 1 else some 0)))
theorem Yqw:Q2 Tryz.prog 152 (rd Z9) (rd Z9) (rd (Z0 .i64)) Z92:=fun a1 b2 r h=>I0 Tryz.func152 rfl Tryz.ntmps152 rfl fun w H Z=>by
 unfold Z92 at h
 refine SR<|Cv rfl (Zs 3 rfl rfl (vt rfl)) fun g3=>Cv rfl (Zs 4 rfl rfl (vt rfl)) fun g4=>Ak rfl<|Nl<|sq ?_
 obtain ⟨x5,hx5,x6,hx6,h⟩:=bs2 h
 refine AR Z00 (by kernel_rfl)<|Zo Z0z 3 rfl<|SCl [8] (Zqf _ _ hx5) Zr2 rfl<|Zo Z0z 4 rfl<|SCl [10] (Zqf _ _ hx6) Zr2 rfl<|Sd (Z19 (us:=[(5,Z2t 225 Z76 Zo2)]) (ur:=[]) [] [] rfl fun S hs hr=>Z7k rfl rfl rfl Zl8)<|Sd (Z19 (us:=[(6,Z2t 225 Z76 Zo2)]) (ur:=[]) [] [] rfl fun S hs hr=>Z7k rfl rfl rfl Zl8)<|Sd (Z19 (us:=[(5,Z2t 225 Z76 x5)]) (ur:=[]) [5,9] [] rfl fun S hs hr=>Z70 rfl rfl Zfl ((hs 5 rfl).trans rfl) (vh hs 9 rfl rfl))<|Sd (Z19 (us:=[(6,Z2t 225 Z76 x6)]) (ur:=[]) [6,11] [] rfl fun S hs hr=>Z70 rfl rfl Zfl ((hs 6 rfl).trans rfl) (vh hs 11 rfl rfl))<|Sn<|AW.unpackP 5 6 rfl rfl fun g7=>AW.unpackP 6 7 rfl rfl fun g8=>sq<|sq ?_
 obtain ⟨x9,hx9,x10,hx10,h⟩:=bs2 h
 refine AR Z00 (by kernel_rfl)<|SFd laset_spot_0 Y3a rfl<|Zo Zp 6 rfl<|SCl [13] (Zw2 _ _ hx9) Zvb rfl<|SFd laset_spot_0 Y3a rfl<|Zo Zp 7 rfl<|SCl [16] (Zw2 _ _ hx10) Zvb rfl<|Sd (lo [14,17] [] rfl fun S hs hr=>Z0r rfl rfl (vh hs 14 rfl rfl) (vh hs 17 rfl rfl))<|SAs rfl<|Sn<|SR<|Md rfl<|Ac (Z5t rfl rfl (vt rfl) (vk rfl)) rfl<|Nl<|Cq rfl h (fun h=>?_) (fun h=>?_)
 ·refine SR<|Md rfl<|As rfl<|Nl<|rt ?_
  cases h;exact Zd Tryz.results152 rfl (Z5 rfl)
 ·refine sk<|sq<|bk<|SR<|Zk laset_spot_1 Zrt rfl<|Ld Zp 6 rfl<|Zk laset_spot_1 Zrt rfl<|Ld Zp 7 rfl<|Ac (Zj rfl rfl (vt rfl) (vt rfl)) rfl<|As rfl<|Nl<|Cq rfl h (fun h=>?_) (fun h=>?_)
  ·refine SR<|Ak rfl<|Nl<|rt ?_
   cases h;exact Zd Tryz.results152 rfl (Z5 rfl)
  ·refine SR<|Zk laset_spot_1 Zrt rfl<|Ld Zp 6 rfl<|Zk laset_spot_1 Zrt rfl<|Ld Zp 7 rfl<|Ac (Z2m rfl rfl (vt rfl) (vt rfl)) rfl<|As rfl<|Nl<|Cq rfl h (fun h=>?_) (fun h=>?_)
   ·refine SR<|Ak rfl<|Nl<|rt ?_
    cases h;exact Zd Tryz.results152 rfl (Z5 rfl)
   ·refine sk<|SR<|Ak rfl<|Nl<|rt ?_
    cases h;exact Zd Tryz.results152 rfl (Z5 rfl)
def Z89 (s1:(List Action)):Option (List Action):=
 (Zn6 s1 Znn).bind fun x2=>(Z6r s1).bind fun x4=>(Zml x4 (fun x=>Zcj x x2)).bind fun x6=>(Zf4 x6 Z92).bind fun l8=>some l8
theorem Zw6:Q1 Tryz.prog 72 (rd (Z1 Z9)) (rd (Z1 Z9)) Z89:=fun s1 r h=>I0 Tryz.func72 rfl Tryz.ntmps72 rfl fun w H Z=>by
 unfold Z89 at h
 refine SR<|Ac (Zv (A:=rd (Z1 Z9) []) rfl rfl Z1f) rfl<|Nl<|sq ?_
 obtain ⟨x2,hx2,h⟩:=Z7 h
 refine Rg<|Md rfl<|Ac (Z0c (xs:=[.tmp 5,.func 146]) (Yp2 _ _ _ hx2) Ykz rfl rfl ⟨vt rfl,vf1 Yf0 Ym9,trivial⟩) rfl<|Cv rfl (Zm 4 rfl rfl zr4) fun g3=>Zg ty4 4 rfl<|Nl<|sq<|AW.freezeB 3 4 rfl rfl rfl ?_
 obtain ⟨x4,hx4,x6,hx6,h⟩:=bs2 h
 refine Rg<|Md rfl<|Cv rfl (Z1a 1001 (xs:=[.tmp 7]) (Zsl _ _ hx4) Zka rfl rfl ⟨vt rfl,trivial⟩ rfl) fun v5=>Ac (Z9b (cs:=[.tmp 3]) (CAs:=[rp Z6 x2]) (fun x=>Zcj x x2) rfl rfl Ygz ⟨vt rfl,trivial⟩ (fun x y h=>Yj3 _ _ y h)) rfl<|Cv rfl (Z1a 1001 (xs:=[.tmp 8,.tmp 9]) (Yta _ _ _ _ hx6) Yee rfl rfl ⟨vt rfl,vt rfl,trivial⟩ rfl) fun v7=>Aw rfl<|Nl<|sq ?_
 obtain ⟨l8,hl8,h⟩:=Z7 h
 refine Rg<|Mw rfl<|Cv rfl (Z1a 1001 (xs:=[.tmp 11,.func 152]) (Yw8 _ _ _ _ hl8) Yu1 rfl rfl ⟨vt rfl,vf2 Ynn Yqw,trivial⟩ rfl) fun _u=>Nl<|SR<|Mw rfl<|Aw rfl<|Nl<|AW.freezes [2,4,10,11,13] 1001 rfl ⟨rfl,rfl,rfl,rfl,rfl,trivial⟩ rfl<|rt ?_
 cases h;exact Zd Tryz.results72 rfl (Z5 rfl)
def Zhq (l3:(List Inst))(a2:Int)(b9:walk_way):Option (walk_way×Int×Bool):=
 (Z64 l3 1).bind fun x10=>(bif ((x10.2&&(decide (x10.1.Table>a2)))&&(decide (x10.1.Table<4))) then some (b9,x10.1.Table,true) else (Z89 b9.set).bind fun x12=>(Zdv b9 x12).bind fun x13=>some (x13,0,false))
def Zh8 (l3:(List Inst))(a2:Int)(b8:walk_way):Option (walk_way×Int×Bool):=
 (Z64 l3 2).bind fun x14=>(bif x14.2 then (Z9f b8.got 1 x14.1.Value x14.1.Mask).bind fun x16=>Zhq l3 a2 {b8 with got:=x16} else Zhq l3 a2 b8)
def Ziu (l3:(List Inst))(a2:Int)(b7:walk_way):Option (walk_way×Int×Bool):=
 (Z64 l3 3).bind fun x17=>(bif x17.2 then (Zd3 b7.set x17.1.Acts).bind fun x19=>Zh8 l3 a2 {b7 with set:=x19} else Zh8 l3 a2 b7)
def Zgp (l3:(List Inst))(a2:Int)(b6:walk_way):Option (walk_way×Int×Bool):=
 (Z64 l3 5).bind fun x20=>(bif x20.2 then Ziu l3 a2 {b6 with set:=[]} else Ziu l3 a2 b6)
def Zn9 (w1:walk_way)(a2:Int)(l3:(List Inst)):Option (walk_way×Int×Bool):=
 (Z64 l3 4).bind fun x22=>(bif x22.2 then (Zdv w1 x22.1.Acts).bind fun x24=>Zgp l3 a2 x24 else Zgp l3 a2 w1)
theorem Yok:Q3 Tryz.prog 305 (rd Z1v) (rd (Z0 .i64)) (rd (Z1 Z0a)) (fun r=>Z49 (rd Z1v r.1) (rd (Z0 .i64) r.2.1) (rd Z6 r.2.2)) Zn9:=fun w1 a2 l3 r h=>I0 Tryz.func305 rfl Tryz.ntmps305 rfl fun w H Z=>by
 unfold Zn9 at h
 refine SR<|Cv rfl (Zs 4 rfl rfl (vt rfl)) fun g4=>Cv rfl (Zm 7 rfl rfl Zgb) fun g5=>Ak rfl<|Ab rfl<|Nl ?_
 refine JN (d:=[]) (ν:=walk_way) (fun b6=>(Zgp l3 a2 b6=some r,[(1,rd (Z0 .i64) a2),(2,rd (Z1 Z0a) l3),(3,Zc g4 (Lens.id Z1v)),(6,Zc g5 (Lens.id Z1v))],[(4,Zh g4 304 Z1v b6),(7,Zh g5 304 Z1v Zh7)])) ?hx1 ?hy1
 case hy1=>
  intro b6 h
  dsimp only at h ⊢
  unfold Zgp at h
  refine JN (d:=[]) (ν:=walk_way) (fun b7=>(Ziu l3 a2 b7=some r,[(1,rd (Z0 .i64) a2),(2,rd (Z1 Z0a) l3),(3,Zc g4 (Lens.id Z1v)),(6,Zc g5 (Lens.id Z1v))],[(4,Zh g4 304 Z1v b7),(7,Zh g5 304 Z1v Zh7)])) ?hx2 ?hy2
  case hy2=>
   intro b7 h
   dsimp only at h ⊢
   unfold Ziu at h
   refine JN (d:=[]) (ν:=walk_way) (fun b8=>(Zh8 l3 a2 b8=some r,[(1,rd (Z0 .i64) a2),(2,rd (Z1 Z0a) l3),(3,Zc g4 (Lens.id Z1v)),(6,Zc g5 (Lens.id Z1v))],[(4,Zh g4 304 Z1v b8),(7,Zh g5 304 Z1v Zh7)])) ?hx3 ?hy3
   case hy3=>
    intro b8 h
    dsimp only at h ⊢
    unfold Zh8 at h
    refine JN (d:=[]) (ν:=walk_way) (fun b9=>(Zhq l3 a2 b9=some r,[(1,rd (Z0 .i64) a2),(2,rd (Z1 Z0a) l3),(3,Zc g4 (Lens.id Z1v)),(6,Zc g5 (Lens.id Z1v))],[(4,Zh g4 304 Z1v b9),(7,Zh g5 304 Z1v Zh7)])) ?hx4 ?hy4
    case hy4=>
     intro b9 h
     dsimp only at h ⊢
     unfold Zhq at h
     refine sq ?_
     obtain ⟨x10,hx10,h⟩:=Z7 h
     refine Rg<|Md rfl<|Ac (Z0c (xs:=[.tmp 63,.const (Value.int IntKind.i64 1)]) (Z8n _ _ _ hx10) Z8m rfl rfl ⟨vt rfl,vk rfl,trivial⟩) rfl<|Mt2 rfl<|Ac (Z1c rfl rfl (vt rfl)) rfl<|Ac (Z18 rfl rfl (vt rfl)) rfl<|Cv rfl (Zm 18 rfl rfl Z3f) fun g11=>Zg Z25 18 rfl<|As rfl<|Nl<|sq<|SR<|Md rfl<|Md rfl<|Gd rfl (fun hq=>Z2n Z73 rfl rfl Z87 (vt rfl))<|Gd rfl (fun hq=>Z1s rfl rfl Zp (Zi rfl hq) (i:=18) rfl)<|Gd rfl (fun hq=>Zq (A:=rd (Z0 .i64) a2) rfl rfl (vt rfl))<|Gd rfl (fun hq=>Z2m rfl rfl (Zi rfl hq) (Zi rfl hq))<|Ac (Z1k rfl rfl (vt rfl) (vt rfl)) rfl<|Md rfl<|Gd rfl (fun hq=>Z2n Z73 rfl rfl Z87 (vt rfl))<|Gd rfl (fun hq=>Z1s rfl rfl Zp (Zi rfl hq) (i:=18) rfl)<|Gd rfl (fun hq=>Zj rfl rfl (Zi rfl hq) (vk rfl))<|Ac (Z1k rfl rfl (vt rfl) (vt rfl)) rfl<|Nl<|Cq rfl h (fun h=>?_) (fun h=>?_)
     ·refine sq<|AR Z00 (by kernel_rfl)<|Zo Z3i 4 rfl<|SFd Z73 Z87 rfl<|Zo Zp 18 rfl<|SSt Z3i 7 rfl<|SAs rfl<|Sd (lo [] [] rfl fun S hs hr=>Zv (A:=rd Z6 true) rfl rfl vb)<|Sn<|rt ?_
      cases h;exact Zj4 Tryz.results305 rfl (Zx rfl (i:=7) rfl Z3i) (Z5 rfl) (Z5 rfl)
     ·refine sk<|sq ?_
      obtain ⟨x12,hx12,x13,hx13,h⟩:=bs2 h
      refine AR Z00 (by kernel_rfl)<|Zo Z3i 4 rfl<|SFd Zno Zrs rfl<|Zo Z2z 4 rfl<|SCl [84] (Zw6 _ _ hx12) e72 rfl<|SCl [82,85] (Zzo _ _ _ hx13) Y03 rfl<|SSt Z3i 7 rfl<|Sd (lo [] [] rfl fun S hs hr=>Zv (A:=rd (Z0 .i64) 0) rfl rfl (vk rfl))<|Sd (lo [] [] rfl fun S hs hr=>Zv (A:=rd Z6 false) rfl rfl vb)<|Sn<|rt ?_
      cases h;exact Zj4 Tryz.results305 rfl (Zx rfl (i:=7) rfl Z3i) (Z5 rfl) (Z5 rfl)
    case hx4=>
     refine sq ?_
     obtain ⟨x14,hx14,h⟩:=Z7 h
     refine Rg<|Md rfl<|Ac (Z0c (xs:=[.tmp 49,.const (Value.int IntKind.i64 2)]) (Z8n _ _ _ hx14) Z8m rfl rfl ⟨vt rfl,vk rfl,trivial⟩) rfl<|Mt2 rfl<|Ac (Z1c rfl rfl (vt rfl)) rfl<|Ac (Z18 rfl rfl (vt rfl)) rfl<|Cv rfl (Zm 16 rfl rfl Z3f) fun g15=>Zg Z25 16 rfl<|As rfl<|Nl<|SR<|Md rfl<|Nl<|Cq rfl h (fun h=>?_) (fun h=>?_)
     ·obtain ⟨x16,hx16,h⟩:=Z7 h
      refine Rg<|Zk lwalk_way_1 Zjp rfl<|Ld Z04 4 rfl<|Zk Zrk Zuh rfl<|Ld Zw 16 rfl<|Zk Zon Zyf rfl<|Ld Zw 16 rfl<|Ac (Z0c (xs:=[.tmp 55,.const (Value.int IntKind.i64 1),.tmp 57,.tmp 59]) (Zi5 _ _ _ _ _ hx16) Zhf rfl rfl ⟨vt rfl,vk rfl,vt rfl,vt rfl,trivial⟩) rfl<|Zk lwalk_way_1 Zjp rfl<|Zg Z04 4 rfl<|Nl ?_
      exact ⟨_,h,FX rfl⟩
     ·refine sk ?_
      exact ⟨_,h,FX rfl⟩
   case hx3=>
    refine sq ?_
    obtain ⟨x17,hx17,h⟩:=Z7 h
    refine Rg<|Md rfl<|Ac (Z0c (xs:=[.tmp 37,.const (Value.int IntKind.i64 3)]) (Z8n _ _ _ hx17) Z8m rfl rfl ⟨vt rfl,vk rfl,trivial⟩) rfl<|Mt2 rfl<|Ac (Z1c rfl rfl (vt rfl)) rfl<|Ac (Z18 rfl rfl (vt rfl)) rfl<|Cv rfl (Zm 14 rfl rfl Z3f) fun g18=>Zg Z25 14 rfl<|As rfl<|Nl<|SR<|Md rfl<|Nl<|Cq rfl h (fun h=>?_) (fun h=>?_)
    ·obtain ⟨x19,hx19,h⟩:=Z7 h
     refine Rg<|Zk Zno Zrs rfl<|Ld Z2z 4 rfl<|Zk Z60 Z6w rfl<|Ld Z2z 14 rfl<|Cl [43,45] (Zwc _ _ _ hx19) Zts rfl<|Zk Zno Zrs rfl<|Zg Z2z 4 rfl<|Nl ?_
     exact ⟨_,h,FX rfl⟩
    ·refine sk ?_
     exact ⟨_,h,FX rfl⟩
  case hx2=>
   refine sq ?_
   obtain ⟨x20,hx20,h⟩:=Z7 h
   refine Rg<|Md rfl<|Ac (Z0c (xs:=[.tmp 30,.const (Value.int IntKind.i64 5)]) (Z8n _ _ _ hx20) Z8m rfl rfl ⟨vt rfl,vk rfl,trivial⟩) rfl<|Mt2 rfl<|Ac (Z1c rfl rfl (vt rfl)) rfl<|Ac (Z18 rfl rfl (vt rfl)) rfl<|Cv rfl (Zm 12 rfl rfl Z3f) fun g21=>Zg Z25 12 rfl<|As rfl<|Nl<|SR<|Md rfl<|Nl<|Cq rfl h (fun h=>?_) (fun h=>?_)
   ·refine Rg<|Zk Zno Zrs rfl<|Ac (Z6y rfl rfl Z2z (vt rfl) (i:=4) rfl Z1f) rfl<|Nl ?_
    exact ⟨_,h,FX rfl⟩
   ·refine sk ?_
    exact ⟨_,h,FX rfl⟩
 case hx1=>
  refine sq ?_
  obtain ⟨x22,hx22,h⟩:=Z7 h
  refine Rg<|Md rfl<|Ac (Z0c (xs:=[.tmp 20,.const (Value.int IntKind.i64 4)]) (Z8n _ _ _ hx22) Z8m rfl rfl ⟨vt rfl,vk rfl,trivial⟩) rfl<|Mt2 rfl<|Ac (Z1c rfl rfl (vt rfl)) rfl<|Ac (Z18 rfl rfl (vt rfl)) rfl<|Cv rfl (Zm 10 rfl rfl Z3f) fun g23=>Zg Z25 10 rfl<|As rfl<|Nl<|SR<|Md rfl<|Nl<|Cq rfl h (fun h=>?_) (fun h=>?_)
  ·obtain ⟨x24,hx24,h⟩:=Z7 h
   refine Rg<|Ld Z3i 4 rfl<|Zk Z60 Z6w rfl<|Ld Z2z 10 rfl<|Cl [25,27] (Zzo _ _ _ hx24) Y03 rfl<|Zg Z3i 4 rfl<|Nl ?_
   exact ⟨_,h,FX rfl⟩
  ·refine sk ?_
   exact ⟨_,h,FX rfl⟩
end Go.Proofs.YtinplddjjalohaaGreatDoor.W
set_option maxHeartbeats 1000000
set_option maxRecDepth 4000
namespace Go.Proofs.YtinplddjjalohaaGreatDoor.W
open Go Go.Wb
theorem Y2k:Ent Tryz.prog 222:=Ent.mk Tryz.func222 rfl rfl
theorem Y74:Ent Tryz.prog 228:=Ent.mk Tryz.func228 rfl rfl
theorem Y70:Ent Tryz.prog 306:=Ent.mk Tryz.func306 rfl rfl
theorem Yto:Ent Tryz.prog 304:=Ent.mk Tryz.func304 rfl rfl
theorem Ytx:Ent Tryz.prog 305:=Ent.mk Tryz.func305 rfl rfl
theorem Y76:Ent Tryz.prog 225:=Ent.mk Tryz.func225 rfl rfl
theorem Yqz:Ent Tryz.prog 224:=Ent.mk Tryz.func224 rfl rfl
theorem Ywu:Ent Tryz.prog 223:=Ent.mk Tryz.func223 rfl rfl
theorem Yqg:Ent Tryz.prog 136:=Ent.mk Tryz.func136 rfl rfl
theorem Ylk:Ent Tryz.prog 135:=Ent.mk Tryz.func135 rfl rfl
def Zds (s:List Atom):Option (List Atom):=Z0v [] s
theorem Ydk (s:List Atom)(r:List Atom)(h:Zds s=some r):Con Tryz.prog 222 [rd (Z1 Z0q) s] emp (fun v=>Zb v) (fun v=>Zf v 296 Z0q r):=by
 refine Con.intro0 Tryz.func222 rfl Tryz.ntmps222 rfl fun w H Z=>?_
 unfold Zds at h
 refine AW.newnil 1001 296 Z0q<|SR<|Ac (Zv (A:=Zb (.slice none 0 0)) rfl rfl vc) rfl<|Nl<|sq<|SR<|Md rfl<|Ct rfl (Zbx rfl rfl Z7n (vt rfl)) ?_
 rintro _ ⟨b,hb,rfl⟩
 refine Nl<|Cn rfl (fun hc=>?_) (fun hc=>?_)
 ·obtain rfl:=hb hc
  refine SR<|Ac (Zv (A:=Zb (.slice none 0 0)) rfl rfl vc) rfl<|Nl<|rt ?_
  obtain rfl:=(Z7c h).2
  exact Z3m (i:=1001) Tryz.results222 rfl rfl rfl
 ·refine sk<|SR<|Cv rfl (Z4q 1002 (ps:=[]) (l:=[]) rfl rfl Z7n Z7b rfl rfl rfl rfl) fun v1=>Md rfl<|Cv rfl (Z29 1002 h rfl rfl Zak (vt rfl) rfl (vt rfl)) fun v2=>Aw rfl<|Nl<|rt ?_
  exact Z3m (i:=1002) Tryz.results222 rfl rfl rfl
theorem Y8u (s:List Atom)(r:List Atom)(h:Zds s=some r):PCon Tryz.prog 222 [rd (Z1 Z0q) s] (rd (Z1 Z0q) r):=PCon.of_row (Ydk s r h)
def Zfd (w1:walk_way):Option Rule:=
 (Zds w1.atoms).bind fun x4=>some (⟨w1.cube,x4⟩:Rule)
theorem Y2q:Q1 Tryz.prog 306 (rd Z1v) (rd Z09) Zfd:=fun w1 r h=>I0 Tryz.func306 rfl Tryz.ntmps306 rfl fun w H Z=>by
 unfold Zfd at h
 refine SR<|Cv rfl (Zs 2 rfl rfl (vt rfl)) fun g2=>Cv rfl (Zm 3 rfl rfl Z6p) fun g3=>Nl<|sq ?_
 obtain ⟨x4,hx4,h⟩:=Z7 h
 refine AR Z00 (by kernel_rfl)<|SFd lwalk_way_0 Zvk rfl<|Zo Z02 2 rfl<|SFd Zih Zl7 rfl<|Zo Zeu 2 rfl<|SCl [6] (Y8u _ _ hx4) Y2k rfl<|Sd (lo [4,7] [] rfl fun S hs hr=>opb (⟨w1.cube,x4⟩:Rule) Z6p rfl Zuz (pc Zvg (vh hs 4 rfl rfl)<|pc Zxi (vh hs 7 rfl rfl)<|pn rfl))<|SSt Z9j 3 rfl<|Sn<|rt ?_
 cases h;exact Zd Tryz.results306 rfl (Zx rfl (i:=3) rfl Z9j)
def Znl (sg:Type)(go1:Nat→(Lp sg)→Option (Bool×Lp sg))(i11:Nat)(s22:(Lp sg))(o23:Bool):Option (Bool×Lp sg):=
 (bif (!o23) then some (false,s22) else go1 (i11+1) s22)
def Z7a (sg:Type)(w5:walk_way)(y1:(sg→Rule→Option (Lp sg)))(a4:Int)(s3:Switch)(R_walk_search_table:((Lp sg)→Switch→Int→walk_way→Option (Bool×Lp sg))):(List Int)→Nat→(Lp sg)→Option (Bool×Lp sg)
 | [],i11,s10=>(Zfd w5).bind fun x13=>(yc y1 s10 x13).bind fun s14=>some ((Lp.isGo s14),s14)
 | x15::l12,i11,s10=>(chk 4 a4).bind fun j16=>(lget (Vector.get s3.Tables j16) x15).bind fun x17=>(Zne w5 x17).bind fun x19=>(bif (!x19.2) then (Z7a sg w5 y1 a4 s3 R_walk_search_table l12) (i11+1) s10 else (Zn9 x19.1 a4 x17.Insts).bind fun x21=>(bif x21.2.2 then (R_walk_search_table s10 s3 x21.2.1 x21.1).bind fun b24=>Znl sg (Z7a sg w5 y1 a4 s3 R_walk_search_table l12) i11 b24.2 b24.1 else (Zfd x21.1).bind fun x25=>(yc y1 s10 x25).bind fun s26=>Znl sg (Z7a sg w5 y1 a4 s3 R_walk_search_table l12) i11 s26 (Lp.isGo s26)))
def Znp (sg:Type)(y1:(sg→Rule→Option (Lp sg)))(R_walk_search_table:((Lp sg)→Switch→Int→walk_way→Option (Bool×Lp sg)))(s2:(Lp sg))(s3:Switch)(a4:Int)(w5:walk_way):Option (Bool×Lp sg):=
 (chk 4 a4).bind fun j7=>(Zhw (Vector.get s3.Tables j7)).bind fun x8=>Z7a sg w5 y1 a4 s3 R_walk_search_table x8 0 s2
theorem Ybk (sg:Type)(y1:(sg→Rule→Option (Lp sg)))(L:Lp sg→Zu)(R_walk_search_table:((Lp sg)→Switch→Int→walk_way→Option (Bool×Lp sg)))(hR_walk_search_table:∀(s2:(Lp sg)) (s3:Switch) (a4:Int) (w5:walk_way) (r:(Bool×Lp sg)),R_walk_search_table s2 s3 a4 w5=some r→Con Tryz.prog 225 [rp (ksp Z08 (ydA Tryz.prog Z09 y1 L)) s3,rd (Z0 .i64) a4,rd Z1v w5] (L s2) (fun _:Unit=>rd Z6 r.1) (fun _=>L r.2))(s2:(Lp sg))(s3:Switch)(a4:Int)(w5:walk_way)(r:(Bool×Lp sg))(h:Znp sg y1 R_walk_search_table s2 s3 a4 w5=some r):Con Tryz.prog 225 [rp (ksp Z08 (ydA Tryz.prog Z09 y1 L)) s3,rd (Z0 .i64) a4,rd Z1v w5] (L s2) (fun _:Unit=>rd Z6 r.1) (fun _=>L r.2):=by
 refine Con.intro Tryz.func225 rfl Tryz.ntmps225 rfl fun w H X Z=>?_
 unfold Znp at h
 refine SR<|Cv rfl (Zs 6 rfl rfl (vt rfl)) fun g6=>Ab rfl<|Nl<|AW.scope<|sq<|AW.label<|sq<|sq ?_
 obtain ⟨j7,hj7,x8,hx8,h⟩:=bs2 h
 refine Rg<|Mr rfl<|Md rfl<|Ac (Z30 rfl rfl (vt rfl)) rfl<|Ac (Z6e (Zvp Z08 (ydA Tryz.prog Z09 y1 L)) rfl rfl (Y0p _) (vt rfl)) rfl<|Fp Z4n Z4u rfl<|Ac (Z7x rfl rfl Z51 (vt rfl) (vt rfl) hj7) rfl<|Lp1 Z38 rfl<|Cl [20] (Y44 _ _ hx8) Y74 rfl<|Ac (Z0i rfl rfl Z11 (vt rfl)) rfl<|Mk rfl<|Nl<|bk<|LG (d:=[]) (ν:=(List Int)×Nat×(Lp sg)) (fun (l12,i11,s10)=>(Sfx x8 i11 l12∧Z7a sg w5 y1 a4 s3 R_walk_search_table l12 i11 s10=some r,l12.length,[(0,rp (ksp Z08 (ydA Tryz.prog Z09 y1 L)) s3),(1,rd (Z0 .i64) a4),(5,Zc g6 (Lens.id Z1v)),(21,rd (Z1 (Z0 .i64)) x8),(22,rd (Z0 .i64) (x8.length:Int)),(23,rd (Z0 .i64) (i11:Int))],[(0,L s10),(6,Zh g6 304 Z1v w5)])) (x8,0,s2) ⟨Sfx.start _,h⟩ (FX rfl) ?_
 rintro ⟨l12,i11,s10⟩ ⟨hsf1,h⟩
 dsimp only at hsf1 h ⊢
 cases l12 with
 | nil=>
  unfold Z7a at h
  refine SR<|Ac (Zj rfl rfl (vt rfl) (vt rfl)) rfl<|Nl<|sq<|Cn rfl (fun hc=>absurd (of_decide_eq_true hc) hsf1.nil) (fun hc=>?_)
  refine xt<|sq ?_
  obtain ⟨x13,hx13,s14,hs14,h⟩:=bs2 h
  refine AR Z00 (by kernel_rfl)<|Sd (lo [0] [] rfl fun S hs hr=>Zq (A:=rp (ksp Z08 (ydA Tryz.prog Z09 y1 L)) s3) rfl rfl (vh hs 0 rfl rfl))<|Sd (lo [69] [] rfl fun S hs hr=>Z30 rfl rfl (vh hs 69 rfl rfl))<|Sd (lo [70] [] rfl fun S hs hr=>Z6e (Zx9 Z08 (ydA Tryz.prog Z09 y1 L)) rfl rfl (Y9i _) (vh hs 70 rfl rfl))<|Sd (lo [71] [] rfl fun S hs hr=>Y6z (A:=ydA Tryz.prog Z09 y1 L) rfl rfl rfl (Y04 _) (vh hs 71 rfl rfl))<|Zo Z3i 6 rfl<|SCl [73] (Y2q _ _ hx13) Y70 rfl<|Sd (Z19 (us:=[(75,rd Z6 (Lp.isGo s14))]) (ur:=[(0,L s14)]) [72,74] [0] rfl fun S hs hr=>Zku 0 hs14 rfl rfl (vh hs 72 rfl rfl) (vh hs 74 rfl rfl) ((hr 0 rfl).trans rfl))<|SAs rfl<|Sn<|rt ?_
  cases h;exact Zoj (i:=0) Tryz.results225 rfl (Z5 rfl) rfl
 | cons x15 l12=>
  unfold Z7a at h
  refine SR<|Ac (Zj rfl rfl (vt rfl) (vt rfl)) rfl<|Nl<|sq<|Cn rfl (fun hc=>?_) (fun hc=>absurd hsf1.cons (of_decide_eq_false hc))
  have hlti11:=of_decide_eq_true hc
  refine sk<|sq<|bk<|SR<|Ac (Z0k rfl rfl Z11 (vt rfl) (vt rfl) hsf1.lget) rfl<|Lp1 Zp rfl<|As rfl<|Nl<|sq ?_
  obtain ⟨j16,hj16,x17,hx17,h⟩:=bs2 h
  refine Rg<|Mr rfl<|Md rfl<|Ac (Z30 rfl rfl (vt rfl)) rfl<|Ac (Z6e (Zvp Z08 (ydA Tryz.prog Z09 y1 L)) rfl rfl (Y0p _) (vt rfl)) rfl<|Fp Z4n Z4u rfl<|Ac (Z7x rfl rfl Z51 (vt rfl) (vt rfl) hj16) rfl<|Lp1 Z38 rfl<|Md rfl<|Ac (Z0k rfl rfl Z2e (vt rfl) (vt rfl) hx17) rfl<|Lp1 Z2b rfl<|Cv rfl (Zm 10 rfl rfl Z61) fun g18=>Zg Z2b 10 rfl<|Nl<|sq ?_
  obtain ⟨x19,hx19,h⟩:=Z7 h
  refine Rg<|Ld Z3i 6 rfl<|Ld Z2b 10 rfl<|Cl [38,39] (Yhe _ _ _ hx19) Yto rfl<|Mt2 rfl<|Ac (Z1c rfl rfl (vt rfl)) rfl<|Ac (Z18 rfl rfl (vt rfl)) rfl<|Cv rfl (Zm 11 rfl rfl Zgb) fun g20=>Zg Z3i 11 rfl<|As rfl<|Nl<|sq<|SR<|Md rfl<|Ac (Z0y rfl rfl (vt rfl)) rfl<|Nl<|Cq rfl h (fun h=>?_) (fun h=>?_)
  ·refine xt<|Rg<|Ac (Z12 (t:=22) rfl rfl (vt rfl) (vk rfl) (vt rfl) hlti11) rfl<|Md rfl<|Nl ?_
   exact ⟨(_,_,_),Nat.lt_succ_self _,⟨hsf1.next,h⟩,FX rfl⟩
  ·refine sk<|sq ?_
   obtain ⟨x21,hx21,h⟩:=Z7 h
   refine Rg<|Ld Z3i 11 rfl<|Md rfl<|Zk lFlow_6 Z8h rfl<|Ld Z5v 10 rfl<|Cl [46,47,49] (Yok _ _ _ _ hx21) Ytx rfl<|Ac (Zq (A:=Z49 (rd Z1v x21.1) (rd (Z0 .i64) x21.2.1) (rd Z6 x21.2.2)) rfl rfl (vt rfl)) rfl<|Ac (Zgc rfl rfl (vt rfl)) rfl<|Ac (Zi6 rfl rfl (vt rfl)) rfl<|Ac (Zgo rfl rfl (vt rfl)) rfl<|Zg Z3i 11 rfl<|As rfl<|As rfl<|Nl ?_
   refine JN (d:=[]) (ν:=(Lp sg)×Bool) (fun (s22,o23)=>(Znl sg (Z7a sg w5 y1 a4 s3 R_walk_search_table l12) i11 s22 o23=some r,[(0,rp (ksp Z08 (ydA Tryz.prog Z09 y1 L)) s3),(1,rd (Z0 .i64) a4),(5,Zc g6 (Lens.id Z1v)),(11,rd Z6 o23),(21,rd (Z1 (Z0 .i64)) x8),(22,rd (Z0 .i64) (x8.length:Int)),(23,rd (Z0 .i64) (i11:Int))],[(0,L s22),(6,Zh g6 304 Z1v w5)])) ?hx2 ?hy2
   case hy2=>
    rintro ⟨s22,o23⟩ h
    dsimp only at h ⊢
    unfold Znl at h
    refine SR<|Md rfl<|Ac (Z0y rfl rfl (vt rfl)) rfl<|Nl<|Cq rfl h (fun h=>?_) (fun h=>?_)
    ·refine SR<|Ab rfl<|Nl<|rt ?_
     cases h;exact Zoj (i:=0) Tryz.results225 rfl (Z5 rfl) rfl
    ·refine sk<|Rg<|Ac (Z12 (t:=22) rfl rfl (vt rfl) (vk rfl) (vt rfl) hlti11) rfl<|Md rfl<|Nl ?_
     exact ⟨(_,_,_),Nat.lt_succ_self _,⟨hsf1.next,h⟩,FX rfl⟩
   case hx2=>
    refine SR<|Md rfl<|Nl<|Cq rfl h (fun h=>?_) (fun h=>?_)
    ·obtain ⟨b24,hb24,h⟩:=Z7 h
     refine Rg<|Mr rfl<|Md rfl<|Ld Z3i 11 rfl<|Cv rfl (Z1a 0 (xs:=[.tmp 55,.tmp 56,.tmp 57]) (hR_walk_search_table _ _ _ _ _ hb24) Y76 rfl rfl ⟨vt rfl,vt rfl,vt rfl,trivial⟩ rfl) fun _u=>As rfl<|Nl ?_
     exact ⟨(_,_),h,FX rfl⟩
    ·obtain ⟨x25,hx25,s26,hs26,h⟩:=bs2 h
     refine AR Z00 (by kernel_rfl)<|Sd (lo [0] [] rfl fun S hs hr=>Zq (A:=rp (ksp Z08 (ydA Tryz.prog Z09 y1 L)) s3) rfl rfl (vh hs 0 rfl rfl))<|Sd (lo [59] [] rfl fun S hs hr=>Z30 rfl rfl (vh hs 59 rfl rfl))<|Sd (lo [60] [] rfl fun S hs hr=>Z6e (Zx9 Z08 (ydA Tryz.prog Z09 y1 L)) rfl rfl (Y9i _) (vh hs 60 rfl rfl))<|Sd (lo [61] [] rfl fun S hs hr=>Y6z (A:=ydA Tryz.prog Z09 y1 L) rfl rfl rfl (Y04 _) (vh hs 61 rfl rfl))<|Zo Z3i 11 rfl<|SCl [63] (Y2q _ _ hx25) Y70 rfl<|Sd (Z19 (us:=[(65,rd Z6 (Lp.isGo s26))]) (ur:=[(0,L s26)]) [62,64] [0] rfl fun S hs hr=>Zku 0 hs26 rfl rfl (vh hs 62 rfl rfl) (vh hs 64 rfl rfl) ((hr 0 rfl).trans rfl))<|SAs rfl<|Sn ?_
     exact ⟨(_,_),h,FX rfl⟩
def Zdd (sg:Type)(y1:(sg→Rule→Option (Lp sg))):Nat→((Lp sg)→Switch→Int→walk_way→Option (Bool×Lp sg))
 | 0=>(fun _ _ _ _=>none)
 | n+1=>Znp sg y1 (Zdd sg y1 n)
theorem Y1i (sg:Type)(y1:(sg→Rule→Option (Lp sg)))(L:Lp sg→Zu):∀n:Nat,(∀(s2:(Lp sg)) (s3:Switch) (a4:Int) (w5:walk_way) (r:(Bool×Lp sg)),(Zdd sg y1 n) s2 s3 a4 w5=some r→Con Tryz.prog 225 [rp (ksp Z08 (ydA Tryz.prog Z09 y1 L)) s3,rd (Z0 .i64) a4,rd Z1v w5] (L s2) (fun _:Unit=>rd Z6 r.1) (fun _=>L r.2))
 | 0=>(by intros;rename_i h;cases h)
 | n+1=>Ybk sg y1 L (Zdd sg y1 n) (Y1i sg y1 L n)
def Zwb (sg:Type)(y1:(sg→Rule→Option (Lp sg)))(s2:(Lp sg))(s3:Switch)(a4:Int)(w5:walk_way):Option (Bool×Lp sg):=Zdd sg y1 Z0s s2 s3 a4 w5
theorem Yq8 (sg:Type)(y1:(sg→Rule→Option (Lp sg)))(L:Lp sg→Zu):∀(s2:(Lp sg)) (s3:Switch) (a4:Int) (w5:walk_way) (r:(Bool×Lp sg)),(Zwb sg y1) s2 s3 a4 w5=some r→Con Tryz.prog 225 [rp (ksp Z08 (ydA Tryz.prog Z09 y1 L)) s3,rd (Z0 .i64) a4,rd Z1v w5] (L s2) (fun _:Unit=>rd Z6 r.1) (fun _=>L r.2):=Y1i sg y1 L Z0s
def Zen (sg:Type)(y1:(sg→Rule→Option (Lp sg)))(s2:(Lp sg))(x3:Switch):Option (Lp sg):=
 (Zh0).bind fun x5=>(Zc7).bind fun x6=>(Zwb sg y1 s2 x3 0 (⟨x5,x6,[],[]⟩:walk_way)).bind fun b7=>some b7.2
theorem Yrn (sg:Type)(y1:(sg→Rule→Option (Lp sg)))(L:Lp sg→Zu)(s2:(Lp sg))(x3:Switch)(r:(Lp sg))(h:Zen sg y1 s2 x3=some r):Con Tryz.prog 224 [ydA Tryz.prog Z09 y1 L,rp Z08 x3] (L s2) (fun _:Unit=>top) (fun _=>L r):=by
 refine Con.intro Tryz.func224 rfl Tryz.ntmps224 rfl fun w H X Z=>?_
 unfold Zen at h
 refine SR<|Lp1 Z20 rfl<|Ac (Zq (A:=ydA Tryz.prog Z09 y1 L) rfl rfl (vt rfl)) rfl<|Ac (Yrb (x:=x3) rfl rfl (by kernel_rfl) Yt1 (by kernel_rfl) (by kernel_rfl) (vt rfl) rfl) rfl<|Ac (Yrc rfl rfl (vt rfl)) rfl<|Ac (Zv (A:=rp (ksp Z08 (ydA Tryz.prog Z09 y1 L)) x3) rfl rfl (vt rfl)) rfl<|Nl ?_
 obtain ⟨x5,hx5,x6,hx6,b7,hb7,h⟩:=bs3 h
 refine Rg<|Mr rfl<|Cl [] (Zzk _ hx5) Y6h rfl<|Cl [] (Ztj _ hx6) Zta rfl<|Ac (opb (⟨x5,x6,[],[]⟩:walk_way) Zgb rfl Y1h (pc Ytz (vt rfl)<|pc Yvz (vt rfl)<|pn rfl)) rfl<|Cv rfl (Z1a 0 (xs:=[.tmp 8,.const (Value.int IntKind.i64 0),.tmp 11]) (Yq8 sg y1 L _ _ _ _ _ hb7) Y76 rfl rfl ⟨vt rfl,vk rfl,vt rfl,trivial⟩ rfl) fun _u=>Nl ?_
 cases h;exact Z2d (i:=0) Tryz.results224 rfl rfl
def Zrd (s1:Switch):Option (Itr Rule):=
 some (Itr.mk fun σ y s=>Zen σ y s s1)
theorem Yc6:Q1 Tryz.prog 136 (rd Z08) (Z5c Tryz.prog Z09) Zrd:=fun s1 r h=>I0 Tryz.func136 rfl Tryz.ntmps136 rfl fun w H Z=>by
 unfold Zrd at h
 refine SR<|Cv rfl (Zs 2 rfl rfl (vt rfl)) fun g2=>Ac (Zv (A:=Zb .nilFunc) rfl rfl vc) rfl<|Nl<|sq<|AW.freezeB 1 2 rfl rfl rfl<|Rg<|Ac (Ztr (Itr.mk fun σ y s=>Zen σ y s s1) (cs:=[.tmp 1]) (CAs:=[rp Z08 s1]) rfl rfl Yqz ⟨vt rfl,trivial⟩ (fun σ y L s r h=>Yrn σ y L s s1 r h)) rfl<|Ac (Zv (A:=Z5c Tryz.prog Z09 (Itr.mk fun σ y s=>Zen σ y s s1)) rfl rfl (vt rfl)) rfl<|Nl<|rt ?_
 cases h;exact Zd Tryz.results136 rfl (Z5 rfl)
def Zr9 (q:Itr Rule):Option (List Rule):=Zo5 q
theorem Yth (q:Itr Rule)(r:List Rule)(h:Zr9 q=some r):Con Tryz.prog 223 [Zb (.slice none 0 0),Z5c Tryz.prog Z09 q] emp (fun v=>Zb v) (fun v=>Zf v 126 Z09 r):=by
 refine Con.intro0 Tryz.func223 rfl Tryz.ntmps223 rfl fun w H Z=>?_
 have h:=Yr2 h
 refine AW.newnil 1001 126 Z09<|SR<|Cv rfl (Zs (k:=kraw) 3 rfl rfl (vkr (vt rfl) rfl)) fun g=>Ac (Zv (A:=Zb (.slice none 0 0)) rfl rfl vc) rfl<|AOps.pack 3 1001 (by decide) rfl rfl<|Nl<|sq<|SR<|Ac (Zq (A:=Z5c Tryz.prog Z09 q) rfl rfl (vt rfl)) rfl<|Nl<|bk<|AW.fit (d:=[]) (L:=[(2,Zc g (Lens.id kraw)),(6,Z5c Tryz.prog Z09 q)]) (M:=[(3,Zah g 67 126 Z09 [])]) ⟨rfl,⟨rfl,rfl,trivial⟩,⟨rfl,trivial⟩⟩ ?_
 refine AW.rangeFunc (fun x=>[rd Z09 x]) Zky (fun s=>Z41 [(3,Zah g 67 126 Z09 s)]) (fun _ _=>Z41 []) [(2,Zc g (Lens.id kraw))]
  (fun s x S1=> ∃g5,Fit S1 [] [(2,Zc g (Lens.id kraw)),(5,Zc g5 (Lens.id Z09))] [(3,Zah g 67 126 Z09 s),(6,Zh g5 126 Z09 x)]) 1003 (s0:=[]) (sE:= .go r)
  rfl (vt rfl) ⟨rfl,inferInstance,trivial⟩ rfl (fun _=>rfl) (by intro p hp;have hp:p∈[7]:=hp;rw [List.mem_singleton.1 hp];show 7<13;decide) ?ha ?hb (fun Lf=>⟨top,_,_,Lf,_,_,h,rfl,rfl,rfl,rfl⟩) ?he
 case ha=>
  intro s x r' hF l w H X Z
  refine Rg<|Cv rfl (Zm 6 rfl rfl Z6p) fun g5=>Zg Z9j 6 rfl<|Nl ?_
  exact ⟨rfl,g5,rfl,⟨rfl,rfl,trivial⟩,⟨rfl,rfl,trivial⟩⟩
 case hb=>
  rintro s x r' hF S1 ⟨g5,hfit⟩ l w H X Z
  refine AW.fit hfit<|AW.bodyOf (M:=fun s=>[(3,Zah g 67 126 Z09 s)]) (Mx:=fun _ _=>[]) ?_
  obtain ⟨m,hm,hF⟩:=Z7 hF
  cases hF
  refine bk<|AW.unbox 3 1001 (by decide) rfl rfl fun v=>Rg<|Ac (Zzm (i:=3) rfl rfl Zxd (vt rfl) rfl) rfl<|Ld Z9j 6 rfl<|Ac (Zjc (ps:=[(0,.tmp 9)]) (l:=[x]) rfl rfl Z3q Z6p rfl rfl ⟨_,_,Lens.idx 1 Z09 0 (by decide),_,rfl,vt rfl,rfl⟩ rfl) rfl<|Cv rfl (Z29 1001 hm rfl rfl Zkv (vt rfl) rfl (vt rfl)) fun v2=>Ac (Z6y rfl rfl Zxd (vt rfl) (i:=3) rfl (Zww (i:=1001) rfl rfl)) rfl<|AOps.pack 3 1001 (by decide) rfl rfl<|Nl ?_
  exact ⟨_,rfl,rfl,trivial⟩
 case he=>
  intro D
  refine AW.unbox 3 1001 (by decide) rfl rfl fun v=>SR<|Ac (Zzm (i:=3) rfl rfl Zxd (vt rfl) rfl) rfl<|Aw rfl<|Nl<|rt ?_
  exact ⟨rfl,1003,_,rfl,Z3m (i:=1001) Tryz.results223 rfl rfl rfl⟩
theorem Yfx (q:Itr Rule)(r:List Rule)(h:Zr9 q=some r):PCon Tryz.prog 223 [Zb (.slice none 0 0),Z5c Tryz.prog Z09 q] (rd (Z1 Z09) r):=PCon.of_row (Yth q r h)
def Zry (s1:(Itr Rule)):Option (List Rule):=
 (Zr9 s1).bind fun x2=>some x2
theorem Yss:Q1 Tryz.prog 135 (Z5c Tryz.prog Z09) (rd (Z1 Z09)) Zry:=fun s1 r h=>I0 Tryz.func135 rfl Tryz.ntmps135 rfl fun w H Z=>by
 unfold Zry at h
 refine SR<|Ac (Zv (A:=rd (Z1 Z09) []) rfl rfl Z1f) rfl<|Nl<|sq ?_
 obtain ⟨x2,hx2,h⟩:=Z7 h
 refine Rg<|Ac (Zq (A:=Z5c Tryz.prog Z09 s1) rfl rfl (vt rfl)) rfl<|Ac (Z0c (xs:=[.const (Value.slice none 0 0),.tmp 3]) (Yfx _ _ hx2) Ywu rfl rfl ⟨vc,vt rfl,trivial⟩) rfl<|As rfl<|Nl<|rt ?_
 cases h;exact Zd Tryz.results135 rfl (Z5 rfl)
def Zga (s1:Switch):Option (List Rule):=
 (Zrd s1).bind fun x3=>(Zry x3).bind fun x4=>some x4
theorem Yfs:Q1 Tryz.prog 67 (rd Z08) (rd (Z1 Z09)) Zga:=fun s1 r h=>I0 Tryz.func67 rfl Tryz.ntmps67 rfl fun w H Z=>by
 unfold Zga at h
 refine SR<|Cv rfl (Zs 2 rfl rfl (vt rfl)) fun g2=>Ac (Zv (A:=rd (Z1 Z09) []) rfl rfl Z1f) rfl<|Nl<|sq ?_
 obtain ⟨x3,hx3,x4,hx4,h⟩:=bs2 h
 refine Rg<|Ld Z20 2 rfl<|Cl [3] (Yc6 _ _ hx3) Yqg rfl<|Cl [4] (Yss _ _ hx4) Ylk rfl<|As rfl<|Nl<|rt ?_
 cases h;exact Zd Tryz.results67 rfl (Z5 rfl)
def Zm3 (p1:cover_purse):Option (Bool×cover_purse):=
 (bif p1.free then some (true,p1) else some ((decide (({p1 with left:=(IntKind.i64.wrap (p1.left - 1))}.left)≥0)),{p1 with left:=(IntKind.i64.wrap (p1.left - 1))}))
theorem Yjh (g2 gT:Nat)(p1:cover_purse)(r:(Bool×cover_purse))(h:Zm3 p1=some r):Con Tryz.prog 300 [Zc g2 (Lens.id Z6q)] (Zh g2 gT Z6q p1) (fun _:Unit=>rd Z6 r.1) (fun _=>Zh g2 gT Z6q r.2):=by
 refine Con.intro Tryz.func300 rfl Tryz.ntmps300 rfl fun w H X Z=>?_
 unfold Zm3 at h
 refine SR<|Ab rfl<|Nl<|sq<|SR<|Mp rfl<|Nc rfl<|Zk lcover_purse_1 Ydq rfl<|Ld ty4 0 rfl<|Nl<|Cq rfl h (fun h=>?_) (fun h=>?_)
 ·refine SR<|Ab rfl<|Nl<|rt ?_
  cases h;exact Zoj (i:=0) Tryz.results300 rfl (Z5 rfl) rfl
 ·refine sk<|SR<|Mp rfl<|Nc rfl<|Zk lcover_purse_0 Zu7 rfl<|Ld Zp 0 rfl<|Ac (Z0r rfl rfl (vt rfl) (vk rfl)) rfl<|Nc rfl<|Zk lcover_purse_0 Zu7 rfl<|Zg Zp 0 rfl<|Nl<|SR<|Mp rfl<|Nc rfl<|Zk lcover_purse_0 Zu7 rfl<|Ld Zp 0 rfl<|Ac (Z3v rfl rfl (vt rfl) (vk rfl)) rfl<|As rfl<|Nl<|rt ?_
  cases h;exact Zoj (i:=0) Tryz.results300 rfl (Z5 rfl) rfl
end Go.Proofs.YtinplddjjalohaaGreatDoor.W
set_option maxHeartbeats 1000000
set_option maxRecDepth 4000
namespace Go.Proofs.YtinplddjjalohaaGreatDoor.W
open Go Go.Wb
theorem Yp0:Ent Tryz.prog 375:=Ent.mk Tryz.func375 rfl rfl
theorem Ypx:Ent Tryz.prog 346:=Ent.mk Tryz.func346 rfl rfl
theorem Y7n:Ent Tryz.prog 391:=Ent.mk Tryz.func391 rfl rfl
theorem Yld:Ent Tryz.prog 376:=Ent.mk Tryz.func376 rfl rfl
theorem Y8y:Ent Tryz.prog 349:=Ent.mk Tryz.func349 rfl rfl
def Zmk (a1:Tern)(b2:Tern):Option Bool:=
 (Za6 b2.Mask a1.Mask).bind fun x5=>(Zi3 x5).bind fun x6=>(opt x6 (Zfy b2 a1.Value)).bind fun x7=>some (x6&&x7)
theorem Yjz:Q2 Tryz.prog 375 (rd Z4) (rd Z4) (rd Z6) Zmk:=fun a1 b2 r h=>I0 Tryz.func375 rfl Tryz.ntmps375 rfl fun w H Z=>by
 unfold Zmk at h
 refine SR<|Cv rfl (Zs 3 rfl rfl (vt rfl)) fun g3=>Cv rfl (Zs 4 rfl rfl (vt rfl)) fun g4=>Ab rfl<|Nl<|sq ?_
 obtain ⟨x5,hx5,x6,hx6,x7,hx7,h⟩:=bs3 h
 refine Rg<|Zk lTern_1 Z2c rfl<|Ld Zw 4 rfl<|Zk lTern_1 Z2c rfl<|Ld Zw 3 rfl<|Cl [6,8] (Zfb _ _ _ hx5) Zj3 rfl<|Cl [9] (Ztg _ _ hx6) Zyh rfl<|Md rfl<|Gd rfl (fun hq=>Z1s rfl rfl Z01 (vt rfl) (i:=4) rfl)<|Gd rfl (fun hq=>Z2n lTern_0 rfl rfl Z2x (vt rfl))<|Gd rfl (fun hq=>Z1s rfl rfl Zw (Zi rfl hq) (i:=3) rfl)<|Gd rfl (fun hq=>Z0c (xs:=[.tmp 12,.tmp 14]) (Zya _ _ _ (Z2i hx7 hq)) Zsq rfl rfl ⟨Zi rfl hq,Zi rfl hq,trivial⟩)<|Ac (Z1k rfl rfl (vt rfl) (vt rfl)) rfl<|As rfl<|Nl<|rt ?_
 cases h;exact Zd Tryz.results375 rfl (Z5 rfl)
def Zcc (b2:Za):(List Tern)→Nat→Option Bool
 | [],i5=>some true
 | x7::l6,i5=>(chk 24 (i5:Int)).bind fun j9=>(Zmk x7 (Vector.get b2 j9)).bind fun x10=>(bif (!x10) then some false else (Zcc b2 l6) (i5+1))
def Zkn (a1:Za)(b2:Za):Option Bool:=
 Zcc b2 (Vector.toList a1) 0
theorem Yk7:Q2 Tryz.prog 346 (rd (Z3 24 Z4)) (rd (Z3 24 Z4)) (rd Z6) Zkn:=fun a1 b2 r h=>I0 Tryz.func346 rfl Tryz.ntmps346 rfl fun w H Z=>by
 unfold Zkn at h
 refine SR<|Cv rfl (Zs 3 rfl rfl (vt rfl)) fun g3=>Cv rfl (Zs 4 rfl rfl (vt rfl)) fun g4=>Ab rfl<|Nl<|sq<|SR<|Ld Z02 3 rfl<|Mk rfl<|Nl<|bk<|LG (d:=[]) (ν:=(List Tern)×Nat) (fun (l6,i5)=>(Sfx (Vector.toList a1) i5 l6∧Zcc b2 l6 i5=some r,l6.length,[(3,Zc g4 (Lens.id (Z3 24 Z4))),(7,rd (Z3 24 Z4) a1),(8,rd (Z0 .i64) (i5:Int))],[(4,Zh g4 123 (Z3 24 Z4) b2)])) ((Vector.toList a1),0) ⟨Sfx.start _,h⟩ (FX rfl) ?_
 rintro ⟨l6,i5⟩ ⟨hsf1,h⟩
 dsimp only at hsf1 h ⊢
 cases l6 with
 | nil=>
  unfold Zcc at h
  refine SR<|Ac (Zj rfl rfl (vt rfl) (vk rfl)) rfl<|Nl<|sq<|Cn rfl (fun hc=>absurd (of_decide_eq_true hc) (hsf1.niln (by simp))) (fun hc=>?_)
  refine xt<|SR<|Ab rfl<|Nl<|rt ?_
  cases h;exact Zd Tryz.results346 rfl (Z5 rfl)
 | cons x7 l6=>
  unfold Zcc at h
  refine SR<|Ac (Zj rfl rfl (vt rfl) (vk rfl)) rfl<|Nl<|sq<|Cn rfl (fun hc=>?_) (fun hc=>absurd (hsf1.consn (by simp)) (of_decide_eq_false hc))
  have hlti5:=of_decide_eq_true hc
  refine sk<|sq<|bk<|SR<|Md rfl<|Ac (Z8d rfl rfl Z2l Z01 (vt rfl) (vt rfl) hsf1.lget) rfl<|Cv rfl (Zm 7 rfl rfl Z1n) fun g8=>As rfl<|Zg Z01 7 rfl<|Nl<|sq ?_
  obtain ⟨j9,hj9,x10,hx10,h⟩:=bs2 h
  refine AR Z00 (by kernel_rfl)<|Zo Z01 7 rfl<|Zt rfl<|Sd (lo [3,13] [] rfl fun S hs hr=>Z13 rfl rfl Z2l (vh hs 3 rfl rfl) (vh hs 13 rfl rfl) hj9)<|Zo Z01 4 rfl<|SCl [12,15] (Yjz _ _ _ hx10) Yp0 rfl<|Sd (lo [16] [] rfl fun S hs hr=>Z0y rfl rfl (vh hs 16 rfl rfl))<|Sn<|Cq rfl h (fun h=>?_) (fun h=>?_)
  ·refine SR<|Ab rfl<|Nl<|rt ?_
   cases h;exact Zd Tryz.results346 rfl (Z5 rfl)
  ·refine sk<|Rg<|Ac (Z5f rfl rfl (vt rfl) (vk rfl) rfl hlti5) rfl<|Md rfl<|Nl ?_
   exact ⟨(_,_),Nat.lt_succ_self _,⟨hsf1.next,h⟩,FX rfl⟩
def Z8j (x1:Za):(List Za)→Nat→Int→Option (Bool×Int)
 | [],i6,x5=>some (false,x5)
 | x8::l7,i6,x5=>(Zb9 x1 x8).bind fun x10=>(bif (!x10.2) then (Z8j x1 l7) (i6+1) x5 else (Zkn x1 x8).bind fun x12=>(bif x12 then some (true,(i6:Int)) else (bif (decide (x5<0)) then (Z8j x1 l7) (i6+1) (i6:Int) else (Z8j x1 l7) (i6+1) x5)))
def Zqm (x1:Za)(l2:(List Za)):Option (Bool×Int):=
 Z8j x1 l2 0 (-1)
theorem Ybh:Q2 Tryz.prog 301 (rd (Z3 24 Z4)) (rd (Z1 (Z3 24 Z4))) (fun r=>Z10 (rd Z6 r.1) (rd (Z0 .i64) r.2)) Zqm:=fun x1 l2 r h=>I0 Tryz.func301 rfl Tryz.ntmps301 rfl fun w H Z=>by
 unfold Zqm at h
 refine SR<|Cv rfl (Zs 3 rfl rfl (vt rfl)) fun g3=>Ab rfl<|Ak rfl<|Nl<|SR<|Ak rfl<|Nl<|sq<|SR<|Md rfl<|Ac (Z0i rfl rfl Z4l (vt rfl)) rfl<|Mk rfl<|Nl<|bk<|LG (d:=[]) (ν:=(List Za)×Nat×Int) (fun (l7,i6,x5)=>(Sfx l2 i6 l7∧Z8j x1 l7 i6 x5=some r,l7.length,[(2,Zc g3 (Lens.id (Z3 24 Z4))),(6,rd (Z0 .i64) x5),(11,rd (Z1 (Z3 24 Z4)) l2),(12,rd (Z0 .i64) (l2.length:Int)),(13,rd (Z0 .i64) (i6:Int))],[(3,Zh g3 123 (Z3 24 Z4) x1)])) (l2,0,(-1)) ⟨Sfx.start _,h⟩ (FX rfl) ?_
 rintro ⟨l7,i6,x5⟩ ⟨hsf1,h⟩
 dsimp only at hsf1 h ⊢
 cases l7 with
 | nil=>
  unfold Z8j at h
  refine SR<|Ac (Zj rfl rfl (vt rfl) (vt rfl)) rfl<|Nl<|sq<|Cn rfl (fun hc=>absurd (of_decide_eq_true hc) hsf1.nil) (fun hc=>?_)
  refine xt<|SR<|Md rfl<|Ab rfl<|As rfl<|Nl<|rt ?_
  cases h;exact Z1d Tryz.results301 rfl (Z5 rfl) (Z5 rfl)
 | cons x8 l7=>
  unfold Z8j at h
  refine SR<|Ac (Zj rfl rfl (vt rfl) (vt rfl)) rfl<|Nl<|sq<|Cn rfl (fun hc=>?_) (fun hc=>absurd hsf1.cons (of_decide_eq_false hc))
  have hlti6:=of_decide_eq_true hc
  refine sk<|sq<|bk<|SR<|Md rfl<|Ac (Z0k rfl rfl Z4l (vt rfl) (vt rfl) hsf1.lget) rfl<|Lp1 Z02 rfl<|Cv rfl (Zm 9 rfl rfl Z1i) fun g9=>As rfl<|Zg Z02 9 rfl<|Nl<|sq ?_
  obtain ⟨x10,hx10,h⟩:=Z7 h
  refine Rg<|Ld Z02 3 rfl<|Ld Z02 9 rfl<|Cl [19,20] (Zyq _ _ _ hx10) Zwr rfl<|Mt2 rfl<|Ac (Z1c rfl rfl (vt rfl)) rfl<|Ac (Z18 rfl rfl (vt rfl)) rfl<|Cv rfl (Zm 10 rfl rfl Z1i) fun g11=>Zg Z02 10 rfl<|As rfl<|Nl<|bk<|SR<|Md rfl<|Ac (Z0y rfl rfl (vt rfl)) rfl<|As rfl<|Nl<|Cq rfl h (fun h=>?_) (fun h=>?_)
  ·refine sk<|Rg<|Ac (Z12 (t:=12) rfl rfl (vt rfl) (vk rfl) (vt rfl) hlti6) rfl<|Md rfl<|Nl ?_
   exact ⟨(_,_,_),Nat.lt_succ_self _,⟨hsf1.next,h⟩,FX rfl⟩
  ·refine sq ?_
   obtain ⟨x12,hx12,h⟩:=Z7 h
   refine Rg<|Ld Z02 3 rfl<|Ld Z02 9 rfl<|Cl [28,29] (Yk7 _ _ _ hx12) Ypx rfl<|As rfl<|Nl<|Cq rfl h (fun h=>?_) (fun h=>?_)
   ·refine SR<|Md rfl<|Ab rfl<|As rfl<|Nl<|rt ?_
    cases h;exact Z1d Tryz.results301 rfl (Z5 rfl) (Z5 rfl)
   ·refine SR<|Md rfl<|Ac (Zj rfl rfl (vt rfl) (vk rfl)) rfl<|As rfl<|Nl<|Cq rfl h (fun h=>?_) (fun h=>?_)
    ·refine Rg<|Md rfl<|As rfl<|Nl<|Rg<|Ac (Z12 (t:=12) rfl rfl (vt rfl) (vk rfl) (vt rfl) hlti6) rfl<|Md rfl<|Nl ?_
     exact ⟨(_,_,_),Nat.lt_succ_self _,⟨hsf1.next,h⟩,FX rfl⟩
    ·refine sk<|Rg<|Ac (Z12 (t:=12) rfl rfl (vt rfl) (vk rfl) (vt rfl) hlti6) rfl<|Md rfl<|Nl ?_
     exact ⟨(_,_,_),Nat.lt_succ_self _,⟨hsf1.next,h⟩,FX rfl⟩
def Zai:(List Tern)→Nat→Z16→Option Z16
 | [],i7,b6=>some b6
 | x9::l8,i7,b6=>(Z7i x9).bind fun x11=>(chk 24 (i7:Int)).bind fun j12=>(Zai l8) (i7+1) (Vector.set b6 j12.1 x11.Value j12.2)
def Zk5 (x1:Za):Option Z16:=
 Zai (Vector.toList x1) 0 (Vector.replicate 24 Z0p)
theorem Ydm:Q1 Tryz.prog 302 (rd (Z3 24 Z4)) (rd (Z3 24 Zn)) Zk5:=fun x1 r h=>I0 Tryz.func302 rfl Tryz.ntmps302 rfl fun w H Z=>by
 unfold Zk5 at h
 refine SR<|Cv rfl (Zs 2 rfl rfl (vt rfl)) fun g2=>Cv rfl (Zm 3 rfl rfl Z53) fun g3=>Nl<|SR<|Cv rfl (Zm 4 rfl rfl Z53) fun g4=>Nl<|sq<|SR<|Ld Z02 2 rfl<|Mk rfl<|Nl<|bk<|LG (d:=[]) (ν:=(List Tern)×Nat×Z16) (fun (l8,i7,b6)=>(Sfx (Vector.toList x1) i7 l8∧Zai l8 i7 b6=some r,l8.length,[(2,Zc g3 (Lens.id (Z3 24 Zn))),(3,Zc g4 (Lens.id (Z3 24 Zn))),(6,rd (Z3 24 Z4) x1),(7,rd (Z0 .i64) (i7:Int))],[(3,Zh g3 31 (Z3 24 Zn) (Vector.replicate 24 Z0p)),(4,Zh g4 31 (Z3 24 Zn) b6)])) ((Vector.toList x1),0,(Vector.replicate 24 Z0p)) ⟨Sfx.start _,h⟩ (FX rfl) ?_
 rintro ⟨l8,i7,b6⟩ ⟨hsf1,h⟩
 dsimp only at hsf1 h ⊢
 cases l8 with
 | nil=>
  unfold Zai at h
  refine SR<|Ac (Zj rfl rfl (vt rfl) (vk rfl)) rfl<|Nl<|sq<|Cn rfl (fun hc=>absurd (of_decide_eq_true hc) (hsf1.niln (by simp))) (fun hc=>?_)
  refine xt<|SR<|Ld Z17 4 rfl<|Zg Z17 3 rfl<|Nl<|rt ?_
  cases h;exact Zd Tryz.results302 rfl (Zx rfl (i:=3) rfl Z17)
 | cons x9 l8=>
  unfold Zai at h
  refine SR<|Ac (Zj rfl rfl (vt rfl) (vk rfl)) rfl<|Nl<|sq<|Cn rfl (fun hc=>?_) (fun hc=>absurd (hsf1.consn (by simp)) (of_decide_eq_false hc))
  have hlti7:=of_decide_eq_true hc
  refine sk<|sq<|bk<|SR<|Md rfl<|Ac (Z8d rfl rfl Z2l Z01 (vt rfl) (vt rfl) hsf1.lget) rfl<|Cv rfl (Zm 6 rfl rfl Z1n) fun g10=>As rfl<|Zg Z01 6 rfl<|Nl ?_
  obtain ⟨x11,hx11,j12,hj12,h⟩:=bs2 h
  refine Rg<|Md rfl<|Ld Z01 6 rfl<|Cl [12] (Z9o _ _ hx11) Za4 rfl<|Ac (Zin lTern_0 rfl rfl Z2x Yku Zw rfl (vt rfl)) rfl<|Ac (Z13 rfl rfl Zo9 (vt rfl) (vt rfl) hj12) rfl<|Zg Zw 4 rfl<|Nl<|Rg<|Ac (Z5f rfl rfl (vt rfl) (vk rfl) rfl hlti7) rfl<|Md rfl<|Nl ?_
  exact ⟨(_,_,_),Nat.lt_succ_self _,⟨hsf1.next,h⟩,FX rfl⟩
def Zi4 (x1:(BitVec 64)):Option Int:=
 (Z3s x1 ((1:BitVec 64).toNat:Int)).bind fun q2=>(Z3s ((q2&&& (6148914691236517205:BitVec 64))+(x1&&& (6148914691236517205:BitVec 64))) ((2:BitVec 64).toNat:Int)).bind fun q3=>(Z3s ((q3&&& (3689348814741910323:BitVec 64))+(((q2&&& (6148914691236517205:BitVec 64))+(x1&&& (6148914691236517205:BitVec 64)))&&& (3689348814741910323:BitVec 64))) ((4:BitVec 64).toNat:Int)).bind fun q4=>(Z3s ((q4+((q3&&& (3689348814741910323:BitVec 64))+(((q2&&& (6148914691236517205:BitVec 64))+(x1&&& (6148914691236517205:BitVec 64)))&&& (3689348814741910323:BitVec 64))))&&& (1085102592571150095:BitVec 64)) ((8:BitVec 64).toNat:Int)).bind fun q5=>(Z3s (((q4+((q3&&& (3689348814741910323:BitVec 64))+(((q2&&& (6148914691236517205:BitVec 64))+(x1&&& (6148914691236517205:BitVec 64)))&&& (3689348814741910323:BitVec 64))))&&& (1085102592571150095:BitVec 64))+q5) ((16:BitVec 64).toNat:Int)).bind fun q6=>(Z3s ((((q4+((q3&&& (3689348814741910323:BitVec 64))+(((q2&&& (6148914691236517205:BitVec 64))+(x1&&& (6148914691236517205:BitVec 64)))&&& (3689348814741910323:BitVec 64))))&&& (1085102592571150095:BitVec 64))+q5)+q6) ((32:BitVec 64).toNat:Int)).bind fun q7=>some (Zit .and .i64 (IntKind.i64.wrap ((((((q4+((q3&&& (3689348814741910323:BitVec 64))+(((q2&&& (6148914691236517205:BitVec 64))+(x1&&& (6148914691236517205:BitVec 64)))&&& (3689348814741910323:BitVec 64))))&&& (1085102592571150095:BitVec 64))+q5)+q6)+q7).toNat:Int)) 127)
theorem Y5a:Q1 Tryz.prog 391 (rd Z05) (rd (Z0 .i64)) Zi4:=fun x1 r h=>I0 Tryz.func391 rfl Tryz.ntmps391 rfl fun w H Z=>by
 unfold Zi4 at h
 refine SR<|Ak rfl<|Nl<|sq ?_
 obtain ⟨q2,hq2,h⟩:=Z7 h
 refine Rg<|Md rfl<|Ac (Z67 rfl rfl (vt rfl) (Z5a (vku (1:BitVec 64) rfl)) hq2) rfl<|Ac (Zal rfl rfl (vt rfl) (vku (6148914691236517205:BitVec 64) rfl)) rfl<|Md rfl<|Ac (Zal rfl rfl (vt rfl) (vku (6148914691236517205:BitVec 64) rfl)) rfl<|Ac (Zhs rfl rfl (vt rfl) (vt rfl)) rfl<|As rfl<|Nl<|sq ?_
 obtain ⟨q3,hq3,h⟩:=Z7 h
 refine Rg<|Md rfl<|Ac (Z67 rfl rfl (vt rfl) (Z5a (vku (2:BitVec 64) rfl)) hq3) rfl<|Ac (Zal rfl rfl (vt rfl) (vku (3689348814741910323:BitVec 64) rfl)) rfl<|Md rfl<|Ac (Zal rfl rfl (vt rfl) (vku (3689348814741910323:BitVec 64) rfl)) rfl<|Ac (Zhs rfl rfl (vt rfl) (vt rfl)) rfl<|As rfl<|Nl<|sq ?_
 obtain ⟨q4,hq4,h⟩:=Z7 h
 refine Rg<|Md rfl<|Ac (Z67 rfl rfl (vt rfl) (Z5a (vku (4:BitVec 64) rfl)) hq4) rfl<|Md rfl<|Ac (Zhs rfl rfl (vt rfl) (vt rfl)) rfl<|Ac (Zal rfl rfl (vt rfl) (vku (1085102592571150095:BitVec 64) rfl)) rfl<|As rfl<|Nl<|sq ?_
 obtain ⟨q5,hq5,h⟩:=Z7 h
 refine Rg<|Md rfl<|Md rfl<|Ac (Z67 rfl rfl (vt rfl) (Z5a (vku (8:BitVec 64) rfl)) hq5) rfl<|Ac (Zhs rfl rfl (vt rfl) (vt rfl)) rfl<|As rfl<|Nl<|sq ?_
 obtain ⟨q6,hq6,h⟩:=Z7 h
 refine Rg<|Md rfl<|Md rfl<|Ac (Z67 rfl rfl (vt rfl) (Z5a (vku (16:BitVec 64) rfl)) hq6) rfl<|Ac (Zhs rfl rfl (vt rfl) (vt rfl)) rfl<|As rfl<|Nl<|sq ?_
 obtain ⟨q7,hq7,h⟩:=Z7 h
 refine Rg<|Md rfl<|Md rfl<|Ac (Z67 rfl rfl (vt rfl) (Z5a (vku (32:BitVec 64) rfl)) hq7) rfl<|Ac (Zhs rfl rfl (vt rfl) (vt rfl)) rfl<|As rfl<|Nl<|SR<|Md rfl<|Ac (Zam rfl rfl Yc8 un3 (vt rfl)) rfl<|Ac (Y5g rfl rfl (vt rfl) (vk rfl)) rfl<|As rfl<|Nl<|rt ?_
 cases h;exact Zd Tryz.results391 rfl (Z5 rfl)
def Zkc (a1:Wide):Option Int:=
 (Zi4 a1.Hi).bind fun x3=>(Zi4 a1.Lo).bind fun x4=>some (IntKind.i64.wrap (x3+x4))
theorem Yjk:Q1 Tryz.prog 376 (rd Zn) (rd (Z0 .i64)) Zkc:=fun a1 r h=>I0 Tryz.func376 rfl Tryz.ntmps376 rfl fun w H Z=>by
 unfold Zkc at h
 refine SR<|Cv rfl (Zs 2 rfl rfl (vt rfl)) fun g2=>Ak rfl<|Nl<|sq ?_
 obtain ⟨x3,hx3,x4,hx4,h⟩:=bs2 h
 refine AR Z00 (by kernel_rfl)<|SFd lWide_0 Z4b rfl<|Zo Z1g 2 rfl<|SCl [4] (Y5a _ _ hx3) Y7n rfl<|SFd lWide_1 Z4d rfl<|Zo Z1g 2 rfl<|SCl [7] (Y5a _ _ hx4) Y7n rfl<|Sd (lo [5,8] [] rfl fun S hs hr=>Z06 rfl rfl (vh hs 5 rfl rfl) (vh hs 8 rfl rfl))<|SAs rfl<|Sn<|rt ?_
 cases h;exact Zd Tryz.results376 rfl (Z5 rfl)
def Zgt (a1:Wide)(i2:Int):Option Bool:=
 (Zb5 i2).bind fun x4=>(Zcf a1 x4).bind fun x5=>(Zi3 x5).bind fun x6=>some (!x6)
theorem Y65:Q2 Tryz.prog 349 (rd Zn) (rd (Z0 .i64)) (rd Z6) Zgt:=fun a1 i2 r h=>I0 Tryz.func349 rfl Tryz.ntmps349 rfl fun w H Z=>by
 unfold Zgt at h
 refine SR<|Cv rfl (Zs 3 rfl rfl (vt rfl)) fun g3=>Ab rfl<|Nl<|sq ?_
 obtain ⟨x4,hx4,x5,hx5,x6,hx6,h⟩:=bs3 h
 refine AR Z00 (by kernel_rfl)<|Zo Zw 3 rfl<|Zt rfl<|SCl [6] (Zq6 _ _ hx4) Zpf rfl<|SCl [5,7] (Zlq _ _ _ hx5) Zns rfl<|SCl [8] (Ztg _ _ hx6) Zyh rfl<|Sd (lo [9] [] rfl fun S hs hr=>Z0y rfl rfl (vh hs 9 rfl rfl))<|SAs rfl<|Sn<|rt ?_
 cases h;exact Zd Tryz.results349 rfl (Z5 rfl)
def Zbt (x5:Wide):Nat→(List Int)→Int→Option (List Int)
 | 0,_,_=>none
 | m13+1,l10,i12=>(opt (decide (i12≥0)) (Zkc x5)).bind fun x14=>(bif ((decide (i12≥0))&&(decide ((l10.length:Int)<x14))) then (Zgt x5 i12).bind fun x15=>(bif x15 then (Z0v l10 [i12]).bind fun l16=>(Zbt x5 m13) l16 (IntKind.i64.wrap (i12 - 1)) else (Zbt x5 m13) l10 (IntKind.i64.wrap (i12 - 1))) else some l10)
def Zjj (a1:Tern)(b2:Tern):Option (List Int):=
 (Za6 b2.Mask a1.Mask).bind fun x5=>Zbt x5 Z0s [] 127
theorem Ytn:Q2 Tryz.prog 348 (rd Z4) (rd Z4) (rd (Z1 (Z0 .i64))) Zjj:=fun a1 b2 r h=>I0 Tryz.func348 rfl Tryz.ntmps348 rfl fun w H Z=>by
 unfold Zjj at h
 refine SR<|Cv rfl (Zs 3 rfl rfl (vt rfl)) fun g3=>Cv rfl (Zs 4 rfl rfl (vt rfl)) fun g4=>Ac (Zv (A:=rd (Z1 (Z0 .i64)) []) rfl rfl Z1f) rfl<|Nl<|sq ?_
 obtain ⟨x5,hx5,h⟩:=Z7 h
 refine Rg<|Zk lTern_1 Z2c rfl<|Ld Zw 4 rfl<|Zk lTern_1 Z2c rfl<|Ld Zw 3 rfl<|Cl [9,11] (Zfb _ _ _ hx5) Zj3 rfl<|Cv rfl (Zm 6 rfl rfl Z27) fun g6=>Zg Zw 6 rfl<|Nl<|sq<|AW.newnil 1001 3 (Z0 .i64)<|Rg<|Ac (Zv rfl rfl vc) rfl<|Nl<|sq<|SR<|Ak rfl<|Nl<|bk<|LG (d:=[]) (ν:=Nat×(List Int)×Int×Value) (fun (m13,l10,i12,v11)=>(True∧Zbt x5 m13 l10 i12=some r,m13,[(5,Zc g6 (Lens.id Zn)),(6,Zb v11),(7,rd (Z0 .i64) i12)],[(6,Zh g6 29 Zn x5),(1001,Zf v11 3 (Z0 .i64) l10)])) (Z0s,[],127,(.slice none 0 0)) ⟨trivial,h⟩ (FX rfl) ?_
 rintro ⟨m13,l10,i12,v11⟩ ⟨hsf1,h⟩
 dsimp only at h ⊢
 cases m13 with
 | zero=>cases h
 | succ m13=>
  unfold Zbt at h
  refine sq<|sq ?_
  obtain ⟨x14,hx14,h⟩:=Z7 h
  refine Rg<|Md rfl<|Ac (Z3v rfl rfl (vt rfl) (vk rfl)) rfl<|Md rfl<|Gd rfl (fun hq=>Zq (A:=Zb v11) rfl rfl (vt rfl))<|Gd rfl (fun hq=>Z4k 1001 rfl rfl Z11 (Zi rfl hq) rfl)<|Gd rfl (fun hq=>Z1s rfl rfl Zw (vt rfl) (i:=6) rfl)<|Gd rfl (fun hq=>Z0c (xs:=[.tmp 18]) (Yjk _ _ (Z2i hx14 hq)) Yld rfl rfl ⟨Zi rfl hq,trivial⟩)<|Gd rfl (fun hq=>Zj rfl rfl (Zi rfl hq) (Zi rfl hq))<|Ac (Z1k rfl rfl (vt rfl) (vt rfl)) rfl<|Nl<|Cq rfl h (fun h=>?_) (fun h=>?_)
  ·refine sk<|sq<|bk<|sq ?_
   obtain ⟨x15,hx15,h⟩:=Z7 h
   refine Rg<|Ld Zw 6 rfl<|Md rfl<|Cl [24,25] (Y65 _ _ _ hx15) Y8y rfl<|Nl<|Cq rfl h (fun h=>?_) (fun h=>?_)
   ·obtain ⟨l16,hl16,h⟩:=Z7 h
    refine Rg<|Mw rfl<|Md rfl<|Ac (osl Z11 zr3 rfl (vt rfl)) rfl<|Cv rfl (Z29 1001 hl16 rfl rfl Zg9 (vt rfl) rfl (vt rfl)) fun v17=>Aw rfl<|Nl<|Rg<|Md rfl<|Ac (Z0r rfl rfl (vt rfl) (vk rfl)) rfl<|As rfl<|Nl ?_
    exact ⟨(_,_,_,_),Nat.lt_succ_self _,⟨trivial,h⟩,FX rfl⟩
   ·refine sk<|Rg<|Md rfl<|Ac (Z0r rfl rfl (vt rfl) (vk rfl)) rfl<|As rfl<|Nl ?_
    exact ⟨(_,_,_,_),Nat.lt_succ_self _,⟨trivial,h⟩,FX rfl⟩
  ·refine xt<|SR<|Mw rfl<|Aw rfl<|Nl<|AW.freezes [4,6,31] 1001 rfl ⟨rfl,rfl,rfl,trivial⟩ rfl<|rt ?_
   cases h;exact Zd Tryz.results348 rfl (Z5 rfl)
def Zgu (t1:Tern)(i2:Int)(o3:Bool):Option Tern:=
 (Zb5 i2).bind fun x6=>(Z7i t1).bind fun x8=>(Z97 x8.Mask x6).bind fun x9=>(Za6 x8.Value x6).bind fun x10=>(bif o3 then (Z97 ({{x8 with Mask:=x9} with Value:=x10}.Value) x6).bind fun x11=>some {{{x8 with Mask:=x9} with Value:=x10} with Value:=x11} else some {{x8 with Mask:=x9} with Value:=x10})
theorem Y49:Q3 Tryz.prog 350 (rd Z4) (rd (Z0 .i64)) (rd Z6) (rd Z4) Zgu:=fun t1 i2 o3 r h=>I0 Tryz.func350 rfl Tryz.ntmps350 rfl fun w H Z=>by
 unfold Zgu at h
 refine SR<|Cv rfl (Zs 4 rfl rfl (vt rfl)) fun g4=>Cv rfl (Zm 7 rfl rfl Z1n) fun g5=>Nl<|sq ?_
 obtain ⟨x6,hx6,h⟩:=Z7 h
 refine Rg<|Md rfl<|Cl [8] (Zq6 _ _ hx6) Zpf rfl<|Cv rfl (Zm 8 rfl rfl Z27) fun g7=>Zg Zw 8 rfl<|Nl<|sq ?_
 obtain ⟨x8,hx8,h⟩:=Z7 h
 refine Rg<|Ld Z01 4 rfl<|Cl [10] (Z9o _ _ hx8) Za4 rfl<|Zg Z01 4 rfl<|Nl<|sq ?_
 obtain ⟨x9,hx9,x10,hx10,h⟩:=bs2 h
 refine AR Z00 (by kernel_rfl)<|SFd lTern_1 Z2c rfl<|Zo Zw 4 rfl<|Zo Zw 8 rfl<|SCl [13,14] (Zel _ _ _ hx9) Zeq rfl<|SFd lTern_0 Z2x rfl<|Zo Zw 4 rfl<|Zo Zw 8 rfl<|SCl [17,18] (Zfb _ _ _ hx10) Zj3 rfl<|SFd lTern_1 Z2c rfl<|SSt Zw 4 rfl<|SFd lTern_0 Z2x rfl<|SSt Zw 4 rfl<|Sn<|sq<|SR<|Md rfl<|Nl<|Cq rfl h (fun h=>?_) (fun h=>?_)
 ·obtain ⟨x11,hx11,h⟩:=Z7 h
  refine Rg<|Zk lTern_0 Z2x rfl<|Ld Zw 4 rfl<|Ld Zw 8 rfl<|Cl [24,25] (Zel _ _ _ hx11) Zeq rfl<|Zk lTern_0 Z2x rfl<|Zg Zw 4 rfl<|Nl<|SR<|Ld Z01 4 rfl<|Zg Z01 7 rfl<|Nl<|rt ?_
  cases h;exact Zd Tryz.results350 rfl (Zx rfl (i:=7) rfl Z01)
 ·refine sk<|SR<|Ld Z01 4 rfl<|Zg Z01 7 rfl<|Nl<|rt ?_
  cases h;exact Zd Tryz.results350 rfl (Zx rfl (i:=7) rfl Z01)
end Go.Proofs.YtinplddjjalohaaGreatDoor.W
set_option maxHeartbeats 1000000
set_option maxRecDepth 4000
namespace Go.Proofs.YtinplddjjalohaaGreatDoor.W
open Go Go.Wb
theorem Ysc:Ent Tryz.prog 348:=Ent.mk Tryz.func348 rfl rfl
theorem Zzy:Ent Tryz.prog 350:=Ent.mk Tryz.func350 rfl rfl
theorem Yvc:Ent Tryz.prog 347:=Ent.mk Tryz.func347 rfl rfl
theorem Yr0:Ent Tryz.prog 300:=Ent.mk Tryz.func300 rfl rfl
theorem Yvf:Ent Tryz.prog 301:=Ent.mk Tryz.func301 rfl rfl
theorem Ybx:Ent Tryz.prog 302:=Ent.mk Tryz.func302 rfl rfl
theorem Yj1:Ent Tryz.prog 303:=Ent.mk Tryz.func303 rfl rfl
theorem Y1n:Ent Tryz.prog 220:=Ent.mk Tryz.func220 rfl rfl
theorem Yvr:Ent Tryz.prog 221:=Ent.mk Tryz.func221 rfl rfl
theorem Yhs:Ent Tryz.prog 134:=Ent.mk Tryz.func134 rfl rfl
theorem Y8k:Ent Tryz.prog 133:=Ent.mk Tryz.func133 rfl rfl
theorem Yh1:Ent Tryz.prog 137:=Ent.mk Tryz.func137 rfl rfl
def Zdl (sg:Type)(go1:Nat→Za→(Lp sg)→Option (Lp sg))(i14:Nat)(x16:Tern)(y1:(sg→Za→Option (Lp sg))):(List Int)→Nat→Za→(Lp sg)→Option (Lp sg)
 | [],i24,b22,s23=>go1 (i14+1) b22 s23
 | x26::l25,i24,b22,s23=>(Zgt x16.Value x26).bind fun x27=>(chk 24 (i14:Int)).bind fun j29=>(Zgu (Vector.get b22 j29) x26 (!x27)).bind fun x30=>(chk 24 (i14:Int)).bind fun j31=>(yc y1 s23 (Vector.set b22 j31.1 x30 j31.2)).bind fun s32=>(bif (!(Lp.isGo s32)) then some s32 else (chk 24 (i14:Int)).bind fun j33=>(Zgu (Vector.get b22 j33) x26 x27).bind fun x34=>(chk 24 (i14:Int)).bind fun j35=>(Zdl sg go1 i14 x16 y1 l25) (i24+1) (Vector.set b22 j35.1 x34 j35.2) s32)
def Za5 (sg:Type)(y1:(sg→Za→Option (Lp sg))):(List Tern)→Nat→Za→(Lp sg)→Option (Lp sg)
 | [],i14,b12,s13=>some s13
 | x16::l15,i14,b12,s13=>(chk 24 (i14:Int)).bind fun j18=>(Zjj (Vector.get b12 j18) x16).bind fun x19=>(bif (decide ((x19.length:Int)=0)) then (Za5 sg y1 l15) (i14+1) b12 s13 else Zdl sg (Za5 sg y1 l15) i14 x16 y1 x19 0 b12 s13)
def Zb8 (sg:Type)(y1:(sg→Za→Option (Lp sg)))(s2:(Lp sg))(x3:Za)(x4:Za):Option (Lp sg):=
 (Zgs x3).bind fun x5=>(Zb9 x3 x4).bind fun x7=>(bif (!x7.2) then (yc y1 s2 x5).bind fun s9=>some s9 else Za5 sg y1 (Vector.toList x4) 0 x5 s2)
theorem Yk6 (sg:Type)(y1:(sg→Za→Option (Lp sg)))(L:Lp sg→Zu)(s2:(Lp sg))(x3:Za)(x4:Za)(r:(Lp sg))(h:Zb8 sg y1 s2 x3 x4=some r):Con Tryz.prog 347 [ydA Tryz.prog (Z3 24 Z4) y1 L,rp (Z3 24 Z4) x3,rp (Z3 24 Z4) x4] (L s2) (fun _:Unit=>top) (fun _=>L r):=by
 refine Con.intro Tryz.func347 rfl Tryz.ntmps347 rfl fun w H X Z=>?_
 unfold Zb8 at h
 refine AW.scope<|sq ?_
 obtain ⟨x5,hx5,h⟩:=Z7 h
 refine Rg<|Lp1 Z02 rfl<|Cl [14] (Y7u _ _ hx5) Y0g rfl<|Cv rfl (Zm 5 rfl rfl Z1i) fun g6=>Zg Z02 5 rfl<|Nl<|sq<|sq ?_
 obtain ⟨x7,hx7,h⟩:=Z7 h
 refine Rg<|Lp1 Z02 rfl<|Lp1 Z02 rfl<|Cl [17,18] (Zyq _ _ _ hx7) Zwr rfl<|Mt2 rfl<|Ac (Z1c rfl rfl (vt rfl)) rfl<|Ac (Z18 rfl rfl (vt rfl)) rfl<|Cv rfl (Zm 6 rfl rfl Z1i) fun g8=>Zg Z02 6 rfl<|As rfl<|Nl<|SR<|Md rfl<|Ac (Z0y rfl rfl (vt rfl)) rfl<|Nl<|Cq rfl h (fun h=>?_) (fun h=>?_)
 ·refine sq ?_
  obtain ⟨s9,hs9,h⟩:=Z7 h
  refine Rg<|Ac (Zq (A:=ydA Tryz.prog (Z3 24 Z4) y1 L) rfl rfl (vt rfl)) rfl<|Ld Z02 5 rfl<|Ac (Zku 0 hs9 rfl rfl (vt rfl) (vt rfl) rfl) rfl<|Nl<|rt ?_
  cases h;exact Z2d (i:=0) Tryz.results347 rfl rfl
 ·refine sk<|sq<|AW.label<|SR<|Lp1 Z02 rfl<|Mk rfl<|Nl<|bk<|LG (d:=[]) (ν:=(List Tern)×Nat×Za×(Lp sg)) (fun (l15,i14,b12,s13)=>(Sfx (Vector.toList x4) i14 l15∧Za5 sg y1 l15 i14 b12 s13=some r,l15.length,[(0,ydA Tryz.prog (Z3 24 Z4) y1 L),(4,Zc g6 (Lens.id (Z3 24 Z4))),(27,rd (Z3 24 Z4) x4),(28,rd (Z0 .i64) (i14:Int))],[(0,L s13),(5,Zh g6 123 (Z3 24 Z4) b12)])) ((Vector.toList x4),0,x5,s2) ⟨Sfx.start _,h⟩ (FX rfl) ?_
  rintro ⟨l15,i14,b12,s13⟩ ⟨hsf1,h⟩
  dsimp only at hsf1 h ⊢
  cases l15 with
  | nil=>
   unfold Za5 at h
   refine SR<|Ac (Zj rfl rfl (vt rfl) (vk rfl)) rfl<|Nl<|sq<|Cn rfl (fun hc=>absurd (of_decide_eq_true hc) (hsf1.niln (by simp))) (fun hc=>?_)
   refine xt ?_
   cases h;exact Z2d (i:=0) Tryz.results347 rfl rfl
  | cons x16 l15=>
   unfold Za5 at h
   refine SR<|Ac (Zj rfl rfl (vt rfl) (vk rfl)) rfl<|Nl<|sq<|Cn rfl (fun hc=>?_) (fun hc=>absurd (hsf1.consn (by simp)) (of_decide_eq_false hc))
   have hlti14:=of_decide_eq_true hc
   refine sk<|sq<|bk<|SR<|Md rfl<|Ac (Z8d rfl rfl Z2l Z01 (vt rfl) (vt rfl) hsf1.lget) rfl<|Cv rfl (Zm 9 rfl rfl Z1n) fun g17=>As rfl<|Zg Z01 9 rfl<|Nl<|sq ?_
   obtain ⟨j18,hj18,x19,hx19,h⟩:=bs2 h
   refine AR Z00 (by kernel_rfl)<|Zt rfl<|Sd (lo [4,32] [] rfl fun S hs hr=>Z13 rfl rfl Z2l (vh hs 4 rfl rfl) (vh hs 32 rfl rfl) hj18)<|Zo Z01 5 rfl<|Zo Z01 9 rfl<|SCl [34,35] (Ytn _ _ _ hx19) Ysc rfl<|SAs rfl<|Sn<|sq<|SR<|Md rfl<|Ac (Z0i rfl rfl Z11 (vt rfl)) rfl<|Ac (Z0j rfl rfl (vt rfl) (vk rfl)) rfl<|Nl<|Cq rfl h (fun h=>?_) (fun h=>?_)
   ·refine xt<|Rg<|Ac (Z5f rfl rfl (vt rfl) (vk rfl) rfl hlti14) rfl<|Md rfl<|Nl ?_
    exact ⟨(_,_,_,_),Nat.lt_succ_self _,⟨hsf1.next,h⟩,FX rfl⟩
   ·refine sk<|SR<|Md rfl<|Ac (Z0i rfl rfl Z11 (vt rfl)) rfl<|Mk rfl<|Nl<|bk<|LG (d:=[]) (ν:=(List Int)×Nat×Za×(Lp sg)) (fun (l25,i24,b22,s23)=>(Sfx x19 i24 l25∧Zdl sg (Za5 sg y1 l15) i14 x16 y1 l25 i24 b22 s23=some r,l25.length,[(0,ydA Tryz.prog (Z3 24 Z4) y1 L),(4,Zc g6 (Lens.id (Z3 24 Z4))),(7,rd (Z0 .i64) (i14:Int)),(8,Zc g17 (Lens.id Z4)),(27,rd (Z3 24 Z4) x4),(28,rd (Z0 .i64) (i14:Int)),(40,rd (Z1 (Z0 .i64)) x19),(41,rd (Z0 .i64) (x19.length:Int)),(42,rd (Z0 .i64) (i24:Int))],[(0,L s23),(5,Zh g6 123 (Z3 24 Z4) b22),(9,Zh g17 121 Z4 x16)])) (x19,0,b12,s13) ⟨Sfx.start _,h⟩ (FX rfl) ?_
    rintro ⟨l25,i24,b22,s23⟩ ⟨hsf2,h⟩
    dsimp only at hsf2 h ⊢
    cases l25 with
    | nil=>
     unfold Zdl at h
     refine SR<|Ac (Zj rfl rfl (vt rfl) (vt rfl)) rfl<|Nl<|sq<|Cn rfl (fun hc=>absurd (of_decide_eq_true hc) hsf2.nil) (fun hc=>?_)
     refine xt<|Rg<|Ac (Z5f rfl rfl (vt rfl) (vk rfl) rfl hlti14) rfl<|Md rfl<|Nl ?_
     exact ⟨(_,_,_,_),Nat.lt_succ_self _,⟨hsf1.next,h⟩,FX rfl⟩
    | cons x26 l25=>
     unfold Zdl at h
     refine SR<|Ac (Zj rfl rfl (vt rfl) (vt rfl)) rfl<|Nl<|sq<|Cn rfl (fun hc=>?_) (fun hc=>absurd hsf2.cons (of_decide_eq_false hc))
     have hlti24:=of_decide_eq_true hc
     refine sk<|sq<|bk<|SR<|Ac (Z0k rfl rfl Z11 (vt rfl) (vt rfl) hsf2.lget) rfl<|Lp1 Zp rfl<|As rfl<|Nl<|sq ?_
     obtain ⟨x27,hx27,h⟩:=Z7 h
     refine Rg<|Zk lTern_0 Z2x rfl<|Ld Zw 9 rfl<|Md rfl<|Cl [47,48] (Y65 _ _ _ hx27) Y8y rfl<|As rfl<|Nl<|SR<|Ld Z02 5 rfl<|Cv rfl (Zm 14 rfl rfl Z1i) fun g28=>Zg Z02 14 rfl<|Nl<|sq ?_
     obtain ⟨j29,hj29,x30,hx30,j31,hj31,h⟩:=bs3 h
     refine Rg<|Md rfl<|Md rfl<|Ac (Z13 rfl rfl Z2l (vt rfl) (vt rfl) hj29) rfl<|Ld Z01 5 rfl<|Md rfl<|Md rfl<|Ac (Z0y rfl rfl (vt rfl)) rfl<|Cl [54,55,57] (Y49 _ _ _ _ hx30) Zzy rfl<|Ac (Z13 rfl rfl Z2l (vt rfl) (vt rfl) hj31) rfl<|Zg Z01 14 rfl<|Nl<|sq<|sq ?_
     obtain ⟨s32,hs32,h⟩:=Z7 h
     refine Rg<|Ac (Zq (A:=ydA Tryz.prog (Z3 24 Z4) y1 L) rfl rfl (vt rfl)) rfl<|Ld Z02 14 rfl<|Ac (Zku 0 hs32 rfl rfl (vt rfl) (vt rfl) rfl) rfl<|Ac (Z0y rfl rfl (vt rfl)) rfl<|Nl<|Cq rfl h (fun h=>?_) (fun h=>?_)
     ·refine xt ?_
      cases h;exact Z2d (i:=0) Tryz.results347 rfl rfl
     ·refine sk ?_
      obtain ⟨j33,hj33,x34,hx34,j35,hj35,h⟩:=bs3 h
      refine Rg<|Md rfl<|Md rfl<|Ac (Z13 rfl rfl Z2l (vt rfl) (vt rfl) hj33) rfl<|Ld Z01 5 rfl<|Md rfl<|Md rfl<|Cl [67,68,69] (Y49 _ _ _ _ hx34) Zzy rfl<|Ac (Z13 rfl rfl Z2l (vt rfl) (vt rfl) hj35) rfl<|Zg Z01 5 rfl<|Nl<|Rg<|Ac (Z12 (t:=41) rfl rfl (vt rfl) (vk rfl) (vt rfl) hlti24) rfl<|Md rfl<|Nl ?_
      exact ⟨(_,_,_,_),Nat.lt_succ_self _,⟨hsf2.next,h⟩,FX rfl⟩
def Zr6 (a1:Za)(b2:Za):Option (Itr Za):=
 some (Itr.mk fun σ y s=>Zb8 σ y s a1 b2)
theorem Ymc:Q2 Tryz.prog 303 (rd (Z3 24 Z4)) (rd (Z3 24 Z4)) (Z5c Tryz.prog (Z3 24 Z4)) Zr6:=fun a1 b2 r h=>I0 Tryz.func303 rfl Tryz.ntmps303 rfl fun w H Z=>by
 unfold Zr6 at h
 refine SR<|Cv rfl (Zs 3 rfl rfl (vt rfl)) fun g3=>Cv rfl (Zs 4 rfl rfl (vt rfl)) fun g4=>Ac (Zv (A:=Zb .nilFunc) rfl rfl vc) rfl<|Nl<|sq<|AW.freezeB 2 3 rfl rfl rfl<|AW.freezeB 3 4 rfl rfl rfl<|Rg<|Ac (Ztr (Itr.mk fun σ y s=>Zb8 σ y s a1 b2) (cs:=[.tmp 2,.tmp 3]) (CAs:=[rp (Z3 24 Z4) a1,rp (Z3 24 Z4) b2]) rfl rfl Yvc ⟨vt rfl,vt rfl,trivial⟩ (fun σ y L s r h=>Yk6 σ y L s a1 b2 r h)) rfl<|Ac (Zv (A:=Z5c Tryz.prog (Z3 24 Z4) (Itr.mk fun σ y s=>Zb8 σ y s a1 b2)) rfl rfl (vt rfl)) rfl<|Nl<|rt ?_
 cases h;exact Zd Tryz.results303 rfl (Z5 rfl)
def Za1 (l4:(List Za))(x10:(Bool×Int))(R_cover_look_at:(cover_look→Za→(List Za)→Option (Z16×Bool×Bool×cover_look)))(b18:cover_look)(b19:Z16)(b20:Bool)(b21:Bool)(x23:Za):Option (Lp (cover_look×Z16×Bool×Bool)):=
 (Z5z l4 (IntKind.i64.wrap (x10.2+1))).bind fun s25=>(R_cover_look_at b18 x23 s25).bind fun b26=>(bif (b26.2.1||(!b26.2.2.1)) then some (.out (.exit 1) (b26.2.2.2,b26.1,b26.2.1,b26.2.2.1)) else some (.go (b26.2.2.2,b26.1,b26.2.1,b26.2.2.1)))
def Zlz (R_cover_look_at:(cover_look→Za→(List Za)→Option (Z16×Bool×Bool×cover_look)))(s1:cover_look)(x3:Za)(l4:(List Za)):Option (Z16×Bool×Bool×cover_look):=
 (Zm3 s1.purse).bind fun b9=>(bif (!b9.1) then some ((Vector.replicate 24 Z0p),false,false,{s1 with purse:=b9.2}) else (Zqm x3 l4).bind fun x10=>(bif x10.1 then some ((Vector.replicate 24 Z0p),false,true,{s1 with purse:=b9.2}) else (bif (decide (x10.2<0)) then (Zk5 x3).bind fun x12=>some (x12,true,true,{s1 with purse:=b9.2}) else (lget l4 x10.2).bind fun x16=>(Zr6 x3 x16).bind fun x17=>(Itr.run x17 (cover_look×Z16×Bool×Bool) (fun s x=>Za1 l4 x10 R_cover_look_at s.1 s.2.1 s.2.2.1 s.2.2.2 x) (.go ({s1 with purse:=b9.2},(Vector.replicate 24 Z0p),false,true))).bind fun z22=>Y18 z22 (fun s27=>some (s27.2.1,s27.2.2.1,s27.2.2.2,s27.1)) (fun c s27=>bif Zo8 1 c then some (s27.2.1,s27.2.2.1,s27.2.2.2,s27.1) else none))))
theorem Yr4 (R_cover_look_at:(cover_look→Za→(List Za)→Option (Z16×Bool×Bool×cover_look)))(hR_cover_look_at:∀(g2 gT:Nat) (s1:cover_look) (x3:Za) (l4:(List Za)) (r:(Z16×Bool×Bool×cover_look)),R_cover_look_at s1 x3 l4=some r→Con Tryz.prog 220 [Zc g2 (Lens.id Z2a),rd (Z3 24 Z4) x3,rd (Z1 (Z3 24 Z4)) l4] (Zh g2 gT Z2a s1) (fun _:Unit=>Z49 (rd (Z3 24 Zn) r.1) (rd Z6 r.2.1) (rd Z6 r.2.2.1)) (fun _=>Zh g2 gT Z2a r.2.2.2))(g2 gT:Nat)(s1:cover_look)(x3:Za)(l4:(List Za))(r:(Z16×Bool×Bool×cover_look))(h:Zlz R_cover_look_at s1 x3 l4=some r):Con Tryz.prog 220 [Zc g2 (Lens.id Z2a),rd (Z3 24 Z4) x3,rd (Z1 (Z3 24 Z4)) l4] (Zh g2 gT Z2a s1) (fun _:Unit=>Z49 (rd (Z3 24 Zn) r.1) (rd Z6 r.2.1) (rd Z6 r.2.2.1)) (fun _=>Zh g2 gT Z2a r.2.2.2):=by
 refine Con.intro Tryz.func220 rfl Tryz.ntmps220 rfl fun w H X Z=>?_
 unfold Zlz at h
 refine SR<|Cv rfl (Zs 4 rfl rfl (vkp (vt rfl))) fun g5=>Cv rfl (Zs 5 rfl rfl (vt rfl)) fun g6=>Cv rfl (Zs 6 rfl rfl (vt rfl)) fun g7=>Cv rfl (Zm 7 rfl rfl Z53) fun g8=>Ab rfl<|Ab rfl<|Nl<|AW.scope<|sq<|sq ?_
 obtain ⟨b9,hb9,h⟩:=Z7 h
 refine Rg<|Ac (Y5m (A:=Zc g2 (Lens.id Z2a)) rfl rfl rfl (Y7m _) (vt rfl) (i:=4) rfl) rfl<|Nc rfl<|Zk lcover_look_0 Yoo rfl<|Cv rfl (Z1a 0 (xs:=[.tmp 17]) (Yjh _ _ _ _ hb9) Yr0 rfl rfl ⟨vt rfl,trivial⟩ rfl) fun _u=>AOps.told 0 (Zh g2 gT Z2a {s1 with purse:=b9.2}) rfl<|Ac (Z0y rfl rfl (vt rfl)) rfl<|Nl<|Cq rfl h (fun h=>?_) (fun h=>?_)
 ·refine SR<|Ac (Z1m (ps:=[]) (x:=(Vector.replicate 24 Z0p)) rfl rfl rfl (by kernel_rfl) Z53 rfl) rfl<|Zg Z17 7 rfl<|Ab rfl<|Ab rfl<|Nl<|rt ?_
  cases h;exact Zmw (i:=0) Tryz.results220 rfl (Zx rfl (i:=7) rfl Z17) (Z5 rfl) (Z5 rfl) rfl
 ·refine sk<|sq ?_
  obtain ⟨x10,hx10,h⟩:=Z7 h
  refine Rg<|Ld Z02 5 rfl<|Ld Zv3 6 rfl<|Cl [22,23] (Ybh _ _ _ hx10) Yvf rfl<|Mt2 rfl<|Ac (Z1c rfl rfl (vt rfl)) rfl<|Ac (Z18 rfl rfl (vt rfl)) rfl<|Cv rfl (Zm 11 rfl rfl zr3) fun g11=>As rfl<|Zg Zp 11 rfl<|Nl<|sq<|bk<|SR<|Md rfl<|As rfl<|Nl<|Cq rfl h (fun h=>?_) (fun h=>?_)
  ·refine SR<|Ac (Z1m (ps:=[]) (x:=(Vector.replicate 24 Z0p)) rfl rfl rfl (by kernel_rfl) Z53 rfl) rfl<|Zg Z17 7 rfl<|Ab rfl<|Ab rfl<|Nl<|rt ?_
   cases h;exact Zmw (i:=0) Tryz.results220 rfl (Zx rfl (i:=7) rfl Z17) (Z5 rfl) (Z5 rfl) rfl
  ·refine SR<|Ld Zp 11 rfl<|Ac (Zj rfl rfl (vt rfl) (vk rfl)) rfl<|As rfl<|Nl<|Cq rfl h (fun h=>?_) (fun h=>?_)
   ·refine sq ?_
    obtain ⟨x12,hx12,h⟩:=Z7 h
    refine Rg<|Ld Z02 5 rfl<|Cl [33] (Ydm _ _ hx12) Ybx rfl<|Zg Z17 7 rfl<|Ab rfl<|Ab rfl<|Nl<|rt ?_
    cases h;exact Zmw (i:=0) Tryz.results220 rfl (Zx rfl (i:=7) rfl Z17) (Z5 rfl) (Z5 rfl) rfl
   ·refine sk<|SR<|Cv rfl (Zm 12 rfl rfl Z53) fun g13=>Nl<|SR<|Cv rfl (Zm 13 rfl rfl zr4) fun g14=>Cv rfl (Zm 14 rfl rfl zr4) fun g15=>Ac (Z6y rfl rfl ty4 (vt rfl) (i:=13) rfl vb) rfl<|Ac (Z6y rfl rfl ty4 (vt rfl) (i:=14) rfl vb) rfl<|Nl<|sq<|AW.label<|sq<|sq ?_
    obtain ⟨x16,hx16,x17,hx17,h⟩:=bs2 h
    refine AR Z00 (by kernel_rfl)<|Zo Z02 5 rfl<|Zo Zv3 6 rfl<|Zo Zp 11 rfl<|Sd (lo [36,37] [] rfl fun S hs hr=>Z0k rfl rfl Z4l (vh hs 36 rfl rfl) (vh hs 37 rfl rfl) hx16)<|SLp Z02 rfl<|SCl [35,39] (Ymc _ _ _ hx17) Yj1 rfl<|Sn<|bk ?_
    obtain ⟨z22,hz22,h⟩:=Z7 h
    refine AW.fit (d:=[]) (L:=[(3,Zc g5 (Lens.id (kas (Zc g2 (Lens.id Z2a))))),(5,Zc g7 (Lens.id (Z1 (Z3 24 Z4)))),(6,Zc g8 (Lens.id (Z3 24 Zn))),(7,rd Z6 false),(8,rd Z6 false),(10,Zc g11 (Lens.id (Z0 .i64))),(11,Zc g13 (Lens.id (Z3 24 Zn))),(12,Zc g14 (Lens.id Z6)),(13,Zc g15 (Lens.id Z6)),(40,Z5c Tryz.prog (Z3 24 Z4) x17)]) (M:=[(4,Zh g5 287 (kas (Zc g2 (Lens.id Z2a))) ()),(0,Zh g2 gT Z2a {s1 with purse:=b9.2}),(6,Zh g7 127 (Z1 (Z3 24 Z4)) l4),(7,Zh g8 31 (Z3 24 Zn) (Vector.replicate 24 Z0p)),(11,Zh g11 3 (Z0 .i64) x10.2),(12,Zh g13 31 (Z3 24 Zn) (Vector.replicate 24 Z0p)),(13,Zh g14 4 Z6 false),(14,Zh g15 4 Z6 true)]) (FX rfl) ?_
    refine AW.rangeFunc (σ:=cover_look×Z16×Bool×Bool) (fun x=>[rd (Z3 24 Z4) x]) (fun s x=>Za1 l4 x10 R_cover_look_at s.1 s.2.1 s.2.2.1 s.2.2.2 x) (fun s=>Z41 ((fun s=>[(4,Zh g5 287 (kas (Zc g2 (Lens.id Z2a))) ()),(0,Zh g2 gT Z2a s.1),(6,Zh g7 127 (Z1 (Z3 24 Z4)) l4),(7,Zh g8 31 (Z3 24 Zn) (Vector.replicate 24 Z0p)),(11,Zh g11 3 (Z0 .i64) x10.2),(12,Zh g13 31 (Z3 24 Zn) s.2.1),(13,Zh g14 4 Z6 s.2.2.1),(14,Zh g15 4 Z6 s.2.2.2)]) s)) (fun _ s=>Z41 ((fun s=>[(4,Zh g5 287 (kas (Zc g2 (Lens.id Z2a))) ()),(0,Zh g2 gT Z2a s.1),(6,Zh g7 127 (Z1 (Z3 24 Z4)) l4),(7,Zh g8 31 (Z3 24 Zn) (Vector.replicate 24 Z0p)),(11,Zh g11 3 (Z0 .i64) x10.2),(12,Zh g13 31 (Z3 24 Zn) s.2.1),(13,Zh g14 4 Z6 s.2.2.1),(14,Zh g15 4 Z6 s.2.2.2)]) s)) [(3,Zc g5 (Lens.id (kas (Zc g2 (Lens.id Z2a))))),(5,Zc g7 (Lens.id (Z1 (Z3 24 Z4)))),(6,Zc g8 (Lens.id (Z3 24 Zn))),(7,rd Z6 false),(8,rd Z6 false),(10,Zc g11 (Lens.id (Z0 .i64))),(11,Zc g13 (Lens.id (Z3 24 Zn))),(12,Zc g14 (Lens.id Z6)),(13,Zc g15 (Lens.id Z6))] (fun s x23 S1=> ∃(g24:Nat),Fit S1 [] [(3,Zc g5 (Lens.id (kas (Zc g2 (Lens.id Z2a))))),(5,Zc g7 (Lens.id (Z1 (Z3 24 Z4)))),(6,Zc g8 (Lens.id (Z3 24 Zn))),(7,rd Z6 false),(8,rd Z6 false),(10,Zc g11 (Lens.id (Z0 .i64))),(11,Zc g13 (Lens.id (Z3 24 Zn))),(12,Zc g14 (Lens.id Z6)),(13,Zc g15 (Lens.id Z6)),(14,Zc g24 (Lens.id (Z3 24 Z4)))] [(4,Zh g5 287 (kas (Zc g2 (Lens.id Z2a))) ()),(0,Zh g2 gT Z2a s.1),(6,Zh g7 127 (Z1 (Z3 24 Z4)) l4),(7,Zh g8 31 (Z3 24 Zn) (Vector.replicate 24 Z0p)),(11,Zh g11 3 (Z0 .i64) x10.2),(12,Zh g13 31 (Z3 24 Zn) s.2.1),(13,Zh g14 4 Z6 s.2.2.1),(14,Zh g15 4 Z6 s.2.2.2),(15,Zh g24 123 (Z3 24 Z4) x23)]) 3001 (s0:=({s1 with purse:=b9.2},(Vector.replicate 24 Z0p),false,true)) (sE:=z22) rfl (vt rfl) ⟨rfl,inferInstance,rfl,inferInstance,rfl,inferInstance,rfl,inferInstance,rfl,inferInstance,rfl,inferInstance,rfl,inferInstance,rfl,inferInstance,rfl,inferInstance,trivial⟩ rfl (fun _=>rfl) (by intro p hp;have hp:p∈[41]:=hp;rw [List.mem_singleton.1 hp];show 41<61;decide) ?ha1 ?hb1 (fun Lf=>⟨top,_,_,Lf,_,_,hz22,rfl,rfl,rfl,rfl⟩) ?he1
    case ha1=>
     rintro ⟨b18,b19,b20,b21⟩ x23 r hF l w H X Z
     refine Rg<|Cv rfl (Zm 15 rfl rfl Z1i) fun g24=>Zg Z02 15 rfl<|Nl ?_
     exact ⟨rfl,g24,FX rfl⟩
    case hb1=>
     rintro ⟨b18,b19,b20,b21⟩ x23 r h S1 ⟨g24,hfit⟩ l w H X Z
     refine AW.fit (d:=[]) (L:=[(3,Zc g5 (Lens.id (kas (Zc g2 (Lens.id Z2a))))),(5,Zc g7 (Lens.id (Z1 (Z3 24 Z4)))),(6,Zc g8 (Lens.id (Z3 24 Zn))),(7,rd Z6 false),(8,rd Z6 false),(10,Zc g11 (Lens.id (Z0 .i64))),(11,Zc g13 (Lens.id (Z3 24 Zn))),(12,Zc g14 (Lens.id Z6)),(13,Zc g15 (Lens.id Z6)),(14,Zc g24 (Lens.id (Z3 24 Z4)))]) (M:=[(4,Zh g5 287 (kas (Zc g2 (Lens.id Z2a))) ()),(0,Zh g2 gT Z2a b18),(6,Zh g7 127 (Z1 (Z3 24 Z4)) l4),(7,Zh g8 31 (Z3 24 Zn) (Vector.replicate 24 Z0p)),(11,Zh g11 3 (Z0 .i64) x10.2),(12,Zh g13 31 (Z3 24 Zn) b19),(13,Zh g14 4 Z6 b20),(14,Zh g15 4 Z6 b21),(15,Zh g24 123 (Z3 24 Z4) x23)]) hfit<|AW.bodyT ?_
     change Za1 l4 x10 R_cover_look_at b18 b19 b20 b21 x23=some r at h
     unfold Za1 at h
     refine bk<|sq ?_
     obtain ⟨s25,hs25,b26,hb26,h⟩:=bs2 h
     refine AR Z00 (by kernel_rfl)<|Sd (lo [3] [4] rfl fun S hs hr=>Y5m (A:=Zc g2 (Lens.id Z2a)) rfl rfl rfl (Y7m _) (vh hs 3 rfl rfl) (i:=4) ((hr 4 rfl).trans rfl))<|Zo Z02 15 rfl<|Zo Zv3 6 rfl<|Zo Zp 11 rfl<|Sd (lo [46] [] rfl fun S hs hr=>Z06 rfl rfl (vh hs 46 rfl rfl) (vk rfl))<|Sd (lo [45,47] [] rfl fun S hs hr=>Yqx hs25 rfl rfl Z4l (vh hs 45 rfl rfl) (vh hs 47 rfl rfl))<|Sd (Z19 (us:=[(49,Z49 (rd (Z3 24 Zn) b26.1) (rd Z6 b26.2.1) (rd Z6 b26.2.2.1))]) (ur:=[(0,Zh g2 gT Z2a b26.2.2.2)]) [43,44,48] [0] rfl fun S hs hr=>Yge 0 (xs:=[.tmp 43,.tmp 44,.tmp 48]) (hR_cover_look_at _ _ _ _ _ _ hb26) Y1n rfl rfl ⟨vt ((hs 43 rfl).trans rfl),vt ((hs 44 rfl).trans rfl),vt ((hs 48 rfl).trans rfl),trivial⟩ ((hr 0 rfl).trans rfl))<|Sd (lo [49] [] rfl fun S hs hr=>Zq (A:=Z49 (rd (Z3 24 Zn) b26.1) (rd Z6 b26.2.1) (rd Z6 b26.2.2.1)) rfl rfl (vh hs 49 rfl rfl))<|Sd (lo [42] [] rfl fun S hs hr=>Zgc rfl rfl (vh hs 42 rfl rfl))<|Sd (lo [42] [] rfl fun S hs hr=>Zi6 rfl rfl (vh hs 42 rfl rfl))<|Sd (lo [42] [] rfl fun S hs hr=>Zgo rfl rfl (vh hs 42 rfl rfl))<|SSt Z17 12 rfl<|SSt ty4 13 rfl<|SSt ty4 14 rfl<|Sn<|SR<|Ld ty4 13 rfl<|Md rfl<|Gd rfl (fun hq=>Z1s rfl rfl ty4 (vt rfl) (i:=14) rfl)<|Gd rfl (fun hq=>Z0y rfl rfl (Zi rfl hq))<|Ac (Z3j rfl rfl (vt rfl) (vt rfl)) rfl<|Nl<|Cq rfl h (fun h=>?_) (fun h=>?_)
     ·refine xt ?_
      obtain rfl:=si h
      exact ⟨_,(b26.2.2.2,b26.1,b26.2.1,b26.2.2.1),Turn.refl,rfl,⟨rfl,rfl,rfl,rfl,rfl,rfl,rfl,rfl,trivial⟩⟩
     ·refine sk ?_
      obtain rfl:=si h
      exact ⟨_,(b26.2.2.2,b26.1,b26.2.1,b26.2.2.1),Turn.refl,rfl,⟨rfl,rfl,rfl,rfl,rfl,rfl,rfl,rfl,trivial⟩⟩
    case he1=>
     intro D
     cases z22 with
     | go s27=>
      change _=some r at h
      refine sq<|AR Z00 (by kernel_rfl)<|Zo Z17 12 rfl<|Zo ty4 13 rfl<|Zo ty4 14 rfl<|SSt Z17 7 rfl<|SAs rfl<|SAs rfl<|Sn<|rt ?_
      cases h;exact ⟨rfl,3001,_,rfl,Zmw (i:=0) Tryz.results220 rfl (Zx rfl (i:=7) rfl Z17) (Z5 rfl) (Z5 rfl) rfl⟩
     | out c s27=>
      change (bif Zo8 1 c then _ else _)=some r at h
      cases hc:Zo8 1 c with
      | true=>
       rw [hc] at h
       have hc:=Ylm hc
       subst hc
       change _=some r at h
       refine xt<|sq<|AR Z00 (by kernel_rfl)<|Zo Z17 12 rfl<|Zo ty4 13 rfl<|Zo ty4 14 rfl<|SSt Z17 7 rfl<|SAs rfl<|SAs rfl<|Sn<|rt ?_
       cases h;exact ⟨rfl,3001,_,rfl,Zmw (i:=0) Tryz.results220 rfl (Zx rfl (i:=7) rfl Z17) (Z5 rfl) (Z5 rfl) rfl⟩
      | false=>
       rw [hc] at h
       cases h
def Z8g:Nat→(cover_look→Za→(List Za)→Option (Z16×Bool×Bool×cover_look))
 | 0=>(fun _ _ _=>none)
 | n+1=>(Zlz (Z8g n))
theorem Y2x:∀n:Nat,(∀(g2 gT:Nat) (s1:cover_look) (x3:Za) (l4:(List Za)) (r:(Z16×Bool×Bool×cover_look)),(Z8g n) s1 x3 l4=some r→Con Tryz.prog 220 [Zc g2 (Lens.id Z2a),rd (Z3 24 Z4) x3,rd (Z1 (Z3 24 Z4)) l4] (Zh g2 gT Z2a s1) (fun _:Unit=>Z49 (rd (Z3 24 Zn) r.1) (rd Z6 r.2.1) (rd Z6 r.2.2.1)) (fun _=>Zh g2 gT Z2a r.2.2.2))
 | 0=>(by intros;rename_i h;cases h)
 | n+1=>by
  have ih:=Y2x n
  exact (Yr4 (Z8g n) ih)
def Ztn (s1:cover_look)(x3:Za)(l4:(List Za)):Option (Z16×Bool×Bool×cover_look):=(Z8g Z0s) s1 x3 l4
theorem Ysq:∀(g2 gT:Nat) (s1:cover_look) (x3:Za) (l4:(List Za)) (r:(Z16×Bool×Bool×cover_look)),Ztn s1 x3 l4=some r→Con Tryz.prog 220 [Zc g2 (Lens.id Z2a),rd (Z3 24 Z4) x3,rd (Z1 (Z3 24 Z4)) l4] (Zh g2 gT Z2a s1) (fun _:Unit=>Z49 (rd (Z3 24 Zn) r.1) (rd Z6 r.2.1) (rd Z6 r.2.2.1)) (fun _=>Zh g2 gT Z2a r.2.2.2):=Y2x Z0s
def Zfw (x1:Za)(l2:(List Za))(m3:Int):Option (Z16×Bool×Int):=
 (Ztn (⟨(⟨(Z2o m3 0),(decide (m3≥1099511627776))⟩:cover_purse)⟩:cover_look) x1 l2).bind fun b7=>(bif (!b7.2.2.1) then some ((Vector.replicate 24 Z0p),false,5) else some (b7.1,b7.2.1,0))
theorem Y2l:Q3 Tryz.prog 133 (rd (Z3 24 Z4)) (rd (Z1 (Z3 24 Z4))) (rd (Z0 .i64)) (fun r=>Z49 (rd (Z3 24 Zn) r.1) (rd Z6 r.2.1) (rd (Z0 .i64) r.2.2)) Zfw:=fun x1 l2 m3 r h=>I0 Tryz.func133 rfl Tryz.ntmps133 rfl fun w H Z=>by
 unfold Zfw at h
 refine SR<|Cv rfl (Zs 4 rfl rfl (vt rfl)) fun g4=>Cv rfl (Zm 7 rfl rfl Z53) fun g5=>Ab rfl<|Ak rfl<|Nl<|SR<|Md rfl<|Ac (Zl6 rfl rfl (vt rfl) (vk rfl)) rfl<|Md rfl<|Ac (Z3v rfl rfl (vt rfl) (vk rfl)) rfl<|Ac (opb (⟨(Z2o m3 0),(decide (m3≥1099511627776))⟩:cover_purse) Yso rfl Yqt (pc Yt2 (vt rfl)<|pc Yd6 (vt rfl)<|pn rfl)) rfl<|Ac (opb (⟨(⟨(Z2o m3 0),(decide (m3≥1099511627776))⟩:cover_purse)⟩:cover_look) Ydz rfl Yp4 (pc Yca (vt rfl)<|pn rfl)) rfl<|Cv rfl (Zs 20 rfl rfl (vt rfl)) fun g6=>Ac (Zv (A:=Zc g6 (Lens.id Z2a)) rfl rfl (vt rfl)) rfl<|Nl<|sq ?_
 obtain ⟨b7,hb7,h⟩:=Z7 h
 refine Rg<|Mp rfl<|Ld Z02 4 rfl<|Md rfl<|Cv rfl (Z1a 20 (xs:=[.tmp 21,.tmp 22,.tmp 23]) (Ysq _ _ _ _ _ _ hb7) Y1n rfl rfl ⟨vt rfl,vt rfl,vt rfl,trivial⟩ rfl) fun _u=>Ac (Zq (A:=Z49 (rd (Z3 24 Zn) b7.1) (rd Z6 b7.2.1) (rd Z6 b7.2.2.1)) rfl rfl (vt rfl)) rfl<|Ac (Zgc rfl rfl (vt rfl)) rfl<|Ac (Zi6 rfl rfl (vt rfl)) rfl<|Ac (Zgo rfl rfl (vt rfl)) rfl<|Cv rfl (Zm 11 rfl rfl Z53) fun g8=>Zg Z17 11 rfl<|As rfl<|As rfl<|Nl<|sq<|SR<|Md rfl<|Ac (Z0y rfl rfl (vt rfl)) rfl<|Nl<|Cq rfl h (fun h=>?_) (fun h=>?_)
 ·refine SR<|Ac (Z1m (ps:=[]) (x:=(Vector.replicate 24 Z0p)) rfl rfl rfl (by kernel_rfl) Z53 rfl) rfl<|Zg Z17 7 rfl<|Ab rfl<|Ak rfl<|Nl<|rt ?_
  cases h;exact Zj4 Tryz.results133 rfl (Zx rfl (i:=7) rfl Z17) (Z5 rfl) (Z5 rfl)
 ·refine sk<|SR<|Ld Z17 11 rfl<|Md rfl<|Zg Z17 7 rfl<|As rfl<|Ak rfl<|Nl<|rt ?_
  cases h;exact Zj4 Tryz.results133 rfl (Zx rfl (i:=7) rfl Z17) (Z5 rfl) (Z5 rfl)
def Zpr (s:List Rule):Option (List Rule):=Z0v [] s
theorem Yjq (s:List Rule)(r:List Rule)(h:Zpr s=some r):Con Tryz.prog 221 [rd (Z1 Z09) s] emp (fun v=>Zb v) (fun v=>Zf v 126 Z09 r):=by
 refine Con.intro0 Tryz.func221 rfl Tryz.ntmps221 rfl fun w H Z=>?_
 unfold Zpr at h
 refine AW.newnil 1001 126 Z09<|SR<|Ac (Zv (A:=Zb (.slice none 0 0)) rfl rfl vc) rfl<|Nl<|sq<|SR<|Md rfl<|Ct rfl (Zbx rfl rfl Z3q (vt rfl)) ?_
 rintro _ ⟨b,hb,rfl⟩
 refine Nl<|Cn rfl (fun hc=>?_) (fun hc=>?_)
 ·obtain rfl:=hb hc
  refine SR<|Ac (Zv (A:=Zb (.slice none 0 0)) rfl rfl vc) rfl<|Nl<|rt ?_
  obtain rfl:=(Z7c h).2
  exact Z3m (i:=1001) Tryz.results221 rfl rfl rfl
 ·refine sk<|SR<|Cv rfl (Z4q 1002 (ps:=[]) (l:=[]) rfl rfl Z3q Z6p rfl rfl rfl rfl) fun v1=>Md rfl<|Cv rfl (Z29 1002 h rfl rfl Zkv (vt rfl) rfl (vt rfl)) fun v2=>Aw rfl<|Nl<|rt ?_
  exact Z3m (i:=1002) Tryz.results221 rfl rfl rfl
def Zcd:Nat→Nat→(List Rule)→Option (List Rule)
 | 0,i6,l5=>some l5
 | m7+1,i6,l5=>(lget l5 (i6:Int)).bind fun x8=>(Zds x8.Atoms).bind fun x9=>(lget l5 (i6:Int)).bind fun x10=>(Zcd m7) (i6+1) (List.set l5 (i6:Int).toNat {x10 with Atoms:=x9})
def Zjv (l1:(List Rule)):Option (List Rule):=
 (Zpr l1).bind fun x2=>Zcd ((x2.length:Int):Int).toNat 0 x2
theorem Ydn:Q1 Tryz.prog 134 (rd (Z1 Z09)) (rd (Z1 Z09)) Zjv:=fun l1 r h=>I0 Tryz.func134 rfl Tryz.ntmps134 rfl fun w H Z=>by
 unfold Zjv at h
 refine SR<|Ac (Zv (A:=rd (Z1 Z09) []) rfl rfl Z1f) rfl<|Nl<|sq ?_
 obtain ⟨x2,hx2,h⟩:=Z7 h
 refine Rg<|Md rfl<|Cv rfl (Z1a 1001 (xs:=[.tmp 5]) (Yjq _ _ hx2) Yvr rfl rfl ⟨vt rfl,trivial⟩ rfl) fun v3=>Aw rfl<|Nl<|sq<|SR<|Mw rfl<|Ac (Z4k 1001 rfl rfl Z3q (vt rfl) rfl) rfl<|Mk rfl<|Nl<|bk<|LG (d:=[]) (ν:=Nat×Nat×(List Rule)) (fun (m7,i6,l5)=>(Cnt (x2.length:Int) i6 m7∧Zcd m7 i6 l5=some r,m7,[(3,Zb v3),(8,rd (Z0 .i64) (x2.length:Int)),(9,rd (Z0 .i64) (i6:Int))],[(1001,Zf v3 126 Z09 l5)])) (((x2.length:Int):Int).toNat,0,x2) ⟨Cnt.start _,h⟩ (FX rfl) ?_
 rintro ⟨m7,i6,l5⟩ ⟨hsf1,h⟩
 dsimp only at hsf1 h ⊢
 cases m7 with
 | zero=>
  unfold Zcd at h
  refine SR<|Ac (Zj rfl rfl (vt rfl) (vt rfl)) rfl<|Nl<|sq<|Cn rfl (fun hc=>absurd (of_decide_eq_true hc) hsf1.zero) (fun hc=>?_)
  refine xt<|SR<|Mw rfl<|Aw rfl<|Nl<|AW.freezes [2,3,23] 1001 rfl ⟨rfl,rfl,rfl,trivial⟩ rfl<|rt ?_
  cases h;exact Zd Tryz.results134 rfl (Z5 rfl)
 | succ m7=>
  unfold Zcd at h
  refine SR<|Ac (Zj rfl rfl (vt rfl) (vt rfl)) rfl<|Nl<|sq<|Cn rfl (fun hc=>?_) (fun hc=>absurd hsf1.succ (of_decide_eq_false hc))
  have hlti6:=of_decide_eq_true hc
  refine sk<|sq<|bk<|SR<|Md rfl<|As rfl<|Nl ?_
  obtain ⟨x8,hx8,x9,hx9,x10,hx10,h⟩:=bs3 h
  refine Rg<|Mw rfl<|Md rfl<|Mw rfl<|Md rfl<|Ac (Z22 1001 rfl rfl Z3q (vt rfl) rfl (vt rfl) hx8) rfl<|Ac (Z8v lRule_1 rfl rfl Y0i (vt rfl)) rfl<|Ac (Z1q 1001 rfl rfl Zeu (vt rfl) rfl (Z0m hx8).2) rfl<|Cl [18] (Y8u _ _ hx9) Y2k rfl<|Ac (Z22 1001 rfl rfl Z3q (vt rfl) rfl (vt rfl) hx10) rfl<|Ac (Z8v lRule_1 rfl rfl Y0i (vt rfl)) rfl<|Ac (Z2w 1001 rfl rfl Zeu (vt rfl) rfl (Z0m hx10).2 (vt rfl)) rfl<|Nl<|Rg<|Ac (Z12 (t:=8) rfl rfl (vt rfl) (vk rfl) (vt rfl) hlti6) rfl<|Md rfl<|Nl ?_
  exact ⟨(_,_,_),Nat.lt_succ_self _,⟨hsf1.next,h⟩,FX rfl⟩
def Zap (m2:Int):(List Rule)→Nat→(List Rule)→(List Za)→Option ((List Rule)×Int)
 | [],i11,l7,l9=>(Zjv l7).bind fun x13=>some (x13,0)
 | x14::l12,i11,l7,l9=>(Zfw x14.Cube l9 m2).bind fun x16=>(bif (decide (x16.2.2≠0)) then some ([],x16.2.2) else (bif (!x16.2.1) then (Zap m2 l12) (i11+1) l7 l9 else (Z0v l7 [x14]).bind fun l18=>(Z0v l9 [x14.Cube]).bind fun l20=>(Zap m2 l12) (i11+1) l18 l20))
def Zpy (l1:(List Rule))(m2:Int):Option ((List Rule)×Int):=
 Zap m2 l1 0 [] []
theorem Ylr:Q2 Tryz.prog 66 (rd (Z1 Z09)) (rd (Z0 .i64)) (fun r=>Z10 (rd (Z1 Z09) r.1) (rd (Z0 .i64) r.2)) Zpy:=fun l1 m2 r h=>I0 Tryz.func66 rfl Tryz.ntmps66 rfl fun w H Z=>by
 unfold Zpy at h
 refine SR<|Ac (Zv (A:=rd (Z1 Z09) []) rfl rfl Z1f) rfl<|Ak rfl<|Nl<|AW.scope<|sq<|AW.newnil 1001 126 Z09<|Rg<|Ac (Zv rfl rfl vc) rfl<|Nl<|sq<|AW.newnil 1002 123 (Z3 24 Z4)<|Rg<|Ac (Zv rfl rfl vc) rfl<|Nl<|sq<|AW.label<|sq<|SR<|Md rfl<|Ac (Z0i rfl rfl Z3q (vt rfl)) rfl<|Mk rfl<|Nl<|bk<|LG (d:=[]) (ν:=(List Rule)×Nat×(List Rule)×(List Za)×Value×Value) (fun (l12,i11,l7,l9,v8,v10)=>(Sfx l1 i11 l12∧Zap m2 l12 i11 l7 l9=some r,l12.length,[(1,rd (Z0 .i64) m2),(6,Zb v8),(7,Zb v10),(13,rd (Z1 Z09) l1),(14,rd (Z0 .i64) (l1.length:Int)),(15,rd (Z0 .i64) (i11:Int))],[(1001,Zf v8 126 Z09 l7),(1002,Zf v10 123 (Z3 24 Z4) l9)])) (l1,0,[],[],(.slice none 0 0),(.slice none 0 0)) ⟨Sfx.start _,h⟩ (FX rfl) ?_
 rintro ⟨l12,i11,l7,l9,v8,v10⟩ ⟨hsf1,h⟩
 dsimp only at hsf1 h ⊢
 cases l12 with
 | nil=>
  unfold Zap at h
  refine SR<|Ac (Zj rfl rfl (vt rfl) (vt rfl)) rfl<|Nl<|sq<|Cn rfl (fun hc=>absurd (of_decide_eq_true hc) hsf1.nil) (fun hc=>?_)
  refine xt<|sq<|AW.freezes [6] 1001 rfl ⟨rfl,trivial⟩ rfl ?_
  obtain ⟨x13,hx13,h⟩:=Z7 h
  refine Rg<|Md rfl<|Cl [45] (Ydn _ _ hx13) Yhs rfl<|As rfl<|Ak rfl<|Nl<|rt ?_
  cases h;exact Z1d Tryz.results66 rfl (Z5 rfl) (Z5 rfl)
 | cons x14 l12=>
  unfold Zap at h
  refine SR<|Ac (Zj rfl rfl (vt rfl) (vt rfl)) rfl<|Nl<|sq<|Cn rfl (fun hc=>?_) (fun hc=>absurd hsf1.cons (of_decide_eq_false hc))
  have hlti11:=of_decide_eq_true hc
  refine sk<|sq<|bk<|SR<|Ac (Z0k rfl rfl Z3q (vt rfl) (vt rfl) hsf1.lget) rfl<|Lp1 Z9j rfl<|Cv rfl (Zm 10 rfl rfl Z6p) fun g15=>Zg Z9j 10 rfl<|Nl<|sq ?_
  obtain ⟨x16,hx16,h⟩:=Z7 h
  refine Rg<|Zk lRule_0 Zmp rfl<|Ld Z02 10 rfl<|Mw rfl<|Md rfl<|Ac (Zsw (xs:=[.tmp 21,.tmp 22,.tmp 23]) 1002 (Y2l _ _ _ _ hx16) Y8k rfl rfl ⟨vB (vt rfl),vL rfl rfl,vB (vt rfl),trivial⟩) rfl<|Ac (Zq (A:=Z49 (rd (Z3 24 Zn) x16.1) (rd Z6 x16.2.1) (rd (Z0 .i64) x16.2.2)) rfl rfl (vt rfl)) rfl<|Ac (Zgc rfl rfl (vt rfl)) rfl<|Ac (Zi6 rfl rfl (vt rfl)) rfl<|Ac (Zgo rfl rfl (vt rfl)) rfl<|Cv rfl (Zm 11 rfl rfl Z53) fun g17=>Zg Z17 11 rfl<|As rfl<|As rfl<|Nl<|sq<|bk<|SR<|Md rfl<|Ac (Z5t rfl rfl (vt rfl) (vk rfl)) rfl<|As rfl<|Nl<|Cq rfl h (fun h=>?_) (fun h=>?_)
  ·refine SR<|Md rfl<|Ac (Zv (A:=rd (Z1 Z09) []) rfl rfl Z1f) rfl<|As rfl<|Nl<|rt ?_
   cases h;exact Z1d Tryz.results66 rfl (Z5 rfl) (Z5 rfl)
  ·refine SR<|Md rfl<|Ac (Z0y rfl rfl (vt rfl)) rfl<|As rfl<|Nl<|Cq rfl h (fun h=>?_) (fun h=>?_)
   ·refine xt<|Rg<|Ac (Z12 (t:=14) rfl rfl (vt rfl) (vk rfl) (vt rfl) hlti11) rfl<|Md rfl<|Nl ?_
    exact ⟨(_,_,_,_,_,_),Nat.lt_succ_self _,⟨hsf1.next,h⟩,FX rfl⟩
   ·refine sk ?_
    obtain ⟨l18,hl18,l20,hl20,h⟩:=bs2 h
    refine AR Z00 (by kernel_rfl)<|SMw rfl<|Zo Z9j 10 rfl<|Sd (lo [36] [] rfl fun S hs hr=>osl Z3q Z6p rfl (vh hs 36 rfl rfl))<|Sd (Z19 (us:=[(38,Z1p 126 Z09 l18)]) (ur:=[(1001,emp)]) [35,37] [1001] rfl fun S hs hr=>Z8k 1001 hl18 rfl rfl rfl Zkv (vh hs 35 rfl rfl) ((hr 1001 rfl).trans rfl) (vh hs 37 rfl rfl))<|SMw rfl<|SFd lRule_0 Zmp rfl<|Zo Z02 10 rfl<|Sd (lo [41] [] rfl fun S hs hr=>osl Z4l Z1i rfl (vh hs 41 rfl rfl))<|Sd (Z19 (us:=[(43,Z1p 123 (Z3 24 Z4) l20)]) (ur:=[(1002,emp)]) [39,42] [1002] rfl fun S hs hr=>Z8k 1002 hl20 rfl rfl rfl Zqq (vh hs 39 rfl rfl) ((hr 1002 rfl).trans rfl) (vh hs 42 rfl rfl))<|Sd (Z19 (us:=[(38,top),(6,Z1p 126 Z09 l18)]) (ur:=[]) [38] [1003] rfl fun S hs hr=>Zif 1003 rfl rfl rfl rfl ((hs 38 rfl).trans rfl) ((hr 1003 rfl).trans rfl))<|Sd (Z19 (us:=[(43,top),(7,Z1p 123 (Z3 24 Z4) l20)]) (ur:=[]) [43] [1004] rfl fun S hs hr=>Zif 1004 rfl rfl rfl rfl ((hs 43 rfl).trans rfl) ((hr 1004 rfl).trans rfl))<|Sn<|AW.unpackR 6 1001 rfl rfl fun v19=>AW.unpackR 7 1002 rfl rfl fun v21=>Rg<|Ac (Z12 (t:=14) rfl rfl (vt rfl) (vk rfl) (vt rfl) hlti11) rfl<|Md rfl<|Nl ?_
    exact ⟨(_,_,_,_,_,_),Nat.lt_succ_self _,⟨hsf1.next,h⟩,FX rfl⟩
def Zbi:(List Rule)→Nat→(List Za)→Option (List Za)
 | [],i6,l5=>some l5
 | x8::l7,i6,l5=>(lget l5 (i6:Int)).bind fun x10=>(Zbi l7) (i6+1) (List.set l5 (i6:Int).toNat x8.Cube)
def Zjh (l1:(List Rule)):Option (List Za):=
 (omk (l1.length:Int)).bind fun u2=>Zbi l1 0 (List.replicate (l1.length:Int).toNat (Vector.replicate 24 zTern))
theorem Yfh:Q1 Tryz.prog 137 (rd (Z1 Z09)) (rd (Z1 (Z3 24 Z4))) Zjh:=fun l1 r h=>I0 Tryz.func137 rfl Tryz.ntmps137 rfl fun w H Z=>by
 unfold Zjh at h
 refine SR<|Ac (Zv (A:=rd (Z1 (Z3 24 Z4)) []) rfl rfl Z1f) rfl<|Nl<|sq ?_
 obtain ⟨u2,hu2,h⟩:=Z7 h
 refine Rg<|Md rfl<|Ac (Z0i rfl rfl Z3q (vt rfl)) rfl<|Cv rfl (Ymi 1001 hu2 rfl rfl Zqq Z1i (vt rfl) (vt rfl)) fun v3=>Aw rfl<|Nl<|sq<|SR<|Md rfl<|Ac (Z0i rfl rfl Z3q (vt rfl)) rfl<|Mk rfl<|Nl<|bk<|LG (d:=[]) (ν:=(List Rule)×Nat×(List Za)) (fun (l7,i6,l5)=>(Sfx l1 i6 l7∧Zbi l7 i6 l5=some r,l7.length,[(3,Zb v3),(9,rd (Z1 Z09) l1),(10,rd (Z0 .i64) (l1.length:Int)),(11,rd (Z0 .i64) (i6:Int))],[(1001,Zf v3 123 (Z3 24 Z4) l5)])) (l1,0,(List.replicate (l1.length:Int).toNat (Vector.replicate 24 zTern))) ⟨Sfx.start _,h⟩ (FX rfl) ?_
 rintro ⟨l7,i6,l5⟩ ⟨hsf1,h⟩
 dsimp only at hsf1 h ⊢
 cases l7 with
 | nil=>
  unfold Zbi at h
  refine SR<|Ac (Zj rfl rfl (vt rfl) (vt rfl)) rfl<|Nl<|sq<|Cn rfl (fun hc=>absurd (of_decide_eq_true hc) hsf1.nil) (fun hc=>?_)
  refine xt<|SR<|Mw rfl<|Aw rfl<|Nl<|AW.freezes [2,3,22] 1001 rfl ⟨rfl,rfl,rfl,trivial⟩ rfl<|rt ?_
  cases h;exact Zd Tryz.results137 rfl (Z5 rfl)
 | cons x8 l7=>
  unfold Zbi at h
  refine SR<|Ac (Zj rfl rfl (vt rfl) (vt rfl)) rfl<|Nl<|sq<|Cn rfl (fun hc=>?_) (fun hc=>absurd hsf1.cons (of_decide_eq_false hc))
  have hlti6:=of_decide_eq_true hc
  refine sk<|sq<|bk<|SR<|Md rfl<|Ac (Z0k rfl rfl Z3q (vt rfl) (vt rfl) hsf1.lget) rfl<|Lp1 Z9j rfl<|Cv rfl (Zm 6 rfl rfl Z6p) fun g9=>As rfl<|Zg Z9j 6 rfl<|Nl ?_
  obtain ⟨x10,hx10,h⟩:=Z7 h
  refine Rg<|Mw rfl<|Md rfl<|Zk lRule_0 Zmp rfl<|Ld Z02 6 rfl<|Ac (Z22 1001 rfl rfl Z4l (vt rfl) rfl (vt rfl) hx10) rfl<|Ac (Z2w 1001 rfl rfl Z02 (vt rfl) rfl (Z0m hx10).2 (vt rfl)) rfl<|Nl<|Rg<|Ac (Z12 (t:=10) rfl rfl (vt rfl) (vk rfl) (vt rfl) hlti6) rfl<|Md rfl<|Nl ?_
  exact ⟨(_,_,_),Nat.lt_succ_self _,⟨hsf1.next,h⟩,FX rfl⟩
def Zf9 (l1:(List Rule))(i2:Int)(m3:Int):Option (Z16×Bool×Int):=
 (bif ((decide (i2<0))||(decide (i2≥(l1.length:Int)))) then some ((Vector.replicate 24 Z0p),false,6) else (Zjh l1).bind fun x5=>(lget x5 i2).bind fun x6=>(Z45 x5 i2).bind fun s7=>(Zfw x6 s7 m3).bind fun x8=>some (x8.1,x8.2.1,x8.2.2))
theorem Ydd:Q3 Tryz.prog 68 (rd (Z1 Z09)) (rd (Z0 .i64)) (rd (Z0 .i64)) (fun r=>Z49 (rd (Z3 24 Zn) r.1) (rd Z6 r.2.1) (rd (Z0 .i64) r.2.2)) Zf9:=fun l1 i2 m3 r h=>I0 Tryz.func68 rfl Tryz.ntmps68 rfl fun w H Z=>by
 unfold Zf9 at h
 refine SR<|Cv rfl (Zm 7 rfl rfl Z53) fun g4=>Ab rfl<|Ak rfl<|Nl<|sq<|SR<|Md rfl<|Ac (Zj rfl rfl (vt rfl) (vk rfl)) rfl<|Md rfl<|Gd rfl (fun hq=>Zq (A:=rd (Z0 .i64) i2) rfl rfl (vt rfl))<|Gd rfl (fun hq=>Zq (A:=rd (Z1 Z09) l1) rfl rfl (vt rfl))<|Gd rfl (fun hq=>Z0i rfl rfl Z3q (Zi rfl hq))<|Gd rfl (fun hq=>Z3v rfl rfl (Zi rfl hq) (Zi rfl hq))<|Ac (Z3j rfl rfl (vt rfl) (vt rfl)) rfl<|Nl<|Cq rfl h (fun h=>?_) (fun h=>?_)
 ·refine SR<|Ac (Z1m (ps:=[]) (x:=(Vector.replicate 24 Z0p)) rfl rfl rfl (by kernel_rfl) Z53 rfl) rfl<|Zg Z17 7 rfl<|Ab rfl<|Ak rfl<|Nl<|rt ?_
  cases h;exact Zj4 Tryz.results68 rfl (Zx rfl (i:=7) rfl Z17) (Z5 rfl) (Z5 rfl)
 ·refine sk<|sq ?_
  obtain ⟨x5,hx5,h⟩:=Z7 h
  refine Rg<|Md rfl<|Cl [19] (Yfh _ _ hx5) Yh1 rfl<|As rfl<|Nl<|sq ?_
  obtain ⟨x6,hx6,s7,hs7,x8,hx8,h⟩:=bs3 h
  refine AR Z00 (by kernel_rfl)<|Zt rfl<|Zt rfl<|Sd (lo [21,22] [] rfl fun S hs hr=>Z0k rfl rfl Z4l (vh hs 21 rfl rfl) (vh hs 22 rfl rfl) hx6)<|SLp Z02 rfl<|Zt rfl<|Zt rfl<|Zt rfl<|Sd (lo [25,26,27] [] rfl fun S hs hr=>Zvu hs7 rfl rfl Z4l (vh hs 25 rfl rfl) (vh hs 26 rfl rfl) (vh hs 27 rfl rfl))<|Zt rfl<|Sd (lo [24,28,29] [] rfl fun S hs hr=>Z0c (xs:=[.tmp 24,.tmp 28,.tmp 29]) (Y2l _ _ _ _ hx8) Y8k rfl rfl ⟨vt ((hs 24 rfl).trans rfl),Yk8 (vh hs 28 rfl rfl),vt ((hs 29 rfl).trans rfl),trivial⟩)<|Sd (lo [30] [] rfl fun S hs hr=>Zgc rfl rfl (vh hs 30 rfl rfl))<|Sd (lo [30] [] rfl fun S hs hr=>Zi6 rfl rfl (vh hs 30 rfl rfl))<|Sd (lo [30] [] rfl fun S hs hr=>Zgo rfl rfl (vh hs 30 rfl rfl))<|SSt Z17 7 rfl<|SAs rfl<|SAs rfl<|Sn<|rt ?_
  cases h;exact Zj4 Tryz.results68 rfl (Zx rfl (i:=7) rfl Z17) (Z5 rfl) (Z5 rfl)
end Go.Proofs.YtinplddjjalohaaGreatDoor.W
set_option maxHeartbeats 1000000
set_option maxRecDepth 4000
namespace Go.Proofs.YtinplddjjalohaaGreatDoor.W
open Go Go.Wb
theorem Yj7:Ent Tryz.prog 229:=Ent.mk Tryz.func229 rfl rfl
theorem Yoe:Ent Tryz.prog 227:=Ent.mk Tryz.func227 rfl rfl
theorem Yrx:Ent Tryz.prog 138:=Ent.mk Tryz.func138 rfl rfl
theorem Yml:Ent Tryz.prog 177:=Ent.mk Tryz.func177 rfl rfl
def Zbo (x2:Z16):(List Tern)→Nat→Option Bool
 | [],i5=>some true
 | x7::l6,i5=>(chk 24 (i5:Int)).bind fun j9=>(Zfy x7 (Vector.get x2 j9)).bind fun x10=>(bif (!x10) then some false else (Zbo x2 l6) (i5+1))
def Zlh (x1:Za)(x2:Z16):Option Bool:=
 Zbo x2 (Vector.toList x1) 0
theorem Yhj:Q2 Tryz.prog 229 (rd (Z3 24 Z4)) (rd (Z3 24 Zn)) (rd Z6) Zlh:=fun x1 x2 r h=>I0 Tryz.func229 rfl Tryz.ntmps229 rfl fun w H Z=>by
 unfold Zlh at h
 refine SR<|Cv rfl (Zs 3 rfl rfl (vt rfl)) fun g3=>Cv rfl (Zs 4 rfl rfl (vt rfl)) fun g4=>Ab rfl<|Nl<|sq<|SR<|Ld Z02 3 rfl<|Mk rfl<|Nl<|bk<|LG (d:=[]) (ν:=(List Tern)×Nat) (fun (l6,i5)=>(Sfx (Vector.toList x1) i5 l6∧Zbo x2 l6 i5=some r,l6.length,[(3,Zc g4 (Lens.id (Z3 24 Zn))),(7,rd (Z3 24 Z4) x1),(8,rd (Z0 .i64) (i5:Int))],[(4,Zh g4 31 (Z3 24 Zn) x2)])) ((Vector.toList x1),0) ⟨Sfx.start _,h⟩ (FX rfl) ?_
 rintro ⟨l6,i5⟩ ⟨hsf1,h⟩
 dsimp only at hsf1 h ⊢
 cases l6 with
 | nil=>
  unfold Zbo at h
  refine SR<|Ac (Zj rfl rfl (vt rfl) (vk rfl)) rfl<|Nl<|sq<|Cn rfl (fun hc=>absurd (of_decide_eq_true hc) (hsf1.niln (by simp))) (fun hc=>?_)
  refine xt<|SR<|Ab rfl<|Nl<|rt ?_
  cases h;exact Zd Tryz.results229 rfl (Z5 rfl)
 | cons x7 l6=>
  unfold Zbo at h
  refine SR<|Ac (Zj rfl rfl (vt rfl) (vk rfl)) rfl<|Nl<|sq<|Cn rfl (fun hc=>?_) (fun hc=>absurd (hsf1.consn (by simp)) (of_decide_eq_false hc))
  have hlti5:=of_decide_eq_true hc
  refine sk<|sq<|bk<|SR<|Md rfl<|Ac (Z8d rfl rfl Z2l Z01 (vt rfl) (vt rfl) hsf1.lget) rfl<|Cv rfl (Zm 7 rfl rfl Z1n) fun g8=>As rfl<|Zg Z01 7 rfl<|Nl<|sq ?_
  obtain ⟨j9,hj9,x10,hx10,h⟩:=bs2 h
  refine AR Z00 (by kernel_rfl)<|Zo Z01 7 rfl<|Zt rfl<|Sd (lo [3,13] [] rfl fun S hs hr=>Z13 rfl rfl Zo9 (vh hs 3 rfl rfl) (vh hs 13 rfl rfl) hj9)<|Zo Zw 4 rfl<|SCl [12,15] (Zya _ _ _ hx10) Zsq rfl<|Sd (lo [16] [] rfl fun S hs hr=>Z0y rfl rfl (vh hs 16 rfl rfl))<|Sn<|Cq rfl h (fun h=>?_) (fun h=>?_)
  ·refine SR<|Ab rfl<|Nl<|rt ?_
   cases h;exact Zd Tryz.results229 rfl (Z5 rfl)
  ·refine sk<|Rg<|Ac (Z5f rfl rfl (vt rfl) (vk rfl) rfl hlti5) rfl<|Md rfl<|Nl ?_
   exact ⟨(_,_),Nat.lt_succ_self _,⟨hsf1.next,h⟩,FX rfl⟩
def Zc0 (sg:Type)(x3:(List Flow))(x4:Z16)(y1:(sg→Int→Option (Lp sg))):(List Int)→Nat→(Lp sg)→Option (Lp sg)
 | [],i8,s7=>some s7
 | x10::l9,i8,s7=>(lget x3 x10).bind fun x11=>(Zev x11).bind fun x12=>(Zlh x12 x4).bind fun x13=>(bif (!x13) then (Zc0 sg x3 x4 y1 l9) (i8+1) s7 else (yc y1 s7 x10).bind fun s14=>(bif (!(Lp.isGo s14)) then some s14 else (Zc0 sg x3 x4 y1 l9) (i8+1) s14))
def Zei (sg:Type)(y1:(sg→Int→Option (Lp sg)))(s2:(Lp sg))(x3:(List Flow))(x4:Z16):Option (Lp sg):=
 (Zhw x3).bind fun x5=>Zc0 sg x3 x4 y1 x5 0 s2
theorem Yt4 (sg:Type)(y1:(sg→Int→Option (Lp sg)))(L:Lp sg→Zu)(s2:(Lp sg))(x3:(List Flow))(x4:Z16)(r:(Lp sg))(h:Zei sg y1 s2 x3 x4=some r):Con Tryz.prog 227 [ydA Tryz.prog (Z0 .i64) y1 L,rp (Z1 Z03) x3,rp (Z3 24 Zn) x4] (L s2) (fun _:Unit=>top) (fun _=>L r):=by
 refine Con.intro Tryz.func227 rfl Tryz.ntmps227 rfl fun w H X Z=>?_
 unfold Zei at h
 refine AW.scope<|sq<|AW.label<|sq ?_
 obtain ⟨x5,hx5,h⟩:=Z7 h
 refine Rg<|Lp1 Z38 rfl<|Cl [6] (Y44 _ _ hx5) Y74 rfl<|Ac (Z0i rfl rfl Z11 (vt rfl)) rfl<|Mk rfl<|Nl<|bk<|LG (d:=[]) (ν:=(List Int)×Nat×(Lp sg)) (fun (l9,i8,s7)=>(Sfx x5 i8 l9∧Zc0 sg x3 x4 y1 l9 i8 s7=some r,l9.length,[(0,ydA Tryz.prog (Z0 .i64) y1 L),(1,rp (Z1 Z03) x3),(2,rp (Z3 24 Zn) x4),(7,rd (Z1 (Z0 .i64)) x5),(8,rd (Z0 .i64) (x5.length:Int)),(9,rd (Z0 .i64) (i8:Int))],[(0,L s7)])) (x5,0,s2) ⟨Sfx.start _,h⟩ (FX rfl) ?_
 rintro ⟨l9,i8,s7⟩ ⟨hsf1,h⟩
 dsimp only at hsf1 h ⊢
 cases l9 with
 | nil=>
  unfold Zc0 at h
  refine SR<|Ac (Zj rfl rfl (vt rfl) (vt rfl)) rfl<|Nl<|sq<|Cn rfl (fun hc=>absurd (of_decide_eq_true hc) hsf1.nil) (fun hc=>?_)
  refine xt ?_
  cases h;exact Z2d (i:=0) Tryz.results227 rfl rfl
 | cons x10 l9=>
  unfold Zc0 at h
  refine SR<|Ac (Zj rfl rfl (vt rfl) (vt rfl)) rfl<|Nl<|sq<|Cn rfl (fun hc=>?_) (fun hc=>absurd hsf1.cons (of_decide_eq_false hc))
  have hlti8:=of_decide_eq_true hc
  refine sk<|sq<|bk<|SR<|Ac (Z0k rfl rfl Z11 (vt rfl) (vt rfl) hsf1.lget) rfl<|Lp1 Zp rfl<|As rfl<|Nl<|sq<|sq ?_
  obtain ⟨x11,hx11,x12,hx12,x13,hx13,h⟩:=bs3 h
  refine AR Z00 (by kernel_rfl)<|SLp Z38 rfl<|Zt rfl<|Sd (lo [13,14] [] rfl fun S hs hr=>Z0k rfl rfl Z2e (vh hs 13 rfl rfl) (vh hs 14 rfl rfl) hx11)<|SLp Z2b rfl<|SCl [16] (Zvi _ _ hx12) Ztl rfl<|SLp Z17 rfl<|SCl [17,18] (Yhj _ _ _ hx13) Yj7 rfl<|Sd (lo [19] [] rfl fun S hs hr=>Z0y rfl rfl (vh hs 19 rfl rfl))<|Sn<|Cq rfl h (fun h=>?_) (fun h=>?_)
  ·refine xt<|Rg<|Ac (Z12 (t:=8) rfl rfl (vt rfl) (vk rfl) (vt rfl) hlti8) rfl<|Md rfl<|Nl ?_
   exact ⟨(_,_,_),Nat.lt_succ_self _,⟨hsf1.next,h⟩,FX rfl⟩
  ·refine sk<|sq ?_
   obtain ⟨s14,hs14,h⟩:=Z7 h
   refine Rg<|Ac (Zq (A:=ydA Tryz.prog (Z0 .i64) y1 L) rfl rfl (vt rfl)) rfl<|Md rfl<|Ac (Zku 0 hs14 rfl rfl (vt rfl) (vt rfl) rfl) rfl<|Ac (Z0y rfl rfl (vt rfl)) rfl<|Nl<|Cq rfl h (fun h=>?_) (fun h=>?_)
   ·refine xt ?_
    cases h;exact Z2d (i:=0) Tryz.results227 rfl rfl
   ·refine sk<|Rg<|Ac (Z12 (t:=8) rfl rfl (vt rfl) (vk rfl) (vt rfl) hlti8) rfl<|Md rfl<|Nl ?_
    exact ⟨(_,_,_),Nat.lt_succ_self _,⟨hsf1.next,h⟩,FX rfl⟩
def Zqw (t1:(List Flow))(x2:Z16):Option (Itr Int):=
 some (Itr.mk fun σ y s=>Zei σ y s t1 x2)
theorem Yvj:Q2 Tryz.prog 138 (rd (Z1 Z03)) (rd (Z3 24 Zn)) (Z5c Tryz.prog (Z0 .i64)) Zqw:=fun t1 x2 r h=>I0 Tryz.func138 rfl Tryz.ntmps138 rfl fun w H Z=>by
 unfold Zqw at h
 refine SR<|Cv rfl (Zs 3 rfl rfl (vt rfl)) fun g3=>Cv rfl (Zs 4 rfl rfl (vt rfl)) fun g4=>Ac (Zv (A:=Zb .nilFunc) rfl rfl vc) rfl<|Nl<|sq<|AW.freezeB 2 3 rfl rfl rfl<|AW.freezeB 3 4 rfl rfl rfl<|Rg<|Ac (Ztr (Itr.mk fun σ y s=>Zei σ y s t1 x2) (cs:=[.tmp 2,.tmp 3]) (CAs:=[rp (Z1 Z03) t1,rp (Z3 24 Zn) x2]) rfl rfl Yoe ⟨vt rfl,vt rfl,trivial⟩ (fun σ y L s r h=>Yt4 σ y L s t1 x2 r h)) rfl<|Ac (Zv (A:=Z5c Tryz.prog (Z0 .i64) (Itr.mk fun σ y s=>Zei σ y s t1 x2)) rfl rfl (vt rfl)) rfl<|Nl<|rt ?_
 cases h;exact Zd Tryz.results138 rfl (Z5 rfl)
def Zmn (b7:Int)(b8:Bool)(x10:Int):Option (Lp (Int×Bool)):=
 some (.out .ret (x10,true))
def Zmb (t1:(List Flow))(x2:Z16):Option (Int×Bool):=
 (Zqw t1 x2).bind fun x6=>(Itr.run x6 (Int×Bool) (fun s x=>Zmn s.1 s.2 x) (.go (0,false))).bind fun z9=>Y18 z9 (fun s11=>some (0,false)) (fun c s11=>bif Zr3 c then some (s11.1,s11.2) else none)
theorem Yqn:Q2 Tryz.prog 69 (rd (Z1 Z03)) (rd (Z3 24 Zn)) (fun r=>Z10 (rd (Z0 .i64) r.1) (rd Z6 r.2)) Zmb:=fun t1 x2 r h=>I0 Tryz.func69 rfl Tryz.ntmps69 rfl fun w H Z=>by
 unfold Zmb at h
 refine SR<|Cv rfl (Zs 4 rfl rfl (vt rfl)) fun g3=>Cv rfl (Zm 5 rfl rfl zr3) fun g4=>Cv rfl (Zm 6 rfl rfl zr4) fun g5=>Nl<|sq<|sq ?_
 obtain ⟨x6,hx6,h⟩:=Z7 h
 refine Rg<|Md rfl<|Ld Z17 4 rfl<|Cl [7,8] (Yvj _ _ _ hx6) Yrx rfl<|Nl<|bk ?_
 obtain ⟨z9,hz9,h⟩:=Z7 h
 refine AW.fit (d:=[]) (L:=[(4,Zc g4 (Lens.id (Z0 .i64))),(5,Zc g5 (Lens.id Z6)),(9,Z5c Tryz.prog (Z0 .i64) x6)]) (M:=[(5,Zh g4 3 (Z0 .i64) 0),(6,Zh g5 4 Z6 false)]) (FX rfl) ?_
 refine AW.rangeFunc (σ:=Int×Bool) (fun x=>[rd (Z0 .i64) x]) (fun s x=>Zmn s.1 s.2 x) (fun s=>Z41 ((fun s=>[(5,Zh g4 3 (Z0 .i64) s.1),(6,Zh g5 4 Z6 s.2)]) s)) (fun _ s=>Z41 ((fun s=>[(5,Zh g4 3 (Z0 .i64) s.1),(6,Zh g5 4 Z6 s.2)]) s)) [(4,Zc g4 (Lens.id (Z0 .i64))),(5,Zc g5 (Lens.id Z6))] (fun s x10 S1=>Fit S1 [] [(4,Zc g4 (Lens.id (Z0 .i64))),(5,Zc g5 (Lens.id Z6)),(6,rd (Z0 .i64) x10)] [(5,Zh g4 3 (Z0 .i64) s.1),(6,Zh g5 4 Z6 s.2)]) 3001 (s0:=(0,false)) (sE:=z9) rfl (vt rfl) ⟨rfl,inferInstance,rfl,inferInstance,trivial⟩ rfl (fun _=>rfl) (by intro p hp;have hp:p∈[10]:=hp;rw [List.mem_singleton.1 hp];show 10<12;decide) ?ha1 ?hb1 (fun Lf=>⟨top,_,_,Lf,_,_,hz9,rfl,rfl,rfl,rfl⟩) ?he1
 case ha1=>
  rintro ⟨b7,b8⟩ x10 r hF l w H X Z
  refine Rg<|As rfl<|Nl ?_
  exact ⟨rfl,FX rfl⟩
 case hb1=>
  rintro ⟨b7,b8⟩ x10 r h S1 hfit l w H X Z
  refine AW.fit (d:=[]) (L:=[(4,Zc g4 (Lens.id (Z0 .i64))),(5,Zc g5 (Lens.id Z6)),(6,rd (Z0 .i64) x10)]) (M:=[(5,Zh g4 3 (Z0 .i64) b7),(6,Zh g5 4 Z6 b8)]) hfit<|AW.bodyT ?_
  change Zmn b7 b8 x10=some r at h
  unfold Zmn at h
  refine bk<|SR<|Md rfl<|Zg Zp 5 rfl<|Ac (Z6y rfl rfl ty4 (vt rfl) (i:=6) rfl vb) rfl<|Nl<|rt ?_
  obtain rfl:=si h
  exact ⟨_,(x10,true),Turn.refl,rfl,⟨rfl,rfl,trivial⟩⟩
 case he1=>
  intro D
  cases z9 with
  | go s11=>
   change _=some r at h
   refine SR<|Ac (Z6y rfl rfl Zp (vt rfl) (i:=5) rfl (vk rfl)) rfl<|Ac (Z6y rfl rfl ty4 (vt rfl) (i:=6) rfl vb) rfl<|Nl<|rt ?_
   cases h;exact ⟨rfl,3001,_,rfl,Z1d Tryz.results69 rfl (Zx rfl (i:=5) rfl Zp) (Zx rfl (i:=6) rfl ty4)⟩
  | out c s11=>
   change (bif Zr3 c then _ else _)=some r at h
   cases hc:Zr3 c with
   | true=>
    rw [hc] at h
    have hc:=Yjn hc
    subst hc
    change _=some r at h
    refine rt ?_
    cases h;exact ⟨rfl,3001,_,rfl,Z1d Tryz.results69 rfl (Zx rfl (i:=5) rfl Zp) (Zx rfl (i:=6) rfl ty4)⟩
   | false=>
    rw [hc] at h
    cases h
def Zmz (a1:Action):Option Int:=
 (bif (decide (a1.Port=4294967293)) then some a1.Max else some 0)
theorem Yd2:Q1 Tryz.prog 313 (rd Z9) (rd (Z0 .i64)) Zmz:=fun a1 r h=>I0 Tryz.func313 rfl Tryz.ntmps313 rfl fun w H Z=>by
 unfold Zmz at h
 refine SR<|Cv rfl (Zs 2 rfl rfl (vt rfl)) fun g2=>Ak rfl<|Nl<|sq<|SR<|Zk Zh5 Zli rfl<|Ld Zp 2 rfl<|Ac (Z0j rfl rfl (vt rfl) (vk rfl)) rfl<|Nl<|Cq rfl h (fun h=>?_) (fun h=>?_)
 ·refine SR<|Zk Zrp Zyj rfl<|Ld Zp 2 rfl<|As rfl<|Nl<|rt ?_
  cases h;exact Zd Tryz.results313 rfl (Z5 rfl)
 ·refine sk<|SR<|Ak rfl<|Nl<|rt ?_
  cases h;exact Zd Tryz.results313 rfl (Z5 rfl)
def Zkg (x1:Group)(x2:Int):Option Bool:=
 some (decide (x1.ID=x2))
theorem Yvd:Q2 Tryz.prog 177 (rd Z0d) (rp (Z0 .i64)) (rd Z6) Zkg:=fun x1 x2 r h=>I0 Tryz.func177 rfl Tryz.ntmps177 rfl fun w H Z=>by
 unfold Zkg at h
 refine SR<|Cv rfl (Zs 3 rfl rfl (vt rfl)) fun g3=>Ab rfl<|Nl<|SR<|Zk lGroup_0 Zyk rfl<|Ld Zp 3 rfl<|Lp1 Zp rfl<|Ac (Z0j rfl rfl (vt rfl) (vt rfl)) rfl<|As rfl<|Nl<|rt ?_
 cases h;exact Zd Tryz.results177 rfl (Z5 rfl)
def Zfg (l1:(List Group))(i2:Int):Option Int:=
 (Zj1 l1 (fun x=>Zkg x i2)).bind fun x4=>some x4
theorem Zvj:Q2 Tryz.prog 102 (rd (Z1 Z0d)) (rd (Z0 .i64)) (rd (Z0 .i64)) Zfg:=fun l1 i2 r h=>I0 Tryz.func102 rfl Tryz.ntmps102 rfl fun w H Z=>by
 unfold Zfg at h
 refine SR<|Cv rfl (Zs 4 rfl rfl (vt rfl)) fun g3=>Ak rfl<|Nl<|sq<|AW.freezeB 3 4 rfl rfl rfl ?_
 obtain ⟨x4,hx4,h⟩:=Z7 h
 refine Rg<|Md rfl<|Ac (Z9b (cs:=[.tmp 3]) (CAs:=[rp (Z0 .i64) i2]) (fun x=>Zkg x i2) rfl rfl Yml ⟨vt rfl,trivial⟩ (fun x y h=>Yvd _ _ y h)) rfl<|Cl [5,6] (Yal _ _ _ hx4) Y45 rfl<|As rfl<|Nl<|rt ?_
 cases h;exact Zd Tryz.results102 rfl (Z5 rfl)
def Zrc (s:List Group):Option (List Group):=Z0v [] s
theorem Ymq (s:List Group)(r:List Group)(h:Zrc s=some r):Con Tryz.prog 336 [rd (Z1 Z0d) s] emp (fun v=>Zb v) (fun v=>Zf v 71 Z0d r):=by
 refine Con.intro0 Tryz.func336 rfl Tryz.ntmps336 rfl fun w H Z=>?_
 unfold Zrc at h
 refine AW.newnil 1001 71 Z0d<|SR<|Ac (Zv (A:=Zb (.slice none 0 0)) rfl rfl vc) rfl<|Nl<|sq<|SR<|Md rfl<|Ct rfl (Zbx rfl rfl Z55 (vt rfl)) ?_
 rintro _ ⟨b,hb,rfl⟩
 refine Nl<|Cn rfl (fun hc=>?_) (fun hc=>?_)
 ·obtain rfl:=hb hc
  refine SR<|Ac (Zv (A:=Zb (.slice none 0 0)) rfl rfl vc) rfl<|Nl<|rt ?_
  obtain rfl:=(Z7c h).2
  exact Z3m (i:=1001) Tryz.results336 rfl rfl rfl
 ·refine sk<|SR<|Cv rfl (Z4q 1002 (ps:=[]) (l:=[]) rfl rfl Z55 Zcl rfl rfl rfl rfl) fun v1=>Md rfl<|Cv rfl (Z29 1002 h rfl rfl Yd1 (vt rfl) rfl (vt rfl)) fun v2=>Aw rfl<|Nl<|rt ?_
  exact Z3m (i:=1002) Tryz.results336 rfl rfl rfl
def Zp0 (s:List Bucket):Option (List Bucket):=Z0v [] s
theorem Yt5 (s:List Bucket)(r:List Bucket)(h:Zp0 s=some r):Con Tryz.prog 372 [rd (Z1 Z1y) s] emp (fun v=>Zb v) (fun v=>Zf v 168 Z1y r):=by
 refine Con.intro0 Tryz.func372 rfl Tryz.ntmps372 rfl fun w H Z=>?_
 unfold Zp0 at h
 refine AW.newnil 1001 168 Z1y<|SR<|Ac (Zv (A:=Zb (.slice none 0 0)) rfl rfl vc) rfl<|Nl<|sq<|SR<|Md rfl<|Ct rfl (Zbx rfl rfl Z6d (vt rfl)) ?_
 rintro _ ⟨b,hb,rfl⟩
 refine Nl<|Cn rfl (fun hc=>?_) (fun hc=>?_)
 ·obtain rfl:=hb hc
  refine SR<|Ac (Zv (A:=Zb (.slice none 0 0)) rfl rfl vc) rfl<|Nl<|rt ?_
  obtain rfl:=(Z7c h).2
  exact Z3m (i:=1001) Tryz.results372 rfl rfl rfl
 ·refine sk<|SR<|Cv rfl (Z4q 1002 (ps:=[]) (l:=[]) rfl rfl Z6d Y6w rfl rfl rfl rfl) fun v1=>Md rfl<|Cv rfl (Z29 1002 h rfl rfl Ype (vt rfl) rfl (vt rfl)) fun v2=>Aw rfl<|Nl<|rt ?_
  exact Z3m (i:=1002) Tryz.results372 rfl rfl rfl
end Go.Proofs.YtinplddjjalohaaGreatDoor.W
set_option maxHeartbeats 1000000
set_option maxRecDepth 4000
namespace Go.Proofs.YtinplddjjalohaaGreatDoor.W
open Go Go.Wb
theorem Ye5:Ent Tryz.prog 372:=Ent.mk Tryz.func372 rfl rfl
theorem Yo4:Ent Tryz.prog 336:=Ent.mk Tryz.func336 rfl rfl
theorem Yrr:Ent Tryz.prog 337:=Ent.mk Tryz.func337 rfl rfl
theorem Zz0:Ent Tryz.prog 102:=Ent.mk Tryz.func102 rfl rfl
theorem Ysz:Ent Tryz.prog 271:=Ent.mk Tryz.func271 rfl rfl
theorem Ygm:Ent Tryz.prog 399:=Ent.mk Tryz.func399 rfl rfl
theorem Yfr:Ent Tryz.prog 396:=Ent.mk Tryz.func396 rfl rfl
theorem Ysw:Ent Tryz.prog 395:=Ent.mk Tryz.func395 rfl rfl
theorem Ybl:Ent Tryz.prog 383:=Ent.mk Tryz.func383 rfl rfl
theorem Yv2:Ent Tryz.prog 384:=Ent.mk Tryz.func384 rfl rfl
def Zbb:Nat→Nat→(List Bucket)→Option (List Bucket)
 | 0,i6,l5=>some l5
 | m7+1,i6,l5=>(lget l5 (i6:Int)).bind fun x8=>(Z6r x8.Acts).bind fun x9=>(lget l5 (i6:Int)).bind fun x10=>(Zbb m7) (i6+1) (List.set l5 (i6:Int).toNat {x10 with Acts:=x9})
def Zkd (l1:(List Bucket)):Option (List Bucket):=
 (Zp0 l1).bind fun x2=>Zbb ((x2.length:Int):Int).toNat 0 x2
theorem Ysx:Q1 Tryz.prog 337 (rd (Z1 Z1y)) (rd (Z1 Z1y)) Zkd:=fun l1 r h=>I0 Tryz.func337 rfl Tryz.ntmps337 rfl fun w H Z=>by
 unfold Zkd at h
 refine SR<|Ac (Zv (A:=rd (Z1 Z1y) []) rfl rfl Z1f) rfl<|Nl<|sq ?_
 obtain ⟨x2,hx2,h⟩:=Z7 h
 refine Rg<|Md rfl<|Cv rfl (Z1a 1001 (xs:=[.tmp 5]) (Yt5 _ _ hx2) Ye5 rfl rfl ⟨vt rfl,trivial⟩ rfl) fun v3=>Aw rfl<|Nl<|sq<|SR<|Mw rfl<|Ac (Z4k 1001 rfl rfl Z6d (vt rfl) rfl) rfl<|Mk rfl<|Nl<|bk<|LG (d:=[]) (ν:=Nat×Nat×(List Bucket)) (fun (m7,i6,l5)=>(Cnt (x2.length:Int) i6 m7∧Zbb m7 i6 l5=some r,m7,[(3,Zb v3),(8,rd (Z0 .i64) (x2.length:Int)),(9,rd (Z0 .i64) (i6:Int))],[(1001,Zf v3 168 Z1y l5)])) (((x2.length:Int):Int).toNat,0,x2) ⟨Cnt.start _,h⟩ (FX rfl) ?_
 rintro ⟨m7,i6,l5⟩ ⟨hsf1,h⟩
 dsimp only at hsf1 h ⊢
 cases m7 with
 | zero=>
  unfold Zbb at h
  refine SR<|Ac (Zj rfl rfl (vt rfl) (vt rfl)) rfl<|Nl<|sq<|Cn rfl (fun hc=>absurd (of_decide_eq_true hc) hsf1.zero) (fun hc=>?_)
  refine xt<|SR<|Mw rfl<|Aw rfl<|Nl<|AW.freezes [2,3,23] 1001 rfl ⟨rfl,rfl,rfl,trivial⟩ rfl<|rt ?_
  cases h;exact Zd Tryz.results337 rfl (Z5 rfl)
 | succ m7=>
  unfold Zbb at h
  refine SR<|Ac (Zj rfl rfl (vt rfl) (vt rfl)) rfl<|Nl<|sq<|Cn rfl (fun hc=>?_) (fun hc=>absurd hsf1.succ (of_decide_eq_false hc))
  have hlti6:=of_decide_eq_true hc
  refine sk<|sq<|bk<|SR<|Md rfl<|As rfl<|Nl ?_
  obtain ⟨x8,hx8,x9,hx9,x10,hx10,h⟩:=bs3 h
  refine Rg<|Mw rfl<|Md rfl<|Mw rfl<|Md rfl<|Ac (Z22 1001 rfl rfl Z6d (vt rfl) rfl (vt rfl) hx8) rfl<|Ac (Z8v Zg5 rfl rfl Zjn (vt rfl)) rfl<|Ac (Z1q 1001 rfl rfl Z2z (vt rfl) rfl (Z0m hx8).2) rfl<|Cl [18] (Zsr _ _ hx9) Zka rfl<|Ac (Z22 1001 rfl rfl Z6d (vt rfl) rfl (vt rfl) hx10) rfl<|Ac (Z8v Zg5 rfl rfl Zjn (vt rfl)) rfl<|Ac (Z2w 1001 rfl rfl Z2z (vt rfl) rfl (Z0m hx10).2 (vt rfl)) rfl<|Nl<|Rg<|Ac (Z12 (t:=8) rfl rfl (vt rfl) (vk rfl) (vt rfl) hlti6) rfl<|Md rfl<|Nl ?_
  exact ⟨(_,_,_),Nat.lt_succ_self _,⟨hsf1.next,h⟩,FX rfl⟩
def Zeg:Nat→Nat→(List Group)→Option (List Group)
 | 0,i6,l5=>some l5
 | m7+1,i6,l5=>(lget l5 (i6:Int)).bind fun x8=>(Zkd x8.Buckets).bind fun x9=>(lget l5 (i6:Int)).bind fun x10=>(Zeg m7) (i6+1) (List.set l5 (i6:Int).toNat {x10 with Buckets:=x9})
def Zni (l1:(List Group)):Option (List Group):=
 (Zrc l1).bind fun x2=>Zeg ((x2.length:Int):Int).toNat 0 x2
theorem Ye1:Q1 Tryz.prog 271 (rd (Z1 Z0d)) (rd (Z1 Z0d)) Zni:=fun l1 r h=>I0 Tryz.func271 rfl Tryz.ntmps271 rfl fun w H Z=>by
 unfold Zni at h
 refine SR<|Ac (Zv (A:=rd (Z1 Z0d) []) rfl rfl Z1f) rfl<|Nl<|sq ?_
 obtain ⟨x2,hx2,h⟩:=Z7 h
 refine Rg<|Md rfl<|Cv rfl (Z1a 1001 (xs:=[.tmp 5]) (Ymq _ _ hx2) Yo4 rfl rfl ⟨vt rfl,trivial⟩ rfl) fun v3=>Aw rfl<|Nl<|sq<|SR<|Mw rfl<|Ac (Z4k 1001 rfl rfl Z55 (vt rfl) rfl) rfl<|Mk rfl<|Nl<|bk<|LG (d:=[]) (ν:=Nat×Nat×(List Group)) (fun (m7,i6,l5)=>(Cnt (x2.length:Int) i6 m7∧Zeg m7 i6 l5=some r,m7,[(3,Zb v3),(8,rd (Z0 .i64) (x2.length:Int)),(9,rd (Z0 .i64) (i6:Int))],[(1001,Zf v3 71 Z0d l5)])) (((x2.length:Int):Int).toNat,0,x2) ⟨Cnt.start _,h⟩ (FX rfl) ?_
 rintro ⟨m7,i6,l5⟩ ⟨hsf1,h⟩
 dsimp only at hsf1 h ⊢
 cases m7 with
 | zero=>
  unfold Zeg at h
  refine SR<|Ac (Zj rfl rfl (vt rfl) (vt rfl)) rfl<|Nl<|sq<|Cn rfl (fun hc=>absurd (of_decide_eq_true hc) hsf1.zero) (fun hc=>?_)
  refine xt<|SR<|Mw rfl<|Aw rfl<|Nl<|AW.freezes [2,3,23] 1001 rfl ⟨rfl,rfl,rfl,trivial⟩ rfl<|rt ?_
  cases h;exact Zd Tryz.results271 rfl (Z5 rfl)
 | succ m7=>
  unfold Zeg at h
  refine SR<|Ac (Zj rfl rfl (vt rfl) (vt rfl)) rfl<|Nl<|sq<|Cn rfl (fun hc=>?_) (fun hc=>absurd hsf1.succ (of_decide_eq_false hc))
  have hlti6:=of_decide_eq_true hc
  refine sk<|sq<|bk<|SR<|Md rfl<|As rfl<|Nl ?_
  obtain ⟨x8,hx8,x9,hx9,x10,hx10,h⟩:=bs3 h
  refine Rg<|Mw rfl<|Md rfl<|Mw rfl<|Md rfl<|Ac (Z22 1001 rfl rfl Z55 (vt rfl) rfl (vt rfl) hx8) rfl<|Ac (Z8v Z6f rfl rfl Z6z (vt rfl)) rfl<|Ac (Z1q 1001 rfl rfl Z7l (vt rfl) rfl (Z0m hx8).2) rfl<|Cl [18] (Ysx _ _ hx9) Yrr rfl<|Ac (Z22 1001 rfl rfl Z55 (vt rfl) rfl (vt rfl) hx10) rfl<|Ac (Z8v Z6f rfl rfl Z6z (vt rfl)) rfl<|Ac (Z2w 1001 rfl rfl Z7l (vt rfl) rfl (Z0m hx10).2 (vt rfl)) rfl<|Nl<|Rg<|Ac (Z12 (t:=8) rfl rfl (vt rfl) (vk rfl) (vt rfl) hlti6) rfl<|Md rfl<|Nl ?_
  exact ⟨(_,_,_),Nat.lt_succ_self _,⟨hsf1.next,h⟩,FX rfl⟩
def Zkm (l1:(List Group))(i2:Int):Option (Group×Bool):=
 (Zfg l1 i2).bind fun x4=>(bif (decide (x4<0)) then some ((⟨0,0,[]⟩:Group),false) else (Zic l1 x4 (IntKind.i64.wrap (x4+1))).bind fun s5=>(Zni s5).bind fun x6=>(lget x6 0).bind fun x7=>some (x7,true))
theorem Yux:Q2 Tryz.prog 196 (rd (Z1 Z0d)) (rd (Z0 .i64)) (fun r=>Z10 (rd Z0d r.1) (rd Z6 r.2)) Zkm:=fun l1 i2 r h=>I0 Tryz.func196 rfl Tryz.ntmps196 rfl fun w H Z=>by
 unfold Zkm at h
 refine SR<|Cv rfl (Zm 5 rfl rfl Zcl) fun g3=>Ab rfl<|Nl<|sq ?_
 obtain ⟨x4,hx4,h⟩:=Z7 h
 refine Rg<|Md rfl<|Md rfl<|Cl [7,8] (Zvj _ _ _ hx4) Zz0 rfl<|As rfl<|Nl<|sq<|SR<|Md rfl<|Ac (Zj rfl rfl (vt rfl) (vk rfl)) rfl<|Nl<|Cq rfl h (fun h=>?_) (fun h=>?_)
 ·refine SR<|Ac (opb (⟨0,0,[]⟩:Group) Zcl rfl Y4l (pn rfl)) rfl<|Zg Z6t 5 rfl<|Ab rfl<|Nl<|rt ?_
  cases h;exact Z1d Tryz.results196 rfl (Zx rfl (i:=5) rfl Z6t) (Z5 rfl)
 ·refine sk<|sq ?_
  obtain ⟨s5,hs5,x6,hx6,x7,hx7,h⟩:=bs3 h
  refine Rg<|Md rfl<|Md rfl<|Md rfl<|Ac (Z06 rfl rfl (vt rfl) (vk rfl)) rfl<|Ac (Ygn hs5 rfl rfl Z55 (vt rfl) (vt rfl) (vt rfl)) rfl<|Cl [17] (Ye1 _ _ hx6) Ysz rfl<|Ac (Z0k rfl rfl Z55 (vt rfl) (vk rfl) hx7) rfl<|Lp1 Z6t rfl<|Zg Z6t 5 rfl<|Ab rfl<|Nl<|rt ?_
  cases h;exact Z1d Tryz.results196 rfl (Zx rfl (i:=5) rfl Z6t) (Z5 rfl)
def Zf6 (x1:Env)(n2:Int):Option Int:=
 (bif (decide (n2<1)) then some 0 else (Z8b x1.Turn n2).bind fun q4=>(bif (decide (q4<0)) then some (IntKind.i64.wrap (q4+n2)) else some q4))
theorem Yc3:Q2 Tryz.prog 383 (rd Z2s) (rd (Z0 .i64)) (rd (Z0 .i64)) Zf6:=fun x1 n2 r h=>I0 Tryz.func383 rfl Tryz.ntmps383 rfl fun w H Z=>by
 unfold Zf6 at h
 refine SR<|Cv rfl (Zs 3 rfl rfl (vt rfl)) fun g3=>Ak rfl<|Nl<|sq<|SR<|Md rfl<|Ac (Zj rfl rfl (vt rfl) (vk rfl)) rfl<|Nl<|Cq rfl h (fun h=>?_) (fun h=>?_)
 ·refine SR<|Ak rfl<|Nl<|rt ?_
  cases h;exact Zd Tryz.results383 rfl (Z5 rfl)
 ·refine sk<|sq ?_
  obtain ⟨q4,hq4,h⟩:=Z7 h
  refine Rg<|Zk Zzd Ye4 rfl<|Ld Zp 3 rfl<|Md rfl<|Ac (Zsf rfl rfl (vt rfl) (vt rfl) hq4) rfl<|As rfl<|Nl<|sq<|SR<|Md rfl<|Ac (Zj rfl rfl (vt rfl) (vk rfl)) rfl<|Nl<|Cq rfl h (fun h=>?_) (fun h=>?_)
  ·refine Rg<|Md rfl<|Md rfl<|Ac (Z06 rfl rfl (vt rfl) (vt rfl)) rfl<|As rfl<|Nl<|SR<|Md rfl<|As rfl<|Nl<|rt ?_
   cases h;exact Zd Tryz.results383 rfl (Z5 rfl)
  ·refine sk<|SR<|Md rfl<|As rfl<|Nl<|rt ?_
   cases h;exact Zd Tryz.results383 rfl (Z5 rfl)
def Zkj (s1:(List Int))(x2:Int):Option Bool:=
 (Zf8 s1 x2).bind fun x3=>some (decide (x3≥0))
theorem Ypl:Q2 Tryz.prog 399 (rd (Z1 (Z0 .i64))) (rd (Z0 .i64)) (rd Z6) Zkj:=fun s1 x2 r h=>I0 Tryz.func399 rfl Tryz.ntmps399 rfl fun w H Z=>by
 unfold Zkj at h
 refine SR<|Ab rfl<|Nl<|sq ?_
 obtain ⟨x3,hx3,h⟩:=Z7 h
 refine Rg<|Md rfl<|Md rfl<|Cl [5,6] (Y8n _ _ _ hx3) Y0a rfl<|Ac (Z3v rfl rfl (vt rfl) (vk rfl)) rfl<|As rfl<|Nl<|rt ?_
 cases h;exact Zd Tryz.results399 rfl (Z5 rfl)
def Znk (x1:Env)(p2:Int):Option Bool:=
 (Zkj x1.Down p2).bind fun x4=>some (!x4)
theorem Ymz:Q2 Tryz.prog 396 (rd Z2s) (rd (Z0 .i64)) (rd Z6) Znk:=fun x1 p2 r h=>I0 Tryz.func396 rfl Tryz.ntmps396 rfl fun w H Z=>by
 unfold Znk at h
 refine SR<|Cv rfl (Zs 3 rfl rfl (vt rfl)) fun g3=>Ab rfl<|Nl<|sq ?_
 obtain ⟨x4,hx4,h⟩:=Z7 h
 refine Rg<|Zk Y77 Yg8 rfl<|Ld Yqb 3 rfl<|Md rfl<|Cl [6,7] (Ypl _ _ _ hx4) Ygm rfl<|Ac (Z0y rfl rfl (vt rfl)) rfl<|As rfl<|Nl<|rt ?_
 cases h;exact Zd Tryz.results396 rfl (Z5 rfl)
def Zhu (x1:Bucket)(x2:env_world):Option Bool:=
 (Znk x2.Env x1.Watch).bind fun x4=>some x4
theorem Ypp:Q2 Tryz.prog 395 (rd Z1y) (rp Zcg) (rd Z6) Zhu:=fun x1 x2 r h=>I0 Tryz.func395 rfl Tryz.ntmps395 rfl fun w H Z=>by
 unfold Zhu at h
 refine SR<|Cv rfl (Zs 3 rfl rfl (vt rfl)) fun g3=>Ab rfl<|Nl<|sq ?_
 obtain ⟨x4,hx4,h⟩:=Z7 h
 refine Rg<|Fp lenv_world_0 Y1b rfl<|Lp1 Zh9 rfl<|Zk Y6j Yf8 rfl<|Ld Zp 3 rfl<|Cl [5,7] (Ymz _ _ _ hx4) Yfr rfl<|As rfl<|Nl<|rt ?_
 cases h;exact Zd Tryz.results395 rfl (Z5 rfl)
def Zs8 (w1:env_world):Option Int:=
 (Zgq w1.Group.Buckets (fun x=>Zhu x w1)).bind fun x3=>some x3
theorem Ys4:Q1 Tryz.prog 384 (rd Zcg) (rd (Z0 .i64)) Zs8:=fun w1 r h=>I0 Tryz.func384 rfl Tryz.ntmps384 rfl fun w H Z=>by
 unfold Zs8 at h
 refine SR<|Cv rfl (Zs 2 rfl rfl (vt rfl)) fun g2=>Ak rfl<|Nl<|sq<|AW.freezeB 1 2 rfl rfl rfl ?_
 obtain ⟨x3,hx3,h⟩:=Z7 h
 refine Rg<|Fp lenv_world_1 Zlb rfl<|Fp Z6f Z6z rfl<|Lp1 Z7l rfl<|Ac (Z9b (cs:=[.tmp 1]) (CAs:=[rp Zcg w1]) (fun x=>Zhu x w1) rfl rfl Ysw ⟨vt rfl,trivial⟩ (fun x y h=>Ypp _ _ y h)) rfl<|Cl [5,6] (Y12 _ _ _ hx3) Y4j rfl<|As rfl<|Nl<|rt ?_
 cases h;exact Zd Tryz.results384 rfl (Z5 rfl)
def Zc5:Nat→Nat→(List Int)→Option (List Int)
 | 0,i10,l8=>some l8
 | m11+1,i10,l8=>(Z0v l8 [(i10:Int)]).bind fun l12=>(Zc5 m11) (i10+1) l12
def Zle (x1:Env)(x2:Group):Option (List Int):=
 (bif (decide (((((⟨x1,x2⟩:env_world).Group).Buckets).length:Int)=0)) then some [] else (bif (decide ((((⟨x1,x2⟩:env_world).Group).Kind)=0)) then Zc5 (((((⟨x1,x2⟩:env_world).Group).Buckets).length:Int):Int).toNat 0 [] else (bif (decide ((((⟨x1,x2⟩:env_world).Group).Kind)=1)) then (Zf6 ((⟨x1,x2⟩:env_world).Env) ((((⟨x1,x2⟩:env_world).Group).Buckets).length:Int)).bind fun x14=>some [x14] else (bif (decide ((((⟨x1,x2⟩:env_world).Group).Kind)=2)) then some [0] else (bif (decide ((((⟨x1,x2⟩:env_world).Group).Kind)=3)) then (Zs8 (⟨x1,x2⟩:env_world)).bind fun x15=>(bif (decide (x15≥0)) then some [x15] else some []) else some [])))))
theorem Yha:Q2 Tryz.prog 355 (rd Z2s) (rd Z0d) (rd (Z1 (Z0 .i64))) Zle:=fun x1 x2 r h=>I0 Tryz.func355 rfl Tryz.ntmps355 rfl fun w H Z=>by
 unfold Zle at h
 refine SR<|Cv rfl (Zs 3 rfl rfl (vt rfl)) fun g3=>Cv rfl (Zs 4 rfl rfl (vt rfl)) fun g4=>Ac (Zv (A:=rd (Z1 (Z0 .i64)) []) rfl rfl Z1f) rfl<|Nl<|SR<|Ld Zh9 3 rfl<|Ld Z6t 4 rfl<|Ac (opb (⟨x1,x2⟩:env_world) Y4g rfl Yv6 (pc Ykg (vt rfl)<|pc Yen (vt rfl)<|pn rfl)) rfl<|Cv rfl (Zm 6 rfl rfl Y4g) fun g5=>Zg Y1f 6 rfl<|Nl<|sq<|SR<|Zk lenv_world_1 Zlb rfl<|Zk Z6f Z6z rfl<|Ld Z7l 6 rfl<|Ac (Z0i rfl rfl Z6d (vt rfl)) rfl<|Ac (Z0j rfl rfl (vt rfl) (vk rfl)) rfl<|Nl<|Cq rfl h (fun h=>?_) (fun h=>?_)
 ·refine SR<|Ac (Zv (A:=rd (Z1 (Z0 .i64)) []) rfl rfl Z1f) rfl<|Nl<|rt ?_
  cases h;exact Zd Tryz.results355 rfl (Z5 rfl)
 ·refine sk<|sq<|SR<|Zk lenv_world_1 Zlb rfl<|Zk Zy0 Y81 rfl<|Ld Zp 6 rfl<|Nl<|bk<|SR<|Ac (Z0j rfl rfl (vt rfl) (vk rfl)) rfl<|As rfl<|Nl<|Cq rfl h (fun h=>?_) (fun h=>?_)
  ·refine sq<|AW.newnil 1001 3 (Z0 .i64)<|Rg<|Ac (Zv rfl rfl vc) rfl<|Nl<|sq<|SR<|Zk lenv_world_1 Zlb rfl<|Zk Z6f Z6z rfl<|Ld Z7l 6 rfl<|Ac (Z0i rfl rfl Z6d (vt rfl)) rfl<|Mk rfl<|Nl<|bk<|LG (d:=[]) (ν:=Nat×Nat×(List Int)×Value) (fun (m11,i10,l8,v9)=>(Cnt ((((⟨x1,x2⟩:env_world).Group).Buckets).length:Int) i10 m11∧Zc5 m11 i10 l8=some r,m11,[(6,Zb v9),(25,rd (Z0 .i64) ((((⟨x1,x2⟩:env_world).Group).Buckets).length:Int)),(26,rd (Z0 .i64) (i10:Int))],[(1001,Zf v9 3 (Z0 .i64) l8)])) ((((((⟨x1,x2⟩:env_world).Group).Buckets).length:Int):Int).toNat,0,[],(.slice none 0 0)) ⟨Cnt.start _,h⟩ (FX rfl) ?_
   rintro ⟨m11,i10,l8,v9⟩ ⟨hsf1,h⟩
   dsimp only at hsf1 h ⊢
   cases m11 with
   | zero=>
    unfold Zc5 at h
    refine SR<|Ac (Zj rfl rfl (vt rfl) (vt rfl)) rfl<|Nl<|sq<|Cn rfl (fun hc=>absurd (of_decide_eq_true hc) hsf1.zero) (fun hc=>?_)
    refine xt<|SR<|Mw rfl<|Aw rfl<|Nl<|AW.freezes [4,6,34] 1001 rfl ⟨rfl,rfl,rfl,trivial⟩ rfl<|rt ?_
    cases h;exact Zd Tryz.results355 rfl (Z5 rfl)
   | succ m11=>
    unfold Zc5 at h
    refine SR<|Ac (Zj rfl rfl (vt rfl) (vt rfl)) rfl<|Nl<|sq<|Cn rfl (fun hc=>?_) (fun hc=>absurd hsf1.succ (of_decide_eq_false hc))
    have hlti10:=of_decide_eq_true hc
    refine sk<|sq<|bk<|SR<|Md rfl<|As rfl<|Nl ?_
    obtain ⟨l12,hl12,h⟩:=Z7 h
    refine Rg<|Mw rfl<|Md rfl<|Ac (osl Z11 zr3 rfl (vt rfl)) rfl<|Cv rfl (Z29 1001 hl12 rfl rfl Zg9 (vt rfl) rfl (vt rfl)) fun v13=>Aw rfl<|Nl<|Rg<|Ac (Z12 (t:=25) rfl rfl (vt rfl) (vk rfl) (vt rfl) hlti10) rfl<|Md rfl<|Nl ?_
    exact ⟨(_,_,_,_),Nat.lt_succ_self _,⟨hsf1.next,h⟩,FX rfl⟩
  ·refine SR<|Ac (Z0j rfl rfl (vt rfl) (vk rfl)) rfl<|As rfl<|Nl<|Cq rfl h (fun h=>?_) (fun h=>?_)
   ·refine sq ?_
    obtain ⟨x14,hx14,h⟩:=Z7 h
    refine Rg<|Zk lenv_world_0 Y1b rfl<|Ld Zh9 6 rfl<|Zk lenv_world_1 Zlb rfl<|Zk Z6f Z6z rfl<|Ld Z7l 6 rfl<|Ac (Z0i rfl rfl Z6d (vt rfl)) rfl<|Cl [38,42] (Yc3 _ _ _ hx14) Ybl rfl<|Ac (osl Z11 zr3 rfl (vt rfl)) rfl<|As rfl<|Nl<|rt ?_
    cases h;exact Zd Tryz.results355 rfl (Z5 rfl)
   ·refine SR<|Ac (Z0j rfl rfl (vt rfl) (vk rfl)) rfl<|As rfl<|Nl<|Cq rfl h (fun h=>?_) (fun h=>?_)
    ·refine SR<|Ac (osl Z11 zr3 rfl (vk rfl)) rfl<|As rfl<|Nl<|rt ?_
     cases h;exact Zd Tryz.results355 rfl (Z5 rfl)
    ·refine SR<|Ac (Z0j rfl rfl (vt rfl) (vk rfl)) rfl<|As rfl<|Nl<|Cq rfl h (fun h=>?_) (fun h=>?_)
     ·refine sq ?_
      obtain ⟨x15,hx15,h⟩:=Z7 h
      refine Rg<|Ld Y1f 6 rfl<|Cl [50] (Ys4 _ _ hx15) Yv2 rfl<|As rfl<|Nl<|SR<|Md rfl<|Ac (Z3v rfl rfl (vt rfl) (vk rfl)) rfl<|Nl<|Cq rfl h (fun h=>?_) (fun h=>?_)
      ·refine SR<|Md rfl<|Ac (osl Z11 zr3 rfl (vt rfl)) rfl<|As rfl<|Nl<|rt ?_
       cases h;exact Zd Tryz.results355 rfl (Z5 rfl)
      ·refine sk<|SR<|Ac (Zv (A:=rd (Z1 (Z0 .i64)) []) rfl rfl Z1f) rfl<|Nl<|rt ?_
       cases h;exact Zd Tryz.results355 rfl (Z5 rfl)
     ·refine sk<|SR<|Ac (Zv (A:=rd (Z1 (Z0 .i64)) []) rfl rfl Z1f) rfl<|Nl<|rt ?_
      cases h;exact Zd Tryz.results355 rfl (Z5 rfl)
end Go.Proofs.YtinplddjjalohaaGreatDoor.W
