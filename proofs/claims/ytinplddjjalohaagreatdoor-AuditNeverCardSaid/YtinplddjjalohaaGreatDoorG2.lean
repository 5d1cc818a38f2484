/- A part of the proof. -/
import Derived.Test.YtinplddjjalohaaGreatDoorG1
set_option linter.unusedVariables false
set_option maxHeartbeats 1000000
set_option maxRecDepth 4000
set_option linter.unusedSimpArgs false
namespace Go.Proofs.YtinplddjjalohaaGreatDoor.W
open Go Go.Wb
theorem Zvv:Ent Tryz.prog 386:=Ent.mk Tryz.func386 rfl rfl
theorem Zqc:Ent Tryz.prog 317:=Ent.mk Tryz.func317 rfl rfl
theorem Yle:Ent Tryz.prog 358:=Ent.mk Tryz.func358 rfl rfl
theorem Y2f:Ent Tryz.prog 316:=Ent.mk Tryz.func316 rfl rfl
theorem Yx7:Ent Tryz.prog 241:=Ent.mk Tryz.func241 rfl rfl
theorem Yks:Ent Tryz.prog 145:=Ent.mk Tryz.func145 rfl rfl
theorem Ys4:Ent Tryz.prog 146:=Ent.mk Tryz.func146 rfl rfl
theorem Yr9:Ent Tryz.prog 149:=Ent.mk Tryz.func149 rfl rfl
theorem Yln:Ent Tryz.prog 147:=Ent.mk Tryz.func147 rfl rfl
theorem Yvn:Ent Tryz.prog 151:=Ent.mk Tryz.func151 rfl rfl
theorem Ygi:Ent Tryz.prog 152:=Ent.mk Tryz.func152 rfl rfl
theorem Z9h:Ent Tryz.prog 139:=Ent.mk Tryz.func139 rfl rfl
theorem e72:Ent Tryz.prog 72:=Ent.mk Tryz.func72 rfl rfl
theorem Y9t:Ent Tryz.prog 352:=Ent.mk Tryz.func352 rfl rfl
theorem Zuo:Ent Tryz.prog 140:=Ent.mk Tryz.func140 rfl rfl
def Z93 (a3:Int)(x5:(Action→Action→Option Int))(go1:(List Action)→Int→Option (List Action))(i9:Int):Nat→(List Action)→Int→Option (List Action)
 | 0,_,_=>none
 | m15+1,l13,j14=>(opt (decide (j14>a3)) (lget l13 j14)).bind fun x16=>(opt (decide (j14>a3)) (lget l13 (IntKind.i64.wrap (j14 - 1)))).bind fun x17=>(opt (decide (j14>a3)) (x5 x16 x17)).bind fun x18=>(bif ((decide (j14>a3))&&(decide (x18<0))) then (lget l13 (IntKind.i64.wrap (j14 - 1))).bind fun x19=>(lget l13 j14).bind fun x20=>(lget l13 j14).bind fun x21=>(lget (List.set l13 j14.toNat x19) (IntKind.i64.wrap (j14 - 1))).bind fun x22=>(Z93 a3 x5 go1 i9 m15) (List.set (List.set l13 j14.toNat x19) (IntKind.i64.wrap (j14 - 1)).toNat x20) (IntKind.i64.wrap (j14 - 1)) else go1 l13 (IntKind.i64.wrap (i9+1)))
def Z7z (b4:Int)(a3:Int)(x5:(Action→Action→Option Int)):Nat→(List Action)→Int→Option (List Action)
 | 0,_,_=>none
 | m10+1,l8,i9=>(bif (decide (i9<b4)) then Z93 a3 x5 (Z7z b4 a3 x5 m10) i9 Z0v l8 i9 else some l8)
def Zcr (d1:(List Action))(a3:Int)(b4:Int)(x5:(Action→Action→Option Int)):Option (List Action):=
 Z7z b4 a3 x5 (((b4:Int) - (IntKind.i64.wrap (a3+1))).toNat+1) d1 (IntKind.i64.wrap (a3+1))
theorem Y6g (v2:Value)(d1:(List Action))(a3:Int)(b4:Int)(x5:(Action→Action→Option Int))(r:(List Action))(h:Zcr d1 a3 b4 x5=some r):Con Tryz.prog 316 [Zc v2,rd (Z0 .i64) a3,rd (Z0 .i64) b4,fn2 Tryz.prog Z9 Z9 (Z0 .i64) x5] (Zg v2 219 Z9 d1) (fun _:Unit=>top) (fun _=>Zg v2 219 Z9 r):=by
 refine Con.intro Tryz.func316 rfl Tryz.ntmps316 rfl fun w H X Z=>?_
 unfold Zcr at h
 refine SR<|Md rfl<|Ac (Z05 rfl rfl (vt rfl) (vk rfl)) rfl<|As rfl<|Nl<|bk<|LG (d:=[]) (ν:=Nat×(List Action)×Int) (fun (m10,l8,i9)=>(True∧Z7z b4 a3 x5 m10 l8 i9=some r,m10,[(0,Zc v2),(1,rd (Z0 .i64) a3),(2,rd (Z0 .i64) b4),(3,fn2 Tryz.prog Z9 Z9 (Z0 .i64) x5),(8,rd (Z0 .i64) i9)],[(0,Zg v2 219 Z9 l8)])) ((((b4:Int) - (IntKind.i64.wrap (a3+1))).toNat+1),d1,(IntKind.i64.wrap (a3+1))) ⟨trivial,h⟩ (FX rfl) ?_
 rintro ⟨m10,l8,i9⟩ ⟨hsf1,h⟩
 dsimp only at h ⊢
 cases m10 with
 | zero=>cases h
 | succ m10=>
  unfold Z7z at h
  refine sq<|SR<|Md rfl<|Md rfl<|Ac (Zj rfl rfl (vt rfl) (vt rfl)) rfl<|Nl<|Cq rfl h (fun h=>?_) (fun h=>?_)
  ·refine sk<|sq<|bk<|SR<|Md rfl<|As rfl<|Nl<|bk<|LG (d:=[]) (ν:=Nat×(List Action)×Int) (fun (m15,l13,j14)=>(True∧Z93 a3 x5 (Z7z b4 a3 x5 m10) i9 m15 l13 j14=some r,m15,[(0,Zc v2),(1,rd (Z0 .i64) a3),(2,rd (Z0 .i64) b4),(3,fn2 Tryz.prog Z9 Z9 (Z0 .i64) x5),(8,rd (Z0 .i64) i9),(9,rd (Z0 .i64) j14)],[(0,Zg v2 219 Z9 l13)])) (Z0v,l8,i9) ⟨trivial,h⟩ (FX rfl) ?_
   rintro ⟨m15,l13,j14⟩ ⟨hsf2,h⟩
   dsimp only at h ⊢
   cases m15 with
   | zero=>cases h
   | succ m15=>
    unfold Z93 at h
    refine sq<|sq ?_
    obtain ⟨x16,hx16,x17,hx17,x18,hx18,h⟩:=bs3 h
    refine AR Z00 (by kernel_rfl)<|Zt rfl<|Zt rfl<|Sd (lo [18,19] [] rfl fun S hs hr=>Z2s rfl rfl (vh hs 18 rfl rfl) (vh hs 19 rfl rfl))<|Zt rfl<|Sd (lg [3,21] [] rfl fun hq S hs hr=>Zq (A:=fn2 Tryz.prog Z9 Z9 (Z0 .i64) x5) rfl rfl (vh hs 3 rfl rfl))<|Sd (lg [0,21] [] rfl fun hq S hs hr=>Zq (A:=Zc v2) rfl rfl (vh hs 0 rfl rfl))<|Sd (lg [9,21] [] rfl fun hq S hs hr=>Zq (A:=rd (Z0 .i64) j14) rfl rfl (vh hs 9 rfl rfl))<|Sd (lg [23,24,21] [0] rfl fun hq S hs hr=>Z23 0 rfl rfl Z0h (Zi ((hs 23 rfl).trans rfl) hq) ((hr 0 rfl).trans rfl) (Zi ((hs 24 rfl).trans rfl) hq) (Z2j hx16 hq))<|Sd (lg [25,21] [0] rfl fun hq S hs hr=>Z1r 0 rfl rfl Z11 (Zi ((hs 25 rfl).trans rfl) hq) ((hr 0 rfl).trans rfl) (Z0n (Z2j hx16 hq)).2)<|Sd (lg [0,21] [] rfl fun hq S hs hr=>Zq (A:=Zc v2) rfl rfl (vh hs 0 rfl rfl))<|Sd (lg [9,21] [] rfl fun hq S hs hr=>Zq (A:=rd (Z0 .i64) j14) rfl rfl (vh hs 9 rfl rfl))<|Sd (lg [28,21] [] rfl fun hq S hs hr=>Z0t rfl rfl (Zi ((hs 28 rfl).trans rfl) hq) (vk rfl))<|Sd (lg [27,29,21] [0] rfl fun hq S hs hr=>Z23 0 rfl rfl Z0h (Zi ((hs 27 rfl).trans rfl) hq) ((hr 0 rfl).trans rfl) (Zi ((hs 29 rfl).trans rfl) hq) (Z2j hx17 hq))<|Sd (lg [30,21] [0] rfl fun hq S hs hr=>Z1r 0 rfl rfl Z11 (Zi ((hs 30 rfl).trans rfl) hq) ((hr 0 rfl).trans rfl) (Z0n (Z2j hx17 hq)).2)<|Sd (lg [22,26,31,21] [] rfl fun hq S hs hr=>Zd2 (Z2j hx18 hq) rfl rfl (Zi ((hs 22 rfl).trans rfl) hq) (Zi ((hs 26 rfl).trans rfl) hq) (Zi ((hs 31 rfl).trans rfl) hq))<|Sd (lg [32,21] [] rfl fun hq S hs hr=>Zj rfl rfl (Zi ((hs 32 rfl).trans rfl) hq) (vk rfl))<|Sd (lo [33,21] [] rfl fun S hs hr=>Z1m rfl rfl (vh hs 21 rfl rfl) (vh hs 33 rfl rfl))<|Sn<|Cq rfl h (fun h=>?_) (fun h=>?_)
    ·refine sk<|sq<|bk<|AW.vlen 0 rfl fun hvl0_266=>?_
     obtain ⟨x19,hx19,x20,hx20,x21,hx21,x22,hx22,h⟩:=bs4 h
     refine AR Z00 (by kernel_rfl)<|SMw rfl<|Zt rfl<|SMw rfl<|Zt rfl<|Sd (lo [40] [] rfl fun S hs hr=>Z0t rfl rfl (vh hs 40 rfl rfl) (vk rfl))<|SMw rfl<|Zt rfl<|Sd (lo [43] [] rfl fun S hs hr=>Z0t rfl rfl (vh hs 43 rfl rfl) (vk rfl))<|Sd (lo [42,44] [] rfl fun S hs hr=>Z2k (l:=l13) hvl0_266 rfl rfl rfl Z0h (vh hs 42 rfl rfl) (vh hs 44 rfl rfl) hx19)<|Sd (lo [45] [0] rfl fun S hs hr=>Z1r 0 rfl rfl Z11 (vh hs 45 rfl rfl) ((hr 0 rfl).trans rfl) (Z0n hx19).2)<|SMw rfl<|Zt rfl<|Sd (lo [47,48] [] rfl fun S hs hr=>Z2k (l:=l13) hvl0_266 rfl rfl rfl Z0h (vh hs 47 rfl rfl) (vh hs 48 rfl rfl) hx20)<|Sd (lo [49] [0] rfl fun S hs hr=>Z1r 0 rfl rfl Z11 (vh hs 49 rfl rfl) ((hr 0 rfl).trans rfl) (Z0n hx20).2)<|Sd (lo [37,38] [] rfl fun S hs hr=>Z2k (l:=l13) hvl0_266 rfl rfl rfl Z0h (vh hs 37 rfl rfl) (vh hs 38 rfl rfl) hx21)<|Sd (Z4q [51,46] [0] rfl fun S hs hr=>Z30 0 rfl rfl Z11 (vh hs 51 rfl rfl) ((hr 0 rfl).trans rfl) (Z0n hx21).2 (vh hs 46 rfl rfl))<|Sd (lo [39,41] [] rfl fun S hs hr=>Z2k (l:=(List.set l13 j14.toNat x19)) hvl0_266 (by simp) rfl rfl Z0h (vh hs 39 rfl rfl) (vh hs 41 rfl rfl) hx22)<|Sd (Z4q [52,50] [0] rfl fun S hs hr=>Z30 0 rfl rfl Z11 (vh hs 52 rfl rfl) ((hr 0 rfl).trans rfl) (Z0n hx22).2 (vh hs 50 rfl rfl))<|Sn<|Rg<|Md rfl<|Ac (Z0t rfl rfl (vt rfl) (vk rfl)) rfl<|As rfl<|Nl ?_
     exact ⟨(_,_,_),Nat.lt_succ_self _,⟨trivial,h⟩,FX rfl⟩
    ·refine xt<|Rg<|Md rfl<|Ac (Z05 rfl rfl (vt rfl) (vk rfl)) rfl<|As rfl<|Nl ?_
     exact ⟨(_,_,_),Nat.lt_succ_self _,⟨trivial,h⟩,FX rfl⟩
  ·refine xt ?_
   cases h;exact Z2e (i:=0) Tryz.results316 rfl rfl
def Zfr (n5:Int)(b4:Int)(a3:Int):Nat→(List Action)→Int→Option (List Action)
 | 0,_,_=>none
 | m11+1,l9,i10=>(bif (decide (i10<n5)) then (lget l9 (IntKind.i64.wrap (b4+i10))).bind fun x12=>(lget l9 (IntKind.i64.wrap (a3+i10))).bind fun x13=>(lget l9 (IntKind.i64.wrap (a3+i10))).bind fun x14=>(lget (List.set l9 (IntKind.i64.wrap (a3+i10)).toNat x12) (IntKind.i64.wrap (b4+i10))).bind fun x15=>(Zfr n5 b4 a3 m11) (List.set (List.set l9 (IntKind.i64.wrap (a3+i10)).toNat x12) (IntKind.i64.wrap (b4+i10)).toNat x13) (IntKind.i64.wrap (i10+1)) else some l9)
def Zeu (d1:(List Action))(a3:Int)(b4:Int)(n5:Int)(x6:(Action→Action→Option Int)):Option (List Action):=
 Zfr n5 b4 a3 (((n5:Int) - 0).toNat+1) d1 0
theorem Zyn (v2:Value)(d1:(List Action))(a3:Int)(b4:Int)(n5:Int)(x6:(Action→Action→Option Int))(r:(List Action))(h:Zeu d1 a3 b4 n5 x6=some r):Con Tryz.prog 386 [Zc v2,rd (Z0 .i64) a3,rd (Z0 .i64) b4,rd (Z0 .i64) n5,fn2 Tryz.prog Z9 Z9 (Z0 .i64) x6] (Zg v2 219 Z9 d1) (fun _:Unit=>top) (fun _=>Zg v2 219 Z9 r):=by
 refine Con.intro Tryz.func386 rfl Tryz.ntmps386 rfl fun w H X Z=>?_
 unfold Zeu at h
 refine SR<|Ak rfl<|Nl<|bk<|LG (d:=[]) (ν:=Nat×(List Action)×Int) (fun (m11,l9,i10)=>(True∧Zfr n5 b4 a3 m11 l9 i10=some r,m11,[(0,Zc v2),(1,rd (Z0 .i64) a3),(2,rd (Z0 .i64) b4),(3,rd (Z0 .i64) n5),(10,rd (Z0 .i64) i10)],[(0,Zg v2 219 Z9 l9)])) ((((n5:Int) - 0).toNat+1),d1,0) ⟨trivial,h⟩ (FX rfl) ?_
 rintro ⟨m11,l9,i10⟩ ⟨hsf1,h⟩
 dsimp only at h ⊢
 cases m11 with
 | zero=>cases h
 | succ m11=>
  unfold Zfr at h
  refine sq<|SR<|Md rfl<|Md rfl<|Ac (Zj rfl rfl (vt rfl) (vt rfl)) rfl<|Nl<|Cq rfl h (fun h=>?_) (fun h=>?_)
  ·refine sk<|sq<|bk<|AW.vlen 0 rfl fun hvl0_123=>?_
   obtain ⟨x12,hx12,x13,hx13,x14,hx14,x15,hx15,h⟩:=bs4 h
   refine AR Z00 (by kernel_rfl)<|SMw rfl<|Zt rfl<|Zt rfl<|Sd (lo [17,18] [] rfl fun S hs hr=>Z05 rfl rfl (vh hs 17 rfl rfl) (vh hs 18 rfl rfl))<|SMw rfl<|Zt rfl<|Zt rfl<|Sd (lo [21,22] [] rfl fun S hs hr=>Z05 rfl rfl (vh hs 21 rfl rfl) (vh hs 22 rfl rfl))<|SMw rfl<|Zt rfl<|Zt rfl<|Sd (lo [25,26] [] rfl fun S hs hr=>Z05 rfl rfl (vh hs 25 rfl rfl) (vh hs 26 rfl rfl))<|Sd (lo [24,27] [] rfl fun S hs hr=>Z2k (l:=l9) hvl0_123 rfl rfl rfl Z0h (vh hs 24 rfl rfl) (vh hs 27 rfl rfl) hx12)<|Sd (lo [28] [0] rfl fun S hs hr=>Z1r 0 rfl rfl Z11 (vh hs 28 rfl rfl) ((hr 0 rfl).trans rfl) (Z0n hx12).2)<|SMw rfl<|Zt rfl<|Zt rfl<|Sd (lo [31,32] [] rfl fun S hs hr=>Z05 rfl rfl (vh hs 31 rfl rfl) (vh hs 32 rfl rfl))<|Sd (lo [30,33] [] rfl fun S hs hr=>Z2k (l:=l9) hvl0_123 rfl rfl rfl Z0h (vh hs 30 rfl rfl) (vh hs 33 rfl rfl) hx13)<|Sd (lo [34] [0] rfl fun S hs hr=>Z1r 0 rfl rfl Z11 (vh hs 34 rfl rfl) ((hr 0 rfl).trans rfl) (Z0n hx13).2)<|Sd (lo [16,19] [] rfl fun S hs hr=>Z2k (l:=l9) hvl0_123 rfl rfl rfl Z0h (vh hs 16 rfl rfl) (vh hs 19 rfl rfl) hx14)<|Sd (Z4q [36,29] [0] rfl fun S hs hr=>Z30 0 rfl rfl Z11 (vh hs 36 rfl rfl) ((hr 0 rfl).trans rfl) (Z0n hx14).2 (vh hs 29 rfl rfl))<|Sd (lo [20,23] [] rfl fun S hs hr=>Z2k (l:=(List.set l9 (IntKind.i64.wrap (a3+i10)).toNat x12)) hvl0_123 (by simp) rfl rfl Z0h (vh hs 20 rfl rfl) (vh hs 23 rfl rfl) hx15)<|Sd (Z4q [37,35] [0] rfl fun S hs hr=>Z30 0 rfl rfl Z11 (vh hs 37 rfl rfl) ((hr 0 rfl).trans rfl) (Z0n hx15).2 (vh hs 35 rfl rfl))<|Sn<|Rg<|Md rfl<|Ac (Z05 rfl rfl (vt rfl) (vk rfl)) rfl<|As rfl<|Nl ?_
   exact ⟨(_,_,_),Nat.lt_succ_self _,⟨trivial,h⟩,FX rfl⟩
  ·refine xt ?_
   cases h;exact Z2e (i:=0) Tryz.results386 rfl rfl
def Zex (m4:Int)(x6:(Action→Action→Option Int)):Nat→(List Action)→Int→Int→Option (List Action)
 | 0,_,_,_=>none
 | m13+1,l10,i11,j12=>(bif (decide (i11≠j12)) then (bif (decide (i11>j12)) then (Zeu l10 (IntKind.i64.wrap (m4 - i11)) m4 j12 x6).bind fun l14=>(Zex m4 x6 m13) l14 (IntKind.i64.wrap (i11 - j12)) j12 else (Zeu l10 (IntKind.i64.wrap (m4 - i11)) (IntKind.i64.wrap ((IntKind.i64.wrap (m4+j12)) - i11)) i11 x6).bind fun l15=>(Zex m4 x6 m13) l15 i11 (IntKind.i64.wrap (j12 - i11))) else (Zeu l10 (IntKind.i64.wrap (m4 - i11)) m4 i11 x6).bind fun l16=>some l16)
def Zgp (d1:(List Action))(a3:Int)(m4:Int)(b5:Int)(x6:(Action→Action→Option Int)):Option (List Action):=
 Zex m4 x6 Z0v d1 (IntKind.i64.wrap (m4 - a3)) (IntKind.i64.wrap (b5 - m4))
theorem Yxf (v2:Value)(d1:(List Action))(a3:Int)(m4:Int)(b5:Int)(x6:(Action→Action→Option Int))(r:(List Action))(h:Zgp d1 a3 m4 b5 x6=some r):Con Tryz.prog 358 [Zc v2,rd (Z0 .i64) a3,rd (Z0 .i64) m4,rd (Z0 .i64) b5,fn2 Tryz.prog Z9 Z9 (Z0 .i64) x6] (Zg v2 219 Z9 d1) (fun _:Unit=>top) (fun _=>Zg v2 219 Z9 r):=by
 refine Con.intro Tryz.func358 rfl Tryz.ntmps358 rfl fun w H X Z=>?_
 unfold Zgp at h
 refine SR<|Md rfl<|Md rfl<|Ac (Z0t rfl rfl (vt rfl) (vt rfl)) rfl<|As rfl<|Nl<|SR<|Md rfl<|Md rfl<|Ac (Z0t rfl rfl (vt rfl) (vt rfl)) rfl<|As rfl<|Nl<|sq<|bk<|LG (d:=[]) (ν:=Nat×(List Action)×Int×Int) (fun (m13,l10,i11,j12)=>(True∧Zex m4 x6 m13 l10 i11 j12=some r,m13,[(0,Zc v2),(2,rd (Z0 .i64) m4),(4,fn2 Tryz.prog Z9 Z9 (Z0 .i64) x6),(10,rd (Z0 .i64) i11),(11,rd (Z0 .i64) j12)],[(0,Zg v2 219 Z9 l10)])) (Z0v,d1,(IntKind.i64.wrap (m4 - a3)),(IntKind.i64.wrap (b5 - m4))) ⟨trivial,h⟩ (FX rfl) ?_
 rintro ⟨m13,l10,i11,j12⟩ ⟨hsf1,h⟩
 dsimp only at h ⊢
 cases m13 with
 | zero=>cases h
 | succ m13=>
  unfold Zex at h
  refine sq<|SR<|Md rfl<|Md rfl<|Ac (Z6f rfl rfl (vt rfl) (vt rfl)) rfl<|Nl<|Cq rfl h (fun h=>?_) (fun h=>?_)
  ·refine sk<|bk<|SR<|Md rfl<|Md rfl<|Ac (Z2s rfl rfl (vt rfl) (vt rfl)) rfl<|Nl<|Cq rfl h (fun h=>?_) (fun h=>?_)
   ·refine sq ?_
    obtain ⟨l14,hl14,h⟩:=Z7 h
    refine Rg<|Mw rfl<|Md rfl<|Md rfl<|Ac (Z0t rfl rfl (vt rfl) (vt rfl)) rfl<|Md rfl<|Md rfl<|Ac (Zq (A:=fn2 Tryz.prog Z9 Z9 (Z0 .i64) x6) rfl rfl (vt rfl)) rfl<|Cv rfl (Z1c 0 (xs:=[.tmp 24,.tmp 27,.tmp 28,.tmp 29,.tmp 30]) (Zyn _ _ _ _ _ _ _ hl14) Zvv rfl rfl ⟨vt rfl,vt rfl,vt rfl,vt rfl,vt rfl,trivial⟩ rfl) fun _u=>Nl<|Rg<|Md rfl<|Md rfl<|Ac (Z0t rfl rfl (vt rfl) (vt rfl)) rfl<|As rfl<|Nl ?_
    exact ⟨(_,_,_,_),Nat.lt_succ_self _,⟨trivial,h⟩,FX rfl⟩
   ·refine sq ?_
    obtain ⟨l15,hl15,h⟩:=Z7 h
    refine Rg<|Mw rfl<|Md rfl<|Md rfl<|Ac (Z0t rfl rfl (vt rfl) (vt rfl)) rfl<|Md rfl<|Md rfl<|Ac (Z05 rfl rfl (vt rfl) (vt rfl)) rfl<|Md rfl<|Ac (Z0t rfl rfl (vt rfl) (vt rfl)) rfl<|Md rfl<|Ac (Zq (A:=fn2 Tryz.prog Z9 Z9 (Z0 .i64) x6) rfl rfl (vt rfl)) rfl<|Cv rfl (Z1c 0 (xs:=[.tmp 35,.tmp 38,.tmp 43,.tmp 44,.tmp 45]) (Zyn _ _ _ _ _ _ _ hl15) Zvv rfl rfl ⟨vt rfl,vt rfl,vt rfl,vt rfl,vt rfl,trivial⟩ rfl) fun _u=>Nl<|Rg<|Md rfl<|Md rfl<|Ac (Z0t rfl rfl (vt rfl) (vt rfl)) rfl<|As rfl<|Nl ?_
    exact ⟨(_,_,_,_),Nat.lt_succ_self _,⟨trivial,h⟩,FX rfl⟩
  ·refine xt ?_
   obtain ⟨l16,hl16,h⟩:=Z7 h
   refine Rg<|Mw rfl<|Md rfl<|Md rfl<|Ac (Z0t rfl rfl (vt rfl) (vt rfl)) rfl<|Md rfl<|Md rfl<|Ac (Zq (A:=fn2 Tryz.prog Z9 Z9 (Z0 .i64) x6) rfl rfl (vt rfl)) rfl<|Cv rfl (Z1c 0 (xs:=[.tmp 50,.tmp 53,.tmp 54,.tmp 55,.tmp 56]) (Zyn _ _ _ _ _ _ _ hl16) Zvv rfl rfl ⟨vt rfl,vt rfl,vt rfl,vt rfl,vt rfl,trivial⟩ rfl) fun _u=>Nl ?_
   cases h;exact Z2e (i:=0) Tryz.results358 rfl rfl
def Zbc (i9:Int):Nat→(List Action)→Int→Option (List Action)
 | 0,_,_=>none
 | m20+1,l18,k19=>(bif (decide (k19<(IntKind.i64.wrap (i9 - 1)))) then (lget l18 (IntKind.i64.wrap (k19+1))).bind fun x21=>(lget l18 k19).bind fun x22=>(lget l18 k19).bind fun x23=>(lget (List.set l18 k19.toNat x21) (IntKind.i64.wrap (k19+1))).bind fun x24=>(Zbc i9 m20) (List.set (List.set l18 k19.toNat x21) (IntKind.i64.wrap (k19+1)).toNat x22) (IntKind.i64.wrap (k19+1)) else some l18)
def Zbe (d1:(List Action))(a3:Int)(x6:(Action→Action→Option Int)):Nat→Int→Int→Option (List Action)
 | 0,_,_=>none
 | m11+1,i9,j10=>(bif (decide (i9<j10)) then (Z43 (BitVec.ofInt 64 (IntKind.i64.wrap (i9+j10))) ((1:BitVec 64).toNat:Int)).bind fun q12=>(lget d1 (IntKind.i64.wrap (q12.toNat:Int))).bind fun x13=>(lget d1 a3).bind fun x14=>(x6 x13 x14).bind fun x15=>(bif (decide (x15<0)) then (Zbe d1 a3 x6 m11) (IntKind.i64.wrap ((IntKind.i64.wrap (q12.toNat:Int))+1)) j10 else (Zbe d1 a3 x6 m11) i9 (IntKind.i64.wrap (q12.toNat:Int))) else Zbc i9 ((((IntKind.i64.wrap (i9 - 1)):Int) - a3).toNat+1) d1 a3)
def Zan (i27:Int):Nat→(List Action)→Int→Option (List Action)
 | 0,_,_=>none
 | m38+1,l36,k37=>(bif (decide (k37>i27)) then (lget l36 (IntKind.i64.wrap (k37 - 1))).bind fun x39=>(lget l36 k37).bind fun x40=>(lget l36 k37).bind fun x41=>(lget (List.set l36 k37.toNat x39) (IntKind.i64.wrap (k37 - 1))).bind fun x42=>(Zan i27 m38) (List.set (List.set l36 k37.toNat x39) (IntKind.i64.wrap (k37 - 1)).toNat x40) (IntKind.i64.wrap (k37 - 1)) else some l36)
def Zb1 (d1:(List Action))(m4:Int)(x6:(Action→Action→Option Int)):Nat→Int→Int→Option (List Action)
 | 0,_,_=>none
 | m29+1,i27,j28=>(bif (decide (i27<j28)) then (Z43 (BitVec.ofInt 64 (IntKind.i64.wrap (i27+j28))) ((1:BitVec 64).toNat:Int)).bind fun q30=>(lget d1 m4).bind fun x31=>(lget d1 (IntKind.i64.wrap (q30.toNat:Int))).bind fun x32=>(x6 x31 x32).bind fun x33=>(bif (!(decide (x33<0))) then (Zb1 d1 m4 x6 m29) (IntKind.i64.wrap ((IntKind.i64.wrap (q30.toNat:Int))+1)) j28 else (Zb1 d1 m4 x6 m29) i27 (IntKind.i64.wrap (q30.toNat:Int))) else Zan i27 (((m4:Int) - i27).toNat+1) d1 m4)
def Zhw (q43:(BitVec 64))(m4:Int)(s48:Int)(b5:Int)(R_slices_symMergeCmpFunc_Action:((List Action)→Int→Int→Int→(Action→Action→Option Int)→Option (List Action)))(x6:(Action→Action→Option Int))(l56:(List Action)):Option (List Action):=
 (bif ((decide ((IntKind.i64.wrap (q43.toNat:Int))<(IntKind.i64.wrap ((IntKind.i64.wrap ((IntKind.i64.wrap (q43.toNat:Int))+m4)) - s48))))&&(decide ((IntKind.i64.wrap ((IntKind.i64.wrap ((IntKind.i64.wrap (q43.toNat:Int))+m4)) - s48))<b5))) then (R_slices_symMergeCmpFunc_Action l56 (IntKind.i64.wrap (q43.toNat:Int)) (IntKind.i64.wrap ((IntKind.i64.wrap ((IntKind.i64.wrap (q43.toNat:Int))+m4)) - s48)) b5 x6).bind fun l57=>some l57 else some l56)
def Zck (a3:Int)(s48:Int)(q43:(BitVec 64))(R_slices_symMergeCmpFunc_Action:((List Action)→Int→Int→Int→(Action→Action→Option Int)→Option (List Action)))(x6:(Action→Action→Option Int))(m4:Int)(b5:Int)(l55:(List Action)):Option (List Action):=
 (bif ((decide (a3<s48))&&(decide (s48<(IntKind.i64.wrap (q43.toNat:Int))))) then (R_slices_symMergeCmpFunc_Action l55 a3 s48 (IntKind.i64.wrap (q43.toNat:Int)) x6).bind fun l58=>Zhw q43 m4 s48 b5 R_slices_symMergeCmpFunc_Action x6 l58 else Zhw q43 m4 s48 b5 R_slices_symMergeCmpFunc_Action x6 l55)
def Zci (d1:(List Action))(q43:(BitVec 64))(m4:Int)(x6:(Action→Action→Option Int))(a3:Int)(R_slices_symMergeCmpFunc_Action:((List Action)→Int→Int→Int→(Action→Action→Option Int)→Option (List Action)))(b5:Int):Nat→Int→Int→Option (List Action)
 | 0,_,_=>none
 | m50+1,s48,x49=>(bif (decide (s48<x49)) then (Z43 (BitVec.ofInt 64 (IntKind.i64.wrap (s48+x49))) ((1:BitVec 64).toNat:Int)).bind fun q51=>(lget d1 (IntKind.i64.wrap ((IntKind.i64.wrap ((IntKind.i64.wrap ((IntKind.i64.wrap (q43.toNat:Int))+m4)) - 1)) - (IntKind.i64.wrap (q51.toNat:Int))))).bind fun x52=>(lget d1 (IntKind.i64.wrap (q51.toNat:Int))).bind fun x53=>(x6 x52 x53).bind fun x54=>(bif (!(decide (x54<0))) then (Zci d1 q43 m4 x6 a3 R_slices_symMergeCmpFunc_Action b5 m50) (IntKind.i64.wrap ((IntKind.i64.wrap (q51.toNat:Int))+1)) x49 else (Zci d1 q43 m4 x6 a3 R_slices_symMergeCmpFunc_Action b5 m50) s48 (IntKind.i64.wrap (q51.toNat:Int))) else (bif ((decide (s48<m4))&&(decide (m4<(IntKind.i64.wrap ((IntKind.i64.wrap ((IntKind.i64.wrap (q43.toNat:Int))+m4)) - s48))))) then (Zgp d1 s48 m4 (IntKind.i64.wrap ((IntKind.i64.wrap ((IntKind.i64.wrap (q43.toNat:Int))+m4)) - s48)) x6).bind fun l59=>Zck a3 s48 q43 R_slices_symMergeCmpFunc_Action x6 m4 b5 l59 else Zck a3 s48 q43 R_slices_symMergeCmpFunc_Action x6 m4 b5 d1))
def Zi5 (d1:(List Action))(q43:(BitVec 64))(m4:Int)(x6:(Action→Action→Option Int))(a3:Int)(R_slices_symMergeCmpFunc_Action:((List Action)→Int→Int→Int→(Action→Action→Option Int)→Option (List Action)))(b5:Int)(s44:Int)(x45:Int):Option (List Action):=
 Zci d1 q43 m4 x6 a3 R_slices_symMergeCmpFunc_Action b5 (((x45:Int) - s44).toNat+1) s44 x45
def Zkm (R_slices_symMergeCmpFunc_Action:((List Action)→Int→Int→Int→(Action→Action→Option Int)→Option (List Action)))(d1:(List Action))(a3:Int)(m4:Int)(b5:Int)(x6:(Action→Action→Option Int)):Option (List Action):=
 (bif (decide ((IntKind.i64.wrap (m4 - a3))=1)) then Zbe d1 a3 x6 (((b5:Int) - m4).toNat+1) m4 b5 else (bif (decide ((IntKind.i64.wrap (b5 - m4))=1)) then Zb1 d1 m4 x6 (((m4:Int) - a3).toNat+1) a3 m4 else (Z43 (BitVec.ofInt 64 (IntKind.i64.wrap (a3+b5))) ((1:BitVec 64).toNat:Int)).bind fun q43=>(bif (decide (m4>(IntKind.i64.wrap (q43.toNat:Int)))) then Zi5 d1 q43 m4 x6 a3 R_slices_symMergeCmpFunc_Action b5 (IntKind.i64.wrap ((IntKind.i64.wrap ((IntKind.i64.wrap (q43.toNat:Int))+m4)) - b5)) (IntKind.i64.wrap (q43.toNat:Int)) else Zi5 d1 q43 m4 x6 a3 R_slices_symMergeCmpFunc_Action b5 a3 m4)))
theorem Yfz (R_slices_symMergeCmpFunc_Action:((List Action)→Int→Int→Int→(Action→Action→Option Int)→Option (List Action)))(hR_slices_symMergeCmpFunc_Action:∀(v2:Value) (d1:(List Action)) (a3:Int) (m4:Int) (b5:Int) (x6:(Action→Action→Option Int)) (r:(List Action)),R_slices_symMergeCmpFunc_Action d1 a3 m4 b5 x6=some r→Con Tryz.prog 317 [Zc v2,rd (Z0 .i64) a3,rd (Z0 .i64) m4,rd (Z0 .i64) b5,fn2 Tryz.prog Z9 Z9 (Z0 .i64) x6] (Zg v2 219 Z9 d1) (fun _:Unit=>top) (fun _=>Zg v2 219 Z9 r))(v2:Value)(d1:(List Action))(a3:Int)(m4:Int)(b5:Int)(x6:(Action→Action→Option Int))(r:(List Action))(h:Zkm R_slices_symMergeCmpFunc_Action d1 a3 m4 b5 x6=some r):Con Tryz.prog 317 [Zc v2,rd (Z0 .i64) a3,rd (Z0 .i64) m4,rd (Z0 .i64) b5,fn2 Tryz.prog Z9 Z9 (Z0 .i64) x6] (Zg v2 219 Z9 d1) (fun _:Unit=>top) (fun _=>Zg v2 219 Z9 r):=by
 refine Con.intro Tryz.func317 rfl Tryz.ntmps317 rfl fun w H X Z=>?_
 unfold Zkm at h
 refine sq<|SR<|Md rfl<|Md rfl<|Ac (Z0t rfl rfl (vt rfl) (vt rfl)) rfl<|Ac (Z0m rfl rfl (vt rfl) (vk rfl)) rfl<|Nl<|Cq rfl h (fun h=>?_) (fun h=>?_)
 ·refine SR<|Md rfl<|As rfl<|Nl<|SR<|Md rfl<|As rfl<|Nl<|sq<|bk<|LG (d:=[]) (ν:=Nat×Int×Int) (fun (m11,i9,j10)=>(True∧Zbe d1 a3 x6 m11 i9 j10=some r,m11,[(0,Zc v2),(1,rd (Z0 .i64) a3),(4,fn2 Tryz.prog Z9 Z9 (Z0 .i64) x6),(10,rd (Z0 .i64) i9),(11,rd (Z0 .i64) j10)],[(0,Zg v2 219 Z9 d1)])) ((((b5:Int) - m4).toNat+1),m4,b5) ⟨trivial,h⟩ (FX rfl) ?_
  rintro ⟨m11,i9,j10⟩ ⟨hsf1,h⟩
  dsimp only at h ⊢
  cases m11 with
  | zero=>cases h
  | succ m11=>
   unfold Zbe at h
   refine sq<|SR<|Md rfl<|Md rfl<|Ac (Zj rfl rfl (vt rfl) (vt rfl)) rfl<|Nl<|Cq rfl h (fun h=>?_) (fun h=>?_)
   ·refine sk<|bk<|sq ?_
    obtain ⟨q12,hq12,h⟩:=Z7 h
    refine Rg<|Md rfl<|Md rfl<|Ac (Z05 rfl rfl (vt rfl) (vt rfl)) rfl<|Ac (Z9n rfl rfl us3 Z96 (vt rfl)) rfl<|Ac (Z70 rfl rfl (vt rfl) (Z5s (vku (1:BitVec 64) rfl)) hq12) rfl<|Ac (Za8 rfl rfl Zbk un3 (vt rfl)) rfl<|As rfl<|Nl<|sq ?_
    obtain ⟨x13,hx13,x14,hx14,x15,hx15,h⟩:=bs3 h
    refine AR Z00 (by kernel_rfl)<|Sd (lo [4] [] rfl fun S hs hr=>Zq (A:=fn2 Tryz.prog Z9 Z9 (Z0 .i64) x6) rfl rfl (vh hs 4 rfl rfl))<|SMw rfl<|Zt rfl<|Sd (lo [41,42] [0] rfl fun S hs hr=>Z23 0 rfl rfl Z0h (vh hs 41 rfl rfl) ((hr 0 rfl).trans rfl) (vh hs 42 rfl rfl) hx13)<|Sd (lo [43] [0] rfl fun S hs hr=>Z1r 0 rfl rfl Z11 (vh hs 43 rfl rfl) ((hr 0 rfl).trans rfl) (Z0n hx13).2)<|SMw rfl<|Zt rfl<|Sd (lo [45,46] [0] rfl fun S hs hr=>Z23 0 rfl rfl Z0h (vh hs 45 rfl rfl) ((hr 0 rfl).trans rfl) (vh hs 46 rfl rfl) hx14)<|Sd (lo [47] [0] rfl fun S hs hr=>Z1r 0 rfl rfl Z11 (vh hs 47 rfl rfl) ((hr 0 rfl).trans rfl) (Z0n hx14).2)<|Sd (lo [40,44,48] [] rfl fun S hs hr=>Zd2 hx15 rfl rfl (vh hs 40 rfl rfl) (vh hs 44 rfl rfl) (vh hs 48 rfl rfl))<|Sd (lo [49] [] rfl fun S hs hr=>Zj rfl rfl (vh hs 49 rfl rfl) (vk rfl))<|Sn<|Cq rfl h (fun h=>?_) (fun h=>?_)
    ·refine Rg<|Md rfl<|Ac (Z05 rfl rfl (vt rfl) (vk rfl)) rfl<|As rfl<|Nl ?_
     exact ⟨(_,_,_),Nat.lt_succ_self _,⟨trivial,h⟩,FX rfl⟩
    ·refine Rg<|Md rfl<|As rfl<|Nl ?_
     exact ⟨(_,_,_),Nat.lt_succ_self _,⟨trivial,h⟩,FX rfl⟩
   ·refine xt<|sq<|SR<|Md rfl<|As rfl<|Nl<|bk<|LG (d:=[]) (ν:=Nat×(List Action)×Int) (fun (m20,l18,k19)=>(True∧Zbc i9 m20 l18 k19=some r,m20,[(0,Zc v2),(10,rd (Z0 .i64) i9),(13,rd (Z0 .i64) k19)],[(0,Zg v2 219 Z9 l18)])) (((((IntKind.i64.wrap (i9 - 1)):Int) - a3).toNat+1),d1,a3) ⟨trivial,h⟩ (FX rfl) ?_
    rintro ⟨m20,l18,k19⟩ ⟨hsf2,h⟩
    dsimp only at h ⊢
    cases m20 with
    | zero=>cases h
    | succ m20=>
     unfold Zbc at h
     refine sq<|SR<|Md rfl<|Md rfl<|Ac (Z0t rfl rfl (vt rfl) (vk rfl)) rfl<|Ac (Zj rfl rfl (vt rfl) (vt rfl)) rfl<|Nl<|Cq rfl h (fun h=>?_) (fun h=>?_)
     ·refine sk<|sq<|bk<|AW.vlen 0 rfl fun hvl0_205=>?_
      obtain ⟨x21,hx21,x22,hx22,x23,hx23,x24,hx24,h⟩:=bs4 h
      refine AR Z00 (by kernel_rfl)<|SMw rfl<|Zt rfl<|SMw rfl<|Zt rfl<|Sd (lo [64] [] rfl fun S hs hr=>Z05 rfl rfl (vh hs 64 rfl rfl) (vk rfl))<|SMw rfl<|Zt rfl<|Sd (lo [67] [] rfl fun S hs hr=>Z05 rfl rfl (vh hs 67 rfl rfl) (vk rfl))<|Sd (lo [66,68] [] rfl fun S hs hr=>Z2k (l:=l18) hvl0_205 rfl rfl rfl Z0h (vh hs 66 rfl rfl) (vh hs 68 rfl rfl) hx21)<|Sd (lo [69] [0] rfl fun S hs hr=>Z1r 0 rfl rfl Z11 (vh hs 69 rfl rfl) ((hr 0 rfl).trans rfl) (Z0n hx21).2)<|SMw rfl<|Zt rfl<|Sd (lo [71,72] [] rfl fun S hs hr=>Z2k (l:=l18) hvl0_205 rfl rfl rfl Z0h (vh hs 71 rfl rfl) (vh hs 72 rfl rfl) hx22)<|Sd (lo [73] [0] rfl fun S hs hr=>Z1r 0 rfl rfl Z11 (vh hs 73 rfl rfl) ((hr 0 rfl).trans rfl) (Z0n hx22).2)<|Sd (lo [61,62] [] rfl fun S hs hr=>Z2k (l:=l18) hvl0_205 rfl rfl rfl Z0h (vh hs 61 rfl rfl) (vh hs 62 rfl rfl) hx23)<|Sd (Z4q [75,70] [0] rfl fun S hs hr=>Z30 0 rfl rfl Z11 (vh hs 75 rfl rfl) ((hr 0 rfl).trans rfl) (Z0n hx23).2 (vh hs 70 rfl rfl))<|Sd (lo [63,65] [] rfl fun S hs hr=>Z2k (l:=(List.set l18 k19.toNat x21)) hvl0_205 (by simp) rfl rfl Z0h (vh hs 63 rfl rfl) (vh hs 65 rfl rfl) hx24)<|Sd (Z4q [76,74] [0] rfl fun S hs hr=>Z30 0 rfl rfl Z11 (vh hs 76 rfl rfl) ((hr 0 rfl).trans rfl) (Z0n hx24).2 (vh hs 74 rfl rfl))<|Sn<|Rg<|Md rfl<|Ac (Z05 rfl rfl (vt rfl) (vk rfl)) rfl<|As rfl<|Nl ?_
      exact ⟨(_,_,_),Nat.lt_succ_self _,⟨trivial,h⟩,FX rfl⟩
     ·refine xt<|rt ?_
      cases h;exact Z2e (i:=0) Tryz.results317 rfl rfl
 ·refine sk<|sq<|SR<|Md rfl<|Md rfl<|Ac (Z0t rfl rfl (vt rfl) (vt rfl)) rfl<|Ac (Z0m rfl rfl (vt rfl) (vk rfl)) rfl<|Nl<|Cq rfl h (fun h=>?_) (fun h=>?_)
  ·refine SR<|Md rfl<|As rfl<|Nl<|SR<|Md rfl<|As rfl<|Nl<|sq<|bk<|LG (d:=[]) (ν:=Nat×Int×Int) (fun (m29,i27,j28)=>(True∧Zb1 d1 m4 x6 m29 i27 j28=some r,m29,[(0,Zc v2),(2,rd (Z0 .i64) m4),(4,fn2 Tryz.prog Z9 Z9 (Z0 .i64) x6),(14,rd (Z0 .i64) i27),(15,rd (Z0 .i64) j28)],[(0,Zg v2 219 Z9 d1)])) ((((m4:Int) - a3).toNat+1),a3,m4) ⟨trivial,h⟩ (FX rfl) ?_
   rintro ⟨m29,i27,j28⟩ ⟨hsf3,h⟩
   dsimp only at h ⊢
   cases m29 with
   | zero=>cases h
   | succ m29=>
    unfold Zb1 at h
    refine sq<|SR<|Md rfl<|Md rfl<|Ac (Zj rfl rfl (vt rfl) (vt rfl)) rfl<|Nl<|Cq rfl h (fun h=>?_) (fun h=>?_)
    ·refine sk<|bk<|sq ?_
     obtain ⟨q30,hq30,h⟩:=Z7 h
     refine Rg<|Md rfl<|Md rfl<|Ac (Z05 rfl rfl (vt rfl) (vt rfl)) rfl<|Ac (Z9n rfl rfl us3 Z96 (vt rfl)) rfl<|Ac (Z70 rfl rfl (vt rfl) (Z5s (vku (1:BitVec 64) rfl)) hq30) rfl<|Ac (Za8 rfl rfl Zbk un3 (vt rfl)) rfl<|As rfl<|Nl<|sq ?_
     obtain ⟨x31,hx31,x32,hx32,x33,hx33,h⟩:=bs3 h
     refine AR Z00 (by kernel_rfl)<|Sd (lo [4] [] rfl fun S hs hr=>Zq (A:=fn2 Tryz.prog Z9 Z9 (Z0 .i64) x6) rfl rfl (vh hs 4 rfl rfl))<|SMw rfl<|Zt rfl<|Sd (lo [93,94] [0] rfl fun S hs hr=>Z23 0 rfl rfl Z0h (vh hs 93 rfl rfl) ((hr 0 rfl).trans rfl) (vh hs 94 rfl rfl) hx31)<|Sd (lo [95] [0] rfl fun S hs hr=>Z1r 0 rfl rfl Z11 (vh hs 95 rfl rfl) ((hr 0 rfl).trans rfl) (Z0n hx31).2)<|SMw rfl<|Zt rfl<|Sd (lo [97,98] [0] rfl fun S hs hr=>Z23 0 rfl rfl Z0h (vh hs 97 rfl rfl) ((hr 0 rfl).trans rfl) (vh hs 98 rfl rfl) hx32)<|Sd (lo [99] [0] rfl fun S hs hr=>Z1r 0 rfl rfl Z11 (vh hs 99 rfl rfl) ((hr 0 rfl).trans rfl) (Z0n hx32).2)<|Sd (lo [92,96,100] [] rfl fun S hs hr=>Zd2 hx33 rfl rfl (vh hs 92 rfl rfl) (vh hs 96 rfl rfl) (vh hs 100 rfl rfl))<|Sd (lo [101] [] rfl fun S hs hr=>Zj rfl rfl (vh hs 101 rfl rfl) (vk rfl))<|Sd (lo [102] [] rfl fun S hs hr=>Z0z rfl rfl (vh hs 102 rfl rfl))<|Sn<|Cq rfl h (fun h=>?_) (fun h=>?_)
     ·refine Rg<|Md rfl<|Ac (Z05 rfl rfl (vt rfl) (vk rfl)) rfl<|As rfl<|Nl ?_
      exact ⟨(_,_,_),Nat.lt_succ_self _,⟨trivial,h⟩,FX rfl⟩
     ·refine Rg<|Md rfl<|As rfl<|Nl ?_
      exact ⟨(_,_,_),Nat.lt_succ_self _,⟨trivial,h⟩,FX rfl⟩
    ·refine xt<|sq<|SR<|Md rfl<|As rfl<|Nl<|bk<|LG (d:=[]) (ν:=Nat×(List Action)×Int) (fun (m38,l36,k37)=>(True∧Zan i27 m38 l36 k37=some r,m38,[(0,Zc v2),(14,rd (Z0 .i64) i27),(17,rd (Z0 .i64) k37)],[(0,Zg v2 219 Z9 l36)])) ((((m4:Int) - i27).toNat+1),d1,m4) ⟨trivial,h⟩ (FX rfl) ?_
     rintro ⟨m38,l36,k37⟩ ⟨hsf4,h⟩
     dsimp only at h ⊢
     cases m38 with
     | zero=>cases h
     | succ m38=>
      unfold Zan at h
      refine sq<|SR<|Md rfl<|Md rfl<|Ac (Z2s rfl rfl (vt rfl) (vt rfl)) rfl<|Nl<|Cq rfl h (fun h=>?_) (fun h=>?_)
      ·refine sk<|sq<|bk<|AW.vlen 0 rfl fun hvl0_446=>?_
       obtain ⟨x39,hx39,x40,hx40,x41,hx41,x42,hx42,h⟩:=bs4 h
       refine AR Z00 (by kernel_rfl)<|SMw rfl<|Zt rfl<|SMw rfl<|Zt rfl<|Sd (lo [116] [] rfl fun S hs hr=>Z0t rfl rfl (vh hs 116 rfl rfl) (vk rfl))<|SMw rfl<|Zt rfl<|Sd (lo [119] [] rfl fun S hs hr=>Z0t rfl rfl (vh hs 119 rfl rfl) (vk rfl))<|Sd (lo [118,120] [] rfl fun S hs hr=>Z2k (l:=l36) hvl0_446 rfl rfl rfl Z0h (vh hs 118 rfl rfl) (vh hs 120 rfl rfl) hx39)<|Sd (lo [121] [0] rfl fun S hs hr=>Z1r 0 rfl rfl Z11 (vh hs 121 rfl rfl) ((hr 0 rfl).trans rfl) (Z0n hx39).2)<|SMw rfl<|Zt rfl<|Sd (lo [123,124] [] rfl fun S hs hr=>Z2k (l:=l36) hvl0_446 rfl rfl rfl Z0h (vh hs 123 rfl rfl) (vh hs 124 rfl rfl) hx40)<|Sd (lo [125] [0] rfl fun S hs hr=>Z1r 0 rfl rfl Z11 (vh hs 125 rfl rfl) ((hr 0 rfl).trans rfl) (Z0n hx40).2)<|Sd (lo [113,114] [] rfl fun S hs hr=>Z2k (l:=l36) hvl0_446 rfl rfl rfl Z0h (vh hs 113 rfl rfl) (vh hs 114 rfl rfl) hx41)<|Sd (Z4q [127,122] [0] rfl fun S hs hr=>Z30 0 rfl rfl Z11 (vh hs 127 rfl rfl) ((hr 0 rfl).trans rfl) (Z0n hx41).2 (vh hs 122 rfl rfl))<|Sd (lo [115,117] [] rfl fun S hs hr=>Z2k (l:=(List.set l36 k37.toNat x39)) hvl0_446 (by simp) rfl rfl Z0h (vh hs 115 rfl rfl) (vh hs 117 rfl rfl) hx42)<|Sd (Z4q [128,126] [0] rfl fun S hs hr=>Z30 0 rfl rfl Z11 (vh hs 128 rfl rfl) ((hr 0 rfl).trans rfl) (Z0n hx42).2 (vh hs 126 rfl rfl))<|Sn<|Rg<|Md rfl<|Ac (Z0t rfl rfl (vt rfl) (vk rfl)) rfl<|As rfl<|Nl ?_
       exact ⟨(_,_,_),Nat.lt_succ_self _,⟨trivial,h⟩,FX rfl⟩
      ·refine xt<|rt ?_
       cases h;exact Z2e (i:=0) Tryz.results317 rfl rfl
  ·refine sk<|sq ?_
   obtain ⟨q43,hq43,h⟩:=Z7 h
   refine Rg<|Md rfl<|Md rfl<|Ac (Z05 rfl rfl (vt rfl) (vt rfl)) rfl<|Ac (Z9n rfl rfl us3 Z96 (vt rfl)) rfl<|Ac (Z70 rfl rfl (vt rfl) (Z5s (vku (1:BitVec 64) rfl)) hq43) rfl<|Ac (Za8 rfl rfl Zbk un3 (vt rfl)) rfl<|As rfl<|Nl<|SR<|Md rfl<|Md rfl<|Ac (Z05 rfl rfl (vt rfl) (vt rfl)) rfl<|As rfl<|Nl<|SR<|Ak rfl<|Ak rfl<|Nl ?_
   refine JN (d:=[]) (ν:=Int×Int) (fun (s44,x45)=>(Zi5 d1 q43 m4 x6 a3 R_slices_symMergeCmpFunc_Action b5 s44 x45=some r,[(0,Zc v2),(1,rd (Z0 .i64) a3),(2,rd (Z0 .i64) m4),(3,rd (Z0 .i64) b5),(4,fn2 Tryz.prog Z9 Z9 (Z0 .i64) x6),(18,rd (Z0 .i64) (IntKind.i64.wrap (q43.toNat:Int))),(19,rd (Z0 .i64) (IntKind.i64.wrap ((IntKind.i64.wrap (q43.toNat:Int))+m4))),(20,rd (Z0 .i64) s44),(21,rd (Z0 .i64) x45)],[(0,Zg v2 219 Z9 d1)])) ?hx5 ?hy5
   case hy5=>
    rintro ⟨s44,x45⟩ h
    dsimp only at h ⊢
    unfold Zi5 at h
    refine SR<|Md rfl<|Ac (Z0t rfl rfl (vt rfl) (vk rfl)) rfl<|As rfl<|Nl<|sq<|bk<|LG (d:=[]) (ν:=Nat×Int×Int) (fun (m50,s48,x49)=>(True∧Zci d1 q43 m4 x6 a3 R_slices_symMergeCmpFunc_Action b5 m50 s48 x49=some r,m50,[(0,Zc v2),(1,rd (Z0 .i64) a3),(2,rd (Z0 .i64) m4),(3,rd (Z0 .i64) b5),(4,fn2 Tryz.prog Z9 Z9 (Z0 .i64) x6),(18,rd (Z0 .i64) (IntKind.i64.wrap (q43.toNat:Int))),(19,rd (Z0 .i64) (IntKind.i64.wrap ((IntKind.i64.wrap (q43.toNat:Int))+m4))),(20,rd (Z0 .i64) s48),(21,rd (Z0 .i64) x49),(22,rd (Z0 .i64) (IntKind.i64.wrap ((IntKind.i64.wrap ((IntKind.i64.wrap (q43.toNat:Int))+m4)) - 1)))],[(0,Zg v2 219 Z9 d1)])) ((((x45:Int) - s44).toNat+1),s44,x45) ⟨trivial,h⟩ (FX rfl) ?_
    rintro ⟨m50,s48,x49⟩ ⟨hsf6,h⟩
    dsimp only at h ⊢
    cases m50 with
    | zero=>cases h
    | succ m50=>
     unfold Zci at h
     refine sq<|SR<|Md rfl<|Md rfl<|Ac (Zj rfl rfl (vt rfl) (vt rfl)) rfl<|Nl<|Cq rfl h (fun h=>?_) (fun h=>?_)
     ·refine sk<|bk<|sq ?_
      obtain ⟨q51,hq51,h⟩:=Z7 h
      refine Rg<|Md rfl<|Md rfl<|Ac (Z05 rfl rfl (vt rfl) (vt rfl)) rfl<|Ac (Z9n rfl rfl us3 Z96 (vt rfl)) rfl<|Ac (Z70 rfl rfl (vt rfl) (Z5s (vku (1:BitVec 64) rfl)) hq51) rfl<|Ac (Za8 rfl rfl Zbk un3 (vt rfl)) rfl<|As rfl<|Nl<|sq ?_
      obtain ⟨x52,hx52,x53,hx53,x54,hx54,h⟩:=bs3 h
      refine AR Z00 (by kernel_rfl)<|Sd (lo [4] [] rfl fun S hs hr=>Zq (A:=fn2 Tryz.prog Z9 Z9 (Z0 .i64) x6) rfl rfl (vh hs 4 rfl rfl))<|SMw rfl<|Zt rfl<|Zt rfl<|Sd (lo [160,161] [] rfl fun S hs hr=>Z0t rfl rfl (vh hs 160 rfl rfl) (vh hs 161 rfl rfl))<|Sd (lo [159,162] [0] rfl fun S hs hr=>Z23 0 rfl rfl Z0h (vh hs 159 rfl rfl) ((hr 0 rfl).trans rfl) (vh hs 162 rfl rfl) hx52)<|Sd (lo [163] [0] rfl fun S hs hr=>Z1r 0 rfl rfl Z11 (vh hs 163 rfl rfl) ((hr 0 rfl).trans rfl) (Z0n hx52).2)<|SMw rfl<|Zt rfl<|Sd (lo [165,166] [0] rfl fun S hs hr=>Z23 0 rfl rfl Z0h (vh hs 165 rfl rfl) ((hr 0 rfl).trans rfl) (vh hs 166 rfl rfl) hx53)<|Sd (lo [167] [0] rfl fun S hs hr=>Z1r 0 rfl rfl Z11 (vh hs 167 rfl rfl) ((hr 0 rfl).trans rfl) (Z0n hx53).2)<|Sd (lo [158,164,168] [] rfl fun S hs hr=>Zd2 hx54 rfl rfl (vh hs 158 rfl rfl) (vh hs 164 rfl rfl) (vh hs 168 rfl rfl))<|Sd (lo [169] [] rfl fun S hs hr=>Zj rfl rfl (vh hs 169 rfl rfl) (vk rfl))<|Sd (lo [170] [] rfl fun S hs hr=>Z0z rfl rfl (vh hs 170 rfl rfl))<|Sn<|Cq rfl h (fun h=>?_) (fun h=>?_)
      ·refine Rg<|Md rfl<|Ac (Z05 rfl rfl (vt rfl) (vk rfl)) rfl<|As rfl<|Nl ?_
       exact ⟨(_,_,_),Nat.lt_succ_self _,⟨trivial,h⟩,FX rfl⟩
      ·refine Rg<|Md rfl<|As rfl<|Nl ?_
       exact ⟨(_,_,_),Nat.lt_succ_self _,⟨trivial,h⟩,FX rfl⟩
     ·refine xt<|SR<|Md rfl<|Md rfl<|Ac (Z0t rfl rfl (vt rfl) (vt rfl)) rfl<|As rfl<|Nl ?_
      refine JN (d:=[]) (ν:=(List Action)) (fun l55=>(Zck a3 s48 q43 R_slices_symMergeCmpFunc_Action x6 m4 b5 l55=some r,[(0,Zc v2),(1,rd (Z0 .i64) a3),(3,rd (Z0 .i64) b5),(4,fn2 Tryz.prog Z9 Z9 (Z0 .i64) x6),(18,rd (Z0 .i64) (IntKind.i64.wrap (q43.toNat:Int))),(20,rd (Z0 .i64) s48),(24,rd (Z0 .i64) (IntKind.i64.wrap ((IntKind.i64.wrap ((IntKind.i64.wrap (q43.toNat:Int))+m4)) - s48)))],[(0,Zg v2 219 Z9 l55)])) ?hx7 ?hy7
      case hy7=>
       intro l55 h
       dsimp only at h ⊢
       unfold Zck at h
       refine JN (d:=[]) (ν:=(List Action)) (fun l56=>(Zhw q43 m4 s48 b5 R_slices_symMergeCmpFunc_Action x6 l56=some r,[(0,Zc v2),(3,rd (Z0 .i64) b5),(4,fn2 Tryz.prog Z9 Z9 (Z0 .i64) x6),(18,rd (Z0 .i64) (IntKind.i64.wrap (q43.toNat:Int))),(24,rd (Z0 .i64) (IntKind.i64.wrap ((IntKind.i64.wrap ((IntKind.i64.wrap (q43.toNat:Int))+m4)) - s48)))],[(0,Zg v2 219 Z9 l56)])) ?hx8 ?hy8
       case hy8=>
        intro l56 h
        dsimp only at h ⊢
        unfold Zhw at h
        refine SR<|Md rfl<|Md rfl<|Ac (Zj rfl rfl (vt rfl) (vt rfl)) rfl<|Md rfl<|Gd rfl (fun hq=>Zq (A:=rd (Z0 .i64) (IntKind.i64.wrap ((IntKind.i64.wrap ((IntKind.i64.wrap (q43.toNat:Int))+m4)) - s48))) rfl rfl (vt rfl))<|Gd rfl (fun hq=>Zq (A:=rd (Z0 .i64) b5) rfl rfl (vt rfl))<|Gd rfl (fun hq=>Zj rfl rfl (Zi rfl hq) (Zi rfl hq))<|Ac (Z1m rfl rfl (vt rfl) (vt rfl)) rfl<|Nl<|Cq rfl h (fun h=>?_) (fun h=>?_)
        ·obtain ⟨l57,hl57,h⟩:=Z7 h
         refine Rg<|Mw rfl<|Md rfl<|Md rfl<|Md rfl<|Ac (Zq (A:=fn2 Tryz.prog Z9 Z9 (Z0 .i64) x6) rfl rfl (vt rfl)) rfl<|Cv rfl (Z1c 0 (xs:=[.tmp 214,.tmp 215,.tmp 216,.tmp 217,.tmp 218]) (hR_slices_symMergeCmpFunc_Action _ _ _ _ _ _ _ hl57) Zqc rfl rfl ⟨vt rfl,vt rfl,vt rfl,vt rfl,vt rfl,trivial⟩ rfl) fun _u=>Nl ?_
         cases h;exact Z2e (i:=0) Tryz.results317 rfl rfl
        ·refine sk ?_
         cases h;exact Z2e (i:=0) Tryz.results317 rfl rfl
       case hx8=>
        refine SR<|Md rfl<|Md rfl<|Ac (Zj rfl rfl (vt rfl) (vt rfl)) rfl<|Md rfl<|Gd rfl (fun hq=>Zq (A:=rd (Z0 .i64) s48) rfl rfl (vt rfl))<|Gd rfl (fun hq=>Zq (A:=rd (Z0 .i64) (IntKind.i64.wrap (q43.toNat:Int))) rfl rfl (vt rfl))<|Gd rfl (fun hq=>Zj rfl rfl (Zi rfl hq) (Zi rfl hq))<|Ac (Z1m rfl rfl (vt rfl) (vt rfl)) rfl<|Nl<|Cq rfl h (fun h=>?_) (fun h=>?_)
        ·obtain ⟨l58,hl58,h⟩:=Z7 h
         refine Rg<|Mw rfl<|Md rfl<|Md rfl<|Md rfl<|Ac (Zq (A:=fn2 Tryz.prog Z9 Z9 (Z0 .i64) x6) rfl rfl (vt rfl)) rfl<|Cv rfl (Z1c 0 (xs:=[.tmp 200,.tmp 201,.tmp 202,.tmp 203,.tmp 204]) (hR_slices_symMergeCmpFunc_Action _ _ _ _ _ _ _ hl58) Zqc rfl rfl ⟨vt rfl,vt rfl,vt rfl,vt rfl,vt rfl,trivial⟩ rfl) fun _u=>Nl ?_
         exact ⟨_,h,FX rfl⟩
        ·refine sk ?_
         exact ⟨_,h,FX rfl⟩
      case hx7=>
       refine SR<|Md rfl<|Md rfl<|Ac (Zj rfl rfl (vt rfl) (vt rfl)) rfl<|Md rfl<|Gd rfl (fun hq=>Zq (A:=rd (Z0 .i64) m4) rfl rfl (vt rfl))<|Gd rfl (fun hq=>Zq (A:=rd (Z0 .i64) (IntKind.i64.wrap ((IntKind.i64.wrap ((IntKind.i64.wrap (q43.toNat:Int))+m4)) - s48))) rfl rfl (vt rfl))<|Gd rfl (fun hq=>Zj rfl rfl (Zi rfl hq) (Zi rfl hq))<|Ac (Z1m rfl rfl (vt rfl) (vt rfl)) rfl<|Nl<|Cq rfl h (fun h=>?_) (fun h=>?_)
       ·obtain ⟨l59,hl59,h⟩:=Z7 h
        refine Rg<|Mw rfl<|Md rfl<|Md rfl<|Md rfl<|Ac (Zq (A:=fn2 Tryz.prog Z9 Z9 (Z0 .i64) x6) rfl rfl (vt rfl)) rfl<|Cv rfl (Z1c 0 (xs:=[.tmp 186,.tmp 187,.tmp 188,.tmp 189,.tmp 190]) (Yxf _ _ _ _ _ _ _ hl59) Yle rfl rfl ⟨vt rfl,vt rfl,vt rfl,vt rfl,vt rfl,trivial⟩ rfl) fun _u=>Nl ?_
        exact ⟨_,h,FX rfl⟩
       ·refine sk ?_
        exact ⟨_,h,FX rfl⟩
   case hx5=>
    refine SR<|Md rfl<|Md rfl<|Ac (Z2s rfl rfl (vt rfl) (vt rfl)) rfl<|Nl<|Cq rfl h (fun h=>?_) (fun h=>?_)
    ·refine SR<|Md rfl<|Md rfl<|Ac (Z0t rfl rfl (vt rfl) (vt rfl)) rfl<|As rfl<|Nl<|Rg<|Md rfl<|As rfl<|Nl ?_
     exact ⟨(_,_),h,FX rfl⟩
    ·refine SR<|Md rfl<|As rfl<|Nl<|Rg<|Md rfl<|As rfl<|Nl ?_
     exact ⟨(_,_),h,FX rfl⟩
def Zhr:Nat→((List Action)→Int→Int→Int→(Action→Action→Option Int)→Option (List Action))
 | 0=>(fun _ _ _ _ _=>none)
 | n+1=>(Zkm (Zhr n))
theorem Y03:∀n:Nat,(∀(v2:Value) (d1:(List Action)) (a3:Int) (m4:Int) (b5:Int) (x6:(Action→Action→Option Int)) (r:(List Action)),(Zhr n) d1 a3 m4 b5 x6=some r→Con Tryz.prog 317 [Zc v2,rd (Z0 .i64) a3,rd (Z0 .i64) m4,rd (Z0 .i64) b5,fn2 Tryz.prog Z9 Z9 (Z0 .i64) x6] (Zg v2 219 Z9 d1) (fun _:Unit=>top) (fun _=>Zg v2 219 Z9 r))
 | 0=>(by intros;rename_i h;cases h)
 | n+1=>by
  have ih:=Y03 n
  exact (Yfz (Zhr n) ih)
def Zol (d1:(List Action))(a3:Int)(m4:Int)(b5:Int)(x6:(Action→Action→Option Int)):Option (List Action):=(Zhr Z0v) d1 a3 m4 b5 x6
theorem Y9p:∀(v2:Value) (d1:(List Action)) (a3:Int) (m4:Int) (b5:Int) (x6:(Action→Action→Option Int)) (r:(List Action)),Zol d1 a3 m4 b5 x6=some r→Con Tryz.prog 317 [Zc v2,rd (Z0 .i64) a3,rd (Z0 .i64) m4,rd (Z0 .i64) b5,fn2 Tryz.prog Z9 Z9 (Z0 .i64) x6] (Zg v2 219 Z9 d1) (fun _:Unit=>top) (fun _=>Zg v2 219 Z9 r):=Y03 Z0v
def Zg3 (n3:Int)(b17:Int)(x4:(Action→Action→Option Int))(go2:(List Action)→Int→Option (List Action)):Nat→(List Action)→Int→Int→Option (List Action)
 | 0,_,_,_=>none
 | m25+1,l22,a23,b24=>(bif (decide (b24≤n3)) then (Zol l22 a23 (IntKind.i64.wrap (a23+b17)) b24 x4).bind fun l26=>(Zg3 n3 b17 x4 go2 m25) l26 b24 (IntKind.i64.wrap (b24+(IntKind.i64.wrap (2*b17)))) else (bif (decide ((IntKind.i64.wrap (a23+b17))<n3)) then (Zol l22 a23 (IntKind.i64.wrap (a23+b17)) n3 x4).bind fun l27=>go2 l27 (IntKind.i64.wrap (b17*2)) else go2 l22 (IntKind.i64.wrap (b17*2))))
def Z9r (n3:Int)(x4:(Action→Action→Option Int)):Nat→(List Action)→Int→Option (List Action)
 | 0,_,_=>none
 | m18+1,l16,b17=>(bif (decide (b17<n3)) then Zg3 n3 b17 x4 (Z9r n3 x4 m18) (((n3:Int) - (IntKind.i64.wrap (2*b17))).toNat+2) l16 0 (IntKind.i64.wrap (2*b17)) else some l16)
def Zfb (n3:Int)(x4:(Action→Action→Option Int)):Nat→(List Action)→Int→Int→Option (List Action)
 | 0,_,_,_=>none
 | m11+1,l8,a9,b10=>(bif (decide (b10≤n3)) then (Zcr l8 a9 b10 x4).bind fun l12=>(Zfb n3 x4 m11) l12 b10 (IntKind.i64.wrap (b10+20)) else (Zcr l8 a9 n3 x4).bind fun l13=>Z9r n3 x4 (((n3:Int) - 20).toNat+1) l13 20)
def Zk1 (d1:(List Action))(n3:Int)(x4:(Action→Action→Option Int)):Option (List Action):=
 Zfb n3 x4 (((n3:Int) - 20).toNat+2) d1 0 20
theorem Ytt (v2:Value)(d1:(List Action))(n3:Int)(x4:(Action→Action→Option Int))(r:(List Action))(h:Zk1 d1 n3 x4=some r):Con Tryz.prog 241 [Zc v2,rd (Z0 .i64) n3,fn2 Tryz.prog Z9 Z9 (Z0 .i64) x4] (Zg v2 219 Z9 d1) (fun _:Unit=>top) (fun _=>Zg v2 219 Z9 r):=by
 refine Con.intro Tryz.func241 rfl Tryz.ntmps241 rfl fun w H X Z=>?_
 unfold Zk1 at h
 refine SR<|Ak rfl<|Nl<|SR<|Md rfl<|Ak rfl<|As rfl<|Nl<|sq<|bk<|LG (d:=[]) (ν:=Nat×(List Action)×Int×Int) (fun (m11,l8,a9,b10)=>(True∧Zfb n3 x4 m11 l8 a9 b10=some r,m11,[(0,Zc v2),(1,rd (Z0 .i64) n3),(2,fn2 Tryz.prog Z9 Z9 (Z0 .i64) x4),(6,rd (Z0 .i64) 20),(7,rd (Z0 .i64) a9),(8,rd (Z0 .i64) b10)],[(0,Zg v2 219 Z9 l8)])) ((((n3:Int) - 20).toNat+2),d1,0,20) ⟨trivial,h⟩ (FX rfl) ?_
 rintro ⟨m11,l8,a9,b10⟩ ⟨hsf1,h⟩
 dsimp only at h ⊢
 cases m11 with
 | zero=>cases h
 | succ m11=>
  unfold Zfb at h
  refine sq<|SR<|Md rfl<|Md rfl<|Ac (Z68 rfl rfl (vt rfl) (vt rfl)) rfl<|Nl<|Cq rfl h (fun h=>?_) (fun h=>?_)
  ·refine sk<|bk<|sq ?_
   obtain ⟨l12,hl12,h⟩:=Z7 h
   refine Rg<|Mw rfl<|Md rfl<|Md rfl<|Ac (Zq (A:=fn2 Tryz.prog Z9 Z9 (Z0 .i64) x4) rfl rfl (vt rfl)) rfl<|Cv rfl (Z1c 0 (xs:=[.tmp 14,.tmp 15,.tmp 16,.tmp 17]) (Y6g _ _ _ _ _ _ hl12) Y2f rfl rfl ⟨vt rfl,vt rfl,vt rfl,vt rfl,trivial⟩ rfl) fun _u=>Nl<|SR<|Md rfl<|As rfl<|Nl<|Rg<|Md rfl<|Md rfl<|Ac (Z05 rfl rfl (vt rfl) (vt rfl)) rfl<|As rfl<|Nl ?_
   exact ⟨(_,_,_,_),Nat.lt_succ_self _,⟨trivial,h⟩,FX rfl⟩
  ·refine xt<|sq ?_
   obtain ⟨l13,hl13,h⟩:=Z7 h
   refine Rg<|Mw rfl<|Md rfl<|Md rfl<|Ac (Zq (A:=fn2 Tryz.prog Z9 Z9 (Z0 .i64) x4) rfl rfl (vt rfl)) rfl<|Cv rfl (Z1c 0 (xs:=[.tmp 23,.tmp 24,.tmp 25,.tmp 26]) (Y6g _ _ _ _ _ _ hl13) Y2f rfl rfl ⟨vt rfl,vt rfl,vt rfl,vt rfl,trivial⟩ rfl) fun _u=>Nl<|bk<|LG (d:=[]) (ν:=Nat×(List Action)×Int) (fun (m18,l16,b17)=>(True∧Z9r n3 x4 m18 l16 b17=some r,m18,[(0,Zc v2),(1,rd (Z0 .i64) n3),(2,fn2 Tryz.prog Z9 Z9 (Z0 .i64) x4),(6,rd (Z0 .i64) b17)],[(0,Zg v2 219 Z9 l16)])) ((((n3:Int) - 20).toNat+1),l13,20) ⟨trivial,h⟩ (FX rfl) ?_
   rintro ⟨m18,l16,b17⟩ ⟨hsf2,h⟩
   dsimp only at h ⊢
   cases m18 with
   | zero=>cases h
   | succ m18=>
    unfold Z9r at h
    refine sq<|SR<|Md rfl<|Md rfl<|Ac (Zj rfl rfl (vt rfl) (vt rfl)) rfl<|Nl<|Cq rfl h (fun h=>?_) (fun h=>?_)
    ·refine sk<|bk<|SR<|Md rfl<|Ac (Z8g rfl rfl (vk rfl) (vt rfl)) rfl<|Ak rfl<|As rfl<|Nl<|sq<|bk<|LG (d:=[]) (ν:=Nat×(List Action)×Int×Int) (fun (m25,l22,a23,b24)=>(True∧Zg3 n3 b17 x4 (Z9r n3 x4 m18) m25 l22 a23 b24=some r,m25,[(0,Zc v2),(1,rd (Z0 .i64) n3),(2,fn2 Tryz.prog Z9 Z9 (Z0 .i64) x4),(6,rd (Z0 .i64) b17),(7,rd (Z0 .i64) a23),(8,rd (Z0 .i64) b24)],[(0,Zg v2 219 Z9 l22)])) ((((n3:Int) - (IntKind.i64.wrap (2*b17))).toNat+2),l16,0,(IntKind.i64.wrap (2*b17))) ⟨trivial,h⟩ (FX rfl) ?_
     rintro ⟨m25,l22,a23,b24⟩ ⟨hsf3,h⟩
     dsimp only at h ⊢
     cases m25 with
     | zero=>cases h
     | succ m25=>
      unfold Zg3 at h
      refine sq<|SR<|Md rfl<|Md rfl<|Ac (Z68 rfl rfl (vt rfl) (vt rfl)) rfl<|Nl<|Cq rfl h (fun h=>?_) (fun h=>?_)
      ·refine sk<|bk<|sq ?_
       obtain ⟨l26,hl26,h⟩:=Z7 h
       refine Rg<|Mw rfl<|Md rfl<|Md rfl<|Md rfl<|Ac (Z05 rfl rfl (vt rfl) (vt rfl)) rfl<|Md rfl<|Ac (Zq (A:=fn2 Tryz.prog Z9 Z9 (Z0 .i64) x4) rfl rfl (vt rfl)) rfl<|Cv rfl (Z1c 0 (xs:=[.tmp 36,.tmp 37,.tmp 40,.tmp 41,.tmp 42]) (Y9p _ _ _ _ _ _ _ hl26) Zqc rfl rfl ⟨vt rfl,vt rfl,vt rfl,vt rfl,vt rfl,trivial⟩ rfl) fun _u=>Nl<|SR<|Md rfl<|As rfl<|Nl<|Rg<|Md rfl<|Md rfl<|Ac (Z8g rfl rfl (vk rfl) (vt rfl)) rfl<|Ac (Z05 rfl rfl (vt rfl) (vt rfl)) rfl<|As rfl<|Nl ?_
       exact ⟨(_,_,_,_),Nat.lt_succ_self _,⟨trivial,h⟩,FX rfl⟩
      ·refine xt<|sq<|SR<|Md rfl<|Md rfl<|Ac (Z05 rfl rfl (vt rfl) (vt rfl)) rfl<|As rfl<|Nl<|SR<|Md rfl<|Md rfl<|Ac (Zj rfl rfl (vt rfl) (vt rfl)) rfl<|Nl<|Cq rfl h (fun h=>?_) (fun h=>?_)
       ·obtain ⟨l27,hl27,h⟩:=Z7 h
        refine Rg<|Mw rfl<|Md rfl<|Md rfl<|Md rfl<|Ac (Zq (A:=fn2 Tryz.prog Z9 Z9 (Z0 .i64) x4) rfl rfl (vt rfl)) rfl<|Cv rfl (Z1c 0 (xs:=[.tmp 55,.tmp 56,.tmp 57,.tmp 58,.tmp 59]) (Y9p _ _ _ _ _ _ _ hl27) Zqc rfl rfl ⟨vt rfl,vt rfl,vt rfl,vt rfl,vt rfl,trivial⟩ rfl) fun _u=>Nl<|Rg<|Md rfl<|Ac (Z8g rfl rfl (vt rfl) (vk rfl)) rfl<|As rfl<|Nl ?_
        exact ⟨(_,_,_),Nat.lt_succ_self _,⟨trivial,h⟩,FX rfl⟩
       ·refine sk<|Rg<|Md rfl<|Ac (Z8g rfl rfl (vt rfl) (vk rfl)) rfl<|As rfl<|Nl ?_
        exact ⟨(_,_,_),Nat.lt_succ_self _,⟨trivial,h⟩,FX rfl⟩
    ·refine xt ?_
     cases h;exact Z2e (i:=0) Tryz.results241 rfl rfl
def Zey (x1:(List Action))(x3:(Action→Action→Option Int)):Option (List Action):=
 (Zk1 x1 (x1.length:Int) x3).bind fun l4=>some l4
theorem Yd2 (v2:Value)(x1:(List Action))(x3:(Action→Action→Option Int))(r:(List Action))(h:Zey x1 x3=some r):Con Tryz.prog 151 [Zc v2,fn2 Tryz.prog Z9 Z9 (Z0 .i64) x3] (Zg v2 219 Z9 x1) (fun _:Unit=>top) (fun _=>Zg v2 219 Z9 r):=by
 refine Con.intro Tryz.func151 rfl Tryz.ntmps151 rfl fun w H X Z=>?_
 unfold Zey at h
 obtain ⟨l4,hl4,h⟩:=Z7 h
 refine Rg<|Mw rfl<|Mw rfl<|Ac (Z51 0 rfl rfl Z0h (vt rfl) rfl) rfl<|Ac (Zq (A:=fn2 Tryz.prog Z9 Z9 (Z0 .i64) x3) rfl rfl (vt rfl)) rfl<|Cv rfl (Z1c 0 (xs:=[.tmp 4,.tmp 6,.tmp 7]) (Ytt _ _ _ _ _ hl4) Yx7 rfl rfl ⟨vt rfl,vt rfl,vt rfl,trivial⟩ rfl) fun _u=>Nl ?_
 cases h;exact Z2e (i:=0) Tryz.results151 rfl rfl
def Z9e (a1:Action)(b2:Action):Option Int:=
 (Zd8 a1).bind fun x5=>(Zd8 b2).bind fun x6=>(Zdl x5.kind).bind fun x9=>(Zdl x6.kind).bind fun x10=>(bif (decide ((IntKind.i64.wrap (x9 - x10))≠0)) then some (IntKind.i64.wrap (x9 - x10)) else (bif (decide (x5.field<x6.field)) then some (-1) else (bif (decide (x5.field>x6.field)) then some 1 else some 0)))
theorem Yxk:Q2 Tryz.prog 152 (rd Z9) (rd Z9) (rd (Z0 .i64)) Z9e:=fun a1 b2 r h=>I0 Tryz.func152 rfl Tryz.ntmps152 rfl fun w H Z=>by
 unfold Z9e at h
 refine SR<|Cv rfl (Zs 3 rfl rfl (vt rfl)) fun g3=>Cv rfl (Zs 4 rfl rfl (vt rfl)) fun g4=>Ak rfl<|Nl<|sq ?_
 obtain ⟨x5,hx5,x6,hx6,h⟩:=bs2 h
 refine AR Z00 (by kernel_rfl)<|Zp Z11 3 rfl<|SCl [8] (Zp5 _ _ hx5) Zpm rfl<|Zp Z11 4 rfl<|SCl [10] (Zp5 _ _ hx6) Zpm rfl<|Sd (Z1g (us:=[(5,Z2u 225 Z7t Zs2)]) (ur:=[]) [] [] rfl fun S hs hr=>Z7x rfl rfl rfl Zm7)<|Sd (Z1g (us:=[(6,Z2u 225 Z7t Zs2)]) (ur:=[]) [] [] rfl fun S hs hr=>Z7x rfl rfl rfl Zm7)<|Sd (Z1g (us:=[(5,Z2u 225 Z7t x5)]) (ur:=[]) [5,9] [] rfl fun S hs hr=>Z89 rfl rfl Zjn ((hs 5 rfl).trans rfl) (vh hs 9 rfl rfl))<|Sd (Z1g (us:=[(6,Z2u 225 Z7t x6)]) (ur:=[]) [6,11] [] rfl fun S hs hr=>Z89 rfl rfl Zjn ((hs 6 rfl).trans rfl) (vh hs 11 rfl rfl))<|Sn<|AW.unpackP 5 6 rfl rfl fun g7=>AW.unpackP 6 7 rfl rfl fun g8=>sq<|sq ?_
 obtain ⟨x9,hx9,x10,hx10,h⟩:=bs2 h
 refine AR Z00 (by kernel_rfl)<|SFd laset_spot_0 Y7h rfl<|Zp Zo 6 rfl<|SCl [13] (Ztm _ _ hx9) Zua rfl<|SFd laset_spot_0 Y7h rfl<|Zp Zo 7 rfl<|SCl [16] (Ztm _ _ hx10) Zua rfl<|Sd (lo [14,17] [] rfl fun S hs hr=>Z0t rfl rfl (vh hs 14 rfl rfl) (vh hs 17 rfl rfl))<|SAs rfl<|Sn<|SR<|Md rfl<|Ac (Z6f rfl rfl (vt rfl) (vk rfl)) rfl<|Nl<|Cq rfl h (fun h=>?_) (fun h=>?_)
 ·refine SR<|Md rfl<|As rfl<|Nl<|rt ?_
  cases h;exact Zd Tryz.results152 rfl (Z5 rfl)
 ·refine sk<|sq<|bk<|SR<|Zk laset_spot_1 Zon rfl<|Ld Zo 6 rfl<|Zk laset_spot_1 Zon rfl<|Ld Zo 7 rfl<|Ac (Zj rfl rfl (vt rfl) (vt rfl)) rfl<|As rfl<|Nl<|Cq rfl h (fun h=>?_) (fun h=>?_)
  ·refine SR<|Ak rfl<|Nl<|rt ?_
   cases h;exact Zd Tryz.results152 rfl (Z5 rfl)
  ·refine SR<|Zk laset_spot_1 Zon rfl<|Ld Zo 6 rfl<|Zk laset_spot_1 Zon rfl<|Ld Zo 7 rfl<|Ac (Z2s rfl rfl (vt rfl) (vt rfl)) rfl<|As rfl<|Nl<|Cq rfl h (fun h=>?_) (fun h=>?_)
   ·refine SR<|Ak rfl<|Nl<|rt ?_
    cases h;exact Zd Tryz.results152 rfl (Z5 rfl)
   ·refine sk<|SR<|Ak rfl<|Nl<|rt ?_
    cases h;exact Zd Tryz.results152 rfl (Z5 rfl)
def Z8d (s1:(List Action)):Option (List Action):=
 (Zln s1 Zjw).bind fun x2=>(Z7l s1).bind fun x4=>(Zls x4 (fun x=>Zc8 x x2)).bind fun x6=>(Zey x6 Z9e).bind fun l8=>some l8
theorem Zwg:Q1 Tryz.prog 72 (rd (Z1 Z9)) (rd (Z1 Z9)) Z8d:=fun s1 r h=>I0 Tryz.func72 rfl Tryz.ntmps72 rfl fun w H Z=>by
 unfold Z8d at h
 refine SR<|Ac (Zv (A:=rd (Z1 Z9) []) rfl rfl Z1j) rfl<|Nl<|sq ?_
 obtain ⟨x2,hx2,h⟩:=Z7 h
 refine Rg<|Md rfl<|Ac (Z0g (xs:=[.tmp 5,.func 146]) (Ypi _ _ _ hx2) Yks rfl rfl ⟨vt rfl,vf1 Ys4 Yh4,trivial⟩) rfl<|Cv rfl (Zm 4 rfl rfl zr4) fun g3=>Zf ty4 4 rfl<|Nl<|sq<|AW.freezeB 3 4 rfl rfl rfl ?_
 obtain ⟨x4,hx4,x6,hx6,h⟩:=bs2 h
 refine Rg<|Md rfl<|Cv rfl (Z1c 1001 (xs:=[.tmp 7]) (Ztr _ _ hx4) Zni rfl rfl ⟨vt rfl,trivial⟩ rfl) fun v5=>Ac (Z8l (cs:=[.tmp 3]) (CAs:=[rp Z6 x2]) (fun x=>Zc8 x x2) rfl rfl Yr9 ⟨vt rfl,trivial⟩ (fun x y h=>Yv6 _ _ y h)) rfl<|Cv rfl (Z1c 1001 (xs:=[.tmp 8,.tmp 9]) (Yv8 _ _ _ _ hx6) Yln rfl rfl ⟨vt rfl,vt rfl,trivial⟩ rfl) fun v7=>Aw rfl<|Nl<|sq ?_
 obtain ⟨l8,hl8,h⟩:=Z7 h
 refine Rg<|Mw rfl<|Cv rfl (Z1c 1001 (xs:=[.tmp 11,.func 152]) (Yd2 _ _ _ _ hl8) Yvn rfl rfl ⟨vt rfl,vf2 Ygi Yxk,trivial⟩ rfl) fun _u=>Nl<|SR<|Mw rfl<|Aw rfl<|Nl<|AW.freezes [2,4,10,11,13] 1001 rfl ⟨rfl,rfl,rfl,rfl,rfl,trivial⟩ rfl<|rt ?_
 cases h;exact Zd Tryz.results72 rfl (Z5 rfl)
def Zj2 (l3:(List Inst))(a2:Int)(b9:walk_way):Option (walk_way×Int×Bool):=
 (Z6q l3 1).bind fun x10=>(bif ((x10.2&&(decide (x10.1.Table>a2)))&&(decide (x10.1.Table<4))) then some (b9,x10.1.Table,true) else (Z8d b9.set).bind fun x12=>(Zeg b9 x12).bind fun x13=>some (x13,0,false))
def Zgb (l3:(List Inst))(a2:Int)(b8:walk_way):Option (walk_way×Int×Bool):=
 (Z6q l3 2).bind fun x14=>(bif x14.2 then (Z9x b8.got 1 x14.1.Value x14.1.Mask).bind fun x16=>Zj2 l3 a2 {b8 with got:=x16} else Zj2 l3 a2 b8)
def Zg2 (l3:(List Inst))(a2:Int)(b7:walk_way):Option (walk_way×Int×Bool):=
 (Z6q l3 3).bind fun x17=>(bif x17.2 then (Ze3 b7.set x17.1.Acts).bind fun x19=>Zgb l3 a2 {b7 with set:=x19} else Zgb l3 a2 b7)
def Zgt (l3:(List Inst))(a2:Int)(b6:walk_way):Option (walk_way×Int×Bool):=
 (Z6q l3 5).bind fun x20=>(bif x20.2 then Zg2 l3 a2 {b6 with set:=[]} else Zg2 l3 a2 b6)
def Zmc (w1:walk_way)(a2:Int)(l3:(List Inst)):Option (walk_way×Int×Bool):=
 (Z6q l3 4).bind fun x22=>(bif x22.2 then (Zeg w1 x22.1.Acts).bind fun x24=>Zgt l3 a2 x24 else Zgt l3 a2 w1)
theorem Yg8:Q3 Tryz.prog 305 (rd Z22) (rd (Z0 .i64)) (rd (Z1 Z0b)) (fun r=>Z4o (rd Z22 r.1) (rd (Z0 .i64) r.2.1) (rd Z6 r.2.2)) Zmc:=fun w1 a2 l3 r h=>I0 Tryz.func305 rfl Tryz.ntmps305 rfl fun w H Z=>by
 unfold Zmc at h
 refine SR<|Cv rfl (Zs 4 rfl rfl (vt rfl)) fun g4=>Cv rfl (Zm 7 rfl rfl Zjk) fun g5=>Ak rfl<|Ab rfl<|Nl ?_
 refine JN (d:=[]) (ν:=walk_way) (fun b6=>(Zgt l3 a2 b6=some r,[(1,rd (Z0 .i64) a2),(2,rd (Z1 Z0b) l3),(3,Zb g4 (Lens.id Z22)),(6,Zb g5 (Lens.id Z22))],[(4,Zh g4 304 Z22 b6),(7,Zh g5 304 Z22 Zgd)])) ?hx1 ?hy1
 case hy1=>
  intro b6 h
  dsimp only at h ⊢
  unfold Zgt at h
  refine JN (d:=[]) (ν:=walk_way) (fun b7=>(Zg2 l3 a2 b7=some r,[(1,rd (Z0 .i64) a2),(2,rd (Z1 Z0b) l3),(3,Zb g4 (Lens.id Z22)),(6,Zb g5 (Lens.id Z22))],[(4,Zh g4 304 Z22 b7),(7,Zh g5 304 Z22 Zgd)])) ?hx2 ?hy2
  case hy2=>
   intro b7 h
   dsimp only at h ⊢
   unfold Zg2 at h
   refine JN (d:=[]) (ν:=walk_way) (fun b8=>(Zgb l3 a2 b8=some r,[(1,rd (Z0 .i64) a2),(2,rd (Z1 Z0b) l3),(3,Zb g4 (Lens.id Z22)),(6,Zb g5 (Lens.id Z22))],[(4,Zh g4 304 Z22 b8),(7,Zh g5 304 Z22 Zgd)])) ?hx3 ?hy3
   case hy3=>
    intro b8 h
    dsimp only at h ⊢
    unfold Zgb at h
    refine JN (d:=[]) (ν:=walk_way) (fun b9=>(Zj2 l3 a2 b9=some r,[(1,rd (Z0 .i64) a2),(2,rd (Z1 Z0b) l3),(3,Zb g4 (Lens.id Z22)),(6,Zb g5 (Lens.id Z22))],[(4,Zh g4 304 Z22 b9),(7,Zh g5 304 Z22 Zgd)])) ?hx4 ?hy4
    case hy4=>
     intro b9 h
     dsimp only at h ⊢
     unfold Zj2 at h
     refine sq ?_
     obtain ⟨x10,hx10,h⟩:=Z7 h
     refine Rg<|Md rfl<|Ac (Z0g (xs:=[.tmp 63,.const (Value.int IntKind.i64 1)]) (Z9y _ _ _ hx10) Z9h rfl rfl ⟨vt rfl,vk rfl,trivial⟩) rfl<|Mt2 rfl<|Ac (Z1e rfl rfl (vt rfl)) rfl<|Ac (Z1a rfl rfl (vt rfl)) rfl<|Cv rfl (Zm 18 rfl rfl Z3k) fun g11=>Zf Z2b 18 rfl<|As rfl<|Nl<|sq<|SR<|Md rfl<|Md rfl<|Gd rfl (fun hq=>Z2v Z84 rfl rfl Z8s (vt rfl))<|Gd rfl (fun hq=>Z1z rfl rfl Zo (Zi rfl hq) (i:=18) rfl)<|Gd rfl (fun hq=>Zq (A:=rd (Z0 .i64) a2) rfl rfl (vt rfl))<|Gd rfl (fun hq=>Z2s rfl rfl (Zi rfl hq) (Zi rfl hq))<|Ac (Z1m rfl rfl (vt rfl) (vt rfl)) rfl<|Md rfl<|Gd rfl (fun hq=>Z2v Z84 rfl rfl Z8s (vt rfl))<|Gd rfl (fun hq=>Z1z rfl rfl Zo (Zi rfl hq) (i:=18) rfl)<|Gd rfl (fun hq=>Zj rfl rfl (Zi rfl hq) (vk rfl))<|Ac (Z1m rfl rfl (vt rfl) (vt rfl)) rfl<|Nl<|Cq rfl h (fun h=>?_) (fun h=>?_)
     ·refine sq<|AR Z00 (by kernel_rfl)<|Zp Z3z 4 rfl<|SFd Z84 Z8s rfl<|Zp Zo 18 rfl<|SSt Z3z 7 rfl<|SAs rfl<|Sd (lo [] [] rfl fun S hs hr=>Zv (A:=rd Z6 true) rfl rfl vb)<|Sn<|rt ?_
      cases h;exact Zft Tryz.results305 rfl (Zx rfl (i:=7) rfl Z3z) (Z5 rfl) (Z5 rfl)
     ·refine sk<|sq ?_
      obtain ⟨x12,hx12,x13,hx13,h⟩:=bs2 h
      refine AR Z00 (by kernel_rfl)<|Zp Z3z 4 rfl<|SFd Zk8 Zqj rfl<|Zp Z34 4 rfl<|SCl [84] (Zwg _ _ hx12) e72 rfl<|SCl [82,85] (Y15 _ _ _ hx13) Y9t rfl<|SSt Z3z 7 rfl<|Sd (lo [] [] rfl fun S hs hr=>Zv (A:=rd (Z0 .i64) 0) rfl rfl (vk rfl))<|Sd (lo [] [] rfl fun S hs hr=>Zv (A:=rd Z6 false) rfl rfl vb)<|Sn<|rt ?_
      cases h;exact Zft Tryz.results305 rfl (Zx rfl (i:=7) rfl Z3z) (Z5 rfl) (Z5 rfl)
    case hx4=>
     refine sq ?_
     obtain ⟨x14,hx14,h⟩:=Z7 h
     refine Rg<|Md rfl<|Ac (Z0g (xs:=[.tmp 49,.const (Value.int IntKind.i64 2)]) (Z9y _ _ _ hx14) Z9h rfl rfl ⟨vt rfl,vk rfl,trivial⟩) rfl<|Mt2 rfl<|Ac (Z1e rfl rfl (vt rfl)) rfl<|Ac (Z1a rfl rfl (vt rfl)) rfl<|Cv rfl (Zm 16 rfl rfl Z3k) fun g15=>Zf Z2b 16 rfl<|As rfl<|Nl<|SR<|Md rfl<|Nl<|Cq rfl h (fun h=>?_) (fun h=>?_)
     ·obtain ⟨x16,hx16,h⟩:=Z7 h
      refine Rg<|Zk lwalk_way_1 Zof rfl<|Ld Z03 4 rfl<|Zk Zrv Zui rfl<|Ld Zw 16 rfl<|Zk Zsy Zy5 rfl<|Ld Zw 16 rfl<|Ac (Z0g (xs:=[.tmp 55,.const (Value.int IntKind.i64 1),.tmp 57,.tmp 59]) (Zha _ _ _ _ _ hx16) Zgy rfl rfl ⟨vt rfl,vk rfl,vt rfl,vt rfl,trivial⟩) rfl<|Zk lwalk_way_1 Zof rfl<|Zf Z03 4 rfl<|Nl ?_
      exact ⟨_,h,FX rfl⟩
     ·refine sk ?_
      exact ⟨_,h,FX rfl⟩
   case hx3=>
    refine sq ?_
    obtain ⟨x17,hx17,h⟩:=Z7 h
    refine Rg<|Md rfl<|Ac (Z0g (xs:=[.tmp 37,.const (Value.int IntKind.i64 3)]) (Z9y _ _ _ hx17) Z9h rfl rfl ⟨vt rfl,vk rfl,trivial⟩) rfl<|Mt2 rfl<|Ac (Z1e rfl rfl (vt rfl)) rfl<|Ac (Z1a rfl rfl (vt rfl)) rfl<|Cv rfl (Zm 14 rfl rfl Z3k) fun g18=>Zf Z2b 14 rfl<|As rfl<|Nl<|SR<|Md rfl<|Nl<|Cq rfl h (fun h=>?_) (fun h=>?_)
    ·obtain ⟨x19,hx19,h⟩:=Z7 h
     refine Rg<|Zk Zk8 Zqj rfl<|Ld Z34 4 rfl<|Zk Z6g Z7h rfl<|Ld Z34 14 rfl<|Cl [43,45] (Zy4 _ _ _ hx19) Zuo rfl<|Zk Zk8 Zqj rfl<|Zf Z34 4 rfl<|Nl ?_
     exact ⟨_,h,FX rfl⟩
    ·refine sk ?_
     exact ⟨_,h,FX rfl⟩
  case hx2=>
   refine sq ?_
   obtain ⟨x20,hx20,h⟩:=Z7 h
   refine Rg<|Md rfl<|Ac (Z0g (xs:=[.tmp 30,.const (Value.int IntKind.i64 5)]) (Z9y _ _ _ hx20) Z9h rfl rfl ⟨vt rfl,vk rfl,trivial⟩) rfl<|Mt2 rfl<|Ac (Z1e rfl rfl (vt rfl)) rfl<|Ac (Z1a rfl rfl (vt rfl)) rfl<|Cv rfl (Zm 12 rfl rfl Z3k) fun g21=>Zf Z2b 12 rfl<|As rfl<|Nl<|SR<|Md rfl<|Nl<|Cq rfl h (fun h=>?_) (fun h=>?_)
   ·refine Rg<|Zk Zk8 Zqj rfl<|Ac (Z76 rfl rfl Z34 (vt rfl) (i:=4) rfl Z1j) rfl<|Nl ?_
    exact ⟨_,h,FX rfl⟩
   ·refine sk ?_
    exact ⟨_,h,FX rfl⟩
 case hx1=>
  refine sq ?_
  obtain ⟨x22,hx22,h⟩:=Z7 h
  refine Rg<|Md rfl<|Ac (Z0g (xs:=[.tmp 20,.const (Value.int IntKind.i64 4)]) (Z9y _ _ _ hx22) Z9h rfl rfl ⟨vt rfl,vk rfl,trivial⟩) rfl<|Mt2 rfl<|Ac (Z1e rfl rfl (vt rfl)) rfl<|Ac (Z1a rfl rfl (vt rfl)) rfl<|Cv rfl (Zm 10 rfl rfl Z3k) fun g23=>Zf Z2b 10 rfl<|As rfl<|Nl<|SR<|Md rfl<|Nl<|Cq rfl h (fun h=>?_) (fun h=>?_)
  ·obtain ⟨x24,hx24,h⟩:=Z7 h
   refine Rg<|Ld Z3z 4 rfl<|Zk Z6g Z7h rfl<|Ld Z34 10 rfl<|Cl [25,27] (Y15 _ _ _ hx24) Y9t rfl<|Zf Z3z 4 rfl<|Nl ?_
   exact ⟨_,h,FX rfl⟩
  ·refine sk ?_
   exact ⟨_,h,FX rfl⟩
end Go.Proofs.YtinplddjjalohaaGreatDoor.W
set_option maxHeartbeats 1000000
set_option maxRecDepth 4000
namespace Go.Proofs.YtinplddjjalohaaGreatDoor.W
open Go Go.Wb
theorem Y2e:Ent Tryz.prog 222:=Ent.mk Tryz.func222 rfl rfl
theorem Y6l:Ent Tryz.prog 228:=Ent.mk Tryz.func228 rfl rfl
theorem Yb0:Ent Tryz.prog 306:=Ent.mk Tryz.func306 rfl rfl
theorem Yz8:Ent Tryz.prog 304:=Ent.mk Tryz.func304 rfl rfl
theorem Ysa:Ent Tryz.prog 305:=Ent.mk Tryz.func305 rfl rfl
theorem Y7o:Ent Tryz.prog 225:=Ent.mk Tryz.func225 rfl rfl
theorem Yl0:Ent Tryz.prog 224:=Ent.mk Tryz.func224 rfl rfl
theorem Yvf:Ent Tryz.prog 223:=Ent.mk Tryz.func223 rfl rfl
theorem Yjv:Ent Tryz.prog 136:=Ent.mk Tryz.func136 rfl rfl
theorem Yix:Ent Tryz.prog 135:=Ent.mk Tryz.func135 rfl rfl
def Zf2 (s:List Atom):Option (List Atom):=Z0y [] s
theorem Ytm (s:List Atom)(r:List Atom)(h:Zf2 s=some r):Con Tryz.prog 222 [rd (Z1 Z0r) s] emp (fun v=>Zc v) (fun v=>Zg v 296 Z0r r):=by
 refine Con.intro0 Tryz.func222 rfl Tryz.ntmps222 rfl fun w H Z=>?_
 unfold Zf2 at h
 refine AW.newnil 1001 296 Z0r<|SR<|Ac (Zv (A:=Zc (.slice none 0 0)) rfl rfl vc) rfl<|Nl<|sq<|SR<|Md rfl<|Ct rfl (Zdv rfl rfl Z8p (vt rfl)) ?_
 rintro _ ⟨b,hb,rfl⟩
 refine Nl<|Cn rfl (fun hc=>?_) (fun hc=>?_)
 ·obtain rfl:=hb hc
  refine SR<|Ac (Zv (A:=Zc (.slice none 0 0)) rfl rfl vc) rfl<|Nl<|rt ?_
  obtain rfl:=(Z8k h).2
  exact Z49 (i:=1001) Tryz.results222 rfl rfl rfl
 ·refine sk<|SR<|Cv rfl (Z5g 1002 (ps:=[]) (l:=[]) rfl rfl Z8p Z87 rfl rfl rfl rfl) fun v1=>Md rfl<|Cv rfl (Z2f 1002 h rfl rfl Zap (vt rfl) rfl (vt rfl)) fun v2=>Aw rfl<|Nl<|rt ?_
  exact Z49 (i:=1002) Tryz.results222 rfl rfl rfl
theorem Y26 (s:List Atom)(r:List Atom)(h:Zf2 s=some r):PCon Tryz.prog 222 [rd (Z1 Z0r) s] (rd (Z1 Z0r) r):=PCon.of_row (Ytm s r h)
def Zfz (w1:walk_way):Option Rule:=
 (Zf2 w1.atoms).bind fun x4=>some (⟨w1.cube,x4⟩:Rule)
theorem Y74:Q1 Tryz.prog 306 (rd Z22) (rd Z0a) Zfz:=fun w1 r h=>I0 Tryz.func306 rfl Tryz.ntmps306 rfl fun w H Z=>by
 unfold Zfz at h
 refine SR<|Cv rfl (Zs 2 rfl rfl (vt rfl)) fun g2=>Cv rfl (Zm 3 rfl rfl Z7k) fun g3=>Nl<|sq ?_
 obtain ⟨x4,hx4,h⟩:=Z7 h
 refine AR Z00 (by kernel_rfl)<|SFd lwalk_way_0 Zz9 rfl<|Zp Z02 2 rfl<|SFd Zi8 Zk4 rfl<|Zp Zf6 2 rfl<|SCl [6] (Y26 _ _ hx4) Y2e rfl<|Sd (lo [4,7] [] rfl fun S hs hr=>opb (⟨w1.cube,x4⟩:Rule) Z7k rfl Zx8 (pc Zvd (vh hs 4 rfl rfl)<|pc Zu4 (vh hs 7 rfl rfl)<|pn rfl))<|SSt Zau 3 rfl<|Sn<|rt ?_
 cases h;exact Zd Tryz.results306 rfl (Zx rfl (i:=3) rfl Zau)
def Zkr (sg:Type)(go1:Nat→(Lp sg)→Option (Bool×Lp sg))(i11:Nat)(s22:(Lp sg))(o23:Bool):Option (Bool×Lp sg):=
 (bif (!o23) then some (false,s22) else go1 (i11+1) s22)
def Z86 (sg:Type)(w5:walk_way)(y1:(sg→Rule→Option (Lp sg)))(a4:Int)(s3:Switch)(R_walk_search_table:((Lp sg)→Switch→Int→walk_way→Option (Bool×Lp sg))):(List Int)→Nat→(Lp sg)→Option (Bool×Lp sg)
 | [],i11,s10=>(Zfz w5).bind fun x13=>(yc y1 s10 x13).bind fun s14=>some ((Lp.isGo s14),s14)
 | x15::l12,i11,s10=>(chk 4 a4).bind fun j16=>(lget (Vector.get s3.Tables j16) x15).bind fun x17=>(Zjt w5 x17).bind fun x19=>(bif (!x19.2) then (Z86 sg w5 y1 a4 s3 R_walk_search_table l12) (i11+1) s10 else (Zmc x19.1 a4 x17.Insts).bind fun x21=>(bif x21.2.2 then (R_walk_search_table s10 s3 x21.2.1 x21.1).bind fun b24=>Zkr sg (Z86 sg w5 y1 a4 s3 R_walk_search_table l12) i11 b24.2 b24.1 else (Zfz x21.1).bind fun x25=>(yc y1 s10 x25).bind fun s26=>Zkr sg (Z86 sg w5 y1 a4 s3 R_walk_search_table l12) i11 s26 (Lp.isGo s26)))
def Zky (sg:Type)(y1:(sg→Rule→Option (Lp sg)))(R_walk_search_table:((Lp sg)→Switch→Int→walk_way→Option (Bool×Lp sg)))(s2:(Lp sg))(s3:Switch)(a4:Int)(w5:walk_way):Option (Bool×Lp sg):=
 (chk 4 a4).bind fun j7=>(Zho (Vector.get s3.Tables j7)).bind fun x8=>Z86 sg w5 y1 a4 s3 R_walk_search_table x8 0 s2
theorem Yvz (sg:Type)(y1:(sg→Rule→Option (Lp sg)))(L:Lp sg→Zu)(R_walk_search_table:((Lp sg)→Switch→Int→walk_way→Option (Bool×Lp sg)))(hR_walk_search_table:∀(s2:(Lp sg)) (s3:Switch) (a4:Int) (w5:walk_way) (r:(Bool×Lp sg)),R_walk_search_table s2 s3 a4 w5=some r→Con Tryz.prog 225 [rp (ksp Z09 (ydA Tryz.prog Z0a y1 L)) s3,rd (Z0 .i64) a4,rd Z22 w5] (L s2) (fun _:Unit=>rd Z6 r.1) (fun _=>L r.2))(s2:(Lp sg))(s3:Switch)(a4:Int)(w5:walk_way)(r:(Bool×Lp sg))(h:Zky sg y1 R_walk_search_table s2 s3 a4 w5=some r):Con Tryz.prog 225 [rp (ksp Z09 (ydA Tryz.prog Z0a y1 L)) s3,rd (Z0 .i64) a4,rd Z22 w5] (L s2) (fun _:Unit=>rd Z6 r.1) (fun _=>L r.2):=by
 refine Con.intro Tryz.func225 rfl Tryz.ntmps225 rfl fun w H X Z=>?_
 unfold Zky at h
 refine SR<|Cv rfl (Zs 6 rfl rfl (vt rfl)) fun g6=>Ab rfl<|Nl<|AW.scope<|sq<|AW.label<|sq<|sq ?_
 obtain ⟨j7,hj7,x8,hx8,h⟩:=bs2 h
 refine Rg<|Mr rfl<|Md rfl<|Ac (Z39 rfl rfl (vt rfl)) rfl<|Ac (Z7c (Zw7 Z09 (ydA Tryz.prog Z0a y1 L)) rfl rfl (Y9v _) (vt rfl)) rfl<|Fp Z64 Z6o rfl<|Ac (Z8t rfl rfl Z6p (vt rfl) (vt rfl) hj7) rfl<|Lp1 Z46 rfl<|Cl [20] (Ybt _ _ hx8) Y6l rfl<|Ac (Z0i rfl rfl Z15 (vt rfl)) rfl<|Mk rfl<|Nl<|bk<|LG (d:=[]) (ν:=(List Int)×Nat×(Lp sg)) (fun (l12,i11,s10)=>(Sfx x8 i11 l12∧Z86 sg w5 y1 a4 s3 R_walk_search_table l12 i11 s10=some r,l12.length,[(0,rp (ksp Z09 (ydA Tryz.prog Z0a y1 L)) s3),(1,rd (Z0 .i64) a4),(5,Zb g6 (Lens.id Z22)),(21,rd (Z1 (Z0 .i64)) x8),(22,rd (Z0 .i64) (x8.length:Int)),(23,rd (Z0 .i64) (i11:Int))],[(0,L s10),(6,Zh g6 304 Z22 w5)])) (x8,0,s2) ⟨Sfx.start _,h⟩ (FX rfl) ?_
 rintro ⟨l12,i11,s10⟩ ⟨hsf1,h⟩
 dsimp only at hsf1 h ⊢
 cases l12 with
 | nil=>
  unfold Z86 at h
  refine SR<|Ac (Zj rfl rfl (vt rfl) (vt rfl)) rfl<|Nl<|sq<|Cn rfl (fun hc=>absurd (of_decide_eq_true hc) hsf1.nil) (fun hc=>?_)
  refine xt<|sq ?_
  obtain ⟨x13,hx13,s14,hs14,h⟩:=bs2 h
  refine AR Z00 (by kernel_rfl)<|Sd (lo [0] [] rfl fun S hs hr=>Zq (A:=rp (ksp Z09 (ydA Tryz.prog Z0a y1 L)) s3) rfl rfl (vh hs 0 rfl rfl))<|Sd (lo [69] [] rfl fun S hs hr=>Z39 rfl rfl (vh hs 69 rfl rfl))<|Sd (lo [70] [] rfl fun S hs hr=>Z7c (Zt5 Z09 (ydA Tryz.prog Z0a y1 L)) rfl rfl (Y1x _) (vh hs 70 rfl rfl))<|Sd (lo [71] [] rfl fun S hs hr=>Yb7 (A:=ydA Tryz.prog Z0a y1 L) rfl rfl rfl (Y2g _) (vh hs 71 rfl rfl))<|Zp Z3z 6 rfl<|SCl [73] (Y74 _ _ hx13) Yb0 rfl<|Sd (Z1g (us:=[(75,rd Z6 (Lp.isGo s14))]) (ur:=[(0,L s14)]) [72,74] [0] rfl fun S hs hr=>Zny 0 hs14 rfl rfl (vh hs 72 rfl rfl) (vh hs 74 rfl rfl) ((hr 0 rfl).trans rfl))<|SAs rfl<|Sn<|rt ?_
  cases h;exact Zsl (i:=0) Tryz.results225 rfl (Z5 rfl) rfl
 | cons x15 l12=>
  unfold Z86 at h
  refine SR<|Ac (Zj rfl rfl (vt rfl) (vt rfl)) rfl<|Nl<|sq<|Cn rfl (fun hc=>?_) (fun hc=>absurd hsf1.cons (of_decide_eq_false hc))
  have hlti11:=of_decide_eq_true hc
  refine sk<|sq<|bk<|SR<|Ac (Z0j rfl rfl Z15 (vt rfl) (vt rfl) hsf1.lget) rfl<|Lp1 Zo rfl<|As rfl<|Nl<|sq ?_
  obtain ⟨j16,hj16,x17,hx17,h⟩:=bs2 h
  refine Rg<|Mr rfl<|Md rfl<|Ac (Z39 rfl rfl (vt rfl)) rfl<|Ac (Z7c (Zw7 Z09 (ydA Tryz.prog Z0a y1 L)) rfl rfl (Y9v _) (vt rfl)) rfl<|Fp Z64 Z6o rfl<|Ac (Z8t rfl rfl Z6p (vt rfl) (vt rfl) hj16) rfl<|Lp1 Z46 rfl<|Md rfl<|Ac (Z0j rfl rfl Z2q (vt rfl) (vt rfl) hx17) rfl<|Lp1 Z2n rfl<|Cv rfl (Zm 10 rfl rfl Z7u) fun g18=>Zf Z2n 10 rfl<|Nl<|sq ?_
  obtain ⟨x19,hx19,h⟩:=Z7 h
  refine Rg<|Ld Z3z 6 rfl<|Ld Z2n 10 rfl<|Cl [38,39] (Yex _ _ _ hx19) Yz8 rfl<|Mt2 rfl<|Ac (Z1e rfl rfl (vt rfl)) rfl<|Ac (Z1a rfl rfl (vt rfl)) rfl<|Cv rfl (Zm 11 rfl rfl Zjk) fun g20=>Zf Z3z 11 rfl<|As rfl<|Nl<|sq<|SR<|Md rfl<|Ac (Z0z rfl rfl (vt rfl)) rfl<|Nl<|Cq rfl h (fun h=>?_) (fun h=>?_)
  ·refine xt<|Rg<|Ac (Z13 (t:=22) rfl rfl (vt rfl) (vk rfl) (vt rfl) hlti11) rfl<|Md rfl<|Nl ?_
   exact ⟨(_,_,_),Nat.lt_succ_self _,⟨hsf1.next,h⟩,FX rfl⟩
  ·refine sk<|sq ?_
   obtain ⟨x21,hx21,h⟩:=Z7 h
   refine Rg<|Ld Z3z 11 rfl<|Md rfl<|Zk lFlow_6 Z8v rfl<|Ld Z69 10 rfl<|Cl [46,47,49] (Yg8 _ _ _ _ hx21) Ysa rfl<|Ac (Zq (A:=Z4o (rd Z22 x21.1) (rd (Z0 .i64) x21.2.1) (rd Z6 x21.2.2)) rfl rfl (vt rfl)) rfl<|Ac (Zhv rfl rfl (vt rfl)) rfl<|Ac (Zh4 rfl rfl (vt rfl)) rfl<|Ac (Zin rfl rfl (vt rfl)) rfl<|Zf Z3z 11 rfl<|As rfl<|As rfl<|Nl ?_
   refine JN (d:=[]) (ν:=(Lp sg)×Bool) (fun (s22,o23)=>(Zkr sg (Z86 sg w5 y1 a4 s3 R_walk_search_table l12) i11 s22 o23=some r,[(0,rp (ksp Z09 (ydA Tryz.prog Z0a y1 L)) s3),(1,rd (Z0 .i64) a4),(5,Zb g6 (Lens.id Z22)),(11,rd Z6 o23),(21,rd (Z1 (Z0 .i64)) x8),(22,rd (Z0 .i64) (x8.length:Int)),(23,rd (Z0 .i64) (i11:Int))],[(0,L s22),(6,Zh g6 304 Z22 w5)])) ?hx2 ?hy2
   case hy2=>
    rintro ⟨s22,o23⟩ h
    dsimp only at h ⊢
    unfold Zkr at h
    refine SR<|Md rfl<|Ac (Z0z rfl rfl (vt rfl)) rfl<|Nl<|Cq rfl h (fun h=>?_) (fun h=>?_)
    ·refine SR<|Ab rfl<|Nl<|rt ?_
     cases h;exact Zsl (i:=0) Tryz.results225 rfl (Z5 rfl) rfl
    ·refine sk<|Rg<|Ac (Z13 (t:=22) rfl rfl (vt rfl) (vk rfl) (vt rfl) hlti11) rfl<|Md rfl<|Nl ?_
     exact ⟨(_,_,_),Nat.lt_succ_self _,⟨hsf1.next,h⟩,FX rfl⟩
   case hx2=>
    refine SR<|Md rfl<|Nl<|Cq rfl h (fun h=>?_) (fun h=>?_)
    ·obtain ⟨b24,hb24,h⟩:=Z7 h
     refine Rg<|Mr rfl<|Md rfl<|Ld Z3z 11 rfl<|Cv rfl (Z1c 0 (xs:=[.tmp 55,.tmp 56,.tmp 57]) (hR_walk_search_table _ _ _ _ _ hb24) Y7o rfl rfl ⟨vt rfl,vt rfl,vt rfl,trivial⟩ rfl) fun _u=>As rfl<|Nl ?_
     exact ⟨(_,_),h,FX rfl⟩
    ·obtain ⟨x25,hx25,s26,hs26,h⟩:=bs2 h
     refine AR Z00 (by kernel_rfl)<|Sd (lo [0] [] rfl fun S hs hr=>Zq (A:=rp (ksp Z09 (ydA Tryz.prog Z0a y1 L)) s3) rfl rfl (vh hs 0 rfl rfl))<|Sd (lo [59] [] rfl fun S hs hr=>Z39 rfl rfl (vh hs 59 rfl rfl))<|Sd (lo [60] [] rfl fun S hs hr=>Z7c (Zt5 Z09 (ydA Tryz.prog Z0a y1 L)) rfl rfl (Y1x _) (vh hs 60 rfl rfl))<|Sd (lo [61] [] rfl fun S hs hr=>Yb7 (A:=ydA Tryz.prog Z0a y1 L) rfl rfl rfl (Y2g _) (vh hs 61 rfl rfl))<|Zp Z3z 11 rfl<|SCl [63] (Y74 _ _ hx25) Yb0 rfl<|Sd (Z1g (us:=[(65,rd Z6 (Lp.isGo s26))]) (ur:=[(0,L s26)]) [62,64] [0] rfl fun S hs hr=>Zny 0 hs26 rfl rfl (vh hs 62 rfl rfl) (vh hs 64 rfl rfl) ((hr 0 rfl).trans rfl))<|SAs rfl<|Sn ?_
     exact ⟨(_,_),h,FX rfl⟩
def Zf1 (sg:Type)(y1:(sg→Rule→Option (Lp sg))):Nat→((Lp sg)→Switch→Int→walk_way→Option (Bool×Lp sg))
 | 0=>(fun _ _ _ _=>none)
 | n+1=>Zky sg y1 (Zf1 sg y1 n)
theorem Y9f (sg:Type)(y1:(sg→Rule→Option (Lp sg)))(L:Lp sg→Zu):∀n:Nat,(∀(s2:(Lp sg)) (s3:Switch) (a4:Int) (w5:walk_way) (r:(Bool×Lp sg)),(Zf1 sg y1 n) s2 s3 a4 w5=some r→Con Tryz.prog 225 [rp (ksp Z09 (ydA Tryz.prog Z0a y1 L)) s3,rd (Z0 .i64) a4,rd Z22 w5] (L s2) (fun _:Unit=>rd Z6 r.1) (fun _=>L r.2))
 | 0=>(by intros;rename_i h;cases h)
 | n+1=>Yvz sg y1 L (Zf1 sg y1 n) (Y9f sg y1 L n)
def Zzh (sg:Type)(y1:(sg→Rule→Option (Lp sg)))(s2:(Lp sg))(s3:Switch)(a4:Int)(w5:walk_way):Option (Bool×Lp sg):=Zf1 sg y1 Z0v s2 s3 a4 w5
theorem Ytb (sg:Type)(y1:(sg→Rule→Option (Lp sg)))(L:Lp sg→Zu):∀(s2:(Lp sg)) (s3:Switch) (a4:Int) (w5:walk_way) (r:(Bool×Lp sg)),(Zzh sg y1) s2 s3 a4 w5=some r→Con Tryz.prog 225 [rp (ksp Z09 (ydA Tryz.prog Z0a y1 L)) s3,rd (Z0 .i64) a4,rd Z22 w5] (L s2) (fun _:Unit=>rd Z6 r.1) (fun _=>L r.2):=Y9f sg y1 L Z0v
def Zf0 (sg:Type)(y1:(sg→Rule→Option (Lp sg)))(s2:(Lp sg))(x3:Switch):Option (Lp sg):=
 (Zhn).bind fun x5=>(Zby).bind fun x6=>(Zzh sg y1 s2 x3 0 (⟨x5,x6,[],[]⟩:walk_way)).bind fun b7=>some b7.2
theorem Ydf (sg:Type)(y1:(sg→Rule→Option (Lp sg)))(L:Lp sg→Zu)(s2:(Lp sg))(x3:Switch)(r:(Lp sg))(h:Zf0 sg y1 s2 x3=some r):Con Tryz.prog 224 [ydA Tryz.prog Z0a y1 L,rp Z09 x3] (L s2) (fun _:Unit=>top) (fun _=>L r):=by
 refine Con.intro Tryz.func224 rfl Tryz.ntmps224 rfl fun w H X Z=>?_
 unfold Zf0 at h
 refine SR<|Lp1 Z28 rfl<|Ac (Zq (A:=ydA Tryz.prog Z0a y1 L) rfl rfl (vt rfl)) rfl<|Ac (Ys6 (x:=x3) rfl rfl (by kernel_rfl) Ywh (by kernel_rfl) (by kernel_rfl) (vt rfl) rfl) rfl<|Ac (Yl1 rfl rfl (vt rfl)) rfl<|Ac (Zv (A:=rp (ksp Z09 (ydA Tryz.prog Z0a y1 L)) x3) rfl rfl (vt rfl)) rfl<|Nl ?_
 obtain ⟨x5,hx5,x6,hx6,b7,hb7,h⟩:=bs3 h
 refine Rg<|Mr rfl<|Cl [] (Y6c _ hx5) Y9m rfl<|Cl [] (Zym _ hx6) Zvq rfl<|Ac (opb (⟨x5,x6,[],[]⟩:walk_way) Zjk rfl Y1n (pc Yxz (vt rfl)<|pc Yu1 (vt rfl)<|pn rfl)) rfl<|Cv rfl (Z1c 0 (xs:=[.tmp 8,.const (Value.int IntKind.i64 0),.tmp 11]) (Ytb sg y1 L _ _ _ _ _ hb7) Y7o rfl rfl ⟨vt rfl,vk rfl,vt rfl,trivial⟩ rfl) fun _u=>Nl ?_
 cases h;exact Z2e (i:=0) Tryz.results224 rfl rfl
def Zp8 (s1:Switch):Option (Itr Rule):=
 some (Itr.mk fun σ y s=>Zf0 σ y s s1)
theorem Yp4:Q1 Tryz.prog 136 (rd Z09) (Z5j Tryz.prog Z0a) Zp8:=fun s1 r h=>I0 Tryz.func136 rfl Tryz.ntmps136 rfl fun w H Z=>by
 unfold Zp8 at h
 refine SR<|Cv rfl (Zs 2 rfl rfl (vt rfl)) fun g2=>Ac (Zv (A:=Zc .nilFunc) rfl rfl vc) rfl<|Nl<|sq<|AW.freezeB 1 2 rfl rfl rfl<|Rg<|Ac (Zvf (Itr.mk fun σ y s=>Zf0 σ y s s1) (cs:=[.tmp 1]) (CAs:=[rp Z09 s1]) rfl rfl Yl0 ⟨vt rfl,trivial⟩ (fun σ y L s r h=>Ydf σ y L s s1 r h)) rfl<|Ac (Zv (A:=Z5j Tryz.prog Z0a (Itr.mk fun σ y s=>Zf0 σ y s s1)) rfl rfl (vt rfl)) rfl<|Nl<|rt ?_
 cases h;exact Zd Tryz.results136 rfl (Z5 rfl)
def Zs5 (q:Itr Rule):Option (List Rule):=Zsb q
theorem Yso (q:Itr Rule)(r:List Rule)(h:Zs5 q=some r):Con Tryz.prog 223 [Zc (.slice none 0 0),Z5j Tryz.prog Z0a q] emp (fun v=>Zc v) (fun v=>Zg v 126 Z0a r):=by
 refine Con.intro0 Tryz.func223 rfl Tryz.ntmps223 rfl fun w H Z=>?_
 have h:=Ye1 h
 refine AW.newnil 1001 126 Z0a<|SR<|Cv rfl (Zs (k:=kraw) 3 rfl rfl (vkr (vt rfl) rfl)) fun g=>Ac (Zv (A:=Zc (.slice none 0 0)) rfl rfl vc) rfl<|AOps.pack 3 1001 (by decide) rfl rfl<|Nl<|sq<|SR<|Ac (Zq (A:=Z5j Tryz.prog Z0a q) rfl rfl (vt rfl)) rfl<|Nl<|bk<|AW.fit (d:=[]) (L:=[(2,Zb g (Lens.id kraw)),(6,Z5j Tryz.prog Z0a q)]) (M:=[(3,Zb2 g 67 126 Z0a [])]) ⟨rfl,⟨rfl,rfl,trivial⟩,⟨rfl,trivial⟩⟩ ?_
 refine AW.rangeFunc (fun x=>[rd Z0a x]) Zmk (fun s=>Z4g [(3,Zb2 g 67 126 Z0a s)]) (fun _ _=>Z4g []) [(2,Zb g (Lens.id kraw))]
  (fun s x S1=> ∃g5,Fit S1 [] [(2,Zb g (Lens.id kraw)),(5,Zb g5 (Lens.id Z0a))] [(3,Zb2 g 67 126 Z0a s),(6,Zh g5 126 Z0a x)]) 1003 (s0:=[]) (sE:= .go r)
  rfl (vt rfl) ⟨rfl,inferInstance,trivial⟩ rfl (fun _=>rfl) (by intro p hp;have hp:p∈[7]:=hp;rw [List.mem_singleton.1 hp];show 7<13;decide) ?ha ?hb (fun Lf=>⟨top,_,_,Lf,_,_,h,rfl,rfl,rfl,rfl⟩) ?he
 case ha=>
  intro s x r' hF l w H X Z
  refine Rg<|Cv rfl (Zm 6 rfl rfl Z7k) fun g5=>Zf Zau 6 rfl<|Nl ?_
  exact ⟨rfl,g5,rfl,⟨rfl,rfl,trivial⟩,⟨rfl,rfl,trivial⟩⟩
 case hb=>
  rintro s x r' hF S1 ⟨g5,hfit⟩ l w H X Z
  refine AW.fit hfit<|AW.bodyOf (M:=fun s=>[(3,Zb2 g 67 126 Z0a s)]) (Mx:=fun _ _=>[]) ?_
  obtain ⟨m,hm,hF⟩:=Z7 hF
  cases hF
  refine bk<|AW.unbox 3 1001 (by decide) rfl rfl fun v=>Rg<|Ac (Y3q (i:=3) rfl rfl Zzk (vt rfl) rfl) rfl<|Ld Zau 6 rfl<|Ac (Zrd (ps:=[(0,.tmp 9)]) (l:=[x]) rfl rfl Z44 Z7k rfl rfl ⟨_,_,Lens.idx 1 Z0a 0 (by decide),_,rfl,vt rfl,rfl⟩ rfl) rfl<|Cv rfl (Z2f 1001 hm rfl rfl Zkv (vt rfl) rfl (vt rfl)) fun v2=>Ac (Z76 rfl rfl Zzk (vt rfl) (i:=3) rfl (Zx6 (i:=1001) rfl rfl)) rfl<|AOps.pack 3 1001 (by decide) rfl rfl<|Nl ?_
  exact ⟨_,rfl,rfl,trivial⟩
 case he=>
  intro D
  refine AW.unbox 3 1001 (by decide) rfl rfl fun v=>SR<|Ac (Y3q (i:=3) rfl rfl Zzk (vt rfl) rfl) rfl<|Aw rfl<|Nl<|rt ?_
  exact ⟨rfl,1003,_,rfl,Z49 (i:=1001) Tryz.results223 rfl rfl rfl⟩
theorem Yvc (q:Itr Rule)(r:List Rule)(h:Zs5 q=some r):PCon Tryz.prog 223 [Zc (.slice none 0 0),Z5j Tryz.prog Z0a q] (rd (Z1 Z0a) r):=PCon.of_row (Yso q r h)
def Zsh (s1:(Itr Rule)):Option (List Rule):=
 (Zs5 s1).bind fun x2=>some x2
theorem Yyg:Q1 Tryz.prog 135 (Z5j Tryz.prog Z0a) (rd (Z1 Z0a)) Zsh:=fun s1 r h=>I0 Tryz.func135 rfl Tryz.ntmps135 rfl fun w H Z=>by
 unfold Zsh at h
 refine SR<|Ac (Zv (A:=rd (Z1 Z0a) []) rfl rfl Z1j) rfl<|Nl<|sq ?_
 obtain ⟨x2,hx2,h⟩:=Z7 h
 refine Rg<|Ac (Zq (A:=Z5j Tryz.prog Z0a s1) rfl rfl (vt rfl)) rfl<|Ac (Z0g (xs:=[.const (Value.slice none 0 0),.tmp 3]) (Yvc _ _ hx2) Yvf rfl rfl ⟨vc,vt rfl,trivial⟩) rfl<|As rfl<|Nl<|rt ?_
 cases h;exact Zd Tryz.results135 rfl (Z5 rfl)
def Zgh (s1:Switch):Option (List Rule):=
 (Zp8 s1).bind fun x3=>(Zsh x3).bind fun x4=>some x4
theorem Yuk:Q1 Tryz.prog 67 (rd Z09) (rd (Z1 Z0a)) Zgh:=fun s1 r h=>I0 Tryz.func67 rfl Tryz.ntmps67 rfl fun w H Z=>by
 unfold Zgh at h
 refine SR<|Cv rfl (Zs 2 rfl rfl (vt rfl)) fun g2=>Ac (Zv (A:=rd (Z1 Z0a) []) rfl rfl Z1j) rfl<|Nl<|sq ?_
 obtain ⟨x3,hx3,x4,hx4,h⟩:=bs2 h
 refine Rg<|Ld Z28 2 rfl<|Cl [3] (Yp4 _ _ hx3) Yjv rfl<|Cl [4] (Yyg _ _ hx4) Yix rfl<|As rfl<|Nl<|rt ?_
 cases h;exact Zd Tryz.results67 rfl (Z5 rfl)
def Zn9 (p1:cover_purse):Option (Bool×cover_purse):=
 (bif p1.free then some (true,p1) else some ((decide (({p1 with left:=(IntKind.i64.wrap (p1.left - 1))}.left)≥0)),{p1 with left:=(IntKind.i64.wrap (p1.left - 1))}))
theorem Yhe (g2 gT:Nat)(p1:cover_purse)(r:(Bool×cover_purse))(h:Zn9 p1=some r):Con Tryz.prog 300 [Zb g2 (Lens.id Z7a)] (Zh g2 gT Z7a p1) (fun _:Unit=>rd Z6 r.1) (fun _=>Zh g2 gT Z7a r.2):=by
 refine Con.intro Tryz.func300 rfl Tryz.ntmps300 rfl fun w H X Z=>?_
 unfold Zn9 at h
 refine SR<|Ab rfl<|Nl<|sq<|SR<|Mp rfl<|Nc rfl<|Zk lcover_purse_1 Yl9 rfl<|Ld ty4 0 rfl<|Nl<|Cq rfl h (fun h=>?_) (fun h=>?_)
 ·refine SR<|Ab rfl<|Nl<|rt ?_
  cases h;exact Zsl (i:=0) Tryz.results300 rfl (Z5 rfl) rfl
 ·refine sk<|SR<|Mp rfl<|Nc rfl<|Zk lcover_purse_0 Zxa rfl<|Ld Zo 0 rfl<|Ac (Z0t rfl rfl (vt rfl) (vk rfl)) rfl<|Nc rfl<|Zk lcover_purse_0 Zxa rfl<|Zf Zo 0 rfl<|Nl<|SR<|Mp rfl<|Nc rfl<|Zk lcover_purse_0 Zxa rfl<|Ld Zo 0 rfl<|Ac (Z45 rfl rfl (vt rfl) (vk rfl)) rfl<|As rfl<|Nl<|rt ?_
  cases h;exact Zsl (i:=0) Tryz.results300 rfl (Z5 rfl) rfl
end Go.Proofs.YtinplddjjalohaaGreatDoor.W
set_option maxHeartbeats 1000000
set_option maxRecDepth 4000
namespace Go.Proofs.YtinplddjjalohaaGreatDoor.W
open Go Go.Wb
theorem Yep:Ent Tryz.prog 375:=Ent.mk Tryz.func375 rfl rfl
theorem Yhi:Ent Tryz.prog 346:=Ent.mk Tryz.func346 rfl rfl
theorem Y55:Ent Tryz.prog 391:=Ent.mk Tryz.func391 rfl rfl
theorem Yrc:Ent Tryz.prog 376:=Ent.mk Tryz.func376 rfl rfl
theorem Y6p:Ent Tryz.prog 349:=Ent.mk Tryz.func349 rfl rfl
def Zke (a1:Tern)(b2:Tern):Option Bool:=
 (Zas b2.Mask a1.Mask).bind fun x5=>(Zhp x5).bind fun x6=>(opt x6 (Zja b2 a1.Value)).bind fun x7=>some (x6&&x7)
theorem Yjx:Q2 Tryz.prog 375 (rd Z4) (rd Z4) (rd Z6) Zke:=fun a1 b2 r h=>I0 Tryz.func375 rfl Tryz.ntmps375 rfl fun w H Z=>by
 unfold Zke at h
 refine SR<|Cv rfl (Zs 3 rfl rfl (vt rfl)) fun g3=>Cv rfl (Zs 4 rfl rfl (vt rfl)) fun g4=>Ab rfl<|Nl<|sq ?_
 obtain ⟨x5,hx5,x6,hx6,x7,hx7,h⟩:=bs3 h
 refine Rg<|Zk lTern_1 Z2g rfl<|Ld Zw 4 rfl<|Zk lTern_1 Z2g rfl<|Ld Zw 3 rfl<|Cl [6,8] (Ziy _ _ _ hx5) Zj6 rfl<|Cl [9] (Zu5 _ _ hx6) Ztp rfl<|Md rfl<|Gd rfl (fun hq=>Z1z rfl rfl Z01 (vt rfl) (i:=4) rfl)<|Gd rfl (fun hq=>Z2v lTern_0 rfl rfl Z32 (vt rfl))<|Gd rfl (fun hq=>Z1z rfl rfl Zw (Zi rfl hq) (i:=3) rfl)<|Gd rfl (fun hq=>Z0g (xs:=[.tmp 12,.tmp 14]) (Zxq _ _ _ (Z2j hx7 hq)) Zu2 rfl rfl ⟨Zi rfl hq,Zi rfl hq,trivial⟩)<|Ac (Z1m rfl rfl (vt rfl) (vt rfl)) rfl<|As rfl<|Nl<|rt ?_
 cases h;exact Zd Tryz.results375 rfl (Z5 rfl)
def Zbl (b2:Za):(List Tern)→Nat→Option Bool
 | [],i5=>some true
 | x7::l6,i5=>(chk 24 (i5:Int)).bind fun j9=>(Zke x7 (Vector.get b2 j9)).bind fun x10=>(bif (!x10) then some false else (Zbl b2 l6) (i5+1))
def Zmi (a1:Za)(b2:Za):Option Bool:=
 Zbl b2 (Vector.toList a1) 0
theorem Ycv:Q2 Tryz.prog 346 (rd (Z3 24 Z4)) (rd (Z3 24 Z4)) (rd Z6) Zmi:=fun a1 b2 r h=>I0 Tryz.func346 rfl Tryz.ntmps346 rfl fun w H Z=>by
 unfold Zmi at h
 refine SR<|Cv rfl (Zs 3 rfl rfl (vt rfl)) fun g3=>Cv rfl (Zs 4 rfl rfl (vt rfl)) fun g4=>Ab rfl<|Nl<|sq<|SR<|Ld Z02 3 rfl<|Mk rfl<|Nl<|bk<|LG (d:=[]) (ν:=(List Tern)×Nat) (fun (l6,i5)=>(Sfx (Vector.toList a1) i5 l6∧Zbl b2 l6 i5=some r,l6.length,[(3,Zb g4 (Lens.id (Z3 24 Z4))),(7,rd (Z3 24 Z4) a1),(8,rd (Z0 .i64) (i5:Int))],[(4,Zh g4 123 (Z3 24 Z4) b2)])) ((Vector.toList a1),0) ⟨Sfx.start _,h⟩ (FX rfl) ?_
 rintro ⟨l6,i5⟩ ⟨hsf1,h⟩
 dsimp only at hsf1 h ⊢
 cases l6 with
 | nil=>
  unfold Zbl at h
  refine SR<|Ac (Zj rfl rfl (vt rfl) (vk rfl)) rfl<|Nl<|sq<|Cn rfl (fun hc=>absurd (of_decide_eq_true hc) (hsf1.niln (by simp))) (fun hc=>?_)
  refine xt<|SR<|Ab rfl<|Nl<|rt ?_
  cases h;exact Zd Tryz.results346 rfl (Z5 rfl)
 | cons x7 l6=>
  unfold Zbl at h
  refine SR<|Ac (Zj rfl rfl (vt rfl) (vk rfl)) rfl<|Nl<|sq<|Cn rfl (fun hc=>?_) (fun hc=>absurd (hsf1.consn (by simp)) (of_decide_eq_false hc))
  have hlti5:=of_decide_eq_true hc
  refine sk<|sq<|bk<|SR<|Md rfl<|Ac (Z8w rfl rfl Z2p Z01 (vt rfl) (vt rfl) hsf1.lget) rfl<|Cv rfl (Zm 7 rfl rfl Z1n) fun g8=>As rfl<|Zf Z01 7 rfl<|Nl<|sq ?_
  obtain ⟨j9,hj9,x10,hx10,h⟩:=bs2 h
  refine AR Z00 (by kernel_rfl)<|Zp Z01 7 rfl<|Zt rfl<|Sd (lo [3,13] [] rfl fun S hs hr=>Z19 rfl rfl Z2p (vh hs 3 rfl rfl) (vh hs 13 rfl rfl) hj9)<|Zp Z01 4 rfl<|SCl [12,15] (Yjx _ _ _ hx10) Yep rfl<|Sd (lo [16] [] rfl fun S hs hr=>Z0z rfl rfl (vh hs 16 rfl rfl))<|Sn<|Cq rfl h (fun h=>?_) (fun h=>?_)
  ·refine SR<|Ab rfl<|Nl<|rt ?_
   cases h;exact Zd Tryz.results346 rfl (Z5 rfl)
  ·refine sk<|Rg<|Ac (Z5r rfl rfl (vt rfl) (vk rfl) rfl hlti5) rfl<|Md rfl<|Nl ?_
   exact ⟨(_,_),Nat.lt_succ_self _,⟨hsf1.next,h⟩,FX rfl⟩
def Z90 (x1:Za):(List Za)→Nat→Int→Option (Bool×Int)
 | [],i6,x5=>some (false,x5)
 | x8::l7,i6,x5=>(Zch x1 x8).bind fun x10=>(bif (!x10.2) then (Z90 x1 l7) (i6+1) x5 else (Zmi x1 x8).bind fun x12=>(bif x12 then some (true,(i6:Int)) else (bif (decide (x5<0)) then (Z90 x1 l7) (i6+1) (i6:Int) else (Z90 x1 l7) (i6+1) x5)))
def Zr1 (x1:Za)(l2:(List Za)):Option (Bool×Int):=
 Z90 x1 l2 0 (-1)
theorem Yg1:Q2 Tryz.prog 301 (rd (Z3 24 Z4)) (rd (Z1 (Z3 24 Z4))) (fun r=>Z12 (rd Z6 r.1) (rd (Z0 .i64) r.2)) Zr1:=fun x1 l2 r h=>I0 Tryz.func301 rfl Tryz.ntmps301 rfl fun w H Z=>by
 unfold Zr1 at h
 refine SR<|Cv rfl (Zs 3 rfl rfl (vt rfl)) fun g3=>Ab rfl<|Ak rfl<|Nl<|SR<|Ak rfl<|Nl<|sq<|SR<|Md rfl<|Ac (Z0i rfl rfl Z4z (vt rfl)) rfl<|Mk rfl<|Nl<|bk<|LG (d:=[]) (ν:=(List Za)×Nat×Int) (fun (l7,i6,x5)=>(Sfx l2 i6 l7∧Z90 x1 l7 i6 x5=some r,l7.length,[(2,Zb g3 (Lens.id (Z3 24 Z4))),(6,rd (Z0 .i64) x5),(11,rd (Z1 (Z3 24 Z4)) l2),(12,rd (Z0 .i64) (l2.length:Int)),(13,rd (Z0 .i64) (i6:Int))],[(3,Zh g3 123 (Z3 24 Z4) x1)])) (l2,0,(-1)) ⟨Sfx.start _,h⟩ (FX rfl) ?_
 rintro ⟨l7,i6,x5⟩ ⟨hsf1,h⟩
 dsimp only at hsf1 h ⊢
 cases l7 with
 | nil=>
  unfold Z90 at h
  refine SR<|Ac (Zj rfl rfl (vt rfl) (vt rfl)) rfl<|Nl<|sq<|Cn rfl (fun hc=>absurd (of_decide_eq_true hc) hsf1.nil) (fun hc=>?_)
  refine xt<|SR<|Md rfl<|Ab rfl<|As rfl<|Nl<|rt ?_
  cases h;exact Z1f Tryz.results301 rfl (Z5 rfl) (Z5 rfl)
 | cons x8 l7=>
  unfold Z90 at h
  refine SR<|Ac (Zj rfl rfl (vt rfl) (vt rfl)) rfl<|Nl<|sq<|Cn rfl (fun hc=>?_) (fun hc=>absurd hsf1.cons (of_decide_eq_false hc))
  have hlti6:=of_decide_eq_true hc
  refine sk<|sq<|bk<|SR<|Md rfl<|Ac (Z0j rfl rfl Z4z (vt rfl) (vt rfl) hsf1.lget) rfl<|Lp1 Z02 rfl<|Cv rfl (Zm 9 rfl rfl Z1l) fun g9=>As rfl<|Zf Z02 9 rfl<|Nl<|sq ?_
  obtain ⟨x10,hx10,h⟩:=Z7 h
  refine Rg<|Ld Z02 3 rfl<|Ld Z02 9 rfl<|Cl [19,20] (Zt6 _ _ _ hx10) Zv3 rfl<|Mt2 rfl<|Ac (Z1e rfl rfl (vt rfl)) rfl<|Ac (Z1a rfl rfl (vt rfl)) rfl<|Cv rfl (Zm 10 rfl rfl Z1l) fun g11=>Zf Z02 10 rfl<|As rfl<|Nl<|bk<|SR<|Md rfl<|Ac (Z0z rfl rfl (vt rfl)) rfl<|As rfl<|Nl<|Cq rfl h (fun h=>?_) (fun h=>?_)
  ·refine sk<|Rg<|Ac (Z13 (t:=12) rfl rfl (vt rfl) (vk rfl) (vt rfl) hlti6) rfl<|Md rfl<|Nl ?_
   exact ⟨(_,_,_),Nat.lt_succ_self _,⟨hsf1.next,h⟩,FX rfl⟩
  ·refine sq ?_
   obtain ⟨x12,hx12,h⟩:=Z7 h
   refine Rg<|Ld Z02 3 rfl<|Ld Z02 9 rfl<|Cl [28,29] (Ycv _ _ _ hx12) Yhi rfl<|As rfl<|Nl<|Cq rfl h (fun h=>?_) (fun h=>?_)
   ·refine SR<|Md rfl<|Ab rfl<|As rfl<|Nl<|rt ?_
    cases h;exact Z1f Tryz.results301 rfl (Z5 rfl) (Z5 rfl)
   ·refine SR<|Md rfl<|Ac (Zj rfl rfl (vt rfl) (vk rfl)) rfl<|As rfl<|Nl<|Cq rfl h (fun h=>?_) (fun h=>?_)
    ·refine Rg<|Md rfl<|As rfl<|Nl<|Rg<|Ac (Z13 (t:=12) rfl rfl (vt rfl) (vk rfl) (vt rfl) hlti6) rfl<|Md rfl<|Nl ?_
     exact ⟨(_,_,_),Nat.lt_succ_self _,⟨hsf1.next,h⟩,FX rfl⟩
    ·refine sk<|Rg<|Ac (Z13 (t:=12) rfl rfl (vt rfl) (vk rfl) (vt rfl) hlti6) rfl<|Md rfl<|Nl ?_
     exact ⟨(_,_,_),Nat.lt_succ_self _,⟨hsf1.next,h⟩,FX rfl⟩
def Zaz:(List Tern)→Nat→Z16→Option Z16
 | [],i7,b6=>some b6
 | x9::l8,i7,b6=>(Z83 x9).bind fun x11=>(chk 24 (i7:Int)).bind fun j12=>(Zaz l8) (i7+1) (Vector.set b6 j12.1 x11.Value j12.2)
def Zn0 (x1:Za):Option Z16:=
 Zaz (Vector.toList x1) 0 (Vector.replicate 24 Z0s)
theorem Yrf:Q1 Tryz.prog 302 (rd (Z3 24 Z4)) (rd (Z3 24 Zn)) Zn0:=fun x1 r h=>I0 Tryz.func302 rfl Tryz.ntmps302 rfl fun w H Z=>by
 unfold Zn0 at h
 refine SR<|Cv rfl (Zs 2 rfl rfl (vt rfl)) fun g2=>Cv rfl (Zm 3 rfl rfl Z55) fun g3=>Nl<|SR<|Cv rfl (Zm 4 rfl rfl Z55) fun g4=>Nl<|sq<|SR<|Ld Z02 2 rfl<|Mk rfl<|Nl<|bk<|LG (d:=[]) (ν:=(List Tern)×Nat×Z16) (fun (l8,i7,b6)=>(Sfx (Vector.toList x1) i7 l8∧Zaz l8 i7 b6=some r,l8.length,[(2,Zb g3 (Lens.id (Z3 24 Zn))),(3,Zb g4 (Lens.id (Z3 24 Zn))),(6,rd (Z3 24 Z4) x1),(7,rd (Z0 .i64) (i7:Int))],[(3,Zh g3 31 (Z3 24 Zn) (Vector.replicate 24 Z0s)),(4,Zh g4 31 (Z3 24 Zn) b6)])) ((Vector.toList x1),0,(Vector.replicate 24 Z0s)) ⟨Sfx.start _,h⟩ (FX rfl) ?_
 rintro ⟨l8,i7,b6⟩ ⟨hsf1,h⟩
 dsimp only at hsf1 h ⊢
 cases l8 with
 | nil=>
  unfold Zaz at h
  refine SR<|Ac (Zj rfl rfl (vt rfl) (vk rfl)) rfl<|Nl<|sq<|Cn rfl (fun hc=>absurd (of_decide_eq_true hc) (hsf1.niln (by simp))) (fun hc=>?_)
  refine xt<|SR<|Ld Z17 4 rfl<|Zf Z17 3 rfl<|Nl<|rt ?_
  cases h;exact Zd Tryz.results302 rfl (Zx rfl (i:=3) rfl Z17)
 | cons x9 l8=>
  unfold Zaz at h
  refine SR<|Ac (Zj rfl rfl (vt rfl) (vk rfl)) rfl<|Nl<|sq<|Cn rfl (fun hc=>?_) (fun hc=>absurd (hsf1.consn (by simp)) (of_decide_eq_false hc))
  have hlti7:=of_decide_eq_true hc
  refine sk<|sq<|bk<|SR<|Md rfl<|Ac (Z8w rfl rfl Z2p Z01 (vt rfl) (vt rfl) hsf1.lget) rfl<|Cv rfl (Zm 6 rfl rfl Z1n) fun g10=>As rfl<|Zf Z01 6 rfl<|Nl ?_
  obtain ⟨x11,hx11,j12,hj12,h⟩:=bs2 h
  refine Rg<|Md rfl<|Ld Z01 6 rfl<|Cl [12] (Zb9 _ _ hx11) Za7 rfl<|Ac (Zgz lTern_0 rfl rfl Z32 Yg3 Zw rfl (vt rfl)) rfl<|Ac (Z19 rfl rfl Zq9 (vt rfl) (vt rfl) hj12) rfl<|Zf Zw 4 rfl<|Nl<|Rg<|Ac (Z5r rfl rfl (vt rfl) (vk rfl) rfl hlti7) rfl<|Md rfl<|Nl ?_
  exact ⟨(_,_,_),Nat.lt_succ_self _,⟨hsf1.next,h⟩,FX rfl⟩
def Zif (x1:(BitVec 64)):Option Int:=
 (Z43 x1 ((1:BitVec 64).toNat:Int)).bind fun q2=>(Z43 ((q2&&& (6148914691236517205:BitVec 64))+(x1&&& (6148914691236517205:BitVec 64))) ((2:BitVec 64).toNat:Int)).bind fun q3=>(Z43 ((q3&&& (3689348814741910323:BitVec 64))+(((q2&&& (6148914691236517205:BitVec 64))+(x1&&& (6148914691236517205:BitVec 64)))&&& (3689348814741910323:BitVec 64))) ((4:BitVec 64).toNat:Int)).bind fun q4=>(Z43 ((q4+((q3&&& (3689348814741910323:BitVec 64))+(((q2&&& (6148914691236517205:BitVec 64))+(x1&&& (6148914691236517205:BitVec 64)))&&& (3689348814741910323:BitVec 64))))&&& (1085102592571150095:BitVec 64)) ((8:BitVec 64).toNat:Int)).bind fun q5=>(Z43 (((q4+((q3&&& (3689348814741910323:BitVec 64))+(((q2&&& (6148914691236517205:BitVec 64))+(x1&&& (6148914691236517205:BitVec 64)))&&& (3689348814741910323:BitVec 64))))&&& (1085102592571150095:BitVec 64))+q5) ((16:BitVec 64).toNat:Int)).bind fun q6=>(Z43 ((((q4+((q3&&& (3689348814741910323:BitVec 64))+(((q2&&& (6148914691236517205:BitVec 64))+(x1&&& (6148914691236517205:BitVec 64)))&&& (3689348814741910323:BitVec 64))))&&& (1085102592571150095:BitVec 64))+q5)+q6) ((32:BitVec 64).toNat:Int)).bind fun q7=>some (Zgo .and .i64 (IntKind.i64.wrap ((((((q4+((q3&&& (3689348814741910323:BitVec 64))+(((q2&&& (6148914691236517205:BitVec 64))+(x1&&& (6148914691236517205:BitVec 64)))&&& (3689348814741910323:BitVec 64))))&&& (1085102592571150095:BitVec 64))+q5)+q6)+q7).toNat:Int)) 127)
theorem Y05:Q1 Tryz.prog 391 (rd Z04) (rd (Z0 .i64)) Zif:=fun x1 r h=>I0 Tryz.func391 rfl Tryz.ntmps391 rfl fun w H Z=>by
 unfold Zif at h
 refine SR<|Ak rfl<|Nl<|sq ?_
 obtain ⟨q2,hq2,h⟩:=Z7 h
 refine Rg<|Md rfl<|Ac (Z70 rfl rfl (vt rfl) (Z5s (vku (1:BitVec 64) rfl)) hq2) rfl<|Ac (Zat rfl rfl (vt rfl) (vku (6148914691236517205:BitVec 64) rfl)) rfl<|Md rfl<|Ac (Zat rfl rfl (vt rfl) (vku (6148914691236517205:BitVec 64) rfl)) rfl<|Ac (Zh9 rfl rfl (vt rfl) (vt rfl)) rfl<|As rfl<|Nl<|sq ?_
 obtain ⟨q3,hq3,h⟩:=Z7 h
 refine Rg<|Md rfl<|Ac (Z70 rfl rfl (vt rfl) (Z5s (vku (2:BitVec 64) rfl)) hq3) rfl<|Ac (Zat rfl rfl (vt rfl) (vku (3689348814741910323:BitVec 64) rfl)) rfl<|Md rfl<|Ac (Zat rfl rfl (vt rfl) (vku (3689348814741910323:BitVec 64) rfl)) rfl<|Ac (Zh9 rfl rfl (vt rfl) (vt rfl)) rfl<|As rfl<|Nl<|sq ?_
 obtain ⟨q4,hq4,h⟩:=Z7 h
 refine Rg<|Md rfl<|Ac (Z70 rfl rfl (vt rfl) (Z5s (vku (4:BitVec 64) rfl)) hq4) rfl<|Md rfl<|Ac (Zh9 rfl rfl (vt rfl) (vt rfl)) rfl<|Ac (Zat rfl rfl (vt rfl) (vku (1085102592571150095:BitVec 64) rfl)) rfl<|As rfl<|Nl<|sq ?_
 obtain ⟨q5,hq5,h⟩:=Z7 h
 refine Rg<|Md rfl<|Md rfl<|Ac (Z70 rfl rfl (vt rfl) (Z5s (vku (8:BitVec 64) rfl)) hq5) rfl<|Ac (Zh9 rfl rfl (vt rfl) (vt rfl)) rfl<|As rfl<|Nl<|sq ?_
 obtain ⟨q6,hq6,h⟩:=Z7 h
 refine Rg<|Md rfl<|Md rfl<|Ac (Z70 rfl rfl (vt rfl) (Z5s (vku (16:BitVec 64) rfl)) hq6) rfl<|Ac (Zh9 rfl rfl (vt rfl) (vt rfl)) rfl<|As rfl<|Nl<|sq ?_
 obtain ⟨q7,hq7,h⟩:=Z7 h
 refine Rg<|Md rfl<|Md rfl<|Ac (Z70 rfl rfl (vt rfl) (Z5s (vku (32:BitVec 64) rfl)) hq7) rfl<|Ac (Zh9 rfl rfl (vt rfl) (vt rfl)) rfl<|As rfl<|Nl<|SR<|Md rfl<|Ac (Za8 rfl rfl Ylj un3 (vt rfl)) rfl<|Ac (Yaa rfl rfl (vt rfl) (vk rfl)) rfl<|As rfl<|Nl<|rt ?_
 cases h;exact Zd Tryz.results391 rfl (Z5 rfl)
def Zlu (a1:Wide):Option Int:=
 (Zif a1.Hi).bind fun x3=>(Zif a1.Lo).bind fun x4=>some (IntKind.i64.wrap (x3+x4))
theorem Yh9:Q1 Tryz.prog 376 (rd Zn) (rd (Z0 .i64)) Zlu:=fun a1 r h=>I0 Tryz.func376 rfl Tryz.ntmps376 rfl fun w H Z=>by
 unfold Zlu at h
 refine SR<|Cv rfl (Zs 2 rfl rfl (vt rfl)) fun g2=>Ak rfl<|Nl<|sq ?_
 obtain ⟨x3,hx3,x4,hx4,h⟩:=bs2 h
 refine AR Z00 (by kernel_rfl)<|SFd lWide_0 Z4s rfl<|Zp Z1h 2 rfl<|SCl [4] (Y05 _ _ hx3) Y55 rfl<|SFd lWide_1 Z4r rfl<|Zp Z1h 2 rfl<|SCl [7] (Y05 _ _ hx4) Y55 rfl<|Sd (lo [5,8] [] rfl fun S hs hr=>Z05 rfl rfl (vh hs 5 rfl rfl) (vh hs 8 rfl rfl))<|SAs rfl<|Sn<|rt ?_
 cases h;exact Zd Tryz.results376 rfl (Z5 rfl)
def Ziw (a1:Wide)(i2:Int):Option Bool:=
 (Zcc i2).bind fun x4=>(Zc1 a1 x4).bind fun x5=>(Zhp x5).bind fun x6=>some (!x6)
theorem Ya6:Q2 Tryz.prog 349 (rd Zn) (rd (Z0 .i64)) (rd Z6) Ziw:=fun a1 i2 r h=>I0 Tryz.func349 rfl Tryz.ntmps349 rfl fun w H Z=>by
 unfold Ziw at h
 refine SR<|Cv rfl (Zs 3 rfl rfl (vt rfl)) fun g3=>Ab rfl<|Nl<|sq ?_
 obtain ⟨x4,hx4,x5,hx5,x6,hx6,h⟩:=bs3 h
 refine AR Z00 (by kernel_rfl)<|Zp Zw 3 rfl<|Zt rfl<|SCl [6] (Zqn _ _ hx4) Zpt rfl<|SCl [5,7] (Zkz _ _ _ hx5) Zjq rfl<|SCl [8] (Zu5 _ _ hx6) Ztp rfl<|Sd (lo [9] [] rfl fun S hs hr=>Z0z rfl rfl (vh hs 9 rfl rfl))<|SAs rfl<|Sn<|rt ?_
 cases h;exact Zd Tryz.results349 rfl (Z5 rfl)
def Zbs (x5:Wide):Nat→(List Int)→Int→Option (List Int)
 | 0,_,_=>none
 | m13+1,l10,i12=>(opt (decide (i12≥0)) (Zlu x5)).bind fun x14=>(bif ((decide (i12≥0))&&(decide ((l10.length:Int)<x14))) then (Ziw x5 i12).bind fun x15=>(bif x15 then (Z0y l10 [i12]).bind fun l16=>(Zbs x5 m13) l16 (IntKind.i64.wrap (i12 - 1)) else (Zbs x5 m13) l10 (IntKind.i64.wrap (i12 - 1))) else some l10)
def Zm5 (a1:Tern)(b2:Tern):Option (List Int):=
 (Zas b2.Mask a1.Mask).bind fun x5=>Zbs x5 Z0v [] 127
theorem Yqe:Q2 Tryz.prog 348 (rd Z4) (rd Z4) (rd (Z1 (Z0 .i64))) Zm5:=fun a1 b2 r h=>I0 Tryz.func348 rfl Tryz.ntmps348 rfl fun w H Z=>by
 unfold Zm5 at h
 refine SR<|Cv rfl (Zs 3 rfl rfl (vt rfl)) fun g3=>Cv rfl (Zs 4 rfl rfl (vt rfl)) fun g4=>Ac (Zv (A:=rd (Z1 (Z0 .i64)) []) rfl rfl Z1j) rfl<|Nl<|sq ?_
 obtain ⟨x5,hx5,h⟩:=Z7 h
 refine Rg<|Zk lTern_1 Z2g rfl<|Ld Zw 4 rfl<|Zk lTern_1 Z2g rfl<|Ld Zw 3 rfl<|Cl [9,11] (Ziy _ _ _ hx5) Zj6 rfl<|Cv rfl (Zm 6 rfl rfl Z2c) fun g6=>Zf Zw 6 rfl<|Nl<|sq<|AW.newnil 1001 3 (Z0 .i64)<|Rg<|Ac (Zv rfl rfl vc) rfl<|Nl<|sq<|SR<|Ak rfl<|Nl<|bk<|LG (d:=[]) (ν:=Nat×(List Int)×Int×Value) (fun (m13,l10,i12,v11)=>(True∧Zbs x5 m13 l10 i12=some r,m13,[(5,Zb g6 (Lens.id Zn)),(6,Zc v11),(7,rd (Z0 .i64) i12)],[(6,Zh g6 29 Zn x5),(1001,Zg v11 3 (Z0 .i64) l10)])) (Z0v,[],127,(.slice none 0 0)) ⟨trivial,h⟩ (FX rfl) ?_
 rintro ⟨m13,l10,i12,v11⟩ ⟨hsf1,h⟩
 dsimp only at h ⊢
 cases m13 with
 | zero=>cases h
 | succ m13=>
  unfold Zbs at h
  refine sq<|sq ?_
  obtain ⟨x14,hx14,h⟩:=Z7 h
  refine Rg<|Md rfl<|Ac (Z45 rfl rfl (vt rfl) (vk rfl)) rfl<|Md rfl<|Gd rfl (fun hq=>Zq (A:=Zc v11) rfl rfl (vt rfl))<|Gd rfl (fun hq=>Z51 1001 rfl rfl Z15 (Zi rfl hq) rfl)<|Gd rfl (fun hq=>Z1z rfl rfl Zw (vt rfl) (i:=6) rfl)<|Gd rfl (fun hq=>Z0g (xs:=[.tmp 18]) (Yh9 _ _ (Z2j hx14 hq)) Yrc rfl rfl ⟨Zi rfl hq,trivial⟩)<|Gd rfl (fun hq=>Zj rfl rfl (Zi rfl hq) (Zi rfl hq))<|Ac (Z1m rfl rfl (vt rfl) (vt rfl)) rfl<|Nl<|Cq rfl h (fun h=>?_) (fun h=>?_)
  ·refine sk<|sq<|bk<|sq ?_
   obtain ⟨x15,hx15,h⟩:=Z7 h
   refine Rg<|Ld Zw 6 rfl<|Md rfl<|Cl [24,25] (Ya6 _ _ _ hx15) Y6p rfl<|Nl<|Cq rfl h (fun h=>?_) (fun h=>?_)
   ·obtain ⟨l16,hl16,h⟩:=Z7 h
    refine Rg<|Mw rfl<|Md rfl<|Ac (osl Z15 zr3 rfl (vt rfl)) rfl<|Cv rfl (Z2f 1001 hl16 rfl rfl Zik (vt rfl) rfl (vt rfl)) fun v17=>Aw rfl<|Nl<|Rg<|Md rfl<|Ac (Z0t rfl rfl (vt rfl) (vk rfl)) rfl<|As rfl<|Nl ?_
    exact ⟨(_,_,_,_),Nat.lt_succ_self _,⟨trivial,h⟩,FX rfl⟩
   ·refine sk<|Rg<|Md rfl<|Ac (Z0t rfl rfl (vt rfl) (vk rfl)) rfl<|As rfl<|Nl ?_
    exact ⟨(_,_,_,_),Nat.lt_succ_self _,⟨trivial,h⟩,FX rfl⟩
  ·refine xt<|SR<|Mw rfl<|Aw rfl<|Nl<|AW.freezes [4,6,31] 1001 rfl ⟨rfl,rfl,rfl,trivial⟩ rfl<|rt ?_
   cases h;exact Zd Tryz.results348 rfl (Z5 rfl)
def Zjh (t1:Tern)(i2:Int)(o3:Bool):Option Tern:=
 (Zcc i2).bind fun x6=>(Z83 t1).bind fun x8=>(Z9c x8.Mask x6).bind fun x9=>(Zas x8.Value x6).bind fun x10=>(bif o3 then (Z9c ({{x8 with Mask:=x9} with Value:=x10}.Value) x6).bind fun x11=>some {{{x8 with Mask:=x9} with Value:=x10} with Value:=x11} else some {{x8 with Mask:=x9} with Value:=x10})
theorem Y7s:Q3 Tryz.prog 350 (rd Z4) (rd (Z0 .i64)) (rd Z6) (rd Z4) Zjh:=fun t1 i2 o3 r h=>I0 Tryz.func350 rfl Tryz.ntmps350 rfl fun w H Z=>by
 unfold Zjh at h
 refine SR<|Cv rfl (Zs 4 rfl rfl (vt rfl)) fun g4=>Cv rfl (Zm 7 rfl rfl Z1n) fun g5=>Nl<|sq ?_
 obtain ⟨x6,hx6,h⟩:=Z7 h
 refine Rg<|Md rfl<|Cl [8] (Zqn _ _ hx6) Zpt rfl<|Cv rfl (Zm 8 rfl rfl Z2c) fun g7=>Zf Zw 8 rfl<|Nl<|sq ?_
 obtain ⟨x8,hx8,h⟩:=Z7 h
 refine Rg<|Ld Z01 4 rfl<|Cl [10] (Zb9 _ _ hx8) Za7 rfl<|Zf Z01 4 rfl<|Nl<|sq ?_
 obtain ⟨x9,hx9,x10,hx10,h⟩:=bs2 h
 refine AR Z00 (by kernel_rfl)<|SFd lTern_1 Z2g rfl<|Zp Zw 4 rfl<|Zp Zw 8 rfl<|SCl [13,14] (Zej _ _ _ hx9) Zeo rfl<|SFd lTern_0 Z32 rfl<|Zp Zw 4 rfl<|Zp Zw 8 rfl<|SCl [17,18] (Ziy _ _ _ hx10) Zj6 rfl<|SFd lTern_1 Z2g rfl<|SSt Zw 4 rfl<|SFd lTern_0 Z32 rfl<|SSt Zw 4 rfl<|Sn<|sq<|SR<|Md rfl<|Nl<|Cq rfl h (fun h=>?_) (fun h=>?_)
 ·obtain ⟨x11,hx11,h⟩:=Z7 h
  refine Rg<|Zk lTern_0 Z32 rfl<|Ld Zw 4 rfl<|Ld Zw 8 rfl<|Cl [24,25] (Zej _ _ _ hx11) Zeo rfl<|Zk lTern_0 Z32 rfl<|Zf Zw 4 rfl<|Nl<|SR<|Ld Z01 4 rfl<|Zf Z01 7 rfl<|Nl<|rt ?_
  cases h;exact Zd Tryz.results350 rfl (Zx rfl (i:=7) rfl Z01)
 ·refine sk<|SR<|Ld Z01 4 rfl<|Zf Z01 7 rfl<|Nl<|rt ?_
  cases h;exact Zd Tryz.results350 rfl (Zx rfl (i:=7) rfl Z01)
end Go.Proofs.YtinplddjjalohaaGreatDoor.W
set_option maxHeartbeats 1000000
set_option maxRecDepth 4000
namespace Go.Proofs.YtinplddjjalohaaGreatDoor.W
open Go Go.Wb
theorem Yfg:Ent Tryz.prog 348:=Ent.mk Tryz.func348 rfl rfl
theorem Y1i:Ent Tryz.prog 350:=Ent.mk Tryz.func350 rfl rfl
theorem Ywv:Ent Tryz.prog 347:=Ent.mk Tryz.func347 rfl rfl
theorem Ypo:Ent Tryz.prog 300:=Ent.mk Tryz.func300 rfl rfl
theorem Yz1:Ent Tryz.prog 301:=Ent.mk Tryz.func301 rfl rfl
theorem Yj2:Ent Tryz.prog 302:=Ent.mk Tryz.func302 rfl rfl
theorem Ypd:Ent Tryz.prog 303:=Ent.mk Tryz.func303 rfl rfl
theorem Y0z:Ent Tryz.prog 220:=Ent.mk Tryz.func220 rfl rfl
theorem Ytd:Ent Tryz.prog 221:=Ent.mk Tryz.func221 rfl rfl
theorem Yvo:Ent Tryz.prog 134:=Ent.mk Tryz.func134 rfl rfl
theorem Yc4:Ent Tryz.prog 133:=Ent.mk Tryz.func133 rfl rfl
theorem Ynu:Ent Tryz.prog 137:=Ent.mk Tryz.func137 rfl rfl
def Zfg (sg:Type)(go1:Nat→Za→(Lp sg)→Option (Lp sg))(i14:Nat)(x16:Tern)(y1:(sg→Za→Option (Lp sg))):(List Int)→Nat→Za→(Lp sg)→Option (Lp sg)
 | [],i24,b22,s23=>go1 (i14+1) b22 s23
 | x26::l25,i24,b22,s23=>(Ziw x16.Value x26).bind fun x27=>(chk 24 (i14:Int)).bind fun j29=>(Zjh (Vector.get b22 j29) x26 (!x27)).bind fun x30=>(chk 24 (i14:Int)).bind fun j31=>(yc y1 s23 (Vector.set b22 j31.1 x30 j31.2)).bind fun s32=>(bif (!(Lp.isGo s32)) then some s32 else (chk 24 (i14:Int)).bind fun j33=>(Zjh (Vector.get b22 j33) x26 x27).bind fun x34=>(chk 24 (i14:Int)).bind fun j35=>(Zfg sg go1 i14 x16 y1 l25) (i24+1) (Vector.set b22 j35.1 x34 j35.2) s32)
def Zao (sg:Type)(y1:(sg→Za→Option (Lp sg))):(List Tern)→Nat→Za→(Lp sg)→Option (Lp sg)
 | [],i14,b12,s13=>some s13
 | x16::l15,i14,b12,s13=>(chk 24 (i14:Int)).bind fun j18=>(Zm5 (Vector.get b12 j18) x16).bind fun x19=>(bif (decide ((x19.length:Int)=0)) then (Zao sg y1 l15) (i14+1) b12 s13 else Zfg sg (Zao sg y1 l15) i14 x16 y1 x19 0 b12 s13)
def Zc6 (sg:Type)(y1:(sg→Za→Option (Lp sg)))(s2:(Lp sg))(x3:Za)(x4:Za):Option (Lp sg):=
 (Zgi x3).bind fun x5=>(Zch x3 x4).bind fun x7=>(bif (!x7.2) then (yc y1 s2 x5).bind fun s9=>some s9 else Zao sg y1 (Vector.toList x4) 0 x5 s2)
theorem Ymq (sg:Type)(y1:(sg→Za→Option (Lp sg)))(L:Lp sg→Zu)(s2:(Lp sg))(x3:Za)(x4:Za)(r:(Lp sg))(h:Zc6 sg y1 s2 x3 x4=some r):Con Tryz.prog 347 [ydA Tryz.prog (Z3 24 Z4) y1 L,rp (Z3 24 Z4) x3,rp (Z3 24 Z4) x4] (L s2) (fun _:Unit=>top) (fun _=>L r):=by
 refine Con.intro Tryz.func347 rfl Tryz.ntmps347 rfl fun w H X Z=>?_
 unfold Zc6 at h
 refine AW.scope<|sq ?_
 obtain ⟨x5,hx5,h⟩:=Z7 h
 refine Rg<|Lp1 Z02 rfl<|Cl [14] (Y2q _ _ hx5) Y50 rfl<|Cv rfl (Zm 5 rfl rfl Z1l) fun g6=>Zf Z02 5 rfl<|Nl<|sq<|sq ?_
 obtain ⟨x7,hx7,h⟩:=Z7 h
 refine Rg<|Lp1 Z02 rfl<|Lp1 Z02 rfl<|Cl [17,18] (Zt6 _ _ _ hx7) Zv3 rfl<|Mt2 rfl<|Ac (Z1e rfl rfl (vt rfl)) rfl<|Ac (Z1a rfl rfl (vt rfl)) rfl<|Cv rfl (Zm 6 rfl rfl Z1l) fun g8=>Zf Z02 6 rfl<|As rfl<|Nl<|SR<|Md rfl<|Ac (Z0z rfl rfl (vt rfl)) rfl<|Nl<|Cq rfl h (fun h=>?_) (fun h=>?_)
 ·refine sq ?_
  obtain ⟨s9,hs9,h⟩:=Z7 h
  refine Rg<|Ac (Zq (A:=ydA Tryz.prog (Z3 24 Z4) y1 L) rfl rfl (vt rfl)) rfl<|Ld Z02 5 rfl<|Ac (Zny 0 hs9 rfl rfl (vt rfl) (vt rfl) rfl) rfl<|Nl<|rt ?_
  cases h;exact Z2e (i:=0) Tryz.results347 rfl rfl
 ·refine sk<|sq<|AW.label<|SR<|Lp1 Z02 rfl<|Mk rfl<|Nl<|bk<|LG (d:=[]) (ν:=(List Tern)×Nat×Za×(Lp sg)) (fun (l15,i14,b12,s13)=>(Sfx (Vector.toList x4) i14 l15∧Zao sg y1 l15 i14 b12 s13=some r,l15.length,[(0,ydA Tryz.prog (Z3 24 Z4) y1 L),(4,Zb g6 (Lens.id (Z3 24 Z4))),(27,rd (Z3 24 Z4) x4),(28,rd (Z0 .i64) (i14:Int))],[(0,L s13),(5,Zh g6 123 (Z3 24 Z4) b12)])) ((Vector.toList x4),0,x5,s2) ⟨Sfx.start _,h⟩ (FX rfl) ?_
  rintro ⟨l15,i14,b12,s13⟩ ⟨hsf1,h⟩
  dsimp only at hsf1 h ⊢
  cases l15 with
  | nil=>
   unfold Zao at h
   refine SR<|Ac (Zj rfl rfl (vt rfl) (vk rfl)) rfl<|Nl<|sq<|Cn rfl (fun hc=>absurd (of_decide_eq_true hc) (hsf1.niln (by simp))) (fun hc=>?_)
   refine xt ?_
   cases h;exact Z2e (i:=0) Tryz.results347 rfl rfl
  | cons x16 l15=>
   unfold Zao at h
   refine SR<|Ac (Zj rfl rfl (vt rfl) (vk rfl)) rfl<|Nl<|sq<|Cn rfl (fun hc=>?_) (fun hc=>absurd (hsf1.consn (by simp)) (of_decide_eq_false hc))
   have hlti14:=of_decide_eq_true hc
   refine sk<|sq<|bk<|SR<|Md rfl<|Ac (Z8w rfl rfl Z2p Z01 (vt rfl) (vt rfl) hsf1.lget) rfl<|Cv rfl (Zm 9 rfl rfl Z1n) fun g17=>As rfl<|Zf Z01 9 rfl<|Nl<|sq ?_
   obtain ⟨j18,hj18,x19,hx19,h⟩:=bs2 h
   refine AR Z00 (by kernel_rfl)<|Zt rfl<|Sd (lo [4,32] [] rfl fun S hs hr=>Z19 rfl rfl Z2p (vh hs 4 rfl rfl) (vh hs 32 rfl rfl) hj18)<|Zp Z01 5 rfl<|Zp Z01 9 rfl<|SCl [34,35] (Yqe _ _ _ hx19) Yfg rfl<|SAs rfl<|Sn<|sq<|SR<|Md rfl<|Ac (Z0i rfl rfl Z15 (vt rfl)) rfl<|Ac (Z0m rfl rfl (vt rfl) (vk rfl)) rfl<|Nl<|Cq rfl h (fun h=>?_) (fun h=>?_)
   ·refine xt<|Rg<|Ac (Z5r rfl rfl (vt rfl) (vk rfl) rfl hlti14) rfl<|Md rfl<|Nl ?_
    exact ⟨(_,_,_,_),Nat.lt_succ_self _,⟨hsf1.next,h⟩,FX rfl⟩
   ·refine sk<|SR<|Md rfl<|Ac (Z0i rfl rfl Z15 (vt rfl)) rfl<|Mk rfl<|Nl<|bk<|LG (d:=[]) (ν:=(List Int)×Nat×Za×(Lp sg)) (fun (l25,i24,b22,s23)=>(Sfx x19 i24 l25∧Zfg sg (Zao sg y1 l15) i14 x16 y1 l25 i24 b22 s23=some r,l25.length,[(0,ydA Tryz.prog (Z3 24 Z4) y1 L),(4,Zb g6 (Lens.id (Z3 24 Z4))),(7,rd (Z0 .i64) (i14:Int)),(8,Zb g17 (Lens.id Z4)),(27,rd (Z3 24 Z4) x4),(28,rd (Z0 .i64) (i14:Int)),(40,rd (Z1 (Z0 .i64)) x19),(41,rd (Z0 .i64) (x19.length:Int)),(42,rd (Z0 .i64) (i24:Int))],[(0,L s23),(5,Zh g6 123 (Z3 24 Z4) b22),(9,Zh g17 121 Z4 x16)])) (x19,0,b12,s13) ⟨Sfx.start _,h⟩ (FX rfl) ?_
    rintro ⟨l25,i24,b22,s23⟩ ⟨hsf2,h⟩
    dsimp only at hsf2 h ⊢
    cases l25 with
    | nil=>
     unfold Zfg at h
     refine SR<|Ac (Zj rfl rfl (vt rfl) (vt rfl)) rfl<|Nl<|sq<|Cn rfl (fun hc=>absurd (of_decide_eq_true hc) hsf2.nil) (fun hc=>?_)
     refine xt<|Rg<|Ac (Z5r rfl rfl (vt rfl) (vk rfl) rfl hlti14) rfl<|Md rfl<|Nl ?_
     exact ⟨(_,_,_,_),Nat.lt_succ_self _,⟨hsf1.next,h⟩,FX rfl⟩
    | cons x26 l25=>
     unfold Zfg at h
     refine SR<|Ac (Zj rfl rfl (vt rfl) (vt rfl)) rfl<|Nl<|sq<|Cn rfl (fun hc=>?_) (fun hc=>absurd hsf2.cons (of_decide_eq_false hc))
     have hlti24:=of_decide_eq_true hc
     refine sk<|sq<|bk<|SR<|Ac (Z0j rfl rfl Z15 (vt rfl) (vt rfl) hsf2.lget) rfl<|Lp1 Zo rfl<|As rfl<|Nl<|sq ?_
     obtain ⟨x27,hx27,h⟩:=Z7 h
     refine Rg<|Zk lTern_0 Z32 rfl<|Ld Zw 9 rfl<|Md rfl<|Cl [47,48] (Ya6 _ _ _ hx27) Y6p rfl<|As rfl<|Nl<|SR<|Ld Z02 5 rfl<|Cv rfl (Zm 14 rfl rfl Z1l) fun g28=>Zf Z02 14 rfl<|Nl<|sq ?_
     obtain ⟨j29,hj29,x30,hx30,j31,hj31,h⟩:=bs3 h
     refine Rg<|Md rfl<|Md rfl<|Ac (Z19 rfl rfl Z2p (vt rfl) (vt rfl) hj29) rfl<|Ld Z01 5 rfl<|Md rfl<|Md rfl<|Ac (Z0z rfl rfl (vt rfl)) rfl<|Cl [54,55,57] (Y7s _ _ _ _ hx30) Y1i rfl<|Ac (Z19 rfl rfl Z2p (vt rfl) (vt rfl) hj31) rfl<|Zf Z01 14 rfl<|Nl<|sq<|sq ?_
     obtain ⟨s32,hs32,h⟩:=Z7 h
     refine Rg<|Ac (Zq (A:=ydA Tryz.prog (Z3 24 Z4) y1 L) rfl rfl (vt rfl)) rfl<|Ld Z02 14 rfl<|Ac (Zny 0 hs32 rfl rfl (vt rfl) (vt rfl) rfl) rfl<|Ac (Z0z rfl rfl (vt rfl)) rfl<|Nl<|Cq rfl h (fun h=>?_) (fun h=>?_)
     ·refine xt ?_
      cases h;exact Z2e (i:=0) Tryz.results347 rfl rfl
     ·refine sk ?_
      obtain ⟨j33,hj33,x34,hx34,j35,hj35,h⟩:=bs3 h
      refine Rg<|Md rfl<|Md rfl<|Ac (Z19 rfl rfl Z2p (vt rfl) (vt rfl) hj33) rfl<|Ld Z01 5 rfl<|Md rfl<|Md rfl<|Cl [67,68,69] (Y7s _ _ _ _ hx34) Y1i rfl<|Ac (Z19 rfl rfl Z2p (vt rfl) (vt rfl) hj35) rfl<|Zf Z01 5 rfl<|Nl<|Rg<|Ac (Z13 (t:=41) rfl rfl (vt rfl) (vk rfl) (vt rfl) hlti24) rfl<|Md rfl<|Nl ?_
      exact ⟨(_,_,_,_),Nat.lt_succ_self _,⟨hsf2.next,h⟩,FX rfl⟩
def Zqg (a1:Za)(b2:Za):Option (Itr Za):=
 some (Itr.mk fun σ y s=>Zc6 σ y s a1 b2)
theorem Yj5:Q2 Tryz.prog 303 (rd (Z3 24 Z4)) (rd (Z3 24 Z4)) (Z5j Tryz.prog (Z3 24 Z4)) Zqg:=fun a1 b2 r h=>I0 Tryz.func303 rfl Tryz.ntmps303 rfl fun w H Z=>by
 unfold Zqg at h
 refine SR<|Cv rfl (Zs 3 rfl rfl (vt rfl)) fun g3=>Cv rfl (Zs 4 rfl rfl (vt rfl)) fun g4=>Ac (Zv (A:=Zc .nilFunc) rfl rfl vc) rfl<|Nl<|sq<|AW.freezeB 2 3 rfl rfl rfl<|AW.freezeB 3 4 rfl rfl rfl<|Rg<|Ac (Zvf (Itr.mk fun σ y s=>Zc6 σ y s a1 b2) (cs:=[.tmp 2,.tmp 3]) (CAs:=[rp (Z3 24 Z4) a1,rp (Z3 24 Z4) b2]) rfl rfl Ywv ⟨vt rfl,vt rfl,trivial⟩ (fun σ y L s r h=>Ymq σ y L s a1 b2 r h)) rfl<|Ac (Zv (A:=Z5j Tryz.prog (Z3 24 Z4) (Itr.mk fun σ y s=>Zc6 σ y s a1 b2)) rfl rfl (vt rfl)) rfl<|Nl<|rt ?_
 cases h;exact Zd Tryz.results303 rfl (Z5 rfl)
def Za4 (l4:(List Za))(x10:(Bool×Int))(R_cover_look_at:(cover_look→Za→(List Za)→Option (Z16×Bool×Bool×cover_look)))(b18:cover_look)(b19:Z16)(b20:Bool)(b21:Bool)(x23:Za):Option (Lp (cover_look×Z16×Bool×Bool)):=
 (Z6t l4 (IntKind.i64.wrap (x10.2+1))).bind fun s25=>(R_cover_look_at b18 x23 s25).bind fun b26=>(bif (b26.2.1||(!b26.2.2.1)) then some (.out (.exit 1) (b26.2.2.2,b26.1,b26.2.1,b26.2.2.1)) else some (.go (b26.2.2.2,b26.1,b26.2.1,b26.2.2.1)))
def Zo9 (R_cover_look_at:(cover_look→Za→(List Za)→Option (Z16×Bool×Bool×cover_look)))(s1:cover_look)(x3:Za)(l4:(List Za)):Option (Z16×Bool×Bool×cover_look):=
 (Zn9 s1.purse).bind fun b9=>(bif (!b9.1) then some ((Vector.replicate 24 Z0s),false,false,{s1 with purse:=b9.2}) else (Zr1 x3 l4).bind fun x10=>(bif x10.1 then some ((Vector.replicate 24 Z0s),false,true,{s1 with purse:=b9.2}) else (bif (decide (x10.2<0)) then (Zn0 x3).bind fun x12=>some (x12,true,true,{s1 with purse:=b9.2}) else (lget l4 x10.2).bind fun x16=>(Zqg x3 x16).bind fun x17=>(Itr.run x17 (cover_look×Z16×Bool×Bool) (fun s x=>Za4 l4 x10 R_cover_look_at s.1 s.2.1 s.2.2.1 s.2.2.2 x) (.go ({s1 with purse:=b9.2},(Vector.replicate 24 Z0s),false,true))).bind fun z22=>Y4j z22 (fun s27=>some (s27.2.1,s27.2.2.1,s27.2.2.2,s27.1)) (fun c s27=>bif Zsq 1 c then some (s27.2.1,s27.2.2.1,s27.2.2.2,s27.1) else none))))
theorem Ytc (R_cover_look_at:(cover_look→Za→(List Za)→Option (Z16×Bool×Bool×cover_look)))(hR_cover_look_at:∀(g2 gT:Nat) (s1:cover_look) (x3:Za) (l4:(List Za)) (r:(Z16×Bool×Bool×cover_look)),R_cover_look_at s1 x3 l4=some r→Con Tryz.prog 220 [Zb g2 (Lens.id Z2d),rd (Z3 24 Z4) x3,rd (Z1 (Z3 24 Z4)) l4] (Zh g2 gT Z2d s1) (fun _:Unit=>Z4o (rd (Z3 24 Zn) r.1) (rd Z6 r.2.1) (rd Z6 r.2.2.1)) (fun _=>Zh g2 gT Z2d r.2.2.2))(g2 gT:Nat)(s1:cover_look)(x3:Za)(l4:(List Za))(r:(Z16×Bool×Bool×cover_look))(h:Zo9 R_cover_look_at s1 x3 l4=some r):Con Tryz.prog 220 [Zb g2 (Lens.id Z2d),rd (Z3 24 Z4) x3,rd (Z1 (Z3 24 Z4)) l4] (Zh g2 gT Z2d s1) (fun _:Unit=>Z4o (rd (Z3 24 Zn) r.1) (rd Z6 r.2.1) (rd Z6 r.2.2.1)) (fun _=>Zh g2 gT Z2d r.2.2.2):=by
 refine Con.intro Tryz.func220 rfl Tryz.ntmps220 rfl fun w H X Z=>?_
 unfold Zo9 at h
 refine SR<|Cv rfl (Zs 4 rfl rfl (vkp (vt rfl))) fun g5=>Cv rfl (Zs 5 rfl rfl (vt rfl)) fun g6=>Cv rfl (Zs 6 rfl rfl (vt rfl)) fun g7=>Cv rfl (Zm 7 rfl rfl Z55) fun g8=>Ab rfl<|Ab rfl<|Nl<|AW.scope<|sq<|sq ?_
 obtain ⟨b9,hb9,h⟩:=Z7 h
 refine Rg<|Ac (Y75 (A:=Zb g2 (Lens.id Z2d)) rfl rfl rfl (Y8w _) (vt rfl) (i:=4) rfl) rfl<|Nc rfl<|Zk lcover_look_0 Yey rfl<|Cv rfl (Z1c 0 (xs:=[.tmp 17]) (Yhe _ _ _ _ hb9) Ypo rfl rfl ⟨vt rfl,trivial⟩ rfl) fun _u=>AOps.told 0 (Zh g2 gT Z2d {s1 with purse:=b9.2}) rfl<|Ac (Z0z rfl rfl (vt rfl)) rfl<|Nl<|Cq rfl h (fun h=>?_) (fun h=>?_)
 ·refine SR<|Ac (Z1o (ps:=[]) (x:=(Vector.replicate 24 Z0s)) rfl rfl rfl (by kernel_rfl) Z55 rfl) rfl<|Zf Z17 7 rfl<|Ab rfl<|Ab rfl<|Nl<|rt ?_
  cases h;exact Znb (i:=0) Tryz.results220 rfl (Zx rfl (i:=7) rfl Z17) (Z5 rfl) (Z5 rfl) rfl
 ·refine sk<|sq ?_
  obtain ⟨x10,hx10,h⟩:=Z7 h
  refine Rg<|Ld Z02 5 rfl<|Ld Zyz 6 rfl<|Cl [22,23] (Yg1 _ _ _ hx10) Yz1 rfl<|Mt2 rfl<|Ac (Z1e rfl rfl (vt rfl)) rfl<|Ac (Z1a rfl rfl (vt rfl)) rfl<|Cv rfl (Zm 11 rfl rfl zr3) fun g11=>As rfl<|Zf Zo 11 rfl<|Nl<|sq<|bk<|SR<|Md rfl<|As rfl<|Nl<|Cq rfl h (fun h=>?_) (fun h=>?_)
  ·refine SR<|Ac (Z1o (ps:=[]) (x:=(Vector.replicate 24 Z0s)) rfl rfl rfl (by kernel_rfl) Z55 rfl) rfl<|Zf Z17 7 rfl<|Ab rfl<|Ab rfl<|Nl<|rt ?_
   cases h;exact Znb (i:=0) Tryz.results220 rfl (Zx rfl (i:=7) rfl Z17) (Z5 rfl) (Z5 rfl) rfl
  ·refine SR<|Ld Zo 11 rfl<|Ac (Zj rfl rfl (vt rfl) (vk rfl)) rfl<|As rfl<|Nl<|Cq rfl h (fun h=>?_) (fun h=>?_)
   ·refine sq ?_
    obtain ⟨x12,hx12,h⟩:=Z7 h
    refine Rg<|Ld Z02 5 rfl<|Cl [33] (Yrf _ _ hx12) Yj2 rfl<|Zf Z17 7 rfl<|Ab rfl<|Ab rfl<|Nl<|rt ?_
    cases h;exact Znb (i:=0) Tryz.results220 rfl (Zx rfl (i:=7) rfl Z17) (Z5 rfl) (Z5 rfl) rfl
   ·refine sk<|SR<|Cv rfl (Zm 12 rfl rfl Z55) fun g13=>Nl<|SR<|Cv rfl (Zm 13 rfl rfl zr4) fun g14=>Cv rfl (Zm 14 rfl rfl zr4) fun g15=>Ac (Z76 rfl rfl ty4 (vt rfl) (i:=13) rfl vb) rfl<|Ac (Z76 rfl rfl ty4 (vt rfl) (i:=14) rfl vb) rfl<|Nl<|sq<|AW.label<|sq<|sq ?_
    obtain ⟨x16,hx16,x17,hx17,h⟩:=bs2 h
    refine AR Z00 (by kernel_rfl)<|Zp Z02 5 rfl<|Zp Zyz 6 rfl<|Zp Zo 11 rfl<|Sd (lo [36,37] [] rfl fun S hs hr=>Z0j rfl rfl Z4z (vh hs 36 rfl rfl) (vh hs 37 rfl rfl) hx16)<|SLp Z02 rfl<|SCl [35,39] (Yj5 _ _ _ hx17) Ypd rfl<|Sn<|bk ?_
    obtain ⟨z22,hz22,h⟩:=Z7 h
    refine AW.fit (d:=[]) (L:=[(3,Zb g5 (Lens.id (kas (Zb g2 (Lens.id Z2d))))),(5,Zb g7 (Lens.id (Z1 (Z3 24 Z4)))),(6,Zb g8 (Lens.id (Z3 24 Zn))),(7,rd Z6 false),(8,rd Z6 false),(10,Zb g11 (Lens.id (Z0 .i64))),(11,Zb g13 (Lens.id (Z3 24 Zn))),(12,Zb g14 (Lens.id Z6)),(13,Zb g15 (Lens.id Z6)),(40,Z5j Tryz.prog (Z3 24 Z4) x17)]) (M:=[(4,Zh g5 287 (kas (Zb g2 (Lens.id Z2d))) ()),(0,Zh g2 gT Z2d {s1 with purse:=b9.2}),(6,Zh g7 127 (Z1 (Z3 24 Z4)) l4),(7,Zh g8 31 (Z3 24 Zn) (Vector.replicate 24 Z0s)),(11,Zh g11 3 (Z0 .i64) x10.2),(12,Zh g13 31 (Z3 24 Zn) (Vector.replicate 24 Z0s)),(13,Zh g14 4 Z6 false),(14,Zh g15 4 Z6 true)]) (FX rfl) ?_
    refine AW.rangeFunc (σ:=cover_look×Z16×Bool×Bool) (fun x=>[rd (Z3 24 Z4) x]) (fun s x=>Za4 l4 x10 R_cover_look_at s.1 s.2.1 s.2.2.1 s.2.2.2 x) (fun s=>Z4g ((fun s=>[(4,Zh g5 287 (kas (Zb g2 (Lens.id Z2d))) ()),(0,Zh g2 gT Z2d s.1),(6,Zh g7 127 (Z1 (Z3 24 Z4)) l4),(7,Zh g8 31 (Z3 24 Zn) (Vector.replicate 24 Z0s)),(11,Zh g11 3 (Z0 .i64) x10.2),(12,Zh g13 31 (Z3 24 Zn) s.2.1),(13,Zh g14 4 Z6 s.2.2.1),(14,Zh g15 4 Z6 s.2.2.2)]) s)) (fun _ s=>Z4g ((fun s=>[(4,Zh g5 287 (kas (Zb g2 (Lens.id Z2d))) ()),(0,Zh g2 gT Z2d s.1),(6,Zh g7 127 (Z1 (Z3 24 Z4)) l4),(7,Zh g8 31 (Z3 24 Zn) (Vector.replicate 24 Z0s)),(11,Zh g11 3 (Z0 .i64) x10.2),(12,Zh g13 31 (Z3 24 Zn) s.2.1),(13,Zh g14 4 Z6 s.2.2.1),(14,Zh g15 4 Z6 s.2.2.2)]) s)) [(3,Zb g5 (Lens.id (kas (Zb g2 (Lens.id Z2d))))),(5,Zb g7 (Lens.id (Z1 (Z3 24 Z4)))),(6,Zb g8 (Lens.id (Z3 24 Zn))),(7,rd Z6 false),(8,rd Z6 false),(10,Zb g11 (Lens.id (Z0 .i64))),(11,Zb g13 (Lens.id (Z3 24 Zn))),(12,Zb g14 (Lens.id Z6)),(13,Zb g15 (Lens.id Z6))] (fun s x23 S1=> ∃(g24:Nat),Fit S1 [] [(3,Zb g5 (Lens.id (kas (Zb g2 (Lens.id Z2d))))),(5,Zb g7 (Lens.id (Z1 (Z3 24 Z4)))),(6,Zb g8 (Lens.id (Z3 24 Zn))),(7,rd Z6 false),(8,rd Z6 false),(10,Zb g11 (Lens.id (Z0 .i64))),(11,Zb g13 (Lens.id (Z3 24 Zn))),(12,Zb g14 (Lens.id Z6)),(13,Zb g15 (Lens.id Z6)),(14,Zb g24 (Lens.id (Z3 24 Z4)))] [(4,Zh g5 287 (kas (Zb g2 (Lens.id Z2d))) ()),(0,Zh g2 gT Z2d s.1),(6,Zh g7 127 (Z1 (Z3 24 Z4)) l4),(7,Zh g8 31 (Z3 24 Zn) (Vector.replicate 24 Z0s)),(11,Zh g11 3 (Z0 .i64) x10.2),(12,Zh g13 31 (Z3 24 Zn) s.2.1),(13,Zh g14 4 Z6 s.2.2.1),(14,Zh g15 4 Z6 s.2.2.2),(15,Zh g24 123 (Z3 24 Z4) x23)]) 3001 (s0:=({s1 with purse:=b9.2},(Vector.replicate 24 Z0s),false,true)) (sE:=z22) rfl (vt rfl) ⟨rfl,inferInstance,rfl,inferInstance,rfl,inferInstance,rfl,inferInstance,rfl,inferInstance,rfl,inferInstance,rfl,inferInstance,rfl,inferInstance,rfl,inferInstance,trivial⟩ rfl (fun _=>rfl) (by intro p hp;have hp:p∈[41]:=hp;rw [List.mem_singleton.1 hp];show 41<61;decide) ?ha1 ?hb1 (fun Lf=>⟨top,_,_,Lf,_,_,hz22,rfl,rfl,rfl,rfl⟩) ?he1
    case ha1=>
     rintro ⟨b18,b19,b20,b21⟩ x23 r hF l w H X Z
     refine Rg<|Cv rfl (Zm 15 rfl rfl Z1l) fun g24=>Zf Z02 15 rfl<|Nl ?_
     exact ⟨rfl,g24,FX rfl⟩
    case hb1=>
     rintro ⟨b18,b19,b20,b21⟩ x23 r h S1 ⟨g24,hfit⟩ l w H X Z
     refine AW.fit (d:=[]) (L:=[(3,Zb g5 (Lens.id (kas (Zb g2 (Lens.id Z2d))))),(5,Zb g7 (Lens.id (Z1 (Z3 24 Z4)))),(6,Zb g8 (Lens.id (Z3 24 Zn))),(7,rd Z6 false),(8,rd Z6 false),(10,Zb g11 (Lens.id (Z0 .i64))),(11,Zb g13 (Lens.id (Z3 24 Zn))),(12,Zb g14 (Lens.id Z6)),(13,Zb g15 (Lens.id Z6)),(14,Zb g24 (Lens.id (Z3 24 Z4)))]) (M:=[(4,Zh g5 287 (kas (Zb g2 (Lens.id Z2d))) ()),(0,Zh g2 gT Z2d b18),(6,Zh g7 127 (Z1 (Z3 24 Z4)) l4),(7,Zh g8 31 (Z3 24 Zn) (Vector.replicate 24 Z0s)),(11,Zh g11 3 (Z0 .i64) x10.2),(12,Zh g13 31 (Z3 24 Zn) b19),(13,Zh g14 4 Z6 b20),(14,Zh g15 4 Z6 b21),(15,Zh g24 123 (Z3 24 Z4) x23)]) hfit<|AW.bodyT ?_
     change Za4 l4 x10 R_cover_look_at b18 b19 b20 b21 x23=some r at h
     unfold Za4 at h
     refine bk<|sq ?_
     obtain ⟨s25,hs25,b26,hb26,h⟩:=bs2 h
     refine AR Z00 (by kernel_rfl)<|Sd (lo [3] [4] rfl fun S hs hr=>Y75 (A:=Zb g2 (Lens.id Z2d)) rfl rfl rfl (Y8w _) (vh hs 3 rfl rfl) (i:=4) ((hr 4 rfl).trans rfl))<|Zp Z02 15 rfl<|Zp Zyz 6 rfl<|Zp Zo 11 rfl<|Sd (lo [46] [] rfl fun S hs hr=>Z05 rfl rfl (vh hs 46 rfl rfl) (vk rfl))<|Sd (lo [45,47] [] rfl fun S hs hr=>Ypm hs25 rfl rfl Z4z (vh hs 45 rfl rfl) (vh hs 47 rfl rfl))<|Sd (Z1g (us:=[(49,Z4o (rd (Z3 24 Zn) b26.1) (rd Z6 b26.2.1) (rd Z6 b26.2.2.1))]) (ur:=[(0,Zh g2 gT Z2d b26.2.2.2)]) [43,44,48] [0] rfl fun S hs hr=>Yma 0 (xs:=[.tmp 43,.tmp 44,.tmp 48]) (hR_cover_look_at _ _ _ _ _ _ hb26) Y0z rfl rfl ⟨vt ((hs 43 rfl).trans rfl),vt ((hs 44 rfl).trans rfl),vt ((hs 48 rfl).trans rfl),trivial⟩ ((hr 0 rfl).trans rfl))<|Sd (lo [49] [] rfl fun S hs hr=>Zq (A:=Z4o (rd (Z3 24 Zn) b26.1) (rd Z6 b26.2.1) (rd Z6 b26.2.2.1)) rfl rfl (vh hs 49 rfl rfl))<|Sd (lo [42] [] rfl fun S hs hr=>Zhv rfl rfl (vh hs 42 rfl rfl))<|Sd (lo [42] [] rfl fun S hs hr=>Zh4 rfl rfl (vh hs 42 rfl rfl))<|Sd (lo [42] [] rfl fun S hs hr=>Zin rfl rfl (vh hs 42 rfl rfl))<|SSt Z17 12 rfl<|SSt ty4 13 rfl<|SSt ty4 14 rfl<|Sn<|SR<|Ld ty4 13 rfl<|Md rfl<|Gd rfl (fun hq=>Z1z rfl rfl ty4 (vt rfl) (i:=14) rfl)<|Gd rfl (fun hq=>Z0z rfl rfl (Zi rfl hq))<|Ac (Z4d rfl rfl (vt rfl) (vt rfl)) rfl<|Nl<|Cq rfl h (fun h=>?_) (fun h=>?_)
     ·refine xt ?_
      obtain rfl:=si h
      exact ⟨_,(b26.2.2.2,b26.1,b26.2.1,b26.2.2.1),Turn.refl,rfl,⟨rfl,rfl,rfl,rfl,rfl,rfl,rfl,rfl,trivial⟩⟩
     ·refine sk ?_
      obtain rfl:=si h
      exact ⟨_,(b26.2.2.2,b26.1,b26.2.1,b26.2.2.1),Turn.refl,rfl,⟨rfl,rfl,rfl,rfl,rfl,rfl,rfl,rfl,trivial⟩⟩
    case he1=>
     intro D
     cases z22 with
     | go s27=>
      change _=some r at h
      refine sq<|AR Z00 (by kernel_rfl)<|Zp Z17 12 rfl<|Zp ty4 13 rfl<|Zp ty4 14 rfl<|SSt Z17 7 rfl<|SAs rfl<|SAs rfl<|Sn<|rt ?_
      cases h;exact ⟨rfl,3001,_,rfl,Znb (i:=0) Tryz.results220 rfl (Zx rfl (i:=7) rfl Z17) (Z5 rfl) (Z5 rfl) rfl⟩
     | out c s27=>
      change (bif Zsq 1 c then _ else _)=some r at h
      cases hc:Zsq 1 c with
      | true=>
       rw [hc] at h
       have hc:=Ylo hc
       subst hc
       change _=some r at h
       refine xt<|sq<|AR Z00 (by kernel_rfl)<|Zp Z17 12 rfl<|Zp ty4 13 rfl<|Zp ty4 14 rfl<|SSt Z17 7 rfl<|SAs rfl<|SAs rfl<|Sn<|rt ?_
       cases h;exact ⟨rfl,3001,_,rfl,Znb (i:=0) Tryz.results220 rfl (Zx rfl (i:=7) rfl Z17) (Z5 rfl) (Z5 rfl) rfl⟩
      | false=>
       rw [hc] at h
       cases h
def Z8z:Nat→(cover_look→Za→(List Za)→Option (Z16×Bool×Bool×cover_look))
 | 0=>(fun _ _ _=>none)
 | n+1=>(Zo9 (Z8z n))
theorem Y7r:∀n:Nat,(∀(g2 gT:Nat) (s1:cover_look) (x3:Za) (l4:(List Za)) (r:(Z16×Bool×Bool×cover_look)),(Z8z n) s1 x3 l4=some r→Con Tryz.prog 220 [Zb g2 (Lens.id Z2d),rd (Z3 24 Z4) x3,rd (Z1 (Z3 24 Z4)) l4] (Zh g2 gT Z2d s1) (fun _:Unit=>Z4o (rd (Z3 24 Zn) r.1) (rd Z6 r.2.1) (rd Z6 r.2.2.1)) (fun _=>Zh g2 gT Z2d r.2.2.2))
 | 0=>(by intros;rename_i h;cases h)
 | n+1=>by
  have ih:=Y7r n
  exact (Ytc (Z8z n) ih)
def Zwb (s1:cover_look)(x3:Za)(l4:(List Za)):Option (Z16×Bool×Bool×cover_look):=(Z8z Z0v) s1 x3 l4
theorem Ypl:∀(g2 gT:Nat) (s1:cover_look) (x3:Za) (l4:(List Za)) (r:(Z16×Bool×Bool×cover_look)),Zwb s1 x3 l4=some r→Con Tryz.prog 220 [Zb g2 (Lens.id Z2d),rd (Z3 24 Z4) x3,rd (Z1 (Z3 24 Z4)) l4] (Zh g2 gT Z2d s1) (fun _:Unit=>Z4o (rd (Z3 24 Zn) r.1) (rd Z6 r.2.1) (rd Z6 r.2.2.1)) (fun _=>Zh g2 gT Z2d r.2.2.2):=Y7r Z0v
def Zhs (x1:Za)(l2:(List Za))(m3:Int):Option (Z16×Bool×Int):=
 (Zwb (⟨(⟨(Z2r m3 0),(decide (m3≥1099511627776))⟩:cover_purse)⟩:cover_look) x1 l2).bind fun b7=>(bif (!b7.2.2.1) then some ((Vector.replicate 24 Z0s),false,5) else some (b7.1,b7.2.1,0))
theorem Yc9:Q3 Tryz.prog 133 (rd (Z3 24 Z4)) (rd (Z1 (Z3 24 Z4))) (rd (Z0 .i64)) (fun r=>Z4o (rd (Z3 24 Zn) r.1) (rd Z6 r.2.1) (rd (Z0 .i64) r.2.2)) Zhs:=fun x1 l2 m3 r h=>I0 Tryz.func133 rfl Tryz.ntmps133 rfl fun w H Z=>by
 unfold Zhs at h
 refine SR<|Cv rfl (Zs 4 rfl rfl (vt rfl)) fun g4=>Cv rfl (Zm 7 rfl rfl Z55) fun g5=>Ab rfl<|Ak rfl<|Nl<|SR<|Md rfl<|Ac (Zk5 rfl rfl (vt rfl) (vk rfl)) rfl<|Md rfl<|Ac (Z45 rfl rfl (vt rfl) (vk rfl)) rfl<|Ac (opb (⟨(Z2r m3 0),(decide (m3≥1099511627776))⟩:cover_purse) Ysn rfl Ywj (pc Yx6 (vt rfl)<|pc Ykd (vt rfl)<|pn rfl)) rfl<|Ac (opb (⟨(⟨(Z2r m3 0),(decide (m3≥1099511627776))⟩:cover_purse)⟩:cover_look) Ycz rfl Yo5 (pc Yfo (vt rfl)<|pn rfl)) rfl<|Cv rfl (Zs 20 rfl rfl (vt rfl)) fun g6=>Ac (Zv (A:=Zb g6 (Lens.id Z2d)) rfl rfl (vt rfl)) rfl<|Nl<|sq ?_
 obtain ⟨b7,hb7,h⟩:=Z7 h
 refine Rg<|Mp rfl<|Ld Z02 4 rfl<|Md rfl<|Cv rfl (Z1c 20 (xs:=[.tmp 21,.tmp 22,.tmp 23]) (Ypl _ _ _ _ _ _ hb7) Y0z rfl rfl ⟨vt rfl,vt rfl,vt rfl,trivial⟩ rfl) fun _u=>Ac (Zq (A:=Z4o (rd (Z3 24 Zn) b7.1) (rd Z6 b7.2.1) (rd Z6 b7.2.2.1)) rfl rfl (vt rfl)) rfl<|Ac (Zhv rfl rfl (vt rfl)) rfl<|Ac (Zh4 rfl rfl (vt rfl)) rfl<|Ac (Zin rfl rfl (vt rfl)) rfl<|Cv rfl (Zm 11 rfl rfl Z55) fun g8=>Zf Z17 11 rfl<|As rfl<|As rfl<|Nl<|sq<|SR<|Md rfl<|Ac (Z0z rfl rfl (vt rfl)) rfl<|Nl<|Cq rfl h (fun h=>?_) (fun h=>?_)
 ·refine SR<|Ac (Z1o (ps:=[]) (x:=(Vector.replicate 24 Z0s)) rfl rfl rfl (by kernel_rfl) Z55 rfl) rfl<|Zf Z17 7 rfl<|Ab rfl<|Ak rfl<|Nl<|rt ?_
  cases h;exact Zft Tryz.results133 rfl (Zx rfl (i:=7) rfl Z17) (Z5 rfl) (Z5 rfl)
 ·refine sk<|SR<|Ld Z17 11 rfl<|Md rfl<|Zf Z17 7 rfl<|As rfl<|Ak rfl<|Nl<|rt ?_
  cases h;exact Zft Tryz.results133 rfl (Zx rfl (i:=7) rfl Z17) (Z5 rfl) (Z5 rfl)
def Zqa (s:List Rule):Option (List Rule):=Z0y [] s
theorem Yhb (s:List Rule)(r:List Rule)(h:Zqa s=some r):Con Tryz.prog 221 [rd (Z1 Z0a) s] emp (fun v=>Zc v) (fun v=>Zg v 126 Z0a r):=by
 refine Con.intro0 Tryz.func221 rfl Tryz.ntmps221 rfl fun w H Z=>?_
 unfold Zqa at h
 refine AW.newnil 1001 126 Z0a<|SR<|Ac (Zv (A:=Zc (.slice none 0 0)) rfl rfl vc) rfl<|Nl<|sq<|SR<|Md rfl<|Ct rfl (Zdv rfl rfl Z44 (vt rfl)) ?_
 rintro _ ⟨b,hb,rfl⟩
 refine Nl<|Cn rfl (fun hc=>?_) (fun hc=>?_)
 ·obtain rfl:=hb hc
  refine SR<|Ac (Zv (A:=Zc (.slice none 0 0)) rfl rfl vc) rfl<|Nl<|rt ?_
  obtain rfl:=(Z8k h).2
  exact Z49 (i:=1001) Tryz.results221 rfl rfl rfl
 ·refine sk<|SR<|Cv rfl (Z5g 1002 (ps:=[]) (l:=[]) rfl rfl Z44 Z7k rfl rfl rfl rfl) fun v1=>Md rfl<|Cv rfl (Z2f 1002 h rfl rfl Zkv (vt rfl) rfl (vt rfl)) fun v2=>Aw rfl<|Nl<|rt ?_
  exact Z49 (i:=1002) Tryz.results221 rfl rfl rfl
def Zcp:Nat→Nat→(List Rule)→Option (List Rule)
 | 0,i6,l5=>some l5
 | m7+1,i6,l5=>(lget l5 (i6:Int)).bind fun x8=>(Zf2 x8.Atoms).bind fun x9=>(lget l5 (i6:Int)).bind fun x10=>(Zcp m7) (i6+1) (List.set l5 (i6:Int).toNat {x10 with Atoms:=x9})
def Zn3 (l1:(List Rule)):Option (List Rule):=
 (Zqa l1).bind fun x2=>Zcp ((x2.length:Int):Int).toNat 0 x2
theorem Ydi:Q1 Tryz.prog 134 (rd (Z1 Z0a)) (rd (Z1 Z0a)) Zn3:=fun l1 r h=>I0 Tryz.func134 rfl Tryz.ntmps134 rfl fun w H Z=>by
 unfold Zn3 at h
 refine SR<|Ac (Zv (A:=rd (Z1 Z0a) []) rfl rfl Z1j) rfl<|Nl<|sq ?_
 obtain ⟨x2,hx2,h⟩:=Z7 h
 refine Rg<|Md rfl<|Cv rfl (Z1c 1001 (xs:=[.tmp 5]) (Yhb _ _ hx2) Ytd rfl rfl ⟨vt rfl,trivial⟩ rfl) fun v3=>Aw rfl<|Nl<|sq<|SR<|Mw rfl<|Ac (Z51 1001 rfl rfl Z44 (vt rfl) rfl) rfl<|Mk rfl<|Nl<|bk<|LG (d:=[]) (ν:=Nat×Nat×(List Rule)) (fun (m7,i6,l5)=>(Cnt (x2.length:Int) i6 m7∧Zcp m7 i6 l5=some r,m7,[(3,Zc v3),(8,rd (Z0 .i64) (x2.length:Int)),(9,rd (Z0 .i64) (i6:Int))],[(1001,Zg v3 126 Z0a l5)])) (((x2.length:Int):Int).toNat,0,x2) ⟨Cnt.start _,h⟩ (FX rfl) ?_
 rintro ⟨m7,i6,l5⟩ ⟨hsf1,h⟩
 dsimp only at hsf1 h ⊢
 cases m7 with
 | zero=>
  unfold Zcp at h
  refine SR<|Ac (Zj rfl rfl (vt rfl) (vt rfl)) rfl<|Nl<|sq<|Cn rfl (fun hc=>absurd (of_decide_eq_true hc) hsf1.zero) (fun hc=>?_)
  refine xt<|SR<|Mw rfl<|Aw rfl<|Nl<|AW.freezes [2,3,23] 1001 rfl ⟨rfl,rfl,rfl,trivial⟩ rfl<|rt ?_
  cases h;exact Zd Tryz.results134 rfl (Z5 rfl)
 | succ m7=>
  unfold Zcp at h
  refine SR<|Ac (Zj rfl rfl (vt rfl) (vt rfl)) rfl<|Nl<|sq<|Cn rfl (fun hc=>?_) (fun hc=>absurd hsf1.succ (of_decide_eq_false hc))
  have hlti6:=of_decide_eq_true hc
  refine sk<|sq<|bk<|SR<|Md rfl<|As rfl<|Nl ?_
  obtain ⟨x8,hx8,x9,hx9,x10,hx10,h⟩:=bs3 h
  refine Rg<|Mw rfl<|Md rfl<|Mw rfl<|Md rfl<|Ac (Z23 1001 rfl rfl Z44 (vt rfl) rfl (vt rfl) hx8) rfl<|Ac (Z9d lRule_1 rfl rfl Y7a (vt rfl)) rfl<|Ac (Z1r 1001 rfl rfl Zf6 (vt rfl) rfl (Z0n hx8).2) rfl<|Cl [18] (Y26 _ _ hx9) Y2e rfl<|Ac (Z23 1001 rfl rfl Z44 (vt rfl) rfl (vt rfl) hx10) rfl<|Ac (Z9d lRule_1 rfl rfl Y7a (vt rfl)) rfl<|Ac (Z30 1001 rfl rfl Zf6 (vt rfl) rfl (Z0n hx10).2 (vt rfl)) rfl<|Nl<|Rg<|Ac (Z13 (t:=8) rfl rfl (vt rfl) (vk rfl) (vt rfl) hlti6) rfl<|Md rfl<|Nl ?_
  exact ⟨(_,_,_),Nat.lt_succ_self _,⟨hsf1.next,h⟩,FX rfl⟩
def Zaf (m2:Int):(List Rule)→Nat→(List Rule)→(List Za)→Option ((List Rule)×Int)
 | [],i11,l7,l9=>(Zn3 l7).bind fun x13=>some (x13,0)
 | x14::l12,i11,l7,l9=>(Zhs x14.Cube l9 m2).bind fun x16=>(bif (decide (x16.2.2≠0)) then some ([],x16.2.2) else (bif (!x16.2.1) then (Zaf m2 l12) (i11+1) l7 l9 else (Z0y l7 [x14]).bind fun l18=>(Z0y l9 [x14.Cube]).bind fun l20=>(Zaf m2 l12) (i11+1) l18 l20))
def Zqp (l1:(List Rule))(m2:Int):Option ((List Rule)×Int):=
 Zaf m2 l1 0 [] []
theorem Yzd:Q2 Tryz.prog 66 (rd (Z1 Z0a)) (rd (Z0 .i64)) (fun r=>Z12 (rd (Z1 Z0a) r.1) (rd (Z0 .i64) r.2)) Zqp:=fun l1 m2 r h=>I0 Tryz.func66 rfl Tryz.ntmps66 rfl fun w H Z=>by
 unfold Zqp at h
 refine SR<|Ac (Zv (A:=rd (Z1 Z0a) []) rfl rfl Z1j) rfl<|Ak rfl<|Nl<|AW.scope<|sq<|AW.newnil 1001 126 Z0a<|Rg<|Ac (Zv rfl rfl vc) rfl<|Nl<|sq<|AW.newnil 1002 123 (Z3 24 Z4)<|Rg<|Ac (Zv rfl rfl vc) rfl<|Nl<|sq<|AW.label<|sq<|SR<|Md rfl<|Ac (Z0i rfl rfl Z44 (vt rfl)) rfl<|Mk rfl<|Nl<|bk<|LG (d:=[]) (ν:=(List Rule)×Nat×(List Rule)×(List Za)×Value×Value) (fun (l12,i11,l7,l9,v8,v10)=>(Sfx l1 i11 l12∧Zaf m2 l12 i11 l7 l9=some r,l12.length,[(1,rd (Z0 .i64) m2),(6,Zc v8),(7,Zc v10),(13,rd (Z1 Z0a) l1),(14,rd (Z0 .i64) (l1.length:Int)),(15,rd (Z0 .i64) (i11:Int))],[(1001,Zg v8 126 Z0a l7),(1002,Zg v10 123 (Z3 24 Z4) l9)])) (l1,0,[],[],(.slice none 0 0),(.slice none 0 0)) ⟨Sfx.start _,h⟩ (FX rfl) ?_
 rintro ⟨l12,i11,l7,l9,v8,v10⟩ ⟨hsf1,h⟩
 dsimp only at hsf1 h ⊢
 cases l12 with
 | nil=>
  unfold Zaf at h
  refine SR<|Ac (Zj rfl rfl (vt rfl) (vt rfl)) rfl<|Nl<|sq<|Cn rfl (fun hc=>absurd (of_decide_eq_true hc) hsf1.nil) (fun hc=>?_)
  refine xt<|sq<|AW.freezes [6] 1001 rfl ⟨rfl,trivial⟩ rfl ?_
  obtain ⟨x13,hx13,h⟩:=Z7 h
  refine Rg<|Md rfl<|Cl [45] (Ydi _ _ hx13) Yvo rfl<|As rfl<|Ak rfl<|Nl<|rt ?_
  cases h;exact Z1f Tryz.results66 rfl (Z5 rfl) (Z5 rfl)
 | cons x14 l12=>
  unfold Zaf at h
  refine SR<|Ac (Zj rfl rfl (vt rfl) (vt rfl)) rfl<|Nl<|sq<|Cn rfl (fun hc=>?_) (fun hc=>absurd hsf1.cons (of_decide_eq_false hc))
  have hlti11:=of_decide_eq_true hc
  refine sk<|sq<|bk<|SR<|Ac (Z0j rfl rfl Z44 (vt rfl) (vt rfl) hsf1.lget) rfl<|Lp1 Zau rfl<|Cv rfl (Zm 10 rfl rfl Z7k) fun g15=>Zf Zau 10 rfl<|Nl<|sq ?_
  obtain ⟨x16,hx16,h⟩:=Z7 h
  refine Rg<|Zk lRule_0 Zo2 rfl<|Ld Z02 10 rfl<|Mw rfl<|Md rfl<|Ac (Zvr (xs:=[.tmp 21,.tmp 22,.tmp 23]) 1002 (Yc9 _ _ _ _ hx16) Yc4 rfl rfl ⟨vB (vt rfl),vL rfl rfl,vB (vt rfl),trivial⟩) rfl<|Ac (Zq (A:=Z4o (rd (Z3 24 Zn) x16.1) (rd Z6 x16.2.1) (rd (Z0 .i64) x16.2.2)) rfl rfl (vt rfl)) rfl<|Ac (Zhv rfl rfl (vt rfl)) rfl<|Ac (Zh4 rfl rfl (vt rfl)) rfl<|Ac (Zin rfl rfl (vt rfl)) rfl<|Cv rfl (Zm 11 rfl rfl Z55) fun g17=>Zf Z17 11 rfl<|As rfl<|As rfl<|Nl<|sq<|bk<|SR<|Md rfl<|Ac (Z6f rfl rfl (vt rfl) (vk rfl)) rfl<|As rfl<|Nl<|Cq rfl h (fun h=>?_) (fun h=>?_)
  ·refine SR<|Md rfl<|Ac (Zv (A:=rd (Z1 Z0a) []) rfl rfl Z1j) rfl<|As rfl<|Nl<|rt ?_
   cases h;exact Z1f Tryz.results66 rfl (Z5 rfl) (Z5 rfl)
  ·refine SR<|Md rfl<|Ac (Z0z rfl rfl (vt rfl)) rfl<|As rfl<|Nl<|Cq rfl h (fun h=>?_) (fun h=>?_)
   ·refine xt<|Rg<|Ac (Z13 (t:=14) rfl rfl (vt rfl) (vk rfl) (vt rfl) hlti11) rfl<|Md rfl<|Nl ?_
    exact ⟨(_,_,_,_,_,_),Nat.lt_succ_self _,⟨hsf1.next,h⟩,FX rfl⟩
   ·refine sk ?_
    obtain ⟨l18,hl18,l20,hl20,h⟩:=bs2 h
    refine AR Z00 (by kernel_rfl)<|SMw rfl<|Zp Zau 10 rfl<|Sd (lo [36] [] rfl fun S hs hr=>osl Z44 Z7k rfl (vh hs 36 rfl rfl))<|Sd (Z1g (us:=[(38,Z25 126 Z0a l18)]) (ur:=[(1001,emp)]) [35,37] [1001] rfl fun S hs hr=>Z9l 1001 hl18 rfl rfl rfl Zkv (vh hs 35 rfl rfl) ((hr 1001 rfl).trans rfl) (vh hs 37 rfl rfl))<|SMw rfl<|SFd lRule_0 Zo2 rfl<|Zp Z02 10 rfl<|Sd (lo [41] [] rfl fun S hs hr=>osl Z4z Z1l rfl (vh hs 41 rfl rfl))<|Sd (Z1g (us:=[(43,Z25 123 (Z3 24 Z4) l20)]) (ur:=[(1002,emp)]) [39,42] [1002] rfl fun S hs hr=>Z9l 1002 hl20 rfl rfl rfl Zsj (vh hs 39 rfl rfl) ((hr 1002 rfl).trans rfl) (vh hs 42 rfl rfl))<|Sd (Z1g (us:=[(38,top),(6,Z25 126 Z0a l18)]) (ur:=[]) [38] [1003] rfl fun S hs hr=>Zj1 1003 rfl rfl rfl rfl ((hs 38 rfl).trans rfl) ((hr 1003 rfl).trans rfl))<|Sd (Z1g (us:=[(43,top),(7,Z25 123 (Z3 24 Z4) l20)]) (ur:=[]) [43] [1004] rfl fun S hs hr=>Zj1 1004 rfl rfl rfl rfl ((hs 43 rfl).trans rfl) ((hr 1004 rfl).trans rfl))<|Sn<|AW.unpackR 6 1001 rfl rfl fun v19=>AW.unpackR 7 1002 rfl rfl fun v21=>Rg<|Ac (Z13 (t:=14) rfl rfl (vt rfl) (vk rfl) (vt rfl) hlti11) rfl<|Md rfl<|Nl ?_
    exact ⟨(_,_,_,_,_,_),Nat.lt_succ_self _,⟨hsf1.next,h⟩,FX rfl⟩
def Zc4:(List Rule)→Nat→(List Za)→Option (List Za)
 | [],i6,l5=>some l5
 | x8::l7,i6,l5=>(lget l5 (i6:Int)).bind fun x10=>(Zc4 l7) (i6+1) (List.set l5 (i6:Int).toNat x8.Cube)
def Znt (l1:(List Rule)):Option (List Za):=
 (omk (l1.length:Int)).bind fun u2=>Zc4 l1 0 (List.replicate (l1.length:Int).toNat (Vector.replicate 24 zTern))
theorem Ynx:Q1 Tryz.prog 137 (rd (Z1 Z0a)) (rd (Z1 (Z3 24 Z4))) Znt:=fun l1 r h=>I0 Tryz.func137 rfl Tryz.ntmps137 rfl fun w H Z=>by
 unfold Znt at h
 refine SR<|Ac (Zv (A:=rd (Z1 (Z3 24 Z4)) []) rfl rfl Z1j) rfl<|Nl<|sq ?_
 obtain ⟨u2,hu2,h⟩:=Z7 h
 refine Rg<|Md rfl<|Ac (Z0i rfl rfl Z44 (vt rfl)) rfl<|Cv rfl (Yyq 1001 hu2 rfl rfl Zsj Z1l (vt rfl) (vt rfl)) fun v3=>Aw rfl<|Nl<|sq<|SR<|Md rfl<|Ac (Z0i rfl rfl Z44 (vt rfl)) rfl<|Mk rfl<|Nl<|bk<|LG (d:=[]) (ν:=(List Rule)×Nat×(List Za)) (fun (l7,i6,l5)=>(Sfx l1 i6 l7∧Zc4 l7 i6 l5=some r,l7.length,[(3,Zc v3),(9,rd (Z1 Z0a) l1),(10,rd (Z0 .i64) (l1.length:Int)),(11,rd (Z0 .i64) (i6:Int))],[(1001,Zg v3 123 (Z3 24 Z4) l5)])) (l1,0,(List.replicate (l1.length:Int).toNat (Vector.replicate 24 zTern))) ⟨Sfx.start _,h⟩ (FX rfl) ?_
 rintro ⟨l7,i6,l5⟩ ⟨hsf1,h⟩
 dsimp only at hsf1 h ⊢
 cases l7 with
 | nil=>
  unfold Zc4 at h
  refine SR<|Ac (Zj rfl rfl (vt rfl) (vt rfl)) rfl<|Nl<|sq<|Cn rfl (fun hc=>absurd (of_decide_eq_true hc) hsf1.nil) (fun hc=>?_)
  refine xt<|SR<|Mw rfl<|Aw rfl<|Nl<|AW.freezes [2,3,22] 1001 rfl ⟨rfl,rfl,rfl,trivial⟩ rfl<|rt ?_
  cases h;exact Zd Tryz.results137 rfl (Z5 rfl)
 | cons x8 l7=>
  unfold Zc4 at h
  refine SR<|Ac (Zj rfl rfl (vt rfl) (vt rfl)) rfl<|Nl<|sq<|Cn rfl (fun hc=>?_) (fun hc=>absurd hsf1.cons (of_decide_eq_false hc))
  have hlti6:=of_decide_eq_true hc
  refine sk<|sq<|bk<|SR<|Md rfl<|Ac (Z0j rfl rfl Z44 (vt rfl) (vt rfl) hsf1.lget) rfl<|Lp1 Zau rfl<|Cv rfl (Zm 6 rfl rfl Z7k) fun g9=>As rfl<|Zf Zau 6 rfl<|Nl ?_
  obtain ⟨x10,hx10,h⟩:=Z7 h
  refine Rg<|Mw rfl<|Md rfl<|Zk lRule_0 Zo2 rfl<|Ld Z02 6 rfl<|Ac (Z23 1001 rfl rfl Z4z (vt rfl) rfl (vt rfl) hx10) rfl<|Ac (Z30 1001 rfl rfl Z02 (vt rfl) rfl (Z0n hx10).2 (vt rfl)) rfl<|Nl<|Rg<|Ac (Z13 (t:=10) rfl rfl (vt rfl) (vk rfl) (vt rfl) hlti6) rfl<|Md rfl<|Nl ?_
  exact ⟨(_,_,_),Nat.lt_succ_self _,⟨hsf1.next,h⟩,FX rfl⟩
def Zhj (l1:(List Rule))(i2:Int)(m3:Int):Option (Z16×Bool×Int):=
 (bif ((decide (i2<0))||(decide (i2≥(l1.length:Int)))) then some ((Vector.replicate 24 Z0s),false,6) else (Znt l1).bind fun x5=>(lget x5 i2).bind fun x6=>(Z4j x5 i2).bind fun s7=>(Zhs x6 s7 m3).bind fun x8=>some (x8.1,x8.2.1,x8.2.2))
theorem Ysj:Q3 Tryz.prog 68 (rd (Z1 Z0a)) (rd (Z0 .i64)) (rd (Z0 .i64)) (fun r=>Z4o (rd (Z3 24 Zn) r.1) (rd Z6 r.2.1) (rd (Z0 .i64) r.2.2)) Zhj:=fun l1 i2 m3 r h=>I0 Tryz.func68 rfl Tryz.ntmps68 rfl fun w H Z=>by
 unfold Zhj at h
 refine SR<|Cv rfl (Zm 7 rfl rfl Z55) fun g4=>Ab rfl<|Ak rfl<|Nl<|sq<|SR<|Md rfl<|Ac (Zj rfl rfl (vt rfl) (vk rfl)) rfl<|Md rfl<|Gd rfl (fun hq=>Zq (A:=rd (Z0 .i64) i2) rfl rfl (vt rfl))<|Gd rfl (fun hq=>Zq (A:=rd (Z1 Z0a) l1) rfl rfl (vt rfl))<|Gd rfl (fun hq=>Z0i rfl rfl Z44 (Zi rfl hq))<|Gd rfl (fun hq=>Z45 rfl rfl (Zi rfl hq) (Zi rfl hq))<|Ac (Z4d rfl rfl (vt rfl) (vt rfl)) rfl<|Nl<|Cq rfl h (fun h=>?_) (fun h=>?_)
 ·refine SR<|Ac (Z1o (ps:=[]) (x:=(Vector.replicate 24 Z0s)) rfl rfl rfl (by kernel_rfl) Z55 rfl) rfl<|Zf Z17 7 rfl<|Ab rfl<|Ak rfl<|Nl<|rt ?_
  cases h;exact Zft Tryz.results68 rfl (Zx rfl (i:=7) rfl Z17) (Z5 rfl) (Z5 rfl)
 ·refine sk<|sq ?_
  obtain ⟨x5,hx5,h⟩:=Z7 h
  refine Rg<|Md rfl<|Cl [19] (Ynx _ _ hx5) Ynu rfl<|As rfl<|Nl<|sq ?_
  obtain ⟨x6,hx6,s7,hs7,x8,hx8,h⟩:=bs3 h
  refine AR Z00 (by kernel_rfl)<|Zt rfl<|Zt rfl<|Sd (lo [21,22] [] rfl fun S hs hr=>Z0j rfl rfl Z4z (vh hs 21 rfl rfl) (vh hs 22 rfl rfl) hx6)<|SLp Z02 rfl<|Zt rfl<|Zt rfl<|Zt rfl<|Sd (lo [25,26,27] [] rfl fun S hs hr=>Zzr hs7 rfl rfl Z4z (vh hs 25 rfl rfl) (vh hs 26 rfl rfl) (vh hs 27 rfl rfl))<|Zt rfl<|Sd (lo [24,28,29] [] rfl fun S hs hr=>Z0g (xs:=[.tmp 24,.tmp 28,.tmp 29]) (Yc9 _ _ _ _ hx8) Yc4 rfl rfl ⟨vt ((hs 24 rfl).trans rfl),Yyj (vh hs 28 rfl rfl),vt ((hs 29 rfl).trans rfl),trivial⟩)<|Sd (lo [30] [] rfl fun S hs hr=>Zhv rfl rfl (vh hs 30 rfl rfl))<|Sd (lo [30] [] rfl fun S hs hr=>Zh4 rfl rfl (vh hs 30 rfl rfl))<|Sd (lo [30] [] rfl fun S hs hr=>Zin rfl rfl (vh hs 30 rfl rfl))<|SSt Z17 7 rfl<|SAs rfl<|SAs rfl<|Sn<|rt ?_
  cases h;exact Zft Tryz.results68 rfl (Zx rfl (i:=7) rfl Z17) (Z5 rfl) (Z5 rfl)
end Go.Proofs.YtinplddjjalohaaGreatDoor.W
set_option maxHeartbeats 1000000
set_option maxRecDepth 4000
namespace Go.Proofs.YtinplddjjalohaaGreatDoor.W
open Go Go.Wb
theorem Yd8:Ent Tryz.prog 229:=Ent.mk Tryz.func229 rfl rfl
theorem Yki:Ent Tryz.prog 227:=Ent.mk Tryz.func227 rfl rfl
theorem Yqh:Ent Tryz.prog 138:=Ent.mk Tryz.func138 rfl rfl
theorem You:Ent Tryz.prog 177:=Ent.mk Tryz.func177 rfl rfl
def Zbo (x2:Z16):(List Tern)→Nat→Option Bool
 | [],i5=>some true
 | x7::l6,i5=>(chk 24 (i5:Int)).bind fun j9=>(Zja x7 (Vector.get x2 j9)).bind fun x10=>(bif (!x10) then some false else (Zbo x2 l6) (i5+1))
def Zm0 (x1:Za)(x2:Z16):Option Bool:=
 Zbo x2 (Vector.toList x1) 0
theorem Yjt:Q2 Tryz.prog 229 (rd (Z3 24 Z4)) (rd (Z3 24 Zn)) (rd Z6) Zm0:=fun x1 x2 r h=>I0 Tryz.func229 rfl Tryz.ntmps229 rfl fun w H Z=>by
 unfold Zm0 at h
 refine SR<|Cv rfl (Zs 3 rfl rfl (vt rfl)) fun g3=>Cv rfl (Zs 4 rfl rfl (vt rfl)) fun g4=>Ab rfl<|Nl<|sq<|SR<|Ld Z02 3 rfl<|Mk rfl<|Nl<|bk<|LG (d:=[]) (ν:=(List Tern)×Nat) (fun (l6,i5)=>(Sfx (Vector.toList x1) i5 l6∧Zbo x2 l6 i5=some r,l6.length,[(3,Zb g4 (Lens.id (Z3 24 Zn))),(7,rd (Z3 24 Z4) x1),(8,rd (Z0 .i64) (i5:Int))],[(4,Zh g4 31 (Z3 24 Zn) x2)])) ((Vector.toList x1),0) ⟨Sfx.start _,h⟩ (FX rfl) ?_
 rintro ⟨l6,i5⟩ ⟨hsf1,h⟩
 dsimp only at hsf1 h ⊢
 cases l6 with
 | nil=>
  unfold Zbo at h
  refine SR<|Ac (Zj rfl rfl (vt rfl) (vk rfl)) rfl<|Nl<|sq<|Cn rfl (fun hc=>absurd (of_decide_eq_true hc) (hsf1.niln (by simp))) (fun hc=>?_)
  refine xt<|SR<|Ab rfl<|Nl<|rt ?_
  cases h;exact Zd Tryz.results229 rfl (Z5 rfl)
 | cons x7 l6=>
  unfold Zbo at h
  refine SR<|Ac (Zj rfl rfl (vt rfl) (vk rfl)) rfl<|Nl<|sq<|Cn rfl (fun hc=>?_) (fun hc=>absurd (hsf1.consn (by simp)) (of_decide_eq_false hc))
  have hlti5:=of_decide_eq_true hc
  refine sk<|sq<|bk<|SR<|Md rfl<|Ac (Z8w rfl rfl Z2p Z01 (vt rfl) (vt rfl) hsf1.lget) rfl<|Cv rfl (Zm 7 rfl rfl Z1n) fun g8=>As rfl<|Zf Z01 7 rfl<|Nl<|sq ?_
  obtain ⟨j9,hj9,x10,hx10,h⟩:=bs2 h
  refine AR Z00 (by kernel_rfl)<|Zp Z01 7 rfl<|Zt rfl<|Sd (lo [3,13] [] rfl fun S hs hr=>Z19 rfl rfl Zq9 (vh hs 3 rfl rfl) (vh hs 13 rfl rfl) hj9)<|Zp Zw 4 rfl<|SCl [12,15] (Zxq _ _ _ hx10) Zu2 rfl<|Sd (lo [16] [] rfl fun S hs hr=>Z0z rfl rfl (vh hs 16 rfl rfl))<|Sn<|Cq rfl h (fun h=>?_) (fun h=>?_)
  ·refine SR<|Ab rfl<|Nl<|rt ?_
   cases h;exact Zd Tryz.results229 rfl (Z5 rfl)
  ·refine sk<|Rg<|Ac (Z5r rfl rfl (vt rfl) (vk rfl) rfl hlti5) rfl<|Md rfl<|Nl ?_
   exact ⟨(_,_),Nat.lt_succ_self _,⟨hsf1.next,h⟩,FX rfl⟩
def Zbu (sg:Type)(x3:(List Flow))(x4:Z16)(y1:(sg→Int→Option (Lp sg))):(List Int)→Nat→(Lp sg)→Option (Lp sg)
 | [],i8,s7=>some s7
 | x10::l9,i8,s7=>(lget x3 x10).bind fun x11=>(Ze5 x11).bind fun x12=>(Zm0 x12 x4).bind fun x13=>(bif (!x13) then (Zbu sg x3 x4 y1 l9) (i8+1) s7 else (yc y1 s7 x10).bind fun s14=>(bif (!(Lp.isGo s14)) then some s14 else (Zbu sg x3 x4 y1 l9) (i8+1) s14))
def Ze7 (sg:Type)(y1:(sg→Int→Option (Lp sg)))(s2:(Lp sg))(x3:(List Flow))(x4:Z16):Option (Lp sg):=
 (Zho x3).bind fun x5=>Zbu sg x3 x4 y1 x5 0 s2
theorem Yyh (sg:Type)(y1:(sg→Int→Option (Lp sg)))(L:Lp sg→Zu)(s2:(Lp sg))(x3:(List Flow))(x4:Z16)(r:(Lp sg))(h:Ze7 sg y1 s2 x3 x4=some r):Con Tryz.prog 227 [ydA Tryz.prog (Z0 .i64) y1 L,rp (Z1 Z08) x3,rp (Z3 24 Zn) x4] (L s2) (fun _:Unit=>top) (fun _=>L r):=by
 refine Con.intro Tryz.func227 rfl Tryz.ntmps227 rfl fun w H X Z=>?_
 unfold Ze7 at h
 refine AW.scope<|sq<|AW.label<|sq ?_
 obtain ⟨x5,hx5,h⟩:=Z7 h
 refine Rg<|Lp1 Z46 rfl<|Cl [6] (Ybt _ _ hx5) Y6l rfl<|Ac (Z0i rfl rfl Z15 (vt rfl)) rfl<|Mk rfl<|Nl<|bk<|LG (d:=[]) (ν:=(List Int)×Nat×(Lp sg)) (fun (l9,i8,s7)=>(Sfx x5 i8 l9∧Zbu sg x3 x4 y1 l9 i8 s7=some r,l9.length,[(0,ydA Tryz.prog (Z0 .i64) y1 L),(1,rp (Z1 Z08) x3),(2,rp (Z3 24 Zn) x4),(7,rd (Z1 (Z0 .i64)) x5),(8,rd (Z0 .i64) (x5.length:Int)),(9,rd (Z0 .i64) (i8:Int))],[(0,L s7)])) (x5,0,s2) ⟨Sfx.start _,h⟩ (FX rfl) ?_
 rintro ⟨l9,i8,s7⟩ ⟨hsf1,h⟩
 dsimp only at hsf1 h ⊢
 cases l9 with
 | nil=>
  unfold Zbu at h
  refine SR<|Ac (Zj rfl rfl (vt rfl) (vt rfl)) rfl<|Nl<|sq<|Cn rfl (fun hc=>absurd (of_decide_eq_true hc) hsf1.nil) (fun hc=>?_)
  refine xt ?_
  cases h;exact Z2e (i:=0) Tryz.results227 rfl rfl
 | cons x10 l9=>
  unfold Zbu at h
  refine SR<|Ac (Zj rfl rfl (vt rfl) (vt rfl)) rfl<|Nl<|sq<|Cn rfl (fun hc=>?_) (fun hc=>absurd hsf1.cons (of_decide_eq_false hc))
  have hlti8:=of_decide_eq_true hc
  refine sk<|sq<|bk<|SR<|Ac (Z0j rfl rfl Z15 (vt rfl) (vt rfl) hsf1.lget) rfl<|Lp1 Zo rfl<|As rfl<|Nl<|sq<|sq ?_
  obtain ⟨x11,hx11,x12,hx12,x13,hx13,h⟩:=bs3 h
  refine AR Z00 (by kernel_rfl)<|SLp Z46 rfl<|Zt rfl<|Sd (lo [13,14] [] rfl fun S hs hr=>Z0j rfl rfl Z2q (vh hs 13 rfl rfl) (vh hs 14 rfl rfl) hx11)<|SLp Z2n rfl<|SCl [16] (Zx1 _ _ hx12) Zus rfl<|SLp Z17 rfl<|SCl [17,18] (Yjt _ _ _ hx13) Yd8 rfl<|Sd (lo [19] [] rfl fun S hs hr=>Z0z rfl rfl (vh hs 19 rfl rfl))<|Sn<|Cq rfl h (fun h=>?_) (fun h=>?_)
  ·refine xt<|Rg<|Ac (Z13 (t:=8) rfl rfl (vt rfl) (vk rfl) (vt rfl) hlti8) rfl<|Md rfl<|Nl ?_
   exact ⟨(_,_,_),Nat.lt_succ_self _,⟨hsf1.next,h⟩,FX rfl⟩
  ·refine sk<|sq ?_
   obtain ⟨s14,hs14,h⟩:=Z7 h
   refine Rg<|Ac (Zq (A:=ydA Tryz.prog (Z0 .i64) y1 L) rfl rfl (vt rfl)) rfl<|Md rfl<|Ac (Zny 0 hs14 rfl rfl (vt rfl) (vt rfl) rfl) rfl<|Ac (Z0z rfl rfl (vt rfl)) rfl<|Nl<|Cq rfl h (fun h=>?_) (fun h=>?_)
   ·refine xt ?_
    cases h;exact Z2e (i:=0) Tryz.results227 rfl rfl
   ·refine sk<|Rg<|Ac (Z13 (t:=8) rfl rfl (vt rfl) (vk rfl) (vt rfl) hlti8) rfl<|Md rfl<|Nl ?_
    exact ⟨(_,_,_),Nat.lt_succ_self _,⟨hsf1.next,h⟩,FX rfl⟩
def Zpz (t1:(List Flow))(x2:Z16):Option (Itr Int):=
 some (Itr.mk fun σ y s=>Ze7 σ y s t1 x2)
theorem Yq3:Q2 Tryz.prog 138 (rd (Z1 Z08)) (rd (Z3 24 Zn)) (Z5j Tryz.prog (Z0 .i64)) Zpz:=fun t1 x2 r h=>I0 Tryz.func138 rfl Tryz.ntmps138 rfl fun w H Z=>by
 unfold Zpz at h
 refine SR<|Cv rfl (Zs 3 rfl rfl (vt rfl)) fun g3=>Cv rfl (Zs 4 rfl rfl (vt rfl)) fun g4=>Ac (Zv (A:=Zc .nilFunc) rfl rfl vc) rfl<|Nl<|sq<|AW.freezeB 2 3 rfl rfl rfl<|AW.freezeB 3 4 rfl rfl rfl<|Rg<|Ac (Zvf (Itr.mk fun σ y s=>Ze7 σ y s t1 x2) (cs:=[.tmp 2,.tmp 3]) (CAs:=[rp (Z1 Z08) t1,rp (Z3 24 Zn) x2]) rfl rfl Yki ⟨vt rfl,vt rfl,trivial⟩ (fun σ y L s r h=>Yyh σ y L s t1 x2 r h)) rfl<|Ac (Zv (A:=Z5j Tryz.prog (Z0 .i64) (Itr.mk fun σ y s=>Ze7 σ y s t1 x2)) rfl rfl (vt rfl)) rfl<|Nl<|rt ?_
 cases h;exact Zd Tryz.results138 rfl (Z5 rfl)
def Zkh (b7:Int)(b8:Bool)(x10:Int):Option (Lp (Int×Bool)):=
 some (.out .ret (x10,true))
def Zmx (t1:(List Flow))(x2:Z16):Option (Int×Bool):=
 (Zpz t1 x2).bind fun x6=>(Itr.run x6 (Int×Bool) (fun s x=>Zkh s.1 s.2 x) (.go (0,false))).bind fun z9=>Y4j z9 (fun s11=>some (0,false)) (fun c s11=>bif Zrg c then some (s11.1,s11.2) else none)
theorem Yef:Q2 Tryz.prog 69 (rd (Z1 Z08)) (rd (Z3 24 Zn)) (fun r=>Z12 (rd (Z0 .i64) r.1) (rd Z6 r.2)) Zmx:=fun t1 x2 r h=>I0 Tryz.func69 rfl Tryz.ntmps69 rfl fun w H Z=>by
 unfold Zmx at h
 refine SR<|Cv rfl (Zs 4 rfl rfl (vt rfl)) fun g3=>Cv rfl (Zm 5 rfl rfl zr3) fun g4=>Cv rfl (Zm 6 rfl rfl zr4) fun g5=>Nl<|sq<|sq ?_
 obtain ⟨x6,hx6,h⟩:=Z7 h
 refine Rg<|Md rfl<|Ld Z17 4 rfl<|Cl [7,8] (Yq3 _ _ _ hx6) Yqh rfl<|Nl<|bk ?_
 obtain ⟨z9,hz9,h⟩:=Z7 h
 refine AW.fit (d:=[]) (L:=[(4,Zb g4 (Lens.id (Z0 .i64))),(5,Zb g5 (Lens.id Z6)),(9,Z5j Tryz.prog (Z0 .i64) x6)]) (M:=[(5,Zh g4 3 (Z0 .i64) 0),(6,Zh g5 4 Z6 false)]) (FX rfl) ?_
 refine AW.rangeFunc (σ:=Int×Bool) (fun x=>[rd (Z0 .i64) x]) (fun s x=>Zkh s.1 s.2 x) (fun s=>Z4g ((fun s=>[(5,Zh g4 3 (Z0 .i64) s.1),(6,Zh g5 4 Z6 s.2)]) s)) (fun _ s=>Z4g ((fun s=>[(5,Zh g4 3 (Z0 .i64) s.1),(6,Zh g5 4 Z6 s.2)]) s)) [(4,Zb g4 (Lens.id (Z0 .i64))),(5,Zb g5 (Lens.id Z6))] (fun s x10 S1=>Fit S1 [] [(4,Zb g4 (Lens.id (Z0 .i64))),(5,Zb g5 (Lens.id Z6)),(6,rd (Z0 .i64) x10)] [(5,Zh g4 3 (Z0 .i64) s.1),(6,Zh g5 4 Z6 s.2)]) 3001 (s0:=(0,false)) (sE:=z9) rfl (vt rfl) ⟨rfl,inferInstance,rfl,inferInstance,trivial⟩ rfl (fun _=>rfl) (by intro p hp;have hp:p∈[10]:=hp;rw [List.mem_singleton.1 hp];show 10<12;decide) ?ha1 ?hb1 (fun Lf=>⟨top,_,_,Lf,_,_,hz9,rfl,rfl,rfl,rfl⟩) ?he1
 case ha1=>
  rintro ⟨b7,b8⟩ x10 r hF l w H X Z
  refine Rg<|As rfl<|Nl ?_
  exact ⟨rfl,FX rfl⟩
 case hb1=>
  rintro ⟨b7,b8⟩ x10 r h S1 hfit l w H X Z
  refine AW.fit (d:=[]) (L:=[(4,Zb g4 (Lens.id (Z0 .i64))),(5,Zb g5 (Lens.id Z6)),(6,rd (Z0 .i64) x10)]) (M:=[(5,Zh g4 3 (Z0 .i64) b7),(6,Zh g5 4 Z6 b8)]) hfit<|AW.bodyT ?_
  change Zkh b7 b8 x10=some r at h
  unfold Zkh at h
  refine bk<|SR<|Md rfl<|Zf Zo 5 rfl<|Ac (Z76 rfl rfl ty4 (vt rfl) (i:=6) rfl vb) rfl<|Nl<|rt ?_
  obtain rfl:=si h
  exact ⟨_,(x10,true),Turn.refl,rfl,⟨rfl,rfl,trivial⟩⟩
 case he1=>
  intro D
  cases z9 with
  | go s11=>
   change _=some r at h
   refine SR<|Ac (Z76 rfl rfl Zo (vt rfl) (i:=5) rfl (vk rfl)) rfl<|Ac (Z76 rfl rfl ty4 (vt rfl) (i:=6) rfl vb) rfl<|Nl<|rt ?_
   cases h;exact ⟨rfl,3001,_,rfl,Z1f Tryz.results69 rfl (Zx rfl (i:=5) rfl Zo) (Zx rfl (i:=6) rfl ty4)⟩
  | out c s11=>
   change (bif Zrg c then _ else _)=some r at h
   cases hc:Zrg c with
   | true=>
    rw [hc] at h
    have hc:=Yqj hc
    subst hc
    change _=some r at h
    refine rt ?_
    cases h;exact ⟨rfl,3001,_,rfl,Z1f Tryz.results69 rfl (Zx rfl (i:=5) rfl Zo) (Zx rfl (i:=6) rfl ty4)⟩
   | false=>
    rw [hc] at h
    cases h
def Zlk (a1:Action):Option Int:=
 (bif (decide (a1.Port=4294967293)) then some a1.Max else some 0)
theorem Yeq:Q1 Tryz.prog 313 (rd Z9) (rd (Z0 .i64)) Zlk:=fun a1 r h=>I0 Tryz.func313 rfl Tryz.ntmps313 rfl fun w H Z=>by
 unfold Zlk at h
 refine SR<|Cv rfl (Zs 2 rfl rfl (vt rfl)) fun g2=>Ak rfl<|Nl<|sq<|SR<|Zk Zgl Zju rfl<|Ld Zo 2 rfl<|Ac (Z0m rfl rfl (vt rfl) (vk rfl)) rfl<|Nl<|Cq rfl h (fun h=>?_) (fun h=>?_)
 ·refine SR<|Zk Zse Zw1 rfl<|Ld Zo 2 rfl<|As rfl<|Nl<|rt ?_
  cases h;exact Zd Tryz.results313 rfl (Z5 rfl)
 ·refine sk<|SR<|Ak rfl<|Nl<|rt ?_
  cases h;exact Zd Tryz.results313 rfl (Z5 rfl)
def Zo1 (x1:Group)(x2:Int):Option Bool:=
 some (decide (x1.ID=x2))
theorem Yjr:Q2 Tryz.prog 177 (rd Z0e) (rp (Z0 .i64)) (rd Z6) Zo1:=fun x1 x2 r h=>I0 Tryz.func177 rfl Tryz.ntmps177 rfl fun w H Z=>by
 unfold Zo1 at h
 refine SR<|Cv rfl (Zs 3 rfl rfl (vt rfl)) fun g3=>Ab rfl<|Nl<|SR<|Zk lGroup_0 Zzd rfl<|Ld Zo 3 rfl<|Lp1 Zo rfl<|Ac (Z0m rfl rfl (vt rfl) (vt rfl)) rfl<|As rfl<|Nl<|rt ?_
 cases h;exact Zd Tryz.results177 rfl (Z5 rfl)
def Zj3 (l1:(List Group))(i2:Int):Option Int:=
 (Zgu l1 (fun x=>Zo1 x i2)).bind fun x4=>some x4
theorem Zuv:Q2 Tryz.prog 102 (rd (Z1 Z0e)) (rd (Z0 .i64)) (rd (Z0 .i64)) Zj3:=fun l1 i2 r h=>I0 Tryz.func102 rfl Tryz.ntmps102 rfl fun w H Z=>by
 unfold Zj3 at h
 refine SR<|Cv rfl (Zs 4 rfl rfl (vt rfl)) fun g3=>Ak rfl<|Nl<|sq<|AW.freezeB 3 4 rfl rfl rfl ?_
 obtain ⟨x4,hx4,h⟩:=Z7 h
 refine Rg<|Md rfl<|Ac (Z8l (cs:=[.tmp 3]) (CAs:=[rp (Z0 .i64) i2]) (fun x=>Zo1 x i2) rfl rfl You ⟨vt rfl,trivial⟩ (fun x y h=>Yjr _ _ y h)) rfl<|Cl [5,6] (Y2m _ _ _ hx4) Y6i rfl<|As rfl<|Nl<|rt ?_
 cases h;exact Zd Tryz.results102 rfl (Z5 rfl)
def Zq6 (s:List Group):Option (List Group):=Z0y [] s
theorem Yoz (s:List Group)(r:List Group)(h:Zq6 s=some r):Con Tryz.prog 336 [rd (Z1 Z0e) s] emp (fun v=>Zc v) (fun v=>Zg v 71 Z0e r):=by
 refine Con.intro0 Tryz.func336 rfl Tryz.ntmps336 rfl fun w H Z=>?_
 unfold Zq6 at h
 refine AW.newnil 1001 71 Z0e<|SR<|Ac (Zv (A:=Zc (.slice none 0 0)) rfl rfl vc) rfl<|Nl<|sq<|SR<|Md rfl<|Ct rfl (Zdv rfl rfl Z5b (vt rfl)) ?_
 rintro _ ⟨b,hb,rfl⟩
 refine Nl<|Cn rfl (fun hc=>?_) (fun hc=>?_)
 ·obtain rfl:=hb hc
  refine SR<|Ac (Zv (A:=Zc (.slice none 0 0)) rfl rfl vc) rfl<|Nl<|rt ?_
  obtain rfl:=(Z8k h).2
  exact Z49 (i:=1001) Tryz.results336 rfl rfl rfl
 ·refine sk<|SR<|Cv rfl (Z5g 1002 (ps:=[]) (l:=[]) rfl rfl Z5b Zd7 rfl rfl rfl rfl) fun v1=>Md rfl<|Cv rfl (Z2f 1002 h rfl rfl Yop (vt rfl) rfl (vt rfl)) fun v2=>Aw rfl<|Nl<|rt ?_
  exact Z49 (i:=1002) Tryz.results336 rfl rfl rfl
def Zs9 (s:List Bucket):Option (List Bucket):=Z0y [] s
theorem Ycx (s:List Bucket)(r:List Bucket)(h:Zs9 s=some r):Con Tryz.prog 372 [rd (Z1 Z1y) s] emp (fun v=>Zc v) (fun v=>Zg v 168 Z1y r):=by
 refine Con.intro0 Tryz.func372 rfl Tryz.ntmps372 rfl fun w H Z=>?_
 unfold Zs9 at h
 refine AW.newnil 1001 168 Z1y<|SR<|Ac (Zv (A:=Zc (.slice none 0 0)) rfl rfl vc) rfl<|Nl<|sq<|SR<|Md rfl<|Ct rfl (Zdv rfl rfl Z6z (vt rfl)) ?_
 rintro _ ⟨b,hb,rfl⟩
 refine Nl<|Cn rfl (fun hc=>?_) (fun hc=>?_)
 ·obtain rfl:=hb hc
  refine SR<|Ac (Zv (A:=Zc (.slice none 0 0)) rfl rfl vc) rfl<|Nl<|rt ?_
  obtain rfl:=(Z8k h).2
  exact Z49 (i:=1001) Tryz.results372 rfl rfl rfl
 ·refine sk<|SR<|Cv rfl (Z5g 1002 (ps:=[]) (l:=[]) rfl rfl Z6z Y0a rfl rfl rfl rfl) fun v1=>Md rfl<|Cv rfl (Z2f 1002 h rfl rfl Yhc (vt rfl) rfl (vt rfl)) fun v2=>Aw rfl<|Nl<|rt ?_
  exact Z49 (i:=1002) Tryz.results372 rfl rfl rfl
end Go.Proofs.YtinplddjjalohaaGreatDoor.W
set_option maxHeartbeats 1000000
set_option maxRecDepth 4000
namespace Go.Proofs.YtinplddjjalohaaGreatDoor.W
open Go Go.Wb
theorem Yf6:Ent Tryz.prog 372:=Ent.mk Tryz.func372 rfl rfl
theorem Yg7:Ent Tryz.prog 336:=Ent.mk Tryz.func336 rfl rfl
theorem Ywm:Ent Tryz.prog 337:=Ent.mk Tryz.func337 rfl rfl
theorem Zz1:Ent Tryz.prog 102:=Ent.mk Tryz.func102 rfl rfl
theorem Yfc:Ent Tryz.prog 271:=Ent.mk Tryz.func271 rfl rfl
theorem Yhr:Ent Tryz.prog 399:=Ent.mk Tryz.func399 rfl rfl
theorem Yms:Ent Tryz.prog 396:=Ent.mk Tryz.func396 rfl rfl
theorem Ys5:Ent Tryz.prog 395:=Ent.mk Tryz.func395 rfl rfl
theorem Ywo:Ent Tryz.prog 383:=Ent.mk Tryz.func383 rfl rfl
theorem Yim:Ent Tryz.prog 384:=Ent.mk Tryz.func384 rfl rfl
def Zbr:Nat→Nat→(List Bucket)→Option (List Bucket)
 | 0,i6,l5=>some l5
 | m7+1,i6,l5=>(lget l5 (i6:Int)).bind fun x8=>(Z7l x8.Acts).bind fun x9=>(lget l5 (i6:Int)).bind fun x10=>(Zbr m7) (i6+1) (List.set l5 (i6:Int).toNat {x10 with Acts:=x9})
def Zmd (l1:(List Bucket)):Option (List Bucket):=
 (Zs9 l1).bind fun x2=>Zbr ((x2.length:Int):Int).toNat 0 x2
theorem Ylw:Q1 Tryz.prog 337 (rd (Z1 Z1y)) (rd (Z1 Z1y)) Zmd:=fun l1 r h=>I0 Tryz.func337 rfl Tryz.ntmps337 rfl fun w H Z=>by
 unfold Zmd at h
 refine SR<|Ac (Zv (A:=rd (Z1 Z1y) []) rfl rfl Z1j) rfl<|Nl<|sq ?_
 obtain ⟨x2,hx2,h⟩:=Z7 h
 refine Rg<|Md rfl<|Cv rfl (Z1c 1001 (xs:=[.tmp 5]) (Ycx _ _ hx2) Yf6 rfl rfl ⟨vt rfl,trivial⟩ rfl) fun v3=>Aw rfl<|Nl<|sq<|SR<|Mw rfl<|Ac (Z51 1001 rfl rfl Z6z (vt rfl) rfl) rfl<|Mk rfl<|Nl<|bk<|LG (d:=[]) (ν:=Nat×Nat×(List Bucket)) (fun (m7,i6,l5)=>(Cnt (x2.length:Int) i6 m7∧Zbr m7 i6 l5=some r,m7,[(3,Zc v3),(8,rd (Z0 .i64) (x2.length:Int)),(9,rd (Z0 .i64) (i6:Int))],[(1001,Zg v3 168 Z1y l5)])) (((x2.length:Int):Int).toNat,0,x2) ⟨Cnt.start _,h⟩ (FX rfl) ?_
 rintro ⟨m7,i6,l5⟩ ⟨hsf1,h⟩
 dsimp only at hsf1 h ⊢
 cases m7 with
 | zero=>
  unfold Zbr at h
  refine SR<|Ac (Zj rfl rfl (vt rfl) (vt rfl)) rfl<|Nl<|sq<|Cn rfl (fun hc=>absurd (of_decide_eq_true hc) hsf1.zero) (fun hc=>?_)
  refine xt<|SR<|Mw rfl<|Aw rfl<|Nl<|AW.freezes [2,3,23] 1001 rfl ⟨rfl,rfl,rfl,trivial⟩ rfl<|rt ?_
  cases h;exact Zd Tryz.results337 rfl (Z5 rfl)
 | succ m7=>
  unfold Zbr at h
  refine SR<|Ac (Zj rfl rfl (vt rfl) (vt rfl)) rfl<|Nl<|sq<|Cn rfl (fun hc=>?_) (fun hc=>absurd hsf1.succ (of_decide_eq_false hc))
  have hlti6:=of_decide_eq_true hc
  refine sk<|sq<|bk<|SR<|Md rfl<|As rfl<|Nl ?_
  obtain ⟨x8,hx8,x9,hx9,x10,hx10,h⟩:=bs3 h
  refine Rg<|Mw rfl<|Md rfl<|Mw rfl<|Md rfl<|Ac (Z23 1001 rfl rfl Z6z (vt rfl) rfl (vt rfl) hx8) rfl<|Ac (Z9d Zfw rfl rfl Zle (vt rfl)) rfl<|Ac (Z1r 1001 rfl rfl Z34 (vt rfl) rfl (Z0n hx8).2) rfl<|Cl [18] (Zze _ _ hx9) Zni rfl<|Ac (Z23 1001 rfl rfl Z6z (vt rfl) rfl (vt rfl) hx10) rfl<|Ac (Z9d Zfw rfl rfl Zle (vt rfl)) rfl<|Ac (Z30 1001 rfl rfl Z34 (vt rfl) rfl (Z0n hx10).2 (vt rfl)) rfl<|Nl<|Rg<|Ac (Z13 (t:=8) rfl rfl (vt rfl) (vk rfl) (vt rfl) hlti6) rfl<|Md rfl<|Nl ?_
  exact ⟨(_,_,_),Nat.lt_succ_self _,⟨hsf1.next,h⟩,FX rfl⟩
def Zfd:Nat→Nat→(List Group)→Option (List Group)
 | 0,i6,l5=>some l5
 | m7+1,i6,l5=>(lget l5 (i6:Int)).bind fun x8=>(Zmd x8.Buckets).bind fun x9=>(lget l5 (i6:Int)).bind fun x10=>(Zfd m7) (i6+1) (List.set l5 (i6:Int).toNat {x10 with Buckets:=x9})
def Zmf (l1:(List Group)):Option (List Group):=
 (Zq6 l1).bind fun x2=>Zfd ((x2.length:Int):Int).toNat 0 x2
theorem Yfy:Q1 Tryz.prog 271 (rd (Z1 Z0e)) (rd (Z1 Z0e)) Zmf:=fun l1 r h=>I0 Tryz.func271 rfl Tryz.ntmps271 rfl fun w H Z=>by
 unfold Zmf at h
 refine SR<|Ac (Zv (A:=rd (Z1 Z0e) []) rfl rfl Z1j) rfl<|Nl<|sq ?_
 obtain ⟨x2,hx2,h⟩:=Z7 h
 refine Rg<|Md rfl<|Cv rfl (Z1c 1001 (xs:=[.tmp 5]) (Yoz _ _ hx2) Yg7 rfl rfl ⟨vt rfl,trivial⟩ rfl) fun v3=>Aw rfl<|Nl<|sq<|SR<|Mw rfl<|Ac (Z51 1001 rfl rfl Z5b (vt rfl) rfl) rfl<|Mk rfl<|Nl<|bk<|LG (d:=[]) (ν:=Nat×Nat×(List Group)) (fun (m7,i6,l5)=>(Cnt (x2.length:Int) i6 m7∧Zfd m7 i6 l5=some r,m7,[(3,Zc v3),(8,rd (Z0 .i64) (x2.length:Int)),(9,rd (Z0 .i64) (i6:Int))],[(1001,Zg v3 71 Z0e l5)])) (((x2.length:Int):Int).toNat,0,x2) ⟨Cnt.start _,h⟩ (FX rfl) ?_
 rintro ⟨m7,i6,l5⟩ ⟨hsf1,h⟩
 dsimp only at hsf1 h ⊢
 cases m7 with
 | zero=>
  unfold Zfd at h
  refine SR<|Ac (Zj rfl rfl (vt rfl) (vt rfl)) rfl<|Nl<|sq<|Cn rfl (fun hc=>absurd (of_decide_eq_true hc) hsf1.zero) (fun hc=>?_)
  refine xt<|SR<|Mw rfl<|Aw rfl<|Nl<|AW.freezes [2,3,23] 1001 rfl ⟨rfl,rfl,rfl,trivial⟩ rfl<|rt ?_
  cases h;exact Zd Tryz.results271 rfl (Z5 rfl)
 | succ m7=>
  unfold Zfd at h
  refine SR<|Ac (Zj rfl rfl (vt rfl) (vt rfl)) rfl<|Nl<|sq<|Cn rfl (fun hc=>?_) (fun hc=>absurd hsf1.succ (of_decide_eq_false hc))
  have hlti6:=of_decide_eq_true hc
  refine sk<|sq<|bk<|SR<|Md rfl<|As rfl<|Nl ?_
  obtain ⟨x8,hx8,x9,hx9,x10,hx10,h⟩:=bs3 h
  refine Rg<|Mw rfl<|Md rfl<|Mw rfl<|Md rfl<|Ac (Z23 1001 rfl rfl Z5b (vt rfl) rfl (vt rfl) hx8) rfl<|Ac (Z9d Z79 rfl rfl Z7v (vt rfl)) rfl<|Ac (Z1r 1001 rfl rfl Z85 (vt rfl) rfl (Z0n hx8).2) rfl<|Cl [18] (Ylw _ _ hx9) Ywm rfl<|Ac (Z23 1001 rfl rfl Z5b (vt rfl) rfl (vt rfl) hx10) rfl<|Ac (Z9d Z79 rfl rfl Z7v (vt rfl)) rfl<|Ac (Z30 1001 rfl rfl Z85 (vt rfl) rfl (Z0n hx10).2 (vt rfl)) rfl<|Nl<|Rg<|Ac (Z13 (t:=8) rfl rfl (vt rfl) (vk rfl) (vt rfl) hlti6) rfl<|Md rfl<|Nl ?_
  exact ⟨(_,_,_),Nat.lt_succ_self _,⟨hsf1.next,h⟩,FX rfl⟩
def Zmz (l1:(List Group))(i2:Int):Option (Group×Bool):=
 (Zj3 l1 i2).bind fun x4=>(bif (decide (x4<0)) then some ((⟨0,0,[]⟩:Group),false) else (Zg0 l1 x4 (IntKind.i64.wrap (x4+1))).bind fun s5=>(Zmf s5).bind fun x6=>(lget x6 0).bind fun x7=>some (x7,true))
theorem Yff:Q2 Tryz.prog 196 (rd (Z1 Z0e)) (rd (Z0 .i64)) (fun r=>Z12 (rd Z0e r.1) (rd Z6 r.2)) Zmz:=fun l1 i2 r h=>I0 Tryz.func196 rfl Tryz.ntmps196 rfl fun w H Z=>by
 unfold Zmz at h
 refine SR<|Cv rfl (Zm 5 rfl rfl Zd7) fun g3=>Ab rfl<|Nl<|sq ?_
 obtain ⟨x4,hx4,h⟩:=Z7 h
 refine Rg<|Md rfl<|Md rfl<|Cl [7,8] (Zuv _ _ _ hx4) Zz1 rfl<|As rfl<|Nl<|sq<|SR<|Md rfl<|Ac (Zj rfl rfl (vt rfl) (vk rfl)) rfl<|Nl<|Cq rfl h (fun h=>?_) (fun h=>?_)
 ·refine SR<|Ac (opb (⟨0,0,[]⟩:Group) Zd7 rfl Y2t (pn rfl)) rfl<|Zf Z7g 5 rfl<|Ab rfl<|Nl<|rt ?_
  cases h;exact Z1f Tryz.results196 rfl (Zx rfl (i:=5) rfl Z7g) (Z5 rfl)
 ·refine sk<|sq ?_
  obtain ⟨s5,hs5,x6,hx6,x7,hx7,h⟩:=bs3 h
  refine Rg<|Md rfl<|Md rfl<|Md rfl<|Ac (Z05 rfl rfl (vt rfl) (vk rfl)) rfl<|Ac (Ylt hs5 rfl rfl Z5b (vt rfl) (vt rfl) (vt rfl)) rfl<|Cl [17] (Yfy _ _ hx6) Yfc rfl<|Ac (Z0j rfl rfl Z5b (vt rfl) (vk rfl) hx7) rfl<|Lp1 Z7g rfl<|Zf Z7g 5 rfl<|Ab rfl<|Nl<|rt ?_
  cases h;exact Z1f Tryz.results196 rfl (Zx rfl (i:=5) rfl Z7g) (Z5 rfl)
def Zez (x1:Env)(n2:Int):Option Int:=
 (bif (decide (n2<1)) then some 0 else (Zb8 x1.Turn n2).bind fun q4=>(bif (decide (q4<0)) then some (IntKind.i64.wrap (q4+n2)) else some q4))
theorem Ycq:Q2 Tryz.prog 383 (rd Z2y) (rd (Z0 .i64)) (rd (Z0 .i64)) Zez:=fun x1 n2 r h=>I0 Tryz.func383 rfl Tryz.ntmps383 rfl fun w H Z=>by
 unfold Zez at h
 refine SR<|Cv rfl (Zs 3 rfl rfl (vt rfl)) fun g3=>Ak rfl<|Nl<|sq<|SR<|Md rfl<|Ac (Zj rfl rfl (vt rfl) (vk rfl)) rfl<|Nl<|Cq rfl h (fun h=>?_) (fun h=>?_)
 ·refine SR<|Ak rfl<|Nl<|rt ?_
  cases h;exact Zd Tryz.results383 rfl (Z5 rfl)
 ·refine sk<|sq ?_
  obtain ⟨q4,hq4,h⟩:=Z7 h
  refine Rg<|Zk Ycj Yil rfl<|Ld Zo 3 rfl<|Md rfl<|Ac (Y8t rfl rfl (vt rfl) (vt rfl) hq4) rfl<|As rfl<|Nl<|sq<|SR<|Md rfl<|Ac (Zj rfl rfl (vt rfl) (vk rfl)) rfl<|Nl<|Cq rfl h (fun h=>?_) (fun h=>?_)
  ·refine Rg<|Md rfl<|Md rfl<|Ac (Z05 rfl rfl (vt rfl) (vt rfl)) rfl<|As rfl<|Nl<|SR<|Md rfl<|As rfl<|Nl<|rt ?_
   cases h;exact Zd Tryz.results383 rfl (Z5 rfl)
  ·refine sk<|SR<|Md rfl<|As rfl<|Nl<|rt ?_
   cases h;exact Zd Tryz.results383 rfl (Z5 rfl)
def Zmg (s1:(List Int))(x2:Int):Option Bool:=
 (Zhi s1 x2).bind fun x3=>some (decide (x3≥0))
theorem Yg4:Q2 Tryz.prog 399 (rd (Z1 (Z0 .i64))) (rd (Z0 .i64)) (rd Z6) Zmg:=fun s1 x2 r h=>I0 Tryz.func399 rfl Tryz.ntmps399 rfl fun w H Z=>by
 unfold Zmg at h
 refine SR<|Ab rfl<|Nl<|sq ?_
 obtain ⟨x3,hx3,h⟩:=Z7 h
 refine Rg<|Md rfl<|Md rfl<|Cl [5,6] (Ybk _ _ _ hx3) Zzv rfl<|Ac (Z45 rfl rfl (vt rfl) (vk rfl)) rfl<|As rfl<|Nl<|rt ?_
 cases h;exact Zd Tryz.results399 rfl (Z5 rfl)
def Zkw (x1:Env)(p2:Int):Option Bool:=
 (Zmg x1.Down p2).bind fun x4=>some (!x4)
theorem Yw7:Q2 Tryz.prog 396 (rd Z2y) (rd (Z0 .i64)) (rd Z6) Zkw:=fun x1 p2 r h=>I0 Tryz.func396 rfl Tryz.ntmps396 rfl fun w H Z=>by
 unfold Zkw at h
 refine SR<|Cv rfl (Zs 3 rfl rfl (vt rfl)) fun g3=>Ab rfl<|Nl<|sq ?_
 obtain ⟨x4,hx4,h⟩:=Z7 h
 refine Rg<|Zk Y4d Yri rfl<|Ld Yxn 3 rfl<|Md rfl<|Cl [6,7] (Yg4 _ _ _ hx4) Yhr rfl<|Ac (Z0z rfl rfl (vt rfl)) rfl<|As rfl<|Nl<|rt ?_
 cases h;exact Zd Tryz.results396 rfl (Z5 rfl)
def Zhy (x1:Bucket)(x2:env_world):Option Bool:=
 (Zkw x2.Env x1.Watch).bind fun x4=>some x4
theorem Yig:Q2 Tryz.prog 395 (rd Z1y) (rp Zc2) (rd Z6) Zhy:=fun x1 x2 r h=>I0 Tryz.func395 rfl Tryz.ntmps395 rfl fun w H Z=>by
 unfold Zhy at h
 refine SR<|Cv rfl (Zs 3 rfl rfl (vt rfl)) fun g3=>Ab rfl<|Nl<|sq ?_
 obtain ⟨x4,hx4,h⟩:=Z7 h
 refine Rg<|Fp lenv_world_0 Y6u rfl<|Lp1 Zjp rfl<|Zk Y3i Ywe rfl<|Ld Zo 3 rfl<|Cl [5,7] (Yw7 _ _ _ hx4) Yms rfl<|As rfl<|Nl<|rt ?_
 cases h;exact Zd Tryz.results395 rfl (Z5 rfl)
def Zpb (w1:env_world):Option Int:=
 (Zhz w1.Group.Buckets (fun x=>Zhy x w1)).bind fun x3=>some x3
theorem Yeh:Q1 Tryz.prog 384 (rd Zc2) (rd (Z0 .i64)) Zpb:=fun w1 r h=>I0 Tryz.func384 rfl Tryz.ntmps384 rfl fun w H Z=>by
 unfold Zpb at h
 refine SR<|Cv rfl (Zs 2 rfl rfl (vt rfl)) fun g2=>Ak rfl<|Nl<|sq<|AW.freezeB 1 2 rfl rfl rfl ?_
 obtain ⟨x3,hx3,h⟩:=Z7 h
 refine Rg<|Fp lenv_world_1 Zl5 rfl<|Fp Z79 Z7v rfl<|Lp1 Z85 rfl<|Ac (Z8l (cs:=[.tmp 1]) (CAs:=[rp Zc2 w1]) (fun x=>Zhy x w1) rfl rfl Ys5 ⟨vt rfl,trivial⟩ (fun x y h=>Yig _ _ y h)) rfl<|Cl [5,6] (Y2h _ _ _ hx3) Y2o rfl<|As rfl<|Nl<|rt ?_
 cases h;exact Zd Tryz.results384 rfl (Z5 rfl)
def Zcb:Nat→Nat→(List Int)→Option (List Int)
 | 0,i10,l8=>some l8
 | m11+1,i10,l8=>(Z0y l8 [(i10:Int)]).bind fun l12=>(Zcb m11) (i10+1) l12
def Zl0 (x1:Env)(x2:Group):Option (List Int):=
 (bif (decide (((((⟨x1,x2⟩:env_world).Group).Buckets).length:Int)=0)) then some [] else (bif (decide ((((⟨x1,x2⟩:env_world).Group).Kind)=0)) then Zcb (((((⟨x1,x2⟩:env_world).Group).Buckets).length:Int):Int).toNat 0 [] else (bif (decide ((((⟨x1,x2⟩:env_world).Group).Kind)=1)) then (Zez ((⟨x1,x2⟩:env_world).Env) ((((⟨x1,x2⟩:env_world).Group).Buckets).length:Int)).bind fun x14=>some [x14] else (bif (decide ((((⟨x1,x2⟩:env_world).Group).Kind)=2)) then some [0] else (bif (decide ((((⟨x1,x2⟩:env_world).Group).Kind)=3)) then (Zpb (⟨x1,x2⟩:env_world)).bind fun x15=>(bif (decide (x15≥0)) then some [x15] else some []) else some [])))))
theorem Ywi:Q2 Tryz.prog 355 (rd Z2y) (rd Z0e) (rd (Z1 (Z0 .i64))) Zl0:=fun x1 x2 r h=>I0 Tryz.func355 rfl Tryz.ntmps355 rfl fun w H Z=>by
 unfold Zl0 at h
 refine SR<|Cv rfl (Zs 3 rfl rfl (vt rfl)) fun g3=>Cv rfl (Zs 4 rfl rfl (vt rfl)) fun g4=>Ac (Zv (A:=rd (Z1 (Z0 .i64)) []) rfl rfl Z1j) rfl<|Nl<|SR<|Ld Zjp 3 rfl<|Ld Z7g 4 rfl<|Ac (opb (⟨x1,x2⟩:env_world) Y7l rfl Yfd (pc Yvt (vt rfl)<|pc Yrl (vt rfl)<|pn rfl)) rfl<|Cv rfl (Zm 6 rfl rfl Y7l) fun g5=>Zf Y6v 6 rfl<|Nl<|sq<|SR<|Zk lenv_world_1 Zl5 rfl<|Zk Z79 Z7v rfl<|Ld Z85 6 rfl<|Ac (Z0i rfl rfl Z6z (vt rfl)) rfl<|Ac (Z0m rfl rfl (vt rfl) (vk rfl)) rfl<|Nl<|Cq rfl h (fun h=>?_) (fun h=>?_)
 ·refine SR<|Ac (Zv (A:=rd (Z1 (Z0 .i64)) []) rfl rfl Z1j) rfl<|Nl<|rt ?_
  cases h;exact Zd Tryz.results355 rfl (Z5 rfl)
 ·refine sk<|sq<|SR<|Zk lenv_world_1 Zl5 rfl<|Zk Zun Y91 rfl<|Ld Zo 6 rfl<|Nl<|bk<|SR<|Ac (Z0m rfl rfl (vt rfl) (vk rfl)) rfl<|As rfl<|Nl<|Cq rfl h (fun h=>?_) (fun h=>?_)
  ·refine sq<|AW.newnil 1001 3 (Z0 .i64)<|Rg<|Ac (Zv rfl rfl vc) rfl<|Nl<|sq<|SR<|Zk lenv_world_1 Zl5 rfl<|Zk Z79 Z7v rfl<|Ld Z85 6 rfl<|Ac (Z0i rfl rfl Z6z (vt rfl)) rfl<|Mk rfl<|Nl<|bk<|LG (d:=[]) (ν:=Nat×Nat×(List Int)×Value) (fun (m11,i10,l8,v9)=>(Cnt ((((⟨x1,x2⟩:env_world).Group).Buckets).length:Int) i10 m11∧Zcb m11 i10 l8=some r,m11,[(6,Zc v9),(25,rd (Z0 .i64) ((((⟨x1,x2⟩:env_world).Group).Buckets).length:Int)),(26,rd (Z0 .i64) (i10:Int))],[(1001,Zg v9 3 (Z0 .i64) l8)])) ((((((⟨x1,x2⟩:env_world).Group).Buckets).length:Int):Int).toNat,0,[],(.slice none 0 0)) ⟨Cnt.start _,h⟩ (FX rfl) ?_
   rintro ⟨m11,i10,l8,v9⟩ ⟨hsf1,h⟩
   dsimp only at hsf1 h ⊢
   cases m11 with
   | zero=>
    unfold Zcb at h
    refine SR<|Ac (Zj rfl rfl (vt rfl) (vt rfl)) rfl<|Nl<|sq<|Cn rfl (fun hc=>absurd (of_decide_eq_true hc) hsf1.zero) (fun hc=>?_)
    refine xt<|SR<|Mw rfl<|Aw rfl<|Nl<|AW.freezes [4,6,34] 1001 rfl ⟨rfl,rfl,rfl,trivial⟩ rfl<|rt ?_
    cases h;exact Zd Tryz.results355 rfl (Z5 rfl)
   | succ m11=>
    unfold Zcb at h
    refine SR<|Ac (Zj rfl rfl (vt rfl) (vt rfl)) rfl<|Nl<|sq<|Cn rfl (fun hc=>?_) (fun hc=>absurd hsf1.succ (of_decide_eq_false hc))
    have hlti10:=of_decide_eq_true hc
    refine sk<|sq<|bk<|SR<|Md rfl<|As rfl<|Nl ?_
    obtain ⟨l12,hl12,h⟩:=Z7 h
    refine Rg<|Mw rfl<|Md rfl<|Ac (osl Z15 zr3 rfl (vt rfl)) rfl<|Cv rfl (Z2f 1001 hl12 rfl rfl Zik (vt rfl) rfl (vt rfl)) fun v13=>Aw rfl<|Nl<|Rg<|Ac (Z13 (t:=25) rfl rfl (vt rfl) (vk rfl) (vt rfl) hlti10) rfl<|Md rfl<|Nl ?_
    exact ⟨(_,_,_,_),Nat.lt_succ_self _,⟨hsf1.next,h⟩,FX rfl⟩
  ·refine SR<|Ac (Z0m rfl rfl (vt rfl) (vk rfl)) rfl<|As rfl<|Nl<|Cq rfl h (fun h=>?_) (fun h=>?_)
   ·refine sq ?_
    obtain ⟨x14,hx14,h⟩:=Z7 h
    refine Rg<|Zk lenv_world_0 Y6u rfl<|Ld Zjp 6 rfl<|Zk lenv_world_1 Zl5 rfl<|Zk Z79 Z7v rfl<|Ld Z85 6 rfl<|Ac (Z0i rfl rfl Z6z (vt rfl)) rfl<|Cl [38,42] (Ycq _ _ _ hx14) Ywo rfl<|Ac (osl Z15 zr3 rfl (vt rfl)) rfl<|As rfl<|Nl<|rt ?_
    cases h;exact Zd Tryz.results355 rfl (Z5 rfl)
   ·refine SR<|Ac (Z0m rfl rfl (vt rfl) (vk rfl)) rfl<|As rfl<|Nl<|Cq rfl h (fun h=>?_) (fun h=>?_)
    ·refine SR<|Ac (osl Z15 zr3 rfl (vk rfl)) rfl<|As rfl<|Nl<|rt ?_
     cases h;exact Zd Tryz.results355 rfl (Z5 rfl)
    ·refine SR<|Ac (Z0m rfl rfl (vt rfl) (vk rfl)) rfl<|As rfl<|Nl<|Cq rfl h (fun h=>?_) (fun h=>?_)
     ·refine sq ?_
      obtain ⟨x15,hx15,h⟩:=Z7 h
      refine Rg<|Ld Y6v 6 rfl<|Cl [50] (Yeh _ _ hx15) Yim rfl<|As rfl<|Nl<|SR<|Md rfl<|Ac (Z45 rfl rfl (vt rfl) (vk rfl)) rfl<|Nl<|Cq rfl h (fun h=>?_) (fun h=>?_)
      ·refine SR<|Md rfl<|Ac (osl Z15 zr3 rfl (vt rfl)) rfl<|As rfl<|Nl<|rt ?_
       cases h;exact Zd Tryz.results355 rfl (Z5 rfl)
      ·refine sk<|SR<|Ac (Zv (A:=rd (Z1 (Z0 .i64)) []) rfl rfl Z1j) rfl<|Nl<|rt ?_
       cases h;exact Zd Tryz.results355 rfl (Z5 rfl)
     ·refine sk<|SR<|Ac (Zv (A:=rd (Z1 (Z0 .i64)) []) rfl rfl Z1j) rfl<|Nl<|rt ?_
      cases h;exact Zd Tryz.results355 rfl (Z5 rfl)
end Go.Proofs.YtinplddjjalohaaGreatDoor.W
