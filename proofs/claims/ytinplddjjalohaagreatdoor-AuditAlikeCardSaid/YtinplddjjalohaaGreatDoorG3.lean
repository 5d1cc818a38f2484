/- A part of the proof. -/
import Derived.Test.YtinplddjjalohaaGreatDoorG2
set_option linter.unusedVariables false
set_option maxHeartbeats 1000000
set_option maxRecDepth 4000
set_option linter.unusedSimpArgs false
namespace Go.Proofs.YtinplddjjalohaaGreatDoor.W
open Go Go.Wb
theorem Yqu:Ent Tryz.prog 313:=Ent.mk Tryz.func313 rfl rfl
theorem Yj5:Ent Tryz.prog 314:=Ent.mk Tryz.func314 rfl rfl
theorem Y0w:Ent Tryz.prog 141:=Ent.mk Tryz.func141 rfl rfl
theorem Yob:Ent Tryz.prog 196:=Ent.mk Tryz.func196 rfl rfl
theorem Ymj:Ent Tryz.prog 355:=Ent.mk Tryz.func355 rfl rfl
theorem Y02:Ent Tryz.prog 239:=Ent.mk Tryz.func239 rfl rfl
theorem Ynj:Ent Tryz.prog 144:=Ent.mk Tryz.func144 rfl rfl
theorem e71:Ent Tryz.prog 71:=Ent.mk Tryz.func71 rfl rfl
theorem e69:Ent Tryz.prog 69:=Ent.mk Tryz.func69 rfl rfl
theorem e70:Ent Tryz.prog 70:=Ent.mk Tryz.func70 rfl rfl
theorem e32:Ent Tryz.prog 32:=Ent.mk Tryz.func32 rfl rfl
theorem e67:Ent Tryz.prog 67:=Ent.mk Tryz.func67 rfl rfl
theorem e66:Ent Tryz.prog 66:=Ent.mk Tryz.func66 rfl rfl
theorem e68:Ent Tryz.prog 68:=Ent.mk Tryz.func68 rfl rfl
theorem e12:Ent Tryz.prog 12:=Ent.mk Tryz.func12 rfl rfl
def Zbp:(List Tern)→Nat→Z16→Option Z16
 | [],i8,b7=>some b7
 | x10::l9,i8,b7=>(chk 24 (i8:Int)).bind fun j12=>(Za6 (Vector.get b7 j12) x10.Mask).bind fun x13=>(Zcf x10.Value x10.Mask).bind fun x14=>(Z97 x13 x14).bind fun x15=>(chk 24 (i8:Int)).bind fun j16=>(Zbp l9) (i8+1) (Vector.set b7 j16.1 x15 j16.2)
def Zgm (x1:Za)(x2:Z16):Option Z16:=
 Zbp (Vector.toList x1) 0 x2
theorem Ya5:Q2 Tryz.prog 141 (rd (Z3 24 Z4)) (rd (Z3 24 Zn)) (rd (Z3 24 Zn)) Zgm:=fun x1 x2 r h=>I0 Tryz.func141 rfl Tryz.ntmps141 rfl fun w H Z=>by
 unfold Zgm at h
 refine SR<|Cv rfl (Zs 3 rfl rfl (vt rfl)) fun g3=>Cv rfl (Zs 4 rfl rfl (vt rfl)) fun g4=>Cv rfl (Zm 5 rfl rfl Z53) fun g5=>Nl<|sq<|SR<|Ld Z04 3 rfl<|Mk rfl<|Nl<|bk<|LG (d:=[]) (ν:=(List Tern)×Nat×Z16) (fun (l9,i8,b7)=>(Sfx (Vector.toList x1) i8 l9∧Zbp l9 i8 b7=some r,l9.length,[(3,Zc g4 (Lens.id (Z3 24 Zn))),(4,Zc g5 (Lens.id (Z3 24 Zn))),(7,rd (Z3 24 Z4) x1),(8,rd (Z0 .i64) (i8:Int))],[(4,Zh g4 31 (Z3 24 Zn) b7),(5,Zh g5 31 (Z3 24 Zn) (Vector.replicate 24 Z0p))])) ((Vector.toList x1),0,x2) ⟨Sfx.start _,h⟩ (FX rfl) ?_
 rintro ⟨l9,i8,b7⟩ ⟨hsf1,h⟩
 dsimp only at hsf1 h ⊢
 cases l9 with
 | nil=>
  unfold Zbp at h
  refine SR<|Ac (Zj rfl rfl (vt rfl) (vk rfl)) rfl<|Nl<|sq<|Cn rfl (fun hc=>absurd (of_decide_eq_true hc) (hsf1.niln (by simp))) (fun hc=>?_)
  refine xt<|SR<|Ld Z17 4 rfl<|Zg Z17 5 rfl<|Nl<|rt ?_
  cases h;exact Zd Tryz.results141 rfl (Zx rfl (i:=5) rfl Z17)
 | cons x10 l9=>
  unfold Zbp at h
  refine SR<|Ac (Zj rfl rfl (vt rfl) (vk rfl)) rfl<|Nl<|sq<|Cn rfl (fun hc=>?_) (fun hc=>absurd (hsf1.consn (by simp)) (of_decide_eq_false hc))
  have hlti8:=of_decide_eq_true hc
  refine sk<|sq<|bk<|SR<|Md rfl<|Ac (Z8d rfl rfl Z47 Z01 (vt rfl) (vt rfl) hsf1.lget) rfl<|Cv rfl (Zm 7 rfl rfl Z1n) fun g11=>As rfl<|Zg Z01 7 rfl<|Nl ?_
  obtain ⟨j12,hj12,x13,hx13,x14,hx14,x15,hx15,h⟩:=bs4 h
  obtain ⟨j16,hj16,h⟩:=Z7 h
  refine AR Z00 (by kernel_rfl)<|Zt rfl<|Zt rfl<|Sd (lo [3,13] [] rfl fun S hs hr=>Z13 rfl rfl Zo9 (vh hs 3 rfl rfl) (vh hs 13 rfl rfl) hj12)<|Zo Zw 4 rfl<|SFd lTern_1 Z2c rfl<|Zo Zw 7 rfl<|SCl [15,17] (Zfb _ _ _ hx13) Zj3 rfl<|SFd lTern_0 Z2x rfl<|Zo Zw 7 rfl<|SFd lTern_1 Z2c rfl<|Zo Zw 7 rfl<|SCl [20,22] (Zlq _ _ _ hx14) Zns rfl<|SCl [18,23] (Zel _ _ _ hx15) Zeq rfl<|Sd (lo [3,12] [] rfl fun S hs hr=>Z13 rfl rfl Zo9 (vh hs 3 rfl rfl) (vh hs 12 rfl rfl) hj16)<|SSt Zw 4 rfl<|Sn<|Rg<|Ac (Z5f rfl rfl (vt rfl) (vk rfl) rfl hlti8) rfl<|Md rfl<|Nl ?_
  exact ⟨(_,_,_),Nat.lt_succ_self _,⟨hsf1.next,h⟩,FX rfl⟩
def Z9c (R_exec_run_group:(Z0w→Int→Option Z0w)):(List Action)→Nat→(List Out)→Env→(List Group)→Z16→Int→Option Z0w
 | [],i17,l11,b13,b14,b15,b16=>some (⟨b13,b14,l11,b15,b16⟩:Z0w)
 | x19::l18,i17,l11,b13,b14,b15,b16=>(bif (decide (x19.Kind=0)) then (Zmz x19).bind fun x21=>(Z0v l11 [(⟨x19.Port,x21,b15⟩:Out)]).bind fun l22=>(Z9c R_exec_run_group l18) (i17+1) l22 b13 b14 b15 b16 else (bif (decide (x19.Kind=22)) then (R_exec_run_group (⟨b13,b14,l11,b15,b16⟩:Z0w) x19.Group).bind fun b24=>(Z9c R_exec_run_group l18) (i17+1) b24.out b24.Env b24.groups b24.header b24.depth else (Zhh x19).bind fun x26=>(Zgm x26 b15).bind fun x27=>(Z9c R_exec_run_group l18) (i17+1) l11 b13 b14 x27 b16))
def Zd2 (R_exec_run_do:(Z0w→(List Action)→Option Z0w))(R_exec_run_group:(Z0w→Int→Option Z0w))(x1:Z0w)(a4:(List Action)):Option Z0w:=
 Z9c R_exec_run_group a4 0 x1.out x1.Env x1.groups x1.header x1.depth
theorem Yp6 (R_exec_run_do:(Z0w→(List Action)→Option Z0w))(hR_exec_run_do:∀(g2 gT:Nat) (x1:Z0w) (a4:(List Action)) (r:Z0w),R_exec_run_do x1 a4=some r→Con Tryz.prog 239 [Zc g2 (Lens.id Z1r),rd (Z1 Z9) a4] (Z1b g2 gT Z1r (fun v=>(⟨x1.Env,x1.groups,v,x1.header,x1.depth⟩:exec_run_o2)) 111 Z14 x1.out) (fun _:Unit=>top) (fun _=>Z1b g2 gT Z1r (fun v=>(⟨r.Env,r.groups,v,r.header,r.depth⟩:exec_run_o2)) 111 Z14 r.out))(R_exec_run_group:(Z0w→Int→Option Z0w))(hR_exec_run_group:∀(g2 gT:Nat) (x1:Z0w) (i4:Int) (r:Z0w),R_exec_run_group x1 i4=some r→Con Tryz.prog 314 [Zc g2 (Lens.id Z1r),rd (Z0 .i64) i4] (Z1b g2 gT Z1r (fun v=>(⟨x1.Env,x1.groups,v,x1.header,x1.depth⟩:exec_run_o2)) 111 Z14 x1.out) (fun _:Unit=>top) (fun _=>Z1b g2 gT Z1r (fun v=>(⟨r.Env,r.groups,v,r.header,r.depth⟩:exec_run_o2)) 111 Z14 r.out))(g2 gT:Nat)(x1:Z0w)(a4:(List Action))(r:Z0w)(h:Zd2 R_exec_run_do R_exec_run_group x1 a4=some r):Con Tryz.prog 239 [Zc g2 (Lens.id Z1r),rd (Z1 Z9) a4] (Z1b g2 gT Z1r (fun v=>(⟨x1.Env,x1.groups,v,x1.header,x1.depth⟩:exec_run_o2)) 111 Z14 x1.out) (fun _:Unit=>top) (fun _=>Z1b g2 gT Z1r (fun v=>(⟨r.Env,r.groups,v,r.header,r.depth⟩:exec_run_o2)) 111 Z14 r.out):=by
 refine Con.intro Tryz.func239 rfl Tryz.ntmps239 rfl fun w H X Z=>?_
 unfold Zd2 at h
 refine AW.unboxF 0 2002 (by decide) rfl rfl fun v3=>SR<|Md rfl<|Ac (Z0i rfl rfl Z0g (vt rfl)) rfl<|Mk rfl<|Nl<|bk<|LG (d:=[]) (ν:=(List Action)×Nat×(List Out)×Env×(List Group)×Z16×Int×Value) (fun (l18,i17,l11,b13,b14,b15,b16,v12)=>(Sfx a4 i17 l18∧Z9c R_exec_run_group l18 i17 l11 b13 b14 b15 b16=some r,l18.length,[(0,Zc g2 (Lens.id Z1r)),(6,rd (Z1 Z9) a4),(7,rd (Z0 .i64) (a4.length:Int)),(8,rd (Z0 .i64) (i17:Int))],[(0,Zh g2 gT Z1r (⟨b13,b14,v12,b15,b16⟩:exec_run_o2)),(2002,Zf v12 111 Z14 l11)])) (a4,0,x1.out,x1.Env,x1.groups,x1.header,x1.depth,v3) ⟨Sfx.start _,h⟩ (FX rfl) ?_
 rintro ⟨l18,i17,l11,b13,b14,b15,b16,v12⟩ ⟨hsf1,h⟩
 dsimp only at hsf1 h ⊢
 cases l18 with
 | nil=>
  unfold Z9c at h
  refine SR<|Ac (Zj rfl rfl (vt rfl) (vt rfl)) rfl<|Nl<|sq<|Cn rfl (fun hc=>absurd (of_decide_eq_true hc) hsf1.nil) (fun hc=>?_)
  refine xt ?_
  cases h;exact RetOK.turn (Turn.packF 0 2002 (fun v=>(⟨b13,b14,v,b15,b16⟩:exec_run_o2)) (by decide) rfl rfl) (Z2d (i:=0) Tryz.results239 rfl rfl)
 | cons x19 l18=>
  unfold Z9c at h
  refine SR<|Ac (Zj rfl rfl (vt rfl) (vt rfl)) rfl<|Nl<|sq<|Cn rfl (fun hc=>?_) (fun hc=>absurd hsf1.cons (of_decide_eq_false hc))
  have hlti17:=of_decide_eq_true hc
  refine sk<|sq<|bk<|SR<|Ac (Z0k rfl rfl Z0g (vt rfl) (vt rfl) hsf1.lget) rfl<|Lp1 Z0z rfl<|Cv rfl (Zm 6 rfl rfl Z66) fun g20=>Zg Z0z 6 rfl<|Nl<|SR<|Zk Z58 Z5u rfl<|Ld Zp 6 rfl<|Nl<|bk<|SR<|Ac (Z0j rfl rfl (vt rfl) (vk rfl)) rfl<|As rfl<|Nl<|Cq rfl h (fun h=>?_) (fun h=>?_)
  ·obtain ⟨x21,hx21,l22,hl22,h⟩:=bs2 h
   refine AR Z00 (by kernel_rfl)<|SMp rfl<|SMp rfl<|SNc rfl<|SFd Zn7 Zsx rfl<|Sd (lo [29] [0] rfl fun S hs hr=>Zb1 v12 rfl rfl Zj8 (vh hs 29 rfl rfl) (i:=0) ((hr 0 rfl).trans rfl) rfl)<|SFd Zh5 Zli rfl<|Zo Zp 6 rfl<|Zo Z0z 6 rfl<|SCl [33] (Yd2 _ _ hx21) Yqu rfl<|SMp rfl<|SNc rfl<|SFd lexec_run_o2_3 Zhv rfl<|Zo Z17 0 rfl<|Sd (lo [32,34,38] [] rfl fun S hs hr=>opb (⟨x19.Port,x21,b15⟩:Out) Y7x rfl Yg7 (pc Yoq (vh hs 32 rfl rfl)<|pc Yur (vh hs 34 rfl rfl)<|pc Yfz (vh hs 38 rfl rfl)<|pn rfl))<|Sd (lo [39] [] rfl fun S hs hr=>osl Ypw Y7x rfl (vh hs 39 rfl rfl))<|Sd (Z19 (us:=[(41,Z1p 111 Z14 l22)]) (ur:=[(2002,emp)]) [30,40] [2002] rfl fun S hs hr=>Z8k 2002 hl22 rfl rfl rfl Yau (vh hs 30 rfl rfl) ((hr 2002 rfl).trans rfl) (vh hs 40 rfl rfl))<|SNc rfl<|SFd Zn7 Zsx rfl<|Sd (Z19 (us:=[(41,top)]) (ur:=[(0,Z1b g2 gT Z1r (fun v=>((Lens.comp (Lens.id Z1r) Zn7)).set (⟨b13,b14,v12,b15,b16⟩:exec_run_o2) v) 111 Z14 l22)]) [43,41] [0] rfl fun S hs hr=>Zu1 rfl rfl Zj8 (vh hs 43 rfl rfl) ((hr 0 rfl).trans rfl) ((hs 41 rfl).trans rfl))<|Sn<|AW.unboxF 0 2002 (by decide) rfl rfl fun v23=>Rg<|Ac (Z12 (t:=7) rfl rfl (vt rfl) (vk rfl) (vt rfl) hlti17) rfl<|Md rfl<|Nl ?_
   exact ⟨(_,_,_,_,_,_,_,_),Nat.lt_succ_self _,⟨hsf1.next,h⟩,FX rfl⟩
  ·refine SR<|Ac (Z0j rfl rfl (vt rfl) (vk rfl)) rfl<|As rfl<|Nl<|Cq rfl h (fun h=>?_) (fun h=>?_)
   ·obtain ⟨b24,hb24,h⟩:=Z7 h
    refine Rg<|Mp rfl<|Zk Zp5 Zu3 rfl<|Ld Zp 6 rfl<|AOps.packF 0 2002 (fun v=>(⟨b13,b14,v,b15,b16⟩:exec_run_o2)) (by decide) rfl rfl<|Cv rfl (Z1a 0 (xs:=[.tmp 46,.tmp 48]) (hR_exec_run_group _ _ _ _ _ hb24) Yj5 rfl rfl ⟨vt rfl,vt rfl,trivial⟩ rfl) fun _u=>AOps.unboxF 0 2002 (by decide) rfl rfl fun v25=>Nl<|Rg<|Ac (Z12 (t:=7) rfl rfl (vt rfl) (vk rfl) (vt rfl) hlti17) rfl<|Md rfl<|Nl ?_
    exact ⟨(_,_,_,_,_,_,_,_),Nat.lt_succ_self _,⟨hsf1.next,h⟩,FX rfl⟩
   ·obtain ⟨x26,hx26,x27,hx27,h⟩:=bs2 h
    refine AR Z00 (by kernel_rfl)<|SMp rfl<|Zo Z0z 6 rfl<|SCl [15] (Y7q _ _ hx26) Y5l rfl<|SMp rfl<|SNc rfl<|SFd lexec_run_o2_3 Zhv rfl<|Zo Z17 0 rfl<|SCl [16,20] (Ya5 _ _ _ hx27) Y0w rfl<|SNc rfl<|SFd lexec_run_o2_3 Zhv rfl<|SSt Z17 0 rfl<|Sn<|Rg<|Ac (Z12 (t:=7) rfl rfl (vt rfl) (vk rfl) (vt rfl) hlti17) rfl<|Md rfl<|Nl ?_
    exact ⟨(_,_,_,_,_,_,_,_),Nat.lt_succ_self _,⟨hsf1.next,h⟩,FX rfl⟩
def Zcv (x5:(Group×Bool))(R_exec_run_do:(Z0w→(List Action)→Option Z0w))(x1:Z0w):(List Int)→Nat→(List Out)→Env→(List Group)→Z16→Int→Option Z0w
 | [],i21,l15,b17,b18,b19,b20=>some (⟨b17,b18,l15,b19,(IntKind.i64.wrap (b20 - 1))⟩:Z0w)
 | x23::l22,i21,l15,b17,b18,b19,b20=>(lget x5.1.Buckets x23).bind fun x24=>(Zd3 [] x24.Acts).bind fun x25=>(Z89 x25).bind fun x26=>(R_exec_run_do (⟨b17,b18,l15,b19,b20⟩:Z0w) x26).bind fun b27=>(Zcv x5 R_exec_run_do x1 l22) (i21+1) b27.out b27.Env b27.groups x1.header b27.depth
def Zf3 (R_exec_run_do:(Z0w→(List Action)→Option Z0w))(R_exec_run_group:(Z0w→Int→Option Z0w))(x1:Z0w)(i4:Int):Option Z0w:=
 (Zkm x1.groups i4).bind fun x5=>(bif ((!x5.2)||(decide (x1.depth≥8))) then some (⟨x1.Env,x1.groups,x1.out,x1.header,x1.depth⟩:Z0w) else (Zle x1.Env x5.1).bind fun x8=>Zcv x5 R_exec_run_do x1 x8 0 x1.out x1.Env x1.groups x1.header (IntKind.i64.wrap (x1.depth+1)))
theorem Yw9 (R_exec_run_do:(Z0w→(List Action)→Option Z0w))(hR_exec_run_do:∀(g2 gT:Nat) (x1:Z0w) (a4:(List Action)) (r:Z0w),R_exec_run_do x1 a4=some r→Con Tryz.prog 239 [Zc g2 (Lens.id Z1r),rd (Z1 Z9) a4] (Z1b g2 gT Z1r (fun v=>(⟨x1.Env,x1.groups,v,x1.header,x1.depth⟩:exec_run_o2)) 111 Z14 x1.out) (fun _:Unit=>top) (fun _=>Z1b g2 gT Z1r (fun v=>(⟨r.Env,r.groups,v,r.header,r.depth⟩:exec_run_o2)) 111 Z14 r.out))(R_exec_run_group:(Z0w→Int→Option Z0w))(hR_exec_run_group:∀(g2 gT:Nat) (x1:Z0w) (i4:Int) (r:Z0w),R_exec_run_group x1 i4=some r→Con Tryz.prog 314 [Zc g2 (Lens.id Z1r),rd (Z0 .i64) i4] (Z1b g2 gT Z1r (fun v=>(⟨x1.Env,x1.groups,v,x1.header,x1.depth⟩:exec_run_o2)) 111 Z14 x1.out) (fun _:Unit=>top) (fun _=>Z1b g2 gT Z1r (fun v=>(⟨r.Env,r.groups,v,r.header,r.depth⟩:exec_run_o2)) 111 Z14 r.out))(g2 gT:Nat)(x1:Z0w)(i4:Int)(r:Z0w)(h:Zf3 R_exec_run_do R_exec_run_group x1 i4=some r):Con Tryz.prog 314 [Zc g2 (Lens.id Z1r),rd (Z0 .i64) i4] (Z1b g2 gT Z1r (fun v=>(⟨x1.Env,x1.groups,v,x1.header,x1.depth⟩:exec_run_o2)) 111 Z14 x1.out) (fun _:Unit=>top) (fun _=>Z1b g2 gT Z1r (fun v=>(⟨r.Env,r.groups,v,r.header,r.depth⟩:exec_run_o2)) 111 Z14 r.out):=by
 refine Con.intro Tryz.func314 rfl Tryz.ntmps314 rfl fun w H X Z=>?_
 unfold Zf3 at h
 refine AW.unboxF 0 2002 (by decide) rfl rfl fun v3=>sq ?_
 obtain ⟨x5,hx5,h⟩:=Z7 h
 refine Rg<|Mp rfl<|Nc rfl<|Zk lexec_run_o2_1 Ysr rfl<|Ld Zet 0 rfl<|Md rfl<|Cl [13,14] (Yux _ _ _ hx5) Yob rfl<|Mt2 rfl<|Ac (Z1c rfl rfl (vt rfl)) rfl<|Ac (Z18 rfl rfl (vt rfl)) rfl<|Cv rfl (Zm 5 rfl rfl Zcl) fun g6=>Zg Z6t 5 rfl<|As rfl<|Nl<|sq<|SR<|Md rfl<|Ac (Z0y rfl rfl (vt rfl)) rfl<|Md rfl<|Gd rfl (fun hq=>Zq (A:=Zc g2 (Lens.id Z1r)) rfl rfl (vt rfl))<|Gd rfl (fun hq=>Zrx rfl rfl (Zi rfl hq))<|Gd rfl (fun hq=>Z2n Zig rfl rfl Zn0 (Zi rfl hq))<|Gd rfl (fun hq=>Z1s rfl rfl Zp (Zi rfl hq) (i:=0) rfl)<|Gd rfl (fun hq=>Z3v rfl rfl (Zi rfl hq) (vk rfl))<|Ac (Z3j rfl rfl (vt rfl) (vt rfl)) rfl<|Nl<|Cq rfl h (fun h=>?_) (fun h=>?_)
 ·refine rt ?_
  cases h;exact RetOK.turn (Turn.packF 0 2002 (fun v=>(⟨x1.Env,x1.groups,v,x1.header,x1.depth⟩:exec_run_o2)) (by decide) rfl rfl) (Z2d (i:=0) Tryz.results314 rfl rfl)
 ·refine sk<|SR<|Mp rfl<|Nc rfl<|Zk lexec_run_o2_3 Zhv rfl<|Ld Z17 0 rfl<|Cv rfl (Zm 7 rfl rfl Z53) fun g7=>Zg Z17 7 rfl<|Nl<|SR<|Mp rfl<|Nc rfl<|Zk Zig Zn0 rfl<|Ld Zp 0 rfl<|Ac (Z06 rfl rfl (vt rfl) (vk rfl)) rfl<|Nc rfl<|Zk Zig Zn0 rfl<|Zg Zp 0 rfl<|Nl<|sq<|sq ?_
  obtain ⟨x8,hx8,h⟩:=Z7 h
  refine AR Z00 (by kernel_rfl)<|SMp rfl<|SNc rfl<|SFd lexec_run_o2_0 Yj8 rfl<|Zo Zh9 0 rfl<|Zo Z6t 5 rfl<|SCl [41,42] (Yha _ _ _ hx8) Ymj rfl<|Sd (lo [43] [] rfl fun S hs hr=>Z0i rfl rfl Z11 (vh hs 43 rfl rfl))<|Sd (lo [] [] rfl fun S hs hr=>Zq (A:=rd (Z0 .i64) 0) rfl rfl (vk rfl))<|Sn<|bk<|LG (d:=[]) (ν:=(List Int)×Nat×(List Out)×Env×(List Group)×Z16×Int×Value) (fun (l22,i21,l15,b17,b18,b19,b20,v16)=>(Sfx x8 i21 l22∧Zcv x5 R_exec_run_do x1 l22 i21 l15 b17 b18 b19 b20=some r,l22.length,[(0,Zc g2 (Lens.id Z1r)),(4,Zc g6 (Lens.id Z0d)),(6,Zc g7 (Lens.id (Z3 24 Zn))),(43,rd (Z1 (Z0 .i64)) x8),(44,rd (Z0 .i64) (x8.length:Int)),(45,rd (Z0 .i64) (i21:Int))],[(0,Zh g2 gT Z1r (⟨b17,b18,v16,b19,b20⟩:exec_run_o2)),(5,Zh g6 71 Z0d x5.1),(7,Zh g7 31 (Z3 24 Zn) x1.header),(2002,Zf v16 111 Z14 l15)])) (x8,0,x1.out,x1.Env,x1.groups,x1.header,(IntKind.i64.wrap (x1.depth+1)),v3) ⟨Sfx.start _,h⟩ (FX rfl) ?_
  rintro ⟨l22,i21,l15,b17,b18,b19,b20,v16⟩ ⟨hsf1,h⟩
  dsimp only at hsf1 h ⊢
  cases l22 with
  | nil=>
   unfold Zcv at h
   refine SR<|Ac (Zj rfl rfl (vt rfl) (vt rfl)) rfl<|Nl<|sq<|Cn rfl (fun hc=>absurd (of_decide_eq_true hc) hsf1.nil) (fun hc=>?_)
   refine xt<|Rg<|Mp rfl<|Nc rfl<|Zk Zig Zn0 rfl<|Ld Zp 0 rfl<|Ac (Z0r rfl rfl (vt rfl) (vk rfl)) rfl<|Nc rfl<|Zk Zig Zn0 rfl<|Zg Zp 0 rfl<|Nl ?_
   cases h;exact RetOK.turn (Turn.packF 0 2002 (fun v=>(⟨b17,b18,v,b19,(IntKind.i64.wrap (b20 - 1))⟩:exec_run_o2)) (by decide) rfl rfl) (Z2d (i:=0) Tryz.results314 rfl rfl)
  | cons x23 l22=>
   unfold Zcv at h
   refine SR<|Ac (Zj rfl rfl (vt rfl) (vt rfl)) rfl<|Nl<|sq<|Cn rfl (fun hc=>?_) (fun hc=>absurd hsf1.cons (of_decide_eq_false hc))
   have hlti21:=of_decide_eq_true hc
   refine sk<|sq<|bk<|SR<|Ac (Z0k rfl rfl Z11 (vt rfl) (vt rfl) hsf1.lget) rfl<|Lp1 Zp rfl<|As rfl<|Nl<|sq ?_
   obtain ⟨x24,hx24,x25,hx25,x26,hx26,b27,hb27,h⟩:=bs4 h
   refine Rg<|Mp rfl<|Zk Z6f Z6z rfl<|Ld Z7l 5 rfl<|Md rfl<|Ac (Z0k rfl rfl Z6d (vt rfl) (vt rfl) hx24) rfl<|Fp Zg5 Zjn rfl<|Lp1 Z2z rfl<|Ac (Z0c (xs:=[.const (Value.slice none 0 0),.tmp 55]) (Zwc _ _ _ hx25) Zts rfl rfl ⟨Z1f,vt rfl,trivial⟩) rfl<|Cl [56] (Zw6 _ _ hx26) e72 rfl<|AOps.packF 0 2002 (fun v=>(⟨b17,b18,v,b19,b20⟩:exec_run_o2)) (by decide) rfl rfl<|Cv rfl (Z1a 0 (xs:=[.tmp 49,.tmp 57]) (hR_exec_run_do _ _ _ _ _ hb27) Y02 rfl rfl ⟨vt rfl,vt rfl,trivial⟩ rfl) fun _u=>AOps.unboxF 0 2002 (by decide) rfl rfl fun v28=>Nl<|Rg<|Mp rfl<|Ld Z17 7 rfl<|Nc rfl<|Zk lexec_run_o2_3 Zhv rfl<|Zg Z17 0 rfl<|Nl<|Rg<|Ac (Z12 (t:=44) rfl rfl (vt rfl) (vk rfl) (vt rfl) hlti21) rfl<|Md rfl<|Nl ?_
   exact ⟨(_,_,_,_,_,_,_,_),Nat.lt_succ_self _,⟨hsf1.next,h⟩,FX rfl⟩
def Z3g:Nat→(Z0w→(List Action)→Option Z0w)×(Z0w→Int→Option Z0w)
 | 0=>((fun _ _=>none),(fun _ _=>none))
 | n+1=>((Zd2 (Z3g n).1 (Z3g n).2),(Zf3 (Z3g n).1 (Z3g n).2))
theorem Y4h:∀n:Nat,(∀(g2 gT:Nat) (x1:Z0w) (a4:(List Action)) (r:Z0w),(Z3g n).1 x1 a4=some r→Con Tryz.prog 239 [Zc g2 (Lens.id Z1r),rd (Z1 Z9) a4] (Z1b g2 gT Z1r (fun v=>(⟨x1.Env,x1.groups,v,x1.header,x1.depth⟩:exec_run_o2)) 111 Z14 x1.out) (fun _:Unit=>top) (fun _=>Z1b g2 gT Z1r (fun v=>(⟨r.Env,r.groups,v,r.header,r.depth⟩:exec_run_o2)) 111 Z14 r.out))∧(∀(g2 gT:Nat) (x1:Z0w) (i4:Int) (r:Z0w),(Z3g n).2 x1 i4=some r→Con Tryz.prog 314 [Zc g2 (Lens.id Z1r),rd (Z0 .i64) i4] (Z1b g2 gT Z1r (fun v=>(⟨x1.Env,x1.groups,v,x1.header,x1.depth⟩:exec_run_o2)) 111 Z14 x1.out) (fun _:Unit=>top) (fun _=>Z1b g2 gT Z1r (fun v=>(⟨r.Env,r.groups,v,r.header,r.depth⟩:exec_run_o2)) 111 Z14 r.out))
 | 0=>⟨(by intros;rename_i h;cases h),(by intros;rename_i h;cases h)⟩
 | n+1=>by
  have ih:=Y4h n
  exact ⟨(Yp6 (Z3g n).1 ih.1 (Z3g n).2 ih.2),(Yw9 (Z3g n).1 ih.1 (Z3g n).2 ih.2)⟩
def Zyt (x1:Z0w)(a4:(List Action)):Option Z0w:=(Z3g Z0s).1 x1 a4
theorem Yot:∀(g2 gT:Nat) (x1:Z0w) (a4:(List Action)) (r:Z0w),Zyt x1 a4=some r→Con Tryz.prog 239 [Zc g2 (Lens.id Z1r),rd (Z1 Z9) a4] (Z1b g2 gT Z1r (fun v=>(⟨x1.Env,x1.groups,v,x1.header,x1.depth⟩:exec_run_o2)) 111 Z14 x1.out) (fun _:Unit=>top) (fun _=>Z1b g2 gT Z1r (fun v=>(⟨r.Env,r.groups,v,r.header,r.depth⟩:exec_run_o2)) 111 Z14 r.out):=(Y4h Z0s).1
def Zfe (l1:(List Group))(x2:Env)(a3:(List Action))(x4:Z16):Option ((List Out)×Z16):=
 (Zyt (⟨x2,l1,[],x4,0⟩:Z0w) a3).bind fun b9=>some (b9.out,b9.header)
theorem Yrs:Q4 Tryz.prog 144 (rd (Z1 Z0d)) (rd Z2s) (rd (Z1 Z9)) (rd (Z3 24 Zn)) (fun r=>Z10 (rd (Z1 Z14) r.1) (rd (Z3 24 Zn) r.2)) Zfe:=fun l1 x2 a3 x4 r h=>I0 Tryz.func144 rfl Tryz.ntmps144 rfl fun w H Z=>by
 unfold Zfe at h
 refine SR<|Cv rfl (Zs 6 rfl rfl (vt rfl)) fun g5=>Cv rfl (Zs 8 rfl rfl (vt rfl)) fun g6=>Ac (Zv (A:=rd (Z1 Z14) []) rfl rfl Z1f) rfl<|Cv rfl (Zm 10 rfl rfl Z53) fun g7=>Nl<|sq<|AW.newnil 2322 111 Z14<|Rg<|Ld Zh9 6 rfl<|Md rfl<|Ld Z17 8 rfl<|Ac (opb (⟨x2,l1,(.slice none 0 0),x4,0⟩:exec_run_o2) Yh6 rfl Ykq (pc Yop (vt rfl)<|pc Ygk (vt rfl)<|pc Ymn (vt rfl)<|pn rfl)) rfl<|Cv rfl (Zs 16 rfl rfl (vt rfl)) fun g8=>Ac (Zv (A:=Zc g8 (Lens.id Z1r)) rfl rfl (vt rfl)) rfl<|Nl<|sq ?_
 obtain ⟨b9,hb9,h⟩:=Z7 h
 refine Rg<|Mp rfl<|Md rfl<|AOps.packF 16 2322 (fun v=>(⟨x2,l1,v,x4,0⟩:exec_run_o2)) (by decide) rfl rfl<|Cv rfl (Z1a 16 (xs:=[.tmp 16,.tmp 17]) (Yot _ _ _ _ _ hb9) Y02 rfl rfl ⟨vt rfl,vt rfl,trivial⟩ rfl) fun _u=>AOps.unboxF 16 2322 (by decide) rfl rfl fun v10=>Nl<|sq<|AR Z00 (by kernel_rfl)<|SMp rfl<|SNc rfl<|SFd Zn7 Zsx rfl<|Sd (lo [21] [16] rfl fun S hs hr=>Zb1 v10 rfl rfl Zj8 (vh hs 21 rfl rfl) (i:=16) ((hr 16 rfl).trans rfl) rfl)<|SMp rfl<|SNc rfl<|SFd lexec_run_o2_3 Zhv rfl<|Zo Z17 16 rfl<|Sd (lo [22] [] rfl fun S hs hr=>Zv (A:=Zb v10) rfl rfl (vh hs 22 rfl rfl))<|SSt Z17 10 rfl<|Sn<|AW.freezes [8,22] 2322 rfl ⟨rfl,rfl,trivial⟩ rfl<|rt ?_
 cases h;exact Z1d Tryz.results144 rfl (Z5 rfl) (Zx rfl (i:=10) rfl Z17)
def Zba (p1:Z34)(l5:(List Action)):Option Z34:=
 (Zfe p1.Switch.Groups p1.env l5 p1.header).bind fun x6=>(Z0v p1.out x6.1).bind fun l8=>some (⟨p1.Switch,p1.env,x6.2,p1.set,l8,p1.path⟩:Z34)
theorem Zz3 (g2 gT:Nat)(p1:Z34)(l5:(List Action))(r:Z34)(h:Zba p1 l5=some r):Con Tryz.prog 71 [Zc g2 (Lens.id Z24),rd (Z1 Z9) l5] (Z5q (fun v2=>Z1b g2 gT Z24 (fun v=>(⟨p1.Switch,p1.env,p1.header,p1.set,v,v2⟩:sem_packet_o4_5)) 111 Z14 p1.out) 40 Z0x p1.path) (fun _:Unit=>top) (fun _=>Z5q (fun v2=>Z1b g2 gT Z24 (fun v=>(⟨r.Switch,r.env,r.header,r.set,v,v2⟩:sem_packet_o4_5)) 111 Z14 r.out) 40 Z0x r.path):=by
 refine Con.intro Tryz.func71 rfl Tryz.ntmps71 rfl fun w H X Z=>?_
 unfold Zba at h
 refine AW.unboxS 0 2005 (by decide) rfl rfl fun v4=>AW.unboxF 0 2004 (by decide) rfl rfl fun v3=>sq ?_
 obtain ⟨x6,hx6,h⟩:=Z7 h
 refine AR Z00 (by kernel_rfl)<|SMp rfl<|SNc rfl<|SFd lsem_packet_o4_5_0 Zsv rfl<|SFd lSwitch_1 Zp6 rfl<|Zo Zet 0 rfl<|SMp rfl<|SNc rfl<|SFd Y9q Ym1 rfl<|Zo Zh9 0 rfl<|Zt rfl<|SMp rfl<|SNc rfl<|SFd lsem_packet_o4_5_2 Zn4 rfl<|Zo Z17 0 rfl<|SCl [11,15,16,20] (Yrs _ _ _ _ _ hx6) Ynj rfl<|Sd (lo [21] [] rfl fun S hs hr=>Zq (A:=Z10 (rd (Z1 Z14) x6.1) (rd (Z3 24 Zn) x6.2)) rfl rfl (vh hs 21 rfl rfl))<|Sd (lo [6] [] rfl fun S hs hr=>Z1c rfl rfl (vh hs 6 rfl rfl))<|Sd (lo [6] [] rfl fun S hs hr=>Z18 rfl rfl (vh hs 6 rfl rfl))<|Sd (Z19 (us:=[(5,Z2t 31 (Z3 24 Zn) (Vector.replicate 24 Z0p))]) (ur:=[]) [] [] rfl fun S hs hr=>Z7k rfl rfl rfl Z53)<|SAs rfl<|Sd (Z19 (us:=[(5,Z2t 31 (Z3 24 Zn) x6.2)]) (ur:=[]) [5,23] [] rfl fun S hs hr=>Z70 rfl rfl Z17 ((hs 5 rfl).trans rfl) (vh hs 23 rfl rfl))<|Sn<|AW.unpackP 5 6 rfl rfl fun g7=>?_
 obtain ⟨l8,hl8,h⟩:=Z7 h
 refine AW.endT<|AR Z00 (by kernel_rfl)<|SMp rfl<|SMp rfl<|SMp rfl<|SNc rfl<|SFd Zs3 Y2f rfl<|Sd (lo [28] [0] rfl fun S hs hr=>Zb1 v3 rfl rfl Zj8 (vh hs 28 rfl rfl) (i:=0) ((hr 0 rfl).trans rfl) rfl)<|Zt rfl<|Sd (Z19 (us:=[(31,Z1p 111 Z14 l8)]) (ur:=[(2004,emp)]) [29,30] [2004] rfl fun S hs hr=>Z8k 2004 hl8 rfl rfl rfl Yau (vh hs 29 rfl rfl) ((hr 2004 rfl).trans rfl) (vh hs 30 rfl rfl))<|Zo Z17 6 rfl<|SNc rfl<|SFd Zs3 Y2f rfl<|Sd (Z19 (us:=[(31,top)]) (ur:=[(0,Z1b g2 gT Z24 (fun v=>((Lens.comp (Lens.id Z24) Zs3)).set (⟨p1.Switch,p1.env,p1.header,p1.set,v3,v4⟩:sem_packet_o4_5) v) 111 Z14 l8)]) [34,31] [0] rfl fun S hs hr=>Zu1 rfl rfl Zj8 (vh hs 34 rfl rfl) ((hr 0 rfl).trans rfl) ((hs 31 rfl).trans rfl))<|SNc rfl<|SFd lsem_packet_o4_5_2 Zn4 rfl<|Sd (Z4a [36,32] [0] rfl fun S hs hr=>Ycg rfl rfl Z17 (vh hs 36 rfl rfl) (i:=0) ((hr 0 rfl).trans rfl) (vh hs 32 rfl rfl))<|Sn<|EndT.unboxF 0 2004 (by decide) rfl rfl fun v9=>EndT.done ?_
 cases h;exact RetOK.turn (Turn.packF 0 2004 (fun v=>(⟨p1.Switch,p1.env,x6.2,p1.set,v,v4⟩:sem_packet_o4_5)) (by decide) rfl rfl) (RetOK.turn (Turn.packS 0 2005 (fun v2=>Z1b g2 gT Z24 (fun v=>(⟨p1.Switch,p1.env,x6.2,p1.set,v,v2⟩:sem_packet_o4_5)) 111 Z14 l8) (by decide) rfl rfl) (Z2d (i:=0) Tryz.results71 rfl rfl))
def Zee (l6:(List Inst))(a5:Int)(l7:(List Out))(l9:(List Place))(b23:Switch)(b24:Env)(b25:Z16)(b26:(List Action)):Option (Int×Bool×Z34):=
 (Z64 l6 1).bind fun x27=>some (x27.1.Table,((x27.2&&(decide (x27.1.Table>a5)))&&(decide (x27.1.Table<4))),(⟨b23,b24,b25,b26,l7,l9⟩:Z34))
def Zgr (l6:(List Inst))(a5:Int)(l7:(List Out))(l9:(List Place))(b19:Switch)(b20:Env)(b21:Z16)(b22:(List Action)):Option (Int×Bool×Z34):=
 (Z64 l6 2).bind fun x29=>(bif x29.2 then (Zc7).bind fun x31=>(Z9f x31 1 x29.1.Value x29.1.Mask).bind fun x32=>(Zgm x32 b21).bind fun x33=>Zee l6 a5 l7 l9 b19 b20 x33 b22 else Zee l6 a5 l7 l9 b19 b20 b21 b22)
def Zid (l6:(List Inst))(a5:Int)(l7:(List Out))(l9:(List Place))(b15:Switch)(b16:Env)(b17:Z16)(b18:(List Action)):Option (Int×Bool×Z34):=
 (Z64 l6 3).bind fun x34=>(bif x34.2 then (Zd3 b18 x34.1.Acts).bind fun x36=>Zgr l6 a5 l7 l9 b15 b16 b17 x36 else Zgr l6 a5 l7 l9 b15 b16 b17 b18)
def Zgn (l6:(List Inst))(a5:Int)(l7:(List Out))(l9:(List Place))(b11:Switch)(b12:Env)(b13:Z16)(b14:(List Action)):Option (Int×Bool×Z34):=
 (Z64 l6 5).bind fun x37=>(bif x37.2 then Zid l6 a5 l7 l9 b11 b12 b13 [] else Zid l6 a5 l7 l9 b11 b12 b13 b14)
def Zib (p1:Z34)(a5:Int)(l6:(List Inst)):Option (Int×Bool×Z34):=
 (Z64 l6 4).bind fun x39=>(bif x39.2 then (Zba (⟨p1.Switch,p1.env,p1.header,p1.set,p1.out,p1.path⟩:Z34) x39.1.Acts).bind fun b41=>Zgn l6 a5 b41.out b41.path b41.Switch b41.env b41.header b41.set else Zgn l6 a5 p1.out p1.path p1.Switch p1.env p1.header p1.set)
theorem Yu2 (g2 gT:Nat)(p1:Z34)(a5:Int)(l6:(List Inst))(r:(Int×Bool×Z34))(h:Zib p1 a5 l6=some r):Con Tryz.prog 70 [Zc g2 (Lens.id Z24),rd (Z0 .i64) a5,rd (Z1 Z0a) l6] (Z5q (fun v2=>Z1b g2 gT Z24 (fun v=>(⟨p1.Switch,p1.env,p1.header,p1.set,v,v2⟩:sem_packet_o4_5)) 111 Z14 p1.out) 40 Z0x p1.path) (fun _:Unit=>Z10 (rd (Z0 .i64) r.1) (rd Z6 r.2.1)) (fun _=>Z5q (fun v2=>Z1b g2 gT Z24 (fun v=>(⟨r.2.2.Switch,r.2.2.env,r.2.2.header,r.2.2.set,v,v2⟩:sem_packet_o4_5)) 111 Z14 r.2.2.out) 40 Z0x r.2.2.path):=by
 refine Con.intro Tryz.func70 rfl Tryz.ntmps70 rfl fun w H X Z=>?_
 unfold Zib at h
 refine AW.unboxS 0 2005 (by decide) rfl rfl fun v4=>AW.unboxF 0 2004 (by decide) rfl rfl fun v3=>SR<|Ak rfl<|Ab rfl<|Nl ?_
 refine JN (d:=[]) (ν:=(List Out)×(List Place)×Switch×Env×Z16×(List Action)×Value×Value) (fun (l7,l9,b11,b12,b13,b14,v8,v10)=>(Zgn l6 a5 l7 l9 b11 b12 b13 b14=some r,[(0,Zc g2 (Lens.id Z24)),(1,rd (Z0 .i64) a5),(2,rd (Z1 Z0a) l6)],[(0,Zh g2 gT Z24 (⟨b11,b12,b13,b14,v8,v10⟩:sem_packet_o4_5)),(2004,Zf v8 111 Z14 l7),(2005,Zf v10 40 Z0x l9)])) ?hx1 ?hy1
 case hy1=>
  rintro ⟨l7,l9,b11,b12,b13,b14,v8,v10⟩ h
  dsimp only at h ⊢
  unfold Zgn at h
  refine JN (d:=[]) (ν:=Switch×Env×Z16×(List Action)) (fun (b15,b16,b17,b18)=>(Zid l6 a5 l7 l9 b15 b16 b17 b18=some r,[(0,Zc g2 (Lens.id Z24)),(1,rd (Z0 .i64) a5),(2,rd (Z1 Z0a) l6)],[(0,Zh g2 gT Z24 (⟨b15,b16,b17,b18,v8,v10⟩:sem_packet_o4_5)),(2004,Zf v8 111 Z14 l7),(2005,Zf v10 40 Z0x l9)])) ?hx2 ?hy2
  case hy2=>
   rintro ⟨b15,b16,b17,b18⟩ h
   dsimp only at h ⊢
   unfold Zid at h
   refine JN (d:=[]) (ν:=Switch×Env×Z16×(List Action)) (fun (b19,b20,b21,b22)=>(Zgr l6 a5 l7 l9 b19 b20 b21 b22=some r,[(0,Zc g2 (Lens.id Z24)),(1,rd (Z0 .i64) a5),(2,rd (Z1 Z0a) l6)],[(0,Zh g2 gT Z24 (⟨b19,b20,b21,b22,v8,v10⟩:sem_packet_o4_5)),(2004,Zf v8 111 Z14 l7),(2005,Zf v10 40 Z0x l9)])) ?hx3 ?hy3
   case hy3=>
    rintro ⟨b19,b20,b21,b22⟩ h
    dsimp only at h ⊢
    unfold Zgr at h
    refine JN (d:=[]) (ν:=Switch×Env×Z16×(List Action)) (fun (b23,b24,b25,b26)=>(Zee l6 a5 l7 l9 b23 b24 b25 b26=some r,[(1,rd (Z0 .i64) a5),(2,rd (Z1 Z0a) l6)],[(0,Zh g2 gT Z24 (⟨b23,b24,b25,b26,v8,v10⟩:sem_packet_o4_5)),(2004,Zf v8 111 Z14 l7),(2005,Zf v10 40 Z0x l9)])) ?hx4 ?hy4
    case hy4=>
     rintro ⟨b23,b24,b25,b26⟩ h
     dsimp only at h ⊢
     unfold Zee at h
     refine sq ?_
     obtain ⟨x27,hx27,h⟩:=Z7 h
     refine Rg<|Md rfl<|Ac (Z0c (xs:=[.tmp 74,.const (Value.int IntKind.i64 1)]) (Z8n _ _ _ hx27) Z8m rfl rfl ⟨vt rfl,vk rfl,trivial⟩) rfl<|Mt2 rfl<|Ac (Z1c rfl rfl (vt rfl)) rfl<|Ac (Z18 rfl rfl (vt rfl)) rfl<|Cv rfl (Zm 17 rfl rfl Z3f) fun g28=>Zg Z25 17 rfl<|As rfl<|Nl<|sq<|AR Z00 (by kernel_rfl)<|SFd Z73 Z87 rfl<|Zo Zp 17 rfl<|Zt rfl<|Zt rfl<|Sd (lg [16,81] [] rfl fun hq S hs hr=>Z2n Z73 rfl rfl Z87 (vh hs 16 rfl rfl))<|Sd (lg [82,81] [17] rfl fun hq S hs hr=>Z1s rfl rfl Zp (Zi ((hs 82 rfl).trans rfl) hq) (i:=17) ((hr 17 rfl).trans rfl))<|Sd (lg [1,81] [] rfl fun hq S hs hr=>Zq (A:=rd (Z0 .i64) a5) rfl rfl (vh hs 1 rfl rfl))<|Sd (lg [83,84,81] [] rfl fun hq S hs hr=>Z2m rfl rfl (Zi ((hs 83 rfl).trans rfl) hq) (Zi ((hs 84 rfl).trans rfl) hq))<|Sd (lo [85,81] [] rfl fun S hs hr=>Z1k rfl rfl (vh hs 81 rfl rfl) (vh hs 85 rfl rfl))<|Zt rfl<|Sd (lg [16,87] [] rfl fun hq S hs hr=>Z2n Z73 rfl rfl Z87 (vh hs 16 rfl rfl))<|Sd (lg [88,87] [17] rfl fun hq S hs hr=>Z1s rfl rfl Zp (Zi ((hs 88 rfl).trans rfl) hq) (i:=17) ((hr 17 rfl).trans rfl))<|Sd (lg [89,87] [] rfl fun hq S hs hr=>Zj rfl rfl (Zi ((hs 89 rfl).trans rfl) hq) (vk rfl))<|Sd (lo [90,87] [] rfl fun S hs hr=>Z1k rfl rfl (vh hs 87 rfl rfl) (vh hs 90 rfl rfl))<|SAs rfl<|SAs rfl<|Sn<|rt ?_
     cases h;exact RetOK.turn (Turn.packF 0 2004 (fun v=>(⟨b23,b24,b25,b26,v,v10⟩:sem_packet_o4_5)) (by decide) rfl rfl) (RetOK.turn (Turn.packS 0 2005 (fun v2=>Z1b g2 gT Z24 (fun v=>(⟨b23,b24,b25,b26,v,v2⟩:sem_packet_o4_5)) 111 Z14 l7) (by decide) rfl rfl) (Yql (i:=0) Tryz.results70 rfl (Z5 rfl) (Z5 rfl) rfl))
    case hx4=>
     refine sq ?_
     obtain ⟨x29,hx29,h⟩:=Z7 h
     refine Rg<|Md rfl<|Ac (Z0c (xs:=[.tmp 54,.const (Value.int IntKind.i64 2)]) (Z8n _ _ _ hx29) Z8m rfl rfl ⟨vt rfl,vk rfl,trivial⟩) rfl<|Mt2 rfl<|Ac (Z1c rfl rfl (vt rfl)) rfl<|Ac (Z18 rfl rfl (vt rfl)) rfl<|Cv rfl (Zm 15 rfl rfl Z3f) fun g30=>Zg Z25 15 rfl<|As rfl<|Nl<|SR<|Md rfl<|Nl<|Cq rfl h (fun h=>?_) (fun h=>?_)
     ·obtain ⟨x31,hx31,x32,hx32,x33,hx33,h⟩:=bs3 h
      refine AR Z00 (by kernel_rfl)<|SMp rfl<|SCl [] (Ztj _ hx31) Zta rfl<|SFd Zrk Zuh rfl<|Zo Zw 15 rfl<|SFd Zon Zyf rfl<|Zo Zw 15 rfl<|Sd (lo [60,62,64] [] rfl fun S hs hr=>Z0c (xs:=[.tmp 60,.const (Value.int IntKind.i64 1),.tmp 62,.tmp 64]) (Zi5 _ _ _ _ _ hx32) Zhf rfl rfl ⟨vt ((hs 60 rfl).trans rfl),vk rfl,vt ((hs 62 rfl).trans rfl),vt ((hs 64 rfl).trans rfl),trivial⟩)<|SMp rfl<|SNc rfl<|SFd lsem_packet_o4_5_2 Zn4 rfl<|Zo Z17 0 rfl<|SCl [65,69] (Ya5 _ _ _ hx33) Y0w rfl<|SNc rfl<|SFd lsem_packet_o4_5_2 Zn4 rfl<|SSt Z17 0 rfl<|Sn ?_
      exact ⟨(_,_,_,_),h,FX rfl⟩
     ·refine sk ?_
      exact ⟨(_,_,_,_),h,FX rfl⟩
   case hx3=>
    refine sq ?_
    obtain ⟨x34,hx34,h⟩:=Z7 h
    refine Rg<|Md rfl<|Ac (Z0c (xs:=[.tmp 38,.const (Value.int IntKind.i64 3)]) (Z8n _ _ _ hx34) Z8m rfl rfl ⟨vt rfl,vk rfl,trivial⟩) rfl<|Mt2 rfl<|Ac (Z1c rfl rfl (vt rfl)) rfl<|Ac (Z18 rfl rfl (vt rfl)) rfl<|Cv rfl (Zm 13 rfl rfl Z3f) fun g35=>Zg Z25 13 rfl<|As rfl<|Nl<|SR<|Md rfl<|Nl<|Cq rfl h (fun h=>?_) (fun h=>?_)
    ·obtain ⟨x36,hx36,h⟩:=Z7 h
     refine AR Z00 (by kernel_rfl)<|SMp rfl<|SMp rfl<|SNc rfl<|SFd Zlx Zpl rfl<|Zo Z2z 0 rfl<|SFd Z60 Z6w rfl<|Zo Z2z 13 rfl<|SCl [47,49] (Zwc _ _ _ hx36) Zts rfl<|SNc rfl<|SFd Zlx Zpl rfl<|SSt Z2z 0 rfl<|Sn ?_
     exact ⟨(_,_,_,_),h,FX rfl⟩
    ·refine sk ?_
     exact ⟨(_,_,_,_),h,FX rfl⟩
  case hx2=>
   refine sq ?_
   obtain ⟨x37,hx37,h⟩:=Z7 h
   refine Rg<|Md rfl<|Ac (Z0c (xs:=[.tmp 29,.const (Value.int IntKind.i64 5)]) (Z8n _ _ _ hx37) Z8m rfl rfl ⟨vt rfl,vk rfl,trivial⟩) rfl<|Mt2 rfl<|Ac (Z1c rfl rfl (vt rfl)) rfl<|Ac (Z18 rfl rfl (vt rfl)) rfl<|Cv rfl (Zm 11 rfl rfl Z3f) fun g38=>Zg Z25 11 rfl<|As rfl<|Nl<|SR<|Md rfl<|Nl<|Cq rfl h (fun h=>?_) (fun h=>?_)
   ·refine Rg<|Mp rfl<|Nc rfl<|Zk Zlx Zpl rfl<|Ac (Z6y rfl rfl Z2z (vt rfl) (i:=0) rfl Z1f) rfl<|Nl ?_
    exact ⟨(_,_,_,_),h,FX rfl⟩
   ·refine sk ?_
    exact ⟨(_,_,_,_),h,FX rfl⟩
 case hx1=>
  refine sq ?_
  obtain ⟨x39,hx39,h⟩:=Z7 h
  refine Rg<|Md rfl<|Ac (Z0c (xs:=[.tmp 19,.const (Value.int IntKind.i64 4)]) (Z8n _ _ _ hx39) Z8m rfl rfl ⟨vt rfl,vk rfl,trivial⟩) rfl<|Mt2 rfl<|Ac (Z1c rfl rfl (vt rfl)) rfl<|Ac (Z18 rfl rfl (vt rfl)) rfl<|Cv rfl (Zm 9 rfl rfl Z3f) fun g40=>Zg Z25 9 rfl<|As rfl<|Nl<|SR<|Md rfl<|Nl<|Cq rfl h (fun h=>?_) (fun h=>?_)
  ·obtain ⟨b41,hb41,h⟩:=Z7 h
   refine Rg<|Mp rfl<|Zk Z60 Z6w rfl<|Ld Z2z 9 rfl<|AOps.packF 0 2004 (fun v=>(⟨p1.Switch,p1.env,p1.header,p1.set,v,v4⟩:sem_packet_o4_5)) (by decide) rfl rfl<|AOps.packS 0 2005 (fun v2=>Z1b g2 gT Z24 (fun v=>(⟨p1.Switch,p1.env,p1.header,p1.set,v,v2⟩:sem_packet_o4_5)) 111 Z14 p1.out) (by decide) rfl rfl<|Cv rfl (Z1a 0 (xs:=[.tmp 24,.tmp 26]) (Zz3 _ _ _ _ _ hb41) e71 rfl rfl ⟨vt rfl,vt rfl,trivial⟩ rfl) fun _u=>AOps.unboxS 0 2005 (by decide) rfl rfl fun v43=>AOps.unboxF 0 2004 (by decide) rfl rfl fun v42=>Nl ?_
   exact ⟨(_,_,_,_,_,_,_,_),h,FX rfl⟩
  ·refine sk ?_
   exact ⟨(_,_,_,_,_,_,_,_),h,FX rfl⟩
def Zf0:Nat→(List Out)→(List Place)→Switch→Env→Z16→(List Action)→Int→Option Z34
 | 0,_,_,_,_,_,_,_=>none
 | m23+1,l14,l16,b18,b19,b20,b21,a22=>(chk 4 a22).bind fun j24=>(Zmb (Vector.get b18.Tables j24) b20).bind fun x25=>(bif (!x25.2) then (Z0v l16 [(⟨a22,(-1)⟩:Place)]).bind fun l26=>some (⟨b18,b19,b20,b21,l14,l26⟩:Z34) else (Z0v l16 [(⟨a22,x25.1⟩:Place)]).bind fun l28=>(chk 4 a22).bind fun j30=>(lget (Vector.get b18.Tables j30) x25.1).bind fun x31=>(Zib (⟨b18,b19,b20,b21,l14,l28⟩:Z34) a22 x31.Insts).bind fun b32=>(bif (!b32.2.1) then (Z89 b32.2.2.set).bind fun x35=>(Zba (⟨b32.2.2.Switch,b32.2.2.env,b32.2.2.header,b32.2.2.set,b32.2.2.out,b32.2.2.path⟩:Z34) x35).bind fun b36=>some (⟨b36.Switch,b36.env,b36.header,b36.set,b36.out,b36.path⟩:Z34) else (Zf0 m23) b32.2.2.out b32.2.2.path b32.2.2.Switch b32.2.2.env b32.2.2.header b32.2.2.set b32.1))
def Zqe (p1:Z34):Option Z34:=
 Zf0 Z0s p1.out p1.path p1.Switch p1.env p1.header p1.set 0
theorem Ycw (g2 gT:Nat)(p1:Z34)(r:Z34)(h:Zqe p1=some r):Con Tryz.prog 32 [Zc g2 (Lens.id Z24)] (Z5q (fun v2=>Z1b g2 gT Z24 (fun v=>(⟨p1.Switch,p1.env,p1.header,p1.set,v,v2⟩:sem_packet_o4_5)) 111 Z14 p1.out) 40 Z0x p1.path) (fun _:Unit=>top) (fun _=>Z5q (fun v2=>Z1b g2 gT Z24 (fun v=>(⟨r.Switch,r.env,r.header,r.set,v,v2⟩:sem_packet_o4_5)) 111 Z14 r.out) 40 Z0x r.path):=by
 refine Con.intro Tryz.func32 rfl Tryz.ntmps32 rfl fun w H X Z=>?_
 unfold Zqe at h
 refine AW.unboxS 0 2005 (by decide) rfl rfl fun v4=>AW.unboxF 0 2004 (by decide) rfl rfl fun v3=>AW.scope<|SR<|Ak rfl<|Nl<|sq<|AW.label<|bk<|LG (d:=[]) (ν:=Nat×(List Out)×(List Place)×Switch×Env×Z16×(List Action)×Int×Value×Value) (fun (m23,l14,l16,b18,b19,b20,b21,a22,v15,v17)=>(True∧Zf0 m23 l14 l16 b18 b19 b20 b21 a22=some r,m23,[(0,Zc g2 (Lens.id Z24)),(2,rd (Z0 .i64) a22)],[(0,Zh g2 gT Z24 (⟨b18,b19,b20,b21,v15,v17⟩:sem_packet_o4_5)),(2004,Zf v15 111 Z14 l14),(2005,Zf v17 40 Z0x l16)])) (Z0s,p1.out,p1.path,p1.Switch,p1.env,p1.header,p1.set,0,v3,v4) ⟨trivial,h⟩ (FX rfl) ?_
 rintro ⟨m23,l14,l16,b18,b19,b20,b21,a22,v15,v17⟩ ⟨hsf1,h⟩
 dsimp only at h ⊢
 cases m23 with
 | zero=>cases h
 | succ m23=>
  unfold Zf0 at h
  refine bk<|sq ?_
  obtain ⟨j24,hj24,x25,hx25,h⟩:=bs2 h
  refine AR Z00 (by kernel_rfl)<|SMp rfl<|Zt rfl<|SNc rfl<|SFd lsem_packet_o4_5_0 Zsv rfl<|SFd Z4n Z4u rfl<|Sd (lo [12,9] [] rfl fun S hs hr=>Z13 rfl rfl Z51 (vh hs 12 rfl rfl) (vh hs 9 rfl rfl) hj24)<|Zo Z38 0 rfl<|SMp rfl<|SNc rfl<|SFd lsem_packet_o4_5_2 Zn4 rfl<|Zo Z17 0 rfl<|SCl [14,18] (Yqn _ _ _ hx25) e69 rfl<|Sd (lo [19] [] rfl fun S hs hr=>Zq (A:=Z10 (rd (Z0 .i64) x25.1) (rd Z6 x25.2)) rfl rfl (vh hs 19 rfl rfl))<|Sd (lo [7] [] rfl fun S hs hr=>Z1c rfl rfl (vh hs 7 rfl rfl))<|Sd (lo [7] [] rfl fun S hs hr=>Z18 rfl rfl (vh hs 7 rfl rfl))<|SAs rfl<|SAs rfl<|Sn<|sq<|SR<|Md rfl<|Ac (Z0y rfl rfl (vt rfl)) rfl<|Nl<|Cq rfl h (fun h=>?_) (fun h=>?_)
  ·refine sq ?_
   obtain ⟨l26,hl26,h⟩:=Z7 h
   refine Rg<|Mp rfl<|Mp rfl<|Nc rfl<|Zk Zj5 Zmt rfl<|Ac (Zb1 v17 rfl rfl Zkf (vt rfl) (i:=0) rfl rfl) rfl<|Md rfl<|Ac (opb (⟨a22,(-1)⟩:Place) Z48 rfl Z7z (pc Zar (vt rfl)<|pc Z9y (vk rfl)<|pn rfl)) rfl<|Ac (osl Z6k Z48 rfl (vt rfl)) rfl<|Cv rfl (Z29 2005 hl26 rfl rfl Zsz (vt rfl) rfl (vt rfl)) fun v27=>Nc rfl<|Zk Zj5 Zmt rfl<|Ac (Z6y rfl rfl Zkf (vt rfl) (i:=0) rfl (Zww (i:=2005) rfl rfl)) rfl<|Nl<|xt ?_
   cases h;exact RetOK.turn (Turn.packF 0 2004 (fun v=>(⟨b18,b19,b20,b21,v,v27⟩:sem_packet_o4_5)) (by decide) rfl rfl) (RetOK.turn (Turn.packS 0 2005 (fun v2=>Z1b g2 gT Z24 (fun v=>(⟨b18,b19,b20,b21,v,v2⟩:sem_packet_o4_5)) 111 Z14 l14) (by decide) rfl rfl) (Z2d (i:=0) Tryz.results32 rfl rfl))
  ·refine sk<|sq ?_
   obtain ⟨l28,hl28,h⟩:=Z7 h
   refine Rg<|Mp rfl<|Mp rfl<|Nc rfl<|Zk Zj5 Zmt rfl<|Ac (Zb1 v17 rfl rfl Zkf (vt rfl) (i:=0) rfl rfl) rfl<|Md rfl<|Md rfl<|Ac (opb (⟨a22,x25.1⟩:Place) Z48 rfl Z7z (pc Zar (vt rfl)<|pc Z9y (vt rfl)<|pn rfl)) rfl<|Ac (osl Z6k Z48 rfl (vt rfl)) rfl<|Cv rfl (Z29 2005 hl28 rfl rfl Zsz (vt rfl) rfl (vt rfl)) fun v29=>Nc rfl<|Zk Zj5 Zmt rfl<|Ac (Z6y rfl rfl Zkf (vt rfl) (i:=0) rfl (Zww (i:=2005) rfl rfl)) rfl<|Nl<|sq ?_
   obtain ⟨j30,hj30,x31,hx31,b32,hb32,h⟩:=bs3 h
   refine Rg<|Mp rfl<|Md rfl<|Mp rfl<|Md rfl<|Nc rfl<|Zk lsem_packet_o4_5_0 Zsv rfl<|Zk Z4n Z4u rfl<|Ac (Z13 rfl rfl Z51 (vt rfl) (vt rfl) hj30) rfl<|Ld Z38 0 rfl<|Md rfl<|Ac (Z0k rfl rfl Z2e (vt rfl) (vt rfl) hx31) rfl<|Fp lFlow_6 Z8h rfl<|Lp1 Z5v rfl<|AOps.packF 0 2004 (fun v=>(⟨b18,b19,b20,b21,v,v29⟩:sem_packet_o4_5)) (by decide) rfl rfl<|AOps.packS 0 2005 (fun v2=>Z1b g2 gT Z24 (fun v=>(⟨b18,b19,b20,b21,v,v2⟩:sem_packet_o4_5)) 111 Z14 l14) (by decide) rfl rfl<|Cv rfl (Z1a 0 (xs:=[.tmp 48,.tmp 49,.tmp 60]) (Yu2 _ _ _ _ _ _ hb32) e70 rfl rfl ⟨vt rfl,vt rfl,vt rfl,trivial⟩ rfl) fun _u=>AOps.unboxS 0 2005 (by decide) rfl rfl fun v34=>AOps.unboxF 0 2004 (by decide) rfl rfl fun v33=>Mt2 rfl<|Ac (Z1c rfl rfl (vt rfl)) rfl<|Ac (Z18 rfl rfl (vt rfl)) rfl<|As rfl<|As rfl<|Nl<|sq<|SR<|Md rfl<|Ac (Z0y rfl rfl (vt rfl)) rfl<|Nl<|Cq rfl h (fun h=>?_) (fun h=>?_)
   ·refine sq ?_
    obtain ⟨x35,hx35,b36,hb36,h⟩:=bs2 h
    refine Rg<|Mp rfl<|Mp rfl<|Nc rfl<|Zk Zlx Zpl rfl<|Ld Z2z 0 rfl<|Cl [70] (Zw6 _ _ hx35) e72 rfl<|AOps.packF 0 2004 (fun v=>(⟨b32.2.2.Switch,b32.2.2.env,b32.2.2.header,b32.2.2.set,v,v34⟩:sem_packet_o4_5)) (by decide) rfl rfl<|AOps.packS 0 2005 (fun v2=>Z1b g2 gT Z24 (fun v=>(⟨b32.2.2.Switch,b32.2.2.env,b32.2.2.header,b32.2.2.set,v,v2⟩:sem_packet_o4_5)) 111 Z14 b32.2.2.out) (by decide) rfl rfl<|Cv rfl (Z1a 0 (xs:=[.tmp 66,.tmp 71]) (Zz3 _ _ _ _ _ hb36) e71 rfl rfl ⟨vt rfl,vt rfl,trivial⟩ rfl) fun _u=>AOps.unboxS 0 2005 (by decide) rfl rfl fun v38=>AOps.unboxF 0 2004 (by decide) rfl rfl fun v37=>Nl<|xt ?_
    cases h;exact RetOK.turn (Turn.packF 0 2004 (fun v=>(⟨b36.Switch,b36.env,b36.header,b36.set,v,v38⟩:sem_packet_o4_5)) (by decide) rfl rfl) (RetOK.turn (Turn.packS 0 2005 (fun v2=>Z1b g2 gT Z24 (fun v=>(⟨b36.Switch,b36.env,b36.header,b36.set,v,v2⟩:sem_packet_o4_5)) 111 Z14 b36.out) (by decide) rfl rfl) (Z2d (i:=0) Tryz.results32 rfl rfl))
   ·refine sk<|Rg<|Md rfl<|As rfl<|Nl ?_
    exact ⟨(_,_,_,_,_,_,_,_,_,_),Nat.lt_succ_self _,⟨trivial,h⟩,FX rfl⟩
def Zm7 (s1:Switch)(x2:Z16):Option (List Place):=
 (Zqe (⟨s1,Z6b,x2,[],[],[]⟩:Z34)).bind fun b6=>some b6.path
theorem Yq2:Q2 Tryz.prog 12 (rd Z08) (rd (Z3 24 Zn)) (rd (Z1 Z0x)) Zm7:=fun s1 x2 r h=>I0 Tryz.func12 rfl Tryz.ntmps12 rfl fun w H Z=>by
 unfold Zm7 at h
 refine SR<|Cv rfl (Zs 3 rfl rfl (vt rfl)) fun g3=>Cv rfl (Zs 4 rfl rfl (vt rfl)) fun g4=>Ac (Zv (A:=rd (Z1 Z0x) []) rfl rfl Z1f) rfl<|Nl<|sq<|AW.newnil 2204 111 Z14<|AW.newnil 2205 40 Z0x<|Rg<|Ld Z20 3 rfl<|Ld Z17 4 rfl<|Ac (opb (⟨s1,Z6b,x2,[],(.slice none 0 0),(.slice none 0 0)⟩:sem_packet_o4_5) Yn5 rfl Yfc (pc Yrp (vt rfl)<|pc Ygi (vt rfl)<|pn rfl)) rfl<|Cv rfl (Zs 10 rfl rfl (vt rfl)) fun g5=>Ac (Zv (A:=Zc g5 (Lens.id Z24)) rfl rfl (vt rfl)) rfl<|Nl<|sq ?_
 obtain ⟨b6,hb6,h⟩:=Z7 h
 refine Rg<|Mp rfl<|AOps.packF 10 2204 (fun v=>(⟨s1,Z6b,x2,[],v,(.slice none 0 0)⟩:sem_packet_o4_5)) (by decide) rfl rfl<|AOps.packS 10 2205 (fun v2=>Z1b g5 79 Z24 (fun v=>(⟨s1,Z6b,x2,[],v,v2⟩:sem_packet_o4_5)) 111 Z14 []) (by decide) rfl rfl<|Cv rfl (Z1a 10 (xs:=[.tmp 10]) (Ycw _ _ _ _ hb6) e32 rfl rfl ⟨vt rfl,trivial⟩ rfl) fun _u=>AOps.unboxS 10 2205 (by decide) rfl rfl fun v8=>AOps.unboxF 10 2204 (by decide) rfl rfl fun v7=>Nl<|SR<|Mp rfl<|Nc rfl<|Zk Zj5 Zmt rfl<|Ac (Zb1 v8 rfl rfl Zkf (vt rfl) (i:=10) rfl rfl) rfl<|Aw rfl<|Nl<|AW.freezes [4,15] 2205 rfl ⟨rfl,rfl,trivial⟩ rfl<|rt ?_
 cases h;exact Zd Tryz.results12 rfl (Z5 rfl)
def Zf2 (go1:Nat→(List (Place×Int))→Option ((List (Place×Int))×Int))(i9:Nat):(List Place)→Nat→(List (Place×Int))→Option ((List (Place×Int))×Int)
 | [],i16,m15=>go1 (i9+1) m15
 | x18::l17,i16,m15=>(Zf2 go1 i9 l17) (i16+1) (Z1x m15 x18 (IntKind.i64.wrap ((Z0n m15 x18)+1)))
def Z9q (x5:((List Rule)×Int))(m2:Int)(s1:Switch):Nat→Nat→(List (Place×Int))→Option ((List (Place×Int))×Int)
 | 0,i9,m8=>some (m8,0)
 | m10+1,i9,m8=>(Zf9 x5.1 (i9:Int) m2).bind fun x11=>(bif (decide (x11.2.2≠0)) then some ([],x11.2.2) else (Zm7 s1 x11.1).bind fun x13=>Zf2 (Z9q x5 m2 s1 m10) i9 x13 0 m8)
def Ziq (s1:Switch)(m2:Int):Option ((List (Place×Int))×Int):=
 (Zga s1).bind fun x4=>(Zpy x4 m2).bind fun x5=>(bif (decide (x5.2≠0)) then some ([],x5.2) else Z9q x5 m2 s1 ((x5.1.length:Int):Int).toNat 0 [])
theorem Y8s:Q2 Tryz.prog 30 (rd Z08) (rd (Z0 .i64)) (fun r=>Z10 (rd (Z63 Z0x) r.1) (rd (Z0 .i64) r.2)) Ziq:=fun s1 m2 r h=>I0 Tryz.func30 rfl Tryz.ntmps30 rfl fun w H Z=>by
 unfold Ziq at h
 refine SR<|Cv rfl (Zs 3 rfl rfl (vt rfl)) fun g3=>Ac (Zv (A:=rd (Z63 Z0x) []) rfl rfl vnm) rfl<|Ak rfl<|Nl<|sq ?_
 obtain ⟨x4,hx4,x5,hx5,h⟩:=bs2 h
 refine Rg<|Ld Z20 3 rfl<|Cl [16] (Yfs _ _ hx4) e67 rfl<|Md rfl<|Cl [17,18] (Ylr _ _ _ hx5) e66 rfl<|Mt2 rfl<|Ac (Z1c rfl rfl (vt rfl)) rfl<|Ac (Z18 rfl rfl (vt rfl)) rfl<|As rfl<|As rfl<|Nl<|sq<|SR<|Md rfl<|Ac (Z5t rfl rfl (vt rfl) (vk rfl)) rfl<|Nl<|Cq rfl h (fun h=>?_) (fun h=>?_)
 ·refine SR<|Md rfl<|Ac (Zv (A:=rd (Z63 Z0x) []) rfl rfl vnm) rfl<|As rfl<|Nl<|rt ?_
  cases h;exact Z1d Tryz.results30 rfl (Z5 rfl) (Z5 rfl)
 ·refine sk<|SR<|Cv rfl (Zwz Z0x 26 rfl rfl) fun g6=>Aw rfl<|Nl<|sq<|SR<|Md rfl<|Ac (Z0i rfl rfl Z3q (vt rfl)) rfl<|Mk rfl<|Nl<|bk<|LG (d:=[]) (ν:=Nat×Nat×(List (Place×Int))) (fun (m10,i9,m8)=>(Cnt (x5.1.length:Int) i9 m10∧Z9q x5 m2 s1 m10 i9 m8=some r,m10,[(1,rd (Z0 .i64) m2),(2,Zc g3 (Lens.id Z08)),(6,rd (Z1 Z09) x5.1),(8,Zb (.map (some g6))),(27,rd (Z0 .i64) (x5.1.length:Int)),(28,rd (Z0 .i64) (i9:Int))],[(3,Zh g3 26 Z08 s1),(26,Z2g g6 Z0x m8)])) (((x5.1.length:Int):Int).toNat,0,[]) ⟨Cnt.start _,h⟩ (FX rfl) ?_
  rintro ⟨m10,i9,m8⟩ ⟨hsf1,h⟩
  dsimp only at hsf1 h ⊢
  cases m10 with
  | zero=>
   unfold Z9q at h
   refine SR<|Ac (Zj rfl rfl (vt rfl) (vt rfl)) rfl<|Nl<|sq<|Cn rfl (fun hc=>absurd (of_decide_eq_true hc) hsf1.zero) (fun hc=>?_)
   refine xt<|SR<|Mw rfl<|Aw rfl<|Ak rfl<|Nl<|AW.freezeM 4 26 rfl rfl rfl<|rt ?_
   cases h;exact Z1d Tryz.results30 rfl (Z5 rfl) (Z5 rfl)
  | succ m10=>
   unfold Z9q at h
   refine SR<|Ac (Zj rfl rfl (vt rfl) (vt rfl)) rfl<|Nl<|sq<|Cn rfl (fun hc=>?_) (fun hc=>absurd hsf1.succ (of_decide_eq_false hc))
   have hlti9:=of_decide_eq_true hc
   refine sk<|sq<|bk<|SR<|Md rfl<|As rfl<|Nl<|sq ?_
   obtain ⟨x11,hx11,h⟩:=Z7 h
   refine Rg<|Md rfl<|Md rfl<|Md rfl<|Cl [32,33,34] (Ydd _ _ _ _ hx11) e68 rfl<|Ac (Zq (A:=Z49 (rd (Z3 24 Zn) x11.1) (rd Z6 x11.2.1) (rd (Z0 .i64) x11.2.2)) rfl rfl (vt rfl)) rfl<|Ac (Zgc rfl rfl (vt rfl)) rfl<|Ac (Zi6 rfl rfl (vt rfl)) rfl<|Ac (Zgo rfl rfl (vt rfl)) rfl<|Cv rfl (Zm 11 rfl rfl Z53) fun g12=>Zg Z17 11 rfl<|As rfl<|As rfl<|Nl<|sq<|SR<|Md rfl<|Ac (Z5t rfl rfl (vt rfl) (vk rfl)) rfl<|Nl<|Cq rfl h (fun h=>?_) (fun h=>?_)
   ·refine SR<|Md rfl<|Ac (Zv (A:=rd (Z63 Z0x) []) rfl rfl vnm) rfl<|As rfl<|Nl<|rt ?_
    cases h;exact Z1d Tryz.results30 rfl (Z5 rfl) (Z5 rfl)
   ·refine sk<|sq ?_
    obtain ⟨x13,hx13,h⟩:=Z7 h
    refine Rg<|Ld Z20 3 rfl<|Ld Z17 11 rfl<|Cl [42,43] (Yq2 _ _ _ hx13) e12 rfl<|Ac (Z0i rfl rfl Z6k (vt rfl)) rfl<|Mk rfl<|Nl<|bk<|LG (d:=[]) (ν:=(List Place)×Nat×(List (Place×Int))) (fun (l17,i16,m15)=>(Sfx x13 i16 l17∧Zf2 (Z9q x5 m2 s1 m10) i9 l17 i16 m15=some r,l17.length,[(1,rd (Z0 .i64) m2),(2,Zc g3 (Lens.id Z08)),(6,rd (Z1 Z09) x5.1),(8,Zb (.map (some g6))),(27,rd (Z0 .i64) (x5.1.length:Int)),(28,rd (Z0 .i64) (i9:Int)),(44,rd (Z1 Z0x) x13),(45,rd (Z0 .i64) (x13.length:Int)),(46,rd (Z0 .i64) (i16:Int))],[(3,Zh g3 26 Z08 s1),(26,Z2g g6 Z0x m15)])) (x13,0,m8) ⟨Sfx.start _,h⟩ (FX rfl) ?_
    rintro ⟨l17,i16,m15⟩ ⟨hsf2,h⟩
    dsimp only at hsf2 h ⊢
    cases l17 with
    | nil=>
     unfold Zf2 at h
     refine SR<|Ac (Zj rfl rfl (vt rfl) (vt rfl)) rfl<|Nl<|sq<|Cn rfl (fun hc=>absurd (of_decide_eq_true hc) hsf2.nil) (fun hc=>?_)
     refine xt<|Rg<|Ac (Z12 (t:=27) rfl rfl (vt rfl) (vk rfl) (vt rfl) hlti9) rfl<|Md rfl<|Nl ?_
     exact ⟨(_,_,_),Nat.lt_succ_self _,⟨hsf1.next,h⟩,FX rfl⟩
    | cons x18 l17=>
     unfold Zf2 at h
     refine SR<|Ac (Zj rfl rfl (vt rfl) (vt rfl)) rfl<|Nl<|sq<|Cn rfl (fun hc=>?_) (fun hc=>absurd hsf2.cons (of_decide_eq_false hc))
     have hlti16:=of_decide_eq_true hc
     refine sk<|sq<|bk<|SR<|Ac (Z0k rfl rfl Z6k (vt rfl) (vt rfl) hsf2.lget) rfl<|Lp1 Z4i rfl<|Cv rfl (Zm 15 rfl rfl Z48) fun g19=>Zg Z4i 15 rfl<|Nl<|AW.mapInc (i:=26) (j1:=15) (t1:=14) (x:=x18) Z00 Zsu rfl rfl rfl rfl rfl rfl rfl (by kernel_rfl) (by kernel_rfl) rfl rfl rfl rfl (fun S2 h2 h3=>Z1s (L:=Lens.id Z0x) rfl rfl Z4i (vt (h2.trans rfl)) (i:=15) (h3.trans rfl)) fun g20=>Rg<|Ac (Z12 (t:=45) rfl rfl (vt rfl) (vk rfl) (vt rfl) hlti16) rfl<|Md rfl<|Nl ?_
     exact ⟨(_,_,_),Nat.lt_succ_self _,⟨hsf2.next,h⟩,FX rfl⟩
end Go.Proofs.YtinplddjjalohaaGreatDoor.W
set_option maxHeartbeats 1000000
set_option maxRecDepth 4000
namespace Go.Proofs.YtinplddjjalohaaGreatDoor.W
open Go Go.Wb
theorem e30:Ent Tryz.prog 30:=Ent.mk Tryz.func30 rfl rfl
theorem e45:Ent Tryz.prog 45:=Ent.mk Tryz.func45 rfl rfl
theorem Y8a:Ent Tryz.prog 115:=Ent.mk Tryz.func115 rfl rfl
theorem Yep:Ent Tryz.prog 182:=Ent.mk Tryz.func182 rfl rfl
theorem Y23:Ent Tryz.prog 176:=Ent.mk Tryz.func176 rfl rfl
def Zad (go1:Nat→(List Place)→Option ((List Place)×Int))(i9:Nat)(x4:((List (Place×Int))×Int)):Nat→Nat→(List Place)→Option ((List Place)×Int)
 | 0,i16,l14=>go1 (i9+1) l14
 | m17+1,i16,l14=>(bif (decide ((Z0n x4.1 (⟨(i9:Int),(i16:Int)⟩:Place))=0)) then (Z0v l14 [(⟨(i9:Int),(i16:Int)⟩:Place)]).bind fun l19=>(Zad go1 i9 x4 m17) (i16+1) l19 else (Zad go1 i9 x4 m17) (i16+1) l14)
def Z9w (x4:((List (Place×Int))×Int)):(List (List Flow))→Nat→(List Place)→Option ((List Place)×Int)
 | [],i9,l7=>some (l7,0)
 | x11::l10,i9,l7=>Zad (Z9w x4 l10) i9 x4 ((x11.length:Int):Int).toNat 0 l7
def Zfi (s1:Switch)(m2:Int):Option ((List Place)×Int):=
 (Ziq s1 m2).bind fun x4=>(bif (decide (x4.2≠0)) then some ([],x4.2) else Z9w x4 (Vector.toList s1.Tables) 0 [])
theorem Y69:Q2 Tryz.prog 10 (rd Z08) (rd (Z0 .i64)) (fun r=>Z10 (rd (Z1 Z0x) r.1) (rd (Z0 .i64) r.2)) Zfi:=fun s1 m2 r h=>I0 Tryz.func10 rfl Tryz.ntmps10 rfl fun w H Z=>by
 unfold Zfi at h
 refine SR<|Cv rfl (Zs 3 rfl rfl (vt rfl)) fun g3=>Ac (Zv (A:=rd (Z1 Z0x) []) rfl rfl Z1f) rfl<|Ak rfl<|Nl<|sq ?_
 obtain ⟨x4,hx4,h⟩:=Z7 h
 refine Rg<|Ld Z20 3 rfl<|Md rfl<|Cl [14,15] (Y8s _ _ _ hx4) e30 rfl<|Mt2 rfl<|Ac (Z1c rfl rfl (vt rfl)) rfl<|Ac (Z18 rfl rfl (vt rfl)) rfl<|As rfl<|As rfl<|Nl<|sq<|SR<|Md rfl<|Ac (Z5t rfl rfl (vt rfl) (vk rfl)) rfl<|Nl<|Cq rfl h (fun h=>?_) (fun h=>?_)
 ·refine SR<|Md rfl<|Ac (Zv (A:=rd (Z1 Z0x) []) rfl rfl Z1f) rfl<|As rfl<|Nl<|rt ?_
  cases h;exact Z1d Tryz.results10 rfl (Z5 rfl) (Z5 rfl)
 ·refine sk<|sq<|AW.newnil 1001 40 Z0x<|Rg<|Ac (Zv rfl rfl vc) rfl<|Nl<|sq<|SR<|Zk Z4n Z4u rfl<|Ld Zuo 3 rfl<|Mk rfl<|Nl<|bk<|LG (d:=[]) (ν:=(List (List Flow))×Nat×(List Place)×Value) (fun (l10,i9,l7,v8)=>(Sfx (Vector.toList s1.Tables) i9 l10∧Z9w x4 l10 i9 l7=some r,l10.length,[(6,rd (Z63 Z0x) x4.1),(8,Zb v8),(23,rd (Z3 4 (Z1 Z03)) s1.Tables),(24,rd (Z0 .i64) (i9:Int))],[(1001,Zf v8 40 Z0x l7)])) ((Vector.toList s1.Tables),0,[],(.slice none 0 0)) ⟨Sfx.start _,h⟩ (FX rfl) ?_
  rintro ⟨l10,i9,l7,v8⟩ ⟨hsf1,h⟩
  dsimp only at hsf1 h ⊢
  cases l10 with
  | nil=>
   unfold Z9w at h
   refine SR<|Ac (Zj rfl rfl (vt rfl) (vk rfl)) rfl<|Nl<|sq<|Cn rfl (fun hc=>absurd (of_decide_eq_true hc) (hsf1.niln (by simp))) (fun hc=>?_)
   refine xt<|SR<|Mw rfl<|Aw rfl<|Ak rfl<|Nl<|AW.freezes [4,8,46] 1001 rfl ⟨rfl,rfl,rfl,trivial⟩ rfl<|rt ?_
   cases h;exact Z1d Tryz.results10 rfl (Z5 rfl) (Z5 rfl)
  | cons x11 l10=>
   unfold Z9w at h
   refine SR<|Ac (Zj rfl rfl (vt rfl) (vk rfl)) rfl<|Nl<|sq<|Cn rfl (fun hc=>?_) (fun hc=>absurd (hsf1.consn (by simp)) (of_decide_eq_false hc))
   have hlti9:=of_decide_eq_true hc
   refine sk<|sq<|bk<|SR<|Md rfl<|Ac (Z8d rfl rfl Z51 Z38 (vt rfl) (vt rfl) hsf1.lget) rfl<|As rfl<|As rfl<|Nl<|SR<|Md rfl<|Ac (Z0i rfl rfl Z2e (vt rfl)) rfl<|Mk rfl<|Nl<|bk<|LG (d:=[]) (ν:=Nat×Nat×(List Place)×Value) (fun (m17,i16,l14,v15)=>(Cnt (x11.length:Int) i16 m17∧Zad (Z9w x4 l10) i9 x4 m17 i16 l14=some r,m17,[(6,rd (Z63 Z0x) x4.1),(8,Zb v15),(9,rd (Z0 .i64) (i9:Int)),(23,rd (Z3 4 (Z1 Z03)) s1.Tables),(24,rd (Z0 .i64) (i9:Int)),(29,rd (Z0 .i64) (x11.length:Int)),(30,rd (Z0 .i64) (i16:Int))],[(1001,Zf v15 40 Z0x l14)])) (((x11.length:Int):Int).toNat,0,l7,v8) ⟨Cnt.start _,h⟩ (FX rfl) ?_
   rintro ⟨m17,i16,l14,v15⟩ ⟨hsf2,h⟩
   dsimp only at hsf2 h ⊢
   cases m17 with
   | zero=>
    unfold Zad at h
    refine SR<|Ac (Zj rfl rfl (vt rfl) (vt rfl)) rfl<|Nl<|sq<|Cn rfl (fun hc=>absurd (of_decide_eq_true hc) hsf2.zero) (fun hc=>?_)
    refine xt<|Rg<|Ac (Z5f rfl rfl (vt rfl) (vk rfl) rfl hlti9) rfl<|Md rfl<|Nl ?_
    exact ⟨(_,_,_,_),Nat.lt_succ_self _,⟨hsf1.next,h⟩,FX rfl⟩
   | succ m17=>
    unfold Zad at h
    refine SR<|Ac (Zj rfl rfl (vt rfl) (vt rfl)) rfl<|Nl<|sq<|Cn rfl (fun hc=>?_) (fun hc=>absurd hsf2.succ (of_decide_eq_false hc))
    have hlti16:=of_decide_eq_true hc
    refine sk<|sq<|bk<|SR<|Md rfl<|As rfl<|Nl<|SR<|Md rfl<|Md rfl<|Ac (opb (⟨(i9:Int),(i16:Int)⟩:Place) Z48 rfl Z7z (pc Zar (vt rfl)<|pc Z9y (vt rfl)<|pn rfl)) rfl<|Cv rfl (Zm 13 rfl rfl Z48) fun g18=>Zg Z4i 13 rfl<|Nl<|SR<|Md rfl<|Ld Z4i 13 rfl<|Ac (Y89 rfl rfl Zsu (vt rfl) (vt rfl)) rfl<|Ac (Z0j rfl rfl (vt rfl) (vk rfl)) rfl<|Nl<|Cq rfl h (fun h=>?_) (fun h=>?_)
    ·obtain ⟨l19,hl19,h⟩:=Z7 h
     refine Rg<|Mw rfl<|Ld Z4i 13 rfl<|Ac (osl Z6k Z48 rfl (vt rfl)) rfl<|Cv rfl (Z29 1001 hl19 rfl rfl Zsz (vt rfl) rfl (vt rfl)) fun v20=>Aw rfl<|Nl<|Rg<|Ac (Z12 (t:=29) rfl rfl (vt rfl) (vk rfl) (vt rfl) hlti16) rfl<|Md rfl<|Nl ?_
     exact ⟨(_,_,_,_),Nat.lt_succ_self _,⟨hsf2.next,h⟩,FX rfl⟩
    ·refine sk<|Rg<|Ac (Z12 (t:=29) rfl rfl (vt rfl) (vk rfl) (vt rfl) hlti16) rfl<|Md rfl<|Nl ?_
     exact ⟨(_,_,_,_),Nat.lt_succ_self _,⟨hsf2.next,h⟩,FX rfl⟩
def Zfq (i8:Nat)(go1:Nat→Switch→Option (Switch×Int))(b7:Switch)(x5:((List (Place×Int))×Int)):(List Flow)→Nat→(List Flow)→Option (Switch×Int)
 | [],i15,l13=>(chk 4 (i8:Int)).bind fun j17=>go1 (i8+1) {b7 with Tables:=(Vector.set b7.Tables j17.1 l13 j17.2)}
 | x18::l16,i15,l13=>(bif (decide ((Z0n x5.1 (⟨(i8:Int),(i15:Int)⟩:Place))>0)) then (Z0v l13 [x18]).bind fun l20=>(Zfq i8 go1 b7 x5 l16) (i15+1) l20 else (Zfq i8 go1 b7 x5 l16) (i15+1) l13)
def Zh3 (x5:((List (Place×Int))×Int)):(List (List Flow))→Nat→Switch→Option (Switch×Int)
 | [],i8,b7=>some (b7,0)
 | x10::l9,i8,b7=>Zfq i8 (Zh3 x5 l9) b7 x5 x10 0 []
def Zxn (s1:Switch)(m2:Int):Option (Switch×Int):=
 (Ziq s1 m2).bind fun x5=>(bif (decide (x5.2≠0)) then some ((⟨(Vector.replicate 4 []),[]⟩:Switch),x5.2) else Zh3 x5 (Vector.toList s1.Tables) 0 s1)
theorem Ynw:Q2 Tryz.prog 21 (rd Z08) (rd (Z0 .i64)) (fun r=>Z10 (rd Z08 r.1) (rd (Z0 .i64) r.2)) Zxn:=fun s1 m2 r h=>I0 Tryz.func21 rfl Tryz.ntmps21 rfl fun w H Z=>by
 unfold Zxn at h
 refine SR<|Cv rfl (Zs 3 rfl rfl (vt rfl)) fun g3=>Cv rfl (Zm 5 rfl rfl Z8u) fun g4=>Ak rfl<|Nl<|sq ?_
 obtain ⟨x5,hx5,h⟩:=Z7 h
 refine Rg<|Ld Z20 3 rfl<|Md rfl<|Cl [14,15] (Y8s _ _ _ hx5) e30 rfl<|Mt2 rfl<|Ac (Z1c rfl rfl (vt rfl)) rfl<|Ac (Z18 rfl rfl (vt rfl)) rfl<|As rfl<|As rfl<|Nl<|sq<|SR<|Md rfl<|Ac (Z5t rfl rfl (vt rfl) (vk rfl)) rfl<|Nl<|Cq rfl h (fun h=>?_) (fun h=>?_)
 ·refine SR<|Ac (opb (⟨(Vector.replicate 4 []),[]⟩:Switch) Z8u rfl Zo1 (pn rfl)) rfl<|Md rfl<|Zg Z20 5 rfl<|As rfl<|Nl<|rt ?_
  cases h;exact Z1d Tryz.results21 rfl (Zx rfl (i:=5) rfl Z20) (Z5 rfl)
 ·refine sk<|sq<|SR<|Zk Z4n Z4u rfl<|Ld Zuo 3 rfl<|Mk rfl<|Nl<|bk<|LG (d:=[]) (ν:=(List (List Flow))×Nat×Switch) (fun (l9,i8,b7)=>(Sfx (Vector.toList s1.Tables) i8 l9∧Zh3 x5 l9 i8 b7=some r,l9.length,[(2,Zc g3 (Lens.id Z08)),(4,Zc g4 (Lens.id Z08)),(6,rd (Z63 Z0x) x5.1),(24,rd (Z3 4 (Z1 Z03)) s1.Tables),(25,rd (Z0 .i64) (i8:Int))],[(3,Zh g3 26 Z08 b7),(5,Zh g4 26 Z08 Zep)])) ((Vector.toList s1.Tables),0,s1) ⟨Sfx.start _,h⟩ (FX rfl) ?_
  rintro ⟨l9,i8,b7⟩ ⟨hsf1,h⟩
  dsimp only at hsf1 h ⊢
  cases l9 with
  | nil=>
   unfold Zh3 at h
   refine SR<|Ac (Zj rfl rfl (vt rfl) (vk rfl)) rfl<|Nl<|sq<|Cn rfl (fun hc=>absurd (of_decide_eq_true hc) (hsf1.niln (by simp))) (fun hc=>?_)
   refine xt<|SR<|Ld Z20 3 rfl<|Zg Z20 5 rfl<|Ak rfl<|Nl<|rt ?_
   cases h;exact Z1d Tryz.results21 rfl (Zx rfl (i:=5) rfl Z20) (Z5 rfl)
  | cons x10 l9=>
   unfold Zh3 at h
   refine SR<|Ac (Zj rfl rfl (vt rfl) (vk rfl)) rfl<|Nl<|sq<|Cn rfl (fun hc=>?_) (fun hc=>absurd (hsf1.consn (by simp)) (of_decide_eq_false hc))
   have hlti8:=of_decide_eq_true hc
   refine sk<|sq<|bk<|SR<|Md rfl<|Ac (Z8d rfl rfl Z51 Z38 (vt rfl) (vt rfl) hsf1.lget) rfl<|As rfl<|As rfl<|Nl<|sq<|AW.newnil 1001 48 Z03<|Rg<|Ac (Zv rfl rfl vc) rfl<|Nl<|sq<|SR<|Md rfl<|Ac (Z0i rfl rfl Z2e (vt rfl)) rfl<|Mk rfl<|Nl<|bk<|LG (d:=[]) (ν:=(List Flow)×Nat×(List Flow)×Value) (fun (l16,i15,l13,v14)=>(Sfx x10 i15 l16∧Zfq i8 (Zh3 x5 l9) b7 x5 l16 i15 l13=some r,l16.length,[(2,Zc g3 (Lens.id Z08)),(4,Zc g4 (Lens.id Z08)),(6,rd (Z63 Z0x) x5.1),(8,rd (Z0 .i64) (i8:Int)),(10,Zb v14),(24,rd (Z3 4 (Z1 Z03)) s1.Tables),(25,rd (Z0 .i64) (i8:Int)),(29,rd (Z1 Z03) x10),(30,rd (Z0 .i64) (x10.length:Int)),(31,rd (Z0 .i64) (i15:Int))],[(3,Zh g3 26 Z08 b7),(5,Zh g4 26 Z08 Zep),(1001,Zf v14 48 Z03 l13)])) (x10,0,[],(.slice none 0 0)) ⟨Sfx.start _,h⟩ (FX rfl) ?_
   rintro ⟨l16,i15,l13,v14⟩ ⟨hsf2,h⟩
   dsimp only at hsf2 h ⊢
   cases l16 with
   | nil=>
    unfold Zfq at h
    refine SR<|Ac (Zj rfl rfl (vt rfl) (vt rfl)) rfl<|Nl<|sq<|Cn rfl (fun hc=>absurd (of_decide_eq_true hc) hsf2.nil) (fun hc=>?_)
    refine xt<|AW.freezes [10] 1001 rfl ⟨rfl,trivial⟩ rfl ?_
    obtain ⟨j17,hj17,h⟩:=Z7 h
    refine Rg<|Md rfl<|Md rfl<|Zk Z4n Z4u rfl<|Ac (Z13 rfl rfl Z51 (vt rfl) (vt rfl) hj17) rfl<|Zg Z38 3 rfl<|Nl<|Rg<|Ac (Z5f rfl rfl (vt rfl) (vk rfl) rfl hlti8) rfl<|Md rfl<|Nl ?_
    exact ⟨(_,_,_),Nat.lt_succ_self _,⟨hsf1.next,h⟩,FX rfl⟩
   | cons x18 l16=>
    unfold Zfq at h
    refine SR<|Ac (Zj rfl rfl (vt rfl) (vt rfl)) rfl<|Nl<|sq<|Cn rfl (fun hc=>?_) (fun hc=>absurd hsf2.cons (of_decide_eq_false hc))
    have hlti15:=of_decide_eq_true hc
    refine sk<|sq<|bk<|SR<|Md rfl<|Ac (Z0k rfl rfl Z2e (vt rfl) (vt rfl) hsf2.lget) rfl<|Lp1 Z2b rfl<|Cv rfl (Zm 13 rfl rfl Z61) fun g19=>As rfl<|Zg Z2b 13 rfl<|Nl<|SR<|Md rfl<|Md rfl<|Md rfl<|Ac (opb (⟨(i8:Int),(i15:Int)⟩:Place) Z48 rfl Z7z (pc Zar (vt rfl)<|pc Z9y (vt rfl)<|pn rfl)) rfl<|Ac (Y89 rfl rfl Zsu (vt rfl) (vt rfl)) rfl<|Ac (Z2m rfl rfl (vt rfl) (vk rfl)) rfl<|Nl<|Cq rfl h (fun h=>?_) (fun h=>?_)
    ·obtain ⟨l20,hl20,h⟩:=Z7 h
     refine Rg<|Mw rfl<|Ld Z2b 13 rfl<|Ac (osl Z2e Z61 rfl (vt rfl)) rfl<|Cv rfl (Z29 1001 hl20 rfl rfl Zwn (vt rfl) rfl (vt rfl)) fun v21=>Aw rfl<|Nl<|Rg<|Ac (Z12 (t:=30) rfl rfl (vt rfl) (vk rfl) (vt rfl) hlti15) rfl<|Md rfl<|Nl ?_
     exact ⟨(_,_,_,_),Nat.lt_succ_self _,⟨hsf2.next,h⟩,FX rfl⟩
    ·refine sk<|Rg<|Ac (Z12 (t:=30) rfl rfl (vt rfl) (vk rfl) (vt rfl) hlti15) rfl<|Md rfl<|Nl ?_
     exact ⟨(_,_,_,_),Nat.lt_succ_self _,⟨hsf2.next,h⟩,FX rfl⟩
def Y0j (l1:(List Bucket)):Option ((List Int)×Int):=none
theorem Ytu (l1:(List Bucket))(r:((List Int)×Int))(h:Y0j l1=some r):PCon Tryz.prog 45 [rd (Z1 Z1y) l1] (Z10 (rd (Z1 (Z0 .u8)) r.1) (rd (Z0 .i64) r.2)):=by cases h
def Zpj (x1:Group):Option Bool:=
 (Y0j x1.Buckets).bind fun x3=>some (decide (x3.2≠0))
theorem Yel:Q1 Tryz.prog 159 (rd Z0d) (rd Z6) Zpj:=fun x1 r h=>I0 Tryz.func159 rfl Tryz.ntmps159 rfl fun w H Z=>by
 unfold Zpj at h
 refine SR<|Cv rfl (Zs 2 rfl rfl (vt rfl)) fun g2=>Ab rfl<|Nl<|sq ?_
 obtain ⟨x3,hx3,h⟩:=Z7 h
 refine Rg<|Zk Z6f Z6z rfl<|Ld Z7l 2 rfl<|Cl [7] (Ytu _ _ hx3) e45 rfl<|Mt2 rfl<|Ac (Z1c rfl rfl (vt rfl)) rfl<|Ac (Z18 rfl rfl (vt rfl)) rfl<|As rfl<|As rfl<|Nl<|SR<|Md rfl<|Ac (Z5t rfl rfl (vt rfl) (vk rfl)) rfl<|As rfl<|Nl<|rt ?_
 cases h;exact Zd Tryz.results159 rfl (Z5 rfl)
def Zth (l1:(List Action)):Option (List Int):=none
theorem Y6v (l1:(List Action))(r:(List Int))(h:Zth l1=some r):PCon Tryz.prog 115 [rd (Z1 Z9) l1] (rd (Z1 (Z0 .i64)) r):=by cases h
def Zjw:(List Bucket)→Nat→(List Int)→Option (List Int)
 | [],i6,l4=>some l4
 | x8::l7,i6,l4=>(Zth x8.Acts).bind fun x10=>(Z0v l4 x10).bind fun l11=>(Zjw l7) (i6+1) l11
def Zvy (l1:(List Bucket)):Option (List Int):=
 Zjw l1 0 []
theorem Ysp:Q1 Tryz.prog 182 (rd (Z1 Z1y)) (rd (Z1 (Z0 .i64))) Zvy:=fun l1 r h=>I0 Tryz.func182 rfl Tryz.ntmps182 rfl fun w H Z=>by
 unfold Zvy at h
 refine SR<|Ac (Zv (A:=rd (Z1 (Z0 .i64)) []) rfl rfl Z1f) rfl<|Nl<|sq<|AW.newnil 1001 3 (Z0 .i64)<|Rg<|Ac (Zv rfl rfl vc) rfl<|Nl<|sq<|SR<|Md rfl<|Ac (Z0i rfl rfl Z6d (vt rfl)) rfl<|Mk rfl<|Nl<|bk<|LG (d:=[]) (ν:=(List Bucket)×Nat×(List Int)×Value) (fun (l7,i6,l4,v5)=>(Sfx l1 i6 l7∧Zjw l7 i6 l4=some r,l7.length,[(3,Zb v5),(6,rd (Z1 Z1y) l1),(7,rd (Z0 .i64) (l1.length:Int)),(8,rd (Z0 .i64) (i6:Int))],[(1001,Zf v5 3 (Z0 .i64) l4)])) (l1,0,[],(.slice none 0 0)) ⟨Sfx.start _,h⟩ (FX rfl) ?_
 rintro ⟨l7,i6,l4,v5⟩ ⟨hsf1,h⟩
 dsimp only at hsf1 h ⊢
 cases l7 with
 | nil=>
  unfold Zjw at h
  refine SR<|Ac (Zj rfl rfl (vt rfl) (vt rfl)) rfl<|Nl<|sq<|Cn rfl (fun hc=>absurd (of_decide_eq_true hc) hsf1.nil) (fun hc=>?_)
  refine xt<|SR<|Mw rfl<|Aw rfl<|Nl<|AW.freezes [2,3,18] 1001 rfl ⟨rfl,rfl,rfl,trivial⟩ rfl<|rt ?_
  cases h;exact Zd Tryz.results182 rfl (Z5 rfl)
 | cons x8 l7=>
  unfold Zjw at h
  refine SR<|Ac (Zj rfl rfl (vt rfl) (vt rfl)) rfl<|Nl<|sq<|Cn rfl (fun hc=>?_) (fun hc=>absurd hsf1.cons (of_decide_eq_false hc))
  have hlti6:=of_decide_eq_true hc
  refine sk<|sq<|bk<|SR<|Ac (Z0k rfl rfl Z6d (vt rfl) (vt rfl) hsf1.lget) rfl<|Lp1 Zw8 rfl<|Cv rfl (Zm 6 rfl rfl Y6w) fun g9=>Zg Zw8 6 rfl<|Nl ?_
  obtain ⟨x10,hx10,l11,hl11,h⟩:=bs2 h
  refine Rg<|Mw rfl<|Zk Zg5 Zjn rfl<|Ld Z2z 6 rfl<|Cl [14] (Y6v _ _ hx10) Y8a rfl<|Cv rfl (Z29 1001 hl11 rfl rfl Zg9 (vt rfl) rfl (vt rfl)) fun v12=>Aw rfl<|Nl<|Rg<|Ac (Z12 (t:=7) rfl rfl (vt rfl) (vk rfl) (vt rfl) hlti6) rfl<|Md rfl<|Nl ?_
  exact ⟨(_,_,_,_),Nat.lt_succ_self _,⟨hsf1.next,h⟩,FX rfl⟩
def Zhp (x2:(List Group))(R_group_walk_from:((List Group)→(List (Int×Int))→Int→Option (List (Int×Int)))):(List Int)→Nat→(List (Int×Int))→Option (List (Int×Int))
 | [],i9,m8=>some m8
 | x11::l10,i9,m8=>(Zfg x2 x11).bind fun x12=>(bif ((decide (x12<0))||(decide ((Z0n m8 x12)>0))) then (Zhp x2 R_group_walk_from l10) (i9+1) m8 else (R_group_walk_from x2 (Z1x m8 x12 (IntKind.i64.wrap ((Z0n m8 x12)+1))) x12).bind fun m13=>(Zhp x2 R_group_walk_from l10) (i9+1) m13)
def Zv7 (R_group_walk_from:((List Group)→(List (Int×Int))→Int→Option (List (Int×Int))))(x2:(List Group))(m3:(List (Int×Int)))(a4:Int):Option (List (Int×Int)):=
 (lget x2 a4).bind fun x5=>(Zvy x5.Buckets).bind fun x6=>Zhp x2 R_group_walk_from x6 0 m3
theorem Yc0 (R_group_walk_from:((List Group)→(List (Int×Int))→Int→Option (List (Int×Int))))(hR_group_walk_from:∀(g1:Nat) (x2:(List Group)) (m3:(List (Int×Int))) (a4:Int) (r:(List (Int×Int))),R_group_walk_from x2 m3 a4=some r→Con Tryz.prog 176 [rp Z6n (⟨x2,(.map (some g1))⟩:group_walk_o1),rd (Z0 .i64) a4] (Z2g g1 (Z0 .i64) m3) (fun _:Unit=>top) (fun _=>Z2g g1 (Z0 .i64) r))(g1:Nat)(x2:(List Group))(m3:(List (Int×Int)))(a4:Int)(r:(List (Int×Int)))(h:Zv7 R_group_walk_from x2 m3 a4=some r):Con Tryz.prog 176 [rp Z6n (⟨x2,(.map (some g1))⟩:group_walk_o1),rd (Z0 .i64) a4] (Z2g g1 (Z0 .i64) m3) (fun _:Unit=>top) (fun _=>Z2g g1 (Z0 .i64) r):=by
 refine Con.intro Tryz.func176 rfl Tryz.ntmps176 rfl fun w H X Z=>?_
 unfold Zv7 at h
 refine AW.scope<|sq<|AW.label<|sq ?_
 obtain ⟨x5,hx5,x6,hx6,h⟩:=bs2 h
 refine Rg<|Mr rfl<|Ac (Z30 rfl rfl (vt rfl)) rfl<|Fp lgroup_walk_o1_0 Y9n rfl<|Lp1 Zet rfl<|Md rfl<|Ac (Z0k rfl rfl Z55 (vt rfl) (vt rfl) hx5) rfl<|Fp Z6f Z6z rfl<|Lp1 Z7l rfl<|Cl [14] (Ysp _ _ hx6) Yep rfl<|Ac (Z0i rfl rfl Z11 (vt rfl)) rfl<|Mk rfl<|Nl<|bk<|LG (d:=[]) (ν:=(List Int)×Nat×(List (Int×Int))) (fun (l10,i9,m8)=>(Sfx x6 i9 l10∧Zhp x2 R_group_walk_from l10 i9 m8=some r,l10.length,[(0,rp Z6n (⟨x2,(.map (some g1))⟩:group_walk_o1)),(15,rd (Z1 (Z0 .i64)) x6),(16,rd (Z0 .i64) (x6.length:Int)),(17,rd (Z0 .i64) (i9:Int))],[(0,Z2g g1 (Z0 .i64) m8)])) (x6,0,m3) ⟨Sfx.start _,h⟩ (FX rfl) ?_
 rintro ⟨l10,i9,m8⟩ ⟨hsf1,h⟩
 dsimp only at hsf1 h ⊢
 cases l10 with
 | nil=>
  unfold Zhp at h
  refine SR<|Ac (Zj rfl rfl (vt rfl) (vt rfl)) rfl<|Nl<|sq<|Cn rfl (fun hc=>absurd (of_decide_eq_true hc) hsf1.nil) (fun hc=>?_)
  refine xt ?_
  cases h;exact Z2d (i:=0) Tryz.results176 rfl rfl
 | cons x11 l10=>
  unfold Zhp at h
  refine SR<|Ac (Zj rfl rfl (vt rfl) (vt rfl)) rfl<|Nl<|sq<|Cn rfl (fun hc=>?_) (fun hc=>absurd hsf1.cons (of_decide_eq_false hc))
  have hlti9:=of_decide_eq_true hc
  refine sk<|sq<|bk<|SR<|Ac (Z0k rfl rfl Z11 (vt rfl) (vt rfl) hsf1.lget) rfl<|Lp1 Zp rfl<|As rfl<|Nl<|sq ?_
  obtain ⟨x12,hx12,h⟩:=Z7 h
  refine Rg<|Mr rfl<|Ac (Z30 rfl rfl (vt rfl)) rfl<|Fp lgroup_walk_o1_0 Y9n rfl<|Lp1 Zet rfl<|Md rfl<|Cl [24,25] (Zvj _ _ _ hx12) Zz0 rfl<|As rfl<|Nl<|sq<|SR<|Md rfl<|Ac (Zj rfl rfl (vt rfl) (vk rfl)) rfl<|Md rfl<|Gd rfl (fun hq=>Zq (A:=rp Z6n (⟨x2,(.map (some g1))⟩:group_walk_o1)) rfl rfl (vt rfl))<|Gd rfl (fun hq=>Z30 rfl rfl (Zi rfl hq))<|Gd rfl (fun hq=>Z6e lgroup_walk_o1_1 rfl rfl Zs2 (Zi rfl hq))<|Gd rfl (fun hq=>Zpw rfl rfl Zs0 (Zi rfl hq))<|Gd rfl (fun hq=>Zq (A:=rd (Z0 .i64) x12) rfl rfl (vt rfl))<|Gd rfl (fun hq=>Zqu (i:=0) rfl rfl Zdj (Zi rfl hq) rfl (Zi rfl hq))<|Gd rfl (fun hq=>Z2m rfl rfl (Zi rfl hq) (vk rfl))<|Ac (Z3j rfl rfl (vt rfl) (vt rfl)) rfl<|Nl<|Cq rfl h (fun h=>?_) (fun h=>?_)
  ·refine xt<|Rg<|Ac (Z12 (t:=16) rfl rfl (vt rfl) (vk rfl) (vt rfl) hlti9) rfl<|Md rfl<|Nl ?_
   exact ⟨(_,_,_),Nat.lt_succ_self _,⟨hsf1.next,h⟩,FX rfl⟩
  ·refine sk<|SR<|Mr rfl<|Ac (Z30 rfl rfl (vt rfl)) rfl<|Fp lgroup_walk_o1_1 Zs2 rfl<|Ac (Zpw rfl rfl Zs0 (vt rfl)) rfl<|Md rfl<|Ac (Zqu (i:=0) rfl rfl Zdj (vt rfl) rfl (vt rfl)) rfl<|Ac (Z06 rfl rfl (vt rfl) (vk rfl)) rfl<|Ac (Y5d (i:=0) rfl rfl Zdj (vt rfl) rfl (vt rfl) (vt rfl)) rfl<|Nl ?_
   obtain ⟨m13,hm13,h⟩:=Z7 h
   refine Rg<|Mr rfl<|Md rfl<|Cv rfl (Z1a 0 (xs:=[.tmp 45,.tmp 46]) (hR_group_walk_from _ _ _ _ _ hm13) Y23 rfl rfl ⟨(vt rfl),(vt rfl),trivial⟩ rfl) fun _u=>Nl<|Rg<|Ac (Z12 (t:=16) rfl rfl (vt rfl) (vk rfl) (vt rfl) hlti9) rfl<|Md rfl<|Nl ?_
   exact ⟨(_,_,_),Nat.lt_succ_self _,⟨hsf1.next,h⟩,FX rfl⟩
def Zqg:Nat→((List Group)→(List (Int×Int))→Int→Option (List (Int×Int)))
 | 0=>(fun _ _ _=>none)
 | n+1=>(Zv7 (Zqg n))
theorem Zzi:∀n:Nat,(∀(g1:Nat) (x2:(List Group)) (m3:(List (Int×Int))) (a4:Int) (r:(List (Int×Int))),(Zqg n) x2 m3 a4=some r→Con Tryz.prog 176 [rp Z6n (⟨x2,(.map (some g1))⟩:group_walk_o1),rd (Z0 .i64) a4] (Z2g g1 (Z0 .i64) m3) (fun _:Unit=>top) (fun _=>Z2g g1 (Z0 .i64) r))
 | 0=>(by intros;rename_i h;cases h)
 | n+1=>by
  have ih:=Zzi n
  exact (Yc0 (Zqg n) ih)
def Y2r (x2:(List Group))(m3:(List (Int×Int)))(a4:Int):Option (List (Int×Int)):=(Zqg Z0s) x2 m3 a4
theorem Yqd:∀(g1:Nat) (x2:(List Group)) (m3:(List (Int×Int))) (a4:Int) (r:(List (Int×Int))),Y2r x2 m3 a4=some r→Con Tryz.prog 176 [rp Z6n (⟨x2,(.map (some g1))⟩:group_walk_o1),rd (Z0 .i64) a4] (Z2g g1 (Z0 .i64) m3) (fun _:Unit=>top) (fun _=>Z2g g1 (Z0 .i64) r):=Zzi Z0s
def Zu0 (m10:(List (Int×Int)))(go1:Nat→(List (Int×Int))→Option Bool)(i6:Nat):Nat→Option Bool
 | 0=>none
 | m12+1=>(omz m10).bind fun u13=>go1 (i6+1) m10
def Zhi (l1:(List Group)):(List Group)→Nat→(List (Int×Int))→Option Bool
 | [],i6,m5=>some false
 | x8::l7,i6,m5=>(Y2r l1 [] (i6:Int)).bind fun m10=>Zu0 m10 (Zhi l1 l7) i6 Z0s
def Zt9 (l1:(List Group)):Option Bool:=
 Zhi l1 l1 0 []
theorem Yol:Q1 Tryz.prog 100 (rd (Z1 Z0d)) (rd Z6) Zt9:=fun l1 r h=>I0 Tryz.func100 rfl Tryz.ntmps100 rfl fun w H Z=>by
 unfold Zt9 at h
 refine SR<|Ab rfl<|Nl<|SR<|Md rfl<|Cv rfl (Zwz (Z0 .i64) 9 rfl rfl) fun g2=>Ac (opb (⟨l1,(.map (some g2))⟩:group_walk_o1) Yv7 rfl Ywh (pc Yd9 (vt rfl)<|pc Yod (vkr (vt rfl) rfl)<|pn rfl)) rfl<|Cv rfl (Zs 11 rfl rfl (vt rfl)) fun g3=>AOps.freezeB 10 11 rfl rfl rfl<|Ac (Zv (A:=rp Z6n (⟨l1,(.map (some g2))⟩:group_walk_o1)) rfl rfl (vt rfl)) rfl<|Nl<|sq<|SR<|Md rfl<|Ac (Z0i rfl rfl Z55 (vt rfl)) rfl<|Mk rfl<|Nl<|bk<|LG (d:=[]) (ν:=(List Group)×Nat×(List (Int×Int))) (fun (l7,i6,m5)=>(Sfx l1 i6 l7∧Zhi l1 l7 i6 m5=some r,l7.length,[(0,rd (Z1 Z0d) l1),(3,rp Z6n (⟨l1,(.map (some g2))⟩:group_walk_o1)),(11,rd (Z1 Z0d) l1),(12,rd (Z0 .i64) (l1.length:Int)),(13,rd (Z0 .i64) (i6:Int))],[(9,Z2g g2 (Z0 .i64) m5)])) (l1,0,[]) ⟨Sfx.start _,h⟩ (FX rfl) ?_
 rintro ⟨l7,i6,m5⟩ ⟨hsf1,h⟩
 dsimp only at hsf1 h ⊢
 cases l7 with
 | nil=>
  unfold Zhi at h
  refine SR<|Ac (Zj rfl rfl (vt rfl) (vt rfl)) rfl<|Nl<|sq<|Cn rfl (fun hc=>absurd (of_decide_eq_true hc) hsf1.nil) (fun hc=>?_)
  refine xt<|SR<|Ab rfl<|Nl<|rt ?_
  cases h;exact Zd Tryz.results100 rfl (Z5 rfl)
 | cons x8 l7=>
  unfold Zhi at h
  refine SR<|Ac (Zj rfl rfl (vt rfl) (vt rfl)) rfl<|Nl<|sq<|Cn rfl (fun hc=>?_) (fun hc=>absurd hsf1.cons (of_decide_eq_false hc))
  have hlti6:=of_decide_eq_true hc
  refine sk<|sq<|bk<|SR<|Md rfl<|Ac (Z0k rfl rfl Z55 (vt rfl) (vt rfl) hsf1.lget) rfl<|Lp1 Z6t rfl<|Cv rfl (Zm 6 rfl rfl Zcl) fun g9=>As rfl<|Zg Z6t 6 rfl<|Nl<|SR<|Mr rfl<|Ac (Z30 rfl rfl (vt rfl)) rfl<|Fp lgroup_walk_o1_1 Zs2 rfl<|Ac (Zpw rfl rfl Zs0 (vt rfl)) rfl<|Ac (Yim (i:=9) rfl rfl Yx4 (vt rfl) rfl) rfl<|Nl<|sq ?_
  obtain ⟨m10,hm10,h⟩:=Z7 h
  refine Rg<|Mr rfl<|Md rfl<|Cv rfl (Z1a 9 (xs:=[.tmp 22,.tmp 23]) (Yqd _ _ _ _ _ hm10) Y23 rfl rfl ⟨(vt rfl),(vt rfl),trivial⟩ rfl) fun _u=>Nl<|SR<|Mr rfl<|Ac (Z30 rfl rfl (vt rfl)) rfl<|Fp lgroup_walk_o1_1 Zs2 rfl<|Ac (Zpw rfl rfl Zs0 (vt rfl)) rfl<|Cv rfl (Yub (i:=9) 30 rfl rfl Zdj (vt rfl) rfl rfl) fun g11=>Nl<|bk<|LG (d:=[]) (ν:=Nat) (fun m12=>(True∧Zu0 m10 (Zhi l1 l7) i6 m12=some r,m12,[(0,rd (Z1 Z0d) l1),(3,rp Z6n (⟨l1,(.map (some g2))⟩:group_walk_o1)),(5,Zc g9 (Lens.id Z0d)),(11,rd (Z1 Z0d) l1),(12,rd (Z0 .i64) (l1.length:Int)),(13,rd (Z0 .i64) (i6:Int)),(29,Zb (.pointer (some ⟨g11,0,none⟩)))],[(6,Zh g9 71 Z0d x8),(9,Z2g g2 (Z0 .i64) m10),(30,ItR g11 g2)])) Z0s ⟨trivial,h⟩ (FX rfl) ?_
  rintro m12 ⟨hsf2,h⟩
  dsimp only at h ⊢
  cases m12 with
  | zero=>cases h
  | succ m12=>
   unfold Zu0 at h
   refine sq ?_
   obtain ⟨u13,hu13,h⟩:=Z7 h
   refine Rg<|Ac (Ys2 (i:=9) (j:=30) (Yw3 hu13) rfl rfl (vt rfl) rfl rfl) rfl<|Ac (Yfb rfl rfl (vt rfl)) rfl<|Nl<|sq<|Cn rfl (fun hc=>by cases hc) (fun hc=>?_)
   refine xt<|Rg<|Ac (Z12 (t:=12) rfl rfl (vt rfl) (vk rfl) (vt rfl) hlti6) rfl<|Md rfl<|Nl ?_
   exact ⟨(_,_,_),Nat.lt_succ_self _,⟨hsf1.next,h⟩,FX rfl⟩
def Zxw (i1:Int):Option Bool:=
 some ((decide (i1≥0))&&(decide (i1≤4294967040)))
theorem Yna:Q1 Tryz.prog 101 (rd (Z0 .i64)) (rd Z6) Zxw:=fun i1 r h=>I0 Tryz.func101 rfl Tryz.ntmps101 rfl fun w H Z=>by
 unfold Zxw at h
 refine SR<|Ab rfl<|Nl<|SR<|Md rfl<|Ac (Z3v rfl rfl (vt rfl) (vk rfl)) rfl<|Md rfl<|Gd rfl (fun hq=>Zq (A:=rd (Z0 .i64) i1) rfl rfl (vt rfl))<|Gd rfl (fun hq=>Z5j rfl rfl (Zi rfl hq) (vk rfl))<|Ac (Z1k rfl rfl (vt rfl) (vt rfl)) rfl<|As rfl<|Nl<|rt ?_
 cases h;exact Zd Tryz.results101 rfl (Z5 rfl)
end Go.Proofs.YtinplddjjalohaaGreatDoor.W
set_option maxHeartbeats 1000000
set_option maxRecDepth 4000
namespace Go.Proofs.YtinplddjjalohaaGreatDoor.W
open Go Go.Wb
theorem Ylv:Ent Tryz.prog 100:=Ent.mk Tryz.func100 rfl rfl
theorem Yxg:Ent Tryz.prog 101:=Ent.mk Tryz.func101 rfl rfl
theorem Yg9:Ent Tryz.prog 103:=Ent.mk Tryz.func103 rfl rfl
theorem Ybf:Ent Tryz.prog 104:=Ent.mk Tryz.func104 rfl rfl
theorem Ydp:Ent Tryz.prog 159:=Ent.mk Tryz.func159 rfl rfl
theorem e46:Ent Tryz.prog 46:=Ent.mk Tryz.func46 rfl rfl
theorem Y1m:Ent Tryz.prog 199:=Ent.mk Tryz.func199 rfl rfl
theorem Ywc:Ent Tryz.prog 116:=Ent.mk Tryz.func116 rfl rfl
theorem Yef:Ent Tryz.prog 117:=Ent.mk Tryz.func117 rfl rfl
theorem Ymg:Ent Tryz.prog 118:=Ent.mk Tryz.func118 rfl rfl
def Y96 (k1:Int)(l2:(List Bucket)):Option Fault:=none
theorem Ynu (k1:Int)(l2:(List Bucket))(r:Fault)(h:Y96 k1 l2=some r):PCon Tryz.prog 103 [rd (Z0 .i64) k1,rd (Z1 Z1y) l2] (rd Z3o r):=by cases h
def Yap (l1:(List Group))(b2:(List Bucket)):Option Bool:=none
theorem Yuw (l1:(List Group))(b2:(List Bucket))(r:Bool)(h:Yap l1 b2=some r):PCon Tryz.prog 104 [rd (Z1 Z0d) l1,rd (Z1 Z1y) b2] (rd Z6 r):=by cases h
def Zk6 (l1:(List Group)):(List Group)→Nat→Option Bool
 | [],i3=>some true
 | x5::l4,i3=>(Zxw x5.ID).bind fun x7=>(opt (!(!x7)) (Zfg l1 x5.ID)).bind fun x8=>(opt (!((!x7)||(decide (x8≠(i3:Int))))) (Y96 x5.Kind x5.Buckets)).bind fun x9=>(opt (!(((!x7)||(decide (x8≠(i3:Int))))||x9.Is)) (Yap l1 x5.Buckets)).bind fun x10=>(bif ((((!x7)||(decide (x8≠(i3:Int))))||x9.Is)||(!x10)) then some false else (Zk6 l1 l4) (i3+1))
def Zy2 (l1:(List Group)):Option Bool:=
 (opt (!(decide ((l1.length:Int)>8))) (Zt9 l1)).bind fun x2=>(bif ((decide ((l1.length:Int)>8))||x2) then some false else Zk6 l1 l1 0)
theorem Ym3:Q1 Tryz.prog 46 (rd (Z1 Z0d)) (rd Z6) Zy2:=fun l1 r h=>I0 Tryz.func46 rfl Tryz.ntmps46 rfl fun w H Z=>by
 unfold Zy2 at h
 refine SR<|Ab rfl<|Nl<|sq<|sq ?_
 obtain ⟨x2,hx2,h⟩:=Z7 h
 refine Rg<|Md rfl<|Ac (Z0i rfl rfl Z55 (vt rfl)) rfl<|Ac (Z2m rfl rfl (vt rfl) (vk rfl)) rfl<|Md rfl<|Gd rfl (fun hq=>Zq (A:=rd (Z1 Z0d) l1) rfl rfl (vt rfl))<|Gd rfl (fun hq=>Z0c (xs:=[.tmp 9]) (Yol _ _ (Z8p hx2 hq)) Ylv rfl rfl ⟨Zi rfl hq,trivial⟩)<|Ac (Z3j rfl rfl (vt rfl) (vt rfl)) rfl<|Nl<|Cq rfl h (fun h=>?_) (fun h=>?_)
 ·refine SR<|Ab rfl<|Nl<|rt ?_
  cases h;exact Zd Tryz.results46 rfl (Z5 rfl)
 ·refine sk<|sq<|SR<|Md rfl<|Ac (Z0i rfl rfl Z55 (vt rfl)) rfl<|Mk rfl<|Nl<|bk<|LG (d:=[]) (ν:=(List Group)×Nat) (fun (l4,i3)=>(Sfx l1 i3 l4∧Zk6 l1 l4 i3=some r,l4.length,[(0,rd (Z1 Z0d) l1),(12,rd (Z1 Z0d) l1),(13,rd (Z0 .i64) (l1.length:Int)),(14,rd (Z0 .i64) (i3:Int))],[])) (l1,0) ⟨Sfx.start _,h⟩ (FX rfl) ?_
  rintro ⟨l4,i3⟩ ⟨hsf1,h⟩
  dsimp only at hsf1 h ⊢
  cases l4 with
  | nil=>
   unfold Zk6 at h
   refine SR<|Ac (Zj rfl rfl (vt rfl) (vt rfl)) rfl<|Nl<|sq<|Cn rfl (fun hc=>absurd (of_decide_eq_true hc) hsf1.nil) (fun hc=>?_)
   refine xt<|SR<|Ab rfl<|Nl<|rt ?_
   cases h;exact Zd Tryz.results46 rfl (Z5 rfl)
  | cons x5 l4=>
   unfold Zk6 at h
   refine SR<|Ac (Zj rfl rfl (vt rfl) (vt rfl)) rfl<|Nl<|sq<|Cn rfl (fun hc=>?_) (fun hc=>absurd hsf1.cons (of_decide_eq_false hc))
   have hlti3:=of_decide_eq_true hc
   refine sk<|sq<|bk<|SR<|Md rfl<|Ac (Z0k rfl rfl Z55 (vt rfl) (vt rfl) hsf1.lget) rfl<|Lp1 Z6t rfl<|Cv rfl (Zm 5 rfl rfl Zcl) fun g6=>As rfl<|Zg Z6t 5 rfl<|Nl<|sq ?_
   obtain ⟨x7,hx7,x8,hx8,x9,hx9,x10,hx10,h⟩:=bs4 h
   refine Rg<|Zk lGroup_0 Zyk rfl<|Ld Zp 5 rfl<|Cl [20] (Yna _ _ hx7) Yxg rfl<|Ac (Z0y rfl rfl (vt rfl)) rfl<|Md rfl<|Gd rfl (fun hq=>Zq (A:=rd (Z1 Z0d) l1) rfl rfl (vt rfl))<|Gd rfl (fun hq=>Z2n lGroup_0 rfl rfl Zyk (vt rfl))<|Gd rfl (fun hq=>Z1s rfl rfl Zp (Zi rfl hq) (i:=5) rfl)<|Gd rfl (fun hq=>Z0c (xs:=[.tmp 24,.tmp 26]) (Zvj _ _ _ (Z8p hx8 hq)) Zz0 rfl rfl ⟨Zi rfl hq,Zi rfl hq,trivial⟩)<|Gd rfl (fun hq=>Zq (A:=rd (Z0 .i64) (i3:Int)) rfl rfl (vt rfl))<|Gd rfl (fun hq=>Z5t rfl rfl (Zi rfl hq) (Zi rfl hq))<|Ac (Z3j rfl rfl (vt rfl) (vt rfl)) rfl<|Md rfl<|Gd rfl (fun hq=>Z2n Zy0 rfl rfl Y81 (vt rfl))<|Gd rfl (fun hq=>Z1s rfl rfl Zp (Zi rfl hq) (i:=5) rfl)<|Gd rfl (fun hq=>Z2n Z6f rfl rfl Z6z (vt rfl))<|Gd rfl (fun hq=>Z1s rfl rfl Z7l (Zi rfl hq) (i:=5) rfl)<|Gd rfl (fun hq=>Z0c (xs:=[.tmp 33,.tmp 35]) (Ynu _ _ _ (Z8p hx9 hq)) Yg9 rfl rfl ⟨Zi rfl hq,Zi rfl hq,trivial⟩)<|Gd rfl (fun hq=>Zin lFault_0 rfl rfl Zop Zqd ty4 rfl (Zi rfl hq))<|Ac (Z3j rfl rfl (vt rfl) (vt rfl)) rfl<|Md rfl<|Gd rfl (fun hq=>Zq (A:=rd (Z1 Z0d) l1) rfl rfl (vt rfl))<|Gd rfl (fun hq=>Z2n Z6f rfl rfl Z6z (vt rfl))<|Gd rfl (fun hq=>Z1s rfl rfl Z7l (Zi rfl hq) (i:=5) rfl)<|Gd rfl (fun hq=>Z0c (xs:=[.tmp 40,.tmp 42]) (Yuw _ _ _ (Z8p hx10 hq)) Ybf rfl rfl ⟨Zi rfl hq,Zi rfl hq,trivial⟩)<|Gd rfl (fun hq=>Z0y rfl rfl (Zi rfl hq))<|Ac (Z3j rfl rfl (vt rfl) (vt rfl)) rfl<|Nl<|Cq rfl h (fun h=>?_) (fun h=>?_)
   ·refine SR<|Ab rfl<|Nl<|rt ?_
    cases h;exact Zd Tryz.results46 rfl (Z5 rfl)
   ·refine sk<|Rg<|Ac (Z12 (t:=13) rfl rfl (vt rfl) (vk rfl) (vt rfl) hlti3) rfl<|Md rfl<|Nl ?_
    exact ⟨(_,_),Nat.lt_succ_self _,⟨hsf1.next,h⟩,FX rfl⟩
def Zuq (l1:(List Group)):Option Err:=
 (Zy2 l1).bind fun x2=>(opt (!(!x2)) (Zgh l1 Zpj)).bind fun x3=>(bif ((!x2)||x3) then some (Err.e85 (⟨(⟨(-1),(-1)⟩:Place)⟩:audit_wrong)) else some Err.no)
theorem Yrf:Q1 Tryz.prog 83 (rd (Z1 Z0d)) (rd Z4y) Zuq:=fun l1 r h=>I0 Tryz.func83 rfl Tryz.ntmps83 rfl fun w H Z=>by
 unfold Zuq at h
 refine SR<|Ac (Zv (A:=rd Z4y Err.no) rfl rfl (vne rfl)) rfl<|Nl<|SR<|Ac (Zv rfl rfl (vf1 Ydp Yel)) rfl<|Nl<|sq<|sq ?_
 obtain ⟨x2,hx2,x3,hx3,h⟩:=bs2 h
 refine Rg<|Md rfl<|Cl [4] (Ym3 _ _ hx2) e46 rfl<|Ac (Z0y rfl rfl (vt rfl)) rfl<|Md rfl<|Gd rfl (fun hq=>Zq (A:=rd (Z1 Z0d) l1) rfl rfl (vt rfl))<|Gd rfl (fun hq=>Zq (A:=fn1 Tryz.prog Z0d Z6 Zpj) rfl rfl (vt rfl))<|Gd rfl (fun hq=>Z0c (xs:=[.tmp 8,.tmp 9]) (Y0b _ _ _ (Z8p hx3 hq)) e47 rfl rfl ⟨Zi rfl hq,Zi rfl hq,trivial⟩)<|Ac (Z3j rfl rfl (vt rfl) (vt rfl)) rfl<|Nl<|Cq rfl h (fun h=>?_) (fun h=>?_)
 ·refine SR<|Ac (opb (⟨(-1),(-1)⟩:Place) Z48 rfl Z7z (pc Zar (vk rfl)<|pc Z9y (vk rfl)<|pn rfl)) rfl<|Ac (opb (⟨(⟨(-1),(-1)⟩:Place)⟩:audit_wrong) Zof rfl Zvq (pc Zus (vt rfl)<|pn rfl)) rfl<|Ac (Zpm (d:=Ziv) (Err.e85 (⟨(⟨(-1),(-1)⟩:Place)⟩:audit_wrong)) rfl rfl Zy6 rfl (vt rfl)) rfl<|As rfl<|Nl<|rt ?_
  cases h;exact Zd Tryz.results83 rfl (Z5 rfl)
 ·refine sk<|SR<|Ac (Zv (A:=rd Z4y Err.no) rfl rfl (vne rfl)) rfl<|Nl<|rt ?_
  cases h;exact Zd Tryz.results83 rfl (Z5 rfl)
def Zqi (x1:Flow):Option flow_place:=
 (Zev x1).bind fun x4=>some (⟨x1.Priority,x4⟩:flow_place)
theorem Y4a:Q1 Tryz.prog 199 (rd Z03) (rd Zcs) Zqi:=fun x1 r h=>I0 Tryz.func199 rfl Tryz.ntmps199 rfl fun w H Z=>by
 unfold Zqi at h
 refine SR<|Cv rfl (Zs 2 rfl rfl (vt rfl)) fun g2=>Cv rfl (Zm 3 rfl rfl Y9t) fun g3=>Nl<|sq ?_
 obtain ⟨x4,hx4,h⟩:=Z7 h
 refine AR Z00 (by kernel_rfl)<|SFd lFlow_1 Zao rfl<|Zo Zp 2 rfl<|Zo Z2b 2 rfl<|SCl [5] (Zvi _ _ hx4) Ztl rfl<|Sd (lo [4,6] [] rfl fun S hs hr=>opb (⟨x1.Priority,x4⟩:flow_place) Y9t rfl Yfu (pc Ym8 (vh hs 4 rfl rfl)<|pc Yev (vh hs 6 rfl rfl)<|pn rfl))<|SSt Y0e 3 rfl<|Sn<|rt ?_
 cases h;exact Zd Tryz.results199 rfl (Zx rfl (i:=3) rfl Y0e)
def Zyy (a1:Flow)(b2:Flow):Option Bool:=
 (Zqi a1).bind fun x5=>(Zqi b2).bind fun x6=>some (decide (x5=x6))
theorem Ypr:Q2 Tryz.prog 116 (rd Z03) (rd Z03) (rd Z6) Zyy:=fun a1 b2 r h=>I0 Tryz.func116 rfl Tryz.ntmps116 rfl fun w H Z=>by
 unfold Zyy at h
 refine SR<|Cv rfl (Zs 3 rfl rfl (vt rfl)) fun g3=>Cv rfl (Zs 4 rfl rfl (vt rfl)) fun g4=>Ab rfl<|Nl<|sq ?_
 obtain ⟨x5,hx5,x6,hx6,h⟩:=bs2 h
 refine AR Z00 (by kernel_rfl)<|Zo Z2b 3 rfl<|SCl [5] (Y4a _ _ hx5) Y1m rfl<|Zo Z2b 4 rfl<|SCl [7] (Y4a _ _ hx6) Y1m rfl<|Sd (lo [6,8] [] rfl fun S hs hr=>Zqb rfl rfl Yks (by decide) rfl Yrd (vh hs 6 rfl rfl) (vh hs 8 rfl rfl))<|SAs rfl<|Sn<|rt ?_
 cases h;exact Zd Tryz.results116 rfl (Z5 rfl)
def Zxv (x1:Int):Option Bool:=
 some (decide ((Zit .and .i64 x1 2)≠0))
theorem Yhi:Q1 Tryz.prog 117 (rd (Z0 .i64)) (rd Z6) Zxv:=fun x1 r h=>I0 Tryz.func117 rfl Tryz.ntmps117 rfl fun w H Z=>by
 unfold Zxv at h
 refine SR<|Ab rfl<|Nl<|SR<|Md rfl<|Ac (Y5g rfl rfl (vt rfl) (vk rfl)) rfl<|Ac (Z5t rfl rfl (vt rfl) (vk rfl)) rfl<|As rfl<|Nl<|rt ?_
 cases h;exact Zd Tryz.results117 rfl (Z5 rfl)
def Y4x (a1:Flow)(b2:Flow):Option Bool:=none
theorem Ych (a1:Flow)(b2:Flow)(r:Bool)(h:Y4x a1 b2=some r):PCon Tryz.prog 118 [rd Z03 a1,rd Z03 b2] (rd Z6 r):=by cases h
def Znf (go1:Nat→Option Bool)(i2:Nat)(x4:Flow):(List Flow)→Nat→Option Bool
 | [],i7=>go1 (i2+1)
 | x9::l8,i7=>(Zyy x4 x9).bind fun x11=>(opt (!x11) (Zxv x4.Flags)).bind fun x12=>(opt ((x11==false)&&(x12==true)) (Y4x x4 x9)).bind fun x13=>(bif (x11||(x12&&x13)) then some false else (Znf go1 i2 x4 l8) (i7+1))
def Zhk (t1:(List Flow)):(List Flow)→Nat→Option Bool
 | [],i2=>some true
 | x4::l3,i2=>(Z45 t1 (i2:Int)).bind fun s6=>Znf (Zhk t1 l3) i2 x4 s6 0
def Zyz (t1:(List Flow)):Option Bool:=
 (bif (decide ((t1.length:Int)>8)) then some false else Zhk t1 t1 0)
theorem Ygu:Q1 Tryz.prog 52 (rd (Z1 Z03)) (rd Z6) Zyz:=fun t1 r h=>I0 Tryz.func52 rfl Tryz.ntmps52 rfl fun w H Z=>by
 unfold Zyz at h
 refine SR<|Ab rfl<|Nl<|sq<|SR<|Md rfl<|Ac (Z0i rfl rfl Z2e (vt rfl)) rfl<|Ac (Z2m rfl rfl (vt rfl) (vk rfl)) rfl<|Nl<|Cq rfl h (fun h=>?_) (fun h=>?_)
 ·refine SR<|Ab rfl<|Nl<|rt ?_
  cases h;exact Zd Tryz.results52 rfl (Z5 rfl)
 ·refine sk<|sq<|SR<|Md rfl<|Ac (Z0i rfl rfl Z2e (vt rfl)) rfl<|Mk rfl<|Nl<|bk<|LG (d:=[]) (ν:=(List Flow)×Nat) (fun (l3,i2)=>(Sfx t1 i2 l3∧Zhk t1 l3 i2=some r,l3.length,[(0,rd (Z1 Z03) t1),(10,rd (Z1 Z03) t1),(11,rd (Z0 .i64) (t1.length:Int)),(12,rd (Z0 .i64) (i2:Int))],[])) (t1,0) ⟨Sfx.start _,h⟩ (FX rfl) ?_
  rintro ⟨l3,i2⟩ ⟨hsf1,h⟩
  dsimp only at hsf1 h ⊢
  cases l3 with
  | nil=>
   unfold Zhk at h
   refine SR<|Ac (Zj rfl rfl (vt rfl) (vt rfl)) rfl<|Nl<|sq<|Cn rfl (fun hc=>absurd (of_decide_eq_true hc) hsf1.nil) (fun hc=>?_)
   refine xt<|SR<|Ab rfl<|Nl<|rt ?_
   cases h;exact Zd Tryz.results52 rfl (Z5 rfl)
  | cons x4 l3=>
   unfold Zhk at h
   refine SR<|Ac (Zj rfl rfl (vt rfl) (vt rfl)) rfl<|Nl<|sq<|Cn rfl (fun hc=>?_) (fun hc=>absurd hsf1.cons (of_decide_eq_false hc))
   have hlti2:=of_decide_eq_true hc
   refine sk<|sq<|bk<|SR<|Md rfl<|Ac (Z0k rfl rfl Z2e (vt rfl) (vt rfl) hsf1.lget) rfl<|Lp1 Z2b rfl<|Cv rfl (Zm 5 rfl rfl Z61) fun g5=>As rfl<|Zg Z2b 5 rfl<|Nl<|sq ?_
   obtain ⟨s6,hs6,h⟩:=Z7 h
   refine Rg<|Md rfl<|Md rfl<|Ac (Zqz hs6 rfl rfl Z2e (vt rfl) (vt rfl)) rfl<|Ac (Z0i rfl rfl Z2e (vt rfl)) rfl<|Mk rfl<|Nl<|bk<|LG (d:=[]) (ν:=(List Flow)×Nat) (fun (l8,i7)=>(Sfx s6 i7 l8∧Znf (Zhk t1 l3) i2 x4 l8 i7=some r,l8.length,[(0,rd (Z1 Z03) t1),(4,Zc g5 (Lens.id Z03)),(10,rd (Z1 Z03) t1),(11,rd (Z0 .i64) (t1.length:Int)),(12,rd (Z0 .i64) (i2:Int)),(19,rd (Z1 Z03) s6),(20,rd (Z0 .i64) (s6.length:Int)),(21,rd (Z0 .i64) (i7:Int))],[(5,Zh g5 48 Z03 x4)])) (s6,0) ⟨Sfx.start _,h⟩ (FX rfl) ?_
   rintro ⟨l8,i7⟩ ⟨hsf2,h⟩
   dsimp only at hsf2 h ⊢
   cases l8 with
   | nil=>
    unfold Znf at h
    refine SR<|Ac (Zj rfl rfl (vt rfl) (vt rfl)) rfl<|Nl<|sq<|Cn rfl (fun hc=>absurd (of_decide_eq_true hc) hsf2.nil) (fun hc=>?_)
    refine xt<|Rg<|Ac (Z12 (t:=11) rfl rfl (vt rfl) (vk rfl) (vt rfl) hlti2) rfl<|Md rfl<|Nl ?_
    exact ⟨(_,_),Nat.lt_succ_self _,⟨hsf1.next,h⟩,FX rfl⟩
   | cons x9 l8=>
    unfold Znf at h
    refine SR<|Ac (Zj rfl rfl (vt rfl) (vt rfl)) rfl<|Nl<|sq<|Cn rfl (fun hc=>?_) (fun hc=>absurd hsf2.cons (of_decide_eq_false hc))
    have hlti7:=of_decide_eq_true hc
    refine sk<|sq<|bk<|SR<|Ac (Z0k rfl rfl Z2e (vt rfl) (vt rfl) hsf2.lget) rfl<|Lp1 Z2b rfl<|Cv rfl (Zm 7 rfl rfl Z61) fun g10=>Zg Z2b 7 rfl<|Nl<|sq ?_
    obtain ⟨x11,hx11,x12,hx12,x13,hx13,h⟩:=bs3 h
    refine Rg<|Ld Z2b 5 rfl<|Ld Z2b 7 rfl<|Cl [25,26] (Ypr _ _ _ hx11) Ywc rfl<|Md rfl<|Gd rfl (fun hq=>Z2n lFlow_4 rfl rfl Zz1 (vt rfl))<|Gd rfl (fun hq=>Z1s rfl rfl Zp (Zi rfl hq) (i:=5) rfl)<|Gd rfl (fun hq=>Z0c (xs:=[.tmp 30]) (Yhi _ _ (Z8p hx12 hq)) Yef rfl rfl ⟨Zi rfl hq,trivial⟩)<|AOps.consG (OpG.guardX rfl rfl rfl rfl rfl fun hq=>Zq (A:=rd Z6 x12) rfl rfl (Zi rfl hq))<|AOps.consG (OpG.guardN rfl rfl rfl rfl rfl fun hq=>Z1s rfl rfl Z2b (vt rfl) (i:=5) rfl)<|AOps.consG (OpG.guardN rfl rfl rfl rfl rfl fun hq=>Z1s rfl rfl Z2b (vt rfl) (i:=7) rfl)<|AOps.consG (OpG.guardN rfl rfl rfl rfl rfl fun hq=>Z0c (xs:=[.tmp 33,.tmp 34]) (Ych _ _ _ (Zx6 hx13 hq)) Ymg rfl rfl ⟨Zi rfl hq,Zi rfl hq,trivial⟩)<|Gd rfl (fun hq=>Z1k rfl rfl (vgx rfl hq) (vgw rfl hq))<|Ac (Z3j rfl rfl (vt rfl) (vt rfl)) rfl<|Nl<|Cq rfl h (fun h=>?_) (fun h=>?_)
    ·refine SR<|Ab rfl<|Nl<|rt ?_
     cases h;exact Zd Tryz.results52 rfl (Z5 rfl)
    ·refine sk<|Rg<|Ac (Z12 (t:=20) rfl rfl (vt rfl) (vk rfl) (vt rfl) hlti7) rfl<|Md rfl<|Nl ?_
     exact ⟨(_,_),Nat.lt_succ_self _,⟨hsf2.next,h⟩,FX rfl⟩
end Go.Proofs.YtinplddjjalohaaGreatDoor.W
set_option maxHeartbeats 1000000
set_option maxRecDepth 4000
namespace Go.Proofs.YtinplddjjalohaaGreatDoor.W
open Go Go.Wb
theorem Ycx:Ent Tryz.prog 270:=Ent.mk Tryz.func270 rfl rfl
theorem Ypz:Ent Tryz.prog 193:=Ent.mk Tryz.func193 rfl rfl
theorem Ygf:Ent Tryz.prog 194:=Ent.mk Tryz.func194 rfl rfl
theorem Ykd:Ent Tryz.prog 112:=Ent.mk Tryz.func112 rfl rfl
theorem Yw5:Ent Tryz.prog 184:=Ent.mk Tryz.func184 rfl rfl
def Zs6 (s:List Oxm):Option (List Oxm):=Z0v [] s
theorem Yjg (s:List Oxm)(r:List Oxm)(h:Zs6 s=some r):Con Tryz.prog 193 [rd (Z1 Z0h) s] emp (fun v=>Zb v) (fun v=>Zf v 217 Z0h r):=by
 refine Con.intro0 Tryz.func193 rfl Tryz.ntmps193 rfl fun w H Z=>?_
 unfold Zs6 at h
 refine AW.newnil 1001 217 Z0h<|SR<|Ac (Zv (A:=Zb (.slice none 0 0)) rfl rfl vc) rfl<|Nl<|sq<|SR<|Md rfl<|Ct rfl (Zbx rfl rfl Z4w (vt rfl)) ?_
 rintro _ ⟨b,hb,rfl⟩
 refine Nl<|Cn rfl (fun hc=>?_) (fun hc=>?_)
 ·obtain rfl:=hb hc
  refine SR<|Ac (Zv (A:=Zb (.slice none 0 0)) rfl rfl vc) rfl<|Nl<|rt ?_
  obtain rfl:=(Z7c h).2
  exact Z3m (i:=1001) Tryz.results193 rfl rfl rfl
 ·refine sk<|SR<|Cv rfl (Z4q 1002 (ps:=[]) (l:=[]) rfl rfl Z4w Zri rfl rfl rfl rfl) fun v1=>Md rfl<|Cv rfl (Z29 1002 h rfl rfl Yxk (vt rfl) rfl (vt rfl)) fun v2=>Aw rfl<|Nl<|rt ?_
  exact Z3m (i:=1002) Tryz.results193 rfl rfl rfl
theorem Yd7 (s:List Oxm)(r:List Oxm)(h:Zs6 s=some r):PCon Tryz.prog 193 [rd (Z1 Z0h) s] (rd (Z1 Z0h) r):=PCon.of_row (Yjg s r h)
def Zt8 (s:List Inst):Option (List Inst):=Z0v [] s
theorem Yib (s:List Inst)(r:List Inst)(h:Zt8 s=some r):Con Tryz.prog 270 [rd (Z1 Z0a) s] emp (fun v=>Zb v) (fun v=>Zf v 140 Z0a r):=by
 refine Con.intro0 Tryz.func270 rfl Tryz.ntmps270 rfl fun w H Z=>?_
 unfold Zt8 at h
 refine AW.newnil 1001 140 Z0a<|SR<|Ac (Zv (A:=Zb (.slice none 0 0)) rfl rfl vc) rfl<|Nl<|sq<|SR<|Md rfl<|Ct rfl (Zbx rfl rfl Z4p (vt rfl)) ?_
 rintro _ ⟨b,hb,rfl⟩
 refine Nl<|Cn rfl (fun hc=>?_) (fun hc=>?_)
 ·obtain rfl:=hb hc
  refine SR<|Ac (Zv (A:=Zb (.slice none 0 0)) rfl rfl vc) rfl<|Nl<|rt ?_
  obtain rfl:=(Z7c h).2
  exact Z3m (i:=1001) Tryz.results270 rfl rfl rfl
 ·refine sk<|SR<|Cv rfl (Z4q 1002 (ps:=[]) (l:=[]) rfl rfl Z4p Z3f rfl rfl rfl rfl) fun v1=>Md rfl<|Cv rfl (Z29 1002 h rfl rfl Ydj (vt rfl) rfl (vt rfl)) fun v2=>Aw rfl<|Nl<|rt ?_
  exact Z3m (i:=1002) Tryz.results270 rfl rfl rfl
def Zny:Nat→Nat→(List Inst)→Option (List Inst)
 | 0,i6,l5=>some l5
 | m7+1,i6,l5=>(lget l5 (i6:Int)).bind fun x8=>(Z6r x8.Acts).bind fun x9=>(lget l5 (i6:Int)).bind fun x10=>(Zny m7) (i6+1) (List.set l5 (i6:Int).toNat {x10 with Acts:=x9})
def Zw7 (l1:(List Inst)):Option (List Inst):=
 (Zt8 l1).bind fun x2=>Zny ((x2.length:Int):Int).toNat 0 x2
theorem Ywz:Q1 Tryz.prog 194 (rd (Z1 Z0a)) (rd (Z1 Z0a)) Zw7:=fun l1 r h=>I0 Tryz.func194 rfl Tryz.ntmps194 rfl fun w H Z=>by
 unfold Zw7 at h
 refine SR<|Ac (Zv (A:=rd (Z1 Z0a) []) rfl rfl Z1f) rfl<|Nl<|sq ?_
 obtain ⟨x2,hx2,h⟩:=Z7 h
 refine Rg<|Md rfl<|Cv rfl (Z1a 1001 (xs:=[.tmp 5]) (Yib _ _ hx2) Ycx rfl rfl ⟨vt rfl,trivial⟩ rfl) fun v3=>Aw rfl<|Nl<|sq<|SR<|Mw rfl<|Ac (Z4k 1001 rfl rfl Z4p (vt rfl) rfl) rfl<|Mk rfl<|Nl<|bk<|LG (d:=[]) (ν:=Nat×Nat×(List Inst)) (fun (m7,i6,l5)=>(Cnt (x2.length:Int) i6 m7∧Zny m7 i6 l5=some r,m7,[(3,Zb v3),(8,rd (Z0 .i64) (x2.length:Int)),(9,rd (Z0 .i64) (i6:Int))],[(1001,Zf v3 140 Z0a l5)])) (((x2.length:Int):Int).toNat,0,x2) ⟨Cnt.start _,h⟩ (FX rfl) ?_
 rintro ⟨m7,i6,l5⟩ ⟨hsf1,h⟩
 dsimp only at hsf1 h ⊢
 cases m7 with
 | zero=>
  unfold Zny at h
  refine SR<|Ac (Zj rfl rfl (vt rfl) (vt rfl)) rfl<|Nl<|sq<|Cn rfl (fun hc=>absurd (of_decide_eq_true hc) hsf1.zero) (fun hc=>?_)
  refine xt<|SR<|Mw rfl<|Aw rfl<|Nl<|AW.freezes [2,3,23] 1001 rfl ⟨rfl,rfl,rfl,trivial⟩ rfl<|rt ?_
  cases h;exact Zd Tryz.results194 rfl (Z5 rfl)
 | succ m7=>
  unfold Zny at h
  refine SR<|Ac (Zj rfl rfl (vt rfl) (vt rfl)) rfl<|Nl<|sq<|Cn rfl (fun hc=>?_) (fun hc=>absurd hsf1.succ (of_decide_eq_false hc))
  have hlti6:=of_decide_eq_true hc
  refine sk<|sq<|bk<|SR<|Md rfl<|As rfl<|Nl ?_
  obtain ⟨x8,hx8,x9,hx9,x10,hx10,h⟩:=bs3 h
  refine Rg<|Mw rfl<|Md rfl<|Mw rfl<|Md rfl<|Ac (Z22 1001 rfl rfl Z4p (vt rfl) rfl (vt rfl) hx8) rfl<|Ac (Z8v Z60 rfl rfl Z6w (vt rfl)) rfl<|Ac (Z1q 1001 rfl rfl Z2z (vt rfl) rfl (Z0m hx8).2) rfl<|Cl [18] (Zsr _ _ hx9) Zka rfl<|Ac (Z22 1001 rfl rfl Z4p (vt rfl) rfl (vt rfl) hx10) rfl<|Ac (Z8v Z60 rfl rfl Z6w (vt rfl)) rfl<|Ac (Z2w 1001 rfl rfl Z2z (vt rfl) rfl (Z0m hx10).2 (vt rfl)) rfl<|Nl<|Rg<|Ac (Z12 (t:=8) rfl rfl (vt rfl) (vk rfl) (vt rfl) hlti6) rfl<|Md rfl<|Nl ?_
  exact ⟨(_,_,_),Nat.lt_succ_self _,⟨hsf1.next,h⟩,FX rfl⟩
def Zua (m1:FlowMod):Option Flow:=
 (Zs6 m1.Match).bind fun x4=>(Zw7 m1.Insts).bind fun x5=>some (⟨m1.Cookie,m1.Priority,m1.Idle,m1.Hard,m1.Flags,x4,x5⟩:Flow)
theorem Yrh:Q1 Tryz.prog 112 (rd Z39) (rd Z03) Zua:=fun m1 r h=>I0 Tryz.func112 rfl Tryz.ntmps112 rfl fun w H Z=>by
 unfold Zua at h
 refine SR<|Cv rfl (Zs 2 rfl rfl (vt rfl)) fun g2=>Cv rfl (Zm 3 rfl rfl Z61) fun g3=>Nl<|sq ?_
 obtain ⟨x4,hx4,x5,hx5,h⟩:=bs2 h
 refine AR Z00 (by kernel_rfl)<|SFd lFlowMod_0 Y0c rfl<|Zo Z1g 2 rfl<|SFd lFlowMod_6 Zv1 rfl<|Zo Zp 2 rfl<|SFd lFlowMod_4 Zxz rfl<|Zo Zp 2 rfl<|SFd lFlowMod_5 Zvf rfl<|Zo Zp 2 rfl<|SFd lFlowMod_10 Zrn rfl<|Zo Zp 2 rfl<|SFd lFlowMod_11 Zst rfl<|Zo Zce 2 rfl<|SCl [14] (Yd7 _ _ hx4) Ypz rfl<|SFd lFlowMod_12 Zp8 rfl<|Zo Z5v 2 rfl<|SCl [17] (Ywz _ _ hx5) Ygf rfl<|Sd (lo [4,6,8,10,12,15,18] [] rfl fun S hs hr=>opb (⟨m1.Cookie,m1.Priority,m1.Idle,m1.Hard,m1.Flags,x4,x5⟩:Flow) Z61 rfl Zvw (pc Yho (vh hs 4 rfl rfl)<|pc Zv6 (vh hs 6 rfl rfl)<|pc Yj6 (vh hs 8 rfl rfl)<|pc Yrk (vh hs 10 rfl rfl)<|pc Ylx (vh hs 12 rfl rfl)<|pc Ye8 (vh hs 15 rfl rfl)<|pc Yjt (vh hs 18 rfl rfl)<|pn rfl))<|SSt Z2b 3 rfl<|Sn<|rt ?_
 cases h;exact Zd Tryz.results112 rfl (Zx rfl (i:=3) rfl Z2b)
def Ztq (x1:Flow)(t2:Int):Option FlowMod:=
 (Zua (⟨x1.Cookie,0,0,0,x1.Idle,x1.Hard,x1.Priority,0,0,0,x1.Flags,x1.Match,x1.Insts⟩:FlowMod)).bind fun x5=>some {{{{{{{(⟨0,0,t2,0,0,0,0,4294967295,4294967295,4294967295,0,[],[]⟩:FlowMod) with Cookie:=x5.Cookie} with Priority:=x5.Priority} with Idle:=x5.Idle} with Hard:=x5.Hard} with Flags:=x5.Flags} with Match:=x5.Match} with Insts:=x5.Insts}
theorem Yoh:Q2 Tryz.prog 50 (rd Z03) (rd (Z0 .i64)) (rd Z39) Ztq:=fun x1 t2 r h=>I0 Tryz.func50 rfl Tryz.ntmps50 rfl fun w H Z=>by
 unfold Ztq at h
 refine SR<|Cv rfl (Zs 3 rfl rfl (vt rfl)) fun g3=>Cv rfl (Zm 5 rfl rfl Zp2) fun g4=>Nl<|sq ?_
 obtain ⟨x5,hx5,h⟩:=Z7 h
 refine Rg<|Zk lFlow_0 Y67 rfl<|Ld Z1g 3 rfl<|Zk lFlow_1 Zao rfl<|Ld Zp 3 rfl<|Zk lFlow_2 Y22 rfl<|Ld Zp 3 rfl<|Zk lFlow_3 Zzh rfl<|Ld Zp 3 rfl<|Zk lFlow_4 Zz1 rfl<|Ld Zp 3 rfl<|Zk lFlow_5 Zln rfl<|Ld Zce 3 rfl<|Zk lFlow_6 Z8h rfl<|Ld Z5v 3 rfl<|Ac (opb (⟨x1.Cookie,0,0,0,x1.Idle,x1.Hard,x1.Priority,0,0,0,x1.Flags,x1.Match,x1.Insts⟩:FlowMod) Zp2 rfl Zza (pc Yfy (vt rfl)<|pc Ywb (vt rfl)<|pc Ywx (vt rfl)<|pc Ypn (vt rfl)<|pc Yl7 (vt rfl)<|pc Yo0 (vt rfl)<|pc Yf7 (vt rfl)<|pn rfl)) rfl<|Cl [20] (Yrh _ _ hx5) Ykd rfl<|Zg Z2b 3 rfl<|Nl<|SR<|Md rfl<|Ac (opb (⟨0,0,t2,0,0,0,0,4294967295,4294967295,4294967295,0,[],[]⟩:FlowMod) Zp2 rfl Zza (pc Yfv (vt rfl)<|pc Ygg (vk rfl)<|pc Ym2 (vk rfl)<|pc Ykr (vk rfl)<|pc Ymt (vk rfl)<|pn rfl)) rfl<|Cv rfl (Zm 6 rfl rfl Zp2) fun g6=>Zg Zdq 6 rfl<|Nl<|sq<|AR Z00 (by kernel_rfl)<|SFd lFlow_0 Y67 rfl<|Zo Z1g 3 rfl<|SFd lFlow_1 Zao rfl<|Zo Zp 3 rfl<|SFd lFlow_2 Y22 rfl<|Zo Zp 3 rfl<|SFd lFlow_3 Zzh rfl<|Zo Zp 3 rfl<|SFd lFlow_4 Zz1 rfl<|Zo Zp 3 rfl<|SFd lFlowMod_0 Y0c rfl<|SSt Z1g 6 rfl<|SFd lFlowMod_6 Zv1 rfl<|SSt Zp 6 rfl<|SFd lFlowMod_4 Zxz rfl<|SSt Zp 6 rfl<|SFd lFlowMod_5 Zvf rfl<|SSt Zp 6 rfl<|SFd lFlowMod_10 Zrn rfl<|SSt Zp 6 rfl<|Sn<|sq<|AR Z00 (by kernel_rfl)<|SFd lFlow_5 Zln rfl<|Zo Zce 3 rfl<|SFd lFlow_6 Z8h rfl<|Zo Z5v 3 rfl<|SFd lFlowMod_11 Zst rfl<|SSt Zce 6 rfl<|SFd lFlowMod_12 Zp8 rfl<|SSt Z5v 6 rfl<|Sn<|SR<|Ld Zdq 6 rfl<|Zg Zdq 5 rfl<|Nl<|rt ?_
 cases h;exact Zd Tryz.results50 rfl (Zx rfl (i:=5) rfl Zdq)
def Zue:Option Zsc:=
 some (Vector.set (Vector.set (Vector.set (Vector.set (Vector.set (Vector.set (Vector.set (Vector.set (Vector.set (Vector.replicate 9 0) 0 1 (by decide)) 1 1 (by decide)) 2 2 (by decide)) 3 2 (by decide)) 4 2 (by decide)) 5 4 (by decide)) 6 4 (by decide)) 7 4 (by decide)) 8 2 (by decide))
theorem Ygq:Q0 Tryz.prog 106 (rd (Z3 9 (Z0 .i64))) Zue:=fun r h=>I0 Tryz.func106 rfl Tryz.ntmps106 rfl fun w H Z=>by
 unfold Zue at h
 refine SR<|Cv rfl (Zm 1 rfl rfl Zji) fun g1=>Nl<|SR<|Ac (Z1m (ps:=[(0,.const (Value.int IntKind.i64 1)),(1,.const (Value.int IntKind.i64 1)),(2,.const (Value.int IntKind.i64 2)),(3,.const (Value.int IntKind.i64 2)),(4,.const (Value.int IntKind.i64 2)),(5,.const (Value.int IntKind.i64 4)),(6,.const (Value.int IntKind.i64 4)),(7,.const (Value.int IntKind.i64 4)),(8,.const (Value.int IntKind.i64 2))]) (x:=(Vector.set (Vector.set (Vector.set (Vector.set (Vector.set (Vector.set (Vector.set (Vector.set (Vector.set (Vector.replicate 9 0) 0 1 (by decide)) 1 1 (by decide)) 2 2 (by decide)) 3 2 (by decide)) 4 2 (by decide)) 5 4 (by decide)) 6 4 (by decide)) 7 4 (by decide)) 8 2 (by decide))) rfl rfl rfl (by kernel_rfl) Zji ⟨_,_,Lens.idx 9 (Z0 .i64) 0 (by decide),_,by kernel_rfl,(vk rfl),_,_,Lens.idx 9 (Z0 .i64) 1 (by decide),_,by kernel_rfl,(vk rfl),_,_,Lens.idx 9 (Z0 .i64) 2 (by decide),_,by kernel_rfl,(vk rfl),_,_,Lens.idx 9 (Z0 .i64) 3 (by decide),_,by kernel_rfl,(vk rfl),_,_,Lens.idx 9 (Z0 .i64) 4 (by decide),_,by kernel_rfl,(vk rfl),_,_,Lens.idx 9 (Z0 .i64) 5 (by decide),_,by kernel_rfl,(vk rfl),_,_,Lens.idx 9 (Z0 .i64) 6 (by decide),_,by kernel_rfl,(vk rfl),_,_,Lens.idx 9 (Z0 .i64) 7 (by decide),_,by kernel_rfl,(vk rfl),_,_,Lens.idx 9 (Z0 .i64) 8 (by decide),_,by kernel_rfl,(vk rfl),rfl⟩) rfl<|Zg Zkr 1 rfl<|Nl<|rt ?_
 cases h;exact Zd Tryz.results106 rfl (Zx rfl (i:=1) rfl Zkr)
def Zwx (m1:flowmod_mod):Option Zsc:=
 some (Vector.set (Vector.set (Vector.set (Vector.set (Vector.set (Vector.set (Vector.set (Vector.set (Vector.set (Vector.replicate 9 0) 0 m1.FlowMod.Table (by decide)) 1 m1.FlowMod.Command (by decide)) 2 m1.FlowMod.Idle (by decide)) 3 m1.FlowMod.Hard (by decide)) 4 m1.FlowMod.Priority (by decide)) 5 m1.FlowMod.Buffer (by decide)) 6 m1.FlowMod.OutPort (by decide)) 7 m1.FlowMod.OutGroup (by decide)) 8 m1.FlowMod.Flags (by decide))
theorem Ymb:Q1 Tryz.prog 107 (rp Z40) (rd (Z3 9 (Z0 .i64))) Zwx:=fun m1 r h=>I0 Tryz.func107 rfl Tryz.ntmps107 rfl fun w H Z=>by
 unfold Zwx at h
 refine SR<|Cv rfl (Zm 3 rfl rfl Zji) fun g2=>Nl<|sq<|AR Z00 (by kernel_rfl)<|Sd (lo [0] [] rfl fun S hs hr=>Zq (A:=rp Z40 m1) rfl rfl (vh hs 0 rfl rfl))<|Sd (lo [3] [] rfl fun S hs hr=>Z30 rfl rfl (vh hs 3 rfl rfl))<|SFp lflowmod_mod_0 Z50 rfl<|SFp lFlowMod_2 Ybr rfl<|SLp Zp rfl<|Sd (lo [0] [] rfl fun S hs hr=>Zq (A:=rp Z40 m1) rfl rfl (vh hs 0 rfl rfl))<|Sd (lo [8] [] rfl fun S hs hr=>Z30 rfl rfl (vh hs 8 rfl rfl))<|SFp lflowmod_mod_0 Z50 rfl<|SFp lFlowMod_3 Zlk rfl<|SLp Zp rfl<|Sd (lo [0] [] rfl fun S hs hr=>Zq (A:=rp Z40 m1) rfl rfl (vh hs 0 rfl rfl))<|Sd (lo [13] [] rfl fun S hs hr=>Z30 rfl rfl (vh hs 13 rfl rfl))<|SFp lflowmod_mod_0 Z50 rfl<|SFp lFlowMod_4 Zxz rfl<|SLp Zp rfl<|Sd (lo [0] [] rfl fun S hs hr=>Zq (A:=rp Z40 m1) rfl rfl (vh hs 0 rfl rfl))<|Sd (lo [18] [] rfl fun S hs hr=>Z30 rfl rfl (vh hs 18 rfl rfl))<|SFp lflowmod_mod_0 Z50 rfl<|SFp lFlowMod_5 Zvf rfl<|SLp Zp rfl<|Sd (lo [0] [] rfl fun S hs hr=>Zq (A:=rp Z40 m1) rfl rfl (vh hs 0 rfl rfl))<|Sd (lo [23] [] rfl fun S hs hr=>Z30 rfl rfl (vh hs 23 rfl rfl))<|SFp lflowmod_mod_0 Z50 rfl<|SFp lFlowMod_6 Zv1 rfl<|SLp Zp rfl<|Sd (lo [0] [] rfl fun S hs hr=>Zq (A:=rp Z40 m1) rfl rfl (vh hs 0 rfl rfl))<|Sd (lo [28] [] rfl fun S hs hr=>Z30 rfl rfl (vh hs 28 rfl rfl))<|SFp lflowmod_mod_0 Z50 rfl<|SFp lFlowMod_7 Ygt rfl<|SLp Zp rfl<|Sd (lo [0] [] rfl fun S hs hr=>Zq (A:=rp Z40 m1) rfl rfl (vh hs 0 rfl rfl))<|Sd (lo [33] [] rfl fun S hs hr=>Z30 rfl rfl (vh hs 33 rfl rfl))<|SFp lflowmod_mod_0 Z50 rfl<|SFp lFlowMod_8 Yw6 rfl<|SLp Zp rfl<|Sd (lo [0] [] rfl fun S hs hr=>Zq (A:=rp Z40 m1) rfl rfl (vh hs 0 rfl rfl))<|Sd (lo [38] [] rfl fun S hs hr=>Z30 rfl rfl (vh hs 38 rfl rfl))<|SFp lflowmod_mod_0 Z50 rfl<|SFp lFlowMod_9 Yjs rfl<|SLp Zp rfl<|Sd (lo [0] [] rfl fun S hs hr=>Zq (A:=rp Z40 m1) rfl rfl (vh hs 0 rfl rfl))<|Sd (lo [43] [] rfl fun S hs hr=>Z30 rfl rfl (vh hs 43 rfl rfl))<|SFp lflowmod_mod_0 Z50 rfl<|SFp lFlowMod_10 Zrn rfl<|SLp Zp rfl<|Sd (lo [7,12,17,22,27,32,37,42,47] [] rfl fun S hs hr=>Z1m (ps:=[(0,.tmp 7),(1,.tmp 12),(2,.tmp 17),(3,.tmp 22),(4,.tmp 27),(5,.tmp 32),(6,.tmp 37),(7,.tmp 42),(8,.tmp 47)]) (x:=(Vector.set (Vector.set (Vector.set (Vector.set (Vector.set (Vector.set (Vector.set (Vector.set (Vector.set (Vector.replicate 9 0) 0 m1.FlowMod.Table (by decide)) 1 m1.FlowMod.Command (by decide)) 2 m1.FlowMod.Idle (by decide)) 3 m1.FlowMod.Hard (by decide)) 4 m1.FlowMod.Priority (by decide)) 5 m1.FlowMod.Buffer (by decide)) 6 m1.FlowMod.OutPort (by decide)) 7 m1.FlowMod.OutGroup (by decide)) 8 m1.FlowMod.Flags (by decide))) rfl rfl rfl (by kernel_rfl) Zji ⟨_,_,Lens.idx 9 (Z0 .i64) 0 (by decide),_,by kernel_rfl,(vh hs 7 rfl rfl),_,_,Lens.idx 9 (Z0 .i64) 1 (by decide),_,by kernel_rfl,(vh hs 12 rfl rfl),_,_,Lens.idx 9 (Z0 .i64) 2 (by decide),_,by kernel_rfl,(vh hs 17 rfl rfl),_,_,Lens.idx 9 (Z0 .i64) 3 (by decide),_,by kernel_rfl,(vh hs 22 rfl rfl),_,_,Lens.idx 9 (Z0 .i64) 4 (by decide),_,by kernel_rfl,(vh hs 27 rfl rfl),_,_,Lens.idx 9 (Z0 .i64) 5 (by decide),_,by kernel_rfl,(vh hs 32 rfl rfl),_,_,Lens.idx 9 (Z0 .i64) 6 (by decide),_,by kernel_rfl,(vh hs 37 rfl rfl),_,_,Lens.idx 9 (Z0 .i64) 7 (by decide),_,by kernel_rfl,(vh hs 42 rfl rfl),_,_,Lens.idx 9 (Z0 .i64) 8 (by decide),_,by kernel_rfl,(vh hs 47 rfl rfl),rfl⟩)<|SSt Zkr 3 rfl<|Sn ?_
 refine rt ?_
 cases h;exact Zd Tryz.results107 rfl (Zx rfl (i:=3) rfl Zkr)
def Zwo (s1:Int):Option Bool:=
 some (((decide (s1=1))||(decide (s1=2)))||(decide (s1=4)))
theorem Yvn:Q1 Tryz.prog 184 (rd (Z0 .i64)) (rd Z6) Zwo:=fun s1 r h=>I0 Tryz.func184 rfl Tryz.ntmps184 rfl fun w H Z=>by
 unfold Zwo at h
 refine SR<|Ab rfl<|Nl<|SR<|Md rfl<|Ac (Z0j rfl rfl (vt rfl) (vk rfl)) rfl<|Md rfl<|Gd rfl (fun hq=>Zq (A:=rd (Z0 .i64) s1) rfl rfl (vt rfl))<|Gd rfl (fun hq=>Z0j rfl rfl (Zi rfl hq) (vk rfl))<|Ac (Z3j rfl rfl (vt rfl) (vt rfl)) rfl<|Md rfl<|Gd rfl (fun hq=>Zq (A:=rd (Z0 .i64) s1) rfl rfl (vt rfl))<|Gd rfl (fun hq=>Z0j rfl rfl (Zi rfl hq) (vk rfl))<|Ac (Z3j rfl rfl (vt rfl) (vt rfl)) rfl<|As rfl<|Nl<|rt ?_
 cases h;exact Zd Tryz.results184 rfl (Z5 rfl)
def Zpx (n1:Int)(s2:Int):Option Bool:=
 (Zwo s2).bind fun x3=>(opt (x3&&(decide (n1≥0))) (Zjg .i64 n1 (IntKind.i64.wrap (8*s2)))).bind fun q4=>some ((x3&&(decide (n1≥0)))&&(decide (q4=0)))
theorem Y8q:Q2 Tryz.prog 108 (rd (Z0 .i64)) (rd (Z0 .i64)) (rd Z6) Zpx:=fun n1 s2 r h=>I0 Tryz.func108 rfl Tryz.ntmps108 rfl fun w H Z=>by
 unfold Zpx at h
 refine SR<|Ab rfl<|Nl<|sq ?_
 obtain ⟨x3,hx3,q4,hq4,h⟩:=bs2 h
 refine Rg<|Md rfl<|Cl [5] (Yvn _ _ hx3) Yw5 rfl<|Md rfl<|Gd rfl (fun hq=>Zq (A:=rd (Z0 .i64) n1) rfl rfl (vt rfl))<|Gd rfl (fun hq=>Z3v rfl rfl (Zi rfl hq) (vk rfl))<|Ac (Z1k rfl rfl (vt rfl) (vt rfl)) rfl<|Md rfl<|Gd rfl (fun hq=>Zq (A:=rd (Z0 .i64) n1) rfl rfl (vt rfl))<|Gd rfl (fun hq=>Zq (A:=rd (Z0 .i64) s2) rfl rfl (vt rfl))<|Gd rfl (fun hq=>Z80 rfl rfl (vk rfl) (Zi rfl hq))<|Gd rfl (fun hq=>Y4c rfl rfl (Zi rfl hq) (Zi rfl hq) (Z2i hq4 hq))<|Gd rfl (fun hq=>Z0j rfl rfl (Zi rfl hq) (vk rfl))<|Ac (Z1k rfl rfl (vt rfl) (vt rfl)) rfl<|As rfl<|Nl<|rt ?_
 cases h;exact Zd Tryz.results108 rfl (Z5 rfl)
end Go.Proofs.YtinplddjjalohaaGreatDoor.W
set_option maxHeartbeats 1000000
set_option maxRecDepth 4000
namespace Go.Proofs.YtinplddjjalohaaGreatDoor.W
open Go Go.Wb
theorem Ykb:Ent Tryz.prog 328:=Ent.mk Tryz.func328 rfl rfl
theorem Ypb:Ent Tryz.prog 261:=Ent.mk Tryz.func261 rfl rfl
theorem Yw7:Ent Tryz.prog 260:=Ent.mk Tryz.func260 rfl rfl
theorem Y94:Ent Tryz.prog 262:=Ent.mk Tryz.func262 rfl rfl
theorem Yie:Ent Tryz.prog 263:=Ent.mk Tryz.func263 rfl rfl
theorem Y20:Ent Tryz.prog 108:=Ent.mk Tryz.func108 rfl rfl
def Zr1 (p1:Oxm)(x2:Oxm):Option Bool:=
 some (decide (p1.Field=x2.Field))
theorem Yuz:Q2 Tryz.prog 261 (rd Z0h) (rp Z0h) (rd Z6) Zr1:=fun p1 x2 r h=>I0 Tryz.func261 rfl Tryz.ntmps261 rfl fun w H Z=>by
 unfold Zr1 at h
 refine SR<|Cv rfl (Zs 3 rfl rfl (vt rfl)) fun g3=>Ab rfl<|Nl<|SR<|Zk Z4f Z4r rfl<|Ld Zp 3 rfl<|Fp Z4f Z4r rfl<|Lp1 Zp rfl<|Ac (Z0j rfl rfl (vt rfl) (vt rfl)) rfl<|As rfl<|Nl<|rt ?_
 cases h;exact Zd Tryz.results261 rfl (Z5 rfl)
def Zl0 (s1:(List Oxm))(x2:(Oxm→Option Bool)):Nat→Nat→Option Int
 | 0,i3=>some (-1)
 | m4+1,i3=>(lget s1 (i3:Int)).bind fun x5=>(x2 x5).bind fun x6=>(bif x6 then some (i3:Int) else (Zl0 s1 x2 m4) (i3+1))
def Zto (s1:(List Oxm))(x2:(Oxm→Option Bool)):Option Int:=
 Zl0 s1 x2 ((s1.length:Int):Int).toNat 0
theorem Yvt:Q2 Tryz.prog 328 (rd (Z1 Z0h)) (fn1 Tryz.prog Z0h Z6) (rd (Z0 .i64)) Zto:=fun s1 x2 r h=>I0 Tryz.func328 rfl Tryz.ntmps328 rfl fun w H Z=>by
 unfold Zto at h
 refine SR<|Ak rfl<|Nl<|sq<|SR<|Md rfl<|Ac (Z0i rfl rfl Z4w (vt rfl)) rfl<|Mk rfl<|Nl<|bk<|LG (d:=[]) (ν:=Nat×Nat) (fun (m4,i3)=>(Cnt (s1.length:Int) i3 m4∧Zl0 s1 x2 m4 i3=some r,m4,[(0,rd (Z1 Z0h) s1),(1,fn1 Tryz.prog Z0h Z6 x2),(7,rd (Z0 .i64) (s1.length:Int)),(8,rd (Z0 .i64) (i3:Int))],[])) (((s1.length:Int):Int).toNat,0) ⟨Cnt.start _,h⟩ (FX rfl) ?_
 rintro ⟨m4,i3⟩ ⟨hsf1,h⟩
 dsimp only at hsf1 h ⊢
 cases m4 with
 | zero=>
  unfold Zl0 at h
  refine SR<|Ac (Zj rfl rfl (vt rfl) (vt rfl)) rfl<|Nl<|sq<|Cn rfl (fun hc=>absurd (of_decide_eq_true hc) hsf1.zero) (fun hc=>?_)
  refine xt<|SR<|Ak rfl<|Nl<|rt ?_
  cases h;exact Zd Tryz.results328 rfl (Z5 rfl)
 | succ m4=>
  unfold Zl0 at h
  refine SR<|Ac (Zj rfl rfl (vt rfl) (vt rfl)) rfl<|Nl<|sq<|Cn rfl (fun hc=>?_) (fun hc=>absurd hsf1.succ (of_decide_eq_false hc))
  have hlti3:=of_decide_eq_true hc
  refine sk<|sq<|bk<|SR<|Md rfl<|As rfl<|Nl<|sq ?_
  obtain ⟨x5,hx5,x6,hx6,h⟩:=bs2 h
  refine Rg<|Ac (Zq (A:=fn1 Tryz.prog Z0h Z6 x2) rfl rfl (vt rfl)) rfl<|Md rfl<|Md rfl<|Ac (Z0k rfl rfl Z4w (vt rfl) (vt rfl) hx5) rfl<|Lp1 Z7f rfl<|Ac (Zat hx6 rfl rfl (vt rfl) (vt rfl)) rfl<|Nl<|Cq rfl h (fun h=>?_) (fun h=>?_)
  ·refine SR<|Md rfl<|As rfl<|Nl<|rt ?_
   cases h;exact Zd Tryz.results328 rfl (Z5 rfl)
  ·refine sk<|Rg<|Ac (Z12 (t:=7) rfl rfl (vt rfl) (vk rfl) (vt rfl) hlti3) rfl<|Md rfl<|Nl ?_
   exact ⟨(_,_),Nat.lt_succ_self _,⟨hsf1.next,h⟩,FX rfl⟩
def Zuk (s1:(List Oxm))(x2:(Oxm→Option Bool)):Option Bool:=
 (Zto s1 x2).bind fun x3=>some (decide (x3≥0))
theorem Yxi:Q2 Tryz.prog 260 (rd (Z1 Z0h)) (fn1 Tryz.prog Z0h Z6) (rd Z6) Zuk:=fun s1 x2 r h=>I0 Tryz.func260 rfl Tryz.ntmps260 rfl fun w H Z=>by
 unfold Zuk at h
 refine SR<|Ab rfl<|Nl<|sq ?_
 obtain ⟨x3,hx3,h⟩:=Z7 h
 refine Rg<|Md rfl<|Ac (Zq (A:=fn1 Tryz.prog Z0h Z6 x2) rfl rfl (vt rfl)) rfl<|Cl [5,6] (Yvt _ _ _ hx3) Ykb rfl<|Ac (Z3v rfl rfl (vt rfl) (vk rfl)) rfl<|As rfl<|Nl<|rt ?_
 cases h;exact Zd Tryz.results260 rfl (Z5 rfl)
def Zoa (x1:Int):Option Fault:=
 some (⟨true,4,x1⟩:Fault)
theorem Y1z:Q1 Tryz.prog 262 (rd (Z0 .i64)) (rd Z3o) Zoa:=fun x1 r h=>I0 Tryz.func262 rfl Tryz.ntmps262 rfl fun w H Z=>by
 unfold Zoa at h
 refine SR<|Cv rfl (Zm 3 rfl rfl Z5x) fun g2=>Nl<|SR<|Md rfl<|Ac (opb (⟨true,4,x1⟩:Fault) Z5x rfl Zdw (pc Zup vb<|pc Zy4 (vk rfl)<|pc Ztw (vt rfl)<|pn rfl)) rfl<|Zg Z2u 3 rfl<|Nl<|rt ?_
 cases h;exact Zd Tryz.results262 rfl (Zx rfl (i:=3) rfl Z2u)
def Y8b (l1:(List Oxm))(x2:Int):Option Bool:=none
theorem Yt9 (l1:(List Oxm))(x2:Int)(r:Bool)(h:Y8b l1 x2=some r):PCon Tryz.prog 263 [rd (Z1 Z0h) l1,rd (Z0 .i64) x2] (rd Z6 r):=by cases h
def Zkq (l1:(List Oxm)):(List Oxm)→Nat→Option Fault
 | [],i3=>some (⟨false,0,0⟩:Fault)
 | x5::l4,i3=>(Z45 l1 (i3:Int)).bind fun s7=>(Zuk s7 (fun x=>Zr1 x x5)).bind fun x8=>(bif x8 then (Zoa 10).bind fun x9=>some x9 else (Z45 l1 (i3:Int)).bind fun s10=>(Y8b s10 x5.Field).bind fun x11=>(bif (!x11) then (Zoa 9).bind fun x12=>some x12 else (Zkq l1 l4) (i3+1)))
def Zt0 (l1:(List Oxm)):Option Fault:=
 Zkq l1 l1 0
theorem Ytj:Q1 Tryz.prog 185 (rd (Z1 Z0h)) (rd Z3o) Zt0:=fun l1 r h=>I0 Tryz.func185 rfl Tryz.ntmps185 rfl fun w H Z=>by
 unfold Zt0 at h
 refine SR<|Cv rfl (Zm 3 rfl rfl Z5x) fun g2=>Nl<|sq<|SR<|Md rfl<|Ac (Z0i rfl rfl Z4w (vt rfl)) rfl<|Mk rfl<|Nl<|bk<|LG (d:=[]) (ν:=(List Oxm)×Nat) (fun (l4,i3)=>(Sfx l1 i3 l4∧Zkq l1 l4 i3=some r,l4.length,[(0,rd (Z1 Z0h) l1),(2,Zc g2 (Lens.id Z3o)),(5,rd (Z1 Z0h) l1),(6,rd (Z0 .i64) (l1.length:Int)),(7,rd (Z0 .i64) (i3:Int))],[(3,Zh g2 98 Z3o Zjq)])) (l1,0) ⟨Sfx.start _,h⟩ (FX rfl) ?_
 rintro ⟨l4,i3⟩ ⟨hsf1,h⟩
 dsimp only at hsf1 h ⊢
 cases l4 with
 | nil=>
  unfold Zkq at h
  refine SR<|Ac (Zj rfl rfl (vt rfl) (vt rfl)) rfl<|Nl<|sq<|Cn rfl (fun hc=>absurd (of_decide_eq_true hc) hsf1.nil) (fun hc=>?_)
  refine xt<|SR<|Ac (opb (⟨false,0,0⟩:Fault) Z5x rfl Zdw (pn rfl)) rfl<|Zg Z2u 3 rfl<|Nl<|rt ?_
  cases h;exact Zd Tryz.results185 rfl (Zx rfl (i:=3) rfl Z2u)
 | cons x5 l4=>
  unfold Zkq at h
  refine SR<|Ac (Zj rfl rfl (vt rfl) (vt rfl)) rfl<|Nl<|sq<|Cn rfl (fun hc=>?_) (fun hc=>absurd hsf1.cons (of_decide_eq_false hc))
  have hlti3:=of_decide_eq_true hc
  refine sk<|sq<|bk<|SR<|Md rfl<|Ac (Z0k rfl rfl Z4w (vt rfl) (vt rfl) hsf1.lget) rfl<|Lp1 Z7f rfl<|Cv rfl (Zm 5 rfl rfl Zri) fun g6=>As rfl<|Zg Z7f 5 rfl<|Nl<|sq<|sq<|AW.freezeB 4 5 rfl rfl rfl ?_
  obtain ⟨s7,hs7,x8,hx8,h⟩:=bs2 h
  refine Rg<|Md rfl<|Md rfl<|Ac (Zqz hs7 rfl rfl Z4w (vt rfl) (vt rfl)) rfl<|Ac (Z9b (cs:=[.tmp 4]) (CAs:=[rp Z0h x5]) (fun x=>Zr1 x x5) rfl rfl Ypb ⟨vt rfl,trivial⟩ (fun x y h=>Yuz _ _ y h)) rfl<|Cl [14,15] (Yxi _ _ _ hx8) Yw7 rfl<|Nl<|Cq rfl h (fun h=>?_) (fun h=>?_)
  ·refine sq ?_
   obtain ⟨x9,hx9,h⟩:=Z7 h
   refine Rg<|Ac (Z0c (xs:=[.const (Value.int IntKind.i64 10)]) (Y1z _ _ hx9) Y94 rfl rfl ⟨vk rfl,trivial⟩) rfl<|Zg Z2u 3 rfl<|Nl<|rt ?_
   cases h;exact Zd Tryz.results185 rfl (Zx rfl (i:=3) rfl Z2u)
  ·refine sk<|sq ?_
   obtain ⟨s10,hs10,x11,hx11,h⟩:=bs2 h
   refine AR Z00 (by kernel_rfl)<|Zt rfl<|Zt rfl<|Sd (lo [18,19] [] rfl fun S hs hr=>Zqz hs10 rfl rfl Z4w (vh hs 18 rfl rfl) (vh hs 19 rfl rfl))<|SFp Z4f Z4r rfl<|SLp Zp rfl<|SCl [20,22] (Yt9 _ _ _ hx11) Yie rfl<|Sd (lo [23] [] rfl fun S hs hr=>Z0y rfl rfl (vh hs 23 rfl rfl))<|Sn<|Cq rfl h (fun h=>?_) (fun h=>?_)
   ·refine sq ?_
    obtain ⟨x12,hx12,h⟩:=Z7 h
    refine Rg<|Ac (Z0c (xs:=[.const (Value.int IntKind.i64 9)]) (Y1z _ _ hx12) Y94 rfl rfl ⟨vk rfl,trivial⟩) rfl<|Zg Z2u 3 rfl<|Nl<|rt ?_
    cases h;exact Zd Tryz.results185 rfl (Zx rfl (i:=3) rfl Z2u)
   ·refine sk<|Rg<|Ac (Z12 (t:=6) rfl rfl (vt rfl) (vk rfl) (vt rfl) hlti3) rfl<|Md rfl<|Nl ?_
    exact ⟨(_,_),Nat.lt_succ_self _,⟨hsf1.next,h⟩,FX rfl⟩
def Zlu (b1:(List Int))(s3:Int)(n2:Int):Nat→Nat→Y8x→Option (List Int)
 | 0,i10,b9=>(Z45 b1 (b1.length:Int)).bind fun s12=>(Z5z (Vector.toList b9) (IntKind.i64.wrap (4 - s3))).bind fun s13=>(Zvv s12 s13).bind fun l14=>some l14
 | m11+1,i10,b9=>(Zjg .i64 n2 (IntKind.i64.wrap (24 - (IntKind.i64.wrap (8*(i10:Int)))))).bind fun q16=>(chk 4 (i10:Int)).bind fun j17=>(Zlu b1 s3 n2 m11) (i10+1) (Vector.set b9 j17.1 (IntKind.u8.wrap q16) j17.2)
def Zbz (b1:(List Int))(n2:Int)(s3:Int):Option (List Int):=
 (Zpx n2 s3).bind fun x4=>(bif (!x4) then (Z0v [] b1).bind fun l5=>some l5 else Zlu b1 s3 n2 (4:Int).toNat 0 (Vector.replicate 4 0))
theorem Zoq (b1:(List Int))(n2:Int)(s3:Int)(r:(List Int))(h:Zbz b1 n2 s3=some r):Con Tryz.prog 99 [rd (Z1 (Z0 .u8)) b1,rd (Z0 .i64) n2,rd (Z0 .i64) s3] emp (fun v=>Zb v) (fun v=>Zf v 5 (Z0 .u8) r):=by
 refine Con.intro0 Tryz.func99 rfl Tryz.ntmps99 rfl fun w H Z=>?_
 unfold Zbz at h
 refine sq<|AW.newnil 1001 5 (Z0 .u8)<|Rg<|Ac (Zv rfl rfl vc) rfl<|Nl<|sq<|sq ?_
 obtain ⟨x4,hx4,h⟩:=Z7 h
 refine Rg<|Md rfl<|Md rfl<|Cl [9,10] (Y8q _ _ _ hx4) Y20 rfl<|Ac (Z0y rfl rfl (vt rfl)) rfl<|Nl<|Cq rfl h (fun h=>?_) (fun h=>?_)
 ·refine sq<|AW.newnil 1002 5 (Z0 .u8) ?_
  obtain ⟨l5,hl5,h⟩:=Z7 h
  refine Rg<|Md rfl<|Cv rfl (Z29 1002 hl5 rfl rfl Zla vc rfl (vt rfl)) fun v6=>AOps.renameD 1002 1001 (by decide) rfl<|Aw rfl<|Nl<|rt ?_
  cases h;exact Z3m (i:=1001) Tryz.results99 rfl rfl rfl
 ·refine sk<|SR<|Cv rfl (Zm 8 rfl rfl Yct) fun g7=>Nl<|sq<|SR<|Mk rfl<|Nl<|bk<|LG (d:=[]) (ν:=Nat×Nat×Y8x) (fun (m11,i10,b9)=>(Cnt 4 i10 m11∧Zlu b1 s3 n2 m11 i10 b9=some r,m11,[(0,rd (Z1 (Z0 .u8)) b1),(1,rd (Z0 .i64) n2),(2,rd (Z0 .i64) s3),(7,Zc g7 (Lens.id (Z3 4 (Z0 .u8)))),(15,rd (Z0 .i64) (i10:Int))],[(8,Zh g7 249 (Z3 4 (Z0 .u8)) b9)])) ((4:Int).toNat,0,(Vector.replicate 4 0)) ⟨Cnt.start _,h⟩ (FX rfl) ?_
  rintro ⟨m11,i10,b9⟩ ⟨hsf1,h⟩
  dsimp only at hsf1 h ⊢
  cases m11 with
  | zero=>
   unfold Zlu at h
   refine SR<|Ac (Zj rfl rfl (vt rfl) (vk rfl)) rfl<|Nl<|sq<|Cn rfl (fun hc=>absurd (of_decide_eq_true hc) hsf1.zero) (fun hc=>?_)
   refine xt<|sq<|AW.freezeB 7 8 rfl rfl rfl ?_
   obtain ⟨s12,hs12,s13,hs13,l14,hl14,h⟩:=bs3 h
   refine AR Z00 (by kernel_rfl)<|Zt rfl<|Zt rfl<|Sd (lo [28] [] rfl fun S hs hr=>Z0i rfl rfl Z86 (vh hs 28 rfl rfl))<|Zt rfl<|Sd (lo [30] [] rfl fun S hs hr=>Z0i rfl rfl Z86 (vh hs 30 rfl rfl))<|Sd (lo [27,29,31] [] rfl fun S hs hr=>Zvu hs12 rfl rfl Z86 (vh hs 27 rfl rfl) (vh hs 29 rfl rfl) (vh hs 31 rfl rfl))<|Zt rfl<|Sd (lo [33] [] rfl fun S hs hr=>Z0r rfl rfl (vk rfl) (vh hs 33 rfl rfl))<|Sd (lo [7,34] [] rfl fun S hs hr=>Yht hs13 rfl rfl Y9u rfl (vh hs 7 rfl rfl) (vh hs 34 rfl rfl))<|Sd (Z19 (us:=[(36,Z1p 5 (Z0 .u8) l14)]) (ur:=[]) [32,35] [1004] rfl fun S hs hr=>Y7j (Yne 1004 hl14 rfl rfl Zla (vh hs 32 rfl rfl) (vh hs 35 rfl rfl)) rfl ((hr 1004 rfl).trans rfl))<|Sd (Z19 (us:=[(36,top),(6,Z1p 5 (Z0 .u8) l14)]) (ur:=[]) [36] [1005] rfl fun S hs hr=>Zif 1005 rfl rfl rfl rfl ((hs 36 rfl).trans rfl) ((hr 1005 rfl).trans rfl))<|Sn<|AW.unpackR 6 1003 rfl rfl fun v15=>rt ?_
   cases h;exact Z3m (i:=1003) Tryz.results99 rfl rfl rfl
  | succ m11=>
   unfold Zlu at h
   refine SR<|Ac (Zj rfl rfl (vt rfl) (vk rfl)) rfl<|Nl<|sq<|Cn rfl (fun hc=>?_) (fun hc=>absurd hsf1.succ (of_decide_eq_false hc))
   have hlti10:=of_decide_eq_true hc
   refine sk<|sq<|bk<|SR<|Md rfl<|As rfl<|Nl ?_
   obtain ⟨q16,hq16,j17,hj17,h⟩:=bs2 h
   refine Rg<|Md rfl<|Md rfl<|Md rfl<|Ac (Z80 rfl rfl (vk rfl) (vt rfl)) rfl<|Ac (Z0r rfl rfl (vk rfl) (vt rfl)) rfl<|Ac (Y4c rfl rfl (vt rfl) (vt rfl) hq16) rfl<|Ac (Yb8 rfl rfl us3 un5 (vt rfl)) rfl<|Ac (Z13 rfl rfl Y9u (vt rfl) (vt rfl) hj17) rfl<|Zg ty5 8 rfl<|Nl<|Rg<|Ac (Z5f rfl rfl (vt rfl) (vk rfl) rfl hlti10) rfl<|Md rfl<|Nl ?_
   exact ⟨(_,_,_),Nat.lt_succ_self _,⟨hsf1.next,h⟩,FX rfl⟩
theorem Y3z (b1:(List Int))(n2:Int)(s3:Int)(r:(List Int))(h:Zbz b1 n2 s3=some r):PCon Tryz.prog 99 [rd (Z1 (Z0 .u8)) b1,rd (Z0 .i64) n2,rd (Z0 .i64) s3] (rd (Z1 (Z0 .u8)) r):=PCon.of_row (Zoq b1 n2 s3 r h)
def Y9l (o1:Oxm):Option ((List Int)×Int):=none
theorem Yn3 (o1:Oxm)(r:((List Int)×Int))(h:Y9l o1=some r):PCon Tryz.prog 186 [rd Z0h o1] (Z10 (rd (Z1 (Z0 .u8)) r.1) (rd (Z0 .i64) r.2)):=by cases h
def Zwj (n1:Int):Option Int:=
 some (Zit .andNot .i64 (IntKind.i64.wrap (n1+7)) 7)
theorem Ytf:Q1 Tryz.prog 187 (rd (Z0 .i64)) (rd (Z0 .i64)) Zwj:=fun n1 r h=>I0 Tryz.func187 rfl Tryz.ntmps187 rfl fun w H Z=>by
 unfold Zwj at h
 refine SR<|Ak rfl<|Nl<|SR<|Md rfl<|Ac (Z06 rfl rfl (vt rfl) (vk rfl)) rfl<|Ac (Ykl rfl rfl (vt rfl) (vk rfl)) rfl<|As rfl<|Nl<|rt ?_
 cases h;exact Zd Tryz.results187 rfl (Z5 rfl)
end Go.Proofs.YtinplddjjalohaaGreatDoor.W
set_option maxHeartbeats 1000000
set_option maxRecDepth 4000
namespace Go.Proofs.YtinplddjjalohaaGreatDoor.W
open Go Go.Wb
theorem Ywy:Ent Tryz.prog 185:=Ent.mk Tryz.func185 rfl rfl
theorem e99:Ent Tryz.prog 99:=Ent.mk Tryz.func99 rfl rfl
theorem Yi6:Ent Tryz.prog 187:=Ent.mk Tryz.func187 rfl rfl
theorem Ysg:Ent Tryz.prog 186:=Ent.mk Tryz.func186 rfl rfl
theorem Yia:Ent Tryz.prog 188:=Ent.mk Tryz.func188 rfl rfl
theorem Yeq:Ent Tryz.prog 189:=Ent.mk Tryz.func189 rfl rfl
theorem Zss:Ent Tryz.prog 190:=Ent.mk Tryz.func190 rfl rfl
theorem Yxh:Ent Tryz.prog 191:=Ent.mk Tryz.func191 rfl rfl
theorem Yiq:Ent Tryz.prog 192:=Ent.mk Tryz.func192 rfl rfl
theorem Yo9:Ent Tryz.prog 106:=Ent.mk Tryz.func106 rfl rfl
theorem Ytc:Ent Tryz.prog 107:=Ent.mk Tryz.func107 rfl rfl
theorem Yuh:Ent Tryz.prog 109:=Ent.mk Tryz.func109 rfl rfl
theorem Ypu:Ent Tryz.prog 110:=Ent.mk Tryz.func110 rfl rfl
theorem Yw0:Ent Tryz.prog 111:=Ent.mk Tryz.func111 rfl rfl
def Zmm:(List Oxm)→Nat→(List Int)→Option ((List Int)×Int)
 | [],i10,l8=>(bif (decide ((l8.length:Int)>1004)) then some ([],1) else (Z5z l8 2).bind fun s12=>(Zbz [] (l8.length:Int) 2).bind fun x13=>(Zwj ((cpy l8 (2:Int).toNat x13).length:Int)).bind fun x14=>(Zrz 0 (cpy l8 (2:Int).toNat x13) (IntKind.i64.wrap (x14 - ((cpy l8 (2:Int).toNat x13).length:Int)))).bind fun l15=>some (l15,0))
 | x17::l11,i10,l8=>(Y9l x17).bind fun x19=>(bif (decide (x19.2≠0)) then some ([],x19.2) else (Z0v l8 x19.1).bind fun l20=>(Zmm l11) (i10+1) l20)
def Zyb (l1:(List Oxm)):Option ((List Int)×Int):=
 (Zt0 l1).bind fun x2=>(bif x2.Is then some ([],1) else (Zbz [] 1 2).bind fun x3=>(Zbz x3 0 2).bind fun x4=>Zmm l1 0 x4)
theorem Yuu:Q1 Tryz.prog 109 (rd (Z1 Z0h)) (fun r=>Z10 (rd (Z1 (Z0 .u8)) r.1) (rd (Z0 .i64) r.2)) Zyb:=fun l1 r h=>I0 Tryz.func109 rfl Tryz.ntmps109 rfl fun w H Z=>by
 unfold Zyb at h
 refine SR<|Ac (Zv (A:=rd (Z1 (Z0 .u8)) []) rfl rfl Z1f) rfl<|Ak rfl<|Nl<|sq<|sq ?_
 obtain ⟨x2,hx2,h⟩:=Z7 h
 refine Rg<|Md rfl<|Cl [9] (Ytj _ _ hx2) Ywy rfl<|Ac (Zin lFault_0 rfl rfl Zop Zqd ty4 rfl (vt rfl)) rfl<|Nl<|Cq rfl h (fun h=>?_) (fun h=>?_)
 ·refine SR<|Ac (Zv (A:=rd (Z1 (Z0 .u8)) []) rfl rfl Z1f) rfl<|Ak rfl<|Nl<|rt ?_
  cases h;exact Z1d Tryz.results109 rfl (Z5 rfl) (Z5 rfl)
 ·refine sk<|sq ?_
  obtain ⟨x3,hx3,x4,hx4,h⟩:=bs2 h
  refine Rg<|Ac (Z0c (xs:=[.const (Value.slice none 0 0),.const (Value.int IntKind.i64 1),.const (Value.int IntKind.i64 2)]) (Y3z _ _ _ _ hx3) e99 rfl rfl ⟨Z1f,vk rfl,vk rfl,trivial⟩) rfl<|Cv rfl (Z1a 1001 (xs:=[.tmp 12,.const (Value.int IntKind.i64 0),.const (Value.int IntKind.i64 2)]) (Zoq _ _ _ _ hx4) e99 rfl rfl ⟨vt rfl,vk rfl,vk rfl,trivial⟩ rfl) fun v5=>Aw rfl<|Nl<|sq<|SR<|Md rfl<|Ac (Z0i rfl rfl Z4w (vt rfl)) rfl<|Mk rfl<|Nl<|bk<|LG (d:=[]) (ν:=(List Oxm)×Nat×(List Int)×Value) (fun (l11,i10,l8,v9)=>(Sfx l1 i10 l11∧Zmm l11 i10 l8=some r,l11.length,[(4,Zb v9),(14,rd (Z1 Z0h) l1),(15,rd (Z0 .i64) (l1.length:Int)),(16,rd (Z0 .i64) (i10:Int))],[(1001,Zf v9 5 (Z0 .u8) l8)])) (l1,0,x4,v5) ⟨Sfx.start _,h⟩ (FX rfl) ?_
  rintro ⟨l11,i10,l8,v9⟩ ⟨hsf1,h⟩
  dsimp only at hsf1 h ⊢
  cases l11 with
  | nil=>
   unfold Zmm at h
   refine SR<|Ac (Zj rfl rfl (vt rfl) (vt rfl)) rfl<|Nl<|sq<|Cn rfl (fun hc=>absurd (of_decide_eq_true hc) hsf1.nil) (fun hc=>?_)
   refine xt<|sq<|SR<|Mw rfl<|Ac (Z4k 1001 rfl rfl Z86 (vt rfl) rfl) rfl<|Ac (Z2m rfl rfl (vt rfl) (vk rfl)) rfl<|Nl<|Cq rfl h (fun h=>?_) (fun h=>?_)
   ·refine SR<|Ac (Zv (A:=rd (Z1 (Z0 .u8)) []) rfl rfl Z1f) rfl<|Ak rfl<|Nl<|rt ?_
    cases h;exact Z1d Tryz.results109 rfl (Z5 rfl) (Z5 rfl)
   ·refine sk<|sq ?_
    obtain ⟨s12,hs12,x13,hx13,h⟩:=bs2 h
    refine AR Z00 (by kernel_rfl)<|SMw rfl<|Sd (lo [35] [1001] rfl fun S hs hr=>Y1c 1001 hs12 rfl rfl Z86 (vh hs 35 rfl rfl) ((hr 1001 rfl).trans rfl) (vk rfl))<|SMw rfl<|Sd (lo [37] [1001] rfl fun S hs hr=>Z4k 1001 rfl rfl Z86 (vh hs 37 rfl rfl) ((hr 1001 rfl).trans rfl))<|Sd (lo [38] [] rfl fun S hs hr=>Z0c (xs:=[.const (Value.slice none 0 0),.tmp 38,.const (Value.int IntKind.i64 2)]) (Y3z _ _ _ _ hx13) e99 rfl rfl ⟨Z1f,vt ((hs 38 rfl).trans rfl),vk rfl,trivial⟩)<|Sd (Z19 (us:=[(40,rd (Z0 .i64) ((Nat.min (List.length x13) (List.length l8 - (2:Int).toNat):Nat):Int))]) (ur:=[(1001,Zf v9 5 (Z0 .u8) (cpy l8 (2:Int).toNat x13))]) [36,39] [1001] rfl fun S hs hr=>Yip 1001 rfl rfl Z86 rfl (vh hs 36 rfl rfl) ((hr 1001 rfl).trans rfl) (Zkk hs12).2.1 (vh hs 39 rfl rfl))<|Sn<|sq ?_
    obtain ⟨x14,hx14,l15,hl15,h⟩:=bs2 h
    refine Rg<|Mw rfl<|Mw rfl<|Ac (Z4k 1001 rfl rfl Z86 (vt rfl) rfl) rfl<|Cl [43] (Ytf _ _ hx14) Yi6 rfl<|Mw rfl<|Ac (Z4k 1001 rfl rfl Z86 (vt rfl) rfl) rfl<|Ac (Z0r rfl rfl (vt rfl) (vt rfl)) rfl<|Cv rfl (Yhq 1001 hl15 rfl rfl Zla zr5 un3 (vt rfl) rfl (vt rfl)) fun v16=>Aw rfl<|Ak rfl<|Nl<|AW.freezes [2,48] 1001 rfl ⟨rfl,rfl,trivial⟩ rfl<|rt ?_
    cases h;exact Z1d Tryz.results109 rfl (Z5 rfl) (Z5 rfl)
  | cons x17 l11=>
   unfold Zmm at h
   refine SR<|Ac (Zj rfl rfl (vt rfl) (vt rfl)) rfl<|Nl<|sq<|Cn rfl (fun hc=>?_) (fun hc=>absurd hsf1.cons (of_decide_eq_false hc))
   have hlti10:=of_decide_eq_true hc
   refine sk<|sq<|bk<|SR<|Ac (Z0k rfl rfl Z4w (vt rfl) (vt rfl) hsf1.lget) rfl<|Lp1 Z7f rfl<|Cv rfl (Zm 7 rfl rfl Zri) fun g18=>Zg Z7f 7 rfl<|Nl<|sq ?_
   obtain ⟨x19,hx19,h⟩:=Z7 h
   refine Rg<|Ld Z7f 7 rfl<|Cl [21] (Yn3 _ _ hx19) Ysg rfl<|Mt2 rfl<|Ac (Z1c rfl rfl (vt rfl)) rfl<|Ac (Z18 rfl rfl (vt rfl)) rfl<|As rfl<|As rfl<|Nl<|sq<|SR<|Md rfl<|Ac (Z5t rfl rfl (vt rfl) (vk rfl)) rfl<|Nl<|Cq rfl h (fun h=>?_) (fun h=>?_)
   ·refine SR<|Md rfl<|Ac (Zv (A:=rd (Z1 (Z0 .u8)) []) rfl rfl Z1f) rfl<|As rfl<|Nl<|rt ?_
    cases h;exact Z1d Tryz.results109 rfl (Z5 rfl) (Z5 rfl)
   ·refine sk ?_
    obtain ⟨l20,hl20,h⟩:=Z7 h
    refine Rg<|Mw rfl<|Md rfl<|Cv rfl (Z29 1001 hl20 rfl rfl Zla (vt rfl) rfl (vt rfl)) fun v21=>Aw rfl<|Nl<|Rg<|Ac (Z12 (t:=15) rfl rfl (vt rfl) (vk rfl) (vt rfl) hlti10) rfl<|Md rfl<|Nl ?_
    exact ⟨(_,_,_,_),Nat.lt_succ_self _,⟨hsf1.next,h⟩,FX rfl⟩
def Y59 (i1:Inst):Option Bool:=none
theorem Yoi (i1:Inst)(r:Bool)(h:Y59 i1=some r):PCon Tryz.prog 188 [rd Z0a i1] (rd Z6 r):=by cases h
def Ya9 (i1:Inst):Option (List Int):=none
theorem Yt3 (i1:Inst)(r:(List Int))(h:Ya9 i1=some r):PCon Tryz.prog 189 [rd Z0a i1] (rd (Z1 (Z0 .u8)) r):=by cases h
def Znr:(List Inst)→Nat→(List Int)→(List (Int×Int))→Option ((List Int)×Int)
 | [],i9,l6,m8=>(bif (decide ((l6.length:Int)>60000)) then some ([],1) else some (l6,0))
 | x11::l10,i9,l6,m8=>(Y59 x11).bind fun x13=>(bif ((!x13)||(decide ((Z0n (Z1x m8 x11.Kind (IntKind.i64.wrap ((Z0n m8 x11.Kind)+1))) x11.Kind)>1))) then some ([],1) else (Ya9 x11).bind fun x14=>(Zbz l6 x11.Kind 2).bind fun x15=>(Zbz x15 (IntKind.i64.wrap (4+(x14.length:Int))) 2).bind fun x16=>(Z0v x16 x14).bind fun l18=>(Znr l10) (i9+1) l18 (Z1x m8 x11.Kind (IntKind.i64.wrap ((Z0n m8 x11.Kind)+1))))
def Zy1 (l1:(List Inst)):Option ((List Int)×Int):=
 Znr l1 0 [] []
theorem Yq5:Q1 Tryz.prog 110 (rd (Z1 Z0a)) (fun r=>Z10 (rd (Z1 (Z0 .u8)) r.1) (rd (Z0 .i64) r.2)) Zy1:=fun l1 r h=>I0 Tryz.func110 rfl Tryz.ntmps110 rfl fun w H Z=>by
 unfold Zy1 at h
 refine SR<|Ac (Zv (A:=rd (Z1 (Z0 .u8)) []) rfl rfl Z1f) rfl<|Ak rfl<|Nl<|sq<|AW.newnil 1001 5 (Z0 .u8)<|Rg<|Ac (Zv rfl rfl vc) rfl<|Nl<|SR<|Cv rfl (Zwz (Z0 .i64) 10 rfl rfl) fun g2=>Aw rfl<|Nl<|sq<|SR<|Md rfl<|Ac (Z0i rfl rfl Z4p (vt rfl)) rfl<|Mk rfl<|Nl<|bk<|LG (d:=[]) (ν:=(List Inst)×Nat×(List Int)×(List (Int×Int))×Value) (fun (l10,i9,l6,m8,v7)=>(Sfx l1 i9 l10∧Znr l10 i9 l6 m8=some r,l10.length,[(4,Zb v7),(5,Zb (.map (some g2))),(10,rd (Z1 Z0a) l1),(11,rd (Z0 .i64) (l1.length:Int)),(12,rd (Z0 .i64) (i9:Int))],[(10,Z2g g2 (Z0 .i64) m8),(1001,Zf v7 5 (Z0 .u8) l6)])) (l1,0,[],[],(.slice none 0 0)) ⟨Sfx.start _,h⟩ (FX rfl) ?_
 rintro ⟨l10,i9,l6,m8,v7⟩ ⟨hsf1,h⟩
 dsimp only at hsf1 h ⊢
 cases l10 with
 | nil=>
  unfold Znr at h
  refine SR<|Ac (Zj rfl rfl (vt rfl) (vt rfl)) rfl<|Nl<|sq<|Cn rfl (fun hc=>absurd (of_decide_eq_true hc) hsf1.nil) (fun hc=>?_)
  refine xt<|sq<|SR<|Mw rfl<|Ac (Z4k 1001 rfl rfl Z86 (vt rfl) rfl) rfl<|Ac (Z2m rfl rfl (vt rfl) (vk rfl)) rfl<|Nl<|Cq rfl h (fun h=>?_) (fun h=>?_)
  ·refine SR<|Ac (Zv (A:=rd (Z1 (Z0 .u8)) []) rfl rfl Z1f) rfl<|Ak rfl<|Nl<|rt ?_
   cases h;exact Z1d Tryz.results110 rfl (Z5 rfl) (Z5 rfl)
  ·refine sk<|SR<|Mw rfl<|Aw rfl<|Ak rfl<|Nl<|AW.freezes [2,4,45,48] 1001 rfl ⟨rfl,rfl,rfl,rfl,trivial⟩ rfl<|rt ?_
   cases h;exact Z1d Tryz.results110 rfl (Z5 rfl) (Z5 rfl)
 | cons x11 l10=>
  unfold Znr at h
  refine SR<|Ac (Zj rfl rfl (vt rfl) (vt rfl)) rfl<|Nl<|sq<|Cn rfl (fun hc=>?_) (fun hc=>absurd hsf1.cons (of_decide_eq_false hc))
  have hlti9:=of_decide_eq_true hc
  refine sk<|sq<|bk<|SR<|Ac (Z0k rfl rfl Z4p (vt rfl) (vt rfl) hsf1.lget) rfl<|Lp1 Z25 rfl<|Cv rfl (Zm 8 rfl rfl Z3f) fun g12=>Zg Z25 8 rfl<|Nl<|SR<|Mw rfl<|Zk Ze4 Zf7 rfl<|Ld Zp 8 rfl<|Ac (Zqu (i:=10) rfl rfl Zdj (vt rfl) rfl (vt rfl)) rfl<|Ac (Z06 rfl rfl (vt rfl) (vk rfl)) rfl<|Ac (Y5d (i:=10) rfl rfl Zdj (vt rfl) rfl (vt rfl) (vt rfl)) rfl<|Nl<|sq<|sq ?_
  obtain ⟨x13,hx13,h⟩:=Z7 h
  refine Rg<|Ld Z25 8 rfl<|Cl [21] (Yoi _ _ hx13) Yia rfl<|Ac (Z0y rfl rfl (vt rfl)) rfl<|Md rfl<|Gd rfl (fun hq=>Zq (A:=Zb (.map (some g2))) rfl rfl (vt rfl))<|Gd rfl (fun hq=>Z2n Ze4 rfl rfl Zf7 (vt rfl))<|Gd rfl (fun hq=>Z1s rfl rfl Zp (Zi rfl hq) (i:=8) rfl)<|Gd rfl (fun hq=>Zqu (i:=10) rfl rfl Zdj (Zi rfl hq) rfl (Zi rfl hq))<|Gd rfl (fun hq=>Z2m rfl rfl (Zi rfl hq) (vk rfl))<|Ac (Z3j rfl rfl (vt rfl) (vt rfl)) rfl<|Nl<|Cq rfl h (fun h=>?_) (fun h=>?_)
  ·refine SR<|Ac (Zv (A:=rd (Z1 (Z0 .u8)) []) rfl rfl Z1f) rfl<|Ak rfl<|Nl<|rt ?_
   cases h;exact Z1d Tryz.results110 rfl (Z5 rfl) (Z5 rfl)
  ·refine sk<|sq ?_
   obtain ⟨x14,hx14,h⟩:=Z7 h
   refine Rg<|Ld Z25 8 rfl<|Cl [31] (Yt3 _ _ hx14) Yeq rfl<|As rfl<|Nl<|sq ?_
   obtain ⟨x15,hx15,x16,hx16,h⟩:=bs2 h
   refine Rg<|Mw rfl<|Zk Ze4 Zf7 rfl<|Ld Zp 8 rfl<|Ac (Yma (xs:=[.tmp 33,.tmp 35,.const (Value.int IntKind.i64 2)]) 1001 (Zoq _ _ _ _ hx15) e99 rfl rfl ⟨vL rfl rfl,vB (vt rfl),vB (vk rfl),trivial⟩) rfl<|Md rfl<|Ac (Z0i rfl rfl Z86 (vt rfl)) rfl<|Ac (Z06 rfl rfl (vk rfl) (vt rfl)) rfl<|Cv rfl (Z1a 1002 (xs:=[.tmp 36,.tmp 39,.const (Value.int IntKind.i64 2)]) (Zoq _ _ _ _ hx16) e99 rfl rfl ⟨vt rfl,vt rfl,vk rfl,trivial⟩ rfl) fun v17=>AOps.renameD 1002 1001 (by decide) rfl<|Aw rfl<|Nl ?_
   obtain ⟨l18,hl18,h⟩:=Z7 h
   refine Rg<|Mw rfl<|Md rfl<|Cv rfl (Z29 1001 hl18 rfl rfl Zla (vt rfl) rfl (vt rfl)) fun v19=>Aw rfl<|Nl<|Rg<|Ac (Z12 (t:=11) rfl rfl (vt rfl) (vk rfl) (vt rfl) hlti9) rfl<|Md rfl<|Nl ?_
   exact ⟨(_,_,_,_,_),Nat.lt_succ_self _,⟨hsf1.next,h⟩,FX rfl⟩
def Znq (k1:Int)(x2:Int):Option Fault:=
 some (⟨true,k1,x2⟩:Fault)
theorem Zv9:Q2 Tryz.prog 190 (rd (Z0 .i64)) (rd (Z0 .i64)) (rd Z3o) Znq:=fun k1 x2 r h=>I0 Tryz.func190 rfl Tryz.ntmps190 rfl fun w H Z=>by
 unfold Znq at h
 refine SR<|Cv rfl (Zm 5 rfl rfl Z5x) fun g3=>Nl<|SR<|Md rfl<|Md rfl<|Ac (opb (⟨true,k1,x2⟩:Fault) Z5x rfl Zdw (pc Zup vb<|pc Zy4 (vt rfl)<|pc Ztw (vt rfl)<|pn rfl)) rfl<|Zg Z2u 5 rfl<|Nl<|rt ?_
 cases h;exact Zd Tryz.results190 rfl (Zx rfl (i:=5) rfl Z2u)
def Zt6 (m1:flowmod_mod):Option Bool:=
 some ((decide (m1.FlowMod.Command≥0))&&(decide (m1.FlowMod.Command≤2)))
theorem Yju:Q1 Tryz.prog 191 (rp Z40) (rd Z6) Zt6:=fun m1 r h=>I0 Tryz.func191 rfl Tryz.ntmps191 rfl fun w H Z=>by
 unfold Zt6 at h
 refine SR<|Ab rfl<|Nl<|SR<|Mr rfl<|Ac (Z30 rfl rfl (vt rfl)) rfl<|Fp lflowmod_mod_0 Z50 rfl<|Fp lFlowMod_3 Zlk rfl<|Lp1 Zp rfl<|Ac (Z3v rfl rfl (vt rfl) (vk rfl)) rfl<|Md rfl<|Gd rfl (fun hq=>Zq (A:=rp Z40 m1) rfl rfl (vt rfl))<|Gd rfl (fun hq=>Z30 rfl rfl (Zi rfl hq))<|Gd rfl (fun hq=>Z6e lflowmod_mod_0 rfl rfl Z50 (Zi rfl hq))<|Gd rfl (fun hq=>Z6e lFlowMod_3 rfl rfl Zlk (Zi rfl hq))<|Gd rfl (fun hq=>Z9u rfl rfl Zp (Zi rfl hq))<|Gd rfl (fun hq=>Z5j rfl rfl (Zi rfl hq) (vk rfl))<|Ac (Z1k rfl rfl (vt rfl) (vt rfl)) rfl<|As rfl<|Nl<|rt ?_
 cases h;exact Zd Tryz.results191 rfl (Z5 rfl)
def Zz5 (m1:flowmod_mod)(l2:(List Action)):Option Bool:=none
theorem Ypo (m1:flowmod_mod)(l2:(List Action))(r:Bool)(h:Zz5 m1 l2=some r):PCon Tryz.prog 192 [rp Z40 m1,rd (Z1 Z9) l2] (rd Z6 r):=by cases h
def Zm8 (x1:FlowMod):(List Inst)→Nat→Option Fault
 | [],i8=>some (⟨false,0,0⟩:Fault)
 | x10::l9,i8=>(Zz5 (⟨x1⟩:flowmod_mod) x10.Acts).bind fun x12=>(bif (!x12) then (Znq 2 10).bind fun x13=>some x13 else (Zm8 x1 l9) (i8+1))
def Zti (x1:FlowMod):Option Fault:=
 (bif ((decide ((((⟨x1⟩:flowmod_mod).FlowMod).Command)<0))||(decide ((((⟨x1⟩:flowmod_mod).FlowMod).Command)>4))) then (Znq 5 6).bind fun x5=>some x5 else (bif (decide ((((⟨x1⟩:flowmod_mod).FlowMod).Flags)>31)) then (Znq 5 7).bind fun x6=>some x6 else (Zt6 (⟨x1⟩:flowmod_mod)).bind fun x7=>(bif (!x7) then some (⟨false,0,0⟩:Fault) else Zm8 x1 (((⟨x1⟩:flowmod_mod).FlowMod).Insts) 0)))
theorem Ykv:Q1 Tryz.prog 111 (rd Z39) (rd Z3o) Zti:=fun x1 r h=>I0 Tryz.func111 rfl Tryz.ntmps111 rfl fun w H Z=>by
 unfold Zti at h
 refine SR<|Cv rfl (Zs 2 rfl rfl (vt rfl)) fun g2=>Cv rfl (Zm 3 rfl rfl Z5x) fun g3=>Nl<|SR<|Ld Zdq 2 rfl<|Ac (opb (⟨x1⟩:flowmod_mod) Y91 rfl Yas (pc Y7y (vt rfl)<|pn rfl)) rfl<|Cv rfl (Zs 9 rfl rfl (vt rfl)) fun g4=>Ac (Zv (A:=Zc g4 (Lens.id Z40)) rfl rfl (vt rfl)) rfl<|Nl<|sq<|bk<|SR<|Mp rfl<|Nc rfl<|Zk lflowmod_mod_0 Z50 rfl<|Zk lFlowMod_3 Zlk rfl<|Ld Zp 9 rfl<|Ac (Zj rfl rfl (vt rfl) (vk rfl)) rfl<|Md rfl<|Gd rfl (fun hq=>Zq (A:=Zc g4 (Lens.id Z40)) rfl rfl (vt rfl))<|Gd rfl (fun hq=>Zrx rfl rfl (Zi rfl hq))<|Gd rfl (fun hq=>Z2n lflowmod_mod_0 rfl rfl Z50 (Zi rfl hq))<|Gd rfl (fun hq=>Z2n lFlowMod_3 rfl rfl Zlk (Zi rfl hq))<|Gd rfl (fun hq=>Z1s rfl rfl Zp (Zi rfl hq) (i:=9) rfl)<|Gd rfl (fun hq=>Z2m rfl rfl (Zi rfl hq) (vk rfl))<|Ac (Z3j rfl rfl (vt rfl) (vt rfl)) rfl<|As rfl<|Nl<|Cq rfl h (fun h=>?_) (fun h=>?_)
 ·refine sq ?_
  obtain ⟨x5,hx5,h⟩:=Z7 h
  refine Rg<|Ac (Z0c (xs:=[.const (Value.int IntKind.i64 5),.const (Value.int IntKind.i64 6)]) (Zv9 _ _ _ hx5) Zss rfl rfl ⟨vk rfl,vk rfl,trivial⟩) rfl<|Zg Z2u 3 rfl<|Nl<|rt ?_
  cases h;exact Zd Tryz.results111 rfl (Zx rfl (i:=3) rfl Z2u)
 ·refine SR<|Mp rfl<|Nc rfl<|Zk lflowmod_mod_0 Z50 rfl<|Zk lFlowMod_10 Zrn rfl<|Ld Zp 9 rfl<|Ac (Z2m rfl rfl (vt rfl) (vk rfl)) rfl<|As rfl<|Nl<|Cq rfl h (fun h=>?_) (fun h=>?_)
  ·refine sq ?_
   obtain ⟨x6,hx6,h⟩:=Z7 h
   refine Rg<|Ac (Z0c (xs:=[.const (Value.int IntKind.i64 5),.const (Value.int IntKind.i64 7)]) (Zv9 _ _ _ hx6) Zss rfl rfl ⟨vk rfl,vk rfl,trivial⟩) rfl<|Zg Z2u 3 rfl<|Nl<|rt ?_
   cases h;exact Zd Tryz.results111 rfl (Zx rfl (i:=3) rfl Z2u)
  ·refine sq<|AW.freezesB [3,8,10,11,26,27] 9 rfl ⟨rfl,rfl,rfl,rfl,rfl,rfl,trivial⟩ rfl ?_
   obtain ⟨x7,hx7,h⟩:=Z7 h
   refine Rg<|Mr rfl<|Cl [34] (Yju _ _ hx7) Yxh rfl<|Ac (Z0y rfl rfl (vt rfl)) rfl<|As rfl<|Nl<|Cq rfl h (fun h=>?_) (fun h=>?_)
   ·refine SR<|Ac (opb (⟨false,0,0⟩:Fault) Z5x rfl Zdw (pn rfl)) rfl<|Zg Z2u 3 rfl<|Nl<|rt ?_
    cases h;exact Zd Tryz.results111 rfl (Zx rfl (i:=3) rfl Z2u)
   ·refine sk<|sq<|SR<|Mr rfl<|Ac (Z30 rfl rfl (vt rfl)) rfl<|Fp lflowmod_mod_0 Z50 rfl<|Fp lFlowMod_12 Zp8 rfl<|Lp1 Z5v rfl<|Ac (Z0i rfl rfl Z4p (vt rfl)) rfl<|Mk rfl<|Nl<|bk<|LG (d:=[]) (ν:=(List Inst)×Nat) (fun (l9,i8)=>(Sfx (((⟨x1⟩:flowmod_mod).FlowMod).Insts) i8 l9∧Zm8 x1 l9 i8=some r,l9.length,[(2,Zc g3 (Lens.id Z3o)),(3,rp Z40 (⟨x1⟩:flowmod_mod)),(42,rd (Z1 Z0a) (((⟨x1⟩:flowmod_mod).FlowMod).Insts)),(43,rd (Z0 .i64) ((((⟨x1⟩:flowmod_mod).FlowMod).Insts).length:Int)),(44,rd (Z0 .i64) (i8:Int))],[(3,Zh g3 98 Z3o Zjq)])) ((((⟨x1⟩:flowmod_mod).FlowMod).Insts),0) ⟨Sfx.start _,h⟩ (FX rfl) ?_
    rintro ⟨l9,i8⟩ ⟨hsf1,h⟩
    dsimp only at hsf1 h ⊢
    cases l9 with
    | nil=>
     unfold Zm8 at h
     refine SR<|Ac (Zj rfl rfl (vt rfl) (vt rfl)) rfl<|Nl<|sq<|Cn rfl (fun hc=>absurd (of_decide_eq_true hc) hsf1.nil) (fun hc=>?_)
     refine xt<|SR<|Ac (opb (⟨false,0,0⟩:Fault) Z5x rfl Zdw (pn rfl)) rfl<|Zg Z2u 3 rfl<|Nl<|rt ?_
     cases h;exact Zd Tryz.results111 rfl (Zx rfl (i:=3) rfl Z2u)
    | cons x10 l9=>
     unfold Zm8 at h
     refine SR<|Ac (Zj rfl rfl (vt rfl) (vt rfl)) rfl<|Nl<|sq<|Cn rfl (fun hc=>?_) (fun hc=>absurd hsf1.cons (of_decide_eq_false hc))
     have hlti8:=of_decide_eq_true hc
     refine sk<|sq<|bk<|SR<|Ac (Z0k rfl rfl Z4p (vt rfl) (vt rfl) hsf1.lget) rfl<|Lp1 Z25 rfl<|Cv rfl (Zm 6 rfl rfl Z3f) fun g11=>Zg Z25 6 rfl<|Nl<|sq ?_
     obtain ⟨x12,hx12,h⟩:=Z7 h
     refine Rg<|Mr rfl<|Zk Z60 Z6w rfl<|Ld Z2z 6 rfl<|Cl [48,50] (Ypo _ _ _ hx12) Yiq rfl<|Ac (Z0y rfl rfl (vt rfl)) rfl<|Nl<|Cq rfl h (fun h=>?_) (fun h=>?_)
     ·refine sq ?_
      obtain ⟨x13,hx13,h⟩:=Z7 h
      refine Rg<|Ac (Z0c (xs:=[.const (Value.int IntKind.i64 2),.const (Value.int IntKind.i64 10)]) (Zv9 _ _ _ hx13) Zss rfl rfl ⟨vk rfl,vk rfl,trivial⟩) rfl<|Zg Z2u 3 rfl<|Nl<|rt ?_
      cases h;exact Zd Tryz.results111 rfl (Zx rfl (i:=3) rfl Z2u)
     ·refine sk<|Rg<|Ac (Z12 (t:=43) rfl rfl (vt rfl) (vk rfl) (vt rfl) hlti8) rfl<|Md rfl<|Nl ?_
      exact ⟨(_,_),Nat.lt_succ_self _,⟨hsf1.next,h⟩,FX rfl⟩
def Zm5 (x1:FlowMod)(x4:Zsc):(List Int)→Nat→Option Bool
 | [],i7=>(Zyb (((⟨x1⟩:flowmod_mod).FlowMod).Match)).bind fun x9=>(Zy1 (((⟨x1⟩:flowmod_mod).FlowMod).Insts)).bind fun x10=>(opt ((decide (x9.2=0))&&(decide (x10.2=0))) (Zti x1)).bind fun x11=>some (((decide (x9.2=0))&&(decide (x10.2=0)))&&(!x11.Is))
 | x12::l8,i7=>(chk 9 (i7:Int)).bind fun j13=>(Zpx x12 (Vector.get x4 j13)).bind fun x14=>(bif (!x14) then some false else (Zm5 x1 x4 l8) (i7+1))
def Zwk (x1:FlowMod):Option Bool:=
 (Zue).bind fun x4=>(Zwx (⟨x1⟩:flowmod_mod)).bind fun x6=>Zm5 x1 x4 (Vector.toList x6) 0
theorem Yc4:Q1 Tryz.prog 49 (rd Z39) (rd Z6) Zwk:=fun x1 r h=>I0 Tryz.func49 rfl Tryz.ntmps49 rfl fun w H Z=>by
 unfold Zwk at h
 refine SR<|Cv rfl (Zs 2 rfl rfl (vt rfl)) fun g2=>Ab rfl<|Nl<|SR<|Ld Zdq 2 rfl<|Ac (opb (⟨x1⟩:flowmod_mod) Y91 rfl Yas (pc Y7y (vt rfl)<|pn rfl)) rfl<|Cv rfl (Zs 14 rfl rfl (vt rfl)) fun g3=>Ac (Zv (A:=Zc g3 (Lens.id Z40)) rfl rfl (vt rfl)) rfl<|Nl<|sq ?_
 obtain ⟨x4,hx4,h⟩:=Z7 h
 refine Rg<|Cl [] (Ygq _ hx4) Yo9 rfl<|Cv rfl (Zm 5 rfl rfl Zji) fun g5=>Zg Zkr 5 rfl<|Nl<|sq<|sq<|AW.freezesB [3,13] 14 rfl ⟨rfl,rfl,trivial⟩ rfl ?_
 obtain ⟨x6,hx6,h⟩:=Z7 h
 refine Rg<|Mr rfl<|Cl [15] (Ymb _ _ hx6) Ytc rfl<|Mk rfl<|Nl<|bk<|LG (d:=[]) (ν:=(List Int)×Nat) (fun (l8,i7)=>(Sfx (Vector.toList x6) i7 l8∧Zm5 x1 x4 l8 i7=some r,l8.length,[(1,Zc g2 (Lens.id Z39)),(3,rp Z40 (⟨x1⟩:flowmod_mod)),(4,Zc g5 (Lens.id (Z3 9 (Z0 .i64)))),(16,rd (Z3 9 (Z0 .i64)) x6),(17,rd (Z0 .i64) (i7:Int))],[(2,Zh g2 95 Z39 x1),(5,Zh g5 180 (Z3 9 (Z0 .i64)) x4)])) ((Vector.toList x6),0) ⟨Sfx.start _,h⟩ (FX rfl) ?_
 rintro ⟨l8,i7⟩ ⟨hsf1,h⟩
 dsimp only at hsf1 h ⊢
 cases l8 with
 | nil=>
  unfold Zm5 at h
  refine SR<|Ac (Zj rfl rfl (vt rfl) (vk rfl)) rfl<|Nl<|sq<|Cn rfl (fun hc=>absurd (of_decide_eq_true hc) (hsf1.niln (by simp))) (fun hc=>?_)
  refine xt<|sq ?_
  obtain ⟨x9,hx9,h⟩:=Z7 h
  refine Rg<|Mr rfl<|Ac (Z30 rfl rfl (vt rfl)) rfl<|Fp lflowmod_mod_0 Z50 rfl<|Fp lFlowMod_11 Zst rfl<|Lp1 Zce rfl<|Cl [33] (Yuu _ _ hx9) Yuh rfl<|Mt2 rfl<|Ac (Z1c rfl rfl (vt rfl)) rfl<|Ac (Z18 rfl rfl (vt rfl)) rfl<|As rfl<|As rfl<|Nl<|sq ?_
  obtain ⟨x10,hx10,h⟩:=Z7 h
  refine Rg<|Mr rfl<|Ac (Z30 rfl rfl (vt rfl)) rfl<|Fp lflowmod_mod_0 Z50 rfl<|Fp lFlowMod_12 Zp8 rfl<|Lp1 Z5v rfl<|Cl [42] (Yq5 _ _ hx10) Ypu rfl<|Mt2 rfl<|Ac (Z1c rfl rfl (vt rfl)) rfl<|Ac (Z18 rfl rfl (vt rfl)) rfl<|As rfl<|As rfl<|Nl<|sq ?_
  obtain ⟨x11,hx11,h⟩:=Z7 h
  refine Rg<|Md rfl<|Ac (Z0j rfl rfl (vt rfl) (vk rfl)) rfl<|Md rfl<|Gd rfl (fun hq=>Zq (A:=rd (Z0 .i64) x10.2) rfl rfl (vt rfl))<|Gd rfl (fun hq=>Z0j rfl rfl (Zi rfl hq) (vk rfl))<|Ac (Z1k rfl rfl (vt rfl) (vt rfl)) rfl<|Md rfl<|Gd rfl (fun hq=>Z1s rfl rfl Zdq (vt rfl) (i:=2) rfl)<|Gd rfl (fun hq=>Z0c (xs:=[.tmp 53]) (Ykv _ _ (Z2i hx11 hq)) Yw0 rfl rfl ⟨Zi rfl hq,trivial⟩)<|Gd rfl (fun hq=>Zin lFault_0 rfl rfl Zop Zqd ty4 rfl (Zi rfl hq))<|Gd rfl (fun hq=>Z0y rfl rfl (Zi rfl hq))<|Ac (Z1k rfl rfl (vt rfl) (vt rfl)) rfl<|As rfl<|Nl<|rt ?_
  cases h;exact Zd Tryz.results49 rfl (Z5 rfl)
 | cons x12 l8=>
  unfold Zm5 at h
  refine SR<|Ac (Zj rfl rfl (vt rfl) (vk rfl)) rfl<|Nl<|sq<|Cn rfl (fun hc=>?_) (fun hc=>absurd (hsf1.consn (by simp)) (of_decide_eq_false hc))
  have hlti7:=of_decide_eq_true hc
  refine sk<|sq<|bk<|SR<|Md rfl<|Ac (Z8d rfl rfl Y1j Zp (vt rfl) (vt rfl) hsf1.lget) rfl<|As rfl<|As rfl<|Nl<|sq ?_
  obtain ⟨j13,hj13,x14,hx14,h⟩:=bs2 h
  refine Rg<|Md rfl<|Md rfl<|Ac (Z13 rfl rfl Y1j (vt rfl) (vt rfl) hj13) rfl<|Ld Zp 5 rfl<|Cl [21,24] (Y8q _ _ _ hx14) Y20 rfl<|Ac (Z0y rfl rfl (vt rfl)) rfl<|Nl<|Cq rfl h (fun h=>?_) (fun h=>?_)
  ·refine SR<|Ab rfl<|Nl<|rt ?_
   cases h;exact Zd Tryz.results49 rfl (Z5 rfl)
  ·refine sk<|Rg<|Ac (Z5f rfl rfl (vt rfl) (vk rfl) rfl hlti7) rfl<|Md rfl<|Nl ?_
   exact ⟨(_,_),Nat.lt_succ_self _,⟨hsf1.next,h⟩,FX rfl⟩
end Go.Proofs.YtinplddjjalohaaGreatDoor.W
set_option maxHeartbeats 1000000
set_option maxRecDepth 4000
namespace Go.Proofs.YtinplddjjalohaaGreatDoor.W
open Go Go.Wb
theorem Y7g:Ent Tryz.prog 113:=Ent.mk Tryz.func113 rfl rfl
theorem Yri:Ent Tryz.prog 114:=Ent.mk Tryz.func114 rfl rfl
theorem e37:Ent Tryz.prog 37:=Ent.mk Tryz.func37 rfl rfl
theorem e51:Ent Tryz.prog 51:=Ent.mk Tryz.func51 rfl rfl
theorem Ycm:Ent Tryz.prog 242:=Ent.mk Tryz.func242 rfl rfl
theorem e52:Ent Tryz.prog 52:=Ent.mk Tryz.func52 rfl rfl
theorem e50:Ent Tryz.prog 50:=Ent.mk Tryz.func50 rfl rfl
theorem e49:Ent Tryz.prog 49:=Ent.mk Tryz.func49 rfl rfl
theorem Yjo:Ent Tryz.prog 160:=Ent.mk Tryz.func160 rfl rfl
theorem e83:Ent Tryz.prog 83:=Ent.mk Tryz.func83 rfl rfl
theorem e84:Ent Tryz.prog 84:=Ent.mk Tryz.func84 rfl rfl
theorem e38:Ent Tryz.prog 38:=Ent.mk Tryz.func38 rfl rfl
def Zra (k1:Int)(x2:Int):Option Err:=
 some (Err.e265 (⟨(⟨true,k1,x2⟩:Fault)⟩:state_refused))
theorem Y0f:Q2 Tryz.prog 113 (rd (Z0 .i64)) (rd (Z0 .i64)) (rd Z4y) Zra:=fun k1 x2 r h=>I0 Tryz.func113 rfl Tryz.ntmps113 rfl fun w H Z=>by
 unfold Zra at h
 refine SR<|Ac (Zv (A:=rd Z4y Err.no) rfl rfl (vne rfl)) rfl<|Nl<|SR<|Md rfl<|Md rfl<|Ac (opb (⟨true,k1,x2⟩:Fault) Z5x rfl Zdw (pc Zup vb<|pc Zy4 (vt rfl)<|pc Ztw (vt rfl)<|pn rfl)) rfl<|Ac (opb (⟨(⟨true,k1,x2⟩:Fault)⟩:state_refused) Y1p rfl Ydg (pc Yh4 (vt rfl)<|pn rfl)) rfl<|Ac (Zpm (d:=Ziv) (Err.e265 (⟨(⟨true,k1,x2⟩:Fault)⟩:state_refused)) rfl rfl Yf2 rfl (vt rfl)) rfl<|As rfl<|Nl<|rt ?_
 cases h;exact Zd Tryz.results113 rfl (Z5 rfl)
def Y48 (l1:(List Group))(i2:(List Int)):Option Bool:=none
theorem Ymh (l1:(List Group))(i2:(List Int))(r:Bool)(h:Y48 l1 i2=some r):PCon Tryz.prog 114 [rd (Z1 Z0d) l1,rd (Z1 (Z0 .i64)) i2] (rd Z6 r):=by cases h
def Zq7 (x6:Inst)(w1:state_work)(go1:Nat→Option Err)(i4:Nat)(x9:Bool):Option Err:=
 (bif x9 then (Zth x6.Acts).bind fun x10=>(Y48 w1.Switch.Groups x10).bind fun x11=>(bif x11 then (Zra 2 9).bind fun x12=>some x12 else go1 (i4+1)) else go1 (i4+1))
def Zbs (a2:Int)(w1:state_work):(List Inst)→Nat→Option Err
 | [],i4=>some Err.no
 | x6::l5,i4=>(bif (decide (x6.Kind=1)) then (bif ((decide (x6.Table≤a2))||(decide (x6.Table≥4))) then (Zra 3 2).bind fun x8=>some x8 else (Zbs a2 w1 l5) (i4+1)) else (bif (decide (x6.Kind=3)) then Zq7 x6 w1 (Zbs a2 w1 l5) i4 (decide (x6.Kind=3)) else Zq7 x6 w1 (Zbs a2 w1 l5) i4 (decide (x6.Kind=4))))
def Zsn (w1:state_work)(a2:Int)(l3:(List Inst)):Option Err:=
 Zbs a2 w1 l3 0
theorem Ym5:Q3 Tryz.prog 51 (rp Z9i) (rd (Z0 .i64)) (rd (Z1 Z0a)) (rd Z4y) Zsn:=fun w1 a2 l3 r h=>I0 Tryz.func51 rfl Tryz.ntmps51 rfl fun w H Z=>by
 unfold Zsn at h
 refine SR<|Ac (Zv (A:=rd Z4y Err.no) rfl rfl (vne rfl)) rfl<|Nl<|sq<|SR<|Md rfl<|Ac (Z0i rfl rfl Z4p (vt rfl)) rfl<|Mk rfl<|Nl<|bk<|LG (d:=[]) (ν:=(List Inst)×Nat) (fun (l5,i4)=>(Sfx l3 i4 l5∧Zbs a2 w1 l5 i4=some r,l5.length,[(0,rp Z9i w1),(1,rd (Z0 .i64) a2),(9,rd (Z1 Z0a) l3),(10,rd (Z0 .i64) (l3.length:Int)),(11,rd (Z0 .i64) (i4:Int))],[])) (l3,0) ⟨Sfx.start _,h⟩ (FX rfl) ?_
 rintro ⟨l5,i4⟩ ⟨hsf1,h⟩
 dsimp only at hsf1 h ⊢
 cases l5 with
 | nil=>
  unfold Zbs at h
  refine SR<|Ac (Zj rfl rfl (vt rfl) (vt rfl)) rfl<|Nl<|sq<|Cn rfl (fun hc=>absurd (of_decide_eq_true hc) hsf1.nil) (fun hc=>?_)
  refine xt<|SR<|Ac (Zv (A:=rd Z4y Err.no) rfl rfl (vne rfl)) rfl<|Nl<|rt ?_
  cases h;exact Zd Tryz.results51 rfl (Z5 rfl)
 | cons x6 l5=>
  unfold Zbs at h
  refine SR<|Ac (Zj rfl rfl (vt rfl) (vt rfl)) rfl<|Nl<|sq<|Cn rfl (fun hc=>?_) (fun hc=>absurd hsf1.cons (of_decide_eq_false hc))
  have hlti4:=of_decide_eq_true hc
  refine sk<|sq<|bk<|SR<|Ac (Z0k rfl rfl Z4p (vt rfl) (vt rfl) hsf1.lget) rfl<|Lp1 Z25 rfl<|Cv rfl (Zm 9 rfl rfl Z3f) fun g7=>Zg Z25 9 rfl<|Nl<|SR<|Zk Ze4 Zf7 rfl<|Ld Zp 9 rfl<|Nl<|bk<|SR<|Ac (Z0j rfl rfl (vt rfl) (vk rfl)) rfl<|As rfl<|Nl<|Cq rfl h (fun h=>?_) (fun h=>?_)
  ·refine SR<|Zk Z73 Z87 rfl<|Ld Zp 9 rfl<|Md rfl<|Ac (Z5j rfl rfl (vt rfl) (vt rfl)) rfl<|Md rfl<|Gd rfl (fun hq=>Z2n Z73 rfl rfl Z87 (vt rfl))<|Gd rfl (fun hq=>Z1s rfl rfl Zp (Zi rfl hq) (i:=9) rfl)<|Gd rfl (fun hq=>Z3v rfl rfl (Zi rfl hq) (vk rfl))<|Ac (Z3j rfl rfl (vt rfl) (vt rfl)) rfl<|Nl<|Cq rfl h (fun h=>?_) (fun h=>?_)
   ·refine sq ?_
    obtain ⟨x8,hx8,h⟩:=Z7 h
    refine Rg<|Ac (Z0c (xs:=[.const (Value.int IntKind.i64 3),.const (Value.int IntKind.i64 2)]) (Y0f _ _ _ hx8) Y7g rfl rfl ⟨vk rfl,vk rfl,trivial⟩) rfl<|As rfl<|Nl<|rt ?_
    cases h;exact Zd Tryz.results51 rfl (Z5 rfl)
   ·refine sk<|Rg<|Ac (Z12 (t:=10) rfl rfl (vt rfl) (vk rfl) (vt rfl) hlti4) rfl<|Md rfl<|Nl ?_
    exact ⟨(_,_),Nat.lt_succ_self _,⟨hsf1.next,h⟩,FX rfl⟩
  ·refine JN (d:=[]) (ν:=Bool) (fun x9=>(Zq7 x6 w1 (Zbs a2 w1 l5) i4 x9=some r,[(0,rp Z9i w1),(1,rd (Z0 .i64) a2),(8,Zc g7 (Lens.id Z0a)),(9,rd (Z1 Z0a) l3),(10,rd (Z0 .i64) (l3.length:Int)),(11,rd (Z0 .i64) (i4:Int)),(29,rd Z6 x9)],[(9,Zh g7 140 Z0a x6)])) ?hx2 ?hy2
   case hy2=>
    intro x9 h
    dsimp only at h ⊢
    unfold Zq7 at h
    refine Cq rfl h (fun h=>?_) (fun h=>?_)
    ·refine sq ?_
     obtain ⟨x10,hx10,x11,hx11,h⟩:=bs2 h
     refine AR Z00 (by kernel_rfl)<|Sd (lo [0] [] rfl fun S hs hr=>Zq (A:=rp Z9i w1) rfl rfl (vh hs 0 rfl rfl))<|Sd (lo [32] [] rfl fun S hs hr=>Z30 rfl rfl (vh hs 32 rfl rfl))<|SFp lstate_work_0 Y5p rfl<|SFp lSwitch_1 Zp6 rfl<|SLp Zet rfl<|SFd Z60 Z6w rfl<|Zo Z2z 9 rfl<|SCl [38] (Y6v _ _ hx10) Y8a rfl<|SCl [36,39] (Ymh _ _ _ hx11) Yri rfl<|Sn<|Cq rfl h (fun h=>?_) (fun h=>?_)
     ·refine sq ?_
      obtain ⟨x12,hx12,h⟩:=Z7 h
      refine Rg<|Ac (Z0c (xs:=[.const (Value.int IntKind.i64 2),.const (Value.int IntKind.i64 9)]) (Y0f _ _ _ hx12) Y7g rfl rfl ⟨vk rfl,vk rfl,trivial⟩) rfl<|As rfl<|Nl<|rt ?_
      cases h;exact Zd Tryz.results51 rfl (Z5 rfl)
     ·refine sk<|Rg<|Ac (Z12 (t:=10) rfl rfl (vt rfl) (vk rfl) (vt rfl) hlti4) rfl<|Md rfl<|Nl ?_
      exact ⟨(_,_),Nat.lt_succ_self _,⟨hsf1.next,h⟩,FX rfl⟩
    ·refine sk<|Rg<|Ac (Z12 (t:=10) rfl rfl (vt rfl) (vk rfl) (vt rfl) hlti4) rfl<|Md rfl<|Nl ?_
     exact ⟨(_,_),Nat.lt_succ_self _,⟨hsf1.next,h⟩,FX rfl⟩
   case hx2=>
    refine SR<|Ac (Z0j rfl rfl (vt rfl) (vk rfl)) rfl<|As rfl<|Nl<|Cq rfl h (fun h=>?_) (fun h=>?_)
    ·refine sk ?_
     exact ⟨_,h,FX rfl⟩
    ·refine Rg<|Ac (Z0j rfl rfl (vt rfl) (vk rfl)) rfl<|As rfl<|Nl ?_
     exact ⟨_,h,FX rfl⟩
theorem Y4d {w:World}{H:HS}(h:Amb Tryz.prog w H):w.cell? ⟨0,0,none⟩=some (.iface 230 (.agg #[.pointer (some ⟨1,88,none⟩)])):=by
 obtain ⟨_,_,u,t,h1,h2,h3,h4⟩:=h 0 (by kernel_rfl)
 obtain rfl:=Option.some.inj ((show (Tryz.prog.cutTypes.find? (·.1=="internal/reflectlite.rtype")).map (·.2)=some 230 by kernel_rfl).symm.trans h1)
 have hm:t∈(List.range 450).filter fun t=>Tryz.prog.rowNamed t [101,114,114,111,114]:=List.mem_filter.2 ⟨List.mem_range.2 (by rw [←show Tryz.prog.types.size=450 by kernel_rfl];exact h2),h3⟩
 rw [show ((List.range 450).filter fun t=>Tryz.prog.rowNamed t [101,114,114,111,114])=[88] by kernel_rfl] at hm
 obtain rfl:=List.mem_singleton.1 hm
 rw [show typeHandle Tryz.prog 88= .pointer (some ⟨1,88,none⟩) by kernel_rfl] at h4
 exact h4
open Go.RowKit Go.Extern.Stop Go.Stop Go.Extern in
theorem Y1a (t:Value)(w:World):Calls Tryz.prog 37 #[.nilIface,t] w fun e w'=>e= .returned (.bool false)∧w'=w:=by
 go_enter Tryz.func37,Tryz.ntmps37
 go_wp2
 go_ret
 exact ⟨rfl,rfl⟩
open Go.Extern in
theorem Y50 (h:Value)(w:World):(Go.method 550 230 (.agg #[h]) "Kind").run Tryz.prog w= .ok (415,h) w:=by kernel_rfl
theorem Y3b (h:Value)(w:World):(Go.method 550 230 (.agg #[h]) "Elem").run Tryz.prog w= .ok (426,.agg #[h]) w:=by kernel_rfl
theorem Y0l (h:Value)(w:World):(Go.method 550 230 (.agg #[h]) "Implements").run Tryz.prog w= .ok (427,.agg #[h]) w:=by kernel_rfl
theorem Y60 (h:Value)(w:World):(Go.method 550 230 (.agg #[h]) "AssignableTo").run Tryz.prog w= .ok (424,.agg #[h]) w:=by kernel_rfl
open Go.Extern in
theorem Zoh (z:Sem Value)(f:TypeId→Addr→Nat→Nat→Sem Value)(v:Value):
  ReflectliteValue.method z f #[v]=(do match ←ReflectliteValue.parts v with | none=>z | some (t,a,fl)=>f t a fl (fl % 32)):=rfl
open Go.Extern in
theorem Y00 (v x:Value):ReflectliteValue.set #[v,x]=(do
  let (some (dst,a,fl),some (src,b,_)):=(←ReflectliteValue.parts v,←ReflectliteValue.parts x)
   | unsupported (.noEntry "extern/(internal/reflectlite.Value).Set.zeroValue")
  if fl / ReflectliteValue.flagAddr % 2==0 then unsupported (.noEntry "extern/(internal/reflectlite.Value).Set.unaddressable")
  let val ←loadVar src b
  if ←Rtype.directlyAssignable dst src then storeVar dst a val
  else if ←Rtype.implements dst src then
   if (←Rtype.kind src)==20 then
    match val with
    | .nilIface=>unsupported (.noEntry "extern/reflectlite: a nil value of one interface type handed on as a value of another")
    | _=>storeVar dst a val
   else storeVar dst a (.iface src val)
  else panicString ("reflectlite.Set: value of type "++(←Rtype.spelt src)++" is not assignable to type "++(←Rtype.spelt dst))
  pure (.tuple #[])):=rfl
section
open Go.RowKit Go.Extern.Stop Go.Stop Go.Extern
theorem Yp9 (t:Addr)(w:World):(ReflectliteValue.unpack (.iface 90 (.pointer (some t)))).run Tryz.prog w= .ok (.agg #[.pointer (some ⟨1,90,none⟩),.pointer (some ⟨w.heap.size,0,none⟩),.int .u64 150]) (w.alloc (.cells #[.pointer (some t)] 90)):=by kernel_rfl
theorem Ygy (a:Addr)(w:World):(ReflectliteValue.methodAny (ReflectliteValue.valueError "reflectlite.Value.Type" 0) (fun t _ _ _=>ReflectliteType.toType t) #[.agg #[.pointer (some ⟨1,90,none⟩),.pointer (some a),.int .u64 150]]).run Tryz.prog w= .ok (.iface 230 (.agg #[.pointer (some ⟨1,90,none⟩)])) w:=by kernel_rfl
theorem Ye3 (w:World):((ReflectliteType.abiMethod fun t=>(fun a:Nat=>Value.int IntKind.u8 (a:Int))<$>Rtype.kind t) #[.pointer (some ⟨1,90,none⟩)]).run Tryz.prog w= .ok (.int .u8 22) w:=by kernel_rfl
theorem Ykt (w:World):((ReflectliteType.abiMethod fun t=>(fun a:Nat=>Value.int IntKind.u8 (a:Int))<$>Rtype.kind t) #[.pointer (some ⟨1,85,none⟩)]).run Tryz.prog w= .ok (.int .u8 25) w:=by kernel_rfl
theorem Y54:Tryz.prog.underlying 90=some (.pointer 85):=by kernel_rfl
theorem Y79 (a:Addr)(w:World):(ReflectliteValue.parts (.agg #[.pointer (some ⟨1,90,none⟩),.pointer (some a),.int .u64 150])).run Tryz.prog w= .ok (some (90,a,150)) w:=by kernel_rfl
theorem Ygh (a p:Addr)(W:World)(ha:W.cell? a=some (.pointer (some p))):
  (ReflectliteValue.method (ReflectliteValue.valueError "reflectlite.Value.IsNil" 0) ReflectliteValue.isNil #[.agg #[.pointer (some ⟨1,90,none⟩),.pointer (some a),.int .u64 150]]).run Tryz.prog W= .ok (.bool false) W:=by
 rw [Zoh]
 simp only [Sem.run_bind,Y79,Result.andThen]
 simp [ReflectliteValue.isNil,loadVar,isAgg,underlying,Y54,ha,Result.andThen]
theorem Yqi (w:World):(ReflectliteType.method ReflectliteType.elem #[.agg #[.pointer (some ⟨1,90,none⟩)]]).run Tryz.prog w= .ok (.iface 230 (.agg #[.pointer (some ⟨1,85,none⟩)])) w:=by kernel_rfl
theorem Yvx (w:World):(ReflectliteType.relation "Implements" ReflectliteType.implements_ #[.agg #[.pointer (some ⟨1,85,none⟩)],.iface 230 (.agg #[.pointer (some ⟨1,88,none⟩)])]).run Tryz.prog w= .ok (.bool true) w:=by kernel_rfl
theorem Yf4 (v:Value)(w:World):(ReflectliteType.typeOf #[.iface 85 v]).run Tryz.prog w= .ok (.iface 230 (.agg #[.pointer (some ⟨1,85,none⟩)])) w:=by kernel_rfl
theorem Yhf (w:World):(ReflectliteType.relation "AssignableTo" ReflectliteType.assignableTo #[.agg #[.pointer (some ⟨1,85,none⟩)],.iface 230 (.agg #[.pointer (some ⟨1,85,none⟩)])]).run Tryz.prog w= .ok (.bool true) w:=by kernel_rfl
theorem Ygp (cs:Array Value)(w:World):(ReflectliteValue.unpack (.iface 85 (.agg cs))).run Tryz.prog w= .ok (.agg #[.pointer (some ⟨1,85,none⟩),.pointer (some ⟨w.heap.size,0,none⟩),.int .u64 153]) (w.alloc (.cells cs 85)):=by kernel_rfl
theorem Ydx (w:World):(Rtype.elem? 90).run Tryz.prog w= .ok (some 85) w:=by kernel_rfl
theorem Yxa (p:Addr)(w:World):(ReflectliteValue.mk 85 p ReflectliteValue.flagAddr).run Tryz.prog w= .ok (.agg #[.pointer (some ⟨1,85,none⟩),.pointer (some p),.int .u64 409]) w:=by kernel_rfl
theorem Ybg (a p:Addr)(W:World)(ha:W.cell? a=some (.pointer (some p))):
  (ReflectliteValue.method (ReflectliteValue.valueError "reflectlite.Value.Elem" 0) ReflectliteValue.elem #[.agg #[.pointer (some ⟨1,90,none⟩),.pointer (some a),.int .u64 150]]).run Tryz.prog W
   = .ok (.agg #[.pointer (some ⟨1,85,none⟩),.pointer (some p),.int .u64 409]) W:=by
 rw [Zoh]
 simp only [Sem.run_bind,Y79,Result.andThen]
 simp [ReflectliteValue.elem,loadVar,isAgg,underlying,Y54,ha,Result.andThen,Ydx,Yxa]
theorem Yfk (a:Addr)(w:World):(ReflectliteValue.parts (.agg #[.pointer (some ⟨1,85,none⟩),.pointer (some a),.int .u64 409])).run Tryz.prog w= .ok (some (85,a,409)) w:=by kernel_rfl
theorem Yvq (a:Addr)(w:World):(ReflectliteValue.parts (.agg #[.pointer (some ⟨1,85,none⟩),.pointer (some a),.int .u64 153])).run Tryz.prog w= .ok (some (85,a,153)) w:=by kernel_rfl
theorem Yf3 (w:World):(Rtype.directlyAssignable 85 85).run Tryz.prog w= .ok true w:=by kernel_rfl
theorem Ytv (g b:Nat)(cs cur:List Value)(W:World)(hl:cs.length=Kd.sz Z7h)(hl2:cur.length=Kd.sz Z7h)(h1:∀v∈cs,v.oneCell'=true)(hb:W.heap[b]? =some (.cells cs.toArray 85 (0,0)))(hg:W.heap[g]? =some (.cells cur.toArray 85 (0,0))):
  (ReflectliteValue.set #[.agg #[.pointer (some ⟨1,85,none⟩),.pointer (some ⟨g,0,none⟩),.int .u64 409],.agg #[.pointer (some ⟨1,85,none⟩),.pointer (some ⟨b,0,none⟩),.int .u64 153]]).run Tryz.prog W= .ok (.tuple #[]) (W.setRow g cs.toArray):=by
 have h2:=Y87 (P:=Tryz.prog) Ya7 rfl hl h1 hb
 have h3:=Yb5 (P:=Tryz.prog) Ya7 rfl hl hl2 h1 hg
 rw [Y00]
 simp only [Sem.run_bind,Yfk,Yvq,Result.andThen]
 simp [ReflectliteValue.flagAddr,h2,h3,Result.andThen,Yf3]
set_option maxHeartbeats 4000000 in
theorem Yly (g:Nat)(cs cur:List Value)(w:World)(hg:w.cell? ⟨0,0,none⟩=some (.iface 230 (.agg #[.pointer (some ⟨1,88,none⟩)])))(hl:cs.length=Kd.sz Z7h)(hl2:cur.length=Kd.sz Z7h)(h1:∀v∈cs,v.oneCell'=true)(hc:w.heap[g]? =some (.cells cur.toArray 85 (0,0))):
  Calls Tryz.prog 37 #[.iface 85 (.agg cs.toArray),.iface 90 (.pointer (some ⟨g,0,none⟩))] w fun ev w'=>ev= .returned (.bool true)∧∃o1 o2 o3 o4,w'=((((w.alloc o1).alloc o2).alloc o3).alloc o4).setRow g cs.toArray:=by
 have h6:= @run_callFunc_extern Tryz.prog 79 _ (fun args=>ReflectliteValue.unpack (args.getD 0 (.tuple #[]))) Tryz.func79 (by kernel_rfl) (by kernel_rfl) (by kernel_rfl) (by kernel_rfl)
 have h7:= @run_callFunc_extern Tryz.prog 80 _ (ReflectliteValue.methodAny (ReflectliteValue.valueError "reflectlite.Value.Type" 0) (fun t _ _ _=>ReflectliteType.toType t)) Tryz.func80 (by kernel_rfl) (by kernel_rfl) (by kernel_rfl) (by kernel_rfl)
 have h8:= @run_callFunc_extern Tryz.prog 81 _ (ReflectliteValue.method (ReflectliteValue.valueError "reflectlite.Value.IsNil" 0) ReflectliteValue.isNil) Tryz.func81 (by kernel_rfl) (by kernel_rfl) (by kernel_rfl) (by kernel_rfl)
 have h27:= @run_callFunc_extern Tryz.prog 415 _ (ReflectliteType.abiMethod fun t=>do pure (.int .u8 (←Rtype.kind t))) Tryz.func415 (by kernel_rfl) (by kernel_rfl) (by kernel_rfl) (by kernel_rfl)
 have h37:= @run_callFunc_extern Tryz.prog 426 _ (ReflectliteType.method ReflectliteType.elem) Tryz.func426 (by kernel_rfl) (by kernel_rfl) (by kernel_rfl) (by kernel_rfl)
 have h38:= @run_callFunc_extern Tryz.prog 427 _ (ReflectliteType.relation "Implements" ReflectliteType.implements_) Tryz.func427 (by kernel_rfl) (by kernel_rfl) (by kernel_rfl) (by kernel_rfl)
 have h10:= @run_callFunc_extern Tryz.prog 156 _ ReflectliteType.typeOf Tryz.func156 (by kernel_rfl) (by kernel_rfl) (by kernel_rfl) (by kernel_rfl)
 have h35:= @run_callFunc_extern Tryz.prog 424 _ (ReflectliteType.relation "AssignableTo" ReflectliteType.assignableTo) Tryz.func424 (by kernel_rfl) (by kernel_rfl) (by kernel_rfl) (by kernel_rfl)
 have h11:= @run_callFunc_extern Tryz.prog 157 _ (ReflectliteValue.method (ReflectliteValue.valueError "reflectlite.Value.Elem" 0) ReflectliteValue.elem) Tryz.func157 (by kernel_rfl) (by kernel_rfl) (by kernel_rfl) (by kernel_rfl)
 have h12:= @run_callFunc_extern Tryz.prog 158 _ ReflectliteValue.set Tryz.func158 (by kernel_rfl) (by kernel_rfl) (by kernel_rfl) (by kernel_rfl)
 have tO:=Yf4
 have mA:=Y60
 have a25:=Yhf
 have v25:=Ygp cs.toArray
 have f6:=Yp9
 have f7:=Ygy
 have mK:=Y50
 have mE:=Y3b
 have mI:=Y0l
 have k27:=Ye3
 have k25:=Ykt
 have e27:=Yqi
 have i25:=Yvx
 have n8:=Ygh ⟨w.heap.size,0,none⟩ ⟨g,0,none⟩ ((w.alloc (.cells #[.pointer (some ⟨g,0,none⟩)] 90)).alloc (.cells #[.pointer (some ⟨1,90,none⟩),.pointer (some ⟨w.heap.size,0,none⟩),.int .u64 150] 147)) (by simp)
 have hlt:0<w.heap.size:=by
  rcases Nat.lt_or_ge 0 w.heap.size with h | h
  ·exact h
  ·simp [World.cell?,Array.getElem?_eq_none h] at hg
 have hg2:((w.alloc (.cells #[.pointer (some ⟨g,0,none⟩)] 90)).alloc (.cells #[.pointer (some ⟨1,90,none⟩),.pointer (some ⟨w.heap.size,0,none⟩),.int .u64 150] 147)).cell? ⟨0,0,none⟩=some (.iface 230 (.agg #[.pointer (some ⟨1,88,none⟩)])):=by
  rw [World.cell?_alloc_lt _ _ ⟨0,0,none⟩ (by simp<;>omega),World.cell?_alloc_lt _ _ ⟨0,0,none⟩ hlt];exact hg
 have hgl:g<w.heap.size:=(Array.getElem?_eq_some_iff.1 hc).1
 have el:=Ybg ⟨w.heap.size,0,none⟩ ⟨g,0,none⟩ (((w.alloc (.cells #[.pointer (some ⟨g,0,none⟩)] 90)).alloc (.cells #[.pointer (some ⟨1,90,none⟩),.pointer (some ⟨w.heap.size,0,none⟩),.int .u64 150] 147)).alloc (.cells #[.pointer (some ⟨1,90,none⟩),.pointer (some ⟨w.heap.size,0,none⟩),.int .u64 150] 147)) (by rw [World.cell?_alloc_lt _ _ ⟨w.heap.size,0,none⟩ (by simp<;>omega)];simp)
 have st:=Ytv g (w.heap.size+1+1+1) cs cur ((((w.alloc (.cells #[.pointer (some ⟨g,0,none⟩)] 90)).alloc (.cells #[.pointer (some ⟨1,90,none⟩),.pointer (some ⟨w.heap.size,0,none⟩),.int .u64 150] 147)).alloc (.cells #[.pointer (some ⟨1,90,none⟩),.pointer (some ⟨w.heap.size,0,none⟩),.int .u64 150] 147)).alloc (.cells cs.toArray 85)) hl hl2 h1
  (Y31 w _ _ _ _) (Ya3 w _ _ _ _ hgl hc)
 go_enter Tryz.func37,Tryz.ntmps37
 go_wp2
 refine wp_loop_rounds 1 ?_
 rw [rounds_succ]
 go_wp2
 go_ret
 exact ⟨rfl,_,_,_,_,rfl⟩
end
def Y9b:Err→audit_wrong→Option (Bool×audit_wrong)
 | .no,x=>some (false,x)
 | .e85 y,_=>some (true,y)
 | _,_=>none
theorem Yfm (e:Err)(x:audit_wrong)(r:Bool×audit_wrong)(h:Y9b e x=some r)(g:Nat):Con Tryz.prog 37 [rd Z4y e,Zb (.iface 90 (.pointer (some ⟨g,0,none⟩)))] (Zh g 85 Z7h x) (fun _:Unit=>rd Z6 r.1) (fun _=>Zh g 85 Z7h r.2):=
 Y5s (A:=fun w=>w.cell? ⟨0,0,none⟩=some (.iface 230 (.agg #[.pointer (some ⟨1,88,none⟩)]))) rfl (fun hd=>by cases e<;>first | (cases hd;done) | (exact (Option.some.inj h).symm))
  (fun y hd=>by cases e<;>first | (cases hd;done) | (cases h;done) | (cases h;cases hd;exact ⟨rfl,rfl⟩)) (fun w H=>Y4d) Y1a (fun cs cur w hA hl hl2 h1 hg=>Yly g cs cur w hA hl hl2 h1 hg)
section
open Go.RowKit Go.Extern.Stop Go.Stop Go.Extern
theorem Ypy (t:Addr)(w:World):(ReflectliteValue.unpack (.iface 369 (.pointer (some t)))).run Tryz.prog w= .ok (.agg #[.pointer (some ⟨1,369,none⟩),.pointer (some ⟨w.heap.size,0,none⟩),.int .u64 150]) (w.alloc (.cells #[.pointer (some t)] 369)):=by kernel_rfl
theorem Ybn (a:Addr)(w:World):(ReflectliteValue.methodAny (ReflectliteValue.valueError "reflectlite.Value.Type" 0) (fun t _ _ _=>ReflectliteType.toType t) #[.agg #[.pointer (some ⟨1,369,none⟩),.pointer (some a),.int .u64 150]]).run Tryz.prog w= .ok (.iface 230 (.agg #[.pointer (some ⟨1,369,none⟩)])) w:=by kernel_rfl
theorem Yc7 (w:World):((ReflectliteType.abiMethod fun t=>(fun a:Nat=>Value.int IntKind.u8 (a:Int))<$>Rtype.kind t) #[.pointer (some ⟨1,369,none⟩)]).run Tryz.prog w= .ok (.int .u8 22) w:=by kernel_rfl
theorem Ybj (w:World):((ReflectliteType.abiMethod fun t=>(fun a:Nat=>Value.int IntKind.u8 (a:Int))<$>Rtype.kind t) #[.pointer (some ⟨1,265,none⟩)]).run Tryz.prog w= .ok (.int .u8 25) w:=by kernel_rfl
theorem Y2v:Tryz.prog.underlying 369=some (.pointer 265):=by kernel_rfl
theorem Y3e (a:Addr)(w:World):(ReflectliteValue.parts (.agg #[.pointer (some ⟨1,369,none⟩),.pointer (some a),.int .u64 150])).run Tryz.prog w= .ok (some (369,a,150)) w:=by kernel_rfl
theorem Yl2 (a p:Addr)(W:World)(ha:W.cell? a=some (.pointer (some p))):
  (ReflectliteValue.method (ReflectliteValue.valueError "reflectlite.Value.IsNil" 0) ReflectliteValue.isNil #[.agg #[.pointer (some ⟨1,369,none⟩),.pointer (some a),.int .u64 150]]).run Tryz.prog W= .ok (.bool false) W:=by
 rw [Zoh]
 simp only [Sem.run_bind,Y3e,Result.andThen]
 simp [ReflectliteValue.isNil,loadVar,isAgg,underlying,Y2v,ha,Result.andThen]
theorem Yii (w:World):(ReflectliteType.method ReflectliteType.elem #[.agg #[.pointer (some ⟨1,369,none⟩)]]).run Tryz.prog w= .ok (.iface 230 (.agg #[.pointer (some ⟨1,265,none⟩)])) w:=by kernel_rfl
theorem Ygd (w:World):(ReflectliteType.relation "Implements" ReflectliteType.implements_ #[.agg #[.pointer (some ⟨1,265,none⟩)],.iface 230 (.agg #[.pointer (some ⟨1,88,none⟩)])]).run Tryz.prog w= .ok (.bool true) w:=by kernel_rfl
theorem Yek (v:Value)(w:World):(ReflectliteType.typeOf #[.iface 265 v]).run Tryz.prog w= .ok (.iface 230 (.agg #[.pointer (some ⟨1,265,none⟩)])) w:=by kernel_rfl
theorem Yh3 (w:World):(ReflectliteType.relation "AssignableTo" ReflectliteType.assignableTo #[.agg #[.pointer (some ⟨1,265,none⟩)],.iface 230 (.agg #[.pointer (some ⟨1,265,none⟩)])]).run Tryz.prog w= .ok (.bool true) w:=by kernel_rfl
theorem Ywt (cs:Array Value)(w:World):(ReflectliteValue.unpack (.iface 265 (.agg cs))).run Tryz.prog w= .ok (.agg #[.pointer (some ⟨1,265,none⟩),.pointer (some ⟨w.heap.size,0,none⟩),.int .u64 153]) (w.alloc (.cells cs 265)):=by kernel_rfl
theorem Ytp (w:World):(Rtype.elem? 369).run Tryz.prog w= .ok (some 265) w:=by kernel_rfl
theorem Yrv (p:Addr)(w:World):(ReflectliteValue.mk 265 p ReflectliteValue.flagAddr).run Tryz.prog w= .ok (.agg #[.pointer (some ⟨1,265,none⟩),.pointer (some p),.int .u64 409]) w:=by kernel_rfl
theorem Yqj (a p:Addr)(W:World)(ha:W.cell? a=some (.pointer (some p))):
  (ReflectliteValue.method (ReflectliteValue.valueError "reflectlite.Value.Elem" 0) ReflectliteValue.elem #[.agg #[.pointer (some ⟨1,369,none⟩),.pointer (some a),.int .u64 150]]).run Tryz.prog W
   = .ok (.agg #[.pointer (some ⟨1,265,none⟩),.pointer (some p),.int .u64 409]) W:=by
 rw [Zoh]
 simp only [Sem.run_bind,Y3e,Result.andThen]
 simp [ReflectliteValue.elem,loadVar,isAgg,underlying,Y2v,ha,Result.andThen,Ytp,Yrv]
theorem Yvu (a:Addr)(w:World):(ReflectliteValue.parts (.agg #[.pointer (some ⟨1,265,none⟩),.pointer (some a),.int .u64 409])).run Tryz.prog w= .ok (some (265,a,409)) w:=by kernel_rfl
theorem Yh0 (a:Addr)(w:World):(ReflectliteValue.parts (.agg #[.pointer (some ⟨1,265,none⟩),.pointer (some a),.int .u64 153])).run Tryz.prog w= .ok (some (265,a,153)) w:=by kernel_rfl
theorem Yu3 (w:World):(Rtype.directlyAssignable 265 265).run Tryz.prog w= .ok true w:=by kernel_rfl
theorem Ycc (g b:Nat)(cs cur:List Value)(W:World)(hl:cs.length=Kd.sz Z72)(hl2:cur.length=Kd.sz Z72)(h1:∀v∈cs,v.oneCell'=true)(hb:W.heap[b]? =some (.cells cs.toArray 265 (0,0)))(hg:W.heap[g]? =some (.cells cur.toArray 265 (0,0))):
  (ReflectliteValue.set #[.agg #[.pointer (some ⟨1,265,none⟩),.pointer (some ⟨g,0,none⟩),.int .u64 409],.agg #[.pointer (some ⟨1,265,none⟩),.pointer (some ⟨b,0,none⟩),.int .u64 153]]).run Tryz.prog W= .ok (.tuple #[]) (W.setRow g cs.toArray):=by
 have h2:=Y87 (P:=Tryz.prog) Yb9 rfl hl h1 hb
 have h3:=Yb5 (P:=Tryz.prog) Yb9 rfl hl hl2 h1 hg
 rw [Y00]
 simp only [Sem.run_bind,Yvu,Yh0,Result.andThen]
 simp [ReflectliteValue.flagAddr,h2,h3,Result.andThen,Yu3]
set_option maxHeartbeats 4000000 in
theorem Yph (g:Nat)(cs cur:List Value)(w:World)(hg:w.cell? ⟨0,0,none⟩=some (.iface 230 (.agg #[.pointer (some ⟨1,88,none⟩)])))(hl:cs.length=Kd.sz Z72)(hl2:cur.length=Kd.sz Z72)(h1:∀v∈cs,v.oneCell'=true)(hc:w.heap[g]? =some (.cells cur.toArray 265 (0,0))):
  Calls Tryz.prog 37 #[.iface 265 (.agg cs.toArray),.iface 369 (.pointer (some ⟨g,0,none⟩))] w fun ev w'=>ev= .returned (.bool true)∧∃o1 o2 o3 o4,w'=((((w.alloc o1).alloc o2).alloc o3).alloc o4).setRow g cs.toArray:=by
 have h6:= @run_callFunc_extern Tryz.prog 79 _ (fun args=>ReflectliteValue.unpack (args.getD 0 (.tuple #[]))) Tryz.func79 (by kernel_rfl) (by kernel_rfl) (by kernel_rfl) (by kernel_rfl)
 have h7:= @run_callFunc_extern Tryz.prog 80 _ (ReflectliteValue.methodAny (ReflectliteValue.valueError "reflectlite.Value.Type" 0) (fun t _ _ _=>ReflectliteType.toType t)) Tryz.func80 (by kernel_rfl) (by kernel_rfl) (by kernel_rfl) (by kernel_rfl)
 have h8:= @run_callFunc_extern Tryz.prog 81 _ (ReflectliteValue.method (ReflectliteValue.valueError "reflectlite.Value.IsNil" 0) ReflectliteValue.isNil) Tryz.func81 (by kernel_rfl) (by kernel_rfl) (by kernel_rfl) (by kernel_rfl)
 have h27:= @run_callFunc_extern Tryz.prog 415 _ (ReflectliteType.abiMethod fun t=>do pure (.int .u8 (←Rtype.kind t))) Tryz.func415 (by kernel_rfl) (by kernel_rfl) (by kernel_rfl) (by kernel_rfl)
 have h37:= @run_callFunc_extern Tryz.prog 426 _ (ReflectliteType.method ReflectliteType.elem) Tryz.func426 (by kernel_rfl) (by kernel_rfl) (by kernel_rfl) (by kernel_rfl)
 have h38:= @run_callFunc_extern Tryz.prog 427 _ (ReflectliteType.relation "Implements" ReflectliteType.implements_) Tryz.func427 (by kernel_rfl) (by kernel_rfl) (by kernel_rfl) (by kernel_rfl)
 have h10:= @run_callFunc_extern Tryz.prog 156 _ ReflectliteType.typeOf Tryz.func156 (by kernel_rfl) (by kernel_rfl) (by kernel_rfl) (by kernel_rfl)
 have h35:= @run_callFunc_extern Tryz.prog 424 _ (ReflectliteType.relation "AssignableTo" ReflectliteType.assignableTo) Tryz.func424 (by kernel_rfl) (by kernel_rfl) (by kernel_rfl) (by kernel_rfl)
 have h11:= @run_callFunc_extern Tryz.prog 157 _ (ReflectliteValue.method (ReflectliteValue.valueError "reflectlite.Value.Elem" 0) ReflectliteValue.elem) Tryz.func157 (by kernel_rfl) (by kernel_rfl) (by kernel_rfl) (by kernel_rfl)
 have h12:= @run_callFunc_extern Tryz.prog 158 _ ReflectliteValue.set Tryz.func158 (by kernel_rfl) (by kernel_rfl) (by kernel_rfl) (by kernel_rfl)
 have tO:=Yek
 have mA:=Y60
 have a25:=Yh3
 have v25:=Ywt cs.toArray
 have f6:=Ypy
 have f7:=Ybn
 have mK:=Y50
 have mE:=Y3b
 have mI:=Y0l
 have k27:=Yc7
 have k25:=Ybj
 have e27:=Yii
 have i25:=Ygd
 have n8:=Yl2 ⟨w.heap.size,0,none⟩ ⟨g,0,none⟩ ((w.alloc (.cells #[.pointer (some ⟨g,0,none⟩)] 369)).alloc (.cells #[.pointer (some ⟨1,369,none⟩),.pointer (some ⟨w.heap.size,0,none⟩),.int .u64 150] 147)) (by simp)
 have hlt:0<w.heap.size:=by
  rcases Nat.lt_or_ge 0 w.heap.size with h | h
  ·exact h
  ·simp [World.cell?,Array.getElem?_eq_none h] at hg
 have hg2:((w.alloc (.cells #[.pointer (some ⟨g,0,none⟩)] 369)).alloc (.cells #[.pointer (some ⟨1,369,none⟩),.pointer (some ⟨w.heap.size,0,none⟩),.int .u64 150] 147)).cell? ⟨0,0,none⟩=some (.iface 230 (.agg #[.pointer (some ⟨1,88,none⟩)])):=by
  rw [World.cell?_alloc_lt _ _ ⟨0,0,none⟩ (by simp<;>omega),World.cell?_alloc_lt _ _ ⟨0,0,none⟩ hlt];exact hg
 have hgl:g<w.heap.size:=(Array.getElem?_eq_some_iff.1 hc).1
 have el:=Yqj ⟨w.heap.size,0,none⟩ ⟨g,0,none⟩ (((w.alloc (.cells #[.pointer (some ⟨g,0,none⟩)] 369)).alloc (.cells #[.pointer (some ⟨1,369,none⟩),.pointer (some ⟨w.heap.size,0,none⟩),.int .u64 150] 147)).alloc (.cells #[.pointer (some ⟨1,369,none⟩),.pointer (some ⟨w.heap.size,0,none⟩),.int .u64 150] 147)) (by rw [World.cell?_alloc_lt _ _ ⟨w.heap.size,0,none⟩ (by simp<;>omega)];simp)
 have st:=Ycc g (w.heap.size+1+1+1) cs cur ((((w.alloc (.cells #[.pointer (some ⟨g,0,none⟩)] 369)).alloc (.cells #[.pointer (some ⟨1,369,none⟩),.pointer (some ⟨w.heap.size,0,none⟩),.int .u64 150] 147)).alloc (.cells #[.pointer (some ⟨1,369,none⟩),.pointer (some ⟨w.heap.size,0,none⟩),.int .u64 150] 147)).alloc (.cells cs.toArray 265)) hl hl2 h1
  (Y31 w _ _ _ _) (Ya3 w _ _ _ _ hgl hc)
 go_enter Tryz.func37,Tryz.ntmps37
 go_wp2
 refine wp_loop_rounds 1 ?_
 rw [rounds_succ]
 go_wp2
 go_ret
 exact ⟨rfl,_,_,_,_,rfl⟩
end
def Y9c:Err→state_refused→Option (Bool×state_refused)
 | .no,x=>some (false,x)
 | .e265 y,_=>some (true,y)
 | _,_=>none
theorem Ye9 (e:Err)(x:state_refused)(r:Bool×state_refused)(h:Y9c e x=some r)(g:Nat):Con Tryz.prog 37 [rd Z4y e,Zb (.iface 369 (.pointer (some ⟨g,0,none⟩)))] (Zh g 265 Z72 x) (fun _:Unit=>rd Z6 r.1) (fun _=>Zh g 265 Z72 r.2):=
 Y5s (A:=fun w=>w.cell? ⟨0,0,none⟩=some (.iface 230 (.agg #[.pointer (some ⟨1,88,none⟩)]))) rfl (fun hd=>by cases e<;>first | (cases hd;done) | (exact (Option.some.inj h).symm))
  (fun y hd=>by cases e<;>first | (cases hd;done) | (cases h;done) | (cases h;cases hd;exact ⟨rfl,rfl⟩)) (fun w H=>Y4d) Y1a (fun cs cur w hA hl hl2 h1 hg=>Yph g cs cur w hA hl hl2 h1 hg)
def Zuy (w1:state_work)(x2:Err):Option (Switch×Fault):=
 (Y9c x2 Zw9).bind fun a6=>(bif a6.1 then some ((⟨(Vector.replicate 4 []),[]⟩:Switch),a6.2.Fault) else some (w1.Switch,(⟨false,0,0⟩:Fault)))
theorem Yup:Q2 Tryz.prog 242 (rp Z9i) (rd Z4y) (fun r=>Z10 (rd Z08 r.1) (rd Z3o r.2)) Zuy:=fun w1 x2 r h=>I0 Tryz.func242 rfl Tryz.ntmps242 rfl fun w H Z=>by
 unfold Zuy at h
 refine SR<|Cv rfl (Zm 5 rfl rfl Z8u) fun g3=>Cv rfl (Zm 6 rfl rfl Z5x) fun g4=>Nl<|SR<|Cv rfl (Zm 7 rfl rfl Y1p) fun g5=>Nl<|sq<|sq ?_
 obtain ⟨a6,ha6,h⟩:=Z7 h
 refine Rg<|Md rfl<|Ac (Yaa rfl rfl Yry rfl (vt rfl)) rfl<|Cv rfl (Z1a 7 (xs:=[.tmp 7,.tmp 8]) (Ye9 _ _ _ ha6 _) e37 rfl rfl ⟨(vt rfl),(vt rfl),trivial⟩ rfl) fun _u=>Nl<|Cq rfl h (fun h=>?_) (fun h=>?_)
 ·refine sq<|AR Z00 (by kernel_rfl)<|Sd (lo [] [] rfl fun S hs hr=>opb (⟨(Vector.replicate 4 []),[]⟩:Switch) Z8u rfl Zo1 (pn rfl))<|SFd lstate_refused_0 Yxj rfl<|Zo Z2u 7 rfl<|SSt Z20 5 rfl<|SSt Z2u 6 rfl<|Sn<|rt ?_
  cases h;exact Z1d Tryz.results242 rfl (Zx rfl (i:=5) rfl Z20) (Zx rfl (i:=6) rfl Z2u)
 ·refine sk<|SR<|Mr rfl<|Ac (Z30 rfl rfl (vt rfl)) rfl<|Fp lstate_work_0 Y5p rfl<|Lp1 Z20 rfl<|Ac (opb (⟨false,0,0⟩:Fault) Z5x rfl Zdw (pn rfl)) rfl<|Zg Z20 5 rfl<|Zg Z2u 6 rfl<|Nl<|rt ?_
  cases h;exact Z1d Tryz.results242 rfl (Zx rfl (i:=5) rfl Z20) (Zx rfl (i:=6) rfl Z2u)
def Zwt (s1:Switch)(t2:Int)(l3:(List Inst)):Option Fault:=
 (Zsn (⟨s1⟩:state_work) t2 l3).bind fun x7=>(Zuy (⟨s1⟩:state_work) x7).bind fun x8=>some x8.2
theorem Ysu:Q3 Tryz.prog 160 (rd Z08) (rd (Z0 .i64)) (rd (Z1 Z0a)) (rd Z3o) Zwt:=fun s1 t2 l3 r h=>I0 Tryz.func160 rfl Tryz.ntmps160 rfl fun w H Z=>by
 unfold Zwt at h
 refine SR<|Cv rfl (Zs 4 rfl rfl (vt rfl)) fun g4=>Cv rfl (Zm 7 rfl rfl Z5x) fun g5=>Nl<|SR<|Ld Z20 4 rfl<|Ac (opb (⟨s1⟩:state_work) Yua rfl Yog (pc Ymu (vt rfl)<|pn rfl)) rfl<|Cv rfl (Zs 13 rfl rfl (vt rfl)) fun g6=>Ac (Zv (A:=Zc g6 (Lens.id Z9i)) rfl rfl (vt rfl)) rfl<|Nl<|sq<|AW.freezesB [7,12] 13 rfl ⟨rfl,rfl,trivial⟩ rfl ?_
 obtain ⟨x7,hx7,x8,hx8,h⟩:=bs2 h
 refine Rg<|Mr rfl<|Mr rfl<|Md rfl<|Md rfl<|Cl [15,16,17] (Ym5 _ _ _ _ hx7) e51 rfl<|Cl [14,18] (Yup _ _ _ hx8) Ycm rfl<|Mt2 rfl<|Ac (Z1c rfl rfl (vt rfl)) rfl<|Ac (Z18 rfl rfl (vt rfl)) rfl<|Cv rfl (Zm 9 rfl rfl Z8u) fun g9=>Cv rfl (Zm 10 rfl rfl Z5x) fun g10=>Zg Z20 9 rfl<|Zg Z2u 10 rfl<|Nl<|SR<|Ld Z2u 10 rfl<|Zg Z2u 7 rfl<|Nl<|rt ?_
 cases h;exact Zd Tryz.results160 rfl (Zx rfl (i:=7) rfl Z2u)
def Zly (t2:Int)(s1:Switch):(List Flow)→Nat→Option Err
 | [],i7=>some Err.no
 | x9::l8,i7=>(Ztq x9 t2).bind fun x11=>(Zwk x11).bind fun x12=>(opt (!(!x12)) (Zwt s1 t2 x9.Insts)).bind fun x13=>(bif ((!x12)||x13.Is) then some (Err.e85 (⟨(⟨t2,(i7:Int)⟩:Place)⟩:audit_wrong)) else (Zly t2 s1 l8) (i7+1))
def Zxf (s1:Switch)(t2:Int):Option Err:=
 (chk 4 t2).bind fun j4=>(Zyz (Vector.get s1.Tables j4)).bind fun x5=>(bif (!x5) then some (Err.e85 (⟨(⟨t2,(-1)⟩:Place)⟩:audit_wrong)) else (chk 4 t2).bind fun j6=>Zly t2 s1 (Vector.get s1.Tables j6) 0)
theorem Yu6:Q2 Tryz.prog 84 (rd Z08) (rd (Z0 .i64)) (rd Z4y) Zxf:=fun s1 t2 r h=>I0 Tryz.func84 rfl Tryz.ntmps84 rfl fun w H Z=>by
 unfold Zxf at h
 refine SR<|Cv rfl (Zs 3 rfl rfl (vt rfl)) fun g3=>Ac (Zv (A:=rd Z4y Err.no) rfl rfl (vne rfl)) rfl<|Nl<|sq<|sq ?_
 obtain ⟨j4,hj4,x5,hx5,h⟩:=bs2 h
 refine Rg<|Md rfl<|Zk Z4n Z4u rfl<|Ac (Z13 rfl rfl Z51 (vt rfl) (vt rfl) hj4) rfl<|Ld Z38 3 rfl<|Cl [10] (Ygu _ _ hx5) e52 rfl<|Ac (Z0y rfl rfl (vt rfl)) rfl<|Nl<|Cq rfl h (fun h=>?_) (fun h=>?_)
 ·refine SR<|Md rfl<|Ac (opb (⟨t2,(-1)⟩:Place) Z48 rfl Z7z (pc Zar (vt rfl)<|pc Z9y (vk rfl)<|pn rfl)) rfl<|Ac (opb (⟨(⟨t2,(-1)⟩:Place)⟩:audit_wrong) Zof rfl Zvq (pc Zus (vt rfl)<|pn rfl)) rfl<|Ac (Zpm (d:=Ziv) (Err.e85 (⟨(⟨t2,(-1)⟩:Place)⟩:audit_wrong)) rfl rfl Zy6 rfl (vt rfl)) rfl<|As rfl<|Nl<|rt ?_
  cases h;exact Zd Tryz.results84 rfl (Z5 rfl)
 ·refine sk<|sq<|sq ?_
  obtain ⟨j6,hj6,h⟩:=Z7 h
  refine Rg<|Md rfl<|Zk Z4n Z4u rfl<|Ac (Z13 rfl rfl Z51 (vt rfl) (vt rfl) hj6) rfl<|Ld Z38 3 rfl<|Ac (Z0i rfl rfl Z2e (vt rfl)) rfl<|Mk rfl<|Nl<|bk<|LG (d:=[]) (ν:=(List Flow)×Nat) (fun (l8,i7)=>(Sfx (Vector.get s1.Tables j6) i7 l8∧Zly t2 s1 l8 i7=some r,l8.length,[(1,rd (Z0 .i64) t2),(2,Zc g3 (Lens.id Z08)),(20,rd (Z1 Z03) (Vector.get s1.Tables j6)),(21,rd (Z0 .i64) ((Vector.get s1.Tables j6).length:Int)),(22,rd (Z0 .i64) (i7:Int))],[(3,Zh g3 26 Z08 s1)])) ((Vector.get s1.Tables j6),0) ⟨Sfx.start _,h⟩ (FX rfl) ?_
  rintro ⟨l8,i7⟩ ⟨hsf1,h⟩
  dsimp only at hsf1 h ⊢
  cases l8 with
  | nil=>
   unfold Zly at h
   refine SR<|Ac (Zj rfl rfl (vt rfl) (vt rfl)) rfl<|Nl<|sq<|Cn rfl (fun hc=>absurd (of_decide_eq_true hc) hsf1.nil) (fun hc=>?_)
   refine xt<|SR<|Ac (Zv (A:=rd Z4y Err.no) rfl rfl (vne rfl)) rfl<|Nl<|rt ?_
   cases h;exact Zd Tryz.results84 rfl (Z5 rfl)
  | cons x9 l8=>
   unfold Zly at h
   refine SR<|Ac (Zj rfl rfl (vt rfl) (vt rfl)) rfl<|Nl<|sq<|Cn rfl (fun hc=>?_) (fun hc=>absurd hsf1.cons (of_decide_eq_false hc))
   have hlti7:=of_decide_eq_true hc
   refine sk<|sq<|bk<|SR<|Md rfl<|Ac (Z0k rfl rfl Z2e (vt rfl) (vt rfl) hsf1.lget) rfl<|Lp1 Z2b rfl<|Cv rfl (Zm 7 rfl rfl Z61) fun g10=>As rfl<|Zg Z2b 7 rfl<|Nl<|sq ?_
   obtain ⟨x11,hx11,x12,hx12,x13,hx13,h⟩:=bs3 h
   refine Rg<|Ld Z2b 7 rfl<|Md rfl<|Cl [27,28] (Yoh _ _ _ hx11) e50 rfl<|Cl [29] (Yc4 _ _ hx12) e49 rfl<|Ac (Z0y rfl rfl (vt rfl)) rfl<|Md rfl<|Gd rfl (fun hq=>Z1s rfl rfl Z20 (vt rfl) (i:=3) rfl)<|Gd rfl (fun hq=>Zq (A:=rd (Z0 .i64) t2) rfl rfl (vt rfl))<|Gd rfl (fun hq=>Z2n lFlow_6 rfl rfl Z8h (vt rfl))<|Gd rfl (fun hq=>Z1s rfl rfl Z5v (Zi rfl hq) (i:=7) rfl)<|Gd rfl (fun hq=>Z0c (xs:=[.tmp 33,.tmp 34,.tmp 36]) (Ysu _ _ _ _ (Z8p hx13 hq)) Yjo rfl rfl ⟨Zi rfl hq,Zi rfl hq,Zi rfl hq,trivial⟩)<|Gd rfl (fun hq=>Zin lFault_0 rfl rfl Zop Zqd ty4 rfl (Zi rfl hq))<|Ac (Z3j rfl rfl (vt rfl) (vt rfl)) rfl<|Nl<|Cq rfl h (fun h=>?_) (fun h=>?_)
   ·refine SR<|Md rfl<|Md rfl<|Ac (opb (⟨t2,(i7:Int)⟩:Place) Z48 rfl Z7z (pc Zar (vt rfl)<|pc Z9y (vt rfl)<|pn rfl)) rfl<|Ac (opb (⟨(⟨t2,(i7:Int)⟩:Place)⟩:audit_wrong) Zof rfl Zvq (pc Zus (vt rfl)<|pn rfl)) rfl<|Ac (Zpm (d:=Ziv) (Err.e85 (⟨(⟨t2,(i7:Int)⟩:Place)⟩:audit_wrong)) rfl rfl Zy6 rfl (vt rfl)) rfl<|As rfl<|Nl<|rt ?_
    cases h;exact Zd Tryz.results84 rfl (Z5 rfl)
   ·refine sk<|Rg<|Ac (Z12 (t:=21) rfl rfl (vt rfl) (vk rfl) (vt rfl) hlti7) rfl<|Md rfl<|Nl ?_
    exact ⟨(_,_),Nat.lt_succ_self _,⟨hsf1.next,h⟩,FX rfl⟩
def Zlp (s1:Switch):Nat→Nat→Option Err
 | 0,i4=>some Err.no
 | m5+1,i4=>(Zxf s1 (i4:Int)).bind fun x6=>(bif (!(Err.isNo x6)) then some x6 else (Zlp s1 m5) (i4+1))
def Zwi (s1:Switch):Option Err:=
 (Zuq s1.Groups).bind fun x3=>(bif (!(Err.isNo x3)) then some x3 else Zlp s1 (4:Int).toNat 0)
theorem Yns:Q1 Tryz.prog 38 (rd Z08) (rd Z4y) Zwi:=fun s1 r h=>I0 Tryz.func38 rfl Tryz.ntmps38 rfl fun w H Z=>by
 unfold Zwi at h
 refine SR<|Cv rfl (Zs 2 rfl rfl (vt rfl)) fun g2=>Ac (Zv (A:=rd Z4y Err.no) rfl rfl (vne rfl)) rfl<|Nl<|sq<|sq ?_
 obtain ⟨x3,hx3,h⟩:=Z7 h
 refine Rg<|Zk lSwitch_1 Zp6 rfl<|Ld Zet 2 rfl<|Cl [7] (Yrf _ _ hx3) e83 rfl<|As rfl<|Nl<|SR<|Md rfl<|Ac (Y6f rfl rfl Y55 (Y14 _) (vt rfl)) rfl<|Nl<|Cq rfl h (fun h=>?_) (fun h=>?_)
 ·refine SR<|Md rfl<|As rfl<|Nl<|rt ?_
  cases h;exact Zd Tryz.results38 rfl (Z5 rfl)
 ·refine sk<|sq<|SR<|Mk rfl<|Nl<|bk<|LG (d:=[]) (ν:=Nat×Nat) (fun (m5,i4)=>(Cnt 4 i4 m5∧Zlp s1 m5 i4=some r,m5,[(1,Zc g2 (Lens.id Z08)),(12,rd (Z0 .i64) (i4:Int))],[(2,Zh g2 26 Z08 s1)])) ((4:Int).toNat,0) ⟨Cnt.start _,h⟩ (FX rfl) ?_
  rintro ⟨m5,i4⟩ ⟨hsf1,h⟩
  dsimp only at hsf1 h ⊢
  cases m5 with
  | zero=>
   unfold Zlp at h
   refine SR<|Ac (Zj rfl rfl (vt rfl) (vk rfl)) rfl<|Nl<|sq<|Cn rfl (fun hc=>absurd (of_decide_eq_true hc) hsf1.zero) (fun hc=>?_)
   refine xt<|SR<|Ac (Zv (A:=rd Z4y Err.no) rfl rfl (vne rfl)) rfl<|Nl<|rt ?_
   cases h;exact Zd Tryz.results38 rfl (Z5 rfl)
  | succ m5=>
   unfold Zlp at h
   refine SR<|Ac (Zj rfl rfl (vt rfl) (vk rfl)) rfl<|Nl<|sq<|Cn rfl (fun hc=>?_) (fun hc=>absurd hsf1.succ (of_decide_eq_false hc))
   have hlti4:=of_decide_eq_true hc
   refine sk<|sq<|bk<|SR<|Md rfl<|As rfl<|Nl<|sq ?_
   obtain ⟨x6,hx6,h⟩:=Z7 h
   refine Rg<|Ld Z20 2 rfl<|Md rfl<|Cl [15,16] (Yu6 _ _ _ hx6) e84 rfl<|As rfl<|Nl<|SR<|Md rfl<|Ac (Y6f rfl rfl Y55 (Y14 _) (vt rfl)) rfl<|Nl<|Cq rfl h (fun h=>?_) (fun h=>?_)
   ·refine SR<|Md rfl<|As rfl<|Nl<|rt ?_
    cases h;exact Zd Tryz.results38 rfl (Z5 rfl)
   ·refine sk<|Rg<|Ac (Z5f rfl rfl (vt rfl) (vk rfl) rfl hlti4) rfl<|Md rfl<|Nl ?_
    exact ⟨(_,_),Nat.lt_succ_self _,⟨hsf1.next,h⟩,FX rfl⟩
def Zod (s1:Switch):Option (Place×Bool):=
 (Zwi s1).bind fun x5=>(Y9b x5 Zxq).bind fun a6=>(bif a6.1 then some (a6.2.Place,true) else some ((⟨0,0⟩:Place),false))
theorem Y07:Q1 Tryz.prog 18 (rd Z08) (fun r=>Z10 (rd Z0x r.1) (rd Z6 r.2)) Zod:=fun s1 r h=>I0 Tryz.func18 rfl Tryz.ntmps18 rfl fun w H Z=>by
 unfold Zod at h
 refine SR<|Cv rfl (Zs 2 rfl rfl (vt rfl)) fun g2=>Cv rfl (Zm 3 rfl rfl Z48) fun g3=>Ab rfl<|Nl<|SR<|Cv rfl (Zm 5 rfl rfl Zof) fun g4=>Nl<|sq<|sq ?_
 obtain ⟨x5,hx5,a6,ha6,h⟩:=bs2 h
 refine Rg<|Ld Z20 2 rfl<|Cl [5] (Yns _ _ hx5) e38 rfl<|Ac (Yaa rfl rfl Ylg rfl (vt rfl)) rfl<|Cv rfl (Z1a 5 (xs:=[.tmp 6,.tmp 7]) (Yfm _ _ _ ha6 _) e37 rfl rfl ⟨(vt rfl),(vt rfl),trivial⟩ rfl) fun _u=>Nl<|Cq rfl h (fun h=>?_) (fun h=>?_)
 ·refine SR<|Zk laudit_wrong_0 Yde rfl<|Ld Z4i 5 rfl<|Zg Z4i 3 rfl<|Ab rfl<|Nl<|rt ?_
  cases h;exact Z1d Tryz.results18 rfl (Zx rfl (i:=3) rfl Z4i) (Z5 rfl)
 ·refine sk<|SR<|Ac (opb (⟨0,0⟩:Place) Z48 rfl Z7z (pn rfl)) rfl<|Zg Z4i 3 rfl<|Ab rfl<|Nl<|rt ?_
  cases h;exact Z1d Tryz.results18 rfl (Zx rfl (i:=3) rfl Z4i) (Z5 rfl)
end Go.Proofs.YtinplddjjalohaaGreatDoor.W
set_option maxHeartbeats 1000000
set_option maxRecDepth 4000
namespace Go.Proofs.YtinplddjjalohaaGreatDoor.W
open Go Go.Wb
theorem e10:Ent Tryz.prog 10:=Ent.mk Tryz.func10 rfl rfl
theorem e21:Ent Tryz.prog 21:=Ent.mk Tryz.func21 rfl rfl
theorem e18:Ent Tryz.prog 18:=Ent.mk Tryz.func18 rfl rfl
theorem e26:Ent Tryz.prog 26:=Ent.mk Tryz.func26 rfl rfl
theorem e33:Ent Tryz.prog 33:=Ent.mk Tryz.func33 rfl rfl
theorem e14:Ent Tryz.prog 14:=Ent.mk Tryz.func14 rfl rfl
theorem e8:Ent Tryz.prog 8:=Ent.mk Tryz.func8 rfl rfl
theorem e9:Ent Tryz.prog 9:=Ent.mk Tryz.func9 rfl rfl
def Zj6 (s1:(List Place))(s2:(List Place)):Nat→Nat→Option Bool
 | 0,i3=>some true
 | m4+1,i3=>(lget s1 (i3:Int)).bind fun x5=>(lget s2 (i3:Int)).bind fun x6=>(bif (decide (x5≠x6)) then some false else (Zj6 s1 s2 m4) (i3+1))
def Zw4 (s1:(List Place))(s2:(List Place)):Option Bool:=
 (bif (decide ((s1.length:Int)≠(s2.length:Int))) then some false else Zj6 s1 s2 ((s1.length:Int):Int).toNat 0)
theorem Ypt:Q2 Tryz.prog 26 (rd (Z1 Z0x)) (rd (Z1 Z0x)) (rd Z6) Zw4:=fun s1 s2 r h=>I0 Tryz.func26 rfl Tryz.ntmps26 rfl fun w H Z=>by
 unfold Zw4 at h
 refine SR<|Ab rfl<|Nl<|sq<|SR<|Md rfl<|Ac (Z0i rfl rfl Z6k (vt rfl)) rfl<|Md rfl<|Ac (Z0i rfl rfl Z6k (vt rfl)) rfl<|Ac (Z5t rfl rfl (vt rfl) (vt rfl)) rfl<|Nl<|Cq rfl h (fun h=>?_) (fun h=>?_)
 ·refine SR<|Ab rfl<|Nl<|rt ?_
  cases h;exact Zd Tryz.results26 rfl (Z5 rfl)
 ·refine sk<|sq<|SR<|Md rfl<|Ac (Z0i rfl rfl Z6k (vt rfl)) rfl<|Mk rfl<|Nl<|bk<|LG (d:=[]) (ν:=Nat×Nat) (fun (m4,i3)=>(Cnt (s1.length:Int) i3 m4∧Zj6 s1 s2 m4 i3=some r,m4,[(0,rd (Z1 Z0x) s1),(1,rd (Z1 Z0x) s2),(12,rd (Z0 .i64) (s1.length:Int)),(13,rd (Z0 .i64) (i3:Int))],[])) (((s1.length:Int):Int).toNat,0) ⟨Cnt.start _,h⟩ (FX rfl) ?_
  rintro ⟨m4,i3⟩ ⟨hsf1,h⟩
  dsimp only at hsf1 h ⊢
  cases m4 with
  | zero=>
   unfold Zj6 at h
   refine SR<|Ac (Zj rfl rfl (vt rfl) (vt rfl)) rfl<|Nl<|sq<|Cn rfl (fun hc=>absurd (of_decide_eq_true hc) hsf1.zero) (fun hc=>?_)
   refine xt<|SR<|Ab rfl<|Nl<|rt ?_
   cases h;exact Zd Tryz.results26 rfl (Z5 rfl)
  | succ m4=>
   unfold Zj6 at h
   refine SR<|Ac (Zj rfl rfl (vt rfl) (vt rfl)) rfl<|Nl<|sq<|Cn rfl (fun hc=>?_) (fun hc=>absurd hsf1.succ (of_decide_eq_false hc))
   have hlti3:=of_decide_eq_true hc
   refine sk<|sq<|bk<|SR<|Md rfl<|As rfl<|Nl<|sq ?_
   obtain ⟨x5,hx5,x6,hx6,h⟩:=bs2 h
   refine AR Z00 (by kernel_rfl)<|Zt rfl<|Zt rfl<|Sd (lo [16,17] [] rfl fun S hs hr=>Z0k rfl rfl Z6k (vh hs 16 rfl rfl) (vh hs 17 rfl rfl) hx5)<|SLp Z4i rfl<|Zt rfl<|Zt rfl<|Sd (lo [20,21] [] rfl fun S hs hr=>Z0k rfl rfl Z6k (vh hs 20 rfl rfl) (vh hs 21 rfl rfl) hx6)<|SLp Z4i rfl<|Sd (lo [19,23] [] rfl fun S hs hr=>Yus rfl rfl Zvl (by decide) rfl Zt2 (vh hs 19 rfl rfl) (vh hs 23 rfl rfl))<|Sn<|Cq rfl h (fun h=>?_) (fun h=>?_)
   ·refine SR<|Ab rfl<|Nl<|rt ?_
    cases h;exact Zd Tryz.results26 rfl (Z5 rfl)
   ·refine sk<|Rg<|Ac (Z12 (t:=12) rfl rfl (vt rfl) (vk rfl) (vt rfl) hlti3) rfl<|Md rfl<|Nl ?_
    exact ⟨(_,_),Nat.lt_succ_self _,⟨hsf1.next,h⟩,FX rfl⟩
def Zfo:Option Bool:=
 (Zfi {(⟨(Vector.replicate 4 []),[]⟩:Switch) with Tables:=(Vector.set ((⟨(Vector.replicate 4 []),[]⟩:Switch).Tables) (⟨0,by decide⟩:_root_.Fin 4).1 [(⟨0,1,0,0,0,[],[]⟩:Flow),(⟨0,2,0,0,0,[],[]⟩:Flow)] (⟨0,by decide⟩:_root_.Fin 4).2)} 100).bind fun x2=>(Zxn {(⟨(Vector.replicate 4 []),[]⟩:Switch) with Tables:=(Vector.set ((⟨(Vector.replicate 4 []),[]⟩:Switch).Tables) (⟨0,by decide⟩:_root_.Fin 4).1 [(⟨0,1,0,0,0,[],[]⟩:Flow),(⟨0,2,0,0,0,[],[]⟩:Flow)] (⟨0,by decide⟩:_root_.Fin 4).2)} 100).bind fun x3=>(Zod (⟨(Vector.replicate 4 []),[(⟨(-1),0,[]⟩:Group)]⟩:Switch)).bind fun x5=>(Zod {(⟨(Vector.replicate 4 []),[]⟩:Switch) with Tables:=(Vector.set ((⟨(Vector.replicate 4 []),[]⟩:Switch).Tables) (⟨0,by decide⟩:_root_.Fin 4).1 [(⟨0,1,0,0,0,[],[]⟩:Flow),(⟨0,2,0,0,0,[],[]⟩:Flow)] (⟨0,by decide⟩:_root_.Fin 4).2)}).bind fun x7=>(opt (decide (x2.2=0)) (Zw4 x2.1 [(⟨0,0⟩:Place)])).bind fun x9=>some (((((((decide (x2.2=0))&&x9)&&(decide (x3.2=0)))&&(decide (((Vector.get x3.1.Tables (⟨0,by decide⟩:_root_.Fin 4)).length:Int)=1)))&&x5.2)&&(decide (x5.1=(⟨(-1),(-1)⟩:Place))))&&(!x7.2))
theorem Zx8:Q0 Tryz.prog 9 (rd Z6) Zfo:=fun r h=>I0 Tryz.func9 rfl Tryz.ntmps9 rfl fun w H Z=>by
 unfold Zfo at h
 refine SR<|Ab rfl<|Nl<|SR<|Ac (opb (⟨(Vector.replicate 4 []),[]⟩:Switch) Z8u rfl Zo1 (pn rfl)) rfl<|Cv rfl (Zm 2 rfl rfl Z8u) fun g1=>Zg Z20 2 rfl<|Nl<|SR<|Ac (opb (⟨0,1,0,0,0,[],[]⟩:Flow) Z61 rfl Zvw (pc Zv6 (vk rfl)<|pn rfl)) rfl<|Ac (opb (⟨0,2,0,0,0,[],[]⟩:Flow) Z61 rfl Zvw (pc Zv6 (vk rfl)<|pn rfl)) rfl<|Ac (Zjc (ps:=[(0,.tmp 11),(1,.tmp 12)]) (l:=[(⟨0,1,0,0,0,[],[]⟩:Flow),(⟨0,2,0,0,0,[],[]⟩:Flow)]) rfl rfl Z2e Z61 rfl rfl ⟨_,_,Lens.idx 2 Z03 0 (by decide),_,rfl,(vt rfl),_,_,Lens.idx 2 Z03 1 (by decide),_,rfl,(vt rfl),rfl⟩ rfl) rfl<|Zk Z4n Z4u rfl<|Ac (Z13 rfl rfl Z51 (vt rfl) (vk rfl) rfl) rfl<|Zg Z38 2 rfl<|Nl<|sq ?_
 obtain ⟨x2,hx2,h⟩:=Z7 h
 refine Rg<|Ld Z20 2 rfl<|Ac (Z0c (xs:=[.tmp 17,.const (Value.int IntKind.i64 100)]) (Y69 _ _ _ hx2) e10 rfl rfl ⟨vt rfl,vk rfl,trivial⟩) rfl<|Mt2 rfl<|Ac (Z1c rfl rfl (vt rfl)) rfl<|Ac (Z18 rfl rfl (vt rfl)) rfl<|As rfl<|As rfl<|Nl<|sq ?_
 obtain ⟨x3,hx3,h⟩:=Z7 h
 refine Rg<|Ld Z20 2 rfl<|Ac (Z0c (xs:=[.tmp 22,.const (Value.int IntKind.i64 100)]) (Ynw _ _ _ hx3) e21 rfl rfl ⟨vt rfl,vk rfl,trivial⟩) rfl<|Mt2 rfl<|Ac (Z1c rfl rfl (vt rfl)) rfl<|Ac (Z18 rfl rfl (vt rfl)) rfl<|Cv rfl (Zm 5 rfl rfl Z8u) fun g4=>Zg Z20 5 rfl<|As rfl<|Nl<|sq ?_
 obtain ⟨x5,hx5,h⟩:=Z7 h
 refine Rg<|Ac (opb (⟨(-1),0,[]⟩:Group) Zcl rfl Y4l (pc Ywp (vk rfl)<|pn rfl)) rfl<|Ac (osl Z55 Zcl rfl (vt rfl)) rfl<|Ac (opb (⟨(Vector.replicate 4 []),[(⟨(-1),0,[]⟩:Group)]⟩:Switch) Z8u rfl Zo1 (pc Yhr (vt rfl)<|pn rfl)) rfl<|Cl [29] (Y07 _ _ hx5) e18 rfl<|Mt2 rfl<|Ac (Z1c rfl rfl (vt rfl)) rfl<|Ac (Z18 rfl rfl (vt rfl)) rfl<|Cv rfl (Zm 7 rfl rfl Z48) fun g6=>Zg Z4i 7 rfl<|As rfl<|Nl<|sq ?_
 obtain ⟨x7,hx7,h⟩:=Z7 h
 refine Rg<|Ld Z20 2 rfl<|Cl [34] (Y07 _ _ hx7) e18 rfl<|Mt2 rfl<|Ac (Z1c rfl rfl (vt rfl)) rfl<|Ac (Z18 rfl rfl (vt rfl)) rfl<|Cv rfl (Zm 9 rfl rfl Z48) fun g8=>Zg Z4i 9 rfl<|As rfl<|Nl<|sq ?_
 obtain ⟨x9,hx9,h⟩:=Z7 h
 refine Rg<|Md rfl<|Ac (Z0j rfl rfl (vt rfl) (vk rfl)) rfl<|Md rfl<|Gd rfl (fun hq=>Zq (A:=rd (Z1 Z0x) x2.1) rfl rfl (vt rfl))<|Gd rfl (fun hq=>opb (⟨0,0⟩:Place) Z48 rfl Z7z (pn rfl))<|Gd rfl (fun hq=>osl Z6k Z48 rfl (Zi rfl hq))<|Gd rfl (fun hq=>Z0c (xs:=[.tmp 41,.tmp 43]) (Ypt _ _ _ (Z2i hx9 hq)) e26 rfl rfl ⟨Zi rfl hq,Zi rfl hq,trivial⟩)<|Ac (Z1k rfl rfl (vt rfl) (vt rfl)) rfl<|Md rfl<|Gd rfl (fun hq=>Zq (A:=rd (Z0 .i64) x3.2) rfl rfl (vt rfl))<|Gd rfl (fun hq=>Z0j rfl rfl (Zi rfl hq) (vk rfl))<|Ac (Z1k rfl rfl (vt rfl) (vt rfl)) rfl<|Md rfl<|Gd rfl (fun hq=>Z2n Z4n rfl rfl Z4u (vt rfl))<|Gd rfl (fun hq=>Z13 rfl rfl Z51 (Zi rfl hq) (vk rfl) rfl)<|Gd rfl (fun hq=>Z1s rfl rfl Z38 (Zi rfl hq) (i:=5) rfl)<|Gd rfl (fun hq=>Z0i rfl rfl Z2e (Zi rfl hq))<|Gd rfl (fun hq=>Z0j rfl rfl (Zi rfl hq) (vk rfl))<|Ac (Z1k rfl rfl (vt rfl) (vt rfl)) rfl<|Md rfl<|Gd rfl (fun hq=>Zq (A:=rd Z6 x5.2) rfl rfl (vt rfl))<|Ac (Z1k rfl rfl (vt rfl) (vt rfl)) rfl<|Md rfl<|Gd rfl (fun hq=>Z1s rfl rfl Z4i (vt rfl) (i:=7) rfl)<|Gd rfl (fun hq=>opb (⟨(-1),(-1)⟩:Place) Z48 rfl Z7z (pc Zar (vk rfl)<|pc Z9y (vk rfl)<|pn rfl))<|Gd rfl (fun hq=>Zqb rfl rfl Zvl (by decide) rfl Zt2 (Zi rfl hq) (Zi rfl hq))<|Ac (Z1k rfl rfl (vt rfl) (vt rfl)) rfl<|Md rfl<|Gd rfl (fun hq=>Zq (A:=rd Z6 x7.2) rfl rfl (vt rfl))<|Gd rfl (fun hq=>Z0y rfl rfl (Zi rfl hq))<|Ac (Z1k rfl rfl (vt rfl) (vt rfl)) rfl<|As rfl<|Nl<|rt ?_
 cases h;exact Zd Tryz.results9 rfl (Z5 rfl)
def Zbe (s1:(List Place))(x2:Place):Nat→Nat→Option Int
 | 0,i4=>some (-1)
 | m5+1,i4=>(lget s1 (i4:Int)).bind fun x6=>(bif (decide (x2=x6)) then some (i4:Int) else (Zbe s1 x2 m5) (i4+1))
def Zpo (s1:(List Place))(x2:Place):Option Int:=
 Zbe s1 x2 ((s1.length:Int):Int).toNat 0
theorem Ynx:Q2 Tryz.prog 33 (rd (Z1 Z0x)) (rd Z0x) (rd (Z0 .i64)) Zpo:=fun s1 x2 r h=>I0 Tryz.func33 rfl Tryz.ntmps33 rfl fun w H Z=>by
 unfold Zpo at h
 refine SR<|Cv rfl (Zs 4 rfl rfl (vt rfl)) fun g3=>Ak rfl<|Nl<|sq<|SR<|Md rfl<|Ac (Z0i rfl rfl Z6k (vt rfl)) rfl<|Mk rfl<|Nl<|bk<|LG (d:=[]) (ν:=Nat×Nat) (fun (m5,i4)=>(Cnt (s1.length:Int) i4 m5∧Zbe s1 x2 m5 i4=some r,m5,[(0,rd (Z1 Z0x) s1),(3,Zc g3 (Lens.id Z0x)),(7,rd (Z0 .i64) (s1.length:Int)),(8,rd (Z0 .i64) (i4:Int))],[(4,Zh g3 40 Z0x x2)])) (((s1.length:Int):Int).toNat,0) ⟨Cnt.start _,h⟩ (FX rfl) ?_
 rintro ⟨m5,i4⟩ ⟨hsf1,h⟩
 dsimp only at hsf1 h ⊢
 cases m5 with
 | zero=>
  unfold Zbe at h
  refine SR<|Ac (Zj rfl rfl (vt rfl) (vt rfl)) rfl<|Nl<|sq<|Cn rfl (fun hc=>absurd (of_decide_eq_true hc) hsf1.zero) (fun hc=>?_)
  refine xt<|SR<|Ak rfl<|Nl<|rt ?_
  cases h;exact Zd Tryz.results33 rfl (Z5 rfl)
 | succ m5=>
  unfold Zbe at h
  refine SR<|Ac (Zj rfl rfl (vt rfl) (vt rfl)) rfl<|Nl<|sq<|Cn rfl (fun hc=>?_) (fun hc=>absurd hsf1.succ (of_decide_eq_false hc))
  have hlti4:=of_decide_eq_true hc
  refine sk<|sq<|bk<|SR<|Md rfl<|As rfl<|Nl<|sq ?_
  obtain ⟨x6,hx6,h⟩:=Z7 h
  refine AR Z00 (by kernel_rfl)<|Zo Z4i 4 rfl<|Zt rfl<|Zt rfl<|Sd (lo [12,13] [] rfl fun S hs hr=>Z0k rfl rfl Z6k (vh hs 12 rfl rfl) (vh hs 13 rfl rfl) hx6)<|SLp Z4i rfl<|Sd (lo [11,15] [] rfl fun S hs hr=>Zqb rfl rfl Zvl (by decide) rfl Zt2 (vh hs 11 rfl rfl) (vh hs 15 rfl rfl))<|Sn<|Cq rfl h (fun h=>?_) (fun h=>?_)
  ·refine SR<|Md rfl<|As rfl<|Nl<|rt ?_
   cases h;exact Zd Tryz.results33 rfl (Z5 rfl)
  ·refine sk<|Rg<|Ac (Z12 (t:=7) rfl rfl (vt rfl) (vk rfl) (vt rfl) hlti4) rfl<|Md rfl<|Nl ?_
   exact ⟨(_,_),Nat.lt_succ_self _,⟨hsf1.next,h⟩,FX rfl⟩
def Zk4 (s1:(List Place))(x2:Place):Option Bool:=
 (Zpo s1 x2).bind fun x4=>some (decide (x4≥0))
theorem Ymd:Q2 Tryz.prog 14 (rd (Z1 Z0x)) (rd Z0x) (rd Z6) Zk4:=fun s1 x2 r h=>I0 Tryz.func14 rfl Tryz.ntmps14 rfl fun w H Z=>by
 unfold Zk4 at h
 refine SR<|Cv rfl (Zs 4 rfl rfl (vt rfl)) fun g3=>Ab rfl<|Nl<|sq ?_
 obtain ⟨x4,hx4,h⟩:=Z7 h
 refine Rg<|Md rfl<|Ld Z4i 4 rfl<|Cl [5,6] (Ynx _ _ _ hx4) e33 rfl<|Ac (Z3v rfl rfl (vt rfl) (vk rfl)) rfl<|As rfl<|Nl<|rt ?_
 cases h;exact Zd Tryz.results14 rfl (Z5 rfl)
def Zju (s:List Flow):Option (List Flow):=Z0v [] s
theorem Ytk (s:List Flow)(r:List Flow)(h:Zju s=some r):Con Tryz.prog 17 [rd (Z1 Z03) s] emp (fun v=>Zb v) (fun v=>Zf v 48 Z03 r):=by
 refine Con.intro0 Tryz.func17 rfl Tryz.ntmps17 rfl fun w H Z=>?_
 unfold Zju at h
 refine AW.newnil 1001 48 Z03<|SR<|Ac (Zv (A:=Zb (.slice none 0 0)) rfl rfl vc) rfl<|Nl<|sq<|SR<|Md rfl<|Ct rfl (Zbx rfl rfl Z2e (vt rfl)) ?_
 rintro _ ⟨b,hb,rfl⟩
 refine Nl<|Cn rfl (fun hc=>?_) (fun hc=>?_)
 ·obtain rfl:=hb hc
  refine SR<|Ac (Zv (A:=Zb (.slice none 0 0)) rfl rfl vc) rfl<|Nl<|rt ?_
  obtain rfl:=(Z7c h).2
  exact Z3m (i:=1001) Tryz.results17 rfl rfl rfl
 ·refine sk<|SR<|Cv rfl (Z4q 1002 (ps:=[]) (l:=[]) rfl rfl Z2e Z61 rfl rfl rfl rfl) fun v1=>Md rfl<|Cv rfl (Z29 1002 h rfl rfl Zwn (vt rfl) rfl (vt rfl)) fun v2=>Aw rfl<|Nl<|rt ?_
  exact Z3m (i:=1002) Tryz.results17 rfl rfl rfl
end Go.Proofs.YtinplddjjalohaaGreatDoor.W
set_option maxHeartbeats 1000000
set_option maxRecDepth 4000
namespace Go.Proofs.YtinplddjjalohaaGreatDoor.W
open Go Go.Wb
theorem e17:Ent Tryz.prog 17:=Ent.mk Tryz.func17 rfl rfl
def Zix (s1:Switch)(m2:Int)(x3:Flow)(t4:Int):Option Bool:=
 (Zhd x3).bind fun x7=>(opt (!(!x7)) (Znj s1 2)).bind fun x8=>(bif ((!x7)||(!x8)) then (Zfo).bind fun x9=>some x9 else (Z8b t4 4).bind fun q10=>(chk 4 (IntKind.i64.wrap q10)).bind fun j12=>(Zju (Vector.get s1.Tables j12)).bind fun x13=>(Z0v x13 [x3,x3]).bind fun l15=>(chk 4 (IntKind.i64.wrap q10)).bind fun j16=>(Zmr {s1 with Tables:=(Vector.set s1.Tables j16.1 l15 j16.2)} m2).bind fun x17=>(bif (!x17) then (Zfo).bind fun x18=>some x18 else (Zfi {s1 with Tables:=(Vector.set s1.Tables j16.1 l15 j16.2)} m2).bind fun x19=>(opt (!(decide (x19.2≠0))) (chk 4 (IntKind.i64.wrap q10))).bind fun j20=>(opt (!(decide (x19.2≠0))) (Zk4 x19.1 (⟨(IntKind.i64.wrap q10),(IntKind.i64.wrap (((Vector.get ({s1 with Tables:=(Vector.set s1.Tables j16.1 l15 j16.2)}.Tables) j20).length:Int) - 1))⟩:Place))).bind fun x21=>(opt ((decide (x19.2≠0))||x21) (Zfo)).bind fun x22=>some (((decide (x19.2≠0))||x21)&&x22)))
theorem Yvv:Q4 Tryz.prog 4 (rd Z08) (rd (Z0 .i64)) (rd Z03) (rd (Z0 .u8)) (rd Z6) Zix:=fun s1 m2 x3 t4 r h=>I0 Tryz.func4 rfl Tryz.ntmps4 rfl fun w H Z=>by
 unfold Zix at h
 refine SR<|Cv rfl (Zs 5 rfl rfl (vt rfl)) fun g5=>Cv rfl (Zs 7 rfl rfl (vt rfl)) fun g6=>Ab rfl<|Nl<|sq<|sq ?_
 obtain ⟨x7,hx7,x8,hx8,h⟩:=bs2 h
 refine Rg<|Ld Z2b 7 rfl<|Cl [13] (Y3o _ _ hx7) e15 rfl<|Ac (Z0y rfl rfl (vt rfl)) rfl<|Md rfl<|Gd rfl (fun hq=>Z1s rfl rfl Z20 (vt rfl) (i:=5) rfl)<|Gd rfl (fun hq=>Z0c (xs:=[.tmp 17,.const (Value.int IntKind.i64 2)]) (Y7f _ _ _ (Z8p hx8 hq)) e16 rfl rfl ⟨Zi rfl hq,vk rfl,trivial⟩)<|Gd rfl (fun hq=>Z0y rfl rfl (Zi rfl hq))<|Ac (Z3j rfl rfl (vt rfl) (vt rfl)) rfl<|Nl<|Cq rfl h (fun h=>?_) (fun h=>?_)
 ·refine sq ?_
  obtain ⟨x9,hx9,h⟩:=Z7 h
  refine Rg<|Cl [] (Zx8 _ hx9) e9 rfl<|As rfl<|Nl<|rt ?_
  cases h;exact Zd Tryz.results4 rfl (Z5 rfl)
 ·refine sk<|sq ?_
  obtain ⟨q10,hq10,h⟩:=Z7 h
  refine Rg<|Md rfl<|Ac (Zsf rfl rfl (vt rfl) (vk rfl) hq10) rfl<|Ac (Yb8 rfl rfl us5 un3 (vt rfl)) rfl<|As rfl<|Nl<|SR<|Ld Z20 5 rfl<|Cv rfl (Zm 11 rfl rfl Z8u) fun g11=>Zg Z20 11 rfl<|Nl<|sq ?_
  obtain ⟨j12,hj12,x13,hx13,l15,hl15,j16,hj16,h⟩:=bs4 h
  refine AR Z00 (by kernel_rfl)<|Zt rfl<|Zt rfl<|SFd Z4n Z4u rfl<|Sd (lo [28,27] [] rfl fun S hs hr=>Z13 rfl rfl Z51 (vh hs 28 rfl rfl) (vh hs 27 rfl rfl) hj12)<|Zo Z38 5 rfl<|Sd (Z19 (us:=[(31,Z1p 48 Z03 x13)]) (ur:=[]) [30] [] rfl fun S hs hr=>Yxn (xs:=[.tmp 30]) (Ytk _ _ hx13) e17 rfl rfl rfl ⟨vt ((hs 30 rfl).trans rfl),trivial⟩)<|Zo Z2b 7 rfl<|Zo Z2b 7 rfl<|Sd (lo [32,33] [] rfl fun S hs hr=>Zjc (ps:=[(0,.tmp 32),(1,.tmp 33)]) (l:=[x3,x3]) rfl rfl Z2e Z61 rfl rfl ⟨_,_,Lens.idx 2 Z03 0 (by decide),_,rfl,(vh hs 32 rfl rfl),_,_,Lens.idx 2 Z03 1 (by decide),_,rfl,(vh hs 33 rfl rfl),rfl⟩ rfl)<|Sd (Z19 (us:=[(31,top),(35,rd (Z1 Z03) l15)]) (ur:=[]) [31,34] [1002] rfl fun S hs hr=>Y0s 1002 rfl hl15 rfl rfl rfl Zwn ((hs 31 rfl).trans rfl) ((hr 1002 rfl).trans rfl) (fun v=>vtS rfl ((hs 34 rfl).trans rfl)))<|SFd Z4n Z4u rfl<|Sd (lo [36,26] [] rfl fun S hs hr=>Z13 rfl rfl Z51 (vh hs 36 rfl rfl) (vh hs 26 rfl rfl) hj16)<|SSt Z38 11 rfl<|Sn<|sq<|sq ?_
  obtain ⟨x17,hx17,h⟩:=Z7 h
  refine Rg<|Ld Z20 11 rfl<|Md rfl<|Cl [38,39] (Yiw _ _ _ hx17) e8 rfl<|Ac (Z0y rfl rfl (vt rfl)) rfl<|Nl<|Cq rfl h (fun h=>?_) (fun h=>?_)
  ·refine sq ?_
   obtain ⟨x18,hx18,h⟩:=Z7 h
   refine Rg<|Cl [] (Zx8 _ hx18) e9 rfl<|As rfl<|Nl<|rt ?_
   cases h;exact Zd Tryz.results4 rfl (Z5 rfl)
  ·refine sk<|sq ?_
   obtain ⟨x19,hx19,h⟩:=Z7 h
   refine Rg<|Ld Z20 11 rfl<|Md rfl<|Cl [44,45] (Y69 _ _ _ hx19) e10 rfl<|Mt2 rfl<|Ac (Z1c rfl rfl (vt rfl)) rfl<|Ac (Z18 rfl rfl (vt rfl)) rfl<|As rfl<|As rfl<|Nl<|sq ?_
   obtain ⟨j20,hj20,x21,hx21,x22,hx22,h⟩:=bs3 h
   refine Rg<|Md rfl<|Ac (Z5t rfl rfl (vt rfl) (vk rfl)) rfl<|Md rfl<|Gd rfl (fun hq=>Zq (A:=rd (Z1 Z0x) x19.1) rfl rfl (vt rfl))<|Gd rfl (fun hq=>Zq (A:=rd (Z0 .i64) (IntKind.i64.wrap q10)) rfl rfl (vt rfl))<|Gd rfl (fun hq=>Zq (A:=rd (Z0 .i64) (IntKind.i64.wrap q10)) rfl rfl (vt rfl))<|Gd rfl (fun hq=>Z2n Z4n rfl rfl Z4u (vt rfl))<|Gd rfl (fun hq=>Z13 rfl rfl Z51 (Zi rfl hq) (Zi rfl hq) (Z8p hj20 hq))<|Gd rfl (fun hq=>Z1s rfl rfl Z38 (Zi rfl hq) (i:=11) rfl)<|Gd rfl (fun hq=>Z0i rfl rfl Z2e (Zi rfl hq))<|Gd rfl (fun hq=>Z0r rfl rfl (Zi rfl hq) (vk rfl))<|Gd rfl (fun hq=>opb (⟨(IntKind.i64.wrap q10),(IntKind.i64.wrap (((Vector.get ({s1 with Tables:=(Vector.set s1.Tables j16.1 l15 j16.2)}.Tables) j20).length:Int) - 1))⟩:Place) Z48 rfl Z7z (pc Zar (Zi rfl hq)<|pc Z9y (Zi rfl hq)<|pn rfl))<|Gd rfl (fun hq=>Z0c (xs:=[.tmp 52,.tmp 60]) (Ymd _ _ _ (Z8p hx21 hq)) e14 rfl rfl ⟨Zi rfl hq,Zi rfl hq,trivial⟩)<|Ac (Z3j rfl rfl (vt rfl) (vt rfl)) rfl<|Md rfl<|Gd rfl (fun hq=>Z0c (xs:=[]) (Zx8 _ (Z2i hx22 hq)) e9 rfl rfl trivial)<|Ac (Z1k rfl rfl (vt rfl) (vt rfl)) rfl<|As rfl<|Nl<|rt ?_
   cases h;exact Zd Tryz.results4 rfl (Z5 rfl)
end Go.Proofs.YtinplddjjalohaaGreatDoor.W
