/- A part of the proof. -/
import Derived.Test.YtinplddjjalohaaGreatDoorG2
set_option linter.unusedVariables false
set_option maxHeartbeats 1000000
set_option maxRecDepth 4000
set_option linter.unusedSimpArgs false
namespace Go.Proofs.YtinplddjjalohaaGreatDoor.W
open Go Go.Wb
theorem Yoc:Ent Tryz.prog 313:=Ent.mk Tryz.func313 rfl rfl
theorem Ypa:Ent Tryz.prog 314:=Ent.mk Tryz.func314 rfl rfl
theorem Y9x:Ent Tryz.prog 141:=Ent.mk Tryz.func141 rfl rfl
theorem Yfj:Ent Tryz.prog 196:=Ent.mk Tryz.func196 rfl rfl
theorem Yx8:Ent Tryz.prog 355:=Ent.mk Tryz.func355 rfl rfl
theorem Y5f:Ent Tryz.prog 239:=Ent.mk Tryz.func239 rfl rfl
theorem Yi9:Ent Tryz.prog 144:=Ent.mk Tryz.func144 rfl rfl
theorem e71:Ent Tryz.prog 71:=Ent.mk Tryz.func71 rfl rfl
theorem e69:Ent Tryz.prog 69:=Ent.mk Tryz.func69 rfl rfl
theorem e70:Ent Tryz.prog 70:=Ent.mk Tryz.func70 rfl rfl
theorem e32:Ent Tryz.prog 32:=Ent.mk Tryz.func32 rfl rfl
theorem e67:Ent Tryz.prog 67:=Ent.mk Tryz.func67 rfl rfl
theorem e66:Ent Tryz.prog 66:=Ent.mk Tryz.func66 rfl rfl
theorem e68:Ent Tryz.prog 68:=Ent.mk Tryz.func68 rfl rfl
theorem e12:Ent Tryz.prog 12:=Ent.mk Tryz.func12 rfl rfl
def Zcd:(List Tern)→Nat→Z16→Option Z16
 | [],i8,b7=>some b7
 | x10::l9,i8,b7=>(chk 24 (i8:Int)).bind fun j12=>(Zas (Vector.get b7 j12) x10.Mask).bind fun x13=>(Zc1 x10.Value x10.Mask).bind fun x14=>(Z9c x13 x14).bind fun x15=>(chk 24 (i8:Int)).bind fun j16=>(Zcd l9) (i8+1) (Vector.set b7 j16.1 x15 j16.2)
def Zfv (x1:Za)(x2:Z16):Option Z16:=
 Zcd (Vector.toList x1) 0 x2
theorem Y1w:Q2 Tryz.prog 141 (rd (Z3 24 Z4)) (rd (Z3 24 Zn)) (rd (Z3 24 Zn)) Zfv:=fun x1 x2 r h=>I0 Tryz.func141 rfl Tryz.ntmps141 rfl fun w H Z=>by
 unfold Zfv at h
 refine SR<|Cv rfl (Zs 3 rfl rfl (vt rfl)) fun g3=>Cv rfl (Zs 4 rfl rfl (vt rfl)) fun g4=>Cv rfl (Zm 5 rfl rfl Z55) fun g5=>Nl<|sq<|SR<|Ld Z03 3 rfl<|Mk rfl<|Nl<|bk<|LG (d:=[]) (ν:=(List Tern)×Nat×Z16) (fun (l9,i8,b7)=>(Sfx (Vector.toList x1) i8 l9∧Zcd l9 i8 b7=some r,l9.length,[(3,Zb g4 (Lens.id (Z3 24 Zn))),(4,Zb g5 (Lens.id (Z3 24 Zn))),(7,rd (Z3 24 Z4) x1),(8,rd (Z0 .i64) (i8:Int))],[(4,Zh g4 31 (Z3 24 Zn) b7),(5,Zh g5 31 (Z3 24 Zn) (Vector.replicate 24 Z0s))])) ((Vector.toList x1),0,x2) ⟨Sfx.start _,h⟩ (FX rfl) ?_
 rintro ⟨l9,i8,b7⟩ ⟨hsf1,h⟩
 dsimp only at hsf1 h ⊢
 cases l9 with
 | nil=>
  unfold Zcd at h
  refine SR<|Ac (Zj rfl rfl (vt rfl) (vk rfl)) rfl<|Nl<|sq<|Cn rfl (fun hc=>absurd (of_decide_eq_true hc) (hsf1.niln (by simp))) (fun hc=>?_)
  refine xt<|SR<|Ld Z17 4 rfl<|Zf Z17 5 rfl<|Nl<|rt ?_
  cases h;exact Zd Tryz.results141 rfl (Zx rfl (i:=5) rfl Z17)
 | cons x10 l9=>
  unfold Zcd at h
  refine SR<|Ac (Zj rfl rfl (vt rfl) (vk rfl)) rfl<|Nl<|sq<|Cn rfl (fun hc=>?_) (fun hc=>absurd (hsf1.consn (by simp)) (of_decide_eq_false hc))
  have hlti8:=of_decide_eq_true hc
  refine sk<|sq<|bk<|SR<|Md rfl<|Ac (Z8w rfl rfl Z4k Z01 (vt rfl) (vt rfl) hsf1.lget) rfl<|Cv rfl (Zm 7 rfl rfl Z1n) fun g11=>As rfl<|Zf Z01 7 rfl<|Nl ?_
  obtain ⟨j12,hj12,x13,hx13,x14,hx14,x15,hx15,h⟩:=bs4 h
  obtain ⟨j16,hj16,h⟩:=Z7 h
  refine AR Z00 (by kernel_rfl)<|Zt rfl<|Zt rfl<|Sd (lo [3,13] [] rfl fun S hs hr=>Z19 rfl rfl Zq9 (vh hs 3 rfl rfl) (vh hs 13 rfl rfl) hj12)<|Zp Zw 4 rfl<|SFd lTern_1 Z2g rfl<|Zp Zw 7 rfl<|SCl [15,17] (Ziy _ _ _ hx13) Zj6 rfl<|SFd lTern_0 Z32 rfl<|Zp Zw 7 rfl<|SFd lTern_1 Z2g rfl<|Zp Zw 7 rfl<|SCl [20,22] (Zkz _ _ _ hx14) Zjq rfl<|SCl [18,23] (Zej _ _ _ hx15) Zeo rfl<|Sd (lo [3,12] [] rfl fun S hs hr=>Z19 rfl rfl Zq9 (vh hs 3 rfl rfl) (vh hs 12 rfl rfl) hj16)<|SSt Zw 4 rfl<|Sn<|Rg<|Ac (Z5r rfl rfl (vt rfl) (vk rfl) rfl hlti8) rfl<|Md rfl<|Nl ?_
  exact ⟨(_,_,_),Nat.lt_succ_self _,⟨hsf1.next,h⟩,FX rfl⟩
def Z9p (R_exec_run_group:(Z0x→Int→Option Z0x)):(List Action)→Nat→(List Out)→Env→(List Group)→Z16→Int→Option Z0x
 | [],i17,l11,b13,b14,b15,b16=>some (⟨b13,b14,l11,b15,b16⟩:Z0x)
 | x19::l18,i17,l11,b13,b14,b15,b16=>(bif (decide (x19.Kind=0)) then (Zlk x19).bind fun x21=>(Z0y l11 [(⟨x19.Port,x21,b15⟩:Out)]).bind fun l22=>(Z9p R_exec_run_group l18) (i17+1) l22 b13 b14 b15 b16 else (bif (decide (x19.Kind=22)) then (R_exec_run_group (⟨b13,b14,l11,b15,b16⟩:Z0x) x19.Group).bind fun b24=>(Z9p R_exec_run_group l18) (i17+1) b24.out b24.Env b24.groups b24.header b24.depth else (Zgn x19).bind fun x26=>(Zfv x26 b15).bind fun x27=>(Z9p R_exec_run_group l18) (i17+1) l11 b13 b14 x27 b16))
def Zf3 (R_exec_run_do:(Z0x→(List Action)→Option Z0x))(R_exec_run_group:(Z0x→Int→Option Z0x))(x1:Z0x)(a4:(List Action)):Option Z0x:=
 Z9p R_exec_run_group a4 0 x1.out x1.Env x1.groups x1.header x1.depth
theorem Yed (R_exec_run_do:(Z0x→(List Action)→Option Z0x))(hR_exec_run_do:∀(g2 gT:Nat) (x1:Z0x) (a4:(List Action)) (r:Z0x),R_exec_run_do x1 a4=some r→Con Tryz.prog 239 [Zb g2 (Lens.id Z1s),rd (Z1 Z9) a4] (Z1b g2 gT Z1s (fun v=>(⟨x1.Env,x1.groups,v,x1.header,x1.depth⟩:exec_run_o2)) 111 Z14 x1.out) (fun _:Unit=>top) (fun _=>Z1b g2 gT Z1s (fun v=>(⟨r.Env,r.groups,v,r.header,r.depth⟩:exec_run_o2)) 111 Z14 r.out))(R_exec_run_group:(Z0x→Int→Option Z0x))(hR_exec_run_group:∀(g2 gT:Nat) (x1:Z0x) (i4:Int) (r:Z0x),R_exec_run_group x1 i4=some r→Con Tryz.prog 314 [Zb g2 (Lens.id Z1s),rd (Z0 .i64) i4] (Z1b g2 gT Z1s (fun v=>(⟨x1.Env,x1.groups,v,x1.header,x1.depth⟩:exec_run_o2)) 111 Z14 x1.out) (fun _:Unit=>top) (fun _=>Z1b g2 gT Z1s (fun v=>(⟨r.Env,r.groups,v,r.header,r.depth⟩:exec_run_o2)) 111 Z14 r.out))(g2 gT:Nat)(x1:Z0x)(a4:(List Action))(r:Z0x)(h:Zf3 R_exec_run_do R_exec_run_group x1 a4=some r):Con Tryz.prog 239 [Zb g2 (Lens.id Z1s),rd (Z1 Z9) a4] (Z1b g2 gT Z1s (fun v=>(⟨x1.Env,x1.groups,v,x1.header,x1.depth⟩:exec_run_o2)) 111 Z14 x1.out) (fun _:Unit=>top) (fun _=>Z1b g2 gT Z1s (fun v=>(⟨r.Env,r.groups,v,r.header,r.depth⟩:exec_run_o2)) 111 Z14 r.out):=by
 refine Con.intro Tryz.func239 rfl Tryz.ntmps239 rfl fun w H X Z=>?_
 unfold Zf3 at h
 refine AW.unboxF 0 2002 (by decide) rfl rfl fun v3=>SR<|Md rfl<|Ac (Z0i rfl rfl Z0h (vt rfl)) rfl<|Mk rfl<|Nl<|bk<|LG (d:=[]) (ν:=(List Action)×Nat×(List Out)×Env×(List Group)×Z16×Int×Value) (fun (l18,i17,l11,b13,b14,b15,b16,v12)=>(Sfx a4 i17 l18∧Z9p R_exec_run_group l18 i17 l11 b13 b14 b15 b16=some r,l18.length,[(0,Zb g2 (Lens.id Z1s)),(6,rd (Z1 Z9) a4),(7,rd (Z0 .i64) (a4.length:Int)),(8,rd (Z0 .i64) (i17:Int))],[(0,Zh g2 gT Z1s (⟨b13,b14,v12,b15,b16⟩:exec_run_o2)),(2002,Zg v12 111 Z14 l11)])) (a4,0,x1.out,x1.Env,x1.groups,x1.header,x1.depth,v3) ⟨Sfx.start _,h⟩ (FX rfl) ?_
 rintro ⟨l18,i17,l11,b13,b14,b15,b16,v12⟩ ⟨hsf1,h⟩
 dsimp only at hsf1 h ⊢
 cases l18 with
 | nil=>
  unfold Z9p at h
  refine SR<|Ac (Zj rfl rfl (vt rfl) (vt rfl)) rfl<|Nl<|sq<|Cn rfl (fun hc=>absurd (of_decide_eq_true hc) hsf1.nil) (fun hc=>?_)
  refine xt ?_
  cases h;exact RetOK.turn (Turn.packF 0 2002 (fun v=>(⟨b13,b14,v,b15,b16⟩:exec_run_o2)) (by decide) rfl rfl) (Z2e (i:=0) Tryz.results239 rfl rfl)
 | cons x19 l18=>
  unfold Z9p at h
  refine SR<|Ac (Zj rfl rfl (vt rfl) (vt rfl)) rfl<|Nl<|sq<|Cn rfl (fun hc=>?_) (fun hc=>absurd hsf1.cons (of_decide_eq_false hc))
  have hlti17:=of_decide_eq_true hc
  refine sk<|sq<|bk<|SR<|Ac (Z0j rfl rfl Z0h (vt rfl) (vt rfl) hsf1.lget) rfl<|Lp1 Z11 rfl<|Cv rfl (Zm 6 rfl rfl Z71) fun g20=>Zf Z11 6 rfl<|Nl<|SR<|Zk Z5t Z67 rfl<|Ld Zo 6 rfl<|Nl<|bk<|SR<|Ac (Z0m rfl rfl (vt rfl) (vk rfl)) rfl<|As rfl<|Nl<|Cq rfl h (fun h=>?_) (fun h=>?_)
  ·obtain ⟨x21,hx21,l22,hl22,h⟩:=bs2 h
   refine AR Z00 (by kernel_rfl)<|SMp rfl<|SMp rfl<|SNc rfl<|SFd Zl6 Zzb rfl<|Sd (lo [29] [0] rfl fun S hs hr=>Zcf v12 rfl rfl Zmy (vh hs 29 rfl rfl) (i:=0) ((hr 0 rfl).trans rfl) rfl)<|SFd Zgl Zju rfl<|Zp Zo 6 rfl<|Zp Z11 6 rfl<|SCl [33] (Yeq _ _ hx21) Yoc rfl<|SMp rfl<|SNc rfl<|SFd lexec_run_o2_3 Zg7 rfl<|Zp Z17 0 rfl<|Sd (lo [32,34,38] [] rfl fun S hs hr=>opb (⟨x19.Port,x21,b15⟩:Out) Yb6 rfl Yu9 (pc Yu8 (vh hs 32 rfl rfl)<|pc Yft (vh hs 34 rfl rfl)<|pc Yqy (vh hs 38 rfl rfl)<|pn rfl))<|Sd (lo [39] [] rfl fun S hs hr=>osl Yxr Yb6 rfl (vh hs 39 rfl rfl))<|Sd (Z1g (us:=[(41,Z25 111 Z14 l22)]) (ur:=[(2002,emp)]) [30,40] [2002] rfl fun S hs hr=>Z9l 2002 hl22 rfl rfl rfl Y8k (vh hs 30 rfl rfl) ((hr 2002 rfl).trans rfl) (vh hs 40 rfl rfl))<|SNc rfl<|SFd Zl6 Zzb rfl<|Sd (Z1g (us:=[(41,top)]) (ur:=[(0,Z1b g2 gT Z1s (fun v=>((Lens.comp (Lens.id Z1s) Zl6)).set (⟨b13,b14,v12,b15,b16⟩:exec_run_o2) v) 111 Z14 l22)]) [43,41] [0] rfl fun S hs hr=>Zu0 rfl rfl Zmy (vh hs 43 rfl rfl) ((hr 0 rfl).trans rfl) ((hs 41 rfl).trans rfl))<|Sn<|AW.unboxF 0 2002 (by decide) rfl rfl fun v23=>Rg<|Ac (Z13 (t:=7) rfl rfl (vt rfl) (vk rfl) (vt rfl) hlti17) rfl<|Md rfl<|Nl ?_
   exact ⟨(_,_,_,_,_,_,_,_),Nat.lt_succ_self _,⟨hsf1.next,h⟩,FX rfl⟩
  ·refine SR<|Ac (Z0m rfl rfl (vt rfl) (vk rfl)) rfl<|As rfl<|Nl<|Cq rfl h (fun h=>?_) (fun h=>?_)
   ·obtain ⟨b24,hb24,h⟩:=Z7 h
    refine Rg<|Mp rfl<|Zk Zs6 Zy6 rfl<|Ld Zo 6 rfl<|AOps.packF 0 2002 (fun v=>(⟨b13,b14,v,b15,b16⟩:exec_run_o2)) (by decide) rfl rfl<|Cv rfl (Z1c 0 (xs:=[.tmp 46,.tmp 48]) (hR_exec_run_group _ _ _ _ _ hb24) Ypa rfl rfl ⟨vt rfl,vt rfl,trivial⟩ rfl) fun _u=>AOps.unboxF 0 2002 (by decide) rfl rfl fun v25=>Nl<|Rg<|Ac (Z13 (t:=7) rfl rfl (vt rfl) (vk rfl) (vt rfl) hlti17) rfl<|Md rfl<|Nl ?_
    exact ⟨(_,_,_,_,_,_,_,_),Nat.lt_succ_self _,⟨hsf1.next,h⟩,FX rfl⟩
   ·obtain ⟨x26,hx26,x27,hx27,h⟩:=bs2 h
    refine AR Z00 (by kernel_rfl)<|SMp rfl<|Zp Z11 6 rfl<|SCl [15] (Y5a _ _ hx26) Y3d rfl<|SMp rfl<|SNc rfl<|SFd lexec_run_o2_3 Zg7 rfl<|Zp Z17 0 rfl<|SCl [16,20] (Y1w _ _ _ hx27) Y9x rfl<|SNc rfl<|SFd lexec_run_o2_3 Zg7 rfl<|SSt Z17 0 rfl<|Sn<|Rg<|Ac (Z13 (t:=7) rfl rfl (vt rfl) (vk rfl) (vt rfl) hlti17) rfl<|Md rfl<|Nl ?_
    exact ⟨(_,_,_,_,_,_,_,_),Nat.lt_succ_self _,⟨hsf1.next,h⟩,FX rfl⟩
def Zc3 (x5:(Group×Bool))(R_exec_run_do:(Z0x→(List Action)→Option Z0x))(x1:Z0x):(List Int)→Nat→(List Out)→Env→(List Group)→Z16→Int→Option Z0x
 | [],i21,l15,b17,b18,b19,b20=>some (⟨b17,b18,l15,b19,(IntKind.i64.wrap (b20 - 1))⟩:Z0x)
 | x23::l22,i21,l15,b17,b18,b19,b20=>(lget x5.1.Buckets x23).bind fun x24=>(Ze3 [] x24.Acts).bind fun x25=>(Z8d x25).bind fun x26=>(R_exec_run_do (⟨b17,b18,l15,b19,b20⟩:Z0x) x26).bind fun b27=>(Zc3 x5 R_exec_run_do x1 l22) (i21+1) b27.out b27.Env b27.groups x1.header b27.depth
def Ze6 (R_exec_run_do:(Z0x→(List Action)→Option Z0x))(R_exec_run_group:(Z0x→Int→Option Z0x))(x1:Z0x)(i4:Int):Option Z0x:=
 (Zmz x1.groups i4).bind fun x5=>(bif ((!x5.2)||(decide (x1.depth≥8))) then some (⟨x1.Env,x1.groups,x1.out,x1.header,x1.depth⟩:Z0x) else (Zl0 x1.Env x5.1).bind fun x8=>Zc3 x5 R_exec_run_do x1 x8 0 x1.out x1.Env x1.groups x1.header (IntKind.i64.wrap (x1.depth+1)))
theorem Ysc (R_exec_run_do:(Z0x→(List Action)→Option Z0x))(hR_exec_run_do:∀(g2 gT:Nat) (x1:Z0x) (a4:(List Action)) (r:Z0x),R_exec_run_do x1 a4=some r→Con Tryz.prog 239 [Zb g2 (Lens.id Z1s),rd (Z1 Z9) a4] (Z1b g2 gT Z1s (fun v=>(⟨x1.Env,x1.groups,v,x1.header,x1.depth⟩:exec_run_o2)) 111 Z14 x1.out) (fun _:Unit=>top) (fun _=>Z1b g2 gT Z1s (fun v=>(⟨r.Env,r.groups,v,r.header,r.depth⟩:exec_run_o2)) 111 Z14 r.out))(R_exec_run_group:(Z0x→Int→Option Z0x))(hR_exec_run_group:∀(g2 gT:Nat) (x1:Z0x) (i4:Int) (r:Z0x),R_exec_run_group x1 i4=some r→Con Tryz.prog 314 [Zb g2 (Lens.id Z1s),rd (Z0 .i64) i4] (Z1b g2 gT Z1s (fun v=>(⟨x1.Env,x1.groups,v,x1.header,x1.depth⟩:exec_run_o2)) 111 Z14 x1.out) (fun _:Unit=>top) (fun _=>Z1b g2 gT Z1s (fun v=>(⟨r.Env,r.groups,v,r.header,r.depth⟩:exec_run_o2)) 111 Z14 r.out))(g2 gT:Nat)(x1:Z0x)(i4:Int)(r:Z0x)(h:Ze6 R_exec_run_do R_exec_run_group x1 i4=some r):Con Tryz.prog 314 [Zb g2 (Lens.id Z1s),rd (Z0 .i64) i4] (Z1b g2 gT Z1s (fun v=>(⟨x1.Env,x1.groups,v,x1.header,x1.depth⟩:exec_run_o2)) 111 Z14 x1.out) (fun _:Unit=>top) (fun _=>Z1b g2 gT Z1s (fun v=>(⟨r.Env,r.groups,v,r.header,r.depth⟩:exec_run_o2)) 111 Z14 r.out):=by
 refine Con.intro Tryz.func314 rfl Tryz.ntmps314 rfl fun w H X Z=>?_
 unfold Ze6 at h
 refine AW.unboxF 0 2002 (by decide) rfl rfl fun v3=>sq ?_
 obtain ⟨x5,hx5,h⟩:=Z7 h
 refine Rg<|Mp rfl<|Nc rfl<|Zk lexec_run_o2_1 Yqg rfl<|Ld Zdk 0 rfl<|Md rfl<|Cl [13,14] (Yff _ _ _ hx5) Yfj rfl<|Mt2 rfl<|Ac (Z1e rfl rfl (vt rfl)) rfl<|Ac (Z1a rfl rfl (vt rfl)) rfl<|Cv rfl (Zm 5 rfl rfl Zd7) fun g6=>Zf Z7g 5 rfl<|As rfl<|Nl<|sq<|SR<|Md rfl<|Ac (Z0z rfl rfl (vt rfl)) rfl<|Md rfl<|Gd rfl (fun hq=>Zq (A:=Zb g2 (Lens.id Z1s)) rfl rfl (vt rfl))<|Gd rfl (fun hq=>Zql rfl rfl (Zi rfl hq))<|Gd rfl (fun hq=>Z2v Zgw rfl rfl Znc (Zi rfl hq))<|Gd rfl (fun hq=>Z1z rfl rfl Zo (Zi rfl hq) (i:=0) rfl)<|Gd rfl (fun hq=>Z45 rfl rfl (Zi rfl hq) (vk rfl))<|Ac (Z4d rfl rfl (vt rfl) (vt rfl)) rfl<|Nl<|Cq rfl h (fun h=>?_) (fun h=>?_)
 ·refine rt ?_
  cases h;exact RetOK.turn (Turn.packF 0 2002 (fun v=>(⟨x1.Env,x1.groups,v,x1.header,x1.depth⟩:exec_run_o2)) (by decide) rfl rfl) (Z2e (i:=0) Tryz.results314 rfl rfl)
 ·refine sk<|SR<|Mp rfl<|Nc rfl<|Zk lexec_run_o2_3 Zg7 rfl<|Ld Z17 0 rfl<|Cv rfl (Zm 7 rfl rfl Z55) fun g7=>Zf Z17 7 rfl<|Nl<|SR<|Mp rfl<|Nc rfl<|Zk Zgw Znc rfl<|Ld Zo 0 rfl<|Ac (Z05 rfl rfl (vt rfl) (vk rfl)) rfl<|Nc rfl<|Zk Zgw Znc rfl<|Zf Zo 0 rfl<|Nl<|sq<|sq ?_
  obtain ⟨x8,hx8,h⟩:=Z7 h
  refine AR Z00 (by kernel_rfl)<|SMp rfl<|SNc rfl<|SFd lexec_run_o2_0 Yhn rfl<|Zp Zjp 0 rfl<|Zp Z7g 5 rfl<|SCl [41,42] (Ywi _ _ _ hx8) Yx8 rfl<|Sd (lo [43] [] rfl fun S hs hr=>Z0i rfl rfl Z15 (vh hs 43 rfl rfl))<|Sd (lo [] [] rfl fun S hs hr=>Zq (A:=rd (Z0 .i64) 0) rfl rfl (vk rfl))<|Sn<|bk<|LG (d:=[]) (ν:=(List Int)×Nat×(List Out)×Env×(List Group)×Z16×Int×Value) (fun (l22,i21,l15,b17,b18,b19,b20,v16)=>(Sfx x8 i21 l22∧Zc3 x5 R_exec_run_do x1 l22 i21 l15 b17 b18 b19 b20=some r,l22.length,[(0,Zb g2 (Lens.id Z1s)),(4,Zb g6 (Lens.id Z0e)),(6,Zb g7 (Lens.id (Z3 24 Zn))),(43,rd (Z1 (Z0 .i64)) x8),(44,rd (Z0 .i64) (x8.length:Int)),(45,rd (Z0 .i64) (i21:Int))],[(0,Zh g2 gT Z1s (⟨b17,b18,v16,b19,b20⟩:exec_run_o2)),(5,Zh g6 71 Z0e x5.1),(7,Zh g7 31 (Z3 24 Zn) x1.header),(2002,Zg v16 111 Z14 l15)])) (x8,0,x1.out,x1.Env,x1.groups,x1.header,(IntKind.i64.wrap (x1.depth+1)),v3) ⟨Sfx.start _,h⟩ (FX rfl) ?_
  rintro ⟨l22,i21,l15,b17,b18,b19,b20,v16⟩ ⟨hsf1,h⟩
  dsimp only at hsf1 h ⊢
  cases l22 with
  | nil=>
   unfold Zc3 at h
   refine SR<|Ac (Zj rfl rfl (vt rfl) (vt rfl)) rfl<|Nl<|sq<|Cn rfl (fun hc=>absurd (of_decide_eq_true hc) hsf1.nil) (fun hc=>?_)
   refine xt<|Rg<|Mp rfl<|Nc rfl<|Zk Zgw Znc rfl<|Ld Zo 0 rfl<|Ac (Z0t rfl rfl (vt rfl) (vk rfl)) rfl<|Nc rfl<|Zk Zgw Znc rfl<|Zf Zo 0 rfl<|Nl ?_
   cases h;exact RetOK.turn (Turn.packF 0 2002 (fun v=>(⟨b17,b18,v,b19,(IntKind.i64.wrap (b20 - 1))⟩:exec_run_o2)) (by decide) rfl rfl) (Z2e (i:=0) Tryz.results314 rfl rfl)
  | cons x23 l22=>
   unfold Zc3 at h
   refine SR<|Ac (Zj rfl rfl (vt rfl) (vt rfl)) rfl<|Nl<|sq<|Cn rfl (fun hc=>?_) (fun hc=>absurd hsf1.cons (of_decide_eq_false hc))
   have hlti21:=of_decide_eq_true hc
   refine sk<|sq<|bk<|SR<|Ac (Z0j rfl rfl Z15 (vt rfl) (vt rfl) hsf1.lget) rfl<|Lp1 Zo rfl<|As rfl<|Nl<|sq ?_
   obtain ⟨x24,hx24,x25,hx25,x26,hx26,b27,hb27,h⟩:=bs4 h
   refine Rg<|Mp rfl<|Zk Z79 Z7v rfl<|Ld Z85 5 rfl<|Md rfl<|Ac (Z0j rfl rfl Z6z (vt rfl) (vt rfl) hx24) rfl<|Fp Zfw Zle rfl<|Lp1 Z34 rfl<|Ac (Z0g (xs:=[.const (Value.slice none 0 0),.tmp 55]) (Zy4 _ _ _ hx25) Zuo rfl rfl ⟨Z1j,vt rfl,trivial⟩) rfl<|Cl [56] (Zwg _ _ hx26) e72 rfl<|AOps.packF 0 2002 (fun v=>(⟨b17,b18,v,b19,b20⟩:exec_run_o2)) (by decide) rfl rfl<|Cv rfl (Z1c 0 (xs:=[.tmp 49,.tmp 57]) (hR_exec_run_do _ _ _ _ _ hb27) Y5f rfl rfl ⟨vt rfl,vt rfl,trivial⟩ rfl) fun _u=>AOps.unboxF 0 2002 (by decide) rfl rfl fun v28=>Nl<|Rg<|Mp rfl<|Ld Z17 7 rfl<|Nc rfl<|Zk lexec_run_o2_3 Zg7 rfl<|Zf Z17 0 rfl<|Nl<|Rg<|Ac (Z13 (t:=44) rfl rfl (vt rfl) (vk rfl) (vt rfl) hlti21) rfl<|Md rfl<|Nl ?_
   exact ⟨(_,_,_,_,_,_,_,_),Nat.lt_succ_self _,⟨hsf1.next,h⟩,FX rfl⟩
def Z3o:Nat→(Z0x→(List Action)→Option Z0x)×(Z0x→Int→Option Z0x)
 | 0=>((fun _ _=>none),(fun _ _=>none))
 | n+1=>((Zf3 (Z3o n).1 (Z3o n).2),(Ze6 (Z3o n).1 (Z3o n).2))
theorem Y6q:∀n:Nat,(∀(g2 gT:Nat) (x1:Z0x) (a4:(List Action)) (r:Z0x),(Z3o n).1 x1 a4=some r→Con Tryz.prog 239 [Zb g2 (Lens.id Z1s),rd (Z1 Z9) a4] (Z1b g2 gT Z1s (fun v=>(⟨x1.Env,x1.groups,v,x1.header,x1.depth⟩:exec_run_o2)) 111 Z14 x1.out) (fun _:Unit=>top) (fun _=>Z1b g2 gT Z1s (fun v=>(⟨r.Env,r.groups,v,r.header,r.depth⟩:exec_run_o2)) 111 Z14 r.out))∧(∀(g2 gT:Nat) (x1:Z0x) (i4:Int) (r:Z0x),(Z3o n).2 x1 i4=some r→Con Tryz.prog 314 [Zb g2 (Lens.id Z1s),rd (Z0 .i64) i4] (Z1b g2 gT Z1s (fun v=>(⟨x1.Env,x1.groups,v,x1.header,x1.depth⟩:exec_run_o2)) 111 Z14 x1.out) (fun _:Unit=>top) (fun _=>Z1b g2 gT Z1s (fun v=>(⟨r.Env,r.groups,v,r.header,r.depth⟩:exec_run_o2)) 111 Z14 r.out))
 | 0=>⟨(by intros;rename_i h;cases h),(by intros;rename_i h;cases h)⟩
 | n+1=>by
  have ih:=Y6q n
  exact ⟨(Yed (Z3o n).1 ih.1 (Z3o n).2 ih.2),(Ysc (Z3o n).1 ih.1 (Z3o n).2 ih.2)⟩
def Zzo (x1:Z0x)(a4:(List Action)):Option Z0x:=(Z3o Z0v).1 x1 a4
theorem Yn5:∀(g2 gT:Nat) (x1:Z0x) (a4:(List Action)) (r:Z0x),Zzo x1 a4=some r→Con Tryz.prog 239 [Zb g2 (Lens.id Z1s),rd (Z1 Z9) a4] (Z1b g2 gT Z1s (fun v=>(⟨x1.Env,x1.groups,v,x1.header,x1.depth⟩:exec_run_o2)) 111 Z14 x1.out) (fun _:Unit=>top) (fun _=>Z1b g2 gT Z1s (fun v=>(⟨r.Env,r.groups,v,r.header,r.depth⟩:exec_run_o2)) 111 Z14 r.out):=(Y6q Z0v).1
def Zh5 (l1:(List Group))(x2:Env)(a3:(List Action))(x4:Z16):Option ((List Out)×Z16):=
 (Zzo (⟨x2,l1,[],x4,0⟩:Z0x) a3).bind fun b9=>some (b9.out,b9.header)
theorem Yhh:Q4 Tryz.prog 144 (rd (Z1 Z0e)) (rd Z2y) (rd (Z1 Z9)) (rd (Z3 24 Zn)) (fun r=>Z12 (rd (Z1 Z14) r.1) (rd (Z3 24 Zn) r.2)) Zh5:=fun l1 x2 a3 x4 r h=>I0 Tryz.func144 rfl Tryz.ntmps144 rfl fun w H Z=>by
 unfold Zh5 at h
 refine SR<|Cv rfl (Zs 6 rfl rfl (vt rfl)) fun g5=>Cv rfl (Zs 8 rfl rfl (vt rfl)) fun g6=>Ac (Zv (A:=rd (Z1 Z14) []) rfl rfl Z1j) rfl<|Cv rfl (Zm 10 rfl rfl Z55) fun g7=>Nl<|sq<|AW.newnil 2322 111 Z14<|Rg<|Ld Zjp 6 rfl<|Md rfl<|Ld Z17 8 rfl<|Ac (opb (⟨x2,l1,(.slice none 0 0),x4,0⟩:exec_run_o2) Yct rfl Yy2 (pc Yxh (vt rfl)<|pc Yo4 (vt rfl)<|pc Ym2 (vt rfl)<|pn rfl)) rfl<|Cv rfl (Zs 16 rfl rfl (vt rfl)) fun g8=>Ac (Zv (A:=Zb g8 (Lens.id Z1s)) rfl rfl (vt rfl)) rfl<|Nl<|sq ?_
 obtain ⟨b9,hb9,h⟩:=Z7 h
 refine Rg<|Mp rfl<|Md rfl<|AOps.packF 16 2322 (fun v=>(⟨x2,l1,v,x4,0⟩:exec_run_o2)) (by decide) rfl rfl<|Cv rfl (Z1c 16 (xs:=[.tmp 16,.tmp 17]) (Yn5 _ _ _ _ _ hb9) Y5f rfl rfl ⟨vt rfl,vt rfl,trivial⟩ rfl) fun _u=>AOps.unboxF 16 2322 (by decide) rfl rfl fun v10=>Nl<|sq<|AR Z00 (by kernel_rfl)<|SMp rfl<|SNc rfl<|SFd Zl6 Zzb rfl<|Sd (lo [21] [16] rfl fun S hs hr=>Zcf v10 rfl rfl Zmy (vh hs 21 rfl rfl) (i:=16) ((hr 16 rfl).trans rfl) rfl)<|SMp rfl<|SNc rfl<|SFd lexec_run_o2_3 Zg7 rfl<|Zp Z17 16 rfl<|Sd (lo [22] [] rfl fun S hs hr=>Zv (A:=Zc v10) rfl rfl (vh hs 22 rfl rfl))<|SSt Z17 10 rfl<|Sn<|AW.freezes [8,22] 2322 rfl ⟨rfl,rfl,trivial⟩ rfl<|rt ?_
 cases h;exact Z1f Tryz.results144 rfl (Z5 rfl) (Zx rfl (i:=10) rfl Z17)
def Zcz (p1:Z35)(l5:(List Action)):Option Z35:=
 (Zh5 p1.Switch.Groups p1.env l5 p1.header).bind fun x6=>(Z0y p1.out x6.1).bind fun l8=>some (⟨p1.Switch,p1.env,x6.2,p1.set,l8,p1.path⟩:Z35)
theorem Y4w (g2 gT:Nat)(p1:Z35)(l5:(List Action))(r:Z35)(h:Zcz p1 l5=some r):Con Tryz.prog 71 [Zb g2 (Lens.id Z26),rd (Z1 Z9) l5] (Z6d (fun v2=>Z1b g2 gT Z26 (fun v=>(⟨p1.Switch,p1.env,p1.header,p1.set,v,v2⟩:sem_packet_o4_5)) 111 Z14 p1.out) 40 Z0l p1.path) (fun _:Unit=>top) (fun _=>Z6d (fun v2=>Z1b g2 gT Z26 (fun v=>(⟨r.Switch,r.env,r.header,r.set,v,v2⟩:sem_packet_o4_5)) 111 Z14 r.out) 40 Z0l r.path):=by
 refine Con.intro Tryz.func71 rfl Tryz.ntmps71 rfl fun w H X Z=>?_
 unfold Zcz at h
 refine AW.unboxS 0 2005 (by decide) rfl rfl fun v4=>AW.unboxF 0 2004 (by decide) rfl rfl fun v3=>sq ?_
 obtain ⟨x6,hx6,h⟩:=Z7 h
 refine AR Z00 (by kernel_rfl)<|SMp rfl<|SNc rfl<|SFd lsem_packet_o4_5_0 Zth rfl<|SFd lSwitch_1 Zsd rfl<|Zp Zdk 0 rfl<|SMp rfl<|SNc rfl<|SFd Y8y Yw4 rfl<|Zp Zjp 0 rfl<|Zt rfl<|SMp rfl<|SNc rfl<|SFd lsem_packet_o4_5_2 Zm3 rfl<|Zp Z17 0 rfl<|SCl [11,15,16,20] (Yhh _ _ _ _ _ hx6) Yi9 rfl<|Sd (lo [21] [] rfl fun S hs hr=>Zq (A:=Z12 (rd (Z1 Z14) x6.1) (rd (Z3 24 Zn) x6.2)) rfl rfl (vh hs 21 rfl rfl))<|Sd (lo [6] [] rfl fun S hs hr=>Z1e rfl rfl (vh hs 6 rfl rfl))<|Sd (lo [6] [] rfl fun S hs hr=>Z1a rfl rfl (vh hs 6 rfl rfl))<|Sd (Z1g (us:=[(5,Z2u 31 (Z3 24 Zn) (Vector.replicate 24 Z0s))]) (ur:=[]) [] [] rfl fun S hs hr=>Z7x rfl rfl rfl Z55)<|SAs rfl<|Sd (Z1g (us:=[(5,Z2u 31 (Z3 24 Zn) x6.2)]) (ur:=[]) [5,23] [] rfl fun S hs hr=>Z89 rfl rfl Z17 ((hs 5 rfl).trans rfl) (vh hs 23 rfl rfl))<|Sn<|AW.unpackP 5 6 rfl rfl fun g7=>?_
 obtain ⟨l8,hl8,h⟩:=Z7 h
 refine AW.endT<|AR Z00 (by kernel_rfl)<|SMp rfl<|SMp rfl<|SMp rfl<|SNc rfl<|SFd Zqz Y2v rfl<|Sd (lo [28] [0] rfl fun S hs hr=>Zcf v3 rfl rfl Zmy (vh hs 28 rfl rfl) (i:=0) ((hr 0 rfl).trans rfl) rfl)<|Zt rfl<|Sd (Z1g (us:=[(31,Z25 111 Z14 l8)]) (ur:=[(2004,emp)]) [29,30] [2004] rfl fun S hs hr=>Z9l 2004 hl8 rfl rfl rfl Y8k (vh hs 29 rfl rfl) ((hr 2004 rfl).trans rfl) (vh hs 30 rfl rfl))<|Zp Z17 6 rfl<|SNc rfl<|SFd Zqz Y2v rfl<|Sd (Z1g (us:=[(31,top)]) (ur:=[(0,Z1b g2 gT Z26 (fun v=>((Lens.comp (Lens.id Z26) Zqz)).set (⟨p1.Switch,p1.env,p1.header,p1.set,v3,v4⟩:sem_packet_o4_5) v) 111 Z14 l8)]) [34,31] [0] rfl fun S hs hr=>Zu0 rfl rfl Zmy (vh hs 34 rfl rfl) ((hr 0 rfl).trans rfl) ((hs 31 rfl).trans rfl))<|SNc rfl<|SFd lsem_packet_o4_5_2 Zm3 rfl<|Sd (Z4q [36,32] [0] rfl fun S hs hr=>Yuu rfl rfl Z17 (vh hs 36 rfl rfl) (i:=0) ((hr 0 rfl).trans rfl) (vh hs 32 rfl rfl))<|Sn<|EndT.unboxF 0 2004 (by decide) rfl rfl fun v9=>EndT.done ?_
 cases h;exact RetOK.turn (Turn.packF 0 2004 (fun v=>(⟨p1.Switch,p1.env,x6.2,p1.set,v,v4⟩:sem_packet_o4_5)) (by decide) rfl rfl) (RetOK.turn (Turn.packS 0 2005 (fun v2=>Z1b g2 gT Z26 (fun v=>(⟨p1.Switch,p1.env,x6.2,p1.set,v,v2⟩:sem_packet_o4_5)) 111 Z14 l8) (by decide) rfl rfl) (Z2e (i:=0) Tryz.results71 rfl rfl))
def Zfp (l6:(List Inst))(a5:Int)(l7:(List Out))(l9:(List Place))(b23:Switch)(b24:Env)(b25:Z16)(b26:(List Action)):Option (Int×Bool×Z35):=
 (Z6q l6 1).bind fun x27=>some (x27.1.Table,((x27.2&&(decide (x27.1.Table>a5)))&&(decide (x27.1.Table<4))),(⟨b23,b24,b25,b26,l7,l9⟩:Z35))
def Zje (l6:(List Inst))(a5:Int)(l7:(List Out))(l9:(List Place))(b19:Switch)(b20:Env)(b21:Z16)(b22:(List Action)):Option (Int×Bool×Z35):=
 (Z6q l6 2).bind fun x29=>(bif x29.2 then (Zby).bind fun x31=>(Z9x x31 1 x29.1.Value x29.1.Mask).bind fun x32=>(Zfv x32 b21).bind fun x33=>Zfp l6 a5 l7 l9 b19 b20 x33 b22 else Zfp l6 a5 l7 l9 b19 b20 b21 b22)
def Zjc (l6:(List Inst))(a5:Int)(l7:(List Out))(l9:(List Place))(b15:Switch)(b16:Env)(b17:Z16)(b18:(List Action)):Option (Int×Bool×Z35):=
 (Z6q l6 3).bind fun x34=>(bif x34.2 then (Ze3 b18 x34.1.Acts).bind fun x36=>Zje l6 a5 l7 l9 b15 b16 b17 x36 else Zje l6 a5 l7 l9 b15 b16 b17 b18)
def Zgj (l6:(List Inst))(a5:Int)(l7:(List Out))(l9:(List Place))(b11:Switch)(b12:Env)(b13:Z16)(b14:(List Action)):Option (Int×Bool×Z35):=
 (Z6q l6 5).bind fun x37=>(bif x37.2 then Zjc l6 a5 l7 l9 b11 b12 b13 [] else Zjc l6 a5 l7 l9 b11 b12 b13 b14)
def Zh6 (p1:Z35)(a5:Int)(l6:(List Inst)):Option (Int×Bool×Z35):=
 (Z6q l6 4).bind fun x39=>(bif x39.2 then (Zcz (⟨p1.Switch,p1.env,p1.header,p1.set,p1.out,p1.path⟩:Z35) x39.1.Acts).bind fun b41=>Zgj l6 a5 b41.out b41.path b41.Switch b41.env b41.header b41.set else Zgj l6 a5 p1.out p1.path p1.Switch p1.env p1.header p1.set)
theorem Ykc (g2 gT:Nat)(p1:Z35)(a5:Int)(l6:(List Inst))(r:(Int×Bool×Z35))(h:Zh6 p1 a5 l6=some r):Con Tryz.prog 70 [Zb g2 (Lens.id Z26),rd (Z0 .i64) a5,rd (Z1 Z0b) l6] (Z6d (fun v2=>Z1b g2 gT Z26 (fun v=>(⟨p1.Switch,p1.env,p1.header,p1.set,v,v2⟩:sem_packet_o4_5)) 111 Z14 p1.out) 40 Z0l p1.path) (fun _:Unit=>Z12 (rd (Z0 .i64) r.1) (rd Z6 r.2.1)) (fun _=>Z6d (fun v2=>Z1b g2 gT Z26 (fun v=>(⟨r.2.2.Switch,r.2.2.env,r.2.2.header,r.2.2.set,v,v2⟩:sem_packet_o4_5)) 111 Z14 r.2.2.out) 40 Z0l r.2.2.path):=by
 refine Con.intro Tryz.func70 rfl Tryz.ntmps70 rfl fun w H X Z=>?_
 unfold Zh6 at h
 refine AW.unboxS 0 2005 (by decide) rfl rfl fun v4=>AW.unboxF 0 2004 (by decide) rfl rfl fun v3=>SR<|Ak rfl<|Ab rfl<|Nl ?_
 refine JN (d:=[]) (ν:=(List Out)×(List Place)×Switch×Env×Z16×(List Action)×Value×Value) (fun (l7,l9,b11,b12,b13,b14,v8,v10)=>(Zgj l6 a5 l7 l9 b11 b12 b13 b14=some r,[(0,Zb g2 (Lens.id Z26)),(1,rd (Z0 .i64) a5),(2,rd (Z1 Z0b) l6)],[(0,Zh g2 gT Z26 (⟨b11,b12,b13,b14,v8,v10⟩:sem_packet_o4_5)),(2004,Zg v8 111 Z14 l7),(2005,Zg v10 40 Z0l l9)])) ?hx1 ?hy1
 case hy1=>
  rintro ⟨l7,l9,b11,b12,b13,b14,v8,v10⟩ h
  dsimp only at h ⊢
  unfold Zgj at h
  refine JN (d:=[]) (ν:=Switch×Env×Z16×(List Action)) (fun (b15,b16,b17,b18)=>(Zjc l6 a5 l7 l9 b15 b16 b17 b18=some r,[(0,Zb g2 (Lens.id Z26)),(1,rd (Z0 .i64) a5),(2,rd (Z1 Z0b) l6)],[(0,Zh g2 gT Z26 (⟨b15,b16,b17,b18,v8,v10⟩:sem_packet_o4_5)),(2004,Zg v8 111 Z14 l7),(2005,Zg v10 40 Z0l l9)])) ?hx2 ?hy2
  case hy2=>
   rintro ⟨b15,b16,b17,b18⟩ h
   dsimp only at h ⊢
   unfold Zjc at h
   refine JN (d:=[]) (ν:=Switch×Env×Z16×(List Action)) (fun (b19,b20,b21,b22)=>(Zje l6 a5 l7 l9 b19 b20 b21 b22=some r,[(0,Zb g2 (Lens.id Z26)),(1,rd (Z0 .i64) a5),(2,rd (Z1 Z0b) l6)],[(0,Zh g2 gT Z26 (⟨b19,b20,b21,b22,v8,v10⟩:sem_packet_o4_5)),(2004,Zg v8 111 Z14 l7),(2005,Zg v10 40 Z0l l9)])) ?hx3 ?hy3
   case hy3=>
    rintro ⟨b19,b20,b21,b22⟩ h
    dsimp only at h ⊢
    unfold Zje at h
    refine JN (d:=[]) (ν:=Switch×Env×Z16×(List Action)) (fun (b23,b24,b25,b26)=>(Zfp l6 a5 l7 l9 b23 b24 b25 b26=some r,[(1,rd (Z0 .i64) a5),(2,rd (Z1 Z0b) l6)],[(0,Zh g2 gT Z26 (⟨b23,b24,b25,b26,v8,v10⟩:sem_packet_o4_5)),(2004,Zg v8 111 Z14 l7),(2005,Zg v10 40 Z0l l9)])) ?hx4 ?hy4
    case hy4=>
     rintro ⟨b23,b24,b25,b26⟩ h
     dsimp only at h ⊢
     unfold Zfp at h
     refine sq ?_
     obtain ⟨x27,hx27,h⟩:=Z7 h
     refine Rg<|Md rfl<|Ac (Z0g (xs:=[.tmp 74,.const (Value.int IntKind.i64 1)]) (Z9y _ _ _ hx27) Z9h rfl rfl ⟨vt rfl,vk rfl,trivial⟩) rfl<|Mt2 rfl<|Ac (Z1e rfl rfl (vt rfl)) rfl<|Ac (Z1a rfl rfl (vt rfl)) rfl<|Cv rfl (Zm 17 rfl rfl Z3k) fun g28=>Zf Z2b 17 rfl<|As rfl<|Nl<|sq<|AR Z00 (by kernel_rfl)<|SFd Z84 Z8s rfl<|Zp Zo 17 rfl<|Zt rfl<|Zt rfl<|Sd (lg [16,81] [] rfl fun hq S hs hr=>Z2v Z84 rfl rfl Z8s (vh hs 16 rfl rfl))<|Sd (lg [82,81] [17] rfl fun hq S hs hr=>Z1z rfl rfl Zo (Zi ((hs 82 rfl).trans rfl) hq) (i:=17) ((hr 17 rfl).trans rfl))<|Sd (lg [1,81] [] rfl fun hq S hs hr=>Zq (A:=rd (Z0 .i64) a5) rfl rfl (vh hs 1 rfl rfl))<|Sd (lg [83,84,81] [] rfl fun hq S hs hr=>Z2s rfl rfl (Zi ((hs 83 rfl).trans rfl) hq) (Zi ((hs 84 rfl).trans rfl) hq))<|Sd (lo [85,81] [] rfl fun S hs hr=>Z1m rfl rfl (vh hs 81 rfl rfl) (vh hs 85 rfl rfl))<|Zt rfl<|Sd (lg [16,87] [] rfl fun hq S hs hr=>Z2v Z84 rfl rfl Z8s (vh hs 16 rfl rfl))<|Sd (lg [88,87] [17] rfl fun hq S hs hr=>Z1z rfl rfl Zo (Zi ((hs 88 rfl).trans rfl) hq) (i:=17) ((hr 17 rfl).trans rfl))<|Sd (lg [89,87] [] rfl fun hq S hs hr=>Zj rfl rfl (Zi ((hs 89 rfl).trans rfl) hq) (vk rfl))<|Sd (lo [90,87] [] rfl fun S hs hr=>Z1m rfl rfl (vh hs 87 rfl rfl) (vh hs 90 rfl rfl))<|SAs rfl<|SAs rfl<|Sn<|rt ?_
     cases h;exact RetOK.turn (Turn.packF 0 2004 (fun v=>(⟨b23,b24,b25,b26,v,v10⟩:sem_packet_o4_5)) (by decide) rfl rfl) (RetOK.turn (Turn.packS 0 2005 (fun v2=>Z1b g2 gT Z26 (fun v=>(⟨b23,b24,b25,b26,v,v2⟩:sem_packet_o4_5)) 111 Z14 l7) (by decide) rfl rfl) (Yp8 (i:=0) Tryz.results70 rfl (Z5 rfl) (Z5 rfl) rfl))
    case hx4=>
     refine sq ?_
     obtain ⟨x29,hx29,h⟩:=Z7 h
     refine Rg<|Md rfl<|Ac (Z0g (xs:=[.tmp 54,.const (Value.int IntKind.i64 2)]) (Z9y _ _ _ hx29) Z9h rfl rfl ⟨vt rfl,vk rfl,trivial⟩) rfl<|Mt2 rfl<|Ac (Z1e rfl rfl (vt rfl)) rfl<|Ac (Z1a rfl rfl (vt rfl)) rfl<|Cv rfl (Zm 15 rfl rfl Z3k) fun g30=>Zf Z2b 15 rfl<|As rfl<|Nl<|SR<|Md rfl<|Nl<|Cq rfl h (fun h=>?_) (fun h=>?_)
     ·obtain ⟨x31,hx31,x32,hx32,x33,hx33,h⟩:=bs3 h
      refine AR Z00 (by kernel_rfl)<|SMp rfl<|SCl [] (Zym _ hx31) Zvq rfl<|SFd Zrv Zui rfl<|Zp Zw 15 rfl<|SFd Zsy Zy5 rfl<|Zp Zw 15 rfl<|Sd (lo [60,62,64] [] rfl fun S hs hr=>Z0g (xs:=[.tmp 60,.const (Value.int IntKind.i64 1),.tmp 62,.tmp 64]) (Zha _ _ _ _ _ hx32) Zgy rfl rfl ⟨vt ((hs 60 rfl).trans rfl),vk rfl,vt ((hs 62 rfl).trans rfl),vt ((hs 64 rfl).trans rfl),trivial⟩)<|SMp rfl<|SNc rfl<|SFd lsem_packet_o4_5_2 Zm3 rfl<|Zp Z17 0 rfl<|SCl [65,69] (Y1w _ _ _ hx33) Y9x rfl<|SNc rfl<|SFd lsem_packet_o4_5_2 Zm3 rfl<|SSt Z17 0 rfl<|Sn ?_
      exact ⟨(_,_,_,_),h,FX rfl⟩
     ·refine sk ?_
      exact ⟨(_,_,_,_),h,FX rfl⟩
   case hx3=>
    refine sq ?_
    obtain ⟨x34,hx34,h⟩:=Z7 h
    refine Rg<|Md rfl<|Ac (Z0g (xs:=[.tmp 38,.const (Value.int IntKind.i64 3)]) (Z9y _ _ _ hx34) Z9h rfl rfl ⟨vt rfl,vk rfl,trivial⟩) rfl<|Mt2 rfl<|Ac (Z1e rfl rfl (vt rfl)) rfl<|Ac (Z1a rfl rfl (vt rfl)) rfl<|Cv rfl (Zm 13 rfl rfl Z3k) fun g35=>Zf Z2b 13 rfl<|As rfl<|Nl<|SR<|Md rfl<|Nl<|Cq rfl h (fun h=>?_) (fun h=>?_)
    ·obtain ⟨x36,hx36,h⟩:=Z7 h
     refine AR Z00 (by kernel_rfl)<|SMp rfl<|SMp rfl<|SNc rfl<|SFd Zoc Zsg rfl<|Zp Z34 0 rfl<|SFd Z6g Z7h rfl<|Zp Z34 13 rfl<|SCl [47,49] (Zy4 _ _ _ hx36) Zuo rfl<|SNc rfl<|SFd Zoc Zsg rfl<|SSt Z34 0 rfl<|Sn ?_
     exact ⟨(_,_,_,_),h,FX rfl⟩
    ·refine sk ?_
     exact ⟨(_,_,_,_),h,FX rfl⟩
  case hx2=>
   refine sq ?_
   obtain ⟨x37,hx37,h⟩:=Z7 h
   refine Rg<|Md rfl<|Ac (Z0g (xs:=[.tmp 29,.const (Value.int IntKind.i64 5)]) (Z9y _ _ _ hx37) Z9h rfl rfl ⟨vt rfl,vk rfl,trivial⟩) rfl<|Mt2 rfl<|Ac (Z1e rfl rfl (vt rfl)) rfl<|Ac (Z1a rfl rfl (vt rfl)) rfl<|Cv rfl (Zm 11 rfl rfl Z3k) fun g38=>Zf Z2b 11 rfl<|As rfl<|Nl<|SR<|Md rfl<|Nl<|Cq rfl h (fun h=>?_) (fun h=>?_)
   ·refine Rg<|Mp rfl<|Nc rfl<|Zk Zoc Zsg rfl<|Ac (Z76 rfl rfl Z34 (vt rfl) (i:=0) rfl Z1j) rfl<|Nl ?_
    exact ⟨(_,_,_,_),h,FX rfl⟩
   ·refine sk ?_
    exact ⟨(_,_,_,_),h,FX rfl⟩
 case hx1=>
  refine sq ?_
  obtain ⟨x39,hx39,h⟩:=Z7 h
  refine Rg<|Md rfl<|Ac (Z0g (xs:=[.tmp 19,.const (Value.int IntKind.i64 4)]) (Z9y _ _ _ hx39) Z9h rfl rfl ⟨vt rfl,vk rfl,trivial⟩) rfl<|Mt2 rfl<|Ac (Z1e rfl rfl (vt rfl)) rfl<|Ac (Z1a rfl rfl (vt rfl)) rfl<|Cv rfl (Zm 9 rfl rfl Z3k) fun g40=>Zf Z2b 9 rfl<|As rfl<|Nl<|SR<|Md rfl<|Nl<|Cq rfl h (fun h=>?_) (fun h=>?_)
  ·obtain ⟨b41,hb41,h⟩:=Z7 h
   refine Rg<|Mp rfl<|Zk Z6g Z7h rfl<|Ld Z34 9 rfl<|AOps.packF 0 2004 (fun v=>(⟨p1.Switch,p1.env,p1.header,p1.set,v,v4⟩:sem_packet_o4_5)) (by decide) rfl rfl<|AOps.packS 0 2005 (fun v2=>Z1b g2 gT Z26 (fun v=>(⟨p1.Switch,p1.env,p1.header,p1.set,v,v2⟩:sem_packet_o4_5)) 111 Z14 p1.out) (by decide) rfl rfl<|Cv rfl (Z1c 0 (xs:=[.tmp 24,.tmp 26]) (Y4w _ _ _ _ _ hb41) e71 rfl rfl ⟨vt rfl,vt rfl,trivial⟩ rfl) fun _u=>AOps.unboxS 0 2005 (by decide) rfl rfl fun v43=>AOps.unboxF 0 2004 (by decide) rfl rfl fun v42=>Nl ?_
   exact ⟨(_,_,_,_,_,_,_,_),h,FX rfl⟩
  ·refine sk ?_
   exact ⟨(_,_,_,_,_,_,_,_),h,FX rfl⟩
def Zee:Nat→(List Out)→(List Place)→Switch→Env→Z16→(List Action)→Int→Option Z35
 | 0,_,_,_,_,_,_,_=>none
 | m23+1,l14,l16,b18,b19,b20,b21,a22=>(chk 4 a22).bind fun j24=>(Zmx (Vector.get b18.Tables j24) b20).bind fun x25=>(bif (!x25.2) then (Z0y l16 [(⟨a22,(-1)⟩:Place)]).bind fun l26=>some (⟨b18,b19,b20,b21,l14,l26⟩:Z35) else (Z0y l16 [(⟨a22,x25.1⟩:Place)]).bind fun l28=>(chk 4 a22).bind fun j30=>(lget (Vector.get b18.Tables j30) x25.1).bind fun x31=>(Zh6 (⟨b18,b19,b20,b21,l14,l28⟩:Z35) a22 x31.Insts).bind fun b32=>(bif (!b32.2.1) then (Z8d b32.2.2.set).bind fun x35=>(Zcz (⟨b32.2.2.Switch,b32.2.2.env,b32.2.2.header,b32.2.2.set,b32.2.2.out,b32.2.2.path⟩:Z35) x35).bind fun b36=>some (⟨b36.Switch,b36.env,b36.header,b36.set,b36.out,b36.path⟩:Z35) else (Zee m23) b32.2.2.out b32.2.2.path b32.2.2.Switch b32.2.2.env b32.2.2.header b32.2.2.set b32.1))
def Zov (p1:Z35):Option Z35:=
 Zee Z0v p1.out p1.path p1.Switch p1.env p1.header p1.set 0
theorem Yjy (g2 gT:Nat)(p1:Z35)(r:Z35)(h:Zov p1=some r):Con Tryz.prog 32 [Zb g2 (Lens.id Z26)] (Z6d (fun v2=>Z1b g2 gT Z26 (fun v=>(⟨p1.Switch,p1.env,p1.header,p1.set,v,v2⟩:sem_packet_o4_5)) 111 Z14 p1.out) 40 Z0l p1.path) (fun _:Unit=>top) (fun _=>Z6d (fun v2=>Z1b g2 gT Z26 (fun v=>(⟨r.Switch,r.env,r.header,r.set,v,v2⟩:sem_packet_o4_5)) 111 Z14 r.out) 40 Z0l r.path):=by
 refine Con.intro Tryz.func32 rfl Tryz.ntmps32 rfl fun w H X Z=>?_
 unfold Zov at h
 refine AW.unboxS 0 2005 (by decide) rfl rfl fun v4=>AW.unboxF 0 2004 (by decide) rfl rfl fun v3=>AW.scope<|SR<|Ak rfl<|Nl<|sq<|AW.label<|bk<|LG (d:=[]) (ν:=Nat×(List Out)×(List Place)×Switch×Env×Z16×(List Action)×Int×Value×Value) (fun (m23,l14,l16,b18,b19,b20,b21,a22,v15,v17)=>(True∧Zee m23 l14 l16 b18 b19 b20 b21 a22=some r,m23,[(0,Zb g2 (Lens.id Z26)),(2,rd (Z0 .i64) a22)],[(0,Zh g2 gT Z26 (⟨b18,b19,b20,b21,v15,v17⟩:sem_packet_o4_5)),(2004,Zg v15 111 Z14 l14),(2005,Zg v17 40 Z0l l16)])) (Z0v,p1.out,p1.path,p1.Switch,p1.env,p1.header,p1.set,0,v3,v4) ⟨trivial,h⟩ (FX rfl) ?_
 rintro ⟨m23,l14,l16,b18,b19,b20,b21,a22,v15,v17⟩ ⟨hsf1,h⟩
 dsimp only at h ⊢
 cases m23 with
 | zero=>cases h
 | succ m23=>
  unfold Zee at h
  refine bk<|sq ?_
  obtain ⟨j24,hj24,x25,hx25,h⟩:=bs2 h
  refine AR Z00 (by kernel_rfl)<|SMp rfl<|Zt rfl<|SNc rfl<|SFd lsem_packet_o4_5_0 Zth rfl<|SFd Z64 Z6o rfl<|Sd (lo [12,9] [] rfl fun S hs hr=>Z19 rfl rfl Z6p (vh hs 12 rfl rfl) (vh hs 9 rfl rfl) hj24)<|Zp Z46 0 rfl<|SMp rfl<|SNc rfl<|SFd lsem_packet_o4_5_2 Zm3 rfl<|Zp Z17 0 rfl<|SCl [14,18] (Yef _ _ _ hx25) e69 rfl<|Sd (lo [19] [] rfl fun S hs hr=>Zq (A:=Z12 (rd (Z0 .i64) x25.1) (rd Z6 x25.2)) rfl rfl (vh hs 19 rfl rfl))<|Sd (lo [7] [] rfl fun S hs hr=>Z1e rfl rfl (vh hs 7 rfl rfl))<|Sd (lo [7] [] rfl fun S hs hr=>Z1a rfl rfl (vh hs 7 rfl rfl))<|SAs rfl<|SAs rfl<|Sn<|sq<|SR<|Md rfl<|Ac (Z0z rfl rfl (vt rfl)) rfl<|Nl<|Cq rfl h (fun h=>?_) (fun h=>?_)
  ·refine sq ?_
   obtain ⟨l26,hl26,h⟩:=Z7 h
   refine Rg<|Mp rfl<|Mp rfl<|Nc rfl<|Zk Zge Zl2 rfl<|Ac (Zcf v17 rfl rfl Zog (vt rfl) (i:=0) rfl rfl) rfl<|Md rfl<|Ac (opb (⟨a22,(-1)⟩:Place) Z4u rfl Z98 (pc Zcn (vt rfl)<|pc Zdb (vk rfl)<|pn rfl)) rfl<|Ac (osl Z61 Z4u rfl (vt rfl)) rfl<|Cv rfl (Z2f 2005 hl26 rfl rfl Zvw (vt rfl) rfl (vt rfl)) fun v27=>Nc rfl<|Zk Zge Zl2 rfl<|Ac (Z76 rfl rfl Zog (vt rfl) (i:=0) rfl (Zx6 (i:=2005) rfl rfl)) rfl<|Nl<|xt ?_
   cases h;exact RetOK.turn (Turn.packF 0 2004 (fun v=>(⟨b18,b19,b20,b21,v,v27⟩:sem_packet_o4_5)) (by decide) rfl rfl) (RetOK.turn (Turn.packS 0 2005 (fun v2=>Z1b g2 gT Z26 (fun v=>(⟨b18,b19,b20,b21,v,v2⟩:sem_packet_o4_5)) 111 Z14 l14) (by decide) rfl rfl) (Z2e (i:=0) Tryz.results32 rfl rfl))
  ·refine sk<|sq ?_
   obtain ⟨l28,hl28,h⟩:=Z7 h
   refine Rg<|Mp rfl<|Mp rfl<|Nc rfl<|Zk Zge Zl2 rfl<|Ac (Zcf v17 rfl rfl Zog (vt rfl) (i:=0) rfl rfl) rfl<|Md rfl<|Md rfl<|Ac (opb (⟨a22,x25.1⟩:Place) Z4u rfl Z98 (pc Zcn (vt rfl)<|pc Zdb (vt rfl)<|pn rfl)) rfl<|Ac (osl Z61 Z4u rfl (vt rfl)) rfl<|Cv rfl (Z2f 2005 hl28 rfl rfl Zvw (vt rfl) rfl (vt rfl)) fun v29=>Nc rfl<|Zk Zge Zl2 rfl<|Ac (Z76 rfl rfl Zog (vt rfl) (i:=0) rfl (Zx6 (i:=2005) rfl rfl)) rfl<|Nl<|sq ?_
   obtain ⟨j30,hj30,x31,hx31,b32,hb32,h⟩:=bs3 h
   refine Rg<|Mp rfl<|Md rfl<|Mp rfl<|Md rfl<|Nc rfl<|Zk lsem_packet_o4_5_0 Zth rfl<|Zk Z64 Z6o rfl<|Ac (Z19 rfl rfl Z6p (vt rfl) (vt rfl) hj30) rfl<|Ld Z46 0 rfl<|Md rfl<|Ac (Z0j rfl rfl Z2q (vt rfl) (vt rfl) hx31) rfl<|Fp lFlow_6 Z8v rfl<|Lp1 Z69 rfl<|AOps.packF 0 2004 (fun v=>(⟨b18,b19,b20,b21,v,v29⟩:sem_packet_o4_5)) (by decide) rfl rfl<|AOps.packS 0 2005 (fun v2=>Z1b g2 gT Z26 (fun v=>(⟨b18,b19,b20,b21,v,v2⟩:sem_packet_o4_5)) 111 Z14 l14) (by decide) rfl rfl<|Cv rfl (Z1c 0 (xs:=[.tmp 48,.tmp 49,.tmp 60]) (Ykc _ _ _ _ _ _ hb32) e70 rfl rfl ⟨vt rfl,vt rfl,vt rfl,trivial⟩ rfl) fun _u=>AOps.unboxS 0 2005 (by decide) rfl rfl fun v34=>AOps.unboxF 0 2004 (by decide) rfl rfl fun v33=>Mt2 rfl<|Ac (Z1e rfl rfl (vt rfl)) rfl<|Ac (Z1a rfl rfl (vt rfl)) rfl<|As rfl<|As rfl<|Nl<|sq<|SR<|Md rfl<|Ac (Z0z rfl rfl (vt rfl)) rfl<|Nl<|Cq rfl h (fun h=>?_) (fun h=>?_)
   ·refine sq ?_
    obtain ⟨x35,hx35,b36,hb36,h⟩:=bs2 h
    refine Rg<|Mp rfl<|Mp rfl<|Nc rfl<|Zk Zoc Zsg rfl<|Ld Z34 0 rfl<|Cl [70] (Zwg _ _ hx35) e72 rfl<|AOps.packF 0 2004 (fun v=>(⟨b32.2.2.Switch,b32.2.2.env,b32.2.2.header,b32.2.2.set,v,v34⟩:sem_packet_o4_5)) (by decide) rfl rfl<|AOps.packS 0 2005 (fun v2=>Z1b g2 gT Z26 (fun v=>(⟨b32.2.2.Switch,b32.2.2.env,b32.2.2.header,b32.2.2.set,v,v2⟩:sem_packet_o4_5)) 111 Z14 b32.2.2.out) (by decide) rfl rfl<|Cv rfl (Z1c 0 (xs:=[.tmp 66,.tmp 71]) (Y4w _ _ _ _ _ hb36) e71 rfl rfl ⟨vt rfl,vt rfl,trivial⟩ rfl) fun _u=>AOps.unboxS 0 2005 (by decide) rfl rfl fun v38=>AOps.unboxF 0 2004 (by decide) rfl rfl fun v37=>Nl<|xt ?_
    cases h;exact RetOK.turn (Turn.packF 0 2004 (fun v=>(⟨b36.Switch,b36.env,b36.header,b36.set,v,v38⟩:sem_packet_o4_5)) (by decide) rfl rfl) (RetOK.turn (Turn.packS 0 2005 (fun v2=>Z1b g2 gT Z26 (fun v=>(⟨b36.Switch,b36.env,b36.header,b36.set,v,v2⟩:sem_packet_o4_5)) 111 Z14 b36.out) (by decide) rfl rfl) (Z2e (i:=0) Tryz.results32 rfl rfl))
   ·refine sk<|Rg<|Md rfl<|As rfl<|Nl ?_
    exact ⟨(_,_,_,_,_,_,_,_,_,_),Nat.lt_succ_self _,⟨trivial,h⟩,FX rfl⟩
def Zgr (s1:Switch)(x2:Z16):Option (List Place):=
 (Zov (⟨s1,Z6c,x2,[],[],[]⟩:Z35)).bind fun b6=>some b6.path
theorem Y1p:Q2 Tryz.prog 12 (rd Z09) (rd (Z3 24 Zn)) (rd (Z1 Z0l)) Zgr:=fun s1 x2 r h=>I0 Tryz.func12 rfl Tryz.ntmps12 rfl fun w H Z=>by
 unfold Zgr at h
 refine SR<|Cv rfl (Zs 3 rfl rfl (vt rfl)) fun g3=>Cv rfl (Zs 4 rfl rfl (vt rfl)) fun g4=>Ac (Zv (A:=rd (Z1 Z0l) []) rfl rfl Z1j) rfl<|Nl<|sq<|AW.newnil 2204 111 Z14<|AW.newnil 2205 40 Z0l<|Rg<|Ld Z28 3 rfl<|Ld Z17 4 rfl<|Ac (opb (⟨s1,Z6c,x2,[],(.slice none 0 0),(.slice none 0 0)⟩:sem_packet_o4_5) Ywx rfl Yse (pc Yuf (vt rfl)<|pc Yqt (vt rfl)<|pn rfl)) rfl<|Cv rfl (Zs 10 rfl rfl (vt rfl)) fun g5=>Ac (Zv (A:=Zb g5 (Lens.id Z26)) rfl rfl (vt rfl)) rfl<|Nl<|sq ?_
 obtain ⟨b6,hb6,h⟩:=Z7 h
 refine Rg<|Mp rfl<|AOps.packF 10 2204 (fun v=>(⟨s1,Z6c,x2,[],v,(.slice none 0 0)⟩:sem_packet_o4_5)) (by decide) rfl rfl<|AOps.packS 10 2205 (fun v2=>Z1b g5 79 Z26 (fun v=>(⟨s1,Z6c,x2,[],v,v2⟩:sem_packet_o4_5)) 111 Z14 []) (by decide) rfl rfl<|Cv rfl (Z1c 10 (xs:=[.tmp 10]) (Yjy _ _ _ _ hb6) e32 rfl rfl ⟨vt rfl,trivial⟩ rfl) fun _u=>AOps.unboxS 10 2205 (by decide) rfl rfl fun v8=>AOps.unboxF 10 2204 (by decide) rfl rfl fun v7=>Nl<|SR<|Mp rfl<|Nc rfl<|Zk Zge Zl2 rfl<|Ac (Zcf v8 rfl rfl Zog (vt rfl) (i:=10) rfl rfl) rfl<|Aw rfl<|Nl<|AW.freezes [4,15] 2205 rfl ⟨rfl,rfl,trivial⟩ rfl<|rt ?_
 cases h;exact Zd Tryz.results12 rfl (Z5 rfl)
def Zdj (go1:Nat→(List (Place×Int))→Option ((List (Place×Int))×Int))(i9:Nat):(List Place)→Nat→(List (Place×Int))→Option ((List (Place×Int))×Int)
 | [],i16,m15=>go1 (i9+1) m15
 | x18::l17,i16,m15=>(Zdj go1 i9 l17) (i16+1) (Z20 m15 x18 (IntKind.i64.wrap ((Z0p m15 x18)+1)))
def Zak (x5:((List Rule)×Int))(m2:Int)(s1:Switch):Nat→Nat→(List (Place×Int))→Option ((List (Place×Int))×Int)
 | 0,i9,m8=>some (m8,0)
 | m10+1,i9,m8=>(Zhj x5.1 (i9:Int) m2).bind fun x11=>(bif (decide (x11.2.2≠0)) then some ([],x11.2.2) else (Zgr s1 x11.1).bind fun x13=>Zdj (Zak x5 m2 s1 m10) i9 x13 0 m8)
def Zfy (s1:Switch)(m2:Int):Option ((List (Place×Int))×Int):=
 (Zgh s1).bind fun x4=>(Zqp x4 m2).bind fun x5=>(bif (decide (x5.2≠0)) then some ([],x5.2) else Zak x5 m2 s1 ((x5.1.length:Int):Int).toNat 0 [])
theorem Y85:Q2 Tryz.prog 30 (rd Z09) (rd (Z0 .i64)) (fun r=>Z12 (rd (Z6h Z0l) r.1) (rd (Z0 .i64) r.2)) Zfy:=fun s1 m2 r h=>I0 Tryz.func30 rfl Tryz.ntmps30 rfl fun w H Z=>by
 unfold Zfy at h
 refine SR<|Cv rfl (Zs 3 rfl rfl (vt rfl)) fun g3=>Ac (Zv (A:=rd (Z6h Z0l) []) rfl rfl vnm) rfl<|Ak rfl<|Nl<|sq ?_
 obtain ⟨x4,hx4,x5,hx5,h⟩:=bs2 h
 refine Rg<|Ld Z28 3 rfl<|Cl [16] (Yuk _ _ hx4) e67 rfl<|Md rfl<|Cl [17,18] (Yzd _ _ _ hx5) e66 rfl<|Mt2 rfl<|Ac (Z1e rfl rfl (vt rfl)) rfl<|Ac (Z1a rfl rfl (vt rfl)) rfl<|As rfl<|As rfl<|Nl<|sq<|SR<|Md rfl<|Ac (Z6f rfl rfl (vt rfl) (vk rfl)) rfl<|Nl<|Cq rfl h (fun h=>?_) (fun h=>?_)
 ·refine SR<|Md rfl<|Ac (Zv (A:=rd (Z6h Z0l) []) rfl rfl vnm) rfl<|As rfl<|Nl<|rt ?_
  cases h;exact Z1f Tryz.results30 rfl (Z5 rfl) (Z5 rfl)
 ·refine sk<|SR<|Cv rfl (Zwj Z0l 26 rfl rfl) fun g6=>Aw rfl<|Nl<|sq<|SR<|Md rfl<|Ac (Z0i rfl rfl Z44 (vt rfl)) rfl<|Mk rfl<|Nl<|bk<|LG (d:=[]) (ν:=Nat×Nat×(List (Place×Int))) (fun (m10,i9,m8)=>(Cnt (x5.1.length:Int) i9 m10∧Zak x5 m2 s1 m10 i9 m8=some r,m10,[(1,rd (Z0 .i64) m2),(2,Zb g3 (Lens.id Z09)),(6,rd (Z1 Z0a) x5.1),(8,Zc (.map (some g6))),(27,rd (Z0 .i64) (x5.1.length:Int)),(28,rd (Z0 .i64) (i9:Int))],[(3,Zh g3 26 Z09 s1),(26,Z2h g6 Z0l m8)])) (((x5.1.length:Int):Int).toNat,0,[]) ⟨Cnt.start _,h⟩ (FX rfl) ?_
  rintro ⟨m10,i9,m8⟩ ⟨hsf1,h⟩
  dsimp only at hsf1 h ⊢
  cases m10 with
  | zero=>
   unfold Zak at h
   refine SR<|Ac (Zj rfl rfl (vt rfl) (vt rfl)) rfl<|Nl<|sq<|Cn rfl (fun hc=>absurd (of_decide_eq_true hc) hsf1.zero) (fun hc=>?_)
   refine xt<|SR<|Mw rfl<|Aw rfl<|Ak rfl<|Nl<|AW.freezeM 4 26 rfl rfl rfl<|rt ?_
   cases h;exact Z1f Tryz.results30 rfl (Z5 rfl) (Z5 rfl)
  | succ m10=>
   unfold Zak at h
   refine SR<|Ac (Zj rfl rfl (vt rfl) (vt rfl)) rfl<|Nl<|sq<|Cn rfl (fun hc=>?_) (fun hc=>absurd hsf1.succ (of_decide_eq_false hc))
   have hlti9:=of_decide_eq_true hc
   refine sk<|sq<|bk<|SR<|Md rfl<|As rfl<|Nl<|sq ?_
   obtain ⟨x11,hx11,h⟩:=Z7 h
   refine Rg<|Md rfl<|Md rfl<|Md rfl<|Cl [32,33,34] (Ysj _ _ _ _ hx11) e68 rfl<|Ac (Zq (A:=Z4o (rd (Z3 24 Zn) x11.1) (rd Z6 x11.2.1) (rd (Z0 .i64) x11.2.2)) rfl rfl (vt rfl)) rfl<|Ac (Zhv rfl rfl (vt rfl)) rfl<|Ac (Zh4 rfl rfl (vt rfl)) rfl<|Ac (Zin rfl rfl (vt rfl)) rfl<|Cv rfl (Zm 11 rfl rfl Z55) fun g12=>Zf Z17 11 rfl<|As rfl<|As rfl<|Nl<|sq<|SR<|Md rfl<|Ac (Z6f rfl rfl (vt rfl) (vk rfl)) rfl<|Nl<|Cq rfl h (fun h=>?_) (fun h=>?_)
   ·refine SR<|Md rfl<|Ac (Zv (A:=rd (Z6h Z0l) []) rfl rfl vnm) rfl<|As rfl<|Nl<|rt ?_
    cases h;exact Z1f Tryz.results30 rfl (Z5 rfl) (Z5 rfl)
   ·refine sk<|sq ?_
    obtain ⟨x13,hx13,h⟩:=Z7 h
    refine Rg<|Ld Z28 3 rfl<|Ld Z17 11 rfl<|Cl [42,43] (Y1p _ _ _ hx13) e12 rfl<|Ac (Z0i rfl rfl Z61 (vt rfl)) rfl<|Mk rfl<|Nl<|bk<|LG (d:=[]) (ν:=(List Place)×Nat×(List (Place×Int))) (fun (l17,i16,m15)=>(Sfx x13 i16 l17∧Zdj (Zak x5 m2 s1 m10) i9 l17 i16 m15=some r,l17.length,[(1,rd (Z0 .i64) m2),(2,Zb g3 (Lens.id Z09)),(6,rd (Z1 Z0a) x5.1),(8,Zc (.map (some g6))),(27,rd (Z0 .i64) (x5.1.length:Int)),(28,rd (Z0 .i64) (i9:Int)),(44,rd (Z1 Z0l) x13),(45,rd (Z0 .i64) (x13.length:Int)),(46,rd (Z0 .i64) (i16:Int))],[(3,Zh g3 26 Z09 s1),(26,Z2h g6 Z0l m15)])) (x13,0,m8) ⟨Sfx.start _,h⟩ (FX rfl) ?_
    rintro ⟨l17,i16,m15⟩ ⟨hsf2,h⟩
    dsimp only at hsf2 h ⊢
    cases l17 with
    | nil=>
     unfold Zdj at h
     refine SR<|Ac (Zj rfl rfl (vt rfl) (vt rfl)) rfl<|Nl<|sq<|Cn rfl (fun hc=>absurd (of_decide_eq_true hc) hsf2.nil) (fun hc=>?_)
     refine xt<|Rg<|Ac (Z13 (t:=27) rfl rfl (vt rfl) (vk rfl) (vt rfl) hlti9) rfl<|Md rfl<|Nl ?_
     exact ⟨(_,_,_),Nat.lt_succ_self _,⟨hsf1.next,h⟩,FX rfl⟩
    | cons x18 l17=>
     unfold Zdj at h
     refine SR<|Ac (Zj rfl rfl (vt rfl) (vt rfl)) rfl<|Nl<|sq<|Cn rfl (fun hc=>?_) (fun hc=>absurd hsf2.cons (of_decide_eq_false hc))
     have hlti16:=of_decide_eq_true hc
     refine sk<|sq<|bk<|SR<|Ac (Z0j rfl rfl Z61 (vt rfl) (vt rfl) hsf2.lget) rfl<|Lp1 Z4h rfl<|Cv rfl (Zm 15 rfl rfl Z4u) fun g19=>Zf Z4h 15 rfl<|Nl<|AW.mapInc (i:=26) (j1:=15) (t1:=14) (x:=x18) Z00 Zue rfl rfl rfl rfl rfl rfl rfl (by kernel_rfl) (by kernel_rfl) rfl rfl rfl rfl (fun S2 h2 h3=>Z1z (L:=Lens.id Z0l) rfl rfl Z4h (vt (h2.trans rfl)) (i:=15) (h3.trans rfl)) fun g20=>Rg<|Ac (Z13 (t:=45) rfl rfl (vt rfl) (vk rfl) (vt rfl) hlti16) rfl<|Md rfl<|Nl ?_
     exact ⟨(_,_,_),Nat.lt_succ_self _,⟨hsf2.next,h⟩,FX rfl⟩
end Go.Proofs.YtinplddjjalohaaGreatDoor.W
set_option maxHeartbeats 1000000
set_option maxRecDepth 4000
namespace Go.Proofs.YtinplddjjalohaaGreatDoor.W
open Go Go.Wb
theorem e30:Ent Tryz.prog 30:=Ent.mk Tryz.func30 rfl rfl
theorem e45:Ent Tryz.prog 45:=Ent.mk Tryz.func45 rfl rfl
theorem Y5n:Ent Tryz.prog 115:=Ent.mk Tryz.func115 rfl rfl
theorem Yie:Ent Tryz.prog 182:=Ent.mk Tryz.func182 rfl rfl
theorem Y5g:Ent Tryz.prog 176:=Ent.mk Tryz.func176 rfl rfl
def Zah (go1:Nat→(List Place)→Option ((List Place)×Int))(i9:Nat)(x4:((List (Place×Int))×Int)):Nat→Nat→(List Place)→Option ((List Place)×Int)
 | 0,i16,l14=>go1 (i9+1) l14
 | m17+1,i16,l14=>(bif (decide ((Z0p x4.1 (⟨(i9:Int),(i16:Int)⟩:Place))=0)) then (Z0y l14 [(⟨(i9:Int),(i16:Int)⟩:Place)]).bind fun l19=>(Zah go1 i9 x4 m17) (i16+1) l19 else (Zah go1 i9 x4 m17) (i16+1) l14)
def Za5 (x4:((List (Place×Int))×Int)):(List (List Flow))→Nat→(List Place)→Option ((List Place)×Int)
 | [],i9,l7=>some (l7,0)
 | x11::l10,i9,l7=>Zah (Za5 x4 l10) i9 x4 ((x11.length:Int):Int).toNat 0 l7
def Ziq (s1:Switch)(m2:Int):Option ((List Place)×Int):=
 (Zfy s1 m2).bind fun x4=>(bif (decide (x4.2≠0)) then some ([],x4.2) else Za5 x4 (Vector.toList s1.Tables) 0 [])
theorem Yaf:Q2 Tryz.prog 10 (rd Z09) (rd (Z0 .i64)) (fun r=>Z12 (rd (Z1 Z0l) r.1) (rd (Z0 .i64) r.2)) Ziq:=fun s1 m2 r h=>I0 Tryz.func10 rfl Tryz.ntmps10 rfl fun w H Z=>by
 unfold Ziq at h
 refine SR<|Cv rfl (Zs 3 rfl rfl (vt rfl)) fun g3=>Ac (Zv (A:=rd (Z1 Z0l) []) rfl rfl Z1j) rfl<|Ak rfl<|Nl<|sq ?_
 obtain ⟨x4,hx4,h⟩:=Z7 h
 refine Rg<|Ld Z28 3 rfl<|Md rfl<|Cl [14,15] (Y85 _ _ _ hx4) e30 rfl<|Mt2 rfl<|Ac (Z1e rfl rfl (vt rfl)) rfl<|Ac (Z1a rfl rfl (vt rfl)) rfl<|As rfl<|As rfl<|Nl<|sq<|SR<|Md rfl<|Ac (Z6f rfl rfl (vt rfl) (vk rfl)) rfl<|Nl<|Cq rfl h (fun h=>?_) (fun h=>?_)
 ·refine SR<|Md rfl<|Ac (Zv (A:=rd (Z1 Z0l) []) rfl rfl Z1j) rfl<|As rfl<|Nl<|rt ?_
  cases h;exact Z1f Tryz.results10 rfl (Z5 rfl) (Z5 rfl)
 ·refine sk<|sq<|AW.newnil 1001 40 Z0l<|Rg<|Ac (Zv rfl rfl vc) rfl<|Nl<|sq<|SR<|Zk Z64 Z6o rfl<|Ld Ztj 3 rfl<|Mk rfl<|Nl<|bk<|LG (d:=[]) (ν:=(List (List Flow))×Nat×(List Place)×Value) (fun (l10,i9,l7,v8)=>(Sfx (Vector.toList s1.Tables) i9 l10∧Za5 x4 l10 i9 l7=some r,l10.length,[(6,rd (Z6h Z0l) x4.1),(8,Zc v8),(23,rd (Z3 4 (Z1 Z08)) s1.Tables),(24,rd (Z0 .i64) (i9:Int))],[(1001,Zg v8 40 Z0l l7)])) ((Vector.toList s1.Tables),0,[],(.slice none 0 0)) ⟨Sfx.start _,h⟩ (FX rfl) ?_
  rintro ⟨l10,i9,l7,v8⟩ ⟨hsf1,h⟩
  dsimp only at hsf1 h ⊢
  cases l10 with
  | nil=>
   unfold Za5 at h
   refine SR<|Ac (Zj rfl rfl (vt rfl) (vk rfl)) rfl<|Nl<|sq<|Cn rfl (fun hc=>absurd (of_decide_eq_true hc) (hsf1.niln (by simp))) (fun hc=>?_)
   refine xt<|SR<|Mw rfl<|Aw rfl<|Ak rfl<|Nl<|AW.freezes [4,8,46] 1001 rfl ⟨rfl,rfl,rfl,trivial⟩ rfl<|rt ?_
   cases h;exact Z1f Tryz.results10 rfl (Z5 rfl) (Z5 rfl)
  | cons x11 l10=>
   unfold Za5 at h
   refine SR<|Ac (Zj rfl rfl (vt rfl) (vk rfl)) rfl<|Nl<|sq<|Cn rfl (fun hc=>?_) (fun hc=>absurd (hsf1.consn (by simp)) (of_decide_eq_false hc))
   have hlti9:=of_decide_eq_true hc
   refine sk<|sq<|bk<|SR<|Md rfl<|Ac (Z8w rfl rfl Z6p Z46 (vt rfl) (vt rfl) hsf1.lget) rfl<|As rfl<|As rfl<|Nl<|SR<|Md rfl<|Ac (Z0i rfl rfl Z2q (vt rfl)) rfl<|Mk rfl<|Nl<|bk<|LG (d:=[]) (ν:=Nat×Nat×(List Place)×Value) (fun (m17,i16,l14,v15)=>(Cnt (x11.length:Int) i16 m17∧Zah (Za5 x4 l10) i9 x4 m17 i16 l14=some r,m17,[(6,rd (Z6h Z0l) x4.1),(8,Zc v15),(9,rd (Z0 .i64) (i9:Int)),(23,rd (Z3 4 (Z1 Z08)) s1.Tables),(24,rd (Z0 .i64) (i9:Int)),(29,rd (Z0 .i64) (x11.length:Int)),(30,rd (Z0 .i64) (i16:Int))],[(1001,Zg v15 40 Z0l l14)])) (((x11.length:Int):Int).toNat,0,l7,v8) ⟨Cnt.start _,h⟩ (FX rfl) ?_
   rintro ⟨m17,i16,l14,v15⟩ ⟨hsf2,h⟩
   dsimp only at hsf2 h ⊢
   cases m17 with
   | zero=>
    unfold Zah at h
    refine SR<|Ac (Zj rfl rfl (vt rfl) (vt rfl)) rfl<|Nl<|sq<|Cn rfl (fun hc=>absurd (of_decide_eq_true hc) hsf2.zero) (fun hc=>?_)
    refine xt<|Rg<|Ac (Z5r rfl rfl (vt rfl) (vk rfl) rfl hlti9) rfl<|Md rfl<|Nl ?_
    exact ⟨(_,_,_,_),Nat.lt_succ_self _,⟨hsf1.next,h⟩,FX rfl⟩
   | succ m17=>
    unfold Zah at h
    refine SR<|Ac (Zj rfl rfl (vt rfl) (vt rfl)) rfl<|Nl<|sq<|Cn rfl (fun hc=>?_) (fun hc=>absurd hsf2.succ (of_decide_eq_false hc))
    have hlti16:=of_decide_eq_true hc
    refine sk<|sq<|bk<|SR<|Md rfl<|As rfl<|Nl<|SR<|Md rfl<|Md rfl<|Ac (opb (⟨(i9:Int),(i16:Int)⟩:Place) Z4u rfl Z98 (pc Zcn (vt rfl)<|pc Zdb (vt rfl)<|pn rfl)) rfl<|Cv rfl (Zm 13 rfl rfl Z4u) fun g18=>Zf Z4h 13 rfl<|Nl<|SR<|Md rfl<|Ld Z4h 13 rfl<|Ac (Ya9 rfl rfl Zue (vt rfl) (vt rfl)) rfl<|Ac (Z0m rfl rfl (vt rfl) (vk rfl)) rfl<|Nl<|Cq rfl h (fun h=>?_) (fun h=>?_)
    ·obtain ⟨l19,hl19,h⟩:=Z7 h
     refine Rg<|Mw rfl<|Ld Z4h 13 rfl<|Ac (osl Z61 Z4u rfl (vt rfl)) rfl<|Cv rfl (Z2f 1001 hl19 rfl rfl Zvw (vt rfl) rfl (vt rfl)) fun v20=>Aw rfl<|Nl<|Rg<|Ac (Z13 (t:=29) rfl rfl (vt rfl) (vk rfl) (vt rfl) hlti16) rfl<|Md rfl<|Nl ?_
     exact ⟨(_,_,_,_),Nat.lt_succ_self _,⟨hsf2.next,h⟩,FX rfl⟩
    ·refine sk<|Rg<|Ac (Z13 (t:=29) rfl rfl (vt rfl) (vk rfl) (vt rfl) hlti16) rfl<|Md rfl<|Nl ?_
     exact ⟨(_,_,_,_),Nat.lt_succ_self _,⟨hsf2.next,h⟩,FX rfl⟩
def Zg4 (i8:Nat)(go1:Nat→Switch→Option (Switch×Int))(b7:Switch)(x5:((List (Place×Int))×Int)):(List Flow)→Nat→(List Flow)→Option (Switch×Int)
 | [],i15,l13=>(chk 4 (i8:Int)).bind fun j17=>go1 (i8+1) {b7 with Tables:=(Vector.set b7.Tables j17.1 l13 j17.2)}
 | x18::l16,i15,l13=>(bif (decide ((Z0p x5.1 (⟨(i8:Int),(i15:Int)⟩:Place))>0)) then (Z0y l13 [x18]).bind fun l20=>(Zg4 i8 go1 b7 x5 l16) (i15+1) l20 else (Zg4 i8 go1 b7 x5 l16) (i15+1) l13)
def Zfu (x5:((List (Place×Int))×Int)):(List (List Flow))→Nat→Switch→Option (Switch×Int)
 | [],i8,b7=>some (b7,0)
 | x10::l9,i8,b7=>Zg4 i8 (Zfu x5 l9) b7 x5 x10 0 []
def Zy0 (s1:Switch)(m2:Int):Option (Switch×Int):=
 (Zfy s1 m2).bind fun x5=>(bif (decide (x5.2≠0)) then some ((⟨(Vector.replicate 4 []),[]⟩:Switch),x5.2) else Zfu x5 (Vector.toList s1.Tables) 0 s1)
theorem Yss:Q2 Tryz.prog 21 (rd Z09) (rd (Z0 .i64)) (fun r=>Z12 (rd Z09 r.1) (rd (Z0 .i64) r.2)) Zy0:=fun s1 m2 r h=>I0 Tryz.func21 rfl Tryz.ntmps21 rfl fun w H Z=>by
 unfold Zy0 at h
 refine SR<|Cv rfl (Zs 3 rfl rfl (vt rfl)) fun g3=>Cv rfl (Zm 5 rfl rfl Zbb) fun g4=>Ak rfl<|Nl<|sq ?_
 obtain ⟨x5,hx5,h⟩:=Z7 h
 refine Rg<|Ld Z28 3 rfl<|Md rfl<|Cl [14,15] (Y85 _ _ _ hx5) e30 rfl<|Mt2 rfl<|Ac (Z1e rfl rfl (vt rfl)) rfl<|Ac (Z1a rfl rfl (vt rfl)) rfl<|As rfl<|As rfl<|Nl<|sq<|SR<|Md rfl<|Ac (Z6f rfl rfl (vt rfl) (vk rfl)) rfl<|Nl<|Cq rfl h (fun h=>?_) (fun h=>?_)
 ·refine SR<|Ac (opb (⟨(Vector.replicate 4 []),[]⟩:Switch) Zbb rfl Zrn (pn rfl)) rfl<|Md rfl<|Zf Z28 5 rfl<|As rfl<|Nl<|rt ?_
  cases h;exact Z1f Tryz.results21 rfl (Zx rfl (i:=5) rfl Z28) (Z5 rfl)
 ·refine sk<|sq<|SR<|Zk Z64 Z6o rfl<|Ld Ztj 3 rfl<|Mk rfl<|Nl<|bk<|LG (d:=[]) (ν:=(List (List Flow))×Nat×Switch) (fun (l9,i8,b7)=>(Sfx (Vector.toList s1.Tables) i8 l9∧Zfu x5 l9 i8 b7=some r,l9.length,[(2,Zb g3 (Lens.id Z09)),(4,Zb g4 (Lens.id Z09)),(6,rd (Z6h Z0l) x5.1),(24,rd (Z3 4 (Z1 Z08)) s1.Tables),(25,rd (Z0 .i64) (i8:Int))],[(3,Zh g3 26 Z09 b7),(5,Zh g4 26 Z09 Zer)])) ((Vector.toList s1.Tables),0,s1) ⟨Sfx.start _,h⟩ (FX rfl) ?_
  rintro ⟨l9,i8,b7⟩ ⟨hsf1,h⟩
  dsimp only at hsf1 h ⊢
  cases l9 with
  | nil=>
   unfold Zfu at h
   refine SR<|Ac (Zj rfl rfl (vt rfl) (vk rfl)) rfl<|Nl<|sq<|Cn rfl (fun hc=>absurd (of_decide_eq_true hc) (hsf1.niln (by simp))) (fun hc=>?_)
   refine xt<|SR<|Ld Z28 3 rfl<|Zf Z28 5 rfl<|Ak rfl<|Nl<|rt ?_
   cases h;exact Z1f Tryz.results21 rfl (Zx rfl (i:=5) rfl Z28) (Z5 rfl)
  | cons x10 l9=>
   unfold Zfu at h
   refine SR<|Ac (Zj rfl rfl (vt rfl) (vk rfl)) rfl<|Nl<|sq<|Cn rfl (fun hc=>?_) (fun hc=>absurd (hsf1.consn (by simp)) (of_decide_eq_false hc))
   have hlti8:=of_decide_eq_true hc
   refine sk<|sq<|bk<|SR<|Md rfl<|Ac (Z8w rfl rfl Z6p Z46 (vt rfl) (vt rfl) hsf1.lget) rfl<|As rfl<|As rfl<|Nl<|sq<|AW.newnil 1001 48 Z08<|Rg<|Ac (Zv rfl rfl vc) rfl<|Nl<|sq<|SR<|Md rfl<|Ac (Z0i rfl rfl Z2q (vt rfl)) rfl<|Mk rfl<|Nl<|bk<|LG (d:=[]) (ν:=(List Flow)×Nat×(List Flow)×Value) (fun (l16,i15,l13,v14)=>(Sfx x10 i15 l16∧Zg4 i8 (Zfu x5 l9) b7 x5 l16 i15 l13=some r,l16.length,[(2,Zb g3 (Lens.id Z09)),(4,Zb g4 (Lens.id Z09)),(6,rd (Z6h Z0l) x5.1),(8,rd (Z0 .i64) (i8:Int)),(10,Zc v14),(24,rd (Z3 4 (Z1 Z08)) s1.Tables),(25,rd (Z0 .i64) (i8:Int)),(29,rd (Z1 Z08) x10),(30,rd (Z0 .i64) (x10.length:Int)),(31,rd (Z0 .i64) (i15:Int))],[(3,Zh g3 26 Z09 b7),(5,Zh g4 26 Z09 Zer),(1001,Zg v14 48 Z08 l13)])) (x10,0,[],(.slice none 0 0)) ⟨Sfx.start _,h⟩ (FX rfl) ?_
   rintro ⟨l16,i15,l13,v14⟩ ⟨hsf2,h⟩
   dsimp only at hsf2 h ⊢
   cases l16 with
   | nil=>
    unfold Zg4 at h
    refine SR<|Ac (Zj rfl rfl (vt rfl) (vt rfl)) rfl<|Nl<|sq<|Cn rfl (fun hc=>absurd (of_decide_eq_true hc) hsf2.nil) (fun hc=>?_)
    refine xt<|AW.freezes [10] 1001 rfl ⟨rfl,trivial⟩ rfl ?_
    obtain ⟨j17,hj17,h⟩:=Z7 h
    refine Rg<|Md rfl<|Md rfl<|Zk Z64 Z6o rfl<|Ac (Z19 rfl rfl Z6p (vt rfl) (vt rfl) hj17) rfl<|Zf Z46 3 rfl<|Nl<|Rg<|Ac (Z5r rfl rfl (vt rfl) (vk rfl) rfl hlti8) rfl<|Md rfl<|Nl ?_
    exact ⟨(_,_,_),Nat.lt_succ_self _,⟨hsf1.next,h⟩,FX rfl⟩
   | cons x18 l16=>
    unfold Zg4 at h
    refine SR<|Ac (Zj rfl rfl (vt rfl) (vt rfl)) rfl<|Nl<|sq<|Cn rfl (fun hc=>?_) (fun hc=>absurd hsf2.cons (of_decide_eq_false hc))
    have hlti15:=of_decide_eq_true hc
    refine sk<|sq<|bk<|SR<|Md rfl<|Ac (Z0j rfl rfl Z2q (vt rfl) (vt rfl) hsf2.lget) rfl<|Lp1 Z2n rfl<|Cv rfl (Zm 13 rfl rfl Z7u) fun g19=>As rfl<|Zf Z2n 13 rfl<|Nl<|SR<|Md rfl<|Md rfl<|Md rfl<|Ac (opb (⟨(i8:Int),(i15:Int)⟩:Place) Z4u rfl Z98 (pc Zcn (vt rfl)<|pc Zdb (vt rfl)<|pn rfl)) rfl<|Ac (Ya9 rfl rfl Zue (vt rfl) (vt rfl)) rfl<|Ac (Z2s rfl rfl (vt rfl) (vk rfl)) rfl<|Nl<|Cq rfl h (fun h=>?_) (fun h=>?_)
    ·obtain ⟨l20,hl20,h⟩:=Z7 h
     refine Rg<|Mw rfl<|Ld Z2n 13 rfl<|Ac (osl Z2q Z7u rfl (vt rfl)) rfl<|Cv rfl (Z2f 1001 hl20 rfl rfl Yht (vt rfl) rfl (vt rfl)) fun v21=>Aw rfl<|Nl<|Rg<|Ac (Z13 (t:=30) rfl rfl (vt rfl) (vk rfl) (vt rfl) hlti15) rfl<|Md rfl<|Nl ?_
     exact ⟨(_,_,_,_),Nat.lt_succ_self _,⟨hsf2.next,h⟩,FX rfl⟩
    ·refine sk<|Rg<|Ac (Z13 (t:=30) rfl rfl (vt rfl) (vk rfl) (vt rfl) hlti15) rfl<|Md rfl<|Nl ?_
     exact ⟨(_,_,_,_),Nat.lt_succ_self _,⟨hsf2.next,h⟩,FX rfl⟩
def Y7t (l1:(List Bucket)):Option ((List Int)×Int):=none
theorem Yn8 (l1:(List Bucket))(r:((List Int)×Int))(h:Y7t l1=some r):PCon Tryz.prog 45 [rd (Z1 Z1y) l1] (Z12 (rd (Z1 (Z0 .u8)) r.1) (rd (Z0 .i64) r.2)):=by cases h
def Zoo (x1:Group):Option Bool:=
 (Y7t x1.Buckets).bind fun x3=>some (decide (x3.2≠0))
theorem Yh2:Q1 Tryz.prog 159 (rd Z0e) (rd Z6) Zoo:=fun x1 r h=>I0 Tryz.func159 rfl Tryz.ntmps159 rfl fun w H Z=>by
 unfold Zoo at h
 refine SR<|Cv rfl (Zs 2 rfl rfl (vt rfl)) fun g2=>Ab rfl<|Nl<|sq ?_
 obtain ⟨x3,hx3,h⟩:=Z7 h
 refine Rg<|Zk Z79 Z7v rfl<|Ld Z85 2 rfl<|Cl [7] (Yn8 _ _ hx3) e45 rfl<|Mt2 rfl<|Ac (Z1e rfl rfl (vt rfl)) rfl<|Ac (Z1a rfl rfl (vt rfl)) rfl<|As rfl<|As rfl<|Nl<|SR<|Md rfl<|Ac (Z6f rfl rfl (vt rfl) (vk rfl)) rfl<|As rfl<|Nl<|rt ?_
 cases h;exact Zd Tryz.results159 rfl (Z5 rfl)
def Zz5 (l1:(List Action)):Option (List Int):=none
theorem Y66 (l1:(List Action))(r:(List Int))(h:Zz5 l1=some r):PCon Tryz.prog 115 [rd (Z1 Z9) l1] (rd (Z1 (Z0 .i64)) r):=by cases h
def Zkq:(List Bucket)→Nat→(List Int)→Option (List Int)
 | [],i6,l4=>some l4
 | x8::l7,i6,l4=>(Zz5 x8.Acts).bind fun x10=>(Z0y l4 x10).bind fun l11=>(Zkq l7) (i6+1) l11
def Zur (l1:(List Bucket)):Option (List Int):=
 Zkq l1 0 []
theorem Ys1:Q1 Tryz.prog 182 (rd (Z1 Z1y)) (rd (Z1 (Z0 .i64))) Zur:=fun l1 r h=>I0 Tryz.func182 rfl Tryz.ntmps182 rfl fun w H Z=>by
 unfold Zur at h
 refine SR<|Ac (Zv (A:=rd (Z1 (Z0 .i64)) []) rfl rfl Z1j) rfl<|Nl<|sq<|AW.newnil 1001 3 (Z0 .i64)<|Rg<|Ac (Zv rfl rfl vc) rfl<|Nl<|sq<|SR<|Md rfl<|Ac (Z0i rfl rfl Z6z (vt rfl)) rfl<|Mk rfl<|Nl<|bk<|LG (d:=[]) (ν:=(List Bucket)×Nat×(List Int)×Value) (fun (l7,i6,l4,v5)=>(Sfx l1 i6 l7∧Zkq l7 i6 l4=some r,l7.length,[(3,Zc v5),(6,rd (Z1 Z1y) l1),(7,rd (Z0 .i64) (l1.length:Int)),(8,rd (Z0 .i64) (i6:Int))],[(1001,Zg v5 3 (Z0 .i64) l4)])) (l1,0,[],(.slice none 0 0)) ⟨Sfx.start _,h⟩ (FX rfl) ?_
 rintro ⟨l7,i6,l4,v5⟩ ⟨hsf1,h⟩
 dsimp only at hsf1 h ⊢
 cases l7 with
 | nil=>
  unfold Zkq at h
  refine SR<|Ac (Zj rfl rfl (vt rfl) (vt rfl)) rfl<|Nl<|sq<|Cn rfl (fun hc=>absurd (of_decide_eq_true hc) hsf1.nil) (fun hc=>?_)
  refine xt<|SR<|Mw rfl<|Aw rfl<|Nl<|AW.freezes [2,3,18] 1001 rfl ⟨rfl,rfl,rfl,trivial⟩ rfl<|rt ?_
  cases h;exact Zd Tryz.results182 rfl (Z5 rfl)
 | cons x8 l7=>
  unfold Zkq at h
  refine SR<|Ac (Zj rfl rfl (vt rfl) (vt rfl)) rfl<|Nl<|sq<|Cn rfl (fun hc=>?_) (fun hc=>absurd hsf1.cons (of_decide_eq_false hc))
  have hlti6:=of_decide_eq_true hc
  refine sk<|sq<|bk<|SR<|Ac (Z0j rfl rfl Z6z (vt rfl) (vt rfl) hsf1.lget) rfl<|Lp1 Zvk rfl<|Cv rfl (Zm 6 rfl rfl Y0a) fun g9=>Zf Zvk 6 rfl<|Nl ?_
  obtain ⟨x10,hx10,l11,hl11,h⟩:=bs2 h
  refine Rg<|Mw rfl<|Zk Zfw Zle rfl<|Ld Z34 6 rfl<|Cl [14] (Y66 _ _ hx10) Y5n rfl<|Cv rfl (Z2f 1001 hl11 rfl rfl Zik (vt rfl) rfl (vt rfl)) fun v12=>Aw rfl<|Nl<|Rg<|Ac (Z13 (t:=7) rfl rfl (vt rfl) (vk rfl) (vt rfl) hlti6) rfl<|Md rfl<|Nl ?_
  exact ⟨(_,_,_,_),Nat.lt_succ_self _,⟨hsf1.next,h⟩,FX rfl⟩
def Zhq (x2:(List Group))(R_group_walk_from:((List Group)→(List (Int×Int))→Int→Option (List (Int×Int)))):(List Int)→Nat→(List (Int×Int))→Option (List (Int×Int))
 | [],i9,m8=>some m8
 | x11::l10,i9,m8=>(Zj3 x2 x11).bind fun x12=>(bif ((decide (x12<0))||(decide ((Z0p m8 x12)>0))) then (Zhq x2 R_group_walk_from l10) (i9+1) m8 else (R_group_walk_from x2 (Z20 m8 x12 (IntKind.i64.wrap ((Z0p m8 x12)+1))) x12).bind fun m13=>(Zhq x2 R_group_walk_from l10) (i9+1) m13)
def Zuc (R_group_walk_from:((List Group)→(List (Int×Int))→Int→Option (List (Int×Int))))(x2:(List Group))(m3:(List (Int×Int)))(a4:Int):Option (List (Int×Int)):=
 (lget x2 a4).bind fun x5=>(Zur x5.Buckets).bind fun x6=>Zhq x2 R_group_walk_from x6 0 m3
theorem Yr7 (R_group_walk_from:((List Group)→(List (Int×Int))→Int→Option (List (Int×Int))))(hR_group_walk_from:∀(g1:Nat) (x2:(List Group)) (m3:(List (Int×Int))) (a4:Int) (r:(List (Int×Int))),R_group_walk_from x2 m3 a4=some r→Con Tryz.prog 176 [rp Z77 (⟨x2,(.map (some g1))⟩:group_walk_o1),rd (Z0 .i64) a4] (Z2h g1 (Z0 .i64) m3) (fun _:Unit=>top) (fun _=>Z2h g1 (Z0 .i64) r))(g1:Nat)(x2:(List Group))(m3:(List (Int×Int)))(a4:Int)(r:(List (Int×Int)))(h:Zuc R_group_walk_from x2 m3 a4=some r):Con Tryz.prog 176 [rp Z77 (⟨x2,(.map (some g1))⟩:group_walk_o1),rd (Z0 .i64) a4] (Z2h g1 (Z0 .i64) m3) (fun _:Unit=>top) (fun _=>Z2h g1 (Z0 .i64) r):=by
 refine Con.intro Tryz.func176 rfl Tryz.ntmps176 rfl fun w H X Z=>?_
 unfold Zuc at h
 refine AW.scope<|sq<|AW.label<|sq ?_
 obtain ⟨x5,hx5,x6,hx6,h⟩:=bs2 h
 refine Rg<|Mr rfl<|Ac (Z39 rfl rfl (vt rfl)) rfl<|Fp lgroup_walk_o1_0 Y33 rfl<|Lp1 Zdk rfl<|Md rfl<|Ac (Z0j rfl rfl Z5b (vt rfl) (vt rfl) hx5) rfl<|Fp Z79 Z7v rfl<|Lp1 Z85 rfl<|Cl [14] (Ys1 _ _ hx6) Yie rfl<|Ac (Z0i rfl rfl Z15 (vt rfl)) rfl<|Mk rfl<|Nl<|bk<|LG (d:=[]) (ν:=(List Int)×Nat×(List (Int×Int))) (fun (l10,i9,m8)=>(Sfx x6 i9 l10∧Zhq x2 R_group_walk_from l10 i9 m8=some r,l10.length,[(0,rp Z77 (⟨x2,(.map (some g1))⟩:group_walk_o1)),(15,rd (Z1 (Z0 .i64)) x6),(16,rd (Z0 .i64) (x6.length:Int)),(17,rd (Z0 .i64) (i9:Int))],[(0,Z2h g1 (Z0 .i64) m8)])) (x6,0,m3) ⟨Sfx.start _,h⟩ (FX rfl) ?_
 rintro ⟨l10,i9,m8⟩ ⟨hsf1,h⟩
 dsimp only at hsf1 h ⊢
 cases l10 with
 | nil=>
  unfold Zhq at h
  refine SR<|Ac (Zj rfl rfl (vt rfl) (vt rfl)) rfl<|Nl<|sq<|Cn rfl (fun hc=>absurd (of_decide_eq_true hc) hsf1.nil) (fun hc=>?_)
  refine xt ?_
  cases h;exact Z2e (i:=0) Tryz.results176 rfl rfl
 | cons x11 l10=>
  unfold Zhq at h
  refine SR<|Ac (Zj rfl rfl (vt rfl) (vt rfl)) rfl<|Nl<|sq<|Cn rfl (fun hc=>?_) (fun hc=>absurd hsf1.cons (of_decide_eq_false hc))
  have hlti9:=of_decide_eq_true hc
  refine sk<|sq<|bk<|SR<|Ac (Z0j rfl rfl Z15 (vt rfl) (vt rfl) hsf1.lget) rfl<|Lp1 Zo rfl<|As rfl<|Nl<|sq ?_
  obtain ⟨x12,hx12,h⟩:=Z7 h
  refine Rg<|Mr rfl<|Ac (Z39 rfl rfl (vt rfl)) rfl<|Fp lgroup_walk_o1_0 Y33 rfl<|Lp1 Zdk rfl<|Md rfl<|Cl [24,25] (Zuv _ _ _ hx12) Zz1 rfl<|As rfl<|Nl<|sq<|SR<|Md rfl<|Ac (Zj rfl rfl (vt rfl) (vk rfl)) rfl<|Md rfl<|Gd rfl (fun hq=>Zq (A:=rp Z77 (⟨x2,(.map (some g1))⟩:group_walk_o1)) rfl rfl (vt rfl))<|Gd rfl (fun hq=>Z39 rfl rfl (Zi rfl hq))<|Gd rfl (fun hq=>Z7c lgroup_walk_o1_1 rfl rfl Zqr (Zi rfl hq))<|Gd rfl (fun hq=>Zp4 rfl rfl Zpr (Zi rfl hq))<|Gd rfl (fun hq=>Zq (A:=rd (Z0 .i64) x12) rfl rfl (vt rfl))<|Gd rfl (fun hq=>Zsx (i:=0) rfl rfl Zfq (Zi rfl hq) rfl (Zi rfl hq))<|Gd rfl (fun hq=>Z2s rfl rfl (Zi rfl hq) (vk rfl))<|Ac (Z4d rfl rfl (vt rfl) (vt rfl)) rfl<|Nl<|Cq rfl h (fun h=>?_) (fun h=>?_)
  ·refine xt<|Rg<|Ac (Z13 (t:=16) rfl rfl (vt rfl) (vk rfl) (vt rfl) hlti9) rfl<|Md rfl<|Nl ?_
   exact ⟨(_,_,_),Nat.lt_succ_self _,⟨hsf1.next,h⟩,FX rfl⟩
  ·refine sk<|SR<|Mr rfl<|Ac (Z39 rfl rfl (vt rfl)) rfl<|Fp lgroup_walk_o1_1 Zqr rfl<|Ac (Zp4 rfl rfl Zpr (vt rfl)) rfl<|Md rfl<|Ac (Zsx (i:=0) rfl rfl Zfq (vt rfl) rfl (vt rfl)) rfl<|Ac (Z05 rfl rfl (vt rfl) (vk rfl)) rfl<|Ac (Y9r (i:=0) rfl rfl Zfq (vt rfl) rfl (vt rfl) (vt rfl)) rfl<|Nl ?_
   obtain ⟨m13,hm13,h⟩:=Z7 h
   refine Rg<|Mr rfl<|Md rfl<|Cv rfl (Z1c 0 (xs:=[.tmp 45,.tmp 46]) (hR_group_walk_from _ _ _ _ _ hm13) Y5g rfl rfl ⟨(vt rfl),(vt rfl),trivial⟩ rfl) fun _u=>Nl<|Rg<|Ac (Z13 (t:=16) rfl rfl (vt rfl) (vk rfl) (vt rfl) hlti9) rfl<|Md rfl<|Nl ?_
   exact ⟨(_,_,_),Nat.lt_succ_self _,⟨hsf1.next,h⟩,FX rfl⟩
def Zsw:Nat→((List Group)→(List (Int×Int))→Int→Option (List (Int×Int)))
 | 0=>(fun _ _ _=>none)
 | n+1=>(Zuc (Zsw n))
theorem Y31:∀n:Nat,(∀(g1:Nat) (x2:(List Group)) (m3:(List (Int×Int))) (a4:Int) (r:(List (Int×Int))),(Zsw n) x2 m3 a4=some r→Con Tryz.prog 176 [rp Z77 (⟨x2,(.map (some g1))⟩:group_walk_o1),rd (Z0 .i64) a4] (Z2h g1 (Z0 .i64) m3) (fun _:Unit=>top) (fun _=>Z2h g1 (Z0 .i64) r))
 | 0=>(by intros;rename_i h;cases h)
 | n+1=>by
  have ih:=Y31 n
  exact (Yr7 (Zsw n) ih)
def Ya4 (x2:(List Group))(m3:(List (Int×Int)))(a4:Int):Option (List (Int×Int)):=(Zsw Z0v) x2 m3 a4
theorem Yip:∀(g1:Nat) (x2:(List Group)) (m3:(List (Int×Int))) (a4:Int) (r:(List (Int×Int))),Ya4 x2 m3 a4=some r→Con Tryz.prog 176 [rp Z77 (⟨x2,(.map (some g1))⟩:group_walk_o1),rd (Z0 .i64) a4] (Z2h g1 (Z0 .i64) m3) (fun _:Unit=>top) (fun _=>Z2h g1 (Z0 .i64) r):=Y31 Z0v
def Zw2 (m10:(List (Int×Int)))(go1:Nat→(List (Int×Int))→Option Bool)(i6:Nat):Nat→Option Bool
 | 0=>none
 | m12+1=>(omz m10).bind fun u13=>go1 (i6+1) m10
def Zhc (l1:(List Group)):(List Group)→Nat→(List (Int×Int))→Option Bool
 | [],i6,m5=>some false
 | x8::l7,i6,m5=>(Ya4 l1 [] (i6:Int)).bind fun m10=>Zw2 m10 (Zhc l1 l7) i6 Z0v
def Zxn (l1:(List Group)):Option Bool:=
 Zhc l1 l1 0 []
theorem Yv3:Q1 Tryz.prog 100 (rd (Z1 Z0e)) (rd Z6) Zxn:=fun l1 r h=>I0 Tryz.func100 rfl Tryz.ntmps100 rfl fun w H Z=>by
 unfold Zxn at h
 refine SR<|Ab rfl<|Nl<|SR<|Md rfl<|Cv rfl (Zwj (Z0 .i64) 9 rfl rfl) fun g2=>Ac (opb (⟨l1,(.map (some g2))⟩:group_walk_o1) Yup rfl Ymi (pc Ykq (vt rfl)<|pc Yif (vkr (vt rfl) rfl)<|pn rfl)) rfl<|Cv rfl (Zs 11 rfl rfl (vt rfl)) fun g3=>AOps.freezeB 10 11 rfl rfl rfl<|Ac (Zv (A:=rp Z77 (⟨l1,(.map (some g2))⟩:group_walk_o1)) rfl rfl (vt rfl)) rfl<|Nl<|sq<|SR<|Md rfl<|Ac (Z0i rfl rfl Z5b (vt rfl)) rfl<|Mk rfl<|Nl<|bk<|LG (d:=[]) (ν:=(List Group)×Nat×(List (Int×Int))) (fun (l7,i6,m5)=>(Sfx l1 i6 l7∧Zhc l1 l7 i6 m5=some r,l7.length,[(0,rd (Z1 Z0e) l1),(3,rp Z77 (⟨l1,(.map (some g2))⟩:group_walk_o1)),(11,rd (Z1 Z0e) l1),(12,rd (Z0 .i64) (l1.length:Int)),(13,rd (Z0 .i64) (i6:Int))],[(9,Z2h g2 (Z0 .i64) m5)])) (l1,0,[]) ⟨Sfx.start _,h⟩ (FX rfl) ?_
 rintro ⟨l7,i6,m5⟩ ⟨hsf1,h⟩
 dsimp only at hsf1 h ⊢
 cases l7 with
 | nil=>
  unfold Zhc at h
  refine SR<|Ac (Zj rfl rfl (vt rfl) (vt rfl)) rfl<|Nl<|sq<|Cn rfl (fun hc=>absurd (of_decide_eq_true hc) hsf1.nil) (fun hc=>?_)
  refine xt<|SR<|Ab rfl<|Nl<|rt ?_
  cases h;exact Zd Tryz.results100 rfl (Z5 rfl)
 | cons x8 l7=>
  unfold Zhc at h
  refine SR<|Ac (Zj rfl rfl (vt rfl) (vt rfl)) rfl<|Nl<|sq<|Cn rfl (fun hc=>?_) (fun hc=>absurd hsf1.cons (of_decide_eq_false hc))
  have hlti6:=of_decide_eq_true hc
  refine sk<|sq<|bk<|SR<|Md rfl<|Ac (Z0j rfl rfl Z5b (vt rfl) (vt rfl) hsf1.lget) rfl<|Lp1 Z7g rfl<|Cv rfl (Zm 6 rfl rfl Zd7) fun g9=>As rfl<|Zf Z7g 6 rfl<|Nl<|SR<|Mr rfl<|Ac (Z39 rfl rfl (vt rfl)) rfl<|Fp lgroup_walk_o1_1 Zqr rfl<|Ac (Zp4 rfl rfl Zpr (vt rfl)) rfl<|Ac (Ylv (i:=9) rfl rfl Yn0 (vt rfl) rfl) rfl<|Nl<|sq ?_
  obtain ⟨m10,hm10,h⟩:=Z7 h
  refine Rg<|Mr rfl<|Md rfl<|Cv rfl (Z1c 9 (xs:=[.tmp 22,.tmp 23]) (Yip _ _ _ _ _ hm10) Y5g rfl rfl ⟨(vt rfl),(vt rfl),trivial⟩ rfl) fun _u=>Nl<|SR<|Mr rfl<|Ac (Z39 rfl rfl (vt rfl)) rfl<|Fp lgroup_walk_o1_1 Zqr rfl<|Ac (Zp4 rfl rfl Zpr (vt rfl)) rfl<|Cv rfl (Ytk (i:=9) 30 rfl rfl Zfq (vt rfl) rfl rfl) fun g11=>Nl<|bk<|LG (d:=[]) (ν:=Nat) (fun m12=>(True∧Zw2 m10 (Zhc l1 l7) i6 m12=some r,m12,[(0,rd (Z1 Z0e) l1),(3,rp Z77 (⟨l1,(.map (some g2))⟩:group_walk_o1)),(5,Zb g9 (Lens.id Z0e)),(11,rd (Z1 Z0e) l1),(12,rd (Z0 .i64) (l1.length:Int)),(13,rd (Z0 .i64) (i6:Int)),(29,Zc (.pointer (some ⟨g11,0,none⟩)))],[(6,Zh g9 71 Z0e x8),(9,Z2h g2 (Z0 .i64) m10),(30,ItR g11 g2)])) Z0v ⟨trivial,h⟩ (FX rfl) ?_
  rintro m12 ⟨hsf2,h⟩
  dsimp only at h ⊢
  cases m12 with
  | zero=>cases h
  | succ m12=>
   unfold Zw2 at h
   refine sq ?_
   obtain ⟨u13,hu13,h⟩:=Z7 h
   refine Rg<|Ac (Yqz (i:=9) (j:=30) (Yur hu13) rfl rfl (vt rfl) rfl rfl) rfl<|Ac (Yv7 rfl rfl (vt rfl)) rfl<|Nl<|sq<|Cn rfl (fun hc=>by cases hc) (fun hc=>?_)
   refine xt<|Rg<|Ac (Z13 (t:=12) rfl rfl (vt rfl) (vk rfl) (vt rfl) hlti6) rfl<|Md rfl<|Nl ?_
   exact ⟨(_,_,_),Nat.lt_succ_self _,⟨hsf1.next,h⟩,FX rfl⟩
def Zuj (i1:Int):Option Bool:=
 some ((decide (i1≥0))&&(decide (i1≤4294967040)))
theorem Ysy:Q1 Tryz.prog 101 (rd (Z0 .i64)) (rd Z6) Zuj:=fun i1 r h=>I0 Tryz.func101 rfl Tryz.ntmps101 rfl fun w H Z=>by
 unfold Zuj at h
 refine SR<|Ab rfl<|Nl<|SR<|Md rfl<|Ac (Z45 rfl rfl (vt rfl) (vk rfl)) rfl<|Md rfl<|Gd rfl (fun hq=>Zq (A:=rd (Z0 .i64) i1) rfl rfl (vt rfl))<|Gd rfl (fun hq=>Z68 rfl rfl (Zi rfl hq) (vk rfl))<|Ac (Z1m rfl rfl (vt rfl) (vt rfl)) rfl<|As rfl<|Nl<|rt ?_
 cases h;exact Zd Tryz.results101 rfl (Z5 rfl)
end Go.Proofs.YtinplddjjalohaaGreatDoor.W
set_option maxHeartbeats 1000000
set_option maxRecDepth 4000
namespace Go.Proofs.YtinplddjjalohaaGreatDoor.W
open Go Go.Wb
theorem Yyt:Ent Tryz.prog 100:=Ent.mk Tryz.func100 rfl rfl
theorem Yqw:Ent Tryz.prog 101:=Ent.mk Tryz.func101 rfl rfl
theorem Ydx:Ent Tryz.prog 103:=Ent.mk Tryz.func103 rfl rfl
theorem Ypw:Ent Tryz.prog 104:=Ent.mk Tryz.func104 rfl rfl
theorem Yxq:Ent Tryz.prog 159:=Ent.mk Tryz.func159 rfl rfl
theorem e46:Ent Tryz.prog 46:=Ent.mk Tryz.func46 rfl rfl
theorem Ybd:Ent Tryz.prog 199:=Ent.mk Tryz.func199 rfl rfl
theorem Ykb:Ent Tryz.prog 116:=Ent.mk Tryz.func116 rfl rfl
theorem Ysk:Ent Tryz.prog 117:=Ent.mk Tryz.func117 rfl rfl
theorem Ye4:Ent Tryz.prog 118:=Ent.mk Tryz.func118 rfl rfl
def Yak (k1:Int)(l2:(List Bucket)):Option Fault:=none
theorem Ywr (k1:Int)(l2:(List Bucket))(r:Fault)(h:Yak k1 l2=some r):PCon Tryz.prog 103 [rd (Z0 .i64) k1,rd (Z1 Z1y) l2] (rd Z3u r):=by cases h
def Y25 (l1:(List Group))(b2:(List Bucket)):Option Bool:=none
theorem Ykm (l1:(List Group))(b2:(List Bucket))(r:Bool)(h:Y25 l1 b2=some r):PCon Tryz.prog 104 [rd (Z1 Z0e) l1,rd (Z1 Z1y) b2] (rd Z6 r):=by cases h
def Zmt (l1:(List Group)):(List Group)→Nat→Option Bool
 | [],i3=>some true
 | x5::l4,i3=>(Zuj x5.ID).bind fun x7=>(opt (!(!x7)) (Zj3 l1 x5.ID)).bind fun x8=>(opt (!((!x7)||(decide (x8≠(i3:Int))))) (Yak x5.Kind x5.Buckets)).bind fun x9=>(opt (!(((!x7)||(decide (x8≠(i3:Int))))||x9.Is)) (Y25 l1 x5.Buckets)).bind fun x10=>(bif ((((!x7)||(decide (x8≠(i3:Int))))||x9.Is)||(!x10)) then some false else (Zmt l1 l4) (i3+1))
def Zy2 (l1:(List Group)):Option Bool:=
 (opt (!(decide ((l1.length:Int)>8))) (Zxn l1)).bind fun x2=>(bif ((decide ((l1.length:Int)>8))||x2) then some false else Zmt l1 l1 0)
theorem Ygh:Q1 Tryz.prog 46 (rd (Z1 Z0e)) (rd Z6) Zy2:=fun l1 r h=>I0 Tryz.func46 rfl Tryz.ntmps46 rfl fun w H Z=>by
 unfold Zy2 at h
 refine SR<|Ab rfl<|Nl<|sq<|sq ?_
 obtain ⟨x2,hx2,h⟩:=Z7 h
 refine Rg<|Md rfl<|Ac (Z0i rfl rfl Z5b (vt rfl)) rfl<|Ac (Z2s rfl rfl (vt rfl) (vk rfl)) rfl<|Md rfl<|Gd rfl (fun hq=>Zq (A:=rd (Z1 Z0e) l1) rfl rfl (vt rfl))<|Gd rfl (fun hq=>Z0g (xs:=[.tmp 9]) (Yv3 _ _ (Zdm hx2 hq)) Yyt rfl rfl ⟨Zi rfl hq,trivial⟩)<|Ac (Z4d rfl rfl (vt rfl) (vt rfl)) rfl<|Nl<|Cq rfl h (fun h=>?_) (fun h=>?_)
 ·refine SR<|Ab rfl<|Nl<|rt ?_
  cases h;exact Zd Tryz.results46 rfl (Z5 rfl)
 ·refine sk<|sq<|SR<|Md rfl<|Ac (Z0i rfl rfl Z5b (vt rfl)) rfl<|Mk rfl<|Nl<|bk<|LG (d:=[]) (ν:=(List Group)×Nat) (fun (l4,i3)=>(Sfx l1 i3 l4∧Zmt l1 l4 i3=some r,l4.length,[(0,rd (Z1 Z0e) l1),(12,rd (Z1 Z0e) l1),(13,rd (Z0 .i64) (l1.length:Int)),(14,rd (Z0 .i64) (i3:Int))],[])) (l1,0) ⟨Sfx.start _,h⟩ (FX rfl) ?_
  rintro ⟨l4,i3⟩ ⟨hsf1,h⟩
  dsimp only at hsf1 h ⊢
  cases l4 with
  | nil=>
   unfold Zmt at h
   refine SR<|Ac (Zj rfl rfl (vt rfl) (vt rfl)) rfl<|Nl<|sq<|Cn rfl (fun hc=>absurd (of_decide_eq_true hc) hsf1.nil) (fun hc=>?_)
   refine xt<|SR<|Ab rfl<|Nl<|rt ?_
   cases h;exact Zd Tryz.results46 rfl (Z5 rfl)
  | cons x5 l4=>
   unfold Zmt at h
   refine SR<|Ac (Zj rfl rfl (vt rfl) (vt rfl)) rfl<|Nl<|sq<|Cn rfl (fun hc=>?_) (fun hc=>absurd hsf1.cons (of_decide_eq_false hc))
   have hlti3:=of_decide_eq_true hc
   refine sk<|sq<|bk<|SR<|Md rfl<|Ac (Z0j rfl rfl Z5b (vt rfl) (vt rfl) hsf1.lget) rfl<|Lp1 Z7g rfl<|Cv rfl (Zm 5 rfl rfl Zd7) fun g6=>As rfl<|Zf Z7g 5 rfl<|Nl<|sq ?_
   obtain ⟨x7,hx7,x8,hx8,x9,hx9,x10,hx10,h⟩:=bs4 h
   refine Rg<|Zk lGroup_0 Zzd rfl<|Ld Zo 5 rfl<|Cl [20] (Ysy _ _ hx7) Yqw rfl<|Ac (Z0z rfl rfl (vt rfl)) rfl<|Md rfl<|Gd rfl (fun hq=>Zq (A:=rd (Z1 Z0e) l1) rfl rfl (vt rfl))<|Gd rfl (fun hq=>Z2v lGroup_0 rfl rfl Zzd (vt rfl))<|Gd rfl (fun hq=>Z1z rfl rfl Zo (Zi rfl hq) (i:=5) rfl)<|Gd rfl (fun hq=>Z0g (xs:=[.tmp 24,.tmp 26]) (Zuv _ _ _ (Zdm hx8 hq)) Zz1 rfl rfl ⟨Zi rfl hq,Zi rfl hq,trivial⟩)<|Gd rfl (fun hq=>Zq (A:=rd (Z0 .i64) (i3:Int)) rfl rfl (vt rfl))<|Gd rfl (fun hq=>Z6f rfl rfl (Zi rfl hq) (Zi rfl hq))<|Ac (Z4d rfl rfl (vt rfl) (vt rfl)) rfl<|Md rfl<|Gd rfl (fun hq=>Z2v Zun rfl rfl Y91 (vt rfl))<|Gd rfl (fun hq=>Z1z rfl rfl Zo (Zi rfl hq) (i:=5) rfl)<|Gd rfl (fun hq=>Z2v Z79 rfl rfl Z7v (vt rfl))<|Gd rfl (fun hq=>Z1z rfl rfl Z85 (Zi rfl hq) (i:=5) rfl)<|Gd rfl (fun hq=>Z0g (xs:=[.tmp 33,.tmp 35]) (Ywr _ _ _ (Zdm hx9 hq)) Ydx rfl rfl ⟨Zi rfl hq,Zi rfl hq,trivial⟩)<|Gd rfl (fun hq=>Zgz lFault_0 rfl rfl Zqi Zrf ty4 rfl (Zi rfl hq))<|Ac (Z4d rfl rfl (vt rfl) (vt rfl)) rfl<|Md rfl<|Gd rfl (fun hq=>Zq (A:=rd (Z1 Z0e) l1) rfl rfl (vt rfl))<|Gd rfl (fun hq=>Z2v Z79 rfl rfl Z7v (vt rfl))<|Gd rfl (fun hq=>Z1z rfl rfl Z85 (Zi rfl hq) (i:=5) rfl)<|Gd rfl (fun hq=>Z0g (xs:=[.tmp 40,.tmp 42]) (Ykm _ _ _ (Zdm hx10 hq)) Ypw rfl rfl ⟨Zi rfl hq,Zi rfl hq,trivial⟩)<|Gd rfl (fun hq=>Z0z rfl rfl (Zi rfl hq))<|Ac (Z4d rfl rfl (vt rfl) (vt rfl)) rfl<|Nl<|Cq rfl h (fun h=>?_) (fun h=>?_)
   ·refine SR<|Ab rfl<|Nl<|rt ?_
    cases h;exact Zd Tryz.results46 rfl (Z5 rfl)
   ·refine sk<|Rg<|Ac (Z13 (t:=13) rfl rfl (vt rfl) (vk rfl) (vt rfl) hlti3) rfl<|Md rfl<|Nl ?_
    exact ⟨(_,_),Nat.lt_succ_self _,⟨hsf1.next,h⟩,FX rfl⟩
def Zz8 (l1:(List Group)):Option Err:=
 (Zy2 l1).bind fun x2=>(opt (!(!x2)) (Zh1 l1 Zoo)).bind fun x3=>(bif ((!x2)||x3) then some (Err.e85 (⟨(⟨(-1),(-1)⟩:Place)⟩:audit_wrong)) else some Err.no)
theorem Yv2:Q1 Tryz.prog 83 (rd (Z1 Z0e)) (rd Z59) Zz8:=fun l1 r h=>I0 Tryz.func83 rfl Tryz.ntmps83 rfl fun w H Z=>by
 unfold Zz8 at h
 refine SR<|Ac (Zv (A:=rd Z59 Err.no) rfl rfl (vne rfl)) rfl<|Nl<|SR<|Ac (Zv rfl rfl (vf1 Yxq Yh2)) rfl<|Nl<|sq<|sq ?_
 obtain ⟨x2,hx2,x3,hx3,h⟩:=bs2 h
 refine Rg<|Md rfl<|Cl [4] (Ygh _ _ hx2) e46 rfl<|Ac (Z0z rfl rfl (vt rfl)) rfl<|Md rfl<|Gd rfl (fun hq=>Zq (A:=rd (Z1 Z0e) l1) rfl rfl (vt rfl))<|Gd rfl (fun hq=>Zq (A:=fn1 Tryz.prog Z0e Z6 Zoo) rfl rfl (vt rfl))<|Gd rfl (fun hq=>Z0g (xs:=[.tmp 8,.tmp 9]) (Y7k _ _ _ (Zdm hx3 hq)) e47 rfl rfl ⟨Zi rfl hq,Zi rfl hq,trivial⟩)<|Ac (Z4d rfl rfl (vt rfl) (vt rfl)) rfl<|Nl<|Cq rfl h (fun h=>?_) (fun h=>?_)
 ·refine SR<|Ac (opb (⟨(-1),(-1)⟩:Place) Z4u rfl Z98 (pc Zcn (vk rfl)<|pc Zdb (vk rfl)<|pn rfl)) rfl<|Ac (opb (⟨(⟨(-1),(-1)⟩:Place)⟩:audit_wrong) Zr6 rfl Zyq (pc Ztv (vt rfl)<|pn rfl)) rfl<|Ac (Zr9 (d:=Zi0) (Err.e85 (⟨(⟨(-1),(-1)⟩:Place)⟩:audit_wrong)) rfl rfl Zzq rfl (vt rfl)) rfl<|As rfl<|Nl<|rt ?_
  cases h;exact Zd Tryz.results83 rfl (Z5 rfl)
 ·refine sk<|SR<|Ac (Zv (A:=rd Z59 Err.no) rfl rfl (vne rfl)) rfl<|Nl<|rt ?_
  cases h;exact Zd Tryz.results83 rfl (Z5 rfl)
def Zs0 (x1:Flow):Option flow_place:=
 (Ze5 x1).bind fun x4=>some (⟨x1.Priority,x4⟩:flow_place)
theorem Y6w:Q1 Tryz.prog 199 (rd Z08) (rd Zcq) Zs0:=fun x1 r h=>I0 Tryz.func199 rfl Tryz.ntmps199 rfl fun w H Z=>by
 unfold Zs0 at h
 refine SR<|Cv rfl (Zs 2 rfl rfl (vt rfl)) fun g2=>Cv rfl (Zm 3 rfl rfl Y4o) fun g3=>Nl<|sq ?_
 obtain ⟨x4,hx4,h⟩:=Z7 h
 refine AR Z00 (by kernel_rfl)<|SFd lFlow_1 Zbf rfl<|Zp Zo 2 rfl<|Zp Z2n 2 rfl<|SCl [5] (Zx1 _ _ hx4) Zus rfl<|Sd (lo [4,6] [] rfl fun S hs hr=>opb (⟨x1.Priority,x4⟩:flow_place) Y4o rfl Yqx (pc Yd5 (vh hs 4 rfl rfl)<|pc Yun (vh hs 6 rfl rfl)<|pn rfl))<|SSt Y3j 3 rfl<|Sn<|rt ?_
 cases h;exact Zd Tryz.results199 rfl (Zx rfl (i:=3) rfl Y3j)
def Ztl (a1:Flow)(b2:Flow):Option Bool:=
 (Zs0 a1).bind fun x5=>(Zs0 b2).bind fun x6=>some (decide (x5=x6))
theorem Yf1:Q2 Tryz.prog 116 (rd Z08) (rd Z08) (rd Z6) Ztl:=fun a1 b2 r h=>I0 Tryz.func116 rfl Tryz.ntmps116 rfl fun w H Z=>by
 unfold Ztl at h
 refine SR<|Cv rfl (Zs 3 rfl rfl (vt rfl)) fun g3=>Cv rfl (Zs 4 rfl rfl (vt rfl)) fun g4=>Ab rfl<|Nl<|sq ?_
 obtain ⟨x5,hx5,x6,hx6,h⟩:=bs2 h
 refine AR Z00 (by kernel_rfl)<|Zp Z2n 3 rfl<|SCl [5] (Y6w _ _ hx5) Ybd rfl<|Zp Z2n 4 rfl<|SCl [7] (Y6w _ _ hx6) Ybd rfl<|Sd (lo [6,8] [] rfl fun S hs hr=>Zr0 rfl rfl Yhw (by decide) rfl Yfa (vh hs 6 rfl rfl) (vh hs 8 rfl rfl))<|SAs rfl<|Sn<|rt ?_
 cases h;exact Zd Tryz.results116 rfl (Z5 rfl)
def Zvx (x1:Int):Option Bool:=
 some (decide ((Zgo .and .i64 x1 2)≠0))
theorem Ypz:Q1 Tryz.prog 117 (rd (Z0 .i64)) (rd Z6) Zvx:=fun x1 r h=>I0 Tryz.func117 rfl Tryz.ntmps117 rfl fun w H Z=>by
 unfold Zvx at h
 refine SR<|Ab rfl<|Nl<|SR<|Md rfl<|Ac (Yaa rfl rfl (vt rfl) (vk rfl)) rfl<|Ac (Z6f rfl rfl (vt rfl) (vk rfl)) rfl<|As rfl<|Nl<|rt ?_
 cases h;exact Zd Tryz.results117 rfl (Z5 rfl)
def Ybm (a1:Flow)(b2:Flow):Option Bool:=none
theorem Ykg (a1:Flow)(b2:Flow)(r:Bool)(h:Ybm a1 b2=some r):PCon Tryz.prog 118 [rd Z08 a1,rd Z08 b2] (rd Z6 r):=by cases h
def Zk0 (go1:Nat→Option Bool)(i2:Nat)(x4:Flow):(List Flow)→Nat→Option Bool
 | [],i7=>go1 (i2+1)
 | x9::l8,i7=>(Ztl x4 x9).bind fun x11=>(opt (!x11) (Zvx x4.Flags)).bind fun x12=>(opt ((x11==false)&&(x12==true)) (Ybm x4 x9)).bind fun x13=>(bif (x11||(x12&&x13)) then some false else (Zk0 go1 i2 x4 l8) (i7+1))
def Zgq (t1:(List Flow)):(List Flow)→Nat→Option Bool
 | [],i2=>some true
 | x4::l3,i2=>(Z4j t1 (i2:Int)).bind fun s6=>Zk0 (Zgq t1 l3) i2 x4 s6 0
def Zw3 (t1:(List Flow)):Option Bool:=
 (bif (decide ((t1.length:Int)>8)) then some false else Zgq t1 t1 0)
theorem Yy5:Q1 Tryz.prog 52 (rd (Z1 Z08)) (rd Z6) Zw3:=fun t1 r h=>I0 Tryz.func52 rfl Tryz.ntmps52 rfl fun w H Z=>by
 unfold Zw3 at h
 refine SR<|Ab rfl<|Nl<|sq<|SR<|Md rfl<|Ac (Z0i rfl rfl Z2q (vt rfl)) rfl<|Ac (Z2s rfl rfl (vt rfl) (vk rfl)) rfl<|Nl<|Cq rfl h (fun h=>?_) (fun h=>?_)
 ·refine SR<|Ab rfl<|Nl<|rt ?_
  cases h;exact Zd Tryz.results52 rfl (Z5 rfl)
 ·refine sk<|sq<|SR<|Md rfl<|Ac (Z0i rfl rfl Z2q (vt rfl)) rfl<|Mk rfl<|Nl<|bk<|LG (d:=[]) (ν:=(List Flow)×Nat) (fun (l3,i2)=>(Sfx t1 i2 l3∧Zgq t1 l3 i2=some r,l3.length,[(0,rd (Z1 Z08) t1),(10,rd (Z1 Z08) t1),(11,rd (Z0 .i64) (t1.length:Int)),(12,rd (Z0 .i64) (i2:Int))],[])) (t1,0) ⟨Sfx.start _,h⟩ (FX rfl) ?_
  rintro ⟨l3,i2⟩ ⟨hsf1,h⟩
  dsimp only at hsf1 h ⊢
  cases l3 with
  | nil=>
   unfold Zgq at h
   refine SR<|Ac (Zj rfl rfl (vt rfl) (vt rfl)) rfl<|Nl<|sq<|Cn rfl (fun hc=>absurd (of_decide_eq_true hc) hsf1.nil) (fun hc=>?_)
   refine xt<|SR<|Ab rfl<|Nl<|rt ?_
   cases h;exact Zd Tryz.results52 rfl (Z5 rfl)
  | cons x4 l3=>
   unfold Zgq at h
   refine SR<|Ac (Zj rfl rfl (vt rfl) (vt rfl)) rfl<|Nl<|sq<|Cn rfl (fun hc=>?_) (fun hc=>absurd hsf1.cons (of_decide_eq_false hc))
   have hlti2:=of_decide_eq_true hc
   refine sk<|sq<|bk<|SR<|Md rfl<|Ac (Z0j rfl rfl Z2q (vt rfl) (vt rfl) hsf1.lget) rfl<|Lp1 Z2n rfl<|Cv rfl (Zm 5 rfl rfl Z7u) fun g5=>As rfl<|Zf Z2n 5 rfl<|Nl<|sq ?_
   obtain ⟨s6,hs6,h⟩:=Z7 h
   refine Rg<|Md rfl<|Md rfl<|Ac (Zs1 hs6 rfl rfl Z2q (vt rfl) (vt rfl)) rfl<|Ac (Z0i rfl rfl Z2q (vt rfl)) rfl<|Mk rfl<|Nl<|bk<|LG (d:=[]) (ν:=(List Flow)×Nat) (fun (l8,i7)=>(Sfx s6 i7 l8∧Zk0 (Zgq t1 l3) i2 x4 l8 i7=some r,l8.length,[(0,rd (Z1 Z08) t1),(4,Zb g5 (Lens.id Z08)),(10,rd (Z1 Z08) t1),(11,rd (Z0 .i64) (t1.length:Int)),(12,rd (Z0 .i64) (i2:Int)),(19,rd (Z1 Z08) s6),(20,rd (Z0 .i64) (s6.length:Int)),(21,rd (Z0 .i64) (i7:Int))],[(5,Zh g5 48 Z08 x4)])) (s6,0) ⟨Sfx.start _,h⟩ (FX rfl) ?_
   rintro ⟨l8,i7⟩ ⟨hsf2,h⟩
   dsimp only at hsf2 h ⊢
   cases l8 with
   | nil=>
    unfold Zk0 at h
    refine SR<|Ac (Zj rfl rfl (vt rfl) (vt rfl)) rfl<|Nl<|sq<|Cn rfl (fun hc=>absurd (of_decide_eq_true hc) hsf2.nil) (fun hc=>?_)
    refine xt<|Rg<|Ac (Z13 (t:=11) rfl rfl (vt rfl) (vk rfl) (vt rfl) hlti2) rfl<|Md rfl<|Nl ?_
    exact ⟨(_,_),Nat.lt_succ_self _,⟨hsf1.next,h⟩,FX rfl⟩
   | cons x9 l8=>
    unfold Zk0 at h
    refine SR<|Ac (Zj rfl rfl (vt rfl) (vt rfl)) rfl<|Nl<|sq<|Cn rfl (fun hc=>?_) (fun hc=>absurd hsf2.cons (of_decide_eq_false hc))
    have hlti7:=of_decide_eq_true hc
    refine sk<|sq<|bk<|SR<|Ac (Z0j rfl rfl Z2q (vt rfl) (vt rfl) hsf2.lget) rfl<|Lp1 Z2n rfl<|Cv rfl (Zm 7 rfl rfl Z7u) fun g10=>Zf Z2n 7 rfl<|Nl<|sq ?_
    obtain ⟨x11,hx11,x12,hx12,x13,hx13,h⟩:=bs3 h
    refine Rg<|Ld Z2n 5 rfl<|Ld Z2n 7 rfl<|Cl [25,26] (Yf1 _ _ _ hx11) Ykb rfl<|Md rfl<|Gd rfl (fun hq=>Z2v lFlow_4 rfl rfl Zz3 (vt rfl))<|Gd rfl (fun hq=>Z1z rfl rfl Zo (Zi rfl hq) (i:=5) rfl)<|Gd rfl (fun hq=>Z0g (xs:=[.tmp 30]) (Ypz _ _ (Zdm hx12 hq)) Ysk rfl rfl ⟨Zi rfl hq,trivial⟩)<|AOps.consG (OpG.guardX rfl rfl rfl rfl rfl fun hq=>Zq (A:=rd Z6 x12) rfl rfl (Zi rfl hq))<|AOps.consG (OpG.guardN rfl rfl rfl rfl rfl fun hq=>Z1z rfl rfl Z2n (vt rfl) (i:=5) rfl)<|AOps.consG (OpG.guardN rfl rfl rfl rfl rfl fun hq=>Z1z rfl rfl Z2n (vt rfl) (i:=7) rfl)<|AOps.consG (OpG.guardN rfl rfl rfl rfl rfl fun hq=>Z0g (xs:=[.tmp 33,.tmp 34]) (Ykg _ _ _ (Zu3 hx13 hq)) Ye4 rfl rfl ⟨Zi rfl hq,Zi rfl hq,trivial⟩)<|Gd rfl (fun hq=>Z1m rfl rfl (vgx rfl hq) (vgw rfl hq))<|Ac (Z4d rfl rfl (vt rfl) (vt rfl)) rfl<|Nl<|Cq rfl h (fun h=>?_) (fun h=>?_)
    ·refine SR<|Ab rfl<|Nl<|rt ?_
     cases h;exact Zd Tryz.results52 rfl (Z5 rfl)
    ·refine sk<|Rg<|Ac (Z13 (t:=20) rfl rfl (vt rfl) (vk rfl) (vt rfl) hlti7) rfl<|Md rfl<|Nl ?_
     exact ⟨(_,_),Nat.lt_succ_self _,⟨hsf2.next,h⟩,FX rfl⟩
end Go.Proofs.YtinplddjjalohaaGreatDoor.W
set_option maxHeartbeats 1000000
set_option maxRecDepth 4000
namespace Go.Proofs.YtinplddjjalohaaGreatDoor.W
open Go Go.Wb
theorem Ypj:Ent Tryz.prog 270:=Ent.mk Tryz.func270 rfl rfl
theorem Ymc:Ent Tryz.prog 193:=Ent.mk Tryz.func193 rfl rfl
theorem Ymd:Ent Tryz.prog 194:=Ent.mk Tryz.func194 rfl rfl
theorem Yde:Ent Tryz.prog 112:=Ent.mk Tryz.func112 rfl rfl
theorem Yd0:Ent Tryz.prog 184:=Ent.mk Tryz.func184 rfl rfl
def Zqk (s:List Oxm):Option (List Oxm):=Z0y [] s
theorem Yqc (s:List Oxm)(r:List Oxm)(h:Zqk s=some r):Con Tryz.prog 193 [rd (Z1 Z0k) s] emp (fun v=>Zc v) (fun v=>Zg v 217 Z0k r):=by
 refine Con.intro0 Tryz.func193 rfl Tryz.ntmps193 rfl fun w H Z=>?_
 unfold Zqk at h
 refine AW.newnil 1001 217 Z0k<|SR<|Ac (Zv (A:=Zc (.slice none 0 0)) rfl rfl vc) rfl<|Nl<|sq<|SR<|Md rfl<|Ct rfl (Zdv rfl rfl Z5f (vt rfl)) ?_
 rintro _ ⟨b,hb,rfl⟩
 refine Nl<|Cn rfl (fun hc=>?_) (fun hc=>?_)
 ·obtain rfl:=hb hc
  refine SR<|Ac (Zv (A:=Zc (.slice none 0 0)) rfl rfl vc) rfl<|Nl<|rt ?_
  obtain rfl:=(Z8k h).2
  exact Z49 (i:=1001) Tryz.results193 rfl rfl rfl
 ·refine sk<|SR<|Cv rfl (Z5g 1002 (ps:=[]) (l:=[]) rfl rfl Z5f Zsk rfl rfl rfl rfl) fun v1=>Md rfl<|Cv rfl (Z2f 1002 h rfl rfl Yvh (vt rfl) rfl (vt rfl)) fun v2=>Aw rfl<|Nl<|rt ?_
  exact Z49 (i:=1002) Tryz.results193 rfl rfl rfl
theorem Ydl (s:List Oxm)(r:List Oxm)(h:Zqk s=some r):PCon Tryz.prog 193 [rd (Z1 Z0k) s] (rd (Z1 Z0k) r):=PCon.of_row (Yqc s r h)
def Zxs (s:List Inst):Option (List Inst):=Z0y [] s
theorem Ykr (s:List Inst)(r:List Inst)(h:Zxs s=some r):Con Tryz.prog 270 [rd (Z1 Z0b) s] emp (fun v=>Zc v) (fun v=>Zg v 140 Z0b r):=by
 refine Con.intro0 Tryz.func270 rfl Tryz.ntmps270 rfl fun w H Z=>?_
 unfold Zxs at h
 refine AW.newnil 1001 140 Z0b<|SR<|Ac (Zv (A:=Zc (.slice none 0 0)) rfl rfl vc) rfl<|Nl<|sq<|SR<|Md rfl<|Ct rfl (Zdv rfl rfl Z50 (vt rfl)) ?_
 rintro _ ⟨b,hb,rfl⟩
 refine Nl<|Cn rfl (fun hc=>?_) (fun hc=>?_)
 ·obtain rfl:=hb hc
  refine SR<|Ac (Zv (A:=Zc (.slice none 0 0)) rfl rfl vc) rfl<|Nl<|rt ?_
  obtain rfl:=(Z8k h).2
  exact Z49 (i:=1001) Tryz.results270 rfl rfl rfl
 ·refine sk<|SR<|Cv rfl (Z5g 1002 (ps:=[]) (l:=[]) rfl rfl Z50 Z3k rfl rfl rfl rfl) fun v1=>Md rfl<|Cv rfl (Z2f 1002 h rfl rfl Ynn (vt rfl) rfl (vt rfl)) fun v2=>Aw rfl<|Nl<|rt ?_
  exact Z49 (i:=1002) Tryz.results270 rfl rfl rfl
def Zlj:Nat→Nat→(List Inst)→Option (List Inst)
 | 0,i6,l5=>some l5
 | m7+1,i6,l5=>(lget l5 (i6:Int)).bind fun x8=>(Z7l x8.Acts).bind fun x9=>(lget l5 (i6:Int)).bind fun x10=>(Zlj m7) (i6+1) (List.set l5 (i6:Int).toNat {x10 with Acts:=x9})
def Zwz (l1:(List Inst)):Option (List Inst):=
 (Zxs l1).bind fun x2=>Zlj ((x2.length:Int):Int).toNat 0 x2
theorem Ywa:Q1 Tryz.prog 194 (rd (Z1 Z0b)) (rd (Z1 Z0b)) Zwz:=fun l1 r h=>I0 Tryz.func194 rfl Tryz.ntmps194 rfl fun w H Z=>by
 unfold Zwz at h
 refine SR<|Ac (Zv (A:=rd (Z1 Z0b) []) rfl rfl Z1j) rfl<|Nl<|sq ?_
 obtain ⟨x2,hx2,h⟩:=Z7 h
 refine Rg<|Md rfl<|Cv rfl (Z1c 1001 (xs:=[.tmp 5]) (Ykr _ _ hx2) Ypj rfl rfl ⟨vt rfl,trivial⟩ rfl) fun v3=>Aw rfl<|Nl<|sq<|SR<|Mw rfl<|Ac (Z51 1001 rfl rfl Z50 (vt rfl) rfl) rfl<|Mk rfl<|Nl<|bk<|LG (d:=[]) (ν:=Nat×Nat×(List Inst)) (fun (m7,i6,l5)=>(Cnt (x2.length:Int) i6 m7∧Zlj m7 i6 l5=some r,m7,[(3,Zc v3),(8,rd (Z0 .i64) (x2.length:Int)),(9,rd (Z0 .i64) (i6:Int))],[(1001,Zg v3 140 Z0b l5)])) (((x2.length:Int):Int).toNat,0,x2) ⟨Cnt.start _,h⟩ (FX rfl) ?_
 rintro ⟨m7,i6,l5⟩ ⟨hsf1,h⟩
 dsimp only at hsf1 h ⊢
 cases m7 with
 | zero=>
  unfold Zlj at h
  refine SR<|Ac (Zj rfl rfl (vt rfl) (vt rfl)) rfl<|Nl<|sq<|Cn rfl (fun hc=>absurd (of_decide_eq_true hc) hsf1.zero) (fun hc=>?_)
  refine xt<|SR<|Mw rfl<|Aw rfl<|Nl<|AW.freezes [2,3,23] 1001 rfl ⟨rfl,rfl,rfl,trivial⟩ rfl<|rt ?_
  cases h;exact Zd Tryz.results194 rfl (Z5 rfl)
 | succ m7=>
  unfold Zlj at h
  refine SR<|Ac (Zj rfl rfl (vt rfl) (vt rfl)) rfl<|Nl<|sq<|Cn rfl (fun hc=>?_) (fun hc=>absurd hsf1.succ (of_decide_eq_false hc))
  have hlti6:=of_decide_eq_true hc
  refine sk<|sq<|bk<|SR<|Md rfl<|As rfl<|Nl ?_
  obtain ⟨x8,hx8,x9,hx9,x10,hx10,h⟩:=bs3 h
  refine Rg<|Mw rfl<|Md rfl<|Mw rfl<|Md rfl<|Ac (Z23 1001 rfl rfl Z50 (vt rfl) rfl (vt rfl) hx8) rfl<|Ac (Z9d Z6g rfl rfl Z7h (vt rfl)) rfl<|Ac (Z1r 1001 rfl rfl Z34 (vt rfl) rfl (Z0n hx8).2) rfl<|Cl [18] (Zze _ _ hx9) Zni rfl<|Ac (Z23 1001 rfl rfl Z50 (vt rfl) rfl (vt rfl) hx10) rfl<|Ac (Z9d Z6g rfl rfl Z7h (vt rfl)) rfl<|Ac (Z30 1001 rfl rfl Z34 (vt rfl) rfl (Z0n hx10).2 (vt rfl)) rfl<|Nl<|Rg<|Ac (Z13 (t:=8) rfl rfl (vt rfl) (vk rfl) (vt rfl) hlti6) rfl<|Md rfl<|Nl ?_
  exact ⟨(_,_,_),Nat.lt_succ_self _,⟨hsf1.next,h⟩,FX rfl⟩
def Zx4 (m1:FlowMod):Option Flow:=
 (Zqk m1.Match).bind fun x4=>(Zwz m1.Insts).bind fun x5=>some (⟨m1.Cookie,m1.Priority,m1.Idle,m1.Hard,m1.Flags,x4,x5⟩:Flow)
theorem Yoo:Q1 Tryz.prog 112 (rd Z3c) (rd Z08) Zx4:=fun m1 r h=>I0 Tryz.func112 rfl Tryz.ntmps112 rfl fun w H Z=>by
 unfold Zx4 at h
 refine SR<|Cv rfl (Zs 2 rfl rfl (vt rfl)) fun g2=>Cv rfl (Zm 3 rfl rfl Z7u) fun g3=>Nl<|sq ?_
 obtain ⟨x4,hx4,x5,hx5,h⟩:=bs2 h
 refine AR Z00 (by kernel_rfl)<|SFd lFlowMod_0 Yah rfl<|Zp Z1h 2 rfl<|SFd lFlowMod_6 Zv6 rfl<|Zp Zo 2 rfl<|SFd lFlowMod_4 Zyp rfl<|Zp Zo 2 rfl<|SFd lFlowMod_5 Ztk rfl<|Zp Zo 2 rfl<|SFd lFlowMod_10 Zok rfl<|Zp Zo 2 rfl<|SFd lFlowMod_11 Zwf rfl<|Zp Zca 2 rfl<|SCl [14] (Ydl _ _ hx4) Ymc rfl<|SFd lFlowMod_12 Zs7 rfl<|Zp Z69 2 rfl<|SCl [17] (Ywa _ _ hx5) Ymd rfl<|Sd (lo [4,6,8,10,12,15,18] [] rfl fun S hs hr=>opb (⟨m1.Cookie,m1.Priority,m1.Idle,m1.Hard,m1.Flags,x4,x5⟩:Flow) Z7u rfl Zup (pc Yom (vh hs 4 rfl rfl)<|pc Zv4 (vh hs 6 rfl rfl)<|pc Yi8 (vh hs 8 rfl rfl)<|pc Yev (vh hs 10 rfl rfl)<|pc Yj8 (vh hs 12 rfl rfl)<|pc Yog (vh hs 15 rfl rfl)<|pc Yw9 (vh hs 18 rfl rfl)<|pn rfl))<|SSt Z2n 3 rfl<|Sn<|rt ?_
 cases h;exact Zd Tryz.results112 rfl (Zx rfl (i:=3) rfl Z2n)
def Zwh (x1:Flow)(t2:Int):Option FlowMod:=
 (Zx4 (⟨x1.Cookie,0,0,0,x1.Idle,x1.Hard,x1.Priority,0,0,0,x1.Flags,x1.Match,x1.Insts⟩:FlowMod)).bind fun x5=>some {{{{{{{(⟨0,0,t2,0,0,0,0,4294967295,4294967295,4294967295,0,[],[]⟩:FlowMod) with Cookie:=x5.Cookie} with Priority:=x5.Priority} with Idle:=x5.Idle} with Hard:=x5.Hard} with Flags:=x5.Flags} with Match:=x5.Match} with Insts:=x5.Insts}
theorem Ye0:Q2 Tryz.prog 50 (rd Z08) (rd (Z0 .i64)) (rd Z3c) Zwh:=fun x1 t2 r h=>I0 Tryz.func50 rfl Tryz.ntmps50 rfl fun w H Z=>by
 unfold Zwh at h
 refine SR<|Cv rfl (Zs 3 rfl rfl (vt rfl)) fun g3=>Cv rfl (Zm 5 rfl rfl Zpu) fun g4=>Nl<|sq ?_
 obtain ⟨x5,hx5,h⟩:=Z7 h
 refine Rg<|Zk lFlow_0 Y0s rfl<|Ld Z1h 3 rfl<|Zk lFlow_1 Zbf rfl<|Ld Zo 3 rfl<|Zk lFlow_2 Y5q rfl<|Ld Zo 3 rfl<|Zk lFlow_3 Ycd rfl<|Ld Zo 3 rfl<|Zk lFlow_4 Zz3 rfl<|Ld Zo 3 rfl<|Zk lFlow_5 Zlc rfl<|Ld Zca 3 rfl<|Zk lFlow_6 Z8v rfl<|Ld Z69 3 rfl<|Ac (opb (⟨x1.Cookie,0,0,0,x1.Idle,x1.Hard,x1.Priority,0,0,0,x1.Flags,x1.Match,x1.Insts⟩:FlowMod) Zpu rfl Yc5 (pc Yj6 (vt rfl)<|pc Yk6 (vt rfl)<|pc Ywn (vt rfl)<|pc Yut (vt rfl)<|pc Yx0 (vt rfl)<|pc Yqn (vt rfl)<|pc Ycn (vt rfl)<|pn rfl)) rfl<|Cl [20] (Yoo _ _ hx5) Yde rfl<|Zf Z2n 3 rfl<|Nl<|SR<|Md rfl<|Ac (opb (⟨0,0,t2,0,0,0,0,4294967295,4294967295,4294967295,0,[],[]⟩:FlowMod) Zpu rfl Yc5 (pc Ytv (vt rfl)<|pc Yj7 (vk rfl)<|pc Ygf (vk rfl)<|pc Yd9 (vk rfl)<|pc Yh3 (vk rfl)<|pn rfl)) rfl<|Cv rfl (Zm 6 rfl rfl Zpu) fun g6=>Zf Zel 6 rfl<|Nl<|sq<|AR Z00 (by kernel_rfl)<|SFd lFlow_0 Y0s rfl<|Zp Z1h 3 rfl<|SFd lFlow_1 Zbf rfl<|Zp Zo 3 rfl<|SFd lFlow_2 Y5q rfl<|Zp Zo 3 rfl<|SFd lFlow_3 Ycd rfl<|Zp Zo 3 rfl<|SFd lFlow_4 Zz3 rfl<|Zp Zo 3 rfl<|SFd lFlowMod_0 Yah rfl<|SSt Z1h 6 rfl<|SFd lFlowMod_6 Zv6 rfl<|SSt Zo 6 rfl<|SFd lFlowMod_4 Zyp rfl<|SSt Zo 6 rfl<|SFd lFlowMod_5 Ztk rfl<|SSt Zo 6 rfl<|SFd lFlowMod_10 Zok rfl<|SSt Zo 6 rfl<|Sn<|sq<|AR Z00 (by kernel_rfl)<|SFd lFlow_5 Zlc rfl<|Zp Zca 3 rfl<|SFd lFlow_6 Z8v rfl<|Zp Z69 3 rfl<|SFd lFlowMod_11 Zwf rfl<|SSt Zca 6 rfl<|SFd lFlowMod_12 Zs7 rfl<|SSt Z69 6 rfl<|Sn<|SR<|Ld Zel 6 rfl<|Zf Zel 5 rfl<|Nl<|rt ?_
 cases h;exact Zd Tryz.results50 rfl (Zx rfl (i:=5) rfl Zel)
def Zxf:Option Zza:=
 some (Vector.set (Vector.set (Vector.set (Vector.set (Vector.set (Vector.set (Vector.set (Vector.set (Vector.set (Vector.replicate 9 0) 0 1 (by decide)) 1 1 (by decide)) 2 2 (by decide)) 3 2 (by decide)) 4 2 (by decide)) 5 4 (by decide)) 6 4 (by decide)) 7 4 (by decide)) 8 2 (by decide))
theorem Yeb:Q0 Tryz.prog 106 (rd (Z3 9 (Z0 .i64))) Zxf:=fun r h=>I0 Tryz.func106 rfl Tryz.ntmps106 rfl fun w H Z=>by
 unfold Zxf at h
 refine SR<|Cv rfl (Zm 1 rfl rfl Zme) fun g1=>Nl<|SR<|Ac (Z1o (ps:=[(0,.const (Value.int IntKind.i64 1)),(1,.const (Value.int IntKind.i64 1)),(2,.const (Value.int IntKind.i64 2)),(3,.const (Value.int IntKind.i64 2)),(4,.const (Value.int IntKind.i64 2)),(5,.const (Value.int IntKind.i64 4)),(6,.const (Value.int IntKind.i64 4)),(7,.const (Value.int IntKind.i64 4)),(8,.const (Value.int IntKind.i64 2))]) (x:=(Vector.set (Vector.set (Vector.set (Vector.set (Vector.set (Vector.set (Vector.set (Vector.set (Vector.set (Vector.replicate 9 0) 0 1 (by decide)) 1 1 (by decide)) 2 2 (by decide)) 3 2 (by decide)) 4 2 (by decide)) 5 4 (by decide)) 6 4 (by decide)) 7 4 (by decide)) 8 2 (by decide))) rfl rfl rfl (by kernel_rfl) Zme ⟨_,_,Lens.idx 9 (Z0 .i64) 0 (by decide),_,by kernel_rfl,(vk rfl),_,_,Lens.idx 9 (Z0 .i64) 1 (by decide),_,by kernel_rfl,(vk rfl),_,_,Lens.idx 9 (Z0 .i64) 2 (by decide),_,by kernel_rfl,(vk rfl),_,_,Lens.idx 9 (Z0 .i64) 3 (by decide),_,by kernel_rfl,(vk rfl),_,_,Lens.idx 9 (Z0 .i64) 4 (by decide),_,by kernel_rfl,(vk rfl),_,_,Lens.idx 9 (Z0 .i64) 5 (by decide),_,by kernel_rfl,(vk rfl),_,_,Lens.idx 9 (Z0 .i64) 6 (by decide),_,by kernel_rfl,(vk rfl),_,_,Lens.idx 9 (Z0 .i64) 7 (by decide),_,by kernel_rfl,(vk rfl),_,_,Lens.idx 9 (Z0 .i64) 8 (by decide),_,by kernel_rfl,(vk rfl),rfl⟩) rfl<|Zf Zlz 1 rfl<|Nl<|rt ?_
 cases h;exact Zd Tryz.results106 rfl (Zx rfl (i:=1) rfl Zlz)
def Ztz (m1:flowmod_mod):Option Zza:=
 some (Vector.set (Vector.set (Vector.set (Vector.set (Vector.set (Vector.set (Vector.set (Vector.set (Vector.set (Vector.replicate 9 0) 0 m1.FlowMod.Table (by decide)) 1 m1.FlowMod.Command (by decide)) 2 m1.FlowMod.Idle (by decide)) 3 m1.FlowMod.Hard (by decide)) 4 m1.FlowMod.Priority (by decide)) 5 m1.FlowMod.Buffer (by decide)) 6 m1.FlowMod.OutPort (by decide)) 7 m1.FlowMod.OutGroup (by decide)) 8 m1.FlowMod.Flags (by decide))
theorem Ydw:Q1 Tryz.prog 107 (rp Z4b) (rd (Z3 9 (Z0 .i64))) Ztz:=fun m1 r h=>I0 Tryz.func107 rfl Tryz.ntmps107 rfl fun w H Z=>by
 unfold Ztz at h
 refine SR<|Cv rfl (Zm 3 rfl rfl Zme) fun g2=>Nl<|sq<|AR Z00 (by kernel_rfl)<|Sd (lo [0] [] rfl fun S hs hr=>Zq (A:=rp Z4b m1) rfl rfl (vh hs 0 rfl rfl))<|Sd (lo [3] [] rfl fun S hs hr=>Z39 rfl rfl (vh hs 3 rfl rfl))<|SFp lflowmod_mod_0 Z5c rfl<|SFp lFlowMod_2 Ypy rfl<|SLp Zo rfl<|Sd (lo [0] [] rfl fun S hs hr=>Zq (A:=rp Z4b m1) rfl rfl (vh hs 0 rfl rfl))<|Sd (lo [8] [] rfl fun S hs hr=>Z39 rfl rfl (vh hs 8 rfl rfl))<|SFp lflowmod_mod_0 Z5c rfl<|SFp lFlowMod_3 Zmj rfl<|SLp Zo rfl<|Sd (lo [0] [] rfl fun S hs hr=>Zq (A:=rp Z4b m1) rfl rfl (vh hs 0 rfl rfl))<|Sd (lo [13] [] rfl fun S hs hr=>Z39 rfl rfl (vh hs 13 rfl rfl))<|SFp lflowmod_mod_0 Z5c rfl<|SFp lFlowMod_4 Zyp rfl<|SLp Zo rfl<|Sd (lo [0] [] rfl fun S hs hr=>Zq (A:=rp Z4b m1) rfl rfl (vh hs 0 rfl rfl))<|Sd (lo [18] [] rfl fun S hs hr=>Z39 rfl rfl (vh hs 18 rfl rfl))<|SFp lflowmod_mod_0 Z5c rfl<|SFp lFlowMod_5 Ztk rfl<|SLp Zo rfl<|Sd (lo [0] [] rfl fun S hs hr=>Zq (A:=rp Z4b m1) rfl rfl (vh hs 0 rfl rfl))<|Sd (lo [23] [] rfl fun S hs hr=>Z39 rfl rfl (vh hs 23 rfl rfl))<|SFp lflowmod_mod_0 Z5c rfl<|SFp lFlowMod_6 Zv6 rfl<|SLp Zo rfl<|Sd (lo [0] [] rfl fun S hs hr=>Zq (A:=rp Z4b m1) rfl rfl (vh hs 0 rfl rfl))<|Sd (lo [28] [] rfl fun S hs hr=>Z39 rfl rfl (vh hs 28 rfl rfl))<|SFp lflowmod_mod_0 Z5c rfl<|SFp lFlowMod_7 Yz5 rfl<|SLp Zo rfl<|Sd (lo [0] [] rfl fun S hs hr=>Zq (A:=rp Z4b m1) rfl rfl (vh hs 0 rfl rfl))<|Sd (lo [33] [] rfl fun S hs hr=>Z39 rfl rfl (vh hs 33 rfl rfl))<|SFp lflowmod_mod_0 Z5c rfl<|SFp lFlowMod_8 Ylm rfl<|SLp Zo rfl<|Sd (lo [0] [] rfl fun S hs hr=>Zq (A:=rp Z4b m1) rfl rfl (vh hs 0 rfl rfl))<|Sd (lo [38] [] rfl fun S hs hr=>Z39 rfl rfl (vh hs 38 rfl rfl))<|SFp lflowmod_mod_0 Z5c rfl<|SFp lFlowMod_9 Ym4 rfl<|SLp Zo rfl<|Sd (lo [0] [] rfl fun S hs hr=>Zq (A:=rp Z4b m1) rfl rfl (vh hs 0 rfl rfl))<|Sd (lo [43] [] rfl fun S hs hr=>Z39 rfl rfl (vh hs 43 rfl rfl))<|SFp lflowmod_mod_0 Z5c rfl<|SFp lFlowMod_10 Zok rfl<|SLp Zo rfl<|Sd (lo [7,12,17,22,27,32,37,42,47] [] rfl fun S hs hr=>Z1o (ps:=[(0,.tmp 7),(1,.tmp 12),(2,.tmp 17),(3,.tmp 22),(4,.tmp 27),(5,.tmp 32),(6,.tmp 37),(7,.tmp 42),(8,.tmp 47)]) (x:=(Vector.set (Vector.set (Vector.set (Vector.set (Vector.set (Vector.set (Vector.set (Vector.set (Vector.set (Vector.replicate 9 0) 0 m1.FlowMod.Table (by decide)) 1 m1.FlowMod.Command (by decide)) 2 m1.FlowMod.Idle (by decide)) 3 m1.FlowMod.Hard (by decide)) 4 m1.FlowMod.Priority (by decide)) 5 m1.FlowMod.Buffer (by decide)) 6 m1.FlowMod.OutPort (by decide)) 7 m1.FlowMod.OutGroup (by decide)) 8 m1.FlowMod.Flags (by decide))) rfl rfl rfl (by kernel_rfl) Zme ⟨_,_,Lens.idx 9 (Z0 .i64) 0 (by decide),_,by kernel_rfl,(vh hs 7 rfl rfl),_,_,Lens.idx 9 (Z0 .i64) 1 (by decide),_,by kernel_rfl,(vh hs 12 rfl rfl),_,_,Lens.idx 9 (Z0 .i64) 2 (by decide),_,by kernel_rfl,(vh hs 17 rfl rfl),_,_,Lens.idx 9 (Z0 .i64) 3 (by decide),_,by kernel_rfl,(vh hs 22 rfl rfl),_,_,Lens.idx 9 (Z0 .i64) 4 (by decide),_,by kernel_rfl,(vh hs 27 rfl rfl),_,_,Lens.idx 9 (Z0 .i64) 5 (by decide),_,by kernel_rfl,(vh hs 32 rfl rfl),_,_,Lens.idx 9 (Z0 .i64) 6 (by decide),_,by kernel_rfl,(vh hs 37 rfl rfl),_,_,Lens.idx 9 (Z0 .i64) 7 (by decide),_,by kernel_rfl,(vh hs 42 rfl rfl),_,_,Lens.idx 9 (Z0 .i64) 8 (by decide),_,by kernel_rfl,(vh hs 47 rfl rfl),rfl⟩)<|SSt Zlz 3 rfl<|Sn ?_
 refine rt ?_
 cases h;exact Zd Tryz.results107 rfl (Zx rfl (i:=3) rfl Zlz)
def Zx0 (s1:Int):Option Bool:=
 some (((decide (s1=1))||(decide (s1=2)))||(decide (s1=4)))
theorem Ylb:Q1 Tryz.prog 184 (rd (Z0 .i64)) (rd Z6) Zx0:=fun s1 r h=>I0 Tryz.func184 rfl Tryz.ntmps184 rfl fun w H Z=>by
 unfold Zx0 at h
 refine SR<|Ab rfl<|Nl<|SR<|Md rfl<|Ac (Z0m rfl rfl (vt rfl) (vk rfl)) rfl<|Md rfl<|Gd rfl (fun hq=>Zq (A:=rd (Z0 .i64) s1) rfl rfl (vt rfl))<|Gd rfl (fun hq=>Z0m rfl rfl (Zi rfl hq) (vk rfl))<|Ac (Z4d rfl rfl (vt rfl) (vt rfl)) rfl<|Md rfl<|Gd rfl (fun hq=>Zq (A:=rd (Z0 .i64) s1) rfl rfl (vt rfl))<|Gd rfl (fun hq=>Z0m rfl rfl (Zi rfl hq) (vk rfl))<|Ac (Z4d rfl rfl (vt rfl) (vt rfl)) rfl<|As rfl<|Nl<|rt ?_
 cases h;exact Zd Tryz.results184 rfl (Z5 rfl)
def Zot (n1:Int)(s2:Int):Option Bool:=
 (Zx0 s2).bind fun x3=>(opt (x3&&(decide (n1≥0))) (Zl3 .i64 n1 (IntKind.i64.wrap (8*s2)))).bind fun q4=>some ((x3&&(decide (n1≥0)))&&(decide (q4=0)))
theorem Y2w:Q2 Tryz.prog 108 (rd (Z0 .i64)) (rd (Z0 .i64)) (rd Z6) Zot:=fun n1 s2 r h=>I0 Tryz.func108 rfl Tryz.ntmps108 rfl fun w H Z=>by
 unfold Zot at h
 refine SR<|Ab rfl<|Nl<|sq ?_
 obtain ⟨x3,hx3,q4,hq4,h⟩:=bs2 h
 refine Rg<|Md rfl<|Cl [5] (Ylb _ _ hx3) Yd0 rfl<|Md rfl<|Gd rfl (fun hq=>Zq (A:=rd (Z0 .i64) n1) rfl rfl (vt rfl))<|Gd rfl (fun hq=>Z45 rfl rfl (Zi rfl hq) (vk rfl))<|Ac (Z1m rfl rfl (vt rfl) (vt rfl)) rfl<|Md rfl<|Gd rfl (fun hq=>Zq (A:=rd (Z0 .i64) n1) rfl rfl (vt rfl))<|Gd rfl (fun hq=>Zq (A:=rd (Z0 .i64) s2) rfl rfl (vt rfl))<|Gd rfl (fun hq=>Z8g rfl rfl (vk rfl) (Zi rfl hq))<|Gd rfl (fun hq=>Y9d rfl rfl (Zi rfl hq) (Zi rfl hq) (Z2j hq4 hq))<|Gd rfl (fun hq=>Z0m rfl rfl (Zi rfl hq) (vk rfl))<|Ac (Z1m rfl rfl (vt rfl) (vt rfl)) rfl<|As rfl<|Nl<|rt ?_
 cases h;exact Zd Tryz.results108 rfl (Z5 rfl)
end Go.Proofs.YtinplddjjalohaaGreatDoor.W
set_option maxHeartbeats 1000000
set_option maxRecDepth 4000
namespace Go.Proofs.YtinplddjjalohaaGreatDoor.W
open Go Go.Wb
theorem Ysi:Ent Tryz.prog 328:=Ent.mk Tryz.func328 rfl rfl
theorem Yx3:Ent Tryz.prog 261:=Ent.mk Tryz.func261 rfl rfl
theorem Ylz:Ent Tryz.prog 260:=Ent.mk Tryz.func260 rfl rfl
theorem Y60:Ent Tryz.prog 262:=Ent.mk Tryz.func262 rfl rfl
theorem Ylu:Ent Tryz.prog 263:=Ent.mk Tryz.func263 rfl rfl
theorem Y4f:Ent Tryz.prog 108:=Ent.mk Tryz.func108 rfl rfl
def Zoq (p1:Oxm)(x2:Oxm):Option Bool:=
 some (decide (p1.Field=x2.Field))
theorem Ync:Q2 Tryz.prog 261 (rd Z0k) (rp Z0k) (rd Z6) Zoq:=fun p1 x2 r h=>I0 Tryz.func261 rfl Tryz.ntmps261 rfl fun w H Z=>by
 unfold Zoq at h
 refine SR<|Cv rfl (Zs 3 rfl rfl (vt rfl)) fun g3=>Ab rfl<|Nl<|SR<|Zk Z4w Z52 rfl<|Ld Zo 3 rfl<|Fp Z4w Z52 rfl<|Lp1 Zo rfl<|Ac (Z0m rfl rfl (vt rfl) (vt rfl)) rfl<|As rfl<|Nl<|rt ?_
 cases h;exact Zd Tryz.results261 rfl (Z5 rfl)
def Zlq (s1:(List Oxm))(x2:(Oxm→Option Bool)):Nat→Nat→Option Int
 | 0,i3=>some (-1)
 | m4+1,i3=>(lget s1 (i3:Int)).bind fun x5=>(x2 x5).bind fun x6=>(bif x6 then some (i3:Int) else (Zlq s1 x2 m4) (i3+1))
def Zwa (s1:(List Oxm))(x2:(Oxm→Option Bool)):Option Int:=
 Zlq s1 x2 ((s1.length:Int):Int).toNat 0
theorem Ytf:Q2 Tryz.prog 328 (rd (Z1 Z0k)) (fn1 Tryz.prog Z0k Z6) (rd (Z0 .i64)) Zwa:=fun s1 x2 r h=>I0 Tryz.func328 rfl Tryz.ntmps328 rfl fun w H Z=>by
 unfold Zwa at h
 refine SR<|Ak rfl<|Nl<|sq<|SR<|Md rfl<|Ac (Z0i rfl rfl Z5f (vt rfl)) rfl<|Mk rfl<|Nl<|bk<|LG (d:=[]) (ν:=Nat×Nat) (fun (m4,i3)=>(Cnt (s1.length:Int) i3 m4∧Zlq s1 x2 m4 i3=some r,m4,[(0,rd (Z1 Z0k) s1),(1,fn1 Tryz.prog Z0k Z6 x2),(7,rd (Z0 .i64) (s1.length:Int)),(8,rd (Z0 .i64) (i3:Int))],[])) (((s1.length:Int):Int).toNat,0) ⟨Cnt.start _,h⟩ (FX rfl) ?_
 rintro ⟨m4,i3⟩ ⟨hsf1,h⟩
 dsimp only at hsf1 h ⊢
 cases m4 with
 | zero=>
  unfold Zlq at h
  refine SR<|Ac (Zj rfl rfl (vt rfl) (vt rfl)) rfl<|Nl<|sq<|Cn rfl (fun hc=>absurd (of_decide_eq_true hc) hsf1.zero) (fun hc=>?_)
  refine xt<|SR<|Ak rfl<|Nl<|rt ?_
  cases h;exact Zd Tryz.results328 rfl (Z5 rfl)
 | succ m4=>
  unfold Zlq at h
  refine SR<|Ac (Zj rfl rfl (vt rfl) (vt rfl)) rfl<|Nl<|sq<|Cn rfl (fun hc=>?_) (fun hc=>absurd hsf1.succ (of_decide_eq_false hc))
  have hlti3:=of_decide_eq_true hc
  refine sk<|sq<|bk<|SR<|Md rfl<|As rfl<|Nl<|sq ?_
  obtain ⟨x5,hx5,x6,hx6,h⟩:=bs2 h
  refine Rg<|Ac (Zq (A:=fn1 Tryz.prog Z0k Z6 x2) rfl rfl (vt rfl)) rfl<|Md rfl<|Md rfl<|Ac (Z0j rfl rfl Z5f (vt rfl) (vt rfl) hx5) rfl<|Lp1 Z7p rfl<|Ac (Z9a hx6 rfl rfl (vt rfl) (vt rfl)) rfl<|Nl<|Cq rfl h (fun h=>?_) (fun h=>?_)
  ·refine SR<|Md rfl<|As rfl<|Nl<|rt ?_
   cases h;exact Zd Tryz.results328 rfl (Z5 rfl)
  ·refine sk<|Rg<|Ac (Z13 (t:=7) rfl rfl (vt rfl) (vk rfl) (vt rfl) hlti3) rfl<|Md rfl<|Nl ?_
   exact ⟨(_,_),Nat.lt_succ_self _,⟨hsf1.next,h⟩,FX rfl⟩
def Zuq (s1:(List Oxm))(x2:(Oxm→Option Bool)):Option Bool:=
 (Zwa s1 x2).bind fun x3=>some (decide (x3≥0))
theorem Yt7:Q2 Tryz.prog 260 (rd (Z1 Z0k)) (fn1 Tryz.prog Z0k Z6) (rd Z6) Zuq:=fun s1 x2 r h=>I0 Tryz.func260 rfl Tryz.ntmps260 rfl fun w H Z=>by
 unfold Zuq at h
 refine SR<|Ab rfl<|Nl<|sq ?_
 obtain ⟨x3,hx3,h⟩:=Z7 h
 refine Rg<|Md rfl<|Ac (Zq (A:=fn1 Tryz.prog Z0k Z6 x2) rfl rfl (vt rfl)) rfl<|Cl [5,6] (Ytf _ _ _ hx3) Ysi rfl<|Ac (Z45 rfl rfl (vt rfl) (vk rfl)) rfl<|As rfl<|Nl<|rt ?_
 cases h;exact Zd Tryz.results260 rfl (Z5 rfl)
def Zrh (x1:Int):Option Fault:=
 some (⟨true,4,x1⟩:Fault)
theorem Y78:Q1 Tryz.prog 262 (rd (Z0 .i64)) (rd Z3u) Zrh:=fun x1 r h=>I0 Tryz.func262 rfl Tryz.ntmps262 rfl fun w H Z=>by
 unfold Zrh at h
 refine SR<|Cv rfl (Zm 3 rfl rfl Z6x) fun g2=>Nl<|SR<|Md rfl<|Ac (opb (⟨true,4,x1⟩:Fault) Z6x rfl Zeb (pc Zt8 vb<|pc Ztg (vk rfl)<|pc Zxg (vt rfl)<|pn rfl)) rfl<|Zf Z2x 3 rfl<|Nl<|rt ?_
 cases h;exact Zd Tryz.results262 rfl (Zx rfl (i:=3) rfl Z2x)
def Y4m (l1:(List Oxm))(x2:Int):Option Bool:=none
theorem Ytx (l1:(List Oxm))(x2:Int)(r:Bool)(h:Y4m l1 x2=some r):PCon Tryz.prog 263 [rd (Z1 Z0k) l1,rd (Z0 .i64) x2] (rd Z6 r):=by cases h
def Zn6 (l1:(List Oxm)):(List Oxm)→Nat→Option Fault
 | [],i3=>some (⟨false,0,0⟩:Fault)
 | x5::l4,i3=>(Z4j l1 (i3:Int)).bind fun s7=>(Zuq s7 (fun x=>Zoq x x5)).bind fun x8=>(bif x8 then (Zrh 10).bind fun x9=>some x9 else (Z4j l1 (i3:Int)).bind fun s10=>(Y4m s10 x5.Field).bind fun x11=>(bif (!x11) then (Zrh 9).bind fun x12=>some x12 else (Zn6 l1 l4) (i3+1)))
def Zz7 (l1:(List Oxm)):Option Fault:=
 Zn6 l1 l1 0
theorem Yt4:Q1 Tryz.prog 185 (rd (Z1 Z0k)) (rd Z3u) Zz7:=fun l1 r h=>I0 Tryz.func185 rfl Tryz.ntmps185 rfl fun w H Z=>by
 unfold Zz7 at h
 refine SR<|Cv rfl (Zm 3 rfl rfl Z6x) fun g2=>Nl<|sq<|SR<|Md rfl<|Ac (Z0i rfl rfl Z5f (vt rfl)) rfl<|Mk rfl<|Nl<|bk<|LG (d:=[]) (ν:=(List Oxm)×Nat) (fun (l4,i3)=>(Sfx l1 i3 l4∧Zn6 l1 l4 i3=some r,l4.length,[(0,rd (Z1 Z0k) l1),(2,Zb g2 (Lens.id Z3u)),(5,rd (Z1 Z0k) l1),(6,rd (Z0 .i64) (l1.length:Int)),(7,rd (Z0 .i64) (i3:Int))],[(3,Zh g2 98 Z3u Zne)])) (l1,0) ⟨Sfx.start _,h⟩ (FX rfl) ?_
 rintro ⟨l4,i3⟩ ⟨hsf1,h⟩
 dsimp only at hsf1 h ⊢
 cases l4 with
 | nil=>
  unfold Zn6 at h
  refine SR<|Ac (Zj rfl rfl (vt rfl) (vt rfl)) rfl<|Nl<|sq<|Cn rfl (fun hc=>absurd (of_decide_eq_true hc) hsf1.nil) (fun hc=>?_)
  refine xt<|SR<|Ac (opb (⟨false,0,0⟩:Fault) Z6x rfl Zeb (pn rfl)) rfl<|Zf Z2x 3 rfl<|Nl<|rt ?_
  cases h;exact Zd Tryz.results185 rfl (Zx rfl (i:=3) rfl Z2x)
 | cons x5 l4=>
  unfold Zn6 at h
  refine SR<|Ac (Zj rfl rfl (vt rfl) (vt rfl)) rfl<|Nl<|sq<|Cn rfl (fun hc=>?_) (fun hc=>absurd hsf1.cons (of_decide_eq_false hc))
  have hlti3:=of_decide_eq_true hc
  refine sk<|sq<|bk<|SR<|Md rfl<|Ac (Z0j rfl rfl Z5f (vt rfl) (vt rfl) hsf1.lget) rfl<|Lp1 Z7p rfl<|Cv rfl (Zm 5 rfl rfl Zsk) fun g6=>As rfl<|Zf Z7p 5 rfl<|Nl<|sq<|sq<|AW.freezeB 4 5 rfl rfl rfl ?_
  obtain ⟨s7,hs7,x8,hx8,h⟩:=bs2 h
  refine Rg<|Md rfl<|Md rfl<|Ac (Zs1 hs7 rfl rfl Z5f (vt rfl) (vt rfl)) rfl<|Ac (Z8l (cs:=[.tmp 4]) (CAs:=[rp Z0k x5]) (fun x=>Zoq x x5) rfl rfl Yx3 ⟨vt rfl,trivial⟩ (fun x y h=>Ync _ _ y h)) rfl<|Cl [14,15] (Yt7 _ _ _ hx8) Ylz rfl<|Nl<|Cq rfl h (fun h=>?_) (fun h=>?_)
  ·refine sq ?_
   obtain ⟨x9,hx9,h⟩:=Z7 h
   refine Rg<|Ac (Z0g (xs:=[.const (Value.int IntKind.i64 10)]) (Y78 _ _ hx9) Y60 rfl rfl ⟨vk rfl,trivial⟩) rfl<|Zf Z2x 3 rfl<|Nl<|rt ?_
   cases h;exact Zd Tryz.results185 rfl (Zx rfl (i:=3) rfl Z2x)
  ·refine sk<|sq ?_
   obtain ⟨s10,hs10,x11,hx11,h⟩:=bs2 h
   refine AR Z00 (by kernel_rfl)<|Zt rfl<|Zt rfl<|Sd (lo [18,19] [] rfl fun S hs hr=>Zs1 hs10 rfl rfl Z5f (vh hs 18 rfl rfl) (vh hs 19 rfl rfl))<|SFp Z4w Z52 rfl<|SLp Zo rfl<|SCl [20,22] (Ytx _ _ _ hx11) Ylu rfl<|Sd (lo [23] [] rfl fun S hs hr=>Z0z rfl rfl (vh hs 23 rfl rfl))<|Sn<|Cq rfl h (fun h=>?_) (fun h=>?_)
   ·refine sq ?_
    obtain ⟨x12,hx12,h⟩:=Z7 h
    refine Rg<|Ac (Z0g (xs:=[.const (Value.int IntKind.i64 9)]) (Y78 _ _ hx12) Y60 rfl rfl ⟨vk rfl,trivial⟩) rfl<|Zf Z2x 3 rfl<|Nl<|rt ?_
    cases h;exact Zd Tryz.results185 rfl (Zx rfl (i:=3) rfl Z2x)
   ·refine sk<|Rg<|Ac (Z13 (t:=6) rfl rfl (vt rfl) (vk rfl) (vt rfl) hlti3) rfl<|Md rfl<|Nl ?_
    exact ⟨(_,_),Nat.lt_succ_self _,⟨hsf1.next,h⟩,FX rfl⟩
def Zkl (b1:(List Int))(s3:Int)(n2:Int):Nat→Nat→Ybf→Option (List Int)
 | 0,i10,b9=>(Z4j b1 (b1.length:Int)).bind fun s12=>(Z6t (Vector.toList b9) (IntKind.i64.wrap (4 - s3))).bind fun s13=>(Zti s12 s13).bind fun l14=>some l14
 | m11+1,i10,b9=>(Zl3 .i64 n2 (IntKind.i64.wrap (24 - (IntKind.i64.wrap (8*(i10:Int)))))).bind fun q16=>(chk 4 (i10:Int)).bind fun j17=>(Zkl b1 s3 n2 m11) (i10+1) (Vector.set b9 j17.1 (IntKind.u8.wrap q16) j17.2)
def Zbx (b1:(List Int))(n2:Int)(s3:Int):Option (List Int):=
 (Zot n2 s3).bind fun x4=>(bif (!x4) then (Z0y [] b1).bind fun l5=>some l5 else Zkl b1 s3 n2 (4:Int).toNat 0 (Vector.replicate 4 0))
theorem Zrk (b1:(List Int))(n2:Int)(s3:Int)(r:(List Int))(h:Zbx b1 n2 s3=some r):Con Tryz.prog 99 [rd (Z1 (Z0 .u8)) b1,rd (Z0 .i64) n2,rd (Z0 .i64) s3] emp (fun v=>Zc v) (fun v=>Zg v 5 (Z0 .u8) r):=by
 refine Con.intro0 Tryz.func99 rfl Tryz.ntmps99 rfl fun w H Z=>?_
 unfold Zbx at h
 refine sq<|AW.newnil 1001 5 (Z0 .u8)<|Rg<|Ac (Zv rfl rfl vc) rfl<|Nl<|sq<|sq ?_
 obtain ⟨x4,hx4,h⟩:=Z7 h
 refine Rg<|Md rfl<|Md rfl<|Cl [9,10] (Y2w _ _ _ hx4) Y4f rfl<|Ac (Z0z rfl rfl (vt rfl)) rfl<|Nl<|Cq rfl h (fun h=>?_) (fun h=>?_)
 ·refine sq<|AW.newnil 1002 5 (Z0 .u8) ?_
  obtain ⟨l5,hl5,h⟩:=Z7 h
  refine Rg<|Md rfl<|Cv rfl (Z2f 1002 hl5 rfl rfl Zmo vc rfl (vt rfl)) fun v6=>AOps.renameD 1002 1001 (by decide) rfl<|Aw rfl<|Nl<|rt ?_
  cases h;exact Z49 (i:=1001) Tryz.results99 rfl rfl rfl
 ·refine sk<|SR<|Cv rfl (Zm 8 rfl rfl Yfu) fun g7=>Nl<|sq<|SR<|Mk rfl<|Nl<|bk<|LG (d:=[]) (ν:=Nat×Nat×Ybf) (fun (m11,i10,b9)=>(Cnt 4 i10 m11∧Zkl b1 s3 n2 m11 i10 b9=some r,m11,[(0,rd (Z1 (Z0 .u8)) b1),(1,rd (Z0 .i64) n2),(2,rd (Z0 .i64) s3),(7,Zb g7 (Lens.id (Z3 4 (Z0 .u8)))),(15,rd (Z0 .i64) (i10:Int))],[(8,Zh g7 249 (Z3 4 (Z0 .u8)) b9)])) ((4:Int).toNat,0,(Vector.replicate 4 0)) ⟨Cnt.start _,h⟩ (FX rfl) ?_
  rintro ⟨m11,i10,b9⟩ ⟨hsf1,h⟩
  dsimp only at hsf1 h ⊢
  cases m11 with
  | zero=>
   unfold Zkl at h
   refine SR<|Ac (Zj rfl rfl (vt rfl) (vk rfl)) rfl<|Nl<|sq<|Cn rfl (fun hc=>absurd (of_decide_eq_true hc) hsf1.zero) (fun hc=>?_)
   refine xt<|sq<|AW.freezeB 7 8 rfl rfl rfl ?_
   obtain ⟨s12,hs12,s13,hs13,l14,hl14,h⟩:=bs3 h
   refine AR Z00 (by kernel_rfl)<|Zt rfl<|Zt rfl<|Sd (lo [28] [] rfl fun S hs hr=>Z0i rfl rfl Z8j (vh hs 28 rfl rfl))<|Zt rfl<|Sd (lo [30] [] rfl fun S hs hr=>Z0i rfl rfl Z8j (vh hs 30 rfl rfl))<|Sd (lo [27,29,31] [] rfl fun S hs hr=>Zzr hs12 rfl rfl Z8j (vh hs 27 rfl rfl) (vh hs 29 rfl rfl) (vh hs 31 rfl rfl))<|Zt rfl<|Sd (lo [33] [] rfl fun S hs hr=>Z0t rfl rfl (vk rfl) (vh hs 33 rfl rfl))<|Sd (lo [7,34] [] rfl fun S hs hr=>Ylh hs13 rfl rfl Y7z rfl (vh hs 7 rfl rfl) (vh hs 34 rfl rfl))<|Sd (Z1g (us:=[(36,Z25 5 (Z0 .u8) l14)]) (ur:=[]) [32,35] [1004] rfl fun S hs hr=>Y79 (Ypk 1004 hl14 rfl rfl Zmo (vh hs 32 rfl rfl) (vh hs 35 rfl rfl)) rfl ((hr 1004 rfl).trans rfl))<|Sd (Z1g (us:=[(36,top),(6,Z25 5 (Z0 .u8) l14)]) (ur:=[]) [36] [1005] rfl fun S hs hr=>Zj1 1005 rfl rfl rfl rfl ((hs 36 rfl).trans rfl) ((hr 1005 rfl).trans rfl))<|Sn<|AW.unpackR 6 1003 rfl rfl fun v15=>rt ?_
   cases h;exact Z49 (i:=1003) Tryz.results99 rfl rfl rfl
  | succ m11=>
   unfold Zkl at h
   refine SR<|Ac (Zj rfl rfl (vt rfl) (vk rfl)) rfl<|Nl<|sq<|Cn rfl (fun hc=>?_) (fun hc=>absurd hsf1.succ (of_decide_eq_false hc))
   have hlti10:=of_decide_eq_true hc
   refine sk<|sq<|bk<|SR<|Md rfl<|As rfl<|Nl ?_
   obtain ⟨q16,hq16,j17,hj17,h⟩:=bs2 h
   refine Rg<|Md rfl<|Md rfl<|Md rfl<|Ac (Z8g rfl rfl (vk rfl) (vt rfl)) rfl<|Ac (Z0t rfl rfl (vk rfl) (vt rfl)) rfl<|Ac (Y9d rfl rfl (vt rfl) (vt rfl) hq16) rfl<|Ac (Yij rfl rfl us3 un5 (vt rfl)) rfl<|Ac (Z19 rfl rfl Y7z (vt rfl) (vt rfl) hj17) rfl<|Zf ty5 8 rfl<|Nl<|Rg<|Ac (Z5r rfl rfl (vt rfl) (vk rfl) rfl hlti10) rfl<|Md rfl<|Nl ?_
   exact ⟨(_,_,_),Nat.lt_succ_self _,⟨hsf1.next,h⟩,FX rfl⟩
theorem Yan (b1:(List Int))(n2:Int)(s3:Int)(r:(List Int))(h:Zbx b1 n2 s3=some r):PCon Tryz.prog 99 [rd (Z1 (Z0 .u8)) b1,rd (Z0 .i64) n2,rd (Z0 .i64) s3] (rd (Z1 (Z0 .u8)) r):=PCon.of_row (Zrk b1 n2 s3 r h)
def Yaq (o1:Oxm):Option ((List Int)×Int):=none
theorem Yyc (o1:Oxm)(r:((List Int)×Int))(h:Yaq o1=some r):PCon Tryz.prog 186 [rd Z0k o1] (Z12 (rd (Z1 (Z0 .u8)) r.1) (rd (Z0 .i64) r.2)):=by cases h
def Zwn (n1:Int):Option Int:=
 some (Zgo .andNot .i64 (IntKind.i64.wrap (n1+7)) 7)
theorem Ywf:Q1 Tryz.prog 187 (rd (Z0 .i64)) (rd (Z0 .i64)) Zwn:=fun n1 r h=>I0 Tryz.func187 rfl Tryz.ntmps187 rfl fun w H Z=>by
 unfold Zwn at h
 refine SR<|Ak rfl<|Nl<|SR<|Md rfl<|Ac (Z05 rfl rfl (vt rfl) (vk rfl)) rfl<|Ac (Yxi rfl rfl (vt rfl) (vk rfl)) rfl<|As rfl<|Nl<|rt ?_
 cases h;exact Zd Tryz.results187 rfl (Z5 rfl)
end Go.Proofs.YtinplddjjalohaaGreatDoor.W
set_option maxHeartbeats 1000000
set_option maxRecDepth 4000
namespace Go.Proofs.YtinplddjjalohaaGreatDoor.W
open Go Go.Wb
theorem Ypn:Ent Tryz.prog 185:=Ent.mk Tryz.func185 rfl rfl
theorem e99:Ent Tryz.prog 99:=Ent.mk Tryz.func99 rfl rfl
theorem Yo8:Ent Tryz.prog 187:=Ent.mk Tryz.func187 rfl rfl
theorem Yox:Ent Tryz.prog 186:=Ent.mk Tryz.func186 rfl rfl
theorem Ye2:Ent Tryz.prog 188:=Ent.mk Tryz.func188 rfl rfl
theorem Yen:Ent Tryz.prog 189:=Ent.mk Tryz.func189 rfl rfl
theorem Zxr:Ent Tryz.prog 190:=Ent.mk Tryz.func190 rfl rfl
theorem Ygm:Ent Tryz.prog 191:=Ent.mk Tryz.func191 rfl rfl
theorem Yxy:Ent Tryz.prog 192:=Ent.mk Tryz.func192 rfl rfl
theorem Yqv:Ent Tryz.prog 106:=Ent.mk Tryz.func106 rfl rfl
theorem Yes:Ent Tryz.prog 107:=Ent.mk Tryz.func107 rfl rfl
theorem Yq5:Ent Tryz.prog 109:=Ent.mk Tryz.func109 rfl rfl
theorem Yjb:Ent Tryz.prog 110:=Ent.mk Tryz.func110 rfl rfl
theorem Ywp:Ent Tryz.prog 111:=Ent.mk Tryz.func111 rfl rfl
def Zlv:(List Oxm)→Nat→(List Int)→Option ((List Int)×Int)
 | [],i10,l8=>(bif (decide ((l8.length:Int)>1004)) then some ([],1) else (Z6t l8 2).bind fun s12=>(Zbx [] (l8.length:Int) 2).bind fun x13=>(Zwn ((cpy l8 (2:Int).toNat x13).length:Int)).bind fun x14=>(Zqx 0 (cpy l8 (2:Int).toNat x13) (IntKind.i64.wrap (x14 - ((cpy l8 (2:Int).toNat x13).length:Int)))).bind fun l15=>some (l15,0))
 | x17::l11,i10,l8=>(Yaq x17).bind fun x19=>(bif (decide (x19.2≠0)) then some ([],x19.2) else (Z0y l8 x19.1).bind fun l20=>(Zlv l11) (i10+1) l20)
def Zyb (l1:(List Oxm)):Option ((List Int)×Int):=
 (Zz7 l1).bind fun x2=>(bif x2.Is then some ([],1) else (Zbx [] 1 2).bind fun x3=>(Zbx x3 0 2).bind fun x4=>Zlv l1 0 x4)
theorem Ytz:Q1 Tryz.prog 109 (rd (Z1 Z0k)) (fun r=>Z12 (rd (Z1 (Z0 .u8)) r.1) (rd (Z0 .i64) r.2)) Zyb:=fun l1 r h=>I0 Tryz.func109 rfl Tryz.ntmps109 rfl fun w H Z=>by
 unfold Zyb at h
 refine SR<|Ac (Zv (A:=rd (Z1 (Z0 .u8)) []) rfl rfl Z1j) rfl<|Ak rfl<|Nl<|sq<|sq ?_
 obtain ⟨x2,hx2,h⟩:=Z7 h
 refine Rg<|Md rfl<|Cl [9] (Yt4 _ _ hx2) Ypn rfl<|Ac (Zgz lFault_0 rfl rfl Zqi Zrf ty4 rfl (vt rfl)) rfl<|Nl<|Cq rfl h (fun h=>?_) (fun h=>?_)
 ·refine SR<|Ac (Zv (A:=rd (Z1 (Z0 .u8)) []) rfl rfl Z1j) rfl<|Ak rfl<|Nl<|rt ?_
  cases h;exact Z1f Tryz.results109 rfl (Z5 rfl) (Z5 rfl)
 ·refine sk<|sq ?_
  obtain ⟨x3,hx3,x4,hx4,h⟩:=bs2 h
  refine Rg<|Ac (Z0g (xs:=[.const (Value.slice none 0 0),.const (Value.int IntKind.i64 1),.const (Value.int IntKind.i64 2)]) (Yan _ _ _ _ hx3) e99 rfl rfl ⟨Z1j,vk rfl,vk rfl,trivial⟩) rfl<|Cv rfl (Z1c 1001 (xs:=[.tmp 12,.const (Value.int IntKind.i64 0),.const (Value.int IntKind.i64 2)]) (Zrk _ _ _ _ hx4) e99 rfl rfl ⟨vt rfl,vk rfl,vk rfl,trivial⟩ rfl) fun v5=>Aw rfl<|Nl<|sq<|SR<|Md rfl<|Ac (Z0i rfl rfl Z5f (vt rfl)) rfl<|Mk rfl<|Nl<|bk<|LG (d:=[]) (ν:=(List Oxm)×Nat×(List Int)×Value) (fun (l11,i10,l8,v9)=>(Sfx l1 i10 l11∧Zlv l11 i10 l8=some r,l11.length,[(4,Zc v9),(14,rd (Z1 Z0k) l1),(15,rd (Z0 .i64) (l1.length:Int)),(16,rd (Z0 .i64) (i10:Int))],[(1001,Zg v9 5 (Z0 .u8) l8)])) (l1,0,x4,v5) ⟨Sfx.start _,h⟩ (FX rfl) ?_
  rintro ⟨l11,i10,l8,v9⟩ ⟨hsf1,h⟩
  dsimp only at hsf1 h ⊢
  cases l11 with
  | nil=>
   unfold Zlv at h
   refine SR<|Ac (Zj rfl rfl (vt rfl) (vt rfl)) rfl<|Nl<|sq<|Cn rfl (fun hc=>absurd (of_decide_eq_true hc) hsf1.nil) (fun hc=>?_)
   refine xt<|sq<|SR<|Mw rfl<|Ac (Z51 1001 rfl rfl Z8j (vt rfl) rfl) rfl<|Ac (Z2s rfl rfl (vt rfl) (vk rfl)) rfl<|Nl<|Cq rfl h (fun h=>?_) (fun h=>?_)
   ·refine SR<|Ac (Zv (A:=rd (Z1 (Z0 .u8)) []) rfl rfl Z1j) rfl<|Ak rfl<|Nl<|rt ?_
    cases h;exact Z1f Tryz.results109 rfl (Z5 rfl) (Z5 rfl)
   ·refine sk<|sq ?_
    obtain ⟨s12,hs12,x13,hx13,h⟩:=bs2 h
    refine AR Z00 (by kernel_rfl)<|SMw rfl<|Sd (lo [35] [1001] rfl fun S hs hr=>Ya2 1001 hs12 rfl rfl Z8j (vh hs 35 rfl rfl) ((hr 1001 rfl).trans rfl) (vk rfl))<|SMw rfl<|Sd (lo [37] [1001] rfl fun S hs hr=>Z51 1001 rfl rfl Z8j (vh hs 37 rfl rfl) ((hr 1001 rfl).trans rfl))<|Sd (lo [38] [] rfl fun S hs hr=>Z0g (xs:=[.const (Value.slice none 0 0),.tmp 38,.const (Value.int IntKind.i64 2)]) (Yan _ _ _ _ hx13) e99 rfl rfl ⟨Z1j,vt ((hs 38 rfl).trans rfl),vk rfl,trivial⟩)<|Sd (Z1g (us:=[(40,rd (Z0 .i64) ((Nat.min (List.length x13) (List.length l8 - (2:Int).toNat):Nat):Int))]) (ur:=[(1001,Zg v9 5 (Z0 .u8) (cpy l8 (2:Int).toNat x13))]) [36,39] [1001] rfl fun S hs hr=>Yyb 1001 rfl rfl Z8j rfl (vh hs 36 rfl rfl) ((hr 1001 rfl).trans rfl) (Zob hs12).2.1 (vh hs 39 rfl rfl))<|Sn<|sq ?_
    obtain ⟨x14,hx14,l15,hl15,h⟩:=bs2 h
    refine Rg<|Mw rfl<|Mw rfl<|Ac (Z51 1001 rfl rfl Z8j (vt rfl) rfl) rfl<|Cl [43] (Ywf _ _ hx14) Yo8 rfl<|Mw rfl<|Ac (Z51 1001 rfl rfl Z8j (vt rfl) rfl) rfl<|Ac (Z0t rfl rfl (vt rfl) (vt rfl)) rfl<|Cv rfl (Ymz 1001 hl15 rfl rfl Zmo zr5 un3 (vt rfl) rfl (vt rfl)) fun v16=>Aw rfl<|Ak rfl<|Nl<|AW.freezes [2,48] 1001 rfl ⟨rfl,rfl,trivial⟩ rfl<|rt ?_
    cases h;exact Z1f Tryz.results109 rfl (Z5 rfl) (Z5 rfl)
  | cons x17 l11=>
   unfold Zlv at h
   refine SR<|Ac (Zj rfl rfl (vt rfl) (vt rfl)) rfl<|Nl<|sq<|Cn rfl (fun hc=>?_) (fun hc=>absurd hsf1.cons (of_decide_eq_false hc))
   have hlti10:=of_decide_eq_true hc
   refine sk<|sq<|bk<|SR<|Ac (Z0j rfl rfl Z5f (vt rfl) (vt rfl) hsf1.lget) rfl<|Lp1 Z7p rfl<|Cv rfl (Zm 7 rfl rfl Zsk) fun g18=>Zf Z7p 7 rfl<|Nl<|sq ?_
   obtain ⟨x19,hx19,h⟩:=Z7 h
   refine Rg<|Ld Z7p 7 rfl<|Cl [21] (Yyc _ _ hx19) Yox rfl<|Mt2 rfl<|Ac (Z1e rfl rfl (vt rfl)) rfl<|Ac (Z1a rfl rfl (vt rfl)) rfl<|As rfl<|As rfl<|Nl<|sq<|SR<|Md rfl<|Ac (Z6f rfl rfl (vt rfl) (vk rfl)) rfl<|Nl<|Cq rfl h (fun h=>?_) (fun h=>?_)
   ·refine SR<|Md rfl<|Ac (Zv (A:=rd (Z1 (Z0 .u8)) []) rfl rfl Z1j) rfl<|As rfl<|Nl<|rt ?_
    cases h;exact Z1f Tryz.results109 rfl (Z5 rfl) (Z5 rfl)
   ·refine sk ?_
    obtain ⟨l20,hl20,h⟩:=Z7 h
    refine Rg<|Mw rfl<|Md rfl<|Cv rfl (Z2f 1001 hl20 rfl rfl Zmo (vt rfl) rfl (vt rfl)) fun v21=>Aw rfl<|Nl<|Rg<|Ac (Z13 (t:=15) rfl rfl (vt rfl) (vk rfl) (vt rfl) hlti10) rfl<|Md rfl<|Nl ?_
    exact ⟨(_,_,_,_),Nat.lt_succ_self _,⟨hsf1.next,h⟩,FX rfl⟩
def Ych (i1:Inst):Option Bool:=none
theorem Yj0 (i1:Inst)(r:Bool)(h:Ych i1=some r):PCon Tryz.prog 188 [rd Z0b i1] (rd Z6 r):=by cases h
def Y0b (i1:Inst):Option (List Int):=none
theorem Yjs (i1:Inst)(r:(List Int))(h:Y0b i1=some r):PCon Tryz.prog 189 [rd Z0b i1] (rd (Z1 (Z0 .u8)) r):=by cases h
def Zn1:(List Inst)→Nat→(List Int)→(List (Int×Int))→Option ((List Int)×Int)
 | [],i9,l6,m8=>(bif (decide ((l6.length:Int)>60000)) then some ([],1) else some (l6,0))
 | x11::l10,i9,l6,m8=>(Ych x11).bind fun x13=>(bif ((!x13)||(decide ((Z0p (Z20 m8 x11.Kind (IntKind.i64.wrap ((Z0p m8 x11.Kind)+1))) x11.Kind)>1))) then some ([],1) else (Y0b x11).bind fun x14=>(Zbx l6 x11.Kind 2).bind fun x15=>(Zbx x15 (IntKind.i64.wrap (4+(x14.length:Int))) 2).bind fun x16=>(Z0y x16 x14).bind fun l18=>(Zn1 l10) (i9+1) l18 (Z20 m8 x11.Kind (IntKind.i64.wrap ((Z0p m8 x11.Kind)+1))))
def Zyw (l1:(List Inst)):Option ((List Int)×Int):=
 Zn1 l1 0 [] []
theorem Yy7:Q1 Tryz.prog 110 (rd (Z1 Z0b)) (fun r=>Z12 (rd (Z1 (Z0 .u8)) r.1) (rd (Z0 .i64) r.2)) Zyw:=fun l1 r h=>I0 Tryz.func110 rfl Tryz.ntmps110 rfl fun w H Z=>by
 unfold Zyw at h
 refine SR<|Ac (Zv (A:=rd (Z1 (Z0 .u8)) []) rfl rfl Z1j) rfl<|Ak rfl<|Nl<|sq<|AW.newnil 1001 5 (Z0 .u8)<|Rg<|Ac (Zv rfl rfl vc) rfl<|Nl<|SR<|Cv rfl (Zwj (Z0 .i64) 10 rfl rfl) fun g2=>Aw rfl<|Nl<|sq<|SR<|Md rfl<|Ac (Z0i rfl rfl Z50 (vt rfl)) rfl<|Mk rfl<|Nl<|bk<|LG (d:=[]) (ν:=(List Inst)×Nat×(List Int)×(List (Int×Int))×Value) (fun (l10,i9,l6,m8,v7)=>(Sfx l1 i9 l10∧Zn1 l10 i9 l6 m8=some r,l10.length,[(4,Zc v7),(5,Zc (.map (some g2))),(10,rd (Z1 Z0b) l1),(11,rd (Z0 .i64) (l1.length:Int)),(12,rd (Z0 .i64) (i9:Int))],[(10,Z2h g2 (Z0 .i64) m8),(1001,Zg v7 5 (Z0 .u8) l6)])) (l1,0,[],[],(.slice none 0 0)) ⟨Sfx.start _,h⟩ (FX rfl) ?_
 rintro ⟨l10,i9,l6,m8,v7⟩ ⟨hsf1,h⟩
 dsimp only at hsf1 h ⊢
 cases l10 with
 | nil=>
  unfold Zn1 at h
  refine SR<|Ac (Zj rfl rfl (vt rfl) (vt rfl)) rfl<|Nl<|sq<|Cn rfl (fun hc=>absurd (of_decide_eq_true hc) hsf1.nil) (fun hc=>?_)
  refine xt<|sq<|SR<|Mw rfl<|Ac (Z51 1001 rfl rfl Z8j (vt rfl) rfl) rfl<|Ac (Z2s rfl rfl (vt rfl) (vk rfl)) rfl<|Nl<|Cq rfl h (fun h=>?_) (fun h=>?_)
  ·refine SR<|Ac (Zv (A:=rd (Z1 (Z0 .u8)) []) rfl rfl Z1j) rfl<|Ak rfl<|Nl<|rt ?_
   cases h;exact Z1f Tryz.results110 rfl (Z5 rfl) (Z5 rfl)
  ·refine sk<|SR<|Mw rfl<|Aw rfl<|Ak rfl<|Nl<|AW.freezes [2,4,45,48] 1001 rfl ⟨rfl,rfl,rfl,rfl,trivial⟩ rfl<|rt ?_
   cases h;exact Z1f Tryz.results110 rfl (Z5 rfl) (Z5 rfl)
 | cons x11 l10=>
  unfold Zn1 at h
  refine SR<|Ac (Zj rfl rfl (vt rfl) (vt rfl)) rfl<|Nl<|sq<|Cn rfl (fun hc=>?_) (fun hc=>absurd hsf1.cons (of_decide_eq_false hc))
  have hlti9:=of_decide_eq_true hc
  refine sk<|sq<|bk<|SR<|Ac (Z0j rfl rfl Z50 (vt rfl) (vt rfl) hsf1.lget) rfl<|Lp1 Z2b rfl<|Cv rfl (Zm 8 rfl rfl Z3k) fun g12=>Zf Z2b 8 rfl<|Nl<|SR<|Mw rfl<|Zk Zfa Zjo rfl<|Ld Zo 8 rfl<|Ac (Zsx (i:=10) rfl rfl Zfq (vt rfl) rfl (vt rfl)) rfl<|Ac (Z05 rfl rfl (vt rfl) (vk rfl)) rfl<|Ac (Y9r (i:=10) rfl rfl Zfq (vt rfl) rfl (vt rfl) (vt rfl)) rfl<|Nl<|sq<|sq ?_
  obtain ⟨x13,hx13,h⟩:=Z7 h
  refine Rg<|Ld Z2b 8 rfl<|Cl [21] (Yj0 _ _ hx13) Ye2 rfl<|Ac (Z0z rfl rfl (vt rfl)) rfl<|Md rfl<|Gd rfl (fun hq=>Zq (A:=Zc (.map (some g2))) rfl rfl (vt rfl))<|Gd rfl (fun hq=>Z2v Zfa rfl rfl Zjo (vt rfl))<|Gd rfl (fun hq=>Z1z rfl rfl Zo (Zi rfl hq) (i:=8) rfl)<|Gd rfl (fun hq=>Zsx (i:=10) rfl rfl Zfq (Zi rfl hq) rfl (Zi rfl hq))<|Gd rfl (fun hq=>Z2s rfl rfl (Zi rfl hq) (vk rfl))<|Ac (Z4d rfl rfl (vt rfl) (vt rfl)) rfl<|Nl<|Cq rfl h (fun h=>?_) (fun h=>?_)
  ·refine SR<|Ac (Zv (A:=rd (Z1 (Z0 .u8)) []) rfl rfl Z1j) rfl<|Ak rfl<|Nl<|rt ?_
   cases h;exact Z1f Tryz.results110 rfl (Z5 rfl) (Z5 rfl)
  ·refine sk<|sq ?_
   obtain ⟨x14,hx14,h⟩:=Z7 h
   refine Rg<|Ld Z2b 8 rfl<|Cl [31] (Yjs _ _ hx14) Yen rfl<|As rfl<|Nl<|sq ?_
   obtain ⟨x15,hx15,x16,hx16,h⟩:=bs2 h
   refine Rg<|Mw rfl<|Zk Zfa Zjo rfl<|Ld Zo 8 rfl<|Ac (Yi5 (xs:=[.tmp 33,.tmp 35,.const (Value.int IntKind.i64 2)]) 1001 (Zrk _ _ _ _ hx15) e99 rfl rfl ⟨vL rfl rfl,vB (vt rfl),vB (vk rfl),trivial⟩) rfl<|Md rfl<|Ac (Z0i rfl rfl Z8j (vt rfl)) rfl<|Ac (Z05 rfl rfl (vk rfl) (vt rfl)) rfl<|Cv rfl (Z1c 1002 (xs:=[.tmp 36,.tmp 39,.const (Value.int IntKind.i64 2)]) (Zrk _ _ _ _ hx16) e99 rfl rfl ⟨vt rfl,vt rfl,vk rfl,trivial⟩ rfl) fun v17=>AOps.renameD 1002 1001 (by decide) rfl<|Aw rfl<|Nl ?_
   obtain ⟨l18,hl18,h⟩:=Z7 h
   refine Rg<|Mw rfl<|Md rfl<|Cv rfl (Z2f 1001 hl18 rfl rfl Zmo (vt rfl) rfl (vt rfl)) fun v19=>Aw rfl<|Nl<|Rg<|Ac (Z13 (t:=11) rfl rfl (vt rfl) (vk rfl) (vt rfl) hlti9) rfl<|Md rfl<|Nl ?_
   exact ⟨(_,_,_,_,_),Nat.lt_succ_self _,⟨hsf1.next,h⟩,FX rfl⟩
def Zm9 (k1:Int)(x2:Int):Option Fault:=
 some (⟨true,k1,x2⟩:Fault)
theorem Zuy:Q2 Tryz.prog 190 (rd (Z0 .i64)) (rd (Z0 .i64)) (rd Z3u) Zm9:=fun k1 x2 r h=>I0 Tryz.func190 rfl Tryz.ntmps190 rfl fun w H Z=>by
 unfold Zm9 at h
 refine SR<|Cv rfl (Zm 5 rfl rfl Z6x) fun g3=>Nl<|SR<|Md rfl<|Md rfl<|Ac (opb (⟨true,k1,x2⟩:Fault) Z6x rfl Zeb (pc Zt8 vb<|pc Ztg (vt rfl)<|pc Zxg (vt rfl)<|pn rfl)) rfl<|Zf Z2x 5 rfl<|Nl<|rt ?_
 cases h;exact Zd Tryz.results190 rfl (Zx rfl (i:=5) rfl Z2x)
def Zuw (m1:flowmod_mod):Option Bool:=
 some ((decide (m1.FlowMod.Command≥0))&&(decide (m1.FlowMod.Command≤2)))
theorem Yea:Q1 Tryz.prog 191 (rp Z4b) (rd Z6) Zuw:=fun m1 r h=>I0 Tryz.func191 rfl Tryz.ntmps191 rfl fun w H Z=>by
 unfold Zuw at h
 refine SR<|Ab rfl<|Nl<|SR<|Mr rfl<|Ac (Z39 rfl rfl (vt rfl)) rfl<|Fp lflowmod_mod_0 Z5c rfl<|Fp lFlowMod_3 Zmj rfl<|Lp1 Zo rfl<|Ac (Z45 rfl rfl (vt rfl) (vk rfl)) rfl<|Md rfl<|Gd rfl (fun hq=>Zq (A:=rp Z4b m1) rfl rfl (vt rfl))<|Gd rfl (fun hq=>Z39 rfl rfl (Zi rfl hq))<|Gd rfl (fun hq=>Z7c lflowmod_mod_0 rfl rfl Z5c (Zi rfl hq))<|Gd rfl (fun hq=>Z7c lFlowMod_3 rfl rfl Zmj (Zi rfl hq))<|Gd rfl (fun hq=>Zav rfl rfl Zo (Zi rfl hq))<|Gd rfl (fun hq=>Z68 rfl rfl (Zi rfl hq) (vk rfl))<|Ac (Z1m rfl rfl (vt rfl) (vt rfl)) rfl<|As rfl<|Nl<|rt ?_
 cases h;exact Zd Tryz.results191 rfl (Z5 rfl)
def Y8s (m1:flowmod_mod)(l2:(List Action)):Option Bool:=none
theorem Yju (m1:flowmod_mod)(l2:(List Action))(r:Bool)(h:Y8s m1 l2=some r):PCon Tryz.prog 192 [rp Z4b m1,rd (Z1 Z9) l2] (rd Z6 r):=by cases h
def Znu (x1:FlowMod):(List Inst)→Nat→Option Fault
 | [],i8=>some (⟨false,0,0⟩:Fault)
 | x10::l9,i8=>(Y8s (⟨x1⟩:flowmod_mod) x10.Acts).bind fun x12=>(bif (!x12) then (Zm9 2 10).bind fun x13=>some x13 else (Znu x1 l9) (i8+1))
def Zy8 (x1:FlowMod):Option Fault:=
 (bif ((decide ((((⟨x1⟩:flowmod_mod).FlowMod).Command)<0))||(decide ((((⟨x1⟩:flowmod_mod).FlowMod).Command)>4))) then (Zm9 5 6).bind fun x5=>some x5 else (bif (decide ((((⟨x1⟩:flowmod_mod).FlowMod).Flags)>31)) then (Zm9 5 7).bind fun x6=>some x6 else (Zuw (⟨x1⟩:flowmod_mod)).bind fun x7=>(bif (!x7) then some (⟨false,0,0⟩:Fault) else Znu x1 (((⟨x1⟩:flowmod_mod).FlowMod).Insts) 0)))
theorem Yny:Q1 Tryz.prog 111 (rd Z3c) (rd Z3u) Zy8:=fun x1 r h=>I0 Tryz.func111 rfl Tryz.ntmps111 rfl fun w H Z=>by
 unfold Zy8 at h
 refine SR<|Cv rfl (Zs 2 rfl rfl (vt rfl)) fun g2=>Cv rfl (Zm 3 rfl rfl Z6x) fun g3=>Nl<|SR<|Ld Zel 2 rfl<|Ac (opb (⟨x1⟩:flowmod_mod) Y0p rfl Y0u (pc Y4q (vt rfl)<|pn rfl)) rfl<|Cv rfl (Zs 9 rfl rfl (vt rfl)) fun g4=>Ac (Zv (A:=Zb g4 (Lens.id Z4b)) rfl rfl (vt rfl)) rfl<|Nl<|sq<|bk<|SR<|Mp rfl<|Nc rfl<|Zk lflowmod_mod_0 Z5c rfl<|Zk lFlowMod_3 Zmj rfl<|Ld Zo 9 rfl<|Ac (Zj rfl rfl (vt rfl) (vk rfl)) rfl<|Md rfl<|Gd rfl (fun hq=>Zq (A:=Zb g4 (Lens.id Z4b)) rfl rfl (vt rfl))<|Gd rfl (fun hq=>Zql rfl rfl (Zi rfl hq))<|Gd rfl (fun hq=>Z2v lflowmod_mod_0 rfl rfl Z5c (Zi rfl hq))<|Gd rfl (fun hq=>Z2v lFlowMod_3 rfl rfl Zmj (Zi rfl hq))<|Gd rfl (fun hq=>Z1z rfl rfl Zo (Zi rfl hq) (i:=9) rfl)<|Gd rfl (fun hq=>Z2s rfl rfl (Zi rfl hq) (vk rfl))<|Ac (Z4d rfl rfl (vt rfl) (vt rfl)) rfl<|As rfl<|Nl<|Cq rfl h (fun h=>?_) (fun h=>?_)
 ·refine sq ?_
  obtain ⟨x5,hx5,h⟩:=Z7 h
  refine Rg<|Ac (Z0g (xs:=[.const (Value.int IntKind.i64 5),.const (Value.int IntKind.i64 6)]) (Zuy _ _ _ hx5) Zxr rfl rfl ⟨vk rfl,vk rfl,trivial⟩) rfl<|Zf Z2x 3 rfl<|Nl<|rt ?_
  cases h;exact Zd Tryz.results111 rfl (Zx rfl (i:=3) rfl Z2x)
 ·refine SR<|Mp rfl<|Nc rfl<|Zk lflowmod_mod_0 Z5c rfl<|Zk lFlowMod_10 Zok rfl<|Ld Zo 9 rfl<|Ac (Z2s rfl rfl (vt rfl) (vk rfl)) rfl<|As rfl<|Nl<|Cq rfl h (fun h=>?_) (fun h=>?_)
  ·refine sq ?_
   obtain ⟨x6,hx6,h⟩:=Z7 h
   refine Rg<|Ac (Z0g (xs:=[.const (Value.int IntKind.i64 5),.const (Value.int IntKind.i64 7)]) (Zuy _ _ _ hx6) Zxr rfl rfl ⟨vk rfl,vk rfl,trivial⟩) rfl<|Zf Z2x 3 rfl<|Nl<|rt ?_
   cases h;exact Zd Tryz.results111 rfl (Zx rfl (i:=3) rfl Z2x)
  ·refine sq<|AW.freezesB [3,8,10,11,26,27] 9 rfl ⟨rfl,rfl,rfl,rfl,rfl,rfl,trivial⟩ rfl ?_
   obtain ⟨x7,hx7,h⟩:=Z7 h
   refine Rg<|Mr rfl<|Cl [34] (Yea _ _ hx7) Ygm rfl<|Ac (Z0z rfl rfl (vt rfl)) rfl<|As rfl<|Nl<|Cq rfl h (fun h=>?_) (fun h=>?_)
   ·refine SR<|Ac (opb (⟨false,0,0⟩:Fault) Z6x rfl Zeb (pn rfl)) rfl<|Zf Z2x 3 rfl<|Nl<|rt ?_
    cases h;exact Zd Tryz.results111 rfl (Zx rfl (i:=3) rfl Z2x)
   ·refine sk<|sq<|SR<|Mr rfl<|Ac (Z39 rfl rfl (vt rfl)) rfl<|Fp lflowmod_mod_0 Z5c rfl<|Fp lFlowMod_12 Zs7 rfl<|Lp1 Z69 rfl<|Ac (Z0i rfl rfl Z50 (vt rfl)) rfl<|Mk rfl<|Nl<|bk<|LG (d:=[]) (ν:=(List Inst)×Nat) (fun (l9,i8)=>(Sfx (((⟨x1⟩:flowmod_mod).FlowMod).Insts) i8 l9∧Znu x1 l9 i8=some r,l9.length,[(2,Zb g3 (Lens.id Z3u)),(3,rp Z4b (⟨x1⟩:flowmod_mod)),(42,rd (Z1 Z0b) (((⟨x1⟩:flowmod_mod).FlowMod).Insts)),(43,rd (Z0 .i64) ((((⟨x1⟩:flowmod_mod).FlowMod).Insts).length:Int)),(44,rd (Z0 .i64) (i8:Int))],[(3,Zh g3 98 Z3u Zne)])) ((((⟨x1⟩:flowmod_mod).FlowMod).Insts),0) ⟨Sfx.start _,h⟩ (FX rfl) ?_
    rintro ⟨l9,i8⟩ ⟨hsf1,h⟩
    dsimp only at hsf1 h ⊢
    cases l9 with
    | nil=>
     unfold Znu at h
     refine SR<|Ac (Zj rfl rfl (vt rfl) (vt rfl)) rfl<|Nl<|sq<|Cn rfl (fun hc=>absurd (of_decide_eq_true hc) hsf1.nil) (fun hc=>?_)
     refine xt<|SR<|Ac (opb (⟨false,0,0⟩:Fault) Z6x rfl Zeb (pn rfl)) rfl<|Zf Z2x 3 rfl<|Nl<|rt ?_
     cases h;exact Zd Tryz.results111 rfl (Zx rfl (i:=3) rfl Z2x)
    | cons x10 l9=>
     unfold Znu at h
     refine SR<|Ac (Zj rfl rfl (vt rfl) (vt rfl)) rfl<|Nl<|sq<|Cn rfl (fun hc=>?_) (fun hc=>absurd hsf1.cons (of_decide_eq_false hc))
     have hlti8:=of_decide_eq_true hc
     refine sk<|sq<|bk<|SR<|Ac (Z0j rfl rfl Z50 (vt rfl) (vt rfl) hsf1.lget) rfl<|Lp1 Z2b rfl<|Cv rfl (Zm 6 rfl rfl Z3k) fun g11=>Zf Z2b 6 rfl<|Nl<|sq ?_
     obtain ⟨x12,hx12,h⟩:=Z7 h
     refine Rg<|Mr rfl<|Zk Z6g Z7h rfl<|Ld Z34 6 rfl<|Cl [48,50] (Yju _ _ _ hx12) Yxy rfl<|Ac (Z0z rfl rfl (vt rfl)) rfl<|Nl<|Cq rfl h (fun h=>?_) (fun h=>?_)
     ·refine sq ?_
      obtain ⟨x13,hx13,h⟩:=Z7 h
      refine Rg<|Ac (Z0g (xs:=[.const (Value.int IntKind.i64 2),.const (Value.int IntKind.i64 10)]) (Zuy _ _ _ hx13) Zxr rfl rfl ⟨vk rfl,vk rfl,trivial⟩) rfl<|Zf Z2x 3 rfl<|Nl<|rt ?_
      cases h;exact Zd Tryz.results111 rfl (Zx rfl (i:=3) rfl Z2x)
     ·refine sk<|Rg<|Ac (Z13 (t:=43) rfl rfl (vt rfl) (vk rfl) (vt rfl) hlti8) rfl<|Md rfl<|Nl ?_
      exact ⟨(_,_),Nat.lt_succ_self _,⟨hsf1.next,h⟩,FX rfl⟩
def Zkt (x1:FlowMod)(x4:Zza):(List Int)→Nat→Option Bool
 | [],i7=>(Zyb (((⟨x1⟩:flowmod_mod).FlowMod).Match)).bind fun x9=>(Zyw (((⟨x1⟩:flowmod_mod).FlowMod).Insts)).bind fun x10=>(opt ((decide (x9.2=0))&&(decide (x10.2=0))) (Zy8 x1)).bind fun x11=>some (((decide (x9.2=0))&&(decide (x10.2=0)))&&(!x11.Is))
 | x12::l8,i7=>(chk 9 (i7:Int)).bind fun j13=>(Zot x12 (Vector.get x4 j13)).bind fun x14=>(bif (!x14) then some false else (Zkt x1 x4 l8) (i7+1))
def Ztu (x1:FlowMod):Option Bool:=
 (Zxf).bind fun x4=>(Ztz (⟨x1⟩:flowmod_mod)).bind fun x6=>Zkt x1 x4 (Vector.toList x6) 0
theorem Yx4:Q1 Tryz.prog 49 (rd Z3c) (rd Z6) Ztu:=fun x1 r h=>I0 Tryz.func49 rfl Tryz.ntmps49 rfl fun w H Z=>by
 unfold Ztu at h
 refine SR<|Cv rfl (Zs 2 rfl rfl (vt rfl)) fun g2=>Ab rfl<|Nl<|SR<|Ld Zel 2 rfl<|Ac (opb (⟨x1⟩:flowmod_mod) Y0p rfl Y0u (pc Y4q (vt rfl)<|pn rfl)) rfl<|Cv rfl (Zs 14 rfl rfl (vt rfl)) fun g3=>Ac (Zv (A:=Zb g3 (Lens.id Z4b)) rfl rfl (vt rfl)) rfl<|Nl<|sq ?_
 obtain ⟨x4,hx4,h⟩:=Z7 h
 refine Rg<|Cl [] (Yeb _ hx4) Yqv rfl<|Cv rfl (Zm 5 rfl rfl Zme) fun g5=>Zf Zlz 5 rfl<|Nl<|sq<|sq<|AW.freezesB [3,13] 14 rfl ⟨rfl,rfl,trivial⟩ rfl ?_
 obtain ⟨x6,hx6,h⟩:=Z7 h
 refine Rg<|Mr rfl<|Cl [15] (Ydw _ _ hx6) Yes rfl<|Mk rfl<|Nl<|bk<|LG (d:=[]) (ν:=(List Int)×Nat) (fun (l8,i7)=>(Sfx (Vector.toList x6) i7 l8∧Zkt x1 x4 l8 i7=some r,l8.length,[(1,Zb g2 (Lens.id Z3c)),(3,rp Z4b (⟨x1⟩:flowmod_mod)),(4,Zb g5 (Lens.id (Z3 9 (Z0 .i64)))),(16,rd (Z3 9 (Z0 .i64)) x6),(17,rd (Z0 .i64) (i7:Int))],[(2,Zh g2 95 Z3c x1),(5,Zh g5 180 (Z3 9 (Z0 .i64)) x4)])) ((Vector.toList x6),0) ⟨Sfx.start _,h⟩ (FX rfl) ?_
 rintro ⟨l8,i7⟩ ⟨hsf1,h⟩
 dsimp only at hsf1 h ⊢
 cases l8 with
 | nil=>
  unfold Zkt at h
  refine SR<|Ac (Zj rfl rfl (vt rfl) (vk rfl)) rfl<|Nl<|sq<|Cn rfl (fun hc=>absurd (of_decide_eq_true hc) (hsf1.niln (by simp))) (fun hc=>?_)
  refine xt<|sq ?_
  obtain ⟨x9,hx9,h⟩:=Z7 h
  refine Rg<|Mr rfl<|Ac (Z39 rfl rfl (vt rfl)) rfl<|Fp lflowmod_mod_0 Z5c rfl<|Fp lFlowMod_11 Zwf rfl<|Lp1 Zca rfl<|Cl [33] (Ytz _ _ hx9) Yq5 rfl<|Mt2 rfl<|Ac (Z1e rfl rfl (vt rfl)) rfl<|Ac (Z1a rfl rfl (vt rfl)) rfl<|As rfl<|As rfl<|Nl<|sq ?_
  obtain ⟨x10,hx10,h⟩:=Z7 h
  refine Rg<|Mr rfl<|Ac (Z39 rfl rfl (vt rfl)) rfl<|Fp lflowmod_mod_0 Z5c rfl<|Fp lFlowMod_12 Zs7 rfl<|Lp1 Z69 rfl<|Cl [42] (Yy7 _ _ hx10) Yjb rfl<|Mt2 rfl<|Ac (Z1e rfl rfl (vt rfl)) rfl<|Ac (Z1a rfl rfl (vt rfl)) rfl<|As rfl<|As rfl<|Nl<|sq ?_
  obtain ⟨x11,hx11,h⟩:=Z7 h
  refine Rg<|Md rfl<|Ac (Z0m rfl rfl (vt rfl) (vk rfl)) rfl<|Md rfl<|Gd rfl (fun hq=>Zq (A:=rd (Z0 .i64) x10.2) rfl rfl (vt rfl))<|Gd rfl (fun hq=>Z0m rfl rfl (Zi rfl hq) (vk rfl))<|Ac (Z1m rfl rfl (vt rfl) (vt rfl)) rfl<|Md rfl<|Gd rfl (fun hq=>Z1z rfl rfl Zel (vt rfl) (i:=2) rfl)<|Gd rfl (fun hq=>Z0g (xs:=[.tmp 53]) (Yny _ _ (Z2j hx11 hq)) Ywp rfl rfl ⟨Zi rfl hq,trivial⟩)<|Gd rfl (fun hq=>Zgz lFault_0 rfl rfl Zqi Zrf ty4 rfl (Zi rfl hq))<|Gd rfl (fun hq=>Z0z rfl rfl (Zi rfl hq))<|Ac (Z1m rfl rfl (vt rfl) (vt rfl)) rfl<|As rfl<|Nl<|rt ?_
  cases h;exact Zd Tryz.results49 rfl (Z5 rfl)
 | cons x12 l8=>
  unfold Zkt at h
  refine SR<|Ac (Zj rfl rfl (vt rfl) (vk rfl)) rfl<|Nl<|sq<|Cn rfl (fun hc=>?_) (fun hc=>absurd (hsf1.consn (by simp)) (of_decide_eq_false hc))
  have hlti7:=of_decide_eq_true hc
  refine sk<|sq<|bk<|SR<|Md rfl<|Ac (Z8w rfl rfl Yal Zo (vt rfl) (vt rfl) hsf1.lget) rfl<|As rfl<|As rfl<|Nl<|sq ?_
  obtain ⟨j13,hj13,x14,hx14,h⟩:=bs2 h
  refine Rg<|Md rfl<|Md rfl<|Ac (Z19 rfl rfl Yal (vt rfl) (vt rfl) hj13) rfl<|Ld Zo 5 rfl<|Cl [21,24] (Y2w _ _ _ hx14) Y4f rfl<|Ac (Z0z rfl rfl (vt rfl)) rfl<|Nl<|Cq rfl h (fun h=>?_) (fun h=>?_)
  ·refine SR<|Ab rfl<|Nl<|rt ?_
   cases h;exact Zd Tryz.results49 rfl (Z5 rfl)
  ·refine sk<|Rg<|Ac (Z5r rfl rfl (vt rfl) (vk rfl) rfl hlti7) rfl<|Md rfl<|Nl ?_
   exact ⟨(_,_),Nat.lt_succ_self _,⟨hsf1.next,h⟩,FX rfl⟩
end Go.Proofs.YtinplddjjalohaaGreatDoor.W
set_option maxHeartbeats 1000000
set_option maxRecDepth 4000
namespace Go.Proofs.YtinplddjjalohaaGreatDoor.W
open Go Go.Wb
theorem Y89:Ent Tryz.prog 113:=Ent.mk Tryz.func113 rfl rfl
theorem Yq9:Ent Tryz.prog 114:=Ent.mk Tryz.func114 rfl rfl
theorem e37:Ent Tryz.prog 37:=Ent.mk Tryz.func37 rfl rfl
theorem e51:Ent Tryz.prog 51:=Ent.mk Tryz.func51 rfl rfl
theorem Ymy:Ent Tryz.prog 242:=Ent.mk Tryz.func242 rfl rfl
theorem e52:Ent Tryz.prog 52:=Ent.mk Tryz.func52 rfl rfl
theorem e50:Ent Tryz.prog 50:=Ent.mk Tryz.func50 rfl rfl
theorem e49:Ent Tryz.prog 49:=Ent.mk Tryz.func49 rfl rfl
theorem Ydj:Ent Tryz.prog 160:=Ent.mk Tryz.func160 rfl rfl
theorem e83:Ent Tryz.prog 83:=Ent.mk Tryz.func83 rfl rfl
theorem e84:Ent Tryz.prog 84:=Ent.mk Tryz.func84 rfl rfl
theorem e38:Ent Tryz.prog 38:=Ent.mk Tryz.func38 rfl rfl
def Zrw (k1:Int)(x2:Int):Option Err:=
 some (Err.e265 (⟨(⟨true,k1,x2⟩:Fault)⟩:state_refused))
theorem Yay:Q2 Tryz.prog 113 (rd (Z0 .i64)) (rd (Z0 .i64)) (rd Z59) Zrw:=fun k1 x2 r h=>I0 Tryz.func113 rfl Tryz.ntmps113 rfl fun w H Z=>by
 unfold Zrw at h
 refine SR<|Ac (Zv (A:=rd Z59 Err.no) rfl rfl (vne rfl)) rfl<|Nl<|SR<|Md rfl<|Md rfl<|Ac (opb (⟨true,k1,x2⟩:Fault) Z6x rfl Zeb (pc Zt8 vb<|pc Ztg (vt rfl)<|pc Zxg (vt rfl)<|pn rfl)) rfl<|Ac (opb (⟨(⟨true,k1,x2⟩:Fault)⟩:state_refused) Y9c rfl Yl2 (pc Yon (vt rfl)<|pn rfl)) rfl<|Ac (Zr9 (d:=Zi0) (Err.e265 (⟨(⟨true,k1,x2⟩:Fault)⟩:state_refused)) rfl rfl Yo7 rfl (vt rfl)) rfl<|As rfl<|Nl<|rt ?_
 cases h;exact Zd Tryz.results113 rfl (Z5 rfl)
def Yb5 (l1:(List Group))(i2:(List Int)):Option Bool:=none
theorem Yia (l1:(List Group))(i2:(List Int))(r:Bool)(h:Yb5 l1 i2=some r):PCon Tryz.prog 114 [rd (Z1 Z0e) l1,rd (Z1 (Z0 .i64)) i2] (rd Z6 r):=by cases h
def Zpy (x6:Inst)(w1:state_work)(go1:Nat→Option Err)(i4:Nat)(x9:Bool):Option Err:=
 (bif x9 then (Zz5 x6.Acts).bind fun x10=>(Yb5 w1.Switch.Groups x10).bind fun x11=>(bif x11 then (Zrw 2 9).bind fun x12=>some x12 else go1 (i4+1)) else go1 (i4+1))
def Zda (a2:Int)(w1:state_work):(List Inst)→Nat→Option Err
 | [],i4=>some Err.no
 | x6::l5,i4=>(bif (decide (x6.Kind=1)) then (bif ((decide (x6.Table≤a2))||(decide (x6.Table≥4))) then (Zrw 3 2).bind fun x8=>some x8 else (Zda a2 w1 l5) (i4+1)) else (bif (decide (x6.Kind=3)) then Zpy x6 w1 (Zda a2 w1 l5) i4 (decide (x6.Kind=3)) else Zpy x6 w1 (Zda a2 w1 l5) i4 (decide (x6.Kind=4))))
def Zux (w1:state_work)(a2:Int)(l3:(List Inst)):Option Err:=
 Zda a2 w1 l3 0
theorem Ywy:Q3 Tryz.prog 51 (rp Zag) (rd (Z0 .i64)) (rd (Z1 Z0b)) (rd Z59) Zux:=fun w1 a2 l3 r h=>I0 Tryz.func51 rfl Tryz.ntmps51 rfl fun w H Z=>by
 unfold Zux at h
 refine SR<|Ac (Zv (A:=rd Z59 Err.no) rfl rfl (vne rfl)) rfl<|Nl<|sq<|SR<|Md rfl<|Ac (Z0i rfl rfl Z50 (vt rfl)) rfl<|Mk rfl<|Nl<|bk<|LG (d:=[]) (ν:=(List Inst)×Nat) (fun (l5,i4)=>(Sfx l3 i4 l5∧Zda a2 w1 l5 i4=some r,l5.length,[(0,rp Zag w1),(1,rd (Z0 .i64) a2),(9,rd (Z1 Z0b) l3),(10,rd (Z0 .i64) (l3.length:Int)),(11,rd (Z0 .i64) (i4:Int))],[])) (l3,0) ⟨Sfx.start _,h⟩ (FX rfl) ?_
 rintro ⟨l5,i4⟩ ⟨hsf1,h⟩
 dsimp only at hsf1 h ⊢
 cases l5 with
 | nil=>
  unfold Zda at h
  refine SR<|Ac (Zj rfl rfl (vt rfl) (vt rfl)) rfl<|Nl<|sq<|Cn rfl (fun hc=>absurd (of_decide_eq_true hc) hsf1.nil) (fun hc=>?_)
  refine xt<|SR<|Ac (Zv (A:=rd Z59 Err.no) rfl rfl (vne rfl)) rfl<|Nl<|rt ?_
  cases h;exact Zd Tryz.results51 rfl (Z5 rfl)
 | cons x6 l5=>
  unfold Zda at h
  refine SR<|Ac (Zj rfl rfl (vt rfl) (vt rfl)) rfl<|Nl<|sq<|Cn rfl (fun hc=>?_) (fun hc=>absurd hsf1.cons (of_decide_eq_false hc))
  have hlti4:=of_decide_eq_true hc
  refine sk<|sq<|bk<|SR<|Ac (Z0j rfl rfl Z50 (vt rfl) (vt rfl) hsf1.lget) rfl<|Lp1 Z2b rfl<|Cv rfl (Zm 9 rfl rfl Z3k) fun g7=>Zf Z2b 9 rfl<|Nl<|SR<|Zk Zfa Zjo rfl<|Ld Zo 9 rfl<|Nl<|bk<|SR<|Ac (Z0m rfl rfl (vt rfl) (vk rfl)) rfl<|As rfl<|Nl<|Cq rfl h (fun h=>?_) (fun h=>?_)
  ·refine SR<|Zk Z84 Z8s rfl<|Ld Zo 9 rfl<|Md rfl<|Ac (Z68 rfl rfl (vt rfl) (vt rfl)) rfl<|Md rfl<|Gd rfl (fun hq=>Z2v Z84 rfl rfl Z8s (vt rfl))<|Gd rfl (fun hq=>Z1z rfl rfl Zo (Zi rfl hq) (i:=9) rfl)<|Gd rfl (fun hq=>Z45 rfl rfl (Zi rfl hq) (vk rfl))<|Ac (Z4d rfl rfl (vt rfl) (vt rfl)) rfl<|Nl<|Cq rfl h (fun h=>?_) (fun h=>?_)
   ·refine sq ?_
    obtain ⟨x8,hx8,h⟩:=Z7 h
    refine Rg<|Ac (Z0g (xs:=[.const (Value.int IntKind.i64 3),.const (Value.int IntKind.i64 2)]) (Yay _ _ _ hx8) Y89 rfl rfl ⟨vk rfl,vk rfl,trivial⟩) rfl<|As rfl<|Nl<|rt ?_
    cases h;exact Zd Tryz.results51 rfl (Z5 rfl)
   ·refine sk<|Rg<|Ac (Z13 (t:=10) rfl rfl (vt rfl) (vk rfl) (vt rfl) hlti4) rfl<|Md rfl<|Nl ?_
    exact ⟨(_,_),Nat.lt_succ_self _,⟨hsf1.next,h⟩,FX rfl⟩
  ·refine JN (d:=[]) (ν:=Bool) (fun x9=>(Zpy x6 w1 (Zda a2 w1 l5) i4 x9=some r,[(0,rp Zag w1),(1,rd (Z0 .i64) a2),(8,Zb g7 (Lens.id Z0b)),(9,rd (Z1 Z0b) l3),(10,rd (Z0 .i64) (l3.length:Int)),(11,rd (Z0 .i64) (i4:Int)),(29,rd Z6 x9)],[(9,Zh g7 140 Z0b x6)])) ?hx2 ?hy2
   case hy2=>
    intro x9 h
    dsimp only at h ⊢
    unfold Zpy at h
    refine Cq rfl h (fun h=>?_) (fun h=>?_)
    ·refine sq ?_
     obtain ⟨x10,hx10,x11,hx11,h⟩:=bs2 h
     refine AR Z00 (by kernel_rfl)<|Sd (lo [0] [] rfl fun S hs hr=>Zq (A:=rp Zag w1) rfl rfl (vh hs 0 rfl rfl))<|Sd (lo [32] [] rfl fun S hs hr=>Z39 rfl rfl (vh hs 32 rfl rfl))<|SFp lstate_work_0 Y9g rfl<|SFp lSwitch_1 Zsd rfl<|SLp Zdk rfl<|SFd Z6g Z7h rfl<|Zp Z34 9 rfl<|SCl [38] (Y66 _ _ hx10) Y5n rfl<|SCl [36,39] (Yia _ _ _ hx11) Yq9 rfl<|Sn<|Cq rfl h (fun h=>?_) (fun h=>?_)
     ·refine sq ?_
      obtain ⟨x12,hx12,h⟩:=Z7 h
      refine Rg<|Ac (Z0g (xs:=[.const (Value.int IntKind.i64 2),.const (Value.int IntKind.i64 9)]) (Yay _ _ _ hx12) Y89 rfl rfl ⟨vk rfl,vk rfl,trivial⟩) rfl<|As rfl<|Nl<|rt ?_
      cases h;exact Zd Tryz.results51 rfl (Z5 rfl)
     ·refine sk<|Rg<|Ac (Z13 (t:=10) rfl rfl (vt rfl) (vk rfl) (vt rfl) hlti4) rfl<|Md rfl<|Nl ?_
      exact ⟨(_,_),Nat.lt_succ_self _,⟨hsf1.next,h⟩,FX rfl⟩
    ·refine sk<|Rg<|Ac (Z13 (t:=10) rfl rfl (vt rfl) (vk rfl) (vt rfl) hlti4) rfl<|Md rfl<|Nl ?_
     exact ⟨(_,_),Nat.lt_succ_self _,⟨hsf1.next,h⟩,FX rfl⟩
   case hx2=>
    refine SR<|Ac (Z0m rfl rfl (vt rfl) (vk rfl)) rfl<|As rfl<|Nl<|Cq rfl h (fun h=>?_) (fun h=>?_)
    ·refine sk ?_
     exact ⟨_,h,FX rfl⟩
    ·refine Rg<|Ac (Z0m rfl rfl (vt rfl) (vk rfl)) rfl<|As rfl<|Nl ?_
     exact ⟨_,h,FX rfl⟩
theorem Y9k {w:World}{H:HS}(h:Amb Tryz.prog w H):w.cell? ⟨0,0,none⟩=some (.iface 230 (.agg #[.pointer (some ⟨1,88,none⟩)])):=by
 obtain ⟨_,_,u,t,h1,h2,h3,h4⟩:=h 0 (by kernel_rfl)
 obtain rfl:=Option.some.inj ((show (Tryz.prog.cutTypes.find? (·.1=="internal/reflectlite.rtype")).map (·.2)=some 230 by kernel_rfl).symm.trans h1)
 have hm:t∈(List.range 450).filter fun t=>Tryz.prog.rowNamed t [101,114,114,111,114]:=List.mem_filter.2 ⟨List.mem_range.2 (by rw [←show Tryz.prog.types.size=450 by kernel_rfl];exact h2),h3⟩
 rw [show ((List.range 450).filter fun t=>Tryz.prog.rowNamed t [101,114,114,111,114])=[88] by kernel_rfl] at hm
 obtain rfl:=List.mem_singleton.1 hm
 rw [show typeHandle Tryz.prog 88= .pointer (some ⟨1,88,none⟩) by kernel_rfl] at h4
 exact h4
open Go.RowKit Go.Extern.Stop Go.Stop Go.Extern in
theorem Y11 (t:Value)(w:World):Calls Tryz.prog 37 #[.nilIface,t] w fun e w'=>e= .returned (.bool false)∧w'=w:=by
 go_enter Tryz.func37,Tryz.ntmps37
 go_wp2
 go_ret
 exact ⟨rfl,rfl⟩
open Go.Extern in
theorem Y65 (h:Value)(w:World):(Go.method 550 230 (.agg #[h]) "Kind").run Tryz.prog w= .ok (415,h) w:=by kernel_rfl
theorem Yas (h:Value)(w:World):(Go.method 550 230 (.agg #[h]) "Elem").run Tryz.prog w= .ok (426,.agg #[h]) w:=by kernel_rfl
theorem Y8c (h:Value)(w:World):(Go.method 550 230 (.agg #[h]) "Implements").run Tryz.prog w= .ok (427,.agg #[h]) w:=by kernel_rfl
theorem Y0g (h:Value)(w:World):(Go.method 550 230 (.agg #[h]) "AssignableTo").run Tryz.prog w= .ok (424,.agg #[h]) w:=by kernel_rfl
open Go.Extern in
theorem Zq0 (z:Sem Value)(f:TypeId→Addr→Nat→Nat→Sem Value)(v:Value):
  ReflectliteValue.method z f #[v]=(do match ←ReflectliteValue.parts v with | none=>z | some (t,a,fl)=>f t a fl (fl % 32)):=rfl
open Go.Extern in
theorem Y20 (v x:Value):ReflectliteValue.set #[v,x]=(do
  let (some (dst,a,fl),some (src,b,_)):=(←ReflectliteValue.parts v,←ReflectliteValue.parts x)
   | unsupported (.noEntry "extern/(internal/reflectlite.Value).Set.zeroValue")
  if fl / ReflectliteValue.flagAddr % 2==0 then unsupported (.noEntry "extern/(internal/reflectlite.Value).Set.unaddressable")
  let val ←loadVar src b
  if ←Rtype.directlyAssignable dst src then storeVar dst a val
  else if ←Rtype.implements dst src then
   if (←Rtype.kind src)==20 then
    match val with
    | .nilIface=>unsupported (.noEntry "extern/reflectlite: a nil value of one interface type handed on as a value of another")
    | _=>storeVar dst a val
   else storeVar dst a (.iface src val)
  else panicString ("reflectlite.Set: value of type "++(←Rtype.spelt src)++" is not assignable to type "++(←Rtype.spelt dst))
  pure (.tuple #[])):=rfl
section
open Go.RowKit Go.Extern.Stop Go.Stop Go.Extern
theorem Ywb (t:Addr)(w:World):(ReflectliteValue.unpack (.iface 90 (.pointer (some t)))).run Tryz.prog w= .ok (.agg #[.pointer (some ⟨1,90,none⟩),.pointer (some ⟨w.heap.size,0,none⟩),.int .u64 150]) (w.alloc (.cells #[.pointer (some t)] 90)):=by kernel_rfl
theorem Yxw (a:Addr)(w:World):(ReflectliteValue.methodAny (ReflectliteValue.valueError "reflectlite.Value.Type" 0) (fun t _ _ _=>ReflectliteType.toType t) #[.agg #[.pointer (some ⟨1,90,none⟩),.pointer (some a),.int .u64 150]]).run Tryz.prog w= .ok (.iface 230 (.agg #[.pointer (some ⟨1,90,none⟩)])) w:=by kernel_rfl
theorem Yhl (w:World):((ReflectliteType.abiMethod fun t=>(fun a:Nat=>Value.int IntKind.u8 (a:Int))<$>Rtype.kind t) #[.pointer (some ⟨1,90,none⟩)]).run Tryz.prog w= .ok (.int .u8 22) w:=by kernel_rfl
theorem Yl4 (w:World):((ReflectliteType.abiMethod fun t=>(fun a:Nat=>Value.int IntKind.u8 (a:Int))<$>Rtype.kind t) #[.pointer (some ⟨1,85,none⟩)]).run Tryz.prog w= .ok (.int .u8 25) w:=by kernel_rfl
theorem Y1g:Tryz.prog.underlying 90=some (.pointer 85):=by kernel_rfl
theorem Ybx (a:Addr)(w:World):(ReflectliteValue.parts (.agg #[.pointer (some ⟨1,90,none⟩),.pointer (some a),.int .u64 150])).run Tryz.prog w= .ok (some (90,a,150)) w:=by kernel_rfl
theorem Ypu (a p:Addr)(W:World)(ha:W.cell? a=some (.pointer (some p))):
  (ReflectliteValue.method (ReflectliteValue.valueError "reflectlite.Value.IsNil" 0) ReflectliteValue.isNil #[.agg #[.pointer (some ⟨1,90,none⟩),.pointer (some a),.int .u64 150]]).run Tryz.prog W= .ok (.bool false) W:=by
 rw [Zq0]
 simp only [Sem.run_bind,Ybx,Result.andThen]
 simp [ReflectliteValue.isNil,loadVar,isAgg,underlying,Y1g,ha,Result.andThen]
theorem Ykp (w:World):(ReflectliteType.method ReflectliteType.elem #[.agg #[.pointer (some ⟨1,90,none⟩)]]).run Tryz.prog w= .ok (.iface 230 (.agg #[.pointer (some ⟨1,85,none⟩)])) w:=by kernel_rfl
theorem Yvu (w:World):(ReflectliteType.relation "Implements" ReflectliteType.implements_ #[.agg #[.pointer (some ⟨1,85,none⟩)],.iface 230 (.agg #[.pointer (some ⟨1,88,none⟩)])]).run Tryz.prog w= .ok (.bool true) w:=by kernel_rfl
theorem Yt3 (v:Value)(w:World):(ReflectliteType.typeOf #[.iface 85 v]).run Tryz.prog w= .ok (.iface 230 (.agg #[.pointer (some ⟨1,85,none⟩)])) w:=by kernel_rfl
theorem Yz0 (w:World):(ReflectliteType.relation "AssignableTo" ReflectliteType.assignableTo #[.agg #[.pointer (some ⟨1,85,none⟩)],.iface 230 (.agg #[.pointer (some ⟨1,85,none⟩)])]).run Tryz.prog w= .ok (.bool true) w:=by kernel_rfl
theorem Yh5 (cs:Array Value)(w:World):(ReflectliteValue.unpack (.iface 85 (.agg cs))).run Tryz.prog w= .ok (.agg #[.pointer (some ⟨1,85,none⟩),.pointer (some ⟨w.heap.size,0,none⟩),.int .u64 153]) (w.alloc (.cells cs 85)):=by kernel_rfl
theorem Ymm (w:World):(Rtype.elem? 90).run Tryz.prog w= .ok (some 85) w:=by kernel_rfl
theorem Ycy (p:Addr)(w:World):(ReflectliteValue.mk 85 p ReflectliteValue.flagAddr).run Tryz.prog w= .ok (.agg #[.pointer (some ⟨1,85,none⟩),.pointer (some p),.int .u64 409]) w:=by kernel_rfl
theorem Ypv (a p:Addr)(W:World)(ha:W.cell? a=some (.pointer (some p))):
  (ReflectliteValue.method (ReflectliteValue.valueError "reflectlite.Value.Elem" 0) ReflectliteValue.elem #[.agg #[.pointer (some ⟨1,90,none⟩),.pointer (some a),.int .u64 150]]).run Tryz.prog W
   = .ok (.agg #[.pointer (some ⟨1,85,none⟩),.pointer (some p),.int .u64 409]) W:=by
 rw [Zq0]
 simp only [Sem.run_bind,Ybx,Result.andThen]
 simp [ReflectliteValue.elem,loadVar,isAgg,underlying,Y1g,ha,Result.andThen,Ymm,Ycy]
theorem Yte (a:Addr)(w:World):(ReflectliteValue.parts (.agg #[.pointer (some ⟨1,85,none⟩),.pointer (some a),.int .u64 409])).run Tryz.prog w= .ok (some (85,a,409)) w:=by kernel_rfl
theorem Yeo (a:Addr)(w:World):(ReflectliteValue.parts (.agg #[.pointer (some ⟨1,85,none⟩),.pointer (some a),.int .u64 153])).run Tryz.prog w= .ok (some (85,a,153)) w:=by kernel_rfl
theorem Ydv (w:World):(Rtype.directlyAssignable 85 85).run Tryz.prog w= .ok true w:=by kernel_rfl
theorem Yku (g b:Nat)(cs cur:List Value)(W:World)(hl:cs.length=Kd.sz Z7y)(hl2:cur.length=Kd.sz Z7y)(h1:∀v∈cs,v.oneCell'=true)(hb:W.heap[b]? =some (.cells cs.toArray 85 (0,0)))(hg:W.heap[g]? =some (.cells cur.toArray 85 (0,0))):
  (ReflectliteValue.set #[.agg #[.pointer (some ⟨1,85,none⟩),.pointer (some ⟨g,0,none⟩),.int .u64 409],.agg #[.pointer (some ⟨1,85,none⟩),.pointer (some ⟨b,0,none⟩),.int .u64 153]]).run Tryz.prog W= .ok (.tuple #[]) (W.setRow g cs.toArray):=by
 have h2:=Yb8 (P:=Tryz.prog) Y9l rfl hl h1 hb
 have h3:=Ybo (P:=Tryz.prog) Y9l rfl hl hl2 h1 hg
 rw [Y20]
 simp only [Sem.run_bind,Yte,Yeo,Result.andThen]
 simp [ReflectliteValue.flagAddr,h2,h3,Result.andThen,Ydv]
set_option maxHeartbeats 4000000 in
theorem Ywq (g:Nat)(cs cur:List Value)(w:World)(hg:w.cell? ⟨0,0,none⟩=some (.iface 230 (.agg #[.pointer (some ⟨1,88,none⟩)])))(hl:cs.length=Kd.sz Z7y)(hl2:cur.length=Kd.sz Z7y)(h1:∀v∈cs,v.oneCell'=true)(hc:w.heap[g]? =some (.cells cur.toArray 85 (0,0))):
  Calls Tryz.prog 37 #[.iface 85 (.agg cs.toArray),.iface 90 (.pointer (some ⟨g,0,none⟩))] w fun ev w'=>ev= .returned (.bool true)∧∃o1 o2 o3 o4,w'=((((w.alloc o1).alloc o2).alloc o3).alloc o4).setRow g cs.toArray:=by
 have h6:= @run_callFunc_extern Tryz.prog 79 _ (fun args=>ReflectliteValue.unpack (args.getD 0 (.tuple #[]))) Tryz.func79 (by kernel_rfl) (by kernel_rfl) (by kernel_rfl) (by kernel_rfl)
 have h7:= @run_callFunc_extern Tryz.prog 80 _ (ReflectliteValue.methodAny (ReflectliteValue.valueError "reflectlite.Value.Type" 0) (fun t _ _ _=>ReflectliteType.toType t)) Tryz.func80 (by kernel_rfl) (by kernel_rfl) (by kernel_rfl) (by kernel_rfl)
 have h8:= @run_callFunc_extern Tryz.prog 81 _ (ReflectliteValue.method (ReflectliteValue.valueError "reflectlite.Value.IsNil" 0) ReflectliteValue.isNil) Tryz.func81 (by kernel_rfl) (by kernel_rfl) (by kernel_rfl) (by kernel_rfl)
 have h27:= @run_callFunc_extern Tryz.prog 415 _ (ReflectliteType.abiMethod fun t=>do pure (.int .u8 (←Rtype.kind t))) Tryz.func415 (by kernel_rfl) (by kernel_rfl) (by kernel_rfl) (by kernel_rfl)
 have h37:= @run_callFunc_extern Tryz.prog 426 _ (ReflectliteType.method ReflectliteType.elem) Tryz.func426 (by kernel_rfl) (by kernel_rfl) (by kernel_rfl) (by kernel_rfl)
 have h38:= @run_callFunc_extern Tryz.prog 427 _ (ReflectliteType.relation "Implements" ReflectliteType.implements_) Tryz.func427 (by kernel_rfl) (by kernel_rfl) (by kernel_rfl) (by kernel_rfl)
 have h10:= @run_callFunc_extern Tryz.prog 156 _ ReflectliteType.typeOf Tryz.func156 (by kernel_rfl) (by kernel_rfl) (by kernel_rfl) (by kernel_rfl)
 have h35:= @run_callFunc_extern Tryz.prog 424 _ (ReflectliteType.relation "AssignableTo" ReflectliteType.assignableTo) Tryz.func424 (by kernel_rfl) (by kernel_rfl) (by kernel_rfl) (by kernel_rfl)
 have h11:= @run_callFunc_extern Tryz.prog 157 _ (ReflectliteValue.method (ReflectliteValue.valueError "reflectlite.Value.Elem" 0) ReflectliteValue.elem) Tryz.func157 (by kernel_rfl) (by kernel_rfl) (by kernel_rfl) (by kernel_rfl)
 have h12:= @run_callFunc_extern Tryz.prog 158 _ ReflectliteValue.set Tryz.func158 (by kernel_rfl) (by kernel_rfl) (by kernel_rfl) (by kernel_rfl)
 have tO:=Yt3
 have mA:=Y0g
 have a25:=Yz0
 have v25:=Yh5 cs.toArray
 have f6:=Ywb
 have f7:=Yxw
 have mK:=Y65
 have mE:=Yas
 have mI:=Y8c
 have k27:=Yhl
 have k25:=Yl4
 have e27:=Ykp
 have i25:=Yvu
 have n8:=Ypu ⟨w.heap.size,0,none⟩ ⟨g,0,none⟩ ((w.alloc (.cells #[.pointer (some ⟨g,0,none⟩)] 90)).alloc (.cells #[.pointer (some ⟨1,90,none⟩),.pointer (some ⟨w.heap.size,0,none⟩),.int .u64 150] 147)) (by simp)
 have hlt:0<w.heap.size:=by
  rcases Nat.lt_or_ge 0 w.heap.size with h | h
  ·exact h
  ·simp [World.cell?,Array.getElem?_eq_none h] at hg
 have hg2:((w.alloc (.cells #[.pointer (some ⟨g,0,none⟩)] 90)).alloc (.cells #[.pointer (some ⟨1,90,none⟩),.pointer (some ⟨w.heap.size,0,none⟩),.int .u64 150] 147)).cell? ⟨0,0,none⟩=some (.iface 230 (.agg #[.pointer (some ⟨1,88,none⟩)])):=by
  rw [World.cell?_alloc_lt _ _ ⟨0,0,none⟩ (by simp<;>omega),World.cell?_alloc_lt _ _ ⟨0,0,none⟩ hlt];exact hg
 have hgl:g<w.heap.size:=(Array.getElem?_eq_some_iff.1 hc).1
 have el:=Ypv ⟨w.heap.size,0,none⟩ ⟨g,0,none⟩ (((w.alloc (.cells #[.pointer (some ⟨g,0,none⟩)] 90)).alloc (.cells #[.pointer (some ⟨1,90,none⟩),.pointer (some ⟨w.heap.size,0,none⟩),.int .u64 150] 147)).alloc (.cells #[.pointer (some ⟨1,90,none⟩),.pointer (some ⟨w.heap.size,0,none⟩),.int .u64 150] 147)) (by rw [World.cell?_alloc_lt _ _ ⟨w.heap.size,0,none⟩ (by simp<;>omega)];simp)
 have st:=Yku g (w.heap.size+1+1+1) cs cur ((((w.alloc (.cells #[.pointer (some ⟨g,0,none⟩)] 90)).alloc (.cells #[.pointer (some ⟨1,90,none⟩),.pointer (some ⟨w.heap.size,0,none⟩),.int .u64 150] 147)).alloc (.cells #[.pointer (some ⟨1,90,none⟩),.pointer (some ⟨w.heap.size,0,none⟩),.int .u64 150] 147)).alloc (.cells cs.toArray 85)) hl hl2 h1
  (Ybv w _ _ _ _) (Y69 w _ _ _ _ hgl hc)
 go_enter Tryz.func37,Tryz.ntmps37
 go_wp2
 refine wp_loop_rounds 1 ?_
 rw [rounds_succ]
 go_wp2
 go_ret
 exact ⟨rfl,_,_,_,_,rfl⟩
end
def Ybu:Err→audit_wrong→Option (Bool×audit_wrong)
 | .no,x=>some (false,x)
 | .e85 y,_=>some (true,y)
 | _,_=>none
theorem Yqk (e:Err)(x:audit_wrong)(r:Bool×audit_wrong)(h:Ybu e x=some r)(g:Nat):Con Tryz.prog 37 [rd Z59 e,Zc (.iface 90 (.pointer (some ⟨g,0,none⟩)))] (Zh g 85 Z7y x) (fun _:Unit=>rd Z6 r.1) (fun _=>Zh g 85 Z7y r.2):=
 Y4a (A:=fun w=>w.cell? ⟨0,0,none⟩=some (.iface 230 (.agg #[.pointer (some ⟨1,88,none⟩)]))) rfl (fun hd=>by cases e<;>first | (cases hd;done) | (exact (Option.some.inj h).symm))
  (fun y hd=>by cases e<;>first | (cases hd;done) | (cases h;done) | (cases h;cases hd;exact ⟨rfl,rfl⟩)) (fun w H=>Y9k) Y11 (fun cs cur w hA hl hl2 h1 hg=>Ywq g cs cur w hA hl hl2 h1 hg)
section
open Go.RowKit Go.Extern.Stop Go.Stop Go.Extern
theorem Yyr (t:Addr)(w:World):(ReflectliteValue.unpack (.iface 369 (.pointer (some t)))).run Tryz.prog w= .ok (.agg #[.pointer (some ⟨1,369,none⟩),.pointer (some ⟨w.heap.size,0,none⟩),.int .u64 150]) (w.alloc (.cells #[.pointer (some t)] 369)):=by kernel_rfl
theorem Yiw (a:Addr)(w:World):(ReflectliteValue.methodAny (ReflectliteValue.valueError "reflectlite.Value.Type" 0) (fun t _ _ _=>ReflectliteType.toType t) #[.agg #[.pointer (some ⟨1,369,none⟩),.pointer (some a),.int .u64 150]]).run Tryz.prog w= .ok (.iface 230 (.agg #[.pointer (some ⟨1,369,none⟩)])) w:=by kernel_rfl
theorem Yje (w:World):((ReflectliteType.abiMethod fun t=>(fun a:Nat=>Value.int IntKind.u8 (a:Int))<$>Rtype.kind t) #[.pointer (some ⟨1,369,none⟩)]).run Tryz.prog w= .ok (.int .u8 22) w:=by kernel_rfl
theorem Ymn (w:World):((ReflectliteType.abiMethod fun t=>(fun a:Nat=>Value.int IntKind.u8 (a:Int))<$>Rtype.kind t) #[.pointer (some ⟨1,265,none⟩)]).run Tryz.prog w= .ok (.int .u8 25) w:=by kernel_rfl
theorem Y28:Tryz.prog.underlying 369=some (.pointer 265):=by kernel_rfl
theorem Y1h (a:Addr)(w:World):(ReflectliteValue.parts (.agg #[.pointer (some ⟨1,369,none⟩),.pointer (some a),.int .u64 150])).run Tryz.prog w= .ok (some (369,a,150)) w:=by kernel_rfl
theorem Ysq (a p:Addr)(W:World)(ha:W.cell? a=some (.pointer (some p))):
  (ReflectliteValue.method (ReflectliteValue.valueError "reflectlite.Value.IsNil" 0) ReflectliteValue.isNil #[.agg #[.pointer (some ⟨1,369,none⟩),.pointer (some a),.int .u64 150]]).run Tryz.prog W= .ok (.bool false) W:=by
 rw [Zq0]
 simp only [Sem.run_bind,Y1h,Result.andThen]
 simp [ReflectliteValue.isNil,loadVar,isAgg,underlying,Y28,ha,Result.andThen]
theorem Yzf (w:World):(ReflectliteType.method ReflectliteType.elem #[.agg #[.pointer (some ⟨1,369,none⟩)]]).run Tryz.prog w= .ok (.iface 230 (.agg #[.pointer (some ⟨1,265,none⟩)])) w:=by kernel_rfl
theorem Yn2 (w:World):(ReflectliteType.relation "Implements" ReflectliteType.implements_ #[.agg #[.pointer (some ⟨1,265,none⟩)],.iface 230 (.agg #[.pointer (some ⟨1,88,none⟩)])]).run Tryz.prog w= .ok (.bool true) w:=by kernel_rfl
theorem Yug (v:Value)(w:World):(ReflectliteType.typeOf #[.iface 265 v]).run Tryz.prog w= .ok (.iface 230 (.agg #[.pointer (some ⟨1,265,none⟩)])) w:=by kernel_rfl
theorem Yq4 (w:World):(ReflectliteType.relation "AssignableTo" ReflectliteType.assignableTo #[.agg #[.pointer (some ⟨1,265,none⟩)],.iface 230 (.agg #[.pointer (some ⟨1,265,none⟩)])]).run Tryz.prog w= .ok (.bool true) w:=by kernel_rfl
theorem Yvr (cs:Array Value)(w:World):(ReflectliteValue.unpack (.iface 265 (.agg cs))).run Tryz.prog w= .ok (.agg #[.pointer (some ⟨1,265,none⟩),.pointer (some ⟨w.heap.size,0,none⟩),.int .u64 153]) (w.alloc (.cells cs 265)):=by kernel_rfl
theorem Ymp (w:World):(Rtype.elem? 369).run Tryz.prog w= .ok (some 265) w:=by kernel_rfl
theorem Yx2 (p:Addr)(w:World):(ReflectliteValue.mk 265 p ReflectliteValue.flagAddr).run Tryz.prog w= .ok (.agg #[.pointer (some ⟨1,265,none⟩),.pointer (some p),.int .u64 409]) w:=by kernel_rfl
theorem Yq1 (a p:Addr)(W:World)(ha:W.cell? a=some (.pointer (some p))):
  (ReflectliteValue.method (ReflectliteValue.valueError "reflectlite.Value.Elem" 0) ReflectliteValue.elem #[.agg #[.pointer (some ⟨1,369,none⟩),.pointer (some a),.int .u64 150]]).run Tryz.prog W
   = .ok (.agg #[.pointer (some ⟨1,265,none⟩),.pointer (some p),.int .u64 409]) W:=by
 rw [Zq0]
 simp only [Sem.run_bind,Y1h,Result.andThen]
 simp [ReflectliteValue.elem,loadVar,isAgg,underlying,Y28,ha,Result.andThen,Ymp,Yx2]
theorem Ygu (a:Addr)(w:World):(ReflectliteValue.parts (.agg #[.pointer (some ⟨1,265,none⟩),.pointer (some a),.int .u64 409])).run Tryz.prog w= .ok (some (265,a,409)) w:=by kernel_rfl
theorem Ynv (a:Addr)(w:World):(ReflectliteValue.parts (.agg #[.pointer (some ⟨1,265,none⟩),.pointer (some a),.int .u64 153])).run Tryz.prog w= .ok (some (265,a,153)) w:=by kernel_rfl
theorem Yor (w:World):(Rtype.directlyAssignable 265 265).run Tryz.prog w= .ok true w:=by kernel_rfl
theorem Yt0 (g b:Nat)(cs cur:List Value)(W:World)(hl:cs.length=Kd.sz Z7m)(hl2:cur.length=Kd.sz Z7m)(h1:∀v∈cs,v.oneCell'=true)(hb:W.heap[b]? =some (.cells cs.toArray 265 (0,0)))(hg:W.heap[g]? =some (.cells cur.toArray 265 (0,0))):
  (ReflectliteValue.set #[.agg #[.pointer (some ⟨1,265,none⟩),.pointer (some ⟨g,0,none⟩),.int .u64 409],.agg #[.pointer (some ⟨1,265,none⟩),.pointer (some ⟨b,0,none⟩),.int .u64 153]]).run Tryz.prog W= .ok (.tuple #[]) (W.setRow g cs.toArray):=by
 have h2:=Yb8 (P:=Tryz.prog) Y3z rfl hl h1 hb
 have h3:=Ybo (P:=Tryz.prog) Y3z rfl hl hl2 h1 hg
 rw [Y20]
 simp only [Sem.run_bind,Ygu,Ynv,Result.andThen]
 simp [ReflectliteValue.flagAddr,h2,h3,Result.andThen,Yor]
set_option maxHeartbeats 4000000 in
theorem Ydy (g:Nat)(cs cur:List Value)(w:World)(hg:w.cell? ⟨0,0,none⟩=some (.iface 230 (.agg #[.pointer (some ⟨1,88,none⟩)])))(hl:cs.length=Kd.sz Z7m)(hl2:cur.length=Kd.sz Z7m)(h1:∀v∈cs,v.oneCell'=true)(hc:w.heap[g]? =some (.cells cur.toArray 265 (0,0))):
  Calls Tryz.prog 37 #[.iface 265 (.agg cs.toArray),.iface 369 (.pointer (some ⟨g,0,none⟩))] w fun ev w'=>ev= .returned (.bool true)∧∃o1 o2 o3 o4,w'=((((w.alloc o1).alloc o2).alloc o3).alloc o4).setRow g cs.toArray:=by
 have h6:= @run_callFunc_extern Tryz.prog 79 _ (fun args=>ReflectliteValue.unpack (args.getD 0 (.tuple #[]))) Tryz.func79 (by kernel_rfl) (by kernel_rfl) (by kernel_rfl) (by kernel_rfl)
 have h7:= @run_callFunc_extern Tryz.prog 80 _ (ReflectliteValue.methodAny (ReflectliteValue.valueError "reflectlite.Value.Type" 0) (fun t _ _ _=>ReflectliteType.toType t)) Tryz.func80 (by kernel_rfl) (by kernel_rfl) (by kernel_rfl) (by kernel_rfl)
 have h8:= @run_callFunc_extern Tryz.prog 81 _ (ReflectliteValue.method (ReflectliteValue.valueError "reflectlite.Value.IsNil" 0) ReflectliteValue.isNil) Tryz.func81 (by kernel_rfl) (by kernel_rfl) (by kernel_rfl) (by kernel_rfl)
 have h27:= @run_callFunc_extern Tryz.prog 415 _ (ReflectliteType.abiMethod fun t=>do pure (.int .u8 (←Rtype.kind t))) Tryz.func415 (by kernel_rfl) (by kernel_rfl) (by kernel_rfl) (by kernel_rfl)
 have h37:= @run_callFunc_extern Tryz.prog 426 _ (ReflectliteType.method ReflectliteType.elem) Tryz.func426 (by kernel_rfl) (by kernel_rfl) (by kernel_rfl) (by kernel_rfl)
 have h38:= @run_callFunc_extern Tryz.prog 427 _ (ReflectliteType.relation "Implements" ReflectliteType.implements_) Tryz.func427 (by kernel_rfl) (by kernel_rfl) (by kernel_rfl) (by kernel_rfl)
 have h10:= @run_callFunc_extern Tryz.prog 156 _ ReflectliteType.typeOf Tryz.func156 (by kernel_rfl) (by kernel_rfl) (by kernel_rfl) (by kernel_rfl)
 have h35:= @run_callFunc_extern Tryz.prog 424 _ (ReflectliteType.relation "AssignableTo" ReflectliteType.assignableTo) Tryz.func424 (by kernel_rfl) (by kernel_rfl) (by kernel_rfl) (by kernel_rfl)
 have h11:= @run_callFunc_extern Tryz.prog 157 _ (ReflectliteValue.method (ReflectliteValue.valueError "reflectlite.Value.Elem" 0) ReflectliteValue.elem) Tryz.func157 (by kernel_rfl) (by kernel_rfl) (by kernel_rfl) (by kernel_rfl)
 have h12:= @run_callFunc_extern Tryz.prog 158 _ ReflectliteValue.set Tryz.func158 (by kernel_rfl) (by kernel_rfl) (by kernel_rfl) (by kernel_rfl)
 have tO:=Yug
 have mA:=Y0g
 have a25:=Yq4
 have v25:=Yvr cs.toArray
 have f6:=Yyr
 have f7:=Yiw
 have mK:=Y65
 have mE:=Yas
 have mI:=Y8c
 have k27:=Yje
 have k25:=Ymn
 have e27:=Yzf
 have i25:=Yn2
 have n8:=Ysq ⟨w.heap.size,0,none⟩ ⟨g,0,none⟩ ((w.alloc (.cells #[.pointer (some ⟨g,0,none⟩)] 369)).alloc (.cells #[.pointer (some ⟨1,369,none⟩),.pointer (some ⟨w.heap.size,0,none⟩),.int .u64 150] 147)) (by simp)
 have hlt:0<w.heap.size:=by
  rcases Nat.lt_or_ge 0 w.heap.size with h | h
  ·exact h
  ·simp [World.cell?,Array.getElem?_eq_none h] at hg
 have hg2:((w.alloc (.cells #[.pointer (some ⟨g,0,none⟩)] 369)).alloc (.cells #[.pointer (some ⟨1,369,none⟩),.pointer (some ⟨w.heap.size,0,none⟩),.int .u64 150] 147)).cell? ⟨0,0,none⟩=some (.iface 230 (.agg #[.pointer (some ⟨1,88,none⟩)])):=by
  rw [World.cell?_alloc_lt _ _ ⟨0,0,none⟩ (by simp<;>omega),World.cell?_alloc_lt _ _ ⟨0,0,none⟩ hlt];exact hg
 have hgl:g<w.heap.size:=(Array.getElem?_eq_some_iff.1 hc).1
 have el:=Yq1 ⟨w.heap.size,0,none⟩ ⟨g,0,none⟩ (((w.alloc (.cells #[.pointer (some ⟨g,0,none⟩)] 369)).alloc (.cells #[.pointer (some ⟨1,369,none⟩),.pointer (some ⟨w.heap.size,0,none⟩),.int .u64 150] 147)).alloc (.cells #[.pointer (some ⟨1,369,none⟩),.pointer (some ⟨w.heap.size,0,none⟩),.int .u64 150] 147)) (by rw [World.cell?_alloc_lt _ _ ⟨w.heap.size,0,none⟩ (by simp<;>omega)];simp)
 have st:=Yt0 g (w.heap.size+1+1+1) cs cur ((((w.alloc (.cells #[.pointer (some ⟨g,0,none⟩)] 369)).alloc (.cells #[.pointer (some ⟨1,369,none⟩),.pointer (some ⟨w.heap.size,0,none⟩),.int .u64 150] 147)).alloc (.cells #[.pointer (some ⟨1,369,none⟩),.pointer (some ⟨w.heap.size,0,none⟩),.int .u64 150] 147)).alloc (.cells cs.toArray 265)) hl hl2 h1
  (Ybv w _ _ _ _) (Y69 w _ _ _ _ hgl hc)
 go_enter Tryz.func37,Tryz.ntmps37
 go_wp2
 refine wp_loop_rounds 1 ?_
 rw [rounds_succ]
 go_wp2
 go_ret
 exact ⟨rfl,_,_,_,_,rfl⟩
end
def Y1y:Err→state_refused→Option (Bool×state_refused)
 | .no,x=>some (false,x)
 | .e265 y,_=>some (true,y)
 | _,_=>none
theorem Ydm (e:Err)(x:state_refused)(r:Bool×state_refused)(h:Y1y e x=some r)(g:Nat):Con Tryz.prog 37 [rd Z59 e,Zc (.iface 369 (.pointer (some ⟨g,0,none⟩)))] (Zh g 265 Z7m x) (fun _:Unit=>rd Z6 r.1) (fun _=>Zh g 265 Z7m r.2):=
 Y4a (A:=fun w=>w.cell? ⟨0,0,none⟩=some (.iface 230 (.agg #[.pointer (some ⟨1,88,none⟩)]))) rfl (fun hd=>by cases e<;>first | (cases hd;done) | (exact (Option.some.inj h).symm))
  (fun y hd=>by cases e<;>first | (cases hd;done) | (cases h;done) | (cases h;cases hd;exact ⟨rfl,rfl⟩)) (fun w H=>Y9k) Y11 (fun cs cur w hA hl hl2 h1 hg=>Ydy g cs cur w hA hl hl2 h1 hg)
def Zya (w1:state_work)(x2:Err):Option (Switch×Fault):=
 (Y1y x2 Zyj).bind fun a6=>(bif a6.1 then some ((⟨(Vector.replicate 4 []),[]⟩:Switch),a6.2.Fault) else some (w1.Switch,(⟨false,0,0⟩:Fault)))
theorem Yu5:Q2 Tryz.prog 242 (rp Zag) (rd Z59) (fun r=>Z12 (rd Z09 r.1) (rd Z3u r.2)) Zya:=fun w1 x2 r h=>I0 Tryz.func242 rfl Tryz.ntmps242 rfl fun w H Z=>by
 unfold Zya at h
 refine SR<|Cv rfl (Zm 5 rfl rfl Zbb) fun g3=>Cv rfl (Zm 6 rfl rfl Z6x) fun g4=>Nl<|SR<|Cv rfl (Zm 7 rfl rfl Y9c) fun g5=>Nl<|sq<|sq ?_
 obtain ⟨a6,ha6,h⟩:=Z7 h
 refine Rg<|Md rfl<|Ac (Y5p rfl rfl Yja rfl (vt rfl)) rfl<|Cv rfl (Z1c 7 (xs:=[.tmp 7,.tmp 8]) (Ydm _ _ _ ha6 _) e37 rfl rfl ⟨(vt rfl),(vt rfl),trivial⟩ rfl) fun _u=>Nl<|Cq rfl h (fun h=>?_) (fun h=>?_)
 ·refine sq<|AR Z00 (by kernel_rfl)<|Sd (lo [] [] rfl fun S hs hr=>opb (⟨(Vector.replicate 4 []),[]⟩:Switch) Zbb rfl Zrn (pn rfl))<|SFd lstate_refused_0 Yq0 rfl<|Zp Z2x 7 rfl<|SSt Z28 5 rfl<|SSt Z2x 6 rfl<|Sn<|rt ?_
  cases h;exact Z1f Tryz.results242 rfl (Zx rfl (i:=5) rfl Z28) (Zx rfl (i:=6) rfl Z2x)
 ·refine sk<|SR<|Mr rfl<|Ac (Z39 rfl rfl (vt rfl)) rfl<|Fp lstate_work_0 Y9g rfl<|Lp1 Z28 rfl<|Ac (opb (⟨false,0,0⟩:Fault) Z6x rfl Zeb (pn rfl)) rfl<|Zf Z28 5 rfl<|Zf Z2x 6 rfl<|Nl<|rt ?_
  cases h;exact Z1f Tryz.results242 rfl (Zx rfl (i:=5) rfl Z28) (Zx rfl (i:=6) rfl Z2x)
def Zv9 (s1:Switch)(t2:Int)(l3:(List Inst)):Option Fault:=
 (Zux (⟨s1⟩:state_work) t2 l3).bind fun x7=>(Zya (⟨s1⟩:state_work) x7).bind fun x8=>some x8.2
theorem Yvm:Q3 Tryz.prog 160 (rd Z09) (rd (Z0 .i64)) (rd (Z1 Z0b)) (rd Z3u) Zv9:=fun s1 t2 l3 r h=>I0 Tryz.func160 rfl Tryz.ntmps160 rfl fun w H Z=>by
 unfold Zv9 at h
 refine SR<|Cv rfl (Zs 4 rfl rfl (vt rfl)) fun g4=>Cv rfl (Zm 7 rfl rfl Z6x) fun g5=>Nl<|SR<|Ld Z28 4 rfl<|Ac (opb (⟨s1⟩:state_work) Yid rfl Ysp (pc Yw1 (vt rfl)<|pn rfl)) rfl<|Cv rfl (Zs 13 rfl rfl (vt rfl)) fun g6=>Ac (Zv (A:=Zb g6 (Lens.id Zag)) rfl rfl (vt rfl)) rfl<|Nl<|sq<|AW.freezesB [7,12] 13 rfl ⟨rfl,rfl,trivial⟩ rfl ?_
 obtain ⟨x7,hx7,x8,hx8,h⟩:=bs2 h
 refine Rg<|Mr rfl<|Mr rfl<|Md rfl<|Md rfl<|Cl [15,16,17] (Ywy _ _ _ _ hx7) e51 rfl<|Cl [14,18] (Yu5 _ _ _ hx8) Ymy rfl<|Mt2 rfl<|Ac (Z1e rfl rfl (vt rfl)) rfl<|Ac (Z1a rfl rfl (vt rfl)) rfl<|Cv rfl (Zm 9 rfl rfl Zbb) fun g9=>Cv rfl (Zm 10 rfl rfl Z6x) fun g10=>Zf Z28 9 rfl<|Zf Z2x 10 rfl<|Nl<|SR<|Ld Z2x 10 rfl<|Zf Z2x 7 rfl<|Nl<|rt ?_
 cases h;exact Zd Tryz.results160 rfl (Zx rfl (i:=7) rfl Z2x)
def Zmq (t2:Int)(s1:Switch):(List Flow)→Nat→Option Err
 | [],i7=>some Err.no
 | x9::l8,i7=>(Zwh x9 t2).bind fun x11=>(Ztu x11).bind fun x12=>(opt (!(!x12)) (Zv9 s1 t2 x9.Insts)).bind fun x13=>(bif ((!x12)||x13.Is) then some (Err.e85 (⟨(⟨t2,(i7:Int)⟩:Place)⟩:audit_wrong)) else (Zmq t2 s1 l8) (i7+1))
def Zt9 (s1:Switch)(t2:Int):Option Err:=
 (chk 4 t2).bind fun j4=>(Zw3 (Vector.get s1.Tables j4)).bind fun x5=>(bif (!x5) then some (Err.e85 (⟨(⟨t2,(-1)⟩:Place)⟩:audit_wrong)) else (chk 4 t2).bind fun j6=>Zmq t2 s1 (Vector.get s1.Tables j6) 0)
theorem Ype:Q2 Tryz.prog 84 (rd Z09) (rd (Z0 .i64)) (rd Z59) Zt9:=fun s1 t2 r h=>I0 Tryz.func84 rfl Tryz.ntmps84 rfl fun w H Z=>by
 unfold Zt9 at h
 refine SR<|Cv rfl (Zs 3 rfl rfl (vt rfl)) fun g3=>Ac (Zv (A:=rd Z59 Err.no) rfl rfl (vne rfl)) rfl<|Nl<|sq<|sq ?_
 obtain ⟨j4,hj4,x5,hx5,h⟩:=bs2 h
 refine Rg<|Md rfl<|Zk Z64 Z6o rfl<|Ac (Z19 rfl rfl Z6p (vt rfl) (vt rfl) hj4) rfl<|Ld Z46 3 rfl<|Cl [10] (Yy5 _ _ hx5) e52 rfl<|Ac (Z0z rfl rfl (vt rfl)) rfl<|Nl<|Cq rfl h (fun h=>?_) (fun h=>?_)
 ·refine SR<|Md rfl<|Ac (opb (⟨t2,(-1)⟩:Place) Z4u rfl Z98 (pc Zcn (vt rfl)<|pc Zdb (vk rfl)<|pn rfl)) rfl<|Ac (opb (⟨(⟨t2,(-1)⟩:Place)⟩:audit_wrong) Zr6 rfl Zyq (pc Ztv (vt rfl)<|pn rfl)) rfl<|Ac (Zr9 (d:=Zi0) (Err.e85 (⟨(⟨t2,(-1)⟩:Place)⟩:audit_wrong)) rfl rfl Zzq rfl (vt rfl)) rfl<|As rfl<|Nl<|rt ?_
  cases h;exact Zd Tryz.results84 rfl (Z5 rfl)
 ·refine sk<|sq<|sq ?_
  obtain ⟨j6,hj6,h⟩:=Z7 h
  refine Rg<|Md rfl<|Zk Z64 Z6o rfl<|Ac (Z19 rfl rfl Z6p (vt rfl) (vt rfl) hj6) rfl<|Ld Z46 3 rfl<|Ac (Z0i rfl rfl Z2q (vt rfl)) rfl<|Mk rfl<|Nl<|bk<|LG (d:=[]) (ν:=(List Flow)×Nat) (fun (l8,i7)=>(Sfx (Vector.get s1.Tables j6) i7 l8∧Zmq t2 s1 l8 i7=some r,l8.length,[(1,rd (Z0 .i64) t2),(2,Zb g3 (Lens.id Z09)),(20,rd (Z1 Z08) (Vector.get s1.Tables j6)),(21,rd (Z0 .i64) ((Vector.get s1.Tables j6).length:Int)),(22,rd (Z0 .i64) (i7:Int))],[(3,Zh g3 26 Z09 s1)])) ((Vector.get s1.Tables j6),0) ⟨Sfx.start _,h⟩ (FX rfl) ?_
  rintro ⟨l8,i7⟩ ⟨hsf1,h⟩
  dsimp only at hsf1 h ⊢
  cases l8 with
  | nil=>
   unfold Zmq at h
   refine SR<|Ac (Zj rfl rfl (vt rfl) (vt rfl)) rfl<|Nl<|sq<|Cn rfl (fun hc=>absurd (of_decide_eq_true hc) hsf1.nil) (fun hc=>?_)
   refine xt<|SR<|Ac (Zv (A:=rd Z59 Err.no) rfl rfl (vne rfl)) rfl<|Nl<|rt ?_
   cases h;exact Zd Tryz.results84 rfl (Z5 rfl)
  | cons x9 l8=>
   unfold Zmq at h
   refine SR<|Ac (Zj rfl rfl (vt rfl) (vt rfl)) rfl<|Nl<|sq<|Cn rfl (fun hc=>?_) (fun hc=>absurd hsf1.cons (of_decide_eq_false hc))
   have hlti7:=of_decide_eq_true hc
   refine sk<|sq<|bk<|SR<|Md rfl<|Ac (Z0j rfl rfl Z2q (vt rfl) (vt rfl) hsf1.lget) rfl<|Lp1 Z2n rfl<|Cv rfl (Zm 7 rfl rfl Z7u) fun g10=>As rfl<|Zf Z2n 7 rfl<|Nl<|sq ?_
   obtain ⟨x11,hx11,x12,hx12,x13,hx13,h⟩:=bs3 h
   refine Rg<|Ld Z2n 7 rfl<|Md rfl<|Cl [27,28] (Ye0 _ _ _ hx11) e50 rfl<|Cl [29] (Yx4 _ _ hx12) e49 rfl<|Ac (Z0z rfl rfl (vt rfl)) rfl<|Md rfl<|Gd rfl (fun hq=>Z1z rfl rfl Z28 (vt rfl) (i:=3) rfl)<|Gd rfl (fun hq=>Zq (A:=rd (Z0 .i64) t2) rfl rfl (vt rfl))<|Gd rfl (fun hq=>Z2v lFlow_6 rfl rfl Z8v (vt rfl))<|Gd rfl (fun hq=>Z1z rfl rfl Z69 (Zi rfl hq) (i:=7) rfl)<|Gd rfl (fun hq=>Z0g (xs:=[.tmp 33,.tmp 34,.tmp 36]) (Yvm _ _ _ _ (Zdm hx13 hq)) Ydj rfl rfl ⟨Zi rfl hq,Zi rfl hq,Zi rfl hq,trivial⟩)<|Gd rfl (fun hq=>Zgz lFault_0 rfl rfl Zqi Zrf ty4 rfl (Zi rfl hq))<|Ac (Z4d rfl rfl (vt rfl) (vt rfl)) rfl<|Nl<|Cq rfl h (fun h=>?_) (fun h=>?_)
   ·refine SR<|Md rfl<|Md rfl<|Ac (opb (⟨t2,(i7:Int)⟩:Place) Z4u rfl Z98 (pc Zcn (vt rfl)<|pc Zdb (vt rfl)<|pn rfl)) rfl<|Ac (opb (⟨(⟨t2,(i7:Int)⟩:Place)⟩:audit_wrong) Zr6 rfl Zyq (pc Ztv (vt rfl)<|pn rfl)) rfl<|Ac (Zr9 (d:=Zi0) (Err.e85 (⟨(⟨t2,(i7:Int)⟩:Place)⟩:audit_wrong)) rfl rfl Zzq rfl (vt rfl)) rfl<|As rfl<|Nl<|rt ?_
    cases h;exact Zd Tryz.results84 rfl (Z5 rfl)
   ·refine sk<|Rg<|Ac (Z13 (t:=21) rfl rfl (vt rfl) (vk rfl) (vt rfl) hlti7) rfl<|Md rfl<|Nl ?_
    exact ⟨(_,_),Nat.lt_succ_self _,⟨hsf1.next,h⟩,FX rfl⟩
def Zns (s1:Switch):Nat→Nat→Option Err
 | 0,i4=>some Err.no
 | m5+1,i4=>(Zt9 s1 (i4:Int)).bind fun x6=>(bif (!(Err.isNo x6)) then some x6 else (Zns s1 m5) (i4+1))
def Zwm (s1:Switch):Option Err:=
 (Zz8 s1.Groups).bind fun x3=>(bif (!(Err.isNo x3)) then some x3 else Zns s1 (4:Int).toNat 0)
theorem Ynp:Q1 Tryz.prog 38 (rd Z09) (rd Z59) Zwm:=fun s1 r h=>I0 Tryz.func38 rfl Tryz.ntmps38 rfl fun w H Z=>by
 unfold Zwm at h
 refine SR<|Cv rfl (Zs 2 rfl rfl (vt rfl)) fun g2=>Ac (Zv (A:=rd Z59 Err.no) rfl rfl (vne rfl)) rfl<|Nl<|sq<|sq ?_
 obtain ⟨x3,hx3,h⟩:=Z7 h
 refine Rg<|Zk lSwitch_1 Zsd rfl<|Ld Zdk 2 rfl<|Cl [7] (Yv2 _ _ hx3) e83 rfl<|As rfl<|Nl<|SR<|Md rfl<|Ac (Y6t rfl rfl Y9w (Ybb _) (vt rfl)) rfl<|Nl<|Cq rfl h (fun h=>?_) (fun h=>?_)
 ·refine SR<|Md rfl<|As rfl<|Nl<|rt ?_
  cases h;exact Zd Tryz.results38 rfl (Z5 rfl)
 ·refine sk<|sq<|SR<|Mk rfl<|Nl<|bk<|LG (d:=[]) (ν:=Nat×Nat) (fun (m5,i4)=>(Cnt 4 i4 m5∧Zns s1 m5 i4=some r,m5,[(1,Zb g2 (Lens.id Z09)),(12,rd (Z0 .i64) (i4:Int))],[(2,Zh g2 26 Z09 s1)])) ((4:Int).toNat,0) ⟨Cnt.start _,h⟩ (FX rfl) ?_
  rintro ⟨m5,i4⟩ ⟨hsf1,h⟩
  dsimp only at hsf1 h ⊢
  cases m5 with
  | zero=>
   unfold Zns at h
   refine SR<|Ac (Zj rfl rfl (vt rfl) (vk rfl)) rfl<|Nl<|sq<|Cn rfl (fun hc=>absurd (of_decide_eq_true hc) hsf1.zero) (fun hc=>?_)
   refine xt<|SR<|Ac (Zv (A:=rd Z59 Err.no) rfl rfl (vne rfl)) rfl<|Nl<|rt ?_
   cases h;exact Zd Tryz.results38 rfl (Z5 rfl)
  | succ m5=>
   unfold Zns at h
   refine SR<|Ac (Zj rfl rfl (vt rfl) (vk rfl)) rfl<|Nl<|sq<|Cn rfl (fun hc=>?_) (fun hc=>absurd hsf1.succ (of_decide_eq_false hc))
   have hlti4:=of_decide_eq_true hc
   refine sk<|sq<|bk<|SR<|Md rfl<|As rfl<|Nl<|sq ?_
   obtain ⟨x6,hx6,h⟩:=Z7 h
   refine Rg<|Ld Z28 2 rfl<|Md rfl<|Cl [15,16] (Ype _ _ _ hx6) e84 rfl<|As rfl<|Nl<|SR<|Md rfl<|Ac (Y6t rfl rfl Y9w (Ybb _) (vt rfl)) rfl<|Nl<|Cq rfl h (fun h=>?_) (fun h=>?_)
   ·refine SR<|Md rfl<|As rfl<|Nl<|rt ?_
    cases h;exact Zd Tryz.results38 rfl (Z5 rfl)
   ·refine sk<|Rg<|Ac (Z5r rfl rfl (vt rfl) (vk rfl) rfl hlti4) rfl<|Md rfl<|Nl ?_
    exact ⟨(_,_),Nat.lt_succ_self _,⟨hsf1.next,h⟩,FX rfl⟩
def Zq2 (s1:Switch):Option (Place×Bool):=
 (Zwm s1).bind fun x5=>(Ybu x5 Zx7).bind fun a6=>(bif a6.1 then some (a6.2.Place,true) else some ((⟨0,0⟩:Place),false))
theorem Y3p:Q1 Tryz.prog 18 (rd Z09) (fun r=>Z12 (rd Z0l r.1) (rd Z6 r.2)) Zq2:=fun s1 r h=>I0 Tryz.func18 rfl Tryz.ntmps18 rfl fun w H Z=>by
 unfold Zq2 at h
 refine SR<|Cv rfl (Zs 2 rfl rfl (vt rfl)) fun g2=>Cv rfl (Zm 3 rfl rfl Z4u) fun g3=>Ab rfl<|Nl<|SR<|Cv rfl (Zm 5 rfl rfl Zr6) fun g4=>Nl<|sq<|sq ?_
 obtain ⟨x5,hx5,a6,ha6,h⟩:=bs2 h
 refine Rg<|Ld Z28 2 rfl<|Cl [5] (Ynp _ _ hx5) e38 rfl<|Ac (Y5p rfl rfl Yk5 rfl (vt rfl)) rfl<|Cv rfl (Z1c 5 (xs:=[.tmp 6,.tmp 7]) (Yqk _ _ _ ha6 _) e37 rfl rfl ⟨(vt rfl),(vt rfl),trivial⟩ rfl) fun _u=>Nl<|Cq rfl h (fun h=>?_) (fun h=>?_)
 ·refine SR<|Zk laudit_wrong_0 Yjd rfl<|Ld Z4h 5 rfl<|Zf Z4h 3 rfl<|Ab rfl<|Nl<|rt ?_
  cases h;exact Z1f Tryz.results18 rfl (Zx rfl (i:=3) rfl Z4h) (Z5 rfl)
 ·refine sk<|SR<|Ac (opb (⟨0,0⟩:Place) Z4u rfl Z98 (pn rfl)) rfl<|Zf Z4h 3 rfl<|Ab rfl<|Nl<|rt ?_
  cases h;exact Z1f Tryz.results18 rfl (Zx rfl (i:=3) rfl Z4h) (Z5 rfl)
end Go.Proofs.YtinplddjjalohaaGreatDoor.W
set_option maxHeartbeats 1000000
set_option maxRecDepth 4000
namespace Go.Proofs.YtinplddjjalohaaGreatDoor.W
open Go Go.Wb
theorem e10:Ent Tryz.prog 10:=Ent.mk Tryz.func10 rfl rfl
theorem e21:Ent Tryz.prog 21:=Ent.mk Tryz.func21 rfl rfl
theorem e18:Ent Tryz.prog 18:=Ent.mk Tryz.func18 rfl rfl
theorem e26:Ent Tryz.prog 26:=Ent.mk Tryz.func26 rfl rfl
theorem e33:Ent Tryz.prog 33:=Ent.mk Tryz.func33 rfl rfl
theorem e14:Ent Tryz.prog 14:=Ent.mk Tryz.func14 rfl rfl
theorem e31:Ent Tryz.prog 31:=Ent.mk Tryz.func31 rfl rfl
theorem e8:Ent Tryz.prog 8:=Ent.mk Tryz.func8 rfl rfl
theorem e9:Ent Tryz.prog 9:=Ent.mk Tryz.func9 rfl rfl
theorem e13:Ent Tryz.prog 13:=Ent.mk Tryz.func13 rfl rfl
theorem e11:Ent Tryz.prog 11:=Ent.mk Tryz.func11 rfl rfl
def Zlm (s1:(List Place))(s2:(List Place)):Nat→Nat→Option Bool
 | 0,i3=>some true
 | m4+1,i3=>(lget s1 (i3:Int)).bind fun x5=>(lget s2 (i3:Int)).bind fun x6=>(bif (decide (x5≠x6)) then some false else (Zlm s1 s2 m4) (i3+1))
def Zwu (s1:(List Place))(s2:(List Place)):Option Bool:=
 (bif (decide ((s1.length:Int)≠(s2.length:Int))) then some false else Zlm s1 s2 ((s1.length:Int):Int).toNat 0)
theorem Yr6:Q2 Tryz.prog 26 (rd (Z1 Z0l)) (rd (Z1 Z0l)) (rd Z6) Zwu:=fun s1 s2 r h=>I0 Tryz.func26 rfl Tryz.ntmps26 rfl fun w H Z=>by
 unfold Zwu at h
 refine SR<|Ab rfl<|Nl<|sq<|SR<|Md rfl<|Ac (Z0i rfl rfl Z61 (vt rfl)) rfl<|Md rfl<|Ac (Z0i rfl rfl Z61 (vt rfl)) rfl<|Ac (Z6f rfl rfl (vt rfl) (vt rfl)) rfl<|Nl<|Cq rfl h (fun h=>?_) (fun h=>?_)
 ·refine SR<|Ab rfl<|Nl<|rt ?_
  cases h;exact Zd Tryz.results26 rfl (Z5 rfl)
 ·refine sk<|sq<|SR<|Md rfl<|Ac (Z0i rfl rfl Z61 (vt rfl)) rfl<|Mk rfl<|Nl<|bk<|LG (d:=[]) (ν:=Nat×Nat) (fun (m4,i3)=>(Cnt (s1.length:Int) i3 m4∧Zlm s1 s2 m4 i3=some r,m4,[(0,rd (Z1 Z0l) s1),(1,rd (Z1 Z0l) s2),(12,rd (Z0 .i64) (s1.length:Int)),(13,rd (Z0 .i64) (i3:Int))],[])) (((s1.length:Int):Int).toNat,0) ⟨Cnt.start _,h⟩ (FX rfl) ?_
  rintro ⟨m4,i3⟩ ⟨hsf1,h⟩
  dsimp only at hsf1 h ⊢
  cases m4 with
  | zero=>
   unfold Zlm at h
   refine SR<|Ac (Zj rfl rfl (vt rfl) (vt rfl)) rfl<|Nl<|sq<|Cn rfl (fun hc=>absurd (of_decide_eq_true hc) hsf1.zero) (fun hc=>?_)
   refine xt<|SR<|Ab rfl<|Nl<|rt ?_
   cases h;exact Zd Tryz.results26 rfl (Z5 rfl)
  | succ m4=>
   unfold Zlm at h
   refine SR<|Ac (Zj rfl rfl (vt rfl) (vt rfl)) rfl<|Nl<|sq<|Cn rfl (fun hc=>?_) (fun hc=>absurd hsf1.succ (of_decide_eq_false hc))
   have hlti3:=of_decide_eq_true hc
   refine sk<|sq<|bk<|SR<|Md rfl<|As rfl<|Nl<|sq ?_
   obtain ⟨x5,hx5,x6,hx6,h⟩:=bs2 h
   refine AR Z00 (by kernel_rfl)<|Zt rfl<|Zt rfl<|Sd (lo [16,17] [] rfl fun S hs hr=>Z0j rfl rfl Z61 (vh hs 16 rfl rfl) (vh hs 17 rfl rfl) hx5)<|SLp Z4h rfl<|Zt rfl<|Zt rfl<|Sd (lo [20,21] [] rfl fun S hs hr=>Z0j rfl rfl Z61 (vh hs 20 rfl rfl) (vh hs 21 rfl rfl) hx6)<|SLp Z4h rfl<|Sd (lo [19,23] [] rfl fun S hs hr=>Ys8 rfl rfl Zxe (by decide) rfl Zzm (vh hs 19 rfl rfl) (vh hs 23 rfl rfl))<|Sn<|Cq rfl h (fun h=>?_) (fun h=>?_)
   ·refine SR<|Ab rfl<|Nl<|rt ?_
    cases h;exact Zd Tryz.results26 rfl (Z5 rfl)
   ·refine sk<|Rg<|Ac (Z13 (t:=12) rfl rfl (vt rfl) (vk rfl) (vt rfl) hlti3) rfl<|Md rfl<|Nl ?_
    exact ⟨(_,_),Nat.lt_succ_self _,⟨hsf1.next,h⟩,FX rfl⟩
def Zkn:Option Bool:=
 (Ziq {(⟨(Vector.replicate 4 []),[]⟩:Switch) with Tables:=(Vector.set ((⟨(Vector.replicate 4 []),[]⟩:Switch).Tables) (⟨0,by decide⟩:_root_.Fin 4).1 [(⟨0,1,0,0,0,[],[]⟩:Flow),(⟨0,2,0,0,0,[],[]⟩:Flow)] (⟨0,by decide⟩:_root_.Fin 4).2)} 100).bind fun x2=>(Zy0 {(⟨(Vector.replicate 4 []),[]⟩:Switch) with Tables:=(Vector.set ((⟨(Vector.replicate 4 []),[]⟩:Switch).Tables) (⟨0,by decide⟩:_root_.Fin 4).1 [(⟨0,1,0,0,0,[],[]⟩:Flow),(⟨0,2,0,0,0,[],[]⟩:Flow)] (⟨0,by decide⟩:_root_.Fin 4).2)} 100).bind fun x3=>(Zq2 (⟨(Vector.replicate 4 []),[(⟨(-1),0,[]⟩:Group)]⟩:Switch)).bind fun x5=>(Zq2 {(⟨(Vector.replicate 4 []),[]⟩:Switch) with Tables:=(Vector.set ((⟨(Vector.replicate 4 []),[]⟩:Switch).Tables) (⟨0,by decide⟩:_root_.Fin 4).1 [(⟨0,1,0,0,0,[],[]⟩:Flow),(⟨0,2,0,0,0,[],[]⟩:Flow)] (⟨0,by decide⟩:_root_.Fin 4).2)}).bind fun x7=>(opt (decide (x2.2=0)) (Zwu x2.1 [(⟨0,0⟩:Place)])).bind fun x9=>some (((((((decide (x2.2=0))&&x9)&&(decide (x3.2=0)))&&(decide (((Vector.get x3.1.Tables (⟨0,by decide⟩:_root_.Fin 4)).length:Int)=1)))&&x5.2)&&(decide (x5.1=(⟨(-1),(-1)⟩:Place))))&&(!x7.2))
theorem Y72:Q0 Tryz.prog 9 (rd Z6) Zkn:=fun r h=>I0 Tryz.func9 rfl Tryz.ntmps9 rfl fun w H Z=>by
 unfold Zkn at h
 refine SR<|Ab rfl<|Nl<|SR<|Ac (opb (⟨(Vector.replicate 4 []),[]⟩:Switch) Zbb rfl Zrn (pn rfl)) rfl<|Cv rfl (Zm 2 rfl rfl Zbb) fun g1=>Zf Z28 2 rfl<|Nl<|SR<|Ac (opb (⟨0,1,0,0,0,[],[]⟩:Flow) Z7u rfl Zup (pc Zv4 (vk rfl)<|pn rfl)) rfl<|Ac (opb (⟨0,2,0,0,0,[],[]⟩:Flow) Z7u rfl Zup (pc Zv4 (vk rfl)<|pn rfl)) rfl<|Ac (Zrd (ps:=[(0,.tmp 11),(1,.tmp 12)]) (l:=[(⟨0,1,0,0,0,[],[]⟩:Flow),(⟨0,2,0,0,0,[],[]⟩:Flow)]) rfl rfl Z2q Z7u rfl rfl ⟨_,_,Lens.idx 2 Z08 0 (by decide),_,rfl,(vt rfl),_,_,Lens.idx 2 Z08 1 (by decide),_,rfl,(vt rfl),rfl⟩ rfl) rfl<|Zk Z64 Z6o rfl<|Ac (Z19 rfl rfl Z6p (vt rfl) (vk rfl) rfl) rfl<|Zf Z46 2 rfl<|Nl<|sq ?_
 obtain ⟨x2,hx2,h⟩:=Z7 h
 refine Rg<|Ld Z28 2 rfl<|Ac (Z0g (xs:=[.tmp 17,.const (Value.int IntKind.i64 100)]) (Yaf _ _ _ hx2) e10 rfl rfl ⟨vt rfl,vk rfl,trivial⟩) rfl<|Mt2 rfl<|Ac (Z1e rfl rfl (vt rfl)) rfl<|Ac (Z1a rfl rfl (vt rfl)) rfl<|As rfl<|As rfl<|Nl<|sq ?_
 obtain ⟨x3,hx3,h⟩:=Z7 h
 refine Rg<|Ld Z28 2 rfl<|Ac (Z0g (xs:=[.tmp 22,.const (Value.int IntKind.i64 100)]) (Yss _ _ _ hx3) e21 rfl rfl ⟨vt rfl,vk rfl,trivial⟩) rfl<|Mt2 rfl<|Ac (Z1e rfl rfl (vt rfl)) rfl<|Ac (Z1a rfl rfl (vt rfl)) rfl<|Cv rfl (Zm 5 rfl rfl Zbb) fun g4=>Zf Z28 5 rfl<|As rfl<|Nl<|sq ?_
 obtain ⟨x5,hx5,h⟩:=Z7 h
 refine Rg<|Ac (opb (⟨(-1),0,[]⟩:Group) Zd7 rfl Y2t (pc Yx9 (vk rfl)<|pn rfl)) rfl<|Ac (osl Z5b Zd7 rfl (vt rfl)) rfl<|Ac (opb (⟨(Vector.replicate 4 []),[(⟨(-1),0,[]⟩:Group)]⟩:Switch) Zbb rfl Zrn (pc Ymx (vt rfl)<|pn rfl)) rfl<|Cl [29] (Y3p _ _ hx5) e18 rfl<|Mt2 rfl<|Ac (Z1e rfl rfl (vt rfl)) rfl<|Ac (Z1a rfl rfl (vt rfl)) rfl<|Cv rfl (Zm 7 rfl rfl Z4u) fun g6=>Zf Z4h 7 rfl<|As rfl<|Nl<|sq ?_
 obtain ⟨x7,hx7,h⟩:=Z7 h
 refine Rg<|Ld Z28 2 rfl<|Cl [34] (Y3p _ _ hx7) e18 rfl<|Mt2 rfl<|Ac (Z1e rfl rfl (vt rfl)) rfl<|Ac (Z1a rfl rfl (vt rfl)) rfl<|Cv rfl (Zm 9 rfl rfl Z4u) fun g8=>Zf Z4h 9 rfl<|As rfl<|Nl<|sq ?_
 obtain ⟨x9,hx9,h⟩:=Z7 h
 refine Rg<|Md rfl<|Ac (Z0m rfl rfl (vt rfl) (vk rfl)) rfl<|Md rfl<|Gd rfl (fun hq=>Zq (A:=rd (Z1 Z0l) x2.1) rfl rfl (vt rfl))<|Gd rfl (fun hq=>opb (⟨0,0⟩:Place) Z4u rfl Z98 (pn rfl))<|Gd rfl (fun hq=>osl Z61 Z4u rfl (Zi rfl hq))<|Gd rfl (fun hq=>Z0g (xs:=[.tmp 41,.tmp 43]) (Yr6 _ _ _ (Z2j hx9 hq)) e26 rfl rfl ⟨Zi rfl hq,Zi rfl hq,trivial⟩)<|Ac (Z1m rfl rfl (vt rfl) (vt rfl)) rfl<|Md rfl<|Gd rfl (fun hq=>Zq (A:=rd (Z0 .i64) x3.2) rfl rfl (vt rfl))<|Gd rfl (fun hq=>Z0m rfl rfl (Zi rfl hq) (vk rfl))<|Ac (Z1m rfl rfl (vt rfl) (vt rfl)) rfl<|Md rfl<|Gd rfl (fun hq=>Z2v Z64 rfl rfl Z6o (vt rfl))<|Gd rfl (fun hq=>Z19 rfl rfl Z6p (Zi rfl hq) (vk rfl) rfl)<|Gd rfl (fun hq=>Z1z rfl rfl Z46 (Zi rfl hq) (i:=5) rfl)<|Gd rfl (fun hq=>Z0i rfl rfl Z2q (Zi rfl hq))<|Gd rfl (fun hq=>Z0m rfl rfl (Zi rfl hq) (vk rfl))<|Ac (Z1m rfl rfl (vt rfl) (vt rfl)) rfl<|Md rfl<|Gd rfl (fun hq=>Zq (A:=rd Z6 x5.2) rfl rfl (vt rfl))<|Ac (Z1m rfl rfl (vt rfl) (vt rfl)) rfl<|Md rfl<|Gd rfl (fun hq=>Z1z rfl rfl Z4h (vt rfl) (i:=7) rfl)<|Gd rfl (fun hq=>opb (⟨(-1),(-1)⟩:Place) Z4u rfl Z98 (pc Zcn (vk rfl)<|pc Zdb (vk rfl)<|pn rfl))<|Gd rfl (fun hq=>Zr0 rfl rfl Zxe (by decide) rfl Zzm (Zi rfl hq) (Zi rfl hq))<|Ac (Z1m rfl rfl (vt rfl) (vt rfl)) rfl<|Md rfl<|Gd rfl (fun hq=>Zq (A:=rd Z6 x7.2) rfl rfl (vt rfl))<|Gd rfl (fun hq=>Z0z rfl rfl (Zi rfl hq))<|Ac (Z1m rfl rfl (vt rfl) (vt rfl)) rfl<|As rfl<|Nl<|rt ?_
 cases h;exact Zd Tryz.results9 rfl (Z5 rfl)
def Zbt (s1:(List Place))(x2:Place):Nat→Nat→Option Int
 | 0,i4=>some (-1)
 | m5+1,i4=>(lget s1 (i4:Int)).bind fun x6=>(bif (decide (x2=x6)) then some (i4:Int) else (Zbt s1 x2 m5) (i4+1))
def Zs8 (s1:(List Place))(x2:Place):Option Int:=
 Zbt s1 x2 ((s1.length:Int):Int).toNat 0
theorem Yhq:Q2 Tryz.prog 33 (rd (Z1 Z0l)) (rd Z0l) (rd (Z0 .i64)) Zs8:=fun s1 x2 r h=>I0 Tryz.func33 rfl Tryz.ntmps33 rfl fun w H Z=>by
 unfold Zs8 at h
 refine SR<|Cv rfl (Zs 4 rfl rfl (vt rfl)) fun g3=>Ak rfl<|Nl<|sq<|SR<|Md rfl<|Ac (Z0i rfl rfl Z61 (vt rfl)) rfl<|Mk rfl<|Nl<|bk<|LG (d:=[]) (ν:=Nat×Nat) (fun (m5,i4)=>(Cnt (s1.length:Int) i4 m5∧Zbt s1 x2 m5 i4=some r,m5,[(0,rd (Z1 Z0l) s1),(3,Zb g3 (Lens.id Z0l)),(7,rd (Z0 .i64) (s1.length:Int)),(8,rd (Z0 .i64) (i4:Int))],[(4,Zh g3 40 Z0l x2)])) (((s1.length:Int):Int).toNat,0) ⟨Cnt.start _,h⟩ (FX rfl) ?_
 rintro ⟨m5,i4⟩ ⟨hsf1,h⟩
 dsimp only at hsf1 h ⊢
 cases m5 with
 | zero=>
  unfold Zbt at h
  refine SR<|Ac (Zj rfl rfl (vt rfl) (vt rfl)) rfl<|Nl<|sq<|Cn rfl (fun hc=>absurd (of_decide_eq_true hc) hsf1.zero) (fun hc=>?_)
  refine xt<|SR<|Ak rfl<|Nl<|rt ?_
  cases h;exact Zd Tryz.results33 rfl (Z5 rfl)
 | succ m5=>
  unfold Zbt at h
  refine SR<|Ac (Zj rfl rfl (vt rfl) (vt rfl)) rfl<|Nl<|sq<|Cn rfl (fun hc=>?_) (fun hc=>absurd hsf1.succ (of_decide_eq_false hc))
  have hlti4:=of_decide_eq_true hc
  refine sk<|sq<|bk<|SR<|Md rfl<|As rfl<|Nl<|sq ?_
  obtain ⟨x6,hx6,h⟩:=Z7 h
  refine AR Z00 (by kernel_rfl)<|Zp Z4h 4 rfl<|Zt rfl<|Zt rfl<|Sd (lo [12,13] [] rfl fun S hs hr=>Z0j rfl rfl Z61 (vh hs 12 rfl rfl) (vh hs 13 rfl rfl) hx6)<|SLp Z4h rfl<|Sd (lo [11,15] [] rfl fun S hs hr=>Zr0 rfl rfl Zxe (by decide) rfl Zzm (vh hs 11 rfl rfl) (vh hs 15 rfl rfl))<|Sn<|Cq rfl h (fun h=>?_) (fun h=>?_)
  ·refine SR<|Md rfl<|As rfl<|Nl<|rt ?_
   cases h;exact Zd Tryz.results33 rfl (Z5 rfl)
  ·refine sk<|Rg<|Ac (Z13 (t:=7) rfl rfl (vt rfl) (vk rfl) (vt rfl) hlti4) rfl<|Md rfl<|Nl ?_
   exact ⟨(_,_),Nat.lt_succ_self _,⟨hsf1.next,h⟩,FX rfl⟩
def Zmp (s1:(List Place))(x2:Place):Option Bool:=
 (Zs8 s1 x2).bind fun x4=>some (decide (x4≥0))
theorem Ylp:Q2 Tryz.prog 14 (rd (Z1 Z0l)) (rd Z0l) (rd Z6) Zmp:=fun s1 x2 r h=>I0 Tryz.func14 rfl Tryz.ntmps14 rfl fun w H Z=>by
 unfold Zmp at h
 refine SR<|Cv rfl (Zs 4 rfl rfl (vt rfl)) fun g3=>Ab rfl<|Nl<|sq ?_
 obtain ⟨x4,hx4,h⟩:=Z7 h
 refine Rg<|Md rfl<|Ld Z4h 4 rfl<|Cl [5,6] (Yhq _ _ _ hx4) e33 rfl<|Ac (Z45 rfl rfl (vt rfl) (vk rfl)) rfl<|As rfl<|Nl<|rt ?_
 cases h;exact Zd Tryz.results14 rfl (Z5 rfl)
def Zll (p1:Place)(x2:(List Place)):Option Bool:=
 (Zmp x2 p1).bind fun x4=>some x4
theorem Yxa:Q2 Tryz.prog 13 (rd Z0l) (rp (Z1 Z0l)) (rd Z6) Zll:=fun p1 x2 r h=>I0 Tryz.func13 rfl Tryz.ntmps13 rfl fun w H Z=>by
 unfold Zll at h
 refine SR<|Cv rfl (Zs 3 rfl rfl (vt rfl)) fun g3=>Ab rfl<|Nl<|sq ?_
 obtain ⟨x4,hx4,h⟩:=Z7 h
 refine Rg<|Lp1 Y3w rfl<|Ld Z4h 3 rfl<|Cl [4,5] (Ylp _ _ _ hx4) e14 rfl<|As rfl<|Nl<|rt ?_
 cases h;exact Zd Tryz.results13 rfl (Z5 rfl)
def Zd9 (s1:(List Place))(x2:(Place→Option Bool)):Nat→Nat→Option Int
 | 0,i3=>some (-1)
 | m4+1,i3=>(lget s1 (i3:Int)).bind fun x5=>(x2 x5).bind fun x6=>(bif x6 then some (i3:Int) else (Zd9 s1 x2 m4) (i3+1))
def Zps (s1:(List Place))(x2:(Place→Option Bool)):Option Int:=
 Zd9 s1 x2 ((s1.length:Int):Int).toNat 0
theorem Yz7:Q2 Tryz.prog 31 (rd (Z1 Z0l)) (fn1 Tryz.prog Z0l Z6) (rd (Z0 .i64)) Zps:=fun s1 x2 r h=>I0 Tryz.func31 rfl Tryz.ntmps31 rfl fun w H Z=>by
 unfold Zps at h
 refine SR<|Ak rfl<|Nl<|sq<|SR<|Md rfl<|Ac (Z0i rfl rfl Z61 (vt rfl)) rfl<|Mk rfl<|Nl<|bk<|LG (d:=[]) (ν:=Nat×Nat) (fun (m4,i3)=>(Cnt (s1.length:Int) i3 m4∧Zd9 s1 x2 m4 i3=some r,m4,[(0,rd (Z1 Z0l) s1),(1,fn1 Tryz.prog Z0l Z6 x2),(7,rd (Z0 .i64) (s1.length:Int)),(8,rd (Z0 .i64) (i3:Int))],[])) (((s1.length:Int):Int).toNat,0) ⟨Cnt.start _,h⟩ (FX rfl) ?_
 rintro ⟨m4,i3⟩ ⟨hsf1,h⟩
 dsimp only at hsf1 h ⊢
 cases m4 with
 | zero=>
  unfold Zd9 at h
  refine SR<|Ac (Zj rfl rfl (vt rfl) (vt rfl)) rfl<|Nl<|sq<|Cn rfl (fun hc=>absurd (of_decide_eq_true hc) hsf1.zero) (fun hc=>?_)
  refine xt<|SR<|Ak rfl<|Nl<|rt ?_
  cases h;exact Zd Tryz.results31 rfl (Z5 rfl)
 | succ m4=>
  unfold Zd9 at h
  refine SR<|Ac (Zj rfl rfl (vt rfl) (vt rfl)) rfl<|Nl<|sq<|Cn rfl (fun hc=>?_) (fun hc=>absurd hsf1.succ (of_decide_eq_false hc))
  have hlti3:=of_decide_eq_true hc
  refine sk<|sq<|bk<|SR<|Md rfl<|As rfl<|Nl<|sq ?_
  obtain ⟨x5,hx5,x6,hx6,h⟩:=bs2 h
  refine Rg<|Ac (Zq (A:=fn1 Tryz.prog Z0l Z6 x2) rfl rfl (vt rfl)) rfl<|Md rfl<|Md rfl<|Ac (Z0j rfl rfl Z61 (vt rfl) (vt rfl) hx5) rfl<|Lp1 Z4h rfl<|Ac (Z9a hx6 rfl rfl (vt rfl) (vt rfl)) rfl<|Nl<|Cq rfl h (fun h=>?_) (fun h=>?_)
  ·refine SR<|Md rfl<|As rfl<|Nl<|rt ?_
   cases h;exact Zd Tryz.results31 rfl (Z5 rfl)
  ·refine sk<|Rg<|Ac (Z13 (t:=7) rfl rfl (vt rfl) (vk rfl) (vt rfl) hlti3) rfl<|Md rfl<|Nl ?_
   exact ⟨(_,_),Nat.lt_succ_self _,⟨hsf1.next,h⟩,FX rfl⟩
def Zlx (s1:(List Place))(x2:(Place→Option Bool)):Option Bool:=
 (Zps s1 x2).bind fun x3=>some (decide (x3≥0))
theorem Yw5:Q2 Tryz.prog 11 (rd (Z1 Z0l)) (fn1 Tryz.prog Z0l Z6) (rd Z6) Zlx:=fun s1 x2 r h=>I0 Tryz.func11 rfl Tryz.ntmps11 rfl fun w H Z=>by
 unfold Zlx at h
 refine SR<|Ab rfl<|Nl<|sq ?_
 obtain ⟨x3,hx3,h⟩:=Z7 h
 refine Rg<|Md rfl<|Ac (Zq (A:=fn1 Tryz.prog Z0l Z6 x2) rfl rfl (vt rfl)) rfl<|Cl [5,6] (Yz7 _ _ _ hx3) e31 rfl<|Ac (Z45 rfl rfl (vt rfl) (vk rfl)) rfl<|As rfl<|Nl<|rt ?_
 cases h;exact Zd Tryz.results11 rfl (Z5 rfl)
def Zh3 (s1:Switch)(m2:Int)(x3:Z16):Option Bool:=
 (Zk7 s1 m2).bind fun x6=>(bif (!x6) then (Zkn).bind fun x7=>some x7 else (Ziq s1 m2).bind fun x8=>(Zgr s1 x3).bind fun x10=>(Zlx x10 (fun x=>Zll x x8.1)).bind fun x11=>(opt (!x11) (Zkn)).bind fun x12=>some ((!x11)&&x12))
theorem Yob:Q3 Tryz.prog 3 (rd Z09) (rd (Z0 .i64)) (rd (Z3 24 Zn)) (rd Z6) Zh3:=fun s1 m2 x3 r h=>I0 Tryz.func3 rfl Tryz.ntmps3 rfl fun w H Z=>by
 unfold Zh3 at h
 refine SR<|Cv rfl (Zs 4 rfl rfl (vt rfl)) fun g4=>Cv rfl (Zs 6 rfl rfl (vt rfl)) fun g5=>Ab rfl<|Nl<|sq<|sq ?_
 obtain ⟨x6,hx6,h⟩:=Z7 h
 refine Rg<|Ld Z28 4 rfl<|Md rfl<|Cl [9,10] (Ycs _ _ _ hx6) e8 rfl<|Ac (Z0z rfl rfl (vt rfl)) rfl<|Nl<|Cq rfl h (fun h=>?_) (fun h=>?_)
 ·refine sq ?_
  obtain ⟨x7,hx7,h⟩:=Z7 h
  refine Rg<|Cl [] (Y72 _ hx7) e9 rfl<|As rfl<|Nl<|rt ?_
  cases h;exact Zd Tryz.results3 rfl (Z5 rfl)
 ·refine sk<|sq ?_
  obtain ⟨x8,hx8,h⟩:=Z7 h
  refine Rg<|Ld Z28 4 rfl<|Md rfl<|Cl [15,16] (Yaf _ _ _ hx8) e10 rfl<|Mt2 rfl<|Ac (Z1e rfl rfl (vt rfl)) rfl<|Ac (Z1a rfl rfl (vt rfl)) rfl<|Cv rfl (Zm 8 rfl rfl Ypq) fun g9=>Zf Y3w 8 rfl<|As rfl<|Nl<|sq<|AW.freezeB 7 8 rfl rfl rfl ?_
  obtain ⟨x10,hx10,x11,hx11,x12,hx12,h⟩:=bs3 h
  refine Rg<|Ld Z28 4 rfl<|Ld Z17 6 rfl<|Cl [20,21] (Y1p _ _ _ hx10) e12 rfl<|Ac (Z8l (cs:=[.tmp 7]) (CAs:=[rp (Z1 Z0l) x8.1]) (fun x=>Zll x x8.1) rfl rfl e13 ⟨vt rfl,trivial⟩ (fun x y h=>Yxa _ _ y h)) rfl<|Cl [22,23] (Yw5 _ _ _ hx11) e11 rfl<|Ac (Z0z rfl rfl (vt rfl)) rfl<|Md rfl<|Gd rfl (fun hq=>Z0g (xs:=[]) (Y72 _ (Z2j hx12 hq)) e9 rfl rfl trivial)<|Ac (Z1m rfl rfl (vt rfl) (vt rfl)) rfl<|As rfl<|Nl<|rt ?_
  cases h;exact Zd Tryz.results3 rfl (Z5 rfl)
end Go.Proofs.YtinplddjjalohaaGreatDoor.W
set_option maxHeartbeats 1000000
set_option maxRecDepth 4000
namespace Go.Proofs.YtinplddjjalohaaGreatDoor.W
open Go Go.Wb
end Go.Proofs.YtinplddjjalohaaGreatDoor.W
