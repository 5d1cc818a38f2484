/- A part of the proof. -/
import Derived.Test.YtjppkmpecdbepaaGreatDoorG1
set_option linter.unusedVariables false
set_option maxHeartbeats 1000000
set_option maxRecDepth 4000
set_option linter.unusedSimpArgs false
namespace Go.Proofs.YtjppkmpecdbepaaGreatDoor.W
open Go Go.Wb
theorem e88:Ent Tryz.prog 88:=Ent.mk Tryz.func88 rfl rfl
theorem Zwa:Ent Tryz.prog 139:=Ent.mk Tryz.func139 rfl rfl
theorem e86:Ent Tryz.prog 86:=Ent.mk Tryz.func86 rfl rfl
theorem Y64:Ent Tryz.prog 286:=Ent.mk Tryz.func286 rfl rfl
def Zkd (x1:Flow)(x2:Flow):Option Bool:=
 (Zlk x1 x2).bind fun x4=>some x4
theorem Ymj:Q2 Tryz.prog 211 (rd Zp) (rp Zp) (rd Z3) Zkd:=fun x1 x2 r h=>I0 Tryz.func211 rfl Tryz.ntmps211 rfl fun w H Z=>by
 unfold Zkd at h
 refine SR<|Cv rfl (Zm 3 rfl rfl (vt rfl)) fun g3=>Ab rfl<|Nl<|sq ?_
 obtain ⟨x4,hx4,h⟩:=Z6 h
 refine Rg<|Ld Z19 3 rfl<|Lp1 Z19 rfl<|Cl [4,5] (Zyw _ _ _ hx4) e88 rfl<|As rfl<|Nl<|rt ?_
 cases h;exact Z9 Tryz.results211 rfl (Z5 rfl)
def Zk7 (s1:(List Flow))(x2:(Flow→Option Bool)):Option Bool:=
 (Zs9 s1 x2).bind fun x3=>some (decide (x3≥0))
theorem Zyr:Q2 Tryz.prog 49 (rd (Z1 Zp)) (fn1 Tryz.prog Zp Z3) (rd Z3) Zk7:=fun s1 x2 r h=>I0 Tryz.func49 rfl Tryz.ntmps49 rfl fun w H Z=>by
 unfold Zk7 at h
 refine SR<|Ab rfl<|Nl<|sq ?_
 obtain ⟨x3,hx3,h⟩:=Z6 h
 refine Rg<|Md rfl<|Ac (Zk (A:=fn1 Tryz.prog Zp Z3 x2) rfl rfl (vt rfl)) rfl<|Cl [5,6] (Ym5 _ _ _ hx3) e89 rfl<|Ac (Z1z rfl rfl (vt rfl) (vk rfl)) rfl<|As rfl<|Nl<|rt ?_
 cases h;exact Z9 Tryz.results49 rfl (Z5 rfl)
def Zeb (x1:Int):Option ((List Flow)×Fault):=
 some ([],(⟨true,5,x1⟩:Fault))
theorem Zpy:Q1 Tryz.prog 173 (rd (Z0 .i64)) (fun r=>Z0t (rd (Z1 Zp) r.1) (rd Z12 r.2)) Zeb:=fun x1 r h=>I0 Tryz.func173 rfl Tryz.ntmps173 rfl fun w H Z=>by
 unfold Zeb at h
 refine SR<|Ac (Zn (A:=rd (Z1 Zp) []) rfl rfl Z04) rfl<|Cv rfl (Zo 4 rfl rfl Z1t) fun g2=>Nl<|SR<|Md rfl<|Ac (opb (⟨true,5,x1⟩:Fault) Z1t rfl Z41 (pc Zc2 vb<|pc Zce (vk rfl)<|pc Zbu (vt rfl)<|pn rfl)) rfl<|Ac (Zn (A:=rd (Z1 Zp) []) rfl rfl Z04) rfl<|Ze Z05 4 rfl<|Nl<|rt ?_
 cases h;exact Z0c Tryz.results173 rfl (Z5 rfl) (Zv rfl (i:=4) rfl Z05)
def Zh3:(List Flow)→Nat→(List Flow)→Option (List Flow)
 | [],i8,l6=>some l6
 | x10::l9,i8,l6=>(Za0 (⟨x10.Cookie,0,0,0,x10.Idle,x10.Hard,x10.Priority,0,0,0,x10.Flags,x10.Match,x10.Insts⟩:FlowMod)).bind fun x12=>(Z11 l6 [x12]).bind fun l13=>(Zh3 l9) (i8+1) l13
def Zbp (t1:(List Flow)):Option (List Flow):=
 (omk (IntKind.i64.wrap ((t1.length:Int)+1))).bind fun u2=>Zh3 t1 0 []
theorem Zpz (t1:(List Flow))(r:(List Flow))(h:Zbp t1=some r):Con Tryz.prog 212 [rd (Z1 Zp) t1] emp (fun v=>Zg v) (fun v=>Zi v 135 Zp r):=by
 refine Con.intro0 Tryz.func212 rfl Tryz.ntmps212 rfl fun w H Z=>?_
 unfold Zbp at h
 refine sq<|AW.newnil 1001 135 Zp<|Rg<|Ac (Zn rfl rfl vc) rfl<|Nl<|sq ?_
 obtain ⟨u2,hu2,h⟩:=Z6 h
 refine Rg<|Md rfl<|Ac (Z07 rfl rfl Z25 (vt rfl)) rfl<|Ac (Z0o rfl rfl (vt rfl) (vk rfl)) rfl<|Cv rfl (Zwm 1002 hu2 rfl rfl Zg0 Z4j (vt rfl)) fun v3=>Aw rfl<|Nl<|sq<|SR<|Md rfl<|Ac (Z07 rfl rfl Z25 (vt rfl)) rfl<|Mk rfl<|Nl<|bk<|LG (d:=[]) (ν:=(List Flow)×Nat×(List Flow)×Value) (fun (l9,i8,l6,v7)=>(Sfx t1 i8 l9∧Zh3 l9 i8 l6=some r,l9.length,[(3,Zg v7),(10,rd (Z1 Zp) t1),(11,rd (Z0 .i64) (t1.length:Int)),(12,rd (Z0 .i64) (i8:Int))],[(1002,Zi v7 135 Zp l6)])) (t1,0,[],v3) ⟨Sfx.start _,h⟩ (FX rfl) ?_
 rintro ⟨l9,i8,l6,v7⟩ ⟨hsf1,h⟩
 dsimp only at hsf1 h ⊢
 cases l9 with
 | nil=>
  unfold Zh3 at h
  refine SR<|Ac (Zh rfl rfl (vt rfl) (vt rfl)) rfl<|Nl<|sq<|Cn rfl (fun hc=>absurd (of_decide_eq_true hc) hsf1.nil) (fun hc=>?_)
  refine xt<|SR<|Mw rfl<|Aw rfl<|Nl<|rt ?_
  cases h;exact Z29 (i:=1002) Tryz.results212 rfl rfl rfl
 | cons x10 l9=>
  unfold Zh3 at h
  refine SR<|Ac (Zh rfl rfl (vt rfl) (vt rfl)) rfl<|Nl<|sq<|Cn rfl (fun hc=>?_) (fun hc=>absurd hsf1.cons (of_decide_eq_false hc))
  have hlti8:=of_decide_eq_true hc
  refine sk<|sq<|bk<|SR<|Ac (Z0d rfl rfl Z25 (vt rfl) (vt rfl) hsf1.lget) rfl<|Lp1 Z19 rfl<|Cv rfl (Zo 6 rfl rfl Z4j) fun g11=>Ze Z19 6 rfl<|Nl ?_
  obtain ⟨x12,hx12,l13,hl13,h⟩:=bs2 h
  refine Rg<|Mw rfl<|Zf lFlow_0 Znl rfl<|Ld Z1q 6 rfl<|Zf lFlow_1 Z6t rfl<|Ld Zc 6 rfl<|Zf lFlow_2 Zsi rfl<|Ld Zc 6 rfl<|Zf lFlow_3 Zpp rfl<|Ld Zc 6 rfl<|Zf lFlow_4 Zjw rfl<|Ld Zc 6 rfl<|Zf lFlow_5 Zhk rfl<|Ld Z73 6 rfl<|Zf lFlow_6 Z7q rfl<|Ld Z4r 6 rfl<|Ac (opb (⟨x10.Cookie,0,0,0,x10.Idle,x10.Hard,x10.Priority,0,0,0,x10.Flags,x10.Match,x10.Insts⟩:FlowMod) Z9l rfl Zid (pc Y1a (vt rfl)<|pc Y4e (vt rfl)<|pc Zxl (vt rfl)<|pc Y0h (vt rfl)<|pc Y21 (vt rfl)<|pc Zoa (vt rfl)<|pc Zq9 (vt rfl)<|pn rfl)) rfl<|Cl [31] (Zg6 _ _ hx12) e82 rfl<|Ac (osl Z25 Z4j rfl (vt rfl)) rfl<|Cv rfl (Z1f 1002 hl13 rfl rfl Zg0 (vt rfl) rfl (vt rfl)) fun v14=>Aw rfl<|Nl<|Rg<|Ac (Z0a (t:=11) rfl rfl (vt rfl) (vk rfl) (vt rfl) hlti8) rfl<|Md rfl<|Nl ?_
  exact ⟨(_,_,_,_),Nat.lt_succ_self _,⟨hsf1.next,h⟩,FX rfl⟩
theorem Y8r (t1:(List Flow))(r:(List Flow))(h:Zbp t1=some r):PCon Tryz.prog 212 [rd (Z1 Zp) t1] (rd (Z1 Zp) r):=PCon.of_row (Zpz t1 r h)
def Zmw (x1:Flow):Option flow_place:=
 (Z97 x1).bind fun x4=>some (⟨x1.Priority,x4⟩:flow_place)
theorem Y36:Q1 Tryz.prog 139 (rd Zp) (rd Z7u) Zmw:=fun x1 r h=>I0 Tryz.func139 rfl Tryz.ntmps139 rfl fun w H Z=>by
 unfold Zmw at h
 refine SR<|Cv rfl (Zm 2 rfl rfl (vt rfl)) fun g2=>Cv rfl (Zo 3 rfl rfl Zy0) fun g3=>Nl<|sq ?_
 obtain ⟨x4,hx4,h⟩:=Z6 h
 refine AR Z03 (by kernel_rfl)<|SFd lFlow_1 Z6t rfl<|Zu Zc 2 rfl<|Zu Z19 2 rfl<|SCl [5] (Zc6 _ _ hx4) Zcx rfl<|Sd (lo [4,6] [] rfl fun S hs hr=>opb (⟨x1.Priority,x4⟩:flow_place) Zy0 rfl Y6k (pc Ybg (vh hs 4 rfl rfl)<|pc Yfd (vh hs 6 rfl rfl)<|pn rfl))<|SSt Y2k 3 rfl<|Sn<|rt ?_
 cases h;exact Z9 Tryz.results139 rfl (Zv rfl (i:=3) rfl Y2k)
def Zit (a1:Flow)(b2:Flow):Option Bool:=
 (Zmw a1).bind fun x5=>(Zmw b2).bind fun x6=>some (decide (x5=x6))
theorem Zzn:Q2 Tryz.prog 86 (rd Zp) (rd Zp) (rd Z3) Zit:=fun a1 b2 r h=>I0 Tryz.func86 rfl Tryz.ntmps86 rfl fun w H Z=>by
 unfold Zit at h
 refine SR<|Cv rfl (Zm 3 rfl rfl (vt rfl)) fun g3=>Cv rfl (Zm 4 rfl rfl (vt rfl)) fun g4=>Ab rfl<|Nl<|sq ?_
 obtain ⟨x5,hx5,x6,hx6,h⟩:=bs2 h
 refine AR Z03 (by kernel_rfl)<|Zu Z19 3 rfl<|SCl [5] (Y36 _ _ hx5) Zwa rfl<|Zu Z19 4 rfl<|SCl [7] (Y36 _ _ hx6) Zwa rfl<|Sd (lo [6,8] [] rfl fun S hs hr=>Z98 rfl rfl Ym9 (by decide) rfl Yng (vh hs 6 rfl rfl) (vh hs 8 rfl rfl))<|SAs rfl<|Sn<|rt ?_
 cases h;exact Z9 Tryz.results86 rfl (Z5 rfl)
def Z5j (x1:Flow)(x2:Flow):Option Bool:=
 (Zit x1 x2).bind fun x4=>some x4
theorem Yg6:Q2 Tryz.prog 275 (rd Zp) (rp Zp) (rd Z3) Z5j:=fun x1 x2 r h=>I0 Tryz.func275 rfl Tryz.ntmps275 rfl fun w H Z=>by
 unfold Z5j at h
 refine SR<|Cv rfl (Zm 3 rfl rfl (vt rfl)) fun g3=>Ab rfl<|Nl<|sq ?_
 obtain ⟨x4,hx4,h⟩:=Z6 h
 refine Rg<|Ld Z19 3 rfl<|Lp1 Z19 rfl<|Cl [4,5] (Zzn _ _ _ hx4) e86 rfl<|As rfl<|Nl<|rt ?_
 cases h;exact Z9 Tryz.results275 rfl (Z5 rfl)
def Zof (a1:Tern)(b2:Tern):Option Bool:=
 (Z7a b2.Mask a1.Mask).bind fun x5=>(Z7c x5).bind fun x6=>(opt x6 (Zhs b2 a1.Value)).bind fun x7=>some (x6&&x7)
theorem Yil:Q2 Tryz.prog 286 (rd Z7) (rd Z7) (rd Z3) Zof:=fun a1 b2 r h=>I0 Tryz.func286 rfl Tryz.ntmps286 rfl fun w H Z=>by
 unfold Zof at h
 refine SR<|Cv rfl (Zm 3 rfl rfl (vt rfl)) fun g3=>Cv rfl (Zm 4 rfl rfl (vt rfl)) fun g4=>Ab rfl<|Nl<|sq ?_
 obtain ⟨x5,hx5,x6,hx6,x7,hx7,h⟩:=bs3 h
 refine Rg<|Zf lTern_1 Z3q rfl<|Ld Z06 4 rfl<|Zf lTern_1 Z3q rfl<|Ld Z06 3 rfl<|Cl [6,8] (Z95 _ _ _ hx5) Z8b rfl<|Cl [9] (Z9a _ _ hx6) Z8q rfl<|Md rfl<|Gd rfl (fun hq=>Z08 rfl rfl Z0j (vt rfl) (i:=4) rfl)<|Gd rfl (fun hq=>Z0i lTern_0 rfl rfl Z42 (vt rfl))<|Gd rfl (fun hq=>Z08 rfl rfl Z06 (Z8 rfl hq) (i:=3) rfl)<|Gd rfl (fun hq=>Zz (xs:=[.tmp 12,.tmp 14]) (Zxv _ _ _ (Z1p hx7 hq)) Zys rfl rfl ⟨Z8 rfl hq,Z8 rfl hq,trivial⟩)<|Ac (Z0h rfl rfl (vt rfl) (vt rfl)) rfl<|As rfl<|Nl<|rt ?_
 cases h;exact Z9 Tryz.results286 rfl (Z5 rfl)
def Ze1 (b2:Zs):(List Tern)→Nat→Option Bool
 | [],i5=>some true
 | x7::l6,i5=>(chk 24 (i5:Int)).bind fun j9=>(Zof x7 (Vector.get b2 j9)).bind fun x10=>(bif (!x10) then some false else (Ze1 b2 l6) (i5+1))
def Zn4 (a1:Zs)(b2:Zs):Option Bool:=
 Ze1 b2 (Vector.toList a1) 0
theorem Zvo:Q2 Tryz.prog 263 (rd (Z4 24 Z7)) (rd (Z4 24 Z7)) (rd Z3) Zn4:=fun a1 b2 r h=>I0 Tryz.func263 rfl Tryz.ntmps263 rfl fun w H Z=>by
 unfold Zn4 at h
 refine SR<|Cv rfl (Zm 3 rfl rfl (vt rfl)) fun g3=>Cv rfl (Zm 4 rfl rfl (vt rfl)) fun g4=>Ab rfl<|Nl<|sq<|SR<|Ld Z09 3 rfl<|Mk rfl<|Nl<|bk<|LG (d:=[]) (ν:=(List Tern)×Nat) (fun (l6,i5)=>(Sfx (Vector.toList a1) i5 l6∧Ze1 b2 l6 i5=some r,l6.length,[(3,Za g4 (Lens.id (Z4 24 Z7))),(7,rd (Z4 24 Z7) a1),(8,rd (Z0 .i64) (i5:Int))],[(4,Zd g4 32 (Z4 24 Z7) b2)])) ((Vector.toList a1),0) ⟨Sfx.start _,h⟩ (FX rfl) ?_
 rintro ⟨l6,i5⟩ ⟨hsf1,h⟩
 dsimp only at hsf1 h ⊢
 cases l6 with
 | nil=>
  unfold Ze1 at h
  refine SR<|Ac (Zh rfl rfl (vt rfl) (vk rfl)) rfl<|Nl<|sq<|Cn rfl (fun hc=>absurd (of_decide_eq_true hc) (hsf1.niln (by simp))) (fun hc=>?_)
  refine xt<|SR<|Ab rfl<|Nl<|rt ?_
  cases h;exact Z9 Tryz.results263 rfl (Z5 rfl)
 | cons x7 l6=>
  unfold Ze1 at h
  refine SR<|Ac (Zh rfl rfl (vt rfl) (vk rfl)) rfl<|Nl<|sq<|Cn rfl (fun hc=>?_) (fun hc=>absurd (hsf1.consn (by simp)) (of_decide_eq_false hc))
  have hlti5:=of_decide_eq_true hc
  refine sk<|sq<|bk<|SR<|Md rfl<|Ac (Z7n rfl rfl Z3t Z0j (vt rfl) (vt rfl) hsf1.lget) rfl<|Cv rfl (Zo 7 rfl rfl Z2l) fun g8=>As rfl<|Ze Z0j 7 rfl<|Nl<|sq ?_
  obtain ⟨j9,hj9,x10,hx10,h⟩:=bs2 h
  refine AR Z03 (by kernel_rfl)<|Zu Z0j 7 rfl<|SMd rfl<|Sd (lo [3,13] [] rfl fun S hs hr=>Z2o rfl rfl Z3t (vh hs 3 rfl rfl) (vh hs 13 rfl rfl) hj9)<|Zu Z0j 4 rfl<|SCl [12,15] (Yil _ _ _ hx10) Y64 rfl<|Sd (lo [16] [] rfl fun S hs hr=>Z0g rfl rfl (vh hs 16 rfl rfl))<|Sn<|Cq rfl h (fun h=>?_) (fun h=>?_)
  ·refine SR<|Ab rfl<|Nl<|rt ?_
   cases h;exact Z9 Tryz.results263 rfl (Z5 rfl)
  ·refine sk<|Rg<|Ac (Z43 rfl rfl (vt rfl) (vk rfl) rfl hlti5) rfl<|Md rfl<|Nl ?_
   exact ⟨(_,_),Nat.lt_succ_self _,⟨hsf1.next,h⟩,FX rfl⟩
end Go.Proofs.YtjppkmpecdbepaaGreatDoor.W
set_option maxHeartbeats 1000000
set_option maxRecDepth 4000
namespace Go.Proofs.YtjppkmpecdbepaaGreatDoor.W
open Go Go.Wb
theorem Zwp:Ent Tryz.prog 263:=Ent.mk Tryz.func263 rfl rfl
theorem Ygk:Ent Tryz.prog 277:=Ent.mk Tryz.func277 rfl rfl
theorem Yb0:Ent Tryz.prog 279:=Ent.mk Tryz.func279 rfl rfl
theorem Yer:Ent Tryz.prog 305:=Ent.mk Tryz.func305 rfl rfl
theorem Yb4:Ent Tryz.prog 301:=Ent.mk Tryz.func301 rfl rfl
theorem Yka:Ent Tryz.prog 294:=Ent.mk Tryz.func294 rfl rfl
theorem Zx9:Ent Tryz.prog 293:=Ent.mk Tryz.func293 rfl rfl
def Zp4 (x1:Zs)(x2:Flow):Option Bool:=
 (Z97 x2).bind fun x5=>(Zn4 x5 x1).bind fun x6=>some x6
theorem Ynz:Q2 Tryz.prog 277 (rd (Z4 24 Z7)) (rd Zp) (rd Z3) Zp4:=fun x1 x2 r h=>I0 Tryz.func277 rfl Tryz.ntmps277 rfl fun w H Z=>by
 unfold Zp4 at h
 refine SR<|Cv rfl (Zm 3 rfl rfl (vt rfl)) fun g3=>Cv rfl (Zm 4 rfl rfl (vt rfl)) fun g4=>Ab rfl<|Nl<|sq ?_
 obtain ⟨x5,hx5,x6,hx6,h⟩:=bs2 h
 refine AR Z03 (by kernel_rfl)<|Zu Z19 4 rfl<|SCl [5] (Zc6 _ _ hx5) Zcx rfl<|Zu Z09 3 rfl<|SCl [6,7] (Zvo _ _ _ hx6) Zwp rfl<|SAs rfl<|Sn<|rt ?_
 cases h;exact Z9 Tryz.results277 rfl (Z5 rfl)
def Z6u (x1:Flow)(x2:Zs):Option Bool:=
 (Zp4 x2 x1).bind fun x4=>some x4
theorem Ybh:Q2 Tryz.prog 276 (rd Zp) (rp (Z4 24 Z7)) (rd Z3) Z6u:=fun x1 x2 r h=>I0 Tryz.func276 rfl Tryz.ntmps276 rfl fun w H Z=>by
 unfold Z6u at h
 refine SR<|Cv rfl (Zm 3 rfl rfl (vt rfl)) fun g3=>Ab rfl<|Nl<|sq ?_
 obtain ⟨x4,hx4,h⟩:=Z6 h
 refine Rg<|Lp1 Z09 rfl<|Ld Z19 3 rfl<|Cl [4,5] (Ynz _ _ _ hx4) Ygk rfl<|As rfl<|Nl<|rt ?_
 cases h;exact Z9 Tryz.results276 rfl (Z5 rfl)
def Zp6 (x1:Flow)(x2:(BitVec 64))(m3:(BitVec 64)):Option Bool:=
 some (decide ((x1.Cookie&&& m3)=(x2&&& m3)))
theorem Ymm:Q3 Tryz.prog 279 (rd Zp) (rd Zx) (rd Zx) (rd Z3) Zp6:=fun x1 x2 m3 r h=>I0 Tryz.func279 rfl Tryz.ntmps279 rfl fun w H Z=>by
 unfold Zp6 at h
 refine SR<|Cv rfl (Zm 4 rfl rfl (vt rfl)) fun g4=>Ab rfl<|Nl<|SR<|Zf lFlow_0 Znl rfl<|Ld Z1q 4 rfl<|Md rfl<|Ac (Z7m rfl rfl (vt rfl) (vt rfl)) rfl<|Md rfl<|Md rfl<|Ac (Z7m rfl rfl (vt rfl) (vt rfl)) rfl<|Ac (Ziu rfl rfl (vt rfl) (vt rfl)) rfl<|As rfl<|Nl<|rt ?_
 cases h;exact Z9 Tryz.results279 rfl (Z5 rfl)
def Z4e (x1:Flow)(x2:FlowMod):Option Bool:=
 (Zp6 x1 x2.Cookie x2.CookieMask).bind fun x4=>some x4
theorem Ylw:Q2 Tryz.prog 278 (rd Zp) (rp Z1b) (rd Z3) Z4e:=fun x1 x2 r h=>I0 Tryz.func278 rfl Tryz.ntmps278 rfl fun w H Z=>by
 unfold Z4e at h
 refine SR<|Cv rfl (Zm 3 rfl rfl (vt rfl)) fun g3=>Ab rfl<|Nl<|sq ?_
 obtain ⟨x4,hx4,h⟩:=Z6 h
 refine Rg<|Ld Z19 3 rfl<|Fp lFlowMod_0 Zpe rfl<|Lp1 Z1q rfl<|Fp Zvs Yof rfl<|Lp1 Z1q rfl<|Cl [4,6,8] (Ymm _ _ _ _ hx4) Yb0 rfl<|As rfl<|Nl<|rt ?_
 cases h;exact Z9 Tryz.results278 rfl (Z5 rfl)
def Zr3 (a1:Action):Option Int:=
 some a1.Port
theorem Yoj:Q1 Tryz.prog 305 (rd Zj) (rd (Z0 .i64)) Zr3:=fun a1 r h=>I0 Tryz.func305 rfl Tryz.ntmps305 rfl fun w H Z=>by
 unfold Zr3 at h
 refine SR<|Cv rfl (Zm 2 rfl rfl (vt rfl)) fun g2=>Ak rfl<|Nl<|SR<|Zf lAction_1 Z8k rfl<|Ld Zc 2 rfl<|As rfl<|Nl<|rt ?_
 cases h;exact Z9 Tryz.results305 rfl (Z5 rfl)
def Zo7 (l1:(List Action)):Option (List Int):=
 (Zko l1 0 Zr3).bind fun x2=>some x2
theorem Ygi:Q1 Tryz.prog 301 (rd (Z1 Zj)) (rd (Z1 (Z0 .i64))) Zo7:=fun l1 r h=>I0 Tryz.func301 rfl Tryz.ntmps301 rfl fun w H Z=>by
 unfold Zo7 at h
 refine SR<|Ac (Zn (A:=rd (Z1 (Z0 .i64)) []) rfl rfl Z04) rfl<|Nl<|sq ?_
 obtain ⟨x2,hx2,h⟩:=Z6 h
 refine Rg<|Md rfl<|Ac (Zz (xs:=[.tmp 3,.const (Value.int IntKind.i64 0),.func 305]) (Zyh _ _ _ _ hx2) Y3c rfl rfl ⟨vt rfl,vk rfl,vf1 Yer Yoj,trivial⟩) rfl<|As rfl<|Nl<|rt ?_
 cases h;exact Z9 Tryz.results301 rfl (Z5 rfl)
def Zuf (x1:Flow):Option (List Int):=
 (Zm8 x1 Zo7).bind fun x3=>some x3
theorem Yhi:Q1 Tryz.prog 294 (rd Zp) (rd (Z1 (Z0 .i64))) Zuf:=fun x1 r h=>I0 Tryz.func294 rfl Tryz.ntmps294 rfl fun w H Z=>by
 unfold Zuf at h
 refine SR<|Cv rfl (Zm 2 rfl rfl (vt rfl)) fun g2=>Ac (Zn (A:=rd (Z1 (Z0 .i64)) []) rfl rfl Z04) rfl<|Nl<|sq ?_
 obtain ⟨x3,hx3,h⟩:=Z6 h
 refine Rg<|Ld Z19 2 rfl<|Ac (Zz (xs:=[.tmp 3,.func 301]) (Zyz _ _ _ hx3) Zx6 rfl rfl ⟨vt rfl,vf1 Yb4 Ygi,trivial⟩) rfl<|As rfl<|Nl<|rt ?_
 cases h;exact Z9 Tryz.results294 rfl (Z5 rfl)
def Zmb (n1:Int)(x2:Int)(l3:(List Int)):Option Bool:=
 (opt (!(decide (n1=x2))) (Zhb l3 n1)).bind fun x4=>some ((decide (n1=x2))||x4)
theorem Y1h:Q3 Tryz.prog 293 (rd (Z0 .i64)) (rd (Z0 .i64)) (rd (Z1 (Z0 .i64))) (rd Z3) Zmb:=fun n1 x2 l3 r h=>I0 Tryz.func293 rfl Tryz.ntmps293 rfl fun w H Z=>by
 unfold Zmb at h
 refine SR<|Ab rfl<|Nl<|sq ?_
 obtain ⟨x4,hx4,h⟩:=Z6 h
 refine Rg<|Md rfl<|Md rfl<|Ac (Zy rfl rfl (vt rfl) (vt rfl)) rfl<|Md rfl<|Gd rfl (fun hq=>Zk (A:=rd (Z1 (Z0 .i64)) l3) rfl rfl (vt rfl))<|Gd rfl (fun hq=>Zk (A:=rd (Z0 .i64) n1) rfl rfl (vt rfl))<|Gd rfl (fun hq=>Zz (xs:=[.tmp 11,.tmp 12]) (Zrv _ _ _ (Z4a hx4 hq)) Zsn rfl rfl ⟨Z8 rfl hq,Z8 rfl hq,trivial⟩)<|Ac (Z1u rfl rfl (vt rfl) (vt rfl)) rfl<|As rfl<|Nl<|rt ?_
 cases h;exact Z9 Tryz.results293 rfl (Z5 rfl)
def Zua (x1:Flow)(p2:Int)(x3:Int):Option Bool:=
 (Zuf x1).bind fun x5=>(Zmb p2 4294967295 x5).bind fun x6=>(opt x6 (Ztz x1)).bind fun x7=>(opt x6 (Zmb x3 4294967295 x7)).bind fun x8=>some (x6&&x8)
theorem Yln:Q3 Tryz.prog 281 (rd Zp) (rd (Z0 .i64)) (rd (Z0 .i64)) (rd Z3) Zua:=fun x1 p2 x3 r h=>I0 Tryz.func281 rfl Tryz.ntmps281 rfl fun w H Z=>by
 unfold Zua at h
 refine SR<|Cv rfl (Zm 4 rfl rfl (vt rfl)) fun g4=>Ab rfl<|Nl<|sq ?_
 obtain ⟨x5,hx5,x6,hx6,x7,hx7,x8,hx8,h⟩:=bs4 h
 refine Rg<|Md rfl<|Ld Z19 4 rfl<|Cl [8] (Yhi _ _ hx5) Yka rfl<|Ac (Zz (xs:=[.tmp 7,.const (Value.int IntKind.i64 4294967295),.tmp 9]) (Y1h _ _ _ _ hx6) Zx9 rfl rfl ⟨vt rfl,vk rfl,vt rfl,trivial⟩) rfl<|Md rfl<|Gd rfl (fun hq=>Zk (A:=rd (Z0 .i64) x3) rfl rfl (vt rfl))<|Gd rfl (fun hq=>Z08 rfl rfl Z19 (vt rfl) (i:=4) rfl)<|Gd rfl (fun hq=>Zz (xs:=[.tmp 13]) (Yk7 _ _ (Z1p hx7 hq)) Yma rfl rfl ⟨Z8 rfl hq,trivial⟩)<|Gd rfl (fun hq=>Zz (xs:=[.tmp 12,.const (Value.int IntKind.i64 4294967295),.tmp 14]) (Y1h _ _ _ _ (Z1p hx8 hq)) Zx9 rfl rfl ⟨Z8 rfl hq,vk rfl,Z8 rfl hq,trivial⟩)<|Ac (Z0h rfl rfl (vt rfl) (vt rfl)) rfl<|As rfl<|Nl<|rt ?_
 cases h;exact Z9 Tryz.results281 rfl (Z5 rfl)
end Go.Proofs.YtjppkmpecdbepaaGreatDoor.W
set_option maxHeartbeats 1000000
set_option maxRecDepth 4000
namespace Go.Proofs.YtjppkmpecdbepaaGreatDoor.W
open Go Go.Wb
theorem Y74:Ent Tryz.prog 281:=Ent.mk Tryz.func281 rfl rfl
theorem Yd6:Ent Tryz.prog 302:=Ent.mk Tryz.func302 rfl rfl
theorem Ye2:Ent Tryz.prog 297:=Ent.mk Tryz.func297 rfl rfl
theorem Yky:Ent Tryz.prog 296:=Ent.mk Tryz.func296 rfl rfl
theorem Yi6:Ent Tryz.prog 295:=Ent.mk Tryz.func295 rfl rfl
theorem Y7i:Ent Tryz.prog 275:=Ent.mk Tryz.func275 rfl rfl
theorem Y4r:Ent Tryz.prog 276:=Ent.mk Tryz.func276 rfl rfl
theorem Y6u:Ent Tryz.prog 278:=Ent.mk Tryz.func278 rfl rfl
theorem Yc6:Ent Tryz.prog 280:=Ent.mk Tryz.func280 rfl rfl
theorem Zkf:Ent Tryz.prog 282:=Ent.mk Tryz.func282 rfl rfl
theorem Y57:Ent Tryz.prog 283:=Ent.mk Tryz.func283 rfl rfl
theorem Y81:Ent Tryz.prog 253:=Ent.mk Tryz.func253 rfl rfl
def Z75 (x1:Flow)(x2:FlowMod):Option Bool:=
 (Zua x1 x2.OutPort x2.OutGroup).bind fun x4=>some x4
theorem Y5u:Q2 Tryz.prog 280 (rd Zp) (rp Z1b) (rd Z3) Z75:=fun x1 x2 r h=>I0 Tryz.func280 rfl Tryz.ntmps280 rfl fun w H Z=>by
 unfold Z75 at h
 refine SR<|Cv rfl (Zm 3 rfl rfl (vt rfl)) fun g3=>Ab rfl<|Nl<|sq ?_
 obtain ⟨x4,hx4,h⟩:=Z6 h
 refine Rg<|Ld Z19 3 rfl<|Fp lFlowMod_8 Zxz rfl<|Lp1 Zc rfl<|Fp lFlowMod_9 Y3i rfl<|Lp1 Zc rfl<|Cl [4,6,8] (Yln _ _ _ _ hx4) Y74 rfl<|As rfl<|Nl<|rt ?_
 cases h;exact Z9 Tryz.results280 rfl (Z5 rfl)
def Zl4 (t1:(Flow→Option Bool))(x2:Flow):Option Bool:=
 (t1 x2).bind fun x3=>some (!x3)
theorem Ybq:Q2 Tryz.prog 297 (rd (Z2a Tryz.prog Zp Z3)) (rp Zp) (rd Z3) Zl4:=fun t1 x2 r h=>I0 Tryz.func297 rfl Tryz.ntmps297 rfl fun w H Z=>by
 unfold Zl4 at h
 refine SR<|Ab rfl<|Nl<|sq ?_
 obtain ⟨x3,hx3,h⟩:=Z6 h
 refine Rg<|Md rfl<|Lp1 Z19 rfl<|Ac (Z2z hx3 rfl rfl (vkf ((vt rfl))) (vt rfl)) rfl<|Ac (Z0g rfl rfl (vt rfl)) rfl<|As rfl<|Nl<|rt ?_
 cases h;exact Z9 Tryz.results297 rfl (Z5 rfl)
def Zdj (s1:(List (Flow→Option Bool)))(x2:((Flow→Option Bool)→Option Bool)):Nat→Nat→Option Int
 | 0,i3=>some (-1)
 | m4+1,i3=>(lget s1 (i3:Int)).bind fun x5=>(x2 x5).bind fun x6=>(bif x6 then some (i3:Int) else (Zdj s1 x2 m4) (i3+1))
def Zqa (s1:(List (Flow→Option Bool)))(x2:((Flow→Option Bool)→Option Bool)):Option Int:=
 Zdj s1 x2 ((s1.length:Int):Int).toNat 0
theorem Ym0:Q2 Tryz.prog 302 (rd (Z1 (Z2a Tryz.prog Zp Z3))) (fn1 Tryz.prog (Z2a Tryz.prog Zp Z3) Z3) (rd (Z0 .i64)) Zqa:=fun s1 x2 r h=>I0 Tryz.func302 rfl Tryz.ntmps302 rfl fun w H Z=>by
 unfold Zqa at h
 refine SR<|Ak rfl<|Nl<|sq<|SR<|Md rfl<|Ac (Z07 rfl rfl Zb8 (vt rfl)) rfl<|Mk rfl<|Nl<|bk<|LG (d:=[]) (ν:=Nat×Nat) (fun (m4,i3)=>(Cnt (s1.length:Int) i3 m4∧Zdj s1 x2 m4 i3=some r,m4,[(0,rd (Z1 (Z2a Tryz.prog Zp Z3)) s1),(1,fn1 Tryz.prog (Z2a Tryz.prog Zp Z3) Z3 x2),(7,rd (Z0 .i64) (s1.length:Int)),(8,rd (Z0 .i64) (i3:Int))],[])) (((s1.length:Int):Int).toNat,0) ⟨Cnt.start _,h⟩ (FX rfl) ?_
 rintro ⟨m4,i3⟩ ⟨hsf1,h⟩
 dsimp only at hsf1 h ⊢
 cases m4 with
 | zero=>
  unfold Zdj at h
  refine SR<|Ac (Zh rfl rfl (vt rfl) (vt rfl)) rfl<|Nl<|sq<|Cn rfl (fun hc=>absurd (of_decide_eq_true hc) hsf1.zero) (fun hc=>?_)
  refine xt<|SR<|Ak rfl<|Nl<|rt ?_
  cases h;exact Z9 Tryz.results302 rfl (Z5 rfl)
 | succ m4=>
  unfold Zdj at h
  refine SR<|Ac (Zh rfl rfl (vt rfl) (vt rfl)) rfl<|Nl<|sq<|Cn rfl (fun hc=>?_) (fun hc=>absurd hsf1.succ (of_decide_eq_false hc))
  have hlti3:=of_decide_eq_true hc
  refine sk<|sq<|bk<|SR<|Md rfl<|As rfl<|Nl<|sq ?_
  obtain ⟨x5,hx5,x6,hx6,h⟩:=bs2 h
  refine Rg<|Ac (Zk (A:=fn1 Tryz.prog (Z2a Tryz.prog Zp Z3) Z3 x2) rfl rfl (vt rfl)) rfl<|Md rfl<|Md rfl<|Ac (Z0d rfl rfl Zb8 (vt rfl) (vt rfl) hx5) rfl<|Lp1 Yls rfl<|Ac (Z2z hx6 rfl rfl (vt rfl) (vt rfl)) rfl<|Nl<|Cq rfl h (fun h=>?_) (fun h=>?_)
  ·refine SR<|Md rfl<|As rfl<|Nl<|rt ?_
   cases h;exact Z9 Tryz.results302 rfl (Z5 rfl)
  ·refine sk<|Rg<|Ac (Z0a (t:=7) rfl rfl (vt rfl) (vk rfl) (vt rfl) hlti3) rfl<|Md rfl<|Nl ?_
   exact ⟨(_,_),Nat.lt_succ_self _,⟨hsf1.next,h⟩,FX rfl⟩
def Zue (s1:(List (Flow→Option Bool)))(x2:((Flow→Option Bool)→Option Bool)):Option Bool:=
 (Zqa s1 x2).bind fun x3=>some (decide (x3≥0))
theorem Yc0:Q2 Tryz.prog 296 (rd (Z1 (Z2a Tryz.prog Zp Z3))) (fn1 Tryz.prog (Z2a Tryz.prog Zp Z3) Z3) (rd Z3) Zue:=fun s1 x2 r h=>I0 Tryz.func296 rfl Tryz.ntmps296 rfl fun w H Z=>by
 unfold Zue at h
 refine SR<|Ab rfl<|Nl<|sq ?_
 obtain ⟨x3,hx3,h⟩:=Z6 h
 refine Rg<|Md rfl<|Ac (Zk (A:=fn1 Tryz.prog (Z2a Tryz.prog Zp Z3) Z3 x2) rfl rfl (vt rfl)) rfl<|Cl [5,6] (Ym0 _ _ _ hx3) Yd6 rfl<|Ac (Z1z rfl rfl (vt rfl) (vk rfl)) rfl<|As rfl<|Nl<|rt ?_
 cases h;exact Z9 Tryz.results296 rfl (Z5 rfl)
def Zf3 (x1:Flow)(x2:(List (Flow→Option Bool))):Option Bool:=
 (Zue x2 (fun x=>Zl4 x x1)).bind fun x4=>some (!x4)
theorem Y80:Q2 Tryz.prog 295 (rd Zp) (rp (Z1 (Z2a Tryz.prog Zp Z3))) (rd Z3) Zf3:=fun x1 x2 r h=>I0 Tryz.func295 rfl Tryz.ntmps295 rfl fun w H Z=>by
 unfold Zf3 at h
 refine SR<|Cv rfl (Zm 3 rfl rfl (vt rfl)) fun g3=>Ab rfl<|Nl<|sq<|AW.freezeB 2 3 rfl rfl rfl ?_
 obtain ⟨x4,hx4,h⟩:=Z6 h
 refine Rg<|Lp1 Yhn rfl<|Ac (Z30 (cs:=[.tmp 2]) (CAs:=[rp Zp x1]) (fun x=>Zl4 x x1) rfl rfl Ye2 ⟨vt rfl,trivial⟩ (fun x y h=>Ybq _ _ y h)) rfl<|Cl [4,5] (Yc0 _ _ _ hx4) Yky rfl<|Ac (Z0g rfl rfl (vt rfl)) rfl<|As rfl<|Nl<|rt ?_
 cases h;exact Z9 Tryz.results295 rfl (Z5 rfl)
def Zck (l1:(List (Flow→Option Bool))):Option (Flow→Option Bool):=
 some (fun x=>Zf3 x l1)
theorem Zin:Q1 Tryz.prog 282 (rd (Z1 (Z2a Tryz.prog Zp Z3))) (fn1 Tryz.prog Zp Z3) Zck:=fun l1 r h=>I0 Tryz.func282 rfl Tryz.ntmps282 rfl fun w H Z=>by
 unfold Zck at h
 refine SR<|Cv rfl (Zm 2 rfl rfl (vt rfl)) fun g2=>Ac (Zn (A:=Zg .nilFunc) rfl rfl vc) rfl<|Nl<|sq<|AW.freezeB 1 2 rfl rfl rfl<|Rg<|Ac (Z30 (cs:=[.tmp 1]) (CAs:=[rp (Z1 (Z2a Tryz.prog Zp Z3)) l1]) (fun x=>Zf3 x l1) rfl rfl Yi6 ⟨vt rfl,trivial⟩ (fun x y h=>Y80 _ _ y h)) rfl<|Ac (Zn (A:=fn1 Tryz.prog Zp Z3 (fun x=>Zf3 x l1)) rfl rfl (vt rfl)) rfl<|Nl<|rt ?_
 cases h;exact Z9 Tryz.results282 rfl (Z5 rfl)
def Zs7 (p1:Flow):Option Bool:=
 some false
theorem Y8s:Q1 Tryz.prog 283 (rd Zp) (rd Z3) Zs7:=fun p1 r h=>I0 Tryz.func283 rfl Tryz.ntmps283 rfl fun w H Z=>by
 unfold Zs7 at h
 refine SR<|Cv rfl (Zm 2 rfl rfl (vt rfl)) fun g2=>Ab rfl<|Nl<|SR<|Ab rfl<|Nl<|rt ?_
 cases h;exact Z9 Tryz.results283 rfl (Z5 rfl)
def Zsu (m1:FlowMod):Option (Flow→Option Bool):=
 (Za0 m1).bind fun x3=>(Z97 x3).bind fun x5=>(bif (decide (m1.Command=0)) then some (fun x=>Z5j x x3) else (bif (decide (m1.Command=1)) then (Zck [(fun x=>Z6u x x5),(fun x=>Z4e x m1)]).bind fun x7=>some x7 else (bif (decide (m1.Command=2)) then (Zck [(fun x=>Z5j x x3),(fun x=>Z4e x m1)]).bind fun x8=>some x8 else (bif (decide (m1.Command=3)) then (Zck [(fun x=>Z6u x x5),(fun x=>Z4e x m1),(fun x=>Z75 x m1)]).bind fun x9=>some x9 else (bif (decide (m1.Command=4)) then (Zck [(fun x=>Z5j x x3),(fun x=>Z4e x m1),(fun x=>Z75 x m1)]).bind fun x10=>some x10 else some Zs7)))))
theorem Ye3:Q1 Tryz.prog 253 (rd Z1b) (fn1 Tryz.prog Zp Z3) Zsu:=fun m1 r h=>I0 Tryz.func253 rfl Tryz.ntmps253 rfl fun w H Z=>by
 unfold Zsu at h
 refine SR<|Cv rfl (Zm 2 rfl rfl (vt rfl)) fun g2=>Ac (Zn (A:=Zg .nilFunc) rfl rfl vc) rfl<|Nl<|sq ?_
 obtain ⟨x3,hx3,h⟩:=Z6 h
 refine Rg<|Ld Z3f 2 rfl<|Cl [9] (Zg6 _ _ hx3) e82 rfl<|Cv rfl (Zo 4 rfl rfl Z4j) fun g4=>Ze Z19 4 rfl<|Nl<|sq ?_
 obtain ⟨x5,hx5,h⟩:=Z6 h
 refine Rg<|Ld Z19 4 rfl<|Cl [11] (Zc6 _ _ hx5) Zcx rfl<|Cv rfl (Zo 5 rfl rfl Z22) fun g6=>Ze Z09 5 rfl<|Nl<|sq<|AW.freezeB 3 4 rfl rfl rfl<|Rg<|Ac (Z30 (cs:=[.tmp 3]) (CAs:=[rp Zp x3]) (fun x=>Z5j x x3) rfl rfl Y7i ⟨vt rfl,trivial⟩ (fun x y h=>Yg6 _ _ y h)) rfl<|Ac (Zn (A:=fn1 Tryz.prog Zp Z3 (fun x=>Z5j x x3)) rfl rfl (vt rfl)) rfl<|Nl<|sq<|AW.freezeB 4 5 rfl rfl rfl<|Rg<|Ac (Z30 (cs:=[.tmp 4]) (CAs:=[rp (Z4 24 Z7) x5]) (fun x=>Z6u x x5) rfl rfl Y4r ⟨vt rfl,trivial⟩ (fun x y h=>Ybh _ _ y h)) rfl<|Ac (Zn (A:=fn1 Tryz.prog Zp Z3 (fun x=>Z6u x x5)) rfl rfl (vt rfl)) rfl<|Nl<|sq<|AW.freezeB 1 2 rfl rfl rfl<|Rg<|Ac (Z30 (cs:=[.tmp 1]) (CAs:=[rp Z1b m1]) (fun x=>Z4e x m1) rfl rfl Y6u ⟨vt rfl,trivial⟩ (fun x y h=>Ylw _ _ y h)) rfl<|Ac (Zn (A:=fn1 Tryz.prog Zp Z3 (fun x=>Z4e x m1)) rfl rfl (vt rfl)) rfl<|Nl<|SR<|Ac (Z30 (cs:=[.tmp 1]) (CAs:=[rp Z1b m1]) (fun x=>Z75 x m1) rfl rfl Yc6 ⟨vt rfl,trivial⟩ (fun x y h=>Y5u _ _ y h)) rfl<|Ac (Zn (A:=fn1 Tryz.prog Zp Z3 (fun x=>Z75 x m1)) rfl rfl (vt rfl)) rfl<|Nl<|sq<|SR<|Fp lFlowMod_3 Z7e rfl<|Lp1 Zc rfl<|Nl<|bk<|SR<|Ac (Zy rfl rfl (vt rfl) (vk rfl)) rfl<|As rfl<|Nl<|Cq rfl h (fun h=>?_) (fun h=>?_)
 ·refine SR<|Ac (Zk (A:=fn1 Tryz.prog Zp Z3 (fun x=>Z5j x x3)) rfl rfl (vt rfl)) rfl<|Ac (Zn (A:=fn1 Tryz.prog Zp Z3 (fun x=>Z5j x x3)) rfl rfl (vt rfl)) rfl<|Nl<|rt ?_
  cases h;exact Z9 Tryz.results253 rfl (Z5 rfl)
 ·refine SR<|Ac (Zy rfl rfl (vt rfl) (vk rfl)) rfl<|As rfl<|Nl<|Cq rfl h (fun h=>?_) (fun h=>?_)
  ·refine sq ?_
   obtain ⟨x7,hx7,h⟩:=Z6 h
   refine Rg<|Ac (Zk (A:=fn1 Tryz.prog Zp Z3 (fun x=>Z6u x x5)) rfl rfl (vt rfl)) rfl<|Ac (Zk (A:=fn1 Tryz.prog Zp Z3 (fun x=>Z4e x m1)) rfl rfl (vt rfl)) rfl<|Ac (Z4x (ps:=[(0,.tmp 24),(1,.tmp 25)]) (l:=[(fun x=>Z6u x x5),(fun x=>Z4e x m1)]) rfl rfl Zb8 Zmg rfl rfl ⟨_,_,Lens.idx 2 (Z2a Tryz.prog Zp Z3) 0 (by decide),_,rfl,vfk (vt rfl),_,_,Lens.idx 2 (Z2a Tryz.prog Zp Z3) 1 (by decide),_,rfl,vfk (vt rfl),rfl⟩ rfl) rfl<|Cl [26] (Zin _ _ hx7) Zkf rfl<|Ac (Zn (A:=fn1 Tryz.prog Zp Z3 x7) rfl rfl (vt rfl)) rfl<|Nl<|rt ?_
   cases h;exact Z9 Tryz.results253 rfl (Z5 rfl)
  ·refine SR<|Ac (Zy rfl rfl (vt rfl) (vk rfl)) rfl<|As rfl<|Nl<|Cq rfl h (fun h=>?_) (fun h=>?_)
   ·refine sq ?_
    obtain ⟨x8,hx8,h⟩:=Z6 h
    refine Rg<|Ac (Zk (A:=fn1 Tryz.prog Zp Z3 (fun x=>Z5j x x3)) rfl rfl (vt rfl)) rfl<|Ac (Zk (A:=fn1 Tryz.prog Zp Z3 (fun x=>Z4e x m1)) rfl rfl (vt rfl)) rfl<|Ac (Z4x (ps:=[(0,.tmp 30),(1,.tmp 31)]) (l:=[(fun x=>Z5j x x3),(fun x=>Z4e x m1)]) rfl rfl Zb8 Zmg rfl rfl ⟨_,_,Lens.idx 2 (Z2a Tryz.prog Zp Z3) 0 (by decide),_,rfl,vfk (vt rfl),_,_,Lens.idx 2 (Z2a Tryz.prog Zp Z3) 1 (by decide),_,rfl,vfk (vt rfl),rfl⟩ rfl) rfl<|Cl [32] (Zin _ _ hx8) Zkf rfl<|Ac (Zn (A:=fn1 Tryz.prog Zp Z3 x8) rfl rfl (vt rfl)) rfl<|Nl<|rt ?_
    cases h;exact Z9 Tryz.results253 rfl (Z5 rfl)
   ·refine SR<|Ac (Zy rfl rfl (vt rfl) (vk rfl)) rfl<|As rfl<|Nl<|Cq rfl h (fun h=>?_) (fun h=>?_)
    ·refine sq ?_
     obtain ⟨x9,hx9,h⟩:=Z6 h
     refine Rg<|Ac (Zk (A:=fn1 Tryz.prog Zp Z3 (fun x=>Z6u x x5)) rfl rfl (vt rfl)) rfl<|Ac (Zk (A:=fn1 Tryz.prog Zp Z3 (fun x=>Z4e x m1)) rfl rfl (vt rfl)) rfl<|Ac (Zk (A:=fn1 Tryz.prog Zp Z3 (fun x=>Z75 x m1)) rfl rfl (vt rfl)) rfl<|Ac (Z4x (ps:=[(0,.tmp 36),(1,.tmp 37),(2,.tmp 38)]) (l:=[(fun x=>Z6u x x5),(fun x=>Z4e x m1),(fun x=>Z75 x m1)]) rfl rfl Zb8 Zmg rfl rfl ⟨_,_,Lens.idx 3 (Z2a Tryz.prog Zp Z3) 0 (by decide),_,rfl,vfk (vt rfl),_,_,Lens.idx 3 (Z2a Tryz.prog Zp Z3) 1 (by decide),_,rfl,vfk (vt rfl),_,_,Lens.idx 3 (Z2a Tryz.prog Zp Z3) 2 (by decide),_,rfl,vfk (vt rfl),rfl⟩ rfl) rfl<|Cl [39] (Zin _ _ hx9) Zkf rfl<|Ac (Zn (A:=fn1 Tryz.prog Zp Z3 x9) rfl rfl (vt rfl)) rfl<|Nl<|rt ?_
     cases h;exact Z9 Tryz.results253 rfl (Z5 rfl)
    ·refine SR<|Ac (Zy rfl rfl (vt rfl) (vk rfl)) rfl<|As rfl<|Nl<|Cq rfl h (fun h=>?_) (fun h=>?_)
     ·refine sq ?_
      obtain ⟨x10,hx10,h⟩:=Z6 h
      refine Rg<|Ac (Zk (A:=fn1 Tryz.prog Zp Z3 (fun x=>Z5j x x3)) rfl rfl (vt rfl)) rfl<|Ac (Zk (A:=fn1 Tryz.prog Zp Z3 (fun x=>Z4e x m1)) rfl rfl (vt rfl)) rfl<|Ac (Zk (A:=fn1 Tryz.prog Zp Z3 (fun x=>Z75 x m1)) rfl rfl (vt rfl)) rfl<|Ac (Z4x (ps:=[(0,.tmp 43),(1,.tmp 44),(2,.tmp 45)]) (l:=[(fun x=>Z5j x x3),(fun x=>Z4e x m1),(fun x=>Z75 x m1)]) rfl rfl Zb8 Zmg rfl rfl ⟨_,_,Lens.idx 3 (Z2a Tryz.prog Zp Z3) 0 (by decide),_,rfl,vfk (vt rfl),_,_,Lens.idx 3 (Z2a Tryz.prog Zp Z3) 1 (by decide),_,rfl,vfk (vt rfl),_,_,Lens.idx 3 (Z2a Tryz.prog Zp Z3) 2 (by decide),_,rfl,vfk (vt rfl),rfl⟩ rfl) rfl<|Cl [46] (Zin _ _ hx10) Zkf rfl<|Ac (Zn (A:=fn1 Tryz.prog Zp Z3 x10) rfl rfl (vt rfl)) rfl<|Nl<|rt ?_
      cases h;exact Z9 Tryz.results253 rfl (Z5 rfl)
     ·refine sk<|SR<|Ac (Zn rfl rfl (vf1 Y57 Y8s)) rfl<|Nl<|rt ?_
      cases h;exact Z9 Tryz.results253 rfl (Z5 rfl)
def Zb7 (sg:Type)(x5:(Flow→Option Bool))(y1:(sg→Int→Option (Lp sg))):(List Flow)→Nat→(Lp sg)→Option (Lp sg)
 | [],i8,s7=>some s7
 | x10::l9,i8,s7=>(x5 x10).bind fun x12=>(bif (!x12) then (Zb7 sg x5 y1 l9) (i8+1) s7 else (yc y1 s7 (i8:Int)).bind fun s13=>(bif (!(Lp.isGo s13)) then some s13 else (Zb7 sg x5 y1 l9) (i8+1) s13))
def Zdd (sg:Type)(y1:(sg→Int→Option (Lp sg)))(s2:(Lp sg))(x3:FlowMod)(x4:(List Flow)):Option (Lp sg):=
 (Zsu x3).bind fun x5=>Zb7 sg x5 y1 x4 0 s2
theorem Y94 (sg:Type)(y1:(sg→Int→Option (Lp sg)))(L:Lp sg→Res)(s2:(Lp sg))(x3:FlowMod)(x4:(List Flow))(r:(Lp sg))(h:Zdd sg y1 s2 x3 x4=some r):Con Tryz.prog 252 [ydA Tryz.prog (Z0 .i64) y1 L,rp Z1b x3,rp (Z1 Zp) x4] (L s2) (fun _:Unit=>top) (fun _=>L r):=by
 refine Con.intro Tryz.func252 rfl Tryz.ntmps252 rfl fun w H X Z=>?_
 unfold Zdd at h
 refine AW.scope<|sq ?_
 obtain ⟨x5,hx5,h⟩:=Z6 h
 refine Rg<|Lp1 Z3f rfl<|Cl [7] (Ye3 _ _ hx5) Y81 rfl<|Ac (Zn (A:=fn1 Tryz.prog Zp Z3 x5) rfl rfl (vt rfl)) rfl<|Nl<|sq<|AW.label<|SR<|Lp1 Z2n rfl<|Ac (Z07 rfl rfl Z25 (vt rfl)) rfl<|Mk rfl<|Nl<|bk<|LG (d:=[]) (ν:=(List Flow)×Nat×(Lp sg)) (fun (l9,i8,s7)=>(Sfx x4 i8 l9∧Zb7 sg x5 y1 l9 i8 s7=some r,l9.length,[(0,ydA Tryz.prog (Z0 .i64) y1 L),(4,fn1 Tryz.prog Zp Z3 x5),(9,rd (Z1 Zp) x4),(10,rd (Z0 .i64) (x4.length:Int)),(11,rd (Z0 .i64) (i8:Int))],[(0,L s7)])) (x4,0,s2) ⟨Sfx.start _,h⟩ (FX rfl) ?_
 rintro ⟨l9,i8,s7⟩ ⟨hsf1,h⟩
 dsimp only at hsf1 h ⊢
 cases l9 with
 | nil=>
  unfold Zb7 at h
  refine SR<|Ac (Zh rfl rfl (vt rfl) (vt rfl)) rfl<|Nl<|sq<|Cn rfl (fun hc=>absurd (of_decide_eq_true hc) hsf1.nil) (fun hc=>?_)
  refine xt ?_
  cases h;exact Z21 (i:=0) Tryz.results252 rfl rfl
 | cons x10 l9=>
  unfold Zb7 at h
  refine SR<|Ac (Zh rfl rfl (vt rfl) (vt rfl)) rfl<|Nl<|sq<|Cn rfl (fun hc=>?_) (fun hc=>absurd hsf1.cons (of_decide_eq_false hc))
  have hlti8:=of_decide_eq_true hc
  refine sk<|sq<|bk<|SR<|Md rfl<|Ac (Z0d rfl rfl Z25 (vt rfl) (vt rfl) hsf1.lget) rfl<|Lp1 Z19 rfl<|Cv rfl (Zo 7 rfl rfl Z4j) fun g11=>As rfl<|Ze Z19 7 rfl<|Nl<|bk<|sq ?_
  obtain ⟨x12,hx12,h⟩:=Z6 h
  refine Rg<|Ac (Zk (A:=fn1 Tryz.prog Zp Z3 x5) rfl rfl (vt rfl)) rfl<|Ld Z19 7 rfl<|Ac (Z2z hx12 rfl rfl (vt rfl) (vt rfl)) rfl<|Ac (Z0g rfl rfl (vt rfl)) rfl<|As rfl<|Nl<|Cq rfl h (fun h=>?_) (fun h=>?_)
  ·refine xt<|Rg<|Ac (Z0a (t:=10) rfl rfl (vt rfl) (vk rfl) (vt rfl) hlti8) rfl<|Md rfl<|Nl ?_
   exact ⟨(_,_,_),Nat.lt_succ_self _,⟨hsf1.next,h⟩,FX rfl⟩
  ·refine sq ?_
   obtain ⟨s13,hs13,h⟩:=Z6 h
   refine Rg<|Ac (Zk (A:=ydA Tryz.prog (Z0 .i64) y1 L) rfl rfl (vt rfl)) rfl<|Md rfl<|Ac (Zbd 0 hs13 rfl rfl (vt rfl) (vt rfl) rfl) rfl<|Ac (Z0g rfl rfl (vt rfl)) rfl<|As rfl<|Nl<|Cq rfl h (fun h=>?_) (fun h=>?_)
   ·refine xt ?_
    cases h;exact Z21 (i:=0) Tryz.results252 rfl rfl
   ·refine sk<|Rg<|Ac (Z0a (t:=10) rfl rfl (vt rfl) (vk rfl) (vt rfl) hlti8) rfl<|Md rfl<|Nl ?_
    exact ⟨(_,_,_),Nat.lt_succ_self _,⟨hsf1.next,h⟩,FX rfl⟩
end Go.Proofs.YtjppkmpecdbepaaGreatDoor.W
set_option maxHeartbeats 1000000
set_option maxRecDepth 4000
namespace Go.Proofs.YtjppkmpecdbepaaGreatDoor.W
open Go Go.Wb
theorem Y5c:Ent Tryz.prog 252:=Ent.mk Tryz.func252 rfl rfl
theorem e87:Ent Tryz.prog 87:=Ent.mk Tryz.func87 rfl rfl
theorem Y5m:Ent Tryz.prog 211:=Ent.mk Tryz.func211 rfl rfl
theorem e49:Ent Tryz.prog 49:=Ent.mk Tryz.func49 rfl rfl
theorem Zsj:Ent Tryz.prog 173:=Ent.mk Tryz.func173 rfl rfl
theorem Zve:Ent Tryz.prog 212:=Ent.mk Tryz.func212 rfl rfl
theorem Zyl:Ent Tryz.prog 213:=Ent.mk Tryz.func213 rfl rfl
theorem Ybw:Ent Tryz.prog 284:=Ent.mk Tryz.func284 rfl rfl
theorem Yn1:Ent Tryz.prog 254:=Ent.mk Tryz.func254 rfl rfl
theorem Y06:Ent Tryz.prog 214:=Ent.mk Tryz.func214 rfl rfl
theorem Yci:Ent Tryz.prog 170:=Ent.mk Tryz.func170 rfl rfl
theorem Ybo:Ent Tryz.prog 171:=Ent.mk Tryz.func171 rfl rfl
theorem Ycw:Ent Tryz.prog 172:=Ent.mk Tryz.func172 rfl rfl
theorem Y1m:Ent Tryz.prog 114:=Ent.mk Tryz.func114 rfl rfl
theorem e45:Ent Tryz.prog 45:=Ent.mk Tryz.func45 rfl rfl
theorem Y8o:Ent Tryz.prog 115:=Ent.mk Tryz.func115 rfl rfl
theorem e47:Ent Tryz.prog 47:=Ent.mk Tryz.func47 rfl rfl
def Zio (t1:(List Flow))(m2:FlowMod):Option (Itr Int):=
 some (Itr.mk fun σ y s=>Zdd σ y s m2 t1)
theorem Y2x:Q2 Tryz.prog 213 (rd (Z1 Zp)) (rd Z1b) (Z2s Tryz.prog (Z0 .i64)) Zio:=fun t1 m2 r h=>I0 Tryz.func213 rfl Tryz.ntmps213 rfl fun w H Z=>by
 unfold Zio at h
 refine SR<|Cv rfl (Zm 3 rfl rfl (vt rfl)) fun g3=>Cv rfl (Zm 4 rfl rfl (vt rfl)) fun g4=>Ac (Zn (A:=Zg .nilFunc) rfl rfl vc) rfl<|Nl<|sq<|AW.freezeB 3 4 rfl rfl rfl<|AW.freezeB 2 3 rfl rfl rfl<|Rg<|Ac (Zhu (Itr.mk fun σ y s=>Zdd σ y s m2 t1) (cs:=[.tmp 3,.tmp 2]) (CAs:=[rp Z1b m2,rp (Z1 Zp) t1]) rfl rfl Y5c ⟨vt rfl,vt rfl,trivial⟩ (fun σ y L s r h=>Y94 σ y L s m2 t1 r h)) rfl<|Ac (Zn (A:=Z2s Tryz.prog (Z0 .i64) (Itr.mk fun σ y s=>Zdd σ y s m2 t1)) rfl rfl (vt rfl)) rfl<|Nl<|rt ?_
 cases h;exact Z9 Tryz.results213 rfl (Z5 rfl)
def Zis (x9:(List Flow))(x14:Int):Option (Lp Unit):=
 (lget x9 x14).bind fun x15=>none
def Zvg (x1:table_change):Option ((List Flow)×Fault):=
 (Za0 x1.FlowMod).bind fun x4=>(Zkj x1.FlowMod.Flags).bind fun x6=>(opt x6 (Zk7 x1.table (fun x=>Zkd x x4))).bind fun x7=>(bif (x6&&x7) then (Zeb 3).bind fun x8=>some (x8.1,x8.2) else (Zbp x1.table).bind fun x9=>(Zio x1.table x1.FlowMod).bind fun x12=>(Itr.run x12 Unit (fun s x=>Zis x9 x) (.go ())).bind fun z13=>Zn2 z13 (fun s16=>(bif (decide ((x9.length:Int)≥8)) then (Zeb 1).bind fun x17=>some (x17.1,x17.2) else (Z11 x9 [x4]).bind fun l18=>some (l18,(⟨false,0,0⟩:Fault)))) (fun c _=>none))
theorem Y8c:Q1 Tryz.prog 170 (rp Z3g) (fun r=>Z0t (rd (Z1 Zp) r.1) (rd Z12 r.2)) Zvg:=fun x1 r h=>I0 Tryz.func170 rfl Tryz.ntmps170 rfl fun w H Z=>by
 unfold Zvg at h
 refine SR<|Cv rfl (Zo 3 rfl rfl Yfo) fun g2=>Cv rfl (Zo 4 rfl rfl Z1t) fun g3=>Nl<|sq ?_
 obtain ⟨x4,hx4,h⟩:=Z6 h
 refine Rg<|Mr rfl<|Ac (Z1k rfl rfl (vt rfl)) rfl<|Fp ltable_change_0 Z9o rfl<|Lp1 Z3f rfl<|Cl [10] (Zg6 _ _ hx4) e82 rfl<|Cv rfl (Zo 5 rfl rfl Z4j) fun g5=>Ze Z19 5 rfl<|Nl<|sq<|sq<|AW.freezeB 4 5 rfl rfl rfl ?_
 obtain ⟨x6,hx6,x7,hx7,h⟩:=bs2 h
 refine Rg<|Mr rfl<|Ac (Z1k rfl rfl (vt rfl)) rfl<|Fp ltable_change_0 Z9o rfl<|Fp lFlowMod_10 Zh1 rfl<|Lp1 Zc rfl<|Cl [16] (Y4d _ _ hx6) e87 rfl<|Md rfl<|Gd rfl (fun hq=>Zk (A:=rp Z3g x1) rfl rfl (vt rfl))<|Gd rfl (fun hq=>Z1k rfl rfl (Z8 rfl hq))<|Gd rfl (fun hq=>Z4n ltable_change_1 rfl rfl Zah (Z8 rfl hq))<|Gd rfl (fun hq=>Z4i rfl rfl Z2n (Z8 rfl hq))<|Gd rfl (fun hq=>Z30 (cs:=[.tmp 4]) (CAs:=[rp Zp x4]) (fun x=>Zkd x x4) rfl rfl Y5m ⟨vt rfl,trivial⟩ (fun x y h=>Ymj _ _ y h))<|Gd rfl (fun hq=>Zz (xs:=[.tmp 22,.tmp 23]) (Zyr _ _ _ (Z1p hx7 hq)) e49 rfl rfl ⟨Z8 rfl hq,Z8 rfl hq,trivial⟩)<|Ac (Z0h rfl rfl (vt rfl) (vt rfl)) rfl<|Nl<|Cq rfl h (fun h=>?_) (fun h=>?_)
 ·refine sq ?_
  obtain ⟨x8,hx8,h⟩:=Z6 h
  refine Rg<|Ac (Zz (xs:=[.const (Value.int IntKind.i64 3)]) (Zpy _ _ hx8) Zsj rfl rfl ⟨vk rfl,trivial⟩) rfl<|Ac (Z10 rfl rfl (vt rfl)) rfl<|Ac (Z0z rfl rfl (vt rfl)) rfl<|Ze Z2n 3 rfl<|Ze Z05 4 rfl<|Nl<|rt ?_
  cases h;exact Z0c Tryz.results170 rfl (Zv rfl (i:=3) rfl Z2n) (Zv rfl (i:=4) rfl Z05)
 ·refine sk<|sq<|AW.newnil 2139 135 Zp ?_
  obtain ⟨x9,hx9,h⟩:=Z6 h
  refine Rg<|Mr rfl<|Ac (Z1k rfl rfl (vt rfl)) rfl<|Fp ltable_change_1 Zah rfl<|Lp1 Z2n rfl<|Cv rfl (Z0y 1001 (xs:=[.tmp 32]) (Zpz _ _ hx9) Zve rfl rfl ⟨vt rfl,trivial⟩ rfl) fun v10=>Cv rfl (Zo 6 rfl rfl Y5n) fun g11=>AOps.renameD 1001 2139 (by decide) rfl<|Ac (Z3s rfl rfl Zkm (vt rfl) (i:=6) rfl (Zbo (i:=2139) rfl rfl)) rfl<|Nl<|sq<|sq ?_
  obtain ⟨x12,hx12,h⟩:=Z6 h
  refine AR Z03 (by kernel_rfl)<|Sd (lo [0] [] rfl fun S hs hr=>Zk (A:=rp Z3g x1) rfl rfl (vh hs 0 rfl rfl))<|Sd (lo [34] [] rfl fun S hs hr=>Z1k rfl rfl (vh hs 34 rfl rfl))<|SFp ltable_change_1 Zah rfl<|SLp Z2n rfl<|Sd (lo [0] [] rfl fun S hs hr=>Zk (A:=rp Z3g x1) rfl rfl (vh hs 0 rfl rfl))<|Sd (lo [38] [] rfl fun S hs hr=>Z1k rfl rfl (vh hs 38 rfl rfl))<|SFp ltable_change_0 Z9o rfl<|SLp Z3f rfl<|SCl [37,41] (Y2x _ _ _ hx12) Zyl rfl<|Sn<|bk ?_
  obtain ⟨z13,hz13,h⟩:=Z6 h
  refine AW.fit (d:=[]) (L:=[(2,Za g2 (Lens.id (Z1 Zp))),(3,Za g3 (Lens.id Z12)),(4,rp Zp x4),(5,Za g11 (Lens.id kraw)),(42,Z2s Tryz.prog (Z0 .i64) x12)]) (M:=[(3,Zd g2 68 (Z1 Zp) []),(4,Zd g3 99 Z12 Z4g),(6,Zd g11 68 kraw v10),(2139,Zi v10 135 Zp x9)]) (FX rfl) ?_
  refine AW.rangeFunc (σ:=Unit) (fun x=>[rd (Z0 .i64) x]) (fun s x=>Zis x9 x) (fun s=>Z2e ((fun s=>[(3,Zd g2 68 (Z1 Zp) []),(4,Zd g3 99 Z12 Z4g),(6,Zd g11 68 kraw v10),(2139,Zi v10 135 Zp x9)]) s)) (fun _ s=>Z2e ((fun s=>[(3,Zd g2 68 (Z1 Zp) []),(4,Zd g3 99 Z12 Z4g),(6,Zd g11 68 kraw v10),(2139,Zi v10 135 Zp x9)]) s)) [(2,Za g2 (Lens.id (Z1 Zp))),(3,Za g3 (Lens.id Z12)),(4,rp Zp x4),(5,Za g11 (Lens.id kraw))] (fun s x14 S1=>Fit S1 [] [(2,Za g2 (Lens.id (Z1 Zp))),(3,Za g3 (Lens.id Z12)),(4,rp Zp x4),(5,Za g11 (Lens.id kraw)),(6,rd (Z0 .i64) x14)] [(3,Zd g2 68 (Z1 Zp) []),(4,Zd g3 99 Z12 Z4g),(6,Zd g11 68 kraw v10),(2139,Zi v10 135 Zp x9)]) 3001 (s0:=()) (sE:=z13) rfl (vt rfl) ⟨rfl,inferInstance,rfl,inferInstance,rfl,inferInstance,rfl,inferInstance,trivial⟩ rfl (fun _=>rfl) (by intro p hp;have hp:p∈[43]:=hp;rw [List.mem_singleton.1 hp];show 43<61;decide) ?ha1 ?hb1 (fun Lf=>⟨top,_,_,Lf,_,_,hz13,rfl,rfl,rfl,rfl⟩) ?he1
  case ha1=>
   rintro ⟨⟩ x14 r hF l w H X Z
   refine Rg<|As rfl<|Nl ?_
   exact ⟨rfl,FX rfl⟩
  case hb1=>
   rintro ⟨⟩ x14 r h S1 hfit l w H X Z
   refine AW.fit (d:=[]) (L:=[(2,Za g2 (Lens.id (Z1 Zp))),(3,Za g3 (Lens.id Z12)),(4,rp Zp x4),(5,Za g11 (Lens.id kraw)),(6,rd (Z0 .i64) x14)]) (M:=[(3,Zd g2 68 (Z1 Zp) []),(4,Zd g3 99 Z12 Z4g),(6,Zd g11 68 kraw v10),(2139,Zi v10 135 Zp x9)]) hfit<|AW.bodyT ?_
   change Zis x9 x14=some r at h
   unfold Zis at h
   refine bk<|sq ?_
   obtain ⟨x15,hx15,h⟩:=Z6 h
   refine Rg<|Ac (Z3n v10 rfl rfl Zkm (vt rfl) (i:=6) rfl rfl) rfl<|Md rfl<|Lp1 Z19 rfl<|Ac (Z1w 2139 rfl rfl Z25 (vt rfl) rfl (vt rfl) hx15) rfl<|Ac (Z2b 2139 rfl rfl Z19 (vt rfl) rfl (Z0l hx15).2 (vt rfl)) rfl<|Nl<|sq ?_
   cases h
  case he1=>
   intro D
   cases z13 with
   | go s16=>
    change _=some r at h
    refine sq<|SR<|Ac (Z3n v10 rfl rfl Zkm (vt rfl) (i:=6) rfl rfl) rfl<|Ac (Z2v 2139 rfl rfl Z25 (vt rfl) rfl) rfl<|Ac (Z1z rfl rfl (vt rfl) (vk rfl)) rfl<|Nl<|Cq rfl h (fun h=>?_) (fun h=>?_)
    ·refine sq ?_
     obtain ⟨x17,hx17,h⟩:=Z6 h
     refine Rg<|Ac (Zz (xs:=[.const (Value.int IntKind.i64 1)]) (Zpy _ _ hx17) Zsj rfl rfl ⟨vk rfl,trivial⟩) rfl<|Ac (Z10 rfl rfl (vt rfl)) rfl<|Ac (Z0z rfl rfl (vt rfl)) rfl<|Ze Z2n 3 rfl<|Ze Z05 4 rfl<|Nl<|rt ?_
     cases h;exact ⟨rfl,3001,_,rfl,Z0c Tryz.results170 rfl (Zv rfl (i:=3) rfl Z2n) (Zv rfl (i:=4) rfl Z05)⟩
    ·refine sk<|sq ?_
     obtain ⟨l18,hl18,h⟩:=Z6 h
     refine Rg<|Ac (Z3n v10 rfl rfl Zkm (vt rfl) (i:=6) rfl rfl) rfl<|Lp1 Z19 rfl<|Ac (osl Z25 Z4j rfl (vt rfl)) rfl<|Cv rfl (Z1f 2139 hl18 rfl rfl Zg0 (vt rfl) rfl (vt rfl)) fun v19=>Ac (opb (⟨false,0,0⟩:Fault) Z1t rfl Z41 (pn rfl)) rfl<|AOps.freezes [59] 2139 rfl ⟨rfl,trivial⟩ rfl<|Ze Z2n 3 rfl<|Ze Z05 4 rfl<|Nl<|rt ?_
     cases h;exact ⟨rfl,3001,_,rfl,Z0c Tryz.results170 rfl (Zv rfl (i:=3) rfl Z2n) (Zv rfl (i:=4) rfl Z05)⟩
   | out c s16=>
    cases h
def Zrs (q:Itr Int):Option (List Int):=Zr4 q
theorem Ylz (q:Itr Int)(r:List Int)(h:Zrs q=some r):Con Tryz.prog 284 [Zg (.slice none 0 0),Z2s Tryz.prog (Z0 .i64) q] emp (fun v=>Zg v) (fun v=>Zi v 3 (Z0 .i64) r):=by
 refine Con.intro0 Tryz.func284 rfl Tryz.ntmps284 rfl fun w H Z=>?_
 have h:=Y1f h
 refine AW.newnil 1001 3 (Z0 .i64)<|SR<|Cv rfl (Zm (k:=kraw) 3 rfl rfl (vkr (vt rfl) rfl)) fun g=>Ac (Zn (A:=Zg (.slice none 0 0)) rfl rfl vc) rfl<|AOps.pack 3 1001 (by decide) rfl rfl<|Nl<|sq<|SR<|Ac (Zk (A:=Z2s Tryz.prog (Z0 .i64) q) rfl rfl (vt rfl)) rfl<|Nl<|bk<|AW.fit (d:=[]) (L:=[(2,Za g (Lens.id kraw)),(6,Z2s Tryz.prog (Z0 .i64) q)]) (M:=[(3,Z5k g 37 3 (Z0 .i64) [])]) ⟨rfl,⟨rfl,rfl,trivial⟩,⟨rfl,trivial⟩⟩ ?_
 refine AW.rangeFunc (fun x=>[rd (Z0 .i64) x]) Zkt (fun s=>Z2e [(3,Z5k g 37 3 (Z0 .i64) s)]) (fun _ _=>Z2e []) [(2,Za g (Lens.id kraw))]
  (fun s x S1=>Fit S1 [] [(2,Za g (Lens.id kraw)),(5,rd (Z0 .i64) x)] [(3,Z5k g 37 3 (Z0 .i64) s)]) 1003 (s0:=[]) (sE:= .go r)
  rfl (vt rfl) ⟨rfl,inferInstance,trivial⟩ rfl (fun _=>rfl) (by intro p hp;have hp:p∈[7]:=hp;rw [List.mem_singleton.1 hp];show 7<13;decide) ?ha ?hb (fun Lf=>⟨top,_,_,Lf,_,_,h,rfl,rfl,rfl,rfl⟩) ?he
 case ha=>
  intro s x r' hF l w H X Z
  refine Rg<|As rfl<|Nl ?_
  exact ⟨rfl,rfl,⟨rfl,rfl,trivial⟩,⟨rfl,trivial⟩⟩
 case hb=>
  rintro s x r' hF S1 hfit l w H X Z
  refine AW.fit hfit<|AW.bodyOf (M:=fun s=>[(3,Z5k g 37 3 (Z0 .i64) s)]) (Mx:=fun _ _=>[]) ?_
  obtain ⟨m,hm,hF⟩:=Z6 hF
  cases hF
  refine bk<|AW.unbox 3 1001 (by decide) rfl rfl fun v=>Rg<|Ac (Zmm (i:=3) rfl rfl Zu2 (vt rfl) rfl) rfl<|Md rfl<|Ac (Z4x (ps:=[(0,.tmp 9)]) (l:=[x]) rfl rfl Z15 zr3 rfl rfl ⟨_,_,Lens.idx 1 (Z0 .i64) 0 (by decide),_,rfl,vt rfl,rfl⟩ rfl) rfl<|Cv rfl (Z1f 1001 hm rfl rfl Z74 (vt rfl) rfl (vt rfl)) fun v2=>Ac (Z3s rfl rfl Zu2 (vt rfl) (i:=3) rfl (Zbo (i:=1001) rfl rfl)) rfl<|AOps.pack 3 1001 (by decide) rfl rfl<|Nl ?_
  exact ⟨_,rfl,rfl,trivial⟩
 case he=>
  intro D
  refine AW.unbox 3 1001 (by decide) rfl rfl fun v=>SR<|Ac (Zmm (i:=3) rfl rfl Zu2 (vt rfl) rfl) rfl<|Aw rfl<|Nl<|rt ?_
  exact ⟨rfl,1003,_,rfl,Z29 (i:=1001) Tryz.results284 rfl rfl rfl⟩
theorem Y5a (q:Itr Int)(r:List Int)(h:Zrs q=some r):PCon Tryz.prog 284 [Zg (.slice none 0 0),Z2s Tryz.prog (Z0 .i64) q] (rd (Z1 (Z0 .i64)) r):=PCon.of_row (Ylz q r h)
def Zty (s1:(Itr Int)):Option (List Int):=
 (Zrs s1).bind fun x2=>some x2
theorem Y6q:Q1 Tryz.prog 254 (Z2s Tryz.prog (Z0 .i64)) (rd (Z1 (Z0 .i64))) Zty:=fun s1 r h=>I0 Tryz.func254 rfl Tryz.ntmps254 rfl fun w H Z=>by
 unfold Zty at h
 refine SR<|Ac (Zn (A:=rd (Z1 (Z0 .i64)) []) rfl rfl Z04) rfl<|Nl<|sq ?_
 obtain ⟨x2,hx2,h⟩:=Z6 h
 refine Rg<|Ac (Zk (A:=Z2s Tryz.prog (Z0 .i64) s1) rfl rfl (vt rfl)) rfl<|Ac (Zz (xs:=[.const (Value.slice none 0 0),.tmp 3]) (Y5a _ _ hx2) Ybw rfl rfl ⟨vc,vt rfl,trivial⟩) rfl<|As rfl<|Nl<|rt ?_
 cases h;exact Z9 Tryz.results254 rfl (Z5 rfl)
def Zkk (t1:(List Flow))(m2:FlowMod):Option (List Int):=
 (Zio t1 m2).bind fun x4=>(Zty x4).bind fun x5=>some x5
theorem Y2j:Q2 Tryz.prog 214 (rd (Z1 Zp)) (rd Z1b) (rd (Z1 (Z0 .i64))) Zkk:=fun t1 m2 r h=>I0 Tryz.func214 rfl Tryz.ntmps214 rfl fun w H Z=>by
 unfold Zkk at h
 refine SR<|Cv rfl (Zm 4 rfl rfl (vt rfl)) fun g3=>Ac (Zn (A:=rd (Z1 (Z0 .i64)) []) rfl rfl Z04) rfl<|Nl<|sq ?_
 obtain ⟨x4,hx4,x5,hx5,h⟩:=bs2 h
 refine Rg<|Md rfl<|Ld Z3f 4 rfl<|Cl [5,6] (Y2x _ _ _ hx4) Zyl rfl<|Cl [7] (Y6q _ _ hx5) Yn1 rfl<|As rfl<|Nl<|rt ?_
 cases h;exact Z9 Tryz.results214 rfl (Z5 rfl)
def Zdg (x1:table_change):(List Int)→Nat→(List Flow)→Option (List Flow)
 | [],i7,l6=>some l6
 | x9::l8,i7,l6=>(Za0 x1.FlowMod).bind fun x10=>(lget l6 x9).bind fun x11=>(Zdg x1 l8) (i7+1) (List.set l6 x9.toNat {x11 with Insts:=x10.Insts})
def Zrm (x1:table_change):Option (List Flow):=
 (Zbp x1.table).bind fun x2=>(Zkk x1.table x1.FlowMod).bind fun x4=>Zdg x1 x4 0 x2
theorem Y71:Q1 Tryz.prog 171 (rp Z3g) (rd (Z1 Zp)) Zrm:=fun x1 r h=>I0 Tryz.func171 rfl Tryz.ntmps171 rfl fun w H Z=>by
 unfold Zrm at h
 refine SR<|Ac (Zn (A:=rd (Z1 Zp) []) rfl rfl Z04) rfl<|Nl<|sq ?_
 obtain ⟨x2,hx2,h⟩:=Z6 h
 refine Rg<|Mr rfl<|Ac (Z1k rfl rfl (vt rfl)) rfl<|Fp ltable_change_1 Zah rfl<|Lp1 Z2n rfl<|Cv rfl (Z0y 1001 (xs:=[.tmp 9]) (Zpz _ _ hx2) Zve rfl rfl ⟨vt rfl,trivial⟩ rfl) fun v3=>Aw rfl<|Nl<|sq<|sq ?_
 obtain ⟨x4,hx4,h⟩:=Z6 h
 refine AR Z03 (by kernel_rfl)<|Sd (lo [0] [] rfl fun S hs hr=>Zk (A:=rp Z3g x1) rfl rfl (vh hs 0 rfl rfl))<|Sd (lo [11] [] rfl fun S hs hr=>Z1k rfl rfl (vh hs 11 rfl rfl))<|SFp ltable_change_1 Zah rfl<|SLp Z2n rfl<|Sd (lo [0] [] rfl fun S hs hr=>Zk (A:=rp Z3g x1) rfl rfl (vh hs 0 rfl rfl))<|Sd (lo [15] [] rfl fun S hs hr=>Z1k rfl rfl (vh hs 15 rfl rfl))<|SFp ltable_change_0 Z9o rfl<|SLp Z3f rfl<|SCl [14,18] (Y2j _ _ _ hx4) Y06 rfl<|Sd (lo [19] [] rfl fun S hs hr=>Z07 rfl rfl Z15 (vh hs 19 rfl rfl))<|Sd (lo [] [] rfl fun S hs hr=>Zk (A:=rd (Z0 .i64) 0) rfl rfl (vk rfl))<|Sn<|bk<|LG (d:=[]) (ν:=(List Int)×Nat×(List Flow)) (fun (l8,i7,l6)=>(Sfx x4 i7 l8∧Zdg x1 l8 i7 l6=some r,l8.length,[(0,rp Z3g x1),(3,Zg v3),(19,rd (Z1 (Z0 .i64)) x4),(20,rd (Z0 .i64) (x4.length:Int)),(21,rd (Z0 .i64) (i7:Int))],[(1001,Zi v3 135 Zp l6)])) (x4,0,x2) ⟨Sfx.start _,h⟩ (FX rfl) ?_
 rintro ⟨l8,i7,l6⟩ ⟨hsf1,h⟩
 dsimp only at hsf1 h ⊢
 cases l8 with
 | nil=>
  unfold Zdg at h
  refine SR<|Ac (Zh rfl rfl (vt rfl) (vt rfl)) rfl<|Nl<|sq<|Cn rfl (fun hc=>absurd (of_decide_eq_true hc) hsf1.nil) (fun hc=>?_)
  refine xt<|SR<|Mw rfl<|Aw rfl<|Nl<|AW.freezes [2,3,36] 1001 rfl ⟨rfl,rfl,rfl,trivial⟩ rfl<|rt ?_
  cases h;exact Z9 Tryz.results171 rfl (Z5 rfl)
 | cons x9 l8=>
  unfold Zdg at h
  refine SR<|Ac (Zh rfl rfl (vt rfl) (vt rfl)) rfl<|Nl<|sq<|Cn rfl (fun hc=>?_) (fun hc=>absurd hsf1.cons (of_decide_eq_false hc))
  have hlti7:=of_decide_eq_true hc
  refine sk<|sq<|bk<|SR<|Ac (Z0d rfl rfl Z15 (vt rfl) (vt rfl) hsf1.lget) rfl<|Lp1 Zc rfl<|As rfl<|Nl ?_
  obtain ⟨x10,hx10,x11,hx11,h⟩:=bs2 h
  refine Rg<|Mw rfl<|Md rfl<|Mr rfl<|Ac (Z1k rfl rfl (vt rfl)) rfl<|Fp ltable_change_0 Z9o rfl<|Lp1 Z3f rfl<|Cl [30] (Zg6 _ _ hx10) e82 rfl<|Ac (Z7o lFlow_6 rfl rfl Z7q Y6e Z4r rfl (vt rfl)) rfl<|Ac (Z1w 1001 rfl rfl Z25 (vt rfl) rfl (vt rfl) hx11) rfl<|Ac (Z6j lFlow_6 rfl rfl Z7q (vt rfl)) rfl<|Ac (Z2b 1001 rfl rfl Z4r (vt rfl) rfl (Z0l hx11).2 (vt rfl)) rfl<|Nl<|Rg<|Ac (Z0a (t:=20) rfl rfl (vt rfl) (vk rfl) (vt rfl) hlti7) rfl<|Md rfl<|Nl ?_
  exact ⟨(_,_,_),Nat.lt_succ_self _,⟨hsf1.next,h⟩,FX rfl⟩
def Zb6:(List Flow)→Nat→(List Flow)→(List Int)→Option (List Flow)
 | [],i10,l7,x9=>some l7
 | x12::l11,i10,l7,x9=>(opt (decide ((x9.length:Int)>0)) (lget x9 0)).bind fun x14=>(bif ((decide ((x9.length:Int)>0))&&(decide (x14=(i10:Int)))) then (Z3z x9 1).bind fun s15=>(Zb6 l11) (i10+1) l7 s15 else (Z11 l7 [x12]).bind fun l16=>(Zb6 l11) (i10+1) l16 x9)
def Ztq (x1:table_change):Option (List Flow):=
 (Zkk x1.table x1.FlowMod).bind fun x2=>(Zbp x1.table).bind fun x3=>Zb6 x3 0 [] x2
theorem Yl5:Q1 Tryz.prog 172 (rp Z3g) (rd (Z1 Zp)) Ztq:=fun x1 r h=>I0 Tryz.func172 rfl Tryz.ntmps172 rfl fun w H Z=>by
 unfold Ztq at h
 refine SR<|Ac (Zn (A:=rd (Z1 Zp) []) rfl rfl Z04) rfl<|Nl<|sq ?_
 obtain ⟨x2,hx2,h⟩:=Z6 h
 refine AR Z03 (by kernel_rfl)<|Sd (lo [0] [] rfl fun S hs hr=>Zk (A:=rp Z3g x1) rfl rfl (vh hs 0 rfl rfl))<|Sd (lo [7] [] rfl fun S hs hr=>Z1k rfl rfl (vh hs 7 rfl rfl))<|SFp ltable_change_1 Zah rfl<|SLp Z2n rfl<|Sd (lo [0] [] rfl fun S hs hr=>Zk (A:=rp Z3g x1) rfl rfl (vh hs 0 rfl rfl))<|Sd (lo [11] [] rfl fun S hs hr=>Z1k rfl rfl (vh hs 11 rfl rfl))<|SFp ltable_change_0 Z9o rfl<|SLp Z3f rfl<|SCl [10,14] (Y2j _ _ _ hx2) Y06 rfl<|SAs rfl<|Sn<|sq<|AW.newnil 1001 135 Zp<|Rg<|Ac (Zn rfl rfl vc) rfl<|Nl<|sq<|sq ?_
 obtain ⟨x3,hx3,h⟩:=Z6 h
 refine Rg<|Mr rfl<|Ac (Z1k rfl rfl (vt rfl)) rfl<|Fp ltable_change_1 Zah rfl<|Lp1 Z2n rfl<|Cl [19] (Y8r _ _ hx3) Zve rfl<|Ac (Z07 rfl rfl Z25 (vt rfl)) rfl<|Mk rfl<|Nl<|bk<|LG (d:=[]) (ν:=(List Flow)×Nat×(List Flow)×(List Int)×Value) (fun (l11,i10,l7,x9,v8)=>(Sfx x3 i10 l11∧Zb6 l11 i10 l7 x9=some r,l11.length,[(3,rd (Z1 (Z0 .i64)) x9),(4,Zg v8),(20,rd (Z1 Zp) x3),(21,rd (Z0 .i64) (x3.length:Int)),(22,rd (Z0 .i64) (i10:Int))],[(1001,Zi v8 135 Zp l7)])) (x3,0,[],x2,(.slice none 0 0)) ⟨Sfx.start _,h⟩ (FX rfl) ?_
 rintro ⟨l11,i10,l7,x9,v8⟩ ⟨hsf1,h⟩
 dsimp only at hsf1 h ⊢
 cases l11 with
 | nil=>
  unfold Zb6 at h
  refine SR<|Ac (Zh rfl rfl (vt rfl) (vt rfl)) rfl<|Nl<|sq<|Cn rfl (fun hc=>absurd (of_decide_eq_true hc) hsf1.nil) (fun hc=>?_)
  refine xt<|SR<|Mw rfl<|Aw rfl<|Nl<|AW.freezes [2,4,44] 1001 rfl ⟨rfl,rfl,rfl,trivial⟩ rfl<|rt ?_
  cases h;exact Z9 Tryz.results172 rfl (Z5 rfl)
 | cons x12 l11=>
  unfold Zb6 at h
  refine SR<|Ac (Zh rfl rfl (vt rfl) (vt rfl)) rfl<|Nl<|sq<|Cn rfl (fun hc=>?_) (fun hc=>absurd hsf1.cons (of_decide_eq_false hc))
  have hlti10:=of_decide_eq_true hc
  refine sk<|sq<|bk<|SR<|Md rfl<|Ac (Z0d rfl rfl Z25 (vt rfl) (vt rfl) hsf1.lget) rfl<|Lp1 Z19 rfl<|Cv rfl (Zo 7 rfl rfl Z4j) fun g13=>As rfl<|Ze Z19 7 rfl<|Nl<|sq<|sq ?_
  obtain ⟨x14,hx14,h⟩:=Z6 h
  refine Rg<|Md rfl<|Ac (Z07 rfl rfl Z15 (vt rfl)) rfl<|Ac (Z1s rfl rfl (vt rfl) (vk rfl)) rfl<|Md rfl<|Gd rfl (fun hq=>Zk (A:=rd (Z1 (Z0 .i64)) x9) rfl rfl (vt rfl))<|Gd rfl (fun hq=>Z0d rfl rfl Z15 (Z8 rfl hq) (vk rfl) (Z1p hx14 hq))<|Gd rfl (fun hq=>Z4i rfl rfl Zc (Z8 rfl hq))<|Gd rfl (fun hq=>Zk (A:=rd (Z0 .i64) (i10:Int)) rfl rfl (vt rfl))<|Gd rfl (fun hq=>Zy rfl rfl (Z8 rfl hq) (Z8 rfl hq))<|Ac (Z0h rfl rfl (vt rfl) (vt rfl)) rfl<|Nl<|Cq rfl h (fun h=>?_) (fun h=>?_)
  ·refine sq ?_
   obtain ⟨s15,hs15,h⟩:=Z6 h
   refine Rg<|Md rfl<|Ac (Zj1 hs15 rfl rfl Z15 (vt rfl) (vk rfl)) rfl<|As rfl<|Nl<|xt<|Rg<|Ac (Z0a (t:=21) rfl rfl (vt rfl) (vk rfl) (vt rfl) hlti10) rfl<|Md rfl<|Nl ?_
   exact ⟨(_,_,_,_,_),Nat.lt_succ_self _,⟨hsf1.next,h⟩,FX rfl⟩
  ·refine sk ?_
   obtain ⟨l16,hl16,h⟩:=Z6 h
   refine Rg<|Mw rfl<|Ld Z19 7 rfl<|Ac (osl Z25 Z4j rfl (vt rfl)) rfl<|Cv rfl (Z1f 1001 hl16 rfl rfl Zg0 (vt rfl) rfl (vt rfl)) fun v17=>Aw rfl<|Nl<|Rg<|Ac (Z0a (t:=21) rfl rfl (vt rfl) (vk rfl) (vt rfl) hlti10) rfl<|Md rfl<|Nl ?_
   exact ⟨(_,_,_,_,_),Nat.lt_succ_self _,⟨hsf1.next,h⟩,FX rfl⟩
def Zjz (m2:FlowMod)(t1:(List Flow))(x9:Bool):Option ((List Flow)×Fault):=
 (bif x9 then (Ztq (⟨m2,t1⟩:table_change)).bind fun x10=>some (x10,(⟨false,0,0⟩:Fault)) else (Zeb 6).bind fun x11=>some (x11.1,x11.2))
def Zk1 (m2:FlowMod)(t1:(List Flow))(x7:Bool):Option ((List Flow)×Fault):=
 (bif x7 then (Zrm (⟨m2,t1⟩:table_change)).bind fun x8=>some (x8,(⟨false,0,0⟩:Fault)) else (bif (decide ((((⟨m2,t1⟩:table_change).FlowMod).Command)=3)) then Zjz m2 t1 (decide ((((⟨m2,t1⟩:table_change).FlowMod).Command)=3)) else Zjz m2 t1 (decide ((((⟨m2,t1⟩:table_change).FlowMod).Command)=4))))
def Zsz (t1:(List Flow))(m2:FlowMod):Option ((List Flow)×Fault):=
 (bif (decide ((((⟨m2,t1⟩:table_change).FlowMod).Command)=0)) then (Zvg (⟨m2,t1⟩:table_change)).bind fun x6=>some (x6.1,x6.2) else (bif (decide ((((⟨m2,t1⟩:table_change).FlowMod).Command)=1)) then Zk1 m2 t1 (decide ((((⟨m2,t1⟩:table_change).FlowMod).Command)=1)) else Zk1 m2 t1 (decide ((((⟨m2,t1⟩:table_change).FlowMod).Command)=2))))
theorem Y98:Q2 Tryz.prog 115 (rd (Z1 Zp)) (rd Z1b) (fun r=>Z0t (rd (Z1 Zp) r.1) (rd Z12 r.2)) Zsz:=fun t1 m2 r h=>I0 Tryz.func115 rfl Tryz.ntmps115 rfl fun w H Z=>by
 unfold Zsz at h
 refine SR<|Cv rfl (Zm 4 rfl rfl (vt rfl)) fun g3=>Ac (Zn (A:=rd (Z1 Zp) []) rfl rfl Z04) rfl<|Cv rfl (Zo 6 rfl rfl Z1t) fun g4=>Nl<|SR<|Ld Z3f 4 rfl<|Md rfl<|Ac (opb (⟨m2,t1⟩:table_change) Yf6 rfl Yk8 (pc Yio (vt rfl)<|pc Ydz (vt rfl)<|pn rfl)) rfl<|Cv rfl (Zm 11 rfl rfl (vt rfl)) fun g5=>Ac (Zn (A:=Za g5 (Lens.id Z3g)) rfl rfl (vt rfl)) rfl<|Nl<|sq<|SR<|Mp rfl<|Nc rfl<|Zf ltable_change_0 Z9o rfl<|Zf lFlowMod_3 Z7e rfl<|Ld Zc 11 rfl<|Nl<|bk<|SR<|Ac (Zy rfl rfl (vt rfl) (vk rfl)) rfl<|As rfl<|Nl<|Cq rfl h (fun h=>?_) (fun h=>?_)
 ·refine sq<|AW.freezesB [6,10,11,12] 11 rfl ⟨rfl,rfl,rfl,rfl,trivial⟩ rfl ?_
  obtain ⟨x6,hx6,h⟩:=Z6 h
  refine Rg<|Mr rfl<|Cl [18] (Y8c _ _ hx6) Yci rfl<|Ac (Z10 rfl rfl (vt rfl)) rfl<|Ac (Z0z rfl rfl (vt rfl)) rfl<|As rfl<|Ze Z05 6 rfl<|Nl<|rt ?_
  cases h;exact Z0c Tryz.results115 rfl (Z5 rfl) (Zv rfl (i:=6) rfl Z05)
 ·refine JN (d:=[]) (ν:=Bool) (fun x7=>(Zk1 m2 t1 x7=some r,[(5,Za g4 (Lens.id Z12)),(6,Za g5 (Lens.id Z3g)),(15,rd (Z0 .i64) (((⟨m2,t1⟩:table_change).FlowMod).Command)),(22,rd Z3 x7)],[(6,Zd g4 99 Z12 Z4g),(11,Zd g5 296 Z3g (⟨m2,t1⟩:table_change))])) ?hx1 ?hy1
  case hy1=>
   intro x7 h
   dsimp only at h ⊢
   unfold Zk1 at h
   refine Cq rfl h (fun h=>?_) (fun h=>?_)
   ·refine sq<|AW.freezeB 6 11 rfl rfl rfl ?_
    obtain ⟨x8,hx8,h⟩:=Z6 h
    refine Rg<|Mr rfl<|Cl [25] (Y71 _ _ hx8) Ybo rfl<|Ac (opb (⟨false,0,0⟩:Fault) Z1t rfl Z41 (pn rfl)) rfl<|As rfl<|Ze Z05 6 rfl<|Nl<|rt ?_
    cases h;exact Z0c Tryz.results115 rfl (Z5 rfl) (Zv rfl (i:=6) rfl Z05)
   ·refine JN (d:=[]) (ν:=Bool) (fun x9=>(Zjz m2 t1 x9=some r,[(5,Za g4 (Lens.id Z12)),(6,Za g5 (Lens.id Z3g)),(28,rd Z3 x9)],[(6,Zd g4 99 Z12 Z4g),(11,Zd g5 296 Z3g (⟨m2,t1⟩:table_change))])) ?hx2 ?hy2
    case hy2=>
     intro x9 h
     dsimp only at h ⊢
     unfold Zjz at h
     refine Cq rfl h (fun h=>?_) (fun h=>?_)
     ·refine sq<|AW.freezeB 6 11 rfl rfl rfl ?_
      obtain ⟨x10,hx10,h⟩:=Z6 h
      refine Rg<|Mr rfl<|Cl [31] (Yl5 _ _ hx10) Ycw rfl<|Ac (opb (⟨false,0,0⟩:Fault) Z1t rfl Z41 (pn rfl)) rfl<|As rfl<|Ze Z05 6 rfl<|Nl<|rt ?_
      cases h;exact Z0c Tryz.results115 rfl (Z5 rfl) (Zv rfl (i:=6) rfl Z05)
     ·refine sk<|sq ?_
      obtain ⟨x11,hx11,h⟩:=Z6 h
      refine Rg<|Ac (Zz (xs:=[.const (Value.int IntKind.i64 6)]) (Zpy _ _ hx11) Zsj rfl rfl ⟨vk rfl,trivial⟩) rfl<|Ac (Z10 rfl rfl (vt rfl)) rfl<|Ac (Z0z rfl rfl (vt rfl)) rfl<|As rfl<|Ze Z05 6 rfl<|Nl<|rt ?_
      cases h;exact Z0c Tryz.results115 rfl (Z5 rfl) (Zv rfl (i:=6) rfl Z05)
    case hx2=>
     refine SR<|Ac (Zy rfl rfl (vt rfl) (vk rfl)) rfl<|As rfl<|Nl<|Cq rfl h (fun h=>?_) (fun h=>?_)
     ·refine sk ?_
      exact ⟨_,h,FX rfl⟩
     ·refine Rg<|Ac (Zy rfl rfl (vt rfl) (vk rfl)) rfl<|As rfl<|Nl ?_
      exact ⟨_,h,FX rfl⟩
  case hx1=>
   refine SR<|Ac (Zy rfl rfl (vt rfl) (vk rfl)) rfl<|As rfl<|Nl<|Cq rfl h (fun h=>?_) (fun h=>?_)
   ·refine sk ?_
    exact ⟨_,h,FX rfl⟩
   ·refine Rg<|Ac (Zy rfl rfl (vt rfl) (vk rfl)) rfl<|As rfl<|Nl ?_
    exact ⟨_,h,FX rfl⟩
def Zc3 (m3:FlowMod)(x7:Bool):Nat→Nat→state_work→Option (Err×state_work)
 | 0,i13,b12=>some (Err.no,b12)
 | m14+1,i13,b12=>(bif ((!((decide (m3.Table=255))&&x7))&&(decide ((i13:Int)≠m3.Table))) then (Zc3 m3 x7 m14) (i13+1) b12 else (chk 4 (i13:Int)).bind fun j15=>(Zsz (Vector.get b12.Switch.Tables j15) m3).bind fun x16=>(bif x16.2.Is then (Zfx x16.2).bind fun x18=>some (x18,b12) else (chk 4 (i13:Int)).bind fun j19=>(Zc3 m3 x7 m14) (i13+1) {b12 with Switch:={b12.Switch with Tables:=(Vector.set b12.Switch.Tables j19.1 x16.1 j19.2)}}))
def Zk3 (m3:FlowMod)(x7:Bool)(w1:state_work):Option (Err×state_work):=
 Zc3 m3 x7 (4:Int).toNat 0 w1
def Zpb (w1:state_work)(m3:FlowMod):Option (Err×state_work):=
 (Zl8 m3).bind fun x5=>(Zfx x5).bind fun x6=>(bif (!(Err.isNo x6)) then some (x6,w1) else (opt (decide (m3.Table=255)) (Zjg m3.Command)).bind fun x7=>(Zm5 m3).bind fun x8=>(bif (!x8) then (Z9d 1 6).bind fun x9=>some (x9,w1) else (bif ((decide (m3.Table≥4))&&(!((decide (m3.Table=255))&&x7))) then (Z9d 5 2).bind fun x10=>some (x10,w1) else (Zjg m3.Command).bind fun x20=>(bif (!x20) then (Znj w1 m3.Table m3.Insts).bind fun x21=>(bif (!(Err.isNo x21)) then some (x21,w1) else Zk3 m3 x7 w1) else Zk3 m3 x7 w1))))
theorem Yhm (g2 gT:Nat)(w1:state_work)(m3:FlowMod)(r:(Err×state_work))(h:Zpb w1 m3=some r):Con Tryz.prog 65 [Za g2 (Lens.id Z2g),rd Z1b m3] (Zd g2 gT Z2g w1) (fun _:Unit=>rd Z3y r.1) (fun _=>Zd g2 gT Z2g r.2):=by
 refine Con.intro Tryz.func65 rfl Tryz.ntmps65 rfl fun w H X Z=>?_
 unfold Zpb at h
 refine SR<|Cv rfl (Zm 4 rfl rfl (vt rfl)) fun g4=>Ac (Zn (A:=rd Z3y Err.no) rfl rfl (vne rfl)) rfl<|Nl<|sq<|sq ?_
 obtain ⟨x5,hx5,x6,hx6,h⟩:=bs2 h
 refine Rg<|Ld Z3f 4 rfl<|Cl [11] (Y2h _ _ hx5) e81 rfl<|Cl [12] (Zuz _ _ hx6) Zoc rfl<|As rfl<|Nl<|SR<|Md rfl<|Ac (Zsc rfl rfl Zpo (Zu1 _) (vt rfl)) rfl<|Nl<|Cq rfl h (fun h=>?_) (fun h=>?_)
 ·refine SR<|Md rfl<|As rfl<|Nl<|rt ?_
  cases h;exact Z47 (i:=0) Tryz.results65 rfl (Z5 rfl) rfl
 ·refine sk<|sq ?_
  obtain ⟨x7,hx7,h⟩:=Z6 h
  refine Rg<|Zf lFlowMod_2 Zf1 rfl<|Ld Zc 4 rfl<|Ac (Zy rfl rfl (vt rfl) (vk rfl)) rfl<|Md rfl<|Gd rfl (fun hq=>Z0i lFlowMod_3 rfl rfl Z7e (vt rfl))<|Gd rfl (fun hq=>Z08 rfl rfl Zc (Z8 rfl hq) (i:=4) rfl)<|Gd rfl (fun hq=>Zz (xs:=[.tmp 22]) (Zvh _ _ (Z1p hx7 hq)) Y1m rfl rfl ⟨Z8 rfl hq,trivial⟩)<|Ac (Z0h rfl rfl (vt rfl) (vt rfl)) rfl<|As rfl<|Nl<|sq<|bk<|sq ?_
  obtain ⟨x8,hx8,h⟩:=Z6 h
  refine Rg<|Ld Z3f 4 rfl<|Cl [26] (Zyo _ _ hx8) e45 rfl<|Ac (Z0g rfl rfl (vt rfl)) rfl<|As rfl<|Nl<|Cq rfl h (fun h=>?_) (fun h=>?_)
  ·refine sq ?_
   obtain ⟨x9,hx9,h⟩:=Z6 h
   refine Rg<|Ac (Zz (xs:=[.const (Value.int IntKind.i64 1),.const (Value.int IntKind.i64 6)]) (Zfl _ _ _ hx9) e83 rfl rfl ⟨vk rfl,vk rfl,trivial⟩) rfl<|As rfl<|Nl<|rt ?_
   cases h;exact Z47 (i:=0) Tryz.results65 rfl (Z5 rfl) rfl
  ·refine SR<|Zf lFlowMod_2 Zf1 rfl<|Ld Zc 4 rfl<|Ac (Z1z rfl rfl (vt rfl) (vk rfl)) rfl<|Md rfl<|Gd rfl (fun hq=>Zk (A:=rd Z3 ((decide (m3.Table=255))&&x7)) rfl rfl (vt rfl))<|Gd rfl (fun hq=>Z0g rfl rfl (Z8 rfl hq))<|Ac (Z0h rfl rfl (vt rfl) (vt rfl)) rfl<|As rfl<|Nl<|Cq rfl h (fun h=>?_) (fun h=>?_)
   ·refine sq ?_
    obtain ⟨x10,hx10,h⟩:=Z6 h
    refine Rg<|Ac (Zz (xs:=[.const (Value.int IntKind.i64 5),.const (Value.int IntKind.i64 2)]) (Zfl _ _ _ hx10) e83 rfl rfl ⟨vk rfl,vk rfl,trivial⟩) rfl<|As rfl<|Nl<|rt ?_
    cases h;exact Z47 (i:=0) Tryz.results65 rfl (Z5 rfl) rfl
   ·refine sk ?_
    refine JN (d:=[]) (ν:=Unit) (fun _=>(Zk3 m3 x7 w1=some r,[(0,Za g2 (Lens.id Z2g)),(3,Za g4 (Lens.id Z1b)),(6,rd Z3 ((decide (m3.Table=255))&&x7))],[(0,Zd g2 gT Z2g w1),(4,Zd g4 118 Z1b m3)])) ?hx1 ?hy1
    case hy1=>
     rintro ⟨⟩ h
     dsimp only at h ⊢
     unfold Zk3 at h
     refine sq<|SR<|Mk rfl<|Nl<|bk<|LG (d:=[]) (ν:=Nat×Nat×state_work) (fun (m14,i13,b12)=>(Cnt 4 i13 m14∧Zc3 m3 x7 m14 i13 b12=some r,m14,[(0,Za g2 (Lens.id Z2g)),(3,Za g4 (Lens.id Z1b)),(6,rd Z3 ((decide (m3.Table=255))&&x7)),(52,rd (Z0 .i64) (i13:Int))],[(0,Zd g2 gT Z2g b12),(4,Zd g4 118 Z1b m3)])) ((4:Int).toNat,0,w1) ⟨Cnt.start _,h⟩ (FX rfl) ?_
     rintro ⟨m14,i13,b12⟩ ⟨hsf2,h⟩
     dsimp only at hsf2 h ⊢
     cases m14 with
     | zero=>
      unfold Zc3 at h
      refine SR<|Ac (Zh rfl rfl (vt rfl) (vk rfl)) rfl<|Nl<|sq<|Cn rfl (fun hc=>absurd (of_decide_eq_true hc) hsf2.zero) (fun hc=>?_)
      refine xt<|SR<|Ac (Zn (A:=rd Z3y Err.no) rfl rfl (vne rfl)) rfl<|Nl<|rt ?_
      cases h;exact Z47 (i:=0) Tryz.results65 rfl (Z5 rfl) rfl
     | succ m14=>
      unfold Zc3 at h
      refine SR<|Ac (Zh rfl rfl (vt rfl) (vk rfl)) rfl<|Nl<|sq<|Cn rfl (fun hc=>?_) (fun hc=>absurd hsf2.succ (of_decide_eq_false hc))
      have hlti13:=of_decide_eq_true hc
      refine sk<|sq<|bk<|SR<|Md rfl<|As rfl<|Nl<|sq<|SR<|Md rfl<|Ac (Z0g rfl rfl (vt rfl)) rfl<|Md rfl<|Gd rfl (fun hq=>Zk (A:=rd (Z0 .i64) (i13:Int)) rfl rfl (vt rfl))<|Gd rfl (fun hq=>Z0i lFlowMod_2 rfl rfl Zf1 (vt rfl))<|Gd rfl (fun hq=>Z08 rfl rfl Zc (Z8 rfl hq) (i:=4) rfl)<|Gd rfl (fun hq=>Z2j rfl rfl (Z8 rfl hq) (Z8 rfl hq))<|Ac (Z0h rfl rfl (vt rfl) (vt rfl)) rfl<|Nl<|Cq rfl h (fun h=>?_) (fun h=>?_)
      ·refine xt<|Rg<|Ac (Z43 rfl rfl (vt rfl) (vk rfl) rfl hlti13) rfl<|Md rfl<|Nl ?_
       exact ⟨(_,_,_),Nat.lt_succ_self _,⟨hsf2.next,h⟩,FX rfl⟩
      ·refine sk<|sq ?_
       obtain ⟨j15,hj15,x16,hx16,h⟩:=bs2 h
       refine AR Z03 (by kernel_rfl)<|SMp rfl<|SMd rfl<|SNc rfl<|SFd lstate_work_0 Zap rfl<|SFd Z8c Z9s rfl<|Sd (lo [68,65] [] rfl fun S hs hr=>Z2o rfl rfl Za3 (vh hs 68 rfl rfl) (vh hs 65 rfl rfl) hj15)<|Zu Z2n 0 rfl<|Zu Z3f 4 rfl<|SCl [70,71] (Y98 _ _ _ hx16) Y8o rfl<|Sd (lo [72] [] rfl fun S hs hr=>Zk (A:=Z0t (rd (Z1 Zp) x16.1) (rd Z12 x16.2)) rfl rfl (vh hs 72 rfl rfl))<|Sd (lo [63] [] rfl fun S hs hr=>Z10 rfl rfl (vh hs 63 rfl rfl))<|Sd (lo [63] [] rfl fun S hs hr=>Z0z rfl rfl (vh hs 63 rfl rfl))<|Sd (Z18 (us:=[(10,Z28 99 Z12 Z4g)]) (ur:=[]) [] [] rfl fun S hs hr=>Z55 rfl rfl rfl Z1t)<|SAs rfl<|Sd (Z18 (us:=[(10,Z28 99 Z12 x16.2)]) (ur:=[]) [10,74] [] rfl fun S hs hr=>Z4z rfl rfl Z05 ((hs 10 rfl).trans rfl) (vh hs 74 rfl rfl))<|Sn<|AW.unpackP 10 11 rfl rfl fun g17=>sq<|SR<|Zf lFault_0 Zan rfl<|Ld ty4 11 rfl<|Nl<|Cq rfl h (fun h=>?_) (fun h=>?_)
       ·refine sq ?_
        obtain ⟨x18,hx18,h⟩:=Z6 h
        refine Rg<|Ld Z05 11 rfl<|Cl [77] (Zuz _ _ hx18) Zoc rfl<|As rfl<|Nl<|rt ?_
        cases h;exact Z47 (i:=0) Tryz.results65 rfl (Z5 rfl) rfl
       ·refine sk ?_
        obtain ⟨j19,hj19,h⟩:=Z6 h
        refine Rg<|Mp rfl<|Md rfl<|Md rfl<|Nc rfl<|Zf lstate_work_0 Zap rfl<|Zf Z8c Z9s rfl<|Ac (Z2o rfl rfl Za3 (vt rfl) (vt rfl) hj19) rfl<|Ze Z2n 0 rfl<|Nl<|Rg<|Ac (Z43 rfl rfl (vt rfl) (vk rfl) rfl hlti13) rfl<|Md rfl<|Nl ?_
        exact ⟨(_,_,_),Nat.lt_succ_self _,⟨hsf2.next,h⟩,FX rfl⟩
    case hx1=>
     refine sq ?_
     obtain ⟨x20,hx20,h⟩:=Z6 h
     refine Rg<|Zf lFlowMod_3 Z7e rfl<|Ld Zc 4 rfl<|Cl [40] (Zvh _ _ hx20) Y1m rfl<|Ac (Z0g rfl rfl (vt rfl)) rfl<|Nl<|Cq rfl h (fun h=>?_) (fun h=>?_)
     ·refine sq ?_
      obtain ⟨x21,hx21,h⟩:=Z6 h
      refine Rg<|Mp rfl<|Zf lFlowMod_2 Zf1 rfl<|Ld Zc 4 rfl<|Zf lFlowMod_12 Zd1 rfl<|Ld Z4r 4 rfl<|Ac (Z9v (xs:=[.tmp 43,.tmp 45,.tmp 47]) 0 (Y1n _ _ _ _ hx21) e47 rfl rfl ⟨vLp rfl rfl,vB (vt rfl),vB (vt rfl),trivial⟩) rfl<|As rfl<|Nl<|SR<|Md rfl<|Ac (Zsc rfl rfl Zpo (Zu1 _) (vt rfl)) rfl<|Nl<|Cq rfl h (fun h=>?_) (fun h=>?_)
      ·refine SR<|Md rfl<|As rfl<|Nl<|rt ?_
       cases h;exact Z47 (i:=0) Tryz.results65 rfl (Z5 rfl) rfl
      ·refine sk ?_
       exact ⟨(),h,FX rfl⟩
     ·refine sk ?_
      exact ⟨(),h,FX rfl⟩
end Go.Proofs.YtjppkmpecdbepaaGreatDoor.W
set_option maxHeartbeats 1000000
set_option maxRecDepth 4000
namespace Go.Proofs.YtjppkmpecdbepaaGreatDoor.W
open Go Go.Wb
theorem e65:Ent Tryz.prog 65:=Ent.mk Tryz.func65 rfl rfl
theorem e35:Ent Tryz.prog 35:=Ent.mk Tryz.func35 rfl rfl
theorem e34:Ent Tryz.prog 34:=Ent.mk Tryz.func34 rfl rfl
theorem e36:Ent Tryz.prog 36:=Ent.mk Tryz.func36 rfl rfl
theorem e19:Ent Tryz.prog 19:=Ent.mk Tryz.func19 rfl rfl
theorem e37:Ent Tryz.prog 37:=Ent.mk Tryz.func37 rfl rfl
theorem e38:Ent Tryz.prog 38:=Ent.mk Tryz.func38 rfl rfl
theorem e39:Ent Tryz.prog 39:=Ent.mk Tryz.func39 rfl rfl
def Zp8 (s1:Switch)(m2:FlowMod):Option (Switch×Fault):=
 (Zls s1).bind fun x7=>(Zpb (⟨x7⟩:state_work) m2).bind fun b9=>(Zlm b9.2 b9.1).bind fun x10=>some (x10.1,x10.2)
theorem Yev:Q2 Tryz.prog 36 (rd kSwitch) (rd Z1b) (fun r=>Z0t (rd kSwitch r.1) (rd Z12 r.2)) Zp8:=fun s1 m2 r h=>I0 Tryz.func36 rfl Tryz.ntmps36 rfl fun w H Z=>by
 unfold Zp8 at h
 refine SR<|Cv rfl (Zm 3 rfl rfl (vt rfl)) fun g3=>Cv rfl (Zm 4 rfl rfl (vt rfl)) fun g4=>Cv rfl (Zo 5 rfl rfl Z5v) fun g5=>Cv rfl (Zo 6 rfl rfl Z1t) fun g6=>Nl<|sq ?_
 obtain ⟨x7,hx7,h⟩:=Z6 h
 refine Rg<|Ld Z27 3 rfl<|Cl [7] (Zzr _ _ hx7) e62 rfl<|Ac (opb (⟨x7⟩:state_work) Zsy rfl Zp5 (pc Zv3 (vt rfl)<|pn rfl)) rfl<|Cv rfl (Zm 11 rfl rfl (vt rfl)) fun g8=>Ac (Zn (A:=Za g8 (Lens.id Z2g)) rfl rfl (vt rfl)) rfl<|Nl<|sq ?_
 obtain ⟨b9,hb9,x10,hx10,h⟩:=bs2 h
 refine Rg<|Mp rfl<|Mp rfl<|Ld Z3f 4 rfl<|Cv rfl (Z0y 11 (xs:=[.tmp 12,.tmp 13]) (Yhm _ _ _ _ _ hb9) e65 rfl rfl ⟨vt rfl,vt rfl,trivial⟩ rfl) fun _u=>AOps.freezesB [6,10,11,12] 11 rfl ⟨rfl,rfl,rfl,rfl,trivial⟩ rfl<|Cl [11,14] (Y0i _ _ _ hx10) e63 rfl<|Ac (Z10 rfl rfl (vt rfl)) rfl<|Ac (Z0z rfl rfl (vt rfl)) rfl<|Ze Z27 5 rfl<|Ze Z05 6 rfl<|Nl<|rt ?_
 cases h;exact Z0c Tryz.results36 rfl (Zv rfl (i:=5) rfl Z27) (Zv rfl (i:=6) rfl Z05)
def Zln (i1:Int)(o2:Int):Option Switch:=
 (Zog).bind fun x4=>(Zv5 x4 (⟨0,1,1,[(⟨1,4294967295,4294967295,[]⟩:Bucket),(⟨1,4294967295,4294967295,[(⟨0,o2,0,0,0,Z3p⟩:Action)]⟩:Bucket)]⟩:GroupMod)).bind fun x5=>(Zp8 x5.1 (⟨0,0,0,0,0,0,0,0,0,0,0,[(⟨0,false,(⟨0,(BitVec.ofInt 64 i1)⟩:Wide),Z0r⟩:Oxm)],[(⟨4,0,Z0r,Z0r,[(⟨22,0,0,1,0,Z3p⟩:Action)]⟩:Inst)]⟩:FlowMod)).bind fun x8=>some x8.1
theorem Zwn:Q2 Tryz.prog 19 (rd (Z0 .i64)) (rd (Z0 .i64)) (rd kSwitch) Zln:=fun i1 o2 r h=>I0 Tryz.func19 rfl Tryz.ntmps19 rfl fun w H Z=>by
 unfold Zln at h
 refine SR<|Cv rfl (Zo 5 rfl rfl Z5v) fun g3=>Nl<|sq ?_
 obtain ⟨x4,hx4,x5,hx5,h⟩:=bs2 h
 refine Rg<|Cl [] (Y79 _ hx4) e35 rfl<|Ac (opb (⟨1,4294967295,4294967295,[]⟩:Bucket) Z8i rfl Zz1 (pc Zy7 (vk rfl)<|pc Y2n (vk rfl)<|pc Y0f (vk rfl)<|pn rfl)) rfl<|Md rfl<|Ac (opb (⟨0,o2,0,0,0,Z3p⟩:Action) Z48 rfl Zrw (pc Zq5 (vk rfl)<|pc Yfe (vt rfl)<|pn rfl)) rfl<|Ac (osl Z17 Z48 rfl (vt rfl)) rfl<|Ac (opb (⟨1,4294967295,4294967295,[(⟨0,o2,0,0,0,Z3p⟩:Action)]⟩:Bucket) Z8i rfl Zz1 (pc Zy7 (vk rfl)<|pc Y2n (vk rfl)<|pc Y0f (vk rfl)<|pc Yc3 (vt rfl)<|pn rfl)) rfl<|Ac (Z4x (ps:=[(0,.tmp 9),(1,.tmp 13)]) (l:=[(⟨1,4294967295,4294967295,[]⟩:Bucket),(⟨1,4294967295,4294967295,[(⟨0,o2,0,0,0,Z3p⟩:Action)]⟩:Bucket)]) rfl rfl Z2y Z8i rfl rfl ⟨_,_,Lens.idx 2 Z16 0 (by decide),_,rfl,vt rfl,_,_,Lens.idx 2 Z16 1 (by decide),_,rfl,vt rfl,rfl⟩ rfl) rfl<|Ac (opb (⟨0,1,1,[(⟨1,4294967295,4294967295,[]⟩:Bucket),(⟨1,4294967295,4294967295,[(⟨0,o2,0,0,0,Z3p⟩:Action)]⟩:Bucket)]⟩:GroupMod) Ygh rfl Ymx (pc Y9z (vk rfl)<|pc Yg7 (vk rfl)<|pc Yd8 (vt rfl)<|pn rfl)) rfl<|Cl [8,15] (Ydg _ _ _ hx5) e34 rfl<|Mt2 rfl<|Ac (Z10 rfl rfl (vt rfl)) rfl<|Ac (Z0z rfl rfl (vt rfl)) rfl<|Cv rfl (Zo 6 rfl rfl Z5v) fun g6=>Cv rfl (Zo 7 rfl rfl Z1t) fun g7=>Ze Z27 6 rfl<|Ze Z05 7 rfl<|Nl<|sq ?_
 obtain ⟨x8,hx8,h⟩:=Z6 h
 refine Rg<|Ld Z27 6 rfl<|Md rfl<|Ac (Z6z rfl rfl us3 Zy2 (vt rfl)) rfl<|Ac (opb (⟨0,(BitVec.ofInt 64 i1)⟩:Wide) Z39 rfl Z5z (pc Z7y (vt rfl)<|pn rfl)) rfl<|Ac (opb (⟨0,false,(⟨0,(BitVec.ofInt 64 i1)⟩:Wide),Z0r⟩:Oxm) Z9h rfl Y4t (pc Yke (vk rfl)<|pc Yjp (vt rfl)<|pn rfl)) rfl<|Ac (osl Z4t Z9h rfl (vt rfl)) rfl<|Ac (opb (⟨22,0,0,1,0,Z3p⟩:Action) Z48 rfl Zrw (pc Zq5 (vk rfl)<|pc Yh7 (vk rfl)<|pn rfl)) rfl<|Ac (osl Z17 Z48 rfl (vt rfl)) rfl<|Ac (opb (⟨4,0,Z0r,Z0r,[(⟨22,0,0,1,0,Z3p⟩:Action)]⟩:Inst) Z44 rfl Zo1 (pc Zza (vk rfl)<|pc Y7f (vt rfl)<|pn rfl)) rfl<|Ac (osl Z46 Z44 rfl (vt rfl)) rfl<|Ac (opb (⟨0,0,0,0,0,0,0,0,0,0,0,[(⟨0,false,(⟨0,(BitVec.ofInt 64 i1)⟩:Wide),Z0r⟩:Oxm)],[(⟨4,0,Z0r,Z0r,[(⟨22,0,0,1,0,Z3p⟩:Action)]⟩:Inst)]⟩:FlowMod) Z9l rfl Zid (pc Zoa (vt rfl)<|pc Zq9 (vt rfl)<|pn rfl)) rfl<|Cl [20,30] (Yev _ _ _ hx8) e36 rfl<|Mt2 rfl<|Ac (Z10 rfl rfl (vt rfl)) rfl<|Ac (Z0z rfl rfl (vt rfl)) rfl<|Ze Z27 6 rfl<|Nl<|SR<|Ld Z27 6 rfl<|Ze Z27 5 rfl<|Nl<|rt ?_
 cases h;exact Z9 Tryz.results19 rfl (Zv rfl (i:=5) rfl Z27)
def Zlu:Option Net:=
 (Zln 2 3).bind fun x2=>(Zln 4 5).bind fun x3=>some (⟨[x2,x3],[(⟨0,3,1,4⟩:Link)]⟩:Net)
theorem Y30:Q0 Tryz.prog 9 (rd Z1v) Zlu:=fun r h=>I0 Tryz.func9 rfl Tryz.ntmps9 rfl fun w H Z=>by
 unfold Zlu at h
 refine SR<|Cv rfl (Zo 1 rfl rfl Zoy) fun g1=>Nl<|sq ?_
 obtain ⟨x2,hx2,x3,hx3,h⟩:=bs2 h
 refine Rg<|Ac (Zz (xs:=[.const (Value.int IntKind.i64 2),.const (Value.int IntKind.i64 3)]) (Zwn _ _ _ hx2) e19 rfl rfl ⟨vk rfl,vk rfl,trivial⟩) rfl<|Ac (Zz (xs:=[.const (Value.int IntKind.i64 4),.const (Value.int IntKind.i64 5)]) (Zwn _ _ _ hx3) e19 rfl rfl ⟨vk rfl,vk rfl,trivial⟩) rfl<|Ac (Z4x (ps:=[(0,.tmp 1),(1,.tmp 2)]) (l:=[x2,x3]) rfl rfl Z7v Z5v rfl rfl ⟨_,_,Lens.idx 2 kSwitch 0 (by decide),_,rfl,vt rfl,_,_,Lens.idx 2 kSwitch 1 (by decide),_,rfl,vt rfl,rfl⟩ rfl) rfl<|Ac (opb (⟨0,3,1,4⟩:Link) Zja rfl Y96 (pc Y5h (vk rfl)<|pc Y7z (vk rfl)<|pc Ya3 (vk rfl)<|pc Ynx (vk rfl)<|pn rfl)) rfl<|Ac (osl Z9t Zja rfl (vt rfl)) rfl<|Ac (opb (⟨[x2,x3],[(⟨0,3,1,4⟩:Link)]⟩:Net) Zoy rfl Y35 (pc Yex (vt rfl)<|pc Y46 (vt rfl)<|pn rfl)) rfl<|Ze Z61 1 rfl<|Nl<|rt ?_
 cases h;exact Z9 Tryz.results9 rfl (Zv rfl (i:=1) rfl Z61)
def Z9z (p1:Int):Option Bool:=
 some ((decide (p1≥1))&&(decide (p1≤4294967040)))
theorem Yao:Q1 Tryz.prog 37 (rd (Z0 .i64)) (rd Z3) Z9z:=fun p1 r h=>I0 Tryz.func37 rfl Tryz.ntmps37 rfl fun w H Z=>by
 unfold Z9z at h
 refine SR<|Ab rfl<|Nl<|SR<|Md rfl<|Ac (Z1z rfl rfl (vt rfl) (vk rfl)) rfl<|Md rfl<|Gd rfl (fun hq=>Zk (A:=rd (Z0 .i64) p1) rfl rfl (vt rfl))<|Gd rfl (fun hq=>Z50 rfl rfl (Z8 rfl hq) (vk rfl))<|Ac (Z0h rfl rfl (vt rfl) (vt rfl)) rfl<|As rfl<|Nl<|rt ?_
 cases h;exact Z9 Tryz.results37 rfl (Z5 rfl)
def Zee (n1:Net)(a2:Int):Option Bool:=
 some ((decide (a2≥0))&&(decide (a2<(n1.Switches.length:Int))))
theorem Zta:Q2 Tryz.prog 38 (rd Z1v) (rd (Z0 .i64)) (rd Z3) Zee:=fun n1 a2 r h=>I0 Tryz.func38 rfl Tryz.ntmps38 rfl fun w H Z=>by
 unfold Zee at h
 refine SR<|Cv rfl (Zm 3 rfl rfl (vt rfl)) fun g3=>Ab rfl<|Nl<|SR<|Md rfl<|Ac (Z1z rfl rfl (vt rfl) (vk rfl)) rfl<|Md rfl<|Gd rfl (fun hq=>Zk (A:=rd (Z0 .i64) a2) rfl rfl (vt rfl))<|Gd rfl (fun hq=>Z0i lNet_0 rfl rfl Zh7 (vt rfl))<|Gd rfl (fun hq=>Z08 rfl rfl Zfp (Z8 rfl hq) (i:=3) rfl)<|Gd rfl (fun hq=>Z07 rfl rfl Z7v (Z8 rfl hq))<|Gd rfl (fun hq=>Zh rfl rfl (Z8 rfl hq) (Z8 rfl hq))<|Ac (Z0h rfl rfl (vt rfl) (vt rfl)) rfl<|As rfl<|Nl<|rt ?_
 cases h;exact Z9 Tryz.results38 rfl (Z5 rfl)
def Zdq (n1:Net):(List Link)→Nat→(List (links_plug×Int))→Option Bool
 | [],i6,m5=>some true
 | x8::l7,i6,m5=>(opt (!(decide ((Z0w (Z1i m5 (⟨x8.From,x8.Out⟩:links_plug) (IntKind.i64.wrap ((Z0w m5 (⟨x8.From,x8.Out⟩:links_plug))+1))) (⟨x8.From,x8.Out⟩:links_plug))>1))) (Zee n1 x8.From)).bind fun x12=>(opt (!((decide ((Z0w (Z1i m5 (⟨x8.From,x8.Out⟩:links_plug) (IntKind.i64.wrap ((Z0w m5 (⟨x8.From,x8.Out⟩:links_plug))+1))) (⟨x8.From,x8.Out⟩:links_plug))>1))||(!x12))) (Zee n1 x8.To)).bind fun x13=>(opt (!(((decide ((Z0w (Z1i m5 (⟨x8.From,x8.Out⟩:links_plug) (IntKind.i64.wrap ((Z0w m5 (⟨x8.From,x8.Out⟩:links_plug))+1))) (⟨x8.From,x8.Out⟩:links_plug))>1))||(!x12))||(!x13))) (Z9z x8.Out)).bind fun x14=>(opt (!((((decide ((Z0w (Z1i m5 (⟨x8.From,x8.Out⟩:links_plug) (IntKind.i64.wrap ((Z0w m5 (⟨x8.From,x8.Out⟩:links_plug))+1))) (⟨x8.From,x8.Out⟩:links_plug))>1))||(!x12))||(!x13))||(!x14))) (Z9z x8.In)).bind fun x15=>(bif (((((decide ((Z0w (Z1i m5 (⟨x8.From,x8.Out⟩:links_plug) (IntKind.i64.wrap ((Z0w m5 (⟨x8.From,x8.Out⟩:links_plug))+1))) (⟨x8.From,x8.Out⟩:links_plug))>1))||(!x12))||(!x13))||(!x14))||(!x15)) then some false else (Zdq n1 l7) (i6+1) (Z1i m5 (⟨x8.From,x8.Out⟩:links_plug) (IntKind.i64.wrap ((Z0w m5 (⟨x8.From,x8.Out⟩:links_plug))+1))))
def Zu4 (n1:Net):Option Bool:=
 Zdq n1 n1.Links 0 []
theorem Ylt:Q1 Tryz.prog 20 (rd Z1v) (rd Z3) Zu4:=fun n1 r h=>I0 Tryz.func20 rfl Tryz.ntmps20 rfl fun w H Z=>by
 unfold Zu4 at h
 refine SR<|Cv rfl (Zm 2 rfl rfl (vt rfl)) fun g2=>Ab rfl<|Nl<|SR<|Cv rfl (Znw Z6a 9 rfl rfl) fun g3=>Aw rfl<|Nl<|SR<|Ac (Zn rfl rfl (vf1 e37 Yao)) rfl<|Nl<|sq<|SR<|Zf lNet_1 Zkz rfl<|Ld Zje 2 rfl<|Ac (Z07 rfl rfl Z9t (vt rfl)) rfl<|Mk rfl<|Nl<|bk<|LG (d:=[]) (ν:=(List Link)×Nat×(List (links_plug×Int))) (fun (l7,i6,m5)=>(Sfx n1.Links i6 l7∧Zdq n1 l7 i6 m5=some r,l7.length,[(1,Za g2 (Lens.id Z1v)),(3,Zg (.map (some g3))),(4,fn1 Tryz.prog (Z0 .i64) Z3 Z9z),(10,rd (Z1 Z31) n1.Links),(11,rd (Z0 .i64) (n1.Links.length:Int)),(12,rd (Z0 .i64) (i6:Int))],[(2,Zd g2 48 Z1v n1),(9,Z2d g3 Z6a m5)])) (n1.Links,0,[]) ⟨Sfx.start _,h⟩ (FX rfl) ?_
 rintro ⟨l7,i6,m5⟩ ⟨hsf1,h⟩
 dsimp only at hsf1 h ⊢
 cases l7 with
 | nil=>
  unfold Zdq at h
  refine SR<|Ac (Zh rfl rfl (vt rfl) (vt rfl)) rfl<|Nl<|sq<|Cn rfl (fun hc=>absurd (of_decide_eq_true hc) hsf1.nil) (fun hc=>?_)
  refine xt<|SR<|Ab rfl<|Nl<|rt ?_
  cases h;exact Z9 Tryz.results20 rfl (Z5 rfl)
 | cons x8 l7=>
  unfold Zdq at h
  refine SR<|Ac (Zh rfl rfl (vt rfl) (vt rfl)) rfl<|Nl<|sq<|Cn rfl (fun hc=>?_) (fun hc=>absurd hsf1.cons (of_decide_eq_false hc))
  have hlti6:=of_decide_eq_true hc
  refine sk<|sq<|bk<|SR<|Ac (Z0d rfl rfl Z9t (vt rfl) (vt rfl) hsf1.lget) rfl<|Lp1 Zqs rfl<|Cv rfl (Zo 7 rfl rfl Zja) fun g9=>Ze Zqs 7 rfl<|Nl<|SR<|Zf lLink_0 Zu5 rfl<|Ld Zc 7 rfl<|Zf lLink_1 Znq rfl<|Ld Zc 7 rfl<|Ac (opb (⟨x8.From,x8.Out⟩:links_plug) Zz5 rfl Yb1 (pc Yei (vt rfl)<|pc Yju (vt rfl)<|pn rfl)) rfl<|Cv rfl (Zo 8 rfl rfl Zz5) fun g10=>Ze Zo2 8 rfl<|Nl<|sq<|AW.mapInc (i:=9) (j1:=8) (t1:=7) (x:=(⟨x8.From,x8.Out⟩:links_plug)) Z03 Zws rfl rfl rfl rfl rfl rfl rfl (by kernel_rfl) (by kernel_rfl) rfl rfl rfl rfl (fun S2 h2 h3=>Z08 (L:=Lens.id Z6a) rfl rfl Zo2 (vt (h2.trans rfl)) (i:=8) (h3.trans rfl)) fun g11=>sq ?_
  obtain ⟨x12,hx12,x13,hx13,x14,hx14,x15,hx15,h⟩:=bs4 h
  refine Rg<|Mw rfl<|Ld Zo2 8 rfl<|Ac (Zdt (i:=9) rfl rfl Zws (vt rfl) rfl (vt rfl)) rfl<|Ac (Z1s rfl rfl (vt rfl) (vk rfl)) rfl<|Md rfl<|Gd rfl (fun hq=>Z08 rfl rfl Z61 (vt rfl) (i:=2) rfl)<|Gd rfl (fun hq=>Z0i lLink_0 rfl rfl Zu5 (vt rfl))<|Gd rfl (fun hq=>Z08 rfl rfl Zc (Z8 rfl hq) (i:=7) rfl)<|Gd rfl (fun hq=>Zz (xs:=[.tmp 32,.tmp 34]) (Zta _ _ _ (Z4a hx12 hq)) e38 rfl rfl ⟨Z8 rfl hq,Z8 rfl hq,trivial⟩)<|Gd rfl (fun hq=>Z0g rfl rfl (Z8 rfl hq))<|Ac (Z1u rfl rfl (vt rfl) (vt rfl)) rfl<|Md rfl<|Gd rfl (fun hq=>Z08 rfl rfl Z61 (vt rfl) (i:=2) rfl)<|Gd rfl (fun hq=>Z0i lLink_2 rfl rfl Zop (vt rfl))<|Gd rfl (fun hq=>Z08 rfl rfl Zc (Z8 rfl hq) (i:=7) rfl)<|Gd rfl (fun hq=>Zz (xs:=[.tmp 39,.tmp 41]) (Zta _ _ _ (Z4a hx13 hq)) e38 rfl rfl ⟨Z8 rfl hq,Z8 rfl hq,trivial⟩)<|Gd rfl (fun hq=>Z0g rfl rfl (Z8 rfl hq))<|Ac (Z1u rfl rfl (vt rfl) (vt rfl)) rfl<|Md rfl<|Gd rfl (fun hq=>Zk (A:=fn1 Tryz.prog (Z0 .i64) Z3 Z9z) rfl rfl (vt rfl))<|Gd rfl (fun hq=>Z0i lLink_1 rfl rfl Znq (vt rfl))<|Gd rfl (fun hq=>Z08 rfl rfl Zc (Z8 rfl hq) (i:=7) rfl)<|Gd rfl (fun hq=>Z2z (Z4a hx14 hq) rfl rfl (Z8 rfl hq) (Z8 rfl hq))<|Gd rfl (fun hq=>Z0g rfl rfl (Z8 rfl hq))<|Ac (Z1u rfl rfl (vt rfl) (vt rfl)) rfl<|Md rfl<|Gd rfl (fun hq=>Zk (A:=fn1 Tryz.prog (Z0 .i64) Z3 Z9z) rfl rfl (vt rfl))<|Gd rfl (fun hq=>Z0i lLink_3 rfl rfl Zzj (vt rfl))<|Gd rfl (fun hq=>Z08 rfl rfl Zc (Z8 rfl hq) (i:=7) rfl)<|Gd rfl (fun hq=>Z2z (Z4a hx15 hq) rfl rfl (Z8 rfl hq) (Z8 rfl hq))<|Gd rfl (fun hq=>Z0g rfl rfl (Z8 rfl hq))<|Ac (Z1u rfl rfl (vt rfl) (vt rfl)) rfl<|Nl<|Cq rfl h (fun h=>?_) (fun h=>?_)
  ·refine SR<|Ab rfl<|Nl<|rt ?_
   cases h;exact Z9 Tryz.results20 rfl (Z5 rfl)
  ·refine sk<|Rg<|Ac (Z0a (t:=11) rfl rfl (vt rfl) (vk rfl) (vt rfl) hlti6) rfl<|Md rfl<|Nl ?_
   exact ⟨(_,_,_),Nat.lt_succ_self _,⟨hsf1.next,h⟩,FX rfl⟩
def Zes (s1:(List Switch))(x2:(Switch→Option Bool)):Nat→Nat→Option Int
 | 0,i3=>some (-1)
 | m4+1,i3=>(lget s1 (i3:Int)).bind fun x5=>(x2 x5).bind fun x6=>(bif x6 then some (i3:Int) else (Zes s1 x2 m4) (i3+1))
def Zv9 (s1:(List Switch))(x2:(Switch→Option Bool)):Option Int:=
 Zes s1 x2 ((s1.length:Int):Int).toNat 0
theorem Ycu:Q2 Tryz.prog 39 (rd (Z1 kSwitch)) (fn1 Tryz.prog kSwitch Z3) (rd (Z0 .i64)) Zv9:=fun s1 x2 r h=>I0 Tryz.func39 rfl Tryz.ntmps39 rfl fun w H Z=>by
 unfold Zv9 at h
 refine SR<|Ak rfl<|Nl<|sq<|SR<|Md rfl<|Ac (Z07 rfl rfl Z7v (vt rfl)) rfl<|Mk rfl<|Nl<|bk<|LG (d:=[]) (ν:=Nat×Nat) (fun (m4,i3)=>(Cnt (s1.length:Int) i3 m4∧Zes s1 x2 m4 i3=some r,m4,[(0,rd (Z1 kSwitch) s1),(1,fn1 Tryz.prog kSwitch Z3 x2),(7,rd (Z0 .i64) (s1.length:Int)),(8,rd (Z0 .i64) (i3:Int))],[])) (((s1.length:Int):Int).toNat,0) ⟨Cnt.start _,h⟩ (FX rfl) ?_
 rintro ⟨m4,i3⟩ ⟨hsf1,h⟩
 dsimp only at hsf1 h ⊢
 cases m4 with
 | zero=>
  unfold Zes at h
  refine SR<|Ac (Zh rfl rfl (vt rfl) (vt rfl)) rfl<|Nl<|sq<|Cn rfl (fun hc=>absurd (of_decide_eq_true hc) hsf1.zero) (fun hc=>?_)
  refine xt<|SR<|Ak rfl<|Nl<|rt ?_
  cases h;exact Z9 Tryz.results39 rfl (Z5 rfl)
 | succ m4=>
  unfold Zes at h
  refine SR<|Ac (Zh rfl rfl (vt rfl) (vt rfl)) rfl<|Nl<|sq<|Cn rfl (fun hc=>?_) (fun hc=>absurd hsf1.succ (of_decide_eq_false hc))
  have hlti3:=of_decide_eq_true hc
  refine sk<|sq<|bk<|SR<|Md rfl<|As rfl<|Nl<|sq ?_
  obtain ⟨x5,hx5,x6,hx6,h⟩:=bs2 h
  refine Rg<|Ac (Zk (A:=fn1 Tryz.prog kSwitch Z3 x2) rfl rfl (vt rfl)) rfl<|Md rfl<|Md rfl<|Ac (Z0d rfl rfl Z7v (vt rfl) (vt rfl) hx5) rfl<|Lp1 Z27 rfl<|Ac (Z2z hx6 rfl rfl (vt rfl) (vt rfl)) rfl<|Nl<|Cq rfl h (fun h=>?_) (fun h=>?_)
  ·refine SR<|Md rfl<|As rfl<|Nl<|rt ?_
   cases h;exact Z9 Tryz.results39 rfl (Z5 rfl)
  ·refine sk<|Rg<|Ac (Z0a (t:=7) rfl rfl (vt rfl) (vk rfl) (vt rfl) hlti3) rfl<|Md rfl<|Nl ?_
   exact ⟨(_,_),Nat.lt_succ_self _,⟨hsf1.next,h⟩,FX rfl⟩
def Zuv (s1:(List Switch))(x2:(Switch→Option Bool)):Option Bool:=
 (Zv9 s1 x2).bind fun x3=>some (decide (x3≥0))
theorem Yjn:Q2 Tryz.prog 21 (rd (Z1 kSwitch)) (fn1 Tryz.prog kSwitch Z3) (rd Z3) Zuv:=fun s1 x2 r h=>I0 Tryz.func21 rfl Tryz.ntmps21 rfl fun w H Z=>by
 unfold Zuv at h
 refine SR<|Ab rfl<|Nl<|sq ?_
 obtain ⟨x3,hx3,h⟩:=Z6 h
 refine Rg<|Md rfl<|Ac (Zk (A:=fn1 Tryz.prog kSwitch Z3 x2) rfl rfl (vt rfl)) rfl<|Cl [5,6] (Ycu _ _ _ hx3) e39 rfl<|Ac (Z1z rfl rfl (vt rfl) (vk rfl)) rfl<|As rfl<|Nl<|rt ?_
 cases h;exact Z9 Tryz.results21 rfl (Z5 rfl)
def Zmo (x1:Group):Option Bool:=
 (Zks x1.Buckets).bind fun x3=>some (decide (x3.2≠0))
theorem Yfv:Q1 Tryz.prog 40 (rd Zt) (rd Z3) Zmo:=fun x1 r h=>I0 Tryz.func40 rfl Tryz.ntmps40 rfl fun w H Z=>by
 unfold Zmo at h
 refine SR<|Cv rfl (Zm 2 rfl rfl (vt rfl)) fun g2=>Ab rfl<|Nl<|sq ?_
 obtain ⟨x3,hx3,h⟩:=Z6 h
 refine Rg<|Zf lGroup_2 Z4o rfl<|Ld Z3u 2 rfl<|Cl [7] (Y26 _ _ hx3) e41 rfl<|Mt2 rfl<|Ac (Z10 rfl rfl (vt rfl)) rfl<|Ac (Z0z rfl rfl (vt rfl)) rfl<|As rfl<|As rfl<|Nl<|SR<|Md rfl<|Ac (Z2j rfl rfl (vt rfl) (vk rfl)) rfl<|As rfl<|Nl<|rt ?_
 cases h;exact Z9 Tryz.results40 rfl (Z5 rfl)
end Go.Proofs.YtjppkmpecdbepaaGreatDoor.W
set_option maxHeartbeats 1000000
set_option maxRecDepth 4000
namespace Go.Proofs.YtjppkmpecdbepaaGreatDoor.W
open Go Go.Wb
theorem e40:Ent Tryz.prog 40:=Ent.mk Tryz.func40 rfl rfl
theorem e42:Ent Tryz.prog 42:=Ent.mk Tryz.func42 rfl rfl
theorem e44:Ent Tryz.prog 44:=Ent.mk Tryz.func44 rfl rfl
theorem e48:Ent Tryz.prog 48:=Ent.mk Tryz.func48 rfl rfl
theorem e23:Ent Tryz.prog 23:=Ent.mk Tryz.func23 rfl rfl
theorem e20:Ent Tryz.prog 20:=Ent.mk Tryz.func20 rfl rfl
theorem e21:Ent Tryz.prog 21:=Ent.mk Tryz.func21 rfl rfl
theorem e22:Ent Tryz.prog 22:=Ent.mk Tryz.func22 rfl rfl
theorem e92:Ent Tryz.prog 92:=Ent.mk Tryz.func92 rfl rfl
def Zdr (l1:(List Group)):(List Group)→Nat→Option Bool
 | [],i3=>some true
 | x5::l4,i3=>(Zdm x5.ID).bind fun x7=>(opt (!(!x7)) (Z83 l1 x5.ID)).bind fun x8=>(opt (!((!x7)||(decide (x8≠(i3:Int))))) (Zhr x5.Kind x5.Buckets)).bind fun x9=>(opt (!(((!x7)||(decide (x8≠(i3:Int))))||x9.Is)) (Zjv l1 x5.Buckets)).bind fun x10=>(bif ((((!x7)||(decide (x8≠(i3:Int))))||x9.Is)||(!x10)) then some false else (Zdr l1 l4) (i3+1))
def Zpk (l1:(List Group)):Option Bool:=
 (opt (!(decide ((l1.length:Int)>8))) (Zma l1)).bind fun x2=>(bif ((decide ((l1.length:Int)>8))||x2) then some false else Zdr l1 l1 0)
theorem Ykj:Q1 Tryz.prog 42 (rd (Z1 Zt)) (rd Z3) Zpk:=fun l1 r h=>I0 Tryz.func42 rfl Tryz.ntmps42 rfl fun w H Z=>by
 unfold Zpk at h
 refine SR<|Ab rfl<|Nl<|sq<|sq ?_
 obtain ⟨x2,hx2,h⟩:=Z6 h
 refine Rg<|Md rfl<|Ac (Z07 rfl rfl Z1n (vt rfl)) rfl<|Ac (Z1s rfl rfl (vt rfl) (vk rfl)) rfl<|Md rfl<|Gd rfl (fun hq=>Zk (A:=rd (Z1 Zt) l1) rfl rfl (vt rfl))<|Gd rfl (fun hq=>Zz (xs:=[.tmp 9]) (Y44 _ _ (Z4a hx2 hq)) e71 rfl rfl ⟨Z8 rfl hq,trivial⟩)<|Ac (Z1u rfl rfl (vt rfl) (vt rfl)) rfl<|Nl<|Cq rfl h (fun h=>?_) (fun h=>?_)
 ·refine SR<|Ab rfl<|Nl<|rt ?_
  cases h;exact Z9 Tryz.results42 rfl (Z5 rfl)
 ·refine sk<|sq<|SR<|Md rfl<|Ac (Z07 rfl rfl Z1n (vt rfl)) rfl<|Mk rfl<|Nl<|bk<|LG (d:=[]) (ν:=(List Group)×Nat) (fun (l4,i3)=>(Sfx l1 i3 l4∧Zdr l1 l4 i3=some r,l4.length,[(0,rd (Z1 Zt) l1),(12,rd (Z1 Zt) l1),(13,rd (Z0 .i64) (l1.length:Int)),(14,rd (Z0 .i64) (i3:Int))],[])) (l1,0) ⟨Sfx.start _,h⟩ (FX rfl) ?_
  rintro ⟨l4,i3⟩ ⟨hsf1,h⟩
  dsimp only at hsf1 h ⊢
  cases l4 with
  | nil=>
   unfold Zdr at h
   refine SR<|Ac (Zh rfl rfl (vt rfl) (vt rfl)) rfl<|Nl<|sq<|Cn rfl (fun hc=>absurd (of_decide_eq_true hc) hsf1.nil) (fun hc=>?_)
   refine xt<|SR<|Ab rfl<|Nl<|rt ?_
   cases h;exact Z9 Tryz.results42 rfl (Z5 rfl)
  | cons x5 l4=>
   unfold Zdr at h
   refine SR<|Ac (Zh rfl rfl (vt rfl) (vt rfl)) rfl<|Nl<|sq<|Cn rfl (fun hc=>?_) (fun hc=>absurd hsf1.cons (of_decide_eq_false hc))
   have hlti3:=of_decide_eq_true hc
   refine sk<|sq<|bk<|SR<|Md rfl<|Ac (Z0d rfl rfl Z1n (vt rfl) (vt rfl) hsf1.lget) rfl<|Lp1 Z1m rfl<|Cv rfl (Zo 5 rfl rfl Z3a) fun g6=>As rfl<|Ze Z1m 5 rfl<|Nl<|sq ?_
   obtain ⟨x7,hx7,x8,hx8,x9,hx9,x10,hx10,h⟩:=bs4 h
   refine Rg<|Zf lGroup_0 Z90 rfl<|Ld Zc 5 rfl<|Cl [20] (Zsv _ _ hx7) e72 rfl<|Ac (Z0g rfl rfl (vt rfl)) rfl<|Md rfl<|Gd rfl (fun hq=>Zk (A:=rd (Z1 Zt) l1) rfl rfl (vt rfl))<|Gd rfl (fun hq=>Z0i lGroup_0 rfl rfl Z90 (vt rfl))<|Gd rfl (fun hq=>Z08 rfl rfl Zc (Z8 rfl hq) (i:=5) rfl)<|Gd rfl (fun hq=>Zz (xs:=[.tmp 24,.tmp 26]) (Zcl _ _ _ (Z4a hx8 hq)) e52 rfl rfl ⟨Z8 rfl hq,Z8 rfl hq,trivial⟩)<|Gd rfl (fun hq=>Zk (A:=rd (Z0 .i64) (i3:Int)) rfl rfl (vt rfl))<|Gd rfl (fun hq=>Z2j rfl rfl (Z8 rfl hq) (Z8 rfl hq))<|Ac (Z1u rfl rfl (vt rfl) (vt rfl)) rfl<|Md rfl<|Gd rfl (fun hq=>Z0i lGroup_1 rfl rfl Zo8 (vt rfl))<|Gd rfl (fun hq=>Z08 rfl rfl Zc (Z8 rfl hq) (i:=5) rfl)<|Gd rfl (fun hq=>Z0i lGroup_2 rfl rfl Z4o (vt rfl))<|Gd rfl (fun hq=>Z08 rfl rfl Z3u (Z8 rfl hq) (i:=5) rfl)<|Gd rfl (fun hq=>Zz (xs:=[.tmp 33,.tmp 35]) (Zwz _ _ _ (Z4a hx9 hq)) e73 rfl rfl ⟨Z8 rfl hq,Z8 rfl hq,trivial⟩)<|Gd rfl (fun hq=>Z7o lFault_0 rfl rfl Zan Zoj ty4 rfl (Z8 rfl hq))<|Ac (Z1u rfl rfl (vt rfl) (vt rfl)) rfl<|Md rfl<|Gd rfl (fun hq=>Zk (A:=rd (Z1 Zt) l1) rfl rfl (vt rfl))<|Gd rfl (fun hq=>Z0i lGroup_2 rfl rfl Z4o (vt rfl))<|Gd rfl (fun hq=>Z08 rfl rfl Z3u (Z8 rfl hq) (i:=5) rfl)<|Gd rfl (fun hq=>Zz (xs:=[.tmp 40,.tmp 42]) (Y3r _ _ _ (Z4a hx10 hq)) e74 rfl rfl ⟨Z8 rfl hq,Z8 rfl hq,trivial⟩)<|Gd rfl (fun hq=>Z0g rfl rfl (Z8 rfl hq))<|Ac (Z1u rfl rfl (vt rfl) (vt rfl)) rfl<|Nl<|Cq rfl h (fun h=>?_) (fun h=>?_)
   ·refine SR<|Ab rfl<|Nl<|rt ?_
    cases h;exact Z9 Tryz.results42 rfl (Z5 rfl)
   ·refine sk<|Rg<|Ac (Z0a (t:=13) rfl rfl (vt rfl) (vk rfl) (vt rfl) hlti3) rfl<|Md rfl<|Nl ?_
    exact ⟨(_,_),Nat.lt_succ_self _,⟨hsf1.next,h⟩,FX rfl⟩
def Zcq (x1:Flow)(x2:Int)(x3:(Option state_work)):Option Bool:=
 (Zht x1 x2).bind fun x5=>(Zm5 x5).bind fun x6=>(opt (!(!x6)) (x3)).bind fun x7=>(opt (!(!x6)) (Znj x7 x2 x1.Insts)).bind fun x8=>some ((!x6)||(!(Err.isNo x8)))
theorem Ylp:Q3 Tryz.prog 44 (rd Zp) (rp (Z0 .i64)) (rp (Z6w Z2g)) (rd Z3) Zcq:=fun x1 x2 x3 r h=>I0 Tryz.func44 rfl Tryz.ntmps44 rfl fun w H Z=>by
 unfold Zcq at h
 refine SR<|Cv rfl (Zm 4 rfl rfl (vt rfl)) fun g4=>Ab rfl<|Nl<|sq ?_
 obtain ⟨x5,hx5,x6,hx6,x7,hx7,x8,hx8,h⟩:=bs4 h
 refine Rg<|Ld Z19 4 rfl<|Lp1 Zc rfl<|Cl [5,6] (Zxg _ _ _ hx5) e46 rfl<|Cl [7] (Zyo _ _ hx6) e45 rfl<|Ac (Z0g rfl rfl (vt rfl)) rfl<|Md rfl<|Gd rfl (fun hq=>Zwx (Z4i rfl rfl Ztm (vt rfl)) (Z4a hx7 hq))<|Gd rfl (fun hq=>Z4i rfl rfl Zc (vt rfl))<|Gd rfl (fun hq=>Z0i lFlow_6 rfl rfl Z7q (vt rfl))<|Gd rfl (fun hq=>Z08 rfl rfl Z4r (Z8 rfl hq) (i:=4) rfl)<|Gd rfl (fun hq=>Zz (xs:=[.tmp 11,.tmp 12,.tmp 14]) (Y1n _ _ _ _ (Z4a hx8 hq)) e47 rfl rfl ⟨Z8 rfl hq,Z8 rfl hq,Z8 rfl hq,trivial⟩)<|Gd rfl (fun hq=>Zsc rfl rfl Zpo (Zu1 _) (Z8 rfl hq))<|Ac (Z1u rfl rfl (vt rfl) (vt rfl)) rfl<|As rfl<|Nl<|rt ?_
 cases h;exact Z9 Tryz.results44 rfl (Z5 rfl)
def Ze7 (go1:Nat→Option Bool)(i2:Nat)(x4:Flow):(List Flow)→Nat→Option Bool
 | [],i7=>go1 (i2+1)
 | x9::l8,i7=>(Zit x4 x9).bind fun x11=>(opt (!x11) (Zkj x4.Flags)).bind fun x12=>(opt ((x11==false)&&(x12==true)) (Zlk x4 x9)).bind fun x13=>(bif (x11||(x12&&x13)) then some false else (Ze7 go1 i2 x4 l8) (i7+1))
def Zbe (t1:(List Flow)):(List Flow)→Nat→Option Bool
 | [],i2=>some true
 | x4::l3,i2=>(Z5c t1 (i2:Int)).bind fun s6=>Ze7 (Zbe t1 l3) i2 x4 s6 0
def Zrc (t1:(List Flow)):Option Bool:=
 (bif (decide ((t1.length:Int)>8)) then some false else Zbe t1 t1 0)
theorem Y6i:Q1 Tryz.prog 48 (rd (Z1 Zp)) (rd Z3) Zrc:=fun t1 r h=>I0 Tryz.func48 rfl Tryz.ntmps48 rfl fun w H Z=>by
 unfold Zrc at h
 refine SR<|Ab rfl<|Nl<|sq<|SR<|Md rfl<|Ac (Z07 rfl rfl Z25 (vt rfl)) rfl<|Ac (Z1s rfl rfl (vt rfl) (vk rfl)) rfl<|Nl<|Cq rfl h (fun h=>?_) (fun h=>?_)
 ·refine SR<|Ab rfl<|Nl<|rt ?_
  cases h;exact Z9 Tryz.results48 rfl (Z5 rfl)
 ·refine sk<|sq<|SR<|Md rfl<|Ac (Z07 rfl rfl Z25 (vt rfl)) rfl<|Mk rfl<|Nl<|bk<|LG (d:=[]) (ν:=(List Flow)×Nat) (fun (l3,i2)=>(Sfx t1 i2 l3∧Zbe t1 l3 i2=some r,l3.length,[(0,rd (Z1 Zp) t1),(10,rd (Z1 Zp) t1),(11,rd (Z0 .i64) (t1.length:Int)),(12,rd (Z0 .i64) (i2:Int))],[])) (t1,0) ⟨Sfx.start _,h⟩ (FX rfl) ?_
  rintro ⟨l3,i2⟩ ⟨hsf1,h⟩
  dsimp only at hsf1 h ⊢
  cases l3 with
  | nil=>
   unfold Zbe at h
   refine SR<|Ac (Zh rfl rfl (vt rfl) (vt rfl)) rfl<|Nl<|sq<|Cn rfl (fun hc=>absurd (of_decide_eq_true hc) hsf1.nil) (fun hc=>?_)
   refine xt<|SR<|Ab rfl<|Nl<|rt ?_
   cases h;exact Z9 Tryz.results48 rfl (Z5 rfl)
  | cons x4 l3=>
   unfold Zbe at h
   refine SR<|Ac (Zh rfl rfl (vt rfl) (vt rfl)) rfl<|Nl<|sq<|Cn rfl (fun hc=>?_) (fun hc=>absurd hsf1.cons (of_decide_eq_false hc))
   have hlti2:=of_decide_eq_true hc
   refine sk<|sq<|bk<|SR<|Md rfl<|Ac (Z0d rfl rfl Z25 (vt rfl) (vt rfl) hsf1.lget) rfl<|Lp1 Z19 rfl<|Cv rfl (Zo 5 rfl rfl Z4j) fun g5=>As rfl<|Ze Z19 5 rfl<|Nl<|sq ?_
   obtain ⟨s6,hs6,h⟩:=Z6 h
   refine Rg<|Md rfl<|Md rfl<|Ac (Zj9 hs6 rfl rfl Z25 (vt rfl) (vt rfl)) rfl<|Ac (Z07 rfl rfl Z25 (vt rfl)) rfl<|Mk rfl<|Nl<|bk<|LG (d:=[]) (ν:=(List Flow)×Nat) (fun (l8,i7)=>(Sfx s6 i7 l8∧Ze7 (Zbe t1 l3) i2 x4 l8 i7=some r,l8.length,[(0,rd (Z1 Zp) t1),(4,Za g5 (Lens.id Zp)),(10,rd (Z1 Zp) t1),(11,rd (Z0 .i64) (t1.length:Int)),(12,rd (Z0 .i64) (i2:Int)),(19,rd (Z1 Zp) s6),(20,rd (Z0 .i64) (s6.length:Int)),(21,rd (Z0 .i64) (i7:Int))],[(5,Zd g5 135 Zp x4)])) (s6,0) ⟨Sfx.start _,h⟩ (FX rfl) ?_
   rintro ⟨l8,i7⟩ ⟨hsf2,h⟩
   dsimp only at hsf2 h ⊢
   cases l8 with
   | nil=>
    unfold Ze7 at h
    refine SR<|Ac (Zh rfl rfl (vt rfl) (vt rfl)) rfl<|Nl<|sq<|Cn rfl (fun hc=>absurd (of_decide_eq_true hc) hsf2.nil) (fun hc=>?_)
    refine xt<|Rg<|Ac (Z0a (t:=11) rfl rfl (vt rfl) (vk rfl) (vt rfl) hlti2) rfl<|Md rfl<|Nl ?_
    exact ⟨(_,_),Nat.lt_succ_self _,⟨hsf1.next,h⟩,FX rfl⟩
   | cons x9 l8=>
    unfold Ze7 at h
    refine SR<|Ac (Zh rfl rfl (vt rfl) (vt rfl)) rfl<|Nl<|sq<|Cn rfl (fun hc=>?_) (fun hc=>absurd hsf2.cons (of_decide_eq_false hc))
    have hlti7:=of_decide_eq_true hc
    refine sk<|sq<|bk<|SR<|Ac (Z0d rfl rfl Z25 (vt rfl) (vt rfl) hsf2.lget) rfl<|Lp1 Z19 rfl<|Cv rfl (Zo 7 rfl rfl Z4j) fun g10=>Ze Z19 7 rfl<|Nl<|sq ?_
    obtain ⟨x11,hx11,x12,hx12,x13,hx13,h⟩:=bs3 h
    refine Rg<|Ld Z19 5 rfl<|Ld Z19 7 rfl<|Cl [25,26] (Zzn _ _ _ hx11) e86 rfl<|Md rfl<|Gd rfl (fun hq=>Z0i lFlow_4 rfl rfl Zjw (vt rfl))<|Gd rfl (fun hq=>Z08 rfl rfl Zc (Z8 rfl hq) (i:=5) rfl)<|Gd rfl (fun hq=>Zz (xs:=[.tmp 30]) (Y4d _ _ (Z4a hx12 hq)) e87 rfl rfl ⟨Z8 rfl hq,trivial⟩)<|AOps.consG (OpG.guardX rfl rfl rfl rfl rfl fun hq=>Zk (A:=rd Z3 x12) rfl rfl (Z8 rfl hq))<|AOps.consG (OpG.guardN rfl rfl rfl rfl rfl fun hq=>Z08 rfl rfl Z19 (vt rfl) (i:=5) rfl)<|AOps.consG (OpG.guardN rfl rfl rfl rfl rfl fun hq=>Z08 rfl rfl Z19 (vt rfl) (i:=7) rfl)<|AOps.consG (OpG.guardN rfl rfl rfl rfl rfl fun hq=>Zz (xs:=[.tmp 33,.tmp 34]) (Zyw _ _ _ (Zj8 hx13 hq)) e88 rfl rfl ⟨Z8 rfl hq,Z8 rfl hq,trivial⟩)<|Gd rfl (fun hq=>Z0h rfl rfl (vgx rfl hq) (vgw rfl hq))<|Ac (Z1u rfl rfl (vt rfl) (vt rfl)) rfl<|Nl<|Cq rfl h (fun h=>?_) (fun h=>?_)
    ·refine SR<|Ab rfl<|Nl<|rt ?_
     cases h;exact Z9 Tryz.results48 rfl (Z5 rfl)
    ·refine sk<|Rg<|Ac (Z0a (t:=20) rfl rfl (vt rfl) (vk rfl) (vt rfl) hlti7) rfl<|Md rfl<|Nl ?_
     exact ⟨(_,_),Nat.lt_succ_self _,⟨hsf2.next,h⟩,FX rfl⟩
def Zff (s1:Switch):(List (List Flow))→Nat→Option Bool
 | [],i7=>some true
 | x9::l8,i7=>(Zrc x9).bind fun x11=>(opt (!(!x11)) (Zk7 x9 (fun x=>Zcq x (i7:Int) (some (⟨s1⟩:state_work))))).bind fun x12=>(bif ((!x11)||x12) then some false else (Zff s1 l8) (i7+1))
def Zu8 (s1:Switch):Option Bool:=
 (Zpk s1.Groups).bind fun x3=>(opt (!(!x3)) (Zl1 s1.Groups Zmo)).bind fun x4=>(bif ((!x3)||x4) then some false else Zff s1 (Vector.toList (((⟨s1⟩:state_work).Switch).Tables)) 0)
theorem Yo4:Q1 Tryz.prog 23 (rd kSwitch) (rd Z3) Zu8:=fun s1 r h=>I0 Tryz.func23 rfl Tryz.ntmps23 rfl fun w H Z=>by
 unfold Zu8 at h
 refine SR<|Cv rfl (Zm 2 rfl rfl (vt rfl)) fun g2=>Ab rfl<|Nl<|SR<|Ac (Zn rfl rfl (vf1 e40 Yfv)) rfl<|Nl<|sq<|sq ?_
 obtain ⟨x3,hx3,x4,hx4,h⟩:=bs2 h
 refine Rg<|Zf Z66 Z77 rfl<|Ld Z3r 2 rfl<|Cl [9] (Ykj _ _ hx3) e42 rfl<|Ac (Z0g rfl rfl (vt rfl)) rfl<|Md rfl<|Gd rfl (fun hq=>Z0i Z66 rfl rfl Z77 (vt rfl))<|Gd rfl (fun hq=>Z08 rfl rfl Z3r (Z8 rfl hq) (i:=2) rfl)<|Gd rfl (fun hq=>Zk (A:=fn1 Tryz.prog Zt Z3 Zmo) rfl rfl (vt rfl))<|Gd rfl (fun hq=>Zz (xs:=[.tmp 14,.tmp 15]) (Y4c _ _ _ (Z4a hx4 hq)) e43 rfl rfl ⟨Z8 rfl hq,Z8 rfl hq,trivial⟩)<|Ac (Z1u rfl rfl (vt rfl) (vt rfl)) rfl<|Nl<|Cq rfl h (fun h=>?_) (fun h=>?_)
 ·refine SR<|Ab rfl<|Nl<|rt ?_
  cases h;exact Z9 Tryz.results23 rfl (Z5 rfl)
 ·refine sk<|SR<|Ld Z27 2 rfl<|Ac (opb (⟨s1⟩:state_work) Zsy rfl Zp5 (pc Zv3 (vt rfl)<|pn rfl)) rfl<|Cv rfl (Zm 21 rfl rfl (vt rfl)) fun g5=>Cv rfl (Zo 5 rfl rfl Ynn) fun g6=>AOps.freezeB 20 21 rfl rfl rfl<|Ac (Z3s rfl rfl Ztm (vt rfl) (i:=5) rfl (vpr ((vt rfl)))) rfl<|Nl<|sq<|SR<|Ac (Zwx (Z08 rfl rfl Ztm (vt rfl) (i:=5) rfl) rfl) rfl<|Ac (Z1k rfl rfl (vt rfl)) rfl<|Fp lstate_work_0 Zap rfl<|Fp Z8c Z9s rfl<|Lp1 Y0r rfl<|Mk rfl<|Nl<|bk<|AW.freezeB 4 5 rfl rfl rfl<|LG (d:=[]) (ν:=(List (List Flow))×Nat) (fun (l8,i7)=>(Sfx (Vector.toList (((⟨s1⟩:state_work).Switch).Tables)) i7 l8∧Zff s1 l8 i7=some r,l8.length,[(4,rp (Z6w Z2g) (some (⟨s1⟩:state_work))),(25,rd (Z4 4 (Z1 Zp)) (((⟨s1⟩:state_work).Switch).Tables)),(26,rd (Z0 .i64) (i7:Int))],[])) ((Vector.toList (((⟨s1⟩:state_work).Switch).Tables)),0) ⟨Sfx.start _,h⟩ (FX rfl) ?_
  rintro ⟨l8,i7⟩ ⟨hsf1,h⟩
  dsimp only at hsf1 h ⊢
  cases l8 with
  | nil=>
   unfold Zff at h
   refine SR<|Ac (Zh rfl rfl (vt rfl) (vk rfl)) rfl<|Nl<|sq<|Cn rfl (fun hc=>absurd (of_decide_eq_true hc) (hsf1.niln (by simp))) (fun hc=>?_)
   refine xt<|SR<|Ab rfl<|Nl<|rt ?_
   cases h;exact Z9 Tryz.results23 rfl (Z5 rfl)
  | cons x9 l8=>
   unfold Zff at h
   refine SR<|Ac (Zh rfl rfl (vt rfl) (vk rfl)) rfl<|Nl<|sq<|Cn rfl (fun hc=>?_) (fun hc=>absurd (hsf1.consn (by simp)) (of_decide_eq_false hc))
   have hlti7:=of_decide_eq_true hc
   refine sk<|sq<|bk<|SR<|Md rfl<|Ac (Z7n rfl rfl Za3 Z2n (vt rfl) (vt rfl) hsf1.lget) rfl<|Cv rfl (Zo 6 rfl rfl zr3) fun g10=>Ze Zc 6 rfl<|As rfl<|Nl<|sq<|AW.freezeB 5 6 rfl rfl rfl<|Rg<|Ac (Z30 (cs:=[.tmp 5,.tmp 4]) (CAs:=[rp (Z0 .i64) (i7:Int),rp (Z6w Z2g) (some (⟨s1⟩:state_work))]) (fun x=>Zcq x (i7:Int) (some (⟨s1⟩:state_work))) rfl rfl e44 ⟨vt rfl,vt rfl,trivial⟩ (fun x y h=>Ylp _ _ _ y h)) rfl<|Ac (Zn (A:=fn1 Tryz.prog Zp Z3 (fun x=>Zcq x (i7:Int) (some (⟨s1⟩:state_work)))) rfl rfl (vt rfl)) rfl<|Nl<|sq ?_
   obtain ⟨x11,hx11,x12,hx12,h⟩:=bs2 h
   refine Rg<|Md rfl<|Cl [31] (Y6i _ _ hx11) e48 rfl<|Ac (Z0g rfl rfl (vt rfl)) rfl<|Md rfl<|Gd rfl (fun hq=>Zk (A:=rd (Z1 Zp) x9) rfl rfl (vt rfl))<|Gd rfl (fun hq=>Zk (A:=fn1 Tryz.prog Zp Z3 (fun x=>Zcq x (i7:Int) (some (⟨s1⟩:state_work)))) rfl rfl (vt rfl))<|Gd rfl (fun hq=>Zz (xs:=[.tmp 35,.tmp 36]) (Zyr _ _ _ (Z4a hx12 hq)) e49 rfl rfl ⟨Z8 rfl hq,Z8 rfl hq,trivial⟩)<|Ac (Z1u rfl rfl (vt rfl) (vt rfl)) rfl<|Nl<|Cq rfl h (fun h=>?_) (fun h=>?_)
   ·refine SR<|Ab rfl<|Nl<|rt ?_
    cases h;exact Z9 Tryz.results23 rfl (Z5 rfl)
   ·refine sk<|Rg<|Ac (Z43 rfl rfl (vt rfl) (vk rfl) rfl hlti7) rfl<|Md rfl<|Nl ?_
    exact ⟨(_,_),Nat.lt_succ_self _,⟨hsf1.next,h⟩,FX rfl⟩
def Zol (s1:Switch):Option Bool:=
 (Zu8 s1).bind fun x3=>some (!x3)
theorem Yby:Q1 Tryz.prog 22 (rd kSwitch) (rd Z3) Zol:=fun s1 r h=>I0 Tryz.func22 rfl Tryz.ntmps22 rfl fun w H Z=>by
 unfold Zol at h
 refine SR<|Cv rfl (Zm 2 rfl rfl (vt rfl)) fun g2=>Ab rfl<|Nl<|sq ?_
 obtain ⟨x3,hx3,h⟩:=Z6 h
 refine Rg<|Ld Z27 2 rfl<|Cl [3] (Yo4 _ _ hx3) e23 rfl<|Ac (Z0g rfl rfl (vt rfl)) rfl<|As rfl<|Nl<|rt ?_
 cases h;exact Z9 Tryz.results22 rfl (Z5 rfl)
def Zpl (n1:Net):Option Bool:=
 (Zu4 n1).bind fun x3=>(opt x3 (Zuv n1.Switches Zol)).bind fun x4=>some (x3&&(!x4))
theorem Yjf:Q1 Tryz.prog 14 (rd Z1v) (rd Z3) Zpl:=fun n1 r h=>I0 Tryz.func14 rfl Tryz.ntmps14 rfl fun w H Z=>by
 unfold Zpl at h
 refine SR<|Cv rfl (Zm 2 rfl rfl (vt rfl)) fun g2=>Ab rfl<|Nl<|sq ?_
 obtain ⟨x3,hx3,x4,hx4,h⟩:=bs2 h
 refine Rg<|Ld Z61 2 rfl<|Cl [3] (Ylt _ _ hx3) e20 rfl<|Md rfl<|Gd rfl (fun hq=>Z0i lNet_0 rfl rfl Zh7 (vt rfl))<|Gd rfl (fun hq=>Z08 rfl rfl Zfp (Z8 rfl hq) (i:=2) rfl)<|Gd rfl (fun hq=>Zz (xs:=[.tmp 7,.func 22]) (Yjn _ _ _ (Z1p hx4 hq)) e21 rfl rfl ⟨Z8 rfl hq,vf1 e22 Yby,trivial⟩)<|Gd rfl (fun hq=>Z0g rfl rfl (Z8 rfl hq))<|Ac (Z0h rfl rfl (vt rfl) (vt rfl)) rfl<|As rfl<|Nl<|rt ?_
 cases h;exact Z9 Tryz.results14 rfl (Z5 rfl)
def Zfe (go1:Nat→(List Group)→Option (List Group))(i7:Nat)(x9:Switch):(List Group)→Nat→(List Group)→Option (List Group)
 | [],i15,l13=>go1 (i7+1) l13
 | x17::l16,i15,l13=>(Z3z x9.Groups (i15:Int)).bind fun s19=>(Za7 s19 x17.ID).bind fun x20=>(Z11 l13 [x20.1]).bind fun l22=>(Zfe go1 i7 x9 l16) (i15+1) l22
def Zd2:(List Switch)→Nat→(List Group)→Option (List Group)
 | [],i7,l5=>some l5
 | x9::l8,i7,l5=>Zfe (Zd2 l8) i7 x9 x9.Groups 0 l5
def Znz (n1:Net):Option (List Group):=
 Zd2 n1.Switches 0 []
theorem Yfz:Q1 Tryz.prog 16 (rd Z1v) (rd (Z1 Zt)) Znz:=fun n1 r h=>I0 Tryz.func16 rfl Tryz.ntmps16 rfl fun w H Z=>by
 unfold Znz at h
 refine SR<|Cv rfl (Zm 2 rfl rfl (vt rfl)) fun g2=>Ac (Zn (A:=rd (Z1 Zt) []) rfl rfl Z04) rfl<|Nl<|sq<|AW.newnil 1001 83 Zt<|Rg<|Ac (Zn rfl rfl vc) rfl<|Nl<|sq<|SR<|Zf lNet_0 Zh7 rfl<|Ld Zfp 2 rfl<|Ac (Z07 rfl rfl Z7v (vt rfl)) rfl<|Mk rfl<|Nl<|bk<|LG (d:=[]) (ν:=(List Switch)×Nat×(List Group)×Value) (fun (l8,i7,l5,v6)=>(Sfx n1.Switches i7 l8∧Zd2 l8 i7 l5=some r,l8.length,[(3,Zg v6),(11,rd (Z1 kSwitch) n1.Switches),(12,rd (Z0 .i64) (n1.Switches.length:Int)),(13,rd (Z0 .i64) (i7:Int))],[(1001,Zi v6 83 Zt l5)])) (n1.Switches,0,[],(.slice none 0 0)) ⟨Sfx.start _,h⟩ (FX rfl) ?_
 rintro ⟨l8,i7,l5,v6⟩ ⟨hsf1,h⟩
 dsimp only at hsf1 h ⊢
 cases l8 with
 | nil=>
  unfold Zd2 at h
  refine SR<|Ac (Zh rfl rfl (vt rfl) (vt rfl)) rfl<|Nl<|sq<|Cn rfl (fun hc=>absurd (of_decide_eq_true hc) hsf1.nil) (fun hc=>?_)
  refine xt<|SR<|Mw rfl<|Aw rfl<|Nl<|AW.freezes [2,3,41] 1001 rfl ⟨rfl,rfl,rfl,trivial⟩ rfl<|rt ?_
  cases h;exact Z9 Tryz.results16 rfl (Z5 rfl)
 | cons x9 l8=>
  unfold Zd2 at h
  refine SR<|Ac (Zh rfl rfl (vt rfl) (vt rfl)) rfl<|Nl<|sq<|Cn rfl (fun hc=>?_) (fun hc=>absurd hsf1.cons (of_decide_eq_false hc))
  have hlti7:=of_decide_eq_true hc
  refine sk<|sq<|bk<|SR<|Ac (Z0d rfl rfl Z7v (vt rfl) (vt rfl) hsf1.lget) rfl<|Lp1 Z27 rfl<|Cv rfl (Zo 6 rfl rfl Z5v) fun g10=>Ze Z27 6 rfl<|Nl<|SR<|Zf Z66 Z77 rfl<|Ld Z3r 6 rfl<|Ac (Z07 rfl rfl Z1n (vt rfl)) rfl<|Mk rfl<|Nl<|bk<|LG (d:=[]) (ν:=(List Group)×Nat×(List Group)×Value) (fun (l16,i15,l13,v14)=>(Sfx x9.Groups i15 l16∧Zfe (Zd2 l8) i7 x9 l16 i15 l13=some r,l16.length,[(3,Zg v14),(5,Za g10 (Lens.id kSwitch)),(11,rd (Z1 kSwitch) n1.Switches),(12,rd (Z0 .i64) (n1.Switches.length:Int)),(13,rd (Z0 .i64) (i7:Int)),(18,rd (Z1 Zt) x9.Groups),(19,rd (Z0 .i64) (x9.Groups.length:Int)),(20,rd (Z0 .i64) (i15:Int))],[(6,Zd g10 71 kSwitch x9),(1001,Zi v14 83 Zt l13)])) (x9.Groups,0,l5,v6) ⟨Sfx.start _,h⟩ (FX rfl) ?_
  rintro ⟨l16,i15,l13,v14⟩ ⟨hsf2,h⟩
  dsimp only at hsf2 h ⊢
  cases l16 with
  | nil=>
   unfold Zfe at h
   refine SR<|Ac (Zh rfl rfl (vt rfl) (vt rfl)) rfl<|Nl<|sq<|Cn rfl (fun hc=>absurd (of_decide_eq_true hc) hsf2.nil) (fun hc=>?_)
   refine xt<|Rg<|Ac (Z0a (t:=12) rfl rfl (vt rfl) (vk rfl) (vt rfl) hlti7) rfl<|Md rfl<|Nl ?_
   exact ⟨(_,_,_,_),Nat.lt_succ_self _,⟨hsf1.next,h⟩,FX rfl⟩
  | cons x17 l16=>
   unfold Zfe at h
   refine SR<|Ac (Zh rfl rfl (vt rfl) (vt rfl)) rfl<|Nl<|sq<|Cn rfl (fun hc=>?_) (fun hc=>absurd hsf2.cons (of_decide_eq_false hc))
   have hlti15:=of_decide_eq_true hc
   refine sk<|sq<|bk<|SR<|Md rfl<|Ac (Z0d rfl rfl Z1n (vt rfl) (vt rfl) hsf2.lget) rfl<|Lp1 Z1m rfl<|Cv rfl (Zo 8 rfl rfl Z3a) fun g18=>As rfl<|Ze Z1m 8 rfl<|Nl<|sq ?_
   obtain ⟨s19,hs19,x20,hx20,h⟩:=bs2 h
   refine AR Z03 (by kernel_rfl)<|SFd Z66 Z77 rfl<|Zu Z3r 6 rfl<|SMd rfl<|Sd (lo [27,28] [] rfl fun S hs hr=>Zj1 hs19 rfl rfl Z1n (vh hs 27 rfl rfl) (vh hs 28 rfl rfl))<|SFd lGroup_0 Z90 rfl<|Zu Zc 8 rfl<|SCl [29,31] (Zer _ _ _ hx20) e28 rfl<|Sd (lo [32] [] rfl fun S hs hr=>Zk (A:=Z0t (rd Zt x20.1) (rd Z3 x20.2)) rfl rfl (vh hs 32 rfl rfl))<|Sd (lo [25] [] rfl fun S hs hr=>Z10 rfl rfl (vh hs 25 rfl rfl))<|Sd (lo [25] [] rfl fun S hs hr=>Z0z rfl rfl (vh hs 25 rfl rfl))<|Sd (Z18 (us:=[(8,Z28 83 Zt Z8p)]) (ur:=[]) [] [] rfl fun S hs hr=>Z55 rfl rfl rfl Z3a)<|Sd (Z18 (us:=[(8,Z28 83 Zt x20.1)]) (ur:=[]) [8,33] [] rfl fun S hs hr=>Z4z rfl rfl Z1m ((hs 8 rfl).trans rfl) (vh hs 33 rfl rfl))<|SAs rfl<|Sn<|AW.unpackP 8 9 rfl rfl fun g21=>?_
   obtain ⟨l22,hl22,h⟩:=Z6 h
   refine Rg<|Mw rfl<|Ld Z1m 9 rfl<|Ac (osl Z1n Z3a rfl (vt rfl)) rfl<|Cv rfl (Z1f 1001 hl22 rfl rfl Zn8 (vt rfl) rfl (vt rfl)) fun v23=>Aw rfl<|Nl<|Rg<|Ac (Z0a (t:=19) rfl rfl (vt rfl) (vk rfl) (vt rfl) hlti15) rfl<|Md rfl<|Nl ?_
   exact ⟨(_,_,_,_),Nat.lt_succ_self _,⟨hsf2.next,h⟩,FX rfl⟩
def Zkh (x1:Group)(x2:Int):Option Bool:=
 some (decide (x1.Kind≠x2))
theorem Yfk:Q2 Tryz.prog 92 (rd Zt) (rp (Z0 .i64)) (rd Z3) Zkh:=fun x1 x2 r h=>I0 Tryz.func92 rfl Tryz.ntmps92 rfl fun w H Z=>by
 unfold Zkh at h
 refine SR<|Cv rfl (Zm 3 rfl rfl (vt rfl)) fun g3=>Ab rfl<|Nl<|SR<|Zf lGroup_1 Zo8 rfl<|Ld Zc 3 rfl<|Lp1 Zc rfl<|Ac (Z2j rfl rfl (vt rfl) (vt rfl)) rfl<|As rfl<|Nl<|rt ?_
 cases h;exact Z9 Tryz.results92 rfl (Z5 rfl)
def Zj0 (l1:(List Group))(k2:Int):Option (List Group):=
 (Zfg l1).bind fun x4=>(Znh x4 (fun x=>Zkh x k2)).bind fun x6=>some x6
theorem Y1g:Q2 Tryz.prog 50 (rd (Z1 Zt)) (rd (Z0 .i64)) (rd (Z1 Zt)) Zj0:=fun l1 k2 r h=>I0 Tryz.func50 rfl Tryz.ntmps50 rfl fun w H Z=>by
 unfold Zj0 at h
 refine SR<|Cv rfl (Zm 4 rfl rfl (vt rfl)) fun g3=>Ac (Zn (A:=rd (Z1 Zt) []) rfl rfl Z04) rfl<|Nl<|sq<|AW.freezeB 3 4 rfl rfl rfl ?_
 obtain ⟨x4,hx4,x6,hx6,h⟩:=bs2 h
 refine Rg<|Md rfl<|Cv rfl (Z0y 1001 (xs:=[.tmp 5]) (Zqj _ _ hx4) e91 rfl rfl ⟨vt rfl,trivial⟩ rfl) fun v5=>Ac (Z30 (cs:=[.tmp 3]) (CAs:=[rp (Z0 .i64) k2]) (fun x=>Zkh x k2) rfl rfl e92 ⟨vt rfl,trivial⟩ (fun x y h=>Yfk _ _ y h)) rfl<|Cv rfl (Z0y 1001 (xs:=[.tmp 6,.tmp 7]) (Y04 _ _ _ _ hx6) e90 rfl rfl ⟨vt rfl,vt rfl,trivial⟩ rfl) fun v7=>Aw rfl<|Nl<|AW.freezes [4,8] 1001 rfl ⟨rfl,rfl,trivial⟩ rfl<|rt ?_
 cases h;exact Z9 Tryz.results50 rfl (Z5 rfl)
end Go.Proofs.YtjppkmpecdbepaaGreatDoor.W
set_option maxHeartbeats 1000000
set_option maxRecDepth 4000
namespace Go.Proofs.YtjppkmpecdbepaaGreatDoor.W
open Go Go.Wb
theorem e50:Ent Tryz.prog 50:=Ent.mk Tryz.func50 rfl rfl
theorem e51:Ent Tryz.prog 51:=Ent.mk Tryz.func51 rfl rfl
theorem e25:Ent Tryz.prog 25:=Ent.mk Tryz.func25 rfl rfl
theorem e26:Ent Tryz.prog 26:=Ent.mk Tryz.func26 rfl rfl
theorem e27:Ent Tryz.prog 27:=Ent.mk Tryz.func27 rfl rfl
theorem e24:Ent Tryz.prog 24:=Ent.mk Tryz.func24 rfl rfl
def Zcd:(List Bool)→Nat→(List Int)→Option (List Int)
 | [],i12,l10=>some l10
 | x14::l13,i12,l10=>(bif ((decide ((i12:Int)>0))&&x14) then (Z11 l10 [(i12:Int)]).bind fun l15=>(Zcd l13) (i12+1) l15 else (Zcd l13) (i12+1) l10)
def Zg3 (go1:Nat→Zev→Option (List Int))(i6:Nat):(List Bucket)→Nat→Zev→Option (List Int)
 | [],i21,b20=>go1 (i6+1) b20
 | x23::l22,i21,b20=>(Z9f (Z4b (Z6s x23.Watch 7) 0) 7).bind fun q25=>(chk 7 q25).bind fun j26=>(Zg3 go1 i6 l22) (i21+1) (Vector.set b20 j26.1 true j26.2)
def Zb0:(List Group)→Nat→Zev→Option (List Int)
 | [],i6,b5=>Zcd (Vector.toList b5) 0 []
 | x17::l7,i6,b5=>Zg3 (Zb0 l7) i6 x17.Buckets 0 b5
def Zpu (l1:(List Group)):Option (List Int):=
 (Zj0 l1 3).bind fun x3=>Zb0 x3 0 (Vector.replicate 7 false)
theorem Yax:Q1 Tryz.prog 25 (rd (Z1 Zt)) (rd (Z1 (Z0 .i64))) Zpu:=fun l1 r h=>I0 Tryz.func25 rfl Tryz.ntmps25 rfl fun w H Z=>by
 unfold Zpu at h
 refine SR<|Ac (Zn (A:=rd (Z1 (Z0 .i64)) []) rfl rfl Z04) rfl<|Nl<|SR<|Cv rfl (Zo 4 rfl rfl Y8b) fun g2=>Nl<|sq<|sq ?_
 obtain ⟨x3,hx3,h⟩:=Z6 h
 refine Rg<|Md rfl<|Ac (Zz (xs:=[.tmp 11,.const (Value.int IntKind.i64 3)]) (Y1g _ _ _ hx3) e50 rfl rfl ⟨vt rfl,vk rfl,trivial⟩) rfl<|Ac (Z07 rfl rfl Z1n (vt rfl)) rfl<|Mk rfl<|Nl<|bk<|LG (d:=[]) (ν:=(List Group)×Nat×Zev) (fun (l7,i6,b5)=>(Sfx x3 i6 l7∧Zb0 l7 i6 b5=some r,l7.length,[(3,Za g2 (Lens.id (Z4 7 Z3))),(12,rd (Z1 Zt) x3),(13,rd (Z0 .i64) (x3.length:Int)),(14,rd (Z0 .i64) (i6:Int))],[(4,Zd g2 144 (Z4 7 Z3) b5)])) (x3,0,(Vector.replicate 7 false)) ⟨Sfx.start _,h⟩ (FX rfl) ?_
 rintro ⟨l7,i6,b5⟩ ⟨hsf1,h⟩
 dsimp only at hsf1 h ⊢
 cases l7 with
 | nil=>
  unfold Zb0 at h
  refine SR<|Ac (Zh rfl rfl (vt rfl) (vt rfl)) rfl<|Nl<|sq<|Cn rfl (fun hc=>absurd (of_decide_eq_true hc) hsf1.nil) (fun hc=>?_)
  refine xt<|sq<|AW.newnil 1001 3 (Z0 .i64)<|Rg<|Ac (Zn rfl rfl vc) rfl<|Nl<|sq<|SR<|Ld Ygd 4 rfl<|Mk rfl<|Nl<|bk<|LG (d:=[]) (ν:=(List Bool)×Nat×(List Int)×Value) (fun (l13,i12,l10,v11)=>(Sfx (Vector.toList b5) i12 l13∧Zcd l13 i12 l10=some r,l13.length,[(8,Zg v11),(33,rd (Z4 7 Z3) b5),(34,rd (Z0 .i64) (i12:Int))],[(1001,Zi v11 3 (Z0 .i64) l10)])) ((Vector.toList b5),0,[],(.slice none 0 0)) ⟨Sfx.start _,h⟩ (FX rfl) ?_
  rintro ⟨l13,i12,l10,v11⟩ ⟨hsf2,h⟩
  dsimp only at hsf2 h ⊢
  cases l13 with
  | nil=>
   unfold Zcd at h
   refine SR<|Ac (Zh rfl rfl (vt rfl) (vk rfl)) rfl<|Nl<|sq<|Cn rfl (fun hc=>absurd (of_decide_eq_true hc) (hsf2.niln (by simp))) (fun hc=>?_)
   refine xt<|SR<|Mw rfl<|Aw rfl<|Nl<|AW.freezes [2,8,48] 1001 rfl ⟨rfl,rfl,rfl,trivial⟩ rfl<|rt ?_
   cases h;exact Z9 Tryz.results25 rfl (Z5 rfl)
  | cons x14 l13=>
   unfold Zcd at h
   refine SR<|Ac (Zh rfl rfl (vt rfl) (vk rfl)) rfl<|Nl<|sq<|Cn rfl (fun hc=>?_) (fun hc=>absurd (hsf2.consn (by simp)) (of_decide_eq_false hc))
   have hlti12:=of_decide_eq_true hc
   refine sk<|sq<|bk<|SR<|Md rfl<|Ac (Z7n rfl rfl Y1z ty4 (vt rfl) (vt rfl) hsf2.lget) rfl<|As rfl<|As rfl<|Nl<|SR<|Md rfl<|Ac (Z1s rfl rfl (vt rfl) (vk rfl)) rfl<|Md rfl<|Gd rfl (fun hq=>Zk (A:=rd Z3 x14) rfl rfl (vt rfl))<|Ac (Z0h rfl rfl (vt rfl) (vt rfl)) rfl<|Nl<|Cq rfl h (fun h=>?_) (fun h=>?_)
   ·obtain ⟨l15,hl15,h⟩:=Z6 h
    refine Rg<|Mw rfl<|Md rfl<|Ac (osl Z15 zr3 rfl (vt rfl)) rfl<|Cv rfl (Z1f 1001 hl15 rfl rfl Z74 (vt rfl) rfl (vt rfl)) fun v16=>Aw rfl<|Nl<|Rg<|Ac (Z43 rfl rfl (vt rfl) (vk rfl) rfl hlti12) rfl<|Md rfl<|Nl ?_
    exact ⟨(_,_,_,_),Nat.lt_succ_self _,⟨hsf2.next,h⟩,FX rfl⟩
   ·refine sk<|Rg<|Ac (Z43 rfl rfl (vt rfl) (vk rfl) rfl hlti12) rfl<|Md rfl<|Nl ?_
    exact ⟨(_,_,_,_),Nat.lt_succ_self _,⟨hsf2.next,h⟩,FX rfl⟩
 | cons x17 l7=>
  unfold Zb0 at h
  refine SR<|Ac (Zh rfl rfl (vt rfl) (vt rfl)) rfl<|Nl<|sq<|Cn rfl (fun hc=>?_) (fun hc=>absurd hsf1.cons (of_decide_eq_false hc))
  have hlti6:=of_decide_eq_true hc
  refine sk<|sq<|bk<|SR<|Ac (Z0d rfl rfl Z1n (vt rfl) (vt rfl) hsf1.lget) rfl<|Lp1 Z1m rfl<|Cv rfl (Zo 6 rfl rfl Z3a) fun g18=>Ze Z1m 6 rfl<|Nl<|SR<|Zf lGroup_2 Z4o rfl<|Ld Z3u 6 rfl<|Ac (Z07 rfl rfl Z2y (vt rfl)) rfl<|Mk rfl<|Nl<|bk<|LG (d:=[]) (ν:=(List Bucket)×Nat×Zev) (fun (l22,i21,b20)=>(Sfx x17.Buckets i21 l22∧Zg3 (Zb0 l7) i6 l22 i21 b20=some r,l22.length,[(3,Za g2 (Lens.id (Z4 7 Z3))),(12,rd (Z1 Zt) x3),(13,rd (Z0 .i64) (x3.length:Int)),(14,rd (Z0 .i64) (i6:Int)),(19,rd (Z1 Z16) x17.Buckets),(20,rd (Z0 .i64) (x17.Buckets.length:Int)),(21,rd (Z0 .i64) (i21:Int))],[(4,Zd g2 144 (Z4 7 Z3) b20)])) (x17.Buckets,0,b5) ⟨Sfx.start _,h⟩ (FX rfl) ?_
  rintro ⟨l22,i21,b20⟩ ⟨hsf3,h⟩
  dsimp only at hsf3 h ⊢
  cases l22 with
  | nil=>
   unfold Zg3 at h
   refine SR<|Ac (Zh rfl rfl (vt rfl) (vt rfl)) rfl<|Nl<|sq<|Cn rfl (fun hc=>absurd (of_decide_eq_true hc) hsf3.nil) (fun hc=>?_)
   refine xt<|Rg<|Ac (Z0a (t:=13) rfl rfl (vt rfl) (vk rfl) (vt rfl) hlti6) rfl<|Md rfl<|Nl ?_
   exact ⟨(_,_,_),Nat.lt_succ_self _,⟨hsf1.next,h⟩,FX rfl⟩
  | cons x23 l22=>
   unfold Zg3 at h
   refine SR<|Ac (Zh rfl rfl (vt rfl) (vt rfl)) rfl<|Nl<|sq<|Cn rfl (fun hc=>?_) (fun hc=>absurd hsf3.cons (of_decide_eq_false hc))
   have hlti21:=of_decide_eq_true hc
   refine sk<|sq<|bk<|SR<|Ac (Z0d rfl rfl Z2y (vt rfl) (vt rfl) hsf3.lget) rfl<|Lp1 Z76 rfl<|Cv rfl (Zo 8 rfl rfl Z8i) fun g24=>Ze Z76 8 rfl<|Nl ?_
   obtain ⟨q25,hq25,j26,hj26,h⟩:=bs2 h
   refine Rg<|Zf lBucket_1 Zfm rfl<|Ld Zc 8 rfl<|Ac (Zmp rfl rfl (vt rfl) (vk rfl)) rfl<|Ac (Za2 rfl rfl (vt rfl) (vk rfl)) rfl<|Ac (Zjh rfl rfl (vt rfl) (vk rfl) hq25) rfl<|Ac (Z2o rfl rfl Y1z (vt rfl) (vt rfl) hj26) rfl<|Ac (Z3s rfl rfl ty4 (vt rfl) (i:=4) rfl vb) rfl<|Nl<|Rg<|Ac (Z0a (t:=20) rfl rfl (vt rfl) (vk rfl) (vt rfl) hlti21) rfl<|Md rfl<|Nl ?_
   exact ⟨(_,_,_),Nat.lt_succ_self _,⟨hsf3.next,h⟩,FX rfl⟩
def Zi1:Nat→Int→Int→Option Int
 | 0,_,_=>none
 | m7+1,a5,b6=>(bif (decide (b6>0)) then (Z9f a5 b6).bind fun q8=>(Zi1 m7) b6 q8 else some a5)
def Zux (a1:Int)(b2:Int):Option Int:=
 Zi1 (((b2:Int) - 0).toNat+1) a1 b2
theorem Ykg:Q2 Tryz.prog 51 (rd (Z0 .i64)) (rd (Z0 .i64)) (rd (Z0 .i64)) Zux:=fun a1 b2 r h=>I0 Tryz.func51 rfl Tryz.ntmps51 rfl fun w H Z=>by
 unfold Zux at h
 refine SR<|Ak rfl<|Nl<|sq<|bk<|LG (d:=[]) (ν:=Nat×Int×Int) (fun (m7,a5,b6)=>(True∧Zi1 m7 a5 b6=some r,m7,[(0,rd (Z0 .i64) a5),(1,rd (Z0 .i64) b6)],[])) ((((b2:Int) - 0).toNat+1),a1,b2) ⟨trivial,h⟩ (FX rfl) ?_
 rintro ⟨m7,a5,b6⟩ ⟨hsf1,h⟩
 dsimp only at h ⊢
 cases m7 with
 | zero=>cases h
 | succ m7=>
  unfold Zi1 at h
  refine sq<|SR<|Md rfl<|Ac (Z1s rfl rfl (vt rfl) (vk rfl)) rfl<|Nl<|Cq rfl h (fun h=>?_) (fun h=>?_)
  ·refine sk<|bk ?_
   obtain ⟨q8,hq8,h⟩:=Z6 h
   refine AR Z03 (by kernel_rfl)<|SMd rfl<|SMd rfl<|SMd rfl<|Sd (lo [8,9] [] rfl fun S hs hr=>Zjh rfl rfl (vh hs 8 rfl rfl) (vh hs 9 rfl rfl) hq8)<|SAs rfl<|SAs rfl<|Sn ?_
   exact ⟨(_,_,_),Nat.lt_succ_self _,⟨trivial,h⟩,FX rfl⟩
  ·refine xt<|SR<|Md rfl<|As rfl<|Nl<|rt ?_
   cases h;exact Z9 Tryz.results51 rfl (Z5 rfl)
def Zb4:(List Group)→Nat→Int→Option Int
 | [],i5,n4=>some n4
 | x7::l6,i5,n4=>(bif ((decide ((x7.Buckets.length:Int)≥1))&&(decide ((x7.Buckets.length:Int)≤4))) then (Zux n4 (x7.Buckets.length:Int)).bind fun x9=>(Zek .i64 n4 x9).bind fun q10=>(Zb4 l6) (i5+1) (IntKind.i64.wrap (q10*(x7.Buckets.length:Int))) else (Zb4 l6) (i5+1) n4)
def Ztp (l1:(List Group)):Option Int:=
 (Zj0 l1 1).bind fun x2=>Zb4 x2 0 1
theorem Y54:Q1 Tryz.prog 26 (rd (Z1 Zt)) (rd (Z0 .i64)) Ztp:=fun l1 r h=>I0 Tryz.func26 rfl Tryz.ntmps26 rfl fun w H Z=>by
 unfold Ztp at h
 refine SR<|Ak rfl<|Nl<|SR<|Ak rfl<|Nl<|sq<|sq ?_
 obtain ⟨x2,hx2,h⟩:=Z6 h
 refine Rg<|Md rfl<|Ac (Zz (xs:=[.tmp 7,.const (Value.int IntKind.i64 1)]) (Y1g _ _ _ hx2) e50 rfl rfl ⟨vt rfl,vk rfl,trivial⟩) rfl<|Ac (Z07 rfl rfl Z1n (vt rfl)) rfl<|Mk rfl<|Nl<|bk<|LG (d:=[]) (ν:=(List Group)×Nat×Int) (fun (l6,i5,n4)=>(Sfx x2 i5 l6∧Zb4 l6 i5 n4=some r,l6.length,[(3,rd (Z0 .i64) n4),(8,rd (Z1 Zt) x2),(9,rd (Z0 .i64) (x2.length:Int)),(10,rd (Z0 .i64) (i5:Int))],[])) (x2,0,1) ⟨Sfx.start _,h⟩ (FX rfl) ?_
 rintro ⟨l6,i5,n4⟩ ⟨hsf1,h⟩
 dsimp only at hsf1 h ⊢
 cases l6 with
 | nil=>
  unfold Zb4 at h
  refine SR<|Ac (Zh rfl rfl (vt rfl) (vt rfl)) rfl<|Nl<|sq<|Cn rfl (fun hc=>absurd (of_decide_eq_true hc) hsf1.nil) (fun hc=>?_)
  refine xt<|SR<|Md rfl<|As rfl<|Nl<|rt ?_
  cases h;exact Z9 Tryz.results26 rfl (Z5 rfl)
 | cons x7 l6=>
  unfold Zb4 at h
  refine SR<|Ac (Zh rfl rfl (vt rfl) (vt rfl)) rfl<|Nl<|sq<|Cn rfl (fun hc=>?_) (fun hc=>absurd hsf1.cons (of_decide_eq_false hc))
  have hlti5:=of_decide_eq_true hc
  refine sk<|sq<|bk<|SR<|Ac (Z0d rfl rfl Z1n (vt rfl) (vt rfl) hsf1.lget) rfl<|Lp1 Z1m rfl<|Cv rfl (Zo 6 rfl rfl Z3a) fun g8=>Ze Z1m 6 rfl<|Nl<|SR<|Zf lGroup_2 Z4o rfl<|Ld Z3u 6 rfl<|Ac (Z07 rfl rfl Z2y (vt rfl)) rfl<|As rfl<|Nl<|SR<|Md rfl<|Ac (Z1z rfl rfl (vt rfl) (vk rfl)) rfl<|Md rfl<|Gd rfl (fun hq=>Zk (A:=rd (Z0 .i64) (x7.Buckets.length:Int)) rfl rfl (vt rfl))<|Gd rfl (fun hq=>Z50 rfl rfl (Z8 rfl hq) (vk rfl))<|Ac (Z0h rfl rfl (vt rfl) (vt rfl)) rfl<|Nl<|Cq rfl h (fun h=>?_) (fun h=>?_)
  ·obtain ⟨x9,hx9,q10,hq10,h⟩:=bs2 h
   refine Rg<|Md rfl<|Md rfl<|Md rfl<|Cl [24,25] (Ykg _ _ _ hx9) e51 rfl<|Ac (Zxj rfl rfl (vt rfl) (vt rfl) hq10) rfl<|Md rfl<|Ac (Z5f rfl rfl (vt rfl) (vt rfl)) rfl<|As rfl<|Nl<|Rg<|Ac (Z0a (t:=9) rfl rfl (vt rfl) (vk rfl) (vt rfl) hlti5) rfl<|Md rfl<|Nl ?_
   exact ⟨(_,_,_),Nat.lt_succ_self _,⟨hsf1.next,h⟩,FX rfl⟩
  ·refine sk<|Rg<|Ac (Z0a (t:=9) rfl rfl (vt rfl) (vk rfl) (vt rfl) hlti5) rfl<|Md rfl<|Nl ?_
   exact ⟨(_,_,_),Nat.lt_succ_self _,⟨hsf1.next,h⟩,FX rfl⟩
def Zbc (n2:Int):(List Int)→Nat→(List Int)→Option (List Int)
 | [],i7,l5=>some l5
 | x9::l8,i7,l5=>(Zam .i64 n2 (i7:Int)).bind fun q10=>(bif (decide ((Z71 .and .i64 q10 1)=1)) then (Z11 l5 [x9]).bind fun l11=>(Zbc n2 l8) (i7+1) l11 else (Zbc n2 l8) (i7+1) l5)
def Zut (p1:(List Int))(n2:Int):Option (List Int):=
 Zbc n2 p1 0 []
theorem Y9h:Q2 Tryz.prog 27 (rd (Z1 (Z0 .i64))) (rd (Z0 .i64)) (rd (Z1 (Z0 .i64))) Zut:=fun p1 n2 r h=>I0 Tryz.func27 rfl Tryz.ntmps27 rfl fun w H Z=>by
 unfold Zut at h
 refine SR<|Ac (Zn (A:=rd (Z1 (Z0 .i64)) []) rfl rfl Z04) rfl<|Nl<|sq<|AW.newnil 1001 3 (Z0 .i64)<|Rg<|Ac (Zn rfl rfl vc) rfl<|Nl<|sq<|SR<|Md rfl<|Ac (Z07 rfl rfl Z15 (vt rfl)) rfl<|Mk rfl<|Nl<|bk<|LG (d:=[]) (ν:=(List Int)×Nat×(List Int)×Value) (fun (l8,i7,l5,v6)=>(Sfx p1 i7 l8∧Zbc n2 l8 i7 l5=some r,l8.length,[(1,rd (Z0 .i64) n2),(5,Zg v6),(8,rd (Z1 (Z0 .i64)) p1),(9,rd (Z0 .i64) (p1.length:Int)),(10,rd (Z0 .i64) (i7:Int))],[(1001,Zi v6 3 (Z0 .i64) l5)])) (p1,0,[],(.slice none 0 0)) ⟨Sfx.start _,h⟩ (FX rfl) ?_
 rintro ⟨l8,i7,l5,v6⟩ ⟨hsf1,h⟩
 dsimp only at hsf1 h ⊢
 cases l8 with
 | nil=>
  unfold Zbc at h
  refine SR<|Ac (Zh rfl rfl (vt rfl) (vt rfl)) rfl<|Nl<|sq<|Cn rfl (fun hc=>absurd (of_decide_eq_true hc) hsf1.nil) (fun hc=>?_)
  refine xt<|SR<|Mw rfl<|Aw rfl<|Nl<|AW.freezes [4,5,25] 1001 rfl ⟨rfl,rfl,rfl,trivial⟩ rfl<|rt ?_
  cases h;exact Z9 Tryz.results27 rfl (Z5 rfl)
 | cons x9 l8=>
  unfold Zbc at h
  refine SR<|Ac (Zh rfl rfl (vt rfl) (vt rfl)) rfl<|Nl<|sq<|Cn rfl (fun hc=>?_) (fun hc=>absurd hsf1.cons (of_decide_eq_false hc))
  have hlti7:=of_decide_eq_true hc
  refine sk<|sq<|bk<|SR<|Md rfl<|Ac (Z0d rfl rfl Z15 (vt rfl) (vt rfl) hsf1.lget) rfl<|Lp1 Zc rfl<|As rfl<|As rfl<|Nl<|sq ?_
  obtain ⟨q10,hq10,h⟩:=Z6 h
  refine Rg<|Md rfl<|Md rfl<|Ac (Zlr rfl rfl (vt rfl) (vt rfl) hq10) rfl<|Ac (Ztk rfl rfl (vt rfl) (vk rfl)) rfl<|Ac (Zy rfl rfl (vt rfl) (vk rfl)) rfl<|Nl<|Cq rfl h (fun h=>?_) (fun h=>?_)
  ·obtain ⟨l11,hl11,h⟩:=Z6 h
   refine Rg<|Mw rfl<|Md rfl<|Ac (osl Z15 zr3 rfl (vt rfl)) rfl<|Cv rfl (Z1f 1001 hl11 rfl rfl Z74 (vt rfl) rfl (vt rfl)) fun v12=>Aw rfl<|Nl<|Rg<|Ac (Z0a (t:=9) rfl rfl (vt rfl) (vk rfl) (vt rfl) hlti7) rfl<|Md rfl<|Nl ?_
   exact ⟨(_,_,_,_),Nat.lt_succ_self _,⟨hsf1.next,h⟩,FX rfl⟩
  ·refine sk<|Rg<|Ac (Z0a (t:=9) rfl rfl (vt rfl) (vk rfl) (vt rfl) hlti7) rfl<|Md rfl<|Nl ?_
   exact ⟨(_,_,_,_),Nat.lt_succ_self _,⟨hsf1.next,h⟩,FX rfl⟩
def Ze6 (sg:Type)(go1:Nat→(Lp sg)→Option (Lp sg))(i8:Nat)(x4:(List Int))(y1:(sg→Env→Option (Lp sg))):Nat→Nat→(Lp sg)→Option (Lp sg)
 | 0,i13,s12=>go1 (i8+1) s12
 | m14+1,i13,s12=>(Zut x4 (i13:Int)).bind fun x15=>(yc y1 s12 (⟨(i8:Int),x15⟩:Env)).bind fun s16=>(bif (!(Lp.isGo s16)) then some s16 else (Ze6 sg go1 i8 x4 y1 m14) (i13+1) s16)
def Zcn (sg:Type)(x4:(List Int))(y1:(sg→Env→Option (Lp sg))):Nat→Nat→(Lp sg)→Option (Lp sg)
 | 0,i8,s7=>some s7
 | m9+1,i8,s7=>(Zfw .i64 1 (x4.length:Int)).bind fun q10=>Ze6 sg (Zcn sg x4 y1 m9) i8 x4 y1 (q10:Int).toNat 0 s7
def Zdn (sg:Type)(y1:(sg→Env→Option (Lp sg)))(s2:(Lp sg))(x3:(List Group)):Option (Lp sg):=
 (Zpu x3).bind fun x4=>(Ztp x3).bind fun x5=>Zcn sg x4 y1 (x5:Int).toNat 0 s2
theorem Yks (sg:Type)(y1:(sg→Env→Option (Lp sg)))(L:Lp sg→Res)(s2:(Lp sg))(x3:(List Group))(r:(Lp sg))(h:Zdn sg y1 s2 x3=some r):Con Tryz.prog 24 [ydA Tryz.prog Z1a y1 L,rp (Z1 Zt) x3] (L s2) (fun _:Unit=>top) (fun _=>L r):=by
 refine Con.intro Tryz.func24 rfl Tryz.ntmps24 rfl fun w H X Z=>?_
 unfold Zdn at h
 refine AW.scope<|sq ?_
 obtain ⟨x4,hx4,h⟩:=Z6 h
 refine Rg<|Lp1 Z3r rfl<|Cl [6] (Yax _ _ hx4) e25 rfl<|As rfl<|Nl<|sq<|AW.label<|sq ?_
 obtain ⟨x5,hx5,h⟩:=Z6 h
 refine Rg<|Lp1 Z3r rfl<|Cl [8] (Y54 _ _ hx5) e26 rfl<|Mk rfl<|Nl<|bk<|LG (d:=[]) (ν:=Nat×Nat×(Lp sg)) (fun (m9,i8,s7)=>(Cnt x5 i8 m9∧Zcn sg x4 y1 m9 i8 s7=some r,m9,[(0,ydA Tryz.prog Z1a y1 L),(3,rd (Z1 (Z0 .i64)) x4),(9,rd (Z0 .i64) x5),(10,rd (Z0 .i64) (i8:Int))],[(0,L s7)])) ((x5:Int).toNat,0,s2) ⟨Cnt.start _,h⟩ (FX rfl) ?_
 rintro ⟨m9,i8,s7⟩ ⟨hsf1,h⟩
 dsimp only at hsf1 h ⊢
 cases m9 with
 | zero=>
  unfold Zcn at h
  refine SR<|Ac (Zh rfl rfl (vt rfl) (vt rfl)) rfl<|Nl<|sq<|Cn rfl (fun hc=>absurd (of_decide_eq_true hc) hsf1.zero) (fun hc=>?_)
  refine xt ?_
  cases h;exact Z21 (i:=0) Tryz.results24 rfl rfl
 | succ m9=>
  unfold Zcn at h
  refine SR<|Ac (Zh rfl rfl (vt rfl) (vt rfl)) rfl<|Nl<|sq<|Cn rfl (fun hc=>?_) (fun hc=>absurd hsf1.succ (of_decide_eq_false hc))
  have hlti8:=of_decide_eq_true hc
  refine sk<|sq<|bk<|SR<|Md rfl<|As rfl<|Nl<|sq ?_
  obtain ⟨q10,hq10,h⟩:=Z6 h
  refine Rg<|Md rfl<|Ac (Z07 rfl rfl Z15 (vt rfl)) rfl<|Ac (Zz7 rfl rfl (vk rfl) (vt rfl) hq10) rfl<|Mk rfl<|Nl<|bk<|LG (d:=[]) (ν:=Nat×Nat×(Lp sg)) (fun (m14,i13,s12)=>(Cnt q10 i13 m14∧Ze6 sg (Zcn sg x4 y1 m9) i8 x4 y1 m14 i13 s12=some r,m14,[(0,ydA Tryz.prog Z1a y1 L),(3,rd (Z1 (Z0 .i64)) x4),(4,rd (Z0 .i64) (i8:Int)),(9,rd (Z0 .i64) x5),(10,rd (Z0 .i64) (i8:Int)),(15,rd (Z0 .i64) q10),(16,rd (Z0 .i64) (i13:Int))],[(0,L s12)])) ((q10:Int).toNat,0,s7) ⟨Cnt.start _,h⟩ (FX rfl) ?_
  rintro ⟨m14,i13,s12⟩ ⟨hsf2,h⟩
  dsimp only at hsf2 h ⊢
  cases m14 with
  | zero=>
   unfold Ze6 at h
   refine SR<|Ac (Zh rfl rfl (vt rfl) (vt rfl)) rfl<|Nl<|sq<|Cn rfl (fun hc=>absurd (of_decide_eq_true hc) hsf2.zero) (fun hc=>?_)
   refine xt<|Rg<|Ac (Z0a (t:=9) rfl rfl (vt rfl) (vk rfl) (vt rfl) hlti8) rfl<|Md rfl<|Nl ?_
   exact ⟨(_,_,_),Nat.lt_succ_self _,⟨hsf1.next,h⟩,FX rfl⟩
  | succ m14=>
   unfold Ze6 at h
   refine SR<|Ac (Zh rfl rfl (vt rfl) (vt rfl)) rfl<|Nl<|sq<|Cn rfl (fun hc=>?_) (fun hc=>absurd hsf2.succ (of_decide_eq_false hc))
   have hlti13:=of_decide_eq_true hc
   refine sk<|sq<|bk<|SR<|Md rfl<|As rfl<|Nl<|sq ?_
   obtain ⟨x15,hx15,s16,hs16,h⟩:=bs2 h
   refine Rg<|Ac (Zk (A:=ydA Tryz.prog Z1a y1 L) rfl rfl (vt rfl)) rfl<|Md rfl<|Md rfl<|Md rfl<|Cl [21,22] (Y9h _ _ _ hx15) e27 rfl<|Ac (opb (⟨(i8:Int),x15⟩:Env) Y3l rfl Ya2 (pc Yjw (vt rfl)<|pc Yc9 (vt rfl)<|pn rfl)) rfl<|Ac (Zbd 0 hs16 rfl rfl (vt rfl) (vt rfl) rfl) rfl<|Ac (Z0g rfl rfl (vt rfl)) rfl<|Nl<|Cq rfl h (fun h=>?_) (fun h=>?_)
   ·refine xt ?_
    cases h;exact Z21 (i:=0) Tryz.results24 rfl rfl
   ·refine sk<|Rg<|Ac (Z0a (t:=15) rfl rfl (vt rfl) (vk rfl) (vt rfl) hlti13) rfl<|Md rfl<|Nl ?_
    exact ⟨(_,_,_),Nat.lt_succ_self _,⟨hsf2.next,h⟩,FX rfl⟩
def Zq7 (l1:(List Group)):Option (Itr Env):=
 some (Itr.mk fun σ y s=>Zdn σ y s l1)
theorem Y61:Q1 Tryz.prog 15 (rd (Z1 Zt)) (Z2s Tryz.prog Z1a) Zq7:=fun l1 r h=>I0 Tryz.func15 rfl Tryz.ntmps15 rfl fun w H Z=>by
 unfold Zq7 at h
 refine SR<|Cv rfl (Zm 2 rfl rfl (vt rfl)) fun g2=>Ac (Zn (A:=Zg .nilFunc) rfl rfl vc) rfl<|Nl<|sq<|AW.freezeB 1 2 rfl rfl rfl<|Rg<|Ac (Zhu (Itr.mk fun σ y s=>Zdn σ y s l1) (cs:=[.tmp 1]) (CAs:=[rp (Z1 Zt) l1]) rfl rfl e24 ⟨vt rfl,trivial⟩ (fun σ y L s r h=>Yks σ y L s l1 r h)) rfl<|Ac (Zn (A:=Z2s Tryz.prog Z1a (Itr.mk fun σ y s=>Zdn σ y s l1)) rfl rfl (vt rfl)) rfl<|Nl<|rt ?_
 cases h;exact Z9 Tryz.results15 rfl (Z5 rfl)
def Zfi:Option Zs:=
 some (Vector.replicate 24 Z1h)
theorem Zqd:Q0 Tryz.prog 32 (rd (Z4 24 Z7)) Zfi:=fun r h=>I0 Tryz.func32 rfl Tryz.ntmps32 rfl fun w H Z=>by
 unfold Zfi at h
 refine SR<|Cv rfl (Zo 1 rfl rfl Z60) fun g1=>Nl<|SR<|Ac (Z23 (ps:=[]) (x:=(Vector.replicate 24 Z1h)) rfl rfl rfl (by kernel_rfl) Z60 rfl) rfl<|Ze Z0s 1 rfl<|Nl<|rt ?_
 cases h;exact Z9 Tryz.results32 rfl (Zv rfl (i:=1) rfl Z0s)
def Zml (i1:Int)(j2:Int)(x3:(List Flow)):Option Int:=
 (lget x3 i1).bind fun x4=>(lget x3 j2).bind fun x5=>(bif (decide (x4.Priority>x5.Priority)) then some (-1) else (lget x3 i1).bind fun x6=>(lget x3 j2).bind fun x7=>(bif (decide (x6.Priority<x7.Priority)) then some 1 else some 0))
theorem Y9o:Q3 Tryz.prog 265 (rd (Z0 .i64)) (rd (Z0 .i64)) (rp (Z1 Zp)) (rd (Z0 .i64)) Zml:=fun i1 j2 x3 r h=>I0 Tryz.func265 rfl Tryz.ntmps265 rfl fun w H Z=>by
 unfold Zml at h
 refine SR<|Ak rfl<|Nl<|sq<|bk<|sq ?_
 obtain ⟨x4,hx4,x5,hx5,h⟩:=bs2 h
 refine AR Z03 (by kernel_rfl)<|SLp Z2n rfl<|SMd rfl<|Sd (lo [7,8] [] rfl fun S hs hr=>Z0d rfl rfl Z25 (vh hs 7 rfl rfl) (vh hs 8 rfl rfl) hx4)<|SFp lFlow_1 Z6t rfl<|SLp Zc rfl<|SLp Z2n rfl<|SMd rfl<|Sd (lo [12,13] [] rfl fun S hs hr=>Z0d rfl rfl Z25 (vh hs 12 rfl rfl) (vh hs 13 rfl rfl) hx5)<|SFp lFlow_1 Z6t rfl<|SLp Zc rfl<|Sd (lo [11,16] [] rfl fun S hs hr=>Z1s rfl rfl (vh hs 11 rfl rfl) (vh hs 16 rfl rfl))<|SAs rfl<|Sn<|Cq rfl h (fun h=>?_) (fun h=>?_)
 ·refine SR<|Ak rfl<|Nl<|rt ?_
  cases h;exact Z9 Tryz.results265 rfl (Z5 rfl)
 ·refine sq ?_
  obtain ⟨x6,hx6,x7,hx7,h⟩:=bs2 h
  refine AR Z03 (by kernel_rfl)<|SLp Z2n rfl<|SMd rfl<|Sd (lo [19,20] [] rfl fun S hs hr=>Z0d rfl rfl Z25 (vh hs 19 rfl rfl) (vh hs 20 rfl rfl) hx6)<|SFp lFlow_1 Z6t rfl<|SLp Zc rfl<|SLp Z2n rfl<|SMd rfl<|Sd (lo [24,25] [] rfl fun S hs hr=>Z0d rfl rfl Z25 (vh hs 24 rfl rfl) (vh hs 25 rfl rfl) hx7)<|SFp lFlow_1 Z6t rfl<|SLp Zc rfl<|Sd (lo [23,28] [] rfl fun S hs hr=>Zh rfl rfl (vh hs 23 rfl rfl) (vh hs 28 rfl rfl))<|SAs rfl<|Sn<|Cq rfl h (fun h=>?_) (fun h=>?_)
  ·refine SR<|Ak rfl<|Nl<|rt ?_
   cases h;exact Z9 Tryz.results265 rfl (Z5 rfl)
  ·refine sk<|SR<|Ak rfl<|Nl<|rt ?_
   cases h;exact Z9 Tryz.results265 rfl (Z5 rfl)
def Zlg (a3:Int)(x5:(Int→Int→Option Int))(go1:(List Int)→Int→Option (List Int))(i9:Int):Nat→(List Int)→Int→Option (List Int)
 | 0,_,_=>none
 | m15+1,l13,j14=>(opt (decide (j14>a3)) (lget l13 j14)).bind fun x16=>(opt (decide (j14>a3)) (lget l13 (IntKind.i64.wrap (j14 - 1)))).bind fun x17=>(opt (decide (j14>a3)) (x5 x16 x17)).bind fun x18=>(bif ((decide (j14>a3))&&(decide (x18<0))) then (lget l13 (IntKind.i64.wrap (j14 - 1))).bind fun x19=>(lget l13 j14).bind fun x20=>(lget l13 j14).bind fun x21=>(lget (List.set l13 j14.toNat x19) (IntKind.i64.wrap (j14 - 1))).bind fun x22=>(Zlg a3 x5 go1 i9 m15) (List.set (List.set l13 j14.toNat x19) (IntKind.i64.wrap (j14 - 1)).toNat x20) (IntKind.i64.wrap (j14 - 1)) else go1 l13 (IntKind.i64.wrap (i9+1)))
def Zet (b4:Int)(a3:Int)(x5:(Int→Int→Option Int)):Nat→(List Int)→Int→Option (List Int)
 | 0,_,_=>none
 | m10+1,l8,i9=>(bif (decide (i9<b4)) then Zlg a3 x5 (Zet b4 a3 x5 m10) i9 Z2p l8 i9 else some l8)
def Zjy (d1:(List Int))(a3:Int)(b4:Int)(x5:(Int→Int→Option Int)):Option (List Int):=
 Zet b4 a3 x5 (((b4:Int) - (IntKind.i64.wrap (a3+1))).toNat+1) d1 (IntKind.i64.wrap (a3+1))
theorem Zvk (v2:Value)(d1:(List Int))(a3:Int)(b4:Int)(x5:(Int→Int→Option Int))(r:(List Int))(h:Zjy d1 a3 b4 x5=some r):Con Tryz.prog 298 [Zg v2,rd (Z0 .i64) a3,rd (Z0 .i64) b4,fn2 Tryz.prog (Z0 .i64) (Z0 .i64) (Z0 .i64) x5] (Zi v2 3 (Z0 .i64) d1) (fun _:Unit=>top) (fun _=>Zi v2 3 (Z0 .i64) r):=by
 refine Con.intro Tryz.func298 rfl Tryz.ntmps298 rfl fun w H X Z=>?_
 unfold Zjy at h
 refine SR<|Md rfl<|Ac (Z0o rfl rfl (vt rfl) (vk rfl)) rfl<|As rfl<|Nl<|bk<|LG (d:=[]) (ν:=Nat×(List Int)×Int) (fun (m10,l8,i9)=>(True∧Zet b4 a3 x5 m10 l8 i9=some r,m10,[(0,Zg v2),(1,rd (Z0 .i64) a3),(2,rd (Z0 .i64) b4),(3,fn2 Tryz.prog (Z0 .i64) (Z0 .i64) (Z0 .i64) x5),(8,rd (Z0 .i64) i9)],[(0,Zi v2 3 (Z0 .i64) l8)])) ((((b4:Int) - (IntKind.i64.wrap (a3+1))).toNat+1),d1,(IntKind.i64.wrap (a3+1))) ⟨trivial,h⟩ (FX rfl) ?_
 rintro ⟨m10,l8,i9⟩ ⟨hsf1,h⟩
 dsimp only at h ⊢
 cases m10 with
 | zero=>cases h
 | succ m10=>
  unfold Zet at h
  refine sq<|SR<|Md rfl<|Md rfl<|Ac (Zh rfl rfl (vt rfl) (vt rfl)) rfl<|Nl<|Cq rfl h (fun h=>?_) (fun h=>?_)
  ·refine sk<|sq<|bk<|SR<|Md rfl<|As rfl<|Nl<|bk<|LG (d:=[]) (ν:=Nat×(List Int)×Int) (fun (m15,l13,j14)=>(True∧Zlg a3 x5 (Zet b4 a3 x5 m10) i9 m15 l13 j14=some r,m15,[(0,Zg v2),(1,rd (Z0 .i64) a3),(2,rd (Z0 .i64) b4),(3,fn2 Tryz.prog (Z0 .i64) (Z0 .i64) (Z0 .i64) x5),(8,rd (Z0 .i64) i9),(9,rd (Z0 .i64) j14)],[(0,Zi v2 3 (Z0 .i64) l13)])) (Z2p,l8,i9) ⟨trivial,h⟩ (FX rfl) ?_
   rintro ⟨m15,l13,j14⟩ ⟨hsf2,h⟩
   dsimp only at h ⊢
   cases m15 with
   | zero=>cases h
   | succ m15=>
    unfold Zlg at h
    refine sq<|sq ?_
    obtain ⟨x16,hx16,x17,hx17,x18,hx18,h⟩:=bs3 h
    refine AR Z03 (by kernel_rfl)<|SMd rfl<|SMd rfl<|Sd (lo [18,19] [] rfl fun S hs hr=>Z1s rfl rfl (vh hs 18 rfl rfl) (vh hs 19 rfl rfl))<|SMd rfl<|Sd (lg [3,21] [] rfl fun hq S hs hr=>Zk (A:=fn2 Tryz.prog (Z0 .i64) (Z0 .i64) (Z0 .i64) x5) rfl rfl (vh hs 3 rfl rfl))<|Sd (lg [0,21] [] rfl fun hq S hs hr=>Zk (A:=Zg v2) rfl rfl (vh hs 0 rfl rfl))<|Sd (lg [9,21] [] rfl fun hq S hs hr=>Zk (A:=rd (Z0 .i64) j14) rfl rfl (vh hs 9 rfl rfl))<|Sd (lg [23,24,21] [0] rfl fun hq S hs hr=>Z1w 0 rfl rfl Z15 (Z8 ((hs 23 rfl).trans rfl) hq) ((hr 0 rfl).trans rfl) (Z8 ((hs 24 rfl).trans rfl) hq) (Z1p hx16 hq))<|Sd (lg [25,21] [0] rfl fun hq S hs hr=>Z1l 0 rfl rfl Zc (Z8 ((hs 25 rfl).trans rfl) hq) ((hr 0 rfl).trans rfl) (Z0l (Z1p hx16 hq)).2)<|Sd (lg [0,21] [] rfl fun hq S hs hr=>Zk (A:=Zg v2) rfl rfl (vh hs 0 rfl rfl))<|Sd (lg [9,21] [] rfl fun hq S hs hr=>Zk (A:=rd (Z0 .i64) j14) rfl rfl (vh hs 9 rfl rfl))<|Sd (lg [28,21] [] rfl fun hq S hs hr=>Z14 rfl rfl (Z8 ((hs 28 rfl).trans rfl) hq) (vk rfl))<|Sd (lg [27,29,21] [0] rfl fun hq S hs hr=>Z1w 0 rfl rfl Z15 (Z8 ((hs 27 rfl).trans rfl) hq) ((hr 0 rfl).trans rfl) (Z8 ((hs 29 rfl).trans rfl) hq) (Z1p hx17 hq))<|Sd (lg [30,21] [0] rfl fun hq S hs hr=>Z1l 0 rfl rfl Zc (Z8 ((hs 30 rfl).trans rfl) hq) ((hr 0 rfl).trans rfl) (Z0l (Z1p hx17 hq)).2)<|Sd (lg [22,26,31,21] [] rfl fun hq S hs hr=>Z7w (Z1p hx18 hq) rfl rfl (Z8 ((hs 22 rfl).trans rfl) hq) (Z8 ((hs 26 rfl).trans rfl) hq) (Z8 ((hs 31 rfl).trans rfl) hq))<|Sd (lg [32,21] [] rfl fun hq S hs hr=>Zh rfl rfl (Z8 ((hs 32 rfl).trans rfl) hq) (vk rfl))<|Sd (lo [33,21] [] rfl fun S hs hr=>Z0h rfl rfl (vh hs 21 rfl rfl) (vh hs 33 rfl rfl))<|Sn<|Cq rfl h (fun h=>?_) (fun h=>?_)
    ·refine sk<|sq<|bk<|AW.vlen 0 rfl fun hvl0_266=>?_
     obtain ⟨x19,hx19,x20,hx20,x21,hx21,x22,hx22,h⟩:=bs4 h
     refine AR Z03 (by kernel_rfl)<|SMw rfl<|SMd rfl<|SMw rfl<|SMd rfl<|Sd (lo [40] [] rfl fun S hs hr=>Z14 rfl rfl (vh hs 40 rfl rfl) (vk rfl))<|SMw rfl<|SMd rfl<|Sd (lo [43] [] rfl fun S hs hr=>Z14 rfl rfl (vh hs 43 rfl rfl) (vk rfl))<|Sd (lo [42,44] [] rfl fun S hs hr=>Z24 (l:=l13) hvl0_266 rfl rfl rfl Z15 (vh hs 42 rfl rfl) (vh hs 44 rfl rfl) hx19)<|Sd (lo [45] [0] rfl fun S hs hr=>Z1l 0 rfl rfl Zc (vh hs 45 rfl rfl) ((hr 0 rfl).trans rfl) (Z0l hx19).2)<|SMw rfl<|SMd rfl<|Sd (lo [47,48] [] rfl fun S hs hr=>Z24 (l:=l13) hvl0_266 rfl rfl rfl Z15 (vh hs 47 rfl rfl) (vh hs 48 rfl rfl) hx20)<|Sd (lo [49] [0] rfl fun S hs hr=>Z1l 0 rfl rfl Zc (vh hs 49 rfl rfl) ((hr 0 rfl).trans rfl) (Z0l hx20).2)<|Sd (lo [37,38] [] rfl fun S hs hr=>Z24 (l:=l13) hvl0_266 rfl rfl rfl Z15 (vh hs 37 rfl rfl) (vh hs 38 rfl rfl) hx21)<|Sd (Z3d [51,46] [0] rfl fun S hs hr=>Z2b 0 rfl rfl Zc (vh hs 51 rfl rfl) ((hr 0 rfl).trans rfl) (Z0l hx21).2 (vh hs 46 rfl rfl))<|Sd (lo [39,41] [] rfl fun S hs hr=>Z24 (l:=(List.set l13 j14.toNat x19)) hvl0_266 (by simp) rfl rfl Z15 (vh hs 39 rfl rfl) (vh hs 41 rfl rfl) hx22)<|Sd (Z3d [52,50] [0] rfl fun S hs hr=>Z2b 0 rfl rfl Zc (vh hs 52 rfl rfl) ((hr 0 rfl).trans rfl) (Z0l hx22).2 (vh hs 50 rfl rfl))<|Sn<|Rg<|Md rfl<|Ac (Z14 rfl rfl (vt rfl) (vk rfl)) rfl<|As rfl<|Nl ?_
     exact ⟨(_,_,_),Nat.lt_succ_self _,⟨trivial,h⟩,FX rfl⟩
    ·refine xt<|Rg<|Md rfl<|Ac (Z0o rfl rfl (vt rfl) (vk rfl)) rfl<|As rfl<|Nl ?_
     exact ⟨(_,_,_),Nat.lt_succ_self _,⟨trivial,h⟩,FX rfl⟩
  ·refine xt ?_
   cases h;exact Z21 (i:=0) Tryz.results298 rfl rfl
end Go.Proofs.YtjppkmpecdbepaaGreatDoor.W
set_option maxHeartbeats 1000000
set_option maxRecDepth 4000
namespace Go.Proofs.YtjppkmpecdbepaaGreatDoor.W
open Go Go.Wb
theorem Zpw:Ent Tryz.prog 306:=Ent.mk Tryz.func306 rfl rfl
theorem Zmi:Ent Tryz.prog 299:=Ent.mk Tryz.func299 rfl rfl
theorem Y5v:Ent Tryz.prog 303:=Ent.mk Tryz.func303 rfl rfl
theorem Zwo:Ent Tryz.prog 298:=Ent.mk Tryz.func298 rfl rfl
theorem Y52:Ent Tryz.prog 287:=Ent.mk Tryz.func287 rfl rfl
theorem Yb5:Ent Tryz.prog 265:=Ent.mk Tryz.func265 rfl rfl
theorem Yan:Ent Tryz.prog 264:=Ent.mk Tryz.func264 rfl rfl
theorem Yl8:Ent Tryz.prog 151:=Ent.mk Tryz.func151 rfl rfl
theorem Ygq:Ent Tryz.prog 150:=Ent.mk Tryz.func150 rfl rfl
def Zj7 (n5:Int)(b4:Int)(a3:Int):Nat→(List Int)→Int→Option (List Int)
 | 0,_,_=>none
 | m11+1,l9,i10=>(bif (decide (i10<n5)) then (lget l9 (IntKind.i64.wrap (b4+i10))).bind fun x12=>(lget l9 (IntKind.i64.wrap (a3+i10))).bind fun x13=>(lget l9 (IntKind.i64.wrap (a3+i10))).bind fun x14=>(lget (List.set l9 (IntKind.i64.wrap (a3+i10)).toNat x12) (IntKind.i64.wrap (b4+i10))).bind fun x15=>(Zj7 n5 b4 a3 m11) (List.set (List.set l9 (IntKind.i64.wrap (a3+i10)).toNat x12) (IntKind.i64.wrap (b4+i10)).toNat x13) (IntKind.i64.wrap (i10+1)) else some l9)
def Zdv (d1:(List Int))(a3:Int)(b4:Int)(n5:Int)(x6:(Int→Int→Option Int)):Option (List Int):=
 Zj7 n5 b4 a3 (((n5:Int) - 0).toNat+1) d1 0
theorem Zrj (v2:Value)(d1:(List Int))(a3:Int)(b4:Int)(n5:Int)(x6:(Int→Int→Option Int))(r:(List Int))(h:Zdv d1 a3 b4 n5 x6=some r):Con Tryz.prog 306 [Zg v2,rd (Z0 .i64) a3,rd (Z0 .i64) b4,rd (Z0 .i64) n5,fn2 Tryz.prog (Z0 .i64) (Z0 .i64) (Z0 .i64) x6] (Zi v2 3 (Z0 .i64) d1) (fun _:Unit=>top) (fun _=>Zi v2 3 (Z0 .i64) r):=by
 refine Con.intro Tryz.func306 rfl Tryz.ntmps306 rfl fun w H X Z=>?_
 unfold Zdv at h
 refine SR<|Ak rfl<|Nl<|bk<|LG (d:=[]) (ν:=Nat×(List Int)×Int) (fun (m11,l9,i10)=>(True∧Zj7 n5 b4 a3 m11 l9 i10=some r,m11,[(0,Zg v2),(1,rd (Z0 .i64) a3),(2,rd (Z0 .i64) b4),(3,rd (Z0 .i64) n5),(10,rd (Z0 .i64) i10)],[(0,Zi v2 3 (Z0 .i64) l9)])) ((((n5:Int) - 0).toNat+1),d1,0) ⟨trivial,h⟩ (FX rfl) ?_
 rintro ⟨m11,l9,i10⟩ ⟨hsf1,h⟩
 dsimp only at h ⊢
 cases m11 with
 | zero=>cases h
 | succ m11=>
  unfold Zj7 at h
  refine sq<|SR<|Md rfl<|Md rfl<|Ac (Zh rfl rfl (vt rfl) (vt rfl)) rfl<|Nl<|Cq rfl h (fun h=>?_) (fun h=>?_)
  ·refine sk<|sq<|bk<|AW.vlen 0 rfl fun hvl0_123=>?_
   obtain ⟨x12,hx12,x13,hx13,x14,hx14,x15,hx15,h⟩:=bs4 h
   refine AR Z03 (by kernel_rfl)<|SMw rfl<|SMd rfl<|SMd rfl<|Sd (lo [17,18] [] rfl fun S hs hr=>Z0o rfl rfl (vh hs 17 rfl rfl) (vh hs 18 rfl rfl))<|SMw rfl<|SMd rfl<|SMd rfl<|Sd (lo [21,22] [] rfl fun S hs hr=>Z0o rfl rfl (vh hs 21 rfl rfl) (vh hs 22 rfl rfl))<|SMw rfl<|SMd rfl<|SMd rfl<|Sd (lo [25,26] [] rfl fun S hs hr=>Z0o rfl rfl (vh hs 25 rfl rfl) (vh hs 26 rfl rfl))<|Sd (lo [24,27] [] rfl fun S hs hr=>Z24 (l:=l9) hvl0_123 rfl rfl rfl Z15 (vh hs 24 rfl rfl) (vh hs 27 rfl rfl) hx12)<|Sd (lo [28] [0] rfl fun S hs hr=>Z1l 0 rfl rfl Zc (vh hs 28 rfl rfl) ((hr 0 rfl).trans rfl) (Z0l hx12).2)<|SMw rfl<|SMd rfl<|SMd rfl<|Sd (lo [31,32] [] rfl fun S hs hr=>Z0o rfl rfl (vh hs 31 rfl rfl) (vh hs 32 rfl rfl))<|Sd (lo [30,33] [] rfl fun S hs hr=>Z24 (l:=l9) hvl0_123 rfl rfl rfl Z15 (vh hs 30 rfl rfl) (vh hs 33 rfl rfl) hx13)<|Sd (lo [34] [0] rfl fun S hs hr=>Z1l 0 rfl rfl Zc (vh hs 34 rfl rfl) ((hr 0 rfl).trans rfl) (Z0l hx13).2)<|Sd (lo [16,19] [] rfl fun S hs hr=>Z24 (l:=l9) hvl0_123 rfl rfl rfl Z15 (vh hs 16 rfl rfl) (vh hs 19 rfl rfl) hx14)<|Sd (Z3d [36,29] [0] rfl fun S hs hr=>Z2b 0 rfl rfl Zc (vh hs 36 rfl rfl) ((hr 0 rfl).trans rfl) (Z0l hx14).2 (vh hs 29 rfl rfl))<|Sd (lo [20,23] [] rfl fun S hs hr=>Z24 (l:=(List.set l9 (IntKind.i64.wrap (a3+i10)).toNat x12)) hvl0_123 (by simp) rfl rfl Z15 (vh hs 20 rfl rfl) (vh hs 23 rfl rfl) hx15)<|Sd (Z3d [37,35] [0] rfl fun S hs hr=>Z2b 0 rfl rfl Zc (vh hs 37 rfl rfl) ((hr 0 rfl).trans rfl) (Z0l hx15).2 (vh hs 35 rfl rfl))<|Sn<|Rg<|Md rfl<|Ac (Z0o rfl rfl (vt rfl) (vk rfl)) rfl<|As rfl<|Nl ?_
   exact ⟨(_,_,_),Nat.lt_succ_self _,⟨trivial,h⟩,FX rfl⟩
  ·refine xt ?_
   cases h;exact Z21 (i:=0) Tryz.results306 rfl rfl
def Zgi (m4:Int)(x6:(Int→Int→Option Int)):Nat→(List Int)→Int→Int→Option (List Int)
 | 0,_,_,_=>none
 | m13+1,l10,i11,j12=>(bif (decide (i11≠j12)) then (bif (decide (i11>j12)) then (Zdv l10 (IntKind.i64.wrap (m4 - i11)) m4 j12 x6).bind fun l14=>(Zgi m4 x6 m13) l14 (IntKind.i64.wrap (i11 - j12)) j12 else (Zdv l10 (IntKind.i64.wrap (m4 - i11)) (IntKind.i64.wrap ((IntKind.i64.wrap (m4+j12)) - i11)) i11 x6).bind fun l15=>(Zgi m4 x6 m13) l15 i11 (IntKind.i64.wrap (j12 - i11))) else (Zdv l10 (IntKind.i64.wrap (m4 - i11)) m4 i11 x6).bind fun l16=>some l16)
def Zv6 (d1:(List Int))(a3:Int)(m4:Int)(b5:Int)(x6:(Int→Int→Option Int)):Option (List Int):=
 Zgi m4 x6 Z2p d1 (IntKind.i64.wrap (m4 - a3)) (IntKind.i64.wrap (b5 - m4))
theorem Y6g (v2:Value)(d1:(List Int))(a3:Int)(m4:Int)(b5:Int)(x6:(Int→Int→Option Int))(r:(List Int))(h:Zv6 d1 a3 m4 b5 x6=some r):Con Tryz.prog 303 [Zg v2,rd (Z0 .i64) a3,rd (Z0 .i64) m4,rd (Z0 .i64) b5,fn2 Tryz.prog (Z0 .i64) (Z0 .i64) (Z0 .i64) x6] (Zi v2 3 (Z0 .i64) d1) (fun _:Unit=>top) (fun _=>Zi v2 3 (Z0 .i64) r):=by
 refine Con.intro Tryz.func303 rfl Tryz.ntmps303 rfl fun w H X Z=>?_
 unfold Zv6 at h
 refine SR<|Md rfl<|Md rfl<|Ac (Z14 rfl rfl (vt rfl) (vt rfl)) rfl<|As rfl<|Nl<|SR<|Md rfl<|Md rfl<|Ac (Z14 rfl rfl (vt rfl) (vt rfl)) rfl<|As rfl<|Nl<|sq<|bk<|LG (d:=[]) (ν:=Nat×(List Int)×Int×Int) (fun (m13,l10,i11,j12)=>(True∧Zgi m4 x6 m13 l10 i11 j12=some r,m13,[(0,Zg v2),(2,rd (Z0 .i64) m4),(4,fn2 Tryz.prog (Z0 .i64) (Z0 .i64) (Z0 .i64) x6),(10,rd (Z0 .i64) i11),(11,rd (Z0 .i64) j12)],[(0,Zi v2 3 (Z0 .i64) l10)])) (Z2p,d1,(IntKind.i64.wrap (m4 - a3)),(IntKind.i64.wrap (b5 - m4))) ⟨trivial,h⟩ (FX rfl) ?_
 rintro ⟨m13,l10,i11,j12⟩ ⟨hsf1,h⟩
 dsimp only at h ⊢
 cases m13 with
 | zero=>cases h
 | succ m13=>
  unfold Zgi at h
  refine sq<|SR<|Md rfl<|Md rfl<|Ac (Z2j rfl rfl (vt rfl) (vt rfl)) rfl<|Nl<|Cq rfl h (fun h=>?_) (fun h=>?_)
  ·refine sk<|bk<|SR<|Md rfl<|Md rfl<|Ac (Z1s rfl rfl (vt rfl) (vt rfl)) rfl<|Nl<|Cq rfl h (fun h=>?_) (fun h=>?_)
   ·refine sq ?_
    obtain ⟨l14,hl14,h⟩:=Z6 h
    refine Rg<|Mw rfl<|Md rfl<|Md rfl<|Ac (Z14 rfl rfl (vt rfl) (vt rfl)) rfl<|Md rfl<|Md rfl<|Ac (Zk (A:=fn2 Tryz.prog (Z0 .i64) (Z0 .i64) (Z0 .i64) x6) rfl rfl (vt rfl)) rfl<|Cv rfl (Z0y 0 (xs:=[.tmp 24,.tmp 27,.tmp 28,.tmp 29,.tmp 30]) (Zrj _ _ _ _ _ _ _ hl14) Zpw rfl rfl ⟨vt rfl,vt rfl,vt rfl,vt rfl,vt rfl,trivial⟩ rfl) fun _u=>Nl<|Rg<|Md rfl<|Md rfl<|Ac (Z14 rfl rfl (vt rfl) (vt rfl)) rfl<|As rfl<|Nl ?_
    exact ⟨(_,_,_,_),Nat.lt_succ_self _,⟨trivial,h⟩,FX rfl⟩
   ·refine sq ?_
    obtain ⟨l15,hl15,h⟩:=Z6 h
    refine Rg<|Mw rfl<|Md rfl<|Md rfl<|Ac (Z14 rfl rfl (vt rfl) (vt rfl)) rfl<|Md rfl<|Md rfl<|Ac (Z0o rfl rfl (vt rfl) (vt rfl)) rfl<|Md rfl<|Ac (Z14 rfl rfl (vt rfl) (vt rfl)) rfl<|Md rfl<|Ac (Zk (A:=fn2 Tryz.prog (Z0 .i64) (Z0 .i64) (Z0 .i64) x6) rfl rfl (vt rfl)) rfl<|Cv rfl (Z0y 0 (xs:=[.tmp 35,.tmp 38,.tmp 43,.tmp 44,.tmp 45]) (Zrj _ _ _ _ _ _ _ hl15) Zpw rfl rfl ⟨vt rfl,vt rfl,vt rfl,vt rfl,vt rfl,trivial⟩ rfl) fun _u=>Nl<|Rg<|Md rfl<|Md rfl<|Ac (Z14 rfl rfl (vt rfl) (vt rfl)) rfl<|As rfl<|Nl ?_
    exact ⟨(_,_,_,_),Nat.lt_succ_self _,⟨trivial,h⟩,FX rfl⟩
  ·refine xt ?_
   obtain ⟨l16,hl16,h⟩:=Z6 h
   refine Rg<|Mw rfl<|Md rfl<|Md rfl<|Ac (Z14 rfl rfl (vt rfl) (vt rfl)) rfl<|Md rfl<|Md rfl<|Ac (Zk (A:=fn2 Tryz.prog (Z0 .i64) (Z0 .i64) (Z0 .i64) x6) rfl rfl (vt rfl)) rfl<|Cv rfl (Z0y 0 (xs:=[.tmp 50,.tmp 53,.tmp 54,.tmp 55,.tmp 56]) (Zrj _ _ _ _ _ _ _ hl16) Zpw rfl rfl ⟨vt rfl,vt rfl,vt rfl,vt rfl,vt rfl,trivial⟩ rfl) fun _u=>Nl ?_
   cases h;exact Z21 (i:=0) Tryz.results303 rfl rfl
def Zhv (i9:Int):Nat→(List Int)→Int→Option (List Int)
 | 0,_,_=>none
 | m20+1,l18,k19=>(bif (decide (k19<(IntKind.i64.wrap (i9 - 1)))) then (lget l18 (IntKind.i64.wrap (k19+1))).bind fun x21=>(lget l18 k19).bind fun x22=>(lget l18 k19).bind fun x23=>(lget (List.set l18 k19.toNat x21) (IntKind.i64.wrap (k19+1))).bind fun x24=>(Zhv i9 m20) (List.set (List.set l18 k19.toNat x21) (IntKind.i64.wrap (k19+1)).toNat x22) (IntKind.i64.wrap (k19+1)) else some l18)
def Ze2 (d1:(List Int))(a3:Int)(x6:(Int→Int→Option Int)):Nat→Int→Int→Option (List Int)
 | 0,_,_=>none
 | m11+1,i9,j10=>(bif (decide (i9<j10)) then (Z3o (BitVec.ofInt 64 (IntKind.i64.wrap (i9+j10))) ((1:BitVec 64).toNat:Int)).bind fun q12=>(lget d1 (IntKind.i64.wrap (q12.toNat:Int))).bind fun x13=>(lget d1 a3).bind fun x14=>(x6 x13 x14).bind fun x15=>(bif (decide (x15<0)) then (Ze2 d1 a3 x6 m11) (IntKind.i64.wrap ((IntKind.i64.wrap (q12.toNat:Int))+1)) j10 else (Ze2 d1 a3 x6 m11) i9 (IntKind.i64.wrap (q12.toNat:Int))) else Zhv i9 ((((IntKind.i64.wrap (i9 - 1)):Int) - a3).toNat+1) d1 a3)
def Zm9 (i27:Int):Nat→(List Int)→Int→Option (List Int)
 | 0,_,_=>none
 | m38+1,l36,k37=>(bif (decide (k37>i27)) then (lget l36 (IntKind.i64.wrap (k37 - 1))).bind fun x39=>(lget l36 k37).bind fun x40=>(lget l36 k37).bind fun x41=>(lget (List.set l36 k37.toNat x39) (IntKind.i64.wrap (k37 - 1))).bind fun x42=>(Zm9 i27 m38) (List.set (List.set l36 k37.toNat x39) (IntKind.i64.wrap (k37 - 1)).toNat x40) (IntKind.i64.wrap (k37 - 1)) else some l36)
def Zg9 (d1:(List Int))(m4:Int)(x6:(Int→Int→Option Int)):Nat→Int→Int→Option (List Int)
 | 0,_,_=>none
 | m29+1,i27,j28=>(bif (decide (i27<j28)) then (Z3o (BitVec.ofInt 64 (IntKind.i64.wrap (i27+j28))) ((1:BitVec 64).toNat:Int)).bind fun q30=>(lget d1 m4).bind fun x31=>(lget d1 (IntKind.i64.wrap (q30.toNat:Int))).bind fun x32=>(x6 x31 x32).bind fun x33=>(bif (!(decide (x33<0))) then (Zg9 d1 m4 x6 m29) (IntKind.i64.wrap ((IntKind.i64.wrap (q30.toNat:Int))+1)) j28 else (Zg9 d1 m4 x6 m29) i27 (IntKind.i64.wrap (q30.toNat:Int))) else Zm9 i27 (((m4:Int) - i27).toNat+1) d1 m4)
def Zmj (q43:(BitVec 64))(m4:Int)(s48:Int)(b5:Int)(R_slices_symMergeCmpFunc_int:((List Int)→Int→Int→Int→(Int→Int→Option Int)→Option (List Int)))(x6:(Int→Int→Option Int))(l56:(List Int)):Option (List Int):=
 (bif ((decide ((IntKind.i64.wrap (q43.toNat:Int))<(IntKind.i64.wrap ((IntKind.i64.wrap ((IntKind.i64.wrap (q43.toNat:Int))+m4)) - s48))))&&(decide ((IntKind.i64.wrap ((IntKind.i64.wrap ((IntKind.i64.wrap (q43.toNat:Int))+m4)) - s48))<b5))) then (R_slices_symMergeCmpFunc_int l56 (IntKind.i64.wrap (q43.toNat:Int)) (IntKind.i64.wrap ((IntKind.i64.wrap ((IntKind.i64.wrap (q43.toNat:Int))+m4)) - s48)) b5 x6).bind fun l57=>some l57 else some l56)
def Zkr (a3:Int)(s48:Int)(q43:(BitVec 64))(R_slices_symMergeCmpFunc_int:((List Int)→Int→Int→Int→(Int→Int→Option Int)→Option (List Int)))(x6:(Int→Int→Option Int))(m4:Int)(b5:Int)(l55:(List Int)):Option (List Int):=
 (bif ((decide (a3<s48))&&(decide (s48<(IntKind.i64.wrap (q43.toNat:Int))))) then (R_slices_symMergeCmpFunc_int l55 a3 s48 (IntKind.i64.wrap (q43.toNat:Int)) x6).bind fun l58=>Zmj q43 m4 s48 b5 R_slices_symMergeCmpFunc_int x6 l58 else Zmj q43 m4 s48 b5 R_slices_symMergeCmpFunc_int x6 l55)
def Zda (d1:(List Int))(q43:(BitVec 64))(m4:Int)(x6:(Int→Int→Option Int))(a3:Int)(R_slices_symMergeCmpFunc_int:((List Int)→Int→Int→Int→(Int→Int→Option Int)→Option (List Int)))(b5:Int):Nat→Int→Int→Option (List Int)
 | 0,_,_=>none
 | m50+1,s48,x49=>(bif (decide (s48<x49)) then (Z3o (BitVec.ofInt 64 (IntKind.i64.wrap (s48+x49))) ((1:BitVec 64).toNat:Int)).bind fun q51=>(lget d1 (IntKind.i64.wrap ((IntKind.i64.wrap ((IntKind.i64.wrap ((IntKind.i64.wrap (q43.toNat:Int))+m4)) - 1)) - (IntKind.i64.wrap (q51.toNat:Int))))).bind fun x52=>(lget d1 (IntKind.i64.wrap (q51.toNat:Int))).bind fun x53=>(x6 x52 x53).bind fun x54=>(bif (!(decide (x54<0))) then (Zda d1 q43 m4 x6 a3 R_slices_symMergeCmpFunc_int b5 m50) (IntKind.i64.wrap ((IntKind.i64.wrap (q51.toNat:Int))+1)) x49 else (Zda d1 q43 m4 x6 a3 R_slices_symMergeCmpFunc_int b5 m50) s48 (IntKind.i64.wrap (q51.toNat:Int))) else (bif ((decide (s48<m4))&&(decide (m4<(IntKind.i64.wrap ((IntKind.i64.wrap ((IntKind.i64.wrap (q43.toNat:Int))+m4)) - s48))))) then (Zv6 d1 s48 m4 (IntKind.i64.wrap ((IntKind.i64.wrap ((IntKind.i64.wrap (q43.toNat:Int))+m4)) - s48)) x6).bind fun l59=>Zkr a3 s48 q43 R_slices_symMergeCmpFunc_int x6 m4 b5 l59 else Zkr a3 s48 q43 R_slices_symMergeCmpFunc_int x6 m4 b5 d1))
def Zms (d1:(List Int))(q43:(BitVec 64))(m4:Int)(x6:(Int→Int→Option Int))(a3:Int)(R_slices_symMergeCmpFunc_int:((List Int)→Int→Int→Int→(Int→Int→Option Int)→Option (List Int)))(b5:Int)(s44:Int)(x45:Int):Option (List Int):=
 Zda d1 q43 m4 x6 a3 R_slices_symMergeCmpFunc_int b5 (((x45:Int) - s44).toNat+1) s44 x45
def Zon (R_slices_symMergeCmpFunc_int:((List Int)→Int→Int→Int→(Int→Int→Option Int)→Option (List Int)))(d1:(List Int))(a3:Int)(m4:Int)(b5:Int)(x6:(Int→Int→Option Int)):Option (List Int):=
 (bif (decide ((IntKind.i64.wrap (m4 - a3))=1)) then Ze2 d1 a3 x6 (((b5:Int) - m4).toNat+1) m4 b5 else (bif (decide ((IntKind.i64.wrap (b5 - m4))=1)) then Zg9 d1 m4 x6 (((m4:Int) - a3).toNat+1) a3 m4 else (Z3o (BitVec.ofInt 64 (IntKind.i64.wrap (a3+b5))) ((1:BitVec 64).toNat:Int)).bind fun q43=>(bif (decide (m4>(IntKind.i64.wrap (q43.toNat:Int)))) then Zms d1 q43 m4 x6 a3 R_slices_symMergeCmpFunc_int b5 (IntKind.i64.wrap ((IntKind.i64.wrap ((IntKind.i64.wrap (q43.toNat:Int))+m4)) - b5)) (IntKind.i64.wrap (q43.toNat:Int)) else Zms d1 q43 m4 x6 a3 R_slices_symMergeCmpFunc_int b5 a3 m4)))
theorem Y8f (R_slices_symMergeCmpFunc_int:((List Int)→Int→Int→Int→(Int→Int→Option Int)→Option (List Int)))(hR_slices_symMergeCmpFunc_int:∀(v2:Value) (d1:(List Int)) (a3:Int) (m4:Int) (b5:Int) (x6:(Int→Int→Option Int)) (r:(List Int)),R_slices_symMergeCmpFunc_int d1 a3 m4 b5 x6=some r→Con Tryz.prog 299 [Zg v2,rd (Z0 .i64) a3,rd (Z0 .i64) m4,rd (Z0 .i64) b5,fn2 Tryz.prog (Z0 .i64) (Z0 .i64) (Z0 .i64) x6] (Zi v2 3 (Z0 .i64) d1) (fun _:Unit=>top) (fun _=>Zi v2 3 (Z0 .i64) r))(v2:Value)(d1:(List Int))(a3:Int)(m4:Int)(b5:Int)(x6:(Int→Int→Option Int))(r:(List Int))(h:Zon R_slices_symMergeCmpFunc_int d1 a3 m4 b5 x6=some r):Con Tryz.prog 299 [Zg v2,rd (Z0 .i64) a3,rd (Z0 .i64) m4,rd (Z0 .i64) b5,fn2 Tryz.prog (Z0 .i64) (Z0 .i64) (Z0 .i64) x6] (Zi v2 3 (Z0 .i64) d1) (fun _:Unit=>top) (fun _=>Zi v2 3 (Z0 .i64) r):=by
 refine Con.intro Tryz.func299 rfl Tryz.ntmps299 rfl fun w H X Z=>?_
 unfold Zon at h
 refine sq<|SR<|Md rfl<|Md rfl<|Ac (Z14 rfl rfl (vt rfl) (vt rfl)) rfl<|Ac (Zy rfl rfl (vt rfl) (vk rfl)) rfl<|Nl<|Cq rfl h (fun h=>?_) (fun h=>?_)
 ·refine SR<|Md rfl<|As rfl<|Nl<|SR<|Md rfl<|As rfl<|Nl<|sq<|bk<|LG (d:=[]) (ν:=Nat×Int×Int) (fun (m11,i9,j10)=>(True∧Ze2 d1 a3 x6 m11 i9 j10=some r,m11,[(0,Zg v2),(1,rd (Z0 .i64) a3),(4,fn2 Tryz.prog (Z0 .i64) (Z0 .i64) (Z0 .i64) x6),(10,rd (Z0 .i64) i9),(11,rd (Z0 .i64) j10)],[(0,Zi v2 3 (Z0 .i64) d1)])) ((((b5:Int) - m4).toNat+1),m4,b5) ⟨trivial,h⟩ (FX rfl) ?_
  rintro ⟨m11,i9,j10⟩ ⟨hsf1,h⟩
  dsimp only at h ⊢
  cases m11 with
  | zero=>cases h
  | succ m11=>
   unfold Ze2 at h
   refine sq<|SR<|Md rfl<|Md rfl<|Ac (Zh rfl rfl (vt rfl) (vt rfl)) rfl<|Nl<|Cq rfl h (fun h=>?_) (fun h=>?_)
   ·refine sk<|bk<|sq ?_
    obtain ⟨q12,hq12,h⟩:=Z6 h
    refine Rg<|Md rfl<|Md rfl<|Ac (Z0o rfl rfl (vt rfl) (vt rfl)) rfl<|Ac (Z6z rfl rfl us3 Z86 (vt rfl)) rfl<|Ac (Z4k rfl rfl (vt rfl) (Z4h (vku (1:BitVec 64) rfl)) hq12) rfl<|Ac (Z6h rfl rfl Z84 un3 (vt rfl)) rfl<|As rfl<|Nl<|sq ?_
    obtain ⟨x13,hx13,x14,hx14,x15,hx15,h⟩:=bs3 h
    refine AR Z03 (by kernel_rfl)<|Sd (lo [4] [] rfl fun S hs hr=>Zk (A:=fn2 Tryz.prog (Z0 .i64) (Z0 .i64) (Z0 .i64) x6) rfl rfl (vh hs 4 rfl rfl))<|SMw rfl<|SMd rfl<|Sd (lo [41,42] [0] rfl fun S hs hr=>Z1w 0 rfl rfl Z15 (vh hs 41 rfl rfl) ((hr 0 rfl).trans rfl) (vh hs 42 rfl rfl) hx13)<|Sd (lo [43] [0] rfl fun S hs hr=>Z1l 0 rfl rfl Zc (vh hs 43 rfl rfl) ((hr 0 rfl).trans rfl) (Z0l hx13).2)<|SMw rfl<|SMd rfl<|Sd (lo [45,46] [0] rfl fun S hs hr=>Z1w 0 rfl rfl Z15 (vh hs 45 rfl rfl) ((hr 0 rfl).trans rfl) (vh hs 46 rfl rfl) hx14)<|Sd (lo [47] [0] rfl fun S hs hr=>Z1l 0 rfl rfl Zc (vh hs 47 rfl rfl) ((hr 0 rfl).trans rfl) (Z0l hx14).2)<|Sd (lo [40,44,48] [] rfl fun S hs hr=>Z7w hx15 rfl rfl (vh hs 40 rfl rfl) (vh hs 44 rfl rfl) (vh hs 48 rfl rfl))<|Sd (lo [49] [] rfl fun S hs hr=>Zh rfl rfl (vh hs 49 rfl rfl) (vk rfl))<|Sn<|Cq rfl h (fun h=>?_) (fun h=>?_)
    ·refine Rg<|Md rfl<|Ac (Z0o rfl rfl (vt rfl) (vk rfl)) rfl<|As rfl<|Nl ?_
     exact ⟨(_,_,_),Nat.lt_succ_self _,⟨trivial,h⟩,FX rfl⟩
    ·refine Rg<|Md rfl<|As rfl<|Nl ?_
     exact ⟨(_,_,_),Nat.lt_succ_self _,⟨trivial,h⟩,FX rfl⟩
   ·refine xt<|sq<|SR<|Md rfl<|As rfl<|Nl<|bk<|LG (d:=[]) (ν:=Nat×(List Int)×Int) (fun (m20,l18,k19)=>(True∧Zhv i9 m20 l18 k19=some r,m20,[(0,Zg v2),(10,rd (Z0 .i64) i9),(13,rd (Z0 .i64) k19)],[(0,Zi v2 3 (Z0 .i64) l18)])) (((((IntKind.i64.wrap (i9 - 1)):Int) - a3).toNat+1),d1,a3) ⟨trivial,h⟩ (FX rfl) ?_
    rintro ⟨m20,l18,k19⟩ ⟨hsf2,h⟩
    dsimp only at h ⊢
    cases m20 with
    | zero=>cases h
    | succ m20=>
     unfold Zhv at h
     refine sq<|SR<|Md rfl<|Md rfl<|Ac (Z14 rfl rfl (vt rfl) (vk rfl)) rfl<|Ac (Zh rfl rfl (vt rfl) (vt rfl)) rfl<|Nl<|Cq rfl h (fun h=>?_) (fun h=>?_)
     ·refine sk<|sq<|bk<|AW.vlen 0 rfl fun hvl0_205=>?_
      obtain ⟨x21,hx21,x22,hx22,x23,hx23,x24,hx24,h⟩:=bs4 h
      refine AR Z03 (by kernel_rfl)<|SMw rfl<|SMd rfl<|SMw rfl<|SMd rfl<|Sd (lo [64] [] rfl fun S hs hr=>Z0o rfl rfl (vh hs 64 rfl rfl) (vk rfl))<|SMw rfl<|SMd rfl<|Sd (lo [67] [] rfl fun S hs hr=>Z0o rfl rfl (vh hs 67 rfl rfl) (vk rfl))<|Sd (lo [66,68] [] rfl fun S hs hr=>Z24 (l:=l18) hvl0_205 rfl rfl rfl Z15 (vh hs 66 rfl rfl) (vh hs 68 rfl rfl) hx21)<|Sd (lo [69] [0] rfl fun S hs hr=>Z1l 0 rfl rfl Zc (vh hs 69 rfl rfl) ((hr 0 rfl).trans rfl) (Z0l hx21).2)<|SMw rfl<|SMd rfl<|Sd (lo [71,72] [] rfl fun S hs hr=>Z24 (l:=l18) hvl0_205 rfl rfl rfl Z15 (vh hs 71 rfl rfl) (vh hs 72 rfl rfl) hx22)<|Sd (lo [73] [0] rfl fun S hs hr=>Z1l 0 rfl rfl Zc (vh hs 73 rfl rfl) ((hr 0 rfl).trans rfl) (Z0l hx22).2)<|Sd (lo [61,62] [] rfl fun S hs hr=>Z24 (l:=l18) hvl0_205 rfl rfl rfl Z15 (vh hs 61 rfl rfl) (vh hs 62 rfl rfl) hx23)<|Sd (Z3d [75,70] [0] rfl fun S hs hr=>Z2b 0 rfl rfl Zc (vh hs 75 rfl rfl) ((hr 0 rfl).trans rfl) (Z0l hx23).2 (vh hs 70 rfl rfl))<|Sd (lo [63,65] [] rfl fun S hs hr=>Z24 (l:=(List.set l18 k19.toNat x21)) hvl0_205 (by simp) rfl rfl Z15 (vh hs 63 rfl rfl) (vh hs 65 rfl rfl) hx24)<|Sd (Z3d [76,74] [0] rfl fun S hs hr=>Z2b 0 rfl rfl Zc (vh hs 76 rfl rfl) ((hr 0 rfl).trans rfl) (Z0l hx24).2 (vh hs 74 rfl rfl))<|Sn<|Rg<|Md rfl<|Ac (Z0o rfl rfl (vt rfl) (vk rfl)) rfl<|As rfl<|Nl ?_
      exact ⟨(_,_,_),Nat.lt_succ_self _,⟨trivial,h⟩,FX rfl⟩
     ·refine xt<|rt ?_
      cases h;exact Z21 (i:=0) Tryz.results299 rfl rfl
 ·refine sk<|sq<|SR<|Md rfl<|Md rfl<|Ac (Z14 rfl rfl (vt rfl) (vt rfl)) rfl<|Ac (Zy rfl rfl (vt rfl) (vk rfl)) rfl<|Nl<|Cq rfl h (fun h=>?_) (fun h=>?_)
  ·refine SR<|Md rfl<|As rfl<|Nl<|SR<|Md rfl<|As rfl<|Nl<|sq<|bk<|LG (d:=[]) (ν:=Nat×Int×Int) (fun (m29,i27,j28)=>(True∧Zg9 d1 m4 x6 m29 i27 j28=some r,m29,[(0,Zg v2),(2,rd (Z0 .i64) m4),(4,fn2 Tryz.prog (Z0 .i64) (Z0 .i64) (Z0 .i64) x6),(14,rd (Z0 .i64) i27),(15,rd (Z0 .i64) j28)],[(0,Zi v2 3 (Z0 .i64) d1)])) ((((m4:Int) - a3).toNat+1),a3,m4) ⟨trivial,h⟩ (FX rfl) ?_
   rintro ⟨m29,i27,j28⟩ ⟨hsf3,h⟩
   dsimp only at h ⊢
   cases m29 with
   | zero=>cases h
   | succ m29=>
    unfold Zg9 at h
    refine sq<|SR<|Md rfl<|Md rfl<|Ac (Zh rfl rfl (vt rfl) (vt rfl)) rfl<|Nl<|Cq rfl h (fun h=>?_) (fun h=>?_)
    ·refine sk<|bk<|sq ?_
     obtain ⟨q30,hq30,h⟩:=Z6 h
     refine Rg<|Md rfl<|Md rfl<|Ac (Z0o rfl rfl (vt rfl) (vt rfl)) rfl<|Ac (Z6z rfl rfl us3 Z86 (vt rfl)) rfl<|Ac (Z4k rfl rfl (vt rfl) (Z4h (vku (1:BitVec 64) rfl)) hq30) rfl<|Ac (Z6h rfl rfl Z84 un3 (vt rfl)) rfl<|As rfl<|Nl<|sq ?_
     obtain ⟨x31,hx31,x32,hx32,x33,hx33,h⟩:=bs3 h
     refine AR Z03 (by kernel_rfl)<|Sd (lo [4] [] rfl fun S hs hr=>Zk (A:=fn2 Tryz.prog (Z0 .i64) (Z0 .i64) (Z0 .i64) x6) rfl rfl (vh hs 4 rfl rfl))<|SMw rfl<|SMd rfl<|Sd (lo [93,94] [0] rfl fun S hs hr=>Z1w 0 rfl rfl Z15 (vh hs 93 rfl rfl) ((hr 0 rfl).trans rfl) (vh hs 94 rfl rfl) hx31)<|Sd (lo [95] [0] rfl fun S hs hr=>Z1l 0 rfl rfl Zc (vh hs 95 rfl rfl) ((hr 0 rfl).trans rfl) (Z0l hx31).2)<|SMw rfl<|SMd rfl<|Sd (lo [97,98] [0] rfl fun S hs hr=>Z1w 0 rfl rfl Z15 (vh hs 97 rfl rfl) ((hr 0 rfl).trans rfl) (vh hs 98 rfl rfl) hx32)<|Sd (lo [99] [0] rfl fun S hs hr=>Z1l 0 rfl rfl Zc (vh hs 99 rfl rfl) ((hr 0 rfl).trans rfl) (Z0l hx32).2)<|Sd (lo [92,96,100] [] rfl fun S hs hr=>Z7w hx33 rfl rfl (vh hs 92 rfl rfl) (vh hs 96 rfl rfl) (vh hs 100 rfl rfl))<|Sd (lo [101] [] rfl fun S hs hr=>Zh rfl rfl (vh hs 101 rfl rfl) (vk rfl))<|Sd (lo [102] [] rfl fun S hs hr=>Z0g rfl rfl (vh hs 102 rfl rfl))<|Sn<|Cq rfl h (fun h=>?_) (fun h=>?_)
     ·refine Rg<|Md rfl<|Ac (Z0o rfl rfl (vt rfl) (vk rfl)) rfl<|As rfl<|Nl ?_
      exact ⟨(_,_,_),Nat.lt_succ_self _,⟨trivial,h⟩,FX rfl⟩
     ·refine Rg<|Md rfl<|As rfl<|Nl ?_
      exact ⟨(_,_,_),Nat.lt_succ_self _,⟨trivial,h⟩,FX rfl⟩
    ·refine xt<|sq<|SR<|Md rfl<|As rfl<|Nl<|bk<|LG (d:=[]) (ν:=Nat×(List Int)×Int) (fun (m38,l36,k37)=>(True∧Zm9 i27 m38 l36 k37=some r,m38,[(0,Zg v2),(14,rd (Z0 .i64) i27),(17,rd (Z0 .i64) k37)],[(0,Zi v2 3 (Z0 .i64) l36)])) ((((m4:Int) - i27).toNat+1),d1,m4) ⟨trivial,h⟩ (FX rfl) ?_
     rintro ⟨m38,l36,k37⟩ ⟨hsf4,h⟩
     dsimp only at h ⊢
     cases m38 with
     | zero=>cases h
     | succ m38=>
      unfold Zm9 at h
      refine sq<|SR<|Md rfl<|Md rfl<|Ac (Z1s rfl rfl (vt rfl) (vt rfl)) rfl<|Nl<|Cq rfl h (fun h=>?_) (fun h=>?_)
      ·refine sk<|sq<|bk<|AW.vlen 0 rfl fun hvl0_446=>?_
       obtain ⟨x39,hx39,x40,hx40,x41,hx41,x42,hx42,h⟩:=bs4 h
       refine AR Z03 (by kernel_rfl)<|SMw rfl<|SMd rfl<|SMw rfl<|SMd rfl<|Sd (lo [116] [] rfl fun S hs hr=>Z14 rfl rfl (vh hs 116 rfl rfl) (vk rfl))<|SMw rfl<|SMd rfl<|Sd (lo [119] [] rfl fun S hs hr=>Z14 rfl rfl (vh hs 119 rfl rfl) (vk rfl))<|Sd (lo [118,120] [] rfl fun S hs hr=>Z24 (l:=l36) hvl0_446 rfl rfl rfl Z15 (vh hs 118 rfl rfl) (vh hs 120 rfl rfl) hx39)<|Sd (lo [121] [0] rfl fun S hs hr=>Z1l 0 rfl rfl Zc (vh hs 121 rfl rfl) ((hr 0 rfl).trans rfl) (Z0l hx39).2)<|SMw rfl<|SMd rfl<|Sd (lo [123,124] [] rfl fun S hs hr=>Z24 (l:=l36) hvl0_446 rfl rfl rfl Z15 (vh hs 123 rfl rfl) (vh hs 124 rfl rfl) hx40)<|Sd (lo [125] [0] rfl fun S hs hr=>Z1l 0 rfl rfl Zc (vh hs 125 rfl rfl) ((hr 0 rfl).trans rfl) (Z0l hx40).2)<|Sd (lo [113,114] [] rfl fun S hs hr=>Z24 (l:=l36) hvl0_446 rfl rfl rfl Z15 (vh hs 113 rfl rfl) (vh hs 114 rfl rfl) hx41)<|Sd (Z3d [127,122] [0] rfl fun S hs hr=>Z2b 0 rfl rfl Zc (vh hs 127 rfl rfl) ((hr 0 rfl).trans rfl) (Z0l hx41).2 (vh hs 122 rfl rfl))<|Sd (lo [115,117] [] rfl fun S hs hr=>Z24 (l:=(List.set l36 k37.toNat x39)) hvl0_446 (by simp) rfl rfl Z15 (vh hs 115 rfl rfl) (vh hs 117 rfl rfl) hx42)<|Sd (Z3d [128,126] [0] rfl fun S hs hr=>Z2b 0 rfl rfl Zc (vh hs 128 rfl rfl) ((hr 0 rfl).trans rfl) (Z0l hx42).2 (vh hs 126 rfl rfl))<|Sn<|Rg<|Md rfl<|Ac (Z14 rfl rfl (vt rfl) (vk rfl)) rfl<|As rfl<|Nl ?_
       exact ⟨(_,_,_),Nat.lt_succ_self _,⟨trivial,h⟩,FX rfl⟩
      ·refine xt<|rt ?_
       cases h;exact Z21 (i:=0) Tryz.results299 rfl rfl
  ·refine sk<|sq ?_
   obtain ⟨q43,hq43,h⟩:=Z6 h
   refine Rg<|Md rfl<|Md rfl<|Ac (Z0o rfl rfl (vt rfl) (vt rfl)) rfl<|Ac (Z6z rfl rfl us3 Z86 (vt rfl)) rfl<|Ac (Z4k rfl rfl (vt rfl) (Z4h (vku (1:BitVec 64) rfl)) hq43) rfl<|Ac (Z6h rfl rfl Z84 un3 (vt rfl)) rfl<|As rfl<|Nl<|SR<|Md rfl<|Md rfl<|Ac (Z0o rfl rfl (vt rfl) (vt rfl)) rfl<|As rfl<|Nl<|SR<|Ak rfl<|Ak rfl<|Nl ?_
   refine JN (d:=[]) (ν:=Int×Int) (fun (s44,x45)=>(Zms d1 q43 m4 x6 a3 R_slices_symMergeCmpFunc_int b5 s44 x45=some r,[(0,Zg v2),(1,rd (Z0 .i64) a3),(2,rd (Z0 .i64) m4),(3,rd (Z0 .i64) b5),(4,fn2 Tryz.prog (Z0 .i64) (Z0 .i64) (Z0 .i64) x6),(18,rd (Z0 .i64) (IntKind.i64.wrap (q43.toNat:Int))),(19,rd (Z0 .i64) (IntKind.i64.wrap ((IntKind.i64.wrap (q43.toNat:Int))+m4))),(20,rd (Z0 .i64) s44),(21,rd (Z0 .i64) x45)],[(0,Zi v2 3 (Z0 .i64) d1)])) ?hx5 ?hy5
   case hy5=>
    rintro ⟨s44,x45⟩ h
    dsimp only at h ⊢
    unfold Zms at h
    refine SR<|Md rfl<|Ac (Z14 rfl rfl (vt rfl) (vk rfl)) rfl<|As rfl<|Nl<|sq<|bk<|LG (d:=[]) (ν:=Nat×Int×Int) (fun (m50,s48,x49)=>(True∧Zda d1 q43 m4 x6 a3 R_slices_symMergeCmpFunc_int b5 m50 s48 x49=some r,m50,[(0,Zg v2),(1,rd (Z0 .i64) a3),(2,rd (Z0 .i64) m4),(3,rd (Z0 .i64) b5),(4,fn2 Tryz.prog (Z0 .i64) (Z0 .i64) (Z0 .i64) x6),(18,rd (Z0 .i64) (IntKind.i64.wrap (q43.toNat:Int))),(19,rd (Z0 .i64) (IntKind.i64.wrap ((IntKind.i64.wrap (q43.toNat:Int))+m4))),(20,rd (Z0 .i64) s48),(21,rd (Z0 .i64) x49),(22,rd (Z0 .i64) (IntKind.i64.wrap ((IntKind.i64.wrap ((IntKind.i64.wrap (q43.toNat:Int))+m4)) - 1)))],[(0,Zi v2 3 (Z0 .i64) d1)])) ((((x45:Int) - s44).toNat+1),s44,x45) ⟨trivial,h⟩ (FX rfl) ?_
    rintro ⟨m50,s48,x49⟩ ⟨hsf6,h⟩
    dsimp only at h ⊢
    cases m50 with
    | zero=>cases h
    | succ m50=>
     unfold Zda at h
     refine sq<|SR<|Md rfl<|Md rfl<|Ac (Zh rfl rfl (vt rfl) (vt rfl)) rfl<|Nl<|Cq rfl h (fun h=>?_) (fun h=>?_)
     ·refine sk<|bk<|sq ?_
      obtain ⟨q51,hq51,h⟩:=Z6 h
      refine Rg<|Md rfl<|Md rfl<|Ac (Z0o rfl rfl (vt rfl) (vt rfl)) rfl<|Ac (Z6z rfl rfl us3 Z86 (vt rfl)) rfl<|Ac (Z4k rfl rfl (vt rfl) (Z4h (vku (1:BitVec 64) rfl)) hq51) rfl<|Ac (Z6h rfl rfl Z84 un3 (vt rfl)) rfl<|As rfl<|Nl<|sq ?_
      obtain ⟨x52,hx52,x53,hx53,x54,hx54,h⟩:=bs3 h
      refine AR Z03 (by kernel_rfl)<|Sd (lo [4] [] rfl fun S hs hr=>Zk (A:=fn2 Tryz.prog (Z0 .i64) (Z0 .i64) (Z0 .i64) x6) rfl rfl (vh hs 4 rfl rfl))<|SMw rfl<|SMd rfl<|SMd rfl<|Sd (lo [160,161] [] rfl fun S hs hr=>Z14 rfl rfl (vh hs 160 rfl rfl) (vh hs 161 rfl rfl))<|Sd (lo [159,162] [0] rfl fun S hs hr=>Z1w 0 rfl rfl Z15 (vh hs 159 rfl rfl) ((hr 0 rfl).trans rfl) (vh hs 162 rfl rfl) hx52)<|Sd (lo [163] [0] rfl fun S hs hr=>Z1l 0 rfl rfl Zc (vh hs 163 rfl rfl) ((hr 0 rfl).trans rfl) (Z0l hx52).2)<|SMw rfl<|SMd rfl<|Sd (lo [165,166] [0] rfl fun S hs hr=>Z1w 0 rfl rfl Z15 (vh hs 165 rfl rfl) ((hr 0 rfl).trans rfl) (vh hs 166 rfl rfl) hx53)<|Sd (lo [167] [0] rfl fun S hs hr=>Z1l 0 rfl rfl Zc (vh hs 167 rfl rfl) ((hr 0 rfl).trans rfl) (Z0l hx53).2)<|Sd (lo [158,164,168] [] rfl fun S hs hr=>Z7w hx54 rfl rfl (vh hs 158 rfl rfl) (vh hs 164 rfl rfl) (vh hs 168 rfl rfl))<|Sd (lo [169] [] rfl fun S hs hr=>Zh rfl rfl (vh hs 169 rfl rfl) (vk rfl))<|Sd (lo [170] [] rfl fun S hs hr=>Z0g rfl rfl (vh hs 170 rfl rfl))<|Sn<|Cq rfl h (fun h=>?_) (fun h=>?_)
      ·refine Rg<|Md rfl<|Ac (Z0o rfl rfl (vt rfl) (vk rfl)) rfl<|As rfl<|Nl ?_
       exact ⟨(_,_,_),Nat.lt_succ_self _,⟨trivial,h⟩,FX rfl⟩
      ·refine Rg<|Md rfl<|As rfl<|Nl ?_
       exact ⟨(_,_,_),Nat.lt_succ_self _,⟨trivial,h⟩,FX rfl⟩
     ·refine xt<|SR<|Md rfl<|Md rfl<|Ac (Z14 rfl rfl (vt rfl) (vt rfl)) rfl<|As rfl<|Nl ?_
      refine JN (d:=[]) (ν:=(List Int)) (fun l55=>(Zkr a3 s48 q43 R_slices_symMergeCmpFunc_int x6 m4 b5 l55=some r,[(0,Zg v2),(1,rd (Z0 .i64) a3),(3,rd (Z0 .i64) b5),(4,fn2 Tryz.prog (Z0 .i64) (Z0 .i64) (Z0 .i64) x6),(18,rd (Z0 .i64) (IntKind.i64.wrap (q43.toNat:Int))),(20,rd (Z0 .i64) s48),(24,rd (Z0 .i64) (IntKind.i64.wrap ((IntKind.i64.wrap ((IntKind.i64.wrap (q43.toNat:Int))+m4)) - s48)))],[(0,Zi v2 3 (Z0 .i64) l55)])) ?hx7 ?hy7
      case hy7=>
       intro l55 h
       dsimp only at h ⊢
       unfold Zkr at h
       refine JN (d:=[]) (ν:=(List Int)) (fun l56=>(Zmj q43 m4 s48 b5 R_slices_symMergeCmpFunc_int x6 l56=some r,[(0,Zg v2),(3,rd (Z0 .i64) b5),(4,fn2 Tryz.prog (Z0 .i64) (Z0 .i64) (Z0 .i64) x6),(18,rd (Z0 .i64) (IntKind.i64.wrap (q43.toNat:Int))),(24,rd (Z0 .i64) (IntKind.i64.wrap ((IntKind.i64.wrap ((IntKind.i64.wrap (q43.toNat:Int))+m4)) - s48)))],[(0,Zi v2 3 (Z0 .i64) l56)])) ?hx8 ?hy8
       case hy8=>
        intro l56 h
        dsimp only at h ⊢
        unfold Zmj at h
        refine SR<|Md rfl<|Md rfl<|Ac (Zh rfl rfl (vt rfl) (vt rfl)) rfl<|Md rfl<|Gd rfl (fun hq=>Zk (A:=rd (Z0 .i64) (IntKind.i64.wrap ((IntKind.i64.wrap ((IntKind.i64.wrap (q43.toNat:Int))+m4)) - s48))) rfl rfl (vt rfl))<|Gd rfl (fun hq=>Zk (A:=rd (Z0 .i64) b5) rfl rfl (vt rfl))<|Gd rfl (fun hq=>Zh rfl rfl (Z8 rfl hq) (Z8 rfl hq))<|Ac (Z0h rfl rfl (vt rfl) (vt rfl)) rfl<|Nl<|Cq rfl h (fun h=>?_) (fun h=>?_)
        ·obtain ⟨l57,hl57,h⟩:=Z6 h
         refine Rg<|Mw rfl<|Md rfl<|Md rfl<|Md rfl<|Ac (Zk (A:=fn2 Tryz.prog (Z0 .i64) (Z0 .i64) (Z0 .i64) x6) rfl rfl (vt rfl)) rfl<|Cv rfl (Z0y 0 (xs:=[.tmp 214,.tmp 215,.tmp 216,.tmp 217,.tmp 218]) (hR_slices_symMergeCmpFunc_int _ _ _ _ _ _ _ hl57) Zmi rfl rfl ⟨vt rfl,vt rfl,vt rfl,vt rfl,vt rfl,trivial⟩ rfl) fun _u=>Nl ?_
         cases h;exact Z21 (i:=0) Tryz.results299 rfl rfl
        ·refine sk ?_
         cases h;exact Z21 (i:=0) Tryz.results299 rfl rfl
       case hx8=>
        refine SR<|Md rfl<|Md rfl<|Ac (Zh rfl rfl (vt rfl) (vt rfl)) rfl<|Md rfl<|Gd rfl (fun hq=>Zk (A:=rd (Z0 .i64) s48) rfl rfl (vt rfl))<|Gd rfl (fun hq=>Zk (A:=rd (Z0 .i64) (IntKind.i64.wrap (q43.toNat:Int))) rfl rfl (vt rfl))<|Gd rfl (fun hq=>Zh rfl rfl (Z8 rfl hq) (Z8 rfl hq))<|Ac (Z0h rfl rfl (vt rfl) (vt rfl)) rfl<|Nl<|Cq rfl h (fun h=>?_) (fun h=>?_)
        ·obtain ⟨l58,hl58,h⟩:=Z6 h
         refine Rg<|Mw rfl<|Md rfl<|Md rfl<|Md rfl<|Ac (Zk (A:=fn2 Tryz.prog (Z0 .i64) (Z0 .i64) (Z0 .i64) x6) rfl rfl (vt rfl)) rfl<|Cv rfl (Z0y 0 (xs:=[.tmp 200,.tmp 201,.tmp 202,.tmp 203,.tmp 204]) (hR_slices_symMergeCmpFunc_int _ _ _ _ _ _ _ hl58) Zmi rfl rfl ⟨vt rfl,vt rfl,vt rfl,vt rfl,vt rfl,trivial⟩ rfl) fun _u=>Nl ?_
         exact ⟨_,h,FX rfl⟩
        ·refine sk ?_
         exact ⟨_,h,FX rfl⟩
      case hx7=>
       refine SR<|Md rfl<|Md rfl<|Ac (Zh rfl rfl (vt rfl) (vt rfl)) rfl<|Md rfl<|Gd rfl (fun hq=>Zk (A:=rd (Z0 .i64) m4) rfl rfl (vt rfl))<|Gd rfl (fun hq=>Zk (A:=rd (Z0 .i64) (IntKind.i64.wrap ((IntKind.i64.wrap ((IntKind.i64.wrap (q43.toNat:Int))+m4)) - s48))) rfl rfl (vt rfl))<|Gd rfl (fun hq=>Zh rfl rfl (Z8 rfl hq) (Z8 rfl hq))<|Ac (Z0h rfl rfl (vt rfl) (vt rfl)) rfl<|Nl<|Cq rfl h (fun h=>?_) (fun h=>?_)
       ·obtain ⟨l59,hl59,h⟩:=Z6 h
        refine Rg<|Mw rfl<|Md rfl<|Md rfl<|Md rfl<|Ac (Zk (A:=fn2 Tryz.prog (Z0 .i64) (Z0 .i64) (Z0 .i64) x6) rfl rfl (vt rfl)) rfl<|Cv rfl (Z0y 0 (xs:=[.tmp 186,.tmp 187,.tmp 188,.tmp 189,.tmp 190]) (Y6g _ _ _ _ _ _ _ hl59) Y5v rfl rfl ⟨vt rfl,vt rfl,vt rfl,vt rfl,vt rfl,trivial⟩ rfl) fun _u=>Nl ?_
        exact ⟨_,h,FX rfl⟩
       ·refine sk ?_
        exact ⟨_,h,FX rfl⟩
   case hx5=>
    refine SR<|Md rfl<|Md rfl<|Ac (Z1s rfl rfl (vt rfl) (vt rfl)) rfl<|Nl<|Cq rfl h (fun h=>?_) (fun h=>?_)
    ·refine SR<|Md rfl<|Md rfl<|Ac (Z14 rfl rfl (vt rfl) (vt rfl)) rfl<|As rfl<|Nl<|Rg<|Md rfl<|As rfl<|Nl ?_
     exact ⟨(_,_),h,FX rfl⟩
    ·refine SR<|Md rfl<|As rfl<|Nl<|Rg<|Md rfl<|As rfl<|Nl ?_
     exact ⟨(_,_),h,FX rfl⟩
def Zhq:Nat→((List Int)→Int→Int→Int→(Int→Int→Option Int)→Option (List Int))
 | 0=>(fun _ _ _ _ _=>none)
 | n+1=>(Zon (Zhq n))
theorem Y0g:∀n:Nat,(∀(v2:Value) (d1:(List Int)) (a3:Int) (m4:Int) (b5:Int) (x6:(Int→Int→Option Int)) (r:(List Int)),(Zhq n) d1 a3 m4 b5 x6=some r→Con Tryz.prog 299 [Zg v2,rd (Z0 .i64) a3,rd (Z0 .i64) m4,rd (Z0 .i64) b5,fn2 Tryz.prog (Z0 .i64) (Z0 .i64) (Z0 .i64) x6] (Zi v2 3 (Z0 .i64) d1) (fun _:Unit=>top) (fun _=>Zi v2 3 (Z0 .i64) r))
 | 0=>(by intros;rename_i h;cases h)
 | n+1=>by
  have ih:=Y0g n
  exact (Y8f (Zhq n) ih)
def Zpx (d1:(List Int))(a3:Int)(m4:Int)(b5:Int)(x6:(Int→Int→Option Int)):Option (List Int):=(Zhq Z2p) d1 a3 m4 b5 x6
theorem Zwq:∀(v2:Value) (d1:(List Int)) (a3:Int) (m4:Int) (b5:Int) (x6:(Int→Int→Option Int)) (r:(List Int)),Zpx d1 a3 m4 b5 x6=some r→Con Tryz.prog 299 [Zg v2,rd (Z0 .i64) a3,rd (Z0 .i64) m4,rd (Z0 .i64) b5,fn2 Tryz.prog (Z0 .i64) (Z0 .i64) (Z0 .i64) x6] (Zi v2 3 (Z0 .i64) d1) (fun _:Unit=>top) (fun _=>Zi v2 3 (Z0 .i64) r):=Y0g Z2p
def Zjq (n3:Int)(b17:Int)(x4:(Int→Int→Option Int))(go2:(List Int)→Int→Option (List Int)):Nat→(List Int)→Int→Int→Option (List Int)
 | 0,_,_,_=>none
 | m25+1,l22,a23,b24=>(bif (decide (b24≤n3)) then (Zpx l22 a23 (IntKind.i64.wrap (a23+b17)) b24 x4).bind fun l26=>(Zjq n3 b17 x4 go2 m25) l26 b24 (IntKind.i64.wrap (b24+(IntKind.i64.wrap (2*b17)))) else (bif (decide ((IntKind.i64.wrap (a23+b17))<n3)) then (Zpx l22 a23 (IntKind.i64.wrap (a23+b17)) n3 x4).bind fun l27=>go2 l27 (IntKind.i64.wrap (b17*2)) else go2 l22 (IntKind.i64.wrap (b17*2))))
def Zhg (n3:Int)(x4:(Int→Int→Option Int)):Nat→(List Int)→Int→Option (List Int)
 | 0,_,_=>none
 | m18+1,l16,b17=>(bif (decide (b17<n3)) then Zjq n3 b17 x4 (Zhg n3 x4 m18) (((n3:Int) - (IntKind.i64.wrap (2*b17))).toNat+2) l16 0 (IntKind.i64.wrap (2*b17)) else some l16)
def Zlv (n3:Int)(x4:(Int→Int→Option Int)):Nat→(List Int)→Int→Int→Option (List Int)
 | 0,_,_,_=>none
 | m11+1,l8,a9,b10=>(bif (decide (b10≤n3)) then (Zjy l8 a9 b10 x4).bind fun l12=>(Zlv n3 x4 m11) l12 b10 (IntKind.i64.wrap (b10+20)) else (Zjy l8 a9 n3 x4).bind fun l13=>Zhg n3 x4 (((n3:Int) - 20).toNat+1) l13 20)
def Zvd (d1:(List Int))(n3:Int)(x4:(Int→Int→Option Int)):Option (List Int):=
 Zlv n3 x4 (((n3:Int) - 20).toNat+2) d1 0 20
theorem Yga (v2:Value)(d1:(List Int))(n3:Int)(x4:(Int→Int→Option Int))(r:(List Int))(h:Zvd d1 n3 x4=some r):Con Tryz.prog 287 [Zg v2,rd (Z0 .i64) n3,fn2 Tryz.prog (Z0 .i64) (Z0 .i64) (Z0 .i64) x4] (Zi v2 3 (Z0 .i64) d1) (fun _:Unit=>top) (fun _=>Zi v2 3 (Z0 .i64) r):=by
 refine Con.intro Tryz.func287 rfl Tryz.ntmps287 rfl fun w H X Z=>?_
 unfold Zvd at h
 refine SR<|Ak rfl<|Nl<|SR<|Md rfl<|Ak rfl<|As rfl<|Nl<|sq<|bk<|LG (d:=[]) (ν:=Nat×(List Int)×Int×Int) (fun (m11,l8,a9,b10)=>(True∧Zlv n3 x4 m11 l8 a9 b10=some r,m11,[(0,Zg v2),(1,rd (Z0 .i64) n3),(2,fn2 Tryz.prog (Z0 .i64) (Z0 .i64) (Z0 .i64) x4),(6,rd (Z0 .i64) 20),(7,rd (Z0 .i64) a9),(8,rd (Z0 .i64) b10)],[(0,Zi v2 3 (Z0 .i64) l8)])) ((((n3:Int) - 20).toNat+2),d1,0,20) ⟨trivial,h⟩ (FX rfl) ?_
 rintro ⟨m11,l8,a9,b10⟩ ⟨hsf1,h⟩
 dsimp only at h ⊢
 cases m11 with
 | zero=>cases h
 | succ m11=>
  unfold Zlv at h
  refine sq<|SR<|Md rfl<|Md rfl<|Ac (Z50 rfl rfl (vt rfl) (vt rfl)) rfl<|Nl<|Cq rfl h (fun h=>?_) (fun h=>?_)
  ·refine sk<|bk<|sq ?_
   obtain ⟨l12,hl12,h⟩:=Z6 h
   refine Rg<|Mw rfl<|Md rfl<|Md rfl<|Ac (Zk (A:=fn2 Tryz.prog (Z0 .i64) (Z0 .i64) (Z0 .i64) x4) rfl rfl (vt rfl)) rfl<|Cv rfl (Z0y 0 (xs:=[.tmp 14,.tmp 15,.tmp 16,.tmp 17]) (Zvk _ _ _ _ _ _ hl12) Zwo rfl rfl ⟨vt rfl,vt rfl,vt rfl,vt rfl,trivial⟩ rfl) fun _u=>Nl<|SR<|Md rfl<|As rfl<|Nl<|Rg<|Md rfl<|Md rfl<|Ac (Z0o rfl rfl (vt rfl) (vt rfl)) rfl<|As rfl<|Nl ?_
   exact ⟨(_,_,_,_),Nat.lt_succ_self _,⟨trivial,h⟩,FX rfl⟩
  ·refine xt<|sq ?_
   obtain ⟨l13,hl13,h⟩:=Z6 h
   refine Rg<|Mw rfl<|Md rfl<|Md rfl<|Ac (Zk (A:=fn2 Tryz.prog (Z0 .i64) (Z0 .i64) (Z0 .i64) x4) rfl rfl (vt rfl)) rfl<|Cv rfl (Z0y 0 (xs:=[.tmp 23,.tmp 24,.tmp 25,.tmp 26]) (Zvk _ _ _ _ _ _ hl13) Zwo rfl rfl ⟨vt rfl,vt rfl,vt rfl,vt rfl,trivial⟩ rfl) fun _u=>Nl<|bk<|LG (d:=[]) (ν:=Nat×(List Int)×Int) (fun (m18,l16,b17)=>(True∧Zhg n3 x4 m18 l16 b17=some r,m18,[(0,Zg v2),(1,rd (Z0 .i64) n3),(2,fn2 Tryz.prog (Z0 .i64) (Z0 .i64) (Z0 .i64) x4),(6,rd (Z0 .i64) b17)],[(0,Zi v2 3 (Z0 .i64) l16)])) ((((n3:Int) - 20).toNat+1),l13,20) ⟨trivial,h⟩ (FX rfl) ?_
   rintro ⟨m18,l16,b17⟩ ⟨hsf2,h⟩
   dsimp only at h ⊢
   cases m18 with
   | zero=>cases h
   | succ m18=>
    unfold Zhg at h
    refine sq<|SR<|Md rfl<|Md rfl<|Ac (Zh rfl rfl (vt rfl) (vt rfl)) rfl<|Nl<|Cq rfl h (fun h=>?_) (fun h=>?_)
    ·refine sk<|bk<|SR<|Md rfl<|Ac (Z5f rfl rfl (vk rfl) (vt rfl)) rfl<|Ak rfl<|As rfl<|Nl<|sq<|bk<|LG (d:=[]) (ν:=Nat×(List Int)×Int×Int) (fun (m25,l22,a23,b24)=>(True∧Zjq n3 b17 x4 (Zhg n3 x4 m18) m25 l22 a23 b24=some r,m25,[(0,Zg v2),(1,rd (Z0 .i64) n3),(2,fn2 Tryz.prog (Z0 .i64) (Z0 .i64) (Z0 .i64) x4),(6,rd (Z0 .i64) b17),(7,rd (Z0 .i64) a23),(8,rd (Z0 .i64) b24)],[(0,Zi v2 3 (Z0 .i64) l22)])) ((((n3:Int) - (IntKind.i64.wrap (2*b17))).toNat+2),l16,0,(IntKind.i64.wrap (2*b17))) ⟨trivial,h⟩ (FX rfl) ?_
     rintro ⟨m25,l22,a23,b24⟩ ⟨hsf3,h⟩
     dsimp only at h ⊢
     cases m25 with
     | zero=>cases h
     | succ m25=>
      unfold Zjq at h
      refine sq<|SR<|Md rfl<|Md rfl<|Ac (Z50 rfl rfl (vt rfl) (vt rfl)) rfl<|Nl<|Cq rfl h (fun h=>?_) (fun h=>?_)
      ·refine sk<|bk<|sq ?_
       obtain ⟨l26,hl26,h⟩:=Z6 h
       refine Rg<|Mw rfl<|Md rfl<|Md rfl<|Md rfl<|Ac (Z0o rfl rfl (vt rfl) (vt rfl)) rfl<|Md rfl<|Ac (Zk (A:=fn2 Tryz.prog (Z0 .i64) (Z0 .i64) (Z0 .i64) x4) rfl rfl (vt rfl)) rfl<|Cv rfl (Z0y 0 (xs:=[.tmp 36,.tmp 37,.tmp 40,.tmp 41,.tmp 42]) (Zwq _ _ _ _ _ _ _ hl26) Zmi rfl rfl ⟨vt rfl,vt rfl,vt rfl,vt rfl,vt rfl,trivial⟩ rfl) fun _u=>Nl<|SR<|Md rfl<|As rfl<|Nl<|Rg<|Md rfl<|Md rfl<|Ac (Z5f rfl rfl (vk rfl) (vt rfl)) rfl<|Ac (Z0o rfl rfl (vt rfl) (vt rfl)) rfl<|As rfl<|Nl ?_
       exact ⟨(_,_,_,_),Nat.lt_succ_self _,⟨trivial,h⟩,FX rfl⟩
      ·refine xt<|sq<|SR<|Md rfl<|Md rfl<|Ac (Z0o rfl rfl (vt rfl) (vt rfl)) rfl<|As rfl<|Nl<|SR<|Md rfl<|Md rfl<|Ac (Zh rfl rfl (vt rfl) (vt rfl)) rfl<|Nl<|Cq rfl h (fun h=>?_) (fun h=>?_)
       ·obtain ⟨l27,hl27,h⟩:=Z6 h
        refine Rg<|Mw rfl<|Md rfl<|Md rfl<|Md rfl<|Ac (Zk (A:=fn2 Tryz.prog (Z0 .i64) (Z0 .i64) (Z0 .i64) x4) rfl rfl (vt rfl)) rfl<|Cv rfl (Z0y 0 (xs:=[.tmp 55,.tmp 56,.tmp 57,.tmp 58,.tmp 59]) (Zwq _ _ _ _ _ _ _ hl27) Zmi rfl rfl ⟨vt rfl,vt rfl,vt rfl,vt rfl,vt rfl,trivial⟩ rfl) fun _u=>Nl<|Rg<|Md rfl<|Ac (Z5f rfl rfl (vt rfl) (vk rfl)) rfl<|As rfl<|Nl ?_
        exact ⟨(_,_,_),Nat.lt_succ_self _,⟨trivial,h⟩,FX rfl⟩
       ·refine sk<|Rg<|Md rfl<|Ac (Z5f rfl rfl (vt rfl) (vk rfl)) rfl<|As rfl<|Nl ?_
        exact ⟨(_,_,_),Nat.lt_succ_self _,⟨trivial,h⟩,FX rfl⟩
    ·refine xt ?_
     cases h;exact Z21 (i:=0) Tryz.results287 rfl rfl
def Zq4 (x1:(List Int))(x3:(Int→Int→Option Int)):Option (List Int):=
 (Zvd x1 (x1.length:Int) x3).bind fun l4=>some l4
theorem Yf4 (v2:Value)(x1:(List Int))(x3:(Int→Int→Option Int))(r:(List Int))(h:Zq4 x1 x3=some r):Con Tryz.prog 264 [Zg v2,fn2 Tryz.prog (Z0 .i64) (Z0 .i64) (Z0 .i64) x3] (Zi v2 3 (Z0 .i64) x1) (fun _:Unit=>top) (fun _=>Zi v2 3 (Z0 .i64) r):=by
 refine Con.intro Tryz.func264 rfl Tryz.ntmps264 rfl fun w H X Z=>?_
 unfold Zq4 at h
 obtain ⟨l4,hl4,h⟩:=Z6 h
 refine Rg<|Mw rfl<|Mw rfl<|Ac (Z2v 0 rfl rfl Z15 (vt rfl) rfl) rfl<|Ac (Zk (A:=fn2 Tryz.prog (Z0 .i64) (Z0 .i64) (Z0 .i64) x3) rfl rfl (vt rfl)) rfl<|Cv rfl (Z0y 0 (xs:=[.tmp 4,.tmp 6,.tmp 7]) (Yga _ _ _ _ _ hl4) Y52 rfl rfl ⟨vt rfl,vt rfl,vt rfl,trivial⟩ rfl) fun _u=>Nl ?_
 cases h;exact Z21 (i:=0) Tryz.results264 rfl rfl
def Zep (t1:(List Flow)):Nat→Nat→(List Int)→Option (List Int)
 | 0,i9,l7=>(Zq4 l7 (fun x z=>Zml x z t1)).bind fun l11=>some l11
 | m10+1,i9,l7=>(Z11 l7 [(i9:Int)]).bind fun l12=>(Zep t1 m10) (i9+1) l12
def Zph (t1:(List Flow)):Option (List Int):=
 (omk (t1.length:Int)).bind fun u3=>Zep t1 ((t1.length:Int):Int).toNat 0 []
theorem Y5x:Q1 Tryz.prog 228 (rd (Z1 Zp)) (rd (Z1 (Z0 .i64))) Zph:=fun t1 r h=>I0 Tryz.func228 rfl Tryz.ntmps228 rfl fun w H Z=>by
 unfold Zph at h
 refine SR<|Cv rfl (Zm 2 rfl rfl (vt rfl)) fun g2=>Ac (Zn (A:=rd (Z1 (Z0 .i64)) []) rfl rfl Z04) rfl<|Nl<|sq ?_
 obtain ⟨u3,hu3,h⟩:=Z6 h
 refine Rg<|Ld Z2n 2 rfl<|Ac (Z07 rfl rfl Z25 (vt rfl)) rfl<|Cv rfl (Zwm 1001 hu3 rfl rfl Z74 zr3 (vt rfl)) fun v4=>Aw rfl<|Nl<|sq<|SR<|Ld Z2n 2 rfl<|Ac (Z07 rfl rfl Z25 (vt rfl)) rfl<|Mk rfl<|Nl<|bk<|LG (d:=[]) (ν:=Nat×Nat×(List Int)×Value) (fun (m10,i9,l7,v8)=>(Cnt (t1.length:Int) i9 m10∧Zep t1 m10 i9 l7=some r,m10,[(1,Za g2 (Lens.id (Z1 Zp))),(3,Zg v8),(9,rd (Z0 .i64) (t1.length:Int)),(10,rd (Z0 .i64) (i9:Int))],[(2,Zd g2 68 (Z1 Zp) t1),(1001,Zi v8 3 (Z0 .i64) l7)])) (((t1.length:Int):Int).toNat,0,[],v4) ⟨Cnt.start _,h⟩ (FX rfl) ?_
 rintro ⟨m10,i9,l7,v8⟩ ⟨hsf1,h⟩
 dsimp only at hsf1 h ⊢
 cases m10 with
 | zero=>
  unfold Zep at h
  refine SR<|Ac (Zh rfl rfl (vt rfl) (vt rfl)) rfl<|Nl<|sq<|Cn rfl (fun hc=>absurd (of_decide_eq_true hc) hsf1.zero) (fun hc=>?_)
  refine xt<|sq<|AW.freezeB 1 2 rfl rfl rfl ?_
  obtain ⟨l11,hl11,h⟩:=Z6 h
  refine Rg<|Mw rfl<|Ac (Ymf (cs:=[.tmp 1]) (CAs:=[rp (Z1 Zp) t1]) (fun x z=>Zml x z t1) rfl rfl Yb5 ⟨vt rfl,trivial⟩ (fun x z y h=>Y9o _ _ _ y h)) rfl<|Cv rfl (Z0y 1001 (xs:=[.tmp 18,.tmp 19]) (Yf4 _ _ _ _ hl11) Yan rfl rfl ⟨vt rfl,vt rfl,trivial⟩ rfl) fun _u=>Nl<|SR<|Mw rfl<|Aw rfl<|Nl<|AW.freezes [2,3,18,21] 1001 rfl ⟨rfl,rfl,rfl,rfl,trivial⟩ rfl<|rt ?_
  cases h;exact Z9 Tryz.results228 rfl (Z5 rfl)
 | succ m10=>
  unfold Zep at h
  refine SR<|Ac (Zh rfl rfl (vt rfl) (vt rfl)) rfl<|Nl<|sq<|Cn rfl (fun hc=>?_) (fun hc=>absurd hsf1.succ (of_decide_eq_false hc))
  have hlti9:=of_decide_eq_true hc
  refine sk<|sq<|bk<|SR<|Md rfl<|As rfl<|Nl ?_
  obtain ⟨l12,hl12,h⟩:=Z6 h
  refine Rg<|Mw rfl<|Md rfl<|Ac (osl Z15 zr3 rfl (vt rfl)) rfl<|Cv rfl (Z1f 1001 hl12 rfl rfl Z74 (vt rfl) rfl (vt rfl)) fun v13=>Aw rfl<|Nl<|Rg<|Ac (Z0a (t:=9) rfl rfl (vt rfl) (vk rfl) (vt rfl) hlti9) rfl<|Md rfl<|Nl ?_
  exact ⟨(_,_,_,_),Nat.lt_succ_self _,⟨hsf1.next,h⟩,FX rfl⟩
def Zmk (i1:Int)(x2:Zs)(x3:Zs):Option Tern:=
 (chk 24 i1).bind fun j5=>(chk 24 i1).bind fun j6=>(chk 24 i1).bind fun j7=>(Z7a ((Vector.get x2 j6).Mask) ((Vector.get x3 j7).Mask)).bind fun x8=>(Z6k (⟨(Vector.get x2 j5).Value,x8⟩:Tern)).bind fun x9=>some x9
theorem Y62:Q3 Tryz.prog 151 (rd (Z0 .i64)) (rp (Z4 24 Z7)) (rp (Z4 24 Z7)) (rd Z7) Zmk:=fun i1 x2 x3 r h=>I0 Tryz.func151 rfl Tryz.ntmps151 rfl fun w H Z=>by
 unfold Zmk at h
 refine SR<|Cv rfl (Zo 5 rfl rfl Z2l) fun g4=>Nl<|sq ?_
 obtain ⟨j5,hj5,j6,hj6,j7,hj7,x8,hx8,h⟩:=bs4 h
 obtain ⟨x9,hx9,h⟩:=Z6 h
 refine AR Z03 (by kernel_rfl)<|SMd rfl<|Sd (lo [1,5] [] rfl fun S hs hr=>Z69 rfl rfl Z3t (vh hs 1 rfl rfl) (vh hs 5 rfl rfl) hj5)<|SFp lTern_0 Z42 rfl<|SLp Z06 rfl<|SMd rfl<|Sd (lo [1,9] [] rfl fun S hs hr=>Z69 rfl rfl Z3t (vh hs 1 rfl rfl) (vh hs 9 rfl rfl) hj6)<|SFp lTern_1 Z3q rfl<|SLp Z06 rfl<|SMd rfl<|Sd (lo [2,13] [] rfl fun S hs hr=>Z69 rfl rfl Z8n (vh hs 2 rfl rfl) (vh hs 13 rfl rfl) hj7)<|SFp lTern_1 Z3q rfl<|SLp Z06 rfl<|SCl [12,16] (Z95 _ _ _ hx8) Z8b rfl<|Sd (lo [8,17] [] rfl fun S hs hr=>opb (⟨(Vector.get x2 j5).Value,x8⟩:Tern) Z2l rfl Z78 (pc Z8t (vh hs 8 rfl rfl)<|pc Z8s (vh hs 17 rfl rfl)<|pn rfl))<|SCl [18] (Z7p _ _ hx9) e33 rfl<|SSt Z0j 5 rfl<|Sn<|rt ?_
 cases h;exact Z9 Tryz.results151 rfl (Zv rfl (i:=5) rfl Z0j)
def Zfk (x1:(Int→Option Tern)):Nat→Nat→Zs→Option Zs
 | 0,i6,b5=>some b5
 | m7+1,i6,b5=>(x1 (i6:Int)).bind fun x8=>(chk 24 (i6:Int)).bind fun j9=>(Zfk x1 m7) (i6+1) (Vector.set b5 j9.1 x8 j9.2)
def Zos (x1:(Int→Option Tern)):Option Zs:=
 Zfk x1 (24:Int).toNat 0 (Vector.replicate 24 Z1h)
theorem Yoi:Q1 Tryz.prog 150 (fn1 Tryz.prog (Z0 .i64) Z7) (rd (Z4 24 Z7)) Zos:=fun x1 r h=>I0 Tryz.func150 rfl Tryz.ntmps150 rfl fun w H Z=>by
 unfold Zos at h
 refine SR<|Cv rfl (Zo 3 rfl rfl Z22) fun g2=>Nl<|SR<|Cv rfl (Zo 4 rfl rfl Z22) fun g3=>Nl<|sq<|SR<|Mk rfl<|Nl<|bk<|LG (d:=[]) (ν:=Nat×Nat×Zs) (fun (m7,i6,b5)=>(Cnt 24 i6 m7∧Zfk x1 m7 i6 b5=some r,m7,[(0,fn1 Tryz.prog (Z0 .i64) Z7 x1),(2,Za g2 (Lens.id (Z4 24 Z7))),(3,Za g3 (Lens.id (Z4 24 Z7))),(5,rd (Z0 .i64) (i6:Int))],[(3,Zd g2 32 (Z4 24 Z7) (Vector.replicate 24 Z1h)),(4,Zd g3 32 (Z4 24 Z7) b5)])) ((24:Int).toNat,0,(Vector.replicate 24 Z1h)) ⟨Cnt.start _,h⟩ (FX rfl) ?_
 rintro ⟨m7,i6,b5⟩ ⟨hsf1,h⟩
 dsimp only at hsf1 h ⊢
 cases m7 with
 | zero=>
  unfold Zfk at h
  refine SR<|Ac (Zh rfl rfl (vt rfl) (vk rfl)) rfl<|Nl<|sq<|Cn rfl (fun hc=>absurd (of_decide_eq_true hc) hsf1.zero) (fun hc=>?_)
  refine xt<|SR<|Ld Z09 4 rfl<|Ze Z09 3 rfl<|Nl<|rt ?_
  cases h;exact Z9 Tryz.results150 rfl (Zv rfl (i:=3) rfl Z09)
 | succ m7=>
  unfold Zfk at h
  refine SR<|Ac (Zh rfl rfl (vt rfl) (vk rfl)) rfl<|Nl<|sq<|Cn rfl (fun hc=>?_) (fun hc=>absurd hsf1.succ (of_decide_eq_false hc))
  have hlti6:=of_decide_eq_true hc
  refine sk<|sq<|bk<|SR<|Md rfl<|As rfl<|Nl ?_
  obtain ⟨x8,hx8,j9,hj9,h⟩:=bs2 h
  refine Rg<|Md rfl<|Ac (Zk (A:=fn1 Tryz.prog (Z0 .i64) Z7 x1) rfl rfl (vt rfl)) rfl<|Md rfl<|Ac (Z2z hx8 rfl rfl (vt rfl) (vt rfl)) rfl<|Ac (Z2o rfl rfl Z3t (vt rfl) (vt rfl) hj9) rfl<|Ze Z0j 4 rfl<|Nl<|Rg<|Ac (Z43 rfl rfl (vt rfl) (vk rfl) rfl hlti6) rfl<|Md rfl<|Nl ?_
  exact ⟨(_,_,_),Nat.lt_succ_self _,⟨hsf1.next,h⟩,FX rfl⟩
def Ze0 (x2:Zs)(x1:Zs):(List Tern)→Nat→Option (Zs×Bool)
 | [],i6=>(Zos (fun x=>Zmk x x2 x1)).bind fun x8=>some (x8,true)
 | x9::l7,i6=>(chk 24 (i6:Int)).bind fun j11=>(Zi9 x9 (Vector.get x2 j11)).bind fun x12=>(bif (!x12.2) then some ((Vector.replicate 24 Z1h),false) else (Ze0 x2 x1 l7) (i6+1))
def Zki (x1:Zs)(x2:Zs):Option (Zs×Bool):=
 Ze0 x2 x1 (Vector.toList x1) 0
theorem Y1k:Q2 Tryz.prog 99 (rd (Z4 24 Z7)) (rd (Z4 24 Z7)) (fun r=>Z0t (rd (Z4 24 Z7) r.1) (rd Z3 r.2)) Zki:=fun x1 x2 r h=>I0 Tryz.func99 rfl Tryz.ntmps99 rfl fun w H Z=>by
 unfold Zki at h
 refine SR<|Cv rfl (Zm 3 rfl rfl (vt rfl)) fun g3=>Cv rfl (Zm 4 rfl rfl (vt rfl)) fun g4=>Cv rfl (Zo 5 rfl rfl Z22) fun g5=>Ab rfl<|Nl<|sq<|SR<|Ld Z0s 3 rfl<|Mk rfl<|Nl<|bk<|LG (d:=[]) (ν:=(List Tern)×Nat) (fun (l7,i6)=>(Sfx (Vector.toList x1) i6 l7∧Ze0 x2 x1 l7 i6=some r,l7.length,[(2,Za g3 (Lens.id (Z4 24 Z7))),(3,Za g4 (Lens.id (Z4 24 Z7))),(4,Za g5 (Lens.id (Z4 24 Z7))),(10,rd (Z4 24 Z7) x1),(11,rd (Z0 .i64) (i6:Int))],[(3,Zd g3 52 (Z4 24 Z7) x1),(4,Zd g4 32 (Z4 24 Z7) x2),(5,Zd g5 32 (Z4 24 Z7) (Vector.replicate 24 Z1h))])) ((Vector.toList x1),0) ⟨Sfx.start _,h⟩ (FX rfl) ?_
 rintro ⟨l7,i6⟩ ⟨hsf1,h⟩
 dsimp only at hsf1 h ⊢
 cases l7 with
 | nil=>
  unfold Ze0 at h
  refine SR<|Ac (Zh rfl rfl (vt rfl) (vk rfl)) rfl<|Nl<|sq<|Cn rfl (fun hc=>absurd (of_decide_eq_true hc) (hsf1.niln (by simp))) (fun hc=>?_)
  refine xt<|sq<|AW.freezeB 3 4 rfl rfl rfl<|AW.freezeB 2 3 rfl rfl rfl ?_
  obtain ⟨x8,hx8,h⟩:=Z6 h
  refine Rg<|Ac (Z30 (cs:=[.tmp 3,.tmp 2]) (CAs:=[rp (Z4 24 Z7) x2,rp (Z4 24 Z7) x1]) (fun x=>Zmk x x2 x1) rfl rfl Yl8 ⟨vt rfl,vt rfl,trivial⟩ (fun x y h=>Y62 _ _ _ y h)) rfl<|Cl [27] (Yoi _ _ hx8) Ygq rfl<|Ze Z09 5 rfl<|Ab rfl<|Nl<|rt ?_
  cases h;exact Z0c Tryz.results99 rfl (Zv rfl (i:=5) rfl Z09) (Z5 rfl)
 | cons x9 l7=>
  unfold Ze0 at h
  refine SR<|Ac (Zh rfl rfl (vt rfl) (vk rfl)) rfl<|Nl<|sq<|Cn rfl (fun hc=>?_) (fun hc=>absurd (hsf1.consn (by simp)) (of_decide_eq_false hc))
  have hlti6:=of_decide_eq_true hc
  refine sk<|sq<|bk<|SR<|Md rfl<|Ac (Z7n rfl rfl Z8n Z0j (vt rfl) (vt rfl) hsf1.lget) rfl<|Cv rfl (Zo 8 rfl rfl Z2l) fun g10=>As rfl<|Ze Z0j 8 rfl<|Nl<|sq ?_
  obtain ⟨j11,hj11,x12,hx12,h⟩:=bs2 h
  refine AR Z03 (by kernel_rfl)<|Zu Z0j 8 rfl<|SMd rfl<|Sd (lo [3,17] [] rfl fun S hs hr=>Z2o rfl rfl Z3t (vh hs 3 rfl rfl) (vh hs 17 rfl rfl) hj11)<|Zu Z0j 4 rfl<|SCl [16,19] (Zzh _ _ _ hx12) Zy6 rfl<|Sd (lo [20] [] rfl fun S hs hr=>Zk (A:=Z0t (rd Z7 x12.1) (rd Z3 x12.2)) rfl rfl (vh hs 20 rfl rfl))<|Sd (lo [15] [] rfl fun S hs hr=>Z10 rfl rfl (vh hs 15 rfl rfl))<|Sd (lo [15] [] rfl fun S hs hr=>Z0z rfl rfl (vh hs 15 rfl rfl))<|Sd (Z18 (us:=[(8,Z28 30 Z7 Z1h)]) (ur:=[]) [] [] rfl fun S hs hr=>Z55 rfl rfl rfl Z2l)<|Sd (Z18 (us:=[(8,Z28 30 Z7 x12.1)]) (ur:=[]) [8,21] [] rfl fun S hs hr=>Z4z rfl rfl Z0j ((hs 8 rfl).trans rfl) (vh hs 21 rfl rfl))<|SAs rfl<|Sn<|AW.unpackP 8 9 rfl rfl fun g13=>SR<|Md rfl<|Ac (Z0g rfl rfl (vt rfl)) rfl<|Nl<|Cq rfl h (fun h=>?_) (fun h=>?_)
  ·refine SR<|Ac (Z23 (ps:=[]) (x:=(Vector.replicate 24 Z1h)) rfl rfl rfl (by kernel_rfl) Z22 rfl) rfl<|Ze Z09 5 rfl<|Ab rfl<|Nl<|rt ?_
   cases h;exact Z0c Tryz.results99 rfl (Zv rfl (i:=5) rfl Z09) (Z5 rfl)
  ·refine sk<|Rg<|Ac (Z43 rfl rfl (vt rfl) (vk rfl) rfl hlti6) rfl<|Md rfl<|Nl ?_
   exact ⟨(_,_),Nat.lt_succ_self _,⟨hsf1.next,h⟩,FX rfl⟩
end Go.Proofs.YtjppkmpecdbepaaGreatDoor.W
set_option maxHeartbeats 1000000
set_option maxRecDepth 4000
namespace Go.Proofs.YtjppkmpecdbepaaGreatDoor.W
open Go Go.Wb
theorem e99:Ent Tryz.prog 99:=Ent.mk Tryz.func99 rfl rfl
theorem Yff:Ent Tryz.prog 289:=Ent.mk Tryz.func289 rfl rfl
theorem Yji:Ent Tryz.prog 288:=Ent.mk Tryz.func288 rfl rfl
theorem Yfm:Ent Tryz.prog 200:=Ent.mk Tryz.func200 rfl rfl
theorem Zx4:Ent Tryz.prog 198:=Ent.mk Tryz.func198 rfl rfl
theorem Zuj:Ent Tryz.prog 157:=Ent.mk Tryz.func157 rfl rfl
theorem Y39:Ent Tryz.prog 159:=Ent.mk Tryz.func159 rfl rfl
def Zs6 (w1:walk_way)(x2:Flow):Option (walk_way×Bool):=
 (Z97 x2).bind fun x6=>(Zki w1.got x6).bind fun x7=>(bif (!x7.2) then some ((⟨(Vector.replicate 24 Z1h),(Vector.replicate 24 Z1h),[],[]⟩:walk_way),false) else (Z9k x7.1 w1.cube).bind fun x9=>some ({w1 with cube:=x9.1},x9.2))
theorem Y7b:Q2 Tryz.prog 229 (rd Z1o) (rd Zp) (fun r=>Z0t (rd Z1o r.1) (rd Z3 r.2)) Zs6:=fun w1 x2 r h=>I0 Tryz.func229 rfl Tryz.ntmps229 rfl fun w H Z=>by
 unfold Zs6 at h
 refine SR<|Cv rfl (Zm 3 rfl rfl (vt rfl)) fun g3=>Cv rfl (Zm 4 rfl rfl (vt rfl)) fun g4=>Cv rfl (Zo 5 rfl rfl Zaz) fun g5=>Ab rfl<|Nl<|sq ?_
 obtain ⟨x6,hx6,x7,hx7,h⟩:=bs2 h
 refine AR Z03 (by kernel_rfl)<|SFd lwalk_way_1 Zd6 rfl<|Zu Z0s 3 rfl<|Zu Z19 4 rfl<|SCl [11] (Zc6 _ _ hx6) Zcx rfl<|SCl [10,12] (Y1k _ _ _ hx7) e99 rfl<|Sd (lo [13] [] rfl fun S hs hr=>Zk (A:=Z0t (rd (Z4 24 Z7) x7.1) (rd Z3 x7.2)) rfl rfl (vh hs 13 rfl rfl))<|Sd (lo [8] [] rfl fun S hs hr=>Z10 rfl rfl (vh hs 8 rfl rfl))<|Sd (lo [8] [] rfl fun S hs hr=>Z0z rfl rfl (vh hs 8 rfl rfl))<|Sd (Z18 (us:=[(6,Z28 32 (Z4 24 Z7) (Vector.replicate 24 Z1h))]) (ur:=[]) [] [] rfl fun S hs hr=>Z55 rfl rfl rfl Z22)<|Sd (Z18 (us:=[(6,Z28 32 (Z4 24 Z7) x7.1)]) (ur:=[]) [6,14] [] rfl fun S hs hr=>Z4z rfl rfl Z09 ((hs 6 rfl).trans rfl) (vh hs 14 rfl rfl))<|SAs rfl<|Sn<|AW.unpackP 6 7 rfl rfl fun g8=>sq<|SR<|Md rfl<|Ac (Z0g rfl rfl (vt rfl)) rfl<|Nl<|Cq rfl h (fun h=>?_) (fun h=>?_)
 ·refine SR<|Ac (opb (⟨(Vector.replicate 24 Z1h),(Vector.replicate 24 Z1h),[],[]⟩:walk_way) Zaz rfl Zyu (pn rfl)) rfl<|Ze Z37 5 rfl<|Ab rfl<|Nl<|rt ?_
  cases h;exact Z0c Tryz.results229 rfl (Zv rfl (i:=5) rfl Z37) (Z5 rfl)
 ·refine sk<|sq ?_
  obtain ⟨x9,hx9,h⟩:=Z6 h
  refine Rg<|Ld Z09 7 rfl<|Zf lwalk_way_0 Zt0 rfl<|Ld Z09 3 rfl<|Cl [20,22] (Zde _ _ _ hx9) Zen rfl<|Mt2 rfl<|Ac (Z10 rfl rfl (vt rfl)) rfl<|Ac (Z0z rfl rfl (vt rfl)) rfl<|Zf lwalk_way_0 Zt0 rfl<|Ze Z09 3 rfl<|As rfl<|Nl<|SR<|Ld Z37 3 rfl<|Md rfl<|Ze Z37 5 rfl<|As rfl<|Nl<|rt ?_
  cases h;exact Z0c Tryz.results229 rfl (Zv rfl (i:=5) rfl Z37) (Z5 rfl)
def Zk5 (i1:Inst)(x2:Int):Option Bool:=
 some (decide (i1.Kind=x2))
theorem Yow:Q2 Tryz.prog 289 (rd Z0f) (rp (Z0 .i64)) (rd Z3) Zk5:=fun i1 x2 r h=>I0 Tryz.func289 rfl Tryz.ntmps289 rfl fun w H Z=>by
 unfold Zk5 at h
 refine SR<|Cv rfl (Zm 3 rfl rfl (vt rfl)) fun g3=>Ab rfl<|Nl<|SR<|Zf lInst_0 Z5w rfl<|Ld Zc 3 rfl<|Lp1 Zc rfl<|Ac (Zy rfl rfl (vt rfl) (vt rfl)) rfl<|As rfl<|Nl<|rt ?_
 cases h;exact Z9 Tryz.results289 rfl (Z5 rfl)
def Zh2 (s1:(List Inst))(x2:(Inst→Option Bool)):Nat→Nat→Option Int
 | 0,i3=>some (-1)
 | m4+1,i3=>(lget s1 (i3:Int)).bind fun x5=>(x2 x5).bind fun x6=>(bif x6 then some (i3:Int) else (Zh2 s1 x2 m4) (i3+1))
def Zpq (s1:(List Inst))(x2:(Inst→Option Bool)):Option Int:=
 Zh2 s1 x2 ((s1.length:Int):Int).toNat 0
theorem Y7q:Q2 Tryz.prog 288 (rd (Z1 Z0f)) (fn1 Tryz.prog Z0f Z3) (rd (Z0 .i64)) Zpq:=fun s1 x2 r h=>I0 Tryz.func288 rfl Tryz.ntmps288 rfl fun w H Z=>by
 unfold Zpq at h
 refine SR<|Ak rfl<|Nl<|sq<|SR<|Md rfl<|Ac (Z07 rfl rfl Z46 (vt rfl)) rfl<|Mk rfl<|Nl<|bk<|LG (d:=[]) (ν:=Nat×Nat) (fun (m4,i3)=>(Cnt (s1.length:Int) i3 m4∧Zh2 s1 x2 m4 i3=some r,m4,[(0,rd (Z1 Z0f) s1),(1,fn1 Tryz.prog Z0f Z3 x2),(7,rd (Z0 .i64) (s1.length:Int)),(8,rd (Z0 .i64) (i3:Int))],[])) (((s1.length:Int):Int).toNat,0) ⟨Cnt.start _,h⟩ (FX rfl) ?_
 rintro ⟨m4,i3⟩ ⟨hsf1,h⟩
 dsimp only at hsf1 h ⊢
 cases m4 with
 | zero=>
  unfold Zh2 at h
  refine SR<|Ac (Zh rfl rfl (vt rfl) (vt rfl)) rfl<|Nl<|sq<|Cn rfl (fun hc=>absurd (of_decide_eq_true hc) hsf1.zero) (fun hc=>?_)
  refine xt<|SR<|Ak rfl<|Nl<|rt ?_
  cases h;exact Z9 Tryz.results288 rfl (Z5 rfl)
 | succ m4=>
  unfold Zh2 at h
  refine SR<|Ac (Zh rfl rfl (vt rfl) (vt rfl)) rfl<|Nl<|sq<|Cn rfl (fun hc=>?_) (fun hc=>absurd hsf1.succ (of_decide_eq_false hc))
  have hlti3:=of_decide_eq_true hc
  refine sk<|sq<|bk<|SR<|Md rfl<|As rfl<|Nl<|sq ?_
  obtain ⟨x5,hx5,x6,hx6,h⟩:=bs2 h
  refine Rg<|Ac (Zk (A:=fn1 Tryz.prog Z0f Z3 x2) rfl rfl (vt rfl)) rfl<|Md rfl<|Md rfl<|Ac (Z0d rfl rfl Z46 (vt rfl) (vt rfl) hx5) rfl<|Lp1 Z2h rfl<|Ac (Z2z hx6 rfl rfl (vt rfl) (vt rfl)) rfl<|Nl<|Cq rfl h (fun h=>?_) (fun h=>?_)
  ·refine SR<|Md rfl<|As rfl<|Nl<|rt ?_
   cases h;exact Z9 Tryz.results288 rfl (Z5 rfl)
  ·refine sk<|Rg<|Ac (Z0a (t:=7) rfl rfl (vt rfl) (vk rfl) (vt rfl) hlti3) rfl<|Md rfl<|Nl ?_
   exact ⟨(_,_),Nat.lt_succ_self _,⟨hsf1.next,h⟩,FX rfl⟩
def Z9r (l1:(List Inst))(k2:Int):Option (Inst×Bool):=
 (Zpq l1 (fun x=>Zk5 x k2)).bind fun x5=>(bif (decide (x5<0)) then some ((⟨0,0,Z0r,Z0r,[]⟩:Inst),false) else (lget l1 x5).bind fun x6=>(Z8z x6.Acts).bind fun x8=>some ({x6 with Acts:=x8},true))
theorem Zfn:Q2 Tryz.prog 266 (rd (Z1 Z0f)) (rd (Z0 .i64)) (fun r=>Z0t (rd Z0f r.1) (rd Z3 r.2)) Z9r:=fun l1 k2 r h=>I0 Tryz.func266 rfl Tryz.ntmps266 rfl fun w H Z=>by
 unfold Z9r at h
 refine SR<|Cv rfl (Zm 4 rfl rfl (vt rfl)) fun g3=>Cv rfl (Zo 5 rfl rfl Z44) fun g4=>Ab rfl<|Nl<|sq<|AW.freezeB 3 4 rfl rfl rfl ?_
 obtain ⟨x5,hx5,h⟩:=Z6 h
 refine Rg<|Md rfl<|Ac (Z30 (cs:=[.tmp 3]) (CAs:=[rp (Z0 .i64) k2]) (fun x=>Zk5 x k2) rfl rfl Yff ⟨vt rfl,trivial⟩ (fun x y h=>Yow _ _ y h)) rfl<|Cl [8,9] (Y7q _ _ _ hx5) Yji rfl<|As rfl<|Nl<|sq<|SR<|Md rfl<|Ac (Zh rfl rfl (vt rfl) (vk rfl)) rfl<|Nl<|Cq rfl h (fun h=>?_) (fun h=>?_)
 ·refine SR<|Ac (opb (⟨0,0,Z0r,Z0r,[]⟩:Inst) Z44 rfl Zo1 (pn rfl)) rfl<|Ze Z2h 5 rfl<|Ab rfl<|Nl<|rt ?_
  cases h;exact Z0c Tryz.results266 rfl (Zv rfl (i:=5) rfl Z2h) (Z5 rfl)
 ·refine sk<|sq ?_
  obtain ⟨x6,hx6,h⟩:=Z6 h
  refine Rg<|Md rfl<|Md rfl<|Ac (Z0d rfl rfl Z46 (vt rfl) (vt rfl) hx6) rfl<|Lp1 Z2h rfl<|Cv rfl (Zo 8 rfl rfl Z44) fun g7=>Ze Z2h 8 rfl<|Nl<|sq ?_
  obtain ⟨x8,hx8,h⟩:=Z6 h
  refine Rg<|Zf lInst_4 Z4l rfl<|Ld Z2x 8 rfl<|Cl [19] (Zss _ _ hx8) Zfo rfl<|Zf lInst_4 Z4l rfl<|Ze Z2x 8 rfl<|Nl<|SR<|Ld Z2h 8 rfl<|Ze Z2h 5 rfl<|Ab rfl<|Nl<|rt ?_
  cases h;exact Z0c Tryz.results266 rfl (Zv rfl (i:=5) rfl Z2h) (Z5 rfl)
def Zkw (i1:Int)(x2:Zs):Option Tern:=
 (chk 24 i1).bind fun j4=>(Z6k (Vector.get x2 j4)).bind fun x5=>some x5
theorem Yg8:Q2 Tryz.prog 200 (rd (Z0 .i64)) (rp (Z4 24 Z7)) (rd Z7) Zkw:=fun i1 x2 r h=>I0 Tryz.func200 rfl Tryz.ntmps200 rfl fun w H Z=>by
 unfold Zkw at h
 refine SR<|Cv rfl (Zo 4 rfl rfl Z2l) fun g3=>Nl<|sq ?_
 obtain ⟨j4,hj4,x5,hx5,h⟩:=bs2 h
 refine Rg<|Md rfl<|Ac (Z69 rfl rfl Z8n (vt rfl) (vt rfl) hj4) rfl<|Lp1 Z0j rfl<|Cl [6] (Z7p _ _ hx5) e33 rfl<|Ze Z0j 4 rfl<|Nl<|rt ?_
 cases h;exact Z9 Tryz.results200 rfl (Zv rfl (i:=4) rfl Z0j)
def Zdi (x1:(Int→Option Tern)):Nat→Nat→Zs→Option Zs
 | 0,i6,b5=>some b5
 | m7+1,i6,b5=>(x1 (i6:Int)).bind fun x8=>(chk 24 (i6:Int)).bind fun j9=>(Zdi x1 m7) (i6+1) (Vector.set b5 j9.1 x8 j9.2)
def Zhx (x1:(Int→Option Tern)):Option Zs:=
 Zdi x1 (24:Int).toNat 0 (Vector.replicate 24 Z1h)
theorem Y0c:Q1 Tryz.prog 198 (fn1 Tryz.prog (Z0 .i64) Z7) (rd (Z4 24 Z7)) Zhx:=fun x1 r h=>I0 Tryz.func198 rfl Tryz.ntmps198 rfl fun w H Z=>by
 unfold Zhx at h
 refine SR<|Cv rfl (Zo 3 rfl rfl Z60) fun g2=>Nl<|SR<|Cv rfl (Zo 4 rfl rfl Z60) fun g3=>Nl<|sq<|SR<|Mk rfl<|Nl<|bk<|LG (d:=[]) (ν:=Nat×Nat×Zs) (fun (m7,i6,b5)=>(Cnt 24 i6 m7∧Zdi x1 m7 i6 b5=some r,m7,[(0,fn1 Tryz.prog (Z0 .i64) Z7 x1),(2,Za g2 (Lens.id (Z4 24 Z7))),(3,Za g3 (Lens.id (Z4 24 Z7))),(5,rd (Z0 .i64) (i6:Int))],[(3,Zd g2 52 (Z4 24 Z7) (Vector.replicate 24 Z1h)),(4,Zd g3 52 (Z4 24 Z7) b5)])) ((24:Int).toNat,0,(Vector.replicate 24 Z1h)) ⟨Cnt.start _,h⟩ (FX rfl) ?_
 rintro ⟨m7,i6,b5⟩ ⟨hsf1,h⟩
 dsimp only at hsf1 h ⊢
 cases m7 with
 | zero=>
  unfold Zdi at h
  refine SR<|Ac (Zh rfl rfl (vt rfl) (vk rfl)) rfl<|Nl<|sq<|Cn rfl (fun hc=>absurd (of_decide_eq_true hc) hsf1.zero) (fun hc=>?_)
  refine xt<|SR<|Ld Z0s 4 rfl<|Ze Z0s 3 rfl<|Nl<|rt ?_
  cases h;exact Z9 Tryz.results198 rfl (Zv rfl (i:=3) rfl Z0s)
 | succ m7=>
  unfold Zdi at h
  refine SR<|Ac (Zh rfl rfl (vt rfl) (vk rfl)) rfl<|Nl<|sq<|Cn rfl (fun hc=>?_) (fun hc=>absurd hsf1.succ (of_decide_eq_false hc))
  have hlti6:=of_decide_eq_true hc
  refine sk<|sq<|bk<|SR<|Md rfl<|As rfl<|Nl ?_
  obtain ⟨x8,hx8,j9,hj9,h⟩:=bs2 h
  refine Rg<|Md rfl<|Ac (Zk (A:=fn1 Tryz.prog (Z0 .i64) Z7 x1) rfl rfl (vt rfl)) rfl<|Md rfl<|Ac (Z2z hx8 rfl rfl (vt rfl) (vt rfl)) rfl<|Ac (Z2o rfl rfl Z8n (vt rfl) (vt rfl) hj9) rfl<|Ze Z0j 4 rfl<|Nl<|Rg<|Ac (Z43 rfl rfl (vt rfl) (vk rfl) rfl hlti6) rfl<|Md rfl<|Nl ?_
  exact ⟨(_,_,_),Nat.lt_succ_self _,⟨hsf1.next,h⟩,FX rfl⟩
def Zhc (x1:Zs):Option Zs:=
 (Zhx (fun x=>Zkw x x1)).bind fun x4=>some x4
theorem Ztr:Q1 Tryz.prog 157 (rd (Z4 24 Z7)) (rd (Z4 24 Z7)) Zhc:=fun x1 r h=>I0 Tryz.func157 rfl Tryz.ntmps157 rfl fun w H Z=>by
 unfold Zhc at h
 refine SR<|Cv rfl (Zm 2 rfl rfl (vt rfl)) fun g2=>Cv rfl (Zo 3 rfl rfl Z60) fun g3=>Nl<|sq<|AW.freezeB 1 2 rfl rfl rfl ?_
 obtain ⟨x4,hx4,h⟩:=Z6 h
 refine Rg<|Ac (Z30 (cs:=[.tmp 1]) (CAs:=[rp (Z4 24 Z7) x1]) (fun x=>Zkw x x1) rfl rfl Yfm ⟨vt rfl,trivial⟩ (fun x y h=>Yg8 _ _ y h)) rfl<|Cl [3] (Y0c _ _ hx4) Zx4 rfl<|Ze Z0s 3 rfl<|Nl<|rt ?_
 cases h;exact Z9 Tryz.results157 rfl (Zv rfl (i:=3) rfl Z0s)
def Zkg (a1:Tern)(b2:Tern):Option Tern:=
 (Z6k a1).bind fun x6=>(Z6k b2).bind fun x7=>(Z7a x6.Value x7.Mask).bind fun x8=>(Z8u x8 x7.Value).bind fun x9=>(Z8u x6.Mask x7.Mask).bind fun x10=>some (⟨x9,x10⟩:Tern)
theorem Zx2:Q2 Tryz.prog 159 (rd Z7) (rd Z7) (rd Z7) Zkg:=fun a1 b2 r h=>I0 Tryz.func159 rfl Tryz.ntmps159 rfl fun w H Z=>by
 unfold Zkg at h
 refine SR<|Cv rfl (Zm 3 rfl rfl (vt rfl)) fun g3=>Cv rfl (Zm 4 rfl rfl (vt rfl)) fun g4=>Cv rfl (Zo 5 rfl rfl Z2l) fun g5=>Nl<|sq ?_
 obtain ⟨x6,hx6,x7,hx7,h⟩:=bs2 h
 refine AR Z03 (by kernel_rfl)<|Zu Z0j 3 rfl<|SCl [5] (Z7p _ _ hx6) e33 rfl<|Zu Z0j 4 rfl<|SCl [7] (Z7p _ _ hx7) e33 rfl<|SSt Z0j 3 rfl<|SSt Z0j 4 rfl<|Sn<|sq ?_
 obtain ⟨x8,hx8,x9,hx9,x10,hx10,h⟩:=bs3 h
 refine AR Z03 (by kernel_rfl)<|SFd lTern_0 Z42 rfl<|Zu Z06 3 rfl<|SFd lTern_1 Z3q rfl<|Zu Z06 4 rfl<|SCl [10,12] (Z95 _ _ _ hx8) Z8b rfl<|SFd lTern_0 Z42 rfl<|Zu Z06 4 rfl<|SCl [13,15] (Zbq _ _ _ hx9) Zcg rfl<|SFd lTern_1 Z3q rfl<|Zu Z06 3 rfl<|SFd lTern_1 Z3q rfl<|Zu Z06 4 rfl<|SCl [18,20] (Zbq _ _ _ hx10) Zcg rfl<|Sd (lo [16,21] [] rfl fun S hs hr=>opb (⟨x9,x10⟩:Tern) Z2l rfl Z78 (pc Z8t (vh hs 16 rfl rfl)<|pc Z8s (vh hs 21 rfl rfl)<|pn rfl))<|SSt Z0j 5 rfl<|Sn<|rt ?_
 cases h;exact Z9 Tryz.results159 rfl (Zv rfl (i:=5) rfl Z0j)
def Z8h (x1:Zs)(x2:Int)(x3:Wide)(m4:Wide):Option Zs:=
 (Zhc x1).bind fun x9=>(Z85 x2).bind fun x10=>(bif x10 then (chk 24 x2).bind fun j11=>(Zkg (Vector.get x9 j11) (⟨x3,m4⟩:Tern)).bind fun x12=>(chk 24 x2).bind fun j13=>some (Vector.set x9 j13.1 x12 j13.2) else some x9)
theorem Zat:Q4 Tryz.prog 103 (rd (Z4 24 Z7)) (rd (Z0 .i64)) (rd Zw) (rd Zw) (rd (Z4 24 Z7)) Z8h:=fun x1 x2 x3 m4 r h=>I0 Tryz.func103 rfl Tryz.ntmps103 rfl fun w H Z=>by
 unfold Z8h at h
 refine SR<|Cv rfl (Zm 5 rfl rfl (vt rfl)) fun g5=>Cv rfl (Zm 7 rfl rfl (vt rfl)) fun g6=>Cv rfl (Zm 8 rfl rfl (vt rfl)) fun g7=>Cv rfl (Zo 9 rfl rfl Z60) fun g8=>Nl<|sq ?_
 obtain ⟨x9,hx9,h⟩:=Z6 h
 refine Rg<|Ld Z0s 5 rfl<|Cl [9] (Ztr _ _ hx9) Zuj rfl<|Ze Z0s 5 rfl<|Nl<|sq<|sq ?_
 obtain ⟨x10,hx10,h⟩:=Z6 h
 refine Rg<|Md rfl<|Cl [11] (Zcm _ _ hx10) Zbi rfl<|Nl<|Cq rfl h (fun h=>?_) (fun h=>?_)
 ·obtain ⟨j11,hj11,x12,hx12,j13,hj13,h⟩:=bs3 h
  refine AR Z03 (by kernel_rfl)<|SMd rfl<|SMd rfl<|Sd (lo [4,14] [] rfl fun S hs hr=>Z2o rfl rfl Z8n (vh hs 4 rfl rfl) (vh hs 14 rfl rfl) hj11)<|Zu Z0j 5 rfl<|Zu Z06 7 rfl<|Zu Z06 8 rfl<|Sd (lo [17,18] [] rfl fun S hs hr=>opb (⟨x3,m4⟩:Tern) Z2l rfl Z78 (pc Z8t (vh hs 17 rfl rfl)<|pc Z8s (vh hs 18 rfl rfl)<|pn rfl))<|SCl [16,19] (Zx2 _ _ _ hx12) Y39 rfl<|Sd (lo [4,13] [] rfl fun S hs hr=>Z2o rfl rfl Z8n (vh hs 4 rfl rfl) (vh hs 13 rfl rfl) hj13)<|SSt Z0j 5 rfl<|Sn<|SR<|Ld Z0s 5 rfl<|Ze Z0s 9 rfl<|Nl<|rt ?_
  cases h;exact Z9 Tryz.results103 rfl (Zv rfl (i:=9) rfl Z0s)
 ·refine sk<|SR<|Ld Z0s 5 rfl<|Ze Z0s 9 rfl<|Nl<|rt ?_
  cases h;exact Z9 Tryz.results103 rfl (Zv rfl (i:=9) rfl Z0s)
end Go.Proofs.YtjppkmpecdbepaaGreatDoor.W
