/- A part of the proof. -/
import Derived.Test.YtjppkmpecdbepaaGreatDoorG3
set_option linter.unusedVariables false
set_option maxHeartbeats 1000000
set_option maxRecDepth 4000
set_option linter.unusedSimpArgs false
namespace Go.Proofs.YtjppkmpecdbepaaGreatDoor.W
open Go Go.Wb
theorem Y4p:Ent Tryz.prog 201:=Ent.mk Tryz.func201 rfl rfl
theorem Zzc:Ent Tryz.prog 105:=Ent.mk Tryz.func105 rfl rfl
theorem Y8t:Ent Tryz.prog 156:=Ent.mk Tryz.func156 rfl rfl
theorem Yh0:Ent Tryz.prog 155:=Ent.mk Tryz.func155 rfl rfl
theorem e56:Ent Tryz.prog 56:=Ent.mk Tryz.func56 rfl rfl
theorem e58:Ent Tryz.prog 58:=Ent.mk Tryz.func58 rfl rfl
theorem e57:Ent Tryz.prog 57:=Ent.mk Tryz.func57 rfl rfl
theorem Ykp:Ent Tryz.prog 101:=Ent.mk Tryz.func101 rfl rfl
theorem Yh8:Ent Tryz.prog 102:=Ent.mk Tryz.func102 rfl rfl
theorem e30:Ent Tryz.prog 30:=Ent.mk Tryz.func30 rfl rfl
theorem e29:Ent Tryz.prog 29:=Ent.mk Tryz.func29 rfl rfl
def Zg2 (x6:(Group×Bool))(x3:Zs)(R_norm_world_list:(norm_world→(List Atom)→Option (List Atom)))(w1:norm_world):(List Int)→Nat→(List Atom)→Option (List Atom)
 | [],i13,l11=>some l11
 | x15::l14,i13,l11=>(lget x6.1.Buckets x15).bind fun x16=>(Zj3 [] x16.Acts).bind fun x17=>(Zna x17).bind fun x18=>(Zhz x18 x3).bind fun x19=>(R_norm_world_list {w1 with depth:=(IntKind.i64.wrap (w1.depth+1))} x19.1).bind fun x21=>(Z11 l11 x21).bind fun l22=>(Zg2 x6 x3 R_norm_world_list w1 l14) (i13+1) l22
def Zo4 (R_norm_world_list:(norm_world→(List Atom)→Option (List Atom)))(R_norm_world_group:(norm_world→Int→Zs→Option (List Atom)))(w1:norm_world)(i2:Int)(x3:Zs):Option (List Atom):=
 (Za7 w1.groups i2).bind fun x6=>(bif ((!x6.2)||(decide (w1.depth≥8))) then some [] else (Zpc ({w1 with depth:=(IntKind.i64.wrap (w1.depth+1))}.Env) x6.1).bind fun x8=>Zg2 x6 x3 R_norm_world_list w1 x8 0 [])
theorem Ye4 (R_norm_world_list:(norm_world→(List Atom)→Option (List Atom)))(hR_norm_world_list:∀(w1:norm_world) (a2:(List Atom)) (r:(List Atom)),R_norm_world_list w1 a2=some r→PCon Tryz.prog 105 [rd Z3l w1,rd (Z1 Z0p) a2] (rd (Z1 Z0p) r))(R_norm_world_group:(norm_world→Int→Zs→Option (List Atom)))(hR_norm_world_group:∀(w1:norm_world) (i2:Int) (x3:Zs) (r:(List Atom)),R_norm_world_group w1 i2 x3=some r→PCon Tryz.prog 161 [rd Z3l w1,rd (Z0 .i64) i2,rd (Z4 24 Z7) x3] (rd (Z1 Z0p) r))(w1:norm_world)(i2:Int)(x3:Zs)(r:(List Atom))(h:Zo4 R_norm_world_list R_norm_world_group w1 i2 x3=some r):PCon Tryz.prog 161 [rd Z3l w1,rd (Z0 .i64) i2,rd (Z4 24 Z7) x3] (rd (Z1 Z0p) r):=by
 refine PCon.of (Con.intro0 Tryz.func161 rfl Tryz.ntmps161 rfl fun w H Z=>?_)
 unfold Zo4 at h
 refine SR<|Cv rfl (Zm 4 rfl rfl (vt rfl)) fun g4=>Cv rfl (Zm 6 rfl rfl (vt rfl)) fun g5=>Ac (Zn (A:=rd (Z1 Z0p) []) rfl rfl Z04) rfl<|Nl<|sq ?_
 obtain ⟨x6,hx6,h⟩:=Z6 h
 refine Rg<|Zf lnorm_world_1 Ybe rfl<|Ld Z3r 4 rfl<|Md rfl<|Cl [16,17] (Zer _ _ _ hx6) e28 rfl<|Mt2 rfl<|Ac (Z10 rfl rfl (vt rfl)) rfl<|Ac (Z0z rfl rfl (vt rfl)) rfl<|Cv rfl (Zo 8 rfl rfl Z3a) fun g7=>Ze Z1m 8 rfl<|As rfl<|Nl<|sq<|SR<|Md rfl<|Ac (Z0g rfl rfl (vt rfl)) rfl<|Md rfl<|Gd rfl (fun hq=>Z0i Znm rfl rfl Zs2 (vt rfl))<|Gd rfl (fun hq=>Z08 rfl rfl Zc (Z8 rfl hq) (i:=4) rfl)<|Gd rfl (fun hq=>Z1z rfl rfl (Z8 rfl hq) (vk rfl))<|Ac (Z1u rfl rfl (vt rfl) (vt rfl)) rfl<|Nl<|Cq rfl h (fun h=>?_) (fun h=>?_)
 ·refine SR<|Ac (Zn (A:=rd (Z1 Z0p) []) rfl rfl Z04) rfl<|Nl<|rt ?_
  cases h;exact Z9 Tryz.results161 rfl (Z5 rfl)
 ·refine sk<|SR<|Zf Znm Zs2 rfl<|Ld Zc 4 rfl<|Ac (Z0o rfl rfl (vt rfl) (vk rfl)) rfl<|Zf Znm Zs2 rfl<|Ze Zc 4 rfl<|Nl<|sq<|AW.newnil 1001 206 Z0p<|Rg<|Ac (Zn rfl rfl vc) rfl<|Nl<|sq<|sq ?_
  obtain ⟨x8,hx8,h⟩:=Z6 h
  refine Rg<|Zf lnorm_world_0 Yak rfl<|Ld Z6q 4 rfl<|Ld Z1m 8 rfl<|Cl [33,34] (Ygg _ _ _ hx8) Y4p rfl<|Ac (Z07 rfl rfl Z15 (vt rfl)) rfl<|Mk rfl<|Nl<|bk<|LG (d:=[]) (ν:=(List Int)×Nat×(List Atom)×Value) (fun (l14,i13,l11,v12)=>(Sfx x8 i13 l14∧Zg2 x6 x3 R_norm_world_list w1 l14 i13 l11=some r,l14.length,[(3,Za g4 (Lens.id Z3l)),(5,Za g5 (Lens.id (Z4 24 Z7))),(7,Za g7 (Lens.id Zt)),(9,Zg v12),(35,rd (Z1 (Z0 .i64)) x8),(36,rd (Z0 .i64) (x8.length:Int)),(37,rd (Z0 .i64) (i13:Int))],[(4,Zd g4 213 Z3l {w1 with depth:=(IntKind.i64.wrap (w1.depth+1))}),(6,Zd g5 52 (Z4 24 Z7) x3),(8,Zd g7 83 Zt x6.1),(1001,Zi v12 206 Z0p l11)])) (x8,0,[],(.slice none 0 0)) ⟨Sfx.start _,h⟩ (FX rfl) ?_
  rintro ⟨l14,i13,l11,v12⟩ ⟨hsf1,h⟩
  dsimp only at hsf1 h ⊢
  cases l14 with
  | nil=>
   unfold Zg2 at h
   refine SR<|Ac (Zh rfl rfl (vt rfl) (vt rfl)) rfl<|Nl<|sq<|Cn rfl (fun hc=>absurd (of_decide_eq_true hc) hsf1.nil) (fun hc=>?_)
   refine xt<|SR<|Mw rfl<|Aw rfl<|Nl<|AW.freezes [6,9,60] 1001 rfl ⟨rfl,rfl,rfl,trivial⟩ rfl<|rt ?_
   cases h;exact Z9 Tryz.results161 rfl (Z5 rfl)
  | cons x15 l14=>
   unfold Zg2 at h
   refine SR<|Ac (Zh rfl rfl (vt rfl) (vt rfl)) rfl<|Nl<|sq<|Cn rfl (fun hc=>?_) (fun hc=>absurd hsf1.cons (of_decide_eq_false hc))
   have hlti13:=of_decide_eq_true hc
   refine sk<|sq<|bk<|SR<|Ac (Z0d rfl rfl Z15 (vt rfl) (vt rfl) hsf1.lget) rfl<|Lp1 Zc rfl<|As rfl<|Nl<|sq ?_
   obtain ⟨x16,hx16,x17,hx17,x18,hx18,x19,hx19,h⟩:=bs4 h
   refine AR Z03 (by kernel_rfl)<|SFd lGroup_2 Z4o rfl<|Zu Z3u 8 rfl<|SMd rfl<|Sd (lo [43,44] [] rfl fun S hs hr=>Z0d rfl rfl Z2y (vh hs 43 rfl rfl) (vh hs 44 rfl rfl) hx16)<|SFp lBucket_3 Zc9 rfl<|SLp Z2x rfl<|Sd (lo [47] [] rfl fun S hs hr=>Zz (xs:=[.const (Value.slice none 0 0),.tmp 47]) (Y4b _ _ _ hx17) Y0v rfl rfl ⟨Z04,vt ((hs 47 rfl).trans rfl),trivial⟩)<|SCl [48] (Y2b _ _ hx18) Y40 rfl<|Zu Z0s 6 rfl<|SCl [49,50] (Zyx _ _ _ hx19) Zvl rfl<|Sd (lo [51] [] rfl fun S hs hr=>Zk (A:=Z0t (rd (Z1 Z0p) x19.1) (rd (Z4 24 Z7) x19.2)) rfl rfl (vh hs 51 rfl rfl))<|Sd (lo [41] [] rfl fun S hs hr=>Z10 rfl rfl (vh hs 41 rfl rfl))<|Sd (lo [41] [] rfl fun S hs hr=>Z0z rfl rfl (vh hs 41 rfl rfl))<|Sd (Z18 (us:=[(13,Z28 52 (Z4 24 Z7) (Vector.replicate 24 Z1h))]) (ur:=[]) [] [] rfl fun S hs hr=>Z55 rfl rfl rfl Z60)<|SAs rfl<|Sd (Z18 (us:=[(13,Z28 52 (Z4 24 Z7) x19.2)]) (ur:=[]) [13,53] [] rfl fun S hs hr=>Z4z rfl rfl Z0s ((hs 13 rfl).trans rfl) (vh hs 53 rfl rfl))<|Sn<|AW.unpackP 13 14 rfl rfl fun g20=>?_
   obtain ⟨x21,hx21,l22,hl22,h⟩:=bs2 h
   refine Rg<|Mw rfl<|Ld Y29 4 rfl<|Md rfl<|Cl [55,56] (hR_norm_world_list _ _ _ hx21) Zzc rfl<|Cv rfl (Z1f 1001 hl22 rfl rfl Zcp (vt rfl) rfl (vt rfl)) fun v23=>Aw rfl<|Nl<|Rg<|Ac (Z0a (t:=36) rfl rfl (vt rfl) (vk rfl) (vt rfl) hlti13) rfl<|Md rfl<|Nl ?_
   exact ⟨(_,_,_,_),Nat.lt_succ_self _,⟨hsf1.next,h⟩,FX rfl⟩
def Z64:Nat→(norm_world→(List Atom)→Option (List Atom))×(norm_world→Int→Zs→Option (List Atom))
 | 0=>((fun _ _=>none),(fun _ _ _=>none))
 | n+1=>((Znp (Z64 n).1 (Z64 n).2),(Zo4 (Z64 n).1 (Z64 n).2))
theorem Zvz:∀n:Nat,(∀(w1:norm_world) (a2:(List Atom)) (r:(List Atom)),(Z64 n).1 w1 a2=some r→PCon Tryz.prog 105 [rd Z3l w1,rd (Z1 Z0p) a2] (rd (Z1 Z0p) r))∧(∀(w1:norm_world) (i2:Int) (x3:Zs) (r:(List Atom)),(Z64 n).2 w1 i2 x3=some r→PCon Tryz.prog 161 [rd Z3l w1,rd (Z0 .i64) i2,rd (Z4 24 Z7) x3] (rd (Z1 Z0p) r))
 | 0=>⟨(by intros;rename_i h;cases h),(by intros;rename_i h;cases h)⟩
 | n+1=>by
  have ih:=Zvz n
  exact ⟨(Yko (Z64 n).1 ih.1 (Z64 n).2 ih.2),(Ye4 (Z64 n).1 ih.1 (Z64 n).2 ih.2)⟩
def Y2r (w1:norm_world)(a2:(List Atom)):Option (List Atom):=(Z64 Z2p).1 w1 a2
theorem Yfb:∀(w1:norm_world) (a2:(List Atom)) (r:(List Atom)),Y2r w1 a2=some r→PCon Tryz.prog 105 [rd Z3l w1,rd (Z1 Z0p) a2] (rd (Z1 Z0p) r):=(Zvz Z2p).1
def Zpt (l1:(List Group))(x2:Env)(a3:(List Atom)):Option (List Atom):=
 (Y2r (⟨x2,l1,0⟩:norm_world) a3).bind fun x5=>some x5
theorem Yb9:Q3 Tryz.prog 58 (rd (Z1 Zt)) (rd Z1a) (rd (Z1 Z0p)) (rd (Z1 Z0p)) Zpt:=fun l1 x2 a3 r h=>I0 Tryz.func58 rfl Tryz.ntmps58 rfl fun w H Z=>by
 unfold Zpt at h
 refine SR<|Cv rfl (Zm 5 rfl rfl (vt rfl)) fun g4=>Ac (Zn (A:=rd (Z1 Z0p) []) rfl rfl Z04) rfl<|Nl<|sq ?_
 obtain ⟨x5,hx5,h⟩:=Z6 h
 refine Rg<|Ld Z6q 5 rfl<|Md rfl<|Ac (opb (⟨x2,l1,0⟩:norm_world) Y5z rfl Yb6 (pc Ydc (vt rfl)<|pc Yek (vt rfl)<|pn rfl)) rfl<|Md rfl<|Cl [9,10] (Yfb _ _ _ hx5) Zzc rfl<|As rfl<|Nl<|rt ?_
 cases h;exact Z9 Tryz.results58 rfl (Z5 rfl)
def Zns (b1:spread_beam)(x2:Zs):Option spread_beam:=
 (Zld b1.got x2).bind fun x6=>some (⟨b1.cube,x6⟩:spread_beam)
theorem Ybu:Q2 Tryz.prog 101 (rd Z2u) (rd (Z4 24 Z7)) (rd Z2u) Zns:=fun b1 x2 r h=>I0 Tryz.func101 rfl Tryz.ntmps101 rfl fun w H Z=>by
 unfold Zns at h
 refine SR<|Cv rfl (Zm 3 rfl rfl (vt rfl)) fun g3=>Cv rfl (Zm 4 rfl rfl (vt rfl)) fun g4=>Cv rfl (Zo 5 rfl rfl Za1) fun g5=>Nl<|sq ?_
 obtain ⟨x6,hx6,h⟩:=Z6 h
 refine AR Z03 (by kernel_rfl)<|SFd lspread_beam_0 Zex rfl<|Zu Z09 3 rfl<|SFd lspread_beam_1 Zay rfl<|Zu Z0s 3 rfl<|Zu Z0s 4 rfl<|SCl [8,9] (Zxr _ _ _ hx6) Y41 rfl<|Sd (lo [6,10] [] rfl fun S hs hr=>opb (⟨b1.cube,x6⟩:spread_beam) Za1 rfl Zti (pc Zyt (vh hs 6 rfl rfl)<|pc Y2i (vh hs 10 rfl rfl)<|pn rfl))<|SSt Z5b 5 rfl<|Sn<|rt ?_
 cases h;exact Z9 Tryz.results101 rfl (Zv rfl (i:=5) rfl Z5b)
def Zng (l1:Link)(x2:Int)(x3:Int)(x4:Net):Option Bool:=
 (opt ((decide (l1.From=x2))&&(decide (l1.Out=x3))) (Zee x4 l1.To)).bind fun x6=>some (((decide (l1.From=x2))&&(decide (l1.Out=x3)))&&x6)
theorem Yh6:Q4 Tryz.prog 156 (rd Z31) (rp (Z0 .i64)) (rp (Z0 .i64)) (rp Z1v) (rd Z3) Zng:=fun l1 x2 x3 x4 r h=>I0 Tryz.func156 rfl Tryz.ntmps156 rfl fun w H Z=>by
 unfold Zng at h
 refine SR<|Cv rfl (Zm 5 rfl rfl (vt rfl)) fun g5=>Ab rfl<|Nl<|sq ?_
 obtain ⟨x6,hx6,h⟩:=Z6 h
 refine Rg<|Zf lLink_0 Zu5 rfl<|Ld Zc 5 rfl<|Lp1 Zc rfl<|Ac (Zy rfl rfl (vt rfl) (vt rfl)) rfl<|Md rfl<|Gd rfl (fun hq=>Z0i lLink_1 rfl rfl Znq (vt rfl))<|Gd rfl (fun hq=>Z08 rfl rfl Zc (Z8 rfl hq) (i:=5) rfl)<|Gd rfl (fun hq=>Z4i rfl rfl Zc (vt rfl))<|Gd rfl (fun hq=>Zy rfl rfl (Z8 rfl hq) (Z8 rfl hq))<|Ac (Z0h rfl rfl (vt rfl) (vt rfl)) rfl<|Md rfl<|Gd rfl (fun hq=>Z4i rfl rfl Z61 (vt rfl))<|Gd rfl (fun hq=>Z0i lLink_2 rfl rfl Zop (vt rfl))<|Gd rfl (fun hq=>Z08 rfl rfl Zc (Z8 rfl hq) (i:=5) rfl)<|Gd rfl (fun hq=>Zz (xs:=[.tmp 17,.tmp 19]) (Zta _ _ _ (Z1p hx6 hq)) e38 rfl rfl ⟨Z8 rfl hq,Z8 rfl hq,trivial⟩)<|Ac (Z0h rfl rfl (vt rfl) (vt rfl)) rfl<|As rfl<|Nl<|rt ?_
 cases h;exact Z9 Tryz.results156 rfl (Z5 rfl)
def Zg7 (s1:(List Link))(x2:(Link→Option Bool)):Nat→Nat→Option Int
 | 0,i3=>some (-1)
 | m4+1,i3=>(lget s1 (i3:Int)).bind fun x5=>(x2 x5).bind fun x6=>(bif x6 then some (i3:Int) else (Zg7 s1 x2 m4) (i3+1))
def Zr2 (s1:(List Link))(x2:(Link→Option Bool)):Option Int:=
 Zg7 s1 x2 ((s1.length:Int):Int).toNat 0
theorem Yhs:Q2 Tryz.prog 155 (rd (Z1 Z31)) (fn1 Tryz.prog Z31 Z3) (rd (Z0 .i64)) Zr2:=fun s1 x2 r h=>I0 Tryz.func155 rfl Tryz.ntmps155 rfl fun w H Z=>by
 unfold Zr2 at h
 refine SR<|Ak rfl<|Nl<|sq<|SR<|Md rfl<|Ac (Z07 rfl rfl Z9t (vt rfl)) rfl<|Mk rfl<|Nl<|bk<|LG (d:=[]) (ν:=Nat×Nat) (fun (m4,i3)=>(Cnt (s1.length:Int) i3 m4∧Zg7 s1 x2 m4 i3=some r,m4,[(0,rd (Z1 Z31) s1),(1,fn1 Tryz.prog Z31 Z3 x2),(7,rd (Z0 .i64) (s1.length:Int)),(8,rd (Z0 .i64) (i3:Int))],[])) (((s1.length:Int):Int).toNat,0) ⟨Cnt.start _,h⟩ (FX rfl) ?_
 rintro ⟨m4,i3⟩ ⟨hsf1,h⟩
 dsimp only at hsf1 h ⊢
 cases m4 with
 | zero=>
  unfold Zg7 at h
  refine SR<|Ac (Zh rfl rfl (vt rfl) (vt rfl)) rfl<|Nl<|sq<|Cn rfl (fun hc=>absurd (of_decide_eq_true hc) hsf1.zero) (fun hc=>?_)
  refine xt<|SR<|Ak rfl<|Nl<|rt ?_
  cases h;exact Z9 Tryz.results155 rfl (Z5 rfl)
 | succ m4=>
  unfold Zg7 at h
  refine SR<|Ac (Zh rfl rfl (vt rfl) (vt rfl)) rfl<|Nl<|sq<|Cn rfl (fun hc=>?_) (fun hc=>absurd hsf1.succ (of_decide_eq_false hc))
  have hlti3:=of_decide_eq_true hc
  refine sk<|sq<|bk<|SR<|Md rfl<|As rfl<|Nl<|sq ?_
  obtain ⟨x5,hx5,x6,hx6,h⟩:=bs2 h
  refine Rg<|Ac (Zk (A:=fn1 Tryz.prog Z31 Z3 x2) rfl rfl (vt rfl)) rfl<|Md rfl<|Md rfl<|Ac (Z0d rfl rfl Z9t (vt rfl) (vt rfl) hx5) rfl<|Lp1 Zqs rfl<|Ac (Z2z hx6 rfl rfl (vt rfl) (vt rfl)) rfl<|Nl<|Cq rfl h (fun h=>?_) (fun h=>?_)
  ·refine SR<|Md rfl<|As rfl<|Nl<|rt ?_
   cases h;exact Z9 Tryz.results155 rfl (Z5 rfl)
  ·refine sk<|Rg<|Ac (Z0a (t:=7) rfl rfl (vt rfl) (vk rfl) (vt rfl) hlti3) rfl<|Md rfl<|Nl ?_
   exact ⟨(_,_),Nat.lt_succ_self _,⟨hsf1.next,h⟩,FX rfl⟩
def Zsr (n1:Net)(a2:Int)(p3:Int):Option (Int×Int×Bool):=
 (Zr2 n1.Links (fun x=>Zng x a2 p3 n1)).bind fun x7=>(bif (decide (x7<0)) then some (0,0,false) else (lget n1.Links x7).bind fun x8=>(lget n1.Links x7).bind fun x9=>some (x8.To,x9.In,true))
theorem Ylx:Q3 Tryz.prog 102 (rd Z1v) (rd (Z0 .i64)) (rd (Z0 .i64)) (fun r=>Z3j (rd (Z0 .i64) r.1) (rd (Z0 .i64) r.2.1) (rd Z3 r.2.2)) Zsr:=fun n1 a2 p3 r h=>I0 Tryz.func102 rfl Tryz.ntmps102 rfl fun w H Z=>by
 unfold Zsr at h
 refine SR<|Cv rfl (Zm 4 rfl rfl (vt rfl)) fun g4=>Cv rfl (Zm 5 rfl rfl (vt rfl)) fun g5=>Cv rfl (Zm 6 rfl rfl (vt rfl)) fun g6=>Ak rfl<|Ak rfl<|Ab rfl<|Nl<|sq<|AW.freezeB 4 5 rfl rfl rfl<|AW.freezeB 5 6 rfl rfl rfl<|AW.freezeB 3 4 rfl rfl rfl ?_
 obtain ⟨x7,hx7,h⟩:=Z6 h
 refine Rg<|Fp lNet_1 Zkz rfl<|Lp1 Zje rfl<|Ac (Z30 (cs:=[.tmp 4,.tmp 5,.tmp 3]) (CAs:=[rp (Z0 .i64) a2,rp (Z0 .i64) p3,rp Z1v n1]) (fun x=>Zng x a2 p3 n1) rfl rfl Y8t ⟨vt rfl,vt rfl,vt rfl,trivial⟩ (fun x y h=>Yh6 _ _ _ _ y h)) rfl<|Cl [11,12] (Yhs _ _ _ hx7) Yh0 rfl<|As rfl<|Nl<|sq<|SR<|Md rfl<|Ac (Zh rfl rfl (vt rfl) (vk rfl)) rfl<|Nl<|Cq rfl h (fun h=>?_) (fun h=>?_)
 ·refine SR<|Ak rfl<|Ak rfl<|Ab rfl<|Nl<|rt ?_
  cases h;exact Zaw Tryz.results102 rfl (Z5 rfl) (Z5 rfl) (Z5 rfl)
 ·refine sk<|sq ?_
  obtain ⟨x8,hx8,x9,hx9,h⟩:=bs2 h
  refine AR Z03 (by kernel_rfl)<|SFp lNet_1 Zkz rfl<|SLp Zje rfl<|SMd rfl<|Sd (lo [17,18] [] rfl fun S hs hr=>Z0d rfl rfl Z9t (vh hs 17 rfl rfl) (vh hs 18 rfl rfl) hx8)<|SFp lLink_2 Zop rfl<|SLp Zc rfl<|SFp lNet_1 Zkz rfl<|SLp Zje rfl<|SMd rfl<|Sd (lo [23,24] [] rfl fun S hs hr=>Z0d rfl rfl Z9t (vh hs 23 rfl rfl) (vh hs 24 rfl rfl) hx9)<|SFp lLink_3 Zzj rfl<|SLp Zc rfl<|SAs rfl<|SAs rfl<|Sd (lo [] [] rfl fun S hs hr=>Zn (A:=rd Z3 true) rfl rfl vb)<|Sn<|rt ?_
  cases h;exact Zaw Tryz.results102 rfl (Z5 rfl) (Z5 rfl) (Z5 rfl)
def Zc5 (go1:Nat→(List Ray)→Net→Env→(List spread_table)→Int→Option Z0x)(i24:Nat)(b5:spread_beam)(x10:spread_table)(R_spread_sun_out:(Z0x→Int→spread_beam→(List Atom)→Int→Option Z0x))(a4:Int)(x6:Int):(List Zs)→Nat→(List Ray)→Net→Env→(List spread_table)→Int→Option Z0x
 | [],i39,l33,b35,b36,b37,b38=>go1 (i24+1) l33 b35 b36 b37 b38
 | x41::l40,i39,l33,b35,b36,b37,b38=>(bif (decide ((l33.length:Int)>b38)) then some (⟨b35,b36,b37,b38,l33⟩:Z0x) else (Zoi b5 x41).bind fun x43=>(bif (!x43.2) then (Zc5 go1 i24 b5 x10 R_spread_sun_out a4 x6 l40) (i39+1) l33 b35 b36 b37 b38 else (lget x10.Flat.Rules (i24:Int)).bind fun x45=>(Zpt x10.Flat.Groups b36 x45.Atoms).bind fun x46=>(R_spread_sun_out (⟨b35,b36,b37,b38,l33⟩:Z0x) a4 x43.1 x46 x6).bind fun b47=>(Zc5 go1 i24 b5 x10 R_spread_sun_out a4 x6 l40) (i39+1) b47.rays b47.Net b47.env b47.tables b47.most))
def Zb3 (b5:spread_beam)(x10:spread_table)(R_spread_sun_out:(Z0x→Int→spread_beam→(List Atom)→Int→Option Z0x))(a4:Int)(x6:Int):(List (List Zs))→Nat→(List Ray)→Net→Env→(List spread_table)→Int→Option Z0x
 | [],i24,l18,b20,b21,b22,b23=>some (⟨b20,b21,b22,b23,l18⟩:Z0x)
 | x26::l25,i24,l18,b20,b21,b22,b23=>Zc5 (Zb3 b5 x10 R_spread_sun_out a4 x6 l25) i24 b5 x10 R_spread_sun_out a4 x6 x26 0 l18 b20 b21 b22 b23
def Zqi (R_spread_sun_on:(Z0x→Int→spread_beam→Int→Option Z0x))(R_spread_sun_out:(Z0x→Int→spread_beam→(List Atom)→Int→Option Z0x))(s1:Z0x)(a4:Int)(b5:spread_beam)(x6:Int):Option Z0x:=
 (bif (decide (x6=0)) then (Z11 s1.rays [(⟨a4,0,0,false,b5.cube,b5.got⟩:Ray)]).bind fun l8=>some (⟨s1.Net,s1.env,s1.tables,s1.most,l8⟩:Z0x) else (lget s1.tables a4).bind fun x10=>Zb3 b5 x10 R_spread_sun_out a4 x6 x10.cubes 0 s1.rays s1.Net s1.env s1.tables s1.most)
theorem Yi9 (R_spread_sun_on:(Z0x→Int→spread_beam→Int→Option Z0x))(hR_spread_sun_on:∀(g2 gT:Nat) (s1:Z0x) (a4:Int) (b5:spread_beam) (x6:Int) (r:Z0x),R_spread_sun_on s1 a4 b5 x6=some r→Con Tryz.prog 30 [Za g2 (Lens.id Z1e),rd (Z0 .i64) a4,rd Z2u b5,rd (Z0 .i64) x6] (Z1c g2 gT Z1e (fun v=>(⟨s1.Net,s1.env,s1.tables,s1.most,v⟩:spread_sun_o4)) 54 Z0u s1.rays) (fun _:Unit=>top) (fun _=>Z1c g2 gT Z1e (fun v=>(⟨r.Net,r.env,r.tables,r.most,v⟩:spread_sun_o4)) 54 Z0u r.rays))(R_spread_sun_out:(Z0x→Int→spread_beam→(List Atom)→Int→Option Z0x))(hR_spread_sun_out:∀(g2 gT:Nat) (s1:Z0x) (a4:Int) (b5:spread_beam) (l6:(List Atom)) (x7:Int) (r:Z0x),R_spread_sun_out s1 a4 b5 l6 x7=some r→Con Tryz.prog 57 [Za g2 (Lens.id Z1e),rd (Z0 .i64) a4,rd Z2u b5,rd (Z1 Z0p) l6,rd (Z0 .i64) x7] (Z1c g2 gT Z1e (fun v=>(⟨s1.Net,s1.env,s1.tables,s1.most,v⟩:spread_sun_o4)) 54 Z0u s1.rays) (fun _:Unit=>top) (fun _=>Z1c g2 gT Z1e (fun v=>(⟨r.Net,r.env,r.tables,r.most,v⟩:spread_sun_o4)) 54 Z0u r.rays))(g2 gT:Nat)(s1:Z0x)(a4:Int)(b5:spread_beam)(x6:Int)(r:Z0x)(h:Zqi R_spread_sun_on R_spread_sun_out s1 a4 b5 x6=some r):Con Tryz.prog 30 [Za g2 (Lens.id Z1e),rd (Z0 .i64) a4,rd Z2u b5,rd (Z0 .i64) x6] (Z1c g2 gT Z1e (fun v=>(⟨s1.Net,s1.env,s1.tables,s1.most,v⟩:spread_sun_o4)) 54 Z0u s1.rays) (fun _:Unit=>top) (fun _=>Z1c g2 gT Z1e (fun v=>(⟨r.Net,r.env,r.tables,r.most,v⟩:spread_sun_o4)) 54 Z0u r.rays):=by
 refine Con.intro Tryz.func30 rfl Tryz.ntmps30 rfl fun w H X Z=>?_
 unfold Zqi at h
 refine AW.unboxF 0 2004 (by decide) rfl rfl fun v3=>SR<|Cv rfl (Zm 7 rfl rfl (vt rfl)) fun g7=>Nl<|sq<|SR<|Md rfl<|Ac (Zy rfl rfl (vt rfl) (vk rfl)) rfl<|Nl<|Cq rfl h (fun h=>?_) (fun h=>?_)
 ·refine sq ?_
  obtain ⟨l8,hl8,h⟩:=Z6 h
  refine AR Z03 (by kernel_rfl)<|SMp rfl<|SMp rfl<|SNc rfl<|SFd Z63 Z9b rfl<|Sd (lo [20] [0] rfl fun S hs hr=>Z3n v3 rfl rfl Z93 (vh hs 20 rfl rfl) (i:=0) ((hr 0 rfl).trans rfl) rfl)<|SMd rfl<|SFd lspread_beam_0 Zex rfl<|Zu Z09 7 rfl<|SFd lspread_beam_1 Zay rfl<|Zu Z0s 7 rfl<|Sd (lo [22,24,26] [] rfl fun S hs hr=>opb (⟨a4,0,0,false,b5.cube,b5.got⟩:Ray) Zd8 rfl Zzm (pc Y4k (vh hs 22 rfl rfl)<|pc Y33 (vh hs 24 rfl rfl)<|pc Zvt (vh hs 26 rfl rfl)<|pn rfl))<|Sd (lo [27] [] rfl fun S hs hr=>osl Z5h Zd8 rfl (vh hs 27 rfl rfl))<|Sd (Z18 (us:=[(29,Z1y 54 Z0u l8)]) (ur:=[(2004,emp)]) [21,28] [2004] rfl fun S hs hr=>Zbr 2004 hl8 rfl rfl rfl Zz8 (vh hs 21 rfl rfl) ((hr 2004 rfl).trans rfl) (vh hs 28 rfl rfl))<|SNc rfl<|SFd Z63 Z9b rfl<|Sd (Z18 (us:=[(29,top)]) (ur:=[(0,Z1c g2 gT Z1e (fun v=>((Lens.comp (Lens.id Z1e) Z63)).set (⟨s1.Net,s1.env,s1.tables,s1.most,v3⟩:spread_sun_o4) v) 54 Z0u l8)]) [31,29] [0] rfl fun S hs hr=>Zkb rfl rfl Z93 (vh hs 31 rfl rfl) ((hr 0 rfl).trans rfl) ((hs 29 rfl).trans rfl))<|Sn<|AW.unboxF 0 2004 (by decide) rfl rfl fun v9=>rt ?_
  cases h;exact RetOK.turn (Turn.packF 0 2004 (fun v=>(⟨s1.Net,s1.env,s1.tables,s1.most,v⟩:spread_sun_o4)) (by decide) rfl rfl) (Z21 (i:=0) Tryz.results30 rfl rfl)
 ·refine sk<|sq ?_
  obtain ⟨x10,hx10,h⟩:=Z6 h
  refine Rg<|Mp rfl<|Nc rfl<|Zf lspread_sun_o4_2 Ymd rfl<|Ld Yme 0 rfl<|Md rfl<|Ac (Z0d rfl rfl Zwf (vt rfl) (vt rfl) hx10) rfl<|Lp1 Y38 rfl<|Cv rfl (Zo 9 rfl rfl Zsf) fun g11=>Ze Y38 9 rfl<|Nl<|SR<|Zf lspread_table_1 Yd4 rfl<|Ld Yoz 9 rfl<|Ac (Z07 rfl rfl Zso (vt rfl)) rfl<|Mk rfl<|Nl<|bk<|LG (d:=[]) (ν:=(List (List Zs))×Nat×(List Ray)×Net×Env×(List spread_table)×Int×Value) (fun (l25,i24,l18,b20,b21,b22,b23,v19)=>(Sfx x10.cubes i24 l25∧Zb3 b5 x10 R_spread_sun_out a4 x6 l25 i24 l18 b20 b21 b22 b23=some r,l25.length,[(0,Za g2 (Lens.id Z1e)),(1,rd (Z0 .i64) a4),(3,rd (Z0 .i64) x6),(6,Za g7 (Lens.id Z2u)),(8,Za g11 (Lens.id Z2f)),(40,rd (Z1 (Z1 (Z4 24 Z7))) x10.cubes),(41,rd (Z0 .i64) (x10.cubes.length:Int)),(42,rd (Z0 .i64) (i24:Int))],[(0,Zd g2 gT Z1e (⟨b20,b21,b22,b23,v19⟩:spread_sun_o4)),(7,Zd g7 96 Z2u b5),(9,Zd g11 158 Z2f x10),(2004,Zi v19 54 Z0u l18)])) (x10.cubes,0,s1.rays,s1.Net,s1.env,s1.tables,s1.most,v3) ⟨Sfx.start _,h⟩ (FX rfl) ?_
  rintro ⟨l25,i24,l18,b20,b21,b22,b23,v19⟩ ⟨hsf1,h⟩
  dsimp only at hsf1 h ⊢
  cases l25 with
  | nil=>
   unfold Zb3 at h
   refine SR<|Ac (Zh rfl rfl (vt rfl) (vt rfl)) rfl<|Nl<|sq<|Cn rfl (fun hc=>absurd (of_decide_eq_true hc) hsf1.nil) (fun hc=>?_)
   refine xt ?_
   cases h;exact RetOK.turn (Turn.packF 0 2004 (fun v=>(⟨b20,b21,b22,b23,v⟩:spread_sun_o4)) (by decide) rfl rfl) (Z21 (i:=0) Tryz.results30 rfl rfl)
  | cons x26 l25=>
   unfold Zb3 at h
   refine SR<|Ac (Zh rfl rfl (vt rfl) (vt rfl)) rfl<|Nl<|sq<|Cn rfl (fun hc=>?_) (fun hc=>absurd hsf1.cons (of_decide_eq_false hc))
   have hlti24:=of_decide_eq_true hc
   refine sk<|sq<|bk<|SR<|Md rfl<|Ac (Z0d rfl rfl Zso (vt rfl) (vt rfl) hsf1.lget) rfl<|Lp1 Zm7 rfl<|As rfl<|As rfl<|Nl<|AW.scope<|sq<|AW.label<|SR<|Md rfl<|Ac (Z07 rfl rfl Z3b (vt rfl)) rfl<|Mk rfl<|Nl<|bk<|LG (d:=[]) (ν:=(List Zs)×Nat×(List Ray)×Net×Env×(List spread_table)×Int×Value) (fun (l40,i39,l33,b35,b36,b37,b38,v34)=>(Sfx x26 i39 l40∧Zc5 (Zb3 b5 x10 R_spread_sun_out a4 x6 l25) i24 b5 x10 R_spread_sun_out a4 x6 l40 i39 l33 b35 b36 b37 b38=some r,l40.length,[(0,Za g2 (Lens.id Z1e)),(1,rd (Z0 .i64) a4),(3,rd (Z0 .i64) x6),(6,Za g7 (Lens.id Z2u)),(8,Za g11 (Lens.id Z2f)),(9,rd (Z0 .i64) (i24:Int)),(40,rd (Z1 (Z1 (Z4 24 Z7))) x10.cubes),(41,rd (Z0 .i64) (x10.cubes.length:Int)),(42,rd (Z0 .i64) (i24:Int)),(47,rd (Z1 (Z4 24 Z7)) x26),(48,rd (Z0 .i64) (x26.length:Int)),(49,rd (Z0 .i64) (i39:Int))],[(0,Zd g2 gT Z1e (⟨b35,b36,b37,b38,v34⟩:spread_sun_o4)),(7,Zd g7 96 Z2u b5),(9,Zd g11 158 Z2f x10),(2004,Zi v34 54 Z0u l33)])) (x26,0,l18,b20,b21,b22,b23,v19) ⟨Sfx.start _,h⟩ (FX rfl) ?_
   rintro ⟨l40,i39,l33,b35,b36,b37,b38,v34⟩ ⟨hsf2,h⟩
   dsimp only at hsf2 h ⊢
   cases l40 with
   | nil=>
    unfold Zc5 at h
    refine SR<|Ac (Zh rfl rfl (vt rfl) (vt rfl)) rfl<|Nl<|sq<|Cn rfl (fun hc=>absurd (of_decide_eq_true hc) hsf2.nil) (fun hc=>?_)
    refine xt<|Rg<|Ac (Z0a (t:=41) rfl rfl (vt rfl) (vk rfl) (vt rfl) hlti24) rfl<|Md rfl<|Nl ?_
    exact ⟨(_,_,_,_,_,_,_,_),Nat.lt_succ_self _,⟨hsf1.next,h⟩,FX rfl⟩
   | cons x41 l40=>
    unfold Zc5 at h
    refine SR<|Ac (Zh rfl rfl (vt rfl) (vt rfl)) rfl<|Nl<|sq<|Cn rfl (fun hc=>?_) (fun hc=>absurd hsf2.cons (of_decide_eq_false hc))
    have hlti39:=of_decide_eq_true hc
    refine sk<|sq<|bk<|SR<|Ac (Z0d rfl rfl Z3b (vt rfl) (vt rfl) hsf2.lget) rfl<|Lp1 Z09 rfl<|Cv rfl (Zo 13 rfl rfl Z22) fun g42=>Ze Z09 13 rfl<|Nl<|sq<|sq<|AR Z03 (by kernel_rfl)<|SMp rfl<|SNc rfl<|SFd Z63 Z9b rfl<|Sd (lo [55] [0] rfl fun S hs hr=>Z3n v34 rfl rfl Z93 (vh hs 55 rfl rfl) (i:=0) ((hr 0 rfl).trans rfl) rfl)<|Sd (lo [56] [2004] rfl fun S hs hr=>Z2v 2004 rfl rfl Z5h (vh hs 56 rfl rfl) ((hr 2004 rfl).trans rfl))<|SMp rfl<|SNc rfl<|SFd lspread_sun_o4_3 Zwg rfl<|Zu Zc 0 rfl<|Sd (lo [57,61] [] rfl fun S hs hr=>Z1s rfl rfl (vh hs 57 rfl rfl) (vh hs 61 rfl rfl))<|Sn<|Cq rfl h (fun h=>?_) (fun h=>?_)
    ·refine rt ?_
     cases h;exact RetOK.turn (Turn.packF 0 2004 (fun v=>(⟨b35,b36,b37,b38,v⟩:spread_sun_o4)) (by decide) rfl rfl) (Z21 (i:=0) Tryz.results30 rfl rfl)
    ·refine sk<|sq ?_
     obtain ⟨x43,hx43,h⟩:=Z6 h
     refine Rg<|Ld Z5b 7 rfl<|Ld Z09 13 rfl<|Cl [64,65] (Y9q _ _ _ hx43) e56 rfl<|Mt2 rfl<|Ac (Z10 rfl rfl (vt rfl)) rfl<|Ac (Z0z rfl rfl (vt rfl)) rfl<|Cv rfl (Zo 14 rfl rfl Za1) fun g44=>Ze Z5b 14 rfl<|As rfl<|Nl<|sq<|SR<|Md rfl<|Ac (Z0g rfl rfl (vt rfl)) rfl<|Nl<|Cq rfl h (fun h=>?_) (fun h=>?_)
     ·refine xt<|Rg<|Ac (Z0a (t:=48) rfl rfl (vt rfl) (vk rfl) (vt rfl) hlti39) rfl<|Md rfl<|Nl ?_
      exact ⟨(_,_,_,_,_,_,_,_),Nat.lt_succ_self _,⟨hsf2.next,h⟩,FX rfl⟩
     ·refine sk<|AW.packF 0 2004 (fun v=>(⟨b35,b36,b37,b38,v⟩:spread_sun_o4)) (by decide) rfl rfl ?_
      obtain ⟨x45,hx45,x46,hx46,b47,hb47,h⟩:=bs3 h
      refine AR Z03 (by kernel_rfl)<|SMp rfl<|SMd rfl<|Zu Z5b 14 rfl<|SFd lspread_table_0 Y13 rfl<|SFd lFlat_1 Ygn rfl<|Zu Z3r 9 rfl<|SMp rfl<|SNc rfl<|SFd lspread_sun_o4_1 Yjb rfl<|Sd (lo [79] [0] rfl fun S hs hr=>Ymg rfl rfl Z6q (vh hs 79 rfl rfl) (i:=0) ((hr 0 rfl).trans rfl) (fun _=>rfl))<|SFd lspread_table_0 Y13 rfl<|SFd lFlat_0 Zha rfl<|Zu Ze4 9 rfl<|SMd rfl<|Sd (lo [83,84] [] rfl fun S hs hr=>Z0d rfl rfl Z4f (vh hs 83 rfl rfl) (vh hs 84 rfl rfl) hx45)<|SFp lRule_1 Zuy rfl<|SLp Z82 rfl<|SCl [76,80,87] (Yb9 _ _ _ _ hx46) e58 rfl<|SMd rfl<|Sd (Z18 (us:=[(90,top)]) (ur:=[(0,Z1c g2 gT Z1e (fun v=>(⟨b47.Net,b47.env,b47.tables,b47.most,v⟩:spread_sun_o4)) 54 Z0u b47.rays)]) [71,72,73,88,89] [0] rfl fun S hs hr=>Zyg 0 (xs:=[.tmp 71,.tmp 72,.tmp 73,.tmp 88,.tmp 89]) (hR_spread_sun_out _ _ _ _ _ _ _ _ hb47) e57 rfl rfl ⟨vt ((hs 71 rfl).trans rfl),vt ((hs 72 rfl).trans rfl),vt ((hs 73 rfl).trans rfl),vt ((hs 88 rfl).trans rfl),vt ((hs 89 rfl).trans rfl),trivial⟩ ((hr 0 rfl).trans rfl))<|Sn<|AW.unboxF 0 2004 (by decide) rfl rfl fun v48=>Rg<|Ac (Z0a (t:=48) rfl rfl (vt rfl) (vk rfl) (vt rfl) hlti39) rfl<|Md rfl<|Nl ?_
      exact ⟨(_,_,_,_,_,_,_,_),Nat.lt_succ_self _,⟨hsf2.next,h⟩,FX rfl⟩
def Zcu (b5:spread_beam)(a4:Int)(R_spread_sun_on:(Z0x→Int→spread_beam→Int→Option Z0x))(x7:Int):(List Atom)→Nat→(List Ray)→Net→Env→(List spread_table)→Int→Option Z0x
 | [],i21,l15,b17,b18,b19,b20=>some (⟨b17,b18,b19,b20,l15⟩:Z0x)
 | x23::l22,i21,l15,b17,b18,b19,b20=>(bif (decide ((l15.length:Int)>b20)) then some (⟨b17,b18,b19,b20,l15⟩:Z0x) else (Zns b5 x23.Rewrite).bind fun x25=>(Zsr b17 a4 x23.Port).bind fun x27=>(bif (!x27.2.2) then (Z11 l15 [(⟨a4,x23.Port,x23.Max,true,x25.cube,x25.got⟩:Ray)]).bind fun l28=>(Zcu b5 a4 R_spread_sun_on x7 l22) (i21+1) l28 b17 b18 b19 b20 else (Za6 128).bind fun x30=>(Z8h x25.got 0 (⟨0,(BitVec.ofInt 64 x27.2.1)⟩:Wide) x30).bind fun x31=>(R_spread_sun_on (⟨b17,b18,b19,b20,l15⟩:Z0x) x27.1 {x25 with got:=x31} (IntKind.i64.wrap (x7 - 1))).bind fun b32=>(Zcu b5 a4 R_spread_sun_on x7 l22) (i21+1) b32.rays b32.Net b32.env b32.tables b32.most))
def Zrb (R_spread_sun_on:(Z0x→Int→spread_beam→Int→Option Z0x))(R_spread_sun_out:(Z0x→Int→spread_beam→(List Atom)→Int→Option Z0x))(s1:Z0x)(a4:Int)(b5:spread_beam)(l6:(List Atom))(x7:Int):Option Z0x:=
 Zcu b5 a4 R_spread_sun_on x7 l6 0 s1.rays s1.Net s1.env s1.tables s1.most
theorem Ydh (R_spread_sun_on:(Z0x→Int→spread_beam→Int→Option Z0x))(hR_spread_sun_on:∀(g2 gT:Nat) (s1:Z0x) (a4:Int) (b5:spread_beam) (x6:Int) (r:Z0x),R_spread_sun_on s1 a4 b5 x6=some r→Con Tryz.prog 30 [Za g2 (Lens.id Z1e),rd (Z0 .i64) a4,rd Z2u b5,rd (Z0 .i64) x6] (Z1c g2 gT Z1e (fun v=>(⟨s1.Net,s1.env,s1.tables,s1.most,v⟩:spread_sun_o4)) 54 Z0u s1.rays) (fun _:Unit=>top) (fun _=>Z1c g2 gT Z1e (fun v=>(⟨r.Net,r.env,r.tables,r.most,v⟩:spread_sun_o4)) 54 Z0u r.rays))(R_spread_sun_out:(Z0x→Int→spread_beam→(List Atom)→Int→Option Z0x))(hR_spread_sun_out:∀(g2 gT:Nat) (s1:Z0x) (a4:Int) (b5:spread_beam) (l6:(List Atom)) (x7:Int) (r:Z0x),R_spread_sun_out s1 a4 b5 l6 x7=some r→Con Tryz.prog 57 [Za g2 (Lens.id Z1e),rd (Z0 .i64) a4,rd Z2u b5,rd (Z1 Z0p) l6,rd (Z0 .i64) x7] (Z1c g2 gT Z1e (fun v=>(⟨s1.Net,s1.env,s1.tables,s1.most,v⟩:spread_sun_o4)) 54 Z0u s1.rays) (fun _:Unit=>top) (fun _=>Z1c g2 gT Z1e (fun v=>(⟨r.Net,r.env,r.tables,r.most,v⟩:spread_sun_o4)) 54 Z0u r.rays))(g2 gT:Nat)(s1:Z0x)(a4:Int)(b5:spread_beam)(l6:(List Atom))(x7:Int)(r:Z0x)(h:Zrb R_spread_sun_on R_spread_sun_out s1 a4 b5 l6 x7=some r):Con Tryz.prog 57 [Za g2 (Lens.id Z1e),rd (Z0 .i64) a4,rd Z2u b5,rd (Z1 Z0p) l6,rd (Z0 .i64) x7] (Z1c g2 gT Z1e (fun v=>(⟨s1.Net,s1.env,s1.tables,s1.most,v⟩:spread_sun_o4)) 54 Z0u s1.rays) (fun _:Unit=>top) (fun _=>Z1c g2 gT Z1e (fun v=>(⟨r.Net,r.env,r.tables,r.most,v⟩:spread_sun_o4)) 54 Z0u r.rays):=by
 refine Con.intro Tryz.func57 rfl Tryz.ntmps57 rfl fun w H X Z=>?_
 unfold Zrb at h
 refine AW.unboxF 0 2004 (by decide) rfl rfl fun v3=>SR<|Cv rfl (Zm 8 rfl rfl (vt rfl)) fun g8=>Nl<|SR<|Md rfl<|Ac (Z07 rfl rfl Z67 (vt rfl)) rfl<|Mk rfl<|Nl<|bk<|LG (d:=[]) (ν:=(List Atom)×Nat×(List Ray)×Net×Env×(List spread_table)×Int×Value) (fun (l22,i21,l15,b17,b18,b19,b20,v16)=>(Sfx l6 i21 l22∧Zcu b5 a4 R_spread_sun_on x7 l22 i21 l15 b17 b18 b19 b20=some r,l22.length,[(0,Za g2 (Lens.id Z1e)),(1,rd (Z0 .i64) a4),(4,rd (Z0 .i64) x7),(7,Za g8 (Lens.id Z2u)),(16,rd (Z1 Z0p) l6),(17,rd (Z0 .i64) (l6.length:Int)),(18,rd (Z0 .i64) (i21:Int))],[(0,Zd g2 gT Z1e (⟨b17,b18,b19,b20,v16⟩:spread_sun_o4)),(8,Zd g8 96 Z2u b5),(2004,Zi v16 54 Z0u l15)])) (l6,0,s1.rays,s1.Net,s1.env,s1.tables,s1.most,v3) ⟨Sfx.start _,h⟩ (FX rfl) ?_
 rintro ⟨l22,i21,l15,b17,b18,b19,b20,v16⟩ ⟨hsf1,h⟩
 dsimp only at hsf1 h ⊢
 cases l22 with
 | nil=>
  unfold Zcu at h
  refine SR<|Ac (Zh rfl rfl (vt rfl) (vt rfl)) rfl<|Nl<|sq<|Cn rfl (fun hc=>absurd (of_decide_eq_true hc) hsf1.nil) (fun hc=>?_)
  refine xt ?_
  cases h;exact RetOK.turn (Turn.packF 0 2004 (fun v=>(⟨b17,b18,b19,b20,v⟩:spread_sun_o4)) (by decide) rfl rfl) (Z21 (i:=0) Tryz.results57 rfl rfl)
 | cons x23 l22=>
  unfold Zcu at h
  refine SR<|Ac (Zh rfl rfl (vt rfl) (vt rfl)) rfl<|Nl<|sq<|Cn rfl (fun hc=>?_) (fun hc=>absurd hsf1.cons (of_decide_eq_false hc))
  have hlti21:=of_decide_eq_true hc
  refine sk<|sq<|bk<|SR<|Ac (Z0d rfl rfl Z67 (vt rfl) (vt rfl) hsf1.lget) rfl<|Lp1 Zad rfl<|Cv rfl (Zo 12 rfl rfl Z9p) fun g24=>Ze Zad 12 rfl<|Nl<|sq<|sq<|AR Z03 (by kernel_rfl)<|SMp rfl<|SNc rfl<|SFd Z63 Z9b rfl<|Sd (lo [24] [0] rfl fun S hs hr=>Z3n v16 rfl rfl Z93 (vh hs 24 rfl rfl) (i:=0) ((hr 0 rfl).trans rfl) rfl)<|Sd (lo [25] [2004] rfl fun S hs hr=>Z2v 2004 rfl rfl Z5h (vh hs 25 rfl rfl) ((hr 2004 rfl).trans rfl))<|SMp rfl<|SNc rfl<|SFd lspread_sun_o4_3 Zwg rfl<|Zu Zc 0 rfl<|Sd (lo [26,30] [] rfl fun S hs hr=>Z1s rfl rfl (vh hs 26 rfl rfl) (vh hs 30 rfl rfl))<|Sn<|Cq rfl h (fun h=>?_) (fun h=>?_)
  ·refine rt ?_
   cases h;exact RetOK.turn (Turn.packF 0 2004 (fun v=>(⟨b17,b18,b19,b20,v⟩:spread_sun_o4)) (by decide) rfl rfl) (Z21 (i:=0) Tryz.results57 rfl rfl)
  ·refine sk<|sq ?_
   obtain ⟨x25,hx25,h⟩:=Z6 h
   refine Rg<|Ld Z5b 8 rfl<|Zf lAtom_0 Zir rfl<|Ld Z0s 12 rfl<|Cl [32,34] (Ybu _ _ _ hx25) Ykp rfl<|Cv rfl (Zo 13 rfl rfl Za1) fun g26=>Ze Z5b 13 rfl<|Nl<|sq ?_
   obtain ⟨x27,hx27,h⟩:=Z6 h
   refine AR Z03 (by kernel_rfl)<|SMp rfl<|SNc rfl<|SFd lspread_sun_o4_0 Yn5 rfl<|Zu Z61 0 rfl<|SMd rfl<|SFd Zcf Zeo rfl<|Zu Zc 12 rfl<|SCl [40,41,43] (Ylx _ _ _ _ hx27) Yh8 rfl<|Sd (lo [44] [] rfl fun S hs hr=>Zk (A:=Z3j (rd (Z0 .i64) x27.1) (rd (Z0 .i64) x27.2.1) (rd Z3 x27.2.2)) rfl rfl (vh hs 44 rfl rfl))<|Sd (lo [36] [] rfl fun S hs hr=>Zho rfl rfl (vh hs 36 rfl rfl))<|Sd (lo [36] [] rfl fun S hs hr=>Zh4 rfl rfl (vh hs 36 rfl rfl))<|Sd (lo [36] [] rfl fun S hs hr=>Zgn rfl rfl (vh hs 36 rfl rfl))<|SAs rfl<|SAs rfl<|SAs rfl<|Sn<|sq<|SR<|Md rfl<|Ac (Z0g rfl rfl (vt rfl)) rfl<|Nl<|Cq rfl h (fun h=>?_) (fun h=>?_)
   ·refine sq ?_
    obtain ⟨l28,hl28,h⟩:=Z6 h
    refine AR Z03 (by kernel_rfl)<|SMp rfl<|SMp rfl<|SNc rfl<|SFd Z63 Z9b rfl<|Sd (lo [53] [0] rfl fun S hs hr=>Z3n v16 rfl rfl Z93 (vh hs 53 rfl rfl) (i:=0) ((hr 0 rfl).trans rfl) rfl)<|SMd rfl<|SFd Zcf Zeo rfl<|Zu Zc 12 rfl<|SFd Zt5 Zx1 rfl<|Zu Zc 12 rfl<|SFd lspread_beam_0 Zex rfl<|Zu Z09 13 rfl<|SFd lspread_beam_1 Zay rfl<|Zu Z0s 13 rfl<|Sd (lo [55,57,59,61,63] [] rfl fun S hs hr=>opb (⟨a4,x23.Port,x23.Max,true,x25.cube,x25.got⟩:Ray) Zd8 rfl Zzm (pc Y4k (vh hs 55 rfl rfl)<|pc Yge (vh hs 57 rfl rfl)<|pc Yhf (vh hs 59 rfl rfl)<|pc Ycx vb<|pc Y33 (vh hs 61 rfl rfl)<|pc Zvt (vh hs 63 rfl rfl)<|pn rfl))<|Sd (lo [64] [] rfl fun S hs hr=>osl Z5h Zd8 rfl (vh hs 64 rfl rfl))<|Sd (Z18 (us:=[(66,Z1y 54 Z0u l28)]) (ur:=[(2004,emp)]) [54,65] [2004] rfl fun S hs hr=>Zbr 2004 hl28 rfl rfl rfl Zz8 (vh hs 54 rfl rfl) ((hr 2004 rfl).trans rfl) (vh hs 65 rfl rfl))<|SNc rfl<|SFd Z63 Z9b rfl<|Sd (Z18 (us:=[(66,top)]) (ur:=[(0,Z1c g2 gT Z1e (fun v=>((Lens.comp (Lens.id Z1e) Z63)).set (⟨b17,b18,b19,b20,v16⟩:spread_sun_o4) v) 54 Z0u l28)]) [68,66] [0] rfl fun S hs hr=>Zkb rfl rfl Z93 (vh hs 68 rfl rfl) ((hr 0 rfl).trans rfl) ((hs 66 rfl).trans rfl))<|Sn<|AW.unboxF 0 2004 (by decide) rfl rfl fun v29=>xt<|Rg<|Ac (Z0a (t:=17) rfl rfl (vt rfl) (vk rfl) (vt rfl) hlti21) rfl<|Md rfl<|Nl ?_
    exact ⟨(_,_,_,_,_,_,_,_),Nat.lt_succ_self _,⟨hsf1.next,h⟩,FX rfl⟩
   ·refine sk<|sq ?_
    obtain ⟨x30,hx30,x31,hx31,h⟩:=bs2 h
    refine AR Z03 (by kernel_rfl)<|SFd lspread_beam_1 Zay rfl<|Zu Z0s 13 rfl<|SMd rfl<|Sd (lo [71] [] rfl fun S hs hr=>Z6z rfl rfl us3 Zy2 (vh hs 71 rfl rfl))<|Sd (lo [72] [] rfl fun S hs hr=>opb (⟨0,(BitVec.ofInt 64 x27.2.1)⟩:Wide) Z39 rfl Z5z (pc Z7y (vh hs 72 rfl rfl)<|pn rfl))<|Sd (lo [] [] rfl fun S hs hr=>Zz (xs:=[.const (Value.int IntKind.i64 128)]) (Zem _ _ hx30) Zew rfl rfl ⟨vk rfl,trivial⟩)<|Sd (lo [70,73,74] [] rfl fun S hs hr=>Zz (xs:=[.tmp 70,.const (Value.int IntKind.i64 0),.tmp 73,.tmp 74]) (Zat _ _ _ _ _ hx31) Zbk rfl rfl ⟨vt ((hs 70 rfl).trans rfl),vk rfl,vt ((hs 73 rfl).trans rfl),vt ((hs 74 rfl).trans rfl),trivial⟩)<|SFd lspread_beam_1 Zay rfl<|SSt Z0s 13 rfl<|Sn ?_
    obtain ⟨b32,hb32,h⟩:=Z6 h
    refine Rg<|Mp rfl<|Md rfl<|Ld Z5b 13 rfl<|Md rfl<|Ac (Z14 rfl rfl (vt rfl) (vk rfl)) rfl<|AOps.packF 0 2004 (fun v=>(⟨b17,b18,b19,b20,v⟩:spread_sun_o4)) (by decide) rfl rfl<|Cv rfl (Z0y 0 (xs:=[.tmp 77,.tmp 78,.tmp 79,.tmp 81]) (hR_spread_sun_on _ _ _ _ _ _ _ hb32) e30 rfl rfl ⟨vt rfl,vt rfl,vt rfl,vt rfl,trivial⟩ rfl) fun _u=>AOps.unboxF 0 2004 (by decide) rfl rfl fun v33=>Nl<|Rg<|Ac (Z0a (t:=17) rfl rfl (vt rfl) (vk rfl) (vt rfl) hlti21) rfl<|Md rfl<|Nl ?_
    exact ⟨(_,_,_,_,_,_,_,_),Nat.lt_succ_self _,⟨hsf1.next,h⟩,FX rfl⟩
def Z6m:Nat→(Z0x→Int→spread_beam→Int→Option Z0x)×(Z0x→Int→spread_beam→(List Atom)→Int→Option Z0x)
 | 0=>((fun _ _ _ _=>none),(fun _ _ _ _ _=>none))
 | n+1=>((Zqi (Z6m n).1 (Z6m n).2),(Zrb (Z6m n).1 (Z6m n).2))
theorem Zvx:∀n:Nat,(∀(g2 gT:Nat) (s1:Z0x) (a4:Int) (b5:spread_beam) (x6:Int) (r:Z0x),(Z6m n).1 s1 a4 b5 x6=some r→Con Tryz.prog 30 [Za g2 (Lens.id Z1e),rd (Z0 .i64) a4,rd Z2u b5,rd (Z0 .i64) x6] (Z1c g2 gT Z1e (fun v=>(⟨s1.Net,s1.env,s1.tables,s1.most,v⟩:spread_sun_o4)) 54 Z0u s1.rays) (fun _:Unit=>top) (fun _=>Z1c g2 gT Z1e (fun v=>(⟨r.Net,r.env,r.tables,r.most,v⟩:spread_sun_o4)) 54 Z0u r.rays))∧(∀(g2 gT:Nat) (s1:Z0x) (a4:Int) (b5:spread_beam) (l6:(List Atom)) (x7:Int) (r:Z0x),(Z6m n).2 s1 a4 b5 l6 x7=some r→Con Tryz.prog 57 [Za g2 (Lens.id Z1e),rd (Z0 .i64) a4,rd Z2u b5,rd (Z1 Z0p) l6,rd (Z0 .i64) x7] (Z1c g2 gT Z1e (fun v=>(⟨s1.Net,s1.env,s1.tables,s1.most,v⟩:spread_sun_o4)) 54 Z0u s1.rays) (fun _:Unit=>top) (fun _=>Z1c g2 gT Z1e (fun v=>(⟨r.Net,r.env,r.tables,r.most,v⟩:spread_sun_o4)) 54 Z0u r.rays))
 | 0=>⟨(by intros;rename_i h;cases h),(by intros;rename_i h;cases h)⟩
 | n+1=>by
  have ih:=Zvx n
  exact ⟨(Yi9 (Z6m n).1 ih.1 (Z6m n).2 ih.2),(Ydh (Z6m n).1 ih.1 (Z6m n).2 ih.2)⟩
def Zzo (s1:Z0x)(a4:Int)(b5:spread_beam)(x6:Int):Option Z0x:=(Z6m Z2p).1 s1 a4 b5 x6
theorem Yid:∀(g2 gT:Nat) (s1:Z0x) (a4:Int) (b5:spread_beam) (x6:Int) (r:Z0x),Zzo s1 a4 b5 x6=some r→Con Tryz.prog 30 [Za g2 (Lens.id Z1e),rd (Z0 .i64) a4,rd Z2u b5,rd (Z0 .i64) x6] (Z1c g2 gT Z1e (fun v=>(⟨s1.Net,s1.env,s1.tables,s1.most,v⟩:spread_sun_o4)) 54 Z0u s1.rays) (fun _:Unit=>top) (fun _=>Z1c g2 gT Z1e (fun v=>(⟨r.Net,r.env,r.tables,r.most,v⟩:spread_sun_o4)) 54 Z0u r.rays):=(Zvx Z2p).1
def Zun (n1:Net)(x2:Env)(a3:Int)(x4:Zs)(x5:Int)(m6:Int):Option ((List Ray)×Int):=
 (bif ((decide (a3<0))||(decide (a3≥(n1.Switches.length:Int)))) then some ([],0) else (Zs3 n1 m6).bind fun x10=>(bif (decide (x10.2≠0)) then some ([],x10.2) else (Zcs x4).bind fun x12=>(Zfi).bind fun x13=>(Zzo (⟨n1,x2,x10.1,m6,[]⟩:Z0x) a3 (⟨x12,x13⟩:spread_beam) (Z6s (Z4b x5 0) 8)).bind fun b14=>(bif (decide ((b14.rays.length:Int)>m6)) then some ([],5) else some (b14.rays,0))))
theorem Ymt:Q6 Tryz.prog 17 (rd Z1v) (rd Z1a) (rd (Z0 .i64)) (rd (Z4 24 Z7)) (rd (Z0 .i64)) (rd (Z0 .i64)) (fun r=>Z0t (rd (Z1 Z0u) r.1) (rd (Z0 .i64) r.2)) Zun:=fun n1 x2 a3 x4 x5 m6 r h=>I0 Tryz.func17 rfl Tryz.ntmps17 rfl fun w H Z=>by
 unfold Zun at h
 refine SR<|Cv rfl (Zm 7 rfl rfl (vt rfl)) fun g7=>Cv rfl (Zm 8 rfl rfl (vt rfl)) fun g8=>Cv rfl (Zm 10 rfl rfl (vt rfl)) fun g9=>Ac (Zn (A:=rd (Z1 Z0u) []) rfl rfl Z04) rfl<|Ak rfl<|Nl<|sq<|SR<|Md rfl<|Ac (Zh rfl rfl (vt rfl) (vk rfl)) rfl<|Md rfl<|Gd rfl (fun hq=>Zk (A:=rd (Z0 .i64) a3) rfl rfl (vt rfl))<|Gd rfl (fun hq=>Z0i lNet_0 rfl rfl Zh7 (vt rfl))<|Gd rfl (fun hq=>Z08 rfl rfl Zfp (Z8 rfl hq) (i:=7) rfl)<|Gd rfl (fun hq=>Z07 rfl rfl Z7v (Z8 rfl hq))<|Gd rfl (fun hq=>Z1z rfl rfl (Z8 rfl hq) (Z8 rfl hq))<|Ac (Z1u rfl rfl (vt rfl) (vt rfl)) rfl<|Nl<|Cq rfl h (fun h=>?_) (fun h=>?_)
 ·refine SR<|Ac (Zn (A:=rd (Z1 Z0u) []) rfl rfl Z04) rfl<|Ak rfl<|Nl<|rt ?_
  cases h;exact Z0c Tryz.results17 rfl (Z5 rfl) (Z5 rfl)
 ·refine sk<|sq ?_
  obtain ⟨x10,hx10,h⟩:=Z6 h
  refine Rg<|Ld Z61 7 rfl<|Md rfl<|Cl [27,28] (Ykw _ _ _ hx10) e29 rfl<|Mt2 rfl<|Ac (Z10 rfl rfl (vt rfl)) rfl<|Ac (Z0z rfl rfl (vt rfl)) rfl<|As rfl<|As rfl<|Nl<|sq<|SR<|Md rfl<|Ac (Z2j rfl rfl (vt rfl) (vk rfl)) rfl<|Nl<|Cq rfl h (fun h=>?_) (fun h=>?_)
  ·refine SR<|Md rfl<|Ac (Zn (A:=rd (Z1 Z0u) []) rfl rfl Z04) rfl<|As rfl<|Nl<|rt ?_
   cases h;exact Z0c Tryz.results17 rfl (Z5 rfl) (Z5 rfl)
  ·refine sk<|sq<|AW.newnil 2824 54 Z0u<|Rg<|Ld Z61 7 rfl<|Ld Z6q 8 rfl<|Md rfl<|Md rfl<|Ac (opb (⟨n1,x2,x10.1,m6,(.slice none 0 0)⟩:spread_sun_o4) Yli rfl Yk2 (pc Yl6 (vt rfl)<|pc Y69 (vt rfl)<|pc Y7u (vt rfl)<|pc Y7y (vt rfl)<|pn rfl)) rfl<|Cv rfl (Zm 41 rfl rfl (vt rfl)) fun g11=>Ac (Zn (A:=Za g11 (Lens.id Z1e)) rfl rfl (vt rfl)) rfl<|Nl<|sq ?_
   obtain ⟨x12,hx12,x13,hx13,b14,hb14,h⟩:=bs3 h
   refine Rg<|Mp rfl<|Md rfl<|Ld Z09 10 rfl<|Cl [43] (Zif _ _ hx12) e31 rfl<|Cl [] (Zqd _ hx13) e32 rfl<|Ac (opb (⟨x12,x13⟩:spread_beam) Za1 rfl Zti (pc Zyt (vt rfl)<|pc Y2i (vt rfl)<|pn rfl)) rfl<|Md rfl<|Ac (Za2 rfl rfl (vt rfl) (vk rfl)) rfl<|Ac (Zmp rfl rfl (vt rfl) (vk rfl)) rfl<|AOps.packF 41 2824 (fun v=>(⟨n1,x2,x10.1,m6,v⟩:spread_sun_o4)) (by decide) rfl rfl<|Cv rfl (Z0y 41 (xs:=[.tmp 41,.tmp 42,.tmp 46,.tmp 49]) (Yid _ _ _ _ _ _ _ hb14) e30 rfl rfl ⟨vt rfl,vt rfl,vt rfl,vt rfl,trivial⟩ rfl) fun _u=>AOps.unboxF 41 2824 (by decide) rfl rfl fun v15=>Nl<|sq<|SR<|Mp rfl<|Nc rfl<|Zf Z63 Z9b rfl<|Ac (Z3n v15 rfl rfl Z93 (vt rfl) (i:=41) rfl rfl) rfl<|Ac (Z2v 2824 rfl rfl Z5h (vt rfl) rfl) rfl<|Md rfl<|Ac (Z1s rfl rfl (vt rfl) (vt rfl)) rfl<|Nl<|Cq rfl h (fun h=>?_) (fun h=>?_)
   ·refine SR<|Ac (Zn (A:=rd (Z1 Z0u) []) rfl rfl Z04) rfl<|Ak rfl<|Nl<|rt ?_
    cases h;exact Z0c Tryz.results17 rfl (Z5 rfl) (Z5 rfl)
   ·refine sk<|SR<|Mp rfl<|Nc rfl<|Zf Z63 Z9b rfl<|Ac (Z3n v15 rfl rfl Z93 (vt rfl) (i:=41) rfl rfl) rfl<|Aw rfl<|Ak rfl<|Nl<|AW.freezes [12,54,61] 2824 rfl ⟨rfl,rfl,rfl,trivial⟩ rfl<|rt ?_
    cases h;exact Z0c Tryz.results17 rfl (Z5 rfl) (Z5 rfl)
end Go.Proofs.YtjppkmpecdbepaaGreatDoor.W
set_option maxHeartbeats 1000000
set_option maxRecDepth 4000
namespace Go.Proofs.YtjppkmpecdbepaaGreatDoor.W
open Go Go.Wb
theorem e12:Ent Tryz.prog 12:=Ent.mk Tryz.func12 rfl rfl
theorem e11:Ent Tryz.prog 11:=Ent.mk Tryz.func11 rfl rfl
theorem e13:Ent Tryz.prog 13:=Ent.mk Tryz.func13 rfl rfl
theorem e14:Ent Tryz.prog 14:=Ent.mk Tryz.func14 rfl rfl
theorem e16:Ent Tryz.prog 16:=Ent.mk Tryz.func16 rfl rfl
theorem e15:Ent Tryz.prog 15:=Ent.mk Tryz.func15 rfl rfl
theorem e17:Ent Tryz.prog 17:=Ent.mk Tryz.func17 rfl rfl
theorem e6:Ent Tryz.prog 6:=Ent.mk Tryz.func6 rfl rfl
theorem e9:Ent Tryz.prog 9:=Ent.mk Tryz.func9 rfl rfl
theorem e8:Ent Tryz.prog 8:=Ent.mk Tryz.func8 rfl rfl
theorem e4:Ent Tryz.prog 4:=Ent.mk Tryz.func4 rfl rfl
theorem e7:Ent Tryz.prog 7:=Ent.mk Tryz.func7 rfl rfl
theorem e5:Ent Tryz.prog 5:=Ent.mk Tryz.func5 rfl rfl
def Za8 (x1:isolate_goal)(x2:Ray):Option Bool:=
 some (x2.Left&&(decide ((⟨x2.At,x2.Port⟩:isolate_goal)=x1)))
theorem Ynb:Q2 Tryz.prog 12 (rd Z70) (rd Z0u) (rd Z3) Za8:=fun x1 x2 r h=>I0 Tryz.func12 rfl Tryz.ntmps12 rfl fun w H Z=>by
 unfold Za8 at h
 refine SR<|Cv rfl (Zm 3 rfl rfl (vt rfl)) fun g3=>Cv rfl (Zm 4 rfl rfl (vt rfl)) fun g4=>Ab rfl<|Nl<|SR<|Zf lRay_3 Zz2 rfl<|Ld ty4 4 rfl<|Md rfl<|Gd rfl (fun hq=>Z0i lRay_0 rfl rfl Y1u (vt rfl))<|Gd rfl (fun hq=>Z08 rfl rfl Zc (Z8 rfl hq) (i:=4) rfl)<|Gd rfl (fun hq=>Z0i lRay_1 rfl rfl Zw3 (vt rfl))<|Gd rfl (fun hq=>Z08 rfl rfl Zc (Z8 rfl hq) (i:=4) rfl)<|Gd rfl (fun hq=>opb (⟨x2.At,x2.Port⟩:isolate_goal) Y16 rfl Zyp (pc Y3v (Z8 rfl hq)<|pc Zwe (Z8 rfl hq)<|pn rfl))<|Gd rfl (fun hq=>Z08 rfl rfl Yix (vt rfl) (i:=3) rfl)<|Gd rfl (fun hq=>Z98 rfl rfl Yj5 (by decide) rfl Yld (Z8 rfl hq) (Z8 rfl hq))<|Ac (Z0h rfl rfl (vt rfl) (vt rfl)) rfl<|As rfl<|Nl<|rt ?_
 cases h;exact Z9 Tryz.results12 rfl (Z5 rfl)
def Z7i (a2:(Ray→Option Bool))(w3:(Ray→Option Zs)):(List Ray)→Nat→(List Zs)→Option (List Zs)
 | [],i8,l6=>some l6
 | x10::l9,i8,l6=>(a2 x10).bind fun x12=>(bif x12 then (w3 x10).bind fun x13=>(Z11 l6 [x13]).bind fun l14=>(Z7i a2 w3 l9) (i8+1) l14 else (Z7i a2 w3 l9) (i8+1) l6)
def Zmd (l1:(List Ray))(a2:(Ray→Option Bool))(w3:(Ray→Option Zs)):Option (List Zs):=
 Z7i a2 w3 l1 0 []
theorem Yon:Q3 Tryz.prog 11 (rd (Z1 Z0u)) (fn1 Tryz.prog Z0u Z3) (fn1 Tryz.prog Z0u (Z4 24 Z7)) (rd (Z1 (Z4 24 Z7))) Zmd:=fun l1 a2 w3 r h=>I0 Tryz.func11 rfl Tryz.ntmps11 rfl fun w H Z=>by
 unfold Zmd at h
 refine SR<|Ac (Zn (A:=rd (Z1 (Z4 24 Z7)) []) rfl rfl Z04) rfl<|Nl<|sq<|AW.newnil 1001 32 (Z4 24 Z7)<|Rg<|Ac (Zn rfl rfl vc) rfl<|Nl<|sq<|SR<|Md rfl<|Ac (Z07 rfl rfl Z5h (vt rfl)) rfl<|Mk rfl<|Nl<|bk<|LG (d:=[]) (ν:=(List Ray)×Nat×(List Zs)×Value) (fun (l9,i8,l6,v7)=>(Sfx l1 i8 l9∧Z7i a2 w3 l9 i8 l6=some r,l9.length,[(1,fn1 Tryz.prog Z0u Z3 a2),(2,fn1 Tryz.prog Z0u (Z4 24 Z7) w3),(7,Zg v7),(10,rd (Z1 Z0u) l1),(11,rd (Z0 .i64) (l1.length:Int)),(12,rd (Z0 .i64) (i8:Int))],[(1001,Zi v7 32 (Z4 24 Z7) l6)])) (l1,0,[],(.slice none 0 0)) ⟨Sfx.start _,h⟩ (FX rfl) ?_
 rintro ⟨l9,i8,l6,v7⟩ ⟨hsf1,h⟩
 dsimp only at hsf1 h ⊢
 cases l9 with
 | nil=>
  unfold Z7i at h
  refine SR<|Ac (Zh rfl rfl (vt rfl) (vt rfl)) rfl<|Nl<|sq<|Cn rfl (fun hc=>absurd (of_decide_eq_true hc) hsf1.nil) (fun hc=>?_)
  refine xt<|SR<|Mw rfl<|Aw rfl<|Nl<|AW.freezes [6,7,26] 1001 rfl ⟨rfl,rfl,rfl,trivial⟩ rfl<|rt ?_
  cases h;exact Z9 Tryz.results11 rfl (Z5 rfl)
 | cons x10 l9=>
  unfold Z7i at h
  refine SR<|Ac (Zh rfl rfl (vt rfl) (vt rfl)) rfl<|Nl<|sq<|Cn rfl (fun hc=>?_) (fun hc=>absurd hsf1.cons (of_decide_eq_false hc))
  have hlti8:=of_decide_eq_true hc
  refine sk<|sq<|bk<|SR<|Ac (Z0d rfl rfl Z5h (vt rfl) (vt rfl) hsf1.lget) rfl<|Lp1 Zkv rfl<|Cv rfl (Zo 10 rfl rfl Zd8) fun g11=>Ze Zkv 10 rfl<|Nl<|sq ?_
  obtain ⟨x12,hx12,h⟩:=Z6 h
  refine Rg<|Ac (Zk (A:=fn1 Tryz.prog Z0u Z3 a2) rfl rfl (vt rfl)) rfl<|Ld Zkv 10 rfl<|Ac (Z2z hx12 rfl rfl (vt rfl) (vt rfl)) rfl<|Nl<|Cq rfl h (fun h=>?_) (fun h=>?_)
  ·obtain ⟨x13,hx13,l14,hl14,h⟩:=bs2 h
   refine Rg<|Mw rfl<|Ac (Zk (A:=fn1 Tryz.prog Z0u (Z4 24 Z7) w3) rfl rfl (vt rfl)) rfl<|Ld Zkv 10 rfl<|Ac (Z2z hx13 rfl rfl (vt rfl) (vt rfl)) rfl<|Ac (osl Z3b Z22 rfl (vt rfl)) rfl<|Cv rfl (Z1f 1001 hl14 rfl rfl Zjo (vt rfl) rfl (vt rfl)) fun v15=>Aw rfl<|Nl<|Rg<|Ac (Z0a (t:=11) rfl rfl (vt rfl) (vk rfl) (vt rfl) hlti8) rfl<|Md rfl<|Nl ?_
   exact ⟨(_,_,_,_),Nat.lt_succ_self _,⟨hsf1.next,h⟩,FX rfl⟩
  ·refine sk<|Rg<|Ac (Z0a (t:=11) rfl rfl (vt rfl) (vk rfl) (vt rfl) hlti8) rfl<|Md rfl<|Nl ?_
   exact ⟨(_,_,_,_),Nat.lt_succ_self _,⟨hsf1.next,h⟩,FX rfl⟩
def Zcr (x1:Ray):Option Zs:=
 some x1.Cube
theorem Ygc:Q1 Tryz.prog 13 (rd Z0u) (rd (Z4 24 Z7)) Zcr:=fun x1 r h=>I0 Tryz.func13 rfl Tryz.ntmps13 rfl fun w H Z=>by
 unfold Zcr at h
 refine SR<|Cv rfl (Zm 2 rfl rfl (vt rfl)) fun g2=>Cv rfl (Zo 3 rfl rfl Z22) fun g3=>Nl<|SR<|Zf lRay_4 Zvq rfl<|Ld Z09 2 rfl<|Ze Z09 3 rfl<|Nl<|rt ?_
 cases h;exact Z9 Tryz.results13 rfl (Zv rfl (i:=3) rfl Z09)
def Zaq (l1:(List Ray))(t2:Int)(p3:Int):Option (List Zs):=
 (Zmd l1 (fun x=>Za8 (⟨t2,p3⟩:isolate_goal) x) Zcr).bind fun x4=>some x4
theorem Y2c:Q3 Tryz.prog 6 (rd (Z1 Z0u)) (rd (Z0 .i64)) (rd (Z0 .i64)) (rd (Z1 (Z4 24 Z7))) Zaq:=fun l1 t2 p3 r h=>I0 Tryz.func6 rfl Tryz.ntmps6 rfl fun w H Z=>by
 unfold Zaq at h
 refine SR<|Ac (Zn (A:=rd (Z1 (Z4 24 Z7)) []) rfl rfl Z04) rfl<|Nl<|sq ?_
 obtain ⟨x4,hx4,h⟩:=Z6 h
 refine Rg<|Md rfl<|Md rfl<|Md rfl<|Ac (opb (⟨t2,p3⟩:isolate_goal) Y16 rfl Zyp (pc Y3v (vt rfl)<|pc Zwe (vt rfl)<|pn rfl)) rfl<|Ac (Y7c (fs:=[.tmp 10]) (cs:=[]) (FAs:=[rd Z70 (⟨t2,p3⟩:isolate_goal)]) (CAs:=[]) (fun x=>Za8 (⟨t2,p3⟩:isolate_goal) x) rfl rfl e12 ⟨vt rfl,trivial⟩ trivial (fun x y h=>Ynb _ _ y h)) rfl<|Ac (Zz (xs:=[.tmp 7,.tmp 11,.func 13]) (Yon _ _ _ _ hx4) e11 rfl rfl ⟨vt rfl,vt rfl,vf1 e13 Ygc,trivial⟩) rfl<|As rfl<|Nl<|rt ?_
 cases h;exact Z9 Tryz.results6 rfl (Z5 rfl)
def Zku (n1:Net)(a2:Int)(x3:Zs)(x6:Int)(m7:Int)(t4:Int)(p5:Int)(b20:Verdict)(b21:Int)(x23:Env):Option (Lp (Verdict×Int)):=
 (Zun n1 x23 a2 x3 x6 m7).bind fun x25=>(bif (decide (x25.2≠0)) then some (.out .ret ((⟨false,(Vector.replicate 24 Z0r),Z59⟩:Verdict),x25.2)) else (Zaq x25.1 t4 p5).bind fun x26=>(bif (decide ((x26.length:Int)>0)) then (lget x26 0).bind fun x27=>(Zly x27).bind fun x28=>some (.out .ret ((⟨false,x28,x23⟩:Verdict),0)) else some (.go (b20,b21))))
def Zg8 (n1:Net)(a2:Int)(x3:Zs)(t4:Int)(p5:Int)(x6:Int)(m7:Int):Option (Verdict×Int):=
 (Zpl n1).bind fun x17=>(bif (!x17) then some ((⟨false,(Vector.replicate 24 Z0r),Z59⟩:Verdict),7) else (Znz n1).bind fun x18=>(Zq7 x18).bind fun x19=>(Itr.run x19 (Verdict×Int) (fun s x=>Zku n1 a2 x3 x6 m7 t4 p5 s.1 s.2 x) (.go (Zbz,0))).bind fun z22=>Zn2 z22 (fun s29=>some ((⟨true,(Vector.replicate 24 Z0r),Z59⟩:Verdict),0)) (fun c s29=>bif Z9n c then some (s29.1,s29.2) else none))
theorem Zu6 (n1:Net)(a2:Int)(x3:Zs)(t4:Int)(p5:Int)(x6:Int)(m7:Int)(r:(Verdict×Int))(h:Zg8 n1 a2 x3 t4 p5 x6 m7=some r):PCon Tryz.prog 8 [rd Z1v n1,rd (Z0 .i64) a2,rd (Z4 24 Z7) x3,rd (Z0 .i64) t4,rd (Z0 .i64) p5,rd (Z0 .i64) x6,rd (Z0 .i64) m7] (Z0t (rd Z3k r.1) (rd (Z0 .i64) r.2)):=by
 refine PCon.of (Con.intro0 Tryz.func8 rfl Tryz.ntmps8 rfl fun w H Z=>?_)
 unfold Zg8 at h
 refine SR<|Cv rfl (Zm 8 rfl rfl (vt rfl)) fun g8=>Cv rfl (Zm 9 rfl rfl (vt rfl)) fun g9=>Cv rfl (Zm 10 rfl rfl (vt rfl)) fun g10=>Cv rfl (Zm 11 rfl rfl (vt rfl)) fun g11=>Cv rfl (Zm 12 rfl rfl (vt rfl)) fun g12=>Cv rfl (Zm 13 rfl rfl (vt rfl)) fun g13=>Cv rfl (Zm 14 rfl rfl (vt rfl)) fun g14=>Cv rfl (Zo 15 rfl rfl Z94) fun g15=>Cv rfl (Zo 16 rfl rfl Yda) fun g16=>Nl<|sq<|sq ?_
 obtain ⟨x17,hx17,h⟩:=Z6 h
 refine Rg<|Ld Z61 8 rfl<|Cl [20] (Yjf _ _ hx17) e14 rfl<|Ac (Z0g rfl rfl (vt rfl)) rfl<|Nl<|Cq rfl h (fun h=>?_) (fun h=>?_)
 ·refine SR<|Ac (opb (⟨false,(Vector.replicate 24 Z0r),Z59⟩:Verdict) Z94 rfl Zjk (pn rfl)) rfl<|Ze Z6p 15 rfl<|Ac (Z3s rfl rfl Za4 (vt rfl) (i:=16) rfl (vk rfl)) rfl<|Nl<|rt ?_
  cases h;exact Z0c Tryz.results8 rfl (Zv rfl (i:=15) rfl Z6p) (Zv rfl (i:=16) rfl Za4)
 ·refine sk<|sq<|sq ?_
  obtain ⟨x18,hx18,x19,hx19,h⟩:=bs2 h
  refine Rg<|Ld Z61 8 rfl<|Cl [24] (Yfz _ _ hx18) e16 rfl<|Cl [25] (Y61 _ _ hx19) e15 rfl<|Nl<|bk ?_
  obtain ⟨z22,hz22,h⟩:=Z6 h
  refine AW.fit (d:=[]) (L:=[(7,Za g8 (Lens.id Z1v)),(8,Za g9 (Lens.id (Z0 .i64))),(9,Za g10 (Lens.id (Z4 24 Z7))),(10,Za g11 (Lens.id (Z0 .i64))),(11,Za g12 (Lens.id (Z0 .i64))),(12,Za g13 (Lens.id (Z0 .i64))),(13,Za g14 (Lens.id (Z0 .i64))),(14,Za g15 (Lens.id Z3k)),(15,Za g16 (Lens.id (Z0 .i64))),(26,Z2s Tryz.prog Z1a x19)]) (M:=[(8,Zd g8 48 Z1v n1),(9,Zd g9 3 (Z0 .i64) a2),(10,Zd g10 32 (Z4 24 Z7) x3),(11,Zd g11 3 (Z0 .i64) t4),(12,Zd g12 3 (Z0 .i64) p5),(13,Zd g13 3 (Z0 .i64) x6),(14,Zd g14 3 (Z0 .i64) m7),(15,Zd g15 41 Z3k Zbz),(16,Zd g16 42 (Z0 .i64) 0)]) (FX rfl) ?_
  refine AW.rangeFunc (σ:=Verdict×Int) (fun x=>[rd Z1a x]) (fun s x=>Zku n1 a2 x3 x6 m7 t4 p5 s.1 s.2 x) (fun s=>Z2e ((fun s=>[(8,Zd g8 48 Z1v n1),(9,Zd g9 3 (Z0 .i64) a2),(10,Zd g10 32 (Z4 24 Z7) x3),(11,Zd g11 3 (Z0 .i64) t4),(12,Zd g12 3 (Z0 .i64) p5),(13,Zd g13 3 (Z0 .i64) x6),(14,Zd g14 3 (Z0 .i64) m7),(15,Zd g15 41 Z3k s.1),(16,Zd g16 42 (Z0 .i64) s.2)]) s)) (fun _ s=>Z2e ((fun s=>[(8,Zd g8 48 Z1v n1),(9,Zd g9 3 (Z0 .i64) a2),(10,Zd g10 32 (Z4 24 Z7) x3),(11,Zd g11 3 (Z0 .i64) t4),(12,Zd g12 3 (Z0 .i64) p5),(13,Zd g13 3 (Z0 .i64) x6),(14,Zd g14 3 (Z0 .i64) m7),(15,Zd g15 41 Z3k s.1),(16,Zd g16 42 (Z0 .i64) s.2)]) s)) [(7,Za g8 (Lens.id Z1v)),(8,Za g9 (Lens.id (Z0 .i64))),(9,Za g10 (Lens.id (Z4 24 Z7))),(10,Za g11 (Lens.id (Z0 .i64))),(11,Za g12 (Lens.id (Z0 .i64))),(12,Za g13 (Lens.id (Z0 .i64))),(13,Za g14 (Lens.id (Z0 .i64))),(14,Za g15 (Lens.id Z3k)),(15,Za g16 (Lens.id (Z0 .i64)))] (fun s x23 S1=> ∃(g24:Nat),Fit S1 [] [(7,Za g8 (Lens.id Z1v)),(8,Za g9 (Lens.id (Z0 .i64))),(9,Za g10 (Lens.id (Z4 24 Z7))),(10,Za g11 (Lens.id (Z0 .i64))),(11,Za g12 (Lens.id (Z0 .i64))),(12,Za g13 (Lens.id (Z0 .i64))),(13,Za g14 (Lens.id (Z0 .i64))),(14,Za g15 (Lens.id Z3k)),(15,Za g16 (Lens.id (Z0 .i64))),(16,Za g24 (Lens.id Z1a))] [(8,Zd g8 48 Z1v n1),(9,Zd g9 3 (Z0 .i64) a2),(10,Zd g10 32 (Z4 24 Z7) x3),(11,Zd g11 3 (Z0 .i64) t4),(12,Zd g12 3 (Z0 .i64) p5),(13,Zd g13 3 (Z0 .i64) x6),(14,Zd g14 3 (Z0 .i64) m7),(15,Zd g15 41 Z3k s.1),(16,Zd g16 42 (Z0 .i64) s.2),(17,Zd g24 39 Z1a x23)]) 3001 (s0:=(Zbz,0)) (sE:=z22) rfl (vt rfl) ⟨rfl,inferInstance,rfl,inferInstance,rfl,inferInstance,rfl,inferInstance,rfl,inferInstance,rfl,inferInstance,rfl,inferInstance,rfl,inferInstance,rfl,inferInstance,trivial⟩ rfl (fun _=>rfl) (by intro p hp;have hp:p∈[27]:=hp;rw [List.mem_singleton.1 hp];show 27<56;decide) ?ha1 ?hb1 (fun Lf=>⟨top,_,_,Lf,_,_,hz22,rfl,rfl,rfl,rfl⟩) ?he1
  case ha1=>
   rintro ⟨b20,b21⟩ x23 r hF l w H X Z
   refine Rg<|Cv rfl (Zo 17 rfl rfl Y3l) fun g24=>Ze Z6q 17 rfl<|Nl ?_
   exact ⟨rfl,g24,FX rfl⟩
  case hb1=>
   rintro ⟨b20,b21⟩ x23 r h S1 ⟨g24,hfit⟩ l w H X Z
   refine AW.fit (d:=[]) (L:=[(7,Za g8 (Lens.id Z1v)),(8,Za g9 (Lens.id (Z0 .i64))),(9,Za g10 (Lens.id (Z4 24 Z7))),(10,Za g11 (Lens.id (Z0 .i64))),(11,Za g12 (Lens.id (Z0 .i64))),(12,Za g13 (Lens.id (Z0 .i64))),(13,Za g14 (Lens.id (Z0 .i64))),(14,Za g15 (Lens.id Z3k)),(15,Za g16 (Lens.id (Z0 .i64))),(16,Za g24 (Lens.id Z1a))]) (M:=[(8,Zd g8 48 Z1v n1),(9,Zd g9 3 (Z0 .i64) a2),(10,Zd g10 32 (Z4 24 Z7) x3),(11,Zd g11 3 (Z0 .i64) t4),(12,Zd g12 3 (Z0 .i64) p5),(13,Zd g13 3 (Z0 .i64) x6),(14,Zd g14 3 (Z0 .i64) m7),(15,Zd g15 41 Z3k b20),(16,Zd g16 42 (Z0 .i64) b21),(17,Zd g24 39 Z1a x23)]) hfit<|AW.bodyT ?_
   change Zku n1 a2 x3 x6 m7 t4 p5 b20 b21 x23=some r at h
   unfold Zku at h
   refine bk<|sq ?_
   obtain ⟨x25,hx25,h⟩:=Z6 h
   refine Rg<|Ld Z61 8 rfl<|Ld Z6q 17 rfl<|Ld Zc 9 rfl<|Ld Z09 10 rfl<|Ld Zc 13 rfl<|Ld Zc 14 rfl<|Cl [29,30,31,32,33,34] (Ymt _ _ _ _ _ _ _ hx25) e17 rfl<|Mt2 rfl<|Ac (Z10 rfl rfl (vt rfl)) rfl<|Ac (Z0z rfl rfl (vt rfl)) rfl<|As rfl<|As rfl<|Nl<|sq<|SR<|Md rfl<|Ac (Z2j rfl rfl (vt rfl) (vk rfl)) rfl<|Nl<|Cq rfl h (fun h=>?_) (fun h=>?_)
   ·refine SR<|Ac (opb (⟨false,(Vector.replicate 24 Z0r),Z59⟩:Verdict) Z94 rfl Zjk (pn rfl)) rfl<|Md rfl<|Ze Z6p 15 rfl<|Ze Za4 16 rfl<|Nl<|rt ?_
    obtain rfl:=si h
    exact ⟨_,((⟨false,(Vector.replicate 24 Z0r),Z59⟩:Verdict),x25.2),Turn.refl,rfl,⟨rfl,rfl,rfl,rfl,rfl,rfl,rfl,rfl,rfl,trivial⟩⟩
   ·refine sk<|sq ?_
    obtain ⟨x26,hx26,h⟩:=Z6 h
    refine Rg<|Md rfl<|Ld Zc 11 rfl<|Ld Zc 12 rfl<|Cl [42,43,44] (Y2c _ _ _ _ hx26) e6 rfl<|As rfl<|Nl<|SR<|Md rfl<|Ac (Z07 rfl rfl Z3b (vt rfl)) rfl<|Ac (Z1s rfl rfl (vt rfl) (vk rfl)) rfl<|Nl<|Cq rfl h (fun h=>?_) (fun h=>?_)
    ·refine sq ?_
     obtain ⟨x27,hx27,x28,hx28,h⟩:=bs2 h
     refine AR Z03 (by kernel_rfl)<|SMd rfl<|Sd (lo [49] [] rfl fun S hs hr=>Z0d rfl rfl Z3b (vh hs 49 rfl rfl) (vk rfl) hx27)<|SLp Z09 rfl<|SCl [51] (Y31 _ _ hx28) e18 rfl<|Zu Z6q 17 rfl<|Sd (lo [52,53] [] rfl fun S hs hr=>opb (⟨false,x28,x23⟩:Verdict) Z94 rfl Zjk (pc Y6p (vh hs 52 rfl rfl)<|pc Yoh (vh hs 53 rfl rfl)<|pn rfl))<|SSt Z6p 15 rfl<|Sd (Z3d [15] [16] rfl fun S hs hr=>Z3s rfl rfl Za4 (vh hs 15 rfl rfl) (i:=16) ((hr 16 rfl).trans rfl) (vk rfl))<|Sn<|rt ?_
     obtain rfl:=si h
     exact ⟨_,((⟨false,x28,x23⟩:Verdict),0),Turn.refl,rfl,⟨rfl,rfl,rfl,rfl,rfl,rfl,rfl,rfl,rfl,trivial⟩⟩
    ·refine sk ?_
     obtain rfl:=si h
     exact ⟨_,(b20,b21),Turn.refl,rfl,⟨rfl,rfl,rfl,rfl,rfl,rfl,rfl,rfl,rfl,trivial⟩⟩
  case he1=>
   intro D
   cases z22 with
   | go s29=>
    change _=some r at h
    refine SR<|Ac (opb (⟨true,(Vector.replicate 24 Z0r),Z59⟩:Verdict) Z94 rfl Zjk (pc Ycg vb<|pn rfl)) rfl<|Ze Z6p 15 rfl<|Ac (Z3s rfl rfl Za4 (vt rfl) (i:=16) rfl (vk rfl)) rfl<|Nl<|rt ?_
    cases h;exact ⟨rfl,3001,_,rfl,Z0c Tryz.results8 rfl (Zv rfl (i:=15) rfl Z6p) (Zv rfl (i:=16) rfl Za4)⟩
   | out c s29=>
    change (bif Z9n c then _ else _)=some r at h
    cases hc:Z9n c with
    | true=>
     rw [hc] at h
     have hc:=Y0m hc
     subst hc
     change _=some r at h
     refine rt ?_
     cases h;exact ⟨rfl,3001,_,rfl,Z0c Tryz.results8 rfl (Zv rfl (i:=15) rfl Z6p) (Zv rfl (i:=16) rfl Za4)⟩
    | false=>
     rw [hc] at h
     cases h
def Zh0:Option Bool:=
 (Zlu).bind fun x1=>(Z9y).bind fun x2=>(Zg8 x1 0 x2 1 5 4 100).bind fun x3=>(Zlu).bind fun x5=>(Z9y).bind fun x6=>(Zg8 x5 0 x6 1 6 4 100).bind fun x7=>(omk 1).bind fun u9=>(Z9y).bind fun x11=>(Zg8 (⟨[],(List.replicate (1:Int).toNat Zme)⟩:Net) 0 x11 1 6 4 100).bind fun x12=>some (((((((decide (x3.2=0))&&(!x3.1.Equal))&&(decide (((Vector.get x3.1.Header (⟨0,by decide⟩:_root_.Fin 24)).Lo)=(2:BitVec 64))))&&(decide (x3.1.Env.Turn=1)))&&(decide (x7.2=0)))&&x7.1.Equal)&&(decide (x12.2=7)))
theorem Zw1:Q0 Tryz.prog 4 (rd Z3) Zh0:=fun r h=>I0 Tryz.func4 rfl Tryz.ntmps4 rfl fun w H Z=>by
 unfold Zh0 at h
 refine SR<|Ab rfl<|Nl<|sq ?_
 obtain ⟨x1,hx1,x2,hx2,x3,hx3,h⟩:=bs3 h
 refine Rg<|Cl [] (Y30 _ hx1) e9 rfl<|Cl [] (Zeu _ hx2) e10 rfl<|Ac (Zz (xs:=[.tmp 8,.const (Value.int IntKind.i64 0),.tmp 9,.const (Value.int IntKind.i64 1),.const (Value.int IntKind.i64 5),.const (Value.int IntKind.i64 4),.const (Value.int IntKind.i64 100)]) (Zu6 _ _ _ _ _ _ _ _ hx3) e8 rfl rfl ⟨vt rfl,vk rfl,vt rfl,vk rfl,vk rfl,vk rfl,vk rfl,trivial⟩) rfl<|Mt2 rfl<|Ac (Z10 rfl rfl (vt rfl)) rfl<|Ac (Z0z rfl rfl (vt rfl)) rfl<|Cv rfl (Zo 2 rfl rfl Z94) fun g4=>Ze Z6p 2 rfl<|As rfl<|Nl<|sq ?_
 obtain ⟨x5,hx5,x6,hx6,x7,hx7,h⟩:=bs3 h
 refine Rg<|Cl [] (Y30 _ hx5) e9 rfl<|Cl [] (Zeu _ hx6) e10 rfl<|Ac (Zz (xs:=[.tmp 14,.const (Value.int IntKind.i64 0),.tmp 15,.const (Value.int IntKind.i64 1),.const (Value.int IntKind.i64 6),.const (Value.int IntKind.i64 4),.const (Value.int IntKind.i64 100)]) (Zu6 _ _ _ _ _ _ _ _ hx7) e8 rfl rfl ⟨vt rfl,vk rfl,vt rfl,vk rfl,vk rfl,vk rfl,vk rfl,trivial⟩) rfl<|Mt2 rfl<|Ac (Z10 rfl rfl (vt rfl)) rfl<|Ac (Z0z rfl rfl (vt rfl)) rfl<|Cv rfl (Zo 4 rfl rfl Z94) fun g8=>Ze Z6p 4 rfl<|As rfl<|Nl<|sq ?_
 obtain ⟨u9,hu9,x11,hx11,x12,hx12,h⟩:=bs3 h
 refine AR Z03 (by kernel_rfl)<|Sd (lo [] [1002] rfl fun S hs hr=>Y9t rfl (Ygr 1002 hu9 rfl rfl Yck Zja (vk rfl) (vk rfl)) rfl ((hr 1002 rfl).trans rfl))<|Sd (lo [20] [] rfl fun S hs hr=>opb (⟨[],(List.replicate (1:Int).toNat Zme)⟩:Net) Zoy rfl Y35 (pc Y46 (vh hs 20 rfl rfl)<|pn rfl))<|SCl [] (Zeu _ hx11) e10 rfl<|Sd (lo [21,22] [] rfl fun S hs hr=>Zz (xs:=[.tmp 21,.const (Value.int IntKind.i64 0),.tmp 22,.const (Value.int IntKind.i64 1),.const (Value.int IntKind.i64 6),.const (Value.int IntKind.i64 4),.const (Value.int IntKind.i64 100)]) (Zu6 _ _ _ _ _ _ _ _ hx12) e8 rfl rfl ⟨vt ((hs 21 rfl).trans rfl),vk rfl,vt ((hs 22 rfl).trans rfl),vk rfl,vk rfl,vk rfl,vk rfl,trivial⟩)<|Sd (lo [23] [] rfl fun S hs hr=>Zk (A:=Z0t (rd Z3k x12.1) (rd (Z0 .i64) x12.2)) rfl rfl (vh hs 23 rfl rfl))<|Sd (lo [19] [] rfl fun S hs hr=>Z10 rfl rfl (vh hs 19 rfl rfl))<|Sd (lo [19] [] rfl fun S hs hr=>Z0z rfl rfl (vh hs 19 rfl rfl))<|Sd (Z18 (us:=[(5,Z28 41 Z3k Zbz)]) (ur:=[]) [] [] rfl fun S hs hr=>Z55 rfl rfl rfl Z94)<|Sd (Z18 (us:=[(5,Z28 41 Z3k x12.1)]) (ur:=[]) [5,24] [] rfl fun S hs hr=>Z4z rfl rfl Z6p ((hs 5 rfl).trans rfl) (vh hs 24 rfl rfl))<|SAs rfl<|Sn<|AW.unpackP 5 6 rfl rfl fun g13=>SR<|Md rfl<|Ac (Zy rfl rfl (vt rfl) (vk rfl)) rfl<|Md rfl<|Gd rfl (fun hq=>Z0i lVerdict_0 rfl rfl Zyy (vt rfl))<|Gd rfl (fun hq=>Z08 rfl rfl ty4 (Z8 rfl hq) (i:=2) rfl)<|Gd rfl (fun hq=>Z0g rfl rfl (Z8 rfl hq))<|Ac (Z0h rfl rfl (vt rfl) (vt rfl)) rfl<|Md rfl<|Gd rfl (fun hq=>Z0i lVerdict_1 rfl rfl Y6b (vt rfl))<|Gd rfl (fun hq=>Z2o rfl rfl Zww (Z8 rfl hq) (vk rfl) rfl)<|Gd rfl (fun hq=>Z0i lWide_1 rfl rfl Z5t (Z8 rfl hq))<|Gd rfl (fun hq=>Z08 rfl rfl Z1q (Z8 rfl hq) (i:=2) rfl)<|Gd rfl (fun hq=>Ziu rfl rfl (Z8 rfl hq) (vku (2:BitVec 64) rfl))<|Ac (Z0h rfl rfl (vt rfl) (vt rfl)) rfl<|Md rfl<|Gd rfl (fun hq=>Z0i lVerdict_2 rfl rfl Yhd (vt rfl))<|Gd rfl (fun hq=>Z0i lEnv_0 rfl rfl Zvv (Z8 rfl hq))<|Gd rfl (fun hq=>Z08 rfl rfl Zc (Z8 rfl hq) (i:=2) rfl)<|Gd rfl (fun hq=>Zy rfl rfl (Z8 rfl hq) (vk rfl))<|Ac (Z0h rfl rfl (vt rfl) (vt rfl)) rfl<|Md rfl<|Gd rfl (fun hq=>Zk (A:=rd (Z0 .i64) x7.2) rfl rfl (vt rfl))<|Gd rfl (fun hq=>Zy rfl rfl (Z8 rfl hq) (vk rfl))<|Ac (Z0h rfl rfl (vt rfl) (vt rfl)) rfl<|Md rfl<|Gd rfl (fun hq=>Z0i lVerdict_0 rfl rfl Zyy (vt rfl))<|Gd rfl (fun hq=>Z08 rfl rfl ty4 (Z8 rfl hq) (i:=4) rfl)<|Ac (Z0h rfl rfl (vt rfl) (vt rfl)) rfl<|Md rfl<|Gd rfl (fun hq=>Zk (A:=rd (Z0 .i64) x12.2) rfl rfl (vt rfl))<|Gd rfl (fun hq=>Zy rfl rfl (Z8 rfl hq) (vk rfl))<|Ac (Z0h rfl rfl (vt rfl) (vt rfl)) rfl<|As rfl ?_
 refine Nl<|rt ?_
 cases h;exact Z9 Tryz.results4 rfl (Z5 rfl)
def Z9g (l1:(List Ray))(t2:Int)(p3:Int):Nat→(List Zs)→Int→Option (List Zs)
 | 0,_,_=>none
 | m11+1,l8,i10=>(bif (decide (i10<(l1.length:Int))) then (lget l1 i10).bind fun x12=>(opt x12.Left (lget l1 i10)).bind fun x13=>(opt (x12.Left&&(decide (x13.At=t2))) (lget l1 i10)).bind fun x14=>(bif ((x12.Left&&(decide (x13.At=t2)))&&(decide (x14.Port=p3))) then (lget l1 i10).bind fun x15=>(Z11 l8 [x15.Cube]).bind fun l16=>(Z9g l1 t2 p3 m11) l16 (IntKind.i64.wrap (i10+1)) else (Z9g l1 t2 p3 m11) l8 (IntKind.i64.wrap (i10+1))) else some l8)
def Zfq (l1:(List Ray))(t2:Int)(p3:Int):Option (List Zs):=
 Z9g l1 t2 p3 ((((l1.length:Int):Int) - 0).toNat+1) [] 0
theorem Ylg:Q3 Tryz.prog 7 (rd (Z1 Z0u)) (rd (Z0 .i64)) (rd (Z0 .i64)) (rd (Z1 (Z4 24 Z7))) Zfq:=fun l1 t2 p3 r h=>I0 Tryz.func7 rfl Tryz.ntmps7 rfl fun w H Z=>by
 unfold Zfq at h
 refine SR<|Ac (Zn (A:=rd (Z1 (Z4 24 Z7)) []) rfl rfl Z04) rfl<|Nl<|SR<|Cv rfl (Z65 1001 (ps:=[]) (l:=[]) rfl rfl Z3b Z22 rfl rfl rfl rfl) fun v4=>Aw rfl<|Nl<|sq<|SR<|Ak rfl<|Nl<|bk<|LG (d:=[]) (ν:=Nat×(List Zs)×Int×Value) (fun (m11,l8,i10,v9)=>(True∧Z9g l1 t2 p3 m11 l8 i10=some r,m11,[(0,rd (Z1 Z0u) l1),(1,rd (Z0 .i64) t2),(2,rd (Z0 .i64) p3),(7,Zg v9),(8,rd (Z0 .i64) i10)],[(1001,Zi v9 32 (Z4 24 Z7) l8)])) (((((l1.length:Int):Int) - 0).toNat+1),[],0,v4) ⟨trivial,h⟩ (FX rfl) ?_
 rintro ⟨m11,l8,i10,v9⟩ ⟨hsf1,h⟩
 dsimp only at h ⊢
 cases m11 with
 | zero=>cases h
 | succ m11=>
  unfold Z9g at h
  refine sq<|SR<|Md rfl<|Md rfl<|Ac (Z07 rfl rfl Z5h (vt rfl)) rfl<|Ac (Zh rfl rfl (vt rfl) (vt rfl)) rfl<|Nl<|Cq rfl h (fun h=>?_) (fun h=>?_)
  ·refine sk<|sq<|bk<|sq ?_
   obtain ⟨x12,hx12,x13,hx13,x14,hx14,h⟩:=bs3 h
   refine Rg<|Md rfl<|Md rfl<|Ac (Z0d rfl rfl Z5h (vt rfl) (vt rfl) hx12) rfl<|Fp lRay_3 Zz2 rfl<|Lp1 ty4 rfl<|Md rfl<|Gd rfl (fun hq=>Zk (A:=rd (Z1 Z0u) l1) rfl rfl (vt rfl))<|Gd rfl (fun hq=>Zk (A:=rd (Z0 .i64) i10) rfl rfl (vt rfl))<|Gd rfl (fun hq=>Z0d rfl rfl Z5h (Z8 rfl hq) (Z8 rfl hq) (Z1p hx13 hq))<|Gd rfl (fun hq=>Z4n lRay_0 rfl rfl Y1u (Z8 rfl hq))<|Gd rfl (fun hq=>Z4i rfl rfl Zc (Z8 rfl hq))<|Gd rfl (fun hq=>Zk (A:=rd (Z0 .i64) t2) rfl rfl (vt rfl))<|Gd rfl (fun hq=>Zy rfl rfl (Z8 rfl hq) (Z8 rfl hq))<|Ac (Z0h rfl rfl (vt rfl) (vt rfl)) rfl<|Md rfl<|Gd rfl (fun hq=>Zk (A:=rd (Z1 Z0u) l1) rfl rfl (vt rfl))<|Gd rfl (fun hq=>Zk (A:=rd (Z0 .i64) i10) rfl rfl (vt rfl))<|Gd rfl (fun hq=>Z0d rfl rfl Z5h (Z8 rfl hq) (Z8 rfl hq) (Z1p hx14 hq))<|Gd rfl (fun hq=>Z4n lRay_1 rfl rfl Zw3 (Z8 rfl hq))<|Gd rfl (fun hq=>Z4i rfl rfl Zc (Z8 rfl hq))<|Gd rfl (fun hq=>Zk (A:=rd (Z0 .i64) p3) rfl rfl (vt rfl))<|Gd rfl (fun hq=>Zy rfl rfl (Z8 rfl hq) (Z8 rfl hq))<|Ac (Z0h rfl rfl (vt rfl) (vt rfl)) rfl<|Nl<|Cq rfl h (fun h=>?_) (fun h=>?_)
   ·obtain ⟨x15,hx15,l16,hl16,h⟩:=bs2 h
    refine Rg<|Mw rfl<|Md rfl<|Md rfl<|Ac (Z0d rfl rfl Z5h (vt rfl) (vt rfl) hx15) rfl<|Fp lRay_4 Zvq rfl<|Lp1 Z09 rfl<|Ac (osl Z3b Z22 rfl (vt rfl)) rfl<|Cv rfl (Z1f 1001 hl16 rfl rfl Zjo (vt rfl) rfl (vt rfl)) fun v17=>Aw rfl<|Nl<|Rg<|Md rfl<|Ac (Z0o rfl rfl (vt rfl) (vk rfl)) rfl<|As rfl<|Nl ?_
    exact ⟨(_,_,_,_),Nat.lt_succ_self _,⟨trivial,h⟩,FX rfl⟩
   ·refine sk<|Rg<|Md rfl<|Ac (Z0o rfl rfl (vt rfl) (vk rfl)) rfl<|As rfl<|Nl ?_
    exact ⟨(_,_,_,_),Nat.lt_succ_self _,⟨trivial,h⟩,FX rfl⟩
  ·refine xt<|SR<|Mw rfl<|Aw rfl<|Nl<|AW.freezes [6,7,47] 1001 rfl ⟨rfl,rfl,rfl,trivial⟩ rfl<|rt ?_
   cases h;exact Z9 Tryz.results7 rfl (Z5 rfl)
def Zab (s1:(List Zs))(s2:(List Zs)):Nat→Nat→Option Bool
 | 0,i3=>some true
 | m4+1,i3=>(lget s1 (i3:Int)).bind fun x5=>(lget s2 (i3:Int)).bind fun x6=>(bif (decide (x5≠x6)) then some false else (Zab s1 s2 m4) (i3+1))
def Zfv (s1:(List Zs))(s2:(List Zs)):Option Bool:=
 (bif (decide ((s1.length:Int)≠(s2.length:Int))) then some false else Zab s1 s2 ((s1.length:Int):Int).toNat 0)
theorem Ydp:Q2 Tryz.prog 5 (rd (Z1 (Z4 24 Z7))) (rd (Z1 (Z4 24 Z7))) (rd Z3) Zfv:=fun s1 s2 r h=>I0 Tryz.func5 rfl Tryz.ntmps5 rfl fun w H Z=>by
 unfold Zfv at h
 refine SR<|Ab rfl<|Nl<|sq<|SR<|Md rfl<|Ac (Z07 rfl rfl Z3b (vt rfl)) rfl<|Md rfl<|Ac (Z07 rfl rfl Z3b (vt rfl)) rfl<|Ac (Z2j rfl rfl (vt rfl) (vt rfl)) rfl<|Nl<|Cq rfl h (fun h=>?_) (fun h=>?_)
 ·refine SR<|Ab rfl<|Nl<|rt ?_
  cases h;exact Z9 Tryz.results5 rfl (Z5 rfl)
 ·refine sk<|sq<|SR<|Md rfl<|Ac (Z07 rfl rfl Z3b (vt rfl)) rfl<|Mk rfl<|Nl<|bk<|LG (d:=[]) (ν:=Nat×Nat) (fun (m4,i3)=>(Cnt (s1.length:Int) i3 m4∧Zab s1 s2 m4 i3=some r,m4,[(0,rd (Z1 (Z4 24 Z7)) s1),(1,rd (Z1 (Z4 24 Z7)) s2),(12,rd (Z0 .i64) (s1.length:Int)),(13,rd (Z0 .i64) (i3:Int))],[])) (((s1.length:Int):Int).toNat,0) ⟨Cnt.start _,h⟩ (FX rfl) ?_
  rintro ⟨m4,i3⟩ ⟨hsf1,h⟩
  dsimp only at hsf1 h ⊢
  cases m4 with
  | zero=>
   unfold Zab at h
   refine SR<|Ac (Zh rfl rfl (vt rfl) (vt rfl)) rfl<|Nl<|sq<|Cn rfl (fun hc=>absurd (of_decide_eq_true hc) hsf1.zero) (fun hc=>?_)
   refine xt<|SR<|Ab rfl<|Nl<|rt ?_
   cases h;exact Z9 Tryz.results5 rfl (Z5 rfl)
  | succ m4=>
   unfold Zab at h
   refine SR<|Ac (Zh rfl rfl (vt rfl) (vt rfl)) rfl<|Nl<|sq<|Cn rfl (fun hc=>?_) (fun hc=>absurd hsf1.succ (of_decide_eq_false hc))
   have hlti3:=of_decide_eq_true hc
   refine sk<|sq<|bk<|SR<|Md rfl<|As rfl<|Nl<|sq ?_
   obtain ⟨x5,hx5,x6,hx6,h⟩:=bs2 h
   refine AR Z03 (by kernel_rfl)<|SMd rfl<|SMd rfl<|Sd (lo [16,17] [] rfl fun S hs hr=>Z0d rfl rfl Z3b (vh hs 16 rfl rfl) (vh hs 17 rfl rfl) hx5)<|SLp Z09 rfl<|SMd rfl<|SMd rfl<|Sd (lo [20,21] [] rfl fun S hs hr=>Z0d rfl rfl Z3b (vh hs 20 rfl rfl) (vh hs 21 rfl rfl) hx6)<|SLp Z09 rfl<|Sd (lo [19,23] [] rfl fun S hs hr=>Ynl rfl rfl Y15 (by decide) rfl Y7v (vh hs 19 rfl rfl) (vh hs 23 rfl rfl))<|Sn<|Cq rfl h (fun h=>?_) (fun h=>?_)
   ·refine SR<|Ab rfl<|Nl<|rt ?_
    cases h;exact Z9 Tryz.results5 rfl (Z5 rfl)
   ·refine sk<|Rg<|Ac (Z0a (t:=12) rfl rfl (vt rfl) (vk rfl) (vt rfl) hlti3) rfl<|Md rfl<|Nl ?_
    exact ⟨(_,_),Nat.lt_succ_self _,⟨hsf1.next,h⟩,FX rfl⟩
def Zea (l1:(List Ray))(t2:Int)(p3:Int):Option Bool:=
 (bif (decide ((l1.length:Int)>300)) then (Zh0).bind fun x4=>some x4 else (Zaq l1 t2 p3).bind fun x5=>(Zfq l1 t2 p3).bind fun x6=>(Zfv x5 x6).bind fun x7=>(opt x7 (Zh0)).bind fun x8=>some (x7&&x8))
theorem Ynw:Q3 Tryz.prog 3 (rd (Z1 Z0u)) (rd (Z0 .i64)) (rd (Z0 .i64)) (rd Z3) Zea:=fun l1 t2 p3 r h=>I0 Tryz.func3 rfl Tryz.ntmps3 rfl fun w H Z=>by
 unfold Zea at h
 refine SR<|Ab rfl<|Nl<|sq<|SR<|Md rfl<|Ac (Z07 rfl rfl Z5h (vt rfl)) rfl<|Ac (Z1s rfl rfl (vt rfl) (vk rfl)) rfl<|Nl<|Cq rfl h (fun h=>?_) (fun h=>?_)
 ·refine sq ?_
  obtain ⟨x4,hx4,h⟩:=Z6 h
  refine Rg<|Cl [] (Zw1 _ hx4) e4 rfl<|As rfl<|Nl<|rt ?_
  cases h;exact Z9 Tryz.results3 rfl (Z5 rfl)
 ·refine sk<|sq ?_
  obtain ⟨x5,hx5,x6,hx6,x7,hx7,x8,hx8,h⟩:=bs4 h
  refine Rg<|Md rfl<|Md rfl<|Md rfl<|Cl [11,12,13] (Y2c _ _ _ _ hx5) e6 rfl<|Md rfl<|Md rfl<|Md rfl<|Cl [15,16,17] (Ylg _ _ _ _ hx6) e7 rfl<|Cl [14,18] (Ydp _ _ _ hx7) e5 rfl<|Md rfl<|Gd rfl (fun hq=>Zz (xs:=[]) (Zw1 _ (Z1p hx8 hq)) e4 rfl rfl trivial)<|Ac (Z0h rfl rfl (vt rfl) (vt rfl)) rfl<|As rfl<|Nl<|rt ?_
  cases h;exact Z9 Tryz.results3 rfl (Z5 rfl)
end Go.Proofs.YtjppkmpecdbepaaGreatDoor.W
