/- A part of the proof. -/
import Derived.Test.YtknpgojdkobgjaaGreatG2
set_option linter.unusedVariables false
set_option maxRecDepth 4000
set_option linter.unusedSimpArgs false
namespace Go.Proofs.YtknpgojdkobgjaaGreat.W
open Go Go.Wb
theorem Y7v : Ent Tryz.prog 171 := Ent.mk Tryz.func171 rfl rfl
theorem Yds : Ent Tryz.prog 113 := Ent.mk Tryz.func113 rfl rfl
theorem Y6k : Ent Tryz.prog 330 := Ent.mk Tryz.func330 rfl rfl
theorem Yg9 : Ent Tryz.prog 293 := Ent.mk Tryz.func293 rfl rfl
theorem Y6n : Ent Tryz.prog 246 := Ent.mk Tryz.func246 rfl rfl
theorem Ybf : Ent Tryz.prog 184 := Ent.mk Tryz.func184 rfl rfl
theorem Y3s : Ent Tryz.prog 116 := Ent.mk Tryz.func116 rfl rfl
theorem e52 : Ent Tryz.prog 52 := Ent.mk Tryz.func52 rfl rfl
theorem e53 : Ent Tryz.prog 53 := Ent.mk Tryz.func53 rfl rfl
theorem e55 : Ent Tryz.prog 55 := Ent.mk Tryz.func55 rfl rfl
theorem e57 : Ent Tryz.prog 57 := Ent.mk Tryz.func57 rfl rfl
def Zcc (l1 : (List Rule)) (m2 : Int) : Nat → (List Rule) → Int → Option ((List Rule) × Int)
 | 0, _, _ => none
 | m10 + 1, l7, i9 => (bif (decide (i9 < (l1.length : Int))) then (lget l1 i9).bind fun x11 => (Zbu l7).bind fun x12 => (Zjw x11.Cube x12 m2).bind fun x13 => (bif (decide (x13.2.2 ≠ 0)) then some ([], 5) else (bif x13.2.1 then (lget l1 i9).bind fun x15 => (Z0y l7 [x15]).bind fun l16 => (Zcc l1 m2 m10) l16 (IntKind.i64.wrap (i9 + 1)) else (Zcc l1 m2 m10) l7 (IntKind.i64.wrap (i9 + 1)))) else some (l7, 0))
def Zmu (l1 : (List Rule)) (m2 : Int) : Option ((List Rule) × Int) :=
 Zcc l1 m2 ((((l1.length : Int) : Int) - 0).toNat + 1) [] 0
theorem Ygi : Q2 Tryz.prog 113 (rd (Z3 Zy)) (rd (Z0 .i64)) (fun r => Z1c (rd (Z3 Zy) r.1) (rd (Z0 .i64) r.2)) Zmu := fun l1 m2 r h => I0 Tryz.func113 rfl Tryz.ntmps113 rfl fun w H => by
 unfold Zmu at h
 refine SR <| Ac (Z04 (A := rd (Z3 Zy) []) rfl rfl Z26) rfl <| Ak rfl <| Nl <| SR <| Cv rfl (Z43 1001 (ps := []) (l := []) rfl rfl Z1m Z4c rfl rfl rfl rfl) fun v3 => Aw rfl <| Nl <| sq <| SR <| Ak rfl <| Nl <| bk <| LG (d := []) (ν := Nat × (List Rule) × Int × Value) (fun (m10, l7, i9, v8) => (True ∧ Zcc l1 m2 m10 l7 i9 = some r, m10, [(0, rd (Z3 Zy) l1), (1, rd (Z0 .i64) m2), (6, Zj v8), (7, rd (Z0 .i64) i9)], [(1001, Zh v8 90 Zy l7)])) (((((l1.length : Int) : Int) - 0).toNat + 1), [], 0, v3) ⟨trivial, h⟩ (FX rfl) ?_
 rintro ⟨m10, l7, i9, v8⟩ ⟨hsf1, h⟩
 dsimp only at h ⊢
 cases m10 with
 | zero => cases h
 | succ m10 =>
  unfold Zcc at h
  refine sq <| SR <| Md rfl <| Md rfl <| Ac (Z09 rfl rfl Z1m (vt rfl)) rfl <| Ac (Zl rfl rfl (vt rfl) (vt rfl)) rfl <| Nl <| Cq rfl h (fun h => ?_) (fun h => ?_)
  ·refine sk <| sq <| bk <| sq ?_
   obtain ⟨x11, hx11, x12, hx12, x13, hx13, h⟩ := bs3 h
   refine AR Zz (by kernel_rfl) <| Zg rfl <| Zg rfl <| Sd (lo [19, 20] [] rfl fun S hs hr => Z03 rfl rfl Z1m (vh hs 19 rfl rfl) (vh hs 20 rfl rfl) hx11) <| SFp lRule_0 Z7e rfl <| SLp Zv rfl <| SMw rfl <| Sd (lo [24] [1001] rfl fun S hs hr => Ydl (xs := [.tmp 24]) 1001 (Y0p _ _ hx12) Zuo rfl rfl ⟨vL ((hs 24 rfl).trans rfl) ((hr 1001 rfl).trans rfl), trivial⟩) <| Zg rfl <| SCl [23, 25, 26] (Y9b _ _ _ _ hx13) Y7v rfl <| Sd (lo [27] [] rfl fun S hs hr => Zk (A := Z2k (rd (Z1 24 Zp) x13.1) (rd Z7 x13.2.1) (rd (Z0 .i64) x13.2.2)) rfl rfl (vh hs 27 rfl rfl)) <| Sd (lo [18] [] rfl fun S hs hr => Zcq rfl rfl (vh hs 18 rfl rfl)) <| Sd (lo [18] [] rfl fun S hs hr => Zcj rfl rfl (vh hs 18 rfl rfl)) <| Sd (lo [18] [] rfl fun S hs hr => Zbb rfl rfl (vh hs 18 rfl rfl)) <| Sd (Z11 (us := [(8, Z1u 44 (Z1 24 Zp) (Vector.replicate 24 Z00))]) (ur := []) [] [] rfl fun S hs hr => Z4t rfl rfl rfl Z35) <| Sd (Z11 (us := [(8, Z1u 44 (Z1 24 Zp) x13.1)]) (ur := []) [8, 28] [] rfl fun S hs hr => Z54 rfl rfl Z15 ((hs 8 rfl).trans rfl) (vh hs 28 rfl rfl)) <| SAs rfl <| SAs rfl <| Sn <| AW.unpackP 8 9 rfl rfl fun g14 => sq <| SR <| Md rfl <| Ac (Z2o rfl rfl (vt rfl) (vk rfl)) rfl <| Nl <| Cq rfl h (fun h => ?_) (fun h => ?_)
   ·refine SR <| Ac (Z04 (A := rd (Z3 Zy) []) rfl rfl Z26) rfl <| Ak rfl <| Nl <| rt ?_
    cases h; exact Z1x Tryz.results113 rfl (Z4 rfl) (Z4 rfl)
   ·refine sk <| SR <| Md rfl <| Nl <| Cq rfl h (fun h => ?_) (fun h => ?_)
    ·obtain ⟨x15, hx15, l16, hl16, h⟩ := bs2 h
     refine Rg <| Mw rfl <| Md rfl <| Md rfl <| Ac (Z03 rfl rfl Z1m (vt rfl) (vt rfl) hx15) rfl <| Lp1 Z4n rfl <| Ac (osl Z1m Z4c rfl (vt rfl)) rfl <| Cv rfl (Z29 1001 hl16 rfl rfl Zeb (vt rfl) rfl (vt rfl)) fun v17 => Aw rfl <| Nl <| Rg <| Md rfl <| Ac (Z02 rfl rfl (vt rfl) (vk rfl)) rfl <| As rfl <| Nl ?_
     exact ⟨(_, _, _, _), Nat.lt_succ_self _, ⟨trivial, h⟩, FX rfl⟩
    ·refine sk <| Rg <| Md rfl <| Ac (Z02 rfl rfl (vt rfl) (vk rfl)) rfl <| As rfl <| Nl ?_
     exact ⟨(_, _, _, _), Nat.lt_succ_self _, ⟨trivial, h⟩, FX rfl⟩
  ·refine xt <| SR <| Mw rfl <| Aw rfl <| Ak rfl <| Nl <| AW.freezes [4, 6, 41] 1001 rfl ⟨rfl, rfl, rfl, trivial⟩ rfl <| rt ?_
   cases h; exact Z1x Tryz.results113 rfl (Z4 rfl) (Z4 rfl)
def Zgn (s1 : Switch) (m2 : Int) : Option (Flat × Int) :=
 (Zc3 s1).bind fun x5 => (Zmu x5 m2).bind fun x6 => (bif (decide (x6.2 ≠ 0)) then some ((⟨[], []⟩ : Flat), x6.2) else some ((⟨x6.1, s1.Groups⟩ : Flat), 0))
theorem Ybx : Q2 Tryz.prog 55 (rd Z0p) (rd (Z0 .i64)) (fun r => Z1c (rd Z4v r.1) (rd (Z0 .i64) r.2)) Zgn := fun s1 m2 r h => I0 Tryz.func55 rfl Tryz.ntmps55 rfl fun w H => by
 unfold Zgn at h
 refine SR <| Cv rfl (Zn 3 rfl rfl (vt rfl)) fun g3 => Cv rfl (Zo 5 rfl rfl Z68) fun g4 => Ak rfl <| Nl <| sq ?_
 obtain ⟨x5, hx5, x6, hx6, h⟩ := bs2 h
 refine Rg <| Ld Z3e 3 rfl <| Cl [9] (Y03 _ _ hx5) e23 rfl <| Md rfl <| Cl [10, 11] (Ygi _ _ _ hx6) Yds rfl <| Mt2 rfl <| Ac (Z1j rfl rfl (vt rfl)) rfl <| Ac (Z1i rfl rfl (vt rfl)) rfl <| As rfl <| As rfl <| Nl <| sq <| SR <| Md rfl <| Ac (Z2o rfl rfl (vt rfl) (vk rfl)) rfl <| Nl <| Cq rfl h (fun h => ?_) (fun h => ?_)
 ·refine SR <| Ac (opb (⟨[], []⟩ : Flat) Z68 rfl Zk3 (pn rfl)) rfl <| Md rfl <| Zd Z3q 5 rfl <| As rfl <| Nl <| rt ?_
  cases h; exact Z1x Tryz.results55 rfl (Zx rfl (i := 5) rfl Z3q) (Z4 rfl)
 ·refine sk <| SR <| Md rfl <| Zt Zp1 Zrv rfl <| Ld Zcf 3 rfl <| Ac (opb (⟨x6.1, s1.Groups⟩ : Flat) Z68 rfl Zk3 (pc Y0z (vt rfl) <| pc Y0x (vt rfl) <| pn rfl)) rfl <| Zd Z3q 5 rfl <| Ak rfl <| Nl <| rt ?_
  cases h; exact Z1x Tryz.results55 rfl (Zx rfl (i := 5) rfl Z3q) (Z4 rfl)
def Zpa (a1 : Oxm) (b2 : Oxm) : Option Bool :=
 some ((((decide (a1.Field = b2.Field)) && (a1.Masked == b2.Masked)) && (decide (a1.Value = b2.Value))) && (decide (a1.Mask = b2.Mask)))
theorem Y9c : Q2 Tryz.prog 330 (rd Z1w) (rd Z1w) (rd Z7) Zpa := fun a1 b2 r h => I0 Tryz.func330 rfl Tryz.ntmps330 rfl fun w H => by
 unfold Zpa at h
 refine SR <| Cv rfl (Zn 3 rfl rfl (vt rfl)) fun g3 => Cv rfl (Zn 4 rfl rfl (vt rfl)) fun g4 => Ab rfl <| Nl <| SR <| Zt Z40 Z49 rfl <| Ld Zq 3 rfl <| Zt Z40 Z49 rfl <| Ld Zq 4 rfl <| Ac (Z0f rfl rfl (vt rfl) (vt rfl)) rfl <| Md rfl <| Gd rfl (fun hq => Z0t Zl8 rfl rfl Zlg (vt rfl)) <| Gd rfl (fun hq => Z0g rfl rfl ty4 (Z6 rfl hq) (i := 3) rfl) <| Gd rfl (fun hq => Z0t Zl8 rfl rfl Zlg (vt rfl)) <| Gd rfl (fun hq => Z0g rfl rfl ty4 (Z6 rfl hq) (i := 4) rfl) <| Gd rfl (fun hq => Y4g rfl rfl un4 (Z6 rfl hq) (Z6 rfl hq)) <| Ac (Z0o rfl rfl (vt rfl) (vt rfl)) rfl <| Md rfl <| Gd rfl (fun hq => Z0t Zbp rfl rfl Zfz (vt rfl)) <| Gd rfl (fun hq => Z0g rfl rfl Zs (Z6 rfl hq) (i := 3) rfl) <| Gd rfl (fun hq => Z0t Zbp rfl rfl Zfz (vt rfl)) <| Gd rfl (fun hq => Z0g rfl rfl Zs (Z6 rfl hq) (i := 4) rfl) <| Gd rfl (fun hq => Zgd rfl rfl Zft (by decide) rfl Zxl (Z6 rfl hq) (Z6 rfl hq)) <| Ac (Z0o rfl rfl (vt rfl) (vt rfl)) rfl <| Md rfl <| Gd rfl (fun hq => Z0t Zk0 rfl rfl Zob (vt rfl)) <| Gd rfl (fun hq => Z0g rfl rfl Zs (Z6 rfl hq) (i := 3) rfl) <| Gd rfl (fun hq => Z0t Zk0 rfl rfl Zob (vt rfl)) <| Gd rfl (fun hq => Z0g rfl rfl Zs (Z6 rfl hq) (i := 4) rfl) <| Gd rfl (fun hq => Zgd rfl rfl Zft (by decide) rfl Zxl (Z6 rfl hq) (Z6 rfl hq)) <| Ac (Z0o rfl rfl (vt rfl) (vt rfl)) rfl <| As rfl <| Nl <| rt ?_
 cases h; exact Zc Tryz.results330 rfl (Z4 rfl)
def Zjq (a1 : Action) (b2 : Action) : Option Bool :=
 (opt (((((decide (a1.Kind = b2.Kind)) && (decide (a1.Port = b2.Port))) && (decide (a1.Max = b2.Max))) && (decide (a1.Group = b2.Group))) && (decide (a1.Ether = b2.Ether))) (Zpa a1.Oxm b2.Oxm)).bind fun x5 => some ((((((decide (a1.Kind = b2.Kind)) && (decide (a1.Port = b2.Port))) && (decide (a1.Max = b2.Max))) && (decide (a1.Group = b2.Group))) && (decide (a1.Ether = b2.Ether))) && x5)
theorem Ybc : Q2 Tryz.prog 293 (rd Z8) (rd Z8) (rd Z7) Zjq := fun a1 b2 r h => I0 Tryz.func293 rfl Tryz.ntmps293 rfl fun w H => by
 unfold Zjq at h
 refine SR <| Cv rfl (Zn 3 rfl rfl (vt rfl)) fun g3 => Cv rfl (Zn 4 rfl rfl (vt rfl)) fun g4 => Ab rfl <| Nl <| sq ?_
 obtain ⟨x5, hx5, h⟩ := Za h
 refine Rg <| Zt lAction_0 Z4o rfl <| Ld Zq 3 rfl <| Zt lAction_0 Z4o rfl <| Ld Zq 4 rfl <| Ac (Z0f rfl rfl (vt rfl) (vt rfl)) rfl <| Md rfl <| Gd rfl (fun hq => Z0t lAction_1 rfl rfl Zia (vt rfl)) <| Gd rfl (fun hq => Z0g rfl rfl Zq (Z6 rfl hq) (i := 3) rfl) <| Gd rfl (fun hq => Z0t lAction_1 rfl rfl Zia (vt rfl)) <| Gd rfl (fun hq => Z0g rfl rfl Zq (Z6 rfl hq) (i := 4) rfl) <| Gd rfl (fun hq => Z0f rfl rfl (Z6 rfl hq) (Z6 rfl hq)) <| Ac (Z0o rfl rfl (vt rfl) (vt rfl)) rfl <| Md rfl <| Gd rfl (fun hq => Z0t Zjk rfl rfl Zo5 (vt rfl)) <| Gd rfl (fun hq => Z0g rfl rfl Zq (Z6 rfl hq) (i := 3) rfl) <| Gd rfl (fun hq => Z0t Zjk rfl rfl Zo5 (vt rfl)) <| Gd rfl (fun hq => Z0g rfl rfl Zq (Z6 rfl hq) (i := 4) rfl) <| Gd rfl (fun hq => Z0f rfl rfl (Z6 rfl hq) (Z6 rfl hq)) <| Ac (Z0o rfl rfl (vt rfl) (vt rfl)) rfl <| Md rfl <| Gd rfl (fun hq => Z0t Zim rfl rfl Zmy (vt rfl)) <| Gd rfl (fun hq => Z0g rfl rfl Zq (Z6 rfl hq) (i := 3) rfl) <| Gd rfl (fun hq => Z0t Zim rfl rfl Zmy (vt rfl)) <| Gd rfl (fun hq => Z0g rfl rfl Zq (Z6 rfl hq) (i := 4) rfl) <| Gd rfl (fun hq => Z0f rfl rfl (Z6 rfl hq) (Z6 rfl hq)) <| Ac (Z0o rfl rfl (vt rfl) (vt rfl)) rfl <| Md rfl <| Gd rfl (fun hq => Z0t Zsm rfl rfl Y1x (vt rfl)) <| Gd rfl (fun hq => Z0g rfl rfl Zq (Z6 rfl hq) (i := 3) rfl) <| Gd rfl (fun hq => Z0t Zsm rfl rfl Y1x (vt rfl)) <| Gd rfl (fun hq => Z0g rfl rfl Zq (Z6 rfl hq) (i := 4) rfl) <| Gd rfl (fun hq => Z0f rfl rfl (Z6 rfl hq) (Z6 rfl hq)) <| Ac (Z0o rfl rfl (vt rfl) (vt rfl)) rfl <| Md rfl <| Gd rfl (fun hq => Z0t Z5r rfl rfl Z6u (vt rfl)) <| Gd rfl (fun hq => Z0g rfl rfl Z8m (Z6 rfl hq) (i := 3) rfl) <| Gd rfl (fun hq => Z0t Z5r rfl rfl Z6u (vt rfl)) <| Gd rfl (fun hq => Z0g rfl rfl Z8m (Z6 rfl hq) (i := 4) rfl) <| Gd rfl (fun hq => Z0b (xs := [.tmp 40, .tmp 42]) (Y9c _ _ _ (Z16 hx5 hq)) Y6k rfl rfl ⟨Z6 rfl hq, Z6 rfl hq, trivial⟩) <| Ac (Z0o rfl rfl (vt rfl) (vt rfl)) rfl <| As rfl <| Nl <| rt ?_
 cases h; exact Zc Tryz.results293 rfl (Z4 rfl)
def Zeq (a1 : (List Action)) (b2 : (List Action)) : Nat → Int → Option Bool
 | 0, _ => none
 | m5 + 1, i4 => (bif (decide (i4 < (a1.length : Int))) then (lget a1 i4).bind fun x6 => (lget b2 i4).bind fun x7 => (Zjq x6 x7).bind fun x8 => (bif (!x8) then some false else (Zeq a1 b2 m5) (IntKind.i64.wrap (i4 + 1))) else some true)
def Ze3 (a1 : (List Action)) (b2 : (List Action)) : Option Bool :=
 (bif (decide ((a1.length : Int) ≠ (b2.length : Int))) then some false else Zeq a1 b2 ((((a1.length : Int) : Int) - 0).toNat + 1) 0)
theorem Y2j : Q2 Tryz.prog 246 (rd (Z3 Z8)) (rd (Z3 Z8)) (rd Z7) Ze3 := fun a1 b2 r h => I0 Tryz.func246 rfl Tryz.ntmps246 rfl fun w H => by
 unfold Ze3 at h
 refine SR <| Ab rfl <| Nl <| sq <| SR <| Md rfl <| Ac (Z09 rfl rfl Z08 (vt rfl)) rfl <| Md rfl <| Ac (Z09 rfl rfl Z08 (vt rfl)) rfl <| Ac (Z2o rfl rfl (vt rfl) (vt rfl)) rfl <| Nl <| Cq rfl h (fun h => ?_) (fun h => ?_)
 ·refine SR <| Ab rfl <| Nl <| rt ?_
  cases h; exact Zc Tryz.results246 rfl (Z4 rfl)
 ·refine sk <| sq <| SR <| Ak rfl <| Nl <| bk <| LG (d := []) (ν := Nat × Int) (fun (m5, i4) => (True ∧ Zeq a1 b2 m5 i4 = some r, m5, [(0, rd (Z3 Z8) a1), (1, rd (Z3 Z8) b2), (5, rd (Z0 .i64) i4)], [])) (((((a1.length : Int) : Int) - 0).toNat + 1), 0) ⟨trivial, h⟩ (FX rfl) ?_
  rintro ⟨m5, i4⟩ ⟨hsf1, h⟩
  dsimp only at h ⊢
  cases m5 with
  | zero => cases h
  | succ m5 =>
   unfold Zeq at h
   refine sq <| SR <| Md rfl <| Md rfl <| Ac (Z09 rfl rfl Z08 (vt rfl)) rfl <| Ac (Zl rfl rfl (vt rfl) (vt rfl)) rfl <| Nl <| Cq rfl h (fun h => ?_) (fun h => ?_)
   ·refine sk <| sq <| bk <| sq ?_
    obtain ⟨x6, hx6, x7, hx7, x8, hx8, h⟩ := bs3 h
    refine AR Zz (by kernel_rfl) <| Zg rfl <| Zg rfl <| Sd (lo [17, 18] [] rfl fun S hs hr => Z03 rfl rfl Z08 (vh hs 17 rfl rfl) (vh hs 18 rfl rfl) hx6) <| SLp Z0h rfl <| Zg rfl <| Zg rfl <| Sd (lo [21, 22] [] rfl fun S hs hr => Z03 rfl rfl Z08 (vh hs 21 rfl rfl) (vh hs 22 rfl rfl) hx7) <| SLp Z0h rfl <| SCl [20, 24] (Ybc _ _ _ hx8) Yg9 rfl <| Sd (lo [25] [] rfl fun S hs hr => Z0s rfl rfl (vh hs 25 rfl rfl)) <| Sn <| Cq rfl h (fun h => ?_) (fun h => ?_)
    ·refine SR <| Ab rfl <| Nl <| rt ?_
     cases h; exact Zc Tryz.results246 rfl (Z4 rfl)
    ·refine sk <| Rg <| Md rfl <| Ac (Z02 rfl rfl (vt rfl) (vk rfl)) rfl <| As rfl <| Nl ?_
     exact ⟨(_, _), Nat.lt_succ_self _, ⟨trivial, h⟩, FX rfl⟩
   ·refine xt <| SR <| Ab rfl <| Nl <| rt ?_
    cases h; exact Zc Tryz.results246 rfl (Z4 rfl)
def Zg5 (a1 : (List Bucket)) (b2 : (List Bucket)) : Nat → Int → Option Bool
 | 0, _ => none
 | m5 + 1, i4 => (bif (decide (i4 < (a1.length : Int))) then (lget a1 i4).bind fun x6 => (lget b2 i4).bind fun x7 => (opt (!(decide (x6.Weight ≠ x7.Weight))) (lget a1 i4)).bind fun x8 => (opt (!(decide (x6.Weight ≠ x7.Weight))) (lget b2 i4)).bind fun x9 => (opt (!((decide (x6.Weight ≠ x7.Weight)) || (decide (x8.Watch ≠ x9.Watch)))) (lget a1 i4)).bind fun x10 => (opt (!((decide (x6.Weight ≠ x7.Weight)) || (decide (x8.Watch ≠ x9.Watch)))) (lget b2 i4)).bind fun x11 => (opt (!(((decide (x6.Weight ≠ x7.Weight)) || (decide (x8.Watch ≠ x9.Watch))) || (decide (x10.WatchGroup ≠ x11.WatchGroup)))) (lget a1 i4)).bind fun x12 => (opt (!(((decide (x6.Weight ≠ x7.Weight)) || (decide (x8.Watch ≠ x9.Watch))) || (decide (x10.WatchGroup ≠ x11.WatchGroup)))) (lget b2 i4)).bind fun x13 => (opt (!(((decide (x6.Weight ≠ x7.Weight)) || (decide (x8.Watch ≠ x9.Watch))) || (decide (x10.WatchGroup ≠ x11.WatchGroup)))) (Ze3 x12.Acts x13.Acts)).bind fun x14 => (bif ((((decide (x6.Weight ≠ x7.Weight)) || (decide (x8.Watch ≠ x9.Watch))) || (decide (x10.WatchGroup ≠ x11.WatchGroup))) || (!x14)) then some false else (Zg5 a1 b2 m5) (IntKind.i64.wrap (i4 + 1))) else some true)
def Zga (a1 : (List Bucket)) (b2 : (List Bucket)) : Option Bool :=
 (bif (decide ((a1.length : Int) ≠ (b2.length : Int))) then some false else Zg5 a1 b2 ((((a1.length : Int) : Int) - 0).toNat + 1) 0)
theorem Y9z : Q2 Tryz.prog 184 (rd (Z3 Z0l)) (rd (Z3 Z0l)) (rd Z7) Zga := fun a1 b2 r h => I0 Tryz.func184 rfl Tryz.ntmps184 rfl fun w H => by
 unfold Zga at h
 refine SR <| Ab rfl <| Nl <| sq <| SR <| Md rfl <| Ac (Z09 rfl rfl Z2s (vt rfl)) rfl <| Md rfl <| Ac (Z09 rfl rfl Z2s (vt rfl)) rfl <| Ac (Z2o rfl rfl (vt rfl) (vt rfl)) rfl <| Nl <| Cq rfl h (fun h => ?_) (fun h => ?_)
 ·refine SR <| Ab rfl <| Nl <| rt ?_
  cases h; exact Zc Tryz.results184 rfl (Z4 rfl)
 ·refine sk <| sq <| SR <| Ak rfl <| Nl <| bk <| LG (d := []) (ν := Nat × Int) (fun (m5, i4) => (True ∧ Zg5 a1 b2 m5 i4 = some r, m5, [(0, rd (Z3 Z0l) a1), (1, rd (Z3 Z0l) b2), (5, rd (Z0 .i64) i4)], [])) (((((a1.length : Int) : Int) - 0).toNat + 1), 0) ⟨trivial, h⟩ (FX rfl) ?_
  rintro ⟨m5, i4⟩ ⟨hsf1, h⟩
  dsimp only at h ⊢
  cases m5 with
  | zero => cases h
  | succ m5 =>
   unfold Zg5 at h
   refine sq <| SR <| Md rfl <| Md rfl <| Ac (Z09 rfl rfl Z2s (vt rfl)) rfl <| Ac (Zl rfl rfl (vt rfl) (vt rfl)) rfl <| Nl <| Cq rfl h (fun h => ?_) (fun h => ?_)
   ·refine sk <| sq <| bk <| sq ?_
    obtain ⟨x6, hx6, x7, hx7, x8, hx8, x9, hx9, h⟩ := bs4 h
    obtain ⟨x10, hx10, x11, hx11, x12, hx12, x13, hx13, h⟩ := bs4 h
    obtain ⟨x14, hx14, h⟩ := Za h
    refine AR Zz (by kernel_rfl) <| Zg rfl <| Zg rfl <| Sd (lo [17, 18] [] rfl fun S hs hr => Z03 rfl rfl Z2s (vh hs 17 rfl rfl) (vh hs 18 rfl rfl) hx6) <| SFp Zhl Zo8 rfl <| SLp Zq rfl <| Zg rfl <| Zg rfl <| Sd (lo [22, 23] [] rfl fun S hs hr => Z03 rfl rfl Z2s (vh hs 22 rfl rfl) (vh hs 23 rfl rfl) hx7) <| SFp Zhl Zo8 rfl <| SLp Zq rfl <| Sd (lo [21, 26] [] rfl fun S hs hr => Z2o rfl rfl (vh hs 21 rfl rfl) (vh hs 26 rfl rfl)) <| Zg rfl <| Sd (lg [0, 28] [] rfl fun hq S hs hr => Zk (A := rd (Z3 Z0l) a1) rfl rfl (vh hs 0 rfl rfl)) <| Sd (lg [5, 28] [] rfl fun hq S hs hr => Zk (A := rd (Z0 .i64) i4) rfl rfl (vh hs 5 rfl rfl)) <| Sd (lg [29, 30, 28] [] rfl fun hq S hs hr => Z03 rfl rfl Z2s (Z6 ((hs 29 rfl).trans rfl) hq) (Z6 ((hs 30 rfl).trans rfl) hq) (Z2u hx8 hq)) <| Sd (lg [31, 28] [] rfl fun hq S hs hr => Z27 Zh5 rfl rfl Zlv (Z6 ((hs 31 rfl).trans rfl) hq)) <| Sd (lg [32, 28] [] rfl fun hq S hs hr => Z2e rfl rfl Zq (Z6 ((hs 32 rfl).trans rfl) hq)) <| Sd (lg [1, 28] [] rfl fun hq S hs hr => Zk (A := rd (Z3 Z0l) b2) rfl rfl (vh hs 1 rfl rfl)) <| Sd (lg [5, 28] [] rfl fun hq S hs hr => Zk (A := rd (Z0 .i64) i4) rfl rfl (vh hs 5 rfl rfl)) <| Sd (lg [34, 35, 28] [] rfl fun hq S hs hr => Z03 rfl rfl Z2s (Z6 ((hs 34 rfl).trans rfl) hq) (Z6 ((hs 35 rfl).trans rfl) hq) (Z2u hx9 hq)) <| Sd (lg [36, 28] [] rfl fun hq S hs hr => Z27 Zh5 rfl rfl Zlv (Z6 ((hs 36 rfl).trans rfl) hq)) <| Sd (lg [37, 28] [] rfl fun hq S hs hr => Z2e rfl rfl Zq (Z6 ((hs 37 rfl).trans rfl) hq)) <| Sd (lg [33, 38, 28] [] rfl fun hq S hs hr => Z2o rfl rfl (Z6 ((hs 33 rfl).trans rfl) hq) (Z6 ((hs 38 rfl).trans rfl) hq)) <| Sd (lo [39, 28] [] rfl fun S hs hr => Z4g rfl rfl (vh hs 28 rfl rfl) (vh hs 39 rfl rfl)) <| Zg rfl <| Sd (lg [0, 41] [] rfl fun hq S hs hr => Zk (A := rd (Z3 Z0l) a1) rfl rfl (vh hs 0 rfl rfl)) <| Sd (lg [5, 41] [] rfl fun hq S hs hr => Zk (A := rd (Z0 .i64) i4) rfl rfl (vh hs 5 rfl rfl)) <| Sd (lg [42, 43, 41] [] rfl fun hq S hs hr => Z03 rfl rfl Z2s (Z6 ((hs 42 rfl).trans rfl) hq) (Z6 ((hs 43 rfl).trans rfl) hq) (Z2u hx10 hq)) <| Sd (lg [44, 41] [] rfl fun hq S hs hr => Z27 Zhc rfl rfl Znc (Z6 ((hs 44 rfl).trans rfl) hq)) <| Sd (lg [45, 41] [] rfl fun hq S hs hr => Z2e rfl rfl Zq (Z6 ((hs 45 rfl).trans rfl) hq)) <| Sd (lg [1, 41] [] rfl fun hq S hs hr => Zk (A := rd (Z3 Z0l) b2) rfl rfl (vh hs 1 rfl rfl)) <| Sd (lg [5, 41] [] rfl fun hq S hs hr => Zk (A := rd (Z0 .i64) i4) rfl rfl (vh hs 5 rfl rfl)) <| Sd (lg [47, 48, 41] [] rfl fun hq S hs hr => Z03 rfl rfl Z2s (Z6 ((hs 47 rfl).trans rfl) hq) (Z6 ((hs 48 rfl).trans rfl) hq) (Z2u hx11 hq)) <| Sd (lg [49, 41] [] rfl fun hq S hs hr => Z27 Zhc rfl rfl Znc (Z6 ((hs 49 rfl).trans rfl) hq)) <| Sd (lg [50, 41] [] rfl fun hq S hs hr => Z2e rfl rfl Zq (Z6 ((hs 50 rfl).trans rfl) hq)) <| Sd (lg [46, 51, 41] [] rfl fun hq S hs hr => Z2o rfl rfl (Z6 ((hs 46 rfl).trans rfl) hq) (Z6 ((hs 51 rfl).trans rfl) hq)) <| Sd (lo [52, 41] [] rfl fun S hs hr => Z4g rfl rfl (vh hs 41 rfl rfl) (vh hs 52 rfl rfl)) <| Zg rfl <| Sd (lg [0, 54] [] rfl fun hq S hs hr => Zk (A := rd (Z3 Z0l) a1) rfl rfl (vh hs 0 rfl rfl)) <| Sd (lg [5, 54] [] rfl fun hq S hs hr => Zk (A := rd (Z0 .i64) i4) rfl rfl (vh hs 5 rfl rfl)) <| Sd (lg [55, 56, 54] [] rfl fun hq S hs hr => Z03 rfl rfl Z2s (Z6 ((hs 55 rfl).trans rfl) hq) (Z6 ((hs 56 rfl).trans rfl) hq) (Z2u hx12 hq)) <| Sd (lg [57, 54] [] rfl fun hq S hs hr => Z27 Z9l rfl rfl Zbf (Z6 ((hs 57 rfl).trans rfl) hq)) <| Sd (lg [58, 54] [] rfl fun hq S hs hr => Z2e rfl rfl Z42 (Z6 ((hs 58 rfl).trans rfl) hq)) <| Sd (lg [1, 54] [] rfl fun hq S hs hr => Zk (A := rd (Z3 Z0l) b2) rfl rfl (vh hs 1 rfl rfl)) <| Sd (lg [5, 54] [] rfl fun hq S hs hr => Zk (A := rd (Z0 .i64) i4) rfl rfl (vh hs 5 rfl rfl)) <| Sd (lg [60, 61, 54] [] rfl fun hq S hs hr => Z03 rfl rfl Z2s (Z6 ((hs 60 rfl).trans rfl) hq) (Z6 ((hs 61 rfl).trans rfl) hq) (Z2u hx13 hq)) <| Sd (lg [62, 54] [] rfl fun hq S hs hr => Z27 Z9l rfl rfl Zbf (Z6 ((hs 62 rfl).trans rfl) hq)) <| Sd (lg [63, 54] [] rfl fun hq S hs hr => Z2e rfl rfl Z42 (Z6 ((hs 63 rfl).trans rfl) hq)) <| Sd (lg [59, 64, 54] [] rfl fun hq S hs hr => Z0b (xs := [.tmp 59, .tmp 64]) (Y2j _ _ _ (Z2u hx14 hq)) Y6n rfl rfl ⟨Z6 ((hs 59 rfl).trans rfl) hq, Z6 ((hs 64 rfl).trans rfl) hq, trivial⟩) <| Sd (lg [65, 54] [] rfl fun hq S hs hr => Z0s rfl rfl (Z6 ((hs 65 rfl).trans rfl) hq)) <| Sd (lo [66, 54] [] rfl fun S hs hr => Z4g rfl rfl (vh hs 54 rfl rfl) (vh hs 66 rfl rfl)) <| Sn ?_
    refine Cq rfl h (fun h => ?_) (fun h => ?_)
    ·refine SR <| Ab rfl <| Nl <| rt ?_
     cases h; exact Zc Tryz.results184 rfl (Z4 rfl)
    ·refine sk <| Rg <| Md rfl <| Ac (Z02 rfl rfl (vt rfl) (vk rfl)) rfl <| As rfl <| Nl ?_
     exact ⟨(_, _), Nat.lt_succ_self _, ⟨trivial, h⟩, FX rfl⟩
   ·refine xt <| SR <| Ab rfl <| Nl <| rt ?_
    cases h; exact Zc Tryz.results184 rfl (Z4 rfl)
def Zeo (a1 : (List Group)) (b2 : (List Group)) : Nat → Int → Option Bool
 | 0, _ => none
 | m5 + 1, i4 => (bif (decide (i4 < (a1.length : Int))) then (lget a1 i4).bind fun x6 => (lget b2 i4).bind fun x7 => (opt (!(decide (x6.ID ≠ x7.ID))) (lget a1 i4)).bind fun x8 => (opt (!(decide (x6.ID ≠ x7.ID))) (lget b2 i4)).bind fun x9 => (opt (!((decide (x6.ID ≠ x7.ID)) || (decide (x8.Kind ≠ x9.Kind)))) (lget a1 i4)).bind fun x10 => (opt (!((decide (x6.ID ≠ x7.ID)) || (decide (x8.Kind ≠ x9.Kind)))) (lget b2 i4)).bind fun x11 => (opt (!((decide (x6.ID ≠ x7.ID)) || (decide (x8.Kind ≠ x9.Kind)))) (Zga x10.Buckets x11.Buckets)).bind fun x12 => (bif (((decide (x6.ID ≠ x7.ID)) || (decide (x8.Kind ≠ x9.Kind))) || (!x12)) then some false else (Zeo a1 b2 m5) (IntKind.i64.wrap (i4 + 1))) else some true)
def Zi6 (a1 : (List Group)) (b2 : (List Group)) : Option Bool :=
 (bif (decide ((a1.length : Int) ≠ (b2.length : Int))) then some false else Zeo a1 b2 ((((a1.length : Int) : Int) - 0).toNat + 1) 0)
theorem Yc9 : Q2 Tryz.prog 116 (rd (Z3 Z0d)) (rd (Z3 Z0d)) (rd Z7) Zi6 := fun a1 b2 r h => I0 Tryz.func116 rfl Tryz.ntmps116 rfl fun w H => by
 unfold Zi6 at h
 refine SR <| Ab rfl <| Nl <| sq <| SR <| Md rfl <| Ac (Z09 rfl rfl Z2a (vt rfl)) rfl <| Md rfl <| Ac (Z09 rfl rfl Z2a (vt rfl)) rfl <| Ac (Z2o rfl rfl (vt rfl) (vt rfl)) rfl <| Nl <| Cq rfl h (fun h => ?_) (fun h => ?_)
 ·refine SR <| Ab rfl <| Nl <| rt ?_
  cases h; exact Zc Tryz.results116 rfl (Z4 rfl)
 ·refine sk <| sq <| SR <| Ak rfl <| Nl <| bk <| LG (d := []) (ν := Nat × Int) (fun (m5, i4) => (True ∧ Zeo a1 b2 m5 i4 = some r, m5, [(0, rd (Z3 Z0d) a1), (1, rd (Z3 Z0d) b2), (5, rd (Z0 .i64) i4)], [])) (((((a1.length : Int) : Int) - 0).toNat + 1), 0) ⟨trivial, h⟩ (FX rfl) ?_
  rintro ⟨m5, i4⟩ ⟨hsf1, h⟩
  dsimp only at h ⊢
  cases m5 with
  | zero => cases h
  | succ m5 =>
   unfold Zeo at h
   refine sq <| SR <| Md rfl <| Md rfl <| Ac (Z09 rfl rfl Z2a (vt rfl)) rfl <| Ac (Zl rfl rfl (vt rfl) (vt rfl)) rfl <| Nl <| Cq rfl h (fun h => ?_) (fun h => ?_)
   ·refine sk <| sq <| bk <| sq ?_
    obtain ⟨x6, hx6, x7, hx7, x8, hx8, x9, hx9, h⟩ := bs4 h
    obtain ⟨x10, hx10, x11, hx11, x12, hx12, h⟩ := bs3 h
    refine AR Zz (by kernel_rfl) <| Zg rfl <| Zg rfl <| Sd (lo [17, 18] [] rfl fun S hs hr => Z03 rfl rfl Z2a (vh hs 17 rfl rfl) (vh hs 18 rfl rfl) hx6) <| SFp Zbt Zed rfl <| SLp Zq rfl <| Zg rfl <| Zg rfl <| Sd (lo [22, 23] [] rfl fun S hs hr => Z03 rfl rfl Z2a (vh hs 22 rfl rfl) (vh hs 23 rfl rfl) hx7) <| SFp Zbt Zed rfl <| SLp Zq rfl <| Sd (lo [21, 26] [] rfl fun S hs hr => Z2o rfl rfl (vh hs 21 rfl rfl) (vh hs 26 rfl rfl)) <| Zg rfl <| Sd (lg [0, 28] [] rfl fun hq S hs hr => Zk (A := rd (Z3 Z0d) a1) rfl rfl (vh hs 0 rfl rfl)) <| Sd (lg [5, 28] [] rfl fun hq S hs hr => Zk (A := rd (Z0 .i64) i4) rfl rfl (vh hs 5 rfl rfl)) <| Sd (lg [29, 30, 28] [] rfl fun hq S hs hr => Z03 rfl rfl Z2a (Z6 ((hs 29 rfl).trans rfl) hq) (Z6 ((hs 30 rfl).trans rfl) hq) (Z2u hx8 hq)) <| Sd (lg [31, 28] [] rfl fun hq S hs hr => Z27 Zj5 rfl rfl Zod (Z6 ((hs 31 rfl).trans rfl) hq)) <| Sd (lg [32, 28] [] rfl fun hq S hs hr => Z2e rfl rfl Zq (Z6 ((hs 32 rfl).trans rfl) hq)) <| Sd (lg [1, 28] [] rfl fun hq S hs hr => Zk (A := rd (Z3 Z0d) b2) rfl rfl (vh hs 1 rfl rfl)) <| Sd (lg [5, 28] [] rfl fun hq S hs hr => Zk (A := rd (Z0 .i64) i4) rfl rfl (vh hs 5 rfl rfl)) <| Sd (lg [34, 35, 28] [] rfl fun hq S hs hr => Z03 rfl rfl Z2a (Z6 ((hs 34 rfl).trans rfl) hq) (Z6 ((hs 35 rfl).trans rfl) hq) (Z2u hx9 hq)) <| Sd (lg [36, 28] [] rfl fun hq S hs hr => Z27 Zj5 rfl rfl Zod (Z6 ((hs 36 rfl).trans rfl) hq)) <| Sd (lg [37, 28] [] rfl fun hq S hs hr => Z2e rfl rfl Zq (Z6 ((hs 37 rfl).trans rfl) hq)) <| Sd (lg [33, 38, 28] [] rfl fun hq S hs hr => Z2o rfl rfl (Z6 ((hs 33 rfl).trans rfl) hq) (Z6 ((hs 38 rfl).trans rfl) hq)) <| Sd (lo [39, 28] [] rfl fun S hs hr => Z4g rfl rfl (vh hs 28 rfl rfl) (vh hs 39 rfl rfl)) <| Zg rfl <| Sd (lg [0, 41] [] rfl fun hq S hs hr => Zk (A := rd (Z3 Z0d) a1) rfl rfl (vh hs 0 rfl rfl)) <| Sd (lg [5, 41] [] rfl fun hq S hs hr => Zk (A := rd (Z0 .i64) i4) rfl rfl (vh hs 5 rfl rfl)) <| Sd (lg [42, 43, 41] [] rfl fun hq S hs hr => Z03 rfl rfl Z2a (Z6 ((hs 42 rfl).trans rfl) hq) (Z6 ((hs 43 rfl).trans rfl) hq) (Z2u hx10 hq)) <| Sd (lg [44, 41] [] rfl fun hq S hs hr => Z27 Zaq rfl rfl Zau (Z6 ((hs 44 rfl).trans rfl) hq)) <| Sd (lg [45, 41] [] rfl fun hq S hs hr => Z2e rfl rfl Zc2 (Z6 ((hs 45 rfl).trans rfl) hq)) <| Sd (lg [1, 41] [] rfl fun hq S hs hr => Zk (A := rd (Z3 Z0d) b2) rfl rfl (vh hs 1 rfl rfl)) <| Sd (lg [5, 41] [] rfl fun hq S hs hr => Zk (A := rd (Z0 .i64) i4) rfl rfl (vh hs 5 rfl rfl)) <| Sd (lg [47, 48, 41] [] rfl fun hq S hs hr => Z03 rfl rfl Z2a (Z6 ((hs 47 rfl).trans rfl) hq) (Z6 ((hs 48 rfl).trans rfl) hq) (Z2u hx11 hq)) <| Sd (lg [49, 41] [] rfl fun hq S hs hr => Z27 Zaq rfl rfl Zau (Z6 ((hs 49 rfl).trans rfl) hq)) <| Sd (lg [50, 41] [] rfl fun hq S hs hr => Z2e rfl rfl Zc2 (Z6 ((hs 50 rfl).trans rfl) hq)) <| Sd (lg [46, 51, 41] [] rfl fun hq S hs hr => Z0b (xs := [.tmp 46, .tmp 51]) (Y9z _ _ _ (Z2u hx12 hq)) Ybf rfl rfl ⟨Z6 ((hs 46 rfl).trans rfl) hq, Z6 ((hs 51 rfl).trans rfl) hq, trivial⟩) <| Sd (lg [52, 41] [] rfl fun hq S hs hr => Z0s rfl rfl (Z6 ((hs 52 rfl).trans rfl) hq)) <| Sd (lo [53, 41] [] rfl fun S hs hr => Z4g rfl rfl (vh hs 41 rfl rfl) (vh hs 53 rfl rfl)) <| Sn ?_
    refine Cq rfl h (fun h => ?_) (fun h => ?_)
    ·refine SR <| Ab rfl <| Nl <| rt ?_
     cases h; exact Zc Tryz.results116 rfl (Z4 rfl)
    ·refine sk <| Rg <| Md rfl <| Ac (Z02 rfl rfl (vt rfl) (vk rfl)) rfl <| As rfl <| Nl ?_
     exact ⟨(_, _), Nat.lt_succ_self _, ⟨trivial, h⟩, FX rfl⟩
   ·refine xt <| SR <| Ab rfl <| Nl <| rt ?_
    cases h; exact Zc Tryz.results116 rfl (Z4 rfl)
def Zfn (a1 : Flat) (b2 : Flat) : Nat → Int → Option Bool
 | 0, _ => none
 | m8 + 1, i7 => (bif (decide (i7 < (a1.Rules.length : Int))) then (lget a1.Rules i7).bind fun x9 => (Zai x9.Cube).bind fun x10 => (lget b2.Rules i7).bind fun x11 => (Zai x11.Cube).bind fun x12 => (opt (!(decide (x10 ≠ x12))) (lget a1.Rules i7)).bind fun x13 => (opt (!(decide (x10 ≠ x12))) (lget b2.Rules i7)).bind fun x14 => (opt (!(decide (x10 ≠ x12))) (Zfw x13.Atoms x14.Atoms)).bind fun x15 => (bif ((decide (x10 ≠ x12)) || (!x15)) then some false else (Zfn a1 b2 m8) (IntKind.i64.wrap (i7 + 1))) else some true)
def Zhj (a1 : Flat) (b2 : Flat) : Option Bool :=
 (opt (!(decide ((a1.Rules.length : Int) ≠ (b2.Rules.length : Int)))) (Zi6 a1.Groups b2.Groups)).bind fun x5 => (bif ((decide ((a1.Rules.length : Int) ≠ (b2.Rules.length : Int))) || (!x5)) then some false else Zfn a1 b2 ((((a1.Rules.length : Int) : Int) - 0).toNat + 1) 0)
theorem Ye8 : Q2 Tryz.prog 57 (rd Z4v) (rd Z4v) (rd Z7) Zhj := fun a1 b2 r h => I0 Tryz.func57 rfl Tryz.ntmps57 rfl fun w H => by
 unfold Zhj at h
 refine SR <| Cv rfl (Zn 3 rfl rfl (vt rfl)) fun g3 => Cv rfl (Zn 4 rfl rfl (vt rfl)) fun g4 => Ab rfl <| Nl <| sq <| sq ?_
 obtain ⟨x5, hx5, h⟩ := Za h
 refine Rg <| Zt lFlat_0 Z6p rfl <| Ld Z6e 3 rfl <| Ac (Z09 rfl rfl Z1m (vt rfl)) rfl <| Zt lFlat_0 Z6p rfl <| Ld Z6e 4 rfl <| Ac (Z09 rfl rfl Z1m (vt rfl)) rfl <| Ac (Z2o rfl rfl (vt rfl) (vt rfl)) rfl <| Md rfl <| Gd rfl (fun hq => Z0t lFlat_1 rfl rfl Zn6 (vt rfl)) <| Gd rfl (fun hq => Z0g rfl rfl Zcf (Z6 rfl hq) (i := 3) rfl) <| Gd rfl (fun hq => Z0t lFlat_1 rfl rfl Zn6 (vt rfl)) <| Gd rfl (fun hq => Z0g rfl rfl Zcf (Z6 rfl hq) (i := 4) rfl) <| Gd rfl (fun hq => Z0b (xs := [.tmp 15, .tmp 17]) (Yc9 _ _ _ (Z2u hx5 hq)) Y3s rfl rfl ⟨Z6 rfl hq, Z6 rfl hq, trivial⟩) <| Gd rfl (fun hq => Z0s rfl rfl (Z6 rfl hq)) <| Ac (Z4g rfl rfl (vt rfl) (vt rfl)) rfl <| Nl <| Cq rfl h (fun h => ?_) (fun h => ?_)
 ·refine SR <| Ab rfl <| Nl <| rt ?_
  cases h; exact Zc Tryz.results57 rfl (Z4 rfl)
 ·refine sk <| sq <| SR <| Ak rfl <| Nl <| bk <| LG (d := []) (ν := Nat × Int) (fun (m8, i7) => (True ∧ Zfn a1 b2 m8 i7 = some r, m8, [(2, Ze g3 (Lens.id Z4v)), (3, Ze g4 (Lens.id Z4v)), (5, rd (Z0 .i64) i7)], [(3, Zf g3 73 Z4v a1), (4, Zf g4 73 Z4v b2)])) (((((a1.Rules.length : Int) : Int) - 0).toNat + 1), 0) ⟨trivial, h⟩ (FX rfl) ?_
  rintro ⟨m8, i7⟩ ⟨hsf1, h⟩
  dsimp only at h ⊢
  cases m8 with
  | zero => cases h
  | succ m8 =>
   unfold Zfn at h
   refine sq <| SR <| Md rfl <| Zt lFlat_0 Z6p rfl <| Ld Z6e 3 rfl <| Ac (Z09 rfl rfl Z1m (vt rfl)) rfl <| Ac (Zl rfl rfl (vt rfl) (vt rfl)) rfl <| Nl <| Cq rfl h (fun h => ?_) (fun h => ?_)
   ·refine sk <| sq <| bk <| sq ?_
    obtain ⟨x9, hx9, x10, hx10, x11, hx11, x12, hx12, h⟩ := bs4 h
    obtain ⟨x13, hx13, x14, hx14, x15, hx15, h⟩ := bs3 h
    refine AR Zz (by kernel_rfl) <| SFd lFlat_0 Z6p rfl <| Zu Z6e 3 rfl <| Zg rfl <| Sd (lo [29, 30] [] rfl fun S hs hr => Z03 rfl rfl Z1m (vh hs 29 rfl rfl) (vh hs 30 rfl rfl) hx9) <| SFp lRule_0 Z7e rfl <| SLp Zv rfl <| SCl [33] (Zok _ _ hx10) e83 rfl <| SFd lFlat_0 Z6p rfl <| Zu Z6e 4 rfl <| Zg rfl <| Sd (lo [36, 37] [] rfl fun S hs hr => Z03 rfl rfl Z1m (vh hs 36 rfl rfl) (vh hs 37 rfl rfl) hx11) <| SFp lRule_0 Z7e rfl <| SLp Zv rfl <| SCl [40] (Zok _ _ hx12) e83 rfl <| Sd (lo [34, 41] [] rfl fun S hs hr => Zux rfl rfl Zzh (by decide) rfl Zxu (vh hs 34 rfl rfl) (vh hs 41 rfl rfl)) <| Zg rfl <| Sd (lg [2, 43] [] rfl fun hq S hs hr => Z0t lFlat_0 rfl rfl Z6p (vh hs 2 rfl rfl)) <| Sd (lg [44, 43] [3] rfl fun hq S hs hr => Z0g rfl rfl Z6e (Z6 ((hs 44 rfl).trans rfl) hq) (i := 3) ((hr 3 rfl).trans rfl)) <| Sd (lg [5, 43] [] rfl fun hq S hs hr => Zk (A := rd (Z0 .i64) i7) rfl rfl (vh hs 5 rfl rfl)) <| Sd (lg [45, 46, 43] [] rfl fun hq S hs hr => Z03 rfl rfl Z1m (Z6 ((hs 45 rfl).trans rfl) hq) (Z6 ((hs 46 rfl).trans rfl) hq) (Z2u hx13 hq)) <| Sd (lg [47, 43] [] rfl fun hq S hs hr => Z27 lRule_1 rfl rfl Zc9 (Z6 ((hs 47 rfl).trans rfl) hq)) <| Sd (lg [48, 43] [] rfl fun hq S hs hr => Z2e rfl rfl Z5z (Z6 ((hs 48 rfl).trans rfl) hq)) <| Sd (lg [3, 43] [] rfl fun hq S hs hr => Z0t lFlat_0 rfl rfl Z6p (vh hs 3 rfl rfl)) <| Sd (lg [50, 43] [4] rfl fun hq S hs hr => Z0g rfl rfl Z6e (Z6 ((hs 50 rfl).trans rfl) hq) (i := 4) ((hr 4 rfl).trans rfl)) <| Sd (lg [5, 43] [] rfl fun hq S hs hr => Zk (A := rd (Z0 .i64) i7) rfl rfl (vh hs 5 rfl rfl)) <| Sd (lg [51, 52, 43] [] rfl fun hq S hs hr => Z03 rfl rfl Z1m (Z6 ((hs 51 rfl).trans rfl) hq) (Z6 ((hs 52 rfl).trans rfl) hq) (Z2u hx14 hq)) <| Sd (lg [53, 43] [] rfl fun hq S hs hr => Z27 lRule_1 rfl rfl Zc9 (Z6 ((hs 53 rfl).trans rfl) hq)) <| Sd (lg [54, 43] [] rfl fun hq S hs hr => Z2e rfl rfl Z5z (Z6 ((hs 54 rfl).trans rfl) hq)) <| Sd (lg [49, 55, 43] [] rfl fun hq S hs hr => Z0b (xs := [.tmp 49, .tmp 55]) (Y2p _ _ _ (Z2u hx15 hq)) e84 rfl rfl ⟨Z6 ((hs 49 rfl).trans rfl) hq, Z6 ((hs 55 rfl).trans rfl) hq, trivial⟩) <| Sd (lg [56, 43] [] rfl fun hq S hs hr => Z0s rfl rfl (Z6 ((hs 56 rfl).trans rfl) hq)) <| Sd (lo [57, 43] [] rfl fun S hs hr => Z4g rfl rfl (vh hs 43 rfl rfl) (vh hs 57 rfl rfl)) <| Sn <| Cq rfl h (fun h => ?_) (fun h => ?_)
    ·refine SR <| Ab rfl <| Nl <| rt ?_
     cases h; exact Zc Tryz.results57 rfl (Z4 rfl)
    ·refine sk <| Rg <| Md rfl <| Ac (Z02 rfl rfl (vt rfl) (vk rfl)) rfl <| As rfl <| Nl ?_
     exact ⟨(_, _), Nat.lt_succ_self _, ⟨trivial, h⟩, FX rfl⟩
   ·refine xt <| SR <| Ab rfl <| Nl <| rt ?_
    cases h; exact Zc Tryz.results57 rfl (Z4 rfl)
def Zen (s1 : Switch) (m2 : Int) : Option Bool :=
 (Zni s1 m2).bind fun x4 => (bif (!x4) then (Zkn).bind fun x5 => some x5 else (Zbk s1 m2).bind fun x6 => (Zgn s1 m2).bind fun x8 => (Zd6 x6.1 x8.1).bind fun x10 => (opt x10 (Zhj x6.1 x8.1)).bind fun x11 => (opt ((x10 && x11) && (decide (x6.2 = x8.2))) (Zfx s1)).bind fun x12 => (opt ((x10 && x11) && (decide (x6.2 = x8.2))) (Zd5 s1)).bind fun x13 => (opt (((x10 && x11) && (decide (x6.2 = x8.2))) && (decide (x12 = x13))) (Zkn)).bind fun x14 => some ((((x10 && x11) && (decide (x6.2 = x8.2))) && (decide (x12 = x13))) && x14))
theorem Yeb : Q2 Tryz.prog 11 (rd Z0p) (rd (Z0 .i64)) (rd Z7) Zen := fun s1 m2 r h => I0 Tryz.func11 rfl Tryz.ntmps11 rfl fun w H => by
 unfold Zen at h
 refine SR <| Cv rfl (Zn 3 rfl rfl (vt rfl)) fun g3 => Ab rfl <| Nl <| sq <| sq ?_
 obtain ⟨x4, hx4, h⟩ := Za h
 refine Rg <| Ld Z3e 3 rfl <| Md rfl <| Cl [9, 10] (Yho _ _ _ hx4) e52 rfl <| Ac (Z0s rfl rfl (vt rfl)) rfl <| Nl <| Cq rfl h (fun h => ?_) (fun h => ?_)
 ·refine sq ?_
  obtain ⟨x5, hx5, h⟩ := Za h
  refine Rg <| Cl [] (Zzm _ hx5) e53 rfl <| As rfl <| Nl <| rt ?_
  cases h; exact Zc Tryz.results11 rfl (Z4 rfl)
 ·refine sk <| sq ?_
  obtain ⟨x6, hx6, h⟩ := Za h
  refine Rg <| Ld Z3e 3 rfl <| Md rfl <| Cl [15, 16] (Zr6 _ _ _ hx6) e54 rfl <| Mt2 rfl <| Ac (Z1j rfl rfl (vt rfl)) rfl <| Ac (Z1i rfl rfl (vt rfl)) rfl <| Cv rfl (Zo 6 rfl rfl Z68) fun g7 => Zd Z3q 6 rfl <| As rfl <| Nl <| sq ?_
  obtain ⟨x8, hx8, h⟩ := Za h
  refine Rg <| Ld Z3e 3 rfl <| Md rfl <| Cl [21, 22] (Ybx _ _ _ hx8) e55 rfl <| Mt2 rfl <| Ac (Z1j rfl rfl (vt rfl)) rfl <| Ac (Z1i rfl rfl (vt rfl)) rfl <| Cv rfl (Zo 8 rfl rfl Z68) fun g9 => Zd Z3q 8 rfl <| As rfl <| Nl <| sq ?_
  obtain ⟨x10, hx10, x11, hx11, x12, hx12, x13, hx13, h⟩ := bs4 h
  obtain ⟨x14, hx14, h⟩ := Za h
  refine AR Zz (by kernel_rfl) <| Zu Z3q 6 rfl <| Zu Z3q 8 rfl <| SCl [26, 27] (Zph _ _ _ hx10) e56 rfl <| Zg rfl <| Sd (lg [5, 29] [6] rfl fun hq S hs hr => Z0g rfl rfl Z3q (vh hs 5 rfl rfl) (i := 6) ((hr 6 rfl).trans rfl)) <| Sd (lg [7, 29] [8] rfl fun hq S hs hr => Z0g rfl rfl Z3q (vh hs 7 rfl rfl) (i := 8) ((hr 8 rfl).trans rfl)) <| Sd (lg [30, 31, 29] [] rfl fun hq S hs hr => Z0b (xs := [.tmp 30, .tmp 31]) (Ye8 _ _ _ (Z16 hx11 hq)) e57 rfl rfl ⟨Z6 ((hs 30 rfl).trans rfl) hq, Z6 ((hs 31 rfl).trans rfl) hq, trivial⟩) <| Sd (lo [32, 29] [] rfl fun S hs hr => Z0o rfl rfl (vh hs 29 rfl rfl) (vh hs 32 rfl rfl)) <| Zg rfl <| Sd (lg [6, 34] [] rfl fun hq S hs hr => Zk (A := rd (Z0 .i64) x6.2) rfl rfl (vh hs 6 rfl rfl)) <| Sd (lg [8, 34] [] rfl fun hq S hs hr => Zk (A := rd (Z0 .i64) x8.2) rfl rfl (vh hs 8 rfl rfl)) <| Sd (lg [35, 36, 34] [] rfl fun hq S hs hr => Z0f rfl rfl (Z6 ((hs 35 rfl).trans rfl) hq) (Z6 ((hs 36 rfl).trans rfl) hq)) <| Sd (lo [37, 34] [] rfl fun S hs hr => Z0o rfl rfl (vh hs 34 rfl rfl) (vh hs 37 rfl rfl)) <| Zg rfl <| Sd (lg [2, 39] [3] rfl fun hq S hs hr => Z0g rfl rfl Z3e (vh hs 2 rfl rfl) (i := 3) ((hr 3 rfl).trans rfl)) <| Sd (lg [40, 39] [] rfl fun hq S hs hr => Z0b (xs := [.tmp 40]) (Zwv _ _ (Z16 hx12 hq)) e58 rfl rfl ⟨Z6 ((hs 40 rfl).trans rfl) hq, trivial⟩) <| Sd (lg [2, 39] [3] rfl fun hq S hs hr => Z0g rfl rfl Z3e (vh hs 2 rfl rfl) (i := 3) ((hr 3 rfl).trans rfl)) <| Sd (lg [42, 39] [] rfl fun hq S hs hr => Z0b (xs := [.tmp 42]) (Y1z _ _ (Z16 hx13 hq)) e59 rfl rfl ⟨Z6 ((hs 42 rfl).trans rfl) hq, trivial⟩) <| Sd (lg [41, 43, 39] [] rfl fun hq S hs hr => Z0f rfl rfl (Z6 ((hs 41 rfl).trans rfl) hq) (Z6 ((hs 43 rfl).trans rfl) hq)) <| Sd (lo [44, 39] [] rfl fun S hs hr => Z0o rfl rfl (vh hs 39 rfl rfl) (vh hs 44 rfl rfl)) <| Zg rfl <| Sd (lg [46] [] rfl fun hq S hs hr => Z0b (xs := []) (Zzm _ (Z16 hx14 hq)) e53 rfl rfl trivial) <| Sd (lo [47, 46] [] rfl fun S hs hr => Z0o rfl rfl (vh hs 46 rfl rfl) (vh hs 47 rfl rfl)) <| SAs rfl <| Sn <| rt ?_
  cases h; exact Zc Tryz.results11 rfl (Z4 rfl)
end Go.Proofs.YtknpgojdkobgjaaGreat.W
set_option maxRecDepth 4000
namespace Go.Proofs.YtknpgojdkobgjaaGreat.W
open Go Go.Wb
end Go.Proofs.YtknpgojdkobgjaaGreat.W
set_option maxRecDepth 4000
namespace Go.Proofs.YtknpgojdkobgjaaGreat.W
open Go Go.Wb
end Go.Proofs.YtknpgojdkobgjaaGreat.W
set_option maxRecDepth 4000
namespace Go.Proofs.YtknpgojdkobgjaaGreat.W
open Go Go.Wb
end Go.Proofs.YtknpgojdkobgjaaGreat.W
set_option maxRecDepth 4000
namespace Go.Proofs.YtknpgojdkobgjaaGreat.W
open Go Go.Wb
end Go.Proofs.YtknpgojdkobgjaaGreat.W
set_option maxRecDepth 4000
namespace Go.Proofs.YtknpgojdkobgjaaGreat.W
open Go Go.Wb
end Go.Proofs.YtknpgojdkobgjaaGreat.W
