/- A part of the proof. -/
import Derived.Test.YtknpgojdkobgjaaGreatG0
set_option linter.unusedVariables false
set_option maxRecDepth 4000
set_option linter.unusedSimpArgs false
namespace Go.Proofs.YtknpgojdkobgjaaGreat.W
open Go Go.Wb
theorem Zn1 : Ent Tryz.prog 268 := Ent.mk Tryz.func268 rfl rfl
theorem Zwk : Ent Tryz.prog 270 := Ent.mk Tryz.func270 rfl rfl
theorem e77 : Ent Tryz.prog 77 := Ent.mk Tryz.func77 rfl rfl
theorem Zh5 : Ent Tryz.prog 207 := Ent.mk Tryz.func207 rfl rfl
theorem Zl2 : Ent Tryz.prog 327 := Ent.mk Tryz.func327 rfl rfl
theorem Ye1 : Ent Tryz.prog 332 := Ent.mk Tryz.func332 rfl rfl
theorem Ye6 : Ent Tryz.prog 287 := Ent.mk Tryz.func287 rfl rfl
theorem Y38 : Ent Tryz.prog 298 := Ent.mk Tryz.func298 rfl rfl
theorem Yax : Ent Tryz.prog 304 := Ent.mk Tryz.func304 rfl rfl
theorem Y5n : Ent Tryz.prog 303 := Ent.mk Tryz.func303 rfl rfl
theorem Y1t : Ent Tryz.prog 265 := Ent.mk Tryz.func265 rfl rfl
def Z83 (r1 : (Vector Tern 24)) (f2 : Int) (value3 : Wide) (mask4 : Wide) : Option (Vector Tern 24) :=
 (Zau r1).bind fun x9 => (Z7k f2).bind fun x10 => (bif x10 then (chk 24 f2).bind fun j11 => (Zi5 (Vector.get x9 j11) (⟨value3, mask4⟩ : Tern)).bind fun x12 => (chk 24 f2).bind fun j13 => some (Vector.set x9 j13.1 x12 j13.2) else some x9)
theorem Zgb (r1 : (Vector Tern 24)) (f2 : Int) (value3 : Wide) (mask4 : Wide) (r : (Vector Tern 24)) (h : Z83 r1 f2 value3 mask4 = some r) : PCon Tryz.prog 207 [rd (Z2 24 Z3) r1, rd (Z0 .i64) f2, rd Zn value3, rd Zn mask4] (rd (Z2 24 Z3) r) := by
 refine PCon.of (Con.intro0 Tryz.func207 rfl Tryz.ntmps207 rfl fun w H => ?_)
 unfold Z83 at h
 refine SR <| Ct rfl (Zo 5 rfl rfl (vt rfl)) ?_
 rintro _ ⟨g5, rfl⟩
 refine Ct rfl (Zo 7 rfl rfl (vt rfl)) ?_
 rintro _ ⟨g6, rfl⟩
 refine Ct rfl (Zo 8 rfl rfl (vt rfl)) ?_
 rintro _ ⟨g7, rfl⟩
 refine Ct rfl (Zm 9 rfl rfl Z2u) ?_
 rintro _ ⟨g8, rfl⟩
 refine Nl <| AW.seq ?_
 obtain ⟨x9, hx9, h⟩ := Z1 h
 refine Rg <| Ld Z02 5 rfl <| Cl [9] (Zkh _ _ hx9) Zn1 rfl <| Zh Z02 5 rfl <| Nl <| AW.seq <| AW.seq ?_
 obtain ⟨x10, hx10, h⟩ := Z1 h
 refine Rg <| Md rfl <| Cl [11] (Zll _ _ hx10) Zmz rfl <| Nl <| Cn rfl (fun hc => ?_) (fun hc => ?_)
 ·have h := Ze hc h
  obtain ⟨j11, hj11, h⟩ := Z1 h
  obtain ⟨x12, hx12, h⟩ := Z1 h
  obtain ⟨j13, hj13, h⟩ := Z1 h
  refine AW.regionAny [⟨[1], [13], [], []⟩, ⟨[1], [14], [], []⟩, ⟨[4, 14], [15], [], []⟩, ⟨[15], [16], [5], []⟩, ⟨[6], [17], [7], []⟩, ⟨[7], [18], [8], []⟩, ⟨[17, 18], [19], [], []⟩, ⟨[16, 19], [20], [], []⟩, ⟨[4, 13], [21], [], []⟩, ⟨[21, 20], [], [5], [5]⟩] Z06 (by kernel_rfl) <| Zu rfl <| Zu rfl <| Sc (lo [4, 14] [] rfl fun S hs hr => Z15 rfl rfl Z3c (vh hs 4 rfl rfl) (vh hs 14 rfl rfl) hj11) rfl <| Zq Z00 5 rfl <| Zq Zt 7 rfl <| Zq Zt 8 rfl <| Sc (lo [17, 18] [] rfl fun S hs hr => Z01 (ps := [(0, .tmp 17), (1, .tmp 18)]) (x := (⟨value3, mask4⟩ : Tern)) rfl rfl rfl (by kernel_rfl) Z16 ⟨_, _, Z1a, _, by kernel_rfl, (vh hs 17 rfl rfl), _, _, Z0z, _, by kernel_rfl, (vh hs 18 rfl rfl), rfl⟩) rfl <| SCl [16, 19] (Zzj _ _ _ hx12) Zwk rfl <| Sc (lo [4, 13] [] rfl fun S hs hr => Z15 rfl rfl Z3c (vh hs 4 rfl rfl) (vh hs 13 rfl rfl) hj13) rfl <| SSt Z00 5 rfl <| SR <| Ld Z02 5 rfl <| Zh Z02 9 rfl <| Nl <| AW.ret ?_
  obtain rfl := si h
  exact Zg Tryz.results207 rfl (Z04 rfl (i := 9) rfl Z02)
 ·have h := Zf hc h
  refine AW.skip <| SR <| Ld Z02 5 rfl <| Zh Z02 9 rfl <| Nl <| AW.ret ?_
  obtain rfl := si h
  exact Zg Tryz.results207 rfl (Z04 rfl (i := 9) rfl Z02)
def Za8 (i1 : Int) : Option Wide :=
 (bif ((decide (i1 < 0)) || (decide (i1 > 127))) then some (⟨0, 0⟩ : Wide) else (Zf3 .i64 i1 64).bind fun q4 => (Zbz i1 64).bind fun q5 => (Z9h (1 : BitVec 64) q5).bind fun q6 => (chk 2 q4).bind fun j7 => some (⟨(Vector.get (Vector.set (Vector.replicate 2 0) j7.1 q6 j7.2) (⟨1, by decide⟩ : _root_.Fin 2)), (Vector.get (Vector.set (Vector.replicate 2 0) j7.1 q6 j7.2) (⟨0, by decide⟩ : _root_.Fin 2))⟩ : Wide))
theorem Zn4 (i1 : Int) (r : Wide) (h : Za8 i1 = some r) : PCon Tryz.prog 327 [rd (Z0 .i64) i1] (rd Zn r) := by
 refine PCon.of (Con.intro0 Tryz.func327 rfl Tryz.ntmps327 rfl fun w H => ?_)
 unfold Za8 at h
 refine SR <| Ct rfl (Zm 3 rfl rfl Z1n) ?_
 rintro _ ⟨g2, rfl⟩
 refine Nl <| SR <| Ct rfl (Zm 4 rfl rfl Y5t) ?_
 rintro _ ⟨g3, rfl⟩
 refine Nl <| AW.seq <| SR <| Md rfl <| Ac (Zl rfl rfl (vt rfl) (vk rfl)) rfl <| Md rfl <| Gd rfl (fun hq => Zs (A := rd (Z0 .i64) i1) rfl rfl (vt rfl)) <| Gd rfl (fun hq => Z3b rfl rfl (Zj rfl hq) (vk rfl)) <| Ac (Zek rfl rfl (vt rfl) (vt rfl)) rfl <| Nl <| Cn rfl (fun hc => ?_) (fun hc => ?_)
 ·have h := Ze hc h
  refine SR <| Ac (Z01 (ps := []) (x := (⟨0, 0⟩ : Wide)) rfl rfl rfl (by kernel_rfl) Z1n rfl) rfl <| Zh Zt 3 rfl <| Nl <| AW.ret ?_
  obtain rfl := si h
  exact Zg Tryz.results327 rfl (Z04 rfl (i := 3) rfl Zt)
 ·have h := Zf hc h
  refine AW.skip <| AW.seq ?_
  obtain ⟨q4, hq4, h⟩ := Z1 h
  obtain ⟨q5, hq5, h⟩ := Z1 h
  obtain ⟨q6, hq6, h⟩ := Z1 h
  obtain ⟨j7, hj7, h⟩ := Z1 h
  refine Rg <| Md rfl <| Ac (Y1i rfl rfl (vt rfl) (vk rfl) hq4) rfl <| Md rfl <| Ac (Yby rfl rfl (vt rfl) (vk rfl) hq5) rfl <| Ac (Znc rfl rfl (vku (1 : BitVec 64) rfl) (vt rfl) hq6) rfl <| Ac (Z15 rfl rfl Zpe (vt rfl) (vt rfl) hj7) rfl <| Zh Z18 4 rfl <| Nl <| SR <| Ac (Z15 rfl rfl Zpe (vt rfl) (vk rfl) rfl) rfl <| Ld Z18 4 rfl <| Ac (Z15 rfl rfl Zpe (vt rfl) (vk rfl) rfl) rfl <| Ld Z18 4 rfl <| Ac (Z01 (ps := [(0, .tmp 18), (1, .tmp 20)]) (x := (⟨(Vector.get (Vector.set (Vector.replicate 2 0) j7.1 q6 j7.2) (⟨1, by decide⟩ : _root_.Fin 2)), (Vector.get (Vector.set (Vector.replicate 2 0) j7.1 q6 j7.2) (⟨0, by decide⟩ : _root_.Fin 2))⟩ : Wide)) rfl rfl rfl (by kernel_rfl) Z1n ⟨_, _, Z22, _, by kernel_rfl, (vt rfl), _, _, Z21, _, by kernel_rfl, (vt rfl), rfl⟩) rfl <| Zh Zt 3 rfl <| Nl <| AW.ret ?_
  obtain rfl := si h
  exact Zg Tryz.results327 rfl (Z04 rfl (i := 3) rfl Zt)
def Zjb (a1 : Action) : Option (Vector Tern 24) :=
 (Zf5).bind fun x4 => (bif (decide (a1.Kind = 25)) then (Zf1 a1.Oxm).bind fun x6 => (Z83 x4 a1.Oxm.Field x6.Value x6.Mask).bind fun x8 => some x8 else (bif (decide (a1.Kind = 17)) then (Za8 12).bind fun x9 => (Za8 12).bind fun x10 => (Z83 x4 5 x9 x10).bind fun x11 => some x11 else (bif (decide (a1.Kind = 18)) then (Z7t 13).bind fun x12 => (Z83 x4 5 (⟨0, 0⟩ : Wide) x12).bind fun x13 => (Z7t 3).bind fun x14 => (Z83 x13 6 (⟨0, 0⟩ : Wide) x14).bind fun x15 => some x15 else some x4)))
theorem Y0q (a1 : Action) (r : (Vector Tern 24)) (h : Zjb a1 = some r) : PCon Tryz.prog 287 [rd Z5 a1] (rd (Z2 24 Z3) r) := by
 refine PCon.of (Con.intro0 Tryz.func287 rfl Tryz.ntmps287 rfl fun w H => ?_)
 unfold Zjb at h
 refine SR <| Ct rfl (Zo 2 rfl rfl (vt rfl)) ?_
 rintro _ ⟨g2, rfl⟩
 refine Ct rfl (Zm 3 rfl rfl Z2u) ?_
 rintro _ ⟨g3, rfl⟩
 refine Nl <| AW.seq ?_
 obtain ⟨x4, hx4, h⟩ := Z1 h
 refine Rg <| Cl [] (Zxy _ hx4) e77 rfl <| Ct rfl (Zm 4 rfl rfl Z2u) ?_
 rintro _ ⟨g5, rfl⟩
 refine Zh Z02 4 rfl <| Nl <| AW.seq <| SR <| Zp Z45 Z4r rfl <| Ld Zv 2 rfl <| Nl <| AW.block <| SR <| Ac (Z0i rfl rfl (vt rfl) (vk rfl)) rfl <| As rfl <| Nl <| Cn rfl (fun hc => ?_) (fun hc => ?_)
 ·have h := Ze hc h
  refine AW.seq ?_
  obtain ⟨x6, hx6, h⟩ := Z1 h
  refine Rg <| Zp Z7e Z9g rfl <| Ld Zcn 2 rfl <| Cl [11] (Zt6 _ _ hx6) Zyz rfl <| Ct rfl (Zm 5 rfl rfl Z16) ?_
  rintro _ ⟨g7, rfl⟩
  refine Zh Z00 5 rfl <| Nl ?_
  obtain ⟨x8, hx8, h⟩ := Z1 h
  refine Rg <| Ld Z02 4 rfl <| Zp Z7e Z9g rfl <| Zp Z46 Z4m rfl <| Ld Zv 2 rfl <| Zp Z1a Z2f rfl <| Ld Zt 5 rfl <| Zp Z0z Z1y rfl <| Ld Zt 5 rfl <| Cl [13, 16, 18, 20] (Zgb _ _ _ _ _ hx8) Zh5 rfl <| Zh Z02 4 rfl <| Nl <| SR <| Ld Z02 4 rfl <| Zh Z02 3 rfl <| Nl <| AW.ret ?_
  obtain rfl := si h
  exact Zg Tryz.results287 rfl (Z04 rfl (i := 3) rfl Z02)
 ·have h := Zf hc h
  refine SR <| Ac (Z0i rfl rfl (vt rfl) (vk rfl)) rfl <| As rfl <| Nl <| Cn rfl (fun hc => ?_) (fun hc => ?_)
  ·have h := Ze hc h
   obtain ⟨x9, hx9, h⟩ := Z1 h
   obtain ⟨x10, hx10, h⟩ := Z1 h
   obtain ⟨x11, hx11, h⟩ := Z1 h
   refine AW.regionAny [⟨[3], [24], [4], []⟩, ⟨[], [25], [], []⟩, ⟨[], [26], [], []⟩, ⟨[24, 25, 26], [27], [], []⟩, ⟨[3, 27], [], [4], [4]⟩] Z06 (by kernel_rfl) <| Zq Z02 4 rfl <| Sc (lo [] [] rfl fun S hs hr => Z0k (xs := [.const (Value.int IntKind.i64 12)]) (Zn4 _ _ hx9) Zl2 rfl rfl ⟨vk rfl, trivial⟩) rfl <| Sc (lo [] [] rfl fun S hs hr => Z0k (xs := [.const (Value.int IntKind.i64 12)]) (Zn4 _ _ hx10) Zl2 rfl rfl ⟨vk rfl, trivial⟩) rfl <| Sc (lo [24, 25, 26] [] rfl fun S hs hr => Z0k (xs := [.tmp 24, .const (Value.int IntKind.i64 5), .tmp 25, .tmp 26]) (Zgb _ _ _ _ _ hx11) Zh5 rfl rfl ⟨vt ((hs 24 rfl).trans rfl), vk rfl, vt ((hs 25 rfl).trans rfl), vt ((hs 26 rfl).trans rfl), trivial⟩) rfl <| SSt Z02 4 rfl <| SR <| Ld Z02 4 rfl <| Zh Z02 3 rfl <| Nl <| AW.ret ?_
   obtain rfl := si h
   exact Zg Tryz.results287 rfl (Z04 rfl (i := 3) rfl Z02)
  ·have h := Zf hc h
   refine SR <| Ac (Z0i rfl rfl (vt rfl) (vk rfl)) rfl <| As rfl <| Nl <| Cn rfl (fun hc => ?_) (fun hc => ?_)
   ·have h := Ze hc h
    refine AW.seq ?_
    obtain ⟨x12, hx12, h⟩ := Z1 h
    obtain ⟨x13, hx13, h⟩ := Z1 h
    refine AW.regionAny [⟨[3], [30], [4], []⟩, ⟨[], [31], [], []⟩, ⟨[], [32], [], []⟩, ⟨[30, 31, 32], [33], [], []⟩, ⟨[3, 33], [], [4], [4]⟩] Z06 (by kernel_rfl) <| Zq Z02 4 rfl <| Sc (lo [] [] rfl fun S hs hr => Z01 (ps := []) (x := (⟨0, 0⟩ : Wide)) rfl rfl rfl (by kernel_rfl) Z1n rfl) rfl <| Sc (lo [] [] rfl fun S hs hr => Z0k (xs := [.const (Value.int IntKind.i64 13)]) (Zpq _ _ hx12) Zq2 rfl rfl ⟨vk rfl, trivial⟩) rfl <| Sc (lo [30, 31, 32] [] rfl fun S hs hr => Z0k (xs := [.tmp 30, .const (Value.int IntKind.i64 5), .tmp 31, .tmp 32]) (Zgb _ _ _ _ _ hx13) Zh5 rfl rfl ⟨vt ((hs 30 rfl).trans rfl), vk rfl, vt ((hs 31 rfl).trans rfl), vt ((hs 32 rfl).trans rfl), trivial⟩) rfl <| SSt Z02 4 rfl ?_
    obtain ⟨x14, hx14, h⟩ := Z1 h
    obtain ⟨x15, hx15, h⟩ := Z1 h
    refine AW.regionAny [⟨[3], [34], [4], []⟩, ⟨[], [35], [], []⟩, ⟨[], [36], [], []⟩, ⟨[34, 35, 36], [37], [], []⟩, ⟨[3, 37], [], [4], [4]⟩] Z06 (by kernel_rfl) <| Zq Z02 4 rfl <| Sc (lo [] [] rfl fun S hs hr => Z01 (ps := []) (x := (⟨0, 0⟩ : Wide)) rfl rfl rfl (by kernel_rfl) Z1n rfl) rfl <| Sc (lo [] [] rfl fun S hs hr => Z0k (xs := [.const (Value.int IntKind.i64 3)]) (Zpq _ _ hx14) Zq2 rfl rfl ⟨vk rfl, trivial⟩) rfl <| Sc (lo [34, 35, 36] [] rfl fun S hs hr => Z0k (xs := [.tmp 34, .const (Value.int IntKind.i64 6), .tmp 35, .tmp 36]) (Zgb _ _ _ _ _ hx15) Zh5 rfl rfl ⟨vt ((hs 34 rfl).trans rfl), vk rfl, vt ((hs 35 rfl).trans rfl), vt ((hs 36 rfl).trans rfl), trivial⟩) rfl <| SSt Z02 4 rfl <| SR <| Ld Z02 4 rfl <| Zh Z02 3 rfl <| Nl <| AW.ret ?_
    obtain rfl := si h
    exact Zg Tryz.results287 rfl (Z04 rfl (i := 3) rfl Z02)
   ·have h := Zf hc h
    refine AW.skip <| SR <| Ld Z02 4 rfl <| Zh Z02 3 rfl <| Nl <| AW.ret ?_
    obtain rfl := si h
    exact Zg Tryz.results287 rfl (Z04 rfl (i := 3) rfl Z02)
def Ze4 (i1 : Int) (cp2 : (Vector Tern 24)) (cp3 : (Vector Tern 24)) : Option Tern :=
 (chk 24 i1).bind fun j5 => (chk 24 i1).bind fun j6 => (Zi5 (Vector.get cp2 j5) (Vector.get cp3 j6)).bind fun x7 => some x7
theorem Ydp (i1 : Int) (cp2 : (Vector Tern 24)) (cp3 : (Vector Tern 24)) (r : Tern) (h : Ze4 i1 cp2 cp3 = some r) : PCon Tryz.prog 332 [rd (Z0 .i64) i1, rp (Z2 24 Z3) cp2, rp (Z2 24 Z3) cp3] (rd Z3 r) := by
 refine PCon.of (Con.intro0 Tryz.func332 rfl Tryz.ntmps332 rfl fun w H => ?_)
 unfold Ze4 at h
 refine SR <| Ct rfl (Zm 5 rfl rfl Z16) ?_
 rintro _ ⟨g4, rfl⟩
 refine Nl <| AW.seq ?_
 obtain ⟨j5, hj5, h⟩ := Z1 h
 obtain ⟨j6, hj6, h⟩ := Z1 h
 obtain ⟨x7, hx7, h⟩ := Z1 h
 refine AW.regionAny [⟨[0], [5], [], []⟩, ⟨[1, 5], [6], [], []⟩, ⟨[6], [7], [], []⟩, ⟨[0], [8], [], []⟩, ⟨[2, 8], [9], [], []⟩, ⟨[9], [10], [], []⟩, ⟨[7, 10], [11], [], []⟩, ⟨[4, 11], [], [5], [5]⟩] Z06 (by kernel_rfl) <| Zu rfl <| Sc (lo [1, 5] [] rfl fun S hs hr => Z5w rfl rfl Z3c (vh hs 1 rfl rfl) (vh hs 5 rfl rfl) hj5) rfl <| SLp Z00 rfl <| Zu rfl <| Sc (lo [2, 8] [] rfl fun S hs hr => Z5w rfl rfl Z3c (vh hs 2 rfl rfl) (vh hs 8 rfl rfl) hj6) rfl <| SLp Z00 rfl <| SCl [7, 10] (Zzj _ _ _ hx7) Zwk rfl <| SSt Z00 5 rfl <| AW.ret ?_
 obtain rfl := si h
 exact Zg Tryz.results332 rfl (Z04 rfl (i := 5) rfl Z00)
def Zfr (a1 : (Vector Tern 24)) (b2 : (Vector Tern 24)) : Option (Vector Tern 24) :=
 (Zed (fun x => Ze4 x a1 b2)).bind fun x6 => some x6
theorem Yes (a1 : (Vector Tern 24)) (b2 : (Vector Tern 24)) (r : (Vector Tern 24)) (h : Zfr a1 b2 = some r) : PCon Tryz.prog 298 [rd (Z2 24 Z3) a1, rd (Z2 24 Z3) b2] (rd (Z2 24 Z3) r) := by
 refine PCon.of (Con.intro0 Tryz.func298 rfl Tryz.ntmps298 rfl fun w H => ?_)
 unfold Zfr at h
 refine SR <| Ct rfl (Zo 3 rfl rfl (vt rfl)) ?_
 rintro _ ⟨g3, rfl⟩
 refine Ct rfl (Zo 4 rfl rfl (vt rfl)) ?_
 rintro _ ⟨g4, rfl⟩
 refine Ct rfl (Zm 5 rfl rfl Z2u) ?_
 rintro _ ⟨g5, rfl⟩
 refine Nl <| AW.seq <| AW.freezeB 2 3 rfl rfl rfl <| AW.freezeB 3 4 rfl rfl rfl ?_
 obtain ⟨x6, hx6, h⟩ := Z1 h
 refine Rg <| Ac (Z9w (cs := [.tmp 2, .tmp 3]) (CAs := [rp (Z2 24 Z3) a1, rp (Z2 24 Z3) b2]) (fun x => Ze4 x a1 b2) rfl rfl Ye1 ⟨vt rfl, vt rfl, trivial⟩ (fun x y h => Ydp _ _ _ y h)) rfl <| Cl [5] (Zx5 _ _ hx6) Zy4 rfl <| Zh Z02 5 rfl <| Nl <| AW.ret ?_
 obtain rfl := si h
 exact Zg Tryz.results298 rfl (Z04 rfl (i := 5) rfl Z02)
def Zcm (t1 : Z4t) (b7 : Atom) : Option Z4t :=
 (Z0w t1.atoms [b7]).bind fun l8 => some (⟨t1.got, l8⟩ : Z4t)
def Zb9 (t1 : Z4t) (a4 : Action) : Option Z4t :=
 (bif (decide (a4.Kind = 0)) then (bif (decide (a4.Port = 4294967293)) then Zcm t1 { { (⟨t1.got, false, 0, 0⟩ : Atom) with Port := a4.Port } with Max := a4.Max } else Zcm t1 { (⟨t1.got, false, 0, 0⟩ : Atom) with Port := a4.Port }) else (bif (decide (a4.Kind = 22)) then Zcm t1 { { (⟨t1.got, false, 0, 0⟩ : Atom) with Group := true } with Port := a4.Group } else (Zjb a4).bind fun x10 => (Zfr t1.got x10).bind fun x11 => some (⟨x11, t1.atoms⟩ : Z4t)))
theorem Yaz (g2 gT : Nat) (t1 : Z4t) (a4 : Action) (r : Z4t) (h : Zb9 t1 a4 = some r) : Con Tryz.prog 304 [Z7 g2 (Lens.id Z3z), rd Z5 a4] (Z4d g2 gT Z3z (fun v => (⟨t1.got, v⟩ : atom_trace_o1)) 126 Z03 t1.atoms) (fun _ : Unit => top) (fun _ => Z4d g2 gT Z3z (fun v => (⟨r.got, v⟩ : atom_trace_o1)) 126 Z03 r.atoms) := by
 refine Con.intro Tryz.func304 rfl Tryz.ntmps304 rfl fun w H X => ?_
 unfold Zb9 at h
 refine AW.unboxF 0 2001 (by decide) rfl rfl fun v3 => SR <| Ct rfl (Zo 4 rfl rfl (vt rfl)) ?_
 rintro _ ⟨g5, rfl⟩
 refine Nl <| SR <| Mp rfl <| Nc rfl <| Zp Zeb Zkc rfl <| Ld Z02 0 rfl <| Ac (Z01 (ps := [(0, .tmp 8)]) (x := (⟨t1.got, false, 0, 0⟩ : Atom)) rfl rfl rfl (by kernel_rfl) Z4o ⟨_, _, Za9, _, by kernel_rfl, (vt rfl), rfl⟩) rfl <| Ct rfl (Zm 5 rfl rfl Z4o) ?_
 rintro _ ⟨g6, rfl⟩
 refine Zh Z5t 5 rfl <| Nl ?_
 refine AW.join (d := []) (ν := Atom) (fun n => Zcm t1 n = some r) (fun n => [(0, Z7 g2 (Lens.id Z3z)), (4, Z7 g6 (Lens.id Z03))]) (fun n => [(0, Z9 g2 gT Z3z (⟨t1.got, v3⟩ : atom_trace_o1)), (5, Z9 g6 126 Z03 n), (2001, Za v3 126 Z03 t1.atoms)]) ?hx1 ?hy1
 case hy1 =>
  intro b7 h
  unfold Zcm at h
  change AW _ _ _ ⟨Zw [(0, Z7 g2 (Lens.id Z3z)), (4, Z7 g6 (Lens.id Z03))], Zx [(0, Z9 g2 gT Z3z (⟨t1.got, v3⟩ : atom_trace_o1)), (5, Z9 g6 126 Z03 b7), (2001, Za v3 126 Z03 t1.atoms)], _⟩
  obtain ⟨l8, hl8, h⟩ := Z1 h
  refine AW.endT <| AW.regionAny [⟨[0], [39], [], []⟩, ⟨[0], [40], [], []⟩, ⟨[40], [41], [], []⟩, ⟨[41], [42], [], []⟩, ⟨[42], [43], [0], []⟩, ⟨[4], [44], [5], []⟩, ⟨[44], [45], [], []⟩, ⟨[43, 45], [46], [2001], [2001]⟩, ⟨[39], [47], [], []⟩, ⟨[47], [48], [], []⟩, ⟨[48, 46], [46], [0], [0]⟩] Z06 (by kernel_rfl) <| SMp rfl <| SMp rfl <| SNc rfl <| SFd Zhx Zo1 rfl <| Sc (lo [42] [0] rfl fun S hs hr => Zuv v3 rfl rfl Zra (vh hs 42 rfl rfl) (i := 0) ((hr 0 rfl).trans rfl) rfl) rfl <| Zq Z5t 5 rfl <| Sc (lo [44] [] rfl fun S hs hr => Z2o (ps := [(0, .tmp 44)]) (l := [b7]) rfl rfl Z3t Z4o rfl rfl ⟨_, _, Lens.idx 1 Z03 0 (by decide), _, rfl, (vh hs 44 rfl rfl), rfl⟩ rfl) rfl <| Sc (Z1b (us := [(46, Z1u 126 Z03 l8)]) (ur := [(2001, emp)]) [43, 45] [2001] rfl fun S hs hr => Za4 2001 hl8 rfl rfl rfl Z8g (vh hs 43 rfl rfl) ((hr 2001 rfl).trans rfl) (vh hs 45 rfl rfl)) rfl <| SNc rfl <| SFd Zhx Zo1 rfl <| Sc (Z1b (us := [(46, top)]) (ur := [(0, Z4d g2 gT Z3z (fun v => ((Lens.comp (Lens.id Z3z) Zhx)).set (⟨t1.got, v3⟩ : atom_trace_o1) v) 126 Z03 l8)]) [48, 46] [0] rfl fun S hs hr => Y8i rfl rfl Zra (vh hs 48 rfl rfl) ((hr 0 rfl).trans rfl) ((hs 46 rfl).trans rfl)) rfl <| EndT.unboxF 0 2001 (by decide) rfl rfl fun v9 => EndT.done ?_
  obtain rfl := si h
  exact RetOK.turn (Turn.packF 0 2001 (fun v => (⟨t1.got, v⟩ : atom_trace_o1)) (by decide) rfl rfl) (Z2n (i := 0) Tryz.results304 rfl rfl)
 case hx1 =>
  refine SR <| Zp Z45 Z4r rfl <| Ld Zv 4 rfl <| Nl <| AW.block <| SR <| Ac (Z0i rfl rfl (vt rfl) (vk rfl)) rfl <| As rfl <| Nl <| Cn rfl (fun hc => ?_) (fun hc => ?_)
  ·have h := Ze hc h
   refine SR <| Zp Zgk Zns rfl <| Ld Zv 4 rfl <| Zp Zdw Zoh rfl <| Zh Zv 5 rfl <| Nl <| SR <| Zp Zgk Zns rfl <| Ld Zv 4 rfl <| Ac (Z0i rfl rfl (vt rfl) (vk rfl)) rfl <| Nl <| Cn rfl (fun hc => ?_) (fun hc => ?_)
   ·have h := Ze hc h
    refine Rg <| Zp Zo4 Zxd rfl <| Ld Zv 4 rfl <| Zp Zr7 Zx2 rfl <| Zh Zv 5 rfl <| Nl ?_
    exact ⟨{ { (⟨t1.got, false, 0, 0⟩ : Atom) with Port := a4.Port } with Max := a4.Max }, h, ⟨rfl, ⟨rfl, rfl, trivial⟩, ⟨rfl, rfl, rfl, trivial⟩⟩⟩
   ·have h := Zf hc h
    refine AW.skip ?_
    exact ⟨{ (⟨t1.got, false, 0, 0⟩ : Atom) with Port := a4.Port }, h, ⟨rfl, ⟨rfl, rfl, trivial⟩, ⟨rfl, rfl, rfl, trivial⟩⟩⟩
  ·have h := Zf hc h
   refine SR <| Ac (Z0i rfl rfl (vt rfl) (vk rfl)) rfl <| As rfl <| Nl <| Cn rfl (fun hc => ?_) (fun hc => ?_)
   ·have h := Ze hc h
    refine AW.regionAny [⟨[3], [35], [], []⟩, ⟨[35], [36], [4], []⟩, ⟨[4], [37], [], []⟩, ⟨[37], [], [5], [5]⟩, ⟨[4], [38], [], []⟩, ⟨[38, 36], [], [5], [5]⟩] Z06 (by kernel_rfl) <| SFd Zqh Zw7 rfl <| Zq Zv 4 rfl <| SFd Zr9 Yaq rfl <| Sc (Z3l [37] [5] rfl fun S hs hr => Zct rfl rfl ty4 (vh hs 37 rfl rfl) (i := 5) ((hr 5 rfl).trans rfl) vb) rfl <| SFd Zdw Zoh rfl <| SSt Zv 5 rfl ?_
    exact ⟨{ { (⟨t1.got, false, 0, 0⟩ : Atom) with Group := true } with Port := a4.Group }, h, ⟨rfl, ⟨rfl, rfl, trivial⟩, ⟨rfl, rfl, rfl, trivial⟩⟩⟩
   ·have h := Zf hc h
    refine AW.seq ?_
    obtain ⟨x10, hx10, h⟩ := Z1 h
    obtain ⟨x11, hx11, h⟩ := Z1 h
    refine AW.regionAny [⟨[0], [12], [], []⟩, ⟨[0], [13], [], []⟩, ⟨[13], [14], [], []⟩, ⟨[14], [15], [], []⟩, ⟨[15], [16], [0], []⟩, ⟨[3], [17], [4], []⟩, ⟨[17], [18], [], []⟩, ⟨[16, 18], [19], [], []⟩, ⟨[12], [20], [], []⟩, ⟨[20], [21], [], []⟩, ⟨[21, 19], [], [0], [0]⟩] Z06 (by kernel_rfl) <| SMp rfl <| SMp rfl <| SNc rfl <| SFd Zeb Zkc rfl <| Zq Z02 0 rfl <| Zq Z0m 4 rfl <| SCl [17] (Y0q _ _ hx10) Ye6 rfl <| SCl [16, 18] (Yes _ _ _ hx11) Y38 rfl <| SNc rfl <| SFd Zeb Zkc rfl <| SSt Z02 0 rfl <| AW.ret ?_
    obtain rfl := si h
    exact RetOK.turn (Turn.packF 0 2001 (fun v => (⟨x11, v⟩ : atom_trace_o1)) (by decide) rfl rfl) (Z2n (i := 0) Tryz.results304 rfl rfl)
def Z75 (sg : Type) (do2 : (sg → Action → Option sg)) : (List Action) → Nat → sg → Option sg
 | [], i6, s5 => some s5
 | x8 :: l7, i6, s5 => (do2 s5 x8).bind fun s10 => (Z75 sg do2 l7) (i6 + 1) s10
def Zlk (l1 : (List Action)) (sg : Type) (do2 : (sg → Action → Option sg)) (s3 : sg) : Option sg :=
 Z75 sg do2 l1 0 s3
theorem Y1h (l1 : (List Action)) (sg : Type) (do2 : (sg → Action → Option sg)) (L : sg → Res) (s3 : sg) (r : sg) (h : Zlk l1 sg do2 s3 = some r) : Con Tryz.prog 303 [rd (Z4 Z5) l1, stA Tryz.prog Z5 do2 L] (L s3) (fun _ : Unit => top) (fun _ => L r) := by
 refine Con.intro Tryz.func303 rfl Tryz.ntmps303 rfl fun w H X => ?_
 unfold Zlk at h
 refine SR <| Md rfl <| Ac (Z0j rfl rfl Z0b (vt rfl)) rfl <| Mk rfl <| Nl <| AW.block <| AW.loopG (d := []) (ν := (List Action) × Nat × sg) (fun n => Sfx l1 n.2.1 n.1 ∧ Z75 sg do2 n.1 n.2.1 n.2.2 = some r) (fun n => n.1.length) (fun n => [(1, stA Tryz.prog Z5 do2 L), (6, rd (Z4 Z5) l1), (7, rd (Z0 .i64) (l1.length : Int)), (8, rd (Z0 .i64) (n.2.1 : Int))]) (fun n => [(0, L n.2.2)]) (l1, 0, s3) ⟨Sfx.start _, h⟩ ⟨rfl, ⟨rfl, rfl, rfl, rfl, trivial⟩, ⟨rfl, trivial⟩⟩ ?_
 rintro ⟨l7, i6, s5⟩ ⟨hsf1, h⟩
 change Sfx l1 i6 l7 at hsf1
 change Z75 sg do2 l7 i6 s5 = some r at h
 change AW _ _ _ ⟨Zw [(1, stA Tryz.prog Z5 do2 L), (6, rd (Z4 Z5) l1), (7, rd (Z0 .i64) (l1.length : Int)), (8, rd (Z0 .i64) (i6 : Int))], Zx [(0, L s5)], _⟩
 cases l7 with
 | nil =>
  unfold Z75 at h
  refine SR <| Ac (Zl rfl rfl (vt rfl) (vt rfl)) rfl <| Nl <| AW.seq <| Cn rfl (fun hc => absurd (of_decide_eq_true hc) hsf1.nil) (fun hc => ?_)
  refine AW.exit ?_
  obtain rfl := si h
  exact Z2n (i := 0) Tryz.results303 rfl rfl
 | cons x8 l7 =>
  unfold Z75 at h
  generalize hgo1 : Z75 sg do2 l7 = go1 at h
  refine SR <| Ac (Zl rfl rfl (vt rfl) (vt rfl)) rfl <| Nl <| AW.seq <| Cn rfl (fun hc => ?_) (fun hc => absurd hsf1.cons (of_decide_eq_false hc))
  have hlti6 := of_decide_eq_true hc
  refine AW.skip <| AW.seq <| AW.block <| SR <| Ac (Z0l rfl rfl Z0b (vt rfl) (vt rfl) hsf1.lget) rfl <| Lp1 Z0m rfl <| Ct rfl (Zm 6 rfl rfl Z3v) ?_
  rintro _ ⟨g9, rfl⟩
  refine Zh Z0m 6 rfl <| Nl ?_
  obtain ⟨s10, hs10, h⟩ := Z1 h
  refine Rg <| Ac (Zs (A := stA Tryz.prog Z5 do2 L) rfl rfl (vt rfl)) rfl <| Ld Z0m 6 rfl <| Ac (Y2z 0 hs10 rfl rfl (vt rfl) (vt rfl) rfl) rfl <| Nl <| Rg <| Ac (Z1t (t := 7) rfl rfl (vt rfl) (vk rfl) (vt rfl) hlti6) rfl <| Md rfl <| Nl ?_
  subst hgo1
  exact ⟨(l7, i6 + 1, s10), Nat.lt_succ_self _, ⟨hsf1.next, h⟩, ⟨rfl, ⟨rfl, rfl, rfl, rfl, trivial⟩, ⟨rfl, trivial⟩⟩⟩
def Zj1 (acts1 : (List Action)) (r2 : (Vector Tern 24)) : Option ((List Atom) × (Vector Tern 24)) :=
 (Zau r2).bind fun x5 => (Zlk acts1 Z4t (fun s x => Zb9 s x) (⟨x5, []⟩ : Z4t)).bind fun b7 => some (b7.atoms, b7.got)
theorem Y5y (acts1 : (List Action)) (r2 : (Vector Tern 24)) (r : ((List Atom) × (Vector Tern 24))) (h : Zj1 acts1 r2 = some r) : PCon Tryz.prog 265 [rd (Z4 Z5) acts1, rd (Z2 24 Z3) r2] (Z1e (rd (Z4 Z03) r.1) (rd (Z2 24 Z3) r.2)) := by
 refine PCon.of (Con.intro0 Tryz.func265 rfl Tryz.ntmps265 rfl fun w H => ?_)
 unfold Zj1 at h
 refine SR <| Ct rfl (Zo 4 rfl rfl (vt rfl)) ?_
 rintro _ ⟨g3, rfl⟩
 refine Ac (Z07 (A := rd (Z4 Z03) []) rfl rfl Z27) rfl <| Ct rfl (Zm 6 rfl rfl Z2u) ?_
 rintro _ ⟨g4, rfl⟩
 refine Nl <| AW.seq <| AW.newnil 2221 126 Z03 ?_
 obtain ⟨x5, hx5, h⟩ := Z1 h
 refine Rg <| Ld Z02 4 rfl <| Cl [7] (Zkh _ _ hx5) Zn1 rfl <| Ac (Z01 (ps := [(0, .tmp 8)]) (x := (⟨x5, (.slice none 0 0)⟩ : atom_trace_o1)) rfl rfl rfl (by kernel_rfl) Y3j ⟨_, _, Zeb, _, by kernel_rfl, (vt rfl), rfl⟩) rfl <| Ct rfl (Zo 11 rfl rfl (vt rfl)) ?_
 rintro _ ⟨g6, rfl⟩
 refine Ac (Z07 (A := Z7 g6 (Lens.id Z3z)) rfl rfl (vt rfl)) rfl <| Nl <| AW.seq ?_
 obtain ⟨b7, hb7, h⟩ := Z1 h
 refine Rg <| Md rfl <| Mp rfl <| Ac (Y2g (fs := [.tmp 12]) (cs := []) (FAs := [Z7 g6 (Lens.id Z3z)]) (CAs := []) (k := Z5) (fun s x => Zb9 s x) (fun (s : Z4t) => Z4d g6 346 Z3z (fun v => (⟨s.got, v⟩ : atom_trace_o1)) 126 Z03 s.atoms) rfl rfl Yax ⟨vt rfl, trivial⟩ trivial (fun s x s2 h => Yaz _ _ s x s2 h)) rfl <| AOps.packF 11 2221 (fun v => (⟨x5, v⟩ : atom_trace_o1)) (by decide) rfl rfl <| Ct rfl (Z1k 11 (xs := [.tmp 11, .tmp 13]) (Y1h _ Z4t _ (fun (s : Z4t) => Z4d g6 346 Z3z (fun v => (⟨s.got, v⟩ : atom_trace_o1)) 126 Z03 s.atoms) _ _ hb7) Y5n rfl rfl ⟨vt rfl, vt rfl, trivial⟩ rfl) ?_
 rintro _ ⟨_u, rfl⟩
 refine AOps.unboxF 11 2221 (by decide) rfl rfl fun v8 => Nl <| AW.seq <| AW.regionAny [⟨[6], [15], [], []⟩, ⟨[15], [16], [], []⟩, ⟨[16], [17], [], []⟩, ⟨[17], [18], [11], []⟩, ⟨[6], [19], [], []⟩, ⟨[19], [20], [], []⟩, ⟨[20], [21], [], []⟩, ⟨[21], [22], [11], []⟩, ⟨[18], [4], [], []⟩, ⟨[5, 22], [], [6], [6]⟩] Z06 (by kernel_rfl) <| SMp rfl <| SNc rfl <| SFd Zhx Zo1 rfl <| Sc (lo [17] [11] rfl fun S hs hr => Zuv v8 rfl rfl Zra (vh hs 17 rfl rfl) (i := 11) ((hr 11 rfl).trans rfl) rfl) rfl <| SMp rfl <| SNc rfl <| SFd Zeb Zkc rfl <| Zq Z02 11 rfl <| Sc (lo [18] [] rfl fun S hs hr => Z07 (A := Zc v8) rfl rfl (vh hs 18 rfl rfl)) rfl <| SSt Z02 6 rfl <| AW.freezes [4, 18] 2221 rfl ⟨rfl, rfl, trivial⟩ rfl <| AW.ret ?_
 obtain rfl := si h
 exact Z23 Tryz.results265 rfl (Z6 rfl) (Z04 rfl (i := 6) rfl Z02)
def Zbe (w1 : walk_way) (l2 : (List Action)) : Option walk_way :=
 (Zj1 l2 w1.got).bind fun x5 => (Z4a w1.atoms (w1.atoms.length : Int)).bind fun s7 => (Z0w s7 x5.1).bind fun l8 => some { { w1 with atoms := l8 } with got := x5.2 }
theorem Zz0 (w1 : walk_way) (l2 : (List Action)) (r : walk_way) (h : Zbe w1 l2 = some r) : PCon Tryz.prog 205 [rd Z0p w1, rd (Z4 Z5) l2] (rd Z0p r) := by
 refine PCon.of (Con.intro0 Tryz.func205 rfl Tryz.ntmps205 rfl fun w H => ?_)
 unfold Zbe at h
 refine SR <| Ct rfl (Zo 3 rfl rfl (vt rfl)) ?_
 rintro _ ⟨g3, rfl⟩
 refine Ct rfl (Zm 5 rfl rfl Ze1) ?_
 rintro _ ⟨g4, rfl⟩
 refine Nl <| AW.seq ?_
 obtain ⟨x5, hx5, h⟩ := Z1 h
 refine Rg <| Md rfl <| Zp Zbv Zh3 rfl <| Ld Z02 3 rfl <| Cl [8, 10] (Y5y _ _ _ hx5) Y1t rfl <| Mt2 rfl <| Ac (Z1p rfl rfl (vt rfl)) rfl <| Ac (Z1q rfl rfl (vt rfl)) rfl <| Ct rfl (Zm 7 rfl rfl Z2u) ?_
 rintro _ ⟨g6, rfl⟩
 refine As rfl <| Zh Z02 7 rfl <| Nl <| AW.seq ?_
 obtain ⟨s7, hs7, h⟩ := Z1 h
 obtain ⟨l8, hl8, h⟩ := Z1 h
 refine AW.regionAny [⟨[2], [14], [], []⟩, ⟨[14], [15], [3], []⟩, ⟨[2], [16], [], []⟩, ⟨[16], [17], [3], []⟩, ⟨[17], [18], [], []⟩, ⟨[2], [19], [], []⟩, ⟨[19], [20], [3], []⟩, ⟨[20], [21], [], []⟩, ⟨[15, 18, 21], [22], [], []⟩, ⟨[5], [23], [], []⟩, ⟨[22, 23], [24], [], []⟩, ⟨[6], [25], [7], []⟩, ⟨[2], [26], [], []⟩, ⟨[26, 24], [], [3], [3]⟩, ⟨[2], [27], [], []⟩, ⟨[27, 25], [], [3], [3]⟩] Z06 (by kernel_rfl) <| SFd Zf8 Zj3 rfl <| Zq Z79 3 rfl <| SFd Zf8 Zj3 rfl <| Zq Z79 3 rfl <| Sc (lo [17] [] rfl fun S hs hr => Z0j rfl rfl Z3t (vh hs 17 rfl rfl)) rfl <| SFd Zf8 Zj3 rfl <| Zq Z79 3 rfl <| Sc (lo [20] [] rfl fun S hs hr => Z0j rfl rfl Z3t (vh hs 20 rfl rfl)) rfl <| Sc (lo [15, 18, 21] [] rfl fun S hs hr => Yau hs7 rfl rfl Z3t (vh hs 15 rfl rfl) (vh hs 18 rfl rfl) (vh hs 21 rfl rfl)) rfl <| Zu rfl <| Sc (lo [22, 23] [] rfl fun S hs hr => Y6m hl8 rfl rfl Z8g (vh hs 22 rfl rfl) (vh hs 23 rfl rfl)) rfl <| Zq Z02 7 rfl <| SFd Zf8 Zj3 rfl <| SSt Z79 3 rfl <| SFd Zbv Zh3 rfl <| SSt Z02 3 rfl <| SR <| Ld Z2z 3 rfl <| Zh Z2z 5 rfl <| Nl <| AW.ret ?_
 obtain rfl := si h
 exact Zg Tryz.results205 rfl (Z04 rfl (i := 5) rfl Z2z)
end Go.Proofs.YtknpgojdkobgjaaGreat.W
set_option maxRecDepth 4000
namespace Go.Proofs.YtknpgojdkobgjaaGreat.W
open Go Go.Wb
theorem Zkx : Ent Tryz.prog 221 := Ent.mk Tryz.func221 rfl rfl
theorem Y5u : Ent Tryz.prog 267 := Ent.mk Tryz.func267 rfl rfl
theorem Znr : Ent Tryz.prog 266 := Ent.mk Tryz.func266 rfl rfl
theorem Y5j : Ent Tryz.prog 273 := Ent.mk Tryz.func273 rfl rfl
theorem Zq8 : Ent Tryz.prog 218 := Ent.mk Tryz.func218 rfl rfl
def Z9n (a1 : Action) : Option aset_spot :=
 (bif (decide (a1.Kind = 25)) then some (⟨a1.Kind, a1.Oxm.Field⟩ : aset_spot) else some (⟨a1.Kind, 0⟩ : aset_spot))
theorem Zl9 (a1 : Action) (r : aset_spot) (h : Z9n a1 = some r) : PCon Tryz.prog 221 [rd Z5 a1] (rd Z5s r) := by
 refine PCon.of (Con.intro0 Tryz.func221 rfl Tryz.ntmps221 rfl fun w H => ?_)
 unfold Z9n at h
 refine SR <| Ct rfl (Zo 2 rfl rfl (vt rfl)) ?_
 rintro _ ⟨g2, rfl⟩
 refine Ct rfl (Zm 3 rfl rfl Ziz) ?_
 rintro _ ⟨g3, rfl⟩
 refine Nl <| AW.seq <| SR <| Zp Z45 Z4r rfl <| Ld Zv 2 rfl <| Ac (Z0i rfl rfl (vt rfl) (vk rfl)) rfl <| Nl <| Cn rfl (fun hc => ?_) (fun hc => ?_)
 ·have h := Ze hc h
  refine SR <| Zp Z45 Z4r rfl <| Ld Zv 2 rfl <| Zp Z7e Z9g rfl <| Zp Z46 Z4m rfl <| Ld Zv 2 rfl <| Ac (Z01 (ps := [(0, .tmp 7), (1, .tmp 10)]) (x := (⟨a1.Kind, a1.Oxm.Field⟩ : aset_spot)) rfl rfl rfl (by kernel_rfl) Ziz ⟨_, _, Zjt, _, by kernel_rfl, (vt rfl), _, _, Zdf, _, by kernel_rfl, (vt rfl), rfl⟩) rfl <| Zh Zdx 3 rfl <| Nl <| AW.ret ?_
  obtain rfl := si h
  exact Zg Tryz.results221 rfl (Z04 rfl (i := 3) rfl Zdx)
 ·have h := Zf hc h
  refine AW.skip <| SR <| Zp Z45 Z4r rfl <| Ld Zv 2 rfl <| Ac (Z01 (ps := [(0, .tmp 13)]) (x := (⟨a1.Kind, 0⟩ : aset_spot)) rfl rfl rfl (by kernel_rfl) Ziz ⟨_, _, Zjt, _, by kernel_rfl, (vt rfl), rfl⟩) rfl <| Zh Zdx 3 rfl <| Nl <| AW.ret ?_
  obtain rfl := si h
  exact Zg Tryz.results221 rfl (Z04 rfl (i := 3) rfl Zdx)
def Zc8 (b1 : Action) (cp2 : Action) : Option Bool :=
 (Z9n cp2).bind fun x4 => (Z9n b1).bind fun x5 => some (decide (x4 = x5))
theorem Y1n (b1 : Action) (cp2 : Action) (r : Bool) (h : Zc8 b1 cp2 = some r) : PCon Tryz.prog 267 [rd Z5 b1, rp Z5 cp2] (rd Z8 r) := by
 refine PCon.of (Con.intro0 Tryz.func267 rfl Tryz.ntmps267 rfl fun w H => ?_)
 unfold Zc8 at h
 refine SR <| Ct rfl (Zo 3 rfl rfl (vt rfl)) ?_
 rintro _ ⟨g3, rfl⟩
 refine Ab rfl <| Nl <| AW.seq ?_
 obtain ⟨x4, hx4, h⟩ := Z1 h
 obtain ⟨x5, hx5, h⟩ := Z1 h
 refine AW.regionAny [⟨[1], [4], [], []⟩, ⟨[4], [5], [], []⟩, ⟨[2], [6], [3], []⟩, ⟨[6], [7], [], []⟩, ⟨[5, 7], [8], [], []⟩, ⟨[8], [3], [], []⟩] Z06 (by kernel_rfl) <| SLp Z0m rfl <| SCl [4] (Zl9 _ _ hx4) Zkx rfl <| Zq Z0m 3 rfl <| SCl [6] (Zl9 _ _ hx5) Zkx rfl <| Sc (lo [5, 7] [] rfl fun S hs hr => Zlt rfl rfl Y10 (by decide) rfl Y6v (vh hs 5 rfl rfl) (vh hs 7 rfl rfl)) rfl <| SAs rfl <| AW.ret ?_
 obtain rfl := si h
 exact Zg Tryz.results267 rfl (Z6 rfl)
def Z9c (s1 : (List Action)) (f2 : (Action → Option Bool)) : Nat → Nat → Option Int
 | 0, i3 => some (-1)
 | m4 + 1, i3 => (lget s1 (i3 : Int)).bind fun e5 => (f2 e5).bind fun x6 => (bif x6 then some (i3 : Int) else (Z9c s1 f2 m4) (i3 + 1))
def Zbb (s1 : (List Action)) (f2 : (Action → Option Bool)) : Option Int :=
 Z9c s1 f2 ((s1.length : Int) : Int).toNat 0
theorem Zon (s1 : (List Action)) (f2 : (Action → Option Bool)) (r : Int) (h : Zbb s1 f2 = some r) : PCon Tryz.prog 266 [rd (Z4 Z5) s1, fn1 Tryz.prog Z5 Z8 f2] (rd (Z0 .i64) r) := by
 refine PCon.of (Con.intro0 Tryz.func266 rfl Tryz.ntmps266 rfl fun w H => ?_)
 unfold Zbb at h
 refine SR <| Ak rfl <| Nl <| AW.seq <| SR <| Md rfl <| Ac (Z0j rfl rfl Z0b (vt rfl)) rfl <| Mk rfl <| Nl <| AW.block <| AW.loopG (d := []) (ν := Nat × Nat) (fun n => Cnt (s1.length : Int) n.2 n.1 ∧ Z9c s1 f2 n.1 n.2 = some r) (fun n => n.1) (fun n => [(0, rd (Z4 Z5) s1), (1, fn1 Tryz.prog Z5 Z8 f2), (7, rd (Z0 .i64) (s1.length : Int)), (8, rd (Z0 .i64) (n.2 : Int))]) (fun n => []) (((s1.length : Int) : Int).toNat, 0) ⟨Cnt.start _, h⟩ ⟨rfl, ⟨rfl, rfl, rfl, rfl, trivial⟩, trivial⟩ ?_
 rintro ⟨m4, i3⟩ ⟨hsf1, h⟩
 change Cnt (s1.length : Int) i3 m4 at hsf1
 change Z9c s1 f2 m4 i3 = some r at h
 change AW _ _ _ ⟨Zw [(0, rd (Z4 Z5) s1), (1, fn1 Tryz.prog Z5 Z8 f2), (7, rd (Z0 .i64) (s1.length : Int)), (8, rd (Z0 .i64) (i3 : Int))], Zx [], _⟩
 cases m4 with
 | zero =>
  unfold Z9c at h
  refine SR <| Ac (Zl rfl rfl (vt rfl) (vt rfl)) rfl <| Nl <| AW.seq <| Cn rfl (fun hc => absurd (of_decide_eq_true hc) hsf1.zero) (fun hc => ?_)
  refine AW.exit <| SR <| Ak rfl <| Nl <| AW.ret ?_
  obtain rfl := si h
  exact Zg Tryz.results266 rfl (Z6 rfl)
 | succ m4 =>
  unfold Z9c at h
  generalize hgo1 : Z9c s1 f2 m4 = go1 at h
  refine SR <| Ac (Zl rfl rfl (vt rfl) (vt rfl)) rfl <| Nl <| AW.seq <| Cn rfl (fun hc => ?_) (fun hc => absurd hsf1.succ (of_decide_eq_false hc))
  have hlti3 := of_decide_eq_true hc
  refine AW.skip <| AW.seq <| AW.block <| SR <| Md rfl <| As rfl <| Nl <| AW.seq ?_
  obtain ⟨e5, he5, h⟩ := Z1 h
  obtain ⟨x6, hx6, h⟩ := Z1 h
  refine Rg <| Ac (Zs (A := fn1 Tryz.prog Z5 Z8 f2) rfl rfl (vt rfl)) rfl <| Md rfl <| Md rfl <| Ac (Z0l rfl rfl Z0b (vt rfl) (vt rfl) he5) rfl <| Lp1 Z0m rfl <| Ac (Za2 hx6 rfl rfl (vt rfl) (vt rfl)) rfl <| Nl <| Cn rfl (fun hc => ?_) (fun hc => ?_)
  ·have h := Ze hc h
   refine SR <| Md rfl <| As rfl <| Nl <| AW.ret ?_
   obtain rfl := si h
   exact Zg Tryz.results266 rfl (Z6 rfl)
  ·have h := Zf hc h
   refine AW.skip <| Rg <| Ac (Z1t (t := 7) rfl rfl (vt rfl) (vk rfl) (vt rfl) hlti3) rfl <| Md rfl <| Nl ?_
   subst hgo1
   exact ⟨(m4, i3 + 1), Nat.lt_succ_self _, ⟨hsf1.next, h⟩, ⟨rfl, ⟨rfl, rfl, rfl, rfl, trivial⟩, trivial⟩⟩
def Z64 : (List Action) → Nat → (List Action) → Option (List Action)
 | [], i9, l7 => some l7
 | x11 :: l10, i9, l7 => (Zbb l7 (fun x => Zc8 x x11)).bind fun x13 => (bif (decide (x13 < 0)) then (Z0w l7 [x11]).bind fun l14 => (Z64 l10) (i9 + 1) l14 else (lget l7 x13).bind fun e16 => (Z64 l10) (i9 + 1) (List.set l7 x13.toNat x11))
def Zgz (set1 : (List Action)) (l2 : (List Action)) : Option (List Action) :=
 (Z63 set1).bind fun x3 => Z64 l2 0 x3
theorem Ybt (set1 : (List Action)) (l2 : (List Action)) (r : (List Action)) (h : Zgz set1 l2 = some r) : PCon Tryz.prog 206 [rd (Z4 Z5) set1, rd (Z4 Z5) l2] (rd (Z4 Z5) r) := by
 refine PCon.of (Con.intro0 Tryz.func206 rfl Tryz.ntmps206 rfl fun w H => ?_)
 unfold Zgz at h
 refine SR <| Ac (Z07 (A := rd (Z4 Z5) []) rfl rfl Z27) rfl <| Nl <| AW.seq ?_
 obtain ⟨x3, hx3, h⟩ := Z1 h
 refine Rg <| Md rfl <| Ct rfl (Z1k 1001 (xs := [.tmp 9]) (Znz _ _ hx3) Zmq rfl rfl ⟨vt rfl, trivial⟩ rfl) ?_
 rintro _ ⟨v4, rfl⟩
 refine Aw rfl <| Nl <| AW.seq <| SR <| Md rfl <| Ac (Z0j rfl rfl Z0b (vt rfl)) rfl <| Mk rfl <| Nl <| AW.block <| AW.loopG (d := []) (ν := (List Action) × Nat × (List Action) × Value) (fun n => Sfx l2 n.2.1 n.1 ∧ Z64 n.1 n.2.1 n.2.2.1 = some r) (fun n => n.1.length) (fun n => [(5, Zc n.2.2.2), (11, rd (Z4 Z5) l2), (12, rd (Z0 .i64) (l2.length : Int)), (13, rd (Z0 .i64) (n.2.1 : Int))]) (fun n => [(1001, Za n.2.2.2 121 Z5 n.2.2.1)]) (l2, 0, x3, v4) ⟨Sfx.start _, h⟩ ⟨rfl, ⟨rfl, rfl, rfl, rfl, trivial⟩, ⟨rfl, trivial⟩⟩ ?_
 rintro ⟨l10, i9, l7, v8⟩ ⟨hsf1, h⟩
 change Sfx l2 i9 l10 at hsf1
 change Z64 l10 i9 l7 = some r at h
 change AW _ _ _ ⟨Zw [(5, Zc v8), (11, rd (Z4 Z5) l2), (12, rd (Z0 .i64) (l2.length : Int)), (13, rd (Z0 .i64) (i9 : Int))], Zx [(1001, Za v8 121 Z5 l7)], _⟩
 cases l10 with
 | nil =>
  unfold Z64 at h
  refine SR <| Ac (Zl rfl rfl (vt rfl) (vt rfl)) rfl <| Nl <| AW.seq <| Cn rfl (fun hc => absurd (of_decide_eq_true hc) hsf1.nil) (fun hc => ?_)
  refine AW.exit <| SR <| Mw rfl <| Aw rfl <| Nl <| AW.freezes [4, 5, 31] 1001 rfl ⟨rfl, rfl, rfl, trivial⟩ rfl <| AW.ret ?_
  obtain rfl := si h
  exact Zg Tryz.results206 rfl (Z6 rfl)
 | cons x11 l10 =>
  unfold Z64 at h
  generalize hgo1 : Z64 l10 = go1 at h
  refine SR <| Ac (Zl rfl rfl (vt rfl) (vt rfl)) rfl <| Nl <| AW.seq <| Cn rfl (fun hc => ?_) (fun hc => absurd hsf1.cons (of_decide_eq_false hc))
  have hlti9 := of_decide_eq_true hc
  refine AW.skip <| AW.seq <| AW.block <| SR <| Ac (Z0l rfl rfl Z0b (vt rfl) (vt rfl) hsf1.lget) rfl <| Lp1 Z0m rfl <| Ct rfl (Zm 8 rfl rfl Z3v) ?_
  rintro _ ⟨g12, rfl⟩
  refine Zh Z0m 8 rfl <| Nl <| AW.seq <| AW.freezeB 7 8 rfl rfl rfl ?_
  obtain ⟨x13, hx13, h⟩ := Z1 h
  refine Rg <| Mw rfl <| Ac (Z9w (cs := [.tmp 7]) (CAs := [rp Z5 x11]) (fun x => Zc8 x x11) rfl rfl Y5u ⟨vt rfl, trivial⟩ (fun x y h => Y1n _ _ y h)) rfl <| Ac (Zrc (xs := [.tmp 17, .tmp 18]) 1001 (Zon _ _ _ hx13) Znr rfl rfl ⟨vL rfl rfl, vB (vt rfl), trivial⟩) rfl <| As rfl <| Nl <| SR <| Md rfl <| Ac (Zl rfl rfl (vt rfl) (vk rfl)) rfl <| Nl <| Cn rfl (fun hc => ?_) (fun hc => ?_)
  ·have h := Ze hc h
   obtain ⟨l14, hl14, h⟩ := Z1 h
   refine Rg <| Mw rfl <| Lp1 Z0m rfl <| Ac (Z2o (ps := [(0, .tmp 23)]) (l := [x11]) rfl rfl Z0b Z3v rfl rfl ⟨_, _, Lens.idx 1 Z5 0 (by decide), _, rfl, (vt rfl), rfl⟩ rfl) rfl <| Ct rfl (Z2l 1001 hl14 rfl rfl Z6t (vt rfl) rfl (vt rfl)) ?_
   rintro _ ⟨v15, rfl⟩
   refine Aw rfl <| Nl <| Rg <| Ac (Z1t (t := 12) rfl rfl (vt rfl) (vk rfl) (vt rfl) hlti9) rfl <| Md rfl <| Nl ?_
   subst hgo1
   exact ⟨(l10, i9 + 1, l14, v15), Nat.lt_succ_self _, ⟨hsf1.next, h⟩, ⟨rfl, ⟨rfl, rfl, rfl, rfl, trivial⟩, ⟨rfl, trivial⟩⟩⟩
  ·have h := Zf hc h
   obtain ⟨e16, he16, h⟩ := Z1 h
   refine Rg <| Mw rfl <| Md rfl <| Lp1 Z0m rfl <| Ac (Z1o 1001 rfl rfl Z0b (vt rfl) rfl (vt rfl) he16) rfl <| Ac (Z28 1001 rfl rfl Z0m (vt rfl) rfl (Z0g he16).2 (vt rfl)) rfl <| Nl <| Rg <| Ac (Z1t (t := 12) rfl rfl (vt rfl) (vk rfl) (vt rfl) hlti9) rfl <| Md rfl <| Nl ?_
   subst hgo1
   exact ⟨(l10, i9 + 1, (List.set l7 x13.toNat x11), v8), Nat.lt_succ_self _, ⟨hsf1.next, h⟩, ⟨rfl, ⟨rfl, rfl, rfl, rfl, trivial⟩, ⟨rfl, trivial⟩⟩⟩
def Zj4 (s1 : (List Action)) (f2 : (Action → Option Bool)) : Option Bool :=
 (Zbb s1 f2).bind fun x3 => some (decide (x3 ≥ 0))
theorem Zzw (s1 : (List Action)) (f2 : (Action → Option Bool)) (r : Bool) (h : Zj4 s1 f2 = some r) : PCon Tryz.prog 213 [rd (Z4 Z5) s1, fn1 Tryz.prog Z5 Z8 f2] (rd Z8 r) := by
 refine PCon.of (Con.intro0 Tryz.func213 rfl Tryz.ntmps213 rfl fun w H => ?_)
 unfold Zj4 at h
 refine SR <| Ab rfl <| Nl <| AW.seq ?_
 obtain ⟨x3, hx3, h⟩ := Z1 h
 refine Rg <| Md rfl <| Ac (Zs (A := fn1 Tryz.prog Z5 Z8 f2) rfl rfl (vt rfl)) rfl <| Cl [5, 6] (Zon _ _ _ hx3) Znr rfl <| Ac (Z5q rfl rfl (vt rfl) (vk rfl)) rfl <| As rfl <| Nl <| AW.ret ?_
 obtain rfl := si h
 exact Zg Tryz.results213 rfl (Z6 rfl)
def Zkp (a1 : Action) : Option Bool :=
 some (decide (a1.Kind = 22))
theorem Y4u (a1 : Action) (r : Bool) (h : Zkp a1 = some r) : PCon Tryz.prog 214 [rd Z5 a1] (rd Z8 r) := by
 refine PCon.of (Con.intro0 Tryz.func214 rfl Tryz.ntmps214 rfl fun w H => ?_)
 unfold Zkp at h
 refine SR <| Ct rfl (Zo 2 rfl rfl (vt rfl)) ?_
 rintro _ ⟨g2, rfl⟩
 refine Ab rfl <| Nl <| SR <| Zp Z45 Z4r rfl <| Ld Zv 2 rfl <| Ac (Z0i rfl rfl (vt rfl) (vk rfl)) rfl <| As rfl <| Nl <| AW.ret ?_
 obtain rfl := si h
 exact Zg Tryz.results214 rfl (Z6 rfl)
def Z8t (s1 : (List Int)) (v2 : Int) : Nat → Nat → Option Int
 | 0, i3 => some (-1)
 | m4 + 1, i3 => (lget s1 (i3 : Int)).bind fun e5 => (bif (decide (v2 = e5)) then some (i3 : Int) else (Z8t s1 v2 m4) (i3 + 1))
def Zfn (s1 : (List Int)) (v2 : Int) : Option Int :=
 Z8t s1 v2 ((s1.length : Int) : Int).toNat 0
theorem Yci (s1 : (List Int)) (v2 : Int) (r : Int) (h : Zfn s1 v2 = some r) : PCon Tryz.prog 273 [rd (Z4 (Z0 .i64)) s1, rd (Z0 .i64) v2] (rd (Z0 .i64) r) := by
 refine PCon.of (Con.intro0 Tryz.func273 rfl Tryz.ntmps273 rfl fun w H => ?_)
 unfold Zfn at h
 refine SR <| Ak rfl <| Nl <| AW.seq <| SR <| Md rfl <| Ac (Z0j rfl rfl Z10 (vt rfl)) rfl <| Mk rfl <| Nl <| AW.block <| AW.loopG (d := []) (ν := Nat × Nat) (fun n => Cnt (s1.length : Int) n.2 n.1 ∧ Z8t s1 v2 n.1 n.2 = some r) (fun n => n.1) (fun n => [(0, rd (Z4 (Z0 .i64)) s1), (1, rd (Z0 .i64) v2), (7, rd (Z0 .i64) (s1.length : Int)), (8, rd (Z0 .i64) (n.2 : Int))]) (fun n => []) (((s1.length : Int) : Int).toNat, 0) ⟨Cnt.start _, h⟩ ⟨rfl, ⟨rfl, rfl, rfl, rfl, trivial⟩, trivial⟩ ?_
 rintro ⟨m4, i3⟩ ⟨hsf1, h⟩
 change Cnt (s1.length : Int) i3 m4 at hsf1
 change Z8t s1 v2 m4 i3 = some r at h
 change AW _ _ _ ⟨Zw [(0, rd (Z4 (Z0 .i64)) s1), (1, rd (Z0 .i64) v2), (7, rd (Z0 .i64) (s1.length : Int)), (8, rd (Z0 .i64) (i3 : Int))], Zx [], _⟩
 cases m4 with
 | zero =>
  unfold Z8t at h
  refine SR <| Ac (Zl rfl rfl (vt rfl) (vt rfl)) rfl <| Nl <| AW.seq <| Cn rfl (fun hc => absurd (of_decide_eq_true hc) hsf1.zero) (fun hc => ?_)
  refine AW.exit <| SR <| Ak rfl <| Nl <| AW.ret ?_
  obtain rfl := si h
  exact Zg Tryz.results273 rfl (Z6 rfl)
 | succ m4 =>
  unfold Z8t at h
  generalize hgo1 : Z8t s1 v2 m4 = go1 at h
  refine SR <| Ac (Zl rfl rfl (vt rfl) (vt rfl)) rfl <| Nl <| AW.seq <| Cn rfl (fun hc => ?_) (fun hc => absurd hsf1.succ (of_decide_eq_false hc))
  have hlti3 := of_decide_eq_true hc
  refine AW.skip <| AW.seq <| AW.block <| SR <| Md rfl <| As rfl <| Nl <| AW.seq ?_
  obtain ⟨e5, he5, h⟩ := Z1 h
  refine Rg <| Md rfl <| Md rfl <| Md rfl <| Ac (Z0l rfl rfl Z10 (vt rfl) (vt rfl) he5) rfl <| Lp1 Zv rfl <| Ac (Z0i rfl rfl (vt rfl) (vt rfl)) rfl <| Nl <| Cn rfl (fun hc => ?_) (fun hc => ?_)
  ·have h := Ze hc h
   refine SR <| Md rfl <| As rfl <| Nl <| AW.ret ?_
   obtain rfl := si h
   exact Zg Tryz.results273 rfl (Z6 rfl)
  ·have h := Zf hc h
   refine AW.skip <| Rg <| Ac (Z1t (t := 7) rfl rfl (vt rfl) (vk rfl) (vt rfl) hlti3) rfl <| Md rfl <| Nl ?_
   subst hgo1
   exact ⟨(m4, i3 + 1), Nat.lt_succ_self _, ⟨hsf1.next, h⟩, ⟨rfl, ⟨rfl, rfl, rfl, rfl, trivial⟩, trivial⟩⟩
def Zc6 (kind1 : Int) : Option Int :=
 (Zfn [18, 17, 25, 22, 0] kind1).bind fun x2 => some x2
theorem Zrb (kind1 : Int) (r : Int) (h : Zc6 kind1 = some r) : PCon Tryz.prog 218 [rd (Z0 .i64) kind1] (rd (Z0 .i64) r) := by
 refine PCon.of (Con.intro0 Tryz.func218 rfl Tryz.ntmps218 rfl fun w H => ?_)
 unfold Zc6 at h
 refine SR <| Ak rfl <| Nl <| AW.seq ?_
 obtain ⟨x2, hx2, h⟩ := Z1 h
 refine Rg <| Ac (Z2o (ps := [(0, .const (Value.int IntKind.i64 18)), (1, .const (Value.int IntKind.i64 17)), (2, .const (Value.int IntKind.i64 25)), (3, .const (Value.int IntKind.i64 22)), (4, .const (Value.int IntKind.i64 0))]) (l := [18, 17, 25, 22, 0]) rfl rfl Z10 zr3 rfl rfl ⟨_, _, Lens.idx 5 (Z0 .i64) 0 (by decide), _, rfl, (vk rfl), _, _, Lens.idx 5 (Z0 .i64) 1 (by decide), _, rfl, (vk rfl), _, _, Lens.idx 5 (Z0 .i64) 2 (by decide), _, rfl, (vk rfl), _, _, Lens.idx 5 (Z0 .i64) 3 (by decide), _, rfl, (vk rfl), _, _, Lens.idx 5 (Z0 .i64) 4 (by decide), _, rfl, (vk rfl), rfl⟩ rfl) rfl <| Md rfl <| Cl [3, 4] (Yci _ _ _ hx2) Y5j rfl <| As rfl <| Nl <| AW.ret ?_
 obtain rfl := si h
 exact Zg Tryz.results218 rfl (Z6 rfl)
def Zdk (a1 : Action) (cp2 : Bool) : Option Bool :=
 (Zc6 a1.Kind).bind fun x4 => some ((decide (x4 < 0)) || (cp2 && (decide (a1.Kind = 0))))
theorem Yeh (a1 : Action) (cp2 : Bool) (r : Bool) (h : Zdk a1 cp2 = some r) : PCon Tryz.prog 217 [rd Z5 a1, rp Z8 cp2] (rd Z8 r) := by
 refine PCon.of (Con.intro0 Tryz.func217 rfl Tryz.ntmps217 rfl fun w H => ?_)
 unfold Zdk at h
 refine SR <| Ct rfl (Zo 3 rfl rfl (vt rfl)) ?_
 rintro _ ⟨g3, rfl⟩
 refine Ab rfl <| Nl <| AW.seq ?_
 obtain ⟨x4, hx4, h⟩ := Z1 h
 refine Rg <| Zp Z45 Z4r rfl <| Ld Zv 3 rfl <| Cl [5] (Zrb _ _ hx4) Zq8 rfl <| Ac (Zl rfl rfl (vt rfl) (vk rfl)) rfl <| Md rfl <| Gd rfl (fun hq => Z9f rfl rfl ty4 (vt rfl)) <| AOps.consG (OpG.guardX rfl rfl rfl rfl rfl fun hq => Zs (A := rd Z8 cp2) rfl rfl (Zj rfl hq)) <| AOps.consG (OpG.guardN rfl rfl rfl rfl rfl fun hq => Z1w Z45 rfl rfl Z4r (vt rfl)) <| AOps.consG (OpG.guardN rfl rfl rfl rfl rfl fun hq => Z14 rfl rfl Zv (Zj rfl hq) (i := 3) rfl) <| AOps.consG (OpG.guardN rfl rfl rfl rfl rfl fun hq => Z0i rfl rfl (Zj rfl hq) (vk rfl)) <| Gd rfl (fun hq => Z11 rfl rfl (vgx rfl hq) (vgw rfl hq)) <| Ac (Zek rfl rfl (vt rfl) (vt rfl)) rfl <| As rfl <| Nl <| AW.ret ?_
 obtain rfl := si h
 exact Zg Tryz.results217 rfl (Z6 rfl)
end Go.Proofs.YtknpgojdkobgjaaGreat.W
set_option maxRecDepth 4000
namespace Go.Proofs.YtknpgojdkobgjaaGreat.W
open Go Go.Wb
theorem Zqf : Ent Tryz.prog 343 := Ent.mk Tryz.func343 rfl rfl
theorem Zn7 : Ent Tryz.prog 311 := Ent.mk Tryz.func311 rfl rfl
theorem Yev : Ent Tryz.prog 335 := Ent.mk Tryz.func335 rfl rfl
theorem Zz1 : Ent Tryz.prog 310 := Ent.mk Tryz.func310 rfl rfl
theorem Yb1 : Ent Tryz.prog 274 := Ent.mk Tryz.func274 rfl rfl
theorem Y15 : Ent Tryz.prog 213 := Ent.mk Tryz.func213 rfl rfl
theorem Y8r : Ent Tryz.prog 214 := Ent.mk Tryz.func214 rfl rfl
theorem Yel : Ent Tryz.prog 217 := Ent.mk Tryz.func217 rfl rfl
theorem Y4g : Ent Tryz.prog 215 := Ent.mk Tryz.func215 rfl rfl
theorem Ybc : Ent Tryz.prog 219 := Ent.mk Tryz.func219 rfl rfl
theorem Y88 : Ent Tryz.prog 220 := Ent.mk Tryz.func220 rfl rfl
def Z7o (del3 : (Action → Option Bool)) : Nat → (List Action) → Int → Int → Option (List Action)
 | 0, _, _, _ => none
 | m11 + 1, l8, i9, j10 => (bif (decide (j10 < (l8.length : Int))) then (lget l8 j10).bind fun e12 => (del3 e12).bind fun x14 => (bif (!x14) then (lget l8 i9).bind fun e15 => (Z7o del3 m11) (List.set l8 i9.toNat e12) (IntKind.i64.wrap (i9 + 1)) (IntKind.i64.wrap (j10 + 1)) else (Z7o del3 m11) l8 i9 (IntKind.i64.wrap (j10 + 1))) else (Z5c l8 i9).bind fun s16 => (Z4a (List.take i9.toNat l8 ++ List.replicate (l8.length - i9.toNat) Zli) i9).bind fun s17 => some s17)
def Zhm (s1 : (List Action)) (del3 : (Action → Option Bool)) : Option (List Action) :=
 (Zbb s1 del3).bind fun x4 => (bif (decide (x4 = (-1))) then some s1 else Z7o del3 ((((s1.length : Int) : Int) - (IntKind.i64.wrap (x4 + 1))).toNat + 1) s1 x4 (IntKind.i64.wrap (x4 + 1)))
theorem Yc6 (v2 : Value) (s1 : (List Action)) (del3 : (Action → Option Bool)) (r : (List Action)) (h : Zhm s1 del3 = some r) : Con Tryz.prog 215 [Zc v2, fn1 Tryz.prog Z5 Z8 del3] (Za v2 121 Z5 s1) (fun v => Zc v) (fun v => Za v 121 Z5 r) := by
 refine Con.intro Tryz.func215 rfl Tryz.ntmps215 rfl fun w H X => ?_
 unfold Zhm at h
 refine AW.seq <| AW.newnil 1001 121 Z5 <| Rg <| Ac (Z07 rfl rfl vc) rfl <| Nl <| AW.seq ?_
 obtain ⟨x4, hx4, h⟩ := Z1 h
 refine Rg <| Mw rfl <| Ac (Zs (A := fn1 Tryz.prog Z5 Z8 del3) rfl rfl (vt rfl)) rfl <| Ac (Zrc (xs := [.tmp 8, .tmp 9]) 0 (Zon _ _ _ hx4) Znr rfl rfl ⟨vL rfl rfl, vB (vt rfl), trivial⟩) rfl <| As rfl <| Nl <| AW.seq <| SR <| Md rfl <| Ac (Z0i rfl rfl (vt rfl) (vk rfl)) rfl <| Nl <| Cn rfl (fun hc => ?_) (fun hc => ?_)
 ·have h := Ze hc h
  refine SR <| Mw rfl <| Aw rfl <| Nl <| AW.ret ?_
  obtain rfl := si h
  exact Z4k (i := 0) Tryz.results215 rfl rfl rfl
 ·have h := Zf hc h
  refine AW.skip <| AW.seq <| SR <| Md rfl <| Ac (Z08 rfl rfl (vt rfl) (vk rfl)) rfl <| As rfl <| Nl <| AW.block <| AW.loopG (d := []) (ν := Nat × (List Action) × Int × Int) (fun n => True ∧ Z7o del3 n.1 n.2.1 n.2.2.1 n.2.2.2 = some r) (fun n => n.1) (fun n => [(0, Zc v2), (1, fn1 Tryz.prog Z5 Z8 del3), (5, rd (Z0 .i64) n.2.2.1), (6, rd (Z0 .i64) n.2.2.2)]) (fun n => [(0, Za v2 121 Z5 n.2.1)]) (((((s1.length : Int) : Int) - (IntKind.i64.wrap (x4 + 1))).toNat + 1), s1, x4, (IntKind.i64.wrap (x4 + 1))) ⟨trivial, h⟩ ⟨rfl, ⟨rfl, rfl, rfl, rfl, trivial⟩, ⟨rfl, trivial⟩⟩ ?_
  rintro ⟨m11, l8, i9, j10⟩ ⟨hsf1, h⟩
  change True at hsf1
  change Z7o del3 m11 l8 i9 j10 = some r at h
  change AW _ _ _ ⟨Zw [(0, Zc v2), (1, fn1 Tryz.prog Z5 Z8 del3), (5, rd (Z0 .i64) i9), (6, rd (Z0 .i64) j10)], Zx [(0, Za v2 121 Z5 l8)], _⟩
  cases m11 with
  | zero => cases h
  | succ m11 =>
   unfold Z7o at h
   generalize hgo1 : Z7o del3 m11 = go1 at h
   refine AW.seq <| SR <| Md rfl <| Mw rfl <| Ac (Z5h 0 rfl rfl Z0b (vt rfl) rfl) rfl <| Ac (Zl rfl rfl (vt rfl) (vt rfl)) rfl <| Nl <| Cn rfl (fun hc => ?_) (fun hc => ?_)
   ·have h := Ze hc h
    refine AW.skip <| AW.seq <| AW.block <| AW.seq ?_
    obtain ⟨e12, he12, h⟩ := Z1 h
    refine Rg <| Mw rfl <| Md rfl <| Ac (Z1o 0 rfl rfl Z0b (vt rfl) rfl (vt rfl) he12) rfl <| Ac (Z1d 0 rfl rfl Z0m (vt rfl) rfl (Z0g he12).2) rfl <| Ct rfl (Zm 8 rfl rfl Z3v) ?_
    rintro _ ⟨g13, rfl⟩
    refine Zh Z0m 8 rfl <| Nl <| AW.seq ?_
    obtain ⟨x14, hx14, h⟩ := Z1 h
    refine Rg <| Ac (Zs (A := fn1 Tryz.prog Z5 Z8 del3) rfl rfl (vt rfl)) rfl <| Ld Z0m 8 rfl <| Ac (Za2 hx14 rfl rfl (vt rfl) (vt rfl)) rfl <| Ac (Z13 rfl rfl (vt rfl)) rfl <| Nl <| Cn rfl (fun hc => ?_) (fun hc => ?_)
    ·have h := Ze hc h
     refine AW.seq ?_
     obtain ⟨e15, he15, h⟩ := Z1 h
     refine Rg <| Mw rfl <| Md rfl <| Ld Z0m 8 rfl <| Ac (Z1o 0 rfl rfl Z0b (vt rfl) rfl (vt rfl) he15) rfl <| Ac (Z28 0 rfl rfl Z0m (vt rfl) rfl (Z0g he15).2 (vt rfl)) rfl <| Nl <| Rg <| Md rfl <| Ac (Z08 rfl rfl (vt rfl) (vk rfl)) rfl <| As rfl <| Nl <| Rg <| Md rfl <| Ac (Z08 rfl rfl (vt rfl) (vk rfl)) rfl <| As rfl <| Nl ?_
     subst hgo1
     exact ⟨(m11, (List.set l8 i9.toNat e12), (IntKind.i64.wrap (i9 + 1)), (IntKind.i64.wrap (j10 + 1))), Nat.lt_succ_self _, ⟨trivial, h⟩, ⟨rfl, ⟨rfl, rfl, rfl, rfl, trivial⟩, ⟨rfl, trivial⟩⟩⟩
    ·have h := Zf hc h
     refine AW.skip <| Rg <| Md rfl <| Ac (Z08 rfl rfl (vt rfl) (vk rfl)) rfl <| As rfl <| Nl ?_
     subst hgo1
     exact ⟨(m11, l8, i9, (IntKind.i64.wrap (j10 + 1))), Nat.lt_succ_self _, ⟨trivial, h⟩, ⟨rfl, ⟨rfl, rfl, rfl, rfl, trivial⟩, ⟨rfl, trivial⟩⟩⟩
   ·have h := Zf hc h
    refine AW.exit <| AW.seq ?_
    obtain ⟨s16, hs16, h⟩ := Z1 h
    refine Rg <| Mw rfl <| Md rfl <| Ac (Yd1 0 hs16 rfl rfl Z0b (vt rfl) rfl (vt rfl)) rfl <| Ac (Y9n 0 rfl rfl Z0b Z3v rfl (vt rfl) rfl (Zqq hs16).2.1) rfl <| Nl <| AW.seq ?_
    obtain ⟨s17, hs17, h⟩ := Z1 h
    refine Rg <| Mw rfl <| Md rfl <| Ct rfl (Y9e 0 hs17 rfl rfl Z0b (vt rfl) rfl (vt rfl)) ?_
    rintro _ ⟨v18, rfl⟩
    refine Aw rfl <| Nl <| AW.ret ?_
    obtain rfl := si h
    exact Z4k (i := 0) Tryz.results215 rfl rfl rfl
def Z8k (a3 : Int) (cmp5 : (Action → Action → Option Int)) (go1 : (List Action) → Int → Option (List Action)) (i9 : Int) : Nat → (List Action) → Int → Option (List Action)
 | 0, _, _ => none
 | m15 + 1, l13, j14 => (opt (decide (j14 > a3)) (lget l13 j14)).bind fun e16 => (opt (decide (j14 > a3)) (lget l13 (IntKind.i64.wrap (j14 - 1)))).bind fun e17 => (opt (decide (j14 > a3)) (cmp5 e16 e17)).bind fun x18 => (bif ((decide (j14 > a3)) && (decide (x18 < 0))) then (lget l13 (IntKind.i64.wrap (j14 - 1))).bind fun e19 => (lget l13 j14).bind fun e20 => (lget l13 j14).bind fun e21 => (lget (List.set l13 j14.toNat e19) (IntKind.i64.wrap (j14 - 1))).bind fun e22 => (Z8k a3 cmp5 go1 i9 m15) (List.set (List.set l13 j14.toNat e19) (IntKind.i64.wrap (j14 - 1)).toNat e20) (IntKind.i64.wrap (j14 - 1)) else go1 l13 (IntKind.i64.wrap (i9 + 1)))
def Z6n (b4 : Int) (a3 : Int) (cmp5 : (Action → Action → Option Int)) : Nat → (List Action) → Int → Option (List Action)
 | 0, _, _ => none
 | m10 + 1, l8, i9 => (bif (decide (i9 < b4)) then Z8k a3 cmp5 (Z6n b4 a3 cmp5 m10) i9 Z0x l8 i9 else some l8)
def Zez (data1 : (List Action)) (a3 : Int) (b4 : Int) (cmp5 : (Action → Action → Option Int)) : Option (List Action) :=
 Z6n b4 a3 cmp5 (((b4 : Int) - (IntKind.i64.wrap (a3 + 1))).toNat + 1) data1 (IntKind.i64.wrap (a3 + 1))
theorem Zxk (v2 : Value) (data1 : (List Action)) (a3 : Int) (b4 : Int) (cmp5 : (Action → Action → Option Int)) (r : (List Action)) (h : Zez data1 a3 b4 cmp5 = some r) : Con Tryz.prog 310 [Zc v2, rd (Z0 .i64) a3, rd (Z0 .i64) b4, fn2 Tryz.prog Z5 Z5 (Z0 .i64) cmp5] (Za v2 121 Z5 data1) (fun _ : Unit => top) (fun _ => Za v2 121 Z5 r) := by
 refine Con.intro Tryz.func310 rfl Tryz.ntmps310 rfl fun w H X => ?_
 unfold Zez at h
 refine SR <| Md rfl <| Ac (Z08 rfl rfl (vt rfl) (vk rfl)) rfl <| As rfl <| Nl <| AW.block <| AW.loopG (d := []) (ν := Nat × (List Action) × Int) (fun n => True ∧ Z6n b4 a3 cmp5 n.1 n.2.1 n.2.2 = some r) (fun n => n.1) (fun n => [(0, Zc v2), (1, rd (Z0 .i64) a3), (2, rd (Z0 .i64) b4), (3, fn2 Tryz.prog Z5 Z5 (Z0 .i64) cmp5), (8, rd (Z0 .i64) n.2.2)]) (fun n => [(0, Za v2 121 Z5 n.2.1)]) ((((b4 : Int) - (IntKind.i64.wrap (a3 + 1))).toNat + 1), data1, (IntKind.i64.wrap (a3 + 1))) ⟨trivial, h⟩ ⟨rfl, ⟨rfl, rfl, rfl, rfl, rfl, trivial⟩, ⟨rfl, trivial⟩⟩ ?_
 rintro ⟨m10, l8, i9⟩ ⟨hsf1, h⟩
 change True at hsf1
 change Z6n b4 a3 cmp5 m10 l8 i9 = some r at h
 change AW _ _ _ ⟨Zw [(0, Zc v2), (1, rd (Z0 .i64) a3), (2, rd (Z0 .i64) b4), (3, fn2 Tryz.prog Z5 Z5 (Z0 .i64) cmp5), (8, rd (Z0 .i64) i9)], Zx [(0, Za v2 121 Z5 l8)], _⟩
 cases m10 with
 | zero => cases h
 | succ m10 =>
  unfold Z6n at h
  generalize hgo1 : Z6n b4 a3 cmp5 m10 = go1 at h
  refine AW.seq <| SR <| Md rfl <| Md rfl <| Ac (Zl rfl rfl (vt rfl) (vt rfl)) rfl <| Nl <| Cn rfl (fun hc => ?_) (fun hc => ?_)
  ·have h := Ze hc h
   refine AW.skip <| AW.seq <| AW.block <| SR <| Md rfl <| As rfl <| Nl <| AW.block <| AW.loopG (d := []) (ν := Nat × (List Action) × Int) (fun n => True ∧ Z8k a3 cmp5 go1 i9 n.1 n.2.1 n.2.2 = some r) (fun n => n.1) (fun n => [(0, Zc v2), (1, rd (Z0 .i64) a3), (2, rd (Z0 .i64) b4), (3, fn2 Tryz.prog Z5 Z5 (Z0 .i64) cmp5), (8, rd (Z0 .i64) i9), (9, rd (Z0 .i64) n.2.2)]) (fun n => [(0, Za v2 121 Z5 n.2.1)]) (Z0x, l8, i9) ⟨trivial, h⟩ ⟨rfl, ⟨rfl, rfl, rfl, rfl, rfl, rfl, trivial⟩, ⟨rfl, trivial⟩⟩ ?_
   rintro ⟨m15, l13, j14⟩ ⟨hsf2, h⟩
   change True at hsf2
   change Z8k a3 cmp5 go1 i9 m15 l13 j14 = some r at h
   change AW _ _ _ ⟨Zw [(0, Zc v2), (1, rd (Z0 .i64) a3), (2, rd (Z0 .i64) b4), (3, fn2 Tryz.prog Z5 Z5 (Z0 .i64) cmp5), (8, rd (Z0 .i64) i9), (9, rd (Z0 .i64) j14)], Zx [(0, Za v2 121 Z5 l13)], _⟩
   cases m15 with
   | zero => cases h
   | succ m15 =>
    unfold Z8k at h
    generalize hgo2 : Z8k a3 cmp5 go1 i9 m15 = go2 at h
    refine AW.seq <| AW.seq ?_
    obtain ⟨e16, he16, h⟩ := Z1 h
    obtain ⟨e17, he17, h⟩ := Z1 h
    obtain ⟨x18, hx18, h⟩ := Z1 h
    refine AW.regionAny [⟨[9], [18], [], []⟩, ⟨[1], [19], [], []⟩, ⟨[18, 19], [20], [], []⟩, ⟨[20], [21], [], []⟩, ⟨[3, 21], [22], [], []⟩, ⟨[0, 21], [23], [], []⟩, ⟨[9, 21], [24], [], []⟩, ⟨[23, 24, 21], [25], [0], []⟩, ⟨[25, 21], [26], [0], []⟩, ⟨[0, 21], [27], [], []⟩, ⟨[9, 21], [28], [], []⟩, ⟨[28, 21], [29], [], []⟩, ⟨[27, 29, 21], [30], [0], []⟩, ⟨[30, 21], [31], [0], []⟩, ⟨[22, 26, 31, 21], [32], [], []⟩, ⟨[32, 21], [33], [], []⟩, ⟨[33, 21], [34], [], []⟩] Z06 (by kernel_rfl) <| Zu rfl <| Zu rfl <| Sc (lo [18, 19] [] rfl fun S hs hr => Z3b rfl rfl (vh hs 18 rfl rfl) (vh hs 19 rfl rfl)) rfl <| Zu rfl <| Sc (lg [3, 21] [] rfl fun hq S hs hr => Zs (A := fn2 Tryz.prog Z5 Z5 (Z0 .i64) cmp5) rfl rfl (vh hs 3 rfl rfl)) rfl <| Sc (lg [0, 21] [] rfl fun hq S hs hr => Zs (A := Zc v2) rfl rfl (vh hs 0 rfl rfl)) rfl <| Sc (lg [9, 21] [] rfl fun hq S hs hr => Zs (A := rd (Z0 .i64) j14) rfl rfl (vh hs 9 rfl rfl)) rfl <| Sc (lg [23, 24, 21] [0] rfl fun hq S hs hr => Z1o 0 rfl rfl Z0b (Zj ((hs 23 rfl).trans rfl) hq) ((hr 0 rfl).trans rfl) (Zj ((hs 24 rfl).trans rfl) hq) (Z1g he16 hq)) rfl <| Sc (lg [25, 21] [0] rfl fun hq S hs hr => Z1d 0 rfl rfl Z0m (Zj ((hs 25 rfl).trans rfl) hq) ((hr 0 rfl).trans rfl) (Z0g (Z1g he16 hq)).2) rfl <| Sc (lg [0, 21] [] rfl fun hq S hs hr => Zs (A := Zc v2) rfl rfl (vh hs 0 rfl rfl)) rfl <| Sc (lg [9, 21] [] rfl fun hq S hs hr => Zs (A := rd (Z0 .i64) j14) rfl rfl (vh hs 9 rfl rfl)) rfl <| Sc (lg [28, 21] [] rfl fun hq S hs hr => Z0n rfl rfl (Zj ((hs 28 rfl).trans rfl) hq) (vk rfl)) rfl <| Sc (lg [27, 29, 21] [0] rfl fun hq S hs hr => Z1o 0 rfl rfl Z0b (Zj ((hs 27 rfl).trans rfl) hq) ((hr 0 rfl).trans rfl) (Zj ((hs 29 rfl).trans rfl) hq) (Z1g he17 hq)) rfl <| Sc (lg [30, 21] [0] rfl fun hq S hs hr => Z1d 0 rfl rfl Z0m (Zj ((hs 30 rfl).trans rfl) hq) ((hr 0 rfl).trans rfl) (Z0g (Z1g he17 hq)).2) rfl <| Sc (lg [22, 26, 31, 21] [] rfl fun hq S hs hr => Z57 (Z1g hx18 hq) rfl rfl (Zj ((hs 22 rfl).trans rfl) hq) (Zj ((hs 26 rfl).trans rfl) hq) (Zj ((hs 31 rfl).trans rfl) hq)) rfl <| Sc (lg [32, 21] [] rfl fun hq S hs hr => Zl rfl rfl (Zj ((hs 32 rfl).trans rfl) hq) (vk rfl)) rfl <| Sc (lo [33, 21] [] rfl fun S hs hr => Z11 rfl rfl (vh hs 21 rfl rfl) (vh hs 33 rfl rfl)) rfl <| Cn rfl (fun hc => ?_) (fun hc => ?_)
    ·have h := Ze hc h
     refine AW.skip <| AW.seq <| AW.block <| AW.vlen 0 rfl fun hvl0_273 => ?_
     obtain ⟨e19, he19, h⟩ := Z1 h
     obtain ⟨e20, he20, h⟩ := Z1 h
     obtain ⟨e21, he21, h⟩ := Z1 h
     obtain ⟨e22, he22, h⟩ := Z1 h
     refine AW.regionAny [⟨[0], [37], [], []⟩, ⟨[9], [38], [], []⟩, ⟨[0], [39], [], []⟩, ⟨[9], [40], [], []⟩, ⟨[40], [41], [], []⟩, ⟨[0], [42], [], []⟩, ⟨[9], [43], [], []⟩, ⟨[43], [44], [], []⟩, ⟨[42, 44], [45], [], []⟩, ⟨[45], [46], [0], []⟩, ⟨[0], [47], [], []⟩, ⟨[9], [48], [], []⟩, ⟨[47, 48], [49], [], []⟩, ⟨[49], [50], [0], []⟩, ⟨[37, 38], [51], [], []⟩, ⟨[51, 46], [], [0], [0]⟩, ⟨[39, 41], [52], [], []⟩, ⟨[52, 50], [], [0], [0]⟩] Z06 (by kernel_rfl) <| SMw rfl <| Zu rfl <| SMw rfl <| Zu rfl <| Sc (lo [40] [] rfl fun S hs hr => Z0n rfl rfl (vh hs 40 rfl rfl) (vk rfl)) rfl <| SMw rfl <| Zu rfl <| Sc (lo [43] [] rfl fun S hs hr => Z0n rfl rfl (vh hs 43 rfl rfl) (vk rfl)) rfl <| Sc (lo [42, 44] [] rfl fun S hs hr => Z1z (l := l13) hvl0_273 rfl rfl rfl Z0b (vh hs 42 rfl rfl) (vh hs 44 rfl rfl) he19) rfl <| Sc (lo [45] [0] rfl fun S hs hr => Z1d 0 rfl rfl Z0m (vh hs 45 rfl rfl) ((hr 0 rfl).trans rfl) (Z0g he19).2) rfl <| SMw rfl <| Zu rfl <| Sc (lo [47, 48] [] rfl fun S hs hr => Z1z (l := l13) hvl0_273 rfl rfl rfl Z0b (vh hs 47 rfl rfl) (vh hs 48 rfl rfl) he20) rfl <| Sc (lo [49] [0] rfl fun S hs hr => Z1d 0 rfl rfl Z0m (vh hs 49 rfl rfl) ((hr 0 rfl).trans rfl) (Z0g he20).2) rfl <| Sc (lo [37, 38] [] rfl fun S hs hr => Z1z (l := l13) hvl0_273 rfl rfl rfl Z0b (vh hs 37 rfl rfl) (vh hs 38 rfl rfl) he21) rfl <| Sc (Z3l [51, 46] [0] rfl fun S hs hr => Z28 0 rfl rfl Z0m (vh hs 51 rfl rfl) ((hr 0 rfl).trans rfl) (Z0g he21).2 (vh hs 46 rfl rfl)) rfl <| Sc (lo [39, 41] [] rfl fun S hs hr => Z1z (l := (List.set l13 j14.toNat e19)) hvl0_273 (by simp) rfl rfl Z0b (vh hs 39 rfl rfl) (vh hs 41 rfl rfl) he22) rfl <| Sc (Z3l [52, 50] [0] rfl fun S hs hr => Z28 0 rfl rfl Z0m (vh hs 52 rfl rfl) ((hr 0 rfl).trans rfl) (Z0g he22).2 (vh hs 50 rfl rfl)) rfl <| Rg <| Md rfl <| Ac (Z0n rfl rfl (vt rfl) (vk rfl)) rfl <| As rfl <| Nl ?_
     subst hgo2
     exact ⟨(m15, (List.set (List.set l13 j14.toNat e19) (IntKind.i64.wrap (j14 - 1)).toNat e20), (IntKind.i64.wrap (j14 - 1))), Nat.lt_succ_self _, ⟨trivial, h⟩, ⟨rfl, ⟨rfl, rfl, rfl, rfl, rfl, rfl, trivial⟩, ⟨rfl, trivial⟩⟩⟩
    ·have h := Zf hc h
     refine AW.exit <| Rg <| Md rfl <| Ac (Z08 rfl rfl (vt rfl) (vk rfl)) rfl <| As rfl <| Nl ?_
     subst hgo1
     exact ⟨(m10, l13, (IntKind.i64.wrap (i9 + 1))), Nat.lt_succ_self _, ⟨trivial, h⟩, ⟨rfl, ⟨rfl, rfl, rfl, rfl, rfl, trivial⟩, ⟨rfl, trivial⟩⟩⟩
  ·have h := Zf hc h
   refine AW.exit ?_
   obtain rfl := si h
   exact Z2n (i := 0) Tryz.results310 rfl rfl
def Z8j (n5 : Int) (b4 : Int) (a3 : Int) : Nat → (List Action) → Int → Option (List Action)
 | 0, _, _ => none
 | m11 + 1, l9, i10 => (bif (decide (i10 < n5)) then (lget l9 (IntKind.i64.wrap (b4 + i10))).bind fun e12 => (lget l9 (IntKind.i64.wrap (a3 + i10))).bind fun e13 => (lget l9 (IntKind.i64.wrap (a3 + i10))).bind fun e14 => (lget (List.set l9 (IntKind.i64.wrap (a3 + i10)).toNat e12) (IntKind.i64.wrap (b4 + i10))).bind fun e15 => (Z8j n5 b4 a3 m11) (List.set (List.set l9 (IntKind.i64.wrap (a3 + i10)).toNat e12) (IntKind.i64.wrap (b4 + i10)).toNat e13) (IntKind.i64.wrap (i10 + 1)) else some l9)
def Zb4 (data1 : (List Action)) (a3 : Int) (b4 : Int) (n5 : Int) (cmp6 : (Action → Action → Option Int)) : Option (List Action) :=
 Z8j n5 b4 a3 (((n5 : Int) - 0).toNat + 1) data1 0
theorem Zpx (v2 : Value) (data1 : (List Action)) (a3 : Int) (b4 : Int) (n5 : Int) (cmp6 : (Action → Action → Option Int)) (r : (List Action)) (h : Zb4 data1 a3 b4 n5 cmp6 = some r) : Con Tryz.prog 343 [Zc v2, rd (Z0 .i64) a3, rd (Z0 .i64) b4, rd (Z0 .i64) n5, fn2 Tryz.prog Z5 Z5 (Z0 .i64) cmp6] (Za v2 121 Z5 data1) (fun _ : Unit => top) (fun _ => Za v2 121 Z5 r) := by
 refine Con.intro Tryz.func343 rfl Tryz.ntmps343 rfl fun w H X => ?_
 unfold Zb4 at h
 refine SR <| Ak rfl <| Nl <| AW.block <| AW.loopG (d := []) (ν := Nat × (List Action) × Int) (fun n => True ∧ Z8j n5 b4 a3 n.1 n.2.1 n.2.2 = some r) (fun n => n.1) (fun n => [(0, Zc v2), (1, rd (Z0 .i64) a3), (2, rd (Z0 .i64) b4), (3, rd (Z0 .i64) n5), (10, rd (Z0 .i64) n.2.2)]) (fun n => [(0, Za v2 121 Z5 n.2.1)]) ((((n5 : Int) - 0).toNat + 1), data1, 0) ⟨trivial, h⟩ ⟨rfl, ⟨rfl, rfl, rfl, rfl, rfl, trivial⟩, ⟨rfl, trivial⟩⟩ ?_
 rintro ⟨m11, l9, i10⟩ ⟨hsf1, h⟩
 change True at hsf1
 change Z8j n5 b4 a3 m11 l9 i10 = some r at h
 change AW _ _ _ ⟨Zw [(0, Zc v2), (1, rd (Z0 .i64) a3), (2, rd (Z0 .i64) b4), (3, rd (Z0 .i64) n5), (10, rd (Z0 .i64) i10)], Zx [(0, Za v2 121 Z5 l9)], _⟩
 cases m11 with
 | zero => cases h
 | succ m11 =>
  unfold Z8j at h
  generalize hgo1 : Z8j n5 b4 a3 m11 = go1 at h
  refine AW.seq <| SR <| Md rfl <| Md rfl <| Ac (Zl rfl rfl (vt rfl) (vt rfl)) rfl <| Nl <| Cn rfl (fun hc => ?_) (fun hc => ?_)
  ·have h := Ze hc h
   refine AW.skip <| AW.seq <| AW.block <| AW.vlen 0 rfl fun hvl0_127 => ?_
   obtain ⟨e12, he12, h⟩ := Z1 h
   obtain ⟨e13, he13, h⟩ := Z1 h
   obtain ⟨e14, he14, h⟩ := Z1 h
   obtain ⟨e15, he15, h⟩ := Z1 h
   refine AW.regionAny [⟨[0], [16], [], []⟩, ⟨[1], [17], [], []⟩, ⟨[10], [18], [], []⟩, ⟨[17, 18], [19], [], []⟩, ⟨[0], [20], [], []⟩, ⟨[2], [21], [], []⟩, ⟨[10], [22], [], []⟩, ⟨[21, 22], [23], [], []⟩, ⟨[0], [24], [], []⟩, ⟨[2], [25], [], []⟩, ⟨[10], [26], [], []⟩, ⟨[25, 26], [27], [], []⟩, ⟨[24, 27], [28], [], []⟩, ⟨[28], [29], [0], []⟩, ⟨[0], [30], [], []⟩, ⟨[1], [31], [], []⟩, ⟨[10], [32], [], []⟩, ⟨[31, 32], [33], [], []⟩, ⟨[30, 33], [34], [], []⟩, ⟨[34], [35], [0], []⟩, ⟨[16, 19], [36], [], []⟩, ⟨[36, 29], [], [0], [0]⟩, ⟨[20, 23], [37], [], []⟩, ⟨[37, 35], [], [0], [0]⟩] Z06 (by kernel_rfl) <| SMw rfl <| Zu rfl <| Zu rfl <| Sc (lo [17, 18] [] rfl fun S hs hr => Z08 rfl rfl (vh hs 17 rfl rfl) (vh hs 18 rfl rfl)) rfl <| SMw rfl <| Zu rfl <| Zu rfl <| Sc (lo [21, 22] [] rfl fun S hs hr => Z08 rfl rfl (vh hs 21 rfl rfl) (vh hs 22 rfl rfl)) rfl <| SMw rfl <| Zu rfl <| Zu rfl <| Sc (lo [25, 26] [] rfl fun S hs hr => Z08 rfl rfl (vh hs 25 rfl rfl) (vh hs 26 rfl rfl)) rfl <| Sc (lo [24, 27] [] rfl fun S hs hr => Z1z (l := l9) hvl0_127 rfl rfl rfl Z0b (vh hs 24 rfl rfl) (vh hs 27 rfl rfl) he12) rfl <| Sc (lo [28] [0] rfl fun S hs hr => Z1d 0 rfl rfl Z0m (vh hs 28 rfl rfl) ((hr 0 rfl).trans rfl) (Z0g he12).2) rfl <| SMw rfl <| Zu rfl <| Zu rfl <| Sc (lo [31, 32] [] rfl fun S hs hr => Z08 rfl rfl (vh hs 31 rfl rfl) (vh hs 32 rfl rfl)) rfl <| Sc (lo [30, 33] [] rfl fun S hs hr => Z1z (l := l9) hvl0_127 rfl rfl rfl Z0b (vh hs 30 rfl rfl) (vh hs 33 rfl rfl) he13) rfl <| Sc (lo [34] [0] rfl fun S hs hr => Z1d 0 rfl rfl Z0m (vh hs 34 rfl rfl) ((hr 0 rfl).trans rfl) (Z0g he13).2) rfl <| Sc (lo [16, 19] [] rfl fun S hs hr => Z1z (l := l9) hvl0_127 rfl rfl rfl Z0b (vh hs 16 rfl rfl) (vh hs 19 rfl rfl) he14) rfl <| Sc (Z3l [36, 29] [0] rfl fun S hs hr => Z28 0 rfl rfl Z0m (vh hs 36 rfl rfl) ((hr 0 rfl).trans rfl) (Z0g he14).2 (vh hs 29 rfl rfl)) rfl <| Sc (lo [20, 23] [] rfl fun S hs hr => Z1z (l := (List.set l9 (IntKind.i64.wrap (a3 + i10)).toNat e12)) hvl0_127 (by simp) rfl rfl Z0b (vh hs 20 rfl rfl) (vh hs 23 rfl rfl) he15) rfl <| Sc (Z3l [37, 35] [0] rfl fun S hs hr => Z28 0 rfl rfl Z0m (vh hs 37 rfl rfl) ((hr 0 rfl).trans rfl) (Z0g he15).2 (vh hs 35 rfl rfl)) rfl <| Rg <| Md rfl <| Ac (Z08 rfl rfl (vt rfl) (vk rfl)) rfl <| As rfl <| Nl ?_
   subst hgo1
   exact ⟨(m11, (List.set (List.set l9 (IntKind.i64.wrap (a3 + i10)).toNat e12) (IntKind.i64.wrap (b4 + i10)).toNat e13), (IntKind.i64.wrap (i10 + 1))), Nat.lt_succ_self _, ⟨trivial, h⟩, ⟨rfl, ⟨rfl, rfl, rfl, rfl, rfl, trivial⟩, ⟨rfl, trivial⟩⟩⟩
  ·have h := Zf hc h
   refine AW.exit ?_
   obtain rfl := si h
   exact Z2n (i := 0) Tryz.results343 rfl rfl
def Z7r (m4 : Int) (cmp6 : (Action → Action → Option Int)) : Nat → (List Action) → Int → Int → Option (List Action)
 | 0, _, _, _ => none
 | m13 + 1, l10, i11, j12 => (bif (decide (i11 ≠ j12)) then (bif (decide (i11 > j12)) then (Zb4 l10 (IntKind.i64.wrap (m4 - i11)) m4 j12 cmp6).bind fun l14 => (Z7r m4 cmp6 m13) l14 (IntKind.i64.wrap (i11 - j12)) j12 else (Zb4 l10 (IntKind.i64.wrap (m4 - i11)) (IntKind.i64.wrap ((IntKind.i64.wrap (m4 + j12)) - i11)) i11 cmp6).bind fun l15 => (Z7r m4 cmp6 m13) l15 i11 (IntKind.i64.wrap (j12 - i11))) else (Zb4 l10 (IntKind.i64.wrap (m4 - i11)) m4 i11 cmp6).bind fun l16 => some l16)
def Zeh (data1 : (List Action)) (a3 : Int) (m4 : Int) (b5 : Int) (cmp6 : (Action → Action → Option Int)) : Option (List Action) :=
 Z7r m4 cmp6 Z0x data1 (IntKind.i64.wrap (m4 - a3)) (IntKind.i64.wrap (b5 - m4))
theorem Y3n (v2 : Value) (data1 : (List Action)) (a3 : Int) (m4 : Int) (b5 : Int) (cmp6 : (Action → Action → Option Int)) (r : (List Action)) (h : Zeh data1 a3 m4 b5 cmp6 = some r) : Con Tryz.prog 335 [Zc v2, rd (Z0 .i64) a3, rd (Z0 .i64) m4, rd (Z0 .i64) b5, fn2 Tryz.prog Z5 Z5 (Z0 .i64) cmp6] (Za v2 121 Z5 data1) (fun _ : Unit => top) (fun _ => Za v2 121 Z5 r) := by
 refine Con.intro Tryz.func335 rfl Tryz.ntmps335 rfl fun w H X => ?_
 unfold Zeh at h
 refine SR <| Md rfl <| Md rfl <| Ac (Z0n rfl rfl (vt rfl) (vt rfl)) rfl <| As rfl <| Nl <| SR <| Md rfl <| Md rfl <| Ac (Z0n rfl rfl (vt rfl) (vt rfl)) rfl <| As rfl <| Nl <| AW.seq <| AW.block <| AW.loopG (d := []) (ν := Nat × (List Action) × Int × Int) (fun n => True ∧ Z7r m4 cmp6 n.1 n.2.1 n.2.2.1 n.2.2.2 = some r) (fun n => n.1) (fun n => [(0, Zc v2), (2, rd (Z0 .i64) m4), (4, fn2 Tryz.prog Z5 Z5 (Z0 .i64) cmp6), (10, rd (Z0 .i64) n.2.2.1), (11, rd (Z0 .i64) n.2.2.2)]) (fun n => [(0, Za v2 121 Z5 n.2.1)]) (Z0x, data1, (IntKind.i64.wrap (m4 - a3)), (IntKind.i64.wrap (b5 - m4))) ⟨trivial, h⟩ ⟨rfl, ⟨rfl, rfl, rfl, rfl, rfl, trivial⟩, ⟨rfl, trivial⟩⟩ ?_
 rintro ⟨m13, l10, i11, j12⟩ ⟨hsf1, h⟩
 change True at hsf1
 change Z7r m4 cmp6 m13 l10 i11 j12 = some r at h
 change AW _ _ _ ⟨Zw [(0, Zc v2), (2, rd (Z0 .i64) m4), (4, fn2 Tryz.prog Z5 Z5 (Z0 .i64) cmp6), (10, rd (Z0 .i64) i11), (11, rd (Z0 .i64) j12)], Zx [(0, Za v2 121 Z5 l10)], _⟩
 cases m13 with
 | zero => cases h
 | succ m13 =>
  unfold Z7r at h
  generalize hgo1 : Z7r m4 cmp6 m13 = go1 at h
  refine AW.seq <| SR <| Md rfl <| Md rfl <| Ac (Z5l rfl rfl (vt rfl) (vt rfl)) rfl <| Nl <| Cn rfl (fun hc => ?_) (fun hc => ?_)
  ·have h := Ze hc h
   refine AW.skip <| AW.block <| SR <| Md rfl <| Md rfl <| Ac (Z3b rfl rfl (vt rfl) (vt rfl)) rfl <| Nl <| Cn rfl (fun hc => ?_) (fun hc => ?_)
   ·have h := Ze hc h
    refine AW.seq ?_
    obtain ⟨l14, hl14, h⟩ := Z1 h
    refine Rg <| Mw rfl <| Md rfl <| Md rfl <| Ac (Z0n rfl rfl (vt rfl) (vt rfl)) rfl <| Md rfl <| Md rfl <| Ac (Zs (A := fn2 Tryz.prog Z5 Z5 (Z0 .i64) cmp6) rfl rfl (vt rfl)) rfl <| Ct rfl (Z1k 0 (xs := [.tmp 24, .tmp 27, .tmp 28, .tmp 29, .tmp 30]) (Zpx _ _ _ _ _ _ _ hl14) Zqf rfl rfl ⟨vt rfl, vt rfl, vt rfl, vt rfl, vt rfl, trivial⟩ rfl) ?_
    rintro _ ⟨_u, rfl⟩
    refine Nl <| Rg <| Md rfl <| Md rfl <| Ac (Z0n rfl rfl (vt rfl) (vt rfl)) rfl <| As rfl <| Nl ?_
    subst hgo1
    exact ⟨(m13, l14, (IntKind.i64.wrap (i11 - j12)), j12), Nat.lt_succ_self _, ⟨trivial, h⟩, ⟨rfl, ⟨rfl, rfl, rfl, rfl, rfl, trivial⟩, ⟨rfl, trivial⟩⟩⟩
   ·have h := Zf hc h
    refine AW.seq ?_
    obtain ⟨l15, hl15, h⟩ := Z1 h
    refine Rg <| Mw rfl <| Md rfl <| Md rfl <| Ac (Z0n rfl rfl (vt rfl) (vt rfl)) rfl <| Md rfl <| Md rfl <| Ac (Z08 rfl rfl (vt rfl) (vt rfl)) rfl <| Md rfl <| Ac (Z0n rfl rfl (vt rfl) (vt rfl)) rfl <| Md rfl <| Ac (Zs (A := fn2 Tryz.prog Z5 Z5 (Z0 .i64) cmp6) rfl rfl (vt rfl)) rfl <| Ct rfl (Z1k 0 (xs := [.tmp 35, .tmp 38, .tmp 43, .tmp 44, .tmp 45]) (Zpx _ _ _ _ _ _ _ hl15) Zqf rfl rfl ⟨vt rfl, vt rfl, vt rfl, vt rfl, vt rfl, trivial⟩ rfl) ?_
    rintro _ ⟨_u, rfl⟩
    refine Nl <| Rg <| Md rfl <| Md rfl <| Ac (Z0n rfl rfl (vt rfl) (vt rfl)) rfl <| As rfl <| Nl ?_
    subst hgo1
    exact ⟨(m13, l15, i11, (IntKind.i64.wrap (j12 - i11))), Nat.lt_succ_self _, ⟨trivial, h⟩, ⟨rfl, ⟨rfl, rfl, rfl, rfl, rfl, trivial⟩, ⟨rfl, trivial⟩⟩⟩
  ·have h := Zf hc h
   refine AW.exit ?_
   obtain ⟨l16, hl16, h⟩ := Z1 h
   refine Rg <| Mw rfl <| Md rfl <| Md rfl <| Ac (Z0n rfl rfl (vt rfl) (vt rfl)) rfl <| Md rfl <| Md rfl <| Ac (Zs (A := fn2 Tryz.prog Z5 Z5 (Z0 .i64) cmp6) rfl rfl (vt rfl)) rfl <| Ct rfl (Z1k 0 (xs := [.tmp 50, .tmp 53, .tmp 54, .tmp 55, .tmp 56]) (Zpx _ _ _ _ _ _ _ hl16) Zqf rfl rfl ⟨vt rfl, vt rfl, vt rfl, vt rfl, vt rfl, trivial⟩ rfl) ?_
   rintro _ ⟨_u, rfl⟩
   refine Nl ?_
   obtain rfl := si h
   exact Z2n (i := 0) Tryz.results335 rfl rfl
def Z6h (i9 : Int) : Nat → (List Action) → Int → Option (List Action)
 | 0, _, _ => none
 | m20 + 1, l18, k19 => (bif (decide (k19 < (IntKind.i64.wrap (i9 - 1)))) then (lget l18 (IntKind.i64.wrap (k19 + 1))).bind fun e21 => (lget l18 k19).bind fun e22 => (lget l18 k19).bind fun e23 => (lget (List.set l18 k19.toNat e21) (IntKind.i64.wrap (k19 + 1))).bind fun e24 => (Z6h i9 m20) (List.set (List.set l18 k19.toNat e21) (IntKind.i64.wrap (k19 + 1)).toNat e22) (IntKind.i64.wrap (k19 + 1)) else some l18)
def Z6e (data1 : (List Action)) (a3 : Int) (cmp6 : (Action → Action → Option Int)) : Nat → Int → Int → Option (List Action)
 | 0, _, _ => none
 | m11 + 1, i9, j10 => (bif (decide (i9 < j10)) then (Z33 (BitVec.ofInt 64 (IntKind.i64.wrap (i9 + j10))) ((1 : BitVec 64).toNat : Int)).bind fun q12 => (lget data1 (IntKind.i64.wrap (q12.toNat : Int))).bind fun e13 => (lget data1 a3).bind fun e14 => (cmp6 e13 e14).bind fun x15 => (bif (decide (x15 < 0)) then (Z6e data1 a3 cmp6 m11) (IntKind.i64.wrap ((IntKind.i64.wrap (q12.toNat : Int)) + 1)) j10 else (Z6e data1 a3 cmp6 m11) i9 (IntKind.i64.wrap (q12.toNat : Int))) else Z6h i9 ((((IntKind.i64.wrap (i9 - 1)) : Int) - a3).toNat + 1) data1 a3)
def Z68 (i27 : Int) : Nat → (List Action) → Int → Option (List Action)
 | 0, _, _ => none
 | m38 + 1, l36, k37 => (bif (decide (k37 > i27)) then (lget l36 (IntKind.i64.wrap (k37 - 1))).bind fun e39 => (lget l36 k37).bind fun e40 => (lget l36 k37).bind fun e41 => (lget (List.set l36 k37.toNat e39) (IntKind.i64.wrap (k37 - 1))).bind fun e42 => (Z68 i27 m38) (List.set (List.set l36 k37.toNat e39) (IntKind.i64.wrap (k37 - 1)).toNat e40) (IntKind.i64.wrap (k37 - 1)) else some l36)
def Z66 (data1 : (List Action)) (m4 : Int) (cmp6 : (Action → Action → Option Int)) : Nat → Int → Int → Option (List Action)
 | 0, _, _ => none
 | m29 + 1, i27, j28 => (bif (decide (i27 < j28)) then (Z33 (BitVec.ofInt 64 (IntKind.i64.wrap (i27 + j28))) ((1 : BitVec 64).toNat : Int)).bind fun q30 => (lget data1 m4).bind fun e31 => (lget data1 (IntKind.i64.wrap (q30.toNat : Int))).bind fun e32 => (cmp6 e31 e32).bind fun x33 => (bif (!(decide (x33 < 0))) then (Z66 data1 m4 cmp6 m29) (IntKind.i64.wrap ((IntKind.i64.wrap (q30.toNat : Int)) + 1)) j28 else (Z66 data1 m4 cmp6 m29) i27 (IntKind.i64.wrap (q30.toNat : Int))) else Z68 i27 (((m4 : Int) - i27).toNat + 1) data1 m4)
def Zdj (q43 : (BitVec 64)) (m4 : Int) (start48 : Int) (b5 : Int) (R_slices_symMergeCmpFunc_Action : ((List Action) → Int → Int → Int → (Action → Action → Option Int) → Option (List Action))) (cmp6 : (Action → Action → Option Int)) (l56 : (List Action)) : Option (List Action) :=
 (bif ((decide ((IntKind.i64.wrap (q43.toNat : Int)) < (IntKind.i64.wrap ((IntKind.i64.wrap ((IntKind.i64.wrap (q43.toNat : Int)) + m4)) - start48)))) && (decide ((IntKind.i64.wrap ((IntKind.i64.wrap ((IntKind.i64.wrap (q43.toNat : Int)) + m4)) - start48)) < b5))) then (R_slices_symMergeCmpFunc_Action l56 (IntKind.i64.wrap (q43.toNat : Int)) (IntKind.i64.wrap ((IntKind.i64.wrap ((IntKind.i64.wrap (q43.toNat : Int)) + m4)) - start48)) b5 cmp6).bind fun l57 => some l57 else some l56)
def Zav (a3 : Int) (start48 : Int) (q43 : (BitVec 64)) (R_slices_symMergeCmpFunc_Action : ((List Action) → Int → Int → Int → (Action → Action → Option Int) → Option (List Action))) (cmp6 : (Action → Action → Option Int)) (m4 : Int) (b5 : Int) (l55 : (List Action)) : Option (List Action) :=
 (bif ((decide (a3 < start48)) && (decide (start48 < (IntKind.i64.wrap (q43.toNat : Int))))) then (R_slices_symMergeCmpFunc_Action l55 a3 start48 (IntKind.i64.wrap (q43.toNat : Int)) cmp6).bind fun l58 => Zdj q43 m4 start48 b5 R_slices_symMergeCmpFunc_Action cmp6 l58 else Zdj q43 m4 start48 b5 R_slices_symMergeCmpFunc_Action cmp6 l55)
def Z7m (data1 : (List Action)) (q43 : (BitVec 64)) (m4 : Int) (cmp6 : (Action → Action → Option Int)) (a3 : Int) (R_slices_symMergeCmpFunc_Action : ((List Action) → Int → Int → Int → (Action → Action → Option Int) → Option (List Action))) (b5 : Int) : Nat → Int → Int → Option (List Action)
 | 0, _, _ => none
 | m50 + 1, start48, r49 => (bif (decide (start48 < r49)) then (Z33 (BitVec.ofInt 64 (IntKind.i64.wrap (start48 + r49))) ((1 : BitVec 64).toNat : Int)).bind fun q51 => (lget data1 (IntKind.i64.wrap ((IntKind.i64.wrap ((IntKind.i64.wrap ((IntKind.i64.wrap (q43.toNat : Int)) + m4)) - 1)) - (IntKind.i64.wrap (q51.toNat : Int))))).bind fun e52 => (lget data1 (IntKind.i64.wrap (q51.toNat : Int))).bind fun e53 => (cmp6 e52 e53).bind fun x54 => (bif (!(decide (x54 < 0))) then (Z7m data1 q43 m4 cmp6 a3 R_slices_symMergeCmpFunc_Action b5 m50) (IntKind.i64.wrap ((IntKind.i64.wrap (q51.toNat : Int)) + 1)) r49 else (Z7m data1 q43 m4 cmp6 a3 R_slices_symMergeCmpFunc_Action b5 m50) start48 (IntKind.i64.wrap (q51.toNat : Int))) else (bif ((decide (start48 < m4)) && (decide (m4 < (IntKind.i64.wrap ((IntKind.i64.wrap ((IntKind.i64.wrap (q43.toNat : Int)) + m4)) - start48))))) then (Zeh data1 start48 m4 (IntKind.i64.wrap ((IntKind.i64.wrap ((IntKind.i64.wrap (q43.toNat : Int)) + m4)) - start48)) cmp6).bind fun l59 => Zav a3 start48 q43 R_slices_symMergeCmpFunc_Action cmp6 m4 b5 l59 else Zav a3 start48 q43 R_slices_symMergeCmpFunc_Action cmp6 m4 b5 data1))
def Zd6 (data1 : (List Action)) (q43 : (BitVec 64)) (m4 : Int) (cmp6 : (Action → Action → Option Int)) (a3 : Int) (R_slices_symMergeCmpFunc_Action : ((List Action) → Int → Int → Int → (Action → Action → Option Int) → Option (List Action))) (b5 : Int) (start44 : Int) (r45 : Int) : Option (List Action) :=
 Z7m data1 q43 m4 cmp6 a3 R_slices_symMergeCmpFunc_Action b5 (((r45 : Int) - start44).toNat + 1) start44 r45
def Zih (R_slices_symMergeCmpFunc_Action : ((List Action) → Int → Int → Int → (Action → Action → Option Int) → Option (List Action))) (data1 : (List Action)) (a3 : Int) (m4 : Int) (b5 : Int) (cmp6 : (Action → Action → Option Int)) : Option (List Action) :=
 (bif (decide ((IntKind.i64.wrap (m4 - a3)) = 1)) then Z6e data1 a3 cmp6 (((b5 : Int) - m4).toNat + 1) m4 b5 else (bif (decide ((IntKind.i64.wrap (b5 - m4)) = 1)) then Z66 data1 m4 cmp6 (((m4 : Int) - a3).toNat + 1) a3 m4 else (Z33 (BitVec.ofInt 64 (IntKind.i64.wrap (a3 + b5))) ((1 : BitVec 64).toNat : Int)).bind fun q43 => (bif (decide (m4 > (IntKind.i64.wrap (q43.toNat : Int)))) then Zd6 data1 q43 m4 cmp6 a3 R_slices_symMergeCmpFunc_Action b5 (IntKind.i64.wrap ((IntKind.i64.wrap ((IntKind.i64.wrap (q43.toNat : Int)) + m4)) - b5)) (IntKind.i64.wrap (q43.toNat : Int)) else Zd6 data1 q43 m4 cmp6 a3 R_slices_symMergeCmpFunc_Action b5 a3 m4)))
theorem Ych (R_slices_symMergeCmpFunc_Action : ((List Action) → Int → Int → Int → (Action → Action → Option Int) → Option (List Action))) (hR_slices_symMergeCmpFunc_Action : ∀ (v2 : Value) (data1 : (List Action)) (a3 : Int) (m4 : Int) (b5 : Int) (cmp6 : (Action → Action → Option Int)) (r : (List Action)), R_slices_symMergeCmpFunc_Action data1 a3 m4 b5 cmp6 = some r → Con Tryz.prog 311 [Zc v2, rd (Z0 .i64) a3, rd (Z0 .i64) m4, rd (Z0 .i64) b5, fn2 Tryz.prog Z5 Z5 (Z0 .i64) cmp6] (Za v2 121 Z5 data1) (fun _ : Unit => top) (fun _ => Za v2 121 Z5 r)) (v2 : Value) (data1 : (List Action)) (a3 : Int) (m4 : Int) (b5 : Int) (cmp6 : (Action → Action → Option Int)) (r : (List Action)) (h : Zih R_slices_symMergeCmpFunc_Action data1 a3 m4 b5 cmp6 = some r) : Con Tryz.prog 311 [Zc v2, rd (Z0 .i64) a3, rd (Z0 .i64) m4, rd (Z0 .i64) b5, fn2 Tryz.prog Z5 Z5 (Z0 .i64) cmp6] (Za v2 121 Z5 data1) (fun _ : Unit => top) (fun _ => Za v2 121 Z5 r) := by
 refine Con.intro Tryz.func311 rfl Tryz.ntmps311 rfl fun w H X => ?_
 unfold Zih at h
 refine AW.seq <| SR <| Md rfl <| Md rfl <| Ac (Z0n rfl rfl (vt rfl) (vt rfl)) rfl <| Ac (Z0i rfl rfl (vt rfl) (vk rfl)) rfl <| Nl <| Cn rfl (fun hc => ?_) (fun hc => ?_)
 ·have h := Ze hc h
  refine SR <| Md rfl <| As rfl <| Nl <| SR <| Md rfl <| As rfl <| Nl <| AW.seq <| AW.block <| AW.loopG (d := []) (ν := Nat × Int × Int) (fun n => True ∧ Z6e data1 a3 cmp6 n.1 n.2.1 n.2.2 = some r) (fun n => n.1) (fun n => [(0, Zc v2), (1, rd (Z0 .i64) a3), (4, fn2 Tryz.prog Z5 Z5 (Z0 .i64) cmp6), (10, rd (Z0 .i64) n.2.1), (11, rd (Z0 .i64) n.2.2)]) (fun n => [(0, Za v2 121 Z5 data1)]) ((((b5 : Int) - m4).toNat + 1), m4, b5) ⟨trivial, h⟩ ⟨rfl, ⟨rfl, rfl, rfl, rfl, rfl, trivial⟩, ⟨rfl, trivial⟩⟩ ?_
  rintro ⟨m11, i9, j10⟩ ⟨hsf1, h⟩
  change True at hsf1
  change Z6e data1 a3 cmp6 m11 i9 j10 = some r at h
  change AW _ _ _ ⟨Zw [(0, Zc v2), (1, rd (Z0 .i64) a3), (4, fn2 Tryz.prog Z5 Z5 (Z0 .i64) cmp6), (10, rd (Z0 .i64) i9), (11, rd (Z0 .i64) j10)], Zx [(0, Za v2 121 Z5 data1)], _⟩
  cases m11 with
  | zero => cases h
  | succ m11 =>
   unfold Z6e at h
   generalize hgo1 : Z6e data1 a3 cmp6 m11 = go1 at h
   refine AW.seq <| SR <| Md rfl <| Md rfl <| Ac (Zl rfl rfl (vt rfl) (vt rfl)) rfl <| Nl <| Cn rfl (fun hc => ?_) (fun hc => ?_)
   ·have h := Ze hc h
    refine AW.skip <| AW.block <| AW.seq ?_
    obtain ⟨q12, hq12, h⟩ := Z1 h
    refine Rg <| Md rfl <| Md rfl <| Ac (Z08 rfl rfl (vt rfl) (vt rfl)) rfl <| Ac (Z7l rfl rfl us3 Z6j (vt rfl)) rfl <| Ac (Z4n rfl rfl (vt rfl) (Z49 (vku (1 : BitVec 64) rfl)) hq12) rfl <| Ac (Z92 rfl rfl Z9t un3 (vt rfl)) rfl <| As rfl <| Nl <| AW.seq ?_
    obtain ⟨e13, he13, h⟩ := Z1 h
    obtain ⟨e14, he14, h⟩ := Z1 h
    obtain ⟨x15, hx15, h⟩ := Z1 h
    refine AW.regionAny [⟨[4], [40], [], []⟩, ⟨[0], [41], [], []⟩, ⟨[12], [42], [], []⟩, ⟨[41, 42], [43], [0], []⟩, ⟨[43], [44], [0], []⟩, ⟨[0], [45], [], []⟩, ⟨[1], [46], [], []⟩, ⟨[45, 46], [47], [0], []⟩, ⟨[47], [48], [0], []⟩, ⟨[40, 44, 48], [49], [], []⟩, ⟨[49], [50], [], []⟩] Z06 (by kernel_rfl) <| Sc (lo [4] [] rfl fun S hs hr => Zs (A := fn2 Tryz.prog Z5 Z5 (Z0 .i64) cmp6) rfl rfl (vh hs 4 rfl rfl)) rfl <| SMw rfl <| Zu rfl <| Sc (lo [41, 42] [0] rfl fun S hs hr => Z1o 0 rfl rfl Z0b (vh hs 41 rfl rfl) ((hr 0 rfl).trans rfl) (vh hs 42 rfl rfl) he13) rfl <| Sc (lo [43] [0] rfl fun S hs hr => Z1d 0 rfl rfl Z0m (vh hs 43 rfl rfl) ((hr 0 rfl).trans rfl) (Z0g he13).2) rfl <| SMw rfl <| Zu rfl <| Sc (lo [45, 46] [0] rfl fun S hs hr => Z1o 0 rfl rfl Z0b (vh hs 45 rfl rfl) ((hr 0 rfl).trans rfl) (vh hs 46 rfl rfl) he14) rfl <| Sc (lo [47] [0] rfl fun S hs hr => Z1d 0 rfl rfl Z0m (vh hs 47 rfl rfl) ((hr 0 rfl).trans rfl) (Z0g he14).2) rfl <| Sc (lo [40, 44, 48] [] rfl fun S hs hr => Z57 hx15 rfl rfl (vh hs 40 rfl rfl) (vh hs 44 rfl rfl) (vh hs 48 rfl rfl)) rfl <| Sc (lo [49] [] rfl fun S hs hr => Zl rfl rfl (vh hs 49 rfl rfl) (vk rfl)) rfl <| Cn rfl (fun hc => ?_) (fun hc => ?_)
    ·have h := Ze hc h
     refine Rg <| Md rfl <| Ac (Z08 rfl rfl (vt rfl) (vk rfl)) rfl <| As rfl <| Nl ?_
     subst hgo1
     exact ⟨(m11, (IntKind.i64.wrap ((IntKind.i64.wrap (q12.toNat : Int)) + 1)), j10), Nat.lt_succ_self _, ⟨trivial, h⟩, ⟨rfl, ⟨rfl, rfl, rfl, rfl, rfl, trivial⟩, ⟨rfl, trivial⟩⟩⟩
    ·have h := Zf hc h
     refine Rg <| Md rfl <| As rfl <| Nl ?_
     subst hgo1
     exact ⟨(m11, i9, (IntKind.i64.wrap (q12.toNat : Int))), Nat.lt_succ_self _, ⟨trivial, h⟩, ⟨rfl, ⟨rfl, rfl, rfl, rfl, rfl, trivial⟩, ⟨rfl, trivial⟩⟩⟩
   ·have h := Zf hc h
    refine AW.exit <| AW.seq <| SR <| Md rfl <| As rfl <| Nl <| AW.block <| AW.loopG (d := []) (ν := Nat × (List Action) × Int) (fun n => True ∧ Z6h i9 n.1 n.2.1 n.2.2 = some r) (fun n => n.1) (fun n => [(0, Zc v2), (10, rd (Z0 .i64) i9), (13, rd (Z0 .i64) n.2.2)]) (fun n => [(0, Za v2 121 Z5 n.2.1)]) (((((IntKind.i64.wrap (i9 - 1)) : Int) - a3).toNat + 1), data1, a3) ⟨trivial, h⟩ ⟨rfl, ⟨rfl, rfl, rfl, trivial⟩, ⟨rfl, trivial⟩⟩ ?_
    rintro ⟨m20, l18, k19⟩ ⟨hsf2, h⟩
    change True at hsf2
    change Z6h i9 m20 l18 k19 = some r at h
    change AW _ _ _ ⟨Zw [(0, Zc v2), (10, rd (Z0 .i64) i9), (13, rd (Z0 .i64) k19)], Zx [(0, Za v2 121 Z5 l18)], _⟩
    cases m20 with
    | zero => cases h
    | succ m20 =>
     unfold Z6h at h
     generalize hgo2 : Z6h i9 m20 = go2 at h
     refine AW.seq <| SR <| Md rfl <| Md rfl <| Ac (Z0n rfl rfl (vt rfl) (vk rfl)) rfl <| Ac (Zl rfl rfl (vt rfl) (vt rfl)) rfl <| Nl <| Cn rfl (fun hc => ?_) (fun hc => ?_)
     ·have h := Ze hc h
      refine AW.skip <| AW.seq <| AW.block <| AW.vlen 0 rfl fun hvl0_218 => ?_
      obtain ⟨e21, he21, h⟩ := Z1 h
      obtain ⟨e22, he22, h⟩ := Z1 h
      obtain ⟨e23, he23, h⟩ := Z1 h
      obtain ⟨e24, he24, h⟩ := Z1 h
      refine AW.regionAny [⟨[0], [61], [], []⟩, ⟨[13], [62], [], []⟩, ⟨[0], [63], [], []⟩, ⟨[13], [64], [], []⟩, ⟨[64], [65], [], []⟩, ⟨[0], [66], [], []⟩, ⟨[13], [67], [], []⟩, ⟨[67], [68], [], []⟩, ⟨[66, 68], [69], [], []⟩, ⟨[69], [70], [0], []⟩, ⟨[0], [71], [], []⟩, ⟨[13], [72], [], []⟩, ⟨[71, 72], [73], [], []⟩, ⟨[73], [74], [0], []⟩, ⟨[61, 62], [75], [], []⟩, ⟨[75, 70], [], [0], [0]⟩, ⟨[63, 65], [76], [], []⟩, ⟨[76, 74], [], [0], [0]⟩] Z06 (by kernel_rfl) <| SMw rfl <| Zu rfl <| SMw rfl <| Zu rfl <| Sc (lo [64] [] rfl fun S hs hr => Z08 rfl rfl (vh hs 64 rfl rfl) (vk rfl)) rfl <| SMw rfl <| Zu rfl <| Sc (lo [67] [] rfl fun S hs hr => Z08 rfl rfl (vh hs 67 rfl rfl) (vk rfl)) rfl <| Sc (lo [66, 68] [] rfl fun S hs hr => Z1z (l := l18) hvl0_218 rfl rfl rfl Z0b (vh hs 66 rfl rfl) (vh hs 68 rfl rfl) he21) rfl <| Sc (lo [69] [0] rfl fun S hs hr => Z1d 0 rfl rfl Z0m (vh hs 69 rfl rfl) ((hr 0 rfl).trans rfl) (Z0g he21).2) rfl <| SMw rfl <| Zu rfl <| Sc (lo [71, 72] [] rfl fun S hs hr => Z1z (l := l18) hvl0_218 rfl rfl rfl Z0b (vh hs 71 rfl rfl) (vh hs 72 rfl rfl) he22) rfl <| Sc (lo [73] [0] rfl fun S hs hr => Z1d 0 rfl rfl Z0m (vh hs 73 rfl rfl) ((hr 0 rfl).trans rfl) (Z0g he22).2) rfl <| Sc (lo [61, 62] [] rfl fun S hs hr => Z1z (l := l18) hvl0_218 rfl rfl rfl Z0b (vh hs 61 rfl rfl) (vh hs 62 rfl rfl) he23) rfl <| Sc (Z3l [75, 70] [0] rfl fun S hs hr => Z28 0 rfl rfl Z0m (vh hs 75 rfl rfl) ((hr 0 rfl).trans rfl) (Z0g he23).2 (vh hs 70 rfl rfl)) rfl <| Sc (lo [63, 65] [] rfl fun S hs hr => Z1z (l := (List.set l18 k19.toNat e21)) hvl0_218 (by simp) rfl rfl Z0b (vh hs 63 rfl rfl) (vh hs 65 rfl rfl) he24) rfl <| Sc (Z3l [76, 74] [0] rfl fun S hs hr => Z28 0 rfl rfl Z0m (vh hs 76 rfl rfl) ((hr 0 rfl).trans rfl) (Z0g he24).2 (vh hs 74 rfl rfl)) rfl <| Rg <| Md rfl <| Ac (Z08 rfl rfl (vt rfl) (vk rfl)) rfl <| As rfl <| Nl ?_
      subst hgo2
      exact ⟨(m20, (List.set (List.set l18 k19.toNat e21) (IntKind.i64.wrap (k19 + 1)).toNat e22), (IntKind.i64.wrap (k19 + 1))), Nat.lt_succ_self _, ⟨trivial, h⟩, ⟨rfl, ⟨rfl, rfl, rfl, trivial⟩, ⟨rfl, trivial⟩⟩⟩
     ·have h := Zf hc h
      refine AW.exit <| AW.ret ?_
      obtain rfl := si h
      exact Z2n (i := 0) Tryz.results311 rfl rfl
 ·have h := Zf hc h
  refine AW.skip <| AW.seq <| SR <| Md rfl <| Md rfl <| Ac (Z0n rfl rfl (vt rfl) (vt rfl)) rfl <| Ac (Z0i rfl rfl (vt rfl) (vk rfl)) rfl <| Nl <| Cn rfl (fun hc => ?_) (fun hc => ?_)
  ·have h := Ze hc h
   refine SR <| Md rfl <| As rfl <| Nl <| SR <| Md rfl <| As rfl <| Nl <| AW.seq <| AW.block <| AW.loopG (d := []) (ν := Nat × Int × Int) (fun n => True ∧ Z66 data1 m4 cmp6 n.1 n.2.1 n.2.2 = some r) (fun n => n.1) (fun n => [(0, Zc v2), (2, rd (Z0 .i64) m4), (4, fn2 Tryz.prog Z5 Z5 (Z0 .i64) cmp6), (14, rd (Z0 .i64) n.2.1), (15, rd (Z0 .i64) n.2.2)]) (fun n => [(0, Za v2 121 Z5 data1)]) ((((m4 : Int) - a3).toNat + 1), a3, m4) ⟨trivial, h⟩ ⟨rfl, ⟨rfl, rfl, rfl, rfl, rfl, trivial⟩, ⟨rfl, trivial⟩⟩ ?_
   rintro ⟨m29, i27, j28⟩ ⟨hsf3, h⟩
   change True at hsf3
   change Z66 data1 m4 cmp6 m29 i27 j28 = some r at h
   change AW _ _ _ ⟨Zw [(0, Zc v2), (2, rd (Z0 .i64) m4), (4, fn2 Tryz.prog Z5 Z5 (Z0 .i64) cmp6), (14, rd (Z0 .i64) i27), (15, rd (Z0 .i64) j28)], Zx [(0, Za v2 121 Z5 data1)], _⟩
   cases m29 with
   | zero => cases h
   | succ m29 =>
    unfold Z66 at h
    generalize hgo3 : Z66 data1 m4 cmp6 m29 = go3 at h
    refine AW.seq <| SR <| Md rfl <| Md rfl <| Ac (Zl rfl rfl (vt rfl) (vt rfl)) rfl <| Nl <| Cn rfl (fun hc => ?_) (fun hc => ?_)
    ·have h := Ze hc h
     refine AW.skip <| AW.block <| AW.seq ?_
     obtain ⟨q30, hq30, h⟩ := Z1 h
     refine Rg <| Md rfl <| Md rfl <| Ac (Z08 rfl rfl (vt rfl) (vt rfl)) rfl <| Ac (Z7l rfl rfl us3 Z6j (vt rfl)) rfl <| Ac (Z4n rfl rfl (vt rfl) (Z49 (vku (1 : BitVec 64) rfl)) hq30) rfl <| Ac (Z92 rfl rfl Z9t un3 (vt rfl)) rfl <| As rfl <| Nl <| AW.seq ?_
     obtain ⟨e31, he31, h⟩ := Z1 h
     obtain ⟨e32, he32, h⟩ := Z1 h
     obtain ⟨x33, hx33, h⟩ := Z1 h
     refine AW.regionAny [⟨[4], [92], [], []⟩, ⟨[0], [93], [], []⟩, ⟨[2], [94], [], []⟩, ⟨[93, 94], [95], [0], []⟩, ⟨[95], [96], [0], []⟩, ⟨[0], [97], [], []⟩, ⟨[16], [98], [], []⟩, ⟨[97, 98], [99], [0], []⟩, ⟨[99], [100], [0], []⟩, ⟨[92, 96, 100], [101], [], []⟩, ⟨[101], [102], [], []⟩, ⟨[102], [103], [], []⟩] Z06 (by kernel_rfl) <| Sc (lo [4] [] rfl fun S hs hr => Zs (A := fn2 Tryz.prog Z5 Z5 (Z0 .i64) cmp6) rfl rfl (vh hs 4 rfl rfl)) rfl <| SMw rfl <| Zu rfl <| Sc (lo [93, 94] [0] rfl fun S hs hr => Z1o 0 rfl rfl Z0b (vh hs 93 rfl rfl) ((hr 0 rfl).trans rfl) (vh hs 94 rfl rfl) he31) rfl <| Sc (lo [95] [0] rfl fun S hs hr => Z1d 0 rfl rfl Z0m (vh hs 95 rfl rfl) ((hr 0 rfl).trans rfl) (Z0g he31).2) rfl <| SMw rfl <| Zu rfl <| Sc (lo [97, 98] [0] rfl fun S hs hr => Z1o 0 rfl rfl Z0b (vh hs 97 rfl rfl) ((hr 0 rfl).trans rfl) (vh hs 98 rfl rfl) he32) rfl <| Sc (lo [99] [0] rfl fun S hs hr => Z1d 0 rfl rfl Z0m (vh hs 99 rfl rfl) ((hr 0 rfl).trans rfl) (Z0g he32).2) rfl <| Sc (lo [92, 96, 100] [] rfl fun S hs hr => Z57 hx33 rfl rfl (vh hs 92 rfl rfl) (vh hs 96 rfl rfl) (vh hs 100 rfl rfl)) rfl <| Sc (lo [101] [] rfl fun S hs hr => Zl rfl rfl (vh hs 101 rfl rfl) (vk rfl)) rfl <| Sc (lo [102] [] rfl fun S hs hr => Z13 rfl rfl (vh hs 102 rfl rfl)) rfl <| Cn rfl (fun hc => ?_) (fun hc => ?_)
     ·have h := Ze hc h
      refine Rg <| Md rfl <| Ac (Z08 rfl rfl (vt rfl) (vk rfl)) rfl <| As rfl <| Nl ?_
      subst hgo3
      exact ⟨(m29, (IntKind.i64.wrap ((IntKind.i64.wrap (q30.toNat : Int)) + 1)), j28), Nat.lt_succ_self _, ⟨trivial, h⟩, ⟨rfl, ⟨rfl, rfl, rfl, rfl, rfl, trivial⟩, ⟨rfl, trivial⟩⟩⟩
     ·have h := Zf hc h
      refine Rg <| Md rfl <| As rfl <| Nl ?_
      subst hgo3
      exact ⟨(m29, i27, (IntKind.i64.wrap (q30.toNat : Int))), Nat.lt_succ_self _, ⟨trivial, h⟩, ⟨rfl, ⟨rfl, rfl, rfl, rfl, rfl, trivial⟩, ⟨rfl, trivial⟩⟩⟩
    ·have h := Zf hc h
     refine AW.exit <| AW.seq <| SR <| Md rfl <| As rfl <| Nl <| AW.block <| AW.loopG (d := []) (ν := Nat × (List Action) × Int) (fun n => True ∧ Z68 i27 n.1 n.2.1 n.2.2 = some r) (fun n => n.1) (fun n => [(0, Zc v2), (14, rd (Z0 .i64) i27), (17, rd (Z0 .i64) n.2.2)]) (fun n => [(0, Za v2 121 Z5 n.2.1)]) ((((m4 : Int) - i27).toNat + 1), data1, m4) ⟨trivial, h⟩ ⟨rfl, ⟨rfl, rfl, rfl, trivial⟩, ⟨rfl, trivial⟩⟩ ?_
     rintro ⟨m38, l36, k37⟩ ⟨hsf4, h⟩
     change True at hsf4
     change Z68 i27 m38 l36 k37 = some r at h
     change AW _ _ _ ⟨Zw [(0, Zc v2), (14, rd (Z0 .i64) i27), (17, rd (Z0 .i64) k37)], Zx [(0, Za v2 121 Z5 l36)], _⟩
     cases m38 with
     | zero => cases h
     | succ m38 =>
      unfold Z68 at h
      generalize hgo4 : Z68 i27 m38 = go4 at h
      refine AW.seq <| SR <| Md rfl <| Md rfl <| Ac (Z3b rfl rfl (vt rfl) (vt rfl)) rfl <| Nl <| Cn rfl (fun hc => ?_) (fun hc => ?_)
      ·have h := Ze hc h
       refine AW.skip <| AW.seq <| AW.block <| AW.vlen 0 rfl fun hvl0_474 => ?_
       obtain ⟨e39, he39, h⟩ := Z1 h
       obtain ⟨e40, he40, h⟩ := Z1 h
       obtain ⟨e41, he41, h⟩ := Z1 h
       obtain ⟨e42, he42, h⟩ := Z1 h
       refine AW.regionAny [⟨[0], [113], [], []⟩, ⟨[17], [114], [], []⟩, ⟨[0], [115], [], []⟩, ⟨[17], [116], [], []⟩, ⟨[116], [117], [], []⟩, ⟨[0], [118], [], []⟩, ⟨[17], [119], [], []⟩, ⟨[119], [120], [], []⟩, ⟨[118, 120], [121], [], []⟩, ⟨[121], [122], [0], []⟩, ⟨[0], [123], [], []⟩, ⟨[17], [124], [], []⟩, ⟨[123, 124], [125], [], []⟩, ⟨[125], [126], [0], []⟩, ⟨[113, 114], [127], [], []⟩, ⟨[127, 122], [], [0], [0]⟩, ⟨[115, 117], [128], [], []⟩, ⟨[128, 126], [], [0], [0]⟩] Z06 (by kernel_rfl) <| SMw rfl <| Zu rfl <| SMw rfl <| Zu rfl <| Sc (lo [116] [] rfl fun S hs hr => Z0n rfl rfl (vh hs 116 rfl rfl) (vk rfl)) rfl <| SMw rfl <| Zu rfl <| Sc (lo [119] [] rfl fun S hs hr => Z0n rfl rfl (vh hs 119 rfl rfl) (vk rfl)) rfl <| Sc (lo [118, 120] [] rfl fun S hs hr => Z1z (l := l36) hvl0_474 rfl rfl rfl Z0b (vh hs 118 rfl rfl) (vh hs 120 rfl rfl) he39) rfl <| Sc (lo [121] [0] rfl fun S hs hr => Z1d 0 rfl rfl Z0m (vh hs 121 rfl rfl) ((hr 0 rfl).trans rfl) (Z0g he39).2) rfl <| SMw rfl <| Zu rfl <| Sc (lo [123, 124] [] rfl fun S hs hr => Z1z (l := l36) hvl0_474 rfl rfl rfl Z0b (vh hs 123 rfl rfl) (vh hs 124 rfl rfl) he40) rfl <| Sc (lo [125] [0] rfl fun S hs hr => Z1d 0 rfl rfl Z0m (vh hs 125 rfl rfl) ((hr 0 rfl).trans rfl) (Z0g he40).2) rfl <| Sc (lo [113, 114] [] rfl fun S hs hr => Z1z (l := l36) hvl0_474 rfl rfl rfl Z0b (vh hs 113 rfl rfl) (vh hs 114 rfl rfl) he41) rfl <| Sc (Z3l [127, 122] [0] rfl fun S hs hr => Z28 0 rfl rfl Z0m (vh hs 127 rfl rfl) ((hr 0 rfl).trans rfl) (Z0g he41).2 (vh hs 122 rfl rfl)) rfl <| Sc (lo [115, 117] [] rfl fun S hs hr => Z1z (l := (List.set l36 k37.toNat e39)) hvl0_474 (by simp) rfl rfl Z0b (vh hs 115 rfl rfl) (vh hs 117 rfl rfl) he42) rfl <| Sc (Z3l [128, 126] [0] rfl fun S hs hr => Z28 0 rfl rfl Z0m (vh hs 128 rfl rfl) ((hr 0 rfl).trans rfl) (Z0g he42).2 (vh hs 126 rfl rfl)) rfl <| Rg <| Md rfl <| Ac (Z0n rfl rfl (vt rfl) (vk rfl)) rfl <| As rfl <| Nl ?_
       subst hgo4
       exact ⟨(m38, (List.set (List.set l36 k37.toNat e39) (IntKind.i64.wrap (k37 - 1)).toNat e40), (IntKind.i64.wrap (k37 - 1))), Nat.lt_succ_self _, ⟨trivial, h⟩, ⟨rfl, ⟨rfl, rfl, rfl, trivial⟩, ⟨rfl, trivial⟩⟩⟩
      ·have h := Zf hc h
       refine AW.exit <| AW.ret ?_
       obtain rfl := si h
       exact Z2n (i := 0) Tryz.results311 rfl rfl
  ·have h := Zf hc h
   refine AW.skip <| AW.seq ?_
   obtain ⟨q43, hq43, h⟩ := Z1 h
   refine Rg <| Md rfl <| Md rfl <| Ac (Z08 rfl rfl (vt rfl) (vt rfl)) rfl <| Ac (Z7l rfl rfl us3 Z6j (vt rfl)) rfl <| Ac (Z4n rfl rfl (vt rfl) (Z49 (vku (1 : BitVec 64) rfl)) hq43) rfl <| Ac (Z92 rfl rfl Z9t un3 (vt rfl)) rfl <| As rfl <| Nl <| SR <| Md rfl <| Md rfl <| Ac (Z08 rfl rfl (vt rfl) (vt rfl)) rfl <| As rfl <| Nl <| SR <| Ak rfl <| Ak rfl <| Nl ?_
   refine AW.join (d := []) (ν := Int × Int) (fun n => Zd6 data1 q43 m4 cmp6 a3 R_slices_symMergeCmpFunc_Action b5 n.1 n.2 = some r) (fun n => [(0, Zc v2), (1, rd (Z0 .i64) a3), (2, rd (Z0 .i64) m4), (3, rd (Z0 .i64) b5), (4, fn2 Tryz.prog Z5 Z5 (Z0 .i64) cmp6), (18, rd (Z0 .i64) (IntKind.i64.wrap (q43.toNat : Int))), (19, rd (Z0 .i64) (IntKind.i64.wrap ((IntKind.i64.wrap (q43.toNat : Int)) + m4))), (20, rd (Z0 .i64) n.1), (21, rd (Z0 .i64) n.2)]) (fun n => [(0, Za v2 121 Z5 data1)]) ?hx5 ?hy5
   case hy5 =>
    rintro ⟨start44, r45⟩ h
    unfold Zd6 at h
    change AW _ _ _ ⟨Zw [(0, Zc v2), (1, rd (Z0 .i64) a3), (2, rd (Z0 .i64) m4), (3, rd (Z0 .i64) b5), (4, fn2 Tryz.prog Z5 Z5 (Z0 .i64) cmp6), (18, rd (Z0 .i64) (IntKind.i64.wrap (q43.toNat : Int))), (19, rd (Z0 .i64) (IntKind.i64.wrap ((IntKind.i64.wrap (q43.toNat : Int)) + m4))), (20, rd (Z0 .i64) start44), (21, rd (Z0 .i64) r45)], Zx [(0, Za v2 121 Z5 data1)], _⟩
    refine SR <| Md rfl <| Ac (Z0n rfl rfl (vt rfl) (vk rfl)) rfl <| As rfl <| Nl <| AW.seq <| AW.block <| AW.loopG (d := []) (ν := Nat × Int × Int) (fun n => True ∧ Z7m data1 q43 m4 cmp6 a3 R_slices_symMergeCmpFunc_Action b5 n.1 n.2.1 n.2.2 = some r) (fun n => n.1) (fun n => [(0, Zc v2), (1, rd (Z0 .i64) a3), (2, rd (Z0 .i64) m4), (3, rd (Z0 .i64) b5), (4, fn2 Tryz.prog Z5 Z5 (Z0 .i64) cmp6), (18, rd (Z0 .i64) (IntKind.i64.wrap (q43.toNat : Int))), (19, rd (Z0 .i64) (IntKind.i64.wrap ((IntKind.i64.wrap (q43.toNat : Int)) + m4))), (20, rd (Z0 .i64) n.2.1), (21, rd (Z0 .i64) n.2.2), (22, rd (Z0 .i64) (IntKind.i64.wrap ((IntKind.i64.wrap ((IntKind.i64.wrap (q43.toNat : Int)) + m4)) - 1)))]) (fun n => [(0, Za v2 121 Z5 data1)]) ((((r45 : Int) - start44).toNat + 1), start44, r45) ⟨trivial, h⟩ ⟨rfl, ⟨rfl, rfl, rfl, rfl, rfl, rfl, rfl, rfl, rfl, rfl, trivial⟩, ⟨rfl, trivial⟩⟩ ?_
    rintro ⟨m50, start48, r49⟩ ⟨hsf6, h⟩
    change True at hsf6
    change Z7m data1 q43 m4 cmp6 a3 R_slices_symMergeCmpFunc_Action b5 m50 start48 r49 = some r at h
    change AW _ _ _ ⟨Zw [(0, Zc v2), (1, rd (Z0 .i64) a3), (2, rd (Z0 .i64) m4), (3, rd (Z0 .i64) b5), (4, fn2 Tryz.prog Z5 Z5 (Z0 .i64) cmp6), (18, rd (Z0 .i64) (IntKind.i64.wrap (q43.toNat : Int))), (19, rd (Z0 .i64) (IntKind.i64.wrap ((IntKind.i64.wrap (q43.toNat : Int)) + m4))), (20, rd (Z0 .i64) start48), (21, rd (Z0 .i64) r49), (22, rd (Z0 .i64) (IntKind.i64.wrap ((IntKind.i64.wrap ((IntKind.i64.wrap (q43.toNat : Int)) + m4)) - 1)))], Zx [(0, Za v2 121 Z5 data1)], _⟩
    cases m50 with
    | zero => cases h
    | succ m50 =>
     unfold Z7m at h
     generalize hgo6 : Z7m data1 q43 m4 cmp6 a3 R_slices_symMergeCmpFunc_Action b5 m50 = go6 at h
     refine AW.seq <| SR <| Md rfl <| Md rfl <| Ac (Zl rfl rfl (vt rfl) (vt rfl)) rfl <| Nl <| Cn rfl (fun hc => ?_) (fun hc => ?_)
     ·have h := Ze hc h
      refine AW.skip <| AW.block <| AW.seq ?_
      obtain ⟨q51, hq51, h⟩ := Z1 h
      refine Rg <| Md rfl <| Md rfl <| Ac (Z08 rfl rfl (vt rfl) (vt rfl)) rfl <| Ac (Z7l rfl rfl us3 Z6j (vt rfl)) rfl <| Ac (Z4n rfl rfl (vt rfl) (Z49 (vku (1 : BitVec 64) rfl)) hq51) rfl <| Ac (Z92 rfl rfl Z9t un3 (vt rfl)) rfl <| As rfl <| Nl <| AW.seq ?_
      obtain ⟨e52, he52, h⟩ := Z1 h
      obtain ⟨e53, he53, h⟩ := Z1 h
      obtain ⟨x54, hx54, h⟩ := Z1 h
      refine AW.regionAny [⟨[4], [158], [], []⟩, ⟨[0], [159], [], []⟩, ⟨[22], [160], [], []⟩, ⟨[23], [161], [], []⟩, ⟨[160, 161], [162], [], []⟩, ⟨[159, 162], [163], [0], []⟩, ⟨[163], [164], [0], []⟩, ⟨[0], [165], [], []⟩, ⟨[23], [166], [], []⟩, ⟨[165, 166], [167], [0], []⟩, ⟨[167], [168], [0], []⟩, ⟨[158, 164, 168], [169], [], []⟩, ⟨[169], [170], [], []⟩, ⟨[170], [171], [], []⟩] Z06 (by kernel_rfl) <| Sc (lo [4] [] rfl fun S hs hr => Zs (A := fn2 Tryz.prog Z5 Z5 (Z0 .i64) cmp6) rfl rfl (vh hs 4 rfl rfl)) rfl <| SMw rfl <| Zu rfl <| Zu rfl <| Sc (lo [160, 161] [] rfl fun S hs hr => Z0n rfl rfl (vh hs 160 rfl rfl) (vh hs 161 rfl rfl)) rfl <| Sc (lo [159, 162] [0] rfl fun S hs hr => Z1o 0 rfl rfl Z0b (vh hs 159 rfl rfl) ((hr 0 rfl).trans rfl) (vh hs 162 rfl rfl) he52) rfl <| Sc (lo [163] [0] rfl fun S hs hr => Z1d 0 rfl rfl Z0m (vh hs 163 rfl rfl) ((hr 0 rfl).trans rfl) (Z0g he52).2) rfl <| SMw rfl <| Zu rfl <| Sc (lo [165, 166] [0] rfl fun S hs hr => Z1o 0 rfl rfl Z0b (vh hs 165 rfl rfl) ((hr 0 rfl).trans rfl) (vh hs 166 rfl rfl) he53) rfl <| Sc (lo [167] [0] rfl fun S hs hr => Z1d 0 rfl rfl Z0m (vh hs 167 rfl rfl) ((hr 0 rfl).trans rfl) (Z0g he53).2) rfl <| Sc (lo [158, 164, 168] [] rfl fun S hs hr => Z57 hx54 rfl rfl (vh hs 158 rfl rfl) (vh hs 164 rfl rfl) (vh hs 168 rfl rfl)) rfl <| Sc (lo [169] [] rfl fun S hs hr => Zl rfl rfl (vh hs 169 rfl rfl) (vk rfl)) rfl <| Sc (lo [170] [] rfl fun S hs hr => Z13 rfl rfl (vh hs 170 rfl rfl)) rfl <| Cn rfl (fun hc => ?_) (fun hc => ?_)
      ·have h := Ze hc h
       refine Rg <| Md rfl <| Ac (Z08 rfl rfl (vt rfl) (vk rfl)) rfl <| As rfl <| Nl ?_
       subst hgo6
       exact ⟨(m50, (IntKind.i64.wrap ((IntKind.i64.wrap (q51.toNat : Int)) + 1)), r49), Nat.lt_succ_self _, ⟨trivial, h⟩, ⟨rfl, ⟨rfl, rfl, rfl, rfl, rfl, rfl, rfl, rfl, rfl, rfl, trivial⟩, ⟨rfl, trivial⟩⟩⟩
      ·have h := Zf hc h
       refine Rg <| Md rfl <| As rfl <| Nl ?_
       subst hgo6
       exact ⟨(m50, start48, (IntKind.i64.wrap (q51.toNat : Int))), Nat.lt_succ_self _, ⟨trivial, h⟩, ⟨rfl, ⟨rfl, rfl, rfl, rfl, rfl, rfl, rfl, rfl, rfl, rfl, trivial⟩, ⟨rfl, trivial⟩⟩⟩
     ·have h := Zf hc h
      refine AW.exit <| SR <| Md rfl <| Md rfl <| Ac (Z0n rfl rfl (vt rfl) (vt rfl)) rfl <| As rfl <| Nl ?_
      refine AW.join (d := []) (ν := (List Action)) (fun n => Zav a3 start48 q43 R_slices_symMergeCmpFunc_Action cmp6 m4 b5 n = some r) (fun n => [(0, Zc v2), (1, rd (Z0 .i64) a3), (3, rd (Z0 .i64) b5), (4, fn2 Tryz.prog Z5 Z5 (Z0 .i64) cmp6), (18, rd (Z0 .i64) (IntKind.i64.wrap (q43.toNat : Int))), (20, rd (Z0 .i64) start48), (24, rd (Z0 .i64) (IntKind.i64.wrap ((IntKind.i64.wrap ((IntKind.i64.wrap (q43.toNat : Int)) + m4)) - start48)))]) (fun n => [(0, Za v2 121 Z5 n)]) ?hx7 ?hy7
      case hy7 =>
       intro l55 h
       unfold Zav at h
       change AW _ _ _ ⟨Zw [(0, Zc v2), (1, rd (Z0 .i64) a3), (3, rd (Z0 .i64) b5), (4, fn2 Tryz.prog Z5 Z5 (Z0 .i64) cmp6), (18, rd (Z0 .i64) (IntKind.i64.wrap (q43.toNat : Int))), (20, rd (Z0 .i64) start48), (24, rd (Z0 .i64) (IntKind.i64.wrap ((IntKind.i64.wrap ((IntKind.i64.wrap (q43.toNat : Int)) + m4)) - start48)))], Zx [(0, Za v2 121 Z5 l55)], _⟩
       refine AW.join (d := []) (ν := (List Action)) (fun n => Zdj q43 m4 start48 b5 R_slices_symMergeCmpFunc_Action cmp6 n = some r) (fun n => [(0, Zc v2), (3, rd (Z0 .i64) b5), (4, fn2 Tryz.prog Z5 Z5 (Z0 .i64) cmp6), (18, rd (Z0 .i64) (IntKind.i64.wrap (q43.toNat : Int))), (24, rd (Z0 .i64) (IntKind.i64.wrap ((IntKind.i64.wrap ((IntKind.i64.wrap (q43.toNat : Int)) + m4)) - start48)))]) (fun n => [(0, Za v2 121 Z5 n)]) ?hx8 ?hy8
       case hy8 =>
        intro l56 h
        unfold Zdj at h
        change AW _ _ _ ⟨Zw [(0, Zc v2), (3, rd (Z0 .i64) b5), (4, fn2 Tryz.prog Z5 Z5 (Z0 .i64) cmp6), (18, rd (Z0 .i64) (IntKind.i64.wrap (q43.toNat : Int))), (24, rd (Z0 .i64) (IntKind.i64.wrap ((IntKind.i64.wrap ((IntKind.i64.wrap (q43.toNat : Int)) + m4)) - start48)))], Zx [(0, Za v2 121 Z5 l56)], _⟩
        refine SR <| Md rfl <| Md rfl <| Ac (Zl rfl rfl (vt rfl) (vt rfl)) rfl <| Md rfl <| Gd rfl (fun hq => Zs (A := rd (Z0 .i64) (IntKind.i64.wrap ((IntKind.i64.wrap ((IntKind.i64.wrap (q43.toNat : Int)) + m4)) - start48))) rfl rfl (vt rfl)) <| Gd rfl (fun hq => Zs (A := rd (Z0 .i64) b5) rfl rfl (vt rfl)) <| Gd rfl (fun hq => Zl rfl rfl (Zj rfl hq) (Zj rfl hq)) <| Ac (Z11 rfl rfl (vt rfl) (vt rfl)) rfl <| Nl <| Cn rfl (fun hc => ?_) (fun hc => ?_)
        ·have h := Ze hc h
         obtain ⟨l57, hl57, h⟩ := Z1 h
         refine Rg <| Mw rfl <| Md rfl <| Md rfl <| Md rfl <| Ac (Zs (A := fn2 Tryz.prog Z5 Z5 (Z0 .i64) cmp6) rfl rfl (vt rfl)) rfl <| Ct rfl (Z1k 0 (xs := [.tmp 214, .tmp 215, .tmp 216, .tmp 217, .tmp 218]) (hR_slices_symMergeCmpFunc_Action _ _ _ _ _ _ _ hl57) Zn7 rfl rfl ⟨vt rfl, vt rfl, vt rfl, vt rfl, vt rfl, trivial⟩ rfl) ?_
         rintro _ ⟨_u, rfl⟩
         refine Nl ?_
         obtain rfl := si h
         exact Z2n (i := 0) Tryz.results311 rfl rfl
        ·have h := Zf hc h
         refine AW.skip ?_
         obtain rfl := si h
         exact Z2n (i := 0) Tryz.results311 rfl rfl
       case hx8 =>
        refine SR <| Md rfl <| Md rfl <| Ac (Zl rfl rfl (vt rfl) (vt rfl)) rfl <| Md rfl <| Gd rfl (fun hq => Zs (A := rd (Z0 .i64) start48) rfl rfl (vt rfl)) <| Gd rfl (fun hq => Zs (A := rd (Z0 .i64) (IntKind.i64.wrap (q43.toNat : Int))) rfl rfl (vt rfl)) <| Gd rfl (fun hq => Zl rfl rfl (Zj rfl hq) (Zj rfl hq)) <| Ac (Z11 rfl rfl (vt rfl) (vt rfl)) rfl <| Nl <| Cn rfl (fun hc => ?_) (fun hc => ?_)
        ·have h := Ze hc h
         obtain ⟨l58, hl58, h⟩ := Z1 h
         refine Rg <| Mw rfl <| Md rfl <| Md rfl <| Md rfl <| Ac (Zs (A := fn2 Tryz.prog Z5 Z5 (Z0 .i64) cmp6) rfl rfl (vt rfl)) rfl <| Ct rfl (Z1k 0 (xs := [.tmp 200, .tmp 201, .tmp 202, .tmp 203, .tmp 204]) (hR_slices_symMergeCmpFunc_Action _ _ _ _ _ _ _ hl58) Zn7 rfl rfl ⟨vt rfl, vt rfl, vt rfl, vt rfl, vt rfl, trivial⟩ rfl) ?_
         rintro _ ⟨_u, rfl⟩
         refine Nl ?_
         exact ⟨l58, h, ⟨rfl, ⟨rfl, rfl, rfl, rfl, rfl, trivial⟩, ⟨rfl, trivial⟩⟩⟩
        ·have h := Zf hc h
         refine AW.skip ?_
         exact ⟨l55, h, ⟨rfl, ⟨rfl, rfl, rfl, rfl, rfl, trivial⟩, ⟨rfl, trivial⟩⟩⟩
      case hx7 =>
       refine SR <| Md rfl <| Md rfl <| Ac (Zl rfl rfl (vt rfl) (vt rfl)) rfl <| Md rfl <| Gd rfl (fun hq => Zs (A := rd (Z0 .i64) m4) rfl rfl (vt rfl)) <| Gd rfl (fun hq => Zs (A := rd (Z0 .i64) (IntKind.i64.wrap ((IntKind.i64.wrap ((IntKind.i64.wrap (q43.toNat : Int)) + m4)) - start48))) rfl rfl (vt rfl)) <| Gd rfl (fun hq => Zl rfl rfl (Zj rfl hq) (Zj rfl hq)) <| Ac (Z11 rfl rfl (vt rfl) (vt rfl)) rfl <| Nl <| Cn rfl (fun hc => ?_) (fun hc => ?_)
       ·have h := Ze hc h
        obtain ⟨l59, hl59, h⟩ := Z1 h
        refine Rg <| Mw rfl <| Md rfl <| Md rfl <| Md rfl <| Ac (Zs (A := fn2 Tryz.prog Z5 Z5 (Z0 .i64) cmp6) rfl rfl (vt rfl)) rfl <| Ct rfl (Z1k 0 (xs := [.tmp 186, .tmp 187, .tmp 188, .tmp 189, .tmp 190]) (Y3n _ _ _ _ _ _ _ hl59) Yev rfl rfl ⟨vt rfl, vt rfl, vt rfl, vt rfl, vt rfl, trivial⟩ rfl) ?_
        rintro _ ⟨_u, rfl⟩
        refine Nl ?_
        exact ⟨l59, h, ⟨rfl, ⟨rfl, rfl, rfl, rfl, rfl, rfl, rfl, trivial⟩, ⟨rfl, trivial⟩⟩⟩
       ·have h := Zf hc h
        refine AW.skip ?_
        exact ⟨data1, h, ⟨rfl, ⟨rfl, rfl, rfl, rfl, rfl, rfl, rfl, trivial⟩, ⟨rfl, trivial⟩⟩⟩
   case hx5 =>
    refine SR <| Md rfl <| Md rfl <| Ac (Z3b rfl rfl (vt rfl) (vt rfl)) rfl <| Nl <| Cn rfl (fun hc => ?_) (fun hc => ?_)
    ·have h := Ze hc h
     refine SR <| Md rfl <| Md rfl <| Ac (Z0n rfl rfl (vt rfl) (vt rfl)) rfl <| As rfl <| Nl <| Rg <| Md rfl <| As rfl <| Nl ?_
     exact ⟨((IntKind.i64.wrap ((IntKind.i64.wrap ((IntKind.i64.wrap (q43.toNat : Int)) + m4)) - b5)), (IntKind.i64.wrap (q43.toNat : Int))), h, ⟨rfl, ⟨rfl, rfl, rfl, rfl, rfl, rfl, rfl, rfl, rfl, trivial⟩, ⟨rfl, trivial⟩⟩⟩
    ·have h := Zf hc h
     refine SR <| Md rfl <| As rfl <| Nl <| Rg <| Md rfl <| As rfl <| Nl ?_
     exact ⟨(a3, m4), h, ⟨rfl, ⟨rfl, rfl, rfl, rfl, rfl, rfl, rfl, rfl, rfl, trivial⟩, ⟨rfl, trivial⟩⟩⟩
def Ze7 : Nat → ((List Action) → Int → Int → Int → (Action → Action → Option Int) → Option (List Action))
 | 0 => (fun _ _ _ _ _ => none)
 | n + 1 => (Zih (Ze7 n))
theorem Zsa : ∀ n : Nat, (∀ (v2 : Value) (data1 : (List Action)) (a3 : Int) (m4 : Int) (b5 : Int) (cmp6 : (Action → Action → Option Int)) (r : (List Action)), (Ze7 n) data1 a3 m4 b5 cmp6 = some r → Con Tryz.prog 311 [Zc v2, rd (Z0 .i64) a3, rd (Z0 .i64) m4, rd (Z0 .i64) b5, fn2 Tryz.prog Z5 Z5 (Z0 .i64) cmp6] (Za v2 121 Z5 data1) (fun _ : Unit => top) (fun _ => Za v2 121 Z5 r))
 | 0 => (by intros; rename_i h; cases h)
 | n + 1 => by
  have ih := Zsa n
  exact (Ych (Ze7 n) ih)
def Zk1 (data1 : (List Action)) (a3 : Int) (m4 : Int) (b5 : Int) (cmp6 : (Action → Action → Option Int)) : Option (List Action) := (Ze7 Z0x) data1 a3 m4 b5 cmp6
theorem Zun : ∀ (v2 : Value) (data1 : (List Action)) (a3 : Int) (m4 : Int) (b5 : Int) (cmp6 : (Action → Action → Option Int)) (r : (List Action)), Zk1 data1 a3 m4 b5 cmp6 = some r → Con Tryz.prog 311 [Zc v2, rd (Z0 .i64) a3, rd (Z0 .i64) m4, rd (Z0 .i64) b5, fn2 Tryz.prog Z5 Z5 (Z0 .i64) cmp6] (Za v2 121 Z5 data1) (fun _ : Unit => top) (fun _ => Za v2 121 Z5 r) := Zsa Z0x
def Zal (n3 : Int) (blockSize17 : Int) (cmp4 : (Action → Action → Option Int)) (go2 : (List Action) → Int → Option (List Action)) : Nat → (List Action) → Int → Int → Option (List Action)
 | 0, _, _, _ => none
 | m25 + 1, l22, a23, b24 => (bif (decide (b24 ≤ n3)) then (Zk1 l22 a23 (IntKind.i64.wrap (a23 + blockSize17)) b24 cmp4).bind fun l26 => (Zal n3 blockSize17 cmp4 go2 m25) l26 b24 (IntKind.i64.wrap (b24 + (IntKind.i64.wrap (2 * blockSize17)))) else (bif (decide ((IntKind.i64.wrap (a23 + blockSize17)) < n3)) then (Zk1 l22 a23 (IntKind.i64.wrap (a23 + blockSize17)) n3 cmp4).bind fun l27 => go2 l27 (IntKind.i64.wrap (blockSize17 * 2)) else go2 l22 (IntKind.i64.wrap (blockSize17 * 2))))
def Z7n (n3 : Int) (cmp4 : (Action → Action → Option Int)) : Nat → (List Action) → Int → Option (List Action)
 | 0, _, _ => none
 | m18 + 1, l16, blockSize17 => (bif (decide (blockSize17 < n3)) then Zal n3 blockSize17 cmp4 (Z7n n3 cmp4 m18) (((n3 : Int) - (IntKind.i64.wrap (2 * blockSize17))).toNat + 2) l16 0 (IntKind.i64.wrap (2 * blockSize17)) else some l16)
def Zam (n3 : Int) (cmp4 : (Action → Action → Option Int)) : Nat → (List Action) → Int → Int → Option (List Action)
 | 0, _, _, _ => none
 | m11 + 1, l8, a9, b10 => (bif (decide (b10 ≤ n3)) then (Zez l8 a9 b10 cmp4).bind fun l12 => (Zam n3 cmp4 m11) l12 b10 (IntKind.i64.wrap (b10 + 20)) else (Zez l8 a9 n3 cmp4).bind fun l13 => Z7n n3 cmp4 (((n3 : Int) - 20).toNat + 1) l13 20)
def Zku (data1 : (List Action)) (n3 : Int) (cmp4 : (Action → Action → Option Int)) : Option (List Action) :=
 Zam n3 cmp4 (((n3 : Int) - 20).toNat + 2) data1 0 20
theorem Yal (v2 : Value) (data1 : (List Action)) (n3 : Int) (cmp4 : (Action → Action → Option Int)) (r : (List Action)) (h : Zku data1 n3 cmp4 = some r) : Con Tryz.prog 274 [Zc v2, rd (Z0 .i64) n3, fn2 Tryz.prog Z5 Z5 (Z0 .i64) cmp4] (Za v2 121 Z5 data1) (fun _ : Unit => top) (fun _ => Za v2 121 Z5 r) := by
 refine Con.intro Tryz.func274 rfl Tryz.ntmps274 rfl fun w H X => ?_
 unfold Zku at h
 refine SR <| Ak rfl <| Nl <| SR <| Md rfl <| Ak rfl <| As rfl <| Nl <| AW.seq <| AW.block <| AW.loopG (d := []) (ν := Nat × (List Action) × Int × Int) (fun n => True ∧ Zam n3 cmp4 n.1 n.2.1 n.2.2.1 n.2.2.2 = some r) (fun n => n.1) (fun n => [(0, Zc v2), (1, rd (Z0 .i64) n3), (2, fn2 Tryz.prog Z5 Z5 (Z0 .i64) cmp4), (6, rd (Z0 .i64) 20), (7, rd (Z0 .i64) n.2.2.1), (8, rd (Z0 .i64) n.2.2.2)]) (fun n => [(0, Za v2 121 Z5 n.2.1)]) ((((n3 : Int) - 20).toNat + 2), data1, 0, 20) ⟨trivial, h⟩ ⟨rfl, ⟨rfl, rfl, rfl, rfl, rfl, rfl, trivial⟩, ⟨rfl, trivial⟩⟩ ?_
 rintro ⟨m11, l8, a9, b10⟩ ⟨hsf1, h⟩
 change True at hsf1
 change Zam n3 cmp4 m11 l8 a9 b10 = some r at h
 change AW _ _ _ ⟨Zw [(0, Zc v2), (1, rd (Z0 .i64) n3), (2, fn2 Tryz.prog Z5 Z5 (Z0 .i64) cmp4), (6, rd (Z0 .i64) 20), (7, rd (Z0 .i64) a9), (8, rd (Z0 .i64) b10)], Zx [(0, Za v2 121 Z5 l8)], _⟩
 cases m11 with
 | zero => cases h
 | succ m11 =>
  unfold Zam at h
  generalize hgo1 : Zam n3 cmp4 m11 = go1 at h
  refine AW.seq <| SR <| Md rfl <| Md rfl <| Ac (Z5e rfl rfl (vt rfl) (vt rfl)) rfl <| Nl <| Cn rfl (fun hc => ?_) (fun hc => ?_)
  ·have h := Ze hc h
   refine AW.skip <| AW.block <| AW.seq ?_
   obtain ⟨l12, hl12, h⟩ := Z1 h
   refine Rg <| Mw rfl <| Md rfl <| Md rfl <| Ac (Zs (A := fn2 Tryz.prog Z5 Z5 (Z0 .i64) cmp4) rfl rfl (vt rfl)) rfl <| Ct rfl (Z1k 0 (xs := [.tmp 14, .tmp 15, .tmp 16, .tmp 17]) (Zxk _ _ _ _ _ _ hl12) Zz1 rfl rfl ⟨vt rfl, vt rfl, vt rfl, vt rfl, trivial⟩ rfl) ?_
   rintro _ ⟨_u, rfl⟩
   refine Nl <| SR <| Md rfl <| As rfl <| Nl <| Rg <| Md rfl <| Md rfl <| Ac (Z08 rfl rfl (vt rfl) (vt rfl)) rfl <| As rfl <| Nl ?_
   subst hgo1
   exact ⟨(m11, l12, b10, (IntKind.i64.wrap (b10 + 20))), Nat.lt_succ_self _, ⟨trivial, h⟩, ⟨rfl, ⟨rfl, rfl, rfl, rfl, rfl, rfl, trivial⟩, ⟨rfl, trivial⟩⟩⟩
  ·have h := Zf hc h
   refine AW.exit <| AW.seq ?_
   obtain ⟨l13, hl13, h⟩ := Z1 h
   refine Rg <| Mw rfl <| Md rfl <| Md rfl <| Ac (Zs (A := fn2 Tryz.prog Z5 Z5 (Z0 .i64) cmp4) rfl rfl (vt rfl)) rfl <| Ct rfl (Z1k 0 (xs := [.tmp 23, .tmp 24, .tmp 25, .tmp 26]) (Zxk _ _ _ _ _ _ hl13) Zz1 rfl rfl ⟨vt rfl, vt rfl, vt rfl, vt rfl, trivial⟩ rfl) ?_
   rintro _ ⟨_u, rfl⟩
   refine Nl <| AW.block <| AW.loopG (d := []) (ν := Nat × (List Action) × Int) (fun n => True ∧ Z7n n3 cmp4 n.1 n.2.1 n.2.2 = some r) (fun n => n.1) (fun n => [(0, Zc v2), (1, rd (Z0 .i64) n3), (2, fn2 Tryz.prog Z5 Z5 (Z0 .i64) cmp4), (6, rd (Z0 .i64) n.2.2)]) (fun n => [(0, Za v2 121 Z5 n.2.1)]) ((((n3 : Int) - 20).toNat + 1), l13, 20) ⟨trivial, h⟩ ⟨rfl, ⟨rfl, rfl, rfl, rfl, trivial⟩, ⟨rfl, trivial⟩⟩ ?_
   rintro ⟨m18, l16, blockSize17⟩ ⟨hsf2, h⟩
   change True at hsf2
   change Z7n n3 cmp4 m18 l16 blockSize17 = some r at h
   change AW _ _ _ ⟨Zw [(0, Zc v2), (1, rd (Z0 .i64) n3), (2, fn2 Tryz.prog Z5 Z5 (Z0 .i64) cmp4), (6, rd (Z0 .i64) blockSize17)], Zx [(0, Za v2 121 Z5 l16)], _⟩
   cases m18 with
   | zero => cases h
   | succ m18 =>
    unfold Z7n at h
    generalize hgo2 : Z7n n3 cmp4 m18 = go2 at h
    refine AW.seq <| SR <| Md rfl <| Md rfl <| Ac (Zl rfl rfl (vt rfl) (vt rfl)) rfl <| Nl <| Cn rfl (fun hc => ?_) (fun hc => ?_)
    ·have h := Ze hc h
     refine AW.skip <| AW.block <| SR <| Md rfl <| Ac (Z7h rfl rfl (vk rfl) (vt rfl)) rfl <| Ak rfl <| As rfl <| Nl <| AW.seq <| AW.block <| AW.loopG (d := []) (ν := Nat × (List Action) × Int × Int) (fun n => True ∧ Zal n3 blockSize17 cmp4 go2 n.1 n.2.1 n.2.2.1 n.2.2.2 = some r) (fun n => n.1) (fun n => [(0, Zc v2), (1, rd (Z0 .i64) n3), (2, fn2 Tryz.prog Z5 Z5 (Z0 .i64) cmp4), (6, rd (Z0 .i64) blockSize17), (7, rd (Z0 .i64) n.2.2.1), (8, rd (Z0 .i64) n.2.2.2)]) (fun n => [(0, Za v2 121 Z5 n.2.1)]) ((((n3 : Int) - (IntKind.i64.wrap (2 * blockSize17))).toNat + 2), l16, 0, (IntKind.i64.wrap (2 * blockSize17))) ⟨trivial, h⟩ ⟨rfl, ⟨rfl, rfl, rfl, rfl, rfl, rfl, trivial⟩, ⟨rfl, trivial⟩⟩ ?_
     rintro ⟨m25, l22, a23, b24⟩ ⟨hsf3, h⟩
     change True at hsf3
     change Zal n3 blockSize17 cmp4 go2 m25 l22 a23 b24 = some r at h
     change AW _ _ _ ⟨Zw [(0, Zc v2), (1, rd (Z0 .i64) n3), (2, fn2 Tryz.prog Z5 Z5 (Z0 .i64) cmp4), (6, rd (Z0 .i64) blockSize17), (7, rd (Z0 .i64) a23), (8, rd (Z0 .i64) b24)], Zx [(0, Za v2 121 Z5 l22)], _⟩
     cases m25 with
     | zero => cases h
     | succ m25 =>
      unfold Zal at h
      generalize hgo3 : Zal n3 blockSize17 cmp4 go2 m25 = go3 at h
      refine AW.seq <| SR <| Md rfl <| Md rfl <| Ac (Z5e rfl rfl (vt rfl) (vt rfl)) rfl <| Nl <| Cn rfl (fun hc => ?_) (fun hc => ?_)
      ·have h := Ze hc h
       refine AW.skip <| AW.block <| AW.seq ?_
       obtain ⟨l26, hl26, h⟩ := Z1 h
       refine Rg <| Mw rfl <| Md rfl <| Md rfl <| Md rfl <| Ac (Z08 rfl rfl (vt rfl) (vt rfl)) rfl <| Md rfl <| Ac (Zs (A := fn2 Tryz.prog Z5 Z5 (Z0 .i64) cmp4) rfl rfl (vt rfl)) rfl <| Ct rfl (Z1k 0 (xs := [.tmp 36, .tmp 37, .tmp 40, .tmp 41, .tmp 42]) (Zun _ _ _ _ _ _ _ hl26) Zn7 rfl rfl ⟨vt rfl, vt rfl, vt rfl, vt rfl, vt rfl, trivial⟩ rfl) ?_
       rintro _ ⟨_u, rfl⟩
       refine Nl <| SR <| Md rfl <| As rfl <| Nl <| Rg <| Md rfl <| Md rfl <| Ac (Z7h rfl rfl (vk rfl) (vt rfl)) rfl <| Ac (Z08 rfl rfl (vt rfl) (vt rfl)) rfl <| As rfl <| Nl ?_
       subst hgo3
       exact ⟨(m25, l26, b24, (IntKind.i64.wrap (b24 + (IntKind.i64.wrap (2 * blockSize17))))), Nat.lt_succ_self _, ⟨trivial, h⟩, ⟨rfl, ⟨rfl, rfl, rfl, rfl, rfl, rfl, trivial⟩, ⟨rfl, trivial⟩⟩⟩
      ·have h := Zf hc h
       refine AW.exit <| AW.seq <| SR <| Md rfl <| Md rfl <| Ac (Z08 rfl rfl (vt rfl) (vt rfl)) rfl <| As rfl <| Nl <| SR <| Md rfl <| Md rfl <| Ac (Zl rfl rfl (vt rfl) (vt rfl)) rfl <| Nl <| Cn rfl (fun hc => ?_) (fun hc => ?_)
       ·have h := Ze hc h
        obtain ⟨l27, hl27, h⟩ := Z1 h
        refine Rg <| Mw rfl <| Md rfl <| Md rfl <| Md rfl <| Ac (Zs (A := fn2 Tryz.prog Z5 Z5 (Z0 .i64) cmp4) rfl rfl (vt rfl)) rfl <| Ct rfl (Z1k 0 (xs := [.tmp 55, .tmp 56, .tmp 57, .tmp 58, .tmp 59]) (Zun _ _ _ _ _ _ _ hl27) Zn7 rfl rfl ⟨vt rfl, vt rfl, vt rfl, vt rfl, vt rfl, trivial⟩ rfl) ?_
        rintro _ ⟨_u, rfl⟩
        refine Nl <| Rg <| Md rfl <| Ac (Z7h rfl rfl (vt rfl) (vk rfl)) rfl <| As rfl <| Nl ?_
        subst hgo2
        exact ⟨(m18, l27, (IntKind.i64.wrap (blockSize17 * 2))), Nat.lt_succ_self _, ⟨trivial, h⟩, ⟨rfl, ⟨rfl, rfl, rfl, rfl, trivial⟩, ⟨rfl, trivial⟩⟩⟩
       ·have h := Zf hc h
        refine AW.skip <| Rg <| Md rfl <| Ac (Z7h rfl rfl (vt rfl) (vk rfl)) rfl <| As rfl <| Nl ?_
        subst hgo2
        exact ⟨(m18, l22, (IntKind.i64.wrap (blockSize17 * 2))), Nat.lt_succ_self _, ⟨trivial, h⟩, ⟨rfl, ⟨rfl, rfl, rfl, rfl, trivial⟩, ⟨rfl, trivial⟩⟩⟩
    ·have h := Zf hc h
     refine AW.exit ?_
     obtain rfl := si h
     exact Z2n (i := 0) Tryz.results274 rfl rfl
def Zg8 (x1 : (List Action)) (cmp3 : (Action → Action → Option Int)) : Option (List Action) :=
 (Zku x1 (x1.length : Int) cmp3).bind fun l4 => some l4
theorem Y3i (v2 : Value) (x1 : (List Action)) (cmp3 : (Action → Action → Option Int)) (r : (List Action)) (h : Zg8 x1 cmp3 = some r) : Con Tryz.prog 219 [Zc v2, fn2 Tryz.prog Z5 Z5 (Z0 .i64) cmp3] (Za v2 121 Z5 x1) (fun _ : Unit => top) (fun _ => Za v2 121 Z5 r) := by
 refine Con.intro Tryz.func219 rfl Tryz.ntmps219 rfl fun w H X => ?_
 unfold Zg8 at h
 obtain ⟨l4, hl4, h⟩ := Z1 h
 refine Rg <| Mw rfl <| Mw rfl <| Ac (Z5h 0 rfl rfl Z0b (vt rfl) rfl) rfl <| Ac (Zs (A := fn2 Tryz.prog Z5 Z5 (Z0 .i64) cmp3) rfl rfl (vt rfl)) rfl <| Ct rfl (Z1k 0 (xs := [.tmp 4, .tmp 6, .tmp 7]) (Yal _ _ _ _ _ hl4) Yb1 rfl rfl ⟨vt rfl, vt rfl, vt rfl, trivial⟩ rfl) ?_
 rintro _ ⟨_u, rfl⟩
 refine Nl ?_
 obtain rfl := si h
 exact Z2n (i := 0) Tryz.results219 rfl rfl
def Zdl (a1 : Action) (b2 : Action) : Option Int :=
 (Z9n a1).bind fun x5 => (Z9n b2).bind fun x6 => (Zc6 x5.kind).bind fun x9 => (Zc6 x6.kind).bind fun x10 => (bif (decide ((IntKind.i64.wrap (x9 - x10)) ≠ 0)) then some (IntKind.i64.wrap (x9 - x10)) else (bif (decide (x5.field < x6.field)) then some (-1) else (bif (decide (x5.field > x6.field)) then some 1 else some 0)))
theorem Ya3 (a1 : Action) (b2 : Action) (r : Int) (h : Zdl a1 b2 = some r) : PCon Tryz.prog 220 [rd Z5 a1, rd Z5 b2] (rd (Z0 .i64) r) := by
 refine PCon.of (Con.intro0 Tryz.func220 rfl Tryz.ntmps220 rfl fun w H => ?_)
 unfold Zdl at h
 refine SR <| Ct rfl (Zo 3 rfl rfl (vt rfl)) ?_
 rintro _ ⟨g3, rfl⟩
 refine Ct rfl (Zo 4 rfl rfl (vt rfl)) ?_
 rintro _ ⟨g4, rfl⟩
 refine Ak rfl <| Nl <| AW.seq ?_
 obtain ⟨x5, hx5, h⟩ := Z1 h
 obtain ⟨x6, hx6, h⟩ := Z1 h
 refine AW.regionAny [⟨[2], [8], [3], []⟩, ⟨[8], [9], [], []⟩, ⟨[3], [10], [4], []⟩, ⟨[10], [11], [], []⟩, ⟨[], [5], [], []⟩, ⟨[], [6], [], []⟩, ⟨[5, 9], [5], [], []⟩, ⟨[6, 11], [6], [], []⟩] Z06 (by kernel_rfl) <| Zq Z0m 3 rfl <| SCl [8] (Zl9 _ _ hx5) Zkx rfl <| Zq Z0m 4 rfl <| SCl [10] (Zl9 _ _ hx6) Zkx rfl <| Sc (Z1b (us := [(5, Z25 275 Z5s Zl5)]) (ur := []) [] [] rfl fun S hs hr => Z5r rfl rfl rfl Ziz) rfl <| Sc (Z1b (us := [(6, Z25 275 Z5s Zl5)]) (ur := []) [] [] rfl fun S hs hr => Z5r rfl rfl rfl Ziz) rfl <| Sc (Z1b (us := [(5, Z25 275 Z5s x5)]) (ur := []) [5, 9] [] rfl fun S hs hr => Z5n rfl rfl Zdx ((hs 5 rfl).trans rfl) (vh hs 9 rfl rfl)) rfl <| Sc (Z1b (us := [(6, Z25 275 Z5s x6)]) (ur := []) [6, 11] [] rfl fun S hs hr => Z5n rfl rfl Zdx ((hs 6 rfl).trans rfl) (vh hs 11 rfl rfl)) rfl <| AW.unpackP 5 6 rfl rfl fun g7 => AW.unpackP 6 7 rfl rfl fun g8 => AW.seq <| AW.seq ?_
 obtain ⟨x9, hx9, h⟩ := Z1 h
 obtain ⟨x10, hx10, h⟩ := Z1 h
 refine AW.regionAny [⟨[5], [12], [], []⟩, ⟨[12], [13], [6], []⟩, ⟨[13], [14], [], []⟩, ⟨[6], [15], [], []⟩, ⟨[15], [16], [7], []⟩, ⟨[16], [17], [], []⟩, ⟨[14, 17], [18], [], []⟩, ⟨[18], [7], [], []⟩] Z06 (by kernel_rfl) <| SFd Zjt Zyp rfl <| Zq Zv 6 rfl <| SCl [13] (Zrb _ _ hx9) Zq8 rfl <| SFd Zjt Zyp rfl <| Zq Zv 7 rfl <| SCl [16] (Zrb _ _ hx10) Zq8 rfl <| Sc (lo [14, 17] [] rfl fun S hs hr => Z0n rfl rfl (vh hs 14 rfl rfl) (vh hs 17 rfl rfl)) rfl <| SAs rfl <| SR <| Md rfl <| Ac (Z5l rfl rfl (vt rfl) (vk rfl)) rfl <| Nl <| Cn rfl (fun hc => ?_) (fun hc => ?_)
 ·have h := Ze hc h
  refine SR <| Md rfl <| As rfl <| Nl <| AW.ret ?_
  obtain rfl := si h
  exact Zg Tryz.results220 rfl (Z6 rfl)
 ·have h := Zf hc h
  refine AW.skip <| AW.seq <| AW.block <| SR <| Zp Zdf Zm2 rfl <| Ld Zv 6 rfl <| Zp Zdf Zm2 rfl <| Ld Zv 7 rfl <| Ac (Zl rfl rfl (vt rfl) (vt rfl)) rfl <| As rfl <| Nl <| Cn rfl (fun hc => ?_) (fun hc => ?_)
  ·have h := Ze hc h
   refine SR <| Ak rfl <| Nl <| AW.ret ?_
   obtain rfl := si h
   exact Zg Tryz.results220 rfl (Z6 rfl)
  ·have h := Zf hc h
   refine SR <| Zp Zdf Zm2 rfl <| Ld Zv 6 rfl <| Zp Zdf Zm2 rfl <| Ld Zv 7 rfl <| Ac (Z3b rfl rfl (vt rfl) (vt rfl)) rfl <| As rfl <| Nl <| Cn rfl (fun hc => ?_) (fun hc => ?_)
   ·have h := Ze hc h
    refine SR <| Ak rfl <| Nl <| AW.ret ?_
    obtain rfl := si h
    exact Zg Tryz.results220 rfl (Z6 rfl)
   ·have h := Zf hc h
    refine AW.skip <| SR <| Ak rfl <| Nl <| AW.ret ?_
    obtain rfl := si h
    exact Zg Tryz.results220 rfl (Z6 rfl)
def Zee (set1 : (List Action)) : Option (List Action) :=
 (Zj4 set1 Zkp).bind fun x2 => (Z63 set1).bind fun x4 => (Zhm x4 (fun x => Zdk x x2)).bind fun x6 => (Zg8 x6 Zdl).bind fun l8 => some l8
theorem Y08 (set1 : (List Action)) (r : (List Action)) (h : Zee set1 = some r) : PCon Tryz.prog 149 [rd (Z4 Z5) set1] (rd (Z4 Z5) r) := by
 refine PCon.of (Con.intro0 Tryz.func149 rfl Tryz.ntmps149 rfl fun w H => ?_)
 unfold Zee at h
 refine SR <| Ac (Z07 (A := rd (Z4 Z5) []) rfl rfl Z27) rfl <| Nl <| AW.seq ?_
 obtain ⟨x2, hx2, h⟩ := Z1 h
 refine Rg <| Md rfl <| Ac (Z0k (xs := [.tmp 5, .func 214]) (Zzw _ _ _ hx2) Y15 rfl rfl ⟨vt rfl, vf1 Y8r Y4u, trivial⟩) rfl <| Ct rfl (Zm 4 rfl rfl zr4) ?_
 rintro _ ⟨g3, rfl⟩
 refine Zh ty4 4 rfl <| Nl <| AW.seq <| AW.freezeB 3 4 rfl rfl rfl ?_
 obtain ⟨x4, hx4, h⟩ := Z1 h
 obtain ⟨x6, hx6, h⟩ := Z1 h
 refine Rg <| Md rfl <| Ct rfl (Z1k 1001 (xs := [.tmp 7]) (Znz _ _ hx4) Zmq rfl rfl ⟨vt rfl, trivial⟩ rfl) ?_
 rintro _ ⟨v5, rfl⟩
 refine Ac (Z9w (cs := [.tmp 3]) (CAs := [rp Z8 x2]) (fun x => Zdk x x2) rfl rfl Yel ⟨vt rfl, trivial⟩ (fun x y h => Yeh _ _ y h)) rfl <| Ct rfl (Z1k 1001 (xs := [.tmp 8, .tmp 9]) (Yc6 _ _ _ _ hx6) Y4g rfl rfl ⟨vt rfl, vt rfl, trivial⟩ rfl) ?_
 rintro _ ⟨v7, rfl⟩
 refine Aw rfl <| Nl <| AW.seq ?_
 obtain ⟨l8, hl8, h⟩ := Z1 h
 refine Rg <| Mw rfl <| Ct rfl (Z1k 1001 (xs := [.tmp 11, .func 220]) (Y3i _ _ _ _ hl8) Ybc rfl rfl ⟨vt rfl, vf2 Y88 Ya3, trivial⟩ rfl) ?_
 rintro _ ⟨_u, rfl⟩
 refine Nl <| SR <| Mw rfl <| Aw rfl <| Nl <| AW.freezes [2, 4, 10, 11, 13] 1001 rfl ⟨rfl, rfl, rfl, rfl, rfl, trivial⟩ rfl <| AW.ret ?_
 obtain rfl := si h
 exact Zg Tryz.results149 rfl (Z6 rfl)
end Go.Proofs.YtknpgojdkobgjaaGreat.W
set_option maxRecDepth 4000
namespace Go.Proofs.YtknpgojdkobgjaaGreat.W
open Go Go.Wb
theorem Zgq : Ent Tryz.prog 204 := Ent.mk Tryz.func204 rfl rfl
theorem Yck : Ent Tryz.prog 149 := Ent.mk Tryz.func149 rfl rfl
theorem Zwj : Ent Tryz.prog 205 := Ent.mk Tryz.func205 rfl rfl
theorem Y0a : Ent Tryz.prog 206 := Ent.mk Tryz.func206 rfl rfl
theorem Zwg : Ent Tryz.prog 208 := Ent.mk Tryz.func208 rfl rfl
theorem Ydo : Ent Tryz.prog 135 := Ent.mk Tryz.func135 rfl rfl
theorem Zu8 : Ent Tryz.prog 138 := Ent.mk Tryz.func138 rfl rfl
theorem Y82 : Ent Tryz.prog 136 := Ent.mk Tryz.func136 rfl rfl
theorem Y7d : Ent Tryz.prog 137 := Ent.mk Tryz.func137 rfl rfl
theorem e76 : Ent Tryz.prog 76 := Ent.mk Tryz.func76 rfl rfl
theorem e75 : Ent Tryz.prog 75 := Ent.mk Tryz.func75 rfl rfl
theorem Y8n : Ent Tryz.prog 146 := Ent.mk Tryz.func146 rfl rfl
theorem e22 : Ent Tryz.prog 22 := Ent.mk Tryz.func22 rfl rfl
theorem e85 : Ent Tryz.prog 85 := Ent.mk Tryz.func85 rfl rfl
def Zcx (l3 : (List Inst)) (at2 : Int) (b9 : walk_way) : Option (walk_way × Int × Bool) :=
 (Z8z l3 1).bind fun x10 => (bif ((x10.2 && (decide (x10.1.Table > at2))) && (decide (x10.1.Table < 4))) then some (b9, x10.1.Table, true) else (Zee b9.set).bind fun x12 => (Zbe b9 x12).bind fun x13 => some (x13, 0, false))
def Zd2 (l3 : (List Inst)) (at2 : Int) (b8 : walk_way) : Option (walk_way × Int × Bool) :=
 (Z8z l3 2).bind fun x14 => (bif x14.2 then (Z83 b8.got 1 x14.1.Value x14.1.Mask).bind fun x16 => Zcx l3 at2 { b8 with got := x16 } else Zcx l3 at2 b8)
def Zdz (l3 : (List Inst)) (at2 : Int) (b7 : walk_way) : Option (walk_way × Int × Bool) :=
 (Z8z l3 3).bind fun x17 => (bif x17.2 then (Zgz b7.set x17.1.Acts).bind fun x19 => Zd2 l3 at2 { b7 with set := x19 } else Zd2 l3 at2 b7)
def Zda (l3 : (List Inst)) (at2 : Int) (b6 : walk_way) : Option (walk_way × Int × Bool) :=
 (Z8z l3 5).bind fun x20 => (bif x20.2 then Zdz l3 at2 { b6 with set := [] } else Zdz l3 at2 b6)
def Zim (w1 : walk_way) (at2 : Int) (l3 : (List Inst)) : Option (walk_way × Int × Bool) :=
 (Z8z l3 4).bind fun x22 => (bif x22.2 then (Zbe w1 x22.1.Acts).bind fun x24 => Zda l3 at2 x24 else Zda l3 at2 w1)
theorem Ybj (w1 : walk_way) (at2 : Int) (l3 : (List Inst)) (r : (walk_way × Int × Bool)) (h : Zim w1 at2 l3 = some r) : PCon Tryz.prog 137 [rd Z0p w1, rd (Z0 .i64) at2, rd (Z4 Z0u) l3] (Z3n (rd Z0p r.1) (rd (Z0 .i64) r.2.1) (rd Z8 r.2.2)) := by
 refine PCon.of (Con.intro0 Tryz.func137 rfl Tryz.ntmps137 rfl fun w H => ?_)
 unfold Zim at h
 refine SR <| Ct rfl (Zo 4 rfl rfl (vt rfl)) ?_
 rintro _ ⟨g4, rfl⟩
 refine Ct rfl (Zm 7 rfl rfl Ze1) ?_
 rintro _ ⟨g5, rfl⟩
 refine Ak rfl <| Ab rfl <| Nl ?_
 refine AW.join (d := []) (ν := walk_way) (fun n => Zda l3 at2 n = some r) (fun n => [(1, rd (Z0 .i64) at2), (2, rd (Z4 Z0u) l3), (3, Z7 g4 (Lens.id Z0p)), (6, Z7 g5 (Lens.id Z0p))]) (fun n => [(4, Z9 g4 135 Z0p n), (7, Z9 g5 135 Z0p Z77)]) ?hx1 ?hy1
 case hy1 =>
  intro b6 h
  unfold Zda at h
  change AW _ _ _ ⟨Zw [(1, rd (Z0 .i64) at2), (2, rd (Z4 Z0u) l3), (3, Z7 g4 (Lens.id Z0p)), (6, Z7 g5 (Lens.id Z0p))], Zx [(4, Z9 g4 135 Z0p b6), (7, Z9 g5 135 Z0p Z77)], _⟩
  refine AW.join (d := []) (ν := walk_way) (fun n => Zdz l3 at2 n = some r) (fun n => [(1, rd (Z0 .i64) at2), (2, rd (Z4 Z0u) l3), (3, Z7 g4 (Lens.id Z0p)), (6, Z7 g5 (Lens.id Z0p))]) (fun n => [(4, Z9 g4 135 Z0p n), (7, Z9 g5 135 Z0p Z77)]) ?hx2 ?hy2
  case hy2 =>
   intro b7 h
   unfold Zdz at h
   change AW _ _ _ ⟨Zw [(1, rd (Z0 .i64) at2), (2, rd (Z4 Z0u) l3), (3, Z7 g4 (Lens.id Z0p)), (6, Z7 g5 (Lens.id Z0p))], Zx [(4, Z9 g4 135 Z0p b7), (7, Z9 g5 135 Z0p Z77)], _⟩
   refine AW.join (d := []) (ν := walk_way) (fun n => Zd2 l3 at2 n = some r) (fun n => [(1, rd (Z0 .i64) at2), (2, rd (Z4 Z0u) l3), (3, Z7 g4 (Lens.id Z0p)), (6, Z7 g5 (Lens.id Z0p))]) (fun n => [(4, Z9 g4 135 Z0p n), (7, Z9 g5 135 Z0p Z77)]) ?hx3 ?hy3
   case hy3 =>
    intro b8 h
    unfold Zd2 at h
    change AW _ _ _ ⟨Zw [(1, rd (Z0 .i64) at2), (2, rd (Z4 Z0u) l3), (3, Z7 g4 (Lens.id Z0p)), (6, Z7 g5 (Lens.id Z0p))], Zx [(4, Z9 g4 135 Z0p b8), (7, Z9 g5 135 Z0p Z77)], _⟩
    refine AW.join (d := []) (ν := walk_way) (fun n => Zcx l3 at2 n = some r) (fun n => [(1, rd (Z0 .i64) at2), (2, rd (Z4 Z0u) l3), (3, Z7 g4 (Lens.id Z0p)), (6, Z7 g5 (Lens.id Z0p))]) (fun n => [(4, Z9 g4 135 Z0p n), (7, Z9 g5 135 Z0p Z77)]) ?hx4 ?hy4
    case hy4 =>
     intro b9 h
     unfold Zcx at h
     change AW _ _ _ ⟨Zw [(1, rd (Z0 .i64) at2), (2, rd (Z4 Z0u) l3), (3, Z7 g4 (Lens.id Z0p)), (6, Z7 g5 (Lens.id Z0p))], Zx [(4, Z9 g4 135 Z0p b9), (7, Z9 g5 135 Z0p Z77)], _⟩
     refine AW.seq ?_
     obtain ⟨x10, hx10, h⟩ := Z1 h
     refine Rg <| Md rfl <| Ac (Z0k (xs := [.tmp 63, .const (Value.int IntKind.i64 1)]) (Zjf _ _ _ hx10) Zgq rfl rfl ⟨vt rfl, vk rfl, trivial⟩) rfl <| Mt2 rfl <| Ac (Z1p rfl rfl (vt rfl)) rfl <| Ac (Z1q rfl rfl (vt rfl)) rfl <| Ct rfl (Zm 18 rfl rfl Z3e) ?_
     rintro _ ⟨g11, rfl⟩
     refine Zh Z2y 18 rfl <| As rfl <| Nl <| AW.seq <| SR <| Md rfl <| Md rfl <| Gd rfl (fun hq => Z1w Zak rfl rfl Zem (vt rfl)) <| Gd rfl (fun hq => Z14 rfl rfl Zv (Zj rfl hq) (i := 18) rfl) <| Gd rfl (fun hq => Zs (A := rd (Z0 .i64) at2) rfl rfl (vt rfl)) <| Gd rfl (fun hq => Z3b rfl rfl (Zj rfl hq) (Zj rfl hq)) <| Ac (Z11 rfl rfl (vt rfl) (vt rfl)) rfl <| Md rfl <| Gd rfl (fun hq => Z1w Zak rfl rfl Zem (vt rfl)) <| Gd rfl (fun hq => Z14 rfl rfl Zv (Zj rfl hq) (i := 18) rfl) <| Gd rfl (fun hq => Zl rfl rfl (Zj rfl hq) (vk rfl)) <| Ac (Z11 rfl rfl (vt rfl) (vt rfl)) rfl <| Nl <| Cn rfl (fun hc => ?_) (fun hc => ?_)
     ·have h := Ze hc h
      refine AW.seq <| AW.regionAny [⟨[3], [79], [4], []⟩, ⟨[17], [80], [], []⟩, ⟨[80], [81], [18], []⟩, ⟨[6, 79], [], [7], [7]⟩, ⟨[81], [7], [], []⟩, ⟨[], [8], [], []⟩] Z06 (by kernel_rfl) <| Zq Z2z 4 rfl <| SFd Zak Zem rfl <| Zq Zv 18 rfl <| SSt Z2z 7 rfl <| SAs rfl <| Sc (lo [] [] rfl fun S hs hr => Z07 (A := rd Z8 true) rfl rfl vb) rfl <| AW.ret ?_
      obtain rfl := si h
      exact Zna Tryz.results137 rfl (Z04 rfl (i := 7) rfl Z2z) (Z6 rfl) (Z6 rfl)
     ·have h := Zf hc h
      refine AW.skip <| AW.seq ?_
      obtain ⟨x12, hx12, h⟩ := Z1 h
      obtain ⟨x13, hx13, h⟩ := Z1 h
      refine AW.regionAny [⟨[3], [82], [4], []⟩, ⟨[3], [83], [], []⟩, ⟨[83], [84], [4], []⟩, ⟨[84], [85], [], []⟩, ⟨[82, 85], [86], [], []⟩, ⟨[6, 86], [], [7], [7]⟩, ⟨[], [7], [], []⟩, ⟨[], [8], [], []⟩] Z06 (by kernel_rfl) <| Zq Z2z 4 rfl <| SFd Zgv Zn2 rfl <| Zq Z4b 4 rfl <| SCl [84] (Y08 _ _ hx12) Yck rfl <| SCl [82, 85] (Zz0 _ _ _ hx13) Zwj rfl <| SSt Z2z 7 rfl <| Sc (lo [] [] rfl fun S hs hr => Z07 (A := rd (Z0 .i64) 0) rfl rfl (vk rfl)) rfl <| Sc (lo [] [] rfl fun S hs hr => Z07 (A := rd Z8 false) rfl rfl vb) rfl <| AW.ret ?_
      obtain rfl := si h
      exact Zna Tryz.results137 rfl (Z04 rfl (i := 7) rfl Z2z) (Z6 rfl) (Z6 rfl)
    case hx4 =>
     refine AW.seq ?_
     obtain ⟨x14, hx14, h⟩ := Z1 h
     refine Rg <| Md rfl <| Ac (Z0k (xs := [.tmp 49, .const (Value.int IntKind.i64 2)]) (Zjf _ _ _ hx14) Zgq rfl rfl ⟨vt rfl, vk rfl, trivial⟩) rfl <| Mt2 rfl <| Ac (Z1p rfl rfl (vt rfl)) rfl <| Ac (Z1q rfl rfl (vt rfl)) rfl <| Ct rfl (Zm 16 rfl rfl Z3e) ?_
     rintro _ ⟨g15, rfl⟩
     refine Zh Z2y 16 rfl <| As rfl <| Nl <| SR <| Md rfl <| Nl <| Cn rfl (fun hc => ?_) (fun hc => ?_)
     ·have h := Ze hc h
      obtain ⟨x16, hx16, h⟩ := Z1 h
      refine Rg <| Zp Zbv Zh3 rfl <| Ld Z02 4 rfl <| Zp Zqp Zzq rfl <| Ld Zt 16 rfl <| Zp Znu Zrv rfl <| Ld Zt 16 rfl <| Ac (Z0k (xs := [.tmp 55, .const (Value.int IntKind.i64 1), .tmp 57, .tmp 59]) (Zgb _ _ _ _ _ hx16) Zh5 rfl rfl ⟨vt rfl, vk rfl, vt rfl, vt rfl, trivial⟩) rfl <| Zp Zbv Zh3 rfl <| Zh Z02 4 rfl <| Nl ?_
      exact ⟨{ b8 with got := x16 }, h, ⟨rfl, ⟨rfl, rfl, rfl, rfl, trivial⟩, ⟨rfl, rfl, trivial⟩⟩⟩
     ·have h := Zf hc h
      refine AW.skip ?_
      exact ⟨b8, h, ⟨rfl, ⟨rfl, rfl, rfl, rfl, trivial⟩, ⟨rfl, rfl, trivial⟩⟩⟩
   case hx3 =>
    refine AW.seq ?_
    obtain ⟨x17, hx17, h⟩ := Z1 h
    refine Rg <| Md rfl <| Ac (Z0k (xs := [.tmp 37, .const (Value.int IntKind.i64 3)]) (Zjf _ _ _ hx17) Zgq rfl rfl ⟨vt rfl, vk rfl, trivial⟩) rfl <| Mt2 rfl <| Ac (Z1p rfl rfl (vt rfl)) rfl <| Ac (Z1q rfl rfl (vt rfl)) rfl <| Ct rfl (Zm 14 rfl rfl Z3e) ?_
    rintro _ ⟨g18, rfl⟩
    refine Zh Z2y 14 rfl <| As rfl <| Nl <| SR <| Md rfl <| Nl <| Cn rfl (fun hc => ?_) (fun hc => ?_)
    ·have h := Ze hc h
     obtain ⟨x19, hx19, h⟩ := Z1 h
     refine Rg <| Zp Zgv Zn2 rfl <| Ld Z4b 4 rfl <| Zp Z8l Zbu rfl <| Ld Z4b 14 rfl <| Cl [43, 45] (Ybt _ _ _ hx19) Y0a rfl <| Zp Zgv Zn2 rfl <| Zh Z4b 4 rfl <| Nl ?_
     exact ⟨{ b7 with set := x19 }, h, ⟨rfl, ⟨rfl, rfl, rfl, rfl, trivial⟩, ⟨rfl, rfl, trivial⟩⟩⟩
    ·have h := Zf hc h
     refine AW.skip ?_
     exact ⟨b7, h, ⟨rfl, ⟨rfl, rfl, rfl, rfl, trivial⟩, ⟨rfl, rfl, trivial⟩⟩⟩
  case hx2 =>
   refine AW.seq ?_
   obtain ⟨x20, hx20, h⟩ := Z1 h
   refine Rg <| Md rfl <| Ac (Z0k (xs := [.tmp 30, .const (Value.int IntKind.i64 5)]) (Zjf _ _ _ hx20) Zgq rfl rfl ⟨vt rfl, vk rfl, trivial⟩) rfl <| Mt2 rfl <| Ac (Z1p rfl rfl (vt rfl)) rfl <| Ac (Z1q rfl rfl (vt rfl)) rfl <| Ct rfl (Zm 12 rfl rfl Z3e) ?_
   rintro _ ⟨g21, rfl⟩
   refine Zh Z2y 12 rfl <| As rfl <| Nl <| SR <| Md rfl <| Nl <| Cn rfl (fun hc => ?_) (fun hc => ?_)
   ·have h := Ze hc h
    refine Rg <| Zp Zgv Zn2 rfl <| Ac (Zct rfl rfl Z4b (vt rfl) (i := 4) rfl Z27) rfl <| Nl ?_
    exact ⟨{ b6 with set := [] }, h, ⟨rfl, ⟨rfl, rfl, rfl, rfl, trivial⟩, ⟨rfl, rfl, trivial⟩⟩⟩
   ·have h := Zf hc h
    refine AW.skip ?_
    exact ⟨b6, h, ⟨rfl, ⟨rfl, rfl, rfl, rfl, trivial⟩, ⟨rfl, rfl, trivial⟩⟩⟩
 case hx1 =>
  refine AW.seq ?_
  obtain ⟨x22, hx22, h⟩ := Z1 h
  refine Rg <| Md rfl <| Ac (Z0k (xs := [.tmp 20, .const (Value.int IntKind.i64 4)]) (Zjf _ _ _ hx22) Zgq rfl rfl ⟨vt rfl, vk rfl, trivial⟩) rfl <| Mt2 rfl <| Ac (Z1p rfl rfl (vt rfl)) rfl <| Ac (Z1q rfl rfl (vt rfl)) rfl <| Ct rfl (Zm 10 rfl rfl Z3e) ?_
  rintro _ ⟨g23, rfl⟩
  refine Zh Z2y 10 rfl <| As rfl <| Nl <| SR <| Md rfl <| Nl <| Cn rfl (fun hc => ?_) (fun hc => ?_)
  ·have h := Ze hc h
   obtain ⟨x24, hx24, h⟩ := Z1 h
   refine Rg <| Ld Z2z 4 rfl <| Zp Z8l Zbu rfl <| Ld Z4b 10 rfl <| Cl [25, 27] (Zz0 _ _ _ hx24) Zwj rfl <| Zh Z2z 4 rfl <| Nl ?_
   exact ⟨x24, h, ⟨rfl, ⟨rfl, rfl, rfl, rfl, trivial⟩, ⟨rfl, rfl, trivial⟩⟩⟩
  ·have h := Zf hc h
   refine AW.skip ?_
   exact ⟨w1, h, ⟨rfl, ⟨rfl, rfl, rfl, rfl, trivial⟩, ⟨rfl, rfl, trivial⟩⟩⟩
def Zc9 (s : List Atom) : Option (List Atom) := Z0w [] s
theorem Yfa (s : List Atom) (r : List Atom) (h : Zc9 s = some r) : Con Tryz.prog 208 [rd (Z4 Z03) s] emp (fun v => Zc v) (fun v => Za v 126 Z03 r) := by
 refine Con.intro0 Tryz.func208 rfl Tryz.ntmps208 rfl fun w H => ?_
 unfold Zc9 at h
 refine AW.newnil 1001 126 Z03 <| SR <| Ac (Z07 (A := Zc (.slice none 0 0)) rfl rfl vc) rfl <| Nl <| AW.seq <| SR <| Md rfl <| Ct rfl (Zjg rfl rfl Z3t (vt rfl)) ?_
 rintro _ ⟨b, hb, rfl⟩
 refine Nl <| Cn rfl (fun hc => ?_) (fun hc => ?_)
 ·obtain rfl := hb hc
  refine SR <| Ac (Z07 (A := Zc (.slice none 0 0)) rfl rfl vc) rfl <| Nl <| AW.ret ?_
  obtain rfl := (Zar h).2
  exact Z4k (i := 1001) Tryz.results208 rfl rfl rfl
 ·refine AW.skip <| SR <| Ct rfl (Z4c 1002 (ps := []) (l := []) rfl rfl Z3t Z4o rfl rfl rfl rfl) ?_
  rintro _ ⟨v1, rfl⟩
  refine Md rfl <| Ct rfl (Z2l 1002 h rfl rfl Z8g (vt rfl) rfl (vt rfl)) ?_
  rintro _ ⟨v2, rfl⟩
  refine Aw rfl <| Nl <| AW.ret ?_
  exact Z4k (i := 1002) Tryz.results208 rfl rfl rfl
theorem Zuc (s : List Atom) (r : List Atom) (h : Zc9 s = some r) : PCon Tryz.prog 208 [rd (Z4 Z03) s] (rd (Z4 Z03) r) := PCon.of_row (Yfa s r h)
def Zcy (w1 : walk_way) : Option Rule :=
 (Zc9 w1.atoms).bind fun x4 => some (⟨w1.cube, x4⟩ : Rule)
theorem Zzl (w1 : walk_way) (r : Rule) (h : Zcy w1 = some r) : PCon Tryz.prog 138 [rd Z0p w1] (rd Zy r) := by
 refine PCon.of (Con.intro0 Tryz.func138 rfl Tryz.ntmps138 rfl fun w H => ?_)
 unfold Zcy at h
 refine SR <| Ct rfl (Zo 2 rfl rfl (vt rfl)) ?_
 rintro _ ⟨g2, rfl⟩
 refine Ct rfl (Zm 3 rfl rfl Z4i) ?_
 rintro _ ⟨g3, rfl⟩
 refine Nl <| AW.seq ?_
 obtain ⟨x4, hx4, h⟩ := Z1 h
 refine AW.regionAny [⟨[1], [3], [], []⟩, ⟨[3], [4], [2], []⟩, ⟨[1], [5], [], []⟩, ⟨[5], [6], [2], []⟩, ⟨[6], [7], [], []⟩, ⟨[4, 7], [8], [], []⟩, ⟨[2, 8], [], [3], [3]⟩] Z06 (by kernel_rfl) <| SFd Zjx Znf rfl <| Zq Zz 2 rfl <| SFd Zf8 Zj3 rfl <| Zq Z79 2 rfl <| SCl [6] (Zuc _ _ hx4) Zwg rfl <| Sc (lo [4, 7] [] rfl fun S hs hr => Z01 (ps := [(0, .tmp 4), (1, .tmp 7)]) (x := (⟨w1.cube, x4⟩ : Rule)) rfl rfl rfl (by kernel_rfl) Z4i ⟨_, _, Z65, _, by kernel_rfl, (vh hs 4 rfl rfl), _, _, Z7q, _, by kernel_rfl, (vh hs 7 rfl rfl), rfl⟩) rfl <| SSt Z4g 3 rfl <| AW.ret ?_
 obtain rfl := si h
 exact Zg Tryz.results138 rfl (Z04 rfl (i := 3) rfl Z4g)
def Zje (sg : Type) (go1 : Nat → (Lp sg) → Option (Bool × Lp sg)) (i11 : Nat) (s22 : (Lp sg)) (ok23 : Bool) : Option (Bool × Lp sg) :=
 (bif (!ok23) then some (false, s22) else go1 (i11 + 1) s22)
def Z55 (sg : Type) (w5 : walk_way) (y1 : (sg → Rule → Option (Lp sg))) (at4 : Int) (s3 : Switch) (R_walk_search_table : ((Lp sg) → Switch → Int → walk_way → Option (Bool × Lp sg))) : (List Int) → Nat → (Lp sg) → Option (Bool × Lp sg)
 | [], i11, s10 => (Zcy w5).bind fun x13 => (yc y1 s10 x13).bind fun s14 => some ((Lp.isGo s14), s14)
 | x15 :: l12, i11, s10 => (chk 4 at4).bind fun j16 => (lget (Vector.get s3.Tables j16) x15).bind fun e17 => (Zgy w5 e17).bind fun x19 => (bif (!x19.2) then (Z55 sg w5 y1 at4 s3 R_walk_search_table l12) (i11 + 1) s10 else (Zim x19.1 at4 e17.Insts).bind fun x21 => (bif x21.2.2 then (R_walk_search_table s10 s3 x21.2.1 x21.1).bind fun b24 => Zje sg (Z55 sg w5 y1 at4 s3 R_walk_search_table l12) i11 b24.2 b24.1 else (Zcy x21.1).bind fun x25 => (yc y1 s10 x25).bind fun s26 => Zje sg (Z55 sg w5 y1 at4 s3 R_walk_search_table l12) i11 s26 (Lp.isGo s26)))
def Zhc (sg : Type) (y1 : (sg → Rule → Option (Lp sg))) (R_walk_search_table : ((Lp sg) → Switch → Int → walk_way → Option (Bool × Lp sg))) (s2 : (Lp sg)) (s3 : Switch) (at4 : Int) (w5 : walk_way) : Option (Bool × Lp sg) :=
 (chk 4 at4).bind fun j7 => (Zhu (Vector.get s3.Tables j7)).bind fun x8 => Z55 sg w5 y1 at4 s3 R_walk_search_table x8 0 s2
theorem Y3m (sg : Type) (y1 : (sg → Rule → Option (Lp sg))) (L : Lp sg → Res) (R_walk_search_table : ((Lp sg) → Switch → Int → walk_way → Option (Bool × Lp sg))) (hR_walk_search_table : ∀ (s2 : (Lp sg)) (s3 : Switch) (at4 : Int) (w5 : walk_way) (r : (Bool × Lp sg)), R_walk_search_table s2 s3 at4 w5 = some r → Con Tryz.prog 76 [rp (ksp Z0h (ydA Tryz.prog Zy y1 L)) s3, rd (Z0 .i64) at4, rd Z0p w5] (L s2) (fun _ : Unit => rd Z8 r.1) (fun _ => L r.2)) (s2 : (Lp sg)) (s3 : Switch) (at4 : Int) (w5 : walk_way) (r : (Bool × Lp sg)) (h : Zhc sg y1 R_walk_search_table s2 s3 at4 w5 = some r) : Con Tryz.prog 76 [rp (ksp Z0h (ydA Tryz.prog Zy y1 L)) s3, rd (Z0 .i64) at4, rd Z0p w5] (L s2) (fun _ : Unit => rd Z8 r.1) (fun _ => L r.2) := by
 refine Con.intro Tryz.func76 rfl Tryz.ntmps76 rfl fun w H X => ?_
 unfold Zhc at h
 refine SR <| Ct rfl (Zo 6 rfl rfl (vt rfl)) ?_
 rintro _ ⟨g6, rfl⟩
 refine Ab rfl <| Nl <| AW.scope <| AW.seq <| AW.label <| AW.seq <| AW.seq ?_
 obtain ⟨j7, hj7, h⟩ := Z1 h
 obtain ⟨x8, hx8, h⟩ := Z1 h
 refine Rg <| Mr rfl <| Md rfl <| Ac (Zk7 rfl rfl (vt rfl)) rfl <| Ac (Z6f (Zp1 Z0h (ydA Tryz.prog Zy y1 L)) rfl rfl (Zyf _) (vt rfl)) rfl <| Fp Za6 Zbo rfl <| Ac (Z5w rfl rfl Zb0 (vt rfl) (vt rfl) hj7) rfl <| Lp1 Z59 rfl <| Cl [20] (Yat _ _ hx8) Ydo rfl <| Ac (Z0j rfl rfl Z10 (vt rfl)) rfl <| Mk rfl <| Nl <| AW.block <| AW.loopG (d := []) (ν := (List Int) × Nat × (Lp sg)) (fun n => Sfx x8 n.2.1 n.1 ∧ Z55 sg w5 y1 at4 s3 R_walk_search_table n.1 n.2.1 n.2.2 = some r) (fun n => n.1.length) (fun n => [(0, rp (ksp Z0h (ydA Tryz.prog Zy y1 L)) s3), (1, rd (Z0 .i64) at4), (5, Z7 g6 (Lens.id Z0p)), (21, rd (Z4 (Z0 .i64)) x8), (22, rd (Z0 .i64) (x8.length : Int)), (23, rd (Z0 .i64) (n.2.1 : Int))]) (fun n => [(0, L n.2.2), (6, Z9 g6 135 Z0p w5)]) (x8, 0, s2) ⟨Sfx.start _, h⟩ ⟨rfl, ⟨rfl, rfl, rfl, rfl, rfl, rfl, trivial⟩, ⟨rfl, rfl, trivial⟩⟩ ?_
 rintro ⟨l12, i11, s10⟩ ⟨hsf1, h⟩
 change Sfx x8 i11 l12 at hsf1
 change Z55 sg w5 y1 at4 s3 R_walk_search_table l12 i11 s10 = some r at h
 change AW _ _ _ ⟨Zw [(0, rp (ksp Z0h (ydA Tryz.prog Zy y1 L)) s3), (1, rd (Z0 .i64) at4), (5, Z7 g6 (Lens.id Z0p)), (21, rd (Z4 (Z0 .i64)) x8), (22, rd (Z0 .i64) (x8.length : Int)), (23, rd (Z0 .i64) (i11 : Int))], Zx [(0, L s10), (6, Z9 g6 135 Z0p w5)], _⟩
 cases l12 with
 | nil =>
  unfold Z55 at h
  refine SR <| Ac (Zl rfl rfl (vt rfl) (vt rfl)) rfl <| Nl <| AW.seq <| Cn rfl (fun hc => absurd (of_decide_eq_true hc) hsf1.nil) (fun hc => ?_)
  refine AW.exit <| AW.seq ?_
  obtain ⟨x13, hx13, h⟩ := Z1 h
  obtain ⟨s14, hs14, h⟩ := Z1 h
  refine AW.regionAny [⟨[0], [69], [], []⟩, ⟨[69], [70], [], []⟩, ⟨[70], [71], [], []⟩, ⟨[71], [72], [], []⟩, ⟨[5], [73], [6], []⟩, ⟨[73], [74], [], []⟩, ⟨[72, 74], [75], [0], [0]⟩, ⟨[75], [6], [], []⟩] Z06 (by kernel_rfl) <| Sc (lo [0] [] rfl fun S hs hr => Zs (A := rp (ksp Z0h (ydA Tryz.prog Zy y1 L)) s3) rfl rfl (vh hs 0 rfl rfl)) rfl <| Sc (lo [69] [] rfl fun S hs hr => Zk7 rfl rfl (vh hs 69 rfl rfl)) rfl <| Sc (lo [70] [] rfl fun S hs hr => Z6f (Zrd Z0h (ydA Tryz.prog Zy y1 L)) rfl rfl (Zva _) (vh hs 70 rfl rfl)) rfl <| Sc (lo [71] [] rfl fun S hs hr => Zvg (A := ydA Tryz.prog Zy y1 L) rfl rfl rfl (Ztt _) (vh hs 71 rfl rfl)) rfl <| Zq Z2z 6 rfl <| SCl [73] (Zzl _ _ hx13) Zu8 rfl <| Sc (Z1b (us := [(75, rd Z8 (Lp.isGo s14))]) (ur := [(0, L s14)]) [72, 74] [0] rfl fun S hs hr => Zlz 0 hs14 rfl rfl (vh hs 72 rfl rfl) (vh hs 74 rfl rfl) ((hr 0 rfl).trans rfl)) rfl <| SAs rfl <| AW.ret ?_
  obtain rfl := si h
  exact Zki (i := 0) Tryz.results76 rfl (Z6 rfl) rfl
 | cons x15 l12 =>
  unfold Z55 at h
  generalize hgo1 : Z55 sg w5 y1 at4 s3 R_walk_search_table l12 = go1 at h
  refine SR <| Ac (Zl rfl rfl (vt rfl) (vt rfl)) rfl <| Nl <| AW.seq <| Cn rfl (fun hc => ?_) (fun hc => absurd hsf1.cons (of_decide_eq_false hc))
  have hlti11 := of_decide_eq_true hc
  refine AW.skip <| AW.seq <| AW.block <| SR <| Ac (Z0l rfl rfl Z10 (vt rfl) (vt rfl) hsf1.lget) rfl <| Lp1 Zv rfl <| As rfl <| Nl <| AW.seq ?_
  obtain ⟨j16, hj16, h⟩ := Z1 h
  obtain ⟨e17, he17, h⟩ := Z1 h
  refine Rg <| Mr rfl <| Md rfl <| Ac (Zk7 rfl rfl (vt rfl)) rfl <| Ac (Z6f (Zp1 Z0h (ydA Tryz.prog Zy y1 L)) rfl rfl (Zyf _) (vt rfl)) rfl <| Fp Za6 Zbo rfl <| Ac (Z5w rfl rfl Zb0 (vt rfl) (vt rfl) hj16) rfl <| Lp1 Z59 rfl <| Md rfl <| Ac (Z0l rfl rfl Z44 (vt rfl) (vt rfl) he17) rfl <| Lp1 Z6w rfl <| Ct rfl (Zm 10 rfl rfl Zca) ?_
  rintro _ ⟨g18, rfl⟩
  refine Zh Z6w 10 rfl <| Nl <| AW.seq ?_
  obtain ⟨x19, hx19, h⟩ := Z1 h
  refine Rg <| Ld Z2z 6 rfl <| Ld Z6w 10 rfl <| Cl [38, 39] (Y3y _ _ _ hx19) Y82 rfl <| Mt2 rfl <| Ac (Z1p rfl rfl (vt rfl)) rfl <| Ac (Z1q rfl rfl (vt rfl)) rfl <| Ct rfl (Zm 11 rfl rfl Ze1) ?_
  rintro _ ⟨g20, rfl⟩
  refine Zh Z2z 11 rfl <| As rfl <| Nl <| AW.seq <| SR <| Md rfl <| Ac (Z13 rfl rfl (vt rfl)) rfl <| Nl <| Cn rfl (fun hc => ?_) (fun hc => ?_)
  ·have h := Ze hc h
   refine AW.exit <| Rg <| Ac (Z1t (t := 22) rfl rfl (vt rfl) (vk rfl) (vt rfl) hlti11) rfl <| Md rfl <| Nl ?_
   subst hgo1
   exact ⟨(l12, i11 + 1, s10), Nat.lt_succ_self _, ⟨hsf1.next, h⟩, ⟨rfl, ⟨rfl, rfl, rfl, rfl, rfl, rfl, trivial⟩, ⟨rfl, rfl, trivial⟩⟩⟩
  ·have h := Zf hc h
   refine AW.skip <| AW.seq ?_
   obtain ⟨x21, hx21, h⟩ := Z1 h
   refine Rg <| Ld Z2z 11 rfl <| Md rfl <| Zp Z6p Zcf rfl <| Ld Zcr 10 rfl <| Cl [46, 47, 49] (Ybj _ _ _ _ hx21) Y7d rfl <| Ac (Zs (A := Z3n (rd Z0p x21.1) (rd (Z0 .i64) x21.2.1) (rd Z8 x21.2.2)) rfl rfl (vt rfl)) rfl <| Ac (Zmu rfl rfl (vt rfl)) rfl <| Ac (Zmi rfl rfl (vt rfl)) rfl <| Ac (Zk6 rfl rfl (vt rfl)) rfl <| Zh Z2z 11 rfl <| As rfl <| As rfl <| Nl ?_
   refine AW.join (d := []) (ν := (Lp sg) × Bool) (fun n => Zje sg go1 i11 n.1 n.2 = some r) (fun n => [(0, rp (ksp Z0h (ydA Tryz.prog Zy y1 L)) s3), (1, rd (Z0 .i64) at4), (5, Z7 g6 (Lens.id Z0p)), (11, rd Z8 n.2), (21, rd (Z4 (Z0 .i64)) x8), (22, rd (Z0 .i64) (x8.length : Int)), (23, rd (Z0 .i64) (i11 : Int))]) (fun n => [(0, L n.1), (6, Z9 g6 135 Z0p w5)]) ?hx2 ?hy2
   case hy2 =>
    rintro ⟨s22, ok23⟩ h
    unfold Zje at h
    change AW _ _ _ ⟨Zw [(0, rp (ksp Z0h (ydA Tryz.prog Zy y1 L)) s3), (1, rd (Z0 .i64) at4), (5, Z7 g6 (Lens.id Z0p)), (11, rd Z8 ok23), (21, rd (Z4 (Z0 .i64)) x8), (22, rd (Z0 .i64) (x8.length : Int)), (23, rd (Z0 .i64) (i11 : Int))], Zx [(0, L s22), (6, Z9 g6 135 Z0p w5)], _⟩
    refine SR <| Md rfl <| Ac (Z13 rfl rfl (vt rfl)) rfl <| Nl <| Cn rfl (fun hc => ?_) (fun hc => ?_)
    ·have h := Ze hc h
     refine SR <| Ab rfl <| Nl <| AW.ret ?_
     obtain rfl := si h
     exact Zki (i := 0) Tryz.results76 rfl (Z6 rfl) rfl
    ·have h := Zf hc h
     refine AW.skip <| Rg <| Ac (Z1t (t := 22) rfl rfl (vt rfl) (vk rfl) (vt rfl) hlti11) rfl <| Md rfl <| Nl ?_
     subst hgo1
     exact ⟨(l12, i11 + 1, s22), Nat.lt_succ_self _, ⟨hsf1.next, h⟩, ⟨rfl, ⟨rfl, rfl, rfl, rfl, rfl, rfl, trivial⟩, ⟨rfl, rfl, trivial⟩⟩⟩
   case hx2 =>
    refine SR <| Md rfl <| Nl <| Cn rfl (fun hc => ?_) (fun hc => ?_)
    ·have h := Ze hc h
     obtain ⟨b24, hb24, h⟩ := Z1 h
     refine Rg <| Mr rfl <| Md rfl <| Ld Z2z 11 rfl <| Ct rfl (Z1k 0 (xs := [.tmp 55, .tmp 56, .tmp 57]) (hR_walk_search_table _ _ _ _ _ hb24) e76 rfl rfl ⟨vt rfl, vt rfl, vt rfl, trivial⟩ rfl) ?_
     rintro _ ⟨_u, rfl⟩
     refine As rfl <| Nl ?_
     exact ⟨(b24.2, b24.1), h, ⟨rfl, ⟨rfl, rfl, rfl, rfl, rfl, rfl, rfl, trivial⟩, ⟨rfl, rfl, trivial⟩⟩⟩
    ·have h := Zf hc h
     obtain ⟨x25, hx25, h⟩ := Z1 h
     obtain ⟨s26, hs26, h⟩ := Z1 h
     refine AW.regionAny [⟨[0], [59], [], []⟩, ⟨[59], [60], [], []⟩, ⟨[60], [61], [], []⟩, ⟨[61], [62], [], []⟩, ⟨[10], [63], [11], []⟩, ⟨[63], [64], [], []⟩, ⟨[62, 64], [65], [0], [0]⟩, ⟨[65], [11], [], []⟩] Z06 (by kernel_rfl) <| Sc (lo [0] [] rfl fun S hs hr => Zs (A := rp (ksp Z0h (ydA Tryz.prog Zy y1 L)) s3) rfl rfl (vh hs 0 rfl rfl)) rfl <| Sc (lo [59] [] rfl fun S hs hr => Zk7 rfl rfl (vh hs 59 rfl rfl)) rfl <| Sc (lo [60] [] rfl fun S hs hr => Z6f (Zrd Z0h (ydA Tryz.prog Zy y1 L)) rfl rfl (Zva _) (vh hs 60 rfl rfl)) rfl <| Sc (lo [61] [] rfl fun S hs hr => Zvg (A := ydA Tryz.prog Zy y1 L) rfl rfl rfl (Ztt _) (vh hs 61 rfl rfl)) rfl <| Zq Z2z 11 rfl <| SCl [63] (Zzl _ _ hx25) Zu8 rfl <| Sc (Z1b (us := [(65, rd Z8 (Lp.isGo s26))]) (ur := [(0, L s26)]) [62, 64] [0] rfl fun S hs hr => Zlz 0 hs26 rfl rfl (vh hs 62 rfl rfl) (vh hs 64 rfl rfl) ((hr 0 rfl).trans rfl)) rfl <| SAs rfl ?_
     exact ⟨(s26, (Lp.isGo s26)), h, ⟨rfl, ⟨rfl, rfl, rfl, rfl, rfl, rfl, rfl, trivial⟩, ⟨rfl, rfl, trivial⟩⟩⟩
def Zb8 (sg : Type) (y1 : (sg → Rule → Option (Lp sg))) : Nat → ((Lp sg) → Switch → Int → walk_way → Option (Bool × Lp sg))
 | 0 => (fun _ _ _ _ => none)
 | n + 1 => Zhc sg y1 (Zb8 sg y1 n)
theorem Zxv (sg : Type) (y1 : (sg → Rule → Option (Lp sg))) (L : Lp sg → Res) : ∀ n : Nat, (∀ (s2 : (Lp sg)) (s3 : Switch) (at4 : Int) (w5 : walk_way) (r : (Bool × Lp sg)), (Zb8 sg y1 n) s2 s3 at4 w5 = some r → Con Tryz.prog 76 [rp (ksp Z0h (ydA Tryz.prog Zy y1 L)) s3, rd (Z0 .i64) at4, rd Z0p w5] (L s2) (fun _ : Unit => rd Z8 r.1) (fun _ => L r.2))
 | 0 => (by intros; rename_i h; cases h)
 | n + 1 => Y3m sg y1 L (Zb8 sg y1 n) (Zxv sg y1 L n)
def Znp (sg : Type) (y1 : (sg → Rule → Option (Lp sg))) (s2 : (Lp sg)) (s3 : Switch) (at4 : Int) (w5 : walk_way) : Option (Bool × Lp sg) := Zb8 sg y1 Z0x s2 s3 at4 w5
theorem Y8j (sg : Type) (y1 : (sg → Rule → Option (Lp sg))) (L : Lp sg → Res) : ∀ (s2 : (Lp sg)) (s3 : Switch) (at4 : Int) (w5 : walk_way) (r : (Bool × Lp sg)), (Znp sg y1) s2 s3 at4 w5 = some r → Con Tryz.prog 76 [rp (ksp Z0h (ydA Tryz.prog Zy y1 L)) s3, rd (Z0 .i64) at4, rd Z0p w5] (L s2) (fun _ : Unit => rd Z8 r.1) (fun _ => L r.2) := Zxv sg y1 L Z0x
def Zb1 (sg : Type) (yield1 : (sg → Rule → Option (Lp sg))) (s2 : (Lp sg)) (cp3 : Switch) : Option (Lp sg) :=
 (Zea).bind fun x5 => (Zf5).bind fun x6 => (Znp sg yield1 s2 cp3 0 (⟨x5, x6, [], []⟩ : walk_way)).bind fun b7 => some b7.2
theorem Ybw (sg : Type) (yield1 : (sg → Rule → Option (Lp sg))) (L : Lp sg → Res) (s2 : (Lp sg)) (cp3 : Switch) (r : (Lp sg)) (h : Zb1 sg yield1 s2 cp3 = some r) : Con Tryz.prog 75 [ydA Tryz.prog Zy yield1 L, rp Z0h cp3] (L s2) (fun _ : Unit => top) (fun _ => L r) := by
 refine Con.intro Tryz.func75 rfl Tryz.ntmps75 rfl fun w H X => ?_
 unfold Zb1 at h
 refine SR <| Lp1 Z3m rfl <| Ac (Zs (A := ydA Tryz.prog Zy yield1 L) rfl rfl (vt rfl)) rfl <| Ac (Y5x (x := cp3) rfl rfl (by kernel_rfl) Y68 (by kernel_rfl) (by kernel_rfl) (vt rfl) rfl) rfl <| Ac (Ydn rfl rfl (vt rfl)) rfl <| Ac (Z07 (A := rp (ksp Z0h (ydA Tryz.prog Zy yield1 L)) cp3) rfl rfl (vt rfl)) rfl <| Nl ?_
 obtain ⟨x5, hx5, h⟩ := Z1 h
 obtain ⟨x6, hx6, h⟩ := Z1 h
 obtain ⟨b7, hb7, h⟩ := Z1 h
 refine Rg <| Mr rfl <| Cl [] (Zrw _ hx5) e73 rfl <| Cl [] (Zxy _ hx6) e77 rfl <| Ac (Z01 (ps := [(0, .tmp 9), (1, .tmp 10)]) (x := (⟨x5, x6, [], []⟩ : walk_way)) rfl rfl rfl (by kernel_rfl) Ze1 ⟨_, _, Zjx, _, by kernel_rfl, (vt rfl), _, _, Zbv, _, by kernel_rfl, (vt rfl), rfl⟩) rfl <| Ct rfl (Z1k 0 (xs := [.tmp 8, .const (Value.int IntKind.i64 0), .tmp 11]) (Y8j sg yield1 L _ _ _ _ _ hb7) e76 rfl rfl ⟨vt rfl, vk rfl, vt rfl, trivial⟩ rfl) ?_
 rintro _ ⟨_u, rfl⟩
 refine Nl ?_
 obtain rfl := si h
 exact Z2n (i := 0) Tryz.results75 rfl rfl
def Zld (s1 : Switch) : Option (Itr Rule) :=
 some (Itr.mk fun σ y s => Zb1 σ y s s1)
theorem Y5z (s1 : Switch) (r : (Itr Rule)) (h : Zld s1 = some r) : PCon Tryz.prog 22 [rd Z0h s1] (Z58 Tryz.prog Zy r) := by
 refine PCon.of (Con.intro0 Tryz.func22 rfl Tryz.ntmps22 rfl fun w H => ?_)
 unfold Zld at h
 refine SR <| Ct rfl (Zo 2 rfl rfl (vt rfl)) ?_
 rintro _ ⟨g2, rfl⟩
 refine Ac (Z07 (A := Zc .nilFunc) rfl rfl vc) rfl <| Nl <| AW.seq <| AW.freezeB 1 2 rfl rfl rfl <| Rg <| Ac (Zxb (Itr.mk fun σ y s => Zb1 σ y s s1) (cs := [.tmp 1]) (CAs := [rp Z0h s1]) rfl rfl e75 ⟨vt rfl, trivial⟩ (fun σ y L s r h => Ybw σ y L s s1 r h)) rfl <| Ac (Z07 (A := Z58 Tryz.prog Zy (Itr.mk fun σ y s => Zb1 σ y s s1)) rfl rfl (vt rfl)) rfl <| Nl <| AW.ret ?_
 obtain rfl := si h
 exact Zg Tryz.results22 rfl (Z6 rfl)
def Zlf (q : Itr Rule) : Option (List Rule) := Zn0 q
theorem Yba (q : Itr Rule) (r : List Rule) (h : Zlf q = some r) : Con Tryz.prog 146 [Zc (.slice none 0 0), Z58 Tryz.prog Zy q] emp (fun v => Zc v) (fun v => Za v 90 Zy r) := by
 refine Con.intro0 Tryz.func146 rfl Tryz.ntmps146 rfl fun w H => ?_
 have h := Y18 h
 refine AW.newnil 1001 90 Zy <| SR <| Ct rfl (Zo (k := kraw) 3 rfl rfl (vkr (vt rfl) rfl)) ?_
 rintro _ ⟨g, rfl⟩
 refine Ac (Z07 (A := Zc (.slice none 0 0)) rfl rfl vc) rfl <| AOps.pack 3 1001 (by decide) rfl rfl <| Nl <| AW.seq <| SR <| Ac (Zs (A := Z58 Tryz.prog Zy q) rfl rfl (vt rfl)) rfl <| Nl <| AW.block <| AW.fit (d := []) (L := [(2, Z7 g (Lens.id kraw)), (6, Z58 Tryz.prog Zy q)]) (M := [(3, Z82 g 32 90 Zy [])]) ⟨rfl, ⟨rfl, rfl, trivial⟩, ⟨rfl, trivial⟩⟩ ?_
 refine AW.rangeFunc (fun x => [rd Zy x]) Zhp (fun s => Zx [(3, Z82 g 32 90 Zy s)]) (fun _ _ => Zx []) [(2, Z7 g (Lens.id kraw))]
  (fun s x S1 => ∃ g5, Fit S1 [] [(2, Z7 g (Lens.id kraw)), (5, Z7 g5 (Lens.id Zy))] [(3, Z82 g 32 90 Zy s), (6, Z9 g5 90 Zy x)]) 1003 (s0 := []) (sE := .go r)
  rfl (vt rfl) ⟨rfl, inferInstance, trivial⟩ rfl (fun _ => rfl) (by intro p hp; have hp : p ∈ [7] := hp; rw [List.mem_singleton.1 hp]; show 7 < 13; decide) ?ha ?hb (fun Lf => ⟨top, _, _, Lf, _, _, h, rfl, rfl, rfl, rfl⟩) ?he
 case ha =>
  intro s x r' hF l w H X
  refine Rg <| Ct rfl (Zm 6 rfl rfl Z4i) ?_
  rintro _ ⟨g5, rfl⟩
  refine Zh Z4g 6 rfl <| Nl ?_
  exact ⟨rfl, g5, rfl, ⟨rfl, rfl, trivial⟩, ⟨rfl, rfl, trivial⟩⟩
 case hb =>
  rintro s x r' hF S1 ⟨g5, hfit⟩ l w H X
  refine AW.fit hfit <| AW.bodyOf (M := fun s => [(3, Z82 g 32 90 Zy s)]) (Mx := fun _ _ => []) ?_
  obtain ⟨m, hm, hF⟩ := Z1 hF
  cases hF
  refine AW.block <| AW.unbox 3 1001 (by decide) rfl rfl fun v => Rg <| Ac (Zv3 (i := 3) rfl rfl Zoa (vt rfl) rfl) rfl <| Ld Z4g 6 rfl <| Ac (Z2o (ps := [(0, .tmp 9)]) (l := [x]) rfl rfl Z26 Z4i rfl rfl ⟨_, _, Lens.idx 1 Zy 0 (by decide), _, rfl, vt rfl, rfl⟩ rfl) rfl <| Ct rfl (Z2l 1001 hm rfl rfl Zii (vt rfl) rfl (vt rfl)) ?_
  rintro _ ⟨v2, rfl⟩
  refine Ac (Zct rfl rfl Zoa (vt rfl) (i := 3) rfl (Y39 (i := 1001) rfl rfl)) rfl <| AOps.pack 3 1001 (by decide) rfl rfl <| Nl ?_
  exact ⟨_, rfl, rfl, trivial⟩
 case he =>
  intro D
  refine AW.unbox 3 1001 (by decide) rfl rfl fun v => SR <| Ac (Zv3 (i := 3) rfl rfl Zoa (vt rfl) rfl) rfl <| Aw rfl <| Nl <| AW.ret ?_
  exact ⟨rfl, 1003, rfl, Z4k (i := 1001) Tryz.results146 rfl rfl rfl⟩
theorem Y1b (q : Itr Rule) (r : List Rule) (h : Zlf q = some r) : PCon Tryz.prog 146 [Zc (.slice none 0 0), Z58 Tryz.prog Zy q] (rd (Z4 Zy) r) := PCon.of_row (Yba q r h)
def Zmb (seq1 : (Itr Rule)) : Option (List Rule) :=
 (Zlf seq1).bind fun x2 => some x2
theorem Y34 (seq1 : (Itr Rule)) (r : (List Rule)) (h : Zmb seq1 = some r) : PCon Tryz.prog 85 [Z58 Tryz.prog Zy seq1] (rd (Z4 Zy) r) := by
 refine PCon.of (Con.intro0 Tryz.func85 rfl Tryz.ntmps85 rfl fun w H => ?_)
 unfold Zmb at h
 refine SR <| Ac (Z07 (A := rd (Z4 Zy) []) rfl rfl Z27) rfl <| Nl <| AW.seq ?_
 obtain ⟨x2, hx2, h⟩ := Z1 h
 refine Rg <| Ac (Zs (A := Z58 Tryz.prog Zy seq1) rfl rfl (vt rfl)) rfl <| Ac (Z0k (xs := [.const (Value.slice none 0 0), .tmp 3]) (Y1b _ _ hx2) Y8n rfl rfl ⟨vc, vt rfl, trivial⟩) rfl <| As rfl <| Nl <| AW.ret ?_
 obtain rfl := si h
 exact Zg Tryz.results85 rfl (Z6 rfl)
def Zcd (s1 : Switch) : Option (List Rule) :=
 (Zld s1).bind fun x3 => (Zmb x3).bind fun x4 => some x4
theorem Zyn (s1 : Switch) (r : (List Rule)) (h : Zcd s1 = some r) : PCon Tryz.prog 25 [rd Z0h s1] (rd (Z4 Zy) r) := by
 refine PCon.of (Con.intro0 Tryz.func25 rfl Tryz.ntmps25 rfl fun w H => ?_)
 unfold Zcd at h
 refine SR <| Ct rfl (Zo 2 rfl rfl (vt rfl)) ?_
 rintro _ ⟨g2, rfl⟩
 refine Ac (Z07 (A := rd (Z4 Zy) []) rfl rfl Z27) rfl <| Nl <| AW.seq ?_
 obtain ⟨x3, hx3, h⟩ := Z1 h
 obtain ⟨x4, hx4, h⟩ := Z1 h
 refine Rg <| Ld Z3m 2 rfl <| Cl [3] (Y5z _ _ hx3) e22 rfl <| Cl [4] (Y34 _ _ hx4) e85 rfl <| As rfl <| Nl <| AW.ret ?_
 obtain rfl := si h
 exact Zg Tryz.results25 rfl (Z6 rfl)
end Go.Proofs.YtknpgojdkobgjaaGreat.W
set_option maxRecDepth 4000
namespace Go.Proofs.YtknpgojdkobgjaaGreat.W
open Go Go.Wb
theorem e25 : Ent Tryz.prog 25 := Ent.mk Tryz.func25 rfl rfl
theorem Y7h : Ent Tryz.prog 198 := Ent.mk Tryz.func198 rfl rfl
theorem Zuo : Ent Tryz.prog 165 := Ent.mk Tryz.func165 rfl rfl
theorem Y17 : Ent Tryz.prog 256 := Ent.mk Tryz.func256 rfl rfl
theorem Y03 : Ent Tryz.prog 257 := Ent.mk Tryz.func257 rfl rfl
theorem Ydl : Ent Tryz.prog 199 := Ent.mk Tryz.func199 rfl rfl
def Z7y (s1 : (List Flow)) (f2 : (Flow → Option Bool)) : Nat → Nat → Option Int
 | 0, i3 => some (-1)
 | m4 + 1, i3 => (lget s1 (i3 : Int)).bind fun e5 => (f2 e5).bind fun x6 => (bif x6 then some (i3 : Int) else (Z7y s1 f2 m4) (i3 + 1))
def Zj8 (s1 : (List Flow)) (f2 : (Flow → Option Bool)) : Option Int :=
 Z7y s1 f2 ((s1.length : Int) : Int).toNat 0
theorem Y6z (s1 : (List Flow)) (f2 : (Flow → Option Bool)) (r : Int) (h : Zj8 s1 f2 = some r) : PCon Tryz.prog 198 [rd (Z4 Z0d) s1, fn1 Tryz.prog Z0d Z8 f2] (rd (Z0 .i64) r) := by
 refine PCon.of (Con.intro0 Tryz.func198 rfl Tryz.ntmps198 rfl fun w H => ?_)
 unfold Zj8 at h
 refine SR <| Ak rfl <| Nl <| AW.seq <| SR <| Md rfl <| Ac (Z0j rfl rfl Z44 (vt rfl)) rfl <| Mk rfl <| Nl <| AW.block <| AW.loopG (d := []) (ν := Nat × Nat) (fun n => Cnt (s1.length : Int) n.2 n.1 ∧ Z7y s1 f2 n.1 n.2 = some r) (fun n => n.1) (fun n => [(0, rd (Z4 Z0d) s1), (1, fn1 Tryz.prog Z0d Z8 f2), (7, rd (Z0 .i64) (s1.length : Int)), (8, rd (Z0 .i64) (n.2 : Int))]) (fun n => []) (((s1.length : Int) : Int).toNat, 0) ⟨Cnt.start _, h⟩ ⟨rfl, ⟨rfl, rfl, rfl, rfl, trivial⟩, trivial⟩ ?_
 rintro ⟨m4, i3⟩ ⟨hsf1, h⟩
 change Cnt (s1.length : Int) i3 m4 at hsf1
 change Z7y s1 f2 m4 i3 = some r at h
 change AW _ _ _ ⟨Zw [(0, rd (Z4 Z0d) s1), (1, fn1 Tryz.prog Z0d Z8 f2), (7, rd (Z0 .i64) (s1.length : Int)), (8, rd (Z0 .i64) (i3 : Int))], Zx [], _⟩
 cases m4 with
 | zero =>
  unfold Z7y at h
  refine SR <| Ac (Zl rfl rfl (vt rfl) (vt rfl)) rfl <| Nl <| AW.seq <| Cn rfl (fun hc => absurd (of_decide_eq_true hc) hsf1.zero) (fun hc => ?_)
  refine AW.exit <| SR <| Ak rfl <| Nl <| AW.ret ?_
  obtain rfl := si h
  exact Zg Tryz.results198 rfl (Z6 rfl)
 | succ m4 =>
  unfold Z7y at h
  generalize hgo1 : Z7y s1 f2 m4 = go1 at h
  refine SR <| Ac (Zl rfl rfl (vt rfl) (vt rfl)) rfl <| Nl <| AW.seq <| Cn rfl (fun hc => ?_) (fun hc => absurd hsf1.succ (of_decide_eq_false hc))
  have hlti3 := of_decide_eq_true hc
  refine AW.skip <| AW.seq <| AW.block <| SR <| Md rfl <| As rfl <| Nl <| AW.seq ?_
  obtain ⟨e5, he5, h⟩ := Z1 h
  obtain ⟨x6, hx6, h⟩ := Z1 h
  refine Rg <| Ac (Zs (A := fn1 Tryz.prog Z0d Z8 f2) rfl rfl (vt rfl)) rfl <| Md rfl <| Md rfl <| Ac (Z0l rfl rfl Z44 (vt rfl) (vt rfl) he5) rfl <| Lp1 Z6w rfl <| Ac (Za2 hx6 rfl rfl (vt rfl) (vt rfl)) rfl <| Nl <| Cn rfl (fun hc => ?_) (fun hc => ?_)
  ·have h := Ze hc h
   refine SR <| Md rfl <| As rfl <| Nl <| AW.ret ?_
   obtain rfl := si h
   exact Zg Tryz.results198 rfl (Z6 rfl)
  ·have h := Zf hc h
   refine AW.skip <| Rg <| Ac (Z1t (t := 7) rfl rfl (vt rfl) (vk rfl) (vt rfl) hlti3) rfl <| Md rfl <| Nl ?_
   subst hgo1
   exact ⟨(m4, i3 + 1), Nat.lt_succ_self _, ⟨hsf1.next, h⟩, ⟨rfl, ⟨rfl, rfl, rfl, rfl, trivial⟩, trivial⟩⟩
def Zgx (s1 : (List Flow)) (f2 : (Flow → Option Bool)) : Option Bool :=
 (Zj8 s1 f2).bind fun x3 => some (decide (x3 ≥ 0))
theorem Y42 (s1 : (List Flow)) (f2 : (Flow → Option Bool)) (r : Bool) (h : Zgx s1 f2 = some r) : PCon Tryz.prog 132 [rd (Z4 Z0d) s1, fn1 Tryz.prog Z0d Z8 f2] (rd Z8 r) := by
 refine PCon.of (Con.intro0 Tryz.func132 rfl Tryz.ntmps132 rfl fun w H => ?_)
 unfold Zgx at h
 refine SR <| Ab rfl <| Nl <| AW.seq ?_
 obtain ⟨x3, hx3, h⟩ := Z1 h
 refine Rg <| Md rfl <| Ac (Zs (A := fn1 Tryz.prog Z0d Z8 f2) rfl rfl (vt rfl)) rfl <| Cl [5, 6] (Y6z _ _ _ hx3) Y7h rfl <| Ac (Z5q rfl rfl (vt rfl) (vk rfl)) rfl <| As rfl <| Nl <| AW.ret ?_
 obtain rfl := si h
 exact Zg Tryz.results132 rfl (Z6 rfl)
def Zj5 (s1 : (List Inst)) (f2 : (Inst → Option Bool)) : Option Bool :=
 (Zd1 s1 f2).bind fun x3 => some (decide (x3 ≥ 0))
theorem Y1m (s1 : (List Inst)) (f2 : (Inst → Option Bool)) (r : Bool) (h : Zj5 s1 f2 = some r) : PCon Tryz.prog 256 [rd (Z4 Z0u) s1, fn1 Tryz.prog Z0u Z8 f2] (rd Z8 r) := by
 refine PCon.of (Con.intro0 Tryz.func256 rfl Tryz.ntmps256 rfl fun w H => ?_)
 unfold Zj5 at h
 refine SR <| Ab rfl <| Nl <| AW.seq ?_
 obtain ⟨x3, hx3, h⟩ := Z1 h
 refine Rg <| Md rfl <| Ac (Zs (A := fn1 Tryz.prog Z0u Z8 f2) rfl rfl (vt rfl)) rfl <| Cl [5, 6] (Zv9 _ _ _ hx3) Zz9 rfl <| Ac (Z5q rfl rfl (vt rfl) (vk rfl)) rfl <| As rfl <| Nl <| AW.ret ?_
 obtain rfl := si h
 exact Zg Tryz.results256 rfl (Z6 rfl)
def Zmk (l1 : (List Action)) : Option Bool :=
 some (decide ((l1.length : Int) ≤ 12))
theorem Zy5 (l1 : (List Action)) (r : Bool) (h : Zmk l1 = some r) : PCon Tryz.prog 165 [rd (Z4 Z5) l1] (rd Z8 r) := by
 refine PCon.of (Con.intro0 Tryz.func165 rfl Tryz.ntmps165 rfl fun w H => ?_)
 unfold Zmk at h
 refine SR <| Ab rfl <| Nl <| SR <| Md rfl <| Ac (Z0j rfl rfl Z0b (vt rfl)) rfl <| Ac (Z5e rfl rfl (vt rfl) (vk rfl)) rfl <| As rfl <| Nl <| AW.ret ?_
 obtain rfl := si h
 exact Zg Tryz.results165 rfl (Z6 rfl)
def Zkd (i1 : Inst) : Option Bool :=
 (Zmk i1.Acts).bind fun x3 => some (!x3)
theorem Y4x (i1 : Inst) (r : Bool) (h : Zkd i1 = some r) : PCon Tryz.prog 257 [rd Z0u i1] (rd Z8 r) := by
 refine PCon.of (Con.intro0 Tryz.func257 rfl Tryz.ntmps257 rfl fun w H => ?_)
 unfold Zkd at h
 refine SR <| Ct rfl (Zo 2 rfl rfl (vt rfl)) ?_
 rintro _ ⟨g2, rfl⟩
 refine Ab rfl <| Nl <| AW.seq ?_
 obtain ⟨x3, hx3, h⟩ := Z1 h
 refine Rg <| Zp Z8l Zbu rfl <| Ld Z4b 2 rfl <| Cl [4] (Zy5 _ _ hx3) Zuo rfl <| Ac (Z13 rfl rfl (vt rfl)) rfl <| As rfl <| Nl <| AW.ret ?_
 obtain rfl := si h
 exact Zg Tryz.results257 rfl (Z6 rfl)
def Ziu (l1 : (List Inst)) : Option Bool :=
 (opt (decide ((l1.length : Int) ≤ 8)) (Zj5 l1 Zkd)).bind fun x2 => some ((decide ((l1.length : Int) ≤ 8)) && (!x2))
theorem Y0m (l1 : (List Inst)) (r : Bool) (h : Ziu l1 = some r) : PCon Tryz.prog 199 [rd (Z4 Z0u) l1] (rd Z8 r) := by
 refine PCon.of (Con.intro0 Tryz.func199 rfl Tryz.ntmps199 rfl fun w H => ?_)
 unfold Ziu at h
 refine SR <| Ab rfl <| Nl <| AW.seq ?_
 obtain ⟨x2, hx2, h⟩ := Z1 h
 refine Rg <| Md rfl <| Ac (Z0j rfl rfl Z7w (vt rfl)) rfl <| Ac (Z5e rfl rfl (vt rfl) (vk rfl)) rfl <| Md rfl <| Gd rfl (fun hq => Zs (A := rd (Z4 Z0u) l1) rfl rfl (vt rfl)) <| Gd rfl (fun hq => Z0k (xs := [.tmp 7, .func 257]) (Y1m _ _ _ (Z1g hx2 hq)) Y17 rfl rfl ⟨Zj rfl hq, vf1 Y03 Y4x, trivial⟩) <| Gd rfl (fun hq => Z13 rfl rfl (Zj rfl hq)) <| Ac (Z11 rfl rfl (vt rfl) (vt rfl)) rfl <| As rfl <| Nl <| AW.ret ?_
 obtain rfl := si h
 exact Zg Tryz.results199 rfl (Z6 rfl)
def Zgu (f1 : Flow) : Option Bool :=
 (opt (decide ((f1.Match.length : Int) ≤ 30)) (Ziu f1.Insts)).bind fun x3 => some ((decide ((f1.Match.length : Int) ≤ 30)) && x3)
theorem Y9s (f1 : Flow) (r : Bool) (h : Zgu f1 = some r) : PCon Tryz.prog 134 [rd Z0d f1] (rd Z8 r) := by
 refine PCon.of (Con.intro0 Tryz.func134 rfl Tryz.ntmps134 rfl fun w H => ?_)
 unfold Zgu at h
 refine SR <| Ct rfl (Zo 2 rfl rfl (vt rfl)) ?_
 rintro _ ⟨g2, rfl⟩
 refine Ab rfl <| Nl <| AW.seq ?_
 obtain ⟨x3, hx3, h⟩ := Z1 h
 refine Rg <| Zp Zm4 Zp5 rfl <| Ld Zod 2 rfl <| Ac (Z0j rfl rfl Zc1 (vt rfl)) rfl <| Ac (Z5e rfl rfl (vt rfl) (vk rfl)) rfl <| Md rfl <| Gd rfl (fun hq => Z1w Z6p rfl rfl Zcf (vt rfl)) <| Gd rfl (fun hq => Z14 rfl rfl Zcr (Zj rfl hq) (i := 2) rfl) <| Gd rfl (fun hq => Z0k (xs := [.tmp 9]) (Y0m _ _ (Z1g hx3 hq)) Ydl rfl rfl ⟨Zj rfl hq, trivial⟩) <| Ac (Z11 rfl rfl (vt rfl) (vt rfl)) rfl <| As rfl <| Nl <| AW.ret ?_
 obtain rfl := si h
 exact Zg Tryz.results134 rfl (Z6 rfl)
end Go.Proofs.YtknpgojdkobgjaaGreat.W
set_option maxRecDepth 4000
namespace Go.Proofs.YtknpgojdkobgjaaGreat.W
open Go Go.Wb
theorem Ybh : Ent Tryz.prog 134 := Ent.mk Tryz.func134 rfl rfl
theorem Y1p : Ent Tryz.prog 132 := Ent.mk Tryz.func132 rfl rfl
theorem Y9h : Ent Tryz.prog 133 := Ent.mk Tryz.func133 rfl rfl
theorem Y6i : Ent Tryz.prog 231 := Ent.mk Tryz.func231 rfl rfl
theorem Y9w : Ent Tryz.prog 163 := Ent.mk Tryz.func163 rfl rfl
theorem Ye3 : Ent Tryz.prog 164 := Ent.mk Tryz.func164 rfl rfl
theorem Yek : Ent Tryz.prog 100 := Ent.mk Tryz.func100 rfl rfl
theorem Zwt : Ent Tryz.prog 162 := Ent.mk Tryz.func162 rfl rfl
def Zic (f1 : Flow) : Option Bool :=
 (Zgu f1).bind fun x3 => some (!x3)
theorem Y3x (f1 : Flow) (r : Bool) (h : Zic f1 = some r) : PCon Tryz.prog 133 [rd Z0d f1] (rd Z8 r) := by
 refine PCon.of (Con.intro0 Tryz.func133 rfl Tryz.ntmps133 rfl fun w H => ?_)
 unfold Zic at h
 refine SR <| Ct rfl (Zo 2 rfl rfl (vt rfl)) ?_
 rintro _ ⟨g2, rfl⟩
 refine Ab rfl <| Nl <| AW.seq ?_
 obtain ⟨x3, hx3, h⟩ := Z1 h
 refine Rg <| Ld Z6w 2 rfl <| Cl [3] (Y9s _ _ hx3) Ybh rfl <| Ac (Z13 rfl rfl (vt rfl)) rfl <| As rfl <| Nl <| AW.ret ?_
 obtain rfl := si h
 exact Zg Tryz.results133 rfl (Z6 rfl)
def Zgp (l1 : (List Flow)) (many2 : Int) : Option Bool :=
 (opt (decide ((l1.length : Int) ≤ many2)) (Zgx l1 Zic)).bind fun x3 => some ((decide ((l1.length : Int) ≤ many2)) && (!x3))
theorem Y6r (l1 : (List Flow)) (many2 : Int) (r : Bool) (h : Zgp l1 many2 = some r) : PCon Tryz.prog 74 [rd (Z4 Z0d) l1, rd (Z0 .i64) many2] (rd Z8 r) := by
 refine PCon.of (Con.intro0 Tryz.func74 rfl Tryz.ntmps74 rfl fun w H => ?_)
 unfold Zgp at h
 refine SR <| Ab rfl <| Nl <| AW.seq ?_
 obtain ⟨x3, hx3, h⟩ := Z1 h
 refine Rg <| Md rfl <| Ac (Z0j rfl rfl Z44 (vt rfl)) rfl <| Md rfl <| Ac (Z5e rfl rfl (vt rfl) (vt rfl)) rfl <| Md rfl <| Gd rfl (fun hq => Zs (A := rd (Z4 Z0d) l1) rfl rfl (vt rfl)) <| Gd rfl (fun hq => Z0k (xs := [.tmp 10, .func 133]) (Y42 _ _ _ (Z1g hx3 hq)) Y1p rfl rfl ⟨Zj rfl hq, vf1 Y9h Y3x, trivial⟩) <| Gd rfl (fun hq => Z13 rfl rfl (Zj rfl hq)) <| Ac (Z11 rfl rfl (vt rfl) (vt rfl)) rfl <| As rfl <| Nl <| AW.ret ?_
 obtain rfl := si h
 exact Zg Tryz.results74 rfl (Z6 rfl)
def Z95 (s1 : (List Bucket)) (f2 : (Bucket → Option Bool)) : Nat → Nat → Option Int
 | 0, i3 => some (-1)
 | m4 + 1, i3 => (lget s1 (i3 : Int)).bind fun e5 => (f2 e5).bind fun x6 => (bif x6 then some (i3 : Int) else (Z95 s1 f2 m4) (i3 + 1))
def Zjp (s1 : (List Bucket)) (f2 : (Bucket → Option Bool)) : Option Int :=
 Z95 s1 f2 ((s1.length : Int) : Int).toNat 0
theorem Yei (s1 : (List Bucket)) (f2 : (Bucket → Option Bool)) (r : Int) (h : Zjp s1 f2 = some r) : PCon Tryz.prog 231 [rd (Z4 Z0t) s1, fn1 Tryz.prog Z0t Z8 f2] (rd (Z0 .i64) r) := by
 refine PCon.of (Con.intro0 Tryz.func231 rfl Tryz.ntmps231 rfl fun w H => ?_)
 unfold Zjp at h
 refine SR <| Ak rfl <| Nl <| AW.seq <| SR <| Md rfl <| Ac (Z0j rfl rfl Z53 (vt rfl)) rfl <| Mk rfl <| Nl <| AW.block <| AW.loopG (d := []) (ν := Nat × Nat) (fun n => Cnt (s1.length : Int) n.2 n.1 ∧ Z95 s1 f2 n.1 n.2 = some r) (fun n => n.1) (fun n => [(0, rd (Z4 Z0t) s1), (1, fn1 Tryz.prog Z0t Z8 f2), (7, rd (Z0 .i64) (s1.length : Int)), (8, rd (Z0 .i64) (n.2 : Int))]) (fun n => []) (((s1.length : Int) : Int).toNat, 0) ⟨Cnt.start _, h⟩ ⟨rfl, ⟨rfl, rfl, rfl, rfl, trivial⟩, trivial⟩ ?_
 rintro ⟨m4, i3⟩ ⟨hsf1, h⟩
 change Cnt (s1.length : Int) i3 m4 at hsf1
 change Z95 s1 f2 m4 i3 = some r at h
 change AW _ _ _ ⟨Zw [(0, rd (Z4 Z0t) s1), (1, fn1 Tryz.prog Z0t Z8 f2), (7, rd (Z0 .i64) (s1.length : Int)), (8, rd (Z0 .i64) (i3 : Int))], Zx [], _⟩
 cases m4 with
 | zero =>
  unfold Z95 at h
  refine SR <| Ac (Zl rfl rfl (vt rfl) (vt rfl)) rfl <| Nl <| AW.seq <| Cn rfl (fun hc => absurd (of_decide_eq_true hc) hsf1.zero) (fun hc => ?_)
  refine AW.exit <| SR <| Ak rfl <| Nl <| AW.ret ?_
  obtain rfl := si h
  exact Zg Tryz.results231 rfl (Z6 rfl)
 | succ m4 =>
  unfold Z95 at h
  generalize hgo1 : Z95 s1 f2 m4 = go1 at h
  refine SR <| Ac (Zl rfl rfl (vt rfl) (vt rfl)) rfl <| Nl <| AW.seq <| Cn rfl (fun hc => ?_) (fun hc => absurd hsf1.succ (of_decide_eq_false hc))
  have hlti3 := of_decide_eq_true hc
  refine AW.skip <| AW.seq <| AW.block <| SR <| Md rfl <| As rfl <| Nl <| AW.seq ?_
  obtain ⟨e5, he5, h⟩ := Z1 h
  obtain ⟨x6, hx6, h⟩ := Z1 h
  refine Rg <| Ac (Zs (A := fn1 Tryz.prog Z0t Z8 f2) rfl rfl (vt rfl)) rfl <| Md rfl <| Md rfl <| Ac (Z0l rfl rfl Z53 (vt rfl) (vt rfl) he5) rfl <| Lp1 Zc0 rfl <| Ac (Za2 hx6 rfl rfl (vt rfl) (vt rfl)) rfl <| Nl <| Cn rfl (fun hc => ?_) (fun hc => ?_)
  ·have h := Ze hc h
   refine SR <| Md rfl <| As rfl <| Nl <| AW.ret ?_
   obtain rfl := si h
   exact Zg Tryz.results231 rfl (Z6 rfl)
  ·have h := Zf hc h
   refine AW.skip <| Rg <| Ac (Z1t (t := 7) rfl rfl (vt rfl) (vk rfl) (vt rfl) hlti3) rfl <| Md rfl <| Nl ?_
   subst hgo1
   exact ⟨(m4, i3 + 1), Nat.lt_succ_self _, ⟨hsf1.next, h⟩, ⟨rfl, ⟨rfl, rfl, rfl, rfl, trivial⟩, trivial⟩⟩
def Zfp (s1 : (List Bucket)) (f2 : (Bucket → Option Bool)) : Option Bool :=
 (Zjp s1 f2).bind fun x3 => some (decide (x3 ≥ 0))
theorem Yf8 (s1 : (List Bucket)) (f2 : (Bucket → Option Bool)) (r : Bool) (h : Zfp s1 f2 = some r) : PCon Tryz.prog 163 [rd (Z4 Z0t) s1, fn1 Tryz.prog Z0t Z8 f2] (rd Z8 r) := by
 refine PCon.of (Con.intro0 Tryz.func163 rfl Tryz.ntmps163 rfl fun w H => ?_)
 unfold Zfp at h
 refine SR <| Ab rfl <| Nl <| AW.seq ?_
 obtain ⟨x3, hx3, h⟩ := Z1 h
 refine Rg <| Md rfl <| Ac (Zs (A := fn1 Tryz.prog Z0t Z8 f2) rfl rfl (vt rfl)) rfl <| Cl [5, 6] (Yei _ _ _ hx3) Y6i rfl <| Ac (Z5q rfl rfl (vt rfl) (vk rfl)) rfl <| As rfl <| Nl <| AW.ret ?_
 obtain rfl := si h
 exact Zg Tryz.results163 rfl (Z6 rfl)
def Zmy (x1 : Bucket) : Option Bool :=
 (Zmk x1.Acts).bind fun x3 => some (!x3)
theorem Ydv (x1 : Bucket) (r : Bool) (h : Zmy x1 = some r) : PCon Tryz.prog 164 [rd Z0t x1] (rd Z8 r) := by
 refine PCon.of (Con.intro0 Tryz.func164 rfl Tryz.ntmps164 rfl fun w H => ?_)
 unfold Zmy at h
 refine SR <| Ct rfl (Zo 2 rfl rfl (vt rfl)) ?_
 rintro _ ⟨g2, rfl⟩
 refine Ab rfl <| Nl <| AW.seq ?_
 obtain ⟨x3, hx3, h⟩ := Z1 h
 refine Rg <| Zp Zew Zid rfl <| Ld Z4b 2 rfl <| Cl [4] (Zy5 _ _ hx3) Zuo rfl <| Ac (Z13 rfl rfl (vt rfl)) rfl <| As rfl <| Nl <| AW.ret ?_
 obtain rfl := si h
 exact Zg Tryz.results164 rfl (Z6 rfl)
def Ziw (l1 : (List Bucket)) (many2 : Int) : Option Bool :=
 (opt (decide ((l1.length : Int) ≤ many2)) (Zfp l1 Zmy)).bind fun x3 => some ((decide ((l1.length : Int) ≤ many2)) && (!x3))
theorem Y9z (l1 : (List Bucket)) (many2 : Int) (r : Bool) (h : Ziw l1 many2 = some r) : PCon Tryz.prog 100 [rd (Z4 Z0t) l1, rd (Z0 .i64) many2] (rd Z8 r) := by
 refine PCon.of (Con.intro0 Tryz.func100 rfl Tryz.ntmps100 rfl fun w H => ?_)
 unfold Ziw at h
 refine SR <| Ab rfl <| Nl <| AW.seq ?_
 obtain ⟨x3, hx3, h⟩ := Z1 h
 refine Rg <| Md rfl <| Ac (Z0j rfl rfl Z53 (vt rfl)) rfl <| Md rfl <| Ac (Z5e rfl rfl (vt rfl) (vt rfl)) rfl <| Md rfl <| Gd rfl (fun hq => Zs (A := rd (Z4 Z0t) l1) rfl rfl (vt rfl)) <| Gd rfl (fun hq => Z0k (xs := [.tmp 10, .func 164]) (Yf8 _ _ _ (Z1g hx3 hq)) Y9w rfl rfl ⟨Zj rfl hq, vf1 Ye3 Ydv, trivial⟩) <| Gd rfl (fun hq => Z13 rfl rfl (Zj rfl hq)) <| Ac (Z11 rfl rfl (vt rfl) (vt rfl)) rfl <| As rfl <| Nl <| AW.ret ?_
 obtain rfl := si h
 exact Zg Tryz.results100 rfl (Z6 rfl)
def Zdm (g1 : Group) (cp2 : Int) : Option Bool :=
 (Ziw g1.Buckets cp2).bind fun x4 => some (!x4)
theorem Yec (g1 : Group) (cp2 : Int) (r : Bool) (h : Zdm g1 cp2 = some r) : PCon Tryz.prog 99 [rd Z0e g1, rp (Z0 .i64) cp2] (rd Z8 r) := by
 refine PCon.of (Con.intro0 Tryz.func99 rfl Tryz.ntmps99 rfl fun w H => ?_)
 unfold Zdm at h
 refine SR <| Ct rfl (Zo 3 rfl rfl (vt rfl)) ?_
 rintro _ ⟨g3, rfl⟩
 refine Ab rfl <| Nl <| AW.seq ?_
 obtain ⟨x4, hx4, h⟩ := Z1 h
 refine Rg <| Zp Zcw Zgt rfl <| Ld Zgg 3 rfl <| Lp1 Zv rfl <| Cl [5, 6] (Y9z _ _ _ hx4) Yek rfl <| Ac (Z13 rfl rfl (vt rfl)) rfl <| As rfl <| Nl <| AW.ret ?_
 obtain rfl := si h
 exact Zg Tryz.results99 rfl (Z6 rfl)
def Z8e (s1 : (List Group)) (f2 : (Group → Option Bool)) : Nat → Nat → Option Int
 | 0, i3 => some (-1)
 | m4 + 1, i3 => (lget s1 (i3 : Int)).bind fun e5 => (f2 e5).bind fun x6 => (bif x6 then some (i3 : Int) else (Z8e s1 f2 m4) (i3 + 1))
def Zdd (s1 : (List Group)) (f2 : (Group → Option Bool)) : Option Int :=
 Z8e s1 f2 ((s1.length : Int) : Int).toNat 0
theorem Zsx (s1 : (List Group)) (f2 : (Group → Option Bool)) (r : Int) (h : Zdd s1 f2 = some r) : PCon Tryz.prog 162 [rd (Z4 Z0e) s1, fn1 Tryz.prog Z0e Z8 f2] (rd (Z0 .i64) r) := by
 refine PCon.of (Con.intro0 Tryz.func162 rfl Tryz.ntmps162 rfl fun w H => ?_)
 unfold Zdd at h
 refine SR <| Ak rfl <| Nl <| AW.seq <| SR <| Md rfl <| Ac (Z0j rfl rfl Z3a (vt rfl)) rfl <| Mk rfl <| Nl <| AW.block <| AW.loopG (d := []) (ν := Nat × Nat) (fun n => Cnt (s1.length : Int) n.2 n.1 ∧ Z8e s1 f2 n.1 n.2 = some r) (fun n => n.1) (fun n => [(0, rd (Z4 Z0e) s1), (1, fn1 Tryz.prog Z0e Z8 f2), (7, rd (Z0 .i64) (s1.length : Int)), (8, rd (Z0 .i64) (n.2 : Int))]) (fun n => []) (((s1.length : Int) : Int).toNat, 0) ⟨Cnt.start _, h⟩ ⟨rfl, ⟨rfl, rfl, rfl, rfl, trivial⟩, trivial⟩ ?_
 rintro ⟨m4, i3⟩ ⟨hsf1, h⟩
 change Cnt (s1.length : Int) i3 m4 at hsf1
 change Z8e s1 f2 m4 i3 = some r at h
 change AW _ _ _ ⟨Zw [(0, rd (Z4 Z0e) s1), (1, fn1 Tryz.prog Z0e Z8 f2), (7, rd (Z0 .i64) (s1.length : Int)), (8, rd (Z0 .i64) (i3 : Int))], Zx [], _⟩
 cases m4 with
 | zero =>
  unfold Z8e at h
  refine SR <| Ac (Zl rfl rfl (vt rfl) (vt rfl)) rfl <| Nl <| AW.seq <| Cn rfl (fun hc => absurd (of_decide_eq_true hc) hsf1.zero) (fun hc => ?_)
  refine AW.exit <| SR <| Ak rfl <| Nl <| AW.ret ?_
  obtain rfl := si h
  exact Zg Tryz.results162 rfl (Z6 rfl)
 | succ m4 =>
  unfold Z8e at h
  generalize hgo1 : Z8e s1 f2 m4 = go1 at h
  refine SR <| Ac (Zl rfl rfl (vt rfl) (vt rfl)) rfl <| Nl <| AW.seq <| Cn rfl (fun hc => ?_) (fun hc => absurd hsf1.succ (of_decide_eq_false hc))
  have hlti3 := of_decide_eq_true hc
  refine AW.skip <| AW.seq <| AW.block <| SR <| Md rfl <| As rfl <| Nl <| AW.seq ?_
  obtain ⟨e5, he5, h⟩ := Z1 h
  obtain ⟨x6, hx6, h⟩ := Z1 h
  refine Rg <| Ac (Zs (A := fn1 Tryz.prog Z0e Z8 f2) rfl rfl (vt rfl)) rfl <| Md rfl <| Md rfl <| Ac (Z0l rfl rfl Z3a (vt rfl) (vt rfl) he5) rfl <| Lp1 Z40 rfl <| Ac (Za2 hx6 rfl rfl (vt rfl) (vt rfl)) rfl <| Nl <| Cn rfl (fun hc => ?_) (fun hc => ?_)
  ·have h := Ze hc h
   refine SR <| Md rfl <| As rfl <| Nl <| AW.ret ?_
   obtain rfl := si h
   exact Zg Tryz.results162 rfl (Z6 rfl)
  ·have h := Zf hc h
   refine AW.skip <| Rg <| Ac (Z1t (t := 7) rfl rfl (vt rfl) (vk rfl) (vt rfl) hlti3) rfl <| Md rfl <| Nl ?_
   subst hgo1
   exact ⟨(m4, i3 + 1), Nat.lt_succ_self _, ⟨hsf1.next, h⟩, ⟨rfl, ⟨rfl, rfl, rfl, rfl, trivial⟩, trivial⟩⟩
def Zie (s1 : (List Group)) (f2 : (Group → Option Bool)) : Option Bool :=
 (Zdd s1 f2).bind fun x3 => some (decide (x3 ≥ 0))
theorem Y0f (s1 : (List Group)) (f2 : (Group → Option Bool)) (r : Bool) (h : Zie s1 f2 = some r) : PCon Tryz.prog 98 [rd (Z4 Z0e) s1, fn1 Tryz.prog Z0e Z8 f2] (rd Z8 r) := by
 refine PCon.of (Con.intro0 Tryz.func98 rfl Tryz.ntmps98 rfl fun w H => ?_)
 unfold Zie at h
 refine SR <| Ab rfl <| Nl <| AW.seq ?_
 obtain ⟨x3, hx3, h⟩ := Z1 h
 refine Rg <| Md rfl <| Ac (Zs (A := fn1 Tryz.prog Z0e Z8 f2) rfl rfl (vt rfl)) rfl <| Cl [5, 6] (Zsx _ _ _ hx3) Zwt rfl <| Ac (Z5q rfl rfl (vt rfl) (vk rfl)) rfl <| As rfl <| Nl <| AW.ret ?_
 obtain rfl := si h
 exact Zg Tryz.results98 rfl (Z6 rfl)
end Go.Proofs.YtknpgojdkobgjaaGreat.W
set_option maxRecDepth 4000
namespace Go.Proofs.YtknpgojdkobgjaaGreat.W
open Go Go.Wb
theorem e99 : Ent Tryz.prog 99 := Ent.mk Tryz.func99 rfl rfl
theorem e98 : Ent Tryz.prog 98 := Ent.mk Tryz.func98 rfl rfl
theorem e40 : Ent Tryz.prog 40 := Ent.mk Tryz.func40 rfl rfl
theorem e74 : Ent Tryz.prog 74 := Ent.mk Tryz.func74 rfl rfl
theorem Y79 : Ent Tryz.prog 342 := Ent.mk Tryz.func342 rfl rfl
theorem Yap : Ent Tryz.prog 334 := Ent.mk Tryz.func334 rfl rfl
def Zgr (l1 : (List Group)) (many2 : Int) (buckets3 : Int) : Option Bool :=
 (opt (decide ((l1.length : Int) ≤ many2)) (Zie l1 (fun x => Zdm x buckets3))).bind fun x5 => some ((decide ((l1.length : Int) ≤ many2)) && (!x5))
theorem Y2d (l1 : (List Group)) (many2 : Int) (buckets3 : Int) (r : Bool) (h : Zgr l1 many2 buckets3 = some r) : PCon Tryz.prog 40 [rd (Z4 Z0e) l1, rd (Z0 .i64) many2, rd (Z0 .i64) buckets3] (rd Z8 r) := by
 refine PCon.of (Con.intro0 Tryz.func40 rfl Tryz.ntmps40 rfl fun w H => ?_)
 unfold Zgr at h
 refine SR <| Ct rfl (Zo 6 rfl rfl (vt rfl)) ?_
 rintro _ ⟨g4, rfl⟩
 refine Ab rfl <| Nl <| AW.seq <| AW.freezeB 5 6 rfl rfl rfl ?_
 obtain ⟨x5, hx5, h⟩ := Z1 h
 refine Rg <| Md rfl <| Ac (Z0j rfl rfl Z3a (vt rfl)) rfl <| Md rfl <| Ac (Z5e rfl rfl (vt rfl) (vt rfl)) rfl <| Md rfl <| Gd rfl (fun hq => Zs (A := rd (Z4 Z0e) l1) rfl rfl (vt rfl)) <| Gd rfl (fun hq => Z9w (cs := [.tmp 5]) (CAs := [rp (Z0 .i64) buckets3]) (fun x => Zdm x buckets3) rfl rfl e99 ⟨vt rfl, trivial⟩ (fun x y h => Yec _ _ y h)) <| Gd rfl (fun hq => Z0k (xs := [.tmp 12, .tmp 13]) (Y0f _ _ _ (Z1g hx5 hq)) e98 rfl rfl ⟨Zj rfl hq, Zj rfl hq, trivial⟩) <| Gd rfl (fun hq => Z13 rfl rfl (Zj rfl hq)) <| Ac (Z11 rfl rfl (vt rfl) (vt rfl)) rfl <| As rfl <| Nl <| AW.ret ?_
 obtain rfl := si h
 exact Zg Tryz.results40 rfl (Z6 rfl)
def Z71 (s1 : Switch) (many2 : Int) : (List (List Flow)) → Nat → Option Bool
 | [], i4 => (Zgr s1.Groups 9 3).bind fun x6 => some x6
 | x7 :: l5, i4 => (Zgp x7 many2).bind fun x8 => (bif (!x8) then some false else (Z71 s1 many2 l5) (i4 + 1))
def Zi8 (s1 : Switch) (many2 : Int) : Option Bool :=
 Z71 s1 many2 (Vector.toList s1.Tables) 0
theorem Yf6 (s1 : Switch) (many2 : Int) (r : Bool) (h : Zi8 s1 many2 = some r) : PCon Tryz.prog 21 [rd Z0h s1, rd (Z0 .i64) many2] (rd Z8 r) := by
 refine PCon.of (Con.intro0 Tryz.func21 rfl Tryz.ntmps21 rfl fun w H => ?_)
 unfold Zi8 at h
 refine SR <| Ct rfl (Zo 3 rfl rfl (vt rfl)) ?_
 rintro _ ⟨g3, rfl⟩
 refine Ab rfl <| Nl <| AW.seq <| SR <| Zp Za6 Zbo rfl <| Ld Y8u 3 rfl <| Mk rfl <| Nl <| AW.block <| AW.loopG (d := []) (ν := (List (List Flow)) × Nat) (fun n => Sfx (Vector.toList s1.Tables) n.2 n.1 ∧ Z71 s1 many2 n.1 n.2 = some r) (fun n => n.1.length) (fun n => [(1, rd (Z0 .i64) many2), (2, Z7 g3 (Lens.id Z0h)), (8, rd (Z2 4 (Z4 Z0d)) s1.Tables), (9, rd (Z0 .i64) (n.2 : Int))]) (fun n => [(3, Z9 g3 26 Z0h s1)]) ((Vector.toList s1.Tables), 0) ⟨Sfx.start _, h⟩ ⟨rfl, ⟨rfl, rfl, rfl, rfl, trivial⟩, ⟨rfl, trivial⟩⟩ ?_
 rintro ⟨l5, i4⟩ ⟨hsf1, h⟩
 change Sfx (Vector.toList s1.Tables) i4 l5 at hsf1
 change Z71 s1 many2 l5 i4 = some r at h
 change AW _ _ _ ⟨Zw [(1, rd (Z0 .i64) many2), (2, Z7 g3 (Lens.id Z0h)), (8, rd (Z2 4 (Z4 Z0d)) s1.Tables), (9, rd (Z0 .i64) (i4 : Int))], Zx [(3, Z9 g3 26 Z0h s1)], _⟩
 cases l5 with
 | nil =>
  unfold Z71 at h
  refine SR <| Ac (Zl rfl rfl (vt rfl) (vk rfl)) rfl <| Nl <| AW.seq <| Cn rfl (fun hc => absurd (of_decide_eq_true hc) (hsf1.niln (by simp))) (fun hc => ?_)
  refine AW.exit <| AW.seq ?_
  obtain ⟨x6, hx6, h⟩ := Z1 h
  refine Rg <| Zp Zr1 Ztc rfl <| Ld Zh2 3 rfl <| Ac (Z0k (xs := [.tmp 18, .const (Value.int IntKind.i64 9), .const (Value.int IntKind.i64 3)]) (Y2d _ _ _ _ hx6) e40 rfl rfl ⟨vt rfl, vk rfl, vk rfl, trivial⟩) rfl <| As rfl <| Nl <| AW.ret ?_
  obtain rfl := si h
  exact Zg Tryz.results21 rfl (Z6 rfl)
 | cons x7 l5 =>
  unfold Z71 at h
  generalize hgo1 : Z71 s1 many2 l5 = go1 at h
  refine SR <| Ac (Zl rfl rfl (vt rfl) (vk rfl)) rfl <| Nl <| AW.seq <| Cn rfl (fun hc => ?_) (fun hc => absurd (hsf1.consn (by simp)) (of_decide_eq_false hc))
  have hlti4 := of_decide_eq_true hc
  refine AW.skip <| AW.seq <| AW.block <| SR <| Ac (Zcj rfl rfl Zb0 Z59 (vt rfl) (vt rfl) hsf1.lget) rfl <| As rfl <| Nl <| AW.seq ?_
  obtain ⟨x8, hx8, h⟩ := Z1 h
  refine Rg <| Md rfl <| Md rfl <| Cl [12, 13] (Y6r _ _ _ hx8) e74 rfl <| Ac (Z13 rfl rfl (vt rfl)) rfl <| Nl <| Cn rfl (fun hc => ?_) (fun hc => ?_)
  ·have h := Ze hc h
   refine SR <| Ab rfl <| Nl <| AW.ret ?_
   obtain rfl := si h
   exact Zg Tryz.results21 rfl (Z6 rfl)
  ·have h := Zf hc h
   refine AW.skip <| Rg <| Ac (Z7g rfl rfl (vt rfl) (vk rfl) rfl hlti4) rfl <| Md rfl <| Nl ?_
   subst hgo1
   exact ⟨(l5, i4 + 1), Nat.lt_succ_self _, ⟨hsf1.next, h⟩, ⟨rfl, ⟨rfl, rfl, rfl, rfl, trivial⟩, ⟨rfl, trivial⟩⟩⟩
def Zlo : Option (Vector Tern 24) :=
 some (Vector.replicate 24 zTern)
theorem Y4t (r : (Vector Tern 24)) (h : Zlo = some r) : PCon Tryz.prog 79 [] (rd (Z2 24 Z3) r) := by
 refine PCon.of (Con.intro0 Tryz.func79 rfl Tryz.ntmps79 rfl fun w H => ?_)
 unfold Zlo at h
 refine SR <| Ct rfl (Zm 1 rfl rfl Z0v) ?_
 rintro _ ⟨g1, rfl⟩
 refine Nl <| SR <| Ac (Z01 (ps := []) (x := (Vector.replicate 24 zTern)) rfl rfl rfl (by kernel_rfl) Z0v rfl) rfl <| Zh Zz 1 rfl <| Nl <| AW.ret ?_
 obtain rfl := si h
 exact Zg Tryz.results79 rfl (Z04 rfl (i := 1) rfl Zz)
def Z98 : Option (Vector Tern 24) :=
 some (Vector.replicate 24 zTern)
theorem Zgf (r : (Vector Tern 24)) (h : Z98 = some r) : PCon Tryz.prog 80 [] (rd (Z2 24 Z3) r) := by
 refine PCon.of (Con.intro0 Tryz.func80 rfl Tryz.ntmps80 rfl fun w H => ?_)
 unfold Z98 at h
 refine SR <| Ct rfl (Zm 1 rfl rfl Z2u) ?_
 rintro _ ⟨g1, rfl⟩
 refine Nl <| SR <| Ac (Z01 (ps := []) (x := (Vector.replicate 24 zTern)) rfl rfl rfl (by kernel_rfl) Z2u rfl) rfl <| Zh Z02 1 rfl <| Nl <| AW.ret ?_
 obtain rfl := si h
 exact Zg Tryz.results80 rfl (Z04 rfl (i := 1) rfl Z02)
def Z80 (at11 : Int) (go1 : (List Int) → Int → Option (List Int)) (i8 : Int) : Nat → (List Int) → Int → Option (List Int)
 | 0, _, _ => none
 | m22 + 1, l20, j21 => (bif (decide (j21 > at11)) then (lget l20 (IntKind.i64.wrap (j21 - 1))).bind fun e23 => (lget l20 j21).bind fun e24 => (Z80 at11 go1 i8 m22) (List.set l20 j21.toNat e23) (IntKind.i64.wrap (j21 - 1)) else (lget l20 at11).bind fun e25 => go1 (List.set l20 at11.toNat i8) (IntKind.i64.wrap (i8 + 1)))
def Z8d (l6 : (List Int)) (t1 : (List Flow)) (i8 : Int) (go1 : (List Int) → Int → Option (List Int)) : Nat → Int → Option (List Int)
 | 0, _ => none
 | m12 + 1, at11 => (opt (decide (at11 > 0)) (lget l6 (IntKind.i64.wrap (at11 - 1)))).bind fun e13 => (opt (decide (at11 > 0)) (lget t1 e13)).bind fun e14 => (opt (decide (at11 > 0)) (lget t1 i8)).bind fun e15 => (bif ((decide (at11 > 0)) && (decide (e14.Priority < e15.Priority))) then (Z8d l6 t1 i8 go1 m12) (IntKind.i64.wrap (at11 - 1)) else (Z0w l6 [0]).bind fun l16 => Z80 at11 go1 i8 ((((IntKind.i64.wrap ((l16.length : Int) - 1)) : Int) - at11).toNat + 1) l16 (IntKind.i64.wrap ((l16.length : Int) - 1)))
def Z9j (t1 : (List Flow)) : Nat → (List Int) → Int → Option (List Int)
 | 0, _, _ => none
 | m9 + 1, l6, i8 => (bif (decide (i8 < (t1.length : Int))) then Z8d l6 t1 i8 (Z9j t1 m9) Z0x (l6.length : Int) else some l6)
def Zhh (t1 : (List Flow)) : Option (List Int) :=
 Z9j t1 ((((t1.length : Int) : Int) - 0).toNat + 1) [] 0
theorem Y4h (t1 : (List Flow)) (r : (List Int)) (h : Zhh t1 = some r) : PCon Tryz.prog 139 [rd (Z4 Z0d) t1] (rd (Z4 (Z0 .i64)) r) := by
 refine PCon.of (Con.intro0 Tryz.func139 rfl Tryz.ntmps139 rfl fun w H => ?_)
 unfold Zhh at h
 refine SR <| Ac (Z07 (A := rd (Z4 (Z0 .i64)) []) rfl rfl Z27) rfl <| Nl <| SR <| Ct rfl (Z4c 1001 (ps := []) (l := []) rfl rfl Z10 zr3 rfl rfl rfl rfl) ?_
 rintro _ ⟨v2, rfl⟩
 refine Aw rfl <| Nl <| AW.seq <| SR <| Ak rfl <| Nl <| AW.block <| AW.loopG (d := []) (ν := Nat × (List Int) × Int × Value) (fun n => True ∧ Z9j t1 n.1 n.2.1 n.2.2.1 = some r) (fun n => n.1) (fun n => [(0, rd (Z4 Z0d) t1), (3, Zc n.2.2.2), (4, rd (Z0 .i64) n.2.2.1)]) (fun n => [(1001, Za n.2.2.2 3 (Z0 .i64) n.2.1)]) (((((t1.length : Int) : Int) - 0).toNat + 1), [], 0, v2) ⟨trivial, h⟩ ⟨rfl, ⟨rfl, rfl, rfl, trivial⟩, ⟨rfl, trivial⟩⟩ ?_
 rintro ⟨m9, l6, i8, v7⟩ ⟨hsf1, h⟩
 change True at hsf1
 change Z9j t1 m9 l6 i8 = some r at h
 change AW _ _ _ ⟨Zw [(0, rd (Z4 Z0d) t1), (3, Zc v7), (4, rd (Z0 .i64) i8)], Zx [(1001, Za v7 3 (Z0 .i64) l6)], _⟩
 cases m9 with
 | zero => cases h
 | succ m9 =>
  unfold Z9j at h
  generalize hgo1 : Z9j t1 m9 = go1 at h
  refine AW.seq <| SR <| Md rfl <| Md rfl <| Ac (Z0j rfl rfl Z44 (vt rfl)) rfl <| Ac (Zl rfl rfl (vt rfl) (vt rfl)) rfl <| Nl <| Cn rfl (fun hc => ?_) (fun hc => ?_)
  ·have h := Ze hc h
   refine AW.skip <| AW.seq <| AW.block <| SR <| Mw rfl <| Ac (Z5h 1001 rfl rfl Z10 (vt rfl) rfl) rfl <| As rfl <| Nl <| AW.seq <| AW.block <| AW.loopG (d := []) (ν := Nat × Int) (fun n => True ∧ Z8d l6 t1 i8 go1 n.1 n.2 = some r) (fun n => n.1) (fun n => [(0, rd (Z4 Z0d) t1), (3, Zc v7), (4, rd (Z0 .i64) i8), (5, rd (Z0 .i64) n.2)]) (fun n => [(1001, Za v7 3 (Z0 .i64) l6)]) (Z0x, (l6.length : Int)) ⟨trivial, h⟩ ⟨rfl, ⟨rfl, rfl, rfl, rfl, trivial⟩, ⟨rfl, trivial⟩⟩ ?_
   rintro ⟨m12, at11⟩ ⟨hsf2, h⟩
   change True at hsf2
   change Z8d l6 t1 i8 go1 m12 at11 = some r at h
   change AW _ _ _ ⟨Zw [(0, rd (Z4 Z0d) t1), (3, Zc v7), (4, rd (Z0 .i64) i8), (5, rd (Z0 .i64) at11)], Zx [(1001, Za v7 3 (Z0 .i64) l6)], _⟩
   cases m12 with
   | zero => cases h
   | succ m12 =>
    unfold Z8d at h
    generalize hgo2 : Z8d l6 t1 i8 go1 m12 = go2 at h
    refine AW.seq <| AW.seq ?_
    obtain ⟨e13, he13, h⟩ := Z1 h
    obtain ⟨e14, he14, h⟩ := Z1 h
    obtain ⟨e15, he15, h⟩ := Z1 h
    refine AW.regionAny [⟨[5], [16], [], []⟩, ⟨[16], [17], [], []⟩, ⟨[17], [18], [], []⟩, ⟨[0, 18], [19], [], []⟩, ⟨[3, 18], [20], [], []⟩, ⟨[5, 18], [21], [], []⟩, ⟨[21, 18], [22], [], []⟩, ⟨[20, 22, 18], [23], [1001], []⟩, ⟨[23, 18], [24], [1001], []⟩, ⟨[19, 24, 18], [25], [], []⟩, ⟨[25, 18], [26], [], []⟩, ⟨[26, 18], [27], [], []⟩, ⟨[0, 18], [28], [], []⟩, ⟨[4, 18], [29], [], []⟩, ⟨[28, 29, 18], [30], [], []⟩, ⟨[30, 18], [31], [], []⟩, ⟨[31, 18], [32], [], []⟩, ⟨[27, 32, 18], [33], [], []⟩, ⟨[33, 18], [34], [], []⟩] Z06 (by kernel_rfl) <| Zu rfl <| Sc (lo [16] [] rfl fun S hs hr => Z3b rfl rfl (vh hs 16 rfl rfl) (vk rfl)) rfl <| Zu rfl <| Sc (lg [0, 18] [] rfl fun hq S hs hr => Zs (A := rd (Z4 Z0d) t1) rfl rfl (vh hs 0 rfl rfl)) rfl <| Sc (lg [3, 18] [] rfl fun hq S hs hr => Zs (A := Zc v7) rfl rfl (vh hs 3 rfl rfl)) rfl <| Sc (lg [5, 18] [] rfl fun hq S hs hr => Zs (A := rd (Z0 .i64) at11) rfl rfl (vh hs 5 rfl rfl)) rfl <| Sc (lg [21, 18] [] rfl fun hq S hs hr => Z0n rfl rfl (Zj ((hs 21 rfl).trans rfl) hq) (vk rfl)) rfl <| Sc (lg [20, 22, 18] [1001] rfl fun hq S hs hr => Z1o 1001 rfl rfl Z10 (Zj ((hs 20 rfl).trans rfl) hq) ((hr 1001 rfl).trans rfl) (Zj ((hs 22 rfl).trans rfl) hq) (Z1g he13 hq)) rfl <| Sc (lg [23, 18] [1001] rfl fun hq S hs hr => Z1d 1001 rfl rfl Zv (Zj ((hs 23 rfl).trans rfl) hq) ((hr 1001 rfl).trans rfl) (Z0g (Z1g he13 hq)).2) rfl <| Sc (lg [19, 24, 18] [] rfl fun hq S hs hr => Z0l rfl rfl Z44 (Zj ((hs 19 rfl).trans rfl) hq) (Zj ((hs 24 rfl).trans rfl) hq) (Z1g he14 hq)) rfl <| Sc (lg [25, 18] [] rfl fun hq S hs hr => Z6f Z8w rfl rfl Zd5 (Zj ((hs 25 rfl).trans rfl) hq)) rfl <| Sc (lg [26, 18] [] rfl fun hq S hs hr => Z9f rfl rfl Zv (Zj ((hs 26 rfl).trans rfl) hq)) rfl <| Sc (lg [0, 18] [] rfl fun hq S hs hr => Zs (A := rd (Z4 Z0d) t1) rfl rfl (vh hs 0 rfl rfl)) rfl <| Sc (lg [4, 18] [] rfl fun hq S hs hr => Zs (A := rd (Z0 .i64) i8) rfl rfl (vh hs 4 rfl rfl)) rfl <| Sc (lg [28, 29, 18] [] rfl fun hq S hs hr => Z0l rfl rfl Z44 (Zj ((hs 28 rfl).trans rfl) hq) (Zj ((hs 29 rfl).trans rfl) hq) (Z1g he15 hq)) rfl <| Sc (lg [30, 18] [] rfl fun hq S hs hr => Z6f Z8w rfl rfl Zd5 (Zj ((hs 30 rfl).trans rfl) hq)) rfl <| Sc (lg [31, 18] [] rfl fun hq S hs hr => Z9f rfl rfl Zv (Zj ((hs 31 rfl).trans rfl) hq)) rfl <| Sc (lg [27, 32, 18] [] rfl fun hq S hs hr => Zl rfl rfl (Zj ((hs 27 rfl).trans rfl) hq) (Zj ((hs 32 rfl).trans rfl) hq)) rfl <| Sc (lo [33, 18] [] rfl fun S hs hr => Z11 rfl rfl (vh hs 18 rfl rfl) (vh hs 33 rfl rfl)) rfl <| Cn rfl (fun hc => ?_) (fun hc => ?_)
    ·have h := Ze hc h
     refine AW.skip <| AW.block <| Rg <| Md rfl <| Ac (Z0n rfl rfl (vt rfl) (vk rfl)) rfl <| As rfl <| Nl ?_
     subst hgo2
     exact ⟨(m12, (IntKind.i64.wrap (at11 - 1))), Nat.lt_succ_self _, ⟨trivial, h⟩, ⟨rfl, ⟨rfl, rfl, rfl, rfl, trivial⟩, ⟨rfl, trivial⟩⟩⟩
    ·have h := Zf hc h
     refine AW.exit <| AW.seq ?_
     obtain ⟨l16, hl16, h⟩ := Z1 h
     refine Rg <| Mw rfl <| Ac (Z2o (ps := [(0, .const (Value.int IntKind.i64 0))]) (l := [0]) rfl rfl Z10 zr3 rfl rfl ⟨_, _, Lens.idx 1 (Z0 .i64) 0 (by decide), _, rfl, (vk rfl), rfl⟩ rfl) rfl <| Ct rfl (Z2l 1001 hl16 rfl rfl Zm7 (vt rfl) rfl (vt rfl)) ?_
     rintro _ ⟨v17, rfl⟩
     refine Aw rfl <| Nl <| AW.seq <| SR <| Mw rfl <| Ac (Z5h 1001 rfl rfl Z10 (vt rfl) rfl) rfl <| Ac (Z0n rfl rfl (vt rfl) (vk rfl)) rfl <| As rfl <| Nl <| AW.block <| AW.loopG (d := []) (ν := Nat × (List Int) × Int) (fun n => True ∧ Z80 at11 go1 i8 n.1 n.2.1 n.2.2 = some r) (fun n => n.1) (fun n => [(0, rd (Z4 Z0d) t1), (3, Zc v17), (4, rd (Z0 .i64) i8), (5, rd (Z0 .i64) at11), (6, rd (Z0 .i64) n.2.2)]) (fun n => [(1001, Za v17 3 (Z0 .i64) n.2.1)]) (((((IntKind.i64.wrap ((l16.length : Int) - 1)) : Int) - at11).toNat + 1), l16, (IntKind.i64.wrap ((l16.length : Int) - 1))) ⟨trivial, h⟩ ⟨rfl, ⟨rfl, rfl, rfl, rfl, rfl, trivial⟩, ⟨rfl, trivial⟩⟩ ?_
     rintro ⟨m22, l20, j21⟩ ⟨hsf3, h⟩
     change True at hsf3
     change Z80 at11 go1 i8 m22 l20 j21 = some r at h
     change AW _ _ _ ⟨Zw [(0, rd (Z4 Z0d) t1), (3, Zc v17), (4, rd (Z0 .i64) i8), (5, rd (Z0 .i64) at11), (6, rd (Z0 .i64) j21)], Zx [(1001, Za v17 3 (Z0 .i64) l20)], _⟩
     cases m22 with
     | zero => cases h
     | succ m22 =>
      unfold Z80 at h
      generalize hgo3 : Z80 at11 go1 i8 m22 = go3 at h
      refine AW.seq <| SR <| Md rfl <| Md rfl <| Ac (Z3b rfl rfl (vt rfl) (vt rfl)) rfl <| Nl <| Cn rfl (fun hc => ?_) (fun hc => ?_)
      ·have h := Ze hc h
       refine AW.skip <| AW.seq <| AW.block ?_
       obtain ⟨e23, he23, h⟩ := Z1 h
       obtain ⟨e24, he24, h⟩ := Z1 h
       refine Rg <| Mw rfl <| Md rfl <| Mw rfl <| Md rfl <| Ac (Z0n rfl rfl (vt rfl) (vk rfl)) rfl <| Ac (Z1o 1001 rfl rfl Z10 (vt rfl) rfl (vt rfl) he23) rfl <| Ac (Z1d 1001 rfl rfl Zv (vt rfl) rfl (Z0g he23).2) rfl <| Ac (Z1o 1001 rfl rfl Z10 (vt rfl) rfl (vt rfl) he24) rfl <| Ac (Z28 1001 rfl rfl Zv (vt rfl) rfl (Z0g he24).2 (vt rfl)) rfl <| Nl <| Rg <| Md rfl <| Ac (Z0n rfl rfl (vt rfl) (vk rfl)) rfl <| As rfl <| Nl ?_
       subst hgo3
       exact ⟨(m22, (List.set l20 j21.toNat e23), (IntKind.i64.wrap (j21 - 1))), Nat.lt_succ_self _, ⟨trivial, h⟩, ⟨rfl, ⟨rfl, rfl, rfl, rfl, rfl, trivial⟩, ⟨rfl, trivial⟩⟩⟩
      ·have h := Zf hc h
       refine AW.exit ?_
       obtain ⟨e25, he25, h⟩ := Z1 h
       refine Rg <| Mw rfl <| Md rfl <| Md rfl <| Ac (Z1o 1001 rfl rfl Z10 (vt rfl) rfl (vt rfl) he25) rfl <| Ac (Z28 1001 rfl rfl Zv (vt rfl) rfl (Z0g he25).2 (vt rfl)) rfl <| Nl <| Rg <| Md rfl <| Ac (Z08 rfl rfl (vt rfl) (vk rfl)) rfl <| As rfl <| Nl ?_
       subst hgo1
       exact ⟨(m9, (List.set l20 at11.toNat i8), (IntKind.i64.wrap (i8 + 1)), v17), Nat.lt_succ_self _, ⟨trivial, h⟩, ⟨rfl, ⟨rfl, rfl, rfl, trivial⟩, ⟨rfl, trivial⟩⟩⟩
  ·have h := Zf hc h
   refine AW.exit <| SR <| Mw rfl <| Aw rfl <| Nl <| AW.freezes [2, 3, 60] 1001 rfl ⟨rfl, rfl, rfl, trivial⟩ rfl <| AW.ret ?_
   obtain rfl := si h
   exact Zg Tryz.results139 rfl (Z6 rfl)
def Zaq (f1 : Int) : Option Bool :=
 some ((decide (f1 ≥ 0)) && (decide (f1 < 24)))
theorem Zno (f1 : Int) (r : Bool) (h : Zaq f1 = some r) : PCon Tryz.prog 225 [rd (Z0 .i64) f1] (rd Z8 r) := by
 refine PCon.of (Con.intro0 Tryz.func225 rfl Tryz.ntmps225 rfl fun w H => ?_)
 unfold Zaq at h
 refine SR <| Ab rfl <| Nl <| SR <| Md rfl <| Ac (Z5q rfl rfl (vt rfl) (vk rfl)) rfl <| Md rfl <| Gd rfl (fun hq => Zs (A := rd (Z0 .i64) f1) rfl rfl (vt rfl)) <| Gd rfl (fun hq => Zl rfl rfl (Zj rfl hq) (vk rfl)) <| Ac (Z11 rfl rfl (vt rfl) (vt rfl)) rfl <| As rfl <| Nl <| AW.ret ?_
 obtain rfl := si h
 exact Zg Tryz.results225 rfl (Z6 rfl)
def Zo9 (f1 : Int) : Option (ByteArray × Int × Int × Bool) :=
 (bif (decide (f1 = 12)) then some ({ data := #[116, 99, 112, 95, 115, 114, 99] }, 13, 16, false) else (bif (decide (f1 = 13)) then some ({ data := #[116, 99, 112, 95, 100, 115, 116] }, 14, 16, false) else (bif (decide (f1 = 14)) then some ({ data := #[117, 100, 112, 95, 115, 114, 99] }, 15, 16, false) else (bif (decide (f1 = 15)) then some ({ data := #[117, 100, 112, 95, 100, 115, 116] }, 16, 16, false) else (bif (decide (f1 = 16)) then some ({ data := #[105, 99, 109, 112, 118, 52, 95, 116, 121, 112, 101] }, 19, 8, false) else (bif (decide (f1 = 17)) then some ({ data := #[105, 99, 109, 112, 118, 52, 95, 99, 111, 100, 101] }, 20, 8, false) else (bif (decide (f1 = 18)) then some ({ data := #[97, 114, 112, 95, 111, 112] }, 21, 16, false) else (bif (decide (f1 = 19)) then some ({ data := #[97, 114, 112, 95, 115, 112, 97] }, 22, 32, true) else (bif (decide (f1 = 20)) then some ({ data := #[97, 114, 112, 95, 116, 112, 97] }, 23, 32, true) else (bif (decide (f1 = 21)) then some ({ data := #[105, 112, 118, 54, 95, 115, 114, 99] }, 26, 128, true) else (bif (decide (f1 = 22)) then some ({ data := #[105, 112, 118, 54, 95, 100, 115, 116] }, 27, 128, true) else (bif (decide (f1 = 23)) then some ({ data := #[109, 112, 108, 115, 95, 108, 97, 98, 101, 108] }, 34, 20, false) else some ({ data := #[] }, (-1), 0, false)))))))))))))
theorem Y2i (f1 : Int) (r : (ByteArray × Int × Int × Bool)) (h : Zo9 f1 = some r) : PCon Tryz.prog 342 [rd (Z0 .i64) f1] (Z86 (rd Z1f r.1) (rd (Z0 .i64) r.2.1) (rd (Z0 .i64) r.2.2.1) (rd Z8 r.2.2.2)) := by
 refine PCon.of (Con.intro0 Tryz.func342 rfl Tryz.ntmps342 rfl fun w H => ?_)
 unfold Zo9 at h
 refine SR <| Ac (Z07 (A := rd Z1f { data := #[] }) rfl rfl (vs (by decide))) rfl <| Ak rfl <| Ak rfl <| Ab rfl <| Nl <| AW.seq <| SR <| Md rfl <| Nl <| AW.block <| SR <| Ac (Z0i rfl rfl (vt rfl) (vk rfl)) rfl <| As rfl <| Nl <| Cn rfl (fun hc => ?_) (fun hc => ?_)
 ·have h := Ze hc h
  refine SR <| Ac (Z07 (A := rd Z1f { data := #[116, 99, 112, 95, 115, 114, 99] }) rfl rfl (vs (by decide))) rfl <| Ak rfl <| Ak rfl <| Ab rfl <| Nl <| AW.ret ?_
  obtain rfl := si h
  exact Z2g Tryz.results342 rfl (Z6 rfl) (Z6 rfl) (Z6 rfl) (Z6 rfl)
 ·have h := Zf hc h
  refine SR <| Ac (Z0i rfl rfl (vt rfl) (vk rfl)) rfl <| As rfl <| Nl <| Cn rfl (fun hc => ?_) (fun hc => ?_)
  ·have h := Ze hc h
   refine SR <| Ac (Z07 (A := rd Z1f { data := #[116, 99, 112, 95, 100, 115, 116] }) rfl rfl (vs (by decide))) rfl <| Ak rfl <| Ak rfl <| Ab rfl <| Nl <| AW.ret ?_
   obtain rfl := si h
   exact Z2g Tryz.results342 rfl (Z6 rfl) (Z6 rfl) (Z6 rfl) (Z6 rfl)
  ·have h := Zf hc h
   refine SR <| Ac (Z0i rfl rfl (vt rfl) (vk rfl)) rfl <| As rfl <| Nl <| Cn rfl (fun hc => ?_) (fun hc => ?_)
   ·have h := Ze hc h
    refine SR <| Ac (Z07 (A := rd Z1f { data := #[117, 100, 112, 95, 115, 114, 99] }) rfl rfl (vs (by decide))) rfl <| Ak rfl <| Ak rfl <| Ab rfl <| Nl <| AW.ret ?_
    obtain rfl := si h
    exact Z2g Tryz.results342 rfl (Z6 rfl) (Z6 rfl) (Z6 rfl) (Z6 rfl)
   ·have h := Zf hc h
    refine SR <| Ac (Z0i rfl rfl (vt rfl) (vk rfl)) rfl <| As rfl <| Nl <| Cn rfl (fun hc => ?_) (fun hc => ?_)
    ·have h := Ze hc h
     refine SR <| Ac (Z07 (A := rd Z1f { data := #[117, 100, 112, 95, 100, 115, 116] }) rfl rfl (vs (by decide))) rfl <| Ak rfl <| Ak rfl <| Ab rfl <| Nl <| AW.ret ?_
     obtain rfl := si h
     exact Z2g Tryz.results342 rfl (Z6 rfl) (Z6 rfl) (Z6 rfl) (Z6 rfl)
    ·have h := Zf hc h
     refine SR <| Ac (Z0i rfl rfl (vt rfl) (vk rfl)) rfl <| As rfl <| Nl <| Cn rfl (fun hc => ?_) (fun hc => ?_)
     ·have h := Ze hc h
      refine SR <| Ac (Z07 (A := rd Z1f { data := #[105, 99, 109, 112, 118, 52, 95, 116, 121, 112, 101] }) rfl rfl (vs (by decide))) rfl <| Ak rfl <| Ak rfl <| Ab rfl <| Nl <| AW.ret ?_
      obtain rfl := si h
      exact Z2g Tryz.results342 rfl (Z6 rfl) (Z6 rfl) (Z6 rfl) (Z6 rfl)
     ·have h := Zf hc h
      refine SR <| Ac (Z0i rfl rfl (vt rfl) (vk rfl)) rfl <| As rfl <| Nl <| Cn rfl (fun hc => ?_) (fun hc => ?_)
      ·have h := Ze hc h
       refine SR <| Ac (Z07 (A := rd Z1f { data := #[105, 99, 109, 112, 118, 52, 95, 99, 111, 100, 101] }) rfl rfl (vs (by decide))) rfl <| Ak rfl <| Ak rfl <| Ab rfl <| Nl <| AW.ret ?_
       obtain rfl := si h
       exact Z2g Tryz.results342 rfl (Z6 rfl) (Z6 rfl) (Z6 rfl) (Z6 rfl)
      ·have h := Zf hc h
       refine SR <| Ac (Z0i rfl rfl (vt rfl) (vk rfl)) rfl <| As rfl <| Nl <| Cn rfl (fun hc => ?_) (fun hc => ?_)
       ·have h := Ze hc h
        refine SR <| Ac (Z07 (A := rd Z1f { data := #[97, 114, 112, 95, 111, 112] }) rfl rfl (vs (by decide))) rfl <| Ak rfl <| Ak rfl <| Ab rfl <| Nl <| AW.ret ?_
        obtain rfl := si h
        exact Z2g Tryz.results342 rfl (Z6 rfl) (Z6 rfl) (Z6 rfl) (Z6 rfl)
       ·have h := Zf hc h
        refine SR <| Ac (Z0i rfl rfl (vt rfl) (vk rfl)) rfl <| As rfl <| Nl <| Cn rfl (fun hc => ?_) (fun hc => ?_)
        ·have h := Ze hc h
         refine SR <| Ac (Z07 (A := rd Z1f { data := #[97, 114, 112, 95, 115, 112, 97] }) rfl rfl (vs (by decide))) rfl <| Ak rfl <| Ak rfl <| Ab rfl <| Nl <| AW.ret ?_
         obtain rfl := si h
         exact Z2g Tryz.results342 rfl (Z6 rfl) (Z6 rfl) (Z6 rfl) (Z6 rfl)
        ·have h := Zf hc h
         refine SR <| Ac (Z0i rfl rfl (vt rfl) (vk rfl)) rfl <| As rfl <| Nl <| Cn rfl (fun hc => ?_) (fun hc => ?_)
         ·have h := Ze hc h
          refine SR <| Ac (Z07 (A := rd Z1f { data := #[97, 114, 112, 95, 116, 112, 97] }) rfl rfl (vs (by decide))) rfl <| Ak rfl <| Ak rfl <| Ab rfl <| Nl <| AW.ret ?_
          obtain rfl := si h
          exact Z2g Tryz.results342 rfl (Z6 rfl) (Z6 rfl) (Z6 rfl) (Z6 rfl)
         ·have h := Zf hc h
          refine SR <| Ac (Z0i rfl rfl (vt rfl) (vk rfl)) rfl <| As rfl <| Nl <| Cn rfl (fun hc => ?_) (fun hc => ?_)
          ·have h := Ze hc h
           refine SR <| Ac (Z07 (A := rd Z1f { data := #[105, 112, 118, 54, 95, 115, 114, 99] }) rfl rfl (vs (by decide))) rfl <| Ak rfl <| Ak rfl <| Ab rfl <| Nl <| AW.ret ?_
           obtain rfl := si h
           exact Z2g Tryz.results342 rfl (Z6 rfl) (Z6 rfl) (Z6 rfl) (Z6 rfl)
          ·have h := Zf hc h
           refine SR <| Ac (Z0i rfl rfl (vt rfl) (vk rfl)) rfl <| As rfl <| Nl <| Cn rfl (fun hc => ?_) (fun hc => ?_)
           ·have h := Ze hc h
            refine SR <| Ac (Z07 (A := rd Z1f { data := #[105, 112, 118, 54, 95, 100, 115, 116] }) rfl rfl (vs (by decide))) rfl <| Ak rfl <| Ak rfl <| Ab rfl <| Nl <| AW.ret ?_
            obtain rfl := si h
            exact Z2g Tryz.results342 rfl (Z6 rfl) (Z6 rfl) (Z6 rfl) (Z6 rfl)
           ·have h := Zf hc h
            refine SR <| Ac (Z0i rfl rfl (vt rfl) (vk rfl)) rfl <| As rfl <| Nl <| Cn rfl (fun hc => ?_) (fun hc => ?_)
            ·have h := Ze hc h
             refine SR <| Ac (Z07 (A := rd Z1f { data := #[109, 112, 108, 115, 95, 108, 97, 98, 101, 108] }) rfl rfl (vs (by decide))) rfl <| Ak rfl <| Ak rfl <| Ab rfl <| Nl <| AW.ret ?_
             obtain rfl := si h
             exact Z2g Tryz.results342 rfl (Z6 rfl) (Z6 rfl) (Z6 rfl) (Z6 rfl)
            ·have h := Zf hc h
             refine AW.skip <| SR <| Ac (Z07 (A := rd Z1f { data := #[] }) rfl rfl (vs (by decide))) rfl <| Ak rfl <| Ak rfl <| Ab rfl <| Nl <| AW.ret ?_
             obtain rfl := si h
             exact Z2g Tryz.results342 rfl (Z6 rfl) (Z6 rfl) (Z6 rfl) (Z6 rfl)
def Zox (f1 : Int) : Option (ByteArray × Int × Int × Bool) :=
 (bif (decide (f1 = 0)) then some ({ data := #[105, 110, 95, 112, 111, 114, 116] }, 0, 32, false) else (bif (decide (f1 = 1)) then some ({ data := #[109, 101, 116, 97, 100, 97, 116, 97] }, 2, 64, true) else (bif (decide (f1 = 2)) then some ({ data := #[101, 116, 104, 95, 100, 115, 116] }, 3, 48, true) else (bif (decide (f1 = 3)) then some ({ data := #[101, 116, 104, 95, 115, 114, 99] }, 4, 48, true) else (bif (decide (f1 = 4)) then some ({ data := #[101, 116, 104, 95, 116, 121, 112, 101] }, 5, 16, false) else (bif (decide (f1 = 5)) then some ({ data := #[118, 108, 97, 110, 95, 118, 105, 100] }, 6, 13, true) else (bif (decide (f1 = 6)) then some ({ data := #[118, 108, 97, 110, 95, 112, 99, 112] }, 7, 3, false) else (bif (decide (f1 = 7)) then some ({ data := #[105, 112, 95, 100, 115, 99, 112] }, 8, 6, false) else (bif (decide (f1 = 8)) then some ({ data := #[105, 112, 95, 101, 99, 110] }, 9, 2, false) else (bif (decide (f1 = 9)) then some ({ data := #[105, 112, 95, 112, 114, 111, 116, 111] }, 10, 8, false) else (bif (decide (f1 = 10)) then some ({ data := #[105, 112, 118, 52, 95, 115, 114, 99] }, 11, 32, true) else (bif (decide (f1 = 11)) then some ({ data := #[105, 112, 118, 52, 95, 100, 115, 116] }, 12, 32, true) else (Zo9 f1).bind fun x2 => some (x2.1, x2.2.1, x2.2.2.1, x2.2.2.2)))))))))))))
theorem Y99 (f1 : Int) (r : (ByteArray × Int × Int × Bool)) (h : Zox f1 = some r) : PCon Tryz.prog 334 [rd (Z0 .i64) f1] (Z86 (rd Z1f r.1) (rd (Z0 .i64) r.2.1) (rd (Z0 .i64) r.2.2.1) (rd Z8 r.2.2.2)) := by
 refine PCon.of (Con.intro0 Tryz.func334 rfl Tryz.ntmps334 rfl fun w H => ?_)
 unfold Zox at h
 refine SR <| Ac (Z07 (A := rd Z1f { data := #[] }) rfl rfl (vs (by decide))) rfl <| Ak rfl <| Ak rfl <| Ab rfl <| Nl <| AW.seq <| SR <| Md rfl <| Nl <| AW.block <| SR <| Ac (Z0i rfl rfl (vt rfl) (vk rfl)) rfl <| As rfl <| Nl <| Cn rfl (fun hc => ?_) (fun hc => ?_)
 ·have h := Ze hc h
  refine SR <| Ac (Z07 (A := rd Z1f { data := #[105, 110, 95, 112, 111, 114, 116] }) rfl rfl (vs (by decide))) rfl <| Ak rfl <| Ak rfl <| Ab rfl <| Nl <| AW.ret ?_
  obtain rfl := si h
  exact Z2g Tryz.results334 rfl (Z6 rfl) (Z6 rfl) (Z6 rfl) (Z6 rfl)
 ·have h := Zf hc h
  refine SR <| Ac (Z0i rfl rfl (vt rfl) (vk rfl)) rfl <| As rfl <| Nl <| Cn rfl (fun hc => ?_) (fun hc => ?_)
  ·have h := Ze hc h
   refine SR <| Ac (Z07 (A := rd Z1f { data := #[109, 101, 116, 97, 100, 97, 116, 97] }) rfl rfl (vs (by decide))) rfl <| Ak rfl <| Ak rfl <| Ab rfl <| Nl <| AW.ret ?_
   obtain rfl := si h
   exact Z2g Tryz.results334 rfl (Z6 rfl) (Z6 rfl) (Z6 rfl) (Z6 rfl)
  ·have h := Zf hc h
   refine SR <| Ac (Z0i rfl rfl (vt rfl) (vk rfl)) rfl <| As rfl <| Nl <| Cn rfl (fun hc => ?_) (fun hc => ?_)
   ·have h := Ze hc h
    refine SR <| Ac (Z07 (A := rd Z1f { data := #[101, 116, 104, 95, 100, 115, 116] }) rfl rfl (vs (by decide))) rfl <| Ak rfl <| Ak rfl <| Ab rfl <| Nl <| AW.ret ?_
    obtain rfl := si h
    exact Z2g Tryz.results334 rfl (Z6 rfl) (Z6 rfl) (Z6 rfl) (Z6 rfl)
   ·have h := Zf hc h
    refine SR <| Ac (Z0i rfl rfl (vt rfl) (vk rfl)) rfl <| As rfl <| Nl <| Cn rfl (fun hc => ?_) (fun hc => ?_)
    ·have h := Ze hc h
     refine SR <| Ac (Z07 (A := rd Z1f { data := #[101, 116, 104, 95, 115, 114, 99] }) rfl rfl (vs (by decide))) rfl <| Ak rfl <| Ak rfl <| Ab rfl <| Nl <| AW.ret ?_
     obtain rfl := si h
     exact Z2g Tryz.results334 rfl (Z6 rfl) (Z6 rfl) (Z6 rfl) (Z6 rfl)
    ·have h := Zf hc h
     refine SR <| Ac (Z0i rfl rfl (vt rfl) (vk rfl)) rfl <| As rfl <| Nl <| Cn rfl (fun hc => ?_) (fun hc => ?_)
     ·have h := Ze hc h
      refine SR <| Ac (Z07 (A := rd Z1f { data := #[101, 116, 104, 95, 116, 121, 112, 101] }) rfl rfl (vs (by decide))) rfl <| Ak rfl <| Ak rfl <| Ab rfl <| Nl <| AW.ret ?_
      obtain rfl := si h
      exact Z2g Tryz.results334 rfl (Z6 rfl) (Z6 rfl) (Z6 rfl) (Z6 rfl)
     ·have h := Zf hc h
      refine SR <| Ac (Z0i rfl rfl (vt rfl) (vk rfl)) rfl <| As rfl <| Nl <| Cn rfl (fun hc => ?_) (fun hc => ?_)
      ·have h := Ze hc h
       refine SR <| Ac (Z07 (A := rd Z1f { data := #[118, 108, 97, 110, 95, 118, 105, 100] }) rfl rfl (vs (by decide))) rfl <| Ak rfl <| Ak rfl <| Ab rfl <| Nl <| AW.ret ?_
       obtain rfl := si h
       exact Z2g Tryz.results334 rfl (Z6 rfl) (Z6 rfl) (Z6 rfl) (Z6 rfl)
      ·have h := Zf hc h
       refine SR <| Ac (Z0i rfl rfl (vt rfl) (vk rfl)) rfl <| As rfl <| Nl <| Cn rfl (fun hc => ?_) (fun hc => ?_)
       ·have h := Ze hc h
        refine SR <| Ac (Z07 (A := rd Z1f { data := #[118, 108, 97, 110, 95, 112, 99, 112] }) rfl rfl (vs (by decide))) rfl <| Ak rfl <| Ak rfl <| Ab rfl <| Nl <| AW.ret ?_
        obtain rfl := si h
        exact Z2g Tryz.results334 rfl (Z6 rfl) (Z6 rfl) (Z6 rfl) (Z6 rfl)
       ·have h := Zf hc h
        refine SR <| Ac (Z0i rfl rfl (vt rfl) (vk rfl)) rfl <| As rfl <| Nl <| Cn rfl (fun hc => ?_) (fun hc => ?_)
        ·have h := Ze hc h
         refine SR <| Ac (Z07 (A := rd Z1f { data := #[105, 112, 95, 100, 115, 99, 112] }) rfl rfl (vs (by decide))) rfl <| Ak rfl <| Ak rfl <| Ab rfl <| Nl <| AW.ret ?_
         obtain rfl := si h
         exact Z2g Tryz.results334 rfl (Z6 rfl) (Z6 rfl) (Z6 rfl) (Z6 rfl)
        ·have h := Zf hc h
         refine SR <| Ac (Z0i rfl rfl (vt rfl) (vk rfl)) rfl <| As rfl <| Nl <| Cn rfl (fun hc => ?_) (fun hc => ?_)
         ·have h := Ze hc h
          refine SR <| Ac (Z07 (A := rd Z1f { data := #[105, 112, 95, 101, 99, 110] }) rfl rfl (vs (by decide))) rfl <| Ak rfl <| Ak rfl <| Ab rfl <| Nl <| AW.ret ?_
          obtain rfl := si h
          exact Z2g Tryz.results334 rfl (Z6 rfl) (Z6 rfl) (Z6 rfl) (Z6 rfl)
         ·have h := Zf hc h
          refine SR <| Ac (Z0i rfl rfl (vt rfl) (vk rfl)) rfl <| As rfl <| Nl <| Cn rfl (fun hc => ?_) (fun hc => ?_)
          ·have h := Ze hc h
           refine SR <| Ac (Z07 (A := rd Z1f { data := #[105, 112, 95, 112, 114, 111, 116, 111] }) rfl rfl (vs (by decide))) rfl <| Ak rfl <| Ak rfl <| Ab rfl <| Nl <| AW.ret ?_
           obtain rfl := si h
           exact Z2g Tryz.results334 rfl (Z6 rfl) (Z6 rfl) (Z6 rfl) (Z6 rfl)
          ·have h := Zf hc h
           refine SR <| Ac (Z0i rfl rfl (vt rfl) (vk rfl)) rfl <| As rfl <| Nl <| Cn rfl (fun hc => ?_) (fun hc => ?_)
           ·have h := Ze hc h
            refine SR <| Ac (Z07 (A := rd Z1f { data := #[105, 112, 118, 52, 95, 115, 114, 99] }) rfl rfl (vs (by decide))) rfl <| Ak rfl <| Ak rfl <| Ab rfl <| Nl <| AW.ret ?_
            obtain rfl := si h
            exact Z2g Tryz.results334 rfl (Z6 rfl) (Z6 rfl) (Z6 rfl) (Z6 rfl)
           ·have h := Zf hc h
            refine SR <| Ac (Z0i rfl rfl (vt rfl) (vk rfl)) rfl <| As rfl <| Nl <| Cn rfl (fun hc => ?_) (fun hc => ?_)
            ·have h := Ze hc h
             refine SR <| Ac (Z07 (A := rd Z1f { data := #[105, 112, 118, 52, 95, 100, 115, 116] }) rfl rfl (vs (by decide))) rfl <| Ak rfl <| Ak rfl <| Ab rfl <| Nl <| AW.ret ?_
             obtain rfl := si h
             exact Z2g Tryz.results334 rfl (Z6 rfl) (Z6 rfl) (Z6 rfl) (Z6 rfl)
            ·have h := Zf hc h
             refine AW.skip <| AW.seq ?_
             obtain ⟨x2, hx2, h⟩ := Z1 h
             refine Rg <| Md rfl <| Cl [31] (Y2i _ _ hx2) Y79 rfl <| Ac (Zti rfl rfl (vt rfl)) rfl <| Ac (Zwa rfl rfl (vt rfl)) rfl <| Ac (Zth rfl rfl (vt rfl)) rfl <| Ac (Zs2 rfl rfl (vt rfl)) rfl <| As rfl <| As rfl <| As rfl <| As rfl <| Nl <| AW.ret ?_
             obtain rfl := si h
             exact Z2g Tryz.results334 rfl (Z6 rfl) (Z6 rfl) (Z6 rfl) (Z6 rfl)
def Zke (f1 : Int) : Option Int :=
 (Zox f1).bind fun x2 => some x2.2.2.1
theorem Y9x (f1 : Int) (r : Int) (h : Zke f1 = some r) : PCon Tryz.prog 308 [rd (Z0 .i64) f1] (rd (Z0 .i64) r) := by
 refine PCon.of (Con.intro0 Tryz.func308 rfl Tryz.ntmps308 rfl fun w H => ?_)
 unfold Zke at h
 refine SR <| Ak rfl <| Nl <| AW.seq ?_
 obtain ⟨x2, hx2, h⟩ := Z1 h
 refine Rg <| Md rfl <| Cl [8] (Y99 _ _ hx2) Yap rfl <| Ac (Zs (A := Z86 (rd Z1f x2.1) (rd (Z0 .i64) x2.2.1) (rd (Z0 .i64) x2.2.2.1) (rd Z8 x2.2.2.2)) rfl rfl (vt rfl)) rfl <| Ac (Zti rfl rfl (vt rfl)) rfl <| Ac (Zwa rfl rfl (vt rfl)) rfl <| Ac (Zth rfl rfl (vt rfl)) rfl <| Ac (Zs2 rfl rfl (vt rfl)) rfl <| As rfl <| As rfl <| As rfl <| As rfl <| Nl <| SR <| Md rfl <| As rfl <| Nl <| AW.ret ?_
 obtain rfl := si h
 exact Zg Tryz.results308 rfl (Z6 rfl)
end Go.Proofs.YtknpgojdkobgjaaGreat.W
