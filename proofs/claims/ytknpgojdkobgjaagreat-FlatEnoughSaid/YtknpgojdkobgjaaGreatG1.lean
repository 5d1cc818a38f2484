/- A part of the proof. -/
import Derived.Test.YtknpgojdkobgjaaGreatG0
set_option linter.unusedVariables false
set_option maxRecDepth 4000
set_option linter.unusedSimpArgs false
namespace Go.Proofs.YtknpgojdkobgjaaGreat.W
open Go Go.Wb
theorem Zgz : Ent Tryz.prog 268 := Ent.mk Tryz.func268 rfl rfl
theorem Zr8 : Ent Tryz.prog 270 := Ent.mk Tryz.func270 rfl rfl
theorem e77 : Ent Tryz.prog 77 := Ent.mk Tryz.func77 rfl rfl
theorem Zdh : Ent Tryz.prog 207 := Ent.mk Tryz.func207 rfl rfl
theorem Zj1 : Ent Tryz.prog 327 := Ent.mk Tryz.func327 rfl rfl
theorem Zxu : Ent Tryz.prog 332 := Ent.mk Tryz.func332 rfl rfl
theorem Y4r : Ent Tryz.prog 287 := Ent.mk Tryz.func287 rfl rfl
theorem Y84 : Ent Tryz.prog 298 := Ent.mk Tryz.func298 rfl rfl
theorem Zyh : Ent Tryz.prog 304 := Ent.mk Tryz.func304 rfl rfl
theorem Zxj : Ent Tryz.prog 303 := Ent.mk Tryz.func303 rfl rfl
theorem Zv7 : Ent Tryz.prog 265 := Ent.mk Tryz.func265 rfl rfl
def Z7g (r1 : (Vector Tern 24)) (f2 : Int) (value3 : Wide) (mask4 : Wide) : Option (Vector Tern 24) :=
 (Z8o r1).bind fun x9 => (Z6k f2).bind fun x10 => (bif x10 then (chk 24 f2).bind fun j11 => (Zfz (Vector.get x9 j11) (⟨value3, mask4⟩ : Tern)).bind fun x12 => (chk 24 f2).bind fun j13 => some (Vector.set x9 j13.1 x12 j13.2) else some x9)
theorem Zft (r1 : (Vector Tern 24)) (f2 : Int) (value3 : Wide) (mask4 : Wide) (r : (Vector Tern 24)) (h : Z7g r1 f2 value3 mask4 = some r) : PCon Tryz.prog 207 [rd (Z3 24 Z4) r1, rd (Z0 .i64) f2, rd Zn value3, rd Zn mask4] (rd (Z3 24 Z4) r) := by
 refine PCon.of (Con.intro0 Tryz.func207 rfl Tryz.ntmps207 rfl fun w H => ?_)
 unfold Z7g at h
 refine SR <| Ct rfl (Zs 5 rfl rfl (vt rfl)) ?_
 rintro _ ⟨g5, rfl⟩
 refine Ct rfl (Zs 7 rfl rfl (vt rfl)) ?_
 rintro _ ⟨g6, rfl⟩
 refine Ct rfl (Zs 8 rfl rfl (vt rfl)) ?_
 rintro _ ⟨g7, rfl⟩
 refine Ct rfl (Zo 9 rfl rfl Z5p) ?_
 rintro _ ⟨g8, rfl⟩
 refine Nl <| AW.seq ?_
 obtain ⟨x9, hx9, h⟩ := Z1 h
 refine Rg <| Ld Z0d 5 rfl <| Cl [9] (Zh6 _ _ hx9) Zgz rfl <| Zh Z0d 5 rfl <| Nl <| AW.seq <| AW.seq ?_
 obtain ⟨x10, hx10, h⟩ := Z1 h
 refine Rg <| Md rfl <| Cl [11] (Zgs _ _ hx10) Ziq rfl <| Nl <| Cn rfl (fun hc => ?_) (fun hc => ?_)
 ·have h := Zj hc h
  obtain ⟨j11, hj11, h⟩ := Z1 h
  obtain ⟨x12, hx12, h⟩ := Z1 h
  obtain ⟨j13, hj13, h⟩ := Z1 h
  refine AW.regionAny [⟨[1], [13], [], []⟩, ⟨[1], [14], [], []⟩, ⟨[4, 14], [15], [], []⟩, ⟨[15], [16], [5], []⟩, ⟨[6], [17], [7], []⟩, ⟨[7], [18], [8], []⟩, ⟨[17, 18], [19], [], []⟩, ⟨[16, 19], [20], [], []⟩, ⟨[4, 13], [21], [], []⟩, ⟨[21, 20], [], [5], [5]⟩] Z05 (by kernel_rfl) <| SMd rfl <| SMd rfl <| Sc (lo [4, 14] [] rfl fun S hs hr => Z2o rfl rfl Z7h (vh hs 4 rfl rfl) (vh hs 14 rfl rfl) hj11) rfl <| SLd Zz 5 rfl <| SLd Z00 7 rfl <| SLd Z00 8 rfl <| Sc (lo [17, 18] [] rfl fun S hs hr => Z03 (ps := [(0, .tmp 17), (1, .tmp 18)]) (x := (⟨value3, mask4⟩ : Tern)) rfl rfl rfl (by kernel_rfl) Z1k ⟨_, _, Z1p, _, by kernel_rfl, (vh hs 17 rfl rfl), _, _, Z1g, _, by kernel_rfl, (vh hs 18 rfl rfl), rfl⟩) rfl <| SCl [16, 19] (Zrl _ _ _ hx12) Zr8 rfl <| Sc (lo [4, 13] [] rfl fun S hs hr => Z2o rfl rfl Z7h (vh hs 4 rfl rfl) (vh hs 13 rfl rfl) hj13) rfl <| SSt Zz 5 rfl <| SR <| Ld Z0d 5 rfl <| Zh Z0d 9 rfl <| Nl <| AW.ret ?_
  obtain rfl := si h
  exact Zg Tryz.results207 rfl (Z04 rfl (i := 9) rfl Z0d)
 ·have h := Zk hc h
  refine AW.skip <| SR <| Ld Z0d 5 rfl <| Zh Z0d 9 rfl <| Nl <| AW.ret ?_
  obtain rfl := si h
  exact Zg Tryz.results207 rfl (Z04 rfl (i := 9) rfl Z0d)
def Z8t (i1 : Int) : Option Wide :=
 (bif ((decide (i1 < 0)) || (decide (i1 > 127))) then some (⟨0, 0⟩ : Wide) else (Z7z .i64 i1 64).bind fun q4 => (Z9k i1 64).bind fun q5 => (Z9c (1 : BitVec 64) q5).bind fun q6 => (chk 2 q4).bind fun j7 => some (⟨(Vector.get (Vector.set (Vector.replicate 2 0) j7.1 q6 j7.2) (⟨1, by decide⟩ : _root_.Fin 2)), (Vector.get (Vector.set (Vector.replicate 2 0) j7.1 q6 j7.2) (⟨0, by decide⟩ : _root_.Fin 2))⟩ : Wide))
theorem Zi9 (i1 : Int) (r : Wide) (h : Z8t i1 = some r) : PCon Tryz.prog 327 [rd (Z0 .i64) i1] (rd Zn r) := by
 refine PCon.of (Con.intro0 Tryz.func327 rfl Tryz.ntmps327 rfl fun w H => ?_)
 unfold Z8t at h
 refine SR <| Ct rfl (Zo 3 rfl rfl Z2u) ?_
 rintro _ ⟨g2, rfl⟩
 refine Nl <| SR <| Ct rfl (Zo 4 rfl rfl Y3f) ?_
 rintro _ ⟨g3, rfl⟩
 refine Nl <| AW.seq <| SR <| Md rfl <| Ac (Zi rfl rfl (vt rfl) (vk rfl)) rfl <| Md rfl <| Gd rfl (fun hq => Zq (A := rd (Z0 .i64) i1) rfl rfl (vt rfl)) <| Gd rfl (fun hq => Z4f rfl rfl (Zm rfl hq) (vk rfl)) <| Ac (Zj9 rfl rfl (vt rfl) (vt rfl)) rfl <| Nl <| Cn rfl (fun hc => ?_) (fun hc => ?_)
 ·have h := Zj hc h
  refine SR <| Ac (Z03 (ps := []) (x := (⟨0, 0⟩ : Wide)) rfl rfl rfl (by kernel_rfl) Z2u rfl) rfl <| Zh Z00 3 rfl <| Nl <| AW.ret ?_
  obtain rfl := si h
  exact Zg Tryz.results327 rfl (Z04 rfl (i := 3) rfl Z00)
 ·have h := Zk hc h
  refine AW.skip <| AW.seq ?_
  obtain ⟨q4, hq4, h⟩ := Z1 h
  obtain ⟨q5, hq5, h⟩ := Z1 h
  obtain ⟨q6, hq6, h⟩ := Z1 h
  obtain ⟨j7, hj7, h⟩ := Z1 h
  refine Rg <| Md rfl <| Ac (Zti rfl rfl (vt rfl) (vk rfl) hq4) rfl <| Md rfl <| Ac (Zy4 rfl rfl (vt rfl) (vk rfl) hq5) rfl <| Ac (Zug rfl rfl (vku (1 : BitVec 64) rfl) (vt rfl) hq6) rfl <| Ac (Z2o rfl rfl Zma (vt rfl) (vt rfl) hj7) rfl <| Zh Z1z 4 rfl <| Nl <| SR <| Ac (Z2o rfl rfl Zma (vt rfl) (vk rfl) rfl) rfl <| Ld Z1z 4 rfl <| Ac (Z2o rfl rfl Zma (vt rfl) (vk rfl) rfl) rfl <| Ld Z1z 4 rfl <| Ac (Z03 (ps := [(0, .tmp 18), (1, .tmp 20)]) (x := (⟨(Vector.get (Vector.set (Vector.replicate 2 0) j7.1 q6 j7.2) (⟨1, by decide⟩ : _root_.Fin 2)), (Vector.get (Vector.set (Vector.replicate 2 0) j7.1 q6 j7.2) (⟨0, by decide⟩ : _root_.Fin 2))⟩ : Wide)) rfl rfl rfl (by kernel_rfl) Z2u ⟨_, _, Z36, _, by kernel_rfl, (vt rfl), _, _, Z34, _, by kernel_rfl, (vt rfl), rfl⟩) rfl <| Zh Z00 3 rfl <| Nl <| AW.ret ?_
  obtain rfl := si h
  exact Zg Tryz.results327 rfl (Z04 rfl (i := 3) rfl Z00)
def Zfo (a1 : Action) : Option (Vector Tern 24) :=
 (Zbc).bind fun x4 => (bif (decide (a1.Kind = 25)) then (Zc1 a1.Oxm).bind fun x6 => (Z7g x4 a1.Oxm.Field x6.Value x6.Mask).bind fun x8 => some x8 else (bif (decide (a1.Kind = 17)) then (Z8t 12).bind fun x9 => (Z8t 12).bind fun x10 => (Z7g x4 5 x9 x10).bind fun x11 => some x11 else (bif (decide (a1.Kind = 18)) then (Z7o 13).bind fun x12 => (Z7g x4 5 (⟨0, 0⟩ : Wide) x12).bind fun x13 => (Z7o 3).bind fun x14 => (Z7g x13 6 (⟨0, 0⟩ : Wide) x14).bind fun x15 => some x15 else some x4)))
theorem Y6t (a1 : Action) (r : (Vector Tern 24)) (h : Zfo a1 = some r) : PCon Tryz.prog 287 [rd Z5 a1] (rd (Z3 24 Z4) r) := by
 refine PCon.of (Con.intro0 Tryz.func287 rfl Tryz.ntmps287 rfl fun w H => ?_)
 unfold Zfo at h
 refine SR <| Ct rfl (Zs 2 rfl rfl (vt rfl)) ?_
 rintro _ ⟨g2, rfl⟩
 refine Ct rfl (Zo 3 rfl rfl Z5p) ?_
 rintro _ ⟨g3, rfl⟩
 refine Nl <| AW.seq ?_
 obtain ⟨x4, hx4, h⟩ := Z1 h
 refine Rg <| Cl [] (Zuh _ hx4) e77 rfl <| Ct rfl (Zo 4 rfl rfl Z5p) ?_
 rintro _ ⟨g5, rfl⟩
 refine Zh Z0d 4 rfl <| Nl <| AW.seq <| SR <| Zt Z6a Z8z rfl <| Ld Zu 2 rfl <| Nl <| AW.block <| SR <| Ac (Z1l rfl rfl (vt rfl) (vk rfl)) rfl <| As rfl <| Nl <| Cn rfl (fun hc => ?_) (fun hc => ?_)
 ·have h := Zj hc h
  refine AW.seq ?_
  obtain ⟨x6, hx6, h⟩ := Z1 h
  refine Rg <| Zt Zi3 Znf rfl <| Ld Zf7 2 rfl <| Cl [11] (Zns _ _ hx6) Zt4 rfl <| Ct rfl (Zo 5 rfl rfl Z1k) ?_
  rintro _ ⟨g7, rfl⟩
  refine Zh Zz 5 rfl <| Nl ?_
  obtain ⟨x8, hx8, h⟩ := Z1 h
  refine Rg <| Ld Z0d 4 rfl <| Zt Zi3 Znf rfl <| Zt Z9j Zcq rfl <| Ld Zu 2 rfl <| Zt Z1p Z38 rfl <| Ld Z00 5 rfl <| Zt Z1g Z2h rfl <| Ld Z00 5 rfl <| Cl [13, 16, 18, 20] (Zft _ _ _ _ _ hx8) Zdh rfl <| Zh Z0d 4 rfl <| Nl <| SR <| Ld Z0d 4 rfl <| Zh Z0d 3 rfl <| Nl <| AW.ret ?_
  obtain rfl := si h
  exact Zg Tryz.results287 rfl (Z04 rfl (i := 3) rfl Z0d)
 ·have h := Zk hc h
  refine SR <| Ac (Z1l rfl rfl (vt rfl) (vk rfl)) rfl <| As rfl <| Nl <| Cn rfl (fun hc => ?_) (fun hc => ?_)
  ·have h := Zj hc h
   obtain ⟨x9, hx9, h⟩ := Z1 h
   obtain ⟨x10, hx10, h⟩ := Z1 h
   obtain ⟨x11, hx11, h⟩ := Z1 h
   refine AW.regionAny [⟨[3], [24], [4], []⟩, ⟨[], [25], [], []⟩, ⟨[], [26], [], []⟩, ⟨[24, 25, 26], [27], [], []⟩, ⟨[3, 27], [], [4], [4]⟩] Z05 (by kernel_rfl) <| SLd Z0d 4 rfl <| Sc (lo [] [] rfl fun S hs hr => Z0t (xs := [.const (Value.int IntKind.i64 12)]) (Zi9 _ _ hx9) Zj1 rfl rfl ⟨vk rfl, trivial⟩) rfl <| Sc (lo [] [] rfl fun S hs hr => Z0t (xs := [.const (Value.int IntKind.i64 12)]) (Zi9 _ _ hx10) Zj1 rfl rfl ⟨vk rfl, trivial⟩) rfl <| Sc (lo [24, 25, 26] [] rfl fun S hs hr => Z0t (xs := [.tmp 24, .const (Value.int IntKind.i64 5), .tmp 25, .tmp 26]) (Zft _ _ _ _ _ hx11) Zdh rfl rfl ⟨vt ((hs 24 rfl).trans rfl), vk rfl, vt ((hs 25 rfl).trans rfl), vt ((hs 26 rfl).trans rfl), trivial⟩) rfl <| SSt Z0d 4 rfl <| SR <| Ld Z0d 4 rfl <| Zh Z0d 3 rfl <| Nl <| AW.ret ?_
   obtain rfl := si h
   exact Zg Tryz.results287 rfl (Z04 rfl (i := 3) rfl Z0d)
  ·have h := Zk hc h
   refine SR <| Ac (Z1l rfl rfl (vt rfl) (vk rfl)) rfl <| As rfl <| Nl <| Cn rfl (fun hc => ?_) (fun hc => ?_)
   ·have h := Zj hc h
    refine AW.seq ?_
    obtain ⟨x12, hx12, h⟩ := Z1 h
    obtain ⟨x13, hx13, h⟩ := Z1 h
    refine AW.regionAny [⟨[3], [30], [4], []⟩, ⟨[], [31], [], []⟩, ⟨[], [32], [], []⟩, ⟨[30, 31, 32], [33], [], []⟩, ⟨[3, 33], [], [4], [4]⟩] Z05 (by kernel_rfl) <| SLd Z0d 4 rfl <| Sc (lo [] [] rfl fun S hs hr => Z03 (ps := []) (x := (⟨0, 0⟩ : Wide)) rfl rfl rfl (by kernel_rfl) Z2u rfl) rfl <| Sc (lo [] [] rfl fun S hs hr => Z0t (xs := [.const (Value.int IntKind.i64 13)]) (Zkj _ _ hx12) Zlt rfl rfl ⟨vk rfl, trivial⟩) rfl <| Sc (lo [30, 31, 32] [] rfl fun S hs hr => Z0t (xs := [.tmp 30, .const (Value.int IntKind.i64 5), .tmp 31, .tmp 32]) (Zft _ _ _ _ _ hx13) Zdh rfl rfl ⟨vt ((hs 30 rfl).trans rfl), vk rfl, vt ((hs 31 rfl).trans rfl), vt ((hs 32 rfl).trans rfl), trivial⟩) rfl <| SSt Z0d 4 rfl ?_
    obtain ⟨x14, hx14, h⟩ := Z1 h
    obtain ⟨x15, hx15, h⟩ := Z1 h
    refine AW.regionAny [⟨[3], [34], [4], []⟩, ⟨[], [35], [], []⟩, ⟨[], [36], [], []⟩, ⟨[34, 35, 36], [37], [], []⟩, ⟨[3, 37], [], [4], [4]⟩] Z05 (by kernel_rfl) <| SLd Z0d 4 rfl <| Sc (lo [] [] rfl fun S hs hr => Z03 (ps := []) (x := (⟨0, 0⟩ : Wide)) rfl rfl rfl (by kernel_rfl) Z2u rfl) rfl <| Sc (lo [] [] rfl fun S hs hr => Z0t (xs := [.const (Value.int IntKind.i64 3)]) (Zkj _ _ hx14) Zlt rfl rfl ⟨vk rfl, trivial⟩) rfl <| Sc (lo [34, 35, 36] [] rfl fun S hs hr => Z0t (xs := [.tmp 34, .const (Value.int IntKind.i64 6), .tmp 35, .tmp 36]) (Zft _ _ _ _ _ hx15) Zdh rfl rfl ⟨vt ((hs 34 rfl).trans rfl), vk rfl, vt ((hs 35 rfl).trans rfl), vt ((hs 36 rfl).trans rfl), trivial⟩) rfl <| SSt Z0d 4 rfl <| SR <| Ld Z0d 4 rfl <| Zh Z0d 3 rfl <| Nl <| AW.ret ?_
    obtain rfl := si h
    exact Zg Tryz.results287 rfl (Z04 rfl (i := 3) rfl Z0d)
   ·have h := Zk hc h
    refine AW.skip <| SR <| Ld Z0d 4 rfl <| Zh Z0d 3 rfl <| Nl <| AW.ret ?_
    obtain rfl := si h
    exact Zg Tryz.results287 rfl (Z04 rfl (i := 3) rfl Z0d)
def Zcz (i1 : Int) (cp2 : (Vector Tern 24)) (cp3 : (Vector Tern 24)) : Option Tern :=
 (chk 24 i1).bind fun j5 => (chk 24 i1).bind fun j6 => (Zfz (Vector.get cp2 j5) (Vector.get cp3 j6)).bind fun x7 => some x7
theorem Zyy (i1 : Int) (cp2 : (Vector Tern 24)) (cp3 : (Vector Tern 24)) (r : Tern) (h : Zcz i1 cp2 cp3 = some r) : PCon Tryz.prog 332 [rd (Z0 .i64) i1, rp (Z3 24 Z4) cp2, rp (Z3 24 Z4) cp3] (rd Z4 r) := by
 refine PCon.of (Con.intro0 Tryz.func332 rfl Tryz.ntmps332 rfl fun w H => ?_)
 unfold Zcz at h
 refine SR <| Ct rfl (Zo 5 rfl rfl Z1k) ?_
 rintro _ ⟨g4, rfl⟩
 refine Nl <| AW.seq ?_
 obtain ⟨j5, hj5, h⟩ := Z1 h
 obtain ⟨j6, hj6, h⟩ := Z1 h
 obtain ⟨x7, hx7, h⟩ := Z1 h
 refine AW.regionAny [⟨[0], [5], [], []⟩, ⟨[1, 5], [6], [], []⟩, ⟨[6], [7], [], []⟩, ⟨[0], [8], [], []⟩, ⟨[2, 8], [9], [], []⟩, ⟨[9], [10], [], []⟩, ⟨[7, 10], [11], [], []⟩, ⟨[4, 11], [], [5], [5]⟩] Z05 (by kernel_rfl) <| SMd rfl <| Sc (lo [1, 5] [] rfl fun S hs hr => Z5x rfl rfl Z7h (vh hs 1 rfl rfl) (vh hs 5 rfl rfl) hj5) rfl <| SLp Zz rfl <| SMd rfl <| Sc (lo [2, 8] [] rfl fun S hs hr => Z5x rfl rfl Z7h (vh hs 2 rfl rfl) (vh hs 8 rfl rfl) hj6) rfl <| SLp Zz rfl <| SCl [7, 10] (Zrl _ _ _ hx7) Zr8 rfl <| SSt Zz 5 rfl <| AW.ret ?_
 obtain rfl := si h
 exact Zg Tryz.results332 rfl (Z04 rfl (i := 5) rfl Zz)
def Zfw (a1 : (Vector Tern 24)) (b2 : (Vector Tern 24)) : Option (Vector Tern 24) :=
 (Zd8 (fun x => Zcz x a1 b2)).bind fun x6 => some x6
theorem Zzb (a1 : (Vector Tern 24)) (b2 : (Vector Tern 24)) (r : (Vector Tern 24)) (h : Zfw a1 b2 = some r) : PCon Tryz.prog 298 [rd (Z3 24 Z4) a1, rd (Z3 24 Z4) b2] (rd (Z3 24 Z4) r) := by
 refine PCon.of (Con.intro0 Tryz.func298 rfl Tryz.ntmps298 rfl fun w H => ?_)
 unfold Zfw at h
 refine SR <| Ct rfl (Zs 3 rfl rfl (vt rfl)) ?_
 rintro _ ⟨g3, rfl⟩
 refine Ct rfl (Zs 4 rfl rfl (vt rfl)) ?_
 rintro _ ⟨g4, rfl⟩
 refine Ct rfl (Zo 5 rfl rfl Z5p) ?_
 rintro _ ⟨g5, rfl⟩
 refine Nl <| AW.seq <| AW.freezeB 2 3 rfl rfl rfl <| AW.freezeB 3 4 rfl rfl rfl ?_
 obtain ⟨x6, hx6, h⟩ := Z1 h
 refine Rg <| Ac (Z8w (cs := [.tmp 2, .tmp 3]) (CAs := [rp (Z3 24 Z4) a1, rp (Z3 24 Z4) b2]) (fun x => Zcz x a1 b2) rfl rfl Zxu ⟨vt rfl, vt rfl, trivial⟩ (fun x y h => Zyy _ _ _ y h)) rfl <| Cl [5] (Zt8 _ _ hx6) Zt1 rfl <| Zh Z0d 5 rfl <| Nl <| AW.ret ?_
 obtain rfl := si h
 exact Zg Tryz.results298 rfl (Z04 rfl (i := 5) rfl Z0d)
def Zaw (t1 : Z4a) (b7 : Atom) : Option Z4a :=
 (Z1o t1.atoms [b7]).bind fun l8 => some (⟨t1.got, l8⟩ : Z4a)
def Z9n (t1 : Z4a) (a4 : Action) : Option Z4a :=
 (bif (decide (a4.Kind = 0)) then (bif (decide (a4.Port = 4294967293)) then Zaw t1 { { (⟨t1.got, false, 0, 0⟩ : Atom) with Port := a4.Port } with Max := a4.Max } else Zaw t1 { (⟨t1.got, false, 0, 0⟩ : Atom) with Port := a4.Port }) else (bif (decide (a4.Kind = 22)) then Zaw t1 { { (⟨t1.got, false, 0, 0⟩ : Atom) with Group := true } with Port := a4.Group } else (Zfo a4).bind fun x10 => (Zfw t1.got x10).bind fun x11 => some (⟨x11, t1.atoms⟩ : Z4a)))
theorem Zw9 (g2 gT : Nat) (t1 : Z4a) (a4 : Action) (r : Z4a) (h : Z9n t1 a4 = some r) : Con Tryz.prog 304 [Zb g2 (Lens.id Z33), rd Z5 a4] (Z3o g2 gT Z33 (fun v => (⟨t1.got, v⟩ : atom_trace_o1)) 126 Z0a t1.atoms) (fun _ : Unit => top) (fun _ => Z3o g2 gT Z33 (fun v => (⟨r.got, v⟩ : atom_trace_o1)) 126 Z0a r.atoms) := by
 refine Con.intro Tryz.func304 rfl Tryz.ntmps304 rfl fun w H X => ?_
 unfold Z9n at h
 refine AW.unboxF 0 2001 (by decide) rfl rfl fun v3 => SR <| Ct rfl (Zs 4 rfl rfl (vt rfl)) ?_
 rintro _ ⟨g5, rfl⟩
 refine Nl <| SR <| Mp rfl <| Nc rfl <| Zt Zcd Zhz rfl <| Ld Z0d 0 rfl <| Ac (Z03 (ps := [(0, .tmp 8)]) (x := (⟨t1.got, false, 0, 0⟩ : Atom)) rfl rfl rfl (by kernel_rfl) Zdb ⟨_, _, Zc0, _, by kernel_rfl, (vt rfl), rfl⟩) rfl <| Ct rfl (Zo 5 rfl rfl Zdb) ?_
 rintro _ ⟨g6, rfl⟩
 refine Zh Z69 5 rfl <| Nl ?_
 refine AW.join (d := []) (ν := Atom) (fun n => Zaw t1 n = some r) (fun n => [(0, Zb g2 (Lens.id Z33)), (4, Zb g6 (Lens.id Z0a))]) (fun n => [(0, Zd g2 gT Z33 (⟨t1.got, v3⟩ : atom_trace_o1)), (5, Zd g6 126 Z0a n), (2001, Z9 v3 126 Z0a t1.atoms)]) ?hx1 ?hy1
 case hy1 =>
  intro b7 h
  unfold Zaw at h
  change AW _ _ _ ⟨Zw [(0, Zb g2 (Lens.id Z33)), (4, Zb g6 (Lens.id Z0a))], Zx [(0, Zd g2 gT Z33 (⟨t1.got, v3⟩ : atom_trace_o1)), (5, Zd g6 126 Z0a b7), (2001, Z9 v3 126 Z0a t1.atoms)], _⟩
  obtain ⟨l8, hl8, h⟩ := Z1 h
  refine AW.endT <| AW.regionAny [⟨[0], [39], [], []⟩, ⟨[0], [40], [], []⟩, ⟨[40], [41], [], []⟩, ⟨[41], [42], [], []⟩, ⟨[42], [43], [0], []⟩, ⟨[4], [44], [5], []⟩, ⟨[44], [45], [], []⟩, ⟨[43, 45], [46], [2001], [2001]⟩, ⟨[39], [47], [], []⟩, ⟨[47], [48], [], []⟩, ⟨[48, 46], [46], [0], [0]⟩] Z05 (by kernel_rfl) <| SMp rfl <| SMp rfl <| SNc rfl <| SFd Zdk Zlw rfl <| Sc (lo [42] [0] rfl fun S hs hr => Zri v3 rfl rfl Zlq (vh hs 42 rfl rfl) (i := 0) ((hr 0 rfl).trans rfl) rfl) rfl <| SLd Z69 5 rfl <| Sc (lo [44] [] rfl fun S hs hr => Z3k (ps := [(0, .tmp 44)]) (l := [b7]) rfl rfl Z4y Zdb rfl rfl ⟨_, _, Lens.idx 1 Z0a 0 (by decide), _, rfl, (vh hs 44 rfl rfl), rfl⟩ rfl) rfl <| Sc (Z2e (us := [(46, Z2r 126 Z0a l8)]) (ur := [(2001, emp)]) [43, 45] [2001] rfl fun S hs hr => Zlb 2001 hl8 rfl rfl rfl Zkt (vh hs 43 rfl rfl) ((hr 2001 rfl).trans rfl) (vh hs 45 rfl rfl)) rfl <| SNc rfl <| SFd Zdk Zlw rfl <| Sc (Z2e (us := [(46, top)]) (ur := [(0, Z3o g2 gT Z33 (fun v => ((Lens.comp (Lens.id Z33) Zdk)).set (⟨t1.got, v3⟩ : atom_trace_o1) v) 126 Z0a l8)]) [48, 46] [0] rfl fun S hs hr => Y5i rfl rfl Zlq (vh hs 48 rfl rfl) ((hr 0 rfl).trans rfl) ((hs 46 rfl).trans rfl)) rfl <| EndT.unboxF 0 2001 (by decide) rfl rfl fun v9 => EndT.done ?_
  obtain rfl := si h
  exact RetOK.turn (Turn.packF 0 2001 (fun v => (⟨t1.got, v⟩ : atom_trace_o1)) (by decide) rfl rfl) (Z1t (i := 0) Tryz.results304 rfl rfl)
 case hx1 =>
  refine SR <| Zt Z6a Z8z rfl <| Ld Zu 4 rfl <| Nl <| AW.block <| SR <| Ac (Z1l rfl rfl (vt rfl) (vk rfl)) rfl <| As rfl <| Nl <| Cn rfl (fun hc => ?_) (fun hc => ?_)
  ·have h := Zj hc h
   refine SR <| Zt Zgj Zot rfl <| Ld Zu 4 rfl <| Zt Zky Zol rfl <| Zh Zu 5 rfl <| Nl <| SR <| Zt Zgj Zot rfl <| Ld Zu 4 rfl <| Ac (Z1l rfl rfl (vt rfl) (vk rfl)) rfl <| Nl <| Cn rfl (fun hc => ?_) (fun hc => ?_)
   ·have h := Zj hc h
    refine Rg <| Zt Zsn Y1i rfl <| Ld Zu 4 rfl <| Zt Zu0 Zx4 rfl <| Zh Zu 5 rfl <| Nl ?_
    exact ⟨{ { (⟨t1.got, false, 0, 0⟩ : Atom) with Port := a4.Port } with Max := a4.Max }, h, ⟨rfl, ⟨rfl, rfl, trivial⟩, ⟨rfl, rfl, rfl, trivial⟩⟩⟩
   ·have h := Zk hc h
    refine AW.skip ?_
    exact ⟨{ (⟨t1.got, false, 0, 0⟩ : Atom) with Port := a4.Port }, h, ⟨rfl, ⟨rfl, rfl, trivial⟩, ⟨rfl, rfl, rfl, trivial⟩⟩⟩
  ·have h := Zk hc h
   refine SR <| Ac (Z1l rfl rfl (vt rfl) (vk rfl)) rfl <| As rfl <| Nl <| Cn rfl (fun hc => ?_) (fun hc => ?_)
   ·have h := Zj hc h
    refine AW.regionAny [⟨[3], [35], [], []⟩, ⟨[35], [36], [4], []⟩, ⟨[4], [37], [], []⟩, ⟨[37], [], [5], [5]⟩, ⟨[4], [38], [], []⟩, ⟨[38, 36], [], [5], [5]⟩] Z05 (by kernel_rfl) <| SFd Zs3 Y4l rfl <| SLd Zu 4 rfl <| SFd Zuu Y8p rfl <| Sc (Z30 [37] [5] rfl fun S hs hr => Zaq rfl rfl ty4 (vh hs 37 rfl rfl) (i := 5) ((hr 5 rfl).trans rfl) vb) rfl <| SFd Zky Zol rfl <| SSt Zu 5 rfl ?_
    exact ⟨{ { (⟨t1.got, false, 0, 0⟩ : Atom) with Group := true } with Port := a4.Group }, h, ⟨rfl, ⟨rfl, rfl, trivial⟩, ⟨rfl, rfl, rfl, trivial⟩⟩⟩
   ·have h := Zk hc h
    refine AW.seq ?_
    obtain ⟨x10, hx10, h⟩ := Z1 h
    obtain ⟨x11, hx11, h⟩ := Z1 h
    refine AW.regionAny [⟨[0], [12], [], []⟩, ⟨[0], [13], [], []⟩, ⟨[13], [14], [], []⟩, ⟨[14], [15], [], []⟩, ⟨[15], [16], [0], []⟩, ⟨[3], [17], [4], []⟩, ⟨[17], [18], [], []⟩, ⟨[16, 18], [19], [], []⟩, ⟨[12], [20], [], []⟩, ⟨[20], [21], [], []⟩, ⟨[21, 19], [], [0], [0]⟩] Z05 (by kernel_rfl) <| SMp rfl <| SMp rfl <| SNc rfl <| SFd Zcd Zhz rfl <| SLd Z0d 0 rfl <| SLd Z0l 4 rfl <| SCl [17] (Y6t _ _ hx10) Y4r rfl <| SCl [16, 18] (Zzb _ _ _ hx11) Y84 rfl <| SNc rfl <| SFd Zcd Zhz rfl <| SSt Z0d 0 rfl <| AW.ret ?_
    obtain rfl := si h
    exact RetOK.turn (Turn.packF 0 2001 (fun v => (⟨x11, v⟩ : atom_trace_o1)) (by decide) rfl rfl) (Z1t (i := 0) Tryz.results304 rfl rfl)
def Z6x (sg : Type) (do2 : (sg → Action → Option sg)) : (List Action) → Nat → sg → Option sg
 | [], i6, s5 => some s5
 | x8 :: l7, i6, s5 => (do2 s5 x8).bind fun s10 => (Z6x sg do2 l7) (i6 + 1) s10
def Zhy (l1 : (List Action)) (sg : Type) (do2 : (sg → Action → Option sg)) (s3 : sg) : Option sg :=
 Z6x sg do2 l1 0 s3
theorem Y23 (l1 : (List Action)) (sg : Type) (do2 : (sg → Action → Option sg)) (L : sg → Zp) (s3 : sg) (r : sg) (h : Zhy l1 sg do2 s3 = some r) : Con Tryz.prog 303 [rd (Z2 Z5) l1, stA Tryz.prog Z5 do2 L] (L s3) (fun _ : Unit => top) (fun _ => L r) := by
 refine Con.intro Tryz.func303 rfl Tryz.ntmps303 rfl fun w H X => ?_
 unfold Zhy at h
 refine SR <| Md rfl <| Ac (Z0k rfl rfl Z0n (vt rfl)) rfl <| Mk rfl <| Nl <| AW.block <| AW.loopG (d := []) (ν := (List Action) × Nat × sg) (fun n => Sfx l1 n.2.1 n.1 ∧ Z6x sg do2 n.1 n.2.1 n.2.2 = some r) (fun n => n.1.length) (fun n => [(1, stA Tryz.prog Z5 do2 L), (6, rd (Z2 Z5) l1), (7, rd (Z0 .i64) (l1.length : Int)), (8, rd (Z0 .i64) (n.2.1 : Int))]) (fun n => [(0, L n.2.2)]) (l1, 0, s3) ⟨Sfx.start _, h⟩ ⟨rfl, ⟨rfl, rfl, rfl, rfl, trivial⟩, ⟨rfl, trivial⟩⟩ ?_
 rintro ⟨l7, i6, s5⟩ ⟨hsf1, h⟩
 change Sfx l1 i6 l7 at hsf1
 change Z6x sg do2 l7 i6 s5 = some r at h
 change AW _ _ _ ⟨Zw [(1, stA Tryz.prog Z5 do2 L), (6, rd (Z2 Z5) l1), (7, rd (Z0 .i64) (l1.length : Int)), (8, rd (Z0 .i64) (i6 : Int))], Zx [(0, L s5)], _⟩
 cases l7 with
 | nil =>
  unfold Z6x at h
  refine SR <| Ac (Zi rfl rfl (vt rfl) (vt rfl)) rfl <| Nl <| AW.seq <| Cn rfl (fun hc => absurd (of_decide_eq_true hc) hsf1.nil) (fun hc => ?_)
  refine AW.exit ?_
  obtain rfl := si h
  exact Z1t (i := 0) Tryz.results303 rfl rfl
 | cons x8 l7 =>
  unfold Z6x at h
  generalize hgo1 : Z6x sg do2 l7 = go1 at h
  refine SR <| Ac (Zi rfl rfl (vt rfl) (vt rfl)) rfl <| Nl <| AW.seq <| Cn rfl (fun hc => ?_) (fun hc => absurd hsf1.cons (of_decide_eq_false hc))
  have hlti6 := of_decide_eq_true hc
  refine AW.skip <| AW.seq <| AW.block <| SR <| Ac (Z10 rfl rfl Z0n (vt rfl) (vt rfl) hsf1.lget) rfl <| Lp1 Z0l rfl <| Ct rfl (Zo 6 rfl rfl Z72) ?_
  rintro _ ⟨g9, rfl⟩
  refine Zh Z0l 6 rfl <| Nl ?_
  obtain ⟨s10, hs10, h⟩ := Z1 h
  refine Rg <| Ac (Zq (A := stA Tryz.prog Z5 do2 L) rfl rfl (vt rfl)) rfl <| Ld Z0l 6 rfl <| Ac (Y2z 0 hs10 rfl rfl (vt rfl) (vt rfl) rfl) rfl <| Nl <| Rg <| Ac (Z17 (t := 7) rfl rfl (vt rfl) (vk rfl) (vt rfl) hlti6) rfl <| Md rfl <| Nl ?_
  subst hgo1
  exact ⟨(l7, i6 + 1, s10), Nat.lt_succ_self _, ⟨hsf1.next, h⟩, ⟨rfl, ⟨rfl, rfl, rfl, rfl, trivial⟩, ⟨rfl, trivial⟩⟩⟩
def Zgh (acts1 : (List Action)) (r2 : (Vector Tern 24)) : Option ((List Atom) × (Vector Tern 24)) :=
 (Z8o r2).bind fun x5 => (Zhy acts1 Z4a (fun s x => Z9n s x) (⟨x5, []⟩ : Z4a)).bind fun b7 => some (b7.atoms, b7.got)
theorem Zxb (acts1 : (List Action)) (r2 : (Vector Tern 24)) (r : ((List Atom) × (Vector Tern 24))) (h : Zgh acts1 r2 = some r) : PCon Tryz.prog 265 [rd (Z2 Z5) acts1, rd (Z3 24 Z4) r2] (Z1d (rd (Z2 Z0a) r.1) (rd (Z3 24 Z4) r.2)) := by
 refine PCon.of (Con.intro0 Tryz.func265 rfl Tryz.ntmps265 rfl fun w H => ?_)
 unfold Zgh at h
 refine SR <| Ct rfl (Zs 4 rfl rfl (vt rfl)) ?_
 rintro _ ⟨g3, rfl⟩
 refine Ac (Z0j (A := rd (Z2 Z0a) []) rfl rfl Z3h) rfl <| Ct rfl (Zo 6 rfl rfl Z5p) ?_
 rintro _ ⟨g4, rfl⟩
 refine Nl <| AW.seq <| AW.newnil 2221 126 Z0a ?_
 obtain ⟨x5, hx5, h⟩ := Z1 h
 refine Rg <| Ld Z0d 4 rfl <| Cl [7] (Zh6 _ _ hx5) Zgz rfl <| Ac (Z03 (ps := [(0, .tmp 8)]) (x := (⟨x5, (.slice none 0 0)⟩ : atom_trace_o1)) rfl rfl rfl (by kernel_rfl) Zv9 ⟨_, _, Zcd, _, by kernel_rfl, (vt rfl), rfl⟩) rfl <| Ct rfl (Zs 11 rfl rfl (vt rfl)) ?_
 rintro _ ⟨g6, rfl⟩
 refine Ac (Z0j (A := Zb g6 (Lens.id Z33)) rfl rfl (vt rfl)) rfl <| Nl <| AW.seq ?_
 obtain ⟨b7, hb7, h⟩ := Z1 h
 refine Rg <| Md rfl <| Mp rfl <| Ac (Zwf (fs := [.tmp 12]) (cs := []) (FAs := [Zb g6 (Lens.id Z33)]) (CAs := []) (k := Z5) (fun s x => Z9n s x) (fun (s : Z4a) => Z3o g6 346 Z33 (fun v => (⟨s.got, v⟩ : atom_trace_o1)) 126 Z0a s.atoms) rfl rfl Zyh ⟨vt rfl, trivial⟩ trivial (fun s x s2 h => Zw9 _ _ s x s2 h)) rfl <| AOps.packF 11 2221 (fun v => (⟨x5, v⟩ : atom_trace_o1)) (by decide) rfl rfl <| Ct rfl (Z12 11 (xs := [.tmp 11, .tmp 13]) (Y23 _ Z4a _ (fun (s : Z4a) => Z3o g6 346 Z33 (fun v => (⟨s.got, v⟩ : atom_trace_o1)) 126 Z0a s.atoms) _ _ hb7) Zxj rfl rfl ⟨vt rfl, vt rfl, trivial⟩ rfl) ?_
 rintro _ ⟨_u, rfl⟩
 refine AOps.unboxF 11 2221 (by decide) rfl rfl fun v8 => Nl <| AW.seq <| AW.regionAny [⟨[6], [15], [], []⟩, ⟨[15], [16], [], []⟩, ⟨[16], [17], [], []⟩, ⟨[17], [18], [11], []⟩, ⟨[6], [19], [], []⟩, ⟨[19], [20], [], []⟩, ⟨[20], [21], [], []⟩, ⟨[21], [22], [11], []⟩, ⟨[18], [4], [], []⟩, ⟨[5, 22], [], [6], [6]⟩] Z05 (by kernel_rfl) <| SMp rfl <| SNc rfl <| SFd Zdk Zlw rfl <| Sc (lo [17] [11] rfl fun S hs hr => Zri v8 rfl rfl Zlq (vh hs 17 rfl rfl) (i := 11) ((hr 11 rfl).trans rfl) rfl) rfl <| SMp rfl <| SNc rfl <| SFd Zcd Zhz rfl <| SLd Z0d 11 rfl <| Sc (lo [18] [] rfl fun S hs hr => Z0j (A := Za v8) rfl rfl (vh hs 18 rfl rfl)) rfl <| SSt Z0d 6 rfl <| AW.freezes [4, 18] 2221 rfl ⟨rfl, rfl, trivial⟩ rfl <| AW.ret ?_
 obtain rfl := si h
 exact Z2b Tryz.results265 rfl (Zf rfl) (Z04 rfl (i := 6) rfl Z0d)
def Z9z (w1 : walk_way) (l2 : (List Action)) : Option walk_way :=
 (Zgh l2 w1.got).bind fun x5 => (Z3v w1.atoms (w1.atoms.length : Int)).bind fun s7 => (Z1o s7 x5.1).bind fun l8 => some { { w1 with atoms := l8 } with got := x5.2 }
theorem Zqe (w1 : walk_way) (l2 : (List Action)) (r : walk_way) (h : Z9z w1 l2 = some r) : PCon Tryz.prog 205 [rd Z0c w1, rd (Z2 Z5) l2] (rd Z0c r) := by
 refine PCon.of (Con.intro0 Tryz.func205 rfl Tryz.ntmps205 rfl fun w H => ?_)
 unfold Z9z at h
 refine SR <| Ct rfl (Zs 3 rfl rfl (vt rfl)) ?_
 rintro _ ⟨g3, rfl⟩
 refine Ct rfl (Zo 5 rfl rfl Zc6) ?_
 rintro _ ⟨g4, rfl⟩
 refine Nl <| AW.seq ?_
 obtain ⟨x5, hx5, h⟩ := Z1 h
 refine Rg <| Md rfl <| Zt Zay Zf3 rfl <| Ld Z0d 3 rfl <| Cl [8, 10] (Zxb _ _ _ hx5) Zv7 rfl <| Mt2 rfl <| Ac (Z28 rfl rfl (vt rfl)) rfl <| Ac (Z25 rfl rfl (vt rfl)) rfl <| Ct rfl (Zo 7 rfl rfl Z5p) ?_
 rintro _ ⟨g6, rfl⟩
 refine As rfl <| Zh Z0d 7 rfl <| Nl <| AW.seq ?_
 obtain ⟨s7, hs7, h⟩ := Z1 h
 obtain ⟨l8, hl8, h⟩ := Z1 h
 refine AW.regionAny [⟨[2], [14], [], []⟩, ⟨[14], [15], [3], []⟩, ⟨[2], [16], [], []⟩, ⟨[16], [17], [3], []⟩, ⟨[17], [18], [], []⟩, ⟨[2], [19], [], []⟩, ⟨[19], [20], [3], []⟩, ⟨[20], [21], [], []⟩, ⟨[15, 18, 21], [22], [], []⟩, ⟨[5], [23], [], []⟩, ⟨[22, 23], [24], [], []⟩, ⟨[6], [25], [7], []⟩, ⟨[2], [26], [], []⟩, ⟨[26, 24], [], [3], [3]⟩, ⟨[2], [27], [], []⟩, ⟨[27, 25], [], [3], [3]⟩] Z05 (by kernel_rfl) <| SFd Zby Zfn rfl <| SLd Z63 3 rfl <| SFd Zby Zfn rfl <| SLd Z63 3 rfl <| Sc (lo [17] [] rfl fun S hs hr => Z0k rfl rfl Z4y (vh hs 17 rfl rfl)) rfl <| SFd Zby Zfn rfl <| SLd Z63 3 rfl <| Sc (lo [20] [] rfl fun S hs hr => Z0k rfl rfl Z4y (vh hs 20 rfl rfl)) rfl <| Sc (lo [15, 18, 21] [] rfl fun S hs hr => Y2a hs7 rfl rfl Z4y (vh hs 15 rfl rfl) (vh hs 18 rfl rfl) (vh hs 21 rfl rfl)) rfl <| SMd rfl <| Sc (lo [22, 23] [] rfl fun S hs hr => Y14 hl8 rfl rfl Zkt (vh hs 22 rfl rfl) (vh hs 23 rfl rfl)) rfl <| SLd Z0d 7 rfl <| SFd Zby Zfn rfl <| SSt Z63 3 rfl <| SFd Zay Zf3 rfl <| SSt Z0d 3 rfl <| SR <| Ld Z23 3 rfl <| Zh Z23 5 rfl <| Nl <| AW.ret ?_
 obtain rfl := si h
 exact Zg Tryz.results205 rfl (Z04 rfl (i := 5) rfl Z23)
end Go.Proofs.YtknpgojdkobgjaaGreat.W
set_option maxRecDepth 4000
namespace Go.Proofs.YtknpgojdkobgjaaGreat.W
open Go Go.Wb
theorem Zhc : Ent Tryz.prog 221 := Ent.mk Tryz.func221 rfl rfl
theorem Zxz : Ent Tryz.prog 267 := Ent.mk Tryz.func267 rfl rfl
theorem Zl4 : Ent Tryz.prog 266 := Ent.mk Tryz.func266 rfl rfl
theorem Zz8 : Ent Tryz.prog 273 := Ent.mk Tryz.func273 rfl rfl
theorem Zkc : Ent Tryz.prog 218 := Ent.mk Tryz.func218 rfl rfl
def Z8v (a1 : Action) : Option aset_spot :=
 (bif (decide (a1.Kind = 25)) then some (⟨a1.Kind, a1.Oxm.Field⟩ : aset_spot) else some (⟨a1.Kind, 0⟩ : aset_spot))
theorem Zj6 (a1 : Action) (r : aset_spot) (h : Z8v a1 = some r) : PCon Tryz.prog 221 [rd Z5 a1] (rd Z57 r) := by
 refine PCon.of (Con.intro0 Tryz.func221 rfl Tryz.ntmps221 rfl fun w H => ?_)
 unfold Z8v at h
 refine SR <| Ct rfl (Zs 2 rfl rfl (vt rfl)) ?_
 rintro _ ⟨g2, rfl⟩
 refine Ct rfl (Zo 3 rfl rfl Zfe) ?_
 rintro _ ⟨g3, rfl⟩
 refine Nl <| AW.seq <| SR <| Zt Z6a Z8z rfl <| Ld Zu 2 rfl <| Ac (Z1l rfl rfl (vt rfl) (vk rfl)) rfl <| Nl <| Cn rfl (fun hc => ?_) (fun hc => ?_)
 ·have h := Zj hc h
  refine SR <| Zt Z6a Z8z rfl <| Ld Zu 2 rfl <| Zt Zi3 Znf rfl <| Zt Z9j Zcq rfl <| Ld Zu 2 rfl <| Ac (Z03 (ps := [(0, .tmp 7), (1, .tmp 10)]) (x := (⟨a1.Kind, a1.Oxm.Field⟩ : aset_spot)) rfl rfl rfl (by kernel_rfl) Zfe ⟨_, _, Zea, _, by kernel_rfl, (vt rfl), _, _, Zc5, _, by kernel_rfl, (vt rfl), rfl⟩) rfl <| Zh Zca 3 rfl <| Nl <| AW.ret ?_
  obtain rfl := si h
  exact Zg Tryz.results221 rfl (Z04 rfl (i := 3) rfl Zca)
 ·have h := Zk hc h
  refine AW.skip <| SR <| Zt Z6a Z8z rfl <| Ld Zu 2 rfl <| Ac (Z03 (ps := [(0, .tmp 13)]) (x := (⟨a1.Kind, 0⟩ : aset_spot)) rfl rfl rfl (by kernel_rfl) Zfe ⟨_, _, Zea, _, by kernel_rfl, (vt rfl), rfl⟩) rfl <| Zh Zca 3 rfl <| Nl <| AW.ret ?_
  obtain rfl := si h
  exact Zg Tryz.results221 rfl (Z04 rfl (i := 3) rfl Zca)
def Z9f (b1 : Action) (cp2 : Action) : Option Bool :=
 (Z8v cp2).bind fun x4 => (Z8v b1).bind fun x5 => some (decide (x4 = x5))
theorem Zw2 (b1 : Action) (cp2 : Action) (r : Bool) (h : Z9f b1 cp2 = some r) : PCon Tryz.prog 267 [rd Z5 b1, rp Z5 cp2] (rd Z6 r) := by
 refine PCon.of (Con.intro0 Tryz.func267 rfl Tryz.ntmps267 rfl fun w H => ?_)
 unfold Z9f at h
 refine SR <| Ct rfl (Zs 3 rfl rfl (vt rfl)) ?_
 rintro _ ⟨g3, rfl⟩
 refine Ab rfl <| Nl <| AW.seq ?_
 obtain ⟨x4, hx4, h⟩ := Z1 h
 obtain ⟨x5, hx5, h⟩ := Z1 h
 refine AW.regionAny [⟨[1], [4], [], []⟩, ⟨[4], [5], [], []⟩, ⟨[2], [6], [3], []⟩, ⟨[6], [7], [], []⟩, ⟨[5, 7], [8], [], []⟩, ⟨[8], [3], [], []⟩] Z05 (by kernel_rfl) <| SLp Z0l rfl <| SCl [4] (Zj6 _ _ hx4) Zhc rfl <| SLd Z0l 3 rfl <| SCl [6] (Zj6 _ _ hx5) Zhc rfl <| Sc (lo [5, 7] [] rfl fun S hs hr => Zha rfl rfl Y69 (by decide) rfl Y3c (vh hs 5 rfl rfl) (vh hs 7 rfl rfl)) rfl <| SAs rfl <| AW.ret ?_
 obtain rfl := si h
 exact Zg Tryz.results267 rfl (Zf rfl)
def Z7u (s1 : (List Action)) (f2 : (Action → Option Bool)) : Nat → Nat → Option Int
 | 0, i3 => some (-1)
 | m4 + 1, i3 => (lget s1 (i3 : Int)).bind fun e5 => (f2 e5).bind fun x6 => (bif x6 then some (i3 : Int) else (Z7u s1 f2 m4) (i3 + 1))
def Za6 (s1 : (List Action)) (f2 : (Action → Option Bool)) : Option Int :=
 Z7u s1 f2 ((s1.length : Int) : Int).toNat 0
theorem Zl1 (s1 : (List Action)) (f2 : (Action → Option Bool)) (r : Int) (h : Za6 s1 f2 = some r) : PCon Tryz.prog 266 [rd (Z2 Z5) s1, fn1 Tryz.prog Z5 Z6 f2] (rd (Z0 .i64) r) := by
 refine PCon.of (Con.intro0 Tryz.func266 rfl Tryz.ntmps266 rfl fun w H => ?_)
 unfold Za6 at h
 refine SR <| Ak rfl <| Nl <| AW.seq <| SR <| Md rfl <| Ac (Z0k rfl rfl Z0n (vt rfl)) rfl <| Mk rfl <| Nl <| AW.block <| AW.loopG (d := []) (ν := Nat × Nat) (fun n => Cnt (s1.length : Int) n.2 n.1 ∧ Z7u s1 f2 n.1 n.2 = some r) (fun n => n.1) (fun n => [(0, rd (Z2 Z5) s1), (1, fn1 Tryz.prog Z5 Z6 f2), (7, rd (Z0 .i64) (s1.length : Int)), (8, rd (Z0 .i64) (n.2 : Int))]) (fun n => []) (((s1.length : Int) : Int).toNat, 0) ⟨Cnt.start _, h⟩ ⟨rfl, ⟨rfl, rfl, rfl, rfl, trivial⟩, trivial⟩ ?_
 rintro ⟨m4, i3⟩ ⟨hsf1, h⟩
 change Cnt (s1.length : Int) i3 m4 at hsf1
 change Z7u s1 f2 m4 i3 = some r at h
 change AW _ _ _ ⟨Zw [(0, rd (Z2 Z5) s1), (1, fn1 Tryz.prog Z5 Z6 f2), (7, rd (Z0 .i64) (s1.length : Int)), (8, rd (Z0 .i64) (i3 : Int))], Zx [], _⟩
 cases m4 with
 | zero =>
  unfold Z7u at h
  refine SR <| Ac (Zi rfl rfl (vt rfl) (vt rfl)) rfl <| Nl <| AW.seq <| Cn rfl (fun hc => absurd (of_decide_eq_true hc) hsf1.zero) (fun hc => ?_)
  refine AW.exit <| SR <| Ak rfl <| Nl <| AW.ret ?_
  obtain rfl := si h
  exact Zg Tryz.results266 rfl (Zf rfl)
 | succ m4 =>
  unfold Z7u at h
  generalize hgo1 : Z7u s1 f2 m4 = go1 at h
  refine SR <| Ac (Zi rfl rfl (vt rfl) (vt rfl)) rfl <| Nl <| AW.seq <| Cn rfl (fun hc => ?_) (fun hc => absurd hsf1.succ (of_decide_eq_false hc))
  have hlti3 := of_decide_eq_true hc
  refine AW.skip <| AW.seq <| AW.block <| SR <| Md rfl <| As rfl <| Nl <| AW.seq ?_
  obtain ⟨e5, he5, h⟩ := Z1 h
  obtain ⟨x6, hx6, h⟩ := Z1 h
  refine Rg <| Ac (Zq (A := fn1 Tryz.prog Z5 Z6 f2) rfl rfl (vt rfl)) rfl <| Md rfl <| Md rfl <| Ac (Z10 rfl rfl Z0n (vt rfl) (vt rfl) he5) rfl <| Lp1 Z0l rfl <| Ac (Z8s hx6 rfl rfl (vt rfl) (vt rfl)) rfl <| Nl <| Cn rfl (fun hc => ?_) (fun hc => ?_)
  ·have h := Zj hc h
   refine SR <| Md rfl <| As rfl <| Nl <| AW.ret ?_
   obtain rfl := si h
   exact Zg Tryz.results266 rfl (Zf rfl)
  ·have h := Zk hc h
   refine AW.skip <| Rg <| Ac (Z17 (t := 7) rfl rfl (vt rfl) (vk rfl) (vt rfl) hlti3) rfl <| Md rfl <| Nl ?_
   subst hgo1
   exact ⟨(m4, i3 + 1), Nat.lt_succ_self _, ⟨hsf1.next, h⟩, ⟨rfl, ⟨rfl, rfl, rfl, rfl, trivial⟩, trivial⟩⟩
def Z5r : (List Action) → Nat → (List Action) → Option (List Action)
 | [], i9, l7 => some l7
 | x11 :: l10, i9, l7 => (Za6 l7 (fun x => Z9f x x11)).bind fun x13 => (bif (decide (x13 < 0)) then (Z1o l7 [x11]).bind fun l14 => (Z5r l10) (i9 + 1) l14 else (lget l7 x13).bind fun e16 => (Z5r l10) (i9 + 1) (List.set l7 x13.toNat x11))
def Zg6 (set1 : (List Action)) (l2 : (List Action)) : Option (List Action) :=
 (Z5v set1).bind fun x3 => Z5r l2 0 x3
theorem Y1q (set1 : (List Action)) (l2 : (List Action)) (r : (List Action)) (h : Zg6 set1 l2 = some r) : PCon Tryz.prog 206 [rd (Z2 Z5) set1, rd (Z2 Z5) l2] (rd (Z2 Z5) r) := by
 refine PCon.of (Con.intro0 Tryz.func206 rfl Tryz.ntmps206 rfl fun w H => ?_)
 unfold Zg6 at h
 refine SR <| Ac (Z0j (A := rd (Z2 Z5) []) rfl rfl Z3h) rfl <| Nl <| AW.seq ?_
 obtain ⟨x3, hx3, h⟩ := Z1 h
 refine Rg <| Md rfl <| Ct rfl (Z12 1001 (xs := [.tmp 9]) (Zjr _ _ hx3) Zjd rfl rfl ⟨vt rfl, trivial⟩ rfl) ?_
 rintro _ ⟨v4, rfl⟩
 refine Aw rfl <| Nl <| AW.seq <| SR <| Md rfl <| Ac (Z0k rfl rfl Z0n (vt rfl)) rfl <| Mk rfl <| Nl <| AW.block <| AW.loopG (d := []) (ν := (List Action) × Nat × (List Action) × Value) (fun n => Sfx l2 n.2.1 n.1 ∧ Z5r n.1 n.2.1 n.2.2.1 = some r) (fun n => n.1.length) (fun n => [(5, Za n.2.2.2), (11, rd (Z2 Z5) l2), (12, rd (Z0 .i64) (l2.length : Int)), (13, rd (Z0 .i64) (n.2.1 : Int))]) (fun n => [(1001, Z9 n.2.2.2 121 Z5 n.2.2.1)]) (l2, 0, x3, v4) ⟨Sfx.start _, h⟩ ⟨rfl, ⟨rfl, rfl, rfl, rfl, trivial⟩, ⟨rfl, trivial⟩⟩ ?_
 rintro ⟨l10, i9, l7, v8⟩ ⟨hsf1, h⟩
 change Sfx l2 i9 l10 at hsf1
 change Z5r l10 i9 l7 = some r at h
 change AW _ _ _ ⟨Zw [(5, Za v8), (11, rd (Z2 Z5) l2), (12, rd (Z0 .i64) (l2.length : Int)), (13, rd (Z0 .i64) (i9 : Int))], Zx [(1001, Z9 v8 121 Z5 l7)], _⟩
 cases l10 with
 | nil =>
  unfold Z5r at h
  refine SR <| Ac (Zi rfl rfl (vt rfl) (vt rfl)) rfl <| Nl <| AW.seq <| Cn rfl (fun hc => absurd (of_decide_eq_true hc) hsf1.nil) (fun hc => ?_)
  refine AW.exit <| SR <| Mw rfl <| Aw rfl <| Nl <| AW.freezes [4, 5, 31] 1001 rfl ⟨rfl, rfl, rfl, trivial⟩ rfl <| AW.ret ?_
  obtain rfl := si h
  exact Zg Tryz.results206 rfl (Zf rfl)
 | cons x11 l10 =>
  unfold Z5r at h
  generalize hgo1 : Z5r l10 = go1 at h
  refine SR <| Ac (Zi rfl rfl (vt rfl) (vt rfl)) rfl <| Nl <| AW.seq <| Cn rfl (fun hc => ?_) (fun hc => absurd hsf1.cons (of_decide_eq_false hc))
  have hlti9 := of_decide_eq_true hc
  refine AW.skip <| AW.seq <| AW.block <| SR <| Ac (Z10 rfl rfl Z0n (vt rfl) (vt rfl) hsf1.lget) rfl <| Lp1 Z0l rfl <| Ct rfl (Zo 8 rfl rfl Z72) ?_
  rintro _ ⟨g12, rfl⟩
  refine Zh Z0l 8 rfl <| Nl <| AW.seq <| AW.freezeB 7 8 rfl rfl rfl ?_
  obtain ⟨x13, hx13, h⟩ := Z1 h
  refine Rg <| Mw rfl <| Ac (Z8w (cs := [.tmp 7]) (CAs := [rp Z5 x11]) (fun x => Z9f x x11) rfl rfl Zxz ⟨vt rfl, trivial⟩ (fun x y h => Zw2 _ _ y h)) rfl <| Ac (Zkx (xs := [.tmp 17, .tmp 18]) 1001 (Zl1 _ _ _ hx13) Zl4 rfl rfl ⟨vL rfl rfl, vB (vt rfl), trivial⟩) rfl <| As rfl <| Nl <| SR <| Md rfl <| Ac (Zi rfl rfl (vt rfl) (vk rfl)) rfl <| Nl <| Cn rfl (fun hc => ?_) (fun hc => ?_)
  ·have h := Zj hc h
   obtain ⟨l14, hl14, h⟩ := Z1 h
   refine Rg <| Mw rfl <| Lp1 Z0l rfl <| Ac (Z3k (ps := [(0, .tmp 23)]) (l := [x11]) rfl rfl Z0n Z72 rfl rfl ⟨_, _, Lens.idx 1 Z5 0 (by decide), _, rfl, (vt rfl), rfl⟩ rfl) rfl <| Ct rfl (Z5t 1001 hl14 rfl rfl Zss (vt rfl) rfl (vt rfl)) ?_
   rintro _ ⟨v15, rfl⟩
   refine Aw rfl <| Nl <| Rg <| Ac (Z17 (t := 12) rfl rfl (vt rfl) (vk rfl) (vt rfl) hlti9) rfl <| Md rfl <| Nl ?_
   subst hgo1
   exact ⟨(l10, i9 + 1, l14, v15), Nat.lt_succ_self _, ⟨hsf1.next, h⟩, ⟨rfl, ⟨rfl, rfl, rfl, rfl, trivial⟩, ⟨rfl, trivial⟩⟩⟩
  ·have h := Zk hc h
   obtain ⟨e16, he16, h⟩ := Z1 h
   refine Rg <| Mw rfl <| Md rfl <| Lp1 Z0l rfl <| Ac (Z1q 1001 rfl rfl Z0n (vt rfl) rfl (vt rfl) he16) rfl <| Ac (Z2d 1001 rfl rfl Z0l (vt rfl) rfl (Z06 he16).2 (vt rfl)) rfl <| Nl <| Rg <| Ac (Z17 (t := 12) rfl rfl (vt rfl) (vk rfl) (vt rfl) hlti9) rfl <| Md rfl <| Nl ?_
   subst hgo1
   exact ⟨(l10, i9 + 1, (List.set l7 x13.toNat x11), v8), Nat.lt_succ_self _, ⟨hsf1.next, h⟩, ⟨rfl, ⟨rfl, rfl, rfl, rfl, trivial⟩, ⟨rfl, trivial⟩⟩⟩
def Zgc (s1 : (List Action)) (f2 : (Action → Option Bool)) : Option Bool :=
 (Za6 s1 f2).bind fun x3 => some (decide (x3 ≥ 0))
theorem Zv6 (s1 : (List Action)) (f2 : (Action → Option Bool)) (r : Bool) (h : Zgc s1 f2 = some r) : PCon Tryz.prog 213 [rd (Z2 Z5) s1, fn1 Tryz.prog Z5 Z6 f2] (rd Z6 r) := by
 refine PCon.of (Con.intro0 Tryz.func213 rfl Tryz.ntmps213 rfl fun w H => ?_)
 unfold Zgc at h
 refine SR <| Ab rfl <| Nl <| AW.seq ?_
 obtain ⟨x3, hx3, h⟩ := Z1 h
 refine Rg <| Md rfl <| Ac (Zq (A := fn1 Tryz.prog Z5 Z6 f2) rfl rfl (vt rfl)) rfl <| Cl [5, 6] (Zl1 _ _ _ hx3) Zl4 rfl <| Ac (Z4n rfl rfl (vt rfl) (vk rfl)) rfl <| As rfl <| Nl <| AW.ret ?_
 obtain rfl := si h
 exact Zg Tryz.results213 rfl (Zf rfl)
def Zjk (a1 : Action) : Option Bool :=
 some (decide (a1.Kind = 22))
theorem Y88 (a1 : Action) (r : Bool) (h : Zjk a1 = some r) : PCon Tryz.prog 214 [rd Z5 a1] (rd Z6 r) := by
 refine PCon.of (Con.intro0 Tryz.func214 rfl Tryz.ntmps214 rfl fun w H => ?_)
 unfold Zjk at h
 refine SR <| Ct rfl (Zs 2 rfl rfl (vt rfl)) ?_
 rintro _ ⟨g2, rfl⟩
 refine Ab rfl <| Nl <| SR <| Zt Z6a Z8z rfl <| Ld Zu 2 rfl <| Ac (Z1l rfl rfl (vt rfl) (vk rfl)) rfl <| As rfl <| Nl <| AW.ret ?_
 obtain rfl := si h
 exact Zg Tryz.results214 rfl (Zf rfl)
def Z81 (s1 : (List Int)) (v2 : Int) : Nat → Nat → Option Int
 | 0, i3 => some (-1)
 | m4 + 1, i3 => (lget s1 (i3 : Int)).bind fun e5 => (bif (decide (v2 = e5)) then some (i3 : Int) else (Z81 s1 v2 m4) (i3 + 1))
def Ze4 (s1 : (List Int)) (v2 : Int) : Option Int :=
 Z81 s1 v2 ((s1.length : Int) : Int).toNat 0
theorem Y2n (s1 : (List Int)) (v2 : Int) (r : Int) (h : Ze4 s1 v2 = some r) : PCon Tryz.prog 273 [rd (Z2 (Z0 .i64)) s1, rd (Z0 .i64) v2] (rd (Z0 .i64) r) := by
 refine PCon.of (Con.intro0 Tryz.func273 rfl Tryz.ntmps273 rfl fun w H => ?_)
 unfold Ze4 at h
 refine SR <| Ak rfl <| Nl <| AW.seq <| SR <| Md rfl <| Ac (Z0k rfl rfl Z14 (vt rfl)) rfl <| Mk rfl <| Nl <| AW.block <| AW.loopG (d := []) (ν := Nat × Nat) (fun n => Cnt (s1.length : Int) n.2 n.1 ∧ Z81 s1 v2 n.1 n.2 = some r) (fun n => n.1) (fun n => [(0, rd (Z2 (Z0 .i64)) s1), (1, rd (Z0 .i64) v2), (7, rd (Z0 .i64) (s1.length : Int)), (8, rd (Z0 .i64) (n.2 : Int))]) (fun n => []) (((s1.length : Int) : Int).toNat, 0) ⟨Cnt.start _, h⟩ ⟨rfl, ⟨rfl, rfl, rfl, rfl, trivial⟩, trivial⟩ ?_
 rintro ⟨m4, i3⟩ ⟨hsf1, h⟩
 change Cnt (s1.length : Int) i3 m4 at hsf1
 change Z81 s1 v2 m4 i3 = some r at h
 change AW _ _ _ ⟨Zw [(0, rd (Z2 (Z0 .i64)) s1), (1, rd (Z0 .i64) v2), (7, rd (Z0 .i64) (s1.length : Int)), (8, rd (Z0 .i64) (i3 : Int))], Zx [], _⟩
 cases m4 with
 | zero =>
  unfold Z81 at h
  refine SR <| Ac (Zi rfl rfl (vt rfl) (vt rfl)) rfl <| Nl <| AW.seq <| Cn rfl (fun hc => absurd (of_decide_eq_true hc) hsf1.zero) (fun hc => ?_)
  refine AW.exit <| SR <| Ak rfl <| Nl <| AW.ret ?_
  obtain rfl := si h
  exact Zg Tryz.results273 rfl (Zf rfl)
 | succ m4 =>
  unfold Z81 at h
  generalize hgo1 : Z81 s1 v2 m4 = go1 at h
  refine SR <| Ac (Zi rfl rfl (vt rfl) (vt rfl)) rfl <| Nl <| AW.seq <| Cn rfl (fun hc => ?_) (fun hc => absurd hsf1.succ (of_decide_eq_false hc))
  have hlti3 := of_decide_eq_true hc
  refine AW.skip <| AW.seq <| AW.block <| SR <| Md rfl <| As rfl <| Nl <| AW.seq ?_
  obtain ⟨e5, he5, h⟩ := Z1 h
  refine Rg <| Md rfl <| Md rfl <| Md rfl <| Ac (Z10 rfl rfl Z14 (vt rfl) (vt rfl) he5) rfl <| Lp1 Zu rfl <| Ac (Z1l rfl rfl (vt rfl) (vt rfl)) rfl <| Nl <| Cn rfl (fun hc => ?_) (fun hc => ?_)
  ·have h := Zj hc h
   refine SR <| Md rfl <| As rfl <| Nl <| AW.ret ?_
   obtain rfl := si h
   exact Zg Tryz.results273 rfl (Zf rfl)
  ·have h := Zk hc h
   refine AW.skip <| Rg <| Ac (Z17 (t := 7) rfl rfl (vt rfl) (vk rfl) (vt rfl) hlti3) rfl <| Md rfl <| Nl ?_
   subst hgo1
   exact ⟨(m4, i3 + 1), Nat.lt_succ_self _, ⟨hsf1.next, h⟩, ⟨rfl, ⟨rfl, rfl, rfl, rfl, trivial⟩, trivial⟩⟩
def Zax (kind1 : Int) : Option Int :=
 (Ze4 [18, 17, 25, 22, 0] kind1).bind fun x2 => some x2
theorem Zkg (kind1 : Int) (r : Int) (h : Zax kind1 = some r) : PCon Tryz.prog 218 [rd (Z0 .i64) kind1] (rd (Z0 .i64) r) := by
 refine PCon.of (Con.intro0 Tryz.func218 rfl Tryz.ntmps218 rfl fun w H => ?_)
 unfold Zax at h
 refine SR <| Ak rfl <| Nl <| AW.seq ?_
 obtain ⟨x2, hx2, h⟩ := Z1 h
 refine Rg <| Ac (Z3k (ps := [(0, .const (Value.int IntKind.i64 18)), (1, .const (Value.int IntKind.i64 17)), (2, .const (Value.int IntKind.i64 25)), (3, .const (Value.int IntKind.i64 22)), (4, .const (Value.int IntKind.i64 0))]) (l := [18, 17, 25, 22, 0]) rfl rfl Z14 zr3 rfl rfl ⟨_, _, Lens.idx 5 (Z0 .i64) 0 (by decide), _, rfl, (vk rfl), _, _, Lens.idx 5 (Z0 .i64) 1 (by decide), _, rfl, (vk rfl), _, _, Lens.idx 5 (Z0 .i64) 2 (by decide), _, rfl, (vk rfl), _, _, Lens.idx 5 (Z0 .i64) 3 (by decide), _, rfl, (vk rfl), _, _, Lens.idx 5 (Z0 .i64) 4 (by decide), _, rfl, (vk rfl), rfl⟩ rfl) rfl <| Md rfl <| Cl [3, 4] (Y2n _ _ _ hx2) Zz8 rfl <| As rfl <| Nl <| AW.ret ?_
 obtain rfl := si h
 exact Zg Tryz.results218 rfl (Zf rfl)
def Zdc (a1 : Action) (cp2 : Bool) : Option Bool :=
 (Zax a1.Kind).bind fun x4 => some ((decide (x4 < 0)) || (cp2 && (decide (a1.Kind = 0))))
theorem Zwd (a1 : Action) (cp2 : Bool) (r : Bool) (h : Zdc a1 cp2 = some r) : PCon Tryz.prog 217 [rd Z5 a1, rp Z6 cp2] (rd Z6 r) := by
 refine PCon.of (Con.intro0 Tryz.func217 rfl Tryz.ntmps217 rfl fun w H => ?_)
 unfold Zdc at h
 refine SR <| Ct rfl (Zs 3 rfl rfl (vt rfl)) ?_
 rintro _ ⟨g3, rfl⟩
 refine Ab rfl <| Nl <| AW.seq ?_
 obtain ⟨x4, hx4, h⟩ := Z1 h
 refine Rg <| Zt Z6a Z8z rfl <| Ld Zu 3 rfl <| Cl [5] (Zkg _ _ hx4) Zkc rfl <| Ac (Zi rfl rfl (vt rfl) (vk rfl)) rfl <| Md rfl <| Gd rfl (fun hq => Zfr rfl rfl ty4 (vt rfl)) <| AOps.consG (OpG.guardX rfl rfl rfl rfl rfl fun hq => Zq (A := rd Z6 cp2) rfl rfl (Zm rfl hq)) <| AOps.consG (OpG.guardN rfl rfl rfl rfl rfl fun hq => Z1w Z6a rfl rfl Z8z (vt rfl)) <| AOps.consG (OpG.guardN rfl rfl rfl rfl rfl fun hq => Z11 rfl rfl Zu (Zm rfl hq) (i := 3) rfl) <| AOps.consG (OpG.guardN rfl rfl rfl rfl rfl fun hq => Z1l rfl rfl (Zm rfl hq) (vk rfl)) <| Gd rfl (fun hq => Z16 rfl rfl (vgx rfl hq) (vgw rfl hq)) <| Ac (Zj9 rfl rfl (vt rfl) (vt rfl)) rfl <| As rfl <| Nl <| AW.ret ?_
 obtain rfl := si h
 exact Zg Tryz.results217 rfl (Zf rfl)
end Go.Proofs.YtknpgojdkobgjaaGreat.W
set_option maxRecDepth 4000
namespace Go.Proofs.YtknpgojdkobgjaaGreat.W
open Go Go.Wb
theorem Zmk : Ent Tryz.prog 343 := Ent.mk Tryz.func343 rfl rfl
theorem Zim : Ent Tryz.prog 311 := Ent.mk Tryz.func311 rfl rfl
theorem Y19 : Ent Tryz.prog 335 := Ent.mk Tryz.func335 rfl rfl
theorem Zup : Ent Tryz.prog 310 := Ent.mk Tryz.func310 rfl rfl
theorem Y8b : Ent Tryz.prog 274 := Ent.mk Tryz.func274 rfl rfl
theorem Y7x : Ent Tryz.prog 213 := Ent.mk Tryz.func213 rfl rfl
theorem Y52 : Ent Tryz.prog 214 := Ent.mk Tryz.func214 rfl rfl
theorem Y6y : Ent Tryz.prog 217 := Ent.mk Tryz.func217 rfl rfl
theorem Zvy : Ent Tryz.prog 215 := Ent.mk Tryz.func215 rfl rfl
theorem Y3b : Ent Tryz.prog 219 := Ent.mk Tryz.func219 rfl rfl
theorem Y5r : Ent Tryz.prog 220 := Ent.mk Tryz.func220 rfl rfl
def Z7a (del3 : (Action → Option Bool)) : Nat → (List Action) → Int → Int → Option (List Action)
 | 0, _, _, _ => none
 | m11 + 1, l8, i9, j10 => (bif (decide (j10 < (l8.length : Int))) then (lget l8 j10).bind fun e12 => (del3 e12).bind fun x14 => (bif (!x14) then (lget l8 i9).bind fun e15 => (Z7a del3 m11) (List.set l8 i9.toNat e12) (IntKind.i64.wrap (i9 + 1)) (IntKind.i64.wrap (j10 + 1)) else (Z7a del3 m11) l8 i9 (IntKind.i64.wrap (j10 + 1))) else (Z58 l8 i9).bind fun s16 => (Z3v (List.take i9.toNat l8 ++ List.replicate (l8.length - i9.toNat) Zjl) i9).bind fun s17 => some s17)
def Zed (s1 : (List Action)) (del3 : (Action → Option Bool)) : Option (List Action) :=
 (Za6 s1 del3).bind fun x4 => (bif (decide (x4 = (-1))) then some s1 else Z7a del3 ((((s1.length : Int) : Int) - (IntKind.i64.wrap (x4 + 1))).toNat + 1) s1 x4 (IntKind.i64.wrap (x4 + 1)))
theorem Y8k (v2 : Value) (s1 : (List Action)) (del3 : (Action → Option Bool)) (r : (List Action)) (h : Zed s1 del3 = some r) : Con Tryz.prog 215 [Za v2, fn1 Tryz.prog Z5 Z6 del3] (Z9 v2 121 Z5 s1) (fun v => Za v) (fun v => Z9 v 121 Z5 r) := by
 refine Con.intro Tryz.func215 rfl Tryz.ntmps215 rfl fun w H X => ?_
 unfold Zed at h
 refine AW.seq <| AW.newnil 1001 121 Z5 <| Rg <| Ac (Z0j rfl rfl vc) rfl <| Nl <| AW.seq ?_
 obtain ⟨x4, hx4, h⟩ := Z1 h
 refine Rg <| Mw rfl <| Ac (Zq (A := fn1 Tryz.prog Z5 Z6 del3) rfl rfl (vt rfl)) rfl <| Ac (Zkx (xs := [.tmp 8, .tmp 9]) 0 (Zl1 _ _ _ hx4) Zl4 rfl rfl ⟨vL rfl rfl, vB (vt rfl), trivial⟩) rfl <| As rfl <| Nl <| AW.seq <| SR <| Md rfl <| Ac (Z1l rfl rfl (vt rfl) (vk rfl)) rfl <| Nl <| Cn rfl (fun hc => ?_) (fun hc => ?_)
 ·have h := Zj hc h
  refine SR <| Mw rfl <| Aw rfl <| Nl <| AW.ret ?_
  obtain rfl := si h
  exact Z4g (i := 0) Tryz.results215 rfl rfl rfl
 ·have h := Zk hc h
  refine AW.skip <| AW.seq <| SR <| Md rfl <| Ac (Z0e rfl rfl (vt rfl) (vk rfl)) rfl <| As rfl <| Nl <| AW.block <| AW.loopG (d := []) (ν := Nat × (List Action) × Int × Int) (fun n => True ∧ Z7a del3 n.1 n.2.1 n.2.2.1 n.2.2.2 = some r) (fun n => n.1) (fun n => [(0, Za v2), (1, fn1 Tryz.prog Z5 Z6 del3), (5, rd (Z0 .i64) n.2.2.1), (6, rd (Z0 .i64) n.2.2.2)]) (fun n => [(0, Z9 v2 121 Z5 n.2.1)]) (((((s1.length : Int) : Int) - (IntKind.i64.wrap (x4 + 1))).toNat + 1), s1, x4, (IntKind.i64.wrap (x4 + 1))) ⟨trivial, h⟩ ⟨rfl, ⟨rfl, rfl, rfl, rfl, trivial⟩, ⟨rfl, trivial⟩⟩ ?_
  rintro ⟨m11, l8, i9, j10⟩ ⟨hsf1, h⟩
  change True at hsf1
  change Z7a del3 m11 l8 i9 j10 = some r at h
  change AW _ _ _ ⟨Zw [(0, Za v2), (1, fn1 Tryz.prog Z5 Z6 del3), (5, rd (Z0 .i64) i9), (6, rd (Z0 .i64) j10)], Zx [(0, Z9 v2 121 Z5 l8)], _⟩
  cases m11 with
  | zero => cases h
  | succ m11 =>
   unfold Z7a at h
   generalize hgo1 : Z7a del3 m11 = go1 at h
   refine AW.seq <| SR <| Md rfl <| Mw rfl <| Ac (Zae 0 rfl rfl Z0n (vt rfl) rfl) rfl <| Ac (Zi rfl rfl (vt rfl) (vt rfl)) rfl <| Nl <| Cn rfl (fun hc => ?_) (fun hc => ?_)
   ·have h := Zj hc h
    refine AW.skip <| AW.seq <| AW.block <| AW.seq ?_
    obtain ⟨e12, he12, h⟩ := Z1 h
    refine Rg <| Mw rfl <| Md rfl <| Ac (Z1q 0 rfl rfl Z0n (vt rfl) rfl (vt rfl) he12) rfl <| Ac (Z13 0 rfl rfl Z0l (vt rfl) rfl (Z06 he12).2) rfl <| Ct rfl (Zo 8 rfl rfl Z72) ?_
    rintro _ ⟨g13, rfl⟩
    refine Zh Z0l 8 rfl <| Nl <| AW.seq ?_
    obtain ⟨x14, hx14, h⟩ := Z1 h
    refine Rg <| Ac (Zq (A := fn1 Tryz.prog Z5 Z6 del3) rfl rfl (vt rfl)) rfl <| Ld Z0l 8 rfl <| Ac (Z8s hx14 rfl rfl (vt rfl) (vt rfl)) rfl <| Ac (Z0x rfl rfl (vt rfl)) rfl <| Nl <| Cn rfl (fun hc => ?_) (fun hc => ?_)
    ·have h := Zj hc h
     refine AW.seq ?_
     obtain ⟨e15, he15, h⟩ := Z1 h
     refine Rg <| Mw rfl <| Md rfl <| Ld Z0l 8 rfl <| Ac (Z1q 0 rfl rfl Z0n (vt rfl) rfl (vt rfl) he15) rfl <| Ac (Z2d 0 rfl rfl Z0l (vt rfl) rfl (Z06 he15).2 (vt rfl)) rfl <| Nl <| Rg <| Md rfl <| Ac (Z0e rfl rfl (vt rfl) (vk rfl)) rfl <| As rfl <| Nl <| Rg <| Md rfl <| Ac (Z0e rfl rfl (vt rfl) (vk rfl)) rfl <| As rfl <| Nl ?_
     subst hgo1
     exact ⟨(m11, (List.set l8 i9.toNat e12), (IntKind.i64.wrap (i9 + 1)), (IntKind.i64.wrap (j10 + 1))), Nat.lt_succ_self _, ⟨trivial, h⟩, ⟨rfl, ⟨rfl, rfl, rfl, rfl, trivial⟩, ⟨rfl, trivial⟩⟩⟩
    ·have h := Zk hc h
     refine AW.skip <| Rg <| Md rfl <| Ac (Z0e rfl rfl (vt rfl) (vk rfl)) rfl <| As rfl <| Nl ?_
     subst hgo1
     exact ⟨(m11, l8, i9, (IntKind.i64.wrap (j10 + 1))), Nat.lt_succ_self _, ⟨trivial, h⟩, ⟨rfl, ⟨rfl, rfl, rfl, rfl, trivial⟩, ⟨rfl, trivial⟩⟩⟩
   ·have h := Zk hc h
    refine AW.exit <| AW.seq ?_
    obtain ⟨s16, hs16, h⟩ := Z1 h
    refine Rg <| Mw rfl <| Md rfl <| Ac (Y1z 0 hs16 rfl rfl Z0n (vt rfl) rfl (vt rfl)) rfl <| Ac (Y7c 0 rfl rfl Z0n Z72 rfl (vt rfl) rfl (Zm8 hs16).2.1) rfl <| Nl <| AW.seq ?_
    obtain ⟨s17, hs17, h⟩ := Z1 h
    refine Rg <| Mw rfl <| Md rfl <| Ct rfl (Y3v 0 hs17 rfl rfl Z0n (vt rfl) rfl (vt rfl)) ?_
    rintro _ ⟨v18, rfl⟩
    refine Aw rfl <| Nl <| AW.ret ?_
    obtain rfl := si h
    exact Z4g (i := 0) Tryz.results215 rfl rfl rfl
def Z82 (a3 : Int) (cmp5 : (Action → Action → Option Int)) (go1 : (List Action) → Int → Option (List Action)) (i9 : Int) : Nat → (List Action) → Int → Option (List Action)
 | 0, _, _ => none
 | m15 + 1, l13, j14 => (opt (decide (j14 > a3)) (lget l13 j14)).bind fun e16 => (opt (decide (j14 > a3)) (lget l13 (IntKind.i64.wrap (j14 - 1)))).bind fun e17 => (opt (decide (j14 > a3)) (cmp5 e16 e17)).bind fun x18 => (bif ((decide (j14 > a3)) && (decide (x18 < 0))) then (lget l13 (IntKind.i64.wrap (j14 - 1))).bind fun e19 => (lget l13 j14).bind fun e20 => (lget l13 j14).bind fun e21 => (lget (List.set l13 j14.toNat e19) (IntKind.i64.wrap (j14 - 1))).bind fun e22 => (Z82 a3 cmp5 go1 i9 m15) (List.set (List.set l13 j14.toNat e19) (IntKind.i64.wrap (j14 - 1)).toNat e20) (IntKind.i64.wrap (j14 - 1)) else go1 l13 (IntKind.i64.wrap (i9 + 1)))
def Z6i (b4 : Int) (a3 : Int) (cmp5 : (Action → Action → Option Int)) : Nat → (List Action) → Int → Option (List Action)
 | 0, _, _ => none
 | m10 + 1, l8, i9 => (bif (decide (i9 < b4)) then Z82 a3 cmp5 (Z6i b4 a3 cmp5 m10) i9 Z18 l8 i9 else some l8)
def Zaz (data1 : (List Action)) (a3 : Int) (b4 : Int) (cmp5 : (Action → Action → Option Int)) : Option (List Action) :=
 Z6i b4 a3 cmp5 (((b4 : Int) - (IntKind.i64.wrap (a3 + 1))).toNat + 1) data1 (IntKind.i64.wrap (a3 + 1))
theorem Zto (v2 : Value) (data1 : (List Action)) (a3 : Int) (b4 : Int) (cmp5 : (Action → Action → Option Int)) (r : (List Action)) (h : Zaz data1 a3 b4 cmp5 = some r) : Con Tryz.prog 310 [Za v2, rd (Z0 .i64) a3, rd (Z0 .i64) b4, Zl Tryz.prog Z5 Z5 (Z0 .i64) cmp5] (Z9 v2 121 Z5 data1) (fun _ : Unit => top) (fun _ => Z9 v2 121 Z5 r) := by
 refine Con.intro Tryz.func310 rfl Tryz.ntmps310 rfl fun w H X => ?_
 unfold Zaz at h
 refine SR <| Md rfl <| Ac (Z0e rfl rfl (vt rfl) (vk rfl)) rfl <| As rfl <| Nl <| AW.block <| AW.loopG (d := []) (ν := Nat × (List Action) × Int) (fun n => True ∧ Z6i b4 a3 cmp5 n.1 n.2.1 n.2.2 = some r) (fun n => n.1) (fun n => [(0, Za v2), (1, rd (Z0 .i64) a3), (2, rd (Z0 .i64) b4), (3, Zl Tryz.prog Z5 Z5 (Z0 .i64) cmp5), (8, rd (Z0 .i64) n.2.2)]) (fun n => [(0, Z9 v2 121 Z5 n.2.1)]) ((((b4 : Int) - (IntKind.i64.wrap (a3 + 1))).toNat + 1), data1, (IntKind.i64.wrap (a3 + 1))) ⟨trivial, h⟩ ⟨rfl, ⟨rfl, rfl, rfl, rfl, rfl, trivial⟩, ⟨rfl, trivial⟩⟩ ?_
 rintro ⟨m10, l8, i9⟩ ⟨hsf1, h⟩
 change True at hsf1
 change Z6i b4 a3 cmp5 m10 l8 i9 = some r at h
 change AW _ _ _ ⟨Zw [(0, Za v2), (1, rd (Z0 .i64) a3), (2, rd (Z0 .i64) b4), (3, Zl Tryz.prog Z5 Z5 (Z0 .i64) cmp5), (8, rd (Z0 .i64) i9)], Zx [(0, Z9 v2 121 Z5 l8)], _⟩
 cases m10 with
 | zero => cases h
 | succ m10 =>
  unfold Z6i at h
  generalize hgo1 : Z6i b4 a3 cmp5 m10 = go1 at h
  refine AW.seq <| SR <| Md rfl <| Md rfl <| Ac (Zi rfl rfl (vt rfl) (vt rfl)) rfl <| Nl <| Cn rfl (fun hc => ?_) (fun hc => ?_)
  ·have h := Zj hc h
   refine AW.skip <| AW.seq <| AW.block <| SR <| Md rfl <| As rfl <| Nl <| AW.block <| AW.loopG (d := []) (ν := Nat × (List Action) × Int) (fun n => True ∧ Z82 a3 cmp5 go1 i9 n.1 n.2.1 n.2.2 = some r) (fun n => n.1) (fun n => [(0, Za v2), (1, rd (Z0 .i64) a3), (2, rd (Z0 .i64) b4), (3, Zl Tryz.prog Z5 Z5 (Z0 .i64) cmp5), (8, rd (Z0 .i64) i9), (9, rd (Z0 .i64) n.2.2)]) (fun n => [(0, Z9 v2 121 Z5 n.2.1)]) (Z18, l8, i9) ⟨trivial, h⟩ ⟨rfl, ⟨rfl, rfl, rfl, rfl, rfl, rfl, trivial⟩, ⟨rfl, trivial⟩⟩ ?_
   rintro ⟨m15, l13, j14⟩ ⟨hsf2, h⟩
   change True at hsf2
   change Z82 a3 cmp5 go1 i9 m15 l13 j14 = some r at h
   change AW _ _ _ ⟨Zw [(0, Za v2), (1, rd (Z0 .i64) a3), (2, rd (Z0 .i64) b4), (3, Zl Tryz.prog Z5 Z5 (Z0 .i64) cmp5), (8, rd (Z0 .i64) i9), (9, rd (Z0 .i64) j14)], Zx [(0, Z9 v2 121 Z5 l13)], _⟩
   cases m15 with
   | zero => cases h
   | succ m15 =>
    unfold Z82 at h
    generalize hgo2 : Z82 a3 cmp5 go1 i9 m15 = go2 at h
    refine AW.seq <| AW.seq ?_
    obtain ⟨e16, he16, h⟩ := Z1 h
    obtain ⟨e17, he17, h⟩ := Z1 h
    obtain ⟨x18, hx18, h⟩ := Z1 h
    refine AW.regionAny [⟨[9], [18], [], []⟩, ⟨[1], [19], [], []⟩, ⟨[18, 19], [20], [], []⟩, ⟨[20], [21], [], []⟩, ⟨[3, 21], [22], [], []⟩, ⟨[0, 21], [23], [], []⟩, ⟨[9, 21], [24], [], []⟩, ⟨[23, 24, 21], [25], [0], []⟩, ⟨[25, 21], [26], [0], []⟩, ⟨[0, 21], [27], [], []⟩, ⟨[9, 21], [28], [], []⟩, ⟨[28, 21], [29], [], []⟩, ⟨[27, 29, 21], [30], [0], []⟩, ⟨[30, 21], [31], [0], []⟩, ⟨[22, 26, 31, 21], [32], [], []⟩, ⟨[32, 21], [33], [], []⟩, ⟨[33, 21], [34], [], []⟩] Z05 (by kernel_rfl) <| SMd rfl <| SMd rfl <| Sc (lo [18, 19] [] rfl fun S hs hr => Z4f rfl rfl (vh hs 18 rfl rfl) (vh hs 19 rfl rfl)) rfl <| SMd rfl <| Sc (lg [3, 21] [] rfl fun hq S hs hr => Zq (A := Zl Tryz.prog Z5 Z5 (Z0 .i64) cmp5) rfl rfl (vh hs 3 rfl rfl)) rfl <| Sc (lg [0, 21] [] rfl fun hq S hs hr => Zq (A := Za v2) rfl rfl (vh hs 0 rfl rfl)) rfl <| Sc (lg [9, 21] [] rfl fun hq S hs hr => Zq (A := rd (Z0 .i64) j14) rfl rfl (vh hs 9 rfl rfl)) rfl <| Sc (lg [23, 24, 21] [0] rfl fun hq S hs hr => Z1q 0 rfl rfl Z0n (Zm ((hs 23 rfl).trans rfl) hq) ((hr 0 rfl).trans rfl) (Zm ((hs 24 rfl).trans rfl) hq) (Z1m he16 hq)) rfl <| Sc (lg [25, 21] [0] rfl fun hq S hs hr => Z13 0 rfl rfl Z0l (Zm ((hs 25 rfl).trans rfl) hq) ((hr 0 rfl).trans rfl) (Z06 (Z1m he16 hq)).2) rfl <| Sc (lg [0, 21] [] rfl fun hq S hs hr => Zq (A := Za v2) rfl rfl (vh hs 0 rfl rfl)) rfl <| Sc (lg [9, 21] [] rfl fun hq S hs hr => Zq (A := rd (Z0 .i64) j14) rfl rfl (vh hs 9 rfl rfl)) rfl <| Sc (lg [28, 21] [] rfl fun hq S hs hr => Z0m rfl rfl (Zm ((hs 28 rfl).trans rfl) hq) (vk rfl)) rfl <| Sc (lg [27, 29, 21] [0] rfl fun hq S hs hr => Z1q 0 rfl rfl Z0n (Zm ((hs 27 rfl).trans rfl) hq) ((hr 0 rfl).trans rfl) (Zm ((hs 29 rfl).trans rfl) hq) (Z1m he17 hq)) rfl <| Sc (lg [30, 21] [0] rfl fun hq S hs hr => Z13 0 rfl rfl Z0l (Zm ((hs 30 rfl).trans rfl) hq) ((hr 0 rfl).trans rfl) (Z06 (Z1m he17 hq)).2) rfl <| Sc (lg [22, 26, 31, 21] [] rfl fun hq S hs hr => Z4i (Z1m hx18 hq) rfl rfl (Zm ((hs 22 rfl).trans rfl) hq) (Zm ((hs 26 rfl).trans rfl) hq) (Zm ((hs 31 rfl).trans rfl) hq)) rfl <| Sc (lg [32, 21] [] rfl fun hq S hs hr => Zi rfl rfl (Zm ((hs 32 rfl).trans rfl) hq) (vk rfl)) rfl <| Sc (lo [33, 21] [] rfl fun S hs hr => Z16 rfl rfl (vh hs 21 rfl rfl) (vh hs 33 rfl rfl)) rfl <| Cn rfl (fun hc => ?_) (fun hc => ?_)
    ·have h := Zj hc h
     refine AW.skip <| AW.seq <| AW.block <| AW.vlen 0 rfl fun hvl0_273 => ?_
     obtain ⟨e19, he19, h⟩ := Z1 h
     obtain ⟨e20, he20, h⟩ := Z1 h
     obtain ⟨e21, he21, h⟩ := Z1 h
     obtain ⟨e22, he22, h⟩ := Z1 h
     refine AW.regionAny [⟨[0], [37], [], []⟩, ⟨[9], [38], [], []⟩, ⟨[0], [39], [], []⟩, ⟨[9], [40], [], []⟩, ⟨[40], [41], [], []⟩, ⟨[0], [42], [], []⟩, ⟨[9], [43], [], []⟩, ⟨[43], [44], [], []⟩, ⟨[42, 44], [45], [], []⟩, ⟨[45], [46], [0], []⟩, ⟨[0], [47], [], []⟩, ⟨[9], [48], [], []⟩, ⟨[47, 48], [49], [], []⟩, ⟨[49], [50], [0], []⟩, ⟨[37, 38], [51], [], []⟩, ⟨[51, 46], [], [0], [0]⟩, ⟨[39, 41], [52], [], []⟩, ⟨[52, 50], [], [0], [0]⟩] Z05 (by kernel_rfl) <| SMw rfl <| SMd rfl <| SMw rfl <| SMd rfl <| Sc (lo [40] [] rfl fun S hs hr => Z0m rfl rfl (vh hs 40 rfl rfl) (vk rfl)) rfl <| SMw rfl <| SMd rfl <| Sc (lo [43] [] rfl fun S hs hr => Z0m rfl rfl (vh hs 43 rfl rfl) (vk rfl)) rfl <| Sc (lo [42, 44] [] rfl fun S hs hr => Z1b (l := l13) hvl0_273 rfl rfl rfl Z0n (vh hs 42 rfl rfl) (vh hs 44 rfl rfl) he19) rfl <| Sc (lo [45] [0] rfl fun S hs hr => Z13 0 rfl rfl Z0l (vh hs 45 rfl rfl) ((hr 0 rfl).trans rfl) (Z06 he19).2) rfl <| SMw rfl <| SMd rfl <| Sc (lo [47, 48] [] rfl fun S hs hr => Z1b (l := l13) hvl0_273 rfl rfl rfl Z0n (vh hs 47 rfl rfl) (vh hs 48 rfl rfl) he20) rfl <| Sc (lo [49] [0] rfl fun S hs hr => Z13 0 rfl rfl Z0l (vh hs 49 rfl rfl) ((hr 0 rfl).trans rfl) (Z06 he20).2) rfl <| Sc (lo [37, 38] [] rfl fun S hs hr => Z1b (l := l13) hvl0_273 rfl rfl rfl Z0n (vh hs 37 rfl rfl) (vh hs 38 rfl rfl) he21) rfl <| Sc (Z30 [51, 46] [0] rfl fun S hs hr => Z2d 0 rfl rfl Z0l (vh hs 51 rfl rfl) ((hr 0 rfl).trans rfl) (Z06 he21).2 (vh hs 46 rfl rfl)) rfl <| Sc (lo [39, 41] [] rfl fun S hs hr => Z1b (l := (List.set l13 j14.toNat e19)) hvl0_273 (by simp) rfl rfl Z0n (vh hs 39 rfl rfl) (vh hs 41 rfl rfl) he22) rfl <| Sc (Z30 [52, 50] [0] rfl fun S hs hr => Z2d 0 rfl rfl Z0l (vh hs 52 rfl rfl) ((hr 0 rfl).trans rfl) (Z06 he22).2 (vh hs 50 rfl rfl)) rfl <| Rg <| Md rfl <| Ac (Z0m rfl rfl (vt rfl) (vk rfl)) rfl <| As rfl <| Nl ?_
     subst hgo2
     exact ⟨(m15, (List.set (List.set l13 j14.toNat e19) (IntKind.i64.wrap (j14 - 1)).toNat e20), (IntKind.i64.wrap (j14 - 1))), Nat.lt_succ_self _, ⟨trivial, h⟩, ⟨rfl, ⟨rfl, rfl, rfl, rfl, rfl, rfl, trivial⟩, ⟨rfl, trivial⟩⟩⟩
    ·have h := Zk hc h
     refine AW.exit <| Rg <| Md rfl <| Ac (Z0e rfl rfl (vt rfl) (vk rfl)) rfl <| As rfl <| Nl ?_
     subst hgo1
     exact ⟨(m10, l13, (IntKind.i64.wrap (i9 + 1))), Nat.lt_succ_self _, ⟨trivial, h⟩, ⟨rfl, ⟨rfl, rfl, rfl, rfl, rfl, trivial⟩, ⟨rfl, trivial⟩⟩⟩
  ·have h := Zk hc h
   refine AW.exit ?_
   obtain rfl := si h
   exact Z1t (i := 0) Tryz.results310 rfl rfl
def Z85 (n5 : Int) (b4 : Int) (a3 : Int) : Nat → (List Action) → Int → Option (List Action)
 | 0, _, _ => none
 | m11 + 1, l9, i10 => (bif (decide (i10 < n5)) then (lget l9 (IntKind.i64.wrap (b4 + i10))).bind fun e12 => (lget l9 (IntKind.i64.wrap (a3 + i10))).bind fun e13 => (lget l9 (IntKind.i64.wrap (a3 + i10))).bind fun e14 => (lget (List.set l9 (IntKind.i64.wrap (a3 + i10)).toNat e12) (IntKind.i64.wrap (b4 + i10))).bind fun e15 => (Z85 n5 b4 a3 m11) (List.set (List.set l9 (IntKind.i64.wrap (a3 + i10)).toNat e12) (IntKind.i64.wrap (b4 + i10)).toNat e13) (IntKind.i64.wrap (i10 + 1)) else some l9)
def Z9u (data1 : (List Action)) (a3 : Int) (b4 : Int) (n5 : Int) (cmp6 : (Action → Action → Option Int)) : Option (List Action) :=
 Z85 n5 b4 a3 (((n5 : Int) - 0).toNat + 1) data1 0
theorem Zmi (v2 : Value) (data1 : (List Action)) (a3 : Int) (b4 : Int) (n5 : Int) (cmp6 : (Action → Action → Option Int)) (r : (List Action)) (h : Z9u data1 a3 b4 n5 cmp6 = some r) : Con Tryz.prog 343 [Za v2, rd (Z0 .i64) a3, rd (Z0 .i64) b4, rd (Z0 .i64) n5, Zl Tryz.prog Z5 Z5 (Z0 .i64) cmp6] (Z9 v2 121 Z5 data1) (fun _ : Unit => top) (fun _ => Z9 v2 121 Z5 r) := by
 refine Con.intro Tryz.func343 rfl Tryz.ntmps343 rfl fun w H X => ?_
 unfold Z9u at h
 refine SR <| Ak rfl <| Nl <| AW.block <| AW.loopG (d := []) (ν := Nat × (List Action) × Int) (fun n => True ∧ Z85 n5 b4 a3 n.1 n.2.1 n.2.2 = some r) (fun n => n.1) (fun n => [(0, Za v2), (1, rd (Z0 .i64) a3), (2, rd (Z0 .i64) b4), (3, rd (Z0 .i64) n5), (10, rd (Z0 .i64) n.2.2)]) (fun n => [(0, Z9 v2 121 Z5 n.2.1)]) ((((n5 : Int) - 0).toNat + 1), data1, 0) ⟨trivial, h⟩ ⟨rfl, ⟨rfl, rfl, rfl, rfl, rfl, trivial⟩, ⟨rfl, trivial⟩⟩ ?_
 rintro ⟨m11, l9, i10⟩ ⟨hsf1, h⟩
 change True at hsf1
 change Z85 n5 b4 a3 m11 l9 i10 = some r at h
 change AW _ _ _ ⟨Zw [(0, Za v2), (1, rd (Z0 .i64) a3), (2, rd (Z0 .i64) b4), (3, rd (Z0 .i64) n5), (10, rd (Z0 .i64) i10)], Zx [(0, Z9 v2 121 Z5 l9)], _⟩
 cases m11 with
 | zero => cases h
 | succ m11 =>
  unfold Z85 at h
  generalize hgo1 : Z85 n5 b4 a3 m11 = go1 at h
  refine AW.seq <| SR <| Md rfl <| Md rfl <| Ac (Zi rfl rfl (vt rfl) (vt rfl)) rfl <| Nl <| Cn rfl (fun hc => ?_) (fun hc => ?_)
  ·have h := Zj hc h
   refine AW.skip <| AW.seq <| AW.block <| AW.vlen 0 rfl fun hvl0_127 => ?_
   obtain ⟨e12, he12, h⟩ := Z1 h
   obtain ⟨e13, he13, h⟩ := Z1 h
   obtain ⟨e14, he14, h⟩ := Z1 h
   obtain ⟨e15, he15, h⟩ := Z1 h
   refine AW.regionAny [⟨[0], [16], [], []⟩, ⟨[1], [17], [], []⟩, ⟨[10], [18], [], []⟩, ⟨[17, 18], [19], [], []⟩, ⟨[0], [20], [], []⟩, ⟨[2], [21], [], []⟩, ⟨[10], [22], [], []⟩, ⟨[21, 22], [23], [], []⟩, ⟨[0], [24], [], []⟩, ⟨[2], [25], [], []⟩, ⟨[10], [26], [], []⟩, ⟨[25, 26], [27], [], []⟩, ⟨[24, 27], [28], [], []⟩, ⟨[28], [29], [0], []⟩, ⟨[0], [30], [], []⟩, ⟨[1], [31], [], []⟩, ⟨[10], [32], [], []⟩, ⟨[31, 32], [33], [], []⟩, ⟨[30, 33], [34], [], []⟩, ⟨[34], [35], [0], []⟩, ⟨[16, 19], [36], [], []⟩, ⟨[36, 29], [], [0], [0]⟩, ⟨[20, 23], [37], [], []⟩, ⟨[37, 35], [], [0], [0]⟩] Z05 (by kernel_rfl) <| SMw rfl <| SMd rfl <| SMd rfl <| Sc (lo [17, 18] [] rfl fun S hs hr => Z0e rfl rfl (vh hs 17 rfl rfl) (vh hs 18 rfl rfl)) rfl <| SMw rfl <| SMd rfl <| SMd rfl <| Sc (lo [21, 22] [] rfl fun S hs hr => Z0e rfl rfl (vh hs 21 rfl rfl) (vh hs 22 rfl rfl)) rfl <| SMw rfl <| SMd rfl <| SMd rfl <| Sc (lo [25, 26] [] rfl fun S hs hr => Z0e rfl rfl (vh hs 25 rfl rfl) (vh hs 26 rfl rfl)) rfl <| Sc (lo [24, 27] [] rfl fun S hs hr => Z1b (l := l9) hvl0_127 rfl rfl rfl Z0n (vh hs 24 rfl rfl) (vh hs 27 rfl rfl) he12) rfl <| Sc (lo [28] [0] rfl fun S hs hr => Z13 0 rfl rfl Z0l (vh hs 28 rfl rfl) ((hr 0 rfl).trans rfl) (Z06 he12).2) rfl <| SMw rfl <| SMd rfl <| SMd rfl <| Sc (lo [31, 32] [] rfl fun S hs hr => Z0e rfl rfl (vh hs 31 rfl rfl) (vh hs 32 rfl rfl)) rfl <| Sc (lo [30, 33] [] rfl fun S hs hr => Z1b (l := l9) hvl0_127 rfl rfl rfl Z0n (vh hs 30 rfl rfl) (vh hs 33 rfl rfl) he13) rfl <| Sc (lo [34] [0] rfl fun S hs hr => Z13 0 rfl rfl Z0l (vh hs 34 rfl rfl) ((hr 0 rfl).trans rfl) (Z06 he13).2) rfl <| Sc (lo [16, 19] [] rfl fun S hs hr => Z1b (l := l9) hvl0_127 rfl rfl rfl Z0n (vh hs 16 rfl rfl) (vh hs 19 rfl rfl) he14) rfl <| Sc (Z30 [36, 29] [0] rfl fun S hs hr => Z2d 0 rfl rfl Z0l (vh hs 36 rfl rfl) ((hr 0 rfl).trans rfl) (Z06 he14).2 (vh hs 29 rfl rfl)) rfl <| Sc (lo [20, 23] [] rfl fun S hs hr => Z1b (l := (List.set l9 (IntKind.i64.wrap (a3 + i10)).toNat e12)) hvl0_127 (by simp) rfl rfl Z0n (vh hs 20 rfl rfl) (vh hs 23 rfl rfl) he15) rfl <| Sc (Z30 [37, 35] [0] rfl fun S hs hr => Z2d 0 rfl rfl Z0l (vh hs 37 rfl rfl) ((hr 0 rfl).trans rfl) (Z06 he15).2 (vh hs 35 rfl rfl)) rfl <| Rg <| Md rfl <| Ac (Z0e rfl rfl (vt rfl) (vk rfl)) rfl <| As rfl <| Nl ?_
   subst hgo1
   exact ⟨(m11, (List.set (List.set l9 (IntKind.i64.wrap (a3 + i10)).toNat e12) (IntKind.i64.wrap (b4 + i10)).toNat e13), (IntKind.i64.wrap (i10 + 1))), Nat.lt_succ_self _, ⟨trivial, h⟩, ⟨rfl, ⟨rfl, rfl, rfl, rfl, rfl, trivial⟩, ⟨rfl, trivial⟩⟩⟩
  ·have h := Zk hc h
   refine AW.exit ?_
   obtain rfl := si h
   exact Z1t (i := 0) Tryz.results343 rfl rfl
def Z7m (m4 : Int) (cmp6 : (Action → Action → Option Int)) : Nat → (List Action) → Int → Int → Option (List Action)
 | 0, _, _, _ => none
 | m13 + 1, l10, i11, j12 => (bif (decide (i11 ≠ j12)) then (bif (decide (i11 > j12)) then (Z9u l10 (IntKind.i64.wrap (m4 - i11)) m4 j12 cmp6).bind fun l14 => (Z7m m4 cmp6 m13) l14 (IntKind.i64.wrap (i11 - j12)) j12 else (Z9u l10 (IntKind.i64.wrap (m4 - i11)) (IntKind.i64.wrap ((IntKind.i64.wrap (m4 + j12)) - i11)) i11 cmp6).bind fun l15 => (Z7m m4 cmp6 m13) l15 i11 (IntKind.i64.wrap (j12 - i11))) else (Z9u l10 (IntKind.i64.wrap (m4 - i11)) m4 i11 cmp6).bind fun l16 => some l16)
def Zce (data1 : (List Action)) (a3 : Int) (m4 : Int) (b5 : Int) (cmp6 : (Action → Action → Option Int)) : Option (List Action) :=
 Z7m m4 cmp6 Z18 data1 (IntKind.i64.wrap (m4 - a3)) (IntKind.i64.wrap (b5 - m4))
theorem Y7t (v2 : Value) (data1 : (List Action)) (a3 : Int) (m4 : Int) (b5 : Int) (cmp6 : (Action → Action → Option Int)) (r : (List Action)) (h : Zce data1 a3 m4 b5 cmp6 = some r) : Con Tryz.prog 335 [Za v2, rd (Z0 .i64) a3, rd (Z0 .i64) m4, rd (Z0 .i64) b5, Zl Tryz.prog Z5 Z5 (Z0 .i64) cmp6] (Z9 v2 121 Z5 data1) (fun _ : Unit => top) (fun _ => Z9 v2 121 Z5 r) := by
 refine Con.intro Tryz.func335 rfl Tryz.ntmps335 rfl fun w H X => ?_
 unfold Zce at h
 refine SR <| Md rfl <| Md rfl <| Ac (Z0m rfl rfl (vt rfl) (vt rfl)) rfl <| As rfl <| Nl <| SR <| Md rfl <| Md rfl <| Ac (Z0m rfl rfl (vt rfl) (vt rfl)) rfl <| As rfl <| Nl <| AW.seq <| AW.block <| AW.loopG (d := []) (ν := Nat × (List Action) × Int × Int) (fun n => True ∧ Z7m m4 cmp6 n.1 n.2.1 n.2.2.1 n.2.2.2 = some r) (fun n => n.1) (fun n => [(0, Za v2), (2, rd (Z0 .i64) m4), (4, Zl Tryz.prog Z5 Z5 (Z0 .i64) cmp6), (10, rd (Z0 .i64) n.2.2.1), (11, rd (Z0 .i64) n.2.2.2)]) (fun n => [(0, Z9 v2 121 Z5 n.2.1)]) (Z18, data1, (IntKind.i64.wrap (m4 - a3)), (IntKind.i64.wrap (b5 - m4))) ⟨trivial, h⟩ ⟨rfl, ⟨rfl, rfl, rfl, rfl, rfl, trivial⟩, ⟨rfl, trivial⟩⟩ ?_
 rintro ⟨m13, l10, i11, j12⟩ ⟨hsf1, h⟩
 change True at hsf1
 change Z7m m4 cmp6 m13 l10 i11 j12 = some r at h
 change AW _ _ _ ⟨Zw [(0, Za v2), (2, rd (Z0 .i64) m4), (4, Zl Tryz.prog Z5 Z5 (Z0 .i64) cmp6), (10, rd (Z0 .i64) i11), (11, rd (Z0 .i64) j12)], Zx [(0, Z9 v2 121 Z5 l10)], _⟩
 cases m13 with
 | zero => cases h
 | succ m13 =>
  unfold Z7m at h
  generalize hgo1 : Z7m m4 cmp6 m13 = go1 at h
  refine AW.seq <| SR <| Md rfl <| Md rfl <| Ac (Z74 rfl rfl (vt rfl) (vt rfl)) rfl <| Nl <| Cn rfl (fun hc => ?_) (fun hc => ?_)
  ·have h := Zj hc h
   refine AW.skip <| AW.block <| SR <| Md rfl <| Md rfl <| Ac (Z4f rfl rfl (vt rfl) (vt rfl)) rfl <| Nl <| Cn rfl (fun hc => ?_) (fun hc => ?_)
   ·have h := Zj hc h
    refine AW.seq ?_
    obtain ⟨l14, hl14, h⟩ := Z1 h
    refine Rg <| Mw rfl <| Md rfl <| Md rfl <| Ac (Z0m rfl rfl (vt rfl) (vt rfl)) rfl <| Md rfl <| Md rfl <| Ac (Zq (A := Zl Tryz.prog Z5 Z5 (Z0 .i64) cmp6) rfl rfl (vt rfl)) rfl <| Ct rfl (Z12 0 (xs := [.tmp 24, .tmp 27, .tmp 28, .tmp 29, .tmp 30]) (Zmi _ _ _ _ _ _ _ hl14) Zmk rfl rfl ⟨vt rfl, vt rfl, vt rfl, vt rfl, vt rfl, trivial⟩ rfl) ?_
    rintro _ ⟨_u, rfl⟩
    refine Nl <| Rg <| Md rfl <| Md rfl <| Ac (Z0m rfl rfl (vt rfl) (vt rfl)) rfl <| As rfl <| Nl ?_
    subst hgo1
    exact ⟨(m13, l14, (IntKind.i64.wrap (i11 - j12)), j12), Nat.lt_succ_self _, ⟨trivial, h⟩, ⟨rfl, ⟨rfl, rfl, rfl, rfl, rfl, trivial⟩, ⟨rfl, trivial⟩⟩⟩
   ·have h := Zk hc h
    refine AW.seq ?_
    obtain ⟨l15, hl15, h⟩ := Z1 h
    refine Rg <| Mw rfl <| Md rfl <| Md rfl <| Ac (Z0m rfl rfl (vt rfl) (vt rfl)) rfl <| Md rfl <| Md rfl <| Ac (Z0e rfl rfl (vt rfl) (vt rfl)) rfl <| Md rfl <| Ac (Z0m rfl rfl (vt rfl) (vt rfl)) rfl <| Md rfl <| Ac (Zq (A := Zl Tryz.prog Z5 Z5 (Z0 .i64) cmp6) rfl rfl (vt rfl)) rfl <| Ct rfl (Z12 0 (xs := [.tmp 35, .tmp 38, .tmp 43, .tmp 44, .tmp 45]) (Zmi _ _ _ _ _ _ _ hl15) Zmk rfl rfl ⟨vt rfl, vt rfl, vt rfl, vt rfl, vt rfl, trivial⟩ rfl) ?_
    rintro _ ⟨_u, rfl⟩
    refine Nl <| Rg <| Md rfl <| Md rfl <| Ac (Z0m rfl rfl (vt rfl) (vt rfl)) rfl <| As rfl <| Nl ?_
    subst hgo1
    exact ⟨(m13, l15, i11, (IntKind.i64.wrap (j12 - i11))), Nat.lt_succ_self _, ⟨trivial, h⟩, ⟨rfl, ⟨rfl, rfl, rfl, rfl, rfl, trivial⟩, ⟨rfl, trivial⟩⟩⟩
  ·have h := Zk hc h
   refine AW.exit ?_
   obtain ⟨l16, hl16, h⟩ := Z1 h
   refine Rg <| Mw rfl <| Md rfl <| Md rfl <| Ac (Z0m rfl rfl (vt rfl) (vt rfl)) rfl <| Md rfl <| Md rfl <| Ac (Zq (A := Zl Tryz.prog Z5 Z5 (Z0 .i64) cmp6) rfl rfl (vt rfl)) rfl <| Ct rfl (Z12 0 (xs := [.tmp 50, .tmp 53, .tmp 54, .tmp 55, .tmp 56]) (Zmi _ _ _ _ _ _ _ hl16) Zmk rfl rfl ⟨vt rfl, vt rfl, vt rfl, vt rfl, vt rfl, trivial⟩ rfl) ?_
   rintro _ ⟨_u, rfl⟩
   refine Nl ?_
   obtain rfl := si h
   exact Z1t (i := 0) Tryz.results335 rfl rfl
def Z5b (i9 : Int) : Nat → (List Action) → Int → Option (List Action)
 | 0, _, _ => none
 | m20 + 1, l18, k19 => (bif (decide (k19 < (IntKind.i64.wrap (i9 - 1)))) then (lget l18 (IntKind.i64.wrap (k19 + 1))).bind fun e21 => (lget l18 k19).bind fun e22 => (lget l18 k19).bind fun e23 => (lget (List.set l18 k19.toNat e21) (IntKind.i64.wrap (k19 + 1))).bind fun e24 => (Z5b i9 m20) (List.set (List.set l18 k19.toNat e21) (IntKind.i64.wrap (k19 + 1)).toNat e22) (IntKind.i64.wrap (k19 + 1)) else some l18)
def Z5f (data1 : (List Action)) (a3 : Int) (cmp6 : (Action → Action → Option Int)) : Nat → Int → Int → Option (List Action)
 | 0, _, _ => none
 | m11 + 1, i9, j10 => (bif (decide (i9 < j10)) then (Z2c (BitVec.ofInt 64 (IntKind.i64.wrap (i9 + j10))) ((1 : BitVec 64).toNat : Int)).bind fun q12 => (lget data1 (IntKind.i64.wrap (q12.toNat : Int))).bind fun e13 => (lget data1 a3).bind fun e14 => (cmp6 e13 e14).bind fun x15 => (bif (decide (x15 < 0)) then (Z5f data1 a3 cmp6 m11) (IntKind.i64.wrap ((IntKind.i64.wrap (q12.toNat : Int)) + 1)) j10 else (Z5f data1 a3 cmp6 m11) i9 (IntKind.i64.wrap (q12.toNat : Int))) else Z5b i9 ((((IntKind.i64.wrap (i9 - 1)) : Int) - a3).toNat + 1) data1 a3)
def Z5e (i27 : Int) : Nat → (List Action) → Int → Option (List Action)
 | 0, _, _ => none
 | m38 + 1, l36, k37 => (bif (decide (k37 > i27)) then (lget l36 (IntKind.i64.wrap (k37 - 1))).bind fun e39 => (lget l36 k37).bind fun e40 => (lget l36 k37).bind fun e41 => (lget (List.set l36 k37.toNat e39) (IntKind.i64.wrap (k37 - 1))).bind fun e42 => (Z5e i27 m38) (List.set (List.set l36 k37.toNat e39) (IntKind.i64.wrap (k37 - 1)).toNat e40) (IntKind.i64.wrap (k37 - 1)) else some l36)
def Z5g (data1 : (List Action)) (m4 : Int) (cmp6 : (Action → Action → Option Int)) : Nat → Int → Int → Option (List Action)
 | 0, _, _ => none
 | m29 + 1, i27, j28 => (bif (decide (i27 < j28)) then (Z2c (BitVec.ofInt 64 (IntKind.i64.wrap (i27 + j28))) ((1 : BitVec 64).toNat : Int)).bind fun q30 => (lget data1 m4).bind fun e31 => (lget data1 (IntKind.i64.wrap (q30.toNat : Int))).bind fun e32 => (cmp6 e31 e32).bind fun x33 => (bif (!(decide (x33 < 0))) then (Z5g data1 m4 cmp6 m29) (IntKind.i64.wrap ((IntKind.i64.wrap (q30.toNat : Int)) + 1)) j28 else (Z5g data1 m4 cmp6 m29) i27 (IntKind.i64.wrap (q30.toNat : Int))) else Z5e i27 (((m4 : Int) - i27).toNat + 1) data1 m4)
def Zbt (q43 : (BitVec 64)) (m4 : Int) (start48 : Int) (b5 : Int) (R_slices_symMergeCmpFunc_Action : ((List Action) → Int → Int → Int → (Action → Action → Option Int) → Option (List Action))) (cmp6 : (Action → Action → Option Int)) (l56 : (List Action)) : Option (List Action) :=
 (bif ((decide ((IntKind.i64.wrap (q43.toNat : Int)) < (IntKind.i64.wrap ((IntKind.i64.wrap ((IntKind.i64.wrap (q43.toNat : Int)) + m4)) - start48)))) && (decide ((IntKind.i64.wrap ((IntKind.i64.wrap ((IntKind.i64.wrap (q43.toNat : Int)) + m4)) - start48)) < b5))) then (R_slices_symMergeCmpFunc_Action l56 (IntKind.i64.wrap (q43.toNat : Int)) (IntKind.i64.wrap ((IntKind.i64.wrap ((IntKind.i64.wrap (q43.toNat : Int)) + m4)) - start48)) b5 cmp6).bind fun l57 => some l57 else some l56)
def Z93 (a3 : Int) (start48 : Int) (q43 : (BitVec 64)) (R_slices_symMergeCmpFunc_Action : ((List Action) → Int → Int → Int → (Action → Action → Option Int) → Option (List Action))) (cmp6 : (Action → Action → Option Int)) (m4 : Int) (b5 : Int) (l55 : (List Action)) : Option (List Action) :=
 (bif ((decide (a3 < start48)) && (decide (start48 < (IntKind.i64.wrap (q43.toNat : Int))))) then (R_slices_symMergeCmpFunc_Action l55 a3 start48 (IntKind.i64.wrap (q43.toNat : Int)) cmp6).bind fun l58 => Zbt q43 m4 start48 b5 R_slices_symMergeCmpFunc_Action cmp6 l58 else Zbt q43 m4 start48 b5 R_slices_symMergeCmpFunc_Action cmp6 l55)
def Z67 (data1 : (List Action)) (q43 : (BitVec 64)) (m4 : Int) (cmp6 : (Action → Action → Option Int)) (a3 : Int) (R_slices_symMergeCmpFunc_Action : ((List Action) → Int → Int → Int → (Action → Action → Option Int) → Option (List Action))) (b5 : Int) : Nat → Int → Int → Option (List Action)
 | 0, _, _ => none
 | m50 + 1, start48, r49 => (bif (decide (start48 < r49)) then (Z2c (BitVec.ofInt 64 (IntKind.i64.wrap (start48 + r49))) ((1 : BitVec 64).toNat : Int)).bind fun q51 => (lget data1 (IntKind.i64.wrap ((IntKind.i64.wrap ((IntKind.i64.wrap ((IntKind.i64.wrap (q43.toNat : Int)) + m4)) - 1)) - (IntKind.i64.wrap (q51.toNat : Int))))).bind fun e52 => (lget data1 (IntKind.i64.wrap (q51.toNat : Int))).bind fun e53 => (cmp6 e52 e53).bind fun x54 => (bif (!(decide (x54 < 0))) then (Z67 data1 q43 m4 cmp6 a3 R_slices_symMergeCmpFunc_Action b5 m50) (IntKind.i64.wrap ((IntKind.i64.wrap (q51.toNat : Int)) + 1)) r49 else (Z67 data1 q43 m4 cmp6 a3 R_slices_symMergeCmpFunc_Action b5 m50) start48 (IntKind.i64.wrap (q51.toNat : Int))) else (bif ((decide (start48 < m4)) && (decide (m4 < (IntKind.i64.wrap ((IntKind.i64.wrap ((IntKind.i64.wrap (q43.toNat : Int)) + m4)) - start48))))) then (Zce data1 start48 m4 (IntKind.i64.wrap ((IntKind.i64.wrap ((IntKind.i64.wrap (q43.toNat : Int)) + m4)) - start48)) cmp6).bind fun l59 => Z93 a3 start48 q43 R_slices_symMergeCmpFunc_Action cmp6 m4 b5 l59 else Z93 a3 start48 q43 R_slices_symMergeCmpFunc_Action cmp6 m4 b5 data1))
def Zcm (data1 : (List Action)) (q43 : (BitVec 64)) (m4 : Int) (cmp6 : (Action → Action → Option Int)) (a3 : Int) (R_slices_symMergeCmpFunc_Action : ((List Action) → Int → Int → Int → (Action → Action → Option Int) → Option (List Action))) (b5 : Int) (start44 : Int) (r45 : Int) : Option (List Action) :=
 Z67 data1 q43 m4 cmp6 a3 R_slices_symMergeCmpFunc_Action b5 (((r45 : Int) - start44).toNat + 1) start44 r45
def Zf0 (R_slices_symMergeCmpFunc_Action : ((List Action) → Int → Int → Int → (Action → Action → Option Int) → Option (List Action))) (data1 : (List Action)) (a3 : Int) (m4 : Int) (b5 : Int) (cmp6 : (Action → Action → Option Int)) : Option (List Action) :=
 (bif (decide ((IntKind.i64.wrap (m4 - a3)) = 1)) then Z5f data1 a3 cmp6 (((b5 : Int) - m4).toNat + 1) m4 b5 else (bif (decide ((IntKind.i64.wrap (b5 - m4)) = 1)) then Z5g data1 m4 cmp6 (((m4 : Int) - a3).toNat + 1) a3 m4 else (Z2c (BitVec.ofInt 64 (IntKind.i64.wrap (a3 + b5))) ((1 : BitVec 64).toNat : Int)).bind fun q43 => (bif (decide (m4 > (IntKind.i64.wrap (q43.toNat : Int)))) then Zcm data1 q43 m4 cmp6 a3 R_slices_symMergeCmpFunc_Action b5 (IntKind.i64.wrap ((IntKind.i64.wrap ((IntKind.i64.wrap (q43.toNat : Int)) + m4)) - b5)) (IntKind.i64.wrap (q43.toNat : Int)) else Zcm data1 q43 m4 cmp6 a3 R_slices_symMergeCmpFunc_Action b5 a3 m4)))
theorem Y1g (R_slices_symMergeCmpFunc_Action : ((List Action) → Int → Int → Int → (Action → Action → Option Int) → Option (List Action))) (hR_slices_symMergeCmpFunc_Action : ∀ (v2 : Value) (data1 : (List Action)) (a3 : Int) (m4 : Int) (b5 : Int) (cmp6 : (Action → Action → Option Int)) (r : (List Action)), R_slices_symMergeCmpFunc_Action data1 a3 m4 b5 cmp6 = some r → Con Tryz.prog 311 [Za v2, rd (Z0 .i64) a3, rd (Z0 .i64) m4, rd (Z0 .i64) b5, Zl Tryz.prog Z5 Z5 (Z0 .i64) cmp6] (Z9 v2 121 Z5 data1) (fun _ : Unit => top) (fun _ => Z9 v2 121 Z5 r)) (v2 : Value) (data1 : (List Action)) (a3 : Int) (m4 : Int) (b5 : Int) (cmp6 : (Action → Action → Option Int)) (r : (List Action)) (h : Zf0 R_slices_symMergeCmpFunc_Action data1 a3 m4 b5 cmp6 = some r) : Con Tryz.prog 311 [Za v2, rd (Z0 .i64) a3, rd (Z0 .i64) m4, rd (Z0 .i64) b5, Zl Tryz.prog Z5 Z5 (Z0 .i64) cmp6] (Z9 v2 121 Z5 data1) (fun _ : Unit => top) (fun _ => Z9 v2 121 Z5 r) := by
 refine Con.intro Tryz.func311 rfl Tryz.ntmps311 rfl fun w H X => ?_
 unfold Zf0 at h
 refine AW.seq <| SR <| Md rfl <| Md rfl <| Ac (Z0m rfl rfl (vt rfl) (vt rfl)) rfl <| Ac (Z1l rfl rfl (vt rfl) (vk rfl)) rfl <| Nl <| Cn rfl (fun hc => ?_) (fun hc => ?_)
 ·have h := Zj hc h
  refine SR <| Md rfl <| As rfl <| Nl <| SR <| Md rfl <| As rfl <| Nl <| AW.seq <| AW.block <| AW.loopG (d := []) (ν := Nat × Int × Int) (fun n => True ∧ Z5f data1 a3 cmp6 n.1 n.2.1 n.2.2 = some r) (fun n => n.1) (fun n => [(0, Za v2), (1, rd (Z0 .i64) a3), (4, Zl Tryz.prog Z5 Z5 (Z0 .i64) cmp6), (10, rd (Z0 .i64) n.2.1), (11, rd (Z0 .i64) n.2.2)]) (fun n => [(0, Z9 v2 121 Z5 data1)]) ((((b5 : Int) - m4).toNat + 1), m4, b5) ⟨trivial, h⟩ ⟨rfl, ⟨rfl, rfl, rfl, rfl, rfl, trivial⟩, ⟨rfl, trivial⟩⟩ ?_
  rintro ⟨m11, i9, j10⟩ ⟨hsf1, h⟩
  change True at hsf1
  change Z5f data1 a3 cmp6 m11 i9 j10 = some r at h
  change AW _ _ _ ⟨Zw [(0, Za v2), (1, rd (Z0 .i64) a3), (4, Zl Tryz.prog Z5 Z5 (Z0 .i64) cmp6), (10, rd (Z0 .i64) i9), (11, rd (Z0 .i64) j10)], Zx [(0, Z9 v2 121 Z5 data1)], _⟩
  cases m11 with
  | zero => cases h
  | succ m11 =>
   unfold Z5f at h
   generalize hgo1 : Z5f data1 a3 cmp6 m11 = go1 at h
   refine AW.seq <| SR <| Md rfl <| Md rfl <| Ac (Zi rfl rfl (vt rfl) (vt rfl)) rfl <| Nl <| Cn rfl (fun hc => ?_) (fun hc => ?_)
   ·have h := Zj hc h
    refine AW.skip <| AW.block <| AW.seq ?_
    obtain ⟨q12, hq12, h⟩ := Z1 h
    refine Rg <| Md rfl <| Md rfl <| Ac (Z0e rfl rfl (vt rfl) (vt rfl)) rfl <| Ac (Z91 rfl rfl us3 Z96 (vt rfl)) rfl <| Ac (Z40 rfl rfl (vt rfl) (Z41 (vku (1 : BitVec 64) rfl)) hq12) rfl <| Ac (Z7y rfl rfl Z8j un3 (vt rfl)) rfl <| As rfl <| Nl <| AW.seq ?_
    obtain ⟨e13, he13, h⟩ := Z1 h
    obtain ⟨e14, he14, h⟩ := Z1 h
    obtain ⟨x15, hx15, h⟩ := Z1 h
    refine AW.regionAny [⟨[4], [40], [], []⟩, ⟨[0], [41], [], []⟩, ⟨[12], [42], [], []⟩, ⟨[41, 42], [43], [0], []⟩, ⟨[43], [44], [0], []⟩, ⟨[0], [45], [], []⟩, ⟨[1], [46], [], []⟩, ⟨[45, 46], [47], [0], []⟩, ⟨[47], [48], [0], []⟩, ⟨[40, 44, 48], [49], [], []⟩, ⟨[49], [50], [], []⟩] Z05 (by kernel_rfl) <| Sc (lo [4] [] rfl fun S hs hr => Zq (A := Zl Tryz.prog Z5 Z5 (Z0 .i64) cmp6) rfl rfl (vh hs 4 rfl rfl)) rfl <| SMw rfl <| SMd rfl <| Sc (lo [41, 42] [0] rfl fun S hs hr => Z1q 0 rfl rfl Z0n (vh hs 41 rfl rfl) ((hr 0 rfl).trans rfl) (vh hs 42 rfl rfl) he13) rfl <| Sc (lo [43] [0] rfl fun S hs hr => Z13 0 rfl rfl Z0l (vh hs 43 rfl rfl) ((hr 0 rfl).trans rfl) (Z06 he13).2) rfl <| SMw rfl <| SMd rfl <| Sc (lo [45, 46] [0] rfl fun S hs hr => Z1q 0 rfl rfl Z0n (vh hs 45 rfl rfl) ((hr 0 rfl).trans rfl) (vh hs 46 rfl rfl) he14) rfl <| Sc (lo [47] [0] rfl fun S hs hr => Z13 0 rfl rfl Z0l (vh hs 47 rfl rfl) ((hr 0 rfl).trans rfl) (Z06 he14).2) rfl <| Sc (lo [40, 44, 48] [] rfl fun S hs hr => Z4i hx15 rfl rfl (vh hs 40 rfl rfl) (vh hs 44 rfl rfl) (vh hs 48 rfl rfl)) rfl <| Sc (lo [49] [] rfl fun S hs hr => Zi rfl rfl (vh hs 49 rfl rfl) (vk rfl)) rfl <| Cn rfl (fun hc => ?_) (fun hc => ?_)
    ·have h := Zj hc h
     refine Rg <| Md rfl <| Ac (Z0e rfl rfl (vt rfl) (vk rfl)) rfl <| As rfl <| Nl ?_
     subst hgo1
     exact ⟨(m11, (IntKind.i64.wrap ((IntKind.i64.wrap (q12.toNat : Int)) + 1)), j10), Nat.lt_succ_self _, ⟨trivial, h⟩, ⟨rfl, ⟨rfl, rfl, rfl, rfl, rfl, trivial⟩, ⟨rfl, trivial⟩⟩⟩
    ·have h := Zk hc h
     refine Rg <| Md rfl <| As rfl <| Nl ?_
     subst hgo1
     exact ⟨(m11, i9, (IntKind.i64.wrap (q12.toNat : Int))), Nat.lt_succ_self _, ⟨trivial, h⟩, ⟨rfl, ⟨rfl, rfl, rfl, rfl, rfl, trivial⟩, ⟨rfl, trivial⟩⟩⟩
   ·have h := Zk hc h
    refine AW.exit <| AW.seq <| SR <| Md rfl <| As rfl <| Nl <| AW.block <| AW.loopG (d := []) (ν := Nat × (List Action) × Int) (fun n => True ∧ Z5b i9 n.1 n.2.1 n.2.2 = some r) (fun n => n.1) (fun n => [(0, Za v2), (10, rd (Z0 .i64) i9), (13, rd (Z0 .i64) n.2.2)]) (fun n => [(0, Z9 v2 121 Z5 n.2.1)]) (((((IntKind.i64.wrap (i9 - 1)) : Int) - a3).toNat + 1), data1, a3) ⟨trivial, h⟩ ⟨rfl, ⟨rfl, rfl, rfl, trivial⟩, ⟨rfl, trivial⟩⟩ ?_
    rintro ⟨m20, l18, k19⟩ ⟨hsf2, h⟩
    change True at hsf2
    change Z5b i9 m20 l18 k19 = some r at h
    change AW _ _ _ ⟨Zw [(0, Za v2), (10, rd (Z0 .i64) i9), (13, rd (Z0 .i64) k19)], Zx [(0, Z9 v2 121 Z5 l18)], _⟩
    cases m20 with
    | zero => cases h
    | succ m20 =>
     unfold Z5b at h
     generalize hgo2 : Z5b i9 m20 = go2 at h
     refine AW.seq <| SR <| Md rfl <| Md rfl <| Ac (Z0m rfl rfl (vt rfl) (vk rfl)) rfl <| Ac (Zi rfl rfl (vt rfl) (vt rfl)) rfl <| Nl <| Cn rfl (fun hc => ?_) (fun hc => ?_)
     ·have h := Zj hc h
      refine AW.skip <| AW.seq <| AW.block <| AW.vlen 0 rfl fun hvl0_218 => ?_
      obtain ⟨e21, he21, h⟩ := Z1 h
      obtain ⟨e22, he22, h⟩ := Z1 h
      obtain ⟨e23, he23, h⟩ := Z1 h
      obtain ⟨e24, he24, h⟩ := Z1 h
      refine AW.regionAny [⟨[0], [61], [], []⟩, ⟨[13], [62], [], []⟩, ⟨[0], [63], [], []⟩, ⟨[13], [64], [], []⟩, ⟨[64], [65], [], []⟩, ⟨[0], [66], [], []⟩, ⟨[13], [67], [], []⟩, ⟨[67], [68], [], []⟩, ⟨[66, 68], [69], [], []⟩, ⟨[69], [70], [0], []⟩, ⟨[0], [71], [], []⟩, ⟨[13], [72], [], []⟩, ⟨[71, 72], [73], [], []⟩, ⟨[73], [74], [0], []⟩, ⟨[61, 62], [75], [], []⟩, ⟨[75, 70], [], [0], [0]⟩, ⟨[63, 65], [76], [], []⟩, ⟨[76, 74], [], [0], [0]⟩] Z05 (by kernel_rfl) <| SMw rfl <| SMd rfl <| SMw rfl <| SMd rfl <| Sc (lo [64] [] rfl fun S hs hr => Z0e rfl rfl (vh hs 64 rfl rfl) (vk rfl)) rfl <| SMw rfl <| SMd rfl <| Sc (lo [67] [] rfl fun S hs hr => Z0e rfl rfl (vh hs 67 rfl rfl) (vk rfl)) rfl <| Sc (lo [66, 68] [] rfl fun S hs hr => Z1b (l := l18) hvl0_218 rfl rfl rfl Z0n (vh hs 66 rfl rfl) (vh hs 68 rfl rfl) he21) rfl <| Sc (lo [69] [0] rfl fun S hs hr => Z13 0 rfl rfl Z0l (vh hs 69 rfl rfl) ((hr 0 rfl).trans rfl) (Z06 he21).2) rfl <| SMw rfl <| SMd rfl <| Sc (lo [71, 72] [] rfl fun S hs hr => Z1b (l := l18) hvl0_218 rfl rfl rfl Z0n (vh hs 71 rfl rfl) (vh hs 72 rfl rfl) he22) rfl <| Sc (lo [73] [0] rfl fun S hs hr => Z13 0 rfl rfl Z0l (vh hs 73 rfl rfl) ((hr 0 rfl).trans rfl) (Z06 he22).2) rfl <| Sc (lo [61, 62] [] rfl fun S hs hr => Z1b (l := l18) hvl0_218 rfl rfl rfl Z0n (vh hs 61 rfl rfl) (vh hs 62 rfl rfl) he23) rfl <| Sc (Z30 [75, 70] [0] rfl fun S hs hr => Z2d 0 rfl rfl Z0l (vh hs 75 rfl rfl) ((hr 0 rfl).trans rfl) (Z06 he23).2 (vh hs 70 rfl rfl)) rfl <| Sc (lo [63, 65] [] rfl fun S hs hr => Z1b (l := (List.set l18 k19.toNat e21)) hvl0_218 (by simp) rfl rfl Z0n (vh hs 63 rfl rfl) (vh hs 65 rfl rfl) he24) rfl <| Sc (Z30 [76, 74] [0] rfl fun S hs hr => Z2d 0 rfl rfl Z0l (vh hs 76 rfl rfl) ((hr 0 rfl).trans rfl) (Z06 he24).2 (vh hs 74 rfl rfl)) rfl <| Rg <| Md rfl <| Ac (Z0e rfl rfl (vt rfl) (vk rfl)) rfl <| As rfl <| Nl ?_
      subst hgo2
      exact ⟨(m20, (List.set (List.set l18 k19.toNat e21) (IntKind.i64.wrap (k19 + 1)).toNat e22), (IntKind.i64.wrap (k19 + 1))), Nat.lt_succ_self _, ⟨trivial, h⟩, ⟨rfl, ⟨rfl, rfl, rfl, trivial⟩, ⟨rfl, trivial⟩⟩⟩
     ·have h := Zk hc h
      refine AW.exit <| AW.ret ?_
      obtain rfl := si h
      exact Z1t (i := 0) Tryz.results311 rfl rfl
 ·have h := Zk hc h
  refine AW.skip <| AW.seq <| SR <| Md rfl <| Md rfl <| Ac (Z0m rfl rfl (vt rfl) (vt rfl)) rfl <| Ac (Z1l rfl rfl (vt rfl) (vk rfl)) rfl <| Nl <| Cn rfl (fun hc => ?_) (fun hc => ?_)
  ·have h := Zj hc h
   refine SR <| Md rfl <| As rfl <| Nl <| SR <| Md rfl <| As rfl <| Nl <| AW.seq <| AW.block <| AW.loopG (d := []) (ν := Nat × Int × Int) (fun n => True ∧ Z5g data1 m4 cmp6 n.1 n.2.1 n.2.2 = some r) (fun n => n.1) (fun n => [(0, Za v2), (2, rd (Z0 .i64) m4), (4, Zl Tryz.prog Z5 Z5 (Z0 .i64) cmp6), (14, rd (Z0 .i64) n.2.1), (15, rd (Z0 .i64) n.2.2)]) (fun n => [(0, Z9 v2 121 Z5 data1)]) ((((m4 : Int) - a3).toNat + 1), a3, m4) ⟨trivial, h⟩ ⟨rfl, ⟨rfl, rfl, rfl, rfl, rfl, trivial⟩, ⟨rfl, trivial⟩⟩ ?_
   rintro ⟨m29, i27, j28⟩ ⟨hsf3, h⟩
   change True at hsf3
   change Z5g data1 m4 cmp6 m29 i27 j28 = some r at h
   change AW _ _ _ ⟨Zw [(0, Za v2), (2, rd (Z0 .i64) m4), (4, Zl Tryz.prog Z5 Z5 (Z0 .i64) cmp6), (14, rd (Z0 .i64) i27), (15, rd (Z0 .i64) j28)], Zx [(0, Z9 v2 121 Z5 data1)], _⟩
   cases m29 with
   | zero => cases h
   | succ m29 =>
    unfold Z5g at h
    generalize hgo3 : Z5g data1 m4 cmp6 m29 = go3 at h
    refine AW.seq <| SR <| Md rfl <| Md rfl <| Ac (Zi rfl rfl (vt rfl) (vt rfl)) rfl <| Nl <| Cn rfl (fun hc => ?_) (fun hc => ?_)
    ·have h := Zj hc h
     refine AW.skip <| AW.block <| AW.seq ?_
     obtain ⟨q30, hq30, h⟩ := Z1 h
     refine Rg <| Md rfl <| Md rfl <| Ac (Z0e rfl rfl (vt rfl) (vt rfl)) rfl <| Ac (Z91 rfl rfl us3 Z96 (vt rfl)) rfl <| Ac (Z40 rfl rfl (vt rfl) (Z41 (vku (1 : BitVec 64) rfl)) hq30) rfl <| Ac (Z7y rfl rfl Z8j un3 (vt rfl)) rfl <| As rfl <| Nl <| AW.seq ?_
     obtain ⟨e31, he31, h⟩ := Z1 h
     obtain ⟨e32, he32, h⟩ := Z1 h
     obtain ⟨x33, hx33, h⟩ := Z1 h
     refine AW.regionAny [⟨[4], [92], [], []⟩, ⟨[0], [93], [], []⟩, ⟨[2], [94], [], []⟩, ⟨[93, 94], [95], [0], []⟩, ⟨[95], [96], [0], []⟩, ⟨[0], [97], [], []⟩, ⟨[16], [98], [], []⟩, ⟨[97, 98], [99], [0], []⟩, ⟨[99], [100], [0], []⟩, ⟨[92, 96, 100], [101], [], []⟩, ⟨[101], [102], [], []⟩, ⟨[102], [103], [], []⟩] Z05 (by kernel_rfl) <| Sc (lo [4] [] rfl fun S hs hr => Zq (A := Zl Tryz.prog Z5 Z5 (Z0 .i64) cmp6) rfl rfl (vh hs 4 rfl rfl)) rfl <| SMw rfl <| SMd rfl <| Sc (lo [93, 94] [0] rfl fun S hs hr => Z1q 0 rfl rfl Z0n (vh hs 93 rfl rfl) ((hr 0 rfl).trans rfl) (vh hs 94 rfl rfl) he31) rfl <| Sc (lo [95] [0] rfl fun S hs hr => Z13 0 rfl rfl Z0l (vh hs 95 rfl rfl) ((hr 0 rfl).trans rfl) (Z06 he31).2) rfl <| SMw rfl <| SMd rfl <| Sc (lo [97, 98] [0] rfl fun S hs hr => Z1q 0 rfl rfl Z0n (vh hs 97 rfl rfl) ((hr 0 rfl).trans rfl) (vh hs 98 rfl rfl) he32) rfl <| Sc (lo [99] [0] rfl fun S hs hr => Z13 0 rfl rfl Z0l (vh hs 99 rfl rfl) ((hr 0 rfl).trans rfl) (Z06 he32).2) rfl <| Sc (lo [92, 96, 100] [] rfl fun S hs hr => Z4i hx33 rfl rfl (vh hs 92 rfl rfl) (vh hs 96 rfl rfl) (vh hs 100 rfl rfl)) rfl <| Sc (lo [101] [] rfl fun S hs hr => Zi rfl rfl (vh hs 101 rfl rfl) (vk rfl)) rfl <| Sc (lo [102] [] rfl fun S hs hr => Z0x rfl rfl (vh hs 102 rfl rfl)) rfl <| Cn rfl (fun hc => ?_) (fun hc => ?_)
     ·have h := Zj hc h
      refine Rg <| Md rfl <| Ac (Z0e rfl rfl (vt rfl) (vk rfl)) rfl <| As rfl <| Nl ?_
      subst hgo3
      exact ⟨(m29, (IntKind.i64.wrap ((IntKind.i64.wrap (q30.toNat : Int)) + 1)), j28), Nat.lt_succ_self _, ⟨trivial, h⟩, ⟨rfl, ⟨rfl, rfl, rfl, rfl, rfl, trivial⟩, ⟨rfl, trivial⟩⟩⟩
     ·have h := Zk hc h
      refine Rg <| Md rfl <| As rfl <| Nl ?_
      subst hgo3
      exact ⟨(m29, i27, (IntKind.i64.wrap (q30.toNat : Int))), Nat.lt_succ_self _, ⟨trivial, h⟩, ⟨rfl, ⟨rfl, rfl, rfl, rfl, rfl, trivial⟩, ⟨rfl, trivial⟩⟩⟩
    ·have h := Zk hc h
     refine AW.exit <| AW.seq <| SR <| Md rfl <| As rfl <| Nl <| AW.block <| AW.loopG (d := []) (ν := Nat × (List Action) × Int) (fun n => True ∧ Z5e i27 n.1 n.2.1 n.2.2 = some r) (fun n => n.1) (fun n => [(0, Za v2), (14, rd (Z0 .i64) i27), (17, rd (Z0 .i64) n.2.2)]) (fun n => [(0, Z9 v2 121 Z5 n.2.1)]) ((((m4 : Int) - i27).toNat + 1), data1, m4) ⟨trivial, h⟩ ⟨rfl, ⟨rfl, rfl, rfl, trivial⟩, ⟨rfl, trivial⟩⟩ ?_
     rintro ⟨m38, l36, k37⟩ ⟨hsf4, h⟩
     change True at hsf4
     change Z5e i27 m38 l36 k37 = some r at h
     change AW _ _ _ ⟨Zw [(0, Za v2), (14, rd (Z0 .i64) i27), (17, rd (Z0 .i64) k37)], Zx [(0, Z9 v2 121 Z5 l36)], _⟩
     cases m38 with
     | zero => cases h
     | succ m38 =>
      unfold Z5e at h
      generalize hgo4 : Z5e i27 m38 = go4 at h
      refine AW.seq <| SR <| Md rfl <| Md rfl <| Ac (Z4f rfl rfl (vt rfl) (vt rfl)) rfl <| Nl <| Cn rfl (fun hc => ?_) (fun hc => ?_)
      ·have h := Zj hc h
       refine AW.skip <| AW.seq <| AW.block <| AW.vlen 0 rfl fun hvl0_474 => ?_
       obtain ⟨e39, he39, h⟩ := Z1 h
       obtain ⟨e40, he40, h⟩ := Z1 h
       obtain ⟨e41, he41, h⟩ := Z1 h
       obtain ⟨e42, he42, h⟩ := Z1 h
       refine AW.regionAny [⟨[0], [113], [], []⟩, ⟨[17], [114], [], []⟩, ⟨[0], [115], [], []⟩, ⟨[17], [116], [], []⟩, ⟨[116], [117], [], []⟩, ⟨[0], [118], [], []⟩, ⟨[17], [119], [], []⟩, ⟨[119], [120], [], []⟩, ⟨[118, 120], [121], [], []⟩, ⟨[121], [122], [0], []⟩, ⟨[0], [123], [], []⟩, ⟨[17], [124], [], []⟩, ⟨[123, 124], [125], [], []⟩, ⟨[125], [126], [0], []⟩, ⟨[113, 114], [127], [], []⟩, ⟨[127, 122], [], [0], [0]⟩, ⟨[115, 117], [128], [], []⟩, ⟨[128, 126], [], [0], [0]⟩] Z05 (by kernel_rfl) <| SMw rfl <| SMd rfl <| SMw rfl <| SMd rfl <| Sc (lo [116] [] rfl fun S hs hr => Z0m rfl rfl (vh hs 116 rfl rfl) (vk rfl)) rfl <| SMw rfl <| SMd rfl <| Sc (lo [119] [] rfl fun S hs hr => Z0m rfl rfl (vh hs 119 rfl rfl) (vk rfl)) rfl <| Sc (lo [118, 120] [] rfl fun S hs hr => Z1b (l := l36) hvl0_474 rfl rfl rfl Z0n (vh hs 118 rfl rfl) (vh hs 120 rfl rfl) he39) rfl <| Sc (lo [121] [0] rfl fun S hs hr => Z13 0 rfl rfl Z0l (vh hs 121 rfl rfl) ((hr 0 rfl).trans rfl) (Z06 he39).2) rfl <| SMw rfl <| SMd rfl <| Sc (lo [123, 124] [] rfl fun S hs hr => Z1b (l := l36) hvl0_474 rfl rfl rfl Z0n (vh hs 123 rfl rfl) (vh hs 124 rfl rfl) he40) rfl <| Sc (lo [125] [0] rfl fun S hs hr => Z13 0 rfl rfl Z0l (vh hs 125 rfl rfl) ((hr 0 rfl).trans rfl) (Z06 he40).2) rfl <| Sc (lo [113, 114] [] rfl fun S hs hr => Z1b (l := l36) hvl0_474 rfl rfl rfl Z0n (vh hs 113 rfl rfl) (vh hs 114 rfl rfl) he41) rfl <| Sc (Z30 [127, 122] [0] rfl fun S hs hr => Z2d 0 rfl rfl Z0l (vh hs 127 rfl rfl) ((hr 0 rfl).trans rfl) (Z06 he41).2 (vh hs 122 rfl rfl)) rfl <| Sc (lo [115, 117] [] rfl fun S hs hr => Z1b (l := (List.set l36 k37.toNat e39)) hvl0_474 (by simp) rfl rfl Z0n (vh hs 115 rfl rfl) (vh hs 117 rfl rfl) he42) rfl <| Sc (Z30 [128, 126] [0] rfl fun S hs hr => Z2d 0 rfl rfl Z0l (vh hs 128 rfl rfl) ((hr 0 rfl).trans rfl) (Z06 he42).2 (vh hs 126 rfl rfl)) rfl <| Rg <| Md rfl <| Ac (Z0m rfl rfl (vt rfl) (vk rfl)) rfl <| As rfl <| Nl ?_
       subst hgo4
       exact ⟨(m38, (List.set (List.set l36 k37.toNat e39) (IntKind.i64.wrap (k37 - 1)).toNat e40), (IntKind.i64.wrap (k37 - 1))), Nat.lt_succ_self _, ⟨trivial, h⟩, ⟨rfl, ⟨rfl, rfl, rfl, trivial⟩, ⟨rfl, trivial⟩⟩⟩
      ·have h := Zk hc h
       refine AW.exit <| AW.ret ?_
       obtain rfl := si h
       exact Z1t (i := 0) Tryz.results311 rfl rfl
  ·have h := Zk hc h
   refine AW.skip <| AW.seq ?_
   obtain ⟨q43, hq43, h⟩ := Z1 h
   refine Rg <| Md rfl <| Md rfl <| Ac (Z0e rfl rfl (vt rfl) (vt rfl)) rfl <| Ac (Z91 rfl rfl us3 Z96 (vt rfl)) rfl <| Ac (Z40 rfl rfl (vt rfl) (Z41 (vku (1 : BitVec 64) rfl)) hq43) rfl <| Ac (Z7y rfl rfl Z8j un3 (vt rfl)) rfl <| As rfl <| Nl <| SR <| Md rfl <| Md rfl <| Ac (Z0e rfl rfl (vt rfl) (vt rfl)) rfl <| As rfl <| Nl <| SR <| Ak rfl <| Ak rfl <| Nl ?_
   refine AW.join (d := []) (ν := Int × Int) (fun n => Zcm data1 q43 m4 cmp6 a3 R_slices_symMergeCmpFunc_Action b5 n.1 n.2 = some r) (fun n => [(0, Za v2), (1, rd (Z0 .i64) a3), (2, rd (Z0 .i64) m4), (3, rd (Z0 .i64) b5), (4, Zl Tryz.prog Z5 Z5 (Z0 .i64) cmp6), (18, rd (Z0 .i64) (IntKind.i64.wrap (q43.toNat : Int))), (19, rd (Z0 .i64) (IntKind.i64.wrap ((IntKind.i64.wrap (q43.toNat : Int)) + m4))), (20, rd (Z0 .i64) n.1), (21, rd (Z0 .i64) n.2)]) (fun n => [(0, Z9 v2 121 Z5 data1)]) ?hx5 ?hy5
   case hy5 =>
    rintro ⟨start44, r45⟩ h
    unfold Zcm at h
    change AW _ _ _ ⟨Zw [(0, Za v2), (1, rd (Z0 .i64) a3), (2, rd (Z0 .i64) m4), (3, rd (Z0 .i64) b5), (4, Zl Tryz.prog Z5 Z5 (Z0 .i64) cmp6), (18, rd (Z0 .i64) (IntKind.i64.wrap (q43.toNat : Int))), (19, rd (Z0 .i64) (IntKind.i64.wrap ((IntKind.i64.wrap (q43.toNat : Int)) + m4))), (20, rd (Z0 .i64) start44), (21, rd (Z0 .i64) r45)], Zx [(0, Z9 v2 121 Z5 data1)], _⟩
    refine SR <| Md rfl <| Ac (Z0m rfl rfl (vt rfl) (vk rfl)) rfl <| As rfl <| Nl <| AW.seq <| AW.block <| AW.loopG (d := []) (ν := Nat × Int × Int) (fun n => True ∧ Z67 data1 q43 m4 cmp6 a3 R_slices_symMergeCmpFunc_Action b5 n.1 n.2.1 n.2.2 = some r) (fun n => n.1) (fun n => [(0, Za v2), (1, rd (Z0 .i64) a3), (2, rd (Z0 .i64) m4), (3, rd (Z0 .i64) b5), (4, Zl Tryz.prog Z5 Z5 (Z0 .i64) cmp6), (18, rd (Z0 .i64) (IntKind.i64.wrap (q43.toNat : Int))), (19, rd (Z0 .i64) (IntKind.i64.wrap ((IntKind.i64.wrap (q43.toNat : Int)) + m4))), (20, rd (Z0 .i64) n.2.1), (21, rd (Z0 .i64) n.2.2), (22, rd (Z0 .i64) (IntKind.i64.wrap ((IntKind.i64.wrap ((IntKind.i64.wrap (q43.toNat : Int)) + m4)) - 1)))]) (fun n => [(0, Z9 v2 121 Z5 data1)]) ((((r45 : Int) - start44).toNat + 1), start44, r45) ⟨trivial, h⟩ ⟨rfl, ⟨rfl, rfl, rfl, rfl, rfl, rfl, rfl, rfl, rfl, rfl, trivial⟩, ⟨rfl, trivial⟩⟩ ?_
    rintro ⟨m50, start48, r49⟩ ⟨hsf6, h⟩
    change True at hsf6
    change Z67 data1 q43 m4 cmp6 a3 R_slices_symMergeCmpFunc_Action b5 m50 start48 r49 = some r at h
    change AW _ _ _ ⟨Zw [(0, Za v2), (1, rd (Z0 .i64) a3), (2, rd (Z0 .i64) m4), (3, rd (Z0 .i64) b5), (4, Zl Tryz.prog Z5 Z5 (Z0 .i64) cmp6), (18, rd (Z0 .i64) (IntKind.i64.wrap (q43.toNat : Int))), (19, rd (Z0 .i64) (IntKind.i64.wrap ((IntKind.i64.wrap (q43.toNat : Int)) + m4))), (20, rd (Z0 .i64) start48), (21, rd (Z0 .i64) r49), (22, rd (Z0 .i64) (IntKind.i64.wrap ((IntKind.i64.wrap ((IntKind.i64.wrap (q43.toNat : Int)) + m4)) - 1)))], Zx [(0, Z9 v2 121 Z5 data1)], _⟩
    cases m50 with
    | zero => cases h
    | succ m50 =>
     unfold Z67 at h
     generalize hgo6 : Z67 data1 q43 m4 cmp6 a3 R_slices_symMergeCmpFunc_Action b5 m50 = go6 at h
     refine AW.seq <| SR <| Md rfl <| Md rfl <| Ac (Zi rfl rfl (vt rfl) (vt rfl)) rfl <| Nl <| Cn rfl (fun hc => ?_) (fun hc => ?_)
     ·have h := Zj hc h
      refine AW.skip <| AW.block <| AW.seq ?_
      obtain ⟨q51, hq51, h⟩ := Z1 h
      refine Rg <| Md rfl <| Md rfl <| Ac (Z0e rfl rfl (vt rfl) (vt rfl)) rfl <| Ac (Z91 rfl rfl us3 Z96 (vt rfl)) rfl <| Ac (Z40 rfl rfl (vt rfl) (Z41 (vku (1 : BitVec 64) rfl)) hq51) rfl <| Ac (Z7y rfl rfl Z8j un3 (vt rfl)) rfl <| As rfl <| Nl <| AW.seq ?_
      obtain ⟨e52, he52, h⟩ := Z1 h
      obtain ⟨e53, he53, h⟩ := Z1 h
      obtain ⟨x54, hx54, h⟩ := Z1 h
      refine AW.regionAny [⟨[4], [158], [], []⟩, ⟨[0], [159], [], []⟩, ⟨[22], [160], [], []⟩, ⟨[23], [161], [], []⟩, ⟨[160, 161], [162], [], []⟩, ⟨[159, 162], [163], [0], []⟩, ⟨[163], [164], [0], []⟩, ⟨[0], [165], [], []⟩, ⟨[23], [166], [], []⟩, ⟨[165, 166], [167], [0], []⟩, ⟨[167], [168], [0], []⟩, ⟨[158, 164, 168], [169], [], []⟩, ⟨[169], [170], [], []⟩, ⟨[170], [171], [], []⟩] Z05 (by kernel_rfl) <| Sc (lo [4] [] rfl fun S hs hr => Zq (A := Zl Tryz.prog Z5 Z5 (Z0 .i64) cmp6) rfl rfl (vh hs 4 rfl rfl)) rfl <| SMw rfl <| SMd rfl <| SMd rfl <| Sc (lo [160, 161] [] rfl fun S hs hr => Z0m rfl rfl (vh hs 160 rfl rfl) (vh hs 161 rfl rfl)) rfl <| Sc (lo [159, 162] [0] rfl fun S hs hr => Z1q 0 rfl rfl Z0n (vh hs 159 rfl rfl) ((hr 0 rfl).trans rfl) (vh hs 162 rfl rfl) he52) rfl <| Sc (lo [163] [0] rfl fun S hs hr => Z13 0 rfl rfl Z0l (vh hs 163 rfl rfl) ((hr 0 rfl).trans rfl) (Z06 he52).2) rfl <| SMw rfl <| SMd rfl <| Sc (lo [165, 166] [0] rfl fun S hs hr => Z1q 0 rfl rfl Z0n (vh hs 165 rfl rfl) ((hr 0 rfl).trans rfl) (vh hs 166 rfl rfl) he53) rfl <| Sc (lo [167] [0] rfl fun S hs hr => Z13 0 rfl rfl Z0l (vh hs 167 rfl rfl) ((hr 0 rfl).trans rfl) (Z06 he53).2) rfl <| Sc (lo [158, 164, 168] [] rfl fun S hs hr => Z4i hx54 rfl rfl (vh hs 158 rfl rfl) (vh hs 164 rfl rfl) (vh hs 168 rfl rfl)) rfl <| Sc (lo [169] [] rfl fun S hs hr => Zi rfl rfl (vh hs 169 rfl rfl) (vk rfl)) rfl <| Sc (lo [170] [] rfl fun S hs hr => Z0x rfl rfl (vh hs 170 rfl rfl)) rfl <| Cn rfl (fun hc => ?_) (fun hc => ?_)
      ·have h := Zj hc h
       refine Rg <| Md rfl <| Ac (Z0e rfl rfl (vt rfl) (vk rfl)) rfl <| As rfl <| Nl ?_
       subst hgo6
       exact ⟨(m50, (IntKind.i64.wrap ((IntKind.i64.wrap (q51.toNat : Int)) + 1)), r49), Nat.lt_succ_self _, ⟨trivial, h⟩, ⟨rfl, ⟨rfl, rfl, rfl, rfl, rfl, rfl, rfl, rfl, rfl, rfl, trivial⟩, ⟨rfl, trivial⟩⟩⟩
      ·have h := Zk hc h
       refine Rg <| Md rfl <| As rfl <| Nl ?_
       subst hgo6
       exact ⟨(m50, start48, (IntKind.i64.wrap (q51.toNat : Int))), Nat.lt_succ_self _, ⟨trivial, h⟩, ⟨rfl, ⟨rfl, rfl, rfl, rfl, rfl, rfl, rfl, rfl, rfl, rfl, trivial⟩, ⟨rfl, trivial⟩⟩⟩
     ·have h := Zk hc h
      refine AW.exit <| SR <| Md rfl <| Md rfl <| Ac (Z0m rfl rfl (vt rfl) (vt rfl)) rfl <| As rfl <| Nl ?_
      refine AW.join (d := []) (ν := (List Action)) (fun n => Z93 a3 start48 q43 R_slices_symMergeCmpFunc_Action cmp6 m4 b5 n = some r) (fun n => [(0, Za v2), (1, rd (Z0 .i64) a3), (3, rd (Z0 .i64) b5), (4, Zl Tryz.prog Z5 Z5 (Z0 .i64) cmp6), (18, rd (Z0 .i64) (IntKind.i64.wrap (q43.toNat : Int))), (20, rd (Z0 .i64) start48), (24, rd (Z0 .i64) (IntKind.i64.wrap ((IntKind.i64.wrap ((IntKind.i64.wrap (q43.toNat : Int)) + m4)) - start48)))]) (fun n => [(0, Z9 v2 121 Z5 n)]) ?hx7 ?hy7
      case hy7 =>
       intro l55 h
       unfold Z93 at h
       change AW _ _ _ ⟨Zw [(0, Za v2), (1, rd (Z0 .i64) a3), (3, rd (Z0 .i64) b5), (4, Zl Tryz.prog Z5 Z5 (Z0 .i64) cmp6), (18, rd (Z0 .i64) (IntKind.i64.wrap (q43.toNat : Int))), (20, rd (Z0 .i64) start48), (24, rd (Z0 .i64) (IntKind.i64.wrap ((IntKind.i64.wrap ((IntKind.i64.wrap (q43.toNat : Int)) + m4)) - start48)))], Zx [(0, Z9 v2 121 Z5 l55)], _⟩
       refine AW.join (d := []) (ν := (List Action)) (fun n => Zbt q43 m4 start48 b5 R_slices_symMergeCmpFunc_Action cmp6 n = some r) (fun n => [(0, Za v2), (3, rd (Z0 .i64) b5), (4, Zl Tryz.prog Z5 Z5 (Z0 .i64) cmp6), (18, rd (Z0 .i64) (IntKind.i64.wrap (q43.toNat : Int))), (24, rd (Z0 .i64) (IntKind.i64.wrap ((IntKind.i64.wrap ((IntKind.i64.wrap (q43.toNat : Int)) + m4)) - start48)))]) (fun n => [(0, Z9 v2 121 Z5 n)]) ?hx8 ?hy8
       case hy8 =>
        intro l56 h
        unfold Zbt at h
        change AW _ _ _ ⟨Zw [(0, Za v2), (3, rd (Z0 .i64) b5), (4, Zl Tryz.prog Z5 Z5 (Z0 .i64) cmp6), (18, rd (Z0 .i64) (IntKind.i64.wrap (q43.toNat : Int))), (24, rd (Z0 .i64) (IntKind.i64.wrap ((IntKind.i64.wrap ((IntKind.i64.wrap (q43.toNat : Int)) + m4)) - start48)))], Zx [(0, Z9 v2 121 Z5 l56)], _⟩
        refine SR <| Md rfl <| Md rfl <| Ac (Zi rfl rfl (vt rfl) (vt rfl)) rfl <| Md rfl <| Gd rfl (fun hq => Zq (A := rd (Z0 .i64) (IntKind.i64.wrap ((IntKind.i64.wrap ((IntKind.i64.wrap (q43.toNat : Int)) + m4)) - start48))) rfl rfl (vt rfl)) <| Gd rfl (fun hq => Zq (A := rd (Z0 .i64) b5) rfl rfl (vt rfl)) <| Gd rfl (fun hq => Zi rfl rfl (Zm rfl hq) (Zm rfl hq)) <| Ac (Z16 rfl rfl (vt rfl) (vt rfl)) rfl <| Nl <| Cn rfl (fun hc => ?_) (fun hc => ?_)
        ·have h := Zj hc h
         obtain ⟨l57, hl57, h⟩ := Z1 h
         refine Rg <| Mw rfl <| Md rfl <| Md rfl <| Md rfl <| Ac (Zq (A := Zl Tryz.prog Z5 Z5 (Z0 .i64) cmp6) rfl rfl (vt rfl)) rfl <| Ct rfl (Z12 0 (xs := [.tmp 214, .tmp 215, .tmp 216, .tmp 217, .tmp 218]) (hR_slices_symMergeCmpFunc_Action _ _ _ _ _ _ _ hl57) Zim rfl rfl ⟨vt rfl, vt rfl, vt rfl, vt rfl, vt rfl, trivial⟩ rfl) ?_
         rintro _ ⟨_u, rfl⟩
         refine Nl ?_
         obtain rfl := si h
         exact Z1t (i := 0) Tryz.results311 rfl rfl
        ·have h := Zk hc h
         refine AW.skip ?_
         obtain rfl := si h
         exact Z1t (i := 0) Tryz.results311 rfl rfl
       case hx8 =>
        refine SR <| Md rfl <| Md rfl <| Ac (Zi rfl rfl (vt rfl) (vt rfl)) rfl <| Md rfl <| Gd rfl (fun hq => Zq (A := rd (Z0 .i64) start48) rfl rfl (vt rfl)) <| Gd rfl (fun hq => Zq (A := rd (Z0 .i64) (IntKind.i64.wrap (q43.toNat : Int))) rfl rfl (vt rfl)) <| Gd rfl (fun hq => Zi rfl rfl (Zm rfl hq) (Zm rfl hq)) <| Ac (Z16 rfl rfl (vt rfl) (vt rfl)) rfl <| Nl <| Cn rfl (fun hc => ?_) (fun hc => ?_)
        ·have h := Zj hc h
         obtain ⟨l58, hl58, h⟩ := Z1 h
         refine Rg <| Mw rfl <| Md rfl <| Md rfl <| Md rfl <| Ac (Zq (A := Zl Tryz.prog Z5 Z5 (Z0 .i64) cmp6) rfl rfl (vt rfl)) rfl <| Ct rfl (Z12 0 (xs := [.tmp 200, .tmp 201, .tmp 202, .tmp 203, .tmp 204]) (hR_slices_symMergeCmpFunc_Action _ _ _ _ _ _ _ hl58) Zim rfl rfl ⟨vt rfl, vt rfl, vt rfl, vt rfl, vt rfl, trivial⟩ rfl) ?_
         rintro _ ⟨_u, rfl⟩
         refine Nl ?_
         exact ⟨l58, h, ⟨rfl, ⟨rfl, rfl, rfl, rfl, rfl, trivial⟩, ⟨rfl, trivial⟩⟩⟩
        ·have h := Zk hc h
         refine AW.skip ?_
         exact ⟨l55, h, ⟨rfl, ⟨rfl, rfl, rfl, rfl, rfl, trivial⟩, ⟨rfl, trivial⟩⟩⟩
      case hx7 =>
       refine SR <| Md rfl <| Md rfl <| Ac (Zi rfl rfl (vt rfl) (vt rfl)) rfl <| Md rfl <| Gd rfl (fun hq => Zq (A := rd (Z0 .i64) m4) rfl rfl (vt rfl)) <| Gd rfl (fun hq => Zq (A := rd (Z0 .i64) (IntKind.i64.wrap ((IntKind.i64.wrap ((IntKind.i64.wrap (q43.toNat : Int)) + m4)) - start48))) rfl rfl (vt rfl)) <| Gd rfl (fun hq => Zi rfl rfl (Zm rfl hq) (Zm rfl hq)) <| Ac (Z16 rfl rfl (vt rfl) (vt rfl)) rfl <| Nl <| Cn rfl (fun hc => ?_) (fun hc => ?_)
       ·have h := Zj hc h
        obtain ⟨l59, hl59, h⟩ := Z1 h
        refine Rg <| Mw rfl <| Md rfl <| Md rfl <| Md rfl <| Ac (Zq (A := Zl Tryz.prog Z5 Z5 (Z0 .i64) cmp6) rfl rfl (vt rfl)) rfl <| Ct rfl (Z12 0 (xs := [.tmp 186, .tmp 187, .tmp 188, .tmp 189, .tmp 190]) (Y7t _ _ _ _ _ _ _ hl59) Y19 rfl rfl ⟨vt rfl, vt rfl, vt rfl, vt rfl, vt rfl, trivial⟩ rfl) ?_
        rintro _ ⟨_u, rfl⟩
        refine Nl ?_
        exact ⟨l59, h, ⟨rfl, ⟨rfl, rfl, rfl, rfl, rfl, rfl, rfl, trivial⟩, ⟨rfl, trivial⟩⟩⟩
       ·have h := Zk hc h
        refine AW.skip ?_
        exact ⟨data1, h, ⟨rfl, ⟨rfl, rfl, rfl, rfl, rfl, rfl, rfl, trivial⟩, ⟨rfl, trivial⟩⟩⟩
   case hx5 =>
    refine SR <| Md rfl <| Md rfl <| Ac (Z4f rfl rfl (vt rfl) (vt rfl)) rfl <| Nl <| Cn rfl (fun hc => ?_) (fun hc => ?_)
    ·have h := Zj hc h
     refine SR <| Md rfl <| Md rfl <| Ac (Z0m rfl rfl (vt rfl) (vt rfl)) rfl <| As rfl <| Nl <| Rg <| Md rfl <| As rfl <| Nl ?_
     exact ⟨((IntKind.i64.wrap ((IntKind.i64.wrap ((IntKind.i64.wrap (q43.toNat : Int)) + m4)) - b5)), (IntKind.i64.wrap (q43.toNat : Int))), h, ⟨rfl, ⟨rfl, rfl, rfl, rfl, rfl, rfl, rfl, rfl, rfl, trivial⟩, ⟨rfl, trivial⟩⟩⟩
    ·have h := Zk hc h
     refine SR <| Md rfl <| As rfl <| Nl <| Rg <| Md rfl <| As rfl <| Nl ?_
     exact ⟨(a3, m4), h, ⟨rfl, ⟨rfl, rfl, rfl, rfl, rfl, rfl, rfl, rfl, rfl, trivial⟩, ⟨rfl, trivial⟩⟩⟩
def Zcx : Nat → ((List Action) → Int → Int → Int → (Action → Action → Option Int) → Option (List Action))
 | 0 => (fun _ _ _ _ _ => none)
 | n + 1 => (Zf0 (Zcx n))
theorem Zpu : ∀ n : Nat, (∀ (v2 : Value) (data1 : (List Action)) (a3 : Int) (m4 : Int) (b5 : Int) (cmp6 : (Action → Action → Option Int)) (r : (List Action)), (Zcx n) data1 a3 m4 b5 cmp6 = some r → Con Tryz.prog 311 [Za v2, rd (Z0 .i64) a3, rd (Z0 .i64) m4, rd (Z0 .i64) b5, Zl Tryz.prog Z5 Z5 (Z0 .i64) cmp6] (Z9 v2 121 Z5 data1) (fun _ : Unit => top) (fun _ => Z9 v2 121 Z5 r))
 | 0 => (by intros; rename_i h; cases h)
 | n + 1 => by
  have ih := Zpu n
  exact (Y1g (Zcx n) ih)
def Zis (data1 : (List Action)) (a3 : Int) (m4 : Int) (b5 : Int) (cmp6 : (Action → Action → Option Int)) : Option (List Action) := (Zcx Z18) data1 a3 m4 b5 cmp6
theorem Zrf : ∀ (v2 : Value) (data1 : (List Action)) (a3 : Int) (m4 : Int) (b5 : Int) (cmp6 : (Action → Action → Option Int)) (r : (List Action)), Zis data1 a3 m4 b5 cmp6 = some r → Con Tryz.prog 311 [Za v2, rd (Z0 .i64) a3, rd (Z0 .i64) m4, rd (Z0 .i64) b5, Zl Tryz.prog Z5 Z5 (Z0 .i64) cmp6] (Z9 v2 121 Z5 data1) (fun _ : Unit => top) (fun _ => Z9 v2 121 Z5 r) := Zpu Z18
def Z8n (n3 : Int) (blockSize17 : Int) (cmp4 : (Action → Action → Option Int)) (go2 : (List Action) → Int → Option (List Action)) : Nat → (List Action) → Int → Int → Option (List Action)
 | 0, _, _, _ => none
 | m25 + 1, l22, a23, b24 => (bif (decide (b24 ≤ n3)) then (Zis l22 a23 (IntKind.i64.wrap (a23 + blockSize17)) b24 cmp4).bind fun l26 => (Z8n n3 blockSize17 cmp4 go2 m25) l26 b24 (IntKind.i64.wrap (b24 + (IntKind.i64.wrap (2 * blockSize17)))) else (bif (decide ((IntKind.i64.wrap (a23 + blockSize17)) < n3)) then (Zis l22 a23 (IntKind.i64.wrap (a23 + blockSize17)) n3 cmp4).bind fun l27 => go2 l27 (IntKind.i64.wrap (blockSize17 * 2)) else go2 l22 (IntKind.i64.wrap (blockSize17 * 2))))
def Z70 (n3 : Int) (cmp4 : (Action → Action → Option Int)) : Nat → (List Action) → Int → Option (List Action)
 | 0, _, _ => none
 | m18 + 1, l16, blockSize17 => (bif (decide (blockSize17 < n3)) then Z8n n3 blockSize17 cmp4 (Z70 n3 cmp4 m18) (((n3 : Int) - (IntKind.i64.wrap (2 * blockSize17))).toNat + 2) l16 0 (IntKind.i64.wrap (2 * blockSize17)) else some l16)
def Z86 (n3 : Int) (cmp4 : (Action → Action → Option Int)) : Nat → (List Action) → Int → Int → Option (List Action)
 | 0, _, _, _ => none
 | m11 + 1, l8, a9, b10 => (bif (decide (b10 ≤ n3)) then (Zaz l8 a9 b10 cmp4).bind fun l12 => (Z86 n3 cmp4 m11) l12 b10 (IntKind.i64.wrap (b10 + 20)) else (Zaz l8 a9 n3 cmp4).bind fun l13 => Z70 n3 cmp4 (((n3 : Int) - 20).toNat + 1) l13 20)
def Zig (data1 : (List Action)) (n3 : Int) (cmp4 : (Action → Action → Option Int)) : Option (List Action) :=
 Z86 n3 cmp4 (((n3 : Int) - 20).toNat + 2) data1 0 20
theorem Zxv (v2 : Value) (data1 : (List Action)) (n3 : Int) (cmp4 : (Action → Action → Option Int)) (r : (List Action)) (h : Zig data1 n3 cmp4 = some r) : Con Tryz.prog 274 [Za v2, rd (Z0 .i64) n3, Zl Tryz.prog Z5 Z5 (Z0 .i64) cmp4] (Z9 v2 121 Z5 data1) (fun _ : Unit => top) (fun _ => Z9 v2 121 Z5 r) := by
 refine Con.intro Tryz.func274 rfl Tryz.ntmps274 rfl fun w H X => ?_
 unfold Zig at h
 refine SR <| Ak rfl <| Nl <| SR <| Md rfl <| Ak rfl <| As rfl <| Nl <| AW.seq <| AW.block <| AW.loopG (d := []) (ν := Nat × (List Action) × Int × Int) (fun n => True ∧ Z86 n3 cmp4 n.1 n.2.1 n.2.2.1 n.2.2.2 = some r) (fun n => n.1) (fun n => [(0, Za v2), (1, rd (Z0 .i64) n3), (2, Zl Tryz.prog Z5 Z5 (Z0 .i64) cmp4), (6, rd (Z0 .i64) 20), (7, rd (Z0 .i64) n.2.2.1), (8, rd (Z0 .i64) n.2.2.2)]) (fun n => [(0, Z9 v2 121 Z5 n.2.1)]) ((((n3 : Int) - 20).toNat + 2), data1, 0, 20) ⟨trivial, h⟩ ⟨rfl, ⟨rfl, rfl, rfl, rfl, rfl, rfl, trivial⟩, ⟨rfl, trivial⟩⟩ ?_
 rintro ⟨m11, l8, a9, b10⟩ ⟨hsf1, h⟩
 change True at hsf1
 change Z86 n3 cmp4 m11 l8 a9 b10 = some r at h
 change AW _ _ _ ⟨Zw [(0, Za v2), (1, rd (Z0 .i64) n3), (2, Zl Tryz.prog Z5 Z5 (Z0 .i64) cmp4), (6, rd (Z0 .i64) 20), (7, rd (Z0 .i64) a9), (8, rd (Z0 .i64) b10)], Zx [(0, Z9 v2 121 Z5 l8)], _⟩
 cases m11 with
 | zero => cases h
 | succ m11 =>
  unfold Z86 at h
  generalize hgo1 : Z86 n3 cmp4 m11 = go1 at h
  refine AW.seq <| SR <| Md rfl <| Md rfl <| Ac (Z5y rfl rfl (vt rfl) (vt rfl)) rfl <| Nl <| Cn rfl (fun hc => ?_) (fun hc => ?_)
  ·have h := Zj hc h
   refine AW.skip <| AW.block <| AW.seq ?_
   obtain ⟨l12, hl12, h⟩ := Z1 h
   refine Rg <| Mw rfl <| Md rfl <| Md rfl <| Ac (Zq (A := Zl Tryz.prog Z5 Z5 (Z0 .i64) cmp4) rfl rfl (vt rfl)) rfl <| Ct rfl (Z12 0 (xs := [.tmp 14, .tmp 15, .tmp 16, .tmp 17]) (Zto _ _ _ _ _ _ hl12) Zup rfl rfl ⟨vt rfl, vt rfl, vt rfl, vt rfl, trivial⟩ rfl) ?_
   rintro _ ⟨_u, rfl⟩
   refine Nl <| SR <| Md rfl <| As rfl <| Nl <| Rg <| Md rfl <| Md rfl <| Ac (Z0e rfl rfl (vt rfl) (vt rfl)) rfl <| As rfl <| Nl ?_
   subst hgo1
   exact ⟨(m11, l12, b10, (IntKind.i64.wrap (b10 + 20))), Nat.lt_succ_self _, ⟨trivial, h⟩, ⟨rfl, ⟨rfl, rfl, rfl, rfl, rfl, rfl, trivial⟩, ⟨rfl, trivial⟩⟩⟩
  ·have h := Zk hc h
   refine AW.exit <| AW.seq ?_
   obtain ⟨l13, hl13, h⟩ := Z1 h
   refine Rg <| Mw rfl <| Md rfl <| Md rfl <| Ac (Zq (A := Zl Tryz.prog Z5 Z5 (Z0 .i64) cmp4) rfl rfl (vt rfl)) rfl <| Ct rfl (Z12 0 (xs := [.tmp 23, .tmp 24, .tmp 25, .tmp 26]) (Zto _ _ _ _ _ _ hl13) Zup rfl rfl ⟨vt rfl, vt rfl, vt rfl, vt rfl, trivial⟩ rfl) ?_
   rintro _ ⟨_u, rfl⟩
   refine Nl <| AW.block <| AW.loopG (d := []) (ν := Nat × (List Action) × Int) (fun n => True ∧ Z70 n3 cmp4 n.1 n.2.1 n.2.2 = some r) (fun n => n.1) (fun n => [(0, Za v2), (1, rd (Z0 .i64) n3), (2, Zl Tryz.prog Z5 Z5 (Z0 .i64) cmp4), (6, rd (Z0 .i64) n.2.2)]) (fun n => [(0, Z9 v2 121 Z5 n.2.1)]) ((((n3 : Int) - 20).toNat + 1), l13, 20) ⟨trivial, h⟩ ⟨rfl, ⟨rfl, rfl, rfl, rfl, trivial⟩, ⟨rfl, trivial⟩⟩ ?_
   rintro ⟨m18, l16, blockSize17⟩ ⟨hsf2, h⟩
   change True at hsf2
   change Z70 n3 cmp4 m18 l16 blockSize17 = some r at h
   change AW _ _ _ ⟨Zw [(0, Za v2), (1, rd (Z0 .i64) n3), (2, Zl Tryz.prog Z5 Z5 (Z0 .i64) cmp4), (6, rd (Z0 .i64) blockSize17)], Zx [(0, Z9 v2 121 Z5 l16)], _⟩
   cases m18 with
   | zero => cases h
   | succ m18 =>
    unfold Z70 at h
    generalize hgo2 : Z70 n3 cmp4 m18 = go2 at h
    refine AW.seq <| SR <| Md rfl <| Md rfl <| Ac (Zi rfl rfl (vt rfl) (vt rfl)) rfl <| Nl <| Cn rfl (fun hc => ?_) (fun hc => ?_)
    ·have h := Zj hc h
     refine AW.skip <| AW.block <| SR <| Md rfl <| Ac (Z6d rfl rfl (vk rfl) (vt rfl)) rfl <| Ak rfl <| As rfl <| Nl <| AW.seq <| AW.block <| AW.loopG (d := []) (ν := Nat × (List Action) × Int × Int) (fun n => True ∧ Z8n n3 blockSize17 cmp4 go2 n.1 n.2.1 n.2.2.1 n.2.2.2 = some r) (fun n => n.1) (fun n => [(0, Za v2), (1, rd (Z0 .i64) n3), (2, Zl Tryz.prog Z5 Z5 (Z0 .i64) cmp4), (6, rd (Z0 .i64) blockSize17), (7, rd (Z0 .i64) n.2.2.1), (8, rd (Z0 .i64) n.2.2.2)]) (fun n => [(0, Z9 v2 121 Z5 n.2.1)]) ((((n3 : Int) - (IntKind.i64.wrap (2 * blockSize17))).toNat + 2), l16, 0, (IntKind.i64.wrap (2 * blockSize17))) ⟨trivial, h⟩ ⟨rfl, ⟨rfl, rfl, rfl, rfl, rfl, rfl, trivial⟩, ⟨rfl, trivial⟩⟩ ?_
     rintro ⟨m25, l22, a23, b24⟩ ⟨hsf3, h⟩
     change True at hsf3
     change Z8n n3 blockSize17 cmp4 go2 m25 l22 a23 b24 = some r at h
     change AW _ _ _ ⟨Zw [(0, Za v2), (1, rd (Z0 .i64) n3), (2, Zl Tryz.prog Z5 Z5 (Z0 .i64) cmp4), (6, rd (Z0 .i64) blockSize17), (7, rd (Z0 .i64) a23), (8, rd (Z0 .i64) b24)], Zx [(0, Z9 v2 121 Z5 l22)], _⟩
     cases m25 with
     | zero => cases h
     | succ m25 =>
      unfold Z8n at h
      generalize hgo3 : Z8n n3 blockSize17 cmp4 go2 m25 = go3 at h
      refine AW.seq <| SR <| Md rfl <| Md rfl <| Ac (Z5y rfl rfl (vt rfl) (vt rfl)) rfl <| Nl <| Cn rfl (fun hc => ?_) (fun hc => ?_)
      ·have h := Zj hc h
       refine AW.skip <| AW.block <| AW.seq ?_
       obtain ⟨l26, hl26, h⟩ := Z1 h
       refine Rg <| Mw rfl <| Md rfl <| Md rfl <| Md rfl <| Ac (Z0e rfl rfl (vt rfl) (vt rfl)) rfl <| Md rfl <| Ac (Zq (A := Zl Tryz.prog Z5 Z5 (Z0 .i64) cmp4) rfl rfl (vt rfl)) rfl <| Ct rfl (Z12 0 (xs := [.tmp 36, .tmp 37, .tmp 40, .tmp 41, .tmp 42]) (Zrf _ _ _ _ _ _ _ hl26) Zim rfl rfl ⟨vt rfl, vt rfl, vt rfl, vt rfl, vt rfl, trivial⟩ rfl) ?_
       rintro _ ⟨_u, rfl⟩
       refine Nl <| SR <| Md rfl <| As rfl <| Nl <| Rg <| Md rfl <| Md rfl <| Ac (Z6d rfl rfl (vk rfl) (vt rfl)) rfl <| Ac (Z0e rfl rfl (vt rfl) (vt rfl)) rfl <| As rfl <| Nl ?_
       subst hgo3
       exact ⟨(m25, l26, b24, (IntKind.i64.wrap (b24 + (IntKind.i64.wrap (2 * blockSize17))))), Nat.lt_succ_self _, ⟨trivial, h⟩, ⟨rfl, ⟨rfl, rfl, rfl, rfl, rfl, rfl, trivial⟩, ⟨rfl, trivial⟩⟩⟩
      ·have h := Zk hc h
       refine AW.exit <| AW.seq <| SR <| Md rfl <| Md rfl <| Ac (Z0e rfl rfl (vt rfl) (vt rfl)) rfl <| As rfl <| Nl <| SR <| Md rfl <| Md rfl <| Ac (Zi rfl rfl (vt rfl) (vt rfl)) rfl <| Nl <| Cn rfl (fun hc => ?_) (fun hc => ?_)
       ·have h := Zj hc h
        obtain ⟨l27, hl27, h⟩ := Z1 h
        refine Rg <| Mw rfl <| Md rfl <| Md rfl <| Md rfl <| Ac (Zq (A := Zl Tryz.prog Z5 Z5 (Z0 .i64) cmp4) rfl rfl (vt rfl)) rfl <| Ct rfl (Z12 0 (xs := [.tmp 55, .tmp 56, .tmp 57, .tmp 58, .tmp 59]) (Zrf _ _ _ _ _ _ _ hl27) Zim rfl rfl ⟨vt rfl, vt rfl, vt rfl, vt rfl, vt rfl, trivial⟩ rfl) ?_
        rintro _ ⟨_u, rfl⟩
        refine Nl <| Rg <| Md rfl <| Ac (Z6d rfl rfl (vt rfl) (vk rfl)) rfl <| As rfl <| Nl ?_
        subst hgo2
        exact ⟨(m18, l27, (IntKind.i64.wrap (blockSize17 * 2))), Nat.lt_succ_self _, ⟨trivial, h⟩, ⟨rfl, ⟨rfl, rfl, rfl, rfl, trivial⟩, ⟨rfl, trivial⟩⟩⟩
       ·have h := Zk hc h
        refine AW.skip <| Rg <| Md rfl <| Ac (Z6d rfl rfl (vt rfl) (vk rfl)) rfl <| As rfl <| Nl ?_
        subst hgo2
        exact ⟨(m18, l22, (IntKind.i64.wrap (blockSize17 * 2))), Nat.lt_succ_self _, ⟨trivial, h⟩, ⟨rfl, ⟨rfl, rfl, rfl, rfl, trivial⟩, ⟨rfl, trivial⟩⟩⟩
    ·have h := Zk hc h
     refine AW.exit ?_
     obtain rfl := si h
     exact Z1t (i := 0) Tryz.results274 rfl rfl
def Zdg (x1 : (List Action)) (cmp3 : (Action → Action → Option Int)) : Option (List Action) :=
 (Zig x1 (x1.length : Int) cmp3).bind fun l4 => some l4
theorem Y1x (v2 : Value) (x1 : (List Action)) (cmp3 : (Action → Action → Option Int)) (r : (List Action)) (h : Zdg x1 cmp3 = some r) : Con Tryz.prog 219 [Za v2, Zl Tryz.prog Z5 Z5 (Z0 .i64) cmp3] (Z9 v2 121 Z5 x1) (fun _ : Unit => top) (fun _ => Z9 v2 121 Z5 r) := by
 refine Con.intro Tryz.func219 rfl Tryz.ntmps219 rfl fun w H X => ?_
 unfold Zdg at h
 obtain ⟨l4, hl4, h⟩ := Z1 h
 refine Rg <| Mw rfl <| Mw rfl <| Ac (Zae 0 rfl rfl Z0n (vt rfl) rfl) rfl <| Ac (Zq (A := Zl Tryz.prog Z5 Z5 (Z0 .i64) cmp3) rfl rfl (vt rfl)) rfl <| Ct rfl (Z12 0 (xs := [.tmp 4, .tmp 6, .tmp 7]) (Zxv _ _ _ _ _ hl4) Y8b rfl rfl ⟨vt rfl, vt rfl, vt rfl, trivial⟩ rfl) ?_
 rintro _ ⟨_u, rfl⟩
 refine Nl ?_
 obtain rfl := si h
 exact Z1t (i := 0) Tryz.results219 rfl rfl
def Zd9 (a1 : Action) (b2 : Action) : Option Int :=
 (Z8v a1).bind fun x5 => (Z8v b2).bind fun x6 => (Zax x5.kind).bind fun x9 => (Zax x6.kind).bind fun x10 => (bif (decide ((IntKind.i64.wrap (x9 - x10)) ≠ 0)) then some (IntKind.i64.wrap (x9 - x10)) else (bif (decide (x5.field < x6.field)) then some (-1) else (bif (decide (x5.field > x6.field)) then some 1 else some 0)))
theorem Y3o (a1 : Action) (b2 : Action) (r : Int) (h : Zd9 a1 b2 = some r) : PCon Tryz.prog 220 [rd Z5 a1, rd Z5 b2] (rd (Z0 .i64) r) := by
 refine PCon.of (Con.intro0 Tryz.func220 rfl Tryz.ntmps220 rfl fun w H => ?_)
 unfold Zd9 at h
 refine SR <| Ct rfl (Zs 3 rfl rfl (vt rfl)) ?_
 rintro _ ⟨g3, rfl⟩
 refine Ct rfl (Zs 4 rfl rfl (vt rfl)) ?_
 rintro _ ⟨g4, rfl⟩
 refine Ak rfl <| Nl <| AW.seq ?_
 obtain ⟨x5, hx5, h⟩ := Z1 h
 obtain ⟨x6, hx6, h⟩ := Z1 h
 refine AW.regionAny [⟨[2], [8], [3], []⟩, ⟨[8], [9], [], []⟩, ⟨[3], [10], [4], []⟩, ⟨[10], [11], [], []⟩, ⟨[], [5], [], []⟩, ⟨[], [6], [], []⟩, ⟨[5, 9], [5], [], []⟩, ⟨[6, 11], [6], [], []⟩] Z05 (by kernel_rfl) <| SLd Z0l 3 rfl <| SCl [8] (Zj6 _ _ hx5) Zhc rfl <| SLd Z0l 4 rfl <| SCl [10] (Zj6 _ _ hx6) Zhc rfl <| Sc (Z2e (us := [(5, Z37 275 Z57 Zj8)]) (ur := []) [] [] rfl fun S hs hr => Zcg rfl rfl rfl Zfe) rfl <| Sc (Z2e (us := [(6, Z37 275 Z57 Zj8)]) (ur := []) [] [] rfl fun S hs hr => Zcg rfl rfl rfl Zfe) rfl <| Sc (Z2e (us := [(5, Z37 275 Z57 x5)]) (ur := []) [5, 9] [] rfl fun S hs hr => Zb5 rfl rfl Zca ((hs 5 rfl).trans rfl) (vh hs 9 rfl rfl)) rfl <| Sc (Z2e (us := [(6, Z37 275 Z57 x6)]) (ur := []) [6, 11] [] rfl fun S hs hr => Zb5 rfl rfl Zca ((hs 6 rfl).trans rfl) (vh hs 11 rfl rfl)) rfl <| AW.unpackP 5 6 rfl rfl fun g7 => AW.unpackP 6 7 rfl rfl fun g8 => AW.seq <| AW.seq ?_
 obtain ⟨x9, hx9, h⟩ := Z1 h
 obtain ⟨x10, hx10, h⟩ := Z1 h
 refine AW.regionAny [⟨[5], [12], [], []⟩, ⟨[12], [13], [6], []⟩, ⟨[13], [14], [], []⟩, ⟨[6], [15], [], []⟩, ⟨[15], [16], [7], []⟩, ⟨[16], [17], [], []⟩, ⟨[14, 17], [18], [], []⟩, ⟨[18], [7], [], []⟩] Z05 (by kernel_rfl) <| SFd Zea Zv0 rfl <| SLd Zu 6 rfl <| SCl [13] (Zkg _ _ hx9) Zkc rfl <| SFd Zea Zv0 rfl <| SLd Zu 7 rfl <| SCl [16] (Zkg _ _ hx10) Zkc rfl <| Sc (lo [14, 17] [] rfl fun S hs hr => Z0m rfl rfl (vh hs 14 rfl rfl) (vh hs 17 rfl rfl)) rfl <| SAs rfl <| SR <| Md rfl <| Ac (Z74 rfl rfl (vt rfl) (vk rfl)) rfl <| Nl <| Cn rfl (fun hc => ?_) (fun hc => ?_)
 ·have h := Zj hc h
  refine SR <| Md rfl <| As rfl <| Nl <| AW.ret ?_
  obtain rfl := si h
  exact Zg Tryz.results220 rfl (Zf rfl)
 ·have h := Zk hc h
  refine AW.skip <| AW.seq <| AW.block <| SR <| Zt Zc5 Zgw rfl <| Ld Zu 6 rfl <| Zt Zc5 Zgw rfl <| Ld Zu 7 rfl <| Ac (Zi rfl rfl (vt rfl) (vt rfl)) rfl <| As rfl <| Nl <| Cn rfl (fun hc => ?_) (fun hc => ?_)
  ·have h := Zj hc h
   refine SR <| Ak rfl <| Nl <| AW.ret ?_
   obtain rfl := si h
   exact Zg Tryz.results220 rfl (Zf rfl)
  ·have h := Zk hc h
   refine SR <| Zt Zc5 Zgw rfl <| Ld Zu 6 rfl <| Zt Zc5 Zgw rfl <| Ld Zu 7 rfl <| Ac (Z4f rfl rfl (vt rfl) (vt rfl)) rfl <| As rfl <| Nl <| Cn rfl (fun hc => ?_) (fun hc => ?_)
   ·have h := Zj hc h
    refine SR <| Ak rfl <| Nl <| AW.ret ?_
    obtain rfl := si h
    exact Zg Tryz.results220 rfl (Zf rfl)
   ·have h := Zk hc h
    refine AW.skip <| SR <| Ak rfl <| Nl <| AW.ret ?_
    obtain rfl := si h
    exact Zg Tryz.results220 rfl (Zf rfl)
def Zcu (set1 : (List Action)) : Option (List Action) :=
 (Zgc set1 Zjk).bind fun x2 => (Z5v set1).bind fun x4 => (Zed x4 (fun x => Zdc x x2)).bind fun x6 => (Zdg x6 Zd9).bind fun l8 => some l8
theorem Y04 (set1 : (List Action)) (r : (List Action)) (h : Zcu set1 = some r) : PCon Tryz.prog 149 [rd (Z2 Z5) set1] (rd (Z2 Z5) r) := by
 refine PCon.of (Con.intro0 Tryz.func149 rfl Tryz.ntmps149 rfl fun w H => ?_)
 unfold Zcu at h
 refine SR <| Ac (Z0j (A := rd (Z2 Z5) []) rfl rfl Z3h) rfl <| Nl <| AW.seq ?_
 obtain ⟨x2, hx2, h⟩ := Z1 h
 refine Rg <| Md rfl <| Ac (Z0t (xs := [.tmp 5, .func 214]) (Zv6 _ _ _ hx2) Y7x rfl rfl ⟨vt rfl, vf1 Y52 Y88, trivial⟩) rfl <| Ct rfl (Zo 4 rfl rfl zr4) ?_
 rintro _ ⟨g3, rfl⟩
 refine Zh ty4 4 rfl <| Nl <| AW.seq <| AW.freezeB 3 4 rfl rfl rfl ?_
 obtain ⟨x4, hx4, h⟩ := Z1 h
 obtain ⟨x6, hx6, h⟩ := Z1 h
 refine Rg <| Md rfl <| Ct rfl (Z12 1001 (xs := [.tmp 7]) (Zjr _ _ hx4) Zjd rfl rfl ⟨vt rfl, trivial⟩ rfl) ?_
 rintro _ ⟨v5, rfl⟩
 refine Ac (Z8w (cs := [.tmp 3]) (CAs := [rp Z6 x2]) (fun x => Zdc x x2) rfl rfl Y6y ⟨vt rfl, trivial⟩ (fun x y h => Zwd _ _ y h)) rfl <| Ct rfl (Z12 1001 (xs := [.tmp 8, .tmp 9]) (Y8k _ _ _ _ hx6) Zvy rfl rfl ⟨vt rfl, vt rfl, trivial⟩ rfl) ?_
 rintro _ ⟨v7, rfl⟩
 refine Aw rfl <| Nl <| AW.seq ?_
 obtain ⟨l8, hl8, h⟩ := Z1 h
 refine Rg <| Mw rfl <| Ct rfl (Z12 1001 (xs := [.tmp 11, .func 220]) (Y1x _ _ _ _ hl8) Y3b rfl rfl ⟨vt rfl, vf2 Y5r Y3o, trivial⟩ rfl) ?_
 rintro _ ⟨_u, rfl⟩
 refine Nl <| SR <| Mw rfl <| Aw rfl <| Nl <| AW.freezes [2, 4, 10, 11, 13] 1001 rfl ⟨rfl, rfl, rfl, rfl, rfl, trivial⟩ rfl <| AW.ret ?_
 obtain rfl := si h
 exact Zg Tryz.results149 rfl (Zf rfl)
end Go.Proofs.YtknpgojdkobgjaaGreat.W
set_option maxRecDepth 4000
namespace Go.Proofs.YtknpgojdkobgjaaGreat.W
open Go Go.Wb
theorem Zfv : Ent Tryz.prog 204 := Ent.mk Tryz.func204 rfl rfl
theorem Y6x : Ent Tryz.prog 149 := Ent.mk Tryz.func149 rfl rfl
theorem Zsy : Ent Tryz.prog 205 := Ent.mk Tryz.func205 rfl rfl
theorem Y47 : Ent Tryz.prog 206 := Ent.mk Tryz.func206 rfl rfl
theorem Zsk : Ent Tryz.prog 208 := Ent.mk Tryz.func208 rfl rfl
theorem Y6l : Ent Tryz.prog 135 := Ent.mk Tryz.func135 rfl rfl
theorem Zrg : Ent Tryz.prog 138 := Ent.mk Tryz.func138 rfl rfl
theorem Y8n : Ent Tryz.prog 136 := Ent.mk Tryz.func136 rfl rfl
theorem Y20 : Ent Tryz.prog 137 := Ent.mk Tryz.func137 rfl rfl
theorem e76 : Ent Tryz.prog 76 := Ent.mk Tryz.func76 rfl rfl
theorem e75 : Ent Tryz.prog 75 := Ent.mk Tryz.func75 rfl rfl
theorem Zx8 : Ent Tryz.prog 146 := Ent.mk Tryz.func146 rfl rfl
theorem e22 : Ent Tryz.prog 22 := Ent.mk Tryz.func22 rfl rfl
theorem e85 : Ent Tryz.prog 85 := Ent.mk Tryz.func85 rfl rfl
def Zb6 (l3 : (List Inst)) (at2 : Int) (b9 : walk_way) : Option (walk_way × Int × Bool) :=
 (Z7n l3 1).bind fun x10 => (bif ((x10.2 && (decide (x10.1.Table > at2))) && (decide (x10.1.Table < 4))) then some (b9, x10.1.Table, true) else (Zcu b9.set).bind fun x12 => (Z9z b9 x12).bind fun x13 => some (x13, 0, false))
def Zb8 (l3 : (List Inst)) (at2 : Int) (b8 : walk_way) : Option (walk_way × Int × Bool) :=
 (Z7n l3 2).bind fun x14 => (bif x14.2 then (Z7g b8.got 1 x14.1.Value x14.1.Mask).bind fun x16 => Zb6 l3 at2 { b8 with got := x16 } else Zb6 l3 at2 b8)
def Zbj (l3 : (List Inst)) (at2 : Int) (b7 : walk_way) : Option (walk_way × Int × Bool) :=
 (Z7n l3 3).bind fun x17 => (bif x17.2 then (Zg6 b7.set x17.1.Acts).bind fun x19 => Zb8 l3 at2 { b7 with set := x19 } else Zb8 l3 at2 b7)
def Zbp (l3 : (List Inst)) (at2 : Int) (b6 : walk_way) : Option (walk_way × Int × Bool) :=
 (Z7n l3 5).bind fun x20 => (bif x20.2 then Zbj l3 at2 { b6 with set := [] } else Zbj l3 at2 b6)
def Zg3 (w1 : walk_way) (at2 : Int) (l3 : (List Inst)) : Option (walk_way × Int × Bool) :=
 (Z7n l3 4).bind fun x22 => (bif x22.2 then (Z9z w1 x22.1.Acts).bind fun x24 => Zbp l3 at2 x24 else Zbp l3 at2 w1)
theorem Y6p (w1 : walk_way) (at2 : Int) (l3 : (List Inst)) (r : (walk_way × Int × Bool)) (h : Zg3 w1 at2 l3 = some r) : PCon Tryz.prog 137 [rd Z0c w1, rd (Z0 .i64) at2, rd (Z2 Z0s) l3] (Z2w (rd Z0c r.1) (rd (Z0 .i64) r.2.1) (rd Z6 r.2.2)) := by
 refine PCon.of (Con.intro0 Tryz.func137 rfl Tryz.ntmps137 rfl fun w H => ?_)
 unfold Zg3 at h
 refine SR <| Ct rfl (Zs 4 rfl rfl (vt rfl)) ?_
 rintro _ ⟨g4, rfl⟩
 refine Ct rfl (Zo 7 rfl rfl Zc6) ?_
 rintro _ ⟨g5, rfl⟩
 refine Ak rfl <| Ab rfl <| Nl ?_
 refine AW.join (d := []) (ν := walk_way) (fun n => Zbp l3 at2 n = some r) (fun n => [(1, rd (Z0 .i64) at2), (2, rd (Z2 Z0s) l3), (3, Zb g4 (Lens.id Z0c)), (6, Zb g5 (Lens.id Z0c))]) (fun n => [(4, Zd g4 135 Z0c n), (7, Zd g5 135 Z0c Z6c)]) ?hx1 ?hy1
 case hy1 =>
  intro b6 h
  unfold Zbp at h
  change AW _ _ _ ⟨Zw [(1, rd (Z0 .i64) at2), (2, rd (Z2 Z0s) l3), (3, Zb g4 (Lens.id Z0c)), (6, Zb g5 (Lens.id Z0c))], Zx [(4, Zd g4 135 Z0c b6), (7, Zd g5 135 Z0c Z6c)], _⟩
  refine AW.join (d := []) (ν := walk_way) (fun n => Zbj l3 at2 n = some r) (fun n => [(1, rd (Z0 .i64) at2), (2, rd (Z2 Z0s) l3), (3, Zb g4 (Lens.id Z0c)), (6, Zb g5 (Lens.id Z0c))]) (fun n => [(4, Zd g4 135 Z0c n), (7, Zd g5 135 Z0c Z6c)]) ?hx2 ?hy2
  case hy2 =>
   intro b7 h
   unfold Zbj at h
   change AW _ _ _ ⟨Zw [(1, rd (Z0 .i64) at2), (2, rd (Z2 Z0s) l3), (3, Zb g4 (Lens.id Z0c)), (6, Zb g5 (Lens.id Z0c))], Zx [(4, Zd g4 135 Z0c b7), (7, Zd g5 135 Z0c Z6c)], _⟩
   refine AW.join (d := []) (ν := walk_way) (fun n => Zb8 l3 at2 n = some r) (fun n => [(1, rd (Z0 .i64) at2), (2, rd (Z2 Z0s) l3), (3, Zb g4 (Lens.id Z0c)), (6, Zb g5 (Lens.id Z0c))]) (fun n => [(4, Zd g4 135 Z0c n), (7, Zd g5 135 Z0c Z6c)]) ?hx3 ?hy3
   case hy3 =>
    intro b8 h
    unfold Zb8 at h
    change AW _ _ _ ⟨Zw [(1, rd (Z0 .i64) at2), (2, rd (Z2 Z0s) l3), (3, Zb g4 (Lens.id Z0c)), (6, Zb g5 (Lens.id Z0c))], Zx [(4, Zd g4 135 Z0c b8), (7, Zd g5 135 Z0c Z6c)], _⟩
    refine AW.join (d := []) (ν := walk_way) (fun n => Zb6 l3 at2 n = some r) (fun n => [(1, rd (Z0 .i64) at2), (2, rd (Z2 Z0s) l3), (3, Zb g4 (Lens.id Z0c)), (6, Zb g5 (Lens.id Z0c))]) (fun n => [(4, Zd g4 135 Z0c n), (7, Zd g5 135 Z0c Z6c)]) ?hx4 ?hy4
    case hy4 =>
     intro b9 h
     unfold Zb6 at h
     change AW _ _ _ ⟨Zw [(1, rd (Z0 .i64) at2), (2, rd (Z2 Z0s) l3), (3, Zb g4 (Lens.id Z0c)), (6, Zb g5 (Lens.id Z0c))], Zx [(4, Zd g4 135 Z0c b9), (7, Zd g5 135 Z0c Z6c)], _⟩
     refine AW.seq ?_
     obtain ⟨x10, hx10, h⟩ := Z1 h
     refine Rg <| Md rfl <| Ac (Z0t (xs := [.tmp 63, .const (Value.int IntKind.i64 1)]) (Ze5 _ _ _ hx10) Zfv rfl rfl ⟨vt rfl, vk rfl, trivial⟩) rfl <| Mt2 rfl <| Ac (Z28 rfl rfl (vt rfl)) rfl <| Ac (Z25 rfl rfl (vt rfl)) rfl <| Ct rfl (Zo 18 rfl rfl Z4s) ?_
     rintro _ ⟨g11, rfl⟩
     refine Zh Z4l 18 rfl <| As rfl <| Nl <| AW.seq <| SR <| Md rfl <| Md rfl <| Gd rfl (fun hq => Z1w Zdq rfl rfl Zmx (vt rfl)) <| Gd rfl (fun hq => Z11 rfl rfl Zu (Zm rfl hq) (i := 18) rfl) <| Gd rfl (fun hq => Zq (A := rd (Z0 .i64) at2) rfl rfl (vt rfl)) <| Gd rfl (fun hq => Z4f rfl rfl (Zm rfl hq) (Zm rfl hq)) <| Ac (Z16 rfl rfl (vt rfl) (vt rfl)) rfl <| Md rfl <| Gd rfl (fun hq => Z1w Zdq rfl rfl Zmx (vt rfl)) <| Gd rfl (fun hq => Z11 rfl rfl Zu (Zm rfl hq) (i := 18) rfl) <| Gd rfl (fun hq => Zi rfl rfl (Zm rfl hq) (vk rfl)) <| Ac (Z16 rfl rfl (vt rfl) (vt rfl)) rfl <| Nl <| Cn rfl (fun hc => ?_) (fun hc => ?_)
     ·have h := Zj hc h
      refine AW.seq <| AW.regionAny [⟨[3], [79], [4], []⟩, ⟨[17], [80], [], []⟩, ⟨[80], [81], [18], []⟩, ⟨[6, 79], [], [7], [7]⟩, ⟨[81], [7], [], []⟩, ⟨[], [8], [], []⟩] Z05 (by kernel_rfl) <| SLd Z23 4 rfl <| SFd Zdq Zmx rfl <| SLd Zu 18 rfl <| SSt Z23 7 rfl <| SAs rfl <| Sc (lo [] [] rfl fun S hs hr => Z0j (A := rd Z6 true) rfl rfl vb) rfl <| AW.ret ?_
      obtain rfl := si h
      exact Zi2 Tryz.results137 rfl (Z04 rfl (i := 7) rfl Z23) (Zf rfl) (Zf rfl)
     ·have h := Zk hc h
      refine AW.skip <| AW.seq ?_
      obtain ⟨x12, hx12, h⟩ := Z1 h
      obtain ⟨x13, hx13, h⟩ := Z1 h
      refine AW.regionAny [⟨[3], [82], [4], []⟩, ⟨[3], [83], [], []⟩, ⟨[83], [84], [4], []⟩, ⟨[84], [85], [], []⟩, ⟨[82, 85], [86], [], []⟩, ⟨[6, 86], [], [7], [7]⟩, ⟨[], [7], [], []⟩, ⟨[], [8], [], []⟩] Z05 (by kernel_rfl) <| SLd Z23 4 rfl <| SFd Zdv Zgp rfl <| SLd Z49 4 rfl <| SCl [84] (Y04 _ _ hx12) Y6x rfl <| SCl [82, 85] (Zqe _ _ _ hx13) Zsy rfl <| SSt Z23 7 rfl <| Sc (lo [] [] rfl fun S hs hr => Z0j (A := rd (Z0 .i64) 0) rfl rfl (vk rfl)) rfl <| Sc (lo [] [] rfl fun S hs hr => Z0j (A := rd Z6 false) rfl rfl vb) rfl <| AW.ret ?_
      obtain rfl := si h
      exact Zi2 Tryz.results137 rfl (Z04 rfl (i := 7) rfl Z23) (Zf rfl) (Zf rfl)
    case hx4 =>
     refine AW.seq ?_
     obtain ⟨x14, hx14, h⟩ := Z1 h
     refine Rg <| Md rfl <| Ac (Z0t (xs := [.tmp 49, .const (Value.int IntKind.i64 2)]) (Ze5 _ _ _ hx14) Zfv rfl rfl ⟨vt rfl, vk rfl, trivial⟩) rfl <| Mt2 rfl <| Ac (Z28 rfl rfl (vt rfl)) rfl <| Ac (Z25 rfl rfl (vt rfl)) rfl <| Ct rfl (Zo 16 rfl rfl Z4s) ?_
     rintro _ ⟨g15, rfl⟩
     refine Zh Z4l 16 rfl <| As rfl <| Nl <| SR <| Md rfl <| Nl <| Cn rfl (fun hc => ?_) (fun hc => ?_)
     ·have h := Zj hc h
      obtain ⟨x16, hx16, h⟩ := Z1 h
      refine Rg <| Zt Zay Zf3 rfl <| Ld Z0d 4 rfl <| Zt Zsi Y86 rfl <| Ld Z00 16 rfl <| Zt Zpc Y7w rfl <| Ld Z00 16 rfl <| Ac (Z0t (xs := [.tmp 55, .const (Value.int IntKind.i64 1), .tmp 57, .tmp 59]) (Zft _ _ _ _ _ hx16) Zdh rfl rfl ⟨vt rfl, vk rfl, vt rfl, vt rfl, trivial⟩) rfl <| Zt Zay Zf3 rfl <| Zh Z0d 4 rfl <| Nl ?_
      exact ⟨{ b8 with got := x16 }, h, ⟨rfl, ⟨rfl, rfl, rfl, rfl, trivial⟩, ⟨rfl, rfl, trivial⟩⟩⟩
     ·have h := Zk hc h
      refine AW.skip ?_
      exact ⟨b8, h, ⟨rfl, ⟨rfl, rfl, rfl, rfl, trivial⟩, ⟨rfl, rfl, trivial⟩⟩⟩
   case hx3 =>
    refine AW.seq ?_
    obtain ⟨x17, hx17, h⟩ := Z1 h
    refine Rg <| Md rfl <| Ac (Z0t (xs := [.tmp 37, .const (Value.int IntKind.i64 3)]) (Ze5 _ _ _ hx17) Zfv rfl rfl ⟨vt rfl, vk rfl, trivial⟩) rfl <| Mt2 rfl <| Ac (Z28 rfl rfl (vt rfl)) rfl <| Ac (Z25 rfl rfl (vt rfl)) rfl <| Ct rfl (Zo 14 rfl rfl Z4s) ?_
    rintro _ ⟨g18, rfl⟩
    refine Zh Z4l 14 rfl <| As rfl <| Nl <| SR <| Md rfl <| Nl <| Cn rfl (fun hc => ?_) (fun hc => ?_)
    ·have h := Zj hc h
     obtain ⟨x19, hx19, h⟩ := Z1 h
     refine Rg <| Zt Zdv Zgp rfl <| Ld Z49 4 rfl <| Zt Z9i Zge rfl <| Ld Z49 14 rfl <| Cl [43, 45] (Y1q _ _ _ hx19) Y47 rfl <| Zt Zdv Zgp rfl <| Zh Z49 4 rfl <| Nl ?_
     exact ⟨{ b7 with set := x19 }, h, ⟨rfl, ⟨rfl, rfl, rfl, rfl, trivial⟩, ⟨rfl, rfl, trivial⟩⟩⟩
    ·have h := Zk hc h
     refine AW.skip ?_
     exact ⟨b7, h, ⟨rfl, ⟨rfl, rfl, rfl, rfl, trivial⟩, ⟨rfl, rfl, trivial⟩⟩⟩
  case hx2 =>
   refine AW.seq ?_
   obtain ⟨x20, hx20, h⟩ := Z1 h
   refine Rg <| Md rfl <| Ac (Z0t (xs := [.tmp 30, .const (Value.int IntKind.i64 5)]) (Ze5 _ _ _ hx20) Zfv rfl rfl ⟨vt rfl, vk rfl, trivial⟩) rfl <| Mt2 rfl <| Ac (Z28 rfl rfl (vt rfl)) rfl <| Ac (Z25 rfl rfl (vt rfl)) rfl <| Ct rfl (Zo 12 rfl rfl Z4s) ?_
   rintro _ ⟨g21, rfl⟩
   refine Zh Z4l 12 rfl <| As rfl <| Nl <| SR <| Md rfl <| Nl <| Cn rfl (fun hc => ?_) (fun hc => ?_)
   ·have h := Zj hc h
    refine Rg <| Zt Zdv Zgp rfl <| Ac (Zaq rfl rfl Z49 (vt rfl) (i := 4) rfl Z3h) rfl <| Nl ?_
    exact ⟨{ b6 with set := [] }, h, ⟨rfl, ⟨rfl, rfl, rfl, rfl, trivial⟩, ⟨rfl, rfl, trivial⟩⟩⟩
   ·have h := Zk hc h
    refine AW.skip ?_
    exact ⟨b6, h, ⟨rfl, ⟨rfl, rfl, rfl, rfl, trivial⟩, ⟨rfl, rfl, trivial⟩⟩⟩
 case hx1 =>
  refine AW.seq ?_
  obtain ⟨x22, hx22, h⟩ := Z1 h
  refine Rg <| Md rfl <| Ac (Z0t (xs := [.tmp 20, .const (Value.int IntKind.i64 4)]) (Ze5 _ _ _ hx22) Zfv rfl rfl ⟨vt rfl, vk rfl, trivial⟩) rfl <| Mt2 rfl <| Ac (Z28 rfl rfl (vt rfl)) rfl <| Ac (Z25 rfl rfl (vt rfl)) rfl <| Ct rfl (Zo 10 rfl rfl Z4s) ?_
  rintro _ ⟨g23, rfl⟩
  refine Zh Z4l 10 rfl <| As rfl <| Nl <| SR <| Md rfl <| Nl <| Cn rfl (fun hc => ?_) (fun hc => ?_)
  ·have h := Zj hc h
   obtain ⟨x24, hx24, h⟩ := Z1 h
   refine Rg <| Ld Z23 4 rfl <| Zt Z9i Zge rfl <| Ld Z49 10 rfl <| Cl [25, 27] (Zqe _ _ _ hx24) Zsy rfl <| Zh Z23 4 rfl <| Nl ?_
   exact ⟨x24, h, ⟨rfl, ⟨rfl, rfl, rfl, rfl, trivial⟩, ⟨rfl, rfl, trivial⟩⟩⟩
  ·have h := Zk hc h
   refine AW.skip ?_
   exact ⟨w1, h, ⟨rfl, ⟨rfl, rfl, rfl, rfl, trivial⟩, ⟨rfl, rfl, trivial⟩⟩⟩
def Z9q (s : List Atom) : Option (List Atom) := Z1o [] s
theorem Y8z (s : List Atom) (r : List Atom) (h : Z9q s = some r) : Con Tryz.prog 208 [rd (Z2 Z0a) s] emp (fun v => Za v) (fun v => Z9 v 126 Z0a r) := by
 refine Con.intro0 Tryz.func208 rfl Tryz.ntmps208 rfl fun w H => ?_
 unfold Z9q at h
 refine AW.newnil 1001 126 Z0a <| SR <| Ac (Z0j (A := Za (.slice none 0 0)) rfl rfl vc) rfl <| Nl <| AW.seq <| SR <| Md rfl <| Ct rfl (Zdx rfl rfl Z4y (vt rfl)) ?_
 rintro _ ⟨b, hb, rfl⟩
 refine Nl <| Cn rfl (fun hc => ?_) (fun hc => ?_)
 ·obtain rfl := hb hc
  refine SR <| Ac (Z0j (A := Za (.slice none 0 0)) rfl rfl vc) rfl <| Nl <| AW.ret ?_
  obtain rfl := (Z8f h).2
  exact Z4g (i := 1001) Tryz.results208 rfl rfl rfl
 ·refine AW.skip <| SR <| Ct rfl (Zf1 1002 (ps := []) (l := []) rfl rfl Z4y Zdb rfl rfl rfl rfl) ?_
  rintro _ ⟨v1, rfl⟩
  refine Md rfl <| Ct rfl (Z5t 1002 h rfl rfl Zkt (vt rfl) rfl (vt rfl)) ?_
  rintro _ ⟨v2, rfl⟩
  refine Aw rfl <| Nl <| AW.ret ?_
  exact Z4g (i := 1002) Tryz.results208 rfl rfl rfl
theorem Zuk (s : List Atom) (r : List Atom) (h : Z9q s = some r) : PCon Tryz.prog 208 [rd (Z2 Z0a) s] (rd (Z2 Z0a) r) := PCon.of_row (Y8z s r h)
def Zci (w1 : walk_way) : Option Rule :=
 (Z9q w1.atoms).bind fun x4 => some (⟨w1.cube, x4⟩ : Rule)
theorem Zqq (w1 : walk_way) (r : Rule) (h : Zci w1 = some r) : PCon Tryz.prog 138 [rd Z0c w1] (rd Zv r) := by
 refine PCon.of (Con.intro0 Tryz.func138 rfl Tryz.ntmps138 rfl fun w H => ?_)
 unfold Zci at h
 refine SR <| Ct rfl (Zs 2 rfl rfl (vt rfl)) ?_
 rintro _ ⟨g2, rfl⟩
 refine Ct rfl (Zo 3 rfl rfl Z6q) ?_
 rintro _ ⟨g3, rfl⟩
 refine Nl <| AW.seq ?_
 obtain ⟨x4, hx4, h⟩ := Z1 h
 refine AW.regionAny [⟨[1], [3], [], []⟩, ⟨[3], [4], [2], []⟩, ⟨[1], [5], [], []⟩, ⟨[5], [6], [2], []⟩, ⟨[6], [7], [], []⟩, ⟨[4, 7], [8], [], []⟩, ⟨[2, 8], [], [3], [3]⟩] Z05 (by kernel_rfl) <| SFd Zev Zlj rfl <| SLd Z01 2 rfl <| SFd Zby Zfn rfl <| SLd Z63 2 rfl <| SCl [6] (Zuk _ _ hx4) Zsk rfl <| Sc (lo [4, 7] [] rfl fun S hs hr => Z03 (ps := [(0, .tmp 4), (1, .tmp 7)]) (x := (⟨w1.cube, x4⟩ : Rule)) rfl rfl rfl (by kernel_rfl) Z6q ⟨_, _, Z98, _, by kernel_rfl, (vh hs 4 rfl rfl), _, _, Z9s, _, by kernel_rfl, (vh hs 7 rfl rfl), rfl⟩) rfl <| SSt Z3u 3 rfl <| AW.ret ?_
 obtain rfl := si h
 exact Zg Tryz.results138 rfl (Z04 rfl (i := 3) rfl Z3u)
def Zej (sg : Type) (go1 : Nat → (Lp sg) → Option (Bool × Lp sg)) (i11 : Nat) (s22 : (Lp sg)) (ok23 : Bool) : Option (Bool × Lp sg) :=
 (bif (!ok23) then some (false, s22) else go1 (i11 + 1) s22)
def Z4k (sg : Type) (w5 : walk_way) (y1 : (sg → Rule → Option (Lp sg))) (at4 : Int) (s3 : Switch) (R_walk_search_table : ((Lp sg) → Switch → Int → walk_way → Option (Bool × Lp sg))) : (List Int) → Nat → (Lp sg) → Option (Bool × Lp sg)
 | [], i11, s10 => (Zci w5).bind fun x13 => (yc y1 s10 x13).bind fun s14 => some ((Lp.isGo s14), s14)
 | x15 :: l12, i11, s10 => (chk 4 at4).bind fun j16 => (lget (Vector.get s3.Tables j16) x15).bind fun e17 => (Zfb w5 e17).bind fun x19 => (bif (!x19.2) then (Z4k sg w5 y1 at4 s3 R_walk_search_table l12) (i11 + 1) s10 else (Zg3 x19.1 at4 e17.Insts).bind fun x21 => (bif x21.2.2 then (R_walk_search_table s10 s3 x21.2.1 x21.1).bind fun b24 => Zej sg (Z4k sg w5 y1 at4 s3 R_walk_search_table l12) i11 b24.2 b24.1 else (Zci x21.1).bind fun x25 => (yc y1 s10 x25).bind fun s26 => Zej sg (Z4k sg w5 y1 at4 s3 R_walk_search_table l12) i11 s26 (Lp.isGo s26)))
def Zfa (sg : Type) (y1 : (sg → Rule → Option (Lp sg))) (R_walk_search_table : ((Lp sg) → Switch → Int → walk_way → Option (Bool × Lp sg))) (s2 : (Lp sg)) (s3 : Switch) (at4 : Int) (w5 : walk_way) : Option (Bool × Lp sg) :=
 (chk 4 at4).bind fun j7 => (Zew (Vector.get s3.Tables j7)).bind fun x8 => Z4k sg w5 y1 at4 s3 R_walk_search_table x8 0 s2
theorem Y3m (sg : Type) (y1 : (sg → Rule → Option (Lp sg))) (L : Lp sg → Zp) (R_walk_search_table : ((Lp sg) → Switch → Int → walk_way → Option (Bool × Lp sg))) (hR_walk_search_table : ∀ (s2 : (Lp sg)) (s3 : Switch) (at4 : Int) (w5 : walk_way) (r : (Bool × Lp sg)), R_walk_search_table s2 s3 at4 w5 = some r → Con Tryz.prog 76 [rp (ksp Z0v (ydA Tryz.prog Zv y1 L)) s3, rd (Z0 .i64) at4, rd Z0c w5] (L s2) (fun _ : Unit => rd Z6 r.1) (fun _ => L r.2)) (s2 : (Lp sg)) (s3 : Switch) (at4 : Int) (w5 : walk_way) (r : (Bool × Lp sg)) (h : Zfa sg y1 R_walk_search_table s2 s3 at4 w5 = some r) : Con Tryz.prog 76 [rp (ksp Z0v (ydA Tryz.prog Zv y1 L)) s3, rd (Z0 .i64) at4, rd Z0c w5] (L s2) (fun _ : Unit => rd Z6 r.1) (fun _ => L r.2) := by
 refine Con.intro Tryz.func76 rfl Tryz.ntmps76 rfl fun w H X => ?_
 unfold Zfa at h
 refine SR <| Ct rfl (Zs 6 rfl rfl (vt rfl)) ?_
 rintro _ ⟨g6, rfl⟩
 refine Ab rfl <| Nl <| AW.scope <| AW.seq <| AW.label <| AW.seq <| AW.seq ?_
 obtain ⟨j7, hj7, h⟩ := Z1 h
 obtain ⟨x8, hx8, h⟩ := Z1 h
 refine Rg <| Mr rfl <| Md rfl <| Ac (Zj0 rfl rfl (vt rfl)) rfl <| Ac (Zad (Zk4 Z0v (ydA Tryz.prog Zv y1 L)) rfl rfl (Zu5 _) (vt rfl)) rfl <| Fp Zak Zbu rfl <| Ac (Z5x rfl rfl Zd6 (vt rfl) (vt rfl) hj7) rfl <| Lp1 Z54 rfl <| Cl [20] (Y2t _ _ hx8) Y6l rfl <| Ac (Z0k rfl rfl Z14 (vt rfl)) rfl <| Mk rfl <| Nl <| AW.block <| AW.loopG (d := []) (ν := (List Int) × Nat × (Lp sg)) (fun n => Sfx x8 n.2.1 n.1 ∧ Z4k sg w5 y1 at4 s3 R_walk_search_table n.1 n.2.1 n.2.2 = some r) (fun n => n.1.length) (fun n => [(0, rp (ksp Z0v (ydA Tryz.prog Zv y1 L)) s3), (1, rd (Z0 .i64) at4), (5, Zb g6 (Lens.id Z0c)), (21, rd (Z2 (Z0 .i64)) x8), (22, rd (Z0 .i64) (x8.length : Int)), (23, rd (Z0 .i64) (n.2.1 : Int))]) (fun n => [(0, L n.2.2), (6, Zd g6 135 Z0c w5)]) (x8, 0, s2) ⟨Sfx.start _, h⟩ ⟨rfl, ⟨rfl, rfl, rfl, rfl, rfl, rfl, trivial⟩, ⟨rfl, rfl, trivial⟩⟩ ?_
 rintro ⟨l12, i11, s10⟩ ⟨hsf1, h⟩
 change Sfx x8 i11 l12 at hsf1
 change Z4k sg w5 y1 at4 s3 R_walk_search_table l12 i11 s10 = some r at h
 change AW _ _ _ ⟨Zw [(0, rp (ksp Z0v (ydA Tryz.prog Zv y1 L)) s3), (1, rd (Z0 .i64) at4), (5, Zb g6 (Lens.id Z0c)), (21, rd (Z2 (Z0 .i64)) x8), (22, rd (Z0 .i64) (x8.length : Int)), (23, rd (Z0 .i64) (i11 : Int))], Zx [(0, L s10), (6, Zd g6 135 Z0c w5)], _⟩
 cases l12 with
 | nil =>
  unfold Z4k at h
  refine SR <| Ac (Zi rfl rfl (vt rfl) (vt rfl)) rfl <| Nl <| AW.seq <| Cn rfl (fun hc => absurd (of_decide_eq_true hc) hsf1.nil) (fun hc => ?_)
  refine AW.exit <| AW.seq ?_
  obtain ⟨x13, hx13, h⟩ := Z1 h
  obtain ⟨s14, hs14, h⟩ := Z1 h
  refine AW.regionAny [⟨[0], [69], [], []⟩, ⟨[69], [70], [], []⟩, ⟨[70], [71], [], []⟩, ⟨[71], [72], [], []⟩, ⟨[5], [73], [6], []⟩, ⟨[73], [74], [], []⟩, ⟨[72, 74], [75], [0], [0]⟩, ⟨[75], [6], [], []⟩] Z05 (by kernel_rfl) <| Sc (lo [0] [] rfl fun S hs hr => Zq (A := rp (ksp Z0v (ydA Tryz.prog Zv y1 L)) s3) rfl rfl (vh hs 0 rfl rfl)) rfl <| Sc (lo [69] [] rfl fun S hs hr => Zj0 rfl rfl (vh hs 69 rfl rfl)) rfl <| Sc (lo [70] [] rfl fun S hs hr => Zad (Zmu Z0v (ydA Tryz.prog Zv y1 L)) rfl rfl (Zs1 _) (vh hs 70 rfl rfl)) rfl <| Sc (lo [71] [] rfl fun S hs hr => Zqb (A := ydA Tryz.prog Zv y1 L) rfl rfl rfl (Ztr _) (vh hs 71 rfl rfl)) rfl <| SLd Z23 6 rfl <| SCl [73] (Zqq _ _ hx13) Zrg rfl <| Sc (Z2e (us := [(75, rd Z6 (Lp.isGo s14))]) (ur := [(0, L s14)]) [72, 74] [0] rfl fun S hs hr => Zia 0 hs14 rfl rfl (vh hs 72 rfl rfl) (vh hs 74 rfl rfl) ((hr 0 rfl).trans rfl)) rfl <| SAs rfl <| AW.ret ?_
  obtain rfl := si h
  exact Zh1 (i := 0) Tryz.results76 rfl (Zf rfl) rfl
 | cons x15 l12 =>
  unfold Z4k at h
  generalize hgo1 : Z4k sg w5 y1 at4 s3 R_walk_search_table l12 = go1 at h
  refine SR <| Ac (Zi rfl rfl (vt rfl) (vt rfl)) rfl <| Nl <| AW.seq <| Cn rfl (fun hc => ?_) (fun hc => absurd hsf1.cons (of_decide_eq_false hc))
  have hlti11 := of_decide_eq_true hc
  refine AW.skip <| AW.seq <| AW.block <| SR <| Ac (Z10 rfl rfl Z14 (vt rfl) (vt rfl) hsf1.lget) rfl <| Lp1 Zu rfl <| As rfl <| Nl <| AW.seq ?_
  obtain ⟨j16, hj16, h⟩ := Z1 h
  obtain ⟨e17, he17, h⟩ := Z1 h
  refine Rg <| Mr rfl <| Md rfl <| Ac (Zj0 rfl rfl (vt rfl)) rfl <| Ac (Zad (Zk4 Z0v (ydA Tryz.prog Zv y1 L)) rfl rfl (Zu5 _) (vt rfl)) rfl <| Fp Zak Zbu rfl <| Ac (Z5x rfl rfl Zd6 (vt rfl) (vt rfl) hj16) rfl <| Lp1 Z54 rfl <| Md rfl <| Ac (Z10 rfl rfl Z47 (vt rfl) (vt rfl) he17) rfl <| Lp1 Zbm rfl <| Ct rfl (Zo 10 rfl rfl Zd1) ?_
  rintro _ ⟨g18, rfl⟩
  refine Zh Zbm 10 rfl <| Nl <| AW.seq ?_
  obtain ⟨x19, hx19, h⟩ := Z1 h
  refine Rg <| Ld Z23 6 rfl <| Ld Zbm 10 rfl <| Cl [38, 39] (Y5p _ _ _ hx19) Y8n rfl <| Mt2 rfl <| Ac (Z28 rfl rfl (vt rfl)) rfl <| Ac (Z25 rfl rfl (vt rfl)) rfl <| Ct rfl (Zo 11 rfl rfl Zc6) ?_
  rintro _ ⟨g20, rfl⟩
  refine Zh Z23 11 rfl <| As rfl <| Nl <| AW.seq <| SR <| Md rfl <| Ac (Z0x rfl rfl (vt rfl)) rfl <| Nl <| Cn rfl (fun hc => ?_) (fun hc => ?_)
  ·have h := Zj hc h
   refine AW.exit <| Rg <| Ac (Z17 (t := 22) rfl rfl (vt rfl) (vk rfl) (vt rfl) hlti11) rfl <| Md rfl <| Nl ?_
   subst hgo1
   exact ⟨(l12, i11 + 1, s10), Nat.lt_succ_self _, ⟨hsf1.next, h⟩, ⟨rfl, ⟨rfl, rfl, rfl, rfl, rfl, rfl, trivial⟩, ⟨rfl, rfl, trivial⟩⟩⟩
  ·have h := Zk hc h
   refine AW.skip <| AW.seq ?_
   obtain ⟨x21, hx21, h⟩ := Z1 h
   refine Rg <| Ld Z23 11 rfl <| Md rfl <| Zt Zdo Zrw rfl <| Ld Zp9 10 rfl <| Cl [46, 47, 49] (Y6p _ _ _ _ hx21) Y20 rfl <| Ac (Zq (A := Z2w (rd Z0c x21.1) (rd (Z0 .i64) x21.2.1) (rd Z6 x21.2.2)) rfl rfl (vt rfl)) rfl <| Ac (Zir rfl rfl (vt rfl)) rfl <| Ac (Ziv rfl rfl (vt rfl)) rfl <| Ac (Zic rfl rfl (vt rfl)) rfl <| Zh Z23 11 rfl <| As rfl <| As rfl <| Nl ?_
   refine AW.join (d := []) (ν := (Lp sg) × Bool) (fun n => Zej sg go1 i11 n.1 n.2 = some r) (fun n => [(0, rp (ksp Z0v (ydA Tryz.prog Zv y1 L)) s3), (1, rd (Z0 .i64) at4), (5, Zb g6 (Lens.id Z0c)), (11, rd Z6 n.2), (21, rd (Z2 (Z0 .i64)) x8), (22, rd (Z0 .i64) (x8.length : Int)), (23, rd (Z0 .i64) (i11 : Int))]) (fun n => [(0, L n.1), (6, Zd g6 135 Z0c w5)]) ?hx2 ?hy2
   case hy2 =>
    rintro ⟨s22, ok23⟩ h
    unfold Zej at h
    change AW _ _ _ ⟨Zw [(0, rp (ksp Z0v (ydA Tryz.prog Zv y1 L)) s3), (1, rd (Z0 .i64) at4), (5, Zb g6 (Lens.id Z0c)), (11, rd Z6 ok23), (21, rd (Z2 (Z0 .i64)) x8), (22, rd (Z0 .i64) (x8.length : Int)), (23, rd (Z0 .i64) (i11 : Int))], Zx [(0, L s22), (6, Zd g6 135 Z0c w5)], _⟩
    refine SR <| Md rfl <| Ac (Z0x rfl rfl (vt rfl)) rfl <| Nl <| Cn rfl (fun hc => ?_) (fun hc => ?_)
    ·have h := Zj hc h
     refine SR <| Ab rfl <| Nl <| AW.ret ?_
     obtain rfl := si h
     exact Zh1 (i := 0) Tryz.results76 rfl (Zf rfl) rfl
    ·have h := Zk hc h
     refine AW.skip <| Rg <| Ac (Z17 (t := 22) rfl rfl (vt rfl) (vk rfl) (vt rfl) hlti11) rfl <| Md rfl <| Nl ?_
     subst hgo1
     exact ⟨(l12, i11 + 1, s22), Nat.lt_succ_self _, ⟨hsf1.next, h⟩, ⟨rfl, ⟨rfl, rfl, rfl, rfl, rfl, rfl, trivial⟩, ⟨rfl, rfl, trivial⟩⟩⟩
   case hx2 =>
    refine SR <| Md rfl <| Nl <| Cn rfl (fun hc => ?_) (fun hc => ?_)
    ·have h := Zj hc h
     obtain ⟨b24, hb24, h⟩ := Z1 h
     refine Rg <| Mr rfl <| Md rfl <| Ld Z23 11 rfl <| Ct rfl (Z12 0 (xs := [.tmp 55, .tmp 56, .tmp 57]) (hR_walk_search_table _ _ _ _ _ hb24) e76 rfl rfl ⟨vt rfl, vt rfl, vt rfl, trivial⟩ rfl) ?_
     rintro _ ⟨_u, rfl⟩
     refine As rfl <| Nl ?_
     exact ⟨(b24.2, b24.1), h, ⟨rfl, ⟨rfl, rfl, rfl, rfl, rfl, rfl, rfl, trivial⟩, ⟨rfl, rfl, trivial⟩⟩⟩
    ·have h := Zk hc h
     obtain ⟨x25, hx25, h⟩ := Z1 h
     obtain ⟨s26, hs26, h⟩ := Z1 h
     refine AW.regionAny [⟨[0], [59], [], []⟩, ⟨[59], [60], [], []⟩, ⟨[60], [61], [], []⟩, ⟨[61], [62], [], []⟩, ⟨[10], [63], [11], []⟩, ⟨[63], [64], [], []⟩, ⟨[62, 64], [65], [0], [0]⟩, ⟨[65], [11], [], []⟩] Z05 (by kernel_rfl) <| Sc (lo [0] [] rfl fun S hs hr => Zq (A := rp (ksp Z0v (ydA Tryz.prog Zv y1 L)) s3) rfl rfl (vh hs 0 rfl rfl)) rfl <| Sc (lo [59] [] rfl fun S hs hr => Zj0 rfl rfl (vh hs 59 rfl rfl)) rfl <| Sc (lo [60] [] rfl fun S hs hr => Zad (Zmu Z0v (ydA Tryz.prog Zv y1 L)) rfl rfl (Zs1 _) (vh hs 60 rfl rfl)) rfl <| Sc (lo [61] [] rfl fun S hs hr => Zqb (A := ydA Tryz.prog Zv y1 L) rfl rfl rfl (Ztr _) (vh hs 61 rfl rfl)) rfl <| SLd Z23 11 rfl <| SCl [63] (Zqq _ _ hx25) Zrg rfl <| Sc (Z2e (us := [(65, rd Z6 (Lp.isGo s26))]) (ur := [(0, L s26)]) [62, 64] [0] rfl fun S hs hr => Zia 0 hs26 rfl rfl (vh hs 62 rfl rfl) (vh hs 64 rfl rfl) ((hr 0 rfl).trans rfl)) rfl <| SAs rfl ?_
     exact ⟨(s26, (Lp.isGo s26)), h, ⟨rfl, ⟨rfl, rfl, rfl, rfl, rfl, rfl, rfl, trivial⟩, ⟨rfl, rfl, trivial⟩⟩⟩
def Z9t (sg : Type) (y1 : (sg → Rule → Option (Lp sg))) : Nat → ((Lp sg) → Switch → Int → walk_way → Option (Bool × Lp sg))
 | 0 => (fun _ _ _ _ => none)
 | n + 1 => Zfa sg y1 (Z9t sg y1 n)
theorem Zpm (sg : Type) (y1 : (sg → Rule → Option (Lp sg))) (L : Lp sg → Zp) : ∀ n : Nat, (∀ (s2 : (Lp sg)) (s3 : Switch) (at4 : Int) (w5 : walk_way) (r : (Bool × Lp sg)), (Z9t sg y1 n) s2 s3 at4 w5 = some r → Con Tryz.prog 76 [rp (ksp Z0v (ydA Tryz.prog Zv y1 L)) s3, rd (Z0 .i64) at4, rd Z0c w5] (L s2) (fun _ : Unit => rd Z6 r.1) (fun _ => L r.2))
 | 0 => (by intros; rename_i h; cases h)
 | n + 1 => Y3m sg y1 L (Z9t sg y1 n) (Zpm sg y1 L n)
def Znh (sg : Type) (y1 : (sg → Rule → Option (Lp sg))) (s2 : (Lp sg)) (s3 : Switch) (at4 : Int) (w5 : walk_way) : Option (Bool × Lp sg) := Z9t sg y1 Z18 s2 s3 at4 w5
theorem Y6m (sg : Type) (y1 : (sg → Rule → Option (Lp sg))) (L : Lp sg → Zp) : ∀ (s2 : (Lp sg)) (s3 : Switch) (at4 : Int) (w5 : walk_way) (r : (Bool × Lp sg)), (Znh sg y1) s2 s3 at4 w5 = some r → Con Tryz.prog 76 [rp (ksp Z0v (ydA Tryz.prog Zv y1 L)) s3, rd (Z0 .i64) at4, rd Z0c w5] (L s2) (fun _ : Unit => rd Z6 r.1) (fun _ => L r.2) := Zpm sg y1 L Z18
def Zao (sg : Type) (yield1 : (sg → Rule → Option (Lp sg))) (s2 : (Lp sg)) (cp3 : Switch) : Option (Lp sg) :=
 (Zc9).bind fun x5 => (Zbc).bind fun x6 => (Znh sg yield1 s2 cp3 0 (⟨x5, x6, [], []⟩ : walk_way)).bind fun b7 => some b7.2
theorem Zwo (sg : Type) (yield1 : (sg → Rule → Option (Lp sg))) (L : Lp sg → Zp) (s2 : (Lp sg)) (cp3 : Switch) (r : (Lp sg)) (h : Zao sg yield1 s2 cp3 = some r) : Con Tryz.prog 75 [ydA Tryz.prog Zv yield1 L, rp Z0v cp3] (L s2) (fun _ : Unit => top) (fun _ => L r) := by
 refine Con.intro Tryz.func75 rfl Tryz.ntmps75 rfl fun w H X => ?_
 unfold Zao at h
 refine SR <| Lp1 Z48 rfl <| Ac (Zq (A := ydA Tryz.prog Zv yield1 L) rfl rfl (vt rfl)) rfl <| Ac (Y6o (x := cp3) rfl rfl (by kernel_rfl) Y1y (by kernel_rfl) (by kernel_rfl) (vt rfl) rfl) rfl <| Ac (Y7v rfl rfl (vt rfl)) rfl <| Ac (Z0j (A := rp (ksp Z0v (ydA Tryz.prog Zv yield1 L)) cp3) rfl rfl (vt rfl)) rfl <| Nl ?_
 obtain ⟨x5, hx5, h⟩ := Z1 h
 obtain ⟨x6, hx6, h⟩ := Z1 h
 obtain ⟨b7, hb7, h⟩ := Z1 h
 refine Rg <| Mr rfl <| Cl [] (Zow _ hx5) e73 rfl <| Cl [] (Zuh _ hx6) e77 rfl <| Ac (Z03 (ps := [(0, .tmp 9), (1, .tmp 10)]) (x := (⟨x5, x6, [], []⟩ : walk_way)) rfl rfl rfl (by kernel_rfl) Zc6 ⟨_, _, Zev, _, by kernel_rfl, (vt rfl), _, _, Zay, _, by kernel_rfl, (vt rfl), rfl⟩) rfl <| Ct rfl (Z12 0 (xs := [.tmp 8, .const (Value.int IntKind.i64 0), .tmp 11]) (Y6m sg yield1 L _ _ _ _ _ hb7) e76 rfl rfl ⟨vt rfl, vk rfl, vt rfl, trivial⟩ rfl) ?_
 rintro _ ⟨_u, rfl⟩
 refine Nl ?_
 obtain rfl := si h
 exact Z1t (i := 0) Tryz.results75 rfl rfl
def Zhd (s1 : Switch) : Option (Itr Rule) :=
 some (Itr.mk fun σ y s => Zao σ y s s1)
theorem Zvv (s1 : Switch) (r : (Itr Rule)) (h : Zhd s1 = some r) : PCon Tryz.prog 22 [rd Z0v s1] (Z4e Tryz.prog Zv r) := by
 refine PCon.of (Con.intro0 Tryz.func22 rfl Tryz.ntmps22 rfl fun w H => ?_)
 unfold Zhd at h
 refine SR <| Ct rfl (Zs 2 rfl rfl (vt rfl)) ?_
 rintro _ ⟨g2, rfl⟩
 refine Ac (Z0j (A := Za .nilFunc) rfl rfl vc) rfl <| Nl <| AW.seq <| AW.freezeB 1 2 rfl rfl rfl <| Rg <| Ac (Zrz (Itr.mk fun σ y s => Zao σ y s s1) (cs := [.tmp 1]) (CAs := [rp Z0v s1]) rfl rfl e75 ⟨vt rfl, trivial⟩ (fun σ y L s r h => Zwo σ y L s s1 r h)) rfl <| Ac (Z0j (A := Z4e Tryz.prog Zv (Itr.mk fun σ y s => Zao σ y s s1)) rfl rfl (vt rfl)) rfl <| Nl <| AW.ret ?_
 obtain rfl := si h
 exact Zg Tryz.results22 rfl (Zf rfl)
def Zil (q : Itr Rule) : Option (List Rule) := Zid q
theorem Y80 (q : Itr Rule) (r : List Rule) (h : Zil q = some r) : Con Tryz.prog 146 [Za (.slice none 0 0), Z4e Tryz.prog Zv q] emp (fun v => Za v) (fun v => Z9 v 90 Zv r) := by
 refine Con.intro0 Tryz.func146 rfl Tryz.ntmps146 rfl fun w H => ?_
 have h := Y5b h
 refine AW.newnil 1001 90 Zv <| SR <| Ct rfl (Zs (k := kraw) 3 rfl rfl (vkr (vt rfl) rfl)) ?_
 rintro _ ⟨g, rfl⟩
 refine Ac (Z0j (A := Za (.slice none 0 0)) rfl rfl vc) rfl <| AOps.pack 3 1001 (by decide) rfl rfl <| Nl <| AW.seq <| SR <| Ac (Zq (A := Z4e Tryz.prog Zv q) rfl rfl (vt rfl)) rfl <| Nl <| AW.block <| AW.fit (d := []) (L := [(2, Zb g (Lens.id kraw)), (6, Z4e Tryz.prog Zv q)]) (M := [(3, Z7f g 32 90 Zv [])]) ⟨rfl, ⟨rfl, rfl, trivial⟩, ⟨rfl, trivial⟩⟩ ?_
 refine AW.rangeFunc (fun x => [rd Zv x]) Zfq (fun s => Zx [(3, Z7f g 32 90 Zv s)]) (fun _ _ => Zx []) [(2, Zb g (Lens.id kraw))]
  (fun s x S1 => ∃ g5, Fit S1 [] [(2, Zb g (Lens.id kraw)), (5, Zb g5 (Lens.id Zv))] [(3, Z7f g 32 90 Zv s), (6, Zd g5 90 Zv x)]) 1003 (s0 := []) (sE := .go r)
  rfl (vt rfl) ⟨rfl, inferInstance, trivial⟩ rfl (fun _ => rfl) (by intro p hp; have hp : p ∈ [7] := hp; rw [List.mem_singleton.1 hp]; show 7 < 13; decide) ?ha ?hb (fun Lf => ⟨top, _, _, Lf, _, _, h, rfl, rfl, rfl, rfl⟩) ?he
 case ha =>
  intro s x r' hF l w H X
  refine Rg <| Ct rfl (Zo 6 rfl rfl Z6q) ?_
  rintro _ ⟨g5, rfl⟩
  refine Zh Z3u 6 rfl <| Nl ?_
  exact ⟨rfl, g5, rfl, ⟨rfl, rfl, trivial⟩, ⟨rfl, rfl, trivial⟩⟩
 case hb =>
  rintro s x r' hF S1 ⟨g5, hfit⟩ l w H X
  refine AW.fit hfit <| AW.bodyOf (M := fun s => [(3, Z7f g 32 90 Zv s)]) (Mx := fun _ _ => []) ?_
  obtain ⟨m, hm, hF⟩ := Z1 hF
  cases hF
  refine AW.block <| AW.unbox 3 1001 (by decide) rfl rfl fun v => Rg <| Ac (Zqd (i := 3) rfl rfl Zjo (vt rfl) rfl) rfl <| Ld Z3u 6 rfl <| Ac (Z3k (ps := [(0, .tmp 9)]) (l := [x]) rfl rfl Z2f Z6q rfl rfl ⟨_, _, Lens.idx 1 Zv 0 (by decide), _, rfl, vt rfl, rfl⟩ rfl) rfl <| Ct rfl (Z5t 1001 hm rfl rfl Zmp (vt rfl) rfl (vt rfl)) ?_
  rintro _ ⟨v2, rfl⟩
  refine Ac (Zaq rfl rfl Zjo (vt rfl) (i := 3) rfl (Zy0 (i := 1001) rfl rfl)) rfl <| AOps.pack 3 1001 (by decide) rfl rfl <| Nl ?_
  exact ⟨_, rfl, rfl, trivial⟩
 case he =>
  intro D
  refine AW.unbox 3 1001 (by decide) rfl rfl fun v => SR <| Ac (Zqd (i := 3) rfl rfl Zjo (vt rfl) rfl) rfl <| Aw rfl <| Nl <| AW.ret ?_
  exact ⟨rfl, 1003, rfl, Z4g (i := 1001) Tryz.results146 rfl rfl rfl⟩
theorem Y0q (q : Itr Rule) (r : List Rule) (h : Zil q = some r) : PCon Tryz.prog 146 [Za (.slice none 0 0), Z4e Tryz.prog Zv q] (rd (Z2 Zv) r) := PCon.of_row (Y80 q r h)
def Zhq (seq1 : (Itr Rule)) : Option (List Rule) :=
 (Zil seq1).bind fun x2 => some x2
theorem Zyv (seq1 : (Itr Rule)) (r : (List Rule)) (h : Zhq seq1 = some r) : PCon Tryz.prog 85 [Z4e Tryz.prog Zv seq1] (rd (Z2 Zv) r) := by
 refine PCon.of (Con.intro0 Tryz.func85 rfl Tryz.ntmps85 rfl fun w H => ?_)
 unfold Zhq at h
 refine SR <| Ac (Z0j (A := rd (Z2 Zv) []) rfl rfl Z3h) rfl <| Nl <| AW.seq ?_
 obtain ⟨x2, hx2, h⟩ := Z1 h
 refine Rg <| Ac (Zq (A := Z4e Tryz.prog Zv seq1) rfl rfl (vt rfl)) rfl <| Ac (Z0t (xs := [.const (Value.slice none 0 0), .tmp 3]) (Y0q _ _ hx2) Zx8 rfl rfl ⟨vc, vt rfl, trivial⟩) rfl <| As rfl <| Nl <| AW.ret ?_
 obtain rfl := si h
 exact Zg Tryz.results85 rfl (Zf rfl)
def Zah (s1 : Switch) : Option (List Rule) :=
 (Zhd s1).bind fun x3 => (Zhq x3).bind fun x4 => some x4
theorem Zr2 (s1 : Switch) (r : (List Rule)) (h : Zah s1 = some r) : PCon Tryz.prog 25 [rd Z0v s1] (rd (Z2 Zv) r) := by
 refine PCon.of (Con.intro0 Tryz.func25 rfl Tryz.ntmps25 rfl fun w H => ?_)
 unfold Zah at h
 refine SR <| Ct rfl (Zs 2 rfl rfl (vt rfl)) ?_
 rintro _ ⟨g2, rfl⟩
 refine Ac (Z0j (A := rd (Z2 Zv) []) rfl rfl Z3h) rfl <| Nl <| AW.seq ?_
 obtain ⟨x3, hx3, h⟩ := Z1 h
 obtain ⟨x4, hx4, h⟩ := Z1 h
 refine Rg <| Ld Z48 2 rfl <| Cl [3] (Zvv _ _ hx3) e22 rfl <| Cl [4] (Zyv _ _ hx4) e85 rfl <| As rfl <| Nl <| AW.ret ?_
 obtain rfl := si h
 exact Zg Tryz.results25 rfl (Zf rfl)
end Go.Proofs.YtknpgojdkobgjaaGreat.W
set_option maxRecDepth 4000
namespace Go.Proofs.YtknpgojdkobgjaaGreat.W
open Go Go.Wb
theorem e25 : Ent Tryz.prog 25 := Ent.mk Tryz.func25 rfl rfl
theorem e60 : Ent Tryz.prog 60 := Ent.mk Tryz.func60 rfl rfl
theorem Zvg : Ent Tryz.prog 198 := Ent.mk Tryz.func198 rfl rfl
theorem Zqf : Ent Tryz.prog 165 := Ent.mk Tryz.func165 rfl rfl
theorem Zzk : Ent Tryz.prog 256 := Ent.mk Tryz.func256 rfl rfl
theorem Y3k : Ent Tryz.prog 257 := Ent.mk Tryz.func257 rfl rfl
theorem Zy7 : Ent Tryz.prog 199 := Ent.mk Tryz.func199 rfl rfl
def Z6v : (List (List Flow)) → Nat → Int → Option Int
 | [], i5, n4 => some (Z32 n4 1099511627776)
 | x7 :: l6, i5, n4 => (Z7z .i64 1099511627776 n4).bind fun q8 => (bif (decide ((x7.length : Int) ≥ q8)) then some 1099511627776 else (Z6v l6) (i5 + 1) (IntKind.i64.wrap (n4 * (IntKind.i64.wrap ((x7.length : Int) + 1)))))
def Zh4 (s1 : Switch) : Option Int :=
 Z6v (Vector.toList s1.Tables) 0 1
theorem Y0t (s1 : Switch) (r : Int) (h : Zh4 s1 = some r) : PCon Tryz.prog 60 [rd Z0v s1] (rd (Z0 .i64) r) := by
 refine PCon.of (Con.intro0 Tryz.func60 rfl Tryz.ntmps60 rfl fun w H => ?_)
 unfold Zh4 at h
 refine SR <| Ct rfl (Zs 2 rfl rfl (vt rfl)) ?_
 rintro _ ⟨g2, rfl⟩
 refine Ak rfl <| Nl <| SR <| Ak rfl <| Nl <| AW.seq <| SR <| Zt Zak Zbu rfl <| Ld Zse 2 rfl <| Mk rfl <| Nl <| AW.block <| AW.loopG (d := []) (ν := (List (List Flow)) × Nat × Int) (fun n => Sfx (Vector.toList s1.Tables) n.2.1 n.1 ∧ Z6v n.1 n.2.1 n.2.2 = some r) (fun n => n.1.length) (fun n => [(3, rd (Z0 .i64) n.2.2), (7, rd (Z3 4 (Z2 Z0o)) s1.Tables), (8, rd (Z0 .i64) (n.2.1 : Int))]) (fun n => []) ((Vector.toList s1.Tables), 0, 1) ⟨Sfx.start _, h⟩ ⟨rfl, ⟨rfl, rfl, rfl, trivial⟩, trivial⟩ ?_
 rintro ⟨l6, i5, n4⟩ ⟨hsf1, h⟩
 change Sfx (Vector.toList s1.Tables) i5 l6 at hsf1
 change Z6v l6 i5 n4 = some r at h
 change AW _ _ _ ⟨Zw [(3, rd (Z0 .i64) n4), (7, rd (Z3 4 (Z2 Z0o)) s1.Tables), (8, rd (Z0 .i64) (i5 : Int))], Zx [], _⟩
 cases l6 with
 | nil =>
  unfold Z6v at h
  refine SR <| Ac (Zi rfl rfl (vt rfl) (vk rfl)) rfl <| Nl <| AW.seq <| Cn rfl (fun hc => absurd (of_decide_eq_true hc) (hsf1.niln (by simp))) (fun hc => ?_)
  refine AW.exit <| SR <| Md rfl <| Ac (Zj2 rfl rfl (vt rfl) (vk rfl)) rfl <| As rfl <| Nl <| AW.ret ?_
  obtain rfl := si h
  exact Zg Tryz.results60 rfl (Zf rfl)
 | cons x7 l6 =>
  unfold Z6v at h
  generalize hgo1 : Z6v l6 = go1 at h
  refine SR <| Ac (Zi rfl rfl (vt rfl) (vk rfl)) rfl <| Nl <| AW.seq <| Cn rfl (fun hc => ?_) (fun hc => absurd (hsf1.consn (by simp)) (of_decide_eq_false hc))
  have hlti5 := of_decide_eq_true hc
  refine AW.skip <| AW.seq <| AW.block <| SR <| Ac (Z8i rfl rfl Zd6 Z54 (vt rfl) (vt rfl) hsf1.lget) rfl <| As rfl <| Nl <| AW.seq <| AW.seq ?_
  obtain ⟨q8, hq8, h⟩ := Z1 h
  refine Rg <| Md rfl <| Ac (Z0k rfl rfl Z47 (vt rfl)) rfl <| Md rfl <| Ac (Zti rfl rfl (vk rfl) (vt rfl) hq8) rfl <| Ac (Z4n rfl rfl (vt rfl) (vt rfl)) rfl <| Nl <| Cn rfl (fun hc => ?_) (fun hc => ?_)
  ·have h := Zj hc h
   refine SR <| Ak rfl <| Nl <| AW.ret ?_
   obtain rfl := si h
   exact Zg Tryz.results60 rfl (Zf rfl)
  ·have h := Zk hc h
   refine AW.skip <| Rg <| Md rfl <| Md rfl <| Ac (Z0k rfl rfl Z47 (vt rfl)) rfl <| Ac (Z0e rfl rfl (vt rfl) (vk rfl)) rfl <| Ac (Z6d rfl rfl (vt rfl) (vt rfl)) rfl <| As rfl <| Nl <| Rg <| Ac (Z5q rfl rfl (vt rfl) (vk rfl) rfl hlti5) rfl <| Md rfl <| Nl ?_
   subst hgo1
   exact ⟨(l6, i5 + 1, (IntKind.i64.wrap (n4 * (IntKind.i64.wrap ((x7.length : Int) + 1))))), Nat.lt_succ_self _, ⟨hsf1.next, h⟩, ⟨rfl, ⟨rfl, rfl, rfl, trivial⟩, trivial⟩⟩
def Z7d (s1 : (List Flow)) (f2 : (Flow → Option Bool)) : Nat → Nat → Option Int
 | 0, i3 => some (-1)
 | m4 + 1, i3 => (lget s1 (i3 : Int)).bind fun e5 => (f2 e5).bind fun x6 => (bif x6 then some (i3 : Int) else (Z7d s1 f2 m4) (i3 + 1))
def Zfs (s1 : (List Flow)) (f2 : (Flow → Option Bool)) : Option Int :=
 Z7d s1 f2 ((s1.length : Int) : Int).toNat 0
theorem Y3s (s1 : (List Flow)) (f2 : (Flow → Option Bool)) (r : Int) (h : Zfs s1 f2 = some r) : PCon Tryz.prog 198 [rd (Z2 Z0o) s1, fn1 Tryz.prog Z0o Z6 f2] (rd (Z0 .i64) r) := by
 refine PCon.of (Con.intro0 Tryz.func198 rfl Tryz.ntmps198 rfl fun w H => ?_)
 unfold Zfs at h
 refine SR <| Ak rfl <| Nl <| AW.seq <| SR <| Md rfl <| Ac (Z0k rfl rfl Z47 (vt rfl)) rfl <| Mk rfl <| Nl <| AW.block <| AW.loopG (d := []) (ν := Nat × Nat) (fun n => Cnt (s1.length : Int) n.2 n.1 ∧ Z7d s1 f2 n.1 n.2 = some r) (fun n => n.1) (fun n => [(0, rd (Z2 Z0o) s1), (1, fn1 Tryz.prog Z0o Z6 f2), (7, rd (Z0 .i64) (s1.length : Int)), (8, rd (Z0 .i64) (n.2 : Int))]) (fun n => []) (((s1.length : Int) : Int).toNat, 0) ⟨Cnt.start _, h⟩ ⟨rfl, ⟨rfl, rfl, rfl, rfl, trivial⟩, trivial⟩ ?_
 rintro ⟨m4, i3⟩ ⟨hsf1, h⟩
 change Cnt (s1.length : Int) i3 m4 at hsf1
 change Z7d s1 f2 m4 i3 = some r at h
 change AW _ _ _ ⟨Zw [(0, rd (Z2 Z0o) s1), (1, fn1 Tryz.prog Z0o Z6 f2), (7, rd (Z0 .i64) (s1.length : Int)), (8, rd (Z0 .i64) (i3 : Int))], Zx [], _⟩
 cases m4 with
 | zero =>
  unfold Z7d at h
  refine SR <| Ac (Zi rfl rfl (vt rfl) (vt rfl)) rfl <| Nl <| AW.seq <| Cn rfl (fun hc => absurd (of_decide_eq_true hc) hsf1.zero) (fun hc => ?_)
  refine AW.exit <| SR <| Ak rfl <| Nl <| AW.ret ?_
  obtain rfl := si h
  exact Zg Tryz.results198 rfl (Zf rfl)
 | succ m4 =>
  unfold Z7d at h
  generalize hgo1 : Z7d s1 f2 m4 = go1 at h
  refine SR <| Ac (Zi rfl rfl (vt rfl) (vt rfl)) rfl <| Nl <| AW.seq <| Cn rfl (fun hc => ?_) (fun hc => absurd hsf1.succ (of_decide_eq_false hc))
  have hlti3 := of_decide_eq_true hc
  refine AW.skip <| AW.seq <| AW.block <| SR <| Md rfl <| As rfl <| Nl <| AW.seq ?_
  obtain ⟨e5, he5, h⟩ := Z1 h
  obtain ⟨x6, hx6, h⟩ := Z1 h
  refine Rg <| Ac (Zq (A := fn1 Tryz.prog Z0o Z6 f2) rfl rfl (vt rfl)) rfl <| Md rfl <| Md rfl <| Ac (Z10 rfl rfl Z47 (vt rfl) (vt rfl) he5) rfl <| Lp1 Zbm rfl <| Ac (Z8s hx6 rfl rfl (vt rfl) (vt rfl)) rfl <| Nl <| Cn rfl (fun hc => ?_) (fun hc => ?_)
  ·have h := Zj hc h
   refine SR <| Md rfl <| As rfl <| Nl <| AW.ret ?_
   obtain rfl := si h
   exact Zg Tryz.results198 rfl (Zf rfl)
  ·have h := Zk hc h
   refine AW.skip <| Rg <| Ac (Z17 (t := 7) rfl rfl (vt rfl) (vk rfl) (vt rfl) hlti3) rfl <| Md rfl <| Nl ?_
   subst hgo1
   exact ⟨(m4, i3 + 1), Nat.lt_succ_self _, ⟨hsf1.next, h⟩, ⟨rfl, ⟨rfl, rfl, rfl, rfl, trivial⟩, trivial⟩⟩
def Zf6 (s1 : (List Flow)) (f2 : (Flow → Option Bool)) : Option Bool :=
 (Zfs s1 f2).bind fun x3 => some (decide (x3 ≥ 0))
theorem Y92 (s1 : (List Flow)) (f2 : (Flow → Option Bool)) (r : Bool) (h : Zf6 s1 f2 = some r) : PCon Tryz.prog 132 [rd (Z2 Z0o) s1, fn1 Tryz.prog Z0o Z6 f2] (rd Z6 r) := by
 refine PCon.of (Con.intro0 Tryz.func132 rfl Tryz.ntmps132 rfl fun w H => ?_)
 unfold Zf6 at h
 refine SR <| Ab rfl <| Nl <| AW.seq ?_
 obtain ⟨x3, hx3, h⟩ := Z1 h
 refine Rg <| Md rfl <| Ac (Zq (A := fn1 Tryz.prog Z0o Z6 f2) rfl rfl (vt rfl)) rfl <| Cl [5, 6] (Y3s _ _ _ hx3) Zvg rfl <| Ac (Z4n rfl rfl (vt rfl) (vk rfl)) rfl <| As rfl <| Nl <| AW.ret ?_
 obtain rfl := si h
 exact Zg Tryz.results132 rfl (Zf rfl)
def Zdl (s1 : (List Inst)) (f2 : (Inst → Option Bool)) : Option Bool :=
 (Zbx s1 f2).bind fun x3 => some (decide (x3 ≥ 0))
theorem Y6q (s1 : (List Inst)) (f2 : (Inst → Option Bool)) (r : Bool) (h : Zdl s1 f2 = some r) : PCon Tryz.prog 256 [rd (Z2 Z0s) s1, fn1 Tryz.prog Z0s Z6 f2] (rd Z6 r) := by
 refine PCon.of (Con.intro0 Tryz.func256 rfl Tryz.ntmps256 rfl fun w H => ?_)
 unfold Zdl at h
 refine SR <| Ab rfl <| Nl <| AW.seq ?_
 obtain ⟨x3, hx3, h⟩ := Z1 h
 refine Rg <| Md rfl <| Ac (Zq (A := fn1 Tryz.prog Z0s Z6 f2) rfl rfl (vt rfl)) rfl <| Cl [5, 6] (Zv1 _ _ _ hx3) Zsq rfl <| Ac (Z4n rfl rfl (vt rfl) (vk rfl)) rfl <| As rfl <| Nl <| AW.ret ?_
 obtain rfl := si h
 exact Zg Tryz.results256 rfl (Zf rfl)
def Zif (l1 : (List Action)) : Option Bool :=
 some (decide ((l1.length : Int) ≤ 12))
theorem Zuz (l1 : (List Action)) (r : Bool) (h : Zif l1 = some r) : PCon Tryz.prog 165 [rd (Z2 Z5) l1] (rd Z6 r) := by
 refine PCon.of (Con.intro0 Tryz.func165 rfl Tryz.ntmps165 rfl fun w H => ?_)
 unfold Zif at h
 refine SR <| Ab rfl <| Nl <| SR <| Md rfl <| Ac (Z0k rfl rfl Z0n (vt rfl)) rfl <| Ac (Z5y rfl rfl (vt rfl) (vk rfl)) rfl <| As rfl <| Nl <| AW.ret ?_
 obtain rfl := si h
 exact Zg Tryz.results165 rfl (Zf rfl)
def Zht (i1 : Inst) : Option Bool :=
 (Zif i1.Acts).bind fun x3 => some (!x3)
theorem Y4h (i1 : Inst) (r : Bool) (h : Zht i1 = some r) : PCon Tryz.prog 257 [rd Z0s i1] (rd Z6 r) := by
 refine PCon.of (Con.intro0 Tryz.func257 rfl Tryz.ntmps257 rfl fun w H => ?_)
 unfold Zht at h
 refine SR <| Ct rfl (Zs 2 rfl rfl (vt rfl)) ?_
 rintro _ ⟨g2, rfl⟩
 refine Ab rfl <| Nl <| AW.seq ?_
 obtain ⟨x3, hx3, h⟩ := Z1 h
 refine Rg <| Zt Z9i Zge rfl <| Ld Z49 2 rfl <| Cl [4] (Zuz _ _ hx3) Zqf rfl <| Ac (Z0x rfl rfl (vt rfl)) rfl <| As rfl <| Nl <| AW.ret ?_
 obtain rfl := si h
 exact Zg Tryz.results257 rfl (Zf rfl)
def Zdn (l1 : (List Inst)) : Option Bool :=
 (opt (decide ((l1.length : Int) ≤ 8)) (Zdl l1 Zht)).bind fun x2 => some ((decide ((l1.length : Int) ≤ 8)) && (!x2))
theorem Y4m (l1 : (List Inst)) (r : Bool) (h : Zdn l1 = some r) : PCon Tryz.prog 199 [rd (Z2 Z0s) l1] (rd Z6 r) := by
 refine PCon.of (Con.intro0 Tryz.func199 rfl Tryz.ntmps199 rfl fun w H => ?_)
 unfold Zdn at h
 refine SR <| Ab rfl <| Nl <| AW.seq ?_
 obtain ⟨x2, hx2, h⟩ := Z1 h
 refine Rg <| Md rfl <| Ac (Z0k rfl rfl Zbv (vt rfl)) rfl <| Ac (Z5y rfl rfl (vt rfl) (vk rfl)) rfl <| Md rfl <| Gd rfl (fun hq => Zq (A := rd (Z2 Z0s) l1) rfl rfl (vt rfl)) <| Gd rfl (fun hq => Z0t (xs := [.tmp 7, .func 257]) (Y6q _ _ _ (Z1m hx2 hq)) Zzk rfl rfl ⟨Zm rfl hq, vf1 Y3k Y4h, trivial⟩) <| Gd rfl (fun hq => Z0x rfl rfl (Zm rfl hq)) <| Ac (Z16 rfl rfl (vt rfl) (vt rfl)) rfl <| As rfl <| Nl <| AW.ret ?_
 obtain rfl := si h
 exact Zg Tryz.results199 rfl (Zf rfl)
def Zf4 (f1 : Flow) : Option Bool :=
 (opt (decide ((f1.Match.length : Int) ≤ 30)) (Zdn f1.Insts)).bind fun x3 => some ((decide ((f1.Match.length : Int) ≤ 30)) && x3)
theorem Y3h (f1 : Flow) (r : Bool) (h : Zf4 f1 = some r) : PCon Tryz.prog 134 [rd Z0o f1] (rd Z6 r) := by
 refine PCon.of (Con.intro0 Tryz.func134 rfl Tryz.ntmps134 rfl fun w H => ?_)
 unfold Zf4 at h
 refine SR <| Ct rfl (Zs 2 rfl rfl (vt rfl)) ?_
 rintro _ ⟨g2, rfl⟩
 refine Ab rfl <| Nl <| AW.seq ?_
 obtain ⟨x3, hx3, h⟩ := Z1 h
 refine Rg <| Zt Zml Znx rfl <| Ld Zqh 2 rfl <| Ac (Z0k rfl rfl Zmv (vt rfl)) rfl <| Ac (Z5y rfl rfl (vt rfl) (vk rfl)) rfl <| Md rfl <| Gd rfl (fun hq => Z1w Zdo rfl rfl Zrw (vt rfl)) <| Gd rfl (fun hq => Z11 rfl rfl Zp9 (Zm rfl hq) (i := 2) rfl) <| Gd rfl (fun hq => Z0t (xs := [.tmp 9]) (Y4m _ _ (Z1m hx3 hq)) Zy7 rfl rfl ⟨Zm rfl hq, trivial⟩) <| Ac (Z16 rfl rfl (vt rfl) (vt rfl)) rfl <| As rfl <| Nl <| AW.ret ?_
 obtain rfl := si h
 exact Zg Tryz.results134 rfl (Zf rfl)
end Go.Proofs.YtknpgojdkobgjaaGreat.W
set_option maxRecDepth 4000
namespace Go.Proofs.YtknpgojdkobgjaaGreat.W
open Go Go.Wb
theorem Y0d : Ent Tryz.prog 134 := Ent.mk Tryz.func134 rfl rfl
theorem Y2g : Ent Tryz.prog 132 := Ent.mk Tryz.func132 rfl rfl
theorem Y1j : Ent Tryz.prog 133 := Ent.mk Tryz.func133 rfl rfl
theorem Y1c : Ent Tryz.prog 231 := Ent.mk Tryz.func231 rfl rfl
theorem Zyo : Ent Tryz.prog 163 := Ent.mk Tryz.func163 rfl rfl
theorem Zxy : Ent Tryz.prog 164 := Ent.mk Tryz.func164 rfl rfl
theorem Zvj : Ent Tryz.prog 100 := Ent.mk Tryz.func100 rfl rfl
theorem Ztu : Ent Tryz.prog 162 := Ent.mk Tryz.func162 rfl rfl
def Ze3 (f1 : Flow) : Option Bool :=
 (Zf4 f1).bind fun x3 => some (!x3)
theorem Y0i (f1 : Flow) (r : Bool) (h : Ze3 f1 = some r) : PCon Tryz.prog 133 [rd Z0o f1] (rd Z6 r) := by
 refine PCon.of (Con.intro0 Tryz.func133 rfl Tryz.ntmps133 rfl fun w H => ?_)
 unfold Ze3 at h
 refine SR <| Ct rfl (Zs 2 rfl rfl (vt rfl)) ?_
 rintro _ ⟨g2, rfl⟩
 refine Ab rfl <| Nl <| AW.seq ?_
 obtain ⟨x3, hx3, h⟩ := Z1 h
 refine Rg <| Ld Zbm 2 rfl <| Cl [3] (Y3h _ _ hx3) Y0d rfl <| Ac (Z0x rfl rfl (vt rfl)) rfl <| As rfl <| Nl <| AW.ret ?_
 obtain rfl := si h
 exact Zg Tryz.results133 rfl (Zf rfl)
def Zem (l1 : (List Flow)) (many2 : Int) : Option Bool :=
 (opt (decide ((l1.length : Int) ≤ many2)) (Zf6 l1 Ze3)).bind fun x3 => some ((decide ((l1.length : Int) ≤ many2)) && (!x3))
theorem Y56 (l1 : (List Flow)) (many2 : Int) (r : Bool) (h : Zem l1 many2 = some r) : PCon Tryz.prog 74 [rd (Z2 Z0o) l1, rd (Z0 .i64) many2] (rd Z6 r) := by
 refine PCon.of (Con.intro0 Tryz.func74 rfl Tryz.ntmps74 rfl fun w H => ?_)
 unfold Zem at h
 refine SR <| Ab rfl <| Nl <| AW.seq ?_
 obtain ⟨x3, hx3, h⟩ := Z1 h
 refine Rg <| Md rfl <| Ac (Z0k rfl rfl Z47 (vt rfl)) rfl <| Md rfl <| Ac (Z5y rfl rfl (vt rfl) (vt rfl)) rfl <| Md rfl <| Gd rfl (fun hq => Zq (A := rd (Z2 Z0o) l1) rfl rfl (vt rfl)) <| Gd rfl (fun hq => Z0t (xs := [.tmp 10, .func 133]) (Y92 _ _ _ (Z1m hx3 hq)) Y2g rfl rfl ⟨Zm rfl hq, vf1 Y1j Y0i, trivial⟩) <| Gd rfl (fun hq => Z0x rfl rfl (Zm rfl hq)) <| Ac (Z16 rfl rfl (vt rfl) (vt rfl)) rfl <| As rfl <| Nl <| AW.ret ?_
 obtain rfl := si h
 exact Zg Tryz.results74 rfl (Zf rfl)
def Z7t (s1 : (List Bucket)) (f2 : (Bucket → Option Bool)) : Nat → Nat → Option Int
 | 0, i3 => some (-1)
 | m4 + 1, i3 => (lget s1 (i3 : Int)).bind fun e5 => (f2 e5).bind fun x6 => (bif x6 then some (i3 : Int) else (Z7t s1 f2 m4) (i3 + 1))
def Ze1 (s1 : (List Bucket)) (f2 : (Bucket → Option Bool)) : Option Int :=
 Z7t s1 f2 ((s1.length : Int) : Int).toNat 0
theorem Y46 (s1 : (List Bucket)) (f2 : (Bucket → Option Bool)) (r : Int) (h : Ze1 s1 f2 = some r) : PCon Tryz.prog 231 [rd (Z2 Z0f) s1, fn1 Tryz.prog Z0f Z6 f2] (rd (Z0 .i64) r) := by
 refine PCon.of (Con.intro0 Tryz.func231 rfl Tryz.ntmps231 rfl fun w H => ?_)
 unfold Ze1 at h
 refine SR <| Ak rfl <| Nl <| AW.seq <| SR <| Md rfl <| Ac (Z0k rfl rfl Z4d (vt rfl)) rfl <| Mk rfl <| Nl <| AW.block <| AW.loopG (d := []) (ν := Nat × Nat) (fun n => Cnt (s1.length : Int) n.2 n.1 ∧ Z7t s1 f2 n.1 n.2 = some r) (fun n => n.1) (fun n => [(0, rd (Z2 Z0f) s1), (1, fn1 Tryz.prog Z0f Z6 f2), (7, rd (Z0 .i64) (s1.length : Int)), (8, rd (Z0 .i64) (n.2 : Int))]) (fun n => []) (((s1.length : Int) : Int).toNat, 0) ⟨Cnt.start _, h⟩ ⟨rfl, ⟨rfl, rfl, rfl, rfl, trivial⟩, trivial⟩ ?_
 rintro ⟨m4, i3⟩ ⟨hsf1, h⟩
 change Cnt (s1.length : Int) i3 m4 at hsf1
 change Z7t s1 f2 m4 i3 = some r at h
 change AW _ _ _ ⟨Zw [(0, rd (Z2 Z0f) s1), (1, fn1 Tryz.prog Z0f Z6 f2), (7, rd (Z0 .i64) (s1.length : Int)), (8, rd (Z0 .i64) (i3 : Int))], Zx [], _⟩
 cases m4 with
 | zero =>
  unfold Z7t at h
  refine SR <| Ac (Zi rfl rfl (vt rfl) (vt rfl)) rfl <| Nl <| AW.seq <| Cn rfl (fun hc => absurd (of_decide_eq_true hc) hsf1.zero) (fun hc => ?_)
  refine AW.exit <| SR <| Ak rfl <| Nl <| AW.ret ?_
  obtain rfl := si h
  exact Zg Tryz.results231 rfl (Zf rfl)
 | succ m4 =>
  unfold Z7t at h
  generalize hgo1 : Z7t s1 f2 m4 = go1 at h
  refine SR <| Ac (Zi rfl rfl (vt rfl) (vt rfl)) rfl <| Nl <| AW.seq <| Cn rfl (fun hc => ?_) (fun hc => absurd hsf1.succ (of_decide_eq_false hc))
  have hlti3 := of_decide_eq_true hc
  refine AW.skip <| AW.seq <| AW.block <| SR <| Md rfl <| As rfl <| Nl <| AW.seq ?_
  obtain ⟨e5, he5, h⟩ := Z1 h
  obtain ⟨x6, hx6, h⟩ := Z1 h
  refine Rg <| Ac (Zq (A := fn1 Tryz.prog Z0f Z6 f2) rfl rfl (vt rfl)) rfl <| Md rfl <| Md rfl <| Ac (Z10 rfl rfl Z4d (vt rfl) (vt rfl) he5) rfl <| Lp1 Z9e rfl <| Ac (Z8s hx6 rfl rfl (vt rfl) (vt rfl)) rfl <| Nl <| Cn rfl (fun hc => ?_) (fun hc => ?_)
  ·have h := Zj hc h
   refine SR <| Md rfl <| As rfl <| Nl <| AW.ret ?_
   obtain rfl := si h
   exact Zg Tryz.results231 rfl (Zf rfl)
  ·have h := Zk hc h
   refine AW.skip <| Rg <| Ac (Z17 (t := 7) rfl rfl (vt rfl) (vk rfl) (vt rfl) hlti3) rfl <| Md rfl <| Nl ?_
   subst hgo1
   exact ⟨(m4, i3 + 1), Nat.lt_succ_self _, ⟨hsf1.next, h⟩, ⟨rfl, ⟨rfl, rfl, rfl, rfl, trivial⟩, trivial⟩⟩
def Zey (s1 : (List Bucket)) (f2 : (Bucket → Option Bool)) : Option Bool :=
 (Ze1 s1 f2).bind fun x3 => some (decide (x3 ≥ 0))
theorem Zyx (s1 : (List Bucket)) (f2 : (Bucket → Option Bool)) (r : Bool) (h : Zey s1 f2 = some r) : PCon Tryz.prog 163 [rd (Z2 Z0f) s1, fn1 Tryz.prog Z0f Z6 f2] (rd Z6 r) := by
 refine PCon.of (Con.intro0 Tryz.func163 rfl Tryz.ntmps163 rfl fun w H => ?_)
 unfold Zey at h
 refine SR <| Ab rfl <| Nl <| AW.seq ?_
 obtain ⟨x3, hx3, h⟩ := Z1 h
 refine Rg <| Md rfl <| Ac (Zq (A := fn1 Tryz.prog Z0f Z6 f2) rfl rfl (vt rfl)) rfl <| Cl [5, 6] (Y46 _ _ _ hx3) Y1c rfl <| Ac (Z4n rfl rfl (vt rfl) (vk rfl)) rfl <| As rfl <| Nl <| AW.ret ?_
 obtain rfl := si h
 exact Zg Tryz.results163 rfl (Zf rfl)
def Zhp (x1 : Bucket) : Option Bool :=
 (Zif x1.Acts).bind fun x3 => some (!x3)
theorem Y3e (x1 : Bucket) (r : Bool) (h : Zhp x1 = some r) : PCon Tryz.prog 164 [rd Z0f x1] (rd Z6 r) := by
 refine PCon.of (Con.intro0 Tryz.func164 rfl Tryz.ntmps164 rfl fun w H => ?_)
 unfold Zhp at h
 refine SR <| Ct rfl (Zs 2 rfl rfl (vt rfl)) ?_
 rintro _ ⟨g2, rfl⟩
 refine Ab rfl <| Nl <| AW.seq ?_
 obtain ⟨x3, hx3, h⟩ := Z1 h
 refine Rg <| Zt Zb1 Zdu rfl <| Ld Z49 2 rfl <| Cl [4] (Zuz _ _ hx3) Zqf rfl <| Ac (Z0x rfl rfl (vt rfl)) rfl <| As rfl <| Nl <| AW.ret ?_
 obtain rfl := si h
 exact Zg Tryz.results164 rfl (Zf rfl)
def Zg7 (l1 : (List Bucket)) (many2 : Int) : Option Bool :=
 (opt (decide ((l1.length : Int) ≤ many2)) (Zey l1 Zhp)).bind fun x3 => some ((decide ((l1.length : Int) ≤ many2)) && (!x3))
theorem Zzf (l1 : (List Bucket)) (many2 : Int) (r : Bool) (h : Zg7 l1 many2 = some r) : PCon Tryz.prog 100 [rd (Z2 Z0f) l1, rd (Z0 .i64) many2] (rd Z6 r) := by
 refine PCon.of (Con.intro0 Tryz.func100 rfl Tryz.ntmps100 rfl fun w H => ?_)
 unfold Zg7 at h
 refine SR <| Ab rfl <| Nl <| AW.seq ?_
 obtain ⟨x3, hx3, h⟩ := Z1 h
 refine Rg <| Md rfl <| Ac (Z0k rfl rfl Z4d (vt rfl)) rfl <| Md rfl <| Ac (Z5y rfl rfl (vt rfl) (vt rfl)) rfl <| Md rfl <| Gd rfl (fun hq => Zq (A := rd (Z2 Z0f) l1) rfl rfl (vt rfl)) <| Gd rfl (fun hq => Z0t (xs := [.tmp 10, .func 164]) (Zyx _ _ _ (Z1m hx3 hq)) Zyo rfl rfl ⟨Zm rfl hq, vf1 Zxy Y3e, trivial⟩) <| Gd rfl (fun hq => Z0x rfl rfl (Zm rfl hq)) <| Ac (Z16 rfl rfl (vt rfl) (vt rfl)) rfl <| As rfl <| Nl <| AW.ret ?_
 obtain rfl := si h
 exact Zg Tryz.results100 rfl (Zf rfl)
def Zd4 (g1 : Group) (cp2 : Int) : Option Bool :=
 (Zg7 g1.Buckets cp2).bind fun x4 => some (!x4)
theorem Y81 (g1 : Group) (cp2 : Int) (r : Bool) (h : Zd4 g1 cp2 = some r) : PCon Tryz.prog 99 [rd Z02 g1, rp (Z0 .i64) cp2] (rd Z6 r) := by
 refine PCon.of (Con.intro0 Tryz.func99 rfl Tryz.ntmps99 rfl fun w H => ?_)
 unfold Zd4 at h
 refine SR <| Ct rfl (Zs 3 rfl rfl (vt rfl)) ?_
 rintro _ ⟨g3, rfl⟩
 refine Ab rfl <| Nl <| AW.seq ?_
 obtain ⟨x4, hx4, h⟩ := Z1 h
 refine Rg <| Zt Zcb Zek rfl <| Ld Zel 3 rfl <| Lp1 Zu rfl <| Cl [5, 6] (Zzf _ _ _ hx4) Zvj rfl <| Ac (Z0x rfl rfl (vt rfl)) rfl <| As rfl <| Nl <| AW.ret ?_
 obtain rfl := si h
 exact Zg Tryz.results99 rfl (Zf rfl)
def Z79 (s1 : (List Group)) (f2 : (Group → Option Bool)) : Nat → Nat → Option Int
 | 0, i3 => some (-1)
 | m4 + 1, i3 => (lget s1 (i3 : Int)).bind fun e5 => (f2 e5).bind fun x6 => (bif x6 then some (i3 : Int) else (Z79 s1 f2 m4) (i3 + 1))
def Zda (s1 : (List Group)) (f2 : (Group → Option Bool)) : Option Int :=
 Z79 s1 f2 ((s1.length : Int) : Int).toNat 0
theorem Zu8 (s1 : (List Group)) (f2 : (Group → Option Bool)) (r : Int) (h : Zda s1 f2 = some r) : PCon Tryz.prog 162 [rd (Z2 Z02) s1, fn1 Tryz.prog Z02 Z6 f2] (rd (Z0 .i64) r) := by
 refine PCon.of (Con.intro0 Tryz.func162 rfl Tryz.ntmps162 rfl fun w H => ?_)
 unfold Zda at h
 refine SR <| Ak rfl <| Nl <| AW.seq <| SR <| Md rfl <| Ac (Z0k rfl rfl Z2n (vt rfl)) rfl <| Mk rfl <| Nl <| AW.block <| AW.loopG (d := []) (ν := Nat × Nat) (fun n => Cnt (s1.length : Int) n.2 n.1 ∧ Z79 s1 f2 n.1 n.2 = some r) (fun n => n.1) (fun n => [(0, rd (Z2 Z02) s1), (1, fn1 Tryz.prog Z02 Z6 f2), (7, rd (Z0 .i64) (s1.length : Int)), (8, rd (Z0 .i64) (n.2 : Int))]) (fun n => []) (((s1.length : Int) : Int).toNat, 0) ⟨Cnt.start _, h⟩ ⟨rfl, ⟨rfl, rfl, rfl, rfl, trivial⟩, trivial⟩ ?_
 rintro ⟨m4, i3⟩ ⟨hsf1, h⟩
 change Cnt (s1.length : Int) i3 m4 at hsf1
 change Z79 s1 f2 m4 i3 = some r at h
 change AW _ _ _ ⟨Zw [(0, rd (Z2 Z02) s1), (1, fn1 Tryz.prog Z02 Z6 f2), (7, rd (Z0 .i64) (s1.length : Int)), (8, rd (Z0 .i64) (i3 : Int))], Zx [], _⟩
 cases m4 with
 | zero =>
  unfold Z79 at h
  refine SR <| Ac (Zi rfl rfl (vt rfl) (vt rfl)) rfl <| Nl <| AW.seq <| Cn rfl (fun hc => absurd (of_decide_eq_true hc) hsf1.zero) (fun hc => ?_)
  refine AW.exit <| SR <| Ak rfl <| Nl <| AW.ret ?_
  obtain rfl := si h
  exact Zg Tryz.results162 rfl (Zf rfl)
 | succ m4 =>
  unfold Z79 at h
  generalize hgo1 : Z79 s1 f2 m4 = go1 at h
  refine SR <| Ac (Zi rfl rfl (vt rfl) (vt rfl)) rfl <| Nl <| AW.seq <| Cn rfl (fun hc => ?_) (fun hc => absurd hsf1.succ (of_decide_eq_false hc))
  have hlti3 := of_decide_eq_true hc
  refine AW.skip <| AW.seq <| AW.block <| SR <| Md rfl <| As rfl <| Nl <| AW.seq ?_
  obtain ⟨e5, he5, h⟩ := Z1 h
  obtain ⟨x6, hx6, h⟩ := Z1 h
  refine Rg <| Ac (Zq (A := fn1 Tryz.prog Z02 Z6 f2) rfl rfl (vt rfl)) rfl <| Md rfl <| Md rfl <| Ac (Z10 rfl rfl Z2n (vt rfl) (vt rfl) he5) rfl <| Lp1 Z3e rfl <| Ac (Z8s hx6 rfl rfl (vt rfl) (vt rfl)) rfl <| Nl <| Cn rfl (fun hc => ?_) (fun hc => ?_)
  ·have h := Zj hc h
   refine SR <| Md rfl <| As rfl <| Nl <| AW.ret ?_
   obtain rfl := si h
   exact Zg Tryz.results162 rfl (Zf rfl)
  ·have h := Zk hc h
   refine AW.skip <| Rg <| Ac (Z17 (t := 7) rfl rfl (vt rfl) (vk rfl) (vt rfl) hlti3) rfl <| Md rfl <| Nl ?_
   subst hgo1
   exact ⟨(m4, i3 + 1), Nat.lt_succ_self _, ⟨hsf1.next, h⟩, ⟨rfl, ⟨rfl, rfl, rfl, rfl, trivial⟩, trivial⟩⟩
def Zff (s1 : (List Group)) (f2 : (Group → Option Bool)) : Option Bool :=
 (Zda s1 f2).bind fun x3 => some (decide (x3 ≥ 0))
theorem Y6s (s1 : (List Group)) (f2 : (Group → Option Bool)) (r : Bool) (h : Zff s1 f2 = some r) : PCon Tryz.prog 98 [rd (Z2 Z02) s1, fn1 Tryz.prog Z02 Z6 f2] (rd Z6 r) := by
 refine PCon.of (Con.intro0 Tryz.func98 rfl Tryz.ntmps98 rfl fun w H => ?_)
 unfold Zff at h
 refine SR <| Ab rfl <| Nl <| AW.seq ?_
 obtain ⟨x3, hx3, h⟩ := Z1 h
 refine Rg <| Md rfl <| Ac (Zq (A := fn1 Tryz.prog Z02 Z6 f2) rfl rfl (vt rfl)) rfl <| Cl [5, 6] (Zu8 _ _ _ hx3) Ztu rfl <| Ac (Z4n rfl rfl (vt rfl) (vk rfl)) rfl <| As rfl <| Nl <| AW.ret ?_
 obtain rfl := si h
 exact Zg Tryz.results98 rfl (Zf rfl)
end Go.Proofs.YtknpgojdkobgjaaGreat.W
set_option maxRecDepth 4000
namespace Go.Proofs.YtknpgojdkobgjaaGreat.W
open Go Go.Wb
theorem e99 : Ent Tryz.prog 99 := Ent.mk Tryz.func99 rfl rfl
theorem e98 : Ent Tryz.prog 98 := Ent.mk Tryz.func98 rfl rfl
theorem e40 : Ent Tryz.prog 40 := Ent.mk Tryz.func40 rfl rfl
theorem e74 : Ent Tryz.prog 74 := Ent.mk Tryz.func74 rfl rfl
def Zeu (l1 : (List Group)) (many2 : Int) (buckets3 : Int) : Option Bool :=
 (opt (decide ((l1.length : Int) ≤ many2)) (Zff l1 (fun x => Zd4 x buckets3))).bind fun x5 => some ((decide ((l1.length : Int) ≤ many2)) && (!x5))
theorem Y01 (l1 : (List Group)) (many2 : Int) (buckets3 : Int) (r : Bool) (h : Zeu l1 many2 buckets3 = some r) : PCon Tryz.prog 40 [rd (Z2 Z02) l1, rd (Z0 .i64) many2, rd (Z0 .i64) buckets3] (rd Z6 r) := by
 refine PCon.of (Con.intro0 Tryz.func40 rfl Tryz.ntmps40 rfl fun w H => ?_)
 unfold Zeu at h
 refine SR <| Ct rfl (Zs 6 rfl rfl (vt rfl)) ?_
 rintro _ ⟨g4, rfl⟩
 refine Ab rfl <| Nl <| AW.seq <| AW.freezeB 5 6 rfl rfl rfl ?_
 obtain ⟨x5, hx5, h⟩ := Z1 h
 refine Rg <| Md rfl <| Ac (Z0k rfl rfl Z2n (vt rfl)) rfl <| Md rfl <| Ac (Z5y rfl rfl (vt rfl) (vt rfl)) rfl <| Md rfl <| Gd rfl (fun hq => Zq (A := rd (Z2 Z02) l1) rfl rfl (vt rfl)) <| Gd rfl (fun hq => Z8w (cs := [.tmp 5]) (CAs := [rp (Z0 .i64) buckets3]) (fun x => Zd4 x buckets3) rfl rfl e99 ⟨vt rfl, trivial⟩ (fun x y h => Y81 _ _ y h)) <| Gd rfl (fun hq => Z0t (xs := [.tmp 12, .tmp 13]) (Y6s _ _ _ (Z1m hx5 hq)) e98 rfl rfl ⟨Zm rfl hq, Zm rfl hq, trivial⟩) <| Gd rfl (fun hq => Z0x rfl rfl (Zm rfl hq)) <| Ac (Z16 rfl rfl (vt rfl) (vt rfl)) rfl <| As rfl <| Nl <| AW.ret ?_
 obtain rfl := si h
 exact Zg Tryz.results40 rfl (Zf rfl)
def Z60 (s1 : Switch) (many2 : Int) : (List (List Flow)) → Nat → Option Bool
 | [], i4 => (Zeu s1.Groups 9 3).bind fun x6 => some x6
 | x7 :: l5, i4 => (Zem x7 many2).bind fun x8 => (bif (!x8) then some false else (Z60 s1 many2 l5) (i4 + 1))
def Zhm (s1 : Switch) (many2 : Int) : Option Bool :=
 Z60 s1 many2 (Vector.toList s1.Tables) 0
theorem Y1u (s1 : Switch) (many2 : Int) (r : Bool) (h : Zhm s1 many2 = some r) : PCon Tryz.prog 21 [rd Z0v s1, rd (Z0 .i64) many2] (rd Z6 r) := by
 refine PCon.of (Con.intro0 Tryz.func21 rfl Tryz.ntmps21 rfl fun w H => ?_)
 unfold Zhm at h
 refine SR <| Ct rfl (Zs 3 rfl rfl (vt rfl)) ?_
 rintro _ ⟨g3, rfl⟩
 refine Ab rfl <| Nl <| AW.seq <| SR <| Zt Zak Zbu rfl <| Ld Zse 3 rfl <| Mk rfl <| Nl <| AW.block <| AW.loopG (d := []) (ν := (List (List Flow)) × Nat) (fun n => Sfx (Vector.toList s1.Tables) n.2 n.1 ∧ Z60 s1 many2 n.1 n.2 = some r) (fun n => n.1.length) (fun n => [(1, rd (Z0 .i64) many2), (2, Zb g3 (Lens.id Z0v)), (8, rd (Z3 4 (Z2 Z0o)) s1.Tables), (9, rd (Z0 .i64) (n.2 : Int))]) (fun n => [(3, Zd g3 26 Z0v s1)]) ((Vector.toList s1.Tables), 0) ⟨Sfx.start _, h⟩ ⟨rfl, ⟨rfl, rfl, rfl, rfl, trivial⟩, ⟨rfl, trivial⟩⟩ ?_
 rintro ⟨l5, i4⟩ ⟨hsf1, h⟩
 change Sfx (Vector.toList s1.Tables) i4 l5 at hsf1
 change Z60 s1 many2 l5 i4 = some r at h
 change AW _ _ _ ⟨Zw [(1, rd (Z0 .i64) many2), (2, Zb g3 (Lens.id Z0v)), (8, rd (Z3 4 (Z2 Z0o)) s1.Tables), (9, rd (Z0 .i64) (i4 : Int))], Zx [(3, Zd g3 26 Z0v s1)], _⟩
 cases l5 with
 | nil =>
  unfold Z60 at h
  refine SR <| Ac (Zi rfl rfl (vt rfl) (vk rfl)) rfl <| Nl <| AW.seq <| Cn rfl (fun hc => absurd (of_decide_eq_true hc) (hsf1.niln (by simp))) (fun hc => ?_)
  refine AW.exit <| AW.seq ?_
  obtain ⟨x6, hx6, h⟩ := Z1 h
  refine Rg <| Zt Zke Zsw rfl <| Ld Zhi 3 rfl <| Ac (Z0t (xs := [.tmp 18, .const (Value.int IntKind.i64 9), .const (Value.int IntKind.i64 3)]) (Y01 _ _ _ _ hx6) e40 rfl rfl ⟨vt rfl, vk rfl, vk rfl, trivial⟩) rfl <| As rfl <| Nl <| AW.ret ?_
  obtain rfl := si h
  exact Zg Tryz.results21 rfl (Zf rfl)
 | cons x7 l5 =>
  unfold Z60 at h
  generalize hgo1 : Z60 s1 many2 l5 = go1 at h
  refine SR <| Ac (Zi rfl rfl (vt rfl) (vk rfl)) rfl <| Nl <| AW.seq <| Cn rfl (fun hc => ?_) (fun hc => absurd (hsf1.consn (by simp)) (of_decide_eq_false hc))
  have hlti4 := of_decide_eq_true hc
  refine AW.skip <| AW.seq <| AW.block <| SR <| Ac (Z8i rfl rfl Zd6 Z54 (vt rfl) (vt rfl) hsf1.lget) rfl <| As rfl <| Nl <| AW.seq ?_
  obtain ⟨x8, hx8, h⟩ := Z1 h
  refine Rg <| Md rfl <| Md rfl <| Cl [12, 13] (Y56 _ _ _ hx8) e74 rfl <| Ac (Z0x rfl rfl (vt rfl)) rfl <| Nl <| Cn rfl (fun hc => ?_) (fun hc => ?_)
  ·have h := Zj hc h
   refine SR <| Ab rfl <| Nl <| AW.ret ?_
   obtain rfl := si h
   exact Zg Tryz.results21 rfl (Zf rfl)
  ·have h := Zk hc h
   refine AW.skip <| Rg <| Ac (Z5q rfl rfl (vt rfl) (vk rfl) rfl hlti4) rfl <| Md rfl <| Nl ?_
   subst hgo1
   exact ⟨(l5, i4 + 1), Nat.lt_succ_self _, ⟨hsf1.next, h⟩, ⟨rfl, ⟨rfl, rfl, rfl, rfl, trivial⟩, ⟨rfl, trivial⟩⟩⟩
end Go.Proofs.YtknpgojdkobgjaaGreat.W
set_option maxRecDepth 4000
namespace Go.Proofs.YtknpgojdkobgjaaGreat.W
open Go Go.Wb
end Go.Proofs.YtknpgojdkobgjaaGreat.W
set_option maxRecDepth 4000
namespace Go.Proofs.YtknpgojdkobgjaaGreat.W
open Go Go.Wb
end Go.Proofs.YtknpgojdkobgjaaGreat.W
set_option maxRecDepth 4000
namespace Go.Proofs.YtknpgojdkobgjaaGreat.W
open Go Go.Wb
end Go.Proofs.YtknpgojdkobgjaaGreat.W
set_option maxRecDepth 4000
namespace Go.Proofs.YtknpgojdkobgjaaGreat.W
open Go Go.Wb
theorem e81 : Ent Tryz.prog 81 := Ent.mk Tryz.func81 rfl rfl
theorem e20 : Ent Tryz.prog 20 := Ent.mk Tryz.func20 rfl rfl
theorem e21 : Ent Tryz.prog 21 := Ent.mk Tryz.func21 rfl rfl
theorem e23 : Ent Tryz.prog 23 := Ent.mk Tryz.func23 rfl rfl
theorem e24 : Ent Tryz.prog 24 := Ent.mk Tryz.func24 rfl rfl
def Zav (s22 : (List Rule)) (eq3 : (Rule → Rule → Option Bool)) : (List Rule) → Nat → Option Bool
 | [], i4 => some true
 | x6 :: l5, i4 => (lget s22 (i4 : Int)).bind fun e8 => (eq3 x6 e8).bind fun x10 => (bif (!x10) then some false else (Zav s22 eq3 l5) (i4 + 1))
def Zn7 (s11 : (List Rule)) (s22 : (List Rule)) (eq3 : (Rule → Rule → Option Bool)) : Option Bool :=
 (bif (decide ((s11.length : Int) ≠ (s22.length : Int))) then some false else Zav s22 eq3 s11 0)
theorem Y4f (s11 : (List Rule)) (s22 : (List Rule)) (eq3 : (Rule → Rule → Option Bool)) (r : Bool) (h : Zn7 s11 s22 eq3 = some r) : PCon Tryz.prog 81 [rd (Z2 Zv) s11, rd (Z2 Zv) s22, Zl Tryz.prog Zv Zv Z6 eq3] (rd Z6 r) := by
 refine PCon.of (Con.intro0 Tryz.func81 rfl Tryz.ntmps81 rfl fun w H => ?_)
 unfold Zn7 at h
 refine SR <| Ab rfl <| Nl <| AW.seq <| SR <| Md rfl <| Ac (Z0k rfl rfl Z2f (vt rfl)) rfl <| Md rfl <| Ac (Z0k rfl rfl Z2f (vt rfl)) rfl <| Ac (Z74 rfl rfl (vt rfl) (vt rfl)) rfl <| Nl <| Cn rfl (fun hc => ?_) (fun hc => ?_)
 ·have h := Zj hc h
  refine SR <| Ab rfl <| Nl <| AW.ret ?_
  obtain rfl := si h
  exact Zg Tryz.results81 rfl (Zf rfl)
 ·have h := Zk hc h
  refine AW.skip <| AW.seq <| SR <| Md rfl <| Ac (Z0k rfl rfl Z2f (vt rfl)) rfl <| Mk rfl <| Nl <| AW.block <| AW.loopG (d := []) (ν := (List Rule) × Nat) (fun n => Sfx s11 n.2 n.1 ∧ Zav s22 eq3 n.1 n.2 = some r) (fun n => n.1.length) (fun n => [(1, rd (Z2 Zv) s22), (2, Zl Tryz.prog Zv Zv Z6 eq3), (15, rd (Z2 Zv) s11), (16, rd (Z0 .i64) (s11.length : Int)), (17, rd (Z0 .i64) (n.2 : Int))]) (fun n => []) (s11, 0) ⟨Sfx.start _, h⟩ ⟨rfl, ⟨rfl, rfl, rfl, rfl, rfl, trivial⟩, trivial⟩ ?_
  rintro ⟨l5, i4⟩ ⟨hsf1, h⟩
  change Sfx s11 i4 l5 at hsf1
  change Zav s22 eq3 l5 i4 = some r at h
  change AW _ _ _ ⟨Zw [(1, rd (Z2 Zv) s22), (2, Zl Tryz.prog Zv Zv Z6 eq3), (15, rd (Z2 Zv) s11), (16, rd (Z0 .i64) (s11.length : Int)), (17, rd (Z0 .i64) (i4 : Int))], Zx [], _⟩
  cases l5 with
  | nil =>
   unfold Zav at h
   refine SR <| Ac (Zi rfl rfl (vt rfl) (vt rfl)) rfl <| Nl <| AW.seq <| Cn rfl (fun hc => absurd (of_decide_eq_true hc) hsf1.nil) (fun hc => ?_)
   refine AW.exit <| SR <| Ab rfl <| Nl <| AW.ret ?_
   obtain rfl := si h
   exact Zg Tryz.results81 rfl (Zf rfl)
  | cons x6 l5 =>
   unfold Zav at h
   generalize hgo1 : Zav s22 eq3 l5 = go1 at h
   refine SR <| Ac (Zi rfl rfl (vt rfl) (vt rfl)) rfl <| Nl <| AW.seq <| Cn rfl (fun hc => ?_) (fun hc => absurd hsf1.cons (of_decide_eq_false hc))
   have hlti4 := of_decide_eq_true hc
   refine AW.skip <| AW.seq <| AW.block <| SR <| Md rfl <| Ac (Z10 rfl rfl Z2f (vt rfl) (vt rfl) hsf1.lget) rfl <| Lp1 Z3u rfl <| Ct rfl (Zo 9 rfl rfl Z6q) ?_
   rintro _ ⟨g7, rfl⟩
   refine As rfl <| Zh Z3u 9 rfl <| Nl <| AW.seq ?_
   obtain ⟨e8, he8, h⟩ := Z1 h
   refine Rg <| Md rfl <| Md rfl <| Ac (Z10 rfl rfl Z2f (vt rfl) (vt rfl) he8) rfl <| Lp1 Z3u rfl <| Ct rfl (Zo 10 rfl rfl Z6q) ?_
   rintro _ ⟨g9, rfl⟩
   refine Zh Z3u 10 rfl <| Nl <| AW.seq ?_
   obtain ⟨x10, hx10, h⟩ := Z1 h
   refine Rg <| Ac (Zq (A := Zl Tryz.prog Zv Zv Z6 eq3) rfl rfl (vt rfl)) rfl <| Ld Z3u 9 rfl <| Ld Z3u 10 rfl <| Ac (Z4i hx10 rfl rfl (vt rfl) (vt rfl) (vt rfl)) rfl <| Ac (Z0x rfl rfl (vt rfl)) rfl <| Nl <| Cn rfl (fun hc => ?_) (fun hc => ?_)
   ·have h := Zj hc h
    refine SR <| Ab rfl <| Nl <| AW.ret ?_
    obtain rfl := si h
    exact Zg Tryz.results81 rfl (Zf rfl)
   ·have h := Zk hc h
    refine AW.skip <| Rg <| Ac (Z17 (t := 16) rfl rfl (vt rfl) (vk rfl) (vt rfl) hlti4) rfl <| Md rfl <| Nl ?_
    subst hgo1
    exact ⟨(l5, i4 + 1), Nat.lt_succ_self _, ⟨hsf1.next, h⟩, ⟨rfl, ⟨rfl, rfl, rfl, rfl, rfl, trivial⟩, trivial⟩⟩
end Go.Proofs.YtknpgojdkobgjaaGreat.W
set_option maxRecDepth 4000
namespace Go.Proofs.YtknpgojdkobgjaaGreat.W
open Go Go.Wb
def Zfk (p1 : cover_purse) : Option (Bool × cover_purse) :=
 (bif p1.free then some (true, p1) else some ((decide (({ p1 with left := (IntKind.i64.wrap (p1.left - 1)) }.left) ≥ 0)), { p1 with left := (IntKind.i64.wrap (p1.left - 1)) }))
theorem Y5z (g2 gT : Nat) (p1 : cover_purse) (r : (Bool × cover_purse)) (h : Zfk p1 = some r) : Con Tryz.prog 278 [Zb g2 (Lens.id Z4z)] (Zd g2 gT Z4z p1) (fun _ : Unit => rd Z6 r.1) (fun _ => Zd g2 gT Z4z r.2) := by
 refine Con.intro Tryz.func278 rfl Tryz.ntmps278 rfl fun w H X => ?_
 unfold Zfk at h
 refine SR <| Ab rfl <| Nl <| AW.seq <| SR <| Mp rfl <| Nc rfl <| Zt Zjp Zx7 rfl <| Ld ty4 0 rfl <| Nl <| Cn rfl (fun hc => ?_) (fun hc => ?_)
 ·have h := Zj hc h
  refine SR <| Ab rfl <| Nl <| AW.ret ?_
  obtain rfl := si h
  exact Zh1 (i := 0) Tryz.results278 rfl (Zf rfl) rfl
 ·have h := Zk hc h
  refine AW.skip <| SR <| Mp rfl <| Nc rfl <| Zt Zep Zlu rfl <| Ld Zu 0 rfl <| Ac (Z0m rfl rfl (vt rfl) (vk rfl)) rfl <| Nc rfl <| Zt Zep Zlu rfl <| Zh Zu 0 rfl <| Nl <| SR <| Mp rfl <| Nc rfl <| Zt Zep Zlu rfl <| Ld Zu 0 rfl <| Ac (Z4n rfl rfl (vt rfl) (vk rfl)) rfl <| As rfl <| Nl <| AW.ret ?_
  obtain rfl := si h
  exact Zh1 (i := 0) Tryz.results278 rfl (Zf rfl) rfl
end Go.Proofs.YtknpgojdkobgjaaGreat.W
set_option maxRecDepth 4000
namespace Go.Proofs.YtknpgojdkobgjaaGreat.W
open Go Go.Wb
theorem Y1m : Ent Tryz.prog 337 := Ent.mk Tryz.func337 rfl rfl
theorem Y05 : Ent Tryz.prog 316 := Ent.mk Tryz.func316 rfl rfl
theorem Zps : Ent Tryz.prog 331 := Ent.mk Tryz.func331 rfl rfl
theorem Zry : Ent Tryz.prog 294 := Ent.mk Tryz.func294 rfl rfl
theorem Zuv : Ent Tryz.prog 319 := Ent.mk Tryz.func319 rfl rfl
def Zg2 (a1 : Tern) (b2 : Tern) : Option Bool :=
 (Z8b b2.Mask a1.Mask).bind fun x5 => (Zcr x5).bind fun x6 => (opt x6 (Zet b2 a1.Value)).bind fun x7 => some (x6 && x7)
theorem Y7q (a1 : Tern) (b2 : Tern) (r : Bool) (h : Zg2 a1 b2 = some r) : PCon Tryz.prog 337 [rd Z4 a1, rd Z4 b2] (rd Z6 r) := by
 refine PCon.of (Con.intro0 Tryz.func337 rfl Tryz.ntmps337 rfl fun w H => ?_)
 unfold Zg2 at h
 refine SR <| Ct rfl (Zs 3 rfl rfl (vt rfl)) ?_
 rintro _ ⟨g3, rfl⟩
 refine Ct rfl (Zs 4 rfl rfl (vt rfl)) ?_
 rintro _ ⟨g4, rfl⟩
 refine Ab rfl <| Nl <| AW.seq ?_
 obtain ⟨x5, hx5, h⟩ := Z1 h
 obtain ⟨x6, hx6, h⟩ := Z1 h
 obtain ⟨x7, hx7, h⟩ := Z1 h
 refine Rg <| Zt Z1g Z2h rfl <| Ld Z00 4 rfl <| Zt Z1g Z2h rfl <| Ld Z00 3 rfl <| Cl [6, 8] (Ze6 _ _ _ hx5) Zgd rfl <| Cl [9] (Zmb _ _ hx6) Zjy rfl <| Md rfl <| Gd rfl (fun hq => Z11 rfl rfl Zz (vt rfl) (i := 4) rfl) <| Gd rfl (fun hq => Z1w Z1p rfl rfl Z38 (vt rfl)) <| Gd rfl (fun hq => Z11 rfl rfl Z00 (Zm rfl hq) (i := 3) rfl) <| Gd rfl (fun hq => Z0t (xs := [.tmp 12, .tmp 14]) (Zq9 _ _ _ (Z1m hx7 hq)) Zsg rfl rfl ⟨Zm rfl hq, Zm rfl hq, trivial⟩) <| Ac (Z16 rfl rfl (vt rfl) (vt rfl)) rfl <| As rfl <| Nl <| AW.ret ?_
 obtain rfl := si h
 exact Zg Tryz.results337 rfl (Zf rfl)
def Z6t (b2 : (Vector Tern 24)) : (List Tern) → Nat → Option Bool
 | [], i5 => some true
 | x7 :: l6, i5 => (chk 24 (i5 : Int)).bind fun j9 => (Zg2 x7 (Vector.get b2 j9)).bind fun x10 => (bif (!x10) then some false else (Z6t b2 l6) (i5 + 1))
def Zdj (a1 : (Vector Tern 24)) (b2 : (Vector Tern 24)) : Option Bool :=
 Z6t b2 (Vector.toList a1) 0
theorem Y7e (a1 : (Vector Tern 24)) (b2 : (Vector Tern 24)) (r : Bool) (h : Zdj a1 b2 = some r) : PCon Tryz.prog 316 [rd (Z3 24 Z4) a1, rd (Z3 24 Z4) b2] (rd Z6 r) := by
 refine PCon.of (Con.intro0 Tryz.func316 rfl Tryz.ntmps316 rfl fun w H => ?_)
 unfold Zdj at h
 refine SR <| Ct rfl (Zs 3 rfl rfl (vt rfl)) ?_
 rintro _ ⟨g3, rfl⟩
 refine Ct rfl (Zs 4 rfl rfl (vt rfl)) ?_
 rintro _ ⟨g4, rfl⟩
 refine Ab rfl <| Nl <| AW.seq <| SR <| Ld Z01 3 rfl <| Mk rfl <| Nl <| AW.block <| AW.loopG (d := []) (ν := (List Tern) × Nat) (fun n => Sfx (Vector.toList a1) n.2 n.1 ∧ Z6t b2 n.1 n.2 = some r) (fun n => n.1.length) (fun n => [(3, Zb g4 (Lens.id (Z3 24 Z4))), (7, rd (Z3 24 Z4) a1), (8, rd (Z0 .i64) (n.2 : Int))]) (fun n => [(4, Zd g4 87 (Z3 24 Z4) b2)]) ((Vector.toList a1), 0) ⟨Sfx.start _, h⟩ ⟨rfl, ⟨rfl, rfl, rfl, trivial⟩, ⟨rfl, trivial⟩⟩ ?_
 rintro ⟨l6, i5⟩ ⟨hsf1, h⟩
 change Sfx (Vector.toList a1) i5 l6 at hsf1
 change Z6t b2 l6 i5 = some r at h
 change AW _ _ _ ⟨Zw [(3, Zb g4 (Lens.id (Z3 24 Z4))), (7, rd (Z3 24 Z4) a1), (8, rd (Z0 .i64) (i5 : Int))], Zx [(4, Zd g4 87 (Z3 24 Z4) b2)], _⟩
 cases l6 with
 | nil =>
  unfold Z6t at h
  refine SR <| Ac (Zi rfl rfl (vt rfl) (vk rfl)) rfl <| Nl <| AW.seq <| Cn rfl (fun hc => absurd (of_decide_eq_true hc) (hsf1.niln (by simp))) (fun hc => ?_)
  refine AW.exit <| SR <| Ab rfl <| Nl <| AW.ret ?_
  obtain rfl := si h
  exact Zg Tryz.results316 rfl (Zf rfl)
 | cons x7 l6 =>
  unfold Z6t at h
  generalize hgo1 : Z6t b2 l6 = go1 at h
  refine SR <| Ac (Zi rfl rfl (vt rfl) (vk rfl)) rfl <| Nl <| AW.seq <| Cn rfl (fun hc => ?_) (fun hc => absurd (hsf1.consn (by simp)) (of_decide_eq_false hc))
  have hlti5 := of_decide_eq_true hc
  refine AW.skip <| AW.seq <| AW.block <| SR <| Md rfl <| Ac (Z8i rfl rfl Z2j Zz (vt rfl) (vt rfl) hsf1.lget) rfl <| Ct rfl (Zo 7 rfl rfl Z1k) ?_
  rintro _ ⟨g8, rfl⟩
  refine As rfl <| Zh Zz 7 rfl <| Nl <| AW.seq ?_
  obtain ⟨j9, hj9, h⟩ := Z1 h
  obtain ⟨x10, hx10, h⟩ := Z1 h
  refine AW.regionAny [⟨[6], [12], [7], []⟩, ⟨[5], [13], [], []⟩, ⟨[3, 13], [14], [], []⟩, ⟨[14], [15], [4], []⟩, ⟨[12, 15], [16], [], []⟩, ⟨[16], [17], [], []⟩] Z05 (by kernel_rfl) <| SLd Zz 7 rfl <| SMd rfl <| Sc (lo [3, 13] [] rfl fun S hs hr => Z2o rfl rfl Z2j (vh hs 3 rfl rfl) (vh hs 13 rfl rfl) hj9) rfl <| SLd Zz 4 rfl <| SCl [12, 15] (Y7q _ _ _ hx10) Y1m rfl <| Sc (lo [16] [] rfl fun S hs hr => Z0x rfl rfl (vh hs 16 rfl rfl)) rfl <| Cn rfl (fun hc => ?_) (fun hc => ?_)
  ·have h := Zj hc h
   refine SR <| Ab rfl <| Nl <| AW.ret ?_
   obtain rfl := si h
   exact Zg Tryz.results316 rfl (Zf rfl)
  ·have h := Zk hc h
   refine AW.skip <| Rg <| Ac (Z5q rfl rfl (vt rfl) (vk rfl) rfl hlti5) rfl <| Md rfl <| Nl ?_
   subst hgo1
   exact ⟨(l6, i5 + 1), Nat.lt_succ_self _, ⟨hsf1.next, h⟩, ⟨rfl, ⟨rfl, rfl, rfl, trivial⟩, ⟨rfl, trivial⟩⟩⟩
def Z4t (cu1 : (Vector Tern 24)) : (List (Vector Tern 24)) → Nat → Int → Option (Bool × Int)
 | [], i6, first5 => some (false, first5)
 | x8 :: l7, i6, first5 => (Z7b cu1 x8).bind fun x10 => (bif (!x10.2) then (Z4t cu1 l7) (i6 + 1) first5 else (Zdj cu1 x8).bind fun x12 => (bif x12 then some (true, (i6 : Int)) else (bif (decide (first5 < 0)) then (Z4t cu1 l7) (i6 + 1) (i6 : Int) else (Z4t cu1 l7) (i6 + 1) first5)))
def Zit (cu1 : (Vector Tern 24)) (l2 : (List (Vector Tern 24))) : Option (Bool × Int) :=
 Z4t cu1 l2 0 (-1)
theorem Zzp (cu1 : (Vector Tern 24)) (l2 : (List (Vector Tern 24))) (r : (Bool × Int)) (h : Zit cu1 l2 = some r) : PCon Tryz.prog 279 [rd (Z3 24 Z4) cu1, rd (Z2 (Z3 24 Z4)) l2] (Z1d (rd Z6 r.1) (rd (Z0 .i64) r.2)) := by
 refine PCon.of (Con.intro0 Tryz.func279 rfl Tryz.ntmps279 rfl fun w H => ?_)
 unfold Zit at h
 refine SR <| Ct rfl (Zs 3 rfl rfl (vt rfl)) ?_
 rintro _ ⟨g3, rfl⟩
 refine Ab rfl <| Ak rfl <| Nl <| SR <| Ak rfl <| Nl <| AW.seq <| SR <| Md rfl <| Ac (Z0k rfl rfl Z3s (vt rfl)) rfl <| Mk rfl <| Nl <| AW.block <| AW.loopG (d := []) (ν := (List (Vector Tern 24)) × Nat × Int) (fun n => Sfx l2 n.2.1 n.1 ∧ Z4t cu1 n.1 n.2.1 n.2.2 = some r) (fun n => n.1.length) (fun n => [(2, Zb g3 (Lens.id (Z3 24 Z4))), (6, rd (Z0 .i64) n.2.2), (11, rd (Z2 (Z3 24 Z4)) l2), (12, rd (Z0 .i64) (l2.length : Int)), (13, rd (Z0 .i64) (n.2.1 : Int))]) (fun n => [(3, Zd g3 87 (Z3 24 Z4) cu1)]) (l2, 0, (-1)) ⟨Sfx.start _, h⟩ ⟨rfl, ⟨rfl, rfl, rfl, rfl, rfl, trivial⟩, ⟨rfl, trivial⟩⟩ ?_
 rintro ⟨l7, i6, first5⟩ ⟨hsf1, h⟩
 change Sfx l2 i6 l7 at hsf1
 change Z4t cu1 l7 i6 first5 = some r at h
 change AW _ _ _ ⟨Zw [(2, Zb g3 (Lens.id (Z3 24 Z4))), (6, rd (Z0 .i64) first5), (11, rd (Z2 (Z3 24 Z4)) l2), (12, rd (Z0 .i64) (l2.length : Int)), (13, rd (Z0 .i64) (i6 : Int))], Zx [(3, Zd g3 87 (Z3 24 Z4) cu1)], _⟩
 cases l7 with
 | nil =>
  unfold Z4t at h
  refine SR <| Ac (Zi rfl rfl (vt rfl) (vt rfl)) rfl <| Nl <| AW.seq <| Cn rfl (fun hc => absurd (of_decide_eq_true hc) hsf1.nil) (fun hc => ?_)
  refine AW.exit <| SR <| Md rfl <| Ab rfl <| As rfl <| Nl <| AW.ret ?_
  obtain rfl := si h
  exact Z2b Tryz.results279 rfl (Zf rfl) (Zf rfl)
 | cons x8 l7 =>
  unfold Z4t at h
  generalize hgo1 : Z4t cu1 l7 = go1 at h
  refine SR <| Ac (Zi rfl rfl (vt rfl) (vt rfl)) rfl <| Nl <| AW.seq <| Cn rfl (fun hc => ?_) (fun hc => absurd hsf1.cons (of_decide_eq_false hc))
  have hlti6 := of_decide_eq_true hc
  refine AW.skip <| AW.seq <| AW.block <| SR <| Md rfl <| Ac (Z10 rfl rfl Z3s (vt rfl) (vt rfl) hsf1.lget) rfl <| Lp1 Z01 rfl <| Ct rfl (Zo 9 rfl rfl Z1j) ?_
  rintro _ ⟨g9, rfl⟩
  refine As rfl <| Zh Z01 9 rfl <| Nl <| AW.seq ?_
  obtain ⟨x10, hx10, h⟩ := Z1 h
  refine Rg <| Ld Z01 3 rfl <| Ld Z01 9 rfl <| Cl [19, 20] (Zii _ _ _ hx10) Zja rfl <| Mt2 rfl <| Ac (Z28 rfl rfl (vt rfl)) rfl <| Ac (Z25 rfl rfl (vt rfl)) rfl <| Ct rfl (Zo 10 rfl rfl Z1j) ?_
  rintro _ ⟨g11, rfl⟩
  refine Zh Z01 10 rfl <| As rfl <| Nl <| AW.block <| SR <| Md rfl <| Ac (Z0x rfl rfl (vt rfl)) rfl <| As rfl <| Nl <| Cn rfl (fun hc => ?_) (fun hc => ?_)
  ·have h := Zj hc h
   refine AW.skip <| Rg <| Ac (Z17 (t := 12) rfl rfl (vt rfl) (vk rfl) (vt rfl) hlti6) rfl <| Md rfl <| Nl ?_
   subst hgo1
   exact ⟨(l7, i6 + 1, first5), Nat.lt_succ_self _, ⟨hsf1.next, h⟩, ⟨rfl, ⟨rfl, rfl, rfl, rfl, rfl, trivial⟩, ⟨rfl, trivial⟩⟩⟩
  ·have h := Zk hc h
   refine AW.seq ?_
   obtain ⟨x12, hx12, h⟩ := Z1 h
   refine Rg <| Ld Z01 3 rfl <| Ld Z01 9 rfl <| Cl [28, 29] (Y7e _ _ _ hx12) Y05 rfl <| As rfl <| Nl <| Cn rfl (fun hc => ?_) (fun hc => ?_)
   ·have h := Zj hc h
    refine SR <| Md rfl <| Ab rfl <| As rfl <| Nl <| AW.ret ?_
    obtain rfl := si h
    exact Z2b Tryz.results279 rfl (Zf rfl) (Zf rfl)
   ·have h := Zk hc h
    refine SR <| Md rfl <| Ac (Zi rfl rfl (vt rfl) (vk rfl)) rfl <| As rfl <| Nl <| Cn rfl (fun hc => ?_) (fun hc => ?_)
    ·have h := Zj hc h
     refine Rg <| Md rfl <| As rfl <| Nl <| Rg <| Ac (Z17 (t := 12) rfl rfl (vt rfl) (vk rfl) (vt rfl) hlti6) rfl <| Md rfl <| Nl ?_
     subst hgo1
     exact ⟨(l7, i6 + 1, (i6 : Int)), Nat.lt_succ_self _, ⟨hsf1.next, h⟩, ⟨rfl, ⟨rfl, rfl, rfl, rfl, rfl, trivial⟩, ⟨rfl, trivial⟩⟩⟩
    ·have h := Zk hc h
     refine AW.skip <| Rg <| Ac (Z17 (t := 12) rfl rfl (vt rfl) (vk rfl) (vt rfl) hlti6) rfl <| Md rfl <| Nl ?_
     subst hgo1
     exact ⟨(l7, i6 + 1, first5), Nat.lt_succ_self _, ⟨hsf1.next, h⟩, ⟨rfl, ⟨rfl, rfl, rfl, rfl, rfl, trivial⟩, ⟨rfl, trivial⟩⟩⟩
def Z5u : (List Tern) → Nat → (Vector Wide 24) → Option (Vector Wide 24)
 | [], i7, b6 => some b6
 | x9 :: l8, i7, b6 => (Z4x x9).bind fun x11 => (chk 24 (i7 : Int)).bind fun j12 => (Z5u l8) (i7 + 1) (Vector.set b6 j12.1 x11.Value j12.2)
def Zfd (cu1 : (Vector Tern 24)) : Option (Vector Wide 24) :=
 Z5u (Vector.toList cu1) 0 (Vector.replicate 24 Zy)
theorem Y41 (cu1 : (Vector Tern 24)) (r : (Vector Wide 24)) (h : Zfd cu1 = some r) : PCon Tryz.prog 70 [rd (Z3 24 Z4) cu1] (rd (Z3 24 Zn) r) := by
 refine PCon.of (Con.intro0 Tryz.func70 rfl Tryz.ntmps70 rfl fun w H => ?_)
 unfold Zfd at h
 refine SR <| Ct rfl (Zs 2 rfl rfl (vt rfl)) ?_
 rintro _ ⟨g2, rfl⟩
 refine Ct rfl (Zo 3 rfl rfl Z6u) ?_
 rintro _ ⟨g3, rfl⟩
 refine Nl <| SR <| Ct rfl (Zo 4 rfl rfl Z6u) ?_
 rintro _ ⟨g4, rfl⟩
 refine Nl <| AW.seq <| SR <| Ld Z01 2 rfl <| Mk rfl <| Nl <| AW.block <| AW.loopG (d := []) (ν := (List Tern) × Nat × (Vector Wide 24)) (fun n => Sfx (Vector.toList cu1) n.2.1 n.1 ∧ Z5u n.1 n.2.1 n.2.2 = some r) (fun n => n.1.length) (fun n => [(2, Zb g3 (Lens.id (Z3 24 Zn))), (3, Zb g4 (Lens.id (Z3 24 Zn))), (6, rd (Z3 24 Z4) cu1), (7, rd (Z0 .i64) (n.2.1 : Int))]) (fun n => [(3, Zd g3 44 (Z3 24 Zn) (Vector.replicate 24 Zy)), (4, Zd g4 44 (Z3 24 Zn) n.2.2)]) ((Vector.toList cu1), 0, (Vector.replicate 24 Zy)) ⟨Sfx.start _, h⟩ ⟨rfl, ⟨rfl, rfl, rfl, rfl, trivial⟩, ⟨rfl, rfl, trivial⟩⟩ ?_
 rintro ⟨l8, i7, b6⟩ ⟨hsf1, h⟩
 change Sfx (Vector.toList cu1) i7 l8 at hsf1
 change Z5u l8 i7 b6 = some r at h
 change AW _ _ _ ⟨Zw [(2, Zb g3 (Lens.id (Z3 24 Zn))), (3, Zb g4 (Lens.id (Z3 24 Zn))), (6, rd (Z3 24 Z4) cu1), (7, rd (Z0 .i64) (i7 : Int))], Zx [(3, Zd g3 44 (Z3 24 Zn) (Vector.replicate 24 Zy)), (4, Zd g4 44 (Z3 24 Zn) b6)], _⟩
 cases l8 with
 | nil =>
  unfold Z5u at h
  refine SR <| Ac (Zi rfl rfl (vt rfl) (vk rfl)) rfl <| Nl <| AW.seq <| Cn rfl (fun hc => absurd (of_decide_eq_true hc) (hsf1.niln (by simp))) (fun hc => ?_)
  refine AW.exit <| SR <| Ld Z24 4 rfl <| Zh Z24 3 rfl <| Nl <| AW.ret ?_
  obtain rfl := si h
  exact Zg Tryz.results70 rfl (Z04 rfl (i := 3) rfl Z24)
 | cons x9 l8 =>
  unfold Z5u at h
  generalize hgo1 : Z5u l8 = go1 at h
  refine SR <| Ac (Zi rfl rfl (vt rfl) (vk rfl)) rfl <| Nl <| AW.seq <| Cn rfl (fun hc => ?_) (fun hc => absurd (hsf1.consn (by simp)) (of_decide_eq_false hc))
  have hlti7 := of_decide_eq_true hc
  refine AW.skip <| AW.seq <| AW.block <| SR <| Md rfl <| Ac (Z8i rfl rfl Z2j Zz (vt rfl) (vt rfl) hsf1.lget) rfl <| Ct rfl (Zo 6 rfl rfl Z1k) ?_
  rintro _ ⟨g10, rfl⟩
  refine As rfl <| Zh Zz 6 rfl <| Nl ?_
  obtain ⟨x11, hx11, h⟩ := Z1 h
  obtain ⟨j12, hj12, h⟩ := Z1 h
  refine Rg <| Md rfl <| Ld Zz 6 rfl <| Cl [12] (Z7w _ _ hx11) Z7l rfl <| Ac (Ztf Z1p rfl rfl Z38 Zwt Z00 rfl (vt rfl)) rfl <| Ac (Z2o rfl rfl Y11 (vt rfl) (vt rfl) hj12) rfl <| Zh Z00 4 rfl <| Nl <| Rg <| Ac (Z5q rfl rfl (vt rfl) (vk rfl) rfl hlti7) rfl <| Md rfl <| Nl ?_
  subst hgo1
  exact ⟨(l8, i7 + 1, (Vector.set b6 j12.1 x11.Value j12.2)), Nat.lt_succ_self _, ⟨hsf1.next, h⟩, ⟨rfl, ⟨rfl, rfl, rfl, rfl, trivial⟩, ⟨rfl, rfl, trivial⟩⟩⟩
def Zd7 (x1 : (BitVec 64)) : Option Int :=
 (Z2c x1 ((1 : BitVec 64).toNat : Int)).bind fun q2 => (Z2c ((q2 &&& (6148914691236517205 : BitVec 64)) + (x1 &&& (6148914691236517205 : BitVec 64))) ((2 : BitVec 64).toNat : Int)).bind fun q3 => (Z2c ((q3 &&& (3689348814741910323 : BitVec 64)) + (((q2 &&& (6148914691236517205 : BitVec 64)) + (x1 &&& (6148914691236517205 : BitVec 64))) &&& (3689348814741910323 : BitVec 64))) ((4 : BitVec 64).toNat : Int)).bind fun q4 => (Z2c ((q4 + ((q3 &&& (3689348814741910323 : BitVec 64)) + (((q2 &&& (6148914691236517205 : BitVec 64)) + (x1 &&& (6148914691236517205 : BitVec 64))) &&& (3689348814741910323 : BitVec 64)))) &&& (1085102592571150095 : BitVec 64)) ((8 : BitVec 64).toNat : Int)).bind fun q5 => (Z2c (((q4 + ((q3 &&& (3689348814741910323 : BitVec 64)) + (((q2 &&& (6148914691236517205 : BitVec 64)) + (x1 &&& (6148914691236517205 : BitVec 64))) &&& (3689348814741910323 : BitVec 64)))) &&& (1085102592571150095 : BitVec 64)) + q5) ((16 : BitVec 64).toNat : Int)).bind fun q6 => (Z2c ((((q4 + ((q3 &&& (3689348814741910323 : BitVec 64)) + (((q2 &&& (6148914691236517205 : BitVec 64)) + (x1 &&& (6148914691236517205 : BitVec 64))) &&& (3689348814741910323 : BitVec 64)))) &&& (1085102592571150095 : BitVec 64)) + q5) + q6) ((32 : BitVec 64).toNat : Int)).bind fun q7 => some (Zjx .and .i64 (IntKind.i64.wrap ((((((q4 + ((q3 &&& (3689348814741910323 : BitVec 64)) + (((q2 &&& (6148914691236517205 : BitVec 64)) + (x1 &&& (6148914691236517205 : BitVec 64))) &&& (3689348814741910323 : BitVec 64)))) &&& (1085102592571150095 : BitVec 64)) + q5) + q6) + q7).toNat : Int)) 127)
theorem Zq2 (x1 : (BitVec 64)) (r : Int) (h : Zd7 x1 = some r) : PCon Tryz.prog 331 [rd Z0b x1] (rd (Z0 .i64) r) := by
 refine PCon.of (Con.intro0 Tryz.func331 rfl Tryz.ntmps331 rfl fun w H => ?_)
 unfold Zd7 at h
 refine SR <| Ak rfl <| Nl <| AW.seq ?_
 obtain ⟨q2, hq2, h⟩ := Z1 h
 refine Rg <| Md rfl <| Ac (Z40 rfl rfl (vt rfl) (Z41 (vku (1 : BitVec 64) rfl)) hq2) rfl <| Ac (Z9p rfl rfl (vt rfl) (vku (6148914691236517205 : BitVec 64) rfl)) rfl <| Md rfl <| Ac (Z9p rfl rfl (vt rfl) (vku (6148914691236517205 : BitVec 64) rfl)) rfl <| Ac (Zcc rfl rfl (vt rfl) (vt rfl)) rfl <| As rfl <| Nl <| AW.seq ?_
 obtain ⟨q3, hq3, h⟩ := Z1 h
 refine Rg <| Md rfl <| Ac (Z40 rfl rfl (vt rfl) (Z41 (vku (2 : BitVec 64) rfl)) hq3) rfl <| Ac (Z9p rfl rfl (vt rfl) (vku (3689348814741910323 : BitVec 64) rfl)) rfl <| Md rfl <| Ac (Z9p rfl rfl (vt rfl) (vku (3689348814741910323 : BitVec 64) rfl)) rfl <| Ac (Zcc rfl rfl (vt rfl) (vt rfl)) rfl <| As rfl <| Nl <| AW.seq ?_
 obtain ⟨q4, hq4, h⟩ := Z1 h
 refine Rg <| Md rfl <| Ac (Z40 rfl rfl (vt rfl) (Z41 (vku (4 : BitVec 64) rfl)) hq4) rfl <| Md rfl <| Ac (Zcc rfl rfl (vt rfl) (vt rfl)) rfl <| Ac (Z9p rfl rfl (vt rfl) (vku (1085102592571150095 : BitVec 64) rfl)) rfl <| As rfl <| Nl <| AW.seq ?_
 obtain ⟨q5, hq5, h⟩ := Z1 h
 refine Rg <| Md rfl <| Md rfl <| Ac (Z40 rfl rfl (vt rfl) (Z41 (vku (8 : BitVec 64) rfl)) hq5) rfl <| Ac (Zcc rfl rfl (vt rfl) (vt rfl)) rfl <| As rfl <| Nl <| AW.seq ?_
 obtain ⟨q6, hq6, h⟩ := Z1 h
 refine Rg <| Md rfl <| Md rfl <| Ac (Z40 rfl rfl (vt rfl) (Z41 (vku (16 : BitVec 64) rfl)) hq6) rfl <| Ac (Zcc rfl rfl (vt rfl) (vt rfl)) rfl <| As rfl <| Nl <| AW.seq ?_
 obtain ⟨q7, hq7, h⟩ := Z1 h
 refine Rg <| Md rfl <| Md rfl <| Ac (Z40 rfl rfl (vt rfl) (Z41 (vku (32 : BitVec 64) rfl)) hq7) rfl <| Ac (Zcc rfl rfl (vt rfl) (vt rfl)) rfl <| As rfl <| Nl <| SR <| Md rfl <| Ac (Z7y rfl rfl Zwy un3 (vt rfl)) rfl <| Ac (Y1a rfl rfl (vt rfl) (vk rfl)) rfl <| As rfl <| Nl <| AW.ret ?_
 obtain rfl := si h
 exact Zg Tryz.results331 rfl (Zf rfl)
def Zbn (a1 : Wide) : Option Int :=
 (Zd7 a1.Hi).bind fun x3 => (Zd7 a1.Lo).bind fun x4 => some (IntKind.i64.wrap (x3 + x4))
theorem Zu4 (a1 : Wide) (r : Int) (h : Zbn a1 = some r) : PCon Tryz.prog 294 [rd Zn a1] (rd (Z0 .i64) r) := by
 refine PCon.of (Con.intro0 Tryz.func294 rfl Tryz.ntmps294 rfl fun w H => ?_)
 unfold Zbn at h
 refine SR <| Ct rfl (Zs 2 rfl rfl (vt rfl)) ?_
 rintro _ ⟨g2, rfl⟩
 refine Ak rfl <| Nl <| AW.seq ?_
 obtain ⟨x3, hx3, h⟩ := Z1 h
 obtain ⟨x4, hx4, h⟩ := Z1 h
 refine AW.regionAny [⟨[1], [3], [], []⟩, ⟨[3], [4], [2], []⟩, ⟨[4], [5], [], []⟩, ⟨[1], [6], [], []⟩, ⟨[6], [7], [2], []⟩, ⟨[7], [8], [], []⟩, ⟨[5, 8], [9], [], []⟩, ⟨[9], [2], [], []⟩] Z05 (by kernel_rfl) <| SFd Z36 Z6m rfl <| SLd Z1z 2 rfl <| SCl [4] (Zq2 _ _ hx3) Zps rfl <| SFd Z34 Z6l rfl <| SLd Z1z 2 rfl <| SCl [7] (Zq2 _ _ hx4) Zps rfl <| Sc (lo [5, 8] [] rfl fun S hs hr => Z0e rfl rfl (vh hs 5 rfl rfl) (vh hs 8 rfl rfl)) rfl <| SAs rfl <| AW.ret ?_
 obtain rfl := si h
 exact Zg Tryz.results294 rfl (Zf rfl)
def Zd0 (a1 : Wide) (i2 : Int) : Option Bool :=
 (Z8t i2).bind fun x4 => (Za9 a1 x4).bind fun x5 => (Zcr x5).bind fun x6 => some (!x6)
theorem Zr3 (a1 : Wide) (i2 : Int) (r : Bool) (h : Zd0 a1 i2 = some r) : PCon Tryz.prog 319 [rd Zn a1, rd (Z0 .i64) i2] (rd Z6 r) := by
 refine PCon.of (Con.intro0 Tryz.func319 rfl Tryz.ntmps319 rfl fun w H => ?_)
 unfold Zd0 at h
 refine SR <| Ct rfl (Zs 3 rfl rfl (vt rfl)) ?_
 rintro _ ⟨g3, rfl⟩
 refine Ab rfl <| Nl <| AW.seq ?_
 obtain ⟨x4, hx4, h⟩ := Z1 h
 obtain ⟨x5, hx5, h⟩ := Z1 h
 obtain ⟨x6, hx6, h⟩ := Z1 h
 refine AW.regionAny [⟨[2], [5], [3], []⟩, ⟨[1], [6], [], []⟩, ⟨[6], [7], [], []⟩, ⟨[5, 7], [8], [], []⟩, ⟨[8], [9], [], []⟩, ⟨[9], [10], [], []⟩, ⟨[10], [4], [], []⟩] Z05 (by kernel_rfl) <| SLd Z00 3 rfl <| SMd rfl <| SCl [6] (Zi9 _ _ hx4) Zj1 rfl <| SCl [5, 7] (Zh3 _ _ _ hx5) Zip rfl <| SCl [8] (Zmb _ _ hx6) Zjy rfl <| Sc (lo [9] [] rfl fun S hs hr => Z0x rfl rfl (vh hs 9 rfl rfl)) rfl <| SAs rfl <| AW.ret ?_
 obtain rfl := si h
 exact Zg Tryz.results319 rfl (Zf rfl)
def Z6w (x5 : Wide) : Nat → (List Int) → Int → Option (List Int)
 | 0, _, _ => none
 | m13 + 1, l10, i12 => (opt (decide (i12 ≥ 0)) (Zbn x5)).bind fun x14 => (bif ((decide (i12 ≥ 0)) && (decide ((l10.length : Int) < x14))) then (Zd0 x5 i12).bind fun x15 => (bif x15 then (Z1o l10 [i12]).bind fun l16 => (Z6w x5 m13) l16 (IntKind.i64.wrap (i12 - 1)) else (Z6w x5 m13) l10 (IntKind.i64.wrap (i12 - 1))) else some l10)
def Zgf (a1 : Tern) (b2 : Tern) : Option (List Int) :=
 (Z8b b2.Mask a1.Mask).bind fun x5 => Z6w x5 Z18 [] 127
theorem Y7h (a1 : Tern) (b2 : Tern) (r : (List Int)) (h : Zgf a1 b2 = some r) : PCon Tryz.prog 318 [rd Z4 a1, rd Z4 b2] (rd (Z2 (Z0 .i64)) r) := by
 refine PCon.of (Con.intro0 Tryz.func318 rfl Tryz.ntmps318 rfl fun w H => ?_)
 unfold Zgf at h
 refine SR <| Ct rfl (Zs 3 rfl rfl (vt rfl)) ?_
 rintro _ ⟨g3, rfl⟩
 refine Ct rfl (Zs 4 rfl rfl (vt rfl)) ?_
 rintro _ ⟨g4, rfl⟩
 refine Ac (Z0j (A := rd (Z2 (Z0 .i64)) []) rfl rfl Z3h) rfl <| Nl <| AW.seq ?_
 obtain ⟨x5, hx5, h⟩ := Z1 h
 refine Rg <| Zt Z1g Z2h rfl <| Ld Z00 4 rfl <| Zt Z1g Z2h rfl <| Ld Z00 3 rfl <| Cl [9, 11] (Ze6 _ _ _ hx5) Zgd rfl <| Ct rfl (Zo 6 rfl rfl Z2u) ?_
 rintro _ ⟨g6, rfl⟩
 refine Zh Z00 6 rfl <| Nl <| AW.seq <| AW.newnil 1001 3 (Z0 .i64) <| Rg <| Ac (Z0j rfl rfl vc) rfl <| Nl <| AW.seq <| SR <| Ak rfl <| Nl <| AW.block <| AW.loopG (d := []) (ν := Nat × (List Int) × Int × Value) (fun n => True ∧ Z6w x5 n.1 n.2.1 n.2.2.1 = some r) (fun n => n.1) (fun n => [(5, Zb g6 (Lens.id Zn)), (6, Za n.2.2.2), (7, rd (Z0 .i64) n.2.2.1)]) (fun n => [(6, Zd g6 42 Zn x5), (1001, Z9 n.2.2.2 3 (Z0 .i64) n.2.1)]) (Z18, [], 127, (.slice none 0 0)) ⟨trivial, h⟩ ⟨rfl, ⟨rfl, rfl, rfl, trivial⟩, ⟨rfl, rfl, trivial⟩⟩ ?_
 rintro ⟨m13, l10, i12, v11⟩ ⟨hsf1, h⟩
 change True at hsf1
 change Z6w x5 m13 l10 i12 = some r at h
 change AW _ _ _ ⟨Zw [(5, Zb g6 (Lens.id Zn)), (6, Za v11), (7, rd (Z0 .i64) i12)], Zx [(6, Zd g6 42 Zn x5), (1001, Z9 v11 3 (Z0 .i64) l10)], _⟩
 cases m13 with
 | zero => cases h
 | succ m13 =>
  unfold Z6w at h
  generalize hgo1 : Z6w x5 m13 = go1 at h
  refine AW.seq <| AW.seq ?_
  obtain ⟨x14, hx14, h⟩ := Z1 h
  refine Rg <| Md rfl <| Ac (Z4n rfl rfl (vt rfl) (vk rfl)) rfl <| Md rfl <| Gd rfl (fun hq => Zq (A := Za v11) rfl rfl (vt rfl)) <| Gd rfl (fun hq => Zae 1001 rfl rfl Z14 (Zm rfl hq) rfl) <| Gd rfl (fun hq => Z11 rfl rfl Z00 (vt rfl) (i := 6) rfl) <| Gd rfl (fun hq => Z0t (xs := [.tmp 18]) (Zu4 _ _ (Z1m hx14 hq)) Zry rfl rfl ⟨Zm rfl hq, trivial⟩) <| Gd rfl (fun hq => Zi rfl rfl (Zm rfl hq) (Zm rfl hq)) <| Ac (Z16 rfl rfl (vt rfl) (vt rfl)) rfl <| Nl <| Cn rfl (fun hc => ?_) (fun hc => ?_)
  ·have h := Zj hc h
   refine AW.skip <| AW.seq <| AW.block <| AW.seq ?_
   obtain ⟨x15, hx15, h⟩ := Z1 h
   refine Rg <| Ld Z00 6 rfl <| Md rfl <| Cl [24, 25] (Zr3 _ _ _ hx15) Zuv rfl <| Nl <| Cn rfl (fun hc => ?_) (fun hc => ?_)
   ·have h := Zj hc h
    obtain ⟨l16, hl16, h⟩ := Z1 h
    refine Rg <| Mw rfl <| Md rfl <| Ac (Z3k (ps := [(0, .tmp 28)]) (l := [i12]) rfl rfl Z14 zr3 rfl rfl ⟨_, _, Lens.idx 1 (Z0 .i64) 0 (by decide), _, rfl, (vt rfl), rfl⟩ rfl) rfl <| Ct rfl (Z5t 1001 hl16 rfl rfl Zju (vt rfl) rfl (vt rfl)) ?_
    rintro _ ⟨v17, rfl⟩
    refine Aw rfl <| Nl <| Rg <| Md rfl <| Ac (Z0m rfl rfl (vt rfl) (vk rfl)) rfl <| As rfl <| Nl ?_
    subst hgo1
    exact ⟨(m13, l16, (IntKind.i64.wrap (i12 - 1)), v17), Nat.lt_succ_self _, ⟨trivial, h⟩, ⟨rfl, ⟨rfl, rfl, rfl, trivial⟩, ⟨rfl, rfl, trivial⟩⟩⟩
   ·have h := Zk hc h
    refine AW.skip <| Rg <| Md rfl <| Ac (Z0m rfl rfl (vt rfl) (vk rfl)) rfl <| As rfl <| Nl ?_
    subst hgo1
    exact ⟨(m13, l10, (IntKind.i64.wrap (i12 - 1)), v11), Nat.lt_succ_self _, ⟨trivial, h⟩, ⟨rfl, ⟨rfl, rfl, rfl, trivial⟩, ⟨rfl, rfl, trivial⟩⟩⟩
  ·have h := Zk hc h
   refine AW.exit <| SR <| Mw rfl <| Aw rfl <| Nl <| AW.freezes [4, 6, 31] 1001 rfl ⟨rfl, rfl, rfl, trivial⟩ rfl <| AW.ret ?_
   obtain rfl := si h
   exact Zg Tryz.results318 rfl (Zf rfl)
def Zc7 (t1 : Tern) (i2 : Int) (on3 : Bool) : Option Tern :=
 (Z8t i2).bind fun x6 => (Z4x t1).bind fun x8 => (Z80 x8.Mask x6).bind fun x9 => (Z8b x8.Value x6).bind fun x10 => (bif on3 then (Z80 ({ { x8 with Mask := x9 } with Value := x10 }.Value) x6).bind fun x11 => some { { { x8 with Mask := x9 } with Value := x10 } with Value := x11 } else some { { x8 with Mask := x9 } with Value := x10 })
theorem Zou (t1 : Tern) (i2 : Int) (on3 : Bool) (r : Tern) (h : Zc7 t1 i2 on3 = some r) : PCon Tryz.prog 320 [rd Z4 t1, rd (Z0 .i64) i2, rd Z6 on3] (rd Z4 r) := by
 refine PCon.of (Con.intro0 Tryz.func320 rfl Tryz.ntmps320 rfl fun w H => ?_)
 unfold Zc7 at h
 refine SR <| Ct rfl (Zs 4 rfl rfl (vt rfl)) ?_
 rintro _ ⟨g4, rfl⟩
 refine Ct rfl (Zo 7 rfl rfl Z1k) ?_
 rintro _ ⟨g5, rfl⟩
 refine Nl <| AW.seq ?_
 obtain ⟨x6, hx6, h⟩ := Z1 h
 refine Rg <| Md rfl <| Cl [8] (Zi9 _ _ hx6) Zj1 rfl <| Ct rfl (Zo 8 rfl rfl Z2u) ?_
 rintro _ ⟨g7, rfl⟩
 refine Zh Z00 8 rfl <| Nl <| AW.seq ?_
 obtain ⟨x8, hx8, h⟩ := Z1 h
 refine Rg <| Ld Zz 4 rfl <| Cl [10] (Z7w _ _ hx8) Z7l rfl <| Zh Zz 4 rfl <| Nl <| AW.seq ?_
 obtain ⟨x9, hx9, h⟩ := Z1 h
 obtain ⟨x10, hx10, h⟩ := Z1 h
 refine AW.regionAny [⟨[3], [12], [], []⟩, ⟨[12], [13], [4], []⟩, ⟨[7], [14], [8], []⟩, ⟨[13, 14], [15], [], []⟩, ⟨[3], [16], [], []⟩, ⟨[16], [17], [4], []⟩, ⟨[7], [18], [8], []⟩, ⟨[17, 18], [19], [], []⟩, ⟨[3], [20], [], []⟩, ⟨[20, 15], [], [4], [4]⟩, ⟨[3], [21], [], []⟩, ⟨[21, 19], [], [4], [4]⟩] Z05 (by kernel_rfl) <| SFd Z1g Z2h rfl <| SLd Z00 4 rfl <| SLd Z00 8 rfl <| SCl [13, 14] (Zb0 _ _ _ hx9) Zdd rfl <| SFd Z1p Z38 rfl <| SLd Z00 4 rfl <| SLd Z00 8 rfl <| SCl [17, 18] (Ze6 _ _ _ hx10) Zgd rfl <| SFd Z1g Z2h rfl <| SSt Z00 4 rfl <| SFd Z1p Z38 rfl <| SSt Z00 4 rfl <| AW.seq <| SR <| Md rfl <| Nl <| Cn rfl (fun hc => ?_) (fun hc => ?_)
 ·have h := Zj hc h
  obtain ⟨x11, hx11, h⟩ := Z1 h
  refine Rg <| Zt Z1p Z38 rfl <| Ld Z00 4 rfl <| Ld Z00 8 rfl <| Cl [24, 25] (Zb0 _ _ _ hx11) Zdd rfl <| Zt Z1p Z38 rfl <| Zh Z00 4 rfl <| Nl <| SR <| Ld Zz 4 rfl <| Zh Zz 7 rfl <| Nl <| AW.ret ?_
  obtain rfl := si h
  exact Zg Tryz.results320 rfl (Z04 rfl (i := 7) rfl Zz)
 ·have h := Zk hc h
  refine AW.skip <| SR <| Ld Zz 4 rfl <| Zh Zz 7 rfl <| Nl <| AW.ret ?_
  obtain rfl := si h
  exact Zg Tryz.results320 rfl (Z04 rfl (i := 7) rfl Zz)
end Go.Proofs.YtknpgojdkobgjaaGreat.W
