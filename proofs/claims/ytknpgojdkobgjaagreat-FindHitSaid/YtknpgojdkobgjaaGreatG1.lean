/- A part of the proof. -/
import Derived.Test.YtknpgojdkobgjaaGreatG0
set_option linter.unusedVariables false
set_option maxRecDepth 4000
set_option linter.unusedSimpArgs false
namespace Go.Proofs.YtknpgojdkobgjaaGreat.W
open Go Go.Wb
theorem Zv5 : Ent Tryz.prog 268 := Ent.mk Tryz.func268 rfl rfl
theorem Zzu : Ent Tryz.prog 270 := Ent.mk Tryz.func270 rfl rfl
theorem e77 : Ent Tryz.prog 77 := Ent.mk Tryz.func77 rfl rfl
theorem Zjb : Ent Tryz.prog 207 := Ent.mk Tryz.func207 rfl rfl
theorem Zmg : Ent Tryz.prog 327 := Ent.mk Tryz.func327 rfl rfl
theorem Yf0 : Ent Tryz.prog 332 := Ent.mk Tryz.func332 rfl rfl
theorem Zsu : Ent Tryz.prog 287 := Ent.mk Tryz.func287 rfl rfl
theorem Y5w : Ent Tryz.prog 298 := Ent.mk Tryz.func298 rfl rfl
theorem Y4l : Ent Tryz.prog 304 := Ent.mk Tryz.func304 rfl rfl
theorem Y9t : Ent Tryz.prog 303 := Ent.mk Tryz.func303 rfl rfl
theorem Y2z : Ent Tryz.prog 265 := Ent.mk Tryz.func265 rfl rfl
def Z7z (r1 : Z5) (f2 : Int) (value3 : Wide) (mask4 : Wide) : Option Z5 :=
 (Zea r1).bind fun x9 => (Z72 f2).bind fun x10 => (bif x10 then (chk 24 f2).bind fun j11 => (Zjv (Vector.get x9 j11) (⟨value3, mask4⟩ : Tern)).bind fun x12 => (chk 24 f2).bind fun j13 => some (Vector.set x9 j13.1 x12 j13.2) else some x9)
theorem Zgi (r1 : Z5) (f2 : Int) (value3 : Wide) (mask4 : Wide) (r : Z5) (h : Z7z r1 f2 value3 mask4 = some r) : PCon Tryz.prog 207 [rd (Z2 24 Z3) r1, rd (Z0 .i64) f2, rd Zh value3, rd Zh mask4] (rd (Z2 24 Z3) r) := by
 refine PCon.of (Con.intro0 Tryz.func207 rfl Tryz.ntmps207 rfl fun w H => ?_)
 unfold Z7z at h
 refine SR <| Ct rfl (Zn 5 rfl rfl (vt rfl)) ?_
 rintro _ ⟨g5, rfl⟩
 refine Ct rfl (Zn 7 rfl rfl (vt rfl)) ?_
 rintro _ ⟨g6, rfl⟩
 refine Ct rfl (Zn 8 rfl rfl (vt rfl)) ?_
 rintro _ ⟨g7, rfl⟩
 refine Ct rfl (Zq 9 rfl rfl Z36) ?_
 rintro _ ⟨g8, rfl⟩
 refine Nl <| AW.seq ?_
 obtain ⟨x9, hx9, h⟩ := Z1 h
 refine Rg <| Ld Z04 5 rfl <| Cl [9] (Y1b _ _ hx9) Zv5 rfl <| Zj Z04 5 rfl <| Nl <| AW.seq <| AW.seq ?_
 obtain ⟨x10, hx10, h⟩ := Z1 h
 refine Rg <| Md rfl <| Cl [11] (Zmc _ _ hx10) Zmn rfl <| Nl <| Cn rfl (fun hc => ?_) (fun hc => ?_)
 ·have h := Zf hc h
  obtain ⟨j11, hj11, h⟩ := Z1 h
  obtain ⟨x12, hx12, h⟩ := Z1 h
  obtain ⟨j13, hj13, h⟩ := Z1 h
  refine AW.regionAny [⟨[1], [13], [], []⟩, ⟨[1], [14], [], []⟩, ⟨[4, 14], [15], [], []⟩, ⟨[15], [16], [5], []⟩, ⟨[6], [17], [7], []⟩, ⟨[7], [18], [8], []⟩, ⟨[17, 18], [19], [], []⟩, ⟨[16, 19], [20], [], []⟩, ⟨[4, 13], [21], [], []⟩, ⟨[21, 20], [], [5], [5]⟩] Z05 (by kernel_rfl) <| Zu rfl <| Zu rfl <| Sc (lo [4, 14] [] rfl fun S hs hr => Z1b rfl rfl Z3g (vh hs 4 rfl rfl) (vh hs 14 rfl rfl) hj11) rfl <| Zo Zz 5 rfl <| Zo Zv 7 rfl <| Zo Zv 8 rfl <| Sc (lo [17, 18] [] rfl fun S hs hr => Z00 (ps := [(0, .tmp 17), (1, .tmp 18)]) (x := (⟨value3, mask4⟩ : Tern)) rfl rfl rfl (by kernel_rfl) Z1a ⟨_, _, Z1c, _, by kernel_rfl, (vh hs 17 rfl rfl), _, _, Z0v, _, by kernel_rfl, (vh hs 18 rfl rfl), rfl⟩) rfl <| SCl [16, 19] (Zzh _ _ _ hx12) Zzu rfl <| Sc (lo [4, 13] [] rfl fun S hs hr => Z1b rfl rfl Z3g (vh hs 4 rfl rfl) (vh hs 13 rfl rfl) hj13) rfl <| SSt Zz 5 rfl <| SR <| Ld Z04 5 rfl <| Zj Z04 9 rfl <| Nl <| AW.ret ?_
  obtain rfl := si h
  exact Zi Tryz.results207 rfl (Z01 rfl (i := 9) rfl Z04)
 ·have h := Zg hc h
  refine AW.skip <| SR <| Ld Z04 5 rfl <| Zj Z04 9 rfl <| Nl <| AW.ret ?_
  obtain rfl := si h
  exact Zi Tryz.results207 rfl (Z01 rfl (i := 9) rfl Z04)
def Zax (i1 : Int) : Option Wide :=
 (bif ((decide (i1 < 0)) || (decide (i1 > 127))) then some (⟨0, 0⟩ : Wide) else (Zf9 .i64 i1 64).bind fun q4 => (Zb1 i1 64).bind fun q5 => (Z80 (1 : BitVec 64) q5).bind fun q6 => (chk 2 q4).bind fun j7 => some (⟨(Vector.get (Vector.set (Vector.replicate 2 0) j7.1 q6 j7.2) (⟨1, by decide⟩ : _root_.Fin 2)), (Vector.get (Vector.set (Vector.replicate 2 0) j7.1 q6 j7.2) (⟨0, by decide⟩ : _root_.Fin 2))⟩ : Wide))
theorem Zn4 (i1 : Int) (r : Wide) (h : Zax i1 = some r) : PCon Tryz.prog 327 [rd (Z0 .i64) i1] (rd Zh r) := by
 refine PCon.of (Con.intro0 Tryz.func327 rfl Tryz.ntmps327 rfl fun w H => ?_)
 unfold Zax at h
 refine SR <| Ct rfl (Zq 3 rfl rfl Z1l) ?_
 rintro _ ⟨g2, rfl⟩
 refine Nl <| SR <| Ct rfl (Zq 4 rfl rfl Y9d) ?_
 rintro _ ⟨g3, rfl⟩
 refine Nl <| AW.seq <| SR <| Md rfl <| Ac (Zp rfl rfl (vt rfl) (vk rfl)) rfl <| Md rfl <| Gd rfl (fun hq => Zt (A := rd (Z0 .i64) i1) rfl rfl (vt rfl)) <| Gd rfl (fun hq => Z3l rfl rfl (Zs rfl hq) (vk rfl)) <| Ac (Z68 rfl rfl (vt rfl) (vt rfl)) rfl <| Nl <| Cn rfl (fun hc => ?_) (fun hc => ?_)
 ·have h := Zf hc h
  refine SR <| Ac (Z00 (ps := []) (x := (⟨0, 0⟩ : Wide)) rfl rfl rfl (by kernel_rfl) Z1l rfl) rfl <| Zj Zv 3 rfl <| Nl <| AW.ret ?_
  obtain rfl := si h
  exact Zi Tryz.results327 rfl (Z01 rfl (i := 3) rfl Zv)
 ·have h := Zg hc h
  refine AW.skip <| AW.seq ?_
  obtain ⟨q4, hq4, h⟩ := Z1 h
  obtain ⟨q5, hq5, h⟩ := Z1 h
  obtain ⟨q6, hq6, h⟩ := Z1 h
  obtain ⟨j7, hj7, h⟩ := Z1 h
  refine Rg <| Md rfl <| Ac (Ydx rfl rfl (vt rfl) (vk rfl) hq4) rfl <| Md rfl <| Ac (Zt3 rfl rfl (vt rfl) (vk rfl) hq5) rfl <| Ac (Znm rfl rfl (vku (1 : BitVec 64) rfl) (vt rfl) hq6) rfl <| Ac (Z1b rfl rfl Zq5 (vt rfl) (vt rfl) hj7) rfl <| Zj Z1d 4 rfl <| Nl <| SR <| Ac (Z1b rfl rfl Zq5 (vt rfl) (vk rfl) rfl) rfl <| Ld Z1d 4 rfl <| Ac (Z1b rfl rfl Zq5 (vt rfl) (vk rfl) rfl) rfl <| Ld Z1d 4 rfl <| Ac (Z00 (ps := [(0, .tmp 18), (1, .tmp 20)]) (x := (⟨(Vector.get (Vector.set (Vector.replicate 2 0) j7.1 q6 j7.2) (⟨1, by decide⟩ : _root_.Fin 2)), (Vector.get (Vector.set (Vector.replicate 2 0) j7.1 q6 j7.2) (⟨0, by decide⟩ : _root_.Fin 2))⟩ : Wide)) rfl rfl rfl (by kernel_rfl) Z1l ⟨_, _, Z28, _, by kernel_rfl, (vt rfl), _, _, Z1y, _, by kernel_rfl, (vt rfl), rfl⟩) rfl <| Zj Zv 3 rfl <| Nl <| AW.ret ?_
  obtain rfl := si h
  exact Zi Tryz.results327 rfl (Z01 rfl (i := 3) rfl Zv)
def Zek (a1 : Action) : Option Z5 :=
 (Zdf).bind fun x4 => (bif (decide (a1.Kind = 25)) then (Zdw a1.Oxm).bind fun x6 => (Z7z x4 a1.Oxm.Field x6.Value x6.Mask).bind fun x8 => some x8 else (bif (decide (a1.Kind = 17)) then (Zax 12).bind fun x9 => (Zax 12).bind fun x10 => (Z7z x4 5 x9 x10).bind fun x11 => some x11 else (bif (decide (a1.Kind = 18)) then (Z9a 13).bind fun x12 => (Z7z x4 5 (⟨0, 0⟩ : Wide) x12).bind fun x13 => (Z9a 3).bind fun x14 => (Z7z x13 6 (⟨0, 0⟩ : Wide) x14).bind fun x15 => some x15 else some x4)))
theorem Zxv (a1 : Action) (r : Z5) (h : Zek a1 = some r) : PCon Tryz.prog 287 [rd Z6 a1] (rd (Z2 24 Z3) r) := by
 refine PCon.of (Con.intro0 Tryz.func287 rfl Tryz.ntmps287 rfl fun w H => ?_)
 unfold Zek at h
 refine SR <| Ct rfl (Zn 2 rfl rfl (vt rfl)) ?_
 rintro _ ⟨g2, rfl⟩
 refine Ct rfl (Zq 3 rfl rfl Z36) ?_
 rintro _ ⟨g3, rfl⟩
 refine Nl <| AW.seq ?_
 obtain ⟨x4, hx4, h⟩ := Z1 h
 refine Rg <| Cl [] (Zwt _ hx4) e77 rfl <| Ct rfl (Zq 4 rfl rfl Z36) ?_
 rintro _ ⟨g5, rfl⟩
 refine Zj Z04 4 rfl <| Nl <| AW.seq <| SR <| Zl Z4d Z4s rfl <| Ld ty3 2 rfl <| Nl <| AW.block <| SR <| Ac (Z0i rfl rfl (vt rfl) (vk rfl)) rfl <| As rfl <| Nl <| Cn rfl (fun hc => ?_) (fun hc => ?_)
 ·have h := Zf hc h
  refine AW.seq ?_
  obtain ⟨x6, hx6, h⟩ := Z1 h
  refine Rg <| Zl Z7l Z9v rfl <| Ld Ze0 2 rfl <| Cl [11] (Zzp _ _ hx6) Zwe rfl <| Ct rfl (Zq 5 rfl rfl Z1a) ?_
  rintro _ ⟨g7, rfl⟩
  refine Zj Zz 5 rfl <| Nl ?_
  obtain ⟨x8, hx8, h⟩ := Z1 h
  refine Rg <| Ld Z04 4 rfl <| Zl Z7l Z9v rfl <| Zl Z46 Z4l rfl <| Ld ty3 2 rfl <| Zl Z1c Z2i rfl <| Ld Zv 5 rfl <| Zl Z0v Z1x rfl <| Ld Zv 5 rfl <| Cl [13, 16, 18, 20] (Zgi _ _ _ _ _ hx8) Zjb rfl <| Zj Z04 4 rfl <| Nl <| SR <| Ld Z04 4 rfl <| Zj Z04 3 rfl <| Nl <| AW.ret ?_
  obtain rfl := si h
  exact Zi Tryz.results287 rfl (Z01 rfl (i := 3) rfl Z04)
 ·have h := Zg hc h
  refine SR <| Ac (Z0i rfl rfl (vt rfl) (vk rfl)) rfl <| As rfl <| Nl <| Cn rfl (fun hc => ?_) (fun hc => ?_)
  ·have h := Zf hc h
   obtain ⟨x9, hx9, h⟩ := Z1 h
   obtain ⟨x10, hx10, h⟩ := Z1 h
   obtain ⟨x11, hx11, h⟩ := Z1 h
   refine AW.regionAny [⟨[3], [24], [4], []⟩, ⟨[], [25], [], []⟩, ⟨[], [26], [], []⟩, ⟨[24, 25, 26], [27], [], []⟩, ⟨[3, 27], [], [4], [4]⟩] Z05 (by kernel_rfl) <| Zo Z04 4 rfl <| Sc (lo [] [] rfl fun S hs hr => Z11 (xs := [.const (Value.int IntKind.i64 12)]) (Zn4 _ _ hx9) Zmg rfl rfl ⟨vk rfl, trivial⟩) rfl <| Sc (lo [] [] rfl fun S hs hr => Z11 (xs := [.const (Value.int IntKind.i64 12)]) (Zn4 _ _ hx10) Zmg rfl rfl ⟨vk rfl, trivial⟩) rfl <| Sc (lo [24, 25, 26] [] rfl fun S hs hr => Z11 (xs := [.tmp 24, .const (Value.int IntKind.i64 5), .tmp 25, .tmp 26]) (Zgi _ _ _ _ _ hx11) Zjb rfl rfl ⟨vt ((hs 24 rfl).trans rfl), vk rfl, vt ((hs 25 rfl).trans rfl), vt ((hs 26 rfl).trans rfl), trivial⟩) rfl <| SSt Z04 4 rfl <| SR <| Ld Z04 4 rfl <| Zj Z04 3 rfl <| Nl <| AW.ret ?_
   obtain rfl := si h
   exact Zi Tryz.results287 rfl (Z01 rfl (i := 3) rfl Z04)
  ·have h := Zg hc h
   refine SR <| Ac (Z0i rfl rfl (vt rfl) (vk rfl)) rfl <| As rfl <| Nl <| Cn rfl (fun hc => ?_) (fun hc => ?_)
   ·have h := Zf hc h
    refine AW.seq ?_
    obtain ⟨x12, hx12, h⟩ := Z1 h
    obtain ⟨x13, hx13, h⟩ := Z1 h
    refine AW.regionAny [⟨[3], [30], [4], []⟩, ⟨[], [31], [], []⟩, ⟨[], [32], [], []⟩, ⟨[30, 31, 32], [33], [], []⟩, ⟨[3, 33], [], [4], [4]⟩] Z05 (by kernel_rfl) <| Zo Z04 4 rfl <| Sc (lo [] [] rfl fun S hs hr => Z00 (ps := []) (x := (⟨0, 0⟩ : Wide)) rfl rfl rfl (by kernel_rfl) Z1l rfl) rfl <| Sc (lo [] [] rfl fun S hs hr => Z11 (xs := [.const (Value.int IntKind.i64 13)]) (Zs9 _ _ hx12) Znr rfl rfl ⟨vk rfl, trivial⟩) rfl <| Sc (lo [30, 31, 32] [] rfl fun S hs hr => Z11 (xs := [.tmp 30, .const (Value.int IntKind.i64 5), .tmp 31, .tmp 32]) (Zgi _ _ _ _ _ hx13) Zjb rfl rfl ⟨vt ((hs 30 rfl).trans rfl), vk rfl, vt ((hs 31 rfl).trans rfl), vt ((hs 32 rfl).trans rfl), trivial⟩) rfl <| SSt Z04 4 rfl ?_
    obtain ⟨x14, hx14, h⟩ := Z1 h
    obtain ⟨x15, hx15, h⟩ := Z1 h
    refine AW.regionAny [⟨[3], [34], [4], []⟩, ⟨[], [35], [], []⟩, ⟨[], [36], [], []⟩, ⟨[34, 35, 36], [37], [], []⟩, ⟨[3, 37], [], [4], [4]⟩] Z05 (by kernel_rfl) <| Zo Z04 4 rfl <| Sc (lo [] [] rfl fun S hs hr => Z00 (ps := []) (x := (⟨0, 0⟩ : Wide)) rfl rfl rfl (by kernel_rfl) Z1l rfl) rfl <| Sc (lo [] [] rfl fun S hs hr => Z11 (xs := [.const (Value.int IntKind.i64 3)]) (Zs9 _ _ hx14) Znr rfl rfl ⟨vk rfl, trivial⟩) rfl <| Sc (lo [34, 35, 36] [] rfl fun S hs hr => Z11 (xs := [.tmp 34, .const (Value.int IntKind.i64 6), .tmp 35, .tmp 36]) (Zgi _ _ _ _ _ hx15) Zjb rfl rfl ⟨vt ((hs 34 rfl).trans rfl), vk rfl, vt ((hs 35 rfl).trans rfl), vt ((hs 36 rfl).trans rfl), trivial⟩) rfl <| SSt Z04 4 rfl <| SR <| Ld Z04 4 rfl <| Zj Z04 3 rfl <| Nl <| AW.ret ?_
    obtain rfl := si h
    exact Zi Tryz.results287 rfl (Z01 rfl (i := 3) rfl Z04)
   ·have h := Zg hc h
    refine AW.skip <| SR <| Ld Z04 4 rfl <| Zj Z04 3 rfl <| Nl <| AW.ret ?_
    obtain rfl := si h
    exact Zi Tryz.results287 rfl (Z01 rfl (i := 3) rfl Z04)
def Zep (i1 : Int) (cp2 : Z5) (cp3 : Z5) : Option Tern :=
 (chk 24 i1).bind fun j5 => (chk 24 i1).bind fun j6 => (Zjv (Vector.get cp2 j5) (Vector.get cp3 j6)).bind fun x7 => some x7
theorem Yc5 (i1 : Int) (cp2 : Z5) (cp3 : Z5) (r : Tern) (h : Zep i1 cp2 cp3 = some r) : PCon Tryz.prog 332 [rd (Z0 .i64) i1, rp (Z2 24 Z3) cp2, rp (Z2 24 Z3) cp3] (rd Z3 r) := by
 refine PCon.of (Con.intro0 Tryz.func332 rfl Tryz.ntmps332 rfl fun w H => ?_)
 unfold Zep at h
 refine SR <| Ct rfl (Zq 5 rfl rfl Z1a) ?_
 rintro _ ⟨g4, rfl⟩
 refine Nl <| AW.seq ?_
 obtain ⟨j5, hj5, h⟩ := Z1 h
 obtain ⟨j6, hj6, h⟩ := Z1 h
 obtain ⟨x7, hx7, h⟩ := Z1 h
 refine AW.regionAny [⟨[0], [5], [], []⟩, ⟨[1, 5], [6], [], []⟩, ⟨[6], [7], [], []⟩, ⟨[0], [8], [], []⟩, ⟨[2, 8], [9], [], []⟩, ⟨[9], [10], [], []⟩, ⟨[7, 10], [11], [], []⟩, ⟨[4, 11], [], [5], [5]⟩] Z05 (by kernel_rfl) <| Zu rfl <| Sc (lo [1, 5] [] rfl fun S hs hr => Z6i rfl rfl Z3g (vh hs 1 rfl rfl) (vh hs 5 rfl rfl) hj5) rfl <| SLp Zz rfl <| Zu rfl <| Sc (lo [2, 8] [] rfl fun S hs hr => Z6i rfl rfl Z3g (vh hs 2 rfl rfl) (vh hs 8 rfl rfl) hj6) rfl <| SLp Zz rfl <| SCl [7, 10] (Zzh _ _ _ hx7) Zzu rfl <| SSt Zz 5 rfl <| AW.ret ?_
 obtain rfl := si h
 exact Zi Tryz.results332 rfl (Z01 rfl (i := 5) rfl Zz)
def Zhj (a1 : Z5) (b2 : Z5) : Option Z5 :=
 (Zfd (fun x => Zep x a1 b2)).bind fun x6 => some x6
theorem Ygc (a1 : Z5) (b2 : Z5) (r : Z5) (h : Zhj a1 b2 = some r) : PCon Tryz.prog 298 [rd (Z2 24 Z3) a1, rd (Z2 24 Z3) b2] (rd (Z2 24 Z3) r) := by
 refine PCon.of (Con.intro0 Tryz.func298 rfl Tryz.ntmps298 rfl fun w H => ?_)
 unfold Zhj at h
 refine SR <| Ct rfl (Zn 3 rfl rfl (vt rfl)) ?_
 rintro _ ⟨g3, rfl⟩
 refine Ct rfl (Zn 4 rfl rfl (vt rfl)) ?_
 rintro _ ⟨g4, rfl⟩
 refine Ct rfl (Zq 5 rfl rfl Z36) ?_
 rintro _ ⟨g5, rfl⟩
 refine Nl <| AW.seq <| AW.freezeB 2 3 rfl rfl rfl <| AW.freezeB 3 4 rfl rfl rfl ?_
 obtain ⟨x6, hx6, h⟩ := Z1 h
 refine Rg <| Ac (Z79 (cs := [.tmp 2, .tmp 3]) (CAs := [rp (Z2 24 Z3) a1, rp (Z2 24 Z3) b2]) (fun x => Zep x a1 b2) rfl rfl Yf0 ⟨vt rfl, vt rfl, trivial⟩ (fun x y h => Yc5 _ _ _ y h)) rfl <| Cl [5] (Zvh _ _ hx6) Zw9 rfl <| Zj Z04 5 rfl <| Nl <| AW.ret ?_
 obtain rfl := si h
 exact Zi Tryz.results298 rfl (Z01 rfl (i := 5) rfl Z04)
def Zbu (t1 : Z4x) (b7 : Atom) : Option Z4x :=
 (Z0u t1.atoms [b7]).bind fun l8 => some (⟨t1.got, l8⟩ : Z4x)
def Zbw (t1 : Z4x) (a4 : Action) : Option Z4x :=
 (bif (decide (a4.Kind = 0)) then (bif (decide (a4.Port = 4294967293)) then Zbu t1 { { (⟨t1.got, false, 0, 0⟩ : Atom) with Port := a4.Port } with Max := a4.Max } else Zbu t1 { (⟨t1.got, false, 0, 0⟩ : Atom) with Port := a4.Port }) else (bif (decide (a4.Kind = 22)) then Zbu t1 { { (⟨t1.got, false, 0, 0⟩ : Atom) with Group := true } with Port := a4.Group } else (Zek a4).bind fun x10 => (Zhj t1.got x10).bind fun x11 => some (⟨x11, t1.atoms⟩ : Z4x)))
theorem Ycr (g2 gT : Nat) (t1 : Z4x) (a4 : Action) (r : Z4x) (h : Zbw t1 a4 = some r) : Con Tryz.prog 304 [Z7 g2 (Lens.id Z44), rd Z6 a4] (Z1k g2 gT Z44 (fun v => (⟨t1.got, v⟩ : atom_trace_o1)) 126 Z06 t1.atoms) (fun _ : Unit => top) (fun _ => Z1k g2 gT Z44 (fun v => (⟨r.got, v⟩ : atom_trace_o1)) 126 Z06 r.atoms) := by
 refine Con.intro Tryz.func304 rfl Tryz.ntmps304 rfl fun w H X => ?_
 unfold Zbw at h
 refine AW.unboxF 0 2001 (by decide) rfl rfl fun v3 => SR <| Ct rfl (Zn 4 rfl rfl (vt rfl)) ?_
 rintro _ ⟨g5, rfl⟩
 refine Nl <| SR <| Mp rfl <| Nc rfl <| Zl Zf1 Zku rfl <| Ld Z04 0 rfl <| Ac (Z00 (ps := [(0, .tmp 8)]) (x := (⟨t1.got, false, 0, 0⟩ : Atom)) rfl rfl rfl (by kernel_rfl) Z4o ⟨_, _, Zj0, _, by kernel_rfl, (vt rfl), rfl⟩) rfl <| Ct rfl (Zq 5 rfl rfl Z4o) ?_
 rintro _ ⟨g6, rfl⟩
 refine Zj Zc5 5 rfl <| Nl ?_
 refine AW.join (d := []) (ν := Atom) (fun n => Zbu t1 n = some r) (fun n => [(0, Z7 g2 (Lens.id Z44)), (4, Z7 g6 (Lens.id Z06))]) (fun n => [(0, Z9 g2 gT Z44 (⟨t1.got, v3⟩ : atom_trace_o1)), (5, Z9 g6 126 Z06 n), (2001, Zb v3 126 Z06 t1.atoms)]) ?hx1 ?hy1
 case hy1 =>
  intro b7 h
  unfold Zbu at h
  change AW _ _ _ ⟨Zw [(0, Z7 g2 (Lens.id Z44)), (4, Z7 g6 (Lens.id Z06))], Zx [(0, Z9 g2 gT Z44 (⟨t1.got, v3⟩ : atom_trace_o1)), (5, Z9 g6 126 Z06 b7), (2001, Zb v3 126 Z06 t1.atoms)], _⟩
  obtain ⟨l8, hl8, h⟩ := Z1 h
  refine AW.endT <| AW.regionAny [⟨[0], [39], [], []⟩, ⟨[0], [40], [], []⟩, ⟨[40], [41], [], []⟩, ⟨[41], [42], [], []⟩, ⟨[42], [43], [0], []⟩, ⟨[4], [44], [5], []⟩, ⟨[44], [45], [], []⟩, ⟨[43, 45], [46], [2001], [2001]⟩, ⟨[39], [47], [], []⟩, ⟨[47], [48], [], []⟩, ⟨[48, 46], [46], [0], [0]⟩] Z05 (by kernel_rfl) <| SMp rfl <| SMp rfl <| SNc rfl <| SFd Ziu Zq9 rfl <| Sc (lo [42] [0] rfl fun S hs hr => Zd2 v3 rfl rfl Zpw (vh hs 42 rfl rfl) (i := 0) ((hr 0 rfl).trans rfl) rfl) rfl <| Zo Zc5 5 rfl <| Sc (lo [44] [] rfl fun S hs hr => Z2g (ps := [(0, .tmp 44)]) (l := [b7]) rfl rfl Z54 Z4o rfl rfl ⟨_, _, Lens.idx 1 Z06 0 (by decide), _, rfl, (vh hs 44 rfl rfl), rfl⟩ rfl) rfl <| Sc (Z16 (us := [(46, Z1p 126 Z06 l8)]) (ur := [(2001, emp)]) [43, 45] [2001] rfl fun S hs hr => Z7a 2001 hl8 rfl rfl rfl Z8s (vh hs 43 rfl rfl) ((hr 2001 rfl).trans rfl) (vh hs 45 rfl rfl)) rfl <| SNc rfl <| SFd Ziu Zq9 rfl <| Sc (Z16 (us := [(46, top)]) (ur := [(0, Z1k g2 gT Z44 (fun v => ((Lens.comp (Lens.id Z44) Ziu)).set (⟨t1.got, v3⟩ : atom_trace_o1) v) 126 Z06 l8)]) [48, 46] [0] rfl fun S hs hr => Zs4 rfl rfl Zpw (vh hs 48 rfl rfl) ((hr 0 rfl).trans rfl) ((hs 46 rfl).trans rfl)) rfl <| EndT.unboxF 0 2001 (by decide) rfl rfl fun v9 => EndT.done ?_
  obtain rfl := si h
  exact RetOK.turn (Turn.packF 0 2001 (fun v => (⟨t1.got, v⟩ : atom_trace_o1)) (by decide) rfl rfl) (Z27 (i := 0) Tryz.results304 rfl rfl)
 case hx1 =>
  refine SR <| Zl Z4d Z4s rfl <| Ld ty3 4 rfl <| Nl <| AW.block <| SR <| Ac (Z0i rfl rfl (vt rfl) (vk rfl)) rfl <| As rfl <| Nl <| Cn rfl (fun hc => ?_) (fun hc => ?_)
  ·have h := Zf hc h
   refine SR <| Zl Zf2 Zh2 rfl <| Ld ty3 4 rfl <| Zl Z84 Zih rfl <| Zj ty3 5 rfl <| Nl <| SR <| Zl Zf2 Zh2 rfl <| Ld ty3 4 rfl <| Ac (Z0i rfl rfl (vt rfl) (vk rfl)) rfl <| Nl <| Cn rfl (fun hc => ?_) (fun hc => ?_)
   ·have h := Zf hc h
    refine Rg <| Zl Zma Zo1 rfl <| Ld ty3 4 rfl <| Zl Zm4 Zr3 rfl <| Zj ty3 5 rfl <| Nl ?_
    exact ⟨{ { (⟨t1.got, false, 0, 0⟩ : Atom) with Port := a4.Port } with Max := a4.Max }, h, FX rfl⟩
   ·have h := Zg hc h
    refine AW.skip ?_
    exact ⟨{ (⟨t1.got, false, 0, 0⟩ : Atom) with Port := a4.Port }, h, FX rfl⟩
  ·have h := Zg hc h
   refine SR <| Ac (Z0i rfl rfl (vt rfl) (vk rfl)) rfl <| As rfl <| Nl <| Cn rfl (fun hc => ?_) (fun hc => ?_)
   ·have h := Zf hc h
    refine AW.regionAny [⟨[3], [35], [], []⟩, ⟨[35], [36], [4], []⟩, ⟨[4], [37], [], []⟩, ⟨[37], [], [5], [5]⟩, ⟨[4], [38], [], []⟩, ⟨[38, 36], [], [5], [5]⟩] Z05 (by kernel_rfl) <| SFd Zm3 Zp0 rfl <| Zo ty3 4 rfl <| SFd Zmr Zun rfl <| Sc (Z3t [37] [5] rfl fun S hs hr => Zan rfl rfl ty4 (vh hs 37 rfl rfl) (i := 5) ((hr 5 rfl).trans rfl) vb) rfl <| SFd Z84 Zih rfl <| SSt ty3 5 rfl ?_
    exact ⟨{ { (⟨t1.got, false, 0, 0⟩ : Atom) with Group := true } with Port := a4.Group }, h, FX rfl⟩
   ·have h := Zg hc h
    refine AW.seq ?_
    obtain ⟨x10, hx10, h⟩ := Z1 h
    obtain ⟨x11, hx11, h⟩ := Z1 h
    refine AW.regionAny [⟨[0], [12], [], []⟩, ⟨[0], [13], [], []⟩, ⟨[13], [14], [], []⟩, ⟨[14], [15], [], []⟩, ⟨[15], [16], [0], []⟩, ⟨[3], [17], [4], []⟩, ⟨[17], [18], [], []⟩, ⟨[16, 18], [19], [], []⟩, ⟨[12], [20], [], []⟩, ⟨[20], [21], [], []⟩, ⟨[21, 19], [], [0], [0]⟩] Z05 (by kernel_rfl) <| SMp rfl <| SMp rfl <| SNc rfl <| SFd Zf1 Zku rfl <| Zo Z04 0 rfl <| Zo Z0n 4 rfl <| SCl [17] (Zxv _ _ hx10) Zsu rfl <| SCl [16, 18] (Ygc _ _ _ hx11) Y5w rfl <| SNc rfl <| SFd Zf1 Zku rfl <| SSt Z04 0 rfl <| AW.ret ?_
    obtain rfl := si h
    exact RetOK.turn (Turn.packF 0 2001 (fun v => (⟨x11, v⟩ : atom_trace_o1)) (by decide) rfl rfl) (Z27 (i := 0) Tryz.results304 rfl rfl)
def Z7p (sg : Type) (do2 : (sg → Action → Option sg)) : (List Action) → Nat → sg → Option sg
 | [], i6, s5 => some s5
 | x8 :: l7, i6, s5 => (do2 s5 x8).bind fun s10 => (Z7p sg do2 l7) (i6 + 1) s10
def Zkq (l1 : (List Action)) (sg : Type) (do2 : (sg → Action → Option sg)) (s3 : sg) : Option sg :=
 Z7p sg do2 l1 0 s3
theorem Ybf (l1 : (List Action)) (sg : Type) (do2 : (sg → Action → Option sg)) (L : sg → Res) (s3 : sg) (r : sg) (h : Zkq l1 sg do2 s3 = some r) : Con Tryz.prog 303 [rd (Z4 Z6) l1, stA Tryz.prog Z6 do2 L] (L s3) (fun _ : Unit => top) (fun _ => L r) := by
 refine Con.intro Tryz.func303 rfl Tryz.ntmps303 rfl fun w H X => ?_
 unfold Zkq at h
 refine SR <| Md rfl <| Ac (Z0x rfl rfl Z0e (vt rfl)) rfl <| Mk rfl <| Nl <| AW.block <| AW.loopG (d := []) (ν := (List Action) × Nat × sg) (fun n => Sfx l1 n.2.1 n.1 ∧ Z7p sg do2 n.1 n.2.1 n.2.2 = some r) (fun n => n.1.length) (fun n => [(1, stA Tryz.prog Z6 do2 L), (6, rd (Z4 Z6) l1), (7, rd (Z0 .i64) (l1.length : Int)), (8, rd (Z0 .i64) (n.2.1 : Int))]) (fun n => [(0, L n.2.2)]) (l1, 0, s3) ⟨Sfx.start _, h⟩ (FX rfl) ?_
 rintro ⟨l7, i6, s5⟩ ⟨hsf1, h⟩
 change Sfx l1 i6 l7 at hsf1
 change Z7p sg do2 l7 i6 s5 = some r at h
 change AW _ _ _ ⟨Zw [(1, stA Tryz.prog Z6 do2 L), (6, rd (Z4 Z6) l1), (7, rd (Z0 .i64) (l1.length : Int)), (8, rd (Z0 .i64) (i6 : Int))], Zx [(0, L s5)], _⟩
 cases l7 with
 | nil =>
  unfold Z7p at h
  refine SR <| Ac (Zp rfl rfl (vt rfl) (vt rfl)) rfl <| Nl <| AW.seq <| Cn rfl (fun hc => absurd (of_decide_eq_true hc) hsf1.nil) (fun hc => ?_)
  refine AW.exit ?_
  obtain rfl := si h
  exact Z27 (i := 0) Tryz.results303 rfl rfl
 | cons x8 l7 =>
  unfold Z7p at h
  generalize hgo1 : Z7p sg do2 l7 = go1 at h
  refine SR <| Ac (Zp rfl rfl (vt rfl) (vt rfl)) rfl <| Nl <| AW.seq <| Cn rfl (fun hc => ?_) (fun hc => absurd hsf1.cons (of_decide_eq_false hc))
  have hlti6 := of_decide_eq_true hc
  refine AW.skip <| AW.seq <| AW.block <| SR <| Ac (Z0r rfl rfl Z0e (vt rfl) (vt rfl) hsf1.lget) rfl <| Lp1 Z0n rfl <| Ct rfl (Zq 6 rfl rfl Z51) ?_
  rintro _ ⟨g9, rfl⟩
  refine Zj Z0n 6 rfl <| Nl ?_
  obtain ⟨s10, hs10, h⟩ := Z1 h
  refine Rg <| Ac (Zt (A := stA Tryz.prog Z6 do2 L) rfl rfl (vt rfl)) rfl <| Ld Z0n 6 rfl <| Ac (Zwu 0 hs10 rfl rfl (vt rfl) (vt rfl) rfl) rfl <| Nl <| Rg <| Ac (Z22 (t := 7) rfl rfl (vt rfl) (vk rfl) (vt rfl) hlti6) rfl <| Md rfl <| Nl ?_
  subst hgo1
  exact ⟨(l7, i6 + 1, s10), Nat.lt_succ_self _, ⟨hsf1.next, h⟩, FX rfl⟩
def Zjp (acts1 : (List Action)) (r2 : Z5) : Option ((List Atom) × Z5) :=
 (Zea r2).bind fun x5 => (Zkq acts1 Z4x (fun s x => Zbw s x) (⟨x5, []⟩ : Z4x)).bind fun b7 => some (b7.atoms, b7.got)
theorem Y5m (acts1 : (List Action)) (r2 : Z5) (r : ((List Atom) × Z5)) (h : Zjp acts1 r2 = some r) : PCon Tryz.prog 265 [rd (Z4 Z6) acts1, rd (Z2 24 Z3) r2] (Z1h (rd (Z4 Z06) r.1) (rd (Z2 24 Z3) r.2)) := by
 refine PCon.of (Con.intro0 Tryz.func265 rfl Tryz.ntmps265 rfl fun w H => ?_)
 unfold Zjp at h
 refine SR <| Ct rfl (Zn 4 rfl rfl (vt rfl)) ?_
 rintro _ ⟨g3, rfl⟩
 refine Ac (Z02 (A := rd (Z4 Z06) []) rfl rfl Z1u) rfl <| Ct rfl (Zq 6 rfl rfl Z36) ?_
 rintro _ ⟨g4, rfl⟩
 refine Nl <| AW.seq <| AW.newnil 2221 126 Z06 ?_
 obtain ⟨x5, hx5, h⟩ := Z1 h
 refine Rg <| Ld Z04 4 rfl <| Cl [7] (Y1b _ _ hx5) Zv5 rfl <| Ac (Z00 (ps := [(0, .tmp 8)]) (x := (⟨x5, (.slice none 0 0)⟩ : atom_trace_o1)) rfl rfl rfl (by kernel_rfl) Yfo ⟨_, _, Zf1, _, by kernel_rfl, (vt rfl), rfl⟩) rfl <| Ct rfl (Zn 11 rfl rfl (vt rfl)) ?_
 rintro _ ⟨g6, rfl⟩
 refine Ac (Z02 (A := Z7 g6 (Lens.id Z44)) rfl rfl (vt rfl)) rfl <| Nl <| AW.seq ?_
 obtain ⟨b7, hb7, h⟩ := Z1 h
 refine Rg <| Md rfl <| Mp rfl <| Ac (Zwk (fs := [.tmp 12]) (cs := []) (FAs := [Z7 g6 (Lens.id Z44)]) (CAs := []) (k := Z6) (fun s x => Zbw s x) (fun (s : Z4x) => Z1k g6 346 Z44 (fun v => (⟨s.got, v⟩ : atom_trace_o1)) 126 Z06 s.atoms) rfl rfl Y4l ⟨vt rfl, trivial⟩ trivial (fun s x s2 h => Ycr _ _ s x s2 h)) rfl <| AOps.packF 11 2221 (fun v => (⟨x5, v⟩ : atom_trace_o1)) (by decide) rfl rfl <| Ct rfl (Z1f 11 (xs := [.tmp 11, .tmp 13]) (Ybf _ Z4x _ (fun (s : Z4x) => Z1k g6 346 Z44 (fun v => (⟨s.got, v⟩ : atom_trace_o1)) 126 Z06 s.atoms) _ _ hb7) Y9t rfl rfl ⟨vt rfl, vt rfl, trivial⟩ rfl) ?_
 rintro _ ⟨_u, rfl⟩
 refine AOps.unboxF 11 2221 (by decide) rfl rfl fun v8 => Nl <| AW.seq <| AW.regionAny [⟨[6], [15], [], []⟩, ⟨[15], [16], [], []⟩, ⟨[16], [17], [], []⟩, ⟨[17], [18], [11], []⟩, ⟨[6], [19], [], []⟩, ⟨[19], [20], [], []⟩, ⟨[20], [21], [], []⟩, ⟨[21], [22], [11], []⟩, ⟨[18], [4], [], []⟩, ⟨[5, 22], [], [6], [6]⟩] Z05 (by kernel_rfl) <| SMp rfl <| SNc rfl <| SFd Ziu Zq9 rfl <| Sc (lo [17] [11] rfl fun S hs hr => Zd2 v8 rfl rfl Zpw (vh hs 17 rfl rfl) (i := 11) ((hr 11 rfl).trans rfl) rfl) rfl <| SMp rfl <| SNc rfl <| SFd Zf1 Zku rfl <| Zo Z04 11 rfl <| Sc (lo [18] [] rfl fun S hs hr => Z02 (A := Ze v8) rfl rfl (vh hs 18 rfl rfl)) rfl <| SSt Z04 6 rfl <| AW.freezes [4, 18] 2221 rfl ⟨rfl, rfl, trivial⟩ rfl <| AW.ret ?_
 obtain rfl := si h
 exact Z25 Tryz.results265 rfl (Z8 rfl) (Z01 rfl (i := 6) rfl Z04)
def Zcu (w1 : walk_way) (l2 : (List Action)) : Option walk_way :=
 (Zjp l2 w1.got).bind fun x5 => (Z4g w1.atoms (w1.atoms.length : Int)).bind fun s7 => (Z0u s7 x5.1).bind fun l8 => some { { w1 with atoms := l8 } with got := x5.2 }
theorem Zvt (w1 : walk_way) (l2 : (List Action)) (r : walk_way) (h : Zcu w1 l2 = some r) : PCon Tryz.prog 205 [rd Z0k w1, rd (Z4 Z6) l2] (rd Z0k r) := by
 refine PCon.of (Con.intro0 Tryz.func205 rfl Tryz.ntmps205 rfl fun w H => ?_)
 unfold Zcu at h
 refine SR <| Ct rfl (Zn 3 rfl rfl (vt rfl)) ?_
 rintro _ ⟨g3, rfl⟩
 refine Ct rfl (Zq 5 rfl rfl Zg7) ?_
 rintro _ ⟨g4, rfl⟩
 refine Nl <| AW.seq ?_
 obtain ⟨x5, hx5, h⟩ := Z1 h
 refine Rg <| Md rfl <| Zl Zbl Zjz rfl <| Ld Z04 3 rfl <| Cl [8, 10] (Y5m _ _ _ hx5) Y2z rfl <| Mt2 rfl <| Ac (Z1s rfl rfl (vt rfl)) rfl <| Ac (Z1t rfl rfl (vt rfl)) rfl <| Ct rfl (Zq 7 rfl rfl Z36) ?_
 rintro _ ⟨g6, rfl⟩
 refine As rfl <| Zj Z04 7 rfl <| Nl <| AW.seq ?_
 obtain ⟨s7, hs7, h⟩ := Z1 h
 obtain ⟨l8, hl8, h⟩ := Z1 h
 refine AW.regionAny [⟨[2], [14], [], []⟩, ⟨[14], [15], [3], []⟩, ⟨[2], [16], [], []⟩, ⟨[16], [17], [3], []⟩, ⟨[17], [18], [], []⟩, ⟨[2], [19], [], []⟩, ⟨[19], [20], [3], []⟩, ⟨[20], [21], [], []⟩, ⟨[15, 18, 21], [22], [], []⟩, ⟨[5], [23], [], []⟩, ⟨[22, 23], [24], [], []⟩, ⟨[6], [25], [7], []⟩, ⟨[2], [26], [], []⟩, ⟨[26, 24], [], [3], [3]⟩, ⟨[2], [27], [], []⟩, ⟨[27, 25], [], [3], [3]⟩] Z05 (by kernel_rfl) <| SFd Zdj Zij rfl <| Zo Zb5 3 rfl <| SFd Zdj Zij rfl <| Zo Zb5 3 rfl <| Sc (lo [17] [] rfl fun S hs hr => Z0x rfl rfl Z54 (vh hs 17 rfl rfl)) rfl <| SFd Zdj Zij rfl <| Zo Zb5 3 rfl <| Sc (lo [20] [] rfl fun S hs hr => Z0x rfl rfl Z54 (vh hs 20 rfl rfl)) rfl <| Sc (lo [15, 18, 21] [] rfl fun S hs hr => Zum hs7 rfl rfl Z54 (vh hs 15 rfl rfl) (vh hs 18 rfl rfl) (vh hs 21 rfl rfl)) rfl <| Zu rfl <| Sc (lo [22, 23] [] rfl fun S hs hr => Yay hl8 rfl rfl Z8s (vh hs 22 rfl rfl) (vh hs 23 rfl rfl)) rfl <| Zo Z04 7 rfl <| SFd Zdj Zij rfl <| SSt Zb5 3 rfl <| SFd Zbl Zjz rfl <| SSt Z04 3 rfl <| SR <| Ld Z33 3 rfl <| Zj Z33 5 rfl <| Nl <| AW.ret ?_
 obtain rfl := si h
 exact Zi Tryz.results205 rfl (Z01 rfl (i := 5) rfl Z33)
end Go.Proofs.YtknpgojdkobgjaaGreat.W
set_option maxRecDepth 4000
namespace Go.Proofs.YtknpgojdkobgjaaGreat.W
open Go Go.Wb
theorem Zn5 : Ent Tryz.prog 221 := Ent.mk Tryz.func221 rfl rfl
theorem Y8r : Ent Tryz.prog 267 := Ent.mk Tryz.func267 rfl rfl
theorem Zoe : Ent Tryz.prog 266 := Ent.mk Tryz.func266 rfl rfl
theorem Zvr : Ent Tryz.prog 273 := Ent.mk Tryz.func273 rfl rfl
theorem Zpx : Ent Tryz.prog 218 := Ent.mk Tryz.func218 rfl rfl
def Zai (a1 : Action) : Option aset_spot :=
 (bif (decide (a1.Kind = 25)) then some (⟨a1.Kind, a1.Oxm.Field⟩ : aset_spot) else some (⟨a1.Kind, 0⟩ : aset_spot))
theorem Zlq (a1 : Action) (r : aset_spot) (h : Zai a1 = some r) : PCon Tryz.prog 221 [rd Z6 a1] (rd Z60 r) := by
 refine PCon.of (Con.intro0 Tryz.func221 rfl Tryz.ntmps221 rfl fun w H => ?_)
 unfold Zai at h
 refine SR <| Ct rfl (Zn 2 rfl rfl (vt rfl)) ?_
 rintro _ ⟨g2, rfl⟩
 refine Ct rfl (Zq 3 rfl rfl Zka) ?_
 rintro _ ⟨g3, rfl⟩
 refine Nl <| AW.seq <| SR <| Zl Z4d Z4s rfl <| Ld ty3 2 rfl <| Ac (Z0i rfl rfl (vt rfl) (vk rfl)) rfl <| Nl <| Cn rfl (fun hc => ?_) (fun hc => ?_)
 ·have h := Zf hc h
  refine SR <| Zl Z4d Z4s rfl <| Ld ty3 2 rfl <| Zl Z7l Z9v rfl <| Zl Z46 Z4l rfl <| Ld ty3 2 rfl <| Ac (Z00 (ps := [(0, .tmp 7), (1, .tmp 10)]) (x := (⟨a1.Kind, a1.Oxm.Field⟩ : aset_spot)) rfl rfl rfl (by kernel_rfl) Zka ⟨_, _, Zh7, _, by kernel_rfl, (vt rfl), _, _, Zg9, _, by kernel_rfl, (vt rfl), rfl⟩) rfl <| Zj Ze6 3 rfl <| Nl <| AW.ret ?_
  obtain rfl := si h
  exact Zi Tryz.results221 rfl (Z01 rfl (i := 3) rfl Ze6)
 ·have h := Zg hc h
  refine AW.skip <| SR <| Zl Z4d Z4s rfl <| Ld ty3 2 rfl <| Ac (Z00 (ps := [(0, .tmp 13)]) (x := (⟨a1.Kind, 0⟩ : aset_spot)) rfl rfl rfl (by kernel_rfl) Zka ⟨_, _, Zh7, _, by kernel_rfl, (vt rfl), rfl⟩) rfl <| Zj Ze6 3 rfl <| Nl <| AW.ret ?_
  obtain rfl := si h
  exact Zi Tryz.results221 rfl (Z01 rfl (i := 3) rfl Ze6)
def Zc3 (b1 : Action) (cp2 : Action) : Option Bool :=
 (Zai cp2).bind fun x4 => (Zai b1).bind fun x5 => some (decide (x4 = x5))
theorem Y8c (b1 : Action) (cp2 : Action) (r : Bool) (h : Zc3 b1 cp2 = some r) : PCon Tryz.prog 267 [rd Z6 b1, rp Z6 cp2] (rd Zc r) := by
 refine PCon.of (Con.intro0 Tryz.func267 rfl Tryz.ntmps267 rfl fun w H => ?_)
 unfold Zc3 at h
 refine SR <| Ct rfl (Zn 3 rfl rfl (vt rfl)) ?_
 rintro _ ⟨g3, rfl⟩
 refine Ab rfl <| Nl <| AW.seq ?_
 obtain ⟨x4, hx4, h⟩ := Z1 h
 obtain ⟨x5, hx5, h⟩ := Z1 h
 refine AW.regionAny [⟨[1], [4], [], []⟩, ⟨[4], [5], [], []⟩, ⟨[2], [6], [3], []⟩, ⟨[6], [7], [], []⟩, ⟨[5, 7], [8], [], []⟩, ⟨[8], [3], [], []⟩] Z05 (by kernel_rfl) <| SLp Z0n rfl <| SCl [4] (Zlq _ _ hx4) Zn5 rfl <| Zo Z0n 3 rfl <| SCl [6] (Zlq _ _ hx5) Zn5 rfl <| Sc (lo [5, 7] [] rfl fun S hs hr => Y5x rfl rfl Y47 (by decide) rfl Y79 (vh hs 5 rfl rfl) (vh hs 7 rfl rfl)) rfl <| SAs rfl <| AW.ret ?_
 obtain rfl := si h
 exact Zi Tryz.results267 rfl (Z8 rfl)
def Z8d (s1 : (List Action)) (f2 : (Action → Option Bool)) : Nat → Nat → Option Int
 | 0, i3 => some (-1)
 | m4 + 1, i3 => (lget s1 (i3 : Int)).bind fun e5 => (f2 e5).bind fun x6 => (bif x6 then some (i3 : Int) else (Z8d s1 f2 m4) (i3 + 1))
def Zce (s1 : (List Action)) (f2 : (Action → Option Bool)) : Option Int :=
 Z8d s1 f2 ((s1.length : Int) : Int).toNat 0
theorem Zr1 (s1 : (List Action)) (f2 : (Action → Option Bool)) (r : Int) (h : Zce s1 f2 = some r) : PCon Tryz.prog 266 [rd (Z4 Z6) s1, fn1 Tryz.prog Z6 Zc f2] (rd (Z0 .i64) r) := by
 refine PCon.of (Con.intro0 Tryz.func266 rfl Tryz.ntmps266 rfl fun w H => ?_)
 unfold Zce at h
 refine SR <| Ak rfl <| Nl <| AW.seq <| SR <| Md rfl <| Ac (Z0x rfl rfl Z0e (vt rfl)) rfl <| Mk rfl <| Nl <| AW.block <| AW.loopG (d := []) (ν := Nat × Nat) (fun n => Cnt (s1.length : Int) n.2 n.1 ∧ Z8d s1 f2 n.1 n.2 = some r) (fun n => n.1) (fun n => [(0, rd (Z4 Z6) s1), (1, fn1 Tryz.prog Z6 Zc f2), (7, rd (Z0 .i64) (s1.length : Int)), (8, rd (Z0 .i64) (n.2 : Int))]) (fun n => []) (((s1.length : Int) : Int).toNat, 0) ⟨Cnt.start _, h⟩ (FX rfl) ?_
 rintro ⟨m4, i3⟩ ⟨hsf1, h⟩
 change Cnt (s1.length : Int) i3 m4 at hsf1
 change Z8d s1 f2 m4 i3 = some r at h
 change AW _ _ _ ⟨Zw [(0, rd (Z4 Z6) s1), (1, fn1 Tryz.prog Z6 Zc f2), (7, rd (Z0 .i64) (s1.length : Int)), (8, rd (Z0 .i64) (i3 : Int))], Zx [], _⟩
 cases m4 with
 | zero =>
  unfold Z8d at h
  refine SR <| Ac (Zp rfl rfl (vt rfl) (vt rfl)) rfl <| Nl <| AW.seq <| Cn rfl (fun hc => absurd (of_decide_eq_true hc) hsf1.zero) (fun hc => ?_)
  refine AW.exit <| SR <| Ak rfl <| Nl <| AW.ret ?_
  obtain rfl := si h
  exact Zi Tryz.results266 rfl (Z8 rfl)
 | succ m4 =>
  unfold Z8d at h
  generalize hgo1 : Z8d s1 f2 m4 = go1 at h
  refine SR <| Ac (Zp rfl rfl (vt rfl) (vt rfl)) rfl <| Nl <| AW.seq <| Cn rfl (fun hc => ?_) (fun hc => absurd hsf1.succ (of_decide_eq_false hc))
  have hlti3 := of_decide_eq_true hc
  refine AW.skip <| AW.seq <| AW.block <| SR <| Md rfl <| As rfl <| Nl <| AW.seq ?_
  obtain ⟨e5, he5, h⟩ := Z1 h
  obtain ⟨x6, hx6, h⟩ := Z1 h
  refine Rg <| Ac (Zt (A := fn1 Tryz.prog Z6 Zc f2) rfl rfl (vt rfl)) rfl <| Md rfl <| Md rfl <| Ac (Z0r rfl rfl Z0e (vt rfl) (vt rfl) he5) rfl <| Lp1 Z0n rfl <| Ac (Z9e hx6 rfl rfl (vt rfl) (vt rfl)) rfl <| Nl <| Cn rfl (fun hc => ?_) (fun hc => ?_)
  ·have h := Zf hc h
   refine SR <| Md rfl <| As rfl <| Nl <| AW.ret ?_
   obtain rfl := si h
   exact Zi Tryz.results266 rfl (Z8 rfl)
  ·have h := Zg hc h
   refine AW.skip <| Rg <| Ac (Z22 (t := 7) rfl rfl (vt rfl) (vk rfl) (vt rfl) hlti3) rfl <| Md rfl <| Nl ?_
   subst hgo1
   exact ⟨(m4, i3 + 1), Nat.lt_succ_self _, ⟨hsf1.next, h⟩, FX rfl⟩
def Z6q : (List Action) → Nat → (List Action) → Option (List Action)
 | [], i9, l7 => some l7
 | x11 :: l10, i9, l7 => (Zce l7 (fun x => Zc3 x x11)).bind fun x13 => (bif (decide (x13 < 0)) then (Z0u l7 [x11]).bind fun l14 => (Z6q l10) (i9 + 1) l14 else (lget l7 x13).bind fun e16 => (Z6q l10) (i9 + 1) (List.set l7 x13.toNat x11))
def Zg0 (set1 : (List Action)) (l2 : (List Action)) : Option (List Action) :=
 (Z6l set1).bind fun x3 => Z6q l2 0 x3
theorem Ztv (set1 : (List Action)) (l2 : (List Action)) (r : (List Action)) (h : Zg0 set1 l2 = some r) : PCon Tryz.prog 206 [rd (Z4 Z6) set1, rd (Z4 Z6) l2] (rd (Z4 Z6) r) := by
 refine PCon.of (Con.intro0 Tryz.func206 rfl Tryz.ntmps206 rfl fun w H => ?_)
 unfold Zg0 at h
 refine SR <| Ac (Z02 (A := rd (Z4 Z6) []) rfl rfl Z1u) rfl <| Nl <| AW.seq ?_
 obtain ⟨x3, hx3, h⟩ := Z1 h
 refine Rg <| Md rfl <| Ct rfl (Z1f 1001 (xs := [.tmp 9]) (Zny _ _ hx3) Zme rfl rfl ⟨vt rfl, trivial⟩ rfl) ?_
 rintro _ ⟨v4, rfl⟩
 refine Aw rfl <| Nl <| AW.seq <| SR <| Md rfl <| Ac (Z0x rfl rfl Z0e (vt rfl)) rfl <| Mk rfl <| Nl <| AW.block <| AW.loopG (d := []) (ν := (List Action) × Nat × (List Action) × Value) (fun n => Sfx l2 n.2.1 n.1 ∧ Z6q n.1 n.2.1 n.2.2.1 = some r) (fun n => n.1.length) (fun n => [(5, Ze n.2.2.2), (11, rd (Z4 Z6) l2), (12, rd (Z0 .i64) (l2.length : Int)), (13, rd (Z0 .i64) (n.2.1 : Int))]) (fun n => [(1001, Zb n.2.2.2 121 Z6 n.2.2.1)]) (l2, 0, x3, v4) ⟨Sfx.start _, h⟩ (FX rfl) ?_
 rintro ⟨l10, i9, l7, v8⟩ ⟨hsf1, h⟩
 change Sfx l2 i9 l10 at hsf1
 change Z6q l10 i9 l7 = some r at h
 change AW _ _ _ ⟨Zw [(5, Ze v8), (11, rd (Z4 Z6) l2), (12, rd (Z0 .i64) (l2.length : Int)), (13, rd (Z0 .i64) (i9 : Int))], Zx [(1001, Zb v8 121 Z6 l7)], _⟩
 cases l10 with
 | nil =>
  unfold Z6q at h
  refine SR <| Ac (Zp rfl rfl (vt rfl) (vt rfl)) rfl <| Nl <| AW.seq <| Cn rfl (fun hc => absurd (of_decide_eq_true hc) hsf1.nil) (fun hc => ?_)
  refine AW.exit <| SR <| Mw rfl <| Aw rfl <| Nl <| AW.freezes [4, 5, 31] 1001 rfl ⟨rfl, rfl, rfl, trivial⟩ rfl <| AW.ret ?_
  obtain rfl := si h
  exact Zi Tryz.results206 rfl (Z8 rfl)
 | cons x11 l10 =>
  unfold Z6q at h
  generalize hgo1 : Z6q l10 = go1 at h
  refine SR <| Ac (Zp rfl rfl (vt rfl) (vt rfl)) rfl <| Nl <| AW.seq <| Cn rfl (fun hc => ?_) (fun hc => absurd hsf1.cons (of_decide_eq_false hc))
  have hlti9 := of_decide_eq_true hc
  refine AW.skip <| AW.seq <| AW.block <| SR <| Ac (Z0r rfl rfl Z0e (vt rfl) (vt rfl) hsf1.lget) rfl <| Lp1 Z0n rfl <| Ct rfl (Zq 8 rfl rfl Z51) ?_
  rintro _ ⟨g12, rfl⟩
  refine Zj Z0n 8 rfl <| Nl <| AW.seq <| AW.freezeB 7 8 rfl rfl rfl ?_
  obtain ⟨x13, hx13, h⟩ := Z1 h
  refine Rg <| Mw rfl <| Ac (Z79 (cs := [.tmp 7]) (CAs := [rp Z6 x11]) (fun x => Zc3 x x11) rfl rfl Y8r ⟨vt rfl, trivial⟩ (fun x y h => Y8c _ _ y h)) rfl <| Ac (Zrr (xs := [.tmp 17, .tmp 18]) 1001 (Zr1 _ _ _ hx13) Zoe rfl rfl ⟨vL rfl rfl, vB (vt rfl), trivial⟩) rfl <| As rfl <| Nl <| SR <| Md rfl <| Ac (Zp rfl rfl (vt rfl) (vk rfl)) rfl <| Nl <| Cn rfl (fun hc => ?_) (fun hc => ?_)
  ·have h := Zf hc h
   obtain ⟨l14, hl14, h⟩ := Z1 h
   refine Rg <| Mw rfl <| Lp1 Z0n rfl <| Ac (Z2g (ps := [(0, .tmp 23)]) (l := [x11]) rfl rfl Z0e Z51 rfl rfl ⟨_, _, Lens.idx 1 Z6 0 (by decide), _, rfl, (vt rfl), rfl⟩ rfl) rfl <| Ct rfl (Z2m 1001 hl14 rfl rfl Z7c (vt rfl) rfl (vt rfl)) ?_
   rintro _ ⟨v15, rfl⟩
   refine Aw rfl <| Nl <| Rg <| Ac (Z22 (t := 12) rfl rfl (vt rfl) (vk rfl) (vt rfl) hlti9) rfl <| Md rfl <| Nl ?_
   subst hgo1
   exact ⟨(l10, i9 + 1, l14, v15), Nat.lt_succ_self _, ⟨hsf1.next, h⟩, FX rfl⟩
  ·have h := Zg hc h
   obtain ⟨e16, he16, h⟩ := Z1 h
   refine Rg <| Mw rfl <| Md rfl <| Lp1 Z0n rfl <| Ac (Z1q 1001 rfl rfl Z0e (vt rfl) rfl (vt rfl) he16) rfl <| Ac (Z2h 1001 rfl rfl Z0n (vt rfl) rfl (Z0g he16).2 (vt rfl)) rfl <| Nl <| Rg <| Ac (Z22 (t := 12) rfl rfl (vt rfl) (vk rfl) (vt rfl) hlti9) rfl <| Md rfl <| Nl ?_
   subst hgo1
   exact ⟨(l10, i9 + 1, (List.set l7 x13.toNat x11), v8), Nat.lt_succ_self _, ⟨hsf1.next, h⟩, FX rfl⟩
def Zhx (s1 : (List Action)) (f2 : (Action → Option Bool)) : Option Bool :=
 (Zce s1 f2).bind fun x3 => some (decide (x3 ≥ 0))
theorem Y8j (s1 : (List Action)) (f2 : (Action → Option Bool)) (r : Bool) (h : Zhx s1 f2 = some r) : PCon Tryz.prog 213 [rd (Z4 Z6) s1, fn1 Tryz.prog Z6 Zc f2] (rd Zc r) := by
 refine PCon.of (Con.intro0 Tryz.func213 rfl Tryz.ntmps213 rfl fun w H => ?_)
 unfold Zhx at h
 refine SR <| Ab rfl <| Nl <| AW.seq ?_
 obtain ⟨x3, hx3, h⟩ := Z1 h
 refine Rg <| Md rfl <| Ac (Zt (A := fn1 Tryz.prog Z6 Zc f2) rfl rfl (vt rfl)) rfl <| Cl [5, 6] (Zr1 _ _ _ hx3) Zoe rfl <| Ac (Z4e rfl rfl (vt rfl) (vk rfl)) rfl <| As rfl <| Nl <| AW.ret ?_
 obtain rfl := si h
 exact Zi Tryz.results213 rfl (Z8 rfl)
def Zmh (a1 : Action) : Option Bool :=
 some (decide (a1.Kind = 22))
theorem Y1p (a1 : Action) (r : Bool) (h : Zmh a1 = some r) : PCon Tryz.prog 214 [rd Z6 a1] (rd Zc r) := by
 refine PCon.of (Con.intro0 Tryz.func214 rfl Tryz.ntmps214 rfl fun w H => ?_)
 unfold Zmh at h
 refine SR <| Ct rfl (Zn 2 rfl rfl (vt rfl)) ?_
 rintro _ ⟨g2, rfl⟩
 refine Ab rfl <| Nl <| SR <| Zl Z4d Z4s rfl <| Ld ty3 2 rfl <| Ac (Z0i rfl rfl (vt rfl) (vk rfl)) rfl <| As rfl <| Nl <| AW.ret ?_
 obtain rfl := si h
 exact Zi Tryz.results214 rfl (Z8 rfl)
def Z8l (s1 : (List Int)) (v2 : Int) : Nat → Nat → Option Int
 | 0, i3 => some (-1)
 | m4 + 1, i3 => (lget s1 (i3 : Int)).bind fun e5 => (bif (decide (v2 = e5)) then some (i3 : Int) else (Z8l s1 v2 m4) (i3 + 1))
def Ze3 (s1 : (List Int)) (v2 : Int) : Option Int :=
 Z8l s1 v2 ((s1.length : Int) : Int).toNat 0
theorem Zty (s1 : (List Int)) (v2 : Int) (r : Int) (h : Ze3 s1 v2 = some r) : PCon Tryz.prog 273 [rd (Z4 (Z0 .i64)) s1, rd (Z0 .i64) v2] (rd (Z0 .i64) r) := by
 refine PCon.of (Con.intro0 Tryz.func273 rfl Tryz.ntmps273 rfl fun w H => ?_)
 unfold Ze3 at h
 refine SR <| Ak rfl <| Nl <| AW.seq <| SR <| Md rfl <| Ac (Z0x rfl rfl Z0t (vt rfl)) rfl <| Mk rfl <| Nl <| AW.block <| AW.loopG (d := []) (ν := Nat × Nat) (fun n => Cnt (s1.length : Int) n.2 n.1 ∧ Z8l s1 v2 n.1 n.2 = some r) (fun n => n.1) (fun n => [(0, rd (Z4 (Z0 .i64)) s1), (1, rd (Z0 .i64) v2), (7, rd (Z0 .i64) (s1.length : Int)), (8, rd (Z0 .i64) (n.2 : Int))]) (fun n => []) (((s1.length : Int) : Int).toNat, 0) ⟨Cnt.start _, h⟩ (FX rfl) ?_
 rintro ⟨m4, i3⟩ ⟨hsf1, h⟩
 change Cnt (s1.length : Int) i3 m4 at hsf1
 change Z8l s1 v2 m4 i3 = some r at h
 change AW _ _ _ ⟨Zw [(0, rd (Z4 (Z0 .i64)) s1), (1, rd (Z0 .i64) v2), (7, rd (Z0 .i64) (s1.length : Int)), (8, rd (Z0 .i64) (i3 : Int))], Zx [], _⟩
 cases m4 with
 | zero =>
  unfold Z8l at h
  refine SR <| Ac (Zp rfl rfl (vt rfl) (vt rfl)) rfl <| Nl <| AW.seq <| Cn rfl (fun hc => absurd (of_decide_eq_true hc) hsf1.zero) (fun hc => ?_)
  refine AW.exit <| SR <| Ak rfl <| Nl <| AW.ret ?_
  obtain rfl := si h
  exact Zi Tryz.results273 rfl (Z8 rfl)
 | succ m4 =>
  unfold Z8l at h
  generalize hgo1 : Z8l s1 v2 m4 = go1 at h
  refine SR <| Ac (Zp rfl rfl (vt rfl) (vt rfl)) rfl <| Nl <| AW.seq <| Cn rfl (fun hc => ?_) (fun hc => absurd hsf1.succ (of_decide_eq_false hc))
  have hlti3 := of_decide_eq_true hc
  refine AW.skip <| AW.seq <| AW.block <| SR <| Md rfl <| As rfl <| Nl <| AW.seq ?_
  obtain ⟨e5, he5, h⟩ := Z1 h
  refine Rg <| Md rfl <| Md rfl <| Md rfl <| Ac (Z0r rfl rfl Z0t (vt rfl) (vt rfl) he5) rfl <| Lp1 ty3 rfl <| Ac (Z0i rfl rfl (vt rfl) (vt rfl)) rfl <| Nl <| Cn rfl (fun hc => ?_) (fun hc => ?_)
  ·have h := Zf hc h
   refine SR <| Md rfl <| As rfl <| Nl <| AW.ret ?_
   obtain rfl := si h
   exact Zi Tryz.results273 rfl (Z8 rfl)
  ·have h := Zg hc h
   refine AW.skip <| Rg <| Ac (Z22 (t := 7) rfl rfl (vt rfl) (vk rfl) (vt rfl) hlti3) rfl <| Md rfl <| Nl ?_
   subst hgo1
   exact ⟨(m4, i3 + 1), Nat.lt_succ_self _, ⟨hsf1.next, h⟩, FX rfl⟩
def Zbo (kind1 : Int) : Option Int :=
 (Ze3 [18, 17, 25, 22, 0] kind1).bind fun x2 => some x2
theorem Zq2 (kind1 : Int) (r : Int) (h : Zbo kind1 = some r) : PCon Tryz.prog 218 [rd (Z0 .i64) kind1] (rd (Z0 .i64) r) := by
 refine PCon.of (Con.intro0 Tryz.func218 rfl Tryz.ntmps218 rfl fun w H => ?_)
 unfold Zbo at h
 refine SR <| Ak rfl <| Nl <| AW.seq ?_
 obtain ⟨x2, hx2, h⟩ := Z1 h
 refine Rg <| Ac (Z2g (ps := [(0, .const (Value.int IntKind.i64 18)), (1, .const (Value.int IntKind.i64 17)), (2, .const (Value.int IntKind.i64 25)), (3, .const (Value.int IntKind.i64 22)), (4, .const (Value.int IntKind.i64 0))]) (l := [18, 17, 25, 22, 0]) rfl rfl Z0t zr3 rfl rfl ⟨_, _, Lens.idx 5 (Z0 .i64) 0 (by decide), _, rfl, (vk rfl), _, _, Lens.idx 5 (Z0 .i64) 1 (by decide), _, rfl, (vk rfl), _, _, Lens.idx 5 (Z0 .i64) 2 (by decide), _, rfl, (vk rfl), _, _, Lens.idx 5 (Z0 .i64) 3 (by decide), _, rfl, (vk rfl), _, _, Lens.idx 5 (Z0 .i64) 4 (by decide), _, rfl, (vk rfl), rfl⟩ rfl) rfl <| Md rfl <| Cl [3, 4] (Zty _ _ _ hx2) Zvr rfl <| As rfl <| Nl <| AW.ret ?_
 obtain rfl := si h
 exact Zi Tryz.results218 rfl (Z8 rfl)
def Zdc (a1 : Action) (cp2 : Bool) : Option Bool :=
 (Zbo a1.Kind).bind fun x4 => some ((decide (x4 < 0)) || (cp2 && (decide (a1.Kind = 0))))
theorem Yev (a1 : Action) (cp2 : Bool) (r : Bool) (h : Zdc a1 cp2 = some r) : PCon Tryz.prog 217 [rd Z6 a1, rp Zc cp2] (rd Zc r) := by
 refine PCon.of (Con.intro0 Tryz.func217 rfl Tryz.ntmps217 rfl fun w H => ?_)
 unfold Zdc at h
 refine SR <| Ct rfl (Zn 3 rfl rfl (vt rfl)) ?_
 rintro _ ⟨g3, rfl⟩
 refine Ab rfl <| Nl <| AW.seq ?_
 obtain ⟨x4, hx4, h⟩ := Z1 h
 refine Rg <| Zl Z4d Z4s rfl <| Ld ty3 3 rfl <| Cl [5] (Zq2 _ _ hx4) Zpx rfl <| Ac (Zp rfl rfl (vt rfl) (vk rfl)) rfl <| Md rfl <| Gd rfl (fun hq => Zar rfl rfl ty4 (vt rfl)) <| AOps.consG (OpG.guardX rfl rfl rfl rfl rfl fun hq => Zt (A := rd Zc cp2) rfl rfl (Zs rfl hq)) <| AOps.consG (OpG.guardN rfl rfl rfl rfl rfl fun hq => Z40 Z4d rfl rfl Z4s (vt rfl)) <| AOps.consG (OpG.guardN rfl rfl rfl rfl rfl fun hq => Z37 rfl rfl ty3 (Zs rfl hq) (i := 3) rfl) <| AOps.consG (OpG.guardN rfl rfl rfl rfl rfl fun hq => Z0i rfl rfl (Zs rfl hq) (vk rfl)) <| Gd rfl (fun hq => Z1w rfl rfl (vgx rfl hq) (vgw rfl hq)) <| Ac (Z68 rfl rfl (vt rfl) (vt rfl)) rfl <| As rfl <| Nl <| AW.ret ?_
 obtain rfl := si h
 exact Zi Tryz.results217 rfl (Z8 rfl)
end Go.Proofs.YtknpgojdkobgjaaGreat.W
set_option maxRecDepth 4000
namespace Go.Proofs.YtknpgojdkobgjaaGreat.W
open Go Go.Wb
theorem Zr0 : Ent Tryz.prog 343 := Ent.mk Tryz.func343 rfl rfl
theorem Zle : Ent Tryz.prog 311 := Ent.mk Tryz.func311 rfl rfl
theorem Yex : Ent Tryz.prog 335 := Ent.mk Tryz.func335 rfl rfl
theorem Zvp : Ent Tryz.prog 310 := Ent.mk Tryz.func310 rfl rfl
theorem Y3j : Ent Tryz.prog 274 := Ent.mk Tryz.func274 rfl rfl
theorem Y64 : Ent Tryz.prog 213 := Ent.mk Tryz.func213 rfl rfl
theorem Yhe : Ent Tryz.prog 214 := Ent.mk Tryz.func214 rfl rfl
theorem Yds : Ent Tryz.prog 217 := Ent.mk Tryz.func217 rfl rfl
theorem Y2v : Ent Tryz.prog 215 := Ent.mk Tryz.func215 rfl rfl
theorem Yam : Ent Tryz.prog 219 := Ent.mk Tryz.func219 rfl rfl
theorem Y6u : Ent Tryz.prog 220 := Ent.mk Tryz.func220 rfl rfl
def Z86 (del3 : (Action → Option Bool)) : Nat → (List Action) → Int → Int → Option (List Action)
 | 0, _, _, _ => none
 | m11 + 1, l8, i9, j10 => (bif (decide (j10 < (l8.length : Int))) then (lget l8 j10).bind fun e12 => (del3 e12).bind fun x14 => (bif (!x14) then (lget l8 i9).bind fun e15 => (Z86 del3 m11) (List.set l8 i9.toNat e12) (IntKind.i64.wrap (i9 + 1)) (IntKind.i64.wrap (j10 + 1)) else (Z86 del3 m11) l8 i9 (IntKind.i64.wrap (j10 + 1))) else (Z5g l8 i9).bind fun s16 => (Z4g (List.take i9.toNat l8 ++ List.replicate (l8.length - i9.toNat) Zlp) i9).bind fun s17 => some s17)
def Zk6 (s1 : (List Action)) (del3 : (Action → Option Bool)) : Option (List Action) :=
 (Zce s1 del3).bind fun x4 => (bif (decide (x4 = (-1))) then some s1 else Z86 del3 ((((s1.length : Int) : Int) - (IntKind.i64.wrap (x4 + 1))).toNat + 1) s1 x4 (IntKind.i64.wrap (x4 + 1)))
theorem Yhb (v2 : Value) (s1 : (List Action)) (del3 : (Action → Option Bool)) (r : (List Action)) (h : Zk6 s1 del3 = some r) : Con Tryz.prog 215 [Ze v2, fn1 Tryz.prog Z6 Zc del3] (Zb v2 121 Z6 s1) (fun v => Ze v) (fun v => Zb v 121 Z6 r) := by
 refine Con.intro Tryz.func215 rfl Tryz.ntmps215 rfl fun w H X => ?_
 unfold Zk6 at h
 refine AW.seq <| AW.newnil 1001 121 Z6 <| Rg <| Ac (Z02 rfl rfl vc) rfl <| Nl <| AW.seq ?_
 obtain ⟨x4, hx4, h⟩ := Z1 h
 refine Rg <| Mw rfl <| Ac (Zt (A := fn1 Tryz.prog Z6 Zc del3) rfl rfl (vt rfl)) rfl <| Ac (Zrr (xs := [.tmp 8, .tmp 9]) 0 (Zr1 _ _ _ hx4) Zoe rfl rfl ⟨vL rfl rfl, vB (vt rfl), trivial⟩) rfl <| As rfl <| Nl <| AW.seq <| SR <| Md rfl <| Ac (Z0i rfl rfl (vt rfl) (vk rfl)) rfl <| Nl <| Cn rfl (fun hc => ?_) (fun hc => ?_)
 ·have h := Zf hc h
  refine SR <| Mw rfl <| Aw rfl <| Nl <| AW.ret ?_
  obtain rfl := si h
  exact Z4n (i := 0) Tryz.results215 rfl rfl rfl
 ·have h := Zg hc h
  refine AW.skip <| AW.seq <| SR <| Md rfl <| Ac (Z08 rfl rfl (vt rfl) (vk rfl)) rfl <| As rfl <| Nl <| AW.block <| AW.loopG (d := []) (ν := Nat × (List Action) × Int × Int) (fun n => True ∧ Z86 del3 n.1 n.2.1 n.2.2.1 n.2.2.2 = some r) (fun n => n.1) (fun n => [(0, Ze v2), (1, fn1 Tryz.prog Z6 Zc del3), (5, rd (Z0 .i64) n.2.2.1), (6, rd (Z0 .i64) n.2.2.2)]) (fun n => [(0, Zb v2 121 Z6 n.2.1)]) (((((s1.length : Int) : Int) - (IntKind.i64.wrap (x4 + 1))).toNat + 1), s1, x4, (IntKind.i64.wrap (x4 + 1))) ⟨trivial, h⟩ (FX rfl) ?_
  rintro ⟨m11, l8, i9, j10⟩ ⟨hsf1, h⟩
  change True at hsf1
  change Z86 del3 m11 l8 i9 j10 = some r at h
  change AW _ _ _ ⟨Zw [(0, Ze v2), (1, fn1 Tryz.prog Z6 Zc del3), (5, rd (Z0 .i64) i9), (6, rd (Z0 .i64) j10)], Zx [(0, Zb v2 121 Z6 l8)], _⟩
  cases m11 with
  | zero => cases h
  | succ m11 =>
   unfold Z86 at h
   generalize hgo1 : Z86 del3 m11 = go1 at h
   refine AW.seq <| SR <| Md rfl <| Mw rfl <| Ac (Z5q 0 rfl rfl Z0e (vt rfl) rfl) rfl <| Ac (Zp rfl rfl (vt rfl) (vt rfl)) rfl <| Nl <| Cn rfl (fun hc => ?_) (fun hc => ?_)
   ·have h := Zf hc h
    refine AW.skip <| AW.seq <| AW.block <| AW.seq ?_
    obtain ⟨e12, he12, h⟩ := Z1 h
    refine Rg <| Mw rfl <| Md rfl <| Ac (Z1q 0 rfl rfl Z0e (vt rfl) rfl (vt rfl) he12) rfl <| Ac (Z1g 0 rfl rfl Z0n (vt rfl) rfl (Z0g he12).2) rfl <| Ct rfl (Zq 8 rfl rfl Z51) ?_
    rintro _ ⟨g13, rfl⟩
    refine Zj Z0n 8 rfl <| Nl <| AW.seq ?_
    obtain ⟨x14, hx14, h⟩ := Z1 h
    refine Rg <| Ac (Zt (A := fn1 Tryz.prog Z6 Zc del3) rfl rfl (vt rfl)) rfl <| Ld Z0n 8 rfl <| Ac (Z9e hx14 rfl rfl (vt rfl) (vt rfl)) rfl <| Ac (Z19 rfl rfl (vt rfl)) rfl <| Nl <| Cn rfl (fun hc => ?_) (fun hc => ?_)
    ·have h := Zf hc h
     refine AW.seq ?_
     obtain ⟨e15, he15, h⟩ := Z1 h
     refine Rg <| Mw rfl <| Md rfl <| Ld Z0n 8 rfl <| Ac (Z1q 0 rfl rfl Z0e (vt rfl) rfl (vt rfl) he15) rfl <| Ac (Z2h 0 rfl rfl Z0n (vt rfl) rfl (Z0g he15).2 (vt rfl)) rfl <| Nl <| Rg <| Md rfl <| Ac (Z08 rfl rfl (vt rfl) (vk rfl)) rfl <| As rfl <| Nl <| Rg <| Md rfl <| Ac (Z08 rfl rfl (vt rfl) (vk rfl)) rfl <| As rfl <| Nl ?_
     subst hgo1
     exact ⟨(m11, (List.set l8 i9.toNat e12), (IntKind.i64.wrap (i9 + 1)), (IntKind.i64.wrap (j10 + 1))), Nat.lt_succ_self _, ⟨trivial, h⟩, FX rfl⟩
    ·have h := Zg hc h
     refine AW.skip <| Rg <| Md rfl <| Ac (Z08 rfl rfl (vt rfl) (vk rfl)) rfl <| As rfl <| Nl ?_
     subst hgo1
     exact ⟨(m11, l8, i9, (IntKind.i64.wrap (j10 + 1))), Nat.lt_succ_self _, ⟨trivial, h⟩, FX rfl⟩
   ·have h := Zg hc h
    refine AW.exit <| AW.seq ?_
    obtain ⟨s16, hs16, h⟩ := Z1 h
    refine Rg <| Mw rfl <| Md rfl <| Ac (Y9k 0 hs16 rfl rfl Z0e (vt rfl) rfl (vt rfl)) rfl <| Ac (Y4t 0 rfl rfl Z0e Z51 rfl (vt rfl) rfl (Zoq hs16).2.1) rfl <| Nl <| AW.seq ?_
    obtain ⟨s17, hs17, h⟩ := Z1 h
    refine Rg <| Mw rfl <| Md rfl <| Ct rfl (Ydc 0 hs17 rfl rfl Z0e (vt rfl) rfl (vt rfl)) ?_
    rintro _ ⟨v18, rfl⟩
    refine Aw rfl <| Nl <| AW.ret ?_
    obtain rfl := si h
    exact Z4n (i := 0) Tryz.results215 rfl rfl rfl
def Z8b (a3 : Int) (cmp5 : (Action → Action → Option Int)) (go1 : (List Action) → Int → Option (List Action)) (i9 : Int) : Nat → (List Action) → Int → Option (List Action)
 | 0, _, _ => none
 | m15 + 1, l13, j14 => (opt (decide (j14 > a3)) (lget l13 j14)).bind fun e16 => (opt (decide (j14 > a3)) (lget l13 (IntKind.i64.wrap (j14 - 1)))).bind fun e17 => (opt (decide (j14 > a3)) (cmp5 e16 e17)).bind fun x18 => (bif ((decide (j14 > a3)) && (decide (x18 < 0))) then (lget l13 (IntKind.i64.wrap (j14 - 1))).bind fun e19 => (lget l13 j14).bind fun e20 => (lget l13 j14).bind fun e21 => (lget (List.set l13 j14.toNat e19) (IntKind.i64.wrap (j14 - 1))).bind fun e22 => (Z8b a3 cmp5 go1 i9 m15) (List.set (List.set l13 j14.toNat e19) (IntKind.i64.wrap (j14 - 1)).toNat e20) (IntKind.i64.wrap (j14 - 1)) else go1 l13 (IntKind.i64.wrap (i9 + 1)))
def Z6v (b4 : Int) (a3 : Int) (cmp5 : (Action → Action → Option Int)) : Nat → (List Action) → Int → Option (List Action)
 | 0, _, _ => none
 | m10 + 1, l8, i9 => (bif (decide (i9 < b4)) then Z8b a3 cmp5 (Z6v b4 a3 cmp5 m10) i9 Z0y l8 i9 else some l8)
def Zeu (data1 : (List Action)) (a3 : Int) (b4 : Int) (cmp5 : (Action → Action → Option Int)) : Option (List Action) :=
 Z6v b4 a3 cmp5 (((b4 : Int) - (IntKind.i64.wrap (a3 + 1))).toNat + 1) data1 (IntKind.i64.wrap (a3 + 1))
theorem Zu2 (v2 : Value) (data1 : (List Action)) (a3 : Int) (b4 : Int) (cmp5 : (Action → Action → Option Int)) (r : (List Action)) (h : Zeu data1 a3 b4 cmp5 = some r) : Con Tryz.prog 310 [Ze v2, rd (Z0 .i64) a3, rd (Z0 .i64) b4, fn2 Tryz.prog Z6 Z6 (Z0 .i64) cmp5] (Zb v2 121 Z6 data1) (fun _ : Unit => top) (fun _ => Zb v2 121 Z6 r) := by
 refine Con.intro Tryz.func310 rfl Tryz.ntmps310 rfl fun w H X => ?_
 unfold Zeu at h
 refine SR <| Md rfl <| Ac (Z08 rfl rfl (vt rfl) (vk rfl)) rfl <| As rfl <| Nl <| AW.block <| AW.loopG (d := []) (ν := Nat × (List Action) × Int) (fun n => True ∧ Z6v b4 a3 cmp5 n.1 n.2.1 n.2.2 = some r) (fun n => n.1) (fun n => [(0, Ze v2), (1, rd (Z0 .i64) a3), (2, rd (Z0 .i64) b4), (3, fn2 Tryz.prog Z6 Z6 (Z0 .i64) cmp5), (8, rd (Z0 .i64) n.2.2)]) (fun n => [(0, Zb v2 121 Z6 n.2.1)]) ((((b4 : Int) - (IntKind.i64.wrap (a3 + 1))).toNat + 1), data1, (IntKind.i64.wrap (a3 + 1))) ⟨trivial, h⟩ (FX rfl) ?_
 rintro ⟨m10, l8, i9⟩ ⟨hsf1, h⟩
 change True at hsf1
 change Z6v b4 a3 cmp5 m10 l8 i9 = some r at h
 change AW _ _ _ ⟨Zw [(0, Ze v2), (1, rd (Z0 .i64) a3), (2, rd (Z0 .i64) b4), (3, fn2 Tryz.prog Z6 Z6 (Z0 .i64) cmp5), (8, rd (Z0 .i64) i9)], Zx [(0, Zb v2 121 Z6 l8)], _⟩
 cases m10 with
 | zero => cases h
 | succ m10 =>
  unfold Z6v at h
  generalize hgo1 : Z6v b4 a3 cmp5 m10 = go1 at h
  refine AW.seq <| SR <| Md rfl <| Md rfl <| Ac (Zp rfl rfl (vt rfl) (vt rfl)) rfl <| Nl <| Cn rfl (fun hc => ?_) (fun hc => ?_)
  ·have h := Zf hc h
   refine AW.skip <| AW.seq <| AW.block <| SR <| Md rfl <| As rfl <| Nl <| AW.block <| AW.loopG (d := []) (ν := Nat × (List Action) × Int) (fun n => True ∧ Z8b a3 cmp5 go1 i9 n.1 n.2.1 n.2.2 = some r) (fun n => n.1) (fun n => [(0, Ze v2), (1, rd (Z0 .i64) a3), (2, rd (Z0 .i64) b4), (3, fn2 Tryz.prog Z6 Z6 (Z0 .i64) cmp5), (8, rd (Z0 .i64) i9), (9, rd (Z0 .i64) n.2.2)]) (fun n => [(0, Zb v2 121 Z6 n.2.1)]) (Z0y, l8, i9) ⟨trivial, h⟩ (FX rfl) ?_
   rintro ⟨m15, l13, j14⟩ ⟨hsf2, h⟩
   change True at hsf2
   change Z8b a3 cmp5 go1 i9 m15 l13 j14 = some r at h
   change AW _ _ _ ⟨Zw [(0, Ze v2), (1, rd (Z0 .i64) a3), (2, rd (Z0 .i64) b4), (3, fn2 Tryz.prog Z6 Z6 (Z0 .i64) cmp5), (8, rd (Z0 .i64) i9), (9, rd (Z0 .i64) j14)], Zx [(0, Zb v2 121 Z6 l13)], _⟩
   cases m15 with
   | zero => cases h
   | succ m15 =>
    unfold Z8b at h
    generalize hgo2 : Z8b a3 cmp5 go1 i9 m15 = go2 at h
    refine AW.seq <| AW.seq ?_
    obtain ⟨e16, he16, h⟩ := Z1 h
    obtain ⟨e17, he17, h⟩ := Z1 h
    obtain ⟨x18, hx18, h⟩ := Z1 h
    refine AW.regionAny [⟨[9], [18], [], []⟩, ⟨[1], [19], [], []⟩, ⟨[18, 19], [20], [], []⟩, ⟨[20], [21], [], []⟩, ⟨[3, 21], [22], [], []⟩, ⟨[0, 21], [23], [], []⟩, ⟨[9, 21], [24], [], []⟩, ⟨[23, 24, 21], [25], [0], []⟩, ⟨[25, 21], [26], [0], []⟩, ⟨[0, 21], [27], [], []⟩, ⟨[9, 21], [28], [], []⟩, ⟨[28, 21], [29], [], []⟩, ⟨[27, 29, 21], [30], [0], []⟩, ⟨[30, 21], [31], [0], []⟩, ⟨[22, 26, 31, 21], [32], [], []⟩, ⟨[32, 21], [33], [], []⟩, ⟨[33, 21], [34], [], []⟩] Z05 (by kernel_rfl) <| Zu rfl <| Zu rfl <| Sc (lo [18, 19] [] rfl fun S hs hr => Z3l rfl rfl (vh hs 18 rfl rfl) (vh hs 19 rfl rfl)) rfl <| Zu rfl <| Sc (lg [3, 21] [] rfl fun hq S hs hr => Zt (A := fn2 Tryz.prog Z6 Z6 (Z0 .i64) cmp5) rfl rfl (vh hs 3 rfl rfl)) rfl <| Sc (lg [0, 21] [] rfl fun hq S hs hr => Zt (A := Ze v2) rfl rfl (vh hs 0 rfl rfl)) rfl <| Sc (lg [9, 21] [] rfl fun hq S hs hr => Zt (A := rd (Z0 .i64) j14) rfl rfl (vh hs 9 rfl rfl)) rfl <| Sc (lg [23, 24, 21] [0] rfl fun hq S hs hr => Z1q 0 rfl rfl Z0e (Zs ((hs 23 rfl).trans rfl) hq) ((hr 0 rfl).trans rfl) (Zs ((hs 24 rfl).trans rfl) hq) (Z2b he16 hq)) rfl <| Sc (lg [25, 21] [0] rfl fun hq S hs hr => Z1g 0 rfl rfl Z0n (Zs ((hs 25 rfl).trans rfl) hq) ((hr 0 rfl).trans rfl) (Z0g (Z2b he16 hq)).2) rfl <| Sc (lg [0, 21] [] rfl fun hq S hs hr => Zt (A := Ze v2) rfl rfl (vh hs 0 rfl rfl)) rfl <| Sc (lg [9, 21] [] rfl fun hq S hs hr => Zt (A := rd (Z0 .i64) j14) rfl rfl (vh hs 9 rfl rfl)) rfl <| Sc (lg [28, 21] [] rfl fun hq S hs hr => Z0j rfl rfl (Zs ((hs 28 rfl).trans rfl) hq) (vk rfl)) rfl <| Sc (lg [27, 29, 21] [0] rfl fun hq S hs hr => Z1q 0 rfl rfl Z0e (Zs ((hs 27 rfl).trans rfl) hq) ((hr 0 rfl).trans rfl) (Zs ((hs 29 rfl).trans rfl) hq) (Z2b he17 hq)) rfl <| Sc (lg [30, 21] [0] rfl fun hq S hs hr => Z1g 0 rfl rfl Z0n (Zs ((hs 30 rfl).trans rfl) hq) ((hr 0 rfl).trans rfl) (Z0g (Z2b he17 hq)).2) rfl <| Sc (lg [22, 26, 31, 21] [] rfl fun hq S hs hr => Zb6 (Z2b hx18 hq) rfl rfl (Zs ((hs 22 rfl).trans rfl) hq) (Zs ((hs 26 rfl).trans rfl) hq) (Zs ((hs 31 rfl).trans rfl) hq)) rfl <| Sc (lg [32, 21] [] rfl fun hq S hs hr => Zp rfl rfl (Zs ((hs 32 rfl).trans rfl) hq) (vk rfl)) rfl <| Sc (lo [33, 21] [] rfl fun S hs hr => Z1w rfl rfl (vh hs 21 rfl rfl) (vh hs 33 rfl rfl)) rfl <| Cn rfl (fun hc => ?_) (fun hc => ?_)
    ·have h := Zf hc h
     refine AW.skip <| AW.seq <| AW.block <| AW.vlen 0 rfl fun hvl0_273 => ?_
     obtain ⟨e19, he19, h⟩ := Z1 h
     obtain ⟨e20, he20, h⟩ := Z1 h
     obtain ⟨e21, he21, h⟩ := Z1 h
     obtain ⟨e22, he22, h⟩ := Z1 h
     refine AW.regionAny [⟨[0], [37], [], []⟩, ⟨[9], [38], [], []⟩, ⟨[0], [39], [], []⟩, ⟨[9], [40], [], []⟩, ⟨[40], [41], [], []⟩, ⟨[0], [42], [], []⟩, ⟨[9], [43], [], []⟩, ⟨[43], [44], [], []⟩, ⟨[42, 44], [45], [], []⟩, ⟨[45], [46], [0], []⟩, ⟨[0], [47], [], []⟩, ⟨[9], [48], [], []⟩, ⟨[47, 48], [49], [], []⟩, ⟨[49], [50], [0], []⟩, ⟨[37, 38], [51], [], []⟩, ⟨[51, 46], [], [0], [0]⟩, ⟨[39, 41], [52], [], []⟩, ⟨[52, 50], [], [0], [0]⟩] Z05 (by kernel_rfl) <| SMw rfl <| Zu rfl <| SMw rfl <| Zu rfl <| Sc (lo [40] [] rfl fun S hs hr => Z0j rfl rfl (vh hs 40 rfl rfl) (vk rfl)) rfl <| SMw rfl <| Zu rfl <| Sc (lo [43] [] rfl fun S hs hr => Z0j rfl rfl (vh hs 43 rfl rfl) (vk rfl)) rfl <| Sc (lo [42, 44] [] rfl fun S hs hr => Z24 (l := l13) hvl0_273 rfl rfl rfl Z0e (vh hs 42 rfl rfl) (vh hs 44 rfl rfl) he19) rfl <| Sc (lo [45] [0] rfl fun S hs hr => Z1g 0 rfl rfl Z0n (vh hs 45 rfl rfl) ((hr 0 rfl).trans rfl) (Z0g he19).2) rfl <| SMw rfl <| Zu rfl <| Sc (lo [47, 48] [] rfl fun S hs hr => Z24 (l := l13) hvl0_273 rfl rfl rfl Z0e (vh hs 47 rfl rfl) (vh hs 48 rfl rfl) he20) rfl <| Sc (lo [49] [0] rfl fun S hs hr => Z1g 0 rfl rfl Z0n (vh hs 49 rfl rfl) ((hr 0 rfl).trans rfl) (Z0g he20).2) rfl <| Sc (lo [37, 38] [] rfl fun S hs hr => Z24 (l := l13) hvl0_273 rfl rfl rfl Z0e (vh hs 37 rfl rfl) (vh hs 38 rfl rfl) he21) rfl <| Sc (Z3t [51, 46] [0] rfl fun S hs hr => Z2h 0 rfl rfl Z0n (vh hs 51 rfl rfl) ((hr 0 rfl).trans rfl) (Z0g he21).2 (vh hs 46 rfl rfl)) rfl <| Sc (lo [39, 41] [] rfl fun S hs hr => Z24 (l := (List.set l13 j14.toNat e19)) hvl0_273 (by simp) rfl rfl Z0e (vh hs 39 rfl rfl) (vh hs 41 rfl rfl) he22) rfl <| Sc (Z3t [52, 50] [0] rfl fun S hs hr => Z2h 0 rfl rfl Z0n (vh hs 52 rfl rfl) ((hr 0 rfl).trans rfl) (Z0g he22).2 (vh hs 50 rfl rfl)) rfl <| Rg <| Md rfl <| Ac (Z0j rfl rfl (vt rfl) (vk rfl)) rfl <| As rfl <| Nl ?_
     subst hgo2
     exact ⟨(m15, (List.set (List.set l13 j14.toNat e19) (IntKind.i64.wrap (j14 - 1)).toNat e20), (IntKind.i64.wrap (j14 - 1))), Nat.lt_succ_self _, ⟨trivial, h⟩, FX rfl⟩
    ·have h := Zg hc h
     refine AW.exit <| Rg <| Md rfl <| Ac (Z08 rfl rfl (vt rfl) (vk rfl)) rfl <| As rfl <| Nl ?_
     subst hgo1
     exact ⟨(m10, l13, (IntKind.i64.wrap (i9 + 1))), Nat.lt_succ_self _, ⟨trivial, h⟩, FX rfl⟩
  ·have h := Zg hc h
   refine AW.exit ?_
   obtain rfl := si h
   exact Z27 (i := 0) Tryz.results310 rfl rfl
def Z9f (n5 : Int) (b4 : Int) (a3 : Int) : Nat → (List Action) → Int → Option (List Action)
 | 0, _, _ => none
 | m11 + 1, l9, i10 => (bif (decide (i10 < n5)) then (lget l9 (IntKind.i64.wrap (b4 + i10))).bind fun e12 => (lget l9 (IntKind.i64.wrap (a3 + i10))).bind fun e13 => (lget l9 (IntKind.i64.wrap (a3 + i10))).bind fun e14 => (lget (List.set l9 (IntKind.i64.wrap (a3 + i10)).toNat e12) (IntKind.i64.wrap (b4 + i10))).bind fun e15 => (Z9f n5 b4 a3 m11) (List.set (List.set l9 (IntKind.i64.wrap (a3 + i10)).toNat e12) (IntKind.i64.wrap (b4 + i10)).toNat e13) (IntKind.i64.wrap (i10 + 1)) else some l9)
def Zcm (data1 : (List Action)) (a3 : Int) (b4 : Int) (n5 : Int) (cmp6 : (Action → Action → Option Int)) : Option (List Action) :=
 Z9f n5 b4 a3 (((n5 : Int) - 0).toNat + 1) data1 0
theorem Zr5 (v2 : Value) (data1 : (List Action)) (a3 : Int) (b4 : Int) (n5 : Int) (cmp6 : (Action → Action → Option Int)) (r : (List Action)) (h : Zcm data1 a3 b4 n5 cmp6 = some r) : Con Tryz.prog 343 [Ze v2, rd (Z0 .i64) a3, rd (Z0 .i64) b4, rd (Z0 .i64) n5, fn2 Tryz.prog Z6 Z6 (Z0 .i64) cmp6] (Zb v2 121 Z6 data1) (fun _ : Unit => top) (fun _ => Zb v2 121 Z6 r) := by
 refine Con.intro Tryz.func343 rfl Tryz.ntmps343 rfl fun w H X => ?_
 unfold Zcm at h
 refine SR <| Ak rfl <| Nl <| AW.block <| AW.loopG (d := []) (ν := Nat × (List Action) × Int) (fun n => True ∧ Z9f n5 b4 a3 n.1 n.2.1 n.2.2 = some r) (fun n => n.1) (fun n => [(0, Ze v2), (1, rd (Z0 .i64) a3), (2, rd (Z0 .i64) b4), (3, rd (Z0 .i64) n5), (10, rd (Z0 .i64) n.2.2)]) (fun n => [(0, Zb v2 121 Z6 n.2.1)]) ((((n5 : Int) - 0).toNat + 1), data1, 0) ⟨trivial, h⟩ (FX rfl) ?_
 rintro ⟨m11, l9, i10⟩ ⟨hsf1, h⟩
 change True at hsf1
 change Z9f n5 b4 a3 m11 l9 i10 = some r at h
 change AW _ _ _ ⟨Zw [(0, Ze v2), (1, rd (Z0 .i64) a3), (2, rd (Z0 .i64) b4), (3, rd (Z0 .i64) n5), (10, rd (Z0 .i64) i10)], Zx [(0, Zb v2 121 Z6 l9)], _⟩
 cases m11 with
 | zero => cases h
 | succ m11 =>
  unfold Z9f at h
  generalize hgo1 : Z9f n5 b4 a3 m11 = go1 at h
  refine AW.seq <| SR <| Md rfl <| Md rfl <| Ac (Zp rfl rfl (vt rfl) (vt rfl)) rfl <| Nl <| Cn rfl (fun hc => ?_) (fun hc => ?_)
  ·have h := Zf hc h
   refine AW.skip <| AW.seq <| AW.block <| AW.vlen 0 rfl fun hvl0_127 => ?_
   obtain ⟨e12, he12, h⟩ := Z1 h
   obtain ⟨e13, he13, h⟩ := Z1 h
   obtain ⟨e14, he14, h⟩ := Z1 h
   obtain ⟨e15, he15, h⟩ := Z1 h
   refine AW.regionAny [⟨[0], [16], [], []⟩, ⟨[1], [17], [], []⟩, ⟨[10], [18], [], []⟩, ⟨[17, 18], [19], [], []⟩, ⟨[0], [20], [], []⟩, ⟨[2], [21], [], []⟩, ⟨[10], [22], [], []⟩, ⟨[21, 22], [23], [], []⟩, ⟨[0], [24], [], []⟩, ⟨[2], [25], [], []⟩, ⟨[10], [26], [], []⟩, ⟨[25, 26], [27], [], []⟩, ⟨[24, 27], [28], [], []⟩, ⟨[28], [29], [0], []⟩, ⟨[0], [30], [], []⟩, ⟨[1], [31], [], []⟩, ⟨[10], [32], [], []⟩, ⟨[31, 32], [33], [], []⟩, ⟨[30, 33], [34], [], []⟩, ⟨[34], [35], [0], []⟩, ⟨[16, 19], [36], [], []⟩, ⟨[36, 29], [], [0], [0]⟩, ⟨[20, 23], [37], [], []⟩, ⟨[37, 35], [], [0], [0]⟩] Z05 (by kernel_rfl) <| SMw rfl <| Zu rfl <| Zu rfl <| Sc (lo [17, 18] [] rfl fun S hs hr => Z08 rfl rfl (vh hs 17 rfl rfl) (vh hs 18 rfl rfl)) rfl <| SMw rfl <| Zu rfl <| Zu rfl <| Sc (lo [21, 22] [] rfl fun S hs hr => Z08 rfl rfl (vh hs 21 rfl rfl) (vh hs 22 rfl rfl)) rfl <| SMw rfl <| Zu rfl <| Zu rfl <| Sc (lo [25, 26] [] rfl fun S hs hr => Z08 rfl rfl (vh hs 25 rfl rfl) (vh hs 26 rfl rfl)) rfl <| Sc (lo [24, 27] [] rfl fun S hs hr => Z24 (l := l9) hvl0_127 rfl rfl rfl Z0e (vh hs 24 rfl rfl) (vh hs 27 rfl rfl) he12) rfl <| Sc (lo [28] [0] rfl fun S hs hr => Z1g 0 rfl rfl Z0n (vh hs 28 rfl rfl) ((hr 0 rfl).trans rfl) (Z0g he12).2) rfl <| SMw rfl <| Zu rfl <| Zu rfl <| Sc (lo [31, 32] [] rfl fun S hs hr => Z08 rfl rfl (vh hs 31 rfl rfl) (vh hs 32 rfl rfl)) rfl <| Sc (lo [30, 33] [] rfl fun S hs hr => Z24 (l := l9) hvl0_127 rfl rfl rfl Z0e (vh hs 30 rfl rfl) (vh hs 33 rfl rfl) he13) rfl <| Sc (lo [34] [0] rfl fun S hs hr => Z1g 0 rfl rfl Z0n (vh hs 34 rfl rfl) ((hr 0 rfl).trans rfl) (Z0g he13).2) rfl <| Sc (lo [16, 19] [] rfl fun S hs hr => Z24 (l := l9) hvl0_127 rfl rfl rfl Z0e (vh hs 16 rfl rfl) (vh hs 19 rfl rfl) he14) rfl <| Sc (Z3t [36, 29] [0] rfl fun S hs hr => Z2h 0 rfl rfl Z0n (vh hs 36 rfl rfl) ((hr 0 rfl).trans rfl) (Z0g he14).2 (vh hs 29 rfl rfl)) rfl <| Sc (lo [20, 23] [] rfl fun S hs hr => Z24 (l := (List.set l9 (IntKind.i64.wrap (a3 + i10)).toNat e12)) hvl0_127 (by simp) rfl rfl Z0e (vh hs 20 rfl rfl) (vh hs 23 rfl rfl) he15) rfl <| Sc (Z3t [37, 35] [0] rfl fun S hs hr => Z2h 0 rfl rfl Z0n (vh hs 37 rfl rfl) ((hr 0 rfl).trans rfl) (Z0g he15).2 (vh hs 35 rfl rfl)) rfl <| Rg <| Md rfl <| Ac (Z08 rfl rfl (vt rfl) (vk rfl)) rfl <| As rfl <| Nl ?_
   subst hgo1
   exact ⟨(m11, (List.set (List.set l9 (IntKind.i64.wrap (a3 + i10)).toNat e12) (IntKind.i64.wrap (b4 + i10)).toNat e13), (IntKind.i64.wrap (i10 + 1))), Nat.lt_succ_self _, ⟨trivial, h⟩, FX rfl⟩
  ·have h := Zg hc h
   refine AW.exit ?_
   obtain rfl := si h
   exact Z27 (i := 0) Tryz.results343 rfl rfl
def Z9r (m4 : Int) (cmp6 : (Action → Action → Option Int)) : Nat → (List Action) → Int → Int → Option (List Action)
 | 0, _, _, _ => none
 | m13 + 1, l10, i11, j12 => (bif (decide (i11 ≠ j12)) then (bif (decide (i11 > j12)) then (Zcm l10 (IntKind.i64.wrap (m4 - i11)) m4 j12 cmp6).bind fun l14 => (Z9r m4 cmp6 m13) l14 (IntKind.i64.wrap (i11 - j12)) j12 else (Zcm l10 (IntKind.i64.wrap (m4 - i11)) (IntKind.i64.wrap ((IntKind.i64.wrap (m4 + j12)) - i11)) i11 cmp6).bind fun l15 => (Z9r m4 cmp6 m13) l15 i11 (IntKind.i64.wrap (j12 - i11))) else (Zcm l10 (IntKind.i64.wrap (m4 - i11)) m4 i11 cmp6).bind fun l16 => some l16)
def Zf7 (data1 : (List Action)) (a3 : Int) (m4 : Int) (b5 : Int) (cmp6 : (Action → Action → Option Int)) : Option (List Action) :=
 Z9r m4 cmp6 Z0y data1 (IntKind.i64.wrap (m4 - a3)) (IntKind.i64.wrap (b5 - m4))
theorem Y5r (v2 : Value) (data1 : (List Action)) (a3 : Int) (m4 : Int) (b5 : Int) (cmp6 : (Action → Action → Option Int)) (r : (List Action)) (h : Zf7 data1 a3 m4 b5 cmp6 = some r) : Con Tryz.prog 335 [Ze v2, rd (Z0 .i64) a3, rd (Z0 .i64) m4, rd (Z0 .i64) b5, fn2 Tryz.prog Z6 Z6 (Z0 .i64) cmp6] (Zb v2 121 Z6 data1) (fun _ : Unit => top) (fun _ => Zb v2 121 Z6 r) := by
 refine Con.intro Tryz.func335 rfl Tryz.ntmps335 rfl fun w H X => ?_
 unfold Zf7 at h
 refine SR <| Md rfl <| Md rfl <| Ac (Z0j rfl rfl (vt rfl) (vt rfl)) rfl <| As rfl <| Nl <| SR <| Md rfl <| Md rfl <| Ac (Z0j rfl rfl (vt rfl) (vt rfl)) rfl <| As rfl <| Nl <| AW.seq <| AW.block <| AW.loopG (d := []) (ν := Nat × (List Action) × Int × Int) (fun n => True ∧ Z9r m4 cmp6 n.1 n.2.1 n.2.2.1 n.2.2.2 = some r) (fun n => n.1) (fun n => [(0, Ze v2), (2, rd (Z0 .i64) m4), (4, fn2 Tryz.prog Z6 Z6 (Z0 .i64) cmp6), (10, rd (Z0 .i64) n.2.2.1), (11, rd (Z0 .i64) n.2.2.2)]) (fun n => [(0, Zb v2 121 Z6 n.2.1)]) (Z0y, data1, (IntKind.i64.wrap (m4 - a3)), (IntKind.i64.wrap (b5 - m4))) ⟨trivial, h⟩ (FX rfl) ?_
 rintro ⟨m13, l10, i11, j12⟩ ⟨hsf1, h⟩
 change True at hsf1
 change Z9r m4 cmp6 m13 l10 i11 j12 = some r at h
 change AW _ _ _ ⟨Zw [(0, Ze v2), (2, rd (Z0 .i64) m4), (4, fn2 Tryz.prog Z6 Z6 (Z0 .i64) cmp6), (10, rd (Z0 .i64) i11), (11, rd (Z0 .i64) j12)], Zx [(0, Zb v2 121 Z6 l10)], _⟩
 cases m13 with
 | zero => cases h
 | succ m13 =>
  unfold Z9r at h
  generalize hgo1 : Z9r m4 cmp6 m13 = go1 at h
  refine AW.seq <| SR <| Md rfl <| Md rfl <| Ac (Z8m rfl rfl (vt rfl) (vt rfl)) rfl <| Nl <| Cn rfl (fun hc => ?_) (fun hc => ?_)
  ·have h := Zf hc h
   refine AW.skip <| AW.block <| SR <| Md rfl <| Md rfl <| Ac (Z3l rfl rfl (vt rfl) (vt rfl)) rfl <| Nl <| Cn rfl (fun hc => ?_) (fun hc => ?_)
   ·have h := Zf hc h
    refine AW.seq ?_
    obtain ⟨l14, hl14, h⟩ := Z1 h
    refine Rg <| Mw rfl <| Md rfl <| Md rfl <| Ac (Z0j rfl rfl (vt rfl) (vt rfl)) rfl <| Md rfl <| Md rfl <| Ac (Zt (A := fn2 Tryz.prog Z6 Z6 (Z0 .i64) cmp6) rfl rfl (vt rfl)) rfl <| Ct rfl (Z1f 0 (xs := [.tmp 24, .tmp 27, .tmp 28, .tmp 29, .tmp 30]) (Zr5 _ _ _ _ _ _ _ hl14) Zr0 rfl rfl ⟨vt rfl, vt rfl, vt rfl, vt rfl, vt rfl, trivial⟩ rfl) ?_
    rintro _ ⟨_u, rfl⟩
    refine Nl <| Rg <| Md rfl <| Md rfl <| Ac (Z0j rfl rfl (vt rfl) (vt rfl)) rfl <| As rfl <| Nl ?_
    subst hgo1
    exact ⟨(m13, l14, (IntKind.i64.wrap (i11 - j12)), j12), Nat.lt_succ_self _, ⟨trivial, h⟩, FX rfl⟩
   ·have h := Zg hc h
    refine AW.seq ?_
    obtain ⟨l15, hl15, h⟩ := Z1 h
    refine Rg <| Mw rfl <| Md rfl <| Md rfl <| Ac (Z0j rfl rfl (vt rfl) (vt rfl)) rfl <| Md rfl <| Md rfl <| Ac (Z08 rfl rfl (vt rfl) (vt rfl)) rfl <| Md rfl <| Ac (Z0j rfl rfl (vt rfl) (vt rfl)) rfl <| Md rfl <| Ac (Zt (A := fn2 Tryz.prog Z6 Z6 (Z0 .i64) cmp6) rfl rfl (vt rfl)) rfl <| Ct rfl (Z1f 0 (xs := [.tmp 35, .tmp 38, .tmp 43, .tmp 44, .tmp 45]) (Zr5 _ _ _ _ _ _ _ hl15) Zr0 rfl rfl ⟨vt rfl, vt rfl, vt rfl, vt rfl, vt rfl, trivial⟩ rfl) ?_
    rintro _ ⟨_u, rfl⟩
    refine Nl <| Rg <| Md rfl <| Md rfl <| Ac (Z0j rfl rfl (vt rfl) (vt rfl)) rfl <| As rfl <| Nl ?_
    subst hgo1
    exact ⟨(m13, l15, i11, (IntKind.i64.wrap (j12 - i11))), Nat.lt_succ_self _, ⟨trivial, h⟩, FX rfl⟩
  ·have h := Zg hc h
   refine AW.exit ?_
   obtain ⟨l16, hl16, h⟩ := Z1 h
   refine Rg <| Mw rfl <| Md rfl <| Md rfl <| Ac (Z0j rfl rfl (vt rfl) (vt rfl)) rfl <| Md rfl <| Md rfl <| Ac (Zt (A := fn2 Tryz.prog Z6 Z6 (Z0 .i64) cmp6) rfl rfl (vt rfl)) rfl <| Ct rfl (Z1f 0 (xs := [.tmp 50, .tmp 53, .tmp 54, .tmp 55, .tmp 56]) (Zr5 _ _ _ _ _ _ _ hl16) Zr0 rfl rfl ⟨vt rfl, vt rfl, vt rfl, vt rfl, vt rfl, trivial⟩ rfl) ?_
   rintro _ ⟨_u, rfl⟩
   refine Nl ?_
   obtain rfl := si h
   exact Z27 (i := 0) Tryz.results335 rfl rfl
def Z6j (i9 : Int) : Nat → (List Action) → Int → Option (List Action)
 | 0, _, _ => none
 | m20 + 1, l18, k19 => (bif (decide (k19 < (IntKind.i64.wrap (i9 - 1)))) then (lget l18 (IntKind.i64.wrap (k19 + 1))).bind fun e21 => (lget l18 k19).bind fun e22 => (lget l18 k19).bind fun e23 => (lget (List.set l18 k19.toNat e21) (IntKind.i64.wrap (k19 + 1))).bind fun e24 => (Z6j i9 m20) (List.set (List.set l18 k19.toNat e21) (IntKind.i64.wrap (k19 + 1)).toNat e22) (IntKind.i64.wrap (k19 + 1)) else some l18)
def Z6a (data1 : (List Action)) (a3 : Int) (cmp6 : (Action → Action → Option Int)) : Nat → Int → Int → Option (List Action)
 | 0, _, _ => none
 | m11 + 1, i9, j10 => (bif (decide (i9 < j10)) then (Z38 (BitVec.ofInt 64 (IntKind.i64.wrap (i9 + j10))) ((1 : BitVec 64).toNat : Int)).bind fun q12 => (lget data1 (IntKind.i64.wrap (q12.toNat : Int))).bind fun e13 => (lget data1 a3).bind fun e14 => (cmp6 e13 e14).bind fun x15 => (bif (decide (x15 < 0)) then (Z6a data1 a3 cmp6 m11) (IntKind.i64.wrap ((IntKind.i64.wrap (q12.toNat : Int)) + 1)) j10 else (Z6a data1 a3 cmp6 m11) i9 (IntKind.i64.wrap (q12.toNat : Int))) else Z6j i9 ((((IntKind.i64.wrap (i9 - 1)) : Int) - a3).toNat + 1) data1 a3)
def Z6n (i27 : Int) : Nat → (List Action) → Int → Option (List Action)
 | 0, _, _ => none
 | m38 + 1, l36, k37 => (bif (decide (k37 > i27)) then (lget l36 (IntKind.i64.wrap (k37 - 1))).bind fun e39 => (lget l36 k37).bind fun e40 => (lget l36 k37).bind fun e41 => (lget (List.set l36 k37.toNat e39) (IntKind.i64.wrap (k37 - 1))).bind fun e42 => (Z6n i27 m38) (List.set (List.set l36 k37.toNat e39) (IntKind.i64.wrap (k37 - 1)).toNat e40) (IntKind.i64.wrap (k37 - 1)) else some l36)
def Z64 (data1 : (List Action)) (m4 : Int) (cmp6 : (Action → Action → Option Int)) : Nat → Int → Int → Option (List Action)
 | 0, _, _ => none
 | m29 + 1, i27, j28 => (bif (decide (i27 < j28)) then (Z38 (BitVec.ofInt 64 (IntKind.i64.wrap (i27 + j28))) ((1 : BitVec 64).toNat : Int)).bind fun q30 => (lget data1 m4).bind fun e31 => (lget data1 (IntKind.i64.wrap (q30.toNat : Int))).bind fun e32 => (cmp6 e31 e32).bind fun x33 => (bif (!(decide (x33 < 0))) then (Z64 data1 m4 cmp6 m29) (IntKind.i64.wrap ((IntKind.i64.wrap (q30.toNat : Int)) + 1)) j28 else (Z64 data1 m4 cmp6 m29) i27 (IntKind.i64.wrap (q30.toNat : Int))) else Z6n i27 (((m4 : Int) - i27).toNat + 1) data1 m4)
def Ze7 (q43 : (BitVec 64)) (m4 : Int) (start48 : Int) (b5 : Int) (R_slices_symMergeCmpFunc_Action : ((List Action) → Int → Int → Int → (Action → Action → Option Int) → Option (List Action))) (cmp6 : (Action → Action → Option Int)) (l56 : (List Action)) : Option (List Action) :=
 (bif ((decide ((IntKind.i64.wrap (q43.toNat : Int)) < (IntKind.i64.wrap ((IntKind.i64.wrap ((IntKind.i64.wrap (q43.toNat : Int)) + m4)) - start48)))) && (decide ((IntKind.i64.wrap ((IntKind.i64.wrap ((IntKind.i64.wrap (q43.toNat : Int)) + m4)) - start48)) < b5))) then (R_slices_symMergeCmpFunc_Action l56 (IntKind.i64.wrap (q43.toNat : Int)) (IntKind.i64.wrap ((IntKind.i64.wrap ((IntKind.i64.wrap (q43.toNat : Int)) + m4)) - start48)) b5 cmp6).bind fun l57 => some l57 else some l56)
def Zbb (a3 : Int) (start48 : Int) (q43 : (BitVec 64)) (R_slices_symMergeCmpFunc_Action : ((List Action) → Int → Int → Int → (Action → Action → Option Int) → Option (List Action))) (cmp6 : (Action → Action → Option Int)) (m4 : Int) (b5 : Int) (l55 : (List Action)) : Option (List Action) :=
 (bif ((decide (a3 < start48)) && (decide (start48 < (IntKind.i64.wrap (q43.toNat : Int))))) then (R_slices_symMergeCmpFunc_Action l55 a3 start48 (IntKind.i64.wrap (q43.toNat : Int)) cmp6).bind fun l58 => Ze7 q43 m4 start48 b5 R_slices_symMergeCmpFunc_Action cmp6 l58 else Ze7 q43 m4 start48 b5 R_slices_symMergeCmpFunc_Action cmp6 l55)
def Z7o (data1 : (List Action)) (q43 : (BitVec 64)) (m4 : Int) (cmp6 : (Action → Action → Option Int)) (a3 : Int) (R_slices_symMergeCmpFunc_Action : ((List Action) → Int → Int → Int → (Action → Action → Option Int) → Option (List Action))) (b5 : Int) : Nat → Int → Int → Option (List Action)
 | 0, _, _ => none
 | m50 + 1, start48, r49 => (bif (decide (start48 < r49)) then (Z38 (BitVec.ofInt 64 (IntKind.i64.wrap (start48 + r49))) ((1 : BitVec 64).toNat : Int)).bind fun q51 => (lget data1 (IntKind.i64.wrap ((IntKind.i64.wrap ((IntKind.i64.wrap ((IntKind.i64.wrap (q43.toNat : Int)) + m4)) - 1)) - (IntKind.i64.wrap (q51.toNat : Int))))).bind fun e52 => (lget data1 (IntKind.i64.wrap (q51.toNat : Int))).bind fun e53 => (cmp6 e52 e53).bind fun x54 => (bif (!(decide (x54 < 0))) then (Z7o data1 q43 m4 cmp6 a3 R_slices_symMergeCmpFunc_Action b5 m50) (IntKind.i64.wrap ((IntKind.i64.wrap (q51.toNat : Int)) + 1)) r49 else (Z7o data1 q43 m4 cmp6 a3 R_slices_symMergeCmpFunc_Action b5 m50) start48 (IntKind.i64.wrap (q51.toNat : Int))) else (bif ((decide (start48 < m4)) && (decide (m4 < (IntKind.i64.wrap ((IntKind.i64.wrap ((IntKind.i64.wrap (q43.toNat : Int)) + m4)) - start48))))) then (Zf7 data1 start48 m4 (IntKind.i64.wrap ((IntKind.i64.wrap ((IntKind.i64.wrap (q43.toNat : Int)) + m4)) - start48)) cmp6).bind fun l59 => Zbb a3 start48 q43 R_slices_symMergeCmpFunc_Action cmp6 m4 b5 l59 else Zbb a3 start48 q43 R_slices_symMergeCmpFunc_Action cmp6 m4 b5 data1))
def Zez (data1 : (List Action)) (q43 : (BitVec 64)) (m4 : Int) (cmp6 : (Action → Action → Option Int)) (a3 : Int) (R_slices_symMergeCmpFunc_Action : ((List Action) → Int → Int → Int → (Action → Action → Option Int) → Option (List Action))) (b5 : Int) (start44 : Int) (r45 : Int) : Option (List Action) :=
 Z7o data1 q43 m4 cmp6 a3 R_slices_symMergeCmpFunc_Action b5 (((r45 : Int) - start44).toNat + 1) start44 r45
def Zhv (R_slices_symMergeCmpFunc_Action : ((List Action) → Int → Int → Int → (Action → Action → Option Int) → Option (List Action))) (data1 : (List Action)) (a3 : Int) (m4 : Int) (b5 : Int) (cmp6 : (Action → Action → Option Int)) : Option (List Action) :=
 (bif (decide ((IntKind.i64.wrap (m4 - a3)) = 1)) then Z6a data1 a3 cmp6 (((b5 : Int) - m4).toNat + 1) m4 b5 else (bif (decide ((IntKind.i64.wrap (b5 - m4)) = 1)) then Z64 data1 m4 cmp6 (((m4 : Int) - a3).toNat + 1) a3 m4 else (Z38 (BitVec.ofInt 64 (IntKind.i64.wrap (a3 + b5))) ((1 : BitVec 64).toNat : Int)).bind fun q43 => (bif (decide (m4 > (IntKind.i64.wrap (q43.toNat : Int)))) then Zez data1 q43 m4 cmp6 a3 R_slices_symMergeCmpFunc_Action b5 (IntKind.i64.wrap ((IntKind.i64.wrap ((IntKind.i64.wrap (q43.toNat : Int)) + m4)) - b5)) (IntKind.i64.wrap (q43.toNat : Int)) else Zez data1 q43 m4 cmp6 a3 R_slices_symMergeCmpFunc_Action b5 a3 m4)))
theorem Yh8 (R_slices_symMergeCmpFunc_Action : ((List Action) → Int → Int → Int → (Action → Action → Option Int) → Option (List Action))) (hR_slices_symMergeCmpFunc_Action : ∀ (v2 : Value) (data1 : (List Action)) (a3 : Int) (m4 : Int) (b5 : Int) (cmp6 : (Action → Action → Option Int)) (r : (List Action)), R_slices_symMergeCmpFunc_Action data1 a3 m4 b5 cmp6 = some r → Con Tryz.prog 311 [Ze v2, rd (Z0 .i64) a3, rd (Z0 .i64) m4, rd (Z0 .i64) b5, fn2 Tryz.prog Z6 Z6 (Z0 .i64) cmp6] (Zb v2 121 Z6 data1) (fun _ : Unit => top) (fun _ => Zb v2 121 Z6 r)) (v2 : Value) (data1 : (List Action)) (a3 : Int) (m4 : Int) (b5 : Int) (cmp6 : (Action → Action → Option Int)) (r : (List Action)) (h : Zhv R_slices_symMergeCmpFunc_Action data1 a3 m4 b5 cmp6 = some r) : Con Tryz.prog 311 [Ze v2, rd (Z0 .i64) a3, rd (Z0 .i64) m4, rd (Z0 .i64) b5, fn2 Tryz.prog Z6 Z6 (Z0 .i64) cmp6] (Zb v2 121 Z6 data1) (fun _ : Unit => top) (fun _ => Zb v2 121 Z6 r) := by
 refine Con.intro Tryz.func311 rfl Tryz.ntmps311 rfl fun w H X => ?_
 unfold Zhv at h
 refine AW.seq <| SR <| Md rfl <| Md rfl <| Ac (Z0j rfl rfl (vt rfl) (vt rfl)) rfl <| Ac (Z0i rfl rfl (vt rfl) (vk rfl)) rfl <| Nl <| Cn rfl (fun hc => ?_) (fun hc => ?_)
 ·have h := Zf hc h
  refine SR <| Md rfl <| As rfl <| Nl <| SR <| Md rfl <| As rfl <| Nl <| AW.seq <| AW.block <| AW.loopG (d := []) (ν := Nat × Int × Int) (fun n => True ∧ Z6a data1 a3 cmp6 n.1 n.2.1 n.2.2 = some r) (fun n => n.1) (fun n => [(0, Ze v2), (1, rd (Z0 .i64) a3), (4, fn2 Tryz.prog Z6 Z6 (Z0 .i64) cmp6), (10, rd (Z0 .i64) n.2.1), (11, rd (Z0 .i64) n.2.2)]) (fun n => [(0, Zb v2 121 Z6 data1)]) ((((b5 : Int) - m4).toNat + 1), m4, b5) ⟨trivial, h⟩ (FX rfl) ?_
  rintro ⟨m11, i9, j10⟩ ⟨hsf1, h⟩
  change True at hsf1
  change Z6a data1 a3 cmp6 m11 i9 j10 = some r at h
  change AW _ _ _ ⟨Zw [(0, Ze v2), (1, rd (Z0 .i64) a3), (4, fn2 Tryz.prog Z6 Z6 (Z0 .i64) cmp6), (10, rd (Z0 .i64) i9), (11, rd (Z0 .i64) j10)], Zx [(0, Zb v2 121 Z6 data1)], _⟩
  cases m11 with
  | zero => cases h
  | succ m11 =>
   unfold Z6a at h
   generalize hgo1 : Z6a data1 a3 cmp6 m11 = go1 at h
   refine AW.seq <| SR <| Md rfl <| Md rfl <| Ac (Zp rfl rfl (vt rfl) (vt rfl)) rfl <| Nl <| Cn rfl (fun hc => ?_) (fun hc => ?_)
   ·have h := Zf hc h
    refine AW.skip <| AW.block <| AW.seq ?_
    obtain ⟨q12, hq12, h⟩ := Z1 h
    refine Rg <| Md rfl <| Md rfl <| Ac (Z08 rfl rfl (vt rfl) (vt rfl)) rfl <| Ac (Z7n rfl rfl us3 Z73 (vt rfl)) rfl <| Ac (Z4u rfl rfl (vt rfl) (Z4b (vku (1 : BitVec 64) rfl)) hq12) rfl <| Ac (Z99 rfl rfl Zal un3 (vt rfl)) rfl <| As rfl <| Nl <| AW.seq ?_
    obtain ⟨e13, he13, h⟩ := Z1 h
    obtain ⟨e14, he14, h⟩ := Z1 h
    obtain ⟨x15, hx15, h⟩ := Z1 h
    refine AW.regionAny [⟨[4], [40], [], []⟩, ⟨[0], [41], [], []⟩, ⟨[12], [42], [], []⟩, ⟨[41, 42], [43], [0], []⟩, ⟨[43], [44], [0], []⟩, ⟨[0], [45], [], []⟩, ⟨[1], [46], [], []⟩, ⟨[45, 46], [47], [0], []⟩, ⟨[47], [48], [0], []⟩, ⟨[40, 44, 48], [49], [], []⟩, ⟨[49], [50], [], []⟩] Z05 (by kernel_rfl) <| Sc (lo [4] [] rfl fun S hs hr => Zt (A := fn2 Tryz.prog Z6 Z6 (Z0 .i64) cmp6) rfl rfl (vh hs 4 rfl rfl)) rfl <| SMw rfl <| Zu rfl <| Sc (lo [41, 42] [0] rfl fun S hs hr => Z1q 0 rfl rfl Z0e (vh hs 41 rfl rfl) ((hr 0 rfl).trans rfl) (vh hs 42 rfl rfl) he13) rfl <| Sc (lo [43] [0] rfl fun S hs hr => Z1g 0 rfl rfl Z0n (vh hs 43 rfl rfl) ((hr 0 rfl).trans rfl) (Z0g he13).2) rfl <| SMw rfl <| Zu rfl <| Sc (lo [45, 46] [0] rfl fun S hs hr => Z1q 0 rfl rfl Z0e (vh hs 45 rfl rfl) ((hr 0 rfl).trans rfl) (vh hs 46 rfl rfl) he14) rfl <| Sc (lo [47] [0] rfl fun S hs hr => Z1g 0 rfl rfl Z0n (vh hs 47 rfl rfl) ((hr 0 rfl).trans rfl) (Z0g he14).2) rfl <| Sc (lo [40, 44, 48] [] rfl fun S hs hr => Zb6 hx15 rfl rfl (vh hs 40 rfl rfl) (vh hs 44 rfl rfl) (vh hs 48 rfl rfl)) rfl <| Sc (lo [49] [] rfl fun S hs hr => Zp rfl rfl (vh hs 49 rfl rfl) (vk rfl)) rfl <| Cn rfl (fun hc => ?_) (fun hc => ?_)
    ·have h := Zf hc h
     refine Rg <| Md rfl <| Ac (Z08 rfl rfl (vt rfl) (vk rfl)) rfl <| As rfl <| Nl ?_
     subst hgo1
     exact ⟨(m11, (IntKind.i64.wrap ((IntKind.i64.wrap (q12.toNat : Int)) + 1)), j10), Nat.lt_succ_self _, ⟨trivial, h⟩, FX rfl⟩
    ·have h := Zg hc h
     refine Rg <| Md rfl <| As rfl <| Nl ?_
     subst hgo1
     exact ⟨(m11, i9, (IntKind.i64.wrap (q12.toNat : Int))), Nat.lt_succ_self _, ⟨trivial, h⟩, FX rfl⟩
   ·have h := Zg hc h
    refine AW.exit <| AW.seq <| SR <| Md rfl <| As rfl <| Nl <| AW.block <| AW.loopG (d := []) (ν := Nat × (List Action) × Int) (fun n => True ∧ Z6j i9 n.1 n.2.1 n.2.2 = some r) (fun n => n.1) (fun n => [(0, Ze v2), (10, rd (Z0 .i64) i9), (13, rd (Z0 .i64) n.2.2)]) (fun n => [(0, Zb v2 121 Z6 n.2.1)]) (((((IntKind.i64.wrap (i9 - 1)) : Int) - a3).toNat + 1), data1, a3) ⟨trivial, h⟩ (FX rfl) ?_
    rintro ⟨m20, l18, k19⟩ ⟨hsf2, h⟩
    change True at hsf2
    change Z6j i9 m20 l18 k19 = some r at h
    change AW _ _ _ ⟨Zw [(0, Ze v2), (10, rd (Z0 .i64) i9), (13, rd (Z0 .i64) k19)], Zx [(0, Zb v2 121 Z6 l18)], _⟩
    cases m20 with
    | zero => cases h
    | succ m20 =>
     unfold Z6j at h
     generalize hgo2 : Z6j i9 m20 = go2 at h
     refine AW.seq <| SR <| Md rfl <| Md rfl <| Ac (Z0j rfl rfl (vt rfl) (vk rfl)) rfl <| Ac (Zp rfl rfl (vt rfl) (vt rfl)) rfl <| Nl <| Cn rfl (fun hc => ?_) (fun hc => ?_)
     ·have h := Zf hc h
      refine AW.skip <| AW.seq <| AW.block <| AW.vlen 0 rfl fun hvl0_218 => ?_
      obtain ⟨e21, he21, h⟩ := Z1 h
      obtain ⟨e22, he22, h⟩ := Z1 h
      obtain ⟨e23, he23, h⟩ := Z1 h
      obtain ⟨e24, he24, h⟩ := Z1 h
      refine AW.regionAny [⟨[0], [61], [], []⟩, ⟨[13], [62], [], []⟩, ⟨[0], [63], [], []⟩, ⟨[13], [64], [], []⟩, ⟨[64], [65], [], []⟩, ⟨[0], [66], [], []⟩, ⟨[13], [67], [], []⟩, ⟨[67], [68], [], []⟩, ⟨[66, 68], [69], [], []⟩, ⟨[69], [70], [0], []⟩, ⟨[0], [71], [], []⟩, ⟨[13], [72], [], []⟩, ⟨[71, 72], [73], [], []⟩, ⟨[73], [74], [0], []⟩, ⟨[61, 62], [75], [], []⟩, ⟨[75, 70], [], [0], [0]⟩, ⟨[63, 65], [76], [], []⟩, ⟨[76, 74], [], [0], [0]⟩] Z05 (by kernel_rfl) <| SMw rfl <| Zu rfl <| SMw rfl <| Zu rfl <| Sc (lo [64] [] rfl fun S hs hr => Z08 rfl rfl (vh hs 64 rfl rfl) (vk rfl)) rfl <| SMw rfl <| Zu rfl <| Sc (lo [67] [] rfl fun S hs hr => Z08 rfl rfl (vh hs 67 rfl rfl) (vk rfl)) rfl <| Sc (lo [66, 68] [] rfl fun S hs hr => Z24 (l := l18) hvl0_218 rfl rfl rfl Z0e (vh hs 66 rfl rfl) (vh hs 68 rfl rfl) he21) rfl <| Sc (lo [69] [0] rfl fun S hs hr => Z1g 0 rfl rfl Z0n (vh hs 69 rfl rfl) ((hr 0 rfl).trans rfl) (Z0g he21).2) rfl <| SMw rfl <| Zu rfl <| Sc (lo [71, 72] [] rfl fun S hs hr => Z24 (l := l18) hvl0_218 rfl rfl rfl Z0e (vh hs 71 rfl rfl) (vh hs 72 rfl rfl) he22) rfl <| Sc (lo [73] [0] rfl fun S hs hr => Z1g 0 rfl rfl Z0n (vh hs 73 rfl rfl) ((hr 0 rfl).trans rfl) (Z0g he22).2) rfl <| Sc (lo [61, 62] [] rfl fun S hs hr => Z24 (l := l18) hvl0_218 rfl rfl rfl Z0e (vh hs 61 rfl rfl) (vh hs 62 rfl rfl) he23) rfl <| Sc (Z3t [75, 70] [0] rfl fun S hs hr => Z2h 0 rfl rfl Z0n (vh hs 75 rfl rfl) ((hr 0 rfl).trans rfl) (Z0g he23).2 (vh hs 70 rfl rfl)) rfl <| Sc (lo [63, 65] [] rfl fun S hs hr => Z24 (l := (List.set l18 k19.toNat e21)) hvl0_218 (by simp) rfl rfl Z0e (vh hs 63 rfl rfl) (vh hs 65 rfl rfl) he24) rfl <| Sc (Z3t [76, 74] [0] rfl fun S hs hr => Z2h 0 rfl rfl Z0n (vh hs 76 rfl rfl) ((hr 0 rfl).trans rfl) (Z0g he24).2 (vh hs 74 rfl rfl)) rfl <| Rg <| Md rfl <| Ac (Z08 rfl rfl (vt rfl) (vk rfl)) rfl <| As rfl <| Nl ?_
      subst hgo2
      exact ⟨(m20, (List.set (List.set l18 k19.toNat e21) (IntKind.i64.wrap (k19 + 1)).toNat e22), (IntKind.i64.wrap (k19 + 1))), Nat.lt_succ_self _, ⟨trivial, h⟩, FX rfl⟩
     ·have h := Zg hc h
      refine AW.exit <| AW.ret ?_
      obtain rfl := si h
      exact Z27 (i := 0) Tryz.results311 rfl rfl
 ·have h := Zg hc h
  refine AW.skip <| AW.seq <| SR <| Md rfl <| Md rfl <| Ac (Z0j rfl rfl (vt rfl) (vt rfl)) rfl <| Ac (Z0i rfl rfl (vt rfl) (vk rfl)) rfl <| Nl <| Cn rfl (fun hc => ?_) (fun hc => ?_)
  ·have h := Zf hc h
   refine SR <| Md rfl <| As rfl <| Nl <| SR <| Md rfl <| As rfl <| Nl <| AW.seq <| AW.block <| AW.loopG (d := []) (ν := Nat × Int × Int) (fun n => True ∧ Z64 data1 m4 cmp6 n.1 n.2.1 n.2.2 = some r) (fun n => n.1) (fun n => [(0, Ze v2), (2, rd (Z0 .i64) m4), (4, fn2 Tryz.prog Z6 Z6 (Z0 .i64) cmp6), (14, rd (Z0 .i64) n.2.1), (15, rd (Z0 .i64) n.2.2)]) (fun n => [(0, Zb v2 121 Z6 data1)]) ((((m4 : Int) - a3).toNat + 1), a3, m4) ⟨trivial, h⟩ (FX rfl) ?_
   rintro ⟨m29, i27, j28⟩ ⟨hsf3, h⟩
   change True at hsf3
   change Z64 data1 m4 cmp6 m29 i27 j28 = some r at h
   change AW _ _ _ ⟨Zw [(0, Ze v2), (2, rd (Z0 .i64) m4), (4, fn2 Tryz.prog Z6 Z6 (Z0 .i64) cmp6), (14, rd (Z0 .i64) i27), (15, rd (Z0 .i64) j28)], Zx [(0, Zb v2 121 Z6 data1)], _⟩
   cases m29 with
   | zero => cases h
   | succ m29 =>
    unfold Z64 at h
    generalize hgo3 : Z64 data1 m4 cmp6 m29 = go3 at h
    refine AW.seq <| SR <| Md rfl <| Md rfl <| Ac (Zp rfl rfl (vt rfl) (vt rfl)) rfl <| Nl <| Cn rfl (fun hc => ?_) (fun hc => ?_)
    ·have h := Zf hc h
     refine AW.skip <| AW.block <| AW.seq ?_
     obtain ⟨q30, hq30, h⟩ := Z1 h
     refine Rg <| Md rfl <| Md rfl <| Ac (Z08 rfl rfl (vt rfl) (vt rfl)) rfl <| Ac (Z7n rfl rfl us3 Z73 (vt rfl)) rfl <| Ac (Z4u rfl rfl (vt rfl) (Z4b (vku (1 : BitVec 64) rfl)) hq30) rfl <| Ac (Z99 rfl rfl Zal un3 (vt rfl)) rfl <| As rfl <| Nl <| AW.seq ?_
     obtain ⟨e31, he31, h⟩ := Z1 h
     obtain ⟨e32, he32, h⟩ := Z1 h
     obtain ⟨x33, hx33, h⟩ := Z1 h
     refine AW.regionAny [⟨[4], [92], [], []⟩, ⟨[0], [93], [], []⟩, ⟨[2], [94], [], []⟩, ⟨[93, 94], [95], [0], []⟩, ⟨[95], [96], [0], []⟩, ⟨[0], [97], [], []⟩, ⟨[16], [98], [], []⟩, ⟨[97, 98], [99], [0], []⟩, ⟨[99], [100], [0], []⟩, ⟨[92, 96, 100], [101], [], []⟩, ⟨[101], [102], [], []⟩, ⟨[102], [103], [], []⟩] Z05 (by kernel_rfl) <| Sc (lo [4] [] rfl fun S hs hr => Zt (A := fn2 Tryz.prog Z6 Z6 (Z0 .i64) cmp6) rfl rfl (vh hs 4 rfl rfl)) rfl <| SMw rfl <| Zu rfl <| Sc (lo [93, 94] [0] rfl fun S hs hr => Z1q 0 rfl rfl Z0e (vh hs 93 rfl rfl) ((hr 0 rfl).trans rfl) (vh hs 94 rfl rfl) he31) rfl <| Sc (lo [95] [0] rfl fun S hs hr => Z1g 0 rfl rfl Z0n (vh hs 95 rfl rfl) ((hr 0 rfl).trans rfl) (Z0g he31).2) rfl <| SMw rfl <| Zu rfl <| Sc (lo [97, 98] [0] rfl fun S hs hr => Z1q 0 rfl rfl Z0e (vh hs 97 rfl rfl) ((hr 0 rfl).trans rfl) (vh hs 98 rfl rfl) he32) rfl <| Sc (lo [99] [0] rfl fun S hs hr => Z1g 0 rfl rfl Z0n (vh hs 99 rfl rfl) ((hr 0 rfl).trans rfl) (Z0g he32).2) rfl <| Sc (lo [92, 96, 100] [] rfl fun S hs hr => Zb6 hx33 rfl rfl (vh hs 92 rfl rfl) (vh hs 96 rfl rfl) (vh hs 100 rfl rfl)) rfl <| Sc (lo [101] [] rfl fun S hs hr => Zp rfl rfl (vh hs 101 rfl rfl) (vk rfl)) rfl <| Sc (lo [102] [] rfl fun S hs hr => Z19 rfl rfl (vh hs 102 rfl rfl)) rfl <| Cn rfl (fun hc => ?_) (fun hc => ?_)
     ·have h := Zf hc h
      refine Rg <| Md rfl <| Ac (Z08 rfl rfl (vt rfl) (vk rfl)) rfl <| As rfl <| Nl ?_
      subst hgo3
      exact ⟨(m29, (IntKind.i64.wrap ((IntKind.i64.wrap (q30.toNat : Int)) + 1)), j28), Nat.lt_succ_self _, ⟨trivial, h⟩, FX rfl⟩
     ·have h := Zg hc h
      refine Rg <| Md rfl <| As rfl <| Nl ?_
      subst hgo3
      exact ⟨(m29, i27, (IntKind.i64.wrap (q30.toNat : Int))), Nat.lt_succ_self _, ⟨trivial, h⟩, FX rfl⟩
    ·have h := Zg hc h
     refine AW.exit <| AW.seq <| SR <| Md rfl <| As rfl <| Nl <| AW.block <| AW.loopG (d := []) (ν := Nat × (List Action) × Int) (fun n => True ∧ Z6n i27 n.1 n.2.1 n.2.2 = some r) (fun n => n.1) (fun n => [(0, Ze v2), (14, rd (Z0 .i64) i27), (17, rd (Z0 .i64) n.2.2)]) (fun n => [(0, Zb v2 121 Z6 n.2.1)]) ((((m4 : Int) - i27).toNat + 1), data1, m4) ⟨trivial, h⟩ (FX rfl) ?_
     rintro ⟨m38, l36, k37⟩ ⟨hsf4, h⟩
     change True at hsf4
     change Z6n i27 m38 l36 k37 = some r at h
     change AW _ _ _ ⟨Zw [(0, Ze v2), (14, rd (Z0 .i64) i27), (17, rd (Z0 .i64) k37)], Zx [(0, Zb v2 121 Z6 l36)], _⟩
     cases m38 with
     | zero => cases h
     | succ m38 =>
      unfold Z6n at h
      generalize hgo4 : Z6n i27 m38 = go4 at h
      refine AW.seq <| SR <| Md rfl <| Md rfl <| Ac (Z3l rfl rfl (vt rfl) (vt rfl)) rfl <| Nl <| Cn rfl (fun hc => ?_) (fun hc => ?_)
      ·have h := Zf hc h
       refine AW.skip <| AW.seq <| AW.block <| AW.vlen 0 rfl fun hvl0_474 => ?_
       obtain ⟨e39, he39, h⟩ := Z1 h
       obtain ⟨e40, he40, h⟩ := Z1 h
       obtain ⟨e41, he41, h⟩ := Z1 h
       obtain ⟨e42, he42, h⟩ := Z1 h
       refine AW.regionAny [⟨[0], [113], [], []⟩, ⟨[17], [114], [], []⟩, ⟨[0], [115], [], []⟩, ⟨[17], [116], [], []⟩, ⟨[116], [117], [], []⟩, ⟨[0], [118], [], []⟩, ⟨[17], [119], [], []⟩, ⟨[119], [120], [], []⟩, ⟨[118, 120], [121], [], []⟩, ⟨[121], [122], [0], []⟩, ⟨[0], [123], [], []⟩, ⟨[17], [124], [], []⟩, ⟨[123, 124], [125], [], []⟩, ⟨[125], [126], [0], []⟩, ⟨[113, 114], [127], [], []⟩, ⟨[127, 122], [], [0], [0]⟩, ⟨[115, 117], [128], [], []⟩, ⟨[128, 126], [], [0], [0]⟩] Z05 (by kernel_rfl) <| SMw rfl <| Zu rfl <| SMw rfl <| Zu rfl <| Sc (lo [116] [] rfl fun S hs hr => Z0j rfl rfl (vh hs 116 rfl rfl) (vk rfl)) rfl <| SMw rfl <| Zu rfl <| Sc (lo [119] [] rfl fun S hs hr => Z0j rfl rfl (vh hs 119 rfl rfl) (vk rfl)) rfl <| Sc (lo [118, 120] [] rfl fun S hs hr => Z24 (l := l36) hvl0_474 rfl rfl rfl Z0e (vh hs 118 rfl rfl) (vh hs 120 rfl rfl) he39) rfl <| Sc (lo [121] [0] rfl fun S hs hr => Z1g 0 rfl rfl Z0n (vh hs 121 rfl rfl) ((hr 0 rfl).trans rfl) (Z0g he39).2) rfl <| SMw rfl <| Zu rfl <| Sc (lo [123, 124] [] rfl fun S hs hr => Z24 (l := l36) hvl0_474 rfl rfl rfl Z0e (vh hs 123 rfl rfl) (vh hs 124 rfl rfl) he40) rfl <| Sc (lo [125] [0] rfl fun S hs hr => Z1g 0 rfl rfl Z0n (vh hs 125 rfl rfl) ((hr 0 rfl).trans rfl) (Z0g he40).2) rfl <| Sc (lo [113, 114] [] rfl fun S hs hr => Z24 (l := l36) hvl0_474 rfl rfl rfl Z0e (vh hs 113 rfl rfl) (vh hs 114 rfl rfl) he41) rfl <| Sc (Z3t [127, 122] [0] rfl fun S hs hr => Z2h 0 rfl rfl Z0n (vh hs 127 rfl rfl) ((hr 0 rfl).trans rfl) (Z0g he41).2 (vh hs 122 rfl rfl)) rfl <| Sc (lo [115, 117] [] rfl fun S hs hr => Z24 (l := (List.set l36 k37.toNat e39)) hvl0_474 (by simp) rfl rfl Z0e (vh hs 115 rfl rfl) (vh hs 117 rfl rfl) he42) rfl <| Sc (Z3t [128, 126] [0] rfl fun S hs hr => Z2h 0 rfl rfl Z0n (vh hs 128 rfl rfl) ((hr 0 rfl).trans rfl) (Z0g he42).2 (vh hs 126 rfl rfl)) rfl <| Rg <| Md rfl <| Ac (Z0j rfl rfl (vt rfl) (vk rfl)) rfl <| As rfl <| Nl ?_
       subst hgo4
       exact ⟨(m38, (List.set (List.set l36 k37.toNat e39) (IntKind.i64.wrap (k37 - 1)).toNat e40), (IntKind.i64.wrap (k37 - 1))), Nat.lt_succ_self _, ⟨trivial, h⟩, FX rfl⟩
      ·have h := Zg hc h
       refine AW.exit <| AW.ret ?_
       obtain rfl := si h
       exact Z27 (i := 0) Tryz.results311 rfl rfl
  ·have h := Zg hc h
   refine AW.skip <| AW.seq ?_
   obtain ⟨q43, hq43, h⟩ := Z1 h
   refine Rg <| Md rfl <| Md rfl <| Ac (Z08 rfl rfl (vt rfl) (vt rfl)) rfl <| Ac (Z7n rfl rfl us3 Z73 (vt rfl)) rfl <| Ac (Z4u rfl rfl (vt rfl) (Z4b (vku (1 : BitVec 64) rfl)) hq43) rfl <| Ac (Z99 rfl rfl Zal un3 (vt rfl)) rfl <| As rfl <| Nl <| SR <| Md rfl <| Md rfl <| Ac (Z08 rfl rfl (vt rfl) (vt rfl)) rfl <| As rfl <| Nl <| SR <| Ak rfl <| Ak rfl <| Nl ?_
   refine AW.join (d := []) (ν := Int × Int) (fun n => Zez data1 q43 m4 cmp6 a3 R_slices_symMergeCmpFunc_Action b5 n.1 n.2 = some r) (fun n => [(0, Ze v2), (1, rd (Z0 .i64) a3), (2, rd (Z0 .i64) m4), (3, rd (Z0 .i64) b5), (4, fn2 Tryz.prog Z6 Z6 (Z0 .i64) cmp6), (18, rd (Z0 .i64) (IntKind.i64.wrap (q43.toNat : Int))), (19, rd (Z0 .i64) (IntKind.i64.wrap ((IntKind.i64.wrap (q43.toNat : Int)) + m4))), (20, rd (Z0 .i64) n.1), (21, rd (Z0 .i64) n.2)]) (fun n => [(0, Zb v2 121 Z6 data1)]) ?hx5 ?hy5
   case hy5 =>
    rintro ⟨start44, r45⟩ h
    unfold Zez at h
    change AW _ _ _ ⟨Zw [(0, Ze v2), (1, rd (Z0 .i64) a3), (2, rd (Z0 .i64) m4), (3, rd (Z0 .i64) b5), (4, fn2 Tryz.prog Z6 Z6 (Z0 .i64) cmp6), (18, rd (Z0 .i64) (IntKind.i64.wrap (q43.toNat : Int))), (19, rd (Z0 .i64) (IntKind.i64.wrap ((IntKind.i64.wrap (q43.toNat : Int)) + m4))), (20, rd (Z0 .i64) start44), (21, rd (Z0 .i64) r45)], Zx [(0, Zb v2 121 Z6 data1)], _⟩
    refine SR <| Md rfl <| Ac (Z0j rfl rfl (vt rfl) (vk rfl)) rfl <| As rfl <| Nl <| AW.seq <| AW.block <| AW.loopG (d := []) (ν := Nat × Int × Int) (fun n => True ∧ Z7o data1 q43 m4 cmp6 a3 R_slices_symMergeCmpFunc_Action b5 n.1 n.2.1 n.2.2 = some r) (fun n => n.1) (fun n => [(0, Ze v2), (1, rd (Z0 .i64) a3), (2, rd (Z0 .i64) m4), (3, rd (Z0 .i64) b5), (4, fn2 Tryz.prog Z6 Z6 (Z0 .i64) cmp6), (18, rd (Z0 .i64) (IntKind.i64.wrap (q43.toNat : Int))), (19, rd (Z0 .i64) (IntKind.i64.wrap ((IntKind.i64.wrap (q43.toNat : Int)) + m4))), (20, rd (Z0 .i64) n.2.1), (21, rd (Z0 .i64) n.2.2), (22, rd (Z0 .i64) (IntKind.i64.wrap ((IntKind.i64.wrap ((IntKind.i64.wrap (q43.toNat : Int)) + m4)) - 1)))]) (fun n => [(0, Zb v2 121 Z6 data1)]) ((((r45 : Int) - start44).toNat + 1), start44, r45) ⟨trivial, h⟩ (FX rfl) ?_
    rintro ⟨m50, start48, r49⟩ ⟨hsf6, h⟩
    change True at hsf6
    change Z7o data1 q43 m4 cmp6 a3 R_slices_symMergeCmpFunc_Action b5 m50 start48 r49 = some r at h
    change AW _ _ _ ⟨Zw [(0, Ze v2), (1, rd (Z0 .i64) a3), (2, rd (Z0 .i64) m4), (3, rd (Z0 .i64) b5), (4, fn2 Tryz.prog Z6 Z6 (Z0 .i64) cmp6), (18, rd (Z0 .i64) (IntKind.i64.wrap (q43.toNat : Int))), (19, rd (Z0 .i64) (IntKind.i64.wrap ((IntKind.i64.wrap (q43.toNat : Int)) + m4))), (20, rd (Z0 .i64) start48), (21, rd (Z0 .i64) r49), (22, rd (Z0 .i64) (IntKind.i64.wrap ((IntKind.i64.wrap ((IntKind.i64.wrap (q43.toNat : Int)) + m4)) - 1)))], Zx [(0, Zb v2 121 Z6 data1)], _⟩
    cases m50 with
    | zero => cases h
    | succ m50 =>
     unfold Z7o at h
     generalize hgo6 : Z7o data1 q43 m4 cmp6 a3 R_slices_symMergeCmpFunc_Action b5 m50 = go6 at h
     refine AW.seq <| SR <| Md rfl <| Md rfl <| Ac (Zp rfl rfl (vt rfl) (vt rfl)) rfl <| Nl <| Cn rfl (fun hc => ?_) (fun hc => ?_)
     ·have h := Zf hc h
      refine AW.skip <| AW.block <| AW.seq ?_
      obtain ⟨q51, hq51, h⟩ := Z1 h
      refine Rg <| Md rfl <| Md rfl <| Ac (Z08 rfl rfl (vt rfl) (vt rfl)) rfl <| Ac (Z7n rfl rfl us3 Z73 (vt rfl)) rfl <| Ac (Z4u rfl rfl (vt rfl) (Z4b (vku (1 : BitVec 64) rfl)) hq51) rfl <| Ac (Z99 rfl rfl Zal un3 (vt rfl)) rfl <| As rfl <| Nl <| AW.seq ?_
      obtain ⟨e52, he52, h⟩ := Z1 h
      obtain ⟨e53, he53, h⟩ := Z1 h
      obtain ⟨x54, hx54, h⟩ := Z1 h
      refine AW.regionAny [⟨[4], [158], [], []⟩, ⟨[0], [159], [], []⟩, ⟨[22], [160], [], []⟩, ⟨[23], [161], [], []⟩, ⟨[160, 161], [162], [], []⟩, ⟨[159, 162], [163], [0], []⟩, ⟨[163], [164], [0], []⟩, ⟨[0], [165], [], []⟩, ⟨[23], [166], [], []⟩, ⟨[165, 166], [167], [0], []⟩, ⟨[167], [168], [0], []⟩, ⟨[158, 164, 168], [169], [], []⟩, ⟨[169], [170], [], []⟩, ⟨[170], [171], [], []⟩] Z05 (by kernel_rfl) <| Sc (lo [4] [] rfl fun S hs hr => Zt (A := fn2 Tryz.prog Z6 Z6 (Z0 .i64) cmp6) rfl rfl (vh hs 4 rfl rfl)) rfl <| SMw rfl <| Zu rfl <| Zu rfl <| Sc (lo [160, 161] [] rfl fun S hs hr => Z0j rfl rfl (vh hs 160 rfl rfl) (vh hs 161 rfl rfl)) rfl <| Sc (lo [159, 162] [0] rfl fun S hs hr => Z1q 0 rfl rfl Z0e (vh hs 159 rfl rfl) ((hr 0 rfl).trans rfl) (vh hs 162 rfl rfl) he52) rfl <| Sc (lo [163] [0] rfl fun S hs hr => Z1g 0 rfl rfl Z0n (vh hs 163 rfl rfl) ((hr 0 rfl).trans rfl) (Z0g he52).2) rfl <| SMw rfl <| Zu rfl <| Sc (lo [165, 166] [0] rfl fun S hs hr => Z1q 0 rfl rfl Z0e (vh hs 165 rfl rfl) ((hr 0 rfl).trans rfl) (vh hs 166 rfl rfl) he53) rfl <| Sc (lo [167] [0] rfl fun S hs hr => Z1g 0 rfl rfl Z0n (vh hs 167 rfl rfl) ((hr 0 rfl).trans rfl) (Z0g he53).2) rfl <| Sc (lo [158, 164, 168] [] rfl fun S hs hr => Zb6 hx54 rfl rfl (vh hs 158 rfl rfl) (vh hs 164 rfl rfl) (vh hs 168 rfl rfl)) rfl <| Sc (lo [169] [] rfl fun S hs hr => Zp rfl rfl (vh hs 169 rfl rfl) (vk rfl)) rfl <| Sc (lo [170] [] rfl fun S hs hr => Z19 rfl rfl (vh hs 170 rfl rfl)) rfl <| Cn rfl (fun hc => ?_) (fun hc => ?_)
      ·have h := Zf hc h
       refine Rg <| Md rfl <| Ac (Z08 rfl rfl (vt rfl) (vk rfl)) rfl <| As rfl <| Nl ?_
       subst hgo6
       exact ⟨(m50, (IntKind.i64.wrap ((IntKind.i64.wrap (q51.toNat : Int)) + 1)), r49), Nat.lt_succ_self _, ⟨trivial, h⟩, FX rfl⟩
      ·have h := Zg hc h
       refine Rg <| Md rfl <| As rfl <| Nl ?_
       subst hgo6
       exact ⟨(m50, start48, (IntKind.i64.wrap (q51.toNat : Int))), Nat.lt_succ_self _, ⟨trivial, h⟩, FX rfl⟩
     ·have h := Zg hc h
      refine AW.exit <| SR <| Md rfl <| Md rfl <| Ac (Z0j rfl rfl (vt rfl) (vt rfl)) rfl <| As rfl <| Nl ?_
      refine AW.join (d := []) (ν := (List Action)) (fun n => Zbb a3 start48 q43 R_slices_symMergeCmpFunc_Action cmp6 m4 b5 n = some r) (fun n => [(0, Ze v2), (1, rd (Z0 .i64) a3), (3, rd (Z0 .i64) b5), (4, fn2 Tryz.prog Z6 Z6 (Z0 .i64) cmp6), (18, rd (Z0 .i64) (IntKind.i64.wrap (q43.toNat : Int))), (20, rd (Z0 .i64) start48), (24, rd (Z0 .i64) (IntKind.i64.wrap ((IntKind.i64.wrap ((IntKind.i64.wrap (q43.toNat : Int)) + m4)) - start48)))]) (fun n => [(0, Zb v2 121 Z6 n)]) ?hx7 ?hy7
      case hy7 =>
       intro l55 h
       unfold Zbb at h
       change AW _ _ _ ⟨Zw [(0, Ze v2), (1, rd (Z0 .i64) a3), (3, rd (Z0 .i64) b5), (4, fn2 Tryz.prog Z6 Z6 (Z0 .i64) cmp6), (18, rd (Z0 .i64) (IntKind.i64.wrap (q43.toNat : Int))), (20, rd (Z0 .i64) start48), (24, rd (Z0 .i64) (IntKind.i64.wrap ((IntKind.i64.wrap ((IntKind.i64.wrap (q43.toNat : Int)) + m4)) - start48)))], Zx [(0, Zb v2 121 Z6 l55)], _⟩
       refine AW.join (d := []) (ν := (List Action)) (fun n => Ze7 q43 m4 start48 b5 R_slices_symMergeCmpFunc_Action cmp6 n = some r) (fun n => [(0, Ze v2), (3, rd (Z0 .i64) b5), (4, fn2 Tryz.prog Z6 Z6 (Z0 .i64) cmp6), (18, rd (Z0 .i64) (IntKind.i64.wrap (q43.toNat : Int))), (24, rd (Z0 .i64) (IntKind.i64.wrap ((IntKind.i64.wrap ((IntKind.i64.wrap (q43.toNat : Int)) + m4)) - start48)))]) (fun n => [(0, Zb v2 121 Z6 n)]) ?hx8 ?hy8
       case hy8 =>
        intro l56 h
        unfold Ze7 at h
        change AW _ _ _ ⟨Zw [(0, Ze v2), (3, rd (Z0 .i64) b5), (4, fn2 Tryz.prog Z6 Z6 (Z0 .i64) cmp6), (18, rd (Z0 .i64) (IntKind.i64.wrap (q43.toNat : Int))), (24, rd (Z0 .i64) (IntKind.i64.wrap ((IntKind.i64.wrap ((IntKind.i64.wrap (q43.toNat : Int)) + m4)) - start48)))], Zx [(0, Zb v2 121 Z6 l56)], _⟩
        refine SR <| Md rfl <| Md rfl <| Ac (Zp rfl rfl (vt rfl) (vt rfl)) rfl <| Md rfl <| Gd rfl (fun hq => Zt (A := rd (Z0 .i64) (IntKind.i64.wrap ((IntKind.i64.wrap ((IntKind.i64.wrap (q43.toNat : Int)) + m4)) - start48))) rfl rfl (vt rfl)) <| Gd rfl (fun hq => Zt (A := rd (Z0 .i64) b5) rfl rfl (vt rfl)) <| Gd rfl (fun hq => Zp rfl rfl (Zs rfl hq) (Zs rfl hq)) <| Ac (Z1w rfl rfl (vt rfl) (vt rfl)) rfl <| Nl <| Cn rfl (fun hc => ?_) (fun hc => ?_)
        ·have h := Zf hc h
         obtain ⟨l57, hl57, h⟩ := Z1 h
         refine Rg <| Mw rfl <| Md rfl <| Md rfl <| Md rfl <| Ac (Zt (A := fn2 Tryz.prog Z6 Z6 (Z0 .i64) cmp6) rfl rfl (vt rfl)) rfl <| Ct rfl (Z1f 0 (xs := [.tmp 214, .tmp 215, .tmp 216, .tmp 217, .tmp 218]) (hR_slices_symMergeCmpFunc_Action _ _ _ _ _ _ _ hl57) Zle rfl rfl ⟨vt rfl, vt rfl, vt rfl, vt rfl, vt rfl, trivial⟩ rfl) ?_
         rintro _ ⟨_u, rfl⟩
         refine Nl ?_
         obtain rfl := si h
         exact Z27 (i := 0) Tryz.results311 rfl rfl
        ·have h := Zg hc h
         refine AW.skip ?_
         obtain rfl := si h
         exact Z27 (i := 0) Tryz.results311 rfl rfl
       case hx8 =>
        refine SR <| Md rfl <| Md rfl <| Ac (Zp rfl rfl (vt rfl) (vt rfl)) rfl <| Md rfl <| Gd rfl (fun hq => Zt (A := rd (Z0 .i64) start48) rfl rfl (vt rfl)) <| Gd rfl (fun hq => Zt (A := rd (Z0 .i64) (IntKind.i64.wrap (q43.toNat : Int))) rfl rfl (vt rfl)) <| Gd rfl (fun hq => Zp rfl rfl (Zs rfl hq) (Zs rfl hq)) <| Ac (Z1w rfl rfl (vt rfl) (vt rfl)) rfl <| Nl <| Cn rfl (fun hc => ?_) (fun hc => ?_)
        ·have h := Zf hc h
         obtain ⟨l58, hl58, h⟩ := Z1 h
         refine Rg <| Mw rfl <| Md rfl <| Md rfl <| Md rfl <| Ac (Zt (A := fn2 Tryz.prog Z6 Z6 (Z0 .i64) cmp6) rfl rfl (vt rfl)) rfl <| Ct rfl (Z1f 0 (xs := [.tmp 200, .tmp 201, .tmp 202, .tmp 203, .tmp 204]) (hR_slices_symMergeCmpFunc_Action _ _ _ _ _ _ _ hl58) Zle rfl rfl ⟨vt rfl, vt rfl, vt rfl, vt rfl, vt rfl, trivial⟩ rfl) ?_
         rintro _ ⟨_u, rfl⟩
         refine Nl ?_
         exact ⟨l58, h, FX rfl⟩
        ·have h := Zg hc h
         refine AW.skip ?_
         exact ⟨l55, h, FX rfl⟩
      case hx7 =>
       refine SR <| Md rfl <| Md rfl <| Ac (Zp rfl rfl (vt rfl) (vt rfl)) rfl <| Md rfl <| Gd rfl (fun hq => Zt (A := rd (Z0 .i64) m4) rfl rfl (vt rfl)) <| Gd rfl (fun hq => Zt (A := rd (Z0 .i64) (IntKind.i64.wrap ((IntKind.i64.wrap ((IntKind.i64.wrap (q43.toNat : Int)) + m4)) - start48))) rfl rfl (vt rfl)) <| Gd rfl (fun hq => Zp rfl rfl (Zs rfl hq) (Zs rfl hq)) <| Ac (Z1w rfl rfl (vt rfl) (vt rfl)) rfl <| Nl <| Cn rfl (fun hc => ?_) (fun hc => ?_)
       ·have h := Zf hc h
        obtain ⟨l59, hl59, h⟩ := Z1 h
        refine Rg <| Mw rfl <| Md rfl <| Md rfl <| Md rfl <| Ac (Zt (A := fn2 Tryz.prog Z6 Z6 (Z0 .i64) cmp6) rfl rfl (vt rfl)) rfl <| Ct rfl (Z1f 0 (xs := [.tmp 186, .tmp 187, .tmp 188, .tmp 189, .tmp 190]) (Y5r _ _ _ _ _ _ _ hl59) Yex rfl rfl ⟨vt rfl, vt rfl, vt rfl, vt rfl, vt rfl, trivial⟩ rfl) ?_
        rintro _ ⟨_u, rfl⟩
        refine Nl ?_
        exact ⟨l59, h, FX rfl⟩
       ·have h := Zg hc h
        refine AW.skip ?_
        exact ⟨data1, h, FX rfl⟩
   case hx5 =>
    refine SR <| Md rfl <| Md rfl <| Ac (Z3l rfl rfl (vt rfl) (vt rfl)) rfl <| Nl <| Cn rfl (fun hc => ?_) (fun hc => ?_)
    ·have h := Zf hc h
     refine SR <| Md rfl <| Md rfl <| Ac (Z0j rfl rfl (vt rfl) (vt rfl)) rfl <| As rfl <| Nl <| Rg <| Md rfl <| As rfl <| Nl ?_
     exact ⟨((IntKind.i64.wrap ((IntKind.i64.wrap ((IntKind.i64.wrap (q43.toNat : Int)) + m4)) - b5)), (IntKind.i64.wrap (q43.toNat : Int))), h, FX rfl⟩
    ·have h := Zg hc h
     refine SR <| Md rfl <| As rfl <| Nl <| Rg <| Md rfl <| As rfl <| Nl ?_
     exact ⟨(a3, m4), h, FX rfl⟩
def Zdo : Nat → ((List Action) → Int → Int → Int → (Action → Action → Option Int) → Option (List Action))
 | 0 => (fun _ _ _ _ _ => none)
 | n + 1 => (Zhv (Zdo n))
theorem Zxd : ∀ n : Nat, (∀ (v2 : Value) (data1 : (List Action)) (a3 : Int) (m4 : Int) (b5 : Int) (cmp6 : (Action → Action → Option Int)) (r : (List Action)), (Zdo n) data1 a3 m4 b5 cmp6 = some r → Con Tryz.prog 311 [Ze v2, rd (Z0 .i64) a3, rd (Z0 .i64) m4, rd (Z0 .i64) b5, fn2 Tryz.prog Z6 Z6 (Z0 .i64) cmp6] (Zb v2 121 Z6 data1) (fun _ : Unit => top) (fun _ => Zb v2 121 Z6 r))
 | 0 => (by intros; rename_i h; cases h)
 | n + 1 => by
  have ih := Zxd n
  exact (Yh8 (Zdo n) ih)
def Zmb (data1 : (List Action)) (a3 : Int) (m4 : Int) (b5 : Int) (cmp6 : (Action → Action → Option Int)) : Option (List Action) := (Zdo Z0y) data1 a3 m4 b5 cmp6
theorem Zyk : ∀ (v2 : Value) (data1 : (List Action)) (a3 : Int) (m4 : Int) (b5 : Int) (cmp6 : (Action → Action → Option Int)) (r : (List Action)), Zmb data1 a3 m4 b5 cmp6 = some r → Con Tryz.prog 311 [Ze v2, rd (Z0 .i64) a3, rd (Z0 .i64) m4, rd (Z0 .i64) b5, fn2 Tryz.prog Z6 Z6 (Z0 .i64) cmp6] (Zb v2 121 Z6 data1) (fun _ : Unit => top) (fun _ => Zb v2 121 Z6 r) := Zxd Z0y
def Zay (n3 : Int) (blockSize17 : Int) (cmp4 : (Action → Action → Option Int)) (go2 : (List Action) → Int → Option (List Action)) : Nat → (List Action) → Int → Int → Option (List Action)
 | 0, _, _, _ => none
 | m25 + 1, l22, a23, b24 => (bif (decide (b24 ≤ n3)) then (Zmb l22 a23 (IntKind.i64.wrap (a23 + blockSize17)) b24 cmp4).bind fun l26 => (Zay n3 blockSize17 cmp4 go2 m25) l26 b24 (IntKind.i64.wrap (b24 + (IntKind.i64.wrap (2 * blockSize17)))) else (bif (decide ((IntKind.i64.wrap (a23 + blockSize17)) < n3)) then (Zmb l22 a23 (IntKind.i64.wrap (a23 + blockSize17)) n3 cmp4).bind fun l27 => go2 l27 (IntKind.i64.wrap (blockSize17 * 2)) else go2 l22 (IntKind.i64.wrap (blockSize17 * 2))))
def Z75 (n3 : Int) (cmp4 : (Action → Action → Option Int)) : Nat → (List Action) → Int → Option (List Action)
 | 0, _, _ => none
 | m18 + 1, l16, blockSize17 => (bif (decide (blockSize17 < n3)) then Zay n3 blockSize17 cmp4 (Z75 n3 cmp4 m18) (((n3 : Int) - (IntKind.i64.wrap (2 * blockSize17))).toNat + 2) l16 0 (IntKind.i64.wrap (2 * blockSize17)) else some l16)
def Za5 (n3 : Int) (cmp4 : (Action → Action → Option Int)) : Nat → (List Action) → Int → Int → Option (List Action)
 | 0, _, _, _ => none
 | m11 + 1, l8, a9, b10 => (bif (decide (b10 ≤ n3)) then (Zeu l8 a9 b10 cmp4).bind fun l12 => (Za5 n3 cmp4 m11) l12 b10 (IntKind.i64.wrap (b10 + 20)) else (Zeu l8 a9 n3 cmp4).bind fun l13 => Z75 n3 cmp4 (((n3 : Int) - 20).toNat + 1) l13 20)
def Zly (data1 : (List Action)) (n3 : Int) (cmp4 : (Action → Action → Option Int)) : Option (List Action) :=
 Za5 n3 cmp4 (((n3 : Int) - 20).toNat + 2) data1 0 20
theorem Yh5 (v2 : Value) (data1 : (List Action)) (n3 : Int) (cmp4 : (Action → Action → Option Int)) (r : (List Action)) (h : Zly data1 n3 cmp4 = some r) : Con Tryz.prog 274 [Ze v2, rd (Z0 .i64) n3, fn2 Tryz.prog Z6 Z6 (Z0 .i64) cmp4] (Zb v2 121 Z6 data1) (fun _ : Unit => top) (fun _ => Zb v2 121 Z6 r) := by
 refine Con.intro Tryz.func274 rfl Tryz.ntmps274 rfl fun w H X => ?_
 unfold Zly at h
 refine SR <| Ak rfl <| Nl <| SR <| Md rfl <| Ak rfl <| As rfl <| Nl <| AW.seq <| AW.block <| AW.loopG (d := []) (ν := Nat × (List Action) × Int × Int) (fun n => True ∧ Za5 n3 cmp4 n.1 n.2.1 n.2.2.1 n.2.2.2 = some r) (fun n => n.1) (fun n => [(0, Ze v2), (1, rd (Z0 .i64) n3), (2, fn2 Tryz.prog Z6 Z6 (Z0 .i64) cmp4), (6, rd (Z0 .i64) 20), (7, rd (Z0 .i64) n.2.2.1), (8, rd (Z0 .i64) n.2.2.2)]) (fun n => [(0, Zb v2 121 Z6 n.2.1)]) ((((n3 : Int) - 20).toNat + 2), data1, 0, 20) ⟨trivial, h⟩ (FX rfl) ?_
 rintro ⟨m11, l8, a9, b10⟩ ⟨hsf1, h⟩
 change True at hsf1
 change Za5 n3 cmp4 m11 l8 a9 b10 = some r at h
 change AW _ _ _ ⟨Zw [(0, Ze v2), (1, rd (Z0 .i64) n3), (2, fn2 Tryz.prog Z6 Z6 (Z0 .i64) cmp4), (6, rd (Z0 .i64) 20), (7, rd (Z0 .i64) a9), (8, rd (Z0 .i64) b10)], Zx [(0, Zb v2 121 Z6 l8)], _⟩
 cases m11 with
 | zero => cases h
 | succ m11 =>
  unfold Za5 at h
  generalize hgo1 : Za5 n3 cmp4 m11 = go1 at h
  refine AW.seq <| SR <| Md rfl <| Md rfl <| Ac (Z62 rfl rfl (vt rfl) (vt rfl)) rfl <| Nl <| Cn rfl (fun hc => ?_) (fun hc => ?_)
  ·have h := Zf hc h
   refine AW.skip <| AW.block <| AW.seq ?_
   obtain ⟨l12, hl12, h⟩ := Z1 h
   refine Rg <| Mw rfl <| Md rfl <| Md rfl <| Ac (Zt (A := fn2 Tryz.prog Z6 Z6 (Z0 .i64) cmp4) rfl rfl (vt rfl)) rfl <| Ct rfl (Z1f 0 (xs := [.tmp 14, .tmp 15, .tmp 16, .tmp 17]) (Zu2 _ _ _ _ _ _ hl12) Zvp rfl rfl ⟨vt rfl, vt rfl, vt rfl, vt rfl, trivial⟩ rfl) ?_
   rintro _ ⟨_u, rfl⟩
   refine Nl <| SR <| Md rfl <| As rfl <| Nl <| Rg <| Md rfl <| Md rfl <| Ac (Z08 rfl rfl (vt rfl) (vt rfl)) rfl <| As rfl <| Nl ?_
   subst hgo1
   exact ⟨(m11, l12, b10, (IntKind.i64.wrap (b10 + 20))), Nat.lt_succ_self _, ⟨trivial, h⟩, FX rfl⟩
  ·have h := Zg hc h
   refine AW.exit <| AW.seq ?_
   obtain ⟨l13, hl13, h⟩ := Z1 h
   refine Rg <| Mw rfl <| Md rfl <| Md rfl <| Ac (Zt (A := fn2 Tryz.prog Z6 Z6 (Z0 .i64) cmp4) rfl rfl (vt rfl)) rfl <| Ct rfl (Z1f 0 (xs := [.tmp 23, .tmp 24, .tmp 25, .tmp 26]) (Zu2 _ _ _ _ _ _ hl13) Zvp rfl rfl ⟨vt rfl, vt rfl, vt rfl, vt rfl, trivial⟩ rfl) ?_
   rintro _ ⟨_u, rfl⟩
   refine Nl <| AW.block <| AW.loopG (d := []) (ν := Nat × (List Action) × Int) (fun n => True ∧ Z75 n3 cmp4 n.1 n.2.1 n.2.2 = some r) (fun n => n.1) (fun n => [(0, Ze v2), (1, rd (Z0 .i64) n3), (2, fn2 Tryz.prog Z6 Z6 (Z0 .i64) cmp4), (6, rd (Z0 .i64) n.2.2)]) (fun n => [(0, Zb v2 121 Z6 n.2.1)]) ((((n3 : Int) - 20).toNat + 1), l13, 20) ⟨trivial, h⟩ (FX rfl) ?_
   rintro ⟨m18, l16, blockSize17⟩ ⟨hsf2, h⟩
   change True at hsf2
   change Z75 n3 cmp4 m18 l16 blockSize17 = some r at h
   change AW _ _ _ ⟨Zw [(0, Ze v2), (1, rd (Z0 .i64) n3), (2, fn2 Tryz.prog Z6 Z6 (Z0 .i64) cmp4), (6, rd (Z0 .i64) blockSize17)], Zx [(0, Zb v2 121 Z6 l16)], _⟩
   cases m18 with
   | zero => cases h
   | succ m18 =>
    unfold Z75 at h
    generalize hgo2 : Z75 n3 cmp4 m18 = go2 at h
    refine AW.seq <| SR <| Md rfl <| Md rfl <| Ac (Zp rfl rfl (vt rfl) (vt rfl)) rfl <| Nl <| Cn rfl (fun hc => ?_) (fun hc => ?_)
    ·have h := Zf hc h
     refine AW.skip <| AW.block <| SR <| Md rfl <| Ac (Z9h rfl rfl (vk rfl) (vt rfl)) rfl <| Ak rfl <| As rfl <| Nl <| AW.seq <| AW.block <| AW.loopG (d := []) (ν := Nat × (List Action) × Int × Int) (fun n => True ∧ Zay n3 blockSize17 cmp4 go2 n.1 n.2.1 n.2.2.1 n.2.2.2 = some r) (fun n => n.1) (fun n => [(0, Ze v2), (1, rd (Z0 .i64) n3), (2, fn2 Tryz.prog Z6 Z6 (Z0 .i64) cmp4), (6, rd (Z0 .i64) blockSize17), (7, rd (Z0 .i64) n.2.2.1), (8, rd (Z0 .i64) n.2.2.2)]) (fun n => [(0, Zb v2 121 Z6 n.2.1)]) ((((n3 : Int) - (IntKind.i64.wrap (2 * blockSize17))).toNat + 2), l16, 0, (IntKind.i64.wrap (2 * blockSize17))) ⟨trivial, h⟩ (FX rfl) ?_
     rintro ⟨m25, l22, a23, b24⟩ ⟨hsf3, h⟩
     change True at hsf3
     change Zay n3 blockSize17 cmp4 go2 m25 l22 a23 b24 = some r at h
     change AW _ _ _ ⟨Zw [(0, Ze v2), (1, rd (Z0 .i64) n3), (2, fn2 Tryz.prog Z6 Z6 (Z0 .i64) cmp4), (6, rd (Z0 .i64) blockSize17), (7, rd (Z0 .i64) a23), (8, rd (Z0 .i64) b24)], Zx [(0, Zb v2 121 Z6 l22)], _⟩
     cases m25 with
     | zero => cases h
     | succ m25 =>
      unfold Zay at h
      generalize hgo3 : Zay n3 blockSize17 cmp4 go2 m25 = go3 at h
      refine AW.seq <| SR <| Md rfl <| Md rfl <| Ac (Z62 rfl rfl (vt rfl) (vt rfl)) rfl <| Nl <| Cn rfl (fun hc => ?_) (fun hc => ?_)
      ·have h := Zf hc h
       refine AW.skip <| AW.block <| AW.seq ?_
       obtain ⟨l26, hl26, h⟩ := Z1 h
       refine Rg <| Mw rfl <| Md rfl <| Md rfl <| Md rfl <| Ac (Z08 rfl rfl (vt rfl) (vt rfl)) rfl <| Md rfl <| Ac (Zt (A := fn2 Tryz.prog Z6 Z6 (Z0 .i64) cmp4) rfl rfl (vt rfl)) rfl <| Ct rfl (Z1f 0 (xs := [.tmp 36, .tmp 37, .tmp 40, .tmp 41, .tmp 42]) (Zyk _ _ _ _ _ _ _ hl26) Zle rfl rfl ⟨vt rfl, vt rfl, vt rfl, vt rfl, vt rfl, trivial⟩ rfl) ?_
       rintro _ ⟨_u, rfl⟩
       refine Nl <| SR <| Md rfl <| As rfl <| Nl <| Rg <| Md rfl <| Md rfl <| Ac (Z9h rfl rfl (vk rfl) (vt rfl)) rfl <| Ac (Z08 rfl rfl (vt rfl) (vt rfl)) rfl <| As rfl <| Nl ?_
       subst hgo3
       exact ⟨(m25, l26, b24, (IntKind.i64.wrap (b24 + (IntKind.i64.wrap (2 * blockSize17))))), Nat.lt_succ_self _, ⟨trivial, h⟩, FX rfl⟩
      ·have h := Zg hc h
       refine AW.exit <| AW.seq <| SR <| Md rfl <| Md rfl <| Ac (Z08 rfl rfl (vt rfl) (vt rfl)) rfl <| As rfl <| Nl <| SR <| Md rfl <| Md rfl <| Ac (Zp rfl rfl (vt rfl) (vt rfl)) rfl <| Nl <| Cn rfl (fun hc => ?_) (fun hc => ?_)
       ·have h := Zf hc h
        obtain ⟨l27, hl27, h⟩ := Z1 h
        refine Rg <| Mw rfl <| Md rfl <| Md rfl <| Md rfl <| Ac (Zt (A := fn2 Tryz.prog Z6 Z6 (Z0 .i64) cmp4) rfl rfl (vt rfl)) rfl <| Ct rfl (Z1f 0 (xs := [.tmp 55, .tmp 56, .tmp 57, .tmp 58, .tmp 59]) (Zyk _ _ _ _ _ _ _ hl27) Zle rfl rfl ⟨vt rfl, vt rfl, vt rfl, vt rfl, vt rfl, trivial⟩ rfl) ?_
        rintro _ ⟨_u, rfl⟩
        refine Nl <| Rg <| Md rfl <| Ac (Z9h rfl rfl (vt rfl) (vk rfl)) rfl <| As rfl <| Nl ?_
        subst hgo2
        exact ⟨(m18, l27, (IntKind.i64.wrap (blockSize17 * 2))), Nat.lt_succ_self _, ⟨trivial, h⟩, FX rfl⟩
       ·have h := Zg hc h
        refine AW.skip <| Rg <| Md rfl <| Ac (Z9h rfl rfl (vt rfl) (vk rfl)) rfl <| As rfl <| Nl ?_
        subst hgo2
        exact ⟨(m18, l22, (IntKind.i64.wrap (blockSize17 * 2))), Nat.lt_succ_self _, ⟨trivial, h⟩, FX rfl⟩
    ·have h := Zg hc h
     refine AW.exit ?_
     obtain rfl := si h
     exact Z27 (i := 0) Tryz.results274 rfl rfl
def Zio (x1 : (List Action)) (cmp3 : (Action → Action → Option Int)) : Option (List Action) :=
 (Zly x1 (x1.length : Int) cmp3).bind fun l4 => some l4
theorem Y1v (v2 : Value) (x1 : (List Action)) (cmp3 : (Action → Action → Option Int)) (r : (List Action)) (h : Zio x1 cmp3 = some r) : Con Tryz.prog 219 [Ze v2, fn2 Tryz.prog Z6 Z6 (Z0 .i64) cmp3] (Zb v2 121 Z6 x1) (fun _ : Unit => top) (fun _ => Zb v2 121 Z6 r) := by
 refine Con.intro Tryz.func219 rfl Tryz.ntmps219 rfl fun w H X => ?_
 unfold Zio at h
 obtain ⟨l4, hl4, h⟩ := Z1 h
 refine Rg <| Mw rfl <| Mw rfl <| Ac (Z5q 0 rfl rfl Z0e (vt rfl) rfl) rfl <| Ac (Zt (A := fn2 Tryz.prog Z6 Z6 (Z0 .i64) cmp3) rfl rfl (vt rfl)) rfl <| Ct rfl (Z1f 0 (xs := [.tmp 4, .tmp 6, .tmp 7]) (Yh5 _ _ _ _ _ hl4) Y3j rfl rfl ⟨vt rfl, vt rfl, vt rfl, trivial⟩ rfl) ?_
 rintro _ ⟨_u, rfl⟩
 refine Nl ?_
 obtain rfl := si h
 exact Z27 (i := 0) Tryz.results219 rfl rfl
def Zfn (a1 : Action) (b2 : Action) : Option Int :=
 (Zai a1).bind fun x5 => (Zai b2).bind fun x6 => (Zbo x5.kind).bind fun x9 => (Zbo x6.kind).bind fun x10 => (bif (decide ((IntKind.i64.wrap (x9 - x10)) ≠ 0)) then some (IntKind.i64.wrap (x9 - x10)) else (bif (decide (x5.field < x6.field)) then some (-1) else (bif (decide (x5.field > x6.field)) then some 1 else some 0)))
theorem Yg1 (a1 : Action) (b2 : Action) (r : Int) (h : Zfn a1 b2 = some r) : PCon Tryz.prog 220 [rd Z6 a1, rd Z6 b2] (rd (Z0 .i64) r) := by
 refine PCon.of (Con.intro0 Tryz.func220 rfl Tryz.ntmps220 rfl fun w H => ?_)
 unfold Zfn at h
 refine SR <| Ct rfl (Zn 3 rfl rfl (vt rfl)) ?_
 rintro _ ⟨g3, rfl⟩
 refine Ct rfl (Zn 4 rfl rfl (vt rfl)) ?_
 rintro _ ⟨g4, rfl⟩
 refine Ak rfl <| Nl <| AW.seq ?_
 obtain ⟨x5, hx5, h⟩ := Z1 h
 obtain ⟨x6, hx6, h⟩ := Z1 h
 refine AW.regionAny [⟨[2], [8], [3], []⟩, ⟨[8], [9], [], []⟩, ⟨[3], [10], [4], []⟩, ⟨[10], [11], [], []⟩, ⟨[], [5], [], []⟩, ⟨[], [6], [], []⟩, ⟨[5, 9], [5], [], []⟩, ⟨[6, 11], [6], [], []⟩] Z05 (by kernel_rfl) <| Zo Z0n 3 rfl <| SCl [8] (Zlq _ _ hx5) Zn5 rfl <| Zo Z0n 4 rfl <| SCl [10] (Zlq _ _ hx6) Zn5 rfl <| Sc (Z16 (us := [(5, Z2e 275 Z60 Zn9)]) (ur := []) [] [] rfl fun S hs hr => Z5w rfl rfl rfl Zka) rfl <| Sc (Z16 (us := [(6, Z2e 275 Z60 Zn9)]) (ur := []) [] [] rfl fun S hs hr => Z5w rfl rfl rfl Zka) rfl <| Sc (Z16 (us := [(5, Z2e 275 Z60 x5)]) (ur := []) [5, 9] [] rfl fun S hs hr => Z5r rfl rfl Ze6 ((hs 5 rfl).trans rfl) (vh hs 9 rfl rfl)) rfl <| Sc (Z16 (us := [(6, Z2e 275 Z60 x6)]) (ur := []) [6, 11] [] rfl fun S hs hr => Z5r rfl rfl Ze6 ((hs 6 rfl).trans rfl) (vh hs 11 rfl rfl)) rfl <| AW.unpackP 5 6 rfl rfl fun g7 => AW.unpackP 6 7 rfl rfl fun g8 => AW.seq <| AW.seq ?_
 obtain ⟨x9, hx9, h⟩ := Z1 h
 obtain ⟨x10, hx10, h⟩ := Z1 h
 refine AW.regionAny [⟨[5], [12], [], []⟩, ⟨[12], [13], [6], []⟩, ⟨[13], [14], [], []⟩, ⟨[6], [15], [], []⟩, ⟨[15], [16], [7], []⟩, ⟨[16], [17], [], []⟩, ⟨[14, 17], [18], [], []⟩, ⟨[18], [7], [], []⟩] Z05 (by kernel_rfl) <| SFd Zh7 Zzb rfl <| Zo ty3 6 rfl <| SCl [13] (Zq2 _ _ hx9) Zpx rfl <| SFd Zh7 Zzb rfl <| Zo ty3 7 rfl <| SCl [16] (Zq2 _ _ hx10) Zpx rfl <| Sc (lo [14, 17] [] rfl fun S hs hr => Z0j rfl rfl (vh hs 14 rfl rfl) (vh hs 17 rfl rfl)) rfl <| SAs rfl <| SR <| Md rfl <| Ac (Z8m rfl rfl (vt rfl) (vk rfl)) rfl <| Nl <| Cn rfl (fun hc => ?_) (fun hc => ?_)
 ·have h := Zf hc h
  refine SR <| Md rfl <| As rfl <| Nl <| AW.ret ?_
  obtain rfl := si h
  exact Zi Tryz.results220 rfl (Z8 rfl)
 ·have h := Zg hc h
  refine AW.skip <| AW.seq <| AW.block <| SR <| Zl Zg9 Zn3 rfl <| Ld ty3 6 rfl <| Zl Zg9 Zn3 rfl <| Ld ty3 7 rfl <| Ac (Zp rfl rfl (vt rfl) (vt rfl)) rfl <| As rfl <| Nl <| Cn rfl (fun hc => ?_) (fun hc => ?_)
  ·have h := Zf hc h
   refine SR <| Ak rfl <| Nl <| AW.ret ?_
   obtain rfl := si h
   exact Zi Tryz.results220 rfl (Z8 rfl)
  ·have h := Zg hc h
   refine SR <| Zl Zg9 Zn3 rfl <| Ld ty3 6 rfl <| Zl Zg9 Zn3 rfl <| Ld ty3 7 rfl <| Ac (Z3l rfl rfl (vt rfl) (vt rfl)) rfl <| As rfl <| Nl <| Cn rfl (fun hc => ?_) (fun hc => ?_)
   ·have h := Zf hc h
    refine SR <| Ak rfl <| Nl <| AW.ret ?_
    obtain rfl := si h
    exact Zi Tryz.results220 rfl (Z8 rfl)
   ·have h := Zg hc h
    refine AW.skip <| SR <| Ak rfl <| Nl <| AW.ret ?_
    obtain rfl := si h
    exact Zi Tryz.results220 rfl (Z8 rfl)
def Zcz (set1 : (List Action)) : Option (List Action) :=
 (Zhx set1 Zmh).bind fun x2 => (Z6l set1).bind fun x4 => (Zk6 x4 (fun x => Zdc x x2)).bind fun x6 => (Zio x6 Zfn).bind fun l8 => some l8
theorem Zsg (set1 : (List Action)) (r : (List Action)) (h : Zcz set1 = some r) : PCon Tryz.prog 149 [rd (Z4 Z6) set1] (rd (Z4 Z6) r) := by
 refine PCon.of (Con.intro0 Tryz.func149 rfl Tryz.ntmps149 rfl fun w H => ?_)
 unfold Zcz at h
 refine SR <| Ac (Z02 (A := rd (Z4 Z6) []) rfl rfl Z1u) rfl <| Nl <| AW.seq ?_
 obtain ⟨x2, hx2, h⟩ := Z1 h
 refine Rg <| Md rfl <| Ac (Z11 (xs := [.tmp 5, .func 214]) (Y8j _ _ _ hx2) Y64 rfl rfl ⟨vt rfl, vf1 Yhe Y1p, trivial⟩) rfl <| Ct rfl (Zq 4 rfl rfl zr4) ?_
 rintro _ ⟨g3, rfl⟩
 refine Zj ty4 4 rfl <| Nl <| AW.seq <| AW.freezeB 3 4 rfl rfl rfl ?_
 obtain ⟨x4, hx4, h⟩ := Z1 h
 obtain ⟨x6, hx6, h⟩ := Z1 h
 refine Rg <| Md rfl <| Ct rfl (Z1f 1001 (xs := [.tmp 7]) (Zny _ _ hx4) Zme rfl rfl ⟨vt rfl, trivial⟩ rfl) ?_
 rintro _ ⟨v5, rfl⟩
 refine Ac (Z79 (cs := [.tmp 3]) (CAs := [rp Zc x2]) (fun x => Zdc x x2) rfl rfl Yds ⟨vt rfl, trivial⟩ (fun x y h => Yev _ _ y h)) rfl <| Ct rfl (Z1f 1001 (xs := [.tmp 8, .tmp 9]) (Yhb _ _ _ _ hx6) Y2v rfl rfl ⟨vt rfl, vt rfl, trivial⟩ rfl) ?_
 rintro _ ⟨v7, rfl⟩
 refine Aw rfl <| Nl <| AW.seq ?_
 obtain ⟨l8, hl8, h⟩ := Z1 h
 refine Rg <| Mw rfl <| Ct rfl (Z1f 1001 (xs := [.tmp 11, .func 220]) (Y1v _ _ _ _ hl8) Yam rfl rfl ⟨vt rfl, vf2 Y6u Yg1, trivial⟩ rfl) ?_
 rintro _ ⟨_u, rfl⟩
 refine Nl <| SR <| Mw rfl <| Aw rfl <| Nl <| AW.freezes [2, 4, 10, 11, 13] 1001 rfl ⟨rfl, rfl, rfl, rfl, rfl, trivial⟩ rfl <| AW.ret ?_
 obtain rfl := si h
 exact Zi Tryz.results149 rfl (Z8 rfl)
end Go.Proofs.YtknpgojdkobgjaaGreat.W
set_option maxRecDepth 4000
namespace Go.Proofs.YtknpgojdkobgjaaGreat.W
open Go Go.Wb
theorem Zgx : Ent Tryz.prog 204 := Ent.mk Tryz.func204 rfl rfl
theorem Zzx : Ent Tryz.prog 149 := Ent.mk Tryz.func149 rfl rfl
theorem Y10 : Ent Tryz.prog 205 := Ent.mk Tryz.func205 rfl rfl
theorem Y1k : Ent Tryz.prog 206 := Ent.mk Tryz.func206 rfl rfl
theorem Zsh : Ent Tryz.prog 208 := Ent.mk Tryz.func208 rfl rfl
theorem Ycd : Ent Tryz.prog 135 := Ent.mk Tryz.func135 rfl rfl
theorem Zsk : Ent Tryz.prog 138 := Ent.mk Tryz.func138 rfl rfl
theorem Y1n : Ent Tryz.prog 136 := Ent.mk Tryz.func136 rfl rfl
theorem Yfj : Ent Tryz.prog 137 := Ent.mk Tryz.func137 rfl rfl
theorem e76 : Ent Tryz.prog 76 := Ent.mk Tryz.func76 rfl rfl
theorem e75 : Ent Tryz.prog 75 := Ent.mk Tryz.func75 rfl rfl
theorem Y56 : Ent Tryz.prog 146 := Ent.mk Tryz.func146 rfl rfl
theorem e22 : Ent Tryz.prog 22 := Ent.mk Tryz.func22 rfl rfl
theorem e85 : Ent Tryz.prog 85 := Ent.mk Tryz.func85 rfl rfl
def Zdu (l3 : (List Inst)) (at2 : Int) (b9 : walk_way) : Option (walk_way × Int × Bool) :=
 (Z8q l3 1).bind fun x10 => (bif ((x10.2 && (decide (x10.1.Table > at2))) && (decide (x10.1.Table < 4))) then some (b9, x10.1.Table, true) else (Zcz b9.set).bind fun x12 => (Zcu b9 x12).bind fun x13 => some (x13, 0, false))
def Zf4 (l3 : (List Inst)) (at2 : Int) (b8 : walk_way) : Option (walk_way × Int × Bool) :=
 (Z8q l3 2).bind fun x14 => (bif x14.2 then (Z7z b8.got 1 x14.1.Value x14.1.Mask).bind fun x16 => Zdu l3 at2 { b8 with got := x16 } else Zdu l3 at2 b8)
def Zdl (l3 : (List Inst)) (at2 : Int) (b7 : walk_way) : Option (walk_way × Int × Bool) :=
 (Z8q l3 3).bind fun x17 => (bif x17.2 then (Zg0 b7.set x17.1.Acts).bind fun x19 => Zf4 l3 at2 { b7 with set := x19 } else Zf4 l3 at2 b7)
def Zf8 (l3 : (List Inst)) (at2 : Int) (b6 : walk_way) : Option (walk_way × Int × Bool) :=
 (Z8q l3 5).bind fun x20 => (bif x20.2 then Zdl l3 at2 { b6 with set := [] } else Zdl l3 at2 b6)
def Zj5 (w1 : walk_way) (at2 : Int) (l3 : (List Inst)) : Option (walk_way × Int × Bool) :=
 (Z8q l3 4).bind fun x22 => (bif x22.2 then (Zcu w1 x22.1.Acts).bind fun x24 => Zf8 l3 at2 x24 else Zf8 l3 at2 w1)
theorem Yg7 (w1 : walk_way) (at2 : Int) (l3 : (List Inst)) (r : (walk_way × Int × Bool)) (h : Zj5 w1 at2 l3 = some r) : PCon Tryz.prog 137 [rd Z0k w1, rd (Z0 .i64) at2, rd (Z4 Z10) l3] (Z39 (rd Z0k r.1) (rd (Z0 .i64) r.2.1) (rd Zc r.2.2)) := by
 refine PCon.of (Con.intro0 Tryz.func137 rfl Tryz.ntmps137 rfl fun w H => ?_)
 unfold Zj5 at h
 refine SR <| Ct rfl (Zn 4 rfl rfl (vt rfl)) ?_
 rintro _ ⟨g4, rfl⟩
 refine Ct rfl (Zq 7 rfl rfl Zg7) ?_
 rintro _ ⟨g5, rfl⟩
 refine Ak rfl <| Ab rfl <| Nl ?_
 refine AW.join (d := []) (ν := walk_way) (fun n => Zf8 l3 at2 n = some r) (fun n => [(1, rd (Z0 .i64) at2), (2, rd (Z4 Z10) l3), (3, Z7 g4 (Lens.id Z0k)), (6, Z7 g5 (Lens.id Z0k))]) (fun n => [(4, Z9 g4 135 Z0k n), (7, Z9 g5 135 Z0k Z7b)]) ?hx1 ?hy1
 case hy1 =>
  intro b6 h
  unfold Zf8 at h
  change AW _ _ _ ⟨Zw [(1, rd (Z0 .i64) at2), (2, rd (Z4 Z10) l3), (3, Z7 g4 (Lens.id Z0k)), (6, Z7 g5 (Lens.id Z0k))], Zx [(4, Z9 g4 135 Z0k b6), (7, Z9 g5 135 Z0k Z7b)], _⟩
  refine AW.join (d := []) (ν := walk_way) (fun n => Zdl l3 at2 n = some r) (fun n => [(1, rd (Z0 .i64) at2), (2, rd (Z4 Z10) l3), (3, Z7 g4 (Lens.id Z0k)), (6, Z7 g5 (Lens.id Z0k))]) (fun n => [(4, Z9 g4 135 Z0k n), (7, Z9 g5 135 Z0k Z7b)]) ?hx2 ?hy2
  case hy2 =>
   intro b7 h
   unfold Zdl at h
   change AW _ _ _ ⟨Zw [(1, rd (Z0 .i64) at2), (2, rd (Z4 Z10) l3), (3, Z7 g4 (Lens.id Z0k)), (6, Z7 g5 (Lens.id Z0k))], Zx [(4, Z9 g4 135 Z0k b7), (7, Z9 g5 135 Z0k Z7b)], _⟩
   refine AW.join (d := []) (ν := walk_way) (fun n => Zf4 l3 at2 n = some r) (fun n => [(1, rd (Z0 .i64) at2), (2, rd (Z4 Z10) l3), (3, Z7 g4 (Lens.id Z0k)), (6, Z7 g5 (Lens.id Z0k))]) (fun n => [(4, Z9 g4 135 Z0k n), (7, Z9 g5 135 Z0k Z7b)]) ?hx3 ?hy3
   case hy3 =>
    intro b8 h
    unfold Zf4 at h
    change AW _ _ _ ⟨Zw [(1, rd (Z0 .i64) at2), (2, rd (Z4 Z10) l3), (3, Z7 g4 (Lens.id Z0k)), (6, Z7 g5 (Lens.id Z0k))], Zx [(4, Z9 g4 135 Z0k b8), (7, Z9 g5 135 Z0k Z7b)], _⟩
    refine AW.join (d := []) (ν := walk_way) (fun n => Zdu l3 at2 n = some r) (fun n => [(1, rd (Z0 .i64) at2), (2, rd (Z4 Z10) l3), (3, Z7 g4 (Lens.id Z0k)), (6, Z7 g5 (Lens.id Z0k))]) (fun n => [(4, Z9 g4 135 Z0k n), (7, Z9 g5 135 Z0k Z7b)]) ?hx4 ?hy4
    case hy4 =>
     intro b9 h
     unfold Zdu at h
     change AW _ _ _ ⟨Zw [(1, rd (Z0 .i64) at2), (2, rd (Z4 Z10) l3), (3, Z7 g4 (Lens.id Z0k)), (6, Z7 g5 (Lens.id Z0k))], Zx [(4, Z9 g4 135 Z0k b9), (7, Z9 g5 135 Z0k Z7b)], _⟩
     refine AW.seq ?_
     obtain ⟨x10, hx10, h⟩ := Z1 h
     refine Rg <| Md rfl <| Ac (Z11 (xs := [.tmp 63, .const (Value.int IntKind.i64 1)]) (Zi1 _ _ _ hx10) Zgx rfl rfl ⟨vt rfl, vk rfl, trivial⟩) rfl <| Mt2 rfl <| Ac (Z1s rfl rfl (vt rfl)) rfl <| Ac (Z1t rfl rfl (vt rfl)) rfl <| Ct rfl (Zq 18 rfl rfl Z4r) ?_
     rintro _ ⟨g11, rfl⟩
     refine Zj Z34 18 rfl <| As rfl <| Nl <| AW.seq <| SR <| Md rfl <| Md rfl <| Gd rfl (fun hq => Z40 Zbz rfl rfl Ze4 (vt rfl)) <| Gd rfl (fun hq => Z37 rfl rfl ty3 (Zs rfl hq) (i := 18) rfl) <| Gd rfl (fun hq => Zt (A := rd (Z0 .i64) at2) rfl rfl (vt rfl)) <| Gd rfl (fun hq => Z3l rfl rfl (Zs rfl hq) (Zs rfl hq)) <| Ac (Z1w rfl rfl (vt rfl) (vt rfl)) rfl <| Md rfl <| Gd rfl (fun hq => Z40 Zbz rfl rfl Ze4 (vt rfl)) <| Gd rfl (fun hq => Z37 rfl rfl ty3 (Zs rfl hq) (i := 18) rfl) <| Gd rfl (fun hq => Zp rfl rfl (Zs rfl hq) (vk rfl)) <| Ac (Z1w rfl rfl (vt rfl) (vt rfl)) rfl <| Nl <| Cn rfl (fun hc => ?_) (fun hc => ?_)
     ·have h := Zf hc h
      refine AW.seq <| AW.regionAny [⟨[3], [79], [4], []⟩, ⟨[17], [80], [], []⟩, ⟨[80], [81], [18], []⟩, ⟨[6, 79], [], [7], [7]⟩, ⟨[81], [7], [], []⟩, ⟨[], [8], [], []⟩] Z05 (by kernel_rfl) <| Zo Z33 4 rfl <| SFd Zbz Ze4 rfl <| Zo ty3 18 rfl <| SSt Z33 7 rfl <| SAs rfl <| Sc (lo [] [] rfl fun S hs hr => Z02 (A := rd Zc true) rfl rfl vb) rfl <| AW.ret ?_
      obtain rfl := si h
      exact Zch Tryz.results137 rfl (Z01 rfl (i := 7) rfl Z33) (Z8 rfl) (Z8 rfl)
     ·have h := Zg hc h
      refine AW.skip <| AW.seq ?_
      obtain ⟨x12, hx12, h⟩ := Z1 h
      obtain ⟨x13, hx13, h⟩ := Z1 h
      refine AW.regionAny [⟨[3], [82], [4], []⟩, ⟨[3], [83], [], []⟩, ⟨[83], [84], [4], []⟩, ⟨[84], [85], [], []⟩, ⟨[82, 85], [86], [], []⟩, ⟨[6, 86], [], [7], [7]⟩, ⟨[], [7], [], []⟩, ⟨[], [8], [], []⟩] Z05 (by kernel_rfl) <| Zo Z33 4 rfl <| SFd Zj9 Zlg rfl <| Zo Z4j 4 rfl <| SCl [84] (Zsg _ _ hx12) Zzx rfl <| SCl [82, 85] (Zvt _ _ _ hx13) Y10 rfl <| SSt Z33 7 rfl <| Sc (lo [] [] rfl fun S hs hr => Z02 (A := rd (Z0 .i64) 0) rfl rfl (vk rfl)) rfl <| Sc (lo [] [] rfl fun S hs hr => Z02 (A := rd Zc false) rfl rfl vb) rfl <| AW.ret ?_
      obtain rfl := si h
      exact Zch Tryz.results137 rfl (Z01 rfl (i := 7) rfl Z33) (Z8 rfl) (Z8 rfl)
    case hx4 =>
     refine AW.seq ?_
     obtain ⟨x14, hx14, h⟩ := Z1 h
     refine Rg <| Md rfl <| Ac (Z11 (xs := [.tmp 49, .const (Value.int IntKind.i64 2)]) (Zi1 _ _ _ hx14) Zgx rfl rfl ⟨vt rfl, vk rfl, trivial⟩) rfl <| Mt2 rfl <| Ac (Z1s rfl rfl (vt rfl)) rfl <| Ac (Z1t rfl rfl (vt rfl)) rfl <| Ct rfl (Zq 16 rfl rfl Z4r) ?_
     rintro _ ⟨g15, rfl⟩
     refine Zj Z34 16 rfl <| As rfl <| Nl <| SR <| Md rfl <| Nl <| Cn rfl (fun hc => ?_) (fun hc => ?_)
     ·have h := Zf hc h
      obtain ⟨x16, hx16, h⟩ := Z1 h
      refine Rg <| Zl Zbl Zjz rfl <| Ld Z04 4 rfl <| Zl Zot Y15 rfl <| Ld Zv 16 rfl <| Zl Zqa Zzd rfl <| Ld Zv 16 rfl <| Ac (Z11 (xs := [.tmp 55, .const (Value.int IntKind.i64 1), .tmp 57, .tmp 59]) (Zgi _ _ _ _ _ hx16) Zjb rfl rfl ⟨vt rfl, vk rfl, vt rfl, vt rfl, trivial⟩) rfl <| Zl Zbl Zjz rfl <| Zj Z04 4 rfl <| Nl ?_
      exact ⟨{ b8 with got := x16 }, h, FX rfl⟩
     ·have h := Zg hc h
      refine AW.skip ?_
      exact ⟨b8, h, FX rfl⟩
   case hx3 =>
    refine AW.seq ?_
    obtain ⟨x17, hx17, h⟩ := Z1 h
    refine Rg <| Md rfl <| Ac (Z11 (xs := [.tmp 37, .const (Value.int IntKind.i64 3)]) (Zi1 _ _ _ hx17) Zgx rfl rfl ⟨vt rfl, vk rfl, trivial⟩) rfl <| Mt2 rfl <| Ac (Z1s rfl rfl (vt rfl)) rfl <| Ac (Z1t rfl rfl (vt rfl)) rfl <| Ct rfl (Zq 14 rfl rfl Z4r) ?_
    rintro _ ⟨g18, rfl⟩
    refine Zj Z34 14 rfl <| As rfl <| Nl <| SR <| Md rfl <| Nl <| Cn rfl (fun hc => ?_) (fun hc => ?_)
    ·have h := Zf hc h
     obtain ⟨x19, hx19, h⟩ := Z1 h
     refine Rg <| Zl Zj9 Zlg rfl <| Ld Z4j 4 rfl <| Zl Zak Zcs rfl <| Ld Z4j 14 rfl <| Cl [43, 45] (Ztv _ _ _ hx19) Y1k rfl <| Zl Zj9 Zlg rfl <| Zj Z4j 4 rfl <| Nl ?_
     exact ⟨{ b7 with set := x19 }, h, FX rfl⟩
    ·have h := Zg hc h
     refine AW.skip ?_
     exact ⟨b7, h, FX rfl⟩
  case hx2 =>
   refine AW.seq ?_
   obtain ⟨x20, hx20, h⟩ := Z1 h
   refine Rg <| Md rfl <| Ac (Z11 (xs := [.tmp 30, .const (Value.int IntKind.i64 5)]) (Zi1 _ _ _ hx20) Zgx rfl rfl ⟨vt rfl, vk rfl, trivial⟩) rfl <| Mt2 rfl <| Ac (Z1s rfl rfl (vt rfl)) rfl <| Ac (Z1t rfl rfl (vt rfl)) rfl <| Ct rfl (Zq 12 rfl rfl Z4r) ?_
   rintro _ ⟨g21, rfl⟩
   refine Zj Z34 12 rfl <| As rfl <| Nl <| SR <| Md rfl <| Nl <| Cn rfl (fun hc => ?_) (fun hc => ?_)
   ·have h := Zf hc h
    refine Rg <| Zl Zj9 Zlg rfl <| Ac (Zan rfl rfl Z4j (vt rfl) (i := 4) rfl Z1u) rfl <| Nl ?_
    exact ⟨{ b6 with set := [] }, h, FX rfl⟩
   ·have h := Zg hc h
    refine AW.skip ?_
    exact ⟨b6, h, FX rfl⟩
 case hx1 =>
  refine AW.seq ?_
  obtain ⟨x22, hx22, h⟩ := Z1 h
  refine Rg <| Md rfl <| Ac (Z11 (xs := [.tmp 20, .const (Value.int IntKind.i64 4)]) (Zi1 _ _ _ hx22) Zgx rfl rfl ⟨vt rfl, vk rfl, trivial⟩) rfl <| Mt2 rfl <| Ac (Z1s rfl rfl (vt rfl)) rfl <| Ac (Z1t rfl rfl (vt rfl)) rfl <| Ct rfl (Zq 10 rfl rfl Z4r) ?_
  rintro _ ⟨g23, rfl⟩
  refine Zj Z34 10 rfl <| As rfl <| Nl <| SR <| Md rfl <| Nl <| Cn rfl (fun hc => ?_) (fun hc => ?_)
  ·have h := Zf hc h
   obtain ⟨x24, hx24, h⟩ := Z1 h
   refine Rg <| Ld Z33 4 rfl <| Zl Zak Zcs rfl <| Ld Z4j 10 rfl <| Cl [25, 27] (Zvt _ _ _ hx24) Y10 rfl <| Zj Z33 4 rfl <| Nl ?_
   exact ⟨x24, h, FX rfl⟩
  ·have h := Zg hc h
   refine AW.skip ?_
   exact ⟨w1, h, FX rfl⟩
def Zbt (s : List Atom) : Option (List Atom) := Z0u [] s
theorem Ygv (s : List Atom) (r : List Atom) (h : Zbt s = some r) : Con Tryz.prog 208 [rd (Z4 Z06) s] emp (fun v => Ze v) (fun v => Zb v 126 Z06 r) := by
 refine Con.intro0 Tryz.func208 rfl Tryz.ntmps208 rfl fun w H => ?_
 unfold Zbt at h
 refine AW.newnil 1001 126 Z06 <| SR <| Ac (Z02 (A := Ze (.slice none 0 0)) rfl rfl vc) rfl <| Nl <| AW.seq <| SR <| Md rfl <| Ct rfl (Zj1 rfl rfl Z54 (vt rfl)) ?_
 rintro _ ⟨b, hb, rfl⟩
 refine Nl <| Cn rfl (fun hc => ?_) (fun hc => ?_)
 ·obtain rfl := hb hc
  refine SR <| Ac (Z02 (A := Ze (.slice none 0 0)) rfl rfl vc) rfl <| Nl <| AW.ret ?_
  obtain rfl := (Za2 h).2
  exact Z4n (i := 1001) Tryz.results208 rfl rfl rfl
 ·refine AW.skip <| SR <| Ct rfl (Z4q 1002 (ps := []) (l := []) rfl rfl Z54 Z4o rfl rfl rfl rfl) ?_
  rintro _ ⟨v1, rfl⟩
  refine Md rfl <| Ct rfl (Z2m 1002 h rfl rfl Z8s (vt rfl) rfl (vt rfl)) ?_
  rintro _ ⟨v2, rfl⟩
  refine Aw rfl <| Nl <| AW.ret ?_
  exact Z4n (i := 1002) Tryz.results208 rfl rfl rfl
theorem Zsx (s : List Atom) (r : List Atom) (h : Zbt s = some r) : PCon Tryz.prog 208 [rd (Z4 Z06) s] (rd (Z4 Z06) r) := PCon.of_row (Ygv s r h)
def Zdp (w1 : walk_way) : Option Rule :=
 (Zbt w1.atoms).bind fun x4 => some (⟨w1.cube, x4⟩ : Rule)
theorem Zxn (w1 : walk_way) (r : Rule) (h : Zdp w1 = some r) : PCon Tryz.prog 138 [rd Z0k w1] (rd Zy r) := by
 refine PCon.of (Con.intro0 Tryz.func138 rfl Tryz.ntmps138 rfl fun w H => ?_)
 unfold Zdp at h
 refine SR <| Ct rfl (Zn 2 rfl rfl (vt rfl)) ?_
 rintro _ ⟨g2, rfl⟩
 refine Ct rfl (Zq 3 rfl rfl Z48) ?_
 rintro _ ⟨g3, rfl⟩
 refine Nl <| AW.seq ?_
 obtain ⟨x4, hx4, h⟩ := Z1 h
 refine AW.regionAny [⟨[1], [3], [], []⟩, ⟨[3], [4], [2], []⟩, ⟨[1], [5], [], []⟩, ⟨[5], [6], [2], []⟩, ⟨[6], [7], [], []⟩, ⟨[4, 7], [8], [], []⟩, ⟨[2, 8], [], [3], [3]⟩] Z05 (by kernel_rfl) <| SFd Zh9 Zqu rfl <| Zo Z03 2 rfl <| SFd Zdj Zij rfl <| Zo Zb5 2 rfl <| SCl [6] (Zsx _ _ hx4) Zsh rfl <| Sc (lo [4, 7] [] rfl fun S hs hr => Z00 (ps := [(0, .tmp 4), (1, .tmp 7)]) (x := (⟨w1.cube, x4⟩ : Rule)) rfl rfl rfl (by kernel_rfl) Z48 ⟨_, _, Z6b, _, by kernel_rfl, (vh hs 4 rfl rfl), _, _, Zad, _, by kernel_rfl, (vh hs 7 rfl rfl), rfl⟩) rfl <| SSt Z7h 3 rfl <| AW.ret ?_
 obtain rfl := si h
 exact Zi Tryz.results138 rfl (Z01 rfl (i := 3) rfl Z7h)
def Zgl (sg : Type) (go1 : Nat → (Lp sg) → Option (Bool × Lp sg)) (i11 : Nat) (s22 : (Lp sg)) (ok23 : Bool) : Option (Bool × Lp sg) :=
 (bif (!ok23) then some (false, s22) else go1 (i11 + 1) s22)
def Z5d (sg : Type) (w5 : walk_way) (y1 : (sg → Rule → Option (Lp sg))) (at4 : Int) (s3 : Switch) (R_walk_search_table : ((Lp sg) → Switch → Int → walk_way → Option (Bool × Lp sg))) : (List Int) → Nat → (Lp sg) → Option (Bool × Lp sg)
 | [], i11, s10 => (Zdp w5).bind fun x13 => (yc y1 s10 x13).bind fun s14 => some ((Lp.isGo s14), s14)
 | x15 :: l12, i11, s10 => (chk 4 at4).bind fun j16 => (lget (Vector.get s3.Tables j16) x15).bind fun e17 => (Zjh w5 e17).bind fun x19 => (bif (!x19.2) then (Z5d sg w5 y1 at4 s3 R_walk_search_table l12) (i11 + 1) s10 else (Zj5 x19.1 at4 e17.Insts).bind fun x21 => (bif x21.2.2 then (R_walk_search_table s10 s3 x21.2.1 x21.1).bind fun b24 => Zgl sg (Z5d sg w5 y1 at4 s3 R_walk_search_table l12) i11 b24.2 b24.1 else (Zdp x21.1).bind fun x25 => (yc y1 s10 x25).bind fun s26 => Zgl sg (Z5d sg w5 y1 at4 s3 R_walk_search_table l12) i11 s26 (Lp.isGo s26)))
def Zhu (sg : Type) (y1 : (sg → Rule → Option (Lp sg))) (R_walk_search_table : ((Lp sg) → Switch → Int → walk_way → Option (Bool × Lp sg))) (s2 : (Lp sg)) (s3 : Switch) (at4 : Int) (w5 : walk_way) : Option (Bool × Lp sg) :=
 (chk 4 at4).bind fun j7 => (Zin (Vector.get s3.Tables j7)).bind fun x8 => Z5d sg w5 y1 at4 s3 R_walk_search_table x8 0 s2
theorem Y1y (sg : Type) (y1 : (sg → Rule → Option (Lp sg))) (L : Lp sg → Res) (R_walk_search_table : ((Lp sg) → Switch → Int → walk_way → Option (Bool × Lp sg))) (hR_walk_search_table : ∀ (s2 : (Lp sg)) (s3 : Switch) (at4 : Int) (w5 : walk_way) (r : (Bool × Lp sg)), R_walk_search_table s2 s3 at4 w5 = some r → Con Tryz.prog 76 [rp (ksp Z0h (ydA Tryz.prog Zy y1 L)) s3, rd (Z0 .i64) at4, rd Z0k w5] (L s2) (fun _ : Unit => rd Zc r.1) (fun _ => L r.2)) (s2 : (Lp sg)) (s3 : Switch) (at4 : Int) (w5 : walk_way) (r : (Bool × Lp sg)) (h : Zhu sg y1 R_walk_search_table s2 s3 at4 w5 = some r) : Con Tryz.prog 76 [rp (ksp Z0h (ydA Tryz.prog Zy y1 L)) s3, rd (Z0 .i64) at4, rd Z0k w5] (L s2) (fun _ : Unit => rd Zc r.1) (fun _ => L r.2) := by
 refine Con.intro Tryz.func76 rfl Tryz.ntmps76 rfl fun w H X => ?_
 unfold Zhu at h
 refine SR <| Ct rfl (Zn 6 rfl rfl (vt rfl)) ?_
 rintro _ ⟨g6, rfl⟩
 refine Ab rfl <| Nl <| AW.scope <| AW.seq <| AW.label <| AW.seq <| AW.seq ?_
 obtain ⟨j7, hj7, h⟩ := Z1 h
 obtain ⟨x8, hx8, h⟩ := Z1 h
 refine Rg <| Mr rfl <| Md rfl <| Ac (Zm1 rfl rfl (vt rfl)) rfl <| Ac (Z6x (Zp8 Z0h (ydA Tryz.prog Zy y1 L)) rfl rfl (Zuz _) (vt rfl)) rfl <| Fp Zf0 Zj8 rfl <| Ac (Z6i rfl rfl Zib (vt rfl) (vt rfl) hj7) rfl <| Lp1 Z6c rfl <| Cl [20] (Y5c _ _ hx8) Ycd rfl <| Ac (Z0x rfl rfl Z0t (vt rfl)) rfl <| Mk rfl <| Nl <| AW.block <| AW.loopG (d := []) (ν := (List Int) × Nat × (Lp sg)) (fun n => Sfx x8 n.2.1 n.1 ∧ Z5d sg w5 y1 at4 s3 R_walk_search_table n.1 n.2.1 n.2.2 = some r) (fun n => n.1.length) (fun n => [(0, rp (ksp Z0h (ydA Tryz.prog Zy y1 L)) s3), (1, rd (Z0 .i64) at4), (5, Z7 g6 (Lens.id Z0k)), (21, rd (Z4 (Z0 .i64)) x8), (22, rd (Z0 .i64) (x8.length : Int)), (23, rd (Z0 .i64) (n.2.1 : Int))]) (fun n => [(0, L n.2.2), (6, Z9 g6 135 Z0k w5)]) (x8, 0, s2) ⟨Sfx.start _, h⟩ (FX rfl) ?_
 rintro ⟨l12, i11, s10⟩ ⟨hsf1, h⟩
 change Sfx x8 i11 l12 at hsf1
 change Z5d sg w5 y1 at4 s3 R_walk_search_table l12 i11 s10 = some r at h
 change AW _ _ _ ⟨Zw [(0, rp (ksp Z0h (ydA Tryz.prog Zy y1 L)) s3), (1, rd (Z0 .i64) at4), (5, Z7 g6 (Lens.id Z0k)), (21, rd (Z4 (Z0 .i64)) x8), (22, rd (Z0 .i64) (x8.length : Int)), (23, rd (Z0 .i64) (i11 : Int))], Zx [(0, L s10), (6, Z9 g6 135 Z0k w5)], _⟩
 cases l12 with
 | nil =>
  unfold Z5d at h
  refine SR <| Ac (Zp rfl rfl (vt rfl) (vt rfl)) rfl <| Nl <| AW.seq <| Cn rfl (fun hc => absurd (of_decide_eq_true hc) hsf1.nil) (fun hc => ?_)
  refine AW.exit <| AW.seq ?_
  obtain ⟨x13, hx13, h⟩ := Z1 h
  obtain ⟨s14, hs14, h⟩ := Z1 h
  refine AW.regionAny [⟨[0], [69], [], []⟩, ⟨[69], [70], [], []⟩, ⟨[70], [71], [], []⟩, ⟨[71], [72], [], []⟩, ⟨[5], [73], [6], []⟩, ⟨[73], [74], [], []⟩, ⟨[72, 74], [75], [0], [0]⟩, ⟨[75], [6], [], []⟩] Z05 (by kernel_rfl) <| Sc (lo [0] [] rfl fun S hs hr => Zt (A := rp (ksp Z0h (ydA Tryz.prog Zy y1 L)) s3) rfl rfl (vh hs 0 rfl rfl)) rfl <| Sc (lo [69] [] rfl fun S hs hr => Zm1 rfl rfl (vh hs 69 rfl rfl)) rfl <| Sc (lo [70] [] rfl fun S hs hr => Z6x (Zri Z0h (ydA Tryz.prog Zy y1 L)) rfl rfl (Zyh _) (vh hs 70 rfl rfl)) rfl <| Sc (lo [71] [] rfl fun S hs hr => Zta (A := ydA Tryz.prog Zy y1 L) rfl rfl rfl (Y0z _) (vh hs 71 rfl rfl)) rfl <| Zo Z33 6 rfl <| SCl [73] (Zxn _ _ hx13) Zsk rfl <| Sc (Z16 (us := [(75, rd Zc (Lp.isGo s14))]) (ur := [(0, L s14)]) [72, 74] [0] rfl fun S hs hr => Zmq 0 hs14 rfl rfl (vh hs 72 rfl rfl) (vh hs 74 rfl rfl) ((hr 0 rfl).trans rfl)) rfl <| SAs rfl <| AW.ret ?_
  obtain rfl := si h
  exact Zml (i := 0) Tryz.results76 rfl (Z8 rfl) rfl
 | cons x15 l12 =>
  unfold Z5d at h
  generalize hgo1 : Z5d sg w5 y1 at4 s3 R_walk_search_table l12 = go1 at h
  refine SR <| Ac (Zp rfl rfl (vt rfl) (vt rfl)) rfl <| Nl <| AW.seq <| Cn rfl (fun hc => ?_) (fun hc => absurd hsf1.cons (of_decide_eq_false hc))
  have hlti11 := of_decide_eq_true hc
  refine AW.skip <| AW.seq <| AW.block <| SR <| Ac (Z0r rfl rfl Z0t (vt rfl) (vt rfl) hsf1.lget) rfl <| Lp1 ty3 rfl <| As rfl <| Nl <| AW.seq ?_
  obtain ⟨j16, hj16, h⟩ := Z1 h
  obtain ⟨e17, he17, h⟩ := Z1 h
  refine Rg <| Mr rfl <| Md rfl <| Ac (Zm1 rfl rfl (vt rfl)) rfl <| Ac (Z6x (Zp8 Z0h (ydA Tryz.prog Zy y1 L)) rfl rfl (Zuz _) (vt rfl)) rfl <| Fp Zf0 Zj8 rfl <| Ac (Z6i rfl rfl Zib (vt rfl) (vt rfl) hj16) rfl <| Lp1 Z6c rfl <| Md rfl <| Ac (Z0r rfl rfl Z4y (vt rfl) (vt rfl) he17) rfl <| Lp1 Z7s rfl <| Ct rfl (Zq 10 rfl rfl Y0s) ?_
  rintro _ ⟨g18, rfl⟩
  refine Zj Z7s 10 rfl <| Nl <| AW.seq ?_
  obtain ⟨x19, hx19, h⟩ := Z1 h
  refine Rg <| Ld Z33 6 rfl <| Ld Z7s 10 rfl <| Cl [38, 39] (Y2e _ _ _ hx19) Y1n rfl <| Mt2 rfl <| Ac (Z1s rfl rfl (vt rfl)) rfl <| Ac (Z1t rfl rfl (vt rfl)) rfl <| Ct rfl (Zq 11 rfl rfl Zg7) ?_
  rintro _ ⟨g20, rfl⟩
  refine Zj Z33 11 rfl <| As rfl <| Nl <| AW.seq <| SR <| Md rfl <| Ac (Z19 rfl rfl (vt rfl)) rfl <| Nl <| Cn rfl (fun hc => ?_) (fun hc => ?_)
  ·have h := Zf hc h
   refine AW.exit <| Rg <| Ac (Z22 (t := 22) rfl rfl (vt rfl) (vk rfl) (vt rfl) hlti11) rfl <| Md rfl <| Nl ?_
   subst hgo1
   exact ⟨(l12, i11 + 1, s10), Nat.lt_succ_self _, ⟨hsf1.next, h⟩, FX rfl⟩
  ·have h := Zg hc h
   refine AW.skip <| AW.seq ?_
   obtain ⟨x21, hx21, h⟩ := Z1 h
   refine Rg <| Ld Z33 11 rfl <| Md rfl <| Zl Zac Zbn rfl <| Ld Zdb 10 rfl <| Cl [46, 47, 49] (Yg7 _ _ _ _ hx21) Yfj rfl <| Ac (Zt (A := Z39 (rd Z0k x21.1) (rd (Z0 .i64) x21.2.1) (rd Zc x21.2.2)) rfl rfl (vt rfl)) rfl <| Ac (Zbd rfl rfl (vt rfl)) rfl <| Ac (Zb9 rfl rfl (vt rfl)) rfl <| Ac (Zag rfl rfl (vt rfl)) rfl <| Zj Z33 11 rfl <| As rfl <| As rfl <| Nl ?_
   refine AW.join (d := []) (ν := (Lp sg) × Bool) (fun n => Zgl sg go1 i11 n.1 n.2 = some r) (fun n => [(0, rp (ksp Z0h (ydA Tryz.prog Zy y1 L)) s3), (1, rd (Z0 .i64) at4), (5, Z7 g6 (Lens.id Z0k)), (11, rd Zc n.2), (21, rd (Z4 (Z0 .i64)) x8), (22, rd (Z0 .i64) (x8.length : Int)), (23, rd (Z0 .i64) (i11 : Int))]) (fun n => [(0, L n.1), (6, Z9 g6 135 Z0k w5)]) ?hx2 ?hy2
   case hy2 =>
    rintro ⟨s22, ok23⟩ h
    unfold Zgl at h
    change AW _ _ _ ⟨Zw [(0, rp (ksp Z0h (ydA Tryz.prog Zy y1 L)) s3), (1, rd (Z0 .i64) at4), (5, Z7 g6 (Lens.id Z0k)), (11, rd Zc ok23), (21, rd (Z4 (Z0 .i64)) x8), (22, rd (Z0 .i64) (x8.length : Int)), (23, rd (Z0 .i64) (i11 : Int))], Zx [(0, L s22), (6, Z9 g6 135 Z0k w5)], _⟩
    refine SR <| Md rfl <| Ac (Z19 rfl rfl (vt rfl)) rfl <| Nl <| Cn rfl (fun hc => ?_) (fun hc => ?_)
    ·have h := Zf hc h
     refine SR <| Ab rfl <| Nl <| AW.ret ?_
     obtain rfl := si h
     exact Zml (i := 0) Tryz.results76 rfl (Z8 rfl) rfl
    ·have h := Zg hc h
     refine AW.skip <| Rg <| Ac (Z22 (t := 22) rfl rfl (vt rfl) (vk rfl) (vt rfl) hlti11) rfl <| Md rfl <| Nl ?_
     subst hgo1
     exact ⟨(l12, i11 + 1, s22), Nat.lt_succ_self _, ⟨hsf1.next, h⟩, FX rfl⟩
   case hx2 =>
    refine SR <| Md rfl <| Nl <| Cn rfl (fun hc => ?_) (fun hc => ?_)
    ·have h := Zf hc h
     obtain ⟨b24, hb24, h⟩ := Z1 h
     refine Rg <| Mr rfl <| Md rfl <| Ld Z33 11 rfl <| Ct rfl (Z1f 0 (xs := [.tmp 55, .tmp 56, .tmp 57]) (hR_walk_search_table _ _ _ _ _ hb24) e76 rfl rfl ⟨vt rfl, vt rfl, vt rfl, trivial⟩ rfl) ?_
     rintro _ ⟨_u, rfl⟩
     refine As rfl <| Nl ?_
     exact ⟨(b24.2, b24.1), h, FX rfl⟩
    ·have h := Zg hc h
     obtain ⟨x25, hx25, h⟩ := Z1 h
     obtain ⟨s26, hs26, h⟩ := Z1 h
     refine AW.regionAny [⟨[0], [59], [], []⟩, ⟨[59], [60], [], []⟩, ⟨[60], [61], [], []⟩, ⟨[61], [62], [], []⟩, ⟨[10], [63], [11], []⟩, ⟨[63], [64], [], []⟩, ⟨[62, 64], [65], [0], [0]⟩, ⟨[65], [11], [], []⟩] Z05 (by kernel_rfl) <| Sc (lo [0] [] rfl fun S hs hr => Zt (A := rp (ksp Z0h (ydA Tryz.prog Zy y1 L)) s3) rfl rfl (vh hs 0 rfl rfl)) rfl <| Sc (lo [59] [] rfl fun S hs hr => Zm1 rfl rfl (vh hs 59 rfl rfl)) rfl <| Sc (lo [60] [] rfl fun S hs hr => Z6x (Zri Z0h (ydA Tryz.prog Zy y1 L)) rfl rfl (Zyh _) (vh hs 60 rfl rfl)) rfl <| Sc (lo [61] [] rfl fun S hs hr => Zta (A := ydA Tryz.prog Zy y1 L) rfl rfl rfl (Y0z _) (vh hs 61 rfl rfl)) rfl <| Zo Z33 11 rfl <| SCl [63] (Zxn _ _ hx25) Zsk rfl <| Sc (Z16 (us := [(65, rd Zc (Lp.isGo s26))]) (ur := [(0, L s26)]) [62, 64] [0] rfl fun S hs hr => Zmq 0 hs26 rfl rfl (vh hs 62 rfl rfl) (vh hs 64 rfl rfl) ((hr 0 rfl).trans rfl)) rfl <| SAs rfl ?_
     exact ⟨(s26, (Lp.isGo s26)), h, FX rfl⟩
def Zco (sg : Type) (y1 : (sg → Rule → Option (Lp sg))) : Nat → ((Lp sg) → Switch → Int → walk_way → Option (Bool × Lp sg))
 | 0 => (fun _ _ _ _ => none)
 | n + 1 => Zhu sg y1 (Zco sg y1 n)
theorem Zw5 (sg : Type) (y1 : (sg → Rule → Option (Lp sg))) (L : Lp sg → Res) : ∀ n : Nat, (∀ (s2 : (Lp sg)) (s3 : Switch) (at4 : Int) (w5 : walk_way) (r : (Bool × Lp sg)), (Zco sg y1 n) s2 s3 at4 w5 = some r → Con Tryz.prog 76 [rp (ksp Z0h (ydA Tryz.prog Zy y1 L)) s3, rd (Z0 .i64) at4, rd Z0k w5] (L s2) (fun _ : Unit => rd Zc r.1) (fun _ => L r.2))
 | 0 => (by intros; rename_i h; cases h)
 | n + 1 => Y1y sg y1 L (Zco sg y1 n) (Zw5 sg y1 L n)
def Znx (sg : Type) (y1 : (sg → Rule → Option (Lp sg))) (s2 : (Lp sg)) (s3 : Switch) (at4 : Int) (w5 : walk_way) : Option (Bool × Lp sg) := Zco sg y1 Z0y s2 s3 at4 w5
theorem Y6b (sg : Type) (y1 : (sg → Rule → Option (Lp sg))) (L : Lp sg → Res) : ∀ (s2 : (Lp sg)) (s3 : Switch) (at4 : Int) (w5 : walk_way) (r : (Bool × Lp sg)), (Znx sg y1) s2 s3 at4 w5 = some r → Con Tryz.prog 76 [rp (ksp Z0h (ydA Tryz.prog Zy y1 L)) s3, rd (Z0 .i64) at4, rd Z0k w5] (L s2) (fun _ : Unit => rd Zc r.1) (fun _ => L r.2) := Zw5 sg y1 L Z0y
def Zc8 (sg : Type) (yield1 : (sg → Rule → Option (Lp sg))) (s2 : (Lp sg)) (cp3 : Switch) : Option (Lp sg) :=
 (Zg2).bind fun x5 => (Zdf).bind fun x6 => (Znx sg yield1 s2 cp3 0 (⟨x5, x6, [], []⟩ : walk_way)).bind fun b7 => some b7.2
theorem Ycf (sg : Type) (yield1 : (sg → Rule → Option (Lp sg))) (L : Lp sg → Res) (s2 : (Lp sg)) (cp3 : Switch) (r : (Lp sg)) (h : Zc8 sg yield1 s2 cp3 = some r) : Con Tryz.prog 75 [ydA Tryz.prog Zy yield1 L, rp Z0h cp3] (L s2) (fun _ : Unit => top) (fun _ => L r) := by
 refine Con.intro Tryz.func75 rfl Tryz.ntmps75 rfl fun w H X => ?_
 unfold Zc8 at h
 refine SR <| Lp1 Z5z rfl <| Ac (Zt (A := ydA Tryz.prog Zy yield1 L) rfl rfl (vt rfl)) rfl <| Ac (Y2w (x := cp3) rfl rfl (by kernel_rfl) Y5b (by kernel_rfl) (by kernel_rfl) (vt rfl) rfl) rfl <| Ac (Y7m rfl rfl (vt rfl)) rfl <| Ac (Z02 (A := rp (ksp Z0h (ydA Tryz.prog Zy yield1 L)) cp3) rfl rfl (vt rfl)) rfl <| Nl ?_
 obtain ⟨x5, hx5, h⟩ := Z1 h
 obtain ⟨x6, hx6, h⟩ := Z1 h
 obtain ⟨b7, hb7, h⟩ := Z1 h
 refine Rg <| Mr rfl <| Cl [] (Zzo _ hx5) e73 rfl <| Cl [] (Zwt _ hx6) e77 rfl <| Ac (Z00 (ps := [(0, .tmp 9), (1, .tmp 10)]) (x := (⟨x5, x6, [], []⟩ : walk_way)) rfl rfl rfl (by kernel_rfl) Zg7 ⟨_, _, Zh9, _, by kernel_rfl, (vt rfl), _, _, Zbl, _, by kernel_rfl, (vt rfl), rfl⟩) rfl <| Ct rfl (Z1f 0 (xs := [.tmp 8, .const (Value.int IntKind.i64 0), .tmp 11]) (Y6b sg yield1 L _ _ _ _ _ hb7) e76 rfl rfl ⟨vt rfl, vk rfl, vt rfl, trivial⟩ rfl) ?_
 rintro _ ⟨_u, rfl⟩
 refine Nl ?_
 obtain rfl := si h
 exact Z27 (i := 0) Tryz.results75 rfl rfl
def Zm7 (s1 : Switch) : Option (Itr Rule) :=
 some (Itr.mk fun σ y s => Zc8 σ y s s1)
theorem Y81 (s1 : Switch) (r : (Itr Rule)) (h : Zm7 s1 = some r) : PCon Tryz.prog 22 [rd Z0h s1] (Z58 Tryz.prog Zy r) := by
 refine PCon.of (Con.intro0 Tryz.func22 rfl Tryz.ntmps22 rfl fun w H => ?_)
 unfold Zm7 at h
 refine SR <| Ct rfl (Zn 2 rfl rfl (vt rfl)) ?_
 rintro _ ⟨g2, rfl⟩
 refine Ac (Z02 (A := Ze .nilFunc) rfl rfl vc) rfl <| Nl <| AW.seq <| AW.freezeB 1 2 rfl rfl rfl <| Rg <| Ac (Zvj (Itr.mk fun σ y s => Zc8 σ y s s1) (cs := [.tmp 1]) (CAs := [rp Z0h s1]) rfl rfl e75 ⟨vt rfl, trivial⟩ (fun σ y L s r h => Ycf σ y L s s1 r h)) rfl <| Ac (Z02 (A := Z58 Tryz.prog Zy (Itr.mk fun σ y s => Zc8 σ y s s1)) rfl rfl (vt rfl)) rfl <| Nl <| AW.ret ?_
 obtain rfl := si h
 exact Zi Tryz.results22 rfl (Z8 rfl)
def Znf (q : Itr Rule) : Option (List Rule) := Zn2 q
theorem Y8v (q : Itr Rule) (r : List Rule) (h : Znf q = some r) : Con Tryz.prog 146 [Ze (.slice none 0 0), Z58 Tryz.prog Zy q] emp (fun v => Ze v) (fun v => Zb v 90 Zy r) := by
 refine Con.intro0 Tryz.func146 rfl Tryz.ntmps146 rfl fun w H => ?_
 have h := Y43 h
 refine AW.newnil 1001 90 Zy <| SR <| Ct rfl (Zn (k := kraw) 3 rfl rfl (vkr (vt rfl) rfl)) ?_
 rintro _ ⟨g, rfl⟩
 refine Ac (Z02 (A := Ze (.slice none 0 0)) rfl rfl vc) rfl <| AOps.pack 3 1001 (by decide) rfl rfl <| Nl <| AW.seq <| SR <| Ac (Zt (A := Z58 Tryz.prog Zy q) rfl rfl (vt rfl)) rfl <| Nl <| AW.block <| AW.fit (d := []) (L := [(2, Z7 g (Lens.id kraw)), (6, Z58 Tryz.prog Zy q)]) (M := [(3, Z8k g 32 90 Zy [])]) ⟨rfl, ⟨rfl, rfl, trivial⟩, ⟨rfl, trivial⟩⟩ ?_
 refine AW.rangeFunc (fun x => [rd Zy x]) Ziq (fun s => Zx [(3, Z8k g 32 90 Zy s)]) (fun _ _ => Zx []) [(2, Z7 g (Lens.id kraw))]
  (fun s x S1 => ∃ g5, Fit S1 [] [(2, Z7 g (Lens.id kraw)), (5, Z7 g5 (Lens.id Zy))] [(3, Z8k g 32 90 Zy s), (6, Z9 g5 90 Zy x)]) 1003 (s0 := []) (sE := .go r)
  rfl (vt rfl) ⟨rfl, inferInstance, trivial⟩ rfl (fun _ => rfl) (by intro p hp; have hp : p ∈ [7] := hp; rw [List.mem_singleton.1 hp]; show 7 < 13; decide) ?ha ?hb (fun Lf => ⟨top, _, _, Lf, _, _, h, rfl, rfl, rfl, rfl⟩) ?he
 case ha =>
  intro s x r' hF l w H X
  refine Rg <| Ct rfl (Zq 6 rfl rfl Z48) ?_
  rintro _ ⟨g5, rfl⟩
  refine Zj Z7h 6 rfl <| Nl ?_
  exact ⟨rfl, g5, rfl, ⟨rfl, rfl, trivial⟩, ⟨rfl, rfl, trivial⟩⟩
 case hb =>
  rintro s x r' hF S1 ⟨g5, hfit⟩ l w H X
  refine AW.fit hfit <| AW.bodyOf (M := fun s => [(3, Z8k g 32 90 Zy s)]) (Mx := fun _ _ => []) ?_
  obtain ⟨m, hm, hF⟩ := Z1 hF
  cases hF
  refine AW.block <| AW.unbox 3 1001 (by decide) rfl rfl fun v => Rg <| Ac (Ztp (i := 3) rfl rfl Zpl (vt rfl) rfl) rfl <| Ld Z7h 6 rfl <| Ac (Z2g (ps := [(0, .tmp 9)]) (l := [x]) rfl rfl Z2p Z48 rfl rfl ⟨_, _, Lens.idx 1 Zy 0 (by decide), _, rfl, vt rfl, rfl⟩ rfl) rfl <| Ct rfl (Z2m 1001 hm rfl rfl Zhn (vt rfl) rfl (vt rfl)) ?_
  rintro _ ⟨v2, rfl⟩
  refine Ac (Zan rfl rfl Zpl (vt rfl) (i := 3) rfl (Zt7 (i := 1001) rfl rfl)) rfl <| AOps.pack 3 1001 (by decide) rfl rfl <| Nl ?_
  exact ⟨_, rfl, rfl, trivial⟩
 case he =>
  intro D
  refine AW.unbox 3 1001 (by decide) rfl rfl fun v => SR <| Ac (Ztp (i := 3) rfl rfl Zpl (vt rfl) rfl) rfl <| Aw rfl <| Nl <| AW.ret ?_
  exact ⟨rfl, 1003, rfl, Z4n (i := 1001) Tryz.results146 rfl rfl rfl⟩
theorem Yao (q : Itr Rule) (r : List Rule) (h : Znf q = some r) : PCon Tryz.prog 146 [Ze (.slice none 0 0), Z58 Tryz.prog Zy q] (rd (Z4 Zy) r) := PCon.of_row (Y8v q r h)
def Zmp (seq1 : (Itr Rule)) : Option (List Rule) :=
 (Znf seq1).bind fun x2 => some x2
theorem Y3l (seq1 : (Itr Rule)) (r : (List Rule)) (h : Zmp seq1 = some r) : PCon Tryz.prog 85 [Z58 Tryz.prog Zy seq1] (rd (Z4 Zy) r) := by
 refine PCon.of (Con.intro0 Tryz.func85 rfl Tryz.ntmps85 rfl fun w H => ?_)
 unfold Zmp at h
 refine SR <| Ac (Z02 (A := rd (Z4 Zy) []) rfl rfl Z1u) rfl <| Nl <| AW.seq ?_
 obtain ⟨x2, hx2, h⟩ := Z1 h
 refine Rg <| Ac (Zt (A := Z58 Tryz.prog Zy seq1) rfl rfl (vt rfl)) rfl <| Ac (Z11 (xs := [.const (Value.slice none 0 0), .tmp 3]) (Yao _ _ hx2) Y56 rfl rfl ⟨vc, vt rfl, trivial⟩) rfl <| As rfl <| Nl <| AW.ret ?_
 obtain rfl := si h
 exact Zi Tryz.results85 rfl (Z8 rfl)
def Zdd (s1 : Switch) : Option (List Rule) :=
 (Zm7 s1).bind fun x3 => (Zmp x3).bind fun x4 => some x4
theorem Y8s (s1 : Switch) (r : (List Rule)) (h : Zdd s1 = some r) : PCon Tryz.prog 25 [rd Z0h s1] (rd (Z4 Zy) r) := by
 refine PCon.of (Con.intro0 Tryz.func25 rfl Tryz.ntmps25 rfl fun w H => ?_)
 unfold Zdd at h
 refine SR <| Ct rfl (Zn 2 rfl rfl (vt rfl)) ?_
 rintro _ ⟨g2, rfl⟩
 refine Ac (Z02 (A := rd (Z4 Zy) []) rfl rfl Z1u) rfl <| Nl <| AW.seq ?_
 obtain ⟨x3, hx3, h⟩ := Z1 h
 obtain ⟨x4, hx4, h⟩ := Z1 h
 refine Rg <| Ld Z5z 2 rfl <| Cl [3] (Y81 _ _ hx3) e22 rfl <| Cl [4] (Y3l _ _ hx4) e85 rfl <| As rfl <| Nl <| AW.ret ?_
 obtain rfl := si h
 exact Zi Tryz.results25 rfl (Z8 rfl)
end Go.Proofs.YtknpgojdkobgjaaGreat.W
set_option maxRecDepth 4000
namespace Go.Proofs.YtknpgojdkobgjaaGreat.W
open Go Go.Wb
theorem e25 : Ent Tryz.prog 25 := Ent.mk Tryz.func25 rfl rfl
theorem Yha : Ent Tryz.prog 198 := Ent.mk Tryz.func198 rfl rfl
theorem Ztz : Ent Tryz.prog 165 := Ent.mk Tryz.func165 rfl rfl
theorem Ybl : Ent Tryz.prog 256 := Ent.mk Tryz.func256 rfl rfl
theorem Yb9 : Ent Tryz.prog 257 := Ent.mk Tryz.func257 rfl rfl
theorem Y4r : Ent Tryz.prog 199 := Ent.mk Tryz.func199 rfl rfl
def Z9n (s1 : (List Flow)) (f2 : (Flow → Option Bool)) : Nat → Nat → Option Int
 | 0, i3 => some (-1)
 | m4 + 1, i3 => (lget s1 (i3 : Int)).bind fun e5 => (f2 e5).bind fun x6 => (bif x6 then some (i3 : Int) else (Z9n s1 f2 m4) (i3 + 1))
def Zh5 (s1 : (List Flow)) (f2 : (Flow → Option Bool)) : Option Int :=
 Z9n s1 f2 ((s1.length : Int) : Int).toNat 0
theorem Ygf (s1 : (List Flow)) (f2 : (Flow → Option Bool)) (r : Int) (h : Zh5 s1 f2 = some r) : PCon Tryz.prog 198 [rd (Z4 Z0f) s1, fn1 Tryz.prog Z0f Zc f2] (rd (Z0 .i64) r) := by
 refine PCon.of (Con.intro0 Tryz.func198 rfl Tryz.ntmps198 rfl fun w H => ?_)
 unfold Zh5 at h
 refine SR <| Ak rfl <| Nl <| AW.seq <| SR <| Md rfl <| Ac (Z0x rfl rfl Z4y (vt rfl)) rfl <| Mk rfl <| Nl <| AW.block <| AW.loopG (d := []) (ν := Nat × Nat) (fun n => Cnt (s1.length : Int) n.2 n.1 ∧ Z9n s1 f2 n.1 n.2 = some r) (fun n => n.1) (fun n => [(0, rd (Z4 Z0f) s1), (1, fn1 Tryz.prog Z0f Zc f2), (7, rd (Z0 .i64) (s1.length : Int)), (8, rd (Z0 .i64) (n.2 : Int))]) (fun n => []) (((s1.length : Int) : Int).toNat, 0) ⟨Cnt.start _, h⟩ (FX rfl) ?_
 rintro ⟨m4, i3⟩ ⟨hsf1, h⟩
 change Cnt (s1.length : Int) i3 m4 at hsf1
 change Z9n s1 f2 m4 i3 = some r at h
 change AW _ _ _ ⟨Zw [(0, rd (Z4 Z0f) s1), (1, fn1 Tryz.prog Z0f Zc f2), (7, rd (Z0 .i64) (s1.length : Int)), (8, rd (Z0 .i64) (i3 : Int))], Zx [], _⟩
 cases m4 with
 | zero =>
  unfold Z9n at h
  refine SR <| Ac (Zp rfl rfl (vt rfl) (vt rfl)) rfl <| Nl <| AW.seq <| Cn rfl (fun hc => absurd (of_decide_eq_true hc) hsf1.zero) (fun hc => ?_)
  refine AW.exit <| SR <| Ak rfl <| Nl <| AW.ret ?_
  obtain rfl := si h
  exact Zi Tryz.results198 rfl (Z8 rfl)
 | succ m4 =>
  unfold Z9n at h
  generalize hgo1 : Z9n s1 f2 m4 = go1 at h
  refine SR <| Ac (Zp rfl rfl (vt rfl) (vt rfl)) rfl <| Nl <| AW.seq <| Cn rfl (fun hc => ?_) (fun hc => absurd hsf1.succ (of_decide_eq_false hc))
  have hlti3 := of_decide_eq_true hc
  refine AW.skip <| AW.seq <| AW.block <| SR <| Md rfl <| As rfl <| Nl <| AW.seq ?_
  obtain ⟨e5, he5, h⟩ := Z1 h
  obtain ⟨x6, hx6, h⟩ := Z1 h
  refine Rg <| Ac (Zt (A := fn1 Tryz.prog Z0f Zc f2) rfl rfl (vt rfl)) rfl <| Md rfl <| Md rfl <| Ac (Z0r rfl rfl Z4y (vt rfl) (vt rfl) he5) rfl <| Lp1 Z7s rfl <| Ac (Z9e hx6 rfl rfl (vt rfl) (vt rfl)) rfl <| Nl <| Cn rfl (fun hc => ?_) (fun hc => ?_)
  ·have h := Zf hc h
   refine SR <| Md rfl <| As rfl <| Nl <| AW.ret ?_
   obtain rfl := si h
   exact Zi Tryz.results198 rfl (Z8 rfl)
  ·have h := Zg hc h
   refine AW.skip <| Rg <| Ac (Z22 (t := 7) rfl rfl (vt rfl) (vk rfl) (vt rfl) hlti3) rfl <| Md rfl <| Nl ?_
   subst hgo1
   exact ⟨(m4, i3 + 1), Nat.lt_succ_self _, ⟨hsf1.next, h⟩, FX rfl⟩
def Zj6 (s1 : (List Flow)) (f2 : (Flow → Option Bool)) : Option Bool :=
 (Zh5 s1 f2).bind fun x3 => some (decide (x3 ≥ 0))
theorem Yet (s1 : (List Flow)) (f2 : (Flow → Option Bool)) (r : Bool) (h : Zj6 s1 f2 = some r) : PCon Tryz.prog 132 [rd (Z4 Z0f) s1, fn1 Tryz.prog Z0f Zc f2] (rd Zc r) := by
 refine PCon.of (Con.intro0 Tryz.func132 rfl Tryz.ntmps132 rfl fun w H => ?_)
 unfold Zj6 at h
 refine SR <| Ab rfl <| Nl <| AW.seq ?_
 obtain ⟨x3, hx3, h⟩ := Z1 h
 refine Rg <| Md rfl <| Ac (Zt (A := fn1 Tryz.prog Z0f Zc f2) rfl rfl (vt rfl)) rfl <| Cl [5, 6] (Ygf _ _ _ hx3) Yha rfl <| Ac (Z4e rfl rfl (vt rfl) (vk rfl)) rfl <| As rfl <| Nl <| AW.ret ?_
 obtain rfl := si h
 exact Zi Tryz.results132 rfl (Z8 rfl)
def Zi9 (s1 : (List Inst)) (f2 : (Inst → Option Bool)) : Option Bool :=
 (Zfw s1 f2).bind fun x3 => some (decide (x3 ≥ 0))
theorem Yd6 (s1 : (List Inst)) (f2 : (Inst → Option Bool)) (r : Bool) (h : Zi9 s1 f2 = some r) : PCon Tryz.prog 256 [rd (Z4 Z10) s1, fn1 Tryz.prog Z10 Zc f2] (rd Zc r) := by
 refine PCon.of (Con.intro0 Tryz.func256 rfl Tryz.ntmps256 rfl fun w H => ?_)
 unfold Zi9 at h
 refine SR <| Ab rfl <| Nl <| AW.seq ?_
 obtain ⟨x3, hx3, h⟩ := Z1 h
 refine Rg <| Md rfl <| Ac (Zt (A := fn1 Tryz.prog Z10 Zc f2) rfl rfl (vt rfl)) rfl <| Cl [5, 6] (Zyj _ _ _ hx3) Zt6 rfl <| Ac (Z4e rfl rfl (vt rfl) (vk rfl)) rfl <| As rfl <| Nl <| AW.ret ?_
 obtain rfl := si h
 exact Zi Tryz.results256 rfl (Z8 rfl)
def Zn6 (l1 : (List Action)) : Option Bool :=
 some (decide ((l1.length : Int) ≤ 12))
theorem Y01 (l1 : (List Action)) (r : Bool) (h : Zn6 l1 = some r) : PCon Tryz.prog 165 [rd (Z4 Z6) l1] (rd Zc r) := by
 refine PCon.of (Con.intro0 Tryz.func165 rfl Tryz.ntmps165 rfl fun w H => ?_)
 unfold Zn6 at h
 refine SR <| Ab rfl <| Nl <| SR <| Md rfl <| Ac (Z0x rfl rfl Z0e (vt rfl)) rfl <| Ac (Z62 rfl rfl (vt rfl) (vk rfl)) rfl <| As rfl <| Nl <| AW.ret ?_
 obtain rfl := si h
 exact Zi Tryz.results165 rfl (Z8 rfl)
def Zkm (i1 : Inst) : Option Bool :=
 (Zn6 i1.Acts).bind fun x3 => some (!x3)
theorem Yf8 (i1 : Inst) (r : Bool) (h : Zkm i1 = some r) : PCon Tryz.prog 257 [rd Z10 i1] (rd Zc r) := by
 refine PCon.of (Con.intro0 Tryz.func257 rfl Tryz.ntmps257 rfl fun w H => ?_)
 unfold Zkm at h
 refine SR <| Ct rfl (Zn 2 rfl rfl (vt rfl)) ?_
 rintro _ ⟨g2, rfl⟩
 refine Ab rfl <| Nl <| AW.seq ?_
 obtain ⟨x3, hx3, h⟩ := Z1 h
 refine Rg <| Zl Zak Zcs rfl <| Ld Z4j 2 rfl <| Cl [4] (Y01 _ _ hx3) Ztz rfl <| Ac (Z19 rfl rfl (vt rfl)) rfl <| As rfl <| Nl <| AW.ret ?_
 obtain rfl := si h
 exact Zi Tryz.results257 rfl (Z8 rfl)
def Zi8 (l1 : (List Inst)) : Option Bool :=
 (opt (decide ((l1.length : Int) ≤ 8)) (Zi9 l1 Zkm)).bind fun x2 => some ((decide ((l1.length : Int) ≤ 8)) && (!x2))
theorem Y3n (l1 : (List Inst)) (r : Bool) (h : Zi8 l1 = some r) : PCon Tryz.prog 199 [rd (Z4 Z10) l1] (rd Zc r) := by
 refine PCon.of (Con.intro0 Tryz.func199 rfl Tryz.ntmps199 rfl fun w H => ?_)
 unfold Zi8 at h
 refine SR <| Ab rfl <| Nl <| AW.seq ?_
 obtain ⟨x2, hx2, h⟩ := Z1 h
 refine Rg <| Md rfl <| Ac (Z0x rfl rfl Zbq (vt rfl)) rfl <| Ac (Z62 rfl rfl (vt rfl) (vk rfl)) rfl <| Md rfl <| Gd rfl (fun hq => Zt (A := rd (Z4 Z10) l1) rfl rfl (vt rfl)) <| Gd rfl (fun hq => Z11 (xs := [.tmp 7, .func 257]) (Yd6 _ _ _ (Z2b hx2 hq)) Ybl rfl rfl ⟨Zs rfl hq, vf1 Yb9 Yf8, trivial⟩) <| Gd rfl (fun hq => Z19 rfl rfl (Zs rfl hq)) <| Ac (Z1w rfl rfl (vt rfl) (vt rfl)) rfl <| As rfl <| Nl <| AW.ret ?_
 obtain rfl := si h
 exact Zi Tryz.results199 rfl (Z8 rfl)
def Zk8 (f1 : Flow) : Option Bool :=
 (opt (decide ((f1.Match.length : Int) ≤ 30)) (Zi8 f1.Insts)).bind fun x3 => some ((decide ((f1.Match.length : Int) ≤ 30)) && x3)
theorem Ya8 (f1 : Flow) (r : Bool) (h : Zk8 f1 = some r) : PCon Tryz.prog 134 [rd Z0f f1] (rd Zc r) := by
 refine PCon.of (Con.intro0 Tryz.func134 rfl Tryz.ntmps134 rfl fun w H => ?_)
 unfold Zk8 at h
 refine SR <| Ct rfl (Zn 2 rfl rfl (vt rfl)) ?_
 rintro _ ⟨g2, rfl⟩
 refine Ab rfl <| Nl <| AW.seq ?_
 obtain ⟨x3, hx3, h⟩ := Z1 h
 refine Rg <| Zl Zmy Zq6 rfl <| Ld Zrf 2 rfl <| Ac (Z0x rfl rfl Zda (vt rfl)) rfl <| Ac (Z62 rfl rfl (vt rfl) (vk rfl)) rfl <| Md rfl <| Gd rfl (fun hq => Z40 Zac rfl rfl Zbn (vt rfl)) <| Gd rfl (fun hq => Z37 rfl rfl Zdb (Zs rfl hq) (i := 2) rfl) <| Gd rfl (fun hq => Z11 (xs := [.tmp 9]) (Y3n _ _ (Z2b hx3 hq)) Y4r rfl rfl ⟨Zs rfl hq, trivial⟩) <| Ac (Z1w rfl rfl (vt rfl) (vt rfl)) rfl <| As rfl <| Nl <| AW.ret ?_
 obtain rfl := si h
 exact Zi Tryz.results134 rfl (Z8 rfl)
end Go.Proofs.YtknpgojdkobgjaaGreat.W
set_option maxRecDepth 4000
namespace Go.Proofs.YtknpgojdkobgjaaGreat.W
open Go Go.Wb
theorem Ye2 : Ent Tryz.prog 134 := Ent.mk Tryz.func134 rfl rfl
theorem Y3w : Ent Tryz.prog 132 := Ent.mk Tryz.func132 rfl rfl
theorem Y2j : Ent Tryz.prog 133 := Ent.mk Tryz.func133 rfl rfl
theorem Y17 : Ent Tryz.prog 231 := Ent.mk Tryz.func231 rfl rfl
theorem Yf3 : Ent Tryz.prog 163 := Ent.mk Tryz.func163 rfl rfl
theorem Yej : Ent Tryz.prog 164 := Ent.mk Tryz.func164 rfl rfl
theorem Y7g : Ent Tryz.prog 100 := Ent.mk Tryz.func100 rfl rfl
theorem Zyy : Ent Tryz.prog 162 := Ent.mk Tryz.func162 rfl rfl
def Zie (f1 : Flow) : Option Bool :=
 (Zk8 f1).bind fun x3 => some (!x3)
theorem Y6x (f1 : Flow) (r : Bool) (h : Zie f1 = some r) : PCon Tryz.prog 133 [rd Z0f f1] (rd Zc r) := by
 refine PCon.of (Con.intro0 Tryz.func133 rfl Tryz.ntmps133 rfl fun w H => ?_)
 unfold Zie at h
 refine SR <| Ct rfl (Zn 2 rfl rfl (vt rfl)) ?_
 rintro _ ⟨g2, rfl⟩
 refine Ab rfl <| Nl <| AW.seq ?_
 obtain ⟨x3, hx3, h⟩ := Z1 h
 refine Rg <| Ld Z7s 2 rfl <| Cl [3] (Ya8 _ _ hx3) Ye2 rfl <| Ac (Z19 rfl rfl (vt rfl)) rfl <| As rfl <| Nl <| AW.ret ?_
 obtain rfl := si h
 exact Zi Tryz.results133 rfl (Z8 rfl)
def Zi5 (l1 : (List Flow)) (many2 : Int) : Option Bool :=
 (opt (decide ((l1.length : Int) ≤ many2)) (Zj6 l1 Zie)).bind fun x3 => some ((decide ((l1.length : Int) ≤ many2)) && (!x3))
theorem Y6k (l1 : (List Flow)) (many2 : Int) (r : Bool) (h : Zi5 l1 many2 = some r) : PCon Tryz.prog 74 [rd (Z4 Z0f) l1, rd (Z0 .i64) many2] (rd Zc r) := by
 refine PCon.of (Con.intro0 Tryz.func74 rfl Tryz.ntmps74 rfl fun w H => ?_)
 unfold Zi5 at h
 refine SR <| Ab rfl <| Nl <| AW.seq ?_
 obtain ⟨x3, hx3, h⟩ := Z1 h
 refine Rg <| Md rfl <| Ac (Z0x rfl rfl Z4y (vt rfl)) rfl <| Md rfl <| Ac (Z62 rfl rfl (vt rfl) (vt rfl)) rfl <| Md rfl <| Gd rfl (fun hq => Zt (A := rd (Z4 Z0f) l1) rfl rfl (vt rfl)) <| Gd rfl (fun hq => Z11 (xs := [.tmp 10, .func 133]) (Yet _ _ _ (Z2b hx3 hq)) Y3w rfl rfl ⟨Zs rfl hq, vf1 Y2j Y6x, trivial⟩) <| Gd rfl (fun hq => Z19 rfl rfl (Zs rfl hq)) <| Ac (Z1w rfl rfl (vt rfl) (vt rfl)) rfl <| As rfl <| Nl <| AW.ret ?_
 obtain rfl := si h
 exact Zi Tryz.results74 rfl (Z8 rfl)
def Z9m (s1 : (List Bucket)) (f2 : (Bucket → Option Bool)) : Nat → Nat → Option Int
 | 0, i3 => some (-1)
 | m4 + 1, i3 => (lget s1 (i3 : Int)).bind fun e5 => (f2 e5).bind fun x6 => (bif x6 then some (i3 : Int) else (Z9m s1 f2 m4) (i3 + 1))
def Zej (s1 : (List Bucket)) (f2 : (Bucket → Option Bool)) : Option Int :=
 Z9m s1 f2 ((s1.length : Int) : Int).toNat 0
theorem Zy6 (s1 : (List Bucket)) (f2 : (Bucket → Option Bool)) (r : Int) (h : Zej s1 f2 = some r) : PCon Tryz.prog 231 [rd (Z4 Z1o) s1, fn1 Tryz.prog Z1o Zc f2] (rd (Z0 .i64) r) := by
 refine PCon.of (Con.intro0 Tryz.func231 rfl Tryz.ntmps231 rfl fun w H => ?_)
 unfold Zej at h
 refine SR <| Ak rfl <| Nl <| AW.seq <| SR <| Md rfl <| Ac (Z0x rfl rfl Z5n (vt rfl)) rfl <| Mk rfl <| Nl <| AW.block <| AW.loopG (d := []) (ν := Nat × Nat) (fun n => Cnt (s1.length : Int) n.2 n.1 ∧ Z9m s1 f2 n.1 n.2 = some r) (fun n => n.1) (fun n => [(0, rd (Z4 Z1o) s1), (1, fn1 Tryz.prog Z1o Zc f2), (7, rd (Z0 .i64) (s1.length : Int)), (8, rd (Z0 .i64) (n.2 : Int))]) (fun n => []) (((s1.length : Int) : Int).toNat, 0) ⟨Cnt.start _, h⟩ (FX rfl) ?_
 rintro ⟨m4, i3⟩ ⟨hsf1, h⟩
 change Cnt (s1.length : Int) i3 m4 at hsf1
 change Z9m s1 f2 m4 i3 = some r at h
 change AW _ _ _ ⟨Zw [(0, rd (Z4 Z1o) s1), (1, fn1 Tryz.prog Z1o Zc f2), (7, rd (Z0 .i64) (s1.length : Int)), (8, rd (Z0 .i64) (i3 : Int))], Zx [], _⟩
 cases m4 with
 | zero =>
  unfold Z9m at h
  refine SR <| Ac (Zp rfl rfl (vt rfl) (vt rfl)) rfl <| Nl <| AW.seq <| Cn rfl (fun hc => absurd (of_decide_eq_true hc) hsf1.zero) (fun hc => ?_)
  refine AW.exit <| SR <| Ak rfl <| Nl <| AW.ret ?_
  obtain rfl := si h
  exact Zi Tryz.results231 rfl (Z8 rfl)
 | succ m4 =>
  unfold Z9m at h
  generalize hgo1 : Z9m s1 f2 m4 = go1 at h
  refine SR <| Ac (Zp rfl rfl (vt rfl) (vt rfl)) rfl <| Nl <| AW.seq <| Cn rfl (fun hc => ?_) (fun hc => absurd hsf1.succ (of_decide_eq_false hc))
  have hlti3 := of_decide_eq_true hc
  refine AW.skip <| AW.seq <| AW.block <| SR <| Md rfl <| As rfl <| Nl <| AW.seq ?_
  obtain ⟨e5, he5, h⟩ := Z1 h
  obtain ⟨x6, hx6, h⟩ := Z1 h
  refine Rg <| Ac (Zt (A := fn1 Tryz.prog Z1o Zc f2) rfl rfl (vt rfl)) rfl <| Md rfl <| Md rfl <| Ac (Z0r rfl rfl Z5n (vt rfl) (vt rfl) he5) rfl <| Lp1 Y6n rfl <| Ac (Z9e hx6 rfl rfl (vt rfl) (vt rfl)) rfl <| Nl <| Cn rfl (fun hc => ?_) (fun hc => ?_)
  ·have h := Zf hc h
   refine SR <| Md rfl <| As rfl <| Nl <| AW.ret ?_
   obtain rfl := si h
   exact Zi Tryz.results231 rfl (Z8 rfl)
  ·have h := Zg hc h
   refine AW.skip <| Rg <| Ac (Z22 (t := 7) rfl rfl (vt rfl) (vk rfl) (vt rfl) hlti3) rfl <| Md rfl <| Nl ?_
   subst hgo1
   exact ⟨(m4, i3 + 1), Nat.lt_succ_self _, ⟨hsf1.next, h⟩, FX rfl⟩
def Zji (s1 : (List Bucket)) (f2 : (Bucket → Option Bool)) : Option Bool :=
 (Zej s1 f2).bind fun x3 => some (decide (x3 ≥ 0))
theorem Yg6 (s1 : (List Bucket)) (f2 : (Bucket → Option Bool)) (r : Bool) (h : Zji s1 f2 = some r) : PCon Tryz.prog 163 [rd (Z4 Z1o) s1, fn1 Tryz.prog Z1o Zc f2] (rd Zc r) := by
 refine PCon.of (Con.intro0 Tryz.func163 rfl Tryz.ntmps163 rfl fun w H => ?_)
 unfold Zji at h
 refine SR <| Ab rfl <| Nl <| AW.seq ?_
 obtain ⟨x3, hx3, h⟩ := Z1 h
 refine Rg <| Md rfl <| Ac (Zt (A := fn1 Tryz.prog Z1o Zc f2) rfl rfl (vt rfl)) rfl <| Cl [5, 6] (Zy6 _ _ _ hx3) Y17 rfl <| Ac (Z4e rfl rfl (vt rfl) (vk rfl)) rfl <| As rfl <| Nl <| AW.ret ?_
 obtain rfl := si h
 exact Zi Tryz.results163 rfl (Z8 rfl)
def Zkj (x1 : Bucket) : Option Bool :=
 (Zn6 x1.Acts).bind fun x3 => some (!x3)
theorem Yat (x1 : Bucket) (r : Bool) (h : Zkj x1 = some r) : PCon Tryz.prog 164 [rd Z1o x1] (rd Zc r) := by
 refine PCon.of (Con.intro0 Tryz.func164 rfl Tryz.ntmps164 rfl fun w H => ?_)
 unfold Zkj at h
 refine SR <| Ct rfl (Zn 2 rfl rfl (vt rfl)) ?_
 rintro _ ⟨g2, rfl⟩
 refine Ab rfl <| Nl <| AW.seq ?_
 obtain ⟨x3, hx3, h⟩ := Z1 h
 refine Rg <| Zl Zi0 Zn1 rfl <| Ld Z4j 2 rfl <| Cl [4] (Y01 _ _ hx3) Ztz rfl <| Ac (Z19 rfl rfl (vt rfl)) rfl <| As rfl <| Nl <| AW.ret ?_
 obtain rfl := si h
 exact Zi Tryz.results164 rfl (Z8 rfl)
def Zgh (l1 : (List Bucket)) (many2 : Int) : Option Bool :=
 (opt (decide ((l1.length : Int) ≤ many2)) (Zji l1 Zkj)).bind fun x3 => some ((decide ((l1.length : Int) ≤ many2)) && (!x3))
theorem Y6a (l1 : (List Bucket)) (many2 : Int) (r : Bool) (h : Zgh l1 many2 = some r) : PCon Tryz.prog 100 [rd (Z4 Z1o) l1, rd (Z0 .i64) many2] (rd Zc r) := by
 refine PCon.of (Con.intro0 Tryz.func100 rfl Tryz.ntmps100 rfl fun w H => ?_)
 unfold Zgh at h
 refine SR <| Ab rfl <| Nl <| AW.seq ?_
 obtain ⟨x3, hx3, h⟩ := Z1 h
 refine Rg <| Md rfl <| Ac (Z0x rfl rfl Z5n (vt rfl)) rfl <| Md rfl <| Ac (Z62 rfl rfl (vt rfl) (vt rfl)) rfl <| Md rfl <| Gd rfl (fun hq => Zt (A := rd (Z4 Z1o) l1) rfl rfl (vt rfl)) <| Gd rfl (fun hq => Z11 (xs := [.tmp 10, .func 164]) (Yg6 _ _ _ (Z2b hx3 hq)) Yf3 rfl rfl ⟨Zs rfl hq, vf1 Yej Yat, trivial⟩) <| Gd rfl (fun hq => Z19 rfl rfl (Zs rfl hq)) <| Ac (Z1w rfl rfl (vt rfl) (vt rfl)) rfl <| As rfl <| Nl <| AW.ret ?_
 obtain rfl := si h
 exact Zi Tryz.results100 rfl (Z8 rfl)
def Zdg (g1 : Group) (cp2 : Int) : Option Bool :=
 (Zgh g1.Buckets cp2).bind fun x4 => some (!x4)
theorem Y2l (g1 : Group) (cp2 : Int) (r : Bool) (h : Zdg g1 cp2 = some r) : PCon Tryz.prog 99 [rd Z0d g1, rp (Z0 .i64) cp2] (rd Zc r) := by
 refine PCon.of (Con.intro0 Tryz.func99 rfl Tryz.ntmps99 rfl fun w H => ?_)
 unfold Zdg at h
 refine SR <| Ct rfl (Zn 3 rfl rfl (vt rfl)) ?_
 rintro _ ⟨g3, rfl⟩
 refine Ab rfl <| Nl <| AW.seq ?_
 obtain ⟨x4, hx4, h⟩ := Z1 h
 refine Rg <| Zl Z9g Za7 rfl <| Ld Zaa 3 rfl <| Lp1 ty3 rfl <| Cl [5, 6] (Y6a _ _ _ hx4) Y7g rfl <| Ac (Z19 rfl rfl (vt rfl)) rfl <| As rfl <| Nl <| AW.ret ?_
 obtain rfl := si h
 exact Zi Tryz.results99 rfl (Z8 rfl)
def Z9u (s1 : (List Group)) (f2 : (Group → Option Bool)) : Nat → Nat → Option Int
 | 0, i3 => some (-1)
 | m4 + 1, i3 => (lget s1 (i3 : Int)).bind fun e5 => (f2 e5).bind fun x6 => (bif x6 then some (i3 : Int) else (Z9u s1 f2 m4) (i3 + 1))
def Zfo (s1 : (List Group)) (f2 : (Group → Option Bool)) : Option Int :=
 Z9u s1 f2 ((s1.length : Int) : Int).toNat 0
theorem Zuc (s1 : (List Group)) (f2 : (Group → Option Bool)) (r : Int) (h : Zfo s1 f2 = some r) : PCon Tryz.prog 162 [rd (Z4 Z0d) s1, fn1 Tryz.prog Z0d Zc f2] (rd (Z0 .i64) r) := by
 refine PCon.of (Con.intro0 Tryz.func162 rfl Tryz.ntmps162 rfl fun w H => ?_)
 unfold Zfo at h
 refine SR <| Ak rfl <| Nl <| AW.seq <| SR <| Md rfl <| Ac (Z0x rfl rfl Z52 (vt rfl)) rfl <| Mk rfl <| Nl <| AW.block <| AW.loopG (d := []) (ν := Nat × Nat) (fun n => Cnt (s1.length : Int) n.2 n.1 ∧ Z9u s1 f2 n.1 n.2 = some r) (fun n => n.1) (fun n => [(0, rd (Z4 Z0d) s1), (1, fn1 Tryz.prog Z0d Zc f2), (7, rd (Z0 .i64) (s1.length : Int)), (8, rd (Z0 .i64) (n.2 : Int))]) (fun n => []) (((s1.length : Int) : Int).toNat, 0) ⟨Cnt.start _, h⟩ (FX rfl) ?_
 rintro ⟨m4, i3⟩ ⟨hsf1, h⟩
 change Cnt (s1.length : Int) i3 m4 at hsf1
 change Z9u s1 f2 m4 i3 = some r at h
 change AW _ _ _ ⟨Zw [(0, rd (Z4 Z0d) s1), (1, fn1 Tryz.prog Z0d Zc f2), (7, rd (Z0 .i64) (s1.length : Int)), (8, rd (Z0 .i64) (i3 : Int))], Zx [], _⟩
 cases m4 with
 | zero =>
  unfold Z9u at h
  refine SR <| Ac (Zp rfl rfl (vt rfl) (vt rfl)) rfl <| Nl <| AW.seq <| Cn rfl (fun hc => absurd (of_decide_eq_true hc) hsf1.zero) (fun hc => ?_)
  refine AW.exit <| SR <| Ak rfl <| Nl <| AW.ret ?_
  obtain rfl := si h
  exact Zi Tryz.results162 rfl (Z8 rfl)
 | succ m4 =>
  unfold Z9u at h
  generalize hgo1 : Z9u s1 f2 m4 = go1 at h
  refine SR <| Ac (Zp rfl rfl (vt rfl) (vt rfl)) rfl <| Nl <| AW.seq <| Cn rfl (fun hc => ?_) (fun hc => absurd hsf1.succ (of_decide_eq_false hc))
  have hlti3 := of_decide_eq_true hc
  refine AW.skip <| AW.seq <| AW.block <| SR <| Md rfl <| As rfl <| Nl <| AW.seq ?_
  obtain ⟨e5, he5, h⟩ := Z1 h
  obtain ⟨x6, hx6, h⟩ := Z1 h
  refine Rg <| Ac (Zt (A := fn1 Tryz.prog Z0d Zc f2) rfl rfl (vt rfl)) rfl <| Md rfl <| Md rfl <| Ac (Z0r rfl rfl Z52 (vt rfl) (vt rfl) he5) rfl <| Lp1 Z57 rfl <| Ac (Z9e hx6 rfl rfl (vt rfl) (vt rfl)) rfl <| Nl <| Cn rfl (fun hc => ?_) (fun hc => ?_)
  ·have h := Zf hc h
   refine SR <| Md rfl <| As rfl <| Nl <| AW.ret ?_
   obtain rfl := si h
   exact Zi Tryz.results162 rfl (Z8 rfl)
  ·have h := Zg hc h
   refine AW.skip <| Rg <| Ac (Z22 (t := 7) rfl rfl (vt rfl) (vk rfl) (vt rfl) hlti3) rfl <| Md rfl <| Nl ?_
   subst hgo1
   exact ⟨(m4, i3 + 1), Nat.lt_succ_self _, ⟨hsf1.next, h⟩, FX rfl⟩
def Zhp (s1 : (List Group)) (f2 : (Group → Option Bool)) : Option Bool :=
 (Zfo s1 f2).bind fun x3 => some (decide (x3 ≥ 0))
theorem Y40 (s1 : (List Group)) (f2 : (Group → Option Bool)) (r : Bool) (h : Zhp s1 f2 = some r) : PCon Tryz.prog 98 [rd (Z4 Z0d) s1, fn1 Tryz.prog Z0d Zc f2] (rd Zc r) := by
 refine PCon.of (Con.intro0 Tryz.func98 rfl Tryz.ntmps98 rfl fun w H => ?_)
 unfold Zhp at h
 refine SR <| Ab rfl <| Nl <| AW.seq ?_
 obtain ⟨x3, hx3, h⟩ := Z1 h
 refine Rg <| Md rfl <| Ac (Zt (A := fn1 Tryz.prog Z0d Zc f2) rfl rfl (vt rfl)) rfl <| Cl [5, 6] (Zuc _ _ _ hx3) Zyy rfl <| Ac (Z4e rfl rfl (vt rfl) (vk rfl)) rfl <| As rfl <| Nl <| AW.ret ?_
 obtain rfl := si h
 exact Zi Tryz.results98 rfl (Z8 rfl)
end Go.Proofs.YtknpgojdkobgjaaGreat.W
set_option maxRecDepth 4000
namespace Go.Proofs.YtknpgojdkobgjaaGreat.W
open Go Go.Wb
theorem e99 : Ent Tryz.prog 99 := Ent.mk Tryz.func99 rfl rfl
theorem e98 : Ent Tryz.prog 98 := Ent.mk Tryz.func98 rfl rfl
theorem e40 : Ent Tryz.prog 40 := Ent.mk Tryz.func40 rfl rfl
theorem e74 : Ent Tryz.prog 74 := Ent.mk Tryz.func74 rfl rfl
theorem Y7r : Ent Tryz.prog 342 := Ent.mk Tryz.func342 rfl rfl
theorem Y67 : Ent Tryz.prog 334 := Ent.mk Tryz.func334 rfl rfl
def Zhz (l1 : (List Group)) (many2 : Int) (buckets3 : Int) : Option Bool :=
 (opt (decide ((l1.length : Int) ≤ many2)) (Zhp l1 (fun x => Zdg x buckets3))).bind fun x5 => some ((decide ((l1.length : Int) ≤ many2)) && (!x5))
theorem Y2q (l1 : (List Group)) (many2 : Int) (buckets3 : Int) (r : Bool) (h : Zhz l1 many2 buckets3 = some r) : PCon Tryz.prog 40 [rd (Z4 Z0d) l1, rd (Z0 .i64) many2, rd (Z0 .i64) buckets3] (rd Zc r) := by
 refine PCon.of (Con.intro0 Tryz.func40 rfl Tryz.ntmps40 rfl fun w H => ?_)
 unfold Zhz at h
 refine SR <| Ct rfl (Zn 6 rfl rfl (vt rfl)) ?_
 rintro _ ⟨g4, rfl⟩
 refine Ab rfl <| Nl <| AW.seq <| AW.freezeB 5 6 rfl rfl rfl ?_
 obtain ⟨x5, hx5, h⟩ := Z1 h
 refine Rg <| Md rfl <| Ac (Z0x rfl rfl Z52 (vt rfl)) rfl <| Md rfl <| Ac (Z62 rfl rfl (vt rfl) (vt rfl)) rfl <| Md rfl <| Gd rfl (fun hq => Zt (A := rd (Z4 Z0d) l1) rfl rfl (vt rfl)) <| Gd rfl (fun hq => Z79 (cs := [.tmp 5]) (CAs := [rp (Z0 .i64) buckets3]) (fun x => Zdg x buckets3) rfl rfl e99 ⟨vt rfl, trivial⟩ (fun x y h => Y2l _ _ y h)) <| Gd rfl (fun hq => Z11 (xs := [.tmp 12, .tmp 13]) (Y40 _ _ _ (Z2b hx5 hq)) e98 rfl rfl ⟨Zs rfl hq, Zs rfl hq, trivial⟩) <| Gd rfl (fun hq => Z19 rfl rfl (Zs rfl hq)) <| Ac (Z1w rfl rfl (vt rfl) (vt rfl)) rfl <| As rfl <| Nl <| AW.ret ?_
 obtain rfl := si h
 exact Zi Tryz.results40 rfl (Z8 rfl)
def Z6t (s1 : Switch) (many2 : Int) : (List (List Flow)) → Nat → Option Bool
 | [], i4 => (Zhz s1.Groups 9 3).bind fun x6 => some x6
 | x7 :: l5, i4 => (Zi5 x7 many2).bind fun x8 => (bif (!x8) then some false else (Z6t s1 many2 l5) (i4 + 1))
def Zk3 (s1 : Switch) (many2 : Int) : Option Bool :=
 Z6t s1 many2 (Vector.toList s1.Tables) 0
theorem Ycg (s1 : Switch) (many2 : Int) (r : Bool) (h : Zk3 s1 many2 = some r) : PCon Tryz.prog 21 [rd Z0h s1, rd (Z0 .i64) many2] (rd Zc r) := by
 refine PCon.of (Con.intro0 Tryz.func21 rfl Tryz.ntmps21 rfl fun w H => ?_)
 unfold Zk3 at h
 refine SR <| Ct rfl (Zn 3 rfl rfl (vt rfl)) ?_
 rintro _ ⟨g3, rfl⟩
 refine Ab rfl <| Nl <| AW.seq <| SR <| Zl Zf0 Zj8 rfl <| Ld Yak 3 rfl <| Mk rfl <| Nl <| AW.block <| AW.loopG (d := []) (ν := (List (List Flow)) × Nat) (fun n => Sfx (Vector.toList s1.Tables) n.2 n.1 ∧ Z6t s1 many2 n.1 n.2 = some r) (fun n => n.1.length) (fun n => [(1, rd (Z0 .i64) many2), (2, Z7 g3 (Lens.id Z0h)), (8, rd (Z2 4 (Z4 Z0f)) s1.Tables), (9, rd (Z0 .i64) (n.2 : Int))]) (fun n => [(3, Z9 g3 26 Z0h s1)]) ((Vector.toList s1.Tables), 0) ⟨Sfx.start _, h⟩ (FX rfl) ?_
 rintro ⟨l5, i4⟩ ⟨hsf1, h⟩
 change Sfx (Vector.toList s1.Tables) i4 l5 at hsf1
 change Z6t s1 many2 l5 i4 = some r at h
 change AW _ _ _ ⟨Zw [(1, rd (Z0 .i64) many2), (2, Z7 g3 (Lens.id Z0h)), (8, rd (Z2 4 (Z4 Z0f)) s1.Tables), (9, rd (Z0 .i64) (i4 : Int))], Zx [(3, Z9 g3 26 Z0h s1)], _⟩
 cases l5 with
 | nil =>
  unfold Z6t at h
  refine SR <| Ac (Zp rfl rfl (vt rfl) (vk rfl)) rfl <| Nl <| AW.seq <| Cn rfl (fun hc => absurd (of_decide_eq_true hc) (hsf1.niln (by simp))) (fun hc => ?_)
  refine AW.exit <| AW.seq ?_
  obtain ⟨x6, hx6, h⟩ := Z1 h
  refine Rg <| Zl Zqn Zu3 rfl <| Ld Zk5 3 rfl <| Ac (Z11 (xs := [.tmp 18, .const (Value.int IntKind.i64 9), .const (Value.int IntKind.i64 3)]) (Y2q _ _ _ _ hx6) e40 rfl rfl ⟨vt rfl, vk rfl, vk rfl, trivial⟩) rfl <| As rfl <| Nl <| AW.ret ?_
  obtain rfl := si h
  exact Zi Tryz.results21 rfl (Z8 rfl)
 | cons x7 l5 =>
  unfold Z6t at h
  generalize hgo1 : Z6t s1 many2 l5 = go1 at h
  refine SR <| Ac (Zp rfl rfl (vt rfl) (vk rfl)) rfl <| Nl <| AW.seq <| Cn rfl (fun hc => ?_) (fun hc => absurd (hsf1.consn (by simp)) (of_decide_eq_false hc))
  have hlti4 := of_decide_eq_true hc
  refine AW.skip <| AW.seq <| AW.block <| SR <| Ac (Zb3 rfl rfl Zib Z6c (vt rfl) (vt rfl) hsf1.lget) rfl <| As rfl <| Nl <| AW.seq ?_
  obtain ⟨x8, hx8, h⟩ := Z1 h
  refine Rg <| Md rfl <| Md rfl <| Cl [12, 13] (Y6k _ _ _ hx8) e74 rfl <| Ac (Z19 rfl rfl (vt rfl)) rfl <| Nl <| Cn rfl (fun hc => ?_) (fun hc => ?_)
  ·have h := Zf hc h
   refine SR <| Ab rfl <| Nl <| AW.ret ?_
   obtain rfl := si h
   exact Zi Tryz.results21 rfl (Z8 rfl)
  ·have h := Zg hc h
   refine AW.skip <| Rg <| Ac (Z6k rfl rfl (vt rfl) (vk rfl) rfl hlti4) rfl <| Md rfl <| Nl ?_
   subst hgo1
   exact ⟨(l5, i4 + 1), Nat.lt_succ_self _, ⟨hsf1.next, h⟩, FX rfl⟩
def Zn0 : Option Z5 :=
 some (Vector.replicate 24 zTern)
theorem Yap (r : Z5) (h : Zn0 = some r) : PCon Tryz.prog 79 [] (rd (Z2 24 Z3) r) := by
 refine PCon.of (Con.intro0 Tryz.func79 rfl Tryz.ntmps79 rfl fun w H => ?_)
 unfold Zn0 at h
 refine SR <| Ct rfl (Zq 1 rfl rfl Z15) ?_
 rintro _ ⟨g1, rfl⟩
 refine Nl <| SR <| Ac (Z00 (ps := []) (x := (Vector.replicate 24 zTern)) rfl rfl rfl (by kernel_rfl) Z15 rfl) rfl <| Zj Z03 1 rfl <| Nl <| AW.ret ?_
 obtain rfl := si h
 exact Zi Tryz.results79 rfl (Z01 rfl (i := 1) rfl Z03)
def Z89 : Option Z5 :=
 some (Vector.replicate 24 zTern)
theorem Zi6 (r : Z5) (h : Z89 = some r) : PCon Tryz.prog 80 [] (rd (Z2 24 Z3) r) := by
 refine PCon.of (Con.intro0 Tryz.func80 rfl Tryz.ntmps80 rfl fun w H => ?_)
 unfold Z89 at h
 refine SR <| Ct rfl (Zq 1 rfl rfl Z36) ?_
 rintro _ ⟨g1, rfl⟩
 refine Nl <| SR <| Ac (Z00 (ps := []) (x := (Vector.replicate 24 zTern)) rfl rfl rfl (by kernel_rfl) Z36 rfl) rfl <| Zj Z04 1 rfl <| Nl <| AW.ret ?_
 obtain rfl := si h
 exact Zi Tryz.results80 rfl (Z01 rfl (i := 1) rfl Z04)
def Z7x (at11 : Int) (go1 : (List Int) → Int → Option (List Int)) (i8 : Int) : Nat → (List Int) → Int → Option (List Int)
 | 0, _, _ => none
 | m22 + 1, l20, j21 => (bif (decide (j21 > at11)) then (lget l20 (IntKind.i64.wrap (j21 - 1))).bind fun e23 => (lget l20 j21).bind fun e24 => (Z7x at11 go1 i8 m22) (List.set l20 j21.toNat e23) (IntKind.i64.wrap (j21 - 1)) else (lget l20 at11).bind fun e25 => go1 (List.set l20 at11.toNat i8) (IntKind.i64.wrap (i8 + 1)))
def Z9w (l6 : (List Int)) (t1 : (List Flow)) (i8 : Int) (go1 : (List Int) → Int → Option (List Int)) : Nat → Int → Option (List Int)
 | 0, _ => none
 | m12 + 1, at11 => (opt (decide (at11 > 0)) (lget l6 (IntKind.i64.wrap (at11 - 1)))).bind fun e13 => (opt (decide (at11 > 0)) (lget t1 e13)).bind fun e14 => (opt (decide (at11 > 0)) (lget t1 i8)).bind fun e15 => (bif ((decide (at11 > 0)) && (decide (e14.Priority < e15.Priority))) then (Z9w l6 t1 i8 go1 m12) (IntKind.i64.wrap (at11 - 1)) else (Z0u l6 [0]).bind fun l16 => Z7x at11 go1 i8 ((((IntKind.i64.wrap ((l16.length : Int) - 1)) : Int) - at11).toNat + 1) l16 (IntKind.i64.wrap ((l16.length : Int) - 1)))
def Z8i (t1 : (List Flow)) : Nat → (List Int) → Int → Option (List Int)
 | 0, _, _ => none
 | m9 + 1, l6, i8 => (bif (decide (i8 < (t1.length : Int))) then Z9w l6 t1 i8 (Z8i t1 m9) Z0y (l6.length : Int) else some l6)
def Zit (t1 : (List Flow)) : Option (List Int) :=
 Z8i t1 ((((t1.length : Int) : Int) - 0).toNat + 1) [] 0
theorem Ybc (t1 : (List Flow)) (r : (List Int)) (h : Zit t1 = some r) : PCon Tryz.prog 139 [rd (Z4 Z0f) t1] (rd (Z4 (Z0 .i64)) r) := by
 refine PCon.of (Con.intro0 Tryz.func139 rfl Tryz.ntmps139 rfl fun w H => ?_)
 unfold Zit at h
 refine SR <| Ac (Z02 (A := rd (Z4 (Z0 .i64)) []) rfl rfl Z1u) rfl <| Nl <| SR <| Ct rfl (Z4q 1001 (ps := []) (l := []) rfl rfl Z0t zr3 rfl rfl rfl rfl) ?_
 rintro _ ⟨v2, rfl⟩
 refine Aw rfl <| Nl <| AW.seq <| SR <| Ak rfl <| Nl <| AW.block <| AW.loopG (d := []) (ν := Nat × (List Int) × Int × Value) (fun n => True ∧ Z8i t1 n.1 n.2.1 n.2.2.1 = some r) (fun n => n.1) (fun n => [(0, rd (Z4 Z0f) t1), (3, Ze n.2.2.2), (4, rd (Z0 .i64) n.2.2.1)]) (fun n => [(1001, Zb n.2.2.2 3 (Z0 .i64) n.2.1)]) (((((t1.length : Int) : Int) - 0).toNat + 1), [], 0, v2) ⟨trivial, h⟩ (FX rfl) ?_
 rintro ⟨m9, l6, i8, v7⟩ ⟨hsf1, h⟩
 change True at hsf1
 change Z8i t1 m9 l6 i8 = some r at h
 change AW _ _ _ ⟨Zw [(0, rd (Z4 Z0f) t1), (3, Ze v7), (4, rd (Z0 .i64) i8)], Zx [(1001, Zb v7 3 (Z0 .i64) l6)], _⟩
 cases m9 with
 | zero => cases h
 | succ m9 =>
  unfold Z8i at h
  generalize hgo1 : Z8i t1 m9 = go1 at h
  refine AW.seq <| SR <| Md rfl <| Md rfl <| Ac (Z0x rfl rfl Z4y (vt rfl)) rfl <| Ac (Zp rfl rfl (vt rfl) (vt rfl)) rfl <| Nl <| Cn rfl (fun hc => ?_) (fun hc => ?_)
  ·have h := Zf hc h
   refine AW.skip <| AW.seq <| AW.block <| SR <| Mw rfl <| Ac (Z5q 1001 rfl rfl Z0t (vt rfl) rfl) rfl <| As rfl <| Nl <| AW.seq <| AW.block <| AW.loopG (d := []) (ν := Nat × Int) (fun n => True ∧ Z9w l6 t1 i8 go1 n.1 n.2 = some r) (fun n => n.1) (fun n => [(0, rd (Z4 Z0f) t1), (3, Ze v7), (4, rd (Z0 .i64) i8), (5, rd (Z0 .i64) n.2)]) (fun n => [(1001, Zb v7 3 (Z0 .i64) l6)]) (Z0y, (l6.length : Int)) ⟨trivial, h⟩ (FX rfl) ?_
   rintro ⟨m12, at11⟩ ⟨hsf2, h⟩
   change True at hsf2
   change Z9w l6 t1 i8 go1 m12 at11 = some r at h
   change AW _ _ _ ⟨Zw [(0, rd (Z4 Z0f) t1), (3, Ze v7), (4, rd (Z0 .i64) i8), (5, rd (Z0 .i64) at11)], Zx [(1001, Zb v7 3 (Z0 .i64) l6)], _⟩
   cases m12 with
   | zero => cases h
   | succ m12 =>
    unfold Z9w at h
    generalize hgo2 : Z9w l6 t1 i8 go1 m12 = go2 at h
    refine AW.seq <| AW.seq ?_
    obtain ⟨e13, he13, h⟩ := Z1 h
    obtain ⟨e14, he14, h⟩ := Z1 h
    obtain ⟨e15, he15, h⟩ := Z1 h
    refine AW.regionAny [⟨[5], [16], [], []⟩, ⟨[16], [17], [], []⟩, ⟨[17], [18], [], []⟩, ⟨[0, 18], [19], [], []⟩, ⟨[3, 18], [20], [], []⟩, ⟨[5, 18], [21], [], []⟩, ⟨[21, 18], [22], [], []⟩, ⟨[20, 22, 18], [23], [1001], []⟩, ⟨[23, 18], [24], [1001], []⟩, ⟨[19, 24, 18], [25], [], []⟩, ⟨[25, 18], [26], [], []⟩, ⟨[26, 18], [27], [], []⟩, ⟨[0, 18], [28], [], []⟩, ⟨[4, 18], [29], [], []⟩, ⟨[28, 29, 18], [30], [], []⟩, ⟨[30, 18], [31], [], []⟩, ⟨[31, 18], [32], [], []⟩, ⟨[27, 32, 18], [33], [], []⟩, ⟨[33, 18], [34], [], []⟩] Z05 (by kernel_rfl) <| Zu rfl <| Sc (lo [16] [] rfl fun S hs hr => Z3l rfl rfl (vh hs 16 rfl rfl) (vk rfl)) rfl <| Zu rfl <| Sc (lg [0, 18] [] rfl fun hq S hs hr => Zt (A := rd (Z4 Z0f) t1) rfl rfl (vh hs 0 rfl rfl)) rfl <| Sc (lg [3, 18] [] rfl fun hq S hs hr => Zt (A := Ze v7) rfl rfl (vh hs 3 rfl rfl)) rfl <| Sc (lg [5, 18] [] rfl fun hq S hs hr => Zt (A := rd (Z0 .i64) at11) rfl rfl (vh hs 5 rfl rfl)) rfl <| Sc (lg [21, 18] [] rfl fun hq S hs hr => Z0j rfl rfl (Zs ((hs 21 rfl).trans rfl) hq) (vk rfl)) rfl <| Sc (lg [20, 22, 18] [1001] rfl fun hq S hs hr => Z1q 1001 rfl rfl Z0t (Zs ((hs 20 rfl).trans rfl) hq) ((hr 1001 rfl).trans rfl) (Zs ((hs 22 rfl).trans rfl) hq) (Z2b he13 hq)) rfl <| Sc (lg [23, 18] [1001] rfl fun hq S hs hr => Z1g 1001 rfl rfl ty3 (Zs ((hs 23 rfl).trans rfl) hq) ((hr 1001 rfl).trans rfl) (Z0g (Z2b he13 hq)).2) rfl <| Sc (lg [19, 24, 18] [] rfl fun hq S hs hr => Z0r rfl rfl Z4y (Zs ((hs 19 rfl).trans rfl) hq) (Zs ((hs 24 rfl).trans rfl) hq) (Z2b he14 hq)) rfl <| Sc (lg [25, 18] [] rfl fun hq S hs hr => Z6x Zcw rfl rfl Zdk (Zs ((hs 25 rfl).trans rfl) hq)) rfl <| Sc (lg [26, 18] [] rfl fun hq S hs hr => Zar rfl rfl ty3 (Zs ((hs 26 rfl).trans rfl) hq)) rfl <| Sc (lg [0, 18] [] rfl fun hq S hs hr => Zt (A := rd (Z4 Z0f) t1) rfl rfl (vh hs 0 rfl rfl)) rfl <| Sc (lg [4, 18] [] rfl fun hq S hs hr => Zt (A := rd (Z0 .i64) i8) rfl rfl (vh hs 4 rfl rfl)) rfl <| Sc (lg [28, 29, 18] [] rfl fun hq S hs hr => Z0r rfl rfl Z4y (Zs ((hs 28 rfl).trans rfl) hq) (Zs ((hs 29 rfl).trans rfl) hq) (Z2b he15 hq)) rfl <| Sc (lg [30, 18] [] rfl fun hq S hs hr => Z6x Zcw rfl rfl Zdk (Zs ((hs 30 rfl).trans rfl) hq)) rfl <| Sc (lg [31, 18] [] rfl fun hq S hs hr => Zar rfl rfl ty3 (Zs ((hs 31 rfl).trans rfl) hq)) rfl <| Sc (lg [27, 32, 18] [] rfl fun hq S hs hr => Zp rfl rfl (Zs ((hs 27 rfl).trans rfl) hq) (Zs ((hs 32 rfl).trans rfl) hq)) rfl <| Sc (lo [33, 18] [] rfl fun S hs hr => Z1w rfl rfl (vh hs 18 rfl rfl) (vh hs 33 rfl rfl)) rfl <| Cn rfl (fun hc => ?_) (fun hc => ?_)
    ·have h := Zf hc h
     refine AW.skip <| AW.block <| Rg <| Md rfl <| Ac (Z0j rfl rfl (vt rfl) (vk rfl)) rfl <| As rfl <| Nl ?_
     subst hgo2
     exact ⟨(m12, (IntKind.i64.wrap (at11 - 1))), Nat.lt_succ_self _, ⟨trivial, h⟩, FX rfl⟩
    ·have h := Zg hc h
     refine AW.exit <| AW.seq ?_
     obtain ⟨l16, hl16, h⟩ := Z1 h
     refine Rg <| Mw rfl <| Ac (Z2g (ps := [(0, .const (Value.int IntKind.i64 0))]) (l := [0]) rfl rfl Z0t zr3 rfl rfl ⟨_, _, Lens.idx 1 (Z0 .i64) 0 (by decide), _, rfl, (vk rfl), rfl⟩ rfl) rfl <| Ct rfl (Z2m 1001 hl16 rfl rfl Zix (vt rfl) rfl (vt rfl)) ?_
     rintro _ ⟨v17, rfl⟩
     refine Aw rfl <| Nl <| AW.seq <| SR <| Mw rfl <| Ac (Z5q 1001 rfl rfl Z0t (vt rfl) rfl) rfl <| Ac (Z0j rfl rfl (vt rfl) (vk rfl)) rfl <| As rfl <| Nl <| AW.block <| AW.loopG (d := []) (ν := Nat × (List Int) × Int) (fun n => True ∧ Z7x at11 go1 i8 n.1 n.2.1 n.2.2 = some r) (fun n => n.1) (fun n => [(0, rd (Z4 Z0f) t1), (3, Ze v17), (4, rd (Z0 .i64) i8), (5, rd (Z0 .i64) at11), (6, rd (Z0 .i64) n.2.2)]) (fun n => [(1001, Zb v17 3 (Z0 .i64) n.2.1)]) (((((IntKind.i64.wrap ((l16.length : Int) - 1)) : Int) - at11).toNat + 1), l16, (IntKind.i64.wrap ((l16.length : Int) - 1))) ⟨trivial, h⟩ (FX rfl) ?_
     rintro ⟨m22, l20, j21⟩ ⟨hsf3, h⟩
     change True at hsf3
     change Z7x at11 go1 i8 m22 l20 j21 = some r at h
     change AW _ _ _ ⟨Zw [(0, rd (Z4 Z0f) t1), (3, Ze v17), (4, rd (Z0 .i64) i8), (5, rd (Z0 .i64) at11), (6, rd (Z0 .i64) j21)], Zx [(1001, Zb v17 3 (Z0 .i64) l20)], _⟩
     cases m22 with
     | zero => cases h
     | succ m22 =>
      unfold Z7x at h
      generalize hgo3 : Z7x at11 go1 i8 m22 = go3 at h
      refine AW.seq <| SR <| Md rfl <| Md rfl <| Ac (Z3l rfl rfl (vt rfl) (vt rfl)) rfl <| Nl <| Cn rfl (fun hc => ?_) (fun hc => ?_)
      ·have h := Zf hc h
       refine AW.skip <| AW.seq <| AW.block ?_
       obtain ⟨e23, he23, h⟩ := Z1 h
       obtain ⟨e24, he24, h⟩ := Z1 h
       refine Rg <| Mw rfl <| Md rfl <| Mw rfl <| Md rfl <| Ac (Z0j rfl rfl (vt rfl) (vk rfl)) rfl <| Ac (Z1q 1001 rfl rfl Z0t (vt rfl) rfl (vt rfl) he23) rfl <| Ac (Z1g 1001 rfl rfl ty3 (vt rfl) rfl (Z0g he23).2) rfl <| Ac (Z1q 1001 rfl rfl Z0t (vt rfl) rfl (vt rfl) he24) rfl <| Ac (Z2h 1001 rfl rfl ty3 (vt rfl) rfl (Z0g he24).2 (vt rfl)) rfl <| Nl <| Rg <| Md rfl <| Ac (Z0j rfl rfl (vt rfl) (vk rfl)) rfl <| As rfl <| Nl ?_
       subst hgo3
       exact ⟨(m22, (List.set l20 j21.toNat e23), (IntKind.i64.wrap (j21 - 1))), Nat.lt_succ_self _, ⟨trivial, h⟩, FX rfl⟩
      ·have h := Zg hc h
       refine AW.exit ?_
       obtain ⟨e25, he25, h⟩ := Z1 h
       refine Rg <| Mw rfl <| Md rfl <| Md rfl <| Ac (Z1q 1001 rfl rfl Z0t (vt rfl) rfl (vt rfl) he25) rfl <| Ac (Z2h 1001 rfl rfl ty3 (vt rfl) rfl (Z0g he25).2 (vt rfl)) rfl <| Nl <| Rg <| Md rfl <| Ac (Z08 rfl rfl (vt rfl) (vk rfl)) rfl <| As rfl <| Nl ?_
       subst hgo1
       exact ⟨(m9, (List.set l20 at11.toNat i8), (IntKind.i64.wrap (i8 + 1)), v17), Nat.lt_succ_self _, ⟨trivial, h⟩, FX rfl⟩
  ·have h := Zg hc h
   refine AW.exit <| SR <| Mw rfl <| Aw rfl <| Nl <| AW.freezes [2, 3, 60] 1001 rfl ⟨rfl, rfl, rfl, trivial⟩ rfl <| AW.ret ?_
   obtain rfl := si h
   exact Zi Tryz.results139 rfl (Z8 rfl)
def Za0 (f1 : Int) : Option Bool :=
 some ((decide (f1 ≥ 0)) && (decide (f1 < 24)))
theorem Zpk (f1 : Int) (r : Bool) (h : Za0 f1 = some r) : PCon Tryz.prog 225 [rd (Z0 .i64) f1] (rd Zc r) := by
 refine PCon.of (Con.intro0 Tryz.func225 rfl Tryz.ntmps225 rfl fun w H => ?_)
 unfold Za0 at h
 refine SR <| Ab rfl <| Nl <| SR <| Md rfl <| Ac (Z4e rfl rfl (vt rfl) (vk rfl)) rfl <| Md rfl <| Gd rfl (fun hq => Zt (A := rd (Z0 .i64) f1) rfl rfl (vt rfl)) <| Gd rfl (fun hq => Zp rfl rfl (Zs rfl hq) (vk rfl)) <| Ac (Z1w rfl rfl (vt rfl) (vt rfl)) rfl <| As rfl <| Nl <| AW.ret ?_
 obtain rfl := si h
 exact Zi Tryz.results225 rfl (Z8 rfl)
def Znz (f1 : Int) : Option (ByteArray × Int × Int × Bool) :=
 (bif (decide (f1 = 12)) then some ({ data := #[116, 99, 112, 95, 115, 114, 99] }, 13, 16, false) else (bif (decide (f1 = 13)) then some ({ data := #[116, 99, 112, 95, 100, 115, 116] }, 14, 16, false) else (bif (decide (f1 = 14)) then some ({ data := #[117, 100, 112, 95, 115, 114, 99] }, 15, 16, false) else (bif (decide (f1 = 15)) then some ({ data := #[117, 100, 112, 95, 100, 115, 116] }, 16, 16, false) else (bif (decide (f1 = 16)) then some ({ data := #[105, 99, 109, 112, 118, 52, 95, 116, 121, 112, 101] }, 19, 8, false) else (bif (decide (f1 = 17)) then some ({ data := #[105, 99, 109, 112, 118, 52, 95, 99, 111, 100, 101] }, 20, 8, false) else (bif (decide (f1 = 18)) then some ({ data := #[97, 114, 112, 95, 111, 112] }, 21, 16, false) else (bif (decide (f1 = 19)) then some ({ data := #[97, 114, 112, 95, 115, 112, 97] }, 22, 32, true) else (bif (decide (f1 = 20)) then some ({ data := #[97, 114, 112, 95, 116, 112, 97] }, 23, 32, true) else (bif (decide (f1 = 21)) then some ({ data := #[105, 112, 118, 54, 95, 115, 114, 99] }, 26, 128, true) else (bif (decide (f1 = 22)) then some ({ data := #[105, 112, 118, 54, 95, 100, 115, 116] }, 27, 128, true) else (bif (decide (f1 = 23)) then some ({ data := #[109, 112, 108, 115, 95, 108, 97, 98, 101, 108] }, 34, 20, false) else some ({ data := #[] }, (-1), 0, false)))))))))))))
theorem Y6p (f1 : Int) (r : (ByteArray × Int × Int × Bool)) (h : Znz f1 = some r) : PCon Tryz.prog 342 [rd (Z0 .i64) f1] (Z9d (rd Z1j r.1) (rd (Z0 .i64) r.2.1) (rd (Z0 .i64) r.2.2.1) (rd Zc r.2.2.2)) := by
 refine PCon.of (Con.intro0 Tryz.func342 rfl Tryz.ntmps342 rfl fun w H => ?_)
 unfold Znz at h
 refine SR <| Ac (Z02 (A := rd Z1j { data := #[] }) rfl rfl (vs (by decide))) rfl <| Ak rfl <| Ak rfl <| Ab rfl <| Nl <| AW.seq <| SR <| Md rfl <| Nl <| AW.block <| SR <| Ac (Z0i rfl rfl (vt rfl) (vk rfl)) rfl <| As rfl <| Nl <| Cn rfl (fun hc => ?_) (fun hc => ?_)
 ·have h := Zf hc h
  refine SR <| Ac (Z02 (A := rd Z1j { data := #[116, 99, 112, 95, 115, 114, 99] }) rfl rfl (vs (by decide))) rfl <| Ak rfl <| Ak rfl <| Ab rfl <| Nl <| AW.ret ?_
  obtain rfl := si h
  exact Z2l Tryz.results342 rfl (Z8 rfl) (Z8 rfl) (Z8 rfl) (Z8 rfl)
 ·have h := Zg hc h
  refine SR <| Ac (Z0i rfl rfl (vt rfl) (vk rfl)) rfl <| As rfl <| Nl <| Cn rfl (fun hc => ?_) (fun hc => ?_)
  ·have h := Zf hc h
   refine SR <| Ac (Z02 (A := rd Z1j { data := #[116, 99, 112, 95, 100, 115, 116] }) rfl rfl (vs (by decide))) rfl <| Ak rfl <| Ak rfl <| Ab rfl <| Nl <| AW.ret ?_
   obtain rfl := si h
   exact Z2l Tryz.results342 rfl (Z8 rfl) (Z8 rfl) (Z8 rfl) (Z8 rfl)
  ·have h := Zg hc h
   refine SR <| Ac (Z0i rfl rfl (vt rfl) (vk rfl)) rfl <| As rfl <| Nl <| Cn rfl (fun hc => ?_) (fun hc => ?_)
   ·have h := Zf hc h
    refine SR <| Ac (Z02 (A := rd Z1j { data := #[117, 100, 112, 95, 115, 114, 99] }) rfl rfl (vs (by decide))) rfl <| Ak rfl <| Ak rfl <| Ab rfl <| Nl <| AW.ret ?_
    obtain rfl := si h
    exact Z2l Tryz.results342 rfl (Z8 rfl) (Z8 rfl) (Z8 rfl) (Z8 rfl)
   ·have h := Zg hc h
    refine SR <| Ac (Z0i rfl rfl (vt rfl) (vk rfl)) rfl <| As rfl <| Nl <| Cn rfl (fun hc => ?_) (fun hc => ?_)
    ·have h := Zf hc h
     refine SR <| Ac (Z02 (A := rd Z1j { data := #[117, 100, 112, 95, 100, 115, 116] }) rfl rfl (vs (by decide))) rfl <| Ak rfl <| Ak rfl <| Ab rfl <| Nl <| AW.ret ?_
     obtain rfl := si h
     exact Z2l Tryz.results342 rfl (Z8 rfl) (Z8 rfl) (Z8 rfl) (Z8 rfl)
    ·have h := Zg hc h
     refine SR <| Ac (Z0i rfl rfl (vt rfl) (vk rfl)) rfl <| As rfl <| Nl <| Cn rfl (fun hc => ?_) (fun hc => ?_)
     ·have h := Zf hc h
      refine SR <| Ac (Z02 (A := rd Z1j { data := #[105, 99, 109, 112, 118, 52, 95, 116, 121, 112, 101] }) rfl rfl (vs (by decide))) rfl <| Ak rfl <| Ak rfl <| Ab rfl <| Nl <| AW.ret ?_
      obtain rfl := si h
      exact Z2l Tryz.results342 rfl (Z8 rfl) (Z8 rfl) (Z8 rfl) (Z8 rfl)
     ·have h := Zg hc h
      refine SR <| Ac (Z0i rfl rfl (vt rfl) (vk rfl)) rfl <| As rfl <| Nl <| Cn rfl (fun hc => ?_) (fun hc => ?_)
      ·have h := Zf hc h
       refine SR <| Ac (Z02 (A := rd Z1j { data := #[105, 99, 109, 112, 118, 52, 95, 99, 111, 100, 101] }) rfl rfl (vs (by decide))) rfl <| Ak rfl <| Ak rfl <| Ab rfl <| Nl <| AW.ret ?_
       obtain rfl := si h
       exact Z2l Tryz.results342 rfl (Z8 rfl) (Z8 rfl) (Z8 rfl) (Z8 rfl)
      ·have h := Zg hc h
       refine SR <| Ac (Z0i rfl rfl (vt rfl) (vk rfl)) rfl <| As rfl <| Nl <| Cn rfl (fun hc => ?_) (fun hc => ?_)
       ·have h := Zf hc h
        refine SR <| Ac (Z02 (A := rd Z1j { data := #[97, 114, 112, 95, 111, 112] }) rfl rfl (vs (by decide))) rfl <| Ak rfl <| Ak rfl <| Ab rfl <| Nl <| AW.ret ?_
        obtain rfl := si h
        exact Z2l Tryz.results342 rfl (Z8 rfl) (Z8 rfl) (Z8 rfl) (Z8 rfl)
       ·have h := Zg hc h
        refine SR <| Ac (Z0i rfl rfl (vt rfl) (vk rfl)) rfl <| As rfl <| Nl <| Cn rfl (fun hc => ?_) (fun hc => ?_)
        ·have h := Zf hc h
         refine SR <| Ac (Z02 (A := rd Z1j { data := #[97, 114, 112, 95, 115, 112, 97] }) rfl rfl (vs (by decide))) rfl <| Ak rfl <| Ak rfl <| Ab rfl <| Nl <| AW.ret ?_
         obtain rfl := si h
         exact Z2l Tryz.results342 rfl (Z8 rfl) (Z8 rfl) (Z8 rfl) (Z8 rfl)
        ·have h := Zg hc h
         refine SR <| Ac (Z0i rfl rfl (vt rfl) (vk rfl)) rfl <| As rfl <| Nl <| Cn rfl (fun hc => ?_) (fun hc => ?_)
         ·have h := Zf hc h
          refine SR <| Ac (Z02 (A := rd Z1j { data := #[97, 114, 112, 95, 116, 112, 97] }) rfl rfl (vs (by decide))) rfl <| Ak rfl <| Ak rfl <| Ab rfl <| Nl <| AW.ret ?_
          obtain rfl := si h
          exact Z2l Tryz.results342 rfl (Z8 rfl) (Z8 rfl) (Z8 rfl) (Z8 rfl)
         ·have h := Zg hc h
          refine SR <| Ac (Z0i rfl rfl (vt rfl) (vk rfl)) rfl <| As rfl <| Nl <| Cn rfl (fun hc => ?_) (fun hc => ?_)
          ·have h := Zf hc h
           refine SR <| Ac (Z02 (A := rd Z1j { data := #[105, 112, 118, 54, 95, 115, 114, 99] }) rfl rfl (vs (by decide))) rfl <| Ak rfl <| Ak rfl <| Ab rfl <| Nl <| AW.ret ?_
           obtain rfl := si h
           exact Z2l Tryz.results342 rfl (Z8 rfl) (Z8 rfl) (Z8 rfl) (Z8 rfl)
          ·have h := Zg hc h
           refine SR <| Ac (Z0i rfl rfl (vt rfl) (vk rfl)) rfl <| As rfl <| Nl <| Cn rfl (fun hc => ?_) (fun hc => ?_)
           ·have h := Zf hc h
            refine SR <| Ac (Z02 (A := rd Z1j { data := #[105, 112, 118, 54, 95, 100, 115, 116] }) rfl rfl (vs (by decide))) rfl <| Ak rfl <| Ak rfl <| Ab rfl <| Nl <| AW.ret ?_
            obtain rfl := si h
            exact Z2l Tryz.results342 rfl (Z8 rfl) (Z8 rfl) (Z8 rfl) (Z8 rfl)
           ·have h := Zg hc h
            refine SR <| Ac (Z0i rfl rfl (vt rfl) (vk rfl)) rfl <| As rfl <| Nl <| Cn rfl (fun hc => ?_) (fun hc => ?_)
            ·have h := Zf hc h
             refine SR <| Ac (Z02 (A := rd Z1j { data := #[109, 112, 108, 115, 95, 108, 97, 98, 101, 108] }) rfl rfl (vs (by decide))) rfl <| Ak rfl <| Ak rfl <| Ab rfl <| Nl <| AW.ret ?_
             obtain rfl := si h
             exact Z2l Tryz.results342 rfl (Z8 rfl) (Z8 rfl) (Z8 rfl) (Z8 rfl)
            ·have h := Zg hc h
             refine AW.skip <| SR <| Ac (Z02 (A := rd Z1j { data := #[] }) rfl rfl (vs (by decide))) rfl <| Ak rfl <| Ak rfl <| Ab rfl <| Nl <| AW.ret ?_
             obtain rfl := si h
             exact Z2l Tryz.results342 rfl (Z8 rfl) (Z8 rfl) (Z8 rfl) (Z8 rfl)
def Zp7 (f1 : Int) : Option (ByteArray × Int × Int × Bool) :=
 (bif (decide (f1 = 0)) then some ({ data := #[105, 110, 95, 112, 111, 114, 116] }, 0, 32, false) else (bif (decide (f1 = 1)) then some ({ data := #[109, 101, 116, 97, 100, 97, 116, 97] }, 2, 64, true) else (bif (decide (f1 = 2)) then some ({ data := #[101, 116, 104, 95, 100, 115, 116] }, 3, 48, true) else (bif (decide (f1 = 3)) then some ({ data := #[101, 116, 104, 95, 115, 114, 99] }, 4, 48, true) else (bif (decide (f1 = 4)) then some ({ data := #[101, 116, 104, 95, 116, 121, 112, 101] }, 5, 16, false) else (bif (decide (f1 = 5)) then some ({ data := #[118, 108, 97, 110, 95, 118, 105, 100] }, 6, 13, true) else (bif (decide (f1 = 6)) then some ({ data := #[118, 108, 97, 110, 95, 112, 99, 112] }, 7, 3, false) else (bif (decide (f1 = 7)) then some ({ data := #[105, 112, 95, 100, 115, 99, 112] }, 8, 6, false) else (bif (decide (f1 = 8)) then some ({ data := #[105, 112, 95, 101, 99, 110] }, 9, 2, false) else (bif (decide (f1 = 9)) then some ({ data := #[105, 112, 95, 112, 114, 111, 116, 111] }, 10, 8, false) else (bif (decide (f1 = 10)) then some ({ data := #[105, 112, 118, 52, 95, 115, 114, 99] }, 11, 32, true) else (bif (decide (f1 = 11)) then some ({ data := #[105, 112, 118, 52, 95, 100, 115, 116] }, 12, 32, true) else (Znz f1).bind fun x2 => some (x2.1, x2.2.1, x2.2.2.1, x2.2.2.2)))))))))))))
theorem Yez (f1 : Int) (r : (ByteArray × Int × Int × Bool)) (h : Zp7 f1 = some r) : PCon Tryz.prog 334 [rd (Z0 .i64) f1] (Z9d (rd Z1j r.1) (rd (Z0 .i64) r.2.1) (rd (Z0 .i64) r.2.2.1) (rd Zc r.2.2.2)) := by
 refine PCon.of (Con.intro0 Tryz.func334 rfl Tryz.ntmps334 rfl fun w H => ?_)
 unfold Zp7 at h
 refine SR <| Ac (Z02 (A := rd Z1j { data := #[] }) rfl rfl (vs (by decide))) rfl <| Ak rfl <| Ak rfl <| Ab rfl <| Nl <| AW.seq <| SR <| Md rfl <| Nl <| AW.block <| SR <| Ac (Z0i rfl rfl (vt rfl) (vk rfl)) rfl <| As rfl <| Nl <| Cn rfl (fun hc => ?_) (fun hc => ?_)
 ·have h := Zf hc h
  refine SR <| Ac (Z02 (A := rd Z1j { data := #[105, 110, 95, 112, 111, 114, 116] }) rfl rfl (vs (by decide))) rfl <| Ak rfl <| Ak rfl <| Ab rfl <| Nl <| AW.ret ?_
  obtain rfl := si h
  exact Z2l Tryz.results334 rfl (Z8 rfl) (Z8 rfl) (Z8 rfl) (Z8 rfl)
 ·have h := Zg hc h
  refine SR <| Ac (Z0i rfl rfl (vt rfl) (vk rfl)) rfl <| As rfl <| Nl <| Cn rfl (fun hc => ?_) (fun hc => ?_)
  ·have h := Zf hc h
   refine SR <| Ac (Z02 (A := rd Z1j { data := #[109, 101, 116, 97, 100, 97, 116, 97] }) rfl rfl (vs (by decide))) rfl <| Ak rfl <| Ak rfl <| Ab rfl <| Nl <| AW.ret ?_
   obtain rfl := si h
   exact Z2l Tryz.results334 rfl (Z8 rfl) (Z8 rfl) (Z8 rfl) (Z8 rfl)
  ·have h := Zg hc h
   refine SR <| Ac (Z0i rfl rfl (vt rfl) (vk rfl)) rfl <| As rfl <| Nl <| Cn rfl (fun hc => ?_) (fun hc => ?_)
   ·have h := Zf hc h
    refine SR <| Ac (Z02 (A := rd Z1j { data := #[101, 116, 104, 95, 100, 115, 116] }) rfl rfl (vs (by decide))) rfl <| Ak rfl <| Ak rfl <| Ab rfl <| Nl <| AW.ret ?_
    obtain rfl := si h
    exact Z2l Tryz.results334 rfl (Z8 rfl) (Z8 rfl) (Z8 rfl) (Z8 rfl)
   ·have h := Zg hc h
    refine SR <| Ac (Z0i rfl rfl (vt rfl) (vk rfl)) rfl <| As rfl <| Nl <| Cn rfl (fun hc => ?_) (fun hc => ?_)
    ·have h := Zf hc h
     refine SR <| Ac (Z02 (A := rd Z1j { data := #[101, 116, 104, 95, 115, 114, 99] }) rfl rfl (vs (by decide))) rfl <| Ak rfl <| Ak rfl <| Ab rfl <| Nl <| AW.ret ?_
     obtain rfl := si h
     exact Z2l Tryz.results334 rfl (Z8 rfl) (Z8 rfl) (Z8 rfl) (Z8 rfl)
    ·have h := Zg hc h
     refine SR <| Ac (Z0i rfl rfl (vt rfl) (vk rfl)) rfl <| As rfl <| Nl <| Cn rfl (fun hc => ?_) (fun hc => ?_)
     ·have h := Zf hc h
      refine SR <| Ac (Z02 (A := rd Z1j { data := #[101, 116, 104, 95, 116, 121, 112, 101] }) rfl rfl (vs (by decide))) rfl <| Ak rfl <| Ak rfl <| Ab rfl <| Nl <| AW.ret ?_
      obtain rfl := si h
      exact Z2l Tryz.results334 rfl (Z8 rfl) (Z8 rfl) (Z8 rfl) (Z8 rfl)
     ·have h := Zg hc h
      refine SR <| Ac (Z0i rfl rfl (vt rfl) (vk rfl)) rfl <| As rfl <| Nl <| Cn rfl (fun hc => ?_) (fun hc => ?_)
      ·have h := Zf hc h
       refine SR <| Ac (Z02 (A := rd Z1j { data := #[118, 108, 97, 110, 95, 118, 105, 100] }) rfl rfl (vs (by decide))) rfl <| Ak rfl <| Ak rfl <| Ab rfl <| Nl <| AW.ret ?_
       obtain rfl := si h
       exact Z2l Tryz.results334 rfl (Z8 rfl) (Z8 rfl) (Z8 rfl) (Z8 rfl)
      ·have h := Zg hc h
       refine SR <| Ac (Z0i rfl rfl (vt rfl) (vk rfl)) rfl <| As rfl <| Nl <| Cn rfl (fun hc => ?_) (fun hc => ?_)
       ·have h := Zf hc h
        refine SR <| Ac (Z02 (A := rd Z1j { data := #[118, 108, 97, 110, 95, 112, 99, 112] }) rfl rfl (vs (by decide))) rfl <| Ak rfl <| Ak rfl <| Ab rfl <| Nl <| AW.ret ?_
        obtain rfl := si h
        exact Z2l Tryz.results334 rfl (Z8 rfl) (Z8 rfl) (Z8 rfl) (Z8 rfl)
       ·have h := Zg hc h
        refine SR <| Ac (Z0i rfl rfl (vt rfl) (vk rfl)) rfl <| As rfl <| Nl <| Cn rfl (fun hc => ?_) (fun hc => ?_)
        ·have h := Zf hc h
         refine SR <| Ac (Z02 (A := rd Z1j { data := #[105, 112, 95, 100, 115, 99, 112] }) rfl rfl (vs (by decide))) rfl <| Ak rfl <| Ak rfl <| Ab rfl <| Nl <| AW.ret ?_
         obtain rfl := si h
         exact Z2l Tryz.results334 rfl (Z8 rfl) (Z8 rfl) (Z8 rfl) (Z8 rfl)
        ·have h := Zg hc h
         refine SR <| Ac (Z0i rfl rfl (vt rfl) (vk rfl)) rfl <| As rfl <| Nl <| Cn rfl (fun hc => ?_) (fun hc => ?_)
         ·have h := Zf hc h
          refine SR <| Ac (Z02 (A := rd Z1j { data := #[105, 112, 95, 101, 99, 110] }) rfl rfl (vs (by decide))) rfl <| Ak rfl <| Ak rfl <| Ab rfl <| Nl <| AW.ret ?_
          obtain rfl := si h
          exact Z2l Tryz.results334 rfl (Z8 rfl) (Z8 rfl) (Z8 rfl) (Z8 rfl)
         ·have h := Zg hc h
          refine SR <| Ac (Z0i rfl rfl (vt rfl) (vk rfl)) rfl <| As rfl <| Nl <| Cn rfl (fun hc => ?_) (fun hc => ?_)
          ·have h := Zf hc h
           refine SR <| Ac (Z02 (A := rd Z1j { data := #[105, 112, 95, 112, 114, 111, 116, 111] }) rfl rfl (vs (by decide))) rfl <| Ak rfl <| Ak rfl <| Ab rfl <| Nl <| AW.ret ?_
           obtain rfl := si h
           exact Z2l Tryz.results334 rfl (Z8 rfl) (Z8 rfl) (Z8 rfl) (Z8 rfl)
          ·have h := Zg hc h
           refine SR <| Ac (Z0i rfl rfl (vt rfl) (vk rfl)) rfl <| As rfl <| Nl <| Cn rfl (fun hc => ?_) (fun hc => ?_)
           ·have h := Zf hc h
            refine SR <| Ac (Z02 (A := rd Z1j { data := #[105, 112, 118, 52, 95, 115, 114, 99] }) rfl rfl (vs (by decide))) rfl <| Ak rfl <| Ak rfl <| Ab rfl <| Nl <| AW.ret ?_
            obtain rfl := si h
            exact Z2l Tryz.results334 rfl (Z8 rfl) (Z8 rfl) (Z8 rfl) (Z8 rfl)
           ·have h := Zg hc h
            refine SR <| Ac (Z0i rfl rfl (vt rfl) (vk rfl)) rfl <| As rfl <| Nl <| Cn rfl (fun hc => ?_) (fun hc => ?_)
            ·have h := Zf hc h
             refine SR <| Ac (Z02 (A := rd Z1j { data := #[105, 112, 118, 52, 95, 100, 115, 116] }) rfl rfl (vs (by decide))) rfl <| Ak rfl <| Ak rfl <| Ab rfl <| Nl <| AW.ret ?_
             obtain rfl := si h
             exact Z2l Tryz.results334 rfl (Z8 rfl) (Z8 rfl) (Z8 rfl) (Z8 rfl)
            ·have h := Zg hc h
             refine AW.skip <| AW.seq ?_
             obtain ⟨x2, hx2, h⟩ := Z1 h
             refine Rg <| Md rfl <| Cl [31] (Y6p _ _ hx2) Y7r rfl <| Ac (Zwx rfl rfl (vt rfl)) rfl <| Ac (Zy8 rfl rfl (vt rfl)) rfl <| Ac (Zv0 rfl rfl (vt rfl)) rfl <| Ac (Zwy rfl rfl (vt rfl)) rfl <| As rfl <| As rfl <| As rfl <| As rfl <| Nl <| AW.ret ?_
             obtain rfl := si h
             exact Z2l Tryz.results334 rfl (Z8 rfl) (Z8 rfl) (Z8 rfl) (Z8 rfl)
def Zna (f1 : Int) : Option Int :=
 (Zp7 f1).bind fun x2 => some x2.2.2.1
theorem Y3z (f1 : Int) (r : Int) (h : Zna f1 = some r) : PCon Tryz.prog 308 [rd (Z0 .i64) f1] (rd (Z0 .i64) r) := by
 refine PCon.of (Con.intro0 Tryz.func308 rfl Tryz.ntmps308 rfl fun w H => ?_)
 unfold Zna at h
 refine SR <| Ak rfl <| Nl <| AW.seq ?_
 obtain ⟨x2, hx2, h⟩ := Z1 h
 refine Rg <| Md rfl <| Cl [8] (Yez _ _ hx2) Y67 rfl <| Ac (Zt (A := Z9d (rd Z1j x2.1) (rd (Z0 .i64) x2.2.1) (rd (Z0 .i64) x2.2.2.1) (rd Zc x2.2.2.2)) rfl rfl (vt rfl)) rfl <| Ac (Zwx rfl rfl (vt rfl)) rfl <| Ac (Zy8 rfl rfl (vt rfl)) rfl <| Ac (Zv0 rfl rfl (vt rfl)) rfl <| Ac (Zwy rfl rfl (vt rfl)) rfl <| As rfl <| As rfl <| As rfl <| As rfl <| Nl <| SR <| Md rfl <| As rfl <| Nl <| AW.ret ?_
 obtain rfl := si h
 exact Zi Tryz.results308 rfl (Z8 rfl)
end Go.Proofs.YtknpgojdkobgjaaGreat.W
