/- A part of the proof. -/
import Derived.Test.YtknpgojdkobgjaaGreatG1
set_option linter.unusedVariables false
set_option maxRecDepth 4000
set_option linter.unusedSimpArgs false
namespace Go.Proofs.YtknpgojdkobgjaaGreat.W
open Go Go.Wb
theorem Zmv : Ent Tryz.prog 309 := Ent.mk Tryz.func309 rfl rfl
theorem Zh8 : Ent Tryz.prog 187 := Ent.mk Tryz.func187 rfl rfl
theorem Znj : Ent Tryz.prog 225 := Ent.mk Tryz.func225 rfl rfl
theorem Yej : Ent Tryz.prog 308 := Ent.mk Tryz.func308 rfl rfl
theorem Znk : Ent Tryz.prog 307 := Ent.mk Tryz.func307 rfl rfl
theorem Zx9 : Ent Tryz.prog 271 := Ent.mk Tryz.func271 rfl rfl
theorem Zkw : Ent Tryz.prog 189 := Ent.mk Tryz.func189 rfl rfl
theorem Zja : Ent Tryz.prog 144 := Ent.mk Tryz.func144 rfl rfl
theorem Ya8 : Ent Tryz.prog 210 := Ent.mk Tryz.func210 rfl rfl
theorem e83 : Ent Tryz.prog 83 := Ent.mk Tryz.func83 rfl rfl
def Z8c (i1 : Int) : Option Wide :=
 (bif ((decide (i1 < 0)) || (decide (i1 > 127))) then some (⟨0, 0⟩ : Wide) else (bif (decide (i1 < 64)) then (Z9h (1 : BitVec 64) ((BitVec.ofInt 64 i1).toNat : Int)).bind fun q3 => some (⟨0, q3⟩ : Wide) else (Z9h (1 : BitVec 64) ((BitVec.ofInt 64 (IntKind.i64.wrap (i1 - 64))).toNat : Int)).bind fun q4 => some (⟨q4, 0⟩ : Wide)))
theorem Zky (i1 : Int) (r : Wide) (h : Z8c i1 = some r) : PCon Tryz.prog 309 [rd (Z0 .i64) i1] (rd Zn r) := by
 refine PCon.of (Con.intro0 Tryz.func309 rfl Tryz.ntmps309 rfl fun w H => ?_)
 unfold Z8c at h
 refine SR <| Ct rfl (Zm 3 rfl rfl Z1n) ?_
 rintro _ ⟨g2, rfl⟩
 refine Nl <| AW.seq <| AW.block <| SR <| Md rfl <| Ac (Zl rfl rfl (vt rfl) (vk rfl)) rfl <| Md rfl <| Gd rfl (fun hq => Zs (A := rd (Z0 .i64) i1) rfl rfl (vt rfl)) <| Gd rfl (fun hq => Z3b rfl rfl (Zj rfl hq) (vk rfl)) <| Ac (Zek rfl rfl (vt rfl) (vt rfl)) rfl <| As rfl <| Nl <| Cn rfl (fun hc => ?_) (fun hc => ?_)
 ·have h := Ze hc h
  refine SR <| Ac (Z01 (ps := []) (x := (⟨0, 0⟩ : Wide)) rfl rfl rfl (by kernel_rfl) Z1n rfl) rfl <| Zh Zt 3 rfl <| Nl <| AW.ret ?_
  obtain rfl := si h
  exact Zg Tryz.results309 rfl (Z04 rfl (i := 3) rfl Zt)
 ·have h := Zf hc h
  refine SR <| Md rfl <| Ac (Zl rfl rfl (vt rfl) (vk rfl)) rfl <| As rfl <| Nl <| Cn rfl (fun hc => ?_) (fun hc => ?_)
  ·have h := Ze hc h
   refine AW.seq ?_
   obtain ⟨q3, hq3, h⟩ := Z1 h
   refine Rg <| Md rfl <| Ac (Z7l rfl rfl us3 Z6j (vt rfl)) rfl <| Ac (Znc rfl rfl (vku (1 : BitVec 64) rfl) (Z49 (vt rfl)) hq3) rfl <| Ac (Z01 (ps := [(1, .tmp 16)]) (x := (⟨0, q3⟩ : Wide)) rfl rfl rfl (by kernel_rfl) Z1n ⟨_, _, Z21, _, by kernel_rfl, (vt rfl), rfl⟩) rfl <| Zh Zt 3 rfl <| Nl <| AW.ret ?_
   obtain rfl := si h
   exact Zg Tryz.results309 rfl (Z04 rfl (i := 3) rfl Zt)
  ·have h := Zf hc h
   refine AW.skip <| AW.seq ?_
   obtain ⟨q4, hq4, h⟩ := Z1 h
   refine Rg <| Md rfl <| Ac (Z0n rfl rfl (vt rfl) (vk rfl)) rfl <| Ac (Z7l rfl rfl us3 Z6j (vt rfl)) rfl <| Ac (Znc rfl rfl (vku (1 : BitVec 64) rfl) (Z49 (vt rfl)) hq4) rfl <| Ac (Z01 (ps := [(0, .tmp 21)]) (x := (⟨q4, 0⟩ : Wide)) rfl rfl rfl (by kernel_rfl) Z1n ⟨_, _, Z22, _, by kernel_rfl, (vt rfl), rfl⟩) rfl <| Zh Zt 3 rfl <| Nl <| AW.ret ?_
   obtain rfl := si h
   exact Zg Tryz.results309 rfl (Z04 rfl (i := 3) rfl Zt)
def Zad (a1 : Wide) (b2 : Wide) : Option Wide :=
 some (⟨(a1.Hi ||| b2.Hi), (a1.Lo ||| b2.Lo)⟩ : Wide)
theorem Zi2 (a1 : Wide) (b2 : Wide) (r : Wide) (h : Zad a1 b2 = some r) : PCon Tryz.prog 187 [rd Zn a1, rd Zn b2] (rd Zn r) := by
 refine PCon.of (Con.intro0 Tryz.func187 rfl Tryz.ntmps187 rfl fun w H => ?_)
 unfold Zad at h
 refine SR <| Ct rfl (Zo 3 rfl rfl (vt rfl)) ?_
 rintro _ ⟨g3, rfl⟩
 refine Ct rfl (Zo 4 rfl rfl (vt rfl)) ?_
 rintro _ ⟨g4, rfl⟩
 refine Ct rfl (Zm 5 rfl rfl Z1n) ?_
 rintro _ ⟨g5, rfl⟩
 refine Nl <| SR <| Zp Z22 Z3h rfl <| Ld Z18 3 rfl <| Zp Z22 Z3h rfl <| Ld Z18 4 rfl <| Ac (Zjz rfl rfl (vt rfl) (vt rfl)) rfl <| Zp Z21 Z3i rfl <| Ld Z18 3 rfl <| Zp Z21 Z3i rfl <| Ld Z18 4 rfl <| Ac (Zjz rfl rfl (vt rfl) (vt rfl)) rfl <| Ac (Z01 (ps := [(0, .tmp 9), (1, .tmp 14)]) (x := (⟨(a1.Hi ||| b2.Hi), (a1.Lo ||| b2.Lo)⟩ : Wide)) rfl rfl rfl (by kernel_rfl) Z1n ⟨_, _, Z22, _, by kernel_rfl, (vt rfl), _, _, Z21, _, by kernel_rfl, (vt rfl), rfl⟩) rfl <| Zh Zt 5 rfl <| Nl <| AW.ret ?_
 obtain rfl := si h
 exact Zg Tryz.results187 rfl (Z04 rfl (i := 5) rfl Zt)
def Zdh (n1 : Int) : Nat → Wide → Int → Option Wide
 | 0, _, _ => none
 | m8 + 1, b6, i7 => (bif ((decide (i7 < n1)) && (decide (i7 < 128))) then (Z8c i7).bind fun x9 => (Zad b6 x9).bind fun x10 => (Zdh n1 m8) x10 (IntKind.i64.wrap (i7 + 1)) else some b6)
def Z9o (n1 : Int) : Option Wide :=
 Zdh n1 Z0x (⟨0, 0⟩ : Wide) 0
theorem Zoo (n1 : Int) (r : Wide) (h : Z9o n1 = some r) : PCon Tryz.prog 307 [rd (Z0 .i64) n1] (rd Zn r) := by
 refine PCon.of (Con.intro0 Tryz.func307 rfl Tryz.ntmps307 rfl fun w H => ?_)
 unfold Z9o at h
 refine SR <| Ct rfl (Zm 3 rfl rfl Z1n) ?_
 rintro _ ⟨g2, rfl⟩
 refine Nl <| SR <| Ac (Z01 (ps := []) (x := (⟨0, 0⟩ : Wide)) rfl rfl rfl (by kernel_rfl) Z1n rfl) rfl <| Ct rfl (Zm 4 rfl rfl Z1n) ?_
 rintro _ ⟨g3, rfl⟩
 refine Zh Zt 4 rfl <| Nl <| AW.seq <| SR <| Ak rfl <| Nl <| AW.block <| AW.loopG (d := []) (ν := Nat × Wide × Int) (fun n => True ∧ Zdh n1 n.1 n.2.1 n.2.2 = some r) (fun n => n.1) (fun n => [(0, rd (Z0 .i64) n1), (2, Z7 g2 (Lens.id Zn)), (3, Z7 g3 (Lens.id Zn)), (4, rd (Z0 .i64) n.2.2)]) (fun n => [(3, Z9 g2 42 Zn Z05), (4, Z9 g3 42 Zn n.2.1)]) (Z0x, (⟨0, 0⟩ : Wide), 0) ⟨trivial, h⟩ ⟨rfl, ⟨rfl, rfl, rfl, rfl, trivial⟩, ⟨rfl, rfl, trivial⟩⟩ ?_
 rintro ⟨m8, b6, i7⟩ ⟨hsf1, h⟩
 change True at hsf1
 change Zdh n1 m8 b6 i7 = some r at h
 change AW _ _ _ ⟨Zw [(0, rd (Z0 .i64) n1), (2, Z7 g2 (Lens.id Zn)), (3, Z7 g3 (Lens.id Zn)), (4, rd (Z0 .i64) i7)], Zx [(3, Z9 g2 42 Zn Z05), (4, Z9 g3 42 Zn b6)], _⟩
 cases m8 with
 | zero => cases h
 | succ m8 =>
  unfold Zdh at h
  generalize hgo1 : Zdh n1 m8 = go1 at h
  refine AW.seq <| SR <| Md rfl <| Md rfl <| Ac (Zl rfl rfl (vt rfl) (vt rfl)) rfl <| Md rfl <| Gd rfl (fun hq => Zs (A := rd (Z0 .i64) i7) rfl rfl (vt rfl)) <| Gd rfl (fun hq => Zl rfl rfl (Zj rfl hq) (vk rfl)) <| Ac (Z11 rfl rfl (vt rfl) (vt rfl)) rfl <| Nl <| Cn rfl (fun hc => ?_) (fun hc => ?_)
  ·have h := Ze hc h
   refine AW.skip <| AW.seq <| AW.block ?_
   obtain ⟨x9, hx9, h⟩ := Z1 h
   obtain ⟨x10, hx10, h⟩ := Z1 h
   refine AW.regionAny [⟨[3], [15], [4], []⟩, ⟨[4], [16], [], []⟩, ⟨[16], [17], [], []⟩, ⟨[15, 17], [18], [], []⟩, ⟨[3, 18], [], [4], [4]⟩] Z06 (by kernel_rfl) <| Zq Zt 4 rfl <| Zu rfl <| SCl [16] (Zky _ _ hx9) Zmv rfl <| SCl [15, 17] (Zi2 _ _ _ hx10) Zh8 rfl <| SSt Zt 4 rfl <| Rg <| Md rfl <| Ac (Z08 rfl rfl (vt rfl) (vk rfl)) rfl <| As rfl <| Nl ?_
   subst hgo1
   exact ⟨(m8, x10, (IntKind.i64.wrap (i7 + 1))), Nat.lt_succ_self _, ⟨trivial, h⟩, ⟨rfl, ⟨rfl, rfl, rfl, rfl, trivial⟩, ⟨rfl, rfl, trivial⟩⟩⟩
  ·have h := Zf hc h
   refine AW.exit <| SR <| Ld Zt 4 rfl <| Zh Zt 3 rfl <| Nl <| AW.ret ?_
   obtain rfl := si h
   exact Zg Tryz.results307 rfl (Z04 rfl (i := 3) rfl Zt)
def Zf4 (o1 : Oxm) : Option Tern :=
 (Zaq o1.Field).bind fun x4 => (bif (!x4) then some (⟨Z05, Z05⟩ : Tern) else (bif o1.Masked then some (⟨o1.Value, o1.Mask⟩ : Tern) else (Zke o1.Field).bind fun x5 => (Z9o x5).bind fun x6 => some (⟨o1.Value, x6⟩ : Tern)))
theorem Zz8 (o1 : Oxm) (r : Tern) (h : Zf4 o1 = some r) : PCon Tryz.prog 271 [rd Z1v o1] (rd Z3 r) := by
 refine PCon.of (Con.intro0 Tryz.func271 rfl Tryz.ntmps271 rfl fun w H => ?_)
 unfold Zf4 at h
 refine SR <| Ct rfl (Zo 2 rfl rfl (vt rfl)) ?_
 rintro _ ⟨g2, rfl⟩
 refine Ct rfl (Zm 3 rfl rfl Z16) ?_
 rintro _ ⟨g3, rfl⟩
 refine Nl <| AW.seq <| AW.seq ?_
 obtain ⟨x4, hx4, h⟩ := Z1 h
 refine Rg <| Zp Z46 Z4m rfl <| Ld Zv 2 rfl <| Cl [4] (Zno _ _ hx4) Znj rfl <| Ac (Z13 rfl rfl (vt rfl)) rfl <| Nl <| Cn rfl (fun hc => ?_) (fun hc => ?_)
 ·have h := Ze hc h
  refine SR <| Ac (Z01 (ps := []) (x := (⟨Z05, Z05⟩ : Tern)) rfl rfl rfl (by kernel_rfl) Z16 rfl) rfl <| Zh Z00 3 rfl <| Nl <| AW.ret ?_
  obtain rfl := si h
  exact Zg Tryz.results271 rfl (Z04 rfl (i := 3) rfl Z00)
 ·have h := Zf hc h
  refine AW.skip <| AW.seq <| SR <| Zp Zq4 Ztk rfl <| Ld ty4 2 rfl <| Nl <| Cn rfl (fun hc => ?_) (fun hc => ?_)
  ·have h := Ze hc h
   refine SR <| Zp Zif Zkm rfl <| Ld Zt 2 rfl <| Zp Zr3 Zvr rfl <| Ld Zt 2 rfl <| Ac (Z01 (ps := [(0, .tmp 11), (1, .tmp 13)]) (x := (⟨o1.Value, o1.Mask⟩ : Tern)) rfl rfl rfl (by kernel_rfl) Z16 ⟨_, _, Z1a, _, by kernel_rfl, (vt rfl), _, _, Z0z, _, by kernel_rfl, (vt rfl), rfl⟩) rfl <| Zh Z00 3 rfl <| Nl <| AW.ret ?_
   obtain rfl := si h
   exact Zg Tryz.results271 rfl (Z04 rfl (i := 3) rfl Z00)
  ·have h := Zf hc h
   refine AW.skip <| AW.seq ?_
   obtain ⟨x5, hx5, h⟩ := Z1 h
   obtain ⟨x6, hx6, h⟩ := Z1 h
   refine AW.regionAny [⟨[1], [15], [], []⟩, ⟨[15], [16], [2], []⟩, ⟨[1], [17], [], []⟩, ⟨[17], [18], [2], []⟩, ⟨[18], [19], [], []⟩, ⟨[19], [20], [], []⟩, ⟨[16, 20], [21], [], []⟩, ⟨[2, 21], [], [3], [3]⟩] Z06 (by kernel_rfl) <| SFd Zif Zkm rfl <| Zq Zt 2 rfl <| SFd Z46 Z4m rfl <| Zq Zv 2 rfl <| SCl [18] (Y9x _ _ hx5) Yej rfl <| SCl [19] (Zoo _ _ hx6) Znk rfl <| Sc (lo [16, 20] [] rfl fun S hs hr => Z01 (ps := [(0, .tmp 16), (1, .tmp 20)]) (x := (⟨o1.Value, x6⟩ : Tern)) rfl rfl rfl (by kernel_rfl) Z16 ⟨_, _, Z1a, _, by kernel_rfl, (vh hs 16 rfl rfl), _, _, Z0z, _, by kernel_rfl, (vh hs 20 rfl rfl), rfl⟩) rfl <| SSt Z00 3 rfl <| AW.ret ?_
   obtain rfl := si h
   exact Zg Tryz.results271 rfl (Z04 rfl (i := 3) rfl Z00)
def Z72 (l1 : (List Oxm)) : Nat → (Vector Tern 24) → Int → Option (Vector Tern 24)
 | 0, _, _ => none
 | m8 + 1, b6, i7 => (bif (decide (i7 < (l1.length : Int))) then (lget l1 i7).bind fun e9 => (Zaq e9.Field).bind fun x10 => (bif x10 then (lget l1 i7).bind fun e11 => (lget l1 i7).bind fun e12 => (Zf4 e12).bind fun x13 => (chk 24 e11.Field).bind fun j14 => (Z72 l1 m8) (Vector.set b6 j14.1 x13 j14.2) (IntKind.i64.wrap (i7 + 1)) else (Z72 l1 m8) b6 (IntKind.i64.wrap (i7 + 1))) else some b6)
def Zkr (l1 : (List Oxm)) : Option (Vector Tern 24) :=
 Z72 l1 ((((l1.length : Int) : Int) - 0).toNat + 1) (Vector.replicate 24 zTern) 0
theorem Y0r (l1 : (List Oxm)) (r : (Vector Tern 24)) (h : Zkr l1 = some r) : PCon Tryz.prog 210 [rd (Z4 Z1v) l1] (rd (Z2 24 Z3) r) := by
 refine PCon.of (Con.intro0 Tryz.func210 rfl Tryz.ntmps210 rfl fun w H => ?_)
 unfold Zkr at h
 refine SR <| Ct rfl (Zm 3 rfl rfl Z0v) ?_
 rintro _ ⟨g2, rfl⟩
 refine Nl <| SR <| Ac (Z01 (ps := []) (x := (Vector.replicate 24 zTern)) rfl rfl rfl (by kernel_rfl) Z0v rfl) rfl <| Ct rfl (Zm 4 rfl rfl Z0v) ?_
 rintro _ ⟨g3, rfl⟩
 refine Zh Zz 4 rfl <| Nl <| AW.seq <| SR <| Ak rfl <| Nl <| AW.block <| AW.loopG (d := []) (ν := Nat × (Vector Tern 24) × Int) (fun n => True ∧ Z72 l1 n.1 n.2.1 n.2.2 = some r) (fun n => n.1) (fun n => [(0, rd (Z4 Z1v) l1), (2, Z7 g2 (Lens.id (Z2 24 Z3))), (3, Z7 g3 (Lens.id (Z2 24 Z3))), (4, rd (Z0 .i64) n.2.2)]) (fun n => [(3, Z9 g2 87 (Z2 24 Z3) (Vector.replicate 24 zTern)), (4, Z9 g3 87 (Z2 24 Z3) n.2.1)]) (((((l1.length : Int) : Int) - 0).toNat + 1), (Vector.replicate 24 zTern), 0) ⟨trivial, h⟩ ⟨rfl, ⟨rfl, rfl, rfl, rfl, trivial⟩, ⟨rfl, rfl, trivial⟩⟩ ?_
 rintro ⟨m8, b6, i7⟩ ⟨hsf1, h⟩
 change True at hsf1
 change Z72 l1 m8 b6 i7 = some r at h
 change AW _ _ _ ⟨Zw [(0, rd (Z4 Z1v) l1), (2, Z7 g2 (Lens.id (Z2 24 Z3))), (3, Z7 g3 (Lens.id (Z2 24 Z3))), (4, rd (Z0 .i64) i7)], Zx [(3, Z9 g2 87 (Z2 24 Z3) (Vector.replicate 24 zTern)), (4, Z9 g3 87 (Z2 24 Z3) b6)], _⟩
 cases m8 with
 | zero => cases h
 | succ m8 =>
  unfold Z72 at h
  generalize hgo1 : Z72 l1 m8 = go1 at h
  refine AW.seq <| SR <| Md rfl <| Md rfl <| Ac (Z0j rfl rfl Zc1 (vt rfl)) rfl <| Ac (Zl rfl rfl (vt rfl) (vt rfl)) rfl <| Nl <| Cn rfl (fun hc => ?_) (fun hc => ?_)
  ·have h := Ze hc h
   refine AW.skip <| AW.seq <| AW.block <| AW.seq ?_
   obtain ⟨e9, he9, h⟩ := Z1 h
   obtain ⟨x10, hx10, h⟩ := Z1 h
   refine Rg <| Md rfl <| Md rfl <| Ac (Z0l rfl rfl Zc1 (vt rfl) (vt rfl) he9) rfl <| Fp Z46 Z4m rfl <| Lp1 Zv rfl <| Cl [16] (Zno _ _ hx10) Znj rfl <| Nl <| Cn rfl (fun hc => ?_) (fun hc => ?_)
   ·have h := Ze hc h
    obtain ⟨e11, he11, h⟩ := Z1 h
    obtain ⟨e12, he12, h⟩ := Z1 h
    obtain ⟨x13, hx13, h⟩ := Z1 h
    obtain ⟨j14, hj14, h⟩ := Z1 h
    refine AW.regionAny [⟨[0], [18], [], []⟩, ⟨[4], [19], [], []⟩, ⟨[18, 19], [20], [], []⟩, ⟨[20], [21], [], []⟩, ⟨[21], [22], [], []⟩, ⟨[0], [23], [], []⟩, ⟨[4], [24], [], []⟩, ⟨[23, 24], [25], [], []⟩, ⟨[25], [26], [], []⟩, ⟨[26], [27], [], []⟩, ⟨[3, 22], [28], [], []⟩, ⟨[28, 27], [], [4], [4]⟩] Z06 (by kernel_rfl) <| Zu rfl <| Zu rfl <| Sc (lo [18, 19] [] rfl fun S hs hr => Z0l rfl rfl Zc1 (vh hs 18 rfl rfl) (vh hs 19 rfl rfl) he11) rfl <| SFp Z46 Z4m rfl <| SLp Zv rfl <| Zu rfl <| Zu rfl <| Sc (lo [23, 24] [] rfl fun S hs hr => Z0l rfl rfl Zc1 (vh hs 23 rfl rfl) (vh hs 24 rfl rfl) he12) rfl <| SLp Zcn rfl <| SCl [26] (Zz8 _ _ hx13) Zx9 rfl <| Sc (lo [3, 22] [] rfl fun S hs hr => Z15 rfl rfl Z20 (vh hs 3 rfl rfl) (vh hs 22 rfl rfl) hj14) rfl <| SSt Z00 4 rfl <| Rg <| Md rfl <| Ac (Z08 rfl rfl (vt rfl) (vk rfl)) rfl <| As rfl <| Nl ?_
    subst hgo1
    exact ⟨(m8, (Vector.set b6 j14.1 x13 j14.2), (IntKind.i64.wrap (i7 + 1))), Nat.lt_succ_self _, ⟨trivial, h⟩, ⟨rfl, ⟨rfl, rfl, rfl, rfl, trivial⟩, ⟨rfl, rfl, trivial⟩⟩⟩
   ·have h := Zf hc h
    refine AW.skip <| Rg <| Md rfl <| Ac (Z08 rfl rfl (vt rfl) (vk rfl)) rfl <| As rfl <| Nl ?_
    subst hgo1
    exact ⟨(m8, b6, (IntKind.i64.wrap (i7 + 1))), Nat.lt_succ_self _, ⟨trivial, h⟩, ⟨rfl, ⟨rfl, rfl, rfl, rfl, trivial⟩, ⟨rfl, rfl, trivial⟩⟩⟩
  ·have h := Zf hc h
   refine AW.exit <| SR <| Ld Zz 4 rfl <| Zh Zz 3 rfl <| Nl <| AW.ret ?_
   obtain rfl := si h
   exact Zg Tryz.results210 rfl (Z04 rfl (i := 3) rfl Zz)
def Zbm (a1 : Wide) (b2 : Wide) : Option Wide :=
 some (⟨(a1.Hi &&& b2.Hi), (a1.Lo &&& b2.Lo)⟩ : Wide)
theorem Zmm (a1 : Wide) (b2 : Wide) (r : Wide) (h : Zbm a1 b2 = some r) : PCon Tryz.prog 189 [rd Zn a1, rd Zn b2] (rd Zn r) := by
 refine PCon.of (Con.intro0 Tryz.func189 rfl Tryz.ntmps189 rfl fun w H => ?_)
 unfold Zbm at h
 refine SR <| Ct rfl (Zo 3 rfl rfl (vt rfl)) ?_
 rintro _ ⟨g3, rfl⟩
 refine Ct rfl (Zo 4 rfl rfl (vt rfl)) ?_
 rintro _ ⟨g4, rfl⟩
 refine Ct rfl (Zm 5 rfl rfl Z1n) ?_
 rintro _ ⟨g5, rfl⟩
 refine Nl <| SR <| Zp Z22 Z3h rfl <| Ld Z18 3 rfl <| Zp Z22 Z3h rfl <| Ld Z18 4 rfl <| Ac (Z91 rfl rfl (vt rfl) (vt rfl)) rfl <| Zp Z21 Z3i rfl <| Ld Z18 3 rfl <| Zp Z21 Z3i rfl <| Ld Z18 4 rfl <| Ac (Z91 rfl rfl (vt rfl) (vt rfl)) rfl <| Ac (Z01 (ps := [(0, .tmp 9), (1, .tmp 14)]) (x := (⟨(a1.Hi &&& b2.Hi), (a1.Lo &&& b2.Lo)⟩ : Wide)) rfl rfl rfl (by kernel_rfl) Z1n ⟨_, _, Z22, _, by kernel_rfl, (vt rfl), _, _, Z21, _, by kernel_rfl, (vt rfl), rfl⟩) rfl <| Zh Zt 5 rfl <| Nl <| AW.ret ?_
 obtain rfl := si h
 exact Zg Tryz.results189 rfl (Z04 rfl (i := 5) rfl Zt)
def Z8f (t1 : Tern) : Option Tern :=
 (Zbm t1.Value t1.Mask).bind fun x4 => some (⟨x4, t1.Mask⟩ : Tern)
theorem Zi1 (t1 : Tern) (r : Tern) (h : Z8f t1 = some r) : PCon Tryz.prog 144 [rd Z3 t1] (rd Z3 r) := by
 refine PCon.of (Con.intro0 Tryz.func144 rfl Tryz.ntmps144 rfl fun w H => ?_)
 unfold Z8f at h
 refine SR <| Ct rfl (Zo 2 rfl rfl (vt rfl)) ?_
 rintro _ ⟨g2, rfl⟩
 refine Ct rfl (Zm 3 rfl rfl Z16) ?_
 rintro _ ⟨g3, rfl⟩
 refine Nl <| AW.seq ?_
 obtain ⟨x4, hx4, h⟩ := Z1 h
 refine AW.regionAny [⟨[1], [3], [], []⟩, ⟨[3], [4], [2], []⟩, ⟨[1], [5], [], []⟩, ⟨[5], [6], [2], []⟩, ⟨[4, 6], [7], [], []⟩, ⟨[1], [8], [], []⟩, ⟨[8], [9], [2], []⟩, ⟨[7, 9], [10], [], []⟩, ⟨[2, 10], [], [3], [3]⟩] Z06 (by kernel_rfl) <| SFd Z1a Z2f rfl <| Zq Zt 2 rfl <| SFd Z0z Z1y rfl <| Zq Zt 2 rfl <| SCl [4, 6] (Zmm _ _ _ hx4) Zkw rfl <| SFd Z0z Z1y rfl <| Zq Zt 2 rfl <| Sc (lo [7, 9] [] rfl fun S hs hr => Z01 (ps := [(0, .tmp 7), (1, .tmp 9)]) (x := (⟨x4, t1.Mask⟩ : Tern)) rfl rfl rfl (by kernel_rfl) Z16 ⟨_, _, Z1a, _, by kernel_rfl, (vh hs 7 rfl rfl), _, _, Z0z, _, by kernel_rfl, (vh hs 9 rfl rfl), rfl⟩) rfl <| SSt Z00 3 rfl <| AW.ret ?_
 obtain rfl := si h
 exact Zg Tryz.results144 rfl (Z04 rfl (i := 3) rfl Z00)
def Z8h : Nat → (Vector Tern 24) → Int → Option (Vector Tern 24)
 | 0, _, _ => none
 | m8 + 1, b6, f7 => (bif (decide (f7 < 24)) then (chk 24 f7).bind fun j9 => (Z8f (Vector.get b6 j9)).bind fun x10 => (chk 24 f7).bind fun j11 => (Z8h m8) (Vector.set b6 j11.1 x10 j11.2) (IntKind.i64.wrap (f7 + 1)) else some b6)
def Zgh (cu1 : (Vector Tern 24)) : Option (Vector Tern 24) :=
 Z8h (((24 : Int) - 0).toNat + 1) cu1 0
theorem Yaf (cu1 : (Vector Tern 24)) (r : (Vector Tern 24)) (h : Zgh cu1 = some r) : PCon Tryz.prog 83 [rd (Z2 24 Z3) cu1] (rd (Z2 24 Z3) r) := by
 refine PCon.of (Con.intro0 Tryz.func83 rfl Tryz.ntmps83 rfl fun w H => ?_)
 unfold Zgh at h
 refine SR <| Ct rfl (Zo 2 rfl rfl (vt rfl)) ?_
 rintro _ ⟨g2, rfl⟩
 refine Ct rfl (Zm 3 rfl rfl Z0v) ?_
 rintro _ ⟨g3, rfl⟩
 refine Nl <| AW.seq <| SR <| Ak rfl <| Nl <| AW.block <| AW.loopG (d := []) (ν := Nat × (Vector Tern 24) × Int) (fun n => True ∧ Z8h n.1 n.2.1 n.2.2 = some r) (fun n => n.1) (fun n => [(1, Z7 g2 (Lens.id (Z2 24 Z3))), (2, Z7 g3 (Lens.id (Z2 24 Z3))), (3, rd (Z0 .i64) n.2.2)]) (fun n => [(2, Z9 g2 87 (Z2 24 Z3) n.2.1), (3, Z9 g3 87 (Z2 24 Z3) (Vector.replicate 24 zTern))]) ((((24 : Int) - 0).toNat + 1), cu1, 0) ⟨trivial, h⟩ ⟨rfl, ⟨rfl, rfl, rfl, trivial⟩, ⟨rfl, rfl, trivial⟩⟩ ?_
 rintro ⟨m8, b6, f7⟩ ⟨hsf1, h⟩
 change True at hsf1
 change Z8h m8 b6 f7 = some r at h
 change AW _ _ _ ⟨Zw [(1, Z7 g2 (Lens.id (Z2 24 Z3))), (2, Z7 g3 (Lens.id (Z2 24 Z3))), (3, rd (Z0 .i64) f7)], Zx [(2, Z9 g2 87 (Z2 24 Z3) b6), (3, Z9 g3 87 (Z2 24 Z3) (Vector.replicate 24 zTern))], _⟩
 cases m8 with
 | zero => cases h
 | succ m8 =>
  unfold Z8h at h
  generalize hgo1 : Z8h m8 = go1 at h
  refine AW.seq <| SR <| Md rfl <| Ac (Zl rfl rfl (vt rfl) (vk rfl)) rfl <| Nl <| Cn rfl (fun hc => ?_) (fun hc => ?_)
  ·have h := Ze hc h
   refine AW.skip <| AW.seq <| AW.block ?_
   obtain ⟨j9, hj9, h⟩ := Z1 h
   obtain ⟨x10, hx10, h⟩ := Z1 h
   obtain ⟨j11, hj11, h⟩ := Z1 h
   refine Rg <| Md rfl <| Md rfl <| Ac (Z15 rfl rfl Z20 (vt rfl) (vt rfl) hj9) rfl <| Ld Z00 2 rfl <| Cl [11] (Zi1 _ _ hx10) Zja rfl <| Ac (Z15 rfl rfl Z20 (vt rfl) (vt rfl) hj11) rfl <| Zh Z00 2 rfl <| Nl <| Rg <| Md rfl <| Ac (Z08 rfl rfl (vt rfl) (vk rfl)) rfl <| As rfl <| Nl ?_
   subst hgo1
   exact ⟨(m8, (Vector.set b6 j11.1 x10 j11.2), (IntKind.i64.wrap (f7 + 1))), Nat.lt_succ_self _, ⟨trivial, h⟩, ⟨rfl, ⟨rfl, rfl, rfl, trivial⟩, ⟨rfl, rfl, trivial⟩⟩⟩
  ·have h := Zf hc h
   refine AW.exit <| SR <| Ld Zz 2 rfl <| Zh Zz 3 rfl <| Nl <| AW.ret ?_
   obtain rfl := si h
   exact Zg Tryz.results83 rfl (Z04 rfl (i := 3) rfl Zz)
def Zir (f1 : Flow) : Option (Vector Tern 24) :=
 (Zkr f1.Match).bind fun x4 => (Zgh x4).bind fun x5 => some x5
theorem Y89 (f1 : Flow) (r : (Vector Tern 24)) (h : Zir f1 = some r) : PCon Tryz.prog 141 [rd Z0d f1] (rd (Z2 24 Z3) r) := by
 refine PCon.of (Con.intro0 Tryz.func141 rfl Tryz.ntmps141 rfl fun w H => ?_)
 unfold Zir at h
 refine SR <| Ct rfl (Zo 2 rfl rfl (vt rfl)) ?_
 rintro _ ⟨g2, rfl⟩
 refine Ct rfl (Zm 3 rfl rfl Z0v) ?_
 rintro _ ⟨g3, rfl⟩
 refine Nl <| AW.seq ?_
 obtain ⟨x4, hx4, h⟩ := Z1 h
 obtain ⟨x5, hx5, h⟩ := Z1 h
 refine Rg <| Zp Zm4 Zp5 rfl <| Ld Zod 2 rfl <| Cl [4] (Y0r _ _ hx4) Ya8 rfl <| Cl [5] (Yaf _ _ hx5) e83 rfl <| Zh Zz 3 rfl <| Nl <| AW.ret ?_
 obtain rfl := si h
 exact Zg Tryz.results141 rfl (Z04 rfl (i := 3) rfl Zz)
end Go.Proofs.YtknpgojdkobgjaaGreat.W
set_option maxRecDepth 4000
namespace Go.Proofs.YtknpgojdkobgjaaGreat.W
open Go Go.Wb
theorem Ybq : Ent Tryz.prog 233 := Ent.mk Tryz.func233 rfl rfl
theorem Zym : Ent Tryz.prog 232 := Ent.mk Tryz.func232 rfl rfl
theorem Zu3 : Ent Tryz.prog 209 := Ent.mk Tryz.func209 rfl rfl
theorem Zst : Ent Tryz.prog 188 := Ent.mk Tryz.func188 rfl rfl
theorem Zqv : Ent Tryz.prog 145 := Ent.mk Tryz.func145 rfl rfl
def Zle (a1 : Wide) (b2 : Wide) : Option Wide :=
 some (⟨(a1.Hi ^^^ b2.Hi), (a1.Lo ^^^ b2.Lo)⟩ : Wide)
theorem Y0w (a1 : Wide) (b2 : Wide) (r : Wide) (h : Zle a1 b2 = some r) : PCon Tryz.prog 233 [rd Zn a1, rd Zn b2] (rd Zn r) := by
 refine PCon.of (Con.intro0 Tryz.func233 rfl Tryz.ntmps233 rfl fun w H => ?_)
 unfold Zle at h
 refine SR <| Ct rfl (Zo 3 rfl rfl (vt rfl)) ?_
 rintro _ ⟨g3, rfl⟩
 refine Ct rfl (Zo 4 rfl rfl (vt rfl)) ?_
 rintro _ ⟨g4, rfl⟩
 refine Ct rfl (Zm 5 rfl rfl Z1n) ?_
 rintro _ ⟨g5, rfl⟩
 refine Nl <| SR <| Zp Z22 Z3h rfl <| Ld Z18 3 rfl <| Zp Z22 Z3h rfl <| Ld Z18 4 rfl <| Ac (Zm6 rfl rfl (vt rfl) (vt rfl)) rfl <| Zp Z21 Z3i rfl <| Ld Z18 3 rfl <| Zp Z21 Z3i rfl <| Ld Z18 4 rfl <| Ac (Zm6 rfl rfl (vt rfl) (vt rfl)) rfl <| Ac (Z01 (ps := [(0, .tmp 9), (1, .tmp 14)]) (x := (⟨(a1.Hi ^^^ b2.Hi), (a1.Lo ^^^ b2.Lo)⟩ : Wide)) rfl rfl rfl (by kernel_rfl) Z1n ⟨_, _, Z22, _, by kernel_rfl, (vt rfl), _, _, Z21, _, by kernel_rfl, (vt rfl), rfl⟩) rfl <| Zh Zt 5 rfl <| Nl <| AW.ret ?_
 obtain rfl := si h
 exact Zg Tryz.results233 rfl (Z04 rfl (i := 5) rfl Zt)
def Zdv (a1 : Wide) : Option Bool :=
 some ((decide (a1.Hi = (0 : BitVec 64))) && (decide (a1.Lo = (0 : BitVec 64))))
theorem Zt0 (a1 : Wide) (r : Bool) (h : Zdv a1 = some r) : PCon Tryz.prog 232 [rd Zn a1] (rd Z8 r) := by
 refine PCon.of (Con.intro0 Tryz.func232 rfl Tryz.ntmps232 rfl fun w H => ?_)
 unfold Zdv at h
 refine SR <| Ct rfl (Zo 2 rfl rfl (vt rfl)) ?_
 rintro _ ⟨g2, rfl⟩
 refine Ab rfl <| Nl <| SR <| Zp Z22 Z3h rfl <| Ld Z18 2 rfl <| Ac (Zpf rfl rfl (vt rfl) (vku (0 : BitVec 64) rfl)) rfl <| Md rfl <| Gd rfl (fun hq => Z1w Z21 rfl rfl Z3i (vt rfl)) <| Gd rfl (fun hq => Z14 rfl rfl Z18 (Zj rfl hq) (i := 2) rfl) <| Gd rfl (fun hq => Zpf rfl rfl (Zj rfl hq) (vku (0 : BitVec 64) rfl)) <| Ac (Z11 rfl rfl (vt rfl) (vt rfl)) rfl <| As rfl <| Nl <| AW.ret ?_
 obtain rfl := si h
 exact Zg Tryz.results232 rfl (Z6 rfl)
def Zfj (a1 : Tern) (b2 : Tern) : Option (Tern × Bool) :=
 (Zbm a1.Mask b2.Mask).bind fun x6 => (Zle a1.Value b2.Value).bind fun x8 => (Zbm x8 x6).bind fun x9 => (Zdv x9).bind fun x10 => (bif (!x10) then some ((⟨Z05, Z05⟩ : Tern), false) else (Z8f a1).bind fun x11 => (Z8f b2).bind fun x12 => (Zad x11.Value x12.Value).bind fun x13 => (Zad x11.Mask x12.Mask).bind fun x14 => some ((⟨x13, x14⟩ : Tern), true))
theorem Zss (a1 : Tern) (b2 : Tern) (r : (Tern × Bool)) (h : Zfj a1 b2 = some r) : PCon Tryz.prog 209 [rd Z3 a1, rd Z3 b2] (Z1e (rd Z3 r.1) (rd Z8 r.2)) := by
 refine PCon.of (Con.intro0 Tryz.func209 rfl Tryz.ntmps209 rfl fun w H => ?_)
 unfold Zfj at h
 refine SR <| Ct rfl (Zo 3 rfl rfl (vt rfl)) ?_
 rintro _ ⟨g3, rfl⟩
 refine Ct rfl (Zo 4 rfl rfl (vt rfl)) ?_
 rintro _ ⟨g4, rfl⟩
 refine Ct rfl (Zm 5 rfl rfl Z16) ?_
 rintro _ ⟨g5, rfl⟩
 refine Ab rfl <| Nl <| AW.seq ?_
 obtain ⟨x6, hx6, h⟩ := Z1 h
 refine Rg <| Zp Z0z Z1y rfl <| Ld Zt 3 rfl <| Zp Z0z Z1y rfl <| Ld Zt 4 rfl <| Cl [8, 10] (Zmm _ _ _ hx6) Zkw rfl <| Ct rfl (Zm 7 rfl rfl Z1n) ?_
 rintro _ ⟨g7, rfl⟩
 refine Zh Zt 7 rfl <| Nl <| AW.seq <| AW.seq ?_
 obtain ⟨x8, hx8, h⟩ := Z1 h
 obtain ⟨x9, hx9, h⟩ := Z1 h
 obtain ⟨x10, hx10, h⟩ := Z1 h
 refine AW.regionAny [⟨[2], [12], [], []⟩, ⟨[12], [13], [3], []⟩, ⟨[3], [14], [], []⟩, ⟨[14], [15], [4], []⟩, ⟨[13, 15], [16], [], []⟩, ⟨[6], [17], [7], []⟩, ⟨[16, 17], [18], [], []⟩, ⟨[18], [19], [], []⟩, ⟨[19], [20], [], []⟩] Z06 (by kernel_rfl) <| SFd Z1a Z2f rfl <| Zq Zt 3 rfl <| SFd Z1a Z2f rfl <| Zq Zt 4 rfl <| SCl [13, 15] (Y0w _ _ _ hx8) Ybq rfl <| Zq Zt 7 rfl <| SCl [16, 17] (Zmm _ _ _ hx9) Zkw rfl <| SCl [18] (Zt0 _ _ hx10) Zym rfl <| Sc (lo [19] [] rfl fun S hs hr => Z13 rfl rfl (vh hs 19 rfl rfl)) rfl <| Cn rfl (fun hc => ?_) (fun hc => ?_)
 ·have h := Ze hc h
  refine SR <| Ac (Z01 (ps := []) (x := (⟨Z05, Z05⟩ : Tern)) rfl rfl rfl (by kernel_rfl) Z16 rfl) rfl <| Zh Z00 5 rfl <| Ab rfl <| Nl <| AW.ret ?_
  obtain rfl := si h
  exact Z23 Tryz.results209 rfl (Z04 rfl (i := 5) rfl Z00) (Z6 rfl)
 ·have h := Zf hc h
  refine AW.skip <| AW.seq ?_
  obtain ⟨x11, hx11, h⟩ := Z1 h
  obtain ⟨x12, hx12, h⟩ := Z1 h
  refine AW.regionAny [⟨[2], [22], [3], []⟩, ⟨[22], [23], [], []⟩, ⟨[3], [24], [4], []⟩, ⟨[24], [25], [], []⟩, ⟨[2, 23], [], [3], [3]⟩, ⟨[3, 25], [], [4], [4]⟩] Z06 (by kernel_rfl) <| Zq Z00 3 rfl <| SCl [22] (Zi1 _ _ hx11) Zja rfl <| Zq Z00 4 rfl <| SCl [24] (Zi1 _ _ hx12) Zja rfl <| SSt Z00 3 rfl <| SSt Z00 4 rfl <| AW.seq ?_
  obtain ⟨x13, hx13, h⟩ := Z1 h
  obtain ⟨x14, hx14, h⟩ := Z1 h
  refine AW.regionAny [⟨[2], [26], [], []⟩, ⟨[26], [27], [3], []⟩, ⟨[3], [28], [], []⟩, ⟨[28], [29], [4], []⟩, ⟨[27, 29], [30], [], []⟩, ⟨[2], [31], [], []⟩, ⟨[31], [32], [3], []⟩, ⟨[3], [33], [], []⟩, ⟨[33], [34], [4], []⟩, ⟨[32, 34], [35], [], []⟩, ⟨[30, 35], [36], [], []⟩, ⟨[4, 36], [], [5], [5]⟩, ⟨[], [5], [], []⟩] Z06 (by kernel_rfl) <| SFd Z1a Z2f rfl <| Zq Zt 3 rfl <| SFd Z1a Z2f rfl <| Zq Zt 4 rfl <| SCl [27, 29] (Zi2 _ _ _ hx13) Zh8 rfl <| SFd Z0z Z1y rfl <| Zq Zt 3 rfl <| SFd Z0z Z1y rfl <| Zq Zt 4 rfl <| SCl [32, 34] (Zi2 _ _ _ hx14) Zh8 rfl <| Sc (lo [30, 35] [] rfl fun S hs hr => Z01 (ps := [(0, .tmp 30), (1, .tmp 35)]) (x := (⟨x13, x14⟩ : Tern)) rfl rfl rfl (by kernel_rfl) Z16 ⟨_, _, Z1a, _, by kernel_rfl, (vh hs 30 rfl rfl), _, _, Z0z, _, by kernel_rfl, (vh hs 35 rfl rfl), rfl⟩) rfl <| SSt Z00 5 rfl <| Sc (lo [] [] rfl fun S hs hr => Z07 (A := rd Z8 true) rfl rfl vb) rfl <| AW.ret ?_
  obtain rfl := si h
  exact Z23 Tryz.results209 rfl (Z04 rfl (i := 5) rfl Z00) (Z6 rfl)
def Zh9 (a1 : Wide) (b2 : Wide) : Option Wide :=
 some (⟨(a1.Hi &&& ~~~b2.Hi), (a1.Lo &&& ~~~b2.Lo)⟩ : Wide)
theorem Zu1 (a1 : Wide) (b2 : Wide) (r : Wide) (h : Zh9 a1 b2 = some r) : PCon Tryz.prog 188 [rd Zn a1, rd Zn b2] (rd Zn r) := by
 refine PCon.of (Con.intro0 Tryz.func188 rfl Tryz.ntmps188 rfl fun w H => ?_)
 unfold Zh9 at h
 refine SR <| Ct rfl (Zo 3 rfl rfl (vt rfl)) ?_
 rintro _ ⟨g3, rfl⟩
 refine Ct rfl (Zo 4 rfl rfl (vt rfl)) ?_
 rintro _ ⟨g4, rfl⟩
 refine Ct rfl (Zm 5 rfl rfl Z1n) ?_
 rintro _ ⟨g5, rfl⟩
 refine Nl <| SR <| Zp Z22 Z3h rfl <| Ld Z18 3 rfl <| Zp Z22 Z3h rfl <| Ld Z18 4 rfl <| Ac (Zma rfl rfl (vt rfl) (vt rfl)) rfl <| Zp Z21 Z3i rfl <| Ld Z18 3 rfl <| Zp Z21 Z3i rfl <| Ld Z18 4 rfl <| Ac (Zma rfl rfl (vt rfl) (vt rfl)) rfl <| Ac (Z01 (ps := [(0, .tmp 9), (1, .tmp 14)]) (x := (⟨(a1.Hi &&& ~~~b2.Hi), (a1.Lo &&& ~~~b2.Lo)⟩ : Wide)) rfl rfl rfl (by kernel_rfl) Z1n ⟨_, _, Z22, _, by kernel_rfl, (vt rfl), _, _, Z21, _, by kernel_rfl, (vt rfl), rfl⟩) rfl <| Zh Zt 5 rfl <| Nl <| AW.ret ?_
 obtain rfl := si h
 exact Zg Tryz.results188 rfl (Z04 rfl (i := 5) rfl Zt)
def Z99 (r1 : (Vector Tern 24)) (cu2 : (Vector Tern 24)) : Nat → (Vector Tern 24) → Int → Option ((Vector Tern 24) × Bool)
 | 0, _, _ => none
 | m11 + 1, b9, f10 => (bif (decide (f10 < 24)) then (chk 24 f10).bind fun j12 => (chk 24 f10).bind fun j13 => (Zfj (Vector.get r1 j12) (Vector.get cu2 j13)).bind fun x14 => (bif (!x14.2) then some ((Vector.replicate 24 zTern), false) else (chk 24 f10).bind fun j16 => (chk 24 f10).bind fun j17 => (chk 24 f10).bind fun j18 => (Zh9 ((Vector.get cu2 j17).Mask) ((Vector.get r1 j18).Mask)).bind fun x19 => (Z8f (⟨(Vector.get cu2 j16).Value, x19⟩ : Tern)).bind fun x20 => (chk 24 f10).bind fun j21 => (Z99 r1 cu2 m11) (Vector.set b9 j21.1 x20 j21.2) (IntKind.i64.wrap (f10 + 1))) else some (b9, true))
def Zgl (r1 : (Vector Tern 24)) (cu2 : (Vector Tern 24)) : Option ((Vector Tern 24) × Bool) :=
 Z99 r1 cu2 (((24 : Int) - 0).toNat + 1) (Vector.replicate 24 zTern) 0
theorem Y3h (r1 : (Vector Tern 24)) (cu2 : (Vector Tern 24)) (r : ((Vector Tern 24) × Bool)) (h : Zgl r1 cu2 = some r) : PCon Tryz.prog 140 [rd (Z2 24 Z3) r1, rd (Z2 24 Z3) cu2] (Z1e (rd (Z2 24 Z3) r.1) (rd Z8 r.2)) := by
 refine PCon.of (Con.intro0 Tryz.func140 rfl Tryz.ntmps140 rfl fun w H => ?_)
 unfold Zgl at h
 refine SR <| Ct rfl (Zo 3 rfl rfl (vt rfl)) ?_
 rintro _ ⟨g3, rfl⟩
 refine Ct rfl (Zo 4 rfl rfl (vt rfl)) ?_
 rintro _ ⟨g4, rfl⟩
 refine Ct rfl (Zm 5 rfl rfl Z0v) ?_
 rintro _ ⟨g5, rfl⟩
 refine Ab rfl <| Nl <| SR <| Ac (Z01 (ps := []) (x := (Vector.replicate 24 zTern)) rfl rfl rfl (by kernel_rfl) Z0v rfl) rfl <| Ct rfl (Zm 7 rfl rfl Z0v) ?_
 rintro _ ⟨g6, rfl⟩
 refine Zh Zz 7 rfl <| Nl <| AW.seq <| SR <| Ak rfl <| Nl <| AW.block <| AW.loopG (d := []) (ν := Nat × (Vector Tern 24) × Int) (fun n => True ∧ Z99 r1 cu2 n.1 n.2.1 n.2.2 = some r) (fun n => n.1) (fun n => [(2, Z7 g3 (Lens.id (Z2 24 Z3))), (3, Z7 g4 (Lens.id (Z2 24 Z3))), (4, Z7 g5 (Lens.id (Z2 24 Z3))), (6, Z7 g6 (Lens.id (Z2 24 Z3))), (7, rd (Z0 .i64) n.2.2)]) (fun n => [(3, Z9 g3 101 (Z2 24 Z3) r1), (4, Z9 g4 87 (Z2 24 Z3) cu2), (5, Z9 g5 87 (Z2 24 Z3) (Vector.replicate 24 zTern)), (7, Z9 g6 87 (Z2 24 Z3) n.2.1)]) ((((24 : Int) - 0).toNat + 1), (Vector.replicate 24 zTern), 0) ⟨trivial, h⟩ ⟨rfl, ⟨rfl, rfl, rfl, rfl, rfl, trivial⟩, ⟨rfl, rfl, rfl, rfl, trivial⟩⟩ ?_
 rintro ⟨m11, b9, f10⟩ ⟨hsf1, h⟩
 change True at hsf1
 change Z99 r1 cu2 m11 b9 f10 = some r at h
 change AW _ _ _ ⟨Zw [(2, Z7 g3 (Lens.id (Z2 24 Z3))), (3, Z7 g4 (Lens.id (Z2 24 Z3))), (4, Z7 g5 (Lens.id (Z2 24 Z3))), (6, Z7 g6 (Lens.id (Z2 24 Z3))), (7, rd (Z0 .i64) f10)], Zx [(3, Z9 g3 101 (Z2 24 Z3) r1), (4, Z9 g4 87 (Z2 24 Z3) cu2), (5, Z9 g5 87 (Z2 24 Z3) (Vector.replicate 24 zTern)), (7, Z9 g6 87 (Z2 24 Z3) b9)], _⟩
 cases m11 with
 | zero => cases h
 | succ m11 =>
  unfold Z99 at h
  generalize hgo1 : Z99 r1 cu2 m11 = go1 at h
  refine AW.seq <| SR <| Md rfl <| Ac (Zl rfl rfl (vt rfl) (vk rfl)) rfl <| Nl <| Cn rfl (fun hc => ?_) (fun hc => ?_)
  ·have h := Ze hc h
   refine AW.skip <| AW.seq <| AW.block <| AW.seq <| AW.seq ?_
   obtain ⟨j12, hj12, h⟩ := Z1 h
   obtain ⟨j13, hj13, h⟩ := Z1 h
   obtain ⟨x14, hx14, h⟩ := Z1 h
   refine AW.regionAny [⟨[7], [16], [], []⟩, ⟨[2, 16], [17], [], []⟩, ⟨[17], [18], [3], []⟩, ⟨[7], [19], [], []⟩, ⟨[3, 19], [20], [], []⟩, ⟨[20], [21], [4], []⟩, ⟨[18, 21], [22], [], []⟩, ⟨[22], [15], [], []⟩, ⟨[15], [23], [], []⟩, ⟨[15], [24], [], []⟩, ⟨[], [8], [], []⟩, ⟨[8, 23], [8], [], []⟩, ⟨[24], [9], [], []⟩] Z06 (by kernel_rfl) <| Zu rfl <| Sc (lo [2, 16] [] rfl fun S hs hr => Z15 rfl rfl Z3c (vh hs 2 rfl rfl) (vh hs 16 rfl rfl) hj12) rfl <| Zq Z00 3 rfl <| Zu rfl <| Sc (lo [3, 19] [] rfl fun S hs hr => Z15 rfl rfl Z20 (vh hs 3 rfl rfl) (vh hs 19 rfl rfl) hj13) rfl <| Zq Z00 4 rfl <| SCl [18, 21] (Zss _ _ _ hx14) Zu3 rfl <| Sc (lo [22] [] rfl fun S hs hr => Zs (A := Z1e (rd Z3 x14.1) (rd Z8 x14.2)) rfl rfl (vh hs 22 rfl rfl)) rfl <| Sc (lo [15] [] rfl fun S hs hr => Z1p rfl rfl (vh hs 15 rfl rfl)) rfl <| Sc (lo [15] [] rfl fun S hs hr => Z1q rfl rfl (vh hs 15 rfl rfl)) rfl <| Sc (Z1b (us := [(8, Z25 85 Z3 zTern)]) (ur := []) [] [] rfl fun S hs hr => Z5r rfl rfl rfl Z16) rfl <| Sc (Z1b (us := [(8, Z25 85 Z3 x14.1)]) (ur := []) [8, 23] [] rfl fun S hs hr => Z5n rfl rfl Z00 ((hs 8 rfl).trans rfl) (vh hs 23 rfl rfl)) rfl <| SAs rfl <| AW.unpackP 8 9 rfl rfl fun g15 => SR <| Md rfl <| Ac (Z13 rfl rfl (vt rfl)) rfl <| Nl <| Cn rfl (fun hc => ?_) (fun hc => ?_)
   ·have h := Ze hc h
    refine SR <| Ac (Z01 (ps := []) (x := (Vector.replicate 24 zTern)) rfl rfl rfl (by kernel_rfl) Z0v rfl) rfl <| Zh Zz 5 rfl <| Ab rfl <| Nl <| AW.ret ?_
    obtain rfl := si h
    exact Z23 Tryz.results140 rfl (Z04 rfl (i := 5) rfl Zz) (Z6 rfl)
   ·have h := Zf hc h
    refine AW.skip ?_
    obtain ⟨j16, hj16, h⟩ := Z1 h
    obtain ⟨j17, hj17, h⟩ := Z1 h
    obtain ⟨j18, hj18, h⟩ := Z1 h
    obtain ⟨x19, hx19, h⟩ := Z1 h
    obtain ⟨x20, hx20, h⟩ := Z1 h
    obtain ⟨j21, hj21, h⟩ := Z1 h
    refine AW.regionAny [⟨[7], [28], [], []⟩, ⟨[7], [29], [], []⟩, ⟨[3, 29], [30], [], []⟩, ⟨[30], [31], [], []⟩, ⟨[31], [32], [4], []⟩, ⟨[7], [33], [], []⟩, ⟨[3, 33], [34], [], []⟩, ⟨[34], [35], [], []⟩, ⟨[35], [36], [4], []⟩, ⟨[7], [37], [], []⟩, ⟨[2, 37], [38], [], []⟩, ⟨[38], [39], [], []⟩, ⟨[39], [40], [3], []⟩, ⟨[36, 40], [41], [], []⟩, ⟨[32, 41], [42], [], []⟩, ⟨[42], [43], [], []⟩, ⟨[6, 28], [44], [], []⟩, ⟨[44, 43], [], [7], [7]⟩] Z06 (by kernel_rfl) <| Zu rfl <| Zu rfl <| Sc (lo [3, 29] [] rfl fun S hs hr => Z15 rfl rfl Z20 (vh hs 3 rfl rfl) (vh hs 29 rfl rfl) hj16) rfl <| SFd Z1a Z2f rfl <| Zq Zt 4 rfl <| Zu rfl <| Sc (lo [3, 33] [] rfl fun S hs hr => Z15 rfl rfl Z20 (vh hs 3 rfl rfl) (vh hs 33 rfl rfl) hj17) rfl <| SFd Z0z Z1y rfl <| Zq Zt 4 rfl <| Zu rfl <| Sc (lo [2, 37] [] rfl fun S hs hr => Z15 rfl rfl Z3c (vh hs 2 rfl rfl) (vh hs 37 rfl rfl) hj18) rfl <| SFd Z0z Z1y rfl <| Zq Zt 3 rfl <| SCl [36, 40] (Zu1 _ _ _ hx19) Zst rfl <| Sc (lo [32, 41] [] rfl fun S hs hr => Z01 (ps := [(0, .tmp 32), (1, .tmp 41)]) (x := (⟨(Vector.get cu2 j16).Value, x19⟩ : Tern)) rfl rfl rfl (by kernel_rfl) Z16 ⟨_, _, Z1a, _, by kernel_rfl, (vh hs 32 rfl rfl), _, _, Z0z, _, by kernel_rfl, (vh hs 41 rfl rfl), rfl⟩) rfl <| SCl [42] (Zi1 _ _ hx20) Zja rfl <| Sc (lo [6, 28] [] rfl fun S hs hr => Z15 rfl rfl Z20 (vh hs 6 rfl rfl) (vh hs 28 rfl rfl) hj21) rfl <| SSt Z00 7 rfl <| Rg <| Md rfl <| Ac (Z08 rfl rfl (vt rfl) (vk rfl)) rfl <| As rfl <| Nl ?_
    subst hgo1
    exact ⟨(m11, (Vector.set b9 j21.1 x20 j21.2), (IntKind.i64.wrap (f10 + 1))), Nat.lt_succ_self _, ⟨trivial, h⟩, ⟨rfl, ⟨rfl, rfl, rfl, rfl, rfl, trivial⟩, ⟨rfl, rfl, rfl, rfl, trivial⟩⟩⟩
  ·have h := Zf hc h
   refine AW.exit <| SR <| Ld Zz 7 rfl <| Zh Zz 5 rfl <| Ab rfl <| Nl <| AW.ret ?_
   obtain rfl := si h
   exact Z23 Tryz.results140 rfl (Z04 rfl (i := 5) rfl Zz) (Z6 rfl)
def Z7x (a1 : (Vector Tern 24)) (b2 : (Vector Tern 24)) : Nat → (Vector Tern 24) → Int → Option ((Vector Tern 24) × Bool)
 | 0, _, _ => none
 | m11 + 1, b9, f10 => (bif (decide (f10 < 24)) then (chk 24 f10).bind fun j12 => (chk 24 f10).bind fun j13 => (Zfj (Vector.get a1 j12) (Vector.get b2 j13)).bind fun x14 => (bif (!x14.2) then some ((Vector.replicate 24 zTern), false) else (chk 24 f10).bind fun j16 => (Z7x a1 b2 m11) (Vector.set b9 j16.1 x14.1 j16.2) (IntKind.i64.wrap (f10 + 1))) else some (b9, true))
def Zfh (a1 : (Vector Tern 24)) (b2 : (Vector Tern 24)) : Option ((Vector Tern 24) × Bool) :=
 Z7x a1 b2 (((24 : Int) - 0).toNat + 1) (Vector.replicate 24 zTern) 0
theorem Ztv (a1 : (Vector Tern 24)) (b2 : (Vector Tern 24)) (r : ((Vector Tern 24) × Bool)) (h : Zfh a1 b2 = some r) : PCon Tryz.prog 142 [rd (Z2 24 Z3) a1, rd (Z2 24 Z3) b2] (Z1e (rd (Z2 24 Z3) r.1) (rd Z8 r.2)) := by
 refine PCon.of (Con.intro0 Tryz.func142 rfl Tryz.ntmps142 rfl fun w H => ?_)
 unfold Zfh at h
 refine SR <| Ct rfl (Zo 3 rfl rfl (vt rfl)) ?_
 rintro _ ⟨g3, rfl⟩
 refine Ct rfl (Zo 4 rfl rfl (vt rfl)) ?_
 rintro _ ⟨g4, rfl⟩
 refine Ct rfl (Zm 5 rfl rfl Z0v) ?_
 rintro _ ⟨g5, rfl⟩
 refine Ab rfl <| Nl <| SR <| Ac (Z01 (ps := []) (x := (Vector.replicate 24 zTern)) rfl rfl rfl (by kernel_rfl) Z0v rfl) rfl <| Ct rfl (Zm 7 rfl rfl Z0v) ?_
 rintro _ ⟨g6, rfl⟩
 refine Zh Zz 7 rfl <| Nl <| AW.seq <| SR <| Ak rfl <| Nl <| AW.block <| AW.loopG (d := []) (ν := Nat × (Vector Tern 24) × Int) (fun n => True ∧ Z7x a1 b2 n.1 n.2.1 n.2.2 = some r) (fun n => n.1) (fun n => [(2, Z7 g3 (Lens.id (Z2 24 Z3))), (3, Z7 g4 (Lens.id (Z2 24 Z3))), (4, Z7 g5 (Lens.id (Z2 24 Z3))), (6, Z7 g6 (Lens.id (Z2 24 Z3))), (7, rd (Z0 .i64) n.2.2)]) (fun n => [(3, Z9 g3 87 (Z2 24 Z3) a1), (4, Z9 g4 87 (Z2 24 Z3) b2), (5, Z9 g5 87 (Z2 24 Z3) (Vector.replicate 24 zTern)), (7, Z9 g6 87 (Z2 24 Z3) n.2.1)]) ((((24 : Int) - 0).toNat + 1), (Vector.replicate 24 zTern), 0) ⟨trivial, h⟩ ⟨rfl, ⟨rfl, rfl, rfl, rfl, rfl, trivial⟩, ⟨rfl, rfl, rfl, rfl, trivial⟩⟩ ?_
 rintro ⟨m11, b9, f10⟩ ⟨hsf1, h⟩
 change True at hsf1
 change Z7x a1 b2 m11 b9 f10 = some r at h
 change AW _ _ _ ⟨Zw [(2, Z7 g3 (Lens.id (Z2 24 Z3))), (3, Z7 g4 (Lens.id (Z2 24 Z3))), (4, Z7 g5 (Lens.id (Z2 24 Z3))), (6, Z7 g6 (Lens.id (Z2 24 Z3))), (7, rd (Z0 .i64) f10)], Zx [(3, Z9 g3 87 (Z2 24 Z3) a1), (4, Z9 g4 87 (Z2 24 Z3) b2), (5, Z9 g5 87 (Z2 24 Z3) (Vector.replicate 24 zTern)), (7, Z9 g6 87 (Z2 24 Z3) b9)], _⟩
 cases m11 with
 | zero => cases h
 | succ m11 =>
  unfold Z7x at h
  generalize hgo1 : Z7x a1 b2 m11 = go1 at h
  refine AW.seq <| SR <| Md rfl <| Ac (Zl rfl rfl (vt rfl) (vk rfl)) rfl <| Nl <| Cn rfl (fun hc => ?_) (fun hc => ?_)
  ·have h := Ze hc h
   refine AW.skip <| AW.seq <| AW.block <| AW.seq ?_
   obtain ⟨j12, hj12, h⟩ := Z1 h
   obtain ⟨j13, hj13, h⟩ := Z1 h
   obtain ⟨x14, hx14, h⟩ := Z1 h
   refine AW.regionAny [⟨[7], [16], [], []⟩, ⟨[2, 16], [17], [], []⟩, ⟨[17], [18], [3], []⟩, ⟨[7], [19], [], []⟩, ⟨[3, 19], [20], [], []⟩, ⟨[20], [21], [4], []⟩, ⟨[18, 21], [22], [], []⟩, ⟨[22], [15], [], []⟩, ⟨[15], [23], [], []⟩, ⟨[15], [24], [], []⟩, ⟨[], [8], [], []⟩, ⟨[8, 23], [8], [], []⟩, ⟨[24], [9], [], []⟩] Z06 (by kernel_rfl) <| Zu rfl <| Sc (lo [2, 16] [] rfl fun S hs hr => Z15 rfl rfl Z20 (vh hs 2 rfl rfl) (vh hs 16 rfl rfl) hj12) rfl <| Zq Z00 3 rfl <| Zu rfl <| Sc (lo [3, 19] [] rfl fun S hs hr => Z15 rfl rfl Z20 (vh hs 3 rfl rfl) (vh hs 19 rfl rfl) hj13) rfl <| Zq Z00 4 rfl <| SCl [18, 21] (Zss _ _ _ hx14) Zu3 rfl <| Sc (lo [22] [] rfl fun S hs hr => Zs (A := Z1e (rd Z3 x14.1) (rd Z8 x14.2)) rfl rfl (vh hs 22 rfl rfl)) rfl <| Sc (lo [15] [] rfl fun S hs hr => Z1p rfl rfl (vh hs 15 rfl rfl)) rfl <| Sc (lo [15] [] rfl fun S hs hr => Z1q rfl rfl (vh hs 15 rfl rfl)) rfl <| Sc (Z1b (us := [(8, Z25 85 Z3 zTern)]) (ur := []) [] [] rfl fun S hs hr => Z5r rfl rfl rfl Z16) rfl <| Sc (Z1b (us := [(8, Z25 85 Z3 x14.1)]) (ur := []) [8, 23] [] rfl fun S hs hr => Z5n rfl rfl Z00 ((hs 8 rfl).trans rfl) (vh hs 23 rfl rfl)) rfl <| SAs rfl <| AW.unpackP 8 9 rfl rfl fun g15 => AW.seq <| SR <| Md rfl <| Ac (Z13 rfl rfl (vt rfl)) rfl <| Nl <| Cn rfl (fun hc => ?_) (fun hc => ?_)
   ·have h := Ze hc h
    refine SR <| Ac (Z01 (ps := []) (x := (Vector.replicate 24 zTern)) rfl rfl rfl (by kernel_rfl) Z0v rfl) rfl <| Zh Zz 5 rfl <| Ab rfl <| Nl <| AW.ret ?_
    obtain rfl := si h
    exact Z23 Tryz.results142 rfl (Z04 rfl (i := 5) rfl Zz) (Z6 rfl)
   ·have h := Zf hc h
    refine AW.skip ?_
    obtain ⟨j16, hj16, h⟩ := Z1 h
    refine Rg <| Md rfl <| Ld Z00 9 rfl <| Ac (Z15 rfl rfl Z20 (vt rfl) (vt rfl) hj16) rfl <| Zh Z00 7 rfl <| Nl <| Rg <| Md rfl <| Ac (Z08 rfl rfl (vt rfl) (vk rfl)) rfl <| As rfl <| Nl ?_
    subst hgo1
    exact ⟨(m11, (Vector.set b9 j16.1 x14.1 j16.2), (IntKind.i64.wrap (f10 + 1))), Nat.lt_succ_self _, ⟨trivial, h⟩, ⟨rfl, ⟨rfl, rfl, rfl, rfl, rfl, trivial⟩, ⟨rfl, rfl, rfl, rfl, trivial⟩⟩⟩
  ·have h := Zf hc h
   refine AW.exit <| SR <| Ld Zz 7 rfl <| Zh Zz 5 rfl <| Ab rfl <| Nl <| AW.ret ?_
   obtain rfl := si h
   exact Z23 Tryz.results142 rfl (Z04 rfl (i := 5) rfl Zz) (Z6 rfl)
def Z9s (l1 : (List Inst)) (kind2 : Int) : Nat → Int → Option (Inst × Bool)
 | 0, _ => none
 | m6 + 1, i5 => (bif (decide (i5 < (l1.length : Int))) then (lget l1 i5).bind fun e7 => (bif (decide (e7.Kind = kind2)) then (lget l1 i5).bind fun e8 => some (e8, true) else (Z9s l1 kind2 m6) (IntKind.i64.wrap (i5 + 1))) else some ((⟨0, 0, Z05, Z05, []⟩ : Inst), false))
def Z7u (l1 : (List Inst)) (kind2 : Int) : Option (Inst × Bool) :=
 Z9s l1 kind2 ((((l1.length : Int) : Int) - 0).toNat + 1) 0
theorem Zib (l1 : (List Inst)) (kind2 : Int) (r : (Inst × Bool)) (h : Z7u l1 kind2 = some r) : PCon Tryz.prog 151 [rd (Z4 Z0u) l1, rd (Z0 .i64) kind2] (Z1e (rd Z0u r.1) (rd Z8 r.2)) := by
 refine PCon.of (Con.intro0 Tryz.func151 rfl Tryz.ntmps151 rfl fun w H => ?_)
 unfold Z7u at h
 refine SR <| Ct rfl (Zm 5 rfl rfl Z3e) ?_
 rintro _ ⟨g3, rfl⟩
 refine Ab rfl <| Nl <| AW.seq <| SR <| Ak rfl <| Nl <| AW.block <| AW.loopG (d := []) (ν := Nat × Int) (fun n => True ∧ Z9s l1 kind2 n.1 n.2 = some r) (fun n => n.1) (fun n => [(0, rd (Z4 Z0u) l1), (1, rd (Z0 .i64) kind2), (4, Z7 g3 (Lens.id Z0u)), (6, rd (Z0 .i64) n.2)]) (fun n => [(5, Z9 g3 124 Z0u Zm9)]) (((((l1.length : Int) : Int) - 0).toNat + 1), 0) ⟨trivial, h⟩ ⟨rfl, ⟨rfl, rfl, rfl, rfl, trivial⟩, ⟨rfl, trivial⟩⟩ ?_
 rintro ⟨m6, i5⟩ ⟨hsf1, h⟩
 change True at hsf1
 change Z9s l1 kind2 m6 i5 = some r at h
 change AW _ _ _ ⟨Zw [(0, rd (Z4 Z0u) l1), (1, rd (Z0 .i64) kind2), (4, Z7 g3 (Lens.id Z0u)), (6, rd (Z0 .i64) i5)], Zx [(5, Z9 g3 124 Z0u Zm9)], _⟩
 cases m6 with
 | zero => cases h
 | succ m6 =>
  unfold Z9s at h
  generalize hgo1 : Z9s l1 kind2 m6 = go1 at h
  refine AW.seq <| SR <| Md rfl <| Md rfl <| Ac (Z0j rfl rfl Z7w (vt rfl)) rfl <| Ac (Zl rfl rfl (vt rfl) (vt rfl)) rfl <| Nl <| Cn rfl (fun hc => ?_) (fun hc => ?_)
  ·have h := Ze hc h
   refine AW.skip <| AW.seq <| AW.block <| AW.seq ?_
   obtain ⟨e7, he7, h⟩ := Z1 h
   refine Rg <| Md rfl <| Md rfl <| Ac (Z0l rfl rfl Z7w (vt rfl) (vt rfl) he7) rfl <| Fp Zhb Zyq rfl <| Lp1 Zv rfl <| Md rfl <| Ac (Z0i rfl rfl (vt rfl) (vt rfl)) rfl <| Nl <| Cn rfl (fun hc => ?_) (fun hc => ?_)
   ·have h := Ze hc h
    refine AW.seq ?_
    obtain ⟨e8, he8, h⟩ := Z1 h
    refine Rg <| Md rfl <| Md rfl <| Ac (Z0l rfl rfl Z7w (vt rfl) (vt rfl) he8) rfl <| Lp1 Z2y rfl <| Zh Z2y 5 rfl <| Ab rfl <| Nl <| AW.ret ?_
    obtain rfl := si h
    exact Z23 Tryz.results151 rfl (Z04 rfl (i := 5) rfl Z2y) (Z6 rfl)
   ·have h := Zf hc h
    refine AW.skip <| Rg <| Md rfl <| Ac (Z08 rfl rfl (vt rfl) (vk rfl)) rfl <| As rfl <| Nl ?_
    subst hgo1
    exact ⟨(m6, (IntKind.i64.wrap (i5 + 1))), Nat.lt_succ_self _, ⟨trivial, h⟩, ⟨rfl, ⟨rfl, rfl, rfl, rfl, trivial⟩, ⟨rfl, trivial⟩⟩⟩
  ·have h := Zf hc h
   refine AW.exit <| SR <| Ac (Z01 (ps := []) (x := (⟨0, 0, Z05, Z05, []⟩ : Inst)) rfl rfl rfl (by kernel_rfl) Z3e rfl) rfl <| Zh Z2y 5 rfl <| Ab rfl <| Nl <| AW.ret ?_
   obtain rfl := si h
   exact Z23 Tryz.results151 rfl (Z04 rfl (i := 5) rfl Z2y) (Z6 rfl)
def Z8s : Nat → (Vector Tern 24) → Int → Option (Vector Tern 24)
 | 0, _, _ => none
 | m8 + 1, b6, f7 => (bif (decide (f7 < 24)) then (chk 24 f7).bind fun j9 => (Z8f (Vector.get b6 j9)).bind fun x10 => (chk 24 f7).bind fun j11 => (Z8s m8) (Vector.set b6 j11.1 x10 j11.2) (IntKind.i64.wrap (f7 + 1)) else some b6)
def Zc5 (r1 : (Vector Tern 24)) : Option (Vector Tern 24) :=
 Z8s (((24 : Int) - 0).toNat + 1) r1 0
theorem Zo8 (r1 : (Vector Tern 24)) (r : (Vector Tern 24)) (h : Zc5 r1 = some r) : PCon Tryz.prog 145 [rd (Z2 24 Z3) r1] (rd (Z2 24 Z3) r) := by
 refine PCon.of (Con.intro0 Tryz.func145 rfl Tryz.ntmps145 rfl fun w H => ?_)
 unfold Zc5 at h
 refine SR <| Ct rfl (Zo 2 rfl rfl (vt rfl)) ?_
 rintro _ ⟨g2, rfl⟩
 refine Ct rfl (Zm 3 rfl rfl Z2u) ?_
 rintro _ ⟨g3, rfl⟩
 refine Nl <| AW.seq <| SR <| Ak rfl <| Nl <| AW.block <| AW.loopG (d := []) (ν := Nat × (Vector Tern 24) × Int) (fun n => True ∧ Z8s n.1 n.2.1 n.2.2 = some r) (fun n => n.1) (fun n => [(1, Z7 g2 (Lens.id (Z2 24 Z3))), (2, Z7 g3 (Lens.id (Z2 24 Z3))), (3, rd (Z0 .i64) n.2.2)]) (fun n => [(2, Z9 g2 101 (Z2 24 Z3) n.2.1), (3, Z9 g3 101 (Z2 24 Z3) (Vector.replicate 24 zTern))]) ((((24 : Int) - 0).toNat + 1), r1, 0) ⟨trivial, h⟩ ⟨rfl, ⟨rfl, rfl, rfl, trivial⟩, ⟨rfl, rfl, trivial⟩⟩ ?_
 rintro ⟨m8, b6, f7⟩ ⟨hsf1, h⟩
 change True at hsf1
 change Z8s m8 b6 f7 = some r at h
 change AW _ _ _ ⟨Zw [(1, Z7 g2 (Lens.id (Z2 24 Z3))), (2, Z7 g3 (Lens.id (Z2 24 Z3))), (3, rd (Z0 .i64) f7)], Zx [(2, Z9 g2 101 (Z2 24 Z3) b6), (3, Z9 g3 101 (Z2 24 Z3) (Vector.replicate 24 zTern))], _⟩
 cases m8 with
 | zero => cases h
 | succ m8 =>
  unfold Z8s at h
  generalize hgo1 : Z8s m8 = go1 at h
  refine AW.seq <| SR <| Md rfl <| Ac (Zl rfl rfl (vt rfl) (vk rfl)) rfl <| Nl <| Cn rfl (fun hc => ?_) (fun hc => ?_)
  ·have h := Ze hc h
   refine AW.skip <| AW.seq <| AW.block ?_
   obtain ⟨j9, hj9, h⟩ := Z1 h
   obtain ⟨x10, hx10, h⟩ := Z1 h
   obtain ⟨j11, hj11, h⟩ := Z1 h
   refine Rg <| Md rfl <| Md rfl <| Ac (Z15 rfl rfl Z3c (vt rfl) (vt rfl) hj9) rfl <| Ld Z00 2 rfl <| Cl [11] (Zi1 _ _ hx10) Zja rfl <| Ac (Z15 rfl rfl Z3c (vt rfl) (vt rfl) hj11) rfl <| Zh Z00 2 rfl <| Nl <| Rg <| Md rfl <| Ac (Z08 rfl rfl (vt rfl) (vk rfl)) rfl <| As rfl <| Nl ?_
   subst hgo1
   exact ⟨(m8, (Vector.set b6 j11.1 x10 j11.2), (IntKind.i64.wrap (f7 + 1))), Nat.lt_succ_self _, ⟨trivial, h⟩, ⟨rfl, ⟨rfl, rfl, rfl, trivial⟩, ⟨rfl, rfl, trivial⟩⟩⟩
  ·have h := Zf hc h
   refine AW.exit <| SR <| Ld Z02 2 rfl <| Zh Z02 3 rfl <| Nl <| AW.ret ?_
   obtain rfl := si h
   exact Zg Tryz.results145 rfl (Z04 rfl (i := 3) rfl Z02)
def Z90 (x7 : (Vector Tern 24)) : Nat → (Vector Tern 24) → Int → Option (Vector Tern 24)
 | 0, _, _ => none
 | m12 + 1, b10, f11 => (bif (decide (f11 < 24)) then (chk 24 f11).bind fun j13 => (chk 24 f11).bind fun j14 => (Zh9 ((Vector.get b10 j13).Value) ((Vector.get x7 j14).Mask)).bind fun x15 => (chk 24 f11).bind fun j16 => (Zad x15 ((Vector.get x7 j16).Value)).bind fun x17 => (chk 24 f11).bind fun j18 => (chk 24 f11).bind fun j19 => (Zad ((Vector.get b10 j18).Mask) ((Vector.get x7 j19).Mask)).bind fun x20 => (chk 24 f11).bind fun j21 => (Z90 x7 m12) (Vector.set b10 j21.1 (⟨x17, x20⟩ : Tern) j21.2) (IntKind.i64.wrap (f11 + 1)) else some b10)
def Zd8 (a1 : (Vector Tern 24)) (b2 : (Vector Tern 24)) : Option (Vector Tern 24) :=
 (Zc5 a1).bind fun x6 => (Zc5 b2).bind fun x7 => Z90 x7 (((24 : Int) - 0).toNat + 1) x6 0
theorem Zv4 (a1 : (Vector Tern 24)) (b2 : (Vector Tern 24)) (r : (Vector Tern 24)) (h : Zd8 a1 b2 = some r) : PCon Tryz.prog 226 [rd (Z2 24 Z3) a1, rd (Z2 24 Z3) b2] (rd (Z2 24 Z3) r) := by
 refine PCon.of (Con.intro0 Tryz.func226 rfl Tryz.ntmps226 rfl fun w H => ?_)
 unfold Zd8 at h
 refine SR <| Ct rfl (Zo 3 rfl rfl (vt rfl)) ?_
 rintro _ ⟨g3, rfl⟩
 refine Ct rfl (Zo 4 rfl rfl (vt rfl)) ?_
 rintro _ ⟨g4, rfl⟩
 refine Ct rfl (Zm 5 rfl rfl Z2u) ?_
 rintro _ ⟨g5, rfl⟩
 refine Nl <| AW.seq ?_
 obtain ⟨x6, hx6, h⟩ := Z1 h
 obtain ⟨x7, hx7, h⟩ := Z1 h
 refine AW.regionAny [⟨[2], [6], [3], []⟩, ⟨[6], [7], [], []⟩, ⟨[3], [8], [4], []⟩, ⟨[8], [9], [], []⟩, ⟨[2, 7], [], [3], [3]⟩, ⟨[3, 9], [], [4], [4]⟩] Z06 (by kernel_rfl) <| Zq Z02 3 rfl <| SCl [6] (Zo8 _ _ hx6) Zqv rfl <| Zq Z02 4 rfl <| SCl [8] (Zo8 _ _ hx7) Zqv rfl <| SSt Z02 3 rfl <| SSt Z02 4 rfl <| AW.seq <| SR <| Ak rfl <| Nl <| AW.block <| AW.loopG (d := []) (ν := Nat × (Vector Tern 24) × Int) (fun n => True ∧ Z90 x7 n.1 n.2.1 n.2.2 = some r) (fun n => n.1) (fun n => [(2, Z7 g3 (Lens.id (Z2 24 Z3))), (3, Z7 g4 (Lens.id (Z2 24 Z3))), (4, Z7 g5 (Lens.id (Z2 24 Z3))), (5, rd (Z0 .i64) n.2.2)]) (fun n => [(3, Z9 g3 101 (Z2 24 Z3) n.2.1), (4, Z9 g4 101 (Z2 24 Z3) x7), (5, Z9 g5 101 (Z2 24 Z3) (Vector.replicate 24 zTern))]) ((((24 : Int) - 0).toNat + 1), x6, 0) ⟨trivial, h⟩ ⟨rfl, ⟨rfl, rfl, rfl, rfl, trivial⟩, ⟨rfl, rfl, rfl, trivial⟩⟩ ?_
 rintro ⟨m12, b10, f11⟩ ⟨hsf1, h⟩
 change True at hsf1
 change Z90 x7 m12 b10 f11 = some r at h
 change AW _ _ _ ⟨Zw [(2, Z7 g3 (Lens.id (Z2 24 Z3))), (3, Z7 g4 (Lens.id (Z2 24 Z3))), (4, Z7 g5 (Lens.id (Z2 24 Z3))), (5, rd (Z0 .i64) f11)], Zx [(3, Z9 g3 101 (Z2 24 Z3) b10), (4, Z9 g4 101 (Z2 24 Z3) x7), (5, Z9 g5 101 (Z2 24 Z3) (Vector.replicate 24 zTern))], _⟩
 cases m12 with
 | zero => cases h
 | succ m12 =>
  unfold Z90 at h
  generalize hgo1 : Z90 x7 m12 = go1 at h
  refine AW.seq <| SR <| Md rfl <| Ac (Zl rfl rfl (vt rfl) (vk rfl)) rfl <| Nl <| Cn rfl (fun hc => ?_) (fun hc => ?_)
  ·have h := Ze hc h
   refine AW.skip <| AW.seq <| AW.block ?_
   obtain ⟨j13, hj13, h⟩ := Z1 h
   obtain ⟨j14, hj14, h⟩ := Z1 h
   obtain ⟨x15, hx15, h⟩ := Z1 h
   obtain ⟨j16, hj16, h⟩ := Z1 h
   obtain ⟨x17, hx17, h⟩ := Z1 h
   obtain ⟨j18, hj18, h⟩ := Z1 h
   obtain ⟨j19, hj19, h⟩ := Z1 h
   obtain ⟨x20, hx20, h⟩ := Z1 h
   obtain ⟨j21, hj21, h⟩ := Z1 h
   refine AW.regionAny [⟨[5], [14], [], []⟩, ⟨[5], [15], [], []⟩, ⟨[2, 15], [16], [], []⟩, ⟨[16], [17], [], []⟩, ⟨[17], [18], [3], []⟩, ⟨[5], [19], [], []⟩, ⟨[3, 19], [20], [], []⟩, ⟨[20], [21], [], []⟩, ⟨[21], [22], [4], []⟩, ⟨[18, 22], [23], [], []⟩, ⟨[5], [24], [], []⟩, ⟨[3, 24], [25], [], []⟩, ⟨[25], [26], [], []⟩, ⟨[26], [27], [4], []⟩, ⟨[23, 27], [28], [], []⟩, ⟨[5], [29], [], []⟩, ⟨[2, 29], [30], [], []⟩, ⟨[30], [31], [], []⟩, ⟨[31], [32], [3], []⟩, ⟨[5], [33], [], []⟩, ⟨[3, 33], [34], [], []⟩, ⟨[34], [35], [], []⟩, ⟨[35], [36], [4], []⟩, ⟨[32, 36], [37], [], []⟩, ⟨[28, 37], [38], [], []⟩, ⟨[2, 14], [39], [], []⟩, ⟨[39, 38], [], [3], [3]⟩] Z06 (by kernel_rfl) <| Zu rfl <| Zu rfl <| Sc (lo [2, 15] [] rfl fun S hs hr => Z15 rfl rfl Z3c (vh hs 2 rfl rfl) (vh hs 15 rfl rfl) hj13) rfl <| SFd Z1a Z2f rfl <| Zq Zt 3 rfl <| Zu rfl <| Sc (lo [3, 19] [] rfl fun S hs hr => Z15 rfl rfl Z3c (vh hs 3 rfl rfl) (vh hs 19 rfl rfl) hj14) rfl <| SFd Z0z Z1y rfl <| Zq Zt 4 rfl <| SCl [18, 22] (Zu1 _ _ _ hx15) Zst rfl <| Zu rfl <| Sc (lo [3, 24] [] rfl fun S hs hr => Z15 rfl rfl Z3c (vh hs 3 rfl rfl) (vh hs 24 rfl rfl) hj16) rfl <| SFd Z1a Z2f rfl <| Zq Zt 4 rfl <| SCl [23, 27] (Zi2 _ _ _ hx17) Zh8 rfl <| Zu rfl <| Sc (lo [2, 29] [] rfl fun S hs hr => Z15 rfl rfl Z3c (vh hs 2 rfl rfl) (vh hs 29 rfl rfl) hj18) rfl <| SFd Z0z Z1y rfl <| Zq Zt 3 rfl <| Zu rfl <| Sc (lo [3, 33] [] rfl fun S hs hr => Z15 rfl rfl Z3c (vh hs 3 rfl rfl) (vh hs 33 rfl rfl) hj19) rfl <| SFd Z0z Z1y rfl <| Zq Zt 4 rfl <| SCl [32, 36] (Zi2 _ _ _ hx20) Zh8 rfl <| Sc (lo [28, 37] [] rfl fun S hs hr => Z01 (ps := [(0, .tmp 28), (1, .tmp 37)]) (x := (⟨x17, x20⟩ : Tern)) rfl rfl rfl (by kernel_rfl) Z16 ⟨_, _, Z1a, _, by kernel_rfl, (vh hs 28 rfl rfl), _, _, Z0z, _, by kernel_rfl, (vh hs 37 rfl rfl), rfl⟩) rfl <| Sc (lo [2, 14] [] rfl fun S hs hr => Z15 rfl rfl Z3c (vh hs 2 rfl rfl) (vh hs 14 rfl rfl) hj21) rfl <| SSt Z00 3 rfl <| Rg <| Md rfl <| Ac (Z08 rfl rfl (vt rfl) (vk rfl)) rfl <| As rfl <| Nl ?_
   subst hgo1
   exact ⟨(m12, (Vector.set b10 j21.1 (⟨x17, x20⟩ : Tern) j21.2), (IntKind.i64.wrap (f11 + 1))), Nat.lt_succ_self _, ⟨trivial, h⟩, ⟨rfl, ⟨rfl, rfl, rfl, rfl, trivial⟩, ⟨rfl, rfl, rfl, trivial⟩⟩⟩
  ·have h := Zf hc h
   refine AW.exit <| SR <| Ld Z02 3 rfl <| Zh Z02 5 rfl <| Nl <| AW.ret ?_
   obtain rfl := si h
   exact Zg Tryz.results226 rfl (Z04 rfl (i := 5) rfl Z02)
end Go.Proofs.YtknpgojdkobgjaaGreat.W
set_option maxRecDepth 4000
namespace Go.Proofs.YtknpgojdkobgjaaGreat.W
open Go Go.Wb
theorem Zxo : Ent Tryz.prog 226 := Ent.mk Tryz.func226 rfl rfl
theorem e80 : Ent Tryz.prog 80 := Ent.mk Tryz.func80 rfl rfl
theorem Zig : Ent Tryz.prog 154 := Ent.mk Tryz.func154 rfl rfl
theorem Y2b : Ent Tryz.prog 272 := Ent.mk Tryz.func272 rfl rfl
theorem Y3b : Ent Tryz.prog 224 := Ent.mk Tryz.func224 rfl rfl
theorem Zjs : Ent Tryz.prog 227 := Ent.mk Tryz.func227 rfl rfl
theorem Ydq : Ent Tryz.prog 228 := Ent.mk Tryz.func228 rfl rfl
theorem Y8e : Ent Tryz.prog 139 := Ent.mk Tryz.func139 rfl rfl
theorem Y0c : Ent Tryz.prog 141 := Ent.mk Tryz.func141 rfl rfl
theorem Y6d : Ent Tryz.prog 140 := Ent.mk Tryz.func140 rfl rfl
theorem Zxf : Ent Tryz.prog 142 := Ent.mk Tryz.func142 rfl rfl
theorem Yc1 : Ent Tryz.prog 143 := Ent.mk Tryz.func143 rfl rfl
def Zf0 (r1 : (Vector Tern 24)) (b10 : (Vector Tern 24)) : Option (Vector Tern 24) :=
 (Zd8 r1 b10).bind fun x11 => some x11
def Z9d (r1 : (Vector Tern 24)) (f2 : Int) (value3 : Wide) (mask4 : Wide) : Option (Vector Tern 24) :=
 (Zaq f2).bind fun x12 => (bif x12 then (chk 24 f2).bind fun j13 => Zf0 r1 (Vector.set (Vector.replicate 24 zTern) j13.1 (⟨value3, mask4⟩ : Tern) j13.2) else Zf0 r1 (Vector.replicate 24 zTern))
theorem Zg6 (r1 : (Vector Tern 24)) (f2 : Int) (value3 : Wide) (mask4 : Wide) (r : (Vector Tern 24)) (h : Z9d r1 f2 value3 mask4 = some r) : PCon Tryz.prog 154 [rd (Z2 24 Z3) r1, rd (Z0 .i64) f2, rd Zn value3, rd Zn mask4] (rd (Z2 24 Z3) r) := by
 refine PCon.of (Con.intro0 Tryz.func154 rfl Tryz.ntmps154 rfl fun w H => ?_)
 unfold Z9d at h
 refine SR <| Ct rfl (Zo 5 rfl rfl (vt rfl)) ?_
 rintro _ ⟨g5, rfl⟩
 refine Ct rfl (Zo 7 rfl rfl (vt rfl)) ?_
 rintro _ ⟨g6, rfl⟩
 refine Ct rfl (Zo 8 rfl rfl (vt rfl)) ?_
 rintro _ ⟨g7, rfl⟩
 refine Ct rfl (Zm 9 rfl rfl Z2u) ?_
 rintro _ ⟨g8, rfl⟩
 refine Nl <| SR <| Ac (Z01 (ps := []) (x := (Vector.replicate 24 zTern)) rfl rfl rfl (by kernel_rfl) Z2u rfl) rfl <| Ct rfl (Zm 10 rfl rfl Z2u) ?_
 rintro _ ⟨g9, rfl⟩
 refine Zh Z02 10 rfl <| Nl ?_
 refine AW.join (d := []) (ν := (Vector Tern 24)) (fun n => Zf0 r1 n = some r) (fun n => [(4, Z7 g5 (Lens.id (Z2 24 Z3))), (8, Z7 g8 (Lens.id (Z2 24 Z3))), (9, Z7 g9 (Lens.id (Z2 24 Z3)))]) (fun n => [(5, Z9 g5 101 (Z2 24 Z3) r1), (9, Z9 g8 101 (Z2 24 Z3) (Vector.replicate 24 zTern)), (10, Z9 g9 101 (Z2 24 Z3) n)]) ?hx1 ?hy1
 case hy1 =>
  intro b10 h
  unfold Zf0 at h
  change AW _ _ _ ⟨Zw [(4, Z7 g5 (Lens.id (Z2 24 Z3))), (8, Z7 g8 (Lens.id (Z2 24 Z3))), (9, Z7 g9 (Lens.id (Z2 24 Z3)))], Zx [(5, Z9 g5 101 (Z2 24 Z3) r1), (9, Z9 g8 101 (Z2 24 Z3) (Vector.replicate 24 zTern)), (10, Z9 g9 101 (Z2 24 Z3) b10)], _⟩
  refine AW.seq ?_
  obtain ⟨x11, hx11, h⟩ := Z1 h
  refine Rg <| Ld Z02 5 rfl <| Ld Z02 10 rfl <| Cl [18, 19] (Zv4 _ _ _ hx11) Zxo rfl <| Zh Z02 9 rfl <| Nl <| AW.ret ?_
  obtain rfl := si h
  exact Zg Tryz.results154 rfl (Z04 rfl (i := 9) rfl Z02)
 case hx1 =>
  refine AW.seq ?_
  obtain ⟨x12, hx12, h⟩ := Z1 h
  refine Rg <| Md rfl <| Cl [11] (Zno _ _ hx12) Znj rfl <| Nl <| Cn rfl (fun hc => ?_) (fun hc => ?_)
  ·have h := Ze hc h
   obtain ⟨j13, hj13, h⟩ := Z1 h
   refine Rg <| Md rfl <| Ld Zt 7 rfl <| Ld Zt 8 rfl <| Ac (Z01 (ps := [(0, .tmp 14), (1, .tmp 15)]) (x := (⟨value3, mask4⟩ : Tern)) rfl rfl rfl (by kernel_rfl) Z16 ⟨_, _, Z1a, _, by kernel_rfl, (vt rfl), _, _, Z0z, _, by kernel_rfl, (vt rfl), rfl⟩) rfl <| Ac (Z15 rfl rfl Z3c (vt rfl) (vt rfl) hj13) rfl <| Zh Z00 10 rfl <| Nl ?_
   exact ⟨(Vector.set (Vector.replicate 24 zTern) j13.1 (⟨value3, mask4⟩ : Tern) j13.2), h, ⟨rfl, ⟨rfl, rfl, rfl, trivial⟩, ⟨rfl, rfl, rfl, trivial⟩⟩⟩
  ·have h := Zf hc h
   refine AW.skip ?_
   exact ⟨(Vector.replicate 24 zTern), h, ⟨rfl, ⟨rfl, rfl, rfl, trivial⟩, ⟨rfl, rfl, rfl, trivial⟩⟩⟩
def Zi3 (a1 : Action) : Option (Vector Tern 24) :=
 (bif (decide (a1.Kind = 25)) then (Zf4 a1.Oxm).bind fun x4 => (Z98).bind fun x6 => (Z9d x6 a1.Oxm.Field x4.Value x4.Mask).bind fun x7 => some x7 else (bif (decide (a1.Kind = 17)) then (Z98).bind fun x8 => (Z8c 12).bind fun x9 => (Z8c 12).bind fun x10 => (Z9d x8 5 x9 x10).bind fun x11 => some x11 else (bif (decide (a1.Kind = 18)) then (Z98).bind fun x12 => (Z9o 13).bind fun x13 => (Z9d x12 5 (⟨0, 0⟩ : Wide) x13).bind fun x14 => (Z9o 3).bind fun x16 => (Z9d x14 6 (⟨0, 0⟩ : Wide) x16).bind fun x17 => some x17 else (Z98).bind fun x18 => some x18)))
theorem Y6n (a1 : Action) (r : (Vector Tern 24)) (h : Zi3 a1 = some r) : PCon Tryz.prog 272 [rd Z5 a1] (rd (Z2 24 Z3) r) := by
 refine PCon.of (Con.intro0 Tryz.func272 rfl Tryz.ntmps272 rfl fun w H => ?_)
 unfold Zi3 at h
 refine SR <| Ct rfl (Zo 2 rfl rfl (vt rfl)) ?_
 rintro _ ⟨g2, rfl⟩
 refine Ct rfl (Zm 3 rfl rfl Z2u) ?_
 rintro _ ⟨g3, rfl⟩
 refine Nl <| AW.seq <| SR <| Zp Z45 Z4r rfl <| Ld Zv 2 rfl <| Nl <| AW.block <| SR <| Ac (Z0i rfl rfl (vt rfl) (vk rfl)) rfl <| As rfl <| Nl <| Cn rfl (fun hc => ?_) (fun hc => ?_)
 ·have h := Ze hc h
  refine AW.seq ?_
  obtain ⟨x4, hx4, h⟩ := Z1 h
  refine Rg <| Zp Z7e Z9g rfl <| Ld Zcn 2 rfl <| Cl [10] (Zz8 _ _ hx4) Zx9 rfl <| Ct rfl (Zm 4 rfl rfl Z16) ?_
  rintro _ ⟨g5, rfl⟩
  refine Zh Z00 4 rfl <| Nl <| AW.seq ?_
  obtain ⟨x6, hx6, h⟩ := Z1 h
  obtain ⟨x7, hx7, h⟩ := Z1 h
  refine AW.regionAny [⟨[], [12], [], []⟩, ⟨[1], [13], [], []⟩, ⟨[13], [14], [], []⟩, ⟨[14], [15], [2], []⟩, ⟨[3], [16], [], []⟩, ⟨[16], [17], [4], []⟩, ⟨[3], [18], [], []⟩, ⟨[18], [19], [4], []⟩, ⟨[12, 15, 17, 19], [20], [], []⟩, ⟨[2, 20], [], [3], [3]⟩] Z06 (by kernel_rfl) <| SCl [] (Zgf _ hx6) e80 rfl <| SFd Z7e Z9g rfl <| SFd Z46 Z4m rfl <| Zq Zv 2 rfl <| SFd Z1a Z2f rfl <| Zq Zt 4 rfl <| SFd Z0z Z1y rfl <| Zq Zt 4 rfl <| SCl [12, 15, 17, 19] (Zg6 _ _ _ _ _ hx7) Zig rfl <| SSt Z02 3 rfl <| AW.ret ?_
  obtain rfl := si h
  exact Zg Tryz.results272 rfl (Z04 rfl (i := 3) rfl Z02)
 ·have h := Zf hc h
  refine SR <| Ac (Z0i rfl rfl (vt rfl) (vk rfl)) rfl <| As rfl <| Nl <| Cn rfl (fun hc => ?_) (fun hc => ?_)
  ·have h := Ze hc h
   refine AW.seq ?_
   obtain ⟨x8, hx8, h⟩ := Z1 h
   obtain ⟨x9, hx9, h⟩ := Z1 h
   obtain ⟨x10, hx10, h⟩ := Z1 h
   obtain ⟨x11, hx11, h⟩ := Z1 h
   refine Rg <| Cl [] (Zgf _ hx8) e80 rfl <| Ac (Z0k (xs := [.const (Value.int IntKind.i64 12)]) (Zky _ _ hx9) Zmv rfl rfl ⟨vk rfl, trivial⟩) rfl <| Ac (Z0k (xs := [.const (Value.int IntKind.i64 12)]) (Zky _ _ hx10) Zmv rfl rfl ⟨vk rfl, trivial⟩) rfl <| Ac (Z0k (xs := [.tmp 23, .const (Value.int IntKind.i64 5), .tmp 24, .tmp 25]) (Zg6 _ _ _ _ _ hx11) Zig rfl rfl ⟨vt rfl, vk rfl, vt rfl, vt rfl, trivial⟩) rfl <| Zh Z02 3 rfl <| Nl <| AW.ret ?_
   obtain rfl := si h
   exact Zg Tryz.results272 rfl (Z04 rfl (i := 3) rfl Z02)
  ·have h := Zf hc h
   refine SR <| Ac (Z0i rfl rfl (vt rfl) (vk rfl)) rfl <| As rfl <| Nl <| Cn rfl (fun hc => ?_) (fun hc => ?_)
   ·have h := Ze hc h
    refine AW.seq ?_
    obtain ⟨x12, hx12, h⟩ := Z1 h
    obtain ⟨x13, hx13, h⟩ := Z1 h
    obtain ⟨x14, hx14, h⟩ := Z1 h
    refine Rg <| Cl [] (Zgf _ hx12) e80 rfl <| Ac (Z01 (ps := []) (x := (⟨0, 0⟩ : Wide)) rfl rfl rfl (by kernel_rfl) Z1n rfl) rfl <| Ac (Z0k (xs := [.const (Value.int IntKind.i64 13)]) (Zoo _ _ hx13) Znk rfl rfl ⟨vk rfl, trivial⟩) rfl <| Ac (Z0k (xs := [.tmp 29, .const (Value.int IntKind.i64 5), .tmp 30, .tmp 31]) (Zg6 _ _ _ _ _ hx14) Zig rfl rfl ⟨vt rfl, vk rfl, vt rfl, vt rfl, trivial⟩) rfl <| Ct rfl (Zm 5 rfl rfl Z2u) ?_
    rintro _ ⟨g15, rfl⟩
    refine Zh Z02 5 rfl <| Nl <| AW.seq ?_
    obtain ⟨x16, hx16, h⟩ := Z1 h
    obtain ⟨x17, hx17, h⟩ := Z1 h
    refine AW.regionAny [⟨[4], [33], [5], []⟩, ⟨[], [34], [], []⟩, ⟨[], [35], [], []⟩, ⟨[33, 34, 35], [36], [], []⟩, ⟨[2, 36], [], [3], [3]⟩] Z06 (by kernel_rfl) <| Zq Z02 5 rfl <| Sc (lo [] [] rfl fun S hs hr => Z01 (ps := []) (x := (⟨0, 0⟩ : Wide)) rfl rfl rfl (by kernel_rfl) Z1n rfl) rfl <| Sc (lo [] [] rfl fun S hs hr => Z0k (xs := [.const (Value.int IntKind.i64 3)]) (Zoo _ _ hx16) Znk rfl rfl ⟨vk rfl, trivial⟩) rfl <| Sc (lo [33, 34, 35] [] rfl fun S hs hr => Z0k (xs := [.tmp 33, .const (Value.int IntKind.i64 6), .tmp 34, .tmp 35]) (Zg6 _ _ _ _ _ hx17) Zig rfl rfl ⟨vt ((hs 33 rfl).trans rfl), vk rfl, vt ((hs 34 rfl).trans rfl), vt ((hs 35 rfl).trans rfl), trivial⟩) rfl <| SSt Z02 3 rfl <| AW.ret ?_
    obtain rfl := si h
    exact Zg Tryz.results272 rfl (Z04 rfl (i := 3) rfl Z02)
   ·have h := Zf hc h
    refine AW.skip <| AW.seq ?_
    obtain ⟨x18, hx18, h⟩ := Z1 h
    refine Rg <| Cl [] (Zgf _ hx18) e80 rfl <| Zh Z02 3 rfl <| Nl <| AW.ret ?_
    obtain rfl := si h
    exact Zg Tryz.results272 rfl (Z04 rfl (i := 3) rfl Z02)
def Zfc (l12 : (List Atom)) (go1 : (Vector Tern 24) → (List Atom) → Int → Option ((List Atom) × (Vector Tern 24))) (b11 : (Vector Tern 24)) (i14 : Int) (b19 : Atom) : Option ((List Atom) × (Vector Tern 24)) :=
 (Z0w l12 [b19]).bind fun l20 => go1 b11 l20 (IntKind.i64.wrap (i14 + 1))
def Z5o (acts1 : (List Action)) : Nat → (Vector Tern 24) → (List Atom) → Int → Option ((List Atom) × (Vector Tern 24))
 | 0, _, _, _ => none
 | m15 + 1, b11, l12, i14 => (bif (decide (i14 < (acts1.length : Int))) then (lget acts1 i14).bind fun e16 => (bif (decide (e16.Kind = 0)) then (lget acts1 i14).bind fun e17 => (bif (decide (((⟨b11, false, e17.Port, 0⟩ : Atom).Port) = 4294967293)) then (lget acts1 i14).bind fun e22 => Zfc l12 (Z5o acts1 m15) b11 i14 { (⟨b11, false, e17.Port, 0⟩ : Atom) with Max := e22.Max } else Zfc l12 (Z5o acts1 m15) b11 i14 (⟨b11, false, e17.Port, 0⟩ : Atom)) else (bif (decide (e16.Kind = 22)) then (lget acts1 i14).bind fun e23 => (Z0w l12 [(⟨b11, true, e23.Group, 0⟩ : Atom)]).bind fun l24 => (Z5o acts1 m15) b11 l24 (IntKind.i64.wrap (i14 + 1)) else (lget acts1 i14).bind fun e26 => (Zi3 e26).bind fun x27 => (Zd8 b11 x27).bind fun x28 => (Z5o acts1 m15) x28 l12 (IntKind.i64.wrap (i14 + 1)))) else some (l12, b11))
def Zbr (acts1 : (List Action)) (r2 : (Vector Tern 24)) : Option ((List Atom) × (Vector Tern 24)) :=
 (Zc5 r2).bind fun x5 => Z5o acts1 ((((acts1.length : Int) : Int) - 0).toNat + 1) x5 [] 0
theorem Zvj (acts1 : (List Action)) (r2 : (Vector Tern 24)) (r : ((List Atom) × (Vector Tern 24))) (h : Zbr acts1 r2 = some r) : PCon Tryz.prog 211 [rd (Z4 Z5) acts1, rd (Z2 24 Z3) r2] (Z1e (rd (Z4 Z03) r.1) (rd (Z2 24 Z3) r.2)) := by
 refine PCon.of (Con.intro0 Tryz.func211 rfl Tryz.ntmps211 rfl fun w H => ?_)
 unfold Zbr at h
 refine SR <| Ct rfl (Zo 4 rfl rfl (vt rfl)) ?_
 rintro _ ⟨g3, rfl⟩
 refine Ac (Z07 (A := rd (Z4 Z03) []) rfl rfl Z27) rfl <| Ct rfl (Zm 6 rfl rfl Z2u) ?_
 rintro _ ⟨g4, rfl⟩
 refine Nl <| AW.seq ?_
 obtain ⟨x5, hx5, h⟩ := Z1 h
 refine Rg <| Ld Z02 4 rfl <| Cl [9] (Zo8 _ _ hx5) Zqv rfl <| Zh Z02 4 rfl <| Nl <| SR <| Ct rfl (Z4c 1001 (ps := []) (l := []) rfl rfl Z3t Z4o rfl rfl rfl rfl) ?_
 rintro _ ⟨v6, rfl⟩
 refine Aw rfl <| Nl <| AW.seq <| SR <| Ak rfl <| Nl <| AW.block <| AW.loopG (d := []) (ν := Nat × (Vector Tern 24) × (List Atom) × Int × Value) (fun n => True ∧ Z5o acts1 n.1 n.2.1 n.2.2.1 n.2.2.2.1 = some r) (fun n => n.1) (fun n => [(0, rd (Z4 Z5) acts1), (3, Z7 g3 (Lens.id (Z2 24 Z3))), (5, Z7 g4 (Lens.id (Z2 24 Z3))), (6, Zc n.2.2.2.2), (7, rd (Z0 .i64) n.2.2.2.1)]) (fun n => [(4, Z9 g3 101 (Z2 24 Z3) n.2.1), (6, Z9 g4 101 (Z2 24 Z3) (Vector.replicate 24 zTern)), (1001, Za n.2.2.2.2 126 Z03 n.2.2.1)]) (((((acts1.length : Int) : Int) - 0).toNat + 1), x5, [], 0, v6) ⟨trivial, h⟩ ⟨rfl, ⟨rfl, rfl, rfl, rfl, rfl, trivial⟩, ⟨rfl, rfl, rfl, trivial⟩⟩ ?_
 rintro ⟨m15, b11, l12, i14, v13⟩ ⟨hsf1, h⟩
 change True at hsf1
 change Z5o acts1 m15 b11 l12 i14 = some r at h
 change AW _ _ _ ⟨Zw [(0, rd (Z4 Z5) acts1), (3, Z7 g3 (Lens.id (Z2 24 Z3))), (5, Z7 g4 (Lens.id (Z2 24 Z3))), (6, Zc v13), (7, rd (Z0 .i64) i14)], Zx [(4, Z9 g3 101 (Z2 24 Z3) b11), (6, Z9 g4 101 (Z2 24 Z3) (Vector.replicate 24 zTern)), (1001, Za v13 126 Z03 l12)], _⟩
 cases m15 with
 | zero => cases h
 | succ m15 =>
  unfold Z5o at h
  generalize hgo1 : Z5o acts1 m15 = go1 at h
  refine AW.seq <| SR <| Md rfl <| Md rfl <| Ac (Z0j rfl rfl Z0b (vt rfl)) rfl <| Ac (Zl rfl rfl (vt rfl) (vt rfl)) rfl <| Nl <| Cn rfl (fun hc => ?_) (fun hc => ?_)
  ·have h := Ze hc h
   refine AW.skip <| AW.seq <| AW.block <| AW.seq ?_
   obtain ⟨e16, he16, h⟩ := Z1 h
   refine Rg <| Md rfl <| Md rfl <| Ac (Z0l rfl rfl Z0b (vt rfl) (vt rfl) he16) rfl <| Fp Z45 Z4r rfl <| Lp1 Zv rfl <| Nl <| AW.block <| SR <| Ac (Z0i rfl rfl (vt rfl) (vk rfl)) rfl <| As rfl <| Nl <| Cn rfl (fun hc => ?_) (fun hc => ?_)
   ·have h := Ze hc h
    refine AW.seq ?_
    obtain ⟨e17, he17, h⟩ := Z1 h
    refine AW.regionAny [⟨[3], [32], [4], []⟩, ⟨[0], [33], [], []⟩, ⟨[7], [34], [], []⟩, ⟨[33, 34], [35], [], []⟩, ⟨[35], [36], [], []⟩, ⟨[36], [37], [], []⟩, ⟨[32, 37], [38], [], []⟩, ⟨[], [8], [], []⟩, ⟨[8, 38], [8], [], []⟩] Z06 (by kernel_rfl) <| Zq Z02 4 rfl <| Zu rfl <| Zu rfl <| Sc (lo [33, 34] [] rfl fun S hs hr => Z0l rfl rfl Z0b (vh hs 33 rfl rfl) (vh hs 34 rfl rfl) he17) rfl <| SFp Zgk Zns rfl <| SLp Zv rfl <| Sc (lo [32, 37] [] rfl fun S hs hr => Z01 (ps := [(0, .tmp 32), (2, .tmp 37)]) (x := (⟨b11, false, e17.Port, 0⟩ : Atom)) rfl rfl rfl (by kernel_rfl) Z4o ⟨_, _, Za9, _, by kernel_rfl, (vh hs 32 rfl rfl), _, _, Zdw, _, by kernel_rfl, (vh hs 37 rfl rfl), rfl⟩) rfl <| Sc (Z1b (us := [(8, Z25 126 Z03 Zq7)]) (ur := []) [] [] rfl fun S hs hr => Z5r rfl rfl rfl Z4o) rfl <| Sc (Z1b (us := [(8, Z25 126 Z03 (⟨b11, false, e17.Port, 0⟩ : Atom))]) (ur := []) [8, 38] [] rfl fun S hs hr => Z5n rfl rfl Z5t ((hs 8 rfl).trans rfl) (vh hs 38 rfl rfl)) rfl <| AW.unpackP 8 9 rfl rfl fun g18 => ?_
    refine AW.join (d := []) (ν := Atom) (fun n => Zfc l12 go1 b11 i14 n = some r) (fun n => [(0, rd (Z4 Z5) acts1), (3, Z7 g3 (Lens.id (Z2 24 Z3))), (5, Z7 g4 (Lens.id (Z2 24 Z3))), (6, Zc v13), (7, rd (Z0 .i64) i14), (8, Z7 g18 (Lens.id Z03))]) (fun n => [(4, Z9 g3 101 (Z2 24 Z3) b11), (6, Z9 g4 101 (Z2 24 Z3) (Vector.replicate 24 zTern)), (9, Z9 g18 126 Z03 n), (1001, Za v13 126 Z03 l12)]) ?hx2 ?hy2
    case hy2 =>
     intro b19 h
     unfold Zfc at h
     change AW _ _ _ ⟨Zw [(0, rd (Z4 Z5) acts1), (3, Z7 g3 (Lens.id (Z2 24 Z3))), (5, Z7 g4 (Lens.id (Z2 24 Z3))), (6, Zc v13), (7, rd (Z0 .i64) i14), (8, Z7 g18 (Lens.id Z03))], Zx [(4, Z9 g3 101 (Z2 24 Z3) b11), (6, Z9 g4 101 (Z2 24 Z3) (Vector.replicate 24 zTern)), (9, Z9 g18 126 Z03 b19), (1001, Za v13 126 Z03 l12)], _⟩
     obtain ⟨l20, hl20, h⟩ := Z1 h
     refine Rg <| Mw rfl <| Ld Z5t 9 rfl <| Ac (Z2o (ps := [(0, .tmp 49)]) (l := [b19]) rfl rfl Z3t Z4o rfl rfl ⟨_, _, Lens.idx 1 Z03 0 (by decide), _, rfl, (vt rfl), rfl⟩ rfl) rfl <| Ct rfl (Z2l 1001 hl20 rfl rfl Z8g (vt rfl) rfl (vt rfl)) ?_
     rintro _ ⟨v21, rfl⟩
     refine Aw rfl <| Nl <| Rg <| Md rfl <| Ac (Z08 rfl rfl (vt rfl) (vk rfl)) rfl <| As rfl <| Nl ?_
     subst hgo1
     exact ⟨(m15, b11, l20, (IntKind.i64.wrap (i14 + 1)), v21), Nat.lt_succ_self _, ⟨trivial, h⟩, ⟨rfl, ⟨rfl, rfl, rfl, rfl, rfl, trivial⟩, ⟨rfl, rfl, rfl, trivial⟩⟩⟩
    case hx2 =>
     refine SR <| Zp Zdw Zoh rfl <| Ld Zv 9 rfl <| Ac (Z0i rfl rfl (vt rfl) (vk rfl)) rfl <| Nl <| Cn rfl (fun hc => ?_) (fun hc => ?_)
     ·have h := Ze hc h
      obtain ⟨e22, he22, h⟩ := Z1 h
      refine Rg <| Md rfl <| Md rfl <| Ac (Z0l rfl rfl Z0b (vt rfl) (vt rfl) he22) rfl <| Fp Zo4 Zxd rfl <| Lp1 Zv rfl <| Zp Zr7 Zx2 rfl <| Zh Zv 9 rfl <| Nl ?_
      exact ⟨{ (⟨b11, false, e17.Port, 0⟩ : Atom) with Max := e22.Max }, h, ⟨rfl, ⟨rfl, rfl, rfl, rfl, rfl, rfl, trivial⟩, ⟨rfl, rfl, rfl, rfl, trivial⟩⟩⟩
     ·have h := Zf hc h
      refine AW.skip ?_
      exact ⟨(⟨b11, false, e17.Port, 0⟩ : Atom), h, ⟨rfl, ⟨rfl, rfl, rfl, rfl, rfl, rfl, trivial⟩, ⟨rfl, rfl, rfl, rfl, trivial⟩⟩⟩
   ·have h := Zf hc h
    refine SR <| Ac (Z0i rfl rfl (vt rfl) (vk rfl)) rfl <| As rfl <| Nl <| Cn rfl (fun hc => ?_) (fun hc => ?_)
    ·have h := Ze hc h
     obtain ⟨e23, he23, h⟩ := Z1 h
     obtain ⟨l24, hl24, h⟩ := Z1 h
     refine AW.regionAny [⟨[6], [54], [], []⟩, ⟨[3], [55], [4], []⟩, ⟨[0], [56], [], []⟩, ⟨[7], [57], [], []⟩, ⟨[56, 57], [58], [], []⟩, ⟨[58], [59], [], []⟩, ⟨[59], [60], [], []⟩, ⟨[55, 60], [61], [], []⟩, ⟨[61], [62], [], []⟩, ⟨[54, 62], [63], [1001], [1001]⟩, ⟨[63], [63, 6], [1002], []⟩] Z06 (by kernel_rfl) <| SMw rfl <| Zq Z02 4 rfl <| Zu rfl <| Zu rfl <| Sc (lo [56, 57] [] rfl fun S hs hr => Z0l rfl rfl Z0b (vh hs 56 rfl rfl) (vh hs 57 rfl rfl) he23) rfl <| SFp Zqh Zw7 rfl <| SLp Zv rfl <| Sc (lo [55, 60] [] rfl fun S hs hr => Z01 (ps := [(0, .tmp 55), (1, .const (Value.bool true)), (2, .tmp 60)]) (x := (⟨b11, true, e23.Group, 0⟩ : Atom)) rfl rfl rfl (by kernel_rfl) Z4o ⟨_, _, Za9, _, by kernel_rfl, (vh hs 55 rfl rfl), _, _, Zr9, _, by kernel_rfl, vb, _, _, Zdw, _, by kernel_rfl, (vh hs 60 rfl rfl), rfl⟩) rfl <| Sc (lo [61] [] rfl fun S hs hr => Z2o (ps := [(0, .tmp 61)]) (l := [(⟨b11, true, e23.Group, 0⟩ : Atom)]) rfl rfl Z3t Z4o rfl rfl ⟨_, _, Lens.idx 1 Z03 0 (by decide), _, rfl, (vh hs 61 rfl rfl), rfl⟩ rfl) rfl <| Sc (Z1b (us := [(63, Z1u 126 Z03 l24)]) (ur := [(1001, emp)]) [54, 62] [1001] rfl fun S hs hr => Za4 1001 hl24 rfl rfl rfl Z8g (vh hs 54 rfl rfl) ((hr 1001 rfl).trans rfl) (vh hs 62 rfl rfl)) rfl <| Sc (Z1b (us := [(63, top), (6, Z1u 126 Z03 l24)]) (ur := []) [63] [1002] rfl fun S hs hr => Zjr 1002 rfl rfl rfl rfl ((hs 63 rfl).trans rfl) ((hr 1002 rfl).trans rfl)) rfl <| AW.unpackR 6 1001 rfl rfl fun v25 => Rg <| Md rfl <| Ac (Z08 rfl rfl (vt rfl) (vk rfl)) rfl <| As rfl <| Nl ?_
     subst hgo1
     exact ⟨(m15, b11, l24, (IntKind.i64.wrap (i14 + 1)), v25), Nat.lt_succ_self _, ⟨trivial, h⟩, ⟨rfl, ⟨rfl, rfl, rfl, rfl, rfl, trivial⟩, ⟨rfl, rfl, rfl, trivial⟩⟩⟩
    ·have h := Zf hc h
     obtain ⟨e26, he26, h⟩ := Z1 h
     obtain ⟨x27, hx27, h⟩ := Z1 h
     obtain ⟨x28, hx28, h⟩ := Z1 h
     refine AW.regionAny [⟨[3], [23], [4], []⟩, ⟨[0], [24], [], []⟩, ⟨[7], [25], [], []⟩, ⟨[24, 25], [26], [], []⟩, ⟨[26], [27], [], []⟩, ⟨[27], [28], [], []⟩, ⟨[23, 28], [29], [], []⟩, ⟨[3, 29], [], [4], [4]⟩] Z06 (by kernel_rfl) <| Zq Z02 4 rfl <| Zu rfl <| Zu rfl <| Sc (lo [24, 25] [] rfl fun S hs hr => Z0l rfl rfl Z0b (vh hs 24 rfl rfl) (vh hs 25 rfl rfl) he26) rfl <| SLp Z0m rfl <| SCl [27] (Y6n _ _ hx27) Y2b rfl <| SCl [23, 28] (Zv4 _ _ _ hx28) Zxo rfl <| SSt Z02 4 rfl <| Rg <| Md rfl <| Ac (Z08 rfl rfl (vt rfl) (vk rfl)) rfl <| As rfl <| Nl ?_
     subst hgo1
     exact ⟨(m15, x28, l12, (IntKind.i64.wrap (i14 + 1)), v13), Nat.lt_succ_self _, ⟨trivial, h⟩, ⟨rfl, ⟨rfl, rfl, rfl, rfl, rfl, trivial⟩, ⟨rfl, rfl, rfl, trivial⟩⟩⟩
  ·have h := Zf hc h
   refine AW.exit <| AW.seq <| AW.regionAny [⟨[6], [64], [], []⟩, ⟨[3], [65], [4], []⟩, ⟨[64], [4], [], []⟩, ⟨[5, 65], [], [6], [6]⟩] Z06 (by kernel_rfl) <| SMw rfl <| Zq Z02 4 rfl <| Sc (lo [64] [] rfl fun S hs hr => Z07 (A := Zc v13) rfl rfl (vh hs 64 rfl rfl)) rfl <| SSt Z02 6 rfl <| AW.freezes [4, 6, 64] 1001 rfl ⟨rfl, rfl, rfl, trivial⟩ rfl <| AW.ret ?_
   obtain rfl := si h
   exact Z23 Tryz.results211 rfl (Z6 rfl) (Z04 rfl (i := 6) rfl Z02)
def Zg0 (a1 : Action) (b2 : Action) : Option Bool :=
 some ((decide (a1.Kind = b2.Kind)) && ((decide (a1.Kind ≠ 25)) || (decide (a1.Oxm.Field = b2.Oxm.Field))))
theorem Yb6 (a1 : Action) (b2 : Action) (r : Bool) (h : Zg0 a1 b2 = some r) : PCon Tryz.prog 224 [rd Z5 a1, rd Z5 b2] (rd Z8 r) := by
 refine PCon.of (Con.intro0 Tryz.func224 rfl Tryz.ntmps224 rfl fun w H => ?_)
 unfold Zg0 at h
 refine SR <| Ct rfl (Zo 3 rfl rfl (vt rfl)) ?_
 rintro _ ⟨g3, rfl⟩
 refine Ct rfl (Zo 4 rfl rfl (vt rfl)) ?_
 rintro _ ⟨g4, rfl⟩
 refine Ab rfl <| Nl <| SR <| Zp Z45 Z4r rfl <| Ld Zv 3 rfl <| Zp Z45 Z4r rfl <| Ld Zv 4 rfl <| Ac (Z0i rfl rfl (vt rfl) (vt rfl)) rfl <| Md rfl <| Gd rfl (fun hq => Z1w Z45 rfl rfl Z4r (vt rfl)) <| Gd rfl (fun hq => Z14 rfl rfl Zv (Zj rfl hq) (i := 3) rfl) <| Gd rfl (fun hq => Z5l rfl rfl (Zj rfl hq) (vk rfl)) <| AOps.consG (OpG.guardX rfl rfl rfl rfl rfl fun hq => Zs (A := rd Z8 (decide (a1.Kind ≠ 25))) rfl rfl (Zj rfl hq)) <| AOps.consG (OpG.guardN rfl rfl rfl rfl rfl fun hq => Z1w Z7e rfl rfl Z9g (vt rfl)) <| AOps.consG (OpG.guardN rfl rfl rfl rfl rfl fun hq => Z1w Z46 rfl rfl Z4m (Zj rfl hq)) <| AOps.consG (OpG.guardN rfl rfl rfl rfl rfl fun hq => Z14 rfl rfl Zv (Zj rfl hq) (i := 3) rfl) <| AOps.consG (OpG.guardN rfl rfl rfl rfl rfl fun hq => Z1w Z7e rfl rfl Z9g (vt rfl)) <| AOps.consG (OpG.guardN rfl rfl rfl rfl rfl fun hq => Z1w Z46 rfl rfl Z4m (Zj rfl hq)) <| AOps.consG (OpG.guardN rfl rfl rfl rfl rfl fun hq => Z14 rfl rfl Zv (Zj rfl hq) (i := 4) rfl) <| AOps.consG (OpG.guardN rfl rfl rfl rfl rfl fun hq => Z0i rfl rfl (Zj rfl hq) (Zj rfl hq)) <| Gd rfl (fun hq => Zek rfl rfl (vgx rfl hq) (vgw rfl hq)) <| Ac (Z11 rfl rfl (vt rfl) (vt rfl)) rfl <| As rfl <| Nl <| AW.ret ?_
 obtain rfl := si h
 exact Zg Tryz.results224 rfl (Z6 rfl)
def Z8x (l9 : (List Action)) (l2 : (List Action)) (i11 : Int) (go1 : (List Action) → Int → Option (List Action)) : Nat → Int → Int → Option (List Action)
 | 0, _, _ => none
 | m17 + 1, at15, j16 => (bif (decide (j16 < (l9.length : Int))) then (opt (decide (at15 < 0)) (lget l9 j16)).bind fun e18 => (opt (decide (at15 < 0)) (lget l2 i11)).bind fun e19 => (opt (decide (at15 < 0)) (Zg0 e18 e19)).bind fun x20 => (bif ((decide (at15 < 0)) && x20) then (Z8x l9 l2 i11 go1 m17) j16 (IntKind.i64.wrap (j16 + 1)) else (Z8x l9 l2 i11 go1 m17) at15 (IntKind.i64.wrap (j16 + 1))) else (bif (decide (at15 < 0)) then (lget l2 i11).bind fun e21 => (Z0w l9 [e21]).bind fun l22 => go1 l22 (IntKind.i64.wrap (i11 + 1)) else (lget l2 i11).bind fun e24 => (lget l9 at15).bind fun e25 => go1 (List.set l9 at15.toNat e24) (IntKind.i64.wrap (i11 + 1))))
def Z8a (l2 : (List Action)) : Nat → (List Action) → Int → Option (List Action)
 | 0, _, _ => none
 | m12 + 1, l9, i11 => (bif (decide (i11 < (l2.length : Int))) then Z8x l9 l2 i11 (Z8a l2 m12) ((((l9.length : Int) : Int) - 0).toNat + 1) (-1) 0 else some l9)
def Ziy (set1 : (List Action)) (l2 : (List Action)) : Option (List Action) :=
 (Z0w [] set1).bind fun l4 => Z8a l2 ((((l2.length : Int) : Int) - 0).toNat + 1) l4 0
theorem Ybk (set1 : (List Action)) (l2 : (List Action)) (r : (List Action)) (h : Ziy set1 l2 = some r) : PCon Tryz.prog 153 [rd (Z4 Z5) set1, rd (Z4 Z5) l2] (rd (Z4 Z5) r) := by
 refine PCon.of (Con.intro0 Tryz.func153 rfl Tryz.ntmps153 rfl fun w H => ?_)
 unfold Ziy at h
 refine SR <| Ac (Z07 (A := rd (Z4 Z5) []) rfl rfl Z27) rfl <| Nl <| AW.seq ?_
 obtain ⟨l4, hl4, h⟩ := Z1 h
 refine Rg <| Ct rfl (Z4c 1001 (ps := []) (l := []) rfl rfl Z0b Z3v rfl rfl rfl rfl) ?_
 rintro _ ⟨v3, rfl⟩
 refine Md rfl <| Ct rfl (Z2l 1001 hl4 rfl rfl Z6t (vt rfl) rfl (vt rfl)) ?_
 rintro _ ⟨v5, rfl⟩
 refine Aw rfl <| Nl <| AW.seq <| SR <| Ak rfl <| Nl <| AW.block <| AW.loopG (d := []) (ν := Nat × (List Action) × Int × Value) (fun n => True ∧ Z8a l2 n.1 n.2.1 n.2.2.1 = some r) (fun n => n.1) (fun n => [(1, rd (Z4 Z5) l2), (5, Zc n.2.2.2), (6, rd (Z0 .i64) n.2.2.1)]) (fun n => [(1001, Za n.2.2.2 121 Z5 n.2.1)]) (((((l2.length : Int) : Int) - 0).toNat + 1), l4, 0, v5) ⟨trivial, h⟩ ⟨rfl, ⟨rfl, rfl, rfl, trivial⟩, ⟨rfl, trivial⟩⟩ ?_
 rintro ⟨m12, l9, i11, v10⟩ ⟨hsf1, h⟩
 change True at hsf1
 change Z8a l2 m12 l9 i11 = some r at h
 change AW _ _ _ ⟨Zw [(1, rd (Z4 Z5) l2), (5, Zc v10), (6, rd (Z0 .i64) i11)], Zx [(1001, Za v10 121 Z5 l9)], _⟩
 cases m12 with
 | zero => cases h
 | succ m12 =>
  unfold Z8a at h
  generalize hgo1 : Z8a l2 m12 = go1 at h
  refine AW.seq <| SR <| Md rfl <| Md rfl <| Ac (Z0j rfl rfl Z0b (vt rfl)) rfl <| Ac (Zl rfl rfl (vt rfl) (vt rfl)) rfl <| Nl <| Cn rfl (fun hc => ?_) (fun hc => ?_)
  ·have h := Ze hc h
   refine AW.skip <| AW.seq <| AW.block <| SR <| Ak rfl <| Nl <| AW.seq <| SR <| Ak rfl <| Nl <| AW.block <| AW.loopG (d := []) (ν := Nat × Int × Int) (fun n => True ∧ Z8x l9 l2 i11 go1 n.1 n.2.1 n.2.2 = some r) (fun n => n.1) (fun n => [(1, rd (Z4 Z5) l2), (5, Zc v10), (6, rd (Z0 .i64) i11), (7, rd (Z0 .i64) n.2.1), (8, rd (Z0 .i64) n.2.2)]) (fun n => [(1001, Za v10 121 Z5 l9)]) (((((l9.length : Int) : Int) - 0).toNat + 1), (-1), 0) ⟨trivial, h⟩ ⟨rfl, ⟨rfl, rfl, rfl, rfl, rfl, trivial⟩, ⟨rfl, trivial⟩⟩ ?_
   rintro ⟨m17, at15, j16⟩ ⟨hsf2, h⟩
   change True at hsf2
   change Z8x l9 l2 i11 go1 m17 at15 j16 = some r at h
   change AW _ _ _ ⟨Zw [(1, rd (Z4 Z5) l2), (5, Zc v10), (6, rd (Z0 .i64) i11), (7, rd (Z0 .i64) at15), (8, rd (Z0 .i64) j16)], Zx [(1001, Za v10 121 Z5 l9)], _⟩
   cases m17 with
   | zero => cases h
   | succ m17 =>
    unfold Z8x at h
    generalize hgo2 : Z8x l9 l2 i11 go1 m17 = go2 at h
    refine AW.seq <| SR <| Md rfl <| Mw rfl <| Ac (Z5h 1001 rfl rfl Z0b (vt rfl) rfl) rfl <| Ac (Zl rfl rfl (vt rfl) (vt rfl)) rfl <| Nl <| Cn rfl (fun hc => ?_) (fun hc => ?_)
    ·have h := Ze hc h
     refine AW.skip <| AW.seq <| AW.block <| AW.seq ?_
     obtain ⟨e18, he18, h⟩ := Z1 h
     obtain ⟨e19, he19, h⟩ := Z1 h
     obtain ⟨x20, hx20, h⟩ := Z1 h
     refine AW.regionAny [⟨[7], [24], [], []⟩, ⟨[24], [25], [], []⟩, ⟨[25], [26], [], []⟩, ⟨[5, 26], [27], [], []⟩, ⟨[8, 26], [28], [], []⟩, ⟨[27, 28, 26], [29], [1001], []⟩, ⟨[29, 26], [30], [1001], []⟩, ⟨[1, 26], [31], [], []⟩, ⟨[6, 26], [32], [], []⟩, ⟨[31, 32, 26], [33], [], []⟩, ⟨[33, 26], [34], [], []⟩, ⟨[30, 34, 26], [35], [], []⟩, ⟨[35, 26], [36], [], []⟩] Z06 (by kernel_rfl) <| Zu rfl <| Sc (lo [24] [] rfl fun S hs hr => Zl rfl rfl (vh hs 24 rfl rfl) (vk rfl)) rfl <| Zu rfl <| Sc (lg [5, 26] [] rfl fun hq S hs hr => Zs (A := Zc v10) rfl rfl (vh hs 5 rfl rfl)) rfl <| Sc (lg [8, 26] [] rfl fun hq S hs hr => Zs (A := rd (Z0 .i64) j16) rfl rfl (vh hs 8 rfl rfl)) rfl <| Sc (lg [27, 28, 26] [1001] rfl fun hq S hs hr => Z1o 1001 rfl rfl Z0b (Zj ((hs 27 rfl).trans rfl) hq) ((hr 1001 rfl).trans rfl) (Zj ((hs 28 rfl).trans rfl) hq) (Z1g he18 hq)) rfl <| Sc (lg [29, 26] [1001] rfl fun hq S hs hr => Z1d 1001 rfl rfl Z0m (Zj ((hs 29 rfl).trans rfl) hq) ((hr 1001 rfl).trans rfl) (Z0g (Z1g he18 hq)).2) rfl <| Sc (lg [1, 26] [] rfl fun hq S hs hr => Zs (A := rd (Z4 Z5) l2) rfl rfl (vh hs 1 rfl rfl)) rfl <| Sc (lg [6, 26] [] rfl fun hq S hs hr => Zs (A := rd (Z0 .i64) i11) rfl rfl (vh hs 6 rfl rfl)) rfl <| Sc (lg [31, 32, 26] [] rfl fun hq S hs hr => Z0l rfl rfl Z0b (Zj ((hs 31 rfl).trans rfl) hq) (Zj ((hs 32 rfl).trans rfl) hq) (Z1g he19 hq)) rfl <| Sc (lg [33, 26] [] rfl fun hq S hs hr => Z9f rfl rfl Z0m (Zj ((hs 33 rfl).trans rfl) hq)) rfl <| Sc (lg [30, 34, 26] [] rfl fun hq S hs hr => Z0k (xs := [.tmp 30, .tmp 34]) (Yb6 _ _ _ (Z1g hx20 hq)) Y3b rfl rfl ⟨Zj ((hs 30 rfl).trans rfl) hq, Zj ((hs 34 rfl).trans rfl) hq, trivial⟩) rfl <| Sc (lo [35, 26] [] rfl fun S hs hr => Z11 rfl rfl (vh hs 26 rfl rfl) (vh hs 35 rfl rfl)) rfl <| Cn rfl (fun hc => ?_) (fun hc => ?_)
     ·have h := Ze hc h
      refine Rg <| Md rfl <| As rfl <| Nl <| Rg <| Md rfl <| Ac (Z08 rfl rfl (vt rfl) (vk rfl)) rfl <| As rfl <| Nl ?_
      subst hgo2
      exact ⟨(m17, j16, (IntKind.i64.wrap (j16 + 1))), Nat.lt_succ_self _, ⟨trivial, h⟩, ⟨rfl, ⟨rfl, rfl, rfl, rfl, rfl, trivial⟩, ⟨rfl, trivial⟩⟩⟩
     ·have h := Zf hc h
      refine AW.skip <| Rg <| Md rfl <| Ac (Z08 rfl rfl (vt rfl) (vk rfl)) rfl <| As rfl <| Nl ?_
      subst hgo2
      exact ⟨(m17, at15, (IntKind.i64.wrap (j16 + 1))), Nat.lt_succ_self _, ⟨trivial, h⟩, ⟨rfl, ⟨rfl, rfl, rfl, rfl, rfl, trivial⟩, ⟨rfl, trivial⟩⟩⟩
    ·have h := Zf hc h
     refine AW.exit <| SR <| Md rfl <| Ac (Zl rfl rfl (vt rfl) (vk rfl)) rfl <| Nl <| Cn rfl (fun hc => ?_) (fun hc => ?_)
     ·have h := Ze hc h
      obtain ⟨e21, he21, h⟩ := Z1 h
      obtain ⟨l22, hl22, h⟩ := Z1 h
      refine Rg <| Mw rfl <| Md rfl <| Md rfl <| Ac (Z0l rfl rfl Z0b (vt rfl) (vt rfl) he21) rfl <| Lp1 Z0m rfl <| Ac (Z2o (ps := [(0, .tmp 44)]) (l := [e21]) rfl rfl Z0b Z3v rfl rfl ⟨_, _, Lens.idx 1 Z5 0 (by decide), _, rfl, (vt rfl), rfl⟩ rfl) rfl <| Ct rfl (Z2l 1001 hl22 rfl rfl Z6t (vt rfl) rfl (vt rfl)) ?_
      rintro _ ⟨v23, rfl⟩
      refine Aw rfl <| Nl <| Rg <| Md rfl <| Ac (Z08 rfl rfl (vt rfl) (vk rfl)) rfl <| As rfl <| Nl ?_
      subst hgo1
      exact ⟨(m12, l22, (IntKind.i64.wrap (i11 + 1)), v23), Nat.lt_succ_self _, ⟨trivial, h⟩, ⟨rfl, ⟨rfl, rfl, rfl, trivial⟩, ⟨rfl, trivial⟩⟩⟩
     ·have h := Zf hc h
      obtain ⟨e24, he24, h⟩ := Z1 h
      obtain ⟨e25, he25, h⟩ := Z1 h
      refine Rg <| Mw rfl <| Md rfl <| Md rfl <| Md rfl <| Ac (Z0l rfl rfl Z0b (vt rfl) (vt rfl) he24) rfl <| Lp1 Z0m rfl <| Ac (Z1o 1001 rfl rfl Z0b (vt rfl) rfl (vt rfl) he25) rfl <| Ac (Z28 1001 rfl rfl Z0m (vt rfl) rfl (Z0g he25).2 (vt rfl)) rfl <| Nl <| Rg <| Md rfl <| Ac (Z08 rfl rfl (vt rfl) (vk rfl)) rfl <| As rfl <| Nl ?_
      subst hgo1
      exact ⟨(m12, (List.set l9 at15.toNat e24), (IntKind.i64.wrap (i11 + 1)), v10), Nat.lt_succ_self _, ⟨trivial, h⟩, ⟨rfl, ⟨rfl, rfl, rfl, trivial⟩, ⟨rfl, trivial⟩⟩⟩
  ·have h := Zf hc h
   refine AW.exit <| SR <| Mw rfl <| Aw rfl <| Nl <| AW.freezes [4, 5, 54] 1001 rfl ⟨rfl, rfl, rfl, trivial⟩ rfl <| AW.ret ?_
   obtain rfl := si h
   exact Zg Tryz.results153 rfl (Z6 rfl)
def Z96 (l1 : (List Action)) (kind2 : Int) : Nat → (List Action) → Int → Option (List Action)
 | 0, _, _ => none
 | m10 + 1, l7, i9 => (bif (decide (i9 < (l1.length : Int))) then (lget l1 i9).bind fun e11 => (bif (decide (e11.Kind = kind2)) then (lget l1 i9).bind fun e12 => (Z0w l7 [e12]).bind fun l13 => (Z96 l1 kind2 m10) l13 (IntKind.i64.wrap (i9 + 1)) else (Z96 l1 kind2 m10) l7 (IntKind.i64.wrap (i9 + 1))) else some l7)
def Z6z (l1 : (List Action)) (kind2 : Int) : Option (List Action) :=
 Z96 l1 kind2 ((((l1.length : Int) : Int) - 0).toNat + 1) [] 0
theorem Zye (l1 : (List Action)) (kind2 : Int) (r : (List Action)) (h : Z6z l1 kind2 = some r) : Con Tryz.prog 227 [rd (Z4 Z5) l1, rd (Z0 .i64) kind2] emp (fun v => Zc v) (fun v => Za v 121 Z5 r) := by
 refine Con.intro0 Tryz.func227 rfl Tryz.ntmps227 rfl fun w H => ?_
 unfold Z6z at h
 refine AW.seq <| AW.newnil 1001 121 Z5 <| Rg <| Ac (Z07 rfl rfl vc) rfl <| Nl <| SR <| Ct rfl (Z4c 1002 (ps := []) (l := []) rfl rfl Z0b Z3v rfl rfl rfl rfl) ?_
 rintro _ ⟨v3, rfl⟩
 refine Aw rfl <| Nl <| AW.seq <| SR <| Ak rfl <| Nl <| AW.block <| AW.loopG (d := []) (ν := Nat × (List Action) × Int × Value) (fun n => True ∧ Z96 l1 kind2 n.1 n.2.1 n.2.2.1 = some r) (fun n => n.1) (fun n => [(0, rd (Z4 Z5) l1), (1, rd (Z0 .i64) kind2), (5, Zc n.2.2.2), (6, rd (Z0 .i64) n.2.2.1)]) (fun n => [(1002, Za n.2.2.2 121 Z5 n.2.1)]) (((((l1.length : Int) : Int) - 0).toNat + 1), [], 0, v3) ⟨trivial, h⟩ ⟨rfl, ⟨rfl, rfl, rfl, rfl, trivial⟩, ⟨rfl, trivial⟩⟩ ?_
 rintro ⟨m10, l7, i9, v8⟩ ⟨hsf1, h⟩
 change True at hsf1
 change Z96 l1 kind2 m10 l7 i9 = some r at h
 change AW _ _ _ ⟨Zw [(0, rd (Z4 Z5) l1), (1, rd (Z0 .i64) kind2), (5, Zc v8), (6, rd (Z0 .i64) i9)], Zx [(1002, Za v8 121 Z5 l7)], _⟩
 cases m10 with
 | zero => cases h
 | succ m10 =>
  unfold Z96 at h
  generalize hgo1 : Z96 l1 kind2 m10 = go1 at h
  refine AW.seq <| SR <| Md rfl <| Md rfl <| Ac (Z0j rfl rfl Z0b (vt rfl)) rfl <| Ac (Zl rfl rfl (vt rfl) (vt rfl)) rfl <| Nl <| Cn rfl (fun hc => ?_) (fun hc => ?_)
  ·have h := Ze hc h
   refine AW.skip <| AW.seq <| AW.block <| AW.seq ?_
   obtain ⟨e11, he11, h⟩ := Z1 h
   refine Rg <| Md rfl <| Md rfl <| Ac (Z0l rfl rfl Z0b (vt rfl) (vt rfl) he11) rfl <| Fp Z45 Z4r rfl <| Lp1 Zv rfl <| Md rfl <| Ac (Z0i rfl rfl (vt rfl) (vt rfl)) rfl <| Nl <| Cn rfl (fun hc => ?_) (fun hc => ?_)
   ·have h := Ze hc h
    obtain ⟨e12, he12, h⟩ := Z1 h
    obtain ⟨l13, hl13, h⟩ := Z1 h
    refine Rg <| Mw rfl <| Md rfl <| Md rfl <| Ac (Z0l rfl rfl Z0b (vt rfl) (vt rfl) he12) rfl <| Lp1 Z0m rfl <| Ac (Z2o (ps := [(0, .tmp 25)]) (l := [e12]) rfl rfl Z0b Z3v rfl rfl ⟨_, _, Lens.idx 1 Z5 0 (by decide), _, rfl, (vt rfl), rfl⟩ rfl) rfl <| Ct rfl (Z2l 1002 hl13 rfl rfl Z6t (vt rfl) rfl (vt rfl)) ?_
    rintro _ ⟨v14, rfl⟩
    refine Aw rfl <| Nl <| Rg <| Md rfl <| Ac (Z08 rfl rfl (vt rfl) (vk rfl)) rfl <| As rfl <| Nl ?_
    subst hgo1
    exact ⟨(m10, l13, (IntKind.i64.wrap (i9 + 1)), v14), Nat.lt_succ_self _, ⟨trivial, h⟩, ⟨rfl, ⟨rfl, rfl, rfl, rfl, trivial⟩, ⟨rfl, trivial⟩⟩⟩
   ·have h := Zf hc h
    refine AW.skip <| Rg <| Md rfl <| Ac (Z08 rfl rfl (vt rfl) (vk rfl)) rfl <| As rfl <| Nl ?_
    subst hgo1
    exact ⟨(m10, l7, (IntKind.i64.wrap (i9 + 1)), v8), Nat.lt_succ_self _, ⟨trivial, h⟩, ⟨rfl, ⟨rfl, rfl, rfl, rfl, trivial⟩, ⟨rfl, trivial⟩⟩⟩
  ·have h := Zf hc h
   refine AW.exit <| SR <| Mw rfl <| Aw rfl <| Nl <| AW.ret ?_
   obtain rfl := si h
   exact Z4k (i := 1002) Tryz.results227 rfl rfl rfl
theorem Zkq (l1 : (List Action)) (kind2 : Int) (r : (List Action)) (h : Z6z l1 kind2 = some r) : PCon Tryz.prog 227 [rd (Z4 Z5) l1, rd (Z0 .i64) kind2] (rd (Z4 Z5) r) := PCon.of_row (Zye l1 kind2 r h)
def Z9i (at11 : Int) (l1 : (List Action)) (i8 : Int) (go1 : (List Action) → Int → Option (List Action)) : Nat → (List Action) → Int → Option (List Action)
 | 0, _, _ => none
 | m21 + 1, l19, j20 => (bif (decide (j20 > at11)) then (lget l19 (IntKind.i64.wrap (j20 - 1))).bind fun e22 => (lget l19 j20).bind fun e23 => (Z9i at11 l1 i8 go1 m21) (List.set l19 j20.toNat e22) (IntKind.i64.wrap (j20 - 1)) else (lget l1 i8).bind fun e24 => (lget l19 at11).bind fun e25 => go1 (List.set l19 at11.toNat e24) (IntKind.i64.wrap (i8 + 1)))
def Z8u (l6 : (List Action)) (l1 : (List Action)) (i8 : Int) (go1 : (List Action) → Int → Option (List Action)) : Nat → Int → Option (List Action)
 | 0, _ => none
 | m12 + 1, at11 => (opt (decide (at11 > 0)) (lget l6 (IntKind.i64.wrap (at11 - 1)))).bind fun e13 => (opt (decide (at11 > 0)) (lget l1 i8)).bind fun e14 => (bif ((decide (at11 > 0)) && (decide (e13.Oxm.Field > e14.Oxm.Field))) then (Z8u l6 l1 i8 go1 m12) (IntKind.i64.wrap (at11 - 1)) else (Z0w l6 [(⟨0, 0, 0, 0, 0, Z36⟩ : Action)]).bind fun l15 => Z9i at11 l1 i8 go1 ((((IntKind.i64.wrap ((l15.length : Int) - 1)) : Int) - at11).toNat + 1) l15 (IntKind.i64.wrap ((l15.length : Int) - 1)))
def Z8o (l1 : (List Action)) : Nat → (List Action) → Int → Option (List Action)
 | 0, _, _ => none
 | m9 + 1, l6, i8 => (bif (decide (i8 < (l1.length : Int))) then Z8u l6 l1 i8 (Z8o l1 m9) Z0x (l6.length : Int) else some l6)
def Zgi (l1 : (List Action)) : Option (List Action) :=
 Z8o l1 ((((l1.length : Int) : Int) - 0).toNat + 1) [] 0
theorem Y11 (l1 : (List Action)) (r : (List Action)) (h : Zgi l1 = some r) : PCon Tryz.prog 228 [rd (Z4 Z5) l1] (rd (Z4 Z5) r) := by
 refine PCon.of (Con.intro0 Tryz.func228 rfl Tryz.ntmps228 rfl fun w H => ?_)
 unfold Zgi at h
 refine SR <| Ac (Z07 (A := rd (Z4 Z5) []) rfl rfl Z27) rfl <| Nl <| SR <| Ct rfl (Z4c 1001 (ps := []) (l := []) rfl rfl Z0b Z3v rfl rfl rfl rfl) ?_
 rintro _ ⟨v2, rfl⟩
 refine Aw rfl <| Nl <| AW.seq <| SR <| Ak rfl <| Nl <| AW.block <| AW.loopG (d := []) (ν := Nat × (List Action) × Int × Value) (fun n => True ∧ Z8o l1 n.1 n.2.1 n.2.2.1 = some r) (fun n => n.1) (fun n => [(0, rd (Z4 Z5) l1), (3, Zc n.2.2.2), (4, rd (Z0 .i64) n.2.2.1)]) (fun n => [(1001, Za n.2.2.2 121 Z5 n.2.1)]) (((((l1.length : Int) : Int) - 0).toNat + 1), [], 0, v2) ⟨trivial, h⟩ ⟨rfl, ⟨rfl, rfl, rfl, trivial⟩, ⟨rfl, trivial⟩⟩ ?_
 rintro ⟨m9, l6, i8, v7⟩ ⟨hsf1, h⟩
 change True at hsf1
 change Z8o l1 m9 l6 i8 = some r at h
 change AW _ _ _ ⟨Zw [(0, rd (Z4 Z5) l1), (3, Zc v7), (4, rd (Z0 .i64) i8)], Zx [(1001, Za v7 121 Z5 l6)], _⟩
 cases m9 with
 | zero => cases h
 | succ m9 =>
  unfold Z8o at h
  generalize hgo1 : Z8o l1 m9 = go1 at h
  refine AW.seq <| SR <| Md rfl <| Md rfl <| Ac (Z0j rfl rfl Z0b (vt rfl)) rfl <| Ac (Zl rfl rfl (vt rfl) (vt rfl)) rfl <| Nl <| Cn rfl (fun hc => ?_) (fun hc => ?_)
  ·have h := Ze hc h
   refine AW.skip <| AW.seq <| AW.block <| SR <| Mw rfl <| Ac (Z5h 1001 rfl rfl Z0b (vt rfl) rfl) rfl <| As rfl <| Nl <| AW.seq <| AW.block <| AW.loopG (d := []) (ν := Nat × Int) (fun n => True ∧ Z8u l6 l1 i8 go1 n.1 n.2 = some r) (fun n => n.1) (fun n => [(0, rd (Z4 Z5) l1), (3, Zc v7), (4, rd (Z0 .i64) i8), (5, rd (Z0 .i64) n.2)]) (fun n => [(1001, Za v7 121 Z5 l6)]) (Z0x, (l6.length : Int)) ⟨trivial, h⟩ ⟨rfl, ⟨rfl, rfl, rfl, rfl, trivial⟩, ⟨rfl, trivial⟩⟩ ?_
   rintro ⟨m12, at11⟩ ⟨hsf2, h⟩
   change True at hsf2
   change Z8u l6 l1 i8 go1 m12 at11 = some r at h
   change AW _ _ _ ⟨Zw [(0, rd (Z4 Z5) l1), (3, Zc v7), (4, rd (Z0 .i64) i8), (5, rd (Z0 .i64) at11)], Zx [(1001, Za v7 121 Z5 l6)], _⟩
   cases m12 with
   | zero => cases h
   | succ m12 =>
    unfold Z8u at h
    generalize hgo2 : Z8u l6 l1 i8 go1 m12 = go2 at h
    refine AW.seq <| AW.seq ?_
    obtain ⟨e13, he13, h⟩ := Z1 h
    obtain ⟨e14, he14, h⟩ := Z1 h
    refine AW.regionAny [⟨[5], [16], [], []⟩, ⟨[16], [17], [], []⟩, ⟨[17], [18], [], []⟩, ⟨[3, 18], [19], [], []⟩, ⟨[5, 18], [20], [], []⟩, ⟨[20, 18], [21], [], []⟩, ⟨[19, 21, 18], [22], [1001], []⟩, ⟨[22, 18], [23], [], []⟩, ⟨[23, 18], [24], [], []⟩, ⟨[24, 18], [25], [1001], []⟩, ⟨[0, 18], [26], [], []⟩, ⟨[4, 18], [27], [], []⟩, ⟨[26, 27, 18], [28], [], []⟩, ⟨[28, 18], [29], [], []⟩, ⟨[29, 18], [30], [], []⟩, ⟨[30, 18], [31], [], []⟩, ⟨[25, 31, 18], [32], [], []⟩, ⟨[32, 18], [33], [], []⟩] Z06 (by kernel_rfl) <| Zu rfl <| Sc (lo [16] [] rfl fun S hs hr => Z3b rfl rfl (vh hs 16 rfl rfl) (vk rfl)) rfl <| Zu rfl <| Sc (lg [3, 18] [] rfl fun hq S hs hr => Zs (A := Zc v7) rfl rfl (vh hs 3 rfl rfl)) rfl <| Sc (lg [5, 18] [] rfl fun hq S hs hr => Zs (A := rd (Z0 .i64) at11) rfl rfl (vh hs 5 rfl rfl)) rfl <| Sc (lg [20, 18] [] rfl fun hq S hs hr => Z0n rfl rfl (Zj ((hs 20 rfl).trans rfl) hq) (vk rfl)) rfl <| Sc (lg [19, 21, 18] [1001] rfl fun hq S hs hr => Z1o 1001 rfl rfl Z0b (Zj ((hs 19 rfl).trans rfl) hq) ((hr 1001 rfl).trans rfl) (Zj ((hs 21 rfl).trans rfl) hq) (Z1g he13 hq)) rfl <| Sc (lg [22, 18] [] rfl fun hq S hs hr => Zah Z7e rfl rfl Z9g (Zj ((hs 22 rfl).trans rfl) hq)) rfl <| Sc (lg [23, 18] [] rfl fun hq S hs hr => Zah Z46 rfl rfl Z4m (Zj ((hs 23 rfl).trans rfl) hq)) rfl <| Sc (lg [24, 18] [1001] rfl fun hq S hs hr => Z1d 1001 rfl rfl Zv (Zj ((hs 24 rfl).trans rfl) hq) ((hr 1001 rfl).trans rfl) (Z0g (Z1g he13 hq)).2) rfl <| Sc (lg [0, 18] [] rfl fun hq S hs hr => Zs (A := rd (Z4 Z5) l1) rfl rfl (vh hs 0 rfl rfl)) rfl <| Sc (lg [4, 18] [] rfl fun hq S hs hr => Zs (A := rd (Z0 .i64) i8) rfl rfl (vh hs 4 rfl rfl)) rfl <| Sc (lg [26, 27, 18] [] rfl fun hq S hs hr => Z0l rfl rfl Z0b (Zj ((hs 26 rfl).trans rfl) hq) (Zj ((hs 27 rfl).trans rfl) hq) (Z1g he14 hq)) rfl <| Sc (lg [28, 18] [] rfl fun hq S hs hr => Z6f Z7e rfl rfl Z9g (Zj ((hs 28 rfl).trans rfl) hq)) rfl <| Sc (lg [29, 18] [] rfl fun hq S hs hr => Z6f Z46 rfl rfl Z4m (Zj ((hs 29 rfl).trans rfl) hq)) rfl <| Sc (lg [30, 18] [] rfl fun hq S hs hr => Z9f rfl rfl Zv (Zj ((hs 30 rfl).trans rfl) hq)) rfl <| Sc (lg [25, 31, 18] [] rfl fun hq S hs hr => Z3b rfl rfl (Zj ((hs 25 rfl).trans rfl) hq) (Zj ((hs 31 rfl).trans rfl) hq)) rfl <| Sc (lo [32, 18] [] rfl fun S hs hr => Z11 rfl rfl (vh hs 18 rfl rfl) (vh hs 32 rfl rfl)) rfl <| Cn rfl (fun hc => ?_) (fun hc => ?_)
    ·have h := Ze hc h
     refine AW.skip <| AW.block <| Rg <| Md rfl <| Ac (Z0n rfl rfl (vt rfl) (vk rfl)) rfl <| As rfl <| Nl ?_
     subst hgo2
     exact ⟨(m12, (IntKind.i64.wrap (at11 - 1))), Nat.lt_succ_self _, ⟨trivial, h⟩, ⟨rfl, ⟨rfl, rfl, rfl, rfl, trivial⟩, ⟨rfl, trivial⟩⟩⟩
    ·have h := Zf hc h
     refine AW.exit <| AW.seq ?_
     obtain ⟨l15, hl15, h⟩ := Z1 h
     refine Rg <| Mw rfl <| Ac (Z01 (ps := []) (x := (⟨0, 0, 0, 0, 0, Z36⟩ : Action)) rfl rfl rfl (by kernel_rfl) Z3v rfl) rfl <| Ac (Z2o (ps := [(0, .tmp 37)]) (l := [(⟨0, 0, 0, 0, 0, Z36⟩ : Action)]) rfl rfl Z0b Z3v rfl rfl ⟨_, _, Lens.idx 1 Z5 0 (by decide), _, rfl, (vt rfl), rfl⟩ rfl) rfl <| Ct rfl (Z2l 1001 hl15 rfl rfl Z6t (vt rfl) rfl (vt rfl)) ?_
     rintro _ ⟨v16, rfl⟩
     refine Aw rfl <| Nl <| AW.seq <| SR <| Mw rfl <| Ac (Z5h 1001 rfl rfl Z0b (vt rfl) rfl) rfl <| Ac (Z0n rfl rfl (vt rfl) (vk rfl)) rfl <| As rfl <| Nl <| AW.block <| AW.loopG (d := []) (ν := Nat × (List Action) × Int) (fun n => True ∧ Z9i at11 l1 i8 go1 n.1 n.2.1 n.2.2 = some r) (fun n => n.1) (fun n => [(0, rd (Z4 Z5) l1), (3, Zc v16), (4, rd (Z0 .i64) i8), (5, rd (Z0 .i64) at11), (6, rd (Z0 .i64) n.2.2)]) (fun n => [(1001, Za v16 121 Z5 n.2.1)]) (((((IntKind.i64.wrap ((l15.length : Int) - 1)) : Int) - at11).toNat + 1), l15, (IntKind.i64.wrap ((l15.length : Int) - 1))) ⟨trivial, h⟩ ⟨rfl, ⟨rfl, rfl, rfl, rfl, rfl, trivial⟩, ⟨rfl, trivial⟩⟩ ?_
     rintro ⟨m21, l19, j20⟩ ⟨hsf3, h⟩
     change True at hsf3
     change Z9i at11 l1 i8 go1 m21 l19 j20 = some r at h
     change AW _ _ _ ⟨Zw [(0, rd (Z4 Z5) l1), (3, Zc v16), (4, rd (Z0 .i64) i8), (5, rd (Z0 .i64) at11), (6, rd (Z0 .i64) j20)], Zx [(1001, Za v16 121 Z5 l19)], _⟩
     cases m21 with
     | zero => cases h
     | succ m21 =>
      unfold Z9i at h
      generalize hgo3 : Z9i at11 l1 i8 go1 m21 = go3 at h
      refine AW.seq <| SR <| Md rfl <| Md rfl <| Ac (Z3b rfl rfl (vt rfl) (vt rfl)) rfl <| Nl <| Cn rfl (fun hc => ?_) (fun hc => ?_)
      ·have h := Ze hc h
       refine AW.skip <| AW.seq <| AW.block ?_
       obtain ⟨e22, he22, h⟩ := Z1 h
       obtain ⟨e23, he23, h⟩ := Z1 h
       refine Rg <| Mw rfl <| Md rfl <| Mw rfl <| Md rfl <| Ac (Z0n rfl rfl (vt rfl) (vk rfl)) rfl <| Ac (Z1o 1001 rfl rfl Z0b (vt rfl) rfl (vt rfl) he22) rfl <| Ac (Z1d 1001 rfl rfl Z0m (vt rfl) rfl (Z0g he22).2) rfl <| Ac (Z1o 1001 rfl rfl Z0b (vt rfl) rfl (vt rfl) he23) rfl <| Ac (Z28 1001 rfl rfl Z0m (vt rfl) rfl (Z0g he23).2 (vt rfl)) rfl <| Nl <| Rg <| Md rfl <| Ac (Z0n rfl rfl (vt rfl) (vk rfl)) rfl <| As rfl <| Nl ?_
       subst hgo3
       exact ⟨(m21, (List.set l19 j20.toNat e22), (IntKind.i64.wrap (j20 - 1))), Nat.lt_succ_self _, ⟨trivial, h⟩, ⟨rfl, ⟨rfl, rfl, rfl, rfl, rfl, trivial⟩, ⟨rfl, trivial⟩⟩⟩
      ·have h := Zf hc h
       refine AW.exit ?_
       obtain ⟨e24, he24, h⟩ := Z1 h
       obtain ⟨e25, he25, h⟩ := Z1 h
       refine Rg <| Mw rfl <| Md rfl <| Md rfl <| Md rfl <| Ac (Z0l rfl rfl Z0b (vt rfl) (vt rfl) he24) rfl <| Lp1 Z0m rfl <| Ac (Z1o 1001 rfl rfl Z0b (vt rfl) rfl (vt rfl) he25) rfl <| Ac (Z28 1001 rfl rfl Z0m (vt rfl) rfl (Z0g he25).2 (vt rfl)) rfl <| Nl <| Rg <| Md rfl <| Ac (Z08 rfl rfl (vt rfl) (vk rfl)) rfl <| As rfl <| Nl ?_
       subst hgo1
       exact ⟨(m9, (List.set l19 at11.toNat e24), (IntKind.i64.wrap (i8 + 1)), v16), Nat.lt_succ_self _, ⟨trivial, h⟩, ⟨rfl, ⟨rfl, rfl, rfl, trivial⟩, ⟨rfl, trivial⟩⟩⟩
  ·have h := Zf hc h
   refine AW.exit <| SR <| Mw rfl <| Aw rfl <| Nl <| AW.freezes [2, 3, 63] 1001 rfl ⟨rfl, rfl, rfl, trivial⟩ rfl <| AW.ret ?_
   obtain rfl := si h
   exact Zg Tryz.results228 rfl (Z6 rfl)
def Zcv (set1 : (List Action)) : Option (List Action) :=
 (Z6z set1 18).bind fun x2 => (Z6z set1 17).bind fun x4 => (Z0w x2 x4).bind fun l5 => (Z6z set1 25).bind fun x7 => (Zgi x7).bind fun x8 => (Z0w l5 x8).bind fun l9 => (Z6z set1 22).bind fun x11 => (bif (decide ((x11.length : Int) > 0)) then (Z0w l9 x11).bind fun l12 => some l12 else (Z6z set1 0).bind fun x14 => (Z0w l9 x14).bind fun l15 => some l15)
theorem Y3k (set1 : (List Action)) (r : (List Action)) (h : Zcv set1 = some r) : PCon Tryz.prog 155 [rd (Z4 Z5) set1] (rd (Z4 Z5) r) := by
 refine PCon.of (Con.intro0 Tryz.func155 rfl Tryz.ntmps155 rfl fun w H => ?_)
 unfold Zcv at h
 refine SR <| Ac (Z07 (A := rd (Z4 Z5) []) rfl rfl Z27) rfl <| Nl <| AW.seq ?_
 obtain ⟨x2, hx2, h⟩ := Z1 h
 obtain ⟨x4, hx4, h⟩ := Z1 h
 obtain ⟨l5, hl5, h⟩ := Z1 h
 refine Rg <| Md rfl <| Ct rfl (Z1k 1001 (xs := [.tmp 5, .const (Value.int IntKind.i64 18)]) (Zye _ _ _ hx2) Zjs rfl rfl ⟨vt rfl, vk rfl, trivial⟩ rfl) ?_
 rintro _ ⟨v3, rfl⟩
 refine Md rfl <| Ac (Z0k (xs := [.tmp 7, .const (Value.int IntKind.i64 17)]) (Zkq _ _ _ hx4) Zjs rfl rfl ⟨vt rfl, vk rfl, trivial⟩) rfl <| Ct rfl (Z2l 1001 hl5 rfl rfl Z6t (vt rfl) rfl (vt rfl)) ?_
 rintro _ ⟨v6, rfl⟩
 refine Aw rfl <| Nl <| AW.seq ?_
 obtain ⟨x7, hx7, h⟩ := Z1 h
 obtain ⟨x8, hx8, h⟩ := Z1 h
 obtain ⟨l9, hl9, h⟩ := Z1 h
 refine Rg <| Mw rfl <| Md rfl <| Ac (Z0k (xs := [.tmp 11, .const (Value.int IntKind.i64 25)]) (Zkq _ _ _ hx7) Zjs rfl rfl ⟨vt rfl, vk rfl, trivial⟩) rfl <| Cl [12] (Y11 _ _ hx8) Ydq rfl <| Ct rfl (Z2l 1001 hl9 rfl rfl Z6t (vt rfl) rfl (vt rfl)) ?_
 rintro _ ⟨v10, rfl⟩
 refine Aw rfl <| Nl <| AW.seq <| AW.seq ?_
 obtain ⟨x11, hx11, h⟩ := Z1 h
 refine Rg <| Md rfl <| Ac (Z0k (xs := [.tmp 15, .const (Value.int IntKind.i64 22)]) (Zkq _ _ _ hx11) Zjs rfl rfl ⟨vt rfl, vk rfl, trivial⟩) rfl <| As rfl <| Nl <| SR <| Md rfl <| Ac (Z0j rfl rfl Z0b (vt rfl)) rfl <| Ac (Z3b rfl rfl (vt rfl) (vk rfl)) rfl <| Nl <| Cn rfl (fun hc => ?_) (fun hc => ?_)
 ·have h := Ze hc h
  refine AW.seq ?_
  obtain ⟨l12, hl12, h⟩ := Z1 h
  refine Rg <| Mw rfl <| Md rfl <| Ct rfl (Z2l 1001 hl12 rfl rfl Z6t (vt rfl) rfl (vt rfl)) ?_
  rintro _ ⟨v13, rfl⟩
  refine Aw rfl <| Nl <| AW.freezes [2, 22] 1001 rfl ⟨rfl, rfl, trivial⟩ rfl <| AW.ret ?_
  obtain rfl := si h
  exact Zg Tryz.results155 rfl (Z6 rfl)
 ·have h := Zf hc h
  refine AW.skip <| AW.seq ?_
  obtain ⟨x14, hx14, h⟩ := Z1 h
  obtain ⟨l15, hl15, h⟩ := Z1 h
  refine Rg <| Mw rfl <| Md rfl <| Ac (Z0k (xs := [.tmp 24, .const (Value.int IntKind.i64 0)]) (Zkq _ _ _ hx14) Zjs rfl rfl ⟨vt rfl, vk rfl, trivial⟩) rfl <| Ct rfl (Z2l 1001 hl15 rfl rfl Z6t (vt rfl) rfl (vt rfl)) ?_
  rintro _ ⟨v16, rfl⟩
  refine Aw rfl <| Nl <| AW.freezes [2, 26] 1001 rfl ⟨rfl, rfl, trivial⟩ rfl <| AW.ret ?_
  obtain rfl := si h
  exact Zg Tryz.results155 rfl (Z6 rfl)
def Z7b (x12 : (List Int)) (table2 : Int) (s1 : Switch) (r4 : (Vector Tern 24)) (cu3 : (Vector Tern 24)) (R_r33_one : (Switch → Int → Flow → (Vector Tern 24) → (Vector Tern 24) → (List Atom) → (List Action) → Option (List Rule))) (atoms5 : (List Atom)) (set6 : (List Action)) : Nat → (List Rule) → Int → Option (List Rule)
 | 0, _, _ => none
 | m19 + 1, l16, i18 => (bif (decide (i18 < (x12.length : Int))) then (chk 4 table2).bind fun j20 => (lget x12 i18).bind fun e21 => (lget (Vector.get s1.Tables j20) e21).bind fun e22 => (Zir e22).bind fun x24 => (Zgl r4 x24).bind fun x25 => (bif (!x25.2) then (Z7b x12 table2 s1 r4 cu3 R_r33_one atoms5 set6 m19) l16 (IntKind.i64.wrap (i18 + 1)) else (Zfh x25.1 cu3).bind fun x27 => (bif x27.2 then (R_r33_one s1 table2 e22 x27.1 r4 atoms5 set6).bind fun x29 => (Z0w l16 x29).bind fun l30 => (Z7b x12 table2 s1 r4 cu3 R_r33_one atoms5 set6 m19) l30 (IntKind.i64.wrap (i18 + 1)) else (Z7b x12 table2 s1 r4 cu3 R_r33_one atoms5 set6 m19) l16 (IntKind.i64.wrap (i18 + 1)))) else (Z0w [] atoms5).bind fun l33 => (Z0w l16 [(⟨cu3, l33⟩ : Rule)]).bind fun l34 => some l34)
def Zho (R_r33_walk : (Switch → Int → (Vector Tern 24) → (Vector Tern 24) → (List Atom) → (List Action) → Option (List Rule))) (R_r33_one : (Switch → Int → Flow → (Vector Tern 24) → (Vector Tern 24) → (List Atom) → (List Action) → Option (List Rule))) (s1 : Switch) (table2 : Int) (cu3 : (Vector Tern 24)) (r4 : (Vector Tern 24)) (atoms5 : (List Atom)) (set6 : (List Action)) : Option (List Rule) :=
 (chk 4 table2).bind fun j11 => (Zhh (Vector.get s1.Tables j11)).bind fun x12 => Z7b x12 table2 s1 r4 cu3 R_r33_one atoms5 set6 ((((x12.length : Int) : Int) - 0).toNat + 1) [] 0
theorem Y8x (R_r33_walk : (Switch → Int → (Vector Tern 24) → (Vector Tern 24) → (List Atom) → (List Action) → Option (List Rule))) (hR_r33_walk : ∀ (s1 : Switch) (table2 : Int) (cu3 : (Vector Tern 24)) (r4 : (Vector Tern 24)) (atoms5 : (List Atom)) (set6 : (List Action)) (r : (List Rule)), R_r33_walk s1 table2 cu3 r4 atoms5 set6 = some r → PCon Tryz.prog 78 [rd Z0h s1, rd (Z0 .i64) table2, rd (Z2 24 Z3) cu3, rd (Z2 24 Z3) r4, rd (Z4 Z03) atoms5, rd (Z4 Z5) set6] (rd (Z4 Zy) r)) (R_r33_one : (Switch → Int → Flow → (Vector Tern 24) → (Vector Tern 24) → (List Atom) → (List Action) → Option (List Rule))) (hR_r33_one : ∀ (s1 : Switch) (table2 : Int) (f3 : Flow) (cu4 : (Vector Tern 24)) (r5 : (Vector Tern 24)) (atoms6 : (List Atom)) (set7 : (List Action)) (r : (List Rule)), R_r33_one s1 table2 f3 cu4 r5 atoms6 set7 = some r → PCon Tryz.prog 143 [rd Z0h s1, rd (Z0 .i64) table2, rd Z0d f3, rd (Z2 24 Z3) cu4, rd (Z2 24 Z3) r5, rd (Z4 Z03) atoms6, rd (Z4 Z5) set7] (rd (Z4 Zy) r)) (s1 : Switch) (table2 : Int) (cu3 : (Vector Tern 24)) (r4 : (Vector Tern 24)) (atoms5 : (List Atom)) (set6 : (List Action)) (r : (List Rule)) (h : Zho R_r33_walk R_r33_one s1 table2 cu3 r4 atoms5 set6 = some r) : PCon Tryz.prog 78 [rd Z0h s1, rd (Z0 .i64) table2, rd (Z2 24 Z3) cu3, rd (Z2 24 Z3) r4, rd (Z4 Z03) atoms5, rd (Z4 Z5) set6] (rd (Z4 Zy) r) := by
 refine PCon.of (Con.intro0 Tryz.func78 rfl Tryz.ntmps78 rfl fun w H => ?_)
 unfold Zho at h
 refine SR <| Ct rfl (Zo 7 rfl rfl (vt rfl)) ?_
 rintro _ ⟨g7, rfl⟩
 refine Ct rfl (Zo 9 rfl rfl (vt rfl)) ?_
 rintro _ ⟨g8, rfl⟩
 refine Ct rfl (Zo 10 rfl rfl (vt rfl)) ?_
 rintro _ ⟨g9, rfl⟩
 refine Ac (Z07 (A := rd (Z4 Zy) []) rfl rfl Z27) rfl <| Nl <| SR <| Ct rfl (Z4c 1001 (ps := []) (l := []) rfl rfl Z26 Z4i rfl rfl rfl rfl) ?_
 rintro _ ⟨v10, rfl⟩
 refine Aw rfl <| Nl <| AW.seq ?_
 obtain ⟨j11, hj11, h⟩ := Z1 h
 obtain ⟨x12, hx12, h⟩ := Z1 h
 refine Rg <| Md rfl <| Zp Za6 Zbo rfl <| Ac (Z15 rfl rfl Zb0 (vt rfl) (vt rfl) hj11) rfl <| Ld Z59 7 rfl <| Cl [24] (Y4h _ _ hx12) Y8e rfl <| As rfl <| Nl <| AW.seq <| SR <| Ak rfl <| Nl <| AW.block <| AW.loopG (d := []) (ν := Nat × (List Rule) × Int × Value) (fun n => True ∧ Z7b x12 table2 s1 r4 cu3 R_r33_one atoms5 set6 n.1 n.2.1 n.2.2.1 = some r) (fun n => n.1) (fun n => [(1, rd (Z0 .i64) table2), (4, rd (Z4 Z03) atoms5), (5, rd (Z4 Z5) set6), (6, Z7 g7 (Lens.id Z0h)), (8, Z7 g8 (Lens.id (Z2 24 Z3))), (9, Z7 g9 (Lens.id (Z2 24 Z3))), (13, Zc n.2.2.2), (14, rd (Z4 (Z0 .i64)) x12), (15, rd (Z0 .i64) n.2.2.1)]) (fun n => [(7, Z9 g7 26 Z0h s1), (9, Z9 g8 87 (Z2 24 Z3) cu3), (10, Z9 g9 101 (Z2 24 Z3) r4), (1001, Za n.2.2.2 90 Zy n.2.1)]) (((((x12.length : Int) : Int) - 0).toNat + 1), [], 0, v10) ⟨trivial, h⟩ ⟨rfl, ⟨rfl, rfl, rfl, rfl, rfl, rfl, rfl, rfl, rfl, trivial⟩, ⟨rfl, rfl, rfl, rfl, trivial⟩⟩ ?_
 rintro ⟨m19, l16, i18, v17⟩ ⟨hsf1, h⟩
 change True at hsf1
 change Z7b x12 table2 s1 r4 cu3 R_r33_one atoms5 set6 m19 l16 i18 = some r at h
 change AW _ _ _ ⟨Zw [(1, rd (Z0 .i64) table2), (4, rd (Z4 Z03) atoms5), (5, rd (Z4 Z5) set6), (6, Z7 g7 (Lens.id Z0h)), (8, Z7 g8 (Lens.id (Z2 24 Z3))), (9, Z7 g9 (Lens.id (Z2 24 Z3))), (13, Zc v17), (14, rd (Z4 (Z0 .i64)) x12), (15, rd (Z0 .i64) i18)], Zx [(7, Z9 g7 26 Z0h s1), (9, Z9 g8 87 (Z2 24 Z3) cu3), (10, Z9 g9 101 (Z2 24 Z3) r4), (1001, Za v17 90 Zy l16)], _⟩
 cases m19 with
 | zero => cases h
 | succ m19 =>
  unfold Z7b at h
  generalize hgo1 : Z7b x12 table2 s1 r4 cu3 R_r33_one atoms5 set6 m19 = go1 at h
  refine AW.seq <| SR <| Md rfl <| Md rfl <| Ac (Z0j rfl rfl Z10 (vt rfl)) rfl <| Ac (Zl rfl rfl (vt rfl) (vt rfl)) rfl <| Nl <| Cn rfl (fun hc => ?_) (fun hc => ?_)
  ·have h := Ze hc h
   refine AW.skip <| AW.seq <| AW.block <| AW.seq ?_
   obtain ⟨j20, hj20, h⟩ := Z1 h
   obtain ⟨e21, he21, h⟩ := Z1 h
   obtain ⟨e22, he22, h⟩ := Z1 h
   refine AW.regionAny [⟨[1], [32], [], []⟩, ⟨[6], [33], [], []⟩, ⟨[33, 32], [34], [], []⟩, ⟨[34], [35], [7], []⟩, ⟨[14], [36], [], []⟩, ⟨[15], [37], [], []⟩, ⟨[36, 37], [38], [], []⟩, ⟨[38], [39], [], []⟩, ⟨[35, 39], [40], [], []⟩, ⟨[40], [41], [], []⟩, ⟨[], [16], [], []⟩, ⟨[16, 41], [16], [], []⟩] Z06 (by kernel_rfl) <| Zu rfl <| SFd Za6 Zbo rfl <| Sc (lo [33, 32] [] rfl fun S hs hr => Z15 rfl rfl Zb0 (vh hs 33 rfl rfl) (vh hs 32 rfl rfl) hj20) rfl <| Zq Z59 7 rfl <| Zu rfl <| Zu rfl <| Sc (lo [36, 37] [] rfl fun S hs hr => Z0l rfl rfl Z10 (vh hs 36 rfl rfl) (vh hs 37 rfl rfl) he21) rfl <| SLp Zv rfl <| Sc (lo [35, 39] [] rfl fun S hs hr => Z0l rfl rfl Z44 (vh hs 35 rfl rfl) (vh hs 39 rfl rfl) he22) rfl <| SLp Z6w rfl <| Sc (Z1b (us := [(16, Z25 61 Z0d Zr8)]) (ur := []) [] [] rfl fun S hs hr => Z5r rfl rfl rfl Zca) rfl <| Sc (Z1b (us := [(16, Z25 61 Z0d e22)]) (ur := []) [16, 41] [] rfl fun S hs hr => Z5n rfl rfl Z6w ((hs 16 rfl).trans rfl) (vh hs 41 rfl rfl)) rfl <| AW.unpackP 16 17 rfl rfl fun g23 => AW.seq ?_
   obtain ⟨x24, hx24, h⟩ := Z1 h
   obtain ⟨x25, hx25, h⟩ := Z1 h
   refine AW.regionAny [⟨[9], [43], [10], []⟩, ⟨[16], [44], [17], []⟩, ⟨[44], [45], [], []⟩, ⟨[43, 45], [46], [], []⟩, ⟨[46], [42], [], []⟩, ⟨[42], [47], [], []⟩, ⟨[42], [48], [], []⟩, ⟨[], [17], [], []⟩, ⟨[17, 47], [17], [], []⟩, ⟨[48], [18], [], []⟩] Z06 (by kernel_rfl) <| Zq Z02 10 rfl <| Zq Z6w 17 rfl <| SCl [44] (Y89 _ _ hx24) Y0c rfl <| SCl [43, 45] (Y3h _ _ _ hx25) Y6d rfl <| Sc (lo [46] [] rfl fun S hs hr => Zs (A := Z1e (rd (Z2 24 Z3) x25.1) (rd Z8 x25.2)) rfl rfl (vh hs 46 rfl rfl)) rfl <| Sc (lo [42] [] rfl fun S hs hr => Z1p rfl rfl (vh hs 42 rfl rfl)) rfl <| Sc (lo [42] [] rfl fun S hs hr => Z1q rfl rfl (vh hs 42 rfl rfl)) rfl <| Sc (Z1b (us := [(17, Z25 87 (Z2 24 Z3) (Vector.replicate 24 zTern))]) (ur := []) [] [] rfl fun S hs hr => Z5r rfl rfl rfl Z0v) rfl <| Sc (Z1b (us := [(17, Z25 87 (Z2 24 Z3) x25.1)]) (ur := []) [17, 47] [] rfl fun S hs hr => Z5n rfl rfl Zz ((hs 17 rfl).trans rfl) (vh hs 47 rfl rfl)) rfl <| SAs rfl <| AW.unpackP 17 18 rfl rfl fun g26 => AW.seq <| SR <| Md rfl <| Ac (Z13 rfl rfl (vt rfl)) rfl <| Nl <| Cn rfl (fun hc => ?_) (fun hc => ?_)
   ·have h := Ze hc h
    refine AW.exit <| Rg <| Md rfl <| Ac (Z08 rfl rfl (vt rfl) (vk rfl)) rfl <| As rfl <| Nl ?_
    subst hgo1
    exact ⟨(m19, l16, (IntKind.i64.wrap (i18 + 1)), v17), Nat.lt_succ_self _, ⟨trivial, h⟩, ⟨rfl, ⟨rfl, rfl, rfl, rfl, rfl, rfl, rfl, rfl, rfl, trivial⟩, ⟨rfl, rfl, rfl, rfl, trivial⟩⟩⟩
   ·have h := Zf hc h
    refine AW.skip <| AW.seq ?_
    obtain ⟨x27, hx27, h⟩ := Z1 h
    refine Rg <| Ld Zz 18 rfl <| Ld Zz 9 rfl <| Cl [52, 53] (Ztv _ _ _ hx27) Zxf rfl <| Mt2 rfl <| Ac (Z1p rfl rfl (vt rfl)) rfl <| Ac (Z1q rfl rfl (vt rfl)) rfl <| Ct rfl (Zm 20 rfl rfl Z0v) ?_
    rintro _ ⟨g28, rfl⟩
    refine Zh Zz 20 rfl <| As rfl <| Nl <| SR <| Md rfl <| Nl <| Cn rfl (fun hc => ?_) (fun hc => ?_)
    ·have h := Ze hc h
     obtain ⟨x29, hx29, h⟩ := Z1 h
     obtain ⟨l30, hl30, h⟩ := Z1 h
     refine Rg <| Mw rfl <| Ld Z3m 7 rfl <| Md rfl <| Ld Z6w 17 rfl <| Ld Zz 20 rfl <| Ld Z02 10 rfl <| Md rfl <| Md rfl <| Cl [59, 60, 61, 62, 63, 64, 65] (hR_r33_one _ _ _ _ _ _ _ _ hx29) Yc1 rfl <| Ct rfl (Z2l 1001 hl30 rfl rfl Zii (vt rfl) rfl (vt rfl)) ?_
     rintro _ ⟨v31, rfl⟩
     refine Aw rfl <| Nl <| Rg <| Md rfl <| Ac (Z08 rfl rfl (vt rfl) (vk rfl)) rfl <| As rfl <| Nl ?_
     subst hgo1
     exact ⟨(m19, l30, (IntKind.i64.wrap (i18 + 1)), v31), Nat.lt_succ_self _, ⟨trivial, h⟩, ⟨rfl, ⟨rfl, rfl, rfl, rfl, rfl, rfl, rfl, rfl, rfl, trivial⟩, ⟨rfl, rfl, rfl, rfl, trivial⟩⟩⟩
    ·have h := Zf hc h
     refine AW.skip <| Rg <| Md rfl <| Ac (Z08 rfl rfl (vt rfl) (vk rfl)) rfl <| As rfl <| Nl ?_
     subst hgo1
     exact ⟨(m19, l16, (IntKind.i64.wrap (i18 + 1)), v17), Nat.lt_succ_self _, ⟨trivial, h⟩, ⟨rfl, ⟨rfl, rfl, rfl, rfl, rfl, rfl, rfl, rfl, rfl, trivial⟩, ⟨rfl, rfl, rfl, rfl, trivial⟩⟩⟩
  ·have h := Zf hc h
   refine AW.exit <| AW.seq ?_
   obtain ⟨l33, hl33, h⟩ := Z1 h
   obtain ⟨l34, hl34, h⟩ := Z1 h
   refine AW.regionAny [⟨[13], [68], [], []⟩, ⟨[8], [69], [9], []⟩, ⟨[], [70], [1003], []⟩, ⟨[4], [71], [], []⟩, ⟨[70, 71], [70, 72], [1004], []⟩, ⟨[69, 72], [73], [], []⟩, ⟨[73], [74], [], []⟩, ⟨[68, 74], [75], [1001], [1001]⟩, ⟨[75], [75, 12], [1005], []⟩] Z06 (by kernel_rfl) <| SMw rfl <| Zq Zz 9 rfl <| Sc (Z1b (us := [(70, Z1u 126 Z03 ([] : List Atom))]) (ur := []) [] [1003] rfl fun S hs hr => Y4q (Z4c 1003 (ps := []) (l := []) rfl rfl Z3t Z4o rfl rfl rfl rfl) rfl ((hr 1003 rfl).trans rfl)) rfl <| Zu rfl <| Sc (Z1b (us := [(70, top), (72, rd (Z4 Z03) l33)]) (ur := []) [70, 71] [1004] rfl fun S hs hr => Y62 1004 rfl hl33 rfl rfl rfl Z8g ((hs 70 rfl).trans rfl) ((hr 1004 rfl).trans rfl) (fun v => vtS rfl ((hs 71 rfl).trans rfl))) rfl <| Sc (lo [69, 72] [] rfl fun S hs hr => Z01 (ps := [(0, .tmp 69), (1, .tmp 72)]) (x := (⟨cu3, l33⟩ : Rule)) rfl rfl rfl (by kernel_rfl) Z4i ⟨_, _, Z65, _, by kernel_rfl, (vh hs 69 rfl rfl), _, _, Z7q, _, by kernel_rfl, (vh hs 72 rfl rfl), rfl⟩) rfl <| Sc (lo [73] [] rfl fun S hs hr => Z2o (ps := [(0, .tmp 73)]) (l := [(⟨cu3, l33⟩ : Rule)]) rfl rfl Z26 Z4i rfl rfl ⟨_, _, Lens.idx 1 Zy 0 (by decide), _, rfl, (vh hs 73 rfl rfl), rfl⟩ rfl) rfl <| Sc (Z1b (us := [(75, Z1u 90 Zy l34)]) (ur := [(1001, emp)]) [68, 74] [1001] rfl fun S hs hr => Za4 1001 hl34 rfl rfl rfl Zii (vh hs 68 rfl rfl) ((hr 1001 rfl).trans rfl) (vh hs 74 rfl rfl)) rfl <| Sc (Z1b (us := [(75, top), (12, Z1u 90 Zy l34)]) (ur := []) [75] [1005] rfl fun S hs hr => Zjr 1005 rfl rfl rfl rfl ((hs 75 rfl).trans rfl) ((hr 1005 rfl).trans rfl)) rfl <| AW.unpackR 12 1001 rfl rfl fun v35 => AW.freezes [12] 1001 rfl ⟨rfl, trivial⟩ rfl <| AW.ret ?_
   obtain rfl := si h
   exact Zg Tryz.results78 rfl (Z6 rfl)
end Go.Proofs.YtknpgojdkobgjaaGreat.W
set_option maxRecDepth 4000
namespace Go.Proofs.YtknpgojdkobgjaaGreat.W
open Go Go.Wb
theorem Zg9 : Ent Tryz.prog 151 := Ent.mk Tryz.func151 rfl rfl
theorem e78 : Ent Tryz.prog 78 := Ent.mk Tryz.func78 rfl rfl
theorem Yas : Ent Tryz.prog 155 := Ent.mk Tryz.func155 rfl rfl
theorem Zrz : Ent Tryz.prog 211 := Ent.mk Tryz.func211 rfl rfl
theorem Yez : Ent Tryz.prog 153 := Ent.mk Tryz.func153 rfl rfl
theorem e79 : Ent Tryz.prog 79 := Ent.mk Tryz.func79 rfl rfl
theorem e81 : Ent Tryz.prog 81 := Ent.mk Tryz.func81 rfl rfl
theorem e20 : Ent Tryz.prog 20 := Ent.mk Tryz.func20 rfl rfl
theorem e21 : Ent Tryz.prog 21 := Ent.mk Tryz.func21 rfl rfl
theorem e23 : Ent Tryz.prog 23 := Ent.mk Tryz.func23 rfl rfl
theorem e24 : Ent Tryz.prog 24 := Ent.mk Tryz.func24 rfl rfl
theorem e26 : Ent Tryz.prog 26 := Ent.mk Tryz.func26 rfl rfl
def Ze0 (f3 : Flow) (table2 : Int) (R_r33_walk : (Switch → Int → (Vector Tern 24) → (Vector Tern 24) → (List Atom) → (List Action) → Option (List Rule))) (s1 : Switch) (cu4 : (Vector Tern 24)) (l15 : (List Atom)) (set19 : (List Action)) (b20 : (Vector Tern 24)) : Option (List Rule) :=
 (Z7u f3.Insts 1).bind fun x21 => (bif ((x21.2 && (decide (x21.1.Table > table2))) && (decide (x21.1.Table < 4))) then (R_r33_walk s1 x21.1.Table cu4 b20 l15 set19).bind fun x23 => some x23 else (Zcv set19).bind fun x24 => (Zbr x24 b20).bind fun x25 => (Z0w l15 x25.1).bind fun l27 => some [(⟨cu4, l27⟩ : Rule)])
def Ze6 (f3 : Flow) (b17 : (Vector Tern 24)) (table2 : Int) (R_r33_walk : (Switch → Int → (Vector Tern 24) → (Vector Tern 24) → (List Atom) → (List Action) → Option (List Rule))) (s1 : Switch) (cu4 : (Vector Tern 24)) (l15 : (List Atom)) (set19 : (List Action)) : Option (List Rule) :=
 (Z7u f3.Insts 2).bind fun x28 => (bif x28.2 then (Z9d b17 1 x28.1.Value x28.1.Mask).bind fun x30 => Ze0 f3 table2 R_r33_walk s1 cu4 l15 set19 x30 else Ze0 f3 table2 R_r33_walk s1 cu4 l15 set19 b17)
def Zff (f3 : Flow) (b17 : (Vector Tern 24)) (table2 : Int) (R_r33_walk : (Switch → Int → (Vector Tern 24) → (Vector Tern 24) → (List Atom) → (List Action) → Option (List Rule))) (s1 : Switch) (cu4 : (Vector Tern 24)) (l15 : (List Atom)) (set18 : (List Action)) : Option (List Rule) :=
 (Z7u f3.Insts 3).bind fun x31 => (bif x31.2 then (Ziy set18 x31.1.Acts).bind fun x33 => Ze6 f3 b17 table2 R_r33_walk s1 cu4 l15 x33 else Ze6 f3 b17 table2 R_r33_walk s1 cu4 l15 set18)
def Zdb (f3 : Flow) (table2 : Int) (R_r33_walk : (Switch → Int → (Vector Tern 24) → (Vector Tern 24) → (List Atom) → (List Action) → Option (List Rule))) (s1 : Switch) (cu4 : (Vector Tern 24)) (set7 : (List Action)) (l15 : (List Atom)) (b17 : (Vector Tern 24)) : Option (List Rule) :=
 (Z7u f3.Insts 5).bind fun x34 => (bif x34.2 then Zff f3 b17 table2 R_r33_walk s1 cu4 l15 [] else Zff f3 b17 table2 R_r33_walk s1 cu4 l15 set7)
def Zdq (R_r33_walk : (Switch → Int → (Vector Tern 24) → (Vector Tern 24) → (List Atom) → (List Action) → Option (List Rule))) (R_r33_one : (Switch → Int → Flow → (Vector Tern 24) → (Vector Tern 24) → (List Atom) → (List Action) → Option (List Rule))) (s1 : Switch) (table2 : Int) (f3 : Flow) (cu4 : (Vector Tern 24)) (r5 : (Vector Tern 24)) (atoms6 : (List Atom)) (set7 : (List Action)) : Option (List Rule) :=
 (Z0w [] atoms6).bind fun l13 => (Z7u f3.Insts 4).bind fun x36 => (bif x36.2 then (Zbr x36.1.Acts r5).bind fun x38 => (Z0w l13 x38.1).bind fun l40 => Zdb f3 table2 R_r33_walk s1 cu4 set7 l40 x38.2 else Zdb f3 table2 R_r33_walk s1 cu4 set7 l13 r5)
theorem Y8k (R_r33_walk : (Switch → Int → (Vector Tern 24) → (Vector Tern 24) → (List Atom) → (List Action) → Option (List Rule))) (hR_r33_walk : ∀ (s1 : Switch) (table2 : Int) (cu3 : (Vector Tern 24)) (r4 : (Vector Tern 24)) (atoms5 : (List Atom)) (set6 : (List Action)) (r : (List Rule)), R_r33_walk s1 table2 cu3 r4 atoms5 set6 = some r → PCon Tryz.prog 78 [rd Z0h s1, rd (Z0 .i64) table2, rd (Z2 24 Z3) cu3, rd (Z2 24 Z3) r4, rd (Z4 Z03) atoms5, rd (Z4 Z5) set6] (rd (Z4 Zy) r)) (R_r33_one : (Switch → Int → Flow → (Vector Tern 24) → (Vector Tern 24) → (List Atom) → (List Action) → Option (List Rule))) (hR_r33_one : ∀ (s1 : Switch) (table2 : Int) (f3 : Flow) (cu4 : (Vector Tern 24)) (r5 : (Vector Tern 24)) (atoms6 : (List Atom)) (set7 : (List Action)) (r : (List Rule)), R_r33_one s1 table2 f3 cu4 r5 atoms6 set7 = some r → PCon Tryz.prog 143 [rd Z0h s1, rd (Z0 .i64) table2, rd Z0d f3, rd (Z2 24 Z3) cu4, rd (Z2 24 Z3) r5, rd (Z4 Z03) atoms6, rd (Z4 Z5) set7] (rd (Z4 Zy) r)) (s1 : Switch) (table2 : Int) (f3 : Flow) (cu4 : (Vector Tern 24)) (r5 : (Vector Tern 24)) (atoms6 : (List Atom)) (set7 : (List Action)) (r : (List Rule)) (h : Zdq R_r33_walk R_r33_one s1 table2 f3 cu4 r5 atoms6 set7 = some r) : PCon Tryz.prog 143 [rd Z0h s1, rd (Z0 .i64) table2, rd Z0d f3, rd (Z2 24 Z3) cu4, rd (Z2 24 Z3) r5, rd (Z4 Z03) atoms6, rd (Z4 Z5) set7] (rd (Z4 Zy) r) := by
 refine PCon.of (Con.intro0 Tryz.func143 rfl Tryz.ntmps143 rfl fun w H => ?_)
 unfold Zdq at h
 refine SR <| Ct rfl (Zo 8 rfl rfl (vt rfl)) ?_
 rintro _ ⟨g8, rfl⟩
 refine Ct rfl (Zo 10 rfl rfl (vt rfl)) ?_
 rintro _ ⟨g9, rfl⟩
 refine Ct rfl (Zo 11 rfl rfl (vt rfl)) ?_
 rintro _ ⟨g10, rfl⟩
 refine Ct rfl (Zo 12 rfl rfl (vt rfl)) ?_
 rintro _ ⟨g11, rfl⟩
 refine Ac (Z07 (A := rd (Z4 Zy) []) rfl rfl Z27) rfl <| Nl <| AW.seq ?_
 obtain ⟨l13, hl13, h⟩ := Z1 h
 refine Rg <| Ct rfl (Z4c 1001 (ps := []) (l := []) rfl rfl Z3t Z4o rfl rfl rfl rfl) ?_
 rintro _ ⟨v12, rfl⟩
 refine Md rfl <| Ct rfl (Z2l 1001 hl13 rfl rfl Z8g (vt rfl) rfl (vt rfl)) ?_
 rintro _ ⟨v14, rfl⟩
 refine Aw rfl <| Nl ?_
 refine AW.join (d := []) (ν := (List Atom) × (Vector Tern 24) × Value) (fun n => Zdb f3 table2 R_r33_walk s1 cu4 set7 n.1 n.2.1 = some r) (fun n => [(1, rd (Z0 .i64) table2), (5, Zc n.2.2), (6, rd (Z4 Z5) set7), (7, Z7 g8 (Lens.id Z0h)), (9, Z7 g9 (Lens.id Z0d)), (10, Z7 g10 (Lens.id (Z2 24 Z3))), (11, Z7 g11 (Lens.id (Z2 24 Z3)))]) (fun n => [(8, Z9 g8 26 Z0h s1), (10, Z9 g9 61 Z0d f3), (11, Z9 g10 87 (Z2 24 Z3) cu4), (12, Z9 g11 101 (Z2 24 Z3) n.2.1), (1001, Za n.2.2 126 Z03 n.1)]) ?hx1 ?hy1
 case hy1 =>
  rintro ⟨l15, b17, v16⟩ h
  unfold Zdb at h
  change AW _ _ _ ⟨Zw [(1, rd (Z0 .i64) table2), (5, Zc v16), (6, rd (Z4 Z5) set7), (7, Z7 g8 (Lens.id Z0h)), (9, Z7 g9 (Lens.id Z0d)), (10, Z7 g10 (Lens.id (Z2 24 Z3))), (11, Z7 g11 (Lens.id (Z2 24 Z3)))], Zx [(8, Z9 g8 26 Z0h s1), (10, Z9 g9 61 Z0d f3), (11, Z9 g10 87 (Z2 24 Z3) cu4), (12, Z9 g11 101 (Z2 24 Z3) b17), (1001, Za v16 126 Z03 l15)], _⟩
  refine AW.join (d := []) (ν := (List Action)) (fun n => Zff f3 b17 table2 R_r33_walk s1 cu4 l15 n = some r) (fun n => [(1, rd (Z0 .i64) table2), (5, Zc v16), (6, rd (Z4 Z5) n), (7, Z7 g8 (Lens.id Z0h)), (9, Z7 g9 (Lens.id Z0d)), (10, Z7 g10 (Lens.id (Z2 24 Z3))), (11, Z7 g11 (Lens.id (Z2 24 Z3)))]) (fun n => [(8, Z9 g8 26 Z0h s1), (10, Z9 g9 61 Z0d f3), (11, Z9 g10 87 (Z2 24 Z3) cu4), (12, Z9 g11 101 (Z2 24 Z3) b17), (1001, Za v16 126 Z03 l15)]) ?hx2 ?hy2
  case hy2 =>
   intro set18 h
   unfold Zff at h
   change AW _ _ _ ⟨Zw [(1, rd (Z0 .i64) table2), (5, Zc v16), (6, rd (Z4 Z5) set18), (7, Z7 g8 (Lens.id Z0h)), (9, Z7 g9 (Lens.id Z0d)), (10, Z7 g10 (Lens.id (Z2 24 Z3))), (11, Z7 g11 (Lens.id (Z2 24 Z3)))], Zx [(8, Z9 g8 26 Z0h s1), (10, Z9 g9 61 Z0d f3), (11, Z9 g10 87 (Z2 24 Z3) cu4), (12, Z9 g11 101 (Z2 24 Z3) b17), (1001, Za v16 126 Z03 l15)], _⟩
   refine AW.join (d := []) (ν := (List Action)) (fun n => Ze6 f3 b17 table2 R_r33_walk s1 cu4 l15 n = some r) (fun n => [(1, rd (Z0 .i64) table2), (5, Zc v16), (6, rd (Z4 Z5) n), (7, Z7 g8 (Lens.id Z0h)), (9, Z7 g9 (Lens.id Z0d)), (10, Z7 g10 (Lens.id (Z2 24 Z3))), (11, Z7 g11 (Lens.id (Z2 24 Z3)))]) (fun n => [(8, Z9 g8 26 Z0h s1), (10, Z9 g9 61 Z0d f3), (11, Z9 g10 87 (Z2 24 Z3) cu4), (12, Z9 g11 101 (Z2 24 Z3) b17), (1001, Za v16 126 Z03 l15)]) ?hx3 ?hy3
   case hy3 =>
    intro set19 h
    unfold Ze6 at h
    change AW _ _ _ ⟨Zw [(1, rd (Z0 .i64) table2), (5, Zc v16), (6, rd (Z4 Z5) set19), (7, Z7 g8 (Lens.id Z0h)), (9, Z7 g9 (Lens.id Z0d)), (10, Z7 g10 (Lens.id (Z2 24 Z3))), (11, Z7 g11 (Lens.id (Z2 24 Z3)))], Zx [(8, Z9 g8 26 Z0h s1), (10, Z9 g9 61 Z0d f3), (11, Z9 g10 87 (Z2 24 Z3) cu4), (12, Z9 g11 101 (Z2 24 Z3) b17), (1001, Za v16 126 Z03 l15)], _⟩
    refine AW.join (d := []) (ν := (Vector Tern 24)) (fun n => Ze0 f3 table2 R_r33_walk s1 cu4 l15 set19 n = some r) (fun n => [(1, rd (Z0 .i64) table2), (5, Zc v16), (6, rd (Z4 Z5) set19), (7, Z7 g8 (Lens.id Z0h)), (9, Z7 g9 (Lens.id Z0d)), (10, Z7 g10 (Lens.id (Z2 24 Z3))), (11, Z7 g11 (Lens.id (Z2 24 Z3)))]) (fun n => [(8, Z9 g8 26 Z0h s1), (10, Z9 g9 61 Z0d f3), (11, Z9 g10 87 (Z2 24 Z3) cu4), (12, Z9 g11 101 (Z2 24 Z3) n), (1001, Za v16 126 Z03 l15)]) ?hx4 ?hy4
    case hy4 =>
     intro b20 h
     unfold Ze0 at h
     change AW _ _ _ ⟨Zw [(1, rd (Z0 .i64) table2), (5, Zc v16), (6, rd (Z4 Z5) set19), (7, Z7 g8 (Lens.id Z0h)), (9, Z7 g9 (Lens.id Z0d)), (10, Z7 g10 (Lens.id (Z2 24 Z3))), (11, Z7 g11 (Lens.id (Z2 24 Z3)))], Zx [(8, Z9 g8 26 Z0h s1), (10, Z9 g9 61 Z0d f3), (11, Z9 g10 87 (Z2 24 Z3) cu4), (12, Z9 g11 101 (Z2 24 Z3) b20), (1001, Za v16 126 Z03 l15)], _⟩
     refine AW.seq ?_
     obtain ⟨x21, hx21, h⟩ := Z1 h
     refine Rg <| Zp Z6p Zcf rfl <| Ld Zcr 10 rfl <| Ac (Z0k (xs := [.tmp 83, .const (Value.int IntKind.i64 1)]) (Zib _ _ _ hx21) Zg9 rfl rfl ⟨vt rfl, vk rfl, trivial⟩) rfl <| Mt2 rfl <| Ac (Z1p rfl rfl (vt rfl)) rfl <| Ac (Z1q rfl rfl (vt rfl)) rfl <| Ct rfl (Zm 26 rfl rfl Z3e) ?_
     rintro _ ⟨g22, rfl⟩
     refine Zh Z2y 26 rfl <| As rfl <| Nl <| AW.seq <| SR <| Md rfl <| Md rfl <| Gd rfl (fun hq => Z1w Zak rfl rfl Zem (vt rfl)) <| Gd rfl (fun hq => Z14 rfl rfl Zv (Zj rfl hq) (i := 26) rfl) <| Gd rfl (fun hq => Zs (A := rd (Z0 .i64) table2) rfl rfl (vt rfl)) <| Gd rfl (fun hq => Z3b rfl rfl (Zj rfl hq) (Zj rfl hq)) <| Ac (Z11 rfl rfl (vt rfl) (vt rfl)) rfl <| Md rfl <| Gd rfl (fun hq => Z1w Zak rfl rfl Zem (vt rfl)) <| Gd rfl (fun hq => Z14 rfl rfl Zv (Zj rfl hq) (i := 26) rfl) <| Gd rfl (fun hq => Zl rfl rfl (Zj rfl hq) (vk rfl)) <| Ac (Z11 rfl rfl (vt rfl) (vt rfl)) rfl <| Nl <| Cn rfl (fun hc => ?_) (fun hc => ?_)
     ·have h := Ze hc h
      refine AW.seq <| AW.freezes [5] 1001 rfl ⟨rfl, trivial⟩ rfl ?_
      obtain ⟨x23, hx23, h⟩ := Z1 h
      refine Rg <| Ld Z3m 8 rfl <| Zp Zak Zem rfl <| Ld Zv 26 rfl <| Ld Zz 11 rfl <| Ld Z02 12 rfl <| Md rfl <| Md rfl <| Cl [99, 101, 102, 103, 104, 105] (hR_r33_walk _ _ _ _ _ _ _ hx23) e78 rfl <| As rfl <| Nl <| AW.ret ?_
      obtain rfl := si h
      exact Zg Tryz.results143 rfl (Z6 rfl)
     ·have h := Zf hc h
      refine AW.skip <| AW.seq ?_
      obtain ⟨x24, hx24, h⟩ := Z1 h
      obtain ⟨x25, hx25, h⟩ := Z1 h
      refine AW.regionAny [⟨[6], [108], [], []⟩, ⟨[108], [109], [], []⟩, ⟨[11], [110], [12], []⟩, ⟨[109, 110], [111], [], []⟩, ⟨[111], [107], [], []⟩, ⟨[107], [112], [], []⟩, ⟨[107], [113], [], []⟩, ⟨[], [28], [], []⟩, ⟨[112], [27], [], []⟩, ⟨[28, 113], [28], [], []⟩] Z06 (by kernel_rfl) <| Zu rfl <| SCl [108] (Y3k _ _ hx24) Yas rfl <| Zq Z02 12 rfl <| SCl [109, 110] (Zvj _ _ _ hx25) Zrz rfl <| Sc (lo [111] [] rfl fun S hs hr => Zs (A := Z1e (rd (Z4 Z03) x25.1) (rd (Z2 24 Z3) x25.2)) rfl rfl (vh hs 111 rfl rfl)) rfl <| Sc (lo [107] [] rfl fun S hs hr => Z1p rfl rfl (vh hs 107 rfl rfl)) rfl <| Sc (lo [107] [] rfl fun S hs hr => Z1q rfl rfl (vh hs 107 rfl rfl)) rfl <| Sc (Z1b (us := [(28, Z25 101 (Z2 24 Z3) (Vector.replicate 24 zTern))]) (ur := []) [] [] rfl fun S hs hr => Z5r rfl rfl rfl Z2u) rfl <| SAs rfl <| Sc (Z1b (us := [(28, Z25 101 (Z2 24 Z3) x25.2)]) (ur := []) [28, 113] [] rfl fun S hs hr => Z5n rfl rfl Z02 ((hs 28 rfl).trans rfl) (vh hs 113 rfl rfl)) rfl <| AW.unpackP 28 29 rfl rfl fun g26 => AW.seq ?_
      obtain ⟨l27, hl27, h⟩ := Z1 h
      refine AW.regionAny [⟨[10], [114], [11], []⟩, ⟨[5], [115], [], []⟩, ⟨[27], [116], [], []⟩, ⟨[115, 116], [117], [1001], [1001]⟩, ⟨[114, 117], [118], [], []⟩, ⟨[118], [119], [], []⟩, ⟨[119], [14], [], []⟩] Z06 (by kernel_rfl) <| Zq Zz 11 rfl <| SMw rfl <| Zu rfl <| Sc (Z1b (us := [(117, rd (Z4 Z03) l27)]) (ur := [(1001, emp)]) [115, 116] [1001] rfl fun S hs hr => Y2l 1001 rfl hl27 rfl rfl rfl Z8g (vh hs 115 rfl rfl) ((hr 1001 rfl).trans rfl) (vh hs 116 rfl rfl)) rfl <| Sc (lo [114, 117] [] rfl fun S hs hr => Z01 (ps := [(0, .tmp 114), (1, .tmp 117)]) (x := (⟨cu4, l27⟩ : Rule)) rfl rfl rfl (by kernel_rfl) Z4i ⟨_, _, Z65, _, by kernel_rfl, (vh hs 114 rfl rfl), _, _, Z7q, _, by kernel_rfl, (vh hs 117 rfl rfl), rfl⟩) rfl <| Sc (lo [118] [] rfl fun S hs hr => Z2o (ps := [(0, .tmp 118)]) (l := [(⟨cu4, l27⟩ : Rule)]) rfl rfl Z26 Z4i rfl rfl ⟨_, _, Lens.idx 1 Zy 0 (by decide), _, rfl, (vh hs 118 rfl rfl), rfl⟩ rfl) rfl <| SAs rfl <| AW.ret ?_
      obtain rfl := si h
      exact Zg Tryz.results143 rfl (Z6 rfl)
    case hx4 =>
     refine AW.seq ?_
     obtain ⟨x28, hx28, h⟩ := Z1 h
     refine Rg <| Zp Z6p Zcf rfl <| Ld Zcr 10 rfl <| Ac (Z0k (xs := [.tmp 70, .const (Value.int IntKind.i64 2)]) (Zib _ _ _ hx28) Zg9 rfl rfl ⟨vt rfl, vk rfl, trivial⟩) rfl <| Mt2 rfl <| Ac (Z1p rfl rfl (vt rfl)) rfl <| Ac (Z1q rfl rfl (vt rfl)) rfl <| Ct rfl (Zm 24 rfl rfl Z3e) ?_
     rintro _ ⟨g29, rfl⟩
     refine Zh Z2y 24 rfl <| As rfl <| Nl <| SR <| Md rfl <| Nl <| Cn rfl (fun hc => ?_) (fun hc => ?_)
     ·have h := Ze hc h
      obtain ⟨x30, hx30, h⟩ := Z1 h
      refine Rg <| Ld Z02 12 rfl <| Zp Zqp Zzq rfl <| Ld Zt 24 rfl <| Zp Znu Zrv rfl <| Ld Zt 24 rfl <| Ac (Z0k (xs := [.tmp 75, .const (Value.int IntKind.i64 1), .tmp 77, .tmp 79]) (Zg6 _ _ _ _ _ hx30) Zig rfl rfl ⟨vt rfl, vk rfl, vt rfl, vt rfl, trivial⟩) rfl <| Zh Z02 12 rfl <| Nl ?_
      exact ⟨x30, h, ⟨rfl, ⟨rfl, rfl, rfl, rfl, rfl, rfl, rfl, trivial⟩, ⟨rfl, rfl, rfl, rfl, rfl, trivial⟩⟩⟩
     ·have h := Zf hc h
      refine AW.skip ?_
      exact ⟨b17, h, ⟨rfl, ⟨rfl, rfl, rfl, rfl, rfl, rfl, rfl, trivial⟩, ⟨rfl, rfl, rfl, rfl, rfl, trivial⟩⟩⟩
   case hx3 =>
    refine AW.seq ?_
    obtain ⟨x31, hx31, h⟩ := Z1 h
    refine Rg <| Zp Z6p Zcf rfl <| Ld Zcr 10 rfl <| Ac (Z0k (xs := [.tmp 59, .const (Value.int IntKind.i64 3)]) (Zib _ _ _ hx31) Zg9 rfl rfl ⟨vt rfl, vk rfl, trivial⟩) rfl <| Mt2 rfl <| Ac (Z1p rfl rfl (vt rfl)) rfl <| Ac (Z1q rfl rfl (vt rfl)) rfl <| Ct rfl (Zm 22 rfl rfl Z3e) ?_
    rintro _ ⟨g32, rfl⟩
    refine Zh Z2y 22 rfl <| As rfl <| Nl <| SR <| Md rfl <| Nl <| Cn rfl (fun hc => ?_) (fun hc => ?_)
    ·have h := Ze hc h
     obtain ⟨x33, hx33, h⟩ := Z1 h
     refine Rg <| Md rfl <| Zp Z8l Zbu rfl <| Ld Z4b 22 rfl <| Cl [64, 66] (Ybk _ _ _ hx33) Yez rfl <| As rfl <| Nl ?_
     exact ⟨x33, h, ⟨rfl, ⟨rfl, rfl, rfl, rfl, rfl, rfl, rfl, trivial⟩, ⟨rfl, rfl, rfl, rfl, rfl, trivial⟩⟩⟩
    ·have h := Zf hc h
     refine AW.skip ?_
     exact ⟨set18, h, ⟨rfl, ⟨rfl, rfl, rfl, rfl, rfl, rfl, rfl, trivial⟩, ⟨rfl, rfl, rfl, rfl, rfl, trivial⟩⟩⟩
  case hx2 =>
   refine AW.seq ?_
   obtain ⟨x34, hx34, h⟩ := Z1 h
   refine Rg <| Zp Z6p Zcf rfl <| Ld Zcr 10 rfl <| Ac (Z0k (xs := [.tmp 52, .const (Value.int IntKind.i64 5)]) (Zib _ _ _ hx34) Zg9 rfl rfl ⟨vt rfl, vk rfl, trivial⟩) rfl <| Mt2 rfl <| Ac (Z1p rfl rfl (vt rfl)) rfl <| Ac (Z1q rfl rfl (vt rfl)) rfl <| Ct rfl (Zm 20 rfl rfl Z3e) ?_
   rintro _ ⟨g35, rfl⟩
   refine Zh Z2y 20 rfl <| As rfl <| Nl <| SR <| Md rfl <| Nl <| Cn rfl (fun hc => ?_) (fun hc => ?_)
   ·have h := Ze hc h
    refine Rg <| Ac (Z07 (A := rd (Z4 Z5) []) rfl rfl Z27) rfl <| Nl ?_
    exact ⟨[], h, ⟨rfl, ⟨rfl, rfl, rfl, rfl, rfl, rfl, rfl, trivial⟩, ⟨rfl, rfl, rfl, rfl, rfl, trivial⟩⟩⟩
   ·have h := Zf hc h
    refine AW.skip ?_
    exact ⟨set7, h, ⟨rfl, ⟨rfl, rfl, rfl, rfl, rfl, rfl, rfl, trivial⟩, ⟨rfl, rfl, rfl, rfl, rfl, trivial⟩⟩⟩
 case hx1 =>
  refine AW.seq ?_
  obtain ⟨x36, hx36, h⟩ := Z1 h
  refine Rg <| Zp Z6p Zcf rfl <| Ld Zcr 10 rfl <| Ac (Z0k (xs := [.tmp 34, .const (Value.int IntKind.i64 4)]) (Zib _ _ _ hx36) Zg9 rfl rfl ⟨vt rfl, vk rfl, trivial⟩) rfl <| Mt2 rfl <| Ac (Z1p rfl rfl (vt rfl)) rfl <| Ac (Z1q rfl rfl (vt rfl)) rfl <| Ct rfl (Zm 16 rfl rfl Z3e) ?_
  rintro _ ⟨g37, rfl⟩
  refine Zh Z2y 16 rfl <| As rfl <| Nl <| SR <| Md rfl <| Nl <| Cn rfl (fun hc => ?_) (fun hc => ?_)
  ·have h := Ze hc h
   refine AW.seq ?_
   obtain ⟨x38, hx38, h⟩ := Z1 h
   refine Rg <| Zp Z8l Zbu rfl <| Ld Z4b 16 rfl <| Ld Z02 12 rfl <| Cl [41, 42] (Zvj _ _ _ hx38) Zrz rfl <| Mt2 rfl <| Ac (Z1p rfl rfl (vt rfl)) rfl <| Ac (Z1q rfl rfl (vt rfl)) rfl <| Ct rfl (Zm 19 rfl rfl Z2u) ?_
   rintro _ ⟨g39, rfl⟩
   refine As rfl <| Zh Z02 19 rfl <| Nl ?_
   obtain ⟨l40, hl40, h⟩ := Z1 h
   refine AW.endT <| AW.regionAny [⟨[5], [46], [], []⟩, ⟨[17], [47], [], []⟩, ⟨[46, 47], [48], [1001], [1001]⟩, ⟨[18], [49], [19], []⟩, ⟨[48], [48, 5], [1002], []⟩, ⟨[11, 49], [], [12], [12]⟩] Z06 (by kernel_rfl) <| SMw rfl <| Zu rfl <| Sc (Z1b (us := [(48, Z1u 126 Z03 l40)]) (ur := [(1001, emp)]) [46, 47] [1001] rfl fun S hs hr => Za4 1001 hl40 rfl rfl rfl Z8g (vh hs 46 rfl rfl) ((hr 1001 rfl).trans rfl) (vh hs 47 rfl rfl)) rfl <| Zq Z02 19 rfl <| Sc (Z1b (us := [(48, top), (5, Z1u 126 Z03 l40)]) (ur := []) [48] [1002] rfl fun S hs hr => Zjr 1002 rfl rfl rfl rfl ((hs 48 rfl).trans rfl) ((hr 1002 rfl).trans rfl)) rfl <| SSt Z02 12 rfl <| EndT.unpackR 5 1001 rfl rfl fun v41 => EndT.done ?_
   exact ⟨(l40, x38.2, v41), h, ⟨rfl, ⟨rfl, rfl, rfl, rfl, rfl, rfl, rfl, trivial⟩, ⟨rfl, rfl, rfl, rfl, rfl, trivial⟩⟩⟩
  ·have h := Zf hc h
   refine AW.skip ?_
   exact ⟨(l13, r5, v14), h, ⟨rfl, ⟨rfl, rfl, rfl, rfl, rfl, rfl, rfl, trivial⟩, ⟨rfl, rfl, rfl, rfl, rfl, trivial⟩⟩⟩
def Z3o : Nat → (Switch → Int → (Vector Tern 24) → (Vector Tern 24) → (List Atom) → (List Action) → Option (List Rule)) × (Switch → Int → Flow → (Vector Tern 24) → (Vector Tern 24) → (List Atom) → (List Action) → Option (List Rule))
 | 0 => ((fun _ _ _ _ _ _ => none), (fun _ _ _ _ _ _ _ => none))
 | n + 1 => ((Zho (Z3o n).1 (Z3o n).2), (Zdq (Z3o n).1 (Z3o n).2))
theorem Zvk : ∀ n : Nat, (∀ (s1 : Switch) (table2 : Int) (cu3 : (Vector Tern 24)) (r4 : (Vector Tern 24)) (atoms5 : (List Atom)) (set6 : (List Action)) (r : (List Rule)), (Z3o n).1 s1 table2 cu3 r4 atoms5 set6 = some r → PCon Tryz.prog 78 [rd Z0h s1, rd (Z0 .i64) table2, rd (Z2 24 Z3) cu3, rd (Z2 24 Z3) r4, rd (Z4 Z03) atoms5, rd (Z4 Z5) set6] (rd (Z4 Zy) r)) ∧ (∀ (s1 : Switch) (table2 : Int) (f3 : Flow) (cu4 : (Vector Tern 24)) (r5 : (Vector Tern 24)) (atoms6 : (List Atom)) (set7 : (List Action)) (r : (List Rule)), (Z3o n).2 s1 table2 f3 cu4 r5 atoms6 set7 = some r → PCon Tryz.prog 143 [rd Z0h s1, rd (Z0 .i64) table2, rd Z0d f3, rd (Z2 24 Z3) cu4, rd (Z2 24 Z3) r5, rd (Z4 Z03) atoms6, rd (Z4 Z5) set7] (rd (Z4 Zy) r))
 | 0 => ⟨(by intros; rename_i h; cases h), (by intros; rename_i h; cases h)⟩
 | n + 1 => by
  have ih := Zvk n
  exact ⟨(Y8x (Z3o n).1 ih.1 (Z3o n).2 ih.2), (Y8k (Z3o n).1 ih.1 (Z3o n).2 ih.2)⟩
def Zpl (s1 : Switch) (table2 : Int) (cu3 : (Vector Tern 24)) (r4 : (Vector Tern 24)) (atoms5 : (List Atom)) (set6 : (List Action)) : Option (List Rule) := (Z3o Z0x).1 s1 table2 cu3 r4 atoms5 set6
theorem Y4r : ∀ (s1 : Switch) (table2 : Int) (cu3 : (Vector Tern 24)) (r4 : (Vector Tern 24)) (atoms5 : (List Atom)) (set6 : (List Action)) (r : (List Rule)), Zpl s1 table2 cu3 r4 atoms5 set6 = some r → PCon Tryz.prog 78 [rd Z0h s1, rd (Z0 .i64) table2, rd (Z2 24 Z3) cu3, rd (Z2 24 Z3) r4, rd (Z4 Z03) atoms5, rd (Z4 Z5) set6] (rd (Z4 Zy) r) := (Zvk Z0x).1
def Ze8 (s1 : Switch) : Option (List Rule) :=
 (Zlo).bind fun x3 => (Z98).bind fun x4 => (Zpl s1 0 x3 x4 [] []).bind fun x5 => some x5
theorem Y2j (s1 : Switch) (r : (List Rule)) (h : Ze8 s1 = some r) : PCon Tryz.prog 23 [rd Z0h s1] (rd (Z4 Zy) r) := by
 refine PCon.of (Con.intro0 Tryz.func23 rfl Tryz.ntmps23 rfl fun w H => ?_)
 unfold Ze8 at h
 refine SR <| Ct rfl (Zo 2 rfl rfl (vt rfl)) ?_
 rintro _ ⟨g2, rfl⟩
 refine Ac (Z07 (A := rd (Z4 Zy) []) rfl rfl Z27) rfl <| Nl <| AW.seq ?_
 obtain ⟨x3, hx3, h⟩ := Z1 h
 obtain ⟨x4, hx4, h⟩ := Z1 h
 obtain ⟨x5, hx5, h⟩ := Z1 h
 refine AW.regionAny [⟨[1], [3], [2], []⟩, ⟨[], [4], [], []⟩, ⟨[], [5], [], []⟩, ⟨[3, 4, 5], [6], [], []⟩, ⟨[6], [2], [], []⟩] Z06 (by kernel_rfl) <| Zq Z3m 2 rfl <| SCl [] (Y4t _ hx3) e79 rfl <| SCl [] (Zgf _ hx4) e80 rfl <| Sc (lo [3, 4, 5] [] rfl fun S hs hr => Z0k (xs := [.tmp 3, .const (Value.int IntKind.i64 0), .tmp 4, .tmp 5, .const (Value.slice none 0 0), .const (Value.slice none 0 0)]) (Y4r _ _ _ _ _ _ _ hx5) e78 rfl rfl ⟨vt ((hs 3 rfl).trans rfl), vk rfl, vt ((hs 4 rfl).trans rfl), vt ((hs 5 rfl).trans rfl), Z27, Z27, trivial⟩) rfl <| SAs rfl <| AW.ret ?_
 obtain rfl := si h
 exact Zg Tryz.results23 rfl (Z6 rfl)
def Z74 (s22 : (List Rule)) (eq3 : (Rule → Rule → Option Bool)) : (List Rule) → Nat → Option Bool
 | [], i4 => some true
 | x6 :: l5, i4 => (lget s22 (i4 : Int)).bind fun e8 => (eq3 x6 e8).bind fun x10 => (bif (!x10) then some false else (Z74 s22 eq3 l5) (i4 + 1))
def Zi6 (s11 : (List Rule)) (s22 : (List Rule)) (eq3 : (Rule → Rule → Option Bool)) : Option Bool :=
 (bif (decide ((s11.length : Int) ≠ (s22.length : Int))) then some false else Z74 s22 eq3 s11 0)
theorem Y0g (s11 : (List Rule)) (s22 : (List Rule)) (eq3 : (Rule → Rule → Option Bool)) (r : Bool) (h : Zi6 s11 s22 eq3 = some r) : PCon Tryz.prog 81 [rd (Z4 Zy) s11, rd (Z4 Zy) s22, fn2 Tryz.prog Zy Zy Z8 eq3] (rd Z8 r) := by
 refine PCon.of (Con.intro0 Tryz.func81 rfl Tryz.ntmps81 rfl fun w H => ?_)
 unfold Zi6 at h
 refine SR <| Ab rfl <| Nl <| AW.seq <| SR <| Md rfl <| Ac (Z0j rfl rfl Z26 (vt rfl)) rfl <| Md rfl <| Ac (Z0j rfl rfl Z26 (vt rfl)) rfl <| Ac (Z5l rfl rfl (vt rfl) (vt rfl)) rfl <| Nl <| Cn rfl (fun hc => ?_) (fun hc => ?_)
 ·have h := Ze hc h
  refine SR <| Ab rfl <| Nl <| AW.ret ?_
  obtain rfl := si h
  exact Zg Tryz.results81 rfl (Z6 rfl)
 ·have h := Zf hc h
  refine AW.skip <| AW.seq <| SR <| Md rfl <| Ac (Z0j rfl rfl Z26 (vt rfl)) rfl <| Mk rfl <| Nl <| AW.block <| AW.loopG (d := []) (ν := (List Rule) × Nat) (fun n => Sfx s11 n.2 n.1 ∧ Z74 s22 eq3 n.1 n.2 = some r) (fun n => n.1.length) (fun n => [(1, rd (Z4 Zy) s22), (2, fn2 Tryz.prog Zy Zy Z8 eq3), (15, rd (Z4 Zy) s11), (16, rd (Z0 .i64) (s11.length : Int)), (17, rd (Z0 .i64) (n.2 : Int))]) (fun n => []) (s11, 0) ⟨Sfx.start _, h⟩ ⟨rfl, ⟨rfl, rfl, rfl, rfl, rfl, trivial⟩, trivial⟩ ?_
  rintro ⟨l5, i4⟩ ⟨hsf1, h⟩
  change Sfx s11 i4 l5 at hsf1
  change Z74 s22 eq3 l5 i4 = some r at h
  change AW _ _ _ ⟨Zw [(1, rd (Z4 Zy) s22), (2, fn2 Tryz.prog Zy Zy Z8 eq3), (15, rd (Z4 Zy) s11), (16, rd (Z0 .i64) (s11.length : Int)), (17, rd (Z0 .i64) (i4 : Int))], Zx [], _⟩
  cases l5 with
  | nil =>
   unfold Z74 at h
   refine SR <| Ac (Zl rfl rfl (vt rfl) (vt rfl)) rfl <| Nl <| AW.seq <| Cn rfl (fun hc => absurd (of_decide_eq_true hc) hsf1.nil) (fun hc => ?_)
   refine AW.exit <| SR <| Ab rfl <| Nl <| AW.ret ?_
   obtain rfl := si h
   exact Zg Tryz.results81 rfl (Z6 rfl)
  | cons x6 l5 =>
   unfold Z74 at h
   generalize hgo1 : Z74 s22 eq3 l5 = go1 at h
   refine SR <| Ac (Zl rfl rfl (vt rfl) (vt rfl)) rfl <| Nl <| AW.seq <| Cn rfl (fun hc => ?_) (fun hc => absurd hsf1.cons (of_decide_eq_false hc))
   have hlti4 := of_decide_eq_true hc
   refine AW.skip <| AW.seq <| AW.block <| SR <| Md rfl <| Ac (Z0l rfl rfl Z26 (vt rfl) (vt rfl) hsf1.lget) rfl <| Lp1 Z4g rfl <| Ct rfl (Zm 9 rfl rfl Z4i) ?_
   rintro _ ⟨g7, rfl⟩
   refine As rfl <| Zh Z4g 9 rfl <| Nl <| AW.seq ?_
   obtain ⟨e8, he8, h⟩ := Z1 h
   refine Rg <| Md rfl <| Md rfl <| Ac (Z0l rfl rfl Z26 (vt rfl) (vt rfl) he8) rfl <| Lp1 Z4g rfl <| Ct rfl (Zm 10 rfl rfl Z4i) ?_
   rintro _ ⟨g9, rfl⟩
   refine Zh Z4g 10 rfl <| Nl <| AW.seq ?_
   obtain ⟨x10, hx10, h⟩ := Z1 h
   refine Rg <| Ac (Zs (A := fn2 Tryz.prog Zy Zy Z8 eq3) rfl rfl (vt rfl)) rfl <| Ld Z4g 9 rfl <| Ld Z4g 10 rfl <| Ac (Z57 hx10 rfl rfl (vt rfl) (vt rfl) (vt rfl)) rfl <| Ac (Z13 rfl rfl (vt rfl)) rfl <| Nl <| Cn rfl (fun hc => ?_) (fun hc => ?_)
   ·have h := Ze hc h
    refine SR <| Ab rfl <| Nl <| AW.ret ?_
    obtain rfl := si h
    exact Zg Tryz.results81 rfl (Z6 rfl)
   ·have h := Zf hc h
    refine AW.skip <| Rg <| Ac (Z1t (t := 16) rfl rfl (vt rfl) (vk rfl) (vt rfl) hlti4) rfl <| Md rfl <| Nl ?_
    subst hgo1
    exact ⟨(l5, i4 + 1), Nat.lt_succ_self _, ⟨hsf1.next, h⟩, ⟨rfl, ⟨rfl, rfl, rfl, rfl, rfl, trivial⟩, trivial⟩⟩
def Zai (l1 : (List Rule)) : Nat → (List (Vector Tern 24)) → Int → Option (List (Vector Tern 24))
 | 0, _, _ => none
 | m9 + 1, l6, i8 => (bif (decide (i8 < (l1.length : Int))) then (lget l1 i8).bind fun e10 => (Z0w l6 [e10.Cube]).bind fun l11 => (Zai l1 m9) l11 (IntKind.i64.wrap (i8 + 1)) else some l6)
def Ze2 (l1 : (List Rule)) : Option (List (Vector Tern 24)) :=
 Zai l1 ((((l1.length : Int) : Int) - 0).toNat + 1) [] 0
theorem Ya1 (l1 : (List Rule)) (r : (List (Vector Tern 24))) (h : Ze2 l1 = some r) : Con Tryz.prog 172 [rd (Z4 Zy) l1] emp (fun v => Zc v) (fun v => Za v 87 (Z2 24 Z3) r) := by
 refine Con.intro0 Tryz.func172 rfl Tryz.ntmps172 rfl fun w H => ?_
 unfold Ze2 at h
 refine AW.seq <| AW.newnil 1001 87 (Z2 24 Z3) <| Rg <| Ac (Z07 rfl rfl vc) rfl <| Nl <| SR <| Ct rfl (Z4c 1002 (ps := []) (l := []) rfl rfl Z2h Z0v rfl rfl rfl rfl) ?_
 rintro _ ⟨v2, rfl⟩
 refine Aw rfl <| Nl <| AW.seq <| SR <| Ak rfl <| Nl <| AW.block <| AW.loopG (d := []) (ν := Nat × (List (Vector Tern 24)) × Int × Value) (fun n => True ∧ Zai l1 n.1 n.2.1 n.2.2.1 = some r) (fun n => n.1) (fun n => [(0, rd (Z4 Zy) l1), (3, Zc n.2.2.2), (4, rd (Z0 .i64) n.2.2.1)]) (fun n => [(1002, Za n.2.2.2 87 (Z2 24 Z3) n.2.1)]) (((((l1.length : Int) : Int) - 0).toNat + 1), [], 0, v2) ⟨trivial, h⟩ ⟨rfl, ⟨rfl, rfl, rfl, trivial⟩, ⟨rfl, trivial⟩⟩ ?_
 rintro ⟨m9, l6, i8, v7⟩ ⟨hsf1, h⟩
 change True at hsf1
 change Zai l1 m9 l6 i8 = some r at h
 change AW _ _ _ ⟨Zw [(0, rd (Z4 Zy) l1), (3, Zc v7), (4, rd (Z0 .i64) i8)], Zx [(1002, Za v7 87 (Z2 24 Z3) l6)], _⟩
 cases m9 with
 | zero => cases h
 | succ m9 =>
  unfold Zai at h
  generalize hgo1 : Zai l1 m9 = go1 at h
  refine AW.seq <| SR <| Md rfl <| Md rfl <| Ac (Z0j rfl rfl Z26 (vt rfl)) rfl <| Ac (Zl rfl rfl (vt rfl) (vt rfl)) rfl <| Nl <| Cn rfl (fun hc => ?_) (fun hc => ?_)
  ·have h := Ze hc h
   refine AW.skip <| AW.seq <| AW.block ?_
   obtain ⟨e10, he10, h⟩ := Z1 h
   obtain ⟨l11, hl11, h⟩ := Z1 h
   refine Rg <| Mw rfl <| Md rfl <| Md rfl <| Ac (Z0l rfl rfl Z26 (vt rfl) (vt rfl) he10) rfl <| Fp Z65 Zbj rfl <| Lp1 Zz rfl <| Ac (Z2o (ps := [(0, .tmp 17)]) (l := [e10.Cube]) rfl rfl Z2h Z0v rfl rfl ⟨_, _, Lens.idx 1 (Z2 24 Z3) 0 (by decide), _, rfl, (vt rfl), rfl⟩ rfl) rfl <| Ct rfl (Z2l 1002 hl11 rfl rfl Zfx (vt rfl) rfl (vt rfl)) ?_
   rintro _ ⟨v12, rfl⟩
   refine Aw rfl <| Nl <| Rg <| Md rfl <| Ac (Z08 rfl rfl (vt rfl) (vk rfl)) rfl <| As rfl <| Nl ?_
   subst hgo1
   exact ⟨(m9, l11, (IntKind.i64.wrap (i8 + 1)), v12), Nat.lt_succ_self _, ⟨trivial, h⟩, ⟨rfl, ⟨rfl, rfl, rfl, trivial⟩, ⟨rfl, trivial⟩⟩⟩
  ·have h := Zf hc h
   refine AW.exit <| SR <| Mw rfl <| Aw rfl <| Nl <| AW.ret ?_
   obtain rfl := si h
   exact Z4k (i := 1002) Tryz.results172 rfl rfl rfl
theorem Y95 (l1 : (List Rule)) (r : (List (Vector Tern 24))) (h : Ze2 l1 = some r) : PCon Tryz.prog 172 [rd (Z4 Zy) l1] (rd (Z4 (Z2 24 Z3)) r) := PCon.of_row (Ya1 l1 r h)
end Go.Proofs.YtknpgojdkobgjaaGreat.W
set_option maxRecDepth 4000
namespace Go.Proofs.YtknpgojdkobgjaaGreat.W
open Go Go.Wb
theorem Y0h : Ent Tryz.prog 323 := Ent.mk Tryz.func323 rfl rfl
theorem Y14 : Ent Tryz.prog 295 := Ent.mk Tryz.func295 rfl rfl
theorem Y3g : Ent Tryz.prog 249 := Ent.mk Tryz.func249 rfl rfl
theorem Ydu : Ent Tryz.prog 250 := Ent.mk Tryz.func250 rfl rfl
theorem Ya6 : Ent Tryz.prog 172 := Ent.mk Tryz.func172 rfl rfl
theorem Y6s : Ent Tryz.prog 186 := Ent.mk Tryz.func186 rfl rfl
theorem Y01 : Ent Tryz.prog 118 := Ent.mk Tryz.func118 rfl rfl
theorem e59 : Ent Tryz.prog 59 := Ent.mk Tryz.func59 rfl rfl
def Z7v (l2 : (List (Vector Tern 24))) (cu1 : (Vector Tern 24)) : Nat → (List (Vector Tern 24)) → Int → Option (List (Vector Tern 24))
 | 0, _, _ => none
 | m11 + 1, l8, i10 => (bif (decide (i10 < (l2.length : Int))) then (lget l2 i10).bind fun e12 => (Zfh cu1 e12).bind fun x13 => (bif x13.2 then (lget l2 i10).bind fun e15 => (Z0w l8 [e15]).bind fun l16 => (Z7v l2 cu1 m11) l16 (IntKind.i64.wrap (i10 + 1)) else (Z7v l2 cu1 m11) l8 (IntKind.i64.wrap (i10 + 1))) else some l8)
def Zkn (cu1 : (Vector Tern 24)) (l2 : (List (Vector Tern 24))) : Option (List (Vector Tern 24)) :=
 Z7v l2 cu1 ((((l2.length : Int) : Int) - 0).toNat + 1) [] 0
theorem Yc2 (cu1 : (Vector Tern 24)) (l2 : (List (Vector Tern 24))) (r : (List (Vector Tern 24))) (h : Zkn cu1 l2 = some r) : PCon Tryz.prog 249 [rd (Z2 24 Z3) cu1, rd (Z4 (Z2 24 Z3)) l2] (rd (Z4 (Z2 24 Z3)) r) := by
 refine PCon.of (Con.intro0 Tryz.func249 rfl Tryz.ntmps249 rfl fun w H => ?_)
 unfold Zkn at h
 refine SR <| Ct rfl (Zo 3 rfl rfl (vt rfl)) ?_
 rintro _ ⟨g3, rfl⟩
 refine Ac (Z07 (A := rd (Z4 (Z2 24 Z3)) []) rfl rfl Z27) rfl <| Nl <| SR <| Ct rfl (Z4c 1001 (ps := []) (l := []) rfl rfl Z2h Z0v rfl rfl rfl rfl) ?_
 rintro _ ⟨v4, rfl⟩
 refine Aw rfl <| Nl <| AW.seq <| SR <| Ak rfl <| Nl <| AW.block <| AW.loopG (d := []) (ν := Nat × (List (Vector Tern 24)) × Int × Value) (fun n => True ∧ Z7v l2 cu1 n.1 n.2.1 n.2.2.1 = some r) (fun n => n.1) (fun n => [(1, rd (Z4 (Z2 24 Z3)) l2), (2, Z7 g3 (Lens.id (Z2 24 Z3))), (5, Zc n.2.2.2), (6, rd (Z0 .i64) n.2.2.1)]) (fun n => [(3, Z9 g3 87 (Z2 24 Z3) cu1), (1001, Za n.2.2.2 87 (Z2 24 Z3) n.2.1)]) (((((l2.length : Int) : Int) - 0).toNat + 1), [], 0, v4) ⟨trivial, h⟩ ⟨rfl, ⟨rfl, rfl, rfl, rfl, trivial⟩, ⟨rfl, rfl, trivial⟩⟩ ?_
 rintro ⟨m11, l8, i10, v9⟩ ⟨hsf1, h⟩
 change True at hsf1
 change Z7v l2 cu1 m11 l8 i10 = some r at h
 change AW _ _ _ ⟨Zw [(1, rd (Z4 (Z2 24 Z3)) l2), (2, Z7 g3 (Lens.id (Z2 24 Z3))), (5, Zc v9), (6, rd (Z0 .i64) i10)], Zx [(3, Z9 g3 87 (Z2 24 Z3) cu1), (1001, Za v9 87 (Z2 24 Z3) l8)], _⟩
 cases m11 with
 | zero => cases h
 | succ m11 =>
  unfold Z7v at h
  generalize hgo1 : Z7v l2 cu1 m11 = go1 at h
  refine AW.seq <| SR <| Md rfl <| Md rfl <| Ac (Z0j rfl rfl Z2h (vt rfl)) rfl <| Ac (Zl rfl rfl (vt rfl) (vt rfl)) rfl <| Nl <| Cn rfl (fun hc => ?_) (fun hc => ?_)
  ·have h := Ze hc h
   refine AW.skip <| AW.seq <| AW.block <| AW.seq ?_
   obtain ⟨e12, he12, h⟩ := Z1 h
   obtain ⟨x13, hx13, h⟩ := Z1 h
   refine AW.regionAny [⟨[2], [17], [3], []⟩, ⟨[1], [18], [], []⟩, ⟨[6], [19], [], []⟩, ⟨[18, 19], [20], [], []⟩, ⟨[20], [21], [], []⟩, ⟨[17, 21], [22], [], []⟩, ⟨[22], [16], [], []⟩, ⟨[16], [23], [], []⟩, ⟨[16], [24], [], []⟩, ⟨[], [7], [], []⟩, ⟨[7, 23], [7], [], []⟩, ⟨[24], [8], [], []⟩] Z06 (by kernel_rfl) <| Zq Zz 3 rfl <| Zu rfl <| Zu rfl <| Sc (lo [18, 19] [] rfl fun S hs hr => Z0l rfl rfl Z2h (vh hs 18 rfl rfl) (vh hs 19 rfl rfl) he12) rfl <| SLp Zz rfl <| SCl [17, 21] (Ztv _ _ _ hx13) Zxf rfl <| Sc (lo [22] [] rfl fun S hs hr => Zs (A := Z1e (rd (Z2 24 Z3) x13.1) (rd Z8 x13.2)) rfl rfl (vh hs 22 rfl rfl)) rfl <| Sc (lo [16] [] rfl fun S hs hr => Z1p rfl rfl (vh hs 16 rfl rfl)) rfl <| Sc (lo [16] [] rfl fun S hs hr => Z1q rfl rfl (vh hs 16 rfl rfl)) rfl <| Sc (Z1b (us := [(7, Z25 87 (Z2 24 Z3) (Vector.replicate 24 zTern))]) (ur := []) [] [] rfl fun S hs hr => Z5r rfl rfl rfl Z0v) rfl <| Sc (Z1b (us := [(7, Z25 87 (Z2 24 Z3) x13.1)]) (ur := []) [7, 23] [] rfl fun S hs hr => Z5n rfl rfl Zz ((hs 7 rfl).trans rfl) (vh hs 23 rfl rfl)) rfl <| SAs rfl <| AW.unpackP 7 8 rfl rfl fun g14 => SR <| Md rfl <| Nl <| Cn rfl (fun hc => ?_) (fun hc => ?_)
   ·have h := Ze hc h
    obtain ⟨e15, he15, h⟩ := Z1 h
    obtain ⟨l16, hl16, h⟩ := Z1 h
    refine Rg <| Mw rfl <| Md rfl <| Md rfl <| Ac (Z0l rfl rfl Z2h (vt rfl) (vt rfl) he15) rfl <| Lp1 Zz rfl <| Ac (Z2o (ps := [(0, .tmp 30)]) (l := [e15]) rfl rfl Z2h Z0v rfl rfl ⟨_, _, Lens.idx 1 (Z2 24 Z3) 0 (by decide), _, rfl, (vt rfl), rfl⟩ rfl) rfl <| Ct rfl (Z2l 1001 hl16 rfl rfl Zfx (vt rfl) rfl (vt rfl)) ?_
    rintro _ ⟨v17, rfl⟩
    refine Aw rfl <| Nl <| Rg <| Md rfl <| Ac (Z08 rfl rfl (vt rfl) (vk rfl)) rfl <| As rfl <| Nl ?_
    subst hgo1
    exact ⟨(m11, l16, (IntKind.i64.wrap (i10 + 1)), v17), Nat.lt_succ_self _, ⟨trivial, h⟩, ⟨rfl, ⟨rfl, rfl, rfl, rfl, trivial⟩, ⟨rfl, rfl, trivial⟩⟩⟩
   ·have h := Zf hc h
    refine AW.skip <| Rg <| Md rfl <| Ac (Z08 rfl rfl (vt rfl) (vk rfl)) rfl <| As rfl <| Nl ?_
    subst hgo1
    exact ⟨(m11, l8, (IntKind.i64.wrap (i10 + 1)), v9), Nat.lt_succ_self _, ⟨trivial, h⟩, ⟨rfl, ⟨rfl, rfl, rfl, rfl, trivial⟩, ⟨rfl, rfl, trivial⟩⟩⟩
  ·have h := Zf hc h
   refine AW.exit <| SR <| Mw rfl <| Aw rfl <| Nl <| AW.freezes [4, 5, 33] 1001 rfl ⟨rfl, rfl, rfl, trivial⟩ rfl <| AW.ret ?_
   obtain rfl := si h
   exact Zg Tryz.results249 rfl (Z6 rfl)
def Zhr (a1 : Wide) (i2 : Int) : Option Bool :=
 (Z8c i2).bind fun x4 => (Zbm a1 x4).bind fun x5 => (Zdv x5).bind fun x6 => some (!x6)
theorem Yds (a1 : Wide) (i2 : Int) (r : Bool) (h : Zhr a1 i2 = some r) : PCon Tryz.prog 323 [rd Zn a1, rd (Z0 .i64) i2] (rd Z8 r) := by
 refine PCon.of (Con.intro0 Tryz.func323 rfl Tryz.ntmps323 rfl fun w H => ?_)
 unfold Zhr at h
 refine SR <| Ct rfl (Zo 3 rfl rfl (vt rfl)) ?_
 rintro _ ⟨g3, rfl⟩
 refine Ab rfl <| Nl <| AW.seq ?_
 obtain ⟨x4, hx4, h⟩ := Z1 h
 obtain ⟨x5, hx5, h⟩ := Z1 h
 obtain ⟨x6, hx6, h⟩ := Z1 h
 refine AW.regionAny [⟨[2], [5], [3], []⟩, ⟨[1], [6], [], []⟩, ⟨[6], [7], [], []⟩, ⟨[5, 7], [8], [], []⟩, ⟨[8], [9], [], []⟩, ⟨[9], [10], [], []⟩, ⟨[10], [4], [], []⟩] Z06 (by kernel_rfl) <| Zq Zt 3 rfl <| Zu rfl <| SCl [6] (Zky _ _ hx4) Zmv rfl <| SCl [5, 7] (Zmm _ _ _ hx5) Zkw rfl <| SCl [8] (Zt0 _ _ hx6) Zym rfl <| Sc (lo [9] [] rfl fun S hs hr => Z13 rfl rfl (vh hs 9 rfl rfl)) rfl <| SAs rfl <| AW.ret ?_
 obtain rfl := si h
 exact Zg Tryz.results323 rfl (Z6 rfl)
def Z8v (a1 : Wide) : Nat → Int → Int → Option Int
 | 0, _, _ => none
 | m7 + 1, n5, i6 => (bif (decide (i6 < 128)) then (Zhr a1 i6).bind fun x8 => (bif x8 then (Z8v a1 m7) (IntKind.i64.wrap (n5 + 1)) (IntKind.i64.wrap (i6 + 1)) else (Z8v a1 m7) n5 (IntKind.i64.wrap (i6 + 1))) else some n5)
def Zha (a1 : Wide) : Option Int :=
 Z8v a1 (((128 : Int) - 0).toNat + 1) 0 0
theorem Yc0 (a1 : Wide) (r : Int) (h : Zha a1 = some r) : PCon Tryz.prog 295 [rd Zn a1] (rd (Z0 .i64) r) := by
 refine PCon.of (Con.intro0 Tryz.func295 rfl Tryz.ntmps295 rfl fun w H => ?_)
 unfold Zha at h
 refine SR <| Ct rfl (Zo 2 rfl rfl (vt rfl)) ?_
 rintro _ ⟨g2, rfl⟩
 refine Ak rfl <| Nl <| SR <| Ak rfl <| Nl <| AW.seq <| SR <| Ak rfl <| Nl <| AW.block <| AW.loopG (d := []) (ν := Nat × Int × Int) (fun n => True ∧ Z8v a1 n.1 n.2.1 n.2.2 = some r) (fun n => n.1) (fun n => [(1, Z7 g2 (Lens.id Zn)), (3, rd (Z0 .i64) n.2.1), (4, rd (Z0 .i64) n.2.2)]) (fun n => [(2, Z9 g2 42 Zn a1)]) ((((128 : Int) - 0).toNat + 1), 0, 0) ⟨trivial, h⟩ ⟨rfl, ⟨rfl, rfl, rfl, trivial⟩, ⟨rfl, trivial⟩⟩ ?_
 rintro ⟨m7, n5, i6⟩ ⟨hsf1, h⟩
 change True at hsf1
 change Z8v a1 m7 n5 i6 = some r at h
 change AW _ _ _ ⟨Zw [(1, Z7 g2 (Lens.id Zn)), (3, rd (Z0 .i64) n5), (4, rd (Z0 .i64) i6)], Zx [(2, Z9 g2 42 Zn a1)], _⟩
 cases m7 with
 | zero => cases h
 | succ m7 =>
  unfold Z8v at h
  generalize hgo1 : Z8v a1 m7 = go1 at h
  refine AW.seq <| SR <| Md rfl <| Ac (Zl rfl rfl (vt rfl) (vk rfl)) rfl <| Nl <| Cn rfl (fun hc => ?_) (fun hc => ?_)
  ·have h := Ze hc h
   refine AW.skip <| AW.seq <| AW.block <| AW.seq ?_
   obtain ⟨x8, hx8, h⟩ := Z1 h
   refine Rg <| Ld Zt 2 rfl <| Md rfl <| Cl [9, 10] (Yds _ _ _ hx8) Y0h rfl <| Nl <| Cn rfl (fun hc => ?_) (fun hc => ?_)
   ·have h := Ze hc h
    refine Rg <| Md rfl <| Ac (Z08 rfl rfl (vt rfl) (vk rfl)) rfl <| As rfl <| Nl <| Rg <| Md rfl <| Ac (Z08 rfl rfl (vt rfl) (vk rfl)) rfl <| As rfl <| Nl ?_
    subst hgo1
    exact ⟨(m7, (IntKind.i64.wrap (n5 + 1)), (IntKind.i64.wrap (i6 + 1))), Nat.lt_succ_self _, ⟨trivial, h⟩, ⟨rfl, ⟨rfl, rfl, rfl, trivial⟩, ⟨rfl, trivial⟩⟩⟩
   ·have h := Zf hc h
    refine AW.skip <| Rg <| Md rfl <| Ac (Z08 rfl rfl (vt rfl) (vk rfl)) rfl <| As rfl <| Nl ?_
    subst hgo1
    exact ⟨(m7, n5, (IntKind.i64.wrap (i6 + 1))), Nat.lt_succ_self _, ⟨trivial, h⟩, ⟨rfl, ⟨rfl, rfl, rfl, trivial⟩, ⟨rfl, trivial⟩⟩⟩
  ·have h := Zf hc h
   refine AW.exit <| SR <| Md rfl <| As rfl <| Nl <| AW.ret ?_
   obtain rfl := si h
   exact Zg Tryz.results295 rfl (Z6 rfl)
def Za7 (cu1 : (Vector Tern 24)) : Nat → Int → Int → Option Int
 | 0, _, _ => none
 | m7 + 1, n5, f6 => (bif (decide (f6 < 24)) then (chk 24 f6).bind fun j8 => (Zha ((Vector.get cu1 j8).Mask)).bind fun x9 => (Za7 cu1 m7) (IntKind.i64.wrap (n5 + x9)) (IntKind.i64.wrap (f6 + 1)) else some n5)
def Zjn (cu1 : (Vector Tern 24)) : Option Int :=
 Za7 cu1 (((24 : Int) - 0).toNat + 1) 0 0
theorem Ycw (cu1 : (Vector Tern 24)) (r : Int) (h : Zjn cu1 = some r) : PCon Tryz.prog 250 [rd (Z2 24 Z3) cu1] (rd (Z0 .i64) r) := by
 refine PCon.of (Con.intro0 Tryz.func250 rfl Tryz.ntmps250 rfl fun w H => ?_)
 unfold Zjn at h
 refine SR <| Ct rfl (Zo 2 rfl rfl (vt rfl)) ?_
 rintro _ ⟨g2, rfl⟩
 refine Ak rfl <| Nl <| SR <| Ak rfl <| Nl <| AW.seq <| SR <| Ak rfl <| Nl <| AW.block <| AW.loopG (d := []) (ν := Nat × Int × Int) (fun n => True ∧ Za7 cu1 n.1 n.2.1 n.2.2 = some r) (fun n => n.1) (fun n => [(1, Z7 g2 (Lens.id (Z2 24 Z3))), (3, rd (Z0 .i64) n.2.1), (4, rd (Z0 .i64) n.2.2)]) (fun n => [(2, Z9 g2 87 (Z2 24 Z3) cu1)]) ((((24 : Int) - 0).toNat + 1), 0, 0) ⟨trivial, h⟩ ⟨rfl, ⟨rfl, rfl, rfl, trivial⟩, ⟨rfl, trivial⟩⟩ ?_
 rintro ⟨m7, n5, f6⟩ ⟨hsf1, h⟩
 change True at hsf1
 change Za7 cu1 m7 n5 f6 = some r at h
 change AW _ _ _ ⟨Zw [(1, Z7 g2 (Lens.id (Z2 24 Z3))), (3, rd (Z0 .i64) n5), (4, rd (Z0 .i64) f6)], Zx [(2, Z9 g2 87 (Z2 24 Z3) cu1)], _⟩
 cases m7 with
 | zero => cases h
 | succ m7 =>
  unfold Za7 at h
  generalize hgo1 : Za7 cu1 m7 = go1 at h
  refine AW.seq <| SR <| Md rfl <| Ac (Zl rfl rfl (vt rfl) (vk rfl)) rfl <| Nl <| Cn rfl (fun hc => ?_) (fun hc => ?_)
  ·have h := Ze hc h
   refine AW.skip <| AW.seq <| AW.block ?_
   obtain ⟨j8, hj8, h⟩ := Z1 h
   obtain ⟨x9, hx9, h⟩ := Z1 h
   refine Rg <| Md rfl <| Md rfl <| Ac (Z15 rfl rfl Z20 (vt rfl) (vt rfl) hj8) rfl <| Zp Z0z Z1y rfl <| Ld Zt 2 rfl <| Cl [13] (Yc0 _ _ hx9) Y14 rfl <| Ac (Z08 rfl rfl (vt rfl) (vt rfl)) rfl <| As rfl <| Nl <| Rg <| Md rfl <| Ac (Z08 rfl rfl (vt rfl) (vk rfl)) rfl <| As rfl <| Nl ?_
   subst hgo1
   exact ⟨(m7, (IntKind.i64.wrap (n5 + x9)), (IntKind.i64.wrap (f6 + 1))), Nat.lt_succ_self _, ⟨trivial, h⟩, ⟨rfl, ⟨rfl, rfl, rfl, trivial⟩, ⟨rfl, trivial⟩⟩⟩
  ·have h := Zf hc h
   refine AW.exit <| SR <| Md rfl <| As rfl <| Nl <| AW.ret ?_
   obtain rfl := si h
   exact Zg Tryz.results250 rfl (Z6 rfl)
def Zax (x4 : (List (Vector Tern 24))) : Nat → Int → Int → Option Int
 | 0, _, _ => none
 | m9 + 1, n7, i8 => (bif (decide (i8 < (x4.length : Int))) then (lget x4 i8).bind fun e10 => (Zjn e10).bind fun x11 => (Zax x4 m9) (Z39 (IntKind.i64.wrap (n7 * (Z1i x11 1))) 1099511627776) (IntKind.i64.wrap (i8 + 1)) else some n7)
def Zhk (cu1 : (Vector Tern 24)) (l2 : (List (Vector Tern 24))) : Option Int :=
 (Zkn cu1 l2).bind fun x4 => Zax x4 ((((x4.length : Int) : Int) - 0).toNat + 1) (Z39 (IntKind.i64.wrap ((x4.length : Int) + 1)) 1099511627776) 0
theorem Y0u (cu1 : (Vector Tern 24)) (l2 : (List (Vector Tern 24))) (r : Int) (h : Zhk cu1 l2 = some r) : PCon Tryz.prog 186 [rd (Z2 24 Z3) cu1, rd (Z4 (Z2 24 Z3)) l2] (rd (Z0 .i64) r) := by
 refine PCon.of (Con.intro0 Tryz.func186 rfl Tryz.ntmps186 rfl fun w H => ?_)
 unfold Zhk at h
 refine SR <| Ct rfl (Zo 3 rfl rfl (vt rfl)) ?_
 rintro _ ⟨g3, rfl⟩
 refine Ak rfl <| Nl <| AW.seq ?_
 obtain ⟨x4, hx4, h⟩ := Z1 h
 refine Rg <| Ld Zz 3 rfl <| Md rfl <| Cl [8, 9] (Yc2 _ _ _ hx4) Y3g rfl <| As rfl <| Nl <| SR <| Md rfl <| Ac (Z0j rfl rfl Z2h (vt rfl)) rfl <| Ac (Z08 rfl rfl (vt rfl) (vk rfl)) rfl <| Ac (Zhw rfl rfl (vt rfl) (vk rfl)) rfl <| As rfl <| Nl <| AW.seq <| SR <| Ak rfl <| Nl <| AW.block <| AW.loopG (d := []) (ν := Nat × Int × Int) (fun n => True ∧ Zax x4 n.1 n.2.1 n.2.2 = some r) (fun n => n.1) (fun n => [(5, rd (Z4 (Z2 24 Z3)) x4), (6, rd (Z0 .i64) n.2.1), (7, rd (Z0 .i64) n.2.2)]) (fun n => []) (((((x4.length : Int) : Int) - 0).toNat + 1), (Z39 (IntKind.i64.wrap ((x4.length : Int) + 1)) 1099511627776), 0) ⟨trivial, h⟩ ⟨rfl, ⟨rfl, rfl, rfl, trivial⟩, trivial⟩ ?_
 rintro ⟨m9, n7, i8⟩ ⟨hsf1, h⟩
 change True at hsf1
 change Zax x4 m9 n7 i8 = some r at h
 change AW _ _ _ ⟨Zw [(5, rd (Z4 (Z2 24 Z3)) x4), (6, rd (Z0 .i64) n7), (7, rd (Z0 .i64) i8)], Zx [], _⟩
 cases m9 with
 | zero => cases h
 | succ m9 =>
  unfold Zax at h
  generalize hgo1 : Zax x4 m9 = go1 at h
  refine AW.seq <| SR <| Md rfl <| Md rfl <| Ac (Z0j rfl rfl Z2h (vt rfl)) rfl <| Ac (Zl rfl rfl (vt rfl) (vt rfl)) rfl <| Nl <| Cn rfl (fun hc => ?_) (fun hc => ?_)
  ·have h := Ze hc h
   refine AW.skip <| AW.seq <| AW.block ?_
   obtain ⟨e10, he10, h⟩ := Z1 h
   obtain ⟨x11, hx11, h⟩ := Z1 h
   refine Rg <| Md rfl <| Md rfl <| Md rfl <| Ac (Z0l rfl rfl Z2h (vt rfl) (vt rfl) he10) rfl <| Lp1 Zz rfl <| Cl [25] (Ycw _ _ hx11) Ydu rfl <| Ac (Zbg rfl rfl (vt rfl) (vk rfl)) rfl <| Ac (Z7h rfl rfl (vt rfl) (vt rfl)) rfl <| Ac (Zhw rfl rfl (vt rfl) (vk rfl)) rfl <| As rfl <| Nl <| Rg <| Md rfl <| Ac (Z08 rfl rfl (vt rfl) (vk rfl)) rfl <| As rfl <| Nl ?_
   subst hgo1
   exact ⟨(m9, (Z39 (IntKind.i64.wrap (n7 * (Z1i x11 1))) 1099511627776), (IntKind.i64.wrap (i8 + 1))), Nat.lt_succ_self _, ⟨trivial, h⟩, ⟨rfl, ⟨rfl, rfl, rfl, trivial⟩, trivial⟩⟩
  ·have h := Zf hc h
   refine AW.exit <| SR <| Md rfl <| As rfl <| Nl <| AW.ret ?_
   obtain rfl := si h
   exact Zg Tryz.results186 rfl (Z6 rfl)
def Zao (l1 : (List Rule)) : Nat → Int → Int → Option Int
 | 0, _, _ => none
 | m6 + 1, n4, i5 => (bif (decide (i5 < (l1.length : Int))) then (lget l1 i5).bind fun e7 => (Z4a l1 i5).bind fun s8 => (Ze2 s8).bind fun x9 => (Zhk e7.Cube x9).bind fun x10 => (Zao l1 m6) (Z1i n4 x10) (IntKind.i64.wrap (i5 + 1)) else some n4)
def Zhl (l1 : (List Rule)) : Option Int :=
 Zao l1 ((((l1.length : Int) : Int) - 0).toNat + 1) 0 0
theorem Y7f (l1 : (List Rule)) (r : Int) (h : Zhl l1 = some r) : PCon Tryz.prog 118 [rd (Z4 Zy) l1] (rd (Z0 .i64) r) := by
 refine PCon.of (Con.intro0 Tryz.func118 rfl Tryz.ntmps118 rfl fun w H => ?_)
 unfold Zhl at h
 refine SR <| Ak rfl <| Nl <| SR <| Ak rfl <| Nl <| AW.seq <| SR <| Ak rfl <| Nl <| AW.block <| AW.loopG (d := []) (ν := Nat × Int × Int) (fun n => True ∧ Zao l1 n.1 n.2.1 n.2.2 = some r) (fun n => n.1) (fun n => [(0, rd (Z4 Zy) l1), (3, rd (Z0 .i64) n.2.1), (4, rd (Z0 .i64) n.2.2)]) (fun n => []) (((((l1.length : Int) : Int) - 0).toNat + 1), 0, 0) ⟨trivial, h⟩ ⟨rfl, ⟨rfl, rfl, rfl, trivial⟩, trivial⟩ ?_
 rintro ⟨m6, n4, i5⟩ ⟨hsf1, h⟩
 change True at hsf1
 change Zao l1 m6 n4 i5 = some r at h
 change AW _ _ _ ⟨Zw [(0, rd (Z4 Zy) l1), (3, rd (Z0 .i64) n4), (4, rd (Z0 .i64) i5)], Zx [], _⟩
 cases m6 with
 | zero => cases h
 | succ m6 =>
  unfold Zao at h
  generalize hgo1 : Zao l1 m6 = go1 at h
  refine AW.seq <| SR <| Md rfl <| Md rfl <| Ac (Z0j rfl rfl Z26 (vt rfl)) rfl <| Ac (Zl rfl rfl (vt rfl) (vt rfl)) rfl <| Nl <| Cn rfl (fun hc => ?_) (fun hc => ?_)
  ·have h := Ze hc h
   refine AW.skip <| AW.seq <| AW.block ?_
   obtain ⟨e7, he7, h⟩ := Z1 h
   obtain ⟨s8, hs8, h⟩ := Z1 h
   obtain ⟨x9, hx9, h⟩ := Z1 h
   obtain ⟨x10, hx10, h⟩ := Z1 h
   refine AW.regionAny [⟨[3], [11], [], []⟩, ⟨[0], [12], [], []⟩, ⟨[4], [13], [], []⟩, ⟨[12, 13], [14], [], []⟩, ⟨[14], [15], [], []⟩, ⟨[15], [16], [], []⟩, ⟨[0], [17], [], []⟩, ⟨[4], [18], [], []⟩, ⟨[17, 18], [19], [], []⟩, ⟨[19], [20], [], []⟩, ⟨[16, 20], [21], [], []⟩, ⟨[11, 21], [22], [], []⟩, ⟨[22], [3], [], []⟩] Z06 (by kernel_rfl) <| Zu rfl <| Zu rfl <| Zu rfl <| Sc (lo [12, 13] [] rfl fun S hs hr => Z0l rfl rfl Z26 (vh hs 12 rfl rfl) (vh hs 13 rfl rfl) he7) rfl <| SFp Z65 Zbj rfl <| SLp Zz rfl <| Zu rfl <| Zu rfl <| Sc (lo [17, 18] [] rfl fun S hs hr => Zxg hs8 rfl rfl Z26 (vh hs 17 rfl rfl) (vh hs 18 rfl rfl)) rfl <| SCl [19] (Y95 _ _ hx9) Ya6 rfl <| SCl [16, 20] (Y0u _ _ _ hx10) Y6s rfl <| Sc (lo [11, 21] [] rfl fun S hs hr => Zbg rfl rfl (vh hs 11 rfl rfl) (vh hs 21 rfl rfl)) rfl <| SAs rfl <| Rg <| Md rfl <| Ac (Z08 rfl rfl (vt rfl) (vk rfl)) rfl <| As rfl <| Nl ?_
   subst hgo1
   exact ⟨(m6, (Z1i n4 x10), (IntKind.i64.wrap (i5 + 1))), Nat.lt_succ_self _, ⟨trivial, h⟩, ⟨rfl, ⟨rfl, rfl, rfl, trivial⟩, trivial⟩⟩
  ·have h := Zf hc h
   refine AW.exit <| SR <| Md rfl <| As rfl <| Nl <| AW.ret ?_
   obtain rfl := si h
   exact Zg Tryz.results118 rfl (Z6 rfl)
def Zfb (s1 : Switch) : Option Int :=
 (Ze8 s1).bind fun x3 => (Zhl x3).bind fun x4 => some x4
theorem Yeg (s1 : Switch) (r : Int) (h : Zfb s1 = some r) : PCon Tryz.prog 59 [rd Z0h s1] (rd (Z0 .i64) r) := by
 refine PCon.of (Con.intro0 Tryz.func59 rfl Tryz.ntmps59 rfl fun w H => ?_)
 unfold Zfb at h
 refine SR <| Ct rfl (Zo 2 rfl rfl (vt rfl)) ?_
 rintro _ ⟨g2, rfl⟩
 refine Ak rfl <| Nl <| AW.seq ?_
 obtain ⟨x3, hx3, h⟩ := Z1 h
 obtain ⟨x4, hx4, h⟩ := Z1 h
 refine Rg <| Ld Z3m 2 rfl <| Cl [3] (Y2j _ _ hx3) e23 rfl <| Cl [4] (Y7f _ _ hx4) Y01 rfl <| As rfl <| Nl <| AW.ret ?_
 obtain rfl := si h
 exact Zg Tryz.results59 rfl (Z6 rfl)
def Zme (s1 : Switch) (most2 : Int) : Option Bool :=
 (Zi8 s1 3).bind fun x4 => (opt ((x4 == true) && ((decide (most2 ≤ 1024)) == false)) (Zfb s1)).bind fun x5 => some (x4 && ((decide (most2 ≤ 1024)) || (decide (x5 ≤ 4096))))
theorem Ydf (s1 : Switch) (most2 : Int) (r : Bool) (h : Zme s1 most2 = some r) : PCon Tryz.prog 52 [rd Z0h s1, rd (Z0 .i64) most2] (rd Z8 r) := by
 refine PCon.of (Con.intro0 Tryz.func52 rfl Tryz.ntmps52 rfl fun w H => ?_)
 unfold Zme at h
 refine SR <| Ct rfl (Zo 3 rfl rfl (vt rfl)) ?_
 rintro _ ⟨g3, rfl⟩
 refine Ab rfl <| Nl <| AW.seq ?_
 obtain ⟨x4, hx4, h⟩ := Z1 h
 obtain ⟨x5, hx5, h⟩ := Z1 h
 refine Rg <| Ld Z3m 3 rfl <| Ac (Z0k (xs := [.tmp 5, .const (Value.int IntKind.i64 3)]) (Yf6 _ _ _ hx4) e21 rfl rfl ⟨vt rfl, vk rfl, trivial⟩) rfl <| Md rfl <| Gd rfl (fun hq => Zs (A := rd (Z0 .i64) most2) rfl rfl (vt rfl)) <| Gd rfl (fun hq => Z5e rfl rfl (Zj rfl hq) (vk rfl)) <| AOps.consG (OpG.guardX rfl rfl rfl rfl rfl fun hq => Zs (A := rd Z8 (decide (most2 ≤ 1024))) rfl rfl (Zj rfl hq)) <| AOps.consG (OpG.guardN rfl rfl rfl rfl rfl fun hq => Z14 rfl rfl Z3m (vt rfl) (i := 3) rfl) <| AOps.consG (OpG.guardN rfl rfl rfl rfl rfl fun hq => Z0k (xs := [.tmp 11]) (Yeg _ _ (Yak hx5 hq)) e59 rfl rfl ⟨Zj rfl hq, trivial⟩) <| AOps.consG (OpG.guardN rfl rfl rfl rfl rfl fun hq => Z5e rfl rfl (Zj rfl hq) (vk rfl)) <| Gd rfl (fun hq => Zek rfl rfl (vgx rfl hq) (vgw rfl hq)) <| Ac (Z11 rfl rfl (vt rfl) (vt rfl)) rfl <| As rfl <| Nl <| AW.ret ?_
 obtain rfl := si h
 exact Zg Tryz.results52 rfl (Z6 rfl)
def Zjw (p1 : cover_purse) : Option (Bool × cover_purse) :=
 (bif p1.free then some (true, p1) else some ((decide (({ p1 with left := (IntKind.i64.wrap (p1.left - 1)) }.left) ≥ 0)), { p1 with left := (IntKind.i64.wrap (p1.left - 1)) }))
theorem Ycm (g2 gT : Nat) (p1 : cover_purse) (r : (Bool × cover_purse)) (h : Zjw p1 = some r) : Con Tryz.prog 278 [Z7 g2 (Lens.id Z5a)] (Z9 g2 gT Z5a p1) (fun _ : Unit => rd Z8 r.1) (fun _ => Z9 g2 gT Z5a r.2) := by
 refine Con.intro Tryz.func278 rfl Tryz.ntmps278 rfl fun w H X => ?_
 unfold Zjw at h
 refine SR <| Ab rfl <| Nl <| AW.seq <| SR <| Mp rfl <| Nc rfl <| Zp Zqu Y1s rfl <| Ld ty4 0 rfl <| Nl <| Cn rfl (fun hc => ?_) (fun hc => ?_)
 ·have h := Ze hc h
  refine SR <| Ab rfl <| Nl <| AW.ret ?_
  obtain rfl := si h
  exact Zki (i := 0) Tryz.results278 rfl (Z6 rfl) rfl
 ·have h := Zf hc h
  refine AW.skip <| SR <| Mp rfl <| Nc rfl <| Zp Zj7 Zpi rfl <| Ld Zv 0 rfl <| Ac (Z0n rfl rfl (vt rfl) (vk rfl)) rfl <| Nc rfl <| Zp Zj7 Zpi rfl <| Zh Zv 0 rfl <| Nl <| SR <| Mp rfl <| Nc rfl <| Zp Zj7 Zpi rfl <| Ld Zv 0 rfl <| Ac (Z5q rfl rfl (vt rfl) (vk rfl)) rfl <| As rfl <| Nl <| AW.ret ?_
  obtain rfl := si h
  exact Zki (i := 0) Tryz.results278 rfl (Z6 rfl) rfl
end Go.Proofs.YtknpgojdkobgjaaGreat.W
set_option maxRecDepth 4000
namespace Go.Proofs.YtknpgojdkobgjaaGreat.W
open Go Go.Wb
theorem Y0p : Ent Tryz.prog 337 := Ent.mk Tryz.func337 rfl rfl
theorem Ycc : Ent Tryz.prog 316 := Ent.mk Tryz.func316 rfl rfl
theorem Zug : Ent Tryz.prog 331 := Ent.mk Tryz.func331 rfl rfl
theorem Zx3 : Ent Tryz.prog 294 := Ent.mk Tryz.func294 rfl rfl
theorem Zxz : Ent Tryz.prog 319 := Ent.mk Tryz.func319 rfl rfl
def Zgw (a1 : Tern) (b2 : Tern) : Option Bool :=
 (Za5 b2.Mask a1.Mask).bind fun x5 => (Zep x5).bind fun x6 => (opt x6 (Zik b2 a1.Value)).bind fun x7 => some (x6 && x7)
theorem Y2n (a1 : Tern) (b2 : Tern) (r : Bool) (h : Zgw a1 b2 = some r) : PCon Tryz.prog 337 [rd Z3 a1, rd Z3 b2] (rd Z8 r) := by
 refine PCon.of (Con.intro0 Tryz.func337 rfl Tryz.ntmps337 rfl fun w H => ?_)
 unfold Zgw at h
 refine SR <| Ct rfl (Zo 3 rfl rfl (vt rfl)) ?_
 rintro _ ⟨g3, rfl⟩
 refine Ct rfl (Zo 4 rfl rfl (vt rfl)) ?_
 rintro _ ⟨g4, rfl⟩
 refine Ab rfl <| Nl <| AW.seq ?_
 obtain ⟨x5, hx5, h⟩ := Z1 h
 obtain ⟨x6, hx6, h⟩ := Z1 h
 obtain ⟨x7, hx7, h⟩ := Z1 h
 refine Rg <| Zp Z0z Z1y rfl <| Ld Zt 4 rfl <| Zp Z0z Z1y rfl <| Ld Zt 3 rfl <| Cl [6, 8] (Zji _ _ _ hx5) Zi7 rfl <| Cl [9] (Znn _ _ hx6) Zre rfl <| Md rfl <| Gd rfl (fun hq => Z14 rfl rfl Z00 (vt rfl) (i := 4) rfl) <| Gd rfl (fun hq => Z1w Z1a rfl rfl Z2f (vt rfl)) <| Gd rfl (fun hq => Z14 rfl rfl Zt (Zj rfl hq) (i := 3) rfl) <| Gd rfl (fun hq => Z0k (xs := [.tmp 12, .tmp 14]) (Ztj _ _ _ (Z1g hx7 hq)) Zu9 rfl rfl ⟨Zj rfl hq, Zj rfl hq, trivial⟩) <| Ac (Z11 rfl rfl (vt rfl) (vt rfl)) rfl <| As rfl <| Nl <| AW.ret ?_
 obtain rfl := si h
 exact Zg Tryz.results337 rfl (Z6 rfl)
def Z70 (b2 : (Vector Tern 24)) : (List Tern) → Nat → Option Bool
 | [], i5 => some true
 | x7 :: l6, i5 => (chk 24 (i5 : Int)).bind fun j9 => (Zgw x7 (Vector.get b2 j9)).bind fun x10 => (bif (!x10) then some false else (Z70 b2 l6) (i5 + 1))
def Zjq (a1 : (Vector Tern 24)) (b2 : (Vector Tern 24)) : Option Bool :=
 Z70 b2 (Vector.toList a1) 0
theorem Ye0 (a1 : (Vector Tern 24)) (b2 : (Vector Tern 24)) (r : Bool) (h : Zjq a1 b2 = some r) : PCon Tryz.prog 316 [rd (Z2 24 Z3) a1, rd (Z2 24 Z3) b2] (rd Z8 r) := by
 refine PCon.of (Con.intro0 Tryz.func316 rfl Tryz.ntmps316 rfl fun w H => ?_)
 unfold Zjq at h
 refine SR <| Ct rfl (Zo 3 rfl rfl (vt rfl)) ?_
 rintro _ ⟨g3, rfl⟩
 refine Ct rfl (Zo 4 rfl rfl (vt rfl)) ?_
 rintro _ ⟨g4, rfl⟩
 refine Ab rfl <| Nl <| AW.seq <| SR <| Ld Zz 3 rfl <| Mk rfl <| Nl <| AW.block <| AW.loopG (d := []) (ν := (List Tern) × Nat) (fun n => Sfx (Vector.toList a1) n.2 n.1 ∧ Z70 b2 n.1 n.2 = some r) (fun n => n.1.length) (fun n => [(3, Z7 g4 (Lens.id (Z2 24 Z3))), (7, rd (Z2 24 Z3) a1), (8, rd (Z0 .i64) (n.2 : Int))]) (fun n => [(4, Z9 g4 87 (Z2 24 Z3) b2)]) ((Vector.toList a1), 0) ⟨Sfx.start _, h⟩ ⟨rfl, ⟨rfl, rfl, rfl, trivial⟩, ⟨rfl, trivial⟩⟩ ?_
 rintro ⟨l6, i5⟩ ⟨hsf1, h⟩
 change Sfx (Vector.toList a1) i5 l6 at hsf1
 change Z70 b2 l6 i5 = some r at h
 change AW _ _ _ ⟨Zw [(3, Z7 g4 (Lens.id (Z2 24 Z3))), (7, rd (Z2 24 Z3) a1), (8, rd (Z0 .i64) (i5 : Int))], Zx [(4, Z9 g4 87 (Z2 24 Z3) b2)], _⟩
 cases l6 with
 | nil =>
  unfold Z70 at h
  refine SR <| Ac (Zl rfl rfl (vt rfl) (vk rfl)) rfl <| Nl <| AW.seq <| Cn rfl (fun hc => absurd (of_decide_eq_true hc) (hsf1.niln (by simp))) (fun hc => ?_)
  refine AW.exit <| SR <| Ab rfl <| Nl <| AW.ret ?_
  obtain rfl := si h
  exact Zg Tryz.results316 rfl (Z6 rfl)
 | cons x7 l6 =>
  unfold Z70 at h
  generalize hgo1 : Z70 b2 l6 = go1 at h
  refine SR <| Ac (Zl rfl rfl (vt rfl) (vk rfl)) rfl <| Nl <| AW.seq <| Cn rfl (fun hc => ?_) (fun hc => absurd (hsf1.consn (by simp)) (of_decide_eq_false hc))
  have hlti5 := of_decide_eq_true hc
  refine AW.skip <| AW.seq <| AW.block <| SR <| Md rfl <| Ac (Zcj rfl rfl Z20 Z00 (vt rfl) (vt rfl) hsf1.lget) rfl <| Ct rfl (Zm 7 rfl rfl Z16) ?_
  rintro _ ⟨g8, rfl⟩
  refine As rfl <| Zh Z00 7 rfl <| Nl <| AW.seq ?_
  obtain ⟨j9, hj9, h⟩ := Z1 h
  obtain ⟨x10, hx10, h⟩ := Z1 h
  refine AW.regionAny [⟨[6], [12], [7], []⟩, ⟨[5], [13], [], []⟩, ⟨[3, 13], [14], [], []⟩, ⟨[14], [15], [4], []⟩, ⟨[12, 15], [16], [], []⟩, ⟨[16], [17], [], []⟩] Z06 (by kernel_rfl) <| Zq Z00 7 rfl <| Zu rfl <| Sc (lo [3, 13] [] rfl fun S hs hr => Z15 rfl rfl Z20 (vh hs 3 rfl rfl) (vh hs 13 rfl rfl) hj9) rfl <| Zq Z00 4 rfl <| SCl [12, 15] (Y2n _ _ _ hx10) Y0p rfl <| Sc (lo [16] [] rfl fun S hs hr => Z13 rfl rfl (vh hs 16 rfl rfl)) rfl <| Cn rfl (fun hc => ?_) (fun hc => ?_)
  ·have h := Ze hc h
   refine SR <| Ab rfl <| Nl <| AW.ret ?_
   obtain rfl := si h
   exact Zg Tryz.results316 rfl (Z6 rfl)
  ·have h := Zf hc h
   refine AW.skip <| Rg <| Ac (Z7g rfl rfl (vt rfl) (vk rfl) rfl hlti5) rfl <| Md rfl <| Nl ?_
   subst hgo1
   exact ⟨(l6, i5 + 1), Nat.lt_succ_self _, ⟨hsf1.next, h⟩, ⟨rfl, ⟨rfl, rfl, rfl, trivial⟩, ⟨rfl, trivial⟩⟩⟩
def Z5m (cu1 : (Vector Tern 24)) : (List (Vector Tern 24)) → Nat → Int → Option (Bool × Int)
 | [], i6, first5 => some (false, first5)
 | x8 :: l7, i6, first5 => (Z8i cu1 x8).bind fun x10 => (bif (!x10.2) then (Z5m cu1 l7) (i6 + 1) first5 else (Zjq cu1 x8).bind fun x12 => (bif x12 then some (true, (i6 : Int)) else (bif (decide (first5 < 0)) then (Z5m cu1 l7) (i6 + 1) (i6 : Int) else (Z5m cu1 l7) (i6 + 1) first5)))
def Zly (cu1 : (Vector Tern 24)) (l2 : (List (Vector Tern 24))) : Option (Bool × Int) :=
 Z5m cu1 l2 0 (-1)
theorem Yad (cu1 : (Vector Tern 24)) (l2 : (List (Vector Tern 24))) (r : (Bool × Int)) (h : Zly cu1 l2 = some r) : PCon Tryz.prog 279 [rd (Z2 24 Z3) cu1, rd (Z4 (Z2 24 Z3)) l2] (Z1e (rd Z8 r.1) (rd (Z0 .i64) r.2)) := by
 refine PCon.of (Con.intro0 Tryz.func279 rfl Tryz.ntmps279 rfl fun w H => ?_)
 unfold Zly at h
 refine SR <| Ct rfl (Zo 3 rfl rfl (vt rfl)) ?_
 rintro _ ⟨g3, rfl⟩
 refine Ab rfl <| Ak rfl <| Nl <| SR <| Ak rfl <| Nl <| AW.seq <| SR <| Md rfl <| Ac (Z0j rfl rfl Z2h (vt rfl)) rfl <| Mk rfl <| Nl <| AW.block <| AW.loopG (d := []) (ν := (List (Vector Tern 24)) × Nat × Int) (fun n => Sfx l2 n.2.1 n.1 ∧ Z5m cu1 n.1 n.2.1 n.2.2 = some r) (fun n => n.1.length) (fun n => [(2, Z7 g3 (Lens.id (Z2 24 Z3))), (6, rd (Z0 .i64) n.2.2), (11, rd (Z4 (Z2 24 Z3)) l2), (12, rd (Z0 .i64) (l2.length : Int)), (13, rd (Z0 .i64) (n.2.1 : Int))]) (fun n => [(3, Z9 g3 87 (Z2 24 Z3) cu1)]) (l2, 0, (-1)) ⟨Sfx.start _, h⟩ ⟨rfl, ⟨rfl, rfl, rfl, rfl, rfl, trivial⟩, ⟨rfl, trivial⟩⟩ ?_
 rintro ⟨l7, i6, first5⟩ ⟨hsf1, h⟩
 change Sfx l2 i6 l7 at hsf1
 change Z5m cu1 l7 i6 first5 = some r at h
 change AW _ _ _ ⟨Zw [(2, Z7 g3 (Lens.id (Z2 24 Z3))), (6, rd (Z0 .i64) first5), (11, rd (Z4 (Z2 24 Z3)) l2), (12, rd (Z0 .i64) (l2.length : Int)), (13, rd (Z0 .i64) (i6 : Int))], Zx [(3, Z9 g3 87 (Z2 24 Z3) cu1)], _⟩
 cases l7 with
 | nil =>
  unfold Z5m at h
  refine SR <| Ac (Zl rfl rfl (vt rfl) (vt rfl)) rfl <| Nl <| AW.seq <| Cn rfl (fun hc => absurd (of_decide_eq_true hc) hsf1.nil) (fun hc => ?_)
  refine AW.exit <| SR <| Md rfl <| Ab rfl <| As rfl <| Nl <| AW.ret ?_
  obtain rfl := si h
  exact Z23 Tryz.results279 rfl (Z6 rfl) (Z6 rfl)
 | cons x8 l7 =>
  unfold Z5m at h
  generalize hgo1 : Z5m cu1 l7 = go1 at h
  refine SR <| Ac (Zl rfl rfl (vt rfl) (vt rfl)) rfl <| Nl <| AW.seq <| Cn rfl (fun hc => ?_) (fun hc => absurd hsf1.cons (of_decide_eq_false hc))
  have hlti6 := of_decide_eq_true hc
  refine AW.skip <| AW.seq <| AW.block <| SR <| Md rfl <| Ac (Z0l rfl rfl Z2h (vt rfl) (vt rfl) hsf1.lget) rfl <| Lp1 Zz rfl <| Ct rfl (Zm 9 rfl rfl Z0v) ?_
  rintro _ ⟨g9, rfl⟩
  refine As rfl <| Zh Zz 9 rfl <| Nl <| AW.seq ?_
  obtain ⟨x10, hx10, h⟩ := Z1 h
  refine Rg <| Ld Zz 3 rfl <| Ld Zz 9 rfl <| Cl [19, 20] (Zkf _ _ _ hx10) Zk4 rfl <| Mt2 rfl <| Ac (Z1p rfl rfl (vt rfl)) rfl <| Ac (Z1q rfl rfl (vt rfl)) rfl <| Ct rfl (Zm 10 rfl rfl Z0v) ?_
  rintro _ ⟨g11, rfl⟩
  refine Zh Zz 10 rfl <| As rfl <| Nl <| AW.block <| SR <| Md rfl <| Ac (Z13 rfl rfl (vt rfl)) rfl <| As rfl <| Nl <| Cn rfl (fun hc => ?_) (fun hc => ?_)
  ·have h := Ze hc h
   refine AW.skip <| Rg <| Ac (Z1t (t := 12) rfl rfl (vt rfl) (vk rfl) (vt rfl) hlti6) rfl <| Md rfl <| Nl ?_
   subst hgo1
   exact ⟨(l7, i6 + 1, first5), Nat.lt_succ_self _, ⟨hsf1.next, h⟩, ⟨rfl, ⟨rfl, rfl, rfl, rfl, rfl, trivial⟩, ⟨rfl, trivial⟩⟩⟩
  ·have h := Zf hc h
   refine AW.seq ?_
   obtain ⟨x12, hx12, h⟩ := Z1 h
   refine Rg <| Ld Zz 3 rfl <| Ld Zz 9 rfl <| Cl [28, 29] (Ye0 _ _ _ hx12) Ycc rfl <| As rfl <| Nl <| Cn rfl (fun hc => ?_) (fun hc => ?_)
   ·have h := Ze hc h
    refine SR <| Md rfl <| Ab rfl <| As rfl <| Nl <| AW.ret ?_
    obtain rfl := si h
    exact Z23 Tryz.results279 rfl (Z6 rfl) (Z6 rfl)
   ·have h := Zf hc h
    refine SR <| Md rfl <| Ac (Zl rfl rfl (vt rfl) (vk rfl)) rfl <| As rfl <| Nl <| Cn rfl (fun hc => ?_) (fun hc => ?_)
    ·have h := Ze hc h
     refine Rg <| Md rfl <| As rfl <| Nl <| Rg <| Ac (Z1t (t := 12) rfl rfl (vt rfl) (vk rfl) (vt rfl) hlti6) rfl <| Md rfl <| Nl ?_
     subst hgo1
     exact ⟨(l7, i6 + 1, (i6 : Int)), Nat.lt_succ_self _, ⟨hsf1.next, h⟩, ⟨rfl, ⟨rfl, rfl, rfl, rfl, rfl, trivial⟩, ⟨rfl, trivial⟩⟩⟩
    ·have h := Zf hc h
     refine AW.skip <| Rg <| Ac (Z1t (t := 12) rfl rfl (vt rfl) (vk rfl) (vt rfl) hlti6) rfl <| Md rfl <| Nl ?_
     subst hgo1
     exact ⟨(l7, i6 + 1, first5), Nat.lt_succ_self _, ⟨hsf1.next, h⟩, ⟨rfl, ⟨rfl, rfl, rfl, rfl, rfl, trivial⟩, ⟨rfl, trivial⟩⟩⟩
def Z6a : (List Tern) → Nat → (Vector Wide 24) → Option (Vector Wide 24)
 | [], i7, b6 => some b6
 | x9 :: l8, i7, b6 => (Z5f x9).bind fun x11 => (chk 24 (i7 : Int)).bind fun j12 => (Z6a l8) (i7 + 1) (Vector.set b6 j12.1 x11.Value j12.2)
def Zi0 (cu1 : (Vector Tern 24)) : Option (Vector Wide 24) :=
 Z6a (Vector.toList cu1) 0 (Vector.replicate 24 Z05)
theorem Y70 (cu1 : (Vector Tern 24)) (r : (Vector Wide 24)) (h : Zi0 cu1 = some r) : PCon Tryz.prog 70 [rd (Z2 24 Z3) cu1] (rd (Z2 24 Zn) r) := by
 refine PCon.of (Con.intro0 Tryz.func70 rfl Tryz.ntmps70 rfl fun w H => ?_)
 unfold Zi0 at h
 refine SR <| Ct rfl (Zo 2 rfl rfl (vt rfl)) ?_
 rintro _ ⟨g2, rfl⟩
 refine Ct rfl (Zm 3 rfl rfl Z6u) ?_
 rintro _ ⟨g3, rfl⟩
 refine Nl <| SR <| Ct rfl (Zm 4 rfl rfl Z6u) ?_
 rintro _ ⟨g4, rfl⟩
 refine Nl <| AW.seq <| SR <| Ld Zz 2 rfl <| Mk rfl <| Nl <| AW.block <| AW.loopG (d := []) (ν := (List Tern) × Nat × (Vector Wide 24)) (fun n => Sfx (Vector.toList cu1) n.2.1 n.1 ∧ Z6a n.1 n.2.1 n.2.2 = some r) (fun n => n.1.length) (fun n => [(2, Z7 g3 (Lens.id (Z2 24 Zn))), (3, Z7 g4 (Lens.id (Z2 24 Zn))), (6, rd (Z2 24 Z3) cu1), (7, rd (Z0 .i64) (n.2.1 : Int))]) (fun n => [(3, Z9 g3 44 (Z2 24 Zn) (Vector.replicate 24 Z05)), (4, Z9 g4 44 (Z2 24 Zn) n.2.2)]) ((Vector.toList cu1), 0, (Vector.replicate 24 Z05)) ⟨Sfx.start _, h⟩ ⟨rfl, ⟨rfl, rfl, rfl, rfl, trivial⟩, ⟨rfl, rfl, trivial⟩⟩ ?_
 rintro ⟨l8, i7, b6⟩ ⟨hsf1, h⟩
 change Sfx (Vector.toList cu1) i7 l8 at hsf1
 change Z6a l8 i7 b6 = some r at h
 change AW _ _ _ ⟨Zw [(2, Z7 g3 (Lens.id (Z2 24 Zn))), (3, Z7 g4 (Lens.id (Z2 24 Zn))), (6, rd (Z2 24 Z3) cu1), (7, rd (Z0 .i64) (i7 : Int))], Zx [(3, Z9 g3 44 (Z2 24 Zn) (Vector.replicate 24 Z05)), (4, Z9 g4 44 (Z2 24 Zn) b6)], _⟩
 cases l8 with
 | nil =>
  unfold Z6a at h
  refine SR <| Ac (Zl rfl rfl (vt rfl) (vk rfl)) rfl <| Nl <| AW.seq <| Cn rfl (fun hc => absurd (of_decide_eq_true hc) (hsf1.niln (by simp))) (fun hc => ?_)
  refine AW.exit <| SR <| Ld Z2w 4 rfl <| Zh Z2w 3 rfl <| Nl <| AW.ret ?_
  obtain rfl := si h
  exact Zg Tryz.results70 rfl (Z04 rfl (i := 3) rfl Z2w)
 | cons x9 l8 =>
  unfold Z6a at h
  generalize hgo1 : Z6a l8 = go1 at h
  refine SR <| Ac (Zl rfl rfl (vt rfl) (vk rfl)) rfl <| Nl <| AW.seq <| Cn rfl (fun hc => ?_) (fun hc => absurd (hsf1.consn (by simp)) (of_decide_eq_false hc))
  have hlti7 := of_decide_eq_true hc
  refine AW.skip <| AW.seq <| AW.block <| SR <| Md rfl <| Ac (Zcj rfl rfl Z20 Z00 (vt rfl) (vt rfl) hsf1.lget) rfl <| Ct rfl (Zm 6 rfl rfl Z16) ?_
  rintro _ ⟨g10, rfl⟩
  refine As rfl <| Zh Z00 6 rfl <| Nl ?_
  obtain ⟨x11, hx11, h⟩ := Z1 h
  obtain ⟨j12, hj12, h⟩ := Z1 h
  refine Rg <| Md rfl <| Ld Z00 6 rfl <| Cl [12] (Z93 _ _ hx11) Z84 rfl <| Ac (Zuz Z1a rfl rfl Z2f Y02 Zt rfl (vt rfl)) rfl <| Ac (Z15 rfl rfl Y65 (vt rfl) (vt rfl) hj12) rfl <| Zh Zt 4 rfl <| Nl <| Rg <| Ac (Z7g rfl rfl (vt rfl) (vk rfl) rfl hlti7) rfl <| Md rfl <| Nl ?_
  subst hgo1
  exact ⟨(l8, i7 + 1, (Vector.set b6 j12.1 x11.Value j12.2)), Nat.lt_succ_self _, ⟨hsf1.next, h⟩, ⟨rfl, ⟨rfl, rfl, rfl, rfl, trivial⟩, ⟨rfl, rfl, trivial⟩⟩⟩
def Zdy (x1 : (BitVec 64)) : Option Int :=
 (Z33 x1 ((1 : BitVec 64).toNat : Int)).bind fun q2 => (Z33 ((q2 &&& (6148914691236517205 : BitVec 64)) + (x1 &&& (6148914691236517205 : BitVec 64))) ((2 : BitVec 64).toNat : Int)).bind fun q3 => (Z33 ((q3 &&& (3689348814741910323 : BitVec 64)) + (((q2 &&& (6148914691236517205 : BitVec 64)) + (x1 &&& (6148914691236517205 : BitVec 64))) &&& (3689348814741910323 : BitVec 64))) ((4 : BitVec 64).toNat : Int)).bind fun q4 => (Z33 ((q4 + ((q3 &&& (3689348814741910323 : BitVec 64)) + (((q2 &&& (6148914691236517205 : BitVec 64)) + (x1 &&& (6148914691236517205 : BitVec 64))) &&& (3689348814741910323 : BitVec 64)))) &&& (1085102592571150095 : BitVec 64)) ((8 : BitVec 64).toNat : Int)).bind fun q5 => (Z33 (((q4 + ((q3 &&& (3689348814741910323 : BitVec 64)) + (((q2 &&& (6148914691236517205 : BitVec 64)) + (x1 &&& (6148914691236517205 : BitVec 64))) &&& (3689348814741910323 : BitVec 64)))) &&& (1085102592571150095 : BitVec 64)) + q5) ((16 : BitVec 64).toNat : Int)).bind fun q6 => (Z33 ((((q4 + ((q3 &&& (3689348814741910323 : BitVec 64)) + (((q2 &&& (6148914691236517205 : BitVec 64)) + (x1 &&& (6148914691236517205 : BitVec 64))) &&& (3689348814741910323 : BitVec 64)))) &&& (1085102592571150095 : BitVec 64)) + q5) + q6) ((32 : BitVec 64).toNat : Int)).bind fun q7 => some (Zrj .and .i64 (IntKind.i64.wrap ((((((q4 + ((q3 &&& (3689348814741910323 : BitVec 64)) + (((q2 &&& (6148914691236517205 : BitVec 64)) + (x1 &&& (6148914691236517205 : BitVec 64))) &&& (3689348814741910323 : BitVec 64)))) &&& (1085102592571150095 : BitVec 64)) + q5) + q6) + q7).toNat : Int)) 127)
theorem Zuw (x1 : (BitVec 64)) (r : Int) (h : Zdy x1 = some r) : PCon Tryz.prog 331 [rd Z0o x1] (rd (Z0 .i64) r) := by
 refine PCon.of (Con.intro0 Tryz.func331 rfl Tryz.ntmps331 rfl fun w H => ?_)
 unfold Zdy at h
 refine SR <| Ak rfl <| Nl <| AW.seq ?_
 obtain ⟨q2, hq2, h⟩ := Z1 h
 refine Rg <| Md rfl <| Ac (Z4n rfl rfl (vt rfl) (Z49 (vku (1 : BitVec 64) rfl)) hq2) rfl <| Ac (Z91 rfl rfl (vt rfl) (vku (6148914691236517205 : BitVec 64) rfl)) rfl <| Md rfl <| Ac (Z91 rfl rfl (vt rfl) (vku (6148914691236517205 : BitVec 64) rfl)) rfl <| Ac (Zfk rfl rfl (vt rfl) (vt rfl)) rfl <| As rfl <| Nl <| AW.seq ?_
 obtain ⟨q3, hq3, h⟩ := Z1 h
 refine Rg <| Md rfl <| Ac (Z4n rfl rfl (vt rfl) (Z49 (vku (2 : BitVec 64) rfl)) hq3) rfl <| Ac (Z91 rfl rfl (vt rfl) (vku (3689348814741910323 : BitVec 64) rfl)) rfl <| Md rfl <| Ac (Z91 rfl rfl (vt rfl) (vku (3689348814741910323 : BitVec 64) rfl)) rfl <| Ac (Zfk rfl rfl (vt rfl) (vt rfl)) rfl <| As rfl <| Nl <| AW.seq ?_
 obtain ⟨q4, hq4, h⟩ := Z1 h
 refine Rg <| Md rfl <| Ac (Z4n rfl rfl (vt rfl) (Z49 (vku (4 : BitVec 64) rfl)) hq4) rfl <| Md rfl <| Ac (Zfk rfl rfl (vt rfl) (vt rfl)) rfl <| Ac (Z91 rfl rfl (vt rfl) (vku (1085102592571150095 : BitVec 64) rfl)) rfl <| As rfl <| Nl <| AW.seq ?_
 obtain ⟨q5, hq5, h⟩ := Z1 h
 refine Rg <| Md rfl <| Md rfl <| Ac (Z4n rfl rfl (vt rfl) (Z49 (vku (8 : BitVec 64) rfl)) hq5) rfl <| Ac (Zfk rfl rfl (vt rfl) (vt rfl)) rfl <| As rfl <| Nl <| AW.seq ?_
 obtain ⟨q6, hq6, h⟩ := Z1 h
 refine Rg <| Md rfl <| Md rfl <| Ac (Z4n rfl rfl (vt rfl) (Z49 (vku (16 : BitVec 64) rfl)) hq6) rfl <| Ac (Zfk rfl rfl (vt rfl) (vt rfl)) rfl <| As rfl <| Nl <| AW.seq ?_
 obtain ⟨q7, hq7, h⟩ := Z1 h
 refine Rg <| Md rfl <| Md rfl <| Ac (Z4n rfl rfl (vt rfl) (Z49 (vku (32 : BitVec 64) rfl)) hq7) rfl <| Ac (Zfk rfl rfl (vt rfl) (vt rfl)) rfl <| As rfl <| Nl <| SR <| Md rfl <| Ac (Z92 rfl rfl Y8s un3 (vt rfl)) rfl <| Ac (Y6f rfl rfl (vt rfl) (vk rfl)) rfl <| As rfl <| Nl <| AW.ret ?_
 obtain rfl := si h
 exact Zg Tryz.results331 rfl (Z6 rfl)
def Zer (a1 : Wide) : Option Int :=
 (Zdy a1.Hi).bind fun x3 => (Zdy a1.Lo).bind fun x4 => some (IntKind.i64.wrap (x3 + x4))
theorem Zwv (a1 : Wide) (r : Int) (h : Zer a1 = some r) : PCon Tryz.prog 294 [rd Zn a1] (rd (Z0 .i64) r) := by
 refine PCon.of (Con.intro0 Tryz.func294 rfl Tryz.ntmps294 rfl fun w H => ?_)
 unfold Zer at h
 refine SR <| Ct rfl (Zo 2 rfl rfl (vt rfl)) ?_
 rintro _ ⟨g2, rfl⟩
 refine Ak rfl <| Nl <| AW.seq ?_
 obtain ⟨x3, hx3, h⟩ := Z1 h
 obtain ⟨x4, hx4, h⟩ := Z1 h
 refine AW.regionAny [⟨[1], [3], [], []⟩, ⟨[3], [4], [2], []⟩, ⟨[4], [5], [], []⟩, ⟨[1], [6], [], []⟩, ⟨[6], [7], [2], []⟩, ⟨[7], [8], [], []⟩, ⟨[5, 8], [9], [], []⟩, ⟨[9], [2], [], []⟩] Z06 (by kernel_rfl) <| SFd Z22 Z3h rfl <| Zq Z18 2 rfl <| SCl [4] (Zuw _ _ hx3) Zug rfl <| SFd Z21 Z3i rfl <| Zq Z18 2 rfl <| SCl [7] (Zuw _ _ hx4) Zug rfl <| Sc (lo [5, 8] [] rfl fun S hs hr => Z08 rfl rfl (vh hs 5 rfl rfl) (vh hs 8 rfl rfl)) rfl <| SAs rfl <| AW.ret ?_
 obtain rfl := si h
 exact Zg Tryz.results294 rfl (Z6 rfl)
def Zd0 (a1 : Wide) (i2 : Int) : Option Bool :=
 (Za8 i2).bind fun x4 => (Zb5 a1 x4).bind fun x5 => (Zep x5).bind fun x6 => some (!x6)
theorem Zyi (a1 : Wide) (i2 : Int) (r : Bool) (h : Zd0 a1 i2 = some r) : PCon Tryz.prog 319 [rd Zn a1, rd (Z0 .i64) i2] (rd Z8 r) := by
 refine PCon.of (Con.intro0 Tryz.func319 rfl Tryz.ntmps319 rfl fun w H => ?_)
 unfold Zd0 at h
 refine SR <| Ct rfl (Zo 3 rfl rfl (vt rfl)) ?_
 rintro _ ⟨g3, rfl⟩
 refine Ab rfl <| Nl <| AW.seq ?_
 obtain ⟨x4, hx4, h⟩ := Z1 h
 obtain ⟨x5, hx5, h⟩ := Z1 h
 obtain ⟨x6, hx6, h⟩ := Z1 h
 refine AW.regionAny [⟨[2], [5], [3], []⟩, ⟨[1], [6], [], []⟩, ⟨[6], [7], [], []⟩, ⟨[5, 7], [8], [], []⟩, ⟨[8], [9], [], []⟩, ⟨[9], [10], [], []⟩, ⟨[10], [4], [], []⟩] Z06 (by kernel_rfl) <| Zq Zt 3 rfl <| Zu rfl <| SCl [6] (Zn4 _ _ hx4) Zl2 rfl <| SCl [5, 7] (Zl1 _ _ _ hx5) Zk9 rfl <| SCl [8] (Znn _ _ hx6) Zre rfl <| Sc (lo [9] [] rfl fun S hs hr => Z13 rfl rfl (vh hs 9 rfl rfl)) rfl <| SAs rfl <| AW.ret ?_
 obtain rfl := si h
 exact Zg Tryz.results319 rfl (Z6 rfl)
def Z6r (x5 : Wide) : Nat → (List Int) → Int → Option (List Int)
 | 0, _, _ => none
 | m13 + 1, l10, i12 => (opt (decide (i12 ≥ 0)) (Zer x5)).bind fun x14 => (bif ((decide (i12 ≥ 0)) && (decide ((l10.length : Int) < x14))) then (Zd0 x5 i12).bind fun x15 => (bif x15 then (Z0w l10 [i12]).bind fun l16 => (Z6r x5 m13) l16 (IntKind.i64.wrap (i12 - 1)) else (Z6r x5 m13) l10 (IntKind.i64.wrap (i12 - 1))) else some l10)
def Zg7 (a1 : Tern) (b2 : Tern) : Option (List Int) :=
 (Za5 b2.Mask a1.Mask).bind fun x5 => Z6r x5 Z0x [] 127
theorem Yfc (a1 : Tern) (b2 : Tern) (r : (List Int)) (h : Zg7 a1 b2 = some r) : PCon Tryz.prog 318 [rd Z3 a1, rd Z3 b2] (rd (Z4 (Z0 .i64)) r) := by
 refine PCon.of (Con.intro0 Tryz.func318 rfl Tryz.ntmps318 rfl fun w H => ?_)
 unfold Zg7 at h
 refine SR <| Ct rfl (Zo 3 rfl rfl (vt rfl)) ?_
 rintro _ ⟨g3, rfl⟩
 refine Ct rfl (Zo 4 rfl rfl (vt rfl)) ?_
 rintro _ ⟨g4, rfl⟩
 refine Ac (Z07 (A := rd (Z4 (Z0 .i64)) []) rfl rfl Z27) rfl <| Nl <| AW.seq ?_
 obtain ⟨x5, hx5, h⟩ := Z1 h
 refine Rg <| Zp Z0z Z1y rfl <| Ld Zt 4 rfl <| Zp Z0z Z1y rfl <| Ld Zt 3 rfl <| Cl [9, 11] (Zji _ _ _ hx5) Zi7 rfl <| Ct rfl (Zm 6 rfl rfl Z1n) ?_
 rintro _ ⟨g6, rfl⟩
 refine Zh Zt 6 rfl <| Nl <| AW.seq <| AW.newnil 1001 3 (Z0 .i64) <| Rg <| Ac (Z07 rfl rfl vc) rfl <| Nl <| AW.seq <| SR <| Ak rfl <| Nl <| AW.block <| AW.loopG (d := []) (ν := Nat × (List Int) × Int × Value) (fun n => True ∧ Z6r x5 n.1 n.2.1 n.2.2.1 = some r) (fun n => n.1) (fun n => [(5, Z7 g6 (Lens.id Zn)), (6, Zc n.2.2.2), (7, rd (Z0 .i64) n.2.2.1)]) (fun n => [(6, Z9 g6 42 Zn x5), (1001, Za n.2.2.2 3 (Z0 .i64) n.2.1)]) (Z0x, [], 127, (.slice none 0 0)) ⟨trivial, h⟩ ⟨rfl, ⟨rfl, rfl, rfl, trivial⟩, ⟨rfl, rfl, trivial⟩⟩ ?_
 rintro ⟨m13, l10, i12, v11⟩ ⟨hsf1, h⟩
 change True at hsf1
 change Z6r x5 m13 l10 i12 = some r at h
 change AW _ _ _ ⟨Zw [(5, Z7 g6 (Lens.id Zn)), (6, Zc v11), (7, rd (Z0 .i64) i12)], Zx [(6, Z9 g6 42 Zn x5), (1001, Za v11 3 (Z0 .i64) l10)], _⟩
 cases m13 with
 | zero => cases h
 | succ m13 =>
  unfold Z6r at h
  generalize hgo1 : Z6r x5 m13 = go1 at h
  refine AW.seq <| AW.seq ?_
  obtain ⟨x14, hx14, h⟩ := Z1 h
  refine Rg <| Md rfl <| Ac (Z5q rfl rfl (vt rfl) (vk rfl)) rfl <| Md rfl <| Gd rfl (fun hq => Zs (A := Zc v11) rfl rfl (vt rfl)) <| Gd rfl (fun hq => Z5h 1001 rfl rfl Z10 (Zj rfl hq) rfl) <| Gd rfl (fun hq => Z14 rfl rfl Zt (vt rfl) (i := 6) rfl) <| Gd rfl (fun hq => Z0k (xs := [.tmp 18]) (Zwv _ _ (Z1g hx14 hq)) Zx3 rfl rfl ⟨Zj rfl hq, trivial⟩) <| Gd rfl (fun hq => Zl rfl rfl (Zj rfl hq) (Zj rfl hq)) <| Ac (Z11 rfl rfl (vt rfl) (vt rfl)) rfl <| Nl <| Cn rfl (fun hc => ?_) (fun hc => ?_)
  ·have h := Ze hc h
   refine AW.skip <| AW.seq <| AW.block <| AW.seq ?_
   obtain ⟨x15, hx15, h⟩ := Z1 h
   refine Rg <| Ld Zt 6 rfl <| Md rfl <| Cl [24, 25] (Zyi _ _ _ hx15) Zxz rfl <| Nl <| Cn rfl (fun hc => ?_) (fun hc => ?_)
   ·have h := Ze hc h
    obtain ⟨l16, hl16, h⟩ := Z1 h
    refine Rg <| Mw rfl <| Md rfl <| Ac (Z2o (ps := [(0, .tmp 28)]) (l := [i12]) rfl rfl Z10 zr3 rfl rfl ⟨_, _, Lens.idx 1 (Z0 .i64) 0 (by decide), _, rfl, (vt rfl), rfl⟩ rfl) rfl <| Ct rfl (Z2l 1001 hl16 rfl rfl Zm7 (vt rfl) rfl (vt rfl)) ?_
    rintro _ ⟨v17, rfl⟩
    refine Aw rfl <| Nl <| Rg <| Md rfl <| Ac (Z0n rfl rfl (vt rfl) (vk rfl)) rfl <| As rfl <| Nl ?_
    subst hgo1
    exact ⟨(m13, l16, (IntKind.i64.wrap (i12 - 1)), v17), Nat.lt_succ_self _, ⟨trivial, h⟩, ⟨rfl, ⟨rfl, rfl, rfl, trivial⟩, ⟨rfl, rfl, trivial⟩⟩⟩
   ·have h := Zf hc h
    refine AW.skip <| Rg <| Md rfl <| Ac (Z0n rfl rfl (vt rfl) (vk rfl)) rfl <| As rfl <| Nl ?_
    subst hgo1
    exact ⟨(m13, l10, (IntKind.i64.wrap (i12 - 1)), v11), Nat.lt_succ_self _, ⟨trivial, h⟩, ⟨rfl, ⟨rfl, rfl, rfl, trivial⟩, ⟨rfl, rfl, trivial⟩⟩⟩
  ·have h := Zf hc h
   refine AW.exit <| SR <| Mw rfl <| Aw rfl <| Nl <| AW.freezes [4, 6, 31] 1001 rfl ⟨rfl, rfl, rfl, trivial⟩ rfl <| AW.ret ?_
   obtain rfl := si h
   exact Zg Tryz.results318 rfl (Z6 rfl)
def Zf7 (t1 : Tern) (i2 : Int) (on3 : Bool) : Option Tern :=
 (Za8 i2).bind fun x6 => (Z5f t1).bind fun x8 => (Z7s x8.Mask x6).bind fun x9 => (Za5 x8.Value x6).bind fun x10 => (bif on3 then (Z7s ({ { x8 with Mask := x9 } with Value := x10 }.Value) x6).bind fun x11 => some { { { x8 with Mask := x9 } with Value := x10 } with Value := x11 } else some { { x8 with Mask := x9 } with Value := x10 })
theorem Zwx (t1 : Tern) (i2 : Int) (on3 : Bool) (r : Tern) (h : Zf7 t1 i2 on3 = some r) : PCon Tryz.prog 320 [rd Z3 t1, rd (Z0 .i64) i2, rd Z8 on3] (rd Z3 r) := by
 refine PCon.of (Con.intro0 Tryz.func320 rfl Tryz.ntmps320 rfl fun w H => ?_)
 unfold Zf7 at h
 refine SR <| Ct rfl (Zo 4 rfl rfl (vt rfl)) ?_
 rintro _ ⟨g4, rfl⟩
 refine Ct rfl (Zm 7 rfl rfl Z16) ?_
 rintro _ ⟨g5, rfl⟩
 refine Nl <| AW.seq ?_
 obtain ⟨x6, hx6, h⟩ := Z1 h
 refine Rg <| Md rfl <| Cl [8] (Zn4 _ _ hx6) Zl2 rfl <| Ct rfl (Zm 8 rfl rfl Z1n) ?_
 rintro _ ⟨g7, rfl⟩
 refine Zh Zt 8 rfl <| Nl <| AW.seq ?_
 obtain ⟨x8, hx8, h⟩ := Z1 h
 refine Rg <| Ld Z00 4 rfl <| Cl [10] (Z93 _ _ hx8) Z84 rfl <| Zh Z00 4 rfl <| Nl <| AW.seq ?_
 obtain ⟨x9, hx9, h⟩ := Z1 h
 obtain ⟨x10, hx10, h⟩ := Z1 h
 refine AW.regionAny [⟨[3], [12], [], []⟩, ⟨[12], [13], [4], []⟩, ⟨[7], [14], [8], []⟩, ⟨[13, 14], [15], [], []⟩, ⟨[3], [16], [], []⟩, ⟨[16], [17], [4], []⟩, ⟨[7], [18], [8], []⟩, ⟨[17, 18], [19], [], []⟩, ⟨[3], [20], [], []⟩, ⟨[20, 15], [], [4], [4]⟩, ⟨[3], [21], [], []⟩, ⟨[21, 19], [], [4], [4]⟩] Z06 (by kernel_rfl) <| SFd Z0z Z1y rfl <| Zq Zt 4 rfl <| Zq Zt 8 rfl <| SCl [13, 14] (Zdn _ _ _ hx9) Zes rfl <| SFd Z1a Z2f rfl <| Zq Zt 4 rfl <| Zq Zt 8 rfl <| SCl [17, 18] (Zji _ _ _ hx10) Zi7 rfl <| SFd Z0z Z1y rfl <| SSt Zt 4 rfl <| SFd Z1a Z2f rfl <| SSt Zt 4 rfl <| AW.seq <| SR <| Md rfl <| Nl <| Cn rfl (fun hc => ?_) (fun hc => ?_)
 ·have h := Ze hc h
  obtain ⟨x11, hx11, h⟩ := Z1 h
  refine Rg <| Zp Z1a Z2f rfl <| Ld Zt 4 rfl <| Ld Zt 8 rfl <| Cl [24, 25] (Zdn _ _ _ hx11) Zes rfl <| Zp Z1a Z2f rfl <| Zh Zt 4 rfl <| Nl <| SR <| Ld Z00 4 rfl <| Zh Z00 7 rfl <| Nl <| AW.ret ?_
  obtain rfl := si h
  exact Zg Tryz.results320 rfl (Z04 rfl (i := 7) rfl Z00)
 ·have h := Zf hc h
  refine AW.skip <| SR <| Ld Z00 4 rfl <| Zh Z00 7 rfl <| Nl <| AW.ret ?_
  obtain rfl := si h
  exact Zg Tryz.results320 rfl (Z04 rfl (i := 7) rfl Z00)
end Go.Proofs.YtknpgojdkobgjaaGreat.W
