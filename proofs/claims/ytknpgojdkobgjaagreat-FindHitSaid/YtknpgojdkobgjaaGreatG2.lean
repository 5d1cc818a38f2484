/- A part of the proof. -/
import Derived.Test.YtknpgojdkobgjaaGreatG1
set_option linter.unusedVariables false
set_option maxRecDepth 4000
set_option linter.unusedSimpArgs false
namespace Go.Proofs.YtknpgojdkobgjaaGreat.W
open Go Go.Wb
theorem Zmd : Ent Tryz.prog 309 := Ent.mk Tryz.func309 rfl rfl
theorem Zh8 : Ent Tryz.prog 187 := Ent.mk Tryz.func187 rfl rfl
theorem Zpv : Ent Tryz.prog 225 := Ent.mk Tryz.func225 rfl rfl
theorem Yfm : Ent Tryz.prog 308 := Ent.mk Tryz.func308 rfl rfl
theorem Zow : Ent Tryz.prog 307 := Ent.mk Tryz.func307 rfl rfl
theorem Zv4 : Ent Tryz.prog 271 := Ent.mk Tryz.func271 rfl rfl
theorem Zkz : Ent Tryz.prog 189 := Ent.mk Tryz.func189 rfl rfl
theorem Zhr : Ent Tryz.prog 144 := Ent.mk Tryz.func144 rfl rfl
theorem Y76 : Ent Tryz.prog 210 := Ent.mk Tryz.func210 rfl rfl
theorem e83 : Ent Tryz.prog 83 := Ent.mk Tryz.func83 rfl rfl
def Z8c (i1 : Int) : Option Wide :=
 (bif ((decide (i1 < 0)) || (decide (i1 > 127))) then some (⟨0, 0⟩ : Wide) else (bif (decide (i1 < 64)) then (Z80 (1 : BitVec 64) ((BitVec.ofInt 64 i1).toNat : Int)).bind fun q3 => some (⟨0, q3⟩ : Wide) else (Z80 (1 : BitVec 64) ((BitVec.ofInt 64 (IntKind.i64.wrap (i1 - 64))).toNat : Int)).bind fun q4 => some (⟨q4, 0⟩ : Wide)))
theorem Zmo (i1 : Int) (r : Wide) (h : Z8c i1 = some r) : PCon Tryz.prog 309 [rd (Z0 .i64) i1] (rd Zh r) := by
 refine PCon.of (Con.intro0 Tryz.func309 rfl Tryz.ntmps309 rfl fun w H => ?_)
 unfold Z8c at h
 refine SR <| Ct rfl (Zq 3 rfl rfl Z1l) ?_
 rintro _ ⟨g2, rfl⟩
 refine Nl <| AW.seq <| AW.block <| SR <| Md rfl <| Ac (Zp rfl rfl (vt rfl) (vk rfl)) rfl <| Md rfl <| Gd rfl (fun hq => Zt (A := rd (Z0 .i64) i1) rfl rfl (vt rfl)) <| Gd rfl (fun hq => Z3l rfl rfl (Zs rfl hq) (vk rfl)) <| Ac (Z68 rfl rfl (vt rfl) (vt rfl)) rfl <| As rfl <| Nl <| Cn rfl (fun hc => ?_) (fun hc => ?_)
 ·have h := Zf hc h
  refine SR <| Ac (Z00 (ps := []) (x := (⟨0, 0⟩ : Wide)) rfl rfl rfl (by kernel_rfl) Z1l rfl) rfl <| Zj Zv 3 rfl <| Nl <| AW.ret ?_
  obtain rfl := si h
  exact Zi Tryz.results309 rfl (Z01 rfl (i := 3) rfl Zv)
 ·have h := Zg hc h
  refine SR <| Md rfl <| Ac (Zp rfl rfl (vt rfl) (vk rfl)) rfl <| As rfl <| Nl <| Cn rfl (fun hc => ?_) (fun hc => ?_)
  ·have h := Zf hc h
   refine AW.seq ?_
   obtain ⟨q3, hq3, h⟩ := Z1 h
   refine Rg <| Md rfl <| Ac (Z7n rfl rfl us3 Z73 (vt rfl)) rfl <| Ac (Znm rfl rfl (vku (1 : BitVec 64) rfl) (Z4b (vt rfl)) hq3) rfl <| Ac (Z00 (ps := [(1, .tmp 16)]) (x := (⟨0, q3⟩ : Wide)) rfl rfl rfl (by kernel_rfl) Z1l ⟨_, _, Z1y, _, by kernel_rfl, (vt rfl), rfl⟩) rfl <| Zj Zv 3 rfl <| Nl <| AW.ret ?_
   obtain rfl := si h
   exact Zi Tryz.results309 rfl (Z01 rfl (i := 3) rfl Zv)
  ·have h := Zg hc h
   refine AW.skip <| AW.seq ?_
   obtain ⟨q4, hq4, h⟩ := Z1 h
   refine Rg <| Md rfl <| Ac (Z0j rfl rfl (vt rfl) (vk rfl)) rfl <| Ac (Z7n rfl rfl us3 Z73 (vt rfl)) rfl <| Ac (Znm rfl rfl (vku (1 : BitVec 64) rfl) (Z4b (vt rfl)) hq4) rfl <| Ac (Z00 (ps := [(0, .tmp 21)]) (x := (⟨q4, 0⟩ : Wide)) rfl rfl rfl (by kernel_rfl) Z1l ⟨_, _, Z28, _, by kernel_rfl, (vt rfl), rfl⟩) rfl <| Zj Zv 3 rfl <| Nl <| AW.ret ?_
   obtain rfl := si h
   exact Zi Tryz.results309 rfl (Z01 rfl (i := 3) rfl Zv)
def Za9 (a1 : Wide) (b2 : Wide) : Option Wide :=
 some (⟨(a1.Hi ||| b2.Hi), (a1.Lo ||| b2.Lo)⟩ : Wide)
theorem Zic (a1 : Wide) (b2 : Wide) (r : Wide) (h : Za9 a1 b2 = some r) : PCon Tryz.prog 187 [rd Zh a1, rd Zh b2] (rd Zh r) := by
 refine PCon.of (Con.intro0 Tryz.func187 rfl Tryz.ntmps187 rfl fun w H => ?_)
 unfold Za9 at h
 refine SR <| Ct rfl (Zn 3 rfl rfl (vt rfl)) ?_
 rintro _ ⟨g3, rfl⟩
 refine Ct rfl (Zn 4 rfl rfl (vt rfl)) ?_
 rintro _ ⟨g4, rfl⟩
 refine Ct rfl (Zq 5 rfl rfl Z1l) ?_
 rintro _ ⟨g5, rfl⟩
 refine Nl <| SR <| Zl Z28 Z3o rfl <| Ld Z1d 3 rfl <| Zl Z28 Z3o rfl <| Ld Z1d 4 rfl <| Ac (Zgk rfl rfl (vt rfl) (vt rfl)) rfl <| Zl Z1y Z3j rfl <| Ld Z1d 3 rfl <| Zl Z1y Z3j rfl <| Ld Z1d 4 rfl <| Ac (Zgk rfl rfl (vt rfl) (vt rfl)) rfl <| Ac (Z00 (ps := [(0, .tmp 9), (1, .tmp 14)]) (x := (⟨(a1.Hi ||| b2.Hi), (a1.Lo ||| b2.Lo)⟩ : Wide)) rfl rfl rfl (by kernel_rfl) Z1l ⟨_, _, Z28, _, by kernel_rfl, (vt rfl), _, _, Z1y, _, by kernel_rfl, (vt rfl), rfl⟩) rfl <| Zj Zv 5 rfl <| Nl <| AW.ret ?_
 obtain rfl := si h
 exact Zi Tryz.results187 rfl (Z01 rfl (i := 5) rfl Zv)
def Ze1 (n1 : Int) : Nat → Wide → Int → Option Wide
 | 0, _, _ => none
 | m8 + 1, b6, i7 => (bif ((decide (i7 < n1)) && (decide (i7 < 128))) then (Z8c i7).bind fun x9 => (Za9 b6 x9).bind fun x10 => (Ze1 n1 m8) x10 (IntKind.i64.wrap (i7 + 1)) else some b6)
def Zba (n1 : Int) : Option Wide :=
 Ze1 n1 Z0y (⟨0, 0⟩ : Wide) 0
theorem Zod (n1 : Int) (r : Wide) (h : Zba n1 = some r) : PCon Tryz.prog 307 [rd (Z0 .i64) n1] (rd Zh r) := by
 refine PCon.of (Con.intro0 Tryz.func307 rfl Tryz.ntmps307 rfl fun w H => ?_)
 unfold Zba at h
 refine SR <| Ct rfl (Zq 3 rfl rfl Z1l) ?_
 rintro _ ⟨g2, rfl⟩
 refine Nl <| SR <| Ac (Z00 (ps := []) (x := (⟨0, 0⟩ : Wide)) rfl rfl rfl (by kernel_rfl) Z1l rfl) rfl <| Ct rfl (Zq 4 rfl rfl Z1l) ?_
 rintro _ ⟨g3, rfl⟩
 refine Zj Zv 4 rfl <| Nl <| AW.seq <| SR <| Ak rfl <| Nl <| AW.block <| AW.loopG (d := []) (ν := Nat × Wide × Int) (fun n => True ∧ Ze1 n1 n.1 n.2.1 n.2.2 = some r) (fun n => n.1) (fun n => [(0, rd (Z0 .i64) n1), (2, Z7 g2 (Lens.id Zh)), (3, Z7 g3 (Lens.id Zh)), (4, rd (Z0 .i64) n.2.2)]) (fun n => [(3, Z9 g2 42 Zh Z0a), (4, Z9 g3 42 Zh n.2.1)]) (Z0y, (⟨0, 0⟩ : Wide), 0) ⟨trivial, h⟩ (FX rfl) ?_
 rintro ⟨m8, b6, i7⟩ ⟨hsf1, h⟩
 change True at hsf1
 change Ze1 n1 m8 b6 i7 = some r at h
 change AW _ _ _ ⟨Zw [(0, rd (Z0 .i64) n1), (2, Z7 g2 (Lens.id Zh)), (3, Z7 g3 (Lens.id Zh)), (4, rd (Z0 .i64) i7)], Zx [(3, Z9 g2 42 Zh Z0a), (4, Z9 g3 42 Zh b6)], _⟩
 cases m8 with
 | zero => cases h
 | succ m8 =>
  unfold Ze1 at h
  generalize hgo1 : Ze1 n1 m8 = go1 at h
  refine AW.seq <| SR <| Md rfl <| Md rfl <| Ac (Zp rfl rfl (vt rfl) (vt rfl)) rfl <| Md rfl <| Gd rfl (fun hq => Zt (A := rd (Z0 .i64) i7) rfl rfl (vt rfl)) <| Gd rfl (fun hq => Zp rfl rfl (Zs rfl hq) (vk rfl)) <| Ac (Z1w rfl rfl (vt rfl) (vt rfl)) rfl <| Nl <| Cn rfl (fun hc => ?_) (fun hc => ?_)
  ·have h := Zf hc h
   refine AW.skip <| AW.seq <| AW.block ?_
   obtain ⟨x9, hx9, h⟩ := Z1 h
   obtain ⟨x10, hx10, h⟩ := Z1 h
   refine AW.regionAny [⟨[3], [15], [4], []⟩, ⟨[4], [16], [], []⟩, ⟨[16], [17], [], []⟩, ⟨[15, 17], [18], [], []⟩, ⟨[3, 18], [], [4], [4]⟩] Z05 (by kernel_rfl) <| Zo Zv 4 rfl <| Zu rfl <| SCl [16] (Zmo _ _ hx9) Zmd rfl <| SCl [15, 17] (Zic _ _ _ hx10) Zh8 rfl <| SSt Zv 4 rfl <| Rg <| Md rfl <| Ac (Z08 rfl rfl (vt rfl) (vk rfl)) rfl <| As rfl <| Nl ?_
   subst hgo1
   exact ⟨(m8, x10, (IntKind.i64.wrap (i7 + 1))), Nat.lt_succ_self _, ⟨trivial, h⟩, FX rfl⟩
  ·have h := Zg hc h
   refine AW.exit <| SR <| Ld Zv 4 rfl <| Zj Zv 3 rfl <| Nl <| AW.ret ?_
   obtain rfl := si h
   exact Zi Tryz.results307 rfl (Z01 rfl (i := 3) rfl Zv)
def Zg6 (o1 : Oxm) : Option Tern :=
 (Za0 o1.Field).bind fun x4 => (bif (!x4) then some (⟨Z0a, Z0a⟩ : Tern) else (bif o1.Masked then some (⟨o1.Value, o1.Mask⟩ : Tern) else (Zna o1.Field).bind fun x5 => (Zba x5).bind fun x6 => some (⟨o1.Value, x6⟩ : Tern)))
theorem Zz2 (o1 : Oxm) (r : Tern) (h : Zg6 o1 = some r) : PCon Tryz.prog 271 [rd Z23 o1] (rd Z3 r) := by
 refine PCon.of (Con.intro0 Tryz.func271 rfl Tryz.ntmps271 rfl fun w H => ?_)
 unfold Zg6 at h
 refine SR <| Ct rfl (Zn 2 rfl rfl (vt rfl)) ?_
 rintro _ ⟨g2, rfl⟩
 refine Ct rfl (Zq 3 rfl rfl Z1a) ?_
 rintro _ ⟨g3, rfl⟩
 refine Nl <| AW.seq <| AW.seq ?_
 obtain ⟨x4, hx4, h⟩ := Z1 h
 refine Rg <| Zl Z46 Z4l rfl <| Ld ty3 2 rfl <| Cl [4] (Zpk _ _ hx4) Zpv rfl <| Ac (Z19 rfl rfl (vt rfl)) rfl <| Nl <| Cn rfl (fun hc => ?_) (fun hc => ?_)
 ·have h := Zf hc h
  refine SR <| Ac (Z00 (ps := []) (x := (⟨Z0a, Z0a⟩ : Tern)) rfl rfl rfl (by kernel_rfl) Z1a rfl) rfl <| Zj Zz 3 rfl <| Nl <| AW.ret ?_
  obtain rfl := si h
  exact Zi Tryz.results271 rfl (Z01 rfl (i := 3) rfl Zz)
 ·have h := Zg hc h
  refine AW.skip <| AW.seq <| SR <| Zl Zsb Zy7 rfl <| Ld ty4 2 rfl <| Nl <| Cn rfl (fun hc => ?_) (fun hc => ?_)
  ·have h := Zf hc h
   refine SR <| Zl Zjs Zlo rfl <| Ld Zv 2 rfl <| Zl Zs1 Y0t rfl <| Ld Zv 2 rfl <| Ac (Z00 (ps := [(0, .tmp 11), (1, .tmp 13)]) (x := (⟨o1.Value, o1.Mask⟩ : Tern)) rfl rfl rfl (by kernel_rfl) Z1a ⟨_, _, Z1c, _, by kernel_rfl, (vt rfl), _, _, Z0v, _, by kernel_rfl, (vt rfl), rfl⟩) rfl <| Zj Zz 3 rfl <| Nl <| AW.ret ?_
   obtain rfl := si h
   exact Zi Tryz.results271 rfl (Z01 rfl (i := 3) rfl Zz)
  ·have h := Zg hc h
   refine AW.skip <| AW.seq ?_
   obtain ⟨x5, hx5, h⟩ := Z1 h
   obtain ⟨x6, hx6, h⟩ := Z1 h
   refine AW.regionAny [⟨[1], [15], [], []⟩, ⟨[15], [16], [2], []⟩, ⟨[1], [17], [], []⟩, ⟨[17], [18], [2], []⟩, ⟨[18], [19], [], []⟩, ⟨[19], [20], [], []⟩, ⟨[16, 20], [21], [], []⟩, ⟨[2, 21], [], [3], [3]⟩] Z05 (by kernel_rfl) <| SFd Zjs Zlo rfl <| Zo Zv 2 rfl <| SFd Z46 Z4l rfl <| Zo ty3 2 rfl <| SCl [18] (Y3z _ _ hx5) Yfm rfl <| SCl [19] (Zod _ _ hx6) Zow rfl <| Sc (lo [16, 20] [] rfl fun S hs hr => Z00 (ps := [(0, .tmp 16), (1, .tmp 20)]) (x := (⟨o1.Value, x6⟩ : Tern)) rfl rfl rfl (by kernel_rfl) Z1a ⟨_, _, Z1c, _, by kernel_rfl, (vh hs 16 rfl rfl), _, _, Z0v, _, by kernel_rfl, (vh hs 20 rfl rfl), rfl⟩) rfl <| SSt Zz 3 rfl <| AW.ret ?_
   obtain rfl := si h
   exact Zi Tryz.results271 rfl (Z01 rfl (i := 3) rfl Zz)
def Z7e (l1 : (List Oxm)) : Nat → Z5 → Int → Option Z5
 | 0, _, _ => none
 | m8 + 1, b6, i7 => (bif (decide (i7 < (l1.length : Int))) then (lget l1 i7).bind fun e9 => (Za0 e9.Field).bind fun x10 => (bif x10 then (lget l1 i7).bind fun e11 => (lget l1 i7).bind fun e12 => (Zg6 e12).bind fun x13 => (chk 24 e11.Field).bind fun j14 => (Z7e l1 m8) (Vector.set b6 j14.1 x13 j14.2) (IntKind.i64.wrap (i7 + 1)) else (Z7e l1 m8) b6 (IntKind.i64.wrap (i7 + 1))) else some b6)
def Zll (l1 : (List Oxm)) : Option Z5 :=
 Z7e l1 ((((l1.length : Int) : Int) - 0).toNat + 1) (Vector.replicate 24 zTern) 0
theorem Ybz (l1 : (List Oxm)) (r : Z5) (h : Zll l1 = some r) : PCon Tryz.prog 210 [rd (Z4 Z23) l1] (rd (Z2 24 Z3) r) := by
 refine PCon.of (Con.intro0 Tryz.func210 rfl Tryz.ntmps210 rfl fun w H => ?_)
 unfold Zll at h
 refine SR <| Ct rfl (Zq 3 rfl rfl Z15) ?_
 rintro _ ⟨g2, rfl⟩
 refine Nl <| SR <| Ac (Z00 (ps := []) (x := (Vector.replicate 24 zTern)) rfl rfl rfl (by kernel_rfl) Z15 rfl) rfl <| Ct rfl (Zq 4 rfl rfl Z15) ?_
 rintro _ ⟨g3, rfl⟩
 refine Zj Z03 4 rfl <| Nl <| AW.seq <| SR <| Ak rfl <| Nl <| AW.block <| AW.loopG (d := []) (ν := Nat × Z5 × Int) (fun n => True ∧ Z7e l1 n.1 n.2.1 n.2.2 = some r) (fun n => n.1) (fun n => [(0, rd (Z4 Z23) l1), (2, Z7 g2 (Lens.id (Z2 24 Z3))), (3, Z7 g3 (Lens.id (Z2 24 Z3))), (4, rd (Z0 .i64) n.2.2)]) (fun n => [(3, Z9 g2 87 (Z2 24 Z3) (Vector.replicate 24 zTern)), (4, Z9 g3 87 (Z2 24 Z3) n.2.1)]) (((((l1.length : Int) : Int) - 0).toNat + 1), (Vector.replicate 24 zTern), 0) ⟨trivial, h⟩ (FX rfl) ?_
 rintro ⟨m8, b6, i7⟩ ⟨hsf1, h⟩
 change True at hsf1
 change Z7e l1 m8 b6 i7 = some r at h
 change AW _ _ _ ⟨Zw [(0, rd (Z4 Z23) l1), (2, Z7 g2 (Lens.id (Z2 24 Z3))), (3, Z7 g3 (Lens.id (Z2 24 Z3))), (4, rd (Z0 .i64) i7)], Zx [(3, Z9 g2 87 (Z2 24 Z3) (Vector.replicate 24 zTern)), (4, Z9 g3 87 (Z2 24 Z3) b6)], _⟩
 cases m8 with
 | zero => cases h
 | succ m8 =>
  unfold Z7e at h
  generalize hgo1 : Z7e l1 m8 = go1 at h
  refine AW.seq <| SR <| Md rfl <| Md rfl <| Ac (Z0x rfl rfl Zda (vt rfl)) rfl <| Ac (Zp rfl rfl (vt rfl) (vt rfl)) rfl <| Nl <| Cn rfl (fun hc => ?_) (fun hc => ?_)
  ·have h := Zf hc h
   refine AW.skip <| AW.seq <| AW.block <| AW.seq ?_
   obtain ⟨e9, he9, h⟩ := Z1 h
   obtain ⟨x10, hx10, h⟩ := Z1 h
   refine Rg <| Md rfl <| Md rfl <| Ac (Z0r rfl rfl Zda (vt rfl) (vt rfl) he9) rfl <| Fp Z46 Z4l rfl <| Lp1 ty3 rfl <| Cl [16] (Zpk _ _ hx10) Zpv rfl <| Nl <| Cn rfl (fun hc => ?_) (fun hc => ?_)
   ·have h := Zf hc h
    obtain ⟨e11, he11, h⟩ := Z1 h
    obtain ⟨e12, he12, h⟩ := Z1 h
    obtain ⟨x13, hx13, h⟩ := Z1 h
    obtain ⟨j14, hj14, h⟩ := Z1 h
    refine AW.regionAny [⟨[0], [18], [], []⟩, ⟨[4], [19], [], []⟩, ⟨[18, 19], [20], [], []⟩, ⟨[20], [21], [], []⟩, ⟨[21], [22], [], []⟩, ⟨[0], [23], [], []⟩, ⟨[4], [24], [], []⟩, ⟨[23, 24], [25], [], []⟩, ⟨[25], [26], [], []⟩, ⟨[26], [27], [], []⟩, ⟨[3, 22], [28], [], []⟩, ⟨[28, 27], [], [4], [4]⟩] Z05 (by kernel_rfl) <| Zu rfl <| Zu rfl <| Sc (lo [18, 19] [] rfl fun S hs hr => Z0r rfl rfl Zda (vh hs 18 rfl rfl) (vh hs 19 rfl rfl) he11) rfl <| SFp Z46 Z4l rfl <| SLp ty3 rfl <| Zu rfl <| Zu rfl <| Sc (lo [23, 24] [] rfl fun S hs hr => Z0r rfl rfl Zda (vh hs 23 rfl rfl) (vh hs 24 rfl rfl) he12) rfl <| SLp Ze0 rfl <| SCl [26] (Zz2 _ _ hx13) Zv4 rfl <| Sc (lo [3, 22] [] rfl fun S hs hr => Z1b rfl rfl Z2a (vh hs 3 rfl rfl) (vh hs 22 rfl rfl) hj14) rfl <| SSt Zz 4 rfl <| Rg <| Md rfl <| Ac (Z08 rfl rfl (vt rfl) (vk rfl)) rfl <| As rfl <| Nl ?_
    subst hgo1
    exact ⟨(m8, (Vector.set b6 j14.1 x13 j14.2), (IntKind.i64.wrap (i7 + 1))), Nat.lt_succ_self _, ⟨trivial, h⟩, FX rfl⟩
   ·have h := Zg hc h
    refine AW.skip <| Rg <| Md rfl <| Ac (Z08 rfl rfl (vt rfl) (vk rfl)) rfl <| As rfl <| Nl ?_
    subst hgo1
    exact ⟨(m8, b6, (IntKind.i64.wrap (i7 + 1))), Nat.lt_succ_self _, ⟨trivial, h⟩, FX rfl⟩
  ·have h := Zg hc h
   refine AW.exit <| SR <| Ld Z03 4 rfl <| Zj Z03 3 rfl <| Nl <| AW.ret ?_
   obtain rfl := si h
   exact Zi Tryz.results210 rfl (Z01 rfl (i := 3) rfl Z03)
def Zd8 (a1 : Wide) (b2 : Wide) : Option Wide :=
 some (⟨(a1.Hi &&& b2.Hi), (a1.Lo &&& b2.Lo)⟩ : Wide)
theorem Zlf (a1 : Wide) (b2 : Wide) (r : Wide) (h : Zd8 a1 b2 = some r) : PCon Tryz.prog 189 [rd Zh a1, rd Zh b2] (rd Zh r) := by
 refine PCon.of (Con.intro0 Tryz.func189 rfl Tryz.ntmps189 rfl fun w H => ?_)
 unfold Zd8 at h
 refine SR <| Ct rfl (Zn 3 rfl rfl (vt rfl)) ?_
 rintro _ ⟨g3, rfl⟩
 refine Ct rfl (Zn 4 rfl rfl (vt rfl)) ?_
 rintro _ ⟨g4, rfl⟩
 refine Ct rfl (Zq 5 rfl rfl Z1l) ?_
 rintro _ ⟨g5, rfl⟩
 refine Nl <| SR <| Zl Z28 Z3o rfl <| Ld Z1d 3 rfl <| Zl Z28 Z3o rfl <| Ld Z1d 4 rfl <| Ac (Z83 rfl rfl (vt rfl) (vt rfl)) rfl <| Zl Z1y Z3j rfl <| Ld Z1d 3 rfl <| Zl Z1y Z3j rfl <| Ld Z1d 4 rfl <| Ac (Z83 rfl rfl (vt rfl) (vt rfl)) rfl <| Ac (Z00 (ps := [(0, .tmp 9), (1, .tmp 14)]) (x := (⟨(a1.Hi &&& b2.Hi), (a1.Lo &&& b2.Lo)⟩ : Wide)) rfl rfl rfl (by kernel_rfl) Z1l ⟨_, _, Z28, _, by kernel_rfl, (vt rfl), _, _, Z1y, _, by kernel_rfl, (vt rfl), rfl⟩) rfl <| Zj Zv 5 rfl <| Nl <| AW.ret ?_
 obtain rfl := si h
 exact Zi Tryz.results189 rfl (Z01 rfl (i := 5) rfl Zv)
def Z7v (t1 : Tern) : Option Tern :=
 (Zd8 t1.Value t1.Mask).bind fun x4 => some (⟨x4, t1.Mask⟩ : Tern)
theorem Zk0 (t1 : Tern) (r : Tern) (h : Z7v t1 = some r) : PCon Tryz.prog 144 [rd Z3 t1] (rd Z3 r) := by
 refine PCon.of (Con.intro0 Tryz.func144 rfl Tryz.ntmps144 rfl fun w H => ?_)
 unfold Z7v at h
 refine SR <| Ct rfl (Zn 2 rfl rfl (vt rfl)) ?_
 rintro _ ⟨g2, rfl⟩
 refine Ct rfl (Zq 3 rfl rfl Z1a) ?_
 rintro _ ⟨g3, rfl⟩
 refine Nl <| AW.seq ?_
 obtain ⟨x4, hx4, h⟩ := Z1 h
 refine AW.regionAny [⟨[1], [3], [], []⟩, ⟨[3], [4], [2], []⟩, ⟨[1], [5], [], []⟩, ⟨[5], [6], [2], []⟩, ⟨[4, 6], [7], [], []⟩, ⟨[1], [8], [], []⟩, ⟨[8], [9], [2], []⟩, ⟨[7, 9], [10], [], []⟩, ⟨[2, 10], [], [3], [3]⟩] Z05 (by kernel_rfl) <| SFd Z1c Z2i rfl <| Zo Zv 2 rfl <| SFd Z0v Z1x rfl <| Zo Zv 2 rfl <| SCl [4, 6] (Zlf _ _ _ hx4) Zkz rfl <| SFd Z0v Z1x rfl <| Zo Zv 2 rfl <| Sc (lo [7, 9] [] rfl fun S hs hr => Z00 (ps := [(0, .tmp 7), (1, .tmp 9)]) (x := (⟨x4, t1.Mask⟩ : Tern)) rfl rfl rfl (by kernel_rfl) Z1a ⟨_, _, Z1c, _, by kernel_rfl, (vh hs 7 rfl rfl), _, _, Z0v, _, by kernel_rfl, (vh hs 9 rfl rfl), rfl⟩) rfl <| SSt Zz 3 rfl <| AW.ret ?_
 obtain rfl := si h
 exact Zi Tryz.results144 rfl (Z01 rfl (i := 3) rfl Zz)
def Z8w : Nat → Z5 → Int → Option Z5
 | 0, _, _ => none
 | m8 + 1, b6, f7 => (bif (decide (f7 < 24)) then (chk 24 f7).bind fun j9 => (Z7v (Vector.get b6 j9)).bind fun x10 => (chk 24 f7).bind fun j11 => (Z8w m8) (Vector.set b6 j11.1 x10 j11.2) (IntKind.i64.wrap (f7 + 1)) else some b6)
def Zhw (cu1 : Z5) : Option Z5 :=
 Z8w (((24 : Int) - 0).toNat + 1) cu1 0
theorem Ydj (cu1 : Z5) (r : Z5) (h : Zhw cu1 = some r) : PCon Tryz.prog 83 [rd (Z2 24 Z3) cu1] (rd (Z2 24 Z3) r) := by
 refine PCon.of (Con.intro0 Tryz.func83 rfl Tryz.ntmps83 rfl fun w H => ?_)
 unfold Zhw at h
 refine SR <| Ct rfl (Zn 2 rfl rfl (vt rfl)) ?_
 rintro _ ⟨g2, rfl⟩
 refine Ct rfl (Zq 3 rfl rfl Z15) ?_
 rintro _ ⟨g3, rfl⟩
 refine Nl <| AW.seq <| SR <| Ak rfl <| Nl <| AW.block <| AW.loopG (d := []) (ν := Nat × Z5 × Int) (fun n => True ∧ Z8w n.1 n.2.1 n.2.2 = some r) (fun n => n.1) (fun n => [(1, Z7 g2 (Lens.id (Z2 24 Z3))), (2, Z7 g3 (Lens.id (Z2 24 Z3))), (3, rd (Z0 .i64) n.2.2)]) (fun n => [(2, Z9 g2 87 (Z2 24 Z3) n.2.1), (3, Z9 g3 87 (Z2 24 Z3) (Vector.replicate 24 zTern))]) ((((24 : Int) - 0).toNat + 1), cu1, 0) ⟨trivial, h⟩ (FX rfl) ?_
 rintro ⟨m8, b6, f7⟩ ⟨hsf1, h⟩
 change True at hsf1
 change Z8w m8 b6 f7 = some r at h
 change AW _ _ _ ⟨Zw [(1, Z7 g2 (Lens.id (Z2 24 Z3))), (2, Z7 g3 (Lens.id (Z2 24 Z3))), (3, rd (Z0 .i64) f7)], Zx [(2, Z9 g2 87 (Z2 24 Z3) b6), (3, Z9 g3 87 (Z2 24 Z3) (Vector.replicate 24 zTern))], _⟩
 cases m8 with
 | zero => cases h
 | succ m8 =>
  unfold Z8w at h
  generalize hgo1 : Z8w m8 = go1 at h
  refine AW.seq <| SR <| Md rfl <| Ac (Zp rfl rfl (vt rfl) (vk rfl)) rfl <| Nl <| Cn rfl (fun hc => ?_) (fun hc => ?_)
  ·have h := Zf hc h
   refine AW.skip <| AW.seq <| AW.block ?_
   obtain ⟨j9, hj9, h⟩ := Z1 h
   obtain ⟨x10, hx10, h⟩ := Z1 h
   obtain ⟨j11, hj11, h⟩ := Z1 h
   refine Rg <| Md rfl <| Md rfl <| Ac (Z1b rfl rfl Z2a (vt rfl) (vt rfl) hj9) rfl <| Ld Zz 2 rfl <| Cl [11] (Zk0 _ _ hx10) Zhr rfl <| Ac (Z1b rfl rfl Z2a (vt rfl) (vt rfl) hj11) rfl <| Zj Zz 2 rfl <| Nl <| Rg <| Md rfl <| Ac (Z08 rfl rfl (vt rfl) (vk rfl)) rfl <| As rfl <| Nl ?_
   subst hgo1
   exact ⟨(m8, (Vector.set b6 j11.1 x10 j11.2), (IntKind.i64.wrap (f7 + 1))), Nat.lt_succ_self _, ⟨trivial, h⟩, FX rfl⟩
  ·have h := Zg hc h
   refine AW.exit <| SR <| Ld Z03 2 rfl <| Zj Z03 3 rfl <| Nl <| AW.ret ?_
   obtain rfl := si h
   exact Zi Tryz.results83 rfl (Z01 rfl (i := 3) rfl Z03)
def Zje (f1 : Flow) : Option Z5 :=
 (Zll f1.Match).bind fun x4 => (Zhw x4).bind fun x5 => some x5
theorem Yb2 (f1 : Flow) (r : Z5) (h : Zje f1 = some r) : PCon Tryz.prog 141 [rd Z0f f1] (rd (Z2 24 Z3) r) := by
 refine PCon.of (Con.intro0 Tryz.func141 rfl Tryz.ntmps141 rfl fun w H => ?_)
 unfold Zje at h
 refine SR <| Ct rfl (Zn 2 rfl rfl (vt rfl)) ?_
 rintro _ ⟨g2, rfl⟩
 refine Ct rfl (Zq 3 rfl rfl Z15) ?_
 rintro _ ⟨g3, rfl⟩
 refine Nl <| AW.seq ?_
 obtain ⟨x4, hx4, h⟩ := Z1 h
 obtain ⟨x5, hx5, h⟩ := Z1 h
 refine Rg <| Zl Zmy Zq6 rfl <| Ld Zrf 2 rfl <| Cl [4] (Ybz _ _ hx4) Y76 rfl <| Cl [5] (Ydj _ _ hx5) e83 rfl <| Zj Z03 3 rfl <| Nl <| AW.ret ?_
 obtain rfl := si h
 exact Zi Tryz.results141 rfl (Z01 rfl (i := 3) rfl Z03)
end Go.Proofs.YtknpgojdkobgjaaGreat.W
set_option maxRecDepth 4000
namespace Go.Proofs.YtknpgojdkobgjaaGreat.W
open Go Go.Wb
theorem Y6w : Ent Tryz.prog 233 := Ent.mk Tryz.func233 rfl rfl
theorem Zwn : Ent Tryz.prog 232 := Ent.mk Tryz.func232 rfl rfl
theorem Zy0 : Ent Tryz.prog 209 := Ent.mk Tryz.func209 rfl rfl
theorem Zxx : Ent Tryz.prog 188 := Ent.mk Tryz.func188 rfl rfl
theorem Zo7 : Ent Tryz.prog 145 := Ent.mk Tryz.func145 rfl rfl
def Zkv (a1 : Wide) (b2 : Wide) : Option Wide :=
 some (⟨(a1.Hi ^^^ b2.Hi), (a1.Lo ^^^ b2.Lo)⟩ : Wide)
theorem Ydo (a1 : Wide) (b2 : Wide) (r : Wide) (h : Zkv a1 b2 = some r) : PCon Tryz.prog 233 [rd Zh a1, rd Zh b2] (rd Zh r) := by
 refine PCon.of (Con.intro0 Tryz.func233 rfl Tryz.ntmps233 rfl fun w H => ?_)
 unfold Zkv at h
 refine SR <| Ct rfl (Zn 3 rfl rfl (vt rfl)) ?_
 rintro _ ⟨g3, rfl⟩
 refine Ct rfl (Zn 4 rfl rfl (vt rfl)) ?_
 rintro _ ⟨g4, rfl⟩
 refine Ct rfl (Zq 5 rfl rfl Z1l) ?_
 rintro _ ⟨g5, rfl⟩
 refine Nl <| SR <| Zl Z28 Z3o rfl <| Ld Z1d 3 rfl <| Zl Z28 Z3o rfl <| Ld Z1d 4 rfl <| Ac (Znn rfl rfl (vt rfl) (vt rfl)) rfl <| Zl Z1y Z3j rfl <| Ld Z1d 3 rfl <| Zl Z1y Z3j rfl <| Ld Z1d 4 rfl <| Ac (Znn rfl rfl (vt rfl) (vt rfl)) rfl <| Ac (Z00 (ps := [(0, .tmp 9), (1, .tmp 14)]) (x := (⟨(a1.Hi ^^^ b2.Hi), (a1.Lo ^^^ b2.Lo)⟩ : Wide)) rfl rfl rfl (by kernel_rfl) Z1l ⟨_, _, Z28, _, by kernel_rfl, (vt rfl), _, _, Z1y, _, by kernel_rfl, (vt rfl), rfl⟩) rfl <| Zj Zv 5 rfl <| Nl <| AW.ret ?_
 obtain rfl := si h
 exact Zi Tryz.results233 rfl (Z01 rfl (i := 5) rfl Zv)
def Zfp (a1 : Wide) : Option Bool :=
 some ((decide (a1.Hi = (0 : BitVec 64))) && (decide (a1.Lo = (0 : BitVec 64))))
theorem Zu1 (a1 : Wide) (r : Bool) (h : Zfp a1 = some r) : PCon Tryz.prog 232 [rd Zh a1] (rd Zc r) := by
 refine PCon.of (Con.intro0 Tryz.func232 rfl Tryz.ntmps232 rfl fun w H => ?_)
 unfold Zfp at h
 refine SR <| Ct rfl (Zn 2 rfl rfl (vt rfl)) ?_
 rintro _ ⟨g2, rfl⟩
 refine Ab rfl <| Nl <| SR <| Zl Z28 Z3o rfl <| Ld Z1d 2 rfl <| Ac (Zmm rfl rfl (vt rfl) (vku (0 : BitVec 64) rfl)) rfl <| Md rfl <| Gd rfl (fun hq => Z40 Z1y rfl rfl Z3j (vt rfl)) <| Gd rfl (fun hq => Z37 rfl rfl Z1d (Zs rfl hq) (i := 2) rfl) <| Gd rfl (fun hq => Zmm rfl rfl (Zs rfl hq) (vku (0 : BitVec 64) rfl)) <| Ac (Z1w rfl rfl (vt rfl) (vt rfl)) rfl <| As rfl <| Nl <| AW.ret ?_
 obtain rfl := si h
 exact Zi Tryz.results232 rfl (Z8 rfl)
def Zfy (a1 : Tern) (b2 : Tern) : Option (Tern × Bool) :=
 (Zd8 a1.Mask b2.Mask).bind fun x6 => (Zkv a1.Value b2.Value).bind fun x8 => (Zd8 x8 x6).bind fun x9 => (Zfp x9).bind fun x10 => (bif (!x10) then some ((⟨Z0a, Z0a⟩ : Tern), false) else (Z7v a1).bind fun x11 => (Z7v b2).bind fun x12 => (Za9 x11.Value x12.Value).bind fun x13 => (Za9 x11.Mask x12.Mask).bind fun x14 => some ((⟨x13, x14⟩ : Tern), true))
theorem Zup (a1 : Tern) (b2 : Tern) (r : (Tern × Bool)) (h : Zfy a1 b2 = some r) : PCon Tryz.prog 209 [rd Z3 a1, rd Z3 b2] (Z1h (rd Z3 r.1) (rd Zc r.2)) := by
 refine PCon.of (Con.intro0 Tryz.func209 rfl Tryz.ntmps209 rfl fun w H => ?_)
 unfold Zfy at h
 refine SR <| Ct rfl (Zn 3 rfl rfl (vt rfl)) ?_
 rintro _ ⟨g3, rfl⟩
 refine Ct rfl (Zn 4 rfl rfl (vt rfl)) ?_
 rintro _ ⟨g4, rfl⟩
 refine Ct rfl (Zq 5 rfl rfl Z1a) ?_
 rintro _ ⟨g5, rfl⟩
 refine Ab rfl <| Nl <| AW.seq ?_
 obtain ⟨x6, hx6, h⟩ := Z1 h
 refine Rg <| Zl Z0v Z1x rfl <| Ld Zv 3 rfl <| Zl Z0v Z1x rfl <| Ld Zv 4 rfl <| Cl [8, 10] (Zlf _ _ _ hx6) Zkz rfl <| Ct rfl (Zq 7 rfl rfl Z1l) ?_
 rintro _ ⟨g7, rfl⟩
 refine Zj Zv 7 rfl <| Nl <| AW.seq <| AW.seq ?_
 obtain ⟨x8, hx8, h⟩ := Z1 h
 obtain ⟨x9, hx9, h⟩ := Z1 h
 obtain ⟨x10, hx10, h⟩ := Z1 h
 refine AW.regionAny [⟨[2], [12], [], []⟩, ⟨[12], [13], [3], []⟩, ⟨[3], [14], [], []⟩, ⟨[14], [15], [4], []⟩, ⟨[13, 15], [16], [], []⟩, ⟨[6], [17], [7], []⟩, ⟨[16, 17], [18], [], []⟩, ⟨[18], [19], [], []⟩, ⟨[19], [20], [], []⟩] Z05 (by kernel_rfl) <| SFd Z1c Z2i rfl <| Zo Zv 3 rfl <| SFd Z1c Z2i rfl <| Zo Zv 4 rfl <| SCl [13, 15] (Ydo _ _ _ hx8) Y6w rfl <| Zo Zv 7 rfl <| SCl [16, 17] (Zlf _ _ _ hx9) Zkz rfl <| SCl [18] (Zu1 _ _ hx10) Zwn rfl <| Sc (lo [19] [] rfl fun S hs hr => Z19 rfl rfl (vh hs 19 rfl rfl)) rfl <| Cn rfl (fun hc => ?_) (fun hc => ?_)
 ·have h := Zf hc h
  refine SR <| Ac (Z00 (ps := []) (x := (⟨Z0a, Z0a⟩ : Tern)) rfl rfl rfl (by kernel_rfl) Z1a rfl) rfl <| Zj Zz 5 rfl <| Ab rfl <| Nl <| AW.ret ?_
  obtain rfl := si h
  exact Z25 Tryz.results209 rfl (Z01 rfl (i := 5) rfl Zz) (Z8 rfl)
 ·have h := Zg hc h
  refine AW.skip <| AW.seq ?_
  obtain ⟨x11, hx11, h⟩ := Z1 h
  obtain ⟨x12, hx12, h⟩ := Z1 h
  refine AW.regionAny [⟨[2], [22], [3], []⟩, ⟨[22], [23], [], []⟩, ⟨[3], [24], [4], []⟩, ⟨[24], [25], [], []⟩, ⟨[2, 23], [], [3], [3]⟩, ⟨[3, 25], [], [4], [4]⟩] Z05 (by kernel_rfl) <| Zo Zz 3 rfl <| SCl [22] (Zk0 _ _ hx11) Zhr rfl <| Zo Zz 4 rfl <| SCl [24] (Zk0 _ _ hx12) Zhr rfl <| SSt Zz 3 rfl <| SSt Zz 4 rfl <| AW.seq ?_
  obtain ⟨x13, hx13, h⟩ := Z1 h
  obtain ⟨x14, hx14, h⟩ := Z1 h
  refine AW.regionAny [⟨[2], [26], [], []⟩, ⟨[26], [27], [3], []⟩, ⟨[3], [28], [], []⟩, ⟨[28], [29], [4], []⟩, ⟨[27, 29], [30], [], []⟩, ⟨[2], [31], [], []⟩, ⟨[31], [32], [3], []⟩, ⟨[3], [33], [], []⟩, ⟨[33], [34], [4], []⟩, ⟨[32, 34], [35], [], []⟩, ⟨[30, 35], [36], [], []⟩, ⟨[4, 36], [], [5], [5]⟩, ⟨[], [5], [], []⟩] Z05 (by kernel_rfl) <| SFd Z1c Z2i rfl <| Zo Zv 3 rfl <| SFd Z1c Z2i rfl <| Zo Zv 4 rfl <| SCl [27, 29] (Zic _ _ _ hx13) Zh8 rfl <| SFd Z0v Z1x rfl <| Zo Zv 3 rfl <| SFd Z0v Z1x rfl <| Zo Zv 4 rfl <| SCl [32, 34] (Zic _ _ _ hx14) Zh8 rfl <| Sc (lo [30, 35] [] rfl fun S hs hr => Z00 (ps := [(0, .tmp 30), (1, .tmp 35)]) (x := (⟨x13, x14⟩ : Tern)) rfl rfl rfl (by kernel_rfl) Z1a ⟨_, _, Z1c, _, by kernel_rfl, (vh hs 30 rfl rfl), _, _, Z0v, _, by kernel_rfl, (vh hs 35 rfl rfl), rfl⟩) rfl <| SSt Zz 5 rfl <| Sc (lo [] [] rfl fun S hs hr => Z02 (A := rd Zc true) rfl rfl vb) rfl <| AW.ret ?_
  obtain rfl := si h
  exact Z25 Tryz.results209 rfl (Z01 rfl (i := 5) rfl Zz) (Z8 rfl)
def Zke (a1 : Wide) (b2 : Wide) : Option Wide :=
 some (⟨(a1.Hi &&& ~~~b2.Hi), (a1.Lo &&& ~~~b2.Lo)⟩ : Wide)
theorem Y0u (a1 : Wide) (b2 : Wide) (r : Wide) (h : Zke a1 b2 = some r) : PCon Tryz.prog 188 [rd Zh a1, rd Zh b2] (rd Zh r) := by
 refine PCon.of (Con.intro0 Tryz.func188 rfl Tryz.ntmps188 rfl fun w H => ?_)
 unfold Zke at h
 refine SR <| Ct rfl (Zn 3 rfl rfl (vt rfl)) ?_
 rintro _ ⟨g3, rfl⟩
 refine Ct rfl (Zn 4 rfl rfl (vt rfl)) ?_
 rintro _ ⟨g4, rfl⟩
 refine Ct rfl (Zq 5 rfl rfl Z1l) ?_
 rintro _ ⟨g5, rfl⟩
 refine Nl <| SR <| Zl Z28 Z3o rfl <| Ld Z1d 3 rfl <| Zl Z28 Z3o rfl <| Ld Z1d 4 rfl <| Ac (Zko rfl rfl (vt rfl) (vt rfl)) rfl <| Zl Z1y Z3j rfl <| Ld Z1d 3 rfl <| Zl Z1y Z3j rfl <| Ld Z1d 4 rfl <| Ac (Zko rfl rfl (vt rfl) (vt rfl)) rfl <| Ac (Z00 (ps := [(0, .tmp 9), (1, .tmp 14)]) (x := (⟨(a1.Hi &&& ~~~b2.Hi), (a1.Lo &&& ~~~b2.Lo)⟩ : Wide)) rfl rfl rfl (by kernel_rfl) Z1l ⟨_, _, Z28, _, by kernel_rfl, (vt rfl), _, _, Z1y, _, by kernel_rfl, (vt rfl), rfl⟩) rfl <| Zj Zv 5 rfl <| Nl <| AW.ret ?_
 obtain rfl := si h
 exact Zi Tryz.results188 rfl (Z01 rfl (i := 5) rfl Zv)
def Z8a (r1 : Z5) (cu2 : Z5) : Nat → Z5 → Int → Option (Z5 × Bool)
 | 0, _, _ => none
 | m11 + 1, b9, f10 => (bif (decide (f10 < 24)) then (chk 24 f10).bind fun j12 => (chk 24 f10).bind fun j13 => (Zfy (Vector.get r1 j12) (Vector.get cu2 j13)).bind fun x14 => (bif (!x14.2) then some ((Vector.replicate 24 zTern), false) else (chk 24 f10).bind fun j16 => (chk 24 f10).bind fun j17 => (chk 24 f10).bind fun j18 => (Zke ((Vector.get cu2 j17).Mask) ((Vector.get r1 j18).Mask)).bind fun x19 => (Z7v (⟨(Vector.get cu2 j16).Value, x19⟩ : Tern)).bind fun x20 => (chk 24 f10).bind fun j21 => (Z8a r1 cu2 m11) (Vector.set b9 j21.1 x20 j21.2) (IntKind.i64.wrap (f10 + 1))) else some (b9, true))
def Zii (r1 : Z5) (cu2 : Z5) : Option (Z5 × Bool) :=
 Z8a r1 cu2 (((24 : Int) - 0).toNat + 1) (Vector.replicate 24 zTern) 0
theorem Yck (r1 : Z5) (cu2 : Z5) (r : (Z5 × Bool)) (h : Zii r1 cu2 = some r) : PCon Tryz.prog 140 [rd (Z2 24 Z3) r1, rd (Z2 24 Z3) cu2] (Z1h (rd (Z2 24 Z3) r.1) (rd Zc r.2)) := by
 refine PCon.of (Con.intro0 Tryz.func140 rfl Tryz.ntmps140 rfl fun w H => ?_)
 unfold Zii at h
 refine SR <| Ct rfl (Zn 3 rfl rfl (vt rfl)) ?_
 rintro _ ⟨g3, rfl⟩
 refine Ct rfl (Zn 4 rfl rfl (vt rfl)) ?_
 rintro _ ⟨g4, rfl⟩
 refine Ct rfl (Zq 5 rfl rfl Z15) ?_
 rintro _ ⟨g5, rfl⟩
 refine Ab rfl <| Nl <| SR <| Ac (Z00 (ps := []) (x := (Vector.replicate 24 zTern)) rfl rfl rfl (by kernel_rfl) Z15 rfl) rfl <| Ct rfl (Zq 7 rfl rfl Z15) ?_
 rintro _ ⟨g6, rfl⟩
 refine Zj Z03 7 rfl <| Nl <| AW.seq <| SR <| Ak rfl <| Nl <| AW.block <| AW.loopG (d := []) (ν := Nat × Z5 × Int) (fun n => True ∧ Z8a r1 cu2 n.1 n.2.1 n.2.2 = some r) (fun n => n.1) (fun n => [(2, Z7 g3 (Lens.id (Z2 24 Z3))), (3, Z7 g4 (Lens.id (Z2 24 Z3))), (4, Z7 g5 (Lens.id (Z2 24 Z3))), (6, Z7 g6 (Lens.id (Z2 24 Z3))), (7, rd (Z0 .i64) n.2.2)]) (fun n => [(3, Z9 g3 101 (Z2 24 Z3) r1), (4, Z9 g4 87 (Z2 24 Z3) cu2), (5, Z9 g5 87 (Z2 24 Z3) (Vector.replicate 24 zTern)), (7, Z9 g6 87 (Z2 24 Z3) n.2.1)]) ((((24 : Int) - 0).toNat + 1), (Vector.replicate 24 zTern), 0) ⟨trivial, h⟩ (FX rfl) ?_
 rintro ⟨m11, b9, f10⟩ ⟨hsf1, h⟩
 change True at hsf1
 change Z8a r1 cu2 m11 b9 f10 = some r at h
 change AW _ _ _ ⟨Zw [(2, Z7 g3 (Lens.id (Z2 24 Z3))), (3, Z7 g4 (Lens.id (Z2 24 Z3))), (4, Z7 g5 (Lens.id (Z2 24 Z3))), (6, Z7 g6 (Lens.id (Z2 24 Z3))), (7, rd (Z0 .i64) f10)], Zx [(3, Z9 g3 101 (Z2 24 Z3) r1), (4, Z9 g4 87 (Z2 24 Z3) cu2), (5, Z9 g5 87 (Z2 24 Z3) (Vector.replicate 24 zTern)), (7, Z9 g6 87 (Z2 24 Z3) b9)], _⟩
 cases m11 with
 | zero => cases h
 | succ m11 =>
  unfold Z8a at h
  generalize hgo1 : Z8a r1 cu2 m11 = go1 at h
  refine AW.seq <| SR <| Md rfl <| Ac (Zp rfl rfl (vt rfl) (vk rfl)) rfl <| Nl <| Cn rfl (fun hc => ?_) (fun hc => ?_)
  ·have h := Zf hc h
   refine AW.skip <| AW.seq <| AW.block <| AW.seq <| AW.seq ?_
   obtain ⟨j12, hj12, h⟩ := Z1 h
   obtain ⟨j13, hj13, h⟩ := Z1 h
   obtain ⟨x14, hx14, h⟩ := Z1 h
   refine AW.regionAny [⟨[7], [16], [], []⟩, ⟨[2, 16], [17], [], []⟩, ⟨[17], [18], [3], []⟩, ⟨[7], [19], [], []⟩, ⟨[3, 19], [20], [], []⟩, ⟨[20], [21], [4], []⟩, ⟨[18, 21], [22], [], []⟩, ⟨[22], [15], [], []⟩, ⟨[15], [23], [], []⟩, ⟨[15], [24], [], []⟩, ⟨[], [8], [], []⟩, ⟨[8, 23], [8], [], []⟩, ⟨[24], [9], [], []⟩] Z05 (by kernel_rfl) <| Zu rfl <| Sc (lo [2, 16] [] rfl fun S hs hr => Z1b rfl rfl Z3g (vh hs 2 rfl rfl) (vh hs 16 rfl rfl) hj12) rfl <| Zo Zz 3 rfl <| Zu rfl <| Sc (lo [3, 19] [] rfl fun S hs hr => Z1b rfl rfl Z2a (vh hs 3 rfl rfl) (vh hs 19 rfl rfl) hj13) rfl <| Zo Zz 4 rfl <| SCl [18, 21] (Zup _ _ _ hx14) Zy0 rfl <| Sc (lo [22] [] rfl fun S hs hr => Zt (A := Z1h (rd Z3 x14.1) (rd Zc x14.2)) rfl rfl (vh hs 22 rfl rfl)) rfl <| Sc (lo [15] [] rfl fun S hs hr => Z1s rfl rfl (vh hs 15 rfl rfl)) rfl <| Sc (lo [15] [] rfl fun S hs hr => Z1t rfl rfl (vh hs 15 rfl rfl)) rfl <| Sc (Z16 (us := [(8, Z2e 85 Z3 zTern)]) (ur := []) [] [] rfl fun S hs hr => Z5w rfl rfl rfl Z1a) rfl <| Sc (Z16 (us := [(8, Z2e 85 Z3 x14.1)]) (ur := []) [8, 23] [] rfl fun S hs hr => Z5r rfl rfl Zz ((hs 8 rfl).trans rfl) (vh hs 23 rfl rfl)) rfl <| SAs rfl <| AW.unpackP 8 9 rfl rfl fun g15 => SR <| Md rfl <| Ac (Z19 rfl rfl (vt rfl)) rfl <| Nl <| Cn rfl (fun hc => ?_) (fun hc => ?_)
   ·have h := Zf hc h
    refine SR <| Ac (Z00 (ps := []) (x := (Vector.replicate 24 zTern)) rfl rfl rfl (by kernel_rfl) Z15 rfl) rfl <| Zj Z03 5 rfl <| Ab rfl <| Nl <| AW.ret ?_
    obtain rfl := si h
    exact Z25 Tryz.results140 rfl (Z01 rfl (i := 5) rfl Z03) (Z8 rfl)
   ·have h := Zg hc h
    refine AW.skip ?_
    obtain ⟨j16, hj16, h⟩ := Z1 h
    obtain ⟨j17, hj17, h⟩ := Z1 h
    obtain ⟨j18, hj18, h⟩ := Z1 h
    obtain ⟨x19, hx19, h⟩ := Z1 h
    obtain ⟨x20, hx20, h⟩ := Z1 h
    obtain ⟨j21, hj21, h⟩ := Z1 h
    refine AW.regionAny [⟨[7], [28], [], []⟩, ⟨[7], [29], [], []⟩, ⟨[3, 29], [30], [], []⟩, ⟨[30], [31], [], []⟩, ⟨[31], [32], [4], []⟩, ⟨[7], [33], [], []⟩, ⟨[3, 33], [34], [], []⟩, ⟨[34], [35], [], []⟩, ⟨[35], [36], [4], []⟩, ⟨[7], [37], [], []⟩, ⟨[2, 37], [38], [], []⟩, ⟨[38], [39], [], []⟩, ⟨[39], [40], [3], []⟩, ⟨[36, 40], [41], [], []⟩, ⟨[32, 41], [42], [], []⟩, ⟨[42], [43], [], []⟩, ⟨[6, 28], [44], [], []⟩, ⟨[44, 43], [], [7], [7]⟩] Z05 (by kernel_rfl) <| Zu rfl <| Zu rfl <| Sc (lo [3, 29] [] rfl fun S hs hr => Z1b rfl rfl Z2a (vh hs 3 rfl rfl) (vh hs 29 rfl rfl) hj16) rfl <| SFd Z1c Z2i rfl <| Zo Zv 4 rfl <| Zu rfl <| Sc (lo [3, 33] [] rfl fun S hs hr => Z1b rfl rfl Z2a (vh hs 3 rfl rfl) (vh hs 33 rfl rfl) hj17) rfl <| SFd Z0v Z1x rfl <| Zo Zv 4 rfl <| Zu rfl <| Sc (lo [2, 37] [] rfl fun S hs hr => Z1b rfl rfl Z3g (vh hs 2 rfl rfl) (vh hs 37 rfl rfl) hj18) rfl <| SFd Z0v Z1x rfl <| Zo Zv 3 rfl <| SCl [36, 40] (Y0u _ _ _ hx19) Zxx rfl <| Sc (lo [32, 41] [] rfl fun S hs hr => Z00 (ps := [(0, .tmp 32), (1, .tmp 41)]) (x := (⟨(Vector.get cu2 j16).Value, x19⟩ : Tern)) rfl rfl rfl (by kernel_rfl) Z1a ⟨_, _, Z1c, _, by kernel_rfl, (vh hs 32 rfl rfl), _, _, Z0v, _, by kernel_rfl, (vh hs 41 rfl rfl), rfl⟩) rfl <| SCl [42] (Zk0 _ _ hx20) Zhr rfl <| Sc (lo [6, 28] [] rfl fun S hs hr => Z1b rfl rfl Z2a (vh hs 6 rfl rfl) (vh hs 28 rfl rfl) hj21) rfl <| SSt Zz 7 rfl <| Rg <| Md rfl <| Ac (Z08 rfl rfl (vt rfl) (vk rfl)) rfl <| As rfl <| Nl ?_
    subst hgo1
    exact ⟨(m11, (Vector.set b9 j21.1 x20 j21.2), (IntKind.i64.wrap (f10 + 1))), Nat.lt_succ_self _, ⟨trivial, h⟩, FX rfl⟩
  ·have h := Zg hc h
   refine AW.exit <| SR <| Ld Z03 7 rfl <| Zj Z03 5 rfl <| Ab rfl <| Nl <| AW.ret ?_
   obtain rfl := si h
   exact Z25 Tryz.results140 rfl (Z01 rfl (i := 5) rfl Z03) (Z8 rfl)
def Z95 (a1 : Z5) (b2 : Z5) : Nat → Z5 → Int → Option (Z5 × Bool)
 | 0, _, _ => none
 | m11 + 1, b9, f10 => (bif (decide (f10 < 24)) then (chk 24 f10).bind fun j12 => (chk 24 f10).bind fun j13 => (Zfy (Vector.get a1 j12) (Vector.get b2 j13)).bind fun x14 => (bif (!x14.2) then some ((Vector.replicate 24 zTern), false) else (chk 24 f10).bind fun j16 => (Z95 a1 b2 m11) (Vector.set b9 j16.1 x14.1 j16.2) (IntKind.i64.wrap (f10 + 1))) else some (b9, true))
def Zfl (a1 : Z5) (b2 : Z5) : Option (Z5 × Bool) :=
 Z95 a1 b2 (((24 : Int) - 0).toNat + 1) (Vector.replicate 24 zTern) 0
theorem Zua (a1 : Z5) (b2 : Z5) (r : (Z5 × Bool)) (h : Zfl a1 b2 = some r) : PCon Tryz.prog 142 [rd (Z2 24 Z3) a1, rd (Z2 24 Z3) b2] (Z1h (rd (Z2 24 Z3) r.1) (rd Zc r.2)) := by
 refine PCon.of (Con.intro0 Tryz.func142 rfl Tryz.ntmps142 rfl fun w H => ?_)
 unfold Zfl at h
 refine SR <| Ct rfl (Zn 3 rfl rfl (vt rfl)) ?_
 rintro _ ⟨g3, rfl⟩
 refine Ct rfl (Zn 4 rfl rfl (vt rfl)) ?_
 rintro _ ⟨g4, rfl⟩
 refine Ct rfl (Zq 5 rfl rfl Z15) ?_
 rintro _ ⟨g5, rfl⟩
 refine Ab rfl <| Nl <| SR <| Ac (Z00 (ps := []) (x := (Vector.replicate 24 zTern)) rfl rfl rfl (by kernel_rfl) Z15 rfl) rfl <| Ct rfl (Zq 7 rfl rfl Z15) ?_
 rintro _ ⟨g6, rfl⟩
 refine Zj Z03 7 rfl <| Nl <| AW.seq <| SR <| Ak rfl <| Nl <| AW.block <| AW.loopG (d := []) (ν := Nat × Z5 × Int) (fun n => True ∧ Z95 a1 b2 n.1 n.2.1 n.2.2 = some r) (fun n => n.1) (fun n => [(2, Z7 g3 (Lens.id (Z2 24 Z3))), (3, Z7 g4 (Lens.id (Z2 24 Z3))), (4, Z7 g5 (Lens.id (Z2 24 Z3))), (6, Z7 g6 (Lens.id (Z2 24 Z3))), (7, rd (Z0 .i64) n.2.2)]) (fun n => [(3, Z9 g3 87 (Z2 24 Z3) a1), (4, Z9 g4 87 (Z2 24 Z3) b2), (5, Z9 g5 87 (Z2 24 Z3) (Vector.replicate 24 zTern)), (7, Z9 g6 87 (Z2 24 Z3) n.2.1)]) ((((24 : Int) - 0).toNat + 1), (Vector.replicate 24 zTern), 0) ⟨trivial, h⟩ (FX rfl) ?_
 rintro ⟨m11, b9, f10⟩ ⟨hsf1, h⟩
 change True at hsf1
 change Z95 a1 b2 m11 b9 f10 = some r at h
 change AW _ _ _ ⟨Zw [(2, Z7 g3 (Lens.id (Z2 24 Z3))), (3, Z7 g4 (Lens.id (Z2 24 Z3))), (4, Z7 g5 (Lens.id (Z2 24 Z3))), (6, Z7 g6 (Lens.id (Z2 24 Z3))), (7, rd (Z0 .i64) f10)], Zx [(3, Z9 g3 87 (Z2 24 Z3) a1), (4, Z9 g4 87 (Z2 24 Z3) b2), (5, Z9 g5 87 (Z2 24 Z3) (Vector.replicate 24 zTern)), (7, Z9 g6 87 (Z2 24 Z3) b9)], _⟩
 cases m11 with
 | zero => cases h
 | succ m11 =>
  unfold Z95 at h
  generalize hgo1 : Z95 a1 b2 m11 = go1 at h
  refine AW.seq <| SR <| Md rfl <| Ac (Zp rfl rfl (vt rfl) (vk rfl)) rfl <| Nl <| Cn rfl (fun hc => ?_) (fun hc => ?_)
  ·have h := Zf hc h
   refine AW.skip <| AW.seq <| AW.block <| AW.seq ?_
   obtain ⟨j12, hj12, h⟩ := Z1 h
   obtain ⟨j13, hj13, h⟩ := Z1 h
   obtain ⟨x14, hx14, h⟩ := Z1 h
   refine AW.regionAny [⟨[7], [16], [], []⟩, ⟨[2, 16], [17], [], []⟩, ⟨[17], [18], [3], []⟩, ⟨[7], [19], [], []⟩, ⟨[3, 19], [20], [], []⟩, ⟨[20], [21], [4], []⟩, ⟨[18, 21], [22], [], []⟩, ⟨[22], [15], [], []⟩, ⟨[15], [23], [], []⟩, ⟨[15], [24], [], []⟩, ⟨[], [8], [], []⟩, ⟨[8, 23], [8], [], []⟩, ⟨[24], [9], [], []⟩] Z05 (by kernel_rfl) <| Zu rfl <| Sc (lo [2, 16] [] rfl fun S hs hr => Z1b rfl rfl Z2a (vh hs 2 rfl rfl) (vh hs 16 rfl rfl) hj12) rfl <| Zo Zz 3 rfl <| Zu rfl <| Sc (lo [3, 19] [] rfl fun S hs hr => Z1b rfl rfl Z2a (vh hs 3 rfl rfl) (vh hs 19 rfl rfl) hj13) rfl <| Zo Zz 4 rfl <| SCl [18, 21] (Zup _ _ _ hx14) Zy0 rfl <| Sc (lo [22] [] rfl fun S hs hr => Zt (A := Z1h (rd Z3 x14.1) (rd Zc x14.2)) rfl rfl (vh hs 22 rfl rfl)) rfl <| Sc (lo [15] [] rfl fun S hs hr => Z1s rfl rfl (vh hs 15 rfl rfl)) rfl <| Sc (lo [15] [] rfl fun S hs hr => Z1t rfl rfl (vh hs 15 rfl rfl)) rfl <| Sc (Z16 (us := [(8, Z2e 85 Z3 zTern)]) (ur := []) [] [] rfl fun S hs hr => Z5w rfl rfl rfl Z1a) rfl <| Sc (Z16 (us := [(8, Z2e 85 Z3 x14.1)]) (ur := []) [8, 23] [] rfl fun S hs hr => Z5r rfl rfl Zz ((hs 8 rfl).trans rfl) (vh hs 23 rfl rfl)) rfl <| SAs rfl <| AW.unpackP 8 9 rfl rfl fun g15 => AW.seq <| SR <| Md rfl <| Ac (Z19 rfl rfl (vt rfl)) rfl <| Nl <| Cn rfl (fun hc => ?_) (fun hc => ?_)
   ·have h := Zf hc h
    refine SR <| Ac (Z00 (ps := []) (x := (Vector.replicate 24 zTern)) rfl rfl rfl (by kernel_rfl) Z15 rfl) rfl <| Zj Z03 5 rfl <| Ab rfl <| Nl <| AW.ret ?_
    obtain rfl := si h
    exact Z25 Tryz.results142 rfl (Z01 rfl (i := 5) rfl Z03) (Z8 rfl)
   ·have h := Zg hc h
    refine AW.skip ?_
    obtain ⟨j16, hj16, h⟩ := Z1 h
    refine Rg <| Md rfl <| Ld Zz 9 rfl <| Ac (Z1b rfl rfl Z2a (vt rfl) (vt rfl) hj16) rfl <| Zj Zz 7 rfl <| Nl <| Rg <| Md rfl <| Ac (Z08 rfl rfl (vt rfl) (vk rfl)) rfl <| As rfl <| Nl ?_
    subst hgo1
    exact ⟨(m11, (Vector.set b9 j16.1 x14.1 j16.2), (IntKind.i64.wrap (f10 + 1))), Nat.lt_succ_self _, ⟨trivial, h⟩, FX rfl⟩
  ·have h := Zg hc h
   refine AW.exit <| SR <| Ld Z03 7 rfl <| Zj Z03 5 rfl <| Ab rfl <| Nl <| AW.ret ?_
   obtain rfl := si h
   exact Z25 Tryz.results142 rfl (Z01 rfl (i := 5) rfl Z03) (Z8 rfl)
def Zbe (l1 : (List Inst)) (kind2 : Int) : Nat → Int → Option (Inst × Bool)
 | 0, _ => none
 | m6 + 1, i5 => (bif (decide (i5 < (l1.length : Int))) then (lget l1 i5).bind fun e7 => (bif (decide (e7.Kind = kind2)) then (lget l1 i5).bind fun e8 => some (e8, true) else (Zbe l1 kind2 m6) (IntKind.i64.wrap (i5 + 1))) else some ((⟨0, 0, Z0a, Z0a, []⟩ : Inst), false))
def Z8o (l1 : (List Inst)) (kind2 : Int) : Option (Inst × Bool) :=
 Zbe l1 kind2 ((((l1.length : Int) : Int) - 0).toNat + 1) 0
theorem Zgj (l1 : (List Inst)) (kind2 : Int) (r : (Inst × Bool)) (h : Z8o l1 kind2 = some r) : PCon Tryz.prog 151 [rd (Z4 Z10) l1, rd (Z0 .i64) kind2] (Z1h (rd Z10 r.1) (rd Zc r.2)) := by
 refine PCon.of (Con.intro0 Tryz.func151 rfl Tryz.ntmps151 rfl fun w H => ?_)
 unfold Z8o at h
 refine SR <| Ct rfl (Zq 5 rfl rfl Z4r) ?_
 rintro _ ⟨g3, rfl⟩
 refine Ab rfl <| Nl <| AW.seq <| SR <| Ak rfl <| Nl <| AW.block <| AW.loopG (d := []) (ν := Nat × Int) (fun n => True ∧ Zbe l1 kind2 n.1 n.2 = some r) (fun n => n.1) (fun n => [(0, rd (Z4 Z10) l1), (1, rd (Z0 .i64) kind2), (4, Z7 g3 (Lens.id Z10)), (6, rd (Z0 .i64) n.2)]) (fun n => [(5, Z9 g3 124 Z10 Zl6)]) (((((l1.length : Int) : Int) - 0).toNat + 1), 0) ⟨trivial, h⟩ (FX rfl) ?_
 rintro ⟨m6, i5⟩ ⟨hsf1, h⟩
 change True at hsf1
 change Zbe l1 kind2 m6 i5 = some r at h
 change AW _ _ _ ⟨Zw [(0, rd (Z4 Z10) l1), (1, rd (Z0 .i64) kind2), (4, Z7 g3 (Lens.id Z10)), (6, rd (Z0 .i64) i5)], Zx [(5, Z9 g3 124 Z10 Zl6)], _⟩
 cases m6 with
 | zero => cases h
 | succ m6 =>
  unfold Zbe at h
  generalize hgo1 : Zbe l1 kind2 m6 = go1 at h
  refine AW.seq <| SR <| Md rfl <| Md rfl <| Ac (Z0x rfl rfl Zbq (vt rfl)) rfl <| Ac (Zp rfl rfl (vt rfl) (vt rfl)) rfl <| Nl <| Cn rfl (fun hc => ?_) (fun hc => ?_)
  ·have h := Zf hc h
   refine AW.skip <| AW.seq <| AW.block <| AW.seq ?_
   obtain ⟨e7, he7, h⟩ := Z1 h
   refine Rg <| Md rfl <| Md rfl <| Ac (Z0r rfl rfl Zbq (vt rfl) (vt rfl) he7) rfl <| Fp Zoc Ztq rfl <| Lp1 ty3 rfl <| Md rfl <| Ac (Z0i rfl rfl (vt rfl) (vt rfl)) rfl <| Nl <| Cn rfl (fun hc => ?_) (fun hc => ?_)
   ·have h := Zf hc h
    refine AW.seq ?_
    obtain ⟨e8, he8, h⟩ := Z1 h
    refine Rg <| Md rfl <| Md rfl <| Ac (Z0r rfl rfl Zbq (vt rfl) (vt rfl) he8) rfl <| Lp1 Z34 rfl <| Zj Z34 5 rfl <| Ab rfl <| Nl <| AW.ret ?_
    obtain rfl := si h
    exact Z25 Tryz.results151 rfl (Z01 rfl (i := 5) rfl Z34) (Z8 rfl)
   ·have h := Zg hc h
    refine AW.skip <| Rg <| Md rfl <| Ac (Z08 rfl rfl (vt rfl) (vk rfl)) rfl <| As rfl <| Nl ?_
    subst hgo1
    exact ⟨(m6, (IntKind.i64.wrap (i5 + 1))), Nat.lt_succ_self _, ⟨trivial, h⟩, FX rfl⟩
  ·have h := Zg hc h
   refine AW.exit <| SR <| Ac (Z00 (ps := []) (x := (⟨0, 0, Z0a, Z0a, []⟩ : Inst)) rfl rfl rfl (by kernel_rfl) Z4r rfl) rfl <| Zj Z34 5 rfl <| Ab rfl <| Nl <| AW.ret ?_
   obtain rfl := si h
   exact Z25 Tryz.results151 rfl (Z01 rfl (i := 5) rfl Z34) (Z8 rfl)
def Z8p : Nat → Z5 → Int → Option Z5
 | 0, _, _ => none
 | m8 + 1, b6, f7 => (bif (decide (f7 < 24)) then (chk 24 f7).bind fun j9 => (Z7v (Vector.get b6 j9)).bind fun x10 => (chk 24 f7).bind fun j11 => (Z8p m8) (Vector.set b6 j11.1 x10 j11.2) (IntKind.i64.wrap (f7 + 1)) else some b6)
def Zby (r1 : Z5) : Option Z5 :=
 Z8p (((24 : Int) - 0).toNat + 1) r1 0
theorem Zof (r1 : Z5) (r : Z5) (h : Zby r1 = some r) : PCon Tryz.prog 145 [rd (Z2 24 Z3) r1] (rd (Z2 24 Z3) r) := by
 refine PCon.of (Con.intro0 Tryz.func145 rfl Tryz.ntmps145 rfl fun w H => ?_)
 unfold Zby at h
 refine SR <| Ct rfl (Zn 2 rfl rfl (vt rfl)) ?_
 rintro _ ⟨g2, rfl⟩
 refine Ct rfl (Zq 3 rfl rfl Z36) ?_
 rintro _ ⟨g3, rfl⟩
 refine Nl <| AW.seq <| SR <| Ak rfl <| Nl <| AW.block <| AW.loopG (d := []) (ν := Nat × Z5 × Int) (fun n => True ∧ Z8p n.1 n.2.1 n.2.2 = some r) (fun n => n.1) (fun n => [(1, Z7 g2 (Lens.id (Z2 24 Z3))), (2, Z7 g3 (Lens.id (Z2 24 Z3))), (3, rd (Z0 .i64) n.2.2)]) (fun n => [(2, Z9 g2 101 (Z2 24 Z3) n.2.1), (3, Z9 g3 101 (Z2 24 Z3) (Vector.replicate 24 zTern))]) ((((24 : Int) - 0).toNat + 1), r1, 0) ⟨trivial, h⟩ (FX rfl) ?_
 rintro ⟨m8, b6, f7⟩ ⟨hsf1, h⟩
 change True at hsf1
 change Z8p m8 b6 f7 = some r at h
 change AW _ _ _ ⟨Zw [(1, Z7 g2 (Lens.id (Z2 24 Z3))), (2, Z7 g3 (Lens.id (Z2 24 Z3))), (3, rd (Z0 .i64) f7)], Zx [(2, Z9 g2 101 (Z2 24 Z3) b6), (3, Z9 g3 101 (Z2 24 Z3) (Vector.replicate 24 zTern))], _⟩
 cases m8 with
 | zero => cases h
 | succ m8 =>
  unfold Z8p at h
  generalize hgo1 : Z8p m8 = go1 at h
  refine AW.seq <| SR <| Md rfl <| Ac (Zp rfl rfl (vt rfl) (vk rfl)) rfl <| Nl <| Cn rfl (fun hc => ?_) (fun hc => ?_)
  ·have h := Zf hc h
   refine AW.skip <| AW.seq <| AW.block ?_
   obtain ⟨j9, hj9, h⟩ := Z1 h
   obtain ⟨x10, hx10, h⟩ := Z1 h
   obtain ⟨j11, hj11, h⟩ := Z1 h
   refine Rg <| Md rfl <| Md rfl <| Ac (Z1b rfl rfl Z3g (vt rfl) (vt rfl) hj9) rfl <| Ld Zz 2 rfl <| Cl [11] (Zk0 _ _ hx10) Zhr rfl <| Ac (Z1b rfl rfl Z3g (vt rfl) (vt rfl) hj11) rfl <| Zj Zz 2 rfl <| Nl <| Rg <| Md rfl <| Ac (Z08 rfl rfl (vt rfl) (vk rfl)) rfl <| As rfl <| Nl ?_
   subst hgo1
   exact ⟨(m8, (Vector.set b6 j11.1 x10 j11.2), (IntKind.i64.wrap (f7 + 1))), Nat.lt_succ_self _, ⟨trivial, h⟩, FX rfl⟩
  ·have h := Zg hc h
   refine AW.exit <| SR <| Ld Z04 2 rfl <| Zj Z04 3 rfl <| Nl <| AW.ret ?_
   obtain rfl := si h
   exact Zi Tryz.results145 rfl (Z01 rfl (i := 3) rfl Z04)
def Z94 (x7 : Z5) : Nat → Z5 → Int → Option Z5
 | 0, _, _ => none
 | m12 + 1, b10, f11 => (bif (decide (f11 < 24)) then (chk 24 f11).bind fun j13 => (chk 24 f11).bind fun j14 => (Zke ((Vector.get b10 j13).Value) ((Vector.get x7 j14).Mask)).bind fun x15 => (chk 24 f11).bind fun j16 => (Za9 x15 ((Vector.get x7 j16).Value)).bind fun x17 => (chk 24 f11).bind fun j18 => (chk 24 f11).bind fun j19 => (Za9 ((Vector.get b10 j18).Mask) ((Vector.get x7 j19).Mask)).bind fun x20 => (chk 24 f11).bind fun j21 => (Z94 x7 m12) (Vector.set b10 j21.1 (⟨x17, x20⟩ : Tern) j21.2) (IntKind.i64.wrap (f11 + 1)) else some b10)
def Zft (a1 : Z5) (b2 : Z5) : Option Z5 :=
 (Zby a1).bind fun x6 => (Zby b2).bind fun x7 => Z94 x7 (((24 : Int) - 0).toNat + 1) x6 0
theorem Y08 (a1 : Z5) (b2 : Z5) (r : Z5) (h : Zft a1 b2 = some r) : PCon Tryz.prog 226 [rd (Z2 24 Z3) a1, rd (Z2 24 Z3) b2] (rd (Z2 24 Z3) r) := by
 refine PCon.of (Con.intro0 Tryz.func226 rfl Tryz.ntmps226 rfl fun w H => ?_)
 unfold Zft at h
 refine SR <| Ct rfl (Zn 3 rfl rfl (vt rfl)) ?_
 rintro _ ⟨g3, rfl⟩
 refine Ct rfl (Zn 4 rfl rfl (vt rfl)) ?_
 rintro _ ⟨g4, rfl⟩
 refine Ct rfl (Zq 5 rfl rfl Z36) ?_
 rintro _ ⟨g5, rfl⟩
 refine Nl <| AW.seq ?_
 obtain ⟨x6, hx6, h⟩ := Z1 h
 obtain ⟨x7, hx7, h⟩ := Z1 h
 refine AW.regionAny [⟨[2], [6], [3], []⟩, ⟨[6], [7], [], []⟩, ⟨[3], [8], [4], []⟩, ⟨[8], [9], [], []⟩, ⟨[2, 7], [], [3], [3]⟩, ⟨[3, 9], [], [4], [4]⟩] Z05 (by kernel_rfl) <| Zo Z04 3 rfl <| SCl [6] (Zof _ _ hx6) Zo7 rfl <| Zo Z04 4 rfl <| SCl [8] (Zof _ _ hx7) Zo7 rfl <| SSt Z04 3 rfl <| SSt Z04 4 rfl <| AW.seq <| SR <| Ak rfl <| Nl <| AW.block <| AW.loopG (d := []) (ν := Nat × Z5 × Int) (fun n => True ∧ Z94 x7 n.1 n.2.1 n.2.2 = some r) (fun n => n.1) (fun n => [(2, Z7 g3 (Lens.id (Z2 24 Z3))), (3, Z7 g4 (Lens.id (Z2 24 Z3))), (4, Z7 g5 (Lens.id (Z2 24 Z3))), (5, rd (Z0 .i64) n.2.2)]) (fun n => [(3, Z9 g3 101 (Z2 24 Z3) n.2.1), (4, Z9 g4 101 (Z2 24 Z3) x7), (5, Z9 g5 101 (Z2 24 Z3) (Vector.replicate 24 zTern))]) ((((24 : Int) - 0).toNat + 1), x6, 0) ⟨trivial, h⟩ (FX rfl) ?_
 rintro ⟨m12, b10, f11⟩ ⟨hsf1, h⟩
 change True at hsf1
 change Z94 x7 m12 b10 f11 = some r at h
 change AW _ _ _ ⟨Zw [(2, Z7 g3 (Lens.id (Z2 24 Z3))), (3, Z7 g4 (Lens.id (Z2 24 Z3))), (4, Z7 g5 (Lens.id (Z2 24 Z3))), (5, rd (Z0 .i64) f11)], Zx [(3, Z9 g3 101 (Z2 24 Z3) b10), (4, Z9 g4 101 (Z2 24 Z3) x7), (5, Z9 g5 101 (Z2 24 Z3) (Vector.replicate 24 zTern))], _⟩
 cases m12 with
 | zero => cases h
 | succ m12 =>
  unfold Z94 at h
  generalize hgo1 : Z94 x7 m12 = go1 at h
  refine AW.seq <| SR <| Md rfl <| Ac (Zp rfl rfl (vt rfl) (vk rfl)) rfl <| Nl <| Cn rfl (fun hc => ?_) (fun hc => ?_)
  ·have h := Zf hc h
   refine AW.skip <| AW.seq <| AW.block ?_
   obtain ⟨j13, hj13, h⟩ := Z1 h
   obtain ⟨j14, hj14, h⟩ := Z1 h
   obtain ⟨x15, hx15, h⟩ := Z1 h
   obtain ⟨j16, hj16, h⟩ := Z1 h
   obtain ⟨x17, hx17, h⟩ := Z1 h
   obtain ⟨j18, hj18, h⟩ := Z1 h
   obtain ⟨j19, hj19, h⟩ := Z1 h
   obtain ⟨x20, hx20, h⟩ := Z1 h
   obtain ⟨j21, hj21, h⟩ := Z1 h
   refine AW.regionAny [⟨[5], [14], [], []⟩, ⟨[5], [15], [], []⟩, ⟨[2, 15], [16], [], []⟩, ⟨[16], [17], [], []⟩, ⟨[17], [18], [3], []⟩, ⟨[5], [19], [], []⟩, ⟨[3, 19], [20], [], []⟩, ⟨[20], [21], [], []⟩, ⟨[21], [22], [4], []⟩, ⟨[18, 22], [23], [], []⟩, ⟨[5], [24], [], []⟩, ⟨[3, 24], [25], [], []⟩, ⟨[25], [26], [], []⟩, ⟨[26], [27], [4], []⟩, ⟨[23, 27], [28], [], []⟩, ⟨[5], [29], [], []⟩, ⟨[2, 29], [30], [], []⟩, ⟨[30], [31], [], []⟩, ⟨[31], [32], [3], []⟩, ⟨[5], [33], [], []⟩, ⟨[3, 33], [34], [], []⟩, ⟨[34], [35], [], []⟩, ⟨[35], [36], [4], []⟩, ⟨[32, 36], [37], [], []⟩, ⟨[28, 37], [38], [], []⟩, ⟨[2, 14], [39], [], []⟩, ⟨[39, 38], [], [3], [3]⟩] Z05 (by kernel_rfl) <| Zu rfl <| Zu rfl <| Sc (lo [2, 15] [] rfl fun S hs hr => Z1b rfl rfl Z3g (vh hs 2 rfl rfl) (vh hs 15 rfl rfl) hj13) rfl <| SFd Z1c Z2i rfl <| Zo Zv 3 rfl <| Zu rfl <| Sc (lo [3, 19] [] rfl fun S hs hr => Z1b rfl rfl Z3g (vh hs 3 rfl rfl) (vh hs 19 rfl rfl) hj14) rfl <| SFd Z0v Z1x rfl <| Zo Zv 4 rfl <| SCl [18, 22] (Y0u _ _ _ hx15) Zxx rfl <| Zu rfl <| Sc (lo [3, 24] [] rfl fun S hs hr => Z1b rfl rfl Z3g (vh hs 3 rfl rfl) (vh hs 24 rfl rfl) hj16) rfl <| SFd Z1c Z2i rfl <| Zo Zv 4 rfl <| SCl [23, 27] (Zic _ _ _ hx17) Zh8 rfl <| Zu rfl <| Sc (lo [2, 29] [] rfl fun S hs hr => Z1b rfl rfl Z3g (vh hs 2 rfl rfl) (vh hs 29 rfl rfl) hj18) rfl <| SFd Z0v Z1x rfl <| Zo Zv 3 rfl <| Zu rfl <| Sc (lo [3, 33] [] rfl fun S hs hr => Z1b rfl rfl Z3g (vh hs 3 rfl rfl) (vh hs 33 rfl rfl) hj19) rfl <| SFd Z0v Z1x rfl <| Zo Zv 4 rfl <| SCl [32, 36] (Zic _ _ _ hx20) Zh8 rfl <| Sc (lo [28, 37] [] rfl fun S hs hr => Z00 (ps := [(0, .tmp 28), (1, .tmp 37)]) (x := (⟨x17, x20⟩ : Tern)) rfl rfl rfl (by kernel_rfl) Z1a ⟨_, _, Z1c, _, by kernel_rfl, (vh hs 28 rfl rfl), _, _, Z0v, _, by kernel_rfl, (vh hs 37 rfl rfl), rfl⟩) rfl <| Sc (lo [2, 14] [] rfl fun S hs hr => Z1b rfl rfl Z3g (vh hs 2 rfl rfl) (vh hs 14 rfl rfl) hj21) rfl <| SSt Zz 3 rfl <| Rg <| Md rfl <| Ac (Z08 rfl rfl (vt rfl) (vk rfl)) rfl <| As rfl <| Nl ?_
   subst hgo1
   exact ⟨(m12, (Vector.set b10 j21.1 (⟨x17, x20⟩ : Tern) j21.2), (IntKind.i64.wrap (f11 + 1))), Nat.lt_succ_self _, ⟨trivial, h⟩, FX rfl⟩
  ·have h := Zg hc h
   refine AW.exit <| SR <| Ld Z04 3 rfl <| Zj Z04 5 rfl <| Nl <| AW.ret ?_
   obtain rfl := si h
   exact Zi Tryz.results226 rfl (Z01 rfl (i := 5) rfl Z04)
end Go.Proofs.YtknpgojdkobgjaaGreat.W
set_option maxRecDepth 4000
namespace Go.Proofs.YtknpgojdkobgjaaGreat.W
open Go Go.Wb
theorem Zwd : Ent Tryz.prog 226 := Ent.mk Tryz.func226 rfl rfl
theorem e80 : Ent Tryz.prog 80 := Ent.mk Tryz.func80 rfl rfl
theorem Ziy : Ent Tryz.prog 154 := Ent.mk Tryz.func154 rfl rfl
theorem Y7d : Ent Tryz.prog 272 := Ent.mk Tryz.func272 rfl rfl
theorem Yd9 : Ent Tryz.prog 224 := Ent.mk Tryz.func224 rfl rfl
theorem Zif : Ent Tryz.prog 227 := Ent.mk Tryz.func227 rfl rfl
theorem Y6v : Ent Tryz.prog 228 := Ent.mk Tryz.func228 rfl rfl
theorem Y9u : Ent Tryz.prog 139 := Ent.mk Tryz.func139 rfl rfl
theorem Y1u : Ent Tryz.prog 141 := Ent.mk Tryz.func141 rfl rfl
theorem Ygz : Ent Tryz.prog 140 := Ent.mk Tryz.func140 rfl rfl
theorem Zx5 : Ent Tryz.prog 142 := Ent.mk Tryz.func142 rfl rfl
theorem Y1r : Ent Tryz.prog 143 := Ent.mk Tryz.func143 rfl rfl
def Zem (r1 : Z5) (b10 : Z5) : Option Z5 :=
 (Zft r1 b10).bind fun x11 => some x11
def Z8n (r1 : Z5) (f2 : Int) (value3 : Wide) (mask4 : Wide) : Option Z5 :=
 (Za0 f2).bind fun x12 => (bif x12 then (chk 24 f2).bind fun j13 => Zem r1 (Vector.set (Vector.replicate 24 zTern) j13.1 (⟨value3, mask4⟩ : Tern) j13.2) else Zem r1 (Vector.replicate 24 zTern))
theorem Zgt (r1 : Z5) (f2 : Int) (value3 : Wide) (mask4 : Wide) (r : Z5) (h : Z8n r1 f2 value3 mask4 = some r) : PCon Tryz.prog 154 [rd (Z2 24 Z3) r1, rd (Z0 .i64) f2, rd Zh value3, rd Zh mask4] (rd (Z2 24 Z3) r) := by
 refine PCon.of (Con.intro0 Tryz.func154 rfl Tryz.ntmps154 rfl fun w H => ?_)
 unfold Z8n at h
 refine SR <| Ct rfl (Zn 5 rfl rfl (vt rfl)) ?_
 rintro _ ⟨g5, rfl⟩
 refine Ct rfl (Zn 7 rfl rfl (vt rfl)) ?_
 rintro _ ⟨g6, rfl⟩
 refine Ct rfl (Zn 8 rfl rfl (vt rfl)) ?_
 rintro _ ⟨g7, rfl⟩
 refine Ct rfl (Zq 9 rfl rfl Z36) ?_
 rintro _ ⟨g8, rfl⟩
 refine Nl <| SR <| Ac (Z00 (ps := []) (x := (Vector.replicate 24 zTern)) rfl rfl rfl (by kernel_rfl) Z36 rfl) rfl <| Ct rfl (Zq 10 rfl rfl Z36) ?_
 rintro _ ⟨g9, rfl⟩
 refine Zj Z04 10 rfl <| Nl ?_
 refine AW.join (d := []) (ν := Z5) (fun n => Zem r1 n = some r) (fun n => [(4, Z7 g5 (Lens.id (Z2 24 Z3))), (8, Z7 g8 (Lens.id (Z2 24 Z3))), (9, Z7 g9 (Lens.id (Z2 24 Z3)))]) (fun n => [(5, Z9 g5 101 (Z2 24 Z3) r1), (9, Z9 g8 101 (Z2 24 Z3) (Vector.replicate 24 zTern)), (10, Z9 g9 101 (Z2 24 Z3) n)]) ?hx1 ?hy1
 case hy1 =>
  intro b10 h
  unfold Zem at h
  change AW _ _ _ ⟨Zw [(4, Z7 g5 (Lens.id (Z2 24 Z3))), (8, Z7 g8 (Lens.id (Z2 24 Z3))), (9, Z7 g9 (Lens.id (Z2 24 Z3)))], Zx [(5, Z9 g5 101 (Z2 24 Z3) r1), (9, Z9 g8 101 (Z2 24 Z3) (Vector.replicate 24 zTern)), (10, Z9 g9 101 (Z2 24 Z3) b10)], _⟩
  refine AW.seq ?_
  obtain ⟨x11, hx11, h⟩ := Z1 h
  refine Rg <| Ld Z04 5 rfl <| Ld Z04 10 rfl <| Cl [18, 19] (Y08 _ _ _ hx11) Zwd rfl <| Zj Z04 9 rfl <| Nl <| AW.ret ?_
  obtain rfl := si h
  exact Zi Tryz.results154 rfl (Z01 rfl (i := 9) rfl Z04)
 case hx1 =>
  refine AW.seq ?_
  obtain ⟨x12, hx12, h⟩ := Z1 h
  refine Rg <| Md rfl <| Cl [11] (Zpk _ _ hx12) Zpv rfl <| Nl <| Cn rfl (fun hc => ?_) (fun hc => ?_)
  ·have h := Zf hc h
   obtain ⟨j13, hj13, h⟩ := Z1 h
   refine Rg <| Md rfl <| Ld Zv 7 rfl <| Ld Zv 8 rfl <| Ac (Z00 (ps := [(0, .tmp 14), (1, .tmp 15)]) (x := (⟨value3, mask4⟩ : Tern)) rfl rfl rfl (by kernel_rfl) Z1a ⟨_, _, Z1c, _, by kernel_rfl, (vt rfl), _, _, Z0v, _, by kernel_rfl, (vt rfl), rfl⟩) rfl <| Ac (Z1b rfl rfl Z3g (vt rfl) (vt rfl) hj13) rfl <| Zj Zz 10 rfl <| Nl ?_
   exact ⟨(Vector.set (Vector.replicate 24 zTern) j13.1 (⟨value3, mask4⟩ : Tern) j13.2), h, FX rfl⟩
  ·have h := Zg hc h
   refine AW.skip ?_
   exact ⟨(Vector.replicate 24 zTern), h, FX rfl⟩
def Zhm (a1 : Action) : Option Z5 :=
 (bif (decide (a1.Kind = 25)) then (Zg6 a1.Oxm).bind fun x4 => (Z89).bind fun x6 => (Z8n x6 a1.Oxm.Field x4.Value x4.Mask).bind fun x7 => some x7 else (bif (decide (a1.Kind = 17)) then (Z89).bind fun x8 => (Z8c 12).bind fun x9 => (Z8c 12).bind fun x10 => (Z8n x8 5 x9 x10).bind fun x11 => some x11 else (bif (decide (a1.Kind = 18)) then (Z89).bind fun x12 => (Zba 13).bind fun x13 => (Z8n x12 5 (⟨0, 0⟩ : Wide) x13).bind fun x14 => (Zba 3).bind fun x16 => (Z8n x14 6 (⟨0, 0⟩ : Wide) x16).bind fun x17 => some x17 else (Z89).bind fun x18 => some x18)))
theorem Y23 (a1 : Action) (r : Z5) (h : Zhm a1 = some r) : PCon Tryz.prog 272 [rd Z6 a1] (rd (Z2 24 Z3) r) := by
 refine PCon.of (Con.intro0 Tryz.func272 rfl Tryz.ntmps272 rfl fun w H => ?_)
 unfold Zhm at h
 refine SR <| Ct rfl (Zn 2 rfl rfl (vt rfl)) ?_
 rintro _ ⟨g2, rfl⟩
 refine Ct rfl (Zq 3 rfl rfl Z36) ?_
 rintro _ ⟨g3, rfl⟩
 refine Nl <| AW.seq <| SR <| Zl Z4d Z4s rfl <| Ld ty3 2 rfl <| Nl <| AW.block <| SR <| Ac (Z0i rfl rfl (vt rfl) (vk rfl)) rfl <| As rfl <| Nl <| Cn rfl (fun hc => ?_) (fun hc => ?_)
 ·have h := Zf hc h
  refine AW.seq ?_
  obtain ⟨x4, hx4, h⟩ := Z1 h
  refine Rg <| Zl Z7l Z9v rfl <| Ld Ze0 2 rfl <| Cl [10] (Zz2 _ _ hx4) Zv4 rfl <| Ct rfl (Zq 4 rfl rfl Z1a) ?_
  rintro _ ⟨g5, rfl⟩
  refine Zj Zz 4 rfl <| Nl <| AW.seq ?_
  obtain ⟨x6, hx6, h⟩ := Z1 h
  obtain ⟨x7, hx7, h⟩ := Z1 h
  refine AW.regionAny [⟨[], [12], [], []⟩, ⟨[1], [13], [], []⟩, ⟨[13], [14], [], []⟩, ⟨[14], [15], [2], []⟩, ⟨[3], [16], [], []⟩, ⟨[16], [17], [4], []⟩, ⟨[3], [18], [], []⟩, ⟨[18], [19], [4], []⟩, ⟨[12, 15, 17, 19], [20], [], []⟩, ⟨[2, 20], [], [3], [3]⟩] Z05 (by kernel_rfl) <| SCl [] (Zi6 _ hx6) e80 rfl <| SFd Z7l Z9v rfl <| SFd Z46 Z4l rfl <| Zo ty3 2 rfl <| SFd Z1c Z2i rfl <| Zo Zv 4 rfl <| SFd Z0v Z1x rfl <| Zo Zv 4 rfl <| SCl [12, 15, 17, 19] (Zgt _ _ _ _ _ hx7) Ziy rfl <| SSt Z04 3 rfl <| AW.ret ?_
  obtain rfl := si h
  exact Zi Tryz.results272 rfl (Z01 rfl (i := 3) rfl Z04)
 ·have h := Zg hc h
  refine SR <| Ac (Z0i rfl rfl (vt rfl) (vk rfl)) rfl <| As rfl <| Nl <| Cn rfl (fun hc => ?_) (fun hc => ?_)
  ·have h := Zf hc h
   refine AW.seq ?_
   obtain ⟨x8, hx8, h⟩ := Z1 h
   obtain ⟨x9, hx9, h⟩ := Z1 h
   obtain ⟨x10, hx10, h⟩ := Z1 h
   obtain ⟨x11, hx11, h⟩ := Z1 h
   refine Rg <| Cl [] (Zi6 _ hx8) e80 rfl <| Ac (Z11 (xs := [.const (Value.int IntKind.i64 12)]) (Zmo _ _ hx9) Zmd rfl rfl ⟨vk rfl, trivial⟩) rfl <| Ac (Z11 (xs := [.const (Value.int IntKind.i64 12)]) (Zmo _ _ hx10) Zmd rfl rfl ⟨vk rfl, trivial⟩) rfl <| Ac (Z11 (xs := [.tmp 23, .const (Value.int IntKind.i64 5), .tmp 24, .tmp 25]) (Zgt _ _ _ _ _ hx11) Ziy rfl rfl ⟨vt rfl, vk rfl, vt rfl, vt rfl, trivial⟩) rfl <| Zj Z04 3 rfl <| Nl <| AW.ret ?_
   obtain rfl := si h
   exact Zi Tryz.results272 rfl (Z01 rfl (i := 3) rfl Z04)
  ·have h := Zg hc h
   refine SR <| Ac (Z0i rfl rfl (vt rfl) (vk rfl)) rfl <| As rfl <| Nl <| Cn rfl (fun hc => ?_) (fun hc => ?_)
   ·have h := Zf hc h
    refine AW.seq ?_
    obtain ⟨x12, hx12, h⟩ := Z1 h
    obtain ⟨x13, hx13, h⟩ := Z1 h
    obtain ⟨x14, hx14, h⟩ := Z1 h
    refine Rg <| Cl [] (Zi6 _ hx12) e80 rfl <| Ac (Z00 (ps := []) (x := (⟨0, 0⟩ : Wide)) rfl rfl rfl (by kernel_rfl) Z1l rfl) rfl <| Ac (Z11 (xs := [.const (Value.int IntKind.i64 13)]) (Zod _ _ hx13) Zow rfl rfl ⟨vk rfl, trivial⟩) rfl <| Ac (Z11 (xs := [.tmp 29, .const (Value.int IntKind.i64 5), .tmp 30, .tmp 31]) (Zgt _ _ _ _ _ hx14) Ziy rfl rfl ⟨vt rfl, vk rfl, vt rfl, vt rfl, trivial⟩) rfl <| Ct rfl (Zq 5 rfl rfl Z36) ?_
    rintro _ ⟨g15, rfl⟩
    refine Zj Z04 5 rfl <| Nl <| AW.seq ?_
    obtain ⟨x16, hx16, h⟩ := Z1 h
    obtain ⟨x17, hx17, h⟩ := Z1 h
    refine AW.regionAny [⟨[4], [33], [5], []⟩, ⟨[], [34], [], []⟩, ⟨[], [35], [], []⟩, ⟨[33, 34, 35], [36], [], []⟩, ⟨[2, 36], [], [3], [3]⟩] Z05 (by kernel_rfl) <| Zo Z04 5 rfl <| Sc (lo [] [] rfl fun S hs hr => Z00 (ps := []) (x := (⟨0, 0⟩ : Wide)) rfl rfl rfl (by kernel_rfl) Z1l rfl) rfl <| Sc (lo [] [] rfl fun S hs hr => Z11 (xs := [.const (Value.int IntKind.i64 3)]) (Zod _ _ hx16) Zow rfl rfl ⟨vk rfl, trivial⟩) rfl <| Sc (lo [33, 34, 35] [] rfl fun S hs hr => Z11 (xs := [.tmp 33, .const (Value.int IntKind.i64 6), .tmp 34, .tmp 35]) (Zgt _ _ _ _ _ hx17) Ziy rfl rfl ⟨vt ((hs 33 rfl).trans rfl), vk rfl, vt ((hs 34 rfl).trans rfl), vt ((hs 35 rfl).trans rfl), trivial⟩) rfl <| SSt Z04 3 rfl <| AW.ret ?_
    obtain rfl := si h
    exact Zi Tryz.results272 rfl (Z01 rfl (i := 3) rfl Z04)
   ·have h := Zg hc h
    refine AW.skip <| AW.seq ?_
    obtain ⟨x18, hx18, h⟩ := Z1 h
    refine Rg <| Cl [] (Zi6 _ hx18) e80 rfl <| Zj Z04 3 rfl <| Nl <| AW.ret ?_
    obtain rfl := si h
    exact Zi Tryz.results272 rfl (Z01 rfl (i := 3) rfl Z04)
def Zdr (l12 : (List Atom)) (go1 : Z5 → (List Atom) → Int → Option ((List Atom) × Z5)) (b11 : Z5) (i14 : Int) (b19 : Atom) : Option ((List Atom) × Z5) :=
 (Z0u l12 [b19]).bind fun l20 => go1 b11 l20 (IntKind.i64.wrap (i14 + 1))
def Z5u (acts1 : (List Action)) : Nat → Z5 → (List Atom) → Int → Option ((List Atom) × Z5)
 | 0, _, _, _ => none
 | m15 + 1, b11, l12, i14 => (bif (decide (i14 < (acts1.length : Int))) then (lget acts1 i14).bind fun e16 => (bif (decide (e16.Kind = 0)) then (lget acts1 i14).bind fun e17 => (bif (decide (((⟨b11, false, e17.Port, 0⟩ : Atom).Port) = 4294967293)) then (lget acts1 i14).bind fun e22 => Zdr l12 (Z5u acts1 m15) b11 i14 { (⟨b11, false, e17.Port, 0⟩ : Atom) with Max := e22.Max } else Zdr l12 (Z5u acts1 m15) b11 i14 (⟨b11, false, e17.Port, 0⟩ : Atom)) else (bif (decide (e16.Kind = 22)) then (lget acts1 i14).bind fun e23 => (Z0u l12 [(⟨b11, true, e23.Group, 0⟩ : Atom)]).bind fun l24 => (Z5u acts1 m15) b11 l24 (IntKind.i64.wrap (i14 + 1)) else (lget acts1 i14).bind fun e26 => (Zhm e26).bind fun x27 => (Zft b11 x27).bind fun x28 => (Z5u acts1 m15) x28 l12 (IntKind.i64.wrap (i14 + 1)))) else some (l12, b11))
def Zd0 (acts1 : (List Action)) (r2 : Z5) : Option ((List Atom) × Z5) :=
 (Zby r2).bind fun x5 => Z5u acts1 ((((acts1.length : Int) : Int) - 0).toNat + 1) x5 [] 0
theorem Zxl (acts1 : (List Action)) (r2 : Z5) (r : ((List Atom) × Z5)) (h : Zd0 acts1 r2 = some r) : PCon Tryz.prog 211 [rd (Z4 Z6) acts1, rd (Z2 24 Z3) r2] (Z1h (rd (Z4 Z06) r.1) (rd (Z2 24 Z3) r.2)) := by
 refine PCon.of (Con.intro0 Tryz.func211 rfl Tryz.ntmps211 rfl fun w H => ?_)
 unfold Zd0 at h
 refine SR <| Ct rfl (Zn 4 rfl rfl (vt rfl)) ?_
 rintro _ ⟨g3, rfl⟩
 refine Ac (Z02 (A := rd (Z4 Z06) []) rfl rfl Z1u) rfl <| Ct rfl (Zq 6 rfl rfl Z36) ?_
 rintro _ ⟨g4, rfl⟩
 refine Nl <| AW.seq ?_
 obtain ⟨x5, hx5, h⟩ := Z1 h
 refine Rg <| Ld Z04 4 rfl <| Cl [9] (Zof _ _ hx5) Zo7 rfl <| Zj Z04 4 rfl <| Nl <| SR <| Ct rfl (Z4q 1001 (ps := []) (l := []) rfl rfl Z54 Z4o rfl rfl rfl rfl) ?_
 rintro _ ⟨v6, rfl⟩
 refine Aw rfl <| Nl <| AW.seq <| SR <| Ak rfl <| Nl <| AW.block <| AW.loopG (d := []) (ν := Nat × Z5 × (List Atom) × Int × Value) (fun n => True ∧ Z5u acts1 n.1 n.2.1 n.2.2.1 n.2.2.2.1 = some r) (fun n => n.1) (fun n => [(0, rd (Z4 Z6) acts1), (3, Z7 g3 (Lens.id (Z2 24 Z3))), (5, Z7 g4 (Lens.id (Z2 24 Z3))), (6, Ze n.2.2.2.2), (7, rd (Z0 .i64) n.2.2.2.1)]) (fun n => [(4, Z9 g3 101 (Z2 24 Z3) n.2.1), (6, Z9 g4 101 (Z2 24 Z3) (Vector.replicate 24 zTern)), (1001, Zb n.2.2.2.2 126 Z06 n.2.2.1)]) (((((acts1.length : Int) : Int) - 0).toNat + 1), x5, [], 0, v6) ⟨trivial, h⟩ (FX rfl) ?_
 rintro ⟨m15, b11, l12, i14, v13⟩ ⟨hsf1, h⟩
 change True at hsf1
 change Z5u acts1 m15 b11 l12 i14 = some r at h
 change AW _ _ _ ⟨Zw [(0, rd (Z4 Z6) acts1), (3, Z7 g3 (Lens.id (Z2 24 Z3))), (5, Z7 g4 (Lens.id (Z2 24 Z3))), (6, Ze v13), (7, rd (Z0 .i64) i14)], Zx [(4, Z9 g3 101 (Z2 24 Z3) b11), (6, Z9 g4 101 (Z2 24 Z3) (Vector.replicate 24 zTern)), (1001, Zb v13 126 Z06 l12)], _⟩
 cases m15 with
 | zero => cases h
 | succ m15 =>
  unfold Z5u at h
  generalize hgo1 : Z5u acts1 m15 = go1 at h
  refine AW.seq <| SR <| Md rfl <| Md rfl <| Ac (Z0x rfl rfl Z0e (vt rfl)) rfl <| Ac (Zp rfl rfl (vt rfl) (vt rfl)) rfl <| Nl <| Cn rfl (fun hc => ?_) (fun hc => ?_)
  ·have h := Zf hc h
   refine AW.skip <| AW.seq <| AW.block <| AW.seq ?_
   obtain ⟨e16, he16, h⟩ := Z1 h
   refine Rg <| Md rfl <| Md rfl <| Ac (Z0r rfl rfl Z0e (vt rfl) (vt rfl) he16) rfl <| Fp Z4d Z4s rfl <| Lp1 ty3 rfl <| Nl <| AW.block <| SR <| Ac (Z0i rfl rfl (vt rfl) (vk rfl)) rfl <| As rfl <| Nl <| Cn rfl (fun hc => ?_) (fun hc => ?_)
   ·have h := Zf hc h
    refine AW.seq ?_
    obtain ⟨e17, he17, h⟩ := Z1 h
    refine AW.regionAny [⟨[3], [32], [4], []⟩, ⟨[0], [33], [], []⟩, ⟨[7], [34], [], []⟩, ⟨[33, 34], [35], [], []⟩, ⟨[35], [36], [], []⟩, ⟨[36], [37], [], []⟩, ⟨[32, 37], [38], [], []⟩, ⟨[], [8], [], []⟩, ⟨[8, 38], [8], [], []⟩] Z05 (by kernel_rfl) <| Zo Z04 4 rfl <| Zu rfl <| Zu rfl <| Sc (lo [33, 34] [] rfl fun S hs hr => Z0r rfl rfl Z0e (vh hs 33 rfl rfl) (vh hs 34 rfl rfl) he17) rfl <| SFp Zf2 Zh2 rfl <| SLp ty3 rfl <| Sc (lo [32, 37] [] rfl fun S hs hr => Z00 (ps := [(0, .tmp 32), (2, .tmp 37)]) (x := (⟨b11, false, e17.Port, 0⟩ : Atom)) rfl rfl rfl (by kernel_rfl) Z4o ⟨_, _, Zj0, _, by kernel_rfl, (vh hs 32 rfl rfl), _, _, Z84, _, by kernel_rfl, (vh hs 37 rfl rfl), rfl⟩) rfl <| Sc (Z16 (us := [(8, Z2e 126 Z06 Zq3)]) (ur := []) [] [] rfl fun S hs hr => Z5w rfl rfl rfl Z4o) rfl <| Sc (Z16 (us := [(8, Z2e 126 Z06 (⟨b11, false, e17.Port, 0⟩ : Atom))]) (ur := []) [8, 38] [] rfl fun S hs hr => Z5r rfl rfl Zc5 ((hs 8 rfl).trans rfl) (vh hs 38 rfl rfl)) rfl <| AW.unpackP 8 9 rfl rfl fun g18 => ?_
    refine AW.join (d := []) (ν := Atom) (fun n => Zdr l12 go1 b11 i14 n = some r) (fun n => [(0, rd (Z4 Z6) acts1), (3, Z7 g3 (Lens.id (Z2 24 Z3))), (5, Z7 g4 (Lens.id (Z2 24 Z3))), (6, Ze v13), (7, rd (Z0 .i64) i14), (8, Z7 g18 (Lens.id Z06))]) (fun n => [(4, Z9 g3 101 (Z2 24 Z3) b11), (6, Z9 g4 101 (Z2 24 Z3) (Vector.replicate 24 zTern)), (9, Z9 g18 126 Z06 n), (1001, Zb v13 126 Z06 l12)]) ?hx2 ?hy2
    case hy2 =>
     intro b19 h
     unfold Zdr at h
     change AW _ _ _ ⟨Zw [(0, rd (Z4 Z6) acts1), (3, Z7 g3 (Lens.id (Z2 24 Z3))), (5, Z7 g4 (Lens.id (Z2 24 Z3))), (6, Ze v13), (7, rd (Z0 .i64) i14), (8, Z7 g18 (Lens.id Z06))], Zx [(4, Z9 g3 101 (Z2 24 Z3) b11), (6, Z9 g4 101 (Z2 24 Z3) (Vector.replicate 24 zTern)), (9, Z9 g18 126 Z06 b19), (1001, Zb v13 126 Z06 l12)], _⟩
     obtain ⟨l20, hl20, h⟩ := Z1 h
     refine Rg <| Mw rfl <| Ld Zc5 9 rfl <| Ac (Z2g (ps := [(0, .tmp 49)]) (l := [b19]) rfl rfl Z54 Z4o rfl rfl ⟨_, _, Lens.idx 1 Z06 0 (by decide), _, rfl, (vt rfl), rfl⟩ rfl) rfl <| Ct rfl (Z2m 1001 hl20 rfl rfl Z8s (vt rfl) rfl (vt rfl)) ?_
     rintro _ ⟨v21, rfl⟩
     refine Aw rfl <| Nl <| Rg <| Md rfl <| Ac (Z08 rfl rfl (vt rfl) (vk rfl)) rfl <| As rfl <| Nl ?_
     subst hgo1
     exact ⟨(m15, b11, l20, (IntKind.i64.wrap (i14 + 1)), v21), Nat.lt_succ_self _, ⟨trivial, h⟩, FX rfl⟩
    case hx2 =>
     refine SR <| Zl Z84 Zih rfl <| Ld ty3 9 rfl <| Ac (Z0i rfl rfl (vt rfl) (vk rfl)) rfl <| Nl <| Cn rfl (fun hc => ?_) (fun hc => ?_)
     ·have h := Zf hc h
      obtain ⟨e22, he22, h⟩ := Z1 h
      refine Rg <| Md rfl <| Md rfl <| Ac (Z0r rfl rfl Z0e (vt rfl) (vt rfl) he22) rfl <| Fp Zma Zo1 rfl <| Lp1 ty3 rfl <| Zl Zm4 Zr3 rfl <| Zj ty3 9 rfl <| Nl ?_
      exact ⟨{ (⟨b11, false, e17.Port, 0⟩ : Atom) with Max := e22.Max }, h, FX rfl⟩
     ·have h := Zg hc h
      refine AW.skip ?_
      exact ⟨(⟨b11, false, e17.Port, 0⟩ : Atom), h, FX rfl⟩
   ·have h := Zg hc h
    refine SR <| Ac (Z0i rfl rfl (vt rfl) (vk rfl)) rfl <| As rfl <| Nl <| Cn rfl (fun hc => ?_) (fun hc => ?_)
    ·have h := Zf hc h
     obtain ⟨e23, he23, h⟩ := Z1 h
     obtain ⟨l24, hl24, h⟩ := Z1 h
     refine AW.regionAny [⟨[6], [54], [], []⟩, ⟨[3], [55], [4], []⟩, ⟨[0], [56], [], []⟩, ⟨[7], [57], [], []⟩, ⟨[56, 57], [58], [], []⟩, ⟨[58], [59], [], []⟩, ⟨[59], [60], [], []⟩, ⟨[55, 60], [61], [], []⟩, ⟨[61], [62], [], []⟩, ⟨[54, 62], [63], [1001], [1001]⟩, ⟨[63], [63, 6], [1002], []⟩] Z05 (by kernel_rfl) <| SMw rfl <| Zo Z04 4 rfl <| Zu rfl <| Zu rfl <| Sc (lo [56, 57] [] rfl fun S hs hr => Z0r rfl rfl Z0e (vh hs 56 rfl rfl) (vh hs 57 rfl rfl) he23) rfl <| SFp Zm3 Zp0 rfl <| SLp ty3 rfl <| Sc (lo [55, 60] [] rfl fun S hs hr => Z00 (ps := [(0, .tmp 55), (1, .const (Value.bool true)), (2, .tmp 60)]) (x := (⟨b11, true, e23.Group, 0⟩ : Atom)) rfl rfl rfl (by kernel_rfl) Z4o ⟨_, _, Zj0, _, by kernel_rfl, (vh hs 55 rfl rfl), _, _, Zmr, _, by kernel_rfl, vb, _, _, Z84, _, by kernel_rfl, (vh hs 60 rfl rfl), rfl⟩) rfl <| Sc (lo [61] [] rfl fun S hs hr => Z2g (ps := [(0, .tmp 61)]) (l := [(⟨b11, true, e23.Group, 0⟩ : Atom)]) rfl rfl Z54 Z4o rfl rfl ⟨_, _, Lens.idx 1 Z06 0 (by decide), _, rfl, (vh hs 61 rfl rfl), rfl⟩ rfl) rfl <| Sc (Z16 (us := [(63, Z1p 126 Z06 l24)]) (ur := [(1001, emp)]) [54, 62] [1001] rfl fun S hs hr => Z7a 1001 hl24 rfl rfl rfl Z8s (vh hs 54 rfl rfl) ((hr 1001 rfl).trans rfl) (vh hs 62 rfl rfl)) rfl <| Sc (Z16 (us := [(63, top), (6, Z1p 126 Z06 l24)]) (ur := []) [63] [1002] rfl fun S hs hr => Ziv 1002 rfl rfl rfl rfl ((hs 63 rfl).trans rfl) ((hr 1002 rfl).trans rfl)) rfl <| AW.unpackR 6 1001 rfl rfl fun v25 => Rg <| Md rfl <| Ac (Z08 rfl rfl (vt rfl) (vk rfl)) rfl <| As rfl <| Nl ?_
     subst hgo1
     exact ⟨(m15, b11, l24, (IntKind.i64.wrap (i14 + 1)), v25), Nat.lt_succ_self _, ⟨trivial, h⟩, FX rfl⟩
    ·have h := Zg hc h
     obtain ⟨e26, he26, h⟩ := Z1 h
     obtain ⟨x27, hx27, h⟩ := Z1 h
     obtain ⟨x28, hx28, h⟩ := Z1 h
     refine AW.regionAny [⟨[3], [23], [4], []⟩, ⟨[0], [24], [], []⟩, ⟨[7], [25], [], []⟩, ⟨[24, 25], [26], [], []⟩, ⟨[26], [27], [], []⟩, ⟨[27], [28], [], []⟩, ⟨[23, 28], [29], [], []⟩, ⟨[3, 29], [], [4], [4]⟩] Z05 (by kernel_rfl) <| Zo Z04 4 rfl <| Zu rfl <| Zu rfl <| Sc (lo [24, 25] [] rfl fun S hs hr => Z0r rfl rfl Z0e (vh hs 24 rfl rfl) (vh hs 25 rfl rfl) he26) rfl <| SLp Z0n rfl <| SCl [27] (Y23 _ _ hx27) Y7d rfl <| SCl [23, 28] (Y08 _ _ _ hx28) Zwd rfl <| SSt Z04 4 rfl <| Rg <| Md rfl <| Ac (Z08 rfl rfl (vt rfl) (vk rfl)) rfl <| As rfl <| Nl ?_
     subst hgo1
     exact ⟨(m15, x28, l12, (IntKind.i64.wrap (i14 + 1)), v13), Nat.lt_succ_self _, ⟨trivial, h⟩, FX rfl⟩
  ·have h := Zg hc h
   refine AW.exit <| AW.seq <| AW.regionAny [⟨[6], [64], [], []⟩, ⟨[3], [65], [4], []⟩, ⟨[64], [4], [], []⟩, ⟨[5, 65], [], [6], [6]⟩] Z05 (by kernel_rfl) <| SMw rfl <| Zo Z04 4 rfl <| Sc (lo [64] [] rfl fun S hs hr => Z02 (A := Ze v13) rfl rfl (vh hs 64 rfl rfl)) rfl <| SSt Z04 6 rfl <| AW.freezes [4, 6, 64] 1001 rfl ⟨rfl, rfl, rfl, trivial⟩ rfl <| AW.ret ?_
   obtain rfl := si h
   exact Z25 Tryz.results211 rfl (Z8 rfl) (Z01 rfl (i := 6) rfl Z04)
def Zjo (a1 : Action) (b2 : Action) : Option Bool :=
 some ((decide (a1.Kind = b2.Kind)) && ((decide (a1.Kind ≠ 25)) || (decide (a1.Oxm.Field = b2.Oxm.Field))))
theorem Y7n (a1 : Action) (b2 : Action) (r : Bool) (h : Zjo a1 b2 = some r) : PCon Tryz.prog 224 [rd Z6 a1, rd Z6 b2] (rd Zc r) := by
 refine PCon.of (Con.intro0 Tryz.func224 rfl Tryz.ntmps224 rfl fun w H => ?_)
 unfold Zjo at h
 refine SR <| Ct rfl (Zn 3 rfl rfl (vt rfl)) ?_
 rintro _ ⟨g3, rfl⟩
 refine Ct rfl (Zn 4 rfl rfl (vt rfl)) ?_
 rintro _ ⟨g4, rfl⟩
 refine Ab rfl <| Nl <| SR <| Zl Z4d Z4s rfl <| Ld ty3 3 rfl <| Zl Z4d Z4s rfl <| Ld ty3 4 rfl <| Ac (Z0i rfl rfl (vt rfl) (vt rfl)) rfl <| Md rfl <| Gd rfl (fun hq => Z40 Z4d rfl rfl Z4s (vt rfl)) <| Gd rfl (fun hq => Z37 rfl rfl ty3 (Zs rfl hq) (i := 3) rfl) <| Gd rfl (fun hq => Z8m rfl rfl (Zs rfl hq) (vk rfl)) <| AOps.consG (OpG.guardX rfl rfl rfl rfl rfl fun hq => Zt (A := rd Zc (decide (a1.Kind ≠ 25))) rfl rfl (Zs rfl hq)) <| AOps.consG (OpG.guardN rfl rfl rfl rfl rfl fun hq => Z40 Z7l rfl rfl Z9v (vt rfl)) <| AOps.consG (OpG.guardN rfl rfl rfl rfl rfl fun hq => Z40 Z46 rfl rfl Z4l (Zs rfl hq)) <| AOps.consG (OpG.guardN rfl rfl rfl rfl rfl fun hq => Z37 rfl rfl ty3 (Zs rfl hq) (i := 3) rfl) <| AOps.consG (OpG.guardN rfl rfl rfl rfl rfl fun hq => Z40 Z7l rfl rfl Z9v (vt rfl)) <| AOps.consG (OpG.guardN rfl rfl rfl rfl rfl fun hq => Z40 Z46 rfl rfl Z4l (Zs rfl hq)) <| AOps.consG (OpG.guardN rfl rfl rfl rfl rfl fun hq => Z37 rfl rfl ty3 (Zs rfl hq) (i := 4) rfl) <| AOps.consG (OpG.guardN rfl rfl rfl rfl rfl fun hq => Z0i rfl rfl (Zs rfl hq) (Zs rfl hq)) <| Gd rfl (fun hq => Z68 rfl rfl (vgx rfl hq) (vgw rfl hq)) <| Ac (Z1w rfl rfl (vt rfl) (vt rfl)) rfl <| As rfl <| Nl <| AW.ret ?_
 obtain rfl := si h
 exact Zi Tryz.results224 rfl (Z8 rfl)
def Z87 (l9 : (List Action)) (l2 : (List Action)) (i11 : Int) (go1 : (List Action) → Int → Option (List Action)) : Nat → Int → Int → Option (List Action)
 | 0, _, _ => none
 | m17 + 1, at15, j16 => (bif (decide (j16 < (l9.length : Int))) then (opt (decide (at15 < 0)) (lget l9 j16)).bind fun e18 => (opt (decide (at15 < 0)) (lget l2 i11)).bind fun e19 => (opt (decide (at15 < 0)) (Zjo e18 e19)).bind fun x20 => (bif ((decide (at15 < 0)) && x20) then (Z87 l9 l2 i11 go1 m17) j16 (IntKind.i64.wrap (j16 + 1)) else (Z87 l9 l2 i11 go1 m17) at15 (IntKind.i64.wrap (j16 + 1))) else (bif (decide (at15 < 0)) then (lget l2 i11).bind fun e21 => (Z0u l9 [e21]).bind fun l22 => go1 l22 (IntKind.i64.wrap (i11 + 1)) else (lget l2 i11).bind fun e24 => (lget l9 at15).bind fun e25 => go1 (List.set l9 at15.toNat e24) (IntKind.i64.wrap (i11 + 1))))
def Z9o (l2 : (List Action)) : Nat → (List Action) → Int → Option (List Action)
 | 0, _, _ => none
 | m12 + 1, l9, i11 => (bif (decide (i11 < (l2.length : Int))) then Z87 l9 l2 i11 (Z9o l2 m12) ((((l9.length : Int) : Int) - 0).toNat + 1) (-1) 0 else some l9)
def Zja (set1 : (List Action)) (l2 : (List Action)) : Option (List Action) :=
 (Z0u [] set1).bind fun l4 => Z9o l2 ((((l2.length : Int) : Int) - 0).toNat + 1) l4 0
theorem Y6t (set1 : (List Action)) (l2 : (List Action)) (r : (List Action)) (h : Zja set1 l2 = some r) : PCon Tryz.prog 153 [rd (Z4 Z6) set1, rd (Z4 Z6) l2] (rd (Z4 Z6) r) := by
 refine PCon.of (Con.intro0 Tryz.func153 rfl Tryz.ntmps153 rfl fun w H => ?_)
 unfold Zja at h
 refine SR <| Ac (Z02 (A := rd (Z4 Z6) []) rfl rfl Z1u) rfl <| Nl <| AW.seq ?_
 obtain ⟨l4, hl4, h⟩ := Z1 h
 refine Rg <| Ct rfl (Z4q 1001 (ps := []) (l := []) rfl rfl Z0e Z51 rfl rfl rfl rfl) ?_
 rintro _ ⟨v3, rfl⟩
 refine Md rfl <| Ct rfl (Z2m 1001 hl4 rfl rfl Z7c (vt rfl) rfl (vt rfl)) ?_
 rintro _ ⟨v5, rfl⟩
 refine Aw rfl <| Nl <| AW.seq <| SR <| Ak rfl <| Nl <| AW.block <| AW.loopG (d := []) (ν := Nat × (List Action) × Int × Value) (fun n => True ∧ Z9o l2 n.1 n.2.1 n.2.2.1 = some r) (fun n => n.1) (fun n => [(1, rd (Z4 Z6) l2), (5, Ze n.2.2.2), (6, rd (Z0 .i64) n.2.2.1)]) (fun n => [(1001, Zb n.2.2.2 121 Z6 n.2.1)]) (((((l2.length : Int) : Int) - 0).toNat + 1), l4, 0, v5) ⟨trivial, h⟩ (FX rfl) ?_
 rintro ⟨m12, l9, i11, v10⟩ ⟨hsf1, h⟩
 change True at hsf1
 change Z9o l2 m12 l9 i11 = some r at h
 change AW _ _ _ ⟨Zw [(1, rd (Z4 Z6) l2), (5, Ze v10), (6, rd (Z0 .i64) i11)], Zx [(1001, Zb v10 121 Z6 l9)], _⟩
 cases m12 with
 | zero => cases h
 | succ m12 =>
  unfold Z9o at h
  generalize hgo1 : Z9o l2 m12 = go1 at h
  refine AW.seq <| SR <| Md rfl <| Md rfl <| Ac (Z0x rfl rfl Z0e (vt rfl)) rfl <| Ac (Zp rfl rfl (vt rfl) (vt rfl)) rfl <| Nl <| Cn rfl (fun hc => ?_) (fun hc => ?_)
  ·have h := Zf hc h
   refine AW.skip <| AW.seq <| AW.block <| SR <| Ak rfl <| Nl <| AW.seq <| SR <| Ak rfl <| Nl <| AW.block <| AW.loopG (d := []) (ν := Nat × Int × Int) (fun n => True ∧ Z87 l9 l2 i11 go1 n.1 n.2.1 n.2.2 = some r) (fun n => n.1) (fun n => [(1, rd (Z4 Z6) l2), (5, Ze v10), (6, rd (Z0 .i64) i11), (7, rd (Z0 .i64) n.2.1), (8, rd (Z0 .i64) n.2.2)]) (fun n => [(1001, Zb v10 121 Z6 l9)]) (((((l9.length : Int) : Int) - 0).toNat + 1), (-1), 0) ⟨trivial, h⟩ (FX rfl) ?_
   rintro ⟨m17, at15, j16⟩ ⟨hsf2, h⟩
   change True at hsf2
   change Z87 l9 l2 i11 go1 m17 at15 j16 = some r at h
   change AW _ _ _ ⟨Zw [(1, rd (Z4 Z6) l2), (5, Ze v10), (6, rd (Z0 .i64) i11), (7, rd (Z0 .i64) at15), (8, rd (Z0 .i64) j16)], Zx [(1001, Zb v10 121 Z6 l9)], _⟩
   cases m17 with
   | zero => cases h
   | succ m17 =>
    unfold Z87 at h
    generalize hgo2 : Z87 l9 l2 i11 go1 m17 = go2 at h
    refine AW.seq <| SR <| Md rfl <| Mw rfl <| Ac (Z5q 1001 rfl rfl Z0e (vt rfl) rfl) rfl <| Ac (Zp rfl rfl (vt rfl) (vt rfl)) rfl <| Nl <| Cn rfl (fun hc => ?_) (fun hc => ?_)
    ·have h := Zf hc h
     refine AW.skip <| AW.seq <| AW.block <| AW.seq ?_
     obtain ⟨e18, he18, h⟩ := Z1 h
     obtain ⟨e19, he19, h⟩ := Z1 h
     obtain ⟨x20, hx20, h⟩ := Z1 h
     refine AW.regionAny [⟨[7], [24], [], []⟩, ⟨[24], [25], [], []⟩, ⟨[25], [26], [], []⟩, ⟨[5, 26], [27], [], []⟩, ⟨[8, 26], [28], [], []⟩, ⟨[27, 28, 26], [29], [1001], []⟩, ⟨[29, 26], [30], [1001], []⟩, ⟨[1, 26], [31], [], []⟩, ⟨[6, 26], [32], [], []⟩, ⟨[31, 32, 26], [33], [], []⟩, ⟨[33, 26], [34], [], []⟩, ⟨[30, 34, 26], [35], [], []⟩, ⟨[35, 26], [36], [], []⟩] Z05 (by kernel_rfl) <| Zu rfl <| Sc (lo [24] [] rfl fun S hs hr => Zp rfl rfl (vh hs 24 rfl rfl) (vk rfl)) rfl <| Zu rfl <| Sc (lg [5, 26] [] rfl fun hq S hs hr => Zt (A := Ze v10) rfl rfl (vh hs 5 rfl rfl)) rfl <| Sc (lg [8, 26] [] rfl fun hq S hs hr => Zt (A := rd (Z0 .i64) j16) rfl rfl (vh hs 8 rfl rfl)) rfl <| Sc (lg [27, 28, 26] [1001] rfl fun hq S hs hr => Z1q 1001 rfl rfl Z0e (Zs ((hs 27 rfl).trans rfl) hq) ((hr 1001 rfl).trans rfl) (Zs ((hs 28 rfl).trans rfl) hq) (Z2b he18 hq)) rfl <| Sc (lg [29, 26] [1001] rfl fun hq S hs hr => Z1g 1001 rfl rfl Z0n (Zs ((hs 29 rfl).trans rfl) hq) ((hr 1001 rfl).trans rfl) (Z0g (Z2b he18 hq)).2) rfl <| Sc (lg [1, 26] [] rfl fun hq S hs hr => Zt (A := rd (Z4 Z6) l2) rfl rfl (vh hs 1 rfl rfl)) rfl <| Sc (lg [6, 26] [] rfl fun hq S hs hr => Zt (A := rd (Z0 .i64) i11) rfl rfl (vh hs 6 rfl rfl)) rfl <| Sc (lg [31, 32, 26] [] rfl fun hq S hs hr => Z0r rfl rfl Z0e (Zs ((hs 31 rfl).trans rfl) hq) (Zs ((hs 32 rfl).trans rfl) hq) (Z2b he19 hq)) rfl <| Sc (lg [33, 26] [] rfl fun hq S hs hr => Zar rfl rfl Z0n (Zs ((hs 33 rfl).trans rfl) hq)) rfl <| Sc (lg [30, 34, 26] [] rfl fun hq S hs hr => Z11 (xs := [.tmp 30, .tmp 34]) (Y7n _ _ _ (Z2b hx20 hq)) Yd9 rfl rfl ⟨Zs ((hs 30 rfl).trans rfl) hq, Zs ((hs 34 rfl).trans rfl) hq, trivial⟩) rfl <| Sc (lo [35, 26] [] rfl fun S hs hr => Z1w rfl rfl (vh hs 26 rfl rfl) (vh hs 35 rfl rfl)) rfl <| Cn rfl (fun hc => ?_) (fun hc => ?_)
     ·have h := Zf hc h
      refine Rg <| Md rfl <| As rfl <| Nl <| Rg <| Md rfl <| Ac (Z08 rfl rfl (vt rfl) (vk rfl)) rfl <| As rfl <| Nl ?_
      subst hgo2
      exact ⟨(m17, j16, (IntKind.i64.wrap (j16 + 1))), Nat.lt_succ_self _, ⟨trivial, h⟩, FX rfl⟩
     ·have h := Zg hc h
      refine AW.skip <| Rg <| Md rfl <| Ac (Z08 rfl rfl (vt rfl) (vk rfl)) rfl <| As rfl <| Nl ?_
      subst hgo2
      exact ⟨(m17, at15, (IntKind.i64.wrap (j16 + 1))), Nat.lt_succ_self _, ⟨trivial, h⟩, FX rfl⟩
    ·have h := Zg hc h
     refine AW.exit <| SR <| Md rfl <| Ac (Zp rfl rfl (vt rfl) (vk rfl)) rfl <| Nl <| Cn rfl (fun hc => ?_) (fun hc => ?_)
     ·have h := Zf hc h
      obtain ⟨e21, he21, h⟩ := Z1 h
      obtain ⟨l22, hl22, h⟩ := Z1 h
      refine Rg <| Mw rfl <| Md rfl <| Md rfl <| Ac (Z0r rfl rfl Z0e (vt rfl) (vt rfl) he21) rfl <| Lp1 Z0n rfl <| Ac (Z2g (ps := [(0, .tmp 44)]) (l := [e21]) rfl rfl Z0e Z51 rfl rfl ⟨_, _, Lens.idx 1 Z6 0 (by decide), _, rfl, (vt rfl), rfl⟩ rfl) rfl <| Ct rfl (Z2m 1001 hl22 rfl rfl Z7c (vt rfl) rfl (vt rfl)) ?_
      rintro _ ⟨v23, rfl⟩
      refine Aw rfl <| Nl <| Rg <| Md rfl <| Ac (Z08 rfl rfl (vt rfl) (vk rfl)) rfl <| As rfl <| Nl ?_
      subst hgo1
      exact ⟨(m12, l22, (IntKind.i64.wrap (i11 + 1)), v23), Nat.lt_succ_self _, ⟨trivial, h⟩, FX rfl⟩
     ·have h := Zg hc h
      obtain ⟨e24, he24, h⟩ := Z1 h
      obtain ⟨e25, he25, h⟩ := Z1 h
      refine Rg <| Mw rfl <| Md rfl <| Md rfl <| Md rfl <| Ac (Z0r rfl rfl Z0e (vt rfl) (vt rfl) he24) rfl <| Lp1 Z0n rfl <| Ac (Z1q 1001 rfl rfl Z0e (vt rfl) rfl (vt rfl) he25) rfl <| Ac (Z2h 1001 rfl rfl Z0n (vt rfl) rfl (Z0g he25).2 (vt rfl)) rfl <| Nl <| Rg <| Md rfl <| Ac (Z08 rfl rfl (vt rfl) (vk rfl)) rfl <| As rfl <| Nl ?_
      subst hgo1
      exact ⟨(m12, (List.set l9 at15.toNat e24), (IntKind.i64.wrap (i11 + 1)), v10), Nat.lt_succ_self _, ⟨trivial, h⟩, FX rfl⟩
  ·have h := Zg hc h
   refine AW.exit <| SR <| Mw rfl <| Aw rfl <| Nl <| AW.freezes [4, 5, 54] 1001 rfl ⟨rfl, rfl, rfl, trivial⟩ rfl <| AW.ret ?_
   obtain rfl := si h
   exact Zi Tryz.results153 rfl (Z8 rfl)
def Z8u (l1 : (List Action)) (kind2 : Int) : Nat → (List Action) → Int → Option (List Action)
 | 0, _, _ => none
 | m10 + 1, l7, i9 => (bif (decide (i9 < (l1.length : Int))) then (lget l1 i9).bind fun e11 => (bif (decide (e11.Kind = kind2)) then (lget l1 i9).bind fun e12 => (Z0u l7 [e12]).bind fun l13 => (Z8u l1 kind2 m10) l13 (IntKind.i64.wrap (i9 + 1)) else (Z8u l1 kind2 m10) l7 (IntKind.i64.wrap (i9 + 1))) else some l7)
def Z7k (l1 : (List Action)) (kind2 : Int) : Option (List Action) :=
 Z8u l1 kind2 ((((l1.length : Int) : Int) - 0).toNat + 1) [] 0
theorem Ztc (l1 : (List Action)) (kind2 : Int) (r : (List Action)) (h : Z7k l1 kind2 = some r) : Con Tryz.prog 227 [rd (Z4 Z6) l1, rd (Z0 .i64) kind2] emp (fun v => Ze v) (fun v => Zb v 121 Z6 r) := by
 refine Con.intro0 Tryz.func227 rfl Tryz.ntmps227 rfl fun w H => ?_
 unfold Z7k at h
 refine AW.seq <| AW.newnil 1001 121 Z6 <| Rg <| Ac (Z02 rfl rfl vc) rfl <| Nl <| SR <| Ct rfl (Z4q 1002 (ps := []) (l := []) rfl rfl Z0e Z51 rfl rfl rfl rfl) ?_
 rintro _ ⟨v3, rfl⟩
 refine Aw rfl <| Nl <| AW.seq <| SR <| Ak rfl <| Nl <| AW.block <| AW.loopG (d := []) (ν := Nat × (List Action) × Int × Value) (fun n => True ∧ Z8u l1 kind2 n.1 n.2.1 n.2.2.1 = some r) (fun n => n.1) (fun n => [(0, rd (Z4 Z6) l1), (1, rd (Z0 .i64) kind2), (5, Ze n.2.2.2), (6, rd (Z0 .i64) n.2.2.1)]) (fun n => [(1002, Zb n.2.2.2 121 Z6 n.2.1)]) (((((l1.length : Int) : Int) - 0).toNat + 1), [], 0, v3) ⟨trivial, h⟩ (FX rfl) ?_
 rintro ⟨m10, l7, i9, v8⟩ ⟨hsf1, h⟩
 change True at hsf1
 change Z8u l1 kind2 m10 l7 i9 = some r at h
 change AW _ _ _ ⟨Zw [(0, rd (Z4 Z6) l1), (1, rd (Z0 .i64) kind2), (5, Ze v8), (6, rd (Z0 .i64) i9)], Zx [(1002, Zb v8 121 Z6 l7)], _⟩
 cases m10 with
 | zero => cases h
 | succ m10 =>
  unfold Z8u at h
  generalize hgo1 : Z8u l1 kind2 m10 = go1 at h
  refine AW.seq <| SR <| Md rfl <| Md rfl <| Ac (Z0x rfl rfl Z0e (vt rfl)) rfl <| Ac (Zp rfl rfl (vt rfl) (vt rfl)) rfl <| Nl <| Cn rfl (fun hc => ?_) (fun hc => ?_)
  ·have h := Zf hc h
   refine AW.skip <| AW.seq <| AW.block <| AW.seq ?_
   obtain ⟨e11, he11, h⟩ := Z1 h
   refine Rg <| Md rfl <| Md rfl <| Ac (Z0r rfl rfl Z0e (vt rfl) (vt rfl) he11) rfl <| Fp Z4d Z4s rfl <| Lp1 ty3 rfl <| Md rfl <| Ac (Z0i rfl rfl (vt rfl) (vt rfl)) rfl <| Nl <| Cn rfl (fun hc => ?_) (fun hc => ?_)
   ·have h := Zf hc h
    obtain ⟨e12, he12, h⟩ := Z1 h
    obtain ⟨l13, hl13, h⟩ := Z1 h
    refine Rg <| Mw rfl <| Md rfl <| Md rfl <| Ac (Z0r rfl rfl Z0e (vt rfl) (vt rfl) he12) rfl <| Lp1 Z0n rfl <| Ac (Z2g (ps := [(0, .tmp 25)]) (l := [e12]) rfl rfl Z0e Z51 rfl rfl ⟨_, _, Lens.idx 1 Z6 0 (by decide), _, rfl, (vt rfl), rfl⟩ rfl) rfl <| Ct rfl (Z2m 1002 hl13 rfl rfl Z7c (vt rfl) rfl (vt rfl)) ?_
    rintro _ ⟨v14, rfl⟩
    refine Aw rfl <| Nl <| Rg <| Md rfl <| Ac (Z08 rfl rfl (vt rfl) (vk rfl)) rfl <| As rfl <| Nl ?_
    subst hgo1
    exact ⟨(m10, l13, (IntKind.i64.wrap (i9 + 1)), v14), Nat.lt_succ_self _, ⟨trivial, h⟩, FX rfl⟩
   ·have h := Zg hc h
    refine AW.skip <| Rg <| Md rfl <| Ac (Z08 rfl rfl (vt rfl) (vk rfl)) rfl <| As rfl <| Nl ?_
    subst hgo1
    exact ⟨(m10, l7, (IntKind.i64.wrap (i9 + 1)), v8), Nat.lt_succ_self _, ⟨trivial, h⟩, FX rfl⟩
  ·have h := Zg hc h
   refine AW.exit <| SR <| Mw rfl <| Aw rfl <| Nl <| AW.ret ?_
   obtain rfl := si h
   exact Z4n (i := 1002) Tryz.results227 rfl rfl rfl
theorem Zl3 (l1 : (List Action)) (kind2 : Int) (r : (List Action)) (h : Z7k l1 kind2 = some r) : PCon Tryz.prog 227 [rd (Z4 Z6) l1, rd (Z0 .i64) kind2] (rd (Z4 Z6) r) := PCon.of_row (Ztc l1 kind2 r h)
def Z88 (at11 : Int) (l1 : (List Action)) (i8 : Int) (go1 : (List Action) → Int → Option (List Action)) : Nat → (List Action) → Int → Option (List Action)
 | 0, _, _ => none
 | m21 + 1, l19, j20 => (bif (decide (j20 > at11)) then (lget l19 (IntKind.i64.wrap (j20 - 1))).bind fun e22 => (lget l19 j20).bind fun e23 => (Z88 at11 l1 i8 go1 m21) (List.set l19 j20.toNat e22) (IntKind.i64.wrap (j20 - 1)) else (lget l1 i8).bind fun e24 => (lget l19 at11).bind fun e25 => go1 (List.set l19 at11.toNat e24) (IntKind.i64.wrap (i8 + 1)))
def Z8v (l6 : (List Action)) (l1 : (List Action)) (i8 : Int) (go1 : (List Action) → Int → Option (List Action)) : Nat → Int → Option (List Action)
 | 0, _ => none
 | m12 + 1, at11 => (opt (decide (at11 > 0)) (lget l6 (IntKind.i64.wrap (at11 - 1)))).bind fun e13 => (opt (decide (at11 > 0)) (lget l1 i8)).bind fun e14 => (bif ((decide (at11 > 0)) && (decide (e13.Oxm.Field > e14.Oxm.Field))) then (Z8v l6 l1 i8 go1 m12) (IntKind.i64.wrap (at11 - 1)) else (Z0u l6 [(⟨0, 0, 0, 0, 0, Z5p⟩ : Action)]).bind fun l15 => Z88 at11 l1 i8 go1 ((((IntKind.i64.wrap ((l15.length : Int) - 1)) : Int) - at11).toNat + 1) l15 (IntKind.i64.wrap ((l15.length : Int) - 1)))
def Z9b (l1 : (List Action)) : Nat → (List Action) → Int → Option (List Action)
 | 0, _, _ => none
 | m9 + 1, l6, i8 => (bif (decide (i8 < (l1.length : Int))) then Z8v l6 l1 i8 (Z9b l1 m9) Z0y (l6.length : Int) else some l6)
def Zjj (l1 : (List Action)) : Option (List Action) :=
 Z9b l1 ((((l1.length : Int) : Int) - 0).toNat + 1) [] 0
theorem Yga (l1 : (List Action)) (r : (List Action)) (h : Zjj l1 = some r) : PCon Tryz.prog 228 [rd (Z4 Z6) l1] (rd (Z4 Z6) r) := by
 refine PCon.of (Con.intro0 Tryz.func228 rfl Tryz.ntmps228 rfl fun w H => ?_)
 unfold Zjj at h
 refine SR <| Ac (Z02 (A := rd (Z4 Z6) []) rfl rfl Z1u) rfl <| Nl <| SR <| Ct rfl (Z4q 1001 (ps := []) (l := []) rfl rfl Z0e Z51 rfl rfl rfl rfl) ?_
 rintro _ ⟨v2, rfl⟩
 refine Aw rfl <| Nl <| AW.seq <| SR <| Ak rfl <| Nl <| AW.block <| AW.loopG (d := []) (ν := Nat × (List Action) × Int × Value) (fun n => True ∧ Z9b l1 n.1 n.2.1 n.2.2.1 = some r) (fun n => n.1) (fun n => [(0, rd (Z4 Z6) l1), (3, Ze n.2.2.2), (4, rd (Z0 .i64) n.2.2.1)]) (fun n => [(1001, Zb n.2.2.2 121 Z6 n.2.1)]) (((((l1.length : Int) : Int) - 0).toNat + 1), [], 0, v2) ⟨trivial, h⟩ (FX rfl) ?_
 rintro ⟨m9, l6, i8, v7⟩ ⟨hsf1, h⟩
 change True at hsf1
 change Z9b l1 m9 l6 i8 = some r at h
 change AW _ _ _ ⟨Zw [(0, rd (Z4 Z6) l1), (3, Ze v7), (4, rd (Z0 .i64) i8)], Zx [(1001, Zb v7 121 Z6 l6)], _⟩
 cases m9 with
 | zero => cases h
 | succ m9 =>
  unfold Z9b at h
  generalize hgo1 : Z9b l1 m9 = go1 at h
  refine AW.seq <| SR <| Md rfl <| Md rfl <| Ac (Z0x rfl rfl Z0e (vt rfl)) rfl <| Ac (Zp rfl rfl (vt rfl) (vt rfl)) rfl <| Nl <| Cn rfl (fun hc => ?_) (fun hc => ?_)
  ·have h := Zf hc h
   refine AW.skip <| AW.seq <| AW.block <| SR <| Mw rfl <| Ac (Z5q 1001 rfl rfl Z0e (vt rfl) rfl) rfl <| As rfl <| Nl <| AW.seq <| AW.block <| AW.loopG (d := []) (ν := Nat × Int) (fun n => True ∧ Z8v l6 l1 i8 go1 n.1 n.2 = some r) (fun n => n.1) (fun n => [(0, rd (Z4 Z6) l1), (3, Ze v7), (4, rd (Z0 .i64) i8), (5, rd (Z0 .i64) n.2)]) (fun n => [(1001, Zb v7 121 Z6 l6)]) (Z0y, (l6.length : Int)) ⟨trivial, h⟩ (FX rfl) ?_
   rintro ⟨m12, at11⟩ ⟨hsf2, h⟩
   change True at hsf2
   change Z8v l6 l1 i8 go1 m12 at11 = some r at h
   change AW _ _ _ ⟨Zw [(0, rd (Z4 Z6) l1), (3, Ze v7), (4, rd (Z0 .i64) i8), (5, rd (Z0 .i64) at11)], Zx [(1001, Zb v7 121 Z6 l6)], _⟩
   cases m12 with
   | zero => cases h
   | succ m12 =>
    unfold Z8v at h
    generalize hgo2 : Z8v l6 l1 i8 go1 m12 = go2 at h
    refine AW.seq <| AW.seq ?_
    obtain ⟨e13, he13, h⟩ := Z1 h
    obtain ⟨e14, he14, h⟩ := Z1 h
    refine AW.regionAny [⟨[5], [16], [], []⟩, ⟨[16], [17], [], []⟩, ⟨[17], [18], [], []⟩, ⟨[3, 18], [19], [], []⟩, ⟨[5, 18], [20], [], []⟩, ⟨[20, 18], [21], [], []⟩, ⟨[19, 21, 18], [22], [1001], []⟩, ⟨[22, 18], [23], [], []⟩, ⟨[23, 18], [24], [], []⟩, ⟨[24, 18], [25], [1001], []⟩, ⟨[0, 18], [26], [], []⟩, ⟨[4, 18], [27], [], []⟩, ⟨[26, 27, 18], [28], [], []⟩, ⟨[28, 18], [29], [], []⟩, ⟨[29, 18], [30], [], []⟩, ⟨[30, 18], [31], [], []⟩, ⟨[25, 31, 18], [32], [], []⟩, ⟨[32, 18], [33], [], []⟩] Z05 (by kernel_rfl) <| Zu rfl <| Sc (lo [16] [] rfl fun S hs hr => Z3l rfl rfl (vh hs 16 rfl rfl) (vk rfl)) rfl <| Zu rfl <| Sc (lg [3, 18] [] rfl fun hq S hs hr => Zt (A := Ze v7) rfl rfl (vh hs 3 rfl rfl)) rfl <| Sc (lg [5, 18] [] rfl fun hq S hs hr => Zt (A := rd (Z0 .i64) at11) rfl rfl (vh hs 5 rfl rfl)) rfl <| Sc (lg [20, 18] [] rfl fun hq S hs hr => Z0j rfl rfl (Zs ((hs 20 rfl).trans rfl) hq) (vk rfl)) rfl <| Sc (lg [19, 21, 18] [1001] rfl fun hq S hs hr => Z1q 1001 rfl rfl Z0e (Zs ((hs 19 rfl).trans rfl) hq) ((hr 1001 rfl).trans rfl) (Zs ((hs 21 rfl).trans rfl) hq) (Z2b he13 hq)) rfl <| Sc (lg [22, 18] [] rfl fun hq S hs hr => Zae Z7l rfl rfl Z9v (Zs ((hs 22 rfl).trans rfl) hq)) rfl <| Sc (lg [23, 18] [] rfl fun hq S hs hr => Zae Z46 rfl rfl Z4l (Zs ((hs 23 rfl).trans rfl) hq)) rfl <| Sc (lg [24, 18] [1001] rfl fun hq S hs hr => Z1g 1001 rfl rfl ty3 (Zs ((hs 24 rfl).trans rfl) hq) ((hr 1001 rfl).trans rfl) (Z0g (Z2b he13 hq)).2) rfl <| Sc (lg [0, 18] [] rfl fun hq S hs hr => Zt (A := rd (Z4 Z6) l1) rfl rfl (vh hs 0 rfl rfl)) rfl <| Sc (lg [4, 18] [] rfl fun hq S hs hr => Zt (A := rd (Z0 .i64) i8) rfl rfl (vh hs 4 rfl rfl)) rfl <| Sc (lg [26, 27, 18] [] rfl fun hq S hs hr => Z0r rfl rfl Z0e (Zs ((hs 26 rfl).trans rfl) hq) (Zs ((hs 27 rfl).trans rfl) hq) (Z2b he14 hq)) rfl <| Sc (lg [28, 18] [] rfl fun hq S hs hr => Z6x Z7l rfl rfl Z9v (Zs ((hs 28 rfl).trans rfl) hq)) rfl <| Sc (lg [29, 18] [] rfl fun hq S hs hr => Z6x Z46 rfl rfl Z4l (Zs ((hs 29 rfl).trans rfl) hq)) rfl <| Sc (lg [30, 18] [] rfl fun hq S hs hr => Zar rfl rfl ty3 (Zs ((hs 30 rfl).trans rfl) hq)) rfl <| Sc (lg [25, 31, 18] [] rfl fun hq S hs hr => Z3l rfl rfl (Zs ((hs 25 rfl).trans rfl) hq) (Zs ((hs 31 rfl).trans rfl) hq)) rfl <| Sc (lo [32, 18] [] rfl fun S hs hr => Z1w rfl rfl (vh hs 18 rfl rfl) (vh hs 32 rfl rfl)) rfl <| Cn rfl (fun hc => ?_) (fun hc => ?_)
    ·have h := Zf hc h
     refine AW.skip <| AW.block <| Rg <| Md rfl <| Ac (Z0j rfl rfl (vt rfl) (vk rfl)) rfl <| As rfl <| Nl ?_
     subst hgo2
     exact ⟨(m12, (IntKind.i64.wrap (at11 - 1))), Nat.lt_succ_self _, ⟨trivial, h⟩, FX rfl⟩
    ·have h := Zg hc h
     refine AW.exit <| AW.seq ?_
     obtain ⟨l15, hl15, h⟩ := Z1 h
     refine Rg <| Mw rfl <| Ac (Z00 (ps := []) (x := (⟨0, 0, 0, 0, 0, Z5p⟩ : Action)) rfl rfl rfl (by kernel_rfl) Z51 rfl) rfl <| Ac (Z2g (ps := [(0, .tmp 37)]) (l := [(⟨0, 0, 0, 0, 0, Z5p⟩ : Action)]) rfl rfl Z0e Z51 rfl rfl ⟨_, _, Lens.idx 1 Z6 0 (by decide), _, rfl, (vt rfl), rfl⟩ rfl) rfl <| Ct rfl (Z2m 1001 hl15 rfl rfl Z7c (vt rfl) rfl (vt rfl)) ?_
     rintro _ ⟨v16, rfl⟩
     refine Aw rfl <| Nl <| AW.seq <| SR <| Mw rfl <| Ac (Z5q 1001 rfl rfl Z0e (vt rfl) rfl) rfl <| Ac (Z0j rfl rfl (vt rfl) (vk rfl)) rfl <| As rfl <| Nl <| AW.block <| AW.loopG (d := []) (ν := Nat × (List Action) × Int) (fun n => True ∧ Z88 at11 l1 i8 go1 n.1 n.2.1 n.2.2 = some r) (fun n => n.1) (fun n => [(0, rd (Z4 Z6) l1), (3, Ze v16), (4, rd (Z0 .i64) i8), (5, rd (Z0 .i64) at11), (6, rd (Z0 .i64) n.2.2)]) (fun n => [(1001, Zb v16 121 Z6 n.2.1)]) (((((IntKind.i64.wrap ((l15.length : Int) - 1)) : Int) - at11).toNat + 1), l15, (IntKind.i64.wrap ((l15.length : Int) - 1))) ⟨trivial, h⟩ (FX rfl) ?_
     rintro ⟨m21, l19, j20⟩ ⟨hsf3, h⟩
     change True at hsf3
     change Z88 at11 l1 i8 go1 m21 l19 j20 = some r at h
     change AW _ _ _ ⟨Zw [(0, rd (Z4 Z6) l1), (3, Ze v16), (4, rd (Z0 .i64) i8), (5, rd (Z0 .i64) at11), (6, rd (Z0 .i64) j20)], Zx [(1001, Zb v16 121 Z6 l19)], _⟩
     cases m21 with
     | zero => cases h
     | succ m21 =>
      unfold Z88 at h
      generalize hgo3 : Z88 at11 l1 i8 go1 m21 = go3 at h
      refine AW.seq <| SR <| Md rfl <| Md rfl <| Ac (Z3l rfl rfl (vt rfl) (vt rfl)) rfl <| Nl <| Cn rfl (fun hc => ?_) (fun hc => ?_)
      ·have h := Zf hc h
       refine AW.skip <| AW.seq <| AW.block ?_
       obtain ⟨e22, he22, h⟩ := Z1 h
       obtain ⟨e23, he23, h⟩ := Z1 h
       refine Rg <| Mw rfl <| Md rfl <| Mw rfl <| Md rfl <| Ac (Z0j rfl rfl (vt rfl) (vk rfl)) rfl <| Ac (Z1q 1001 rfl rfl Z0e (vt rfl) rfl (vt rfl) he22) rfl <| Ac (Z1g 1001 rfl rfl Z0n (vt rfl) rfl (Z0g he22).2) rfl <| Ac (Z1q 1001 rfl rfl Z0e (vt rfl) rfl (vt rfl) he23) rfl <| Ac (Z2h 1001 rfl rfl Z0n (vt rfl) rfl (Z0g he23).2 (vt rfl)) rfl <| Nl <| Rg <| Md rfl <| Ac (Z0j rfl rfl (vt rfl) (vk rfl)) rfl <| As rfl <| Nl ?_
       subst hgo3
       exact ⟨(m21, (List.set l19 j20.toNat e22), (IntKind.i64.wrap (j20 - 1))), Nat.lt_succ_self _, ⟨trivial, h⟩, FX rfl⟩
      ·have h := Zg hc h
       refine AW.exit ?_
       obtain ⟨e24, he24, h⟩ := Z1 h
       obtain ⟨e25, he25, h⟩ := Z1 h
       refine Rg <| Mw rfl <| Md rfl <| Md rfl <| Md rfl <| Ac (Z0r rfl rfl Z0e (vt rfl) (vt rfl) he24) rfl <| Lp1 Z0n rfl <| Ac (Z1q 1001 rfl rfl Z0e (vt rfl) rfl (vt rfl) he25) rfl <| Ac (Z2h 1001 rfl rfl Z0n (vt rfl) rfl (Z0g he25).2 (vt rfl)) rfl <| Nl <| Rg <| Md rfl <| Ac (Z08 rfl rfl (vt rfl) (vk rfl)) rfl <| As rfl <| Nl ?_
       subst hgo1
       exact ⟨(m9, (List.set l19 at11.toNat e24), (IntKind.i64.wrap (i8 + 1)), v16), Nat.lt_succ_self _, ⟨trivial, h⟩, FX rfl⟩
  ·have h := Zg hc h
   refine AW.exit <| SR <| Mw rfl <| Aw rfl <| Nl <| AW.freezes [2, 3, 63] 1001 rfl ⟨rfl, rfl, rfl, trivial⟩ rfl <| AW.ret ?_
   obtain rfl := si h
   exact Zi Tryz.results228 rfl (Z8 rfl)
def Zg5 (set1 : (List Action)) : Option (List Action) :=
 (Z7k set1 18).bind fun x2 => (Z7k set1 17).bind fun x4 => (Z0u x2 x4).bind fun l5 => (Z7k set1 25).bind fun x7 => (Zjj x7).bind fun x8 => (Z0u l5 x8).bind fun l9 => (Z7k set1 22).bind fun x11 => (bif (decide ((x11.length : Int) > 0)) then (Z0u l9 x11).bind fun l12 => some l12 else (Z7k set1 0).bind fun x14 => (Z0u l9 x14).bind fun l15 => some l15)
theorem Ycj (set1 : (List Action)) (r : (List Action)) (h : Zg5 set1 = some r) : PCon Tryz.prog 155 [rd (Z4 Z6) set1] (rd (Z4 Z6) r) := by
 refine PCon.of (Con.intro0 Tryz.func155 rfl Tryz.ntmps155 rfl fun w H => ?_)
 unfold Zg5 at h
 refine SR <| Ac (Z02 (A := rd (Z4 Z6) []) rfl rfl Z1u) rfl <| Nl <| AW.seq ?_
 obtain ⟨x2, hx2, h⟩ := Z1 h
 obtain ⟨x4, hx4, h⟩ := Z1 h
 obtain ⟨l5, hl5, h⟩ := Z1 h
 refine Rg <| Md rfl <| Ct rfl (Z1f 1001 (xs := [.tmp 5, .const (Value.int IntKind.i64 18)]) (Ztc _ _ _ hx2) Zif rfl rfl ⟨vt rfl, vk rfl, trivial⟩ rfl) ?_
 rintro _ ⟨v3, rfl⟩
 refine Md rfl <| Ac (Z11 (xs := [.tmp 7, .const (Value.int IntKind.i64 17)]) (Zl3 _ _ _ hx4) Zif rfl rfl ⟨vt rfl, vk rfl, trivial⟩) rfl <| Ct rfl (Z2m 1001 hl5 rfl rfl Z7c (vt rfl) rfl (vt rfl)) ?_
 rintro _ ⟨v6, rfl⟩
 refine Aw rfl <| Nl <| AW.seq ?_
 obtain ⟨x7, hx7, h⟩ := Z1 h
 obtain ⟨x8, hx8, h⟩ := Z1 h
 obtain ⟨l9, hl9, h⟩ := Z1 h
 refine Rg <| Mw rfl <| Md rfl <| Ac (Z11 (xs := [.tmp 11, .const (Value.int IntKind.i64 25)]) (Zl3 _ _ _ hx7) Zif rfl rfl ⟨vt rfl, vk rfl, trivial⟩) rfl <| Cl [12] (Yga _ _ hx8) Y6v rfl <| Ct rfl (Z2m 1001 hl9 rfl rfl Z7c (vt rfl) rfl (vt rfl)) ?_
 rintro _ ⟨v10, rfl⟩
 refine Aw rfl <| Nl <| AW.seq <| AW.seq ?_
 obtain ⟨x11, hx11, h⟩ := Z1 h
 refine Rg <| Md rfl <| Ac (Z11 (xs := [.tmp 15, .const (Value.int IntKind.i64 22)]) (Zl3 _ _ _ hx11) Zif rfl rfl ⟨vt rfl, vk rfl, trivial⟩) rfl <| As rfl <| Nl <| SR <| Md rfl <| Ac (Z0x rfl rfl Z0e (vt rfl)) rfl <| Ac (Z3l rfl rfl (vt rfl) (vk rfl)) rfl <| Nl <| Cn rfl (fun hc => ?_) (fun hc => ?_)
 ·have h := Zf hc h
  refine AW.seq ?_
  obtain ⟨l12, hl12, h⟩ := Z1 h
  refine Rg <| Mw rfl <| Md rfl <| Ct rfl (Z2m 1001 hl12 rfl rfl Z7c (vt rfl) rfl (vt rfl)) ?_
  rintro _ ⟨v13, rfl⟩
  refine Aw rfl <| Nl <| AW.freezes [2, 22] 1001 rfl ⟨rfl, rfl, trivial⟩ rfl <| AW.ret ?_
  obtain rfl := si h
  exact Zi Tryz.results155 rfl (Z8 rfl)
 ·have h := Zg hc h
  refine AW.skip <| AW.seq ?_
  obtain ⟨x14, hx14, h⟩ := Z1 h
  obtain ⟨l15, hl15, h⟩ := Z1 h
  refine Rg <| Mw rfl <| Md rfl <| Ac (Z11 (xs := [.tmp 24, .const (Value.int IntKind.i64 0)]) (Zl3 _ _ _ hx14) Zif rfl rfl ⟨vt rfl, vk rfl, trivial⟩) rfl <| Ct rfl (Z2m 1001 hl15 rfl rfl Z7c (vt rfl) rfl (vt rfl)) ?_
  rintro _ ⟨v16, rfl⟩
  refine Aw rfl <| Nl <| AW.freezes [2, 26] 1001 rfl ⟨rfl, rfl, trivial⟩ rfl <| AW.ret ?_
  obtain rfl := si h
  exact Zi Tryz.results155 rfl (Z8 rfl)
def Z6u (x12 : (List Int)) (table2 : Int) (s1 : Switch) (r4 : Z5) (cu3 : Z5) (R_r33_one : (Switch → Int → Flow → Z5 → Z5 → (List Atom) → (List Action) → Option (List Rule))) (atoms5 : (List Atom)) (set6 : (List Action)) : Nat → (List Rule) → Int → Option (List Rule)
 | 0, _, _ => none
 | m19 + 1, l16, i18 => (bif (decide (i18 < (x12.length : Int))) then (chk 4 table2).bind fun j20 => (lget x12 i18).bind fun e21 => (lget (Vector.get s1.Tables j20) e21).bind fun e22 => (Zje e22).bind fun x24 => (Zii r4 x24).bind fun x25 => (bif (!x25.2) then (Z6u x12 table2 s1 r4 cu3 R_r33_one atoms5 set6 m19) l16 (IntKind.i64.wrap (i18 + 1)) else (Zfl x25.1 cu3).bind fun x27 => (bif x27.2 then (R_r33_one s1 table2 e22 x27.1 r4 atoms5 set6).bind fun x29 => (Z0u l16 x29).bind fun l30 => (Z6u x12 table2 s1 r4 cu3 R_r33_one atoms5 set6 m19) l30 (IntKind.i64.wrap (i18 + 1)) else (Z6u x12 table2 s1 r4 cu3 R_r33_one atoms5 set6 m19) l16 (IntKind.i64.wrap (i18 + 1)))) else (Z0u [] atoms5).bind fun l33 => (Z0u l16 [(⟨cu3, l33⟩ : Rule)]).bind fun l34 => some l34)
def Zjl (R_r33_walk : (Switch → Int → Z5 → Z5 → (List Atom) → (List Action) → Option (List Rule))) (R_r33_one : (Switch → Int → Flow → Z5 → Z5 → (List Atom) → (List Action) → Option (List Rule))) (s1 : Switch) (table2 : Int) (cu3 : Z5) (r4 : Z5) (atoms5 : (List Atom)) (set6 : (List Action)) : Option (List Rule) :=
 (chk 4 table2).bind fun j11 => (Zit (Vector.get s1.Tables j11)).bind fun x12 => Z6u x12 table2 s1 r4 cu3 R_r33_one atoms5 set6 ((((x12.length : Int) : Int) - 0).toNat + 1) [] 0
theorem Yh3 (R_r33_walk : (Switch → Int → Z5 → Z5 → (List Atom) → (List Action) → Option (List Rule))) (hR_r33_walk : ∀ (s1 : Switch) (table2 : Int) (cu3 : Z5) (r4 : Z5) (atoms5 : (List Atom)) (set6 : (List Action)) (r : (List Rule)), R_r33_walk s1 table2 cu3 r4 atoms5 set6 = some r → PCon Tryz.prog 78 [rd Z0h s1, rd (Z0 .i64) table2, rd (Z2 24 Z3) cu3, rd (Z2 24 Z3) r4, rd (Z4 Z06) atoms5, rd (Z4 Z6) set6] (rd (Z4 Zy) r)) (R_r33_one : (Switch → Int → Flow → Z5 → Z5 → (List Atom) → (List Action) → Option (List Rule))) (hR_r33_one : ∀ (s1 : Switch) (table2 : Int) (f3 : Flow) (cu4 : Z5) (r5 : Z5) (atoms6 : (List Atom)) (set7 : (List Action)) (r : (List Rule)), R_r33_one s1 table2 f3 cu4 r5 atoms6 set7 = some r → PCon Tryz.prog 143 [rd Z0h s1, rd (Z0 .i64) table2, rd Z0f f3, rd (Z2 24 Z3) cu4, rd (Z2 24 Z3) r5, rd (Z4 Z06) atoms6, rd (Z4 Z6) set7] (rd (Z4 Zy) r)) (s1 : Switch) (table2 : Int) (cu3 : Z5) (r4 : Z5) (atoms5 : (List Atom)) (set6 : (List Action)) (r : (List Rule)) (h : Zjl R_r33_walk R_r33_one s1 table2 cu3 r4 atoms5 set6 = some r) : PCon Tryz.prog 78 [rd Z0h s1, rd (Z0 .i64) table2, rd (Z2 24 Z3) cu3, rd (Z2 24 Z3) r4, rd (Z4 Z06) atoms5, rd (Z4 Z6) set6] (rd (Z4 Zy) r) := by
 refine PCon.of (Con.intro0 Tryz.func78 rfl Tryz.ntmps78 rfl fun w H => ?_)
 unfold Zjl at h
 refine SR <| Ct rfl (Zn 7 rfl rfl (vt rfl)) ?_
 rintro _ ⟨g7, rfl⟩
 refine Ct rfl (Zn 9 rfl rfl (vt rfl)) ?_
 rintro _ ⟨g8, rfl⟩
 refine Ct rfl (Zn 10 rfl rfl (vt rfl)) ?_
 rintro _ ⟨g9, rfl⟩
 refine Ac (Z02 (A := rd (Z4 Zy) []) rfl rfl Z1u) rfl <| Nl <| SR <| Ct rfl (Z4q 1001 (ps := []) (l := []) rfl rfl Z2p Z48 rfl rfl rfl rfl) ?_
 rintro _ ⟨v10, rfl⟩
 refine Aw rfl <| Nl <| AW.seq ?_
 obtain ⟨j11, hj11, h⟩ := Z1 h
 obtain ⟨x12, hx12, h⟩ := Z1 h
 refine Rg <| Md rfl <| Zl Zf0 Zj8 rfl <| Ac (Z1b rfl rfl Zib (vt rfl) (vt rfl) hj11) rfl <| Ld Z6c 7 rfl <| Cl [24] (Ybc _ _ hx12) Y9u rfl <| As rfl <| Nl <| AW.seq <| SR <| Ak rfl <| Nl <| AW.block <| AW.loopG (d := []) (ν := Nat × (List Rule) × Int × Value) (fun n => True ∧ Z6u x12 table2 s1 r4 cu3 R_r33_one atoms5 set6 n.1 n.2.1 n.2.2.1 = some r) (fun n => n.1) (fun n => [(1, rd (Z0 .i64) table2), (4, rd (Z4 Z06) atoms5), (5, rd (Z4 Z6) set6), (6, Z7 g7 (Lens.id Z0h)), (8, Z7 g8 (Lens.id (Z2 24 Z3))), (9, Z7 g9 (Lens.id (Z2 24 Z3))), (13, Ze n.2.2.2), (14, rd (Z4 (Z0 .i64)) x12), (15, rd (Z0 .i64) n.2.2.1)]) (fun n => [(7, Z9 g7 26 Z0h s1), (9, Z9 g8 87 (Z2 24 Z3) cu3), (10, Z9 g9 101 (Z2 24 Z3) r4), (1001, Zb n.2.2.2 90 Zy n.2.1)]) (((((x12.length : Int) : Int) - 0).toNat + 1), [], 0, v10) ⟨trivial, h⟩ (FX rfl) ?_
 rintro ⟨m19, l16, i18, v17⟩ ⟨hsf1, h⟩
 change True at hsf1
 change Z6u x12 table2 s1 r4 cu3 R_r33_one atoms5 set6 m19 l16 i18 = some r at h
 change AW _ _ _ ⟨Zw [(1, rd (Z0 .i64) table2), (4, rd (Z4 Z06) atoms5), (5, rd (Z4 Z6) set6), (6, Z7 g7 (Lens.id Z0h)), (8, Z7 g8 (Lens.id (Z2 24 Z3))), (9, Z7 g9 (Lens.id (Z2 24 Z3))), (13, Ze v17), (14, rd (Z4 (Z0 .i64)) x12), (15, rd (Z0 .i64) i18)], Zx [(7, Z9 g7 26 Z0h s1), (9, Z9 g8 87 (Z2 24 Z3) cu3), (10, Z9 g9 101 (Z2 24 Z3) r4), (1001, Zb v17 90 Zy l16)], _⟩
 cases m19 with
 | zero => cases h
 | succ m19 =>
  unfold Z6u at h
  generalize hgo1 : Z6u x12 table2 s1 r4 cu3 R_r33_one atoms5 set6 m19 = go1 at h
  refine AW.seq <| SR <| Md rfl <| Md rfl <| Ac (Z0x rfl rfl Z0t (vt rfl)) rfl <| Ac (Zp rfl rfl (vt rfl) (vt rfl)) rfl <| Nl <| Cn rfl (fun hc => ?_) (fun hc => ?_)
  ·have h := Zf hc h
   refine AW.skip <| AW.seq <| AW.block <| AW.seq ?_
   obtain ⟨j20, hj20, h⟩ := Z1 h
   obtain ⟨e21, he21, h⟩ := Z1 h
   obtain ⟨e22, he22, h⟩ := Z1 h
   refine AW.regionAny [⟨[1], [32], [], []⟩, ⟨[6], [33], [], []⟩, ⟨[33, 32], [34], [], []⟩, ⟨[34], [35], [7], []⟩, ⟨[14], [36], [], []⟩, ⟨[15], [37], [], []⟩, ⟨[36, 37], [38], [], []⟩, ⟨[38], [39], [], []⟩, ⟨[35, 39], [40], [], []⟩, ⟨[40], [41], [], []⟩, ⟨[], [16], [], []⟩, ⟨[16, 41], [16], [], []⟩] Z05 (by kernel_rfl) <| Zu rfl <| SFd Zf0 Zj8 rfl <| Sc (lo [33, 32] [] rfl fun S hs hr => Z1b rfl rfl Zib (vh hs 33 rfl rfl) (vh hs 32 rfl rfl) hj20) rfl <| Zo Z6c 7 rfl <| Zu rfl <| Zu rfl <| Sc (lo [36, 37] [] rfl fun S hs hr => Z0r rfl rfl Z0t (vh hs 36 rfl rfl) (vh hs 37 rfl rfl) he21) rfl <| SLp ty3 rfl <| Sc (lo [35, 39] [] rfl fun S hs hr => Z0r rfl rfl Z4y (vh hs 35 rfl rfl) (vh hs 39 rfl rfl) he22) rfl <| SLp Z7s rfl <| Sc (Z16 (us := [(16, Z2e 61 Z0f Zqo)]) (ur := []) [] [] rfl fun S hs hr => Z5w rfl rfl rfl Y0s) rfl <| Sc (Z16 (us := [(16, Z2e 61 Z0f e22)]) (ur := []) [16, 41] [] rfl fun S hs hr => Z5r rfl rfl Z7s ((hs 16 rfl).trans rfl) (vh hs 41 rfl rfl)) rfl <| AW.unpackP 16 17 rfl rfl fun g23 => AW.seq ?_
   obtain ⟨x24, hx24, h⟩ := Z1 h
   obtain ⟨x25, hx25, h⟩ := Z1 h
   refine AW.regionAny [⟨[9], [43], [10], []⟩, ⟨[16], [44], [17], []⟩, ⟨[44], [45], [], []⟩, ⟨[43, 45], [46], [], []⟩, ⟨[46], [42], [], []⟩, ⟨[42], [47], [], []⟩, ⟨[42], [48], [], []⟩, ⟨[], [17], [], []⟩, ⟨[17, 47], [17], [], []⟩, ⟨[48], [18], [], []⟩] Z05 (by kernel_rfl) <| Zo Z04 10 rfl <| Zo Z7s 17 rfl <| SCl [44] (Yb2 _ _ hx24) Y1u rfl <| SCl [43, 45] (Yck _ _ _ hx25) Ygz rfl <| Sc (lo [46] [] rfl fun S hs hr => Zt (A := Z1h (rd (Z2 24 Z3) x25.1) (rd Zc x25.2)) rfl rfl (vh hs 46 rfl rfl)) rfl <| Sc (lo [42] [] rfl fun S hs hr => Z1s rfl rfl (vh hs 42 rfl rfl)) rfl <| Sc (lo [42] [] rfl fun S hs hr => Z1t rfl rfl (vh hs 42 rfl rfl)) rfl <| Sc (Z16 (us := [(17, Z2e 87 (Z2 24 Z3) (Vector.replicate 24 zTern))]) (ur := []) [] [] rfl fun S hs hr => Z5w rfl rfl rfl Z15) rfl <| Sc (Z16 (us := [(17, Z2e 87 (Z2 24 Z3) x25.1)]) (ur := []) [17, 47] [] rfl fun S hs hr => Z5r rfl rfl Z03 ((hs 17 rfl).trans rfl) (vh hs 47 rfl rfl)) rfl <| SAs rfl <| AW.unpackP 17 18 rfl rfl fun g26 => AW.seq <| SR <| Md rfl <| Ac (Z19 rfl rfl (vt rfl)) rfl <| Nl <| Cn rfl (fun hc => ?_) (fun hc => ?_)
   ·have h := Zf hc h
    refine AW.exit <| Rg <| Md rfl <| Ac (Z08 rfl rfl (vt rfl) (vk rfl)) rfl <| As rfl <| Nl ?_
    subst hgo1
    exact ⟨(m19, l16, (IntKind.i64.wrap (i18 + 1)), v17), Nat.lt_succ_self _, ⟨trivial, h⟩, FX rfl⟩
   ·have h := Zg hc h
    refine AW.skip <| AW.seq ?_
    obtain ⟨x27, hx27, h⟩ := Z1 h
    refine Rg <| Ld Z03 18 rfl <| Ld Z03 9 rfl <| Cl [52, 53] (Zua _ _ _ hx27) Zx5 rfl <| Mt2 rfl <| Ac (Z1s rfl rfl (vt rfl)) rfl <| Ac (Z1t rfl rfl (vt rfl)) rfl <| Ct rfl (Zq 20 rfl rfl Z15) ?_
    rintro _ ⟨g28, rfl⟩
    refine Zj Z03 20 rfl <| As rfl <| Nl <| SR <| Md rfl <| Nl <| Cn rfl (fun hc => ?_) (fun hc => ?_)
    ·have h := Zf hc h
     obtain ⟨x29, hx29, h⟩ := Z1 h
     obtain ⟨l30, hl30, h⟩ := Z1 h
     refine Rg <| Mw rfl <| Ld Z5z 7 rfl <| Md rfl <| Ld Z7s 17 rfl <| Ld Z03 20 rfl <| Ld Z04 10 rfl <| Md rfl <| Md rfl <| Cl [59, 60, 61, 62, 63, 64, 65] (hR_r33_one _ _ _ _ _ _ _ _ hx29) Y1r rfl <| Ct rfl (Z2m 1001 hl30 rfl rfl Zhn (vt rfl) rfl (vt rfl)) ?_
     rintro _ ⟨v31, rfl⟩
     refine Aw rfl <| Nl <| Rg <| Md rfl <| Ac (Z08 rfl rfl (vt rfl) (vk rfl)) rfl <| As rfl <| Nl ?_
     subst hgo1
     exact ⟨(m19, l30, (IntKind.i64.wrap (i18 + 1)), v31), Nat.lt_succ_self _, ⟨trivial, h⟩, FX rfl⟩
    ·have h := Zg hc h
     refine AW.skip <| Rg <| Md rfl <| Ac (Z08 rfl rfl (vt rfl) (vk rfl)) rfl <| As rfl <| Nl ?_
     subst hgo1
     exact ⟨(m19, l16, (IntKind.i64.wrap (i18 + 1)), v17), Nat.lt_succ_self _, ⟨trivial, h⟩, FX rfl⟩
  ·have h := Zg hc h
   refine AW.exit <| AW.seq ?_
   obtain ⟨l33, hl33, h⟩ := Z1 h
   obtain ⟨l34, hl34, h⟩ := Z1 h
   refine AW.regionAny [⟨[13], [68], [], []⟩, ⟨[8], [69], [9], []⟩, ⟨[], [70], [1003], []⟩, ⟨[4], [71], [], []⟩, ⟨[70, 71], [70, 72], [1004], []⟩, ⟨[69, 72], [73], [], []⟩, ⟨[73], [74], [], []⟩, ⟨[68, 74], [75], [1001], [1001]⟩, ⟨[75], [75, 12], [1005], []⟩] Z05 (by kernel_rfl) <| SMw rfl <| Zo Z03 9 rfl <| Sc (Z16 (us := [(70, Z1p 126 Z06 ([] : List Atom))]) (ur := []) [] [1003] rfl fun S hs hr => Y21 (Z4q 1003 (ps := []) (l := []) rfl rfl Z54 Z4o rfl rfl rfl rfl) rfl ((hr 1003 rfl).trans rfl)) rfl <| Zu rfl <| Sc (Z16 (us := [(70, top), (72, rd (Z4 Z06) l33)]) (ur := []) [70, 71] [1004] rfl fun S hs hr => Yg5 1004 rfl hl33 rfl rfl rfl Z8s ((hs 70 rfl).trans rfl) ((hr 1004 rfl).trans rfl) (fun v => vtS rfl ((hs 71 rfl).trans rfl))) rfl <| Sc (lo [69, 72] [] rfl fun S hs hr => Z00 (ps := [(0, .tmp 69), (1, .tmp 72)]) (x := (⟨cu3, l33⟩ : Rule)) rfl rfl rfl (by kernel_rfl) Z48 ⟨_, _, Z6b, _, by kernel_rfl, (vh hs 69 rfl rfl), _, _, Zad, _, by kernel_rfl, (vh hs 72 rfl rfl), rfl⟩) rfl <| Sc (lo [73] [] rfl fun S hs hr => Z2g (ps := [(0, .tmp 73)]) (l := [(⟨cu3, l33⟩ : Rule)]) rfl rfl Z2p Z48 rfl rfl ⟨_, _, Lens.idx 1 Zy 0 (by decide), _, rfl, (vh hs 73 rfl rfl), rfl⟩ rfl) rfl <| Sc (Z16 (us := [(75, Z1p 90 Zy l34)]) (ur := [(1001, emp)]) [68, 74] [1001] rfl fun S hs hr => Z7a 1001 hl34 rfl rfl rfl Zhn (vh hs 68 rfl rfl) ((hr 1001 rfl).trans rfl) (vh hs 74 rfl rfl)) rfl <| Sc (Z16 (us := [(75, top), (12, Z1p 90 Zy l34)]) (ur := []) [75] [1005] rfl fun S hs hr => Ziv 1005 rfl rfl rfl rfl ((hs 75 rfl).trans rfl) ((hr 1005 rfl).trans rfl)) rfl <| AW.unpackR 12 1001 rfl rfl fun v35 => AW.freezes [12] 1001 rfl ⟨rfl, trivial⟩ rfl <| AW.ret ?_
   obtain rfl := si h
   exact Zi Tryz.results78 rfl (Z8 rfl)
end Go.Proofs.YtknpgojdkobgjaaGreat.W
set_option maxRecDepth 4000
namespace Go.Proofs.YtknpgojdkobgjaaGreat.W
open Go Go.Wb
theorem Zhy : Ent Tryz.prog 151 := Ent.mk Tryz.func151 rfl rfl
theorem e78 : Ent Tryz.prog 78 := Ent.mk Tryz.func78 rfl rfl
theorem Yfa : Ent Tryz.prog 155 := Ent.mk Tryz.func155 rfl rfl
theorem Zxs : Ent Tryz.prog 211 := Ent.mk Tryz.func211 rfl rfl
theorem Y8l : Ent Tryz.prog 153 := Ent.mk Tryz.func153 rfl rfl
theorem e79 : Ent Tryz.prog 79 := Ent.mk Tryz.func79 rfl rfl
theorem e20 : Ent Tryz.prog 20 := Ent.mk Tryz.func20 rfl rfl
theorem e21 : Ent Tryz.prog 21 := Ent.mk Tryz.func21 rfl rfl
theorem e23 : Ent Tryz.prog 23 := Ent.mk Tryz.func23 rfl rfl
theorem e24 : Ent Tryz.prog 24 := Ent.mk Tryz.func24 rfl rfl
theorem e26 : Ent Tryz.prog 26 := Ent.mk Tryz.func26 rfl rfl
def Zde (f3 : Flow) (table2 : Int) (R_r33_walk : (Switch → Int → Z5 → Z5 → (List Atom) → (List Action) → Option (List Rule))) (s1 : Switch) (cu4 : Z5) (l15 : (List Atom)) (set19 : (List Action)) (b20 : Z5) : Option (List Rule) :=
 (Z8o f3.Insts 1).bind fun x21 => (bif ((x21.2 && (decide (x21.1.Table > table2))) && (decide (x21.1.Table < 4))) then (R_r33_walk s1 x21.1.Table cu4 b20 l15 set19).bind fun x23 => some x23 else (Zg5 set19).bind fun x24 => (Zd0 x24 b20).bind fun x25 => (Z0u l15 x25.1).bind fun l27 => some [(⟨cu4, l27⟩ : Rule)])
def Zfs (f3 : Flow) (b17 : Z5) (table2 : Int) (R_r33_walk : (Switch → Int → Z5 → Z5 → (List Atom) → (List Action) → Option (List Rule))) (s1 : Switch) (cu4 : Z5) (l15 : (List Atom)) (set19 : (List Action)) : Option (List Rule) :=
 (Z8o f3.Insts 2).bind fun x28 => (bif x28.2 then (Z8n b17 1 x28.1.Value x28.1.Mask).bind fun x30 => Zde f3 table2 R_r33_walk s1 cu4 l15 set19 x30 else Zde f3 table2 R_r33_walk s1 cu4 l15 set19 b17)
def Zfu (f3 : Flow) (b17 : Z5) (table2 : Int) (R_r33_walk : (Switch → Int → Z5 → Z5 → (List Atom) → (List Action) → Option (List Rule))) (s1 : Switch) (cu4 : Z5) (l15 : (List Atom)) (set18 : (List Action)) : Option (List Rule) :=
 (Z8o f3.Insts 3).bind fun x31 => (bif x31.2 then (Zja set18 x31.1.Acts).bind fun x33 => Zfs f3 b17 table2 R_r33_walk s1 cu4 l15 x33 else Zfs f3 b17 table2 R_r33_walk s1 cu4 l15 set18)
def Zfj (f3 : Flow) (table2 : Int) (R_r33_walk : (Switch → Int → Z5 → Z5 → (List Atom) → (List Action) → Option (List Rule))) (s1 : Switch) (cu4 : Z5) (set7 : (List Action)) (l15 : (List Atom)) (b17 : Z5) : Option (List Rule) :=
 (Z8o f3.Insts 5).bind fun x34 => (bif x34.2 then Zfu f3 b17 table2 R_r33_walk s1 cu4 l15 [] else Zfu f3 b17 table2 R_r33_walk s1 cu4 l15 set7)
def Ze2 (R_r33_walk : (Switch → Int → Z5 → Z5 → (List Atom) → (List Action) → Option (List Rule))) (R_r33_one : (Switch → Int → Flow → Z5 → Z5 → (List Atom) → (List Action) → Option (List Rule))) (s1 : Switch) (table2 : Int) (f3 : Flow) (cu4 : Z5) (r5 : Z5) (atoms6 : (List Atom)) (set7 : (List Action)) : Option (List Rule) :=
 (Z0u [] atoms6).bind fun l13 => (Z8o f3.Insts 4).bind fun x36 => (bif x36.2 then (Zd0 x36.1.Acts r5).bind fun x38 => (Z0u l13 x38.1).bind fun l40 => Zfj f3 table2 R_r33_walk s1 cu4 set7 l40 x38.2 else Zfj f3 table2 R_r33_walk s1 cu4 set7 l13 r5)
theorem Ya5 (R_r33_walk : (Switch → Int → Z5 → Z5 → (List Atom) → (List Action) → Option (List Rule))) (hR_r33_walk : ∀ (s1 : Switch) (table2 : Int) (cu3 : Z5) (r4 : Z5) (atoms5 : (List Atom)) (set6 : (List Action)) (r : (List Rule)), R_r33_walk s1 table2 cu3 r4 atoms5 set6 = some r → PCon Tryz.prog 78 [rd Z0h s1, rd (Z0 .i64) table2, rd (Z2 24 Z3) cu3, rd (Z2 24 Z3) r4, rd (Z4 Z06) atoms5, rd (Z4 Z6) set6] (rd (Z4 Zy) r)) (R_r33_one : (Switch → Int → Flow → Z5 → Z5 → (List Atom) → (List Action) → Option (List Rule))) (hR_r33_one : ∀ (s1 : Switch) (table2 : Int) (f3 : Flow) (cu4 : Z5) (r5 : Z5) (atoms6 : (List Atom)) (set7 : (List Action)) (r : (List Rule)), R_r33_one s1 table2 f3 cu4 r5 atoms6 set7 = some r → PCon Tryz.prog 143 [rd Z0h s1, rd (Z0 .i64) table2, rd Z0f f3, rd (Z2 24 Z3) cu4, rd (Z2 24 Z3) r5, rd (Z4 Z06) atoms6, rd (Z4 Z6) set7] (rd (Z4 Zy) r)) (s1 : Switch) (table2 : Int) (f3 : Flow) (cu4 : Z5) (r5 : Z5) (atoms6 : (List Atom)) (set7 : (List Action)) (r : (List Rule)) (h : Ze2 R_r33_walk R_r33_one s1 table2 f3 cu4 r5 atoms6 set7 = some r) : PCon Tryz.prog 143 [rd Z0h s1, rd (Z0 .i64) table2, rd Z0f f3, rd (Z2 24 Z3) cu4, rd (Z2 24 Z3) r5, rd (Z4 Z06) atoms6, rd (Z4 Z6) set7] (rd (Z4 Zy) r) := by
 refine PCon.of (Con.intro0 Tryz.func143 rfl Tryz.ntmps143 rfl fun w H => ?_)
 unfold Ze2 at h
 refine SR <| Ct rfl (Zn 8 rfl rfl (vt rfl)) ?_
 rintro _ ⟨g8, rfl⟩
 refine Ct rfl (Zn 10 rfl rfl (vt rfl)) ?_
 rintro _ ⟨g9, rfl⟩
 refine Ct rfl (Zn 11 rfl rfl (vt rfl)) ?_
 rintro _ ⟨g10, rfl⟩
 refine Ct rfl (Zn 12 rfl rfl (vt rfl)) ?_
 rintro _ ⟨g11, rfl⟩
 refine Ac (Z02 (A := rd (Z4 Zy) []) rfl rfl Z1u) rfl <| Nl <| AW.seq ?_
 obtain ⟨l13, hl13, h⟩ := Z1 h
 refine Rg <| Ct rfl (Z4q 1001 (ps := []) (l := []) rfl rfl Z54 Z4o rfl rfl rfl rfl) ?_
 rintro _ ⟨v12, rfl⟩
 refine Md rfl <| Ct rfl (Z2m 1001 hl13 rfl rfl Z8s (vt rfl) rfl (vt rfl)) ?_
 rintro _ ⟨v14, rfl⟩
 refine Aw rfl <| Nl ?_
 refine AW.join (d := []) (ν := (List Atom) × Z5 × Value) (fun n => Zfj f3 table2 R_r33_walk s1 cu4 set7 n.1 n.2.1 = some r) (fun n => [(1, rd (Z0 .i64) table2), (5, Ze n.2.2), (6, rd (Z4 Z6) set7), (7, Z7 g8 (Lens.id Z0h)), (9, Z7 g9 (Lens.id Z0f)), (10, Z7 g10 (Lens.id (Z2 24 Z3))), (11, Z7 g11 (Lens.id (Z2 24 Z3)))]) (fun n => [(8, Z9 g8 26 Z0h s1), (10, Z9 g9 61 Z0f f3), (11, Z9 g10 87 (Z2 24 Z3) cu4), (12, Z9 g11 101 (Z2 24 Z3) n.2.1), (1001, Zb n.2.2 126 Z06 n.1)]) ?hx1 ?hy1
 case hy1 =>
  rintro ⟨l15, b17, v16⟩ h
  unfold Zfj at h
  change AW _ _ _ ⟨Zw [(1, rd (Z0 .i64) table2), (5, Ze v16), (6, rd (Z4 Z6) set7), (7, Z7 g8 (Lens.id Z0h)), (9, Z7 g9 (Lens.id Z0f)), (10, Z7 g10 (Lens.id (Z2 24 Z3))), (11, Z7 g11 (Lens.id (Z2 24 Z3)))], Zx [(8, Z9 g8 26 Z0h s1), (10, Z9 g9 61 Z0f f3), (11, Z9 g10 87 (Z2 24 Z3) cu4), (12, Z9 g11 101 (Z2 24 Z3) b17), (1001, Zb v16 126 Z06 l15)], _⟩
  refine AW.join (d := []) (ν := (List Action)) (fun n => Zfu f3 b17 table2 R_r33_walk s1 cu4 l15 n = some r) (fun n => [(1, rd (Z0 .i64) table2), (5, Ze v16), (6, rd (Z4 Z6) n), (7, Z7 g8 (Lens.id Z0h)), (9, Z7 g9 (Lens.id Z0f)), (10, Z7 g10 (Lens.id (Z2 24 Z3))), (11, Z7 g11 (Lens.id (Z2 24 Z3)))]) (fun n => [(8, Z9 g8 26 Z0h s1), (10, Z9 g9 61 Z0f f3), (11, Z9 g10 87 (Z2 24 Z3) cu4), (12, Z9 g11 101 (Z2 24 Z3) b17), (1001, Zb v16 126 Z06 l15)]) ?hx2 ?hy2
  case hy2 =>
   intro set18 h
   unfold Zfu at h
   change AW _ _ _ ⟨Zw [(1, rd (Z0 .i64) table2), (5, Ze v16), (6, rd (Z4 Z6) set18), (7, Z7 g8 (Lens.id Z0h)), (9, Z7 g9 (Lens.id Z0f)), (10, Z7 g10 (Lens.id (Z2 24 Z3))), (11, Z7 g11 (Lens.id (Z2 24 Z3)))], Zx [(8, Z9 g8 26 Z0h s1), (10, Z9 g9 61 Z0f f3), (11, Z9 g10 87 (Z2 24 Z3) cu4), (12, Z9 g11 101 (Z2 24 Z3) b17), (1001, Zb v16 126 Z06 l15)], _⟩
   refine AW.join (d := []) (ν := (List Action)) (fun n => Zfs f3 b17 table2 R_r33_walk s1 cu4 l15 n = some r) (fun n => [(1, rd (Z0 .i64) table2), (5, Ze v16), (6, rd (Z4 Z6) n), (7, Z7 g8 (Lens.id Z0h)), (9, Z7 g9 (Lens.id Z0f)), (10, Z7 g10 (Lens.id (Z2 24 Z3))), (11, Z7 g11 (Lens.id (Z2 24 Z3)))]) (fun n => [(8, Z9 g8 26 Z0h s1), (10, Z9 g9 61 Z0f f3), (11, Z9 g10 87 (Z2 24 Z3) cu4), (12, Z9 g11 101 (Z2 24 Z3) b17), (1001, Zb v16 126 Z06 l15)]) ?hx3 ?hy3
   case hy3 =>
    intro set19 h
    unfold Zfs at h
    change AW _ _ _ ⟨Zw [(1, rd (Z0 .i64) table2), (5, Ze v16), (6, rd (Z4 Z6) set19), (7, Z7 g8 (Lens.id Z0h)), (9, Z7 g9 (Lens.id Z0f)), (10, Z7 g10 (Lens.id (Z2 24 Z3))), (11, Z7 g11 (Lens.id (Z2 24 Z3)))], Zx [(8, Z9 g8 26 Z0h s1), (10, Z9 g9 61 Z0f f3), (11, Z9 g10 87 (Z2 24 Z3) cu4), (12, Z9 g11 101 (Z2 24 Z3) b17), (1001, Zb v16 126 Z06 l15)], _⟩
    refine AW.join (d := []) (ν := Z5) (fun n => Zde f3 table2 R_r33_walk s1 cu4 l15 set19 n = some r) (fun n => [(1, rd (Z0 .i64) table2), (5, Ze v16), (6, rd (Z4 Z6) set19), (7, Z7 g8 (Lens.id Z0h)), (9, Z7 g9 (Lens.id Z0f)), (10, Z7 g10 (Lens.id (Z2 24 Z3))), (11, Z7 g11 (Lens.id (Z2 24 Z3)))]) (fun n => [(8, Z9 g8 26 Z0h s1), (10, Z9 g9 61 Z0f f3), (11, Z9 g10 87 (Z2 24 Z3) cu4), (12, Z9 g11 101 (Z2 24 Z3) n), (1001, Zb v16 126 Z06 l15)]) ?hx4 ?hy4
    case hy4 =>
     intro b20 h
     unfold Zde at h
     change AW _ _ _ ⟨Zw [(1, rd (Z0 .i64) table2), (5, Ze v16), (6, rd (Z4 Z6) set19), (7, Z7 g8 (Lens.id Z0h)), (9, Z7 g9 (Lens.id Z0f)), (10, Z7 g10 (Lens.id (Z2 24 Z3))), (11, Z7 g11 (Lens.id (Z2 24 Z3)))], Zx [(8, Z9 g8 26 Z0h s1), (10, Z9 g9 61 Z0f f3), (11, Z9 g10 87 (Z2 24 Z3) cu4), (12, Z9 g11 101 (Z2 24 Z3) b20), (1001, Zb v16 126 Z06 l15)], _⟩
     refine AW.seq ?_
     obtain ⟨x21, hx21, h⟩ := Z1 h
     refine Rg <| Zl Zac Zbn rfl <| Ld Zdb 10 rfl <| Ac (Z11 (xs := [.tmp 83, .const (Value.int IntKind.i64 1)]) (Zgj _ _ _ hx21) Zhy rfl rfl ⟨vt rfl, vk rfl, trivial⟩) rfl <| Mt2 rfl <| Ac (Z1s rfl rfl (vt rfl)) rfl <| Ac (Z1t rfl rfl (vt rfl)) rfl <| Ct rfl (Zq 26 rfl rfl Z4r) ?_
     rintro _ ⟨g22, rfl⟩
     refine Zj Z34 26 rfl <| As rfl <| Nl <| AW.seq <| SR <| Md rfl <| Md rfl <| Gd rfl (fun hq => Z40 Zbz rfl rfl Ze4 (vt rfl)) <| Gd rfl (fun hq => Z37 rfl rfl ty3 (Zs rfl hq) (i := 26) rfl) <| Gd rfl (fun hq => Zt (A := rd (Z0 .i64) table2) rfl rfl (vt rfl)) <| Gd rfl (fun hq => Z3l rfl rfl (Zs rfl hq) (Zs rfl hq)) <| Ac (Z1w rfl rfl (vt rfl) (vt rfl)) rfl <| Md rfl <| Gd rfl (fun hq => Z40 Zbz rfl rfl Ze4 (vt rfl)) <| Gd rfl (fun hq => Z37 rfl rfl ty3 (Zs rfl hq) (i := 26) rfl) <| Gd rfl (fun hq => Zp rfl rfl (Zs rfl hq) (vk rfl)) <| Ac (Z1w rfl rfl (vt rfl) (vt rfl)) rfl <| Nl <| Cn rfl (fun hc => ?_) (fun hc => ?_)
     ·have h := Zf hc h
      refine AW.seq <| AW.freezes [5] 1001 rfl ⟨rfl, trivial⟩ rfl ?_
      obtain ⟨x23, hx23, h⟩ := Z1 h
      refine Rg <| Ld Z5z 8 rfl <| Zl Zbz Ze4 rfl <| Ld ty3 26 rfl <| Ld Z03 11 rfl <| Ld Z04 12 rfl <| Md rfl <| Md rfl <| Cl [99, 101, 102, 103, 104, 105] (hR_r33_walk _ _ _ _ _ _ _ hx23) e78 rfl <| As rfl <| Nl <| AW.ret ?_
      obtain rfl := si h
      exact Zi Tryz.results143 rfl (Z8 rfl)
     ·have h := Zg hc h
      refine AW.skip <| AW.seq ?_
      obtain ⟨x24, hx24, h⟩ := Z1 h
      obtain ⟨x25, hx25, h⟩ := Z1 h
      refine AW.regionAny [⟨[6], [108], [], []⟩, ⟨[108], [109], [], []⟩, ⟨[11], [110], [12], []⟩, ⟨[109, 110], [111], [], []⟩, ⟨[111], [107], [], []⟩, ⟨[107], [112], [], []⟩, ⟨[107], [113], [], []⟩, ⟨[], [28], [], []⟩, ⟨[112], [27], [], []⟩, ⟨[28, 113], [28], [], []⟩] Z05 (by kernel_rfl) <| Zu rfl <| SCl [108] (Ycj _ _ hx24) Yfa rfl <| Zo Z04 12 rfl <| SCl [109, 110] (Zxl _ _ _ hx25) Zxs rfl <| Sc (lo [111] [] rfl fun S hs hr => Zt (A := Z1h (rd (Z4 Z06) x25.1) (rd (Z2 24 Z3) x25.2)) rfl rfl (vh hs 111 rfl rfl)) rfl <| Sc (lo [107] [] rfl fun S hs hr => Z1s rfl rfl (vh hs 107 rfl rfl)) rfl <| Sc (lo [107] [] rfl fun S hs hr => Z1t rfl rfl (vh hs 107 rfl rfl)) rfl <| Sc (Z16 (us := [(28, Z2e 101 (Z2 24 Z3) (Vector.replicate 24 zTern))]) (ur := []) [] [] rfl fun S hs hr => Z5w rfl rfl rfl Z36) rfl <| SAs rfl <| Sc (Z16 (us := [(28, Z2e 101 (Z2 24 Z3) x25.2)]) (ur := []) [28, 113] [] rfl fun S hs hr => Z5r rfl rfl Z04 ((hs 28 rfl).trans rfl) (vh hs 113 rfl rfl)) rfl <| AW.unpackP 28 29 rfl rfl fun g26 => AW.seq ?_
      obtain ⟨l27, hl27, h⟩ := Z1 h
      refine AW.regionAny [⟨[10], [114], [11], []⟩, ⟨[5], [115], [], []⟩, ⟨[27], [116], [], []⟩, ⟨[115, 116], [117], [1001], [1001]⟩, ⟨[114, 117], [118], [], []⟩, ⟨[118], [119], [], []⟩, ⟨[119], [14], [], []⟩] Z05 (by kernel_rfl) <| Zo Z03 11 rfl <| SMw rfl <| Zu rfl <| Sc (Z16 (us := [(117, rd (Z4 Z06) l27)]) (ur := [(1001, emp)]) [115, 116] [1001] rfl fun S hs hr => Yau 1001 rfl hl27 rfl rfl rfl Z8s (vh hs 115 rfl rfl) ((hr 1001 rfl).trans rfl) (vh hs 116 rfl rfl)) rfl <| Sc (lo [114, 117] [] rfl fun S hs hr => Z00 (ps := [(0, .tmp 114), (1, .tmp 117)]) (x := (⟨cu4, l27⟩ : Rule)) rfl rfl rfl (by kernel_rfl) Z48 ⟨_, _, Z6b, _, by kernel_rfl, (vh hs 114 rfl rfl), _, _, Zad, _, by kernel_rfl, (vh hs 117 rfl rfl), rfl⟩) rfl <| Sc (lo [118] [] rfl fun S hs hr => Z2g (ps := [(0, .tmp 118)]) (l := [(⟨cu4, l27⟩ : Rule)]) rfl rfl Z2p Z48 rfl rfl ⟨_, _, Lens.idx 1 Zy 0 (by decide), _, rfl, (vh hs 118 rfl rfl), rfl⟩ rfl) rfl <| SAs rfl <| AW.ret ?_
      obtain rfl := si h
      exact Zi Tryz.results143 rfl (Z8 rfl)
    case hx4 =>
     refine AW.seq ?_
     obtain ⟨x28, hx28, h⟩ := Z1 h
     refine Rg <| Zl Zac Zbn rfl <| Ld Zdb 10 rfl <| Ac (Z11 (xs := [.tmp 70, .const (Value.int IntKind.i64 2)]) (Zgj _ _ _ hx28) Zhy rfl rfl ⟨vt rfl, vk rfl, trivial⟩) rfl <| Mt2 rfl <| Ac (Z1s rfl rfl (vt rfl)) rfl <| Ac (Z1t rfl rfl (vt rfl)) rfl <| Ct rfl (Zq 24 rfl rfl Z4r) ?_
     rintro _ ⟨g29, rfl⟩
     refine Zj Z34 24 rfl <| As rfl <| Nl <| SR <| Md rfl <| Nl <| Cn rfl (fun hc => ?_) (fun hc => ?_)
     ·have h := Zf hc h
      obtain ⟨x30, hx30, h⟩ := Z1 h
      refine Rg <| Ld Z04 12 rfl <| Zl Zot Y15 rfl <| Ld Zv 24 rfl <| Zl Zqa Zzd rfl <| Ld Zv 24 rfl <| Ac (Z11 (xs := [.tmp 75, .const (Value.int IntKind.i64 1), .tmp 77, .tmp 79]) (Zgt _ _ _ _ _ hx30) Ziy rfl rfl ⟨vt rfl, vk rfl, vt rfl, vt rfl, trivial⟩) rfl <| Zj Z04 12 rfl <| Nl ?_
      exact ⟨x30, h, FX rfl⟩
     ·have h := Zg hc h
      refine AW.skip ?_
      exact ⟨b17, h, FX rfl⟩
   case hx3 =>
    refine AW.seq ?_
    obtain ⟨x31, hx31, h⟩ := Z1 h
    refine Rg <| Zl Zac Zbn rfl <| Ld Zdb 10 rfl <| Ac (Z11 (xs := [.tmp 59, .const (Value.int IntKind.i64 3)]) (Zgj _ _ _ hx31) Zhy rfl rfl ⟨vt rfl, vk rfl, trivial⟩) rfl <| Mt2 rfl <| Ac (Z1s rfl rfl (vt rfl)) rfl <| Ac (Z1t rfl rfl (vt rfl)) rfl <| Ct rfl (Zq 22 rfl rfl Z4r) ?_
    rintro _ ⟨g32, rfl⟩
    refine Zj Z34 22 rfl <| As rfl <| Nl <| SR <| Md rfl <| Nl <| Cn rfl (fun hc => ?_) (fun hc => ?_)
    ·have h := Zf hc h
     obtain ⟨x33, hx33, h⟩ := Z1 h
     refine Rg <| Md rfl <| Zl Zak Zcs rfl <| Ld Z4j 22 rfl <| Cl [64, 66] (Y6t _ _ _ hx33) Y8l rfl <| As rfl <| Nl ?_
     exact ⟨x33, h, FX rfl⟩
    ·have h := Zg hc h
     refine AW.skip ?_
     exact ⟨set18, h, FX rfl⟩
  case hx2 =>
   refine AW.seq ?_
   obtain ⟨x34, hx34, h⟩ := Z1 h
   refine Rg <| Zl Zac Zbn rfl <| Ld Zdb 10 rfl <| Ac (Z11 (xs := [.tmp 52, .const (Value.int IntKind.i64 5)]) (Zgj _ _ _ hx34) Zhy rfl rfl ⟨vt rfl, vk rfl, trivial⟩) rfl <| Mt2 rfl <| Ac (Z1s rfl rfl (vt rfl)) rfl <| Ac (Z1t rfl rfl (vt rfl)) rfl <| Ct rfl (Zq 20 rfl rfl Z4r) ?_
   rintro _ ⟨g35, rfl⟩
   refine Zj Z34 20 rfl <| As rfl <| Nl <| SR <| Md rfl <| Nl <| Cn rfl (fun hc => ?_) (fun hc => ?_)
   ·have h := Zf hc h
    refine Rg <| Ac (Z02 (A := rd (Z4 Z6) []) rfl rfl Z1u) rfl <| Nl ?_
    exact ⟨[], h, FX rfl⟩
   ·have h := Zg hc h
    refine AW.skip ?_
    exact ⟨set7, h, FX rfl⟩
 case hx1 =>
  refine AW.seq ?_
  obtain ⟨x36, hx36, h⟩ := Z1 h
  refine Rg <| Zl Zac Zbn rfl <| Ld Zdb 10 rfl <| Ac (Z11 (xs := [.tmp 34, .const (Value.int IntKind.i64 4)]) (Zgj _ _ _ hx36) Zhy rfl rfl ⟨vt rfl, vk rfl, trivial⟩) rfl <| Mt2 rfl <| Ac (Z1s rfl rfl (vt rfl)) rfl <| Ac (Z1t rfl rfl (vt rfl)) rfl <| Ct rfl (Zq 16 rfl rfl Z4r) ?_
  rintro _ ⟨g37, rfl⟩
  refine Zj Z34 16 rfl <| As rfl <| Nl <| SR <| Md rfl <| Nl <| Cn rfl (fun hc => ?_) (fun hc => ?_)
  ·have h := Zf hc h
   refine AW.seq ?_
   obtain ⟨x38, hx38, h⟩ := Z1 h
   refine Rg <| Zl Zak Zcs rfl <| Ld Z4j 16 rfl <| Ld Z04 12 rfl <| Cl [41, 42] (Zxl _ _ _ hx38) Zxs rfl <| Mt2 rfl <| Ac (Z1s rfl rfl (vt rfl)) rfl <| Ac (Z1t rfl rfl (vt rfl)) rfl <| Ct rfl (Zq 19 rfl rfl Z36) ?_
   rintro _ ⟨g39, rfl⟩
   refine As rfl <| Zj Z04 19 rfl <| Nl ?_
   obtain ⟨l40, hl40, h⟩ := Z1 h
   refine AW.endT <| AW.regionAny [⟨[5], [46], [], []⟩, ⟨[17], [47], [], []⟩, ⟨[46, 47], [48], [1001], [1001]⟩, ⟨[18], [49], [19], []⟩, ⟨[48], [48, 5], [1002], []⟩, ⟨[11, 49], [], [12], [12]⟩] Z05 (by kernel_rfl) <| SMw rfl <| Zu rfl <| Sc (Z16 (us := [(48, Z1p 126 Z06 l40)]) (ur := [(1001, emp)]) [46, 47] [1001] rfl fun S hs hr => Z7a 1001 hl40 rfl rfl rfl Z8s (vh hs 46 rfl rfl) ((hr 1001 rfl).trans rfl) (vh hs 47 rfl rfl)) rfl <| Zo Z04 19 rfl <| Sc (Z16 (us := [(48, top), (5, Z1p 126 Z06 l40)]) (ur := []) [48] [1002] rfl fun S hs hr => Ziv 1002 rfl rfl rfl rfl ((hs 48 rfl).trans rfl) ((hr 1002 rfl).trans rfl)) rfl <| SSt Z04 12 rfl <| EndT.unpackR 5 1001 rfl rfl fun v41 => EndT.done ?_
   exact ⟨(l40, x38.2, v41), h, FX rfl⟩
  ·have h := Zg hc h
   refine AW.skip ?_
   exact ⟨(l13, r5, v14), h, FX rfl⟩
def Z3s : Nat → (Switch → Int → Z5 → Z5 → (List Atom) → (List Action) → Option (List Rule)) × (Switch → Int → Flow → Z5 → Z5 → (List Atom) → (List Action) → Option (List Rule))
 | 0 => ((fun _ _ _ _ _ _ => none), (fun _ _ _ _ _ _ _ => none))
 | n + 1 => ((Zjl (Z3s n).1 (Z3s n).2), (Ze2 (Z3s n).1 (Z3s n).2))
theorem Y07 : ∀ n : Nat, (∀ (s1 : Switch) (table2 : Int) (cu3 : Z5) (r4 : Z5) (atoms5 : (List Atom)) (set6 : (List Action)) (r : (List Rule)), (Z3s n).1 s1 table2 cu3 r4 atoms5 set6 = some r → PCon Tryz.prog 78 [rd Z0h s1, rd (Z0 .i64) table2, rd (Z2 24 Z3) cu3, rd (Z2 24 Z3) r4, rd (Z4 Z06) atoms5, rd (Z4 Z6) set6] (rd (Z4 Zy) r)) ∧ (∀ (s1 : Switch) (table2 : Int) (f3 : Flow) (cu4 : Z5) (r5 : Z5) (atoms6 : (List Atom)) (set7 : (List Action)) (r : (List Rule)), (Z3s n).2 s1 table2 f3 cu4 r5 atoms6 set7 = some r → PCon Tryz.prog 143 [rd Z0h s1, rd (Z0 .i64) table2, rd Z0f f3, rd (Z2 24 Z3) cu4, rd (Z2 24 Z3) r5, rd (Z4 Z06) atoms6, rd (Z4 Z6) set7] (rd (Z4 Zy) r))
 | 0 => ⟨(by intros; rename_i h; cases h), (by intros; rename_i h; cases h)⟩
 | n + 1 => by
  have ih := Y07 n
  exact ⟨(Yh3 (Z3s n).1 ih.1 (Z3s n).2 ih.2), (Ya5 (Z3s n).1 ih.1 (Z3s n).2 ih.2)⟩
def Zr4 (s1 : Switch) (table2 : Int) (cu3 : Z5) (r4 : Z5) (atoms5 : (List Atom)) (set6 : (List Action)) : Option (List Rule) := (Z3s Z0y).1 s1 table2 cu3 r4 atoms5 set6
theorem Y74 : ∀ (s1 : Switch) (table2 : Int) (cu3 : Z5) (r4 : Z5) (atoms5 : (List Atom)) (set6 : (List Action)) (r : (List Rule)), Zr4 s1 table2 cu3 r4 atoms5 set6 = some r → PCon Tryz.prog 78 [rd Z0h s1, rd (Z0 .i64) table2, rd (Z2 24 Z3) cu3, rd (Z2 24 Z3) r4, rd (Z4 Z06) atoms5, rd (Z4 Z6) set6] (rd (Z4 Zy) r) := (Y07 Z0y).1
def Zel (s1 : Switch) : Option (List Rule) :=
 (Zn0).bind fun x3 => (Z89).bind fun x4 => (Zr4 s1 0 x3 x4 [] []).bind fun x5 => some x5
theorem Y6g (s1 : Switch) (r : (List Rule)) (h : Zel s1 = some r) : PCon Tryz.prog 23 [rd Z0h s1] (rd (Z4 Zy) r) := by
 refine PCon.of (Con.intro0 Tryz.func23 rfl Tryz.ntmps23 rfl fun w H => ?_)
 unfold Zel at h
 refine SR <| Ct rfl (Zn 2 rfl rfl (vt rfl)) ?_
 rintro _ ⟨g2, rfl⟩
 refine Ac (Z02 (A := rd (Z4 Zy) []) rfl rfl Z1u) rfl <| Nl <| AW.seq ?_
 obtain ⟨x3, hx3, h⟩ := Z1 h
 obtain ⟨x4, hx4, h⟩ := Z1 h
 obtain ⟨x5, hx5, h⟩ := Z1 h
 refine AW.regionAny [⟨[1], [3], [2], []⟩, ⟨[], [4], [], []⟩, ⟨[], [5], [], []⟩, ⟨[3, 4, 5], [6], [], []⟩, ⟨[6], [2], [], []⟩] Z05 (by kernel_rfl) <| Zo Z5z 2 rfl <| SCl [] (Yap _ hx3) e79 rfl <| SCl [] (Zi6 _ hx4) e80 rfl <| Sc (lo [3, 4, 5] [] rfl fun S hs hr => Z11 (xs := [.tmp 3, .const (Value.int IntKind.i64 0), .tmp 4, .tmp 5, .const (Value.slice none 0 0), .const (Value.slice none 0 0)]) (Y74 _ _ _ _ _ _ _ hx5) e78 rfl rfl ⟨vt ((hs 3 rfl).trans rfl), vk rfl, vt ((hs 4 rfl).trans rfl), vt ((hs 5 rfl).trans rfl), Z1u, Z1u, trivial⟩) rfl <| SAs rfl <| AW.ret ?_
 obtain rfl := si h
 exact Zi Tryz.results23 rfl (Z8 rfl)
def Zab (l1 : (List Rule)) : Nat → (List Z5) → Int → Option (List Z5)
 | 0, _, _ => none
 | m9 + 1, l6, i8 => (bif (decide (i8 < (l1.length : Int))) then (lget l1 i8).bind fun e10 => (Z0u l6 [e10.Cube]).bind fun l11 => (Zab l1 m9) l11 (IntKind.i64.wrap (i8 + 1)) else some l6)
def Ze5 (l1 : (List Rule)) : Option (List Z5) :=
 Zab l1 ((((l1.length : Int) : Int) - 0).toNat + 1) [] 0
theorem Y52 (l1 : (List Rule)) (r : (List Z5)) (h : Ze5 l1 = some r) : Con Tryz.prog 172 [rd (Z4 Zy) l1] emp (fun v => Ze v) (fun v => Zb v 87 (Z2 24 Z3) r) := by
 refine Con.intro0 Tryz.func172 rfl Tryz.ntmps172 rfl fun w H => ?_
 unfold Ze5 at h
 refine AW.seq <| AW.newnil 1001 87 (Z2 24 Z3) <| Rg <| Ac (Z02 rfl rfl vc) rfl <| Nl <| SR <| Ct rfl (Z4q 1002 (ps := []) (l := []) rfl rfl Z3u Z15 rfl rfl rfl rfl) ?_
 rintro _ ⟨v2, rfl⟩
 refine Aw rfl <| Nl <| AW.seq <| SR <| Ak rfl <| Nl <| AW.block <| AW.loopG (d := []) (ν := Nat × (List Z5) × Int × Value) (fun n => True ∧ Zab l1 n.1 n.2.1 n.2.2.1 = some r) (fun n => n.1) (fun n => [(0, rd (Z4 Zy) l1), (3, Ze n.2.2.2), (4, rd (Z0 .i64) n.2.2.1)]) (fun n => [(1002, Zb n.2.2.2 87 (Z2 24 Z3) n.2.1)]) (((((l1.length : Int) : Int) - 0).toNat + 1), [], 0, v2) ⟨trivial, h⟩ (FX rfl) ?_
 rintro ⟨m9, l6, i8, v7⟩ ⟨hsf1, h⟩
 change True at hsf1
 change Zab l1 m9 l6 i8 = some r at h
 change AW _ _ _ ⟨Zw [(0, rd (Z4 Zy) l1), (3, Ze v7), (4, rd (Z0 .i64) i8)], Zx [(1002, Zb v7 87 (Z2 24 Z3) l6)], _⟩
 cases m9 with
 | zero => cases h
 | succ m9 =>
  unfold Zab at h
  generalize hgo1 : Zab l1 m9 = go1 at h
  refine AW.seq <| SR <| Md rfl <| Md rfl <| Ac (Z0x rfl rfl Z2p (vt rfl)) rfl <| Ac (Zp rfl rfl (vt rfl) (vt rfl)) rfl <| Nl <| Cn rfl (fun hc => ?_) (fun hc => ?_)
  ·have h := Zf hc h
   refine AW.skip <| AW.seq <| AW.block ?_
   obtain ⟨e10, he10, h⟩ := Z1 h
   obtain ⟨l11, hl11, h⟩ := Z1 h
   refine Rg <| Mw rfl <| Md rfl <| Md rfl <| Ac (Z0r rfl rfl Z2p (vt rfl) (vt rfl) he10) rfl <| Fp Z6b Zfh rfl <| Lp1 Z03 rfl <| Ac (Z2g (ps := [(0, .tmp 17)]) (l := [e10.Cube]) rfl rfl Z3u Z15 rfl rfl ⟨_, _, Lens.idx 1 (Z2 24 Z3) 0 (by decide), _, rfl, (vt rfl), rfl⟩ rfl) rfl <| Ct rfl (Z2m 1002 hl11 rfl rfl Zli (vt rfl) rfl (vt rfl)) ?_
   rintro _ ⟨v12, rfl⟩
   refine Aw rfl <| Nl <| Rg <| Md rfl <| Ac (Z08 rfl rfl (vt rfl) (vk rfl)) rfl <| As rfl <| Nl ?_
   subst hgo1
   exact ⟨(m9, l11, (IntKind.i64.wrap (i8 + 1)), v12), Nat.lt_succ_self _, ⟨trivial, h⟩, FX rfl⟩
  ·have h := Zg hc h
   refine AW.exit <| SR <| Mw rfl <| Aw rfl <| Nl <| AW.ret ?_
   obtain rfl := si h
   exact Z4n (i := 1002) Tryz.results172 rfl rfl rfl
theorem Y86 (l1 : (List Rule)) (r : (List Z5)) (h : Ze5 l1 = some r) : PCon Tryz.prog 172 [rd (Z4 Zy) l1] (rd (Z4 (Z2 24 Z3)) r) := PCon.of_row (Y52 l1 r h)
end Go.Proofs.YtknpgojdkobgjaaGreat.W
set_option maxRecDepth 4000
namespace Go.Proofs.YtknpgojdkobgjaaGreat.W
open Go Go.Wb
theorem Ych : Ent Tryz.prog 323 := Ent.mk Tryz.func323 rfl rfl
theorem Y6e : Ent Tryz.prog 295 := Ent.mk Tryz.func295 rfl rfl
theorem Y48 : Ent Tryz.prog 249 := Ent.mk Tryz.func249 rfl rfl
theorem Yhf : Ent Tryz.prog 250 := Ent.mk Tryz.func250 rfl rfl
theorem Ydi : Ent Tryz.prog 172 := Ent.mk Tryz.func172 rfl rfl
theorem Y4g : Ent Tryz.prog 186 := Ent.mk Tryz.func186 rfl rfl
theorem Y8p : Ent Tryz.prog 118 := Ent.mk Tryz.func118 rfl rfl
theorem e59 : Ent Tryz.prog 59 := Ent.mk Tryz.func59 rfl rfl
def Z8f (l2 : (List Z5)) (cu1 : Z5) : Nat → (List Z5) → Int → Option (List Z5)
 | 0, _, _ => none
 | m11 + 1, l8, i10 => (bif (decide (i10 < (l2.length : Int))) then (lget l2 i10).bind fun e12 => (Zfl cu1 e12).bind fun x13 => (bif x13.2 then (lget l2 i10).bind fun e15 => (Z0u l8 [e15]).bind fun l16 => (Z8f l2 cu1 m11) l16 (IntKind.i64.wrap (i10 + 1)) else (Z8f l2 cu1 m11) l8 (IntKind.i64.wrap (i10 + 1))) else some l8)
def Znc (cu1 : Z5) (l2 : (List Z5)) : Option (List Z5) :=
 Z8f l2 cu1 ((((l2.length : Int) : Int) - 0).toNat + 1) [] 0
theorem Y99 (cu1 : Z5) (l2 : (List Z5)) (r : (List Z5)) (h : Znc cu1 l2 = some r) : PCon Tryz.prog 249 [rd (Z2 24 Z3) cu1, rd (Z4 (Z2 24 Z3)) l2] (rd (Z4 (Z2 24 Z3)) r) := by
 refine PCon.of (Con.intro0 Tryz.func249 rfl Tryz.ntmps249 rfl fun w H => ?_)
 unfold Znc at h
 refine SR <| Ct rfl (Zn 3 rfl rfl (vt rfl)) ?_
 rintro _ ⟨g3, rfl⟩
 refine Ac (Z02 (A := rd (Z4 (Z2 24 Z3)) []) rfl rfl Z1u) rfl <| Nl <| SR <| Ct rfl (Z4q 1001 (ps := []) (l := []) rfl rfl Z3u Z15 rfl rfl rfl rfl) ?_
 rintro _ ⟨v4, rfl⟩
 refine Aw rfl <| Nl <| AW.seq <| SR <| Ak rfl <| Nl <| AW.block <| AW.loopG (d := []) (ν := Nat × (List Z5) × Int × Value) (fun n => True ∧ Z8f l2 cu1 n.1 n.2.1 n.2.2.1 = some r) (fun n => n.1) (fun n => [(1, rd (Z4 (Z2 24 Z3)) l2), (2, Z7 g3 (Lens.id (Z2 24 Z3))), (5, Ze n.2.2.2), (6, rd (Z0 .i64) n.2.2.1)]) (fun n => [(3, Z9 g3 87 (Z2 24 Z3) cu1), (1001, Zb n.2.2.2 87 (Z2 24 Z3) n.2.1)]) (((((l2.length : Int) : Int) - 0).toNat + 1), [], 0, v4) ⟨trivial, h⟩ (FX rfl) ?_
 rintro ⟨m11, l8, i10, v9⟩ ⟨hsf1, h⟩
 change True at hsf1
 change Z8f l2 cu1 m11 l8 i10 = some r at h
 change AW _ _ _ ⟨Zw [(1, rd (Z4 (Z2 24 Z3)) l2), (2, Z7 g3 (Lens.id (Z2 24 Z3))), (5, Ze v9), (6, rd (Z0 .i64) i10)], Zx [(3, Z9 g3 87 (Z2 24 Z3) cu1), (1001, Zb v9 87 (Z2 24 Z3) l8)], _⟩
 cases m11 with
 | zero => cases h
 | succ m11 =>
  unfold Z8f at h
  generalize hgo1 : Z8f l2 cu1 m11 = go1 at h
  refine AW.seq <| SR <| Md rfl <| Md rfl <| Ac (Z0x rfl rfl Z3u (vt rfl)) rfl <| Ac (Zp rfl rfl (vt rfl) (vt rfl)) rfl <| Nl <| Cn rfl (fun hc => ?_) (fun hc => ?_)
  ·have h := Zf hc h
   refine AW.skip <| AW.seq <| AW.block <| AW.seq ?_
   obtain ⟨e12, he12, h⟩ := Z1 h
   obtain ⟨x13, hx13, h⟩ := Z1 h
   refine AW.regionAny [⟨[2], [17], [3], []⟩, ⟨[1], [18], [], []⟩, ⟨[6], [19], [], []⟩, ⟨[18, 19], [20], [], []⟩, ⟨[20], [21], [], []⟩, ⟨[17, 21], [22], [], []⟩, ⟨[22], [16], [], []⟩, ⟨[16], [23], [], []⟩, ⟨[16], [24], [], []⟩, ⟨[], [7], [], []⟩, ⟨[7, 23], [7], [], []⟩, ⟨[24], [8], [], []⟩] Z05 (by kernel_rfl) <| Zo Z03 3 rfl <| Zu rfl <| Zu rfl <| Sc (lo [18, 19] [] rfl fun S hs hr => Z0r rfl rfl Z3u (vh hs 18 rfl rfl) (vh hs 19 rfl rfl) he12) rfl <| SLp Z03 rfl <| SCl [17, 21] (Zua _ _ _ hx13) Zx5 rfl <| Sc (lo [22] [] rfl fun S hs hr => Zt (A := Z1h (rd (Z2 24 Z3) x13.1) (rd Zc x13.2)) rfl rfl (vh hs 22 rfl rfl)) rfl <| Sc (lo [16] [] rfl fun S hs hr => Z1s rfl rfl (vh hs 16 rfl rfl)) rfl <| Sc (lo [16] [] rfl fun S hs hr => Z1t rfl rfl (vh hs 16 rfl rfl)) rfl <| Sc (Z16 (us := [(7, Z2e 87 (Z2 24 Z3) (Vector.replicate 24 zTern))]) (ur := []) [] [] rfl fun S hs hr => Z5w rfl rfl rfl Z15) rfl <| Sc (Z16 (us := [(7, Z2e 87 (Z2 24 Z3) x13.1)]) (ur := []) [7, 23] [] rfl fun S hs hr => Z5r rfl rfl Z03 ((hs 7 rfl).trans rfl) (vh hs 23 rfl rfl)) rfl <| SAs rfl <| AW.unpackP 7 8 rfl rfl fun g14 => SR <| Md rfl <| Nl <| Cn rfl (fun hc => ?_) (fun hc => ?_)
   ·have h := Zf hc h
    obtain ⟨e15, he15, h⟩ := Z1 h
    obtain ⟨l16, hl16, h⟩ := Z1 h
    refine Rg <| Mw rfl <| Md rfl <| Md rfl <| Ac (Z0r rfl rfl Z3u (vt rfl) (vt rfl) he15) rfl <| Lp1 Z03 rfl <| Ac (Z2g (ps := [(0, .tmp 30)]) (l := [e15]) rfl rfl Z3u Z15 rfl rfl ⟨_, _, Lens.idx 1 (Z2 24 Z3) 0 (by decide), _, rfl, (vt rfl), rfl⟩ rfl) rfl <| Ct rfl (Z2m 1001 hl16 rfl rfl Zli (vt rfl) rfl (vt rfl)) ?_
    rintro _ ⟨v17, rfl⟩
    refine Aw rfl <| Nl <| Rg <| Md rfl <| Ac (Z08 rfl rfl (vt rfl) (vk rfl)) rfl <| As rfl <| Nl ?_
    subst hgo1
    exact ⟨(m11, l16, (IntKind.i64.wrap (i10 + 1)), v17), Nat.lt_succ_self _, ⟨trivial, h⟩, FX rfl⟩
   ·have h := Zg hc h
    refine AW.skip <| Rg <| Md rfl <| Ac (Z08 rfl rfl (vt rfl) (vk rfl)) rfl <| As rfl <| Nl ?_
    subst hgo1
    exact ⟨(m11, l8, (IntKind.i64.wrap (i10 + 1)), v9), Nat.lt_succ_self _, ⟨trivial, h⟩, FX rfl⟩
  ·have h := Zg hc h
   refine AW.exit <| SR <| Mw rfl <| Aw rfl <| Nl <| AW.freezes [4, 5, 33] 1001 rfl ⟨rfl, rfl, rfl, trivial⟩ rfl <| AW.ret ?_
   obtain rfl := si h
   exact Zi Tryz.results249 rfl (Z8 rfl)
def Zgr (a1 : Wide) (i2 : Int) : Option Bool :=
 (Z8c i2).bind fun x4 => (Zd8 a1 x4).bind fun x5 => (Zfp x5).bind fun x6 => some (!x6)
theorem Ygp (a1 : Wide) (i2 : Int) (r : Bool) (h : Zgr a1 i2 = some r) : PCon Tryz.prog 323 [rd Zh a1, rd (Z0 .i64) i2] (rd Zc r) := by
 refine PCon.of (Con.intro0 Tryz.func323 rfl Tryz.ntmps323 rfl fun w H => ?_)
 unfold Zgr at h
 refine SR <| Ct rfl (Zn 3 rfl rfl (vt rfl)) ?_
 rintro _ ⟨g3, rfl⟩
 refine Ab rfl <| Nl <| AW.seq ?_
 obtain ⟨x4, hx4, h⟩ := Z1 h
 obtain ⟨x5, hx5, h⟩ := Z1 h
 obtain ⟨x6, hx6, h⟩ := Z1 h
 refine AW.regionAny [⟨[2], [5], [3], []⟩, ⟨[1], [6], [], []⟩, ⟨[6], [7], [], []⟩, ⟨[5, 7], [8], [], []⟩, ⟨[8], [9], [], []⟩, ⟨[9], [10], [], []⟩, ⟨[10], [4], [], []⟩] Z05 (by kernel_rfl) <| Zo Zv 3 rfl <| Zu rfl <| SCl [6] (Zmo _ _ hx4) Zmd rfl <| SCl [5, 7] (Zlf _ _ _ hx5) Zkz rfl <| SCl [8] (Zu1 _ _ hx6) Zwn rfl <| Sc (lo [9] [] rfl fun S hs hr => Z19 rfl rfl (vh hs 9 rfl rfl)) rfl <| SAs rfl <| AW.ret ?_
 obtain rfl := si h
 exact Zi Tryz.results323 rfl (Z8 rfl)
def Z91 (a1 : Wide) : Nat → Int → Int → Option Int
 | 0, _, _ => none
 | m7 + 1, n5, i6 => (bif (decide (i6 < 128)) then (Zgr a1 i6).bind fun x8 => (bif x8 then (Z91 a1 m7) (IntKind.i64.wrap (n5 + 1)) (IntKind.i64.wrap (i6 + 1)) else (Z91 a1 m7) n5 (IntKind.i64.wrap (i6 + 1))) else some n5)
def Zim (a1 : Wide) : Option Int :=
 Z91 a1 (((128 : Int) - 0).toNat + 1) 0 0
theorem Ycm (a1 : Wide) (r : Int) (h : Zim a1 = some r) : PCon Tryz.prog 295 [rd Zh a1] (rd (Z0 .i64) r) := by
 refine PCon.of (Con.intro0 Tryz.func295 rfl Tryz.ntmps295 rfl fun w H => ?_)
 unfold Zim at h
 refine SR <| Ct rfl (Zn 2 rfl rfl (vt rfl)) ?_
 rintro _ ⟨g2, rfl⟩
 refine Ak rfl <| Nl <| SR <| Ak rfl <| Nl <| AW.seq <| SR <| Ak rfl <| Nl <| AW.block <| AW.loopG (d := []) (ν := Nat × Int × Int) (fun n => True ∧ Z91 a1 n.1 n.2.1 n.2.2 = some r) (fun n => n.1) (fun n => [(1, Z7 g2 (Lens.id Zh)), (3, rd (Z0 .i64) n.2.1), (4, rd (Z0 .i64) n.2.2)]) (fun n => [(2, Z9 g2 42 Zh a1)]) ((((128 : Int) - 0).toNat + 1), 0, 0) ⟨trivial, h⟩ (FX rfl) ?_
 rintro ⟨m7, n5, i6⟩ ⟨hsf1, h⟩
 change True at hsf1
 change Z91 a1 m7 n5 i6 = some r at h
 change AW _ _ _ ⟨Zw [(1, Z7 g2 (Lens.id Zh)), (3, rd (Z0 .i64) n5), (4, rd (Z0 .i64) i6)], Zx [(2, Z9 g2 42 Zh a1)], _⟩
 cases m7 with
 | zero => cases h
 | succ m7 =>
  unfold Z91 at h
  generalize hgo1 : Z91 a1 m7 = go1 at h
  refine AW.seq <| SR <| Md rfl <| Ac (Zp rfl rfl (vt rfl) (vk rfl)) rfl <| Nl <| Cn rfl (fun hc => ?_) (fun hc => ?_)
  ·have h := Zf hc h
   refine AW.skip <| AW.seq <| AW.block <| AW.seq ?_
   obtain ⟨x8, hx8, h⟩ := Z1 h
   refine Rg <| Ld Zv 2 rfl <| Md rfl <| Cl [9, 10] (Ygp _ _ _ hx8) Ych rfl <| Nl <| Cn rfl (fun hc => ?_) (fun hc => ?_)
   ·have h := Zf hc h
    refine Rg <| Md rfl <| Ac (Z08 rfl rfl (vt rfl) (vk rfl)) rfl <| As rfl <| Nl <| Rg <| Md rfl <| Ac (Z08 rfl rfl (vt rfl) (vk rfl)) rfl <| As rfl <| Nl ?_
    subst hgo1
    exact ⟨(m7, (IntKind.i64.wrap (n5 + 1)), (IntKind.i64.wrap (i6 + 1))), Nat.lt_succ_self _, ⟨trivial, h⟩, FX rfl⟩
   ·have h := Zg hc h
    refine AW.skip <| Rg <| Md rfl <| Ac (Z08 rfl rfl (vt rfl) (vk rfl)) rfl <| As rfl <| Nl ?_
    subst hgo1
    exact ⟨(m7, n5, (IntKind.i64.wrap (i6 + 1))), Nat.lt_succ_self _, ⟨trivial, h⟩, FX rfl⟩
  ·have h := Zg hc h
   refine AW.exit <| SR <| Md rfl <| As rfl <| Nl <| AW.ret ?_
   obtain rfl := si h
   exact Zi Tryz.results295 rfl (Z8 rfl)
def Zb2 (cu1 : Z5) : Nat → Int → Int → Option Int
 | 0, _, _ => none
 | m7 + 1, n5, f6 => (bif (decide (f6 < 24)) then (chk 24 f6).bind fun j8 => (Zim ((Vector.get cu1 j8).Mask)).bind fun x9 => (Zb2 cu1 m7) (IntKind.i64.wrap (n5 + x9)) (IntKind.i64.wrap (f6 + 1)) else some n5)
def Zia (cu1 : Z5) : Option Int :=
 Zb2 cu1 (((24 : Int) - 0).toNat + 1) 0 0
theorem Yfc (cu1 : Z5) (r : Int) (h : Zia cu1 = some r) : PCon Tryz.prog 250 [rd (Z2 24 Z3) cu1] (rd (Z0 .i64) r) := by
 refine PCon.of (Con.intro0 Tryz.func250 rfl Tryz.ntmps250 rfl fun w H => ?_)
 unfold Zia at h
 refine SR <| Ct rfl (Zn 2 rfl rfl (vt rfl)) ?_
 rintro _ ⟨g2, rfl⟩
 refine Ak rfl <| Nl <| SR <| Ak rfl <| Nl <| AW.seq <| SR <| Ak rfl <| Nl <| AW.block <| AW.loopG (d := []) (ν := Nat × Int × Int) (fun n => True ∧ Zb2 cu1 n.1 n.2.1 n.2.2 = some r) (fun n => n.1) (fun n => [(1, Z7 g2 (Lens.id (Z2 24 Z3))), (3, rd (Z0 .i64) n.2.1), (4, rd (Z0 .i64) n.2.2)]) (fun n => [(2, Z9 g2 87 (Z2 24 Z3) cu1)]) ((((24 : Int) - 0).toNat + 1), 0, 0) ⟨trivial, h⟩ (FX rfl) ?_
 rintro ⟨m7, n5, f6⟩ ⟨hsf1, h⟩
 change True at hsf1
 change Zb2 cu1 m7 n5 f6 = some r at h
 change AW _ _ _ ⟨Zw [(1, Z7 g2 (Lens.id (Z2 24 Z3))), (3, rd (Z0 .i64) n5), (4, rd (Z0 .i64) f6)], Zx [(2, Z9 g2 87 (Z2 24 Z3) cu1)], _⟩
 cases m7 with
 | zero => cases h
 | succ m7 =>
  unfold Zb2 at h
  generalize hgo1 : Zb2 cu1 m7 = go1 at h
  refine AW.seq <| SR <| Md rfl <| Ac (Zp rfl rfl (vt rfl) (vk rfl)) rfl <| Nl <| Cn rfl (fun hc => ?_) (fun hc => ?_)
  ·have h := Zf hc h
   refine AW.skip <| AW.seq <| AW.block ?_
   obtain ⟨j8, hj8, h⟩ := Z1 h
   obtain ⟨x9, hx9, h⟩ := Z1 h
   refine Rg <| Md rfl <| Md rfl <| Ac (Z1b rfl rfl Z2a (vt rfl) (vt rfl) hj8) rfl <| Zl Z0v Z1x rfl <| Ld Zv 2 rfl <| Cl [13] (Ycm _ _ hx9) Y6e rfl <| Ac (Z08 rfl rfl (vt rfl) (vt rfl)) rfl <| As rfl <| Nl <| Rg <| Md rfl <| Ac (Z08 rfl rfl (vt rfl) (vk rfl)) rfl <| As rfl <| Nl ?_
   subst hgo1
   exact ⟨(m7, (IntKind.i64.wrap (n5 + x9)), (IntKind.i64.wrap (f6 + 1))), Nat.lt_succ_self _, ⟨trivial, h⟩, FX rfl⟩
  ·have h := Zg hc h
   refine AW.exit <| SR <| Md rfl <| As rfl <| Nl <| AW.ret ?_
   obtain rfl := si h
   exact Zi Tryz.results250 rfl (Z8 rfl)
def Zav (x4 : (List Z5)) : Nat → Int → Int → Option Int
 | 0, _, _ => none
 | m9 + 1, n7, i8 => (bif (decide (i8 < (x4.length : Int))) then (lget x4 i8).bind fun e10 => (Zia e10).bind fun x11 => (Zav x4 m9) (Z4a (IntKind.i64.wrap (n7 * (Z1r x11 1))) 1099511627776) (IntKind.i64.wrap (i8 + 1)) else some n7)
def Zgn (cu1 : Z5) (l2 : (List Z5)) : Option Int :=
 (Znc cu1 l2).bind fun x4 => Zav x4 ((((x4.length : Int) : Int) - 0).toNat + 1) (Z4a (IntKind.i64.wrap ((x4.length : Int) + 1)) 1099511627776) 0
theorem Y2i (cu1 : Z5) (l2 : (List Z5)) (r : Int) (h : Zgn cu1 l2 = some r) : PCon Tryz.prog 186 [rd (Z2 24 Z3) cu1, rd (Z4 (Z2 24 Z3)) l2] (rd (Z0 .i64) r) := by
 refine PCon.of (Con.intro0 Tryz.func186 rfl Tryz.ntmps186 rfl fun w H => ?_)
 unfold Zgn at h
 refine SR <| Ct rfl (Zn 3 rfl rfl (vt rfl)) ?_
 rintro _ ⟨g3, rfl⟩
 refine Ak rfl <| Nl <| AW.seq ?_
 obtain ⟨x4, hx4, h⟩ := Z1 h
 refine Rg <| Ld Z03 3 rfl <| Md rfl <| Cl [8, 9] (Y99 _ _ _ hx4) Y48 rfl <| As rfl <| Nl <| SR <| Md rfl <| Ac (Z0x rfl rfl Z3u (vt rfl)) rfl <| Ac (Z08 rfl rfl (vt rfl) (vk rfl)) rfl <| Ac (Zp3 rfl rfl (vt rfl) (vk rfl)) rfl <| As rfl <| Nl <| AW.seq <| SR <| Ak rfl <| Nl <| AW.block <| AW.loopG (d := []) (ν := Nat × Int × Int) (fun n => True ∧ Zav x4 n.1 n.2.1 n.2.2 = some r) (fun n => n.1) (fun n => [(5, rd (Z4 (Z2 24 Z3)) x4), (6, rd (Z0 .i64) n.2.1), (7, rd (Z0 .i64) n.2.2)]) (fun n => []) (((((x4.length : Int) : Int) - 0).toNat + 1), (Z4a (IntKind.i64.wrap ((x4.length : Int) + 1)) 1099511627776), 0) ⟨trivial, h⟩ (FX rfl) ?_
 rintro ⟨m9, n7, i8⟩ ⟨hsf1, h⟩
 change True at hsf1
 change Zav x4 m9 n7 i8 = some r at h
 change AW _ _ _ ⟨Zw [(5, rd (Z4 (Z2 24 Z3)) x4), (6, rd (Z0 .i64) n7), (7, rd (Z0 .i64) i8)], Zx [], _⟩
 cases m9 with
 | zero => cases h
 | succ m9 =>
  unfold Zav at h
  generalize hgo1 : Zav x4 m9 = go1 at h
  refine AW.seq <| SR <| Md rfl <| Md rfl <| Ac (Z0x rfl rfl Z3u (vt rfl)) rfl <| Ac (Zp rfl rfl (vt rfl) (vt rfl)) rfl <| Nl <| Cn rfl (fun hc => ?_) (fun hc => ?_)
  ·have h := Zf hc h
   refine AW.skip <| AW.seq <| AW.block ?_
   obtain ⟨e10, he10, h⟩ := Z1 h
   obtain ⟨x11, hx11, h⟩ := Z1 h
   refine Rg <| Md rfl <| Md rfl <| Md rfl <| Ac (Z0r rfl rfl Z3u (vt rfl) (vt rfl) he10) rfl <| Lp1 Z03 rfl <| Cl [25] (Yfc _ _ hx11) Yhf rfl <| Ac (Zgb rfl rfl (vt rfl) (vk rfl)) rfl <| Ac (Z9h rfl rfl (vt rfl) (vt rfl)) rfl <| Ac (Zp3 rfl rfl (vt rfl) (vk rfl)) rfl <| As rfl <| Nl <| Rg <| Md rfl <| Ac (Z08 rfl rfl (vt rfl) (vk rfl)) rfl <| As rfl <| Nl ?_
   subst hgo1
   exact ⟨(m9, (Z4a (IntKind.i64.wrap (n7 * (Z1r x11 1))) 1099511627776), (IntKind.i64.wrap (i8 + 1))), Nat.lt_succ_self _, ⟨trivial, h⟩, FX rfl⟩
  ·have h := Zg hc h
   refine AW.exit <| SR <| Md rfl <| As rfl <| Nl <| AW.ret ?_
   obtain rfl := si h
   exact Zi Tryz.results186 rfl (Z8 rfl)
def Za6 (l1 : (List Rule)) : Nat → Int → Int → Option Int
 | 0, _, _ => none
 | m6 + 1, n4, i5 => (bif (decide (i5 < (l1.length : Int))) then (lget l1 i5).bind fun e7 => (Z4g l1 i5).bind fun s8 => (Ze5 s8).bind fun x9 => (Zgn e7.Cube x9).bind fun x10 => (Za6 l1 m6) (Z1r n4 x10) (IntKind.i64.wrap (i5 + 1)) else some n4)
def Zha (l1 : (List Rule)) : Option Int :=
 Za6 l1 ((((l1.length : Int) : Int) - 0).toNat + 1) 0 0
theorem Ye7 (l1 : (List Rule)) (r : Int) (h : Zha l1 = some r) : PCon Tryz.prog 118 [rd (Z4 Zy) l1] (rd (Z0 .i64) r) := by
 refine PCon.of (Con.intro0 Tryz.func118 rfl Tryz.ntmps118 rfl fun w H => ?_)
 unfold Zha at h
 refine SR <| Ak rfl <| Nl <| SR <| Ak rfl <| Nl <| AW.seq <| SR <| Ak rfl <| Nl <| AW.block <| AW.loopG (d := []) (ν := Nat × Int × Int) (fun n => True ∧ Za6 l1 n.1 n.2.1 n.2.2 = some r) (fun n => n.1) (fun n => [(0, rd (Z4 Zy) l1), (3, rd (Z0 .i64) n.2.1), (4, rd (Z0 .i64) n.2.2)]) (fun n => []) (((((l1.length : Int) : Int) - 0).toNat + 1), 0, 0) ⟨trivial, h⟩ (FX rfl) ?_
 rintro ⟨m6, n4, i5⟩ ⟨hsf1, h⟩
 change True at hsf1
 change Za6 l1 m6 n4 i5 = some r at h
 change AW _ _ _ ⟨Zw [(0, rd (Z4 Zy) l1), (3, rd (Z0 .i64) n4), (4, rd (Z0 .i64) i5)], Zx [], _⟩
 cases m6 with
 | zero => cases h
 | succ m6 =>
  unfold Za6 at h
  generalize hgo1 : Za6 l1 m6 = go1 at h
  refine AW.seq <| SR <| Md rfl <| Md rfl <| Ac (Z0x rfl rfl Z2p (vt rfl)) rfl <| Ac (Zp rfl rfl (vt rfl) (vt rfl)) rfl <| Nl <| Cn rfl (fun hc => ?_) (fun hc => ?_)
  ·have h := Zf hc h
   refine AW.skip <| AW.seq <| AW.block ?_
   obtain ⟨e7, he7, h⟩ := Z1 h
   obtain ⟨s8, hs8, h⟩ := Z1 h
   obtain ⟨x9, hx9, h⟩ := Z1 h
   obtain ⟨x10, hx10, h⟩ := Z1 h
   refine AW.regionAny [⟨[3], [11], [], []⟩, ⟨[0], [12], [], []⟩, ⟨[4], [13], [], []⟩, ⟨[12, 13], [14], [], []⟩, ⟨[14], [15], [], []⟩, ⟨[15], [16], [], []⟩, ⟨[0], [17], [], []⟩, ⟨[4], [18], [], []⟩, ⟨[17, 18], [19], [], []⟩, ⟨[19], [20], [], []⟩, ⟨[16, 20], [21], [], []⟩, ⟨[11, 21], [22], [], []⟩, ⟨[22], [3], [], []⟩] Z05 (by kernel_rfl) <| Zu rfl <| Zu rfl <| Zu rfl <| Sc (lo [12, 13] [] rfl fun S hs hr => Z0r rfl rfl Z2p (vh hs 12 rfl rfl) (vh hs 13 rfl rfl) he7) rfl <| SFp Z6b Zfh rfl <| SLp Z03 rfl <| Zu rfl <| Zu rfl <| Sc (lo [17, 18] [] rfl fun S hs hr => Yd8 hs8 rfl rfl Z2p (vh hs 17 rfl rfl) (vh hs 18 rfl rfl)) rfl <| SCl [19] (Y86 _ _ hx9) Ydi rfl <| SCl [16, 20] (Y2i _ _ _ hx10) Y4g rfl <| Sc (lo [11, 21] [] rfl fun S hs hr => Zgb rfl rfl (vh hs 11 rfl rfl) (vh hs 21 rfl rfl)) rfl <| SAs rfl <| Rg <| Md rfl <| Ac (Z08 rfl rfl (vt rfl) (vk rfl)) rfl <| As rfl <| Nl ?_
   subst hgo1
   exact ⟨(m6, (Z1r n4 x10), (IntKind.i64.wrap (i5 + 1))), Nat.lt_succ_self _, ⟨trivial, h⟩, FX rfl⟩
  ·have h := Zg hc h
   refine AW.exit <| SR <| Md rfl <| As rfl <| Nl <| AW.ret ?_
   obtain rfl := si h
   exact Zi Tryz.results118 rfl (Z8 rfl)
def Zdi (s1 : Switch) : Option Int :=
 (Zel s1).bind fun x3 => (Zha x3).bind fun x4 => some x4
theorem Yc1 (s1 : Switch) (r : Int) (h : Zdi s1 = some r) : PCon Tryz.prog 59 [rd Z0h s1] (rd (Z0 .i64) r) := by
 refine PCon.of (Con.intro0 Tryz.func59 rfl Tryz.ntmps59 rfl fun w H => ?_)
 unfold Zdi at h
 refine SR <| Ct rfl (Zn 2 rfl rfl (vt rfl)) ?_
 rintro _ ⟨g2, rfl⟩
 refine Ak rfl <| Nl <| AW.seq ?_
 obtain ⟨x3, hx3, h⟩ := Z1 h
 obtain ⟨x4, hx4, h⟩ := Z1 h
 refine Rg <| Ld Z5z 2 rfl <| Cl [3] (Y6g _ _ hx3) e23 rfl <| Cl [4] (Ye7 _ _ hx4) Y8p rfl <| As rfl <| Nl <| AW.ret ?_
 obtain rfl := si h
 exact Zi Tryz.results59 rfl (Z8 rfl)
def Ziw (p1 : cover_purse) : Option (Bool × cover_purse) :=
 (bif p1.free then some (true, p1) else some ((decide (({ p1 with left := (IntKind.i64.wrap (p1.left - 1)) }.left) ≥ 0)), { p1 with left := (IntKind.i64.wrap (p1.left - 1)) }))
theorem Ydg (g2 gT : Nat) (p1 : cover_purse) (r : (Bool × cover_purse)) (h : Ziw p1 = some r) : Con Tryz.prog 278 [Z7 g2 (Lens.id Z5j)] (Z9 g2 gT Z5j p1) (fun _ : Unit => rd Zc r.1) (fun _ => Z9 g2 gT Z5j r.2) := by
 refine Con.intro Tryz.func278 rfl Tryz.ntmps278 rfl fun w H X => ?_
 unfold Ziw at h
 refine SR <| Ab rfl <| Nl <| AW.seq <| SR <| Mp rfl <| Nc rfl <| Zl Zrh Y59 rfl <| Ld ty4 0 rfl <| Nl <| Cn rfl (fun hc => ?_) (fun hc => ?_)
 ·have h := Zf hc h
  refine SR <| Ab rfl <| Nl <| AW.ret ?_
  obtain rfl := si h
  exact Zml (i := 0) Tryz.results278 rfl (Z8 rfl) rfl
 ·have h := Zg hc h
  refine AW.skip <| SR <| Mp rfl <| Nc rfl <| Zl Zi4 Zo4 rfl <| Ld ty3 0 rfl <| Ac (Z0j rfl rfl (vt rfl) (vk rfl)) rfl <| Nc rfl <| Zl Zi4 Zo4 rfl <| Zj ty3 0 rfl <| Nl <| SR <| Mp rfl <| Nc rfl <| Zl Zi4 Zo4 rfl <| Ld ty3 0 rfl <| Ac (Z4e rfl rfl (vt rfl) (vk rfl)) rfl <| As rfl <| Nl <| AW.ret ?_
  obtain rfl := si h
  exact Zml (i := 0) Tryz.results278 rfl (Z8 rfl) rfl
end Go.Proofs.YtknpgojdkobgjaaGreat.W
set_option maxRecDepth 4000
namespace Go.Proofs.YtknpgojdkobgjaaGreat.W
open Go Go.Wb
theorem Ye9 : Ent Tryz.prog 337 := Ent.mk Tryz.func337 rfl rfl
theorem Y82 : Ent Tryz.prog 316 := Ent.mk Tryz.func316 rfl rfl
theorem Zts : Ent Tryz.prog 331 := Ent.mk Tryz.func331 rfl rfl
theorem Y2t : Ent Tryz.prog 294 := Ent.mk Tryz.func294 rfl rfl
theorem Zxz : Ent Tryz.prog 319 := Ent.mk Tryz.func319 rfl rfl
def Zk4 (a1 : Tern) (b2 : Tern) : Option Bool :=
 (Z9k b2.Mask a1.Mask).bind fun x5 => (Zfi x5).bind fun x6 => (opt x6 (Zf6 b2 a1.Value)).bind fun x7 => some (x6 && x7)
theorem Y6q (a1 : Tern) (b2 : Tern) (r : Bool) (h : Zk4 a1 b2 = some r) : PCon Tryz.prog 337 [rd Z3 a1, rd Z3 b2] (rd Zc r) := by
 refine PCon.of (Con.intro0 Tryz.func337 rfl Tryz.ntmps337 rfl fun w H => ?_)
 unfold Zk4 at h
 refine SR <| Ct rfl (Zn 3 rfl rfl (vt rfl)) ?_
 rintro _ ⟨g3, rfl⟩
 refine Ct rfl (Zn 4 rfl rfl (vt rfl)) ?_
 rintro _ ⟨g4, rfl⟩
 refine Ab rfl <| Nl <| AW.seq ?_
 obtain ⟨x5, hx5, h⟩ := Z1 h
 obtain ⟨x6, hx6, h⟩ := Z1 h
 obtain ⟨x7, hx7, h⟩ := Z1 h
 refine Rg <| Zl Z0v Z1x rfl <| Ld Zv 4 rfl <| Zl Z0v Z1x rfl <| Ld Zv 3 rfl <| Cl [6, 8] (Zds _ _ _ hx5) Zfq rfl <| Cl [9] (Zru _ _ hx6) Zql rfl <| Md rfl <| Gd rfl (fun hq => Z37 rfl rfl Zz (vt rfl) (i := 4) rfl) <| Gd rfl (fun hq => Z40 Z1c rfl rfl Z2i (vt rfl)) <| Gd rfl (fun hq => Z37 rfl rfl Zv (Zs rfl hq) (i := 3) rfl) <| Gd rfl (fun hq => Z11 (xs := [.tmp 12, .tmp 14]) (Znv _ _ _ (Z2b hx7 hq)) Zom rfl rfl ⟨Zs rfl hq, Zs rfl hq, trivial⟩) <| Ac (Z1w rfl rfl (vt rfl) (vt rfl)) rfl <| As rfl <| Nl <| AW.ret ?_
 obtain rfl := si h
 exact Zi Tryz.results337 rfl (Z8 rfl)
def Z7q (b2 : Z5) : (List Tern) → Nat → Option Bool
 | [], i5 => some true
 | x7 :: l6, i5 => (chk 24 (i5 : Int)).bind fun j9 => (Zk4 x7 (Vector.get b2 j9)).bind fun x10 => (bif (!x10) then some false else (Z7q b2 l6) (i5 + 1))
def Zhc (a1 : Z5) (b2 : Z5) : Option Bool :=
 Z7q b2 (Vector.toList a1) 0
theorem Y5h (a1 : Z5) (b2 : Z5) (r : Bool) (h : Zhc a1 b2 = some r) : PCon Tryz.prog 316 [rd (Z2 24 Z3) a1, rd (Z2 24 Z3) b2] (rd Zc r) := by
 refine PCon.of (Con.intro0 Tryz.func316 rfl Tryz.ntmps316 rfl fun w H => ?_)
 unfold Zhc at h
 refine SR <| Ct rfl (Zn 3 rfl rfl (vt rfl)) ?_
 rintro _ ⟨g3, rfl⟩
 refine Ct rfl (Zn 4 rfl rfl (vt rfl)) ?_
 rintro _ ⟨g4, rfl⟩
 refine Ab rfl <| Nl <| AW.seq <| SR <| Ld Z03 3 rfl <| Mk rfl <| Nl <| AW.block <| AW.loopG (d := []) (ν := (List Tern) × Nat) (fun n => Sfx (Vector.toList a1) n.2 n.1 ∧ Z7q b2 n.1 n.2 = some r) (fun n => n.1.length) (fun n => [(3, Z7 g4 (Lens.id (Z2 24 Z3))), (7, rd (Z2 24 Z3) a1), (8, rd (Z0 .i64) (n.2 : Int))]) (fun n => [(4, Z9 g4 87 (Z2 24 Z3) b2)]) ((Vector.toList a1), 0) ⟨Sfx.start _, h⟩ (FX rfl) ?_
 rintro ⟨l6, i5⟩ ⟨hsf1, h⟩
 change Sfx (Vector.toList a1) i5 l6 at hsf1
 change Z7q b2 l6 i5 = some r at h
 change AW _ _ _ ⟨Zw [(3, Z7 g4 (Lens.id (Z2 24 Z3))), (7, rd (Z2 24 Z3) a1), (8, rd (Z0 .i64) (i5 : Int))], Zx [(4, Z9 g4 87 (Z2 24 Z3) b2)], _⟩
 cases l6 with
 | nil =>
  unfold Z7q at h
  refine SR <| Ac (Zp rfl rfl (vt rfl) (vk rfl)) rfl <| Nl <| AW.seq <| Cn rfl (fun hc => absurd (of_decide_eq_true hc) (hsf1.niln (by simp))) (fun hc => ?_)
  refine AW.exit <| SR <| Ab rfl <| Nl <| AW.ret ?_
  obtain rfl := si h
  exact Zi Tryz.results316 rfl (Z8 rfl)
 | cons x7 l6 =>
  unfold Z7q at h
  generalize hgo1 : Z7q b2 l6 = go1 at h
  refine SR <| Ac (Zp rfl rfl (vt rfl) (vk rfl)) rfl <| Nl <| AW.seq <| Cn rfl (fun hc => ?_) (fun hc => absurd (hsf1.consn (by simp)) (of_decide_eq_false hc))
  have hlti5 := of_decide_eq_true hc
  refine AW.skip <| AW.seq <| AW.block <| SR <| Md rfl <| Ac (Zb3 rfl rfl Z2a Zz (vt rfl) (vt rfl) hsf1.lget) rfl <| Ct rfl (Zq 7 rfl rfl Z1a) ?_
  rintro _ ⟨g8, rfl⟩
  refine As rfl <| Zj Zz 7 rfl <| Nl <| AW.seq ?_
  obtain ⟨j9, hj9, h⟩ := Z1 h
  obtain ⟨x10, hx10, h⟩ := Z1 h
  refine AW.regionAny [⟨[6], [12], [7], []⟩, ⟨[5], [13], [], []⟩, ⟨[3, 13], [14], [], []⟩, ⟨[14], [15], [4], []⟩, ⟨[12, 15], [16], [], []⟩, ⟨[16], [17], [], []⟩] Z05 (by kernel_rfl) <| Zo Zz 7 rfl <| Zu rfl <| Sc (lo [3, 13] [] rfl fun S hs hr => Z1b rfl rfl Z2a (vh hs 3 rfl rfl) (vh hs 13 rfl rfl) hj9) rfl <| Zo Zz 4 rfl <| SCl [12, 15] (Y6q _ _ _ hx10) Ye9 rfl <| Sc (lo [16] [] rfl fun S hs hr => Z19 rfl rfl (vh hs 16 rfl rfl)) rfl <| Cn rfl (fun hc => ?_) (fun hc => ?_)
  ·have h := Zf hc h
   refine SR <| Ab rfl <| Nl <| AW.ret ?_
   obtain rfl := si h
   exact Zi Tryz.results316 rfl (Z8 rfl)
  ·have h := Zg hc h
   refine AW.skip <| Rg <| Ac (Z6k rfl rfl (vt rfl) (vk rfl) rfl hlti5) rfl <| Md rfl <| Nl ?_
   subst hgo1
   exact ⟨(l6, i5 + 1), Nat.lt_succ_self _, ⟨hsf1.next, h⟩, FX rfl⟩
def Z5v (cu1 : Z5) : (List Z5) → Nat → Int → Option (Bool × Int)
 | [], i6, first5 => some (false, first5)
 | x8 :: l7, i6, first5 => (Zaj cu1 x8).bind fun x10 => (bif (!x10.2) then (Z5v cu1 l7) (i6 + 1) first5 else (Zhc cu1 x8).bind fun x12 => (bif x12 then some (true, (i6 : Int)) else (bif (decide (first5 < 0)) then (Z5v cu1 l7) (i6 + 1) (i6 : Int) else (Z5v cu1 l7) (i6 + 1) first5)))
def Zmi (cu1 : Z5) (l2 : (List Z5)) : Option (Bool × Int) :=
 Z5v cu1 l2 0 (-1)
theorem Yfd (cu1 : Z5) (l2 : (List Z5)) (r : (Bool × Int)) (h : Zmi cu1 l2 = some r) : PCon Tryz.prog 279 [rd (Z2 24 Z3) cu1, rd (Z4 (Z2 24 Z3)) l2] (Z1h (rd Zc r.1) (rd (Z0 .i64) r.2)) := by
 refine PCon.of (Con.intro0 Tryz.func279 rfl Tryz.ntmps279 rfl fun w H => ?_)
 unfold Zmi at h
 refine SR <| Ct rfl (Zn 3 rfl rfl (vt rfl)) ?_
 rintro _ ⟨g3, rfl⟩
 refine Ab rfl <| Ak rfl <| Nl <| SR <| Ak rfl <| Nl <| AW.seq <| SR <| Md rfl <| Ac (Z0x rfl rfl Z3u (vt rfl)) rfl <| Mk rfl <| Nl <| AW.block <| AW.loopG (d := []) (ν := (List Z5) × Nat × Int) (fun n => Sfx l2 n.2.1 n.1 ∧ Z5v cu1 n.1 n.2.1 n.2.2 = some r) (fun n => n.1.length) (fun n => [(2, Z7 g3 (Lens.id (Z2 24 Z3))), (6, rd (Z0 .i64) n.2.2), (11, rd (Z4 (Z2 24 Z3)) l2), (12, rd (Z0 .i64) (l2.length : Int)), (13, rd (Z0 .i64) (n.2.1 : Int))]) (fun n => [(3, Z9 g3 87 (Z2 24 Z3) cu1)]) (l2, 0, (-1)) ⟨Sfx.start _, h⟩ (FX rfl) ?_
 rintro ⟨l7, i6, first5⟩ ⟨hsf1, h⟩
 change Sfx l2 i6 l7 at hsf1
 change Z5v cu1 l7 i6 first5 = some r at h
 change AW _ _ _ ⟨Zw [(2, Z7 g3 (Lens.id (Z2 24 Z3))), (6, rd (Z0 .i64) first5), (11, rd (Z4 (Z2 24 Z3)) l2), (12, rd (Z0 .i64) (l2.length : Int)), (13, rd (Z0 .i64) (i6 : Int))], Zx [(3, Z9 g3 87 (Z2 24 Z3) cu1)], _⟩
 cases l7 with
 | nil =>
  unfold Z5v at h
  refine SR <| Ac (Zp rfl rfl (vt rfl) (vt rfl)) rfl <| Nl <| AW.seq <| Cn rfl (fun hc => absurd (of_decide_eq_true hc) hsf1.nil) (fun hc => ?_)
  refine AW.exit <| SR <| Md rfl <| Ab rfl <| As rfl <| Nl <| AW.ret ?_
  obtain rfl := si h
  exact Z25 Tryz.results279 rfl (Z8 rfl) (Z8 rfl)
 | cons x8 l7 =>
  unfold Z5v at h
  generalize hgo1 : Z5v cu1 l7 = go1 at h
  refine SR <| Ac (Zp rfl rfl (vt rfl) (vt rfl)) rfl <| Nl <| AW.seq <| Cn rfl (fun hc => ?_) (fun hc => absurd hsf1.cons (of_decide_eq_false hc))
  have hlti6 := of_decide_eq_true hc
  refine AW.skip <| AW.seq <| AW.block <| SR <| Md rfl <| Ac (Z0r rfl rfl Z3u (vt rfl) (vt rfl) hsf1.lget) rfl <| Lp1 Z03 rfl <| Ct rfl (Zq 9 rfl rfl Z15) ?_
  rintro _ ⟨g9, rfl⟩
  refine As rfl <| Zj Z03 9 rfl <| Nl <| AW.seq ?_
  obtain ⟨x10, hx10, h⟩ := Z1 h
  refine Rg <| Ld Z03 3 rfl <| Ld Z03 9 rfl <| Cl [19, 20] (Zqw _ _ _ hx10) Zq7 rfl <| Mt2 rfl <| Ac (Z1s rfl rfl (vt rfl)) rfl <| Ac (Z1t rfl rfl (vt rfl)) rfl <| Ct rfl (Zq 10 rfl rfl Z15) ?_
  rintro _ ⟨g11, rfl⟩
  refine Zj Z03 10 rfl <| As rfl <| Nl <| AW.block <| SR <| Md rfl <| Ac (Z19 rfl rfl (vt rfl)) rfl <| As rfl <| Nl <| Cn rfl (fun hc => ?_) (fun hc => ?_)
  ·have h := Zf hc h
   refine AW.skip <| Rg <| Ac (Z22 (t := 12) rfl rfl (vt rfl) (vk rfl) (vt rfl) hlti6) rfl <| Md rfl <| Nl ?_
   subst hgo1
   exact ⟨(l7, i6 + 1, first5), Nat.lt_succ_self _, ⟨hsf1.next, h⟩, FX rfl⟩
  ·have h := Zg hc h
   refine AW.seq ?_
   obtain ⟨x12, hx12, h⟩ := Z1 h
   refine Rg <| Ld Z03 3 rfl <| Ld Z03 9 rfl <| Cl [28, 29] (Y5h _ _ _ hx12) Y82 rfl <| As rfl <| Nl <| Cn rfl (fun hc => ?_) (fun hc => ?_)
   ·have h := Zf hc h
    refine SR <| Md rfl <| Ab rfl <| As rfl <| Nl <| AW.ret ?_
    obtain rfl := si h
    exact Z25 Tryz.results279 rfl (Z8 rfl) (Z8 rfl)
   ·have h := Zg hc h
    refine SR <| Md rfl <| Ac (Zp rfl rfl (vt rfl) (vk rfl)) rfl <| As rfl <| Nl <| Cn rfl (fun hc => ?_) (fun hc => ?_)
    ·have h := Zf hc h
     refine Rg <| Md rfl <| As rfl <| Nl <| Rg <| Ac (Z22 (t := 12) rfl rfl (vt rfl) (vk rfl) (vt rfl) hlti6) rfl <| Md rfl <| Nl ?_
     subst hgo1
     exact ⟨(l7, i6 + 1, (i6 : Int)), Nat.lt_succ_self _, ⟨hsf1.next, h⟩, FX rfl⟩
    ·have h := Zg hc h
     refine AW.skip <| Rg <| Ac (Z22 (t := 12) rfl rfl (vt rfl) (vk rfl) (vt rfl) hlti6) rfl <| Md rfl <| Nl ?_
     subst hgo1
     exact ⟨(l7, i6 + 1, first5), Nat.lt_succ_self _, ⟨hsf1.next, h⟩, FX rfl⟩
def Z65 : (List Tern) → Nat → Z0l → Option Z0l
 | [], i7, b6 => some b6
 | x9 :: l8, i7, b6 => (Z5y x9).bind fun x11 => (chk 24 (i7 : Int)).bind fun j12 => (Z65 l8) (i7 + 1) (Vector.set b6 j12.1 x11.Value j12.2)
def Zig (cu1 : Z5) : Option Z0l :=
 Z65 (Vector.toList cu1) 0 (Vector.replicate 24 Z0a)
theorem Y8z (cu1 : Z5) (r : Z0l) (h : Zig cu1 = some r) : PCon Tryz.prog 70 [rd (Z2 24 Z3) cu1] (rd (Z2 24 Zh) r) := by
 refine PCon.of (Con.intro0 Tryz.func70 rfl Tryz.ntmps70 rfl fun w H => ?_)
 unfold Zig at h
 refine SR <| Ct rfl (Zn 2 rfl rfl (vt rfl)) ?_
 rintro _ ⟨g2, rfl⟩
 refine Ct rfl (Zq 3 rfl rfl Z3m) ?_
 rintro _ ⟨g3, rfl⟩
 refine Nl <| SR <| Ct rfl (Zq 4 rfl rfl Z3m) ?_
 rintro _ ⟨g4, rfl⟩
 refine Nl <| AW.seq <| SR <| Ld Z03 2 rfl <| Mk rfl <| Nl <| AW.block <| AW.loopG (d := []) (ν := (List Tern) × Nat × Z0l) (fun n => Sfx (Vector.toList cu1) n.2.1 n.1 ∧ Z65 n.1 n.2.1 n.2.2 = some r) (fun n => n.1.length) (fun n => [(2, Z7 g3 (Lens.id (Z2 24 Zh))), (3, Z7 g4 (Lens.id (Z2 24 Zh))), (6, rd (Z2 24 Z3) cu1), (7, rd (Z0 .i64) (n.2.1 : Int))]) (fun n => [(3, Z9 g3 44 (Z2 24 Zh) (Vector.replicate 24 Z0a)), (4, Z9 g4 44 (Z2 24 Zh) n.2.2)]) ((Vector.toList cu1), 0, (Vector.replicate 24 Z0a)) ⟨Sfx.start _, h⟩ (FX rfl) ?_
 rintro ⟨l8, i7, b6⟩ ⟨hsf1, h⟩
 change Sfx (Vector.toList cu1) i7 l8 at hsf1
 change Z65 l8 i7 b6 = some r at h
 change AW _ _ _ ⟨Zw [(2, Z7 g3 (Lens.id (Z2 24 Zh))), (3, Z7 g4 (Lens.id (Z2 24 Zh))), (6, rd (Z2 24 Z3) cu1), (7, rd (Z0 .i64) (i7 : Int))], Zx [(3, Z9 g3 44 (Z2 24 Zh) (Vector.replicate 24 Z0a)), (4, Z9 g4 44 (Z2 24 Zh) b6)], _⟩
 cases l8 with
 | nil =>
  unfold Z65 at h
  refine SR <| Ac (Zp rfl rfl (vt rfl) (vk rfl)) rfl <| Nl <| AW.seq <| Cn rfl (fun hc => absurd (of_decide_eq_true hc) (hsf1.niln (by simp))) (fun hc => ?_)
  refine AW.exit <| SR <| Ld Z0w 4 rfl <| Zj Z0w 3 rfl <| Nl <| AW.ret ?_
  obtain rfl := si h
  exact Zi Tryz.results70 rfl (Z01 rfl (i := 3) rfl Z0w)
 | cons x9 l8 =>
  unfold Z65 at h
  generalize hgo1 : Z65 l8 = go1 at h
  refine SR <| Ac (Zp rfl rfl (vt rfl) (vk rfl)) rfl <| Nl <| AW.seq <| Cn rfl (fun hc => ?_) (fun hc => absurd (hsf1.consn (by simp)) (of_decide_eq_false hc))
  have hlti7 := of_decide_eq_true hc
  refine AW.skip <| AW.seq <| AW.block <| SR <| Md rfl <| Ac (Zb3 rfl rfl Z2a Zz (vt rfl) (vt rfl) hsf1.lget) rfl <| Ct rfl (Zq 6 rfl rfl Z1a) ?_
  rintro _ ⟨g10, rfl⟩
  refine As rfl <| Zj Zz 6 rfl <| Nl ?_
  obtain ⟨x11, hx11, h⟩ := Z1 h
  obtain ⟨j12, hj12, h⟩ := Z1 h
  refine Rg <| Md rfl <| Ld Zz 6 rfl <| Cl [12] (Z9j _ _ hx11) Z9p rfl <| Ac (Zur Z1c rfl rfl Z2i Y4h Zv rfl (vt rfl)) rfl <| Ac (Z1b rfl rfl Zk9 (vt rfl) (vt rfl) hj12) rfl <| Zj Zv 4 rfl <| Nl <| Rg <| Ac (Z6k rfl rfl (vt rfl) (vk rfl) rfl hlti7) rfl <| Md rfl <| Nl ?_
  subst hgo1
  exact ⟨(l8, i7 + 1, (Vector.set b6 j12.1 x11.Value j12.2)), Nat.lt_succ_self _, ⟨hsf1.next, h⟩, FX rfl⟩
def Zg1 (x1 : (BitVec 64)) : Option Int :=
 (Z38 x1 ((1 : BitVec 64).toNat : Int)).bind fun q2 => (Z38 ((q2 &&& (6148914691236517205 : BitVec 64)) + (x1 &&& (6148914691236517205 : BitVec 64))) ((2 : BitVec 64).toNat : Int)).bind fun q3 => (Z38 ((q3 &&& (3689348814741910323 : BitVec 64)) + (((q2 &&& (6148914691236517205 : BitVec 64)) + (x1 &&& (6148914691236517205 : BitVec 64))) &&& (3689348814741910323 : BitVec 64))) ((4 : BitVec 64).toNat : Int)).bind fun q4 => (Z38 ((q4 + ((q3 &&& (3689348814741910323 : BitVec 64)) + (((q2 &&& (6148914691236517205 : BitVec 64)) + (x1 &&& (6148914691236517205 : BitVec 64))) &&& (3689348814741910323 : BitVec 64)))) &&& (1085102592571150095 : BitVec 64)) ((8 : BitVec 64).toNat : Int)).bind fun q5 => (Z38 (((q4 + ((q3 &&& (3689348814741910323 : BitVec 64)) + (((q2 &&& (6148914691236517205 : BitVec 64)) + (x1 &&& (6148914691236517205 : BitVec 64))) &&& (3689348814741910323 : BitVec 64)))) &&& (1085102592571150095 : BitVec 64)) + q5) ((16 : BitVec 64).toNat : Int)).bind fun q6 => (Z38 ((((q4 + ((q3 &&& (3689348814741910323 : BitVec 64)) + (((q2 &&& (6148914691236517205 : BitVec 64)) + (x1 &&& (6148914691236517205 : BitVec 64))) &&& (3689348814741910323 : BitVec 64)))) &&& (1085102592571150095 : BitVec 64)) + q5) + q6) ((32 : BitVec 64).toNat : Int)).bind fun q7 => some (Zph .and .i64 (IntKind.i64.wrap ((((((q4 + ((q3 &&& (3689348814741910323 : BitVec 64)) + (((q2 &&& (6148914691236517205 : BitVec 64)) + (x1 &&& (6148914691236517205 : BitVec 64))) &&& (3689348814741910323 : BitVec 64)))) &&& (1085102592571150095 : BitVec 64)) + q5) + q6) + q7).toNat : Int)) 127)
theorem Zuk (x1 : (BitVec 64)) (r : Int) (h : Zg1 x1 = some r) : PCon Tryz.prog 331 [rd Z0q x1] (rd (Z0 .i64) r) := by
 refine PCon.of (Con.intro0 Tryz.func331 rfl Tryz.ntmps331 rfl fun w H => ?_)
 unfold Zg1 at h
 refine SR <| Ak rfl <| Nl <| AW.seq ?_
 obtain ⟨q2, hq2, h⟩ := Z1 h
 refine Rg <| Md rfl <| Ac (Z4u rfl rfl (vt rfl) (Z4b (vku (1 : BitVec 64) rfl)) hq2) rfl <| Ac (Z83 rfl rfl (vt rfl) (vku (6148914691236517205 : BitVec 64) rfl)) rfl <| Md rfl <| Ac (Z83 rfl rfl (vt rfl) (vku (6148914691236517205 : BitVec 64) rfl)) rfl <| Ac (Zf3 rfl rfl (vt rfl) (vt rfl)) rfl <| As rfl <| Nl <| AW.seq ?_
 obtain ⟨q3, hq3, h⟩ := Z1 h
 refine Rg <| Md rfl <| Ac (Z4u rfl rfl (vt rfl) (Z4b (vku (2 : BitVec 64) rfl)) hq3) rfl <| Ac (Z83 rfl rfl (vt rfl) (vku (3689348814741910323 : BitVec 64) rfl)) rfl <| Md rfl <| Ac (Z83 rfl rfl (vt rfl) (vku (3689348814741910323 : BitVec 64) rfl)) rfl <| Ac (Zf3 rfl rfl (vt rfl) (vt rfl)) rfl <| As rfl <| Nl <| AW.seq ?_
 obtain ⟨q4, hq4, h⟩ := Z1 h
 refine Rg <| Md rfl <| Ac (Z4u rfl rfl (vt rfl) (Z4b (vku (4 : BitVec 64) rfl)) hq4) rfl <| Md rfl <| Ac (Zf3 rfl rfl (vt rfl) (vt rfl)) rfl <| Ac (Z83 rfl rfl (vt rfl) (vku (1085102592571150095 : BitVec 64) rfl)) rfl <| As rfl <| Nl <| AW.seq ?_
 obtain ⟨q5, hq5, h⟩ := Z1 h
 refine Rg <| Md rfl <| Md rfl <| Ac (Z4u rfl rfl (vt rfl) (Z4b (vku (8 : BitVec 64) rfl)) hq5) rfl <| Ac (Zf3 rfl rfl (vt rfl) (vt rfl)) rfl <| As rfl <| Nl <| AW.seq ?_
 obtain ⟨q6, hq6, h⟩ := Z1 h
 refine Rg <| Md rfl <| Md rfl <| Ac (Z4u rfl rfl (vt rfl) (Z4b (vku (16 : BitVec 64) rfl)) hq6) rfl <| Ac (Zf3 rfl rfl (vt rfl) (vt rfl)) rfl <| As rfl <| Nl <| AW.seq ?_
 obtain ⟨q7, hq7, h⟩ := Z1 h
 refine Rg <| Md rfl <| Md rfl <| Ac (Z4u rfl rfl (vt rfl) (Z4b (vku (32 : BitVec 64) rfl)) hq7) rfl <| Ac (Zf3 rfl rfl (vt rfl) (vt rfl)) rfl <| As rfl <| Nl <| SR <| Md rfl <| Ac (Z99 rfl rfl Yeh un3 (vt rfl)) rfl <| Ac (Y4o rfl rfl (vt rfl) (vk rfl)) rfl <| As rfl <| Nl <| AW.ret ?_
 obtain rfl := si h
 exact Zi Tryz.results331 rfl (Z8 rfl)
def Zge (a1 : Wide) : Option Int :=
 (Zg1 a1.Hi).bind fun x3 => (Zg1 a1.Lo).bind fun x4 => some (IntKind.i64.wrap (x3 + x4))
theorem Yar (a1 : Wide) (r : Int) (h : Zge a1 = some r) : PCon Tryz.prog 294 [rd Zh a1] (rd (Z0 .i64) r) := by
 refine PCon.of (Con.intro0 Tryz.func294 rfl Tryz.ntmps294 rfl fun w H => ?_)
 unfold Zge at h
 refine SR <| Ct rfl (Zn 2 rfl rfl (vt rfl)) ?_
 rintro _ ⟨g2, rfl⟩
 refine Ak rfl <| Nl <| AW.seq ?_
 obtain ⟨x3, hx3, h⟩ := Z1 h
 obtain ⟨x4, hx4, h⟩ := Z1 h
 refine AW.regionAny [⟨[1], [3], [], []⟩, ⟨[3], [4], [2], []⟩, ⟨[4], [5], [], []⟩, ⟨[1], [6], [], []⟩, ⟨[6], [7], [2], []⟩, ⟨[7], [8], [], []⟩, ⟨[5, 8], [9], [], []⟩, ⟨[9], [2], [], []⟩] Z05 (by kernel_rfl) <| SFd Z28 Z3o rfl <| Zo Z1d 2 rfl <| SCl [4] (Zuk _ _ hx3) Zts rfl <| SFd Z1y Z3j rfl <| Zo Z1d 2 rfl <| SCl [7] (Zuk _ _ hx4) Zts rfl <| Sc (lo [5, 8] [] rfl fun S hs hr => Z08 rfl rfl (vh hs 5 rfl rfl) (vh hs 8 rfl rfl)) rfl <| SAs rfl <| AW.ret ?_
 obtain rfl := si h
 exact Zi Tryz.results294 rfl (Z8 rfl)
def Zfz (a1 : Wide) (i2 : Int) : Option Bool :=
 (Zax i2).bind fun x4 => (Zam a1 x4).bind fun x5 => (Zfi x5).bind fun x6 => some (!x6)
theorem Zzv (a1 : Wide) (i2 : Int) (r : Bool) (h : Zfz a1 i2 = some r) : PCon Tryz.prog 319 [rd Zh a1, rd (Z0 .i64) i2] (rd Zc r) := by
 refine PCon.of (Con.intro0 Tryz.func319 rfl Tryz.ntmps319 rfl fun w H => ?_)
 unfold Zfz at h
 refine SR <| Ct rfl (Zn 3 rfl rfl (vt rfl)) ?_
 rintro _ ⟨g3, rfl⟩
 refine Ab rfl <| Nl <| AW.seq ?_
 obtain ⟨x4, hx4, h⟩ := Z1 h
 obtain ⟨x5, hx5, h⟩ := Z1 h
 obtain ⟨x6, hx6, h⟩ := Z1 h
 refine AW.regionAny [⟨[2], [5], [3], []⟩, ⟨[1], [6], [], []⟩, ⟨[6], [7], [], []⟩, ⟨[5, 7], [8], [], []⟩, ⟨[8], [9], [], []⟩, ⟨[9], [10], [], []⟩, ⟨[10], [4], [], []⟩] Z05 (by kernel_rfl) <| Zo Zv 3 rfl <| Zu rfl <| SCl [6] (Zn4 _ _ hx4) Zmg rfl <| SCl [5, 7] (Zh1 _ _ _ hx5) Zhi rfl <| SCl [8] (Zru _ _ hx6) Zql rfl <| Sc (lo [9] [] rfl fun S hs hr => Z19 rfl rfl (vh hs 9 rfl rfl)) rfl <| SAs rfl <| AW.ret ?_
 obtain rfl := si h
 exact Zi Tryz.results319 rfl (Z8 rfl)
def Z7t (x5 : Wide) : Nat → (List Int) → Int → Option (List Int)
 | 0, _, _ => none
 | m13 + 1, l10, i12 => (opt (decide (i12 ≥ 0)) (Zge x5)).bind fun x14 => (bif ((decide (i12 ≥ 0)) && (decide ((l10.length : Int) < x14))) then (Zfz x5 i12).bind fun x15 => (bif x15 then (Z0u l10 [i12]).bind fun l16 => (Z7t x5 m13) l16 (IntKind.i64.wrap (i12 - 1)) else (Z7t x5 m13) l10 (IntKind.i64.wrap (i12 - 1))) else some l10)
def Zgq (a1 : Tern) (b2 : Tern) : Option (List Int) :=
 (Z9k b2.Mask a1.Mask).bind fun x5 => Z7t x5 Z0y [] 127
theorem Y53 (a1 : Tern) (b2 : Tern) (r : (List Int)) (h : Zgq a1 b2 = some r) : PCon Tryz.prog 318 [rd Z3 a1, rd Z3 b2] (rd (Z4 (Z0 .i64)) r) := by
 refine PCon.of (Con.intro0 Tryz.func318 rfl Tryz.ntmps318 rfl fun w H => ?_)
 unfold Zgq at h
 refine SR <| Ct rfl (Zn 3 rfl rfl (vt rfl)) ?_
 rintro _ ⟨g3, rfl⟩
 refine Ct rfl (Zn 4 rfl rfl (vt rfl)) ?_
 rintro _ ⟨g4, rfl⟩
 refine Ac (Z02 (A := rd (Z4 (Z0 .i64)) []) rfl rfl Z1u) rfl <| Nl <| AW.seq ?_
 obtain ⟨x5, hx5, h⟩ := Z1 h
 refine Rg <| Zl Z0v Z1x rfl <| Ld Zv 4 rfl <| Zl Z0v Z1x rfl <| Ld Zv 3 rfl <| Cl [9, 11] (Zds _ _ _ hx5) Zfq rfl <| Ct rfl (Zq 6 rfl rfl Z1l) ?_
 rintro _ ⟨g6, rfl⟩
 refine Zj Zv 6 rfl <| Nl <| AW.seq <| AW.newnil 1001 3 (Z0 .i64) <| Rg <| Ac (Z02 rfl rfl vc) rfl <| Nl <| AW.seq <| SR <| Ak rfl <| Nl <| AW.block <| AW.loopG (d := []) (ν := Nat × (List Int) × Int × Value) (fun n => True ∧ Z7t x5 n.1 n.2.1 n.2.2.1 = some r) (fun n => n.1) (fun n => [(5, Z7 g6 (Lens.id Zh)), (6, Ze n.2.2.2), (7, rd (Z0 .i64) n.2.2.1)]) (fun n => [(6, Z9 g6 42 Zh x5), (1001, Zb n.2.2.2 3 (Z0 .i64) n.2.1)]) (Z0y, [], 127, (.slice none 0 0)) ⟨trivial, h⟩ (FX rfl) ?_
 rintro ⟨m13, l10, i12, v11⟩ ⟨hsf1, h⟩
 change True at hsf1
 change Z7t x5 m13 l10 i12 = some r at h
 change AW _ _ _ ⟨Zw [(5, Z7 g6 (Lens.id Zh)), (6, Ze v11), (7, rd (Z0 .i64) i12)], Zx [(6, Z9 g6 42 Zh x5), (1001, Zb v11 3 (Z0 .i64) l10)], _⟩
 cases m13 with
 | zero => cases h
 | succ m13 =>
  unfold Z7t at h
  generalize hgo1 : Z7t x5 m13 = go1 at h
  refine AW.seq <| AW.seq ?_
  obtain ⟨x14, hx14, h⟩ := Z1 h
  refine Rg <| Md rfl <| Ac (Z4e rfl rfl (vt rfl) (vk rfl)) rfl <| Md rfl <| Gd rfl (fun hq => Zt (A := Ze v11) rfl rfl (vt rfl)) <| Gd rfl (fun hq => Z5q 1001 rfl rfl Z0t (Zs rfl hq) rfl) <| Gd rfl (fun hq => Z37 rfl rfl Zv (vt rfl) (i := 6) rfl) <| Gd rfl (fun hq => Z11 (xs := [.tmp 18]) (Yar _ _ (Z2b hx14 hq)) Y2t rfl rfl ⟨Zs rfl hq, trivial⟩) <| Gd rfl (fun hq => Zp rfl rfl (Zs rfl hq) (Zs rfl hq)) <| Ac (Z1w rfl rfl (vt rfl) (vt rfl)) rfl <| Nl <| Cn rfl (fun hc => ?_) (fun hc => ?_)
  ·have h := Zf hc h
   refine AW.skip <| AW.seq <| AW.block <| AW.seq ?_
   obtain ⟨x15, hx15, h⟩ := Z1 h
   refine Rg <| Ld Zv 6 rfl <| Md rfl <| Cl [24, 25] (Zzv _ _ _ hx15) Zxz rfl <| Nl <| Cn rfl (fun hc => ?_) (fun hc => ?_)
   ·have h := Zf hc h
    obtain ⟨l16, hl16, h⟩ := Z1 h
    refine Rg <| Mw rfl <| Md rfl <| Ac (Z2g (ps := [(0, .tmp 28)]) (l := [i12]) rfl rfl Z0t zr3 rfl rfl ⟨_, _, Lens.idx 1 (Z0 .i64) 0 (by decide), _, rfl, (vt rfl), rfl⟩ rfl) rfl <| Ct rfl (Z2m 1001 hl16 rfl rfl Zix (vt rfl) rfl (vt rfl)) ?_
    rintro _ ⟨v17, rfl⟩
    refine Aw rfl <| Nl <| Rg <| Md rfl <| Ac (Z0j rfl rfl (vt rfl) (vk rfl)) rfl <| As rfl <| Nl ?_
    subst hgo1
    exact ⟨(m13, l16, (IntKind.i64.wrap (i12 - 1)), v17), Nat.lt_succ_self _, ⟨trivial, h⟩, FX rfl⟩
   ·have h := Zg hc h
    refine AW.skip <| Rg <| Md rfl <| Ac (Z0j rfl rfl (vt rfl) (vk rfl)) rfl <| As rfl <| Nl ?_
    subst hgo1
    exact ⟨(m13, l10, (IntKind.i64.wrap (i12 - 1)), v11), Nat.lt_succ_self _, ⟨trivial, h⟩, FX rfl⟩
  ·have h := Zg hc h
   refine AW.exit <| SR <| Mw rfl <| Aw rfl <| Nl <| AW.freezes [4, 6, 31] 1001 rfl ⟨rfl, rfl, rfl, trivial⟩ rfl <| AW.ret ?_
   obtain rfl := si h
   exact Zi Tryz.results318 rfl (Z8 rfl)
def Zga (t1 : Tern) (i2 : Int) (on3 : Bool) : Option Tern :=
 (Zax i2).bind fun x6 => (Z5y t1).bind fun x8 => (Z6z x8.Mask x6).bind fun x9 => (Z9k x8.Value x6).bind fun x10 => (bif on3 then (Z6z ({ { x8 with Mask := x9 } with Value := x10 }.Value) x6).bind fun x11 => some { { { x8 with Mask := x9 } with Value := x10 } with Value := x11 } else some { { x8 with Mask := x9 } with Value := x10 })
theorem Zub (t1 : Tern) (i2 : Int) (on3 : Bool) (r : Tern) (h : Zga t1 i2 on3 = some r) : PCon Tryz.prog 320 [rd Z3 t1, rd (Z0 .i64) i2, rd Zc on3] (rd Z3 r) := by
 refine PCon.of (Con.intro0 Tryz.func320 rfl Tryz.ntmps320 rfl fun w H => ?_)
 unfold Zga at h
 refine SR <| Ct rfl (Zn 4 rfl rfl (vt rfl)) ?_
 rintro _ ⟨g4, rfl⟩
 refine Ct rfl (Zq 7 rfl rfl Z1a) ?_
 rintro _ ⟨g5, rfl⟩
 refine Nl <| AW.seq ?_
 obtain ⟨x6, hx6, h⟩ := Z1 h
 refine Rg <| Md rfl <| Cl [8] (Zn4 _ _ hx6) Zmg rfl <| Ct rfl (Zq 8 rfl rfl Z1l) ?_
 rintro _ ⟨g7, rfl⟩
 refine Zj Zv 8 rfl <| Nl <| AW.seq ?_
 obtain ⟨x8, hx8, h⟩ := Z1 h
 refine Rg <| Ld Zz 4 rfl <| Cl [10] (Z9j _ _ hx8) Z9p rfl <| Zj Zz 4 rfl <| Nl <| AW.seq ?_
 obtain ⟨x9, hx9, h⟩ := Z1 h
 obtain ⟨x10, hx10, h⟩ := Z1 h
 refine AW.regionAny [⟨[3], [12], [], []⟩, ⟨[12], [13], [4], []⟩, ⟨[7], [14], [8], []⟩, ⟨[13, 14], [15], [], []⟩, ⟨[3], [16], [], []⟩, ⟨[16], [17], [4], []⟩, ⟨[7], [18], [8], []⟩, ⟨[17, 18], [19], [], []⟩, ⟨[3], [20], [], []⟩, ⟨[20, 15], [], [4], [4]⟩, ⟨[3], [21], [], []⟩, ⟨[21, 19], [], [4], [4]⟩] Z05 (by kernel_rfl) <| SFd Z0v Z1x rfl <| Zo Zv 4 rfl <| Zo Zv 8 rfl <| SCl [13, 14] (Zbi _ _ _ hx9) Zcy rfl <| SFd Z1c Z2i rfl <| Zo Zv 4 rfl <| Zo Zv 8 rfl <| SCl [17, 18] (Zds _ _ _ hx10) Zfq rfl <| SFd Z0v Z1x rfl <| SSt Zv 4 rfl <| SFd Z1c Z2i rfl <| SSt Zv 4 rfl <| AW.seq <| SR <| Md rfl <| Nl <| Cn rfl (fun hc => ?_) (fun hc => ?_)
 ·have h := Zf hc h
  obtain ⟨x11, hx11, h⟩ := Z1 h
  refine Rg <| Zl Z1c Z2i rfl <| Ld Zv 4 rfl <| Ld Zv 8 rfl <| Cl [24, 25] (Zbi _ _ _ hx11) Zcy rfl <| Zl Z1c Z2i rfl <| Zj Zv 4 rfl <| Nl <| SR <| Ld Zz 4 rfl <| Zj Zz 7 rfl <| Nl <| AW.ret ?_
  obtain rfl := si h
  exact Zi Tryz.results320 rfl (Z01 rfl (i := 7) rfl Zz)
 ·have h := Zg hc h
  refine AW.skip <| SR <| Ld Zz 4 rfl <| Zj Zz 7 rfl <| Nl <| AW.ret ?_
  obtain rfl := si h
  exact Zi Tryz.results320 rfl (Z01 rfl (i := 7) rfl Zz)
end Go.Proofs.YtknpgojdkobgjaaGreat.W
set_option maxRecDepth 4000
namespace Go.Proofs.YtknpgojdkobgjaaGreat.W
open Go Go.Wb
theorem Y44 : Ent Tryz.prog 318 := Ent.mk Tryz.func318 rfl rfl
theorem Zys : Ent Tryz.prog 320 := Ent.mk Tryz.func320 rfl rfl
theorem Ygu : Ent Tryz.prog 317 := Ent.mk Tryz.func317 rfl rfl
theorem Y8k : Ent Tryz.prog 278 := Ent.mk Tryz.func278 rfl rfl
theorem Ygr : Ent Tryz.prog 279 := Ent.mk Tryz.func279 rfl rfl
theorem e70 : Ent Tryz.prog 70 := Ent.mk Tryz.func70 rfl rfl
theorem Ygw : Ent Tryz.prog 280 := Ent.mk Tryz.func280 rfl rfl
theorem Zwv : Ent Tryz.prog 235 := Ent.mk Tryz.func235 rfl rfl
theorem Y5l : Ent Tryz.prog 240 := Ent.mk Tryz.func240 rfl rfl
theorem Yav : Ent Tryz.prog 179 := Ent.mk Tryz.func179 rfl rfl
theorem Ztg : Ent Tryz.prog 170 := Ent.mk Tryz.func170 rfl rfl
theorem Yen : Ent Tryz.prog 288 := Ent.mk Tryz.func288 rfl rfl
def Z7y (sg : Type) (go1 : Nat → Z5 → (Lp sg) → Option (Lp sg)) (i14 : Nat) (x16 : Tern) (yield1 : (sg → Z5 → Option (Lp sg))) : (List Int) → Nat → Z5 → (Lp sg) → Option (Lp sg)
 | [], i24, b22, s23 => go1 (i14 + 1) b22 s23
 | x26 :: l25, i24, b22, s23 => (Zfz x16.Value x26).bind fun x27 => (chk 24 (i14 : Int)).bind fun j29 => (Zga (Vector.get b22 j29) x26 (!x27)).bind fun x30 => (chk 24 (i14 : Int)).bind fun j31 => (yc yield1 s23 (Vector.set b22 j31.1 x30 j31.2)).bind fun s32 => (bif (!(Lp.isGo s32)) then some s32 else (chk 24 (i14 : Int)).bind fun j33 => (Zga (Vector.get b22 j33) x26 x27).bind fun x34 => (chk 24 (i14 : Int)).bind fun j35 => (Z7y sg go1 i14 x16 yield1 l25) (i24 + 1) (Vector.set b22 j35.1 x34 j35.2) s32)
def Z7j (sg : Type) (yield1 : (sg → Z5 → Option (Lp sg))) : (List Tern) → Nat → Z5 → (Lp sg) → Option (Lp sg)
 | [], i14, b12, s13 => some s13
 | x16 :: l15, i14, b12, s13 => (chk 24 (i14 : Int)).bind fun j18 => (Zgq (Vector.get b12 j18) x16).bind fun x19 => (bif (decide ((x19.length : Int) = 0)) then (Z7j sg yield1 l15) (i14 + 1) b12 s13 else Z7y sg (Z7j sg yield1 l15) i14 x16 yield1 x19 0 b12 s13)
def Zao (sg : Type) (yield1 : (sg → Z5 → Option (Lp sg))) (s2 : (Lp sg)) (cp3 : Z5) (cp4 : Z5) : Option (Lp sg) :=
 (Zef cp3).bind fun x5 => (Zaj cp3 cp4).bind fun x7 => (bif (!x7.2) then (yc yield1 s2 x5).bind fun s9 => some s9 else Z7j sg yield1 (Vector.toList cp4) 0 x5 s2)
theorem Yai (sg : Type) (yield1 : (sg → Z5 → Option (Lp sg))) (L : Lp sg → Res) (s2 : (Lp sg)) (cp3 : Z5) (cp4 : Z5) (r : (Lp sg)) (h : Zao sg yield1 s2 cp3 cp4 = some r) : Con Tryz.prog 317 [ydA Tryz.prog (Z2 24 Z3) yield1 L, rp (Z2 24 Z3) cp3, rp (Z2 24 Z3) cp4] (L s2) (fun _ : Unit => top) (fun _ => L r) := by
 refine Con.intro Tryz.func317 rfl Tryz.ntmps317 rfl fun w H X => ?_
 unfold Zao at h
 refine AW.scope <| AW.seq ?_
 obtain ⟨x5, hx5, h⟩ := Z1 h
 refine Rg <| Lp1 Z03 rfl <| Cl [14] (Y19 _ _ hx5) Zvq rfl <| Ct rfl (Zq 5 rfl rfl Z15) ?_
 rintro _ ⟨g6, rfl⟩
 refine Zj Z03 5 rfl <| Nl <| AW.seq <| AW.seq ?_
 obtain ⟨x7, hx7, h⟩ := Z1 h
 refine Rg <| Lp1 Z03 rfl <| Lp1 Z03 rfl <| Cl [17, 18] (Zqw _ _ _ hx7) Zq7 rfl <| Mt2 rfl <| Ac (Z1s rfl rfl (vt rfl)) rfl <| Ac (Z1t rfl rfl (vt rfl)) rfl <| Ct rfl (Zq 6 rfl rfl Z15) ?_
 rintro _ ⟨g8, rfl⟩
 refine Zj Z03 6 rfl <| As rfl <| Nl <| SR <| Md rfl <| Ac (Z19 rfl rfl (vt rfl)) rfl <| Nl <| Cn rfl (fun hc => ?_) (fun hc => ?_)
 ·have h := Zf hc h
  refine AW.seq ?_
  obtain ⟨s9, hs9, h⟩ := Z1 h
  refine Rg <| Ac (Zt (A := ydA Tryz.prog (Z2 24 Z3) yield1 L) rfl rfl (vt rfl)) rfl <| Ld Z03 5 rfl <| Ac (Zmq 0 hs9 rfl rfl (vt rfl) (vt rfl) rfl) rfl <| Nl <| AW.ret ?_
  obtain rfl := si h
  exact Z27 (i := 0) Tryz.results317 rfl rfl
 ·have h := Zg hc h
  refine AW.skip <| AW.seq <| AW.label <| SR <| Lp1 Z03 rfl <| Mk rfl <| Nl <| AW.block <| AW.loopG (d := []) (ν := (List Tern) × Nat × Z5 × (Lp sg)) (fun n => Sfx (Vector.toList cp4) n.2.1 n.1 ∧ Z7j sg yield1 n.1 n.2.1 n.2.2.1 n.2.2.2 = some r) (fun n => n.1.length) (fun n => [(0, ydA Tryz.prog (Z2 24 Z3) yield1 L), (4, Z7 g6 (Lens.id (Z2 24 Z3))), (27, rd (Z2 24 Z3) cp4), (28, rd (Z0 .i64) (n.2.1 : Int))]) (fun n => [(0, L n.2.2.2), (5, Z9 g6 87 (Z2 24 Z3) n.2.2.1)]) ((Vector.toList cp4), 0, x5, s2) ⟨Sfx.start _, h⟩ (FX rfl) ?_
  rintro ⟨l15, i14, b12, s13⟩ ⟨hsf1, h⟩
  change Sfx (Vector.toList cp4) i14 l15 at hsf1
  change Z7j sg yield1 l15 i14 b12 s13 = some r at h
  change AW _ _ _ ⟨Zw [(0, ydA Tryz.prog (Z2 24 Z3) yield1 L), (4, Z7 g6 (Lens.id (Z2 24 Z3))), (27, rd (Z2 24 Z3) cp4), (28, rd (Z0 .i64) (i14 : Int))], Zx [(0, L s13), (5, Z9 g6 87 (Z2 24 Z3) b12)], _⟩
  cases l15 with
  | nil =>
   unfold Z7j at h
   refine SR <| Ac (Zp rfl rfl (vt rfl) (vk rfl)) rfl <| Nl <| AW.seq <| Cn rfl (fun hc => absurd (of_decide_eq_true hc) (hsf1.niln (by simp))) (fun hc => ?_)
   refine AW.exit ?_
   obtain rfl := si h
   exact Z27 (i := 0) Tryz.results317 rfl rfl
  | cons x16 l15 =>
   unfold Z7j at h
   generalize hgo1 : Z7j sg yield1 l15 = go1 at h
   refine SR <| Ac (Zp rfl rfl (vt rfl) (vk rfl)) rfl <| Nl <| AW.seq <| Cn rfl (fun hc => ?_) (fun hc => absurd (hsf1.consn (by simp)) (of_decide_eq_false hc))
   have hlti14 := of_decide_eq_true hc
   refine AW.skip <| AW.seq <| AW.block <| SR <| Md rfl <| Ac (Zb3 rfl rfl Z2a Zz (vt rfl) (vt rfl) hsf1.lget) rfl <| Ct rfl (Zq 9 rfl rfl Z1a) ?_
   rintro _ ⟨g17, rfl⟩
   refine As rfl <| Zj Zz 9 rfl <| Nl <| AW.seq ?_
   obtain ⟨j18, hj18, h⟩ := Z1 h
   obtain ⟨x19, hx19, h⟩ := Z1 h
   refine AW.regionAny [⟨[7], [32], [], []⟩, ⟨[4, 32], [33], [], []⟩, ⟨[33], [34], [5], []⟩, ⟨[8], [35], [9], []⟩, ⟨[34, 35], [36], [], []⟩, ⟨[36], [9], [], []⟩] Z05 (by kernel_rfl) <| Zu rfl <| Sc (lo [4, 32] [] rfl fun S hs hr => Z1b rfl rfl Z2a (vh hs 4 rfl rfl) (vh hs 32 rfl rfl) hj18) rfl <| Zo Zz 5 rfl <| Zo Zz 9 rfl <| SCl [34, 35] (Y53 _ _ _ hx19) Y44 rfl <| SAs rfl <| AW.seq <| SR <| Md rfl <| Ac (Z0x rfl rfl Z0t (vt rfl)) rfl <| Ac (Z0i rfl rfl (vt rfl) (vk rfl)) rfl <| Nl <| Cn rfl (fun hc => ?_) (fun hc => ?_)
   ·have h := Zf hc h
    refine AW.exit <| Rg <| Ac (Z6k rfl rfl (vt rfl) (vk rfl) rfl hlti14) rfl <| Md rfl <| Nl ?_
    subst hgo1
    exact ⟨(l15, i14 + 1, b12, s13), Nat.lt_succ_self _, ⟨hsf1.next, h⟩, FX rfl⟩
   ·have h := Zg hc h
    refine AW.skip <| SR <| Md rfl <| Ac (Z0x rfl rfl Z0t (vt rfl)) rfl <| Mk rfl <| Nl <| AW.block <| AW.loopG (d := []) (ν := (List Int) × Nat × Z5 × (Lp sg)) (fun n => Sfx x19 n.2.1 n.1 ∧ Z7y sg go1 i14 x16 yield1 n.1 n.2.1 n.2.2.1 n.2.2.2 = some r) (fun n => n.1.length) (fun n => [(0, ydA Tryz.prog (Z2 24 Z3) yield1 L), (4, Z7 g6 (Lens.id (Z2 24 Z3))), (7, rd (Z0 .i64) (i14 : Int)), (8, Z7 g17 (Lens.id Z3)), (27, rd (Z2 24 Z3) cp4), (28, rd (Z0 .i64) (i14 : Int)), (40, rd (Z4 (Z0 .i64)) x19), (41, rd (Z0 .i64) (x19.length : Int)), (42, rd (Z0 .i64) (n.2.1 : Int))]) (fun n => [(0, L n.2.2.2), (5, Z9 g6 87 (Z2 24 Z3) n.2.2.1), (9, Z9 g17 85 Z3 x16)]) (x19, 0, b12, s13) ⟨Sfx.start _, h⟩ (FX rfl) ?_
    rintro ⟨l25, i24, b22, s23⟩ ⟨hsf2, h⟩
    change Sfx x19 i24 l25 at hsf2
    change Z7y sg go1 i14 x16 yield1 l25 i24 b22 s23 = some r at h
    change AW _ _ _ ⟨Zw [(0, ydA Tryz.prog (Z2 24 Z3) yield1 L), (4, Z7 g6 (Lens.id (Z2 24 Z3))), (7, rd (Z0 .i64) (i14 : Int)), (8, Z7 g17 (Lens.id Z3)), (27, rd (Z2 24 Z3) cp4), (28, rd (Z0 .i64) (i14 : Int)), (40, rd (Z4 (Z0 .i64)) x19), (41, rd (Z0 .i64) (x19.length : Int)), (42, rd (Z0 .i64) (i24 : Int))], Zx [(0, L s23), (5, Z9 g6 87 (Z2 24 Z3) b22), (9, Z9 g17 85 Z3 x16)], _⟩
    cases l25 with
    | nil =>
     unfold Z7y at h
     refine SR <| Ac (Zp rfl rfl (vt rfl) (vt rfl)) rfl <| Nl <| AW.seq <| Cn rfl (fun hc => absurd (of_decide_eq_true hc) hsf2.nil) (fun hc => ?_)
     refine AW.exit <| Rg <| Ac (Z6k rfl rfl (vt rfl) (vk rfl) rfl hlti14) rfl <| Md rfl <| Nl ?_
     subst hgo1
     exact ⟨(l15, i14 + 1, b22, s23), Nat.lt_succ_self _, ⟨hsf1.next, h⟩, FX rfl⟩
    | cons x26 l25 =>
     unfold Z7y at h
     generalize hgo2 : Z7y sg go1 i14 x16 yield1 l25 = go2 at h
     refine SR <| Ac (Zp rfl rfl (vt rfl) (vt rfl)) rfl <| Nl <| AW.seq <| Cn rfl (fun hc => ?_) (fun hc => absurd hsf2.cons (of_decide_eq_false hc))
     have hlti24 := of_decide_eq_true hc
     refine AW.skip <| AW.seq <| AW.block <| SR <| Ac (Z0r rfl rfl Z0t (vt rfl) (vt rfl) hsf2.lget) rfl <| Lp1 ty3 rfl <| As rfl <| Nl <| AW.seq ?_
     obtain ⟨x27, hx27, h⟩ := Z1 h
     refine Rg <| Zl Z1c Z2i rfl <| Ld Zv 9 rfl <| Md rfl <| Cl [47, 48] (Zzv _ _ _ hx27) Zxz rfl <| As rfl <| Nl <| SR <| Ld Z03 5 rfl <| Ct rfl (Zq 14 rfl rfl Z15) ?_
     rintro _ ⟨g28, rfl⟩
     refine Zj Z03 14 rfl <| Nl <| AW.seq ?_
     obtain ⟨j29, hj29, h⟩ := Z1 h
     obtain ⟨x30, hx30, h⟩ := Z1 h
     obtain ⟨j31, hj31, h⟩ := Z1 h
     refine Rg <| Md rfl <| Md rfl <| Ac (Z1b rfl rfl Z2a (vt rfl) (vt rfl) hj29) rfl <| Ld Zz 5 rfl <| Md rfl <| Md rfl <| Ac (Z19 rfl rfl (vt rfl)) rfl <| Cl [54, 55, 57] (Zub _ _ _ _ hx30) Zys rfl <| Ac (Z1b rfl rfl Z2a (vt rfl) (vt rfl) hj31) rfl <| Zj Zz 14 rfl <| Nl <| AW.seq <| AW.seq ?_
     obtain ⟨s32, hs32, h⟩ := Z1 h
     refine Rg <| Ac (Zt (A := ydA Tryz.prog (Z2 24 Z3) yield1 L) rfl rfl (vt rfl)) rfl <| Ld Z03 14 rfl <| Ac (Zmq 0 hs32 rfl rfl (vt rfl) (vt rfl) rfl) rfl <| Ac (Z19 rfl rfl (vt rfl)) rfl <| Nl <| Cn rfl (fun hc => ?_) (fun hc => ?_)
     ·have h := Zf hc h
      refine AW.exit ?_
      obtain rfl := si h
      exact Z27 (i := 0) Tryz.results317 rfl rfl
     ·have h := Zg hc h
      refine AW.skip ?_
      obtain ⟨j33, hj33, h⟩ := Z1 h
      obtain ⟨x34, hx34, h⟩ := Z1 h
      obtain ⟨j35, hj35, h⟩ := Z1 h
      refine Rg <| Md rfl <| Md rfl <| Ac (Z1b rfl rfl Z2a (vt rfl) (vt rfl) hj33) rfl <| Ld Zz 5 rfl <| Md rfl <| Md rfl <| Cl [67, 68, 69] (Zub _ _ _ _ hx34) Zys rfl <| Ac (Z1b rfl rfl Z2a (vt rfl) (vt rfl) hj35) rfl <| Zj Zz 5 rfl <| Nl <| Rg <| Ac (Z22 (t := 41) rfl rfl (vt rfl) (vk rfl) (vt rfl) hlti24) rfl <| Md rfl <| Nl ?_
      subst hgo2
      exact ⟨(l25, i24 + 1, (Vector.set b22 j35.1 x34 j35.2), s32), Nat.lt_succ_self _, ⟨hsf2.next, h⟩, FX rfl⟩
def Zmv (a1 : Z5) (b2 : Z5) : Option (Itr Z5) :=
 some (Itr.mk fun σ y s => Zao σ y s a1 b2)
theorem Ya9 (a1 : Z5) (b2 : Z5) (r : (Itr Z5)) (h : Zmv a1 b2 = some r) : PCon Tryz.prog 280 [rd (Z2 24 Z3) a1, rd (Z2 24 Z3) b2] (Z58 Tryz.prog (Z2 24 Z3) r) := by
 refine PCon.of (Con.intro0 Tryz.func280 rfl Tryz.ntmps280 rfl fun w H => ?_)
 unfold Zmv at h
 refine SR <| Ct rfl (Zn 3 rfl rfl (vt rfl)) ?_
 rintro _ ⟨g3, rfl⟩
 refine Ct rfl (Zn 4 rfl rfl (vt rfl)) ?_
 rintro _ ⟨g4, rfl⟩
 refine Ac (Z02 (A := Ze .nilFunc) rfl rfl vc) rfl <| Nl <| AW.seq <| AW.freezeB 2 3 rfl rfl rfl <| AW.freezeB 3 4 rfl rfl rfl <| Rg <| Ac (Zvj (Itr.mk fun σ y s => Zao σ y s a1 b2) (cs := [.tmp 2, .tmp 3]) (CAs := [rp (Z2 24 Z3) a1, rp (Z2 24 Z3) b2]) rfl rfl Ygu ⟨vt rfl, vt rfl, trivial⟩ (fun σ y L s r h => Yai σ y L s a1 b2 r h)) rfl <| Ac (Z02 (A := Z58 Tryz.prog (Z2 24 Z3) (Itr.mk fun σ y s => Zao σ y s a1 b2)) rfl rfl (vt rfl)) rfl <| Nl <| AW.ret ?_
 obtain rfl := si h
 exact Zi Tryz.results280 rfl (Z8 rfl)
def Z9s (l4 : (List Z5)) (x10 : (Bool × Int)) (R_cover_look_at : (cover_look → Z5 → (List Z5) → Option (Z0l × Bool × Bool × cover_look))) (b18 : cover_look) (b19 : Z0l) (b20 : Bool) (b21 : Bool) (x23 : Z5) : Option (Lp (cover_look × Z0l × Bool × Bool)) :=
 (Z5g l4 (IntKind.i64.wrap (x10.2 + 1))).bind fun s25 => (R_cover_look_at b18 x23 s25).bind fun b26 => (bif (b26.2.1 || (!b26.2.2.1)) then some (.out (.exit 1) (b26.2.2.2, b26.1, b26.2.1, b26.2.2.1)) else some (.go (b26.2.2.2, b26.1, b26.2.1, b26.2.2.1)))
def Zjr (R_cover_look_at : (cover_look → Z5 → (List Z5) → Option (Z0l × Bool × Bool × cover_look))) (s1 : cover_look) (cu3 : Z5) (l4 : (List Z5)) : Option (Z0l × Bool × Bool × cover_look) :=
 (Ziw s1.purse).bind fun b9 => (bif (!b9.1) then some ((Vector.replicate 24 Z0a), false, false, { s1 with purse := b9.2 }) else (Zmi cu3 l4).bind fun x10 => (bif x10.1 then some ((Vector.replicate 24 Z0a), false, true, { s1 with purse := b9.2 }) else (bif (decide (x10.2 < 0)) then (Zig cu3).bind fun x12 => some (x12, true, true, { s1 with purse := b9.2 }) else (lget l4 x10.2).bind fun e16 => (Zmv cu3 e16).bind fun x17 => (Itr.run x17 (cover_look × Z0l × Bool × Bool) (fun s x => Z9s l4 x10 R_cover_look_at s.1 s.2.1 s.2.2.1 s.2.2.2 x) (.go ({ s1 with purse := b9.2 }, (Vector.replicate 24 Z0a), false, true))).bind fun z22 => Yci z22 (fun s27 => some (s27.2.1, s27.2.2.1, s27.2.2.2, s27.1)) (fun c s27 => bif Zmu 1 c then some (s27.2.1, s27.2.2.1, s27.2.2.2, s27.1) else none))))
theorem Yeg (R_cover_look_at : (cover_look → Z5 → (List Z5) → Option (Z0l × Bool × Bool × cover_look))) (hR_cover_look_at : ∀ (g2 gT : Nat) (s1 : cover_look) (cu3 : Z5) (l4 : (List Z5)) (r : (Z0l × Bool × Bool × cover_look)), R_cover_look_at s1 cu3 l4 = some r → Con Tryz.prog 235 [Z7 g2 (Lens.id Z1v), rd (Z2 24 Z3) cu3, rd (Z4 (Z2 24 Z3)) l4] (Z9 g2 gT Z1v s1) (fun _ : Unit => Z39 (rd (Z2 24 Zh) r.1) (rd Zc r.2.1) (rd Zc r.2.2.1)) (fun _ => Z9 g2 gT Z1v r.2.2.2)) (g2 gT : Nat) (s1 : cover_look) (cu3 : Z5) (l4 : (List Z5)) (r : (Z0l × Bool × Bool × cover_look)) (h : Zjr R_cover_look_at s1 cu3 l4 = some r) : Con Tryz.prog 235 [Z7 g2 (Lens.id Z1v), rd (Z2 24 Z3) cu3, rd (Z4 (Z2 24 Z3)) l4] (Z9 g2 gT Z1v s1) (fun _ : Unit => Z39 (rd (Z2 24 Zh) r.1) (rd Zc r.2.1) (rd Zc r.2.2.1)) (fun _ => Z9 g2 gT Z1v r.2.2.2) := by
 refine Con.intro Tryz.func235 rfl Tryz.ntmps235 rfl fun w H X => ?_
 unfold Zjr at h
 refine SR <| Ct rfl (Zn 4 rfl rfl (vkp (vt rfl))) ?_
 rintro _ ⟨g5, rfl⟩
 refine Ct rfl (Zn 5 rfl rfl (vt rfl)) ?_
 rintro _ ⟨g6, rfl⟩
 refine Ct rfl (Zn 6 rfl rfl (vt rfl)) ?_
 rintro _ ⟨g7, rfl⟩
 refine Ct rfl (Zq 7 rfl rfl Z3m) ?_
 rintro _ ⟨g8, rfl⟩
 refine Ab rfl <| Ab rfl <| Nl <| AW.scope <| AW.seq <| AW.seq ?_
 obtain ⟨b9, hb9, h⟩ := Z1 h
 refine Rg <| Ac (Zvu (A := Z7 g2 (Lens.id Z1v)) rfl rfl rfl (Zti _) (vt rfl) (i := 4) rfl) rfl <| Nc rfl <| Zl Zs0 Ybn rfl <| Ct rfl (Z1f 0 (xs := [.tmp 17]) (Ydg _ _ _ _ hb9) Y8k rfl rfl ⟨vt rfl, trivial⟩ rfl) ?_
 rintro _ ⟨_u, rfl⟩
 refine AOps.told 0 (Z9 g2 gT Z1v { s1 with purse := b9.2 }) rfl <| Ac (Z19 rfl rfl (vt rfl)) rfl <| Nl <| Cn rfl (fun hc => ?_) (fun hc => ?_)
 ·have h := Zf hc h
  refine SR <| Ac (Z00 (ps := []) (x := (Vector.replicate 24 Z0a)) rfl rfl rfl (by kernel_rfl) Z3m rfl) rfl <| Zj Z0w 7 rfl <| Ab rfl <| Ab rfl <| Nl <| AW.ret ?_
  obtain rfl := si h
  exact Zis (i := 0) Tryz.results235 rfl (Z01 rfl (i := 7) rfl Z0w) (Z8 rfl) (Z8 rfl) rfl
 ·have h := Zg hc h
  refine AW.skip <| AW.seq ?_
  obtain ⟨x10, hx10, h⟩ := Z1 h
  refine Rg <| Ld Z03 5 rfl <| Ld Zr7 6 rfl <| Cl [22, 23] (Yfd _ _ _ hx10) Ygr rfl <| Mt2 rfl <| Ac (Z1s rfl rfl (vt rfl)) rfl <| Ac (Z1t rfl rfl (vt rfl)) rfl <| Ct rfl (Zq 11 rfl rfl zr3) ?_
  rintro _ ⟨g11, rfl⟩
  refine As rfl <| Zj ty3 11 rfl <| Nl <| AW.seq <| AW.block <| SR <| Md rfl <| As rfl <| Nl <| Cn rfl (fun hc => ?_) (fun hc => ?_)
  ·have h := Zf hc h
   refine SR <| Ac (Z00 (ps := []) (x := (Vector.replicate 24 Z0a)) rfl rfl rfl (by kernel_rfl) Z3m rfl) rfl <| Zj Z0w 7 rfl <| Ab rfl <| Ab rfl <| Nl <| AW.ret ?_
   obtain rfl := si h
   exact Zis (i := 0) Tryz.results235 rfl (Z01 rfl (i := 7) rfl Z0w) (Z8 rfl) (Z8 rfl) rfl
  ·have h := Zg hc h
   refine SR <| Ld ty3 11 rfl <| Ac (Zp rfl rfl (vt rfl) (vk rfl)) rfl <| As rfl <| Nl <| Cn rfl (fun hc => ?_) (fun hc => ?_)
   ·have h := Zf hc h
    refine AW.seq ?_
    obtain ⟨x12, hx12, h⟩ := Z1 h
    refine Rg <| Ld Z03 5 rfl <| Cl [33] (Y8z _ _ hx12) e70 rfl <| Zj Z0w 7 rfl <| Ab rfl <| Ab rfl <| Nl <| AW.ret ?_
    obtain rfl := si h
    exact Zis (i := 0) Tryz.results235 rfl (Z01 rfl (i := 7) rfl Z0w) (Z8 rfl) (Z8 rfl) rfl
   ·have h := Zg hc h
    refine AW.skip <| SR <| Ct rfl (Zq 12 rfl rfl Z3m) ?_
    rintro _ ⟨g13, rfl⟩
    refine Nl <| SR <| Ct rfl (Zq 13 rfl rfl zr4) ?_
    rintro _ ⟨g14, rfl⟩
    refine Ct rfl (Zq 14 rfl rfl zr4) ?_
    rintro _ ⟨g15, rfl⟩
    refine Ac (Zan rfl rfl ty4 (vt rfl) (i := 13) rfl vb) rfl <| Ac (Zan rfl rfl ty4 (vt rfl) (i := 14) rfl vb) rfl <| Nl <| AW.seq <| AW.label <| AW.seq <| AW.seq ?_
    obtain ⟨e16, he16, h⟩ := Z1 h
    obtain ⟨x17, hx17, h⟩ := Z1 h
    refine AW.regionAny [⟨[4], [35], [5], []⟩, ⟨[5], [36], [6], []⟩, ⟨[10], [37], [11], []⟩, ⟨[36, 37], [38], [], []⟩, ⟨[38], [39], [], []⟩, ⟨[35, 39], [40], [], []⟩] Z05 (by kernel_rfl) <| Zo Z03 5 rfl <| Zo Zr7 6 rfl <| Zo ty3 11 rfl <| Sc (lo [36, 37] [] rfl fun S hs hr => Z0r rfl rfl Z3u (vh hs 36 rfl rfl) (vh hs 37 rfl rfl) he16) rfl <| SLp Z03 rfl <| SCl [35, 39] (Ya9 _ _ _ hx17) Ygw rfl <| AW.block ?_
    obtain ⟨z22, hz22, h⟩ := Z1 h
    refine AW.fit (d := []) (L := [(3, Z7 g5 (Lens.id (kas (Z7 g2 (Lens.id Z1v))))), (5, Z7 g7 (Lens.id (Z4 (Z2 24 Z3)))), (6, Z7 g8 (Lens.id (Z2 24 Zh))), (7, rd Zc false), (8, rd Zc false), (10, Z7 g11 (Lens.id (Z0 .i64))), (11, Z7 g13 (Lens.id (Z2 24 Zh))), (12, Z7 g14 (Lens.id Zc)), (13, Z7 g15 (Lens.id Zc)), (40, Z58 Tryz.prog (Z2 24 Z3) x17)]) (M := [(4, Z9 g5 286 (kas (Z7 g2 (Lens.id Z1v))) ()), (0, Z9 g2 gT Z1v { s1 with purse := b9.2 }), (6, Z9 g7 229 (Z4 (Z2 24 Z3)) l4), (7, Z9 g8 44 (Z2 24 Zh) (Vector.replicate 24 Z0a)), (11, Z9 g11 3 (Z0 .i64) x10.2), (12, Z9 g13 44 (Z2 24 Zh) (Vector.replicate 24 Z0a)), (13, Z9 g14 4 Zc false), (14, Z9 g15 4 Zc true)]) (FX rfl) ?_
    refine AW.rangeFunc (σ := cover_look × Z0l × Bool × Bool) (fun x => [rd (Z2 24 Z3) x]) (fun s x => Z9s l4 x10 R_cover_look_at s.1 s.2.1 s.2.2.1 s.2.2.2 x) (fun s => Zx ((fun s => [(4, Z9 g5 286 (kas (Z7 g2 (Lens.id Z1v))) ()), (0, Z9 g2 gT Z1v s.1), (6, Z9 g7 229 (Z4 (Z2 24 Z3)) l4), (7, Z9 g8 44 (Z2 24 Zh) (Vector.replicate 24 Z0a)), (11, Z9 g11 3 (Z0 .i64) x10.2), (12, Z9 g13 44 (Z2 24 Zh) s.2.1), (13, Z9 g14 4 Zc s.2.2.1), (14, Z9 g15 4 Zc s.2.2.2)]) s)) (fun _ s => Zx ((fun s => [(4, Z9 g5 286 (kas (Z7 g2 (Lens.id Z1v))) ()), (0, Z9 g2 gT Z1v s.1), (6, Z9 g7 229 (Z4 (Z2 24 Z3)) l4), (7, Z9 g8 44 (Z2 24 Zh) (Vector.replicate 24 Z0a)), (11, Z9 g11 3 (Z0 .i64) x10.2), (12, Z9 g13 44 (Z2 24 Zh) s.2.1), (13, Z9 g14 4 Zc s.2.2.1), (14, Z9 g15 4 Zc s.2.2.2)]) s)) [(3, Z7 g5 (Lens.id (kas (Z7 g2 (Lens.id Z1v))))), (5, Z7 g7 (Lens.id (Z4 (Z2 24 Z3)))), (6, Z7 g8 (Lens.id (Z2 24 Zh))), (7, rd Zc false), (8, rd Zc false), (10, Z7 g11 (Lens.id (Z0 .i64))), (11, Z7 g13 (Lens.id (Z2 24 Zh))), (12, Z7 g14 (Lens.id Zc)), (13, Z7 g15 (Lens.id Zc))] (fun s x23 S1 => ∃ (g24 : Nat), Fit S1 [] [(3, Z7 g5 (Lens.id (kas (Z7 g2 (Lens.id Z1v))))), (5, Z7 g7 (Lens.id (Z4 (Z2 24 Z3)))), (6, Z7 g8 (Lens.id (Z2 24 Zh))), (7, rd Zc false), (8, rd Zc false), (10, Z7 g11 (Lens.id (Z0 .i64))), (11, Z7 g13 (Lens.id (Z2 24 Zh))), (12, Z7 g14 (Lens.id Zc)), (13, Z7 g15 (Lens.id Zc)), (14, Z7 g24 (Lens.id (Z2 24 Z3)))] [(4, Z9 g5 286 (kas (Z7 g2 (Lens.id Z1v))) ()), (0, Z9 g2 gT Z1v s.1), (6, Z9 g7 229 (Z4 (Z2 24 Z3)) l4), (7, Z9 g8 44 (Z2 24 Zh) (Vector.replicate 24 Z0a)), (11, Z9 g11 3 (Z0 .i64) x10.2), (12, Z9 g13 44 (Z2 24 Zh) s.2.1), (13, Z9 g14 4 Zc s.2.2.1), (14, Z9 g15 4 Zc s.2.2.2), (15, Z9 g24 87 (Z2 24 Z3) x23)]) 3001 (s0 := ({ s1 with purse := b9.2 }, (Vector.replicate 24 Z0a), false, true)) (sE := z22) rfl (vt rfl) ⟨rfl, inferInstance, rfl, inferInstance, rfl, inferInstance, rfl, inferInstance, rfl, inferInstance, rfl, inferInstance, rfl, inferInstance, rfl, inferInstance, rfl, inferInstance, trivial⟩ rfl (fun _ => rfl) (by intro p hp; have hp : p ∈ [41] := hp; rw [List.mem_singleton.1 hp]; show 41 < 61; decide) ?ha1 ?hb1 (fun Lf => ⟨top, _, _, Lf, _, _, hz22, rfl, rfl, rfl, rfl⟩) ?he1
    case ha1 =>
     rintro ⟨b18, b19, b20, b21⟩ x23 r hF l w H X
     refine Rg <| Ct rfl (Zq 15 rfl rfl Z15) ?_
     rintro _ ⟨g24, rfl⟩
     refine Zj Z03 15 rfl <| Nl ?_
     exact ⟨rfl, g24, FX rfl⟩
    case hb1 =>
     rintro ⟨b18, b19, b20, b21⟩ x23 r h S1 ⟨g24, hfit⟩ l w H X
     refine AW.fit (d := []) (L := [(3, Z7 g5 (Lens.id (kas (Z7 g2 (Lens.id Z1v))))), (5, Z7 g7 (Lens.id (Z4 (Z2 24 Z3)))), (6, Z7 g8 (Lens.id (Z2 24 Zh))), (7, rd Zc false), (8, rd Zc false), (10, Z7 g11 (Lens.id (Z0 .i64))), (11, Z7 g13 (Lens.id (Z2 24 Zh))), (12, Z7 g14 (Lens.id Zc)), (13, Z7 g15 (Lens.id Zc)), (14, Z7 g24 (Lens.id (Z2 24 Z3)))]) (M := [(4, Z9 g5 286 (kas (Z7 g2 (Lens.id Z1v))) ()), (0, Z9 g2 gT Z1v b18), (6, Z9 g7 229 (Z4 (Z2 24 Z3)) l4), (7, Z9 g8 44 (Z2 24 Zh) (Vector.replicate 24 Z0a)), (11, Z9 g11 3 (Z0 .i64) x10.2), (12, Z9 g13 44 (Z2 24 Zh) b19), (13, Z9 g14 4 Zc b20), (14, Z9 g15 4 Zc b21), (15, Z9 g24 87 (Z2 24 Z3) x23)]) hfit <| AW.bodyT ?_
     change Z9s l4 x10 R_cover_look_at b18 b19 b20 b21 x23 = some r at h
     unfold Z9s at h
     refine AW.block <| AW.seq ?_
     obtain ⟨s25, hs25, h⟩ := Z1 h
     obtain ⟨b26, hb26, h⟩ := Z1 h
     refine AW.regionAny [⟨[3], [43], [4], []⟩, ⟨[14], [44], [15], []⟩, ⟨[5], [45], [6], []⟩, ⟨[10], [46], [11], []⟩, ⟨[46], [47], [], []⟩, ⟨[45, 47], [48], [], []⟩, ⟨[43, 44, 48], [49], [0], [0]⟩, ⟨[49], [42], [], []⟩, ⟨[42], [50], [], []⟩, ⟨[42], [51], [], []⟩, ⟨[42], [52], [], []⟩, ⟨[11, 50], [], [12], [12]⟩, ⟨[12, 51], [], [13], [13]⟩, ⟨[13, 52], [], [14], [14]⟩] Z05 (by kernel_rfl) <| Sc (lo [3] [4] rfl fun S hs hr => Zvu (A := Z7 g2 (Lens.id Z1v)) rfl rfl rfl (Zti _) (vh hs 3 rfl rfl) (i := 4) ((hr 4 rfl).trans rfl)) rfl <| Zo Z03 15 rfl <| Zo Zr7 6 rfl <| Zo ty3 11 rfl <| Sc (lo [46] [] rfl fun S hs hr => Z08 rfl rfl (vh hs 46 rfl rfl) (vk rfl)) rfl <| Sc (lo [45, 47] [] rfl fun S hs hr => Zwo hs25 rfl rfl Z3u (vh hs 45 rfl rfl) (vh hs 47 rfl rfl)) rfl <| Sc (Z16 (us := [(49, Z39 (rd (Z2 24 Zh) b26.1) (rd Zc b26.2.1) (rd Zc b26.2.2.1))]) (ur := [(0, Z9 g2 gT Z1v b26.2.2.2)]) [43, 44, 48] [0] rfl fun S hs hr => Ygd 0 (xs := [.tmp 43, .tmp 44, .tmp 48]) (hR_cover_look_at _ _ _ _ _ _ hb26) Zwv rfl rfl ⟨vt ((hs 43 rfl).trans rfl), vt ((hs 44 rfl).trans rfl), vt ((hs 48 rfl).trans rfl), trivial⟩ ((hr 0 rfl).trans rfl)) rfl <| Sc (lo [49] [] rfl fun S hs hr => Zt (A := Z39 (rd (Z2 24 Zh) b26.1) (rd Zc b26.2.1) (rd Zc b26.2.2.1)) rfl rfl (vh hs 49 rfl rfl)) rfl <| Sc (lo [42] [] rfl fun S hs hr => Zbd rfl rfl (vh hs 42 rfl rfl)) rfl <| Sc (lo [42] [] rfl fun S hs hr => Zb9 rfl rfl (vh hs 42 rfl rfl)) rfl <| Sc (lo [42] [] rfl fun S hs hr => Zag rfl rfl (vh hs 42 rfl rfl)) rfl <| SSt Z0w 12 rfl <| SSt ty4 13 rfl <| SSt ty4 14 rfl <| SR <| Ld ty4 13 rfl <| Md rfl <| Gd rfl (fun hq => Z37 rfl rfl ty4 (vt rfl) (i := 14) rfl) <| Gd rfl (fun hq => Z19 rfl rfl (Zs rfl hq)) <| Ac (Z68 rfl rfl (vt rfl) (vt rfl)) rfl <| Nl <| Cn rfl (fun hc => ?_) (fun hc => ?_)
     ·have h := Zf hc h
      refine AW.exit ?_
      obtain rfl := si h
      exact ⟨_, (b26.2.2.2, b26.1, b26.2.1, b26.2.2.1), Turn.refl, rfl, ⟨rfl, rfl, rfl, rfl, rfl, rfl, rfl, rfl, trivial⟩⟩
     ·have h := Zg hc h
      refine AW.skip ?_
      obtain rfl := si h
      exact ⟨_, (b26.2.2.2, b26.1, b26.2.1, b26.2.2.1), Turn.refl, rfl, ⟨rfl, rfl, rfl, rfl, rfl, rfl, rfl, rfl, trivial⟩⟩
    case he1 =>
     intro D
     cases z22 with
     | go s27 =>
      change _ = some r at h
      refine AW.seq <| AW.regionAny [⟨[11], [58], [12], []⟩, ⟨[12], [59], [13], []⟩, ⟨[13], [60], [14], []⟩, ⟨[6, 58], [], [7], [7]⟩, ⟨[59], [7], [], []⟩, ⟨[60], [8], [], []⟩] Z05 (by kernel_rfl) <| Zo Z0w 12 rfl <| Zo ty4 13 rfl <| Zo ty4 14 rfl <| SSt Z0w 7 rfl <| SAs rfl <| SAs rfl <| AW.ret ?_
      obtain rfl := si h
      exact ⟨rfl, 3001, rfl, Zis (i := 0) Tryz.results235 rfl (Z01 rfl (i := 7) rfl Z0w) (Z8 rfl) (Z8 rfl) rfl⟩
     | out c s27 =>
      change (bif Zmu 1 c then _ else _) = some r at h
      cases hc : Zmu 1 c with
      | true =>
       rw [hc] at h
       have hc := Ydl hc
       subst hc
       change _ = some r at h
       refine AW.exit <| AW.seq <| AW.regionAny [⟨[11], [58], [12], []⟩, ⟨[12], [59], [13], []⟩, ⟨[13], [60], [14], []⟩, ⟨[6, 58], [], [7], [7]⟩, ⟨[59], [7], [], []⟩, ⟨[60], [8], [], []⟩] Z05 (by kernel_rfl) <| Zo Z0w 12 rfl <| Zo ty4 13 rfl <| Zo ty4 14 rfl <| SSt Z0w 7 rfl <| SAs rfl <| SAs rfl <| AW.ret ?_
       obtain rfl := si h
       exact ⟨rfl, 3001, rfl, Zis (i := 0) Tryz.results235 rfl (Z01 rfl (i := 7) rfl Z0w) (Z8 rfl) (Z8 rfl) rfl⟩
      | false =>
       rw [hc] at h
       cases h
def Z6f : Nat → (cover_look → Z5 → (List Z5) → Option (Z0l × Bool × Bool × cover_look))
 | 0 => (fun _ _ _ => none)
 | n + 1 => (Zjr (Z6f n))
theorem Zyt : ∀ n : Nat, (∀ (g2 gT : Nat) (s1 : cover_look) (cu3 : Z5) (l4 : (List Z5)) (r : (Z0l × Bool × Bool × cover_look)), (Z6f n) s1 cu3 l4 = some r → Con Tryz.prog 235 [Z7 g2 (Lens.id Z1v), rd (Z2 24 Z3) cu3, rd (Z4 (Z2 24 Z3)) l4] (Z9 g2 gT Z1v s1) (fun _ : Unit => Z39 (rd (Z2 24 Zh) r.1) (rd Zc r.2.1) (rd Zc r.2.2.1)) (fun _ => Z9 g2 gT Z1v r.2.2.2))
 | 0 => (by intros; rename_i h; cases h)
 | n + 1 => by
  have ih := Zyt n
  exact (Yeg (Z6f n) ih)
def Zqv (s1 : cover_look) (cu3 : Z5) (l4 : (List Z5)) : Option (Z0l × Bool × Bool × cover_look) := (Z6f Z0y) s1 cu3 l4
theorem Yd2 : ∀ (g2 gT : Nat) (s1 : cover_look) (cu3 : Z5) (l4 : (List Z5)) (r : (Z0l × Bool × Bool × cover_look)), Zqv s1 cu3 l4 = some r → Con Tryz.prog 235 [Z7 g2 (Lens.id Z1v), rd (Z2 24 Z3) cu3, rd (Z4 (Z2 24 Z3)) l4] (Z9 g2 gT Z1v s1) (fun _ : Unit => Z39 (rd (Z2 24 Zh) r.1) (rd Zc r.2.1) (rd Zc r.2.2.1)) (fun _ => Z9 g2 gT Z1v r.2.2.2) := Zyt Z0y
def Zgc (cu1 : Z5) (l2 : (List Z5)) (most3 : Int) : Option (Z0l × Bool × Int) :=
 (Zqv (⟨(⟨(Z1r most3 0), (decide (most3 ≥ 1099511627776))⟩ : cover_purse)⟩ : cover_look) cu1 l2).bind fun b7 => (bif (!b7.2.2.1) then some ((Vector.replicate 24 Z0a), false, 5) else some (b7.1, b7.2.1, 0))
theorem Zyb (cu1 : Z5) (l2 : (List Z5)) (most3 : Int) (r : (Z0l × Bool × Int)) (h : Zgc cu1 l2 most3 = some r) : PCon Tryz.prog 170 [rd (Z2 24 Z3) cu1, rd (Z4 (Z2 24 Z3)) l2, rd (Z0 .i64) most3] (Z39 (rd (Z2 24 Zh) r.1) (rd Zc r.2.1) (rd (Z0 .i64) r.2.2)) := by
 refine PCon.of (Con.intro0 Tryz.func170 rfl Tryz.ntmps170 rfl fun w H => ?_)
 unfold Zgc at h
 refine SR <| Ct rfl (Zn 4 rfl rfl (vt rfl)) ?_
 rintro _ ⟨g4, rfl⟩
 refine Ct rfl (Zq 7 rfl rfl Z3m) ?_
 rintro _ ⟨g5, rfl⟩
 refine Ab rfl <| Ak rfl <| Nl <| SR <| Md rfl <| Ac (Zgb rfl rfl (vt rfl) (vk rfl)) rfl <| Md rfl <| Ac (Z4e rfl rfl (vt rfl) (vk rfl)) rfl <| Ac (Z00 (ps := [(0, .tmp 14), (1, .tmp 16)]) (x := (⟨(Z1r most3 0), (decide (most3 ≥ 1099511627776))⟩ : cover_purse)) rfl rfl rfl (by kernel_rfl) Y9e ⟨_, _, Zi4, _, by kernel_rfl, (vt rfl), _, _, Zrh, _, by kernel_rfl, (vt rfl), rfl⟩) rfl <| Ac (Z00 (ps := [(0, .tmp 17)]) (x := (⟨(⟨(Z1r most3 0), (decide (most3 ≥ 1099511627776))⟩ : cover_purse)⟩ : cover_look)) rfl rfl rfl (by kernel_rfl) Y9r ⟨_, _, Zs0, _, by kernel_rfl, (vt rfl), rfl⟩) rfl <| Ct rfl (Zn 20 rfl rfl (vt rfl)) ?_
 rintro _ ⟨g6, rfl⟩
 refine Ac (Z02 (A := Z7 g6 (Lens.id Z1v)) rfl rfl (vt rfl)) rfl <| Nl <| AW.seq ?_
 obtain ⟨b7, hb7, h⟩ := Z1 h
 refine Rg <| Mp rfl <| Ld Z03 4 rfl <| Md rfl <| Ct rfl (Z1f 20 (xs := [.tmp 21, .tmp 22, .tmp 23]) (Yd2 _ _ _ _ _ _ hb7) Zwv rfl rfl ⟨vt rfl, vt rfl, vt rfl, trivial⟩ rfl) ?_
 rintro _ ⟨_u, rfl⟩
 refine Ac (Zt (A := Z39 (rd (Z2 24 Zh) b7.1) (rd Zc b7.2.1) (rd Zc b7.2.2.1)) rfl rfl (vt rfl)) rfl <| Ac (Zbd rfl rfl (vt rfl)) rfl <| Ac (Zb9 rfl rfl (vt rfl)) rfl <| Ac (Zag rfl rfl (vt rfl)) rfl <| Ct rfl (Zq 11 rfl rfl Z3m) ?_
 rintro _ ⟨g8, rfl⟩
 refine Zj Z0w 11 rfl <| As rfl <| As rfl <| Nl <| AW.seq <| SR <| Md rfl <| Ac (Z19 rfl rfl (vt rfl)) rfl <| Nl <| Cn rfl (fun hc => ?_) (fun hc => ?_)
 ·have h := Zf hc h
  refine SR <| Ac (Z00 (ps := []) (x := (Vector.replicate 24 Z0a)) rfl rfl rfl (by kernel_rfl) Z3m rfl) rfl <| Zj Z0w 7 rfl <| Ab rfl <| Ak rfl <| Nl <| AW.ret ?_
  obtain rfl := si h
  exact Zch Tryz.results170 rfl (Z01 rfl (i := 7) rfl Z0w) (Z8 rfl) (Z8 rfl)
 ·have h := Zg hc h
  refine AW.skip <| SR <| Ld Z0w 11 rfl <| Md rfl <| Zj Z0w 7 rfl <| As rfl <| Ak rfl <| Nl <| AW.ret ?_
  obtain rfl := si h
  exact Zch Tryz.results170 rfl (Z01 rfl (i := 7) rfl Z0w) (Z8 rfl) (Z8 rfl)
def Zld (s : List Rule) : Option (List Rule) := Z0u [] s
theorem Y25 (s : List Rule) (r : List Rule) (h : Zld s = some r) : Con Tryz.prog 240 [rd (Z4 Zy) s] emp (fun v => Ze v) (fun v => Zb v 90 Zy r) := by
 refine Con.intro0 Tryz.func240 rfl Tryz.ntmps240 rfl fun w H => ?_
 unfold Zld at h
 refine AW.newnil 1001 90 Zy <| SR <| Ac (Z02 (A := Ze (.slice none 0 0)) rfl rfl vc) rfl <| Nl <| AW.seq <| SR <| Md rfl <| Ct rfl (Zj1 rfl rfl Z2p (vt rfl)) ?_
 rintro _ ⟨b, hb, rfl⟩
 refine Nl <| Cn rfl (fun hc => ?_) (fun hc => ?_)
 ·obtain rfl := hb hc
  refine SR <| Ac (Z02 (A := Ze (.slice none 0 0)) rfl rfl vc) rfl <| Nl <| AW.ret ?_
  obtain rfl := (Za2 h).2
  exact Z4n (i := 1001) Tryz.results240 rfl rfl rfl
 ·refine AW.skip <| SR <| Ct rfl (Z4q 1002 (ps := []) (l := []) rfl rfl Z2p Z48 rfl rfl rfl rfl) ?_
  rintro _ ⟨v1, rfl⟩
  refine Md rfl <| Ct rfl (Z2m 1002 h rfl rfl Zhn (vt rfl) rfl (vt rfl)) ?_
  rintro _ ⟨v2, rfl⟩
  refine Aw rfl <| Nl <| AW.ret ?_
  exact Z4n (i := 1002) Tryz.results240 rfl rfl rfl
def Z7f : Nat → Nat → (List Rule) → Option (List Rule)
 | 0, i6, l5 => some l5
 | m7 + 1, i6, l5 => (lget l5 (i6 : Int)).bind fun e8 => (Zbt e8.Atoms).bind fun x9 => (lget l5 (i6 : Int)).bind fun e10 => (Z7f m7) (i6 + 1) (List.set l5 (i6 : Int).toNat { e10 with Atoms := x9 })
def Zhb (l1 : (List Rule)) : Option (List Rule) :=
 (Zld l1).bind fun x2 => Z7f ((x2.length : Int) : Int).toNat 0 x2
theorem Y2f (l1 : (List Rule)) (r : (List Rule)) (h : Zhb l1 = some r) : PCon Tryz.prog 179 [rd (Z4 Zy) l1] (rd (Z4 Zy) r) := by
 refine PCon.of (Con.intro0 Tryz.func179 rfl Tryz.ntmps179 rfl fun w H => ?_)
 unfold Zhb at h
 refine SR <| Ac (Z02 (A := rd (Z4 Zy) []) rfl rfl Z1u) rfl <| Nl <| AW.seq ?_
 obtain ⟨x2, hx2, h⟩ := Z1 h
 refine Rg <| Md rfl <| Ct rfl (Z1f 1001 (xs := [.tmp 5]) (Y25 _ _ hx2) Y5l rfl rfl ⟨vt rfl, trivial⟩ rfl) ?_
 rintro _ ⟨v3, rfl⟩
 refine Aw rfl <| Nl <| AW.seq <| SR <| Mw rfl <| Ac (Z5q 1001 rfl rfl Z2p (vt rfl) rfl) rfl <| Mk rfl <| Nl <| AW.block <| AW.loopG (d := []) (ν := Nat × Nat × (List Rule)) (fun n => Cnt (x2.length : Int) n.2.1 n.1 ∧ Z7f n.1 n.2.1 n.2.2 = some r) (fun n => n.1) (fun n => [(3, Ze v3), (8, rd (Z0 .i64) (x2.length : Int)), (9, rd (Z0 .i64) (n.2.1 : Int))]) (fun n => [(1001, Zb v3 90 Zy n.2.2)]) (((x2.length : Int) : Int).toNat, 0, x2) ⟨Cnt.start _, h⟩ (FX rfl) ?_
 rintro ⟨m7, i6, l5⟩ ⟨hsf1, h⟩
 change Cnt (x2.length : Int) i6 m7 at hsf1
 change Z7f m7 i6 l5 = some r at h
 change AW _ _ _ ⟨Zw [(3, Ze v3), (8, rd (Z0 .i64) (x2.length : Int)), (9, rd (Z0 .i64) (i6 : Int))], Zx [(1001, Zb v3 90 Zy l5)], _⟩
 cases m7 with
 | zero =>
  unfold Z7f at h
  refine SR <| Ac (Zp rfl rfl (vt rfl) (vt rfl)) rfl <| Nl <| AW.seq <| Cn rfl (fun hc => absurd (of_decide_eq_true hc) hsf1.zero) (fun hc => ?_)
  refine AW.exit <| SR <| Mw rfl <| Aw rfl <| Nl <| AW.freezes [2, 3, 23] 1001 rfl ⟨rfl, rfl, rfl, trivial⟩ rfl <| AW.ret ?_
  obtain rfl := si h
  exact Zi Tryz.results179 rfl (Z8 rfl)
 | succ m7 =>
  unfold Z7f at h
  generalize hgo1 : Z7f m7 = go1 at h
  refine SR <| Ac (Zp rfl rfl (vt rfl) (vt rfl)) rfl <| Nl <| AW.seq <| Cn rfl (fun hc => ?_) (fun hc => absurd hsf1.succ (of_decide_eq_false hc))
  have hlti6 := of_decide_eq_true hc
  refine AW.skip <| AW.seq <| AW.block <| SR <| Md rfl <| As rfl <| Nl ?_
  obtain ⟨e8, he8, h⟩ := Z1 h
  obtain ⟨x9, hx9, h⟩ := Z1 h
  obtain ⟨e10, he10, h⟩ := Z1 h
  refine Rg <| Mw rfl <| Md rfl <| Mw rfl <| Md rfl <| Ac (Z1q 1001 rfl rfl Z2p (vt rfl) rfl (vt rfl) he8) rfl <| Ac (Zae Zad rfl rfl Zpf (vt rfl)) rfl <| Ac (Z1g 1001 rfl rfl Zb5 (vt rfl) rfl (Z0g he8).2) rfl <| Cl [18] (Zsx _ _ hx9) Zsh rfl <| Ac (Z1q 1001 rfl rfl Z2p (vt rfl) rfl (vt rfl) he10) rfl <| Ac (Zae Zad rfl rfl Zpf (vt rfl)) rfl <| Ac (Z2h 1001 rfl rfl Zb5 (vt rfl) rfl (Z0g he10).2 (vt rfl)) rfl <| Nl <| Rg <| Ac (Z22 (t := 8) rfl rfl (vt rfl) (vk rfl) (vt rfl) hlti6) rfl <| Md rfl <| Nl ?_
  subst hgo1
  exact ⟨(m7, i6 + 1, (List.set l5 (i6 : Int).toNat { e10 with Atoms := x9 })), Nat.lt_succ_self _, ⟨hsf1.next, h⟩, FX rfl⟩
def Z6o (most2 : Int) : (List Rule) → Nat → (List Rule) → (List Z5) → Option ((List Rule) × Int)
 | [], i11, l7, l9 => (Zhb l7).bind fun x13 => some (x13, 0)
 | x14 :: l12, i11, l7, l9 => (Zgc x14.Cube l9 most2).bind fun x16 => (bif (decide (x16.2.2 ≠ 0)) then some ([], x16.2.2) else (bif (!x16.2.1) then (Z6o most2 l12) (i11 + 1) l7 l9 else (Z0u l7 [x14]).bind fun l18 => (Z0u l9 [x14.Cube]).bind fun l20 => (Z6o most2 l12) (i11 + 1) l18 l20))
def Zkk (l1 : (List Rule)) (most2 : Int) : Option ((List Rule) × Int) :=
 Z6o most2 l1 0 [] []
theorem Y34 (l1 : (List Rule)) (most2 : Int) (r : ((List Rule) × Int)) (h : Zkk l1 most2 = some r) : PCon Tryz.prog 111 [rd (Z4 Zy) l1, rd (Z0 .i64) most2] (Z1h (rd (Z4 Zy) r.1) (rd (Z0 .i64) r.2)) := by
 refine PCon.of (Con.intro0 Tryz.func111 rfl Tryz.ntmps111 rfl fun w H => ?_)
 unfold Zkk at h
 refine SR <| Ac (Z02 (A := rd (Z4 Zy) []) rfl rfl Z1u) rfl <| Ak rfl <| Nl <| AW.scope <| AW.seq <| AW.newnil 1001 90 Zy <| Rg <| Ac (Z02 rfl rfl vc) rfl <| Nl <| AW.seq <| AW.newnil 1002 87 (Z2 24 Z3) <| Rg <| Ac (Z02 rfl rfl vc) rfl <| Nl <| AW.seq <| AW.label <| AW.seq <| SR <| Md rfl <| Ac (Z0x rfl rfl Z2p (vt rfl)) rfl <| Mk rfl <| Nl <| AW.block <| AW.loopG (d := []) (ν := (List Rule) × Nat × (List Rule) × (List Z5) × Value × Value) (fun n => Sfx l1 n.2.1 n.1 ∧ Z6o most2 n.1 n.2.1 n.2.2.1 n.2.2.2.1 = some r) (fun n => n.1.length) (fun n => [(1, rd (Z0 .i64) most2), (6, Ze n.2.2.2.2.1), (7, Ze n.2.2.2.2.2), (13, rd (Z4 Zy) l1), (14, rd (Z0 .i64) (l1.length : Int)), (15, rd (Z0 .i64) (n.2.1 : Int))]) (fun n => [(1001, Zb n.2.2.2.2.1 90 Zy n.2.2.1), (1002, Zb n.2.2.2.2.2 87 (Z2 24 Z3) n.2.2.2.1)]) (l1, 0, [], [], (.slice none 0 0), (.slice none 0 0)) ⟨Sfx.start _, h⟩ (FX rfl) ?_
 rintro ⟨l12, i11, l7, l9, v8, v10⟩ ⟨hsf1, h⟩
 change Sfx l1 i11 l12 at hsf1
 change Z6o most2 l12 i11 l7 l9 = some r at h
 change AW _ _ _ ⟨Zw [(1, rd (Z0 .i64) most2), (6, Ze v8), (7, Ze v10), (13, rd (Z4 Zy) l1), (14, rd (Z0 .i64) (l1.length : Int)), (15, rd (Z0 .i64) (i11 : Int))], Zx [(1001, Zb v8 90 Zy l7), (1002, Zb v10 87 (Z2 24 Z3) l9)], _⟩
 cases l12 with
 | nil =>
  unfold Z6o at h
  refine SR <| Ac (Zp rfl rfl (vt rfl) (vt rfl)) rfl <| Nl <| AW.seq <| Cn rfl (fun hc => absurd (of_decide_eq_true hc) hsf1.nil) (fun hc => ?_)
  refine AW.exit <| AW.seq <| AW.freezes [6] 1001 rfl ⟨rfl, trivial⟩ rfl ?_
  obtain ⟨x13, hx13, h⟩ := Z1 h
  refine Rg <| Md rfl <| Cl [45] (Y2f _ _ hx13) Yav rfl <| As rfl <| Ak rfl <| Nl <| AW.ret ?_
  obtain rfl := si h
  exact Z25 Tryz.results111 rfl (Z8 rfl) (Z8 rfl)
 | cons x14 l12 =>
  unfold Z6o at h
  generalize hgo1 : Z6o most2 l12 = go1 at h
  refine SR <| Ac (Zp rfl rfl (vt rfl) (vt rfl)) rfl <| Nl <| AW.seq <| Cn rfl (fun hc => ?_) (fun hc => absurd hsf1.cons (of_decide_eq_false hc))
  have hlti11 := of_decide_eq_true hc
  refine AW.skip <| AW.seq <| AW.block <| SR <| Ac (Z0r rfl rfl Z2p (vt rfl) (vt rfl) hsf1.lget) rfl <| Lp1 Z7h rfl <| Ct rfl (Zq 10 rfl rfl Z48) ?_
  rintro _ ⟨g15, rfl⟩
  refine Zj Z7h 10 rfl <| Nl <| AW.seq ?_
  obtain ⟨x16, hx16, h⟩ := Z1 h
  refine Rg <| Zl Z6b Zfh rfl <| Ld Z03 10 rfl <| Mw rfl <| Md rfl <| Ac (Zrr (xs := [.tmp 21, .tmp 22, .tmp 23]) 1002 (Zyb _ _ _ _ hx16) Ztg rfl rfl ⟨vB (vt rfl), vL rfl rfl, vB (vt rfl), trivial⟩) rfl <| Ac (Zt (A := Z39 (rd (Z2 24 Zh) x16.1) (rd Zc x16.2.1) (rd (Z0 .i64) x16.2.2)) rfl rfl (vt rfl)) rfl <| Ac (Zbd rfl rfl (vt rfl)) rfl <| Ac (Zb9 rfl rfl (vt rfl)) rfl <| Ac (Zag rfl rfl (vt rfl)) rfl <| Ct rfl (Zq 11 rfl rfl Z3m) ?_
  rintro _ ⟨g17, rfl⟩
  refine Zj Z0w 11 rfl <| As rfl <| As rfl <| Nl <| AW.seq <| AW.block <| SR <| Md rfl <| Ac (Z8m rfl rfl (vt rfl) (vk rfl)) rfl <| As rfl <| Nl <| Cn rfl (fun hc => ?_) (fun hc => ?_)
  ·have h := Zf hc h
   refine SR <| Md rfl <| Ac (Z02 (A := rd (Z4 Zy) []) rfl rfl Z1u) rfl <| As rfl <| Nl <| AW.ret ?_
   obtain rfl := si h
   exact Z25 Tryz.results111 rfl (Z8 rfl) (Z8 rfl)
  ·have h := Zg hc h
   refine SR <| Md rfl <| Ac (Z19 rfl rfl (vt rfl)) rfl <| As rfl <| Nl <| Cn rfl (fun hc => ?_) (fun hc => ?_)
   ·have h := Zf hc h
    refine AW.exit <| Rg <| Ac (Z22 (t := 14) rfl rfl (vt rfl) (vk rfl) (vt rfl) hlti11) rfl <| Md rfl <| Nl ?_
    subst hgo1
    exact ⟨(l12, i11 + 1, l7, l9, v8, v10), Nat.lt_succ_self _, ⟨hsf1.next, h⟩, FX rfl⟩
   ·have h := Zg hc h
    refine AW.skip ?_
    obtain ⟨l18, hl18, h⟩ := Z1 h
    obtain ⟨l20, hl20, h⟩ := Z1 h
    refine AW.regionAny [⟨[6], [35], [], []⟩, ⟨[9], [36], [10], []⟩, ⟨[36], [37], [], []⟩, ⟨[35, 37], [38], [1001], [1001]⟩, ⟨[7], [39], [], []⟩, ⟨[9], [40], [], []⟩, ⟨[40], [41], [10], []⟩, ⟨[41], [42], [], []⟩, ⟨[39, 42], [43], [1002], [1002]⟩, ⟨[38], [38, 6], [1003], []⟩, ⟨[43], [43, 7], [1004], []⟩] Z05 (by kernel_rfl) <| SMw rfl <| Zo Z7h 10 rfl <| Sc (lo [36] [] rfl fun S hs hr => Z2g (ps := [(0, .tmp 36)]) (l := [x14]) rfl rfl Z2p Z48 rfl rfl ⟨_, _, Lens.idx 1 Zy 0 (by decide), _, rfl, (vh hs 36 rfl rfl), rfl⟩ rfl) rfl <| Sc (Z16 (us := [(38, Z1p 90 Zy l18)]) (ur := [(1001, emp)]) [35, 37] [1001] rfl fun S hs hr => Z7a 1001 hl18 rfl rfl rfl Zhn (vh hs 35 rfl rfl) ((hr 1001 rfl).trans rfl) (vh hs 37 rfl rfl)) rfl <| SMw rfl <| SFd Z6b Zfh rfl <| Zo Z03 10 rfl <| Sc (lo [41] [] rfl fun S hs hr => Z2g (ps := [(0, .tmp 41)]) (l := [x14.Cube]) rfl rfl Z3u Z15 rfl rfl ⟨_, _, Lens.idx 1 (Z2 24 Z3) 0 (by decide), _, rfl, (vh hs 41 rfl rfl), rfl⟩ rfl) rfl <| Sc (Z16 (us := [(43, Z1p 87 (Z2 24 Z3) l20)]) (ur := [(1002, emp)]) [39, 42] [1002] rfl fun S hs hr => Z7a 1002 hl20 rfl rfl rfl Zli (vh hs 39 rfl rfl) ((hr 1002 rfl).trans rfl) (vh hs 42 rfl rfl)) rfl <| Sc (Z16 (us := [(38, top), (6, Z1p 90 Zy l18)]) (ur := []) [38] [1003] rfl fun S hs hr => Ziv 1003 rfl rfl rfl rfl ((hs 38 rfl).trans rfl) ((hr 1003 rfl).trans rfl)) rfl <| Sc (Z16 (us := [(43, top), (7, Z1p 87 (Z2 24 Z3) l20)]) (ur := []) [43] [1004] rfl fun S hs hr => Ziv 1004 rfl rfl rfl rfl ((hs 43 rfl).trans rfl) ((hr 1004 rfl).trans rfl)) rfl <| AW.unpackR 6 1001 rfl rfl fun v19 => AW.unpackR 7 1002 rfl rfl fun v21 => Rg <| Ac (Z22 (t := 14) rfl rfl (vt rfl) (vk rfl) (vt rfl) hlti11) rfl <| Md rfl <| Nl ?_
    subst hgo1
    exact ⟨(l12, i11 + 1, l18, l20, v19, v21), Nat.lt_succ_self _, ⟨hsf1.next, h⟩, FX rfl⟩
def Zgz (g1 : Group) (cp2 : Int) : Option Bool :=
 some (decide (g1.ID = cp2))
theorem Y7o (g1 : Group) (cp2 : Int) (r : Bool) (h : Zgz g1 cp2 = some r) : PCon Tryz.prog 288 [rd Z0d g1, rp (Z0 .i64) cp2] (rd Zc r) := by
 refine PCon.of (Con.intro0 Tryz.func288 rfl Tryz.ntmps288 rfl fun w H => ?_)
 unfold Zgz at h
 refine SR <| Ct rfl (Zn 3 rfl rfl (vt rfl)) ?_
 rintro _ ⟨g3, rfl⟩
 refine Ab rfl <| Nl <| SR <| Zl Zre Zsw rfl <| Ld ty3 3 rfl <| Lp1 ty3 rfl <| Ac (Z0i rfl rfl (vt rfl) (vt rfl)) rfl <| As rfl <| Nl <| AW.ret ?_
 obtain rfl := si h
 exact Zi Tryz.results288 rfl (Z8 rfl)
def Zkg (l1 : (List Group)) (id2 : Int) : Option Int :=
 (Zfo l1 (fun x => Zgz x id2)).bind fun x4 => some x4
theorem Y33 (l1 : (List Group)) (id2 : Int) (r : Int) (h : Zkg l1 id2 = some r) : PCon Tryz.prog 241 [rd (Z4 Z0d) l1, rd (Z0 .i64) id2] (rd (Z0 .i64) r) := by
 refine PCon.of (Con.intro0 Tryz.func241 rfl Tryz.ntmps241 rfl fun w H => ?_)
 unfold Zkg at h
 refine SR <| Ct rfl (Zn 4 rfl rfl (vt rfl)) ?_
 rintro _ ⟨g3, rfl⟩
 refine Ak rfl <| Nl <| AW.seq <| AW.freezeB 3 4 rfl rfl rfl ?_
 obtain ⟨x4, hx4, h⟩ := Z1 h
 refine Rg <| Md rfl <| Ac (Z79 (cs := [.tmp 3]) (CAs := [rp (Z0 .i64) id2]) (fun x => Zgz x id2) rfl rfl Yen ⟨vt rfl, trivial⟩ (fun x y h => Y7o _ _ y h)) rfl <| Cl [5, 6] (Zuc _ _ _ hx4) Zyy rfl <| As rfl <| Nl <| AW.ret ?_
 obtain rfl := si h
 exact Zi Tryz.results241 rfl (Z8 rfl)
end Go.Proofs.YtknpgojdkobgjaaGreat.W
