/- A part of the proof. -/
import Derived.Test.YtknpgojdkobgjaaGreatG0
set_option linter.unusedVariables false
set_option maxRecDepth 4000
set_option linter.unusedSimpArgs false
namespace Go.Proofs.YtknpgojdkobgjaaGreat.W
open Go Go.Wb
theorem Zqo : Ent Tryz.prog 343 := Ent.mk Tryz.func343 rfl rfl
theorem Zmg : Ent Tryz.prog 311 := Ent.mk Tryz.func311 rfl rfl
theorem Y5a : Ent Tryz.prog 335 := Ent.mk Tryz.func335 rfl rfl
theorem Zy1 : Ent Tryz.prog 310 := Ent.mk Tryz.func310 rfl rfl
theorem Ydi : Ent Tryz.prog 274 := Ent.mk Tryz.func274 rfl rfl
theorem Yhg : Ent Tryz.prog 213 := Ent.mk Tryz.func213 rfl rfl
theorem Yjk : Ent Tryz.prog 214 := Ent.mk Tryz.func214 rfl rfl
theorem Yf2 : Ent Tryz.prog 217 := Ent.mk Tryz.func217 rfl rfl
theorem Y74 : Ent Tryz.prog 215 := Ent.mk Tryz.func215 rfl rfl
theorem Y8f : Ent Tryz.prog 219 := Ent.mk Tryz.func219 rfl rfl
theorem Y9x : Ent Tryz.prog 220 := Ent.mk Tryz.func220 rfl rfl
def Ze8 (d3 : (Action → Option Bool)) : Nat → (List Action) → Int → Int → Option (List Action)
 | 0, _, _, _ => none
 | m11 + 1, l8, i9, j10 => (bif (decide (j10 < (l8.length : Int))) then (lget l8 j10).bind fun x12 => (d3 x12).bind fun x14 => (bif (!x14) then (lget l8 i9).bind fun x15 => (Ze8 d3 m11) (List.set l8 i9.toNat x12) (IntKind.i64.wrap (i9 + 1)) (IntKind.i64.wrap (j10 + 1)) else (Ze8 d3 m11) l8 i9 (IntKind.i64.wrap (j10 + 1))) else (Z6r l8 i9).bind fun s16 => (Z4y (List.take i9.toNat l8 ++ List.replicate (l8.length - i9.toNat) Znv) i9).bind fun s17 => some s17)
def Zj8 (s1 : (List Action)) (d3 : (Action → Option Bool)) : Option (List Action) :=
 (Zcv s1 d3).bind fun x4 => (bif (decide (x4 = (-1))) then some s1 else Ze8 d3 ((((s1.length : Int) : Int) - (IntKind.i64.wrap (x4 + 1))).toNat + 1) s1 x4 (IntKind.i64.wrap (x4 + 1)))
theorem Y5y (v2 : Value) (s1 : (List Action)) (d3 : (Action → Option Bool)) (r : (List Action)) (h : Zj8 s1 d3 = some r) : Con Tryz.prog 215 [Zi v2, fn1 Tryz.prog Z8 Z7 d3] (Zc v2 121 Z8 s1) (fun v => Zi v) (fun v => Zc v 121 Z8 r) := by
 refine Con.intro Tryz.func215 rfl Tryz.ntmps215 rfl fun w H X => ?_
 unfold Zj8 at h
 refine sq <| AW.newnil 1001 121 Z8 <| Rg <| Ac (Zy rfl rfl vc) rfl <| Nl <| sq ?_
 obtain ⟨x4, hx4, h⟩ := Za h
 refine Rg <| Mw rfl <| Ac (Zs (A := fn1 Tryz.prog Z8 Z7 d3) rfl rfl (vt rfl)) rfl <| Ac (Zsy (xs := [.tmp 8, .tmp 9]) 0 (Zsb _ _ _ hx4) Zqa rfl rfl ⟨vL rfl rfl, vB (vt rfl), trivial⟩) rfl <| As rfl <| Nl <| sq <| SR <| Md rfl <| Ac (Z0m rfl rfl (vt rfl) (vk rfl)) rfl <| Nl <| Cq rfl h (fun h => ?_) (fun h => ?_)
 ·refine SR <| Mw rfl <| Aw rfl <| Nl <| rt ?_
  cases h; exact Z53 (i := 0) Tryz.results215 rfl rfl rfl
 ·refine sk <| sq <| SR <| Md rfl <| Ac (Z06 rfl rfl (vt rfl) (vk rfl)) rfl <| As rfl <| Nl <| bk <| LG (d := []) (ν := Nat × (List Action) × Int × Int) (fun (m11, l8, i9, j10) => (True ∧ Ze8 d3 m11 l8 i9 j10 = some r, m11, [(0, Zi v2), (1, fn1 Tryz.prog Z8 Z7 d3), (5, rd (Z0 .i64) i9), (6, rd (Z0 .i64) j10)], [(0, Zc v2 121 Z8 l8)])) (((((s1.length : Int) : Int) - (IntKind.i64.wrap (x4 + 1))).toNat + 1), s1, x4, (IntKind.i64.wrap (x4 + 1))) ⟨trivial, h⟩ (FX rfl) ?_
  rintro ⟨m11, l8, i9, j10⟩ ⟨hsf1, h⟩
  dsimp only at h ⊢
  cases m11 with
  | zero => cases h
  | succ m11 =>
   unfold Ze8 at h
   refine sq <| SR <| Md rfl <| Mw rfl <| Ac (Z6q 0 rfl rfl Z0c (vt rfl) rfl) rfl <| Ac (Zn rfl rfl (vt rfl) (vt rfl)) rfl <| Nl <| Cq rfl h (fun h => ?_) (fun h => ?_)
   ·refine sk <| sq <| bk <| sq ?_
    obtain ⟨x12, hx12, h⟩ := Za h
    refine Rg <| Mw rfl <| Md rfl <| Ac (Z21 0 rfl rfl Z0c (vt rfl) rfl (vt rfl) hx12) rfl <| Ac (Z1i 0 rfl rfl Z0s (vt rfl) rfl (Z0e hx12).2) rfl <| Cv rfl (Zp 8 rfl rfl Z5v) fun g13 => Zh Z0s 8 rfl <| Nl <| sq ?_
    obtain ⟨x14, hx14, h⟩ := Za h
    refine Rg <| Ac (Zs (A := fn1 Tryz.prog Z8 Z7 d3) rfl rfl (vt rfl)) rfl <| Ld Z0s 8 rfl <| Ac (Z94 hx14 rfl rfl (vt rfl) (vt rfl)) rfl <| Ac (Z15 rfl rfl (vt rfl)) rfl <| Nl <| Cq rfl h (fun h => ?_) (fun h => ?_)
    ·refine sq ?_
     obtain ⟨x15, hx15, h⟩ := Za h
     refine Rg <| Mw rfl <| Md rfl <| Ld Z0s 8 rfl <| Ac (Z21 0 rfl rfl Z0c (vt rfl) rfl (vt rfl) hx15) rfl <| Ac (Z2o 0 rfl rfl Z0s (vt rfl) rfl (Z0e hx15).2 (vt rfl)) rfl <| Nl <| Rg <| Md rfl <| Ac (Z06 rfl rfl (vt rfl) (vk rfl)) rfl <| As rfl <| Nl <| Rg <| Md rfl <| Ac (Z06 rfl rfl (vt rfl) (vk rfl)) rfl <| As rfl <| Nl ?_
     exact ⟨(_, _, _, _), Nat.lt_succ_self _, ⟨trivial, h⟩, FX rfl⟩
    ·refine sk <| Rg <| Md rfl <| Ac (Z06 rfl rfl (vt rfl) (vk rfl)) rfl <| As rfl <| Nl ?_
     exact ⟨(_, _, _, _), Nat.lt_succ_self _, ⟨trivial, h⟩, FX rfl⟩
   ·refine xt <| sq ?_
    obtain ⟨s16, hs16, h⟩ := Za h
    refine Rg <| Mw rfl <| Md rfl <| Ac (Yk5 0 hs16 rfl rfl Z0c (vt rfl) rfl (vt rfl)) rfl <| Ac (Yka 0 rfl rfl Z0c Z5v rfl (vt rfl) rfl (Zsp hs16).2.1) rfl <| Nl <| sq ?_
    obtain ⟨s17, hs17, h⟩ := Za h
    refine Rg <| Mw rfl <| Md rfl <| Cv rfl (Ydy 0 hs17 rfl rfl Z0c (vt rfl) rfl (vt rfl)) fun v18 => Aw rfl <| Nl <| rt ?_
    cases h; exact Z53 (i := 0) Tryz.results215 rfl rfl rfl
def Z7n (a3 : Int) (x5 : (Action → Action → Option Int)) (go1 : (List Action) → Int → Option (List Action)) (i9 : Int) : Nat → (List Action) → Int → Option (List Action)
 | 0, _, _ => none
 | m15 + 1, l13, j14 => (opt (decide (j14 > a3)) (lget l13 j14)).bind fun x16 => (opt (decide (j14 > a3)) (lget l13 (IntKind.i64.wrap (j14 - 1)))).bind fun x17 => (opt (decide (j14 > a3)) (x5 x16 x17)).bind fun x18 => (bif ((decide (j14 > a3)) && (decide (x18 < 0))) then (lget l13 (IntKind.i64.wrap (j14 - 1))).bind fun x19 => (lget l13 j14).bind fun x20 => (lget l13 j14).bind fun x21 => (lget (List.set l13 j14.toNat x19) (IntKind.i64.wrap (j14 - 1))).bind fun x22 => (Z7n a3 x5 go1 i9 m15) (List.set (List.set l13 j14.toNat x19) (IntKind.i64.wrap (j14 - 1)).toNat x20) (IntKind.i64.wrap (j14 - 1)) else go1 l13 (IntKind.i64.wrap (i9 + 1)))
def Z6t (b4 : Int) (a3 : Int) (x5 : (Action → Action → Option Int)) : Nat → (List Action) → Int → Option (List Action)
 | 0, _, _ => none
 | m10 + 1, l8, i9 => (bif (decide (i9 < b4)) then Z7n a3 x5 (Z6t b4 a3 x5 m10) i9 Z0l l8 i9 else some l8)
def Zal (d1 : (List Action)) (a3 : Int) (b4 : Int) (x5 : (Action → Action → Option Int)) : Option (List Action) :=
 Z6t b4 a3 x5 (((b4 : Int) - (IntKind.i64.wrap (a3 + 1))).toNat + 1) d1 (IntKind.i64.wrap (a3 + 1))
theorem Zxd (v2 : Value) (d1 : (List Action)) (a3 : Int) (b4 : Int) (x5 : (Action → Action → Option Int)) (r : (List Action)) (h : Zal d1 a3 b4 x5 = some r) : Con Tryz.prog 310 [Zi v2, rd (Z0 .i64) a3, rd (Z0 .i64) b4, fn2 Tryz.prog Z8 Z8 (Z0 .i64) x5] (Zc v2 121 Z8 d1) (fun _ : Unit => top) (fun _ => Zc v2 121 Z8 r) := by
 refine Con.intro Tryz.func310 rfl Tryz.ntmps310 rfl fun w H X => ?_
 unfold Zal at h
 refine SR <| Md rfl <| Ac (Z06 rfl rfl (vt rfl) (vk rfl)) rfl <| As rfl <| Nl <| bk <| LG (d := []) (ν := Nat × (List Action) × Int) (fun (m10, l8, i9) => (True ∧ Z6t b4 a3 x5 m10 l8 i9 = some r, m10, [(0, Zi v2), (1, rd (Z0 .i64) a3), (2, rd (Z0 .i64) b4), (3, fn2 Tryz.prog Z8 Z8 (Z0 .i64) x5), (8, rd (Z0 .i64) i9)], [(0, Zc v2 121 Z8 l8)])) ((((b4 : Int) - (IntKind.i64.wrap (a3 + 1))).toNat + 1), d1, (IntKind.i64.wrap (a3 + 1))) ⟨trivial, h⟩ (FX rfl) ?_
 rintro ⟨m10, l8, i9⟩ ⟨hsf1, h⟩
 dsimp only at h ⊢
 cases m10 with
 | zero => cases h
 | succ m10 =>
  unfold Z6t at h
  refine sq <| SR <| Md rfl <| Md rfl <| Ac (Zn rfl rfl (vt rfl) (vt rfl)) rfl <| Nl <| Cq rfl h (fun h => ?_) (fun h => ?_)
  ·refine sk <| sq <| bk <| SR <| Md rfl <| As rfl <| Nl <| bk <| LG (d := []) (ν := Nat × (List Action) × Int) (fun (m15, l13, j14) => (True ∧ Z7n a3 x5 (Z6t b4 a3 x5 m10) i9 m15 l13 j14 = some r, m15, [(0, Zi v2), (1, rd (Z0 .i64) a3), (2, rd (Z0 .i64) b4), (3, fn2 Tryz.prog Z8 Z8 (Z0 .i64) x5), (8, rd (Z0 .i64) i9), (9, rd (Z0 .i64) j14)], [(0, Zc v2 121 Z8 l13)])) (Z0l, l8, i9) ⟨trivial, h⟩ (FX rfl) ?_
   rintro ⟨m15, l13, j14⟩ ⟨hsf2, h⟩
   dsimp only at h ⊢
   cases m15 with
   | zero => cases h
   | succ m15 =>
    unfold Z7n at h
    refine sq <| sq ?_
    obtain ⟨x16, hx16, x17, hx17, x18, hx18, h⟩ := bs3 h
    refine AR Zx (by kernel_rfl) <| Zq rfl <| Zq rfl <| Sd (lo [18, 19] [] rfl fun S hs hr => Z3i rfl rfl (vh hs 18 rfl rfl) (vh hs 19 rfl rfl)) <| Zq rfl <| Sd (lg [3, 21] [] rfl fun hq S hs hr => Zs (A := fn2 Tryz.prog Z8 Z8 (Z0 .i64) x5) rfl rfl (vh hs 3 rfl rfl)) <| Sd (lg [0, 21] [] rfl fun hq S hs hr => Zs (A := Zi v2) rfl rfl (vh hs 0 rfl rfl)) <| Sd (lg [9, 21] [] rfl fun hq S hs hr => Zs (A := rd (Z0 .i64) j14) rfl rfl (vh hs 9 rfl rfl)) <| Sd (lg [23, 24, 21] [0] rfl fun hq S hs hr => Z21 0 rfl rfl Z0c (Zo ((hs 23 rfl).trans rfl) hq) ((hr 0 rfl).trans rfl) (Zo ((hs 24 rfl).trans rfl) hq) (Z28 hx16 hq)) <| Sd (lg [25, 21] [0] rfl fun hq S hs hr => Z1i 0 rfl rfl Z0s (Zo ((hs 25 rfl).trans rfl) hq) ((hr 0 rfl).trans rfl) (Z0e (Z28 hx16 hq)).2) <| Sd (lg [0, 21] [] rfl fun hq S hs hr => Zs (A := Zi v2) rfl rfl (vh hs 0 rfl rfl)) <| Sd (lg [9, 21] [] rfl fun hq S hs hr => Zs (A := rd (Z0 .i64) j14) rfl rfl (vh hs 9 rfl rfl)) <| Sd (lg [28, 21] [] rfl fun hq S hs hr => Z0p rfl rfl (Zo ((hs 28 rfl).trans rfl) hq) (vk rfl)) <| Sd (lg [27, 29, 21] [0] rfl fun hq S hs hr => Z21 0 rfl rfl Z0c (Zo ((hs 27 rfl).trans rfl) hq) ((hr 0 rfl).trans rfl) (Zo ((hs 29 rfl).trans rfl) hq) (Z28 hx17 hq)) <| Sd (lg [30, 21] [0] rfl fun hq S hs hr => Z1i 0 rfl rfl Z0s (Zo ((hs 30 rfl).trans rfl) hq) ((hr 0 rfl).trans rfl) (Z0e (Z28 hx17 hq)).2) <| Sd (lg [22, 26, 31, 21] [] rfl fun hq S hs hr => Za7 (Z28 hx18 hq) rfl rfl (Zo ((hs 22 rfl).trans rfl) hq) (Zo ((hs 26 rfl).trans rfl) hq) (Zo ((hs 31 rfl).trans rfl) hq)) <| Sd (lg [32, 21] [] rfl fun hq S hs hr => Zn rfl rfl (Zo ((hs 32 rfl).trans rfl) hq) (vk rfl)) <| Sd (lo [33, 21] [] rfl fun S hs hr => Z1t rfl rfl (vh hs 21 rfl rfl) (vh hs 33 rfl rfl)) <| Sn <| Cq rfl h (fun h => ?_) (fun h => ?_)
    ·refine sk <| sq <| bk <| AW.vlen 0 rfl fun hvl0_266 => ?_
     obtain ⟨x19, hx19, x20, hx20, x21, hx21, x22, hx22, h⟩ := bs4 h
     refine AR Zx (by kernel_rfl) <| SMw rfl <| Zq rfl <| SMw rfl <| Zq rfl <| Sd (lo [40] [] rfl fun S hs hr => Z0p rfl rfl (vh hs 40 rfl rfl) (vk rfl)) <| SMw rfl <| Zq rfl <| Sd (lo [43] [] rfl fun S hs hr => Z0p rfl rfl (vh hs 43 rfl rfl) (vk rfl)) <| Sd (lo [42, 44] [] rfl fun S hs hr => Z2c (l := l13) hvl0_266 rfl rfl rfl Z0c (vh hs 42 rfl rfl) (vh hs 44 rfl rfl) hx19) <| Sd (lo [45] [0] rfl fun S hs hr => Z1i 0 rfl rfl Z0s (vh hs 45 rfl rfl) ((hr 0 rfl).trans rfl) (Z0e hx19).2) <| SMw rfl <| Zq rfl <| Sd (lo [47, 48] [] rfl fun S hs hr => Z2c (l := l13) hvl0_266 rfl rfl rfl Z0c (vh hs 47 rfl rfl) (vh hs 48 rfl rfl) hx20) <| Sd (lo [49] [0] rfl fun S hs hr => Z1i 0 rfl rfl Z0s (vh hs 49 rfl rfl) ((hr 0 rfl).trans rfl) (Z0e hx20).2) <| Sd (lo [37, 38] [] rfl fun S hs hr => Z2c (l := l13) hvl0_266 rfl rfl rfl Z0c (vh hs 37 rfl rfl) (vh hs 38 rfl rfl) hx21) <| Sd (Z44 [51, 46] [0] rfl fun S hs hr => Z2o 0 rfl rfl Z0s (vh hs 51 rfl rfl) ((hr 0 rfl).trans rfl) (Z0e hx21).2 (vh hs 46 rfl rfl)) <| Sd (lo [39, 41] [] rfl fun S hs hr => Z2c (l := (List.set l13 j14.toNat x19)) hvl0_266 (by simp) rfl rfl Z0c (vh hs 39 rfl rfl) (vh hs 41 rfl rfl) hx22) <| Sd (Z44 [52, 50] [0] rfl fun S hs hr => Z2o 0 rfl rfl Z0s (vh hs 52 rfl rfl) ((hr 0 rfl).trans rfl) (Z0e hx22).2 (vh hs 50 rfl rfl)) <| Sn <| Rg <| Md rfl <| Ac (Z0p rfl rfl (vt rfl) (vk rfl)) rfl <| As rfl <| Nl ?_
     exact ⟨(_, _, _), Nat.lt_succ_self _, ⟨trivial, h⟩, FX rfl⟩
    ·refine xt <| Rg <| Md rfl <| Ac (Z06 rfl rfl (vt rfl) (vk rfl)) rfl <| As rfl <| Nl ?_
     exact ⟨(_, _, _), Nat.lt_succ_self _, ⟨trivial, h⟩, FX rfl⟩
  ·refine xt ?_
   cases h; exact Z20 (i := 0) Tryz.results310 rfl rfl
def Zdj (n5 : Int) (b4 : Int) (a3 : Int) : Nat → (List Action) → Int → Option (List Action)
 | 0, _, _ => none
 | m11 + 1, l9, i10 => (bif (decide (i10 < n5)) then (lget l9 (IntKind.i64.wrap (b4 + i10))).bind fun x12 => (lget l9 (IntKind.i64.wrap (a3 + i10))).bind fun x13 => (lget l9 (IntKind.i64.wrap (a3 + i10))).bind fun x14 => (lget (List.set l9 (IntKind.i64.wrap (a3 + i10)).toNat x12) (IntKind.i64.wrap (b4 + i10))).bind fun x15 => (Zdj n5 b4 a3 m11) (List.set (List.set l9 (IntKind.i64.wrap (a3 + i10)).toNat x12) (IntKind.i64.wrap (b4 + i10)).toNat x13) (IntKind.i64.wrap (i10 + 1)) else some l9)
def Zeg (d1 : (List Action)) (a3 : Int) (b4 : Int) (n5 : Int) (x6 : (Action → Action → Option Int)) : Option (List Action) :=
 Zdj n5 b4 a3 (((n5 : Int) - 0).toNat + 1) d1 0
theorem Zuo (v2 : Value) (d1 : (List Action)) (a3 : Int) (b4 : Int) (n5 : Int) (x6 : (Action → Action → Option Int)) (r : (List Action)) (h : Zeg d1 a3 b4 n5 x6 = some r) : Con Tryz.prog 343 [Zi v2, rd (Z0 .i64) a3, rd (Z0 .i64) b4, rd (Z0 .i64) n5, fn2 Tryz.prog Z8 Z8 (Z0 .i64) x6] (Zc v2 121 Z8 d1) (fun _ : Unit => top) (fun _ => Zc v2 121 Z8 r) := by
 refine Con.intro Tryz.func343 rfl Tryz.ntmps343 rfl fun w H X => ?_
 unfold Zeg at h
 refine SR <| Ak rfl <| Nl <| bk <| LG (d := []) (ν := Nat × (List Action) × Int) (fun (m11, l9, i10) => (True ∧ Zdj n5 b4 a3 m11 l9 i10 = some r, m11, [(0, Zi v2), (1, rd (Z0 .i64) a3), (2, rd (Z0 .i64) b4), (3, rd (Z0 .i64) n5), (10, rd (Z0 .i64) i10)], [(0, Zc v2 121 Z8 l9)])) ((((n5 : Int) - 0).toNat + 1), d1, 0) ⟨trivial, h⟩ (FX rfl) ?_
 rintro ⟨m11, l9, i10⟩ ⟨hsf1, h⟩
 dsimp only at h ⊢
 cases m11 with
 | zero => cases h
 | succ m11 =>
  unfold Zdj at h
  refine sq <| SR <| Md rfl <| Md rfl <| Ac (Zn rfl rfl (vt rfl) (vt rfl)) rfl <| Nl <| Cq rfl h (fun h => ?_) (fun h => ?_)
  ·refine sk <| sq <| bk <| AW.vlen 0 rfl fun hvl0_123 => ?_
   obtain ⟨x12, hx12, x13, hx13, x14, hx14, x15, hx15, h⟩ := bs4 h
   refine AR Zx (by kernel_rfl) <| SMw rfl <| Zq rfl <| Zq rfl <| Sd (lo [17, 18] [] rfl fun S hs hr => Z06 rfl rfl (vh hs 17 rfl rfl) (vh hs 18 rfl rfl)) <| SMw rfl <| Zq rfl <| Zq rfl <| Sd (lo [21, 22] [] rfl fun S hs hr => Z06 rfl rfl (vh hs 21 rfl rfl) (vh hs 22 rfl rfl)) <| SMw rfl <| Zq rfl <| Zq rfl <| Sd (lo [25, 26] [] rfl fun S hs hr => Z06 rfl rfl (vh hs 25 rfl rfl) (vh hs 26 rfl rfl)) <| Sd (lo [24, 27] [] rfl fun S hs hr => Z2c (l := l9) hvl0_123 rfl rfl rfl Z0c (vh hs 24 rfl rfl) (vh hs 27 rfl rfl) hx12) <| Sd (lo [28] [0] rfl fun S hs hr => Z1i 0 rfl rfl Z0s (vh hs 28 rfl rfl) ((hr 0 rfl).trans rfl) (Z0e hx12).2) <| SMw rfl <| Zq rfl <| Zq rfl <| Sd (lo [31, 32] [] rfl fun S hs hr => Z06 rfl rfl (vh hs 31 rfl rfl) (vh hs 32 rfl rfl)) <| Sd (lo [30, 33] [] rfl fun S hs hr => Z2c (l := l9) hvl0_123 rfl rfl rfl Z0c (vh hs 30 rfl rfl) (vh hs 33 rfl rfl) hx13) <| Sd (lo [34] [0] rfl fun S hs hr => Z1i 0 rfl rfl Z0s (vh hs 34 rfl rfl) ((hr 0 rfl).trans rfl) (Z0e hx13).2) <| Sd (lo [16, 19] [] rfl fun S hs hr => Z2c (l := l9) hvl0_123 rfl rfl rfl Z0c (vh hs 16 rfl rfl) (vh hs 19 rfl rfl) hx14) <| Sd (Z44 [36, 29] [0] rfl fun S hs hr => Z2o 0 rfl rfl Z0s (vh hs 36 rfl rfl) ((hr 0 rfl).trans rfl) (Z0e hx14).2 (vh hs 29 rfl rfl)) <| Sd (lo [20, 23] [] rfl fun S hs hr => Z2c (l := (List.set l9 (IntKind.i64.wrap (a3 + i10)).toNat x12)) hvl0_123 (by simp) rfl rfl Z0c (vh hs 20 rfl rfl) (vh hs 23 rfl rfl) hx15) <| Sd (Z44 [37, 35] [0] rfl fun S hs hr => Z2o 0 rfl rfl Z0s (vh hs 37 rfl rfl) ((hr 0 rfl).trans rfl) (Z0e hx15).2 (vh hs 35 rfl rfl)) <| Sn <| Rg <| Md rfl <| Ac (Z06 rfl rfl (vt rfl) (vk rfl)) rfl <| As rfl <| Nl ?_
   exact ⟨(_, _, _), Nat.lt_succ_self _, ⟨trivial, h⟩, FX rfl⟩
  ·refine xt ?_
   cases h; exact Z20 (i := 0) Tryz.results343 rfl rfl
def Zdh (m4 : Int) (x6 : (Action → Action → Option Int)) : Nat → (List Action) → Int → Int → Option (List Action)
 | 0, _, _, _ => none
 | m13 + 1, l10, i11, j12 => (bif (decide (i11 ≠ j12)) then (bif (decide (i11 > j12)) then (Zeg l10 (IntKind.i64.wrap (m4 - i11)) m4 j12 x6).bind fun l14 => (Zdh m4 x6 m13) l14 (IntKind.i64.wrap (i11 - j12)) j12 else (Zeg l10 (IntKind.i64.wrap (m4 - i11)) (IntKind.i64.wrap ((IntKind.i64.wrap (m4 + j12)) - i11)) i11 x6).bind fun l15 => (Zdh m4 x6 m13) l15 i11 (IntKind.i64.wrap (j12 - i11))) else (Zeg l10 (IntKind.i64.wrap (m4 - i11)) m4 i11 x6).bind fun l16 => some l16)
def Zey (d1 : (List Action)) (a3 : Int) (m4 : Int) (b5 : Int) (x6 : (Action → Action → Option Int)) : Option (List Action) :=
 Zdh m4 x6 Z0l d1 (IntKind.i64.wrap (m4 - a3)) (IntKind.i64.wrap (b5 - m4))
theorem Y9b (v2 : Value) (d1 : (List Action)) (a3 : Int) (m4 : Int) (b5 : Int) (x6 : (Action → Action → Option Int)) (r : (List Action)) (h : Zey d1 a3 m4 b5 x6 = some r) : Con Tryz.prog 335 [Zi v2, rd (Z0 .i64) a3, rd (Z0 .i64) m4, rd (Z0 .i64) b5, fn2 Tryz.prog Z8 Z8 (Z0 .i64) x6] (Zc v2 121 Z8 d1) (fun _ : Unit => top) (fun _ => Zc v2 121 Z8 r) := by
 refine Con.intro Tryz.func335 rfl Tryz.ntmps335 rfl fun w H X => ?_
 unfold Zey at h
 refine SR <| Md rfl <| Md rfl <| Ac (Z0p rfl rfl (vt rfl) (vt rfl)) rfl <| As rfl <| Nl <| SR <| Md rfl <| Md rfl <| Ac (Z0p rfl rfl (vt rfl) (vt rfl)) rfl <| As rfl <| Nl <| sq <| bk <| LG (d := []) (ν := Nat × (List Action) × Int × Int) (fun (m13, l10, i11, j12) => (True ∧ Zdh m4 x6 m13 l10 i11 j12 = some r, m13, [(0, Zi v2), (2, rd (Z0 .i64) m4), (4, fn2 Tryz.prog Z8 Z8 (Z0 .i64) x6), (10, rd (Z0 .i64) i11), (11, rd (Z0 .i64) j12)], [(0, Zc v2 121 Z8 l10)])) (Z0l, d1, (IntKind.i64.wrap (m4 - a3)), (IntKind.i64.wrap (b5 - m4))) ⟨trivial, h⟩ (FX rfl) ?_
 rintro ⟨m13, l10, i11, j12⟩ ⟨hsf1, h⟩
 dsimp only at h ⊢
 cases m13 with
 | zero => cases h
 | succ m13 =>
  unfold Zdh at h
  refine sq <| SR <| Md rfl <| Md rfl <| Ac (Zbr rfl rfl (vt rfl) (vt rfl)) rfl <| Nl <| Cq rfl h (fun h => ?_) (fun h => ?_)
  ·refine sk <| bk <| SR <| Md rfl <| Md rfl <| Ac (Z3i rfl rfl (vt rfl) (vt rfl)) rfl <| Nl <| Cq rfl h (fun h => ?_) (fun h => ?_)
   ·refine sq ?_
    obtain ⟨l14, hl14, h⟩ := Za h
    refine Rg <| Mw rfl <| Md rfl <| Md rfl <| Ac (Z0p rfl rfl (vt rfl) (vt rfl)) rfl <| Md rfl <| Md rfl <| Ac (Zs (A := fn2 Tryz.prog Z8 Z8 (Z0 .i64) x6) rfl rfl (vt rfl)) rfl <| Cv rfl (Z1b 0 (xs := [.tmp 24, .tmp 27, .tmp 28, .tmp 29, .tmp 30]) (Zuo _ _ _ _ _ _ _ hl14) Zqo rfl rfl ⟨vt rfl, vt rfl, vt rfl, vt rfl, vt rfl, trivial⟩ rfl) fun _u => Nl <| Rg <| Md rfl <| Md rfl <| Ac (Z0p rfl rfl (vt rfl) (vt rfl)) rfl <| As rfl <| Nl ?_
    exact ⟨(_, _, _, _), Nat.lt_succ_self _, ⟨trivial, h⟩, FX rfl⟩
   ·refine sq ?_
    obtain ⟨l15, hl15, h⟩ := Za h
    refine Rg <| Mw rfl <| Md rfl <| Md rfl <| Ac (Z0p rfl rfl (vt rfl) (vt rfl)) rfl <| Md rfl <| Md rfl <| Ac (Z06 rfl rfl (vt rfl) (vt rfl)) rfl <| Md rfl <| Ac (Z0p rfl rfl (vt rfl) (vt rfl)) rfl <| Md rfl <| Ac (Zs (A := fn2 Tryz.prog Z8 Z8 (Z0 .i64) x6) rfl rfl (vt rfl)) rfl <| Cv rfl (Z1b 0 (xs := [.tmp 35, .tmp 38, .tmp 43, .tmp 44, .tmp 45]) (Zuo _ _ _ _ _ _ _ hl15) Zqo rfl rfl ⟨vt rfl, vt rfl, vt rfl, vt rfl, vt rfl, trivial⟩ rfl) fun _u => Nl <| Rg <| Md rfl <| Md rfl <| Ac (Z0p rfl rfl (vt rfl) (vt rfl)) rfl <| As rfl <| Nl ?_
    exact ⟨(_, _, _, _), Nat.lt_succ_self _, ⟨trivial, h⟩, FX rfl⟩
  ·refine xt ?_
   obtain ⟨l16, hl16, h⟩ := Za h
   refine Rg <| Mw rfl <| Md rfl <| Md rfl <| Ac (Z0p rfl rfl (vt rfl) (vt rfl)) rfl <| Md rfl <| Md rfl <| Ac (Zs (A := fn2 Tryz.prog Z8 Z8 (Z0 .i64) x6) rfl rfl (vt rfl)) rfl <| Cv rfl (Z1b 0 (xs := [.tmp 50, .tmp 53, .tmp 54, .tmp 55, .tmp 56]) (Zuo _ _ _ _ _ _ _ hl16) Zqo rfl rfl ⟨vt rfl, vt rfl, vt rfl, vt rfl, vt rfl, trivial⟩ rfl) fun _u => Nl ?_
   cases h; exact Z20 (i := 0) Tryz.results335 rfl rfl
def Z9x (i9 : Int) : Nat → (List Action) → Int → Option (List Action)
 | 0, _, _ => none
 | m20 + 1, l18, k19 => (bif (decide (k19 < (IntKind.i64.wrap (i9 - 1)))) then (lget l18 (IntKind.i64.wrap (k19 + 1))).bind fun x21 => (lget l18 k19).bind fun x22 => (lget l18 k19).bind fun x23 => (lget (List.set l18 k19.toNat x21) (IntKind.i64.wrap (k19 + 1))).bind fun x24 => (Z9x i9 m20) (List.set (List.set l18 k19.toNat x21) (IntKind.i64.wrap (k19 + 1)).toNat x22) (IntKind.i64.wrap (k19 + 1)) else some l18)
def Z9n (d1 : (List Action)) (a3 : Int) (x6 : (Action → Action → Option Int)) : Nat → Int → Int → Option (List Action)
 | 0, _, _ => none
 | m11 + 1, i9, j10 => (bif (decide (i9 < j10)) then (Z3g (BitVec.ofInt 64 (IntKind.i64.wrap (i9 + j10))) ((1 : BitVec 64).toNat : Int)).bind fun q12 => (lget d1 (IntKind.i64.wrap (q12.toNat : Int))).bind fun x13 => (lget d1 a3).bind fun x14 => (x6 x13 x14).bind fun x15 => (bif (decide (x15 < 0)) then (Z9n d1 a3 x6 m11) (IntKind.i64.wrap ((IntKind.i64.wrap (q12.toNat : Int)) + 1)) j10 else (Z9n d1 a3 x6 m11) i9 (IntKind.i64.wrap (q12.toNat : Int))) else Z9x i9 ((((IntKind.i64.wrap (i9 - 1)) : Int) - a3).toNat + 1) d1 a3)
def Z9o (i27 : Int) : Nat → (List Action) → Int → Option (List Action)
 | 0, _, _ => none
 | m38 + 1, l36, k37 => (bif (decide (k37 > i27)) then (lget l36 (IntKind.i64.wrap (k37 - 1))).bind fun x39 => (lget l36 k37).bind fun x40 => (lget l36 k37).bind fun x41 => (lget (List.set l36 k37.toNat x39) (IntKind.i64.wrap (k37 - 1))).bind fun x42 => (Z9o i27 m38) (List.set (List.set l36 k37.toNat x39) (IntKind.i64.wrap (k37 - 1)).toNat x40) (IntKind.i64.wrap (k37 - 1)) else some l36)
def Z9i (d1 : (List Action)) (m4 : Int) (x6 : (Action → Action → Option Int)) : Nat → Int → Int → Option (List Action)
 | 0, _, _ => none
 | m29 + 1, i27, j28 => (bif (decide (i27 < j28)) then (Z3g (BitVec.ofInt 64 (IntKind.i64.wrap (i27 + j28))) ((1 : BitVec 64).toNat : Int)).bind fun q30 => (lget d1 m4).bind fun x31 => (lget d1 (IntKind.i64.wrap (q30.toNat : Int))).bind fun x32 => (x6 x31 x32).bind fun x33 => (bif (!(decide (x33 < 0))) then (Z9i d1 m4 x6 m29) (IntKind.i64.wrap ((IntKind.i64.wrap (q30.toNat : Int)) + 1)) j28 else (Z9i d1 m4 x6 m29) i27 (IntKind.i64.wrap (q30.toNat : Int))) else Z9o i27 (((m4 : Int) - i27).toNat + 1) d1 m4)
def Zgf (q43 : (BitVec 64)) (m4 : Int) (s48 : Int) (b5 : Int) (R_slices_symMergeCmpFunc_Action : ((List Action) → Int → Int → Int → (Action → Action → Option Int) → Option (List Action))) (x6 : (Action → Action → Option Int)) (l56 : (List Action)) : Option (List Action) :=
 (bif ((decide ((IntKind.i64.wrap (q43.toNat : Int)) < (IntKind.i64.wrap ((IntKind.i64.wrap ((IntKind.i64.wrap (q43.toNat : Int)) + m4)) - s48)))) && (decide ((IntKind.i64.wrap ((IntKind.i64.wrap ((IntKind.i64.wrap (q43.toNat : Int)) + m4)) - s48)) < b5))) then (R_slices_symMergeCmpFunc_Action l56 (IntKind.i64.wrap (q43.toNat : Int)) (IntKind.i64.wrap ((IntKind.i64.wrap ((IntKind.i64.wrap (q43.toNat : Int)) + m4)) - s48)) b5 x6).bind fun l57 => some l57 else some l56)
def Zac (a3 : Int) (s48 : Int) (q43 : (BitVec 64)) (R_slices_symMergeCmpFunc_Action : ((List Action) → Int → Int → Int → (Action → Action → Option Int) → Option (List Action))) (x6 : (Action → Action → Option Int)) (m4 : Int) (b5 : Int) (l55 : (List Action)) : Option (List Action) :=
 (bif ((decide (a3 < s48)) && (decide (s48 < (IntKind.i64.wrap (q43.toNat : Int))))) then (R_slices_symMergeCmpFunc_Action l55 a3 s48 (IntKind.i64.wrap (q43.toNat : Int)) x6).bind fun l58 => Zgf q43 m4 s48 b5 R_slices_symMergeCmpFunc_Action x6 l58 else Zgf q43 m4 s48 b5 R_slices_symMergeCmpFunc_Action x6 l55)
def Zao (d1 : (List Action)) (q43 : (BitVec 64)) (m4 : Int) (x6 : (Action → Action → Option Int)) (a3 : Int) (R_slices_symMergeCmpFunc_Action : ((List Action) → Int → Int → Int → (Action → Action → Option Int) → Option (List Action))) (b5 : Int) : Nat → Int → Int → Option (List Action)
 | 0, _, _ => none
 | m50 + 1, s48, x49 => (bif (decide (s48 < x49)) then (Z3g (BitVec.ofInt 64 (IntKind.i64.wrap (s48 + x49))) ((1 : BitVec 64).toNat : Int)).bind fun q51 => (lget d1 (IntKind.i64.wrap ((IntKind.i64.wrap ((IntKind.i64.wrap ((IntKind.i64.wrap (q43.toNat : Int)) + m4)) - 1)) - (IntKind.i64.wrap (q51.toNat : Int))))).bind fun x52 => (lget d1 (IntKind.i64.wrap (q51.toNat : Int))).bind fun x53 => (x6 x52 x53).bind fun x54 => (bif (!(decide (x54 < 0))) then (Zao d1 q43 m4 x6 a3 R_slices_symMergeCmpFunc_Action b5 m50) (IntKind.i64.wrap ((IntKind.i64.wrap (q51.toNat : Int)) + 1)) x49 else (Zao d1 q43 m4 x6 a3 R_slices_symMergeCmpFunc_Action b5 m50) s48 (IntKind.i64.wrap (q51.toNat : Int))) else (bif ((decide (s48 < m4)) && (decide (m4 < (IntKind.i64.wrap ((IntKind.i64.wrap ((IntKind.i64.wrap (q43.toNat : Int)) + m4)) - s48))))) then (Zey d1 s48 m4 (IntKind.i64.wrap ((IntKind.i64.wrap ((IntKind.i64.wrap (q43.toNat : Int)) + m4)) - s48)) x6).bind fun l59 => Zac a3 s48 q43 R_slices_symMergeCmpFunc_Action x6 m4 b5 l59 else Zac a3 s48 q43 R_slices_symMergeCmpFunc_Action x6 m4 b5 d1))
def Zej (d1 : (List Action)) (q43 : (BitVec 64)) (m4 : Int) (x6 : (Action → Action → Option Int)) (a3 : Int) (R_slices_symMergeCmpFunc_Action : ((List Action) → Int → Int → Int → (Action → Action → Option Int) → Option (List Action))) (b5 : Int) (s44 : Int) (x45 : Int) : Option (List Action) :=
 Zao d1 q43 m4 x6 a3 R_slices_symMergeCmpFunc_Action b5 (((x45 : Int) - s44).toNat + 1) s44 x45
def Zjj (R_slices_symMergeCmpFunc_Action : ((List Action) → Int → Int → Int → (Action → Action → Option Int) → Option (List Action))) (d1 : (List Action)) (a3 : Int) (m4 : Int) (b5 : Int) (x6 : (Action → Action → Option Int)) : Option (List Action) :=
 (bif (decide ((IntKind.i64.wrap (m4 - a3)) = 1)) then Z9n d1 a3 x6 (((b5 : Int) - m4).toNat + 1) m4 b5 else (bif (decide ((IntKind.i64.wrap (b5 - m4)) = 1)) then Z9i d1 m4 x6 (((m4 : Int) - a3).toNat + 1) a3 m4 else (Z3g (BitVec.ofInt 64 (IntKind.i64.wrap (a3 + b5))) ((1 : BitVec 64).toNat : Int)).bind fun q43 => (bif (decide (m4 > (IntKind.i64.wrap (q43.toNat : Int)))) then Zej d1 q43 m4 x6 a3 R_slices_symMergeCmpFunc_Action b5 (IntKind.i64.wrap ((IntKind.i64.wrap ((IntKind.i64.wrap (q43.toNat : Int)) + m4)) - b5)) (IntKind.i64.wrap (q43.toNat : Int)) else Zej d1 q43 m4 x6 a3 R_slices_symMergeCmpFunc_Action b5 a3 m4)))
theorem Yl9 (R_slices_symMergeCmpFunc_Action : ((List Action) → Int → Int → Int → (Action → Action → Option Int) → Option (List Action))) (hR_slices_symMergeCmpFunc_Action : ∀ (v2 : Value) (d1 : (List Action)) (a3 : Int) (m4 : Int) (b5 : Int) (x6 : (Action → Action → Option Int)) (r : (List Action)), R_slices_symMergeCmpFunc_Action d1 a3 m4 b5 x6 = some r → Con Tryz.prog 311 [Zi v2, rd (Z0 .i64) a3, rd (Z0 .i64) m4, rd (Z0 .i64) b5, fn2 Tryz.prog Z8 Z8 (Z0 .i64) x6] (Zc v2 121 Z8 d1) (fun _ : Unit => top) (fun _ => Zc v2 121 Z8 r)) (v2 : Value) (d1 : (List Action)) (a3 : Int) (m4 : Int) (b5 : Int) (x6 : (Action → Action → Option Int)) (r : (List Action)) (h : Zjj R_slices_symMergeCmpFunc_Action d1 a3 m4 b5 x6 = some r) : Con Tryz.prog 311 [Zi v2, rd (Z0 .i64) a3, rd (Z0 .i64) m4, rd (Z0 .i64) b5, fn2 Tryz.prog Z8 Z8 (Z0 .i64) x6] (Zc v2 121 Z8 d1) (fun _ : Unit => top) (fun _ => Zc v2 121 Z8 r) := by
 refine Con.intro Tryz.func311 rfl Tryz.ntmps311 rfl fun w H X => ?_
 unfold Zjj at h
 refine sq <| SR <| Md rfl <| Md rfl <| Ac (Z0p rfl rfl (vt rfl) (vt rfl)) rfl <| Ac (Z0m rfl rfl (vt rfl) (vk rfl)) rfl <| Nl <| Cq rfl h (fun h => ?_) (fun h => ?_)
 ·refine SR <| Md rfl <| As rfl <| Nl <| SR <| Md rfl <| As rfl <| Nl <| sq <| bk <| LG (d := []) (ν := Nat × Int × Int) (fun (m11, i9, j10) => (True ∧ Z9n d1 a3 x6 m11 i9 j10 = some r, m11, [(0, Zi v2), (1, rd (Z0 .i64) a3), (4, fn2 Tryz.prog Z8 Z8 (Z0 .i64) x6), (10, rd (Z0 .i64) i9), (11, rd (Z0 .i64) j10)], [(0, Zc v2 121 Z8 d1)])) ((((b5 : Int) - m4).toNat + 1), m4, b5) ⟨trivial, h⟩ (FX rfl) ?_
  rintro ⟨m11, i9, j10⟩ ⟨hsf1, h⟩
  dsimp only at h ⊢
  cases m11 with
  | zero => cases h
  | succ m11 =>
   unfold Z9n at h
   refine sq <| SR <| Md rfl <| Md rfl <| Ac (Zn rfl rfl (vt rfl) (vt rfl)) rfl <| Nl <| Cq rfl h (fun h => ?_) (fun h => ?_)
   ·refine sk <| bk <| sq ?_
    obtain ⟨q12, hq12, h⟩ := Za h
    refine Rg <| Md rfl <| Md rfl <| Ac (Z06 rfl rfl (vt rfl) (vt rfl)) rfl <| Ac (Z8g rfl rfl us3 Z89 (vt rfl)) rfl <| Ac (Z5p rfl rfl (vt rfl) (Z4o (vku (1 : BitVec 64) rfl)) hq12) rfl <| Ac (Z8x rfl rfl Zbl un3 (vt rfl)) rfl <| As rfl <| Nl <| sq ?_
    obtain ⟨x13, hx13, x14, hx14, x15, hx15, h⟩ := bs3 h
    refine AR Zx (by kernel_rfl) <| Sd (lo [4] [] rfl fun S hs hr => Zs (A := fn2 Tryz.prog Z8 Z8 (Z0 .i64) x6) rfl rfl (vh hs 4 rfl rfl)) <| SMw rfl <| Zq rfl <| Sd (lo [41, 42] [0] rfl fun S hs hr => Z21 0 rfl rfl Z0c (vh hs 41 rfl rfl) ((hr 0 rfl).trans rfl) (vh hs 42 rfl rfl) hx13) <| Sd (lo [43] [0] rfl fun S hs hr => Z1i 0 rfl rfl Z0s (vh hs 43 rfl rfl) ((hr 0 rfl).trans rfl) (Z0e hx13).2) <| SMw rfl <| Zq rfl <| Sd (lo [45, 46] [0] rfl fun S hs hr => Z21 0 rfl rfl Z0c (vh hs 45 rfl rfl) ((hr 0 rfl).trans rfl) (vh hs 46 rfl rfl) hx14) <| Sd (lo [47] [0] rfl fun S hs hr => Z1i 0 rfl rfl Z0s (vh hs 47 rfl rfl) ((hr 0 rfl).trans rfl) (Z0e hx14).2) <| Sd (lo [40, 44, 48] [] rfl fun S hs hr => Za7 hx15 rfl rfl (vh hs 40 rfl rfl) (vh hs 44 rfl rfl) (vh hs 48 rfl rfl)) <| Sd (lo [49] [] rfl fun S hs hr => Zn rfl rfl (vh hs 49 rfl rfl) (vk rfl)) <| Sn <| Cq rfl h (fun h => ?_) (fun h => ?_)
    ·refine Rg <| Md rfl <| Ac (Z06 rfl rfl (vt rfl) (vk rfl)) rfl <| As rfl <| Nl ?_
     exact ⟨(_, _, _), Nat.lt_succ_self _, ⟨trivial, h⟩, FX rfl⟩
    ·refine Rg <| Md rfl <| As rfl <| Nl ?_
     exact ⟨(_, _, _), Nat.lt_succ_self _, ⟨trivial, h⟩, FX rfl⟩
   ·refine xt <| sq <| SR <| Md rfl <| As rfl <| Nl <| bk <| LG (d := []) (ν := Nat × (List Action) × Int) (fun (m20, l18, k19) => (True ∧ Z9x i9 m20 l18 k19 = some r, m20, [(0, Zi v2), (10, rd (Z0 .i64) i9), (13, rd (Z0 .i64) k19)], [(0, Zc v2 121 Z8 l18)])) (((((IntKind.i64.wrap (i9 - 1)) : Int) - a3).toNat + 1), d1, a3) ⟨trivial, h⟩ (FX rfl) ?_
    rintro ⟨m20, l18, k19⟩ ⟨hsf2, h⟩
    dsimp only at h ⊢
    cases m20 with
    | zero => cases h
    | succ m20 =>
     unfold Z9x at h
     refine sq <| SR <| Md rfl <| Md rfl <| Ac (Z0p rfl rfl (vt rfl) (vk rfl)) rfl <| Ac (Zn rfl rfl (vt rfl) (vt rfl)) rfl <| Nl <| Cq rfl h (fun h => ?_) (fun h => ?_)
     ·refine sk <| sq <| bk <| AW.vlen 0 rfl fun hvl0_205 => ?_
      obtain ⟨x21, hx21, x22, hx22, x23, hx23, x24, hx24, h⟩ := bs4 h
      refine AR Zx (by kernel_rfl) <| SMw rfl <| Zq rfl <| SMw rfl <| Zq rfl <| Sd (lo [64] [] rfl fun S hs hr => Z06 rfl rfl (vh hs 64 rfl rfl) (vk rfl)) <| SMw rfl <| Zq rfl <| Sd (lo [67] [] rfl fun S hs hr => Z06 rfl rfl (vh hs 67 rfl rfl) (vk rfl)) <| Sd (lo [66, 68] [] rfl fun S hs hr => Z2c (l := l18) hvl0_205 rfl rfl rfl Z0c (vh hs 66 rfl rfl) (vh hs 68 rfl rfl) hx21) <| Sd (lo [69] [0] rfl fun S hs hr => Z1i 0 rfl rfl Z0s (vh hs 69 rfl rfl) ((hr 0 rfl).trans rfl) (Z0e hx21).2) <| SMw rfl <| Zq rfl <| Sd (lo [71, 72] [] rfl fun S hs hr => Z2c (l := l18) hvl0_205 rfl rfl rfl Z0c (vh hs 71 rfl rfl) (vh hs 72 rfl rfl) hx22) <| Sd (lo [73] [0] rfl fun S hs hr => Z1i 0 rfl rfl Z0s (vh hs 73 rfl rfl) ((hr 0 rfl).trans rfl) (Z0e hx22).2) <| Sd (lo [61, 62] [] rfl fun S hs hr => Z2c (l := l18) hvl0_205 rfl rfl rfl Z0c (vh hs 61 rfl rfl) (vh hs 62 rfl rfl) hx23) <| Sd (Z44 [75, 70] [0] rfl fun S hs hr => Z2o 0 rfl rfl Z0s (vh hs 75 rfl rfl) ((hr 0 rfl).trans rfl) (Z0e hx23).2 (vh hs 70 rfl rfl)) <| Sd (lo [63, 65] [] rfl fun S hs hr => Z2c (l := (List.set l18 k19.toNat x21)) hvl0_205 (by simp) rfl rfl Z0c (vh hs 63 rfl rfl) (vh hs 65 rfl rfl) hx24) <| Sd (Z44 [76, 74] [0] rfl fun S hs hr => Z2o 0 rfl rfl Z0s (vh hs 76 rfl rfl) ((hr 0 rfl).trans rfl) (Z0e hx24).2 (vh hs 74 rfl rfl)) <| Sn <| Rg <| Md rfl <| Ac (Z06 rfl rfl (vt rfl) (vk rfl)) rfl <| As rfl <| Nl ?_
      exact ⟨(_, _, _), Nat.lt_succ_self _, ⟨trivial, h⟩, FX rfl⟩
     ·refine xt <| rt ?_
      cases h; exact Z20 (i := 0) Tryz.results311 rfl rfl
 ·refine sk <| sq <| SR <| Md rfl <| Md rfl <| Ac (Z0p rfl rfl (vt rfl) (vt rfl)) rfl <| Ac (Z0m rfl rfl (vt rfl) (vk rfl)) rfl <| Nl <| Cq rfl h (fun h => ?_) (fun h => ?_)
  ·refine SR <| Md rfl <| As rfl <| Nl <| SR <| Md rfl <| As rfl <| Nl <| sq <| bk <| LG (d := []) (ν := Nat × Int × Int) (fun (m29, i27, j28) => (True ∧ Z9i d1 m4 x6 m29 i27 j28 = some r, m29, [(0, Zi v2), (2, rd (Z0 .i64) m4), (4, fn2 Tryz.prog Z8 Z8 (Z0 .i64) x6), (14, rd (Z0 .i64) i27), (15, rd (Z0 .i64) j28)], [(0, Zc v2 121 Z8 d1)])) ((((m4 : Int) - a3).toNat + 1), a3, m4) ⟨trivial, h⟩ (FX rfl) ?_
   rintro ⟨m29, i27, j28⟩ ⟨hsf3, h⟩
   dsimp only at h ⊢
   cases m29 with
   | zero => cases h
   | succ m29 =>
    unfold Z9i at h
    refine sq <| SR <| Md rfl <| Md rfl <| Ac (Zn rfl rfl (vt rfl) (vt rfl)) rfl <| Nl <| Cq rfl h (fun h => ?_) (fun h => ?_)
    ·refine sk <| bk <| sq ?_
     obtain ⟨q30, hq30, h⟩ := Za h
     refine Rg <| Md rfl <| Md rfl <| Ac (Z06 rfl rfl (vt rfl) (vt rfl)) rfl <| Ac (Z8g rfl rfl us3 Z89 (vt rfl)) rfl <| Ac (Z5p rfl rfl (vt rfl) (Z4o (vku (1 : BitVec 64) rfl)) hq30) rfl <| Ac (Z8x rfl rfl Zbl un3 (vt rfl)) rfl <| As rfl <| Nl <| sq ?_
     obtain ⟨x31, hx31, x32, hx32, x33, hx33, h⟩ := bs3 h
     refine AR Zx (by kernel_rfl) <| Sd (lo [4] [] rfl fun S hs hr => Zs (A := fn2 Tryz.prog Z8 Z8 (Z0 .i64) x6) rfl rfl (vh hs 4 rfl rfl)) <| SMw rfl <| Zq rfl <| Sd (lo [93, 94] [0] rfl fun S hs hr => Z21 0 rfl rfl Z0c (vh hs 93 rfl rfl) ((hr 0 rfl).trans rfl) (vh hs 94 rfl rfl) hx31) <| Sd (lo [95] [0] rfl fun S hs hr => Z1i 0 rfl rfl Z0s (vh hs 95 rfl rfl) ((hr 0 rfl).trans rfl) (Z0e hx31).2) <| SMw rfl <| Zq rfl <| Sd (lo [97, 98] [0] rfl fun S hs hr => Z21 0 rfl rfl Z0c (vh hs 97 rfl rfl) ((hr 0 rfl).trans rfl) (vh hs 98 rfl rfl) hx32) <| Sd (lo [99] [0] rfl fun S hs hr => Z1i 0 rfl rfl Z0s (vh hs 99 rfl rfl) ((hr 0 rfl).trans rfl) (Z0e hx32).2) <| Sd (lo [92, 96, 100] [] rfl fun S hs hr => Za7 hx33 rfl rfl (vh hs 92 rfl rfl) (vh hs 96 rfl rfl) (vh hs 100 rfl rfl)) <| Sd (lo [101] [] rfl fun S hs hr => Zn rfl rfl (vh hs 101 rfl rfl) (vk rfl)) <| Sd (lo [102] [] rfl fun S hs hr => Z15 rfl rfl (vh hs 102 rfl rfl)) <| Sn <| Cq rfl h (fun h => ?_) (fun h => ?_)
     ·refine Rg <| Md rfl <| Ac (Z06 rfl rfl (vt rfl) (vk rfl)) rfl <| As rfl <| Nl ?_
      exact ⟨(_, _, _), Nat.lt_succ_self _, ⟨trivial, h⟩, FX rfl⟩
     ·refine Rg <| Md rfl <| As rfl <| Nl ?_
      exact ⟨(_, _, _), Nat.lt_succ_self _, ⟨trivial, h⟩, FX rfl⟩
    ·refine xt <| sq <| SR <| Md rfl <| As rfl <| Nl <| bk <| LG (d := []) (ν := Nat × (List Action) × Int) (fun (m38, l36, k37) => (True ∧ Z9o i27 m38 l36 k37 = some r, m38, [(0, Zi v2), (14, rd (Z0 .i64) i27), (17, rd (Z0 .i64) k37)], [(0, Zc v2 121 Z8 l36)])) ((((m4 : Int) - i27).toNat + 1), d1, m4) ⟨trivial, h⟩ (FX rfl) ?_
     rintro ⟨m38, l36, k37⟩ ⟨hsf4, h⟩
     dsimp only at h ⊢
     cases m38 with
     | zero => cases h
     | succ m38 =>
      unfold Z9o at h
      refine sq <| SR <| Md rfl <| Md rfl <| Ac (Z3i rfl rfl (vt rfl) (vt rfl)) rfl <| Nl <| Cq rfl h (fun h => ?_) (fun h => ?_)
      ·refine sk <| sq <| bk <| AW.vlen 0 rfl fun hvl0_446 => ?_
       obtain ⟨x39, hx39, x40, hx40, x41, hx41, x42, hx42, h⟩ := bs4 h
       refine AR Zx (by kernel_rfl) <| SMw rfl <| Zq rfl <| SMw rfl <| Zq rfl <| Sd (lo [116] [] rfl fun S hs hr => Z0p rfl rfl (vh hs 116 rfl rfl) (vk rfl)) <| SMw rfl <| Zq rfl <| Sd (lo [119] [] rfl fun S hs hr => Z0p rfl rfl (vh hs 119 rfl rfl) (vk rfl)) <| Sd (lo [118, 120] [] rfl fun S hs hr => Z2c (l := l36) hvl0_446 rfl rfl rfl Z0c (vh hs 118 rfl rfl) (vh hs 120 rfl rfl) hx39) <| Sd (lo [121] [0] rfl fun S hs hr => Z1i 0 rfl rfl Z0s (vh hs 121 rfl rfl) ((hr 0 rfl).trans rfl) (Z0e hx39).2) <| SMw rfl <| Zq rfl <| Sd (lo [123, 124] [] rfl fun S hs hr => Z2c (l := l36) hvl0_446 rfl rfl rfl Z0c (vh hs 123 rfl rfl) (vh hs 124 rfl rfl) hx40) <| Sd (lo [125] [0] rfl fun S hs hr => Z1i 0 rfl rfl Z0s (vh hs 125 rfl rfl) ((hr 0 rfl).trans rfl) (Z0e hx40).2) <| Sd (lo [113, 114] [] rfl fun S hs hr => Z2c (l := l36) hvl0_446 rfl rfl rfl Z0c (vh hs 113 rfl rfl) (vh hs 114 rfl rfl) hx41) <| Sd (Z44 [127, 122] [0] rfl fun S hs hr => Z2o 0 rfl rfl Z0s (vh hs 127 rfl rfl) ((hr 0 rfl).trans rfl) (Z0e hx41).2 (vh hs 122 rfl rfl)) <| Sd (lo [115, 117] [] rfl fun S hs hr => Z2c (l := (List.set l36 k37.toNat x39)) hvl0_446 (by simp) rfl rfl Z0c (vh hs 115 rfl rfl) (vh hs 117 rfl rfl) hx42) <| Sd (Z44 [128, 126] [0] rfl fun S hs hr => Z2o 0 rfl rfl Z0s (vh hs 128 rfl rfl) ((hr 0 rfl).trans rfl) (Z0e hx42).2 (vh hs 126 rfl rfl)) <| Sn <| Rg <| Md rfl <| Ac (Z0p rfl rfl (vt rfl) (vk rfl)) rfl <| As rfl <| Nl ?_
       exact ⟨(_, _, _), Nat.lt_succ_self _, ⟨trivial, h⟩, FX rfl⟩
      ·refine xt <| rt ?_
       cases h; exact Z20 (i := 0) Tryz.results311 rfl rfl
  ·refine sk <| sq ?_
   obtain ⟨q43, hq43, h⟩ := Za h
   refine Rg <| Md rfl <| Md rfl <| Ac (Z06 rfl rfl (vt rfl) (vt rfl)) rfl <| Ac (Z8g rfl rfl us3 Z89 (vt rfl)) rfl <| Ac (Z5p rfl rfl (vt rfl) (Z4o (vku (1 : BitVec 64) rfl)) hq43) rfl <| Ac (Z8x rfl rfl Zbl un3 (vt rfl)) rfl <| As rfl <| Nl <| SR <| Md rfl <| Md rfl <| Ac (Z06 rfl rfl (vt rfl) (vt rfl)) rfl <| As rfl <| Nl <| SR <| Ak rfl <| Ak rfl <| Nl ?_
   refine JN (d := []) (ν := Int × Int) (fun (s44, x45) => (Zej d1 q43 m4 x6 a3 R_slices_symMergeCmpFunc_Action b5 s44 x45 = some r, [(0, Zi v2), (1, rd (Z0 .i64) a3), (2, rd (Z0 .i64) m4), (3, rd (Z0 .i64) b5), (4, fn2 Tryz.prog Z8 Z8 (Z0 .i64) x6), (18, rd (Z0 .i64) (IntKind.i64.wrap (q43.toNat : Int))), (19, rd (Z0 .i64) (IntKind.i64.wrap ((IntKind.i64.wrap (q43.toNat : Int)) + m4))), (20, rd (Z0 .i64) s44), (21, rd (Z0 .i64) x45)], [(0, Zc v2 121 Z8 d1)])) ?hx5 ?hy5
   case hy5 =>
    rintro ⟨s44, x45⟩ h
    dsimp only at h ⊢
    unfold Zej at h
    refine SR <| Md rfl <| Ac (Z0p rfl rfl (vt rfl) (vk rfl)) rfl <| As rfl <| Nl <| sq <| bk <| LG (d := []) (ν := Nat × Int × Int) (fun (m50, s48, x49) => (True ∧ Zao d1 q43 m4 x6 a3 R_slices_symMergeCmpFunc_Action b5 m50 s48 x49 = some r, m50, [(0, Zi v2), (1, rd (Z0 .i64) a3), (2, rd (Z0 .i64) m4), (3, rd (Z0 .i64) b5), (4, fn2 Tryz.prog Z8 Z8 (Z0 .i64) x6), (18, rd (Z0 .i64) (IntKind.i64.wrap (q43.toNat : Int))), (19, rd (Z0 .i64) (IntKind.i64.wrap ((IntKind.i64.wrap (q43.toNat : Int)) + m4))), (20, rd (Z0 .i64) s48), (21, rd (Z0 .i64) x49), (22, rd (Z0 .i64) (IntKind.i64.wrap ((IntKind.i64.wrap ((IntKind.i64.wrap (q43.toNat : Int)) + m4)) - 1)))], [(0, Zc v2 121 Z8 d1)])) ((((x45 : Int) - s44).toNat + 1), s44, x45) ⟨trivial, h⟩ (FX rfl) ?_
    rintro ⟨m50, s48, x49⟩ ⟨hsf6, h⟩
    dsimp only at h ⊢
    cases m50 with
    | zero => cases h
    | succ m50 =>
     unfold Zao at h
     refine sq <| SR <| Md rfl <| Md rfl <| Ac (Zn rfl rfl (vt rfl) (vt rfl)) rfl <| Nl <| Cq rfl h (fun h => ?_) (fun h => ?_)
     ·refine sk <| bk <| sq ?_
      obtain ⟨q51, hq51, h⟩ := Za h
      refine Rg <| Md rfl <| Md rfl <| Ac (Z06 rfl rfl (vt rfl) (vt rfl)) rfl <| Ac (Z8g rfl rfl us3 Z89 (vt rfl)) rfl <| Ac (Z5p rfl rfl (vt rfl) (Z4o (vku (1 : BitVec 64) rfl)) hq51) rfl <| Ac (Z8x rfl rfl Zbl un3 (vt rfl)) rfl <| As rfl <| Nl <| sq ?_
      obtain ⟨x52, hx52, x53, hx53, x54, hx54, h⟩ := bs3 h
      refine AR Zx (by kernel_rfl) <| Sd (lo [4] [] rfl fun S hs hr => Zs (A := fn2 Tryz.prog Z8 Z8 (Z0 .i64) x6) rfl rfl (vh hs 4 rfl rfl)) <| SMw rfl <| Zq rfl <| Zq rfl <| Sd (lo [160, 161] [] rfl fun S hs hr => Z0p rfl rfl (vh hs 160 rfl rfl) (vh hs 161 rfl rfl)) <| Sd (lo [159, 162] [0] rfl fun S hs hr => Z21 0 rfl rfl Z0c (vh hs 159 rfl rfl) ((hr 0 rfl).trans rfl) (vh hs 162 rfl rfl) hx52) <| Sd (lo [163] [0] rfl fun S hs hr => Z1i 0 rfl rfl Z0s (vh hs 163 rfl rfl) ((hr 0 rfl).trans rfl) (Z0e hx52).2) <| SMw rfl <| Zq rfl <| Sd (lo [165, 166] [0] rfl fun S hs hr => Z21 0 rfl rfl Z0c (vh hs 165 rfl rfl) ((hr 0 rfl).trans rfl) (vh hs 166 rfl rfl) hx53) <| Sd (lo [167] [0] rfl fun S hs hr => Z1i 0 rfl rfl Z0s (vh hs 167 rfl rfl) ((hr 0 rfl).trans rfl) (Z0e hx53).2) <| Sd (lo [158, 164, 168] [] rfl fun S hs hr => Za7 hx54 rfl rfl (vh hs 158 rfl rfl) (vh hs 164 rfl rfl) (vh hs 168 rfl rfl)) <| Sd (lo [169] [] rfl fun S hs hr => Zn rfl rfl (vh hs 169 rfl rfl) (vk rfl)) <| Sd (lo [170] [] rfl fun S hs hr => Z15 rfl rfl (vh hs 170 rfl rfl)) <| Sn <| Cq rfl h (fun h => ?_) (fun h => ?_)
      ·refine Rg <| Md rfl <| Ac (Z06 rfl rfl (vt rfl) (vk rfl)) rfl <| As rfl <| Nl ?_
       exact ⟨(_, _, _), Nat.lt_succ_self _, ⟨trivial, h⟩, FX rfl⟩
      ·refine Rg <| Md rfl <| As rfl <| Nl ?_
       exact ⟨(_, _, _), Nat.lt_succ_self _, ⟨trivial, h⟩, FX rfl⟩
     ·refine xt <| SR <| Md rfl <| Md rfl <| Ac (Z0p rfl rfl (vt rfl) (vt rfl)) rfl <| As rfl <| Nl ?_
      refine JN (d := []) (ν := (List Action)) (fun l55 => (Zac a3 s48 q43 R_slices_symMergeCmpFunc_Action x6 m4 b5 l55 = some r, [(0, Zi v2), (1, rd (Z0 .i64) a3), (3, rd (Z0 .i64) b5), (4, fn2 Tryz.prog Z8 Z8 (Z0 .i64) x6), (18, rd (Z0 .i64) (IntKind.i64.wrap (q43.toNat : Int))), (20, rd (Z0 .i64) s48), (24, rd (Z0 .i64) (IntKind.i64.wrap ((IntKind.i64.wrap ((IntKind.i64.wrap (q43.toNat : Int)) + m4)) - s48)))], [(0, Zc v2 121 Z8 l55)])) ?hx7 ?hy7
      case hy7 =>
       intro l55 h
       dsimp only at h ⊢
       unfold Zac at h
       refine JN (d := []) (ν := (List Action)) (fun l56 => (Zgf q43 m4 s48 b5 R_slices_symMergeCmpFunc_Action x6 l56 = some r, [(0, Zi v2), (3, rd (Z0 .i64) b5), (4, fn2 Tryz.prog Z8 Z8 (Z0 .i64) x6), (18, rd (Z0 .i64) (IntKind.i64.wrap (q43.toNat : Int))), (24, rd (Z0 .i64) (IntKind.i64.wrap ((IntKind.i64.wrap ((IntKind.i64.wrap (q43.toNat : Int)) + m4)) - s48)))], [(0, Zc v2 121 Z8 l56)])) ?hx8 ?hy8
       case hy8 =>
        intro l56 h
        dsimp only at h ⊢
        unfold Zgf at h
        refine SR <| Md rfl <| Md rfl <| Ac (Zn rfl rfl (vt rfl) (vt rfl)) rfl <| Md rfl <| Gd rfl (fun hq => Zs (A := rd (Z0 .i64) (IntKind.i64.wrap ((IntKind.i64.wrap ((IntKind.i64.wrap (q43.toNat : Int)) + m4)) - s48))) rfl rfl (vt rfl)) <| Gd rfl (fun hq => Zs (A := rd (Z0 .i64) b5) rfl rfl (vt rfl)) <| Gd rfl (fun hq => Zn rfl rfl (Zo rfl hq) (Zo rfl hq)) <| Ac (Z1t rfl rfl (vt rfl) (vt rfl)) rfl <| Nl <| Cq rfl h (fun h => ?_) (fun h => ?_)
        ·obtain ⟨l57, hl57, h⟩ := Za h
         refine Rg <| Mw rfl <| Md rfl <| Md rfl <| Md rfl <| Ac (Zs (A := fn2 Tryz.prog Z8 Z8 (Z0 .i64) x6) rfl rfl (vt rfl)) rfl <| Cv rfl (Z1b 0 (xs := [.tmp 214, .tmp 215, .tmp 216, .tmp 217, .tmp 218]) (hR_slices_symMergeCmpFunc_Action _ _ _ _ _ _ _ hl57) Zmg rfl rfl ⟨vt rfl, vt rfl, vt rfl, vt rfl, vt rfl, trivial⟩ rfl) fun _u => Nl ?_
         cases h; exact Z20 (i := 0) Tryz.results311 rfl rfl
        ·refine sk ?_
         cases h; exact Z20 (i := 0) Tryz.results311 rfl rfl
       case hx8 =>
        refine SR <| Md rfl <| Md rfl <| Ac (Zn rfl rfl (vt rfl) (vt rfl)) rfl <| Md rfl <| Gd rfl (fun hq => Zs (A := rd (Z0 .i64) s48) rfl rfl (vt rfl)) <| Gd rfl (fun hq => Zs (A := rd (Z0 .i64) (IntKind.i64.wrap (q43.toNat : Int))) rfl rfl (vt rfl)) <| Gd rfl (fun hq => Zn rfl rfl (Zo rfl hq) (Zo rfl hq)) <| Ac (Z1t rfl rfl (vt rfl) (vt rfl)) rfl <| Nl <| Cq rfl h (fun h => ?_) (fun h => ?_)
        ·obtain ⟨l58, hl58, h⟩ := Za h
         refine Rg <| Mw rfl <| Md rfl <| Md rfl <| Md rfl <| Ac (Zs (A := fn2 Tryz.prog Z8 Z8 (Z0 .i64) x6) rfl rfl (vt rfl)) rfl <| Cv rfl (Z1b 0 (xs := [.tmp 200, .tmp 201, .tmp 202, .tmp 203, .tmp 204]) (hR_slices_symMergeCmpFunc_Action _ _ _ _ _ _ _ hl58) Zmg rfl rfl ⟨vt rfl, vt rfl, vt rfl, vt rfl, vt rfl, trivial⟩ rfl) fun _u => Nl ?_
         exact ⟨_, h, FX rfl⟩
        ·refine sk ?_
         exact ⟨_, h, FX rfl⟩
      case hx7 =>
       refine SR <| Md rfl <| Md rfl <| Ac (Zn rfl rfl (vt rfl) (vt rfl)) rfl <| Md rfl <| Gd rfl (fun hq => Zs (A := rd (Z0 .i64) m4) rfl rfl (vt rfl)) <| Gd rfl (fun hq => Zs (A := rd (Z0 .i64) (IntKind.i64.wrap ((IntKind.i64.wrap ((IntKind.i64.wrap (q43.toNat : Int)) + m4)) - s48))) rfl rfl (vt rfl)) <| Gd rfl (fun hq => Zn rfl rfl (Zo rfl hq) (Zo rfl hq)) <| Ac (Z1t rfl rfl (vt rfl) (vt rfl)) rfl <| Nl <| Cq rfl h (fun h => ?_) (fun h => ?_)
       ·obtain ⟨l59, hl59, h⟩ := Za h
        refine Rg <| Mw rfl <| Md rfl <| Md rfl <| Md rfl <| Ac (Zs (A := fn2 Tryz.prog Z8 Z8 (Z0 .i64) x6) rfl rfl (vt rfl)) rfl <| Cv rfl (Z1b 0 (xs := [.tmp 186, .tmp 187, .tmp 188, .tmp 189, .tmp 190]) (Y9b _ _ _ _ _ _ _ hl59) Y5a rfl rfl ⟨vt rfl, vt rfl, vt rfl, vt rfl, vt rfl, trivial⟩ rfl) fun _u => Nl ?_
        exact ⟨_, h, FX rfl⟩
       ·refine sk ?_
        exact ⟨_, h, FX rfl⟩
   case hx5 =>
    refine SR <| Md rfl <| Md rfl <| Ac (Z3i rfl rfl (vt rfl) (vt rfl)) rfl <| Nl <| Cq rfl h (fun h => ?_) (fun h => ?_)
    ·refine SR <| Md rfl <| Md rfl <| Ac (Z0p rfl rfl (vt rfl) (vt rfl)) rfl <| As rfl <| Nl <| Rg <| Md rfl <| As rfl <| Nl ?_
     exact ⟨(_, _), h, FX rfl⟩
    ·refine SR <| Md rfl <| As rfl <| Nl <| Rg <| Md rfl <| As rfl <| Nl ?_
     exact ⟨(_, _), h, FX rfl⟩
def Zfi : Nat → ((List Action) → Int → Int → Int → (Action → Action → Option Int) → Option (List Action))
 | 0 => (fun _ _ _ _ _ => none)
 | n + 1 => (Zjj (Zfi n))
theorem Zyg : ∀ n : Nat, (∀ (v2 : Value) (d1 : (List Action)) (a3 : Int) (m4 : Int) (b5 : Int) (x6 : (Action → Action → Option Int)) (r : (List Action)), (Zfi n) d1 a3 m4 b5 x6 = some r → Con Tryz.prog 311 [Zi v2, rd (Z0 .i64) a3, rd (Z0 .i64) m4, rd (Z0 .i64) b5, fn2 Tryz.prog Z8 Z8 (Z0 .i64) x6] (Zc v2 121 Z8 d1) (fun _ : Unit => top) (fun _ => Zc v2 121 Z8 r))
 | 0 => (by intros; rename_i h; cases h)
 | n + 1 => by
  have ih := Zyg n
  exact (Yl9 (Zfi n) ih)
def Zok (d1 : (List Action)) (a3 : Int) (m4 : Int) (b5 : Int) (x6 : (Action → Action → Option Int)) : Option (List Action) := (Zfi Z0l) d1 a3 m4 b5 x6
theorem Zus : ∀ (v2 : Value) (d1 : (List Action)) (a3 : Int) (m4 : Int) (b5 : Int) (x6 : (Action → Action → Option Int)) (r : (List Action)), Zok d1 a3 m4 b5 x6 = some r → Con Tryz.prog 311 [Zi v2, rd (Z0 .i64) a3, rd (Z0 .i64) m4, rd (Z0 .i64) b5, fn2 Tryz.prog Z8 Z8 (Z0 .i64) x6] (Zc v2 121 Z8 d1) (fun _ : Unit => top) (fun _ => Zc v2 121 Z8 r) := Zyg Z0l
def Zet (n3 : Int) (b17 : Int) (x4 : (Action → Action → Option Int)) (go2 : (List Action) → Int → Option (List Action)) : Nat → (List Action) → Int → Int → Option (List Action)
 | 0, _, _, _ => none
 | m25 + 1, l22, a23, b24 => (bif (decide (b24 ≤ n3)) then (Zok l22 a23 (IntKind.i64.wrap (a23 + b17)) b24 x4).bind fun l26 => (Zet n3 b17 x4 go2 m25) l26 b24 (IntKind.i64.wrap (b24 + (IntKind.i64.wrap (2 * b17)))) else (bif (decide ((IntKind.i64.wrap (a23 + b17)) < n3)) then (Zok l22 a23 (IntKind.i64.wrap (a23 + b17)) n3 x4).bind fun l27 => go2 l27 (IntKind.i64.wrap (b17 * 2)) else go2 l22 (IntKind.i64.wrap (b17 * 2))))
def Z8j (n3 : Int) (x4 : (Action → Action → Option Int)) : Nat → (List Action) → Int → Option (List Action)
 | 0, _, _ => none
 | m18 + 1, l16, b17 => (bif (decide (b17 < n3)) then Zet n3 b17 x4 (Z8j n3 x4 m18) (((n3 : Int) - (IntKind.i64.wrap (2 * b17))).toNat + 2) l16 0 (IntKind.i64.wrap (2 * b17)) else some l16)
def Zd2 (n3 : Int) (x4 : (Action → Action → Option Int)) : Nat → (List Action) → Int → Int → Option (List Action)
 | 0, _, _, _ => none
 | m11 + 1, l8, a9, b10 => (bif (decide (b10 ≤ n3)) then (Zal l8 a9 b10 x4).bind fun l12 => (Zd2 n3 x4 m11) l12 b10 (IntKind.i64.wrap (b10 + 20)) else (Zal l8 a9 n3 x4).bind fun l13 => Z8j n3 x4 (((n3 : Int) - 20).toNat + 1) l13 20)
def Ziv (d1 : (List Action)) (n3 : Int) (x4 : (Action → Action → Option Int)) : Option (List Action) :=
 Zd2 n3 x4 (((n3 : Int) - 20).toNat + 2) d1 0 20
theorem Yhl (v2 : Value) (d1 : (List Action)) (n3 : Int) (x4 : (Action → Action → Option Int)) (r : (List Action)) (h : Ziv d1 n3 x4 = some r) : Con Tryz.prog 274 [Zi v2, rd (Z0 .i64) n3, fn2 Tryz.prog Z8 Z8 (Z0 .i64) x4] (Zc v2 121 Z8 d1) (fun _ : Unit => top) (fun _ => Zc v2 121 Z8 r) := by
 refine Con.intro Tryz.func274 rfl Tryz.ntmps274 rfl fun w H X => ?_
 unfold Ziv at h
 refine SR <| Ak rfl <| Nl <| SR <| Md rfl <| Ak rfl <| As rfl <| Nl <| sq <| bk <| LG (d := []) (ν := Nat × (List Action) × Int × Int) (fun (m11, l8, a9, b10) => (True ∧ Zd2 n3 x4 m11 l8 a9 b10 = some r, m11, [(0, Zi v2), (1, rd (Z0 .i64) n3), (2, fn2 Tryz.prog Z8 Z8 (Z0 .i64) x4), (6, rd (Z0 .i64) 20), (7, rd (Z0 .i64) a9), (8, rd (Z0 .i64) b10)], [(0, Zc v2 121 Z8 l8)])) ((((n3 : Int) - 20).toNat + 2), d1, 0, 20) ⟨trivial, h⟩ (FX rfl) ?_
 rintro ⟨m11, l8, a9, b10⟩ ⟨hsf1, h⟩
 dsimp only at h ⊢
 cases m11 with
 | zero => cases h
 | succ m11 =>
  unfold Zd2 at h
  refine sq <| SR <| Md rfl <| Md rfl <| Ac (Z6k rfl rfl (vt rfl) (vt rfl)) rfl <| Nl <| Cq rfl h (fun h => ?_) (fun h => ?_)
  ·refine sk <| bk <| sq ?_
   obtain ⟨l12, hl12, h⟩ := Za h
   refine Rg <| Mw rfl <| Md rfl <| Md rfl <| Ac (Zs (A := fn2 Tryz.prog Z8 Z8 (Z0 .i64) x4) rfl rfl (vt rfl)) rfl <| Cv rfl (Z1b 0 (xs := [.tmp 14, .tmp 15, .tmp 16, .tmp 17]) (Zxd _ _ _ _ _ _ hl12) Zy1 rfl rfl ⟨vt rfl, vt rfl, vt rfl, vt rfl, trivial⟩ rfl) fun _u => Nl <| SR <| Md rfl <| As rfl <| Nl <| Rg <| Md rfl <| Md rfl <| Ac (Z06 rfl rfl (vt rfl) (vt rfl)) rfl <| As rfl <| Nl ?_
   exact ⟨(_, _, _, _), Nat.lt_succ_self _, ⟨trivial, h⟩, FX rfl⟩
  ·refine xt <| sq ?_
   obtain ⟨l13, hl13, h⟩ := Za h
   refine Rg <| Mw rfl <| Md rfl <| Md rfl <| Ac (Zs (A := fn2 Tryz.prog Z8 Z8 (Z0 .i64) x4) rfl rfl (vt rfl)) rfl <| Cv rfl (Z1b 0 (xs := [.tmp 23, .tmp 24, .tmp 25, .tmp 26]) (Zxd _ _ _ _ _ _ hl13) Zy1 rfl rfl ⟨vt rfl, vt rfl, vt rfl, vt rfl, trivial⟩ rfl) fun _u => Nl <| bk <| LG (d := []) (ν := Nat × (List Action) × Int) (fun (m18, l16, b17) => (True ∧ Z8j n3 x4 m18 l16 b17 = some r, m18, [(0, Zi v2), (1, rd (Z0 .i64) n3), (2, fn2 Tryz.prog Z8 Z8 (Z0 .i64) x4), (6, rd (Z0 .i64) b17)], [(0, Zc v2 121 Z8 l16)])) ((((n3 : Int) - 20).toNat + 1), l13, 20) ⟨trivial, h⟩ (FX rfl) ?_
   rintro ⟨m18, l16, b17⟩ ⟨hsf2, h⟩
   dsimp only at h ⊢
   cases m18 with
   | zero => cases h
   | succ m18 =>
    unfold Z8j at h
    refine sq <| SR <| Md rfl <| Md rfl <| Ac (Zn rfl rfl (vt rfl) (vt rfl)) rfl <| Nl <| Cq rfl h (fun h => ?_) (fun h => ?_)
    ·refine sk <| bk <| SR <| Md rfl <| Ac (Z9z rfl rfl (vk rfl) (vt rfl)) rfl <| Ak rfl <| As rfl <| Nl <| sq <| bk <| LG (d := []) (ν := Nat × (List Action) × Int × Int) (fun (m25, l22, a23, b24) => (True ∧ Zet n3 b17 x4 (Z8j n3 x4 m18) m25 l22 a23 b24 = some r, m25, [(0, Zi v2), (1, rd (Z0 .i64) n3), (2, fn2 Tryz.prog Z8 Z8 (Z0 .i64) x4), (6, rd (Z0 .i64) b17), (7, rd (Z0 .i64) a23), (8, rd (Z0 .i64) b24)], [(0, Zc v2 121 Z8 l22)])) ((((n3 : Int) - (IntKind.i64.wrap (2 * b17))).toNat + 2), l16, 0, (IntKind.i64.wrap (2 * b17))) ⟨trivial, h⟩ (FX rfl) ?_
     rintro ⟨m25, l22, a23, b24⟩ ⟨hsf3, h⟩
     dsimp only at h ⊢
     cases m25 with
     | zero => cases h
     | succ m25 =>
      unfold Zet at h
      refine sq <| SR <| Md rfl <| Md rfl <| Ac (Z6k rfl rfl (vt rfl) (vt rfl)) rfl <| Nl <| Cq rfl h (fun h => ?_) (fun h => ?_)
      ·refine sk <| bk <| sq ?_
       obtain ⟨l26, hl26, h⟩ := Za h
       refine Rg <| Mw rfl <| Md rfl <| Md rfl <| Md rfl <| Ac (Z06 rfl rfl (vt rfl) (vt rfl)) rfl <| Md rfl <| Ac (Zs (A := fn2 Tryz.prog Z8 Z8 (Z0 .i64) x4) rfl rfl (vt rfl)) rfl <| Cv rfl (Z1b 0 (xs := [.tmp 36, .tmp 37, .tmp 40, .tmp 41, .tmp 42]) (Zus _ _ _ _ _ _ _ hl26) Zmg rfl rfl ⟨vt rfl, vt rfl, vt rfl, vt rfl, vt rfl, trivial⟩ rfl) fun _u => Nl <| SR <| Md rfl <| As rfl <| Nl <| Rg <| Md rfl <| Md rfl <| Ac (Z9z rfl rfl (vk rfl) (vt rfl)) rfl <| Ac (Z06 rfl rfl (vt rfl) (vt rfl)) rfl <| As rfl <| Nl ?_
       exact ⟨(_, _, _, _), Nat.lt_succ_self _, ⟨trivial, h⟩, FX rfl⟩
      ·refine xt <| sq <| SR <| Md rfl <| Md rfl <| Ac (Z06 rfl rfl (vt rfl) (vt rfl)) rfl <| As rfl <| Nl <| SR <| Md rfl <| Md rfl <| Ac (Zn rfl rfl (vt rfl) (vt rfl)) rfl <| Nl <| Cq rfl h (fun h => ?_) (fun h => ?_)
       ·obtain ⟨l27, hl27, h⟩ := Za h
        refine Rg <| Mw rfl <| Md rfl <| Md rfl <| Md rfl <| Ac (Zs (A := fn2 Tryz.prog Z8 Z8 (Z0 .i64) x4) rfl rfl (vt rfl)) rfl <| Cv rfl (Z1b 0 (xs := [.tmp 55, .tmp 56, .tmp 57, .tmp 58, .tmp 59]) (Zus _ _ _ _ _ _ _ hl27) Zmg rfl rfl ⟨vt rfl, vt rfl, vt rfl, vt rfl, vt rfl, trivial⟩ rfl) fun _u => Nl <| Rg <| Md rfl <| Ac (Z9z rfl rfl (vt rfl) (vk rfl)) rfl <| As rfl <| Nl ?_
        exact ⟨(_, _, _), Nat.lt_succ_self _, ⟨trivial, h⟩, FX rfl⟩
       ·refine sk <| Rg <| Md rfl <| Ac (Z9z rfl rfl (vt rfl) (vk rfl)) rfl <| As rfl <| Nl ?_
        exact ⟨(_, _, _), Nat.lt_succ_self _, ⟨trivial, h⟩, FX rfl⟩
    ·refine xt ?_
     cases h; exact Z20 (i := 0) Tryz.results274 rfl rfl
def Ze4 (x1 : (List Action)) (x3 : (Action → Action → Option Int)) : Option (List Action) :=
 (Ziv x1 (x1.length : Int) x3).bind fun l4 => some l4
theorem Y6m (v2 : Value) (x1 : (List Action)) (x3 : (Action → Action → Option Int)) (r : (List Action)) (h : Ze4 x1 x3 = some r) : Con Tryz.prog 219 [Zi v2, fn2 Tryz.prog Z8 Z8 (Z0 .i64) x3] (Zc v2 121 Z8 x1) (fun _ : Unit => top) (fun _ => Zc v2 121 Z8 r) := by
 refine Con.intro Tryz.func219 rfl Tryz.ntmps219 rfl fun w H X => ?_
 unfold Ze4 at h
 obtain ⟨l4, hl4, h⟩ := Za h
 refine Rg <| Mw rfl <| Mw rfl <| Ac (Z6q 0 rfl rfl Z0c (vt rfl) rfl) rfl <| Ac (Zs (A := fn2 Tryz.prog Z8 Z8 (Z0 .i64) x3) rfl rfl (vt rfl)) rfl <| Cv rfl (Z1b 0 (xs := [.tmp 4, .tmp 6, .tmp 7]) (Yhl _ _ _ _ _ hl4) Ydi rfl rfl ⟨vt rfl, vt rfl, vt rfl, trivial⟩ rfl) fun _u => Nl ?_
 cases h; exact Z20 (i := 0) Tryz.results219 rfl rfl
def Z84 (a1 : Action) (b2 : Action) : Option Int :=
 (Zaq a1).bind fun x5 => (Zaq b2).bind fun x6 => (Zdt x5.kind).bind fun x9 => (Zdt x6.kind).bind fun x10 => (bif (decide ((IntKind.i64.wrap (x9 - x10)) ≠ 0)) then some (IntKind.i64.wrap (x9 - x10)) else (bif (decide (x5.field < x6.field)) then some (-1) else (bif (decide (x5.field > x6.field)) then some 1 else some 0)))
theorem Yay : Q2 Tryz.prog 220 (rd Z8) (rd Z8) (rd (Z0 .i64)) Z84 := fun a1 b2 r h => I0 Tryz.func220 rfl Tryz.ntmps220 rfl fun w H => by
 unfold Z84 at h
 refine SR <| Cv rfl (Zl 3 rfl rfl (vt rfl)) fun g3 => Cv rfl (Zl 4 rfl rfl (vt rfl)) fun g4 => Ak rfl <| Nl <| sq ?_
 obtain ⟨x5, hx5, x6, hx6, h⟩ := bs2 h
 refine AR Zx (by kernel_rfl) <| Zk Z0s 3 rfl <| SCl [8] (Zmj _ _ hx5) Zpv rfl <| Zk Z0s 4 rfl <| SCl [10] (Zmj _ _ hx6) Zpv rfl <| Sd (Z11 (us := [(5, Z2g 275 Z70 Zoz)]) (ur := []) [] [] rfl fun S hs hr => Z6b rfl rfl rfl Zjf) <| Sd (Z11 (us := [(6, Z2g 275 Z70 Zoz)]) (ur := []) [] [] rfl fun S hs hr => Z6b rfl rfl rfl Zjf) <| Sd (Z11 (us := [(5, Z2g 275 Z70 x5)]) (ur := []) [5, 9] [] rfl fun S hs hr => Z68 rfl rfl Zgn ((hs 5 rfl).trans rfl) (vh hs 9 rfl rfl)) <| Sd (Z11 (us := [(6, Z2g 275 Z70 x6)]) (ur := []) [6, 11] [] rfl fun S hs hr => Z68 rfl rfl Zgn ((hs 6 rfl).trans rfl) (vh hs 11 rfl rfl)) <| Sn <| AW.unpackP 5 6 rfl rfl fun g7 => AW.unpackP 6 7 rfl rfl fun g8 => sq <| sq ?_
 obtain ⟨x9, hx9, x10, hx10, h⟩ := bs2 h
 refine AR Zx (by kernel_rfl) <| SFd laset_spot_0 Y1r rfl <| Zk Zt 6 rfl <| SCl [13] (Ztm _ _ hx9) Zq0 rfl <| SFd laset_spot_0 Y1r rfl <| Zk Zt 7 rfl <| SCl [16] (Ztm _ _ hx10) Zq0 rfl <| Sd (lo [14, 17] [] rfl fun S hs hr => Z0p rfl rfl (vh hs 14 rfl rfl) (vh hs 17 rfl rfl)) <| SAs rfl <| Sn <| SR <| Md rfl <| Ac (Zbr rfl rfl (vt rfl) (vk rfl)) rfl <| Nl <| Cq rfl h (fun h => ?_) (fun h => ?_)
 ·refine SR <| Md rfl <| As rfl <| Nl <| rt ?_
  cases h; exact Zg Tryz.results220 rfl (Z4 rfl)
 ·refine sk <| sq <| bk <| SR <| Zj laset_spot_1 Zp0 rfl <| Ld Zt 6 rfl <| Zj laset_spot_1 Zp0 rfl <| Ld Zt 7 rfl <| Ac (Zn rfl rfl (vt rfl) (vt rfl)) rfl <| As rfl <| Nl <| Cq rfl h (fun h => ?_) (fun h => ?_)
  ·refine SR <| Ak rfl <| Nl <| rt ?_
   cases h; exact Zg Tryz.results220 rfl (Z4 rfl)
  ·refine SR <| Zj laset_spot_1 Zp0 rfl <| Ld Zt 6 rfl <| Zj laset_spot_1 Zp0 rfl <| Ld Zt 7 rfl <| Ac (Z3i rfl rfl (vt rfl) (vt rfl)) rfl <| As rfl <| Nl <| Cq rfl h (fun h => ?_) (fun h => ?_)
   ·refine SR <| Ak rfl <| Nl <| rt ?_
    cases h; exact Zg Tryz.results220 rfl (Z4 rfl)
   ·refine sk <| SR <| Ak rfl <| Nl <| rt ?_
    cases h; exact Zg Tryz.results220 rfl (Z4 rfl)
def Z79 (s1 : (List Action)) : Option (List Action) :=
 (Zj6 s1 Zjo).bind fun x2 => (Z6w s1).bind fun x4 => (Zj8 x4 (fun x => Zbg x x2)).bind fun x6 => (Ze4 x6 Z84).bind fun l8 => some l8
theorem Zsm : Q1 Tryz.prog 149 (rd (Z2 Z8)) (rd (Z2 Z8)) Z79 := fun s1 r h => I0 Tryz.func149 rfl Tryz.ntmps149 rfl fun w H => by
 unfold Z79 at h
 refine SR <| Ac (Zy (A := rd (Z2 Z8) []) rfl rfl Z1p) rfl <| Nl <| sq ?_
 obtain ⟨x2, hx2, h⟩ := Za h
 refine Rg <| Md rfl <| Ac (Z0r (xs := [.tmp 5, .func 214]) (Yae _ _ _ hx2) Yhg rfl rfl ⟨vt rfl, vf1 Yjk Ya4, trivial⟩) rfl <| Cv rfl (Zp 4 rfl rfl zr4) fun g3 => Zh ty4 4 rfl <| Nl <| sq <| AW.freezeB 3 4 rfl rfl rfl ?_
 obtain ⟨x4, hx4, x6, hx6, h⟩ := bs2 h
 refine Rg <| Md rfl <| Cv rfl (Z1b 1001 (xs := [.tmp 7]) (Zqf _ _ hx4) Znp rfl rfl ⟨vt rfl, trivial⟩ rfl) fun v5 => Ac (Z8k (cs := [.tmp 3]) (CAs := [rp Z7 x2]) (fun x => Zbg x x2) rfl rfl Yf2 ⟨vt rfl, trivial⟩ (fun x y h => Yjr _ _ y h)) rfl <| Cv rfl (Z1b 1001 (xs := [.tmp 8, .tmp 9]) (Y5y _ _ _ _ hx6) Y74 rfl rfl ⟨vt rfl, vt rfl, trivial⟩ rfl) fun v7 => Aw rfl <| Nl <| sq ?_
 obtain ⟨l8, hl8, h⟩ := Za h
 refine Rg <| Mw rfl <| Cv rfl (Z1b 1001 (xs := [.tmp 11, .func 220]) (Y6m _ _ _ _ hl8) Y8f rfl rfl ⟨vt rfl, vf2 Y9x Yay, trivial⟩ rfl) fun _u => Nl <| SR <| Mw rfl <| Aw rfl <| Nl <| AW.freezes [2, 4, 10, 11, 13] 1001 rfl ⟨rfl, rfl, rfl, rfl, rfl, trivial⟩ rfl <| rt ?_
 cases h; exact Zg Tryz.results149 rfl (Z4 rfl)
end Go.Proofs.YtknpgojdkobgjaaGreat.W
set_option maxRecDepth 4000
namespace Go.Proofs.YtknpgojdkobgjaaGreat.W
open Go Go.Wb
theorem Z7v : Ent Tryz.prog 204 := Ent.mk Tryz.func204 rfl rfl
theorem Zsi : Ent Tryz.prog 149 := Ent.mk Tryz.func149 rfl rfl
theorem Y2c : Ent Tryz.prog 205 := Ent.mk Tryz.func205 rfl rfl
theorem Zt8 : Ent Tryz.prog 206 := Ent.mk Tryz.func206 rfl rfl
theorem Zyy : Ent Tryz.prog 208 := Ent.mk Tryz.func208 rfl rfl
theorem Y4y : Ent Tryz.prog 135 := Ent.mk Tryz.func135 rfl rfl
theorem Zvw : Ent Tryz.prog 138 := Ent.mk Tryz.func138 rfl rfl
theorem Y9i : Ent Tryz.prog 136 := Ent.mk Tryz.func136 rfl rfl
theorem Yf7 : Ent Tryz.prog 137 := Ent.mk Tryz.func137 rfl rfl
theorem e76 : Ent Tryz.prog 76 := Ent.mk Tryz.func76 rfl rfl
theorem e75 : Ent Tryz.prog 75 := Ent.mk Tryz.func75 rfl rfl
theorem Yd3 : Ent Tryz.prog 146 := Ent.mk Tryz.func146 rfl rfl
theorem e22 : Ent Tryz.prog 22 := Ent.mk Tryz.func22 rfl rfl
theorem e85 : Ent Tryz.prog 85 := Ent.mk Tryz.func85 rfl rfl
def Zfk (l3 : (List Inst)) (a2 : Int) (b9 : walk_way) : Option (walk_way × Int × Bool) :=
 (Z62 l3 1).bind fun x10 => (bif ((x10.2 && (decide (x10.1.Table > a2))) && (decide (x10.1.Table < 4))) then some (b9, x10.1.Table, true) else (Z79 b9.set).bind fun x12 => (Zcu b9 x12).bind fun x13 => some (x13, 0, false))
def Zfc (l3 : (List Inst)) (a2 : Int) (b8 : walk_way) : Option (walk_way × Int × Bool) :=
 (Z62 l3 2).bind fun x14 => (bif x14.2 then (Z8f b8.got 1 x14.1.Value x14.1.Mask).bind fun x16 => Zfk l3 a2 { b8 with got := x16 } else Zfk l3 a2 b8)
def Zh7 (l3 : (List Inst)) (a2 : Int) (b7 : walk_way) : Option (walk_way × Int × Bool) :=
 (Z62 l3 3).bind fun x17 => (bif x17.2 then (Zcl b7.set x17.1.Acts).bind fun x19 => Zfc l3 a2 { b7 with set := x19 } else Zfc l3 a2 b7)
def Zem (l3 : (List Inst)) (a2 : Int) (b6 : walk_way) : Option (walk_way × Int × Bool) :=
 (Z62 l3 5).bind fun x20 => (bif x20.2 then Zh7 l3 a2 { b6 with set := [] } else Zh7 l3 a2 b6)
def Zk6 (w1 : walk_way) (a2 : Int) (l3 : (List Inst)) : Option (walk_way × Int × Bool) :=
 (Z62 l3 4).bind fun x22 => (bif x22.2 then (Zcu w1 x22.1.Acts).bind fun x24 => Zem l3 a2 x24 else Zem l3 a2 w1)
theorem Y6g : Q3 Tryz.prog 137 (rd Z1r) (rd (Z0 .i64)) (rd (Z2 Z1a)) (fun r => Z3m (rd Z1r r.1) (rd (Z0 .i64) r.2.1) (rd Z7 r.2.2)) Zk6 := fun w1 a2 l3 r h => I0 Tryz.func137 rfl Tryz.ntmps137 rfl fun w H => by
 unfold Zk6 at h
 refine SR <| Cv rfl (Zl 4 rfl rfl (vt rfl)) fun g4 => Cv rfl (Zp 7 rfl rfl Zhe) fun g5 => Ak rfl <| Ab rfl <| Nl ?_
 refine JN (d := []) (ν := walk_way) (fun b6 => (Zem l3 a2 b6 = some r, [(1, rd (Z0 .i64) a2), (2, rd (Z2 Z1a) l3), (3, Zb g4 (Lens.id Z1r)), (6, Zb g5 (Lens.id Z1r))], [(4, Ze g4 135 Z1r b6), (7, Ze g5 135 Z1r Zg0)])) ?hx1 ?hy1
 case hy1 =>
  intro b6 h
  dsimp only at h ⊢
  unfold Zem at h
  refine JN (d := []) (ν := walk_way) (fun b7 => (Zh7 l3 a2 b7 = some r, [(1, rd (Z0 .i64) a2), (2, rd (Z2 Z1a) l3), (3, Zb g4 (Lens.id Z1r)), (6, Zb g5 (Lens.id Z1r))], [(4, Ze g4 135 Z1r b7), (7, Ze g5 135 Z1r Zg0)])) ?hx2 ?hy2
  case hy2 =>
   intro b7 h
   dsimp only at h ⊢
   unfold Zh7 at h
   refine JN (d := []) (ν := walk_way) (fun b8 => (Zfc l3 a2 b8 = some r, [(1, rd (Z0 .i64) a2), (2, rd (Z2 Z1a) l3), (3, Zb g4 (Lens.id Z1r)), (6, Zb g5 (Lens.id Z1r))], [(4, Ze g4 135 Z1r b8), (7, Ze g5 135 Z1r Zg0)])) ?hx3 ?hy3
   case hy3 =>
    intro b8 h
    dsimp only at h ⊢
    unfold Zfc at h
    refine JN (d := []) (ν := walk_way) (fun b9 => (Zfk l3 a2 b9 = some r, [(1, rd (Z0 .i64) a2), (2, rd (Z2 Z1a) l3), (3, Zb g4 (Lens.id Z1r)), (6, Zb g5 (Lens.id Z1r))], [(4, Ze g4 135 Z1r b9), (7, Ze g5 135 Z1r Zg0)])) ?hx4 ?hy4
    case hy4 =>
     intro b9 h
     dsimp only at h ⊢
     unfold Zfk at h
     refine sq ?_
     obtain ⟨x10, hx10, h⟩ := Za h
     refine Rg <| Md rfl <| Ac (Z0r (xs := [.tmp 63, .const (Value.int IntKind.i64 1)]) (Z7s _ _ _ hx10) Z7v rfl rfl ⟨vt rfl, vk rfl, trivial⟩) rfl <| Mt2 rfl <| Ac (Z1h rfl rfl (vt rfl)) rfl <| Ac (Z1f rfl rfl (vt rfl)) rfl <| Cv rfl (Zp 18 rfl rfl Z3t) fun g11 => Zh Z2k 18 rfl <| As rfl <| Nl <| sq <| SR <| Md rfl <| Md rfl <| Gd rfl (fun hq => Z3y Z7t rfl rfl Z8r (vt rfl)) <| Gd rfl (fun hq => Z29 rfl rfl Zt (Zo rfl hq) (i := 18) rfl) <| Gd rfl (fun hq => Zs (A := rd (Z0 .i64) a2) rfl rfl (vt rfl)) <| Gd rfl (fun hq => Z3i rfl rfl (Zo rfl hq) (Zo rfl hq)) <| Ac (Z1t rfl rfl (vt rfl) (vt rfl)) rfl <| Md rfl <| Gd rfl (fun hq => Z3y Z7t rfl rfl Z8r (vt rfl)) <| Gd rfl (fun hq => Z29 rfl rfl Zt (Zo rfl hq) (i := 18) rfl) <| Gd rfl (fun hq => Zn rfl rfl (Zo rfl hq) (vk rfl)) <| Ac (Z1t rfl rfl (vt rfl) (vt rfl)) rfl <| Nl <| Cq rfl h (fun h => ?_) (fun h => ?_)
     ·refine sq <| AR Zx (by kernel_rfl) <| Zk Z3b 4 rfl <| SFd Z7t Z8r rfl <| Zk Zt 18 rfl <| SSt Z3b 7 rfl <| SAs rfl <| Sd (lo [] [] rfl fun S hs hr => Zy (A := rd Z7 true) rfl rfl vb) <| Sn <| rt ?_
      cases h; exact Zdc Tryz.results137 rfl (Zz rfl (i := 7) rfl Z3b) (Z4 rfl) (Z4 rfl)
     ·refine sk <| sq ?_
      obtain ⟨x12, hx12, x13, hx13, h⟩ := bs2 h
      refine AR Zx (by kernel_rfl) <| Zk Z3b 4 rfl <| SFd Zk3 Zo5 rfl <| Zk Z3q 4 rfl <| SCl [84] (Zsm _ _ hx12) Zsi rfl <| SCl [82, 85] (Zwf _ _ _ hx13) Y2c rfl <| SSt Z3b 7 rfl <| Sd (lo [] [] rfl fun S hs hr => Zy (A := rd (Z0 .i64) 0) rfl rfl (vk rfl)) <| Sd (lo [] [] rfl fun S hs hr => Zy (A := rd Z7 false) rfl rfl vb) <| Sn <| rt ?_
      cases h; exact Zdc Tryz.results137 rfl (Zz rfl (i := 7) rfl Z3b) (Z4 rfl) (Z4 rfl)
    case hx4 =>
     refine sq ?_
     obtain ⟨x14, hx14, h⟩ := Za h
     refine Rg <| Md rfl <| Ac (Z0r (xs := [.tmp 49, .const (Value.int IntKind.i64 2)]) (Z7s _ _ _ hx14) Z7v rfl rfl ⟨vt rfl, vk rfl, trivial⟩) rfl <| Mt2 rfl <| Ac (Z1h rfl rfl (vt rfl)) rfl <| Ac (Z1f rfl rfl (vt rfl)) rfl <| Cv rfl (Zp 16 rfl rfl Z3t) fun g15 => Zh Z2k 16 rfl <| As rfl <| Nl <| SR <| Md rfl <| Nl <| Cq rfl h (fun h => ?_) (fun h => ?_)
     ·obtain ⟨x16, hx16, h⟩ := Za h
      refine Rg <| Zj lwalk_way_1 Zl3 rfl <| Ld Z02 4 rfl <| Zj Zou Zu2 rfl <| Ld Zu 16 rfl <| Zj Zmm Zt5 rfl <| Ld Zu 16 rfl <| Ac (Z0r (xs := [.tmp 55, .const (Value.int IntKind.i64 1), .tmp 57, .tmp 59]) (Zek _ _ _ _ _ hx16) Zhh rfl rfl ⟨vt rfl, vk rfl, vt rfl, vt rfl, trivial⟩) rfl <| Zj lwalk_way_1 Zl3 rfl <| Zh Z02 4 rfl <| Nl ?_
      exact ⟨_, h, FX rfl⟩
     ·refine sk ?_
      exact ⟨_, h, FX rfl⟩
   case hx3 =>
    refine sq ?_
    obtain ⟨x17, hx17, h⟩ := Za h
    refine Rg <| Md rfl <| Ac (Z0r (xs := [.tmp 37, .const (Value.int IntKind.i64 3)]) (Z7s _ _ _ hx17) Z7v rfl rfl ⟨vt rfl, vk rfl, trivial⟩) rfl <| Mt2 rfl <| Ac (Z1h rfl rfl (vt rfl)) rfl <| Ac (Z1f rfl rfl (vt rfl)) rfl <| Cv rfl (Zp 14 rfl rfl Z3t) fun g18 => Zh Z2k 14 rfl <| As rfl <| Nl <| SR <| Md rfl <| Nl <| Cq rfl h (fun h => ?_) (fun h => ?_)
    ·obtain ⟨x19, hx19, h⟩ := Za h
     refine Rg <| Zj Zk3 Zo5 rfl <| Ld Z3q 4 rfl <| Zj Z81 Z90 rfl <| Ld Z3q 14 rfl <| Cl [43, 45] (Zue _ _ _ hx19) Zt8 rfl <| Zj Zk3 Zo5 rfl <| Zh Z3q 4 rfl <| Nl ?_
     exact ⟨_, h, FX rfl⟩
    ·refine sk ?_
     exact ⟨_, h, FX rfl⟩
  case hx2 =>
   refine sq ?_
   obtain ⟨x20, hx20, h⟩ := Za h
   refine Rg <| Md rfl <| Ac (Z0r (xs := [.tmp 30, .const (Value.int IntKind.i64 5)]) (Z7s _ _ _ hx20) Z7v rfl rfl ⟨vt rfl, vk rfl, trivial⟩) rfl <| Mt2 rfl <| Ac (Z1h rfl rfl (vt rfl)) rfl <| Ac (Z1f rfl rfl (vt rfl)) rfl <| Cv rfl (Zp 12 rfl rfl Z3t) fun g21 => Zh Z2k 12 rfl <| As rfl <| Nl <| SR <| Md rfl <| Nl <| Cq rfl h (fun h => ?_) (fun h => ?_)
   ·refine Rg <| Zj Zk3 Zo5 rfl <| Ac (Z5s rfl rfl Z3q (vt rfl) (i := 4) rfl Z1p) rfl <| Nl ?_
    exact ⟨_, h, FX rfl⟩
   ·refine sk ?_
    exact ⟨_, h, FX rfl⟩
 case hx1 =>
  refine sq ?_
  obtain ⟨x22, hx22, h⟩ := Za h
  refine Rg <| Md rfl <| Ac (Z0r (xs := [.tmp 20, .const (Value.int IntKind.i64 4)]) (Z7s _ _ _ hx22) Z7v rfl rfl ⟨vt rfl, vk rfl, trivial⟩) rfl <| Mt2 rfl <| Ac (Z1h rfl rfl (vt rfl)) rfl <| Ac (Z1f rfl rfl (vt rfl)) rfl <| Cv rfl (Zp 10 rfl rfl Z3t) fun g23 => Zh Z2k 10 rfl <| As rfl <| Nl <| SR <| Md rfl <| Nl <| Cq rfl h (fun h => ?_) (fun h => ?_)
  ·obtain ⟨x24, hx24, h⟩ := Za h
   refine Rg <| Ld Z3b 4 rfl <| Zj Z81 Z90 rfl <| Ld Z3q 10 rfl <| Cl [25, 27] (Zwf _ _ _ hx24) Y2c rfl <| Zh Z3b 4 rfl <| Nl ?_
   exact ⟨_, h, FX rfl⟩
  ·refine sk ?_
   exact ⟨_, h, FX rfl⟩
def Zc0 (s : List Atom) : Option (List Atom) := Z0u [] s
theorem Yfv (s : List Atom) (r : List Atom) (h : Zc0 s = some r) : Con Tryz.prog 208 [rd (Z2 Z0b) s] emp (fun v => Zi v) (fun v => Zc v 126 Z0b r) := by
 refine Con.intro0 Tryz.func208 rfl Tryz.ntmps208 rfl fun w H => ?_
 unfold Zc0 at h
 refine AW.newnil 1001 126 Z0b <| SR <| Ac (Zy (A := Zi (.slice none 0 0)) rfl rfl vc) rfl <| Nl <| sq <| SR <| Md rfl <| Ct rfl (Zlj rfl rfl Z5r (vt rfl)) ?_
 rintro _ ⟨b, hb, rfl⟩
 refine Nl <| Cn rfl (fun hc => ?_) (fun hc => ?_)
 ·obtain rfl := hb hc
  refine SR <| Ac (Zy (A := Zi (.slice none 0 0)) rfl rfl vc) rfl <| Nl <| rt ?_
  obtain rfl := (Zbs h).2
  exact Z53 (i := 1001) Tryz.results208 rfl rfl rfl
 ·refine sk <| SR <| Cv rfl (Z57 1002 (ps := []) (l := []) rfl rfl Z5r Z5f rfl rfl rfl rfl) fun v1 => Md rfl <| Cv rfl (Z2m 1002 h rfl rfl Z8m (vt rfl) rfl (vt rfl)) fun v2 => Aw rfl <| Nl <| rt ?_
  exact Z53 (i := 1002) Tryz.results208 rfl rfl rfl
theorem Zzd (s : List Atom) (r : List Atom) (h : Zc0 s = some r) : PCon Tryz.prog 208 [rd (Z2 Z0b) s] (rd (Z2 Z0b) r) := PCon.of_row (Yfv s r h)
def Zfq (w1 : walk_way) : Option Rule :=
 (Zc0 w1.atoms).bind fun x4 => some (⟨w1.cube, x4⟩ : Rule)
theorem Y28 : Q1 Tryz.prog 138 (rd Z1r) (rd Z00) Zfq := fun w1 r h => I0 Tryz.func138 rfl Tryz.ntmps138 rfl fun w H => by
 unfold Zfq at h
 refine SR <| Cv rfl (Zl 2 rfl rfl (vt rfl)) fun g2 => Cv rfl (Zp 3 rfl rfl Z4n) fun g3 => Nl <| sq ?_
 obtain ⟨x4, hx4, h⟩ := Za h
 refine AR Zx (by kernel_rfl) <| SFd lwalk_way_0 Zpz rfl <| Zk Z01 2 rfl <| SFd Zfw Zlv rfl <| Zk Zaf 2 rfl <| SCl [6] (Zzd _ _ hx4) Zyy rfl <| Sd (lo [4, 7] [] rfl fun S hs hr => opb (⟨w1.cube, x4⟩ : Rule) Z4n rfl Zj7 (pc Zmd (vh hs 4 rfl rfl) <| pc Zm5 (vh hs 7 rfl rfl) <| pn rfl)) <| SSt Z8d 3 rfl <| Sn <| rt ?_
 cases h; exact Zg Tryz.results138 rfl (Zz rfl (i := 3) rfl Z8d)
def Zi0 (sg : Type) (go1 : Nat → (Lp sg) → Option (Bool × Lp sg)) (i11 : Nat) (s22 : (Lp sg)) (o23 : Bool) : Option (Bool × Lp sg) :=
 (bif (!o23) then some (false, s22) else go1 (i11 + 1) s22)
def Z6p (sg : Type) (w5 : walk_way) (y1 : (sg → Rule → Option (Lp sg))) (a4 : Int) (s3 : Switch) (R_walk_search_table : ((Lp sg) → Switch → Int → walk_way → Option (Bool × Lp sg))) : (List Int) → Nat → (Lp sg) → Option (Bool × Lp sg)
 | [], i11, s10 => (Zfq w5).bind fun x13 => (yc y1 s10 x13).bind fun s14 => some ((Lp.isGo s14), s14)
 | x15 :: l12, i11, s10 => (chk 4 a4).bind fun j16 => (lget (Vector.get s3.Tables j16) x15).bind fun x17 => (Zka w5 x17).bind fun x19 => (bif (!x19.2) then (Z6p sg w5 y1 a4 s3 R_walk_search_table l12) (i11 + 1) s10 else (Zk6 x19.1 a4 x17.Insts).bind fun x21 => (bif x21.2.2 then (R_walk_search_table s10 s3 x21.2.1 x21.1).bind fun b24 => Zi0 sg (Z6p sg w5 y1 a4 s3 R_walk_search_table l12) i11 b24.2 b24.1 else (Zfq x21.1).bind fun x25 => (yc y1 s10 x25).bind fun s26 => Zi0 sg (Z6p sg w5 y1 a4 s3 R_walk_search_table l12) i11 s26 (Lp.isGo s26)))
def Zlr (sg : Type) (y1 : (sg → Rule → Option (Lp sg))) (R_walk_search_table : ((Lp sg) → Switch → Int → walk_way → Option (Bool × Lp sg))) (s2 : (Lp sg)) (s3 : Switch) (a4 : Int) (w5 : walk_way) : Option (Bool × Lp sg) :=
 (chk 4 a4).bind fun j7 => (Zgv (Vector.get s3.Tables j7)).bind fun x8 => Z6p sg w5 y1 a4 s3 R_walk_search_table x8 0 s2
theorem Y6o (sg : Type) (y1 : (sg → Rule → Option (Lp sg))) (L : Lp sg → Zv) (R_walk_search_table : ((Lp sg) → Switch → Int → walk_way → Option (Bool × Lp sg))) (hR_walk_search_table : ∀ (s2 : (Lp sg)) (s3 : Switch) (a4 : Int) (w5 : walk_way) (r : (Bool × Lp sg)), R_walk_search_table s2 s3 a4 w5 = some r → Con Tryz.prog 76 [rp (ksp Z0i (ydA Tryz.prog Z00 y1 L)) s3, rd (Z0 .i64) a4, rd Z1r w5] (L s2) (fun _ : Unit => rd Z7 r.1) (fun _ => L r.2)) (s2 : (Lp sg)) (s3 : Switch) (a4 : Int) (w5 : walk_way) (r : (Bool × Lp sg)) (h : Zlr sg y1 R_walk_search_table s2 s3 a4 w5 = some r) : Con Tryz.prog 76 [rp (ksp Z0i (ydA Tryz.prog Z00 y1 L)) s3, rd (Z0 .i64) a4, rd Z1r w5] (L s2) (fun _ : Unit => rd Z7 r.1) (fun _ => L r.2) := by
 refine Con.intro Tryz.func76 rfl Tryz.ntmps76 rfl fun w H X => ?_
 unfold Zlr at h
 refine SR <| Cv rfl (Zl 6 rfl rfl (vt rfl)) fun g6 => Ab rfl <| Nl <| AW.scope <| sq <| AW.label <| sq <| sq ?_
 obtain ⟨j7, hj7, x8, hx8, h⟩ := bs2 h
 refine Rg <| Mr rfl <| Md rfl <| Ac (Zn8 rfl rfl (vt rfl)) rfl <| Ac (Z8c (Zt1 Z0i (ydA Tryz.prog Z00 y1 L)) rfl rfl (Y2f _) (vt rfl)) rfl <| Fp Zav Zeh rfl <| Ac (Z7e rfl rfl Zc1 (vt rfl) (vt rfl) hj7) rfl <| Lp1 Z5c rfl <| Cl [20] (Y4k _ _ hx8) Y4y rfl <| Ac (Z0x rfl rfl Z0y (vt rfl)) rfl <| Mk rfl <| Nl <| bk <| LG (d := []) (ν := (List Int) × Nat × (Lp sg)) (fun (l12, i11, s10) => (Sfx x8 i11 l12 ∧ Z6p sg w5 y1 a4 s3 R_walk_search_table l12 i11 s10 = some r, l12.length, [(0, rp (ksp Z0i (ydA Tryz.prog Z00 y1 L)) s3), (1, rd (Z0 .i64) a4), (5, Zb g6 (Lens.id Z1r)), (21, rd (Z2 (Z0 .i64)) x8), (22, rd (Z0 .i64) (x8.length : Int)), (23, rd (Z0 .i64) (i11 : Int))], [(0, L s10), (6, Ze g6 135 Z1r w5)])) (x8, 0, s2) ⟨Sfx.start _, h⟩ (FX rfl) ?_
 rintro ⟨l12, i11, s10⟩ ⟨hsf1, h⟩
 dsimp only at hsf1 h ⊢
 cases l12 with
 | nil =>
  unfold Z6p at h
  refine SR <| Ac (Zn rfl rfl (vt rfl) (vt rfl)) rfl <| Nl <| sq <| Cn rfl (fun hc => absurd (of_decide_eq_true hc) hsf1.nil) (fun hc => ?_)
  refine xt <| sq ?_
  obtain ⟨x13, hx13, s14, hs14, h⟩ := bs2 h
  refine AR Zx (by kernel_rfl) <| Sd (lo [0] [] rfl fun S hs hr => Zs (A := rp (ksp Z0i (ydA Tryz.prog Z00 y1 L)) s3) rfl rfl (vh hs 0 rfl rfl)) <| Sd (lo [69] [] rfl fun S hs hr => Zn8 rfl rfl (vh hs 69 rfl rfl)) <| Sd (lo [70] [] rfl fun S hs hr => Z8c (Zsn Z0i (ydA Tryz.prog Z00 y1 L)) rfl rfl (Zxj _) (vh hs 70 rfl rfl)) <| Sd (lo [71] [] rfl fun S hs hr => Zvu (A := ydA Tryz.prog Z00 y1 L) rfl rfl rfl (Y2t _) (vh hs 71 rfl rfl)) <| Zk Z3b 6 rfl <| SCl [73] (Y28 _ _ hx13) Zvw rfl <| Sd (Z11 (us := [(75, rd Z7 (Lp.isGo s14))]) (ur := [(0, L s14)]) [72, 74] [0] rfl fun S hs hr => Zkd 0 hs14 rfl rfl (vh hs 72 rfl rfl) (vh hs 74 rfl rfl) ((hr 0 rfl).trans rfl)) <| SAs rfl <| Sn <| rt ?_
  cases h; exact Zm6 (i := 0) Tryz.results76 rfl (Z4 rfl) rfl
 | cons x15 l12 =>
  unfold Z6p at h
  refine SR <| Ac (Zn rfl rfl (vt rfl) (vt rfl)) rfl <| Nl <| sq <| Cn rfl (fun hc => ?_) (fun hc => absurd hsf1.cons (of_decide_eq_false hc))
  have hlti11 := of_decide_eq_true hc
  refine sk <| sq <| bk <| SR <| Ac (Z0q rfl rfl Z0y (vt rfl) (vt rfl) hsf1.lget) rfl <| Lp1 Zt rfl <| As rfl <| Nl <| sq ?_
  obtain ⟨j16, hj16, x17, hx17, h⟩ := bs2 h
  refine Rg <| Mr rfl <| Md rfl <| Ac (Zn8 rfl rfl (vt rfl)) rfl <| Ac (Z8c (Zt1 Z0i (ydA Tryz.prog Z00 y1 L)) rfl rfl (Y2f _) (vt rfl)) rfl <| Fp Zav Zeh rfl <| Ac (Z7e rfl rfl Zc1 (vt rfl) (vt rfl) hj16) rfl <| Lp1 Z5c rfl <| Md rfl <| Ac (Z0q rfl rfl Z4q (vt rfl) (vt rfl) hx17) rfl <| Lp1 Z76 rfl <| Cv rfl (Zp 10 rfl rfl Zza) fun g18 => Zh Z76 10 rfl <| Nl <| sq ?_
  obtain ⟨x19, hx19, h⟩ := Za h
  refine Rg <| Ld Z3b 6 rfl <| Ld Z76 10 rfl <| Cl [38, 39] (Yhq _ _ _ hx19) Y9i rfl <| Mt2 rfl <| Ac (Z1h rfl rfl (vt rfl)) rfl <| Ac (Z1f rfl rfl (vt rfl)) rfl <| Cv rfl (Zp 11 rfl rfl Zhe) fun g20 => Zh Z3b 11 rfl <| As rfl <| Nl <| sq <| SR <| Md rfl <| Ac (Z15 rfl rfl (vt rfl)) rfl <| Nl <| Cq rfl h (fun h => ?_) (fun h => ?_)
  ·refine xt <| Rg <| Ac (Z23 (t := 22) rfl rfl (vt rfl) (vk rfl) (vt rfl) hlti11) rfl <| Md rfl <| Nl ?_
   exact ⟨(_, _, _), Nat.lt_succ_self _, ⟨hsf1.next, h⟩, FX rfl⟩
  ·refine sk <| sq ?_
   obtain ⟨x21, hx21, h⟩ := Za h
   refine Rg <| Ld Z3b 11 rfl <| Md rfl <| Zj Z9h Zbb rfl <| Ld Zbd 10 rfl <| Cl [46, 47, 49] (Y6g _ _ _ _ hx21) Yf7 rfl <| Ac (Zs (A := Z3m (rd Z1r x21.1) (rd (Z0 .i64) x21.2.1) (rd Z7 x21.2.2)) rfl rfl (vt rfl)) rfl <| Ac (Zdy rfl rfl (vt rfl)) rfl <| Ac (Zdn rfl rfl (vt rfl)) rfl <| Ac (Zdu rfl rfl (vt rfl)) rfl <| Zh Z3b 11 rfl <| As rfl <| As rfl <| Nl ?_
   refine JN (d := []) (ν := (Lp sg) × Bool) (fun (s22, o23) => (Zi0 sg (Z6p sg w5 y1 a4 s3 R_walk_search_table l12) i11 s22 o23 = some r, [(0, rp (ksp Z0i (ydA Tryz.prog Z00 y1 L)) s3), (1, rd (Z0 .i64) a4), (5, Zb g6 (Lens.id Z1r)), (11, rd Z7 o23), (21, rd (Z2 (Z0 .i64)) x8), (22, rd (Z0 .i64) (x8.length : Int)), (23, rd (Z0 .i64) (i11 : Int))], [(0, L s22), (6, Ze g6 135 Z1r w5)])) ?hx2 ?hy2
   case hy2 =>
    rintro ⟨s22, o23⟩ h
    dsimp only at h ⊢
    unfold Zi0 at h
    refine SR <| Md rfl <| Ac (Z15 rfl rfl (vt rfl)) rfl <| Nl <| Cq rfl h (fun h => ?_) (fun h => ?_)
    ·refine SR <| Ab rfl <| Nl <| rt ?_
     cases h; exact Zm6 (i := 0) Tryz.results76 rfl (Z4 rfl) rfl
    ·refine sk <| Rg <| Ac (Z23 (t := 22) rfl rfl (vt rfl) (vk rfl) (vt rfl) hlti11) rfl <| Md rfl <| Nl ?_
     exact ⟨(_, _, _), Nat.lt_succ_self _, ⟨hsf1.next, h⟩, FX rfl⟩
   case hx2 =>
    refine SR <| Md rfl <| Nl <| Cq rfl h (fun h => ?_) (fun h => ?_)
    ·obtain ⟨b24, hb24, h⟩ := Za h
     refine Rg <| Mr rfl <| Md rfl <| Ld Z3b 11 rfl <| Cv rfl (Z1b 0 (xs := [.tmp 55, .tmp 56, .tmp 57]) (hR_walk_search_table _ _ _ _ _ hb24) e76 rfl rfl ⟨vt rfl, vt rfl, vt rfl, trivial⟩ rfl) fun _u => As rfl <| Nl ?_
     exact ⟨(_, _), h, FX rfl⟩
    ·obtain ⟨x25, hx25, s26, hs26, h⟩ := bs2 h
     refine AR Zx (by kernel_rfl) <| Sd (lo [0] [] rfl fun S hs hr => Zs (A := rp (ksp Z0i (ydA Tryz.prog Z00 y1 L)) s3) rfl rfl (vh hs 0 rfl rfl)) <| Sd (lo [59] [] rfl fun S hs hr => Zn8 rfl rfl (vh hs 59 rfl rfl)) <| Sd (lo [60] [] rfl fun S hs hr => Z8c (Zsn Z0i (ydA Tryz.prog Z00 y1 L)) rfl rfl (Zxj _) (vh hs 60 rfl rfl)) <| Sd (lo [61] [] rfl fun S hs hr => Zvu (A := ydA Tryz.prog Z00 y1 L) rfl rfl rfl (Y2t _) (vh hs 61 rfl rfl)) <| Zk Z3b 11 rfl <| SCl [63] (Y28 _ _ hx25) Zvw rfl <| Sd (Z11 (us := [(65, rd Z7 (Lp.isGo s26))]) (ur := [(0, L s26)]) [62, 64] [0] rfl fun S hs hr => Zkd 0 hs26 rfl rfl (vh hs 62 rfl rfl) (vh hs 64 rfl rfl) ((hr 0 rfl).trans rfl)) <| SAs rfl <| Sn ?_
     exact ⟨(_, _), h, FX rfl⟩
def Ze3 (sg : Type) (y1 : (sg → Rule → Option (Lp sg))) : Nat → ((Lp sg) → Switch → Int → walk_way → Option (Bool × Lp sg))
 | 0 => (fun _ _ _ _ => none)
 | n + 1 => Zlr sg y1 (Ze3 sg y1 n)
theorem Y0y (sg : Type) (y1 : (sg → Rule → Option (Lp sg))) (L : Lp sg → Zv) : ∀ n : Nat, (∀ (s2 : (Lp sg)) (s3 : Switch) (a4 : Int) (w5 : walk_way) (r : (Bool × Lp sg)), (Ze3 sg y1 n) s2 s3 a4 w5 = some r → Con Tryz.prog 76 [rp (ksp Z0i (ydA Tryz.prog Z00 y1 L)) s3, rd (Z0 .i64) a4, rd Z1r w5] (L s2) (fun _ : Unit => rd Z7 r.1) (fun _ => L r.2))
 | 0 => (by intros; rename_i h; cases h)
 | n + 1 => Y6o sg y1 L (Ze3 sg y1 n) (Y0y sg y1 L n)
def Zs8 (sg : Type) (y1 : (sg → Rule → Option (Lp sg))) (s2 : (Lp sg)) (s3 : Switch) (a4 : Int) (w5 : walk_way) : Option (Bool × Lp sg) := Ze3 sg y1 Z0l s2 s3 a4 w5
theorem Y7v (sg : Type) (y1 : (sg → Rule → Option (Lp sg))) (L : Lp sg → Zv) : ∀ (s2 : (Lp sg)) (s3 : Switch) (a4 : Int) (w5 : walk_way) (r : (Bool × Lp sg)), (Zs8 sg y1) s2 s3 a4 w5 = some r → Con Tryz.prog 76 [rp (ksp Z0i (ydA Tryz.prog Z00 y1 L)) s3, rd (Z0 .i64) a4, rd Z1r w5] (L s2) (fun _ : Unit => rd Z7 r.1) (fun _ => L r.2) := Y0y sg y1 L Z0l
def Zd5 (sg : Type) (y1 : (sg → Rule → Option (Lp sg))) (s2 : (Lp sg)) (x3 : Switch) : Option (Lp sg) :=
 (Zg8).bind fun x5 => (Za4).bind fun x6 => (Zs8 sg y1 s2 x3 0 (⟨x5, x6, [], []⟩ : walk_way)).bind fun b7 => some b7.2
theorem Yfn (sg : Type) (y1 : (sg → Rule → Option (Lp sg))) (L : Lp sg → Zv) (s2 : (Lp sg)) (x3 : Switch) (r : (Lp sg)) (h : Zd5 sg y1 s2 x3 = some r) : Con Tryz.prog 75 [ydA Tryz.prog Z00 y1 L, rp Z0i x3] (L s2) (fun _ : Unit => top) (fun _ => L r) := by
 refine Con.intro Tryz.func75 rfl Tryz.ntmps75 rfl fun w H X => ?_
 unfold Zd5 at h
 refine SR <| Lp1 Z5t rfl <| Ac (Zs (A := ydA Tryz.prog Z00 y1 L) rfl rfl (vt rfl)) rfl <| Ac (Ye4 (x := x3) rfl rfl (by kernel_rfl) Ycz (by kernel_rfl) (by kernel_rfl) (vt rfl) rfl) rfl <| Ac (Y71 rfl rfl (vt rfl)) rfl <| Ac (Zy (A := rp (ksp Z0i (ydA Tryz.prog Z00 y1 L)) x3) rfl rfl (vt rfl)) rfl <| Nl ?_
 obtain ⟨x5, hx5, x6, hx6, b7, hb7, h⟩ := bs3 h
 refine Rg <| Mr rfl <| Cl [] (Y25 _ hx5) e73 rfl <| Cl [] (Zsk _ hx6) e77 rfl <| Ac (opb (⟨x5, x6, [], []⟩ : walk_way) Zhe rfl Y0t (pc Yb4 (vt rfl) <| pc Y6a (vt rfl) <| pn rfl)) rfl <| Cv rfl (Z1b 0 (xs := [.tmp 8, .const (Value.int IntKind.i64 0), .tmp 11]) (Y7v sg y1 L _ _ _ _ _ hb7) e76 rfl rfl ⟨vt rfl, vk rfl, vt rfl, trivial⟩ rfl) fun _u => Nl ?_
 cases h; exact Z20 (i := 0) Tryz.results75 rfl rfl
def Zp4 (s1 : Switch) : Option (Itr Rule) :=
 some (Itr.mk fun σ y s => Zd5 σ y s s1)
theorem Ym7 : Q1 Tryz.prog 22 (rd Z0i) (Z4u Tryz.prog Z00) Zp4 := fun s1 r h => I0 Tryz.func22 rfl Tryz.ntmps22 rfl fun w H => by
 unfold Zp4 at h
 refine SR <| Cv rfl (Zl 2 rfl rfl (vt rfl)) fun g2 => Ac (Zy (A := Zi .nilFunc) rfl rfl vc) rfl <| Nl <| sq <| AW.freezeB 1 2 rfl rfl rfl <| Rg <| Ac (Zqu (Itr.mk fun σ y s => Zd5 σ y s s1) (cs := [.tmp 1]) (CAs := [rp Z0i s1]) rfl rfl e75 ⟨vt rfl, trivial⟩ (fun σ y L s r h => Yfn σ y L s s1 r h)) rfl <| Ac (Zy (A := Z4u Tryz.prog Z00 (Itr.mk fun σ y s => Zd5 σ y s s1)) rfl rfl (vt rfl)) rfl <| Nl <| rt ?_
 cases h; exact Zg Tryz.results22 rfl (Z4 rfl)
def Zo3 (q : Itr Rule) : Option (List Rule) := Zpf q
theorem Yek (q : Itr Rule) (r : List Rule) (h : Zo3 q = some r) : Con Tryz.prog 146 [Zi (.slice none 0 0), Z4u Tryz.prog Z00 q] emp (fun v => Zi v) (fun v => Zc v 90 Z00 r) := by
 refine Con.intro0 Tryz.func146 rfl Tryz.ntmps146 rfl fun w H => ?_
 have h := Yjy h
 refine AW.newnil 1001 90 Z00 <| SR <| Cv rfl (Zl (k := kraw) 3 rfl rfl (vkr (vt rfl) rfl)) fun g => Ac (Zy (A := Zi (.slice none 0 0)) rfl rfl vc) rfl <| AOps.pack 3 1001 (by decide) rfl rfl <| Nl <| sq <| SR <| Ac (Zs (A := Z4u Tryz.prog Z00 q) rfl rfl (vt rfl)) rfl <| Nl <| bk <| AW.fit (d := []) (L := [(2, Zb g (Lens.id kraw)), (6, Z4u Tryz.prog Z00 q)]) (M := [(3, Z8z g 32 90 Z00 [])]) ⟨rfl, ⟨rfl, rfl, trivial⟩, ⟨rfl, trivial⟩⟩ ?_
 refine AW.rangeFunc (fun x => [rd Z00 x]) Zi7 (fun s => Z3k [(3, Z8z g 32 90 Z00 s)]) (fun _ _ => Z3k []) [(2, Zb g (Lens.id kraw))]
  (fun s x S1 => ∃ g5, Fit S1 [] [(2, Zb g (Lens.id kraw)), (5, Zb g5 (Lens.id Z00))] [(3, Z8z g 32 90 Z00 s), (6, Ze g5 90 Z00 x)]) 1003 (s0 := []) (sE := .go r)
  rfl (vt rfl) ⟨rfl, inferInstance, trivial⟩ rfl (fun _ => rfl) (by intro p hp; have hp : p ∈ [7] := hp; rw [List.mem_singleton.1 hp]; show 7 < 13; decide) ?ha ?hb (fun Lf => ⟨top, _, _, Lf, _, _, h, rfl, rfl, rfl, rfl⟩) ?he
 case ha =>
  intro s x r' hF l w H X
  refine Rg <| Cv rfl (Zp 6 rfl rfl Z4n) fun g5 => Zh Z8d 6 rfl <| Nl ?_
  exact ⟨rfl, g5, rfl, ⟨rfl, rfl, trivial⟩, ⟨rfl, rfl, trivial⟩⟩
 case hb =>
  rintro s x r' hF S1 ⟨g5, hfit⟩ l w H X
  refine AW.fit hfit <| AW.bodyOf (M := fun s => [(3, Z8z g 32 90 Z00 s)]) (Mx := fun _ _ => []) ?_
  obtain ⟨m, hm, hF⟩ := Za hF
  cases hF
  refine bk <| AW.unbox 3 1001 (by decide) rfl rfl fun v => Rg <| Ac (Zwu (i := 3) rfl rfl Ztk (vt rfl) rfl) rfl <| Ld Z8d 6 rfl <| Ac (Zpw (ps := [(0, .tmp 9)]) (l := [x]) rfl rfl Z30 Z4n rfl rfl ⟨_, _, Lens.idx 1 Z00 0 (by decide), _, rfl, vt rfl, rfl⟩ rfl) rfl <| Cv rfl (Z2m 1001 hm rfl rfl Zj2 (vt rfl) rfl (vt rfl)) fun v2 => Ac (Z5s rfl rfl Ztk (vt rfl) (i := 3) rfl (Zoq (i := 1001) rfl rfl)) rfl <| AOps.pack 3 1001 (by decide) rfl rfl <| Nl ?_
  exact ⟨_, rfl, rfl, trivial⟩
 case he =>
  intro D
  refine AW.unbox 3 1001 (by decide) rfl rfl fun v => SR <| Ac (Zwu (i := 3) rfl rfl Ztk (vt rfl) rfl) rfl <| Aw rfl <| Nl <| rt ?_
  exact ⟨rfl, 1003, _, rfl, Z53 (i := 1001) Tryz.results146 rfl rfl rfl⟩
theorem Yer (q : Itr Rule) (r : List Rule) (h : Zo3 q = some r) : PCon Tryz.prog 146 [Zi (.slice none 0 0), Z4u Tryz.prog Z00 q] (rd (Z2 Z00) r) := PCon.of_row (Yek q r h)
def Zp2 (s1 : (Itr Rule)) : Option (List Rule) :=
 (Zo3 s1).bind fun x2 => some x2
theorem Yg0 : Q1 Tryz.prog 85 (Z4u Tryz.prog Z00) (rd (Z2 Z00)) Zp2 := fun s1 r h => I0 Tryz.func85 rfl Tryz.ntmps85 rfl fun w H => by
 unfold Zp2 at h
 refine SR <| Ac (Zy (A := rd (Z2 Z00) []) rfl rfl Z1p) rfl <| Nl <| sq ?_
 obtain ⟨x2, hx2, h⟩ := Za h
 refine Rg <| Ac (Zs (A := Z4u Tryz.prog Z00 s1) rfl rfl (vt rfl)) rfl <| Ac (Z0r (xs := [.const (Value.slice none 0 0), .tmp 3]) (Yer _ _ hx2) Yd3 rfl rfl ⟨vc, vt rfl, trivial⟩) rfl <| As rfl <| Nl <| rt ?_
 cases h; exact Zg Tryz.results85 rfl (Z4 rfl)
def Zgq (s1 : Switch) : Option (List Rule) :=
 (Zp4 s1).bind fun x3 => (Zp2 x3).bind fun x4 => some x4
theorem Y6b : Q1 Tryz.prog 25 (rd Z0i) (rd (Z2 Z00)) Zgq := fun s1 r h => I0 Tryz.func25 rfl Tryz.ntmps25 rfl fun w H => by
 unfold Zgq at h
 refine SR <| Cv rfl (Zl 2 rfl rfl (vt rfl)) fun g2 => Ac (Zy (A := rd (Z2 Z00) []) rfl rfl Z1p) rfl <| Nl <| sq ?_
 obtain ⟨x3, hx3, x4, hx4, h⟩ := bs2 h
 refine Rg <| Ld Z5t 2 rfl <| Cl [3] (Ym7 _ _ hx3) e22 rfl <| Cl [4] (Yg0 _ _ hx4) e85 rfl <| As rfl <| Nl <| rt ?_
 cases h; exact Zg Tryz.results25 rfl (Z4 rfl)
end Go.Proofs.YtknpgojdkobgjaaGreat.W
set_option maxRecDepth 4000
namespace Go.Proofs.YtknpgojdkobgjaaGreat.W
open Go Go.Wb
theorem e25 : Ent Tryz.prog 25 := Ent.mk Tryz.func25 rfl rfl
theorem Y6t : Ent Tryz.prog 198 := Ent.mk Tryz.func198 rfl rfl
theorem Zyc : Ent Tryz.prog 165 := Ent.mk Tryz.func165 rfl rfl
theorem Yf3 : Ent Tryz.prog 256 := Ent.mk Tryz.func256 rfl rfl
theorem Yid : Ent Tryz.prog 257 := Ent.mk Tryz.func257 rfl rfl
theorem Y7d : Ent Tryz.prog 199 := Ent.mk Tryz.func199 rfl rfl
def Zd0 (s1 : (List Flow)) (x2 : (Flow → Option Bool)) : Nat → Nat → Option Int
 | 0, i3 => some (-1)
 | m4 + 1, i3 => (lget s1 (i3 : Int)).bind fun x5 => (x2 x5).bind fun x6 => (bif x6 then some (i3 : Int) else (Zd0 s1 x2 m4) (i3 + 1))
def Zld (s1 : (List Flow)) (x2 : (Flow → Option Bool)) : Option Int :=
 Zd0 s1 x2 ((s1.length : Int) : Int).toNat 0
theorem Y56 : Q2 Tryz.prog 198 (rd (Z2 Z0n)) (fn1 Tryz.prog Z0n Z7) (rd (Z0 .i64)) Zld := fun s1 x2 r h => I0 Tryz.func198 rfl Tryz.ntmps198 rfl fun w H => by
 unfold Zld at h
 refine SR <| Ak rfl <| Nl <| sq <| SR <| Md rfl <| Ac (Z0x rfl rfl Z4q (vt rfl)) rfl <| Mk rfl <| Nl <| bk <| LG (d := []) (ν := Nat × Nat) (fun (m4, i3) => (Cnt (s1.length : Int) i3 m4 ∧ Zd0 s1 x2 m4 i3 = some r, m4, [(0, rd (Z2 Z0n) s1), (1, fn1 Tryz.prog Z0n Z7 x2), (7, rd (Z0 .i64) (s1.length : Int)), (8, rd (Z0 .i64) (i3 : Int))], [])) (((s1.length : Int) : Int).toNat, 0) ⟨Cnt.start _, h⟩ (FX rfl) ?_
 rintro ⟨m4, i3⟩ ⟨hsf1, h⟩
 dsimp only at hsf1 h ⊢
 cases m4 with
 | zero =>
  unfold Zd0 at h
  refine SR <| Ac (Zn rfl rfl (vt rfl) (vt rfl)) rfl <| Nl <| sq <| Cn rfl (fun hc => absurd (of_decide_eq_true hc) hsf1.zero) (fun hc => ?_)
  refine xt <| SR <| Ak rfl <| Nl <| rt ?_
  cases h; exact Zg Tryz.results198 rfl (Z4 rfl)
 | succ m4 =>
  unfold Zd0 at h
  refine SR <| Ac (Zn rfl rfl (vt rfl) (vt rfl)) rfl <| Nl <| sq <| Cn rfl (fun hc => ?_) (fun hc => absurd hsf1.succ (of_decide_eq_false hc))
  have hlti3 := of_decide_eq_true hc
  refine sk <| sq <| bk <| SR <| Md rfl <| As rfl <| Nl <| sq ?_
  obtain ⟨x5, hx5, x6, hx6, h⟩ := bs2 h
  refine Rg <| Ac (Zs (A := fn1 Tryz.prog Z0n Z7 x2) rfl rfl (vt rfl)) rfl <| Md rfl <| Md rfl <| Ac (Z0q rfl rfl Z4q (vt rfl) (vt rfl) hx5) rfl <| Lp1 Z76 rfl <| Ac (Z94 hx6 rfl rfl (vt rfl) (vt rfl)) rfl <| Nl <| Cq rfl h (fun h => ?_) (fun h => ?_)
  ·refine SR <| Md rfl <| As rfl <| Nl <| rt ?_
   cases h; exact Zg Tryz.results198 rfl (Z4 rfl)
  ·refine sk <| Rg <| Ac (Z23 (t := 7) rfl rfl (vt rfl) (vk rfl) (vt rfl) hlti3) rfl <| Md rfl <| Nl ?_
   exact ⟨(_, _), Nat.lt_succ_self _, ⟨hsf1.next, h⟩, FX rfl⟩
def Zks (s1 : (List Flow)) (x2 : (Flow → Option Bool)) : Option Bool :=
 (Zld s1 x2).bind fun x3 => some (decide (x3 ≥ 0))
theorem Y8o : Q2 Tryz.prog 132 (rd (Z2 Z0n)) (fn1 Tryz.prog Z0n Z7) (rd Z7) Zks := fun s1 x2 r h => I0 Tryz.func132 rfl Tryz.ntmps132 rfl fun w H => by
 unfold Zks at h
 refine SR <| Ab rfl <| Nl <| sq ?_
 obtain ⟨x3, hx3, h⟩ := Za h
 refine Rg <| Md rfl <| Ac (Zs (A := fn1 Tryz.prog Z0n Z7 x2) rfl rfl (vt rfl)) rfl <| Cl [5, 6] (Y56 _ _ _ hx3) Y6t rfl <| Ac (Z4z rfl rfl (vt rfl) (vk rfl)) rfl <| As rfl <| Nl <| rt ?_
 cases h; exact Zg Tryz.results132 rfl (Z4 rfl)
def Zib (s1 : (List Inst)) (x2 : (Inst → Option Bool)) : Option Bool :=
 (Zf4 s1 x2).bind fun x3 => some (decide (x3 ≥ 0))
theorem Yeu : Q2 Tryz.prog 256 (rd (Z2 Z1a)) (fn1 Tryz.prog Z1a Z7) (rd Z7) Zib := fun s1 x2 r h => I0 Tryz.func256 rfl Tryz.ntmps256 rfl fun w H => by
 unfold Zib at h
 refine SR <| Ab rfl <| Nl <| sq ?_
 obtain ⟨x3, hx3, h⟩ := Za h
 refine Rg <| Md rfl <| Ac (Zs (A := fn1 Tryz.prog Z1a Z7 x2) rfl rfl (vt rfl)) rfl <| Cl [5, 6] (Zwc _ _ _ hx3) Zwa rfl <| Ac (Z4z rfl rfl (vt rfl) (vk rfl)) rfl <| As rfl <| Nl <| rt ?_
 cases h; exact Zg Tryz.results256 rfl (Z4 rfl)
def Zop (l1 : (List Action)) : Option Bool :=
 some (decide ((l1.length : Int) ≤ 12))
theorem Zva : Q1 Tryz.prog 165 (rd (Z2 Z8)) (rd Z7) Zop := fun l1 r h => I0 Tryz.func165 rfl Tryz.ntmps165 rfl fun w H => by
 unfold Zop at h
 refine SR <| Ab rfl <| Nl <| SR <| Md rfl <| Ac (Z0x rfl rfl Z0c (vt rfl)) rfl <| Ac (Z6k rfl rfl (vt rfl) (vk rfl)) rfl <| As rfl <| Nl <| rt ?_
 cases h; exact Zg Tryz.results165 rfl (Z4 rfl)
def Zpe (i1 : Inst) : Option Bool :=
 (Zop i1.Acts).bind fun x3 => some (!x3)
theorem Yht : Q1 Tryz.prog 257 (rd Z1a) (rd Z7) Zpe := fun i1 r h => I0 Tryz.func257 rfl Tryz.ntmps257 rfl fun w H => by
 unfold Zpe at h
 refine SR <| Cv rfl (Zl 2 rfl rfl (vt rfl)) fun g2 => Ab rfl <| Nl <| sq ?_
 obtain ⟨x3, hx3, h⟩ := Za h
 refine Rg <| Zj Z81 Z90 rfl <| Ld Z3q 2 rfl <| Cl [4] (Zva _ _ hx3) Zyc rfl <| Ac (Z15 rfl rfl (vt rfl)) rfl <| As rfl <| Nl <| rt ?_
 cases h; exact Zg Tryz.results257 rfl (Z4 rfl)
def Zjh (l1 : (List Inst)) : Option Bool :=
 (opt (decide ((l1.length : Int) ≤ 8)) (Zib l1 Zpe)).bind fun x2 => some ((decide ((l1.length : Int) ≤ 8)) && (!x2))
theorem Ykf : Q1 Tryz.prog 199 (rd (Z2 Z1a)) (rd Z7) Zjh := fun l1 r h => I0 Tryz.func199 rfl Tryz.ntmps199 rfl fun w H => by
 unfold Zjh at h
 refine SR <| Ab rfl <| Nl <| sq ?_
 obtain ⟨x2, hx2, h⟩ := Za h
 refine Rg <| Md rfl <| Ac (Z0x rfl rfl Zc6 (vt rfl)) rfl <| Ac (Z6k rfl rfl (vt rfl) (vk rfl)) rfl <| Md rfl <| Gd rfl (fun hq => Zs (A := rd (Z2 Z1a) l1) rfl rfl (vt rfl)) <| Gd rfl (fun hq => Z0r (xs := [.tmp 7, .func 257]) (Yeu _ _ _ (Z28 hx2 hq)) Yf3 rfl rfl ⟨Zo rfl hq, vf1 Yid Yht, trivial⟩) <| Gd rfl (fun hq => Z15 rfl rfl (Zo rfl hq)) <| Ac (Z1t rfl rfl (vt rfl) (vt rfl)) rfl <| As rfl <| Nl <| rt ?_
 cases h; exact Zg Tryz.results199 rfl (Z4 rfl)
def Zjs (x1 : Flow) : Option Bool :=
 (opt (decide ((x1.Match.length : Int) ≤ 30)) (Zjh x1.Insts)).bind fun x3 => some ((decide ((x1.Match.length : Int) ≤ 30)) && x3)
theorem Yma : Q1 Tryz.prog 134 (rd Z0n) (rd Z7) Zjs := fun x1 r h => I0 Tryz.func134 rfl Tryz.ntmps134 rfl fun w H => by
 unfold Zjs at h
 refine SR <| Cv rfl (Zl 2 rfl rfl (vt rfl)) fun g2 => Ab rfl <| Nl <| sq ?_
 obtain ⟨x3, hx3, h⟩ := Za h
 refine Rg <| Zj Zpc Zsa rfl <| Ld Zrz 2 rfl <| Ac (Z0x rfl rfl Zci (vt rfl)) rfl <| Ac (Z6k rfl rfl (vt rfl) (vk rfl)) rfl <| Md rfl <| Gd rfl (fun hq => Z3y Z9h rfl rfl Zbb (vt rfl)) <| Gd rfl (fun hq => Z29 rfl rfl Zbd (Zo rfl hq) (i := 2) rfl) <| Gd rfl (fun hq => Z0r (xs := [.tmp 9]) (Ykf _ _ (Z28 hx3 hq)) Y7d rfl rfl ⟨Zo rfl hq, trivial⟩) <| Ac (Z1t rfl rfl (vt rfl) (vt rfl)) rfl <| As rfl <| Nl <| rt ?_
 cases h; exact Zg Tryz.results134 rfl (Z4 rfl)
end Go.Proofs.YtknpgojdkobgjaaGreat.W
set_option maxRecDepth 4000
namespace Go.Proofs.YtknpgojdkobgjaaGreat.W
open Go Go.Wb
theorem Ylb : Ent Tryz.prog 134 := Ent.mk Tryz.func134 rfl rfl
theorem Ybm : Ent Tryz.prog 132 := Ent.mk Tryz.func132 rfl rfl
theorem Yh0 : Ent Tryz.prog 133 := Ent.mk Tryz.func133 rfl rfl
theorem Zw9 : Ent Tryz.prog 231 := Ent.mk Tryz.func231 rfl rfl
theorem Yes : Ent Tryz.prog 163 := Ent.mk Tryz.func163 rfl rfl
theorem Y7j : Ent Tryz.prog 164 := Ent.mk Tryz.func164 rfl rfl
theorem Yii : Ent Tryz.prog 100 := Ent.mk Tryz.func100 rfl rfl
theorem Y15 : Ent Tryz.prog 162 := Ent.mk Tryz.func162 rfl rfl
def Zlt (x1 : Flow) : Option Bool :=
 (Zjs x1).bind fun x3 => some (!x3)
theorem Ydt : Q1 Tryz.prog 133 (rd Z0n) (rd Z7) Zlt := fun x1 r h => I0 Tryz.func133 rfl Tryz.ntmps133 rfl fun w H => by
 unfold Zlt at h
 refine SR <| Cv rfl (Zl 2 rfl rfl (vt rfl)) fun g2 => Ab rfl <| Nl <| sq ?_
 obtain ⟨x3, hx3, h⟩ := Za h
 refine Rg <| Ld Z76 2 rfl <| Cl [3] (Yma _ _ hx3) Ylb rfl <| Ac (Z15 rfl rfl (vt rfl)) rfl <| As rfl <| Nl <| rt ?_
 cases h; exact Zg Tryz.results133 rfl (Z4 rfl)
def Zl0 (l1 : (List Flow)) (m2 : Int) : Option Bool :=
 (opt (decide ((l1.length : Int) ≤ m2)) (Zks l1 Zlt)).bind fun x3 => some ((decide ((l1.length : Int) ≤ m2)) && (!x3))
theorem Yk1 : Q2 Tryz.prog 74 (rd (Z2 Z0n)) (rd (Z0 .i64)) (rd Z7) Zl0 := fun l1 m2 r h => I0 Tryz.func74 rfl Tryz.ntmps74 rfl fun w H => by
 unfold Zl0 at h
 refine SR <| Ab rfl <| Nl <| sq ?_
 obtain ⟨x3, hx3, h⟩ := Za h
 refine Rg <| Md rfl <| Ac (Z0x rfl rfl Z4q (vt rfl)) rfl <| Md rfl <| Ac (Z6k rfl rfl (vt rfl) (vt rfl)) rfl <| Md rfl <| Gd rfl (fun hq => Zs (A := rd (Z2 Z0n) l1) rfl rfl (vt rfl)) <| Gd rfl (fun hq => Z0r (xs := [.tmp 10, .func 133]) (Y8o _ _ _ (Z28 hx3 hq)) Ybm rfl rfl ⟨Zo rfl hq, vf1 Yh0 Ydt, trivial⟩) <| Gd rfl (fun hq => Z15 rfl rfl (Zo rfl hq)) <| Ac (Z1t rfl rfl (vt rfl) (vt rfl)) rfl <| As rfl <| Nl <| rt ?_
 cases h; exact Zg Tryz.results74 rfl (Z4 rfl)
def Ze0 (s1 : (List Bucket)) (x2 : (Bucket → Option Bool)) : Nat → Nat → Option Int
 | 0, i3 => some (-1)
 | m4 + 1, i3 => (lget s1 (i3 : Int)).bind fun x5 => (x2 x5).bind fun x6 => (bif x6 then some (i3 : Int) else (Ze0 s1 x2 m4) (i3 + 1))
def Zgc (s1 : (List Bucket)) (x2 : (Bucket → Option Bool)) : Option Int :=
 Ze0 s1 x2 ((s1.length : Int) : Int).toNat 0
theorem Y4e : Q2 Tryz.prog 231 (rd (Z2 Z26)) (fn1 Tryz.prog Z26 Z7) (rd (Z0 .i64)) Zgc := fun s1 x2 r h => I0 Tryz.func231 rfl Tryz.ntmps231 rfl fun w H => by
 unfold Zgc at h
 refine SR <| Ak rfl <| Nl <| sq <| SR <| Md rfl <| Ac (Z0x rfl rfl Z72 (vt rfl)) rfl <| Mk rfl <| Nl <| bk <| LG (d := []) (ν := Nat × Nat) (fun (m4, i3) => (Cnt (s1.length : Int) i3 m4 ∧ Ze0 s1 x2 m4 i3 = some r, m4, [(0, rd (Z2 Z26) s1), (1, fn1 Tryz.prog Z26 Z7 x2), (7, rd (Z0 .i64) (s1.length : Int)), (8, rd (Z0 .i64) (i3 : Int))], [])) (((s1.length : Int) : Int).toNat, 0) ⟨Cnt.start _, h⟩ (FX rfl) ?_
 rintro ⟨m4, i3⟩ ⟨hsf1, h⟩
 dsimp only at hsf1 h ⊢
 cases m4 with
 | zero =>
  unfold Ze0 at h
  refine SR <| Ac (Zn rfl rfl (vt rfl) (vt rfl)) rfl <| Nl <| sq <| Cn rfl (fun hc => absurd (of_decide_eq_true hc) hsf1.zero) (fun hc => ?_)
  refine xt <| SR <| Ak rfl <| Nl <| rt ?_
  cases h; exact Zg Tryz.results231 rfl (Z4 rfl)
 | succ m4 =>
  unfold Ze0 at h
  refine SR <| Ac (Zn rfl rfl (vt rfl) (vt rfl)) rfl <| Nl <| sq <| Cn rfl (fun hc => ?_) (fun hc => absurd hsf1.succ (of_decide_eq_false hc))
  have hlti3 := of_decide_eq_true hc
  refine sk <| sq <| bk <| SR <| Md rfl <| As rfl <| Nl <| sq ?_
  obtain ⟨x5, hx5, x6, hx6, h⟩ := bs2 h
  refine Rg <| Ac (Zs (A := fn1 Tryz.prog Z26 Z7 x2) rfl rfl (vt rfl)) rfl <| Md rfl <| Md rfl <| Ac (Z0q rfl rfl Z72 (vt rfl) (vt rfl) hx5) rfl <| Lp1 Yi6 rfl <| Ac (Z94 hx6 rfl rfl (vt rfl) (vt rfl)) rfl <| Nl <| Cq rfl h (fun h => ?_) (fun h => ?_)
  ·refine SR <| Md rfl <| As rfl <| Nl <| rt ?_
   cases h; exact Zg Tryz.results231 rfl (Z4 rfl)
  ·refine sk <| Rg <| Ac (Z23 (t := 7) rfl rfl (vt rfl) (vk rfl) (vt rfl) hlti3) rfl <| Md rfl <| Nl ?_
   exact ⟨(_, _), Nat.lt_succ_self _, ⟨hsf1.next, h⟩, FX rfl⟩
def Zhz (s1 : (List Bucket)) (x2 : (Bucket → Option Bool)) : Option Bool :=
 (Zgc s1 x2).bind fun x3 => some (decide (x3 ≥ 0))
theorem Ygx : Q2 Tryz.prog 163 (rd (Z2 Z26)) (fn1 Tryz.prog Z26 Z7) (rd Z7) Zhz := fun s1 x2 r h => I0 Tryz.func163 rfl Tryz.ntmps163 rfl fun w H => by
 unfold Zhz at h
 refine SR <| Ab rfl <| Nl <| sq ?_
 obtain ⟨x3, hx3, h⟩ := Za h
 refine Rg <| Md rfl <| Ac (Zs (A := fn1 Tryz.prog Z26 Z7 x2) rfl rfl (vt rfl)) rfl <| Cl [5, 6] (Y4e _ _ _ hx3) Zw9 rfl <| Ac (Z4z rfl rfl (vt rfl) (vk rfl)) rfl <| As rfl <| Nl <| rt ?_
 cases h; exact Zg Tryz.results163 rfl (Z4 rfl)
def Zpr (x1 : Bucket) : Option Bool :=
 (Zop x1.Acts).bind fun x3 => some (!x3)
theorem Y6w : Q1 Tryz.prog 164 (rd Z26) (rd Z7) Zpr := fun x1 r h => I0 Tryz.func164 rfl Tryz.ntmps164 rfl fun w H => by
 unfold Zpr at h
 refine SR <| Cv rfl (Zl 2 rfl rfl (vt rfl)) fun g2 => Ab rfl <| Nl <| sq ?_
 obtain ⟨x3, hx3, h⟩ := Za h
 refine Rg <| Zj Zkp Zn1 rfl <| Ld Z3q 2 rfl <| Cl [4] (Zva _ _ hx3) Zyc rfl <| Ac (Z15 rfl rfl (vt rfl)) rfl <| As rfl <| Nl <| rt ?_
 cases h; exact Zg Tryz.results164 rfl (Z4 rfl)
def Zkl (l1 : (List Bucket)) (m2 : Int) : Option Bool :=
 (opt (decide ((l1.length : Int) ≤ m2)) (Zhz l1 Zpr)).bind fun x3 => some ((decide ((l1.length : Int) ≤ m2)) && (!x3))
theorem Yji : Q2 Tryz.prog 100 (rd (Z2 Z26)) (rd (Z0 .i64)) (rd Z7) Zkl := fun l1 m2 r h => I0 Tryz.func100 rfl Tryz.ntmps100 rfl fun w H => by
 unfold Zkl at h
 refine SR <| Ab rfl <| Nl <| sq ?_
 obtain ⟨x3, hx3, h⟩ := Za h
 refine Rg <| Md rfl <| Ac (Z0x rfl rfl Z72 (vt rfl)) rfl <| Md rfl <| Ac (Z6k rfl rfl (vt rfl) (vt rfl)) rfl <| Md rfl <| Gd rfl (fun hq => Zs (A := rd (Z2 Z26) l1) rfl rfl (vt rfl)) <| Gd rfl (fun hq => Z0r (xs := [.tmp 10, .func 164]) (Ygx _ _ _ (Z28 hx3 hq)) Yes rfl rfl ⟨Zo rfl hq, vf1 Y7j Y6w, trivial⟩) <| Gd rfl (fun hq => Z15 rfl rfl (Zo rfl hq)) <| Ac (Z1t rfl rfl (vt rfl) (vt rfl)) rfl <| As rfl <| Nl <| rt ?_
 cases h; exact Zg Tryz.results100 rfl (Z4 rfl)
def Zhq (x1 : Group) (x2 : Int) : Option Bool :=
 (Zkl x1.Buckets x2).bind fun x4 => some (!x4)
theorem Yb3 : Q2 Tryz.prog 99 (rd Z0d) (rp (Z0 .i64)) (rd Z7) Zhq := fun x1 x2 r h => I0 Tryz.func99 rfl Tryz.ntmps99 rfl fun w H => by
 unfold Zhq at h
 refine SR <| Cv rfl (Zl 3 rfl rfl (vt rfl)) fun g3 => Ab rfl <| Nl <| sq ?_
 obtain ⟨x4, hx4, h⟩ := Za h
 refine Rg <| Zj Z99 Zb5 rfl <| Ld Zbv 3 rfl <| Lp1 Zt rfl <| Cl [5, 6] (Yji _ _ _ hx4) Yii rfl <| Ac (Z15 rfl rfl (vt rfl)) rfl <| As rfl <| Nl <| rt ?_
 cases h; exact Zg Tryz.results99 rfl (Z4 rfl)
def Zcr (s1 : (List Group)) (x2 : (Group → Option Bool)) : Nat → Nat → Option Int
 | 0, i3 => some (-1)
 | m4 + 1, i3 => (lget s1 (i3 : Int)).bind fun x5 => (x2 x5).bind fun x6 => (bif x6 then some (i3 : Int) else (Zcr s1 x2 m4) (i3 + 1))
def Zh1 (s1 : (List Group)) (x2 : (Group → Option Bool)) : Option Int :=
 Zcr s1 x2 ((s1.length : Int) : Int).toNat 0
theorem Y3j : Q2 Tryz.prog 162 (rd (Z2 Z0d)) (fn1 Tryz.prog Z0d Z7) (rd (Z0 .i64)) Zh1 := fun s1 x2 r h => I0 Tryz.func162 rfl Tryz.ntmps162 rfl fun w H => by
 unfold Zh1 at h
 refine SR <| Ak rfl <| Nl <| sq <| SR <| Md rfl <| Ac (Z0x rfl rfl Z5y (vt rfl)) rfl <| Mk rfl <| Nl <| bk <| LG (d := []) (ν := Nat × Nat) (fun (m4, i3) => (Cnt (s1.length : Int) i3 m4 ∧ Zcr s1 x2 m4 i3 = some r, m4, [(0, rd (Z2 Z0d) s1), (1, fn1 Tryz.prog Z0d Z7 x2), (7, rd (Z0 .i64) (s1.length : Int)), (8, rd (Z0 .i64) (i3 : Int))], [])) (((s1.length : Int) : Int).toNat, 0) ⟨Cnt.start _, h⟩ (FX rfl) ?_
 rintro ⟨m4, i3⟩ ⟨hsf1, h⟩
 dsimp only at hsf1 h ⊢
 cases m4 with
 | zero =>
  unfold Zcr at h
  refine SR <| Ac (Zn rfl rfl (vt rfl) (vt rfl)) rfl <| Nl <| sq <| Cn rfl (fun hc => absurd (of_decide_eq_true hc) hsf1.zero) (fun hc => ?_)
  refine xt <| SR <| Ak rfl <| Nl <| rt ?_
  cases h; exact Zg Tryz.results162 rfl (Z4 rfl)
 | succ m4 =>
  unfold Zcr at h
  refine SR <| Ac (Zn rfl rfl (vt rfl) (vt rfl)) rfl <| Nl <| sq <| Cn rfl (fun hc => ?_) (fun hc => absurd hsf1.succ (of_decide_eq_false hc))
  have hlti3 := of_decide_eq_true hc
  refine sk <| sq <| bk <| SR <| Md rfl <| As rfl <| Nl <| sq ?_
  obtain ⟨x5, hx5, x6, hx6, h⟩ := bs2 h
  refine Rg <| Ac (Zs (A := fn1 Tryz.prog Z0d Z7 x2) rfl rfl (vt rfl)) rfl <| Md rfl <| Md rfl <| Ac (Z0q rfl rfl Z5y (vt rfl) (vt rfl) hx5) rfl <| Lp1 Z6i rfl <| Ac (Z94 hx6 rfl rfl (vt rfl) (vt rfl)) rfl <| Nl <| Cq rfl h (fun h => ?_) (fun h => ?_)
  ·refine SR <| Md rfl <| As rfl <| Nl <| rt ?_
   cases h; exact Zg Tryz.results162 rfl (Z4 rfl)
  ·refine sk <| Rg <| Ac (Z23 (t := 7) rfl rfl (vt rfl) (vk rfl) (vt rfl) hlti3) rfl <| Md rfl <| Nl ?_
   exact ⟨(_, _), Nat.lt_succ_self _, ⟨hsf1.next, h⟩, FX rfl⟩
def Zjg (s1 : (List Group)) (x2 : (Group → Option Bool)) : Option Bool :=
 (Zh1 s1 x2).bind fun x3 => some (decide (x3 ≥ 0))
theorem Yi8 : Q2 Tryz.prog 98 (rd (Z2 Z0d)) (fn1 Tryz.prog Z0d Z7) (rd Z7) Zjg := fun s1 x2 r h => I0 Tryz.func98 rfl Tryz.ntmps98 rfl fun w H => by
 unfold Zjg at h
 refine SR <| Ab rfl <| Nl <| sq ?_
 obtain ⟨x3, hx3, h⟩ := Za h
 refine Rg <| Md rfl <| Ac (Zs (A := fn1 Tryz.prog Z0d Z7 x2) rfl rfl (vt rfl)) rfl <| Cl [5, 6] (Y3j _ _ _ hx3) Y15 rfl <| Ac (Z4z rfl rfl (vt rfl) (vk rfl)) rfl <| As rfl <| Nl <| rt ?_
 cases h; exact Zg Tryz.results98 rfl (Z4 rfl)
end Go.Proofs.YtknpgojdkobgjaaGreat.W
set_option maxRecDepth 4000
namespace Go.Proofs.YtknpgojdkobgjaaGreat.W
open Go Go.Wb
theorem e99 : Ent Tryz.prog 99 := Ent.mk Tryz.func99 rfl rfl
theorem e98 : Ent Tryz.prog 98 := Ent.mk Tryz.func98 rfl rfl
theorem e40 : Ent Tryz.prog 40 := Ent.mk Tryz.func40 rfl rfl
theorem e74 : Ent Tryz.prog 74 := Ent.mk Tryz.func74 rfl rfl
theorem Y8r : Ent Tryz.prog 342 := Ent.mk Tryz.func342 rfl rfl
theorem Ydp : Ent Tryz.prog 334 := Ent.mk Tryz.func334 rfl rfl
def Zjq (l1 : (List Group)) (m2 : Int) (b3 : Int) : Option Bool :=
 (opt (decide ((l1.length : Int) ≤ m2)) (Zjg l1 (fun x => Zhq x b3))).bind fun x5 => some ((decide ((l1.length : Int) ≤ m2)) && (!x5))
theorem Ycg : Q3 Tryz.prog 40 (rd (Z2 Z0d)) (rd (Z0 .i64)) (rd (Z0 .i64)) (rd Z7) Zjq := fun l1 m2 b3 r h => I0 Tryz.func40 rfl Tryz.ntmps40 rfl fun w H => by
 unfold Zjq at h
 refine SR <| Cv rfl (Zl 6 rfl rfl (vt rfl)) fun g4 => Ab rfl <| Nl <| sq <| AW.freezeB 5 6 rfl rfl rfl ?_
 obtain ⟨x5, hx5, h⟩ := Za h
 refine Rg <| Md rfl <| Ac (Z0x rfl rfl Z5y (vt rfl)) rfl <| Md rfl <| Ac (Z6k rfl rfl (vt rfl) (vt rfl)) rfl <| Md rfl <| Gd rfl (fun hq => Zs (A := rd (Z2 Z0d) l1) rfl rfl (vt rfl)) <| Gd rfl (fun hq => Z8k (cs := [.tmp 5]) (CAs := [rp (Z0 .i64) b3]) (fun x => Zhq x b3) rfl rfl e99 ⟨vt rfl, trivial⟩ (fun x y h => Yb3 _ _ y h)) <| Gd rfl (fun hq => Z0r (xs := [.tmp 12, .tmp 13]) (Yi8 _ _ _ (Z28 hx5 hq)) e98 rfl rfl ⟨Zo rfl hq, Zo rfl hq, trivial⟩) <| Gd rfl (fun hq => Z15 rfl rfl (Zo rfl hq)) <| Ac (Z1t rfl rfl (vt rfl) (vt rfl)) rfl <| As rfl <| Nl <| rt ?_
 cases h; exact Zg Tryz.results40 rfl (Z4 rfl)
def Zam (s1 : Switch) (m2 : Int) : (List (List Flow)) → Nat → Option Bool
 | [], i4 => (Zjq s1.Groups 9 3).bind fun x6 => some x6
 | x7 :: l5, i4 => (Zl0 x7 m2).bind fun x8 => (bif (!x8) then some false else (Zam s1 m2 l5) (i4 + 1))
def Zkh (s1 : Switch) (m2 : Int) : Option Bool :=
 Zam s1 m2 (Vector.toList s1.Tables) 0
theorem Ykj : Q2 Tryz.prog 21 (rd Z0i) (rd (Z0 .i64)) (rd Z7) Zkh := fun s1 m2 r h => I0 Tryz.func21 rfl Tryz.ntmps21 rfl fun w H => by
 unfold Zkh at h
 refine SR <| Cv rfl (Zl 3 rfl rfl (vt rfl)) fun g3 => Ab rfl <| Nl <| sq <| SR <| Zj Zav Zeh rfl <| Ld Yj9 3 rfl <| Mk rfl <| Nl <| bk <| LG (d := []) (ν := (List (List Flow)) × Nat) (fun (l5, i4) => (Sfx (Vector.toList s1.Tables) i4 l5 ∧ Zam s1 m2 l5 i4 = some r, l5.length, [(1, rd (Z0 .i64) m2), (2, Zb g3 (Lens.id Z0i)), (8, rd (Z1 4 (Z2 Z0n)) s1.Tables), (9, rd (Z0 .i64) (i4 : Int))], [(3, Ze g3 26 Z0i s1)])) ((Vector.toList s1.Tables), 0) ⟨Sfx.start _, h⟩ (FX rfl) ?_
 rintro ⟨l5, i4⟩ ⟨hsf1, h⟩
 dsimp only at hsf1 h ⊢
 cases l5 with
 | nil =>
  unfold Zam at h
  refine SR <| Ac (Zn rfl rfl (vt rfl) (vk rfl)) rfl <| Nl <| sq <| Cn rfl (fun hc => absurd (of_decide_eq_true hc) (hsf1.niln (by simp))) (fun hc => ?_)
  refine xt <| sq ?_
  obtain ⟨x6, hx6, h⟩ := Za h
  refine Rg <| Zj Zmy Zt7 rfl <| Ld Zh9 3 rfl <| Ac (Z0r (xs := [.tmp 18, .const (Value.int IntKind.i64 9), .const (Value.int IntKind.i64 3)]) (Ycg _ _ _ _ hx6) e40 rfl rfl ⟨vt rfl, vk rfl, vk rfl, trivial⟩) rfl <| As rfl <| Nl <| rt ?_
  cases h; exact Zg Tryz.results21 rfl (Z4 rfl)
 | cons x7 l5 =>
  unfold Zam at h
  refine SR <| Ac (Zn rfl rfl (vt rfl) (vk rfl)) rfl <| Nl <| sq <| Cn rfl (fun hc => ?_) (fun hc => absurd (hsf1.consn (by simp)) (of_decide_eq_false hc))
  have hlti4 := of_decide_eq_true hc
  refine sk <| sq <| bk <| SR <| Ac (Zb4 rfl rfl Zc1 Z5c (vt rfl) (vt rfl) hsf1.lget) rfl <| As rfl <| Nl <| sq ?_
  obtain ⟨x8, hx8, h⟩ := Za h
  refine Rg <| Md rfl <| Md rfl <| Cl [12, 13] (Yk1 _ _ _ hx8) e74 rfl <| Ac (Z15 rfl rfl (vt rfl)) rfl <| Nl <| Cq rfl h (fun h => ?_) (fun h => ?_)
  ·refine SR <| Ab rfl <| Nl <| rt ?_
   cases h; exact Zg Tryz.results21 rfl (Z4 rfl)
  ·refine sk <| Rg <| Ac (Z74 rfl rfl (vt rfl) (vk rfl) rfl hlti4) rfl <| Md rfl <| Nl ?_
   exact ⟨(_, _), Nat.lt_succ_self _, ⟨hsf1.next, h⟩, FX rfl⟩
def Zmn : Option Z9 :=
 some (Vector.replicate 24 zTern)
theorem Y5i : Q0 Tryz.prog 79 (rd (Z1 24 Z3)) Zmn := fun r h => I0 Tryz.func79 rfl Tryz.ntmps79 rfl fun w H => by
 unfold Zmn at h
 refine SR <| Cv rfl (Zp 1 rfl rfl Z13) fun g1 => Nl <| SR <| Ac (Z1e (ps := []) (x := (Vector.replicate 24 zTern)) rfl rfl rfl (by kernel_rfl) Z13 rfl) rfl <| Zh Z01 1 rfl <| Nl <| rt ?_
 cases h; exact Zg Tryz.results79 rfl (Zz rfl (i := 1) rfl Z01)
def Z8p : Option Z9 :=
 some (Vector.replicate 24 zTern)
theorem Zl4 : Q0 Tryz.prog 80 (rd (Z1 24 Z3)) Z8p := fun r h => I0 Tryz.func80 rfl Tryz.ntmps80 rfl fun w H => by
 unfold Z8p at h
 refine SR <| Cv rfl (Zp 1 rfl rfl Z3f) fun g1 => Nl <| SR <| Ac (Z1e (ps := []) (x := (Vector.replicate 24 zTern)) rfl rfl rfl (by kernel_rfl) Z3f rfl) rfl <| Zh Z02 1 rfl <| Nl <| rt ?_
 cases h; exact Zg Tryz.results80 rfl (Zz rfl (i := 1) rfl Z02)
def Zc7 (a11 : Int) (go1 : (List Int) → Int → Option (List Int)) (i8 : Int) : Nat → (List Int) → Int → Option (List Int)
 | 0, _, _ => none
 | m22 + 1, l20, j21 => (bif (decide (j21 > a11)) then (lget l20 (IntKind.i64.wrap (j21 - 1))).bind fun x23 => (lget l20 j21).bind fun x24 => (Zc7 a11 go1 i8 m22) (List.set l20 j21.toNat x23) (IntKind.i64.wrap (j21 - 1)) else (lget l20 a11).bind fun x25 => go1 (List.set l20 a11.toNat i8) (IntKind.i64.wrap (i8 + 1)))
def Zcm (l6 : (List Int)) (t1 : (List Flow)) (i8 : Int) (go1 : (List Int) → Int → Option (List Int)) : Nat → Int → Option (List Int)
 | 0, _ => none
 | m12 + 1, a11 => (opt (decide (a11 > 0)) (lget l6 (IntKind.i64.wrap (a11 - 1)))).bind fun x13 => (opt (decide (a11 > 0)) (lget t1 x13)).bind fun x14 => (opt (decide (a11 > 0)) (lget t1 i8)).bind fun x15 => (bif ((decide (a11 > 0)) && (decide (x14.Priority < x15.Priority))) then (Zcm l6 t1 i8 go1 m12) (IntKind.i64.wrap (a11 - 1)) else (Z0u l6 [0]).bind fun l16 => Zc7 a11 go1 i8 ((((IntKind.i64.wrap ((l16.length : Int) - 1)) : Int) - a11).toNat + 1) l16 (IntKind.i64.wrap ((l16.length : Int) - 1)))
def Z9f (t1 : (List Flow)) : Nat → (List Int) → Int → Option (List Int)
 | 0, _, _ => none
 | m9 + 1, l6, i8 => (bif (decide (i8 < (t1.length : Int))) then Zcm l6 t1 i8 (Z9f t1 m9) Z0l (l6.length : Int) else some l6)
def Zlg (t1 : (List Flow)) : Option (List Int) :=
 Z9f t1 ((((t1.length : Int) : Int) - 0).toNat + 1) [] 0
theorem Y81 : Q1 Tryz.prog 139 (rd (Z2 Z0n)) (rd (Z2 (Z0 .i64))) Zlg := fun t1 r h => I0 Tryz.func139 rfl Tryz.ntmps139 rfl fun w H => by
 unfold Zlg at h
 refine SR <| Ac (Zy (A := rd (Z2 (Z0 .i64)) []) rfl rfl Z1p) rfl <| Nl <| SR <| Cv rfl (Z57 1001 (ps := []) (l := []) rfl rfl Z0y zr3 rfl rfl rfl rfl) fun v2 => Aw rfl <| Nl <| sq <| SR <| Ak rfl <| Nl <| bk <| LG (d := []) (ν := Nat × (List Int) × Int × Value) (fun (m9, l6, i8, v7) => (True ∧ Z9f t1 m9 l6 i8 = some r, m9, [(0, rd (Z2 Z0n) t1), (3, Zi v7), (4, rd (Z0 .i64) i8)], [(1001, Zc v7 3 (Z0 .i64) l6)])) (((((t1.length : Int) : Int) - 0).toNat + 1), [], 0, v2) ⟨trivial, h⟩ (FX rfl) ?_
 rintro ⟨m9, l6, i8, v7⟩ ⟨hsf1, h⟩
 dsimp only at h ⊢
 cases m9 with
 | zero => cases h
 | succ m9 =>
  unfold Z9f at h
  refine sq <| SR <| Md rfl <| Md rfl <| Ac (Z0x rfl rfl Z4q (vt rfl)) rfl <| Ac (Zn rfl rfl (vt rfl) (vt rfl)) rfl <| Nl <| Cq rfl h (fun h => ?_) (fun h => ?_)
  ·refine sk <| sq <| bk <| SR <| Mw rfl <| Ac (Z6q 1001 rfl rfl Z0y (vt rfl) rfl) rfl <| As rfl <| Nl <| sq <| bk <| LG (d := []) (ν := Nat × Int) (fun (m12, a11) => (True ∧ Zcm l6 t1 i8 (Z9f t1 m9) m12 a11 = some r, m12, [(0, rd (Z2 Z0n) t1), (3, Zi v7), (4, rd (Z0 .i64) i8), (5, rd (Z0 .i64) a11)], [(1001, Zc v7 3 (Z0 .i64) l6)])) (Z0l, (l6.length : Int)) ⟨trivial, h⟩ (FX rfl) ?_
   rintro ⟨m12, a11⟩ ⟨hsf2, h⟩
   dsimp only at h ⊢
   cases m12 with
   | zero => cases h
   | succ m12 =>
    unfold Zcm at h
    refine sq <| sq ?_
    obtain ⟨x13, hx13, x14, hx14, x15, hx15, h⟩ := bs3 h
    refine AR Zx (by kernel_rfl) <| Zq rfl <| Sd (lo [16] [] rfl fun S hs hr => Z3i rfl rfl (vh hs 16 rfl rfl) (vk rfl)) <| Zq rfl <| Sd (lg [0, 18] [] rfl fun hq S hs hr => Zs (A := rd (Z2 Z0n) t1) rfl rfl (vh hs 0 rfl rfl)) <| Sd (lg [3, 18] [] rfl fun hq S hs hr => Zs (A := Zi v7) rfl rfl (vh hs 3 rfl rfl)) <| Sd (lg [5, 18] [] rfl fun hq S hs hr => Zs (A := rd (Z0 .i64) a11) rfl rfl (vh hs 5 rfl rfl)) <| Sd (lg [21, 18] [] rfl fun hq S hs hr => Z0p rfl rfl (Zo ((hs 21 rfl).trans rfl) hq) (vk rfl)) <| Sd (lg [20, 22, 18] [1001] rfl fun hq S hs hr => Z21 1001 rfl rfl Z0y (Zo ((hs 20 rfl).trans rfl) hq) ((hr 1001 rfl).trans rfl) (Zo ((hs 22 rfl).trans rfl) hq) (Z28 hx13 hq)) <| Sd (lg [23, 18] [1001] rfl fun hq S hs hr => Z1i 1001 rfl rfl Zt (Zo ((hs 23 rfl).trans rfl) hq) ((hr 1001 rfl).trans rfl) (Z0e (Z28 hx13 hq)).2) <| Sd (lg [19, 24, 18] [] rfl fun hq S hs hr => Z0q rfl rfl Z4q (Zo ((hs 19 rfl).trans rfl) hq) (Zo ((hs 24 rfl).trans rfl) hq) (Z28 hx14 hq)) <| Sd (lg [25, 18] [] rfl fun hq S hs hr => Z8c Zcp rfl rfl Zf9 (Zo ((hs 25 rfl).trans rfl) hq)) <| Sd (lg [26, 18] [] rfl fun hq S hs hr => Zbj rfl rfl Zt (Zo ((hs 26 rfl).trans rfl) hq)) <| Sd (lg [0, 18] [] rfl fun hq S hs hr => Zs (A := rd (Z2 Z0n) t1) rfl rfl (vh hs 0 rfl rfl)) <| Sd (lg [4, 18] [] rfl fun hq S hs hr => Zs (A := rd (Z0 .i64) i8) rfl rfl (vh hs 4 rfl rfl)) <| Sd (lg [28, 29, 18] [] rfl fun hq S hs hr => Z0q rfl rfl Z4q (Zo ((hs 28 rfl).trans rfl) hq) (Zo ((hs 29 rfl).trans rfl) hq) (Z28 hx15 hq)) <| Sd (lg [30, 18] [] rfl fun hq S hs hr => Z8c Zcp rfl rfl Zf9 (Zo ((hs 30 rfl).trans rfl) hq)) <| Sd (lg [31, 18] [] rfl fun hq S hs hr => Zbj rfl rfl Zt (Zo ((hs 31 rfl).trans rfl) hq)) <| Sd (lg [27, 32, 18] [] rfl fun hq S hs hr => Zn rfl rfl (Zo ((hs 27 rfl).trans rfl) hq) (Zo ((hs 32 rfl).trans rfl) hq)) <| Sd (lo [33, 18] [] rfl fun S hs hr => Z1t rfl rfl (vh hs 18 rfl rfl) (vh hs 33 rfl rfl)) <| Sn <| Cq rfl h (fun h => ?_) (fun h => ?_)
    ·refine sk <| bk <| Rg <| Md rfl <| Ac (Z0p rfl rfl (vt rfl) (vk rfl)) rfl <| As rfl <| Nl ?_
     exact ⟨(_, _), Nat.lt_succ_self _, ⟨trivial, h⟩, FX rfl⟩
    ·refine xt <| sq ?_
     obtain ⟨l16, hl16, h⟩ := Za h
     refine Rg <| Mw rfl <| Ac (osl Z0y zr3 rfl (vk rfl)) rfl <| Cv rfl (Z2m 1001 hl16 rfl rfl Zlp (vt rfl) rfl (vt rfl)) fun v17 => Aw rfl <| Nl <| sq <| SR <| Mw rfl <| Ac (Z6q 1001 rfl rfl Z0y (vt rfl) rfl) rfl <| Ac (Z0p rfl rfl (vt rfl) (vk rfl)) rfl <| As rfl <| Nl <| bk <| LG (d := []) (ν := Nat × (List Int) × Int) (fun (m22, l20, j21) => (True ∧ Zc7 a11 (Z9f t1 m9) i8 m22 l20 j21 = some r, m22, [(0, rd (Z2 Z0n) t1), (3, Zi v17), (4, rd (Z0 .i64) i8), (5, rd (Z0 .i64) a11), (6, rd (Z0 .i64) j21)], [(1001, Zc v17 3 (Z0 .i64) l20)])) (((((IntKind.i64.wrap ((l16.length : Int) - 1)) : Int) - a11).toNat + 1), l16, (IntKind.i64.wrap ((l16.length : Int) - 1))) ⟨trivial, h⟩ (FX rfl) ?_
     rintro ⟨m22, l20, j21⟩ ⟨hsf3, h⟩
     dsimp only at h ⊢
     cases m22 with
     | zero => cases h
     | succ m22 =>
      unfold Zc7 at h
      refine sq <| SR <| Md rfl <| Md rfl <| Ac (Z3i rfl rfl (vt rfl) (vt rfl)) rfl <| Nl <| Cq rfl h (fun h => ?_) (fun h => ?_)
      ·refine sk <| sq <| bk ?_
       obtain ⟨x23, hx23, x24, hx24, h⟩ := bs2 h
       refine Rg <| Mw rfl <| Md rfl <| Mw rfl <| Md rfl <| Ac (Z0p rfl rfl (vt rfl) (vk rfl)) rfl <| Ac (Z21 1001 rfl rfl Z0y (vt rfl) rfl (vt rfl) hx23) rfl <| Ac (Z1i 1001 rfl rfl Zt (vt rfl) rfl (Z0e hx23).2) rfl <| Ac (Z21 1001 rfl rfl Z0y (vt rfl) rfl (vt rfl) hx24) rfl <| Ac (Z2o 1001 rfl rfl Zt (vt rfl) rfl (Z0e hx24).2 (vt rfl)) rfl <| Nl <| Rg <| Md rfl <| Ac (Z0p rfl rfl (vt rfl) (vk rfl)) rfl <| As rfl <| Nl ?_
       exact ⟨(_, _, _), Nat.lt_succ_self _, ⟨trivial, h⟩, FX rfl⟩
      ·refine xt ?_
       obtain ⟨x25, hx25, h⟩ := Za h
       refine Rg <| Mw rfl <| Md rfl <| Md rfl <| Ac (Z21 1001 rfl rfl Z0y (vt rfl) rfl (vt rfl) hx25) rfl <| Ac (Z2o 1001 rfl rfl Zt (vt rfl) rfl (Z0e hx25).2 (vt rfl)) rfl <| Nl <| Rg <| Md rfl <| Ac (Z06 rfl rfl (vt rfl) (vk rfl)) rfl <| As rfl <| Nl ?_
       exact ⟨(_, _, _, _), Nat.lt_succ_self _, ⟨trivial, h⟩, FX rfl⟩
  ·refine xt <| SR <| Mw rfl <| Aw rfl <| Nl <| AW.freezes [2, 3, 60] 1001 rfl ⟨rfl, rfl, rfl, trivial⟩ rfl <| rt ?_
   cases h; exact Zg Tryz.results139 rfl (Z4 rfl)
def Zak (x1 : Int) : Option Bool :=
 some ((decide (x1 ≥ 0)) && (decide (x1 < 24)))
theorem Zt4 : Q1 Tryz.prog 225 (rd (Z0 .i64)) (rd Z7) Zak := fun x1 r h => I0 Tryz.func225 rfl Tryz.ntmps225 rfl fun w H => by
 unfold Zak at h
 refine SR <| Ab rfl <| Nl <| SR <| Md rfl <| Ac (Z4z rfl rfl (vt rfl) (vk rfl)) rfl <| Md rfl <| Gd rfl (fun hq => Zs (A := rd (Z0 .i64) x1) rfl rfl (vt rfl)) <| Gd rfl (fun hq => Zn rfl rfl (Zo rfl hq) (vk rfl)) <| Ac (Z1t rfl rfl (vt rfl) (vt rfl)) rfl <| As rfl <| Nl <| rt ?_
 cases h; exact Zg Tryz.results225 rfl (Z4 rfl)
def Zss (x1 : Int) : Option (ByteArray × Int × Int × Bool) :=
 (bif (decide (x1 = 12)) then some ({ data := #[116, 99, 112, 95, 115, 114, 99] }, 13, 16, false) else (bif (decide (x1 = 13)) then some ({ data := #[116, 99, 112, 95, 100, 115, 116] }, 14, 16, false) else (bif (decide (x1 = 14)) then some ({ data := #[117, 100, 112, 95, 115, 114, 99] }, 15, 16, false) else (bif (decide (x1 = 15)) then some ({ data := #[117, 100, 112, 95, 100, 115, 116] }, 16, 16, false) else (bif (decide (x1 = 16)) then some ({ data := #[105, 99, 109, 112, 118, 52, 95, 116, 121, 112, 101] }, 19, 8, false) else (bif (decide (x1 = 17)) then some ({ data := #[105, 99, 109, 112, 118, 52, 95, 99, 111, 100, 101] }, 20, 8, false) else (bif (decide (x1 = 18)) then some ({ data := #[97, 114, 112, 95, 111, 112] }, 21, 16, false) else (bif (decide (x1 = 19)) then some ({ data := #[97, 114, 112, 95, 115, 112, 97] }, 22, 32, true) else (bif (decide (x1 = 20)) then some ({ data := #[97, 114, 112, 95, 116, 112, 97] }, 23, 32, true) else (bif (decide (x1 = 21)) then some ({ data := #[105, 112, 118, 54, 95, 115, 114, 99] }, 26, 128, true) else (bif (decide (x1 = 22)) then some ({ data := #[105, 112, 118, 54, 95, 100, 115, 116] }, 27, 128, true) else (bif (decide (x1 = 23)) then some ({ data := #[109, 112, 108, 115, 95, 108, 97, 98, 101, 108] }, 34, 20, false) else some ({ data := #[] }, (-1), 0, false)))))))))))))
theorem Yak : Q1 Tryz.prog 342 (rd (Z0 .i64)) (fun r => Z9j (rd Z1k r.1) (rd (Z0 .i64) r.2.1) (rd (Z0 .i64) r.2.2.1) (rd Z7 r.2.2.2)) Zss := fun x1 r h => I0 Tryz.func342 rfl Tryz.ntmps342 rfl fun w H => by
 unfold Zss at h
 refine SR <| Ac (Zy (A := rd Z1k { data := #[] }) rfl rfl (vs (by decide))) rfl <| Ak rfl <| Ak rfl <| Ab rfl <| Nl <| sq <| SR <| Md rfl <| Nl <| bk <| SR <| Ac (Z0m rfl rfl (vt rfl) (vk rfl)) rfl <| As rfl <| Nl <| Cq rfl h (fun h => ?_) (fun h => ?_)
 ·refine SR <| Ac (Zy (A := rd Z1k { data := #[116, 99, 112, 95, 115, 114, 99] }) rfl rfl (vs (by decide))) rfl <| Ak rfl <| Ak rfl <| Ab rfl <| Nl <| rt ?_
  cases h; exact Z2u Tryz.results342 rfl (Z4 rfl) (Z4 rfl) (Z4 rfl) (Z4 rfl)
 ·refine SR <| Ac (Z0m rfl rfl (vt rfl) (vk rfl)) rfl <| As rfl <| Nl <| Cq rfl h (fun h => ?_) (fun h => ?_)
  ·refine SR <| Ac (Zy (A := rd Z1k { data := #[116, 99, 112, 95, 100, 115, 116] }) rfl rfl (vs (by decide))) rfl <| Ak rfl <| Ak rfl <| Ab rfl <| Nl <| rt ?_
   cases h; exact Z2u Tryz.results342 rfl (Z4 rfl) (Z4 rfl) (Z4 rfl) (Z4 rfl)
  ·refine SR <| Ac (Z0m rfl rfl (vt rfl) (vk rfl)) rfl <| As rfl <| Nl <| Cq rfl h (fun h => ?_) (fun h => ?_)
   ·refine SR <| Ac (Zy (A := rd Z1k { data := #[117, 100, 112, 95, 115, 114, 99] }) rfl rfl (vs (by decide))) rfl <| Ak rfl <| Ak rfl <| Ab rfl <| Nl <| rt ?_
    cases h; exact Z2u Tryz.results342 rfl (Z4 rfl) (Z4 rfl) (Z4 rfl) (Z4 rfl)
   ·refine SR <| Ac (Z0m rfl rfl (vt rfl) (vk rfl)) rfl <| As rfl <| Nl <| Cq rfl h (fun h => ?_) (fun h => ?_)
    ·refine SR <| Ac (Zy (A := rd Z1k { data := #[117, 100, 112, 95, 100, 115, 116] }) rfl rfl (vs (by decide))) rfl <| Ak rfl <| Ak rfl <| Ab rfl <| Nl <| rt ?_
     cases h; exact Z2u Tryz.results342 rfl (Z4 rfl) (Z4 rfl) (Z4 rfl) (Z4 rfl)
    ·refine SR <| Ac (Z0m rfl rfl (vt rfl) (vk rfl)) rfl <| As rfl <| Nl <| Cq rfl h (fun h => ?_) (fun h => ?_)
     ·refine SR <| Ac (Zy (A := rd Z1k { data := #[105, 99, 109, 112, 118, 52, 95, 116, 121, 112, 101] }) rfl rfl (vs (by decide))) rfl <| Ak rfl <| Ak rfl <| Ab rfl <| Nl <| rt ?_
      cases h; exact Z2u Tryz.results342 rfl (Z4 rfl) (Z4 rfl) (Z4 rfl) (Z4 rfl)
     ·refine SR <| Ac (Z0m rfl rfl (vt rfl) (vk rfl)) rfl <| As rfl <| Nl <| Cq rfl h (fun h => ?_) (fun h => ?_)
      ·refine SR <| Ac (Zy (A := rd Z1k { data := #[105, 99, 109, 112, 118, 52, 95, 99, 111, 100, 101] }) rfl rfl (vs (by decide))) rfl <| Ak rfl <| Ak rfl <| Ab rfl <| Nl <| rt ?_
       cases h; exact Z2u Tryz.results342 rfl (Z4 rfl) (Z4 rfl) (Z4 rfl) (Z4 rfl)
      ·refine SR <| Ac (Z0m rfl rfl (vt rfl) (vk rfl)) rfl <| As rfl <| Nl <| Cq rfl h (fun h => ?_) (fun h => ?_)
       ·refine SR <| Ac (Zy (A := rd Z1k { data := #[97, 114, 112, 95, 111, 112] }) rfl rfl (vs (by decide))) rfl <| Ak rfl <| Ak rfl <| Ab rfl <| Nl <| rt ?_
        cases h; exact Z2u Tryz.results342 rfl (Z4 rfl) (Z4 rfl) (Z4 rfl) (Z4 rfl)
       ·refine SR <| Ac (Z0m rfl rfl (vt rfl) (vk rfl)) rfl <| As rfl <| Nl <| Cq rfl h (fun h => ?_) (fun h => ?_)
        ·refine SR <| Ac (Zy (A := rd Z1k { data := #[97, 114, 112, 95, 115, 112, 97] }) rfl rfl (vs (by decide))) rfl <| Ak rfl <| Ak rfl <| Ab rfl <| Nl <| rt ?_
         cases h; exact Z2u Tryz.results342 rfl (Z4 rfl) (Z4 rfl) (Z4 rfl) (Z4 rfl)
        ·refine SR <| Ac (Z0m rfl rfl (vt rfl) (vk rfl)) rfl <| As rfl <| Nl <| Cq rfl h (fun h => ?_) (fun h => ?_)
         ·refine SR <| Ac (Zy (A := rd Z1k { data := #[97, 114, 112, 95, 116, 112, 97] }) rfl rfl (vs (by decide))) rfl <| Ak rfl <| Ak rfl <| Ab rfl <| Nl <| rt ?_
          cases h; exact Z2u Tryz.results342 rfl (Z4 rfl) (Z4 rfl) (Z4 rfl) (Z4 rfl)
         ·refine SR <| Ac (Z0m rfl rfl (vt rfl) (vk rfl)) rfl <| As rfl <| Nl <| Cq rfl h (fun h => ?_) (fun h => ?_)
          ·refine SR <| Ac (Zy (A := rd Z1k { data := #[105, 112, 118, 54, 95, 115, 114, 99] }) rfl rfl (vs (by decide))) rfl <| Ak rfl <| Ak rfl <| Ab rfl <| Nl <| rt ?_
           cases h; exact Z2u Tryz.results342 rfl (Z4 rfl) (Z4 rfl) (Z4 rfl) (Z4 rfl)
          ·refine SR <| Ac (Z0m rfl rfl (vt rfl) (vk rfl)) rfl <| As rfl <| Nl <| Cq rfl h (fun h => ?_) (fun h => ?_)
           ·refine SR <| Ac (Zy (A := rd Z1k { data := #[105, 112, 118, 54, 95, 100, 115, 116] }) rfl rfl (vs (by decide))) rfl <| Ak rfl <| Ak rfl <| Ab rfl <| Nl <| rt ?_
            cases h; exact Z2u Tryz.results342 rfl (Z4 rfl) (Z4 rfl) (Z4 rfl) (Z4 rfl)
           ·refine SR <| Ac (Z0m rfl rfl (vt rfl) (vk rfl)) rfl <| As rfl <| Nl <| Cq rfl h (fun h => ?_) (fun h => ?_)
            ·refine SR <| Ac (Zy (A := rd Z1k { data := #[109, 112, 108, 115, 95, 108, 97, 98, 101, 108] }) rfl rfl (vs (by decide))) rfl <| Ak rfl <| Ak rfl <| Ab rfl <| Nl <| rt ?_
             cases h; exact Z2u Tryz.results342 rfl (Z4 rfl) (Z4 rfl) (Z4 rfl) (Z4 rfl)
            ·refine sk <| SR <| Ac (Zy (A := rd Z1k { data := #[] }) rfl rfl (vs (by decide))) rfl <| Ak rfl <| Ak rfl <| Ab rfl <| Nl <| rt ?_
             cases h; exact Z2u Tryz.results342 rfl (Z4 rfl) (Z4 rfl) (Z4 rfl) (Z4 rfl)
def Zq3 (x1 : Int) : Option (ByteArray × Int × Int × Bool) :=
 (bif (decide (x1 = 0)) then some ({ data := #[105, 110, 95, 112, 111, 114, 116] }, 0, 32, false) else (bif (decide (x1 = 1)) then some ({ data := #[109, 101, 116, 97, 100, 97, 116, 97] }, 2, 64, true) else (bif (decide (x1 = 2)) then some ({ data := #[101, 116, 104, 95, 100, 115, 116] }, 3, 48, true) else (bif (decide (x1 = 3)) then some ({ data := #[101, 116, 104, 95, 115, 114, 99] }, 4, 48, true) else (bif (decide (x1 = 4)) then some ({ data := #[101, 116, 104, 95, 116, 121, 112, 101] }, 5, 16, false) else (bif (decide (x1 = 5)) then some ({ data := #[118, 108, 97, 110, 95, 118, 105, 100] }, 6, 13, true) else (bif (decide (x1 = 6)) then some ({ data := #[118, 108, 97, 110, 95, 112, 99, 112] }, 7, 3, false) else (bif (decide (x1 = 7)) then some ({ data := #[105, 112, 95, 100, 115, 99, 112] }, 8, 6, false) else (bif (decide (x1 = 8)) then some ({ data := #[105, 112, 95, 101, 99, 110] }, 9, 2, false) else (bif (decide (x1 = 9)) then some ({ data := #[105, 112, 95, 112, 114, 111, 116, 111] }, 10, 8, false) else (bif (decide (x1 = 10)) then some ({ data := #[105, 112, 118, 52, 95, 115, 114, 99] }, 11, 32, true) else (bif (decide (x1 = 11)) then some ({ data := #[105, 112, 118, 52, 95, 100, 115, 116] }, 12, 32, true) else (Zss x1).bind fun x2 => some (x2.1, x2.2.1, x2.2.2.1, x2.2.2.2)))))))))))))
theorem Yah : Q1 Tryz.prog 334 (rd (Z0 .i64)) (fun r => Z9j (rd Z1k r.1) (rd (Z0 .i64) r.2.1) (rd (Z0 .i64) r.2.2.1) (rd Z7 r.2.2.2)) Zq3 := fun x1 r h => I0 Tryz.func334 rfl Tryz.ntmps334 rfl fun w H => by
 unfold Zq3 at h
 refine SR <| Ac (Zy (A := rd Z1k { data := #[] }) rfl rfl (vs (by decide))) rfl <| Ak rfl <| Ak rfl <| Ab rfl <| Nl <| sq <| SR <| Md rfl <| Nl <| bk <| SR <| Ac (Z0m rfl rfl (vt rfl) (vk rfl)) rfl <| As rfl <| Nl <| Cq rfl h (fun h => ?_) (fun h => ?_)
 ·refine SR <| Ac (Zy (A := rd Z1k { data := #[105, 110, 95, 112, 111, 114, 116] }) rfl rfl (vs (by decide))) rfl <| Ak rfl <| Ak rfl <| Ab rfl <| Nl <| rt ?_
  cases h; exact Z2u Tryz.results334 rfl (Z4 rfl) (Z4 rfl) (Z4 rfl) (Z4 rfl)
 ·refine SR <| Ac (Z0m rfl rfl (vt rfl) (vk rfl)) rfl <| As rfl <| Nl <| Cq rfl h (fun h => ?_) (fun h => ?_)
  ·refine SR <| Ac (Zy (A := rd Z1k { data := #[109, 101, 116, 97, 100, 97, 116, 97] }) rfl rfl (vs (by decide))) rfl <| Ak rfl <| Ak rfl <| Ab rfl <| Nl <| rt ?_
   cases h; exact Z2u Tryz.results334 rfl (Z4 rfl) (Z4 rfl) (Z4 rfl) (Z4 rfl)
  ·refine SR <| Ac (Z0m rfl rfl (vt rfl) (vk rfl)) rfl <| As rfl <| Nl <| Cq rfl h (fun h => ?_) (fun h => ?_)
   ·refine SR <| Ac (Zy (A := rd Z1k { data := #[101, 116, 104, 95, 100, 115, 116] }) rfl rfl (vs (by decide))) rfl <| Ak rfl <| Ak rfl <| Ab rfl <| Nl <| rt ?_
    cases h; exact Z2u Tryz.results334 rfl (Z4 rfl) (Z4 rfl) (Z4 rfl) (Z4 rfl)
   ·refine SR <| Ac (Z0m rfl rfl (vt rfl) (vk rfl)) rfl <| As rfl <| Nl <| Cq rfl h (fun h => ?_) (fun h => ?_)
    ·refine SR <| Ac (Zy (A := rd Z1k { data := #[101, 116, 104, 95, 115, 114, 99] }) rfl rfl (vs (by decide))) rfl <| Ak rfl <| Ak rfl <| Ab rfl <| Nl <| rt ?_
     cases h; exact Z2u Tryz.results334 rfl (Z4 rfl) (Z4 rfl) (Z4 rfl) (Z4 rfl)
    ·refine SR <| Ac (Z0m rfl rfl (vt rfl) (vk rfl)) rfl <| As rfl <| Nl <| Cq rfl h (fun h => ?_) (fun h => ?_)
     ·refine SR <| Ac (Zy (A := rd Z1k { data := #[101, 116, 104, 95, 116, 121, 112, 101] }) rfl rfl (vs (by decide))) rfl <| Ak rfl <| Ak rfl <| Ab rfl <| Nl <| rt ?_
      cases h; exact Z2u Tryz.results334 rfl (Z4 rfl) (Z4 rfl) (Z4 rfl) (Z4 rfl)
     ·refine SR <| Ac (Z0m rfl rfl (vt rfl) (vk rfl)) rfl <| As rfl <| Nl <| Cq rfl h (fun h => ?_) (fun h => ?_)
      ·refine SR <| Ac (Zy (A := rd Z1k { data := #[118, 108, 97, 110, 95, 118, 105, 100] }) rfl rfl (vs (by decide))) rfl <| Ak rfl <| Ak rfl <| Ab rfl <| Nl <| rt ?_
       cases h; exact Z2u Tryz.results334 rfl (Z4 rfl) (Z4 rfl) (Z4 rfl) (Z4 rfl)
      ·refine SR <| Ac (Z0m rfl rfl (vt rfl) (vk rfl)) rfl <| As rfl <| Nl <| Cq rfl h (fun h => ?_) (fun h => ?_)
       ·refine SR <| Ac (Zy (A := rd Z1k { data := #[118, 108, 97, 110, 95, 112, 99, 112] }) rfl rfl (vs (by decide))) rfl <| Ak rfl <| Ak rfl <| Ab rfl <| Nl <| rt ?_
        cases h; exact Z2u Tryz.results334 rfl (Z4 rfl) (Z4 rfl) (Z4 rfl) (Z4 rfl)
       ·refine SR <| Ac (Z0m rfl rfl (vt rfl) (vk rfl)) rfl <| As rfl <| Nl <| Cq rfl h (fun h => ?_) (fun h => ?_)
        ·refine SR <| Ac (Zy (A := rd Z1k { data := #[105, 112, 95, 100, 115, 99, 112] }) rfl rfl (vs (by decide))) rfl <| Ak rfl <| Ak rfl <| Ab rfl <| Nl <| rt ?_
         cases h; exact Z2u Tryz.results334 rfl (Z4 rfl) (Z4 rfl) (Z4 rfl) (Z4 rfl)
        ·refine SR <| Ac (Z0m rfl rfl (vt rfl) (vk rfl)) rfl <| As rfl <| Nl <| Cq rfl h (fun h => ?_) (fun h => ?_)
         ·refine SR <| Ac (Zy (A := rd Z1k { data := #[105, 112, 95, 101, 99, 110] }) rfl rfl (vs (by decide))) rfl <| Ak rfl <| Ak rfl <| Ab rfl <| Nl <| rt ?_
          cases h; exact Z2u Tryz.results334 rfl (Z4 rfl) (Z4 rfl) (Z4 rfl) (Z4 rfl)
         ·refine SR <| Ac (Z0m rfl rfl (vt rfl) (vk rfl)) rfl <| As rfl <| Nl <| Cq rfl h (fun h => ?_) (fun h => ?_)
          ·refine SR <| Ac (Zy (A := rd Z1k { data := #[105, 112, 95, 112, 114, 111, 116, 111] }) rfl rfl (vs (by decide))) rfl <| Ak rfl <| Ak rfl <| Ab rfl <| Nl <| rt ?_
           cases h; exact Z2u Tryz.results334 rfl (Z4 rfl) (Z4 rfl) (Z4 rfl) (Z4 rfl)
          ·refine SR <| Ac (Z0m rfl rfl (vt rfl) (vk rfl)) rfl <| As rfl <| Nl <| Cq rfl h (fun h => ?_) (fun h => ?_)
           ·refine SR <| Ac (Zy (A := rd Z1k { data := #[105, 112, 118, 52, 95, 115, 114, 99] }) rfl rfl (vs (by decide))) rfl <| Ak rfl <| Ak rfl <| Ab rfl <| Nl <| rt ?_
            cases h; exact Z2u Tryz.results334 rfl (Z4 rfl) (Z4 rfl) (Z4 rfl) (Z4 rfl)
           ·refine SR <| Ac (Z0m rfl rfl (vt rfl) (vk rfl)) rfl <| As rfl <| Nl <| Cq rfl h (fun h => ?_) (fun h => ?_)
            ·refine SR <| Ac (Zy (A := rd Z1k { data := #[105, 112, 118, 52, 95, 100, 115, 116] }) rfl rfl (vs (by decide))) rfl <| Ak rfl <| Ak rfl <| Ab rfl <| Nl <| rt ?_
             cases h; exact Z2u Tryz.results334 rfl (Z4 rfl) (Z4 rfl) (Z4 rfl) (Z4 rfl)
            ·refine sk <| sq ?_
             obtain ⟨x2, hx2, h⟩ := Za h
             refine Rg <| Md rfl <| Cl [31] (Yak _ _ hx2) Y8r rfl <| Ac (Zv9 rfl rfl (vt rfl)) rfl <| Ac (Y2y rfl rfl (vt rfl)) rfl <| Ac (Zvm rfl rfl (vt rfl)) rfl <| Ac (Y4q rfl rfl (vt rfl)) rfl <| As rfl <| As rfl <| As rfl <| As rfl <| Nl <| rt ?_
             cases h; exact Z2u Tryz.results334 rfl (Z4 rfl) (Z4 rfl) (Z4 rfl) (Z4 rfl)
def Zmt (x1 : Int) : Option Int :=
 (Zq3 x1).bind fun x2 => some x2.2.2.1
theorem Yik : Q1 Tryz.prog 308 (rd (Z0 .i64)) (rd (Z0 .i64)) Zmt := fun x1 r h => I0 Tryz.func308 rfl Tryz.ntmps308 rfl fun w H => by
 unfold Zmt at h
 refine SR <| Ak rfl <| Nl <| sq ?_
 obtain ⟨x2, hx2, h⟩ := Za h
 refine Rg <| Md rfl <| Cl [8] (Yah _ _ hx2) Ydp rfl <| Ac (Zs (A := Z9j (rd Z1k x2.1) (rd (Z0 .i64) x2.2.1) (rd (Z0 .i64) x2.2.2.1) (rd Z7 x2.2.2.2)) rfl rfl (vt rfl)) rfl <| Ac (Zv9 rfl rfl (vt rfl)) rfl <| Ac (Y2y rfl rfl (vt rfl)) rfl <| Ac (Zvm rfl rfl (vt rfl)) rfl <| Ac (Y4q rfl rfl (vt rfl)) rfl <| As rfl <| As rfl <| As rfl <| As rfl <| Nl <| SR <| Md rfl <| As rfl <| Nl <| rt ?_
 cases h; exact Zg Tryz.results308 rfl (Z4 rfl)
end Go.Proofs.YtknpgojdkobgjaaGreat.W
set_option maxRecDepth 4000
namespace Go.Proofs.YtknpgojdkobgjaaGreat.W
open Go Go.Wb
theorem Znz : Ent Tryz.prog 309 := Ent.mk Tryz.func309 rfl rfl
theorem Zjp : Ent Tryz.prog 187 := Ent.mk Tryz.func187 rfl rfl
theorem Zri : Ent Tryz.prog 225 := Ent.mk Tryz.func225 rfl rfl
theorem Yjn : Ent Tryz.prog 308 := Ent.mk Tryz.func308 rfl rfl
theorem Zsh : Ent Tryz.prog 307 := Ent.mk Tryz.func307 rfl rfl
theorem Y29 : Ent Tryz.prog 271 := Ent.mk Tryz.func271 rfl rfl
theorem Zpn : Ent Tryz.prog 189 := Ent.mk Tryz.func189 rfl rfl
theorem Zi4 : Ent Tryz.prog 144 := Ent.mk Tryz.func144 rfl rfl
theorem Ydf : Ent Tryz.prog 210 := Ent.mk Tryz.func210 rfl rfl
theorem e83 : Ent Tryz.prog 83 := Ent.mk Tryz.func83 rfl rfl
def Z9p (i1 : Int) : Option Wide :=
 (bif ((decide (i1 < 0)) || (decide (i1 > 127))) then some (⟨0, 0⟩ : Wide) else (bif (decide (i1 < 64)) then (Z93 (1 : BitVec 64) ((BitVec.ofInt 64 i1).toNat : Int)).bind fun q3 => some (⟨0, q3⟩ : Wide) else (Z93 (1 : BitVec 64) ((BitVec.ofInt 64 (IntKind.i64.wrap (i1 - 64))).toNat : Int)).bind fun q4 => some (⟨q4, 0⟩ : Wide)))
theorem Zo2 : Q1 Tryz.prog 309 (rd (Z0 .i64)) (rd Zd) Z9p := fun i1 r h => I0 Tryz.func309 rfl Tryz.ntmps309 rfl fun w H => by
 unfold Z9p at h
 refine SR <| Cv rfl (Zp 3 rfl rfl Z1s) fun g2 => Nl <| sq <| bk <| SR <| Md rfl <| Ac (Zn rfl rfl (vt rfl) (vk rfl)) rfl <| Md rfl <| Gd rfl (fun hq => Zs (A := rd (Z0 .i64) i1) rfl rfl (vt rfl)) <| Gd rfl (fun hq => Z3i rfl rfl (Zo rfl hq) (vk rfl)) <| Ac (Za0 rfl rfl (vt rfl) (vt rfl)) rfl <| As rfl <| Nl <| Cq rfl h (fun h => ?_) (fun h => ?_)
 ·refine SR <| Ac (opb (⟨0, 0⟩ : Wide) Z1s rfl Z3o (pn rfl)) rfl <| Zh Zu 3 rfl <| Nl <| rt ?_
  cases h; exact Zg Tryz.results309 rfl (Zz rfl (i := 3) rfl Zu)
 ·refine SR <| Md rfl <| Ac (Zn rfl rfl (vt rfl) (vk rfl)) rfl <| As rfl <| Nl <| Cq rfl h (fun h => ?_) (fun h => ?_)
  ·refine sq ?_
   obtain ⟨q3, hq3, h⟩ := Za h
   refine Rg <| Md rfl <| Ac (Z8g rfl rfl us3 Z89 (vt rfl)) rfl <| Ac (Zme rfl rfl (vku (1 : BitVec 64) rfl) (Z4o (vt rfl)) hq3) rfl <| Ac (opb (⟨0, q3⟩ : Wide) Z1s rfl Z3o (pc Z6d (vt rfl) <| pn rfl)) rfl <| Zh Zu 3 rfl <| Nl <| rt ?_
   cases h; exact Zg Tryz.results309 rfl (Zz rfl (i := 3) rfl Zu)
  ·refine sk <| sq ?_
   obtain ⟨q4, hq4, h⟩ := Za h
   refine Rg <| Md rfl <| Ac (Z0p rfl rfl (vt rfl) (vk rfl)) rfl <| Ac (Z8g rfl rfl us3 Z89 (vt rfl)) rfl <| Ac (Zme rfl rfl (vku (1 : BitVec 64) rfl) (Z4o (vt rfl)) hq4) rfl <| Ac (opb (⟨q4, 0⟩ : Wide) Z1s rfl Z3o (pc Z7f (vt rfl) <| pn rfl)) rfl <| Zh Zu 3 rfl <| Nl <| rt ?_
   cases h; exact Zg Tryz.results309 rfl (Zz rfl (i := 3) rfl Zu)
def Zb1 (a1 : Wide) (b2 : Wide) : Option Wide :=
 some (⟨(a1.Hi ||| b2.Hi), (a1.Lo ||| b2.Lo)⟩ : Wide)
theorem Zll : Q2 Tryz.prog 187 (rd Zd) (rd Zd) (rd Zd) Zb1 := fun a1 b2 r h => I0 Tryz.func187 rfl Tryz.ntmps187 rfl fun w H => by
 unfold Zb1 at h
 refine SR <| Cv rfl (Zl 3 rfl rfl (vt rfl)) fun g3 => Cv rfl (Zl 4 rfl rfl (vt rfl)) fun g4 => Cv rfl (Zp 5 rfl rfl Z1s) fun g5 => Nl <| SR <| Zj lWide_0 Z45 rfl <| Ld Z1g 3 rfl <| Zj lWide_0 Z45 rfl <| Ld Z1g 4 rfl <| Ac (Zj3 rfl rfl (vt rfl) (vt rfl)) rfl <| Zj lWide_1 Z3z rfl <| Ld Z1g 3 rfl <| Zj lWide_1 Z3z rfl <| Ld Z1g 4 rfl <| Ac (Zj3 rfl rfl (vt rfl) (vt rfl)) rfl <| Ac (opb (⟨(a1.Hi ||| b2.Hi), (a1.Lo ||| b2.Lo)⟩ : Wide) Z1s rfl Z3o (pc Z7f (vt rfl) <| pc Z6d (vt rfl) <| pn rfl)) rfl <| Zh Zu 5 rfl <| Nl <| rt ?_
 cases h; exact Zg Tryz.results187 rfl (Zz rfl (i := 5) rfl Zu)
def Zps (n1 : Int) : Nat → Wide → Int → Option Wide
 | 0, _, _ => none
 | m8 + 1, b6, i7 => (bif ((decide (i7 < n1)) && (decide (i7 < 128))) then (Z9p i7).bind fun x9 => (Zb1 b6 x9).bind fun x10 => (Zps n1 m8) x10 (IntKind.i64.wrap (i7 + 1)) else some b6)
def Zah (n1 : Int) : Option Wide :=
 Zps n1 Z0l (⟨0, 0⟩ : Wide) 0
theorem Zq5 : Q1 Tryz.prog 307 (rd (Z0 .i64)) (rd Zd) Zah := fun n1 r h => I0 Tryz.func307 rfl Tryz.ntmps307 rfl fun w H => by
 unfold Zah at h
 refine SR <| Cv rfl (Zp 3 rfl rfl Z1s) fun g2 => Nl <| SR <| Ac (opb (⟨0, 0⟩ : Wide) Z1s rfl Z3o (pn rfl)) rfl <| Cv rfl (Zp 4 rfl rfl Z1s) fun g3 => Zh Zu 4 rfl <| Nl <| sq <| SR <| Ak rfl <| Nl <| bk <| LG (d := []) (ν := Nat × Wide × Int) (fun (m8, b6, i7) => (True ∧ Zps n1 m8 b6 i7 = some r, m8, [(0, rd (Z0 .i64) n1), (2, Zb g2 (Lens.id Zd)), (3, Zb g3 (Lens.id Zd)), (4, rd (Z0 .i64) i7)], [(3, Ze g2 42 Zd Z09), (4, Ze g3 42 Zd b6)])) (Z0l, (⟨0, 0⟩ : Wide), 0) ⟨trivial, h⟩ (FX rfl) ?_
 rintro ⟨m8, b6, i7⟩ ⟨hsf1, h⟩
 dsimp only at h ⊢
 cases m8 with
 | zero => cases h
 | succ m8 =>
  unfold Zps at h
  refine sq <| SR <| Md rfl <| Md rfl <| Ac (Zn rfl rfl (vt rfl) (vt rfl)) rfl <| Md rfl <| Gd rfl (fun hq => Zs (A := rd (Z0 .i64) i7) rfl rfl (vt rfl)) <| Gd rfl (fun hq => Zn rfl rfl (Zo rfl hq) (vk rfl)) <| Ac (Z1t rfl rfl (vt rfl) (vt rfl)) rfl <| Nl <| Cq rfl h (fun h => ?_) (fun h => ?_)
  ·refine sk <| sq <| bk ?_
   obtain ⟨x9, hx9, x10, hx10, h⟩ := bs2 h
   refine AR Zx (by kernel_rfl) <| Zk Zu 4 rfl <| Zq rfl <| SCl [16] (Zo2 _ _ hx9) Znz rfl <| SCl [15, 17] (Zll _ _ _ hx10) Zjp rfl <| SSt Zu 4 rfl <| Sn <| Rg <| Md rfl <| Ac (Z06 rfl rfl (vt rfl) (vk rfl)) rfl <| As rfl <| Nl ?_
   exact ⟨(_, _, _), Nat.lt_succ_self _, ⟨trivial, h⟩, FX rfl⟩
  ·refine xt <| SR <| Ld Zu 4 rfl <| Zh Zu 3 rfl <| Nl <| rt ?_
   cases h; exact Zg Tryz.results307 rfl (Zz rfl (i := 3) rfl Zu)
def Zh4 (o1 : Oxm) : Option Tern :=
 (Zak o1.Field).bind fun x4 => (bif (!x4) then some (⟨Z09, Z09⟩ : Tern) else (bif o1.Masked then some (⟨o1.Value, o1.Mask⟩ : Tern) else (Zmt o1.Field).bind fun x5 => (Zah x5).bind fun x6 => some (⟨o1.Value, x6⟩ : Tern)))
theorem Y11 : Q1 Tryz.prog 271 (rd Z2f) (rd Z3) Zh4 := fun o1 r h => I0 Tryz.func271 rfl Tryz.ntmps271 rfl fun w H => by
 unfold Zh4 at h
 refine SR <| Cv rfl (Zl 2 rfl rfl (vt rfl)) fun g2 => Cv rfl (Zp 3 rfl rfl Z1d) fun g3 => Nl <| sq <| sq ?_
 obtain ⟨x4, hx4, h⟩ := Za h
 refine Rg <| Zj Z4w Z55 rfl <| Ld Zt 2 rfl <| Cl [4] (Zt4 _ _ hx4) Zri rfl <| Ac (Z15 rfl rfl (vt rfl)) rfl <| Nl <| Cq rfl h (fun h => ?_) (fun h => ?_)
 ·refine SR <| Ac (opb (⟨Z09, Z09⟩ : Tern) Z1d rfl Z3v (pn rfl)) rfl <| Zh Zw 3 rfl <| Nl <| rt ?_
  cases h; exact Zg Tryz.results271 rfl (Zz rfl (i := 3) rfl Zw)
 ·refine sk <| sq <| SR <| Zj Zu6 Zzi rfl <| Ld ty4 2 rfl <| Nl <| Cq rfl h (fun h => ?_) (fun h => ?_)
  ·refine SR <| Zj Zim Zox rfl <| Ld Zu 2 rfl <| Zj Zqz Zy5 rfl <| Ld Zu 2 rfl <| Ac (opb (⟨o1.Value, o1.Mask⟩ : Tern) Z1d rfl Z3v (pc Z59 (vt rfl) <| pc Z4k (vt rfl) <| pn rfl)) rfl <| Zh Zw 3 rfl <| Nl <| rt ?_
   cases h; exact Zg Tryz.results271 rfl (Zz rfl (i := 3) rfl Zw)
  ·refine sk <| sq ?_
   obtain ⟨x5, hx5, x6, hx6, h⟩ := bs2 h
   refine AR Zx (by kernel_rfl) <| SFd Zim Zox rfl <| Zk Zu 2 rfl <| SFd Z4w Z55 rfl <| Zk Zt 2 rfl <| SCl [18] (Yik _ _ hx5) Yjn rfl <| SCl [19] (Zq5 _ _ hx6) Zsh rfl <| Sd (lo [16, 20] [] rfl fun S hs hr => opb (⟨o1.Value, x6⟩ : Tern) Z1d rfl Z3v (pc Z59 (vh hs 16 rfl rfl) <| pc Z4k (vh hs 20 rfl rfl) <| pn rfl)) <| SSt Zw 3 rfl <| Sn <| rt ?_
   cases h; exact Zg Tryz.results271 rfl (Zz rfl (i := 3) rfl Zw)
def Zbt (l1 : (List Oxm)) : Nat → Z9 → Int → Option Z9
 | 0, _, _ => none
 | m8 + 1, b6, i7 => (bif (decide (i7 < (l1.length : Int))) then (lget l1 i7).bind fun x9 => (Zak x9.Field).bind fun x10 => (bif x10 then (lget l1 i7).bind fun x11 => (lget l1 i7).bind fun x12 => (Zh4 x12).bind fun x13 => (chk 24 x11.Field).bind fun j14 => (Zbt l1 m8) (Vector.set b6 j14.1 x13 j14.2) (IntKind.i64.wrap (i7 + 1)) else (Zbt l1 m8) b6 (IntKind.i64.wrap (i7 + 1))) else some b6)
def Zoj (l1 : (List Oxm)) : Option Z9 :=
 Zbt l1 ((((l1.length : Int) : Int) - 0).toNat + 1) (Vector.replicate 24 zTern) 0
theorem Y9z : Q1 Tryz.prog 210 (rd (Z2 Z2f)) (rd (Z1 24 Z3)) Zoj := fun l1 r h => I0 Tryz.func210 rfl Tryz.ntmps210 rfl fun w H => by
 unfold Zoj at h
 refine SR <| Cv rfl (Zp 3 rfl rfl Z13) fun g2 => Nl <| SR <| Ac (Z1e (ps := []) (x := (Vector.replicate 24 zTern)) rfl rfl rfl (by kernel_rfl) Z13 rfl) rfl <| Cv rfl (Zp 4 rfl rfl Z13) fun g3 => Zh Z01 4 rfl <| Nl <| sq <| SR <| Ak rfl <| Nl <| bk <| LG (d := []) (ν := Nat × Z9 × Int) (fun (m8, b6, i7) => (True ∧ Zbt l1 m8 b6 i7 = some r, m8, [(0, rd (Z2 Z2f) l1), (2, Zb g2 (Lens.id (Z1 24 Z3))), (3, Zb g3 (Lens.id (Z1 24 Z3))), (4, rd (Z0 .i64) i7)], [(3, Ze g2 87 (Z1 24 Z3) (Vector.replicate 24 zTern)), (4, Ze g3 87 (Z1 24 Z3) b6)])) (((((l1.length : Int) : Int) - 0).toNat + 1), (Vector.replicate 24 zTern), 0) ⟨trivial, h⟩ (FX rfl) ?_
 rintro ⟨m8, b6, i7⟩ ⟨hsf1, h⟩
 dsimp only at h ⊢
 cases m8 with
 | zero => cases h
 | succ m8 =>
  unfold Zbt at h
  refine sq <| SR <| Md rfl <| Md rfl <| Ac (Z0x rfl rfl Zci (vt rfl)) rfl <| Ac (Zn rfl rfl (vt rfl) (vt rfl)) rfl <| Nl <| Cq rfl h (fun h => ?_) (fun h => ?_)
  ·refine sk <| sq <| bk <| sq ?_
   obtain ⟨x9, hx9, x10, hx10, h⟩ := bs2 h
   refine Rg <| Md rfl <| Md rfl <| Ac (Z0q rfl rfl Zci (vt rfl) (vt rfl) hx9) rfl <| Fp Z4w Z55 rfl <| Lp1 Zt rfl <| Cl [16] (Zt4 _ _ hx10) Zri rfl <| Nl <| Cq rfl h (fun h => ?_) (fun h => ?_)
   ·obtain ⟨x11, hx11, x12, hx12, x13, hx13, j14, hj14, h⟩ := bs4 h
    refine AR Zx (by kernel_rfl) <| Zq rfl <| Zq rfl <| Sd (lo [18, 19] [] rfl fun S hs hr => Z0q rfl rfl Zci (vh hs 18 rfl rfl) (vh hs 19 rfl rfl) hx11) <| SFp Z4w Z55 rfl <| SLp Zt rfl <| Zq rfl <| Zq rfl <| Sd (lo [23, 24] [] rfl fun S hs hr => Z0q rfl rfl Zci (vh hs 23 rfl rfl) (vh hs 24 rfl rfl) hx12) <| SLp Zgj rfl <| SCl [26] (Y11 _ _ hx13) Y29 rfl <| Sd (lo [3, 22] [] rfl fun S hs hr => Z14 rfl rfl Z2h (vh hs 3 rfl rfl) (vh hs 22 rfl rfl) hj14) <| SSt Zw 4 rfl <| Sn <| Rg <| Md rfl <| Ac (Z06 rfl rfl (vt rfl) (vk rfl)) rfl <| As rfl <| Nl ?_
    exact ⟨(_, _, _), Nat.lt_succ_self _, ⟨trivial, h⟩, FX rfl⟩
   ·refine sk <| Rg <| Md rfl <| Ac (Z06 rfl rfl (vt rfl) (vk rfl)) rfl <| As rfl <| Nl ?_
    exact ⟨(_, _, _), Nat.lt_succ_self _, ⟨trivial, h⟩, FX rfl⟩
  ·refine xt <| SR <| Ld Z01 4 rfl <| Zh Z01 3 rfl <| Nl <| rt ?_
   cases h; exact Zg Tryz.results210 rfl (Zz rfl (i := 3) rfl Z01)
def Zcf (a1 : Wide) (b2 : Wide) : Option Wide :=
 some (⟨(a1.Hi &&& b2.Hi), (a1.Lo &&& b2.Lo)⟩ : Wide)
theorem Zny : Q2 Tryz.prog 189 (rd Zd) (rd Zd) (rd Zd) Zcf := fun a1 b2 r h => I0 Tryz.func189 rfl Tryz.ntmps189 rfl fun w H => by
 unfold Zcf at h
 refine SR <| Cv rfl (Zl 3 rfl rfl (vt rfl)) fun g3 => Cv rfl (Zl 4 rfl rfl (vt rfl)) fun g4 => Cv rfl (Zp 5 rfl rfl Z1s) fun g5 => Nl <| SR <| Zj lWide_0 Z45 rfl <| Ld Z1g 3 rfl <| Zj lWide_0 Z45 rfl <| Ld Z1g 4 rfl <| Ac (Z92 rfl rfl (vt rfl) (vt rfl)) rfl <| Zj lWide_1 Z3z rfl <| Ld Z1g 3 rfl <| Zj lWide_1 Z3z rfl <| Ld Z1g 4 rfl <| Ac (Z92 rfl rfl (vt rfl) (vt rfl)) rfl <| Ac (opb (⟨(a1.Hi &&& b2.Hi), (a1.Lo &&& b2.Lo)⟩ : Wide) Z1s rfl Z3o (pc Z7f (vt rfl) <| pc Z6d (vt rfl) <| pn rfl)) rfl <| Zh Zu 5 rfl <| Nl <| rt ?_
 cases h; exact Zg Tryz.results189 rfl (Zz rfl (i := 5) rfl Zu)
def Z95 (t1 : Tern) : Option Tern :=
 (Zcf t1.Value t1.Mask).bind fun x4 => some (⟨x4, t1.Mask⟩ : Tern)
theorem Zlc : Q1 Tryz.prog 144 (rd Z3) (rd Z3) Z95 := fun t1 r h => I0 Tryz.func144 rfl Tryz.ntmps144 rfl fun w H => by
 unfold Z95 at h
 refine SR <| Cv rfl (Zl 2 rfl rfl (vt rfl)) fun g2 => Cv rfl (Zp 3 rfl rfl Z1d) fun g3 => Nl <| sq ?_
 obtain ⟨x4, hx4, h⟩ := Za h
 refine AR Zx (by kernel_rfl) <| SFd lTern_0 Z2n rfl <| Zk Zu 2 rfl <| SFd lTern_1 Z27 rfl <| Zk Zu 2 rfl <| SCl [4, 6] (Zny _ _ _ hx4) Zpn rfl <| SFd lTern_1 Z27 rfl <| Zk Zu 2 rfl <| Sd (lo [7, 9] [] rfl fun S hs hr => opb (⟨x4, t1.Mask⟩ : Tern) Z1d rfl Z3v (pc Z59 (vh hs 7 rfl rfl) <| pc Z4k (vh hs 9 rfl rfl) <| pn rfl)) <| SSt Zw 3 rfl <| Sn <| rt ?_
 cases h; exact Zg Tryz.results144 rfl (Zz rfl (i := 3) rfl Zw)
def Zc8 : Nat → Z9 → Int → Option Z9
 | 0, _, _ => none
 | m8 + 1, b6, x7 => (bif (decide (x7 < 24)) then (chk 24 x7).bind fun j9 => (Z95 (Vector.get b6 j9)).bind fun x10 => (chk 24 x7).bind fun j11 => (Zc8 m8) (Vector.set b6 j11.1 x10 j11.2) (IntKind.i64.wrap (x7 + 1)) else some b6)
def Zki (x1 : Z9) : Option Z9 :=
 Zc8 (((24 : Int) - 0).toNat + 1) x1 0
theorem Yhs : Q1 Tryz.prog 83 (rd (Z1 24 Z3)) (rd (Z1 24 Z3)) Zki := fun x1 r h => I0 Tryz.func83 rfl Tryz.ntmps83 rfl fun w H => by
 unfold Zki at h
 refine SR <| Cv rfl (Zl 2 rfl rfl (vt rfl)) fun g2 => Cv rfl (Zp 3 rfl rfl Z13) fun g3 => Nl <| sq <| SR <| Ak rfl <| Nl <| bk <| LG (d := []) (ν := Nat × Z9 × Int) (fun (m8, b6, x7) => (True ∧ Zc8 m8 b6 x7 = some r, m8, [(1, Zb g2 (Lens.id (Z1 24 Z3))), (2, Zb g3 (Lens.id (Z1 24 Z3))), (3, rd (Z0 .i64) x7)], [(2, Ze g2 87 (Z1 24 Z3) b6), (3, Ze g3 87 (Z1 24 Z3) (Vector.replicate 24 zTern))])) ((((24 : Int) - 0).toNat + 1), x1, 0) ⟨trivial, h⟩ (FX rfl) ?_
 rintro ⟨m8, b6, x7⟩ ⟨hsf1, h⟩
 dsimp only at h ⊢
 cases m8 with
 | zero => cases h
 | succ m8 =>
  unfold Zc8 at h
  refine sq <| SR <| Md rfl <| Ac (Zn rfl rfl (vt rfl) (vk rfl)) rfl <| Nl <| Cq rfl h (fun h => ?_) (fun h => ?_)
  ·refine sk <| sq <| bk ?_
   obtain ⟨j9, hj9, x10, hx10, j11, hj11, h⟩ := bs3 h
   refine Rg <| Md rfl <| Md rfl <| Ac (Z14 rfl rfl Z2h (vt rfl) (vt rfl) hj9) rfl <| Ld Zw 2 rfl <| Cl [11] (Zlc _ _ hx10) Zi4 rfl <| Ac (Z14 rfl rfl Z2h (vt rfl) (vt rfl) hj11) rfl <| Zh Zw 2 rfl <| Nl <| Rg <| Md rfl <| Ac (Z06 rfl rfl (vt rfl) (vk rfl)) rfl <| As rfl <| Nl ?_
   exact ⟨(_, _, _), Nat.lt_succ_self _, ⟨trivial, h⟩, FX rfl⟩
  ·refine xt <| SR <| Ld Z01 2 rfl <| Zh Z01 3 rfl <| Nl <| rt ?_
   cases h; exact Zg Tryz.results83 rfl (Zz rfl (i := 3) rfl Z01)
def Zln (x1 : Flow) : Option Z9 :=
 (Zoj x1.Match).bind fun x4 => (Zki x4).bind fun x5 => some x5
theorem Y6u : Q1 Tryz.prog 141 (rd Z0n) (rd (Z1 24 Z3)) Zln := fun x1 r h => I0 Tryz.func141 rfl Tryz.ntmps141 rfl fun w H => by
 unfold Zln at h
 refine SR <| Cv rfl (Zl 2 rfl rfl (vt rfl)) fun g2 => Cv rfl (Zp 3 rfl rfl Z13) fun g3 => Nl <| sq ?_
 obtain ⟨x4, hx4, x5, hx5, h⟩ := bs2 h
 refine Rg <| Zj Zpc Zsa rfl <| Ld Zrz 2 rfl <| Cl [4] (Y9z _ _ hx4) Ydf rfl <| Cl [5] (Yhs _ _ hx5) e83 rfl <| Zh Z01 3 rfl <| Nl <| rt ?_
 cases h; exact Zg Tryz.results141 rfl (Zz rfl (i := 3) rfl Z01)
end Go.Proofs.YtknpgojdkobgjaaGreat.W
set_option maxRecDepth 4000
namespace Go.Proofs.YtknpgojdkobgjaaGreat.W
open Go Go.Wb
theorem Yf5 : Ent Tryz.prog 233 := Ent.mk Tryz.func233 rfl rfl
theorem Zv7 : Ent Tryz.prog 232 := Ent.mk Tryz.func232 rfl rfl
theorem Zw4 : Ent Tryz.prog 209 := Ent.mk Tryz.func209 rfl rfl
theorem Zxi : Ent Tryz.prog 188 := Ent.mk Tryz.func188 rfl rfl
theorem Zua : Ent Tryz.prog 145 := Ent.mk Tryz.func145 rfl rfl
def Zpq (a1 : Wide) (b2 : Wide) : Option Wide :=
 some (⟨(a1.Hi ^^^ b2.Hi), (a1.Lo ^^^ b2.Lo)⟩ : Wide)
theorem Yb0 : Q2 Tryz.prog 233 (rd Zd) (rd Zd) (rd Zd) Zpq := fun a1 b2 r h => I0 Tryz.func233 rfl Tryz.ntmps233 rfl fun w H => by
 unfold Zpq at h
 refine SR <| Cv rfl (Zl 3 rfl rfl (vt rfl)) fun g3 => Cv rfl (Zl 4 rfl rfl (vt rfl)) fun g4 => Cv rfl (Zp 5 rfl rfl Z1s) fun g5 => Nl <| SR <| Zj lWide_0 Z45 rfl <| Ld Z1g 3 rfl <| Zj lWide_0 Z45 rfl <| Ld Z1g 4 rfl <| Ac (Zpp rfl rfl (vt rfl) (vt rfl)) rfl <| Zj lWide_1 Z3z rfl <| Ld Z1g 3 rfl <| Zj lWide_1 Z3z rfl <| Ld Z1g 4 rfl <| Ac (Zpp rfl rfl (vt rfl) (vt rfl)) rfl <| Ac (opb (⟨(a1.Hi ^^^ b2.Hi), (a1.Lo ^^^ b2.Lo)⟩ : Wide) Z1s rfl Z3o (pc Z7f (vt rfl) <| pc Z6d (vt rfl) <| pn rfl)) rfl <| Zh Zu 5 rfl <| Nl <| rt ?_
 cases h; exact Zg Tryz.results233 rfl (Zz rfl (i := 5) rfl Zu)
def Zen (a1 : Wide) : Option Bool :=
 some ((decide (a1.Hi = (0 : BitVec 64))) && (decide (a1.Lo = (0 : BitVec 64))))
theorem Zxr : Q1 Tryz.prog 232 (rd Zd) (rd Z7) Zen := fun a1 r h => I0 Tryz.func232 rfl Tryz.ntmps232 rfl fun w H => by
 unfold Zen at h
 refine SR <| Cv rfl (Zl 2 rfl rfl (vt rfl)) fun g2 => Ab rfl <| Nl <| SR <| Zj lWide_0 Z45 rfl <| Ld Z1g 2 rfl <| Ac (Znj rfl rfl (vt rfl) (vku (0 : BitVec 64) rfl)) rfl <| Md rfl <| Gd rfl (fun hq => Z3y lWide_1 rfl rfl Z3z (vt rfl)) <| Gd rfl (fun hq => Z29 rfl rfl Z1g (Zo rfl hq) (i := 2) rfl) <| Gd rfl (fun hq => Znj rfl rfl (Zo rfl hq) (vku (0 : BitVec 64) rfl)) <| Ac (Z1t rfl rfl (vt rfl) (vt rfl)) rfl <| As rfl <| Nl <| rt ?_
 cases h; exact Zg Tryz.results232 rfl (Z4 rfl)
def Zh2 (a1 : Tern) (b2 : Tern) : Option (Tern × Bool) :=
 (Zcf a1.Mask b2.Mask).bind fun x6 => (Zpq a1.Value b2.Value).bind fun x8 => (Zcf x8 x6).bind fun x9 => (Zen x9).bind fun x10 => (bif (!x10) then some ((⟨Z09, Z09⟩ : Tern), false) else (Z95 a1).bind fun x11 => (Z95 b2).bind fun x12 => (Zb1 x11.Value x12.Value).bind fun x13 => (Zb1 x11.Mask x12.Mask).bind fun x14 => some ((⟨x13, x14⟩ : Tern), true))
theorem Y19 : Q2 Tryz.prog 209 (rd Z3) (rd Z3) (fun r => Z19 (rd Z3 r.1) (rd Z7 r.2)) Zh2 := fun a1 b2 r h => I0 Tryz.func209 rfl Tryz.ntmps209 rfl fun w H => by
 unfold Zh2 at h
 refine SR <| Cv rfl (Zl 3 rfl rfl (vt rfl)) fun g3 => Cv rfl (Zl 4 rfl rfl (vt rfl)) fun g4 => Cv rfl (Zp 5 rfl rfl Z1d) fun g5 => Ab rfl <| Nl <| sq ?_
 obtain ⟨x6, hx6, h⟩ := Za h
 refine Rg <| Zj lTern_1 Z27 rfl <| Ld Zu 3 rfl <| Zj lTern_1 Z27 rfl <| Ld Zu 4 rfl <| Cl [8, 10] (Zny _ _ _ hx6) Zpn rfl <| Cv rfl (Zp 7 rfl rfl Z1s) fun g7 => Zh Zu 7 rfl <| Nl <| sq <| sq ?_
 obtain ⟨x8, hx8, x9, hx9, x10, hx10, h⟩ := bs3 h
 refine AR Zx (by kernel_rfl) <| SFd lTern_0 Z2n rfl <| Zk Zu 3 rfl <| SFd lTern_0 Z2n rfl <| Zk Zu 4 rfl <| SCl [13, 15] (Yb0 _ _ _ hx8) Yf5 rfl <| Zk Zu 7 rfl <| SCl [16, 17] (Zny _ _ _ hx9) Zpn rfl <| SCl [18] (Zxr _ _ hx10) Zv7 rfl <| Sd (lo [19] [] rfl fun S hs hr => Z15 rfl rfl (vh hs 19 rfl rfl)) <| Sn <| Cq rfl h (fun h => ?_) (fun h => ?_)
 ·refine SR <| Ac (opb (⟨Z09, Z09⟩ : Tern) Z1d rfl Z3v (pn rfl)) rfl <| Zh Zw 5 rfl <| Ab rfl <| Nl <| rt ?_
  cases h; exact Z25 Tryz.results209 rfl (Zz rfl (i := 5) rfl Zw) (Z4 rfl)
 ·refine sk <| sq ?_
  obtain ⟨x11, hx11, x12, hx12, h⟩ := bs2 h
  refine AR Zx (by kernel_rfl) <| Zk Zw 3 rfl <| SCl [22] (Zlc _ _ hx11) Zi4 rfl <| Zk Zw 4 rfl <| SCl [24] (Zlc _ _ hx12) Zi4 rfl <| SSt Zw 3 rfl <| SSt Zw 4 rfl <| Sn <| sq ?_
  obtain ⟨x13, hx13, x14, hx14, h⟩ := bs2 h
  refine AR Zx (by kernel_rfl) <| SFd lTern_0 Z2n rfl <| Zk Zu 3 rfl <| SFd lTern_0 Z2n rfl <| Zk Zu 4 rfl <| SCl [27, 29] (Zll _ _ _ hx13) Zjp rfl <| SFd lTern_1 Z27 rfl <| Zk Zu 3 rfl <| SFd lTern_1 Z27 rfl <| Zk Zu 4 rfl <| SCl [32, 34] (Zll _ _ _ hx14) Zjp rfl <| Sd (lo [30, 35] [] rfl fun S hs hr => opb (⟨x13, x14⟩ : Tern) Z1d rfl Z3v (pc Z59 (vh hs 30 rfl rfl) <| pc Z4k (vh hs 35 rfl rfl) <| pn rfl)) <| SSt Zw 5 rfl <| Sd (lo [] [] rfl fun S hs hr => Zy (A := rd Z7 true) rfl rfl vb) <| Sn <| rt ?_
  cases h; exact Z25 Tryz.results209 rfl (Zz rfl (i := 5) rfl Zw) (Z4 rfl)
def Zih (a1 : Wide) (b2 : Wide) : Option Wide :=
 some (⟨(a1.Hi &&& ~~~b2.Hi), (a1.Lo &&& ~~~b2.Lo)⟩ : Wide)
theorem Y2d : Q2 Tryz.prog 188 (rd Zd) (rd Zd) (rd Zd) Zih := fun a1 b2 r h => I0 Tryz.func188 rfl Tryz.ntmps188 rfl fun w H => by
 unfold Zih at h
 refine SR <| Cv rfl (Zl 3 rfl rfl (vt rfl)) fun g3 => Cv rfl (Zl 4 rfl rfl (vt rfl)) fun g4 => Cv rfl (Zp 5 rfl rfl Z1s) fun g5 => Nl <| SR <| Zj lWide_0 Z45 rfl <| Ld Z1g 3 rfl <| Zj lWide_0 Z45 rfl <| Ld Z1g 4 rfl <| Ac (Znd rfl rfl (vt rfl) (vt rfl)) rfl <| Zj lWide_1 Z3z rfl <| Ld Z1g 3 rfl <| Zj lWide_1 Z3z rfl <| Ld Z1g 4 rfl <| Ac (Znd rfl rfl (vt rfl) (vt rfl)) rfl <| Ac (opb (⟨(a1.Hi &&& ~~~b2.Hi), (a1.Lo &&& ~~~b2.Lo)⟩ : Wide) Z1s rfl Z3o (pc Z7f (vt rfl) <| pc Z6d (vt rfl) <| pn rfl)) rfl <| Zh Zu 5 rfl <| Nl <| rt ?_
 cases h; exact Zg Tryz.results188 rfl (Zz rfl (i := 5) rfl Zu)
def Zco (x1 : Z9) (x2 : Z9) : Nat → Z9 → Int → Option (Z9 × Bool)
 | 0, _, _ => none
 | m11 + 1, b9, x10 => (bif (decide (x10 < 24)) then (chk 24 x10).bind fun j12 => (chk 24 x10).bind fun j13 => (Zh2 (Vector.get x1 j12) (Vector.get x2 j13)).bind fun x14 => (bif (!x14.2) then some ((Vector.replicate 24 zTern), false) else (chk 24 x10).bind fun j16 => (chk 24 x10).bind fun j17 => (chk 24 x10).bind fun j18 => (Zih ((Vector.get x2 j17).Mask) ((Vector.get x1 j18).Mask)).bind fun x19 => (Z95 (⟨(Vector.get x2 j16).Value, x19⟩ : Tern)).bind fun x20 => (chk 24 x10).bind fun j21 => (Zco x1 x2 m11) (Vector.set b9 j21.1 x20 j21.2) (IntKind.i64.wrap (x10 + 1))) else some (b9, true))
def Zk0 (x1 : Z9) (x2 : Z9) : Option (Z9 × Bool) :=
 Zco x1 x2 (((24 : Int) - 0).toNat + 1) (Vector.replicate 24 zTern) 0
theorem Yh3 : Q2 Tryz.prog 140 (rd (Z1 24 Z3)) (rd (Z1 24 Z3)) (fun r => Z19 (rd (Z1 24 Z3) r.1) (rd Z7 r.2)) Zk0 := fun x1 x2 r h => I0 Tryz.func140 rfl Tryz.ntmps140 rfl fun w H => by
 unfold Zk0 at h
 refine SR <| Cv rfl (Zl 3 rfl rfl (vt rfl)) fun g3 => Cv rfl (Zl 4 rfl rfl (vt rfl)) fun g4 => Cv rfl (Zp 5 rfl rfl Z13) fun g5 => Ab rfl <| Nl <| SR <| Ac (Z1e (ps := []) (x := (Vector.replicate 24 zTern)) rfl rfl rfl (by kernel_rfl) Z13 rfl) rfl <| Cv rfl (Zp 7 rfl rfl Z13) fun g6 => Zh Z01 7 rfl <| Nl <| sq <| SR <| Ak rfl <| Nl <| bk <| LG (d := []) (ν := Nat × Z9 × Int) (fun (m11, b9, x10) => (True ∧ Zco x1 x2 m11 b9 x10 = some r, m11, [(2, Zb g3 (Lens.id (Z1 24 Z3))), (3, Zb g4 (Lens.id (Z1 24 Z3))), (4, Zb g5 (Lens.id (Z1 24 Z3))), (6, Zb g6 (Lens.id (Z1 24 Z3))), (7, rd (Z0 .i64) x10)], [(3, Ze g3 101 (Z1 24 Z3) x1), (4, Ze g4 87 (Z1 24 Z3) x2), (5, Ze g5 87 (Z1 24 Z3) (Vector.replicate 24 zTern)), (7, Ze g6 87 (Z1 24 Z3) b9)])) ((((24 : Int) - 0).toNat + 1), (Vector.replicate 24 zTern), 0) ⟨trivial, h⟩ (FX rfl) ?_
 rintro ⟨m11, b9, x10⟩ ⟨hsf1, h⟩
 dsimp only at h ⊢
 cases m11 with
 | zero => cases h
 | succ m11 =>
  unfold Zco at h
  refine sq <| SR <| Md rfl <| Ac (Zn rfl rfl (vt rfl) (vk rfl)) rfl <| Nl <| Cq rfl h (fun h => ?_) (fun h => ?_)
  ·refine sk <| sq <| bk <| sq <| sq ?_
   obtain ⟨j12, hj12, j13, hj13, x14, hx14, h⟩ := bs3 h
   refine AR Zx (by kernel_rfl) <| Zq rfl <| Sd (lo [2, 16] [] rfl fun S hs hr => Z14 rfl rfl Z40 (vh hs 2 rfl rfl) (vh hs 16 rfl rfl) hj12) <| Zk Zw 3 rfl <| Zq rfl <| Sd (lo [3, 19] [] rfl fun S hs hr => Z14 rfl rfl Z2h (vh hs 3 rfl rfl) (vh hs 19 rfl rfl) hj13) <| Zk Zw 4 rfl <| SCl [18, 21] (Y19 _ _ _ hx14) Zw4 rfl <| Sd (lo [22] [] rfl fun S hs hr => Zs (A := Z19 (rd Z3 x14.1) (rd Z7 x14.2)) rfl rfl (vh hs 22 rfl rfl)) <| Sd (lo [15] [] rfl fun S hs hr => Z1h rfl rfl (vh hs 15 rfl rfl)) <| Sd (lo [15] [] rfl fun S hs hr => Z1f rfl rfl (vh hs 15 rfl rfl)) <| Sd (Z11 (us := [(8, Z2g 85 Z3 zTern)]) (ur := []) [] [] rfl fun S hs hr => Z6b rfl rfl rfl Z1d) <| Sd (Z11 (us := [(8, Z2g 85 Z3 x14.1)]) (ur := []) [8, 23] [] rfl fun S hs hr => Z68 rfl rfl Zw ((hs 8 rfl).trans rfl) (vh hs 23 rfl rfl)) <| SAs rfl <| Sn <| AW.unpackP 8 9 rfl rfl fun g15 => SR <| Md rfl <| Ac (Z15 rfl rfl (vt rfl)) rfl <| Nl <| Cq rfl h (fun h => ?_) (fun h => ?_)
   ·refine SR <| Ac (Z1e (ps := []) (x := (Vector.replicate 24 zTern)) rfl rfl rfl (by kernel_rfl) Z13 rfl) rfl <| Zh Z01 5 rfl <| Ab rfl <| Nl <| rt ?_
    cases h; exact Z25 Tryz.results140 rfl (Zz rfl (i := 5) rfl Z01) (Z4 rfl)
   ·refine sk ?_
    obtain ⟨j16, hj16, j17, hj17, j18, hj18, x19, hx19, h⟩ := bs4 h
    obtain ⟨x20, hx20, j21, hj21, h⟩ := bs2 h
    refine AR Zx (by kernel_rfl) <| Zq rfl <| Zq rfl <| Sd (lo [3, 29] [] rfl fun S hs hr => Z14 rfl rfl Z2h (vh hs 3 rfl rfl) (vh hs 29 rfl rfl) hj16) <| SFd lTern_0 Z2n rfl <| Zk Zu 4 rfl <| Zq rfl <| Sd (lo [3, 33] [] rfl fun S hs hr => Z14 rfl rfl Z2h (vh hs 3 rfl rfl) (vh hs 33 rfl rfl) hj17) <| SFd lTern_1 Z27 rfl <| Zk Zu 4 rfl <| Zq rfl <| Sd (lo [2, 37] [] rfl fun S hs hr => Z14 rfl rfl Z40 (vh hs 2 rfl rfl) (vh hs 37 rfl rfl) hj18) <| SFd lTern_1 Z27 rfl <| Zk Zu 3 rfl <| SCl [36, 40] (Y2d _ _ _ hx19) Zxi rfl <| Sd (lo [32, 41] [] rfl fun S hs hr => opb (⟨(Vector.get x2 j16).Value, x19⟩ : Tern) Z1d rfl Z3v (pc Z59 (vh hs 32 rfl rfl) <| pc Z4k (vh hs 41 rfl rfl) <| pn rfl)) <| SCl [42] (Zlc _ _ hx20) Zi4 rfl <| Sd (lo [6, 28] [] rfl fun S hs hr => Z14 rfl rfl Z2h (vh hs 6 rfl rfl) (vh hs 28 rfl rfl) hj21) <| SSt Zw 7 rfl <| Sn <| Rg <| Md rfl <| Ac (Z06 rfl rfl (vt rfl) (vk rfl)) rfl <| As rfl <| Nl ?_
    exact ⟨(_, _, _), Nat.lt_succ_self _, ⟨trivial, h⟩, FX rfl⟩
  ·refine xt <| SR <| Ld Z01 7 rfl <| Zh Z01 5 rfl <| Ab rfl <| Nl <| rt ?_
   cases h; exact Z25 Tryz.results140 rfl (Zz rfl (i := 5) rfl Z01) (Z4 rfl)
def Zbz (a1 : Z9) (b2 : Z9) : Nat → Z9 → Int → Option (Z9 × Bool)
 | 0, _, _ => none
 | m11 + 1, b9, x10 => (bif (decide (x10 < 24)) then (chk 24 x10).bind fun j12 => (chk 24 x10).bind fun j13 => (Zh2 (Vector.get a1 j12) (Vector.get b2 j13)).bind fun x14 => (bif (!x14.2) then some ((Vector.replicate 24 zTern), false) else (chk 24 x10).bind fun j16 => (Zbz a1 b2 m11) (Vector.set b9 j16.1 x14.1 j16.2) (IntKind.i64.wrap (x10 + 1))) else some (b9, true))
def Zeq (a1 : Z9) (b2 : Z9) : Option (Z9 × Bool) :=
 Zbz a1 b2 (((24 : Int) - 0).toNat + 1) (Vector.replicate 24 zTern) 0
theorem Y0p : Q2 Tryz.prog 142 (rd (Z1 24 Z3)) (rd (Z1 24 Z3)) (fun r => Z19 (rd (Z1 24 Z3) r.1) (rd Z7 r.2)) Zeq := fun a1 b2 r h => I0 Tryz.func142 rfl Tryz.ntmps142 rfl fun w H => by
 unfold Zeq at h
 refine SR <| Cv rfl (Zl 3 rfl rfl (vt rfl)) fun g3 => Cv rfl (Zl 4 rfl rfl (vt rfl)) fun g4 => Cv rfl (Zp 5 rfl rfl Z13) fun g5 => Ab rfl <| Nl <| SR <| Ac (Z1e (ps := []) (x := (Vector.replicate 24 zTern)) rfl rfl rfl (by kernel_rfl) Z13 rfl) rfl <| Cv rfl (Zp 7 rfl rfl Z13) fun g6 => Zh Z01 7 rfl <| Nl <| sq <| SR <| Ak rfl <| Nl <| bk <| LG (d := []) (ν := Nat × Z9 × Int) (fun (m11, b9, x10) => (True ∧ Zbz a1 b2 m11 b9 x10 = some r, m11, [(2, Zb g3 (Lens.id (Z1 24 Z3))), (3, Zb g4 (Lens.id (Z1 24 Z3))), (4, Zb g5 (Lens.id (Z1 24 Z3))), (6, Zb g6 (Lens.id (Z1 24 Z3))), (7, rd (Z0 .i64) x10)], [(3, Ze g3 87 (Z1 24 Z3) a1), (4, Ze g4 87 (Z1 24 Z3) b2), (5, Ze g5 87 (Z1 24 Z3) (Vector.replicate 24 zTern)), (7, Ze g6 87 (Z1 24 Z3) b9)])) ((((24 : Int) - 0).toNat + 1), (Vector.replicate 24 zTern), 0) ⟨trivial, h⟩ (FX rfl) ?_
 rintro ⟨m11, b9, x10⟩ ⟨hsf1, h⟩
 dsimp only at h ⊢
 cases m11 with
 | zero => cases h
 | succ m11 =>
  unfold Zbz at h
  refine sq <| SR <| Md rfl <| Ac (Zn rfl rfl (vt rfl) (vk rfl)) rfl <| Nl <| Cq rfl h (fun h => ?_) (fun h => ?_)
  ·refine sk <| sq <| bk <| sq ?_
   obtain ⟨j12, hj12, j13, hj13, x14, hx14, h⟩ := bs3 h
   refine AR Zx (by kernel_rfl) <| Zq rfl <| Sd (lo [2, 16] [] rfl fun S hs hr => Z14 rfl rfl Z2h (vh hs 2 rfl rfl) (vh hs 16 rfl rfl) hj12) <| Zk Zw 3 rfl <| Zq rfl <| Sd (lo [3, 19] [] rfl fun S hs hr => Z14 rfl rfl Z2h (vh hs 3 rfl rfl) (vh hs 19 rfl rfl) hj13) <| Zk Zw 4 rfl <| SCl [18, 21] (Y19 _ _ _ hx14) Zw4 rfl <| Sd (lo [22] [] rfl fun S hs hr => Zs (A := Z19 (rd Z3 x14.1) (rd Z7 x14.2)) rfl rfl (vh hs 22 rfl rfl)) <| Sd (lo [15] [] rfl fun S hs hr => Z1h rfl rfl (vh hs 15 rfl rfl)) <| Sd (lo [15] [] rfl fun S hs hr => Z1f rfl rfl (vh hs 15 rfl rfl)) <| Sd (Z11 (us := [(8, Z2g 85 Z3 zTern)]) (ur := []) [] [] rfl fun S hs hr => Z6b rfl rfl rfl Z1d) <| Sd (Z11 (us := [(8, Z2g 85 Z3 x14.1)]) (ur := []) [8, 23] [] rfl fun S hs hr => Z68 rfl rfl Zw ((hs 8 rfl).trans rfl) (vh hs 23 rfl rfl)) <| SAs rfl <| Sn <| AW.unpackP 8 9 rfl rfl fun g15 => sq <| SR <| Md rfl <| Ac (Z15 rfl rfl (vt rfl)) rfl <| Nl <| Cq rfl h (fun h => ?_) (fun h => ?_)
   ·refine SR <| Ac (Z1e (ps := []) (x := (Vector.replicate 24 zTern)) rfl rfl rfl (by kernel_rfl) Z13 rfl) rfl <| Zh Z01 5 rfl <| Ab rfl <| Nl <| rt ?_
    cases h; exact Z25 Tryz.results142 rfl (Zz rfl (i := 5) rfl Z01) (Z4 rfl)
   ·refine sk ?_
    obtain ⟨j16, hj16, h⟩ := Za h
    refine Rg <| Md rfl <| Ld Zw 9 rfl <| Ac (Z14 rfl rfl Z2h (vt rfl) (vt rfl) hj16) rfl <| Zh Zw 7 rfl <| Nl <| Rg <| Md rfl <| Ac (Z06 rfl rfl (vt rfl) (vk rfl)) rfl <| As rfl <| Nl ?_
    exact ⟨(_, _, _), Nat.lt_succ_self _, ⟨trivial, h⟩, FX rfl⟩
  ·refine xt <| SR <| Ld Z01 7 rfl <| Zh Z01 5 rfl <| Ab rfl <| Nl <| rt ?_
   cases h; exact Z25 Tryz.results142 rfl (Zz rfl (i := 5) rfl Z01) (Z4 rfl)
def Zgg (l1 : (List Inst)) (k2 : Int) : Nat → Int → Option (Inst × Bool)
 | 0, _ => none
 | m6 + 1, i5 => (bif (decide (i5 < (l1.length : Int))) then (lget l1 i5).bind fun x7 => (bif (decide (x7.Kind = k2)) then (lget l1 i5).bind fun x8 => some (x8, true) else (Zgg l1 k2 m6) (IntKind.i64.wrap (i5 + 1))) else some ((⟨0, 0, Z09, Z09, []⟩ : Inst), false))
def Z96 (l1 : (List Inst)) (k2 : Int) : Option (Inst × Bool) :=
 Zgg l1 k2 ((((l1.length : Int) : Int) - 0).toNat + 1) 0
theorem Zkx : Q2 Tryz.prog 151 (rd (Z2 Z1a)) (rd (Z0 .i64)) (fun r => Z19 (rd Z1a r.1) (rd Z7 r.2)) Z96 := fun l1 k2 r h => I0 Tryz.func151 rfl Tryz.ntmps151 rfl fun w H => by
 unfold Z96 at h
 refine SR <| Cv rfl (Zp 5 rfl rfl Z3t) fun g3 => Ab rfl <| Nl <| sq <| SR <| Ak rfl <| Nl <| bk <| LG (d := []) (ν := Nat × Int) (fun (m6, i5) => (True ∧ Zgg l1 k2 m6 i5 = some r, m6, [(0, rd (Z2 Z1a) l1), (1, rd (Z0 .i64) k2), (4, Zb g3 (Lens.id Z1a)), (6, rd (Z0 .i64) i5)], [(5, Ze g3 124 Z1a Ztp)])) (((((l1.length : Int) : Int) - 0).toNat + 1), 0) ⟨trivial, h⟩ (FX rfl) ?_
 rintro ⟨m6, i5⟩ ⟨hsf1, h⟩
 dsimp only at h ⊢
 cases m6 with
 | zero => cases h
 | succ m6 =>
  unfold Zgg at h
  refine sq <| SR <| Md rfl <| Md rfl <| Ac (Z0x rfl rfl Zc6 (vt rfl)) rfl <| Ac (Zn rfl rfl (vt rfl) (vt rfl)) rfl <| Nl <| Cq rfl h (fun h => ?_) (fun h => ?_)
  ·refine sk <| sq <| bk <| sq ?_
   obtain ⟨x7, hx7, h⟩ := Za h
   refine Rg <| Md rfl <| Md rfl <| Ac (Z0q rfl rfl Zc6 (vt rfl) (vt rfl) hx7) rfl <| Fp Zrv Zww rfl <| Lp1 Zt rfl <| Md rfl <| Ac (Z0m rfl rfl (vt rfl) (vt rfl)) rfl <| Nl <| Cq rfl h (fun h => ?_) (fun h => ?_)
   ·refine sq ?_
    obtain ⟨x8, hx8, h⟩ := Za h
    refine Rg <| Md rfl <| Md rfl <| Ac (Z0q rfl rfl Zc6 (vt rfl) (vt rfl) hx8) rfl <| Lp1 Z2k rfl <| Zh Z2k 5 rfl <| Ab rfl <| Nl <| rt ?_
    cases h; exact Z25 Tryz.results151 rfl (Zz rfl (i := 5) rfl Z2k) (Z4 rfl)
   ·refine sk <| Rg <| Md rfl <| Ac (Z06 rfl rfl (vt rfl) (vk rfl)) rfl <| As rfl <| Nl ?_
    exact ⟨(_, _), Nat.lt_succ_self _, ⟨trivial, h⟩, FX rfl⟩
  ·refine xt <| SR <| Ac (opb (⟨0, 0, Z09, Z09, []⟩ : Inst) Z3t rfl Y0m (pn rfl)) rfl <| Zh Z2k 5 rfl <| Ab rfl <| Nl <| rt ?_
   cases h; exact Z25 Tryz.results151 rfl (Zz rfl (i := 5) rfl Z2k) (Z4 rfl)
def Zds : Nat → Z9 → Int → Option Z9
 | 0, _, _ => none
 | m8 + 1, b6, x7 => (bif (decide (x7 < 24)) then (chk 24 x7).bind fun j9 => (Z95 (Vector.get b6 j9)).bind fun x10 => (chk 24 x7).bind fun j11 => (Zds m8) (Vector.set b6 j11.1 x10 j11.2) (IntKind.i64.wrap (x7 + 1)) else some b6)
def Zd7 (x1 : Z9) : Option Z9 :=
 Zds (((24 : Int) - 0).toNat + 1) x1 0
theorem Zsf : Q1 Tryz.prog 145 (rd (Z1 24 Z3)) (rd (Z1 24 Z3)) Zd7 := fun x1 r h => I0 Tryz.func145 rfl Tryz.ntmps145 rfl fun w H => by
 unfold Zd7 at h
 refine SR <| Cv rfl (Zl 2 rfl rfl (vt rfl)) fun g2 => Cv rfl (Zp 3 rfl rfl Z3f) fun g3 => Nl <| sq <| SR <| Ak rfl <| Nl <| bk <| LG (d := []) (ν := Nat × Z9 × Int) (fun (m8, b6, x7) => (True ∧ Zds m8 b6 x7 = some r, m8, [(1, Zb g2 (Lens.id (Z1 24 Z3))), (2, Zb g3 (Lens.id (Z1 24 Z3))), (3, rd (Z0 .i64) x7)], [(2, Ze g2 101 (Z1 24 Z3) b6), (3, Ze g3 101 (Z1 24 Z3) (Vector.replicate 24 zTern))])) ((((24 : Int) - 0).toNat + 1), x1, 0) ⟨trivial, h⟩ (FX rfl) ?_
 rintro ⟨m8, b6, x7⟩ ⟨hsf1, h⟩
 dsimp only at h ⊢
 cases m8 with
 | zero => cases h
 | succ m8 =>
  unfold Zds at h
  refine sq <| SR <| Md rfl <| Ac (Zn rfl rfl (vt rfl) (vk rfl)) rfl <| Nl <| Cq rfl h (fun h => ?_) (fun h => ?_)
  ·refine sk <| sq <| bk ?_
   obtain ⟨j9, hj9, x10, hx10, j11, hj11, h⟩ := bs3 h
   refine Rg <| Md rfl <| Md rfl <| Ac (Z14 rfl rfl Z40 (vt rfl) (vt rfl) hj9) rfl <| Ld Zw 2 rfl <| Cl [11] (Zlc _ _ hx10) Zi4 rfl <| Ac (Z14 rfl rfl Z40 (vt rfl) (vt rfl) hj11) rfl <| Zh Zw 2 rfl <| Nl <| Rg <| Md rfl <| Ac (Z06 rfl rfl (vt rfl) (vk rfl)) rfl <| As rfl <| Nl ?_
   exact ⟨(_, _, _), Nat.lt_succ_self _, ⟨trivial, h⟩, FX rfl⟩
  ·refine xt <| SR <| Ld Z02 2 rfl <| Zh Z02 3 rfl <| Nl <| rt ?_
   cases h; exact Zg Tryz.results145 rfl (Zz rfl (i := 3) rfl Z02)
def Zcs (x7 : Z9) : Nat → Z9 → Int → Option Z9
 | 0, _, _ => none
 | m12 + 1, b10, x11 => (bif (decide (x11 < 24)) then (chk 24 x11).bind fun j13 => (chk 24 x11).bind fun j14 => (Zih ((Vector.get b10 j13).Value) ((Vector.get x7 j14).Mask)).bind fun x15 => (chk 24 x11).bind fun j16 => (Zb1 x15 ((Vector.get x7 j16).Value)).bind fun x17 => (chk 24 x11).bind fun j18 => (chk 24 x11).bind fun j19 => (Zb1 ((Vector.get b10 j18).Mask) ((Vector.get x7 j19).Mask)).bind fun x20 => (chk 24 x11).bind fun j21 => (Zcs x7 m12) (Vector.set b10 j21.1 (⟨x17, x20⟩ : Tern) j21.2) (IntKind.i64.wrap (x11 + 1)) else some b10)
def Zf1 (a1 : Z9) (b2 : Z9) : Option Z9 :=
 (Zd7 a1).bind fun x6 => (Zd7 b2).bind fun x7 => Zcs x7 (((24 : Int) - 0).toNat + 1) x6 0
theorem Zy4 : Q2 Tryz.prog 226 (rd (Z1 24 Z3)) (rd (Z1 24 Z3)) (rd (Z1 24 Z3)) Zf1 := fun a1 b2 r h => I0 Tryz.func226 rfl Tryz.ntmps226 rfl fun w H => by
 unfold Zf1 at h
 refine SR <| Cv rfl (Zl 3 rfl rfl (vt rfl)) fun g3 => Cv rfl (Zl 4 rfl rfl (vt rfl)) fun g4 => Cv rfl (Zp 5 rfl rfl Z3f) fun g5 => Nl <| sq ?_
 obtain ⟨x6, hx6, x7, hx7, h⟩ := bs2 h
 refine AR Zx (by kernel_rfl) <| Zk Z02 3 rfl <| SCl [6] (Zsf _ _ hx6) Zua rfl <| Zk Z02 4 rfl <| SCl [8] (Zsf _ _ hx7) Zua rfl <| SSt Z02 3 rfl <| SSt Z02 4 rfl <| Sn <| sq <| SR <| Ak rfl <| Nl <| bk <| LG (d := []) (ν := Nat × Z9 × Int) (fun (m12, b10, x11) => (True ∧ Zcs x7 m12 b10 x11 = some r, m12, [(2, Zb g3 (Lens.id (Z1 24 Z3))), (3, Zb g4 (Lens.id (Z1 24 Z3))), (4, Zb g5 (Lens.id (Z1 24 Z3))), (5, rd (Z0 .i64) x11)], [(3, Ze g3 101 (Z1 24 Z3) b10), (4, Ze g4 101 (Z1 24 Z3) x7), (5, Ze g5 101 (Z1 24 Z3) (Vector.replicate 24 zTern))])) ((((24 : Int) - 0).toNat + 1), x6, 0) ⟨trivial, h⟩ (FX rfl) ?_
 rintro ⟨m12, b10, x11⟩ ⟨hsf1, h⟩
 dsimp only at h ⊢
 cases m12 with
 | zero => cases h
 | succ m12 =>
  unfold Zcs at h
  refine sq <| SR <| Md rfl <| Ac (Zn rfl rfl (vt rfl) (vk rfl)) rfl <| Nl <| Cq rfl h (fun h => ?_) (fun h => ?_)
  ·refine sk <| sq <| bk ?_
   obtain ⟨j13, hj13, j14, hj14, x15, hx15, j16, hj16, h⟩ := bs4 h
   obtain ⟨x17, hx17, j18, hj18, j19, hj19, x20, hx20, h⟩ := bs4 h
   obtain ⟨j21, hj21, h⟩ := Za h
   refine AR Zx (by kernel_rfl) <| Zq rfl <| Zq rfl <| Sd (lo [2, 15] [] rfl fun S hs hr => Z14 rfl rfl Z40 (vh hs 2 rfl rfl) (vh hs 15 rfl rfl) hj13) <| SFd lTern_0 Z2n rfl <| Zk Zu 3 rfl <| Zq rfl <| Sd (lo [3, 19] [] rfl fun S hs hr => Z14 rfl rfl Z40 (vh hs 3 rfl rfl) (vh hs 19 rfl rfl) hj14) <| SFd lTern_1 Z27 rfl <| Zk Zu 4 rfl <| SCl [18, 22] (Y2d _ _ _ hx15) Zxi rfl <| Zq rfl <| Sd (lo [3, 24] [] rfl fun S hs hr => Z14 rfl rfl Z40 (vh hs 3 rfl rfl) (vh hs 24 rfl rfl) hj16) <| SFd lTern_0 Z2n rfl <| Zk Zu 4 rfl <| SCl [23, 27] (Zll _ _ _ hx17) Zjp rfl <| Zq rfl <| Sd (lo [2, 29] [] rfl fun S hs hr => Z14 rfl rfl Z40 (vh hs 2 rfl rfl) (vh hs 29 rfl rfl) hj18) <| SFd lTern_1 Z27 rfl <| Zk Zu 3 rfl <| Zq rfl <| Sd (lo [3, 33] [] rfl fun S hs hr => Z14 rfl rfl Z40 (vh hs 3 rfl rfl) (vh hs 33 rfl rfl) hj19) <| SFd lTern_1 Z27 rfl <| Zk Zu 4 rfl <| SCl [32, 36] (Zll _ _ _ hx20) Zjp rfl <| Sd (lo [28, 37] [] rfl fun S hs hr => opb (⟨x17, x20⟩ : Tern) Z1d rfl Z3v (pc Z59 (vh hs 28 rfl rfl) <| pc Z4k (vh hs 37 rfl rfl) <| pn rfl)) <| Sd (lo [2, 14] [] rfl fun S hs hr => Z14 rfl rfl Z40 (vh hs 2 rfl rfl) (vh hs 14 rfl rfl) hj21) <| SSt Zw 3 rfl <| Sn <| Rg <| Md rfl <| Ac (Z06 rfl rfl (vt rfl) (vk rfl)) rfl <| As rfl <| Nl ?_
   exact ⟨(_, _, _), Nat.lt_succ_self _, ⟨trivial, h⟩, FX rfl⟩
  ·refine xt <| SR <| Ld Z02 3 rfl <| Zh Z02 5 rfl <| Nl <| rt ?_
   cases h; exact Zg Tryz.results226 rfl (Zz rfl (i := 5) rfl Z02)
end Go.Proofs.YtknpgojdkobgjaaGreat.W
set_option maxRecDepth 4000
namespace Go.Proofs.YtknpgojdkobgjaaGreat.W
open Go Go.Wb
theorem Zz9 : Ent Tryz.prog 226 := Ent.mk Tryz.func226 rfl rfl
theorem e80 : Ent Tryz.prog 80 := Ent.mk Tryz.func80 rfl rfl
theorem Zlh : Ent Tryz.prog 154 := Ent.mk Tryz.func154 rfl rfl
theorem Ybq : Ent Tryz.prog 272 := Ent.mk Tryz.func272 rfl rfl
theorem Ygy : Ent Tryz.prog 224 := Ent.mk Tryz.func224 rfl rfl
theorem Zkv : Ent Tryz.prog 227 := Ent.mk Tryz.func227 rfl rfl
theorem Yg5 : Ent Tryz.prog 228 := Ent.mk Tryz.func228 rfl rfl
theorem Yh6 : Ent Tryz.prog 139 := Ent.mk Tryz.func139 rfl rfl
theorem Ybj : Ent Tryz.prog 141 := Ent.mk Tryz.func141 rfl rfl
theorem Ydd : Ent Tryz.prog 140 := Ent.mk Tryz.func140 rfl rfl
theorem Y0w : Ent Tryz.prog 142 := Ent.mk Tryz.func142 rfl rfl
theorem Yfe : Ent Tryz.prog 143 := Ent.mk Tryz.func143 rfl rfl
def Zer (x1 : Z9) (b10 : Z9) : Option Z9 :=
 (Zf1 x1 b10).bind fun x11 => some x11
def Z9v (x1 : Z9) (x2 : Int) (x3 : Wide) (m4 : Wide) : Option Z9 :=
 (Zak x2).bind fun x12 => (bif x12 then (chk 24 x2).bind fun j13 => Zer x1 (Vector.set (Vector.replicate 24 zTern) j13.1 (⟨x3, m4⟩ : Tern) j13.2) else Zer x1 (Vector.replicate 24 zTern))
theorem Zjt : Q4 Tryz.prog 154 (rd (Z1 24 Z3)) (rd (Z0 .i64)) (rd Zd) (rd Zd) (rd (Z1 24 Z3)) Z9v := fun x1 x2 x3 m4 r h => I0 Tryz.func154 rfl Tryz.ntmps154 rfl fun w H => by
 unfold Z9v at h
 refine SR <| Cv rfl (Zl 5 rfl rfl (vt rfl)) fun g5 => Cv rfl (Zl 7 rfl rfl (vt rfl)) fun g6 => Cv rfl (Zl 8 rfl rfl (vt rfl)) fun g7 => Cv rfl (Zp 9 rfl rfl Z3f) fun g8 => Nl <| SR <| Ac (Z1e (ps := []) (x := (Vector.replicate 24 zTern)) rfl rfl rfl (by kernel_rfl) Z3f rfl) rfl <| Cv rfl (Zp 10 rfl rfl Z3f) fun g9 => Zh Z02 10 rfl <| Nl ?_
 refine JN (d := []) (ν := Z9) (fun b10 => (Zer x1 b10 = some r, [(4, Zb g5 (Lens.id (Z1 24 Z3))), (8, Zb g8 (Lens.id (Z1 24 Z3))), (9, Zb g9 (Lens.id (Z1 24 Z3)))], [(5, Ze g5 101 (Z1 24 Z3) x1), (9, Ze g8 101 (Z1 24 Z3) (Vector.replicate 24 zTern)), (10, Ze g9 101 (Z1 24 Z3) b10)])) ?hx1 ?hy1
 case hy1 =>
  intro b10 h
  dsimp only at h ⊢
  unfold Zer at h
  refine sq ?_
  obtain ⟨x11, hx11, h⟩ := Za h
  refine Rg <| Ld Z02 5 rfl <| Ld Z02 10 rfl <| Cl [18, 19] (Zy4 _ _ _ hx11) Zz9 rfl <| Zh Z02 9 rfl <| Nl <| rt ?_
  cases h; exact Zg Tryz.results154 rfl (Zz rfl (i := 9) rfl Z02)
 case hx1 =>
  refine sq ?_
  obtain ⟨x12, hx12, h⟩ := Za h
  refine Rg <| Md rfl <| Cl [11] (Zt4 _ _ hx12) Zri rfl <| Nl <| Cq rfl h (fun h => ?_) (fun h => ?_)
  ·obtain ⟨j13, hj13, h⟩ := Za h
   refine Rg <| Md rfl <| Ld Zu 7 rfl <| Ld Zu 8 rfl <| Ac (opb (⟨x3, m4⟩ : Tern) Z1d rfl Z3v (pc Z59 (vt rfl) <| pc Z4k (vt rfl) <| pn rfl)) rfl <| Ac (Z14 rfl rfl Z40 (vt rfl) (vt rfl) hj13) rfl <| Zh Zw 10 rfl <| Nl ?_
   exact ⟨_, h, FX rfl⟩
  ·refine sk ?_
   exact ⟨_, h, FX rfl⟩
def Zkn (a1 : Action) : Option Z9 :=
 (bif (decide (a1.Kind = 25)) then (Zh4 a1.Oxm).bind fun x4 => (Z8p).bind fun x6 => (Z9v x6 a1.Oxm.Field x4.Value x4.Mask).bind fun x7 => some x7 else (bif (decide (a1.Kind = 17)) then (Z8p).bind fun x8 => (Z9p 12).bind fun x9 => (Z9p 12).bind fun x10 => (Z9v x8 5 x9 x10).bind fun x11 => some x11 else (bif (decide (a1.Kind = 18)) then (Z8p).bind fun x12 => (Zah 13).bind fun x13 => (Z9v x12 5 (⟨0, 0⟩ : Wide) x13).bind fun x14 => (Zah 3).bind fun x16 => (Z9v x14 6 (⟨0, 0⟩ : Wide) x16).bind fun x17 => some x17 else (Z8p).bind fun x18 => some x18)))
theorem Yiy : Q1 Tryz.prog 272 (rd Z8) (rd (Z1 24 Z3)) Zkn := fun a1 r h => I0 Tryz.func272 rfl Tryz.ntmps272 rfl fun w H => by
 unfold Zkn at h
 refine SR <| Cv rfl (Zl 2 rfl rfl (vt rfl)) fun g2 => Cv rfl (Zp 3 rfl rfl Z3f) fun g3 => Nl <| sq <| SR <| Zj Z51 Z58 rfl <| Ld Zt 2 rfl <| Nl <| bk <| SR <| Ac (Z0m rfl rfl (vt rfl) (vk rfl)) rfl <| As rfl <| Nl <| Cq rfl h (fun h => ?_) (fun h => ?_)
 ·refine sq ?_
  obtain ⟨x4, hx4, h⟩ := Za h
  refine Rg <| Zj Z82 Z8s rfl <| Ld Zgj 2 rfl <| Cl [10] (Y11 _ _ hx4) Y29 rfl <| Cv rfl (Zp 4 rfl rfl Z1d) fun g5 => Zh Zw 4 rfl <| Nl <| sq ?_
  obtain ⟨x6, hx6, x7, hx7, h⟩ := bs2 h
  refine AR Zx (by kernel_rfl) <| SCl [] (Zl4 _ hx6) e80 rfl <| SFd Z82 Z8s rfl <| SFd Z4w Z55 rfl <| Zk Zt 2 rfl <| SFd lTern_0 Z2n rfl <| Zk Zu 4 rfl <| SFd lTern_1 Z27 rfl <| Zk Zu 4 rfl <| SCl [12, 15, 17, 19] (Zjt _ _ _ _ _ hx7) Zlh rfl <| SSt Z02 3 rfl <| Sn <| rt ?_
  cases h; exact Zg Tryz.results272 rfl (Zz rfl (i := 3) rfl Z02)
 ·refine SR <| Ac (Z0m rfl rfl (vt rfl) (vk rfl)) rfl <| As rfl <| Nl <| Cq rfl h (fun h => ?_) (fun h => ?_)
  ·refine sq ?_
   obtain ⟨x8, hx8, x9, hx9, x10, hx10, x11, hx11, h⟩ := bs4 h
   refine Rg <| Cl [] (Zl4 _ hx8) e80 rfl <| Ac (Z0r (xs := [.const (Value.int IntKind.i64 12)]) (Zo2 _ _ hx9) Znz rfl rfl ⟨vk rfl, trivial⟩) rfl <| Ac (Z0r (xs := [.const (Value.int IntKind.i64 12)]) (Zo2 _ _ hx10) Znz rfl rfl ⟨vk rfl, trivial⟩) rfl <| Ac (Z0r (xs := [.tmp 23, .const (Value.int IntKind.i64 5), .tmp 24, .tmp 25]) (Zjt _ _ _ _ _ hx11) Zlh rfl rfl ⟨vt rfl, vk rfl, vt rfl, vt rfl, trivial⟩) rfl <| Zh Z02 3 rfl <| Nl <| rt ?_
   cases h; exact Zg Tryz.results272 rfl (Zz rfl (i := 3) rfl Z02)
  ·refine SR <| Ac (Z0m rfl rfl (vt rfl) (vk rfl)) rfl <| As rfl <| Nl <| Cq rfl h (fun h => ?_) (fun h => ?_)
   ·refine sq ?_
    obtain ⟨x12, hx12, x13, hx13, x14, hx14, h⟩ := bs3 h
    refine Rg <| Cl [] (Zl4 _ hx12) e80 rfl <| Ac (opb (⟨0, 0⟩ : Wide) Z1s rfl Z3o (pn rfl)) rfl <| Ac (Z0r (xs := [.const (Value.int IntKind.i64 13)]) (Zq5 _ _ hx13) Zsh rfl rfl ⟨vk rfl, trivial⟩) rfl <| Ac (Z0r (xs := [.tmp 29, .const (Value.int IntKind.i64 5), .tmp 30, .tmp 31]) (Zjt _ _ _ _ _ hx14) Zlh rfl rfl ⟨vt rfl, vk rfl, vt rfl, vt rfl, trivial⟩) rfl <| Cv rfl (Zp 5 rfl rfl Z3f) fun g15 => Zh Z02 5 rfl <| Nl <| sq ?_
    obtain ⟨x16, hx16, x17, hx17, h⟩ := bs2 h
    refine AR Zx (by kernel_rfl) <| Zk Z02 5 rfl <| Sd (lo [] [] rfl fun S hs hr => opb (⟨0, 0⟩ : Wide) Z1s rfl Z3o (pn rfl)) <| Sd (lo [] [] rfl fun S hs hr => Z0r (xs := [.const (Value.int IntKind.i64 3)]) (Zq5 _ _ hx16) Zsh rfl rfl ⟨vk rfl, trivial⟩) <| Sd (lo [33, 34, 35] [] rfl fun S hs hr => Z0r (xs := [.tmp 33, .const (Value.int IntKind.i64 6), .tmp 34, .tmp 35]) (Zjt _ _ _ _ _ hx17) Zlh rfl rfl ⟨vt ((hs 33 rfl).trans rfl), vk rfl, vt ((hs 34 rfl).trans rfl), vt ((hs 35 rfl).trans rfl), trivial⟩) <| SSt Z02 3 rfl <| Sn <| rt ?_
    cases h; exact Zg Tryz.results272 rfl (Zz rfl (i := 3) rfl Z02)
   ·refine sk <| sq ?_
    obtain ⟨x18, hx18, h⟩ := Za h
    refine Rg <| Cl [] (Zl4 _ hx18) e80 rfl <| Zh Z02 3 rfl <| Nl <| rt ?_
    cases h; exact Zg Tryz.results272 rfl (Zz rfl (i := 3) rfl Z02)
def Zhu (l12 : (List Atom)) (go1 : Z9 → (List Atom) → Int → Option ((List Atom) × Z9)) (b11 : Z9) (i14 : Int) (b19 : Atom) : Option ((List Atom) × Z9) :=
 (Z0u l12 [b19]).bind fun l20 => go1 b11 l20 (IntKind.i64.wrap (i14 + 1))
def Z77 (a1 : (List Action)) : Nat → Z9 → (List Atom) → Int → Option ((List Atom) × Z9)
 | 0, _, _, _ => none
 | m15 + 1, b11, l12, i14 => (bif (decide (i14 < (a1.length : Int))) then (lget a1 i14).bind fun x16 => (bif (decide (x16.Kind = 0)) then (lget a1 i14).bind fun x17 => (bif (decide (((⟨b11, false, x17.Port, 0⟩ : Atom).Port) = 4294967293)) then (lget a1 i14).bind fun x22 => Zhu l12 (Z77 a1 m15) b11 i14 { (⟨b11, false, x17.Port, 0⟩ : Atom) with Max := x22.Max } else Zhu l12 (Z77 a1 m15) b11 i14 (⟨b11, false, x17.Port, 0⟩ : Atom)) else (bif (decide (x16.Kind = 22)) then (lget a1 i14).bind fun x23 => (Z0u l12 [(⟨b11, true, x23.Group, 0⟩ : Atom)]).bind fun l24 => (Z77 a1 m15) b11 l24 (IntKind.i64.wrap (i14 + 1)) else (lget a1 i14).bind fun x26 => (Zkn x26).bind fun x27 => (Zf1 b11 x27).bind fun x28 => (Z77 a1 m15) x28 l12 (IntKind.i64.wrap (i14 + 1)))) else some (l12, b11))
def Zcb (a1 : (List Action)) (x2 : Z9) : Option ((List Atom) × Z9) :=
 (Zd7 x2).bind fun x5 => Z77 a1 ((((a1.length : Int) : Int) - 0).toNat + 1) x5 [] 0
theorem Y0v : Q2 Tryz.prog 211 (rd (Z2 Z8)) (rd (Z1 24 Z3)) (fun r => Z19 (rd (Z2 Z0b) r.1) (rd (Z1 24 Z3) r.2)) Zcb := fun a1 x2 r h => I0 Tryz.func211 rfl Tryz.ntmps211 rfl fun w H => by
 unfold Zcb at h
 refine SR <| Cv rfl (Zl 4 rfl rfl (vt rfl)) fun g3 => Ac (Zy (A := rd (Z2 Z0b) []) rfl rfl Z1p) rfl <| Cv rfl (Zp 6 rfl rfl Z3f) fun g4 => Nl <| sq ?_
 obtain ⟨x5, hx5, h⟩ := Za h
 refine Rg <| Ld Z02 4 rfl <| Cl [9] (Zsf _ _ hx5) Zua rfl <| Zh Z02 4 rfl <| Nl <| SR <| Cv rfl (Z57 1001 (ps := []) (l := []) rfl rfl Z5r Z5f rfl rfl rfl rfl) fun v6 => Aw rfl <| Nl <| sq <| SR <| Ak rfl <| Nl <| bk <| LG (d := []) (ν := Nat × Z9 × (List Atom) × Int × Value) (fun (m15, b11, l12, i14, v13) => (True ∧ Z77 a1 m15 b11 l12 i14 = some r, m15, [(0, rd (Z2 Z8) a1), (3, Zb g3 (Lens.id (Z1 24 Z3))), (5, Zb g4 (Lens.id (Z1 24 Z3))), (6, Zi v13), (7, rd (Z0 .i64) i14)], [(4, Ze g3 101 (Z1 24 Z3) b11), (6, Ze g4 101 (Z1 24 Z3) (Vector.replicate 24 zTern)), (1001, Zc v13 126 Z0b l12)])) (((((a1.length : Int) : Int) - 0).toNat + 1), x5, [], 0, v6) ⟨trivial, h⟩ (FX rfl) ?_
 rintro ⟨m15, b11, l12, i14, v13⟩ ⟨hsf1, h⟩
 dsimp only at h ⊢
 cases m15 with
 | zero => cases h
 | succ m15 =>
  unfold Z77 at h
  refine sq <| SR <| Md rfl <| Md rfl <| Ac (Z0x rfl rfl Z0c (vt rfl)) rfl <| Ac (Zn rfl rfl (vt rfl) (vt rfl)) rfl <| Nl <| Cq rfl h (fun h => ?_) (fun h => ?_)
  ·refine sk <| sq <| bk <| sq ?_
   obtain ⟨x16, hx16, h⟩ := Za h
   refine Rg <| Md rfl <| Md rfl <| Ac (Z0q rfl rfl Z0c (vt rfl) (vt rfl) hx16) rfl <| Fp Z51 Z58 rfl <| Lp1 Zt rfl <| Nl <| bk <| SR <| Ac (Z0m rfl rfl (vt rfl) (vk rfl)) rfl <| As rfl <| Nl <| Cq rfl h (fun h => ?_) (fun h => ?_)
   ·refine sq ?_
    obtain ⟨x17, hx17, h⟩ := Za h
    refine AR Zx (by kernel_rfl) <| Zk Z02 4 rfl <| Zq rfl <| Zq rfl <| Sd (lo [33, 34] [] rfl fun S hs hr => Z0q rfl rfl Z0c (vh hs 33 rfl rfl) (vh hs 34 rfl rfl) hx17) <| SFp Zhw Zjb rfl <| SLp Zt rfl <| Sd (lo [32, 37] [] rfl fun S hs hr => opb (⟨b11, false, x17.Port, 0⟩ : Atom) Z5f rfl Zom (pc Zug (vh hs 32 rfl rfl) <| pc Zqb (vh hs 37 rfl rfl) <| pn rfl)) <| Sd (Z11 (us := [(8, Z2g 126 Z0b Zrj)]) (ur := []) [] [] rfl fun S hs hr => Z6b rfl rfl rfl Z5f) <| Sd (Z11 (us := [(8, Z2g 126 Z0b (⟨b11, false, x17.Port, 0⟩ : Atom))]) (ur := []) [8, 38] [] rfl fun S hs hr => Z68 rfl rfl Zcc ((hs 8 rfl).trans rfl) (vh hs 38 rfl rfl)) <| Sn <| AW.unpackP 8 9 rfl rfl fun g18 => ?_
    refine JN (d := []) (ν := Atom) (fun b19 => (Zhu l12 (Z77 a1 m15) b11 i14 b19 = some r, [(0, rd (Z2 Z8) a1), (3, Zb g3 (Lens.id (Z1 24 Z3))), (5, Zb g4 (Lens.id (Z1 24 Z3))), (6, Zi v13), (7, rd (Z0 .i64) i14), (8, Zb g18 (Lens.id Z0b))], [(4, Ze g3 101 (Z1 24 Z3) b11), (6, Ze g4 101 (Z1 24 Z3) (Vector.replicate 24 zTern)), (9, Ze g18 126 Z0b b19), (1001, Zc v13 126 Z0b l12)])) ?hx2 ?hy2
    case hy2 =>
     intro b19 h
     dsimp only at h ⊢
     unfold Zhu at h
     obtain ⟨l20, hl20, h⟩ := Za h
     refine Rg <| Mw rfl <| Ld Zcc 9 rfl <| Ac (osl Z5r Z5f rfl (vt rfl)) rfl <| Cv rfl (Z2m 1001 hl20 rfl rfl Z8m (vt rfl) rfl (vt rfl)) fun v21 => Aw rfl <| Nl <| Rg <| Md rfl <| Ac (Z06 rfl rfl (vt rfl) (vk rfl)) rfl <| As rfl <| Nl ?_
     exact ⟨(_, _, _, _, _), Nat.lt_succ_self _, ⟨trivial, h⟩, FX rfl⟩
    case hx2 =>
     refine SR <| Zj lAtom_2 Zjn rfl <| Ld Zt 9 rfl <| Ac (Z0m rfl rfl (vt rfl) (vk rfl)) rfl <| Nl <| Cq rfl h (fun h => ?_) (fun h => ?_)
     ·obtain ⟨x22, hx22, h⟩ := Za h
      refine Rg <| Md rfl <| Md rfl <| Ac (Z0q rfl rfl Z0c (vt rfl) (vt rfl) hx22) rfl <| Fp Zob Zr8 rfl <| Lp1 Zt rfl <| Zj Znw Ztw rfl <| Zh Zt 9 rfl <| Nl ?_
      exact ⟨_, h, FX rfl⟩
     ·refine sk ?_
      exact ⟨_, h, FX rfl⟩
   ·refine SR <| Ac (Z0m rfl rfl (vt rfl) (vk rfl)) rfl <| As rfl <| Nl <| Cq rfl h (fun h => ?_) (fun h => ?_)
    ·obtain ⟨x23, hx23, l24, hl24, h⟩ := bs2 h
     refine AR Zx (by kernel_rfl) <| SMw rfl <| Zk Z02 4 rfl <| Zq rfl <| Zq rfl <| Sd (lo [56, 57] [] rfl fun S hs hr => Z0q rfl rfl Z0c (vh hs 56 rfl rfl) (vh hs 57 rfl rfl) hx23) <| SFp Zpk Zr5 rfl <| SLp Zt rfl <| Sd (lo [55, 60] [] rfl fun S hs hr => opb (⟨b11, true, x23.Group, 0⟩ : Atom) Z5f rfl Zom (pc Zug (vh hs 55 rfl rfl) <| pc Yh8 vb <| pc Zqb (vh hs 60 rfl rfl) <| pn rfl)) <| Sd (lo [61] [] rfl fun S hs hr => osl Z5r Z5f rfl (vh hs 61 rfl rfl)) <| Sd (Z11 (us := [(63, Z1v 126 Z0b l24)]) (ur := [(1001, emp)]) [54, 62] [1001] rfl fun S hs hr => Z78 1001 hl24 rfl rfl rfl Z8m (vh hs 54 rfl rfl) ((hr 1001 rfl).trans rfl) (vh hs 62 rfl rfl)) <| Sd (Z11 (us := [(63, top), (6, Z1v 126 Z0b l24)]) (ur := []) [63] [1002] rfl fun S hs hr => Ziu 1002 rfl rfl rfl rfl ((hs 63 rfl).trans rfl) ((hr 1002 rfl).trans rfl)) <| Sn <| AW.unpackR 6 1001 rfl rfl fun v25 => Rg <| Md rfl <| Ac (Z06 rfl rfl (vt rfl) (vk rfl)) rfl <| As rfl <| Nl ?_
     exact ⟨(_, _, _, _, _), Nat.lt_succ_self _, ⟨trivial, h⟩, FX rfl⟩
    ·obtain ⟨x26, hx26, x27, hx27, x28, hx28, h⟩ := bs3 h
     refine AR Zx (by kernel_rfl) <| Zk Z02 4 rfl <| Zq rfl <| Zq rfl <| Sd (lo [24, 25] [] rfl fun S hs hr => Z0q rfl rfl Z0c (vh hs 24 rfl rfl) (vh hs 25 rfl rfl) hx26) <| SLp Z0s rfl <| SCl [27] (Yiy _ _ hx27) Ybq rfl <| SCl [23, 28] (Zy4 _ _ _ hx28) Zz9 rfl <| SSt Z02 4 rfl <| Sn <| Rg <| Md rfl <| Ac (Z06 rfl rfl (vt rfl) (vk rfl)) rfl <| As rfl <| Nl ?_
     exact ⟨(_, _, _, _, _), Nat.lt_succ_self _, ⟨trivial, h⟩, FX rfl⟩
  ·refine xt <| sq <| AR Zx (by kernel_rfl) <| SMw rfl <| Zk Z02 4 rfl <| Sd (lo [64] [] rfl fun S hs hr => Zy (A := Zi v13) rfl rfl (vh hs 64 rfl rfl)) <| SSt Z02 6 rfl <| Sn <| AW.freezes [4, 6, 64] 1001 rfl ⟨rfl, rfl, rfl, trivial⟩ rfl <| rt ?_
   cases h; exact Z25 Tryz.results211 rfl (Z4 rfl) (Zz rfl (i := 6) rfl Z02)
def Zkw (a1 : Action) (b2 : Action) : Option Bool :=
 some ((decide (a1.Kind = b2.Kind)) && ((decide (a1.Kind ≠ 25)) || (decide (a1.Oxm.Field = b2.Oxm.Field))))
theorem Ya1 : Q2 Tryz.prog 224 (rd Z8) (rd Z8) (rd Z7) Zkw := fun a1 b2 r h => I0 Tryz.func224 rfl Tryz.ntmps224 rfl fun w H => by
 unfold Zkw at h
 refine SR <| Cv rfl (Zl 3 rfl rfl (vt rfl)) fun g3 => Cv rfl (Zl 4 rfl rfl (vt rfl)) fun g4 => Ab rfl <| Nl <| SR <| Zj Z51 Z58 rfl <| Ld Zt 3 rfl <| Zj Z51 Z58 rfl <| Ld Zt 4 rfl <| Ac (Z0m rfl rfl (vt rfl) (vt rfl)) rfl <| Md rfl <| Gd rfl (fun hq => Z3y Z51 rfl rfl Z58 (vt rfl)) <| Gd rfl (fun hq => Z29 rfl rfl Zt (Zo rfl hq) (i := 3) rfl) <| Gd rfl (fun hq => Zbr rfl rfl (Zo rfl hq) (vk rfl)) <| AOps.consG (OpG.guardX rfl rfl rfl rfl rfl fun hq => Zs (A := rd Z7 (decide (a1.Kind ≠ 25))) rfl rfl (Zo rfl hq)) <| AOps.consG (OpG.guardN rfl rfl rfl rfl rfl fun hq => Z3y Z82 rfl rfl Z8s (vt rfl)) <| AOps.consG (OpG.guardN rfl rfl rfl rfl rfl fun hq => Z3y Z4w rfl rfl Z55 (Zo rfl hq)) <| AOps.consG (OpG.guardN rfl rfl rfl rfl rfl fun hq => Z29 rfl rfl Zt (Zo rfl hq) (i := 3) rfl) <| AOps.consG (OpG.guardN rfl rfl rfl rfl rfl fun hq => Z3y Z82 rfl rfl Z8s (vt rfl)) <| AOps.consG (OpG.guardN rfl rfl rfl rfl rfl fun hq => Z3y Z4w rfl rfl Z55 (Zo rfl hq)) <| AOps.consG (OpG.guardN rfl rfl rfl rfl rfl fun hq => Z29 rfl rfl Zt (Zo rfl hq) (i := 4) rfl) <| AOps.consG (OpG.guardN rfl rfl rfl rfl rfl fun hq => Z0m rfl rfl (Zo rfl hq) (Zo rfl hq)) <| Gd rfl (fun hq => Za0 rfl rfl (vgx rfl hq) (vgw rfl hq)) <| Ac (Z1t rfl rfl (vt rfl) (vt rfl)) rfl <| As rfl <| Nl <| rt ?_
 cases h; exact Zg Tryz.results224 rfl (Z4 rfl)
def Zdm (l9 : (List Action)) (l2 : (List Action)) (i11 : Int) (go1 : (List Action) → Int → Option (List Action)) : Nat → Int → Int → Option (List Action)
 | 0, _, _ => none
 | m17 + 1, a15, j16 => (bif (decide (j16 < (l9.length : Int))) then (opt (decide (a15 < 0)) (lget l9 j16)).bind fun x18 => (opt (decide (a15 < 0)) (lget l2 i11)).bind fun x19 => (opt (decide (a15 < 0)) (Zkw x18 x19)).bind fun x20 => (bif ((decide (a15 < 0)) && x20) then (Zdm l9 l2 i11 go1 m17) j16 (IntKind.i64.wrap (j16 + 1)) else (Zdm l9 l2 i11 go1 m17) a15 (IntKind.i64.wrap (j16 + 1))) else (bif (decide (a15 < 0)) then (lget l2 i11).bind fun x21 => (Z0u l9 [x21]).bind fun l22 => go1 l22 (IntKind.i64.wrap (i11 + 1)) else (lget l2 i11).bind fun x24 => (lget l9 a15).bind fun x25 => go1 (List.set l9 a15.toNat x24) (IntKind.i64.wrap (i11 + 1))))
def Zbx (l2 : (List Action)) : Nat → (List Action) → Int → Option (List Action)
 | 0, _, _ => none
 | m12 + 1, l9, i11 => (bif (decide (i11 < (l2.length : Int))) then Zdm l9 l2 i11 (Zbx l2 m12) ((((l9.length : Int) : Int) - 0).toNat + 1) (-1) 0 else some l9)
def Zj0 (s1 : (List Action)) (l2 : (List Action)) : Option (List Action) :=
 (Z0u [] s1).bind fun l4 => Zbx l2 ((((l2.length : Int) : Int) - 0).toNat + 1) l4 0
theorem Ybc : Q2 Tryz.prog 153 (rd (Z2 Z8)) (rd (Z2 Z8)) (rd (Z2 Z8)) Zj0 := fun s1 l2 r h => I0 Tryz.func153 rfl Tryz.ntmps153 rfl fun w H => by
 unfold Zj0 at h
 refine SR <| Ac (Zy (A := rd (Z2 Z8) []) rfl rfl Z1p) rfl <| Nl <| sq ?_
 obtain ⟨l4, hl4, h⟩ := Za h
 refine Rg <| Cv rfl (Z57 1001 (ps := []) (l := []) rfl rfl Z0c Z5v rfl rfl rfl rfl) fun v3 => Md rfl <| Cv rfl (Z2m 1001 hl4 rfl rfl Z7u (vt rfl) rfl (vt rfl)) fun v5 => Aw rfl <| Nl <| sq <| SR <| Ak rfl <| Nl <| bk <| LG (d := []) (ν := Nat × (List Action) × Int × Value) (fun (m12, l9, i11, v10) => (True ∧ Zbx l2 m12 l9 i11 = some r, m12, [(1, rd (Z2 Z8) l2), (5, Zi v10), (6, rd (Z0 .i64) i11)], [(1001, Zc v10 121 Z8 l9)])) (((((l2.length : Int) : Int) - 0).toNat + 1), l4, 0, v5) ⟨trivial, h⟩ (FX rfl) ?_
 rintro ⟨m12, l9, i11, v10⟩ ⟨hsf1, h⟩
 dsimp only at h ⊢
 cases m12 with
 | zero => cases h
 | succ m12 =>
  unfold Zbx at h
  refine sq <| SR <| Md rfl <| Md rfl <| Ac (Z0x rfl rfl Z0c (vt rfl)) rfl <| Ac (Zn rfl rfl (vt rfl) (vt rfl)) rfl <| Nl <| Cq rfl h (fun h => ?_) (fun h => ?_)
  ·refine sk <| sq <| bk <| SR <| Ak rfl <| Nl <| sq <| SR <| Ak rfl <| Nl <| bk <| LG (d := []) (ν := Nat × Int × Int) (fun (m17, a15, j16) => (True ∧ Zdm l9 l2 i11 (Zbx l2 m12) m17 a15 j16 = some r, m17, [(1, rd (Z2 Z8) l2), (5, Zi v10), (6, rd (Z0 .i64) i11), (7, rd (Z0 .i64) a15), (8, rd (Z0 .i64) j16)], [(1001, Zc v10 121 Z8 l9)])) (((((l9.length : Int) : Int) - 0).toNat + 1), (-1), 0) ⟨trivial, h⟩ (FX rfl) ?_
   rintro ⟨m17, a15, j16⟩ ⟨hsf2, h⟩
   dsimp only at h ⊢
   cases m17 with
   | zero => cases h
   | succ m17 =>
    unfold Zdm at h
    refine sq <| SR <| Md rfl <| Mw rfl <| Ac (Z6q 1001 rfl rfl Z0c (vt rfl) rfl) rfl <| Ac (Zn rfl rfl (vt rfl) (vt rfl)) rfl <| Nl <| Cq rfl h (fun h => ?_) (fun h => ?_)
    ·refine sk <| sq <| bk <| sq ?_
     obtain ⟨x18, hx18, x19, hx19, x20, hx20, h⟩ := bs3 h
     refine AR Zx (by kernel_rfl) <| Zq rfl <| Sd (lo [24] [] rfl fun S hs hr => Zn rfl rfl (vh hs 24 rfl rfl) (vk rfl)) <| Zq rfl <| Sd (lg [5, 26] [] rfl fun hq S hs hr => Zs (A := Zi v10) rfl rfl (vh hs 5 rfl rfl)) <| Sd (lg [8, 26] [] rfl fun hq S hs hr => Zs (A := rd (Z0 .i64) j16) rfl rfl (vh hs 8 rfl rfl)) <| Sd (lg [27, 28, 26] [1001] rfl fun hq S hs hr => Z21 1001 rfl rfl Z0c (Zo ((hs 27 rfl).trans rfl) hq) ((hr 1001 rfl).trans rfl) (Zo ((hs 28 rfl).trans rfl) hq) (Z28 hx18 hq)) <| Sd (lg [29, 26] [1001] rfl fun hq S hs hr => Z1i 1001 rfl rfl Z0s (Zo ((hs 29 rfl).trans rfl) hq) ((hr 1001 rfl).trans rfl) (Z0e (Z28 hx18 hq)).2) <| Sd (lg [1, 26] [] rfl fun hq S hs hr => Zs (A := rd (Z2 Z8) l2) rfl rfl (vh hs 1 rfl rfl)) <| Sd (lg [6, 26] [] rfl fun hq S hs hr => Zs (A := rd (Z0 .i64) i11) rfl rfl (vh hs 6 rfl rfl)) <| Sd (lg [31, 32, 26] [] rfl fun hq S hs hr => Z0q rfl rfl Z0c (Zo ((hs 31 rfl).trans rfl) hq) (Zo ((hs 32 rfl).trans rfl) hq) (Z28 hx19 hq)) <| Sd (lg [33, 26] [] rfl fun hq S hs hr => Zbj rfl rfl Z0s (Zo ((hs 33 rfl).trans rfl) hq)) <| Sd (lg [30, 34, 26] [] rfl fun hq S hs hr => Z0r (xs := [.tmp 30, .tmp 34]) (Ya1 _ _ _ (Z28 hx20 hq)) Ygy rfl rfl ⟨Zo ((hs 30 rfl).trans rfl) hq, Zo ((hs 34 rfl).trans rfl) hq, trivial⟩) <| Sd (lo [35, 26] [] rfl fun S hs hr => Z1t rfl rfl (vh hs 26 rfl rfl) (vh hs 35 rfl rfl)) <| Sn <| Cq rfl h (fun h => ?_) (fun h => ?_)
     ·refine Rg <| Md rfl <| As rfl <| Nl <| Rg <| Md rfl <| Ac (Z06 rfl rfl (vt rfl) (vk rfl)) rfl <| As rfl <| Nl ?_
      exact ⟨(_, _, _), Nat.lt_succ_self _, ⟨trivial, h⟩, FX rfl⟩
     ·refine sk <| Rg <| Md rfl <| Ac (Z06 rfl rfl (vt rfl) (vk rfl)) rfl <| As rfl <| Nl ?_
      exact ⟨(_, _, _), Nat.lt_succ_self _, ⟨trivial, h⟩, FX rfl⟩
    ·refine xt <| SR <| Md rfl <| Ac (Zn rfl rfl (vt rfl) (vk rfl)) rfl <| Nl <| Cq rfl h (fun h => ?_) (fun h => ?_)
     ·obtain ⟨x21, hx21, l22, hl22, h⟩ := bs2 h
      refine Rg <| Mw rfl <| Md rfl <| Md rfl <| Ac (Z0q rfl rfl Z0c (vt rfl) (vt rfl) hx21) rfl <| Lp1 Z0s rfl <| Ac (osl Z0c Z5v rfl (vt rfl)) rfl <| Cv rfl (Z2m 1001 hl22 rfl rfl Z7u (vt rfl) rfl (vt rfl)) fun v23 => Aw rfl <| Nl <| Rg <| Md rfl <| Ac (Z06 rfl rfl (vt rfl) (vk rfl)) rfl <| As rfl <| Nl ?_
      exact ⟨(_, _, _, _), Nat.lt_succ_self _, ⟨trivial, h⟩, FX rfl⟩
     ·obtain ⟨x24, hx24, x25, hx25, h⟩ := bs2 h
      refine Rg <| Mw rfl <| Md rfl <| Md rfl <| Md rfl <| Ac (Z0q rfl rfl Z0c (vt rfl) (vt rfl) hx24) rfl <| Lp1 Z0s rfl <| Ac (Z21 1001 rfl rfl Z0c (vt rfl) rfl (vt rfl) hx25) rfl <| Ac (Z2o 1001 rfl rfl Z0s (vt rfl) rfl (Z0e hx25).2 (vt rfl)) rfl <| Nl <| Rg <| Md rfl <| Ac (Z06 rfl rfl (vt rfl) (vk rfl)) rfl <| As rfl <| Nl ?_
      exact ⟨(_, _, _, _), Nat.lt_succ_self _, ⟨trivial, h⟩, FX rfl⟩
  ·refine xt <| SR <| Mw rfl <| Aw rfl <| Nl <| AW.freezes [4, 5, 54] 1001 rfl ⟨rfl, rfl, rfl, trivial⟩ rfl <| rt ?_
   cases h; exact Zg Tryz.results153 rfl (Z4 rfl)
def Zdo (l1 : (List Action)) (k2 : Int) : Nat → (List Action) → Int → Option (List Action)
 | 0, _, _ => none
 | m10 + 1, l7, i9 => (bif (decide (i9 < (l1.length : Int))) then (lget l1 i9).bind fun x11 => (bif (decide (x11.Kind = k2)) then (lget l1 i9).bind fun x12 => (Z0u l7 [x12]).bind fun l13 => (Zdo l1 k2 m10) l13 (IntKind.i64.wrap (i9 + 1)) else (Zdo l1 k2 m10) l7 (IntKind.i64.wrap (i9 + 1))) else some l7)
def Z7x (l1 : (List Action)) (k2 : Int) : Option (List Action) :=
 Zdo l1 k2 ((((l1.length : Int) : Int) - 0).toNat + 1) [] 0
theorem Y1x (l1 : (List Action)) (k2 : Int) (r : (List Action)) (h : Z7x l1 k2 = some r) : Con Tryz.prog 227 [rd (Z2 Z8) l1, rd (Z0 .i64) k2] emp (fun v => Zi v) (fun v => Zc v 121 Z8 r) := by
 refine Con.intro0 Tryz.func227 rfl Tryz.ntmps227 rfl fun w H => ?_
 unfold Z7x at h
 refine sq <| AW.newnil 1001 121 Z8 <| Rg <| Ac (Zy rfl rfl vc) rfl <| Nl <| SR <| Cv rfl (Z57 1002 (ps := []) (l := []) rfl rfl Z0c Z5v rfl rfl rfl rfl) fun v3 => Aw rfl <| Nl <| sq <| SR <| Ak rfl <| Nl <| bk <| LG (d := []) (ν := Nat × (List Action) × Int × Value) (fun (m10, l7, i9, v8) => (True ∧ Zdo l1 k2 m10 l7 i9 = some r, m10, [(0, rd (Z2 Z8) l1), (1, rd (Z0 .i64) k2), (5, Zi v8), (6, rd (Z0 .i64) i9)], [(1002, Zc v8 121 Z8 l7)])) (((((l1.length : Int) : Int) - 0).toNat + 1), [], 0, v3) ⟨trivial, h⟩ (FX rfl) ?_
 rintro ⟨m10, l7, i9, v8⟩ ⟨hsf1, h⟩
 dsimp only at h ⊢
 cases m10 with
 | zero => cases h
 | succ m10 =>
  unfold Zdo at h
  refine sq <| SR <| Md rfl <| Md rfl <| Ac (Z0x rfl rfl Z0c (vt rfl)) rfl <| Ac (Zn rfl rfl (vt rfl) (vt rfl)) rfl <| Nl <| Cq rfl h (fun h => ?_) (fun h => ?_)
  ·refine sk <| sq <| bk <| sq ?_
   obtain ⟨x11, hx11, h⟩ := Za h
   refine Rg <| Md rfl <| Md rfl <| Ac (Z0q rfl rfl Z0c (vt rfl) (vt rfl) hx11) rfl <| Fp Z51 Z58 rfl <| Lp1 Zt rfl <| Md rfl <| Ac (Z0m rfl rfl (vt rfl) (vt rfl)) rfl <| Nl <| Cq rfl h (fun h => ?_) (fun h => ?_)
   ·obtain ⟨x12, hx12, l13, hl13, h⟩ := bs2 h
    refine Rg <| Mw rfl <| Md rfl <| Md rfl <| Ac (Z0q rfl rfl Z0c (vt rfl) (vt rfl) hx12) rfl <| Lp1 Z0s rfl <| Ac (osl Z0c Z5v rfl (vt rfl)) rfl <| Cv rfl (Z2m 1002 hl13 rfl rfl Z7u (vt rfl) rfl (vt rfl)) fun v14 => Aw rfl <| Nl <| Rg <| Md rfl <| Ac (Z06 rfl rfl (vt rfl) (vk rfl)) rfl <| As rfl <| Nl ?_
    exact ⟨(_, _, _, _), Nat.lt_succ_self _, ⟨trivial, h⟩, FX rfl⟩
   ·refine sk <| Rg <| Md rfl <| Ac (Z06 rfl rfl (vt rfl) (vk rfl)) rfl <| As rfl <| Nl ?_
    exact ⟨(_, _, _, _), Nat.lt_succ_self _, ⟨trivial, h⟩, FX rfl⟩
  ·refine xt <| SR <| Mw rfl <| Aw rfl <| Nl <| rt ?_
   cases h; exact Z53 (i := 1002) Tryz.results227 rfl rfl rfl
theorem Zpu (l1 : (List Action)) (k2 : Int) (r : (List Action)) (h : Z7x l1 k2 = some r) : PCon Tryz.prog 227 [rd (Z2 Z8) l1, rd (Z0 .i64) k2] (rd (Z2 Z8) r) := PCon.of_row (Y1x l1 k2 r h)
def Zc5 (a11 : Int) (l1 : (List Action)) (i8 : Int) (go1 : (List Action) → Int → Option (List Action)) : Nat → (List Action) → Int → Option (List Action)
 | 0, _, _ => none
 | m21 + 1, l19, j20 => (bif (decide (j20 > a11)) then (lget l19 (IntKind.i64.wrap (j20 - 1))).bind fun x22 => (lget l19 j20).bind fun x23 => (Zc5 a11 l1 i8 go1 m21) (List.set l19 j20.toNat x22) (IntKind.i64.wrap (j20 - 1)) else (lget l1 i8).bind fun x24 => (lget l19 a11).bind fun x25 => go1 (List.set l19 a11.toNat x24) (IntKind.i64.wrap (i8 + 1)))
def Zea (l6 : (List Action)) (l1 : (List Action)) (i8 : Int) (go1 : (List Action) → Int → Option (List Action)) : Nat → Int → Option (List Action)
 | 0, _ => none
 | m12 + 1, a11 => (opt (decide (a11 > 0)) (lget l6 (IntKind.i64.wrap (a11 - 1)))).bind fun x13 => (opt (decide (a11 > 0)) (lget l1 i8)).bind fun x14 => (bif ((decide (a11 > 0)) && (decide (x13.Oxm.Field > x14.Oxm.Field))) then (Zea l6 l1 i8 go1 m12) (IntKind.i64.wrap (a11 - 1)) else (Z0u l6 [(⟨0, 0, 0, 0, 0, Z7i⟩ : Action)]).bind fun l15 => Zc5 a11 l1 i8 go1 ((((IntKind.i64.wrap ((l15.length : Int) - 1)) : Int) - a11).toNat + 1) l15 (IntKind.i64.wrap ((l15.length : Int) - 1)))
def Z8n (l1 : (List Action)) : Nat → (List Action) → Int → Option (List Action)
 | 0, _, _ => none
 | m9 + 1, l6, i8 => (bif (decide (i8 < (l1.length : Int))) then Zea l6 l1 i8 (Z8n l1 m9) Z0l (l6.length : Int) else some l6)
def Zlz (l1 : (List Action)) : Option (List Action) :=
 Z8n l1 ((((l1.length : Int) : Int) - 0).toNat + 1) [] 0
theorem Y7r : Q1 Tryz.prog 228 (rd (Z2 Z8)) (rd (Z2 Z8)) Zlz := fun l1 r h => I0 Tryz.func228 rfl Tryz.ntmps228 rfl fun w H => by
 unfold Zlz at h
 refine SR <| Ac (Zy (A := rd (Z2 Z8) []) rfl rfl Z1p) rfl <| Nl <| SR <| Cv rfl (Z57 1001 (ps := []) (l := []) rfl rfl Z0c Z5v rfl rfl rfl rfl) fun v2 => Aw rfl <| Nl <| sq <| SR <| Ak rfl <| Nl <| bk <| LG (d := []) (ν := Nat × (List Action) × Int × Value) (fun (m9, l6, i8, v7) => (True ∧ Z8n l1 m9 l6 i8 = some r, m9, [(0, rd (Z2 Z8) l1), (3, Zi v7), (4, rd (Z0 .i64) i8)], [(1001, Zc v7 121 Z8 l6)])) (((((l1.length : Int) : Int) - 0).toNat + 1), [], 0, v2) ⟨trivial, h⟩ (FX rfl) ?_
 rintro ⟨m9, l6, i8, v7⟩ ⟨hsf1, h⟩
 dsimp only at h ⊢
 cases m9 with
 | zero => cases h
 | succ m9 =>
  unfold Z8n at h
  refine sq <| SR <| Md rfl <| Md rfl <| Ac (Z0x rfl rfl Z0c (vt rfl)) rfl <| Ac (Zn rfl rfl (vt rfl) (vt rfl)) rfl <| Nl <| Cq rfl h (fun h => ?_) (fun h => ?_)
  ·refine sk <| sq <| bk <| SR <| Mw rfl <| Ac (Z6q 1001 rfl rfl Z0c (vt rfl) rfl) rfl <| As rfl <| Nl <| sq <| bk <| LG (d := []) (ν := Nat × Int) (fun (m12, a11) => (True ∧ Zea l6 l1 i8 (Z8n l1 m9) m12 a11 = some r, m12, [(0, rd (Z2 Z8) l1), (3, Zi v7), (4, rd (Z0 .i64) i8), (5, rd (Z0 .i64) a11)], [(1001, Zc v7 121 Z8 l6)])) (Z0l, (l6.length : Int)) ⟨trivial, h⟩ (FX rfl) ?_
   rintro ⟨m12, a11⟩ ⟨hsf2, h⟩
   dsimp only at h ⊢
   cases m12 with
   | zero => cases h
   | succ m12 =>
    unfold Zea at h
    refine sq <| sq ?_
    obtain ⟨x13, hx13, x14, hx14, h⟩ := bs2 h
    refine AR Zx (by kernel_rfl) <| Zq rfl <| Sd (lo [16] [] rfl fun S hs hr => Z3i rfl rfl (vh hs 16 rfl rfl) (vk rfl)) <| Zq rfl <| Sd (lg [3, 18] [] rfl fun hq S hs hr => Zs (A := Zi v7) rfl rfl (vh hs 3 rfl rfl)) <| Sd (lg [5, 18] [] rfl fun hq S hs hr => Zs (A := rd (Z0 .i64) a11) rfl rfl (vh hs 5 rfl rfl)) <| Sd (lg [20, 18] [] rfl fun hq S hs hr => Z0p rfl rfl (Zo ((hs 20 rfl).trans rfl) hq) (vk rfl)) <| Sd (lg [19, 21, 18] [1001] rfl fun hq S hs hr => Z21 1001 rfl rfl Z0c (Zo ((hs 19 rfl).trans rfl) hq) ((hr 1001 rfl).trans rfl) (Zo ((hs 21 rfl).trans rfl) hq) (Z28 hx13 hq)) <| Sd (lg [22, 18] [] rfl fun hq S hs hr => Zbq Z82 rfl rfl Z8s (Zo ((hs 22 rfl).trans rfl) hq)) <| Sd (lg [23, 18] [] rfl fun hq S hs hr => Zbq Z4w rfl rfl Z55 (Zo ((hs 23 rfl).trans rfl) hq)) <| Sd (lg [24, 18] [1001] rfl fun hq S hs hr => Z1i 1001 rfl rfl Zt (Zo ((hs 24 rfl).trans rfl) hq) ((hr 1001 rfl).trans rfl) (Z0e (Z28 hx13 hq)).2) <| Sd (lg [0, 18] [] rfl fun hq S hs hr => Zs (A := rd (Z2 Z8) l1) rfl rfl (vh hs 0 rfl rfl)) <| Sd (lg [4, 18] [] rfl fun hq S hs hr => Zs (A := rd (Z0 .i64) i8) rfl rfl (vh hs 4 rfl rfl)) <| Sd (lg [26, 27, 18] [] rfl fun hq S hs hr => Z0q rfl rfl Z0c (Zo ((hs 26 rfl).trans rfl) hq) (Zo ((hs 27 rfl).trans rfl) hq) (Z28 hx14 hq)) <| Sd (lg [28, 18] [] rfl fun hq S hs hr => Z8c Z82 rfl rfl Z8s (Zo ((hs 28 rfl).trans rfl) hq)) <| Sd (lg [29, 18] [] rfl fun hq S hs hr => Z8c Z4w rfl rfl Z55 (Zo ((hs 29 rfl).trans rfl) hq)) <| Sd (lg [30, 18] [] rfl fun hq S hs hr => Zbj rfl rfl Zt (Zo ((hs 30 rfl).trans rfl) hq)) <| Sd (lg [25, 31, 18] [] rfl fun hq S hs hr => Z3i rfl rfl (Zo ((hs 25 rfl).trans rfl) hq) (Zo ((hs 31 rfl).trans rfl) hq)) <| Sd (lo [32, 18] [] rfl fun S hs hr => Z1t rfl rfl (vh hs 18 rfl rfl) (vh hs 32 rfl rfl)) <| Sn <| Cq rfl h (fun h => ?_) (fun h => ?_)
    ·refine sk <| bk <| Rg <| Md rfl <| Ac (Z0p rfl rfl (vt rfl) (vk rfl)) rfl <| As rfl <| Nl ?_
     exact ⟨(_, _), Nat.lt_succ_self _, ⟨trivial, h⟩, FX rfl⟩
    ·refine xt <| sq ?_
     obtain ⟨l15, hl15, h⟩ := Za h
     refine Rg <| Mw rfl <| Ac (opb (⟨0, 0, 0, 0, 0, Z7i⟩ : Action) Z5v rfl Yhr (pn rfl)) rfl <| Ac (osl Z0c Z5v rfl (vt rfl)) rfl <| Cv rfl (Z2m 1001 hl15 rfl rfl Z7u (vt rfl) rfl (vt rfl)) fun v16 => Aw rfl <| Nl <| sq <| SR <| Mw rfl <| Ac (Z6q 1001 rfl rfl Z0c (vt rfl) rfl) rfl <| Ac (Z0p rfl rfl (vt rfl) (vk rfl)) rfl <| As rfl <| Nl <| bk <| LG (d := []) (ν := Nat × (List Action) × Int) (fun (m21, l19, j20) => (True ∧ Zc5 a11 l1 i8 (Z8n l1 m9) m21 l19 j20 = some r, m21, [(0, rd (Z2 Z8) l1), (3, Zi v16), (4, rd (Z0 .i64) i8), (5, rd (Z0 .i64) a11), (6, rd (Z0 .i64) j20)], [(1001, Zc v16 121 Z8 l19)])) (((((IntKind.i64.wrap ((l15.length : Int) - 1)) : Int) - a11).toNat + 1), l15, (IntKind.i64.wrap ((l15.length : Int) - 1))) ⟨trivial, h⟩ (FX rfl) ?_
     rintro ⟨m21, l19, j20⟩ ⟨hsf3, h⟩
     dsimp only at h ⊢
     cases m21 with
     | zero => cases h
     | succ m21 =>
      unfold Zc5 at h
      refine sq <| SR <| Md rfl <| Md rfl <| Ac (Z3i rfl rfl (vt rfl) (vt rfl)) rfl <| Nl <| Cq rfl h (fun h => ?_) (fun h => ?_)
      ·refine sk <| sq <| bk ?_
       obtain ⟨x22, hx22, x23, hx23, h⟩ := bs2 h
       refine Rg <| Mw rfl <| Md rfl <| Mw rfl <| Md rfl <| Ac (Z0p rfl rfl (vt rfl) (vk rfl)) rfl <| Ac (Z21 1001 rfl rfl Z0c (vt rfl) rfl (vt rfl) hx22) rfl <| Ac (Z1i 1001 rfl rfl Z0s (vt rfl) rfl (Z0e hx22).2) rfl <| Ac (Z21 1001 rfl rfl Z0c (vt rfl) rfl (vt rfl) hx23) rfl <| Ac (Z2o 1001 rfl rfl Z0s (vt rfl) rfl (Z0e hx23).2 (vt rfl)) rfl <| Nl <| Rg <| Md rfl <| Ac (Z0p rfl rfl (vt rfl) (vk rfl)) rfl <| As rfl <| Nl ?_
       exact ⟨(_, _, _), Nat.lt_succ_self _, ⟨trivial, h⟩, FX rfl⟩
      ·refine xt ?_
       obtain ⟨x24, hx24, x25, hx25, h⟩ := bs2 h
       refine Rg <| Mw rfl <| Md rfl <| Md rfl <| Md rfl <| Ac (Z0q rfl rfl Z0c (vt rfl) (vt rfl) hx24) rfl <| Lp1 Z0s rfl <| Ac (Z21 1001 rfl rfl Z0c (vt rfl) rfl (vt rfl) hx25) rfl <| Ac (Z2o 1001 rfl rfl Z0s (vt rfl) rfl (Z0e hx25).2 (vt rfl)) rfl <| Nl <| Rg <| Md rfl <| Ac (Z06 rfl rfl (vt rfl) (vk rfl)) rfl <| As rfl <| Nl ?_
       exact ⟨(_, _, _, _), Nat.lt_succ_self _, ⟨trivial, h⟩, FX rfl⟩
  ·refine xt <| SR <| Mw rfl <| Aw rfl <| Nl <| AW.freezes [2, 3, 63] 1001 rfl ⟨rfl, rfl, rfl, trivial⟩ rfl <| rt ?_
   cases h; exact Zg Tryz.results228 rfl (Z4 rfl)
def Zhp (s1 : (List Action)) : Option (List Action) :=
 (Z7x s1 18).bind fun x2 => (Z7x s1 17).bind fun x4 => (Z0u x2 x4).bind fun l5 => (Z7x s1 25).bind fun x7 => (Zlz x7).bind fun x8 => (Z0u l5 x8).bind fun l9 => (Z7x s1 22).bind fun x11 => (bif (decide ((x11.length : Int) > 0)) then (Z0u l9 x11).bind fun l12 => some l12 else (Z7x s1 0).bind fun x14 => (Z0u l9 x14).bind fun l15 => some l15)
theorem Y8z : Q1 Tryz.prog 155 (rd (Z2 Z8)) (rd (Z2 Z8)) Zhp := fun s1 r h => I0 Tryz.func155 rfl Tryz.ntmps155 rfl fun w H => by
 unfold Zhp at h
 refine SR <| Ac (Zy (A := rd (Z2 Z8) []) rfl rfl Z1p) rfl <| Nl <| sq ?_
 obtain ⟨x2, hx2, x4, hx4, l5, hl5, h⟩ := bs3 h
 refine Rg <| Md rfl <| Cv rfl (Z1b 1001 (xs := [.tmp 5, .const (Value.int IntKind.i64 18)]) (Y1x _ _ _ hx2) Zkv rfl rfl ⟨vt rfl, vk rfl, trivial⟩ rfl) fun v3 => Md rfl <| Ac (Z0r (xs := [.tmp 7, .const (Value.int IntKind.i64 17)]) (Zpu _ _ _ hx4) Zkv rfl rfl ⟨vt rfl, vk rfl, trivial⟩) rfl <| Cv rfl (Z2m 1001 hl5 rfl rfl Z7u (vt rfl) rfl (vt rfl)) fun v6 => Aw rfl <| Nl <| sq ?_
 obtain ⟨x7, hx7, x8, hx8, l9, hl9, h⟩ := bs3 h
 refine Rg <| Mw rfl <| Md rfl <| Ac (Z0r (xs := [.tmp 11, .const (Value.int IntKind.i64 25)]) (Zpu _ _ _ hx7) Zkv rfl rfl ⟨vt rfl, vk rfl, trivial⟩) rfl <| Cl [12] (Y7r _ _ hx8) Yg5 rfl <| Cv rfl (Z2m 1001 hl9 rfl rfl Z7u (vt rfl) rfl (vt rfl)) fun v10 => Aw rfl <| Nl <| sq <| sq ?_
 obtain ⟨x11, hx11, h⟩ := Za h
 refine Rg <| Md rfl <| Ac (Z0r (xs := [.tmp 15, .const (Value.int IntKind.i64 22)]) (Zpu _ _ _ hx11) Zkv rfl rfl ⟨vt rfl, vk rfl, trivial⟩) rfl <| As rfl <| Nl <| SR <| Md rfl <| Ac (Z0x rfl rfl Z0c (vt rfl)) rfl <| Ac (Z3i rfl rfl (vt rfl) (vk rfl)) rfl <| Nl <| Cq rfl h (fun h => ?_) (fun h => ?_)
 ·refine sq ?_
  obtain ⟨l12, hl12, h⟩ := Za h
  refine Rg <| Mw rfl <| Md rfl <| Cv rfl (Z2m 1001 hl12 rfl rfl Z7u (vt rfl) rfl (vt rfl)) fun v13 => Aw rfl <| Nl <| AW.freezes [2, 22] 1001 rfl ⟨rfl, rfl, trivial⟩ rfl <| rt ?_
  cases h; exact Zg Tryz.results155 rfl (Z4 rfl)
 ·refine sk <| sq ?_
  obtain ⟨x14, hx14, l15, hl15, h⟩ := bs2 h
  refine Rg <| Mw rfl <| Md rfl <| Ac (Z0r (xs := [.tmp 24, .const (Value.int IntKind.i64 0)]) (Zpu _ _ _ hx14) Zkv rfl rfl ⟨vt rfl, vk rfl, trivial⟩) rfl <| Cv rfl (Z2m 1001 hl15 rfl rfl Z7u (vt rfl) rfl (vt rfl)) fun v16 => Aw rfl <| Nl <| AW.freezes [2, 26] 1001 rfl ⟨rfl, rfl, trivial⟩ rfl <| rt ?_
  cases h; exact Zg Tryz.results155 rfl (Z4 rfl)
def Zb3 (x12 : (List Int)) (t2 : Int) (s1 : Switch) (x4 : Z9) (x3 : Z9) (R_r33_one : (Switch → Int → Flow → Z9 → Z9 → (List Atom) → (List Action) → Option (List Rule))) (a5 : (List Atom)) (s6 : (List Action)) : Nat → (List Rule) → Int → Option (List Rule)
 | 0, _, _ => none
 | m19 + 1, l16, i18 => (bif (decide (i18 < (x12.length : Int))) then (chk 4 t2).bind fun j20 => (lget x12 i18).bind fun x21 => (lget (Vector.get s1.Tables j20) x21).bind fun x22 => (Zln x22).bind fun x24 => (Zk0 x4 x24).bind fun x25 => (bif (!x25.2) then (Zb3 x12 t2 s1 x4 x3 R_r33_one a5 s6 m19) l16 (IntKind.i64.wrap (i18 + 1)) else (Zeq x25.1 x3).bind fun x27 => (bif x27.2 then (R_r33_one s1 t2 x22 x27.1 x4 a5 s6).bind fun x29 => (Z0u l16 x29).bind fun l30 => (Zb3 x12 t2 s1 x4 x3 R_r33_one a5 s6 m19) l30 (IntKind.i64.wrap (i18 + 1)) else (Zb3 x12 t2 s1 x4 x3 R_r33_one a5 s6 m19) l16 (IntKind.i64.wrap (i18 + 1)))) else (Z0u [] a5).bind fun l33 => (Z0u l16 [(⟨x3, l33⟩ : Rule)]).bind fun l34 => some l34)
def Zkb (R_r33_walk : (Switch → Int → Z9 → Z9 → (List Atom) → (List Action) → Option (List Rule))) (R_r33_one : (Switch → Int → Flow → Z9 → Z9 → (List Atom) → (List Action) → Option (List Rule))) (s1 : Switch) (t2 : Int) (x3 : Z9) (x4 : Z9) (a5 : (List Atom)) (s6 : (List Action)) : Option (List Rule) :=
 (chk 4 t2).bind fun j11 => (Zlg (Vector.get s1.Tables j11)).bind fun x12 => Zb3 x12 t2 s1 x4 x3 R_r33_one a5 s6 ((((x12.length : Int) : Int) - 0).toNat + 1) [] 0
theorem Y8u (R_r33_walk : (Switch → Int → Z9 → Z9 → (List Atom) → (List Action) → Option (List Rule))) (hR_r33_walk : ∀ (s1 : Switch) (t2 : Int) (x3 : Z9) (x4 : Z9) (a5 : (List Atom)) (s6 : (List Action)) (r : (List Rule)), R_r33_walk s1 t2 x3 x4 a5 s6 = some r → PCon Tryz.prog 78 [rd Z0i s1, rd (Z0 .i64) t2, rd (Z1 24 Z3) x3, rd (Z1 24 Z3) x4, rd (Z2 Z0b) a5, rd (Z2 Z8) s6] (rd (Z2 Z00) r)) (R_r33_one : (Switch → Int → Flow → Z9 → Z9 → (List Atom) → (List Action) → Option (List Rule))) (hR_r33_one : ∀ (s1 : Switch) (t2 : Int) (x3 : Flow) (x4 : Z9) (x5 : Z9) (a6 : (List Atom)) (s7 : (List Action)) (r : (List Rule)), R_r33_one s1 t2 x3 x4 x5 a6 s7 = some r → PCon Tryz.prog 143 [rd Z0i s1, rd (Z0 .i64) t2, rd Z0n x3, rd (Z1 24 Z3) x4, rd (Z1 24 Z3) x5, rd (Z2 Z0b) a6, rd (Z2 Z8) s7] (rd (Z2 Z00) r)) (s1 : Switch) (t2 : Int) (x3 : Z9) (x4 : Z9) (a5 : (List Atom)) (s6 : (List Action)) (r : (List Rule)) (h : Zkb R_r33_walk R_r33_one s1 t2 x3 x4 a5 s6 = some r) : PCon Tryz.prog 78 [rd Z0i s1, rd (Z0 .i64) t2, rd (Z1 24 Z3) x3, rd (Z1 24 Z3) x4, rd (Z2 Z0b) a5, rd (Z2 Z8) s6] (rd (Z2 Z00) r) := by
 refine PCon.of (Con.intro0 Tryz.func78 rfl Tryz.ntmps78 rfl fun w H => ?_)
 unfold Zkb at h
 refine SR <| Cv rfl (Zl 7 rfl rfl (vt rfl)) fun g7 => Cv rfl (Zl 9 rfl rfl (vt rfl)) fun g8 => Cv rfl (Zl 10 rfl rfl (vt rfl)) fun g9 => Ac (Zy (A := rd (Z2 Z00) []) rfl rfl Z1p) rfl <| Nl <| SR <| Cv rfl (Z57 1001 (ps := []) (l := []) rfl rfl Z30 Z4n rfl rfl rfl rfl) fun v10 => Aw rfl <| Nl <| sq ?_
 obtain ⟨j11, hj11, x12, hx12, h⟩ := bs2 h
 refine Rg <| Md rfl <| Zj Zav Zeh rfl <| Ac (Z14 rfl rfl Zc1 (vt rfl) (vt rfl) hj11) rfl <| Ld Z5c 7 rfl <| Cl [24] (Y81 _ _ hx12) Yh6 rfl <| As rfl <| Nl <| sq <| SR <| Ak rfl <| Nl <| bk <| LG (d := []) (ν := Nat × (List Rule) × Int × Value) (fun (m19, l16, i18, v17) => (True ∧ Zb3 x12 t2 s1 x4 x3 R_r33_one a5 s6 m19 l16 i18 = some r, m19, [(1, rd (Z0 .i64) t2), (4, rd (Z2 Z0b) a5), (5, rd (Z2 Z8) s6), (6, Zb g7 (Lens.id Z0i)), (8, Zb g8 (Lens.id (Z1 24 Z3))), (9, Zb g9 (Lens.id (Z1 24 Z3))), (13, Zi v17), (14, rd (Z2 (Z0 .i64)) x12), (15, rd (Z0 .i64) i18)], [(7, Ze g7 26 Z0i s1), (9, Ze g8 87 (Z1 24 Z3) x3), (10, Ze g9 101 (Z1 24 Z3) x4), (1001, Zc v17 90 Z00 l16)])) (((((x12.length : Int) : Int) - 0).toNat + 1), [], 0, v10) ⟨trivial, h⟩ (FX rfl) ?_
 rintro ⟨m19, l16, i18, v17⟩ ⟨hsf1, h⟩
 dsimp only at h ⊢
 cases m19 with
 | zero => cases h
 | succ m19 =>
  unfold Zb3 at h
  refine sq <| SR <| Md rfl <| Md rfl <| Ac (Z0x rfl rfl Z0y (vt rfl)) rfl <| Ac (Zn rfl rfl (vt rfl) (vt rfl)) rfl <| Nl <| Cq rfl h (fun h => ?_) (fun h => ?_)
  ·refine sk <| sq <| bk <| sq ?_
   obtain ⟨j20, hj20, x21, hx21, x22, hx22, h⟩ := bs3 h
   refine AR Zx (by kernel_rfl) <| Zq rfl <| SFd Zav Zeh rfl <| Sd (lo [33, 32] [] rfl fun S hs hr => Z14 rfl rfl Zc1 (vh hs 33 rfl rfl) (vh hs 32 rfl rfl) hj20) <| Zk Z5c 7 rfl <| Zq rfl <| Zq rfl <| Sd (lo [36, 37] [] rfl fun S hs hr => Z0q rfl rfl Z0y (vh hs 36 rfl rfl) (vh hs 37 rfl rfl) hx21) <| SLp Zt rfl <| Sd (lo [35, 39] [] rfl fun S hs hr => Z0q rfl rfl Z4q (vh hs 35 rfl rfl) (vh hs 39 rfl rfl) hx22) <| SLp Z76 rfl <| Sd (Z11 (us := [(16, Z2g 61 Z0n Zry)]) (ur := []) [] [] rfl fun S hs hr => Z6b rfl rfl rfl Zza) <| Sd (Z11 (us := [(16, Z2g 61 Z0n x22)]) (ur := []) [16, 41] [] rfl fun S hs hr => Z68 rfl rfl Z76 ((hs 16 rfl).trans rfl) (vh hs 41 rfl rfl)) <| Sn <| AW.unpackP 16 17 rfl rfl fun g23 => sq ?_
   obtain ⟨x24, hx24, x25, hx25, h⟩ := bs2 h
   refine AR Zx (by kernel_rfl) <| Zk Z02 10 rfl <| Zk Z76 17 rfl <| SCl [44] (Y6u _ _ hx24) Ybj rfl <| SCl [43, 45] (Yh3 _ _ _ hx25) Ydd rfl <| Sd (lo [46] [] rfl fun S hs hr => Zs (A := Z19 (rd (Z1 24 Z3) x25.1) (rd Z7 x25.2)) rfl rfl (vh hs 46 rfl rfl)) <| Sd (lo [42] [] rfl fun S hs hr => Z1h rfl rfl (vh hs 42 rfl rfl)) <| Sd (lo [42] [] rfl fun S hs hr => Z1f rfl rfl (vh hs 42 rfl rfl)) <| Sd (Z11 (us := [(17, Z2g 87 (Z1 24 Z3) (Vector.replicate 24 zTern))]) (ur := []) [] [] rfl fun S hs hr => Z6b rfl rfl rfl Z13) <| Sd (Z11 (us := [(17, Z2g 87 (Z1 24 Z3) x25.1)]) (ur := []) [17, 47] [] rfl fun S hs hr => Z68 rfl rfl Z01 ((hs 17 rfl).trans rfl) (vh hs 47 rfl rfl)) <| SAs rfl <| Sn <| AW.unpackP 17 18 rfl rfl fun g26 => sq <| SR <| Md rfl <| Ac (Z15 rfl rfl (vt rfl)) rfl <| Nl <| Cq rfl h (fun h => ?_) (fun h => ?_)
   ·refine xt <| Rg <| Md rfl <| Ac (Z06 rfl rfl (vt rfl) (vk rfl)) rfl <| As rfl <| Nl ?_
    exact ⟨(_, _, _, _), Nat.lt_succ_self _, ⟨trivial, h⟩, FX rfl⟩
   ·refine sk <| sq ?_
    obtain ⟨x27, hx27, h⟩ := Za h
    refine Rg <| Ld Z01 18 rfl <| Ld Z01 9 rfl <| Cl [52, 53] (Y0p _ _ _ hx27) Y0w rfl <| Mt2 rfl <| Ac (Z1h rfl rfl (vt rfl)) rfl <| Ac (Z1f rfl rfl (vt rfl)) rfl <| Cv rfl (Zp 20 rfl rfl Z13) fun g28 => Zh Z01 20 rfl <| As rfl <| Nl <| SR <| Md rfl <| Nl <| Cq rfl h (fun h => ?_) (fun h => ?_)
    ·obtain ⟨x29, hx29, l30, hl30, h⟩ := bs2 h
     refine Rg <| Mw rfl <| Ld Z5t 7 rfl <| Md rfl <| Ld Z76 17 rfl <| Ld Z01 20 rfl <| Ld Z02 10 rfl <| Md rfl <| Md rfl <| Cl [59, 60, 61, 62, 63, 64, 65] (hR_r33_one _ _ _ _ _ _ _ _ hx29) Yfe rfl <| Cv rfl (Z2m 1001 hl30 rfl rfl Zj2 (vt rfl) rfl (vt rfl)) fun v31 => Aw rfl <| Nl <| Rg <| Md rfl <| Ac (Z06 rfl rfl (vt rfl) (vk rfl)) rfl <| As rfl <| Nl ?_
     exact ⟨(_, _, _, _), Nat.lt_succ_self _, ⟨trivial, h⟩, FX rfl⟩
    ·refine sk <| Rg <| Md rfl <| Ac (Z06 rfl rfl (vt rfl) (vk rfl)) rfl <| As rfl <| Nl ?_
     exact ⟨(_, _, _, _), Nat.lt_succ_self _, ⟨trivial, h⟩, FX rfl⟩
  ·refine xt <| sq ?_
   obtain ⟨l33, hl33, l34, hl34, h⟩ := bs2 h
   refine AR Zx (by kernel_rfl) <| SMw rfl <| Zk Z01 9 rfl <| Sd (Z11 (us := [(70, Z1v 126 Z0b ([] : List Atom))]) (ur := []) [] [1003] rfl fun S hs hr => Y58 (Z57 1003 (ps := []) (l := []) rfl rfl Z5r Z5f rfl rfl rfl rfl) rfl ((hr 1003 rfl).trans rfl)) <| Zq rfl <| Sd (Z11 (us := [(70, top), (72, rd (Z2 Z0b) l33)]) (ur := []) [70, 71] [1004] rfl fun S hs hr => Ygt 1004 rfl hl33 rfl rfl rfl Z8m ((hs 70 rfl).trans rfl) ((hr 1004 rfl).trans rfl) (fun v => vtS rfl ((hs 71 rfl).trans rfl))) <| Sd (lo [69, 72] [] rfl fun S hs hr => opb (⟨x3, l33⟩ : Rule) Z4n rfl Zj7 (pc Zmd (vh hs 69 rfl rfl) <| pc Zm5 (vh hs 72 rfl rfl) <| pn rfl)) <| Sd (lo [73] [] rfl fun S hs hr => osl Z30 Z4n rfl (vh hs 73 rfl rfl)) <| Sd (Z11 (us := [(75, Z1v 90 Z00 l34)]) (ur := [(1001, emp)]) [68, 74] [1001] rfl fun S hs hr => Z78 1001 hl34 rfl rfl rfl Zj2 (vh hs 68 rfl rfl) ((hr 1001 rfl).trans rfl) (vh hs 74 rfl rfl)) <| Sd (Z11 (us := [(75, top), (12, Z1v 90 Z00 l34)]) (ur := []) [75] [1005] rfl fun S hs hr => Ziu 1005 rfl rfl rfl rfl ((hs 75 rfl).trans rfl) ((hr 1005 rfl).trans rfl)) <| Sn <| AW.unpackR 12 1001 rfl rfl fun v35 => AW.freezes [12] 1001 rfl ⟨rfl, trivial⟩ rfl <| rt ?_
   cases h; exact Zg Tryz.results78 rfl (Z4 rfl)
end Go.Proofs.YtknpgojdkobgjaaGreat.W
