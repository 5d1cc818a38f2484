/- A part of the proof. -/
import Derived.Test.YtknpgojdkobgjaaGreatG0
set_option linter.unusedVariables false
set_option maxRecDepth 4000
set_option linter.unusedSimpArgs false
namespace Go.Proofs.YtknpgojdkobgjaaGreat.W
open Go Go.Wb
theorem Zhh : Ent Tryz.prog 343 := Ent.mk Tryz.func343 rfl rfl
theorem Zev : Ent Tryz.prog 311 := Ent.mk Tryz.func311 rfl rfl
theorem Zrd : Ent Tryz.prog 335 := Ent.mk Tryz.func335 rfl rfl
theorem Zlh : Ent Tryz.prog 310 := Ent.mk Tryz.func310 rfl rfl
theorem Zou : Ent Tryz.prog 274 := Ent.mk Tryz.func274 rfl rfl
theorem Zpb : Ent Tryz.prog 213 := Ent.mk Tryz.func213 rfl rfl
theorem Y1m : Ent Tryz.prog 214 := Ent.mk Tryz.func214 rfl rfl
theorem Y1i : Ent Tryz.prog 217 := Ent.mk Tryz.func217 rfl rfl
theorem Zul : Ent Tryz.prog 215 := Ent.mk Tryz.func215 rfl rfl
theorem Zw2 : Ent Tryz.prog 219 := Ent.mk Tryz.func219 rfl rfl
theorem Zws : Ent Tryz.prog 220 := Ent.mk Tryz.func220 rfl rfl
def Zb4 (d3 : (Action → Option Bool)) : Nat → (List Action) → Int → Int → Option (List Action)
 | 0, _, _, _ => none
 | m11 + 1, l8, i9, j10 => (bif (decide (j10 < (l8.length : Int))) then (lget l8 j10).bind fun x12 => (d3 x12).bind fun x14 => (bif (!x14) then (lget l8 i9).bind fun x15 => (Zb4 d3 m11) (List.set l8 i9.toNat x12) (IntKind.i64.wrap (i9 + 1)) (IntKind.i64.wrap (j10 + 1)) else (Zb4 d3 m11) l8 i9 (IntKind.i64.wrap (j10 + 1))) else (Z6g l8 i9).bind fun s16 => (Z55 (List.take i9.toNat l8 ++ List.replicate (l8.length - i9.toNat) Zie) i9).bind fun s17 => some s17)
def Zhc (s1 : (List Action)) (d3 : (Action → Option Bool)) : Option (List Action) :=
 (Z95 s1 d3).bind fun x4 => (bif (decide (x4 = (-1))) then some s1 else Zb4 d3 ((((s1.length : Int) : Int) - (IntKind.i64.wrap (x4 + 1))).toNat + 1) s1 x4 (IntKind.i64.wrap (x4 + 1)))
theorem Y06 (v2 : Value) (s1 : (List Action)) (d3 : (Action → Option Bool)) (r : (List Action)) (h : Zhc s1 d3 = some r) : Con Tryz.prog 215 [Zf v2, fn1 Tryz.prog Z8 Z6 d3] (Ze v2 121 Z8 s1) (fun v => Zf v) (fun v => Ze v 121 Z8 r) := by
 refine Con.intro Tryz.func215 rfl Tryz.ntmps215 rfl fun w H X => ?_
 unfold Zhc at h
 refine sq <| AW.newnil 1001 121 Z8 <| Rg <| Ac (Z0i rfl rfl vc) rfl <| Nl <| sq ?_
 obtain ⟨x4, hx4, h⟩ := Z9 h
 refine Rg <| Mw rfl <| Ac (Zh (A := fn1 Tryz.prog Z8 Z6 d3) rfl rfl (vt rfl)) rfl <| Ac (Zip (xs := [.tmp 8, .tmp 9]) 0 (Zfz _ _ _ hx4) Zfm rfl rfl ⟨vL rfl rfl, vB (vt rfl), trivial⟩) rfl <| As rfl <| Nl <| sq <| SR <| Md rfl <| Ac (Z0z rfl rfl (vt rfl) (vk rfl)) rfl <| Nl <| Cq rfl h (fun h => ?_) (fun h => ?_)
 ·refine SR <| Mw rfl <| Aw rfl <| Nl <| rt ?_
  cases h; exact Z3e (i := 0) Tryz.results215 rfl rfl rfl
 ·refine sk <| sq <| SR <| Md rfl <| Ac (Z09 rfl rfl (vt rfl) (vk rfl)) rfl <| As rfl <| Nl <| bk <| LG (d := []) (ν := Nat × (List Action) × Int × Int) (fun (m11, l8, i9, j10) => (True ∧ Zb4 d3 m11 l8 i9 j10 = some r, m11, [(0, Zf v2), (1, fn1 Tryz.prog Z8 Z6 d3), (5, rd (Z0 .i64) i9), (6, rd (Z0 .i64) j10)], [(0, Ze v2 121 Z8 l8)])) (((((s1.length : Int) : Int) - (IntKind.i64.wrap (x4 + 1))).toNat + 1), s1, x4, (IntKind.i64.wrap (x4 + 1))) ⟨trivial, h⟩ (FX rfl) ?_
  rintro ⟨m11, l8, i9, j10⟩ ⟨hsf1, h⟩
  dsimp only at h ⊢
  cases m11 with
  | zero => cases h
  | succ m11 =>
   unfold Zb4 at h
   refine sq <| SR <| Md rfl <| Mw rfl <| Ac (Z6w 0 rfl rfl Z0g (vt rfl) rfl) rfl <| Ac (Zl rfl rfl (vt rfl) (vt rfl)) rfl <| Nl <| Cq rfl h (fun h => ?_) (fun h => ?_)
   ·refine sk <| sq <| bk <| sq ?_
    obtain ⟨x12, hx12, h⟩ := Z9 h
    refine Rg <| Mw rfl <| Md rfl <| Ac (Z1e 0 rfl rfl Z0g (vt rfl) rfl (vt rfl) hx12) rfl <| Ac (Z0v 0 rfl rfl Z0f (vt rfl) rfl (Z08 hx12).2) rfl <| Cv rfl (Zn 8 rfl rfl Z47) fun g13 => Zg Z0f 8 rfl <| Nl <| sq ?_
    obtain ⟨x14, hx14, h⟩ := Z9 h
    refine Rg <| Ac (Zh (A := fn1 Tryz.prog Z8 Z6 d3) rfl rfl (vt rfl)) rfl <| Ld Z0f 8 rfl <| Ac (Z5m hx14 rfl rfl (vt rfl) (vt rfl)) rfl <| Ac (Z0m rfl rfl (vt rfl)) rfl <| Nl <| Cq rfl h (fun h => ?_) (fun h => ?_)
    ·refine sq ?_
     obtain ⟨x15, hx15, h⟩ := Z9 h
     refine Rg <| Mw rfl <| Md rfl <| Ld Z0f 8 rfl <| Ac (Z1e 0 rfl rfl Z0g (vt rfl) rfl (vt rfl) hx15) rfl <| Ac (Z25 0 rfl rfl Z0f (vt rfl) rfl (Z08 hx15).2 (vt rfl)) rfl <| Nl <| Rg <| Md rfl <| Ac (Z09 rfl rfl (vt rfl) (vk rfl)) rfl <| As rfl <| Nl <| Rg <| Md rfl <| Ac (Z09 rfl rfl (vt rfl) (vk rfl)) rfl <| As rfl <| Nl ?_
     exact ⟨(_, _, _, _), Nat.lt_succ_self _, ⟨trivial, h⟩, FX rfl⟩
    ·refine sk <| Rg <| Md rfl <| Ac (Z09 rfl rfl (vt rfl) (vk rfl)) rfl <| As rfl <| Nl ?_
     exact ⟨(_, _, _, _), Nat.lt_succ_self _, ⟨trivial, h⟩, FX rfl⟩
   ·refine xt <| sq ?_
    obtain ⟨s16, hs16, h⟩ := Z9 h
    refine Rg <| Mw rfl <| Md rfl <| Ac (Zsq 0 hs16 rfl rfl Z0g (vt rfl) rfl (vt rfl)) rfl <| Ac (Zzi 0 rfl rfl Z0g Z47 rfl (vt rfl) rfl (Zj0 hs16).2.1) rfl <| Nl <| sq ?_
    obtain ⟨s17, hs17, h⟩ := Z9 h
    refine Rg <| Mw rfl <| Md rfl <| Cv rfl (Zzr 0 hs17 rfl rfl Z0g (vt rfl) rfl (vt rfl)) fun v18 => Aw rfl <| Nl <| rt ?_
    cases h; exact Z3e (i := 0) Tryz.results215 rfl rfl rfl
def Zd7 (a3 : Int) (x5 : (Action → Action → Option Int)) (go1 : (List Action) → Int → Option (List Action)) (i9 : Int) : Nat → (List Action) → Int → Option (List Action)
 | 0, _, _ => none
 | m15 + 1, l13, j14 => (opt (decide (j14 > a3)) (lget l13 j14)).bind fun x16 => (opt (decide (j14 > a3)) (lget l13 (IntKind.i64.wrap (j14 - 1)))).bind fun x17 => (opt (decide (j14 > a3)) (x5 x16 x17)).bind fun x18 => (bif ((decide (j14 > a3)) && (decide (x18 < 0))) then (lget l13 (IntKind.i64.wrap (j14 - 1))).bind fun x19 => (lget l13 j14).bind fun x20 => (lget l13 j14).bind fun x21 => (lget (List.set l13 j14.toNat x19) (IntKind.i64.wrap (j14 - 1))).bind fun x22 => (Zd7 a3 x5 go1 i9 m15) (List.set (List.set l13 j14.toNat x19) (IntKind.i64.wrap (j14 - 1)).toNat x20) (IntKind.i64.wrap (j14 - 1)) else go1 l13 (IntKind.i64.wrap (i9 + 1)))
def Z8w (b4 : Int) (a3 : Int) (x5 : (Action → Action → Option Int)) : Nat → (List Action) → Int → Option (List Action)
 | 0, _, _ => none
 | m10 + 1, l8, i9 => (bif (decide (i9 < b4)) then Zd7 a3 x5 (Z8w b4 a3 x5 m10) i9 Z2i l8 i9 else some l8)
def Zdm (d1 : (List Action)) (a3 : Int) (b4 : Int) (x5 : (Action → Action → Option Int)) : Option (List Action) :=
 Z8w b4 a3 x5 (((b4 : Int) - (IntKind.i64.wrap (a3 + 1))).toNat + 1) d1 (IntKind.i64.wrap (a3 + 1))
theorem Zjg (v2 : Value) (d1 : (List Action)) (a3 : Int) (b4 : Int) (x5 : (Action → Action → Option Int)) (r : (List Action)) (h : Zdm d1 a3 b4 x5 = some r) : Con Tryz.prog 310 [Zf v2, rd (Z0 .i64) a3, rd (Z0 .i64) b4, fn2 Tryz.prog Z8 Z8 (Z0 .i64) x5] (Ze v2 121 Z8 d1) (fun _ : Unit => top) (fun _ => Ze v2 121 Z8 r) := by
 refine Con.intro Tryz.func310 rfl Tryz.ntmps310 rfl fun w H X => ?_
 unfold Zdm at h
 refine SR <| Md rfl <| Ac (Z09 rfl rfl (vt rfl) (vk rfl)) rfl <| As rfl <| Nl <| bk <| LG (d := []) (ν := Nat × (List Action) × Int) (fun (m10, l8, i9) => (True ∧ Z8w b4 a3 x5 m10 l8 i9 = some r, m10, [(0, Zf v2), (1, rd (Z0 .i64) a3), (2, rd (Z0 .i64) b4), (3, fn2 Tryz.prog Z8 Z8 (Z0 .i64) x5), (8, rd (Z0 .i64) i9)], [(0, Ze v2 121 Z8 l8)])) ((((b4 : Int) - (IntKind.i64.wrap (a3 + 1))).toNat + 1), d1, (IntKind.i64.wrap (a3 + 1))) ⟨trivial, h⟩ (FX rfl) ?_
 rintro ⟨m10, l8, i9⟩ ⟨hsf1, h⟩
 dsimp only at h ⊢
 cases m10 with
 | zero => cases h
 | succ m10 =>
  unfold Z8w at h
  refine sq <| SR <| Md rfl <| Md rfl <| Ac (Zl rfl rfl (vt rfl) (vt rfl)) rfl <| Nl <| Cq rfl h (fun h => ?_) (fun h => ?_)
  ·refine sk <| sq <| bk <| SR <| Md rfl <| As rfl <| Nl <| bk <| LG (d := []) (ν := Nat × (List Action) × Int) (fun (m15, l13, j14) => (True ∧ Zd7 a3 x5 (Z8w b4 a3 x5 m10) i9 m15 l13 j14 = some r, m15, [(0, Zf v2), (1, rd (Z0 .i64) a3), (2, rd (Z0 .i64) b4), (3, fn2 Tryz.prog Z8 Z8 (Z0 .i64) x5), (8, rd (Z0 .i64) i9), (9, rd (Z0 .i64) j14)], [(0, Ze v2 121 Z8 l13)])) (Z2i, l8, i9) ⟨trivial, h⟩ (FX rfl) ?_
   rintro ⟨m15, l13, j14⟩ ⟨hsf2, h⟩
   dsimp only at h ⊢
   cases m15 with
   | zero => cases h
   | succ m15 =>
    unfold Zd7 at h
    refine sq <| sq ?_
    obtain ⟨x16, hx16, x17, hx17, x18, hx18, h⟩ := bs3 h
    refine AR Z01 (by kernel_rfl) <| Zq rfl <| Zq rfl <| Sd (lo [18, 19] [] rfl fun S hs hr => Z3o rfl rfl (vh hs 18 rfl rfl) (vh hs 19 rfl rfl)) <| Zq rfl <| Sd (lg [3, 21] [] rfl fun hq S hs hr => Zh (A := fn2 Tryz.prog Z8 Z8 (Z0 .i64) x5) rfl rfl (vh hs 3 rfl rfl)) <| Sd (lg [0, 21] [] rfl fun hq S hs hr => Zh (A := Zf v2) rfl rfl (vh hs 0 rfl rfl)) <| Sd (lg [9, 21] [] rfl fun hq S hs hr => Zh (A := rd (Z0 .i64) j14) rfl rfl (vh hs 9 rfl rfl)) <| Sd (lg [23, 24, 21] [0] rfl fun hq S hs hr => Z1e 0 rfl rfl Z0g (Z5 ((hs 23 rfl).trans rfl) hq) ((hr 0 rfl).trans rfl) (Z5 ((hs 24 rfl).trans rfl) hq) (Z1h hx16 hq)) <| Sd (lg [25, 21] [0] rfl fun hq S hs hr => Z0v 0 rfl rfl Z0f (Z5 ((hs 25 rfl).trans rfl) hq) ((hr 0 rfl).trans rfl) (Z08 (Z1h hx16 hq)).2) <| Sd (lg [0, 21] [] rfl fun hq S hs hr => Zh (A := Zf v2) rfl rfl (vh hs 0 rfl rfl)) <| Sd (lg [9, 21] [] rfl fun hq S hs hr => Zh (A := rd (Z0 .i64) j14) rfl rfl (vh hs 9 rfl rfl)) <| Sd (lg [28, 21] [] rfl fun hq S hs hr => Z0j rfl rfl (Z5 ((hs 28 rfl).trans rfl) hq) (vk rfl)) <| Sd (lg [27, 29, 21] [0] rfl fun hq S hs hr => Z1e 0 rfl rfl Z0g (Z5 ((hs 27 rfl).trans rfl) hq) ((hr 0 rfl).trans rfl) (Z5 ((hs 29 rfl).trans rfl) hq) (Z1h hx17 hq)) <| Sd (lg [30, 21] [0] rfl fun hq S hs hr => Z0v 0 rfl rfl Z0f (Z5 ((hs 30 rfl).trans rfl) hq) ((hr 0 rfl).trans rfl) (Z08 (Z1h hx17 hq)).2) <| Sd (lg [22, 26, 31, 21] [] rfl fun hq S hs hr => Z3c (Z1h hx18 hq) rfl rfl (Z5 ((hs 22 rfl).trans rfl) hq) (Z5 ((hs 26 rfl).trans rfl) hq) (Z5 ((hs 31 rfl).trans rfl) hq)) <| Sd (lg [32, 21] [] rfl fun hq S hs hr => Zl rfl rfl (Z5 ((hs 32 rfl).trans rfl) hq) (vk rfl)) <| Sd (lo [33, 21] [] rfl fun S hs hr => Z0p rfl rfl (vh hs 21 rfl rfl) (vh hs 33 rfl rfl)) <| Sn <| Cq rfl h (fun h => ?_) (fun h => ?_)
    ·refine sk <| sq <| bk <| AW.vlen 0 rfl fun hvl0_266 => ?_
     obtain ⟨x19, hx19, x20, hx20, x21, hx21, x22, hx22, h⟩ := bs4 h
     refine AR Z01 (by kernel_rfl) <| SMw rfl <| Zq rfl <| SMw rfl <| Zq rfl <| Sd (lo [40] [] rfl fun S hs hr => Z0j rfl rfl (vh hs 40 rfl rfl) (vk rfl)) <| SMw rfl <| Zq rfl <| Sd (lo [43] [] rfl fun S hs hr => Z0j rfl rfl (vh hs 43 rfl rfl) (vk rfl)) <| Sd (lo [42, 44] [] rfl fun S hs hr => Z11 (l := l13) hvl0_266 rfl rfl rfl Z0g (vh hs 42 rfl rfl) (vh hs 44 rfl rfl) hx19) <| Sd (lo [45] [0] rfl fun S hs hr => Z0v 0 rfl rfl Z0f (vh hs 45 rfl rfl) ((hr 0 rfl).trans rfl) (Z08 hx19).2) <| SMw rfl <| Zq rfl <| Sd (lo [47, 48] [] rfl fun S hs hr => Z11 (l := l13) hvl0_266 rfl rfl rfl Z0g (vh hs 47 rfl rfl) (vh hs 48 rfl rfl) hx20) <| Sd (lo [49] [0] rfl fun S hs hr => Z0v 0 rfl rfl Z0f (vh hs 49 rfl rfl) ((hr 0 rfl).trans rfl) (Z08 hx20).2) <| Sd (lo [37, 38] [] rfl fun S hs hr => Z11 (l := l13) hvl0_266 rfl rfl rfl Z0g (vh hs 37 rfl rfl) (vh hs 38 rfl rfl) hx21) <| Sd (Z2m [51, 46] [0] rfl fun S hs hr => Z25 0 rfl rfl Z0f (vh hs 51 rfl rfl) ((hr 0 rfl).trans rfl) (Z08 hx21).2 (vh hs 46 rfl rfl)) <| Sd (lo [39, 41] [] rfl fun S hs hr => Z11 (l := (List.set l13 j14.toNat x19)) hvl0_266 (by simp) rfl rfl Z0g (vh hs 39 rfl rfl) (vh hs 41 rfl rfl) hx22) <| Sd (Z2m [52, 50] [0] rfl fun S hs hr => Z25 0 rfl rfl Z0f (vh hs 52 rfl rfl) ((hr 0 rfl).trans rfl) (Z08 hx22).2 (vh hs 50 rfl rfl)) <| Sn <| Rg <| Md rfl <| Ac (Z0j rfl rfl (vt rfl) (vk rfl)) rfl <| As rfl <| Nl ?_
     exact ⟨(_, _, _), Nat.lt_succ_self _, ⟨trivial, h⟩, FX rfl⟩
    ·refine xt <| Rg <| Md rfl <| Ac (Z09 rfl rfl (vt rfl) (vk rfl)) rfl <| As rfl <| Nl ?_
     exact ⟨(_, _, _), Nat.lt_succ_self _, ⟨trivial, h⟩, FX rfl⟩
  ·refine xt ?_
   cases h; exact Z1l (i := 0) Tryz.results310 rfl rfl
def Zel (n5 : Int) (b4 : Int) (a3 : Int) : Nat → (List Action) → Int → Option (List Action)
 | 0, _, _ => none
 | m11 + 1, l9, i10 => (bif (decide (i10 < n5)) then (lget l9 (IntKind.i64.wrap (b4 + i10))).bind fun x12 => (lget l9 (IntKind.i64.wrap (a3 + i10))).bind fun x13 => (lget l9 (IntKind.i64.wrap (a3 + i10))).bind fun x14 => (lget (List.set l9 (IntKind.i64.wrap (a3 + i10)).toNat x12) (IntKind.i64.wrap (b4 + i10))).bind fun x15 => (Zel n5 b4 a3 m11) (List.set (List.set l9 (IntKind.i64.wrap (a3 + i10)).toNat x12) (IntKind.i64.wrap (b4 + i10)).toNat x13) (IntKind.i64.wrap (i10 + 1)) else some l9)
def Z8v (d1 : (List Action)) (a3 : Int) (b4 : Int) (n5 : Int) (x6 : (Action → Action → Option Int)) : Option (List Action) :=
 Zel n5 b4 a3 (((n5 : Int) - 0).toNat + 1) d1 0
theorem Zhg (v2 : Value) (d1 : (List Action)) (a3 : Int) (b4 : Int) (n5 : Int) (x6 : (Action → Action → Option Int)) (r : (List Action)) (h : Z8v d1 a3 b4 n5 x6 = some r) : Con Tryz.prog 343 [Zf v2, rd (Z0 .i64) a3, rd (Z0 .i64) b4, rd (Z0 .i64) n5, fn2 Tryz.prog Z8 Z8 (Z0 .i64) x6] (Ze v2 121 Z8 d1) (fun _ : Unit => top) (fun _ => Ze v2 121 Z8 r) := by
 refine Con.intro Tryz.func343 rfl Tryz.ntmps343 rfl fun w H X => ?_
 unfold Z8v at h
 refine SR <| Ak rfl <| Nl <| bk <| LG (d := []) (ν := Nat × (List Action) × Int) (fun (m11, l9, i10) => (True ∧ Zel n5 b4 a3 m11 l9 i10 = some r, m11, [(0, Zf v2), (1, rd (Z0 .i64) a3), (2, rd (Z0 .i64) b4), (3, rd (Z0 .i64) n5), (10, rd (Z0 .i64) i10)], [(0, Ze v2 121 Z8 l9)])) ((((n5 : Int) - 0).toNat + 1), d1, 0) ⟨trivial, h⟩ (FX rfl) ?_
 rintro ⟨m11, l9, i10⟩ ⟨hsf1, h⟩
 dsimp only at h ⊢
 cases m11 with
 | zero => cases h
 | succ m11 =>
  unfold Zel at h
  refine sq <| SR <| Md rfl <| Md rfl <| Ac (Zl rfl rfl (vt rfl) (vt rfl)) rfl <| Nl <| Cq rfl h (fun h => ?_) (fun h => ?_)
  ·refine sk <| sq <| bk <| AW.vlen 0 rfl fun hvl0_123 => ?_
   obtain ⟨x12, hx12, x13, hx13, x14, hx14, x15, hx15, h⟩ := bs4 h
   refine AR Z01 (by kernel_rfl) <| SMw rfl <| Zq rfl <| Zq rfl <| Sd (lo [17, 18] [] rfl fun S hs hr => Z09 rfl rfl (vh hs 17 rfl rfl) (vh hs 18 rfl rfl)) <| SMw rfl <| Zq rfl <| Zq rfl <| Sd (lo [21, 22] [] rfl fun S hs hr => Z09 rfl rfl (vh hs 21 rfl rfl) (vh hs 22 rfl rfl)) <| SMw rfl <| Zq rfl <| Zq rfl <| Sd (lo [25, 26] [] rfl fun S hs hr => Z09 rfl rfl (vh hs 25 rfl rfl) (vh hs 26 rfl rfl)) <| Sd (lo [24, 27] [] rfl fun S hs hr => Z11 (l := l9) hvl0_123 rfl rfl rfl Z0g (vh hs 24 rfl rfl) (vh hs 27 rfl rfl) hx12) <| Sd (lo [28] [0] rfl fun S hs hr => Z0v 0 rfl rfl Z0f (vh hs 28 rfl rfl) ((hr 0 rfl).trans rfl) (Z08 hx12).2) <| SMw rfl <| Zq rfl <| Zq rfl <| Sd (lo [31, 32] [] rfl fun S hs hr => Z09 rfl rfl (vh hs 31 rfl rfl) (vh hs 32 rfl rfl)) <| Sd (lo [30, 33] [] rfl fun S hs hr => Z11 (l := l9) hvl0_123 rfl rfl rfl Z0g (vh hs 30 rfl rfl) (vh hs 33 rfl rfl) hx13) <| Sd (lo [34] [0] rfl fun S hs hr => Z0v 0 rfl rfl Z0f (vh hs 34 rfl rfl) ((hr 0 rfl).trans rfl) (Z08 hx13).2) <| Sd (lo [16, 19] [] rfl fun S hs hr => Z11 (l := l9) hvl0_123 rfl rfl rfl Z0g (vh hs 16 rfl rfl) (vh hs 19 rfl rfl) hx14) <| Sd (Z2m [36, 29] [0] rfl fun S hs hr => Z25 0 rfl rfl Z0f (vh hs 36 rfl rfl) ((hr 0 rfl).trans rfl) (Z08 hx14).2 (vh hs 29 rfl rfl)) <| Sd (lo [20, 23] [] rfl fun S hs hr => Z11 (l := (List.set l9 (IntKind.i64.wrap (a3 + i10)).toNat x12)) hvl0_123 (by simp) rfl rfl Z0g (vh hs 20 rfl rfl) (vh hs 23 rfl rfl) hx15) <| Sd (Z2m [37, 35] [0] rfl fun S hs hr => Z25 0 rfl rfl Z0f (vh hs 37 rfl rfl) ((hr 0 rfl).trans rfl) (Z08 hx15).2 (vh hs 35 rfl rfl)) <| Sn <| Rg <| Md rfl <| Ac (Z09 rfl rfl (vt rfl) (vk rfl)) rfl <| As rfl <| Nl ?_
   exact ⟨(_, _, _), Nat.lt_succ_self _, ⟨trivial, h⟩, FX rfl⟩
  ·refine xt ?_
   cases h; exact Z1l (i := 0) Tryz.results343 rfl rfl
def Z9b (m4 : Int) (x6 : (Action → Action → Option Int)) : Nat → (List Action) → Int → Int → Option (List Action)
 | 0, _, _, _ => none
 | m13 + 1, l10, i11, j12 => (bif (decide (i11 ≠ j12)) then (bif (decide (i11 > j12)) then (Z8v l10 (IntKind.i64.wrap (m4 - i11)) m4 j12 x6).bind fun l14 => (Z9b m4 x6 m13) l14 (IntKind.i64.wrap (i11 - j12)) j12 else (Z8v l10 (IntKind.i64.wrap (m4 - i11)) (IntKind.i64.wrap ((IntKind.i64.wrap (m4 + j12)) - i11)) i11 x6).bind fun l15 => (Z9b m4 x6 m13) l15 i11 (IntKind.i64.wrap (j12 - i11))) else (Z8v l10 (IntKind.i64.wrap (m4 - i11)) m4 i11 x6).bind fun l16 => some l16)
def Zhr (d1 : (List Action)) (a3 : Int) (m4 : Int) (b5 : Int) (x6 : (Action → Action → Option Int)) : Option (List Action) :=
 Z9b m4 x6 Z2i d1 (IntKind.i64.wrap (m4 - a3)) (IntKind.i64.wrap (b5 - m4))
theorem Zye (v2 : Value) (d1 : (List Action)) (a3 : Int) (m4 : Int) (b5 : Int) (x6 : (Action → Action → Option Int)) (r : (List Action)) (h : Zhr d1 a3 m4 b5 x6 = some r) : Con Tryz.prog 335 [Zf v2, rd (Z0 .i64) a3, rd (Z0 .i64) m4, rd (Z0 .i64) b5, fn2 Tryz.prog Z8 Z8 (Z0 .i64) x6] (Ze v2 121 Z8 d1) (fun _ : Unit => top) (fun _ => Ze v2 121 Z8 r) := by
 refine Con.intro Tryz.func335 rfl Tryz.ntmps335 rfl fun w H X => ?_
 unfold Zhr at h
 refine SR <| Md rfl <| Md rfl <| Ac (Z0j rfl rfl (vt rfl) (vt rfl)) rfl <| As rfl <| Nl <| SR <| Md rfl <| Md rfl <| Ac (Z0j rfl rfl (vt rfl) (vt rfl)) rfl <| As rfl <| Nl <| sq <| bk <| LG (d := []) (ν := Nat × (List Action) × Int × Int) (fun (m13, l10, i11, j12) => (True ∧ Z9b m4 x6 m13 l10 i11 j12 = some r, m13, [(0, Zf v2), (2, rd (Z0 .i64) m4), (4, fn2 Tryz.prog Z8 Z8 (Z0 .i64) x6), (10, rd (Z0 .i64) i11), (11, rd (Z0 .i64) j12)], [(0, Ze v2 121 Z8 l10)])) (Z2i, d1, (IntKind.i64.wrap (m4 - a3)), (IntKind.i64.wrap (b5 - m4))) ⟨trivial, h⟩ (FX rfl) ?_
 rintro ⟨m13, l10, i11, j12⟩ ⟨hsf1, h⟩
 dsimp only at h ⊢
 cases m13 with
 | zero => cases h
 | succ m13 =>
  unfold Z9b at h
  refine sq <| SR <| Md rfl <| Md rfl <| Ac (Z24 rfl rfl (vt rfl) (vt rfl)) rfl <| Nl <| Cq rfl h (fun h => ?_) (fun h => ?_)
  ·refine sk <| bk <| SR <| Md rfl <| Md rfl <| Ac (Z3o rfl rfl (vt rfl) (vt rfl)) rfl <| Nl <| Cq rfl h (fun h => ?_) (fun h => ?_)
   ·refine sq ?_
    obtain ⟨l14, hl14, h⟩ := Z9 h
    refine Rg <| Mw rfl <| Md rfl <| Md rfl <| Ac (Z0j rfl rfl (vt rfl) (vt rfl)) rfl <| Md rfl <| Md rfl <| Ac (Zh (A := fn2 Tryz.prog Z8 Z8 (Z0 .i64) x6) rfl rfl (vt rfl)) rfl <| Cv rfl (Z0u 0 (xs := [.tmp 24, .tmp 27, .tmp 28, .tmp 29, .tmp 30]) (Zhg _ _ _ _ _ _ _ hl14) Zhh rfl rfl ⟨vt rfl, vt rfl, vt rfl, vt rfl, vt rfl, trivial⟩ rfl) fun _u => Nl <| Rg <| Md rfl <| Md rfl <| Ac (Z0j rfl rfl (vt rfl) (vt rfl)) rfl <| As rfl <| Nl ?_
    exact ⟨(_, _, _, _), Nat.lt_succ_self _, ⟨trivial, h⟩, FX rfl⟩
   ·refine sq ?_
    obtain ⟨l15, hl15, h⟩ := Z9 h
    refine Rg <| Mw rfl <| Md rfl <| Md rfl <| Ac (Z0j rfl rfl (vt rfl) (vt rfl)) rfl <| Md rfl <| Md rfl <| Ac (Z09 rfl rfl (vt rfl) (vt rfl)) rfl <| Md rfl <| Ac (Z0j rfl rfl (vt rfl) (vt rfl)) rfl <| Md rfl <| Ac (Zh (A := fn2 Tryz.prog Z8 Z8 (Z0 .i64) x6) rfl rfl (vt rfl)) rfl <| Cv rfl (Z0u 0 (xs := [.tmp 35, .tmp 38, .tmp 43, .tmp 44, .tmp 45]) (Zhg _ _ _ _ _ _ _ hl15) Zhh rfl rfl ⟨vt rfl, vt rfl, vt rfl, vt rfl, vt rfl, trivial⟩ rfl) fun _u => Nl <| Rg <| Md rfl <| Md rfl <| Ac (Z0j rfl rfl (vt rfl) (vt rfl)) rfl <| As rfl <| Nl ?_
    exact ⟨(_, _, _, _), Nat.lt_succ_self _, ⟨trivial, h⟩, FX rfl⟩
  ·refine xt ?_
   obtain ⟨l16, hl16, h⟩ := Z9 h
   refine Rg <| Mw rfl <| Md rfl <| Md rfl <| Ac (Z0j rfl rfl (vt rfl) (vt rfl)) rfl <| Md rfl <| Md rfl <| Ac (Zh (A := fn2 Tryz.prog Z8 Z8 (Z0 .i64) x6) rfl rfl (vt rfl)) rfl <| Cv rfl (Z0u 0 (xs := [.tmp 50, .tmp 53, .tmp 54, .tmp 55, .tmp 56]) (Zhg _ _ _ _ _ _ _ hl16) Zhh rfl rfl ⟨vt rfl, vt rfl, vt rfl, vt rfl, vt rfl, trivial⟩ rfl) fun _u => Nl ?_
   cases h; exact Z1l (i := 0) Tryz.results335 rfl rfl
def Zek (i9 : Int) : Nat → (List Action) → Int → Option (List Action)
 | 0, _, _ => none
 | m20 + 1, l18, k19 => (bif (decide (k19 < (IntKind.i64.wrap (i9 - 1)))) then (lget l18 (IntKind.i64.wrap (k19 + 1))).bind fun x21 => (lget l18 k19).bind fun x22 => (lget l18 k19).bind fun x23 => (lget (List.set l18 k19.toNat x21) (IntKind.i64.wrap (k19 + 1))).bind fun x24 => (Zek i9 m20) (List.set (List.set l18 k19.toNat x21) (IntKind.i64.wrap (k19 + 1)).toNat x22) (IntKind.i64.wrap (k19 + 1)) else some l18)
def Z9l (d1 : (List Action)) (a3 : Int) (x6 : (Action → Action → Option Int)) : Nat → Int → Int → Option (List Action)
 | 0, _, _ => none
 | m11 + 1, i9, j10 => (bif (decide (i9 < j10)) then (Z2n (BitVec.ofInt 64 (IntKind.i64.wrap (i9 + j10))) ((1 : BitVec 64).toNat : Int)).bind fun q12 => (lget d1 (IntKind.i64.wrap (q12.toNat : Int))).bind fun x13 => (lget d1 a3).bind fun x14 => (x6 x13 x14).bind fun x15 => (bif (decide (x15 < 0)) then (Z9l d1 a3 x6 m11) (IntKind.i64.wrap ((IntKind.i64.wrap (q12.toNat : Int)) + 1)) j10 else (Z9l d1 a3 x6 m11) i9 (IntKind.i64.wrap (q12.toNat : Int))) else Zek i9 ((((IntKind.i64.wrap (i9 - 1)) : Int) - a3).toNat + 1) d1 a3)
def Zbs (i27 : Int) : Nat → (List Action) → Int → Option (List Action)
 | 0, _, _ => none
 | m38 + 1, l36, k37 => (bif (decide (k37 > i27)) then (lget l36 (IntKind.i64.wrap (k37 - 1))).bind fun x39 => (lget l36 k37).bind fun x40 => (lget l36 k37).bind fun x41 => (lget (List.set l36 k37.toNat x39) (IntKind.i64.wrap (k37 - 1))).bind fun x42 => (Zbs i27 m38) (List.set (List.set l36 k37.toNat x39) (IntKind.i64.wrap (k37 - 1)).toNat x40) (IntKind.i64.wrap (k37 - 1)) else some l36)
def Zao (d1 : (List Action)) (m4 : Int) (x6 : (Action → Action → Option Int)) : Nat → Int → Int → Option (List Action)
 | 0, _, _ => none
 | m29 + 1, i27, j28 => (bif (decide (i27 < j28)) then (Z2n (BitVec.ofInt 64 (IntKind.i64.wrap (i27 + j28))) ((1 : BitVec 64).toNat : Int)).bind fun q30 => (lget d1 m4).bind fun x31 => (lget d1 (IntKind.i64.wrap (q30.toNat : Int))).bind fun x32 => (x6 x31 x32).bind fun x33 => (bif (!(decide (x33 < 0))) then (Zao d1 m4 x6 m29) (IntKind.i64.wrap ((IntKind.i64.wrap (q30.toNat : Int)) + 1)) j28 else (Zao d1 m4 x6 m29) i27 (IntKind.i64.wrap (q30.toNat : Int))) else Zbs i27 (((m4 : Int) - i27).toNat + 1) d1 m4)
def Zbj (q43 : (BitVec 64)) (m4 : Int) (s48 : Int) (b5 : Int) (R_slices_symMergeCmpFunc_Action : ((List Action) → Int → Int → Int → (Action → Action → Option Int) → Option (List Action))) (x6 : (Action → Action → Option Int)) (l56 : (List Action)) : Option (List Action) :=
 (bif ((decide ((IntKind.i64.wrap (q43.toNat : Int)) < (IntKind.i64.wrap ((IntKind.i64.wrap ((IntKind.i64.wrap (q43.toNat : Int)) + m4)) - s48)))) && (decide ((IntKind.i64.wrap ((IntKind.i64.wrap ((IntKind.i64.wrap (q43.toNat : Int)) + m4)) - s48)) < b5))) then (R_slices_symMergeCmpFunc_Action l56 (IntKind.i64.wrap (q43.toNat : Int)) (IntKind.i64.wrap ((IntKind.i64.wrap ((IntKind.i64.wrap (q43.toNat : Int)) + m4)) - s48)) b5 x6).bind fun l57 => some l57 else some l56)
def Zch (a3 : Int) (s48 : Int) (q43 : (BitVec 64)) (R_slices_symMergeCmpFunc_Action : ((List Action) → Int → Int → Int → (Action → Action → Option Int) → Option (List Action))) (x6 : (Action → Action → Option Int)) (m4 : Int) (b5 : Int) (l55 : (List Action)) : Option (List Action) :=
 (bif ((decide (a3 < s48)) && (decide (s48 < (IntKind.i64.wrap (q43.toNat : Int))))) then (R_slices_symMergeCmpFunc_Action l55 a3 s48 (IntKind.i64.wrap (q43.toNat : Int)) x6).bind fun l58 => Zbj q43 m4 s48 b5 R_slices_symMergeCmpFunc_Action x6 l58 else Zbj q43 m4 s48 b5 R_slices_symMergeCmpFunc_Action x6 l55)
def Z97 (d1 : (List Action)) (q43 : (BitVec 64)) (m4 : Int) (x6 : (Action → Action → Option Int)) (a3 : Int) (R_slices_symMergeCmpFunc_Action : ((List Action) → Int → Int → Int → (Action → Action → Option Int) → Option (List Action))) (b5 : Int) : Nat → Int → Int → Option (List Action)
 | 0, _, _ => none
 | m50 + 1, s48, x49 => (bif (decide (s48 < x49)) then (Z2n (BitVec.ofInt 64 (IntKind.i64.wrap (s48 + x49))) ((1 : BitVec 64).toNat : Int)).bind fun q51 => (lget d1 (IntKind.i64.wrap ((IntKind.i64.wrap ((IntKind.i64.wrap ((IntKind.i64.wrap (q43.toNat : Int)) + m4)) - 1)) - (IntKind.i64.wrap (q51.toNat : Int))))).bind fun x52 => (lget d1 (IntKind.i64.wrap (q51.toNat : Int))).bind fun x53 => (x6 x52 x53).bind fun x54 => (bif (!(decide (x54 < 0))) then (Z97 d1 q43 m4 x6 a3 R_slices_symMergeCmpFunc_Action b5 m50) (IntKind.i64.wrap ((IntKind.i64.wrap (q51.toNat : Int)) + 1)) x49 else (Z97 d1 q43 m4 x6 a3 R_slices_symMergeCmpFunc_Action b5 m50) s48 (IntKind.i64.wrap (q51.toNat : Int))) else (bif ((decide (s48 < m4)) && (decide (m4 < (IntKind.i64.wrap ((IntKind.i64.wrap ((IntKind.i64.wrap (q43.toNat : Int)) + m4)) - s48))))) then (Zhr d1 s48 m4 (IntKind.i64.wrap ((IntKind.i64.wrap ((IntKind.i64.wrap (q43.toNat : Int)) + m4)) - s48)) x6).bind fun l59 => Zch a3 s48 q43 R_slices_symMergeCmpFunc_Action x6 m4 b5 l59 else Zch a3 s48 q43 R_slices_symMergeCmpFunc_Action x6 m4 b5 d1))
def Zc3 (d1 : (List Action)) (q43 : (BitVec 64)) (m4 : Int) (x6 : (Action → Action → Option Int)) (a3 : Int) (R_slices_symMergeCmpFunc_Action : ((List Action) → Int → Int → Int → (Action → Action → Option Int) → Option (List Action))) (b5 : Int) (s44 : Int) (x45 : Int) : Option (List Action) :=
 Z97 d1 q43 m4 x6 a3 R_slices_symMergeCmpFunc_Action b5 (((x45 : Int) - s44).toNat + 1) s44 x45
def Zfj (R_slices_symMergeCmpFunc_Action : ((List Action) → Int → Int → Int → (Action → Action → Option Int) → Option (List Action))) (d1 : (List Action)) (a3 : Int) (m4 : Int) (b5 : Int) (x6 : (Action → Action → Option Int)) : Option (List Action) :=
 (bif (decide ((IntKind.i64.wrap (m4 - a3)) = 1)) then Z9l d1 a3 x6 (((b5 : Int) - m4).toNat + 1) m4 b5 else (bif (decide ((IntKind.i64.wrap (b5 - m4)) = 1)) then Zao d1 m4 x6 (((m4 : Int) - a3).toNat + 1) a3 m4 else (Z2n (BitVec.ofInt 64 (IntKind.i64.wrap (a3 + b5))) ((1 : BitVec 64).toNat : Int)).bind fun q43 => (bif (decide (m4 > (IntKind.i64.wrap (q43.toNat : Int)))) then Zc3 d1 q43 m4 x6 a3 R_slices_symMergeCmpFunc_Action b5 (IntKind.i64.wrap ((IntKind.i64.wrap ((IntKind.i64.wrap (q43.toNat : Int)) + m4)) - b5)) (IntKind.i64.wrap (q43.toNat : Int)) else Zc3 d1 q43 m4 x6 a3 R_slices_symMergeCmpFunc_Action b5 a3 m4)))
theorem Zz7 (R_slices_symMergeCmpFunc_Action : ((List Action) → Int → Int → Int → (Action → Action → Option Int) → Option (List Action))) (hR_slices_symMergeCmpFunc_Action : ∀ (v2 : Value) (d1 : (List Action)) (a3 : Int) (m4 : Int) (b5 : Int) (x6 : (Action → Action → Option Int)) (r : (List Action)), R_slices_symMergeCmpFunc_Action d1 a3 m4 b5 x6 = some r → Con Tryz.prog 311 [Zf v2, rd (Z0 .i64) a3, rd (Z0 .i64) m4, rd (Z0 .i64) b5, fn2 Tryz.prog Z8 Z8 (Z0 .i64) x6] (Ze v2 121 Z8 d1) (fun _ : Unit => top) (fun _ => Ze v2 121 Z8 r)) (v2 : Value) (d1 : (List Action)) (a3 : Int) (m4 : Int) (b5 : Int) (x6 : (Action → Action → Option Int)) (r : (List Action)) (h : Zfj R_slices_symMergeCmpFunc_Action d1 a3 m4 b5 x6 = some r) : Con Tryz.prog 311 [Zf v2, rd (Z0 .i64) a3, rd (Z0 .i64) m4, rd (Z0 .i64) b5, fn2 Tryz.prog Z8 Z8 (Z0 .i64) x6] (Ze v2 121 Z8 d1) (fun _ : Unit => top) (fun _ => Ze v2 121 Z8 r) := by
 refine Con.intro Tryz.func311 rfl Tryz.ntmps311 rfl fun w H X => ?_
 unfold Zfj at h
 refine sq <| SR <| Md rfl <| Md rfl <| Ac (Z0j rfl rfl (vt rfl) (vt rfl)) rfl <| Ac (Z0z rfl rfl (vt rfl) (vk rfl)) rfl <| Nl <| Cq rfl h (fun h => ?_) (fun h => ?_)
 ·refine SR <| Md rfl <| As rfl <| Nl <| SR <| Md rfl <| As rfl <| Nl <| sq <| bk <| LG (d := []) (ν := Nat × Int × Int) (fun (m11, i9, j10) => (True ∧ Z9l d1 a3 x6 m11 i9 j10 = some r, m11, [(0, Zf v2), (1, rd (Z0 .i64) a3), (4, fn2 Tryz.prog Z8 Z8 (Z0 .i64) x6), (10, rd (Z0 .i64) i9), (11, rd (Z0 .i64) j10)], [(0, Ze v2 121 Z8 d1)])) ((((b5 : Int) - m4).toNat + 1), m4, b5) ⟨trivial, h⟩ (FX rfl) ?_
  rintro ⟨m11, i9, j10⟩ ⟨hsf1, h⟩
  dsimp only at h ⊢
  cases m11 with
  | zero => cases h
  | succ m11 =>
   unfold Z9l at h
   refine sq <| SR <| Md rfl <| Md rfl <| Ac (Zl rfl rfl (vt rfl) (vt rfl)) rfl <| Nl <| Cq rfl h (fun h => ?_) (fun h => ?_)
   ·refine sk <| bk <| sq ?_
    obtain ⟨q12, hq12, h⟩ := Z9 h
    refine Rg <| Md rfl <| Md rfl <| Ac (Z09 rfl rfl (vt rfl) (vt rfl)) rfl <| Ac (Z5v rfl rfl us3 Z5j (vt rfl)) rfl <| Ac (Z32 rfl rfl (vt rfl) (Z33 (vku (1 : BitVec 64) rfl)) hq12) rfl <| Ac (Z4l rfl rfl Z5p un3 (vt rfl)) rfl <| As rfl <| Nl <| sq ?_
    obtain ⟨x13, hx13, x14, hx14, x15, hx15, h⟩ := bs3 h
    refine AR Z01 (by kernel_rfl) <| Sd (lo [4] [] rfl fun S hs hr => Zh (A := fn2 Tryz.prog Z8 Z8 (Z0 .i64) x6) rfl rfl (vh hs 4 rfl rfl)) <| SMw rfl <| Zq rfl <| Sd (lo [41, 42] [0] rfl fun S hs hr => Z1e 0 rfl rfl Z0g (vh hs 41 rfl rfl) ((hr 0 rfl).trans rfl) (vh hs 42 rfl rfl) hx13) <| Sd (lo [43] [0] rfl fun S hs hr => Z0v 0 rfl rfl Z0f (vh hs 43 rfl rfl) ((hr 0 rfl).trans rfl) (Z08 hx13).2) <| SMw rfl <| Zq rfl <| Sd (lo [45, 46] [0] rfl fun S hs hr => Z1e 0 rfl rfl Z0g (vh hs 45 rfl rfl) ((hr 0 rfl).trans rfl) (vh hs 46 rfl rfl) hx14) <| Sd (lo [47] [0] rfl fun S hs hr => Z0v 0 rfl rfl Z0f (vh hs 47 rfl rfl) ((hr 0 rfl).trans rfl) (Z08 hx14).2) <| Sd (lo [40, 44, 48] [] rfl fun S hs hr => Z3c hx15 rfl rfl (vh hs 40 rfl rfl) (vh hs 44 rfl rfl) (vh hs 48 rfl rfl)) <| Sd (lo [49] [] rfl fun S hs hr => Zl rfl rfl (vh hs 49 rfl rfl) (vk rfl)) <| Sn <| Cq rfl h (fun h => ?_) (fun h => ?_)
    ·refine Rg <| Md rfl <| Ac (Z09 rfl rfl (vt rfl) (vk rfl)) rfl <| As rfl <| Nl ?_
     exact ⟨(_, _, _), Nat.lt_succ_self _, ⟨trivial, h⟩, FX rfl⟩
    ·refine Rg <| Md rfl <| As rfl <| Nl ?_
     exact ⟨(_, _, _), Nat.lt_succ_self _, ⟨trivial, h⟩, FX rfl⟩
   ·refine xt <| sq <| SR <| Md rfl <| As rfl <| Nl <| bk <| LG (d := []) (ν := Nat × (List Action) × Int) (fun (m20, l18, k19) => (True ∧ Zek i9 m20 l18 k19 = some r, m20, [(0, Zf v2), (10, rd (Z0 .i64) i9), (13, rd (Z0 .i64) k19)], [(0, Ze v2 121 Z8 l18)])) (((((IntKind.i64.wrap (i9 - 1)) : Int) - a3).toNat + 1), d1, a3) ⟨trivial, h⟩ (FX rfl) ?_
    rintro ⟨m20, l18, k19⟩ ⟨hsf2, h⟩
    dsimp only at h ⊢
    cases m20 with
    | zero => cases h
    | succ m20 =>
     unfold Zek at h
     refine sq <| SR <| Md rfl <| Md rfl <| Ac (Z0j rfl rfl (vt rfl) (vk rfl)) rfl <| Ac (Zl rfl rfl (vt rfl) (vt rfl)) rfl <| Nl <| Cq rfl h (fun h => ?_) (fun h => ?_)
     ·refine sk <| sq <| bk <| AW.vlen 0 rfl fun hvl0_205 => ?_
      obtain ⟨x21, hx21, x22, hx22, x23, hx23, x24, hx24, h⟩ := bs4 h
      refine AR Z01 (by kernel_rfl) <| SMw rfl <| Zq rfl <| SMw rfl <| Zq rfl <| Sd (lo [64] [] rfl fun S hs hr => Z09 rfl rfl (vh hs 64 rfl rfl) (vk rfl)) <| SMw rfl <| Zq rfl <| Sd (lo [67] [] rfl fun S hs hr => Z09 rfl rfl (vh hs 67 rfl rfl) (vk rfl)) <| Sd (lo [66, 68] [] rfl fun S hs hr => Z11 (l := l18) hvl0_205 rfl rfl rfl Z0g (vh hs 66 rfl rfl) (vh hs 68 rfl rfl) hx21) <| Sd (lo [69] [0] rfl fun S hs hr => Z0v 0 rfl rfl Z0f (vh hs 69 rfl rfl) ((hr 0 rfl).trans rfl) (Z08 hx21).2) <| SMw rfl <| Zq rfl <| Sd (lo [71, 72] [] rfl fun S hs hr => Z11 (l := l18) hvl0_205 rfl rfl rfl Z0g (vh hs 71 rfl rfl) (vh hs 72 rfl rfl) hx22) <| Sd (lo [73] [0] rfl fun S hs hr => Z0v 0 rfl rfl Z0f (vh hs 73 rfl rfl) ((hr 0 rfl).trans rfl) (Z08 hx22).2) <| Sd (lo [61, 62] [] rfl fun S hs hr => Z11 (l := l18) hvl0_205 rfl rfl rfl Z0g (vh hs 61 rfl rfl) (vh hs 62 rfl rfl) hx23) <| Sd (Z2m [75, 70] [0] rfl fun S hs hr => Z25 0 rfl rfl Z0f (vh hs 75 rfl rfl) ((hr 0 rfl).trans rfl) (Z08 hx23).2 (vh hs 70 rfl rfl)) <| Sd (lo [63, 65] [] rfl fun S hs hr => Z11 (l := (List.set l18 k19.toNat x21)) hvl0_205 (by simp) rfl rfl Z0g (vh hs 63 rfl rfl) (vh hs 65 rfl rfl) hx24) <| Sd (Z2m [76, 74] [0] rfl fun S hs hr => Z25 0 rfl rfl Z0f (vh hs 76 rfl rfl) ((hr 0 rfl).trans rfl) (Z08 hx24).2 (vh hs 74 rfl rfl)) <| Sn <| Rg <| Md rfl <| Ac (Z09 rfl rfl (vt rfl) (vk rfl)) rfl <| As rfl <| Nl ?_
      exact ⟨(_, _, _), Nat.lt_succ_self _, ⟨trivial, h⟩, FX rfl⟩
     ·refine xt <| rt ?_
      cases h; exact Z1l (i := 0) Tryz.results311 rfl rfl
 ·refine sk <| sq <| SR <| Md rfl <| Md rfl <| Ac (Z0j rfl rfl (vt rfl) (vt rfl)) rfl <| Ac (Z0z rfl rfl (vt rfl) (vk rfl)) rfl <| Nl <| Cq rfl h (fun h => ?_) (fun h => ?_)
  ·refine SR <| Md rfl <| As rfl <| Nl <| SR <| Md rfl <| As rfl <| Nl <| sq <| bk <| LG (d := []) (ν := Nat × Int × Int) (fun (m29, i27, j28) => (True ∧ Zao d1 m4 x6 m29 i27 j28 = some r, m29, [(0, Zf v2), (2, rd (Z0 .i64) m4), (4, fn2 Tryz.prog Z8 Z8 (Z0 .i64) x6), (14, rd (Z0 .i64) i27), (15, rd (Z0 .i64) j28)], [(0, Ze v2 121 Z8 d1)])) ((((m4 : Int) - a3).toNat + 1), a3, m4) ⟨trivial, h⟩ (FX rfl) ?_
   rintro ⟨m29, i27, j28⟩ ⟨hsf3, h⟩
   dsimp only at h ⊢
   cases m29 with
   | zero => cases h
   | succ m29 =>
    unfold Zao at h
    refine sq <| SR <| Md rfl <| Md rfl <| Ac (Zl rfl rfl (vt rfl) (vt rfl)) rfl <| Nl <| Cq rfl h (fun h => ?_) (fun h => ?_)
    ·refine sk <| bk <| sq ?_
     obtain ⟨q30, hq30, h⟩ := Z9 h
     refine Rg <| Md rfl <| Md rfl <| Ac (Z09 rfl rfl (vt rfl) (vt rfl)) rfl <| Ac (Z5v rfl rfl us3 Z5j (vt rfl)) rfl <| Ac (Z32 rfl rfl (vt rfl) (Z33 (vku (1 : BitVec 64) rfl)) hq30) rfl <| Ac (Z4l rfl rfl Z5p un3 (vt rfl)) rfl <| As rfl <| Nl <| sq ?_
     obtain ⟨x31, hx31, x32, hx32, x33, hx33, h⟩ := bs3 h
     refine AR Z01 (by kernel_rfl) <| Sd (lo [4] [] rfl fun S hs hr => Zh (A := fn2 Tryz.prog Z8 Z8 (Z0 .i64) x6) rfl rfl (vh hs 4 rfl rfl)) <| SMw rfl <| Zq rfl <| Sd (lo [93, 94] [0] rfl fun S hs hr => Z1e 0 rfl rfl Z0g (vh hs 93 rfl rfl) ((hr 0 rfl).trans rfl) (vh hs 94 rfl rfl) hx31) <| Sd (lo [95] [0] rfl fun S hs hr => Z0v 0 rfl rfl Z0f (vh hs 95 rfl rfl) ((hr 0 rfl).trans rfl) (Z08 hx31).2) <| SMw rfl <| Zq rfl <| Sd (lo [97, 98] [0] rfl fun S hs hr => Z1e 0 rfl rfl Z0g (vh hs 97 rfl rfl) ((hr 0 rfl).trans rfl) (vh hs 98 rfl rfl) hx32) <| Sd (lo [99] [0] rfl fun S hs hr => Z0v 0 rfl rfl Z0f (vh hs 99 rfl rfl) ((hr 0 rfl).trans rfl) (Z08 hx32).2) <| Sd (lo [92, 96, 100] [] rfl fun S hs hr => Z3c hx33 rfl rfl (vh hs 92 rfl rfl) (vh hs 96 rfl rfl) (vh hs 100 rfl rfl)) <| Sd (lo [101] [] rfl fun S hs hr => Zl rfl rfl (vh hs 101 rfl rfl) (vk rfl)) <| Sd (lo [102] [] rfl fun S hs hr => Z0m rfl rfl (vh hs 102 rfl rfl)) <| Sn <| Cq rfl h (fun h => ?_) (fun h => ?_)
     ·refine Rg <| Md rfl <| Ac (Z09 rfl rfl (vt rfl) (vk rfl)) rfl <| As rfl <| Nl ?_
      exact ⟨(_, _, _), Nat.lt_succ_self _, ⟨trivial, h⟩, FX rfl⟩
     ·refine Rg <| Md rfl <| As rfl <| Nl ?_
      exact ⟨(_, _, _), Nat.lt_succ_self _, ⟨trivial, h⟩, FX rfl⟩
    ·refine xt <| sq <| SR <| Md rfl <| As rfl <| Nl <| bk <| LG (d := []) (ν := Nat × (List Action) × Int) (fun (m38, l36, k37) => (True ∧ Zbs i27 m38 l36 k37 = some r, m38, [(0, Zf v2), (14, rd (Z0 .i64) i27), (17, rd (Z0 .i64) k37)], [(0, Ze v2 121 Z8 l36)])) ((((m4 : Int) - i27).toNat + 1), d1, m4) ⟨trivial, h⟩ (FX rfl) ?_
     rintro ⟨m38, l36, k37⟩ ⟨hsf4, h⟩
     dsimp only at h ⊢
     cases m38 with
     | zero => cases h
     | succ m38 =>
      unfold Zbs at h
      refine sq <| SR <| Md rfl <| Md rfl <| Ac (Z3o rfl rfl (vt rfl) (vt rfl)) rfl <| Nl <| Cq rfl h (fun h => ?_) (fun h => ?_)
      ·refine sk <| sq <| bk <| AW.vlen 0 rfl fun hvl0_446 => ?_
       obtain ⟨x39, hx39, x40, hx40, x41, hx41, x42, hx42, h⟩ := bs4 h
       refine AR Z01 (by kernel_rfl) <| SMw rfl <| Zq rfl <| SMw rfl <| Zq rfl <| Sd (lo [116] [] rfl fun S hs hr => Z0j rfl rfl (vh hs 116 rfl rfl) (vk rfl)) <| SMw rfl <| Zq rfl <| Sd (lo [119] [] rfl fun S hs hr => Z0j rfl rfl (vh hs 119 rfl rfl) (vk rfl)) <| Sd (lo [118, 120] [] rfl fun S hs hr => Z11 (l := l36) hvl0_446 rfl rfl rfl Z0g (vh hs 118 rfl rfl) (vh hs 120 rfl rfl) hx39) <| Sd (lo [121] [0] rfl fun S hs hr => Z0v 0 rfl rfl Z0f (vh hs 121 rfl rfl) ((hr 0 rfl).trans rfl) (Z08 hx39).2) <| SMw rfl <| Zq rfl <| Sd (lo [123, 124] [] rfl fun S hs hr => Z11 (l := l36) hvl0_446 rfl rfl rfl Z0g (vh hs 123 rfl rfl) (vh hs 124 rfl rfl) hx40) <| Sd (lo [125] [0] rfl fun S hs hr => Z0v 0 rfl rfl Z0f (vh hs 125 rfl rfl) ((hr 0 rfl).trans rfl) (Z08 hx40).2) <| Sd (lo [113, 114] [] rfl fun S hs hr => Z11 (l := l36) hvl0_446 rfl rfl rfl Z0g (vh hs 113 rfl rfl) (vh hs 114 rfl rfl) hx41) <| Sd (Z2m [127, 122] [0] rfl fun S hs hr => Z25 0 rfl rfl Z0f (vh hs 127 rfl rfl) ((hr 0 rfl).trans rfl) (Z08 hx41).2 (vh hs 122 rfl rfl)) <| Sd (lo [115, 117] [] rfl fun S hs hr => Z11 (l := (List.set l36 k37.toNat x39)) hvl0_446 (by simp) rfl rfl Z0g (vh hs 115 rfl rfl) (vh hs 117 rfl rfl) hx42) <| Sd (Z2m [128, 126] [0] rfl fun S hs hr => Z25 0 rfl rfl Z0f (vh hs 128 rfl rfl) ((hr 0 rfl).trans rfl) (Z08 hx42).2 (vh hs 126 rfl rfl)) <| Sn <| Rg <| Md rfl <| Ac (Z0j rfl rfl (vt rfl) (vk rfl)) rfl <| As rfl <| Nl ?_
       exact ⟨(_, _, _), Nat.lt_succ_self _, ⟨trivial, h⟩, FX rfl⟩
      ·refine xt <| rt ?_
       cases h; exact Z1l (i := 0) Tryz.results311 rfl rfl
  ·refine sk <| sq ?_
   obtain ⟨q43, hq43, h⟩ := Z9 h
   refine Rg <| Md rfl <| Md rfl <| Ac (Z09 rfl rfl (vt rfl) (vt rfl)) rfl <| Ac (Z5v rfl rfl us3 Z5j (vt rfl)) rfl <| Ac (Z32 rfl rfl (vt rfl) (Z33 (vku (1 : BitVec 64) rfl)) hq43) rfl <| Ac (Z4l rfl rfl Z5p un3 (vt rfl)) rfl <| As rfl <| Nl <| SR <| Md rfl <| Md rfl <| Ac (Z09 rfl rfl (vt rfl) (vt rfl)) rfl <| As rfl <| Nl <| SR <| Ak rfl <| Ak rfl <| Nl ?_
   refine JN (d := []) (ν := Int × Int) (fun (s44, x45) => (Zc3 d1 q43 m4 x6 a3 R_slices_symMergeCmpFunc_Action b5 s44 x45 = some r, [(0, Zf v2), (1, rd (Z0 .i64) a3), (2, rd (Z0 .i64) m4), (3, rd (Z0 .i64) b5), (4, fn2 Tryz.prog Z8 Z8 (Z0 .i64) x6), (18, rd (Z0 .i64) (IntKind.i64.wrap (q43.toNat : Int))), (19, rd (Z0 .i64) (IntKind.i64.wrap ((IntKind.i64.wrap (q43.toNat : Int)) + m4))), (20, rd (Z0 .i64) s44), (21, rd (Z0 .i64) x45)], [(0, Ze v2 121 Z8 d1)])) ?hx5 ?hy5
   case hy5 =>
    rintro ⟨s44, x45⟩ h
    dsimp only at h ⊢
    unfold Zc3 at h
    refine SR <| Md rfl <| Ac (Z0j rfl rfl (vt rfl) (vk rfl)) rfl <| As rfl <| Nl <| sq <| bk <| LG (d := []) (ν := Nat × Int × Int) (fun (m50, s48, x49) => (True ∧ Z97 d1 q43 m4 x6 a3 R_slices_symMergeCmpFunc_Action b5 m50 s48 x49 = some r, m50, [(0, Zf v2), (1, rd (Z0 .i64) a3), (2, rd (Z0 .i64) m4), (3, rd (Z0 .i64) b5), (4, fn2 Tryz.prog Z8 Z8 (Z0 .i64) x6), (18, rd (Z0 .i64) (IntKind.i64.wrap (q43.toNat : Int))), (19, rd (Z0 .i64) (IntKind.i64.wrap ((IntKind.i64.wrap (q43.toNat : Int)) + m4))), (20, rd (Z0 .i64) s48), (21, rd (Z0 .i64) x49), (22, rd (Z0 .i64) (IntKind.i64.wrap ((IntKind.i64.wrap ((IntKind.i64.wrap (q43.toNat : Int)) + m4)) - 1)))], [(0, Ze v2 121 Z8 d1)])) ((((x45 : Int) - s44).toNat + 1), s44, x45) ⟨trivial, h⟩ (FX rfl) ?_
    rintro ⟨m50, s48, x49⟩ ⟨hsf6, h⟩
    dsimp only at h ⊢
    cases m50 with
    | zero => cases h
    | succ m50 =>
     unfold Z97 at h
     refine sq <| SR <| Md rfl <| Md rfl <| Ac (Zl rfl rfl (vt rfl) (vt rfl)) rfl <| Nl <| Cq rfl h (fun h => ?_) (fun h => ?_)
     ·refine sk <| bk <| sq ?_
      obtain ⟨q51, hq51, h⟩ := Z9 h
      refine Rg <| Md rfl <| Md rfl <| Ac (Z09 rfl rfl (vt rfl) (vt rfl)) rfl <| Ac (Z5v rfl rfl us3 Z5j (vt rfl)) rfl <| Ac (Z32 rfl rfl (vt rfl) (Z33 (vku (1 : BitVec 64) rfl)) hq51) rfl <| Ac (Z4l rfl rfl Z5p un3 (vt rfl)) rfl <| As rfl <| Nl <| sq ?_
      obtain ⟨x52, hx52, x53, hx53, x54, hx54, h⟩ := bs3 h
      refine AR Z01 (by kernel_rfl) <| Sd (lo [4] [] rfl fun S hs hr => Zh (A := fn2 Tryz.prog Z8 Z8 (Z0 .i64) x6) rfl rfl (vh hs 4 rfl rfl)) <| SMw rfl <| Zq rfl <| Zq rfl <| Sd (lo [160, 161] [] rfl fun S hs hr => Z0j rfl rfl (vh hs 160 rfl rfl) (vh hs 161 rfl rfl)) <| Sd (lo [159, 162] [0] rfl fun S hs hr => Z1e 0 rfl rfl Z0g (vh hs 159 rfl rfl) ((hr 0 rfl).trans rfl) (vh hs 162 rfl rfl) hx52) <| Sd (lo [163] [0] rfl fun S hs hr => Z0v 0 rfl rfl Z0f (vh hs 163 rfl rfl) ((hr 0 rfl).trans rfl) (Z08 hx52).2) <| SMw rfl <| Zq rfl <| Sd (lo [165, 166] [0] rfl fun S hs hr => Z1e 0 rfl rfl Z0g (vh hs 165 rfl rfl) ((hr 0 rfl).trans rfl) (vh hs 166 rfl rfl) hx53) <| Sd (lo [167] [0] rfl fun S hs hr => Z0v 0 rfl rfl Z0f (vh hs 167 rfl rfl) ((hr 0 rfl).trans rfl) (Z08 hx53).2) <| Sd (lo [158, 164, 168] [] rfl fun S hs hr => Z3c hx54 rfl rfl (vh hs 158 rfl rfl) (vh hs 164 rfl rfl) (vh hs 168 rfl rfl)) <| Sd (lo [169] [] rfl fun S hs hr => Zl rfl rfl (vh hs 169 rfl rfl) (vk rfl)) <| Sd (lo [170] [] rfl fun S hs hr => Z0m rfl rfl (vh hs 170 rfl rfl)) <| Sn <| Cq rfl h (fun h => ?_) (fun h => ?_)
      ·refine Rg <| Md rfl <| Ac (Z09 rfl rfl (vt rfl) (vk rfl)) rfl <| As rfl <| Nl ?_
       exact ⟨(_, _, _), Nat.lt_succ_self _, ⟨trivial, h⟩, FX rfl⟩
      ·refine Rg <| Md rfl <| As rfl <| Nl ?_
       exact ⟨(_, _, _), Nat.lt_succ_self _, ⟨trivial, h⟩, FX rfl⟩
     ·refine xt <| SR <| Md rfl <| Md rfl <| Ac (Z0j rfl rfl (vt rfl) (vt rfl)) rfl <| As rfl <| Nl ?_
      refine JN (d := []) (ν := (List Action)) (fun l55 => (Zch a3 s48 q43 R_slices_symMergeCmpFunc_Action x6 m4 b5 l55 = some r, [(0, Zf v2), (1, rd (Z0 .i64) a3), (3, rd (Z0 .i64) b5), (4, fn2 Tryz.prog Z8 Z8 (Z0 .i64) x6), (18, rd (Z0 .i64) (IntKind.i64.wrap (q43.toNat : Int))), (20, rd (Z0 .i64) s48), (24, rd (Z0 .i64) (IntKind.i64.wrap ((IntKind.i64.wrap ((IntKind.i64.wrap (q43.toNat : Int)) + m4)) - s48)))], [(0, Ze v2 121 Z8 l55)])) ?hx7 ?hy7
      case hy7 =>
       intro l55 h
       dsimp only at h ⊢
       unfold Zch at h
       refine JN (d := []) (ν := (List Action)) (fun l56 => (Zbj q43 m4 s48 b5 R_slices_symMergeCmpFunc_Action x6 l56 = some r, [(0, Zf v2), (3, rd (Z0 .i64) b5), (4, fn2 Tryz.prog Z8 Z8 (Z0 .i64) x6), (18, rd (Z0 .i64) (IntKind.i64.wrap (q43.toNat : Int))), (24, rd (Z0 .i64) (IntKind.i64.wrap ((IntKind.i64.wrap ((IntKind.i64.wrap (q43.toNat : Int)) + m4)) - s48)))], [(0, Ze v2 121 Z8 l56)])) ?hx8 ?hy8
       case hy8 =>
        intro l56 h
        dsimp only at h ⊢
        unfold Zbj at h
        refine SR <| Md rfl <| Md rfl <| Ac (Zl rfl rfl (vt rfl) (vt rfl)) rfl <| Md rfl <| Gd rfl (fun hq => Zh (A := rd (Z0 .i64) (IntKind.i64.wrap ((IntKind.i64.wrap ((IntKind.i64.wrap (q43.toNat : Int)) + m4)) - s48))) rfl rfl (vt rfl)) <| Gd rfl (fun hq => Zh (A := rd (Z0 .i64) b5) rfl rfl (vt rfl)) <| Gd rfl (fun hq => Zl rfl rfl (Z5 rfl hq) (Z5 rfl hq)) <| Ac (Z0p rfl rfl (vt rfl) (vt rfl)) rfl <| Nl <| Cq rfl h (fun h => ?_) (fun h => ?_)
        ·obtain ⟨l57, hl57, h⟩ := Z9 h
         refine Rg <| Mw rfl <| Md rfl <| Md rfl <| Md rfl <| Ac (Zh (A := fn2 Tryz.prog Z8 Z8 (Z0 .i64) x6) rfl rfl (vt rfl)) rfl <| Cv rfl (Z0u 0 (xs := [.tmp 214, .tmp 215, .tmp 216, .tmp 217, .tmp 218]) (hR_slices_symMergeCmpFunc_Action _ _ _ _ _ _ _ hl57) Zev rfl rfl ⟨vt rfl, vt rfl, vt rfl, vt rfl, vt rfl, trivial⟩ rfl) fun _u => Nl ?_
         cases h; exact Z1l (i := 0) Tryz.results311 rfl rfl
        ·refine sk ?_
         cases h; exact Z1l (i := 0) Tryz.results311 rfl rfl
       case hx8 =>
        refine SR <| Md rfl <| Md rfl <| Ac (Zl rfl rfl (vt rfl) (vt rfl)) rfl <| Md rfl <| Gd rfl (fun hq => Zh (A := rd (Z0 .i64) s48) rfl rfl (vt rfl)) <| Gd rfl (fun hq => Zh (A := rd (Z0 .i64) (IntKind.i64.wrap (q43.toNat : Int))) rfl rfl (vt rfl)) <| Gd rfl (fun hq => Zl rfl rfl (Z5 rfl hq) (Z5 rfl hq)) <| Ac (Z0p rfl rfl (vt rfl) (vt rfl)) rfl <| Nl <| Cq rfl h (fun h => ?_) (fun h => ?_)
        ·obtain ⟨l58, hl58, h⟩ := Z9 h
         refine Rg <| Mw rfl <| Md rfl <| Md rfl <| Md rfl <| Ac (Zh (A := fn2 Tryz.prog Z8 Z8 (Z0 .i64) x6) rfl rfl (vt rfl)) rfl <| Cv rfl (Z0u 0 (xs := [.tmp 200, .tmp 201, .tmp 202, .tmp 203, .tmp 204]) (hR_slices_symMergeCmpFunc_Action _ _ _ _ _ _ _ hl58) Zev rfl rfl ⟨vt rfl, vt rfl, vt rfl, vt rfl, vt rfl, trivial⟩ rfl) fun _u => Nl ?_
         exact ⟨_, h, FX rfl⟩
        ·refine sk ?_
         exact ⟨_, h, FX rfl⟩
      case hx7 =>
       refine SR <| Md rfl <| Md rfl <| Ac (Zl rfl rfl (vt rfl) (vt rfl)) rfl <| Md rfl <| Gd rfl (fun hq => Zh (A := rd (Z0 .i64) m4) rfl rfl (vt rfl)) <| Gd rfl (fun hq => Zh (A := rd (Z0 .i64) (IntKind.i64.wrap ((IntKind.i64.wrap ((IntKind.i64.wrap (q43.toNat : Int)) + m4)) - s48))) rfl rfl (vt rfl)) <| Gd rfl (fun hq => Zl rfl rfl (Z5 rfl hq) (Z5 rfl hq)) <| Ac (Z0p rfl rfl (vt rfl) (vt rfl)) rfl <| Nl <| Cq rfl h (fun h => ?_) (fun h => ?_)
       ·obtain ⟨l59, hl59, h⟩ := Z9 h
        refine Rg <| Mw rfl <| Md rfl <| Md rfl <| Md rfl <| Ac (Zh (A := fn2 Tryz.prog Z8 Z8 (Z0 .i64) x6) rfl rfl (vt rfl)) rfl <| Cv rfl (Z0u 0 (xs := [.tmp 186, .tmp 187, .tmp 188, .tmp 189, .tmp 190]) (Zye _ _ _ _ _ _ _ hl59) Zrd rfl rfl ⟨vt rfl, vt rfl, vt rfl, vt rfl, vt rfl, trivial⟩ rfl) fun _u => Nl ?_
        exact ⟨_, h, FX rfl⟩
       ·refine sk ?_
        exact ⟨_, h, FX rfl⟩
   case hx5 =>
    refine SR <| Md rfl <| Md rfl <| Ac (Z3o rfl rfl (vt rfl) (vt rfl)) rfl <| Nl <| Cq rfl h (fun h => ?_) (fun h => ?_)
    ·refine SR <| Md rfl <| Md rfl <| Ac (Z0j rfl rfl (vt rfl) (vt rfl)) rfl <| As rfl <| Nl <| Rg <| Md rfl <| As rfl <| Nl ?_
     exact ⟨(_, _), h, FX rfl⟩
    ·refine SR <| Md rfl <| As rfl <| Nl <| Rg <| Md rfl <| As rfl <| Nl ?_
     exact ⟨(_, _), h, FX rfl⟩
def Zcz : Nat → ((List Action) → Int → Int → Int → (Action → Action → Option Int) → Option (List Action))
 | 0 => (fun _ _ _ _ _ => none)
 | n + 1 => (Zfj (Zcz n))
theorem Zjk : ∀ n : Nat, (∀ (v2 : Value) (d1 : (List Action)) (a3 : Int) (m4 : Int) (b5 : Int) (x6 : (Action → Action → Option Int)) (r : (List Action)), (Zcz n) d1 a3 m4 b5 x6 = some r → Con Tryz.prog 311 [Zf v2, rd (Z0 .i64) a3, rd (Z0 .i64) m4, rd (Z0 .i64) b5, fn2 Tryz.prog Z8 Z8 (Z0 .i64) x6] (Ze v2 121 Z8 d1) (fun _ : Unit => top) (fun _ => Ze v2 121 Z8 r))
 | 0 => (by intros; rename_i h; cases h)
 | n + 1 => by
  have ih := Zjk n
  exact (Zz7 (Zcz n) ih)
def Zf9 (d1 : (List Action)) (a3 : Int) (m4 : Int) (b5 : Int) (x6 : (Action → Action → Option Int)) : Option (List Action) := (Zcz Z2i) d1 a3 m4 b5 x6
theorem Zl2 : ∀ (v2 : Value) (d1 : (List Action)) (a3 : Int) (m4 : Int) (b5 : Int) (x6 : (Action → Action → Option Int)) (r : (List Action)), Zf9 d1 a3 m4 b5 x6 = some r → Con Tryz.prog 311 [Zf v2, rd (Z0 .i64) a3, rd (Z0 .i64) m4, rd (Z0 .i64) b5, fn2 Tryz.prog Z8 Z8 (Z0 .i64) x6] (Ze v2 121 Z8 d1) (fun _ : Unit => top) (fun _ => Ze v2 121 Z8 r) := Zjk Z2i
def Zdy (n3 : Int) (b17 : Int) (x4 : (Action → Action → Option Int)) (go2 : (List Action) → Int → Option (List Action)) : Nat → (List Action) → Int → Int → Option (List Action)
 | 0, _, _, _ => none
 | m25 + 1, l22, a23, b24 => (bif (decide (b24 ≤ n3)) then (Zf9 l22 a23 (IntKind.i64.wrap (a23 + b17)) b24 x4).bind fun l26 => (Zdy n3 b17 x4 go2 m25) l26 b24 (IntKind.i64.wrap (b24 + (IntKind.i64.wrap (2 * b17)))) else (bif (decide ((IntKind.i64.wrap (a23 + b17)) < n3)) then (Zf9 l22 a23 (IntKind.i64.wrap (a23 + b17)) n3 x4).bind fun l27 => go2 l27 (IntKind.i64.wrap (b17 * 2)) else go2 l22 (IntKind.i64.wrap (b17 * 2))))
def Zbb (n3 : Int) (x4 : (Action → Action → Option Int)) : Nat → (List Action) → Int → Option (List Action)
 | 0, _, _ => none
 | m18 + 1, l16, b17 => (bif (decide (b17 < n3)) then Zdy n3 b17 x4 (Zbb n3 x4 m18) (((n3 : Int) - (IntKind.i64.wrap (2 * b17))).toNat + 2) l16 0 (IntKind.i64.wrap (2 * b17)) else some l16)
def Zez (n3 : Int) (x4 : (Action → Action → Option Int)) : Nat → (List Action) → Int → Int → Option (List Action)
 | 0, _, _, _ => none
 | m11 + 1, l8, a9, b10 => (bif (decide (b10 ≤ n3)) then (Zdm l8 a9 b10 x4).bind fun l12 => (Zez n3 x4 m11) l12 b10 (IntKind.i64.wrap (b10 + 20)) else (Zdm l8 a9 n3 x4).bind fun l13 => Zbb n3 x4 (((n3 : Int) - 20).toNat + 1) l13 20)
def Zgb (d1 : (List Action)) (n3 : Int) (x4 : (Action → Action → Option Int)) : Option (List Action) :=
 Zez n3 x4 (((n3 : Int) - 20).toNat + 2) d1 0 20
theorem Zv8 (v2 : Value) (d1 : (List Action)) (n3 : Int) (x4 : (Action → Action → Option Int)) (r : (List Action)) (h : Zgb d1 n3 x4 = some r) : Con Tryz.prog 274 [Zf v2, rd (Z0 .i64) n3, fn2 Tryz.prog Z8 Z8 (Z0 .i64) x4] (Ze v2 121 Z8 d1) (fun _ : Unit => top) (fun _ => Ze v2 121 Z8 r) := by
 refine Con.intro Tryz.func274 rfl Tryz.ntmps274 rfl fun w H X => ?_
 unfold Zgb at h
 refine SR <| Ak rfl <| Nl <| SR <| Md rfl <| Ak rfl <| As rfl <| Nl <| sq <| bk <| LG (d := []) (ν := Nat × (List Action) × Int × Int) (fun (m11, l8, a9, b10) => (True ∧ Zez n3 x4 m11 l8 a9 b10 = some r, m11, [(0, Zf v2), (1, rd (Z0 .i64) n3), (2, fn2 Tryz.prog Z8 Z8 (Z0 .i64) x4), (6, rd (Z0 .i64) 20), (7, rd (Z0 .i64) a9), (8, rd (Z0 .i64) b10)], [(0, Ze v2 121 Z8 l8)])) ((((n3 : Int) - 20).toNat + 2), d1, 0, 20) ⟨trivial, h⟩ (FX rfl) ?_
 rintro ⟨m11, l8, a9, b10⟩ ⟨hsf1, h⟩
 dsimp only at h ⊢
 cases m11 with
 | zero => cases h
 | succ m11 =>
  unfold Zez at h
  refine sq <| SR <| Md rfl <| Md rfl <| Ac (Z4s rfl rfl (vt rfl) (vt rfl)) rfl <| Nl <| Cq rfl h (fun h => ?_) (fun h => ?_)
  ·refine sk <| bk <| sq ?_
   obtain ⟨l12, hl12, h⟩ := Z9 h
   refine Rg <| Mw rfl <| Md rfl <| Md rfl <| Ac (Zh (A := fn2 Tryz.prog Z8 Z8 (Z0 .i64) x4) rfl rfl (vt rfl)) rfl <| Cv rfl (Z0u 0 (xs := [.tmp 14, .tmp 15, .tmp 16, .tmp 17]) (Zjg _ _ _ _ _ _ hl12) Zlh rfl rfl ⟨vt rfl, vt rfl, vt rfl, vt rfl, trivial⟩ rfl) fun _u => Nl <| SR <| Md rfl <| As rfl <| Nl <| Rg <| Md rfl <| Md rfl <| Ac (Z09 rfl rfl (vt rfl) (vt rfl)) rfl <| As rfl <| Nl ?_
   exact ⟨(_, _, _, _), Nat.lt_succ_self _, ⟨trivial, h⟩, FX rfl⟩
  ·refine xt <| sq ?_
   obtain ⟨l13, hl13, h⟩ := Z9 h
   refine Rg <| Mw rfl <| Md rfl <| Md rfl <| Ac (Zh (A := fn2 Tryz.prog Z8 Z8 (Z0 .i64) x4) rfl rfl (vt rfl)) rfl <| Cv rfl (Z0u 0 (xs := [.tmp 23, .tmp 24, .tmp 25, .tmp 26]) (Zjg _ _ _ _ _ _ hl13) Zlh rfl rfl ⟨vt rfl, vt rfl, vt rfl, vt rfl, trivial⟩ rfl) fun _u => Nl <| bk <| LG (d := []) (ν := Nat × (List Action) × Int) (fun (m18, l16, b17) => (True ∧ Zbb n3 x4 m18 l16 b17 = some r, m18, [(0, Zf v2), (1, rd (Z0 .i64) n3), (2, fn2 Tryz.prog Z8 Z8 (Z0 .i64) x4), (6, rd (Z0 .i64) b17)], [(0, Ze v2 121 Z8 l16)])) ((((n3 : Int) - 20).toNat + 1), l13, 20) ⟨trivial, h⟩ (FX rfl) ?_
   rintro ⟨m18, l16, b17⟩ ⟨hsf2, h⟩
   dsimp only at h ⊢
   cases m18 with
   | zero => cases h
   | succ m18 =>
    unfold Zbb at h
    refine sq <| SR <| Md rfl <| Md rfl <| Ac (Zl rfl rfl (vt rfl) (vt rfl)) rfl <| Nl <| Cq rfl h (fun h => ?_) (fun h => ?_)
    ·refine sk <| bk <| SR <| Md rfl <| Ac (Z4x rfl rfl (vk rfl) (vt rfl)) rfl <| Ak rfl <| As rfl <| Nl <| sq <| bk <| LG (d := []) (ν := Nat × (List Action) × Int × Int) (fun (m25, l22, a23, b24) => (True ∧ Zdy n3 b17 x4 (Zbb n3 x4 m18) m25 l22 a23 b24 = some r, m25, [(0, Zf v2), (1, rd (Z0 .i64) n3), (2, fn2 Tryz.prog Z8 Z8 (Z0 .i64) x4), (6, rd (Z0 .i64) b17), (7, rd (Z0 .i64) a23), (8, rd (Z0 .i64) b24)], [(0, Ze v2 121 Z8 l22)])) ((((n3 : Int) - (IntKind.i64.wrap (2 * b17))).toNat + 2), l16, 0, (IntKind.i64.wrap (2 * b17))) ⟨trivial, h⟩ (FX rfl) ?_
     rintro ⟨m25, l22, a23, b24⟩ ⟨hsf3, h⟩
     dsimp only at h ⊢
     cases m25 with
     | zero => cases h
     | succ m25 =>
      unfold Zdy at h
      refine sq <| SR <| Md rfl <| Md rfl <| Ac (Z4s rfl rfl (vt rfl) (vt rfl)) rfl <| Nl <| Cq rfl h (fun h => ?_) (fun h => ?_)
      ·refine sk <| bk <| sq ?_
       obtain ⟨l26, hl26, h⟩ := Z9 h
       refine Rg <| Mw rfl <| Md rfl <| Md rfl <| Md rfl <| Ac (Z09 rfl rfl (vt rfl) (vt rfl)) rfl <| Md rfl <| Ac (Zh (A := fn2 Tryz.prog Z8 Z8 (Z0 .i64) x4) rfl rfl (vt rfl)) rfl <| Cv rfl (Z0u 0 (xs := [.tmp 36, .tmp 37, .tmp 40, .tmp 41, .tmp 42]) (Zl2 _ _ _ _ _ _ _ hl26) Zev rfl rfl ⟨vt rfl, vt rfl, vt rfl, vt rfl, vt rfl, trivial⟩ rfl) fun _u => Nl <| SR <| Md rfl <| As rfl <| Nl <| Rg <| Md rfl <| Md rfl <| Ac (Z4x rfl rfl (vk rfl) (vt rfl)) rfl <| Ac (Z09 rfl rfl (vt rfl) (vt rfl)) rfl <| As rfl <| Nl ?_
       exact ⟨(_, _, _, _), Nat.lt_succ_self _, ⟨trivial, h⟩, FX rfl⟩
      ·refine xt <| sq <| SR <| Md rfl <| Md rfl <| Ac (Z09 rfl rfl (vt rfl) (vt rfl)) rfl <| As rfl <| Nl <| SR <| Md rfl <| Md rfl <| Ac (Zl rfl rfl (vt rfl) (vt rfl)) rfl <| Nl <| Cq rfl h (fun h => ?_) (fun h => ?_)
       ·obtain ⟨l27, hl27, h⟩ := Z9 h
        refine Rg <| Mw rfl <| Md rfl <| Md rfl <| Md rfl <| Ac (Zh (A := fn2 Tryz.prog Z8 Z8 (Z0 .i64) x4) rfl rfl (vt rfl)) rfl <| Cv rfl (Z0u 0 (xs := [.tmp 55, .tmp 56, .tmp 57, .tmp 58, .tmp 59]) (Zl2 _ _ _ _ _ _ _ hl27) Zev rfl rfl ⟨vt rfl, vt rfl, vt rfl, vt rfl, vt rfl, trivial⟩ rfl) fun _u => Nl <| Rg <| Md rfl <| Ac (Z4x rfl rfl (vt rfl) (vk rfl)) rfl <| As rfl <| Nl ?_
        exact ⟨(_, _, _), Nat.lt_succ_self _, ⟨trivial, h⟩, FX rfl⟩
       ·refine sk <| Rg <| Md rfl <| Ac (Z4x rfl rfl (vt rfl) (vk rfl)) rfl <| As rfl <| Nl ?_
        exact ⟨(_, _, _), Nat.lt_succ_self _, ⟨trivial, h⟩, FX rfl⟩
    ·refine xt ?_
     cases h; exact Z1l (i := 0) Tryz.results274 rfl rfl
def Zib (x1 : (List Action)) (x3 : (Action → Action → Option Int)) : Option (List Action) :=
 (Zgb x1 (x1.length : Int) x3).bind fun l4 => some l4
theorem Zvc (v2 : Value) (x1 : (List Action)) (x3 : (Action → Action → Option Int)) (r : (List Action)) (h : Zib x1 x3 = some r) : Con Tryz.prog 219 [Zf v2, fn2 Tryz.prog Z8 Z8 (Z0 .i64) x3] (Ze v2 121 Z8 x1) (fun _ : Unit => top) (fun _ => Ze v2 121 Z8 r) := by
 refine Con.intro Tryz.func219 rfl Tryz.ntmps219 rfl fun w H X => ?_
 unfold Zib at h
 obtain ⟨l4, hl4, h⟩ := Z9 h
 refine Rg <| Mw rfl <| Mw rfl <| Ac (Z6w 0 rfl rfl Z0g (vt rfl) rfl) rfl <| Ac (Zh (A := fn2 Tryz.prog Z8 Z8 (Z0 .i64) x3) rfl rfl (vt rfl)) rfl <| Cv rfl (Z0u 0 (xs := [.tmp 4, .tmp 6, .tmp 7]) (Zv8 _ _ _ _ _ hl4) Zou rfl rfl ⟨vt rfl, vt rfl, vt rfl, trivial⟩ rfl) fun _u => Nl ?_
 cases h; exact Z1l (i := 0) Tryz.results219 rfl rfl
def Zim (a1 : Action) (b2 : Action) : Option Int :=
 (Z7v a1).bind fun x5 => (Z7v b2).bind fun x6 => (Zan x5.kind).bind fun x9 => (Zan x6.kind).bind fun x10 => (bif (decide ((IntKind.i64.wrap (x9 - x10)) ≠ 0)) then some (IntKind.i64.wrap (x9 - x10)) else (bif (decide (x5.field < x6.field)) then some (-1) else (bif (decide (x5.field > x6.field)) then some 1 else some 0)))
theorem Zva : Q2 Tryz.prog 220 (rd Z8) (rd Z8) (rd (Z0 .i64)) Zim := fun a1 b2 r h => I0 Tryz.func220 rfl Tryz.ntmps220 rfl fun w H => by
 unfold Zim at h
 refine SR <| Cv rfl (Zs 3 rfl rfl (vt rfl)) fun g3 => Cv rfl (Zs 4 rfl rfl (vt rfl)) fun g4 => Ak rfl <| Nl <| sq ?_
 obtain ⟨x5, hx5, x6, hx6, h⟩ := bs2 h
 refine AR Z01 (by kernel_rfl) <| Zu Z0f 3 rfl <| SCl [8] (Zeu _ _ hx5) Zc1 rfl <| Zu Z0f 4 rfl <| SCl [10] (Zeu _ _ hx6) Zc1 rfl <| Sd (Z2c (us := [(5, Z2x 275 Z3s Zex)]) (ur := []) [] [] rfl fun S hs hr => Zb3 rfl rfl rfl Zaz) <| Sd (Z2c (us := [(6, Z2x 275 Z3s Zex)]) (ur := []) [] [] rfl fun S hs hr => Zb3 rfl rfl rfl Zaz) <| Sd (Z2c (us := [(5, Z2x 275 Z3s x5)]) (ur := []) [5, 9] [] rfl fun S hs hr => Zb5 rfl rfl Z72 ((hs 5 rfl).trans rfl) (vh hs 9 rfl rfl)) <| Sd (Z2c (us := [(6, Z2x 275 Z3s x6)]) (ur := []) [6, 11] [] rfl fun S hs hr => Zb5 rfl rfl Z72 ((hs 6 rfl).trans rfl) (vh hs 11 rfl rfl)) <| Sn <| AW.unpackP 5 6 rfl rfl fun g7 => AW.unpackP 6 7 rfl rfl fun g8 => sq <| sq ?_
 obtain ⟨x9, hx9, x10, hx10, h⟩ := bs2 h
 refine AR Z01 (by kernel_rfl) <| SFd laset_spot_0 Zm2 rfl <| Zu Zm 6 rfl <| SCl [13] (Zhy _ _ hx9) Zhu rfl <| SFd laset_spot_0 Zm2 rfl <| Zu Zm 7 rfl <| SCl [16] (Zhy _ _ hx10) Zhu rfl <| Sd (lo [14, 17] [] rfl fun S hs hr => Z0j rfl rfl (vh hs 14 rfl rfl) (vh hs 17 rfl rfl)) <| SAs rfl <| Sn <| SR <| Md rfl <| Ac (Z24 rfl rfl (vt rfl) (vk rfl)) rfl <| Nl <| Cq rfl h (fun h => ?_) (fun h => ?_)
 ·refine SR <| Md rfl <| As rfl <| Nl <| rt ?_
  cases h; exact Zc Tryz.results220 rfl (Zb rfl)
 ·refine sk <| sq <| bk <| SR <| Zt laset_spot_1 Zed rfl <| Ld Zm 6 rfl <| Zt laset_spot_1 Zed rfl <| Ld Zm 7 rfl <| Ac (Zl rfl rfl (vt rfl) (vt rfl)) rfl <| As rfl <| Nl <| Cq rfl h (fun h => ?_) (fun h => ?_)
  ·refine SR <| Ak rfl <| Nl <| rt ?_
   cases h; exact Zc Tryz.results220 rfl (Zb rfl)
  ·refine SR <| Zt laset_spot_1 Zed rfl <| Ld Zm 6 rfl <| Zt laset_spot_1 Zed rfl <| Ld Zm 7 rfl <| Ac (Z3o rfl rfl (vt rfl) (vt rfl)) rfl <| As rfl <| Nl <| Cq rfl h (fun h => ?_) (fun h => ?_)
   ·refine SR <| Ak rfl <| Nl <| rt ?_
    cases h; exact Zc Tryz.results220 rfl (Zb rfl)
   ·refine sk <| SR <| Ak rfl <| Nl <| rt ?_
    cases h; exact Zc Tryz.results220 rfl (Zb rfl)
def Zgq (s1 : (List Action)) : Option (List Action) :=
 (Zfk s1 Zff).bind fun x2 => (Z6s s1).bind fun x4 => (Zhc x4 (fun x => Zdg x x2)).bind fun x6 => (Zib x6 Zim).bind fun l8 => some l8
theorem Zut : Q1 Tryz.prog 149 (rd (Z1 Z8)) (rd (Z1 Z8)) Zgq := fun s1 r h => I0 Tryz.func149 rfl Tryz.ntmps149 rfl fun w H => by
 unfold Zgq at h
 refine SR <| Ac (Z0i (A := rd (Z1 Z8) []) rfl rfl Z2u) rfl <| Nl <| sq ?_
 obtain ⟨x2, hx2, h⟩ := Z9 h
 refine Rg <| Md rfl <| Ac (Z0k (xs := [.tmp 5, .func 214]) (Y10 _ _ _ hx2) Zpb rfl rfl ⟨vt rfl, vf1 Y1m Zyj, trivial⟩) rfl <| Cv rfl (Zn 4 rfl rfl zr4) fun g3 => Zg ty4 4 rfl <| Nl <| sq <| AW.freezeB 3 4 rfl rfl rfl ?_
 obtain ⟨x4, hx4, x6, hx6, h⟩ := bs2 h
 refine Rg <| Md rfl <| Cv rfl (Z0u 1001 (xs := [.tmp 7]) (Zfs _ _ hx4) Zd2 rfl rfl ⟨vt rfl, trivial⟩ rfl) fun v5 => Ac (Z53 (cs := [.tmp 3]) (CAs := [rp Z6 x2]) (fun x => Zdg x x2) rfl rfl Y1i ⟨vt rfl, trivial⟩ (fun x y h => Zql _ _ y h)) rfl <| Cv rfl (Z0u 1001 (xs := [.tmp 8, .tmp 9]) (Y06 _ _ _ _ hx6) Zul rfl rfl ⟨vt rfl, vt rfl, trivial⟩ rfl) fun v7 => Aw rfl <| Nl <| sq ?_
 obtain ⟨l8, hl8, h⟩ := Z9 h
 refine Rg <| Mw rfl <| Cv rfl (Z0u 1001 (xs := [.tmp 11, .func 220]) (Zvc _ _ _ _ hl8) Zw2 rfl rfl ⟨vt rfl, vf2 Zws Zva, trivial⟩ rfl) fun _u => Nl <| SR <| Mw rfl <| Aw rfl <| Nl <| AW.freezes [2, 4, 10, 11, 13] 1001 rfl ⟨rfl, rfl, rfl, rfl, rfl, trivial⟩ rfl <| rt ?_
 cases h; exact Zc Tryz.results149 rfl (Zb rfl)
end Go.Proofs.YtknpgojdkobgjaaGreat.W
set_option maxRecDepth 4000
namespace Go.Proofs.YtknpgojdkobgjaaGreat.W
open Go Go.Wb
theorem Z8r : Ent Tryz.prog 204 := Ent.mk Tryz.func204 rfl rfl
theorem Y0a : Ent Tryz.prog 149 := Ent.mk Tryz.func149 rfl rfl
theorem Zmh : Ent Tryz.prog 205 := Ent.mk Tryz.func205 rfl rfl
theorem Zqg : Ent Tryz.prog 206 := Ent.mk Tryz.func206 rfl rfl
theorem Zo1 : Ent Tryz.prog 208 := Ent.mk Tryz.func208 rfl rfl
theorem Y0e : Ent Tryz.prog 135 := Ent.mk Tryz.func135 rfl rfl
theorem Zle : Ent Tryz.prog 138 := Ent.mk Tryz.func138 rfl rfl
theorem Zw6 : Ent Tryz.prog 136 := Ent.mk Tryz.func136 rfl rfl
theorem Zoq : Ent Tryz.prog 137 := Ent.mk Tryz.func137 rfl rfl
theorem e76 : Ent Tryz.prog 76 := Ent.mk Tryz.func76 rfl rfl
theorem e75 : Ent Tryz.prog 75 := Ent.mk Tryz.func75 rfl rfl
theorem Ztn : Ent Tryz.prog 146 := Ent.mk Tryz.func146 rfl rfl
theorem e22 : Ent Tryz.prog 22 := Ent.mk Tryz.func22 rfl rfl
theorem e85 : Ent Tryz.prog 85 := Ent.mk Tryz.func85 rfl rfl
def Zbm (l3 : (List Inst)) (a2 : Int) (b9 : walk_way) : Option (walk_way × Int × Bool) :=
 (Z6d l3 1).bind fun x10 => (bif ((x10.2 && (decide (x10.1.Table > a2))) && (decide (x10.1.Table < 4))) then some (b9, x10.1.Table, true) else (Zgq b9.set).bind fun x12 => (Zcc b9 x12).bind fun x13 => some (x13, 0, false))
def Zdv (l3 : (List Inst)) (a2 : Int) (b8 : walk_way) : Option (walk_way × Int × Bool) :=
 (Z6d l3 2).bind fun x14 => (bif x14.2 then (Z63 b8.got 1 x14.1.Value x14.1.Mask).bind fun x16 => Zbm l3 a2 { b8 with got := x16 } else Zbm l3 a2 b8)
def Zf3 (l3 : (List Inst)) (a2 : Int) (b7 : walk_way) : Option (walk_way × Int × Bool) :=
 (Z6d l3 3).bind fun x17 => (bif x17.2 then (Zh8 b7.set x17.1.Acts).bind fun x19 => Zdv l3 a2 { b7 with set := x19 } else Zdv l3 a2 b7)
def Zdn (l3 : (List Inst)) (a2 : Int) (b6 : walk_way) : Option (walk_way × Int × Bool) :=
 (Z6d l3 5).bind fun x20 => (bif x20.2 then Zf3 l3 a2 { b6 with set := [] } else Zf3 l3 a2 b6)
def Zha (w1 : walk_way) (a2 : Int) (l3 : (List Inst)) : Option (walk_way × Int × Bool) :=
 (Z6d l3 4).bind fun x22 => (bif x22.2 then (Zcc w1 x22.1.Acts).bind fun x24 => Zdn l3 a2 x24 else Zdn l3 a2 w1)
theorem Zyk : Q3 Tryz.prog 137 (rd Z0q) (rd (Z0 .i64)) (rd (Z1 Z16)) (fun r => Z2k (rd Z0q r.1) (rd (Z0 .i64) r.2.1) (rd Z6 r.2.2)) Zha := fun w1 a2 l3 r h => I0 Tryz.func137 rfl Tryz.ntmps137 rfl fun w H => by
 unfold Zha at h
 refine SR <| Cv rfl (Zs 4 rfl rfl (vt rfl)) fun g4 => Cv rfl (Zn 7 rfl rfl Z86) fun g5 => Ak rfl <| Ab rfl <| Nl ?_
 refine JN (d := []) (ν := walk_way) (fun b6 => (Zdn l3 a2 b6 = some r, [(1, rd (Z0 .i64) a2), (2, rd (Z1 Z16) l3), (3, Zj g4 (Lens.id Z0q)), (6, Zj g5 (Lens.id Z0q))], [(4, Zk g4 135 Z0q b6), (7, Zk g5 135 Z0q Z88)])) ?hx1 ?hy1
 case hy1 =>
  intro b6 h
  dsimp only at h ⊢
  unfold Zdn at h
  refine JN (d := []) (ν := walk_way) (fun b7 => (Zf3 l3 a2 b7 = some r, [(1, rd (Z0 .i64) a2), (2, rd (Z1 Z16) l3), (3, Zj g4 (Lens.id Z0q)), (6, Zj g5 (Lens.id Z0q))], [(4, Zk g4 135 Z0q b7), (7, Zk g5 135 Z0q Z88)])) ?hx2 ?hy2
  case hy2 =>
   intro b7 h
   dsimp only at h ⊢
   unfold Zf3 at h
   refine JN (d := []) (ν := walk_way) (fun b8 => (Zdv l3 a2 b8 = some r, [(1, rd (Z0 .i64) a2), (2, rd (Z1 Z16) l3), (3, Zj g4 (Lens.id Z0q)), (6, Zj g5 (Lens.id Z0q))], [(4, Zk g4 135 Z0q b8), (7, Zk g5 135 Z0q Z88)])) ?hx3 ?hy3
   case hy3 =>
    intro b8 h
    dsimp only at h ⊢
    unfold Zdv at h
    refine JN (d := []) (ν := walk_way) (fun b9 => (Zbm l3 a2 b9 = some r, [(1, rd (Z0 .i64) a2), (2, rd (Z1 Z16) l3), (3, Zj g4 (Lens.id Z0q)), (6, Zj g5 (Lens.id Z0q))], [(4, Zk g4 135 Z0q b9), (7, Zk g5 135 Z0q Z88)])) ?hx4 ?hy4
    case hy4 =>
     intro b9 h
     dsimp only at h ⊢
     unfold Zbm at h
     refine sq ?_
     obtain ⟨x10, hx10, h⟩ := Z9 h
     refine Rg <| Md rfl <| Ac (Z0k (xs := [.tmp 63, .const (Value.int IntKind.i64 1)]) (Z9h _ _ _ hx10) Z8r rfl rfl ⟨vt rfl, vk rfl, trivial⟩) rfl <| Mt2 rfl <| Ac (Z20 rfl rfl (vt rfl)) rfl <| Ac (Z22 rfl rfl (vt rfl)) rfl <| Cv rfl (Zn 18 rfl rfl Z3i) fun g11 => Zg Z3g 18 rfl <| As rfl <| Nl <| sq <| SR <| Md rfl <| Md rfl <| Gd rfl (fun hq => Z0l lInst_1 rfl rfl Zho (vt rfl)) <| Gd rfl (fun hq => Z0d rfl rfl Zm (Z5 rfl hq) (i := 18) rfl) <| Gd rfl (fun hq => Zh (A := rd (Z0 .i64) a2) rfl rfl (vt rfl)) <| Gd rfl (fun hq => Z3o rfl rfl (Z5 rfl hq) (Z5 rfl hq)) <| Ac (Z0p rfl rfl (vt rfl) (vt rfl)) rfl <| Md rfl <| Gd rfl (fun hq => Z0l lInst_1 rfl rfl Zho (vt rfl)) <| Gd rfl (fun hq => Z0d rfl rfl Zm (Z5 rfl hq) (i := 18) rfl) <| Gd rfl (fun hq => Zl rfl rfl (Z5 rfl hq) (vk rfl)) <| Ac (Z0p rfl rfl (vt rfl) (vt rfl)) rfl <| Nl <| Cq rfl h (fun h => ?_) (fun h => ?_)
     ·refine sq <| AR Z01 (by kernel_rfl) <| Zu Z1w 4 rfl <| SFd lInst_1 Zho rfl <| Zu Zm 18 rfl <| SSt Z1w 7 rfl <| SAs rfl <| Sd (lo [] [] rfl fun S hs hr => Z0i (A := rd Z6 true) rfl rfl vb) <| Sn <| rt ?_
      cases h; exact Zc5 Tryz.results137 rfl (Z00 rfl (i := 7) rfl Z1w) (Zb rfl) (Zb rfl)
     ·refine sk <| sq ?_
      obtain ⟨x12, hx12, x13, hx13, h⟩ := bs2 h
      refine AR Z01 (by kernel_rfl) <| Zu Z1w 4 rfl <| SFd Z99 Zcv rfl <| Zu Z30 4 rfl <| SCl [84] (Zut _ _ hx12) Y0a rfl <| SCl [82, 85] (Znw _ _ _ hx13) Zmh rfl <| SSt Z1w 7 rfl <| Sd (lo [] [] rfl fun S hs hr => Z0i (A := rd (Z0 .i64) 0) rfl rfl (vk rfl)) <| Sd (lo [] [] rfl fun S hs hr => Z0i (A := rd Z6 false) rfl rfl vb) <| Sn <| rt ?_
      cases h; exact Zc5 Tryz.results137 rfl (Z00 rfl (i := 7) rfl Z1w) (Zb rfl) (Zb rfl)
    case hx4 =>
     refine sq ?_
     obtain ⟨x14, hx14, h⟩ := Z9 h
     refine Rg <| Md rfl <| Ac (Z0k (xs := [.tmp 49, .const (Value.int IntKind.i64 2)]) (Z9h _ _ _ hx14) Z8r rfl rfl ⟨vt rfl, vk rfl, trivial⟩) rfl <| Mt2 rfl <| Ac (Z20 rfl rfl (vt rfl)) rfl <| Ac (Z22 rfl rfl (vt rfl)) rfl <| Cv rfl (Zn 16 rfl rfl Z3i) fun g15 => Zg Z3g 16 rfl <| As rfl <| Nl <| SR <| Md rfl <| Nl <| Cq rfl h (fun h => ?_) (fun h => ?_)
     ·obtain ⟨x16, hx16, h⟩ := Z9 h
      refine Rg <| Zt lwalk_way_1 Zac rfl <| Ld Z07 4 rfl <| Zt Zmy Zy3 rfl <| Ld Zw 16 rfl <| Zt Zmo Zus rfl <| Ld Zw 16 rfl <| Ac (Z0k (xs := [.tmp 55, .const (Value.int IntKind.i64 1), .tmp 57, .tmp 59]) (Zad _ _ _ _ _ hx16) Zak rfl rfl ⟨vt rfl, vk rfl, vt rfl, vt rfl, trivial⟩) rfl <| Zt lwalk_way_1 Zac rfl <| Zg Z07 4 rfl <| Nl ?_
      exact ⟨_, h, FX rfl⟩
     ·refine sk ?_
      exact ⟨_, h, FX rfl⟩
   case hx3 =>
    refine sq ?_
    obtain ⟨x17, hx17, h⟩ := Z9 h
    refine Rg <| Md rfl <| Ac (Z0k (xs := [.tmp 37, .const (Value.int IntKind.i64 3)]) (Z9h _ _ _ hx17) Z8r rfl rfl ⟨vt rfl, vk rfl, trivial⟩) rfl <| Mt2 rfl <| Ac (Z20 rfl rfl (vt rfl)) rfl <| Ac (Z22 rfl rfl (vt rfl)) rfl <| Cv rfl (Zn 14 rfl rfl Z3i) fun g18 => Zg Z3g 14 rfl <| As rfl <| Nl <| SR <| Md rfl <| Nl <| Cq rfl h (fun h => ?_) (fun h => ?_)
    ·obtain ⟨x19, hx19, h⟩ := Z9 h
     refine Rg <| Zt Z99 Zcv rfl <| Ld Z30 4 rfl <| Zt lInst_4 Zda rfl <| Ld Z30 14 rfl <| Cl [43, 45] (Zsy _ _ _ hx19) Zqg rfl <| Zt Z99 Zcv rfl <| Zg Z30 4 rfl <| Nl ?_
     exact ⟨_, h, FX rfl⟩
    ·refine sk ?_
     exact ⟨_, h, FX rfl⟩
  case hx2 =>
   refine sq ?_
   obtain ⟨x20, hx20, h⟩ := Z9 h
   refine Rg <| Md rfl <| Ac (Z0k (xs := [.tmp 30, .const (Value.int IntKind.i64 5)]) (Z9h _ _ _ hx20) Z8r rfl rfl ⟨vt rfl, vk rfl, trivial⟩) rfl <| Mt2 rfl <| Ac (Z20 rfl rfl (vt rfl)) rfl <| Ac (Z22 rfl rfl (vt rfl)) rfl <| Cv rfl (Zn 12 rfl rfl Z3i) fun g21 => Zg Z3g 12 rfl <| As rfl <| Nl <| SR <| Md rfl <| Nl <| Cq rfl h (fun h => ?_) (fun h => ?_)
   ·refine Rg <| Zt Z99 Zcv rfl <| Ac (Z6e rfl rfl Z30 (vt rfl) (i := 4) rfl Z2u) rfl <| Nl ?_
    exact ⟨_, h, FX rfl⟩
   ·refine sk ?_
    exact ⟨_, h, FX rfl⟩
 case hx1 =>
  refine sq ?_
  obtain ⟨x22, hx22, h⟩ := Z9 h
  refine Rg <| Md rfl <| Ac (Z0k (xs := [.tmp 20, .const (Value.int IntKind.i64 4)]) (Z9h _ _ _ hx22) Z8r rfl rfl ⟨vt rfl, vk rfl, trivial⟩) rfl <| Mt2 rfl <| Ac (Z20 rfl rfl (vt rfl)) rfl <| Ac (Z22 rfl rfl (vt rfl)) rfl <| Cv rfl (Zn 10 rfl rfl Z3i) fun g23 => Zg Z3g 10 rfl <| As rfl <| Nl <| SR <| Md rfl <| Nl <| Cq rfl h (fun h => ?_) (fun h => ?_)
  ·obtain ⟨x24, hx24, h⟩ := Z9 h
   refine Rg <| Ld Z1w 4 rfl <| Zt lInst_4 Zda rfl <| Ld Z30 10 rfl <| Cl [25, 27] (Znw _ _ _ hx24) Zmh rfl <| Zg Z1w 4 rfl <| Nl ?_
   exact ⟨_, h, FX rfl⟩
  ·refine sk ?_
   exact ⟨_, h, FX rfl⟩
def Zax (s : List Atom) : Option (List Atom) := Z2b [] s
theorem Zza (s : List Atom) (r : List Atom) (h : Zax s = some r) : Con Tryz.prog 208 [rd (Z1 Z03) s] emp (fun v => Zf v) (fun v => Ze v 126 Z03 r) := by
 refine Con.intro0 Tryz.func208 rfl Tryz.ntmps208 rfl fun w H => ?_
 unfold Zax at h
 refine AW.newnil 1001 126 Z03 <| SR <| Ac (Z0i (A := Zf (.slice none 0 0)) rfl rfl vc) rfl <| Nl <| sq <| SR <| Md rfl <| Ct rfl (Z9v rfl rfl Z1q (vt rfl)) ?_
 rintro _ ⟨b, hb, rfl⟩
 refine Nl <| Cn rfl (fun hc => ?_) (fun hc => ?_)
 ·obtain rfl := hb hc
  refine SR <| Ac (Z0i (A := Zf (.slice none 0 0)) rfl rfl vc) rfl <| Nl <| rt ?_
  obtain rfl := (Z54 h).2
  exact Z3e (i := 1001) Tryz.results208 rfl rfl rfl
 ·refine sk <| SR <| Cv rfl (Za0 1002 (ps := []) (l := []) rfl rfl Z1q Z7b rfl rfl rfl rfl) fun v1 => Md rfl <| Cv rfl (Z3w 1002 h rfl rfl Zfi (vt rfl) rfl (vt rfl)) fun v2 => Aw rfl <| Nl <| rt ?_
  exact Z3e (i := 1002) Tryz.results208 rfl rfl rfl
theorem Znr (s : List Atom) (r : List Atom) (h : Zax s = some r) : PCon Tryz.prog 208 [rd (Z1 Z03) s] (rd (Z1 Z03) r) := PCon.of_row (Zza s r h)
def Ze0 (w1 : walk_way) : Option Rule :=
 (Zax w1.atoms).bind fun x4 => some (⟨w1.cube, x4⟩ : Rule)
theorem Zji : Q1 Tryz.prog 138 (rd Z0q) (rd Zv) Ze0 := fun w1 r h => I0 Tryz.func138 rfl Tryz.ntmps138 rfl fun w H => by
 unfold Ze0 at h
 refine SR <| Cv rfl (Zs 2 rfl rfl (vt rfl)) fun g2 => Cv rfl (Zn 3 rfl rfl Z4g) fun g3 => Nl <| sq ?_
 obtain ⟨x4, hx4, h⟩ := Z9 h
 refine AR Z01 (by kernel_rfl) <| SFd lwalk_way_0 Zi0 rfl <| Zu Zy 2 rfl <| SFd Z77 Zbe rfl <| Zu Z3b 2 rfl <| SCl [6] (Znr _ _ hx4) Zo1 rfl <| Sd (lo [4, 7] [] rfl fun S hs hr => opb (⟨w1.cube, x4⟩ : Rule) Z4g rfl Zqo (pc Zqc (vh hs 4 rfl rfl) <| pc Zuy (vh hs 7 rfl rfl) <| pn rfl)) <| SSt Z2t 3 rfl <| Sn <| rt ?_
 cases h; exact Zc Tryz.results138 rfl (Z00 rfl (i := 3) rfl Z2t)
def Zcs (sg : Type) (go1 : Nat → (Lp sg) → Option (Bool × Lp sg)) (i11 : Nat) (s22 : (Lp sg)) (o23 : Bool) : Option (Bool × Lp sg) :=
 (bif (!o23) then some (false, s22) else go1 (i11 + 1) s22)
def Z5n (sg : Type) (w5 : walk_way) (y1 : (sg → Rule → Option (Lp sg))) (a4 : Int) (s3 : Switch) (R_walk_search_table : ((Lp sg) → Switch → Int → walk_way → Option (Bool × Lp sg))) : (List Int) → Nat → (Lp sg) → Option (Bool × Lp sg)
 | [], i11, s10 => (Ze0 w5).bind fun x13 => (yc y1 s10 x13).bind fun s14 => some ((Lp.isGo s14), s14)
 | x15 :: l12, i11, s10 => (chk 4 a4).bind fun j16 => (lget (Vector.get s3.Tables j16) x15).bind fun x17 => (Zft w5 x17).bind fun x19 => (bif (!x19.2) then (Z5n sg w5 y1 a4 s3 R_walk_search_table l12) (i11 + 1) s10 else (Zha x19.1 a4 x17.Insts).bind fun x21 => (bif x21.2.2 then (R_walk_search_table s10 s3 x21.2.1 x21.1).bind fun b24 => Zcs sg (Z5n sg w5 y1 a4 s3 R_walk_search_table l12) i11 b24.2 b24.1 else (Ze0 x21.1).bind fun x25 => (yc y1 s10 x25).bind fun s26 => Zcs sg (Z5n sg w5 y1 a4 s3 R_walk_search_table l12) i11 s26 (Lp.isGo s26)))
def Zis (sg : Type) (y1 : (sg → Rule → Option (Lp sg))) (R_walk_search_table : ((Lp sg) → Switch → Int → walk_way → Option (Bool × Lp sg))) (s2 : (Lp sg)) (s3 : Switch) (a4 : Int) (w5 : walk_way) : Option (Bool × Lp sg) :=
 (chk 4 a4).bind fun j7 => (Zhz (Vector.get s3.Tables j7)).bind fun x8 => Z5n sg w5 y1 a4 s3 R_walk_search_table x8 0 s2
theorem Zsb (sg : Type) (y1 : (sg → Rule → Option (Lp sg))) (L : Lp sg → Zp) (R_walk_search_table : ((Lp sg) → Switch → Int → walk_way → Option (Bool × Lp sg))) (hR_walk_search_table : ∀ (s2 : (Lp sg)) (s3 : Switch) (a4 : Int) (w5 : walk_way) (r : (Bool × Lp sg)), R_walk_search_table s2 s3 a4 w5 = some r → Con Tryz.prog 76 [rp (ksp Z18 (ydA Tryz.prog Zv y1 L)) s3, rd (Z0 .i64) a4, rd Z0q w5] (L s2) (fun _ : Unit => rd Z6 r.1) (fun _ => L r.2)) (s2 : (Lp sg)) (s3 : Switch) (a4 : Int) (w5 : walk_way) (r : (Bool × Lp sg)) (h : Zis sg y1 R_walk_search_table s2 s3 a4 w5 = some r) : Con Tryz.prog 76 [rp (ksp Z18 (ydA Tryz.prog Zv y1 L)) s3, rd (Z0 .i64) a4, rd Z0q w5] (L s2) (fun _ : Unit => rd Z6 r.1) (fun _ => L r.2) := by
 refine Con.intro Tryz.func76 rfl Tryz.ntmps76 rfl fun w H X => ?_
 unfold Zis at h
 refine SR <| Cv rfl (Zs 6 rfl rfl (vt rfl)) fun g6 => Ab rfl <| Nl <| AW.scope <| sq <| AW.label <| sq <| sq ?_
 obtain ⟨j7, hj7, x8, hx8, h⟩ := bs2 h
 refine Rg <| Mr rfl <| Md rfl <| Ac (Zbk rfl rfl (vt rfl)) rfl <| Ac (Z1i (Zfw Z18 (ydA Tryz.prog Zv y1 L)) rfl rfl (Zli _) (vt rfl)) rfl <| Fp Zba Zes rfl <| Ac (Z3x rfl rfl Ze2 (vt rfl) (vt rfl) hj7) rfl <| Lp1 Z4c rfl <| Cl [20] (Zux _ _ hx8) Y0e rfl <| Ac (Z0a rfl rfl Z0w (vt rfl)) rfl <| Mk rfl <| Nl <| bk <| LG (d := []) (ν := (List Int) × Nat × (Lp sg)) (fun (l12, i11, s10) => (Sfx x8 i11 l12 ∧ Z5n sg w5 y1 a4 s3 R_walk_search_table l12 i11 s10 = some r, l12.length, [(0, rp (ksp Z18 (ydA Tryz.prog Zv y1 L)) s3), (1, rd (Z0 .i64) a4), (5, Zj g6 (Lens.id Z0q)), (21, rd (Z1 (Z0 .i64)) x8), (22, rd (Z0 .i64) (x8.length : Int)), (23, rd (Z0 .i64) (i11 : Int))], [(0, L s10), (6, Zk g6 135 Z0q w5)])) (x8, 0, s2) ⟨Sfx.start _, h⟩ (FX rfl) ?_
 rintro ⟨l12, i11, s10⟩ ⟨hsf1, h⟩
 dsimp only at hsf1 h ⊢
 cases l12 with
 | nil =>
  unfold Z5n at h
  refine SR <| Ac (Zl rfl rfl (vt rfl) (vt rfl)) rfl <| Nl <| sq <| Cn rfl (fun hc => absurd (of_decide_eq_true hc) hsf1.nil) (fun hc => ?_)
  refine xt <| sq ?_
  obtain ⟨x13, hx13, s14, hs14, h⟩ := bs2 h
  refine AR Z01 (by kernel_rfl) <| Sd (lo [0] [] rfl fun S hs hr => Zh (A := rp (ksp Z18 (ydA Tryz.prog Zv y1 L)) s3) rfl rfl (vh hs 0 rfl rfl)) <| Sd (lo [69] [] rfl fun S hs hr => Zbk rfl rfl (vh hs 69 rfl rfl)) <| Sd (lo [70] [] rfl fun S hs hr => Z1i (Zfp Z18 (ydA Tryz.prog Zv y1 L)) rfl rfl (Zld _) (vh hs 70 rfl rfl)) <| Sd (lo [71] [] rfl fun S hs hr => Zkv (A := ydA Tryz.prog Zv y1 L) rfl rfl rfl (Zmu _) (vh hs 71 rfl rfl)) <| Zu Z1w 6 rfl <| SCl [73] (Zji _ _ hx13) Zle rfl <| Sd (Z2c (us := [(75, rd Z6 (Lp.isGo s14))]) (ur := [(0, L s14)]) [72, 74] [0] rfl fun S hs hr => Zca 0 hs14 rfl rfl (vh hs 72 rfl rfl) (vh hs 74 rfl rfl) ((hr 0 rfl).trans rfl)) <| SAs rfl <| Sn <| rt ?_
  cases h; exact Zbt (i := 0) Tryz.results76 rfl (Zb rfl) rfl
 | cons x15 l12 =>
  unfold Z5n at h
  refine SR <| Ac (Zl rfl rfl (vt rfl) (vt rfl)) rfl <| Nl <| sq <| Cn rfl (fun hc => ?_) (fun hc => absurd hsf1.cons (of_decide_eq_false hc))
  have hlti11 := of_decide_eq_true hc
  refine sk <| sq <| bk <| SR <| Ac (Z04 rfl rfl Z0w (vt rfl) (vt rfl) hsf1.lget) rfl <| Lp1 Zm rfl <| As rfl <| Nl <| sq ?_
  obtain ⟨j16, hj16, x17, hx17, h⟩ := bs2 h
  refine Rg <| Mr rfl <| Md rfl <| Ac (Zbk rfl rfl (vt rfl)) rfl <| Ac (Z1i (Zfw Z18 (ydA Tryz.prog Zv y1 L)) rfl rfl (Zli _) (vt rfl)) rfl <| Fp Zba Zes rfl <| Ac (Z3x rfl rfl Ze2 (vt rfl) (vt rfl) hj16) rfl <| Lp1 Z4c rfl <| Md rfl <| Ac (Z04 rfl rfl Z4w (vt rfl) (vt rfl) hx17) rfl <| Lp1 Zbp rfl <| Cv rfl (Zn 10 rfl rfl Z6z) fun g18 => Zg Zbp 10 rfl <| Nl <| sq ?_
  obtain ⟨x19, hx19, h⟩ := Z9 h
  refine Rg <| Ld Z1w 6 rfl <| Ld Zbp 10 rfl <| Cl [38, 39] (Zwm _ _ _ hx19) Zw6 rfl <| Mt2 rfl <| Ac (Z20 rfl rfl (vt rfl)) rfl <| Ac (Z22 rfl rfl (vt rfl)) rfl <| Cv rfl (Zn 11 rfl rfl Z86) fun g20 => Zg Z1w 11 rfl <| As rfl <| Nl <| sq <| SR <| Md rfl <| Ac (Z0m rfl rfl (vt rfl)) rfl <| Nl <| Cq rfl h (fun h => ?_) (fun h => ?_)
  ·refine xt <| Rg <| Ac (Z0y (t := 22) rfl rfl (vt rfl) (vk rfl) (vt rfl) hlti11) rfl <| Md rfl <| Nl ?_
   exact ⟨(_, _, _), Nat.lt_succ_self _, ⟨hsf1.next, h⟩, FX rfl⟩
  ·refine sk <| sq ?_
   obtain ⟨x21, hx21, h⟩ := Z9 h
   refine Rg <| Ld Z1w 11 rfl <| Md rfl <| Zt lFlow_6 Y1u rfl <| Ld Y1c 10 rfl <| Cl [46, 47, 49] (Zyk _ _ _ _ hx21) Zoq rfl <| Ac (Zh (A := Z2k (rd Z0q x21.1) (rd (Z0 .i64) x21.2.1) (rd Z6 x21.2.2)) rfl rfl (vt rfl)) rfl <| Ac (Zd6 rfl rfl (vt rfl)) rfl <| Ac (Zej rfl rfl (vt rfl)) rfl <| Ac (Zc9 rfl rfl (vt rfl)) rfl <| Zg Z1w 11 rfl <| As rfl <| As rfl <| Nl ?_
   refine JN (d := []) (ν := (Lp sg) × Bool) (fun (s22, o23) => (Zcs sg (Z5n sg w5 y1 a4 s3 R_walk_search_table l12) i11 s22 o23 = some r, [(0, rp (ksp Z18 (ydA Tryz.prog Zv y1 L)) s3), (1, rd (Z0 .i64) a4), (5, Zj g6 (Lens.id Z0q)), (11, rd Z6 o23), (21, rd (Z1 (Z0 .i64)) x8), (22, rd (Z0 .i64) (x8.length : Int)), (23, rd (Z0 .i64) (i11 : Int))], [(0, L s22), (6, Zk g6 135 Z0q w5)])) ?hx2 ?hy2
   case hy2 =>
    rintro ⟨s22, o23⟩ h
    dsimp only at h ⊢
    unfold Zcs at h
    refine SR <| Md rfl <| Ac (Z0m rfl rfl (vt rfl)) rfl <| Nl <| Cq rfl h (fun h => ?_) (fun h => ?_)
    ·refine SR <| Ab rfl <| Nl <| rt ?_
     cases h; exact Zbt (i := 0) Tryz.results76 rfl (Zb rfl) rfl
    ·refine sk <| Rg <| Ac (Z0y (t := 22) rfl rfl (vt rfl) (vk rfl) (vt rfl) hlti11) rfl <| Md rfl <| Nl ?_
     exact ⟨(_, _, _), Nat.lt_succ_self _, ⟨hsf1.next, h⟩, FX rfl⟩
   case hx2 =>
    refine SR <| Md rfl <| Nl <| Cq rfl h (fun h => ?_) (fun h => ?_)
    ·obtain ⟨b24, hb24, h⟩ := Z9 h
     refine Rg <| Mr rfl <| Md rfl <| Ld Z1w 11 rfl <| Cv rfl (Z0u 0 (xs := [.tmp 55, .tmp 56, .tmp 57]) (hR_walk_search_table _ _ _ _ _ hb24) e76 rfl rfl ⟨vt rfl, vt rfl, vt rfl, trivial⟩ rfl) fun _u => As rfl <| Nl ?_
     exact ⟨(_, _), h, FX rfl⟩
    ·obtain ⟨x25, hx25, s26, hs26, h⟩ := bs2 h
     refine AR Z01 (by kernel_rfl) <| Sd (lo [0] [] rfl fun S hs hr => Zh (A := rp (ksp Z18 (ydA Tryz.prog Zv y1 L)) s3) rfl rfl (vh hs 0 rfl rfl)) <| Sd (lo [59] [] rfl fun S hs hr => Zbk rfl rfl (vh hs 59 rfl rfl)) <| Sd (lo [60] [] rfl fun S hs hr => Z1i (Zfp Z18 (ydA Tryz.prog Zv y1 L)) rfl rfl (Zld _) (vh hs 60 rfl rfl)) <| Sd (lo [61] [] rfl fun S hs hr => Zkv (A := ydA Tryz.prog Zv y1 L) rfl rfl rfl (Zmu _) (vh hs 61 rfl rfl)) <| Zu Z1w 11 rfl <| SCl [63] (Zji _ _ hx25) Zle rfl <| Sd (Z2c (us := [(65, rd Z6 (Lp.isGo s26))]) (ur := [(0, L s26)]) [62, 64] [0] rfl fun S hs hr => Zca 0 hs26 rfl rfl (vh hs 62 rfl rfl) (vh hs 64 rfl rfl) ((hr 0 rfl).trans rfl)) <| SAs rfl <| Sn ?_
     exact ⟨(_, _), h, FX rfl⟩
def Zc0 (sg : Type) (y1 : (sg → Rule → Option (Lp sg))) : Nat → ((Lp sg) → Switch → Int → walk_way → Option (Bool × Lp sg))
 | 0 => (fun _ _ _ _ => none)
 | n + 1 => Zis sg y1 (Zc0 sg y1 n)
theorem Zoa (sg : Type) (y1 : (sg → Rule → Option (Lp sg))) (L : Lp sg → Zp) : ∀ n : Nat, (∀ (s2 : (Lp sg)) (s3 : Switch) (a4 : Int) (w5 : walk_way) (r : (Bool × Lp sg)), (Zc0 sg y1 n) s2 s3 a4 w5 = some r → Con Tryz.prog 76 [rp (ksp Z18 (ydA Tryz.prog Zv y1 L)) s3, rd (Z0 .i64) a4, rd Z0q w5] (L s2) (fun _ : Unit => rd Z6 r.1) (fun _ => L r.2))
 | 0 => (by intros; rename_i h; cases h)
 | n + 1 => Zsb sg y1 L (Zc0 sg y1 n) (Zoa sg y1 L n)
def Zmw (sg : Type) (y1 : (sg → Rule → Option (Lp sg))) (s2 : (Lp sg)) (s3 : Switch) (a4 : Int) (w5 : walk_way) : Option (Bool × Lp sg) := Zc0 sg y1 Z2i s2 s3 a4 w5
theorem Zwn (sg : Type) (y1 : (sg → Rule → Option (Lp sg))) (L : Lp sg → Zp) : ∀ (s2 : (Lp sg)) (s3 : Switch) (a4 : Int) (w5 : walk_way) (r : (Bool × Lp sg)), (Zmw sg y1) s2 s3 a4 w5 = some r → Con Tryz.prog 76 [rp (ksp Z18 (ydA Tryz.prog Zv y1 L)) s3, rd (Z0 .i64) a4, rd Z0q w5] (L s2) (fun _ : Unit => rd Z6 r.1) (fun _ => L r.2) := Zoa sg y1 L Z2i
def Z9t (sg : Type) (y1 : (sg → Rule → Option (Lp sg))) (s2 : (Lp sg)) (x3 : Switch) : Option (Lp sg) :=
 (Zcd).bind fun x5 => (Zf6).bind fun x6 => (Zmw sg y1 s2 x3 0 (⟨x5, x6, [], []⟩ : walk_way)).bind fun b7 => some b7.2
theorem Zy1 (sg : Type) (y1 : (sg → Rule → Option (Lp sg))) (L : Lp sg → Zp) (s2 : (Lp sg)) (x3 : Switch) (r : (Lp sg)) (h : Z9t sg y1 s2 x3 = some r) : Con Tryz.prog 75 [ydA Tryz.prog Zv y1 L, rp Z18 x3] (L s2) (fun _ : Unit => top) (fun _ => L r) := by
 refine Con.intro Tryz.func75 rfl Tryz.ntmps75 rfl fun w H X => ?_
 unfold Z9t at h
 refine SR <| Lp1 Z5u rfl <| Ac (Zh (A := ydA Tryz.prog Zv y1 L) rfl rfl (vt rfl)) rfl <| Ac (Zy9 (x := x3) rfl rfl (by kernel_rfl) Zv4 (by kernel_rfl) (by kernel_rfl) (vt rfl) rfl) rfl <| Ac (Zzp rfl rfl (vt rfl)) rfl <| Ac (Z0i (A := rp (ksp Z18 (ydA Tryz.prog Zv y1 L)) x3) rfl rfl (vt rfl)) rfl <| Nl ?_
 obtain ⟨x5, hx5, x6, hx6, b7, hb7, h⟩ := bs3 h
 refine Rg <| Mr rfl <| Cl [] (Zm6 _ hx5) e73 rfl <| Cl [] (Zjf _ hx6) e77 rfl <| Ac (opb (⟨x5, x6, [], []⟩ : walk_way) Z86 rfl Zlq (pc Zsz (vt rfl) <| pc Zp6 (vt rfl) <| pn rfl)) rfl <| Cv rfl (Z0u 0 (xs := [.tmp 8, .const (Value.int IntKind.i64 0), .tmp 11]) (Zwn sg y1 L _ _ _ _ _ hb7) e76 rfl rfl ⟨vt rfl, vk rfl, vt rfl, trivial⟩ rfl) fun _u => Nl ?_
 cases h; exact Z1l (i := 0) Tryz.results75 rfl rfl
def Zh2 (s1 : Switch) : Option (Itr Rule) :=
 some (Itr.mk fun σ y s => Z9t σ y s s1)
theorem Zpw : Q1 Tryz.prog 22 (rd Z18) (Z3a Tryz.prog Zv) Zh2 := fun s1 r h => I0 Tryz.func22 rfl Tryz.ntmps22 rfl fun w H => by
 unfold Zh2 at h
 refine SR <| Cv rfl (Zs 2 rfl rfl (vt rfl)) fun g2 => Ac (Z0i (A := Zf .nilFunc) rfl rfl vc) rfl <| Nl <| sq <| AW.freezeB 1 2 rfl rfl rfl <| Rg <| Ac (Zkt (Itr.mk fun σ y s => Z9t σ y s s1) (cs := [.tmp 1]) (CAs := [rp Z18 s1]) rfl rfl e75 ⟨vt rfl, trivial⟩ (fun σ y L s r h => Zy1 σ y L s s1 r h)) rfl <| Ac (Z0i (A := Z3a Tryz.prog Zv (Itr.mk fun σ y s => Z9t σ y s s1)) rfl rfl (vt rfl)) rfl <| Nl <| rt ?_
 cases h; exact Zc Tryz.results22 rfl (Zb rfl)
def Zih (q : Itr Rule) : Option (List Rule) := Zm3 q
theorem Zp1 (q : Itr Rule) (r : List Rule) (h : Zih q = some r) : Con Tryz.prog 146 [Zf (.slice none 0 0), Z3a Tryz.prog Zv q] emp (fun v => Zf v) (fun v => Ze v 90 Zv r) := by
 refine Con.intro0 Tryz.func146 rfl Tryz.ntmps146 rfl fun w H => ?_
 have h := Zz4 h
 refine AW.newnil 1001 90 Zv <| SR <| Cv rfl (Zs (k := kraw) 3 rfl rfl (vkr (vt rfl) rfl)) fun g => Ac (Z0i (A := Zf (.slice none 0 0)) rfl rfl vc) rfl <| AOps.pack 3 1001 (by decide) rfl rfl <| Nl <| sq <| SR <| Ac (Zh (A := Z3a Tryz.prog Zv q) rfl rfl (vt rfl)) rfl <| Nl <| bk <| AW.fit (d := []) (L := [(2, Zj g (Lens.id kraw)), (6, Z3a Tryz.prog Zv q)]) (M := [(3, Z4q g 32 90 Zv [])]) ⟨rfl, ⟨rfl, rfl, trivial⟩, ⟨rfl, trivial⟩⟩ ?_
 refine AW.rangeFunc (fun x => [rd Zv x]) Zi5 (fun s => Z2e [(3, Z4q g 32 90 Zv s)]) (fun _ _ => Z2e []) [(2, Zj g (Lens.id kraw))]
  (fun s x S1 => ∃ g5, Fit S1 [] [(2, Zj g (Lens.id kraw)), (5, Zj g5 (Lens.id Zv))] [(3, Z4q g 32 90 Zv s), (6, Zk g5 90 Zv x)]) 1003 (s0 := []) (sE := .go r)
  rfl (vt rfl) ⟨rfl, inferInstance, trivial⟩ rfl (fun _ => rfl) (by intro p hp; have hp : p ∈ [7] := hp; rw [List.mem_singleton.1 hp]; show 7 < 13; decide) ?ha ?hb (fun Lf => ⟨top, _, _, Lf, _, _, h, rfl, rfl, rfl, rfl⟩) ?he
 case ha =>
  intro s x r' hF l w H X
  refine Rg <| Cv rfl (Zn 6 rfl rfl Z4g) fun g5 => Zg Z2t 6 rfl <| Nl ?_
  exact ⟨rfl, g5, rfl, ⟨rfl, rfl, trivial⟩, ⟨rfl, rfl, trivial⟩⟩
 case hb =>
  rintro s x r' hF S1 ⟨g5, hfit⟩ l w H X
  refine AW.fit hfit <| AW.bodyOf (M := fun s => [(3, Z4q g 32 90 Zv s)]) (Mx := fun _ _ => []) ?_
  obtain ⟨m, hm, hF⟩ := Z9 hF
  cases hF
  refine bk <| AW.unbox 3 1001 (by decide) rfl rfl fun v => Rg <| Ac (Zlv (i := 3) rfl rfl Zgn (vt rfl) rfl) rfl <| Ld Z2t 6 rfl <| Ac (Zce (ps := [(0, .tmp 9)]) (l := [x]) rfl rfl Z1a Z4g rfl rfl ⟨_, _, Lens.idx 1 Zv 0 (by decide), _, rfl, vt rfl, rfl⟩ rfl) rfl <| Cv rfl (Z3w 1001 hm rfl rfl Zhe (vt rfl) rfl (vt rfl)) fun v2 => Ac (Z6e rfl rfl Zgn (vt rfl) (i := 3) rfl (Zra (i := 1001) rfl rfl)) rfl <| AOps.pack 3 1001 (by decide) rfl rfl <| Nl ?_
  exact ⟨_, rfl, rfl, trivial⟩
 case he =>
  intro D
  refine AW.unbox 3 1001 (by decide) rfl rfl fun v => SR <| Ac (Zlv (i := 3) rfl rfl Zgn (vt rfl) rfl) rfl <| Aw rfl <| Nl <| rt ?_
  exact ⟨rfl, 1003, _, rfl, Z3e (i := 1001) Tryz.results146 rfl rfl rfl⟩
theorem Zvn (q : Itr Rule) (r : List Rule) (h : Zih q = some r) : PCon Tryz.prog 146 [Zf (.slice none 0 0), Z3a Tryz.prog Zv q] (rd (Z1 Zv) r) := PCon.of_row (Zp1 q r h)
def Zio (s1 : (Itr Rule)) : Option (List Rule) :=
 (Zih s1).bind fun x2 => some x2
theorem Zyh : Q1 Tryz.prog 85 (Z3a Tryz.prog Zv) (rd (Z1 Zv)) Zio := fun s1 r h => I0 Tryz.func85 rfl Tryz.ntmps85 rfl fun w H => by
 unfold Zio at h
 refine SR <| Ac (Z0i (A := rd (Z1 Zv) []) rfl rfl Z2u) rfl <| Nl <| sq ?_
 obtain ⟨x2, hx2, h⟩ := Z9 h
 refine Rg <| Ac (Zh (A := Z3a Tryz.prog Zv s1) rfl rfl (vt rfl)) rfl <| Ac (Z0k (xs := [.const (Value.slice none 0 0), .tmp 3]) (Zvn _ _ hx2) Ztn rfl rfl ⟨vc, vt rfl, trivial⟩) rfl <| As rfl <| Nl <| rt ?_
 cases h; exact Zc Tryz.results85 rfl (Zb rfl)
def Zdt (s1 : Switch) : Option (List Rule) :=
 (Zh2 s1).bind fun x3 => (Zio x3).bind fun x4 => some x4
theorem Zjn : Q1 Tryz.prog 25 (rd Z18) (rd (Z1 Zv)) Zdt := fun s1 r h => I0 Tryz.func25 rfl Tryz.ntmps25 rfl fun w H => by
 unfold Zdt at h
 refine SR <| Cv rfl (Zs 2 rfl rfl (vt rfl)) fun g2 => Ac (Z0i (A := rd (Z1 Zv) []) rfl rfl Z2u) rfl <| Nl <| sq ?_
 obtain ⟨x3, hx3, x4, hx4, h⟩ := bs2 h
 refine Rg <| Ld Z5u 2 rfl <| Cl [3] (Zpw _ _ hx3) e22 rfl <| Cl [4] (Zyh _ _ hx4) e85 rfl <| As rfl <| Nl <| rt ?_
 cases h; exact Zc Tryz.results25 rfl (Zb rfl)
end Go.Proofs.YtknpgojdkobgjaaGreat.W
set_option maxRecDepth 4000
namespace Go.Proofs.YtknpgojdkobgjaaGreat.W
open Go Go.Wb
theorem e25 : Ent Tryz.prog 25 := Ent.mk Tryz.func25 rfl rfl
theorem Zvx : Ent Tryz.prog 165 := Ent.mk Tryz.func165 rfl rfl
def Zgh (l1 : (List Action)) : Option Bool :=
 some (decide ((l1.length : Int) ≤ 12))
theorem Zuw : Q1 Tryz.prog 165 (rd (Z1 Z8)) (rd Z6) Zgh := fun l1 r h => I0 Tryz.func165 rfl Tryz.ntmps165 rfl fun w H => by
 unfold Zgh at h
 refine SR <| Ab rfl <| Nl <| SR <| Md rfl <| Ac (Z0a rfl rfl Z0g (vt rfl)) rfl <| Ac (Z4s rfl rfl (vt rfl) (vk rfl)) rfl <| As rfl <| Nl <| rt ?_
 cases h; exact Zc Tryz.results165 rfl (Zb rfl)
end Go.Proofs.YtknpgojdkobgjaaGreat.W
set_option maxRecDepth 4000
namespace Go.Proofs.YtknpgojdkobgjaaGreat.W
open Go Go.Wb
theorem Zw7 : Ent Tryz.prog 231 := Ent.mk Tryz.func231 rfl rfl
theorem Zph : Ent Tryz.prog 163 := Ent.mk Tryz.func163 rfl rfl
theorem Zzd : Ent Tryz.prog 164 := Ent.mk Tryz.func164 rfl rfl
theorem Zyw : Ent Tryz.prog 100 := Ent.mk Tryz.func100 rfl rfl
theorem Zjc : Ent Tryz.prog 162 := Ent.mk Tryz.func162 rfl rfl
def Z6i (s1 : (List Bucket)) (x2 : (Bucket → Option Bool)) : Nat → Nat → Option Int
 | 0, i3 => some (-1)
 | m4 + 1, i3 => (lget s1 (i3 : Int)).bind fun x5 => (x2 x5).bind fun x6 => (bif x6 then some (i3 : Int) else (Z6i s1 x2 m4) (i3 + 1))
def Zae (s1 : (List Bucket)) (x2 : (Bucket → Option Bool)) : Option Int :=
 Z6i s1 x2 ((s1.length : Int) : Int).toNat 0
theorem Zxp : Q2 Tryz.prog 231 (rd (Z1 Z0c)) (fn1 Tryz.prog Z0c Z6) (rd (Z0 .i64)) Zae := fun s1 x2 r h => I0 Tryz.func231 rfl Tryz.ntmps231 rfl fun w H => by
 unfold Zae at h
 refine SR <| Ak rfl <| Nl <| sq <| SR <| Md rfl <| Ac (Z0a rfl rfl Z1p (vt rfl)) rfl <| Mk rfl <| Nl <| bk <| LG (d := []) (ν := Nat × Nat) (fun (m4, i3) => (Cnt (s1.length : Int) i3 m4 ∧ Z6i s1 x2 m4 i3 = some r, m4, [(0, rd (Z1 Z0c) s1), (1, fn1 Tryz.prog Z0c Z6 x2), (7, rd (Z0 .i64) (s1.length : Int)), (8, rd (Z0 .i64) (i3 : Int))], [])) (((s1.length : Int) : Int).toNat, 0) ⟨Cnt.start _, h⟩ (FX rfl) ?_
 rintro ⟨m4, i3⟩ ⟨hsf1, h⟩
 dsimp only at hsf1 h ⊢
 cases m4 with
 | zero =>
  unfold Z6i at h
  refine SR <| Ac (Zl rfl rfl (vt rfl) (vt rfl)) rfl <| Nl <| sq <| Cn rfl (fun hc => absurd (of_decide_eq_true hc) hsf1.zero) (fun hc => ?_)
  refine xt <| SR <| Ak rfl <| Nl <| rt ?_
  cases h; exact Zc Tryz.results231 rfl (Zb rfl)
 | succ m4 =>
  unfold Z6i at h
  refine SR <| Ac (Zl rfl rfl (vt rfl) (vt rfl)) rfl <| Nl <| sq <| Cn rfl (fun hc => ?_) (fun hc => absurd hsf1.succ (of_decide_eq_false hc))
  have hlti3 := of_decide_eq_true hc
  refine sk <| sq <| bk <| SR <| Md rfl <| As rfl <| Nl <| sq ?_
  obtain ⟨x5, hx5, x6, hx6, h⟩ := bs2 h
  refine Rg <| Ac (Zh (A := fn1 Tryz.prog Z0c Z6 x2) rfl rfl (vt rfl)) rfl <| Md rfl <| Md rfl <| Ac (Z04 rfl rfl Z1p (vt rfl) (vt rfl) hx5) rfl <| Lp1 Z61 rfl <| Ac (Z5m hx6 rfl rfl (vt rfl) (vt rfl)) rfl <| Nl <| Cq rfl h (fun h => ?_) (fun h => ?_)
  ·refine SR <| Md rfl <| As rfl <| Nl <| rt ?_
   cases h; exact Zc Tryz.results231 rfl (Zb rfl)
  ·refine sk <| Rg <| Ac (Z0y (t := 7) rfl rfl (vt rfl) (vk rfl) (vt rfl) hlti3) rfl <| Md rfl <| Nl ?_
   exact ⟨(_, _), Nat.lt_succ_self _, ⟨hsf1.next, h⟩, FX rfl⟩
def Z9i (s1 : (List Bucket)) (x2 : (Bucket → Option Bool)) : Option Bool :=
 (Zae s1 x2).bind fun x3 => some (decide (x3 ≥ 0))
theorem Zvp : Q2 Tryz.prog 163 (rd (Z1 Z0c)) (fn1 Tryz.prog Z0c Z6) (rd Z6) Z9i := fun s1 x2 r h => I0 Tryz.func163 rfl Tryz.ntmps163 rfl fun w H => by
 unfold Z9i at h
 refine SR <| Ab rfl <| Nl <| sq ?_
 obtain ⟨x3, hx3, h⟩ := Z9 h
 refine Rg <| Md rfl <| Ac (Zh (A := fn1 Tryz.prog Z0c Z6 x2) rfl rfl (vt rfl)) rfl <| Cl [5, 6] (Zxp _ _ _ hx3) Zw7 rfl <| Ac (Z4d rfl rfl (vt rfl) (vk rfl)) rfl <| As rfl <| Nl <| rt ?_
 cases h; exact Zc Tryz.results163 rfl (Zb rfl)
def Zen (x1 : Bucket) : Option Bool :=
 (Zgh x1.Acts).bind fun x3 => some (!x3)
theorem Zyg : Q1 Tryz.prog 164 (rd Z0c) (rd Z6) Zen := fun x1 r h => I0 Tryz.func164 rfl Tryz.ntmps164 rfl fun w H => by
 unfold Zen at h
 refine SR <| Cv rfl (Zs 2 rfl rfl (vt rfl)) fun g2 => Ab rfl <| Nl <| sq ?_
 obtain ⟨x3, hx3, h⟩ := Z9 h
 refine Rg <| Zt Z5t Z6a rfl <| Ld Z30 2 rfl <| Cl [4] (Zuw _ _ hx3) Zvx rfl <| Ac (Z0m rfl rfl (vt rfl)) rfl <| As rfl <| Nl <| rt ?_
 cases h; exact Zc Tryz.results164 rfl (Zb rfl)
def Z9w (l1 : (List Bucket)) (m2 : Int) : Option Bool :=
 (opt (decide ((l1.length : Int) ≤ m2)) (Z9i l1 Zen)).bind fun x3 => some ((decide ((l1.length : Int) ≤ m2)) && (!x3))
theorem Y0n : Q2 Tryz.prog 100 (rd (Z1 Z0c)) (rd (Z0 .i64)) (rd Z6) Z9w := fun l1 m2 r h => I0 Tryz.func100 rfl Tryz.ntmps100 rfl fun w H => by
 unfold Z9w at h
 refine SR <| Ab rfl <| Nl <| sq ?_
 obtain ⟨x3, hx3, h⟩ := Z9 h
 refine Rg <| Md rfl <| Ac (Z0a rfl rfl Z1p (vt rfl)) rfl <| Md rfl <| Ac (Z4s rfl rfl (vt rfl) (vt rfl)) rfl <| Md rfl <| Gd rfl (fun hq => Zh (A := rd (Z1 Z0c) l1) rfl rfl (vt rfl)) <| Gd rfl (fun hq => Z0k (xs := [.tmp 10, .func 164]) (Zvp _ _ _ (Z1h hx3 hq)) Zph rfl rfl ⟨Z5 rfl hq, vf1 Zzd Zyg, trivial⟩) <| Gd rfl (fun hq => Z0m rfl rfl (Z5 rfl hq)) <| Ac (Z0p rfl rfl (vt rfl) (vt rfl)) rfl <| As rfl <| Nl <| rt ?_
 cases h; exact Zc Tryz.results100 rfl (Zb rfl)
def Z75 (x1 : Group) (x2 : Int) : Option Bool :=
 (Z9w x1.Buckets x2).bind fun x4 => some (!x4)
theorem Ztg : Q2 Tryz.prog 99 (rd Zz) (rp (Z0 .i64)) (rd Z6) Z75 := fun x1 x2 r h => I0 Tryz.func99 rfl Tryz.ntmps99 rfl fun w H => by
 unfold Z75 at h
 refine SR <| Cv rfl (Zs 3 rfl rfl (vt rfl)) fun g3 => Ab rfl <| Nl <| sq ?_
 obtain ⟨x4, hx4, h⟩ := Z9 h
 refine Rg <| Zt Z5r Z5z rfl <| Ld Z6r 3 rfl <| Lp1 Zm rfl <| Cl [5, 6] (Y0n _ _ _ hx4) Zyw rfl <| Ac (Z0m rfl rfl (vt rfl)) rfl <| As rfl <| Nl <| rt ?_
 cases h; exact Zc Tryz.results99 rfl (Zb rfl)
def Z6h (s1 : (List Group)) (x2 : (Group → Option Bool)) : Nat → Nat → Option Int
 | 0, i3 => some (-1)
 | m4 + 1, i3 => (lget s1 (i3 : Int)).bind fun x5 => (x2 x5).bind fun x6 => (bif x6 then some (i3 : Int) else (Z6h s1 x2 m4) (i3 + 1))
def Z84 (s1 : (List Group)) (x2 : (Group → Option Bool)) : Option Int :=
 Z6h s1 x2 ((s1.length : Int) : Int).toNat 0
theorem Zl5 : Q2 Tryz.prog 162 (rd (Z1 Zz)) (fn1 Tryz.prog Zz Z6) (rd (Z0 .i64)) Z84 := fun s1 x2 r h => I0 Tryz.func162 rfl Tryz.ntmps162 rfl fun w H => by
 unfold Z84 at h
 refine SR <| Ak rfl <| Nl <| sq <| SR <| Md rfl <| Ac (Z0a rfl rfl Z1c (vt rfl)) rfl <| Mk rfl <| Nl <| bk <| LG (d := []) (ν := Nat × Nat) (fun (m4, i3) => (Cnt (s1.length : Int) i3 m4 ∧ Z6h s1 x2 m4 i3 = some r, m4, [(0, rd (Z1 Zz) s1), (1, fn1 Tryz.prog Zz Z6 x2), (7, rd (Z0 .i64) (s1.length : Int)), (8, rd (Z0 .i64) (i3 : Int))], [])) (((s1.length : Int) : Int).toNat, 0) ⟨Cnt.start _, h⟩ (FX rfl) ?_
 rintro ⟨m4, i3⟩ ⟨hsf1, h⟩
 dsimp only at hsf1 h ⊢
 cases m4 with
 | zero =>
  unfold Z6h at h
  refine SR <| Ac (Zl rfl rfl (vt rfl) (vt rfl)) rfl <| Nl <| sq <| Cn rfl (fun hc => absurd (of_decide_eq_true hc) hsf1.zero) (fun hc => ?_)
  refine xt <| SR <| Ak rfl <| Nl <| rt ?_
  cases h; exact Zc Tryz.results162 rfl (Zb rfl)
 | succ m4 =>
  unfold Z6h at h
  refine SR <| Ac (Zl rfl rfl (vt rfl) (vt rfl)) rfl <| Nl <| sq <| Cn rfl (fun hc => ?_) (fun hc => absurd hsf1.succ (of_decide_eq_false hc))
  have hlti3 := of_decide_eq_true hc
  refine sk <| sq <| bk <| SR <| Md rfl <| As rfl <| Nl <| sq ?_
  obtain ⟨x5, hx5, x6, hx6, h⟩ := bs2 h
  refine Rg <| Ac (Zh (A := fn1 Tryz.prog Zz Z6 x2) rfl rfl (vt rfl)) rfl <| Md rfl <| Md rfl <| Ac (Z04 rfl rfl Z1c (vt rfl) (vt rfl) hx5) rfl <| Lp1 Z2q rfl <| Ac (Z5m hx6 rfl rfl (vt rfl) (vt rfl)) rfl <| Nl <| Cq rfl h (fun h => ?_) (fun h => ?_)
  ·refine SR <| Md rfl <| As rfl <| Nl <| rt ?_
   cases h; exact Zc Tryz.results162 rfl (Zb rfl)
  ·refine sk <| Rg <| Ac (Z0y (t := 7) rfl rfl (vt rfl) (vk rfl) (vt rfl) hlti3) rfl <| Md rfl <| Nl ?_
   exact ⟨(_, _), Nat.lt_succ_self _, ⟨hsf1.next, h⟩, FX rfl⟩
def Zaf (s1 : (List Group)) (x2 : (Group → Option Bool)) : Option Bool :=
 (Z84 s1 x2).bind fun x3 => some (decide (x3 ≥ 0))
theorem Y09 : Q2 Tryz.prog 98 (rd (Z1 Zz)) (fn1 Tryz.prog Zz Z6) (rd Z6) Zaf := fun s1 x2 r h => I0 Tryz.func98 rfl Tryz.ntmps98 rfl fun w H => by
 unfold Zaf at h
 refine SR <| Ab rfl <| Nl <| sq ?_
 obtain ⟨x3, hx3, h⟩ := Z9 h
 refine Rg <| Md rfl <| Ac (Zh (A := fn1 Tryz.prog Zz Z6 x2) rfl rfl (vt rfl)) rfl <| Cl [5, 6] (Zl5 _ _ _ hx3) Zjc rfl <| Ac (Z4d rfl rfl (vt rfl) (vk rfl)) rfl <| As rfl <| Nl <| rt ?_
 cases h; exact Zc Tryz.results98 rfl (Zb rfl)
end Go.Proofs.YtknpgojdkobgjaaGreat.W
set_option maxRecDepth 4000
namespace Go.Proofs.YtknpgojdkobgjaaGreat.W
open Go Go.Wb
theorem e99 : Ent Tryz.prog 99 := Ent.mk Tryz.func99 rfl rfl
theorem e98 : Ent Tryz.prog 98 := Ent.mk Tryz.func98 rfl rfl
theorem e40 : Ent Tryz.prog 40 := Ent.mk Tryz.func40 rfl rfl
def Z70 (l1 : (List Group)) (m2 : Int) (b3 : Int) : Option Bool :=
 (opt (decide ((l1.length : Int) ≤ m2)) (Zaf l1 (fun x => Z75 x b3))).bind fun x5 => some ((decide ((l1.length : Int) ≤ m2)) && (!x5))
theorem Zjd : Q3 Tryz.prog 40 (rd (Z1 Zz)) (rd (Z0 .i64)) (rd (Z0 .i64)) (rd Z6) Z70 := fun l1 m2 b3 r h => I0 Tryz.func40 rfl Tryz.ntmps40 rfl fun w H => by
 unfold Z70 at h
 refine SR <| Cv rfl (Zs 6 rfl rfl (vt rfl)) fun g4 => Ab rfl <| Nl <| sq <| AW.freezeB 5 6 rfl rfl rfl ?_
 obtain ⟨x5, hx5, h⟩ := Z9 h
 refine Rg <| Md rfl <| Ac (Z0a rfl rfl Z1c (vt rfl)) rfl <| Md rfl <| Ac (Z4s rfl rfl (vt rfl) (vt rfl)) rfl <| Md rfl <| Gd rfl (fun hq => Zh (A := rd (Z1 Zz) l1) rfl rfl (vt rfl)) <| Gd rfl (fun hq => Z53 (cs := [.tmp 5]) (CAs := [rp (Z0 .i64) b3]) (fun x => Z75 x b3) rfl rfl e99 ⟨vt rfl, trivial⟩ (fun x y h => Ztg _ _ y h)) <| Gd rfl (fun hq => Z0k (xs := [.tmp 12, .tmp 13]) (Y09 _ _ _ (Z1h hx5 hq)) e98 rfl rfl ⟨Z5 rfl hq, Z5 rfl hq, trivial⟩) <| Gd rfl (fun hq => Z0m rfl rfl (Z5 rfl hq)) <| Ac (Z0p rfl rfl (vt rfl) (vt rfl)) rfl <| As rfl <| Nl <| rt ?_
 cases h; exact Zc Tryz.results40 rfl (Zb rfl)
end Go.Proofs.YtknpgojdkobgjaaGreat.W
set_option maxRecDepth 4000
namespace Go.Proofs.YtknpgojdkobgjaaGreat.W
open Go Go.Wb
theorem Zwa : Ent Tryz.prog 189 := Ent.mk Tryz.func189 rfl rfl
theorem Znq : Ent Tryz.prog 144 := Ent.mk Tryz.func144 rfl rfl
theorem e83 : Ent Tryz.prog 83 := Ent.mk Tryz.func83 rfl rfl
def Zj6 (a1 : Wide) (b2 : Wide) : Option Wide :=
 some (⟨(a1.Hi &&& b2.Hi), (a1.Lo &&& b2.Lo)⟩ : Wide)
theorem Zwu : Q2 Tryz.prog 189 (rd Zo) (rd Zo) (rd Zo) Zj6 := fun a1 b2 r h => I0 Tryz.func189 rfl Tryz.ntmps189 rfl fun w H => by
 unfold Zj6 at h
 refine SR <| Cv rfl (Zs 3 rfl rfl (vt rfl)) fun g3 => Cv rfl (Zs 4 rfl rfl (vt rfl)) fun g4 => Cv rfl (Zn 5 rfl rfl Z29) fun g5 => Nl <| SR <| Zt lWide_0 Z3j rfl <| Ld Z19 3 rfl <| Zt lWide_0 Z3j rfl <| Ld Z19 4 rfl <| Ac (Z4i rfl rfl (vt rfl) (vt rfl)) rfl <| Zt lWide_1 Z3l rfl <| Ld Z19 3 rfl <| Zt lWide_1 Z3l rfl <| Ld Z19 4 rfl <| Ac (Z4i rfl rfl (vt rfl) (vt rfl)) rfl <| Ac (opb (⟨(a1.Hi &&& b2.Hi), (a1.Lo &&& b2.Lo)⟩ : Wide) Z29 rfl Z4h (pc Z6k (vt rfl) <| pc Z64 (vt rfl) <| pn rfl)) rfl <| Zg Zw 5 rfl <| Nl <| rt ?_
 cases h; exact Zc Tryz.results189 rfl (Z00 rfl (i := 5) rfl Zw)
def Z82 (t1 : Tern) : Option Tern :=
 (Zj6 t1.Value t1.Mask).bind fun x4 => some (⟨x4, t1.Mask⟩ : Tern)
theorem Zob : Q1 Tryz.prog 144 (rd Z4) (rd Z4) Z82 := fun t1 r h => I0 Tryz.func144 rfl Tryz.ntmps144 rfl fun w H => by
 unfold Z82 at h
 refine SR <| Cv rfl (Zs 2 rfl rfl (vt rfl)) fun g2 => Cv rfl (Zn 3 rfl rfl Z14) fun g3 => Nl <| sq ?_
 obtain ⟨x4, hx4, h⟩ := Z9 h
 refine AR Z01 (by kernel_rfl) <| SFd lTern_0 Z2h rfl <| Zu Zw 2 rfl <| SFd lTern_1 Z21 rfl <| Zu Zw 2 rfl <| SCl [4, 6] (Zwu _ _ _ hx4) Zwa rfl <| SFd lTern_1 Z21 rfl <| Zu Zw 2 rfl <| Sd (lo [7, 9] [] rfl fun S hs hr => opb (⟨x4, t1.Mask⟩ : Tern) Z14 rfl Z3z (pc Z51 (vh hs 7 rfl rfl) <| pc Z4k (vh hs 9 rfl rfl) <| pn rfl)) <| SSt Zx 3 rfl <| Sn <| rt ?_
 cases h; exact Zc Tryz.results144 rfl (Z00 rfl (i := 3) rfl Zx)
def Z69 : Nat → Zi → Int → Option Zi
 | 0, _, _ => none
 | m8 + 1, b6, x7 => (bif (decide (x7 < 24)) then (chk 24 x7).bind fun j9 => (Z82 (Vector.get b6 j9)).bind fun x10 => (chk 24 x7).bind fun j11 => (Z69 m8) (Vector.set b6 j11.1 x10 j11.2) (IntKind.i64.wrap (x7 + 1)) else some b6)
def Z7c (x1 : Zi) : Option Zi :=
 Z69 (((24 : Int) - 0).toNat + 1) x1 0
theorem Zly : Q1 Tryz.prog 83 (rd (Z2 24 Z4)) (rd (Z2 24 Z4)) Z7c := fun x1 r h => I0 Tryz.func83 rfl Tryz.ntmps83 rfl fun w H => by
 unfold Z7c at h
 refine SR <| Cv rfl (Zs 2 rfl rfl (vt rfl)) fun g2 => Cv rfl (Zn 3 rfl rfl Z15) fun g3 => Nl <| sq <| SR <| Ak rfl <| Nl <| bk <| LG (d := []) (ν := Nat × Zi × Int) (fun (m8, b6, x7) => (True ∧ Z69 m8 b6 x7 = some r, m8, [(1, Zj g2 (Lens.id (Z2 24 Z4))), (2, Zj g3 (Lens.id (Z2 24 Z4))), (3, rd (Z0 .i64) x7)], [(2, Zk g2 87 (Z2 24 Z4) b6), (3, Zk g3 87 (Z2 24 Z4) (Vector.replicate 24 Z0n))])) ((((24 : Int) - 0).toNat + 1), x1, 0) ⟨trivial, h⟩ (FX rfl) ?_
 rintro ⟨m8, b6, x7⟩ ⟨hsf1, h⟩
 dsimp only at h ⊢
 cases m8 with
 | zero => cases h
 | succ m8 =>
  unfold Z69 at h
  refine sq <| SR <| Md rfl <| Ac (Zl rfl rfl (vt rfl) (vk rfl)) rfl <| Nl <| Cq rfl h (fun h => ?_) (fun h => ?_)
  ·refine sk <| sq <| bk ?_
   obtain ⟨j9, hj9, x10, hx10, j11, hj11, h⟩ := bs3 h
   refine Rg <| Md rfl <| Md rfl <| Ac (Z1u rfl rfl Z26 (vt rfl) (vt rfl) hj9) rfl <| Ld Zx 2 rfl <| Cl [11] (Zob _ _ hx10) Znq rfl <| Ac (Z1u rfl rfl Z26 (vt rfl) (vt rfl) hj11) rfl <| Zg Zx 2 rfl <| Nl <| Rg <| Md rfl <| Ac (Z09 rfl rfl (vt rfl) (vk rfl)) rfl <| As rfl <| Nl ?_
   exact ⟨(_, _, _), Nat.lt_succ_self _, ⟨trivial, h⟩, FX rfl⟩
  ·refine xt <| SR <| Ld Zy 2 rfl <| Zg Zy 3 rfl <| Nl <| rt ?_
   cases h; exact Zc Tryz.results83 rfl (Z00 rfl (i := 3) rfl Zy)
end Go.Proofs.YtknpgojdkobgjaaGreat.W
set_option maxRecDepth 4000
namespace Go.Proofs.YtknpgojdkobgjaaGreat.W
open Go Go.Wb
theorem Zjb : Ent Tryz.prog 145 := Ent.mk Tryz.func145 rfl rfl
def Z6b : Nat → Zi → Int → Option Zi
 | 0, _, _ => none
 | m8 + 1, b6, x7 => (bif (decide (x7 < 24)) then (chk 24 x7).bind fun j9 => (Z82 (Vector.get b6 j9)).bind fun x10 => (chk 24 x7).bind fun j11 => (Z6b m8) (Vector.set b6 j11.1 x10 j11.2) (IntKind.i64.wrap (x7 + 1)) else some b6)
def Z5c (x1 : Zi) : Option Zi :=
 Z6b (((24 : Int) - 0).toNat + 1) x1 0
theorem Zmg : Q1 Tryz.prog 145 (rd (Z2 24 Z4)) (rd (Z2 24 Z4)) Z5c := fun x1 r h => I0 Tryz.func145 rfl Tryz.ntmps145 rfl fun w H => by
 unfold Z5c at h
 refine SR <| Cv rfl (Zs 2 rfl rfl (vt rfl)) fun g2 => Cv rfl (Zn 3 rfl rfl Z3q) fun g3 => Nl <| sq <| SR <| Ak rfl <| Nl <| bk <| LG (d := []) (ν := Nat × Zi × Int) (fun (m8, b6, x7) => (True ∧ Z6b m8 b6 x7 = some r, m8, [(1, Zj g2 (Lens.id (Z2 24 Z4))), (2, Zj g3 (Lens.id (Z2 24 Z4))), (3, rd (Z0 .i64) x7)], [(2, Zk g2 101 (Z2 24 Z4) b6), (3, Zk g3 101 (Z2 24 Z4) (Vector.replicate 24 Z0n))])) ((((24 : Int) - 0).toNat + 1), x1, 0) ⟨trivial, h⟩ (FX rfl) ?_
 rintro ⟨m8, b6, x7⟩ ⟨hsf1, h⟩
 dsimp only at h ⊢
 cases m8 with
 | zero => cases h
 | succ m8 =>
  unfold Z6b at h
  refine sq <| SR <| Md rfl <| Ac (Zl rfl rfl (vt rfl) (vk rfl)) rfl <| Nl <| Cq rfl h (fun h => ?_) (fun h => ?_)
  ·refine sk <| sq <| bk ?_
   obtain ⟨j9, hj9, x10, hx10, j11, hj11, h⟩ := bs3 h
   refine Rg <| Md rfl <| Md rfl <| Ac (Z1u rfl rfl Z3v (vt rfl) (vt rfl) hj9) rfl <| Ld Zx 2 rfl <| Cl [11] (Zob _ _ hx10) Znq rfl <| Ac (Z1u rfl rfl Z3v (vt rfl) (vt rfl) hj11) rfl <| Zg Zx 2 rfl <| Nl <| Rg <| Md rfl <| Ac (Z09 rfl rfl (vt rfl) (vk rfl)) rfl <| As rfl <| Nl ?_
   exact ⟨(_, _, _), Nat.lt_succ_self _, ⟨trivial, h⟩, FX rfl⟩
  ·refine xt <| SR <| Ld Z07 2 rfl <| Zg Z07 3 rfl <| Nl <| rt ?_
   cases h; exact Zc Tryz.results145 rfl (Z00 rfl (i := 3) rfl Z07)
end Go.Proofs.YtknpgojdkobgjaaGreat.W
set_option maxRecDepth 4000
namespace Go.Proofs.YtknpgojdkobgjaaGreat.W
open Go Go.Wb
end Go.Proofs.YtknpgojdkobgjaaGreat.W
set_option maxRecDepth 4000
namespace Go.Proofs.YtknpgojdkobgjaaGreat.W
open Go Go.Wb
theorem e84 : Ent Tryz.prog 84 := Ent.mk Tryz.func84 rfl rfl
theorem e81 : Ent Tryz.prog 81 := Ent.mk Tryz.func81 rfl rfl
def Z57 (s2 : (List Rule)) (x3 : (Rule → Rule → Option Bool)) : (List Rule) → Nat → Option Bool
 | [], i4 => some true
 | x6 :: l5, i4 => (lget s2 (i4 : Int)).bind fun x8 => (x3 x6 x8).bind fun x10 => (bif (!x10) then some false else (Z57 s2 x3 l5) (i4 + 1))
def Z8t (s1 : (List Rule)) (s2 : (List Rule)) (x3 : (Rule → Rule → Option Bool)) : Option Bool :=
 (bif (decide ((s1.length : Int) ≠ (s2.length : Int))) then some false else Z57 s2 x3 s1 0)
theorem Zzx : Q3 Tryz.prog 81 (rd (Z1 Zv)) (rd (Z1 Zv)) (fn2 Tryz.prog Zv Zv Z6) (rd Z6) Z8t := fun s1 s2 x3 r h => I0 Tryz.func81 rfl Tryz.ntmps81 rfl fun w H => by
 unfold Z8t at h
 refine SR <| Ab rfl <| Nl <| sq <| SR <| Md rfl <| Ac (Z0a rfl rfl Z1a (vt rfl)) rfl <| Md rfl <| Ac (Z0a rfl rfl Z1a (vt rfl)) rfl <| Ac (Z24 rfl rfl (vt rfl) (vt rfl)) rfl <| Nl <| Cq rfl h (fun h => ?_) (fun h => ?_)
 ·refine SR <| Ab rfl <| Nl <| rt ?_
  cases h; exact Zc Tryz.results81 rfl (Zb rfl)
 ·refine sk <| sq <| SR <| Md rfl <| Ac (Z0a rfl rfl Z1a (vt rfl)) rfl <| Mk rfl <| Nl <| bk <| LG (d := []) (ν := (List Rule) × Nat) (fun (l5, i4) => (Sfx s1 i4 l5 ∧ Z57 s2 x3 l5 i4 = some r, l5.length, [(1, rd (Z1 Zv) s2), (2, fn2 Tryz.prog Zv Zv Z6 x3), (15, rd (Z1 Zv) s1), (16, rd (Z0 .i64) (s1.length : Int)), (17, rd (Z0 .i64) (i4 : Int))], [])) (s1, 0) ⟨Sfx.start _, h⟩ (FX rfl) ?_
  rintro ⟨l5, i4⟩ ⟨hsf1, h⟩
  dsimp only at hsf1 h ⊢
  cases l5 with
  | nil =>
   unfold Z57 at h
   refine SR <| Ac (Zl rfl rfl (vt rfl) (vt rfl)) rfl <| Nl <| sq <| Cn rfl (fun hc => absurd (of_decide_eq_true hc) hsf1.nil) (fun hc => ?_)
   refine xt <| SR <| Ab rfl <| Nl <| rt ?_
   cases h; exact Zc Tryz.results81 rfl (Zb rfl)
  | cons x6 l5 =>
   unfold Z57 at h
   refine SR <| Ac (Zl rfl rfl (vt rfl) (vt rfl)) rfl <| Nl <| sq <| Cn rfl (fun hc => ?_) (fun hc => absurd hsf1.cons (of_decide_eq_false hc))
   have hlti4 := of_decide_eq_true hc
   refine sk <| sq <| bk <| SR <| Md rfl <| Ac (Z04 rfl rfl Z1a (vt rfl) (vt rfl) hsf1.lget) rfl <| Lp1 Z2t rfl <| Cv rfl (Zn 9 rfl rfl Z4g) fun g7 => As rfl <| Zg Z2t 9 rfl <| Nl <| sq ?_
   obtain ⟨x8, hx8, h⟩ := Z9 h
   refine Rg <| Md rfl <| Md rfl <| Ac (Z04 rfl rfl Z1a (vt rfl) (vt rfl) hx8) rfl <| Lp1 Z2t rfl <| Cv rfl (Zn 10 rfl rfl Z4g) fun g9 => Zg Z2t 10 rfl <| Nl <| sq ?_
   obtain ⟨x10, hx10, h⟩ := Z9 h
   refine Rg <| Ac (Zh (A := fn2 Tryz.prog Zv Zv Z6 x3) rfl rfl (vt rfl)) rfl <| Ld Z2t 9 rfl <| Ld Z2t 10 rfl <| Ac (Z3c hx10 rfl rfl (vt rfl) (vt rfl) (vt rfl)) rfl <| Ac (Z0m rfl rfl (vt rfl)) rfl <| Nl <| Cq rfl h (fun h => ?_) (fun h => ?_)
   ·refine SR <| Ab rfl <| Nl <| rt ?_
    cases h; exact Zc Tryz.results81 rfl (Zb rfl)
   ·refine sk <| Rg <| Ac (Z0y (t := 16) rfl rfl (vt rfl) (vk rfl) (vt rfl) hlti4) rfl <| Md rfl <| Nl ?_
    exact ⟨(_, _), Nat.lt_succ_self _, ⟨hsf1.next, h⟩, FX rfl⟩
def Z6y (a1 : (List Atom)) (b2 : (List Atom)) : Nat → Int → Option Bool
 | 0, _ => none
 | m5 + 1, i4 => (bif (decide (i4 < (a1.length : Int))) then (lget a1 i4).bind fun x6 => (lget b2 i4).bind fun x7 => (opt (!(!(x6.Group == x7.Group))) (lget a1 i4)).bind fun x8 => (opt (!(!(x6.Group == x7.Group))) (lget b2 i4)).bind fun x9 => (opt (!((!(x6.Group == x7.Group)) || (decide (x8.Port ≠ x9.Port)))) (lget a1 i4)).bind fun x10 => (opt (!((!(x6.Group == x7.Group)) || (decide (x8.Port ≠ x9.Port)))) (lget b2 i4)).bind fun x11 => (opt (!(((!(x6.Group == x7.Group)) || (decide (x8.Port ≠ x9.Port))) || (decide (x10.Max ≠ x11.Max)))) (lget a1 i4)).bind fun x12 => (opt (!(((!(x6.Group == x7.Group)) || (decide (x8.Port ≠ x9.Port))) || (decide (x10.Max ≠ x11.Max)))) (Z5c x12.Rewrite)).bind fun x13 => (opt (!(((!(x6.Group == x7.Group)) || (decide (x8.Port ≠ x9.Port))) || (decide (x10.Max ≠ x11.Max)))) (lget b2 i4)).bind fun x14 => (opt (!(((!(x6.Group == x7.Group)) || (decide (x8.Port ≠ x9.Port))) || (decide (x10.Max ≠ x11.Max)))) (Z5c x14.Rewrite)).bind fun x15 => (bif ((((!(x6.Group == x7.Group)) || (decide (x8.Port ≠ x9.Port))) || (decide (x10.Max ≠ x11.Max))) || (decide (x13 ≠ x15))) then some false else (Z6y a1 b2 m5) (IntKind.i64.wrap (i4 + 1))) else some true)
def Z7y (a1 : (List Atom)) (b2 : (List Atom)) : Option Bool :=
 (bif (decide ((a1.length : Int) ≠ (b2.length : Int))) then some false else Z6y a1 b2 ((((a1.length : Int) : Int) - 0).toNat + 1) 0)
theorem Zu4 : Q2 Tryz.prog 84 (rd (Z1 Z03)) (rd (Z1 Z03)) (rd Z6) Z7y := fun a1 b2 r h => I0 Tryz.func84 rfl Tryz.ntmps84 rfl fun w H => by
 unfold Z7y at h
 refine SR <| Ab rfl <| Nl <| sq <| SR <| Md rfl <| Ac (Z0a rfl rfl Z1q (vt rfl)) rfl <| Md rfl <| Ac (Z0a rfl rfl Z1q (vt rfl)) rfl <| Ac (Z24 rfl rfl (vt rfl) (vt rfl)) rfl <| Nl <| Cq rfl h (fun h => ?_) (fun h => ?_)
 ·refine SR <| Ab rfl <| Nl <| rt ?_
  cases h; exact Zc Tryz.results84 rfl (Zb rfl)
 ·refine sk <| sq <| SR <| Ak rfl <| Nl <| bk <| LG (d := []) (ν := Nat × Int) (fun (m5, i4) => (True ∧ Z6y a1 b2 m5 i4 = some r, m5, [(0, rd (Z1 Z03) a1), (1, rd (Z1 Z03) b2), (5, rd (Z0 .i64) i4)], [])) (((((a1.length : Int) : Int) - 0).toNat + 1), 0) ⟨trivial, h⟩ (FX rfl) ?_
  rintro ⟨m5, i4⟩ ⟨hsf1, h⟩
  dsimp only at h ⊢
  cases m5 with
  | zero => cases h
  | succ m5 =>
   unfold Z6y at h
   refine sq <| SR <| Md rfl <| Md rfl <| Ac (Z0a rfl rfl Z1q (vt rfl)) rfl <| Ac (Zl rfl rfl (vt rfl) (vt rfl)) rfl <| Nl <| Cq rfl h (fun h => ?_) (fun h => ?_)
   ·refine sk <| sq <| bk <| sq ?_
    obtain ⟨x6, hx6, x7, hx7, x8, hx8, x9, hx9, h⟩ := bs4 h
    obtain ⟨x10, hx10, x11, hx11, x12, hx12, x13, hx13, h⟩ := bs4 h
    obtain ⟨x14, hx14, x15, hx15, h⟩ := bs2 h
    refine AR Z01 (by kernel_rfl) <| Zq rfl <| Zq rfl <| Sd (lo [17, 18] [] rfl fun S hs hr => Z04 rfl rfl Z1q (vh hs 17 rfl rfl) (vh hs 18 rfl rfl) hx6) <| SFp Zck Zgo rfl <| SLp ty4 rfl <| Zq rfl <| Zq rfl <| Sd (lo [22, 23] [] rfl fun S hs hr => Z04 rfl rfl Z1q (vh hs 22 rfl rfl) (vh hs 23 rfl rfl) hx7) <| SFp Zck Zgo rfl <| SLp ty4 rfl <| Sd (lo [21, 26] [] rfl fun S hs hr => Zxu rfl rfl un4 (vh hs 21 rfl rfl) (vh hs 26 rfl rfl)) <| Zq rfl <| Sd (lg [0, 28] [] rfl fun hq S hs hr => Zh (A := rd (Z1 Z03) a1) rfl rfl (vh hs 0 rfl rfl)) <| Sd (lg [5, 28] [] rfl fun hq S hs hr => Zh (A := rd (Z0 .i64) i4) rfl rfl (vh hs 5 rfl rfl)) <| Sd (lg [29, 30, 28] [] rfl fun hq S hs hr => Z04 rfl rfl Z1q (Z5 ((hs 29 rfl).trans rfl) hq) (Z5 ((hs 30 rfl).trans rfl) hq) (Z1d hx8 hq)) <| Sd (lg [31, 28] [] rfl fun hq S hs hr => Z1i Zam rfl rfl Zct (Z5 ((hs 31 rfl).trans rfl) hq)) <| Sd (lg [32, 28] [] rfl fun hq S hs hr => Z1t rfl rfl Zm (Z5 ((hs 32 rfl).trans rfl) hq)) <| Sd (lg [1, 28] [] rfl fun hq S hs hr => Zh (A := rd (Z1 Z03) b2) rfl rfl (vh hs 1 rfl rfl)) <| Sd (lg [5, 28] [] rfl fun hq S hs hr => Zh (A := rd (Z0 .i64) i4) rfl rfl (vh hs 5 rfl rfl)) <| Sd (lg [34, 35, 28] [] rfl fun hq S hs hr => Z04 rfl rfl Z1q (Z5 ((hs 34 rfl).trans rfl) hq) (Z5 ((hs 35 rfl).trans rfl) hq) (Z1d hx9 hq)) <| Sd (lg [36, 28] [] rfl fun hq S hs hr => Z1i Zam rfl rfl Zct (Z5 ((hs 36 rfl).trans rfl) hq)) <| Sd (lg [37, 28] [] rfl fun hq S hs hr => Z1t rfl rfl Zm (Z5 ((hs 37 rfl).trans rfl) hq)) <| Sd (lg [33, 38, 28] [] rfl fun hq S hs hr => Z24 rfl rfl (Z5 ((hs 33 rfl).trans rfl) hq) (Z5 ((hs 38 rfl).trans rfl) hq)) <| Sd (lo [39, 28] [] rfl fun S hs hr => Z2v rfl rfl (vh hs 28 rfl rfl) (vh hs 39 rfl rfl)) <| Zq rfl <| Sd (lg [0, 41] [] rfl fun hq S hs hr => Zh (A := rd (Z1 Z03) a1) rfl rfl (vh hs 0 rfl rfl)) <| Sd (lg [5, 41] [] rfl fun hq S hs hr => Zh (A := rd (Z0 .i64) i4) rfl rfl (vh hs 5 rfl rfl)) <| Sd (lg [42, 43, 41] [] rfl fun hq S hs hr => Z04 rfl rfl Z1q (Z5 ((hs 42 rfl).trans rfl) hq) (Z5 ((hs 43 rfl).trans rfl) hq) (Z1d hx10 hq)) <| Sd (lg [44, 41] [] rfl fun hq S hs hr => Z1i Zeh rfl rfl Ziv (Z5 ((hs 44 rfl).trans rfl) hq)) <| Sd (lg [45, 41] [] rfl fun hq S hs hr => Z1t rfl rfl Zm (Z5 ((hs 45 rfl).trans rfl) hq)) <| Sd (lg [1, 41] [] rfl fun hq S hs hr => Zh (A := rd (Z1 Z03) b2) rfl rfl (vh hs 1 rfl rfl)) <| Sd (lg [5, 41] [] rfl fun hq S hs hr => Zh (A := rd (Z0 .i64) i4) rfl rfl (vh hs 5 rfl rfl)) <| Sd (lg [47, 48, 41] [] rfl fun hq S hs hr => Z04 rfl rfl Z1q (Z5 ((hs 47 rfl).trans rfl) hq) (Z5 ((hs 48 rfl).trans rfl) hq) (Z1d hx11 hq)) <| Sd (lg [49, 41] [] rfl fun hq S hs hr => Z1i Zeh rfl rfl Ziv (Z5 ((hs 49 rfl).trans rfl) hq)) <| Sd (lg [50, 41] [] rfl fun hq S hs hr => Z1t rfl rfl Zm (Z5 ((hs 50 rfl).trans rfl) hq)) <| Sd (lg [46, 51, 41] [] rfl fun hq S hs hr => Z24 rfl rfl (Z5 ((hs 46 rfl).trans rfl) hq) (Z5 ((hs 51 rfl).trans rfl) hq)) <| Sd (lo [52, 41] [] rfl fun S hs hr => Z2v rfl rfl (vh hs 41 rfl rfl) (vh hs 52 rfl rfl)) <| Zq rfl <| Sd (lg [0, 54] [] rfl fun hq S hs hr => Zh (A := rd (Z1 Z03) a1) rfl rfl (vh hs 0 rfl rfl)) <| Sd (lg [5, 54] [] rfl fun hq S hs hr => Zh (A := rd (Z0 .i64) i4) rfl rfl (vh hs 5 rfl rfl)) <| Sd (lg [55, 56, 54] [] rfl fun hq S hs hr => Z04 rfl rfl Z1q (Z5 ((hs 55 rfl).trans rfl) hq) (Z5 ((hs 56 rfl).trans rfl) hq) (Z1d hx12 hq)) <| Sd (lg [57, 54] [] rfl fun hq S hs hr => Z1i lAtom_0 rfl rfl Z78 (Z5 ((hs 57 rfl).trans rfl) hq)) <| Sd (lg [58, 54] [] rfl fun hq S hs hr => Z1t rfl rfl Z07 (Z5 ((hs 58 rfl).trans rfl) hq)) <| Sd (lg [59, 54] [] rfl fun hq S hs hr => Z0k (xs := [.tmp 59]) (Zmg _ _ (Z1d hx13 hq)) Zjb rfl rfl ⟨Z5 ((hs 59 rfl).trans rfl) hq, trivial⟩) <| Sd (lg [1, 54] [] rfl fun hq S hs hr => Zh (A := rd (Z1 Z03) b2) rfl rfl (vh hs 1 rfl rfl)) <| Sd (lg [5, 54] [] rfl fun hq S hs hr => Zh (A := rd (Z0 .i64) i4) rfl rfl (vh hs 5 rfl rfl)) <| Sd (lg [61, 62, 54] [] rfl fun hq S hs hr => Z04 rfl rfl Z1q (Z5 ((hs 61 rfl).trans rfl) hq) (Z5 ((hs 62 rfl).trans rfl) hq) (Z1d hx14 hq)) <| Sd (lg [63, 54] [] rfl fun hq S hs hr => Z1i lAtom_0 rfl rfl Z78 (Z5 ((hs 63 rfl).trans rfl) hq)) <| Sd (lg [64, 54] [] rfl fun hq S hs hr => Z1t rfl rfl Z07 (Z5 ((hs 64 rfl).trans rfl) hq)) <| Sd (lg [65, 54] [] rfl fun hq S hs hr => Z0k (xs := [.tmp 65]) (Zmg _ _ (Z1d hx15 hq)) Zjb rfl rfl ⟨Z5 ((hs 65 rfl).trans rfl) hq, trivial⟩) <| Sd (lg [60, 66, 54] [] rfl fun hq S hs hr => Zkp rfl rfl Zma (by decide) rfl Zyo (Z5 ((hs 60 rfl).trans rfl) hq) (Z5 ((hs 66 rfl).trans rfl) hq)) <| Sd (lo [67, 54] [] rfl fun S hs hr => Z2v rfl rfl (vh hs 54 rfl rfl) (vh hs 67 rfl rfl)) <| Sn ?_
    refine Cq rfl h (fun h => ?_) (fun h => ?_)
    ·refine SR <| Ab rfl <| Nl <| rt ?_
     cases h; exact Zc Tryz.results84 rfl (Zb rfl)
    ·refine sk <| Rg <| Md rfl <| Ac (Z09 rfl rfl (vt rfl) (vk rfl)) rfl <| As rfl <| Nl ?_
     exact ⟨(_, _), Nat.lt_succ_self _, ⟨trivial, h⟩, FX rfl⟩
   ·refine xt <| SR <| Ab rfl <| Nl <| rt ?_
    cases h; exact Zc Tryz.results84 rfl (Zb rfl)
end Go.Proofs.YtknpgojdkobgjaaGreat.W
set_option maxRecDepth 4000
namespace Go.Proofs.YtknpgojdkobgjaaGreat.W
open Go Go.Wb
def Zgk (p1 : cover_purse) : Option (Bool × cover_purse) :=
 (bif p1.free then some (true, p1) else some ((decide (({ p1 with left := (IntKind.i64.wrap (p1.left - 1)) }.left) ≥ 0)), { p1 with left := (IntKind.i64.wrap (p1.left - 1)) }))
theorem Zz3 (g2 gT : Nat) (p1 : cover_purse) (r : (Bool × cover_purse)) (h : Zgk p1 = some r) : Con Tryz.prog 278 [Zj g2 (Lens.id Z3h)] (Zk g2 gT Z3h p1) (fun _ : Unit => rd Z6 r.1) (fun _ => Zk g2 gT Z3h r.2) := by
 refine Con.intro Tryz.func278 rfl Tryz.ntmps278 rfl fun w H X => ?_
 unfold Zgk at h
 refine SR <| Ab rfl <| Nl <| sq <| SR <| Mp rfl <| Nc rfl <| Zt lcover_purse_1 Zuc rfl <| Ld ty4 0 rfl <| Nl <| Cq rfl h (fun h => ?_) (fun h => ?_)
 ·refine SR <| Ab rfl <| Nl <| rt ?_
  cases h; exact Zbt (i := 0) Tryz.results278 rfl (Zb rfl) rfl
 ·refine sk <| SR <| Mp rfl <| Nc rfl <| Zt lcover_purse_0 Zfn rfl <| Ld Zm 0 rfl <| Ac (Z0j rfl rfl (vt rfl) (vk rfl)) rfl <| Nc rfl <| Zt lcover_purse_0 Zfn rfl <| Zg Zm 0 rfl <| Nl <| SR <| Mp rfl <| Nc rfl <| Zt lcover_purse_0 Zfn rfl <| Ld Zm 0 rfl <| Ac (Z4d rfl rfl (vt rfl) (vk rfl)) rfl <| As rfl <| Nl <| rt ?_
  cases h; exact Zbt (i := 0) Tryz.results278 rfl (Zb rfl) rfl
end Go.Proofs.YtknpgojdkobgjaaGreat.W
set_option maxRecDepth 4000
namespace Go.Proofs.YtknpgojdkobgjaaGreat.W
open Go Go.Wb
theorem Zrj : Ent Tryz.prog 337 := Ent.mk Tryz.func337 rfl rfl
theorem Zug : Ent Tryz.prog 316 := Ent.mk Tryz.func316 rfl rfl
theorem Zo2 : Ent Tryz.prog 331 := Ent.mk Tryz.func331 rfl rfl
theorem Znn : Ent Tryz.prog 294 := Ent.mk Tryz.func294 rfl rfl
theorem Znl : Ent Tryz.prog 319 := Ent.mk Tryz.func319 rfl rfl
def Zfo (a1 : Tern) (b2 : Tern) : Option Bool :=
 (Z6v b2.Mask a1.Mask).bind fun x5 => (Z9m x5).bind fun x6 => (opt x6 (Zbx b2 a1.Value)).bind fun x7 => some (x6 && x7)
theorem Zx3 : Q2 Tryz.prog 337 (rd Z4) (rd Z4) (rd Z6) Zfo := fun a1 b2 r h => I0 Tryz.func337 rfl Tryz.ntmps337 rfl fun w H => by
 unfold Zfo at h
 refine SR <| Cv rfl (Zs 3 rfl rfl (vt rfl)) fun g3 => Cv rfl (Zs 4 rfl rfl (vt rfl)) fun g4 => Ab rfl <| Nl <| sq ?_
 obtain ⟨x5, hx5, x6, hx6, x7, hx7, h⟩ := bs3 h
 refine Rg <| Zt lTern_1 Z21 rfl <| Ld Zw 4 rfl <| Zt lTern_1 Z21 rfl <| Ld Zw 3 rfl <| Cl [6, 8] (Zal _ _ _ hx5) Zbi rfl <| Cl [9] (Zgt _ _ hx6) Zij rfl <| Md rfl <| Gd rfl (fun hq => Z0d rfl rfl Zx (vt rfl) (i := 4) rfl) <| Gd rfl (fun hq => Z0l lTern_0 rfl rfl Z2h (vt rfl)) <| Gd rfl (fun hq => Z0d rfl rfl Zw (Z5 rfl hq) (i := 3) rfl) <| Gd rfl (fun hq => Z0k (xs := [.tmp 12, .tmp 14]) (Zmj _ _ _ (Z1h hx7 hq)) Zn0 rfl rfl ⟨Z5 rfl hq, Z5 rfl hq, trivial⟩) <| Ac (Z0p rfl rfl (vt rfl) (vt rfl)) rfl <| As rfl <| Nl <| rt ?_
 cases h; exact Zc Tryz.results337 rfl (Zb rfl)
def Zaw (b2 : Zi) : (List Tern) → Nat → Option Bool
 | [], i5 => some true
 | x7 :: l6, i5 => (chk 24 (i5 : Int)).bind fun j9 => (Zfo x7 (Vector.get b2 j9)).bind fun x10 => (bif (!x10) then some false else (Zaw b2 l6) (i5 + 1))
def Zic (a1 : Zi) (b2 : Zi) : Option Bool :=
 Zaw b2 (Vector.toList a1) 0
theorem Zyi : Q2 Tryz.prog 316 (rd (Z2 24 Z4)) (rd (Z2 24 Z4)) (rd Z6) Zic := fun a1 b2 r h => I0 Tryz.func316 rfl Tryz.ntmps316 rfl fun w H => by
 unfold Zic at h
 refine SR <| Cv rfl (Zs 3 rfl rfl (vt rfl)) fun g3 => Cv rfl (Zs 4 rfl rfl (vt rfl)) fun g4 => Ab rfl <| Nl <| sq <| SR <| Ld Zy 3 rfl <| Mk rfl <| Nl <| bk <| LG (d := []) (ν := (List Tern) × Nat) (fun (l6, i5) => (Sfx (Vector.toList a1) i5 l6 ∧ Zaw b2 l6 i5 = some r, l6.length, [(3, Zj g4 (Lens.id (Z2 24 Z4))), (7, rd (Z2 24 Z4) a1), (8, rd (Z0 .i64) (i5 : Int))], [(4, Zk g4 87 (Z2 24 Z4) b2)])) ((Vector.toList a1), 0) ⟨Sfx.start _, h⟩ (FX rfl) ?_
 rintro ⟨l6, i5⟩ ⟨hsf1, h⟩
 dsimp only at hsf1 h ⊢
 cases l6 with
 | nil =>
  unfold Zaw at h
  refine SR <| Ac (Zl rfl rfl (vt rfl) (vk rfl)) rfl <| Nl <| sq <| Cn rfl (fun hc => absurd (of_decide_eq_true hc) (hsf1.niln (by simp))) (fun hc => ?_)
  refine xt <| SR <| Ab rfl <| Nl <| rt ?_
  cases h; exact Zc Tryz.results316 rfl (Zb rfl)
 | cons x7 l6 =>
  unfold Zaw at h
  refine SR <| Ac (Zl rfl rfl (vt rfl) (vk rfl)) rfl <| Nl <| sq <| Cn rfl (fun hc => ?_) (fun hc => absurd (hsf1.consn (by simp)) (of_decide_eq_false hc))
  have hlti5 := of_decide_eq_true hc
  refine sk <| sq <| bk <| SR <| Md rfl <| Ac (Z74 rfl rfl Z26 Zx (vt rfl) (vt rfl) hsf1.lget) rfl <| Cv rfl (Zn 7 rfl rfl Z14) fun g8 => As rfl <| Zg Zx 7 rfl <| Nl <| sq ?_
  obtain ⟨j9, hj9, x10, hx10, h⟩ := bs2 h
  refine AR Z01 (by kernel_rfl) <| Zu Zx 7 rfl <| Zq rfl <| Sd (lo [3, 13] [] rfl fun S hs hr => Z1u rfl rfl Z26 (vh hs 3 rfl rfl) (vh hs 13 rfl rfl) hj9) <| Zu Zx 4 rfl <| SCl [12, 15] (Zx3 _ _ _ hx10) Zrj rfl <| Sd (lo [16] [] rfl fun S hs hr => Z0m rfl rfl (vh hs 16 rfl rfl)) <| Sn <| Cq rfl h (fun h => ?_) (fun h => ?_)
  ·refine SR <| Ab rfl <| Nl <| rt ?_
   cases h; exact Zc Tryz.results316 rfl (Zb rfl)
  ·refine sk <| Rg <| Ac (Z4m rfl rfl (vt rfl) (vk rfl) rfl hlti5) rfl <| Md rfl <| Nl ?_
   exact ⟨(_, _), Nat.lt_succ_self _, ⟨hsf1.next, h⟩, FX rfl⟩
def Z5y (x1 : Zi) : (List Zi) → Nat → Int → Option (Bool × Int)
 | [], i6, x5 => some (false, x5)
 | x8 :: l7, i6, x5 => (Z7w x1 x8).bind fun x10 => (bif (!x10.2) then (Z5y x1 l7) (i6 + 1) x5 else (Zic x1 x8).bind fun x12 => (bif x12 then some (true, (i6 : Int)) else (bif (decide (x5 < 0)) then (Z5y x1 l7) (i6 + 1) (i6 : Int) else (Z5y x1 l7) (i6 + 1) x5)))
def Zik (x1 : Zi) (l2 : (List Zi)) : Option (Bool × Int) :=
 Z5y x1 l2 0 (-1)
theorem Zvy : Q2 Tryz.prog 279 (rd (Z2 24 Z4)) (rd (Z1 (Z2 24 Z4))) (fun r => Z17 (rd Z6 r.1) (rd (Z0 .i64) r.2)) Zik := fun x1 l2 r h => I0 Tryz.func279 rfl Tryz.ntmps279 rfl fun w H => by
 unfold Zik at h
 refine SR <| Cv rfl (Zs 3 rfl rfl (vt rfl)) fun g3 => Ab rfl <| Ak rfl <| Nl <| SR <| Ak rfl <| Nl <| sq <| SR <| Md rfl <| Ac (Z0a rfl rfl Z2y (vt rfl)) rfl <| Mk rfl <| Nl <| bk <| LG (d := []) (ν := (List Zi) × Nat × Int) (fun (l7, i6, x5) => (Sfx l2 i6 l7 ∧ Z5y x1 l7 i6 x5 = some r, l7.length, [(2, Zj g3 (Lens.id (Z2 24 Z4))), (6, rd (Z0 .i64) x5), (11, rd (Z1 (Z2 24 Z4)) l2), (12, rd (Z0 .i64) (l2.length : Int)), (13, rd (Z0 .i64) (i6 : Int))], [(3, Zk g3 87 (Z2 24 Z4) x1)])) (l2, 0, (-1)) ⟨Sfx.start _, h⟩ (FX rfl) ?_
 rintro ⟨l7, i6, x5⟩ ⟨hsf1, h⟩
 dsimp only at hsf1 h ⊢
 cases l7 with
 | nil =>
  unfold Z5y at h
  refine SR <| Ac (Zl rfl rfl (vt rfl) (vt rfl)) rfl <| Nl <| sq <| Cn rfl (fun hc => absurd (of_decide_eq_true hc) hsf1.nil) (fun hc => ?_)
  refine xt <| SR <| Md rfl <| Ab rfl <| As rfl <| Nl <| rt ?_
  cases h; exact Z1z Tryz.results279 rfl (Zb rfl) (Zb rfl)
 | cons x8 l7 =>
  unfold Z5y at h
  refine SR <| Ac (Zl rfl rfl (vt rfl) (vt rfl)) rfl <| Nl <| sq <| Cn rfl (fun hc => ?_) (fun hc => absurd hsf1.cons (of_decide_eq_false hc))
  have hlti6 := of_decide_eq_true hc
  refine sk <| sq <| bk <| SR <| Md rfl <| Ac (Z04 rfl rfl Z2y (vt rfl) (vt rfl) hsf1.lget) rfl <| Lp1 Zy rfl <| Cv rfl (Zn 9 rfl rfl Z15) fun g9 => As rfl <| Zg Zy 9 rfl <| Nl <| sq ?_
  obtain ⟨x10, hx10, h⟩ := Z9 h
  refine Rg <| Ld Zy 3 rfl <| Ld Zy 9 rfl <| Cl [19, 20] (Zby _ _ _ hx10) Zcb rfl <| Mt2 rfl <| Ac (Z20 rfl rfl (vt rfl)) rfl <| Ac (Z22 rfl rfl (vt rfl)) rfl <| Cv rfl (Zn 10 rfl rfl Z15) fun g11 => Zg Zy 10 rfl <| As rfl <| Nl <| bk <| SR <| Md rfl <| Ac (Z0m rfl rfl (vt rfl)) rfl <| As rfl <| Nl <| Cq rfl h (fun h => ?_) (fun h => ?_)
  ·refine sk <| Rg <| Ac (Z0y (t := 12) rfl rfl (vt rfl) (vk rfl) (vt rfl) hlti6) rfl <| Md rfl <| Nl ?_
   exact ⟨(_, _, _), Nat.lt_succ_self _, ⟨hsf1.next, h⟩, FX rfl⟩
  ·refine sq ?_
   obtain ⟨x12, hx12, h⟩ := Z9 h
   refine Rg <| Ld Zy 3 rfl <| Ld Zy 9 rfl <| Cl [28, 29] (Zyi _ _ _ hx12) Zug rfl <| As rfl <| Nl <| Cq rfl h (fun h => ?_) (fun h => ?_)
   ·refine SR <| Md rfl <| Ab rfl <| As rfl <| Nl <| rt ?_
    cases h; exact Z1z Tryz.results279 rfl (Zb rfl) (Zb rfl)
   ·refine SR <| Md rfl <| Ac (Zl rfl rfl (vt rfl) (vk rfl)) rfl <| As rfl <| Nl <| Cq rfl h (fun h => ?_) (fun h => ?_)
    ·refine Rg <| Md rfl <| As rfl <| Nl <| Rg <| Ac (Z0y (t := 12) rfl rfl (vt rfl) (vk rfl) (vt rfl) hlti6) rfl <| Md rfl <| Nl ?_
     exact ⟨(_, _, _), Nat.lt_succ_self _, ⟨hsf1.next, h⟩, FX rfl⟩
    ·refine sk <| Rg <| Ac (Z0y (t := 12) rfl rfl (vt rfl) (vk rfl) (vt rfl) hlti6) rfl <| Md rfl <| Nl ?_
     exact ⟨(_, _, _), Nat.lt_succ_self _, ⟨hsf1.next, h⟩, FX rfl⟩
def Zb9 : (List Tern) → Nat → Z1r → Option Z1r
 | [], i7, b6 => some b6
 | x9 :: l8, i7, b6 => (Z3k x9).bind fun x11 => (chk 24 (i7 : Int)).bind fun j12 => (Zb9 l8) (i7 + 1) (Vector.set b6 j12.1 x11.Value j12.2)
def Zfl (x1 : Zi) : Option Z1r :=
 Zb9 (Vector.toList x1) 0 (Vector.replicate 24 Z02)
theorem Zu6 : Q1 Tryz.prog 70 (rd (Z2 24 Z4)) (rd (Z2 24 Zo)) Zfl := fun x1 r h => I0 Tryz.func70 rfl Tryz.ntmps70 rfl fun w H => by
 unfold Zfl at h
 refine SR <| Cv rfl (Zs 2 rfl rfl (vt rfl)) fun g2 => Cv rfl (Zn 3 rfl rfl Z46) fun g3 => Nl <| SR <| Cv rfl (Zn 4 rfl rfl Z46) fun g4 => Nl <| sq <| SR <| Ld Zy 2 rfl <| Mk rfl <| Nl <| bk <| LG (d := []) (ν := (List Tern) × Nat × Z1r) (fun (l8, i7, b6) => (Sfx (Vector.toList x1) i7 l8 ∧ Zb9 l8 i7 b6 = some r, l8.length, [(2, Zj g3 (Lens.id (Z2 24 Zo))), (3, Zj g4 (Lens.id (Z2 24 Zo))), (6, rd (Z2 24 Z4) x1), (7, rd (Z0 .i64) (i7 : Int))], [(3, Zk g3 44 (Z2 24 Zo) (Vector.replicate 24 Z02)), (4, Zk g4 44 (Z2 24 Zo) b6)])) ((Vector.toList x1), 0, (Vector.replicate 24 Z02)) ⟨Sfx.start _, h⟩ (FX rfl) ?_
 rintro ⟨l8, i7, b6⟩ ⟨hsf1, h⟩
 dsimp only at hsf1 h ⊢
 cases l8 with
 | nil =>
  unfold Zb9 at h
  refine SR <| Ac (Zl rfl rfl (vt rfl) (vk rfl)) rfl <| Nl <| sq <| Cn rfl (fun hc => absurd (of_decide_eq_true hc) (hsf1.niln (by simp))) (fun hc => ?_)
  refine xt <| SR <| Ld Z1s 4 rfl <| Zg Z1s 3 rfl <| Nl <| rt ?_
  cases h; exact Zc Tryz.results70 rfl (Z00 rfl (i := 3) rfl Z1s)
 | cons x9 l8 =>
  unfold Zb9 at h
  refine SR <| Ac (Zl rfl rfl (vt rfl) (vk rfl)) rfl <| Nl <| sq <| Cn rfl (fun hc => ?_) (fun hc => absurd (hsf1.consn (by simp)) (of_decide_eq_false hc))
  have hlti7 := of_decide_eq_true hc
  refine sk <| sq <| bk <| SR <| Md rfl <| Ac (Z74 rfl rfl Z26 Zx (vt rfl) (vt rfl) hsf1.lget) rfl <| Cv rfl (Zn 6 rfl rfl Z14) fun g10 => As rfl <| Zg Zx 6 rfl <| Nl ?_
  obtain ⟨x11, hx11, j12, hj12, h⟩ := bs2 h
  refine Rg <| Md rfl <| Ld Zx 6 rfl <| Cl [12] (Z4o _ _ hx11) Z4n rfl <| Ac (Znb lTern_0 rfl rfl Z2h Zp5 Zw rfl (vt rfl)) rfl <| Ac (Z1u rfl rfl Zwc (vt rfl) (vt rfl) hj12) rfl <| Zg Zw 4 rfl <| Nl <| Rg <| Ac (Z4m rfl rfl (vt rfl) (vk rfl) rfl hlti7) rfl <| Md rfl <| Nl ?_
  exact ⟨(_, _, _), Nat.lt_succ_self _, ⟨hsf1.next, h⟩, FX rfl⟩
def Zd9 (x1 : (BitVec 64)) : Option Int :=
 (Z2n x1 ((1 : BitVec 64).toNat : Int)).bind fun q2 => (Z2n ((q2 &&& (6148914691236517205 : BitVec 64)) + (x1 &&& (6148914691236517205 : BitVec 64))) ((2 : BitVec 64).toNat : Int)).bind fun q3 => (Z2n ((q3 &&& (3689348814741910323 : BitVec 64)) + (((q2 &&& (6148914691236517205 : BitVec 64)) + (x1 &&& (6148914691236517205 : BitVec 64))) &&& (3689348814741910323 : BitVec 64))) ((4 : BitVec 64).toNat : Int)).bind fun q4 => (Z2n ((q4 + ((q3 &&& (3689348814741910323 : BitVec 64)) + (((q2 &&& (6148914691236517205 : BitVec 64)) + (x1 &&& (6148914691236517205 : BitVec 64))) &&& (3689348814741910323 : BitVec 64)))) &&& (1085102592571150095 : BitVec 64)) ((8 : BitVec 64).toNat : Int)).bind fun q5 => (Z2n (((q4 + ((q3 &&& (3689348814741910323 : BitVec 64)) + (((q2 &&& (6148914691236517205 : BitVec 64)) + (x1 &&& (6148914691236517205 : BitVec 64))) &&& (3689348814741910323 : BitVec 64)))) &&& (1085102592571150095 : BitVec 64)) + q5) ((16 : BitVec 64).toNat : Int)).bind fun q6 => (Z2n ((((q4 + ((q3 &&& (3689348814741910323 : BitVec 64)) + (((q2 &&& (6148914691236517205 : BitVec 64)) + (x1 &&& (6148914691236517205 : BitVec 64))) &&& (3689348814741910323 : BitVec 64)))) &&& (1085102592571150095 : BitVec 64)) + q5) + q6) ((32 : BitVec 64).toNat : Int)).bind fun q7 => some (Zkk .and .i64 (IntKind.i64.wrap ((((((q4 + ((q3 &&& (3689348814741910323 : BitVec 64)) + (((q2 &&& (6148914691236517205 : BitVec 64)) + (x1 &&& (6148914691236517205 : BitVec 64))) &&& (3689348814741910323 : BitVec 64)))) &&& (1085102592571150095 : BitVec 64)) + q5) + q6) + q7).toNat : Int)) 127)
theorem Zo8 : Q1 Tryz.prog 331 (rd Z0b) (rd (Z0 .i64)) Zd9 := fun x1 r h => I0 Tryz.func331 rfl Tryz.ntmps331 rfl fun w H => by
 unfold Zd9 at h
 refine SR <| Ak rfl <| Nl <| sq ?_
 obtain ⟨q2, hq2, h⟩ := Z9 h
 refine Rg <| Md rfl <| Ac (Z32 rfl rfl (vt rfl) (Z33 (vku (1 : BitVec 64) rfl)) hq2) rfl <| Ac (Z4i rfl rfl (vt rfl) (vku (6148914691236517205 : BitVec 64) rfl)) rfl <| Md rfl <| Ac (Z4i rfl rfl (vt rfl) (vku (6148914691236517205 : BitVec 64) rfl)) rfl <| Ac (Z85 rfl rfl (vt rfl) (vt rfl)) rfl <| As rfl <| Nl <| sq ?_
 obtain ⟨q3, hq3, h⟩ := Z9 h
 refine Rg <| Md rfl <| Ac (Z32 rfl rfl (vt rfl) (Z33 (vku (2 : BitVec 64) rfl)) hq3) rfl <| Ac (Z4i rfl rfl (vt rfl) (vku (3689348814741910323 : BitVec 64) rfl)) rfl <| Md rfl <| Ac (Z4i rfl rfl (vt rfl) (vku (3689348814741910323 : BitVec 64) rfl)) rfl <| Ac (Z85 rfl rfl (vt rfl) (vt rfl)) rfl <| As rfl <| Nl <| sq ?_
 obtain ⟨q4, hq4, h⟩ := Z9 h
 refine Rg <| Md rfl <| Ac (Z32 rfl rfl (vt rfl) (Z33 (vku (4 : BitVec 64) rfl)) hq4) rfl <| Md rfl <| Ac (Z85 rfl rfl (vt rfl) (vt rfl)) rfl <| Ac (Z4i rfl rfl (vt rfl) (vku (1085102592571150095 : BitVec 64) rfl)) rfl <| As rfl <| Nl <| sq ?_
 obtain ⟨q5, hq5, h⟩ := Z9 h
 refine Rg <| Md rfl <| Md rfl <| Ac (Z32 rfl rfl (vt rfl) (Z33 (vku (8 : BitVec 64) rfl)) hq5) rfl <| Ac (Z85 rfl rfl (vt rfl) (vt rfl)) rfl <| As rfl <| Nl <| sq ?_
 obtain ⟨q6, hq6, h⟩ := Z9 h
 refine Rg <| Md rfl <| Md rfl <| Ac (Z32 rfl rfl (vt rfl) (Z33 (vku (16 : BitVec 64) rfl)) hq6) rfl <| Ac (Z85 rfl rfl (vt rfl) (vt rfl)) rfl <| As rfl <| Nl <| sq ?_
 obtain ⟨q7, hq7, h⟩ := Z9 h
 refine Rg <| Md rfl <| Md rfl <| Ac (Z32 rfl rfl (vt rfl) (Z33 (vku (32 : BitVec 64) rfl)) hq7) rfl <| Ac (Z85 rfl rfl (vt rfl) (vt rfl)) rfl <| As rfl <| Nl <| SR <| Md rfl <| Ac (Z4l rfl rfl Zv0 un3 (vt rfl)) rfl <| Ac (Zp4 rfl rfl (vt rfl) (vk rfl)) rfl <| As rfl <| Nl <| rt ?_
 cases h; exact Zc Tryz.results331 rfl (Zb rfl)
def Zcf (a1 : Wide) : Option Int :=
 (Zd9 a1.Hi).bind fun x3 => (Zd9 a1.Lo).bind fun x4 => some (IntKind.i64.wrap (x3 + x4))
theorem Zln : Q1 Tryz.prog 294 (rd Zo) (rd (Z0 .i64)) Zcf := fun a1 r h => I0 Tryz.func294 rfl Tryz.ntmps294 rfl fun w H => by
 unfold Zcf at h
 refine SR <| Cv rfl (Zs 2 rfl rfl (vt rfl)) fun g2 => Ak rfl <| Nl <| sq ?_
 obtain ⟨x3, hx3, x4, hx4, h⟩ := bs2 h
 refine AR Z01 (by kernel_rfl) <| SFd lWide_0 Z3j rfl <| Zu Z19 2 rfl <| SCl [4] (Zo8 _ _ hx3) Zo2 rfl <| SFd lWide_1 Z3l rfl <| Zu Z19 2 rfl <| SCl [7] (Zo8 _ _ hx4) Zo2 rfl <| Sd (lo [5, 8] [] rfl fun S hs hr => Z09 rfl rfl (vh hs 5 rfl rfl) (vh hs 8 rfl rfl)) <| SAs rfl <| Sn <| rt ?_
 cases h; exact Zc Tryz.results294 rfl (Zb rfl)
def Zem (a1 : Wide) (i2 : Int) : Option Bool :=
 (Z7q i2).bind fun x4 => (Z6x a1 x4).bind fun x5 => (Z9m x5).bind fun x6 => some (!x6)
theorem Zke : Q2 Tryz.prog 319 (rd Zo) (rd (Z0 .i64)) (rd Z6) Zem := fun a1 i2 r h => I0 Tryz.func319 rfl Tryz.ntmps319 rfl fun w H => by
 unfold Zem at h
 refine SR <| Cv rfl (Zs 3 rfl rfl (vt rfl)) fun g3 => Ab rfl <| Nl <| sq ?_
 obtain ⟨x4, hx4, x5, hx5, x6, hx6, h⟩ := bs3 h
 refine AR Z01 (by kernel_rfl) <| Zu Zw 3 rfl <| Zq rfl <| SCl [6] (Zf1 _ _ hx4) Zec rfl <| SCl [5, 7] (Zbl _ _ _ hx5) Zdx rfl <| SCl [8] (Zgt _ _ hx6) Zij rfl <| Sd (lo [9] [] rfl fun S hs hr => Z0m rfl rfl (vh hs 9 rfl rfl)) <| SAs rfl <| Sn <| rt ?_
 cases h; exact Zc Tryz.results319 rfl (Zb rfl)
def Z90 (x5 : Wide) : Nat → (List Int) → Int → Option (List Int)
 | 0, _, _ => none
 | m13 + 1, l10, i12 => (opt (decide (i12 ≥ 0)) (Zcf x5)).bind fun x14 => (bif ((decide (i12 ≥ 0)) && (decide ((l10.length : Int) < x14))) then (Zem x5 i12).bind fun x15 => (bif x15 then (Z2b l10 [i12]).bind fun l16 => (Z90 x5 m13) l16 (IntKind.i64.wrap (i12 - 1)) else (Z90 x5 m13) l10 (IntKind.i64.wrap (i12 - 1))) else some l10)
def Zh3 (a1 : Tern) (b2 : Tern) : Option (List Int) :=
 (Z6v b2.Mask a1.Mask).bind fun x5 => Z90 x5 Z2i [] 127
theorem Zr5 : Q2 Tryz.prog 318 (rd Z4) (rd Z4) (rd (Z1 (Z0 .i64))) Zh3 := fun a1 b2 r h => I0 Tryz.func318 rfl Tryz.ntmps318 rfl fun w H => by
 unfold Zh3 at h
 refine SR <| Cv rfl (Zs 3 rfl rfl (vt rfl)) fun g3 => Cv rfl (Zs 4 rfl rfl (vt rfl)) fun g4 => Ac (Z0i (A := rd (Z1 (Z0 .i64)) []) rfl rfl Z2u) rfl <| Nl <| sq ?_
 obtain ⟨x5, hx5, h⟩ := Z9 h
 refine Rg <| Zt lTern_1 Z21 rfl <| Ld Zw 4 rfl <| Zt lTern_1 Z21 rfl <| Ld Zw 3 rfl <| Cl [9, 11] (Zal _ _ _ hx5) Zbi rfl <| Cv rfl (Zn 6 rfl rfl Z29) fun g6 => Zg Zw 6 rfl <| Nl <| sq <| AW.newnil 1001 3 (Z0 .i64) <| Rg <| Ac (Z0i rfl rfl vc) rfl <| Nl <| sq <| SR <| Ak rfl <| Nl <| bk <| LG (d := []) (ν := Nat × (List Int) × Int × Value) (fun (m13, l10, i12, v11) => (True ∧ Z90 x5 m13 l10 i12 = some r, m13, [(5, Zj g6 (Lens.id Zo)), (6, Zf v11), (7, rd (Z0 .i64) i12)], [(6, Zk g6 42 Zo x5), (1001, Ze v11 3 (Z0 .i64) l10)])) (Z2i, [], 127, (.slice none 0 0)) ⟨trivial, h⟩ (FX rfl) ?_
 rintro ⟨m13, l10, i12, v11⟩ ⟨hsf1, h⟩
 dsimp only at h ⊢
 cases m13 with
 | zero => cases h
 | succ m13 =>
  unfold Z90 at h
  refine sq <| sq ?_
  obtain ⟨x14, hx14, h⟩ := Z9 h
  refine Rg <| Md rfl <| Ac (Z4d rfl rfl (vt rfl) (vk rfl)) rfl <| Md rfl <| Gd rfl (fun hq => Zh (A := Zf v11) rfl rfl (vt rfl)) <| Gd rfl (fun hq => Z6w 1001 rfl rfl Z0w (Z5 rfl hq) rfl) <| Gd rfl (fun hq => Z0d rfl rfl Zw (vt rfl) (i := 6) rfl) <| Gd rfl (fun hq => Z0k (xs := [.tmp 18]) (Zln _ _ (Z1h hx14 hq)) Znn rfl rfl ⟨Z5 rfl hq, trivial⟩) <| Gd rfl (fun hq => Zl rfl rfl (Z5 rfl hq) (Z5 rfl hq)) <| Ac (Z0p rfl rfl (vt rfl) (vt rfl)) rfl <| Nl <| Cq rfl h (fun h => ?_) (fun h => ?_)
  ·refine sk <| sq <| bk <| sq ?_
   obtain ⟨x15, hx15, h⟩ := Z9 h
   refine Rg <| Ld Zw 6 rfl <| Md rfl <| Cl [24, 25] (Zke _ _ _ hx15) Znl rfl <| Nl <| Cq rfl h (fun h => ?_) (fun h => ?_)
   ·obtain ⟨l16, hl16, h⟩ := Z9 h
    refine Rg <| Mw rfl <| Md rfl <| Ac (osl Z0w zr3 rfl (vt rfl)) rfl <| Cv rfl (Z3w 1001 hl16 rfl rfl Zfg (vt rfl) rfl (vt rfl)) fun v17 => Aw rfl <| Nl <| Rg <| Md rfl <| Ac (Z0j rfl rfl (vt rfl) (vk rfl)) rfl <| As rfl <| Nl ?_
    exact ⟨(_, _, _, _), Nat.lt_succ_self _, ⟨trivial, h⟩, FX rfl⟩
   ·refine sk <| Rg <| Md rfl <| Ac (Z0j rfl rfl (vt rfl) (vk rfl)) rfl <| As rfl <| Nl ?_
    exact ⟨(_, _, _, _), Nat.lt_succ_self _, ⟨trivial, h⟩, FX rfl⟩
  ·refine xt <| SR <| Mw rfl <| Aw rfl <| Nl <| AW.freezes [4, 6, 31] 1001 rfl ⟨rfl, rfl, rfl, trivial⟩ rfl <| rt ?_
   cases h; exact Zc Tryz.results318 rfl (Zb rfl)
def Zew (t1 : Tern) (i2 : Int) (o3 : Bool) : Option Tern :=
 (Z7q i2).bind fun x6 => (Z3k t1).bind fun x8 => (Z5s x8.Mask x6).bind fun x9 => (Z6v x8.Value x6).bind fun x10 => (bif o3 then (Z5s ({ { x8 with Mask := x9 } with Value := x10 }.Value) x6).bind fun x11 => some { { { x8 with Mask := x9 } with Value := x10 } with Value := x11 } else some { { x8 with Mask := x9 } with Value := x10 })
theorem Znh : Q3 Tryz.prog 320 (rd Z4) (rd (Z0 .i64)) (rd Z6) (rd Z4) Zew := fun t1 i2 o3 r h => I0 Tryz.func320 rfl Tryz.ntmps320 rfl fun w H => by
 unfold Zew at h
 refine SR <| Cv rfl (Zs 4 rfl rfl (vt rfl)) fun g4 => Cv rfl (Zn 7 rfl rfl Z14) fun g5 => Nl <| sq ?_
 obtain ⟨x6, hx6, h⟩ := Z9 h
 refine Rg <| Md rfl <| Cl [8] (Zf1 _ _ hx6) Zec rfl <| Cv rfl (Zn 8 rfl rfl Z29) fun g7 => Zg Zw 8 rfl <| Nl <| sq ?_
 obtain ⟨x8, hx8, h⟩ := Z9 h
 refine Rg <| Ld Zx 4 rfl <| Cl [10] (Z4o _ _ hx8) Z4n rfl <| Zg Zx 4 rfl <| Nl <| sq ?_
 obtain ⟨x9, hx9, x10, hx10, h⟩ := bs2 h
 refine AR Z01 (by kernel_rfl) <| SFd lTern_1 Z21 rfl <| Zu Zw 4 rfl <| Zu Zw 8 rfl <| SCl [13, 14] (Z7u _ _ _ hx9) Z8a rfl <| SFd lTern_0 Z2h rfl <| Zu Zw 4 rfl <| Zu Zw 8 rfl <| SCl [17, 18] (Zal _ _ _ hx10) Zbi rfl <| SFd lTern_1 Z21 rfl <| SSt Zw 4 rfl <| SFd lTern_0 Z2h rfl <| SSt Zw 4 rfl <| Sn <| sq <| SR <| Md rfl <| Nl <| Cq rfl h (fun h => ?_) (fun h => ?_)
 ·obtain ⟨x11, hx11, h⟩ := Z9 h
  refine Rg <| Zt lTern_0 Z2h rfl <| Ld Zw 4 rfl <| Ld Zw 8 rfl <| Cl [24, 25] (Z7u _ _ _ hx11) Z8a rfl <| Zt lTern_0 Z2h rfl <| Zg Zw 4 rfl <| Nl <| SR <| Ld Zx 4 rfl <| Zg Zx 7 rfl <| Nl <| rt ?_
  cases h; exact Zc Tryz.results320 rfl (Z00 rfl (i := 7) rfl Zx)
 ·refine sk <| SR <| Ld Zx 4 rfl <| Zg Zx 7 rfl <| Nl <| rt ?_
  cases h; exact Zc Tryz.results320 rfl (Z00 rfl (i := 7) rfl Zx)
end Go.Proofs.YtknpgojdkobgjaaGreat.W
set_option maxRecDepth 4000
namespace Go.Proofs.YtknpgojdkobgjaaGreat.W
open Go Go.Wb
theorem Zx9 : Ent Tryz.prog 318 := Ent.mk Tryz.func318 rfl rfl
theorem Zjy : Ent Tryz.prog 320 := Ent.mk Tryz.func320 rfl rfl
theorem Zy2 : Ent Tryz.prog 317 := Ent.mk Tryz.func317 rfl rfl
theorem Zui : Ent Tryz.prog 278 := Ent.mk Tryz.func278 rfl rfl
theorem Zxl : Ent Tryz.prog 279 := Ent.mk Tryz.func279 rfl rfl
theorem e70 : Ent Tryz.prog 70 := Ent.mk Tryz.func70 rfl rfl
theorem Zox : Ent Tryz.prog 280 := Ent.mk Tryz.func280 rfl rfl
theorem Znf : Ent Tryz.prog 235 := Ent.mk Tryz.func235 rfl rfl
theorem Zs4 : Ent Tryz.prog 240 := Ent.mk Tryz.func240 rfl rfl
theorem Ztw : Ent Tryz.prog 179 := Ent.mk Tryz.func179 rfl rfl
theorem Y0p : Ent Tryz.prog 170 := Ent.mk Tryz.func170 rfl rfl
theorem Zpd : Ent Tryz.prog 288 := Ent.mk Tryz.func288 rfl rfl
def Z9k (sg : Type) (go1 : Nat → Zi → (Lp sg) → Option (Lp sg)) (i14 : Nat) (x16 : Tern) (y1 : (sg → Zi → Option (Lp sg))) : (List Int) → Nat → Zi → (Lp sg) → Option (Lp sg)
 | [], i24, b22, s23 => go1 (i14 + 1) b22 s23
 | x26 :: l25, i24, b22, s23 => (Zem x16.Value x26).bind fun x27 => (chk 24 (i14 : Int)).bind fun j29 => (Zew (Vector.get b22 j29) x26 (!x27)).bind fun x30 => (chk 24 (i14 : Int)).bind fun j31 => (yc y1 s23 (Vector.set b22 j31.1 x30 j31.2)).bind fun s32 => (bif (!(Lp.isGo s32)) then some s32 else (chk 24 (i14 : Int)).bind fun j33 => (Zew (Vector.get b22 j33) x26 x27).bind fun x34 => (chk 24 (i14 : Int)).bind fun j35 => (Z9k sg go1 i14 x16 y1 l25) (i24 + 1) (Vector.set b22 j35.1 x34 j35.2) s32)
def Z6o (sg : Type) (y1 : (sg → Zi → Option (Lp sg))) : (List Tern) → Nat → Zi → (Lp sg) → Option (Lp sg)
 | [], i14, b12, s13 => some s13
 | x16 :: l15, i14, b12, s13 => (chk 24 (i14 : Int)).bind fun j18 => (Zh3 (Vector.get b12 j18) x16).bind fun x19 => (bif (decide ((x19.length : Int) = 0)) then (Z6o sg y1 l15) (i14 + 1) b12 s13 else Z9k sg (Z6o sg y1 l15) i14 x16 y1 x19 0 b12 s13)
def Z9g (sg : Type) (y1 : (sg → Zi → Option (Lp sg))) (s2 : (Lp sg)) (x3 : Zi) (x4 : Zi) : Option (Lp sg) :=
 (Z5k x3).bind fun x5 => (Z7w x3 x4).bind fun x7 => (bif (!x7.2) then (yc y1 s2 x5).bind fun s9 => some s9 else Z6o sg y1 (Vector.toList x4) 0 x5 s2)
theorem Zp2 (sg : Type) (y1 : (sg → Zi → Option (Lp sg))) (L : Lp sg → Zp) (s2 : (Lp sg)) (x3 : Zi) (x4 : Zi) (r : (Lp sg)) (h : Z9g sg y1 s2 x3 x4 = some r) : Con Tryz.prog 317 [ydA Tryz.prog (Z2 24 Z4) y1 L, rp (Z2 24 Z4) x3, rp (Z2 24 Z4) x4] (L s2) (fun _ : Unit => top) (fun _ => L r) := by
 refine Con.intro Tryz.func317 rfl Tryz.ntmps317 rfl fun w H X => ?_
 unfold Z9g at h
 refine AW.scope <| sq ?_
 obtain ⟨x5, hx5, h⟩ := Z9 h
 refine Rg <| Lp1 Zy rfl <| Cl [14] (Zer _ _ hx5) Zbo rfl <| Cv rfl (Zn 5 rfl rfl Z15) fun g6 => Zg Zy 5 rfl <| Nl <| sq <| sq ?_
 obtain ⟨x7, hx7, h⟩ := Z9 h
 refine Rg <| Lp1 Zy rfl <| Lp1 Zy rfl <| Cl [17, 18] (Zby _ _ _ hx7) Zcb rfl <| Mt2 rfl <| Ac (Z20 rfl rfl (vt rfl)) rfl <| Ac (Z22 rfl rfl (vt rfl)) rfl <| Cv rfl (Zn 6 rfl rfl Z15) fun g8 => Zg Zy 6 rfl <| As rfl <| Nl <| SR <| Md rfl <| Ac (Z0m rfl rfl (vt rfl)) rfl <| Nl <| Cq rfl h (fun h => ?_) (fun h => ?_)
 ·refine sq ?_
  obtain ⟨s9, hs9, h⟩ := Z9 h
  refine Rg <| Ac (Zh (A := ydA Tryz.prog (Z2 24 Z4) y1 L) rfl rfl (vt rfl)) rfl <| Ld Zy 5 rfl <| Ac (Zca 0 hs9 rfl rfl (vt rfl) (vt rfl) rfl) rfl <| Nl <| rt ?_
  cases h; exact Z1l (i := 0) Tryz.results317 rfl rfl
 ·refine sk <| sq <| AW.label <| SR <| Lp1 Zy rfl <| Mk rfl <| Nl <| bk <| LG (d := []) (ν := (List Tern) × Nat × Zi × (Lp sg)) (fun (l15, i14, b12, s13) => (Sfx (Vector.toList x4) i14 l15 ∧ Z6o sg y1 l15 i14 b12 s13 = some r, l15.length, [(0, ydA Tryz.prog (Z2 24 Z4) y1 L), (4, Zj g6 (Lens.id (Z2 24 Z4))), (27, rd (Z2 24 Z4) x4), (28, rd (Z0 .i64) (i14 : Int))], [(0, L s13), (5, Zk g6 87 (Z2 24 Z4) b12)])) ((Vector.toList x4), 0, x5, s2) ⟨Sfx.start _, h⟩ (FX rfl) ?_
  rintro ⟨l15, i14, b12, s13⟩ ⟨hsf1, h⟩
  dsimp only at hsf1 h ⊢
  cases l15 with
  | nil =>
   unfold Z6o at h
   refine SR <| Ac (Zl rfl rfl (vt rfl) (vk rfl)) rfl <| Nl <| sq <| Cn rfl (fun hc => absurd (of_decide_eq_true hc) (hsf1.niln (by simp))) (fun hc => ?_)
   refine xt ?_
   cases h; exact Z1l (i := 0) Tryz.results317 rfl rfl
  | cons x16 l15 =>
   unfold Z6o at h
   refine SR <| Ac (Zl rfl rfl (vt rfl) (vk rfl)) rfl <| Nl <| sq <| Cn rfl (fun hc => ?_) (fun hc => absurd (hsf1.consn (by simp)) (of_decide_eq_false hc))
   have hlti14 := of_decide_eq_true hc
   refine sk <| sq <| bk <| SR <| Md rfl <| Ac (Z74 rfl rfl Z26 Zx (vt rfl) (vt rfl) hsf1.lget) rfl <| Cv rfl (Zn 9 rfl rfl Z14) fun g17 => As rfl <| Zg Zx 9 rfl <| Nl <| sq ?_
   obtain ⟨j18, hj18, x19, hx19, h⟩ := bs2 h
   refine AR Z01 (by kernel_rfl) <| Zq rfl <| Sd (lo [4, 32] [] rfl fun S hs hr => Z1u rfl rfl Z26 (vh hs 4 rfl rfl) (vh hs 32 rfl rfl) hj18) <| Zu Zx 5 rfl <| Zu Zx 9 rfl <| SCl [34, 35] (Zr5 _ _ _ hx19) Zx9 rfl <| SAs rfl <| Sn <| sq <| SR <| Md rfl <| Ac (Z0a rfl rfl Z0w (vt rfl)) rfl <| Ac (Z0z rfl rfl (vt rfl) (vk rfl)) rfl <| Nl <| Cq rfl h (fun h => ?_) (fun h => ?_)
   ·refine xt <| Rg <| Ac (Z4m rfl rfl (vt rfl) (vk rfl) rfl hlti14) rfl <| Md rfl <| Nl ?_
    exact ⟨(_, _, _, _), Nat.lt_succ_self _, ⟨hsf1.next, h⟩, FX rfl⟩
   ·refine sk <| SR <| Md rfl <| Ac (Z0a rfl rfl Z0w (vt rfl)) rfl <| Mk rfl <| Nl <| bk <| LG (d := []) (ν := (List Int) × Nat × Zi × (Lp sg)) (fun (l25, i24, b22, s23) => (Sfx x19 i24 l25 ∧ Z9k sg (Z6o sg y1 l15) i14 x16 y1 l25 i24 b22 s23 = some r, l25.length, [(0, ydA Tryz.prog (Z2 24 Z4) y1 L), (4, Zj g6 (Lens.id (Z2 24 Z4))), (7, rd (Z0 .i64) (i14 : Int)), (8, Zj g17 (Lens.id Z4)), (27, rd (Z2 24 Z4) x4), (28, rd (Z0 .i64) (i14 : Int)), (40, rd (Z1 (Z0 .i64)) x19), (41, rd (Z0 .i64) (x19.length : Int)), (42, rd (Z0 .i64) (i24 : Int))], [(0, L s23), (5, Zk g6 87 (Z2 24 Z4) b22), (9, Zk g17 85 Z4 x16)])) (x19, 0, b12, s13) ⟨Sfx.start _, h⟩ (FX rfl) ?_
    rintro ⟨l25, i24, b22, s23⟩ ⟨hsf2, h⟩
    dsimp only at hsf2 h ⊢
    cases l25 with
    | nil =>
     unfold Z9k at h
     refine SR <| Ac (Zl rfl rfl (vt rfl) (vt rfl)) rfl <| Nl <| sq <| Cn rfl (fun hc => absurd (of_decide_eq_true hc) hsf2.nil) (fun hc => ?_)
     refine xt <| Rg <| Ac (Z4m rfl rfl (vt rfl) (vk rfl) rfl hlti14) rfl <| Md rfl <| Nl ?_
     exact ⟨(_, _, _, _), Nat.lt_succ_self _, ⟨hsf1.next, h⟩, FX rfl⟩
    | cons x26 l25 =>
     unfold Z9k at h
     refine SR <| Ac (Zl rfl rfl (vt rfl) (vt rfl)) rfl <| Nl <| sq <| Cn rfl (fun hc => ?_) (fun hc => absurd hsf2.cons (of_decide_eq_false hc))
     have hlti24 := of_decide_eq_true hc
     refine sk <| sq <| bk <| SR <| Ac (Z04 rfl rfl Z0w (vt rfl) (vt rfl) hsf2.lget) rfl <| Lp1 Zm rfl <| As rfl <| Nl <| sq ?_
     obtain ⟨x27, hx27, h⟩ := Z9 h
     refine Rg <| Zt lTern_0 Z2h rfl <| Ld Zw 9 rfl <| Md rfl <| Cl [47, 48] (Zke _ _ _ hx27) Znl rfl <| As rfl <| Nl <| SR <| Ld Zy 5 rfl <| Cv rfl (Zn 14 rfl rfl Z15) fun g28 => Zg Zy 14 rfl <| Nl <| sq ?_
     obtain ⟨j29, hj29, x30, hx30, j31, hj31, h⟩ := bs3 h
     refine Rg <| Md rfl <| Md rfl <| Ac (Z1u rfl rfl Z26 (vt rfl) (vt rfl) hj29) rfl <| Ld Zx 5 rfl <| Md rfl <| Md rfl <| Ac (Z0m rfl rfl (vt rfl)) rfl <| Cl [54, 55, 57] (Znh _ _ _ _ hx30) Zjy rfl <| Ac (Z1u rfl rfl Z26 (vt rfl) (vt rfl) hj31) rfl <| Zg Zx 14 rfl <| Nl <| sq <| sq ?_
     obtain ⟨s32, hs32, h⟩ := Z9 h
     refine Rg <| Ac (Zh (A := ydA Tryz.prog (Z2 24 Z4) y1 L) rfl rfl (vt rfl)) rfl <| Ld Zy 14 rfl <| Ac (Zca 0 hs32 rfl rfl (vt rfl) (vt rfl) rfl) rfl <| Ac (Z0m rfl rfl (vt rfl)) rfl <| Nl <| Cq rfl h (fun h => ?_) (fun h => ?_)
     ·refine xt ?_
      cases h; exact Z1l (i := 0) Tryz.results317 rfl rfl
     ·refine sk ?_
      obtain ⟨j33, hj33, x34, hx34, j35, hj35, h⟩ := bs3 h
      refine Rg <| Md rfl <| Md rfl <| Ac (Z1u rfl rfl Z26 (vt rfl) (vt rfl) hj33) rfl <| Ld Zx 5 rfl <| Md rfl <| Md rfl <| Cl [67, 68, 69] (Znh _ _ _ _ hx34) Zjy rfl <| Ac (Z1u rfl rfl Z26 (vt rfl) (vt rfl) hj35) rfl <| Zg Zx 5 rfl <| Nl <| Rg <| Ac (Z0y (t := 41) rfl rfl (vt rfl) (vk rfl) (vt rfl) hlti24) rfl <| Md rfl <| Nl ?_
      exact ⟨(_, _, _, _), Nat.lt_succ_self _, ⟨hsf2.next, h⟩, FX rfl⟩
def Zht (a1 : Zi) (b2 : Zi) : Option (Itr Zi) :=
 some (Itr.mk fun σ y s => Z9g σ y s a1 b2)
theorem Zsl : Q2 Tryz.prog 280 (rd (Z2 24 Z4)) (rd (Z2 24 Z4)) (Z3a Tryz.prog (Z2 24 Z4)) Zht := fun a1 b2 r h => I0 Tryz.func280 rfl Tryz.ntmps280 rfl fun w H => by
 unfold Zht at h
 refine SR <| Cv rfl (Zs 3 rfl rfl (vt rfl)) fun g3 => Cv rfl (Zs 4 rfl rfl (vt rfl)) fun g4 => Ac (Z0i (A := Zf .nilFunc) rfl rfl vc) rfl <| Nl <| sq <| AW.freezeB 2 3 rfl rfl rfl <| AW.freezeB 3 4 rfl rfl rfl <| Rg <| Ac (Zkt (Itr.mk fun σ y s => Z9g σ y s a1 b2) (cs := [.tmp 2, .tmp 3]) (CAs := [rp (Z2 24 Z4) a1, rp (Z2 24 Z4) b2]) rfl rfl Zy2 ⟨vt rfl, vt rfl, trivial⟩ (fun σ y L s r h => Zp2 σ y L s a1 b2 r h)) rfl <| Ac (Z0i (A := Z3a Tryz.prog (Z2 24 Z4) (Itr.mk fun σ y s => Z9g σ y s a1 b2)) rfl rfl (vt rfl)) rfl <| Nl <| rt ?_
 cases h; exact Zc Tryz.results280 rfl (Zb rfl)
def Zdr (l4 : (List Zi)) (x10 : (Bool × Int)) (R_cover_look_at : (cover_look → Zi → (List Zi) → Option (Z1r × Bool × Bool × cover_look))) (b18 : cover_look) (b19 : Z1r) (b20 : Bool) (b21 : Bool) (x23 : Zi) : Option (Lp (cover_look × Z1r × Bool × Bool)) :=
 (Z6g l4 (IntKind.i64.wrap (x10.2 + 1))).bind fun s25 => (R_cover_look_at b18 x23 s25).bind fun b26 => (bif (b26.2.1 || (!b26.2.2.1)) then some (.out (.exit 1) (b26.2.2.2, b26.1, b26.2.1, b26.2.2.1)) else some (.go (b26.2.2.2, b26.1, b26.2.1, b26.2.2.1)))
def Zhd (R_cover_look_at : (cover_look → Zi → (List Zi) → Option (Z1r × Bool × Bool × cover_look))) (s1 : cover_look) (x3 : Zi) (l4 : (List Zi)) : Option (Z1r × Bool × Bool × cover_look) :=
 (Zgk s1.purse).bind fun b9 => (bif (!b9.1) then some ((Vector.replicate 24 Z02), false, false, { s1 with purse := b9.2 }) else (Zik x3 l4).bind fun x10 => (bif x10.1 then some ((Vector.replicate 24 Z02), false, true, { s1 with purse := b9.2 }) else (bif (decide (x10.2 < 0)) then (Zfl x3).bind fun x12 => some (x12, true, true, { s1 with purse := b9.2 }) else (lget l4 x10.2).bind fun x16 => (Zht x3 x16).bind fun x17 => (Itr.run x17 (cover_look × Z1r × Bool × Bool) (fun s x => Zdr l4 x10 R_cover_look_at s.1 s.2.1 s.2.2.1 s.2.2.2 x) (.go ({ s1 with purse := b9.2 }, (Vector.replicate 24 Z02), false, true))).bind fun z22 => Zv3 z22 (fun s27 => some (s27.2.1, s27.2.2.1, s27.2.2.2, s27.1)) (fun c s27 => bif Zbz 1 c then some (s27.2.1, s27.2.2.1, s27.2.2.2, s27.1) else none))))
theorem Zxt (R_cover_look_at : (cover_look → Zi → (List Zi) → Option (Z1r × Bool × Bool × cover_look))) (hR_cover_look_at : ∀ (g2 gT : Nat) (s1 : cover_look) (x3 : Zi) (l4 : (List Zi)) (r : (Z1r × Bool × Bool × cover_look)), R_cover_look_at s1 x3 l4 = some r → Con Tryz.prog 235 [Zj g2 (Lens.id Z0x), rd (Z2 24 Z4) x3, rd (Z1 (Z2 24 Z4)) l4] (Zk g2 gT Z0x s1) (fun _ : Unit => Z2k (rd (Z2 24 Zo) r.1) (rd Z6 r.2.1) (rd Z6 r.2.2.1)) (fun _ => Zk g2 gT Z0x r.2.2.2)) (g2 gT : Nat) (s1 : cover_look) (x3 : Zi) (l4 : (List Zi)) (r : (Z1r × Bool × Bool × cover_look)) (h : Zhd R_cover_look_at s1 x3 l4 = some r) : Con Tryz.prog 235 [Zj g2 (Lens.id Z0x), rd (Z2 24 Z4) x3, rd (Z1 (Z2 24 Z4)) l4] (Zk g2 gT Z0x s1) (fun _ : Unit => Z2k (rd (Z2 24 Zo) r.1) (rd Z6 r.2.1) (rd Z6 r.2.2.1)) (fun _ => Zk g2 gT Z0x r.2.2.2) := by
 refine Con.intro Tryz.func235 rfl Tryz.ntmps235 rfl fun w H X => ?_
 unfold Zhd at h
 refine SR <| Cv rfl (Zs 4 rfl rfl (vkp (vt rfl))) fun g5 => Cv rfl (Zs 5 rfl rfl (vt rfl)) fun g6 => Cv rfl (Zs 6 rfl rfl (vt rfl)) fun g7 => Cv rfl (Zn 7 rfl rfl Z46) fun g8 => Ab rfl <| Ab rfl <| Nl <| AW.scope <| sq <| sq ?_
 obtain ⟨b9, hb9, h⟩ := Z9 h
 refine Rg <| Ac (Zlf (A := Zj g2 (Lens.id Z0x)) rfl rfl rfl (Znd _) (vt rfl) (i := 4) rfl) rfl <| Nc rfl <| Zt lcover_look_0 Y0g rfl <| Cv rfl (Z0u 0 (xs := [.tmp 17]) (Zz3 _ _ _ _ hb9) Zui rfl rfl ⟨vt rfl, trivial⟩ rfl) fun _u => AOps.told 0 (Zk g2 gT Z0x { s1 with purse := b9.2 }) rfl <| Ac (Z0m rfl rfl (vt rfl)) rfl <| Nl <| Cq rfl h (fun h => ?_) (fun h => ?_)
 ·refine SR <| Ac (Z10 (ps := []) (x := (Vector.replicate 24 Z02)) rfl rfl rfl (by kernel_rfl) Z46 rfl) rfl <| Zg Z1s 7 rfl <| Ab rfl <| Ab rfl <| Nl <| rt ?_
  cases h; exact Za4 (i := 0) Tryz.results235 rfl (Z00 rfl (i := 7) rfl Z1s) (Zb rfl) (Zb rfl) rfl
 ·refine sk <| sq ?_
  obtain ⟨x10, hx10, h⟩ := Z9 h
  refine Rg <| Ld Zy 5 rfl <| Ld Zid 6 rfl <| Cl [22, 23] (Zvy _ _ _ hx10) Zxl rfl <| Mt2 rfl <| Ac (Z20 rfl rfl (vt rfl)) rfl <| Ac (Z22 rfl rfl (vt rfl)) rfl <| Cv rfl (Zn 11 rfl rfl zr3) fun g11 => As rfl <| Zg Zm 11 rfl <| Nl <| sq <| bk <| SR <| Md rfl <| As rfl <| Nl <| Cq rfl h (fun h => ?_) (fun h => ?_)
  ·refine SR <| Ac (Z10 (ps := []) (x := (Vector.replicate 24 Z02)) rfl rfl rfl (by kernel_rfl) Z46 rfl) rfl <| Zg Z1s 7 rfl <| Ab rfl <| Ab rfl <| Nl <| rt ?_
   cases h; exact Za4 (i := 0) Tryz.results235 rfl (Z00 rfl (i := 7) rfl Z1s) (Zb rfl) (Zb rfl) rfl
  ·refine SR <| Ld Zm 11 rfl <| Ac (Zl rfl rfl (vt rfl) (vk rfl)) rfl <| As rfl <| Nl <| Cq rfl h (fun h => ?_) (fun h => ?_)
   ·refine sq ?_
    obtain ⟨x12, hx12, h⟩ := Z9 h
    refine Rg <| Ld Zy 5 rfl <| Cl [33] (Zu6 _ _ hx12) e70 rfl <| Zg Z1s 7 rfl <| Ab rfl <| Ab rfl <| Nl <| rt ?_
    cases h; exact Za4 (i := 0) Tryz.results235 rfl (Z00 rfl (i := 7) rfl Z1s) (Zb rfl) (Zb rfl) rfl
   ·refine sk <| SR <| Cv rfl (Zn 12 rfl rfl Z46) fun g13 => Nl <| SR <| Cv rfl (Zn 13 rfl rfl zr4) fun g14 => Cv rfl (Zn 14 rfl rfl zr4) fun g15 => Ac (Z6e rfl rfl ty4 (vt rfl) (i := 13) rfl vb) rfl <| Ac (Z6e rfl rfl ty4 (vt rfl) (i := 14) rfl vb) rfl <| Nl <| sq <| AW.label <| sq <| sq ?_
    obtain ⟨x16, hx16, x17, hx17, h⟩ := bs2 h
    refine AR Z01 (by kernel_rfl) <| Zu Zy 5 rfl <| Zu Zid 6 rfl <| Zu Zm 11 rfl <| Sd (lo [36, 37] [] rfl fun S hs hr => Z04 rfl rfl Z2y (vh hs 36 rfl rfl) (vh hs 37 rfl rfl) hx16) <| SLp Zy rfl <| SCl [35, 39] (Zsl _ _ _ hx17) Zox rfl <| Sn <| bk ?_
    obtain ⟨z22, hz22, h⟩ := Z9 h
    refine AW.fit (d := []) (L := [(3, Zj g5 (Lens.id (kas (Zj g2 (Lens.id Z0x))))), (5, Zj g7 (Lens.id (Z1 (Z2 24 Z4)))), (6, Zj g8 (Lens.id (Z2 24 Zo))), (7, rd Z6 false), (8, rd Z6 false), (10, Zj g11 (Lens.id (Z0 .i64))), (11, Zj g13 (Lens.id (Z2 24 Zo))), (12, Zj g14 (Lens.id Z6)), (13, Zj g15 (Lens.id Z6)), (40, Z3a Tryz.prog (Z2 24 Z4) x17)]) (M := [(4, Zk g5 286 (kas (Zj g2 (Lens.id Z0x))) ()), (0, Zk g2 gT Z0x { s1 with purse := b9.2 }), (6, Zk g7 229 (Z1 (Z2 24 Z4)) l4), (7, Zk g8 44 (Z2 24 Zo) (Vector.replicate 24 Z02)), (11, Zk g11 3 (Z0 .i64) x10.2), (12, Zk g13 44 (Z2 24 Zo) (Vector.replicate 24 Z02)), (13, Zk g14 4 Z6 false), (14, Zk g15 4 Z6 true)]) (FX rfl) ?_
    refine AW.rangeFunc (σ := cover_look × Z1r × Bool × Bool) (fun x => [rd (Z2 24 Z4) x]) (fun s x => Zdr l4 x10 R_cover_look_at s.1 s.2.1 s.2.2.1 s.2.2.2 x) (fun s => Z2e ((fun s => [(4, Zk g5 286 (kas (Zj g2 (Lens.id Z0x))) ()), (0, Zk g2 gT Z0x s.1), (6, Zk g7 229 (Z1 (Z2 24 Z4)) l4), (7, Zk g8 44 (Z2 24 Zo) (Vector.replicate 24 Z02)), (11, Zk g11 3 (Z0 .i64) x10.2), (12, Zk g13 44 (Z2 24 Zo) s.2.1), (13, Zk g14 4 Z6 s.2.2.1), (14, Zk g15 4 Z6 s.2.2.2)]) s)) (fun _ s => Z2e ((fun s => [(4, Zk g5 286 (kas (Zj g2 (Lens.id Z0x))) ()), (0, Zk g2 gT Z0x s.1), (6, Zk g7 229 (Z1 (Z2 24 Z4)) l4), (7, Zk g8 44 (Z2 24 Zo) (Vector.replicate 24 Z02)), (11, Zk g11 3 (Z0 .i64) x10.2), (12, Zk g13 44 (Z2 24 Zo) s.2.1), (13, Zk g14 4 Z6 s.2.2.1), (14, Zk g15 4 Z6 s.2.2.2)]) s)) [(3, Zj g5 (Lens.id (kas (Zj g2 (Lens.id Z0x))))), (5, Zj g7 (Lens.id (Z1 (Z2 24 Z4)))), (6, Zj g8 (Lens.id (Z2 24 Zo))), (7, rd Z6 false), (8, rd Z6 false), (10, Zj g11 (Lens.id (Z0 .i64))), (11, Zj g13 (Lens.id (Z2 24 Zo))), (12, Zj g14 (Lens.id Z6)), (13, Zj g15 (Lens.id Z6))] (fun s x23 S1 => ∃ (g24 : Nat), Fit S1 [] [(3, Zj g5 (Lens.id (kas (Zj g2 (Lens.id Z0x))))), (5, Zj g7 (Lens.id (Z1 (Z2 24 Z4)))), (6, Zj g8 (Lens.id (Z2 24 Zo))), (7, rd Z6 false), (8, rd Z6 false), (10, Zj g11 (Lens.id (Z0 .i64))), (11, Zj g13 (Lens.id (Z2 24 Zo))), (12, Zj g14 (Lens.id Z6)), (13, Zj g15 (Lens.id Z6)), (14, Zj g24 (Lens.id (Z2 24 Z4)))] [(4, Zk g5 286 (kas (Zj g2 (Lens.id Z0x))) ()), (0, Zk g2 gT Z0x s.1), (6, Zk g7 229 (Z1 (Z2 24 Z4)) l4), (7, Zk g8 44 (Z2 24 Zo) (Vector.replicate 24 Z02)), (11, Zk g11 3 (Z0 .i64) x10.2), (12, Zk g13 44 (Z2 24 Zo) s.2.1), (13, Zk g14 4 Z6 s.2.2.1), (14, Zk g15 4 Z6 s.2.2.2), (15, Zk g24 87 (Z2 24 Z4) x23)]) 3001 (s0 := ({ s1 with purse := b9.2 }, (Vector.replicate 24 Z02), false, true)) (sE := z22) rfl (vt rfl) ⟨rfl, inferInstance, rfl, inferInstance, rfl, inferInstance, rfl, inferInstance, rfl, inferInstance, rfl, inferInstance, rfl, inferInstance, rfl, inferInstance, rfl, inferInstance, trivial⟩ rfl (fun _ => rfl) (by intro p hp; have hp : p ∈ [41] := hp; rw [List.mem_singleton.1 hp]; show 41 < 61; decide) ?ha1 ?hb1 (fun Lf => ⟨top, _, _, Lf, _, _, hz22, rfl, rfl, rfl, rfl⟩) ?he1
    case ha1 =>
     rintro ⟨b18, b19, b20, b21⟩ x23 r hF l w H X
     refine Rg <| Cv rfl (Zn 15 rfl rfl Z15) fun g24 => Zg Zy 15 rfl <| Nl ?_
     exact ⟨rfl, g24, FX rfl⟩
    case hb1 =>
     rintro ⟨b18, b19, b20, b21⟩ x23 r h S1 ⟨g24, hfit⟩ l w H X
     refine AW.fit (d := []) (L := [(3, Zj g5 (Lens.id (kas (Zj g2 (Lens.id Z0x))))), (5, Zj g7 (Lens.id (Z1 (Z2 24 Z4)))), (6, Zj g8 (Lens.id (Z2 24 Zo))), (7, rd Z6 false), (8, rd Z6 false), (10, Zj g11 (Lens.id (Z0 .i64))), (11, Zj g13 (Lens.id (Z2 24 Zo))), (12, Zj g14 (Lens.id Z6)), (13, Zj g15 (Lens.id Z6)), (14, Zj g24 (Lens.id (Z2 24 Z4)))]) (M := [(4, Zk g5 286 (kas (Zj g2 (Lens.id Z0x))) ()), (0, Zk g2 gT Z0x b18), (6, Zk g7 229 (Z1 (Z2 24 Z4)) l4), (7, Zk g8 44 (Z2 24 Zo) (Vector.replicate 24 Z02)), (11, Zk g11 3 (Z0 .i64) x10.2), (12, Zk g13 44 (Z2 24 Zo) b19), (13, Zk g14 4 Z6 b20), (14, Zk g15 4 Z6 b21), (15, Zk g24 87 (Z2 24 Z4) x23)]) hfit <| AW.bodyT ?_
     change Zdr l4 x10 R_cover_look_at b18 b19 b20 b21 x23 = some r at h
     unfold Zdr at h
     refine bk <| sq ?_
     obtain ⟨s25, hs25, b26, hb26, h⟩ := bs2 h
     refine AR Z01 (by kernel_rfl) <| Sd (lo [3] [4] rfl fun S hs hr => Zlf (A := Zj g2 (Lens.id Z0x)) rfl rfl rfl (Znd _) (vh hs 3 rfl rfl) (i := 4) ((hr 4 rfl).trans rfl)) <| Zu Zy 15 rfl <| Zu Zid 6 rfl <| Zu Zm 11 rfl <| Sd (lo [46] [] rfl fun S hs hr => Z09 rfl rfl (vh hs 46 rfl rfl) (vk rfl)) <| Sd (lo [45, 47] [] rfl fun S hs hr => Zlg hs25 rfl rfl Z2y (vh hs 45 rfl rfl) (vh hs 47 rfl rfl)) <| Sd (Z2c (us := [(49, Z2k (rd (Z2 24 Zo) b26.1) (rd Z6 b26.2.1) (rd Z6 b26.2.2.1))]) (ur := [(0, Zk g2 gT Z0x b26.2.2.2)]) [43, 44, 48] [0] rfl fun S hs hr => Zow 0 (xs := [.tmp 43, .tmp 44, .tmp 48]) (hR_cover_look_at _ _ _ _ _ _ hb26) Znf rfl rfl ⟨vt ((hs 43 rfl).trans rfl), vt ((hs 44 rfl).trans rfl), vt ((hs 48 rfl).trans rfl), trivial⟩ ((hr 0 rfl).trans rfl)) <| Sd (lo [49] [] rfl fun S hs hr => Zh (A := Z2k (rd (Z2 24 Zo) b26.1) (rd Z6 b26.2.1) (rd Z6 b26.2.2.1)) rfl rfl (vh hs 49 rfl rfl)) <| Sd (lo [42] [] rfl fun S hs hr => Zd6 rfl rfl (vh hs 42 rfl rfl)) <| Sd (lo [42] [] rfl fun S hs hr => Zej rfl rfl (vh hs 42 rfl rfl)) <| Sd (lo [42] [] rfl fun S hs hr => Zc9 rfl rfl (vh hs 42 rfl rfl)) <| SSt Z1s 12 rfl <| SSt ty4 13 rfl <| SSt ty4 14 rfl <| Sn <| SR <| Ld ty4 13 rfl <| Md rfl <| Gd rfl (fun hq => Z0d rfl rfl ty4 (vt rfl) (i := 14) rfl) <| Gd rfl (fun hq => Z0m rfl rfl (Z5 rfl hq)) <| Ac (Z2v rfl rfl (vt rfl) (vt rfl)) rfl <| Nl <| Cq rfl h (fun h => ?_) (fun h => ?_)
     ·refine xt ?_
      obtain rfl := si h
      exact ⟨_, (b26.2.2.2, b26.1, b26.2.1, b26.2.2.1), Turn.refl, rfl, ⟨rfl, rfl, rfl, rfl, rfl, rfl, rfl, rfl, trivial⟩⟩
     ·refine sk ?_
      obtain rfl := si h
      exact ⟨_, (b26.2.2.2, b26.1, b26.2.1, b26.2.2.1), Turn.refl, rfl, ⟨rfl, rfl, rfl, rfl, rfl, rfl, rfl, rfl, trivial⟩⟩
    case he1 =>
     intro D
     cases z22 with
     | go s27 =>
      change _ = some r at h
      refine sq <| AR Z01 (by kernel_rfl) <| Zu Z1s 12 rfl <| Zu ty4 13 rfl <| Zu ty4 14 rfl <| SSt Z1s 7 rfl <| SAs rfl <| SAs rfl <| Sn <| rt ?_
      cases h; exact ⟨rfl, 3001, _, rfl, Za4 (i := 0) Tryz.results235 rfl (Z00 rfl (i := 7) rfl Z1s) (Zb rfl) (Zb rfl) rfl⟩
     | out c s27 =>
      change (bif Zbz 1 c then _ else _) = some r at h
      cases hc : Zbz 1 c with
      | true =>
       rw [hc] at h
       have hc := Zxn hc
       subst hc
       change _ = some r at h
       refine xt <| sq <| AR Z01 (by kernel_rfl) <| Zu Z1s 12 rfl <| Zu ty4 13 rfl <| Zu ty4 14 rfl <| SSt Z1s 7 rfl <| SAs rfl <| SAs rfl <| Sn <| rt ?_
       cases h; exact ⟨rfl, 3001, _, rfl, Za4 (i := 0) Tryz.results235 rfl (Z00 rfl (i := 7) rfl Z1s) (Zb rfl) (Zb rfl) rfl⟩
      | false =>
       rw [hc] at h
       cases h
def Zdc : Nat → (cover_look → Zi → (List Zi) → Option (Z1r × Bool × Bool × cover_look))
 | 0 => (fun _ _ _ => none)
 | n + 1 => (Zhd (Zdc n))
theorem Zog : ∀ n : Nat, (∀ (g2 gT : Nat) (s1 : cover_look) (x3 : Zi) (l4 : (List Zi)) (r : (Z1r × Bool × Bool × cover_look)), (Zdc n) s1 x3 l4 = some r → Con Tryz.prog 235 [Zj g2 (Lens.id Z0x), rd (Z2 24 Z4) x3, rd (Z1 (Z2 24 Z4)) l4] (Zk g2 gT Z0x s1) (fun _ : Unit => Z2k (rd (Z2 24 Zo) r.1) (rd Z6 r.2.1) (rd Z6 r.2.2.1)) (fun _ => Zk g2 gT Z0x r.2.2.2))
 | 0 => (by intros; rename_i h; cases h)
 | n + 1 => by
  have ih := Zog n
  exact (Zxt (Zdc n) ih)
def Zk3 (s1 : cover_look) (x3 : Zi) (l4 : (List Zi)) : Option (Z1r × Bool × Bool × cover_look) := (Zdc Z2i) s1 x3 l4
theorem Zu3 : ∀ (g2 gT : Nat) (s1 : cover_look) (x3 : Zi) (l4 : (List Zi)) (r : (Z1r × Bool × Bool × cover_look)), Zk3 s1 x3 l4 = some r → Con Tryz.prog 235 [Zj g2 (Lens.id Z0x), rd (Z2 24 Z4) x3, rd (Z1 (Z2 24 Z4)) l4] (Zk g2 gT Z0x s1) (fun _ : Unit => Z2k (rd (Z2 24 Zo) r.1) (rd Z6 r.2.1) (rd Z6 r.2.2.1)) (fun _ => Zk g2 gT Z0x r.2.2.2) := Zog Z2i
def Zgr (x1 : Zi) (l2 : (List Zi)) (m3 : Int) : Option (Z1r × Bool × Int) :=
 (Zk3 (⟨(⟨(Z38 m3 0), (decide (m3 ≥ 1099511627776))⟩ : cover_purse)⟩ : cover_look) x1 l2).bind fun b7 => (bif (!b7.2.2.1) then some ((Vector.replicate 24 Z02), false, 5) else some (b7.1, b7.2.1, 0))
theorem Y1n : Q3 Tryz.prog 170 (rd (Z2 24 Z4)) (rd (Z1 (Z2 24 Z4))) (rd (Z0 .i64)) (fun r => Z2k (rd (Z2 24 Zo) r.1) (rd Z6 r.2.1) (rd (Z0 .i64) r.2.2)) Zgr := fun x1 l2 m3 r h => I0 Tryz.func170 rfl Tryz.ntmps170 rfl fun w H => by
 unfold Zgr at h
 refine SR <| Cv rfl (Zs 4 rfl rfl (vt rfl)) fun g4 => Cv rfl (Zn 7 rfl rfl Z46) fun g5 => Ab rfl <| Ak rfl <| Nl <| SR <| Md rfl <| Ac (Zbd rfl rfl (vt rfl) (vk rfl)) rfl <| Md rfl <| Ac (Z4d rfl rfl (vt rfl) (vk rfl)) rfl <| Ac (opb (⟨(Z38 m3 0), (decide (m3 ≥ 1099511627776))⟩ : cover_purse) Zry rfl Zwk (pc Zp0 (vt rfl) <| pc Zua (vt rfl) <| pn rfl)) rfl <| Ac (opb (⟨(⟨(Z38 m3 0), (decide (m3 ≥ 1099511627776))⟩ : cover_purse)⟩ : cover_look) Zu1 rfl Y05 (pc Zwb (vt rfl) <| pn rfl)) rfl <| Cv rfl (Zs 20 rfl rfl (vt rfl)) fun g6 => Ac (Z0i (A := Zj g6 (Lens.id Z0x)) rfl rfl (vt rfl)) rfl <| Nl <| sq ?_
 obtain ⟨b7, hb7, h⟩ := Z9 h
 refine Rg <| Mp rfl <| Ld Zy 4 rfl <| Md rfl <| Cv rfl (Z0u 20 (xs := [.tmp 21, .tmp 22, .tmp 23]) (Zu3 _ _ _ _ _ _ hb7) Znf rfl rfl ⟨vt rfl, vt rfl, vt rfl, trivial⟩ rfl) fun _u => Ac (Zh (A := Z2k (rd (Z2 24 Zo) b7.1) (rd Z6 b7.2.1) (rd Z6 b7.2.2.1)) rfl rfl (vt rfl)) rfl <| Ac (Zd6 rfl rfl (vt rfl)) rfl <| Ac (Zej rfl rfl (vt rfl)) rfl <| Ac (Zc9 rfl rfl (vt rfl)) rfl <| Cv rfl (Zn 11 rfl rfl Z46) fun g8 => Zg Z1s 11 rfl <| As rfl <| As rfl <| Nl <| sq <| SR <| Md rfl <| Ac (Z0m rfl rfl (vt rfl)) rfl <| Nl <| Cq rfl h (fun h => ?_) (fun h => ?_)
 ·refine SR <| Ac (Z10 (ps := []) (x := (Vector.replicate 24 Z02)) rfl rfl rfl (by kernel_rfl) Z46 rfl) rfl <| Zg Z1s 7 rfl <| Ab rfl <| Ak rfl <| Nl <| rt ?_
  cases h; exact Zc5 Tryz.results170 rfl (Z00 rfl (i := 7) rfl Z1s) (Zb rfl) (Zb rfl)
 ·refine sk <| SR <| Ld Z1s 11 rfl <| Md rfl <| Zg Z1s 7 rfl <| As rfl <| Ak rfl <| Nl <| rt ?_
  cases h; exact Zc5 Tryz.results170 rfl (Z00 rfl (i := 7) rfl Z1s) (Zb rfl) (Zb rfl)
def Zgu (s : List Rule) : Option (List Rule) := Z2b [] s
theorem Zwd (s : List Rule) (r : List Rule) (h : Zgu s = some r) : Con Tryz.prog 240 [rd (Z1 Zv) s] emp (fun v => Zf v) (fun v => Ze v 90 Zv r) := by
 refine Con.intro0 Tryz.func240 rfl Tryz.ntmps240 rfl fun w H => ?_
 unfold Zgu at h
 refine AW.newnil 1001 90 Zv <| SR <| Ac (Z0i (A := Zf (.slice none 0 0)) rfl rfl vc) rfl <| Nl <| sq <| SR <| Md rfl <| Ct rfl (Z9v rfl rfl Z1a (vt rfl)) ?_
 rintro _ ⟨b, hb, rfl⟩
 refine Nl <| Cn rfl (fun hc => ?_) (fun hc => ?_)
 ·obtain rfl := hb hc
  refine SR <| Ac (Z0i (A := Zf (.slice none 0 0)) rfl rfl vc) rfl <| Nl <| rt ?_
  obtain rfl := (Z54 h).2
  exact Z3e (i := 1001) Tryz.results240 rfl rfl rfl
 ·refine sk <| SR <| Cv rfl (Za0 1002 (ps := []) (l := []) rfl rfl Z1a Z4g rfl rfl rfl rfl) fun v1 => Md rfl <| Cv rfl (Z3w 1002 h rfl rfl Zhe (vt rfl) rfl (vt rfl)) fun v2 => Aw rfl <| Nl <| rt ?_
  exact Z3e (i := 1002) Tryz.results240 rfl rfl rfl
def Zaj : Nat → Nat → (List Rule) → Option (List Rule)
 | 0, i6, l5 => some l5
 | m7 + 1, i6, l5 => (lget l5 (i6 : Int)).bind fun x8 => (Zax x8.Atoms).bind fun x9 => (lget l5 (i6 : Int)).bind fun x10 => (Zaj m7) (i6 + 1) (List.set l5 (i6 : Int).toNat { x10 with Atoms := x9 })
def Zg9 (l1 : (List Rule)) : Option (List Rule) :=
 (Zgu l1).bind fun x2 => Zaj ((x2.length : Int) : Int).toNat 0 x2
theorem Zsm : Q1 Tryz.prog 179 (rd (Z1 Zv)) (rd (Z1 Zv)) Zg9 := fun l1 r h => I0 Tryz.func179 rfl Tryz.ntmps179 rfl fun w H => by
 unfold Zg9 at h
 refine SR <| Ac (Z0i (A := rd (Z1 Zv) []) rfl rfl Z2u) rfl <| Nl <| sq ?_
 obtain ⟨x2, hx2, h⟩ := Z9 h
 refine Rg <| Md rfl <| Cv rfl (Z0u 1001 (xs := [.tmp 5]) (Zwd _ _ hx2) Zs4 rfl rfl ⟨vt rfl, trivial⟩ rfl) fun v3 => Aw rfl <| Nl <| sq <| SR <| Mw rfl <| Ac (Z6w 1001 rfl rfl Z1a (vt rfl) rfl) rfl <| Mk rfl <| Nl <| bk <| LG (d := []) (ν := Nat × Nat × (List Rule)) (fun (m7, i6, l5) => (Cnt (x2.length : Int) i6 m7 ∧ Zaj m7 i6 l5 = some r, m7, [(3, Zf v3), (8, rd (Z0 .i64) (x2.length : Int)), (9, rd (Z0 .i64) (i6 : Int))], [(1001, Ze v3 90 Zv l5)])) (((x2.length : Int) : Int).toNat, 0, x2) ⟨Cnt.start _, h⟩ (FX rfl) ?_
 rintro ⟨m7, i6, l5⟩ ⟨hsf1, h⟩
 dsimp only at hsf1 h ⊢
 cases m7 with
 | zero =>
  unfold Zaj at h
  refine SR <| Ac (Zl rfl rfl (vt rfl) (vt rfl)) rfl <| Nl <| sq <| Cn rfl (fun hc => absurd (of_decide_eq_true hc) hsf1.zero) (fun hc => ?_)
  refine xt <| SR <| Mw rfl <| Aw rfl <| Nl <| AW.freezes [2, 3, 23] 1001 rfl ⟨rfl, rfl, rfl, trivial⟩ rfl <| rt ?_
  cases h; exact Zc Tryz.results179 rfl (Zb rfl)
 | succ m7 =>
  unfold Zaj at h
  refine SR <| Ac (Zl rfl rfl (vt rfl) (vt rfl)) rfl <| Nl <| sq <| Cn rfl (fun hc => ?_) (fun hc => absurd hsf1.succ (of_decide_eq_false hc))
  have hlti6 := of_decide_eq_true hc
  refine sk <| sq <| bk <| SR <| Md rfl <| As rfl <| Nl ?_
  obtain ⟨x8, hx8, x9, hx9, x10, hx10, h⟩ := bs3 h
  refine Rg <| Mw rfl <| Md rfl <| Mw rfl <| Md rfl <| Ac (Z1e 1001 rfl rfl Z1a (vt rfl) rfl (vt rfl) hx8) rfl <| Ac (Z83 lRule_1 rfl rfl Z5q (vt rfl)) rfl <| Ac (Z0v 1001 rfl rfl Z3b (vt rfl) rfl (Z08 hx8).2) rfl <| Cl [18] (Znr _ _ hx9) Zo1 rfl <| Ac (Z1e 1001 rfl rfl Z1a (vt rfl) rfl (vt rfl) hx10) rfl <| Ac (Z83 lRule_1 rfl rfl Z5q (vt rfl)) rfl <| Ac (Z25 1001 rfl rfl Z3b (vt rfl) rfl (Z08 hx10).2 (vt rfl)) rfl <| Nl <| Rg <| Ac (Z0y (t := 8) rfl rfl (vt rfl) (vk rfl) (vt rfl) hlti6) rfl <| Md rfl <| Nl ?_
  exact ⟨(_, _, _), Nat.lt_succ_self _, ⟨hsf1.next, h⟩, FX rfl⟩
def Z73 (m2 : Int) : (List Rule) → Nat → (List Rule) → (List Zi) → Option ((List Rule) × Int)
 | [], i11, l7, l9 => (Zg9 l7).bind fun x13 => some (x13, 0)
 | x14 :: l12, i11, l7, l9 => (Zgr x14.Cube l9 m2).bind fun x16 => (bif (decide (x16.2.2 ≠ 0)) then some ([], x16.2.2) else (bif (!x16.2.1) then (Z73 m2 l12) (i11 + 1) l7 l9 else (Z2b l7 [x14]).bind fun l18 => (Z2b l9 [x14.Cube]).bind fun l20 => (Z73 m2 l12) (i11 + 1) l18 l20))
def Zfr (l1 : (List Rule)) (m2 : Int) : Option ((List Rule) × Int) :=
 Z73 m2 l1 0 [] []
theorem Y0c : Q2 Tryz.prog 111 (rd (Z1 Zv)) (rd (Z0 .i64)) (fun r => Z17 (rd (Z1 Zv) r.1) (rd (Z0 .i64) r.2)) Zfr := fun l1 m2 r h => I0 Tryz.func111 rfl Tryz.ntmps111 rfl fun w H => by
 unfold Zfr at h
 refine SR <| Ac (Z0i (A := rd (Z1 Zv) []) rfl rfl Z2u) rfl <| Ak rfl <| Nl <| AW.scope <| sq <| AW.newnil 1001 90 Zv <| Rg <| Ac (Z0i rfl rfl vc) rfl <| Nl <| sq <| AW.newnil 1002 87 (Z2 24 Z4) <| Rg <| Ac (Z0i rfl rfl vc) rfl <| Nl <| sq <| AW.label <| sq <| SR <| Md rfl <| Ac (Z0a rfl rfl Z1a (vt rfl)) rfl <| Mk rfl <| Nl <| bk <| LG (d := []) (ν := (List Rule) × Nat × (List Rule) × (List Zi) × Value × Value) (fun (l12, i11, l7, l9, v8, v10) => (Sfx l1 i11 l12 ∧ Z73 m2 l12 i11 l7 l9 = some r, l12.length, [(1, rd (Z0 .i64) m2), (6, Zf v8), (7, Zf v10), (13, rd (Z1 Zv) l1), (14, rd (Z0 .i64) (l1.length : Int)), (15, rd (Z0 .i64) (i11 : Int))], [(1001, Ze v8 90 Zv l7), (1002, Ze v10 87 (Z2 24 Z4) l9)])) (l1, 0, [], [], (.slice none 0 0), (.slice none 0 0)) ⟨Sfx.start _, h⟩ (FX rfl) ?_
 rintro ⟨l12, i11, l7, l9, v8, v10⟩ ⟨hsf1, h⟩
 dsimp only at hsf1 h ⊢
 cases l12 with
 | nil =>
  unfold Z73 at h
  refine SR <| Ac (Zl rfl rfl (vt rfl) (vt rfl)) rfl <| Nl <| sq <| Cn rfl (fun hc => absurd (of_decide_eq_true hc) hsf1.nil) (fun hc => ?_)
  refine xt <| sq <| AW.freezes [6] 1001 rfl ⟨rfl, trivial⟩ rfl ?_
  obtain ⟨x13, hx13, h⟩ := Z9 h
  refine Rg <| Md rfl <| Cl [45] (Zsm _ _ hx13) Ztw rfl <| As rfl <| Ak rfl <| Nl <| rt ?_
  cases h; exact Z1z Tryz.results111 rfl (Zb rfl) (Zb rfl)
 | cons x14 l12 =>
  unfold Z73 at h
  refine SR <| Ac (Zl rfl rfl (vt rfl) (vt rfl)) rfl <| Nl <| sq <| Cn rfl (fun hc => ?_) (fun hc => absurd hsf1.cons (of_decide_eq_false hc))
  have hlti11 := of_decide_eq_true hc
  refine sk <| sq <| bk <| SR <| Ac (Z04 rfl rfl Z1a (vt rfl) (vt rfl) hsf1.lget) rfl <| Lp1 Z2t rfl <| Cv rfl (Zn 10 rfl rfl Z4g) fun g15 => Zg Z2t 10 rfl <| Nl <| sq ?_
  obtain ⟨x16, hx16, h⟩ := Z9 h
  refine Rg <| Zt lRule_0 Z6t rfl <| Ld Zy 10 rfl <| Mw rfl <| Md rfl <| Ac (Zip (xs := [.tmp 21, .tmp 22, .tmp 23]) 1002 (Y1n _ _ _ _ hx16) Y0p rfl rfl ⟨vB (vt rfl), vL rfl rfl, vB (vt rfl), trivial⟩) rfl <| Ac (Zh (A := Z2k (rd (Z2 24 Zo) x16.1) (rd Z6 x16.2.1) (rd (Z0 .i64) x16.2.2)) rfl rfl (vt rfl)) rfl <| Ac (Zd6 rfl rfl (vt rfl)) rfl <| Ac (Zej rfl rfl (vt rfl)) rfl <| Ac (Zc9 rfl rfl (vt rfl)) rfl <| Cv rfl (Zn 11 rfl rfl Z46) fun g17 => Zg Z1s 11 rfl <| As rfl <| As rfl <| Nl <| sq <| bk <| SR <| Md rfl <| Ac (Z24 rfl rfl (vt rfl) (vk rfl)) rfl <| As rfl <| Nl <| Cq rfl h (fun h => ?_) (fun h => ?_)
  ·refine SR <| Md rfl <| Ac (Z0i (A := rd (Z1 Zv) []) rfl rfl Z2u) rfl <| As rfl <| Nl <| rt ?_
   cases h; exact Z1z Tryz.results111 rfl (Zb rfl) (Zb rfl)
  ·refine SR <| Md rfl <| Ac (Z0m rfl rfl (vt rfl)) rfl <| As rfl <| Nl <| Cq rfl h (fun h => ?_) (fun h => ?_)
   ·refine xt <| Rg <| Ac (Z0y (t := 14) rfl rfl (vt rfl) (vk rfl) (vt rfl) hlti11) rfl <| Md rfl <| Nl ?_
    exact ⟨(_, _, _, _, _, _), Nat.lt_succ_self _, ⟨hsf1.next, h⟩, FX rfl⟩
   ·refine sk ?_
    obtain ⟨l18, hl18, l20, hl20, h⟩ := bs2 h
    refine AR Z01 (by kernel_rfl) <| SMw rfl <| Zu Z2t 10 rfl <| Sd (lo [36] [] rfl fun S hs hr => osl Z1a Z4g rfl (vh hs 36 rfl rfl)) <| Sd (Z2c (us := [(38, Z2d 90 Zv l18)]) (ur := [(1001, emp)]) [35, 37] [1001] rfl fun S hs hr => Zg5 1001 hl18 rfl rfl rfl Zhe (vh hs 35 rfl rfl) ((hr 1001 rfl).trans rfl) (vh hs 37 rfl rfl)) <| SMw rfl <| SFd lRule_0 Z6t rfl <| Zu Zy 10 rfl <| Sd (lo [41] [] rfl fun S hs hr => osl Z2y Z15 rfl (vh hs 41 rfl rfl)) <| Sd (Z2c (us := [(43, Z2d 87 (Z2 24 Z4) l20)]) (ur := [(1002, emp)]) [39, 42] [1002] rfl fun S hs hr => Zg5 1002 hl20 rfl rfl rfl Zin (vh hs 39 rfl rfl) ((hr 1002 rfl).trans rfl) (vh hs 42 rfl rfl)) <| Sd (Z2c (us := [(38, top), (6, Z2d 90 Zv l18)]) (ur := []) [38] [1003] rfl fun S hs hr => Zjm 1003 rfl rfl rfl rfl ((hs 38 rfl).trans rfl) ((hr 1003 rfl).trans rfl)) <| Sd (Z2c (us := [(43, top), (7, Z2d 87 (Z2 24 Z4) l20)]) (ur := []) [43] [1004] rfl fun S hs hr => Zjm 1004 rfl rfl rfl rfl ((hs 43 rfl).trans rfl) ((hr 1004 rfl).trans rfl)) <| Sn <| AW.unpackR 6 1001 rfl rfl fun v19 => AW.unpackR 7 1002 rfl rfl fun v21 => Rg <| Ac (Z0y (t := 14) rfl rfl (vt rfl) (vk rfl) (vt rfl) hlti11) rfl <| Md rfl <| Nl ?_
    exact ⟨(_, _, _, _, _, _), Nat.lt_succ_self _, ⟨hsf1.next, h⟩, FX rfl⟩
def Zdz (x1 : Group) (x2 : Int) : Option Bool :=
 some (decide (x1.ID = x2))
theorem Zvv : Q2 Tryz.prog 288 (rd Zz) (rp (Z0 .i64)) (rd Z6) Zdz := fun x1 x2 r h => I0 Tryz.func288 rfl Tryz.ntmps288 rfl fun w H => by
 unfold Zdz at h
 refine SR <| Cv rfl (Zs 3 rfl rfl (vt rfl)) fun g3 => Ab rfl <| Nl <| SR <| Zt Z5x Z8k rfl <| Ld Zm 3 rfl <| Lp1 Zm rfl <| Ac (Z0z rfl rfl (vt rfl) (vt rfl)) rfl <| As rfl <| Nl <| rt ?_
 cases h; exact Zc Tryz.results288 rfl (Zb rfl)
def Zhn (l1 : (List Group)) (i2 : Int) : Option Int :=
 (Z84 l1 (fun x => Zdz x i2)).bind fun x4 => some x4
theorem Zp7 : Q2 Tryz.prog 241 (rd (Z1 Zz)) (rd (Z0 .i64)) (rd (Z0 .i64)) Zhn := fun l1 i2 r h => I0 Tryz.func241 rfl Tryz.ntmps241 rfl fun w H => by
 unfold Zhn at h
 refine SR <| Cv rfl (Zs 4 rfl rfl (vt rfl)) fun g3 => Ak rfl <| Nl <| sq <| AW.freezeB 3 4 rfl rfl rfl ?_
 obtain ⟨x4, hx4, h⟩ := Z9 h
 refine Rg <| Md rfl <| Ac (Z53 (cs := [.tmp 3]) (CAs := [rp (Z0 .i64) i2]) (fun x => Zdz x i2) rfl rfl Zpd ⟨vt rfl, trivial⟩ (fun x y h => Zvv _ _ y h)) rfl <| Cl [5, 6] (Zl5 _ _ _ hx4) Zjc rfl <| As rfl <| Nl <| rt ?_
 cases h; exact Zc Tryz.results241 rfl (Zb rfl)
end Go.Proofs.YtknpgojdkobgjaaGreat.W
set_option maxRecDepth 4000
namespace Go.Proofs.YtknpgojdkobgjaaGreat.W
open Go Go.Wb
theorem Zuh : Ent Tryz.prog 328 := Ent.mk Tryz.func328 rfl rfl
theorem Zy0 : Ent Tryz.prog 289 := Ent.mk Tryz.func289 rfl rfl
theorem Zyu : Ent Tryz.prog 290 := Ent.mk Tryz.func290 rfl rfl
theorem Zya : Ent Tryz.prog 241 := Ent.mk Tryz.func241 rfl rfl
theorem Zpj : Ent Tryz.prog 242 := Ent.mk Tryz.func242 rfl rfl
theorem Zx5 : Ent Tryz.prog 180 := Ent.mk Tryz.func180 rfl rfl
theorem Zwr : Ent Tryz.prog 111 := Ent.mk Tryz.func111 rfl rfl
theorem Zxs : Ent Tryz.prog 112 := Ent.mk Tryz.func112 rfl rfl
def Zil (s : List Group) : Option (List Group) := Z2b [] s
theorem Y08 (s : List Group) (r : List Group) (h : Zil s = some r) : Con Tryz.prog 289 [rd (Z1 Zz) s] emp (fun v => Zf v) (fun v => Ze v 164 Zz r) := by
 refine Con.intro0 Tryz.func289 rfl Tryz.ntmps289 rfl fun w H => ?_
 unfold Zil at h
 refine AW.newnil 1001 164 Zz <| SR <| Ac (Z0i (A := Zf (.slice none 0 0)) rfl rfl vc) rfl <| Nl <| sq <| SR <| Md rfl <| Ct rfl (Z9v rfl rfl Z1c (vt rfl)) ?_
 rintro _ ⟨b, hb, rfl⟩
 refine Nl <| Cn rfl (fun hc => ?_) (fun hc => ?_)
 ·obtain rfl := hb hc
  refine SR <| Ac (Z0i (A := Zf (.slice none 0 0)) rfl rfl vc) rfl <| Nl <| rt ?_
  obtain rfl := (Z54 h).2
  exact Z3e (i := 1001) Tryz.results289 rfl rfl rfl
 ·refine sk <| SR <| Cv rfl (Za0 1002 (ps := []) (l := []) rfl rfl Z1c Z58 rfl rfl rfl rfl) fun v1 => Md rfl <| Cv rfl (Z3w 1002 h rfl rfl Zo9 (vt rfl) rfl (vt rfl)) fun v2 => Aw rfl <| Nl <| rt ?_
  exact Z3e (i := 1002) Tryz.results289 rfl rfl rfl
def Zi7 (s : List Bucket) : Option (List Bucket) := Z2b [] s
theorem Zzv (s : List Bucket) (r : List Bucket) (h : Zi7 s = some r) : Con Tryz.prog 328 [rd (Z1 Z0c) s] emp (fun v => Zf v) (fun v => Ze v 226 Z0c r) := by
 refine Con.intro0 Tryz.func328 rfl Tryz.ntmps328 rfl fun w H => ?_
 unfold Zi7 at h
 refine AW.newnil 1001 226 Z0c <| SR <| Ac (Z0i (A := Zf (.slice none 0 0)) rfl rfl vc) rfl <| Nl <| sq <| SR <| Md rfl <| Ct rfl (Z9v rfl rfl Z1p (vt rfl)) ?_
 rintro _ ⟨b, hb, rfl⟩
 refine Nl <| Cn rfl (fun hc => ?_) (fun hc => ?_)
 ·obtain rfl := hb hc
  refine SR <| Ac (Z0i (A := Zf (.slice none 0 0)) rfl rfl vc) rfl <| Nl <| rt ?_
  obtain rfl := (Z54 h).2
  exact Z3e (i := 1001) Tryz.results328 rfl rfl rfl
 ·refine sk <| SR <| Cv rfl (Za0 1002 (ps := []) (l := []) rfl rfl Z1p Zh6 rfl rfl rfl rfl) fun v1 => Md rfl <| Cv rfl (Z3w 1002 h rfl rfl Zwp (vt rfl) rfl (vt rfl)) fun v2 => Aw rfl <| Nl <| rt ?_
  exact Z3e (i := 1002) Tryz.results328 rfl rfl rfl
def Z9d : Nat → Nat → (List Bucket) → Option (List Bucket)
 | 0, i6, l5 => some l5
 | m7 + 1, i6, l5 => (lget l5 (i6 : Int)).bind fun x8 => (Z6s x8.Acts).bind fun x9 => (lget l5 (i6 : Int)).bind fun x10 => (Z9d m7) (i6 + 1) (List.set l5 (i6 : Int).toNat { x10 with Acts := x9 })
def Zi4 (l1 : (List Bucket)) : Option (List Bucket) :=
 (Zi7 l1).bind fun x2 => Z9d ((x2.length : Int) : Int).toNat 0 x2
theorem Zvd : Q1 Tryz.prog 290 (rd (Z1 Z0c)) (rd (Z1 Z0c)) Zi4 := fun l1 r h => I0 Tryz.func290 rfl Tryz.ntmps290 rfl fun w H => by
 unfold Zi4 at h
 refine SR <| Ac (Z0i (A := rd (Z1 Z0c) []) rfl rfl Z2u) rfl <| Nl <| sq ?_
 obtain ⟨x2, hx2, h⟩ := Z9 h
 refine Rg <| Md rfl <| Cv rfl (Z0u 1001 (xs := [.tmp 5]) (Zzv _ _ hx2) Zuh rfl rfl ⟨vt rfl, trivial⟩ rfl) fun v3 => Aw rfl <| Nl <| sq <| SR <| Mw rfl <| Ac (Z6w 1001 rfl rfl Z1p (vt rfl) rfl) rfl <| Mk rfl <| Nl <| bk <| LG (d := []) (ν := Nat × Nat × (List Bucket)) (fun (m7, i6, l5) => (Cnt (x2.length : Int) i6 m7 ∧ Z9d m7 i6 l5 = some r, m7, [(3, Zf v3), (8, rd (Z0 .i64) (x2.length : Int)), (9, rd (Z0 .i64) (i6 : Int))], [(1001, Ze v3 226 Z0c l5)])) (((x2.length : Int) : Int).toNat, 0, x2) ⟨Cnt.start _, h⟩ (FX rfl) ?_
 rintro ⟨m7, i6, l5⟩ ⟨hsf1, h⟩
 dsimp only at hsf1 h ⊢
 cases m7 with
 | zero =>
  unfold Z9d at h
  refine SR <| Ac (Zl rfl rfl (vt rfl) (vt rfl)) rfl <| Nl <| sq <| Cn rfl (fun hc => absurd (of_decide_eq_true hc) hsf1.zero) (fun hc => ?_)
  refine xt <| SR <| Mw rfl <| Aw rfl <| Nl <| AW.freezes [2, 3, 23] 1001 rfl ⟨rfl, rfl, rfl, trivial⟩ rfl <| rt ?_
  cases h; exact Zc Tryz.results290 rfl (Zb rfl)
 | succ m7 =>
  unfold Z9d at h
  refine SR <| Ac (Zl rfl rfl (vt rfl) (vt rfl)) rfl <| Nl <| sq <| Cn rfl (fun hc => ?_) (fun hc => absurd hsf1.succ (of_decide_eq_false hc))
  have hlti6 := of_decide_eq_true hc
  refine sk <| sq <| bk <| SR <| Md rfl <| As rfl <| Nl ?_
  obtain ⟨x8, hx8, x9, hx9, x10, hx10, h⟩ := bs3 h
  refine Rg <| Mw rfl <| Md rfl <| Mw rfl <| Md rfl <| Ac (Z1e 1001 rfl rfl Z1p (vt rfl) rfl (vt rfl) hx8) rfl <| Ac (Z83 Z5t rfl rfl Z6a (vt rfl)) rfl <| Ac (Z0v 1001 rfl rfl Z30 (vt rfl) rfl (Z08 hx8).2) rfl <| Cl [18] (Zkj _ _ hx9) Zd2 rfl <| Ac (Z1e 1001 rfl rfl Z1p (vt rfl) rfl (vt rfl) hx10) rfl <| Ac (Z83 Z5t rfl rfl Z6a (vt rfl)) rfl <| Ac (Z25 1001 rfl rfl Z30 (vt rfl) rfl (Z08 hx10).2 (vt rfl)) rfl <| Nl <| Rg <| Ac (Z0y (t := 8) rfl rfl (vt rfl) (vk rfl) (vt rfl) hlti6) rfl <| Md rfl <| Nl ?_
  exact ⟨(_, _, _), Nat.lt_succ_self _, ⟨hsf1.next, h⟩, FX rfl⟩
def Zat : Nat → Nat → (List Group) → Option (List Group)
 | 0, i6, l5 => some l5
 | m7 + 1, i6, l5 => (lget l5 (i6 : Int)).bind fun x8 => (Zi4 x8.Buckets).bind fun x9 => (lget l5 (i6 : Int)).bind fun x10 => (Zat m7) (i6 + 1) (List.set l5 (i6 : Int).toNat { x10 with Buckets := x9 })
def Zgc (l1 : (List Group)) : Option (List Group) :=
 (Zil l1).bind fun x2 => Zat ((x2.length : Int) : Int).toNat 0 x2
theorem Zzj : Q1 Tryz.prog 242 (rd (Z1 Zz)) (rd (Z1 Zz)) Zgc := fun l1 r h => I0 Tryz.func242 rfl Tryz.ntmps242 rfl fun w H => by
 unfold Zgc at h
 refine SR <| Ac (Z0i (A := rd (Z1 Zz) []) rfl rfl Z2u) rfl <| Nl <| sq ?_
 obtain ⟨x2, hx2, h⟩ := Z9 h
 refine Rg <| Md rfl <| Cv rfl (Z0u 1001 (xs := [.tmp 5]) (Y08 _ _ hx2) Zy0 rfl rfl ⟨vt rfl, trivial⟩ rfl) fun v3 => Aw rfl <| Nl <| sq <| SR <| Mw rfl <| Ac (Z6w 1001 rfl rfl Z1c (vt rfl) rfl) rfl <| Mk rfl <| Nl <| bk <| LG (d := []) (ν := Nat × Nat × (List Group)) (fun (m7, i6, l5) => (Cnt (x2.length : Int) i6 m7 ∧ Zat m7 i6 l5 = some r, m7, [(3, Zf v3), (8, rd (Z0 .i64) (x2.length : Int)), (9, rd (Z0 .i64) (i6 : Int))], [(1001, Ze v3 164 Zz l5)])) (((x2.length : Int) : Int).toNat, 0, x2) ⟨Cnt.start _, h⟩ (FX rfl) ?_
 rintro ⟨m7, i6, l5⟩ ⟨hsf1, h⟩
 dsimp only at hsf1 h ⊢
 cases m7 with
 | zero =>
  unfold Zat at h
  refine SR <| Ac (Zl rfl rfl (vt rfl) (vt rfl)) rfl <| Nl <| sq <| Cn rfl (fun hc => absurd (of_decide_eq_true hc) hsf1.zero) (fun hc => ?_)
  refine xt <| SR <| Mw rfl <| Aw rfl <| Nl <| AW.freezes [2, 3, 23] 1001 rfl ⟨rfl, rfl, rfl, trivial⟩ rfl <| rt ?_
  cases h; exact Zc Tryz.results242 rfl (Zb rfl)
 | succ m7 =>
  unfold Zat at h
  refine SR <| Ac (Zl rfl rfl (vt rfl) (vt rfl)) rfl <| Nl <| sq <| Cn rfl (fun hc => ?_) (fun hc => absurd hsf1.succ (of_decide_eq_false hc))
  have hlti6 := of_decide_eq_true hc
  refine sk <| sq <| bk <| SR <| Md rfl <| As rfl <| Nl ?_
  obtain ⟨x8, hx8, x9, hx9, x10, hx10, h⟩ := bs3 h
  refine Rg <| Mw rfl <| Md rfl <| Mw rfl <| Md rfl <| Ac (Z1e 1001 rfl rfl Z1c (vt rfl) rfl (vt rfl) hx8) rfl <| Ac (Z83 Z5r rfl rfl Z5z (vt rfl)) rfl <| Ac (Z0v 1001 rfl rfl Z6r (vt rfl) rfl (Z08 hx8).2) rfl <| Cl [18] (Zvd _ _ hx9) Zyu rfl <| Ac (Z1e 1001 rfl rfl Z1c (vt rfl) rfl (vt rfl) hx10) rfl <| Ac (Z83 Z5r rfl rfl Z5z (vt rfl)) rfl <| Ac (Z25 1001 rfl rfl Z6r (vt rfl) rfl (Z08 hx10).2 (vt rfl)) rfl <| Nl <| Rg <| Ac (Z0y (t := 8) rfl rfl (vt rfl) (vk rfl) (vt rfl) hlti6) rfl <| Md rfl <| Nl ?_
  exact ⟨(_, _, _), Nat.lt_succ_self _, ⟨hsf1.next, h⟩, FX rfl⟩
def Zgz (l1 : (List Group)) (i2 : Int) : Option (Group × Bool) :=
 (Zhn l1 i2).bind fun x4 => (bif (decide (x4 < 0)) then some ((⟨0, 0, []⟩ : Group), false) else (Zcm l1 x4 (IntKind.i64.wrap (x4 + 1))).bind fun s5 => (Zgc s5).bind fun x6 => (lget x6 0).bind fun x7 => some (x7, true))
theorem Y17 : Q2 Tryz.prog 180 (rd (Z1 Zz)) (rd (Z0 .i64)) (fun r => Z17 (rd Zz r.1) (rd Z6 r.2)) Zgz := fun l1 i2 r h => I0 Tryz.func180 rfl Tryz.ntmps180 rfl fun w H => by
 unfold Zgz at h
 refine SR <| Cv rfl (Zn 5 rfl rfl Z58) fun g3 => Ab rfl <| Nl <| sq ?_
 obtain ⟨x4, hx4, h⟩ := Z9 h
 refine Rg <| Md rfl <| Md rfl <| Cl [7, 8] (Zp7 _ _ _ hx4) Zya rfl <| As rfl <| Nl <| sq <| SR <| Md rfl <| Ac (Zl rfl rfl (vt rfl) (vk rfl)) rfl <| Nl <| Cq rfl h (fun h => ?_) (fun h => ?_)
 ·refine SR <| Ac (opb (⟨0, 0, []⟩ : Group) Z58 rfl Zt0 (pn rfl)) rfl <| Zg Z2q 5 rfl <| Ab rfl <| Nl <| rt ?_
  cases h; exact Z1z Tryz.results180 rfl (Z00 rfl (i := 5) rfl Z2q) (Zb rfl)
 ·refine sk <| sq ?_
  obtain ⟨s5, hs5, x6, hx6, x7, hx7, h⟩ := bs3 h
  refine Rg <| Md rfl <| Md rfl <| Md rfl <| Ac (Z09 rfl rfl (vt rfl) (vk rfl)) rfl <| Ac (Zr0 hs5 rfl rfl Z1c (vt rfl) (vt rfl) (vt rfl)) rfl <| Cl [17] (Zzj _ _ hx6) Zpj rfl <| Ac (Z04 rfl rfl Z1c (vt rfl) (vk rfl) hx7) rfl <| Lp1 Z2q rfl <| Zg Z2q 5 rfl <| Ab rfl <| Nl <| rt ?_
  cases h; exact Z1z Tryz.results180 rfl (Z00 rfl (i := 5) rfl Z2q) (Zb rfl)
def Zb8 (l1 : (List Group)) : (List Group) → Nat → (List Group) → Option (List Group)
 | [], i6, l4 => some l4
 | x8 :: l7, i6, l4 => (Z6g l1 (i6 : Int)).bind fun s10 => (Zgz s10 x8.ID).bind fun x11 => (Z2b l4 [x11.1]).bind fun l13 => (Zb8 l1 l7) (i6 + 1) l13
def Zgp (l1 : (List Group)) : Option (List Group) :=
 Zb8 l1 l1 0 []
theorem Zzb : Q1 Tryz.prog 112 (rd (Z1 Zz)) (rd (Z1 Zz)) Zgp := fun l1 r h => I0 Tryz.func112 rfl Tryz.ntmps112 rfl fun w H => by
 unfold Zgp at h
 refine SR <| Ac (Z0i (A := rd (Z1 Zz) []) rfl rfl Z2u) rfl <| Nl <| sq <| AW.newnil 1001 164 Zz <| Rg <| Ac (Z0i rfl rfl vc) rfl <| Nl <| sq <| SR <| Md rfl <| Ac (Z0a rfl rfl Z1c (vt rfl)) rfl <| Mk rfl <| Nl <| bk <| LG (d := []) (ν := (List Group) × Nat × (List Group) × Value) (fun (l7, i6, l4, v5) => (Sfx l1 i6 l7 ∧ Zb8 l1 l7 i6 l4 = some r, l7.length, [(0, rd (Z1 Zz) l1), (3, Zf v5), (8, rd (Z1 Zz) l1), (9, rd (Z0 .i64) (l1.length : Int)), (10, rd (Z0 .i64) (i6 : Int))], [(1001, Ze v5 164 Zz l4)])) (l1, 0, [], (.slice none 0 0)) ⟨Sfx.start _, h⟩ (FX rfl) ?_
 rintro ⟨l7, i6, l4, v5⟩ ⟨hsf1, h⟩
 dsimp only at hsf1 h ⊢
 cases l7 with
 | nil =>
  unfold Zb8 at h
  refine SR <| Ac (Zl rfl rfl (vt rfl) (vt rfl)) rfl <| Nl <| sq <| Cn rfl (fun hc => absurd (of_decide_eq_true hc) hsf1.nil) (fun hc => ?_)
  refine xt <| SR <| Mw rfl <| Aw rfl <| Nl <| AW.freezes [2, 3, 29] 1001 rfl ⟨rfl, rfl, rfl, trivial⟩ rfl <| rt ?_
  cases h; exact Zc Tryz.results112 rfl (Zb rfl)
 | cons x8 l7 =>
  unfold Zb8 at h
  refine SR <| Ac (Zl rfl rfl (vt rfl) (vt rfl)) rfl <| Nl <| sq <| Cn rfl (fun hc => ?_) (fun hc => absurd hsf1.cons (of_decide_eq_false hc))
  have hlti6 := of_decide_eq_true hc
  refine sk <| sq <| bk <| SR <| Md rfl <| Ac (Z04 rfl rfl Z1c (vt rfl) (vt rfl) hsf1.lget) rfl <| Lp1 Z2q rfl <| Cv rfl (Zn 6 rfl rfl Z58) fun g9 => As rfl <| Zg Z2q 6 rfl <| Nl <| sq ?_
  obtain ⟨s10, hs10, x11, hx11, h⟩ := bs2 h
  refine AR Z01 (by kernel_rfl) <| Zq rfl <| Zq rfl <| Sd (lo [16, 17] [] rfl fun S hs hr => Zlg hs10 rfl rfl Z1c (vh hs 16 rfl rfl) (vh hs 17 rfl rfl)) <| SFd Z5x Z8k rfl <| Zu Zm 6 rfl <| SCl [18, 20] (Y17 _ _ _ hx11) Zx5 rfl <| Sd (lo [21] [] rfl fun S hs hr => Zh (A := Z17 (rd Zz x11.1) (rd Z6 x11.2)) rfl rfl (vh hs 21 rfl rfl)) <| Sd (lo [15] [] rfl fun S hs hr => Z20 rfl rfl (vh hs 15 rfl rfl)) <| Sd (lo [15] [] rfl fun S hs hr => Z22 rfl rfl (vh hs 15 rfl rfl)) <| Sd (Z2c (us := [(6, Z2x 164 Zz Zgi)]) (ur := []) [] [] rfl fun S hs hr => Zb3 rfl rfl rfl Z58) <| Sd (Z2c (us := [(6, Z2x 164 Zz x11.1)]) (ur := []) [6, 22] [] rfl fun S hs hr => Zb5 rfl rfl Z2q ((hs 6 rfl).trans rfl) (vh hs 22 rfl rfl)) <| SAs rfl <| Sn <| AW.unpackP 6 7 rfl rfl fun g12 => ?_
  obtain ⟨l13, hl13, h⟩ := Z9 h
  refine Rg <| Mw rfl <| Ld Z2q 7 rfl <| Ac (osl Z1c Z58 rfl (vt rfl)) rfl <| Cv rfl (Z3w 1001 hl13 rfl rfl Zo9 (vt rfl) rfl (vt rfl)) fun v14 => Aw rfl <| Nl <| Rg <| Ac (Z0y (t := 9) rfl rfl (vt rfl) (vk rfl) (vt rfl) hlti6) rfl <| Md rfl <| Nl ?_
  exact ⟨(_, _, _, _), Nat.lt_succ_self _, ⟨hsf1.next, h⟩, FX rfl⟩
def Zd4 (s1 : Switch) (m2 : Int) : Option (Flat × Int) :=
 (Zdt s1).bind fun x5 => (Zfr x5 m2).bind fun x6 => (bif (decide (x6.2 ≠ 0)) then some ((⟨[], []⟩ : Flat), x6.2) else (Zgp s1.Groups).bind fun x7 => some ((⟨x6.1, x7⟩ : Flat), 0))
theorem Zkd : Q2 Tryz.prog 54 (rd Z18) (rd (Z0 .i64)) (fun r => Z17 (rd Z2o r.1) (rd (Z0 .i64) r.2)) Zd4 := fun s1 m2 r h => I0 Tryz.func54 rfl Tryz.ntmps54 rfl fun w H => by
 unfold Zd4 at h
 refine SR <| Cv rfl (Zs 3 rfl rfl (vt rfl)) fun g3 => Cv rfl (Zn 5 rfl rfl Z7r) fun g4 => Ak rfl <| Nl <| sq ?_
 obtain ⟨x5, hx5, x6, hx6, h⟩ := bs2 h
 refine Rg <| Ld Z5u 3 rfl <| Cl [9] (Zjn _ _ hx5) e25 rfl <| Md rfl <| Cl [10, 11] (Y0c _ _ _ hx6) Zwr rfl <| Mt2 rfl <| Ac (Z20 rfl rfl (vt rfl)) rfl <| Ac (Z22 rfl rfl (vt rfl)) rfl <| As rfl <| As rfl <| Nl <| sq <| SR <| Md rfl <| Ac (Z24 rfl rfl (vt rfl) (vk rfl)) rfl <| Nl <| Cq rfl h (fun h => ?_) (fun h => ?_)
 ·refine SR <| Ac (opb (⟨[], []⟩ : Flat) Z7r rfl Zfx (pn rfl)) rfl <| Md rfl <| Zg Z2p 5 rfl <| As rfl <| Nl <| rt ?_
  cases h; exact Z1z Tryz.results54 rfl (Z00 rfl (i := 5) rfl Z2p) (Zb rfl)
 ·refine sk <| sq ?_
  obtain ⟨x7, hx7, h⟩ := Z9 h
  refine Rg <| Md rfl <| Zt Zjo Zz1 rfl <| Ld Z6l 3 rfl <| Cl [21] (Zzb _ _ hx7) Zxs rfl <| Ac (opb (⟨x6.1, x7⟩ : Flat) Z7r rfl Zfx (pc Ztj (vt rfl) <| pc Zvl (vt rfl) <| pn rfl)) rfl <| Zg Z2p 5 rfl <| Ak rfl <| Nl <| rt ?_
  cases h; exact Z1z Tryz.results54 rfl (Z00 rfl (i := 5) rfl Z2p) (Zb rfl)
def Z9u : (List Rule) → Nat → (List Zi) → Option (List Zi)
 | [], i6, l5 => some l5
 | x8 :: l7, i6, l5 => (lget l5 (i6 : Int)).bind fun x10 => (Z9u l7) (i6 + 1) (List.set l5 (i6 : Int).toNat x8.Cube)
def Zh5 (l1 : (List Rule)) : Option (List Zi) :=
 (omk (l1.length : Int)).bind fun u2 => Z9u l1 0 (List.replicate (l1.length : Int).toNat (Vector.replicate 24 Z0n))
theorem Zzg : Q1 Tryz.prog 169 (rd (Z1 Zv)) (rd (Z1 (Z2 24 Z4))) Zh5 := fun l1 r h => I0 Tryz.func169 rfl Tryz.ntmps169 rfl fun w H => by
 unfold Zh5 at h
 refine SR <| Ac (Z0i (A := rd (Z1 (Z2 24 Z4)) []) rfl rfl Z2u) rfl <| Nl <| sq ?_
 obtain ⟨u2, hu2, h⟩ := Z9 h
 refine Rg <| Md rfl <| Ac (Z0a rfl rfl Z1a (vt rfl)) rfl <| Cv rfl (Y0h 1001 hu2 rfl rfl Zin Z15 (vt rfl) (vt rfl)) fun v3 => Aw rfl <| Nl <| sq <| SR <| Md rfl <| Ac (Z0a rfl rfl Z1a (vt rfl)) rfl <| Mk rfl <| Nl <| bk <| LG (d := []) (ν := (List Rule) × Nat × (List Zi)) (fun (l7, i6, l5) => (Sfx l1 i6 l7 ∧ Z9u l7 i6 l5 = some r, l7.length, [(3, Zf v3), (9, rd (Z1 Zv) l1), (10, rd (Z0 .i64) (l1.length : Int)), (11, rd (Z0 .i64) (i6 : Int))], [(1001, Ze v3 87 (Z2 24 Z4) l5)])) (l1, 0, (List.replicate (l1.length : Int).toNat (Vector.replicate 24 Z0n))) ⟨Sfx.start _, h⟩ (FX rfl) ?_
 rintro ⟨l7, i6, l5⟩ ⟨hsf1, h⟩
 dsimp only at hsf1 h ⊢
 cases l7 with
 | nil =>
  unfold Z9u at h
  refine SR <| Ac (Zl rfl rfl (vt rfl) (vt rfl)) rfl <| Nl <| sq <| Cn rfl (fun hc => absurd (of_decide_eq_true hc) hsf1.nil) (fun hc => ?_)
  refine xt <| SR <| Mw rfl <| Aw rfl <| Nl <| AW.freezes [2, 3, 22] 1001 rfl ⟨rfl, rfl, rfl, trivial⟩ rfl <| rt ?_
  cases h; exact Zc Tryz.results169 rfl (Zb rfl)
 | cons x8 l7 =>
  unfold Z9u at h
  refine SR <| Ac (Zl rfl rfl (vt rfl) (vt rfl)) rfl <| Nl <| sq <| Cn rfl (fun hc => ?_) (fun hc => absurd hsf1.cons (of_decide_eq_false hc))
  have hlti6 := of_decide_eq_true hc
  refine sk <| sq <| bk <| SR <| Md rfl <| Ac (Z04 rfl rfl Z1a (vt rfl) (vt rfl) hsf1.lget) rfl <| Lp1 Z2t rfl <| Cv rfl (Zn 6 rfl rfl Z4g) fun g9 => As rfl <| Zg Z2t 6 rfl <| Nl ?_
  obtain ⟨x10, hx10, h⟩ := Z9 h
  refine Rg <| Mw rfl <| Md rfl <| Zt lRule_0 Z6t rfl <| Ld Zy 6 rfl <| Ac (Z1e 1001 rfl rfl Z2y (vt rfl) rfl (vt rfl) hx10) rfl <| Ac (Z25 1001 rfl rfl Zy (vt rfl) rfl (Z08 hx10).2 (vt rfl)) rfl <| Nl <| Rg <| Ac (Z0y (t := 10) rfl rfl (vt rfl) (vk rfl) (vt rfl) hlti6) rfl <| Md rfl <| Nl ?_
  exact ⟨(_, _, _), Nat.lt_succ_self _, ⟨hsf1.next, h⟩, FX rfl⟩
def Z8d (x1 : Zi) : (List Zi) → Nat → (List Zi) → Option (List Zi)
 | [], i8, l6 => some l6
 | x10 :: l9, i8, l6 => (Z7w x1 x10).bind fun x12 => (bif x12.2 then (Z2b l6 [x10]).bind fun l14 => (Z8d x1 l9) (i8 + 1) l14 else (Z8d x1 l9) (i8 + 1) l6)
def Zgw (x1 : Zi) (l2 : (List Zi)) : Option (List Zi) :=
 Z8d x1 l2 0 []
theorem Zrp : Q2 Tryz.prog 247 (rd (Z2 24 Z4)) (rd (Z1 (Z2 24 Z4))) (rd (Z1 (Z2 24 Z4))) Zgw := fun x1 l2 r h => I0 Tryz.func247 rfl Tryz.ntmps247 rfl fun w H => by
 unfold Zgw at h
 refine SR <| Cv rfl (Zs 3 rfl rfl (vt rfl)) fun g3 => Ac (Z0i (A := rd (Z1 (Z2 24 Z4)) []) rfl rfl Z2u) rfl <| Nl <| sq <| AW.newnil 1001 87 (Z2 24 Z4) <| Rg <| Ac (Z0i rfl rfl vc) rfl <| Nl <| sq <| SR <| Md rfl <| Ac (Z0a rfl rfl Z2y (vt rfl)) rfl <| Mk rfl <| Nl <| bk <| LG (d := []) (ν := (List Zi) × Nat × (List Zi) × Value) (fun (l9, i8, l6, v7) => (Sfx l2 i8 l9 ∧ Z8d x1 l9 i8 l6 = some r, l9.length, [(2, Zj g3 (Lens.id (Z2 24 Z4))), (5, Zf v7), (10, rd (Z1 (Z2 24 Z4)) l2), (11, rd (Z0 .i64) (l2.length : Int)), (12, rd (Z0 .i64) (i8 : Int))], [(3, Zk g3 87 (Z2 24 Z4) x1), (1001, Ze v7 87 (Z2 24 Z4) l6)])) (l2, 0, [], (.slice none 0 0)) ⟨Sfx.start _, h⟩ (FX rfl) ?_
 rintro ⟨l9, i8, l6, v7⟩ ⟨hsf1, h⟩
 dsimp only at hsf1 h ⊢
 cases l9 with
 | nil =>
  unfold Z8d at h
  refine SR <| Ac (Zl rfl rfl (vt rfl) (vt rfl)) rfl <| Nl <| sq <| Cn rfl (fun hc => absurd (of_decide_eq_true hc) hsf1.nil) (fun hc => ?_)
  refine xt <| SR <| Mw rfl <| Aw rfl <| Nl <| AW.freezes [4, 5, 28] 1001 rfl ⟨rfl, rfl, rfl, trivial⟩ rfl <| rt ?_
  cases h; exact Zc Tryz.results247 rfl (Zb rfl)
 | cons x10 l9 =>
  unfold Z8d at h
  refine SR <| Ac (Zl rfl rfl (vt rfl) (vt rfl)) rfl <| Nl <| sq <| Cn rfl (fun hc => ?_) (fun hc => absurd hsf1.cons (of_decide_eq_false hc))
  have hlti8 := of_decide_eq_true hc
  refine sk <| sq <| bk <| SR <| Ac (Z04 rfl rfl Z2y (vt rfl) (vt rfl) hsf1.lget) rfl <| Lp1 Zy rfl <| Cv rfl (Zn 8 rfl rfl Z15) fun g11 => Zg Zy 8 rfl <| Nl <| sq ?_
  obtain ⟨x12, hx12, h⟩ := Z9 h
  refine Rg <| Ld Zy 3 rfl <| Ld Zy 8 rfl <| Cl [17, 18] (Zby _ _ _ hx12) Zcb rfl <| Mt2 rfl <| Ac (Z20 rfl rfl (vt rfl)) rfl <| Ac (Z22 rfl rfl (vt rfl)) rfl <| Cv rfl (Zn 9 rfl rfl Z15) fun g13 => Zg Zy 9 rfl <| As rfl <| Nl <| SR <| Md rfl <| Nl <| Cq rfl h (fun h => ?_) (fun h => ?_)
  ·obtain ⟨l14, hl14, h⟩ := Z9 h
   refine Rg <| Mw rfl <| Ld Zy 8 rfl <| Ac (osl Z2y Z15 rfl (vt rfl)) rfl <| Cv rfl (Z3w 1001 hl14 rfl rfl Zin (vt rfl) rfl (vt rfl)) fun v15 => Aw rfl <| Nl <| Rg <| Ac (Z0y (t := 11) rfl rfl (vt rfl) (vk rfl) (vt rfl) hlti8) rfl <| Md rfl <| Nl ?_
   exact ⟨(_, _, _, _), Nat.lt_succ_self _, ⟨hsf1.next, h⟩, FX rfl⟩
  ·refine sk <| Rg <| Ac (Z0y (t := 11) rfl rfl (vt rfl) (vk rfl) (vt rfl) hlti8) rfl <| Md rfl <| Nl ?_
   exact ⟨(_, _, _, _), Nat.lt_succ_self _, ⟨hsf1.next, h⟩, FX rfl⟩
end Go.Proofs.YtknpgojdkobgjaaGreat.W
set_option maxRecDepth 4000
namespace Go.Proofs.YtknpgojdkobgjaaGreat.W
open Go Go.Wb
theorem Zw5 : Ent Tryz.prog 247 := Ent.mk Tryz.func247 rfl rfl
theorem Zri : Ent Tryz.prog 248 := Ent.mk Tryz.func248 rfl rfl
theorem Zxh : Ent Tryz.prog 169 := Ent.mk Tryz.func169 rfl rfl
theorem Zpt : Ent Tryz.prog 185 := Ent.mk Tryz.func185 rfl rfl
theorem Zqr : Ent Tryz.prog 117 := Ent.mk Tryz.func117 rfl rfl
theorem Zoy : Ent Tryz.prog 243 := Ent.mk Tryz.func243 rfl rfl
theorem Zt4 : Ent Tryz.prog 244 := Ent.mk Tryz.func244 rfl rfl
theorem Zs6 : Ent Tryz.prog 181 := Ent.mk Tryz.func181 rfl rfl
def Z94 : (List Tern) → Nat → Int → Option Int
 | [], i5, n4 => some n4
 | x7 :: l6, i5, n4 => (Zcf x7.Mask).bind fun x9 => (Z94 l6) (i5 + 1) (IntKind.i64.wrap (n4 + x9))
def Zhw (x1 : Zi) : Option Int :=
 Z94 (Vector.toList x1) 0 0
theorem Zwz : Q1 Tryz.prog 248 (rd (Z2 24 Z4)) (rd (Z0 .i64)) Zhw := fun x1 r h => I0 Tryz.func248 rfl Tryz.ntmps248 rfl fun w H => by
 unfold Zhw at h
 refine SR <| Cv rfl (Zs 2 rfl rfl (vt rfl)) fun g2 => Ak rfl <| Nl <| SR <| Ak rfl <| Nl <| sq <| SR <| Ld Zy 2 rfl <| Mk rfl <| Nl <| bk <| LG (d := []) (ν := (List Tern) × Nat × Int) (fun (l6, i5, n4) => (Sfx (Vector.toList x1) i5 l6 ∧ Z94 l6 i5 n4 = some r, l6.length, [(3, rd (Z0 .i64) n4), (6, rd (Z2 24 Z4) x1), (7, rd (Z0 .i64) (i5 : Int))], [])) ((Vector.toList x1), 0, 0) ⟨Sfx.start _, h⟩ (FX rfl) ?_
 rintro ⟨l6, i5, n4⟩ ⟨hsf1, h⟩
 dsimp only at hsf1 h ⊢
 cases l6 with
 | nil =>
  unfold Z94 at h
  refine SR <| Ac (Zl rfl rfl (vt rfl) (vk rfl)) rfl <| Nl <| sq <| Cn rfl (fun hc => absurd (of_decide_eq_true hc) (hsf1.niln (by simp))) (fun hc => ?_)
  refine xt <| SR <| Md rfl <| As rfl <| Nl <| rt ?_
  cases h; exact Zc Tryz.results248 rfl (Zb rfl)
 | cons x7 l6 =>
  unfold Z94 at h
  refine SR <| Ac (Zl rfl rfl (vt rfl) (vk rfl)) rfl <| Nl <| sq <| Cn rfl (fun hc => ?_) (fun hc => absurd (hsf1.consn (by simp)) (of_decide_eq_false hc))
  have hlti5 := of_decide_eq_true hc
  refine sk <| sq <| bk <| SR <| Ac (Z74 rfl rfl Z26 Zx (vt rfl) (vt rfl) hsf1.lget) rfl <| Cv rfl (Zn 6 rfl rfl Z14) fun g8 => Zg Zx 6 rfl <| Nl ?_
  obtain ⟨x9, hx9, h⟩ := Z9 h
  refine Rg <| Md rfl <| Zt lTern_1 Z21 rfl <| Ld Zw 6 rfl <| Cl [12] (Zln _ _ hx9) Znn rfl <| Ac (Z09 rfl rfl (vt rfl) (vt rfl)) rfl <| As rfl <| Nl <| Rg <| Ac (Z4m rfl rfl (vt rfl) (vk rfl) rfl hlti5) rfl <| Md rfl <| Nl ?_
  exact ⟨(_, _, _), Nat.lt_succ_self _, ⟨hsf1.next, h⟩, FX rfl⟩
def Z8n : (List Zi) → Nat → Int → Option Int
 | [], i7, n6 => some n6
 | x9 :: l8, i7, n6 => (Zhw x9).bind fun x11 => (Z8n l8) (i7 + 1) (Z4a (IntKind.i64.wrap (n6 * (Z38 x11 1))) 1099511627776)
def Zgm (x1 : Zi) (l2 : (List Zi)) : Option Int :=
 (Zgw x1 l2).bind fun x4 => Z8n x4 0 (Z4a (IntKind.i64.wrap ((x4.length : Int) + 1)) 1099511627776)
theorem Zxq : Q2 Tryz.prog 185 (rd (Z2 24 Z4)) (rd (Z1 (Z2 24 Z4))) (rd (Z0 .i64)) Zgm := fun x1 l2 r h => I0 Tryz.func185 rfl Tryz.ntmps185 rfl fun w H => by
 unfold Zgm at h
 refine SR <| Cv rfl (Zs 3 rfl rfl (vt rfl)) fun g3 => Ak rfl <| Nl <| sq ?_
 obtain ⟨x4, hx4, h⟩ := Z9 h
 refine Rg <| Ld Zy 3 rfl <| Md rfl <| Cl [9, 10] (Zrp _ _ _ hx4) Zw5 rfl <| As rfl <| Nl <| SR <| Md rfl <| Ac (Z0a rfl rfl Z2y (vt rfl)) rfl <| Ac (Z09 rfl rfl (vt rfl) (vk rfl)) rfl <| Ac (Zgj rfl rfl (vt rfl) (vk rfl)) rfl <| As rfl <| Nl <| sq <| SR <| Md rfl <| Ac (Z0a rfl rfl Z2y (vt rfl)) rfl <| Mk rfl <| Nl <| bk <| LG (d := []) (ν := (List Zi) × Nat × Int) (fun (l8, i7, n6) => (Sfx x4 i7 l8 ∧ Z8n l8 i7 n6 = some r, l8.length, [(6, rd (Z0 .i64) n6), (16, rd (Z1 (Z2 24 Z4)) x4), (17, rd (Z0 .i64) (x4.length : Int)), (18, rd (Z0 .i64) (i7 : Int))], [])) (x4, 0, (Z4a (IntKind.i64.wrap ((x4.length : Int) + 1)) 1099511627776)) ⟨Sfx.start _, h⟩ (FX rfl) ?_
 rintro ⟨l8, i7, n6⟩ ⟨hsf1, h⟩
 dsimp only at hsf1 h ⊢
 cases l8 with
 | nil =>
  unfold Z8n at h
  refine SR <| Ac (Zl rfl rfl (vt rfl) (vt rfl)) rfl <| Nl <| sq <| Cn rfl (fun hc => absurd (of_decide_eq_true hc) hsf1.nil) (fun hc => ?_)
  refine xt <| SR <| Md rfl <| As rfl <| Nl <| rt ?_
  cases h; exact Zc Tryz.results185 rfl (Zb rfl)
 | cons x9 l8 =>
  unfold Z8n at h
  refine SR <| Ac (Zl rfl rfl (vt rfl) (vt rfl)) rfl <| Nl <| sq <| Cn rfl (fun hc => ?_) (fun hc => absurd hsf1.cons (of_decide_eq_false hc))
  have hlti7 := of_decide_eq_true hc
  refine sk <| sq <| bk <| SR <| Ac (Z04 rfl rfl Z2y (vt rfl) (vt rfl) hsf1.lget) rfl <| Lp1 Zy rfl <| Cv rfl (Zn 9 rfl rfl Z15) fun g10 => Zg Zy 9 rfl <| Nl ?_
  obtain ⟨x11, hx11, h⟩ := Z9 h
  refine Rg <| Md rfl <| Ld Zy 9 rfl <| Cl [23] (Zwz _ _ hx11) Zri rfl <| Ac (Zbd rfl rfl (vt rfl) (vk rfl)) rfl <| Ac (Z4x rfl rfl (vt rfl) (vt rfl)) rfl <| Ac (Zgj rfl rfl (vt rfl) (vk rfl)) rfl <| As rfl <| Nl <| Rg <| Ac (Z0y (t := 17) rfl rfl (vt rfl) (vk rfl) (vt rfl) hlti7) rfl <| Md rfl <| Nl ?_
  exact ⟨(_, _, _), Nat.lt_succ_self _, ⟨hsf1.next, h⟩, FX rfl⟩
def Z9p (x2 : (List Zi)) : (List Zi) → Nat → Int → Option Int
 | [], i5, n4 => some n4
 | x7 :: l6, i5, n4 => (Z55 x2 (i5 : Int)).bind fun s9 => (Zgm x7 s9).bind fun x10 => (Z9p x2 l6) (i5 + 1) (Z38 n4 x10)
def Zi8 (l1 : (List Rule)) : Option Int :=
 (Zh5 l1).bind fun x2 => Z9p x2 x2 0 0
theorem Zy7 : Q1 Tryz.prog 117 (rd (Z1 Zv)) (rd (Z0 .i64)) Zi8 := fun l1 r h => I0 Tryz.func117 rfl Tryz.ntmps117 rfl fun w H => by
 unfold Zi8 at h
 refine SR <| Ak rfl <| Nl <| sq ?_
 obtain ⟨x2, hx2, h⟩ := Z9 h
 refine Rg <| Md rfl <| Cl [7] (Zzg _ _ hx2) Zxh rfl <| As rfl <| Nl <| SR <| Ak rfl <| Nl <| sq <| SR <| Md rfl <| Ac (Z0a rfl rfl Z2y (vt rfl)) rfl <| Mk rfl <| Nl <| bk <| LG (d := []) (ν := (List Zi) × Nat × Int) (fun (l6, i5, n4) => (Sfx x2 i5 l6 ∧ Z9p x2 l6 i5 n4 = some r, l6.length, [(3, rd (Z1 (Z2 24 Z4)) x2), (4, rd (Z0 .i64) n4), (9, rd (Z1 (Z2 24 Z4)) x2), (10, rd (Z0 .i64) (x2.length : Int)), (11, rd (Z0 .i64) (i5 : Int))], [])) (x2, 0, 0) ⟨Sfx.start _, h⟩ (FX rfl) ?_
 rintro ⟨l6, i5, n4⟩ ⟨hsf1, h⟩
 dsimp only at hsf1 h ⊢
 cases l6 with
 | nil =>
  unfold Z9p at h
  refine SR <| Ac (Zl rfl rfl (vt rfl) (vt rfl)) rfl <| Nl <| sq <| Cn rfl (fun hc => absurd (of_decide_eq_true hc) hsf1.nil) (fun hc => ?_)
  refine xt <| SR <| Md rfl <| As rfl <| Nl <| rt ?_
  cases h; exact Zc Tryz.results117 rfl (Zb rfl)
 | cons x7 l6 =>
  unfold Z9p at h
  refine SR <| Ac (Zl rfl rfl (vt rfl) (vt rfl)) rfl <| Nl <| sq <| Cn rfl (fun hc => ?_) (fun hc => absurd hsf1.cons (of_decide_eq_false hc))
  have hlti5 := of_decide_eq_true hc
  refine sk <| sq <| bk <| SR <| Md rfl <| Ac (Z04 rfl rfl Z2y (vt rfl) (vt rfl) hsf1.lget) rfl <| Lp1 Zy rfl <| Cv rfl (Zn 7 rfl rfl Z15) fun g8 => As rfl <| Zg Zy 7 rfl <| Nl ?_
  obtain ⟨s9, hs9, x10, hx10, h⟩ := bs2 h
  refine AR Z01 (by kernel_rfl) <| Zq rfl <| Zu Zy 7 rfl <| Zq rfl <| Zq rfl <| Sd (lo [18, 19] [] rfl fun S hs hr => Y0k hs9 rfl rfl Z2y (vh hs 18 rfl rfl) (vh hs 19 rfl rfl)) <| SCl [17, 20] (Zxq _ _ _ hx10) Zpt rfl <| Sd (lo [16, 21] [] rfl fun S hs hr => Zbd rfl rfl (vh hs 16 rfl rfl) (vh hs 21 rfl rfl)) <| SAs rfl <| Sn <| Rg <| Ac (Z0y (t := 10) rfl rfl (vt rfl) (vk rfl) (vt rfl) hlti5) rfl <| Md rfl <| Nl ?_
  exact ⟨(_, _, _), Nat.lt_succ_self _, ⟨hsf1.next, h⟩, FX rfl⟩
def Zhi (s1 : Switch) : Option Int :=
 (Zdt s1).bind fun x3 => (Zi8 x3).bind fun x4 => some x4
theorem Zzt : Q1 Tryz.prog 58 (rd Z18) (rd (Z0 .i64)) Zhi := fun s1 r h => I0 Tryz.func58 rfl Tryz.ntmps58 rfl fun w H => by
 unfold Zhi at h
 refine SR <| Cv rfl (Zs 2 rfl rfl (vt rfl)) fun g2 => Ak rfl <| Nl <| sq ?_
 obtain ⟨x3, hx3, x4, hx4, h⟩ := bs2 h
 refine Rg <| Ld Z5u 2 rfl <| Cl [3] (Zjn _ _ hx3) e25 rfl <| Cl [4] (Zy7 _ _ hx4) Zqr rfl <| As rfl <| Nl <| rt ?_
 cases h; exact Zc Tryz.results58 rfl (Zb rfl)
def Z5f (s2 : (List Atom)) (x3 : (Atom → Atom → Option Bool)) : (List Atom) → Nat → Option Bool
 | [], i4 => some true
 | x6 :: l5, i4 => (lget s2 (i4 : Int)).bind fun x8 => (x3 x6 x8).bind fun x10 => (bif (!x10) then some false else (Z5f s2 x3 l5) (i4 + 1))
def Zeo (s1 : (List Atom)) (s2 : (List Atom)) (x3 : (Atom → Atom → Option Bool)) : Option Bool :=
 (bif (decide ((s1.length : Int) ≠ (s2.length : Int))) then some false else Z5f s2 x3 s1 0)
theorem Y03 : Q3 Tryz.prog 243 (rd (Z1 Z03)) (rd (Z1 Z03)) (fn2 Tryz.prog Z03 Z03 Z6) (rd Z6) Zeo := fun s1 s2 x3 r h => I0 Tryz.func243 rfl Tryz.ntmps243 rfl fun w H => by
 unfold Zeo at h
 refine SR <| Ab rfl <| Nl <| sq <| SR <| Md rfl <| Ac (Z0a rfl rfl Z1q (vt rfl)) rfl <| Md rfl <| Ac (Z0a rfl rfl Z1q (vt rfl)) rfl <| Ac (Z24 rfl rfl (vt rfl) (vt rfl)) rfl <| Nl <| Cq rfl h (fun h => ?_) (fun h => ?_)
 ·refine SR <| Ab rfl <| Nl <| rt ?_
  cases h; exact Zc Tryz.results243 rfl (Zb rfl)
 ·refine sk <| sq <| SR <| Md rfl <| Ac (Z0a rfl rfl Z1q (vt rfl)) rfl <| Mk rfl <| Nl <| bk <| LG (d := []) (ν := (List Atom) × Nat) (fun (l5, i4) => (Sfx s1 i4 l5 ∧ Z5f s2 x3 l5 i4 = some r, l5.length, [(1, rd (Z1 Z03) s2), (2, fn2 Tryz.prog Z03 Z03 Z6 x3), (15, rd (Z1 Z03) s1), (16, rd (Z0 .i64) (s1.length : Int)), (17, rd (Z0 .i64) (i4 : Int))], [])) (s1, 0) ⟨Sfx.start _, h⟩ (FX rfl) ?_
  rintro ⟨l5, i4⟩ ⟨hsf1, h⟩
  dsimp only at hsf1 h ⊢
  cases l5 with
  | nil =>
   unfold Z5f at h
   refine SR <| Ac (Zl rfl rfl (vt rfl) (vt rfl)) rfl <| Nl <| sq <| Cn rfl (fun hc => absurd (of_decide_eq_true hc) hsf1.nil) (fun hc => ?_)
   refine xt <| SR <| Ab rfl <| Nl <| rt ?_
   cases h; exact Zc Tryz.results243 rfl (Zb rfl)
  | cons x6 l5 =>
   unfold Z5f at h
   refine SR <| Ac (Zl rfl rfl (vt rfl) (vt rfl)) rfl <| Nl <| sq <| Cn rfl (fun hc => ?_) (fun hc => absurd hsf1.cons (of_decide_eq_false hc))
   have hlti4 := of_decide_eq_true hc
   refine sk <| sq <| bk <| SR <| Md rfl <| Ac (Z04 rfl rfl Z1q (vt rfl) (vt rfl) hsf1.lget) rfl <| Lp1 Z4e rfl <| Cv rfl (Zn 9 rfl rfl Z7b) fun g7 => As rfl <| Zg Z4e 9 rfl <| Nl <| sq ?_
   obtain ⟨x8, hx8, h⟩ := Z9 h
   refine Rg <| Md rfl <| Md rfl <| Ac (Z04 rfl rfl Z1q (vt rfl) (vt rfl) hx8) rfl <| Lp1 Z4e rfl <| Cv rfl (Zn 10 rfl rfl Z7b) fun g9 => Zg Z4e 10 rfl <| Nl <| sq ?_
   obtain ⟨x10, hx10, h⟩ := Z9 h
   refine Rg <| Ac (Zh (A := fn2 Tryz.prog Z03 Z03 Z6 x3) rfl rfl (vt rfl)) rfl <| Ld Z4e 9 rfl <| Ld Z4e 10 rfl <| Ac (Z3c hx10 rfl rfl (vt rfl) (vt rfl) (vt rfl)) rfl <| Ac (Z0m rfl rfl (vt rfl)) rfl <| Nl <| Cq rfl h (fun h => ?_) (fun h => ?_)
   ·refine SR <| Ab rfl <| Nl <| rt ?_
    cases h; exact Zc Tryz.results243 rfl (Zb rfl)
   ·refine sk <| Rg <| Ac (Z0y (t := 16) rfl rfl (vt rfl) (vk rfl) (vt rfl) hlti4) rfl <| Md rfl <| Nl ?_
    exact ⟨(_, _), Nat.lt_succ_self _, ⟨hsf1.next, h⟩, FX rfl⟩
def Z8m (a1 : Atom) (b2 : Atom) : Option Bool :=
 (Z56 a1.Rewrite).bind fun x5 => (Z56 b2.Rewrite).bind fun x6 => some (decide ({ a1 with Rewrite := x5 } = { b2 with Rewrite := x6 }))
theorem Zzu : Q2 Tryz.prog 244 (rd Z03) (rd Z03) (rd Z6) Z8m := fun a1 b2 r h => I0 Tryz.func244 rfl Tryz.ntmps244 rfl fun w H => by
 unfold Z8m at h
 refine SR <| Cv rfl (Zs 3 rfl rfl (vt rfl)) fun g3 => Cv rfl (Zs 4 rfl rfl (vt rfl)) fun g4 => Ab rfl <| Nl <| sq ?_
 obtain ⟨x5, hx5, x6, hx6, h⟩ := bs2 h
 refine AR Z01 (by kernel_rfl) <| SFd lAtom_0 Z78 rfl <| Zu Z07 3 rfl <| SCl [6] (Zd5 _ _ hx5) Zee rfl <| SFd lAtom_0 Z78 rfl <| Zu Z07 4 rfl <| SCl [9] (Zd5 _ _ hx6) Zee rfl <| SFd lAtom_0 Z78 rfl <| SSt Z07 3 rfl <| SFd lAtom_0 Z78 rfl <| SSt Z07 4 rfl <| Sn <| SR <| Ld Z4e 3 rfl <| Ld Z4e 4 rfl <| Ac (Z7h rfl rfl Zt5 (by decide) rfl Zu2 (vt rfl) (vt rfl)) rfl <| As rfl <| Nl <| rt ?_
 cases h; exact Zc Tryz.results244 rfl (Zb rfl)
def Zar (a1 : (List Atom)) (b2 : (List Atom)) : Option Bool :=
 (Zeo a1 b2 Z8m).bind fun x3 => some x3
theorem Ztt : Q2 Tryz.prog 181 (rd (Z1 Z03)) (rd (Z1 Z03)) (rd Z6) Zar := fun a1 b2 r h => I0 Tryz.func181 rfl Tryz.ntmps181 rfl fun w H => by
 unfold Zar at h
 refine SR <| Ab rfl <| Nl <| sq ?_
 obtain ⟨x3, hx3, h⟩ := Z9 h
 refine Rg <| Md rfl <| Md rfl <| Ac (Z0k (xs := [.tmp 5, .tmp 6, .func 244]) (Y03 _ _ _ _ hx3) Zoy rfl rfl ⟨vt rfl, vt rfl, vf2 Zt4 Zzu, trivial⟩) rfl <| As rfl <| Nl <| rt ?_
 cases h; exact Zc Tryz.results181 rfl (Zb rfl)
def Z7p (a1 : Rule) (b2 : Rule) : Option Bool :=
 (Z5k a1.Cube).bind fun x5 => (Z5k b2.Cube).bind fun x6 => (opt (decide (x5 = x6)) (Zar a1.Atoms b2.Atoms)).bind fun x7 => some ((decide (x5 = x6)) && x7)
theorem Zs7 : Q2 Tryz.prog 114 (rd Zv) (rd Zv) (rd Z6) Z7p := fun a1 b2 r h => I0 Tryz.func114 rfl Tryz.ntmps114 rfl fun w H => by
 unfold Z7p at h
 refine SR <| Cv rfl (Zs 3 rfl rfl (vt rfl)) fun g3 => Cv rfl (Zs 4 rfl rfl (vt rfl)) fun g4 => Ab rfl <| Nl <| sq ?_
 obtain ⟨x5, hx5, x6, hx6, x7, hx7, h⟩ := bs3 h
 refine AR Z01 (by kernel_rfl) <| SFd lRule_0 Z6t rfl <| Zu Zy 3 rfl <| SCl [6] (Zer _ _ hx5) Zbo rfl <| SFd lRule_0 Z6t rfl <| Zu Zy 4 rfl <| SCl [9] (Zer _ _ hx6) Zbo rfl <| Sd (lo [7, 10] [] rfl fun S hs hr => Z7h rfl rfl Zn4 (by decide) rfl Zmt (vh hs 7 rfl rfl) (vh hs 10 rfl rfl)) <| Zq rfl <| Sd (lg [2, 12] [] rfl fun hq S hs hr => Z0l lRule_1 rfl rfl Z5q (vh hs 2 rfl rfl)) <| Sd (lg [13, 12] [3] rfl fun hq S hs hr => Z0d rfl rfl Z3b (Z5 ((hs 13 rfl).trans rfl) hq) (i := 3) ((hr 3 rfl).trans rfl)) <| Sd (lg [3, 12] [] rfl fun hq S hs hr => Z0l lRule_1 rfl rfl Z5q (vh hs 3 rfl rfl)) <| Sd (lg [15, 12] [4] rfl fun hq S hs hr => Z0d rfl rfl Z3b (Z5 ((hs 15 rfl).trans rfl) hq) (i := 4) ((hr 4 rfl).trans rfl)) <| Sd (lg [14, 16, 12] [] rfl fun hq S hs hr => Z0k (xs := [.tmp 14, .tmp 16]) (Ztt _ _ _ (Z1h hx7 hq)) Zs6 rfl rfl ⟨Z5 ((hs 14 rfl).trans rfl) hq, Z5 ((hs 16 rfl).trans rfl) hq, trivial⟩) <| Sd (lo [17, 12] [] rfl fun S hs hr => Z0p rfl rfl (vh hs 12 rfl rfl) (vh hs 17 rfl rfl)) <| SAs rfl <| Sn <| rt ?_
 cases h; exact Zc Tryz.results114 rfl (Zb rfl)
def Z5i (s2 : (List Group)) (x3 : (Group → Group → Option Bool)) : (List Group) → Nat → Option Bool
 | [], i4 => some true
 | x6 :: l5, i4 => (lget s2 (i4 : Int)).bind fun x8 => (x3 x6 x8).bind fun x10 => (bif (!x10) then some false else (Z5i s2 x3 l5) (i4 + 1))
def Zag (s1 : (List Group)) (s2 : (List Group)) (x3 : (Group → Group → Option Bool)) : Option Bool :=
 (bif (decide ((s1.length : Int) ≠ (s2.length : Int))) then some false else Z5i s2 x3 s1 0)
theorem Zqp : Q3 Tryz.prog 182 (rd (Z1 Zz)) (rd (Z1 Zz)) (fn2 Tryz.prog Zz Zz Z6) (rd Z6) Zag := fun s1 s2 x3 r h => I0 Tryz.func182 rfl Tryz.ntmps182 rfl fun w H => by
 unfold Zag at h
 refine SR <| Ab rfl <| Nl <| sq <| SR <| Md rfl <| Ac (Z0a rfl rfl Z1c (vt rfl)) rfl <| Md rfl <| Ac (Z0a rfl rfl Z1c (vt rfl)) rfl <| Ac (Z24 rfl rfl (vt rfl) (vt rfl)) rfl <| Nl <| Cq rfl h (fun h => ?_) (fun h => ?_)
 ·refine SR <| Ab rfl <| Nl <| rt ?_
  cases h; exact Zc Tryz.results182 rfl (Zb rfl)
 ·refine sk <| sq <| SR <| Md rfl <| Ac (Z0a rfl rfl Z1c (vt rfl)) rfl <| Mk rfl <| Nl <| bk <| LG (d := []) (ν := (List Group) × Nat) (fun (l5, i4) => (Sfx s1 i4 l5 ∧ Z5i s2 x3 l5 i4 = some r, l5.length, [(1, rd (Z1 Zz) s2), (2, fn2 Tryz.prog Zz Zz Z6 x3), (15, rd (Z1 Zz) s1), (16, rd (Z0 .i64) (s1.length : Int)), (17, rd (Z0 .i64) (i4 : Int))], [])) (s1, 0) ⟨Sfx.start _, h⟩ (FX rfl) ?_
  rintro ⟨l5, i4⟩ ⟨hsf1, h⟩
  dsimp only at hsf1 h ⊢
  cases l5 with
  | nil =>
   unfold Z5i at h
   refine SR <| Ac (Zl rfl rfl (vt rfl) (vt rfl)) rfl <| Nl <| sq <| Cn rfl (fun hc => absurd (of_decide_eq_true hc) hsf1.nil) (fun hc => ?_)
   refine xt <| SR <| Ab rfl <| Nl <| rt ?_
   cases h; exact Zc Tryz.results182 rfl (Zb rfl)
  | cons x6 l5 =>
   unfold Z5i at h
   refine SR <| Ac (Zl rfl rfl (vt rfl) (vt rfl)) rfl <| Nl <| sq <| Cn rfl (fun hc => ?_) (fun hc => absurd hsf1.cons (of_decide_eq_false hc))
   have hlti4 := of_decide_eq_true hc
   refine sk <| sq <| bk <| SR <| Md rfl <| Ac (Z04 rfl rfl Z1c (vt rfl) (vt rfl) hsf1.lget) rfl <| Lp1 Z2q rfl <| Cv rfl (Zn 9 rfl rfl Z58) fun g7 => As rfl <| Zg Z2q 9 rfl <| Nl <| sq ?_
   obtain ⟨x8, hx8, h⟩ := Z9 h
   refine Rg <| Md rfl <| Md rfl <| Ac (Z04 rfl rfl Z1c (vt rfl) (vt rfl) hx8) rfl <| Lp1 Z2q rfl <| Cv rfl (Zn 10 rfl rfl Z58) fun g9 => Zg Z2q 10 rfl <| Nl <| sq ?_
   obtain ⟨x10, hx10, h⟩ := Z9 h
   refine Rg <| Ac (Zh (A := fn2 Tryz.prog Zz Zz Z6 x3) rfl rfl (vt rfl)) rfl <| Ld Z2q 9 rfl <| Ld Z2q 10 rfl <| Ac (Z3c hx10 rfl rfl (vt rfl) (vt rfl) (vt rfl)) rfl <| Ac (Z0m rfl rfl (vt rfl)) rfl <| Nl <| Cq rfl h (fun h => ?_) (fun h => ?_)
   ·refine SR <| Ab rfl <| Nl <| rt ?_
    cases h; exact Zc Tryz.results182 rfl (Zb rfl)
   ·refine sk <| Rg <| Ac (Z0y (t := 16) rfl rfl (vt rfl) (vk rfl) (vt rfl) hlti4) rfl <| Md rfl <| Nl ?_
    exact ⟨(_, _), Nat.lt_succ_self _, ⟨hsf1.next, h⟩, FX rfl⟩
end Go.Proofs.YtknpgojdkobgjaaGreat.W
