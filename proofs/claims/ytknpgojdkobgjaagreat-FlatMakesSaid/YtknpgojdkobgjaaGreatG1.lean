/- A part of the proof. -/
import Derived.Test.YtknpgojdkobgjaaGreatG0
set_option linter.unusedVariables false
set_option maxRecDepth 4000
set_option linter.unusedSimpArgs false
namespace Go.Proofs.YtknpgojdkobgjaaGreat.W
open Go Go.Wb
theorem Zqs : Ent Tryz.prog 343 := Ent.mk Tryz.func343 rfl rfl
theorem Zom : Ent Tryz.prog 311 := Ent.mk Tryz.func311 rfl rfl
theorem Yec : Ent Tryz.prog 335 := Ent.mk Tryz.func335 rfl rfl
theorem Zv4 : Ent Tryz.prog 310 := Ent.mk Tryz.func310 rfl rfl
theorem Yf2 : Ent Tryz.prog 274 := Ent.mk Tryz.func274 rfl rfl
theorem Ygm : Ent Tryz.prog 213 := Ent.mk Tryz.func213 rfl rfl
theorem Yck : Ent Tryz.prog 214 := Ent.mk Tryz.func214 rfl rfl
theorem Yh4 : Ent Tryz.prog 217 := Ent.mk Tryz.func217 rfl rfl
theorem Y4p : Ent Tryz.prog 215 := Ent.mk Tryz.func215 rfl rfl
theorem Yix : Ent Tryz.prog 219 := Ent.mk Tryz.func219 rfl rfl
theorem Yed : Ent Tryz.prog 220 := Ent.mk Tryz.func220 rfl rfl
def Zcz (d3 : (Action → Option Bool)) : Nat → (List Action) → Int → Int → Option (List Action)
 | 0, _, _, _ => none
 | m11 + 1, l8, i9, j10 => (bif (decide (j10 < (l8.length : Int))) then (lget l8 j10).bind fun x12 => (d3 x12).bind fun x14 => (bif (!x14) then (lget l8 i9).bind fun x15 => (Zcz d3 m11) (List.set l8 i9.toNat x12) (IntKind.i64.wrap (i9 + 1)) (IntKind.i64.wrap (j10 + 1)) else (Zcz d3 m11) l8 i9 (IntKind.i64.wrap (j10 + 1))) else (Z5o l8 i9).bind fun s16 => (Z4m (List.take i9.toNat l8 ++ List.replicate (l8.length - i9.toNat) Zof) i9).bind fun s17 => some s17)
def Zic (s1 : (List Action)) (d3 : (Action → Option Bool)) : Option (List Action) :=
 (Zb9 s1 d3).bind fun x4 => (bif (decide (x4 = (-1))) then some s1 else Zcz d3 ((((s1.length : Int) : Int) - (IntKind.i64.wrap (x4 + 1))).toNat + 1) s1 x4 (IntKind.i64.wrap (x4 + 1)))
theorem Ygq (v2 : Value) (s1 : (List Action)) (d3 : (Action → Option Bool)) (r : (List Action)) (h : Zic s1 d3 = some r) : Con Tryz.prog 215 [Zj v2, fn1 Tryz.prog Z8 Z7 d3] (Zh v2 121 Z8 s1) (fun v => Zj v) (fun v => Zh v 121 Z8 r) := by
 refine Con.intro Tryz.func215 rfl Tryz.ntmps215 rfl fun w H X => ?_
 unfold Zic at h
 refine sq <| AW.newnil 1001 121 Z8 <| Rg <| Ac (Z04 rfl rfl vc) rfl <| Nl <| sq ?_
 obtain ⟨x4, hx4, h⟩ := Za h
 refine Rg <| Mw rfl <| Ac (Zk (A := fn1 Tryz.prog Z8 Z7 d3) rfl rfl (vt rfl)) rfl <| Ac (Zse (xs := [.tmp 8, .tmp 9]) 0 (Zsn _ _ _ hx4) Zq0 rfl rfl ⟨vL rfl rfl, vB (vt rfl), trivial⟩) rfl <| As rfl <| Nl <| sq <| SR <| Md rfl <| Ac (Z0f rfl rfl (vt rfl) (vk rfl)) rfl <| Nl <| Cq rfl h (fun h => ?_) (fun h => ?_)
 ·refine SR <| Mw rfl <| Aw rfl <| Nl <| rt ?_
  cases h; exact Z50 (i := 0) Tryz.results215 rfl rfl rfl
 ·refine sk <| sq <| SR <| Md rfl <| Ac (Z02 rfl rfl (vt rfl) (vk rfl)) rfl <| As rfl <| Nl <| bk <| LG (d := []) (ν := Nat × (List Action) × Int × Int) (fun (m11, l8, i9, j10) => (True ∧ Zcz d3 m11 l8 i9 j10 = some r, m11, [(0, Zj v2), (1, fn1 Tryz.prog Z8 Z7 d3), (5, rd (Z0 .i64) i9), (6, rd (Z0 .i64) j10)], [(0, Zh v2 121 Z8 l8)])) (((((s1.length : Int) : Int) - (IntKind.i64.wrap (x4 + 1))).toNat + 1), s1, x4, (IntKind.i64.wrap (x4 + 1))) ⟨trivial, h⟩ (FX rfl) ?_
  rintro ⟨m11, l8, i9, j10⟩ ⟨hsf1, h⟩
  dsimp only at h ⊢
  cases m11 with
  | zero => cases h
  | succ m11 =>
   unfold Zcz at h
   refine sq <| SR <| Md rfl <| Mw rfl <| Ac (Z5s 0 rfl rfl Z08 (vt rfl) rfl) rfl <| Ac (Zl rfl rfl (vt rfl) (vt rfl)) rfl <| Nl <| Cq rfl h (fun h => ?_) (fun h => ?_)
   ·refine sk <| sq <| bk <| sq ?_
    obtain ⟨x12, hx12, h⟩ := Za h
    refine Rg <| Mw rfl <| Md rfl <| Ac (Z1r 0 rfl rfl Z08 (vt rfl) rfl (vt rfl) hx12) rfl <| Ac (Z1f 0 rfl rfl Z0h (vt rfl) rfl (Z0e hx12).2) rfl <| Cv rfl (Zo 8 rfl rfl Z4e) fun g13 => Zd Z0h 8 rfl <| Nl <| sq ?_
    obtain ⟨x14, hx14, h⟩ := Za h
    refine Rg <| Ac (Zk (A := fn1 Tryz.prog Z8 Z7 d3) rfl rfl (vt rfl)) rfl <| Ld Z0h 8 rfl <| Ac (Za0 hx14 rfl rfl (vt rfl) (vt rfl)) rfl <| Ac (Z0s rfl rfl (vt rfl)) rfl <| Nl <| Cq rfl h (fun h => ?_) (fun h => ?_)
    ·refine sq ?_
     obtain ⟨x15, hx15, h⟩ := Za h
     refine Rg <| Mw rfl <| Md rfl <| Ld Z0h 8 rfl <| Ac (Z1r 0 rfl rfl Z08 (vt rfl) rfl (vt rfl) hx15) rfl <| Ac (Z2d 0 rfl rfl Z0h (vt rfl) rfl (Z0e hx15).2 (vt rfl)) rfl <| Nl <| Rg <| Md rfl <| Ac (Z02 rfl rfl (vt rfl) (vk rfl)) rfl <| As rfl <| Nl <| Rg <| Md rfl <| Ac (Z02 rfl rfl (vt rfl) (vk rfl)) rfl <| As rfl <| Nl ?_
     exact ⟨(_, _, _, _), Nat.lt_succ_self _, ⟨trivial, h⟩, FX rfl⟩
    ·refine sk <| Rg <| Md rfl <| Ac (Z02 rfl rfl (vt rfl) (vk rfl)) rfl <| As rfl <| Nl ?_
     exact ⟨(_, _, _, _), Nat.lt_succ_self _, ⟨trivial, h⟩, FX rfl⟩
   ·refine xt <| sq ?_
    obtain ⟨s16, hs16, h⟩ := Za h
    refine Rg <| Mw rfl <| Md rfl <| Ac (Ydj 0 hs16 rfl rfl Z08 (vt rfl) rfl (vt rfl)) rfl <| Ac (Y5o 0 rfl rfl Z08 Z4e rfl (vt rfl) rfl (Zs5 hs16).2.1) rfl <| Nl <| sq ?_
    obtain ⟨s17, hs17, h⟩ := Za h
    refine Rg <| Mw rfl <| Md rfl <| Cv rfl (Y76 0 hs17 rfl rfl Z08 (vt rfl) rfl (vt rfl)) fun v18 => Aw rfl <| Nl <| rt ?_
    cases h; exact Z50 (i := 0) Tryz.results215 rfl rfl rfl
def Zc4 (a3 : Int) (x5 : (Action → Action → Option Int)) (go1 : (List Action) → Int → Option (List Action)) (i9 : Int) : Nat → (List Action) → Int → Option (List Action)
 | 0, _, _ => none
 | m15 + 1, l13, j14 => (opt (decide (j14 > a3)) (lget l13 j14)).bind fun x16 => (opt (decide (j14 > a3)) (lget l13 (IntKind.i64.wrap (j14 - 1)))).bind fun x17 => (opt (decide (j14 > a3)) (x5 x16 x17)).bind fun x18 => (bif ((decide (j14 > a3)) && (decide (x18 < 0))) then (lget l13 (IntKind.i64.wrap (j14 - 1))).bind fun x19 => (lget l13 j14).bind fun x20 => (lget l13 j14).bind fun x21 => (lget (List.set l13 j14.toNat x19) (IntKind.i64.wrap (j14 - 1))).bind fun x22 => (Zc4 a3 x5 go1 i9 m15) (List.set (List.set l13 j14.toNat x19) (IntKind.i64.wrap (j14 - 1)).toNat x20) (IntKind.i64.wrap (j14 - 1)) else go1 l13 (IntKind.i64.wrap (i9 + 1)))
def Z8t (b4 : Int) (a3 : Int) (x5 : (Action → Action → Option Int)) : Nat → (List Action) → Int → Option (List Action)
 | 0, _, _ => none
 | m10 + 1, l8, i9 => (bif (decide (i9 < b4)) then Zc4 a3 x5 (Z8t b4 a3 x5 m10) i9 Z0w l8 i9 else some l8)
def Zfu (d1 : (List Action)) (a3 : Int) (b4 : Int) (x5 : (Action → Action → Option Int)) : Option (List Action) :=
 Z8t b4 a3 x5 (((b4 : Int) - (IntKind.i64.wrap (a3 + 1))).toNat + 1) d1 (IntKind.i64.wrap (a3 + 1))
theorem Zut (v2 : Value) (d1 : (List Action)) (a3 : Int) (b4 : Int) (x5 : (Action → Action → Option Int)) (r : (List Action)) (h : Zfu d1 a3 b4 x5 = some r) : Con Tryz.prog 310 [Zj v2, rd (Z0 .i64) a3, rd (Z0 .i64) b4, fn2 Tryz.prog Z8 Z8 (Z0 .i64) x5] (Zh v2 121 Z8 d1) (fun _ : Unit => top) (fun _ => Zh v2 121 Z8 r) := by
 refine Con.intro Tryz.func310 rfl Tryz.ntmps310 rfl fun w H X => ?_
 unfold Zfu at h
 refine SR <| Md rfl <| Ac (Z02 rfl rfl (vt rfl) (vk rfl)) rfl <| As rfl <| Nl <| bk <| LG (d := []) (ν := Nat × (List Action) × Int) (fun (m10, l8, i9) => (True ∧ Z8t b4 a3 x5 m10 l8 i9 = some r, m10, [(0, Zj v2), (1, rd (Z0 .i64) a3), (2, rd (Z0 .i64) b4), (3, fn2 Tryz.prog Z8 Z8 (Z0 .i64) x5), (8, rd (Z0 .i64) i9)], [(0, Zh v2 121 Z8 l8)])) ((((b4 : Int) - (IntKind.i64.wrap (a3 + 1))).toNat + 1), d1, (IntKind.i64.wrap (a3 + 1))) ⟨trivial, h⟩ (FX rfl) ?_
 rintro ⟨m10, l8, i9⟩ ⟨hsf1, h⟩
 dsimp only at h ⊢
 cases m10 with
 | zero => cases h
 | succ m10 =>
  unfold Z8t at h
  refine sq <| SR <| Md rfl <| Md rfl <| Ac (Zl rfl rfl (vt rfl) (vt rfl)) rfl <| Nl <| Cq rfl h (fun h => ?_) (fun h => ?_)
  ·refine sk <| sq <| bk <| SR <| Md rfl <| As rfl <| Nl <| bk <| LG (d := []) (ν := Nat × (List Action) × Int) (fun (m15, l13, j14) => (True ∧ Zc4 a3 x5 (Z8t b4 a3 x5 m10) i9 m15 l13 j14 = some r, m15, [(0, Zj v2), (1, rd (Z0 .i64) a3), (2, rd (Z0 .i64) b4), (3, fn2 Tryz.prog Z8 Z8 (Z0 .i64) x5), (8, rd (Z0 .i64) i9), (9, rd (Z0 .i64) j14)], [(0, Zh v2 121 Z8 l13)])) (Z0w, l8, i9) ⟨trivial, h⟩ (FX rfl) ?_
   rintro ⟨m15, l13, j14⟩ ⟨hsf2, h⟩
   dsimp only at h ⊢
   cases m15 with
   | zero => cases h
   | succ m15 =>
    unfold Zc4 at h
    refine sq <| sq ?_
    obtain ⟨x16, hx16, x17, hx17, x18, hx18, h⟩ := bs3 h
    refine AR Zz (by kernel_rfl) <| Zg rfl <| Zg rfl <| Sd (lo [18, 19] [] rfl fun S hs hr => Z3j rfl rfl (vh hs 18 rfl rfl) (vh hs 19 rfl rfl)) <| Zg rfl <| Sd (lg [3, 21] [] rfl fun hq S hs hr => Zk (A := fn2 Tryz.prog Z8 Z8 (Z0 .i64) x5) rfl rfl (vh hs 3 rfl rfl)) <| Sd (lg [0, 21] [] rfl fun hq S hs hr => Zk (A := Zj v2) rfl rfl (vh hs 0 rfl rfl)) <| Sd (lg [9, 21] [] rfl fun hq S hs hr => Zk (A := rd (Z0 .i64) j14) rfl rfl (vh hs 9 rfl rfl)) <| Sd (lg [23, 24, 21] [0] rfl fun hq S hs hr => Z1r 0 rfl rfl Z08 (Z6 ((hs 23 rfl).trans rfl) hq) ((hr 0 rfl).trans rfl) (Z6 ((hs 24 rfl).trans rfl) hq) (Z16 hx16 hq)) <| Sd (lg [25, 21] [0] rfl fun hq S hs hr => Z1f 0 rfl rfl Z0h (Z6 ((hs 25 rfl).trans rfl) hq) ((hr 0 rfl).trans rfl) (Z0e (Z16 hx16 hq)).2) <| Sd (lg [0, 21] [] rfl fun hq S hs hr => Zk (A := Zj v2) rfl rfl (vh hs 0 rfl rfl)) <| Sd (lg [9, 21] [] rfl fun hq S hs hr => Zk (A := rd (Z0 .i64) j14) rfl rfl (vh hs 9 rfl rfl)) <| Sd (lg [28, 21] [] rfl fun hq S hs hr => Z0i rfl rfl (Z6 ((hs 28 rfl).trans rfl) hq) (vk rfl)) <| Sd (lg [27, 29, 21] [0] rfl fun hq S hs hr => Z1r 0 rfl rfl Z08 (Z6 ((hs 27 rfl).trans rfl) hq) ((hr 0 rfl).trans rfl) (Z6 ((hs 29 rfl).trans rfl) hq) (Z16 hx17 hq)) <| Sd (lg [30, 21] [0] rfl fun hq S hs hr => Z1f 0 rfl rfl Z0h (Z6 ((hs 30 rfl).trans rfl) hq) ((hr 0 rfl).trans rfl) (Z0e (Z16 hx17 hq)).2) <| Sd (lg [22, 26, 31, 21] [] rfl fun hq S hs hr => Z5f (Z16 hx18 hq) rfl rfl (Z6 ((hs 22 rfl).trans rfl) hq) (Z6 ((hs 26 rfl).trans rfl) hq) (Z6 ((hs 31 rfl).trans rfl) hq)) <| Sd (lg [32, 21] [] rfl fun hq S hs hr => Zl rfl rfl (Z6 ((hs 32 rfl).trans rfl) hq) (vk rfl)) <| Sd (lo [33, 21] [] rfl fun S hs hr => Z0o rfl rfl (vh hs 21 rfl rfl) (vh hs 33 rfl rfl)) <| Sn <| Cq rfl h (fun h => ?_) (fun h => ?_)
    ·refine sk <| sq <| bk <| AW.vlen 0 rfl fun hvl0_266 => ?_
     obtain ⟨x19, hx19, x20, hx20, x21, hx21, x22, hx22, h⟩ := bs4 h
     refine AR Zz (by kernel_rfl) <| SMw rfl <| Zg rfl <| SMw rfl <| Zg rfl <| Sd (lo [40] [] rfl fun S hs hr => Z0i rfl rfl (vh hs 40 rfl rfl) (vk rfl)) <| SMw rfl <| Zg rfl <| Sd (lo [43] [] rfl fun S hs hr => Z0i rfl rfl (vh hs 43 rfl rfl) (vk rfl)) <| Sd (lo [42, 44] [] rfl fun S hs hr => Z25 (l := l13) hvl0_266 rfl rfl rfl Z08 (vh hs 42 rfl rfl) (vh hs 44 rfl rfl) hx19) <| Sd (lo [45] [0] rfl fun S hs hr => Z1f 0 rfl rfl Z0h (vh hs 45 rfl rfl) ((hr 0 rfl).trans rfl) (Z0e hx19).2) <| SMw rfl <| Zg rfl <| Sd (lo [47, 48] [] rfl fun S hs hr => Z25 (l := l13) hvl0_266 rfl rfl rfl Z08 (vh hs 47 rfl rfl) (vh hs 48 rfl rfl) hx20) <| Sd (lo [49] [0] rfl fun S hs hr => Z1f 0 rfl rfl Z0h (vh hs 49 rfl rfl) ((hr 0 rfl).trans rfl) (Z0e hx20).2) <| Sd (lo [37, 38] [] rfl fun S hs hr => Z25 (l := l13) hvl0_266 rfl rfl rfl Z08 (vh hs 37 rfl rfl) (vh hs 38 rfl rfl) hx21) <| Sd (Z41 [51, 46] [0] rfl fun S hs hr => Z2d 0 rfl rfl Z0h (vh hs 51 rfl rfl) ((hr 0 rfl).trans rfl) (Z0e hx21).2 (vh hs 46 rfl rfl)) <| Sd (lo [39, 41] [] rfl fun S hs hr => Z25 (l := (List.set l13 j14.toNat x19)) hvl0_266 (by simp) rfl rfl Z08 (vh hs 39 rfl rfl) (vh hs 41 rfl rfl) hx22) <| Sd (Z41 [52, 50] [0] rfl fun S hs hr => Z2d 0 rfl rfl Z0h (vh hs 52 rfl rfl) ((hr 0 rfl).trans rfl) (Z0e hx22).2 (vh hs 50 rfl rfl)) <| Sn <| Rg <| Md rfl <| Ac (Z0i rfl rfl (vt rfl) (vk rfl)) rfl <| As rfl <| Nl ?_
     exact ⟨(_, _, _), Nat.lt_succ_self _, ⟨trivial, h⟩, FX rfl⟩
    ·refine xt <| Rg <| Md rfl <| Ac (Z02 rfl rfl (vt rfl) (vk rfl)) rfl <| As rfl <| Nl ?_
     exact ⟨(_, _, _), Nat.lt_succ_self _, ⟨trivial, h⟩, FX rfl⟩
  ·refine xt ?_
   cases h; exact Z2q (i := 0) Tryz.results310 rfl rfl
def Zcr (n5 : Int) (b4 : Int) (a3 : Int) : Nat → (List Action) → Int → Option (List Action)
 | 0, _, _ => none
 | m11 + 1, l9, i10 => (bif (decide (i10 < n5)) then (lget l9 (IntKind.i64.wrap (b4 + i10))).bind fun x12 => (lget l9 (IntKind.i64.wrap (a3 + i10))).bind fun x13 => (lget l9 (IntKind.i64.wrap (a3 + i10))).bind fun x14 => (lget (List.set l9 (IntKind.i64.wrap (a3 + i10)).toNat x12) (IntKind.i64.wrap (b4 + i10))).bind fun x15 => (Zcr n5 b4 a3 m11) (List.set (List.set l9 (IntKind.i64.wrap (a3 + i10)).toNat x12) (IntKind.i64.wrap (b4 + i10)).toNat x13) (IntKind.i64.wrap (i10 + 1)) else some l9)
def Zat (d1 : (List Action)) (a3 : Int) (b4 : Int) (n5 : Int) (x6 : (Action → Action → Option Int)) : Option (List Action) :=
 Zcr n5 b4 a3 (((n5 : Int) - 0).toNat + 1) d1 0
theorem Zs7 (v2 : Value) (d1 : (List Action)) (a3 : Int) (b4 : Int) (n5 : Int) (x6 : (Action → Action → Option Int)) (r : (List Action)) (h : Zat d1 a3 b4 n5 x6 = some r) : Con Tryz.prog 343 [Zj v2, rd (Z0 .i64) a3, rd (Z0 .i64) b4, rd (Z0 .i64) n5, fn2 Tryz.prog Z8 Z8 (Z0 .i64) x6] (Zh v2 121 Z8 d1) (fun _ : Unit => top) (fun _ => Zh v2 121 Z8 r) := by
 refine Con.intro Tryz.func343 rfl Tryz.ntmps343 rfl fun w H X => ?_
 unfold Zat at h
 refine SR <| Ak rfl <| Nl <| bk <| LG (d := []) (ν := Nat × (List Action) × Int) (fun (m11, l9, i10) => (True ∧ Zcr n5 b4 a3 m11 l9 i10 = some r, m11, [(0, Zj v2), (1, rd (Z0 .i64) a3), (2, rd (Z0 .i64) b4), (3, rd (Z0 .i64) n5), (10, rd (Z0 .i64) i10)], [(0, Zh v2 121 Z8 l9)])) ((((n5 : Int) - 0).toNat + 1), d1, 0) ⟨trivial, h⟩ (FX rfl) ?_
 rintro ⟨m11, l9, i10⟩ ⟨hsf1, h⟩
 dsimp only at h ⊢
 cases m11 with
 | zero => cases h
 | succ m11 =>
  unfold Zcr at h
  refine sq <| SR <| Md rfl <| Md rfl <| Ac (Zl rfl rfl (vt rfl) (vt rfl)) rfl <| Nl <| Cq rfl h (fun h => ?_) (fun h => ?_)
  ·refine sk <| sq <| bk <| AW.vlen 0 rfl fun hvl0_123 => ?_
   obtain ⟨x12, hx12, x13, hx13, x14, hx14, x15, hx15, h⟩ := bs4 h
   refine AR Zz (by kernel_rfl) <| SMw rfl <| Zg rfl <| Zg rfl <| Sd (lo [17, 18] [] rfl fun S hs hr => Z02 rfl rfl (vh hs 17 rfl rfl) (vh hs 18 rfl rfl)) <| SMw rfl <| Zg rfl <| Zg rfl <| Sd (lo [21, 22] [] rfl fun S hs hr => Z02 rfl rfl (vh hs 21 rfl rfl) (vh hs 22 rfl rfl)) <| SMw rfl <| Zg rfl <| Zg rfl <| Sd (lo [25, 26] [] rfl fun S hs hr => Z02 rfl rfl (vh hs 25 rfl rfl) (vh hs 26 rfl rfl)) <| Sd (lo [24, 27] [] rfl fun S hs hr => Z25 (l := l9) hvl0_123 rfl rfl rfl Z08 (vh hs 24 rfl rfl) (vh hs 27 rfl rfl) hx12) <| Sd (lo [28] [0] rfl fun S hs hr => Z1f 0 rfl rfl Z0h (vh hs 28 rfl rfl) ((hr 0 rfl).trans rfl) (Z0e hx12).2) <| SMw rfl <| Zg rfl <| Zg rfl <| Sd (lo [31, 32] [] rfl fun S hs hr => Z02 rfl rfl (vh hs 31 rfl rfl) (vh hs 32 rfl rfl)) <| Sd (lo [30, 33] [] rfl fun S hs hr => Z25 (l := l9) hvl0_123 rfl rfl rfl Z08 (vh hs 30 rfl rfl) (vh hs 33 rfl rfl) hx13) <| Sd (lo [34] [0] rfl fun S hs hr => Z1f 0 rfl rfl Z0h (vh hs 34 rfl rfl) ((hr 0 rfl).trans rfl) (Z0e hx13).2) <| Sd (lo [16, 19] [] rfl fun S hs hr => Z25 (l := l9) hvl0_123 rfl rfl rfl Z08 (vh hs 16 rfl rfl) (vh hs 19 rfl rfl) hx14) <| Sd (Z41 [36, 29] [0] rfl fun S hs hr => Z2d 0 rfl rfl Z0h (vh hs 36 rfl rfl) ((hr 0 rfl).trans rfl) (Z0e hx14).2 (vh hs 29 rfl rfl)) <| Sd (lo [20, 23] [] rfl fun S hs hr => Z25 (l := (List.set l9 (IntKind.i64.wrap (a3 + i10)).toNat x12)) hvl0_123 (by simp) rfl rfl Z08 (vh hs 20 rfl rfl) (vh hs 23 rfl rfl) hx15) <| Sd (Z41 [37, 35] [0] rfl fun S hs hr => Z2d 0 rfl rfl Z0h (vh hs 37 rfl rfl) ((hr 0 rfl).trans rfl) (Z0e hx15).2 (vh hs 35 rfl rfl)) <| Sn <| Rg <| Md rfl <| Ac (Z02 rfl rfl (vt rfl) (vk rfl)) rfl <| As rfl <| Nl ?_
   exact ⟨(_, _, _), Nat.lt_succ_self _, ⟨trivial, h⟩, FX rfl⟩
  ·refine xt ?_
   cases h; exact Z2q (i := 0) Tryz.results343 rfl rfl
def Zbm (m4 : Int) (x6 : (Action → Action → Option Int)) : Nat → (List Action) → Int → Int → Option (List Action)
 | 0, _, _, _ => none
 | m13 + 1, l10, i11, j12 => (bif (decide (i11 ≠ j12)) then (bif (decide (i11 > j12)) then (Zat l10 (IntKind.i64.wrap (m4 - i11)) m4 j12 x6).bind fun l14 => (Zbm m4 x6 m13) l14 (IntKind.i64.wrap (i11 - j12)) j12 else (Zat l10 (IntKind.i64.wrap (m4 - i11)) (IntKind.i64.wrap ((IntKind.i64.wrap (m4 + j12)) - i11)) i11 x6).bind fun l15 => (Zbm m4 x6 m13) l15 i11 (IntKind.i64.wrap (j12 - i11))) else (Zat l10 (IntKind.i64.wrap (m4 - i11)) m4 i11 x6).bind fun l16 => some l16)
def Zfm (d1 : (List Action)) (a3 : Int) (m4 : Int) (b5 : Int) (x6 : (Action → Action → Option Int)) : Option (List Action) :=
 Zbm m4 x6 Z0w d1 (IntKind.i64.wrap (m4 - a3)) (IntKind.i64.wrap (b5 - m4))
theorem Y9j (v2 : Value) (d1 : (List Action)) (a3 : Int) (m4 : Int) (b5 : Int) (x6 : (Action → Action → Option Int)) (r : (List Action)) (h : Zfm d1 a3 m4 b5 x6 = some r) : Con Tryz.prog 335 [Zj v2, rd (Z0 .i64) a3, rd (Z0 .i64) m4, rd (Z0 .i64) b5, fn2 Tryz.prog Z8 Z8 (Z0 .i64) x6] (Zh v2 121 Z8 d1) (fun _ : Unit => top) (fun _ => Zh v2 121 Z8 r) := by
 refine Con.intro Tryz.func335 rfl Tryz.ntmps335 rfl fun w H X => ?_
 unfold Zfm at h
 refine SR <| Md rfl <| Md rfl <| Ac (Z0i rfl rfl (vt rfl) (vt rfl)) rfl <| As rfl <| Nl <| SR <| Md rfl <| Md rfl <| Ac (Z0i rfl rfl (vt rfl) (vt rfl)) rfl <| As rfl <| Nl <| sq <| bk <| LG (d := []) (ν := Nat × (List Action) × Int × Int) (fun (m13, l10, i11, j12) => (True ∧ Zbm m4 x6 m13 l10 i11 j12 = some r, m13, [(0, Zj v2), (2, rd (Z0 .i64) m4), (4, fn2 Tryz.prog Z8 Z8 (Z0 .i64) x6), (10, rd (Z0 .i64) i11), (11, rd (Z0 .i64) j12)], [(0, Zh v2 121 Z8 l10)])) (Z0w, d1, (IntKind.i64.wrap (m4 - a3)), (IntKind.i64.wrap (b5 - m4))) ⟨trivial, h⟩ (FX rfl) ?_
 rintro ⟨m13, l10, i11, j12⟩ ⟨hsf1, h⟩
 dsimp only at h ⊢
 cases m13 with
 | zero => cases h
 | succ m13 =>
  unfold Zbm at h
  refine sq <| SR <| Md rfl <| Md rfl <| Ac (Z2o rfl rfl (vt rfl) (vt rfl)) rfl <| Nl <| Cq rfl h (fun h => ?_) (fun h => ?_)
  ·refine sk <| bk <| SR <| Md rfl <| Md rfl <| Ac (Z3j rfl rfl (vt rfl) (vt rfl)) rfl <| Nl <| Cq rfl h (fun h => ?_) (fun h => ?_)
   ·refine sq ?_
    obtain ⟨l14, hl14, h⟩ := Za h
    refine Rg <| Mw rfl <| Md rfl <| Md rfl <| Ac (Z0i rfl rfl (vt rfl) (vt rfl)) rfl <| Md rfl <| Md rfl <| Ac (Zk (A := fn2 Tryz.prog Z8 Z8 (Z0 .i64) x6) rfl rfl (vt rfl)) rfl <| Cv rfl (Z1o 0 (xs := [.tmp 24, .tmp 27, .tmp 28, .tmp 29, .tmp 30]) (Zs7 _ _ _ _ _ _ _ hl14) Zqs rfl rfl ⟨vt rfl, vt rfl, vt rfl, vt rfl, vt rfl, trivial⟩ rfl) fun _u => Nl <| Rg <| Md rfl <| Md rfl <| Ac (Z0i rfl rfl (vt rfl) (vt rfl)) rfl <| As rfl <| Nl ?_
    exact ⟨(_, _, _, _), Nat.lt_succ_self _, ⟨trivial, h⟩, FX rfl⟩
   ·refine sq ?_
    obtain ⟨l15, hl15, h⟩ := Za h
    refine Rg <| Mw rfl <| Md rfl <| Md rfl <| Ac (Z0i rfl rfl (vt rfl) (vt rfl)) rfl <| Md rfl <| Md rfl <| Ac (Z02 rfl rfl (vt rfl) (vt rfl)) rfl <| Md rfl <| Ac (Z0i rfl rfl (vt rfl) (vt rfl)) rfl <| Md rfl <| Ac (Zk (A := fn2 Tryz.prog Z8 Z8 (Z0 .i64) x6) rfl rfl (vt rfl)) rfl <| Cv rfl (Z1o 0 (xs := [.tmp 35, .tmp 38, .tmp 43, .tmp 44, .tmp 45]) (Zs7 _ _ _ _ _ _ _ hl15) Zqs rfl rfl ⟨vt rfl, vt rfl, vt rfl, vt rfl, vt rfl, trivial⟩ rfl) fun _u => Nl <| Rg <| Md rfl <| Md rfl <| Ac (Z0i rfl rfl (vt rfl) (vt rfl)) rfl <| As rfl <| Nl ?_
    exact ⟨(_, _, _, _), Nat.lt_succ_self _, ⟨trivial, h⟩, FX rfl⟩
  ·refine xt ?_
   obtain ⟨l16, hl16, h⟩ := Za h
   refine Rg <| Mw rfl <| Md rfl <| Md rfl <| Ac (Z0i rfl rfl (vt rfl) (vt rfl)) rfl <| Md rfl <| Md rfl <| Ac (Zk (A := fn2 Tryz.prog Z8 Z8 (Z0 .i64) x6) rfl rfl (vt rfl)) rfl <| Cv rfl (Z1o 0 (xs := [.tmp 50, .tmp 53, .tmp 54, .tmp 55, .tmp 56]) (Zs7 _ _ _ _ _ _ _ hl16) Zqs rfl rfl ⟨vt rfl, vt rfl, vt rfl, vt rfl, vt rfl, trivial⟩ rfl) fun _u => Nl ?_
   cases h; exact Z2q (i := 0) Tryz.results335 rfl rfl
def Z7y (i9 : Int) : Nat → (List Action) → Int → Option (List Action)
 | 0, _, _ => none
 | m20 + 1, l18, k19 => (bif (decide (k19 < (IntKind.i64.wrap (i9 - 1)))) then (lget l18 (IntKind.i64.wrap (k19 + 1))).bind fun x21 => (lget l18 k19).bind fun x22 => (lget l18 k19).bind fun x23 => (lget (List.set l18 k19.toNat x21) (IntKind.i64.wrap (k19 + 1))).bind fun x24 => (Z7y i9 m20) (List.set (List.set l18 k19.toNat x21) (IntKind.i64.wrap (k19 + 1)).toNat x22) (IntKind.i64.wrap (k19 + 1)) else some l18)
def Z84 (d1 : (List Action)) (a3 : Int) (x6 : (Action → Action → Option Int)) : Nat → Int → Int → Option (List Action)
 | 0, _, _ => none
 | m11 + 1, i9, j10 => (bif (decide (i9 < j10)) then (Z36 (BitVec.ofInt 64 (IntKind.i64.wrap (i9 + j10))) ((1 : BitVec 64).toNat : Int)).bind fun q12 => (lget d1 (IntKind.i64.wrap (q12.toNat : Int))).bind fun x13 => (lget d1 a3).bind fun x14 => (x6 x13 x14).bind fun x15 => (bif (decide (x15 < 0)) then (Z84 d1 a3 x6 m11) (IntKind.i64.wrap ((IntKind.i64.wrap (q12.toNat : Int)) + 1)) j10 else (Z84 d1 a3 x6 m11) i9 (IntKind.i64.wrap (q12.toNat : Int))) else Z7y i9 ((((IntKind.i64.wrap (i9 - 1)) : Int) - a3).toNat + 1) d1 a3)
def Z7p (i27 : Int) : Nat → (List Action) → Int → Option (List Action)
 | 0, _, _ => none
 | m38 + 1, l36, k37 => (bif (decide (k37 > i27)) then (lget l36 (IntKind.i64.wrap (k37 - 1))).bind fun x39 => (lget l36 k37).bind fun x40 => (lget l36 k37).bind fun x41 => (lget (List.set l36 k37.toNat x39) (IntKind.i64.wrap (k37 - 1))).bind fun x42 => (Z7p i27 m38) (List.set (List.set l36 k37.toNat x39) (IntKind.i64.wrap (k37 - 1)).toNat x40) (IntKind.i64.wrap (k37 - 1)) else some l36)
def Z8s (d1 : (List Action)) (m4 : Int) (x6 : (Action → Action → Option Int)) : Nat → Int → Int → Option (List Action)
 | 0, _, _ => none
 | m29 + 1, i27, j28 => (bif (decide (i27 < j28)) then (Z36 (BitVec.ofInt 64 (IntKind.i64.wrap (i27 + j28))) ((1 : BitVec 64).toNat : Int)).bind fun q30 => (lget d1 m4).bind fun x31 => (lget d1 (IntKind.i64.wrap (q30.toNat : Int))).bind fun x32 => (x6 x31 x32).bind fun x33 => (bif (!(decide (x33 < 0))) then (Z8s d1 m4 x6 m29) (IntKind.i64.wrap ((IntKind.i64.wrap (q30.toNat : Int)) + 1)) j28 else (Z8s d1 m4 x6 m29) i27 (IntKind.i64.wrap (q30.toNat : Int))) else Z7p i27 (((m4 : Int) - i27).toNat + 1) d1 m4)
def Zer (q43 : (BitVec 64)) (m4 : Int) (s48 : Int) (b5 : Int) (R_slices_symMergeCmpFunc_Action : ((List Action) → Int → Int → Int → (Action → Action → Option Int) → Option (List Action))) (x6 : (Action → Action → Option Int)) (l56 : (List Action)) : Option (List Action) :=
 (bif ((decide ((IntKind.i64.wrap (q43.toNat : Int)) < (IntKind.i64.wrap ((IntKind.i64.wrap ((IntKind.i64.wrap (q43.toNat : Int)) + m4)) - s48)))) && (decide ((IntKind.i64.wrap ((IntKind.i64.wrap ((IntKind.i64.wrap (q43.toNat : Int)) + m4)) - s48)) < b5))) then (R_slices_symMergeCmpFunc_Action l56 (IntKind.i64.wrap (q43.toNat : Int)) (IntKind.i64.wrap ((IntKind.i64.wrap ((IntKind.i64.wrap (q43.toNat : Int)) + m4)) - s48)) b5 x6).bind fun l57 => some l57 else some l56)
def Z9u (a3 : Int) (s48 : Int) (q43 : (BitVec 64)) (R_slices_symMergeCmpFunc_Action : ((List Action) → Int → Int → Int → (Action → Action → Option Int) → Option (List Action))) (x6 : (Action → Action → Option Int)) (m4 : Int) (b5 : Int) (l55 : (List Action)) : Option (List Action) :=
 (bif ((decide (a3 < s48)) && (decide (s48 < (IntKind.i64.wrap (q43.toNat : Int))))) then (R_slices_symMergeCmpFunc_Action l55 a3 s48 (IntKind.i64.wrap (q43.toNat : Int)) x6).bind fun l58 => Zer q43 m4 s48 b5 R_slices_symMergeCmpFunc_Action x6 l58 else Zer q43 m4 s48 b5 R_slices_symMergeCmpFunc_Action x6 l55)
def Z9w (d1 : (List Action)) (q43 : (BitVec 64)) (m4 : Int) (x6 : (Action → Action → Option Int)) (a3 : Int) (R_slices_symMergeCmpFunc_Action : ((List Action) → Int → Int → Int → (Action → Action → Option Int) → Option (List Action))) (b5 : Int) : Nat → Int → Int → Option (List Action)
 | 0, _, _ => none
 | m50 + 1, s48, x49 => (bif (decide (s48 < x49)) then (Z36 (BitVec.ofInt 64 (IntKind.i64.wrap (s48 + x49))) ((1 : BitVec 64).toNat : Int)).bind fun q51 => (lget d1 (IntKind.i64.wrap ((IntKind.i64.wrap ((IntKind.i64.wrap ((IntKind.i64.wrap (q43.toNat : Int)) + m4)) - 1)) - (IntKind.i64.wrap (q51.toNat : Int))))).bind fun x52 => (lget d1 (IntKind.i64.wrap (q51.toNat : Int))).bind fun x53 => (x6 x52 x53).bind fun x54 => (bif (!(decide (x54 < 0))) then (Z9w d1 q43 m4 x6 a3 R_slices_symMergeCmpFunc_Action b5 m50) (IntKind.i64.wrap ((IntKind.i64.wrap (q51.toNat : Int)) + 1)) x49 else (Z9w d1 q43 m4 x6 a3 R_slices_symMergeCmpFunc_Action b5 m50) s48 (IntKind.i64.wrap (q51.toNat : Int))) else (bif ((decide (s48 < m4)) && (decide (m4 < (IntKind.i64.wrap ((IntKind.i64.wrap ((IntKind.i64.wrap (q43.toNat : Int)) + m4)) - s48))))) then (Zfm d1 s48 m4 (IntKind.i64.wrap ((IntKind.i64.wrap ((IntKind.i64.wrap (q43.toNat : Int)) + m4)) - s48)) x6).bind fun l59 => Z9u a3 s48 q43 R_slices_symMergeCmpFunc_Action x6 m4 b5 l59 else Z9u a3 s48 q43 R_slices_symMergeCmpFunc_Action x6 m4 b5 d1))
def Zg3 (d1 : (List Action)) (q43 : (BitVec 64)) (m4 : Int) (x6 : (Action → Action → Option Int)) (a3 : Int) (R_slices_symMergeCmpFunc_Action : ((List Action) → Int → Int → Int → (Action → Action → Option Int) → Option (List Action))) (b5 : Int) (s44 : Int) (x45 : Int) : Option (List Action) :=
 Z9w d1 q43 m4 x6 a3 R_slices_symMergeCmpFunc_Action b5 (((x45 : Int) - s44).toNat + 1) s44 x45
def Zhr (R_slices_symMergeCmpFunc_Action : ((List Action) → Int → Int → Int → (Action → Action → Option Int) → Option (List Action))) (d1 : (List Action)) (a3 : Int) (m4 : Int) (b5 : Int) (x6 : (Action → Action → Option Int)) : Option (List Action) :=
 (bif (decide ((IntKind.i64.wrap (m4 - a3)) = 1)) then Z84 d1 a3 x6 (((b5 : Int) - m4).toNat + 1) m4 b5 else (bif (decide ((IntKind.i64.wrap (b5 - m4)) = 1)) then Z8s d1 m4 x6 (((m4 : Int) - a3).toNat + 1) a3 m4 else (Z36 (BitVec.ofInt 64 (IntKind.i64.wrap (a3 + b5))) ((1 : BitVec 64).toNat : Int)).bind fun q43 => (bif (decide (m4 > (IntKind.i64.wrap (q43.toNat : Int)))) then Zg3 d1 q43 m4 x6 a3 R_slices_symMergeCmpFunc_Action b5 (IntKind.i64.wrap ((IntKind.i64.wrap ((IntKind.i64.wrap (q43.toNat : Int)) + m4)) - b5)) (IntKind.i64.wrap (q43.toNat : Int)) else Zg3 d1 q43 m4 x6 a3 R_slices_symMergeCmpFunc_Action b5 a3 m4)))
theorem Ya8 (R_slices_symMergeCmpFunc_Action : ((List Action) → Int → Int → Int → (Action → Action → Option Int) → Option (List Action))) (hR_slices_symMergeCmpFunc_Action : ∀ (v2 : Value) (d1 : (List Action)) (a3 : Int) (m4 : Int) (b5 : Int) (x6 : (Action → Action → Option Int)) (r : (List Action)), R_slices_symMergeCmpFunc_Action d1 a3 m4 b5 x6 = some r → Con Tryz.prog 311 [Zj v2, rd (Z0 .i64) a3, rd (Z0 .i64) m4, rd (Z0 .i64) b5, fn2 Tryz.prog Z8 Z8 (Z0 .i64) x6] (Zh v2 121 Z8 d1) (fun _ : Unit => top) (fun _ => Zh v2 121 Z8 r)) (v2 : Value) (d1 : (List Action)) (a3 : Int) (m4 : Int) (b5 : Int) (x6 : (Action → Action → Option Int)) (r : (List Action)) (h : Zhr R_slices_symMergeCmpFunc_Action d1 a3 m4 b5 x6 = some r) : Con Tryz.prog 311 [Zj v2, rd (Z0 .i64) a3, rd (Z0 .i64) m4, rd (Z0 .i64) b5, fn2 Tryz.prog Z8 Z8 (Z0 .i64) x6] (Zh v2 121 Z8 d1) (fun _ : Unit => top) (fun _ => Zh v2 121 Z8 r) := by
 refine Con.intro Tryz.func311 rfl Tryz.ntmps311 rfl fun w H X => ?_
 unfold Zhr at h
 refine sq <| SR <| Md rfl <| Md rfl <| Ac (Z0i rfl rfl (vt rfl) (vt rfl)) rfl <| Ac (Z0f rfl rfl (vt rfl) (vk rfl)) rfl <| Nl <| Cq rfl h (fun h => ?_) (fun h => ?_)
 ·refine SR <| Md rfl <| As rfl <| Nl <| SR <| Md rfl <| As rfl <| Nl <| sq <| bk <| LG (d := []) (ν := Nat × Int × Int) (fun (m11, i9, j10) => (True ∧ Z84 d1 a3 x6 m11 i9 j10 = some r, m11, [(0, Zj v2), (1, rd (Z0 .i64) a3), (4, fn2 Tryz.prog Z8 Z8 (Z0 .i64) x6), (10, rd (Z0 .i64) i9), (11, rd (Z0 .i64) j10)], [(0, Zh v2 121 Z8 d1)])) ((((b5 : Int) - m4).toNat + 1), m4, b5) ⟨trivial, h⟩ (FX rfl) ?_
  rintro ⟨m11, i9, j10⟩ ⟨hsf1, h⟩
  dsimp only at h ⊢
  cases m11 with
  | zero => cases h
  | succ m11 =>
   unfold Z84 at h
   refine sq <| SR <| Md rfl <| Md rfl <| Ac (Zl rfl rfl (vt rfl) (vt rfl)) rfl <| Nl <| Cq rfl h (fun h => ?_) (fun h => ?_)
   ·refine sk <| bk <| sq ?_
    obtain ⟨q12, hq12, h⟩ := Za h
    refine Rg <| Md rfl <| Md rfl <| Ac (Z02 rfl rfl (vt rfl) (vt rfl)) rfl <| Ac (Z73 rfl rfl us3 Z77 (vt rfl)) rfl <| Ac (Z59 rfl rfl (vt rfl) (Z4i (vku (1 : BitVec 64) rfl)) hq12) rfl <| Ac (Z8u rfl rfl Za1 un3 (vt rfl)) rfl <| As rfl <| Nl <| sq ?_
    obtain ⟨x13, hx13, x14, hx14, x15, hx15, h⟩ := bs3 h
    refine AR Zz (by kernel_rfl) <| Sd (lo [4] [] rfl fun S hs hr => Zk (A := fn2 Tryz.prog Z8 Z8 (Z0 .i64) x6) rfl rfl (vh hs 4 rfl rfl)) <| SMw rfl <| Zg rfl <| Sd (lo [41, 42] [0] rfl fun S hs hr => Z1r 0 rfl rfl Z08 (vh hs 41 rfl rfl) ((hr 0 rfl).trans rfl) (vh hs 42 rfl rfl) hx13) <| Sd (lo [43] [0] rfl fun S hs hr => Z1f 0 rfl rfl Z0h (vh hs 43 rfl rfl) ((hr 0 rfl).trans rfl) (Z0e hx13).2) <| SMw rfl <| Zg rfl <| Sd (lo [45, 46] [0] rfl fun S hs hr => Z1r 0 rfl rfl Z08 (vh hs 45 rfl rfl) ((hr 0 rfl).trans rfl) (vh hs 46 rfl rfl) hx14) <| Sd (lo [47] [0] rfl fun S hs hr => Z1f 0 rfl rfl Z0h (vh hs 47 rfl rfl) ((hr 0 rfl).trans rfl) (Z0e hx14).2) <| Sd (lo [40, 44, 48] [] rfl fun S hs hr => Z5f hx15 rfl rfl (vh hs 40 rfl rfl) (vh hs 44 rfl rfl) (vh hs 48 rfl rfl)) <| Sd (lo [49] [] rfl fun S hs hr => Zl rfl rfl (vh hs 49 rfl rfl) (vk rfl)) <| Sn <| Cq rfl h (fun h => ?_) (fun h => ?_)
    ·refine Rg <| Md rfl <| Ac (Z02 rfl rfl (vt rfl) (vk rfl)) rfl <| As rfl <| Nl ?_
     exact ⟨(_, _, _), Nat.lt_succ_self _, ⟨trivial, h⟩, FX rfl⟩
    ·refine Rg <| Md rfl <| As rfl <| Nl ?_
     exact ⟨(_, _, _), Nat.lt_succ_self _, ⟨trivial, h⟩, FX rfl⟩
   ·refine xt <| sq <| SR <| Md rfl <| As rfl <| Nl <| bk <| LG (d := []) (ν := Nat × (List Action) × Int) (fun (m20, l18, k19) => (True ∧ Z7y i9 m20 l18 k19 = some r, m20, [(0, Zj v2), (10, rd (Z0 .i64) i9), (13, rd (Z0 .i64) k19)], [(0, Zh v2 121 Z8 l18)])) (((((IntKind.i64.wrap (i9 - 1)) : Int) - a3).toNat + 1), d1, a3) ⟨trivial, h⟩ (FX rfl) ?_
    rintro ⟨m20, l18, k19⟩ ⟨hsf2, h⟩
    dsimp only at h ⊢
    cases m20 with
    | zero => cases h
    | succ m20 =>
     unfold Z7y at h
     refine sq <| SR <| Md rfl <| Md rfl <| Ac (Z0i rfl rfl (vt rfl) (vk rfl)) rfl <| Ac (Zl rfl rfl (vt rfl) (vt rfl)) rfl <| Nl <| Cq rfl h (fun h => ?_) (fun h => ?_)
     ·refine sk <| sq <| bk <| AW.vlen 0 rfl fun hvl0_205 => ?_
      obtain ⟨x21, hx21, x22, hx22, x23, hx23, x24, hx24, h⟩ := bs4 h
      refine AR Zz (by kernel_rfl) <| SMw rfl <| Zg rfl <| SMw rfl <| Zg rfl <| Sd (lo [64] [] rfl fun S hs hr => Z02 rfl rfl (vh hs 64 rfl rfl) (vk rfl)) <| SMw rfl <| Zg rfl <| Sd (lo [67] [] rfl fun S hs hr => Z02 rfl rfl (vh hs 67 rfl rfl) (vk rfl)) <| Sd (lo [66, 68] [] rfl fun S hs hr => Z25 (l := l18) hvl0_205 rfl rfl rfl Z08 (vh hs 66 rfl rfl) (vh hs 68 rfl rfl) hx21) <| Sd (lo [69] [0] rfl fun S hs hr => Z1f 0 rfl rfl Z0h (vh hs 69 rfl rfl) ((hr 0 rfl).trans rfl) (Z0e hx21).2) <| SMw rfl <| Zg rfl <| Sd (lo [71, 72] [] rfl fun S hs hr => Z25 (l := l18) hvl0_205 rfl rfl rfl Z08 (vh hs 71 rfl rfl) (vh hs 72 rfl rfl) hx22) <| Sd (lo [73] [0] rfl fun S hs hr => Z1f 0 rfl rfl Z0h (vh hs 73 rfl rfl) ((hr 0 rfl).trans rfl) (Z0e hx22).2) <| Sd (lo [61, 62] [] rfl fun S hs hr => Z25 (l := l18) hvl0_205 rfl rfl rfl Z08 (vh hs 61 rfl rfl) (vh hs 62 rfl rfl) hx23) <| Sd (Z41 [75, 70] [0] rfl fun S hs hr => Z2d 0 rfl rfl Z0h (vh hs 75 rfl rfl) ((hr 0 rfl).trans rfl) (Z0e hx23).2 (vh hs 70 rfl rfl)) <| Sd (lo [63, 65] [] rfl fun S hs hr => Z25 (l := (List.set l18 k19.toNat x21)) hvl0_205 (by simp) rfl rfl Z08 (vh hs 63 rfl rfl) (vh hs 65 rfl rfl) hx24) <| Sd (Z41 [76, 74] [0] rfl fun S hs hr => Z2d 0 rfl rfl Z0h (vh hs 76 rfl rfl) ((hr 0 rfl).trans rfl) (Z0e hx24).2 (vh hs 74 rfl rfl)) <| Sn <| Rg <| Md rfl <| Ac (Z02 rfl rfl (vt rfl) (vk rfl)) rfl <| As rfl <| Nl ?_
      exact ⟨(_, _, _), Nat.lt_succ_self _, ⟨trivial, h⟩, FX rfl⟩
     ·refine xt <| rt ?_
      cases h; exact Z2q (i := 0) Tryz.results311 rfl rfl
 ·refine sk <| sq <| SR <| Md rfl <| Md rfl <| Ac (Z0i rfl rfl (vt rfl) (vt rfl)) rfl <| Ac (Z0f rfl rfl (vt rfl) (vk rfl)) rfl <| Nl <| Cq rfl h (fun h => ?_) (fun h => ?_)
  ·refine SR <| Md rfl <| As rfl <| Nl <| SR <| Md rfl <| As rfl <| Nl <| sq <| bk <| LG (d := []) (ν := Nat × Int × Int) (fun (m29, i27, j28) => (True ∧ Z8s d1 m4 x6 m29 i27 j28 = some r, m29, [(0, Zj v2), (2, rd (Z0 .i64) m4), (4, fn2 Tryz.prog Z8 Z8 (Z0 .i64) x6), (14, rd (Z0 .i64) i27), (15, rd (Z0 .i64) j28)], [(0, Zh v2 121 Z8 d1)])) ((((m4 : Int) - a3).toNat + 1), a3, m4) ⟨trivial, h⟩ (FX rfl) ?_
   rintro ⟨m29, i27, j28⟩ ⟨hsf3, h⟩
   dsimp only at h ⊢
   cases m29 with
   | zero => cases h
   | succ m29 =>
    unfold Z8s at h
    refine sq <| SR <| Md rfl <| Md rfl <| Ac (Zl rfl rfl (vt rfl) (vt rfl)) rfl <| Nl <| Cq rfl h (fun h => ?_) (fun h => ?_)
    ·refine sk <| bk <| sq ?_
     obtain ⟨q30, hq30, h⟩ := Za h
     refine Rg <| Md rfl <| Md rfl <| Ac (Z02 rfl rfl (vt rfl) (vt rfl)) rfl <| Ac (Z73 rfl rfl us3 Z77 (vt rfl)) rfl <| Ac (Z59 rfl rfl (vt rfl) (Z4i (vku (1 : BitVec 64) rfl)) hq30) rfl <| Ac (Z8u rfl rfl Za1 un3 (vt rfl)) rfl <| As rfl <| Nl <| sq ?_
     obtain ⟨x31, hx31, x32, hx32, x33, hx33, h⟩ := bs3 h
     refine AR Zz (by kernel_rfl) <| Sd (lo [4] [] rfl fun S hs hr => Zk (A := fn2 Tryz.prog Z8 Z8 (Z0 .i64) x6) rfl rfl (vh hs 4 rfl rfl)) <| SMw rfl <| Zg rfl <| Sd (lo [93, 94] [0] rfl fun S hs hr => Z1r 0 rfl rfl Z08 (vh hs 93 rfl rfl) ((hr 0 rfl).trans rfl) (vh hs 94 rfl rfl) hx31) <| Sd (lo [95] [0] rfl fun S hs hr => Z1f 0 rfl rfl Z0h (vh hs 95 rfl rfl) ((hr 0 rfl).trans rfl) (Z0e hx31).2) <| SMw rfl <| Zg rfl <| Sd (lo [97, 98] [0] rfl fun S hs hr => Z1r 0 rfl rfl Z08 (vh hs 97 rfl rfl) ((hr 0 rfl).trans rfl) (vh hs 98 rfl rfl) hx32) <| Sd (lo [99] [0] rfl fun S hs hr => Z1f 0 rfl rfl Z0h (vh hs 99 rfl rfl) ((hr 0 rfl).trans rfl) (Z0e hx32).2) <| Sd (lo [92, 96, 100] [] rfl fun S hs hr => Z5f hx33 rfl rfl (vh hs 92 rfl rfl) (vh hs 96 rfl rfl) (vh hs 100 rfl rfl)) <| Sd (lo [101] [] rfl fun S hs hr => Zl rfl rfl (vh hs 101 rfl rfl) (vk rfl)) <| Sd (lo [102] [] rfl fun S hs hr => Z0s rfl rfl (vh hs 102 rfl rfl)) <| Sn <| Cq rfl h (fun h => ?_) (fun h => ?_)
     ·refine Rg <| Md rfl <| Ac (Z02 rfl rfl (vt rfl) (vk rfl)) rfl <| As rfl <| Nl ?_
      exact ⟨(_, _, _), Nat.lt_succ_self _, ⟨trivial, h⟩, FX rfl⟩
     ·refine Rg <| Md rfl <| As rfl <| Nl ?_
      exact ⟨(_, _, _), Nat.lt_succ_self _, ⟨trivial, h⟩, FX rfl⟩
    ·refine xt <| sq <| SR <| Md rfl <| As rfl <| Nl <| bk <| LG (d := []) (ν := Nat × (List Action) × Int) (fun (m38, l36, k37) => (True ∧ Z7p i27 m38 l36 k37 = some r, m38, [(0, Zj v2), (14, rd (Z0 .i64) i27), (17, rd (Z0 .i64) k37)], [(0, Zh v2 121 Z8 l36)])) ((((m4 : Int) - i27).toNat + 1), d1, m4) ⟨trivial, h⟩ (FX rfl) ?_
     rintro ⟨m38, l36, k37⟩ ⟨hsf4, h⟩
     dsimp only at h ⊢
     cases m38 with
     | zero => cases h
     | succ m38 =>
      unfold Z7p at h
      refine sq <| SR <| Md rfl <| Md rfl <| Ac (Z3j rfl rfl (vt rfl) (vt rfl)) rfl <| Nl <| Cq rfl h (fun h => ?_) (fun h => ?_)
      ·refine sk <| sq <| bk <| AW.vlen 0 rfl fun hvl0_446 => ?_
       obtain ⟨x39, hx39, x40, hx40, x41, hx41, x42, hx42, h⟩ := bs4 h
       refine AR Zz (by kernel_rfl) <| SMw rfl <| Zg rfl <| SMw rfl <| Zg rfl <| Sd (lo [116] [] rfl fun S hs hr => Z0i rfl rfl (vh hs 116 rfl rfl) (vk rfl)) <| SMw rfl <| Zg rfl <| Sd (lo [119] [] rfl fun S hs hr => Z0i rfl rfl (vh hs 119 rfl rfl) (vk rfl)) <| Sd (lo [118, 120] [] rfl fun S hs hr => Z25 (l := l36) hvl0_446 rfl rfl rfl Z08 (vh hs 118 rfl rfl) (vh hs 120 rfl rfl) hx39) <| Sd (lo [121] [0] rfl fun S hs hr => Z1f 0 rfl rfl Z0h (vh hs 121 rfl rfl) ((hr 0 rfl).trans rfl) (Z0e hx39).2) <| SMw rfl <| Zg rfl <| Sd (lo [123, 124] [] rfl fun S hs hr => Z25 (l := l36) hvl0_446 rfl rfl rfl Z08 (vh hs 123 rfl rfl) (vh hs 124 rfl rfl) hx40) <| Sd (lo [125] [0] rfl fun S hs hr => Z1f 0 rfl rfl Z0h (vh hs 125 rfl rfl) ((hr 0 rfl).trans rfl) (Z0e hx40).2) <| Sd (lo [113, 114] [] rfl fun S hs hr => Z25 (l := l36) hvl0_446 rfl rfl rfl Z08 (vh hs 113 rfl rfl) (vh hs 114 rfl rfl) hx41) <| Sd (Z41 [127, 122] [0] rfl fun S hs hr => Z2d 0 rfl rfl Z0h (vh hs 127 rfl rfl) ((hr 0 rfl).trans rfl) (Z0e hx41).2 (vh hs 122 rfl rfl)) <| Sd (lo [115, 117] [] rfl fun S hs hr => Z25 (l := (List.set l36 k37.toNat x39)) hvl0_446 (by simp) rfl rfl Z08 (vh hs 115 rfl rfl) (vh hs 117 rfl rfl) hx42) <| Sd (Z41 [128, 126] [0] rfl fun S hs hr => Z2d 0 rfl rfl Z0h (vh hs 128 rfl rfl) ((hr 0 rfl).trans rfl) (Z0e hx42).2 (vh hs 126 rfl rfl)) <| Sn <| Rg <| Md rfl <| Ac (Z0i rfl rfl (vt rfl) (vk rfl)) rfl <| As rfl <| Nl ?_
       exact ⟨(_, _, _), Nat.lt_succ_self _, ⟨trivial, h⟩, FX rfl⟩
      ·refine xt <| rt ?_
       cases h; exact Z2q (i := 0) Tryz.results311 rfl rfl
  ·refine sk <| sq ?_
   obtain ⟨q43, hq43, h⟩ := Za h
   refine Rg <| Md rfl <| Md rfl <| Ac (Z02 rfl rfl (vt rfl) (vt rfl)) rfl <| Ac (Z73 rfl rfl us3 Z77 (vt rfl)) rfl <| Ac (Z59 rfl rfl (vt rfl) (Z4i (vku (1 : BitVec 64) rfl)) hq43) rfl <| Ac (Z8u rfl rfl Za1 un3 (vt rfl)) rfl <| As rfl <| Nl <| SR <| Md rfl <| Md rfl <| Ac (Z02 rfl rfl (vt rfl) (vt rfl)) rfl <| As rfl <| Nl <| SR <| Ak rfl <| Ak rfl <| Nl ?_
   refine JN (d := []) (ν := Int × Int) (fun (s44, x45) => (Zg3 d1 q43 m4 x6 a3 R_slices_symMergeCmpFunc_Action b5 s44 x45 = some r, [(0, Zj v2), (1, rd (Z0 .i64) a3), (2, rd (Z0 .i64) m4), (3, rd (Z0 .i64) b5), (4, fn2 Tryz.prog Z8 Z8 (Z0 .i64) x6), (18, rd (Z0 .i64) (IntKind.i64.wrap (q43.toNat : Int))), (19, rd (Z0 .i64) (IntKind.i64.wrap ((IntKind.i64.wrap (q43.toNat : Int)) + m4))), (20, rd (Z0 .i64) s44), (21, rd (Z0 .i64) x45)], [(0, Zh v2 121 Z8 d1)])) ?hx5 ?hy5
   case hy5 =>
    rintro ⟨s44, x45⟩ h
    dsimp only at h ⊢
    unfold Zg3 at h
    refine SR <| Md rfl <| Ac (Z0i rfl rfl (vt rfl) (vk rfl)) rfl <| As rfl <| Nl <| sq <| bk <| LG (d := []) (ν := Nat × Int × Int) (fun (m50, s48, x49) => (True ∧ Z9w d1 q43 m4 x6 a3 R_slices_symMergeCmpFunc_Action b5 m50 s48 x49 = some r, m50, [(0, Zj v2), (1, rd (Z0 .i64) a3), (2, rd (Z0 .i64) m4), (3, rd (Z0 .i64) b5), (4, fn2 Tryz.prog Z8 Z8 (Z0 .i64) x6), (18, rd (Z0 .i64) (IntKind.i64.wrap (q43.toNat : Int))), (19, rd (Z0 .i64) (IntKind.i64.wrap ((IntKind.i64.wrap (q43.toNat : Int)) + m4))), (20, rd (Z0 .i64) s48), (21, rd (Z0 .i64) x49), (22, rd (Z0 .i64) (IntKind.i64.wrap ((IntKind.i64.wrap ((IntKind.i64.wrap (q43.toNat : Int)) + m4)) - 1)))], [(0, Zh v2 121 Z8 d1)])) ((((x45 : Int) - s44).toNat + 1), s44, x45) ⟨trivial, h⟩ (FX rfl) ?_
    rintro ⟨m50, s48, x49⟩ ⟨hsf6, h⟩
    dsimp only at h ⊢
    cases m50 with
    | zero => cases h
    | succ m50 =>
     unfold Z9w at h
     refine sq <| SR <| Md rfl <| Md rfl <| Ac (Zl rfl rfl (vt rfl) (vt rfl)) rfl <| Nl <| Cq rfl h (fun h => ?_) (fun h => ?_)
     ·refine sk <| bk <| sq ?_
      obtain ⟨q51, hq51, h⟩ := Za h
      refine Rg <| Md rfl <| Md rfl <| Ac (Z02 rfl rfl (vt rfl) (vt rfl)) rfl <| Ac (Z73 rfl rfl us3 Z77 (vt rfl)) rfl <| Ac (Z59 rfl rfl (vt rfl) (Z4i (vku (1 : BitVec 64) rfl)) hq51) rfl <| Ac (Z8u rfl rfl Za1 un3 (vt rfl)) rfl <| As rfl <| Nl <| sq ?_
      obtain ⟨x52, hx52, x53, hx53, x54, hx54, h⟩ := bs3 h
      refine AR Zz (by kernel_rfl) <| Sd (lo [4] [] rfl fun S hs hr => Zk (A := fn2 Tryz.prog Z8 Z8 (Z0 .i64) x6) rfl rfl (vh hs 4 rfl rfl)) <| SMw rfl <| Zg rfl <| Zg rfl <| Sd (lo [160, 161] [] rfl fun S hs hr => Z0i rfl rfl (vh hs 160 rfl rfl) (vh hs 161 rfl rfl)) <| Sd (lo [159, 162] [0] rfl fun S hs hr => Z1r 0 rfl rfl Z08 (vh hs 159 rfl rfl) ((hr 0 rfl).trans rfl) (vh hs 162 rfl rfl) hx52) <| Sd (lo [163] [0] rfl fun S hs hr => Z1f 0 rfl rfl Z0h (vh hs 163 rfl rfl) ((hr 0 rfl).trans rfl) (Z0e hx52).2) <| SMw rfl <| Zg rfl <| Sd (lo [165, 166] [0] rfl fun S hs hr => Z1r 0 rfl rfl Z08 (vh hs 165 rfl rfl) ((hr 0 rfl).trans rfl) (vh hs 166 rfl rfl) hx53) <| Sd (lo [167] [0] rfl fun S hs hr => Z1f 0 rfl rfl Z0h (vh hs 167 rfl rfl) ((hr 0 rfl).trans rfl) (Z0e hx53).2) <| Sd (lo [158, 164, 168] [] rfl fun S hs hr => Z5f hx54 rfl rfl (vh hs 158 rfl rfl) (vh hs 164 rfl rfl) (vh hs 168 rfl rfl)) <| Sd (lo [169] [] rfl fun S hs hr => Zl rfl rfl (vh hs 169 rfl rfl) (vk rfl)) <| Sd (lo [170] [] rfl fun S hs hr => Z0s rfl rfl (vh hs 170 rfl rfl)) <| Sn <| Cq rfl h (fun h => ?_) (fun h => ?_)
      ·refine Rg <| Md rfl <| Ac (Z02 rfl rfl (vt rfl) (vk rfl)) rfl <| As rfl <| Nl ?_
       exact ⟨(_, _, _), Nat.lt_succ_self _, ⟨trivial, h⟩, FX rfl⟩
      ·refine Rg <| Md rfl <| As rfl <| Nl ?_
       exact ⟨(_, _, _), Nat.lt_succ_self _, ⟨trivial, h⟩, FX rfl⟩
     ·refine xt <| SR <| Md rfl <| Md rfl <| Ac (Z0i rfl rfl (vt rfl) (vt rfl)) rfl <| As rfl <| Nl ?_
      refine JN (d := []) (ν := (List Action)) (fun l55 => (Z9u a3 s48 q43 R_slices_symMergeCmpFunc_Action x6 m4 b5 l55 = some r, [(0, Zj v2), (1, rd (Z0 .i64) a3), (3, rd (Z0 .i64) b5), (4, fn2 Tryz.prog Z8 Z8 (Z0 .i64) x6), (18, rd (Z0 .i64) (IntKind.i64.wrap (q43.toNat : Int))), (20, rd (Z0 .i64) s48), (24, rd (Z0 .i64) (IntKind.i64.wrap ((IntKind.i64.wrap ((IntKind.i64.wrap (q43.toNat : Int)) + m4)) - s48)))], [(0, Zh v2 121 Z8 l55)])) ?hx7 ?hy7
      case hy7 =>
       intro l55 h
       dsimp only at h ⊢
       unfold Z9u at h
       refine JN (d := []) (ν := (List Action)) (fun l56 => (Zer q43 m4 s48 b5 R_slices_symMergeCmpFunc_Action x6 l56 = some r, [(0, Zj v2), (3, rd (Z0 .i64) b5), (4, fn2 Tryz.prog Z8 Z8 (Z0 .i64) x6), (18, rd (Z0 .i64) (IntKind.i64.wrap (q43.toNat : Int))), (24, rd (Z0 .i64) (IntKind.i64.wrap ((IntKind.i64.wrap ((IntKind.i64.wrap (q43.toNat : Int)) + m4)) - s48)))], [(0, Zh v2 121 Z8 l56)])) ?hx8 ?hy8
       case hy8 =>
        intro l56 h
        dsimp only at h ⊢
        unfold Zer at h
        refine SR <| Md rfl <| Md rfl <| Ac (Zl rfl rfl (vt rfl) (vt rfl)) rfl <| Md rfl <| Gd rfl (fun hq => Zk (A := rd (Z0 .i64) (IntKind.i64.wrap ((IntKind.i64.wrap ((IntKind.i64.wrap (q43.toNat : Int)) + m4)) - s48))) rfl rfl (vt rfl)) <| Gd rfl (fun hq => Zk (A := rd (Z0 .i64) b5) rfl rfl (vt rfl)) <| Gd rfl (fun hq => Zl rfl rfl (Z6 rfl hq) (Z6 rfl hq)) <| Ac (Z0o rfl rfl (vt rfl) (vt rfl)) rfl <| Nl <| Cq rfl h (fun h => ?_) (fun h => ?_)
        ·obtain ⟨l57, hl57, h⟩ := Za h
         refine Rg <| Mw rfl <| Md rfl <| Md rfl <| Md rfl <| Ac (Zk (A := fn2 Tryz.prog Z8 Z8 (Z0 .i64) x6) rfl rfl (vt rfl)) rfl <| Cv rfl (Z1o 0 (xs := [.tmp 214, .tmp 215, .tmp 216, .tmp 217, .tmp 218]) (hR_slices_symMergeCmpFunc_Action _ _ _ _ _ _ _ hl57) Zom rfl rfl ⟨vt rfl, vt rfl, vt rfl, vt rfl, vt rfl, trivial⟩ rfl) fun _u => Nl ?_
         cases h; exact Z2q (i := 0) Tryz.results311 rfl rfl
        ·refine sk ?_
         cases h; exact Z2q (i := 0) Tryz.results311 rfl rfl
       case hx8 =>
        refine SR <| Md rfl <| Md rfl <| Ac (Zl rfl rfl (vt rfl) (vt rfl)) rfl <| Md rfl <| Gd rfl (fun hq => Zk (A := rd (Z0 .i64) s48) rfl rfl (vt rfl)) <| Gd rfl (fun hq => Zk (A := rd (Z0 .i64) (IntKind.i64.wrap (q43.toNat : Int))) rfl rfl (vt rfl)) <| Gd rfl (fun hq => Zl rfl rfl (Z6 rfl hq) (Z6 rfl hq)) <| Ac (Z0o rfl rfl (vt rfl) (vt rfl)) rfl <| Nl <| Cq rfl h (fun h => ?_) (fun h => ?_)
        ·obtain ⟨l58, hl58, h⟩ := Za h
         refine Rg <| Mw rfl <| Md rfl <| Md rfl <| Md rfl <| Ac (Zk (A := fn2 Tryz.prog Z8 Z8 (Z0 .i64) x6) rfl rfl (vt rfl)) rfl <| Cv rfl (Z1o 0 (xs := [.tmp 200, .tmp 201, .tmp 202, .tmp 203, .tmp 204]) (hR_slices_symMergeCmpFunc_Action _ _ _ _ _ _ _ hl58) Zom rfl rfl ⟨vt rfl, vt rfl, vt rfl, vt rfl, vt rfl, trivial⟩ rfl) fun _u => Nl ?_
         exact ⟨_, h, FX rfl⟩
        ·refine sk ?_
         exact ⟨_, h, FX rfl⟩
      case hx7 =>
       refine SR <| Md rfl <| Md rfl <| Ac (Zl rfl rfl (vt rfl) (vt rfl)) rfl <| Md rfl <| Gd rfl (fun hq => Zk (A := rd (Z0 .i64) m4) rfl rfl (vt rfl)) <| Gd rfl (fun hq => Zk (A := rd (Z0 .i64) (IntKind.i64.wrap ((IntKind.i64.wrap ((IntKind.i64.wrap (q43.toNat : Int)) + m4)) - s48))) rfl rfl (vt rfl)) <| Gd rfl (fun hq => Zl rfl rfl (Z6 rfl hq) (Z6 rfl hq)) <| Ac (Z0o rfl rfl (vt rfl) (vt rfl)) rfl <| Nl <| Cq rfl h (fun h => ?_) (fun h => ?_)
       ·obtain ⟨l59, hl59, h⟩ := Za h
        refine Rg <| Mw rfl <| Md rfl <| Md rfl <| Md rfl <| Ac (Zk (A := fn2 Tryz.prog Z8 Z8 (Z0 .i64) x6) rfl rfl (vt rfl)) rfl <| Cv rfl (Z1o 0 (xs := [.tmp 186, .tmp 187, .tmp 188, .tmp 189, .tmp 190]) (Y9j _ _ _ _ _ _ _ hl59) Yec rfl rfl ⟨vt rfl, vt rfl, vt rfl, vt rfl, vt rfl, trivial⟩ rfl) fun _u => Nl ?_
        exact ⟨_, h, FX rfl⟩
       ·refine sk ?_
        exact ⟨_, h, FX rfl⟩
   case hx5 =>
    refine SR <| Md rfl <| Md rfl <| Ac (Z3j rfl rfl (vt rfl) (vt rfl)) rfl <| Nl <| Cq rfl h (fun h => ?_) (fun h => ?_)
    ·refine SR <| Md rfl <| Md rfl <| Ac (Z0i rfl rfl (vt rfl) (vt rfl)) rfl <| As rfl <| Nl <| Rg <| Md rfl <| As rfl <| Nl ?_
     exact ⟨(_, _), h, FX rfl⟩
    ·refine SR <| Md rfl <| As rfl <| Nl <| Rg <| Md rfl <| As rfl <| Nl ?_
     exact ⟨(_, _), h, FX rfl⟩
def Ze4 : Nat → ((List Action) → Int → Int → Int → (Action → Action → Option Int) → Option (List Action))
 | 0 => (fun _ _ _ _ _ => none)
 | n + 1 => (Zhr (Ze4 n))
theorem Zy9 : ∀ n : Nat, (∀ (v2 : Value) (d1 : (List Action)) (a3 : Int) (m4 : Int) (b5 : Int) (x6 : (Action → Action → Option Int)) (r : (List Action)), (Ze4 n) d1 a3 m4 b5 x6 = some r → Con Tryz.prog 311 [Zj v2, rd (Z0 .i64) a3, rd (Z0 .i64) m4, rd (Z0 .i64) b5, fn2 Tryz.prog Z8 Z8 (Z0 .i64) x6] (Zh v2 121 Z8 d1) (fun _ : Unit => top) (fun _ => Zh v2 121 Z8 r))
 | 0 => (by intros; rename_i h; cases h)
 | n + 1 => by
  have ih := Zy9 n
  exact (Ya8 (Ze4 n) ih)
def Znk (d1 : (List Action)) (a3 : Int) (m4 : Int) (b5 : Int) (x6 : (Action → Action → Option Int)) : Option (List Action) := (Ze4 Z0w) d1 a3 m4 b5 x6
theorem Zum : ∀ (v2 : Value) (d1 : (List Action)) (a3 : Int) (m4 : Int) (b5 : Int) (x6 : (Action → Action → Option Int)) (r : (List Action)), Znk d1 a3 m4 b5 x6 = some r → Con Tryz.prog 311 [Zj v2, rd (Z0 .i64) a3, rd (Z0 .i64) m4, rd (Z0 .i64) b5, fn2 Tryz.prog Z8 Z8 (Z0 .i64) x6] (Zh v2 121 Z8 d1) (fun _ : Unit => top) (fun _ => Zh v2 121 Z8 r) := Zy9 Z0w
def Zdt (n3 : Int) (b17 : Int) (x4 : (Action → Action → Option Int)) (go2 : (List Action) → Int → Option (List Action)) : Nat → (List Action) → Int → Int → Option (List Action)
 | 0, _, _, _ => none
 | m25 + 1, l22, a23, b24 => (bif (decide (b24 ≤ n3)) then (Znk l22 a23 (IntKind.i64.wrap (a23 + b17)) b24 x4).bind fun l26 => (Zdt n3 b17 x4 go2 m25) l26 b24 (IntKind.i64.wrap (b24 + (IntKind.i64.wrap (2 * b17)))) else (bif (decide ((IntKind.i64.wrap (a23 + b17)) < n3)) then (Znk l22 a23 (IntKind.i64.wrap (a23 + b17)) n3 x4).bind fun l27 => go2 l27 (IntKind.i64.wrap (b17 * 2)) else go2 l22 (IntKind.i64.wrap (b17 * 2))))
def Z8p (n3 : Int) (x4 : (Action → Action → Option Int)) : Nat → (List Action) → Int → Option (List Action)
 | 0, _, _ => none
 | m18 + 1, l16, b17 => (bif (decide (b17 < n3)) then Zdt n3 b17 x4 (Z8p n3 x4 m18) (((n3 : Int) - (IntKind.i64.wrap (2 * b17))).toNat + 2) l16 0 (IntKind.i64.wrap (2 * b17)) else some l16)
def Zfd (n3 : Int) (x4 : (Action → Action → Option Int)) : Nat → (List Action) → Int → Int → Option (List Action)
 | 0, _, _, _ => none
 | m11 + 1, l8, a9, b10 => (bif (decide (b10 ≤ n3)) then (Zfu l8 a9 b10 x4).bind fun l12 => (Zfd n3 x4 m11) l12 b10 (IntKind.i64.wrap (b10 + 20)) else (Zfu l8 a9 n3 x4).bind fun l13 => Z8p n3 x4 (((n3 : Int) - 20).toNat + 1) l13 20)
def Zoz (d1 : (List Action)) (n3 : Int) (x4 : (Action → Action → Option Int)) : Option (List Action) :=
 Zfd n3 x4 (((n3 : Int) - 20).toNat + 2) d1 0 20
theorem Yb9 (v2 : Value) (d1 : (List Action)) (n3 : Int) (x4 : (Action → Action → Option Int)) (r : (List Action)) (h : Zoz d1 n3 x4 = some r) : Con Tryz.prog 274 [Zj v2, rd (Z0 .i64) n3, fn2 Tryz.prog Z8 Z8 (Z0 .i64) x4] (Zh v2 121 Z8 d1) (fun _ : Unit => top) (fun _ => Zh v2 121 Z8 r) := by
 refine Con.intro Tryz.func274 rfl Tryz.ntmps274 rfl fun w H X => ?_
 unfold Zoz at h
 refine SR <| Ak rfl <| Nl <| SR <| Md rfl <| Ak rfl <| As rfl <| Nl <| sq <| bk <| LG (d := []) (ν := Nat × (List Action) × Int × Int) (fun (m11, l8, a9, b10) => (True ∧ Zfd n3 x4 m11 l8 a9 b10 = some r, m11, [(0, Zj v2), (1, rd (Z0 .i64) n3), (2, fn2 Tryz.prog Z8 Z8 (Z0 .i64) x4), (6, rd (Z0 .i64) 20), (7, rd (Z0 .i64) a9), (8, rd (Z0 .i64) b10)], [(0, Zh v2 121 Z8 l8)])) ((((n3 : Int) - 20).toNat + 2), d1, 0, 20) ⟨trivial, h⟩ (FX rfl) ?_
 rintro ⟨m11, l8, a9, b10⟩ ⟨hsf1, h⟩
 dsimp only at h ⊢
 cases m11 with
 | zero => cases h
 | succ m11 =>
  unfold Zfd at h
  refine sq <| SR <| Md rfl <| Md rfl <| Ac (Z64 rfl rfl (vt rfl) (vt rfl)) rfl <| Nl <| Cq rfl h (fun h => ?_) (fun h => ?_)
  ·refine sk <| bk <| sq ?_
   obtain ⟨l12, hl12, h⟩ := Za h
   refine Rg <| Mw rfl <| Md rfl <| Md rfl <| Ac (Zk (A := fn2 Tryz.prog Z8 Z8 (Z0 .i64) x4) rfl rfl (vt rfl)) rfl <| Cv rfl (Z1o 0 (xs := [.tmp 14, .tmp 15, .tmp 16, .tmp 17]) (Zut _ _ _ _ _ _ hl12) Zv4 rfl rfl ⟨vt rfl, vt rfl, vt rfl, vt rfl, trivial⟩ rfl) fun _u => Nl <| SR <| Md rfl <| As rfl <| Nl <| Rg <| Md rfl <| Md rfl <| Ac (Z02 rfl rfl (vt rfl) (vt rfl)) rfl <| As rfl <| Nl ?_
   exact ⟨(_, _, _, _), Nat.lt_succ_self _, ⟨trivial, h⟩, FX rfl⟩
  ·refine xt <| sq ?_
   obtain ⟨l13, hl13, h⟩ := Za h
   refine Rg <| Mw rfl <| Md rfl <| Md rfl <| Ac (Zk (A := fn2 Tryz.prog Z8 Z8 (Z0 .i64) x4) rfl rfl (vt rfl)) rfl <| Cv rfl (Z1o 0 (xs := [.tmp 23, .tmp 24, .tmp 25, .tmp 26]) (Zut _ _ _ _ _ _ hl13) Zv4 rfl rfl ⟨vt rfl, vt rfl, vt rfl, vt rfl, trivial⟩ rfl) fun _u => Nl <| bk <| LG (d := []) (ν := Nat × (List Action) × Int) (fun (m18, l16, b17) => (True ∧ Z8p n3 x4 m18 l16 b17 = some r, m18, [(0, Zj v2), (1, rd (Z0 .i64) n3), (2, fn2 Tryz.prog Z8 Z8 (Z0 .i64) x4), (6, rd (Z0 .i64) b17)], [(0, Zh v2 121 Z8 l16)])) ((((n3 : Int) - 20).toNat + 1), l13, 20) ⟨trivial, h⟩ (FX rfl) ?_
   rintro ⟨m18, l16, b17⟩ ⟨hsf2, h⟩
   dsimp only at h ⊢
   cases m18 with
   | zero => cases h
   | succ m18 =>
    unfold Z8p at h
    refine sq <| SR <| Md rfl <| Md rfl <| Ac (Zl rfl rfl (vt rfl) (vt rfl)) rfl <| Nl <| Cq rfl h (fun h => ?_) (fun h => ?_)
    ·refine sk <| bk <| SR <| Md rfl <| Ac (Z7i rfl rfl (vk rfl) (vt rfl)) rfl <| Ak rfl <| As rfl <| Nl <| sq <| bk <| LG (d := []) (ν := Nat × (List Action) × Int × Int) (fun (m25, l22, a23, b24) => (True ∧ Zdt n3 b17 x4 (Z8p n3 x4 m18) m25 l22 a23 b24 = some r, m25, [(0, Zj v2), (1, rd (Z0 .i64) n3), (2, fn2 Tryz.prog Z8 Z8 (Z0 .i64) x4), (6, rd (Z0 .i64) b17), (7, rd (Z0 .i64) a23), (8, rd (Z0 .i64) b24)], [(0, Zh v2 121 Z8 l22)])) ((((n3 : Int) - (IntKind.i64.wrap (2 * b17))).toNat + 2), l16, 0, (IntKind.i64.wrap (2 * b17))) ⟨trivial, h⟩ (FX rfl) ?_
     rintro ⟨m25, l22, a23, b24⟩ ⟨hsf3, h⟩
     dsimp only at h ⊢
     cases m25 with
     | zero => cases h
     | succ m25 =>
      unfold Zdt at h
      refine sq <| SR <| Md rfl <| Md rfl <| Ac (Z64 rfl rfl (vt rfl) (vt rfl)) rfl <| Nl <| Cq rfl h (fun h => ?_) (fun h => ?_)
      ·refine sk <| bk <| sq ?_
       obtain ⟨l26, hl26, h⟩ := Za h
       refine Rg <| Mw rfl <| Md rfl <| Md rfl <| Md rfl <| Ac (Z02 rfl rfl (vt rfl) (vt rfl)) rfl <| Md rfl <| Ac (Zk (A := fn2 Tryz.prog Z8 Z8 (Z0 .i64) x4) rfl rfl (vt rfl)) rfl <| Cv rfl (Z1o 0 (xs := [.tmp 36, .tmp 37, .tmp 40, .tmp 41, .tmp 42]) (Zum _ _ _ _ _ _ _ hl26) Zom rfl rfl ⟨vt rfl, vt rfl, vt rfl, vt rfl, vt rfl, trivial⟩ rfl) fun _u => Nl <| SR <| Md rfl <| As rfl <| Nl <| Rg <| Md rfl <| Md rfl <| Ac (Z7i rfl rfl (vk rfl) (vt rfl)) rfl <| Ac (Z02 rfl rfl (vt rfl) (vt rfl)) rfl <| As rfl <| Nl ?_
       exact ⟨(_, _, _, _), Nat.lt_succ_self _, ⟨trivial, h⟩, FX rfl⟩
      ·refine xt <| sq <| SR <| Md rfl <| Md rfl <| Ac (Z02 rfl rfl (vt rfl) (vt rfl)) rfl <| As rfl <| Nl <| SR <| Md rfl <| Md rfl <| Ac (Zl rfl rfl (vt rfl) (vt rfl)) rfl <| Nl <| Cq rfl h (fun h => ?_) (fun h => ?_)
       ·obtain ⟨l27, hl27, h⟩ := Za h
        refine Rg <| Mw rfl <| Md rfl <| Md rfl <| Md rfl <| Ac (Zk (A := fn2 Tryz.prog Z8 Z8 (Z0 .i64) x4) rfl rfl (vt rfl)) rfl <| Cv rfl (Z1o 0 (xs := [.tmp 55, .tmp 56, .tmp 57, .tmp 58, .tmp 59]) (Zum _ _ _ _ _ _ _ hl27) Zom rfl rfl ⟨vt rfl, vt rfl, vt rfl, vt rfl, vt rfl, trivial⟩ rfl) fun _u => Nl <| Rg <| Md rfl <| Ac (Z7i rfl rfl (vt rfl) (vk rfl)) rfl <| As rfl <| Nl ?_
        exact ⟨(_, _, _), Nat.lt_succ_self _, ⟨trivial, h⟩, FX rfl⟩
       ·refine sk <| Rg <| Md rfl <| Ac (Z7i rfl rfl (vt rfl) (vk rfl)) rfl <| As rfl <| Nl ?_
        exact ⟨(_, _, _), Nat.lt_succ_self _, ⟨trivial, h⟩, FX rfl⟩
    ·refine xt ?_
     cases h; exact Z2q (i := 0) Tryz.results274 rfl rfl
def Zj3 (x1 : (List Action)) (x3 : (Action → Action → Option Int)) : Option (List Action) :=
 (Zoz x1 (x1.length : Int) x3).bind fun l4 => some l4
theorem Ygj (v2 : Value) (x1 : (List Action)) (x3 : (Action → Action → Option Int)) (r : (List Action)) (h : Zj3 x1 x3 = some r) : Con Tryz.prog 219 [Zj v2, fn2 Tryz.prog Z8 Z8 (Z0 .i64) x3] (Zh v2 121 Z8 x1) (fun _ : Unit => top) (fun _ => Zh v2 121 Z8 r) := by
 refine Con.intro Tryz.func219 rfl Tryz.ntmps219 rfl fun w H X => ?_
 unfold Zj3 at h
 obtain ⟨l4, hl4, h⟩ := Za h
 refine Rg <| Mw rfl <| Mw rfl <| Ac (Z5s 0 rfl rfl Z08 (vt rfl) rfl) rfl <| Ac (Zk (A := fn2 Tryz.prog Z8 Z8 (Z0 .i64) x3) rfl rfl (vt rfl)) rfl <| Cv rfl (Z1o 0 (xs := [.tmp 4, .tmp 6, .tmp 7]) (Yb9 _ _ _ _ _ hl4) Yf2 rfl rfl ⟨vt rfl, vt rfl, vt rfl, trivial⟩ rfl) fun _u => Nl ?_
 cases h; exact Z2q (i := 0) Tryz.results219 rfl rfl
def Zfh (a1 : Action) (b2 : Action) : Option Int :=
 (Zam a1).bind fun x5 => (Zam b2).bind fun x6 => (Zda x5.kind).bind fun x9 => (Zda x6.kind).bind fun x10 => (bif (decide ((IntKind.i64.wrap (x9 - x10)) ≠ 0)) then some (IntKind.i64.wrap (x9 - x10)) else (bif (decide (x5.field < x6.field)) then some (-1) else (bif (decide (x5.field > x6.field)) then some 1 else some 0)))
theorem Y6z : Q2 Tryz.prog 220 (rd Z8) (rd Z8) (rd (Z0 .i64)) Zfh := fun a1 b2 r h => I0 Tryz.func220 rfl Tryz.ntmps220 rfl fun w H => by
 unfold Zfh at h
 refine SR <| Cv rfl (Zn 3 rfl rfl (vt rfl)) fun g3 => Cv rfl (Zn 4 rfl rfl (vt rfl)) fun g4 => Ak rfl <| Nl <| sq ?_
 obtain ⟨x5, hx5, x6, hx6, h⟩ := bs2 h
 refine AR Zz (by kernel_rfl) <| Zu Z0h 3 rfl <| SCl [8] (Zos _ _ hx5) Zn7 rfl <| Zu Z0h 4 rfl <| SCl [10] (Zos _ _ hx6) Zn7 rfl <| Sd (Z11 (us := [(5, Z1u 275 Z61 Zmv)]) (ur := []) [] [] rfl fun S hs hr => Z4t rfl rfl rfl Zi0) <| Sd (Z11 (us := [(6, Z1u 275 Z61 Zmv)]) (ur := []) [] [] rfl fun S hs hr => Z4t rfl rfl rfl Zi0) <| Sd (Z11 (us := [(5, Z1u 275 Z61 x5)]) (ur := []) [5, 9] [] rfl fun S hs hr => Z54 rfl rfl Zex ((hs 5 rfl).trans rfl) (vh hs 9 rfl rfl)) <| Sd (Z11 (us := [(6, Z1u 275 Z61 x6)]) (ur := []) [6, 11] [] rfl fun S hs hr => Z54 rfl rfl Zex ((hs 6 rfl).trans rfl) (vh hs 11 rfl rfl)) <| Sn <| AW.unpackP 5 6 rfl rfl fun g7 => AW.unpackP 6 7 rfl rfl fun g8 => sq <| sq ?_
 obtain ⟨x9, hx9, x10, hx10, h⟩ := bs2 h
 refine AR Zz (by kernel_rfl) <| SFd laset_spot_0 Zyr rfl <| Zu Zq 6 rfl <| SCl [13] (Zpk _ _ hx9) Zsz rfl <| SFd laset_spot_0 Zyr rfl <| Zu Zq 7 rfl <| SCl [16] (Zpk _ _ hx10) Zsz rfl <| Sd (lo [14, 17] [] rfl fun S hs hr => Z0i rfl rfl (vh hs 14 rfl rfl) (vh hs 17 rfl rfl)) <| SAs rfl <| Sn <| SR <| Md rfl <| Ac (Z2o rfl rfl (vt rfl) (vk rfl)) rfl <| Nl <| Cq rfl h (fun h => ?_) (fun h => ?_)
 ·refine SR <| Md rfl <| As rfl <| Nl <| rt ?_
  cases h; exact Zc Tryz.results220 rfl (Z4 rfl)
 ·refine sk <| sq <| bk <| SR <| Zt laset_spot_1 Zoc rfl <| Ld Zq 6 rfl <| Zt laset_spot_1 Zoc rfl <| Ld Zq 7 rfl <| Ac (Zl rfl rfl (vt rfl) (vt rfl)) rfl <| As rfl <| Nl <| Cq rfl h (fun h => ?_) (fun h => ?_)
  ·refine SR <| Ak rfl <| Nl <| rt ?_
   cases h; exact Zc Tryz.results220 rfl (Z4 rfl)
  ·refine SR <| Zt laset_spot_1 Zoc rfl <| Ld Zq 6 rfl <| Zt laset_spot_1 Zoc rfl <| Ld Zq 7 rfl <| Ac (Z3j rfl rfl (vt rfl) (vt rfl)) rfl <| As rfl <| Nl <| Cq rfl h (fun h => ?_) (fun h => ?_)
   ·refine SR <| Ak rfl <| Nl <| rt ?_
    cases h; exact Zc Tryz.results220 rfl (Z4 rfl)
   ·refine sk <| SR <| Ak rfl <| Nl <| rt ?_
    cases h; exact Zc Tryz.results220 rfl (Z4 rfl)
def Zdw (s1 : (List Action)) : Option (List Action) :=
 (Zgz s1 Zop).bind fun x2 => (Z6g s1).bind fun x4 => (Zic x4 (fun x => Ze2 x x2)).bind fun x6 => (Zj3 x6 Zfh).bind fun l8 => some l8
theorem Y4b : Q1 Tryz.prog 149 (rd (Z3 Z8)) (rd (Z3 Z8)) Zdw := fun s1 r h => I0 Tryz.func149 rfl Tryz.ntmps149 rfl fun w H => by
 unfold Zdw at h
 refine SR <| Ac (Z04 (A := rd (Z3 Z8) []) rfl rfl Z26) rfl <| Nl <| sq ?_
 obtain ⟨x2, hx2, h⟩ := Za h
 refine Rg <| Md rfl <| Ac (Z0b (xs := [.tmp 5, .func 214]) (Ygu _ _ _ hx2) Ygm rfl rfl ⟨vt rfl, vf1 Yck Y8k, trivial⟩) rfl <| Cv rfl (Zo 4 rfl rfl zr4) fun g3 => Zd ty4 4 rfl <| Nl <| sq <| AW.freezeB 3 4 rfl rfl rfl ?_
 obtain ⟨x4, hx4, x6, hx6, h⟩ := bs2 h
 refine Rg <| Md rfl <| Cv rfl (Z1o 1001 (xs := [.tmp 7]) (Ztf _ _ hx4) Zp5 rfl rfl ⟨vt rfl, trivial⟩ rfl) fun v5 => Ac (Zad (cs := [.tmp 3]) (CAs := [rp Z7 x2]) (fun x => Ze2 x x2) rfl rfl Yh4 ⟨vt rfl, trivial⟩ (fun x y h => Y9o _ _ y h)) rfl <| Cv rfl (Z1o 1001 (xs := [.tmp 8, .tmp 9]) (Ygq _ _ _ _ hx6) Y4p rfl rfl ⟨vt rfl, vt rfl, trivial⟩ rfl) fun v7 => Aw rfl <| Nl <| sq ?_
 obtain ⟨l8, hl8, h⟩ := Za h
 refine Rg <| Mw rfl <| Cv rfl (Z1o 1001 (xs := [.tmp 11, .func 220]) (Ygj _ _ _ _ hl8) Yix rfl rfl ⟨vt rfl, vf2 Yed Y6z, trivial⟩ rfl) fun _u => Nl <| SR <| Mw rfl <| Aw rfl <| Nl <| AW.freezes [2, 4, 10, 11, 13] 1001 rfl ⟨rfl, rfl, rfl, rfl, rfl, trivial⟩ rfl <| rt ?_
 cases h; exact Zc Tryz.results149 rfl (Z4 rfl)
end Go.Proofs.YtknpgojdkobgjaaGreat.W
set_option maxRecDepth 4000
namespace Go.Proofs.YtknpgojdkobgjaaGreat.W
open Go Go.Wb
theorem Zhw : Ent Tryz.prog 204 := Ent.mk Tryz.func204 rfl rfl
theorem Yip : Ent Tryz.prog 149 := Ent.mk Tryz.func149 rfl rfl
theorem Ztl : Ent Tryz.prog 205 := Ent.mk Tryz.func205 rfl rfl
theorem Y5u : Ent Tryz.prog 206 := Ent.mk Tryz.func206 rfl rfl
theorem Zuj : Ent Tryz.prog 208 := Ent.mk Tryz.func208 rfl rfl
theorem Yie : Ent Tryz.prog 135 := Ent.mk Tryz.func135 rfl rfl
theorem Y2b : Ent Tryz.prog 138 := Ent.mk Tryz.func138 rfl rfl
theorem Ya7 : Ent Tryz.prog 136 := Ent.mk Tryz.func136 rfl rfl
theorem Y6y : Ent Tryz.prog 137 := Ent.mk Tryz.func137 rfl rfl
theorem e76 : Ent Tryz.prog 76 := Ent.mk Tryz.func76 rfl rfl
theorem e75 : Ent Tryz.prog 75 := Ent.mk Tryz.func75 rfl rfl
theorem Yde : Ent Tryz.prog 146 := Ent.mk Tryz.func146 rfl rfl
theorem e22 : Ent Tryz.prog 22 := Ent.mk Tryz.func22 rfl rfl
theorem e85 : Ent Tryz.prog 85 := Ent.mk Tryz.func85 rfl rfl
def Zfj (l3 : (List Inst)) (a2 : Int) (b9 : walk_way) : Option (walk_way × Int × Bool) :=
 (Z8o l3 1).bind fun x10 => (bif ((x10.2 && (decide (x10.1.Table > a2))) && (decide (x10.1.Table < 4))) then some (b9, x10.1.Table, true) else (Zdw b9.set).bind fun x12 => (Zdc b9 x12).bind fun x13 => some (x13, 0, false))
def Zff (l3 : (List Inst)) (a2 : Int) (b8 : walk_way) : Option (walk_way × Int × Bool) :=
 (Z8o l3 2).bind fun x14 => (bif x14.2 then (Z8g b8.got 1 x14.1.Value x14.1.Mask).bind fun x16 => Zfj l3 a2 { b8 with got := x16 } else Zfj l3 a2 b8)
def Zee (l3 : (List Inst)) (a2 : Int) (b7 : walk_way) : Option (walk_way × Int × Bool) :=
 (Z8o l3 3).bind fun x17 => (bif x17.2 then (Zi1 b7.set x17.1.Acts).bind fun x19 => Zff l3 a2 { b7 with set := x19 } else Zff l3 a2 b7)
def Zet (l3 : (List Inst)) (a2 : Int) (b6 : walk_way) : Option (walk_way × Int × Bool) :=
 (Z8o l3 5).bind fun x20 => (bif x20.2 then Zee l3 a2 { b6 with set := [] } else Zee l3 a2 b6)
def Ziq (w1 : walk_way) (a2 : Int) (l3 : (List Inst)) : Option (walk_way × Int × Bool) :=
 (Z8o l3 4).bind fun x22 => (bif x22.2 then (Zdc w1 x22.1.Acts).bind fun x24 => Zet l3 a2 x24 else Zet l3 a2 w1)
theorem Y6t : Q3 Tryz.prog 137 (rd Z1l) (rd (Z0 .i64)) (rd (Z3 Z1a)) (fun r => Z2k (rd Z1l r.1) (rd (Z0 .i64) r.2.1) (rd Z7 r.2.2)) Ziq := fun w1 a2 l3 r h => I0 Tryz.func137 rfl Tryz.ntmps137 rfl fun w H => by
 unfold Ziq at h
 refine SR <| Cv rfl (Zn 4 rfl rfl (vt rfl)) fun g4 => Cv rfl (Zo 7 rfl rfl Zey) fun g5 => Ak rfl <| Ab rfl <| Nl ?_
 refine JN (d := []) (ν := walk_way) (fun b6 => (Zet l3 a2 b6 = some r, [(1, rd (Z0 .i64) a2), (2, rd (Z3 Z1a) l3), (3, Ze g4 (Lens.id Z1l)), (6, Ze g5 (Lens.id Z1l))], [(4, Zf g4 135 Z1l b6), (7, Zf g5 135 Z1l Zew)])) ?hx1 ?hy1
 case hy1 =>
  intro b6 h
  dsimp only at h ⊢
  unfold Zet at h
  refine JN (d := []) (ν := walk_way) (fun b7 => (Zee l3 a2 b7 = some r, [(1, rd (Z0 .i64) a2), (2, rd (Z3 Z1a) l3), (3, Ze g4 (Lens.id Z1l)), (6, Ze g5 (Lens.id Z1l))], [(4, Zf g4 135 Z1l b7), (7, Zf g5 135 Z1l Zew)])) ?hx2 ?hy2
  case hy2 =>
   intro b7 h
   dsimp only at h ⊢
   unfold Zee at h
   refine JN (d := []) (ν := walk_way) (fun b8 => (Zff l3 a2 b8 = some r, [(1, rd (Z0 .i64) a2), (2, rd (Z3 Z1a) l3), (3, Ze g4 (Lens.id Z1l)), (6, Ze g5 (Lens.id Z1l))], [(4, Zf g4 135 Z1l b8), (7, Zf g5 135 Z1l Zew)])) ?hx3 ?hy3
   case hy3 =>
    intro b8 h
    dsimp only at h ⊢
    unfold Zff at h
    refine JN (d := []) (ν := walk_way) (fun b9 => (Zfj l3 a2 b9 = some r, [(1, rd (Z0 .i64) a2), (2, rd (Z3 Z1a) l3), (3, Ze g4 (Lens.id Z1l)), (6, Ze g5 (Lens.id Z1l))], [(4, Zf g4 135 Z1l b9), (7, Zf g5 135 Z1l Zew)])) ?hx4 ?hy4
    case hy4 =>
     intro b9 h
     dsimp only at h ⊢
     unfold Zfj at h
     refine sq ?_
     obtain ⟨x10, hx10, h⟩ := Za h
     refine Rg <| Md rfl <| Ac (Z0b (xs := [.tmp 63, .const (Value.int IntKind.i64 1)]) (Zib _ _ _ hx10) Zhw rfl rfl ⟨vt rfl, vk rfl, trivial⟩) rfl <| Mt2 rfl <| Ac (Z1j rfl rfl (vt rfl)) rfl <| Ac (Z1i rfl rfl (vt rfl)) rfl <| Cv rfl (Zo 18 rfl rfl Z3s) fun g11 => Zd Z32 18 rfl <| As rfl <| Nl <| sq <| SR <| Md rfl <| Md rfl <| Gd rfl (fun hq => Z0t lInst_1 rfl rfl Zdu (vt rfl)) <| Gd rfl (fun hq => Z0g rfl rfl Zq (Z6 rfl hq) (i := 18) rfl) <| Gd rfl (fun hq => Zk (A := rd (Z0 .i64) a2) rfl rfl (vt rfl)) <| Gd rfl (fun hq => Z3j rfl rfl (Z6 rfl hq) (Z6 rfl hq)) <| Ac (Z0o rfl rfl (vt rfl) (vt rfl)) rfl <| Md rfl <| Gd rfl (fun hq => Z0t lInst_1 rfl rfl Zdu (vt rfl)) <| Gd rfl (fun hq => Z0g rfl rfl Zq (Z6 rfl hq) (i := 18) rfl) <| Gd rfl (fun hq => Zl rfl rfl (Z6 rfl hq) (vk rfl)) <| Ac (Z0o rfl rfl (vt rfl) (vt rfl)) rfl <| Nl <| Cq rfl h (fun h => ?_) (fun h => ?_)
     ·refine sq <| AR Zz (by kernel_rfl) <| Zu Z31 4 rfl <| SFd lInst_1 Zdu rfl <| Zu Zq 18 rfl <| SSt Z31 7 rfl <| SAs rfl <| Sd (lo [] [] rfl fun S hs hr => Z04 (A := rd Z7 true) rfl rfl vb) <| Sn <| rt ?_
      cases h; exact Z6n Tryz.results137 rfl (Zx rfl (i := 7) rfl Z31) (Z4 rfl) (Z4 rfl)
     ·refine sk <| sq ?_
      obtain ⟨x12, hx12, x13, hx13, h⟩ := bs2 h
      refine AR Zz (by kernel_rfl) <| Zu Z31 4 rfl <| SFd Zht Znm rfl <| Zu Z42 4 rfl <| SCl [84] (Y4b _ _ hx12) Yip rfl <| SCl [82, 85] (Zw0 _ _ _ hx13) Ztl rfl <| SSt Z31 7 rfl <| Sd (lo [] [] rfl fun S hs hr => Z04 (A := rd (Z0 .i64) 0) rfl rfl (vk rfl)) <| Sd (lo [] [] rfl fun S hs hr => Z04 (A := rd Z7 false) rfl rfl vb) <| Sn <| rt ?_
      cases h; exact Z6n Tryz.results137 rfl (Zx rfl (i := 7) rfl Z31) (Z4 rfl) (Z4 rfl)
    case hx4 =>
     refine sq ?_
     obtain ⟨x14, hx14, h⟩ := Za h
     refine Rg <| Md rfl <| Ac (Z0b (xs := [.tmp 49, .const (Value.int IntKind.i64 2)]) (Zib _ _ _ hx14) Zhw rfl rfl ⟨vt rfl, vk rfl, trivial⟩) rfl <| Mt2 rfl <| Ac (Z1j rfl rfl (vt rfl)) rfl <| Ac (Z1i rfl rfl (vt rfl)) rfl <| Cv rfl (Zo 16 rfl rfl Z3s) fun g15 => Zd Z32 16 rfl <| As rfl <| Nl <| SR <| Md rfl <| Nl <| Cq rfl h (fun h => ?_) (fun h => ?_)
     ·obtain ⟨x16, hx16, h⟩ := Za h
      refine Rg <| Zt lwalk_way_1 Zh8 rfl <| Ld Z01 4 rfl <| Zt Ztc Y1l rfl <| Ld Zs 16 rfl <| Zt Zqj Ztm rfl <| Ld Zs 16 rfl <| Ac (Z0b (xs := [.tmp 55, .const (Value.int IntKind.i64 1), .tmp 57, .tmp 59]) (Zjh _ _ _ _ _ hx16) Zkv rfl rfl ⟨vt rfl, vk rfl, vt rfl, vt rfl, trivial⟩) rfl <| Zt lwalk_way_1 Zh8 rfl <| Zd Z01 4 rfl <| Nl ?_
      exact ⟨_, h, FX rfl⟩
     ·refine sk ?_
      exact ⟨_, h, FX rfl⟩
   case hx3 =>
    refine sq ?_
    obtain ⟨x17, hx17, h⟩ := Za h
    refine Rg <| Md rfl <| Ac (Z0b (xs := [.tmp 37, .const (Value.int IntKind.i64 3)]) (Zib _ _ _ hx17) Zhw rfl rfl ⟨vt rfl, vk rfl, trivial⟩) rfl <| Mt2 rfl <| Ac (Z1j rfl rfl (vt rfl)) rfl <| Ac (Z1i rfl rfl (vt rfl)) rfl <| Cv rfl (Zo 14 rfl rfl Z3s) fun g18 => Zd Z32 14 rfl <| As rfl <| Nl <| SR <| Md rfl <| Nl <| Cq rfl h (fun h => ?_) (fun h => ?_)
    ·obtain ⟨x19, hx19, h⟩ := Za h
     refine Rg <| Zt Zht Znm rfl <| Ld Z42 4 rfl <| Zt lInst_4 Zcy rfl <| Ld Z42 14 rfl <| Cl [43, 45] (Y4k _ _ _ hx19) Y5u rfl <| Zt Zht Znm rfl <| Zd Z42 4 rfl <| Nl ?_
     exact ⟨_, h, FX rfl⟩
    ·refine sk ?_
     exact ⟨_, h, FX rfl⟩
  case hx2 =>
   refine sq ?_
   obtain ⟨x20, hx20, h⟩ := Za h
   refine Rg <| Md rfl <| Ac (Z0b (xs := [.tmp 30, .const (Value.int IntKind.i64 5)]) (Zib _ _ _ hx20) Zhw rfl rfl ⟨vt rfl, vk rfl, trivial⟩) rfl <| Mt2 rfl <| Ac (Z1j rfl rfl (vt rfl)) rfl <| Ac (Z1i rfl rfl (vt rfl)) rfl <| Cv rfl (Zo 12 rfl rfl Z3s) fun g21 => Zd Z32 12 rfl <| As rfl <| Nl <| SR <| Md rfl <| Nl <| Cq rfl h (fun h => ?_) (fun h => ?_)
   ·refine Rg <| Zt Zht Znm rfl <| Ac (Zbz rfl rfl Z42 (vt rfl) (i := 4) rfl Z26) rfl <| Nl ?_
    exact ⟨_, h, FX rfl⟩
   ·refine sk ?_
    exact ⟨_, h, FX rfl⟩
 case hx1 =>
  refine sq ?_
  obtain ⟨x22, hx22, h⟩ := Za h
  refine Rg <| Md rfl <| Ac (Z0b (xs := [.tmp 20, .const (Value.int IntKind.i64 4)]) (Zib _ _ _ hx22) Zhw rfl rfl ⟨vt rfl, vk rfl, trivial⟩) rfl <| Mt2 rfl <| Ac (Z1j rfl rfl (vt rfl)) rfl <| Ac (Z1i rfl rfl (vt rfl)) rfl <| Cv rfl (Zo 10 rfl rfl Z3s) fun g23 => Zd Z32 10 rfl <| As rfl <| Nl <| SR <| Md rfl <| Nl <| Cq rfl h (fun h => ?_) (fun h => ?_)
  ·obtain ⟨x24, hx24, h⟩ := Za h
   refine Rg <| Ld Z31 4 rfl <| Zt lInst_4 Zcy rfl <| Ld Z42 10 rfl <| Cl [25, 27] (Zw0 _ _ _ hx24) Ztl rfl <| Zd Z31 4 rfl <| Nl ?_
   exact ⟨_, h, FX rfl⟩
  ·refine sk ?_
   exact ⟨_, h, FX rfl⟩
def Zbr (s : List Atom) : Option (List Atom) := Z0y [] s
theorem Y81 (s : List Atom) (r : List Atom) (h : Zbr s = some r) : Con Tryz.prog 208 [rd (Z3 Z05) s] emp (fun v => Zj v) (fun v => Zh v 126 Z05 r) := by
 refine Con.intro0 Tryz.func208 rfl Tryz.ntmps208 rfl fun w H => ?_
 unfold Zbr at h
 refine AW.newnil 1001 126 Z05 <| SR <| Ac (Z04 (A := Zj (.slice none 0 0)) rfl rfl vc) rfl <| Nl <| sq <| SR <| Md rfl <| Ct rfl (Zl3 rfl rfl Z28 (vt rfl)) ?_
 rintro _ ⟨b, hb, rfl⟩
 refine Nl <| Cn rfl (fun hc => ?_) (fun hc => ?_)
 ·obtain rfl := hb hc
  refine SR <| Ac (Z04 (A := Zj (.slice none 0 0)) rfl rfl vc) rfl <| Nl <| rt ?_
  obtain rfl := (Z9v h).2
  exact Z50 (i := 1001) Tryz.results208 rfl rfl rfl
 ·refine sk <| SR <| Cv rfl (Z43 1002 (ps := []) (l := []) rfl rfl Z28 Z55 rfl rfl rfl rfl) fun v1 => Md rfl <| Cv rfl (Z29 1002 h rfl rfl Z7u (vt rfl) rfl (vt rfl)) fun v2 => Aw rfl <| Nl <| rt ?_
  exact Z50 (i := 1002) Tryz.results208 rfl rfl rfl
theorem Zvr (s : List Atom) (r : List Atom) (h : Zbr s = some r) : PCon Tryz.prog 208 [rd (Z3 Z05) s] (rd (Z3 Z05) r) := PCon.of_row (Y81 s r h)
def Zfs (w1 : walk_way) : Option Rule :=
 (Zbr w1.atoms).bind fun x4 => some (⟨w1.cube, x4⟩ : Rule)
theorem Zys : Q1 Tryz.prog 138 (rd Z1l) (rd Zy) Zfs := fun w1 r h => I0 Tryz.func138 rfl Tryz.ntmps138 rfl fun w H => by
 unfold Zfs at h
 refine SR <| Cv rfl (Zn 2 rfl rfl (vt rfl)) fun g2 => Cv rfl (Zo 3 rfl rfl Z4c) fun g3 => Nl <| sq ?_
 obtain ⟨x4, hx4, h⟩ := Za h
 refine AR Zz (by kernel_rfl) <| SFd lwalk_way_0 Zte rfl <| Zu Zv 2 rfl <| SFd Zdm Zh9 rfl <| Zu Z5z 2 rfl <| SCl [6] (Zvr _ _ hx4) Zuj rfl <| Sd (lo [4, 7] [] rfl fun S hs hr => opb (⟨w1.cube, x4⟩ : Rule) Z4c rfl Zqo (pc Zq1 (vh hs 4 rfl rfl) <| pc Zpl (vh hs 7 rfl rfl) <| pn rfl)) <| SSt Z4n 3 rfl <| Sn <| rt ?_
 cases h; exact Zc Tryz.results138 rfl (Zx rfl (i := 3) rfl Z4n)
def Zku (sg : Type) (go1 : Nat → (Lp sg) → Option (Bool × Lp sg)) (i11 : Nat) (s22 : (Lp sg)) (o23 : Bool) : Option (Bool × Lp sg) :=
 (bif (!o23) then some (false, s22) else go1 (i11 + 1) s22)
def Z5t (sg : Type) (w5 : walk_way) (y1 : (sg → Rule → Option (Lp sg))) (a4 : Int) (s3 : Switch) (R_walk_search_table : ((Lp sg) → Switch → Int → walk_way → Option (Bool × Lp sg))) : (List Int) → Nat → (Lp sg) → Option (Bool × Lp sg)
 | [], i11, s10 => (Zfs w5).bind fun x13 => (yc y1 s10 x13).bind fun s14 => some ((Lp.isGo s14), s14)
 | x15 :: l12, i11, s10 => (chk 4 a4).bind fun j16 => (lget (Vector.get s3.Tables j16) x15).bind fun x17 => (Zil w5 x17).bind fun x19 => (bif (!x19.2) then (Z5t sg w5 y1 a4 s3 R_walk_search_table l12) (i11 + 1) s10 else (Ziq x19.1 a4 x17.Insts).bind fun x21 => (bif x21.2.2 then (R_walk_search_table s10 s3 x21.2.1 x21.1).bind fun b24 => Zku sg (Z5t sg w5 y1 a4 s3 R_walk_search_table l12) i11 b24.2 b24.1 else (Zfs x21.1).bind fun x25 => (yc y1 s10 x25).bind fun s26 => Zku sg (Z5t sg w5 y1 a4 s3 R_walk_search_table l12) i11 s26 (Lp.isGo s26)))
def Zki (sg : Type) (y1 : (sg → Rule → Option (Lp sg))) (R_walk_search_table : ((Lp sg) → Switch → Int → walk_way → Option (Bool × Lp sg))) (s2 : (Lp sg)) (s3 : Switch) (a4 : Int) (w5 : walk_way) : Option (Bool × Lp sg) :=
 (chk 4 a4).bind fun j7 => (Zh6 (Vector.get s3.Tables j7)).bind fun x8 => Z5t sg w5 y1 a4 s3 R_walk_search_table x8 0 s2
theorem Y93 (sg : Type) (y1 : (sg → Rule → Option (Lp sg))) (L : Lp sg → Res) (R_walk_search_table : ((Lp sg) → Switch → Int → walk_way → Option (Bool × Lp sg))) (hR_walk_search_table : ∀ (s2 : (Lp sg)) (s3 : Switch) (a4 : Int) (w5 : walk_way) (r : (Bool × Lp sg)), R_walk_search_table s2 s3 a4 w5 = some r → Con Tryz.prog 76 [rp (ksp Z0p (ydA Tryz.prog Zy y1 L)) s3, rd (Z0 .i64) a4, rd Z1l w5] (L s2) (fun _ : Unit => rd Z7 r.1) (fun _ => L r.2)) (s2 : (Lp sg)) (s3 : Switch) (a4 : Int) (w5 : walk_way) (r : (Bool × Lp sg)) (h : Zki sg y1 R_walk_search_table s2 s3 a4 w5 = some r) : Con Tryz.prog 76 [rp (ksp Z0p (ydA Tryz.prog Zy y1 L)) s3, rd (Z0 .i64) a4, rd Z1l w5] (L s2) (fun _ : Unit => rd Z7 r.1) (fun _ => L r.2) := by
 refine Con.intro Tryz.func76 rfl Tryz.ntmps76 rfl fun w H X => ?_
 unfold Zki at h
 refine SR <| Cv rfl (Zn 6 rfl rfl (vt rfl)) fun g6 => Ab rfl <| Nl <| AW.scope <| sq <| AW.label <| sq <| sq ?_
 obtain ⟨j7, hj7, x8, hx8, h⟩ := bs2 h
 refine Rg <| Mr rfl <| Md rfl <| Ac (Zp9 rfl rfl (vt rfl)) rfl <| Ac (Z27 (Zss Z0p (ydA Tryz.prog Zy y1 L)) rfl rfl (Zza _) (vt rfl)) rfl <| Fp Z9a Zbc rfl <| Ac (Z6b rfl rfl Zco (vt rfl) (vt rfl) hj7) rfl <| Lp1 Z5n rfl <| Cl [20] (Ycm _ _ hx8) Yie rfl <| Ac (Z09 rfl rfl Z0x (vt rfl)) rfl <| Mk rfl <| Nl <| bk <| LG (d := []) (ν := (List Int) × Nat × (Lp sg)) (fun (l12, i11, s10) => (Sfx x8 i11 l12 ∧ Z5t sg w5 y1 a4 s3 R_walk_search_table l12 i11 s10 = some r, l12.length, [(0, rp (ksp Z0p (ydA Tryz.prog Zy y1 L)) s3), (1, rd (Z0 .i64) a4), (5, Ze g6 (Lens.id Z1l)), (21, rd (Z3 (Z0 .i64)) x8), (22, rd (Z0 .i64) (x8.length : Int)), (23, rd (Z0 .i64) (i11 : Int))], [(0, L s10), (6, Zf g6 135 Z1l w5)])) (x8, 0, s2) ⟨Sfx.start _, h⟩ (FX rfl) ?_
 rintro ⟨l12, i11, s10⟩ ⟨hsf1, h⟩
 dsimp only at hsf1 h ⊢
 cases l12 with
 | nil =>
  unfold Z5t at h
  refine SR <| Ac (Zl rfl rfl (vt rfl) (vt rfl)) rfl <| Nl <| sq <| Cn rfl (fun hc => absurd (of_decide_eq_true hc) hsf1.nil) (fun hc => ?_)
  refine xt <| sq ?_
  obtain ⟨x13, hx13, s14, hs14, h⟩ := bs2 h
  refine AR Zz (by kernel_rfl) <| Sd (lo [0] [] rfl fun S hs hr => Zk (A := rp (ksp Z0p (ydA Tryz.prog Zy y1 L)) s3) rfl rfl (vh hs 0 rfl rfl)) <| Sd (lo [69] [] rfl fun S hs hr => Zp9 rfl rfl (vh hs 69 rfl rfl)) <| Sd (lo [70] [] rfl fun S hs hr => Z27 (Zrr Z0p (ydA Tryz.prog Zy y1 L)) rfl rfl (Zzj _) (vh hs 70 rfl rfl)) <| Sd (lo [71] [] rfl fun S hs hr => Zyg (A := ydA Tryz.prog Zy y1 L) rfl rfl rfl (Zvc _) (vh hs 71 rfl rfl)) <| Zu Z31 6 rfl <| SCl [73] (Zys _ _ hx13) Y2b rfl <| Sd (Z11 (us := [(75, rd Z7 (Lp.isGo s14))]) (ur := [(0, L s14)]) [72, 74] [0] rfl fun S hs hr => Zmt 0 hs14 rfl rfl (vh hs 72 rfl rfl) (vh hs 74 rfl rfl) ((hr 0 rfl).trans rfl)) <| SAs rfl <| Sn <| rt ?_
  cases h; exact Zmi (i := 0) Tryz.results76 rfl (Z4 rfl) rfl
 | cons x15 l12 =>
  unfold Z5t at h
  refine SR <| Ac (Zl rfl rfl (vt rfl) (vt rfl)) rfl <| Nl <| sq <| Cn rfl (fun hc => ?_) (fun hc => absurd hsf1.cons (of_decide_eq_false hc))
  have hlti11 := of_decide_eq_true hc
  refine sk <| sq <| bk <| SR <| Ac (Z03 rfl rfl Z0x (vt rfl) (vt rfl) hsf1.lget) rfl <| Lp1 Zq rfl <| As rfl <| Nl <| sq ?_
  obtain ⟨j16, hj16, x17, hx17, h⟩ := bs2 h
  refine Rg <| Mr rfl <| Md rfl <| Ac (Zp9 rfl rfl (vt rfl)) rfl <| Ac (Z27 (Zss Z0p (ydA Tryz.prog Zy y1 L)) rfl rfl (Zza _) (vt rfl)) rfl <| Fp Z9a Zbc rfl <| Ac (Z6b rfl rfl Zco (vt rfl) (vt rfl) hj16) rfl <| Lp1 Z5n rfl <| Md rfl <| Ac (Z03 rfl rfl Z4r (vt rfl) (vt rfl) hx17) rfl <| Lp1 Z71 rfl <| Cv rfl (Zo 10 rfl rfl Zce) fun g18 => Zd Z71 10 rfl <| Nl <| sq ?_
  obtain ⟨x19, hx19, h⟩ := Za h
  refine Rg <| Ld Z31 6 rfl <| Ld Z71 10 rfl <| Cl [38, 39] (Yft _ _ _ hx19) Ya7 rfl <| Mt2 rfl <| Ac (Z1j rfl rfl (vt rfl)) rfl <| Ac (Z1i rfl rfl (vt rfl)) rfl <| Cv rfl (Zo 11 rfl rfl Zey) fun g20 => Zd Z31 11 rfl <| As rfl <| Nl <| sq <| SR <| Md rfl <| Ac (Z0s rfl rfl (vt rfl)) rfl <| Nl <| Cq rfl h (fun h => ?_) (fun h => ?_)
  ·refine xt <| Rg <| Ac (Z21 (t := 22) rfl rfl (vt rfl) (vk rfl) (vt rfl) hlti11) rfl <| Md rfl <| Nl ?_
   exact ⟨(_, _, _), Nat.lt_succ_self _, ⟨hsf1.next, h⟩, FX rfl⟩
  ·refine sk <| sq ?_
   obtain ⟨x21, hx21, h⟩ := Za h
   refine Rg <| Ld Z31 11 rfl <| Md rfl <| Zt lFlow_6 Zcn rfl <| Ld Zde 10 rfl <| Cl [46, 47, 49] (Y6t _ _ _ _ hx21) Y6y rfl <| Ac (Zk (A := Z2k (rd Z1l x21.1) (rd (Z0 .i64) x21.2.1) (rd Z7 x21.2.2)) rfl rfl (vt rfl)) rfl <| Ac (Zcq rfl rfl (vt rfl)) rfl <| Ac (Zcj rfl rfl (vt rfl)) rfl <| Ac (Zbb rfl rfl (vt rfl)) rfl <| Zd Z31 11 rfl <| As rfl <| As rfl <| Nl ?_
   refine JN (d := []) (ν := (Lp sg) × Bool) (fun (s22, o23) => (Zku sg (Z5t sg w5 y1 a4 s3 R_walk_search_table l12) i11 s22 o23 = some r, [(0, rp (ksp Z0p (ydA Tryz.prog Zy y1 L)) s3), (1, rd (Z0 .i64) a4), (5, Ze g6 (Lens.id Z1l)), (11, rd Z7 o23), (21, rd (Z3 (Z0 .i64)) x8), (22, rd (Z0 .i64) (x8.length : Int)), (23, rd (Z0 .i64) (i11 : Int))], [(0, L s22), (6, Zf g6 135 Z1l w5)])) ?hx2 ?hy2
   case hy2 =>
    rintro ⟨s22, o23⟩ h
    dsimp only at h ⊢
    unfold Zku at h
    refine SR <| Md rfl <| Ac (Z0s rfl rfl (vt rfl)) rfl <| Nl <| Cq rfl h (fun h => ?_) (fun h => ?_)
    ·refine SR <| Ab rfl <| Nl <| rt ?_
     cases h; exact Zmi (i := 0) Tryz.results76 rfl (Z4 rfl) rfl
    ·refine sk <| Rg <| Ac (Z21 (t := 22) rfl rfl (vt rfl) (vk rfl) (vt rfl) hlti11) rfl <| Md rfl <| Nl ?_
     exact ⟨(_, _, _), Nat.lt_succ_self _, ⟨hsf1.next, h⟩, FX rfl⟩
   case hx2 =>
    refine SR <| Md rfl <| Nl <| Cq rfl h (fun h => ?_) (fun h => ?_)
    ·obtain ⟨b24, hb24, h⟩ := Za h
     refine Rg <| Mr rfl <| Md rfl <| Ld Z31 11 rfl <| Cv rfl (Z1o 0 (xs := [.tmp 55, .tmp 56, .tmp 57]) (hR_walk_search_table _ _ _ _ _ hb24) e76 rfl rfl ⟨vt rfl, vt rfl, vt rfl, trivial⟩ rfl) fun _u => As rfl <| Nl ?_
     exact ⟨(_, _), h, FX rfl⟩
    ·obtain ⟨x25, hx25, s26, hs26, h⟩ := bs2 h
     refine AR Zz (by kernel_rfl) <| Sd (lo [0] [] rfl fun S hs hr => Zk (A := rp (ksp Z0p (ydA Tryz.prog Zy y1 L)) s3) rfl rfl (vh hs 0 rfl rfl)) <| Sd (lo [59] [] rfl fun S hs hr => Zp9 rfl rfl (vh hs 59 rfl rfl)) <| Sd (lo [60] [] rfl fun S hs hr => Z27 (Zrr Z0p (ydA Tryz.prog Zy y1 L)) rfl rfl (Zzj _) (vh hs 60 rfl rfl)) <| Sd (lo [61] [] rfl fun S hs hr => Zyg (A := ydA Tryz.prog Zy y1 L) rfl rfl rfl (Zvc _) (vh hs 61 rfl rfl)) <| Zu Z31 11 rfl <| SCl [63] (Zys _ _ hx25) Y2b rfl <| Sd (Z11 (us := [(65, rd Z7 (Lp.isGo s26))]) (ur := [(0, L s26)]) [62, 64] [0] rfl fun S hs hr => Zmt 0 hs26 rfl rfl (vh hs 62 rfl rfl) (vh hs 64 rfl rfl) ((hr 0 rfl).trans rfl)) <| SAs rfl <| Sn ?_
     exact ⟨(_, _), h, FX rfl⟩
def Zbi (sg : Type) (y1 : (sg → Rule → Option (Lp sg))) : Nat → ((Lp sg) → Switch → Int → walk_way → Option (Bool × Lp sg))
 | 0 => (fun _ _ _ _ => none)
 | n + 1 => Zki sg y1 (Zbi sg y1 n)
theorem Ztw (sg : Type) (y1 : (sg → Rule → Option (Lp sg))) (L : Lp sg → Res) : ∀ n : Nat, (∀ (s2 : (Lp sg)) (s3 : Switch) (a4 : Int) (w5 : walk_way) (r : (Bool × Lp sg)), (Zbi sg y1 n) s2 s3 a4 w5 = some r → Con Tryz.prog 76 [rp (ksp Z0p (ydA Tryz.prog Zy y1 L)) s3, rd (Z0 .i64) a4, rd Z1l w5] (L s2) (fun _ : Unit => rd Z7 r.1) (fun _ => L r.2))
 | 0 => (by intros; rename_i h; cases h)
 | n + 1 => Y93 sg y1 L (Zbi sg y1 n) (Ztw sg y1 L n)
def Zt7 (sg : Type) (y1 : (sg → Rule → Option (Lp sg))) (s2 : (Lp sg)) (s3 : Switch) (a4 : Int) (w5 : walk_way) : Option (Bool × Lp sg) := Zbi sg y1 Z0w s2 s3 a4 w5
theorem Ydn (sg : Type) (y1 : (sg → Rule → Option (Lp sg))) (L : Lp sg → Res) : ∀ (s2 : (Lp sg)) (s3 : Switch) (a4 : Int) (w5 : walk_way) (r : (Bool × Lp sg)), (Zt7 sg y1) s2 s3 a4 w5 = some r → Con Tryz.prog 76 [rp (ksp Z0p (ydA Tryz.prog Zy y1 L)) s3, rd (Z0 .i64) a4, rd Z1l w5] (L s2) (fun _ : Unit => rd Z7 r.1) (fun _ => L r.2) := Ztw sg y1 L Z0w
def Zav (sg : Type) (y1 : (sg → Rule → Option (Lp sg))) (s2 : (Lp sg)) (x3 : Switch) : Option (Lp sg) :=
 (Ze0).bind fun x5 => (Zgm).bind fun x6 => (Zt7 sg y1 s2 x3 0 (⟨x5, x6, [], []⟩ : walk_way)).bind fun b7 => some b7.2
theorem Yhn (sg : Type) (y1 : (sg → Rule → Option (Lp sg))) (L : Lp sg → Res) (s2 : (Lp sg)) (x3 : Switch) (r : (Lp sg)) (h : Zav sg y1 s2 x3 = some r) : Con Tryz.prog 75 [ydA Tryz.prog Zy y1 L, rp Z0p x3] (L s2) (fun _ : Unit => top) (fun _ => L r) := by
 refine Con.intro Tryz.func75 rfl Tryz.ntmps75 rfl fun w H X => ?_
 unfold Zav at h
 refine SR <| Lp1 Z3e rfl <| Ac (Zk (A := ydA Tryz.prog Zy y1 L) rfl rfl (vt rfl)) rfl <| Ac (Ydd (x := x3) rfl rfl (by kernel_rfl) Y3a (by kernel_rfl) (by kernel_rfl) (vt rfl) rfl) rfl <| Ac (Y8y rfl rfl (vt rfl)) rfl <| Ac (Z04 (A := rp (ksp Z0p (ydA Tryz.prog Zy y1 L)) x3) rfl rfl (vt rfl)) rfl <| Nl ?_
 obtain ⟨x5, hx5, x6, hx6, b7, hb7, h⟩ := bs3 h
 refine Rg <| Mr rfl <| Cl [] (Zzo _ hx5) e73 rfl <| Cl [] (Ztt _ hx6) e77 rfl <| Ac (opb (⟨x5, x6, [], []⟩ : walk_way) Zey rfl Zwi (pc Y4y (vt rfl) <| pc Yj9 (vt rfl) <| pn rfl)) rfl <| Cv rfl (Z1o 0 (xs := [.tmp 8, .const (Value.int IntKind.i64 0), .tmp 11]) (Ydn sg y1 L _ _ _ _ _ hb7) e76 rfl rfl ⟨vt rfl, vk rfl, vt rfl, trivial⟩ rfl) fun _u => Nl ?_
 cases h; exact Z2q (i := 0) Tryz.results75 rfl rfl
def Zm7 (s1 : Switch) : Option (Itr Rule) :=
 some (Itr.mk fun σ y s => Zav σ y s s1)
theorem Y46 : Q1 Tryz.prog 22 (rd Z0p) (Z5m Tryz.prog Zy) Zm7 := fun s1 r h => I0 Tryz.func22 rfl Tryz.ntmps22 rfl fun w H => by
 unfold Zm7 at h
 refine SR <| Cv rfl (Zn 2 rfl rfl (vt rfl)) fun g2 => Ac (Z04 (A := Zj .nilFunc) rfl rfl vc) rfl <| Nl <| sq <| AW.freezeB 1 2 rfl rfl rfl <| Rg <| Ac (Zye (Itr.mk fun σ y s => Zav σ y s s1) (cs := [.tmp 1]) (CAs := [rp Z0p s1]) rfl rfl e75 ⟨vt rfl, trivial⟩ (fun σ y L s r h => Yhn σ y L s s1 r h)) rfl <| Ac (Z04 (A := Z5m Tryz.prog Zy (Itr.mk fun σ y s => Zav σ y s s1)) rfl rfl (vt rfl)) rfl <| Nl <| rt ?_
 cases h; exact Zc Tryz.results22 rfl (Z4 rfl)
def Zly (q : Itr Rule) : Option (List Rule) := Znn q
theorem Y6r (q : Itr Rule) (r : List Rule) (h : Zly q = some r) : Con Tryz.prog 146 [Zj (.slice none 0 0), Z5m Tryz.prog Zy q] emp (fun v => Zj v) (fun v => Zh v 90 Zy r) := by
 refine Con.intro0 Tryz.func146 rfl Tryz.ntmps146 rfl fun w H => ?_
 have h := Yet h
 refine AW.newnil 1001 90 Zy <| SR <| Cv rfl (Zn (k := kraw) 3 rfl rfl (vkr (vt rfl) rfl)) fun g => Ac (Z04 (A := Zj (.slice none 0 0)) rfl rfl vc) rfl <| AOps.pack 3 1001 (by decide) rfl rfl <| Nl <| sq <| SR <| Ac (Zk (A := Z5m Tryz.prog Zy q) rfl rfl (vt rfl)) rfl <| Nl <| bk <| AW.fit (d := []) (L := [(2, Ze g (Lens.id kraw)), (6, Z5m Tryz.prog Zy q)]) (M := [(3, Z8d g 32 90 Zy [])]) ⟨rfl, ⟨rfl, rfl, trivial⟩, ⟨rfl, trivial⟩⟩ ?_
 refine AW.rangeFunc (fun x => [rd Zy x]) Zh2 (fun s => Z3u [(3, Z8d g 32 90 Zy s)]) (fun _ _ => Z3u []) [(2, Ze g (Lens.id kraw))]
  (fun s x S1 => ∃ g5, Fit S1 [] [(2, Ze g (Lens.id kraw)), (5, Ze g5 (Lens.id Zy))] [(3, Z8d g 32 90 Zy s), (6, Zf g5 90 Zy x)]) 1003 (s0 := []) (sE := .go r)
  rfl (vt rfl) ⟨rfl, inferInstance, trivial⟩ rfl (fun _ => rfl) (by intro p hp; have hp : p ∈ [7] := hp; rw [List.mem_singleton.1 hp]; show 7 < 13; decide) ?ha ?hb (fun Lf => ⟨top, _, _, Lf, _, _, h, rfl, rfl, rfl, rfl⟩) ?he
 case ha =>
  intro s x r' hF l w H X
  refine Rg <| Cv rfl (Zo 6 rfl rfl Z4c) fun g5 => Zd Z4n 6 rfl <| Nl ?_
  exact ⟨rfl, g5, rfl, ⟨rfl, rfl, trivial⟩, ⟨rfl, rfl, trivial⟩⟩
 case hb =>
  rintro s x r' hF S1 ⟨g5, hfit⟩ l w H X
  refine AW.fit hfit <| AW.bodyOf (M := fun s => [(3, Z8d g 32 90 Zy s)]) (Mx := fun _ _ => []) ?_
  obtain ⟨m, hm, hF⟩ := Za hF
  cases hF
  refine bk <| AW.unbox 3 1001 (by decide) rfl rfl fun v => Rg <| Ac (Y19 (i := 3) rfl rfl Ztd (vt rfl) rfl) rfl <| Ld Z4n 6 rfl <| Ac (Zp0 (ps := [(0, .tmp 9)]) (l := [x]) rfl rfl Z1m Z4c rfl rfl ⟨_, _, Lens.idx 1 Zy 0 (by decide), _, rfl, vt rfl, rfl⟩ rfl) rfl <| Cv rfl (Z29 1001 hm rfl rfl Zeb (vt rfl) rfl (vt rfl)) fun v2 => Ac (Zbz rfl rfl Ztd (vt rfl) (i := 3) rfl (Yi3 (i := 1001) rfl rfl)) rfl <| AOps.pack 3 1001 (by decide) rfl rfl <| Nl ?_
  exact ⟨_, rfl, rfl, trivial⟩
 case he =>
  intro D
  refine AW.unbox 3 1001 (by decide) rfl rfl fun v => SR <| Ac (Y19 (i := 3) rfl rfl Ztd (vt rfl) rfl) rfl <| Aw rfl <| Nl <| rt ?_
  exact ⟨rfl, 1003, _, rfl, Z50 (i := 1001) Tryz.results146 rfl rfl rfl⟩
theorem Y4f (q : Itr Rule) (r : List Rule) (h : Zly q = some r) : PCon Tryz.prog 146 [Zj (.slice none 0 0), Z5m Tryz.prog Zy q] (rd (Z3 Zy) r) := PCon.of_row (Y6r q r h)
def Zpb (s1 : (Itr Rule)) : Option (List Rule) :=
 (Zly s1).bind fun x2 => some x2
theorem Y75 : Q1 Tryz.prog 85 (Z5m Tryz.prog Zy) (rd (Z3 Zy)) Zpb := fun s1 r h => I0 Tryz.func85 rfl Tryz.ntmps85 rfl fun w H => by
 unfold Zpb at h
 refine SR <| Ac (Z04 (A := rd (Z3 Zy) []) rfl rfl Z26) rfl <| Nl <| sq ?_
 obtain ⟨x2, hx2, h⟩ := Za h
 refine Rg <| Ac (Zk (A := Z5m Tryz.prog Zy s1) rfl rfl (vt rfl)) rfl <| Ac (Z0b (xs := [.const (Value.slice none 0 0), .tmp 3]) (Y4f _ _ hx2) Yde rfl rfl ⟨vc, vt rfl, trivial⟩) rfl <| As rfl <| Nl <| rt ?_
 cases h; exact Zc Tryz.results85 rfl (Z4 rfl)
def Zch (s1 : Switch) : Option (List Rule) :=
 (Zm7 s1).bind fun x3 => (Zpb x3).bind fun x4 => some x4
theorem Zxz : Q1 Tryz.prog 25 (rd Z0p) (rd (Z3 Zy)) Zch := fun s1 r h => I0 Tryz.func25 rfl Tryz.ntmps25 rfl fun w H => by
 unfold Zch at h
 refine SR <| Cv rfl (Zn 2 rfl rfl (vt rfl)) fun g2 => Ac (Z04 (A := rd (Z3 Zy) []) rfl rfl Z26) rfl <| Nl <| sq ?_
 obtain ⟨x3, hx3, x4, hx4, h⟩ := bs2 h
 refine Rg <| Ld Z3e 2 rfl <| Cl [3] (Y46 _ _ hx3) e22 rfl <| Cl [4] (Y75 _ _ hx4) e85 rfl <| As rfl <| Nl <| rt ?_
 cases h; exact Zc Tryz.results25 rfl (Z4 rfl)
end Go.Proofs.YtknpgojdkobgjaaGreat.W
set_option maxRecDepth 4000
namespace Go.Proofs.YtknpgojdkobgjaaGreat.W
open Go Go.Wb
theorem e25 : Ent Tryz.prog 25 := Ent.mk Tryz.func25 rfl rfl
theorem Y3h : Ent Tryz.prog 198 := Ent.mk Tryz.func198 rfl rfl
theorem Zzp : Ent Tryz.prog 165 := Ent.mk Tryz.func165 rfl rfl
theorem Y3l : Ent Tryz.prog 256 := Ent.mk Tryz.func256 rfl rfl
theorem Yib : Ent Tryz.prog 257 := Ent.mk Tryz.func257 rfl rfl
theorem Yjd : Ent Tryz.prog 199 := Ent.mk Tryz.func199 rfl rfl
def Zcu (s1 : (List Flow)) (x2 : (Flow → Option Bool)) : Nat → Nat → Option Int
 | 0, i3 => some (-1)
 | m4 + 1, i3 => (lget s1 (i3 : Int)).bind fun x5 => (x2 x5).bind fun x6 => (bif x6 then some (i3 : Int) else (Zcu s1 x2 m4) (i3 + 1))
def Zii (s1 : (List Flow)) (x2 : (Flow → Option Bool)) : Option Int :=
 Zcu s1 x2 ((s1.length : Int) : Int).toNat 0
theorem Yhs : Q2 Tryz.prog 198 (rd (Z3 Z0k)) (fn1 Tryz.prog Z0k Z7) (rd (Z0 .i64)) Zii := fun s1 x2 r h => I0 Tryz.func198 rfl Tryz.ntmps198 rfl fun w H => by
 unfold Zii at h
 refine SR <| Ak rfl <| Nl <| sq <| SR <| Md rfl <| Ac (Z09 rfl rfl Z4r (vt rfl)) rfl <| Mk rfl <| Nl <| bk <| LG (d := []) (ν := Nat × Nat) (fun (m4, i3) => (Cnt (s1.length : Int) i3 m4 ∧ Zcu s1 x2 m4 i3 = some r, m4, [(0, rd (Z3 Z0k) s1), (1, fn1 Tryz.prog Z0k Z7 x2), (7, rd (Z0 .i64) (s1.length : Int)), (8, rd (Z0 .i64) (i3 : Int))], [])) (((s1.length : Int) : Int).toNat, 0) ⟨Cnt.start _, h⟩ (FX rfl) ?_
 rintro ⟨m4, i3⟩ ⟨hsf1, h⟩
 dsimp only at hsf1 h ⊢
 cases m4 with
 | zero =>
  unfold Zcu at h
  refine SR <| Ac (Zl rfl rfl (vt rfl) (vt rfl)) rfl <| Nl <| sq <| Cn rfl (fun hc => absurd (of_decide_eq_true hc) hsf1.zero) (fun hc => ?_)
  refine xt <| SR <| Ak rfl <| Nl <| rt ?_
  cases h; exact Zc Tryz.results198 rfl (Z4 rfl)
 | succ m4 =>
  unfold Zcu at h
  refine SR <| Ac (Zl rfl rfl (vt rfl) (vt rfl)) rfl <| Nl <| sq <| Cn rfl (fun hc => ?_) (fun hc => absurd hsf1.succ (of_decide_eq_false hc))
  have hlti3 := of_decide_eq_true hc
  refine sk <| sq <| bk <| SR <| Md rfl <| As rfl <| Nl <| sq ?_
  obtain ⟨x5, hx5, x6, hx6, h⟩ := bs2 h
  refine Rg <| Ac (Zk (A := fn1 Tryz.prog Z0k Z7 x2) rfl rfl (vt rfl)) rfl <| Md rfl <| Md rfl <| Ac (Z03 rfl rfl Z4r (vt rfl) (vt rfl) hx5) rfl <| Lp1 Z71 rfl <| Ac (Za0 hx6 rfl rfl (vt rfl) (vt rfl)) rfl <| Nl <| Cq rfl h (fun h => ?_) (fun h => ?_)
  ·refine SR <| Md rfl <| As rfl <| Nl <| rt ?_
   cases h; exact Zc Tryz.results198 rfl (Z4 rfl)
  ·refine sk <| Rg <| Ac (Z21 (t := 7) rfl rfl (vt rfl) (vk rfl) (vt rfl) hlti3) rfl <| Md rfl <| Nl ?_
   exact ⟨(_, _), Nat.lt_succ_self _, ⟨hsf1.next, h⟩, FX rfl⟩
def Zhx (s1 : (List Flow)) (x2 : (Flow → Option Bool)) : Option Bool :=
 (Zii s1 x2).bind fun x3 => some (decide (x3 ≥ 0))
theorem Yaa : Q2 Tryz.prog 132 (rd (Z3 Z0k)) (fn1 Tryz.prog Z0k Z7) (rd Z7) Zhx := fun s1 x2 r h => I0 Tryz.func132 rfl Tryz.ntmps132 rfl fun w H => by
 unfold Zhx at h
 refine SR <| Ab rfl <| Nl <| sq ?_
 obtain ⟨x3, hx3, h⟩ := Za h
 refine Rg <| Md rfl <| Ac (Zk (A := fn1 Tryz.prog Z0k Z7 x2) rfl rfl (vt rfl)) rfl <| Cl [5, 6] (Yhs _ _ _ hx3) Y3h rfl <| Ac (Z57 rfl rfl (vt rfl) (vk rfl)) rfl <| As rfl <| Nl <| rt ?_
 cases h; exact Zc Tryz.results132 rfl (Z4 rfl)
def Zjm (s1 : (List Inst)) (x2 : (Inst → Option Bool)) : Option Bool :=
 (Zdh s1 x2).bind fun x3 => some (decide (x3 ≥ 0))
theorem Yjc : Q2 Tryz.prog 256 (rd (Z3 Z1a)) (fn1 Tryz.prog Z1a Z7) (rd Z7) Zjm := fun s1 x2 r h => I0 Tryz.func256 rfl Tryz.ntmps256 rfl fun w H => by
 unfold Zjm at h
 refine SR <| Ab rfl <| Nl <| sq ?_
 obtain ⟨x3, hx3, h⟩ := Za h
 refine Rg <| Md rfl <| Ac (Zk (A := fn1 Tryz.prog Z1a Z7 x2) rfl rfl (vt rfl)) rfl <| Cl [5, 6] (Y0o _ _ _ hx3) Zui rfl <| Ac (Z57 rfl rfl (vt rfl) (vk rfl)) rfl <| As rfl <| Nl <| rt ?_
 cases h; exact Zc Tryz.results256 rfl (Z4 rfl)
def Zo9 (l1 : (List Action)) : Option Bool :=
 some (decide ((l1.length : Int) ≤ 12))
theorem Zu0 : Q1 Tryz.prog 165 (rd (Z3 Z8)) (rd Z7) Zo9 := fun l1 r h => I0 Tryz.func165 rfl Tryz.ntmps165 rfl fun w H => by
 unfold Zo9 at h
 refine SR <| Ab rfl <| Nl <| SR <| Md rfl <| Ac (Z09 rfl rfl Z08 (vt rfl)) rfl <| Ac (Z64 rfl rfl (vt rfl) (vk rfl)) rfl <| As rfl <| Nl <| rt ?_
 cases h; exact Zc Tryz.results165 rfl (Z4 rfl)
def Zp8 (i1 : Inst) : Option Bool :=
 (Zo9 i1.Acts).bind fun x3 => some (!x3)
theorem Y3w : Q1 Tryz.prog 257 (rd Z1a) (rd Z7) Zp8 := fun i1 r h => I0 Tryz.func257 rfl Tryz.ntmps257 rfl fun w H => by
 unfold Zp8 at h
 refine SR <| Cv rfl (Zn 2 rfl rfl (vt rfl)) fun g2 => Ab rfl <| Nl <| sq ?_
 obtain ⟨x3, hx3, h⟩ := Za h
 refine Rg <| Zt lInst_4 Zcy rfl <| Ld Z42 2 rfl <| Cl [4] (Zu0 _ _ hx3) Zzp rfl <| Ac (Z0s rfl rfl (vt rfl)) rfl <| As rfl <| Nl <| rt ?_
 cases h; exact Zc Tryz.results257 rfl (Z4 rfl)
def Zj4 (l1 : (List Inst)) : Option Bool :=
 (opt (decide ((l1.length : Int) ≤ 8)) (Zjm l1 Zp8)).bind fun x2 => some ((decide ((l1.length : Int) ≤ 8)) && (!x2))
theorem Yhi : Q1 Tryz.prog 199 (rd (Z3 Z1a)) (rd Z7) Zj4 := fun l1 r h => I0 Tryz.func199 rfl Tryz.ntmps199 rfl fun w H => by
 unfold Zj4 at h
 refine SR <| Ab rfl <| Nl <| sq ?_
 obtain ⟨x2, hx2, h⟩ := Za h
 refine Rg <| Md rfl <| Ac (Z09 rfl rfl Z8n (vt rfl)) rfl <| Ac (Z64 rfl rfl (vt rfl) (vk rfl)) rfl <| Md rfl <| Gd rfl (fun hq => Zk (A := rd (Z3 Z1a) l1) rfl rfl (vt rfl)) <| Gd rfl (fun hq => Z0b (xs := [.tmp 7, .func 257]) (Yjc _ _ _ (Z16 hx2 hq)) Y3l rfl rfl ⟨Z6 rfl hq, vf1 Yib Y3w, trivial⟩) <| Gd rfl (fun hq => Z0s rfl rfl (Z6 rfl hq)) <| Ac (Z0o rfl rfl (vt rfl) (vt rfl)) rfl <| As rfl <| Nl <| rt ?_
 cases h; exact Zc Tryz.results199 rfl (Z4 rfl)
def Zid (x1 : Flow) : Option Bool :=
 (opt (decide ((x1.Match.length : Int) ≤ 30)) (Zj4 x1.Insts)).bind fun x3 => some ((decide ((x1.Match.length : Int) ≤ 30)) && x3)
theorem Ya9 : Q1 Tryz.prog 134 (rd Z0k) (rd Z7) Zid := fun x1 r h => I0 Tryz.func134 rfl Tryz.ntmps134 rfl fun w H => by
 unfold Zid at h
 refine SR <| Cv rfl (Zn 2 rfl rfl (vt rfl)) fun g2 => Ab rfl <| Nl <| sq ?_
 obtain ⟨x3, hx3, h⟩ := Za h
 refine Rg <| Zt Zml Zqn rfl <| Ld Zt6 2 rfl <| Ac (Z09 rfl rfl Zd8 (vt rfl)) rfl <| Ac (Z64 rfl rfl (vt rfl) (vk rfl)) rfl <| Md rfl <| Gd rfl (fun hq => Z0t lFlow_6 rfl rfl Zcn (vt rfl)) <| Gd rfl (fun hq => Z0g rfl rfl Zde (Z6 rfl hq) (i := 2) rfl) <| Gd rfl (fun hq => Z0b (xs := [.tmp 9]) (Yhi _ _ (Z16 hx3 hq)) Yjd rfl rfl ⟨Z6 rfl hq, trivial⟩) <| Ac (Z0o rfl rfl (vt rfl) (vt rfl)) rfl <| As rfl <| Nl <| rt ?_
 cases h; exact Zc Tryz.results134 rfl (Z4 rfl)
end Go.Proofs.YtknpgojdkobgjaaGreat.W
set_option maxRecDepth 4000
namespace Go.Proofs.YtknpgojdkobgjaaGreat.W
open Go Go.Wb
theorem Yag : Ent Tryz.prog 134 := Ent.mk Tryz.func134 rfl rfl
theorem Yik : Ent Tryz.prog 132 := Ent.mk Tryz.func132 rfl rfl
theorem Y2x : Ent Tryz.prog 133 := Ent.mk Tryz.func133 rfl rfl
theorem Y74 : Ent Tryz.prog 231 := Ent.mk Tryz.func231 rfl rfl
theorem Yi5 : Ent Tryz.prog 163 := Ent.mk Tryz.func163 rfl rfl
theorem Yco : Ent Tryz.prog 164 := Ent.mk Tryz.func164 rfl rfl
theorem Yiz : Ent Tryz.prog 100 := Ent.mk Tryz.func100 rfl rfl
theorem Y0y : Ent Tryz.prog 162 := Ent.mk Tryz.func162 rfl rfl
def Zjf (x1 : Flow) : Option Bool :=
 (Zid x1).bind fun x3 => some (!x3)
theorem Yeh : Q1 Tryz.prog 133 (rd Z0k) (rd Z7) Zjf := fun x1 r h => I0 Tryz.func133 rfl Tryz.ntmps133 rfl fun w H => by
 unfold Zjf at h
 refine SR <| Cv rfl (Zn 2 rfl rfl (vt rfl)) fun g2 => Ab rfl <| Nl <| sq ?_
 obtain ⟨x3, hx3, h⟩ := Za h
 refine Rg <| Ld Z71 2 rfl <| Cl [3] (Ya9 _ _ hx3) Yag rfl <| Ac (Z0s rfl rfl (vt rfl)) rfl <| As rfl <| Nl <| rt ?_
 cases h; exact Zc Tryz.results133 rfl (Z4 rfl)
def Zi7 (l1 : (List Flow)) (m2 : Int) : Option Bool :=
 (opt (decide ((l1.length : Int) ≤ m2)) (Zhx l1 Zjf)).bind fun x3 => some ((decide ((l1.length : Int) ≤ m2)) && (!x3))
theorem Yjq : Q2 Tryz.prog 74 (rd (Z3 Z0k)) (rd (Z0 .i64)) (rd Z7) Zi7 := fun l1 m2 r h => I0 Tryz.func74 rfl Tryz.ntmps74 rfl fun w H => by
 unfold Zi7 at h
 refine SR <| Ab rfl <| Nl <| sq ?_
 obtain ⟨x3, hx3, h⟩ := Za h
 refine Rg <| Md rfl <| Ac (Z09 rfl rfl Z4r (vt rfl)) rfl <| Md rfl <| Ac (Z64 rfl rfl (vt rfl) (vt rfl)) rfl <| Md rfl <| Gd rfl (fun hq => Zk (A := rd (Z3 Z0k) l1) rfl rfl (vt rfl)) <| Gd rfl (fun hq => Z0b (xs := [.tmp 10, .func 133]) (Yaa _ _ _ (Z16 hx3 hq)) Yik rfl rfl ⟨Z6 rfl hq, vf1 Y2x Yeh, trivial⟩) <| Gd rfl (fun hq => Z0s rfl rfl (Z6 rfl hq)) <| Ac (Z0o rfl rfl (vt rfl) (vt rfl)) rfl <| As rfl <| Nl <| rt ?_
 cases h; exact Zc Tryz.results74 rfl (Z4 rfl)
def Zcp (s1 : (List Bucket)) (x2 : (Bucket → Option Bool)) : Nat → Nat → Option Int
 | 0, i3 => some (-1)
 | m4 + 1, i3 => (lget s1 (i3 : Int)).bind fun x5 => (x2 x5).bind fun x6 => (bif x6 then some (i3 : Int) else (Zcp s1 x2 m4) (i3 + 1))
def Zgo (s1 : (List Bucket)) (x2 : (Bucket → Option Bool)) : Option Int :=
 Zcp s1 x2 ((s1.length : Int) : Int).toNat 0
theorem Yd9 : Q2 Tryz.prog 231 (rd (Z3 Z0l)) (fn1 Tryz.prog Z0l Z7) (rd (Z0 .i64)) Zgo := fun s1 x2 r h => I0 Tryz.func231 rfl Tryz.ntmps231 rfl fun w H => by
 unfold Zgo at h
 refine SR <| Ak rfl <| Nl <| sq <| SR <| Md rfl <| Ac (Z09 rfl rfl Z2s (vt rfl)) rfl <| Mk rfl <| Nl <| bk <| LG (d := []) (ν := Nat × Nat) (fun (m4, i3) => (Cnt (s1.length : Int) i3 m4 ∧ Zcp s1 x2 m4 i3 = some r, m4, [(0, rd (Z3 Z0l) s1), (1, fn1 Tryz.prog Z0l Z7 x2), (7, rd (Z0 .i64) (s1.length : Int)), (8, rd (Z0 .i64) (i3 : Int))], [])) (((s1.length : Int) : Int).toNat, 0) ⟨Cnt.start _, h⟩ (FX rfl) ?_
 rintro ⟨m4, i3⟩ ⟨hsf1, h⟩
 dsimp only at hsf1 h ⊢
 cases m4 with
 | zero =>
  unfold Zcp at h
  refine SR <| Ac (Zl rfl rfl (vt rfl) (vt rfl)) rfl <| Nl <| sq <| Cn rfl (fun hc => absurd (of_decide_eq_true hc) hsf1.zero) (fun hc => ?_)
  refine xt <| SR <| Ak rfl <| Nl <| rt ?_
  cases h; exact Zc Tryz.results231 rfl (Z4 rfl)
 | succ m4 =>
  unfold Zcp at h
  refine SR <| Ac (Zl rfl rfl (vt rfl) (vt rfl)) rfl <| Nl <| sq <| Cn rfl (fun hc => ?_) (fun hc => absurd hsf1.succ (of_decide_eq_false hc))
  have hlti3 := of_decide_eq_true hc
  refine sk <| sq <| bk <| SR <| Md rfl <| As rfl <| Nl <| sq ?_
  obtain ⟨x5, hx5, x6, hx6, h⟩ := bs2 h
  refine Rg <| Ac (Zk (A := fn1 Tryz.prog Z0l Z7 x2) rfl rfl (vt rfl)) rfl <| Md rfl <| Md rfl <| Ac (Z03 rfl rfl Z2s (vt rfl) (vt rfl) hx5) rfl <| Lp1 Zbw rfl <| Ac (Za0 hx6 rfl rfl (vt rfl) (vt rfl)) rfl <| Nl <| Cq rfl h (fun h => ?_) (fun h => ?_)
  ·refine SR <| Md rfl <| As rfl <| Nl <| rt ?_
   cases h; exact Zc Tryz.results231 rfl (Z4 rfl)
  ·refine sk <| Rg <| Ac (Z21 (t := 7) rfl rfl (vt rfl) (vk rfl) (vt rfl) hlti3) rfl <| Md rfl <| Nl ?_
   exact ⟨(_, _), Nat.lt_succ_self _, ⟨hsf1.next, h⟩, FX rfl⟩
def Zjz (s1 : (List Bucket)) (x2 : (Bucket → Option Bool)) : Option Bool :=
 (Zgo s1 x2).bind fun x3 => some (decide (x3 ≥ 0))
theorem Yel : Q2 Tryz.prog 163 (rd (Z3 Z0l)) (fn1 Tryz.prog Z0l Z7) (rd Z7) Zjz := fun s1 x2 r h => I0 Tryz.func163 rfl Tryz.ntmps163 rfl fun w H => by
 unfold Zjz at h
 refine SR <| Ab rfl <| Nl <| sq ?_
 obtain ⟨x3, hx3, h⟩ := Za h
 refine Rg <| Md rfl <| Ac (Zk (A := fn1 Tryz.prog Z0l Z7 x2) rfl rfl (vt rfl)) rfl <| Cl [5, 6] (Yd9 _ _ _ hx3) Y74 rfl <| Ac (Z57 rfl rfl (vt rfl) (vk rfl)) rfl <| As rfl <| Nl <| rt ?_
 cases h; exact Zc Tryz.results163 rfl (Z4 rfl)
def Zlw (x1 : Bucket) : Option Bool :=
 (Zo9 x1.Acts).bind fun x3 => some (!x3)
theorem Y5y : Q1 Tryz.prog 164 (rd Z0l) (rd Z7) Zlw := fun x1 r h => I0 Tryz.func164 rfl Tryz.ntmps164 rfl fun w H => by
 unfold Zlw at h
 refine SR <| Cv rfl (Zn 2 rfl rfl (vt rfl)) fun g2 => Ab rfl <| Nl <| sq ?_
 obtain ⟨x3, hx3, h⟩ := Za h
 refine Rg <| Zt Z9l Zbf rfl <| Ld Z42 2 rfl <| Cl [4] (Zu0 _ _ hx3) Zzp rfl <| Ac (Z0s rfl rfl (vt rfl)) rfl <| As rfl <| Nl <| rt ?_
 cases h; exact Zc Tryz.results164 rfl (Z4 rfl)
def Zj1 (l1 : (List Bucket)) (m2 : Int) : Option Bool :=
 (opt (decide ((l1.length : Int) ≤ m2)) (Zjz l1 Zlw)).bind fun x3 => some ((decide ((l1.length : Int) ≤ m2)) && (!x3))
theorem Y7u : Q2 Tryz.prog 100 (rd (Z3 Z0l)) (rd (Z0 .i64)) (rd Z7) Zj1 := fun l1 m2 r h => I0 Tryz.func100 rfl Tryz.ntmps100 rfl fun w H => by
 unfold Zj1 at h
 refine SR <| Ab rfl <| Nl <| sq ?_
 obtain ⟨x3, hx3, h⟩ := Za h
 refine Rg <| Md rfl <| Ac (Z09 rfl rfl Z2s (vt rfl)) rfl <| Md rfl <| Ac (Z64 rfl rfl (vt rfl) (vt rfl)) rfl <| Md rfl <| Gd rfl (fun hq => Zk (A := rd (Z3 Z0l) l1) rfl rfl (vt rfl)) <| Gd rfl (fun hq => Z0b (xs := [.tmp 10, .func 164]) (Yel _ _ _ (Z16 hx3 hq)) Yi5 rfl rfl ⟨Z6 rfl hq, vf1 Yco Y5y, trivial⟩) <| Gd rfl (fun hq => Z0s rfl rfl (Z6 rfl hq)) <| Ac (Z0o rfl rfl (vt rfl) (vt rfl)) rfl <| As rfl <| Nl <| rt ?_
 cases h; exact Zc Tryz.results100 rfl (Z4 rfl)
def Zgb (x1 : Group) (x2 : Int) : Option Bool :=
 (Zj1 x1.Buckets x2).bind fun x4 => some (!x4)
theorem Yc8 : Q2 Tryz.prog 99 (rd Z0d) (rp (Z0 .i64)) (rd Z7) Zgb := fun x1 x2 r h => I0 Tryz.func99 rfl Tryz.ntmps99 rfl fun w H => by
 unfold Zgb at h
 refine SR <| Cv rfl (Zn 3 rfl rfl (vt rfl)) fun g3 => Ab rfl <| Nl <| sq ?_
 obtain ⟨x4, hx4, h⟩ := Za h
 refine Rg <| Zt Zaq Zau rfl <| Ld Zc2 3 rfl <| Lp1 Zq rfl <| Cl [5, 6] (Y7u _ _ _ hx4) Yiz rfl <| Ac (Z0s rfl rfl (vt rfl)) rfl <| As rfl <| Nl <| rt ?_
 cases h; exact Zc Tryz.results99 rfl (Z4 rfl)
def Zb2 (s1 : (List Group)) (x2 : (Group → Option Bool)) : Nat → Nat → Option Int
 | 0, i3 => some (-1)
 | m4 + 1, i3 => (lget s1 (i3 : Int)).bind fun x5 => (x2 x5).bind fun x6 => (bif x6 then some (i3 : Int) else (Zb2 s1 x2 m4) (i3 + 1))
def Zge (s1 : (List Group)) (x2 : (Group → Option Bool)) : Option Int :=
 Zb2 s1 x2 ((s1.length : Int) : Int).toNat 0
theorem Zvs : Q2 Tryz.prog 162 (rd (Z3 Z0d)) (fn1 Tryz.prog Z0d Z7) (rd (Z0 .i64)) Zge := fun s1 x2 r h => I0 Tryz.func162 rfl Tryz.ntmps162 rfl fun w H => by
 unfold Zge at h
 refine SR <| Ak rfl <| Nl <| sq <| SR <| Md rfl <| Ac (Z09 rfl rfl Z2a (vt rfl)) rfl <| Mk rfl <| Nl <| bk <| LG (d := []) (ν := Nat × Nat) (fun (m4, i3) => (Cnt (s1.length : Int) i3 m4 ∧ Zb2 s1 x2 m4 i3 = some r, m4, [(0, rd (Z3 Z0d) s1), (1, fn1 Tryz.prog Z0d Z7 x2), (7, rd (Z0 .i64) (s1.length : Int)), (8, rd (Z0 .i64) (i3 : Int))], [])) (((s1.length : Int) : Int).toNat, 0) ⟨Cnt.start _, h⟩ (FX rfl) ?_
 rintro ⟨m4, i3⟩ ⟨hsf1, h⟩
 dsimp only at hsf1 h ⊢
 cases m4 with
 | zero =>
  unfold Zb2 at h
  refine SR <| Ac (Zl rfl rfl (vt rfl) (vt rfl)) rfl <| Nl <| sq <| Cn rfl (fun hc => absurd (of_decide_eq_true hc) hsf1.zero) (fun hc => ?_)
  refine xt <| SR <| Ak rfl <| Nl <| rt ?_
  cases h; exact Zc Tryz.results162 rfl (Z4 rfl)
 | succ m4 =>
  unfold Zb2 at h
  refine SR <| Ac (Zl rfl rfl (vt rfl) (vt rfl)) rfl <| Nl <| sq <| Cn rfl (fun hc => ?_) (fun hc => absurd hsf1.succ (of_decide_eq_false hc))
  have hlti3 := of_decide_eq_true hc
  refine sk <| sq <| bk <| SR <| Md rfl <| As rfl <| Nl <| sq ?_
  obtain ⟨x5, hx5, x6, hx6, h⟩ := bs2 h
  refine Rg <| Ac (Zk (A := fn1 Tryz.prog Z0d Z7 x2) rfl rfl (vt rfl)) rfl <| Md rfl <| Md rfl <| Ac (Z03 rfl rfl Z2a (vt rfl) (vt rfl) hx5) rfl <| Lp1 Z4p rfl <| Ac (Za0 hx6 rfl rfl (vt rfl) (vt rfl)) rfl <| Nl <| Cq rfl h (fun h => ?_) (fun h => ?_)
  ·refine SR <| Md rfl <| As rfl <| Nl <| rt ?_
   cases h; exact Zc Tryz.results162 rfl (Z4 rfl)
  ·refine sk <| Rg <| Ac (Z21 (t := 7) rfl rfl (vt rfl) (vk rfl) (vt rfl) hlti3) rfl <| Md rfl <| Nl ?_
   exact ⟨(_, _), Nat.lt_succ_self _, ⟨hsf1.next, h⟩, FX rfl⟩
def Zi5 (s1 : (List Group)) (x2 : (Group → Option Bool)) : Option Bool :=
 (Zge s1 x2).bind fun x3 => some (decide (x3 ≥ 0))
theorem Ya4 : Q2 Tryz.prog 98 (rd (Z3 Z0d)) (fn1 Tryz.prog Z0d Z7) (rd Z7) Zi5 := fun s1 x2 r h => I0 Tryz.func98 rfl Tryz.ntmps98 rfl fun w H => by
 unfold Zi5 at h
 refine SR <| Ab rfl <| Nl <| sq ?_
 obtain ⟨x3, hx3, h⟩ := Za h
 refine Rg <| Md rfl <| Ac (Zk (A := fn1 Tryz.prog Z0d Z7 x2) rfl rfl (vt rfl)) rfl <| Cl [5, 6] (Zvs _ _ _ hx3) Y0y rfl <| Ac (Z57 rfl rfl (vt rfl) (vk rfl)) rfl <| As rfl <| Nl <| rt ?_
 cases h; exact Zc Tryz.results98 rfl (Z4 rfl)
end Go.Proofs.YtknpgojdkobgjaaGreat.W
set_option maxRecDepth 4000
namespace Go.Proofs.YtknpgojdkobgjaaGreat.W
open Go Go.Wb
theorem e99 : Ent Tryz.prog 99 := Ent.mk Tryz.func99 rfl rfl
theorem e98 : Ent Tryz.prog 98 := Ent.mk Tryz.func98 rfl rfl
theorem e40 : Ent Tryz.prog 40 := Ent.mk Tryz.func40 rfl rfl
theorem e74 : Ent Tryz.prog 74 := Ent.mk Tryz.func74 rfl rfl
theorem Y5q : Ent Tryz.prog 342 := Ent.mk Tryz.func342 rfl rfl
theorem Ybw : Ent Tryz.prog 334 := Ent.mk Tryz.func334 rfl rfl
def Zk6 (l1 : (List Group)) (m2 : Int) (b3 : Int) : Option Bool :=
 (opt (decide ((l1.length : Int) ≤ m2)) (Zi5 l1 (fun x => Zgb x b3))).bind fun x5 => some ((decide ((l1.length : Int) ≤ m2)) && (!x5))
theorem Y3k : Q3 Tryz.prog 40 (rd (Z3 Z0d)) (rd (Z0 .i64)) (rd (Z0 .i64)) (rd Z7) Zk6 := fun l1 m2 b3 r h => I0 Tryz.func40 rfl Tryz.ntmps40 rfl fun w H => by
 unfold Zk6 at h
 refine SR <| Cv rfl (Zn 6 rfl rfl (vt rfl)) fun g4 => Ab rfl <| Nl <| sq <| AW.freezeB 5 6 rfl rfl rfl ?_
 obtain ⟨x5, hx5, h⟩ := Za h
 refine Rg <| Md rfl <| Ac (Z09 rfl rfl Z2a (vt rfl)) rfl <| Md rfl <| Ac (Z64 rfl rfl (vt rfl) (vt rfl)) rfl <| Md rfl <| Gd rfl (fun hq => Zk (A := rd (Z3 Z0d) l1) rfl rfl (vt rfl)) <| Gd rfl (fun hq => Zad (cs := [.tmp 5]) (CAs := [rp (Z0 .i64) b3]) (fun x => Zgb x b3) rfl rfl e99 ⟨vt rfl, trivial⟩ (fun x y h => Yc8 _ _ y h)) <| Gd rfl (fun hq => Z0b (xs := [.tmp 12, .tmp 13]) (Ya4 _ _ _ (Z16 hx5 hq)) e98 rfl rfl ⟨Z6 rfl hq, Z6 rfl hq, trivial⟩) <| Gd rfl (fun hq => Z0s rfl rfl (Z6 rfl hq)) <| Ac (Z0o rfl rfl (vt rfl) (vt rfl)) rfl <| As rfl <| Nl <| rt ?_
 cases h; exact Zc Tryz.results40 rfl (Z4 rfl)
def Z9x (s1 : Switch) (m2 : Int) : (List (List Flow)) → Nat → Option Bool
 | [], i4 => (Zk6 s1.Groups 9 3).bind fun x6 => some x6
 | x7 :: l5, i4 => (Zi7 x7 m2).bind fun x8 => (bif (!x8) then some false else (Z9x s1 m2 l5) (i4 + 1))
def Zle (s1 : Switch) (m2 : Int) : Option Bool :=
 Z9x s1 m2 (Vector.toList s1.Tables) 0
theorem Yeq : Q2 Tryz.prog 21 (rd Z0p) (rd (Z0 .i64)) (rd Z7) Zle := fun s1 m2 r h => I0 Tryz.func21 rfl Tryz.ntmps21 rfl fun w H => by
 unfold Zle at h
 refine SR <| Cv rfl (Zn 3 rfl rfl (vt rfl)) fun g3 => Ab rfl <| Nl <| sq <| SR <| Zt Z9a Zbc rfl <| Ld Yfa 3 rfl <| Mk rfl <| Nl <| bk <| LG (d := []) (ν := (List (List Flow)) × Nat) (fun (l5, i4) => (Sfx (Vector.toList s1.Tables) i4 l5 ∧ Z9x s1 m2 l5 i4 = some r, l5.length, [(1, rd (Z0 .i64) m2), (2, Ze g3 (Lens.id Z0p)), (8, rd (Z1 4 (Z3 Z0k)) s1.Tables), (9, rd (Z0 .i64) (i4 : Int))], [(3, Zf g3 26 Z0p s1)])) ((Vector.toList s1.Tables), 0) ⟨Sfx.start _, h⟩ (FX rfl) ?_
 rintro ⟨l5, i4⟩ ⟨hsf1, h⟩
 dsimp only at hsf1 h ⊢
 cases l5 with
 | nil =>
  unfold Z9x at h
  refine SR <| Ac (Zl rfl rfl (vt rfl) (vk rfl)) rfl <| Nl <| sq <| Cn rfl (fun hc => absurd (of_decide_eq_true hc) (hsf1.niln (by simp))) (fun hc => ?_)
  refine xt <| sq ?_
  obtain ⟨x6, hx6, h⟩ := Za h
  refine Rg <| Zt Zp1 Zrv rfl <| Ld Zcf 3 rfl <| Ac (Z0b (xs := [.tmp 18, .const (Value.int IntKind.i64 9), .const (Value.int IntKind.i64 3)]) (Y3k _ _ _ _ hx6) e40 rfl rfl ⟨vt rfl, vk rfl, vk rfl, trivial⟩) rfl <| As rfl <| Nl <| rt ?_
  cases h; exact Zc Tryz.results21 rfl (Z4 rfl)
 | cons x7 l5 =>
  unfold Z9x at h
  refine SR <| Ac (Zl rfl rfl (vt rfl) (vk rfl)) rfl <| Nl <| sq <| Cn rfl (fun hc => ?_) (fun hc => absurd (hsf1.consn (by simp)) (of_decide_eq_false hc))
  have hlti4 := of_decide_eq_true hc
  refine sk <| sq <| bk <| SR <| Ac (Zdd rfl rfl Zco Z5n (vt rfl) (vt rfl) hsf1.lget) rfl <| As rfl <| Nl <| sq ?_
  obtain ⟨x8, hx8, h⟩ := Za h
  refine Rg <| Md rfl <| Md rfl <| Cl [12, 13] (Yjq _ _ _ hx8) e74 rfl <| Ac (Z0s rfl rfl (vt rfl)) rfl <| Nl <| Cq rfl h (fun h => ?_) (fun h => ?_)
  ·refine SR <| Ab rfl <| Nl <| rt ?_
   cases h; exact Zc Tryz.results21 rfl (Z4 rfl)
  ·refine sk <| Rg <| Ac (Z70 rfl rfl (vt rfl) (vk rfl) rfl hlti4) rfl <| Md rfl <| Nl ?_
   exact ⟨(_, _), Nat.lt_succ_self _, ⟨hsf1.next, h⟩, FX rfl⟩
def Zov : Option Z5 :=
 some (Vector.replicate 24 zTern)
theorem Y95 : Q0 Tryz.prog 79 (rd (Z1 24 Z2)) Zov := fun r h => I0 Tryz.func79 rfl Tryz.ntmps79 rfl fun w H => by
 unfold Zov at h
 refine SR <| Cv rfl (Zo 1 rfl rfl Z0n) fun g1 => Nl <| SR <| Ac (Z13 (ps := []) (x := (Vector.replicate 24 zTern)) rfl rfl rfl (by kernel_rfl) Z0n rfl) rfl <| Zd Zv 1 rfl <| Nl <| rt ?_
 cases h; exact Zc Tryz.results79 rfl (Zx rfl (i := 1) rfl Zv)
def Z7r : Option Z5 :=
 some (Vector.replicate 24 zTern)
theorem Zkr : Q0 Tryz.prog 80 (rd (Z1 24 Z2)) Z7r := fun r h => I0 Tryz.func80 rfl Tryz.ntmps80 rfl fun w H => by
 unfold Z7r at h
 refine SR <| Cv rfl (Zo 1 rfl rfl Z30) fun g1 => Nl <| SR <| Ac (Z13 (ps := []) (x := (Vector.replicate 24 zTern)) rfl rfl rfl (by kernel_rfl) Z30 rfl) rfl <| Zd Z01 1 rfl <| Nl <| rt ?_
 cases h; exact Zc Tryz.results80 rfl (Zx rfl (i := 1) rfl Z01)
def Zb7 (a11 : Int) (go1 : (List Int) → Int → Option (List Int)) (i8 : Int) : Nat → (List Int) → Int → Option (List Int)
 | 0, _, _ => none
 | m22 + 1, l20, j21 => (bif (decide (j21 > a11)) then (lget l20 (IntKind.i64.wrap (j21 - 1))).bind fun x23 => (lget l20 j21).bind fun x24 => (Zb7 a11 go1 i8 m22) (List.set l20 j21.toNat x23) (IntKind.i64.wrap (j21 - 1)) else (lget l20 a11).bind fun x25 => go1 (List.set l20 a11.toNat i8) (IntKind.i64.wrap (i8 + 1)))
def Zcd (l6 : (List Int)) (t1 : (List Flow)) (i8 : Int) (go1 : (List Int) → Int → Option (List Int)) : Nat → Int → Option (List Int)
 | 0, _ => none
 | m12 + 1, a11 => (opt (decide (a11 > 0)) (lget l6 (IntKind.i64.wrap (a11 - 1)))).bind fun x13 => (opt (decide (a11 > 0)) (lget t1 x13)).bind fun x14 => (opt (decide (a11 > 0)) (lget t1 i8)).bind fun x15 => (bif ((decide (a11 > 0)) && (decide (x14.Priority < x15.Priority))) then (Zcd l6 t1 i8 go1 m12) (IntKind.i64.wrap (a11 - 1)) else (Z0y l6 [0]).bind fun l16 => Zb7 a11 go1 i8 ((((IntKind.i64.wrap ((l16.length : Int) - 1)) : Int) - a11).toNat + 1) l16 (IntKind.i64.wrap ((l16.length : Int) - 1)))
def Z8j (t1 : (List Flow)) : Nat → (List Int) → Int → Option (List Int)
 | 0, _, _ => none
 | m9 + 1, l6, i8 => (bif (decide (i8 < (t1.length : Int))) then Zcd l6 t1 i8 (Z8j t1 m9) Z0w (l6.length : Int) else some l6)
def Zhe (t1 : (List Flow)) : Option (List Int) :=
 Z8j t1 ((((t1.length : Int) : Int) - 0).toNat + 1) [] 0
theorem Yhr : Q1 Tryz.prog 139 (rd (Z3 Z0k)) (rd (Z3 (Z0 .i64))) Zhe := fun t1 r h => I0 Tryz.func139 rfl Tryz.ntmps139 rfl fun w H => by
 unfold Zhe at h
 refine SR <| Ac (Z04 (A := rd (Z3 (Z0 .i64)) []) rfl rfl Z26) rfl <| Nl <| SR <| Cv rfl (Z43 1001 (ps := []) (l := []) rfl rfl Z0x zr3 rfl rfl rfl rfl) fun v2 => Aw rfl <| Nl <| sq <| SR <| Ak rfl <| Nl <| bk <| LG (d := []) (ν := Nat × (List Int) × Int × Value) (fun (m9, l6, i8, v7) => (True ∧ Z8j t1 m9 l6 i8 = some r, m9, [(0, rd (Z3 Z0k) t1), (3, Zj v7), (4, rd (Z0 .i64) i8)], [(1001, Zh v7 3 (Z0 .i64) l6)])) (((((t1.length : Int) : Int) - 0).toNat + 1), [], 0, v2) ⟨trivial, h⟩ (FX rfl) ?_
 rintro ⟨m9, l6, i8, v7⟩ ⟨hsf1, h⟩
 dsimp only at h ⊢
 cases m9 with
 | zero => cases h
 | succ m9 =>
  unfold Z8j at h
  refine sq <| SR <| Md rfl <| Md rfl <| Ac (Z09 rfl rfl Z4r (vt rfl)) rfl <| Ac (Zl rfl rfl (vt rfl) (vt rfl)) rfl <| Nl <| Cq rfl h (fun h => ?_) (fun h => ?_)
  ·refine sk <| sq <| bk <| SR <| Mw rfl <| Ac (Z5s 1001 rfl rfl Z0x (vt rfl) rfl) rfl <| As rfl <| Nl <| sq <| bk <| LG (d := []) (ν := Nat × Int) (fun (m12, a11) => (True ∧ Zcd l6 t1 i8 (Z8j t1 m9) m12 a11 = some r, m12, [(0, rd (Z3 Z0k) t1), (3, Zj v7), (4, rd (Z0 .i64) i8), (5, rd (Z0 .i64) a11)], [(1001, Zh v7 3 (Z0 .i64) l6)])) (Z0w, (l6.length : Int)) ⟨trivial, h⟩ (FX rfl) ?_
   rintro ⟨m12, a11⟩ ⟨hsf2, h⟩
   dsimp only at h ⊢
   cases m12 with
   | zero => cases h
   | succ m12 =>
    unfold Zcd at h
    refine sq <| sq ?_
    obtain ⟨x13, hx13, x14, hx14, x15, hx15, h⟩ := bs3 h
    refine AR Zz (by kernel_rfl) <| Zg rfl <| Sd (lo [16] [] rfl fun S hs hr => Z3j rfl rfl (vh hs 16 rfl rfl) (vk rfl)) <| Zg rfl <| Sd (lg [0, 18] [] rfl fun hq S hs hr => Zk (A := rd (Z3 Z0k) t1) rfl rfl (vh hs 0 rfl rfl)) <| Sd (lg [3, 18] [] rfl fun hq S hs hr => Zk (A := Zj v7) rfl rfl (vh hs 3 rfl rfl)) <| Sd (lg [5, 18] [] rfl fun hq S hs hr => Zk (A := rd (Z0 .i64) a11) rfl rfl (vh hs 5 rfl rfl)) <| Sd (lg [21, 18] [] rfl fun hq S hs hr => Z0i rfl rfl (Z6 ((hs 21 rfl).trans rfl) hq) (vk rfl)) <| Sd (lg [20, 22, 18] [1001] rfl fun hq S hs hr => Z1r 1001 rfl rfl Z0x (Z6 ((hs 20 rfl).trans rfl) hq) ((hr 1001 rfl).trans rfl) (Z6 ((hs 22 rfl).trans rfl) hq) (Z16 hx13 hq)) <| Sd (lg [23, 18] [1001] rfl fun hq S hs hr => Z1f 1001 rfl rfl Zq (Z6 ((hs 23 rfl).trans rfl) hq) ((hr 1001 rfl).trans rfl) (Z0e (Z16 hx13 hq)).2) <| Sd (lg [19, 24, 18] [] rfl fun hq S hs hr => Z03 rfl rfl Z4r (Z6 ((hs 19 rfl).trans rfl) hq) (Z6 ((hs 24 rfl).trans rfl) hq) (Z16 hx14 hq)) <| Sd (lg [25, 18] [] rfl fun hq S hs hr => Z27 lFlow_1 rfl rfl Zeh (Z6 ((hs 25 rfl).trans rfl) hq)) <| Sd (lg [26, 18] [] rfl fun hq S hs hr => Z2e rfl rfl Zq (Z6 ((hs 26 rfl).trans rfl) hq)) <| Sd (lg [0, 18] [] rfl fun hq S hs hr => Zk (A := rd (Z3 Z0k) t1) rfl rfl (vh hs 0 rfl rfl)) <| Sd (lg [4, 18] [] rfl fun hq S hs hr => Zk (A := rd (Z0 .i64) i8) rfl rfl (vh hs 4 rfl rfl)) <| Sd (lg [28, 29, 18] [] rfl fun hq S hs hr => Z03 rfl rfl Z4r (Z6 ((hs 28 rfl).trans rfl) hq) (Z6 ((hs 29 rfl).trans rfl) hq) (Z16 hx15 hq)) <| Sd (lg [30, 18] [] rfl fun hq S hs hr => Z27 lFlow_1 rfl rfl Zeh (Z6 ((hs 30 rfl).trans rfl) hq)) <| Sd (lg [31, 18] [] rfl fun hq S hs hr => Z2e rfl rfl Zq (Z6 ((hs 31 rfl).trans rfl) hq)) <| Sd (lg [27, 32, 18] [] rfl fun hq S hs hr => Zl rfl rfl (Z6 ((hs 27 rfl).trans rfl) hq) (Z6 ((hs 32 rfl).trans rfl) hq)) <| Sd (lo [33, 18] [] rfl fun S hs hr => Z0o rfl rfl (vh hs 18 rfl rfl) (vh hs 33 rfl rfl)) <| Sn <| Cq rfl h (fun h => ?_) (fun h => ?_)
    ·refine sk <| bk <| Rg <| Md rfl <| Ac (Z0i rfl rfl (vt rfl) (vk rfl)) rfl <| As rfl <| Nl ?_
     exact ⟨(_, _), Nat.lt_succ_self _, ⟨trivial, h⟩, FX rfl⟩
    ·refine xt <| sq ?_
     obtain ⟨l16, hl16, h⟩ := Za h
     refine Rg <| Mw rfl <| Ac (osl Z0x zr3 rfl (vk rfl)) rfl <| Cv rfl (Z29 1001 hl16 rfl rfl Zks (vt rfl) rfl (vt rfl)) fun v17 => Aw rfl <| Nl <| sq <| SR <| Mw rfl <| Ac (Z5s 1001 rfl rfl Z0x (vt rfl) rfl) rfl <| Ac (Z0i rfl rfl (vt rfl) (vk rfl)) rfl <| As rfl <| Nl <| bk <| LG (d := []) (ν := Nat × (List Int) × Int) (fun (m22, l20, j21) => (True ∧ Zb7 a11 (Z8j t1 m9) i8 m22 l20 j21 = some r, m22, [(0, rd (Z3 Z0k) t1), (3, Zj v17), (4, rd (Z0 .i64) i8), (5, rd (Z0 .i64) a11), (6, rd (Z0 .i64) j21)], [(1001, Zh v17 3 (Z0 .i64) l20)])) (((((IntKind.i64.wrap ((l16.length : Int) - 1)) : Int) - a11).toNat + 1), l16, (IntKind.i64.wrap ((l16.length : Int) - 1))) ⟨trivial, h⟩ (FX rfl) ?_
     rintro ⟨m22, l20, j21⟩ ⟨hsf3, h⟩
     dsimp only at h ⊢
     cases m22 with
     | zero => cases h
     | succ m22 =>
      unfold Zb7 at h
      refine sq <| SR <| Md rfl <| Md rfl <| Ac (Z3j rfl rfl (vt rfl) (vt rfl)) rfl <| Nl <| Cq rfl h (fun h => ?_) (fun h => ?_)
      ·refine sk <| sq <| bk ?_
       obtain ⟨x23, hx23, x24, hx24, h⟩ := bs2 h
       refine Rg <| Mw rfl <| Md rfl <| Mw rfl <| Md rfl <| Ac (Z0i rfl rfl (vt rfl) (vk rfl)) rfl <| Ac (Z1r 1001 rfl rfl Z0x (vt rfl) rfl (vt rfl) hx23) rfl <| Ac (Z1f 1001 rfl rfl Zq (vt rfl) rfl (Z0e hx23).2) rfl <| Ac (Z1r 1001 rfl rfl Z0x (vt rfl) rfl (vt rfl) hx24) rfl <| Ac (Z2d 1001 rfl rfl Zq (vt rfl) rfl (Z0e hx24).2 (vt rfl)) rfl <| Nl <| Rg <| Md rfl <| Ac (Z0i rfl rfl (vt rfl) (vk rfl)) rfl <| As rfl <| Nl ?_
       exact ⟨(_, _, _), Nat.lt_succ_self _, ⟨trivial, h⟩, FX rfl⟩
      ·refine xt ?_
       obtain ⟨x25, hx25, h⟩ := Za h
       refine Rg <| Mw rfl <| Md rfl <| Md rfl <| Ac (Z1r 1001 rfl rfl Z0x (vt rfl) rfl (vt rfl) hx25) rfl <| Ac (Z2d 1001 rfl rfl Zq (vt rfl) rfl (Z0e hx25).2 (vt rfl)) rfl <| Nl <| Rg <| Md rfl <| Ac (Z02 rfl rfl (vt rfl) (vk rfl)) rfl <| As rfl <| Nl ?_
       exact ⟨(_, _, _, _), Nat.lt_succ_self _, ⟨trivial, h⟩, FX rfl⟩
  ·refine xt <| SR <| Mw rfl <| Aw rfl <| Nl <| AW.freezes [2, 3, 60] 1001 rfl ⟨rfl, rfl, rfl, trivial⟩ rfl <| rt ?_
   cases h; exact Zc Tryz.results139 rfl (Z4 rfl)
def Z9k (x1 : Int) : Option Bool :=
 some ((decide (x1 ≥ 0)) && (decide (x1 < 24)))
theorem Zqm : Q1 Tryz.prog 225 (rd (Z0 .i64)) (rd Z7) Z9k := fun x1 r h => I0 Tryz.func225 rfl Tryz.ntmps225 rfl fun w H => by
 unfold Z9k at h
 refine SR <| Ab rfl <| Nl <| SR <| Md rfl <| Ac (Z57 rfl rfl (vt rfl) (vk rfl)) rfl <| Md rfl <| Gd rfl (fun hq => Zk (A := rd (Z0 .i64) x1) rfl rfl (vt rfl)) <| Gd rfl (fun hq => Zl rfl rfl (Z6 rfl hq) (vk rfl)) <| Ac (Z0o rfl rfl (vt rfl) (vt rfl)) rfl <| As rfl <| Nl <| rt ?_
 cases h; exact Zc Tryz.results225 rfl (Z4 rfl)
def Zqw (x1 : Int) : Option (ByteArray × Int × Int × Bool) :=
 (bif (decide (x1 = 12)) then some ({ data := #[116, 99, 112, 95, 115, 114, 99] }, 13, 16, false) else (bif (decide (x1 = 13)) then some ({ data := #[116, 99, 112, 95, 100, 115, 116] }, 14, 16, false) else (bif (decide (x1 = 14)) then some ({ data := #[117, 100, 112, 95, 115, 114, 99] }, 15, 16, false) else (bif (decide (x1 = 15)) then some ({ data := #[117, 100, 112, 95, 100, 115, 116] }, 16, 16, false) else (bif (decide (x1 = 16)) then some ({ data := #[105, 99, 109, 112, 118, 52, 95, 116, 121, 112, 101] }, 19, 8, false) else (bif (decide (x1 = 17)) then some ({ data := #[105, 99, 109, 112, 118, 52, 95, 99, 111, 100, 101] }, 20, 8, false) else (bif (decide (x1 = 18)) then some ({ data := #[97, 114, 112, 95, 111, 112] }, 21, 16, false) else (bif (decide (x1 = 19)) then some ({ data := #[97, 114, 112, 95, 115, 112, 97] }, 22, 32, true) else (bif (decide (x1 = 20)) then some ({ data := #[97, 114, 112, 95, 116, 112, 97] }, 23, 32, true) else (bif (decide (x1 = 21)) then some ({ data := #[105, 112, 118, 54, 95, 115, 114, 99] }, 26, 128, true) else (bif (decide (x1 = 22)) then some ({ data := #[105, 112, 118, 54, 95, 100, 115, 116] }, 27, 128, true) else (bif (decide (x1 = 23)) then some ({ data := #[109, 112, 108, 115, 95, 108, 97, 98, 101, 108] }, 34, 20, false) else some ({ data := #[] }, (-1), 0, false)))))))))))))
theorem Y3d : Q1 Tryz.prog 342 (rd (Z0 .i64)) (fun r => Z8q (rd Z1g r.1) (rd (Z0 .i64) r.2.1) (rd (Z0 .i64) r.2.2.1) (rd Z7 r.2.2.2)) Zqw := fun x1 r h => I0 Tryz.func342 rfl Tryz.ntmps342 rfl fun w H => by
 unfold Zqw at h
 refine SR <| Ac (Z04 (A := rd Z1g { data := #[] }) rfl rfl (vs (by decide))) rfl <| Ak rfl <| Ak rfl <| Ab rfl <| Nl <| sq <| SR <| Md rfl <| Nl <| bk <| SR <| Ac (Z0f rfl rfl (vt rfl) (vk rfl)) rfl <| As rfl <| Nl <| Cq rfl h (fun h => ?_) (fun h => ?_)
 ·refine SR <| Ac (Z04 (A := rd Z1g { data := #[116, 99, 112, 95, 115, 114, 99] }) rfl rfl (vs (by decide))) rfl <| Ak rfl <| Ak rfl <| Ab rfl <| Nl <| rt ?_
  cases h; exact Z2h Tryz.results342 rfl (Z4 rfl) (Z4 rfl) (Z4 rfl) (Z4 rfl)
 ·refine SR <| Ac (Z0f rfl rfl (vt rfl) (vk rfl)) rfl <| As rfl <| Nl <| Cq rfl h (fun h => ?_) (fun h => ?_)
  ·refine SR <| Ac (Z04 (A := rd Z1g { data := #[116, 99, 112, 95, 100, 115, 116] }) rfl rfl (vs (by decide))) rfl <| Ak rfl <| Ak rfl <| Ab rfl <| Nl <| rt ?_
   cases h; exact Z2h Tryz.results342 rfl (Z4 rfl) (Z4 rfl) (Z4 rfl) (Z4 rfl)
  ·refine SR <| Ac (Z0f rfl rfl (vt rfl) (vk rfl)) rfl <| As rfl <| Nl <| Cq rfl h (fun h => ?_) (fun h => ?_)
   ·refine SR <| Ac (Z04 (A := rd Z1g { data := #[117, 100, 112, 95, 115, 114, 99] }) rfl rfl (vs (by decide))) rfl <| Ak rfl <| Ak rfl <| Ab rfl <| Nl <| rt ?_
    cases h; exact Z2h Tryz.results342 rfl (Z4 rfl) (Z4 rfl) (Z4 rfl) (Z4 rfl)
   ·refine SR <| Ac (Z0f rfl rfl (vt rfl) (vk rfl)) rfl <| As rfl <| Nl <| Cq rfl h (fun h => ?_) (fun h => ?_)
    ·refine SR <| Ac (Z04 (A := rd Z1g { data := #[117, 100, 112, 95, 100, 115, 116] }) rfl rfl (vs (by decide))) rfl <| Ak rfl <| Ak rfl <| Ab rfl <| Nl <| rt ?_
     cases h; exact Z2h Tryz.results342 rfl (Z4 rfl) (Z4 rfl) (Z4 rfl) (Z4 rfl)
    ·refine SR <| Ac (Z0f rfl rfl (vt rfl) (vk rfl)) rfl <| As rfl <| Nl <| Cq rfl h (fun h => ?_) (fun h => ?_)
     ·refine SR <| Ac (Z04 (A := rd Z1g { data := #[105, 99, 109, 112, 118, 52, 95, 116, 121, 112, 101] }) rfl rfl (vs (by decide))) rfl <| Ak rfl <| Ak rfl <| Ab rfl <| Nl <| rt ?_
      cases h; exact Z2h Tryz.results342 rfl (Z4 rfl) (Z4 rfl) (Z4 rfl) (Z4 rfl)
     ·refine SR <| Ac (Z0f rfl rfl (vt rfl) (vk rfl)) rfl <| As rfl <| Nl <| Cq rfl h (fun h => ?_) (fun h => ?_)
      ·refine SR <| Ac (Z04 (A := rd Z1g { data := #[105, 99, 109, 112, 118, 52, 95, 99, 111, 100, 101] }) rfl rfl (vs (by decide))) rfl <| Ak rfl <| Ak rfl <| Ab rfl <| Nl <| rt ?_
       cases h; exact Z2h Tryz.results342 rfl (Z4 rfl) (Z4 rfl) (Z4 rfl) (Z4 rfl)
      ·refine SR <| Ac (Z0f rfl rfl (vt rfl) (vk rfl)) rfl <| As rfl <| Nl <| Cq rfl h (fun h => ?_) (fun h => ?_)
       ·refine SR <| Ac (Z04 (A := rd Z1g { data := #[97, 114, 112, 95, 111, 112] }) rfl rfl (vs (by decide))) rfl <| Ak rfl <| Ak rfl <| Ab rfl <| Nl <| rt ?_
        cases h; exact Z2h Tryz.results342 rfl (Z4 rfl) (Z4 rfl) (Z4 rfl) (Z4 rfl)
       ·refine SR <| Ac (Z0f rfl rfl (vt rfl) (vk rfl)) rfl <| As rfl <| Nl <| Cq rfl h (fun h => ?_) (fun h => ?_)
        ·refine SR <| Ac (Z04 (A := rd Z1g { data := #[97, 114, 112, 95, 115, 112, 97] }) rfl rfl (vs (by decide))) rfl <| Ak rfl <| Ak rfl <| Ab rfl <| Nl <| rt ?_
         cases h; exact Z2h Tryz.results342 rfl (Z4 rfl) (Z4 rfl) (Z4 rfl) (Z4 rfl)
        ·refine SR <| Ac (Z0f rfl rfl (vt rfl) (vk rfl)) rfl <| As rfl <| Nl <| Cq rfl h (fun h => ?_) (fun h => ?_)
         ·refine SR <| Ac (Z04 (A := rd Z1g { data := #[97, 114, 112, 95, 116, 112, 97] }) rfl rfl (vs (by decide))) rfl <| Ak rfl <| Ak rfl <| Ab rfl <| Nl <| rt ?_
          cases h; exact Z2h Tryz.results342 rfl (Z4 rfl) (Z4 rfl) (Z4 rfl) (Z4 rfl)
         ·refine SR <| Ac (Z0f rfl rfl (vt rfl) (vk rfl)) rfl <| As rfl <| Nl <| Cq rfl h (fun h => ?_) (fun h => ?_)
          ·refine SR <| Ac (Z04 (A := rd Z1g { data := #[105, 112, 118, 54, 95, 115, 114, 99] }) rfl rfl (vs (by decide))) rfl <| Ak rfl <| Ak rfl <| Ab rfl <| Nl <| rt ?_
           cases h; exact Z2h Tryz.results342 rfl (Z4 rfl) (Z4 rfl) (Z4 rfl) (Z4 rfl)
          ·refine SR <| Ac (Z0f rfl rfl (vt rfl) (vk rfl)) rfl <| As rfl <| Nl <| Cq rfl h (fun h => ?_) (fun h => ?_)
           ·refine SR <| Ac (Z04 (A := rd Z1g { data := #[105, 112, 118, 54, 95, 100, 115, 116] }) rfl rfl (vs (by decide))) rfl <| Ak rfl <| Ak rfl <| Ab rfl <| Nl <| rt ?_
            cases h; exact Z2h Tryz.results342 rfl (Z4 rfl) (Z4 rfl) (Z4 rfl) (Z4 rfl)
           ·refine SR <| Ac (Z0f rfl rfl (vt rfl) (vk rfl)) rfl <| As rfl <| Nl <| Cq rfl h (fun h => ?_) (fun h => ?_)
            ·refine SR <| Ac (Z04 (A := rd Z1g { data := #[109, 112, 108, 115, 95, 108, 97, 98, 101, 108] }) rfl rfl (vs (by decide))) rfl <| Ak rfl <| Ak rfl <| Ab rfl <| Nl <| rt ?_
             cases h; exact Z2h Tryz.results342 rfl (Z4 rfl) (Z4 rfl) (Z4 rfl) (Z4 rfl)
            ·refine sk <| SR <| Ac (Z04 (A := rd Z1g { data := #[] }) rfl rfl (vs (by decide))) rfl <| Ak rfl <| Ak rfl <| Ab rfl <| Nl <| rt ?_
             cases h; exact Z2h Tryz.results342 rfl (Z4 rfl) (Z4 rfl) (Z4 rfl) (Z4 rfl)
def Zpq (x1 : Int) : Option (ByteArray × Int × Int × Bool) :=
 (bif (decide (x1 = 0)) then some ({ data := #[105, 110, 95, 112, 111, 114, 116] }, 0, 32, false) else (bif (decide (x1 = 1)) then some ({ data := #[109, 101, 116, 97, 100, 97, 116, 97] }, 2, 64, true) else (bif (decide (x1 = 2)) then some ({ data := #[101, 116, 104, 95, 100, 115, 116] }, 3, 48, true) else (bif (decide (x1 = 3)) then some ({ data := #[101, 116, 104, 95, 115, 114, 99] }, 4, 48, true) else (bif (decide (x1 = 4)) then some ({ data := #[101, 116, 104, 95, 116, 121, 112, 101] }, 5, 16, false) else (bif (decide (x1 = 5)) then some ({ data := #[118, 108, 97, 110, 95, 118, 105, 100] }, 6, 13, true) else (bif (decide (x1 = 6)) then some ({ data := #[118, 108, 97, 110, 95, 112, 99, 112] }, 7, 3, false) else (bif (decide (x1 = 7)) then some ({ data := #[105, 112, 95, 100, 115, 99, 112] }, 8, 6, false) else (bif (decide (x1 = 8)) then some ({ data := #[105, 112, 95, 101, 99, 110] }, 9, 2, false) else (bif (decide (x1 = 9)) then some ({ data := #[105, 112, 95, 112, 114, 111, 116, 111] }, 10, 8, false) else (bif (decide (x1 = 10)) then some ({ data := #[105, 112, 118, 52, 95, 115, 114, 99] }, 11, 32, true) else (bif (decide (x1 = 11)) then some ({ data := #[105, 112, 118, 52, 95, 100, 115, 116] }, 12, 32, true) else (Zqw x1).bind fun x2 => some (x2.1, x2.2.1, x2.2.2.1, x2.2.2.2)))))))))))))
theorem Yfn : Q1 Tryz.prog 334 (rd (Z0 .i64)) (fun r => Z8q (rd Z1g r.1) (rd (Z0 .i64) r.2.1) (rd (Z0 .i64) r.2.2.1) (rd Z7 r.2.2.2)) Zpq := fun x1 r h => I0 Tryz.func334 rfl Tryz.ntmps334 rfl fun w H => by
 unfold Zpq at h
 refine SR <| Ac (Z04 (A := rd Z1g { data := #[] }) rfl rfl (vs (by decide))) rfl <| Ak rfl <| Ak rfl <| Ab rfl <| Nl <| sq <| SR <| Md rfl <| Nl <| bk <| SR <| Ac (Z0f rfl rfl (vt rfl) (vk rfl)) rfl <| As rfl <| Nl <| Cq rfl h (fun h => ?_) (fun h => ?_)
 ·refine SR <| Ac (Z04 (A := rd Z1g { data := #[105, 110, 95, 112, 111, 114, 116] }) rfl rfl (vs (by decide))) rfl <| Ak rfl <| Ak rfl <| Ab rfl <| Nl <| rt ?_
  cases h; exact Z2h Tryz.results334 rfl (Z4 rfl) (Z4 rfl) (Z4 rfl) (Z4 rfl)
 ·refine SR <| Ac (Z0f rfl rfl (vt rfl) (vk rfl)) rfl <| As rfl <| Nl <| Cq rfl h (fun h => ?_) (fun h => ?_)
  ·refine SR <| Ac (Z04 (A := rd Z1g { data := #[109, 101, 116, 97, 100, 97, 116, 97] }) rfl rfl (vs (by decide))) rfl <| Ak rfl <| Ak rfl <| Ab rfl <| Nl <| rt ?_
   cases h; exact Z2h Tryz.results334 rfl (Z4 rfl) (Z4 rfl) (Z4 rfl) (Z4 rfl)
  ·refine SR <| Ac (Z0f rfl rfl (vt rfl) (vk rfl)) rfl <| As rfl <| Nl <| Cq rfl h (fun h => ?_) (fun h => ?_)
   ·refine SR <| Ac (Z04 (A := rd Z1g { data := #[101, 116, 104, 95, 100, 115, 116] }) rfl rfl (vs (by decide))) rfl <| Ak rfl <| Ak rfl <| Ab rfl <| Nl <| rt ?_
    cases h; exact Z2h Tryz.results334 rfl (Z4 rfl) (Z4 rfl) (Z4 rfl) (Z4 rfl)
   ·refine SR <| Ac (Z0f rfl rfl (vt rfl) (vk rfl)) rfl <| As rfl <| Nl <| Cq rfl h (fun h => ?_) (fun h => ?_)
    ·refine SR <| Ac (Z04 (A := rd Z1g { data := #[101, 116, 104, 95, 115, 114, 99] }) rfl rfl (vs (by decide))) rfl <| Ak rfl <| Ak rfl <| Ab rfl <| Nl <| rt ?_
     cases h; exact Z2h Tryz.results334 rfl (Z4 rfl) (Z4 rfl) (Z4 rfl) (Z4 rfl)
    ·refine SR <| Ac (Z0f rfl rfl (vt rfl) (vk rfl)) rfl <| As rfl <| Nl <| Cq rfl h (fun h => ?_) (fun h => ?_)
     ·refine SR <| Ac (Z04 (A := rd Z1g { data := #[101, 116, 104, 95, 116, 121, 112, 101] }) rfl rfl (vs (by decide))) rfl <| Ak rfl <| Ak rfl <| Ab rfl <| Nl <| rt ?_
      cases h; exact Z2h Tryz.results334 rfl (Z4 rfl) (Z4 rfl) (Z4 rfl) (Z4 rfl)
     ·refine SR <| Ac (Z0f rfl rfl (vt rfl) (vk rfl)) rfl <| As rfl <| Nl <| Cq rfl h (fun h => ?_) (fun h => ?_)
      ·refine SR <| Ac (Z04 (A := rd Z1g { data := #[118, 108, 97, 110, 95, 118, 105, 100] }) rfl rfl (vs (by decide))) rfl <| Ak rfl <| Ak rfl <| Ab rfl <| Nl <| rt ?_
       cases h; exact Z2h Tryz.results334 rfl (Z4 rfl) (Z4 rfl) (Z4 rfl) (Z4 rfl)
      ·refine SR <| Ac (Z0f rfl rfl (vt rfl) (vk rfl)) rfl <| As rfl <| Nl <| Cq rfl h (fun h => ?_) (fun h => ?_)
       ·refine SR <| Ac (Z04 (A := rd Z1g { data := #[118, 108, 97, 110, 95, 112, 99, 112] }) rfl rfl (vs (by decide))) rfl <| Ak rfl <| Ak rfl <| Ab rfl <| Nl <| rt ?_
        cases h; exact Z2h Tryz.results334 rfl (Z4 rfl) (Z4 rfl) (Z4 rfl) (Z4 rfl)
       ·refine SR <| Ac (Z0f rfl rfl (vt rfl) (vk rfl)) rfl <| As rfl <| Nl <| Cq rfl h (fun h => ?_) (fun h => ?_)
        ·refine SR <| Ac (Z04 (A := rd Z1g { data := #[105, 112, 95, 100, 115, 99, 112] }) rfl rfl (vs (by decide))) rfl <| Ak rfl <| Ak rfl <| Ab rfl <| Nl <| rt ?_
         cases h; exact Z2h Tryz.results334 rfl (Z4 rfl) (Z4 rfl) (Z4 rfl) (Z4 rfl)
        ·refine SR <| Ac (Z0f rfl rfl (vt rfl) (vk rfl)) rfl <| As rfl <| Nl <| Cq rfl h (fun h => ?_) (fun h => ?_)
         ·refine SR <| Ac (Z04 (A := rd Z1g { data := #[105, 112, 95, 101, 99, 110] }) rfl rfl (vs (by decide))) rfl <| Ak rfl <| Ak rfl <| Ab rfl <| Nl <| rt ?_
          cases h; exact Z2h Tryz.results334 rfl (Z4 rfl) (Z4 rfl) (Z4 rfl) (Z4 rfl)
         ·refine SR <| Ac (Z0f rfl rfl (vt rfl) (vk rfl)) rfl <| As rfl <| Nl <| Cq rfl h (fun h => ?_) (fun h => ?_)
          ·refine SR <| Ac (Z04 (A := rd Z1g { data := #[105, 112, 95, 112, 114, 111, 116, 111] }) rfl rfl (vs (by decide))) rfl <| Ak rfl <| Ak rfl <| Ab rfl <| Nl <| rt ?_
           cases h; exact Z2h Tryz.results334 rfl (Z4 rfl) (Z4 rfl) (Z4 rfl) (Z4 rfl)
          ·refine SR <| Ac (Z0f rfl rfl (vt rfl) (vk rfl)) rfl <| As rfl <| Nl <| Cq rfl h (fun h => ?_) (fun h => ?_)
           ·refine SR <| Ac (Z04 (A := rd Z1g { data := #[105, 112, 118, 52, 95, 115, 114, 99] }) rfl rfl (vs (by decide))) rfl <| Ak rfl <| Ak rfl <| Ab rfl <| Nl <| rt ?_
            cases h; exact Z2h Tryz.results334 rfl (Z4 rfl) (Z4 rfl) (Z4 rfl) (Z4 rfl)
           ·refine SR <| Ac (Z0f rfl rfl (vt rfl) (vk rfl)) rfl <| As rfl <| Nl <| Cq rfl h (fun h => ?_) (fun h => ?_)
            ·refine SR <| Ac (Z04 (A := rd Z1g { data := #[105, 112, 118, 52, 95, 100, 115, 116] }) rfl rfl (vs (by decide))) rfl <| Ak rfl <| Ak rfl <| Ab rfl <| Nl <| rt ?_
             cases h; exact Z2h Tryz.results334 rfl (Z4 rfl) (Z4 rfl) (Z4 rfl) (Z4 rfl)
            ·refine sk <| sq ?_
             obtain ⟨x2, hx2, h⟩ := Za h
             refine Rg <| Md rfl <| Cl [31] (Y3d _ _ hx2) Y5q rfl <| Ac (Zu8 rfl rfl (vt rfl)) rfl <| Ac (Zvg rfl rfl (vt rfl)) rfl <| Ac (Zyo rfl rfl (vt rfl)) rfl <| Ac (Y13 rfl rfl (vt rfl)) rfl <| As rfl <| As rfl <| As rfl <| As rfl <| Nl <| rt ?_
             cases h; exact Z2h Tryz.results334 rfl (Z4 rfl) (Z4 rfl) (Z4 rfl) (Z4 rfl)
def Zmj (x1 : Int) : Option Int :=
 (Zpq x1).bind fun x2 => some x2.2.2.1
theorem Y7w : Q1 Tryz.prog 308 (rd (Z0 .i64)) (rd (Z0 .i64)) Zmj := fun x1 r h => I0 Tryz.func308 rfl Tryz.ntmps308 rfl fun w H => by
 unfold Zmj at h
 refine SR <| Ak rfl <| Nl <| sq ?_
 obtain ⟨x2, hx2, h⟩ := Za h
 refine Rg <| Md rfl <| Cl [8] (Yfn _ _ hx2) Ybw rfl <| Ac (Zk (A := Z8q (rd Z1g x2.1) (rd (Z0 .i64) x2.2.1) (rd (Z0 .i64) x2.2.2.1) (rd Z7 x2.2.2.2)) rfl rfl (vt rfl)) rfl <| Ac (Zu8 rfl rfl (vt rfl)) rfl <| Ac (Zvg rfl rfl (vt rfl)) rfl <| Ac (Zyo rfl rfl (vt rfl)) rfl <| Ac (Y13 rfl rfl (vt rfl)) rfl <| As rfl <| As rfl <| As rfl <| As rfl <| Nl <| SR <| Md rfl <| As rfl <| Nl <| rt ?_
 cases h; exact Zc Tryz.results308 rfl (Z4 rfl)
end Go.Proofs.YtknpgojdkobgjaaGreat.W
set_option maxRecDepth 4000
namespace Go.Proofs.YtknpgojdkobgjaaGreat.W
open Go Go.Wb
theorem Zhb : Ent Tryz.prog 309 := Ent.mk Tryz.func309 rfl rfl
theorem Zaw : Ent Tryz.prog 187 := Ent.mk Tryz.func187 rfl rfl
theorem Zq6 : Ent Tryz.prog 225 := Ent.mk Tryz.func225 rfl rfl
theorem Yf6 : Ent Tryz.prog 308 := Ent.mk Tryz.func308 rfl rfl
theorem Zpy : Ent Tryz.prog 307 := Ent.mk Tryz.func307 rfl rfl
theorem Zwl : Ent Tryz.prog 271 := Ent.mk Tryz.func271 rfl rfl
theorem Zho : Ent Tryz.prog 189 := Ent.mk Tryz.func189 rfl rfl
theorem Zba : Ent Tryz.prog 144 := Ent.mk Tryz.func144 rfl rfl
theorem Yfi : Ent Tryz.prog 210 := Ent.mk Tryz.func210 rfl rfl
theorem e83 : Ent Tryz.prog 83 := Ent.mk Tryz.func83 rfl rfl
def Z7j (i1 : Int) : Option Wide :=
 (bif ((decide (i1 < 0)) || (decide (i1 > 127))) then some (⟨0, 0⟩ : Wide) else (bif (decide (i1 < 64)) then (Z86 (1 : BitVec 64) ((BitVec.ofInt 64 i1).toNat : Int)).bind fun q3 => some (⟨0, q3⟩ : Wide) else (Z86 (1 : BitVec 64) ((BitVec.ofInt 64 (IntKind.i64.wrap (i1 - 64))).toNat : Int)).bind fun q4 => some (⟨q4, 0⟩ : Wide)))
theorem Zin : Q1 Tryz.prog 309 (rd (Z0 .i64)) (rd Zp) Z7j := fun i1 r h => I0 Tryz.func309 rfl Tryz.ntmps309 rfl fun w H => by
 unfold Z7j at h
 refine SR <| Cv rfl (Zo 3 rfl rfl Z1n) fun g2 => Nl <| sq <| bk <| SR <| Md rfl <| Ac (Zl rfl rfl (vt rfl) (vk rfl)) rfl <| Md rfl <| Gd rfl (fun hq => Zk (A := rd (Z0 .i64) i1) rfl rfl (vt rfl)) <| Gd rfl (fun hq => Z3j rfl rfl (Z6 rfl hq) (vk rfl)) <| Ac (Z4g rfl rfl (vt rfl) (vt rfl)) rfl <| As rfl <| Nl <| Cq rfl h (fun h => ?_) (fun h => ?_)
 ·refine SR <| Ac (opb (⟨0, 0⟩ : Wide) Z1n rfl Z3o (pn rfl)) rfl <| Zd Zs 3 rfl <| Nl <| rt ?_
  cases h; exact Zc Tryz.results309 rfl (Zx rfl (i := 3) rfl Zs)
 ·refine SR <| Md rfl <| Ac (Zl rfl rfl (vt rfl) (vk rfl)) rfl <| As rfl <| Nl <| Cq rfl h (fun h => ?_) (fun h => ?_)
  ·refine sq ?_
   obtain ⟨q3, hq3, h⟩ := Za h
   refine Rg <| Md rfl <| Ac (Z73 rfl rfl us3 Z77 (vt rfl)) rfl <| Ac (Znr rfl rfl (vku (1 : BitVec 64) rfl) (Z4i (vt rfl)) hq3) rfl <| Ac (opb (⟨0, q3⟩ : Wide) Z1n rfl Z3o (pc Z6c (vt rfl) <| pn rfl)) rfl <| Zd Zs 3 rfl <| Nl <| rt ?_
   cases h; exact Zc Tryz.results309 rfl (Zx rfl (i := 3) rfl Zs)
  ·refine sk <| sq ?_
   obtain ⟨q4, hq4, h⟩ := Za h
   refine Rg <| Md rfl <| Ac (Z0i rfl rfl (vt rfl) (vk rfl)) rfl <| Ac (Z73 rfl rfl us3 Z77 (vt rfl)) rfl <| Ac (Znr rfl rfl (vku (1 : BitVec 64) rfl) (Z4i (vt rfl)) hq4) rfl <| Ac (opb (⟨q4, 0⟩ : Wide) Z1n rfl Z3o (pc Z6m (vt rfl) <| pn rfl)) rfl <| Zd Zs 3 rfl <| Nl <| rt ?_
   cases h; exact Zc Tryz.results309 rfl (Zx rfl (i := 3) rfl Zs)
def Z7b (a1 : Wide) (b2 : Wide) : Option Wide :=
 some (⟨(a1.Hi ||| b2.Hi), (a1.Lo ||| b2.Lo)⟩ : Wide)
theorem Zb1 : Q2 Tryz.prog 187 (rd Zp) (rd Zp) (rd Zp) Z7b := fun a1 b2 r h => I0 Tryz.func187 rfl Tryz.ntmps187 rfl fun w H => by
 unfold Z7b at h
 refine SR <| Cv rfl (Zn 3 rfl rfl (vt rfl)) fun g3 => Cv rfl (Zn 4 rfl rfl (vt rfl)) fun g4 => Cv rfl (Zo 5 rfl rfl Z1n) fun g5 => Nl <| SR <| Zt lWide_0 Z3v rfl <| Ld Z19 3 rfl <| Zt lWide_0 Z3v rfl <| Ld Z19 4 rfl <| Ac (Zij rfl rfl (vt rfl) (vt rfl)) rfl <| Zt lWide_1 Z3p rfl <| Ld Z19 3 rfl <| Zt lWide_1 Z3p rfl <| Ld Z19 4 rfl <| Ac (Zij rfl rfl (vt rfl) (vt rfl)) rfl <| Ac (opb (⟨(a1.Hi ||| b2.Hi), (a1.Lo ||| b2.Lo)⟩ : Wide) Z1n rfl Z3o (pc Z6m (vt rfl) <| pc Z6c (vt rfl) <| pn rfl)) rfl <| Zd Zs 5 rfl <| Nl <| rt ?_
 cases h; exact Zc Tryz.results187 rfl (Zx rfl (i := 5) rfl Zs)
def Zoh (n1 : Int) : Nat → Wide → Int → Option Wide
 | 0, _, _ => none
 | m8 + 1, b6, i7 => (bif ((decide (i7 < n1)) && (decide (i7 < 128))) then (Z7j i7).bind fun x9 => (Z7b b6 x9).bind fun x10 => (Zoh n1 m8) x10 (IntKind.i64.wrap (i7 + 1)) else some b6)
def Z9r (n1 : Int) : Option Wide :=
 Zoh n1 Z0w (⟨0, 0⟩ : Wide) 0
theorem Zpf : Q1 Tryz.prog 307 (rd (Z0 .i64)) (rd Zp) Z9r := fun n1 r h => I0 Tryz.func307 rfl Tryz.ntmps307 rfl fun w H => by
 unfold Z9r at h
 refine SR <| Cv rfl (Zo 3 rfl rfl Z1n) fun g2 => Nl <| SR <| Ac (opb (⟨0, 0⟩ : Wide) Z1n rfl Z3o (pn rfl)) rfl <| Cv rfl (Zo 4 rfl rfl Z1n) fun g3 => Zd Zs 4 rfl <| Nl <| sq <| SR <| Ak rfl <| Nl <| bk <| LG (d := []) (ν := Nat × Wide × Int) (fun (m8, b6, i7) => (True ∧ Zoh n1 m8 b6 i7 = some r, m8, [(0, rd (Z0 .i64) n1), (2, Ze g2 (Lens.id Zp)), (3, Ze g3 (Lens.id Zp)), (4, rd (Z0 .i64) i7)], [(3, Zf g2 42 Zp Z00), (4, Zf g3 42 Zp b6)])) (Z0w, (⟨0, 0⟩ : Wide), 0) ⟨trivial, h⟩ (FX rfl) ?_
 rintro ⟨m8, b6, i7⟩ ⟨hsf1, h⟩
 dsimp only at h ⊢
 cases m8 with
 | zero => cases h
 | succ m8 =>
  unfold Zoh at h
  refine sq <| SR <| Md rfl <| Md rfl <| Ac (Zl rfl rfl (vt rfl) (vt rfl)) rfl <| Md rfl <| Gd rfl (fun hq => Zk (A := rd (Z0 .i64) i7) rfl rfl (vt rfl)) <| Gd rfl (fun hq => Zl rfl rfl (Z6 rfl hq) (vk rfl)) <| Ac (Z0o rfl rfl (vt rfl) (vt rfl)) rfl <| Nl <| Cq rfl h (fun h => ?_) (fun h => ?_)
  ·refine sk <| sq <| bk ?_
   obtain ⟨x9, hx9, x10, hx10, h⟩ := bs2 h
   refine AR Zz (by kernel_rfl) <| Zu Zs 4 rfl <| Zg rfl <| SCl [16] (Zin _ _ hx9) Zhb rfl <| SCl [15, 17] (Zb1 _ _ _ hx10) Zaw rfl <| SSt Zs 4 rfl <| Sn <| Rg <| Md rfl <| Ac (Z02 rfl rfl (vt rfl) (vk rfl)) rfl <| As rfl <| Nl ?_
   exact ⟨(_, _, _), Nat.lt_succ_self _, ⟨trivial, h⟩, FX rfl⟩
  ·refine xt <| SR <| Ld Zs 4 rfl <| Zd Zs 3 rfl <| Nl <| rt ?_
   cases h; exact Zc Tryz.results307 rfl (Zx rfl (i := 3) rfl Zs)
def Zdz (o1 : Oxm) : Option Tern :=
 (Z9k o1.Field).bind fun x4 => (bif (!x4) then some (⟨Z00, Z00⟩ : Tern) else (bif o1.Masked then some (⟨o1.Value, o1.Mask⟩ : Tern) else (Zmj o1.Field).bind fun x5 => (Z9r x5).bind fun x6 => some (⟨o1.Value, x6⟩ : Tern)))
theorem Y28 : Q1 Tryz.prog 271 (rd Z1w) (rd Z2) Zdz := fun o1 r h => I0 Tryz.func271 rfl Tryz.ntmps271 rfl fun w H => by
 unfold Zdz at h
 refine SR <| Cv rfl (Zn 2 rfl rfl (vt rfl)) fun g2 => Cv rfl (Zo 3 rfl rfl Z17) fun g3 => Nl <| sq <| sq ?_
 obtain ⟨x4, hx4, h⟩ := Za h
 refine Rg <| Zt Z40 Z49 rfl <| Ld Zq 2 rfl <| Cl [4] (Zqm _ _ hx4) Zq6 rfl <| Ac (Z0s rfl rfl (vt rfl)) rfl <| Nl <| Cq rfl h (fun h => ?_) (fun h => ?_)
 ·refine SR <| Ac (opb (⟨Z00, Z00⟩ : Tern) Z17 rfl Z3r (pn rfl)) rfl <| Zd Zw 3 rfl <| Nl <| rt ?_
  cases h; exact Zc Tryz.results271 rfl (Zx rfl (i := 3) rfl Zw)
 ·refine sk <| sq <| SR <| Zt Zl8 Zlg rfl <| Ld ty4 2 rfl <| Nl <| Cq rfl h (fun h => ?_) (fun h => ?_)
  ·refine SR <| Zt Zbp Zfz rfl <| Ld Zs 2 rfl <| Zt Zk0 Zob rfl <| Ld Zs 2 rfl <| Ac (opb (⟨o1.Value, o1.Mask⟩ : Tern) Z17 rfl Z3r (pc Z4y (vt rfl) <| pc Z51 (vt rfl) <| pn rfl)) rfl <| Zd Zw 3 rfl <| Nl <| rt ?_
   cases h; exact Zc Tryz.results271 rfl (Zx rfl (i := 3) rfl Zw)
  ·refine sk <| sq ?_
   obtain ⟨x5, hx5, x6, hx6, h⟩ := bs2 h
   refine AR Zz (by kernel_rfl) <| SFd Zbp Zfz rfl <| Zu Zs 2 rfl <| SFd Z40 Z49 rfl <| Zu Zq 2 rfl <| SCl [18] (Y7w _ _ hx5) Yf6 rfl <| SCl [19] (Zpf _ _ hx6) Zpy rfl <| Sd (lo [16, 20] [] rfl fun S hs hr => opb (⟨o1.Value, x6⟩ : Tern) Z17 rfl Z3r (pc Z4y (vh hs 16 rfl rfl) <| pc Z51 (vh hs 20 rfl rfl) <| pn rfl)) <| SSt Zw 3 rfl <| Sn <| rt ?_
   cases h; exact Zc Tryz.results271 rfl (Zx rfl (i := 3) rfl Zw)
def Zak (l1 : (List Oxm)) : Nat → Z5 → Int → Option Z5
 | 0, _, _ => none
 | m8 + 1, b6, i7 => (bif (decide (i7 < (l1.length : Int))) then (lget l1 i7).bind fun x9 => (Z9k x9.Field).bind fun x10 => (bif x10 then (lget l1 i7).bind fun x11 => (lget l1 i7).bind fun x12 => (Zdz x12).bind fun x13 => (chk 24 x11.Field).bind fun j14 => (Zak l1 m8) (Vector.set b6 j14.1 x13 j14.2) (IntKind.i64.wrap (i7 + 1)) else (Zak l1 m8) b6 (IntKind.i64.wrap (i7 + 1))) else some b6)
def Zm1 (l1 : (List Oxm)) : Option Z5 :=
 Zak l1 ((((l1.length : Int) : Int) - 0).toNat + 1) (Vector.replicate 24 zTern) 0
theorem Y36 : Q1 Tryz.prog 210 (rd (Z3 Z1w)) (rd (Z1 24 Z2)) Zm1 := fun l1 r h => I0 Tryz.func210 rfl Tryz.ntmps210 rfl fun w H => by
 unfold Zm1 at h
 refine SR <| Cv rfl (Zo 3 rfl rfl Z0n) fun g2 => Nl <| SR <| Ac (Z13 (ps := []) (x := (Vector.replicate 24 zTern)) rfl rfl rfl (by kernel_rfl) Z0n rfl) rfl <| Cv rfl (Zo 4 rfl rfl Z0n) fun g3 => Zd Zv 4 rfl <| Nl <| sq <| SR <| Ak rfl <| Nl <| bk <| LG (d := []) (ν := Nat × Z5 × Int) (fun (m8, b6, i7) => (True ∧ Zak l1 m8 b6 i7 = some r, m8, [(0, rd (Z3 Z1w) l1), (2, Ze g2 (Lens.id (Z1 24 Z2))), (3, Ze g3 (Lens.id (Z1 24 Z2))), (4, rd (Z0 .i64) i7)], [(3, Zf g2 87 (Z1 24 Z2) (Vector.replicate 24 zTern)), (4, Zf g3 87 (Z1 24 Z2) b6)])) (((((l1.length : Int) : Int) - 0).toNat + 1), (Vector.replicate 24 zTern), 0) ⟨trivial, h⟩ (FX rfl) ?_
 rintro ⟨m8, b6, i7⟩ ⟨hsf1, h⟩
 dsimp only at h ⊢
 cases m8 with
 | zero => cases h
 | succ m8 =>
  unfold Zak at h
  refine sq <| SR <| Md rfl <| Md rfl <| Ac (Z09 rfl rfl Zd8 (vt rfl)) rfl <| Ac (Zl rfl rfl (vt rfl) (vt rfl)) rfl <| Nl <| Cq rfl h (fun h => ?_) (fun h => ?_)
  ·refine sk <| sq <| bk <| sq ?_
   obtain ⟨x9, hx9, x10, hx10, h⟩ := bs2 h
   refine Rg <| Md rfl <| Md rfl <| Ac (Z03 rfl rfl Zd8 (vt rfl) (vt rfl) hx9) rfl <| Fp Z40 Z49 rfl <| Lp1 Zq rfl <| Cl [16] (Zqm _ _ hx10) Zq6 rfl <| Nl <| Cq rfl h (fun h => ?_) (fun h => ?_)
   ·obtain ⟨x11, hx11, x12, hx12, x13, hx13, j14, hj14, h⟩ := bs4 h
    refine AR Zz (by kernel_rfl) <| Zg rfl <| Zg rfl <| Sd (lo [18, 19] [] rfl fun S hs hr => Z03 rfl rfl Zd8 (vh hs 18 rfl rfl) (vh hs 19 rfl rfl) hx11) <| SFp Z40 Z49 rfl <| SLp Zq rfl <| Zg rfl <| Zg rfl <| Sd (lo [23, 24] [] rfl fun S hs hr => Z03 rfl rfl Zd8 (vh hs 23 rfl rfl) (vh hs 24 rfl rfl) hx12) <| SLp Z8m rfl <| SCl [26] (Y28 _ _ hx13) Zwl rfl <| Sd (lo [3, 22] [] rfl fun S hs hr => Z0v rfl rfl Z1d (vh hs 3 rfl rfl) (vh hs 22 rfl rfl) hj14) <| SSt Zw 4 rfl <| Sn <| Rg <| Md rfl <| Ac (Z02 rfl rfl (vt rfl) (vk rfl)) rfl <| As rfl <| Nl ?_
    exact ⟨(_, _, _), Nat.lt_succ_self _, ⟨trivial, h⟩, FX rfl⟩
   ·refine sk <| Rg <| Md rfl <| Ac (Z02 rfl rfl (vt rfl) (vk rfl)) rfl <| As rfl <| Nl ?_
    exact ⟨(_, _, _), Nat.lt_succ_self _, ⟨trivial, h⟩, FX rfl⟩
  ·refine xt <| SR <| Ld Zv 4 rfl <| Zd Zv 3 rfl <| Nl <| rt ?_
   cases h; exact Zc Tryz.results210 rfl (Zx rfl (i := 3) rfl Zv)
def Z9h (a1 : Wide) (b2 : Wide) : Option Wide :=
 some (⟨(a1.Hi &&& b2.Hi), (a1.Lo &&& b2.Lo)⟩ : Wide)
theorem Zhm : Q2 Tryz.prog 189 (rd Zp) (rd Zp) (rd Zp) Z9h := fun a1 b2 r h => I0 Tryz.func189 rfl Tryz.ntmps189 rfl fun w H => by
 unfold Z9h at h
 refine SR <| Cv rfl (Zn 3 rfl rfl (vt rfl)) fun g3 => Cv rfl (Zn 4 rfl rfl (vt rfl)) fun g4 => Cv rfl (Zo 5 rfl rfl Z1n) fun g5 => Nl <| SR <| Zt lWide_0 Z3v rfl <| Ld Z19 3 rfl <| Zt lWide_0 Z3v rfl <| Ld Z19 4 rfl <| Ac (Z80 rfl rfl (vt rfl) (vt rfl)) rfl <| Zt lWide_1 Z3p rfl <| Ld Z19 3 rfl <| Zt lWide_1 Z3p rfl <| Ld Z19 4 rfl <| Ac (Z80 rfl rfl (vt rfl) (vt rfl)) rfl <| Ac (opb (⟨(a1.Hi &&& b2.Hi), (a1.Lo &&& b2.Lo)⟩ : Wide) Z1n rfl Z3o (pc Z6m (vt rfl) <| pc Z6c (vt rfl) <| pn rfl)) rfl <| Zd Zs 5 rfl <| Nl <| rt ?_
 cases h; exact Zc Tryz.results189 rfl (Zx rfl (i := 5) rfl Zs)
def Z6s (t1 : Tern) : Option Tern :=
 (Z9h t1.Value t1.Mask).bind fun x4 => some (⟨x4, t1.Mask⟩ : Tern)
theorem Zbg : Q1 Tryz.prog 144 (rd Z2) (rd Z2) Z6s := fun t1 r h => I0 Tryz.func144 rfl Tryz.ntmps144 rfl fun w H => by
 unfold Z6s at h
 refine SR <| Cv rfl (Zn 2 rfl rfl (vt rfl)) fun g2 => Cv rfl (Zo 3 rfl rfl Z17) fun g3 => Nl <| sq ?_
 obtain ⟨x4, hx4, h⟩ := Za h
 refine AR Zz (by kernel_rfl) <| SFd lTern_0 Z1y rfl <| Zu Zs 2 rfl <| SFd lTern_1 Z1h rfl <| Zu Zs 2 rfl <| SCl [4, 6] (Zhm _ _ _ hx4) Zho rfl <| SFd lTern_1 Z1h rfl <| Zu Zs 2 rfl <| Sd (lo [7, 9] [] rfl fun S hs hr => opb (⟨x4, t1.Mask⟩ : Tern) Z17 rfl Z3r (pc Z4y (vh hs 7 rfl rfl) <| pc Z51 (vh hs 9 rfl rfl) <| pn rfl)) <| SSt Zw 3 rfl <| Sn <| rt ?_
 cases h; exact Zc Tryz.results144 rfl (Zx rfl (i := 3) rfl Zw)
def Zbl : Nat → Z5 → Int → Option Z5
 | 0, _, _ => none
 | m8 + 1, b6, x7 => (bif (decide (x7 < 24)) then (chk 24 x7).bind fun j9 => (Z6s (Vector.get b6 j9)).bind fun x10 => (chk 24 x7).bind fun j11 => (Zbl m8) (Vector.set b6 j11.1 x10 j11.2) (IntKind.i64.wrap (x7 + 1)) else some b6)
def Zai (x1 : Z5) : Option Z5 :=
 Zbl (((24 : Int) - 0).toNat + 1) x1 0
theorem Zok : Q1 Tryz.prog 83 (rd (Z1 24 Z2)) (rd (Z1 24 Z2)) Zai := fun x1 r h => I0 Tryz.func83 rfl Tryz.ntmps83 rfl fun w H => by
 unfold Zai at h
 refine SR <| Cv rfl (Zn 2 rfl rfl (vt rfl)) fun g2 => Cv rfl (Zo 3 rfl rfl Z0n) fun g3 => Nl <| sq <| SR <| Ak rfl <| Nl <| bk <| LG (d := []) (ν := Nat × Z5 × Int) (fun (m8, b6, x7) => (True ∧ Zbl m8 b6 x7 = some r, m8, [(1, Ze g2 (Lens.id (Z1 24 Z2))), (2, Ze g3 (Lens.id (Z1 24 Z2))), (3, rd (Z0 .i64) x7)], [(2, Zf g2 87 (Z1 24 Z2) b6), (3, Zf g3 87 (Z1 24 Z2) (Vector.replicate 24 zTern))])) ((((24 : Int) - 0).toNat + 1), x1, 0) ⟨trivial, h⟩ (FX rfl) ?_
 rintro ⟨m8, b6, x7⟩ ⟨hsf1, h⟩
 dsimp only at h ⊢
 cases m8 with
 | zero => cases h
 | succ m8 =>
  unfold Zbl at h
  refine sq <| SR <| Md rfl <| Ac (Zl rfl rfl (vt rfl) (vk rfl)) rfl <| Nl <| Cq rfl h (fun h => ?_) (fun h => ?_)
  ·refine sk <| sq <| bk ?_
   obtain ⟨j9, hj9, x10, hx10, j11, hj11, h⟩ := bs3 h
   refine Rg <| Md rfl <| Md rfl <| Ac (Z0v rfl rfl Z1d (vt rfl) (vt rfl) hj9) rfl <| Ld Zw 2 rfl <| Cl [11] (Zbg _ _ hx10) Zba rfl <| Ac (Z0v rfl rfl Z1d (vt rfl) (vt rfl) hj11) rfl <| Zd Zw 2 rfl <| Nl <| Rg <| Md rfl <| Ac (Z02 rfl rfl (vt rfl) (vk rfl)) rfl <| As rfl <| Nl ?_
   exact ⟨(_, _, _), Nat.lt_succ_self _, ⟨trivial, h⟩, FX rfl⟩
  ·refine xt <| SR <| Ld Zv 2 rfl <| Zd Zv 3 rfl <| Nl <| rt ?_
   cases h; exact Zc Tryz.results83 rfl (Zx rfl (i := 3) rfl Zv)
def Ziv (x1 : Flow) : Option Z5 :=
 (Zm1 x1.Match).bind fun x4 => (Zai x4).bind fun x5 => some x5
theorem Y6d : Q1 Tryz.prog 141 (rd Z0k) (rd (Z1 24 Z2)) Ziv := fun x1 r h => I0 Tryz.func141 rfl Tryz.ntmps141 rfl fun w H => by
 unfold Ziv at h
 refine SR <| Cv rfl (Zn 2 rfl rfl (vt rfl)) fun g2 => Cv rfl (Zo 3 rfl rfl Z0n) fun g3 => Nl <| sq ?_
 obtain ⟨x4, hx4, x5, hx5, h⟩ := bs2 h
 refine Rg <| Zt Zml Zqn rfl <| Ld Zt6 2 rfl <| Cl [4] (Y36 _ _ hx4) Yfi rfl <| Cl [5] (Zok _ _ hx5) e83 rfl <| Zd Zv 3 rfl <| Nl <| rt ?_
 cases h; exact Zc Tryz.results141 rfl (Zx rfl (i := 3) rfl Zv)
end Go.Proofs.YtknpgojdkobgjaaGreat.W
set_option maxRecDepth 4000
namespace Go.Proofs.YtknpgojdkobgjaaGreat.W
open Go Go.Wb
theorem Zvl : Ent Tryz.prog 233 := Ent.mk Tryz.func233 rfl rfl
theorem Znz : Ent Tryz.prog 232 := Ent.mk Tryz.func232 rfl rfl
theorem Zzi : Ent Tryz.prog 209 := Ent.mk Tryz.func209 rfl rfl
theorem Zoq : Ent Tryz.prog 188 := Ent.mk Tryz.func188 rfl rfl
theorem Zj0 : Ent Tryz.prog 145 := Ent.mk Tryz.func145 rfl rfl
def Zkl (a1 : Wide) (b2 : Wide) : Option Wide :=
 some (⟨(a1.Hi ^^^ b2.Hi), (a1.Lo ^^^ b2.Lo)⟩ : Wide)
theorem Zy3 : Q2 Tryz.prog 233 (rd Zp) (rd Zp) (rd Zp) Zkl := fun a1 b2 r h => I0 Tryz.func233 rfl Tryz.ntmps233 rfl fun w H => by
 unfold Zkl at h
 refine SR <| Cv rfl (Zn 3 rfl rfl (vt rfl)) fun g3 => Cv rfl (Zn 4 rfl rfl (vt rfl)) fun g4 => Cv rfl (Zo 5 rfl rfl Z1n) fun g5 => Nl <| SR <| Zt lWide_0 Z3v rfl <| Ld Z19 3 rfl <| Zt lWide_0 Z3v rfl <| Ld Z19 4 rfl <| Ac (Zm4 rfl rfl (vt rfl) (vt rfl)) rfl <| Zt lWide_1 Z3p rfl <| Ld Z19 3 rfl <| Zt lWide_1 Z3p rfl <| Ld Z19 4 rfl <| Ac (Zm4 rfl rfl (vt rfl) (vt rfl)) rfl <| Ac (opb (⟨(a1.Hi ^^^ b2.Hi), (a1.Lo ^^^ b2.Lo)⟩ : Wide) Z1n rfl Z3o (pc Z6m (vt rfl) <| pc Z6c (vt rfl) <| pn rfl)) rfl <| Zd Zs 5 rfl <| Nl <| rt ?_
 cases h; exact Zc Tryz.results233 rfl (Zx rfl (i := 5) rfl Zs)
def Z90 (a1 : Wide) : Option Bool :=
 some ((decide (a1.Hi = (0 : BitVec 64))) && (decide (a1.Lo = (0 : BitVec 64))))
theorem Zo3 : Q1 Tryz.prog 232 (rd Zp) (rd Z7) Z90 := fun a1 r h => I0 Tryz.func232 rfl Tryz.ntmps232 rfl fun w H => by
 unfold Z90 at h
 refine SR <| Cv rfl (Zn 2 rfl rfl (vt rfl)) fun g2 => Ab rfl <| Nl <| SR <| Zt lWide_0 Z3v rfl <| Ld Z19 2 rfl <| Ac (Zqy rfl rfl (vt rfl) (vku (0 : BitVec 64) rfl)) rfl <| Md rfl <| Gd rfl (fun hq => Z0t lWide_1 rfl rfl Z3p (vt rfl)) <| Gd rfl (fun hq => Z0g rfl rfl Z19 (Z6 rfl hq) (i := 2) rfl) <| Gd rfl (fun hq => Zqy rfl rfl (Z6 rfl hq) (vku (0 : BitVec 64) rfl)) <| Ac (Z0o rfl rfl (vt rfl) (vt rfl)) rfl <| As rfl <| Nl <| rt ?_
 cases h; exact Zc Tryz.results232 rfl (Z4 rfl)
def Zas (a1 : Tern) (b2 : Tern) : Option (Tern × Bool) :=
 (Z9h a1.Mask b2.Mask).bind fun x6 => (Zkl a1.Value b2.Value).bind fun x8 => (Z9h x8 x6).bind fun x9 => (Z90 x9).bind fun x10 => (bif (!x10) then some ((⟨Z00, Z00⟩ : Tern), false) else (Z6s a1).bind fun x11 => (Z6s b2).bind fun x12 => (Z7b x11.Value x12.Value).bind fun x13 => (Z7b x11.Mask x12.Mask).bind fun x14 => some ((⟨x13, x14⟩ : Tern), true))
theorem Zz2 : Q2 Tryz.prog 209 (rd Z2) (rd Z2) (fun r => Z1c (rd Z2 r.1) (rd Z7 r.2)) Zas := fun a1 b2 r h => I0 Tryz.func209 rfl Tryz.ntmps209 rfl fun w H => by
 unfold Zas at h
 refine SR <| Cv rfl (Zn 3 rfl rfl (vt rfl)) fun g3 => Cv rfl (Zn 4 rfl rfl (vt rfl)) fun g4 => Cv rfl (Zo 5 rfl rfl Z17) fun g5 => Ab rfl <| Nl <| sq ?_
 obtain ⟨x6, hx6, h⟩ := Za h
 refine Rg <| Zt lTern_1 Z1h rfl <| Ld Zs 3 rfl <| Zt lTern_1 Z1h rfl <| Ld Zs 4 rfl <| Cl [8, 10] (Zhm _ _ _ hx6) Zho rfl <| Cv rfl (Zo 7 rfl rfl Z1n) fun g7 => Zd Zs 7 rfl <| Nl <| sq <| sq ?_
 obtain ⟨x8, hx8, x9, hx9, x10, hx10, h⟩ := bs3 h
 refine AR Zz (by kernel_rfl) <| SFd lTern_0 Z1y rfl <| Zu Zs 3 rfl <| SFd lTern_0 Z1y rfl <| Zu Zs 4 rfl <| SCl [13, 15] (Zy3 _ _ _ hx8) Zvl rfl <| Zu Zs 7 rfl <| SCl [16, 17] (Zhm _ _ _ hx9) Zho rfl <| SCl [18] (Zo3 _ _ hx10) Znz rfl <| Sd (lo [19] [] rfl fun S hs hr => Z0s rfl rfl (vh hs 19 rfl rfl)) <| Sn <| Cq rfl h (fun h => ?_) (fun h => ?_)
 ·refine SR <| Ac (opb (⟨Z00, Z00⟩ : Tern) Z17 rfl Z3r (pn rfl)) rfl <| Zd Zw 5 rfl <| Ab rfl <| Nl <| rt ?_
  cases h; exact Z1x Tryz.results209 rfl (Zx rfl (i := 5) rfl Zw) (Z4 rfl)
 ·refine sk <| sq ?_
  obtain ⟨x11, hx11, x12, hx12, h⟩ := bs2 h
  refine AR Zz (by kernel_rfl) <| Zu Zw 3 rfl <| SCl [22] (Zbg _ _ hx11) Zba rfl <| Zu Zw 4 rfl <| SCl [24] (Zbg _ _ hx12) Zba rfl <| SSt Zw 3 rfl <| SSt Zw 4 rfl <| Sn <| sq ?_
  obtain ⟨x13, hx13, x14, hx14, h⟩ := bs2 h
  refine AR Zz (by kernel_rfl) <| SFd lTern_0 Z1y rfl <| Zu Zs 3 rfl <| SFd lTern_0 Z1y rfl <| Zu Zs 4 rfl <| SCl [27, 29] (Zb1 _ _ _ hx13) Zaw rfl <| SFd lTern_1 Z1h rfl <| Zu Zs 3 rfl <| SFd lTern_1 Z1h rfl <| Zu Zs 4 rfl <| SCl [32, 34] (Zb1 _ _ _ hx14) Zaw rfl <| Sd (lo [30, 35] [] rfl fun S hs hr => opb (⟨x13, x14⟩ : Tern) Z17 rfl Z3r (pc Z4y (vh hs 30 rfl rfl) <| pc Z51 (vh hs 35 rfl rfl) <| pn rfl)) <| SSt Zw 5 rfl <| Sd (lo [] [] rfl fun S hs hr => Z04 (A := rd Z7 true) rfl rfl vb) <| Sn <| rt ?_
  cases h; exact Z1x Tryz.results209 rfl (Zx rfl (i := 5) rfl Zw) (Z4 rfl)
def Zc0 (a1 : Wide) (b2 : Wide) : Option Wide :=
 some (⟨(a1.Hi &&& ~~~b2.Hi), (a1.Lo &&& ~~~b2.Lo)⟩ : Wide)
theorem Znb : Q2 Tryz.prog 188 (rd Zp) (rd Zp) (rd Zp) Zc0 := fun a1 b2 r h => I0 Tryz.func188 rfl Tryz.ntmps188 rfl fun w H => by
 unfold Zc0 at h
 refine SR <| Cv rfl (Zn 3 rfl rfl (vt rfl)) fun g3 => Cv rfl (Zn 4 rfl rfl (vt rfl)) fun g4 => Cv rfl (Zo 5 rfl rfl Z1n) fun g5 => Nl <| SR <| Zt lWide_0 Z3v rfl <| Ld Z19 3 rfl <| Zt lWide_0 Z3v rfl <| Ld Z19 4 rfl <| Ac (Znt rfl rfl (vt rfl) (vt rfl)) rfl <| Zt lWide_1 Z3p rfl <| Ld Z19 3 rfl <| Zt lWide_1 Z3p rfl <| Ld Z19 4 rfl <| Ac (Znt rfl rfl (vt rfl) (vt rfl)) rfl <| Ac (opb (⟨(a1.Hi &&& ~~~b2.Hi), (a1.Lo &&& ~~~b2.Lo)⟩ : Wide) Z1n rfl Z3o (pc Z6m (vt rfl) <| pc Z6c (vt rfl) <| pn rfl)) rfl <| Zd Zs 5 rfl <| Nl <| rt ?_
 cases h; exact Zc Tryz.results188 rfl (Zx rfl (i := 5) rfl Zs)
def Zd0 (x1 : Z5) (x2 : Z5) : Nat → Z5 → Int → Option (Z5 × Bool)
 | 0, _, _ => none
 | m11 + 1, b9, x10 => (bif (decide (x10 < 24)) then (chk 24 x10).bind fun j12 => (chk 24 x10).bind fun j13 => (Zas (Vector.get x1 j12) (Vector.get x2 j13)).bind fun x14 => (bif (!x14.2) then some ((Vector.replicate 24 zTern), false) else (chk 24 x10).bind fun j16 => (chk 24 x10).bind fun j17 => (chk 24 x10).bind fun j18 => (Zc0 ((Vector.get x2 j17).Mask) ((Vector.get x1 j18).Mask)).bind fun x19 => (Z6s (⟨(Vector.get x2 j16).Value, x19⟩ : Tern)).bind fun x20 => (chk 24 x10).bind fun j21 => (Zd0 x1 x2 m11) (Vector.set b9 j21.1 x20 j21.2) (IntKind.i64.wrap (x10 + 1))) else some (b9, true))
def Zju (x1 : Z5) (x2 : Z5) : Option (Z5 × Bool) :=
 Zd0 x1 x2 (((24 : Int) - 0).toNat + 1) (Vector.replicate 24 zTern) 0
theorem Yiy : Q2 Tryz.prog 140 (rd (Z1 24 Z2)) (rd (Z1 24 Z2)) (fun r => Z1c (rd (Z1 24 Z2) r.1) (rd Z7 r.2)) Zju := fun x1 x2 r h => I0 Tryz.func140 rfl Tryz.ntmps140 rfl fun w H => by
 unfold Zju at h
 refine SR <| Cv rfl (Zn 3 rfl rfl (vt rfl)) fun g3 => Cv rfl (Zn 4 rfl rfl (vt rfl)) fun g4 => Cv rfl (Zo 5 rfl rfl Z0n) fun g5 => Ab rfl <| Nl <| SR <| Ac (Z13 (ps := []) (x := (Vector.replicate 24 zTern)) rfl rfl rfl (by kernel_rfl) Z0n rfl) rfl <| Cv rfl (Zo 7 rfl rfl Z0n) fun g6 => Zd Zv 7 rfl <| Nl <| sq <| SR <| Ak rfl <| Nl <| bk <| LG (d := []) (ν := Nat × Z5 × Int) (fun (m11, b9, x10) => (True ∧ Zd0 x1 x2 m11 b9 x10 = some r, m11, [(2, Ze g3 (Lens.id (Z1 24 Z2))), (3, Ze g4 (Lens.id (Z1 24 Z2))), (4, Ze g5 (Lens.id (Z1 24 Z2))), (6, Ze g6 (Lens.id (Z1 24 Z2))), (7, rd (Z0 .i64) x10)], [(3, Zf g3 101 (Z1 24 Z2) x1), (4, Zf g4 87 (Z1 24 Z2) x2), (5, Zf g5 87 (Z1 24 Z2) (Vector.replicate 24 zTern)), (7, Zf g6 87 (Z1 24 Z2) b9)])) ((((24 : Int) - 0).toNat + 1), (Vector.replicate 24 zTern), 0) ⟨trivial, h⟩ (FX rfl) ?_
 rintro ⟨m11, b9, x10⟩ ⟨hsf1, h⟩
 dsimp only at h ⊢
 cases m11 with
 | zero => cases h
 | succ m11 =>
  unfold Zd0 at h
  refine sq <| SR <| Md rfl <| Ac (Zl rfl rfl (vt rfl) (vk rfl)) rfl <| Nl <| Cq rfl h (fun h => ?_) (fun h => ?_)
  ·refine sk <| sq <| bk <| sq <| sq ?_
   obtain ⟨j12, hj12, j13, hj13, x14, hx14, h⟩ := bs3 h
   refine AR Zz (by kernel_rfl) <| Zg rfl <| Sd (lo [2, 16] [] rfl fun S hs hr => Z0v rfl rfl Z3h (vh hs 2 rfl rfl) (vh hs 16 rfl rfl) hj12) <| Zu Zw 3 rfl <| Zg rfl <| Sd (lo [3, 19] [] rfl fun S hs hr => Z0v rfl rfl Z1d (vh hs 3 rfl rfl) (vh hs 19 rfl rfl) hj13) <| Zu Zw 4 rfl <| SCl [18, 21] (Zz2 _ _ _ hx14) Zzi rfl <| Sd (lo [22] [] rfl fun S hs hr => Zk (A := Z1c (rd Z2 x14.1) (rd Z7 x14.2)) rfl rfl (vh hs 22 rfl rfl)) <| Sd (lo [15] [] rfl fun S hs hr => Z1j rfl rfl (vh hs 15 rfl rfl)) <| Sd (lo [15] [] rfl fun S hs hr => Z1i rfl rfl (vh hs 15 rfl rfl)) <| Sd (Z11 (us := [(8, Z1u 85 Z2 zTern)]) (ur := []) [] [] rfl fun S hs hr => Z4t rfl rfl rfl Z17) <| Sd (Z11 (us := [(8, Z1u 85 Z2 x14.1)]) (ur := []) [8, 23] [] rfl fun S hs hr => Z54 rfl rfl Zw ((hs 8 rfl).trans rfl) (vh hs 23 rfl rfl)) <| SAs rfl <| Sn <| AW.unpackP 8 9 rfl rfl fun g15 => SR <| Md rfl <| Ac (Z0s rfl rfl (vt rfl)) rfl <| Nl <| Cq rfl h (fun h => ?_) (fun h => ?_)
   ·refine SR <| Ac (Z13 (ps := []) (x := (Vector.replicate 24 zTern)) rfl rfl rfl (by kernel_rfl) Z0n rfl) rfl <| Zd Zv 5 rfl <| Ab rfl <| Nl <| rt ?_
    cases h; exact Z1x Tryz.results140 rfl (Zx rfl (i := 5) rfl Zv) (Z4 rfl)
   ·refine sk ?_
    obtain ⟨j16, hj16, j17, hj17, j18, hj18, x19, hx19, h⟩ := bs4 h
    obtain ⟨x20, hx20, j21, hj21, h⟩ := bs2 h
    refine AR Zz (by kernel_rfl) <| Zg rfl <| Zg rfl <| Sd (lo [3, 29] [] rfl fun S hs hr => Z0v rfl rfl Z1d (vh hs 3 rfl rfl) (vh hs 29 rfl rfl) hj16) <| SFd lTern_0 Z1y rfl <| Zu Zs 4 rfl <| Zg rfl <| Sd (lo [3, 33] [] rfl fun S hs hr => Z0v rfl rfl Z1d (vh hs 3 rfl rfl) (vh hs 33 rfl rfl) hj17) <| SFd lTern_1 Z1h rfl <| Zu Zs 4 rfl <| Zg rfl <| Sd (lo [2, 37] [] rfl fun S hs hr => Z0v rfl rfl Z3h (vh hs 2 rfl rfl) (vh hs 37 rfl rfl) hj18) <| SFd lTern_1 Z1h rfl <| Zu Zs 3 rfl <| SCl [36, 40] (Znb _ _ _ hx19) Zoq rfl <| Sd (lo [32, 41] [] rfl fun S hs hr => opb (⟨(Vector.get x2 j16).Value, x19⟩ : Tern) Z17 rfl Z3r (pc Z4y (vh hs 32 rfl rfl) <| pc Z51 (vh hs 41 rfl rfl) <| pn rfl)) <| SCl [42] (Zbg _ _ hx20) Zba rfl <| Sd (lo [6, 28] [] rfl fun S hs hr => Z0v rfl rfl Z1d (vh hs 6 rfl rfl) (vh hs 28 rfl rfl) hj21) <| SSt Zw 7 rfl <| Sn <| Rg <| Md rfl <| Ac (Z02 rfl rfl (vt rfl) (vk rfl)) rfl <| As rfl <| Nl ?_
    exact ⟨(_, _, _), Nat.lt_succ_self _, ⟨trivial, h⟩, FX rfl⟩
  ·refine xt <| SR <| Ld Zv 7 rfl <| Zd Zv 5 rfl <| Ab rfl <| Nl <| rt ?_
   cases h; exact Z1x Tryz.results140 rfl (Zx rfl (i := 5) rfl Zv) (Z4 rfl)
def Z82 (a1 : Z5) (b2 : Z5) : Nat → Z5 → Int → Option (Z5 × Bool)
 | 0, _, _ => none
 | m11 + 1, b9, x10 => (bif (decide (x10 < 24)) then (chk 24 x10).bind fun j12 => (chk 24 x10).bind fun j13 => (Zas (Vector.get a1 j12) (Vector.get b2 j13)).bind fun x14 => (bif (!x14.2) then some ((Vector.replicate 24 zTern), false) else (chk 24 x10).bind fun j16 => (Z82 a1 b2 m11) (Vector.set b9 j16.1 x14.1 j16.2) (IntKind.i64.wrap (x10 + 1))) else some (b9, true))
def Z78 (a1 : Z5) (b2 : Z5) : Option (Z5 × Bool) :=
 Z82 a1 b2 (((24 : Int) - 0).toNat + 1) (Vector.replicate 24 zTern) 0
theorem Zny : Q2 Tryz.prog 142 (rd (Z1 24 Z2)) (rd (Z1 24 Z2)) (fun r => Z1c (rd (Z1 24 Z2) r.1) (rd Z7 r.2)) Z78 := fun a1 b2 r h => I0 Tryz.func142 rfl Tryz.ntmps142 rfl fun w H => by
 unfold Z78 at h
 refine SR <| Cv rfl (Zn 3 rfl rfl (vt rfl)) fun g3 => Cv rfl (Zn 4 rfl rfl (vt rfl)) fun g4 => Cv rfl (Zo 5 rfl rfl Z0n) fun g5 => Ab rfl <| Nl <| SR <| Ac (Z13 (ps := []) (x := (Vector.replicate 24 zTern)) rfl rfl rfl (by kernel_rfl) Z0n rfl) rfl <| Cv rfl (Zo 7 rfl rfl Z0n) fun g6 => Zd Zv 7 rfl <| Nl <| sq <| SR <| Ak rfl <| Nl <| bk <| LG (d := []) (ν := Nat × Z5 × Int) (fun (m11, b9, x10) => (True ∧ Z82 a1 b2 m11 b9 x10 = some r, m11, [(2, Ze g3 (Lens.id (Z1 24 Z2))), (3, Ze g4 (Lens.id (Z1 24 Z2))), (4, Ze g5 (Lens.id (Z1 24 Z2))), (6, Ze g6 (Lens.id (Z1 24 Z2))), (7, rd (Z0 .i64) x10)], [(3, Zf g3 87 (Z1 24 Z2) a1), (4, Zf g4 87 (Z1 24 Z2) b2), (5, Zf g5 87 (Z1 24 Z2) (Vector.replicate 24 zTern)), (7, Zf g6 87 (Z1 24 Z2) b9)])) ((((24 : Int) - 0).toNat + 1), (Vector.replicate 24 zTern), 0) ⟨trivial, h⟩ (FX rfl) ?_
 rintro ⟨m11, b9, x10⟩ ⟨hsf1, h⟩
 dsimp only at h ⊢
 cases m11 with
 | zero => cases h
 | succ m11 =>
  unfold Z82 at h
  refine sq <| SR <| Md rfl <| Ac (Zl rfl rfl (vt rfl) (vk rfl)) rfl <| Nl <| Cq rfl h (fun h => ?_) (fun h => ?_)
  ·refine sk <| sq <| bk <| sq ?_
   obtain ⟨j12, hj12, j13, hj13, x14, hx14, h⟩ := bs3 h
   refine AR Zz (by kernel_rfl) <| Zg rfl <| Sd (lo [2, 16] [] rfl fun S hs hr => Z0v rfl rfl Z1d (vh hs 2 rfl rfl) (vh hs 16 rfl rfl) hj12) <| Zu Zw 3 rfl <| Zg rfl <| Sd (lo [3, 19] [] rfl fun S hs hr => Z0v rfl rfl Z1d (vh hs 3 rfl rfl) (vh hs 19 rfl rfl) hj13) <| Zu Zw 4 rfl <| SCl [18, 21] (Zz2 _ _ _ hx14) Zzi rfl <| Sd (lo [22] [] rfl fun S hs hr => Zk (A := Z1c (rd Z2 x14.1) (rd Z7 x14.2)) rfl rfl (vh hs 22 rfl rfl)) <| Sd (lo [15] [] rfl fun S hs hr => Z1j rfl rfl (vh hs 15 rfl rfl)) <| Sd (lo [15] [] rfl fun S hs hr => Z1i rfl rfl (vh hs 15 rfl rfl)) <| Sd (Z11 (us := [(8, Z1u 85 Z2 zTern)]) (ur := []) [] [] rfl fun S hs hr => Z4t rfl rfl rfl Z17) <| Sd (Z11 (us := [(8, Z1u 85 Z2 x14.1)]) (ur := []) [8, 23] [] rfl fun S hs hr => Z54 rfl rfl Zw ((hs 8 rfl).trans rfl) (vh hs 23 rfl rfl)) <| SAs rfl <| Sn <| AW.unpackP 8 9 rfl rfl fun g15 => sq <| SR <| Md rfl <| Ac (Z0s rfl rfl (vt rfl)) rfl <| Nl <| Cq rfl h (fun h => ?_) (fun h => ?_)
   ·refine SR <| Ac (Z13 (ps := []) (x := (Vector.replicate 24 zTern)) rfl rfl rfl (by kernel_rfl) Z0n rfl) rfl <| Zd Zv 5 rfl <| Ab rfl <| Nl <| rt ?_
    cases h; exact Z1x Tryz.results142 rfl (Zx rfl (i := 5) rfl Zv) (Z4 rfl)
   ·refine sk ?_
    obtain ⟨j16, hj16, h⟩ := Za h
    refine Rg <| Md rfl <| Ld Zw 9 rfl <| Ac (Z0v rfl rfl Z1d (vt rfl) (vt rfl) hj16) rfl <| Zd Zw 7 rfl <| Nl <| Rg <| Md rfl <| Ac (Z02 rfl rfl (vt rfl) (vk rfl)) rfl <| As rfl <| Nl ?_
    exact ⟨(_, _, _), Nat.lt_succ_self _, ⟨trivial, h⟩, FX rfl⟩
  ·refine xt <| SR <| Ld Zv 7 rfl <| Zd Zv 5 rfl <| Ab rfl <| Nl <| rt ?_
   cases h; exact Z1x Tryz.results142 rfl (Zx rfl (i := 5) rfl Zv) (Z4 rfl)
def Zf6 (l1 : (List Inst)) (k2 : Int) : Nat → Int → Option (Inst × Bool)
 | 0, _ => none
 | m6 + 1, i5 => (bif (decide (i5 < (l1.length : Int))) then (lget l1 i5).bind fun x7 => (bif (decide (x7.Kind = k2)) then (lget l1 i5).bind fun x8 => some (x8, true) else (Zf6 l1 k2 m6) (IntKind.i64.wrap (i5 + 1))) else some ((⟨0, 0, Z00, Z00, []⟩ : Inst), false))
def Z8e (l1 : (List Inst)) (k2 : Int) : Option (Inst × Bool) :=
 Zf6 l1 k2 ((((l1.length : Int) : Int) - 0).toNat + 1) 0
theorem Zir : Q2 Tryz.prog 151 (rd (Z3 Z1a)) (rd (Z0 .i64)) (fun r => Z1c (rd Z1a r.1) (rd Z7 r.2)) Z8e := fun l1 k2 r h => I0 Tryz.func151 rfl Tryz.ntmps151 rfl fun w H => by
 unfold Z8e at h
 refine SR <| Cv rfl (Zo 5 rfl rfl Z3s) fun g3 => Ab rfl <| Nl <| sq <| SR <| Ak rfl <| Nl <| bk <| LG (d := []) (ν := Nat × Int) (fun (m6, i5) => (True ∧ Zf6 l1 k2 m6 i5 = some r, m6, [(0, rd (Z3 Z1a) l1), (1, rd (Z0 .i64) k2), (4, Ze g3 (Lens.id Z1a)), (6, rd (Z0 .i64) i5)], [(5, Zf g3 124 Z1a Zs9)])) (((((l1.length : Int) : Int) - 0).toNat + 1), 0) ⟨trivial, h⟩ (FX rfl) ?_
 rintro ⟨m6, i5⟩ ⟨hsf1, h⟩
 dsimp only at h ⊢
 cases m6 with
 | zero => cases h
 | succ m6 =>
  unfold Zf6 at h
  refine sq <| SR <| Md rfl <| Md rfl <| Ac (Z09 rfl rfl Z8n (vt rfl)) rfl <| Ac (Zl rfl rfl (vt rfl) (vt rfl)) rfl <| Nl <| Cq rfl h (fun h => ?_) (fun h => ?_)
  ·refine sk <| sq <| bk <| sq ?_
   obtain ⟨x7, hx7, h⟩ := Za h
   refine Rg <| Md rfl <| Md rfl <| Ac (Z03 rfl rfl Z8n (vt rfl) (vt rfl) hx7) rfl <| Fp lInst_0 Zyn rfl <| Lp1 Zq rfl <| Md rfl <| Ac (Z0f rfl rfl (vt rfl) (vt rfl)) rfl <| Nl <| Cq rfl h (fun h => ?_) (fun h => ?_)
   ·refine sq ?_
    obtain ⟨x8, hx8, h⟩ := Za h
    refine Rg <| Md rfl <| Md rfl <| Ac (Z03 rfl rfl Z8n (vt rfl) (vt rfl) hx8) rfl <| Lp1 Z32 rfl <| Zd Z32 5 rfl <| Ab rfl <| Nl <| rt ?_
    cases h; exact Z1x Tryz.results151 rfl (Zx rfl (i := 5) rfl Z32) (Z4 rfl)
   ·refine sk <| Rg <| Md rfl <| Ac (Z02 rfl rfl (vt rfl) (vk rfl)) rfl <| As rfl <| Nl ?_
    exact ⟨(_, _), Nat.lt_succ_self _, ⟨trivial, h⟩, FX rfl⟩
  ·refine xt <| SR <| Ac (opb (⟨0, 0, Z00, Z00, []⟩ : Inst) Z3s rfl Zln (pn rfl)) rfl <| Zd Z32 5 rfl <| Ab rfl <| Nl <| rt ?_
   cases h; exact Z1x Tryz.results151 rfl (Zx rfl (i := 5) rfl Z32) (Z4 rfl)
def Zct : Nat → Z5 → Int → Option Z5
 | 0, _, _ => none
 | m8 + 1, b6, x7 => (bif (decide (x7 < 24)) then (chk 24 x7).bind fun j9 => (Z6s (Vector.get b6 j9)).bind fun x10 => (chk 24 x7).bind fun j11 => (Zct m8) (Vector.set b6 j11.1 x10 j11.2) (IntKind.i64.wrap (x7 + 1)) else some b6)
def Z69 (x1 : Z5) : Option Z5 :=
 Zct (((24 : Int) - 0).toNat + 1) x1 0
theorem Zi3 : Q1 Tryz.prog 145 (rd (Z1 24 Z2)) (rd (Z1 24 Z2)) Z69 := fun x1 r h => I0 Tryz.func145 rfl Tryz.ntmps145 rfl fun w H => by
 unfold Z69 at h
 refine SR <| Cv rfl (Zn 2 rfl rfl (vt rfl)) fun g2 => Cv rfl (Zo 3 rfl rfl Z30) fun g3 => Nl <| sq <| SR <| Ak rfl <| Nl <| bk <| LG (d := []) (ν := Nat × Z5 × Int) (fun (m8, b6, x7) => (True ∧ Zct m8 b6 x7 = some r, m8, [(1, Ze g2 (Lens.id (Z1 24 Z2))), (2, Ze g3 (Lens.id (Z1 24 Z2))), (3, rd (Z0 .i64) x7)], [(2, Zf g2 101 (Z1 24 Z2) b6), (3, Zf g3 101 (Z1 24 Z2) (Vector.replicate 24 zTern))])) ((((24 : Int) - 0).toNat + 1), x1, 0) ⟨trivial, h⟩ (FX rfl) ?_
 rintro ⟨m8, b6, x7⟩ ⟨hsf1, h⟩
 dsimp only at h ⊢
 cases m8 with
 | zero => cases h
 | succ m8 =>
  unfold Zct at h
  refine sq <| SR <| Md rfl <| Ac (Zl rfl rfl (vt rfl) (vk rfl)) rfl <| Nl <| Cq rfl h (fun h => ?_) (fun h => ?_)
  ·refine sk <| sq <| bk ?_
   obtain ⟨j9, hj9, x10, hx10, j11, hj11, h⟩ := bs3 h
   refine Rg <| Md rfl <| Md rfl <| Ac (Z0v rfl rfl Z3h (vt rfl) (vt rfl) hj9) rfl <| Ld Zw 2 rfl <| Cl [11] (Zbg _ _ hx10) Zba rfl <| Ac (Z0v rfl rfl Z3h (vt rfl) (vt rfl) hj11) rfl <| Zd Zw 2 rfl <| Nl <| Rg <| Md rfl <| Ac (Z02 rfl rfl (vt rfl) (vk rfl)) rfl <| As rfl <| Nl ?_
   exact ⟨(_, _, _), Nat.lt_succ_self _, ⟨trivial, h⟩, FX rfl⟩
  ·refine xt <| SR <| Ld Z01 2 rfl <| Zd Z01 3 rfl <| Nl <| rt ?_
   cases h; exact Zc Tryz.results145 rfl (Zx rfl (i := 3) rfl Z01)
def Zbn (x7 : Z5) : Nat → Z5 → Int → Option Z5
 | 0, _, _ => none
 | m12 + 1, b10, x11 => (bif (decide (x11 < 24)) then (chk 24 x11).bind fun j13 => (chk 24 x11).bind fun j14 => (Zc0 ((Vector.get b10 j13).Value) ((Vector.get x7 j14).Mask)).bind fun x15 => (chk 24 x11).bind fun j16 => (Z7b x15 ((Vector.get x7 j16).Value)).bind fun x17 => (chk 24 x11).bind fun j18 => (chk 24 x11).bind fun j19 => (Z7b ((Vector.get b10 j18).Mask) ((Vector.get x7 j19).Mask)).bind fun x20 => (chk 24 x11).bind fun j21 => (Zbn x7 m12) (Vector.set b10 j21.1 (⟨x17, x20⟩ : Tern) j21.2) (IntKind.i64.wrap (x11 + 1)) else some b10)
def Zg9 (a1 : Z5) (b2 : Z5) : Option Z5 :=
 (Z69 a1).bind fun x6 => (Z69 b2).bind fun x7 => Zbn x7 (((24 : Int) - 0).toNat + 1) x6 0
theorem Zy6 : Q2 Tryz.prog 226 (rd (Z1 24 Z2)) (rd (Z1 24 Z2)) (rd (Z1 24 Z2)) Zg9 := fun a1 b2 r h => I0 Tryz.func226 rfl Tryz.ntmps226 rfl fun w H => by
 unfold Zg9 at h
 refine SR <| Cv rfl (Zn 3 rfl rfl (vt rfl)) fun g3 => Cv rfl (Zn 4 rfl rfl (vt rfl)) fun g4 => Cv rfl (Zo 5 rfl rfl Z30) fun g5 => Nl <| sq ?_
 obtain ⟨x6, hx6, x7, hx7, h⟩ := bs2 h
 refine AR Zz (by kernel_rfl) <| Zu Z01 3 rfl <| SCl [6] (Zi3 _ _ hx6) Zj0 rfl <| Zu Z01 4 rfl <| SCl [8] (Zi3 _ _ hx7) Zj0 rfl <| SSt Z01 3 rfl <| SSt Z01 4 rfl <| Sn <| sq <| SR <| Ak rfl <| Nl <| bk <| LG (d := []) (ν := Nat × Z5 × Int) (fun (m12, b10, x11) => (True ∧ Zbn x7 m12 b10 x11 = some r, m12, [(2, Ze g3 (Lens.id (Z1 24 Z2))), (3, Ze g4 (Lens.id (Z1 24 Z2))), (4, Ze g5 (Lens.id (Z1 24 Z2))), (5, rd (Z0 .i64) x11)], [(3, Zf g3 101 (Z1 24 Z2) b10), (4, Zf g4 101 (Z1 24 Z2) x7), (5, Zf g5 101 (Z1 24 Z2) (Vector.replicate 24 zTern))])) ((((24 : Int) - 0).toNat + 1), x6, 0) ⟨trivial, h⟩ (FX rfl) ?_
 rintro ⟨m12, b10, x11⟩ ⟨hsf1, h⟩
 dsimp only at h ⊢
 cases m12 with
 | zero => cases h
 | succ m12 =>
  unfold Zbn at h
  refine sq <| SR <| Md rfl <| Ac (Zl rfl rfl (vt rfl) (vk rfl)) rfl <| Nl <| Cq rfl h (fun h => ?_) (fun h => ?_)
  ·refine sk <| sq <| bk ?_
   obtain ⟨j13, hj13, j14, hj14, x15, hx15, j16, hj16, h⟩ := bs4 h
   obtain ⟨x17, hx17, j18, hj18, j19, hj19, x20, hx20, h⟩ := bs4 h
   obtain ⟨j21, hj21, h⟩ := Za h
   refine AR Zz (by kernel_rfl) <| Zg rfl <| Zg rfl <| Sd (lo [2, 15] [] rfl fun S hs hr => Z0v rfl rfl Z3h (vh hs 2 rfl rfl) (vh hs 15 rfl rfl) hj13) <| SFd lTern_0 Z1y rfl <| Zu Zs 3 rfl <| Zg rfl <| Sd (lo [3, 19] [] rfl fun S hs hr => Z0v rfl rfl Z3h (vh hs 3 rfl rfl) (vh hs 19 rfl rfl) hj14) <| SFd lTern_1 Z1h rfl <| Zu Zs 4 rfl <| SCl [18, 22] (Znb _ _ _ hx15) Zoq rfl <| Zg rfl <| Sd (lo [3, 24] [] rfl fun S hs hr => Z0v rfl rfl Z3h (vh hs 3 rfl rfl) (vh hs 24 rfl rfl) hj16) <| SFd lTern_0 Z1y rfl <| Zu Zs 4 rfl <| SCl [23, 27] (Zb1 _ _ _ hx17) Zaw rfl <| Zg rfl <| Sd (lo [2, 29] [] rfl fun S hs hr => Z0v rfl rfl Z3h (vh hs 2 rfl rfl) (vh hs 29 rfl rfl) hj18) <| SFd lTern_1 Z1h rfl <| Zu Zs 3 rfl <| Zg rfl <| Sd (lo [3, 33] [] rfl fun S hs hr => Z0v rfl rfl Z3h (vh hs 3 rfl rfl) (vh hs 33 rfl rfl) hj19) <| SFd lTern_1 Z1h rfl <| Zu Zs 4 rfl <| SCl [32, 36] (Zb1 _ _ _ hx20) Zaw rfl <| Sd (lo [28, 37] [] rfl fun S hs hr => opb (⟨x17, x20⟩ : Tern) Z17 rfl Z3r (pc Z4y (vh hs 28 rfl rfl) <| pc Z51 (vh hs 37 rfl rfl) <| pn rfl)) <| Sd (lo [2, 14] [] rfl fun S hs hr => Z0v rfl rfl Z3h (vh hs 2 rfl rfl) (vh hs 14 rfl rfl) hj21) <| SSt Zw 3 rfl <| Sn <| Rg <| Md rfl <| Ac (Z02 rfl rfl (vt rfl) (vk rfl)) rfl <| As rfl <| Nl ?_
   exact ⟨(_, _, _), Nat.lt_succ_self _, ⟨trivial, h⟩, FX rfl⟩
  ·refine xt <| SR <| Ld Z01 3 rfl <| Zd Z01 5 rfl <| Nl <| rt ?_
   cases h; exact Zc Tryz.results226 rfl (Zx rfl (i := 5) rfl Z01)
end Go.Proofs.YtknpgojdkobgjaaGreat.W
set_option maxRecDepth 4000
namespace Go.Proofs.YtknpgojdkobgjaaGreat.W
open Go Go.Wb
theorem Zz1 : Ent Tryz.prog 226 := Ent.mk Tryz.func226 rfl rfl
theorem e80 : Ent Tryz.prog 80 := Ent.mk Tryz.func80 rfl rfl
theorem Zjx : Ent Tryz.prog 154 := Ent.mk Tryz.func154 rfl rfl
theorem Yal : Ent Tryz.prog 272 := Ent.mk Tryz.func272 rfl rfl
theorem Y7c : Ent Tryz.prog 224 := Ent.mk Tryz.func224 rfl rfl
theorem Zkw : Ent Tryz.prog 227 := Ent.mk Tryz.func227 rfl rfl
theorem Y9q : Ent Tryz.prog 228 := Ent.mk Tryz.func228 rfl rfl
theorem Yd3 : Ent Tryz.prog 139 := Ent.mk Tryz.func139 rfl rfl
theorem Ybi : Ent Tryz.prog 141 := Ent.mk Tryz.func141 rfl rfl
theorem Y8e : Ent Tryz.prog 140 := Ent.mk Tryz.func140 rfl rfl
theorem Zll : Ent Tryz.prog 142 := Ent.mk Tryz.func142 rfl rfl
theorem Yg6 : Ent Tryz.prog 143 := Ent.mk Tryz.func143 rfl rfl
def Zem (x1 : Z5) (b10 : Z5) : Option Z5 :=
 (Zg9 x1 b10).bind fun x11 => some x11
def Z7o (x1 : Z5) (x2 : Int) (x3 : Wide) (m4 : Wide) : Option Z5 :=
 (Z9k x2).bind fun x12 => (bif x12 then (chk 24 x2).bind fun j13 => Zem x1 (Vector.set (Vector.replicate 24 zTern) j13.1 (⟨x3, m4⟩ : Tern) j13.2) else Zem x1 (Vector.replicate 24 zTern))
theorem Zk7 : Q4 Tryz.prog 154 (rd (Z1 24 Z2)) (rd (Z0 .i64)) (rd Zp) (rd Zp) (rd (Z1 24 Z2)) Z7o := fun x1 x2 x3 m4 r h => I0 Tryz.func154 rfl Tryz.ntmps154 rfl fun w H => by
 unfold Z7o at h
 refine SR <| Cv rfl (Zn 5 rfl rfl (vt rfl)) fun g5 => Cv rfl (Zn 7 rfl rfl (vt rfl)) fun g6 => Cv rfl (Zn 8 rfl rfl (vt rfl)) fun g7 => Cv rfl (Zo 9 rfl rfl Z30) fun g8 => Nl <| SR <| Ac (Z13 (ps := []) (x := (Vector.replicate 24 zTern)) rfl rfl rfl (by kernel_rfl) Z30 rfl) rfl <| Cv rfl (Zo 10 rfl rfl Z30) fun g9 => Zd Z01 10 rfl <| Nl ?_
 refine JN (d := []) (ν := Z5) (fun b10 => (Zem x1 b10 = some r, [(4, Ze g5 (Lens.id (Z1 24 Z2))), (8, Ze g8 (Lens.id (Z1 24 Z2))), (9, Ze g9 (Lens.id (Z1 24 Z2)))], [(5, Zf g5 101 (Z1 24 Z2) x1), (9, Zf g8 101 (Z1 24 Z2) (Vector.replicate 24 zTern)), (10, Zf g9 101 (Z1 24 Z2) b10)])) ?hx1 ?hy1
 case hy1 =>
  intro b10 h
  dsimp only at h ⊢
  unfold Zem at h
  refine sq ?_
  obtain ⟨x11, hx11, h⟩ := Za h
  refine Rg <| Ld Z01 5 rfl <| Ld Z01 10 rfl <| Cl [18, 19] (Zy6 _ _ _ hx11) Zz1 rfl <| Zd Z01 9 rfl <| Nl <| rt ?_
  cases h; exact Zc Tryz.results154 rfl (Zx rfl (i := 9) rfl Z01)
 case hx1 =>
  refine sq ?_
  obtain ⟨x12, hx12, h⟩ := Za h
  refine Rg <| Md rfl <| Cl [11] (Zqm _ _ hx12) Zq6 rfl <| Nl <| Cq rfl h (fun h => ?_) (fun h => ?_)
  ·obtain ⟨j13, hj13, h⟩ := Za h
   refine Rg <| Md rfl <| Ld Zs 7 rfl <| Ld Zs 8 rfl <| Ac (opb (⟨x3, m4⟩ : Tern) Z17 rfl Z3r (pc Z4y (vt rfl) <| pc Z51 (vt rfl) <| pn rfl)) rfl <| Ac (Z0v rfl rfl Z3h (vt rfl) (vt rfl) hj13) rfl <| Zd Zw 10 rfl <| Nl ?_
   exact ⟨_, h, FX rfl⟩
  ·refine sk ?_
   exact ⟨_, h, FX rfl⟩
def Zip (a1 : Action) : Option Z5 :=
 (bif (decide (a1.Kind = 25)) then (Zdz a1.Oxm).bind fun x4 => (Z7r).bind fun x6 => (Z7o x6 a1.Oxm.Field x4.Value x4.Mask).bind fun x7 => some x7 else (bif (decide (a1.Kind = 17)) then (Z7r).bind fun x8 => (Z7j 12).bind fun x9 => (Z7j 12).bind fun x10 => (Z7o x8 5 x9 x10).bind fun x11 => some x11 else (bif (decide (a1.Kind = 18)) then (Z7r).bind fun x12 => (Z9r 13).bind fun x13 => (Z7o x12 5 (⟨0, 0⟩ : Wide) x13).bind fun x14 => (Z9r 3).bind fun x16 => (Z7o x14 6 (⟨0, 0⟩ : Wide) x16).bind fun x17 => some x17 else (Z7r).bind fun x18 => some x18)))
theorem Yii : Q1 Tryz.prog 272 (rd Z8) (rd (Z1 24 Z2)) Zip := fun a1 r h => I0 Tryz.func272 rfl Tryz.ntmps272 rfl fun w H => by
 unfold Zip at h
 refine SR <| Cv rfl (Zn 2 rfl rfl (vt rfl)) fun g2 => Cv rfl (Zo 3 rfl rfl Z30) fun g3 => Nl <| sq <| SR <| Zt lAction_0 Z4o rfl <| Ld Zq 2 rfl <| Nl <| bk <| SR <| Ac (Z0f rfl rfl (vt rfl) (vk rfl)) rfl <| As rfl <| Nl <| Cq rfl h (fun h => ?_) (fun h => ?_)
 ·refine sq ?_
  obtain ⟨x4, hx4, h⟩ := Za h
  refine Rg <| Zt Z5r Z6u rfl <| Ld Z8m 2 rfl <| Cl [10] (Y28 _ _ hx4) Zwl rfl <| Cv rfl (Zo 4 rfl rfl Z17) fun g5 => Zd Zw 4 rfl <| Nl <| sq ?_
  obtain ⟨x6, hx6, x7, hx7, h⟩ := bs2 h
  refine AR Zz (by kernel_rfl) <| SCl [] (Zkr _ hx6) e80 rfl <| SFd Z5r Z6u rfl <| SFd Z40 Z49 rfl <| Zu Zq 2 rfl <| SFd lTern_0 Z1y rfl <| Zu Zs 4 rfl <| SFd lTern_1 Z1h rfl <| Zu Zs 4 rfl <| SCl [12, 15, 17, 19] (Zk7 _ _ _ _ _ hx7) Zjx rfl <| SSt Z01 3 rfl <| Sn <| rt ?_
  cases h; exact Zc Tryz.results272 rfl (Zx rfl (i := 3) rfl Z01)
 ·refine SR <| Ac (Z0f rfl rfl (vt rfl) (vk rfl)) rfl <| As rfl <| Nl <| Cq rfl h (fun h => ?_) (fun h => ?_)
  ·refine sq ?_
   obtain ⟨x8, hx8, x9, hx9, x10, hx10, x11, hx11, h⟩ := bs4 h
   refine Rg <| Cl [] (Zkr _ hx8) e80 rfl <| Ac (Z0b (xs := [.const (Value.int IntKind.i64 12)]) (Zin _ _ hx9) Zhb rfl rfl ⟨vk rfl, trivial⟩) rfl <| Ac (Z0b (xs := [.const (Value.int IntKind.i64 12)]) (Zin _ _ hx10) Zhb rfl rfl ⟨vk rfl, trivial⟩) rfl <| Ac (Z0b (xs := [.tmp 23, .const (Value.int IntKind.i64 5), .tmp 24, .tmp 25]) (Zk7 _ _ _ _ _ hx11) Zjx rfl rfl ⟨vt rfl, vk rfl, vt rfl, vt rfl, trivial⟩) rfl <| Zd Z01 3 rfl <| Nl <| rt ?_
   cases h; exact Zc Tryz.results272 rfl (Zx rfl (i := 3) rfl Z01)
  ·refine SR <| Ac (Z0f rfl rfl (vt rfl) (vk rfl)) rfl <| As rfl <| Nl <| Cq rfl h (fun h => ?_) (fun h => ?_)
   ·refine sq ?_
    obtain ⟨x12, hx12, x13, hx13, x14, hx14, h⟩ := bs3 h
    refine Rg <| Cl [] (Zkr _ hx12) e80 rfl <| Ac (opb (⟨0, 0⟩ : Wide) Z1n rfl Z3o (pn rfl)) rfl <| Ac (Z0b (xs := [.const (Value.int IntKind.i64 13)]) (Zpf _ _ hx13) Zpy rfl rfl ⟨vk rfl, trivial⟩) rfl <| Ac (Z0b (xs := [.tmp 29, .const (Value.int IntKind.i64 5), .tmp 30, .tmp 31]) (Zk7 _ _ _ _ _ hx14) Zjx rfl rfl ⟨vt rfl, vk rfl, vt rfl, vt rfl, trivial⟩) rfl <| Cv rfl (Zo 5 rfl rfl Z30) fun g15 => Zd Z01 5 rfl <| Nl <| sq ?_
    obtain ⟨x16, hx16, x17, hx17, h⟩ := bs2 h
    refine AR Zz (by kernel_rfl) <| Zu Z01 5 rfl <| Sd (lo [] [] rfl fun S hs hr => opb (⟨0, 0⟩ : Wide) Z1n rfl Z3o (pn rfl)) <| Sd (lo [] [] rfl fun S hs hr => Z0b (xs := [.const (Value.int IntKind.i64 3)]) (Zpf _ _ hx16) Zpy rfl rfl ⟨vk rfl, trivial⟩) <| Sd (lo [33, 34, 35] [] rfl fun S hs hr => Z0b (xs := [.tmp 33, .const (Value.int IntKind.i64 6), .tmp 34, .tmp 35]) (Zk7 _ _ _ _ _ hx17) Zjx rfl rfl ⟨vt ((hs 33 rfl).trans rfl), vk rfl, vt ((hs 34 rfl).trans rfl), vt ((hs 35 rfl).trans rfl), trivial⟩) <| SSt Z01 3 rfl <| Sn <| rt ?_
    cases h; exact Zc Tryz.results272 rfl (Zx rfl (i := 3) rfl Z01)
   ·refine sk <| sq ?_
    obtain ⟨x18, hx18, h⟩ := Za h
    refine Rg <| Cl [] (Zkr _ hx18) e80 rfl <| Zd Z01 3 rfl <| Nl <| rt ?_
    cases h; exact Zc Tryz.results272 rfl (Zx rfl (i := 3) rfl Z01)
def Zdf (l12 : (List Atom)) (go1 : Z5 → (List Atom) → Int → Option ((List Atom) × Z5)) (b11 : Z5) (i14 : Int) (b19 : Atom) : Option ((List Atom) × Z5) :=
 (Z0y l12 [b19]).bind fun l20 => go1 b11 l20 (IntKind.i64.wrap (i14 + 1))
def Z6f (a1 : (List Action)) : Nat → Z5 → (List Atom) → Int → Option ((List Atom) × Z5)
 | 0, _, _, _ => none
 | m15 + 1, b11, l12, i14 => (bif (decide (i14 < (a1.length : Int))) then (lget a1 i14).bind fun x16 => (bif (decide (x16.Kind = 0)) then (lget a1 i14).bind fun x17 => (bif (decide (((⟨b11, false, x17.Port, 0⟩ : Atom).Port) = 4294967293)) then (lget a1 i14).bind fun x22 => Zdf l12 (Z6f a1 m15) b11 i14 { (⟨b11, false, x17.Port, 0⟩ : Atom) with Max := x22.Max } else Zdf l12 (Z6f a1 m15) b11 i14 (⟨b11, false, x17.Port, 0⟩ : Atom)) else (bif (decide (x16.Kind = 22)) then (lget a1 i14).bind fun x23 => (Z0y l12 [(⟨b11, true, x23.Group, 0⟩ : Atom)]).bind fun l24 => (Z6f a1 m15) b11 l24 (IntKind.i64.wrap (i14 + 1)) else (lget a1 i14).bind fun x26 => (Zip x26).bind fun x27 => (Zg9 b11 x27).bind fun x28 => (Z6f a1 m15) x28 l12 (IntKind.i64.wrap (i14 + 1)))) else some (l12, b11))
def Zbj (a1 : (List Action)) (x2 : Z5) : Option ((List Atom) × Z5) :=
 (Z69 x2).bind fun x5 => Z6f a1 ((((a1.length : Int) : Int) - 0).toNat + 1) x5 [] 0
theorem Zth : Q2 Tryz.prog 211 (rd (Z3 Z8)) (rd (Z1 24 Z2)) (fun r => Z1c (rd (Z3 Z05) r.1) (rd (Z1 24 Z2) r.2)) Zbj := fun a1 x2 r h => I0 Tryz.func211 rfl Tryz.ntmps211 rfl fun w H => by
 unfold Zbj at h
 refine SR <| Cv rfl (Zn 4 rfl rfl (vt rfl)) fun g3 => Ac (Z04 (A := rd (Z3 Z05) []) rfl rfl Z26) rfl <| Cv rfl (Zo 6 rfl rfl Z30) fun g4 => Nl <| sq ?_
 obtain ⟨x5, hx5, h⟩ := Za h
 refine Rg <| Ld Z01 4 rfl <| Cl [9] (Zi3 _ _ hx5) Zj0 rfl <| Zd Z01 4 rfl <| Nl <| SR <| Cv rfl (Z43 1001 (ps := []) (l := []) rfl rfl Z28 Z55 rfl rfl rfl rfl) fun v6 => Aw rfl <| Nl <| sq <| SR <| Ak rfl <| Nl <| bk <| LG (d := []) (ν := Nat × Z5 × (List Atom) × Int × Value) (fun (m15, b11, l12, i14, v13) => (True ∧ Z6f a1 m15 b11 l12 i14 = some r, m15, [(0, rd (Z3 Z8) a1), (3, Ze g3 (Lens.id (Z1 24 Z2))), (5, Ze g4 (Lens.id (Z1 24 Z2))), (6, Zj v13), (7, rd (Z0 .i64) i14)], [(4, Zf g3 101 (Z1 24 Z2) b11), (6, Zf g4 101 (Z1 24 Z2) (Vector.replicate 24 zTern)), (1001, Zh v13 126 Z05 l12)])) (((((a1.length : Int) : Int) - 0).toNat + 1), x5, [], 0, v6) ⟨trivial, h⟩ (FX rfl) ?_
 rintro ⟨m15, b11, l12, i14, v13⟩ ⟨hsf1, h⟩
 dsimp only at h ⊢
 cases m15 with
 | zero => cases h
 | succ m15 =>
  unfold Z6f at h
  refine sq <| SR <| Md rfl <| Md rfl <| Ac (Z09 rfl rfl Z08 (vt rfl)) rfl <| Ac (Zl rfl rfl (vt rfl) (vt rfl)) rfl <| Nl <| Cq rfl h (fun h => ?_) (fun h => ?_)
  ·refine sk <| sq <| bk <| sq ?_
   obtain ⟨x16, hx16, h⟩ := Za h
   refine Rg <| Md rfl <| Md rfl <| Ac (Z03 rfl rfl Z08 (vt rfl) (vt rfl) hx16) rfl <| Fp lAction_0 Z4o rfl <| Lp1 Zq rfl <| Nl <| bk <| SR <| Ac (Z0f rfl rfl (vt rfl) (vk rfl)) rfl <| As rfl <| Nl <| Cq rfl h (fun h => ?_) (fun h => ?_)
   ·refine sq ?_
    obtain ⟨x17, hx17, h⟩ := Za h
    refine AR Zz (by kernel_rfl) <| Zu Z01 4 rfl <| Zg rfl <| Zg rfl <| Sd (lo [33, 34] [] rfl fun S hs hr => Z03 rfl rfl Z08 (vh hs 33 rfl rfl) (vh hs 34 rfl rfl) hx17) <| SFp lAction_1 Zia rfl <| SLp Zq rfl <| Sd (lo [32, 37] [] rfl fun S hs hr => opb (⟨b11, false, x17.Port, 0⟩ : Atom) Z55 rfl Zta (pc Zs3 (vh hs 32 rfl rfl) <| pc Zv1 (vh hs 37 rfl rfl) <| pn rfl)) <| Sd (Z11 (us := [(8, Z1u 126 Z05 Zpt)]) (ur := []) [] [] rfl fun S hs hr => Z4t rfl rfl rfl Z55) <| Sd (Z11 (us := [(8, Z1u 126 Z05 (⟨b11, false, x17.Port, 0⟩ : Atom))]) (ur := []) [8, 38] [] rfl fun S hs hr => Z54 rfl rfl Z5w ((hs 8 rfl).trans rfl) (vh hs 38 rfl rfl)) <| Sn <| AW.unpackP 8 9 rfl rfl fun g18 => ?_
    refine JN (d := []) (ν := Atom) (fun b19 => (Zdf l12 (Z6f a1 m15) b11 i14 b19 = some r, [(0, rd (Z3 Z8) a1), (3, Ze g3 (Lens.id (Z1 24 Z2))), (5, Ze g4 (Lens.id (Z1 24 Z2))), (6, Zj v13), (7, rd (Z0 .i64) i14), (8, Ze g18 (Lens.id Z05))], [(4, Zf g3 101 (Z1 24 Z2) b11), (6, Zf g4 101 (Z1 24 Z2) (Vector.replicate 24 zTern)), (9, Zf g18 126 Z05 b19), (1001, Zh v13 126 Z05 l12)])) ?hx2 ?hy2
    case hy2 =>
     intro b19 h
     dsimp only at h ⊢
     unfold Zdf at h
     obtain ⟨l20, hl20, h⟩ := Za h
     refine Rg <| Mw rfl <| Ld Z5w 9 rfl <| Ac (osl Z28 Z55 rfl (vt rfl)) rfl <| Cv rfl (Z29 1001 hl20 rfl rfl Z7u (vt rfl) rfl (vt rfl)) fun v21 => Aw rfl <| Nl <| Rg <| Md rfl <| Ac (Z02 rfl rfl (vt rfl) (vk rfl)) rfl <| As rfl <| Nl ?_
     exact ⟨(_, _, _, _, _), Nat.lt_succ_self _, ⟨trivial, h⟩, FX rfl⟩
    case hx2 =>
     refine SR <| Zt lAtom_2 Zix rfl <| Ld Zq 9 rfl <| Ac (Z0f rfl rfl (vt rfl) (vk rfl)) rfl <| Nl <| Cq rfl h (fun h => ?_) (fun h => ?_)
     ·obtain ⟨x22, hx22, h⟩ := Za h
      refine Rg <| Md rfl <| Md rfl <| Ac (Z03 rfl rfl Z08 (vt rfl) (vt rfl) hx22) rfl <| Fp Zjk Zo5 rfl <| Lp1 Zq rfl <| Zt Zky Zon rfl <| Zd Zq 9 rfl <| Nl ?_
      exact ⟨_, h, FX rfl⟩
     ·refine sk ?_
      exact ⟨_, h, FX rfl⟩
   ·refine SR <| Ac (Z0f rfl rfl (vt rfl) (vk rfl)) rfl <| As rfl <| Nl <| Cq rfl h (fun h => ?_) (fun h => ?_)
    ·obtain ⟨x23, hx23, l24, hl24, h⟩ := bs2 h
     refine AR Zz (by kernel_rfl) <| SMw rfl <| Zu Z01 4 rfl <| Zg rfl <| Zg rfl <| Sd (lo [56, 57] [] rfl fun S hs hr => Z03 rfl rfl Z08 (vh hs 56 rfl rfl) (vh hs 57 rfl rfl) hx23) <| SFp Zim Zmy rfl <| SLp Zq rfl <| Sd (lo [55, 60] [] rfl fun S hs hr => opb (⟨b11, true, x23.Group, 0⟩ : Atom) Z55 rfl Zta (pc Zs3 (vh hs 55 rfl rfl) <| pc Y34 vb <| pc Zv1 (vh hs 60 rfl rfl) <| pn rfl)) <| Sd (lo [61] [] rfl fun S hs hr => osl Z28 Z55 rfl (vh hs 61 rfl rfl)) <| Sd (Z11 (us := [(63, Z23 126 Z05 l24)]) (ur := [(1001, emp)]) [54, 62] [1001] rfl fun S hs hr => Z98 1001 hl24 rfl rfl rfl Z7u (vh hs 54 rfl rfl) ((hr 1001 rfl).trans rfl) (vh hs 62 rfl rfl)) <| Sd (Z11 (us := [(63, top), (6, Z23 126 Z05 l24)]) (ur := []) [63] [1002] rfl fun S hs hr => Zgp 1002 rfl rfl rfl rfl ((hs 63 rfl).trans rfl) ((hr 1002 rfl).trans rfl)) <| Sn <| AW.unpackR 6 1001 rfl rfl fun v25 => Rg <| Md rfl <| Ac (Z02 rfl rfl (vt rfl) (vk rfl)) rfl <| As rfl <| Nl ?_
     exact ⟨(_, _, _, _, _), Nat.lt_succ_self _, ⟨trivial, h⟩, FX rfl⟩
    ·obtain ⟨x26, hx26, x27, hx27, x28, hx28, h⟩ := bs3 h
     refine AR Zz (by kernel_rfl) <| Zu Z01 4 rfl <| Zg rfl <| Zg rfl <| Sd (lo [24, 25] [] rfl fun S hs hr => Z03 rfl rfl Z08 (vh hs 24 rfl rfl) (vh hs 25 rfl rfl) hx26) <| SLp Z0h rfl <| SCl [27] (Yii _ _ hx27) Yal rfl <| SCl [23, 28] (Zy6 _ _ _ hx28) Zz1 rfl <| SSt Z01 4 rfl <| Sn <| Rg <| Md rfl <| Ac (Z02 rfl rfl (vt rfl) (vk rfl)) rfl <| As rfl <| Nl ?_
     exact ⟨(_, _, _, _, _), Nat.lt_succ_self _, ⟨trivial, h⟩, FX rfl⟩
  ·refine xt <| sq <| AR Zz (by kernel_rfl) <| SMw rfl <| Zu Z01 4 rfl <| Sd (lo [64] [] rfl fun S hs hr => Z04 (A := Zj v13) rfl rfl (vh hs 64 rfl rfl)) <| SSt Z01 6 rfl <| Sn <| AW.freezes [4, 6, 64] 1001 rfl ⟨rfl, rfl, rfl, trivial⟩ rfl <| rt ?_
   cases h; exact Z1x Tryz.results211 rfl (Z4 rfl) (Zx rfl (i := 6) rfl Z01)
def Zgq (a1 : Action) (b2 : Action) : Option Bool :=
 some ((decide (a1.Kind = b2.Kind)) && ((decide (a1.Kind ≠ 25)) || (decide (a1.Oxm.Field = b2.Oxm.Field))))
theorem Y8d : Q2 Tryz.prog 224 (rd Z8) (rd Z8) (rd Z7) Zgq := fun a1 b2 r h => I0 Tryz.func224 rfl Tryz.ntmps224 rfl fun w H => by
 unfold Zgq at h
 refine SR <| Cv rfl (Zn 3 rfl rfl (vt rfl)) fun g3 => Cv rfl (Zn 4 rfl rfl (vt rfl)) fun g4 => Ab rfl <| Nl <| SR <| Zt lAction_0 Z4o rfl <| Ld Zq 3 rfl <| Zt lAction_0 Z4o rfl <| Ld Zq 4 rfl <| Ac (Z0f rfl rfl (vt rfl) (vt rfl)) rfl <| Md rfl <| Gd rfl (fun hq => Z0t lAction_0 rfl rfl Z4o (vt rfl)) <| Gd rfl (fun hq => Z0g rfl rfl Zq (Z6 rfl hq) (i := 3) rfl) <| Gd rfl (fun hq => Z2o rfl rfl (Z6 rfl hq) (vk rfl)) <| AOps.consG (OpG.guardX rfl rfl rfl rfl rfl fun hq => Zk (A := rd Z7 (decide (a1.Kind ≠ 25))) rfl rfl (Z6 rfl hq)) <| AOps.consG (OpG.guardN rfl rfl rfl rfl rfl fun hq => Z0t Z5r rfl rfl Z6u (vt rfl)) <| AOps.consG (OpG.guardN rfl rfl rfl rfl rfl fun hq => Z0t Z40 rfl rfl Z49 (Z6 rfl hq)) <| AOps.consG (OpG.guardN rfl rfl rfl rfl rfl fun hq => Z0g rfl rfl Zq (Z6 rfl hq) (i := 3) rfl) <| AOps.consG (OpG.guardN rfl rfl rfl rfl rfl fun hq => Z0t Z5r rfl rfl Z6u (vt rfl)) <| AOps.consG (OpG.guardN rfl rfl rfl rfl rfl fun hq => Z0t Z40 rfl rfl Z49 (Z6 rfl hq)) <| AOps.consG (OpG.guardN rfl rfl rfl rfl rfl fun hq => Z0g rfl rfl Zq (Z6 rfl hq) (i := 4) rfl) <| AOps.consG (OpG.guardN rfl rfl rfl rfl rfl fun hq => Z0f rfl rfl (Z6 rfl hq) (Z6 rfl hq)) <| Gd rfl (fun hq => Z4g rfl rfl (vgx rfl hq) (vgw rfl hq)) <| Ac (Z0o rfl rfl (vt rfl) (vt rfl)) rfl <| As rfl <| Nl <| rt ?_
 cases h; exact Zc Tryz.results224 rfl (Z4 rfl)
def Zd9 (l9 : (List Action)) (l2 : (List Action)) (i11 : Int) (go1 : (List Action) → Int → Option (List Action)) : Nat → Int → Int → Option (List Action)
 | 0, _, _ => none
 | m17 + 1, a15, j16 => (bif (decide (j16 < (l9.length : Int))) then (opt (decide (a15 < 0)) (lget l9 j16)).bind fun x18 => (opt (decide (a15 < 0)) (lget l2 i11)).bind fun x19 => (opt (decide (a15 < 0)) (Zgq x18 x19)).bind fun x20 => (bif ((decide (a15 < 0)) && x20) then (Zd9 l9 l2 i11 go1 m17) j16 (IntKind.i64.wrap (j16 + 1)) else (Zd9 l9 l2 i11 go1 m17) a15 (IntKind.i64.wrap (j16 + 1))) else (bif (decide (a15 < 0)) then (lget l2 i11).bind fun x21 => (Z0y l9 [x21]).bind fun l22 => go1 l22 (IntKind.i64.wrap (i11 + 1)) else (lget l2 i11).bind fun x24 => (lget l9 a15).bind fun x25 => go1 (List.set l9 a15.toNat x24) (IntKind.i64.wrap (i11 + 1))))
def Za3 (l2 : (List Action)) : Nat → (List Action) → Int → Option (List Action)
 | 0, _, _ => none
 | m12 + 1, l9, i11 => (bif (decide (i11 < (l2.length : Int))) then Zd9 l9 l2 i11 (Za3 l2 m12) ((((l9.length : Int) : Int) - 0).toNat + 1) (-1) 0 else some l9)
def Zlc (s1 : (List Action)) (l2 : (List Action)) : Option (List Action) :=
 (Z0y [] s1).bind fun l4 => Za3 l2 ((((l2.length : Int) : Int) - 0).toNat + 1) l4 0
theorem Yjg : Q2 Tryz.prog 153 (rd (Z3 Z8)) (rd (Z3 Z8)) (rd (Z3 Z8)) Zlc := fun s1 l2 r h => I0 Tryz.func153 rfl Tryz.ntmps153 rfl fun w H => by
 unfold Zlc at h
 refine SR <| Ac (Z04 (A := rd (Z3 Z8) []) rfl rfl Z26) rfl <| Nl <| sq ?_
 obtain ⟨l4, hl4, h⟩ := Za h
 refine Rg <| Cv rfl (Z43 1001 (ps := []) (l := []) rfl rfl Z08 Z4e rfl rfl rfl rfl) fun v3 => Md rfl <| Cv rfl (Z29 1001 hl4 rfl rfl Z7d (vt rfl) rfl (vt rfl)) fun v5 => Aw rfl <| Nl <| sq <| SR <| Ak rfl <| Nl <| bk <| LG (d := []) (ν := Nat × (List Action) × Int × Value) (fun (m12, l9, i11, v10) => (True ∧ Za3 l2 m12 l9 i11 = some r, m12, [(1, rd (Z3 Z8) l2), (5, Zj v10), (6, rd (Z0 .i64) i11)], [(1001, Zh v10 121 Z8 l9)])) (((((l2.length : Int) : Int) - 0).toNat + 1), l4, 0, v5) ⟨trivial, h⟩ (FX rfl) ?_
 rintro ⟨m12, l9, i11, v10⟩ ⟨hsf1, h⟩
 dsimp only at h ⊢
 cases m12 with
 | zero => cases h
 | succ m12 =>
  unfold Za3 at h
  refine sq <| SR <| Md rfl <| Md rfl <| Ac (Z09 rfl rfl Z08 (vt rfl)) rfl <| Ac (Zl rfl rfl (vt rfl) (vt rfl)) rfl <| Nl <| Cq rfl h (fun h => ?_) (fun h => ?_)
  ·refine sk <| sq <| bk <| SR <| Ak rfl <| Nl <| sq <| SR <| Ak rfl <| Nl <| bk <| LG (d := []) (ν := Nat × Int × Int) (fun (m17, a15, j16) => (True ∧ Zd9 l9 l2 i11 (Za3 l2 m12) m17 a15 j16 = some r, m17, [(1, rd (Z3 Z8) l2), (5, Zj v10), (6, rd (Z0 .i64) i11), (7, rd (Z0 .i64) a15), (8, rd (Z0 .i64) j16)], [(1001, Zh v10 121 Z8 l9)])) (((((l9.length : Int) : Int) - 0).toNat + 1), (-1), 0) ⟨trivial, h⟩ (FX rfl) ?_
   rintro ⟨m17, a15, j16⟩ ⟨hsf2, h⟩
   dsimp only at h ⊢
   cases m17 with
   | zero => cases h
   | succ m17 =>
    unfold Zd9 at h
    refine sq <| SR <| Md rfl <| Mw rfl <| Ac (Z5s 1001 rfl rfl Z08 (vt rfl) rfl) rfl <| Ac (Zl rfl rfl (vt rfl) (vt rfl)) rfl <| Nl <| Cq rfl h (fun h => ?_) (fun h => ?_)
    ·refine sk <| sq <| bk <| sq ?_
     obtain ⟨x18, hx18, x19, hx19, x20, hx20, h⟩ := bs3 h
     refine AR Zz (by kernel_rfl) <| Zg rfl <| Sd (lo [24] [] rfl fun S hs hr => Zl rfl rfl (vh hs 24 rfl rfl) (vk rfl)) <| Zg rfl <| Sd (lg [5, 26] [] rfl fun hq S hs hr => Zk (A := Zj v10) rfl rfl (vh hs 5 rfl rfl)) <| Sd (lg [8, 26] [] rfl fun hq S hs hr => Zk (A := rd (Z0 .i64) j16) rfl rfl (vh hs 8 rfl rfl)) <| Sd (lg [27, 28, 26] [1001] rfl fun hq S hs hr => Z1r 1001 rfl rfl Z08 (Z6 ((hs 27 rfl).trans rfl) hq) ((hr 1001 rfl).trans rfl) (Z6 ((hs 28 rfl).trans rfl) hq) (Z16 hx18 hq)) <| Sd (lg [29, 26] [1001] rfl fun hq S hs hr => Z1f 1001 rfl rfl Z0h (Z6 ((hs 29 rfl).trans rfl) hq) ((hr 1001 rfl).trans rfl) (Z0e (Z16 hx18 hq)).2) <| Sd (lg [1, 26] [] rfl fun hq S hs hr => Zk (A := rd (Z3 Z8) l2) rfl rfl (vh hs 1 rfl rfl)) <| Sd (lg [6, 26] [] rfl fun hq S hs hr => Zk (A := rd (Z0 .i64) i11) rfl rfl (vh hs 6 rfl rfl)) <| Sd (lg [31, 32, 26] [] rfl fun hq S hs hr => Z03 rfl rfl Z08 (Z6 ((hs 31 rfl).trans rfl) hq) (Z6 ((hs 32 rfl).trans rfl) hq) (Z16 hx19 hq)) <| Sd (lg [33, 26] [] rfl fun hq S hs hr => Z2e rfl rfl Z0h (Z6 ((hs 33 rfl).trans rfl) hq)) <| Sd (lg [30, 34, 26] [] rfl fun hq S hs hr => Z0b (xs := [.tmp 30, .tmp 34]) (Y8d _ _ _ (Z16 hx20 hq)) Y7c rfl rfl ⟨Z6 ((hs 30 rfl).trans rfl) hq, Z6 ((hs 34 rfl).trans rfl) hq, trivial⟩) <| Sd (lo [35, 26] [] rfl fun S hs hr => Z0o rfl rfl (vh hs 26 rfl rfl) (vh hs 35 rfl rfl)) <| Sn <| Cq rfl h (fun h => ?_) (fun h => ?_)
     ·refine Rg <| Md rfl <| As rfl <| Nl <| Rg <| Md rfl <| Ac (Z02 rfl rfl (vt rfl) (vk rfl)) rfl <| As rfl <| Nl ?_
      exact ⟨(_, _, _), Nat.lt_succ_self _, ⟨trivial, h⟩, FX rfl⟩
     ·refine sk <| Rg <| Md rfl <| Ac (Z02 rfl rfl (vt rfl) (vk rfl)) rfl <| As rfl <| Nl ?_
      exact ⟨(_, _, _), Nat.lt_succ_self _, ⟨trivial, h⟩, FX rfl⟩
    ·refine xt <| SR <| Md rfl <| Ac (Zl rfl rfl (vt rfl) (vk rfl)) rfl <| Nl <| Cq rfl h (fun h => ?_) (fun h => ?_)
     ·obtain ⟨x21, hx21, l22, hl22, h⟩ := bs2 h
      refine Rg <| Mw rfl <| Md rfl <| Md rfl <| Ac (Z03 rfl rfl Z08 (vt rfl) (vt rfl) hx21) rfl <| Lp1 Z0h rfl <| Ac (osl Z08 Z4e rfl (vt rfl)) rfl <| Cv rfl (Z29 1001 hl22 rfl rfl Z7d (vt rfl) rfl (vt rfl)) fun v23 => Aw rfl <| Nl <| Rg <| Md rfl <| Ac (Z02 rfl rfl (vt rfl) (vk rfl)) rfl <| As rfl <| Nl ?_
      exact ⟨(_, _, _, _), Nat.lt_succ_self _, ⟨trivial, h⟩, FX rfl⟩
     ·obtain ⟨x24, hx24, x25, hx25, h⟩ := bs2 h
      refine Rg <| Mw rfl <| Md rfl <| Md rfl <| Md rfl <| Ac (Z03 rfl rfl Z08 (vt rfl) (vt rfl) hx24) rfl <| Lp1 Z0h rfl <| Ac (Z1r 1001 rfl rfl Z08 (vt rfl) rfl (vt rfl) hx25) rfl <| Ac (Z2d 1001 rfl rfl Z0h (vt rfl) rfl (Z0e hx25).2 (vt rfl)) rfl <| Nl <| Rg <| Md rfl <| Ac (Z02 rfl rfl (vt rfl) (vk rfl)) rfl <| As rfl <| Nl ?_
      exact ⟨(_, _, _, _), Nat.lt_succ_self _, ⟨trivial, h⟩, FX rfl⟩
  ·refine xt <| SR <| Mw rfl <| Aw rfl <| Nl <| AW.freezes [4, 5, 54] 1001 rfl ⟨rfl, rfl, rfl, trivial⟩ rfl <| rt ?_
   cases h; exact Zc Tryz.results153 rfl (Z4 rfl)
def Zdb (l1 : (List Action)) (k2 : Int) : Nat → (List Action) → Int → Option (List Action)
 | 0, _, _ => none
 | m10 + 1, l7, i9 => (bif (decide (i9 < (l1.length : Int))) then (lget l1 i9).bind fun x11 => (bif (decide (x11.Kind = k2)) then (lget l1 i9).bind fun x12 => (Z0y l7 [x12]).bind fun l13 => (Zdb l1 k2 m10) l13 (IntKind.i64.wrap (i9 + 1)) else (Zdb l1 k2 m10) l7 (IntKind.i64.wrap (i9 + 1))) else some l7)
def Z7f (l1 : (List Action)) (k2 : Int) : Option (List Action) :=
 Zdb l1 k2 ((((l1.length : Int) : Int) - 0).toNat + 1) [] 0
theorem Zuy (l1 : (List Action)) (k2 : Int) (r : (List Action)) (h : Z7f l1 k2 = some r) : Con Tryz.prog 227 [rd (Z3 Z8) l1, rd (Z0 .i64) k2] emp (fun v => Zj v) (fun v => Zh v 121 Z8 r) := by
 refine Con.intro0 Tryz.func227 rfl Tryz.ntmps227 rfl fun w H => ?_
 unfold Z7f at h
 refine sq <| AW.newnil 1001 121 Z8 <| Rg <| Ac (Z04 rfl rfl vc) rfl <| Nl <| SR <| Cv rfl (Z43 1002 (ps := []) (l := []) rfl rfl Z08 Z4e rfl rfl rfl rfl) fun v3 => Aw rfl <| Nl <| sq <| SR <| Ak rfl <| Nl <| bk <| LG (d := []) (ν := Nat × (List Action) × Int × Value) (fun (m10, l7, i9, v8) => (True ∧ Zdb l1 k2 m10 l7 i9 = some r, m10, [(0, rd (Z3 Z8) l1), (1, rd (Z0 .i64) k2), (5, Zj v8), (6, rd (Z0 .i64) i9)], [(1002, Zh v8 121 Z8 l7)])) (((((l1.length : Int) : Int) - 0).toNat + 1), [], 0, v3) ⟨trivial, h⟩ (FX rfl) ?_
 rintro ⟨m10, l7, i9, v8⟩ ⟨hsf1, h⟩
 dsimp only at h ⊢
 cases m10 with
 | zero => cases h
 | succ m10 =>
  unfold Zdb at h
  refine sq <| SR <| Md rfl <| Md rfl <| Ac (Z09 rfl rfl Z08 (vt rfl)) rfl <| Ac (Zl rfl rfl (vt rfl) (vt rfl)) rfl <| Nl <| Cq rfl h (fun h => ?_) (fun h => ?_)
  ·refine sk <| sq <| bk <| sq ?_
   obtain ⟨x11, hx11, h⟩ := Za h
   refine Rg <| Md rfl <| Md rfl <| Ac (Z03 rfl rfl Z08 (vt rfl) (vt rfl) hx11) rfl <| Fp lAction_0 Z4o rfl <| Lp1 Zq rfl <| Md rfl <| Ac (Z0f rfl rfl (vt rfl) (vt rfl)) rfl <| Nl <| Cq rfl h (fun h => ?_) (fun h => ?_)
   ·obtain ⟨x12, hx12, l13, hl13, h⟩ := bs2 h
    refine Rg <| Mw rfl <| Md rfl <| Md rfl <| Ac (Z03 rfl rfl Z08 (vt rfl) (vt rfl) hx12) rfl <| Lp1 Z0h rfl <| Ac (osl Z08 Z4e rfl (vt rfl)) rfl <| Cv rfl (Z29 1002 hl13 rfl rfl Z7d (vt rfl) rfl (vt rfl)) fun v14 => Aw rfl <| Nl <| Rg <| Md rfl <| Ac (Z02 rfl rfl (vt rfl) (vk rfl)) rfl <| As rfl <| Nl ?_
    exact ⟨(_, _, _, _), Nat.lt_succ_self _, ⟨trivial, h⟩, FX rfl⟩
   ·refine sk <| Rg <| Md rfl <| Ac (Z02 rfl rfl (vt rfl) (vk rfl)) rfl <| As rfl <| Nl ?_
    exact ⟨(_, _, _, _), Nat.lt_succ_self _, ⟨trivial, h⟩, FX rfl⟩
  ·refine xt <| SR <| Mw rfl <| Aw rfl <| Nl <| rt ?_
   cases h; exact Z50 (i := 1002) Tryz.results227 rfl rfl rfl
theorem Zoi (l1 : (List Action)) (k2 : Int) (r : (List Action)) (h : Z7f l1 k2 = some r) : PCon Tryz.prog 227 [rd (Z3 Z8) l1, rd (Z0 .i64) k2] (rd (Z3 Z8) r) := PCon.of_row (Zuy l1 k2 r h)
def Zd1 (a11 : Int) (l1 : (List Action)) (i8 : Int) (go1 : (List Action) → Int → Option (List Action)) : Nat → (List Action) → Int → Option (List Action)
 | 0, _, _ => none
 | m21 + 1, l19, j20 => (bif (decide (j20 > a11)) then (lget l19 (IntKind.i64.wrap (j20 - 1))).bind fun x22 => (lget l19 j20).bind fun x23 => (Zd1 a11 l1 i8 go1 m21) (List.set l19 j20.toNat x22) (IntKind.i64.wrap (j20 - 1)) else (lget l1 i8).bind fun x24 => (lget l19 a11).bind fun x25 => go1 (List.set l19 a11.toNat x24) (IntKind.i64.wrap (i8 + 1)))
def Zbs (l6 : (List Action)) (l1 : (List Action)) (i8 : Int) (go1 : (List Action) → Int → Option (List Action)) : Nat → Int → Option (List Action)
 | 0, _ => none
 | m12 + 1, a11 => (opt (decide (a11 > 0)) (lget l6 (IntKind.i64.wrap (a11 - 1)))).bind fun x13 => (opt (decide (a11 > 0)) (lget l1 i8)).bind fun x14 => (bif ((decide (a11 > 0)) && (decide (x13.Oxm.Field > x14.Oxm.Field))) then (Zbs l6 l1 i8 go1 m12) (IntKind.i64.wrap (a11 - 1)) else (Z0y l6 [(⟨0, 0, 0, 0, 0, Z3x⟩ : Action)]).bind fun l15 => Zd1 a11 l1 i8 go1 ((((IntKind.i64.wrap ((l15.length : Int) - 1)) : Int) - a11).toNat + 1) l15 (IntKind.i64.wrap ((l15.length : Int) - 1)))
def Z87 (l1 : (List Action)) : Nat → (List Action) → Int → Option (List Action)
 | 0, _, _ => none
 | m9 + 1, l6, i8 => (bif (decide (i8 < (l1.length : Int))) then Zbs l6 l1 i8 (Z87 l1 m9) Z0w (l6.length : Int) else some l6)
def Zh4 (l1 : (List Action)) : Option (List Action) :=
 Z87 l1 ((((l1.length : Int) : Int) - 0).toNat + 1) [] 0
theorem Yfc : Q1 Tryz.prog 228 (rd (Z3 Z8)) (rd (Z3 Z8)) Zh4 := fun l1 r h => I0 Tryz.func228 rfl Tryz.ntmps228 rfl fun w H => by
 unfold Zh4 at h
 refine SR <| Ac (Z04 (A := rd (Z3 Z8) []) rfl rfl Z26) rfl <| Nl <| SR <| Cv rfl (Z43 1001 (ps := []) (l := []) rfl rfl Z08 Z4e rfl rfl rfl rfl) fun v2 => Aw rfl <| Nl <| sq <| SR <| Ak rfl <| Nl <| bk <| LG (d := []) (ν := Nat × (List Action) × Int × Value) (fun (m9, l6, i8, v7) => (True ∧ Z87 l1 m9 l6 i8 = some r, m9, [(0, rd (Z3 Z8) l1), (3, Zj v7), (4, rd (Z0 .i64) i8)], [(1001, Zh v7 121 Z8 l6)])) (((((l1.length : Int) : Int) - 0).toNat + 1), [], 0, v2) ⟨trivial, h⟩ (FX rfl) ?_
 rintro ⟨m9, l6, i8, v7⟩ ⟨hsf1, h⟩
 dsimp only at h ⊢
 cases m9 with
 | zero => cases h
 | succ m9 =>
  unfold Z87 at h
  refine sq <| SR <| Md rfl <| Md rfl <| Ac (Z09 rfl rfl Z08 (vt rfl)) rfl <| Ac (Zl rfl rfl (vt rfl) (vt rfl)) rfl <| Nl <| Cq rfl h (fun h => ?_) (fun h => ?_)
  ·refine sk <| sq <| bk <| SR <| Mw rfl <| Ac (Z5s 1001 rfl rfl Z08 (vt rfl) rfl) rfl <| As rfl <| Nl <| sq <| bk <| LG (d := []) (ν := Nat × Int) (fun (m12, a11) => (True ∧ Zbs l6 l1 i8 (Z87 l1 m9) m12 a11 = some r, m12, [(0, rd (Z3 Z8) l1), (3, Zj v7), (4, rd (Z0 .i64) i8), (5, rd (Z0 .i64) a11)], [(1001, Zh v7 121 Z8 l6)])) (Z0w, (l6.length : Int)) ⟨trivial, h⟩ (FX rfl) ?_
   rintro ⟨m12, a11⟩ ⟨hsf2, h⟩
   dsimp only at h ⊢
   cases m12 with
   | zero => cases h
   | succ m12 =>
    unfold Zbs at h
    refine sq <| sq ?_
    obtain ⟨x13, hx13, x14, hx14, h⟩ := bs2 h
    refine AR Zz (by kernel_rfl) <| Zg rfl <| Sd (lo [16] [] rfl fun S hs hr => Z3j rfl rfl (vh hs 16 rfl rfl) (vk rfl)) <| Zg rfl <| Sd (lg [3, 18] [] rfl fun hq S hs hr => Zk (A := Zj v7) rfl rfl (vh hs 3 rfl rfl)) <| Sd (lg [5, 18] [] rfl fun hq S hs hr => Zk (A := rd (Z0 .i64) a11) rfl rfl (vh hs 5 rfl rfl)) <| Sd (lg [20, 18] [] rfl fun hq S hs hr => Z0i rfl rfl (Z6 ((hs 20 rfl).trans rfl) hq) (vk rfl)) <| Sd (lg [19, 21, 18] [1001] rfl fun hq S hs hr => Z1r 1001 rfl rfl Z08 (Z6 ((hs 19 rfl).trans rfl) hq) ((hr 1001 rfl).trans rfl) (Z6 ((hs 21 rfl).trans rfl) hq) (Z16 hx13 hq)) <| Sd (lg [22, 18] [] rfl fun hq S hs hr => Zac Z5r rfl rfl Z6u (Z6 ((hs 22 rfl).trans rfl) hq)) <| Sd (lg [23, 18] [] rfl fun hq S hs hr => Zac Z40 rfl rfl Z49 (Z6 ((hs 23 rfl).trans rfl) hq)) <| Sd (lg [24, 18] [1001] rfl fun hq S hs hr => Z1f 1001 rfl rfl Zq (Z6 ((hs 24 rfl).trans rfl) hq) ((hr 1001 rfl).trans rfl) (Z0e (Z16 hx13 hq)).2) <| Sd (lg [0, 18] [] rfl fun hq S hs hr => Zk (A := rd (Z3 Z8) l1) rfl rfl (vh hs 0 rfl rfl)) <| Sd (lg [4, 18] [] rfl fun hq S hs hr => Zk (A := rd (Z0 .i64) i8) rfl rfl (vh hs 4 rfl rfl)) <| Sd (lg [26, 27, 18] [] rfl fun hq S hs hr => Z03 rfl rfl Z08 (Z6 ((hs 26 rfl).trans rfl) hq) (Z6 ((hs 27 rfl).trans rfl) hq) (Z16 hx14 hq)) <| Sd (lg [28, 18] [] rfl fun hq S hs hr => Z27 Z5r rfl rfl Z6u (Z6 ((hs 28 rfl).trans rfl) hq)) <| Sd (lg [29, 18] [] rfl fun hq S hs hr => Z27 Z40 rfl rfl Z49 (Z6 ((hs 29 rfl).trans rfl) hq)) <| Sd (lg [30, 18] [] rfl fun hq S hs hr => Z2e rfl rfl Zq (Z6 ((hs 30 rfl).trans rfl) hq)) <| Sd (lg [25, 31, 18] [] rfl fun hq S hs hr => Z3j rfl rfl (Z6 ((hs 25 rfl).trans rfl) hq) (Z6 ((hs 31 rfl).trans rfl) hq)) <| Sd (lo [32, 18] [] rfl fun S hs hr => Z0o rfl rfl (vh hs 18 rfl rfl) (vh hs 32 rfl rfl)) <| Sn <| Cq rfl h (fun h => ?_) (fun h => ?_)
    ·refine sk <| bk <| Rg <| Md rfl <| Ac (Z0i rfl rfl (vt rfl) (vk rfl)) rfl <| As rfl <| Nl ?_
     exact ⟨(_, _), Nat.lt_succ_self _, ⟨trivial, h⟩, FX rfl⟩
    ·refine xt <| sq ?_
     obtain ⟨l15, hl15, h⟩ := Za h
     refine Rg <| Mw rfl <| Ac (opb (⟨0, 0, 0, 0, 0, Z3x⟩ : Action) Z4e rfl Zzd (pn rfl)) rfl <| Ac (osl Z08 Z4e rfl (vt rfl)) rfl <| Cv rfl (Z29 1001 hl15 rfl rfl Z7d (vt rfl) rfl (vt rfl)) fun v16 => Aw rfl <| Nl <| sq <| SR <| Mw rfl <| Ac (Z5s 1001 rfl rfl Z08 (vt rfl) rfl) rfl <| Ac (Z0i rfl rfl (vt rfl) (vk rfl)) rfl <| As rfl <| Nl <| bk <| LG (d := []) (ν := Nat × (List Action) × Int) (fun (m21, l19, j20) => (True ∧ Zd1 a11 l1 i8 (Z87 l1 m9) m21 l19 j20 = some r, m21, [(0, rd (Z3 Z8) l1), (3, Zj v16), (4, rd (Z0 .i64) i8), (5, rd (Z0 .i64) a11), (6, rd (Z0 .i64) j20)], [(1001, Zh v16 121 Z8 l19)])) (((((IntKind.i64.wrap ((l15.length : Int) - 1)) : Int) - a11).toNat + 1), l15, (IntKind.i64.wrap ((l15.length : Int) - 1))) ⟨trivial, h⟩ (FX rfl) ?_
     rintro ⟨m21, l19, j20⟩ ⟨hsf3, h⟩
     dsimp only at h ⊢
     cases m21 with
     | zero => cases h
     | succ m21 =>
      unfold Zd1 at h
      refine sq <| SR <| Md rfl <| Md rfl <| Ac (Z3j rfl rfl (vt rfl) (vt rfl)) rfl <| Nl <| Cq rfl h (fun h => ?_) (fun h => ?_)
      ·refine sk <| sq <| bk ?_
       obtain ⟨x22, hx22, x23, hx23, h⟩ := bs2 h
       refine Rg <| Mw rfl <| Md rfl <| Mw rfl <| Md rfl <| Ac (Z0i rfl rfl (vt rfl) (vk rfl)) rfl <| Ac (Z1r 1001 rfl rfl Z08 (vt rfl) rfl (vt rfl) hx22) rfl <| Ac (Z1f 1001 rfl rfl Z0h (vt rfl) rfl (Z0e hx22).2) rfl <| Ac (Z1r 1001 rfl rfl Z08 (vt rfl) rfl (vt rfl) hx23) rfl <| Ac (Z2d 1001 rfl rfl Z0h (vt rfl) rfl (Z0e hx23).2 (vt rfl)) rfl <| Nl <| Rg <| Md rfl <| Ac (Z0i rfl rfl (vt rfl) (vk rfl)) rfl <| As rfl <| Nl ?_
       exact ⟨(_, _, _), Nat.lt_succ_self _, ⟨trivial, h⟩, FX rfl⟩
      ·refine xt ?_
       obtain ⟨x24, hx24, x25, hx25, h⟩ := bs2 h
       refine Rg <| Mw rfl <| Md rfl <| Md rfl <| Md rfl <| Ac (Z03 rfl rfl Z08 (vt rfl) (vt rfl) hx24) rfl <| Lp1 Z0h rfl <| Ac (Z1r 1001 rfl rfl Z08 (vt rfl) rfl (vt rfl) hx25) rfl <| Ac (Z2d 1001 rfl rfl Z0h (vt rfl) rfl (Z0e hx25).2 (vt rfl)) rfl <| Nl <| Rg <| Md rfl <| Ac (Z02 rfl rfl (vt rfl) (vk rfl)) rfl <| As rfl <| Nl ?_
       exact ⟨(_, _, _, _), Nat.lt_succ_self _, ⟨trivial, h⟩, FX rfl⟩
  ·refine xt <| SR <| Mw rfl <| Aw rfl <| Nl <| AW.freezes [2, 3, 63] 1001 rfl ⟨rfl, rfl, rfl, trivial⟩ rfl <| rt ?_
   cases h; exact Zc Tryz.results228 rfl (Z4 rfl)
def Zg7 (s1 : (List Action)) : Option (List Action) :=
 (Z7f s1 18).bind fun x2 => (Z7f s1 17).bind fun x4 => (Z0y x2 x4).bind fun l5 => (Z7f s1 25).bind fun x7 => (Zh4 x7).bind fun x8 => (Z0y l5 x8).bind fun l9 => (Z7f s1 22).bind fun x11 => (bif (decide ((x11.length : Int) > 0)) then (Z0y l9 x11).bind fun l12 => some l12 else (Z7f s1 0).bind fun x14 => (Z0y l9 x14).bind fun l15 => some l15)
theorem Y2z : Q1 Tryz.prog 155 (rd (Z3 Z8)) (rd (Z3 Z8)) Zg7 := fun s1 r h => I0 Tryz.func155 rfl Tryz.ntmps155 rfl fun w H => by
 unfold Zg7 at h
 refine SR <| Ac (Z04 (A := rd (Z3 Z8) []) rfl rfl Z26) rfl <| Nl <| sq ?_
 obtain ⟨x2, hx2, x4, hx4, l5, hl5, h⟩ := bs3 h
 refine Rg <| Md rfl <| Cv rfl (Z1o 1001 (xs := [.tmp 5, .const (Value.int IntKind.i64 18)]) (Zuy _ _ _ hx2) Zkw rfl rfl ⟨vt rfl, vk rfl, trivial⟩ rfl) fun v3 => Md rfl <| Ac (Z0b (xs := [.tmp 7, .const (Value.int IntKind.i64 17)]) (Zoi _ _ _ hx4) Zkw rfl rfl ⟨vt rfl, vk rfl, trivial⟩) rfl <| Cv rfl (Z29 1001 hl5 rfl rfl Z7d (vt rfl) rfl (vt rfl)) fun v6 => Aw rfl <| Nl <| sq ?_
 obtain ⟨x7, hx7, x8, hx8, l9, hl9, h⟩ := bs3 h
 refine Rg <| Mw rfl <| Md rfl <| Ac (Z0b (xs := [.tmp 11, .const (Value.int IntKind.i64 25)]) (Zoi _ _ _ hx7) Zkw rfl rfl ⟨vt rfl, vk rfl, trivial⟩) rfl <| Cl [12] (Yfc _ _ hx8) Y9q rfl <| Cv rfl (Z29 1001 hl9 rfl rfl Z7d (vt rfl) rfl (vt rfl)) fun v10 => Aw rfl <| Nl <| sq <| sq ?_
 obtain ⟨x11, hx11, h⟩ := Za h
 refine Rg <| Md rfl <| Ac (Z0b (xs := [.tmp 15, .const (Value.int IntKind.i64 22)]) (Zoi _ _ _ hx11) Zkw rfl rfl ⟨vt rfl, vk rfl, trivial⟩) rfl <| As rfl <| Nl <| SR <| Md rfl <| Ac (Z09 rfl rfl Z08 (vt rfl)) rfl <| Ac (Z3j rfl rfl (vt rfl) (vk rfl)) rfl <| Nl <| Cq rfl h (fun h => ?_) (fun h => ?_)
 ·refine sq ?_
  obtain ⟨l12, hl12, h⟩ := Za h
  refine Rg <| Mw rfl <| Md rfl <| Cv rfl (Z29 1001 hl12 rfl rfl Z7d (vt rfl) rfl (vt rfl)) fun v13 => Aw rfl <| Nl <| AW.freezes [2, 22] 1001 rfl ⟨rfl, rfl, trivial⟩ rfl <| rt ?_
  cases h; exact Zc Tryz.results155 rfl (Z4 rfl)
 ·refine sk <| sq ?_
  obtain ⟨x14, hx14, l15, hl15, h⟩ := bs2 h
  refine Rg <| Mw rfl <| Md rfl <| Ac (Z0b (xs := [.tmp 24, .const (Value.int IntKind.i64 0)]) (Zoi _ _ _ hx14) Zkw rfl rfl ⟨vt rfl, vk rfl, trivial⟩) rfl <| Cv rfl (Z29 1001 hl15 rfl rfl Z7d (vt rfl) rfl (vt rfl)) fun v16 => Aw rfl <| Nl <| AW.freezes [2, 26] 1001 rfl ⟨rfl, rfl, trivial⟩ rfl <| rt ?_
  cases h; exact Zc Tryz.results155 rfl (Z4 rfl)
def Za4 (x12 : (List Int)) (t2 : Int) (s1 : Switch) (x4 : Z5) (x3 : Z5) (R_r33_one : (Switch → Int → Flow → Z5 → Z5 → (List Atom) → (List Action) → Option (List Rule))) (a5 : (List Atom)) (s6 : (List Action)) : Nat → (List Rule) → Int → Option (List Rule)
 | 0, _, _ => none
 | m19 + 1, l16, i18 => (bif (decide (i18 < (x12.length : Int))) then (chk 4 t2).bind fun j20 => (lget x12 i18).bind fun x21 => (lget (Vector.get s1.Tables j20) x21).bind fun x22 => (Ziv x22).bind fun x24 => (Zju x4 x24).bind fun x25 => (bif (!x25.2) then (Za4 x12 t2 s1 x4 x3 R_r33_one a5 s6 m19) l16 (IntKind.i64.wrap (i18 + 1)) else (Z78 x25.1 x3).bind fun x27 => (bif x27.2 then (R_r33_one s1 t2 x22 x27.1 x4 a5 s6).bind fun x29 => (Z0y l16 x29).bind fun l30 => (Za4 x12 t2 s1 x4 x3 R_r33_one a5 s6 m19) l30 (IntKind.i64.wrap (i18 + 1)) else (Za4 x12 t2 s1 x4 x3 R_r33_one a5 s6 m19) l16 (IntKind.i64.wrap (i18 + 1)))) else (Z0y [] a5).bind fun l33 => (Z0y l16 [(⟨x3, l33⟩ : Rule)]).bind fun l34 => some l34)
def Zjc (R_r33_walk : (Switch → Int → Z5 → Z5 → (List Atom) → (List Action) → Option (List Rule))) (R_r33_one : (Switch → Int → Flow → Z5 → Z5 → (List Atom) → (List Action) → Option (List Rule))) (s1 : Switch) (t2 : Int) (x3 : Z5) (x4 : Z5) (a5 : (List Atom)) (s6 : (List Action)) : Option (List Rule) :=
 (chk 4 t2).bind fun j11 => (Zhe (Vector.get s1.Tables j11)).bind fun x12 => Za4 x12 t2 s1 x4 x3 R_r33_one a5 s6 ((((x12.length : Int) : Int) - 0).toNat + 1) [] 0
theorem Yjh (R_r33_walk : (Switch → Int → Z5 → Z5 → (List Atom) → (List Action) → Option (List Rule))) (hR_r33_walk : ∀ (s1 : Switch) (t2 : Int) (x3 : Z5) (x4 : Z5) (a5 : (List Atom)) (s6 : (List Action)) (r : (List Rule)), R_r33_walk s1 t2 x3 x4 a5 s6 = some r → PCon Tryz.prog 78 [rd Z0p s1, rd (Z0 .i64) t2, rd (Z1 24 Z2) x3, rd (Z1 24 Z2) x4, rd (Z3 Z05) a5, rd (Z3 Z8) s6] (rd (Z3 Zy) r)) (R_r33_one : (Switch → Int → Flow → Z5 → Z5 → (List Atom) → (List Action) → Option (List Rule))) (hR_r33_one : ∀ (s1 : Switch) (t2 : Int) (x3 : Flow) (x4 : Z5) (x5 : Z5) (a6 : (List Atom)) (s7 : (List Action)) (r : (List Rule)), R_r33_one s1 t2 x3 x4 x5 a6 s7 = some r → PCon Tryz.prog 143 [rd Z0p s1, rd (Z0 .i64) t2, rd Z0k x3, rd (Z1 24 Z2) x4, rd (Z1 24 Z2) x5, rd (Z3 Z05) a6, rd (Z3 Z8) s7] (rd (Z3 Zy) r)) (s1 : Switch) (t2 : Int) (x3 : Z5) (x4 : Z5) (a5 : (List Atom)) (s6 : (List Action)) (r : (List Rule)) (h : Zjc R_r33_walk R_r33_one s1 t2 x3 x4 a5 s6 = some r) : PCon Tryz.prog 78 [rd Z0p s1, rd (Z0 .i64) t2, rd (Z1 24 Z2) x3, rd (Z1 24 Z2) x4, rd (Z3 Z05) a5, rd (Z3 Z8) s6] (rd (Z3 Zy) r) := by
 refine PCon.of (Con.intro0 Tryz.func78 rfl Tryz.ntmps78 rfl fun w H => ?_)
 unfold Zjc at h
 refine SR <| Cv rfl (Zn 7 rfl rfl (vt rfl)) fun g7 => Cv rfl (Zn 9 rfl rfl (vt rfl)) fun g8 => Cv rfl (Zn 10 rfl rfl (vt rfl)) fun g9 => Ac (Z04 (A := rd (Z3 Zy) []) rfl rfl Z26) rfl <| Nl <| SR <| Cv rfl (Z43 1001 (ps := []) (l := []) rfl rfl Z1m Z4c rfl rfl rfl rfl) fun v10 => Aw rfl <| Nl <| sq ?_
 obtain ⟨j11, hj11, x12, hx12, h⟩ := bs2 h
 refine Rg <| Md rfl <| Zt Z9a Zbc rfl <| Ac (Z0v rfl rfl Zco (vt rfl) (vt rfl) hj11) rfl <| Ld Z5n 7 rfl <| Cl [24] (Yhr _ _ hx12) Yd3 rfl <| As rfl <| Nl <| sq <| SR <| Ak rfl <| Nl <| bk <| LG (d := []) (ν := Nat × (List Rule) × Int × Value) (fun (m19, l16, i18, v17) => (True ∧ Za4 x12 t2 s1 x4 x3 R_r33_one a5 s6 m19 l16 i18 = some r, m19, [(1, rd (Z0 .i64) t2), (4, rd (Z3 Z05) a5), (5, rd (Z3 Z8) s6), (6, Ze g7 (Lens.id Z0p)), (8, Ze g8 (Lens.id (Z1 24 Z2))), (9, Ze g9 (Lens.id (Z1 24 Z2))), (13, Zj v17), (14, rd (Z3 (Z0 .i64)) x12), (15, rd (Z0 .i64) i18)], [(7, Zf g7 26 Z0p s1), (9, Zf g8 87 (Z1 24 Z2) x3), (10, Zf g9 101 (Z1 24 Z2) x4), (1001, Zh v17 90 Zy l16)])) (((((x12.length : Int) : Int) - 0).toNat + 1), [], 0, v10) ⟨trivial, h⟩ (FX rfl) ?_
 rintro ⟨m19, l16, i18, v17⟩ ⟨hsf1, h⟩
 dsimp only at h ⊢
 cases m19 with
 | zero => cases h
 | succ m19 =>
  unfold Za4 at h
  refine sq <| SR <| Md rfl <| Md rfl <| Ac (Z09 rfl rfl Z0x (vt rfl)) rfl <| Ac (Zl rfl rfl (vt rfl) (vt rfl)) rfl <| Nl <| Cq rfl h (fun h => ?_) (fun h => ?_)
  ·refine sk <| sq <| bk <| sq ?_
   obtain ⟨j20, hj20, x21, hx21, x22, hx22, h⟩ := bs3 h
   refine AR Zz (by kernel_rfl) <| Zg rfl <| SFd Z9a Zbc rfl <| Sd (lo [33, 32] [] rfl fun S hs hr => Z0v rfl rfl Zco (vh hs 33 rfl rfl) (vh hs 32 rfl rfl) hj20) <| Zu Z5n 7 rfl <| Zg rfl <| Zg rfl <| Sd (lo [36, 37] [] rfl fun S hs hr => Z03 rfl rfl Z0x (vh hs 36 rfl rfl) (vh hs 37 rfl rfl) hx21) <| SLp Zq rfl <| Sd (lo [35, 39] [] rfl fun S hs hr => Z03 rfl rfl Z4r (vh hs 35 rfl rfl) (vh hs 39 rfl rfl) hx22) <| SLp Z71 rfl <| Sd (Z11 (us := [(16, Z1u 61 Z0k Zrx)]) (ur := []) [] [] rfl fun S hs hr => Z4t rfl rfl rfl Zce) <| Sd (Z11 (us := [(16, Z1u 61 Z0k x22)]) (ur := []) [16, 41] [] rfl fun S hs hr => Z54 rfl rfl Z71 ((hs 16 rfl).trans rfl) (vh hs 41 rfl rfl)) <| Sn <| AW.unpackP 16 17 rfl rfl fun g23 => sq ?_
   obtain ⟨x24, hx24, x25, hx25, h⟩ := bs2 h
   refine AR Zz (by kernel_rfl) <| Zu Z01 10 rfl <| Zu Z71 17 rfl <| SCl [44] (Y6d _ _ hx24) Ybi rfl <| SCl [43, 45] (Yiy _ _ _ hx25) Y8e rfl <| Sd (lo [46] [] rfl fun S hs hr => Zk (A := Z1c (rd (Z1 24 Z2) x25.1) (rd Z7 x25.2)) rfl rfl (vh hs 46 rfl rfl)) <| Sd (lo [42] [] rfl fun S hs hr => Z1j rfl rfl (vh hs 42 rfl rfl)) <| Sd (lo [42] [] rfl fun S hs hr => Z1i rfl rfl (vh hs 42 rfl rfl)) <| Sd (Z11 (us := [(17, Z1u 87 (Z1 24 Z2) (Vector.replicate 24 zTern))]) (ur := []) [] [] rfl fun S hs hr => Z4t rfl rfl rfl Z0n) <| Sd (Z11 (us := [(17, Z1u 87 (Z1 24 Z2) x25.1)]) (ur := []) [17, 47] [] rfl fun S hs hr => Z54 rfl rfl Zv ((hs 17 rfl).trans rfl) (vh hs 47 rfl rfl)) <| SAs rfl <| Sn <| AW.unpackP 17 18 rfl rfl fun g26 => sq <| SR <| Md rfl <| Ac (Z0s rfl rfl (vt rfl)) rfl <| Nl <| Cq rfl h (fun h => ?_) (fun h => ?_)
   ·refine xt <| Rg <| Md rfl <| Ac (Z02 rfl rfl (vt rfl) (vk rfl)) rfl <| As rfl <| Nl ?_
    exact ⟨(_, _, _, _), Nat.lt_succ_self _, ⟨trivial, h⟩, FX rfl⟩
   ·refine sk <| sq ?_
    obtain ⟨x27, hx27, h⟩ := Za h
    refine Rg <| Ld Zv 18 rfl <| Ld Zv 9 rfl <| Cl [52, 53] (Zny _ _ _ hx27) Zll rfl <| Mt2 rfl <| Ac (Z1j rfl rfl (vt rfl)) rfl <| Ac (Z1i rfl rfl (vt rfl)) rfl <| Cv rfl (Zo 20 rfl rfl Z0n) fun g28 => Zd Zv 20 rfl <| As rfl <| Nl <| SR <| Md rfl <| Nl <| Cq rfl h (fun h => ?_) (fun h => ?_)
    ·obtain ⟨x29, hx29, l30, hl30, h⟩ := bs2 h
     refine Rg <| Mw rfl <| Ld Z3e 7 rfl <| Md rfl <| Ld Z71 17 rfl <| Ld Zv 20 rfl <| Ld Z01 10 rfl <| Md rfl <| Md rfl <| Cl [59, 60, 61, 62, 63, 64, 65] (hR_r33_one _ _ _ _ _ _ _ _ hx29) Yg6 rfl <| Cv rfl (Z29 1001 hl30 rfl rfl Zeb (vt rfl) rfl (vt rfl)) fun v31 => Aw rfl <| Nl <| Rg <| Md rfl <| Ac (Z02 rfl rfl (vt rfl) (vk rfl)) rfl <| As rfl <| Nl ?_
     exact ⟨(_, _, _, _), Nat.lt_succ_self _, ⟨trivial, h⟩, FX rfl⟩
    ·refine sk <| Rg <| Md rfl <| Ac (Z02 rfl rfl (vt rfl) (vk rfl)) rfl <| As rfl <| Nl ?_
     exact ⟨(_, _, _, _), Nat.lt_succ_self _, ⟨trivial, h⟩, FX rfl⟩
  ·refine xt <| sq ?_
   obtain ⟨l33, hl33, l34, hl34, h⟩ := bs2 h
   refine AR Zz (by kernel_rfl) <| SMw rfl <| Zu Zv 9 rfl <| Sd (Z11 (us := [(70, Z23 126 Z05 ([] : List Atom))]) (ur := []) [] [1003] rfl fun S hs hr => Y2m (Z43 1003 (ps := []) (l := []) rfl rfl Z28 Z55 rfl rfl rfl rfl) rfl ((hr 1003 rfl).trans rfl)) <| Zg rfl <| Sd (Z11 (us := [(70, top), (72, rd (Z3 Z05) l33)]) (ur := []) [70, 71] [1004] rfl fun S hs hr => Ygk 1004 rfl hl33 rfl rfl rfl Z7u ((hs 70 rfl).trans rfl) ((hr 1004 rfl).trans rfl) (fun v => vtS rfl ((hs 71 rfl).trans rfl))) <| Sd (lo [69, 72] [] rfl fun S hs hr => opb (⟨x3, l33⟩ : Rule) Z4c rfl Zqo (pc Zq1 (vh hs 69 rfl rfl) <| pc Zpl (vh hs 72 rfl rfl) <| pn rfl)) <| Sd (lo [73] [] rfl fun S hs hr => osl Z1m Z4c rfl (vh hs 73 rfl rfl)) <| Sd (Z11 (us := [(75, Z23 90 Zy l34)]) (ur := [(1001, emp)]) [68, 74] [1001] rfl fun S hs hr => Z98 1001 hl34 rfl rfl rfl Zeb (vh hs 68 rfl rfl) ((hr 1001 rfl).trans rfl) (vh hs 74 rfl rfl)) <| Sd (Z11 (us := [(75, top), (12, Z23 90 Zy l34)]) (ur := []) [75] [1005] rfl fun S hs hr => Zgp 1005 rfl rfl rfl rfl ((hs 75 rfl).trans rfl) ((hr 1005 rfl).trans rfl)) <| Sn <| AW.unpackR 12 1001 rfl rfl fun v35 => AW.freezes [12] 1001 rfl ⟨rfl, trivial⟩ rfl <| rt ?_
   cases h; exact Zc Tryz.results78 rfl (Z4 rfl)
end Go.Proofs.YtknpgojdkobgjaaGreat.W
