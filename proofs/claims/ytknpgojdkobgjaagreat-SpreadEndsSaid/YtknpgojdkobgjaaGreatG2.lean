/- A part of the proof. -/
import Derived.Test.YtknpgojdkobgjaaGreatG1
set_option linter.unusedVariables false
set_option maxRecDepth 4000
set_option linter.unusedSimpArgs false
namespace Go.Proofs.YtknpgojdkobgjaaGreat.W
open Go Go.Wb
theorem Zx4 : Ent Tryz.prog 252 := Ent.mk Tryz.func252 rfl rfl
theorem e54 : Ent Tryz.prog 54 := Ent.mk Tryz.func54 rfl rfl
theorem Y1d : Ent Tryz.prog 192 := Ent.mk Tryz.func192 rfl rfl
theorem Y07 : Ent Tryz.prog 338 := Ent.mk Tryz.func338 rfl rfl
theorem Zvq : Ent Tryz.prog 326 := Ent.mk Tryz.func326 rfl rfl
theorem Zuu : Ent Tryz.prog 325 := Ent.mk Tryz.func325 rfl rfl
theorem Zuo : Ent Tryz.prog 231 := Ent.mk Tryz.func231 rfl rfl
def Z8n (x1 : Flat) (m2 : Int) : Nat → Nat → (List (List Zg)) → Option ((List (List Zg)) × Int)
 | 0, i8, l6 => some (l6, 0)
 | m9 + 1, i8, l6 => (Zfo x1 (i8 : Int) m2).bind fun x10 => (bif (decide (x10.2 ≠ 0)) then some ([], x10.2) else (Z1n l6 [x10.1]).bind fun l11 => (Z8n x1 m2 m9) (i8 + 1) l11)
def Zi2 (x1 : Flat) (m2 : Int) : Option ((List (List Zg)) × Int) :=
 Z8n x1 m2 ((x1.Rules.length : Int) : Int).toNat 0 []
theorem Y28 : Q2 Tryz.prog 192 (rd Z2y) (rd (Z0 .i64)) (fun r => Z0w (rd (Z4 (Z4 (Z1 24 Z3))) r.1) (rd (Z0 .i64) r.2)) Zi2 := fun x1 m2 r h => I0 Tryz.func192 rfl Tryz.ntmps192 rfl fun w H => by
 unfold Zi2 at h
 refine SR <| Cv rfl (Zl 3 rfl rfl (vt rfl)) fun g3 => Ac (Z00 (A := rd (Z4 (Z4 (Z1 24 Z3))) []) rfl rfl Z13) rfl <| Ak rfl <| Nl <| sq <| AW.newnil 1001 229 (Z4 (Z1 24 Z3)) <| Rg <| Ac (Z00 rfl rfl vc) rfl <| Nl <| sq <| SR <| Zk lFlat_0 Z9z rfl <| Ld Za0 3 rfl <| Ac (Z16 rfl rfl Z2u (vt rfl)) rfl <| Mk rfl <| Nl <| bk <| LG (d := []) (ν := Nat × Nat × (List (List Zg)) × Value) (fun (m9, i8, l6, v7) => (Cnt (x1.Rules.length : Int) i8 m9 ∧ Z8n x1 m2 m9 i8 l6 = some r, m9, [(1, rd (Z0 .i64) m2), (2, Z7 g3 (Lens.id Z2y)), (6, Zh v7), (12, rd (Z0 .i64) (x1.Rules.length : Int)), (13, rd (Z0 .i64) (i8 : Int))], [(3, Zb g3 73 Z2y x1), (1001, Za v7 229 (Z4 (Z1 24 Z3)) l6)])) (((x1.Rules.length : Int) : Int).toNat, 0, [], (.slice none 0 0)) ⟨Cnt.start _, h⟩ (FX rfl) ?_
 rintro ⟨m9, i8, l6, v7⟩ ⟨hsf1, h⟩
 dsimp only at hsf1 h ⊢
 cases m9 with
 | zero =>
  unfold Z8n at h
  refine SR <| Ac (Zn rfl rfl (vt rfl) (vt rfl)) rfl <| Nl <| sq <| Cn rfl (fun hc => absurd (of_decide_eq_true hc) hsf1.zero) (fun hc => ?_)
  refine xt <| SR <| Mw rfl <| Aw rfl <| Ak rfl <| Nl <| AW.freezes [4, 6, 31] 1001 rfl ⟨rfl, rfl, rfl, trivial⟩ rfl <| rt ?_
  cases h; exact Z0y Tryz.results192 rfl (Zc rfl) (Zc rfl)
 | succ m9 =>
  unfold Z8n at h
  refine SR <| Ac (Zn rfl rfl (vt rfl) (vt rfl)) rfl <| Nl <| sq <| Cn rfl (fun hc => ?_) (fun hc => absurd hsf1.succ (of_decide_eq_false hc))
  have hlti8 := of_decide_eq_true hc
  refine sk <| sq <| bk <| SR <| Md rfl <| As rfl <| Nl <| sq ?_
  obtain ⟨x10, hx10, h⟩ := Z9 h
  refine Rg <| Ld Z59 3 rfl <| Md rfl <| Md rfl <| Cl [17, 18, 19] (Y0z _ _ _ _ hx10) Zx4 rfl <| Mt2 rfl <| Ac (Z1b rfl rfl (vt rfl)) rfl <| Ac (Z1d rfl rfl (vt rfl)) rfl <| As rfl <| As rfl <| Nl <| sq <| SR <| Md rfl <| Ac (Z3g rfl rfl (vt rfl) (vk rfl)) rfl <| Nl <| Cq rfl h (fun h => ?_) (fun h => ?_)
  ·refine SR <| Md rfl <| Ac (Z00 (A := rd (Z4 (Z4 (Z1 24 Z3))) []) rfl rfl Z13) rfl <| As rfl <| Nl <| rt ?_
   cases h; exact Z0y Tryz.results192 rfl (Zc rfl) (Zc rfl)
  ·refine sk ?_
   obtain ⟨l11, hl11, h⟩ := Z9 h
   refine Rg <| Mw rfl <| Md rfl <| Ac (osl Zix Zuv rfl (vt rfl)) rfl <| Cv rfl (Z2x 1001 hl11 rfl rfl Y0a (vt rfl) rfl (vt rfl)) fun v12 => Aw rfl <| Nl <| Rg <| Ac (Z12 (t := 12) rfl rfl (vt rfl) (vk rfl) (vt rfl) hlti8) rfl <| Md rfl <| Nl ?_
   exact ⟨(_, _, _, _), Nat.lt_succ_self _, ⟨hsf1.next, h⟩, FX rfl⟩
def Za9 (m2 : Int) : (List Switch) → Nat → (List spread_table) → Option ((List spread_table) × Int)
 | [], i8, l6 => some (l6, 0)
 | x10 :: l9, i8, l6 => (Zhf x10 m2).bind fun x12 => (bif (decide (x12.2 ≠ 0)) then some ([], 5) else (Zi2 x12.1 m2).bind fun x14 => (bif (decide (x14.2 ≠ 0)) then some ([], 5) else (Z1n l6 [(⟨x12.1, x14.1⟩ : spread_table)]).bind fun l15 => (Za9 m2 l9) (i8 + 1) l15))
def Zin (n1 : Net) (m2 : Int) : Option ((List spread_table) × Int) :=
 Za9 m2 n1.Switches 0 []
theorem Zx2 : Q2 Tryz.prog 124 (rd Z2j) (rd (Z0 .i64)) (fun r => Z0w (rd (Z4 Z1q) r.1) (rd (Z0 .i64) r.2)) Zin := fun n1 m2 r h => I0 Tryz.func124 rfl Tryz.ntmps124 rfl fun w H => by
 unfold Zin at h
 refine SR <| Cv rfl (Zl 3 rfl rfl (vt rfl)) fun g3 => Ac (Z00 (A := rd (Z4 Z1q) []) rfl rfl Z13) rfl <| Ak rfl <| Nl <| sq <| AW.newnil 1001 252 Z1q <| Rg <| Ac (Z00 rfl rfl vc) rfl <| Nl <| sq <| SR <| Zk lNet_0 Zg1 rfl <| Ld Zfu 3 rfl <| Ac (Z16 rfl rfl Zaa (vt rfl)) rfl <| Mk rfl <| Nl <| bk <| LG (d := []) (ν := (List Switch) × Nat × (List spread_table) × Value) (fun (l9, i8, l6, v7) => (Sfx n1.Switches i8 l9 ∧ Za9 m2 l9 i8 l6 = some r, l9.length, [(1, rd (Z0 .i64) m2), (6, Zh v7), (13, rd (Z4 Z0s) n1.Switches), (14, rd (Z0 .i64) (n1.Switches.length : Int)), (15, rd (Z0 .i64) (i8 : Int))], [(1001, Za v7 252 Z1q l6)])) (n1.Switches, 0, [], (.slice none 0 0)) ⟨Sfx.start _, h⟩ (FX rfl) ?_
 rintro ⟨l9, i8, l6, v7⟩ ⟨hsf1, h⟩
 dsimp only at hsf1 h ⊢
 cases l9 with
 | nil =>
  unfold Za9 at h
  refine SR <| Ac (Zn rfl rfl (vt rfl) (vt rfl)) rfl <| Nl <| sq <| Cn rfl (fun hc => absurd (of_decide_eq_true hc) hsf1.nil) (fun hc => ?_)
  refine xt <| SR <| Mw rfl <| Aw rfl <| Ak rfl <| Nl <| AW.freezes [4, 6, 42] 1001 rfl ⟨rfl, rfl, rfl, trivial⟩ rfl <| rt ?_
  cases h; exact Z0y Tryz.results124 rfl (Zc rfl) (Zc rfl)
 | cons x10 l9 =>
  unfold Za9 at h
  refine SR <| Ac (Zn rfl rfl (vt rfl) (vt rfl)) rfl <| Nl <| sq <| Cn rfl (fun hc => ?_) (fun hc => absurd hsf1.cons (of_decide_eq_false hc))
  have hlti8 := of_decide_eq_true hc
  refine sk <| sq <| bk <| SR <| Ac (Z0z rfl rfl Zaa (vt rfl) (vt rfl) hsf1.lget) rfl <| Lp1 Z46 rfl <| Cv rfl (Zo 9 rfl rfl Zal) fun g11 => Zi Z46 9 rfl <| Nl <| sq ?_
  obtain ⟨x12, hx12, h⟩ := Z9 h
  refine Rg <| Ld Z46 9 rfl <| Md rfl <| Cl [20, 21] (Zrq _ _ _ hx12) e54 rfl <| Mt2 rfl <| Ac (Z1b rfl rfl (vt rfl)) rfl <| Ac (Z1d rfl rfl (vt rfl)) rfl <| Cv rfl (Zo 10 rfl rfl Zee) fun g13 => Zi Z59 10 rfl <| As rfl <| Nl <| sq <| SR <| Md rfl <| Ac (Z3g rfl rfl (vt rfl) (vk rfl)) rfl <| Nl <| Cq rfl h (fun h => ?_) (fun h => ?_)
  ·refine SR <| Ac (Z00 (A := rd (Z4 Z1q) []) rfl rfl Z13) rfl <| Ak rfl <| Nl <| rt ?_
   cases h; exact Z0y Tryz.results124 rfl (Zc rfl) (Zc rfl)
  ·refine sk <| sq ?_
   obtain ⟨x14, hx14, h⟩ := Z9 h
   refine Rg <| Ld Z59 10 rfl <| Md rfl <| Cl [28, 29] (Y28 _ _ _ hx14) Y1d rfl <| Ac (Zt (A := Z0w (rd (Z4 (Z4 (Z1 24 Z3))) x14.1) (rd (Z0 .i64) x14.2)) rfl rfl (vt rfl)) rfl <| Ac (Z1b rfl rfl (vt rfl)) rfl <| Ac (Z1d rfl rfl (vt rfl)) rfl <| As rfl <| As rfl <| Nl <| sq <| SR <| Md rfl <| Ac (Z3g rfl rfl (vt rfl) (vk rfl)) rfl <| Nl <| Cq rfl h (fun h => ?_) (fun h => ?_)
   ·refine SR <| Ac (Z00 (A := rd (Z4 Z1q) []) rfl rfl Z13) rfl <| Ak rfl <| Nl <| rt ?_
    cases h; exact Z0y Tryz.results124 rfl (Zc rfl) (Zc rfl)
   ·refine sk ?_
    obtain ⟨l15, hl15, h⟩ := Z9 h
    refine Rg <| Mw rfl <| Ld Z59 10 rfl <| Md rfl <| Ac (opb (⟨x12.1, x14.1⟩ : spread_table) Zj3 rfl Zpz (pc Y00 (vt rfl) <| pc Zw6 (vt rfl) <| pn rfl)) rfl <| Ac (osl Zl9 Zj3 rfl (vt rfl)) rfl <| Cv rfl (Z2x 1001 hl15 rfl rfl Zsu (vt rfl) rfl (vt rfl)) fun v16 => Aw rfl <| Nl <| Rg <| Ac (Z12 (t := 14) rfl rfl (vt rfl) (vk rfl) (vt rfl) hlti8) rfl <| Md rfl <| Nl ?_
    exact ⟨(_, _, _, _), Nat.lt_succ_self _, ⟨hsf1.next, h⟩, FX rfl⟩
def Zf7 (b1 : spread_beam) (x2 : Zg) : Option (spread_beam × Bool) :=
 (Zdf b1.got x2).bind fun x6 => (bif (!x6.2) then some ((⟨(Vector.replicate 24 Z0n), (Vector.replicate 24 Z0n)⟩ : spread_beam), false) else (Z6z x6.1 b1.cube).bind fun x8 => some ({ b1 with cube := x8.1 }, x8.2))
theorem Y2a : Q2 Tryz.prog 193 (rd Z1x) (rd (Z1 24 Z3)) (fun r => Z0w (rd Z1x r.1) (rd Z6 r.2)) Zf7 := fun b1 x2 r h => I0 Tryz.func193 rfl Tryz.ntmps193 rfl fun w H => by
 unfold Zf7 at h
 refine SR <| Cv rfl (Zl 3 rfl rfl (vt rfl)) fun g3 => Cv rfl (Zl 4 rfl rfl (vt rfl)) fun g4 => Cv rfl (Zo 5 rfl rfl Z6p) fun g5 => Ab rfl <| Nl <| sq ?_
 obtain ⟨x6, hx6, h⟩ := Z9 h
 refine Rg <| Zk lspread_beam_1 Z70 rfl <| Ld Z05 3 rfl <| Ld Zy 4 rfl <| Cl [10, 11] (Zlx _ _ _ hx6) Zlt rfl <| Mt2 rfl <| Ac (Z1b rfl rfl (vt rfl)) rfl <| Ac (Z1d rfl rfl (vt rfl)) rfl <| Cv rfl (Zo 7 rfl rfl Z1k) fun g7 => Zi Zy 7 rfl <| As rfl <| Nl <| sq <| SR <| Md rfl <| Ac (Z1a rfl rfl (vt rfl)) rfl <| Nl <| Cq rfl h (fun h => ?_) (fun h => ?_)
 ·refine SR <| Ac (opb (⟨(Vector.replicate 24 Z0n), (Vector.replicate 24 Z0n)⟩ : spread_beam) Z6p rfl Zig (pn rfl)) rfl <| Zi Z3c 5 rfl <| Ab rfl <| Nl <| rt ?_
  cases h; exact Z0y Tryz.results193 rfl (Zx rfl (i := 5) rfl Z3c) (Zc rfl)
 ·refine sk <| sq ?_
  obtain ⟨x8, hx8, h⟩ := Z9 h
  refine Rg <| Ld Zy 7 rfl <| Zk lspread_beam_0 Z8k rfl <| Ld Zy 3 rfl <| Cl [19, 21] (Zd1 _ _ _ hx8) Zbk rfl <| Mt2 rfl <| Ac (Z1b rfl rfl (vt rfl)) rfl <| Ac (Z1d rfl rfl (vt rfl)) rfl <| Zk lspread_beam_0 Z8k rfl <| Zi Zy 3 rfl <| As rfl <| Nl <| SR <| Ld Z3c 3 rfl <| Md rfl <| Zi Z3c 5 rfl <| As rfl <| Nl <| rt ?_
  cases h; exact Z0y Tryz.results193 rfl (Zx rfl (i := 5) rfl Z3c) (Zc rfl)
def Zgy (x1 : Env) (n2 : Int) : Option Int :=
 (bif (decide (n2 < 1)) then some 0 else (Zay x1.Turn n2).bind fun q4 => (bif (decide (q4 < 0)) then some (IntKind.i64.wrap (q4 + n2)) else some q4))
theorem Zs6 : Q2 Tryz.prog 284 (rd Z1j) (rd (Z0 .i64)) (rd (Z0 .i64)) Zgy := fun x1 n2 r h => I0 Tryz.func284 rfl Tryz.ntmps284 rfl fun w H => by
 unfold Zgy at h
 refine SR <| Cv rfl (Zl 3 rfl rfl (vt rfl)) fun g3 => Ak rfl <| Nl <| sq <| SR <| Md rfl <| Ac (Zn rfl rfl (vt rfl) (vk rfl)) rfl <| Nl <| Cq rfl h (fun h => ?_) (fun h => ?_)
 ·refine SR <| Ak rfl <| Nl <| rt ?_
  cases h; exact Zm Tryz.results284 rfl (Zc rfl)
 ·refine sk <| sq ?_
  obtain ⟨q4, hq4, h⟩ := Z9 h
  refine Rg <| Zk Zp4 Zri rfl <| Ld Zq 3 rfl <| Md rfl <| Ac (Zkx rfl rfl (vt rfl) (vt rfl) hq4) rfl <| As rfl <| Nl <| sq <| SR <| Md rfl <| Ac (Zn rfl rfl (vt rfl) (vk rfl)) rfl <| Nl <| Cq rfl h (fun h => ?_) (fun h => ?_)
  ·refine Rg <| Md rfl <| Md rfl <| Ac (Z0d rfl rfl (vt rfl) (vt rfl)) rfl <| As rfl <| Nl <| SR <| Md rfl <| As rfl <| Nl <| rt ?_
   cases h; exact Zm Tryz.results284 rfl (Zc rfl)
  ·refine sk <| SR <| Md rfl <| As rfl <| Nl <| rt ?_
   cases h; exact Zm Tryz.results284 rfl (Zc rfl)
def Zgz (s1 : (List Int)) (x2 : Int) : Option Bool :=
 (Zc0 s1 x2).bind fun x3 => some (decide (x3 ≥ 0))
theorem Zpq : Q2 Tryz.prog 338 (rd (Z4 (Z0 .i64))) (rd (Z0 .i64)) (rd Z6) Zgz := fun s1 x2 r h => I0 Tryz.func338 rfl Tryz.ntmps338 rfl fun w H => by
 unfold Zgz at h
 refine SR <| Ab rfl <| Nl <| sq ?_
 obtain ⟨x3, hx3, h⟩ := Z9 h
 refine Rg <| Md rfl <| Md rfl <| Cl [5, 6] (Zlw _ _ _ hx3) Zkd rfl <| Ac (Z3l rfl rfl (vt rfl) (vk rfl)) rfl <| As rfl <| Nl <| rt ?_
 cases h; exact Zm Tryz.results338 rfl (Zc rfl)
def Zh4 (x1 : Env) (p2 : Int) : Option Bool :=
 (Zgz x1.Down p2).bind fun x4 => some (!x4)
theorem Zws : Q2 Tryz.prog 326 (rd Z1j) (rd (Z0 .i64)) (rd Z6) Zh4 := fun x1 p2 r h => I0 Tryz.func326 rfl Tryz.ntmps326 rfl fun w H => by
 unfold Zh4 at h
 refine SR <| Cv rfl (Zl 3 rfl rfl (vt rfl)) fun g3 => Ab rfl <| Nl <| sq ?_
 obtain ⟨x4, hx4, h⟩ := Z9 h
 refine Rg <| Zk Zkn Zrt rfl <| Ld Zpx 3 rfl <| Md rfl <| Cl [6, 7] (Zpq _ _ _ hx4) Y07 rfl <| Ac (Z1a rfl rfl (vt rfl)) rfl <| As rfl <| Nl <| rt ?_
 cases h; exact Zm Tryz.results326 rfl (Zc rfl)
def Zbi (x1 : Bucket) (x2 : env_world) : Option Bool :=
 (Zh4 x2.Env x1.Watch).bind fun x4 => some x4
theorem Y03 : Q2 Tryz.prog 325 (rd Z1w) (rp Z5x) (rd Z6) Zbi := fun x1 x2 r h => I0 Tryz.func325 rfl Tryz.ntmps325 rfl fun w H => by
 unfold Zbi at h
 refine SR <| Cv rfl (Zl 3 rfl rfl (vt rfl)) fun g3 => Ab rfl <| Nl <| sq ?_
 obtain ⟨x4, hx4, h⟩ := Z9 h
 refine Rg <| Fp lenv_world_0 Zpd rfl <| Lp1 Z6f rfl <| Zk Zkf Zx9 rfl <| Ld Zq 3 rfl <| Cl [5, 7] (Zws _ _ _ hx4) Zvq rfl <| As rfl <| Nl <| rt ?_
 cases h; exact Zm Tryz.results325 rfl (Zc rfl)
def Z9b (s1 : (List Bucket)) (x2 : (Bucket → Option Bool)) : Nat → Nat → Option Int
 | 0, i3 => some (-1)
 | m4 + 1, i3 => (lget s1 (i3 : Int)).bind fun x5 => (x2 x5).bind fun x6 => (bif x6 then some (i3 : Int) else (Z9b s1 x2 m4) (i3 + 1))
def Zgi (s1 : (List Bucket)) (x2 : (Bucket → Option Bool)) : Option Int :=
 Z9b s1 x2 ((s1.length : Int) : Int).toNat 0
theorem Y0j : Q2 Tryz.prog 231 (rd (Z4 Z1w)) (fn1 Tryz.prog Z1w Z6) (rd (Z0 .i64)) Zgi := fun s1 x2 r h => I0 Tryz.func231 rfl Tryz.ntmps231 rfl fun w H => by
 unfold Zgi at h
 refine SR <| Ak rfl <| Nl <| sq <| SR <| Md rfl <| Ac (Z16 rfl rfl Z3x (vt rfl)) rfl <| Mk rfl <| Nl <| bk <| LG (d := []) (ν := Nat × Nat) (fun (m4, i3) => (Cnt (s1.length : Int) i3 m4 ∧ Z9b s1 x2 m4 i3 = some r, m4, [(0, rd (Z4 Z1w) s1), (1, fn1 Tryz.prog Z1w Z6 x2), (7, rd (Z0 .i64) (s1.length : Int)), (8, rd (Z0 .i64) (i3 : Int))], [])) (((s1.length : Int) : Int).toNat, 0) ⟨Cnt.start _, h⟩ (FX rfl) ?_
 rintro ⟨m4, i3⟩ ⟨hsf1, h⟩
 dsimp only at hsf1 h ⊢
 cases m4 with
 | zero =>
  unfold Z9b at h
  refine SR <| Ac (Zn rfl rfl (vt rfl) (vt rfl)) rfl <| Nl <| sq <| Cn rfl (fun hc => absurd (of_decide_eq_true hc) hsf1.zero) (fun hc => ?_)
  refine xt <| SR <| Ak rfl <| Nl <| rt ?_
  cases h; exact Zm Tryz.results231 rfl (Zc rfl)
 | succ m4 =>
  unfold Z9b at h
  refine SR <| Ac (Zn rfl rfl (vt rfl) (vt rfl)) rfl <| Nl <| sq <| Cn rfl (fun hc => ?_) (fun hc => absurd hsf1.succ (of_decide_eq_false hc))
  have hlti3 := of_decide_eq_true hc
  refine sk <| sq <| bk <| SR <| Md rfl <| As rfl <| Nl <| sq ?_
  obtain ⟨x5, hx5, x6, hx6, h⟩ := bs2 h
  refine Rg <| Ac (Zt (A := fn1 Tryz.prog Z1w Z6 x2) rfl rfl (vt rfl)) rfl <| Md rfl <| Md rfl <| Ac (Z0z rfl rfl Z3x (vt rfl) (vt rfl) hx5) rfl <| Lp1 Zvx rfl <| Ac (Z5r hx6 rfl rfl (vt rfl) (vt rfl)) rfl <| Nl <| Cq rfl h (fun h => ?_) (fun h => ?_)
  ·refine SR <| Md rfl <| As rfl <| Nl <| rt ?_
   cases h; exact Zm Tryz.results231 rfl (Zc rfl)
  ·refine sk <| Rg <| Ac (Z12 (t := 7) rfl rfl (vt rfl) (vk rfl) (vt rfl) hlti3) rfl <| Md rfl <| Nl ?_
   exact ⟨(_, _), Nat.lt_succ_self _, ⟨hsf1.next, h⟩, FX rfl⟩
def Zfy (w1 : env_world) : Option Int :=
 (Zgi w1.Group.Buckets (fun x => Zbi x w1)).bind fun x3 => some x3
theorem Zxf : Q1 Tryz.prog 285 (rd Z5x) (rd (Z0 .i64)) Zfy := fun w1 r h => I0 Tryz.func285 rfl Tryz.ntmps285 rfl fun w H => by
 unfold Zfy at h
 refine SR <| Cv rfl (Zl 2 rfl rfl (vt rfl)) fun g2 => Ak rfl <| Nl <| sq <| AW.freezeB 1 2 rfl rfl rfl ?_
 obtain ⟨x3, hx3, h⟩ := Z9 h
 refine Rg <| Fp lenv_world_1 Zao rfl <| Fp Z53 Z6r rfl <| Lp1 Z6h rfl <| Ac (Z4k (cs := [.tmp 1]) (CAs := [rp Z5x w1]) (fun x => Zbi x w1) rfl rfl Zuu ⟨vt rfl, trivial⟩ (fun x y h => Y03 _ _ y h)) rfl <| Cl [5, 6] (Y0j _ _ _ hx3) Zuo rfl <| As rfl <| Nl <| rt ?_
 cases h; exact Zm Tryz.results285 rfl (Zc rfl)
end Go.Proofs.YtknpgojdkobgjaaGreat.W
set_option maxRecDepth 4000
namespace Go.Proofs.YtknpgojdkobgjaaGreat.W
open Go Go.Wb
theorem Zy2 : Ent Tryz.prog 284 := Ent.mk Tryz.func284 rfl rfl
theorem Zut : Ent Tryz.prog 285 := Ent.mk Tryz.func285 rfl rfl
theorem Zur : Ent Tryz.prog 300 := Ent.mk Tryz.func300 rfl rfl
theorem Zsz : Ent Tryz.prog 238 := Ent.mk Tryz.func238 rfl rfl
theorem Zp2 : Ent Tryz.prog 255 := Ent.mk Tryz.func255 rfl rfl
theorem Zrz : Ent Tryz.prog 131 := Ent.mk Tryz.func131 rfl rfl
theorem Zv9 : Ent Tryz.prog 130 := Ent.mk Tryz.func130 rfl rfl
theorem Zxv : Ent Tryz.prog 129 := Ent.mk Tryz.func129 rfl rfl
def Z9t : Nat → Nat → (List Int) → Option (List Int)
 | 0, i10, l8 => some l8
 | m11 + 1, i10, l8 => (Z1n l8 [(i10 : Int)]).bind fun l12 => (Z9t m11) (i10 + 1) l12
def Zhm (x1 : Env) (x2 : Group) : Option (List Int) :=
 (bif (decide (((((⟨x1, x2⟩ : env_world).Group).Buckets).length : Int) = 0)) then some [] else (bif (decide ((((⟨x1, x2⟩ : env_world).Group).Kind) = 0)) then Z9t (((((⟨x1, x2⟩ : env_world).Group).Buckets).length : Int) : Int).toNat 0 [] else (bif (decide ((((⟨x1, x2⟩ : env_world).Group).Kind) = 1)) then (Zgy ((⟨x1, x2⟩ : env_world).Env) ((((⟨x1, x2⟩ : env_world).Group).Buckets).length : Int)).bind fun x14 => some [x14] else (bif (decide ((((⟨x1, x2⟩ : env_world).Group).Kind) = 2)) then some [0] else (bif (decide ((((⟨x1, x2⟩ : env_world).Group).Kind) = 3)) then (Zfy (⟨x1, x2⟩ : env_world)).bind fun x15 => (bif (decide (x15 ≥ 0)) then some [x15] else some []) else some [])))))
theorem Zte : Q2 Tryz.prog 238 (rd Z1j) (rd Z0b) (rd (Z4 (Z0 .i64))) Zhm := fun x1 x2 r h => I0 Tryz.func238 rfl Tryz.ntmps238 rfl fun w H => by
 unfold Zhm at h
 refine SR <| Cv rfl (Zl 3 rfl rfl (vt rfl)) fun g3 => Cv rfl (Zl 4 rfl rfl (vt rfl)) fun g4 => Ac (Z00 (A := rd (Z4 (Z0 .i64)) []) rfl rfl Z13) rfl <| Nl <| SR <| Ld Z6f 3 rfl <| Ld Z3e 4 rfl <| Ac (opb (⟨x1, x2⟩ : env_world) Zpc rfl Zrn (pc Zu7 (vt rfl) <| pc Zvh (vt rfl) <| pn rfl)) rfl <| Cv rfl (Zo 6 rfl rfl Zpc) fun g5 => Zi Zp7 6 rfl <| Nl <| sq <| SR <| Zk lenv_world_1 Zao rfl <| Zk Z53 Z6r rfl <| Ld Z6h 6 rfl <| Ac (Z16 rfl rfl Z3x (vt rfl)) rfl <| Ac (Z1m rfl rfl (vt rfl) (vk rfl)) rfl <| Nl <| Cq rfl h (fun h => ?_) (fun h => ?_)
 ·refine SR <| Ac (Z00 (A := rd (Z4 (Z0 .i64)) []) rfl rfl Z13) rfl <| Nl <| rt ?_
  cases h; exact Zm Tryz.results238 rfl (Zc rfl)
 ·refine sk <| sq <| SR <| Zk lenv_world_1 Zao rfl <| Zk Zjt Zwr rfl <| Ld Zq 6 rfl <| Nl <| bk <| SR <| Ac (Z1m rfl rfl (vt rfl) (vk rfl)) rfl <| As rfl <| Nl <| Cq rfl h (fun h => ?_) (fun h => ?_)
  ·refine sq <| AW.newnil 1001 3 (Z0 .i64) <| Rg <| Ac (Z00 rfl rfl vc) rfl <| Nl <| sq <| SR <| Zk lenv_world_1 Zao rfl <| Zk Z53 Z6r rfl <| Ld Z6h 6 rfl <| Ac (Z16 rfl rfl Z3x (vt rfl)) rfl <| Mk rfl <| Nl <| bk <| LG (d := []) (ν := Nat × Nat × (List Int) × Value) (fun (m11, i10, l8, v9) => (Cnt ((((⟨x1, x2⟩ : env_world).Group).Buckets).length : Int) i10 m11 ∧ Z9t m11 i10 l8 = some r, m11, [(6, Zh v9), (25, rd (Z0 .i64) ((((⟨x1, x2⟩ : env_world).Group).Buckets).length : Int)), (26, rd (Z0 .i64) (i10 : Int))], [(1001, Za v9 3 (Z0 .i64) l8)])) ((((((⟨x1, x2⟩ : env_world).Group).Buckets).length : Int) : Int).toNat, 0, [], (.slice none 0 0)) ⟨Cnt.start _, h⟩ (FX rfl) ?_
   rintro ⟨m11, i10, l8, v9⟩ ⟨hsf1, h⟩
   dsimp only at hsf1 h ⊢
   cases m11 with
   | zero =>
    unfold Z9t at h
    refine SR <| Ac (Zn rfl rfl (vt rfl) (vt rfl)) rfl <| Nl <| sq <| Cn rfl (fun hc => absurd (of_decide_eq_true hc) hsf1.zero) (fun hc => ?_)
    refine xt <| SR <| Mw rfl <| Aw rfl <| Nl <| AW.freezes [4, 6, 34] 1001 rfl ⟨rfl, rfl, rfl, trivial⟩ rfl <| rt ?_
    cases h; exact Zm Tryz.results238 rfl (Zc rfl)
   | succ m11 =>
    unfold Z9t at h
    refine SR <| Ac (Zn rfl rfl (vt rfl) (vt rfl)) rfl <| Nl <| sq <| Cn rfl (fun hc => ?_) (fun hc => absurd hsf1.succ (of_decide_eq_false hc))
    have hlti10 := of_decide_eq_true hc
    refine sk <| sq <| bk <| SR <| Md rfl <| As rfl <| Nl ?_
    obtain ⟨l12, hl12, h⟩ := Z9 h
    refine Rg <| Mw rfl <| Md rfl <| Ac (osl Z0q zr3 rfl (vt rfl)) rfl <| Cv rfl (Z2x 1001 hl12 rfl rfl Zct (vt rfl) rfl (vt rfl)) fun v13 => Aw rfl <| Nl <| Rg <| Ac (Z12 (t := 25) rfl rfl (vt rfl) (vk rfl) (vt rfl) hlti10) rfl <| Md rfl <| Nl ?_
    exact ⟨(_, _, _, _), Nat.lt_succ_self _, ⟨hsf1.next, h⟩, FX rfl⟩
  ·refine SR <| Ac (Z1m rfl rfl (vt rfl) (vk rfl)) rfl <| As rfl <| Nl <| Cq rfl h (fun h => ?_) (fun h => ?_)
   ·refine sq ?_
    obtain ⟨x14, hx14, h⟩ := Z9 h
    refine Rg <| Zk lenv_world_0 Zpd rfl <| Ld Z6f 6 rfl <| Zk lenv_world_1 Zao rfl <| Zk Z53 Z6r rfl <| Ld Z6h 6 rfl <| Ac (Z16 rfl rfl Z3x (vt rfl)) rfl <| Cl [38, 42] (Zs6 _ _ _ hx14) Zy2 rfl <| Ac (osl Z0q zr3 rfl (vt rfl)) rfl <| As rfl <| Nl <| rt ?_
    cases h; exact Zm Tryz.results238 rfl (Zc rfl)
   ·refine SR <| Ac (Z1m rfl rfl (vt rfl) (vk rfl)) rfl <| As rfl <| Nl <| Cq rfl h (fun h => ?_) (fun h => ?_)
    ·refine SR <| Ac (osl Z0q zr3 rfl (vk rfl)) rfl <| As rfl <| Nl <| rt ?_
     cases h; exact Zm Tryz.results238 rfl (Zc rfl)
    ·refine SR <| Ac (Z1m rfl rfl (vt rfl) (vk rfl)) rfl <| As rfl <| Nl <| Cq rfl h (fun h => ?_) (fun h => ?_)
     ·refine sq ?_
      obtain ⟨x15, hx15, h⟩ := Z9 h
      refine Rg <| Ld Zp7 6 rfl <| Cl [50] (Zxf _ _ hx15) Zut rfl <| As rfl <| Nl <| SR <| Md rfl <| Ac (Z3l rfl rfl (vt rfl) (vk rfl)) rfl <| Nl <| Cq rfl h (fun h => ?_) (fun h => ?_)
      ·refine SR <| Md rfl <| Ac (osl Z0q zr3 rfl (vt rfl)) rfl <| As rfl <| Nl <| rt ?_
       cases h; exact Zm Tryz.results238 rfl (Zc rfl)
      ·refine sk <| SR <| Ac (Z00 (A := rd (Z4 (Z0 .i64)) []) rfl rfl Z13) rfl <| Nl <| rt ?_
       cases h; exact Zm Tryz.results238 rfl (Zc rfl)
     ·refine sk <| SR <| Ac (Z00 (A := rd (Z4 (Z0 .i64)) []) rfl rfl Z13) rfl <| Nl <| rt ?_
      cases h; exact Zm Tryz.results238 rfl (Zc rfl)
def Z6y (R_norm_world_group : (norm_world → Int → Zg → Option (List Atom))) (w1 : norm_world) : (List Atom) → Nat → (List Atom) → Option (List Atom)
 | [], i8, l6 => some l6
 | x10 :: l9, i8, l6 => (bif x10.Group then (R_norm_world_group w1 x10.Port x10.Rewrite).bind fun x12 => (Z1n l6 x12).bind fun l13 => (Z6y R_norm_world_group w1 l9) (i8 + 1) l13 else (Z9u x10.Rewrite).bind fun x15 => (Z1n l6 [{ x10 with Rewrite := x15 }]).bind fun l16 => (Z6y R_norm_world_group w1 l9) (i8 + 1) l16)
def Ziq (R_norm_world_list : (norm_world → (List Atom) → Option (List Atom))) (R_norm_world_group : (norm_world → Int → Zg → Option (List Atom))) (w1 : norm_world) (a2 : (List Atom)) : Option (List Atom) :=
 Z6y R_norm_world_group w1 a2 0 []
theorem Y10 (R_norm_world_list : (norm_world → (List Atom) → Option (List Atom))) (hR_norm_world_list : ∀ (w1 : norm_world) (a2 : (List Atom)) (r : (List Atom)), R_norm_world_list w1 a2 = some r → PCon Tryz.prog 255 [rd Z2h w1, rd (Z4 Z04) a2] (rd (Z4 Z04) r)) (R_norm_world_group : (norm_world → Int → Zg → Option (List Atom))) (hR_norm_world_group : ∀ (w1 : norm_world) (i2 : Int) (x3 : Zg) (r : (List Atom)), R_norm_world_group w1 i2 x3 = some r → PCon Tryz.prog 300 [rd Z2h w1, rd (Z0 .i64) i2, rd (Z1 24 Z3) x3] (rd (Z4 Z04) r)) (w1 : norm_world) (a2 : (List Atom)) (r : (List Atom)) (h : Ziq R_norm_world_list R_norm_world_group w1 a2 = some r) : PCon Tryz.prog 255 [rd Z2h w1, rd (Z4 Z04) a2] (rd (Z4 Z04) r) := by
 refine PCon.of (Con.intro0 Tryz.func255 rfl Tryz.ntmps255 rfl fun w H => ?_)
 unfold Ziq at h
 refine SR <| Cv rfl (Zl 3 rfl rfl (vt rfl)) fun g3 => Ac (Z00 (A := rd (Z4 Z04) []) rfl rfl Z13) rfl <| Nl <| sq <| AW.newnil 1001 126 Z04 <| Rg <| Ac (Z00 rfl rfl vc) rfl <| Nl <| sq <| SR <| Md rfl <| Ac (Z16 rfl rfl Z3z (vt rfl)) rfl <| Mk rfl <| Nl <| bk <| LG (d := []) (ν := (List Atom) × Nat × (List Atom) × Value) (fun (l9, i8, l6, v7) => (Sfx a2 i8 l9 ∧ Z6y R_norm_world_group w1 l9 i8 l6 = some r, l9.length, [(2, Z7 g3 (Lens.id Z2h)), (5, Zh v7), (8, rd (Z4 Z04) a2), (9, rd (Z0 .i64) (a2.length : Int)), (10, rd (Z0 .i64) (i8 : Int))], [(3, Zb g3 307 Z2h w1), (1001, Za v7 126 Z04 l6)])) (a2, 0, [], (.slice none 0 0)) ⟨Sfx.start _, h⟩ (FX rfl) ?_
 rintro ⟨l9, i8, l6, v7⟩ ⟨hsf1, h⟩
 dsimp only at hsf1 h ⊢
 cases l9 with
 | nil =>
  unfold Z6y at h
  refine SR <| Ac (Zn rfl rfl (vt rfl) (vt rfl)) rfl <| Nl <| sq <| Cn rfl (fun hc => absurd (of_decide_eq_true hc) hsf1.nil) (fun hc => ?_)
  refine xt <| SR <| Mw rfl <| Aw rfl <| Nl <| AW.freezes [4, 5, 33] 1001 rfl ⟨rfl, rfl, rfl, trivial⟩ rfl <| rt ?_
  cases h; exact Zm Tryz.results255 rfl (Zc rfl)
 | cons x10 l9 =>
  unfold Z6y at h
  refine SR <| Ac (Zn rfl rfl (vt rfl) (vt rfl)) rfl <| Nl <| sq <| Cn rfl (fun hc => ?_) (fun hc => absurd hsf1.cons (of_decide_eq_false hc))
  have hlti8 := of_decide_eq_true hc
  refine sk <| sq <| bk <| SR <| Ac (Z0z rfl rfl Z3z (vt rfl) (vt rfl) hsf1.lget) rfl <| Lp1 Z6c rfl <| Cv rfl (Zo 8 rfl rfl Z6d) fun g11 => Zi Z6c 8 rfl <| Nl <| sq <| SR <| Zk Zgv Zla rfl <| Ld ty4 8 rfl <| Nl <| Cq rfl h (fun h => ?_) (fun h => ?_)
  ·refine sq ?_
   obtain ⟨x12, hx12, l13, hl13, h⟩ := bs2 h
   refine Rg <| Mw rfl <| Ld Zni 3 rfl <| Zk Z77 Za2 rfl <| Ld Zq 8 rfl <| Zk lAtom_0 Zet rfl <| Ld Z05 8 rfl <| Cl [17, 19, 21] (hR_norm_world_group _ _ _ _ hx12) Zur rfl <| Cv rfl (Z2x 1001 hl13 rfl rfl Z7d (vt rfl) rfl (vt rfl)) fun v14 => Aw rfl <| Nl <| xt <| Rg <| Ac (Z12 (t := 9) rfl rfl (vt rfl) (vk rfl) (vt rfl) hlti8) rfl <| Md rfl <| Nl ?_
   exact ⟨(_, _, _, _), Nat.lt_succ_self _, ⟨hsf1.next, h⟩, FX rfl⟩
  ·refine sk <| sq ?_
   obtain ⟨x15, hx15, h⟩ := Z9 h
   refine Rg <| Zk lAtom_0 Zet rfl <| Ld Z05 8 rfl <| Cl [25] (Zex _ _ hx15) Zh0 rfl <| Zk lAtom_0 Zet rfl <| Zi Z05 8 rfl <| Nl ?_
   obtain ⟨l16, hl16, h⟩ := Z9 h
   refine Rg <| Mw rfl <| Ld Z6c 8 rfl <| Ac (osl Z3z Z6d rfl (vt rfl)) rfl <| Cv rfl (Z2x 1001 hl16 rfl rfl Z7d (vt rfl) rfl (vt rfl)) fun v17 => Aw rfl <| Nl <| Rg <| Ac (Z12 (t := 9) rfl rfl (vt rfl) (vk rfl) (vt rfl) hlti8) rfl <| Md rfl <| Nl ?_
   exact ⟨(_, _, _, _), Nat.lt_succ_self _, ⟨hsf1.next, h⟩, FX rfl⟩
def Z90 (x6 : (Group × Bool)) (x3 : Zg) (R_norm_world_list : (norm_world → (List Atom) → Option (List Atom))) (w1 : norm_world) : (List Int) → Nat → (List Atom) → Option (List Atom)
 | [], i13, l11 => some l11
 | x15 :: l14, i13, l11 => (lget x6.1.Buckets x15).bind fun x16 => (Zdq [] x16.Acts).bind fun x17 => (Ze3 x17).bind fun x18 => (Zel x18 x3).bind fun x19 => (R_norm_world_list { w1 with depth := (IntKind.i64.wrap (w1.depth + 1)) } x19.1).bind fun x21 => (Z1n l11 x21).bind fun l22 => (Z90 x6 x3 R_norm_world_list w1 l14) (i13 + 1) l22
def Zge (R_norm_world_list : (norm_world → (List Atom) → Option (List Atom))) (R_norm_world_group : (norm_world → Int → Zg → Option (List Atom))) (w1 : norm_world) (i2 : Int) (x3 : Zg) : Option (List Atom) :=
 (Zec w1.groups i2).bind fun x6 => (bif ((!x6.2) || (decide (w1.depth ≥ 8))) then some [] else (Zhm ({ w1 with depth := (IntKind.i64.wrap (w1.depth + 1)) }.Env) x6.1).bind fun x8 => Z90 x6 x3 R_norm_world_list w1 x8 0 [])
theorem Zqt (R_norm_world_list : (norm_world → (List Atom) → Option (List Atom))) (hR_norm_world_list : ∀ (w1 : norm_world) (a2 : (List Atom)) (r : (List Atom)), R_norm_world_list w1 a2 = some r → PCon Tryz.prog 255 [rd Z2h w1, rd (Z4 Z04) a2] (rd (Z4 Z04) r)) (R_norm_world_group : (norm_world → Int → Zg → Option (List Atom))) (hR_norm_world_group : ∀ (w1 : norm_world) (i2 : Int) (x3 : Zg) (r : (List Atom)), R_norm_world_group w1 i2 x3 = some r → PCon Tryz.prog 300 [rd Z2h w1, rd (Z0 .i64) i2, rd (Z1 24 Z3) x3] (rd (Z4 Z04) r)) (w1 : norm_world) (i2 : Int) (x3 : Zg) (r : (List Atom)) (h : Zge R_norm_world_list R_norm_world_group w1 i2 x3 = some r) : PCon Tryz.prog 300 [rd Z2h w1, rd (Z0 .i64) i2, rd (Z1 24 Z3) x3] (rd (Z4 Z04) r) := by
 refine PCon.of (Con.intro0 Tryz.func300 rfl Tryz.ntmps300 rfl fun w H => ?_)
 unfold Zge at h
 refine SR <| Cv rfl (Zl 4 rfl rfl (vt rfl)) fun g4 => Cv rfl (Zl 6 rfl rfl (vt rfl)) fun g5 => Ac (Z00 (A := rd (Z4 Z04) []) rfl rfl Z13) rfl <| Nl <| sq ?_
 obtain ⟨x6, hx6, h⟩ := Z9 h
 refine Rg <| Zk lnorm_world_1 Y05 rfl <| Ld Zhd 4 rfl <| Md rfl <| Cl [16, 17] (Zlu _ _ _ hx6) Zny rfl <| Mt2 rfl <| Ac (Z1b rfl rfl (vt rfl)) rfl <| Ac (Z1d rfl rfl (vt rfl)) rfl <| Cv rfl (Zo 8 rfl rfl Z67) fun g7 => Zi Z3e 8 rfl <| As rfl <| Nl <| sq <| SR <| Md rfl <| Ac (Z1a rfl rfl (vt rfl)) rfl <| Md rfl <| Gd rfl (fun hq => Z2n Zbe rfl rfl Zg3 (vt rfl)) <| Gd rfl (fun hq => Z1p rfl rfl Zq (vgt rfl hq) (i := 4) rfl) <| Gd rfl (fun hq => Z3l rfl rfl (vgt rfl hq) (vk rfl)) <| Ac (Z5p rfl rfl (vt rfl) (vt rfl)) rfl <| Nl <| Cq rfl h (fun h => ?_) (fun h => ?_)
 ·refine SR <| Ac (Z00 (A := rd (Z4 Z04) []) rfl rfl Z13) rfl <| Nl <| rt ?_
  cases h; exact Zm Tryz.results300 rfl (Zc rfl)
 ·refine sk <| SR <| Zk Zbe Zg3 rfl <| Ld Zq 4 rfl <| Ac (Z0d rfl rfl (vt rfl) (vk rfl)) rfl <| Zk Zbe Zg3 rfl <| Zi Zq 4 rfl <| Nl <| sq <| AW.newnil 1001 126 Z04 <| Rg <| Ac (Z00 rfl rfl vc) rfl <| Nl <| sq <| sq ?_
  obtain ⟨x8, hx8, h⟩ := Z9 h
  refine Rg <| Zk lnorm_world_0 Zqu rfl <| Ld Z6f 4 rfl <| Ld Z3e 8 rfl <| Cl [33, 34] (Zte _ _ _ hx8) Zsz rfl <| Ac (Z16 rfl rfl Z0q (vt rfl)) rfl <| Mk rfl <| Nl <| bk <| LG (d := []) (ν := (List Int) × Nat × (List Atom) × Value) (fun (l14, i13, l11, v12) => (Sfx x8 i13 l14 ∧ Z90 x6 x3 R_norm_world_list w1 l14 i13 l11 = some r, l14.length, [(3, Z7 g4 (Lens.id Z2h)), (5, Z7 g5 (Lens.id (Z1 24 Z3))), (7, Z7 g7 (Lens.id Z0b)), (9, Zh v12), (35, rd (Z4 (Z0 .i64)) x8), (36, rd (Z0 .i64) (x8.length : Int)), (37, rd (Z0 .i64) (i13 : Int))], [(4, Zb g4 307 Z2h { w1 with depth := (IntKind.i64.wrap (w1.depth + 1)) }), (6, Zb g5 101 (Z1 24 Z3) x3), (8, Zb g7 164 Z0b x6.1), (1001, Za v12 126 Z04 l11)])) (x8, 0, [], (.slice none 0 0)) ⟨Sfx.start _, h⟩ (FX rfl) ?_
  rintro ⟨l14, i13, l11, v12⟩ ⟨hsf1, h⟩
  dsimp only at hsf1 h ⊢
  cases l14 with
  | nil =>
   unfold Z90 at h
   refine SR <| Ac (Zn rfl rfl (vt rfl) (vt rfl)) rfl <| Nl <| sq <| Cn rfl (fun hc => absurd (of_decide_eq_true hc) hsf1.nil) (fun hc => ?_)
   refine xt <| SR <| Mw rfl <| Aw rfl <| Nl <| AW.freezes [6, 9, 60] 1001 rfl ⟨rfl, rfl, rfl, trivial⟩ rfl <| rt ?_
   cases h; exact Zm Tryz.results300 rfl (Zc rfl)
  | cons x15 l14 =>
   unfold Z90 at h
   refine SR <| Ac (Zn rfl rfl (vt rfl) (vt rfl)) rfl <| Nl <| sq <| Cn rfl (fun hc => ?_) (fun hc => absurd hsf1.cons (of_decide_eq_false hc))
   have hlti13 := of_decide_eq_true hc
   refine sk <| sq <| bk <| SR <| Ac (Z0z rfl rfl Z0q (vt rfl) (vt rfl) hsf1.lget) rfl <| Lp1 Zq rfl <| As rfl <| Nl <| sq ?_
   obtain ⟨x16, hx16, x17, hx17, x18, hx18, x19, hx19, h⟩ := bs4 h
   refine AR Zw (by kernel_rfl) <| Zu Z53 Z6r rfl <| Zj Z6h 8 rfl <| Zs rfl <| Sd (lo [43, 44] [] rfl fun S hs hr => Z0z rfl rfl Z3x (vh hs 43 rfl rfl) (vh hs 44 rfl rfl) hx16) <| SFp Zbv Zg5 rfl <| SLp Z43 rfl <| Sd (lo [47] [] rfl fun S hs hr => Z1c (xs := [.const (Value.slice none 0 0), .tmp 47]) (Zou _ _ _ hx17) Znt rfl rfl ⟨Z13, vt ((hs 47 rfl).trans rfl), trivial⟩) <| SCl [48] (Zo2 _ _ hx18) Zls rfl <| Zj Z05 6 rfl <| SCl [49, 50] (Zkq _ _ _ hx19) Znz rfl <| Sd (lo [51] [] rfl fun S hs hr => Zt (A := Z0w (rd (Z4 Z04) x19.1) (rd (Z1 24 Z3) x19.2)) rfl rfl (vh hs 51 rfl rfl)) <| Sd (lo [41] [] rfl fun S hs hr => Z1b rfl rfl (vh hs 41 rfl rfl)) <| Sd (lo [41] [] rfl fun S hs hr => Z1d rfl rfl (vh hs 41 rfl rfl)) <| Sd (Z1o (us := [(13, Z2q 101 (Z1 24 Z3) (Vector.replicate 24 Z0n))]) (ur := []) [] [] rfl fun S hs hr => Z71 rfl rfl rfl Z3m) <| SAs rfl <| Sd (Z1o (us := [(13, Z2q 101 (Z1 24 Z3) x19.2)]) (ur := []) [13, 53] [] rfl fun S hs hr => Z7t rfl rfl Z05 ((hs 13 rfl).trans rfl) (vh hs 53 rfl rfl)) <| Sn <| AW.unpackP 13 14 rfl rfl fun g20 => ?_
   obtain ⟨x21, hx21, l22, hl22, h⟩ := bs2 h
   refine Rg <| Mw rfl <| Ld Zni 4 rfl <| Md rfl <| Cl [55, 56] (hR_norm_world_list _ _ _ hx21) Zp2 rfl <| Cv rfl (Z2x 1001 hl22 rfl rfl Z7d (vt rfl) rfl (vt rfl)) fun v23 => Aw rfl <| Nl <| Rg <| Ac (Z12 (t := 36) rfl rfl (vt rfl) (vk rfl) (vt rfl) hlti13) rfl <| Md rfl <| Nl ?_
   exact ⟨(_, _, _, _), Nat.lt_succ_self _, ⟨hsf1.next, h⟩, FX rfl⟩
def Z3v : Nat → (norm_world → (List Atom) → Option (List Atom)) × (norm_world → Int → Zg → Option (List Atom))
 | 0 => ((fun _ _ => none), (fun _ _ _ => none))
 | n + 1 => ((Ziq (Z3v n).1 (Z3v n).2), (Zge (Z3v n).1 (Z3v n).2))
theorem Zjc : ∀ n : Nat, (∀ (w1 : norm_world) (a2 : (List Atom)) (r : (List Atom)), (Z3v n).1 w1 a2 = some r → PCon Tryz.prog 255 [rd Z2h w1, rd (Z4 Z04) a2] (rd (Z4 Z04) r)) ∧ (∀ (w1 : norm_world) (i2 : Int) (x3 : Zg) (r : (List Atom)), (Z3v n).2 w1 i2 x3 = some r → PCon Tryz.prog 300 [rd Z2h w1, rd (Z0 .i64) i2, rd (Z1 24 Z3) x3] (rd (Z4 Z04) r))
 | 0 => ⟨(by intros; rename_i h; cases h), (by intros; rename_i h; cases h)⟩
 | n + 1 => by
  have ih := Zjc n
  exact ⟨(Y10 (Z3v n).1 ih.1 (Z3v n).2 ih.2), (Zqt (Z3v n).1 ih.1 (Z3v n).2 ih.2)⟩
def Zkt (w1 : norm_world) (a2 : (List Atom)) : Option (List Atom) := (Z3v Z27).1 w1 a2
theorem Zrp : ∀ (w1 : norm_world) (a2 : (List Atom)) (r : (List Atom)), Zkt w1 a2 = some r → PCon Tryz.prog 255 [rd Z2h w1, rd (Z4 Z04) a2] (rd (Z4 Z04) r) := (Zjc Z27).1
def Zh5 (l1 : (List Group)) (x2 : Env) (a3 : (List Atom)) : Option (List Atom) :=
 (Zkt (⟨x2, l1, 0⟩ : norm_world) a3).bind fun x5 => some x5
theorem Zqc : Q3 Tryz.prog 195 (rd (Z4 Z0b)) (rd Z1j) (rd (Z4 Z04)) (rd (Z4 Z04)) Zh5 := fun l1 x2 a3 r h => I0 Tryz.func195 rfl Tryz.ntmps195 rfl fun w H => by
 unfold Zh5 at h
 refine SR <| Cv rfl (Zl 5 rfl rfl (vt rfl)) fun g4 => Ac (Z00 (A := rd (Z4 Z04) []) rfl rfl Z13) rfl <| Nl <| sq ?_
 obtain ⟨x5, hx5, h⟩ := Z9 h
 refine Rg <| Ld Z6f 5 rfl <| Md rfl <| Ac (opb (⟨x2, l1, 0⟩ : norm_world) Y2v rfl Y2m (pc Zvf (vt rfl) <| pc Zu9 (vt rfl) <| pn rfl)) rfl <| Md rfl <| Cl [9, 10] (Zrp _ _ _ hx5) Zp2 rfl <| As rfl <| Nl <| rt ?_
 cases h; exact Zm Tryz.results195 rfl (Zc rfl)
def Zgl (b1 : spread_beam) (x2 : Zg) : Option spread_beam :=
 (Zcu b1.got x2).bind fun x6 => some (⟨b1.cube, x6⟩ : spread_beam)
theorem Y2c : Q2 Tryz.prog 253 (rd Z1x) (rd (Z1 24 Z3)) (rd Z1x) Zgl := fun b1 x2 r h => I0 Tryz.func253 rfl Tryz.ntmps253 rfl fun w H => by
 unfold Zgl at h
 refine SR <| Cv rfl (Zl 3 rfl rfl (vt rfl)) fun g3 => Cv rfl (Zl 4 rfl rfl (vt rfl)) fun g4 => Cv rfl (Zo 5 rfl rfl Z6p) fun g5 => Nl <| sq ?_
 obtain ⟨x6, hx6, h⟩ := Z9 h
 refine AR Zw (by kernel_rfl) <| Zu lspread_beam_0 Z8k rfl <| Zj Zy 3 rfl <| Zu lspread_beam_1 Z70 rfl <| Zj Z05 3 rfl <| Zj Z05 4 rfl <| SCl [8, 9] (Zoq _ _ _ hx6) Zoz rfl <| Sd (lo [6, 10] [] rfl fun S hs hr => opb (⟨b1.cube, x6⟩ : spread_beam) Z6p rfl Zig (pc Zjd (vh hs 6 rfl rfl) <| pc Zji (vh hs 10 rfl rfl) <| pn rfl)) <| SSt Z3c 5 rfl <| Sn <| rt ?_
 cases h; exact Zm Tryz.results253 rfl (Zx rfl (i := 5) rfl Z3c)
def Zil (n1 : Net) (a2 : Int) : Option Bool :=
 some ((decide (a2 ≥ 0)) && (decide (a2 < (n1.Switches.length : Int))))
theorem Zyo : Q2 Tryz.prog 131 (rd Z2j) (rd (Z0 .i64)) (rd Z6) Zil := fun n1 a2 r h => I0 Tryz.func131 rfl Tryz.ntmps131 rfl fun w H => by
 unfold Zil at h
 refine SR <| Cv rfl (Zl 3 rfl rfl (vt rfl)) fun g3 => Ab rfl <| Nl <| SR <| Md rfl <| Ac (Z3l rfl rfl (vt rfl) (vk rfl)) rfl <| Md rfl <| Gd rfl (fun hq => Zt (A := rd (Z0 .i64) a2) rfl rfl (vt rfl)) <| Gd rfl (fun hq => Z2n lNet_0 rfl rfl Zg1 (vt rfl)) <| Gd rfl (fun hq => Z1p rfl rfl Zfu (vgt rfl hq) (i := 3) rfl) <| Gd rfl (fun hq => Z16 rfl rfl Zaa (vgt rfl hq)) <| Gd rfl (fun hq => Zn rfl rfl (vgt rfl hq) (vgt rfl hq)) <| Ac (Z22 rfl rfl (vt rfl) (vt rfl)) rfl <| As rfl <| Nl <| rt ?_
 cases h; exact Zm Tryz.results131 rfl (Zc rfl)
def Ze1 (l1 : Link) (x2 : Int) (x3 : Int) (x4 : Net) : Option Bool :=
 (opt ((decide (l1.From = x2)) && (decide (l1.Out = x3))) (Zil x4 l1.To)).bind fun x6 => some (((decide (l1.From = x2)) && (decide (l1.Out = x3))) && x6)
theorem Y0q : Q4 Tryz.prog 130 (rd Z2a) (rp (Z0 .i64)) (rp (Z0 .i64)) (rp Z2j) (rd Z6) Ze1 := fun l1 x2 x3 x4 r h => I0 Tryz.func130 rfl Tryz.ntmps130 rfl fun w H => by
 unfold Ze1 at h
 refine SR <| Cv rfl (Zl 5 rfl rfl (vt rfl)) fun g5 => Ab rfl <| Nl <| sq ?_
 obtain ⟨x6, hx6, h⟩ := Z9 h
 refine Rg <| Zk lLink_0 Zt4 rfl <| Ld Zq 5 rfl <| Lp1 Zq rfl <| Ac (Z1m rfl rfl (vt rfl) (vt rfl)) rfl <| Md rfl <| Gd rfl (fun hq => Z2n lLink_1 rfl rfl Y1m (vt rfl)) <| Gd rfl (fun hq => Z1p rfl rfl Zq (vgt rfl hq) (i := 5) rfl) <| Gd rfl (fun hq => Z82 rfl rfl Zq (vt rfl)) <| Gd rfl (fun hq => Z1m rfl rfl (vgt rfl hq) (vgt rfl hq)) <| Ac (Z22 rfl rfl (vt rfl) (vt rfl)) rfl <| Md rfl <| Gd rfl (fun hq => Z82 rfl rfl Z68 (vt rfl)) <| Gd rfl (fun hq => Z2n lLink_2 rfl rfl Znw (vt rfl)) <| Gd rfl (fun hq => Z1p rfl rfl Zq (vgt rfl hq) (i := 5) rfl) <| Gd rfl (fun hq => Z1c (xs := [.tmp 17, .tmp 19]) (Zyo _ _ _ (Z2s hx6 hq)) Zrz rfl rfl ⟨vgt rfl hq, vgt rfl hq, trivial⟩) <| Ac (Z22 rfl rfl (vt rfl) (vt rfl)) rfl <| As rfl <| Nl <| rt ?_
 cases h; exact Zm Tryz.results130 rfl (Zc rfl)
def Z9h (s1 : (List Link)) (x2 : (Link → Option Bool)) : Nat → Nat → Option Int
 | 0, i3 => some (-1)
 | m4 + 1, i3 => (lget s1 (i3 : Int)).bind fun x5 => (x2 x5).bind fun x6 => (bif x6 then some (i3 : Int) else (Z9h s1 x2 m4) (i3 + 1))
def Zgn (s1 : (List Link)) (x2 : (Link → Option Bool)) : Option Int :=
 Z9h s1 x2 ((s1.length : Int) : Int).toNat 0
theorem Y15 : Q2 Tryz.prog 129 (rd (Z4 Z2a)) (fn1 Tryz.prog Z2a Z6) (rd (Z0 .i64)) Zgn := fun s1 x2 r h => I0 Tryz.func129 rfl Tryz.ntmps129 rfl fun w H => by
 unfold Zgn at h
 refine SR <| Ak rfl <| Nl <| sq <| SR <| Md rfl <| Ac (Z16 rfl rfl Z9p (vt rfl)) rfl <| Mk rfl <| Nl <| bk <| LG (d := []) (ν := Nat × Nat) (fun (m4, i3) => (Cnt (s1.length : Int) i3 m4 ∧ Z9h s1 x2 m4 i3 = some r, m4, [(0, rd (Z4 Z2a) s1), (1, fn1 Tryz.prog Z2a Z6 x2), (7, rd (Z0 .i64) (s1.length : Int)), (8, rd (Z0 .i64) (i3 : Int))], [])) (((s1.length : Int) : Int).toNat, 0) ⟨Cnt.start _, h⟩ (FX rfl) ?_
 rintro ⟨m4, i3⟩ ⟨hsf1, h⟩
 dsimp only at hsf1 h ⊢
 cases m4 with
 | zero =>
  unfold Z9h at h
  refine SR <| Ac (Zn rfl rfl (vt rfl) (vt rfl)) rfl <| Nl <| sq <| Cn rfl (fun hc => absurd (of_decide_eq_true hc) hsf1.zero) (fun hc => ?_)
  refine xt <| SR <| Ak rfl <| Nl <| rt ?_
  cases h; exact Zm Tryz.results129 rfl (Zc rfl)
 | succ m4 =>
  unfold Z9h at h
  refine SR <| Ac (Zn rfl rfl (vt rfl) (vt rfl)) rfl <| Nl <| sq <| Cn rfl (fun hc => ?_) (fun hc => absurd hsf1.succ (of_decide_eq_false hc))
  have hlti3 := of_decide_eq_true hc
  refine sk <| sq <| bk <| SR <| Md rfl <| As rfl <| Nl <| sq ?_
  obtain ⟨x5, hx5, x6, hx6, h⟩ := bs2 h
  refine Rg <| Ac (Zt (A := fn1 Tryz.prog Z2a Z6 x2) rfl rfl (vt rfl)) rfl <| Md rfl <| Md rfl <| Ac (Z0z rfl rfl Z9p (vt rfl) (vt rfl) hx5) rfl <| Lp1 Zvp rfl <| Ac (Z5r hx6 rfl rfl (vt rfl) (vt rfl)) rfl <| Nl <| Cq rfl h (fun h => ?_) (fun h => ?_)
  ·refine SR <| Md rfl <| As rfl <| Nl <| rt ?_
   cases h; exact Zm Tryz.results129 rfl (Zc rfl)
  ·refine sk <| Rg <| Ac (Z12 (t := 7) rfl rfl (vt rfl) (vk rfl) (vt rfl) hlti3) rfl <| Md rfl <| Nl ?_
   exact ⟨(_, _), Nat.lt_succ_self _, ⟨hsf1.next, h⟩, FX rfl⟩
def Zi7 (n1 : Net) (a2 : Int) (p3 : Int) : Option (Int × Int × Bool) :=
 (Zgn n1.Links (fun x => Ze1 x a2 p3 n1)).bind fun x7 => (bif (decide (x7 < 0)) then some (0, 0, false) else (lget n1.Links x7).bind fun x8 => (lget n1.Links x7).bind fun x9 => some (x8.To, x9.In, true))
theorem Zqd : Q3 Tryz.prog 72 (rd Z2j) (rd (Z0 .i64)) (rd (Z0 .i64)) (fun r => Z2c (rd (Z0 .i64) r.1) (rd (Z0 .i64) r.2.1) (rd Z6 r.2.2)) Zi7 := fun n1 a2 p3 r h => I0 Tryz.func72 rfl Tryz.ntmps72 rfl fun w H => by
 unfold Zi7 at h
 refine SR <| Cv rfl (Zl 4 rfl rfl (vt rfl)) fun g4 => Cv rfl (Zl 5 rfl rfl (vt rfl)) fun g5 => Cv rfl (Zl 6 rfl rfl (vt rfl)) fun g6 => Ak rfl <| Ak rfl <| Ab rfl <| Nl <| sq <| AW.freezeB 4 5 rfl rfl rfl <| AW.freezeB 5 6 rfl rfl rfl <| AW.freezeB 3 4 rfl rfl rfl ?_
 obtain ⟨x7, hx7, h⟩ := Z9 h
 refine Rg <| Fp lNet_1 Zft rfl <| Lp1 Zi6 rfl <| Ac (Z4k (cs := [.tmp 4, .tmp 5, .tmp 3]) (CAs := [rp (Z0 .i64) a2, rp (Z0 .i64) p3, rp Z2j n1]) (fun x => Ze1 x a2 p3 n1) rfl rfl Zv9 ⟨vt rfl, vt rfl, vt rfl, trivial⟩ (fun x y h => Y0q _ _ _ _ y h)) rfl <| Cl [11, 12] (Y15 _ _ _ hx7) Zxv rfl <| As rfl <| Nl <| sq <| SR <| Md rfl <| Ac (Zn rfl rfl (vt rfl) (vk rfl)) rfl <| Nl <| Cq rfl h (fun h => ?_) (fun h => ?_)
 ·refine SR <| Ak rfl <| Ak rfl <| Ab rfl <| Nl <| rt ?_
  cases h; exact Z79 Tryz.results72 rfl (Zc rfl) (Zc rfl) (Zc rfl)
 ·refine sk <| sq ?_
  obtain ⟨x8, hx8, x9, hx9, h⟩ := bs2 h
  refine AR Zw (by kernel_rfl) <| SFp lNet_1 Zft rfl <| SLp Zi6 rfl <| Zs rfl <| Sd (lo [17, 18] [] rfl fun S hs hr => Z0z rfl rfl Z9p (vh hs 17 rfl rfl) (vh hs 18 rfl rfl) hx8) <| SFp lLink_2 Znw rfl <| SLp Zq rfl <| SFp lNet_1 Zft rfl <| SLp Zi6 rfl <| Zs rfl <| Sd (lo [23, 24] [] rfl fun S hs hr => Z0z rfl rfl Z9p (vh hs 23 rfl rfl) (vh hs 24 rfl rfl) hx9) <| SFp lLink_3 Zxs rfl <| SLp Zq rfl <| SAs rfl <| SAs rfl <| Sd (lo [] [] rfl fun S hs hr => Z00 (A := rd Z6 true) rfl rfl vb) <| Sn <| rt ?_
  cases h; exact Z79 Tryz.results72 rfl (Zc rfl) (Zc rfl) (Zc rfl)
end Go.Proofs.YtknpgojdkobgjaaGreat.W
set_option maxRecDepth 4000
namespace Go.Proofs.YtknpgojdkobgjaaGreat.W
open Go Go.Wb
theorem Zq6 : Ent Tryz.prog 193 := Ent.mk Tryz.func193 rfl rfl
theorem Zxh : Ent Tryz.prog 195 := Ent.mk Tryz.func195 rfl rfl
theorem Zxx : Ent Tryz.prog 194 := Ent.mk Tryz.func194 rfl rfl
theorem Zta : Ent Tryz.prog 253 := Ent.mk Tryz.func253 rfl rfl
theorem e72 : Ent Tryz.prog 72 := Ent.mk Tryz.func72 rfl rfl
theorem Zlm : Ent Tryz.prog 125 := Ent.mk Tryz.func125 rfl rfl
theorem Zxn : Ent Tryz.prog 124 := Ent.mk Tryz.func124 rfl rfl
theorem Zka : Ent Tryz.prog 120 := Ent.mk Tryz.func120 rfl rfl
theorem e68 : Ent Tryz.prog 68 := Ent.mk Tryz.func68 rfl rfl
theorem e64 : Ent Tryz.prog 64 := Ent.mk Tryz.func64 rfl rfl
theorem e62 : Ent Tryz.prog 62 := Ent.mk Tryz.func62 rfl rfl
theorem e63 : Ent Tryz.prog 63 := Ent.mk Tryz.func63 rfl rfl
theorem e65 : Ent Tryz.prog 65 := Ent.mk Tryz.func65 rfl rfl
theorem e66 : Ent Tryz.prog 66 := Ent.mk Tryz.func66 rfl rfl
def Z7k (go1 : Nat → (List Ray) → Net → Env → (List spread_table) → Int → Option Z08) (i24 : Nat) (b5 : spread_beam) (x10 : spread_table) (R_spread_sun_out : (Z08 → Int → spread_beam → (List Atom) → Int → Option Z08)) (a4 : Int) (x6 : Int) : (List Zg) → Nat → (List Ray) → Net → Env → (List spread_table) → Int → Option Z08
 | [], i39, l33, b35, b36, b37, b38 => go1 (i24 + 1) l33 b35 b36 b37 b38
 | x41 :: l40, i39, l33, b35, b36, b37, b38 => (bif (decide ((l33.length : Int) > b38)) then some (⟨b35, b36, b37, b38, l33⟩ : Z08) else (Zf7 b5 x41).bind fun x43 => (bif (!x43.2) then (Z7k go1 i24 b5 x10 R_spread_sun_out a4 x6 l40) (i39 + 1) l33 b35 b36 b37 b38 else (lget x10.Flat.Rules (i24 : Int)).bind fun x45 => (Zh5 x10.Flat.Groups b36 x45.Atoms).bind fun x46 => (R_spread_sun_out (⟨b35, b36, b37, b38, l33⟩ : Z08) a4 x43.1 x46 x6).bind fun b47 => (Z7k go1 i24 b5 x10 R_spread_sun_out a4 x6 l40) (i39 + 1) b47.rays b47.Net b47.env b47.tables b47.most))
def Z73 (b5 : spread_beam) (x10 : spread_table) (R_spread_sun_out : (Z08 → Int → spread_beam → (List Atom) → Int → Option Z08)) (a4 : Int) (x6 : Int) : (List (List Zg)) → Nat → (List Ray) → Net → Env → (List spread_table) → Int → Option Z08
 | [], i24, l18, b20, b21, b22, b23 => some (⟨b20, b21, b22, b23, l18⟩ : Z08)
 | x26 :: l25, i24, l18, b20, b21, b22, b23 => Z7k (Z73 b5 x10 R_spread_sun_out a4 x6 l25) i24 b5 x10 R_spread_sun_out a4 x6 x26 0 l18 b20 b21 b22 b23
def Zgw (R_spread_sun_on : (Z08 → Int → spread_beam → Int → Option Z08)) (R_spread_sun_out : (Z08 → Int → spread_beam → (List Atom) → Int → Option Z08)) (s1 : Z08) (a4 : Int) (b5 : spread_beam) (x6 : Int) : Option Z08 :=
 (bif (decide (x6 = 0)) then (Z1n s1.rays [(⟨a4, 0, 0, false, b5.cube, b5.got⟩ : Ray)]).bind fun l8 => some (⟨s1.Net, s1.env, s1.tables, s1.most, l8⟩ : Z08) else (lget s1.tables a4).bind fun x10 => Z73 b5 x10 R_spread_sun_out a4 x6 x10.cubes 0 s1.rays s1.Net s1.env s1.tables s1.most)
theorem Zpw (R_spread_sun_on : (Z08 → Int → spread_beam → Int → Option Z08)) (hR_spread_sun_on : ∀ (g2 gT : Nat) (s1 : Z08) (a4 : Int) (b5 : spread_beam) (x6 : Int) (r : Z08), R_spread_sun_on s1 a4 b5 x6 = some r → Con Tryz.prog 125 [Z7 g2 (Lens.id Z0k), rd (Z0 .i64) a4, rd Z1x b5, rd (Z0 .i64) x6] (Z0j g2 gT Z0k (fun v => (⟨s1.Net, s1.env, s1.tables, s1.most, v⟩ : spread_sun_o4)) 103 Z0f s1.rays) (fun _ : Unit => top) (fun _ => Z0j g2 gT Z0k (fun v => (⟨r.Net, r.env, r.tables, r.most, v⟩ : spread_sun_o4)) 103 Z0f r.rays)) (R_spread_sun_out : (Z08 → Int → spread_beam → (List Atom) → Int → Option Z08)) (hR_spread_sun_out : ∀ (g2 gT : Nat) (s1 : Z08) (a4 : Int) (b5 : spread_beam) (l6 : (List Atom)) (x7 : Int) (r : Z08), R_spread_sun_out s1 a4 b5 l6 x7 = some r → Con Tryz.prog 194 [Z7 g2 (Lens.id Z0k), rd (Z0 .i64) a4, rd Z1x b5, rd (Z4 Z04) l6, rd (Z0 .i64) x7] (Z0j g2 gT Z0k (fun v => (⟨s1.Net, s1.env, s1.tables, s1.most, v⟩ : spread_sun_o4)) 103 Z0f s1.rays) (fun _ : Unit => top) (fun _ => Z0j g2 gT Z0k (fun v => (⟨r.Net, r.env, r.tables, r.most, v⟩ : spread_sun_o4)) 103 Z0f r.rays)) (g2 gT : Nat) (s1 : Z08) (a4 : Int) (b5 : spread_beam) (x6 : Int) (r : Z08) (h : Zgw R_spread_sun_on R_spread_sun_out s1 a4 b5 x6 = some r) : Con Tryz.prog 125 [Z7 g2 (Lens.id Z0k), rd (Z0 .i64) a4, rd Z1x b5, rd (Z0 .i64) x6] (Z0j g2 gT Z0k (fun v => (⟨s1.Net, s1.env, s1.tables, s1.most, v⟩ : spread_sun_o4)) 103 Z0f s1.rays) (fun _ : Unit => top) (fun _ => Z0j g2 gT Z0k (fun v => (⟨r.Net, r.env, r.tables, r.most, v⟩ : spread_sun_o4)) 103 Z0f r.rays) := by
 refine Con.intro Tryz.func125 rfl Tryz.ntmps125 rfl fun w H X => ?_
 unfold Zgw at h
 refine AW.unboxF 0 2004 (by decide) rfl rfl fun v3 => SR <| Cv rfl (Zl 7 rfl rfl (vt rfl)) fun g7 => Nl <| sq <| SR <| Md rfl <| Ac (Z1m rfl rfl (vt rfl) (vk rfl)) rfl <| Nl <| Cq rfl h (fun h => ?_) (fun h => ?_)
 ·refine sq ?_
  obtain ⟨l8, hl8, h⟩ := Z9 h
  refine AR Zw (by kernel_rfl) <| SMp rfl <| SMp rfl <| SNc rfl <| Zu Z42 Z56 rfl <| Sd (lo [20] [0] rfl fun S hs hr => Z3k v3 rfl rfl Z58 (vh hs 20 rfl rfl) (i := 0) ((hr 0 rfl).trans rfl) rfl) <| Zs rfl <| Zu lspread_beam_0 Z8k rfl <| Zj Zy 7 rfl <| Zu lspread_beam_1 Z70 rfl <| Zj Z05 7 rfl <| Sd (lo [22, 24, 26] [] rfl fun S hs hr => opb (⟨a4, 0, 0, false, b5.cube, b5.got⟩ : Ray) Zb9 rfl Zog (pc Zmw (vh hs 22 rfl rfl) <| pc Zjw (vh hs 24 rfl rfl) <| pc Zln (vh hs 26 rfl rfl) <| pn rfl)) <| Sd (lo [27] [] rfl fun S hs hr => osl Z5g Zb9 rfl (vh hs 27 rfl rfl)) <| Sd (Z1o (us := [(29, Z28 103 Z0f l8)]) (ur := [(2004, emp)]) [21, 28] [2004] rfl fun S hs hr => Z7m 2004 hl8 rfl rfl rfl Zop (vh hs 21 rfl rfl) ((hr 2004 rfl).trans rfl) (vh hs 28 rfl rfl)) <| SNc rfl <| Zu Z42 Z56 rfl <| Sd (Z1o (us := [(29, top)]) (ur := [(0, Z0j g2 gT Z0k (fun v => ((Lens.comp (Lens.id Z0k) Z42)).set (⟨s1.Net, s1.env, s1.tables, s1.most, v3⟩ : spread_sun_o4) v) 103 Z0f l8)]) [31, 29] [0] rfl fun S hs hr => Zbr rfl rfl Z58 (vh hs 31 rfl rfl) ((hr 0 rfl).trans rfl) ((hs 29 rfl).trans rfl)) <| Sn <| AW.unboxF 0 2004 (by decide) rfl rfl fun v9 => rt ?_
  cases h; exact RetOK.turn (Turn.packF 0 2004 (fun v => (⟨s1.Net, s1.env, s1.tables, s1.most, v⟩ : spread_sun_o4)) (by decide) rfl rfl) (Z1e (i := 0) Tryz.results125 rfl rfl)
 ·refine sk <| sq ?_
  obtain ⟨x10, hx10, h⟩ := Z9 h
  refine Rg <| Mp rfl <| Nc rfl <| Zk lspread_sun_o4_2 Zv5 rfl <| Ld Zps 0 rfl <| Md rfl <| Ac (Z0z rfl rfl Zl9 (vt rfl) (vt rfl) hx10) rfl <| Lp1 Zo3 rfl <| Cv rfl (Zo 9 rfl rfl Zj3) fun g11 => Zi Zo3 9 rfl <| Nl <| SR <| Zk lspread_table_1 Zze rfl <| Ld Zwh 9 rfl <| Ac (Z16 rfl rfl Zix (vt rfl)) rfl <| Mk rfl <| Nl <| bk <| LG (d := []) (ν := (List (List Zg)) × Nat × (List Ray) × Net × Env × (List spread_table) × Int × Value) (fun (l25, i24, l18, b20, b21, b22, b23, v19) => (Sfx x10.cubes i24 l25 ∧ Z73 b5 x10 R_spread_sun_out a4 x6 l25 i24 l18 b20 b21 b22 b23 = some r, l25.length, [(0, Z7 g2 (Lens.id Z0k)), (1, rd (Z0 .i64) a4), (3, rd (Z0 .i64) x6), (6, Z7 g7 (Lens.id Z1x)), (8, Z7 g11 (Lens.id Z1q)), (40, rd (Z4 (Z4 (Z1 24 Z3))) x10.cubes), (41, rd (Z0 .i64) (x10.cubes.length : Int)), (42, rd (Z0 .i64) (i24 : Int))], [(0, Zb g2 gT Z0k (⟨b20, b21, b22, b23, v19⟩ : spread_sun_o4)), (7, Zb g7 189 Z1x b5), (9, Zb g11 252 Z1q x10), (2004, Za v19 103 Z0f l18)])) (x10.cubes, 0, s1.rays, s1.Net, s1.env, s1.tables, s1.most, v3) ⟨Sfx.start _, h⟩ (FX rfl) ?_
  rintro ⟨l25, i24, l18, b20, b21, b22, b23, v19⟩ ⟨hsf1, h⟩
  dsimp only at hsf1 h ⊢
  cases l25 with
  | nil =>
   unfold Z73 at h
   refine SR <| Ac (Zn rfl rfl (vt rfl) (vt rfl)) rfl <| Nl <| sq <| Cn rfl (fun hc => absurd (of_decide_eq_true hc) hsf1.nil) (fun hc => ?_)
   refine xt ?_
   cases h; exact RetOK.turn (Turn.packF 0 2004 (fun v => (⟨b20, b21, b22, b23, v⟩ : spread_sun_o4)) (by decide) rfl rfl) (Z1e (i := 0) Tryz.results125 rfl rfl)
  | cons x26 l25 =>
   unfold Z73 at h
   refine SR <| Ac (Zn rfl rfl (vt rfl) (vt rfl)) rfl <| Nl <| sq <| Cn rfl (fun hc => ?_) (fun hc => absurd hsf1.cons (of_decide_eq_false hc))
   have hlti24 := of_decide_eq_true hc
   refine sk <| sq <| bk <| SR <| Md rfl <| Ac (Z0z rfl rfl Zix (vt rfl) (vt rfl) hsf1.lget) rfl <| Lp1 Zdt rfl <| As rfl <| As rfl <| Nl <| AW.scope <| sq <| AW.label <| SR <| Md rfl <| Ac (Z16 rfl rfl Z3o (vt rfl)) rfl <| Mk rfl <| Nl <| bk <| LG (d := []) (ν := (List Zg) × Nat × (List Ray) × Net × Env × (List spread_table) × Int × Value) (fun (l40, i39, l33, b35, b36, b37, b38, v34) => (Sfx x26 i39 l40 ∧ Z7k (Z73 b5 x10 R_spread_sun_out a4 x6 l25) i24 b5 x10 R_spread_sun_out a4 x6 l40 i39 l33 b35 b36 b37 b38 = some r, l40.length, [(0, Z7 g2 (Lens.id Z0k)), (1, rd (Z0 .i64) a4), (3, rd (Z0 .i64) x6), (6, Z7 g7 (Lens.id Z1x)), (8, Z7 g11 (Lens.id Z1q)), (9, rd (Z0 .i64) (i24 : Int)), (40, rd (Z4 (Z4 (Z1 24 Z3))) x10.cubes), (41, rd (Z0 .i64) (x10.cubes.length : Int)), (42, rd (Z0 .i64) (i24 : Int)), (47, rd (Z4 (Z1 24 Z3)) x26), (48, rd (Z0 .i64) (x26.length : Int)), (49, rd (Z0 .i64) (i39 : Int))], [(0, Zb g2 gT Z0k (⟨b35, b36, b37, b38, v34⟩ : spread_sun_o4)), (7, Zb g7 189 Z1x b5), (9, Zb g11 252 Z1q x10), (2004, Za v34 103 Z0f l33)])) (x26, 0, l18, b20, b21, b22, b23, v19) ⟨Sfx.start _, h⟩ (FX rfl) ?_
   rintro ⟨l40, i39, l33, b35, b36, b37, b38, v34⟩ ⟨hsf2, h⟩
   dsimp only at hsf2 h ⊢
   cases l40 with
   | nil =>
    unfold Z7k at h
    refine SR <| Ac (Zn rfl rfl (vt rfl) (vt rfl)) rfl <| Nl <| sq <| Cn rfl (fun hc => absurd (of_decide_eq_true hc) hsf2.nil) (fun hc => ?_)
    refine xt <| Rg <| Ac (Z12 (t := 41) rfl rfl (vt rfl) (vk rfl) (vt rfl) hlti24) rfl <| Md rfl <| Nl ?_
    exact ⟨(_, _, _, _, _, _, _, _), Nat.lt_succ_self _, ⟨hsf1.next, h⟩, FX rfl⟩
   | cons x41 l40 =>
    unfold Z7k at h
    refine SR <| Ac (Zn rfl rfl (vt rfl) (vt rfl)) rfl <| Nl <| sq <| Cn rfl (fun hc => ?_) (fun hc => absurd hsf2.cons (of_decide_eq_false hc))
    have hlti39 := of_decide_eq_true hc
    refine sk <| sq <| bk <| SR <| Ac (Z0z rfl rfl Z3o (vt rfl) (vt rfl) hsf2.lget) rfl <| Lp1 Zy rfl <| Cv rfl (Zo 13 rfl rfl Z1k) fun g42 => Zi Zy 13 rfl <| Nl <| sq <| sq <| AR Zw (by kernel_rfl) <| SMp rfl <| SNc rfl <| Zu Z42 Z56 rfl <| Sd (lo [55] [0] rfl fun S hs hr => Z3k v34 rfl rfl Z58 (vh hs 55 rfl rfl) (i := 0) ((hr 0 rfl).trans rfl) rfl) <| Sd (lo [56] [2004] rfl fun S hs hr => Z3s 2004 rfl rfl Z5g (vh hs 56 rfl rfl) ((hr 2004 rfl).trans rfl)) <| SMp rfl <| SNc rfl <| Zu lspread_sun_o4_3 Zmm rfl <| Zj Zq 0 rfl <| Sd (lo [57, 61] [] rfl fun S hs hr => Z2w rfl rfl (vh hs 57 rfl rfl) (vh hs 61 rfl rfl)) <| Sn <| Cq rfl h (fun h => ?_) (fun h => ?_)
    ·refine rt ?_
     cases h; exact RetOK.turn (Turn.packF 0 2004 (fun v => (⟨b35, b36, b37, b38, v⟩ : spread_sun_o4)) (by decide) rfl rfl) (Z1e (i := 0) Tryz.results125 rfl rfl)
    ·refine sk <| sq ?_
     obtain ⟨x43, hx43, h⟩ := Z9 h
     refine Rg <| Ld Z3c 7 rfl <| Ld Zy 13 rfl <| Cl [64, 65] (Y2a _ _ _ hx43) Zq6 rfl <| Mt2 rfl <| Ac (Z1b rfl rfl (vt rfl)) rfl <| Ac (Z1d rfl rfl (vt rfl)) rfl <| Cv rfl (Zo 14 rfl rfl Z6p) fun g44 => Zi Z3c 14 rfl <| As rfl <| Nl <| sq <| SR <| Md rfl <| Ac (Z1a rfl rfl (vt rfl)) rfl <| Nl <| Cq rfl h (fun h => ?_) (fun h => ?_)
     ·refine xt <| Rg <| Ac (Z12 (t := 48) rfl rfl (vt rfl) (vk rfl) (vt rfl) hlti39) rfl <| Md rfl <| Nl ?_
      exact ⟨(_, _, _, _, _, _, _, _), Nat.lt_succ_self _, ⟨hsf2.next, h⟩, FX rfl⟩
     ·refine sk <| AW.packF 0 2004 (fun v => (⟨b35, b36, b37, b38, v⟩ : spread_sun_o4)) (by decide) rfl rfl ?_
      obtain ⟨x45, hx45, x46, hx46, b47, hb47, h⟩ := bs3 h
      refine AR Zw (by kernel_rfl) <| SMp rfl <| Zs rfl <| Zj Z3c 14 rfl <| Zu lspread_table_0 Zpe rfl <| Zu lFlat_1 Zzc rfl <| Zj Zhd 9 rfl <| SMp rfl <| SNc rfl <| Zu lspread_sun_o4_1 Y1b rfl <| Sd (lo [79] [0] rfl fun S hs hr => Zqi rfl rfl Z6f (vh hs 79 rfl rfl) (i := 0) ((hr 0 rfl).trans rfl) (fun _ => rfl)) <| Zu lspread_table_0 Zpe rfl <| Zu lFlat_0 Z9z rfl <| Zj Za0 9 rfl <| Zs rfl <| Sd (lo [83, 84] [] rfl fun S hs hr => Z0z rfl rfl Z2u (vh hs 83 rfl rfl) (vh hs 84 rfl rfl) hx45) <| SFp lRule_1 Zi0 rfl <| SLp Z5w rfl <| SCl [76, 80, 87] (Zqc _ _ _ _ hx46) Zxh rfl <| Zs rfl <| Sd (Z1o (us := [(90, top)]) (ur := [(0, Z0j g2 gT Z0k (fun v => (⟨b47.Net, b47.env, b47.tables, b47.most, v⟩ : spread_sun_o4)) 103 Z0f b47.rays)]) [71, 72, 73, 88, 89] [0] rfl fun S hs hr => Znb 0 (xs := [.tmp 71, .tmp 72, .tmp 73, .tmp 88, .tmp 89]) (hR_spread_sun_out _ _ _ _ _ _ _ _ hb47) Zxx rfl rfl ⟨vt ((hs 71 rfl).trans rfl), vt ((hs 72 rfl).trans rfl), vt ((hs 73 rfl).trans rfl), vt ((hs 88 rfl).trans rfl), vt ((hs 89 rfl).trans rfl), trivial⟩ ((hr 0 rfl).trans rfl)) <| Sn <| AW.unboxF 0 2004 (by decide) rfl rfl fun v48 => Rg <| Ac (Z12 (t := 48) rfl rfl (vt rfl) (vk rfl) (vt rfl) hlti39) rfl <| Md rfl <| Nl ?_
      exact ⟨(_, _, _, _, _, _, _, _), Nat.lt_succ_self _, ⟨hsf2.next, h⟩, FX rfl⟩
def Z7p (b5 : spread_beam) (a4 : Int) (R_spread_sun_on : (Z08 → Int → spread_beam → Int → Option Z08)) (x7 : Int) : (List Atom) → Nat → (List Ray) → Net → Env → (List spread_table) → Int → Option Z08
 | [], i21, l15, b17, b18, b19, b20 => some (⟨b17, b18, b19, b20, l15⟩ : Z08)
 | x23 :: l22, i21, l15, b17, b18, b19, b20 => (bif (decide ((l15.length : Int) > b20)) then some (⟨b17, b18, b19, b20, l15⟩ : Z08) else (Zgl b5 x23.Rewrite).bind fun x25 => (Zi7 b17 a4 x23.Port).bind fun x27 => (bif (!x27.2.2) then (Z1n l15 [(⟨a4, x23.Port, x23.Max, true, x25.cube, x25.got⟩ : Ray)]).bind fun l28 => (Z7p b5 a4 R_spread_sun_on x7 l22) (i21 + 1) l28 b17 b18 b19 b20 else (Z6x 128).bind fun x30 => (Z5f x25.got 0 (⟨0, (BitVec.ofInt 64 x27.2.1)⟩ : Wide) x30).bind fun x31 => (R_spread_sun_on (⟨b17, b18, b19, b20, l15⟩ : Z08) x27.1 { x25 with got := x31 } (IntKind.i64.wrap (x7 - 1))).bind fun b32 => (Z7p b5 a4 R_spread_sun_on x7 l22) (i21 + 1) b32.rays b32.Net b32.env b32.tables b32.most))
def Ziy (R_spread_sun_on : (Z08 → Int → spread_beam → Int → Option Z08)) (R_spread_sun_out : (Z08 → Int → spread_beam → (List Atom) → Int → Option Z08)) (s1 : Z08) (a4 : Int) (b5 : spread_beam) (l6 : (List Atom)) (x7 : Int) : Option Z08 :=
 Z7p b5 a4 R_spread_sun_on x7 l6 0 s1.rays s1.Net s1.env s1.tables s1.most
theorem Ztc (R_spread_sun_on : (Z08 → Int → spread_beam → Int → Option Z08)) (hR_spread_sun_on : ∀ (g2 gT : Nat) (s1 : Z08) (a4 : Int) (b5 : spread_beam) (x6 : Int) (r : Z08), R_spread_sun_on s1 a4 b5 x6 = some r → Con Tryz.prog 125 [Z7 g2 (Lens.id Z0k), rd (Z0 .i64) a4, rd Z1x b5, rd (Z0 .i64) x6] (Z0j g2 gT Z0k (fun v => (⟨s1.Net, s1.env, s1.tables, s1.most, v⟩ : spread_sun_o4)) 103 Z0f s1.rays) (fun _ : Unit => top) (fun _ => Z0j g2 gT Z0k (fun v => (⟨r.Net, r.env, r.tables, r.most, v⟩ : spread_sun_o4)) 103 Z0f r.rays)) (R_spread_sun_out : (Z08 → Int → spread_beam → (List Atom) → Int → Option Z08)) (hR_spread_sun_out : ∀ (g2 gT : Nat) (s1 : Z08) (a4 : Int) (b5 : spread_beam) (l6 : (List Atom)) (x7 : Int) (r : Z08), R_spread_sun_out s1 a4 b5 l6 x7 = some r → Con Tryz.prog 194 [Z7 g2 (Lens.id Z0k), rd (Z0 .i64) a4, rd Z1x b5, rd (Z4 Z04) l6, rd (Z0 .i64) x7] (Z0j g2 gT Z0k (fun v => (⟨s1.Net, s1.env, s1.tables, s1.most, v⟩ : spread_sun_o4)) 103 Z0f s1.rays) (fun _ : Unit => top) (fun _ => Z0j g2 gT Z0k (fun v => (⟨r.Net, r.env, r.tables, r.most, v⟩ : spread_sun_o4)) 103 Z0f r.rays)) (g2 gT : Nat) (s1 : Z08) (a4 : Int) (b5 : spread_beam) (l6 : (List Atom)) (x7 : Int) (r : Z08) (h : Ziy R_spread_sun_on R_spread_sun_out s1 a4 b5 l6 x7 = some r) : Con Tryz.prog 194 [Z7 g2 (Lens.id Z0k), rd (Z0 .i64) a4, rd Z1x b5, rd (Z4 Z04) l6, rd (Z0 .i64) x7] (Z0j g2 gT Z0k (fun v => (⟨s1.Net, s1.env, s1.tables, s1.most, v⟩ : spread_sun_o4)) 103 Z0f s1.rays) (fun _ : Unit => top) (fun _ => Z0j g2 gT Z0k (fun v => (⟨r.Net, r.env, r.tables, r.most, v⟩ : spread_sun_o4)) 103 Z0f r.rays) := by
 refine Con.intro Tryz.func194 rfl Tryz.ntmps194 rfl fun w H X => ?_
 unfold Ziy at h
 refine AW.unboxF 0 2004 (by decide) rfl rfl fun v3 => SR <| Cv rfl (Zl 8 rfl rfl (vt rfl)) fun g8 => Nl <| SR <| Md rfl <| Ac (Z16 rfl rfl Z3z (vt rfl)) rfl <| Mk rfl <| Nl <| bk <| LG (d := []) (ν := (List Atom) × Nat × (List Ray) × Net × Env × (List spread_table) × Int × Value) (fun (l22, i21, l15, b17, b18, b19, b20, v16) => (Sfx l6 i21 l22 ∧ Z7p b5 a4 R_spread_sun_on x7 l22 i21 l15 b17 b18 b19 b20 = some r, l22.length, [(0, Z7 g2 (Lens.id Z0k)), (1, rd (Z0 .i64) a4), (4, rd (Z0 .i64) x7), (7, Z7 g8 (Lens.id Z1x)), (16, rd (Z4 Z04) l6), (17, rd (Z0 .i64) (l6.length : Int)), (18, rd (Z0 .i64) (i21 : Int))], [(0, Zb g2 gT Z0k (⟨b17, b18, b19, b20, v16⟩ : spread_sun_o4)), (8, Zb g8 189 Z1x b5), (2004, Za v16 103 Z0f l15)])) (l6, 0, s1.rays, s1.Net, s1.env, s1.tables, s1.most, v3) ⟨Sfx.start _, h⟩ (FX rfl) ?_
 rintro ⟨l22, i21, l15, b17, b18, b19, b20, v16⟩ ⟨hsf1, h⟩
 dsimp only at hsf1 h ⊢
 cases l22 with
 | nil =>
  unfold Z7p at h
  refine SR <| Ac (Zn rfl rfl (vt rfl) (vt rfl)) rfl <| Nl <| sq <| Cn rfl (fun hc => absurd (of_decide_eq_true hc) hsf1.nil) (fun hc => ?_)
  refine xt ?_
  cases h; exact RetOK.turn (Turn.packF 0 2004 (fun v => (⟨b17, b18, b19, b20, v⟩ : spread_sun_o4)) (by decide) rfl rfl) (Z1e (i := 0) Tryz.results194 rfl rfl)
 | cons x23 l22 =>
  unfold Z7p at h
  refine SR <| Ac (Zn rfl rfl (vt rfl) (vt rfl)) rfl <| Nl <| sq <| Cn rfl (fun hc => ?_) (fun hc => absurd hsf1.cons (of_decide_eq_false hc))
  have hlti21 := of_decide_eq_true hc
  refine sk <| sq <| bk <| SR <| Ac (Z0z rfl rfl Z3z (vt rfl) (vt rfl) hsf1.lget) rfl <| Lp1 Z6c rfl <| Cv rfl (Zo 12 rfl rfl Z6d) fun g24 => Zi Z6c 12 rfl <| Nl <| sq <| sq <| AR Zw (by kernel_rfl) <| SMp rfl <| SNc rfl <| Zu Z42 Z56 rfl <| Sd (lo [24] [0] rfl fun S hs hr => Z3k v16 rfl rfl Z58 (vh hs 24 rfl rfl) (i := 0) ((hr 0 rfl).trans rfl) rfl) <| Sd (lo [25] [2004] rfl fun S hs hr => Z3s 2004 rfl rfl Z5g (vh hs 25 rfl rfl) ((hr 2004 rfl).trans rfl)) <| SMp rfl <| SNc rfl <| Zu lspread_sun_o4_3 Zmm rfl <| Zj Zq 0 rfl <| Sd (lo [26, 30] [] rfl fun S hs hr => Z2w rfl rfl (vh hs 26 rfl rfl) (vh hs 30 rfl rfl)) <| Sn <| Cq rfl h (fun h => ?_) (fun h => ?_)
  ·refine rt ?_
   cases h; exact RetOK.turn (Turn.packF 0 2004 (fun v => (⟨b17, b18, b19, b20, v⟩ : spread_sun_o4)) (by decide) rfl rfl) (Z1e (i := 0) Tryz.results194 rfl rfl)
  ·refine sk <| sq ?_
   obtain ⟨x25, hx25, h⟩ := Z9 h
   refine Rg <| Ld Z3c 8 rfl <| Zk lAtom_0 Zet rfl <| Ld Z05 12 rfl <| Cl [32, 34] (Y2c _ _ _ hx25) Zta rfl <| Cv rfl (Zo 13 rfl rfl Z6p) fun g26 => Zi Z3c 13 rfl <| Nl <| sq ?_
   obtain ⟨x27, hx27, h⟩ := Z9 h
   refine AR Zw (by kernel_rfl) <| SMp rfl <| SNc rfl <| Zu lspread_sun_o4_0 Y1w rfl <| Zj Z68 0 rfl <| Zs rfl <| Zu Z77 Za2 rfl <| Zj Zq 12 rfl <| SCl [40, 41, 43] (Zqd _ _ _ _ hx27) e72 rfl <| Sd (lo [44] [] rfl fun S hs hr => Zt (A := Z2c (rd (Z0 .i64) x27.1) (rd (Z0 .i64) x27.2.1) (rd Z6 x27.2.2)) rfl rfl (vh hs 44 rfl rfl)) <| Sd (lo [36] [] rfl fun S hs hr => Z9r rfl rfl (vh hs 36 rfl rfl)) <| Sd (lo [36] [] rfl fun S hs hr => Za7 rfl rfl (vh hs 36 rfl rfl)) <| Sd (lo [36] [] rfl fun S hs hr => Z8d rfl rfl (vh hs 36 rfl rfl)) <| SAs rfl <| SAs rfl <| SAs rfl <| Sn <| sq <| SR <| Md rfl <| Ac (Z1a rfl rfl (vt rfl)) rfl <| Nl <| Cq rfl h (fun h => ?_) (fun h => ?_)
   ·refine sq ?_
    obtain ⟨l28, hl28, h⟩ := Z9 h
    refine AR Zw (by kernel_rfl) <| SMp rfl <| SMp rfl <| SNc rfl <| Zu Z42 Z56 rfl <| Sd (lo [53] [0] rfl fun S hs hr => Z3k v16 rfl rfl Z58 (vh hs 53 rfl rfl) (i := 0) ((hr 0 rfl).trans rfl) rfl) <| Zs rfl <| Zu Z77 Za2 rfl <| Zj Zq 12 rfl <| Zu Zj2 Zll rfl <| Zj Zq 12 rfl <| Zu lspread_beam_0 Z8k rfl <| Zj Zy 13 rfl <| Zu lspread_beam_1 Z70 rfl <| Zj Z05 13 rfl <| Sd (lo [55, 57, 59, 61, 63] [] rfl fun S hs hr => opb (⟨a4, x23.Port, x23.Max, true, x25.cube, x25.got⟩ : Ray) Zb9 rfl Zog (pc Zmw (vh hs 55 rfl rfl) <| pc Zvm (vh hs 57 rfl rfl) <| pc Y1r (vh hs 59 rfl rfl) <| pc Y0b vb <| pc Zjw (vh hs 61 rfl rfl) <| pc Zln (vh hs 63 rfl rfl) <| pn rfl)) <| Sd (lo [64] [] rfl fun S hs hr => osl Z5g Zb9 rfl (vh hs 64 rfl rfl)) <| Sd (Z1o (us := [(66, Z28 103 Z0f l28)]) (ur := [(2004, emp)]) [54, 65] [2004] rfl fun S hs hr => Z7m 2004 hl28 rfl rfl rfl Zop (vh hs 54 rfl rfl) ((hr 2004 rfl).trans rfl) (vh hs 65 rfl rfl)) <| SNc rfl <| Zu Z42 Z56 rfl <| Sd (Z1o (us := [(66, top)]) (ur := [(0, Z0j g2 gT Z0k (fun v => ((Lens.comp (Lens.id Z0k) Z42)).set (⟨b17, b18, b19, b20, v16⟩ : spread_sun_o4) v) 103 Z0f l28)]) [68, 66] [0] rfl fun S hs hr => Zbr rfl rfl Z58 (vh hs 68 rfl rfl) ((hr 0 rfl).trans rfl) ((hs 66 rfl).trans rfl)) <| Sn <| AW.unboxF 0 2004 (by decide) rfl rfl fun v29 => xt <| Rg <| Ac (Z12 (t := 17) rfl rfl (vt rfl) (vk rfl) (vt rfl) hlti21) rfl <| Md rfl <| Nl ?_
    exact ⟨(_, _, _, _, _, _, _, _), Nat.lt_succ_self _, ⟨hsf1.next, h⟩, FX rfl⟩
   ·refine sk <| sq ?_
    obtain ⟨x30, hx30, x31, hx31, h⟩ := bs2 h
    refine AR Zw (by kernel_rfl) <| Zu lspread_beam_1 Z70 rfl <| Zj Z05 13 rfl <| Zs rfl <| Sd (lo [71] [] rfl fun S hs hr => Z4o rfl rfl us3 Zxd (vh hs 71 rfl rfl)) <| Sd (lo [72] [] rfl fun S hs hr => opb (⟨0, (BitVec.ofInt 64 x27.2.1)⟩ : Wide) Z1l rfl Z31 (pc Z3n (vh hs 72 rfl rfl) <| pn rfl)) <| Sd (lo [] [] rfl fun S hs hr => Z1c (xs := [.const (Value.int IntKind.i64 128)]) (Zei _ _ hx30) Zea rfl rfl ⟨vk rfl, trivial⟩) <| Sd (lo [70, 73, 74] [] rfl fun S hs hr => Z1c (xs := [.tmp 70, .const (Value.int IntKind.i64 0), .tmp 73, .tmp 74]) (Z7o _ _ _ _ _ hx31) Z86 rfl rfl ⟨vt ((hs 70 rfl).trans rfl), vk rfl, vt ((hs 73 rfl).trans rfl), vt ((hs 74 rfl).trans rfl), trivial⟩) <| Zu lspread_beam_1 Z70 rfl <| SSt Z05 13 rfl <| Sn ?_
    obtain ⟨b32, hb32, h⟩ := Z9 h
    refine Rg <| Mp rfl <| Md rfl <| Ld Z3c 13 rfl <| Md rfl <| Ac (Z0i rfl rfl (vt rfl) (vk rfl)) rfl <| AOps.packF 0 2004 (fun v => (⟨b17, b18, b19, b20, v⟩ : spread_sun_o4)) (by decide) rfl rfl <| Cv rfl (Z0r 0 (xs := [.tmp 77, .tmp 78, .tmp 79, .tmp 81]) (hR_spread_sun_on _ _ _ _ _ _ _ hb32) Zlm rfl rfl ⟨vt rfl, vt rfl, vt rfl, vt rfl, trivial⟩ rfl) fun _u => AOps.unboxF 0 2004 (by decide) rfl rfl fun v33 => Nl <| Rg <| Ac (Z12 (t := 17) rfl rfl (vt rfl) (vk rfl) (vt rfl) hlti21) rfl <| Md rfl <| Nl ?_
    exact ⟨(_, _, _, _, _, _, _, _), Nat.lt_succ_self _, ⟨hsf1.next, h⟩, FX rfl⟩
def Z40 : Nat → (Z08 → Int → spread_beam → Int → Option Z08) × (Z08 → Int → spread_beam → (List Atom) → Int → Option Z08)
 | 0 => ((fun _ _ _ _ => none), (fun _ _ _ _ _ => none))
 | n + 1 => ((Zgw (Z40 n).1 (Z40 n).2), (Ziy (Z40 n).1 (Z40 n).2))
theorem Zlc : ∀ n : Nat, (∀ (g2 gT : Nat) (s1 : Z08) (a4 : Int) (b5 : spread_beam) (x6 : Int) (r : Z08), (Z40 n).1 s1 a4 b5 x6 = some r → Con Tryz.prog 125 [Z7 g2 (Lens.id Z0k), rd (Z0 .i64) a4, rd Z1x b5, rd (Z0 .i64) x6] (Z0j g2 gT Z0k (fun v => (⟨s1.Net, s1.env, s1.tables, s1.most, v⟩ : spread_sun_o4)) 103 Z0f s1.rays) (fun _ : Unit => top) (fun _ => Z0j g2 gT Z0k (fun v => (⟨r.Net, r.env, r.tables, r.most, v⟩ : spread_sun_o4)) 103 Z0f r.rays)) ∧ (∀ (g2 gT : Nat) (s1 : Z08) (a4 : Int) (b5 : spread_beam) (l6 : (List Atom)) (x7 : Int) (r : Z08), (Z40 n).2 s1 a4 b5 l6 x7 = some r → Con Tryz.prog 194 [Z7 g2 (Lens.id Z0k), rd (Z0 .i64) a4, rd Z1x b5, rd (Z4 Z04) l6, rd (Z0 .i64) x7] (Z0j g2 gT Z0k (fun v => (⟨s1.Net, s1.env, s1.tables, s1.most, v⟩ : spread_sun_o4)) 103 Z0f s1.rays) (fun _ : Unit => top) (fun _ => Z0j g2 gT Z0k (fun v => (⟨r.Net, r.env, r.tables, r.most, v⟩ : spread_sun_o4)) 103 Z0f r.rays))
 | 0 => ⟨(by intros; rename_i h; cases h), (by intros; rename_i h; cases h)⟩
 | n + 1 => by
  have ih := Zlc n
  exact ⟨(Zpw (Z40 n).1 ih.1 (Z40 n).2 ih.2), (Ztc (Z40 n).1 ih.1 (Z40 n).2 ih.2)⟩
def Zod (s1 : Z08) (a4 : Int) (b5 : spread_beam) (x6 : Int) : Option Z08 := (Z40 Z27).1 s1 a4 b5 x6
theorem Y0i : ∀ (g2 gT : Nat) (s1 : Z08) (a4 : Int) (b5 : spread_beam) (x6 : Int) (r : Z08), Zod s1 a4 b5 x6 = some r → Con Tryz.prog 125 [Z7 g2 (Lens.id Z0k), rd (Z0 .i64) a4, rd Z1x b5, rd (Z0 .i64) x6] (Z0j g2 gT Z0k (fun v => (⟨s1.Net, s1.env, s1.tables, s1.most, v⟩ : spread_sun_o4)) 103 Z0f s1.rays) (fun _ : Unit => top) (fun _ => Z0j g2 gT Z0k (fun v => (⟨r.Net, r.env, r.tables, r.most, v⟩ : spread_sun_o4)) 103 Z0f r.rays) := (Zlc Z27).1
def Zdm (n1 : Net) (x2 : Env) (a3 : Int) (x4 : Zg) (x5 : Int) (m6 : Int) : Option ((List Ray) × Int) :=
 (bif ((decide (a3 < 0)) || (decide (a3 ≥ (n1.Switches.length : Int)))) then some ([], 0) else (Zin n1 m6).bind fun x10 => (bif (decide (x10.2 ≠ 0)) then some ([], x10.2) else (Z85 x4).bind fun x12 => (Z89).bind fun x13 => (Zod (⟨n1, x2, x10.1, m6, []⟩ : Z08) a3 (⟨x12, x13⟩ : spread_beam) (Z5k (Z3i x5 0) 8)).bind fun b14 => (bif (decide ((b14.rays.length : Int) > m6)) then some ([], 5) else some (b14.rays, 0))))
theorem Zjk : Q6 Tryz.prog 68 (rd Z2j) (rd Z1j) (rd (Z0 .i64)) (rd (Z1 24 Z3)) (rd (Z0 .i64)) (rd (Z0 .i64)) (fun r => Z0w (rd (Z4 Z0f) r.1) (rd (Z0 .i64) r.2)) Zdm := fun n1 x2 a3 x4 x5 m6 r h => I0 Tryz.func68 rfl Tryz.ntmps68 rfl fun w H => by
 unfold Zdm at h
 refine SR <| Cv rfl (Zl 7 rfl rfl (vt rfl)) fun g7 => Cv rfl (Zl 8 rfl rfl (vt rfl)) fun g8 => Cv rfl (Zl 10 rfl rfl (vt rfl)) fun g9 => Ac (Z00 (A := rd (Z4 Z0f) []) rfl rfl Z13) rfl <| Ak rfl <| Nl <| sq <| SR <| Md rfl <| Ac (Zn rfl rfl (vt rfl) (vk rfl)) rfl <| Md rfl <| Gd rfl (fun hq => Zt (A := rd (Z0 .i64) a3) rfl rfl (vt rfl)) <| Gd rfl (fun hq => Z2n lNet_0 rfl rfl Zg1 (vt rfl)) <| Gd rfl (fun hq => Z1p rfl rfl Zfu (vgt rfl hq) (i := 7) rfl) <| Gd rfl (fun hq => Z16 rfl rfl Zaa (vgt rfl hq)) <| Gd rfl (fun hq => Z3l rfl rfl (vgt rfl hq) (vgt rfl hq)) <| Ac (Z5p rfl rfl (vt rfl) (vt rfl)) rfl <| Nl <| Cq rfl h (fun h => ?_) (fun h => ?_)
 ·refine SR <| Ac (Z00 (A := rd (Z4 Z0f) []) rfl rfl Z13) rfl <| Ak rfl <| Nl <| rt ?_
  cases h; exact Z0y Tryz.results68 rfl (Zc rfl) (Zc rfl)
 ·refine sk <| sq ?_
  obtain ⟨x10, hx10, h⟩ := Z9 h
  refine Rg <| Ld Z68 7 rfl <| Md rfl <| Cl [27, 28] (Zx2 _ _ _ hx10) Zxn rfl <| Mt2 rfl <| Ac (Z1b rfl rfl (vt rfl)) rfl <| Ac (Z1d rfl rfl (vt rfl)) rfl <| As rfl <| As rfl <| Nl <| sq <| SR <| Md rfl <| Ac (Z3g rfl rfl (vt rfl) (vk rfl)) rfl <| Nl <| Cq rfl h (fun h => ?_) (fun h => ?_)
  ·refine SR <| Md rfl <| Ac (Z00 (A := rd (Z4 Z0f) []) rfl rfl Z13) rfl <| As rfl <| Nl <| rt ?_
   cases h; exact Z0y Tryz.results68 rfl (Zc rfl) (Zc rfl)
  ·refine sk <| sq <| AW.newnil 2824 103 Z0f <| Rg <| Ld Z68 7 rfl <| Ld Z6f 8 rfl <| Md rfl <| Md rfl <| Ac (opb (⟨n1, x2, x10.1, m6, (.slice none 0 0)⟩ : spread_sun_o4) Zsb rfl Y08 (pc Zwu (vt rfl) <| pc Zxl (vt rfl) <| pc Y04 (vt rfl) <| pc Zw5 (vt rfl) <| pn rfl)) rfl <| Cv rfl (Zl 41 rfl rfl (vt rfl)) fun g11 => Ac (Z00 (A := Z7 g11 (Lens.id Z0k)) rfl rfl (vt rfl)) rfl <| Nl <| sq ?_
   obtain ⟨x12, hx12, x13, hx13, b14, hb14, h⟩ := bs3 h
   refine Rg <| Mp rfl <| Md rfl <| Ld Zy 10 rfl <| Cl [43] (Zbf _ _ hx12) Zeh rfl <| Cl [] (Zhv _ hx13) e77 rfl <| Ac (opb (⟨x12, x13⟩ : spread_beam) Z6p rfl Zig (pc Zjd (vt rfl) <| pc Zji (vt rfl) <| pn rfl)) rfl <| Md rfl <| Ac (Ze9 rfl rfl (vt rfl) (vk rfl)) rfl <| Ac (Zpi rfl rfl (vt rfl) (vk rfl)) rfl <| AOps.packF 41 2824 (fun v => (⟨n1, x2, x10.1, m6, v⟩ : spread_sun_o4)) (by decide) rfl rfl <| Cv rfl (Z0r 41 (xs := [.tmp 41, .tmp 42, .tmp 46, .tmp 49]) (Y0i _ _ _ _ _ _ _ hb14) Zlm rfl rfl ⟨vt rfl, vt rfl, vt rfl, vt rfl, trivial⟩ rfl) fun _u => AOps.unboxF 41 2824 (by decide) rfl rfl fun v15 => Nl <| sq <| SR <| Mp rfl <| Nc rfl <| Zk Z42 Z56 rfl <| Ac (Z3k v15 rfl rfl Z58 (vt rfl) (i := 41) rfl rfl) rfl <| Ac (Z3s 2824 rfl rfl Z5g (vt rfl) rfl) rfl <| Md rfl <| Ac (Z2w rfl rfl (vt rfl) (vt rfl)) rfl <| Nl <| Cq rfl h (fun h => ?_) (fun h => ?_)
   ·refine SR <| Ac (Z00 (A := rd (Z4 Z0f) []) rfl rfl Z13) rfl <| Ak rfl <| Nl <| rt ?_
    cases h; exact Z0y Tryz.results68 rfl (Zc rfl) (Zc rfl)
   ·refine sk <| SR <| Mp rfl <| Nc rfl <| Zk Z42 Z56 rfl <| Ac (Z3k v15 rfl rfl Z58 (vt rfl) (i := 41) rfl rfl) rfl <| Aw rfl <| Ak rfl <| Nl <| AW.freezes [12, 54, 61] 2824 rfl ⟨rfl, rfl, rfl, trivial⟩ rfl <| rt ?_
    cases h; exact Z0y Tryz.results68 rfl (Zc rfl) (Zc rfl)
def Zek : Option Bool :=
 (Zb5 3).bind fun x1 => (Zb5 5).bind fun x2 => (Z76).bind fun x4 => (Zdm (⟨[x1, x2], [(⟨0, 3, 1, 4⟩ : Link)]⟩ : Net) (⟨0, []⟩ : Env) 0 x4 4 100).bind fun x5 => (Z76).bind fun x6 => (Zdm (⟨[x1, x2], [(⟨0, 3, 1, 4⟩ : Link)]⟩ : Net) (⟨0, []⟩ : Env) 0 x6 4 0).bind fun x7 => (bif (((decide (x5.2 ≠ 0)) || (decide ((x5.1.length : Int) ≠ 1))) || (decide (x7.2 ≠ 5))) then some false else (lget x5.1 0).bind fun x8 => (Z9m x8 (Vector.set (Vector.replicate 24 Z0e) 0 (⟨0, (9 : BitVec 64)⟩ : Wide) (by decide))).bind fun x9 => (lget x5.1 0).bind fun x11 => (Z8w x11 (Vector.replicate 24 Z0e)).bind fun x12 => some ((((x12 && x9.Left) && (decide (x9.At = 1))) && (decide (x9.Port = 5))) && (decide (((Vector.get x9.Header (⟨0, by decide⟩ : _root_.Fin 24)).Lo) = (4 : BitVec 64)))))
theorem Zuc : Q0 Tryz.prog 66 (rd Z6) Zek := fun r h => I0 Tryz.func66 rfl Tryz.ntmps66 rfl fun w H => by
 unfold Zek at h
 refine SR <| Ab rfl <| Nl <| sq ?_
 obtain ⟨x1, hx1, x2, hx2, h⟩ := bs2 h
 refine Rg <| Ac (Z1c (xs := [.const (Value.int IntKind.i64 3)]) (Zm0 _ _ hx1) Zka rfl rfl ⟨vk rfl, trivial⟩) rfl <| Ac (Z1c (xs := [.const (Value.int IntKind.i64 5)]) (Zm0 _ _ hx2) Zka rfl rfl ⟨vk rfl, trivial⟩) rfl <| Ac (Zdl (ps := [(0, .tmp 7), (1, .tmp 8)]) (l := [x1, x2]) rfl rfl Zaa Zal rfl rfl ⟨_, _, Lens.idx 2 Z0s 0 (by decide), _, rfl, (vt rfl), _, _, Lens.idx 2 Z0s 1 (by decide), _, rfl, (vt rfl), rfl⟩ rfl) rfl <| Ac (opb (⟨0, 3, 1, 4⟩ : Link) Zpk rfl Zrh (pc Zzp (vk rfl) <| pc Zsg (vk rfl) <| pc Zqe (vk rfl) <| pc Y1p (vk rfl) <| pn rfl)) rfl <| Ac (osl Z9p Zpk rfl (vt rfl)) rfl <| Ac (opb (⟨[x1, x2], [(⟨0, 3, 1, 4⟩ : Link)]⟩ : Net) Zkg rfl Zqf (pc Zx3 (vt rfl) <| pc Zzk (vt rfl) <| pn rfl)) rfl <| Cv rfl (Zo 2 rfl rfl Zkg) fun g3 => Zi Z68 2 rfl <| Nl <| sq ?_
 obtain ⟨x4, hx4, x5, hx5, h⟩ := bs2 h
 refine AR Zw (by kernel_rfl) <| Zj Z68 2 rfl <| Sd (lo [] [] rfl fun S hs hr => opb (⟨0, []⟩ : Env) Zlv rfl Zo0 (pn rfl)) <| SCl [] (Zbh _ hx4) e73 rfl <| Sd (lo [14, 15, 16] [] rfl fun S hs hr => Z1c (xs := [.tmp 14, .tmp 15, .const (Value.int IntKind.i64 0), .tmp 16, .const (Value.int IntKind.i64 4), .const (Value.int IntKind.i64 100)]) (Zjk _ _ _ _ _ _ _ hx5) e68 rfl rfl ⟨vt ((hs 14 rfl).trans rfl), vt ((hs 15 rfl).trans rfl), vk rfl, vt ((hs 16 rfl).trans rfl), vk rfl, vk rfl, trivial⟩) <| Sd (lo [17] [] rfl fun S hs hr => Zt (A := Z0w (rd (Z4 Z0f) x5.1) (rd (Z0 .i64) x5.2)) rfl rfl (vh hs 17 rfl rfl)) <| Sd (lo [13] [] rfl fun S hs hr => Z1b rfl rfl (vh hs 13 rfl rfl)) <| Sd (lo [13] [] rfl fun S hs hr => Z1d rfl rfl (vh hs 13 rfl rfl)) <| SAs rfl <| SAs rfl <| Sn <| sq ?_
 obtain ⟨x6, hx6, x7, hx7, h⟩ := bs2 h
 refine AR Zw (by kernel_rfl) <| Zj Z68 2 rfl <| Sd (lo [] [] rfl fun S hs hr => opb (⟨0, []⟩ : Env) Zlv rfl Zo0 (pn rfl)) <| SCl [] (Zbh _ hx6) e73 rfl <| Sd (lo [21, 22, 23] [] rfl fun S hs hr => Z1c (xs := [.tmp 21, .tmp 22, .const (Value.int IntKind.i64 0), .tmp 23, .const (Value.int IntKind.i64 4), .const (Value.int IntKind.i64 0)]) (Zjk _ _ _ _ _ _ _ hx7) e68 rfl rfl ⟨vt ((hs 21 rfl).trans rfl), vt ((hs 22 rfl).trans rfl), vk rfl, vt ((hs 23 rfl).trans rfl), vk rfl, vk rfl, trivial⟩) <| Sd (lo [24] [] rfl fun S hs hr => Zt (A := Z0w (rd (Z4 Z0f) x7.1) (rd (Z0 .i64) x7.2)) rfl rfl (vh hs 24 rfl rfl)) <| Sd (lo [20] [] rfl fun S hs hr => Z1b rfl rfl (vh hs 20 rfl rfl)) <| Sd (lo [20] [] rfl fun S hs hr => Z1d rfl rfl (vh hs 20 rfl rfl)) <| SAs rfl <| SAs rfl <| Sn <| sq <| SR <| Md rfl <| Ac (Z3g rfl rfl (vt rfl) (vk rfl)) rfl <| Md rfl <| Gd rfl (fun hq => Zt (A := rd (Z4 Z0f) x5.1) rfl rfl (vt rfl)) <| Gd rfl (fun hq => Z16 rfl rfl Z5g (vgt rfl hq)) <| Gd rfl (fun hq => Z3g rfl rfl (vgt rfl hq) (vk rfl)) <| Ac (Z5p rfl rfl (vt rfl) (vt rfl)) rfl <| Md rfl <| Gd rfl (fun hq => Zt (A := rd (Z0 .i64) x7.2) rfl rfl (vt rfl)) <| Gd rfl (fun hq => Z3g rfl rfl (vgt rfl hq) (vk rfl)) <| Ac (Z5p rfl rfl (vt rfl) (vt rfl)) rfl <| Nl <| Cq rfl h (fun h => ?_) (fun h => ?_)
 ·refine SR <| Ab rfl <| Nl <| rt ?_
  cases h; exact Zm Tryz.results66 rfl (Zc rfl)
 ·refine sk <| sq ?_
  obtain ⟨x8, hx8, x9, hx9, h⟩ := bs2 h
  refine Rg <| Md rfl <| Ac (Z0z rfl rfl Z5g (vt rfl) (vk rfl) hx8) rfl <| Lp1 Z6m rfl <| Ac (opb (⟨0, (9 : BitVec 64)⟩ : Wide) Z1l rfl Z31 (pc Z3n (vku (9 : BitVec 64) rfl) <| pn rfl)) rfl <| Ac (Z15 (ps := [(0, .tmp 41)]) (x := (Vector.set (Vector.replicate 24 Z0e) 0 (⟨0, (9 : BitVec 64)⟩ : Wide) (by decide))) rfl rfl rfl (by kernel_rfl) Z37 ⟨_, _, Lens.idx 24 Ze 0 (by decide), _, by kernel_rfl, (vt rfl), rfl⟩) rfl <| Cl [40, 42] (Zm4 _ _ _ hx9) e64 rfl <| Cv rfl (Zo 7 rfl rfl Zag) fun g10 => Zi Z9n 7 rfl <| Nl <| sq ?_
  obtain ⟨x11, hx11, x12, hx12, h⟩ := bs2 h
  refine Rg <| Md rfl <| Ac (Z0z rfl rfl Z5g (vt rfl) (vk rfl) hx11) rfl <| Lp1 Z6m rfl <| Ac (Z15 (ps := []) (x := (Vector.replicate 24 Z0e)) rfl rfl rfl (by kernel_rfl) Z37 rfl) rfl <| Cl [46, 47] (Zk8 _ _ _ hx12) e62 rfl <| Md rfl <| Gd rfl (fun hq => Z2n lEnd_3 rfl rfl Zts (vt rfl)) <| Gd rfl (fun hq => Z1p rfl rfl ty4 (vgt rfl hq) (i := 7) rfl) <| Ac (Z22 rfl rfl (vt rfl) (vt rfl)) rfl <| Md rfl <| Gd rfl (fun hq => Z2n lEnd_0 rfl rfl Y0s (vt rfl)) <| Gd rfl (fun hq => Z1p rfl rfl Zq (vgt rfl hq) (i := 7) rfl) <| Gd rfl (fun hq => Z1m rfl rfl (vgt rfl hq) (vk rfl)) <| Ac (Z22 rfl rfl (vt rfl) (vt rfl)) rfl <| Md rfl <| Gd rfl (fun hq => Z2n lEnd_1 rfl rfl Zyx (vt rfl)) <| Gd rfl (fun hq => Z1p rfl rfl Zq (vgt rfl hq) (i := 7) rfl) <| Gd rfl (fun hq => Z1m rfl rfl (vgt rfl hq) (vk rfl)) <| Ac (Z22 rfl rfl (vt rfl) (vt rfl)) rfl <| Md rfl <| Gd rfl (fun hq => Z2n lEnd_4 rfl rfl Zv7 (vt rfl)) <| Gd rfl (fun hq => Z1f rfl rfl Z4u (vgt rfl hq) (vk rfl) rfl) <| Gd rfl (fun hq => Z2n lWide_1 rfl rfl Z2f (vgt rfl hq)) <| Gd rfl (fun hq => Z1p rfl rfl Z0m (vgt rfl hq) (i := 7) rfl) <| Gd rfl (fun hq => Zeg rfl rfl (vgt rfl hq) (vku (4 : BitVec 64) rfl)) <| Ac (Z22 rfl rfl (vt rfl) (vt rfl)) rfl <| As rfl <| Nl <| rt ?_
  cases h; exact Zm Tryz.results66 rfl (Zc rfl)
def Zap (x1 : Ray) (x2 : Z0l) : Option Bool :=
 (Z8w x1 x2).bind fun x5 => (Zev x1 x2).bind fun x6 => (opt (x5 == x6) (Z9m x1 x2)).bind fun x7 => (opt (x5 == x6) (Zes x1 x2)).bind fun x8 => (opt ((x5 == x6) && (decide (x7 = x8))) (Zek)).bind fun x9 => some (((x5 == x6) && (decide (x7 = x8))) && x9)
theorem Zsx : Q2 Tryz.prog 16 (rd Z0f) (rd (Z1 24 Ze)) (rd Z6) Zap := fun x1 x2 r h => I0 Tryz.func16 rfl Tryz.ntmps16 rfl fun w H => by
 unfold Zap at h
 refine SR <| Cv rfl (Zl 3 rfl rfl (vt rfl)) fun g3 => Cv rfl (Zl 4 rfl rfl (vt rfl)) fun g4 => Ab rfl <| Nl <| sq ?_
 obtain ⟨x5, hx5, x6, hx6, x7, hx7, x8, hx8, h⟩ := bs4 h
 obtain ⟨x9, hx9, h⟩ := Z9 h
 refine AR Zw (by kernel_rfl) <| Zj Z6m 3 rfl <| Zj Z0v 4 rfl <| SCl [5, 6] (Zk8 _ _ _ hx5) e62 rfl <| Zj Z6m 3 rfl <| Zj Z0v 4 rfl <| SCl [8, 9] (Zqa _ _ _ hx6) e63 rfl <| Sd (lo [7, 10] [] rfl fun S hs hr => Zy3 rfl rfl un4 (vh hs 7 rfl rfl) (vh hs 10 rfl rfl)) <| Zs rfl <| Sd (lg [2, 12] [3] rfl fun hq S hs hr => Z1p rfl rfl Z6m (vh hs 2 rfl rfl) (i := 3) ((hr 3 rfl).trans rfl)) <| Sd (lg [3, 12] [4] rfl fun hq S hs hr => Z1p rfl rfl Z0v (vh hs 3 rfl rfl) (i := 4) ((hr 4 rfl).trans rfl)) <| Sd (lg [13, 14, 12] [] rfl fun hq S hs hr => Z1c (xs := [.tmp 13, .tmp 14]) (Zm4 _ _ _ (Z2s hx7 hq)) e64 rfl rfl ⟨vgt ((hs 13 rfl).trans rfl) hq, vgt ((hs 14 rfl).trans rfl) hq, trivial⟩) <| Sd (lg [2, 12] [3] rfl fun hq S hs hr => Z1p rfl rfl Z6m (vh hs 2 rfl rfl) (i := 3) ((hr 3 rfl).trans rfl)) <| Sd (lg [3, 12] [4] rfl fun hq S hs hr => Z1p rfl rfl Z0v (vh hs 3 rfl rfl) (i := 4) ((hr 4 rfl).trans rfl)) <| Sd (lg [16, 17, 12] [] rfl fun hq S hs hr => Z1c (xs := [.tmp 16, .tmp 17]) (Zs9 _ _ _ (Z2s hx8 hq)) e65 rfl rfl ⟨vgt ((hs 16 rfl).trans rfl) hq, vgt ((hs 17 rfl).trans rfl) hq, trivial⟩) <| Sd (lg [15, 18, 12] [] rfl fun hq S hs hr => Zo1 rfl rfl Zy8 (by decide) rfl Zq4 (vgt ((hs 15 rfl).trans rfl) hq) (vgt ((hs 18 rfl).trans rfl) hq)) <| Sd (lo [19, 12] [] rfl fun S hs hr => Z22 rfl rfl (vh hs 12 rfl rfl) (vh hs 19 rfl rfl)) <| Zs rfl <| Sd (lg [21] [] rfl fun hq S hs hr => Z1c (xs := []) (Zuc _ (Z2s hx9 hq)) e66 rfl rfl trivial) <| Sd (lo [22, 21] [] rfl fun S hs hr => Z22 rfl rfl (vh hs 21 rfl rfl) (vh hs 22 rfl rfl)) <| SAs rfl <| Sn <| rt ?_
 cases h; exact Zm Tryz.results16 rfl (Zc rfl)
end Go.Proofs.YtknpgojdkobgjaaGreat.W
set_option maxRecDepth 4000
namespace Go.Proofs.YtknpgojdkobgjaaGreat.W
open Go Go.Wb
end Go.Proofs.YtknpgojdkobgjaaGreat.W
set_option maxRecDepth 4000
namespace Go.Proofs.YtknpgojdkobgjaaGreat.W
open Go Go.Wb
end Go.Proofs.YtknpgojdkobgjaaGreat.W
set_option maxRecDepth 4000
namespace Go.Proofs.YtknpgojdkobgjaaGreat.W
open Go Go.Wb
end Go.Proofs.YtknpgojdkobgjaaGreat.W
set_option maxRecDepth 4000
namespace Go.Proofs.YtknpgojdkobgjaaGreat.W
open Go Go.Wb
end Go.Proofs.YtknpgojdkobgjaaGreat.W
set_option maxRecDepth 4000
namespace Go.Proofs.YtknpgojdkobgjaaGreat.W
open Go Go.Wb
end Go.Proofs.YtknpgojdkobgjaaGreat.W
