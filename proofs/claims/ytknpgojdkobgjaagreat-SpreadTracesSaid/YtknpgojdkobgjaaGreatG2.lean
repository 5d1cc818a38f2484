/- A part of the proof. -/
import Derived.Test.YtknpgojdkobgjaaGreatG1
set_option linter.unusedVariables false
set_option maxRecDepth 4000
set_option linter.unusedSimpArgs false
namespace Go.Proofs.YtknpgojdkobgjaaGreat.W
open Go Go.Wb
theorem Yd1 : Ent Tryz.prog 252 := Ent.mk Tryz.func252 rfl rfl
theorem e54 : Ent Tryz.prog 54 := Ent.mk Tryz.func54 rfl rfl
theorem Y9t : Ent Tryz.prog 192 := Ent.mk Tryz.func192 rfl rfl
theorem Y7t : Ent Tryz.prog 338 := Ent.mk Tryz.func338 rfl rfl
theorem Ycl : Ent Tryz.prog 326 := Ent.mk Tryz.func326 rfl rfl
theorem Yh0 : Ent Tryz.prog 325 := Ent.mk Tryz.func325 rfl rfl
theorem Zzw : Ent Tryz.prog 231 := Ent.mk Tryz.func231 rfl rfl
def Zd3 (x1 : Flat) (m2 : Int) : Nat → Nat → (List (List Zl)) → Option ((List (List Zl)) × Int)
 | 0, i8, l6 => some (l6, 0)
 | m9 + 1, i8, l6 => (Zf2 x1 (i8 : Int) m2).bind fun x10 => (bif (decide (x10.2 ≠ 0)) then some ([], x10.2) else (Z18 l6 [x10.1]).bind fun l11 => (Zd3 x1 m2 m9) (i8 + 1) l11)
def Zie (x1 : Flat) (m2 : Int) : Option ((List (List Zl)) × Int) :=
 Zd3 x1 m2 ((x1.Rules.length : Int) : Int).toNat 0 []
theorem Ycw : Q2 Tryz.prog 192 (rd Z5x) (rd (Z0 .i64)) (fun r => Z1b (rd (Z1 (Z1 (Z3 24 Z4))) r.1) (rd (Z0 .i64) r.2)) Zie := fun x1 m2 r h => I0 Tryz.func192 rfl Tryz.ntmps192 rfl fun w H => by
 unfold Zie at h
 refine SR <| Cv rfl (Zn 3 rfl rfl (vt rfl)) fun g3 => Ac (Zy (A := rd (Z1 (Z1 (Z3 24 Z4))) []) rfl rfl Z1i) rfl <| Ak rfl <| Nl <| sq <| AW.newnil 1001 229 (Z1 (Z3 24 Z4)) <| Rg <| Ac (Zy rfl rfl vc) rfl <| Nl <| sq <| SR <| Zh lFlat_0 Zl5 rfl <| Ld Zi5 3 rfl <| Ac (Z0t rfl rfl Z59 (vt rfl)) rfl <| Mk rfl <| Nl <| bk <| LG (d := []) (ν := Nat × Nat × (List (List Zl)) × Value) (fun (m9, i8, l6, v7) => (Cnt (x1.Rules.length : Int) i8 m9 ∧ Zd3 x1 m2 m9 i8 l6 = some r, m9, [(1, rd (Z0 .i64) m2), (2, Z7 g3 (Lens.id Z5x)), (6, Zo v7), (12, rd (Z0 .i64) (x1.Rules.length : Int)), (13, rd (Z0 .i64) (i8 : Int))], [(3, Zc g3 73 Z5x x1), (1001, Zb v7 229 (Z1 (Z3 24 Z4)) l6)])) (((x1.Rules.length : Int) : Int).toNat, 0, [], (.slice none 0 0)) ⟨Cnt.start _, h⟩ (FX rfl) ?_
 rintro ⟨m9, i8, l6, v7⟩ ⟨hsf1, h⟩
 dsimp only at hsf1 h ⊢
 cases m9 with
 | zero =>
  unfold Zd3 at h
  refine SR <| Ac (Zi rfl rfl (vt rfl) (vt rfl)) rfl <| Nl <| sq <| Cn rfl (fun hc => absurd (of_decide_eq_true hc) hsf1.zero) (fun hc => ?_)
  refine xt <| SR <| Mw rfl <| Aw rfl <| Ak rfl <| Nl <| AW.freezes [4, 6, 31] 1001 rfl ⟨rfl, rfl, rfl, trivial⟩ rfl <| rt ?_
  cases h; exact Z1m Tryz.results192 rfl (Za rfl) (Za rfl)
 | succ m9 =>
  unfold Zd3 at h
  refine SR <| Ac (Zi rfl rfl (vt rfl) (vt rfl)) rfl <| Nl <| sq <| Cn rfl (fun hc => ?_) (fun hc => absurd hsf1.succ (of_decide_eq_false hc))
  have hlti8 := of_decide_eq_true hc
  refine sk <| sq <| bk <| SR <| Md rfl <| As rfl <| Nl <| sq ?_
  obtain ⟨x10, hx10, h⟩ := Z8 h
  refine Rg <| Ld Zbx 3 rfl <| Md rfl <| Md rfl <| Cl [17, 18, 19] (Yae _ _ _ _ hx10) Yd1 rfl <| Mt2 rfl <| Ac (Z1n rfl rfl (vt rfl)) rfl <| Ac (Z1l rfl rfl (vt rfl)) rfl <| As rfl <| As rfl <| Nl <| sq <| SR <| Md rfl <| Ac (Z4u rfl rfl (vt rfl) (vk rfl)) rfl <| Nl <| Cq rfl h (fun h => ?_) (fun h => ?_)
  ·refine SR <| Md rfl <| Ac (Zy (A := rd (Z1 (Z1 (Z3 24 Z4))) []) rfl rfl Z1i) rfl <| As rfl <| Nl <| rt ?_
   cases h; exact Z1m Tryz.results192 rfl (Za rfl) (Za rfl)
  ·refine sk ?_
   obtain ⟨l11, hl11, h⟩ := Z8 h
   refine Rg <| Mw rfl <| Md rfl <| Ac (osl Zqd Yk1 rfl (vt rfl)) rfl <| Cv rfl (Z44 1001 hl11 rfl rfl Ycm (vt rfl) rfl (vt rfl)) fun v12 => Aw rfl <| Nl <| Rg <| Ac (Z0u (t := 12) rfl rfl (vt rfl) (vk rfl) (vt rfl) hlti8) rfl <| Md rfl <| Nl ?_
   exact ⟨(_, _, _, _), Nat.lt_succ_self _, ⟨hsf1.next, h⟩, FX rfl⟩
def Zd1 (m2 : Int) : (List Switch) → Nat → (List spread_table) → Option ((List spread_table) × Int)
 | [], i8, l6 => some (l6, 0)
 | x10 :: l9, i8, l6 => (Zi1 x10 m2).bind fun x12 => (bif (decide (x12.2 ≠ 0)) then some ([], 5) else (Zie x12.1 m2).bind fun x14 => (bif (decide (x14.2 ≠ 0)) then some ([], 5) else (Z18 l6 [(⟨x12.1, x14.1⟩ : spread_table)]).bind fun l15 => (Zd1 m2 l9) (i8 + 1) l15))
def Zok (n1 : Net) (m2 : Int) : Option ((List spread_table) × Int) :=
 Zd1 m2 n1.Switches 0 []
theorem Ycd : Q2 Tryz.prog 124 (rd Z26) (rd (Z0 .i64)) (fun r => Z1b (rd (Z1 Z2i) r.1) (rd (Z0 .i64) r.2)) Zok := fun n1 m2 r h => I0 Tryz.func124 rfl Tryz.ntmps124 rfl fun w H => by
 unfold Zok at h
 refine SR <| Cv rfl (Zn 3 rfl rfl (vt rfl)) fun g3 => Ac (Zy (A := rd (Z1 Z2i) []) rfl rfl Z1i) rfl <| Ak rfl <| Nl <| sq <| AW.newnil 1001 252 Z2i <| Rg <| Ac (Zy rfl rfl vc) rfl <| Nl <| sq <| SR <| Zh lNet_0 Zcz rfl <| Ld Zcr 3 rfl <| Ac (Z0t rfl rfl Z87 (vt rfl)) rfl <| Mk rfl <| Nl <| bk <| LG (d := []) (ν := (List Switch) × Nat × (List spread_table) × Value) (fun (l9, i8, l6, v7) => (Sfx n1.Switches i8 l9 ∧ Zd1 m2 l9 i8 l6 = some r, l9.length, [(1, rd (Z0 .i64) m2), (6, Zo v7), (13, rd (Z1 Z0d) n1.Switches), (14, rd (Z0 .i64) (n1.Switches.length : Int)), (15, rd (Z0 .i64) (i8 : Int))], [(1001, Zb v7 252 Z2i l6)])) (n1.Switches, 0, [], (.slice none 0 0)) ⟨Sfx.start _, h⟩ (FX rfl) ?_
 rintro ⟨l9, i8, l6, v7⟩ ⟨hsf1, h⟩
 dsimp only at hsf1 h ⊢
 cases l9 with
 | nil =>
  unfold Zd1 at h
  refine SR <| Ac (Zi rfl rfl (vt rfl) (vt rfl)) rfl <| Nl <| sq <| Cn rfl (fun hc => absurd (of_decide_eq_true hc) hsf1.nil) (fun hc => ?_)
  refine xt <| SR <| Mw rfl <| Aw rfl <| Ak rfl <| Nl <| AW.freezes [4, 6, 42] 1001 rfl ⟨rfl, rfl, rfl, trivial⟩ rfl <| rt ?_
  cases h; exact Z1m Tryz.results124 rfl (Za rfl) (Za rfl)
 | cons x10 l9 =>
  unfold Zd1 at h
  refine SR <| Ac (Zi rfl rfl (vt rfl) (vt rfl)) rfl <| Nl <| sq <| Cn rfl (fun hc => ?_) (fun hc => absurd hsf1.cons (of_decide_eq_false hc))
  have hlti8 := of_decide_eq_true hc
  refine sk <| sq <| bk <| SR <| Ac (Z0k rfl rfl Z87 (vt rfl) (vt rfl) hsf1.lget) rfl <| Lp1 Z5s rfl <| Cv rfl (Zs 9 rfl rfl Zjk) fun g11 => Zj Z5s 9 rfl <| Nl <| sq ?_
  obtain ⟨x12, hx12, h⟩ := Z8 h
  refine Rg <| Ld Z5s 9 rfl <| Md rfl <| Cl [20, 21] (Ym7 _ _ _ hx12) e54 rfl <| Mt2 rfl <| Ac (Z1n rfl rfl (vt rfl)) rfl <| Ac (Z1l rfl rfl (vt rfl)) rfl <| Cv rfl (Zs 10 rfl rfl Zoi) fun g13 => Zj Zbx 10 rfl <| As rfl <| Nl <| sq <| SR <| Md rfl <| Ac (Z4u rfl rfl (vt rfl) (vk rfl)) rfl <| Nl <| Cq rfl h (fun h => ?_) (fun h => ?_)
  ·refine SR <| Ac (Zy (A := rd (Z1 Z2i) []) rfl rfl Z1i) rfl <| Ak rfl <| Nl <| rt ?_
   cases h; exact Z1m Tryz.results124 rfl (Za rfl) (Za rfl)
  ·refine sk <| sq ?_
   obtain ⟨x14, hx14, h⟩ := Z8 h
   refine Rg <| Ld Zbx 10 rfl <| Md rfl <| Cl [28, 29] (Ycw _ _ _ hx14) Y9t rfl <| Ac (Zp (A := Z1b (rd (Z1 (Z1 (Z3 24 Z4))) x14.1) (rd (Z0 .i64) x14.2)) rfl rfl (vt rfl)) rfl <| Ac (Z1n rfl rfl (vt rfl)) rfl <| Ac (Z1l rfl rfl (vt rfl)) rfl <| As rfl <| As rfl <| Nl <| sq <| SR <| Md rfl <| Ac (Z4u rfl rfl (vt rfl) (vk rfl)) rfl <| Nl <| Cq rfl h (fun h => ?_) (fun h => ?_)
   ·refine SR <| Ac (Zy (A := rd (Z1 Z2i) []) rfl rfl Z1i) rfl <| Ak rfl <| Nl <| rt ?_
    cases h; exact Z1m Tryz.results124 rfl (Za rfl) (Za rfl)
   ·refine sk ?_
    obtain ⟨l15, hl15, h⟩ := Z8 h
    refine Rg <| Mw rfl <| Ld Zbx 10 rfl <| Md rfl <| Ac (opb (⟨x12.1, x14.1⟩ : spread_table) Zrz rfl Yim (pc Yb4 (vt rfl) <| pc Ycn (vt rfl) <| pn rfl)) rfl <| Ac (osl Y5b Zrz rfl (vt rfl)) rfl <| Cv rfl (Z44 1001 hl15 rfl rfl Y63 (vt rfl) rfl (vt rfl)) fun v16 => Aw rfl <| Nl <| Rg <| Ac (Z0u (t := 14) rfl rfl (vt rfl) (vk rfl) (vt rfl) hlti8) rfl <| Md rfl <| Nl ?_
    exact ⟨(_, _, _, _), Nat.lt_succ_self _, ⟨hsf1.next, h⟩, FX rfl⟩
def Zfp (b1 : spread_beam) (x2 : Zl) : Option (spread_beam × Bool) :=
 (Zhi b1.got x2).bind fun x6 => (bif (!x6.2) then some ((⟨(Vector.replicate 24 zTern), (Vector.replicate 24 zTern)⟩ : spread_beam), false) else (Z7q x6.1 b1.cube).bind fun x8 => some ({ b1 with cube := x8.1 }, x8.2))
theorem Ygb : Q2 Tryz.prog 193 (rd Z2q) (rd (Z3 24 Z4)) (fun r => Z1b (rd Z2q r.1) (rd Z5 r.2)) Zfp := fun b1 x2 r h => I0 Tryz.func193 rfl Tryz.ntmps193 rfl fun w H => by
 unfold Zfp at h
 refine SR <| Cv rfl (Zn 3 rfl rfl (vt rfl)) fun g3 => Cv rfl (Zn 4 rfl rfl (vt rfl)) fun g4 => Cv rfl (Zs 5 rfl rfl Zdw) fun g5 => Ab rfl <| Nl <| sq ?_
 obtain ⟨x6, hx6, h⟩ := Z8 h
 refine Rg <| Zh lspread_beam_1 Zhm rfl <| Ld Z0f 3 rfl <| Ld Z00 4 rfl <| Cl [10, 11] (Zzn _ _ _ hx6) Zuq rfl <| Mt2 rfl <| Ac (Z1n rfl rfl (vt rfl)) rfl <| Ac (Z1l rfl rfl (vt rfl)) rfl <| Cv rfl (Zs 7 rfl rfl Z2a) fun g7 => Zj Z00 7 rfl <| As rfl <| Nl <| sq <| SR <| Md rfl <| Ac (Z0z rfl rfl (vt rfl)) rfl <| Nl <| Cq rfl h (fun h => ?_) (fun h => ?_)
 ·refine SR <| Ac (opb (⟨(Vector.replicate 24 zTern), (Vector.replicate 24 zTern)⟩ : spread_beam) Zdw rfl Zqy (pn rfl)) rfl <| Zj Z6r 5 rfl <| Ab rfl <| Nl <| rt ?_
  cases h; exact Z1m Tryz.results193 rfl (Z01 rfl (i := 5) rfl Z6r) (Za rfl)
 ·refine sk <| sq ?_
  obtain ⟨x8, hx8, h⟩ := Z8 h
  refine Rg <| Ld Z00 7 rfl <| Zh lspread_beam_0 Zlh rfl <| Ld Z00 3 rfl <| Cl [19, 21] (Zo6 _ _ _ hx8) Zp1 rfl <| Mt2 rfl <| Ac (Z1n rfl rfl (vt rfl)) rfl <| Ac (Z1l rfl rfl (vt rfl)) rfl <| Zh lspread_beam_0 Zlh rfl <| Zj Z00 3 rfl <| As rfl <| Nl <| SR <| Ld Z6r 3 rfl <| Md rfl <| Zj Z6r 5 rfl <| As rfl <| Nl <| rt ?_
  cases h; exact Z1m Tryz.results193 rfl (Z01 rfl (i := 5) rfl Z6r) (Za rfl)
def Ze1 (x1 : Env) (n2 : Int) : Option Int :=
 (bif (decide (n2 < 1)) then some 0 else (Z94 x1.Turn n2).bind fun q4 => (bif (decide (q4 < 0)) then some (IntKind.i64.wrap (q4 + n2)) else some q4))
theorem Yii : Q2 Tryz.prog 284 (rd Z0q) (rd (Z0 .i64)) (rd (Z0 .i64)) Ze1 := fun x1 n2 r h => I0 Tryz.func284 rfl Tryz.ntmps284 rfl fun w H => by
 unfold Ze1 at h
 refine SR <| Cv rfl (Zn 3 rfl rfl (vt rfl)) fun g3 => Ak rfl <| Nl <| sq <| SR <| Md rfl <| Ac (Zi rfl rfl (vt rfl) (vk rfl)) rfl <| Nl <| Cq rfl h (fun h => ?_) (fun h => ?_)
 ·refine SR <| Ak rfl <| Nl <| rt ?_
  cases h; exact Zf Tryz.results284 rfl (Za rfl)
 ·refine sk <| sq ?_
  obtain ⟨q4, hq4, h⟩ := Z8 h
  refine Rg <| Zh Y2b Yct rfl <| Ld Zq 3 rfl <| Md rfl <| Ac (Zvj rfl rfl (vt rfl) (vt rfl) hq4) rfl <| As rfl <| Nl <| sq <| SR <| Md rfl <| Ac (Zi rfl rfl (vt rfl) (vk rfl)) rfl <| Nl <| Cq rfl h (fun h => ?_) (fun h => ?_)
  ·refine Rg <| Md rfl <| Md rfl <| Ac (Z0o rfl rfl (vt rfl) (vt rfl)) rfl <| As rfl <| Nl <| SR <| Md rfl <| As rfl <| Nl <| rt ?_
   cases h; exact Zf Tryz.results284 rfl (Za rfl)
  ·refine sk <| SR <| Md rfl <| As rfl <| Nl <| rt ?_
   cases h; exact Zf Tryz.results284 rfl (Za rfl)
def Zk1 (s1 : (List Int)) (x2 : Int) : Option Bool :=
 (Zga s1 x2).bind fun x3 => some (decide (x3 ≥ 0))
theorem Yma : Q2 Tryz.prog 338 (rd (Z1 (Z0 .i64))) (rd (Z0 .i64)) (rd Z5) Zk1 := fun s1 x2 r h => I0 Tryz.func338 rfl Tryz.ntmps338 rfl fun w H => by
 unfold Zk1 at h
 refine SR <| Ab rfl <| Nl <| sq ?_
 obtain ⟨x3, hx3, h⟩ := Z8 h
 refine Rg <| Md rfl <| Md rfl <| Cl [5, 6] (Y2l _ _ _ hx3) Y1q rfl <| Ac (Z3z rfl rfl (vt rfl) (vk rfl)) rfl <| As rfl <| Nl <| rt ?_
 cases h; exact Zf Tryz.results338 rfl (Za rfl)
def Zl7 (x1 : Env) (p2 : Int) : Option Bool :=
 (Zk1 x1.Down p2).bind fun x4 => some (!x4)
theorem Yba : Q2 Tryz.prog 326 (rd Z0q) (rd (Z0 .i64)) (rd Z5) Zl7 := fun x1 p2 r h => I0 Tryz.func326 rfl Tryz.ntmps326 rfl fun w H => by
 unfold Zl7 at h
 refine SR <| Cv rfl (Zn 3 rfl rfl (vt rfl)) fun g3 => Ab rfl <| Nl <| sq ?_
 obtain ⟨x4, hx4, h⟩ := Z8 h
 refine Rg <| Zh Zsc Zzb rfl <| Ld Y34 3 rfl <| Md rfl <| Cl [6, 7] (Yma _ _ _ hx4) Y7t rfl <| Ac (Z0z rfl rfl (vt rfl)) rfl <| As rfl <| Nl <| rt ?_
 cases h; exact Zf Tryz.results326 rfl (Za rfl)
def Zgn (x1 : Bucket) (x2 : env_world) : Option Bool :=
 (Zl7 x2.Env x1.Watch).bind fun x4 => some x4
theorem Yce : Q2 Tryz.prog 325 (rd Z1y) (rp Zc7) (rd Z5) Zgn := fun x1 x2 r h => I0 Tryz.func325 rfl Tryz.ntmps325 rfl fun w H => by
 unfold Zgn at h
 refine SR <| Cv rfl (Zn 3 rfl rfl (vt rfl)) fun g3 => Ab rfl <| Nl <| sq ?_
 obtain ⟨x4, hx4, h⟩ := Z8 h
 refine Rg <| Fp lenv_world_0 Y5r rfl <| Lp1 Z4x rfl <| Zh Y35 Y7r rfl <| Ld Zq 3 rfl <| Cl [5, 7] (Yba _ _ _ hx4) Ycl rfl <| As rfl <| Nl <| rt ?_
 cases h; exact Zf Tryz.results325 rfl (Za rfl)
def Zej (s1 : (List Bucket)) (x2 : (Bucket → Option Bool)) : Nat → Nat → Option Int
 | 0, i3 => some (-1)
 | m4 + 1, i3 => (lget s1 (i3 : Int)).bind fun x5 => (x2 x5).bind fun x6 => (bif x6 then some (i3 : Int) else (Zej s1 x2 m4) (i3 + 1))
def Zhr (s1 : (List Bucket)) (x2 : (Bucket → Option Bool)) : Option Int :=
 Zej s1 x2 ((s1.length : Int) : Int).toNat 0
theorem Zv7 : Q2 Tryz.prog 231 (rd (Z1 Z1y)) (fn1 Tryz.prog Z1y Z5) (rd (Z0 .i64)) Zhr := fun s1 x2 r h => I0 Tryz.func231 rfl Tryz.ntmps231 rfl fun w H => by
 unfold Zhr at h
 refine SR <| Ak rfl <| Nl <| sq <| SR <| Md rfl <| Ac (Z0t rfl rfl Z5w (vt rfl)) rfl <| Mk rfl <| Nl <| bk <| LG (d := []) (ν := Nat × Nat) (fun (m4, i3) => (Cnt (s1.length : Int) i3 m4 ∧ Zej s1 x2 m4 i3 = some r, m4, [(0, rd (Z1 Z1y) s1), (1, fn1 Tryz.prog Z1y Z5 x2), (7, rd (Z0 .i64) (s1.length : Int)), (8, rd (Z0 .i64) (i3 : Int))], [])) (((s1.length : Int) : Int).toNat, 0) ⟨Cnt.start _, h⟩ (FX rfl) ?_
 rintro ⟨m4, i3⟩ ⟨hsf1, h⟩
 dsimp only at hsf1 h ⊢
 cases m4 with
 | zero =>
  unfold Zej at h
  refine SR <| Ac (Zi rfl rfl (vt rfl) (vt rfl)) rfl <| Nl <| sq <| Cn rfl (fun hc => absurd (of_decide_eq_true hc) hsf1.zero) (fun hc => ?_)
  refine xt <| SR <| Ak rfl <| Nl <| rt ?_
  cases h; exact Zf Tryz.results231 rfl (Za rfl)
 | succ m4 =>
  unfold Zej at h
  refine SR <| Ac (Zi rfl rfl (vt rfl) (vt rfl)) rfl <| Nl <| sq <| Cn rfl (fun hc => ?_) (fun hc => absurd hsf1.succ (of_decide_eq_false hc))
  have hlti3 := of_decide_eq_true hc
  refine sk <| sq <| bk <| SR <| Md rfl <| As rfl <| Nl <| sq ?_
  obtain ⟨x5, hx5, x6, hx6, h⟩ := bs2 h
  refine Rg <| Ac (Zp (A := fn1 Tryz.prog Z1y Z5 x2) rfl rfl (vt rfl)) rfl <| Md rfl <| Md rfl <| Ac (Z0k rfl rfl Z5w (vt rfl) (vt rfl) hx5) rfl <| Lp1 Zst rfl <| Ac (Z88 hx6 rfl rfl (vt rfl) (vt rfl)) rfl <| Nl <| Cq rfl h (fun h => ?_) (fun h => ?_)
  ·refine SR <| Md rfl <| As rfl <| Nl <| rt ?_
   cases h; exact Zf Tryz.results231 rfl (Za rfl)
  ·refine sk <| Rg <| Ac (Z0u (t := 7) rfl rfl (vt rfl) (vk rfl) (vt rfl) hlti3) rfl <| Md rfl <| Nl ?_
   exact ⟨(_, _), Nat.lt_succ_self _, ⟨hsf1.next, h⟩, FX rfl⟩
def Zmt (w1 : env_world) : Option Int :=
 (Zhr w1.Group.Buckets (fun x => Zgn x w1)).bind fun x3 => some x3
theorem Yab : Q1 Tryz.prog 285 (rd Zc7) (rd (Z0 .i64)) Zmt := fun w1 r h => I0 Tryz.func285 rfl Tryz.ntmps285 rfl fun w H => by
 unfold Zmt at h
 refine SR <| Cv rfl (Zn 2 rfl rfl (vt rfl)) fun g2 => Ak rfl <| Nl <| sq <| AW.freezeB 1 2 rfl rfl rfl ?_
 obtain ⟨x3, hx3, h⟩ := Z8 h
 refine Rg <| Fp lenv_world_1 Zj3 rfl <| Fp Z80 Z8p rfl <| Lp1 Z8l rfl <| Ac (Z7n (cs := [.tmp 1]) (CAs := [rp Zc7 w1]) (fun x => Zgn x w1) rfl rfl Yh0 ⟨vt rfl, trivial⟩ (fun x y h => Yce _ _ y h)) rfl <| Cl [5, 6] (Zv7 _ _ _ hx3) Zzw rfl <| As rfl <| Nl <| rt ?_
 cases h; exact Zf Tryz.results285 rfl (Za rfl)
end Go.Proofs.YtknpgojdkobgjaaGreat.W
set_option maxRecDepth 4000
namespace Go.Proofs.YtknpgojdkobgjaaGreat.W
open Go Go.Wb
theorem Yny : Ent Tryz.prog 284 := Ent.mk Tryz.func284 rfl rfl
theorem Yjl : Ent Tryz.prog 285 := Ent.mk Tryz.func285 rfl rfl
theorem Yj4 : Ent Tryz.prog 300 := Ent.mk Tryz.func300 rfl rfl
theorem Y3m : Ent Tryz.prog 238 := Ent.mk Tryz.func238 rfl rfl
theorem Y06 : Ent Tryz.prog 255 := Ent.mk Tryz.func255 rfl rfl
theorem Yda : Ent Tryz.prog 131 := Ent.mk Tryz.func131 rfl rfl
theorem Yno : Ent Tryz.prog 130 := Ent.mk Tryz.func130 rfl rfl
theorem Yf1 : Ent Tryz.prog 129 := Ent.mk Tryz.func129 rfl rfl
def Zaw : Nat → Nat → (List Int) → Option (List Int)
 | 0, i10, l8 => some l8
 | m11 + 1, i10, l8 => (Z18 l8 [(i10 : Int)]).bind fun l12 => (Zaw m11) (i10 + 1) l12
def Zfs (x1 : Env) (x2 : Group) : Option (List Int) :=
 (bif (decide (((((⟨x1, x2⟩ : env_world).Group).Buckets).length : Int) = 0)) then some [] else (bif (decide ((((⟨x1, x2⟩ : env_world).Group).Kind) = 0)) then Zaw (((((⟨x1, x2⟩ : env_world).Group).Buckets).length : Int) : Int).toNat 0 [] else (bif (decide ((((⟨x1, x2⟩ : env_world).Group).Kind) = 1)) then (Ze1 ((⟨x1, x2⟩ : env_world).Env) ((((⟨x1, x2⟩ : env_world).Group).Buckets).length : Int)).bind fun x14 => some [x14] else (bif (decide ((((⟨x1, x2⟩ : env_world).Group).Kind) = 2)) then some [0] else (bif (decide ((((⟨x1, x2⟩ : env_world).Group).Kind) = 3)) then (Zmt (⟨x1, x2⟩ : env_world)).bind fun x15 => (bif (decide (x15 ≥ 0)) then some [x15] else some []) else some [])))))
theorem Zwo : Q2 Tryz.prog 238 (rd Z0q) (rd Zz) (rd (Z1 (Z0 .i64))) Zfs := fun x1 x2 r h => I0 Tryz.func238 rfl Tryz.ntmps238 rfl fun w H => by
 unfold Zfs at h
 refine SR <| Cv rfl (Zn 3 rfl rfl (vt rfl)) fun g3 => Cv rfl (Zn 4 rfl rfl (vt rfl)) fun g4 => Ac (Zy (A := rd (Z1 (Z0 .i64)) []) rfl rfl Z1i) rfl <| Nl <| SR <| Ld Z4x 3 rfl <| Ld Z5h 4 rfl <| Ac (opb (⟨x1, x2⟩ : env_world) Y2e rfl Ymz (pc Yjd (vt rfl) <| pc Yaq (vt rfl) <| pn rfl)) rfl <| Cv rfl (Zs 6 rfl rfl Y2e) fun g5 => Zj Y1b 6 rfl <| Nl <| sq <| SR <| Zh lenv_world_1 Zj3 rfl <| Zh Z80 Z8p rfl <| Ld Z8l 6 rfl <| Ac (Z0t rfl rfl Z5w (vt rfl)) rfl <| Ac (Z1r rfl rfl (vt rfl) (vk rfl)) rfl <| Nl <| Cq rfl h (fun h => ?_) (fun h => ?_)
 ·refine SR <| Ac (Zy (A := rd (Z1 (Z0 .i64)) []) rfl rfl Z1i) rfl <| Nl <| rt ?_
  cases h; exact Zf Tryz.results238 rfl (Za rfl)
 ·refine sk <| sq <| SR <| Zh lenv_world_1 Zj3 rfl <| Zh Y3e Yh7 rfl <| Ld Zq 6 rfl <| Nl <| bk <| SR <| Ac (Z1r rfl rfl (vt rfl) (vk rfl)) rfl <| As rfl <| Nl <| Cq rfl h (fun h => ?_) (fun h => ?_)
  ·refine sq <| AW.newnil 1001 3 (Z0 .i64) <| Rg <| Ac (Zy rfl rfl vc) rfl <| Nl <| sq <| SR <| Zh lenv_world_1 Zj3 rfl <| Zh Z80 Z8p rfl <| Ld Z8l 6 rfl <| Ac (Z0t rfl rfl Z5w (vt rfl)) rfl <| Mk rfl <| Nl <| bk <| LG (d := []) (ν := Nat × Nat × (List Int) × Value) (fun (m11, i10, l8, v9) => (Cnt ((((⟨x1, x2⟩ : env_world).Group).Buckets).length : Int) i10 m11 ∧ Zaw m11 i10 l8 = some r, m11, [(6, Zo v9), (25, rd (Z0 .i64) ((((⟨x1, x2⟩ : env_world).Group).Buckets).length : Int)), (26, rd (Z0 .i64) (i10 : Int))], [(1001, Zb v9 3 (Z0 .i64) l8)])) ((((((⟨x1, x2⟩ : env_world).Group).Buckets).length : Int) : Int).toNat, 0, [], (.slice none 0 0)) ⟨Cnt.start _, h⟩ (FX rfl) ?_
   rintro ⟨m11, i10, l8, v9⟩ ⟨hsf1, h⟩
   dsimp only at hsf1 h ⊢
   cases m11 with
   | zero =>
    unfold Zaw at h
    refine SR <| Ac (Zi rfl rfl (vt rfl) (vt rfl)) rfl <| Nl <| sq <| Cn rfl (fun hc => absurd (of_decide_eq_true hc) hsf1.zero) (fun hc => ?_)
    refine xt <| SR <| Mw rfl <| Aw rfl <| Nl <| AW.freezes [4, 6, 34] 1001 rfl ⟨rfl, rfl, rfl, trivial⟩ rfl <| rt ?_
    cases h; exact Zf Tryz.results238 rfl (Za rfl)
   | succ m11 =>
    unfold Zaw at h
    refine SR <| Ac (Zi rfl rfl (vt rfl) (vt rfl)) rfl <| Nl <| sq <| Cn rfl (fun hc => ?_) (fun hc => absurd hsf1.succ (of_decide_eq_false hc))
    have hlti10 := of_decide_eq_true hc
    refine sk <| sq <| bk <| SR <| Md rfl <| As rfl <| Nl ?_
    obtain ⟨l12, hl12, h⟩ := Z8 h
    refine Rg <| Mw rfl <| Md rfl <| Ac (osl Z15 zr3 rfl (vt rfl)) rfl <| Cv rfl (Z44 1001 hl12 rfl rfl Zmk (vt rfl) rfl (vt rfl)) fun v13 => Aw rfl <| Nl <| Rg <| Ac (Z0u (t := 25) rfl rfl (vt rfl) (vk rfl) (vt rfl) hlti10) rfl <| Md rfl <| Nl ?_
    exact ⟨(_, _, _, _), Nat.lt_succ_self _, ⟨hsf1.next, h⟩, FX rfl⟩
  ·refine SR <| Ac (Z1r rfl rfl (vt rfl) (vk rfl)) rfl <| As rfl <| Nl <| Cq rfl h (fun h => ?_) (fun h => ?_)
   ·refine sq ?_
    obtain ⟨x14, hx14, h⟩ := Z8 h
    refine Rg <| Zh lenv_world_0 Y5r rfl <| Ld Z4x 6 rfl <| Zh lenv_world_1 Zj3 rfl <| Zh Z80 Z8p rfl <| Ld Z8l 6 rfl <| Ac (Z0t rfl rfl Z5w (vt rfl)) rfl <| Cl [38, 42] (Yii _ _ _ hx14) Yny rfl <| Ac (osl Z15 zr3 rfl (vt rfl)) rfl <| As rfl <| Nl <| rt ?_
    cases h; exact Zf Tryz.results238 rfl (Za rfl)
   ·refine SR <| Ac (Z1r rfl rfl (vt rfl) (vk rfl)) rfl <| As rfl <| Nl <| Cq rfl h (fun h => ?_) (fun h => ?_)
    ·refine SR <| Ac (osl Z15 zr3 rfl (vk rfl)) rfl <| As rfl <| Nl <| rt ?_
     cases h; exact Zf Tryz.results238 rfl (Za rfl)
    ·refine SR <| Ac (Z1r rfl rfl (vt rfl) (vk rfl)) rfl <| As rfl <| Nl <| Cq rfl h (fun h => ?_) (fun h => ?_)
     ·refine sq ?_
      obtain ⟨x15, hx15, h⟩ := Z8 h
      refine Rg <| Ld Y1b 6 rfl <| Cl [50] (Yab _ _ hx15) Yjl rfl <| As rfl <| Nl <| SR <| Md rfl <| Ac (Z3z rfl rfl (vt rfl) (vk rfl)) rfl <| Nl <| Cq rfl h (fun h => ?_) (fun h => ?_)
      ·refine SR <| Md rfl <| Ac (osl Z15 zr3 rfl (vt rfl)) rfl <| As rfl <| Nl <| rt ?_
       cases h; exact Zf Tryz.results238 rfl (Za rfl)
      ·refine sk <| SR <| Ac (Zy (A := rd (Z1 (Z0 .i64)) []) rfl rfl Z1i) rfl <| Nl <| rt ?_
       cases h; exact Zf Tryz.results238 rfl (Za rfl)
     ·refine sk <| SR <| Ac (Zy (A := rd (Z1 (Z0 .i64)) []) rfl rfl Z1i) rfl <| Nl <| rt ?_
      cases h; exact Zf Tryz.results238 rfl (Za rfl)
def Z96 (R_norm_world_group : (norm_world → Int → Zl → Option (List Atom))) (w1 : norm_world) : (List Atom) → Nat → (List Atom) → Option (List Atom)
 | [], i8, l6 => some l6
 | x10 :: l9, i8, l6 => (bif x10.Group then (R_norm_world_group w1 x10.Port x10.Rewrite).bind fun x12 => (Z18 l6 x12).bind fun l13 => (Z96 R_norm_world_group w1 l9) (i8 + 1) l13 else (Ze9 x10.Rewrite).bind fun x15 => (Z18 l6 [{ x10 with Rewrite := x15 }]).bind fun l16 => (Z96 R_norm_world_group w1 l9) (i8 + 1) l16)
def Zd8 (R_norm_world_list : (norm_world → (List Atom) → Option (List Atom))) (R_norm_world_group : (norm_world → Int → Zl → Option (List Atom))) (w1 : norm_world) (a2 : (List Atom)) : Option (List Atom) :=
 Z96 R_norm_world_group w1 a2 0 []
theorem Yc5 (R_norm_world_list : (norm_world → (List Atom) → Option (List Atom))) (hR_norm_world_list : ∀ (w1 : norm_world) (a2 : (List Atom)) (r : (List Atom)), R_norm_world_list w1 a2 = some r → PCon Tryz.prog 255 [rd Z4e w1, rd (Z1 Z0c) a2] (rd (Z1 Z0c) r)) (R_norm_world_group : (norm_world → Int → Zl → Option (List Atom))) (hR_norm_world_group : ∀ (w1 : norm_world) (i2 : Int) (x3 : Zl) (r : (List Atom)), R_norm_world_group w1 i2 x3 = some r → PCon Tryz.prog 300 [rd Z4e w1, rd (Z0 .i64) i2, rd (Z3 24 Z4) x3] (rd (Z1 Z0c) r)) (w1 : norm_world) (a2 : (List Atom)) (r : (List Atom)) (h : Zd8 R_norm_world_list R_norm_world_group w1 a2 = some r) : PCon Tryz.prog 255 [rd Z4e w1, rd (Z1 Z0c) a2] (rd (Z1 Z0c) r) := by
 refine PCon.of (Con.intro0 Tryz.func255 rfl Tryz.ntmps255 rfl fun w H => ?_)
 unfold Zd8 at h
 refine SR <| Cv rfl (Zn 3 rfl rfl (vt rfl)) fun g3 => Ac (Zy (A := rd (Z1 Z0c) []) rfl rfl Z1i) rfl <| Nl <| sq <| AW.newnil 1001 126 Z0c <| Rg <| Ac (Zy rfl rfl vc) rfl <| Nl <| sq <| SR <| Md rfl <| Ac (Z0t rfl rfl Z7o (vt rfl)) rfl <| Mk rfl <| Nl <| bk <| LG (d := []) (ν := (List Atom) × Nat × (List Atom) × Value) (fun (l9, i8, l6, v7) => (Sfx a2 i8 l9 ∧ Z96 R_norm_world_group w1 l9 i8 l6 = some r, l9.length, [(2, Z7 g3 (Lens.id Z4e)), (5, Zo v7), (8, rd (Z1 Z0c) a2), (9, rd (Z0 .i64) (a2.length : Int)), (10, rd (Z0 .i64) (i8 : Int))], [(3, Zc g3 307 Z4e w1), (1001, Zb v7 126 Z0c l6)])) (a2, 0, [], (.slice none 0 0)) ⟨Sfx.start _, h⟩ (FX rfl) ?_
 rintro ⟨l9, i8, l6, v7⟩ ⟨hsf1, h⟩
 dsimp only at hsf1 h ⊢
 cases l9 with
 | nil =>
  unfold Z96 at h
  refine SR <| Ac (Zi rfl rfl (vt rfl) (vt rfl)) rfl <| Nl <| sq <| Cn rfl (fun hc => absurd (of_decide_eq_true hc) hsf1.nil) (fun hc => ?_)
  refine xt <| SR <| Mw rfl <| Aw rfl <| Nl <| AW.freezes [4, 5, 33] 1001 rfl ⟨rfl, rfl, rfl, trivial⟩ rfl <| rt ?_
  cases h; exact Zf Tryz.results255 rfl (Za rfl)
 | cons x10 l9 =>
  unfold Z96 at h
  refine SR <| Ac (Zi rfl rfl (vt rfl) (vt rfl)) rfl <| Nl <| sq <| Cn rfl (fun hc => ?_) (fun hc => absurd hsf1.cons (of_decide_eq_false hc))
  have hlti8 := of_decide_eq_true hc
  refine sk <| sq <| bk <| SR <| Ac (Z0k rfl rfl Z7o (vt rfl) (vt rfl) hsf1.lget) rfl <| Lp1 Zds rfl <| Cv rfl (Zs 8 rfl rfl Zde) fun g11 => Zj Zds 8 rfl <| Nl <| sq <| SR <| Zh Zt2 Y4d rfl <| Ld ty4 8 rfl <| Nl <| Cq rfl h (fun h => ?_) (fun h => ?_)
  ·refine sq ?_
   obtain ⟨x12, hx12, l13, hl13, h⟩ := bs2 h
   refine Rg <| Mw rfl <| Ld Zxr 3 rfl <| Zh Zh3 Zit rfl <| Ld Zq 8 rfl <| Zh lAtom_0 Zog rfl <| Ld Z0f 8 rfl <| Cl [17, 19, 21] (hR_norm_world_group _ _ _ _ hx12) Yj4 rfl <| Cv rfl (Z44 1001 hl13 rfl rfl Zfb (vt rfl) rfl (vt rfl)) fun v14 => Aw rfl <| Nl <| xt <| Rg <| Ac (Z0u (t := 9) rfl rfl (vt rfl) (vk rfl) (vt rfl) hlti8) rfl <| Md rfl <| Nl ?_
   exact ⟨(_, _, _, _), Nat.lt_succ_self _, ⟨hsf1.next, h⟩, FX rfl⟩
  ·refine sk <| sq ?_
   obtain ⟨x15, hx15, h⟩ := Z8 h
   refine Rg <| Zh lAtom_0 Zog rfl <| Ld Z0f 8 rfl <| Cl [25] (Zta _ _ hx15) Ztd rfl <| Zh lAtom_0 Zog rfl <| Zj Z0f 8 rfl <| Nl ?_
   obtain ⟨l16, hl16, h⟩ := Z8 h
   refine Rg <| Mw rfl <| Ld Zds 8 rfl <| Ac (osl Z7o Zde rfl (vt rfl)) rfl <| Cv rfl (Z44 1001 hl16 rfl rfl Zfb (vt rfl) rfl (vt rfl)) fun v17 => Aw rfl <| Nl <| Rg <| Ac (Z0u (t := 9) rfl rfl (vt rfl) (vk rfl) (vt rfl) hlti8) rfl <| Md rfl <| Nl ?_
   exact ⟨(_, _, _, _), Nat.lt_succ_self _, ⟨hsf1.next, h⟩, FX rfl⟩
def Zad (x6 : (Group × Bool)) (x3 : Zl) (R_norm_world_list : (norm_world → (List Atom) → Option (List Atom))) (w1 : norm_world) : (List Int) → Nat → (List Atom) → Option (List Atom)
 | [], i13, l11 => some l11
 | x15 :: l14, i13, l11 => (lget x6.1.Buckets x15).bind fun x16 => (Zby [] x16.Acts).bind fun x17 => (Z7d x17).bind fun x18 => (Zhc x18 x3).bind fun x19 => (R_norm_world_list { w1 with depth := (IntKind.i64.wrap (w1.depth + 1)) } x19.1).bind fun x21 => (Z18 l11 x21).bind fun l22 => (Zad x6 x3 R_norm_world_list w1 l14) (i13 + 1) l22
def Zee (R_norm_world_list : (norm_world → (List Atom) → Option (List Atom))) (R_norm_world_group : (norm_world → Int → Zl → Option (List Atom))) (w1 : norm_world) (i2 : Int) (x3 : Zl) : Option (List Atom) :=
 (Zcf w1.groups i2).bind fun x6 => (bif ((!x6.2) || (decide (w1.depth ≥ 8))) then some [] else (Zfs ({ w1 with depth := (IntKind.i64.wrap (w1.depth + 1)) }.Env) x6.1).bind fun x8 => Zad x6 x3 R_norm_world_list w1 x8 0 [])
theorem Y9o (R_norm_world_list : (norm_world → (List Atom) → Option (List Atom))) (hR_norm_world_list : ∀ (w1 : norm_world) (a2 : (List Atom)) (r : (List Atom)), R_norm_world_list w1 a2 = some r → PCon Tryz.prog 255 [rd Z4e w1, rd (Z1 Z0c) a2] (rd (Z1 Z0c) r)) (R_norm_world_group : (norm_world → Int → Zl → Option (List Atom))) (hR_norm_world_group : ∀ (w1 : norm_world) (i2 : Int) (x3 : Zl) (r : (List Atom)), R_norm_world_group w1 i2 x3 = some r → PCon Tryz.prog 300 [rd Z4e w1, rd (Z0 .i64) i2, rd (Z3 24 Z4) x3] (rd (Z1 Z0c) r)) (w1 : norm_world) (i2 : Int) (x3 : Zl) (r : (List Atom)) (h : Zee R_norm_world_list R_norm_world_group w1 i2 x3 = some r) : PCon Tryz.prog 300 [rd Z4e w1, rd (Z0 .i64) i2, rd (Z3 24 Z4) x3] (rd (Z1 Z0c) r) := by
 refine PCon.of (Con.intro0 Tryz.func300 rfl Tryz.ntmps300 rfl fun w H => ?_)
 unfold Zee at h
 refine SR <| Cv rfl (Zn 4 rfl rfl (vt rfl)) fun g4 => Cv rfl (Zn 6 rfl rfl (vt rfl)) fun g5 => Ac (Zy (A := rd (Z1 Z0c) []) rfl rfl Z1i) rfl <| Nl <| sq ?_
 obtain ⟨x6, hx6, h⟩ := Z8 h
 refine Rg <| Zh lnorm_world_1 Yg5 rfl <| Ld Zes 4 rfl <| Md rfl <| Cl [16, 17] (Zr1 _ _ _ hx6) Zq2 rfl <| Mt2 rfl <| Ac (Z1n rfl rfl (vt rfl)) rfl <| Ac (Z1l rfl rfl (vt rfl)) rfl <| Cv rfl (Zs 8 rfl rfl Zbq) fun g7 => Zj Z5h 8 rfl <| As rfl <| Nl <| sq <| SR <| Md rfl <| Ac (Z0z rfl rfl (vt rfl)) rfl <| Md rfl <| Gd rfl (fun hq => Z2t Zmq rfl rfl Zte (vt rfl)) <| Gd rfl (fun hq => Z29 rfl rfl Zq (Zg rfl hq) (i := 4) rfl) <| Gd rfl (fun hq => Z3z rfl rfl (Zg rfl hq) (vk rfl)) <| Ac (Z4o rfl rfl (vt rfl) (vt rfl)) rfl <| Nl <| Cq rfl h (fun h => ?_) (fun h => ?_)
 ·refine SR <| Ac (Zy (A := rd (Z1 Z0c) []) rfl rfl Z1i) rfl <| Nl <| rt ?_
  cases h; exact Zf Tryz.results300 rfl (Za rfl)
 ·refine sk <| SR <| Zh Zmq Zte rfl <| Ld Zq 4 rfl <| Ac (Z0o rfl rfl (vt rfl) (vk rfl)) rfl <| Zh Zmq Zte rfl <| Zj Zq 4 rfl <| Nl <| sq <| AW.newnil 1001 126 Z0c <| Rg <| Ac (Zy rfl rfl vc) rfl <| Nl <| sq <| sq ?_
  obtain ⟨x8, hx8, h⟩ := Z8 h
  refine Rg <| Zh lnorm_world_0 Ycf rfl <| Ld Z4x 4 rfl <| Ld Z5h 8 rfl <| Cl [33, 34] (Zwo _ _ _ hx8) Y3m rfl <| Ac (Z0t rfl rfl Z15 (vt rfl)) rfl <| Mk rfl <| Nl <| bk <| LG (d := []) (ν := (List Int) × Nat × (List Atom) × Value) (fun (l14, i13, l11, v12) => (Sfx x8 i13 l14 ∧ Zad x6 x3 R_norm_world_list w1 l14 i13 l11 = some r, l14.length, [(3, Z7 g4 (Lens.id Z4e)), (5, Z7 g5 (Lens.id (Z3 24 Z4))), (7, Z7 g7 (Lens.id Zz)), (9, Zo v12), (35, rd (Z1 (Z0 .i64)) x8), (36, rd (Z0 .i64) (x8.length : Int)), (37, rd (Z0 .i64) (i13 : Int))], [(4, Zc g4 307 Z4e { w1 with depth := (IntKind.i64.wrap (w1.depth + 1)) }), (6, Zc g5 101 (Z3 24 Z4) x3), (8, Zc g7 164 Zz x6.1), (1001, Zb v12 126 Z0c l11)])) (x8, 0, [], (.slice none 0 0)) ⟨Sfx.start _, h⟩ (FX rfl) ?_
  rintro ⟨l14, i13, l11, v12⟩ ⟨hsf1, h⟩
  dsimp only at hsf1 h ⊢
  cases l14 with
  | nil =>
   unfold Zad at h
   refine SR <| Ac (Zi rfl rfl (vt rfl) (vt rfl)) rfl <| Nl <| sq <| Cn rfl (fun hc => absurd (of_decide_eq_true hc) hsf1.nil) (fun hc => ?_)
   refine xt <| SR <| Mw rfl <| Aw rfl <| Nl <| AW.freezes [6, 9, 60] 1001 rfl ⟨rfl, rfl, rfl, trivial⟩ rfl <| rt ?_
   cases h; exact Zf Tryz.results300 rfl (Za rfl)
  | cons x15 l14 =>
   unfold Zad at h
   refine SR <| Ac (Zi rfl rfl (vt rfl) (vt rfl)) rfl <| Nl <| sq <| Cn rfl (fun hc => ?_) (fun hc => absurd hsf1.cons (of_decide_eq_false hc))
   have hlti13 := of_decide_eq_true hc
   refine sk <| sq <| bk <| SR <| Ac (Z0k rfl rfl Z15 (vt rfl) (vt rfl) hsf1.lget) rfl <| Lp1 Zq rfl <| As rfl <| Nl <| sq ?_
   obtain ⟨x16, hx16, x17, hx17, x18, hx18, x19, hx19, h⟩ := bs4 h
   refine AR Zw (by kernel_rfl) <| Zv Z80 Z8p rfl <| Zm Z8l 8 rfl <| SMd rfl <| Sd (lo [43, 44] [] rfl fun S hs hr => Z0k rfl rfl Z5w (vh hs 43 rfl rfl) (vh hs 44 rfl rfl) hx16) <| SFp Zd2 Zhs rfl <| SLp Z3d rfl <| Sd (lo [47] [] rfl fun S hs hr => Z14 (xs := [.const (Value.slice none 0 0), .tmp 47]) (Zon _ _ _ hx17) Zpl rfl rfl ⟨Z1i, vt ((hs 47 rfl).trans rfl), trivial⟩) <| SCl [48] (Zm6 _ _ hx18) Zov rfl <| Zm Z0f 6 rfl <| SCl [49, 50] (Y0k _ _ _ hx19) Y3w rfl <| Sd (lo [51] [] rfl fun S hs hr => Zp (A := Z1b (rd (Z1 Z0c) x19.1) (rd (Z3 24 Z4) x19.2)) rfl rfl (vh hs 51 rfl rfl)) <| Sd (lo [41] [] rfl fun S hs hr => Z1n rfl rfl (vh hs 41 rfl rfl)) <| Sd (lo [41] [] rfl fun S hs hr => Z1l rfl rfl (vh hs 41 rfl rfl)) <| Sd (Z1q (us := [(13, Z46 101 (Z3 24 Z4) (Vector.replicate 24 zTern))]) (ur := []) [] [] rfl fun S hs hr => Zdb rfl rfl rfl Z75) <| SAs rfl <| Sd (Z1q (us := [(13, Z46 101 (Z3 24 Z4) x19.2)]) (ur := []) [13, 53] [] rfl fun S hs hr => Zey rfl rfl Z0f ((hs 13 rfl).trans rfl) (vh hs 53 rfl rfl)) <| Sn <| AW.unpackP 13 14 rfl rfl fun g20 => ?_
   obtain ⟨x21, hx21, l22, hl22, h⟩ := bs2 h
   refine Rg <| Mw rfl <| Ld Zxr 4 rfl <| Md rfl <| Cl [55, 56] (hR_norm_world_list _ _ _ hx21) Y06 rfl <| Cv rfl (Z44 1001 hl22 rfl rfl Zfb (vt rfl) rfl (vt rfl)) fun v23 => Aw rfl <| Nl <| Rg <| Ac (Z0u (t := 36) rfl rfl (vt rfl) (vk rfl) (vt rfl) hlti13) rfl <| Md rfl <| Nl ?_
   exact ⟨(_, _, _, _), Nat.lt_succ_self _, ⟨hsf1.next, h⟩, FX rfl⟩
def Z2w : Nat → (norm_world → (List Atom) → Option (List Atom)) × (norm_world → Int → Zl → Option (List Atom))
 | 0 => ((fun _ _ => none), (fun _ _ _ => none))
 | n + 1 => ((Zd8 (Z2w n).1 (Z2w n).2), (Zee (Z2w n).1 (Z2w n).2))
theorem Zzx : ∀ n : Nat, (∀ (w1 : norm_world) (a2 : (List Atom)) (r : (List Atom)), (Z2w n).1 w1 a2 = some r → PCon Tryz.prog 255 [rd Z4e w1, rd (Z1 Z0c) a2] (rd (Z1 Z0c) r)) ∧ (∀ (w1 : norm_world) (i2 : Int) (x3 : Zl) (r : (List Atom)), (Z2w n).2 w1 i2 x3 = some r → PCon Tryz.prog 300 [rd Z4e w1, rd (Z0 .i64) i2, rd (Z3 24 Z4) x3] (rd (Z1 Z0c) r))
 | 0 => ⟨(by intros; rename_i h; cases h), (by intros; rename_i h; cases h)⟩
 | n + 1 => by
  have ih := Zzx n
  exact ⟨(Yc5 (Z2w n).1 ih.1 (Z2w n).2 ih.2), (Y9o (Z2w n).1 ih.1 (Z2w n).2 ih.2)⟩
def Zqh (w1 : norm_world) (a2 : (List Atom)) : Option (List Atom) := (Z2w Z0l).1 w1 a2
theorem Y73 : ∀ (w1 : norm_world) (a2 : (List Atom)) (r : (List Atom)), Zqh w1 a2 = some r → PCon Tryz.prog 255 [rd Z4e w1, rd (Z1 Z0c) a2] (rd (Z1 Z0c) r) := (Zzx Z0l).1
def Zg0 (l1 : (List Group)) (x2 : Env) (a3 : (List Atom)) : Option (List Atom) :=
 (Zqh (⟨x2, l1, 0⟩ : norm_world) a3).bind fun x5 => some x5
theorem Ybt : Q3 Tryz.prog 195 (rd (Z1 Zz)) (rd Z0q) (rd (Z1 Z0c)) (rd (Z1 Z0c)) Zg0 := fun l1 x2 a3 r h => I0 Tryz.func195 rfl Tryz.ntmps195 rfl fun w H => by
 unfold Zg0 at h
 refine SR <| Cv rfl (Zn 5 rfl rfl (vt rfl)) fun g4 => Ac (Zy (A := rd (Z1 Z0c) []) rfl rfl Z1i) rfl <| Nl <| sq ?_
 obtain ⟨x5, hx5, h⟩ := Z8 h
 refine Rg <| Ld Z4x 5 rfl <| Md rfl <| Ac (opb (⟨x2, l1, 0⟩ : norm_world) Ye0 rfl Ynt (pc Yip (vt rfl) <| pc Yih (vt rfl) <| pn rfl)) rfl <| Md rfl <| Cl [9, 10] (Y73 _ _ _ hx5) Y06 rfl <| As rfl <| Nl <| rt ?_
 cases h; exact Zf Tryz.results195 rfl (Za rfl)
def Zku (b1 : spread_beam) (x2 : Zl) : Option spread_beam :=
 (Zfm b1.got x2).bind fun x6 => some (⟨b1.cube, x6⟩ : spread_beam)
theorem Ybk : Q2 Tryz.prog 253 (rd Z2q) (rd (Z3 24 Z4)) (rd Z2q) Zku := fun b1 x2 r h => I0 Tryz.func253 rfl Tryz.ntmps253 rfl fun w H => by
 unfold Zku at h
 refine SR <| Cv rfl (Zn 3 rfl rfl (vt rfl)) fun g3 => Cv rfl (Zn 4 rfl rfl (vt rfl)) fun g4 => Cv rfl (Zs 5 rfl rfl Zdw) fun g5 => Nl <| sq ?_
 obtain ⟨x6, hx6, h⟩ := Z8 h
 refine AR Zw (by kernel_rfl) <| Zv lspread_beam_0 Zlh rfl <| Zm Z00 3 rfl <| Zv lspread_beam_1 Zhm rfl <| Zm Z0f 3 rfl <| Zm Z0f 4 rfl <| SCl [8, 9] (Y2g _ _ _ hx6) Y3o rfl <| Sd (lo [6, 10] [] rfl fun S hs hr => opb (⟨b1.cube, x6⟩ : spread_beam) Zdw rfl Zqy (pc Y0g (vh hs 6 rfl rfl) <| pc Zwc (vh hs 10 rfl rfl) <| pn rfl)) <| SSt Z6r 5 rfl <| Sn <| rt ?_
 cases h; exact Zf Tryz.results253 rfl (Z01 rfl (i := 5) rfl Z6r)
def Zpd (n1 : Net) (a2 : Int) : Option Bool :=
 some ((decide (a2 ≥ 0)) && (decide (a2 < (n1.Switches.length : Int))))
theorem Y8g : Q2 Tryz.prog 131 (rd Z26) (rd (Z0 .i64)) (rd Z5) Zpd := fun n1 a2 r h => I0 Tryz.func131 rfl Tryz.ntmps131 rfl fun w H => by
 unfold Zpd at h
 refine SR <| Cv rfl (Zn 3 rfl rfl (vt rfl)) fun g3 => Ab rfl <| Nl <| SR <| Md rfl <| Ac (Z3z rfl rfl (vt rfl) (vk rfl)) rfl <| Md rfl <| Gd rfl (fun hq => Zp (A := rd (Z0 .i64) a2) rfl rfl (vt rfl)) <| Gd rfl (fun hq => Z2t lNet_0 rfl rfl Zcz (vt rfl)) <| Gd rfl (fun hq => Z29 rfl rfl Zcr (Zg rfl hq) (i := 3) rfl) <| Gd rfl (fun hq => Z0t rfl rfl Z87 (Zg rfl hq)) <| Gd rfl (fun hq => Zi rfl rfl (Zg rfl hq) (Zg rfl hq)) <| Ac (Z21 rfl rfl (vt rfl) (vt rfl)) rfl <| As rfl <| Nl <| rt ?_
 cases h; exact Zf Tryz.results131 rfl (Za rfl)
def Zfr (l1 : Link) (x2 : Int) (x3 : Int) (x4 : Net) : Option Bool :=
 (opt ((decide (l1.From = x2)) && (decide (l1.Out = x3))) (Zpd x4 l1.To)).bind fun x6 => some (((decide (l1.From = x2)) && (decide (l1.Out = x3))) && x6)
theorem Yi5 : Q4 Tryz.prog 130 (rd Z35) (rp (Z0 .i64)) (rp (Z0 .i64)) (rp Z26) (rd Z5) Zfr := fun l1 x2 x3 x4 r h => I0 Tryz.func130 rfl Tryz.ntmps130 rfl fun w H => by
 unfold Zfr at h
 refine SR <| Cv rfl (Zn 5 rfl rfl (vt rfl)) fun g5 => Ab rfl <| Nl <| sq ?_
 obtain ⟨x6, hx6, h⟩ := Z8 h
 refine Rg <| Zh lLink_0 Yj1 rfl <| Ld Zq 5 rfl <| Lp1 Zq rfl <| Ac (Z1r rfl rfl (vt rfl) (vt rfl)) rfl <| Md rfl <| Gd rfl (fun hq => Z2t lLink_1 rfl rfl Y8c (vt rfl)) <| Gd rfl (fun hq => Z29 rfl rfl Zq (Zg rfl hq) (i := 5) rfl) <| Gd rfl (fun hq => Z68 rfl rfl Zq (vt rfl)) <| Gd rfl (fun hq => Z1r rfl rfl (Zg rfl hq) (Zg rfl hq)) <| Ac (Z21 rfl rfl (vt rfl) (vt rfl)) rfl <| Md rfl <| Gd rfl (fun hq => Z68 rfl rfl Z6q (vt rfl)) <| Gd rfl (fun hq => Z2t lLink_2 rfl rfl Zv4 (vt rfl)) <| Gd rfl (fun hq => Z29 rfl rfl Zq (Zg rfl hq) (i := 5) rfl) <| Gd rfl (fun hq => Z14 (xs := [.tmp 17, .tmp 19]) (Y8g _ _ _ (Z3t hx6 hq)) Yda rfl rfl ⟨Zg rfl hq, Zg rfl hq, trivial⟩) <| Ac (Z21 rfl rfl (vt rfl) (vt rfl)) rfl <| As rfl <| Nl <| rt ?_
 cases h; exact Zf Tryz.results130 rfl (Za rfl)
def Zeb (s1 : (List Link)) (x2 : (Link → Option Bool)) : Nat → Nat → Option Int
 | 0, i3 => some (-1)
 | m4 + 1, i3 => (lget s1 (i3 : Int)).bind fun x5 => (x2 x5).bind fun x6 => (bif x6 then some (i3 : Int) else (Zeb s1 x2 m4) (i3 + 1))
def Zkd (s1 : (List Link)) (x2 : (Link → Option Bool)) : Option Int :=
 Zeb s1 x2 ((s1.length : Int) : Int).toNat 0
theorem Y9e : Q2 Tryz.prog 129 (rd (Z1 Z35)) (fn1 Tryz.prog Z35 Z5) (rd (Z0 .i64)) Zkd := fun s1 x2 r h => I0 Tryz.func129 rfl Tryz.ntmps129 rfl fun w H => by
 unfold Zkd at h
 refine SR <| Ak rfl <| Nl <| sq <| SR <| Md rfl <| Ac (Z0t rfl rfl Zg5 (vt rfl)) rfl <| Mk rfl <| Nl <| bk <| LG (d := []) (ν := Nat × Nat) (fun (m4, i3) => (Cnt (s1.length : Int) i3 m4 ∧ Zeb s1 x2 m4 i3 = some r, m4, [(0, rd (Z1 Z35) s1), (1, fn1 Tryz.prog Z35 Z5 x2), (7, rd (Z0 .i64) (s1.length : Int)), (8, rd (Z0 .i64) (i3 : Int))], [])) (((s1.length : Int) : Int).toNat, 0) ⟨Cnt.start _, h⟩ (FX rfl) ?_
 rintro ⟨m4, i3⟩ ⟨hsf1, h⟩
 dsimp only at hsf1 h ⊢
 cases m4 with
 | zero =>
  unfold Zeb at h
  refine SR <| Ac (Zi rfl rfl (vt rfl) (vt rfl)) rfl <| Nl <| sq <| Cn rfl (fun hc => absurd (of_decide_eq_true hc) hsf1.zero) (fun hc => ?_)
  refine xt <| SR <| Ak rfl <| Nl <| rt ?_
  cases h; exact Zf Tryz.results129 rfl (Za rfl)
 | succ m4 =>
  unfold Zeb at h
  refine SR <| Ac (Zi rfl rfl (vt rfl) (vt rfl)) rfl <| Nl <| sq <| Cn rfl (fun hc => ?_) (fun hc => absurd hsf1.succ (of_decide_eq_false hc))
  have hlti3 := of_decide_eq_true hc
  refine sk <| sq <| bk <| SR <| Md rfl <| As rfl <| Nl <| sq ?_
  obtain ⟨x5, hx5, x6, hx6, h⟩ := bs2 h
  refine Rg <| Ac (Zp (A := fn1 Tryz.prog Z35 Z5 x2) rfl rfl (vt rfl)) rfl <| Md rfl <| Md rfl <| Ac (Z0k rfl rfl Zg5 (vt rfl) (vt rfl) hx5) rfl <| Lp1 Ylr rfl <| Ac (Z88 hx6 rfl rfl (vt rfl) (vt rfl)) rfl <| Nl <| Cq rfl h (fun h => ?_) (fun h => ?_)
  ·refine SR <| Md rfl <| As rfl <| Nl <| rt ?_
   cases h; exact Zf Tryz.results129 rfl (Za rfl)
  ·refine sk <| Rg <| Ac (Z0u (t := 7) rfl rfl (vt rfl) (vk rfl) (vt rfl) hlti3) rfl <| Md rfl <| Nl ?_
   exact ⟨(_, _), Nat.lt_succ_self _, ⟨hsf1.next, h⟩, FX rfl⟩
def Zh6 (n1 : Net) (a2 : Int) (p3 : Int) : Option (Int × Int × Bool) :=
 (Zkd n1.Links (fun x => Zfr x a2 p3 n1)).bind fun x7 => (bif (decide (x7 < 0)) then some (0, 0, false) else (lget n1.Links x7).bind fun x8 => (lget n1.Links x7).bind fun x9 => some (x8.To, x9.In, true))
theorem Zyj : Q3 Tryz.prog 72 (rd Z26) (rd (Z0 .i64)) (rd (Z0 .i64)) (fun r => Z3n (rd (Z0 .i64) r.1) (rd (Z0 .i64) r.2.1) (rd Z5 r.2.2)) Zh6 := fun n1 a2 p3 r h => I0 Tryz.func72 rfl Tryz.ntmps72 rfl fun w H => by
 unfold Zh6 at h
 refine SR <| Cv rfl (Zn 4 rfl rfl (vt rfl)) fun g4 => Cv rfl (Zn 5 rfl rfl (vt rfl)) fun g5 => Cv rfl (Zn 6 rfl rfl (vt rfl)) fun g6 => Ak rfl <| Ak rfl <| Ab rfl <| Nl <| sq <| AW.freezeB 4 5 rfl rfl rfl <| AW.freezeB 5 6 rfl rfl rfl <| AW.freezeB 3 4 rfl rfl rfl ?_
 obtain ⟨x7, hx7, h⟩ := Z8 h
 refine Rg <| Fp lNet_1 Zox rfl <| Lp1 Zny rfl <| Ac (Z7n (cs := [.tmp 4, .tmp 5, .tmp 3]) (CAs := [rp (Z0 .i64) a2, rp (Z0 .i64) p3, rp Z26 n1]) (fun x => Zfr x a2 p3 n1) rfl rfl Yno ⟨vt rfl, vt rfl, vt rfl, trivial⟩ (fun x y h => Yi5 _ _ _ _ y h)) rfl <| Cl [11, 12] (Y9e _ _ _ hx7) Yf1 rfl <| As rfl <| Nl <| sq <| SR <| Md rfl <| Ac (Zi rfl rfl (vt rfl) (vk rfl)) rfl <| Nl <| Cq rfl h (fun h => ?_) (fun h => ?_)
 ·refine SR <| Ak rfl <| Ak rfl <| Ab rfl <| Nl <| rt ?_
  cases h; exact Zfe Tryz.results72 rfl (Za rfl) (Za rfl) (Za rfl)
 ·refine sk <| sq ?_
  obtain ⟨x8, hx8, x9, hx9, h⟩ := bs2 h
  refine AR Zw (by kernel_rfl) <| SFp lNet_1 Zox rfl <| SLp Zny rfl <| SMd rfl <| Sd (lo [17, 18] [] rfl fun S hs hr => Z0k rfl rfl Zg5 (vh hs 17 rfl rfl) (vh hs 18 rfl rfl) hx8) <| SFp lLink_2 Zv4 rfl <| SLp Zq rfl <| SFp lNet_1 Zox rfl <| SLp Zny rfl <| SMd rfl <| Sd (lo [23, 24] [] rfl fun S hs hr => Z0k rfl rfl Zg5 (vh hs 23 rfl rfl) (vh hs 24 rfl rfl) hx9) <| SFp lLink_3 Ycp rfl <| SLp Zq rfl <| SAs rfl <| SAs rfl <| Sd (lo [] [] rfl fun S hs hr => Zy (A := rd Z5 true) rfl rfl vb) <| Sn <| rt ?_
  cases h; exact Zfe Tryz.results72 rfl (Za rfl) (Za rfl) (Za rfl)
end Go.Proofs.YtknpgojdkobgjaaGreat.W
set_option maxRecDepth 4000
namespace Go.Proofs.YtknpgojdkobgjaaGreat.W
open Go Go.Wb
theorem Ylk : Ent Tryz.prog 193 := Ent.mk Tryz.func193 rfl rfl
theorem Y8y : Ent Tryz.prog 195 := Ent.mk Tryz.func195 rfl rfl
theorem Ycg : Ent Tryz.prog 194 := Ent.mk Tryz.func194 rfl rfl
theorem Yje : Ent Tryz.prog 253 := Ent.mk Tryz.func253 rfl rfl
theorem e72 : Ent Tryz.prog 72 := Ent.mk Tryz.func72 rfl rfl
theorem Zxv : Ent Tryz.prog 125 := Ent.mk Tryz.func125 rfl rfl
theorem Yfo : Ent Tryz.prog 124 := Ent.mk Tryz.func124 rfl rfl
theorem Y5u : Ent Tryz.prog 120 := Ent.mk Tryz.func120 rfl rfl
theorem e68 : Ent Tryz.prog 68 := Ent.mk Tryz.func68 rfl rfl
theorem e64 : Ent Tryz.prog 64 := Ent.mk Tryz.func64 rfl rfl
theorem e62 : Ent Tryz.prog 62 := Ent.mk Tryz.func62 rfl rfl
theorem e66 : Ent Tryz.prog 66 := Ent.mk Tryz.func66 rfl rfl
theorem Yfd : Ent Tryz.prog 190 := Ent.mk Tryz.func190 rfl rfl
theorem Y95 : Ent Tryz.prog 198 := Ent.mk Tryz.func198 rfl rfl
def Zbw (go1 : Nat → (List Ray) → Net → Env → (List spread_table) → Int → Option Z0e) (i24 : Nat) (b5 : spread_beam) (x10 : spread_table) (R_spread_sun_out : (Z0e → Int → spread_beam → (List Atom) → Int → Option Z0e)) (a4 : Int) (x6 : Int) : (List Zl) → Nat → (List Ray) → Net → Env → (List spread_table) → Int → Option Z0e
 | [], i39, l33, b35, b36, b37, b38 => go1 (i24 + 1) l33 b35 b36 b37 b38
 | x41 :: l40, i39, l33, b35, b36, b37, b38 => (bif (decide ((l33.length : Int) > b38)) then some (⟨b35, b36, b37, b38, l33⟩ : Z0e) else (Zfp b5 x41).bind fun x43 => (bif (!x43.2) then (Zbw go1 i24 b5 x10 R_spread_sun_out a4 x6 l40) (i39 + 1) l33 b35 b36 b37 b38 else (lget x10.Flat.Rules (i24 : Int)).bind fun x45 => (Zg0 x10.Flat.Groups b36 x45.Atoms).bind fun x46 => (R_spread_sun_out (⟨b35, b36, b37, b38, l33⟩ : Z0e) a4 x43.1 x46 x6).bind fun b47 => (Zbw go1 i24 b5 x10 R_spread_sun_out a4 x6 l40) (i39 + 1) b47.rays b47.Net b47.env b47.tables b47.most))
def Za2 (b5 : spread_beam) (x10 : spread_table) (R_spread_sun_out : (Z0e → Int → spread_beam → (List Atom) → Int → Option Z0e)) (a4 : Int) (x6 : Int) : (List (List Zl)) → Nat → (List Ray) → Net → Env → (List spread_table) → Int → Option Z0e
 | [], i24, l18, b20, b21, b22, b23 => some (⟨b20, b21, b22, b23, l18⟩ : Z0e)
 | x26 :: l25, i24, l18, b20, b21, b22, b23 => Zbw (Za2 b5 x10 R_spread_sun_out a4 x6 l25) i24 b5 x10 R_spread_sun_out a4 x6 x26 0 l18 b20 b21 b22 b23
def Zln (R_spread_sun_on : (Z0e → Int → spread_beam → Int → Option Z0e)) (R_spread_sun_out : (Z0e → Int → spread_beam → (List Atom) → Int → Option Z0e)) (s1 : Z0e) (a4 : Int) (b5 : spread_beam) (x6 : Int) : Option Z0e :=
 (bif (decide (x6 = 0)) then (Z18 s1.rays [(⟨a4, 0, 0, false, b5.cube, b5.got⟩ : Ray)]).bind fun l8 => some (⟨s1.Net, s1.env, s1.tables, s1.most, l8⟩ : Z0e) else (lget s1.tables a4).bind fun x10 => Za2 b5 x10 R_spread_sun_out a4 x6 x10.cubes 0 s1.rays s1.Net s1.env s1.tables s1.most)
theorem Y65 (R_spread_sun_on : (Z0e → Int → spread_beam → Int → Option Z0e)) (hR_spread_sun_on : ∀ (g2 gT : Nat) (s1 : Z0e) (a4 : Int) (b5 : spread_beam) (x6 : Int) (r : Z0e), R_spread_sun_on s1 a4 b5 x6 = some r → Con Tryz.prog 125 [Z7 g2 (Lens.id Z19), rd (Z0 .i64) a4, rd Z2q b5, rd (Z0 .i64) x6] (Zx g2 gT Z19 (fun v => (⟨s1.Net, s1.env, s1.tables, s1.most, v⟩ : spread_sun_o4)) 103 Z0y s1.rays) (fun _ : Unit => top) (fun _ => Zx g2 gT Z19 (fun v => (⟨r.Net, r.env, r.tables, r.most, v⟩ : spread_sun_o4)) 103 Z0y r.rays)) (R_spread_sun_out : (Z0e → Int → spread_beam → (List Atom) → Int → Option Z0e)) (hR_spread_sun_out : ∀ (g2 gT : Nat) (s1 : Z0e) (a4 : Int) (b5 : spread_beam) (l6 : (List Atom)) (x7 : Int) (r : Z0e), R_spread_sun_out s1 a4 b5 l6 x7 = some r → Con Tryz.prog 194 [Z7 g2 (Lens.id Z19), rd (Z0 .i64) a4, rd Z2q b5, rd (Z1 Z0c) l6, rd (Z0 .i64) x7] (Zx g2 gT Z19 (fun v => (⟨s1.Net, s1.env, s1.tables, s1.most, v⟩ : spread_sun_o4)) 103 Z0y s1.rays) (fun _ : Unit => top) (fun _ => Zx g2 gT Z19 (fun v => (⟨r.Net, r.env, r.tables, r.most, v⟩ : spread_sun_o4)) 103 Z0y r.rays)) (g2 gT : Nat) (s1 : Z0e) (a4 : Int) (b5 : spread_beam) (x6 : Int) (r : Z0e) (h : Zln R_spread_sun_on R_spread_sun_out s1 a4 b5 x6 = some r) : Con Tryz.prog 125 [Z7 g2 (Lens.id Z19), rd (Z0 .i64) a4, rd Z2q b5, rd (Z0 .i64) x6] (Zx g2 gT Z19 (fun v => (⟨s1.Net, s1.env, s1.tables, s1.most, v⟩ : spread_sun_o4)) 103 Z0y s1.rays) (fun _ : Unit => top) (fun _ => Zx g2 gT Z19 (fun v => (⟨r.Net, r.env, r.tables, r.most, v⟩ : spread_sun_o4)) 103 Z0y r.rays) := by
 refine Con.intro Tryz.func125 rfl Tryz.ntmps125 rfl fun w H X => ?_
 unfold Zln at h
 refine AW.unboxF 0 2004 (by decide) rfl rfl fun v3 => SR <| Cv rfl (Zn 7 rfl rfl (vt rfl)) fun g7 => Nl <| sq <| SR <| Md rfl <| Ac (Z1r rfl rfl (vt rfl) (vk rfl)) rfl <| Nl <| Cq rfl h (fun h => ?_) (fun h => ?_)
 ·refine sq ?_
  obtain ⟨l8, hl8, h⟩ := Z8 h
  refine AR Zw (by kernel_rfl) <| SMp rfl <| SMp rfl <| SNc rfl <| Zv Z7p Zcc rfl <| Sd (lo [20] [0] rfl fun S hs hr => Z3e v3 rfl rfl Zb7 (vh hs 20 rfl rfl) (i := 0) ((hr 0 rfl).trans rfl) rfl) <| SMd rfl <| Zv lspread_beam_0 Zlh rfl <| Zm Z00 7 rfl <| Zv lspread_beam_1 Zhm rfl <| Zm Z0f 7 rfl <| Sd (lo [22, 24, 26] [] rfl fun S hs hr => opb (⟨a4, 0, 0, false, b5.cube, b5.got⟩ : Ray) Zlr rfl Zxj (pc Y0p (vh hs 22 rfl rfl) <| pc Zzv (vh hs 24 rfl rfl) <| pc Y20 (vh hs 26 rfl rfl) <| pn rfl)) <| Sd (lo [27] [] rfl fun S hs hr => osl Z7z Zlr rfl (vh hs 27 rfl rfl)) <| Sd (Z1q (us := [(29, Z2j 103 Z0y l8)]) (ur := [(2004, emp)]) [21, 28] [2004] rfl fun S hs hr => Z92 2004 hl8 rfl rfl rfl Zwa (vh hs 21 rfl rfl) ((hr 2004 rfl).trans rfl) (vh hs 28 rfl rfl)) <| SNc rfl <| Zv Z7p Zcc rfl <| Sd (Z1q (us := [(29, top)]) (ur := [(0, Zx g2 gT Z19 (fun v => ((Lens.comp (Lens.id Z19) Z7p)).set (⟨s1.Net, s1.env, s1.tables, s1.most, v3⟩ : spread_sun_o4) v) 103 Z0y l8)]) [31, 29] [0] rfl fun S hs hr => Zb9 rfl rfl Zb7 (vh hs 31 rfl rfl) ((hr 0 rfl).trans rfl) ((hs 29 rfl).trans rfl)) <| Sn <| AW.unboxF 0 2004 (by decide) rfl rfl fun v9 => rt ?_
  cases h; exact RetOK.turn (Turn.packF 0 2004 (fun v => (⟨s1.Net, s1.env, s1.tables, s1.most, v⟩ : spread_sun_o4)) (by decide) rfl rfl) (Z1k (i := 0) Tryz.results125 rfl rfl)
 ·refine sk <| sq ?_
  obtain ⟨x10, hx10, h⟩ := Z8 h
  refine Rg <| Mp rfl <| Nc rfl <| Zh lspread_sun_o4_2 Yad rfl <| Ld Yiw 0 rfl <| Md rfl <| Ac (Z0k rfl rfl Y5b (vt rfl) (vt rfl) hx10) rfl <| Lp1 Y3f rfl <| Cv rfl (Zs 9 rfl rfl Zrz) fun g11 => Zj Y3f 9 rfl <| Nl <| SR <| Zh lspread_table_1 Y5z rfl <| Ld Ynx 9 rfl <| Ac (Z0t rfl rfl Zqd (vt rfl)) rfl <| Mk rfl <| Nl <| bk <| LG (d := []) (ν := (List (List Zl)) × Nat × (List Ray) × Net × Env × (List spread_table) × Int × Value) (fun (l25, i24, l18, b20, b21, b22, b23, v19) => (Sfx x10.cubes i24 l25 ∧ Za2 b5 x10 R_spread_sun_out a4 x6 l25 i24 l18 b20 b21 b22 b23 = some r, l25.length, [(0, Z7 g2 (Lens.id Z19)), (1, rd (Z0 .i64) a4), (3, rd (Z0 .i64) x6), (6, Z7 g7 (Lens.id Z2q)), (8, Z7 g11 (Lens.id Z2i)), (40, rd (Z1 (Z1 (Z3 24 Z4))) x10.cubes), (41, rd (Z0 .i64) (x10.cubes.length : Int)), (42, rd (Z0 .i64) (i24 : Int))], [(0, Zc g2 gT Z19 (⟨b20, b21, b22, b23, v19⟩ : spread_sun_o4)), (7, Zc g7 189 Z2q b5), (9, Zc g11 252 Z2i x10), (2004, Zb v19 103 Z0y l18)])) (x10.cubes, 0, s1.rays, s1.Net, s1.env, s1.tables, s1.most, v3) ⟨Sfx.start _, h⟩ (FX rfl) ?_
  rintro ⟨l25, i24, l18, b20, b21, b22, b23, v19⟩ ⟨hsf1, h⟩
  dsimp only at hsf1 h ⊢
  cases l25 with
  | nil =>
   unfold Za2 at h
   refine SR <| Ac (Zi rfl rfl (vt rfl) (vt rfl)) rfl <| Nl <| sq <| Cn rfl (fun hc => absurd (of_decide_eq_true hc) hsf1.nil) (fun hc => ?_)
   refine xt ?_
   cases h; exact RetOK.turn (Turn.packF 0 2004 (fun v => (⟨b20, b21, b22, b23, v⟩ : spread_sun_o4)) (by decide) rfl rfl) (Z1k (i := 0) Tryz.results125 rfl rfl)
  | cons x26 l25 =>
   unfold Za2 at h
   refine SR <| Ac (Zi rfl rfl (vt rfl) (vt rfl)) rfl <| Nl <| sq <| Cn rfl (fun hc => ?_) (fun hc => absurd hsf1.cons (of_decide_eq_false hc))
   have hlti24 := of_decide_eq_true hc
   refine sk <| sq <| bk <| SR <| Md rfl <| Ac (Z0k rfl rfl Zqd (vt rfl) (vt rfl) hsf1.lget) rfl <| Lp1 Zmf rfl <| As rfl <| As rfl <| Nl <| AW.scope <| sq <| AW.label <| SR <| Md rfl <| Ac (Z0t rfl rfl Z7j (vt rfl)) rfl <| Mk rfl <| Nl <| bk <| LG (d := []) (ν := (List Zl) × Nat × (List Ray) × Net × Env × (List spread_table) × Int × Value) (fun (l40, i39, l33, b35, b36, b37, b38, v34) => (Sfx x26 i39 l40 ∧ Zbw (Za2 b5 x10 R_spread_sun_out a4 x6 l25) i24 b5 x10 R_spread_sun_out a4 x6 l40 i39 l33 b35 b36 b37 b38 = some r, l40.length, [(0, Z7 g2 (Lens.id Z19)), (1, rd (Z0 .i64) a4), (3, rd (Z0 .i64) x6), (6, Z7 g7 (Lens.id Z2q)), (8, Z7 g11 (Lens.id Z2i)), (9, rd (Z0 .i64) (i24 : Int)), (40, rd (Z1 (Z1 (Z3 24 Z4))) x10.cubes), (41, rd (Z0 .i64) (x10.cubes.length : Int)), (42, rd (Z0 .i64) (i24 : Int)), (47, rd (Z1 (Z3 24 Z4)) x26), (48, rd (Z0 .i64) (x26.length : Int)), (49, rd (Z0 .i64) (i39 : Int))], [(0, Zc g2 gT Z19 (⟨b35, b36, b37, b38, v34⟩ : spread_sun_o4)), (7, Zc g7 189 Z2q b5), (9, Zc g11 252 Z2i x10), (2004, Zb v34 103 Z0y l33)])) (x26, 0, l18, b20, b21, b22, b23, v19) ⟨Sfx.start _, h⟩ (FX rfl) ?_
   rintro ⟨l40, i39, l33, b35, b36, b37, b38, v34⟩ ⟨hsf2, h⟩
   dsimp only at hsf2 h ⊢
   cases l40 with
   | nil =>
    unfold Zbw at h
    refine SR <| Ac (Zi rfl rfl (vt rfl) (vt rfl)) rfl <| Nl <| sq <| Cn rfl (fun hc => absurd (of_decide_eq_true hc) hsf2.nil) (fun hc => ?_)
    refine xt <| Rg <| Ac (Z0u (t := 41) rfl rfl (vt rfl) (vk rfl) (vt rfl) hlti24) rfl <| Md rfl <| Nl ?_
    exact ⟨(_, _, _, _, _, _, _, _), Nat.lt_succ_self _, ⟨hsf1.next, h⟩, FX rfl⟩
   | cons x41 l40 =>
    unfold Zbw at h
    refine SR <| Ac (Zi rfl rfl (vt rfl) (vt rfl)) rfl <| Nl <| sq <| Cn rfl (fun hc => ?_) (fun hc => absurd hsf2.cons (of_decide_eq_false hc))
    have hlti39 := of_decide_eq_true hc
    refine sk <| sq <| bk <| SR <| Ac (Z0k rfl rfl Z7j (vt rfl) (vt rfl) hsf2.lget) rfl <| Lp1 Z00 rfl <| Cv rfl (Zs 13 rfl rfl Z2a) fun g42 => Zj Z00 13 rfl <| Nl <| sq <| sq <| AR Zw (by kernel_rfl) <| SMp rfl <| SNc rfl <| Zv Z7p Zcc rfl <| Sd (lo [55] [0] rfl fun S hs hr => Z3e v34 rfl rfl Zb7 (vh hs 55 rfl rfl) (i := 0) ((hr 0 rfl).trans rfl) rfl) <| Sd (lo [56] [2004] rfl fun S hs hr => Z6o 2004 rfl rfl Z7z (vh hs 56 rfl rfl) ((hr 2004 rfl).trans rfl)) <| SMp rfl <| SNc rfl <| Zv lspread_sun_o4_3 Y5c rfl <| Zm Zq 0 rfl <| Sd (lo [57, 61] [] rfl fun S hs hr => Z3i rfl rfl (vh hs 57 rfl rfl) (vh hs 61 rfl rfl)) <| Sn <| Cq rfl h (fun h => ?_) (fun h => ?_)
    ·refine rt ?_
     cases h; exact RetOK.turn (Turn.packF 0 2004 (fun v => (⟨b35, b36, b37, b38, v⟩ : spread_sun_o4)) (by decide) rfl rfl) (Z1k (i := 0) Tryz.results125 rfl rfl)
    ·refine sk <| sq ?_
     obtain ⟨x43, hx43, h⟩ := Z8 h
     refine Rg <| Ld Z6r 7 rfl <| Ld Z00 13 rfl <| Cl [64, 65] (Ygb _ _ _ hx43) Ylk rfl <| Mt2 rfl <| Ac (Z1n rfl rfl (vt rfl)) rfl <| Ac (Z1l rfl rfl (vt rfl)) rfl <| Cv rfl (Zs 14 rfl rfl Zdw) fun g44 => Zj Z6r 14 rfl <| As rfl <| Nl <| sq <| SR <| Md rfl <| Ac (Z0z rfl rfl (vt rfl)) rfl <| Nl <| Cq rfl h (fun h => ?_) (fun h => ?_)
     ·refine xt <| Rg <| Ac (Z0u (t := 48) rfl rfl (vt rfl) (vk rfl) (vt rfl) hlti39) rfl <| Md rfl <| Nl ?_
      exact ⟨(_, _, _, _, _, _, _, _), Nat.lt_succ_self _, ⟨hsf2.next, h⟩, FX rfl⟩
     ·refine sk <| AW.packF 0 2004 (fun v => (⟨b35, b36, b37, b38, v⟩ : spread_sun_o4)) (by decide) rfl rfl ?_
      obtain ⟨x45, hx45, x46, hx46, b47, hb47, h⟩ := bs3 h
      refine AR Zw (by kernel_rfl) <| SMp rfl <| SMd rfl <| Zm Z6r 14 rfl <| Zv lspread_table_0 Zvw rfl <| Zv lFlat_1 Ygz rfl <| Zm Zes 9 rfl <| SMp rfl <| SNc rfl <| Zv lspread_sun_o4_1 Yjb rfl <| Sd (lo [79] [0] rfl fun S hs hr => Y99 rfl rfl Z4x (vh hs 79 rfl rfl) (i := 0) ((hr 0 rfl).trans rfl) (fun _ => rfl)) <| Zv lspread_table_0 Zvw rfl <| Zv lFlat_0 Zl5 rfl <| Zm Zi5 9 rfl <| SMd rfl <| Sd (lo [83, 84] [] rfl fun S hs hr => Z0k rfl rfl Z59 (vh hs 83 rfl rfl) (vh hs 84 rfl rfl) hx45) <| SFp lRule_1 Zs2 rfl <| SLp Zbs rfl <| SCl [76, 80, 87] (Ybt _ _ _ _ hx46) Y8y rfl <| SMd rfl <| Sd (Z1q (us := [(90, top)]) (ur := [(0, Zx g2 gT Z19 (fun v => (⟨b47.Net, b47.env, b47.tables, b47.most, v⟩ : spread_sun_o4)) 103 Z0y b47.rays)]) [71, 72, 73, 88, 89] [0] rfl fun S hs hr => Zs6 0 (xs := [.tmp 71, .tmp 72, .tmp 73, .tmp 88, .tmp 89]) (hR_spread_sun_out _ _ _ _ _ _ _ _ hb47) Ycg rfl rfl ⟨vt ((hs 71 rfl).trans rfl), vt ((hs 72 rfl).trans rfl), vt ((hs 73 rfl).trans rfl), vt ((hs 88 rfl).trans rfl), vt ((hs 89 rfl).trans rfl), trivial⟩ ((hr 0 rfl).trans rfl)) <| Sn <| AW.unboxF 0 2004 (by decide) rfl rfl fun v48 => Rg <| Ac (Z0u (t := 48) rfl rfl (vt rfl) (vk rfl) (vt rfl) hlti39) rfl <| Md rfl <| Nl ?_
      exact ⟨(_, _, _, _, _, _, _, _), Nat.lt_succ_self _, ⟨hsf2.next, h⟩, FX rfl⟩
def Zb5 (b5 : spread_beam) (a4 : Int) (R_spread_sun_on : (Z0e → Int → spread_beam → Int → Option Z0e)) (x7 : Int) : (List Atom) → Nat → (List Ray) → Net → Env → (List spread_table) → Int → Option Z0e
 | [], i21, l15, b17, b18, b19, b20 => some (⟨b17, b18, b19, b20, l15⟩ : Z0e)
 | x23 :: l22, i21, l15, b17, b18, b19, b20 => (bif (decide ((l15.length : Int) > b20)) then some (⟨b17, b18, b19, b20, l15⟩ : Z0e) else (Zku b5 x23.Rewrite).bind fun x25 => (Zh6 b17 a4 x23.Port).bind fun x27 => (bif (!x27.2.2) then (Z18 l15 [(⟨a4, x23.Port, x23.Max, true, x25.cube, x25.got⟩ : Ray)]).bind fun l28 => (Zb5 b5 a4 R_spread_sun_on x7 l22) (i21 + 1) l28 b17 b18 b19 b20 else (Z7t 128).bind fun x30 => (Z73 x25.got 0 (⟨0, (BitVec.ofInt 64 x27.2.1)⟩ : Wide) x30).bind fun x31 => (R_spread_sun_on (⟨b17, b18, b19, b20, l15⟩ : Z0e) x27.1 { x25 with got := x31 } (IntKind.i64.wrap (x7 - 1))).bind fun b32 => (Zb5 b5 a4 R_spread_sun_on x7 l22) (i21 + 1) b32.rays b32.Net b32.env b32.tables b32.most))
def Zro (R_spread_sun_on : (Z0e → Int → spread_beam → Int → Option Z0e)) (R_spread_sun_out : (Z0e → Int → spread_beam → (List Atom) → Int → Option Z0e)) (s1 : Z0e) (a4 : Int) (b5 : spread_beam) (l6 : (List Atom)) (x7 : Int) : Option Z0e :=
 Zb5 b5 a4 R_spread_sun_on x7 l6 0 s1.rays s1.Net s1.env s1.tables s1.most
theorem Ykm (R_spread_sun_on : (Z0e → Int → spread_beam → Int → Option Z0e)) (hR_spread_sun_on : ∀ (g2 gT : Nat) (s1 : Z0e) (a4 : Int) (b5 : spread_beam) (x6 : Int) (r : Z0e), R_spread_sun_on s1 a4 b5 x6 = some r → Con Tryz.prog 125 [Z7 g2 (Lens.id Z19), rd (Z0 .i64) a4, rd Z2q b5, rd (Z0 .i64) x6] (Zx g2 gT Z19 (fun v => (⟨s1.Net, s1.env, s1.tables, s1.most, v⟩ : spread_sun_o4)) 103 Z0y s1.rays) (fun _ : Unit => top) (fun _ => Zx g2 gT Z19 (fun v => (⟨r.Net, r.env, r.tables, r.most, v⟩ : spread_sun_o4)) 103 Z0y r.rays)) (R_spread_sun_out : (Z0e → Int → spread_beam → (List Atom) → Int → Option Z0e)) (hR_spread_sun_out : ∀ (g2 gT : Nat) (s1 : Z0e) (a4 : Int) (b5 : spread_beam) (l6 : (List Atom)) (x7 : Int) (r : Z0e), R_spread_sun_out s1 a4 b5 l6 x7 = some r → Con Tryz.prog 194 [Z7 g2 (Lens.id Z19), rd (Z0 .i64) a4, rd Z2q b5, rd (Z1 Z0c) l6, rd (Z0 .i64) x7] (Zx g2 gT Z19 (fun v => (⟨s1.Net, s1.env, s1.tables, s1.most, v⟩ : spread_sun_o4)) 103 Z0y s1.rays) (fun _ : Unit => top) (fun _ => Zx g2 gT Z19 (fun v => (⟨r.Net, r.env, r.tables, r.most, v⟩ : spread_sun_o4)) 103 Z0y r.rays)) (g2 gT : Nat) (s1 : Z0e) (a4 : Int) (b5 : spread_beam) (l6 : (List Atom)) (x7 : Int) (r : Z0e) (h : Zro R_spread_sun_on R_spread_sun_out s1 a4 b5 l6 x7 = some r) : Con Tryz.prog 194 [Z7 g2 (Lens.id Z19), rd (Z0 .i64) a4, rd Z2q b5, rd (Z1 Z0c) l6, rd (Z0 .i64) x7] (Zx g2 gT Z19 (fun v => (⟨s1.Net, s1.env, s1.tables, s1.most, v⟩ : spread_sun_o4)) 103 Z0y s1.rays) (fun _ : Unit => top) (fun _ => Zx g2 gT Z19 (fun v => (⟨r.Net, r.env, r.tables, r.most, v⟩ : spread_sun_o4)) 103 Z0y r.rays) := by
 refine Con.intro Tryz.func194 rfl Tryz.ntmps194 rfl fun w H X => ?_
 unfold Zro at h
 refine AW.unboxF 0 2004 (by decide) rfl rfl fun v3 => SR <| Cv rfl (Zn 8 rfl rfl (vt rfl)) fun g8 => Nl <| SR <| Md rfl <| Ac (Z0t rfl rfl Z7o (vt rfl)) rfl <| Mk rfl <| Nl <| bk <| LG (d := []) (ν := (List Atom) × Nat × (List Ray) × Net × Env × (List spread_table) × Int × Value) (fun (l22, i21, l15, b17, b18, b19, b20, v16) => (Sfx l6 i21 l22 ∧ Zb5 b5 a4 R_spread_sun_on x7 l22 i21 l15 b17 b18 b19 b20 = some r, l22.length, [(0, Z7 g2 (Lens.id Z19)), (1, rd (Z0 .i64) a4), (4, rd (Z0 .i64) x7), (7, Z7 g8 (Lens.id Z2q)), (16, rd (Z1 Z0c) l6), (17, rd (Z0 .i64) (l6.length : Int)), (18, rd (Z0 .i64) (i21 : Int))], [(0, Zc g2 gT Z19 (⟨b17, b18, b19, b20, v16⟩ : spread_sun_o4)), (8, Zc g8 189 Z2q b5), (2004, Zb v16 103 Z0y l15)])) (l6, 0, s1.rays, s1.Net, s1.env, s1.tables, s1.most, v3) ⟨Sfx.start _, h⟩ (FX rfl) ?_
 rintro ⟨l22, i21, l15, b17, b18, b19, b20, v16⟩ ⟨hsf1, h⟩
 dsimp only at hsf1 h ⊢
 cases l22 with
 | nil =>
  unfold Zb5 at h
  refine SR <| Ac (Zi rfl rfl (vt rfl) (vt rfl)) rfl <| Nl <| sq <| Cn rfl (fun hc => absurd (of_decide_eq_true hc) hsf1.nil) (fun hc => ?_)
  refine xt ?_
  cases h; exact RetOK.turn (Turn.packF 0 2004 (fun v => (⟨b17, b18, b19, b20, v⟩ : spread_sun_o4)) (by decide) rfl rfl) (Z1k (i := 0) Tryz.results194 rfl rfl)
 | cons x23 l22 =>
  unfold Zb5 at h
  refine SR <| Ac (Zi rfl rfl (vt rfl) (vt rfl)) rfl <| Nl <| sq <| Cn rfl (fun hc => ?_) (fun hc => absurd hsf1.cons (of_decide_eq_false hc))
  have hlti21 := of_decide_eq_true hc
  refine sk <| sq <| bk <| SR <| Ac (Z0k rfl rfl Z7o (vt rfl) (vt rfl) hsf1.lget) rfl <| Lp1 Zds rfl <| Cv rfl (Zs 12 rfl rfl Zde) fun g24 => Zj Zds 12 rfl <| Nl <| sq <| sq <| AR Zw (by kernel_rfl) <| SMp rfl <| SNc rfl <| Zv Z7p Zcc rfl <| Sd (lo [24] [0] rfl fun S hs hr => Z3e v16 rfl rfl Zb7 (vh hs 24 rfl rfl) (i := 0) ((hr 0 rfl).trans rfl) rfl) <| Sd (lo [25] [2004] rfl fun S hs hr => Z6o 2004 rfl rfl Z7z (vh hs 25 rfl rfl) ((hr 2004 rfl).trans rfl)) <| SMp rfl <| SNc rfl <| Zv lspread_sun_o4_3 Y5c rfl <| Zm Zq 0 rfl <| Sd (lo [26, 30] [] rfl fun S hs hr => Z3i rfl rfl (vh hs 26 rfl rfl) (vh hs 30 rfl rfl)) <| Sn <| Cq rfl h (fun h => ?_) (fun h => ?_)
  ·refine rt ?_
   cases h; exact RetOK.turn (Turn.packF 0 2004 (fun v => (⟨b17, b18, b19, b20, v⟩ : spread_sun_o4)) (by decide) rfl rfl) (Z1k (i := 0) Tryz.results194 rfl rfl)
  ·refine sk <| sq ?_
   obtain ⟨x25, hx25, h⟩ := Z8 h
   refine Rg <| Ld Z6r 8 rfl <| Zh lAtom_0 Zog rfl <| Ld Z0f 12 rfl <| Cl [32, 34] (Ybk _ _ _ hx25) Yje rfl <| Cv rfl (Zs 13 rfl rfl Zdw) fun g26 => Zj Z6r 13 rfl <| Nl <| sq ?_
   obtain ⟨x27, hx27, h⟩ := Z8 h
   refine AR Zw (by kernel_rfl) <| SMp rfl <| SNc rfl <| Zv lspread_sun_o4_0 Y7q rfl <| Zm Z6q 0 rfl <| SMd rfl <| Zv Zh3 Zit rfl <| Zm Zq 12 rfl <| SCl [40, 41, 43] (Zyj _ _ _ _ hx27) e72 rfl <| Sd (lo [44] [] rfl fun S hs hr => Zp (A := Z3n (rd (Z0 .i64) x27.1) (rd (Z0 .i64) x27.2.1) (rd Z5 x27.2.2)) rfl rfl (vh hs 44 rfl rfl)) <| Sd (lo [36] [] rfl fun S hs hr => Zgs rfl rfl (vh hs 36 rfl rfl)) <| Sd (lo [36] [] rfl fun S hs hr => Zhf rfl rfl (vh hs 36 rfl rfl)) <| Sd (lo [36] [] rfl fun S hs hr => Zfq rfl rfl (vh hs 36 rfl rfl)) <| SAs rfl <| SAs rfl <| SAs rfl <| Sn <| sq <| SR <| Md rfl <| Ac (Z0z rfl rfl (vt rfl)) rfl <| Nl <| Cq rfl h (fun h => ?_) (fun h => ?_)
   ·refine sq ?_
    obtain ⟨l28, hl28, h⟩ := Z8 h
    refine AR Zw (by kernel_rfl) <| SMp rfl <| SMp rfl <| SNc rfl <| Zv Z7p Zcc rfl <| Sd (lo [53] [0] rfl fun S hs hr => Z3e v16 rfl rfl Zb7 (vh hs 53 rfl rfl) (i := 0) ((hr 0 rfl).trans rfl) rfl) <| SMd rfl <| Zv Zh3 Zit rfl <| Zm Zq 12 rfl <| Zv Zpu Zxm rfl <| Zm Zq 12 rfl <| Zv lspread_beam_0 Zlh rfl <| Zm Z00 13 rfl <| Zv lspread_beam_1 Zhm rfl <| Zm Z0f 13 rfl <| Sd (lo [55, 57, 59, 61, 63] [] rfl fun S hs hr => opb (⟨a4, x23.Port, x23.Max, true, x25.cube, x25.got⟩ : Ray) Zlr rfl Zxj (pc Y0p (vh hs 55 rfl rfl) <| pc Yms (vh hs 57 rfl rfl) <| pc Yek (vh hs 59 rfl rfl) <| pc Ycc vb <| pc Zzv (vh hs 61 rfl rfl) <| pc Y20 (vh hs 63 rfl rfl) <| pn rfl)) <| Sd (lo [64] [] rfl fun S hs hr => osl Z7z Zlr rfl (vh hs 64 rfl rfl)) <| Sd (Z1q (us := [(66, Z2j 103 Z0y l28)]) (ur := [(2004, emp)]) [54, 65] [2004] rfl fun S hs hr => Z92 2004 hl28 rfl rfl rfl Zwa (vh hs 54 rfl rfl) ((hr 2004 rfl).trans rfl) (vh hs 65 rfl rfl)) <| SNc rfl <| Zv Z7p Zcc rfl <| Sd (Z1q (us := [(66, top)]) (ur := [(0, Zx g2 gT Z19 (fun v => ((Lens.comp (Lens.id Z19) Z7p)).set (⟨b17, b18, b19, b20, v16⟩ : spread_sun_o4) v) 103 Z0y l28)]) [68, 66] [0] rfl fun S hs hr => Zb9 rfl rfl Zb7 (vh hs 68 rfl rfl) ((hr 0 rfl).trans rfl) ((hs 66 rfl).trans rfl)) <| Sn <| AW.unboxF 0 2004 (by decide) rfl rfl fun v29 => xt <| Rg <| Ac (Z0u (t := 17) rfl rfl (vt rfl) (vk rfl) (vt rfl) hlti21) rfl <| Md rfl <| Nl ?_
    exact ⟨(_, _, _, _, _, _, _, _), Nat.lt_succ_self _, ⟨hsf1.next, h⟩, FX rfl⟩
   ·refine sk <| sq ?_
    obtain ⟨x30, hx30, x31, hx31, h⟩ := bs2 h
    refine AR Zw (by kernel_rfl) <| Zv lspread_beam_1 Zhm rfl <| Zm Z0f 13 rfl <| SMd rfl <| Sd (lo [71] [] rfl fun S hs hr => Z8n rfl rfl us3 Y1v (vh hs 71 rfl rfl)) <| Sd (lo [72] [] rfl fun S hs hr => opb (⟨0, (BitVec.ofInt 64 x27.2.1)⟩ : Wide) Z3p rfl Z74 (pc Z9c (vh hs 72 rfl rfl) <| pn rfl)) <| Sd (lo [] [] rfl fun S hs hr => Z14 (xs := [.const (Value.int IntKind.i64 128)]) (Zp2 _ _ hx30) Zmg rfl rfl ⟨vk rfl, trivial⟩) <| Sd (lo [70, 73, 74] [] rfl fun S hs hr => Z14 (xs := [.tmp 70, .const (Value.int IntKind.i64 0), .tmp 73, .tmp 74]) (Zei _ _ _ _ _ hx31) Zdd rfl rfl ⟨vt ((hs 70 rfl).trans rfl), vk rfl, vt ((hs 73 rfl).trans rfl), vt ((hs 74 rfl).trans rfl), trivial⟩) <| Zv lspread_beam_1 Zhm rfl <| SSt Z0f 13 rfl <| Sn ?_
    obtain ⟨b32, hb32, h⟩ := Z8 h
    refine Rg <| Mp rfl <| Md rfl <| Ld Z6r 13 rfl <| Md rfl <| Ac (Z0v rfl rfl (vt rfl) (vk rfl)) rfl <| AOps.packF 0 2004 (fun v => (⟨b17, b18, b19, b20, v⟩ : spread_sun_o4)) (by decide) rfl rfl <| Cv rfl (Z10 0 (xs := [.tmp 77, .tmp 78, .tmp 79, .tmp 81]) (hR_spread_sun_on _ _ _ _ _ _ _ hb32) Zxv rfl rfl ⟨vt rfl, vt rfl, vt rfl, vt rfl, trivial⟩ rfl) fun _u => AOps.unboxF 0 2004 (by decide) rfl rfl fun v33 => Nl <| Rg <| Ac (Z0u (t := 17) rfl rfl (vt rfl) (vk rfl) (vt rfl) hlti21) rfl <| Md rfl <| Nl ?_
    exact ⟨(_, _, _, _, _, _, _, _), Nat.lt_succ_self _, ⟨hsf1.next, h⟩, FX rfl⟩
def Z5j : Nat → (Z0e → Int → spread_beam → Int → Option Z0e) × (Z0e → Int → spread_beam → (List Atom) → Int → Option Z0e)
 | 0 => ((fun _ _ _ _ => none), (fun _ _ _ _ _ => none))
 | n + 1 => ((Zln (Z5j n).1 (Z5j n).2), (Zro (Z5j n).1 (Z5j n).2))
theorem Y1g : ∀ n : Nat, (∀ (g2 gT : Nat) (s1 : Z0e) (a4 : Int) (b5 : spread_beam) (x6 : Int) (r : Z0e), (Z5j n).1 s1 a4 b5 x6 = some r → Con Tryz.prog 125 [Z7 g2 (Lens.id Z19), rd (Z0 .i64) a4, rd Z2q b5, rd (Z0 .i64) x6] (Zx g2 gT Z19 (fun v => (⟨s1.Net, s1.env, s1.tables, s1.most, v⟩ : spread_sun_o4)) 103 Z0y s1.rays) (fun _ : Unit => top) (fun _ => Zx g2 gT Z19 (fun v => (⟨r.Net, r.env, r.tables, r.most, v⟩ : spread_sun_o4)) 103 Z0y r.rays)) ∧ (∀ (g2 gT : Nat) (s1 : Z0e) (a4 : Int) (b5 : spread_beam) (l6 : (List Atom)) (x7 : Int) (r : Z0e), (Z5j n).2 s1 a4 b5 l6 x7 = some r → Con Tryz.prog 194 [Z7 g2 (Lens.id Z19), rd (Z0 .i64) a4, rd Z2q b5, rd (Z1 Z0c) l6, rd (Z0 .i64) x7] (Zx g2 gT Z19 (fun v => (⟨s1.Net, s1.env, s1.tables, s1.most, v⟩ : spread_sun_o4)) 103 Z0y s1.rays) (fun _ : Unit => top) (fun _ => Zx g2 gT Z19 (fun v => (⟨r.Net, r.env, r.tables, r.most, v⟩ : spread_sun_o4)) 103 Z0y r.rays))
 | 0 => ⟨(by intros; rename_i h; cases h), (by intros; rename_i h; cases h)⟩
 | n + 1 => by
  have ih := Y1g n
  exact ⟨(Y65 (Z5j n).1 ih.1 (Z5j n).2 ih.2), (Ykm (Z5j n).1 ih.1 (Z5j n).2 ih.2)⟩
def Y4i (s1 : Z0e) (a4 : Int) (b5 : spread_beam) (x6 : Int) : Option Z0e := (Z5j Z0l).1 s1 a4 b5 x6
theorem Y6s : ∀ (g2 gT : Nat) (s1 : Z0e) (a4 : Int) (b5 : spread_beam) (x6 : Int) (r : Z0e), Y4i s1 a4 b5 x6 = some r → Con Tryz.prog 125 [Z7 g2 (Lens.id Z19), rd (Z0 .i64) a4, rd Z2q b5, rd (Z0 .i64) x6] (Zx g2 gT Z19 (fun v => (⟨s1.Net, s1.env, s1.tables, s1.most, v⟩ : spread_sun_o4)) 103 Z0y s1.rays) (fun _ : Unit => top) (fun _ => Zx g2 gT Z19 (fun v => (⟨r.Net, r.env, r.tables, r.most, v⟩ : spread_sun_o4)) 103 Z0y r.rays) := (Y1g Z0l).1
def Zct (n1 : Net) (x2 : Env) (a3 : Int) (x4 : Zl) (x5 : Int) (m6 : Int) : Option ((List Ray) × Int) :=
 (bif ((decide (a3 < 0)) || (decide (a3 ≥ (n1.Switches.length : Int)))) then some ([], 0) else (Zok n1 m6).bind fun x10 => (bif (decide (x10.2 ≠ 0)) then some ([], x10.2) else (Zca x4).bind fun x12 => (Z9j).bind fun x13 => (Y4i (⟨n1, x2, x10.1, m6, []⟩ : Z0e) a3 (⟨x12, x13⟩ : spread_beam) (Z3q (Z1f x5 0) 8)).bind fun b14 => (bif (decide ((b14.rays.length : Int) > m6)) then some ([], 5) else some (b14.rays, 0))))
theorem Zts : Q6 Tryz.prog 68 (rd Z26) (rd Z0q) (rd (Z0 .i64)) (rd (Z3 24 Z4)) (rd (Z0 .i64)) (rd (Z0 .i64)) (fun r => Z1b (rd (Z1 Z0y) r.1) (rd (Z0 .i64) r.2)) Zct := fun n1 x2 a3 x4 x5 m6 r h => I0 Tryz.func68 rfl Tryz.ntmps68 rfl fun w H => by
 unfold Zct at h
 refine SR <| Cv rfl (Zn 7 rfl rfl (vt rfl)) fun g7 => Cv rfl (Zn 8 rfl rfl (vt rfl)) fun g8 => Cv rfl (Zn 10 rfl rfl (vt rfl)) fun g9 => Ac (Zy (A := rd (Z1 Z0y) []) rfl rfl Z1i) rfl <| Ak rfl <| Nl <| sq <| SR <| Md rfl <| Ac (Zi rfl rfl (vt rfl) (vk rfl)) rfl <| Md rfl <| Gd rfl (fun hq => Zp (A := rd (Z0 .i64) a3) rfl rfl (vt rfl)) <| Gd rfl (fun hq => Z2t lNet_0 rfl rfl Zcz (vt rfl)) <| Gd rfl (fun hq => Z29 rfl rfl Zcr (Zg rfl hq) (i := 7) rfl) <| Gd rfl (fun hq => Z0t rfl rfl Z87 (Zg rfl hq)) <| Gd rfl (fun hq => Z3z rfl rfl (Zg rfl hq) (Zg rfl hq)) <| Ac (Z4o rfl rfl (vt rfl) (vt rfl)) rfl <| Nl <| Cq rfl h (fun h => ?_) (fun h => ?_)
 ·refine SR <| Ac (Zy (A := rd (Z1 Z0y) []) rfl rfl Z1i) rfl <| Ak rfl <| Nl <| rt ?_
  cases h; exact Z1m Tryz.results68 rfl (Za rfl) (Za rfl)
 ·refine sk <| sq ?_
  obtain ⟨x10, hx10, h⟩ := Z8 h
  refine Rg <| Ld Z6q 7 rfl <| Md rfl <| Cl [27, 28] (Ycd _ _ _ hx10) Yfo rfl <| Mt2 rfl <| Ac (Z1n rfl rfl (vt rfl)) rfl <| Ac (Z1l rfl rfl (vt rfl)) rfl <| As rfl <| As rfl <| Nl <| sq <| SR <| Md rfl <| Ac (Z4u rfl rfl (vt rfl) (vk rfl)) rfl <| Nl <| Cq rfl h (fun h => ?_) (fun h => ?_)
  ·refine SR <| Md rfl <| Ac (Zy (A := rd (Z1 Z0y) []) rfl rfl Z1i) rfl <| As rfl <| Nl <| rt ?_
   cases h; exact Z1m Tryz.results68 rfl (Za rfl) (Za rfl)
  ·refine sk <| sq <| AW.newnil 2824 103 Z0y <| Rg <| Ld Z6q 7 rfl <| Ld Z4x 8 rfl <| Md rfl <| Md rfl <| Ac (opb (⟨n1, x2, x10.1, m6, (.slice none 0 0)⟩ : spread_sun_o4) Y8x rfl Yel (pc Yin (vt rfl) <| pc Yhh (vt rfl) <| pc Ylu (vt rfl) <| pc Y9w (vt rfl) <| pn rfl)) rfl <| Cv rfl (Zn 41 rfl rfl (vt rfl)) fun g11 => Ac (Zy (A := Z7 g11 (Lens.id Z19)) rfl rfl (vt rfl)) rfl <| Nl <| sq ?_
   obtain ⟨x12, hx12, x13, hx13, b14, hb14, h⟩ := bs3 h
   refine Rg <| Mp rfl <| Md rfl <| Ld Z00 10 rfl <| Cl [43] (Zo9 _ _ hx12) Zn2 rfl <| Cl [] (Zoo _ hx13) e77 rfl <| Ac (opb (⟨x12, x13⟩ : spread_beam) Zdw rfl Zqy (pc Y0g (vt rfl) <| pc Zwc (vt rfl) <| pn rfl)) rfl <| Md rfl <| Ac (Ze4 rfl rfl (vt rfl) (vk rfl)) rfl <| Ac (Zj0 rfl rfl (vt rfl) (vk rfl)) rfl <| AOps.packF 41 2824 (fun v => (⟨n1, x2, x10.1, m6, v⟩ : spread_sun_o4)) (by decide) rfl rfl <| Cv rfl (Z10 41 (xs := [.tmp 41, .tmp 42, .tmp 46, .tmp 49]) (Y6s _ _ _ _ _ _ _ hb14) Zxv rfl rfl ⟨vt rfl, vt rfl, vt rfl, vt rfl, trivial⟩ rfl) fun _u => AOps.unboxF 41 2824 (by decide) rfl rfl fun v15 => Nl <| sq <| SR <| Mp rfl <| Nc rfl <| Zh Z7p Zcc rfl <| Ac (Z3e v15 rfl rfl Zb7 (vt rfl) (i := 41) rfl rfl) rfl <| Ac (Z6o 2824 rfl rfl Z7z (vt rfl) rfl) rfl <| Md rfl <| Ac (Z3i rfl rfl (vt rfl) (vt rfl)) rfl <| Nl <| Cq rfl h (fun h => ?_) (fun h => ?_)
   ·refine SR <| Ac (Zy (A := rd (Z1 Z0y) []) rfl rfl Z1i) rfl <| Ak rfl <| Nl <| rt ?_
    cases h; exact Z1m Tryz.results68 rfl (Za rfl) (Za rfl)
   ·refine sk <| SR <| Mp rfl <| Nc rfl <| Zh Z7p Zcc rfl <| Ac (Z3e v15 rfl rfl Zb7 (vt rfl) (i := 41) rfl rfl) rfl <| Aw rfl <| Ak rfl <| Nl <| AW.freezes [12, 54, 61] 2824 rfl ⟨rfl, rfl, rfl, trivial⟩ rfl <| rt ?_
    cases h; exact Z1m Tryz.results68 rfl (Za rfl) (Za rfl)
def Zdk : Option Bool :=
 (Zp9 3).bind fun x1 => (Zp9 5).bind fun x2 => (Zbm).bind fun x4 => (Zct (⟨[x1, x2], [(⟨0, 3, 1, 4⟩ : Link)]⟩ : Net) (⟨0, []⟩ : Env) 0 x4 4 100).bind fun x5 => (Zbm).bind fun x6 => (Zct (⟨[x1, x2], [(⟨0, 3, 1, 4⟩ : Link)]⟩ : Net) (⟨0, []⟩ : Env) 0 x6 4 0).bind fun x7 => (bif (((decide (x5.2 ≠ 0)) || (decide ((x5.1.length : Int) ≠ 1))) || (decide (x7.2 ≠ 5))) then some false else (lget x5.1 0).bind fun x8 => (Zf1 x8 (Vector.set (Vector.replicate 24 Z0j) 0 (⟨0, (9 : BitVec 64)⟩ : Wide) (by decide))).bind fun x9 => (lget x5.1 0).bind fun x11 => (Zgi x11 (Vector.replicate 24 Z0j)).bind fun x12 => some ((((x12 && x9.Left) && (decide (x9.At = 1))) && (decide (x9.Port = 5))) && (decide (((Vector.get x9.Header (⟨0, by decide⟩ : _root_.Fin 24)).Lo) = (4 : BitVec 64)))))
theorem Zly : Q0 Tryz.prog 66 (rd Z5) Zdk := fun r h => I0 Tryz.func66 rfl Tryz.ntmps66 rfl fun w H => by
 unfold Zdk at h
 refine SR <| Ab rfl <| Nl <| sq ?_
 obtain ⟨x1, hx1, x2, hx2, h⟩ := bs2 h
 refine Rg <| Ac (Z14 (xs := [.const (Value.int IntKind.i64 3)]) (Y0c _ _ hx1) Y5u rfl rfl ⟨vk rfl, trivial⟩) rfl <| Ac (Z14 (xs := [.const (Value.int IntKind.i64 5)]) (Y0c _ _ hx2) Y5u rfl rfl ⟨vk rfl, trivial⟩) rfl <| Ac (Zmw (ps := [(0, .tmp 7), (1, .tmp 8)]) (l := [x1, x2]) rfl rfl Z87 Zjk rfl rfl ⟨_, _, Lens.idx 2 Z0d 0 (by decide), _, rfl, (vt rfl), _, _, Lens.idx 2 Z0d 1 (by decide), _, rfl, (vt rfl), rfl⟩ rfl) rfl <| Ac (opb (⟨0, 3, 1, 4⟩ : Link) Zuz rfl Yh1 (pc Ydy (vk rfl) <| pc Yec (vk rfl) <| pc Yhd (vk rfl) <| pc Yd9 (vk rfl) <| pn rfl)) rfl <| Ac (osl Zg5 Zuz rfl (vt rfl)) rfl <| Ac (opb (⟨[x1, x2], [(⟨0, 3, 1, 4⟩ : Link)]⟩ : Net) Y52 rfl Ynh (pc Ybb (vt rfl) <| pc Yhg (vt rfl) <| pn rfl)) rfl <| Cv rfl (Zs 2 rfl rfl Y52) fun g3 => Zj Z6q 2 rfl <| Nl <| sq ?_
 obtain ⟨x4, hx4, x5, hx5, h⟩ := bs2 h
 refine AR Zw (by kernel_rfl) <| Zm Z6q 2 rfl <| Sd (lo [] [] rfl fun S hs hr => opb (⟨0, []⟩ : Env) Zwy rfl Y3q (pn rfl)) <| SCl [] (Zpq _ hx4) e73 rfl <| Sd (lo [14, 15, 16] [] rfl fun S hs hr => Z14 (xs := [.tmp 14, .tmp 15, .const (Value.int IntKind.i64 0), .tmp 16, .const (Value.int IntKind.i64 4), .const (Value.int IntKind.i64 100)]) (Zts _ _ _ _ _ _ _ hx5) e68 rfl rfl ⟨vt ((hs 14 rfl).trans rfl), vt ((hs 15 rfl).trans rfl), vk rfl, vt ((hs 16 rfl).trans rfl), vk rfl, vk rfl, trivial⟩) <| Sd (lo [17] [] rfl fun S hs hr => Zp (A := Z1b (rd (Z1 Z0y) x5.1) (rd (Z0 .i64) x5.2)) rfl rfl (vh hs 17 rfl rfl)) <| Sd (lo [13] [] rfl fun S hs hr => Z1n rfl rfl (vh hs 13 rfl rfl)) <| Sd (lo [13] [] rfl fun S hs hr => Z1l rfl rfl (vh hs 13 rfl rfl)) <| SAs rfl <| SAs rfl <| Sn <| sq ?_
 obtain ⟨x6, hx6, x7, hx7, h⟩ := bs2 h
 refine AR Zw (by kernel_rfl) <| Zm Z6q 2 rfl <| Sd (lo [] [] rfl fun S hs hr => opb (⟨0, []⟩ : Env) Zwy rfl Y3q (pn rfl)) <| SCl [] (Zpq _ hx6) e73 rfl <| Sd (lo [21, 22, 23] [] rfl fun S hs hr => Z14 (xs := [.tmp 21, .tmp 22, .const (Value.int IntKind.i64 0), .tmp 23, .const (Value.int IntKind.i64 4), .const (Value.int IntKind.i64 0)]) (Zts _ _ _ _ _ _ _ hx7) e68 rfl rfl ⟨vt ((hs 21 rfl).trans rfl), vt ((hs 22 rfl).trans rfl), vk rfl, vt ((hs 23 rfl).trans rfl), vk rfl, vk rfl, trivial⟩) <| Sd (lo [24] [] rfl fun S hs hr => Zp (A := Z1b (rd (Z1 Z0y) x7.1) (rd (Z0 .i64) x7.2)) rfl rfl (vh hs 24 rfl rfl)) <| Sd (lo [20] [] rfl fun S hs hr => Z1n rfl rfl (vh hs 20 rfl rfl)) <| Sd (lo [20] [] rfl fun S hs hr => Z1l rfl rfl (vh hs 20 rfl rfl)) <| SAs rfl <| SAs rfl <| Sn <| sq <| SR <| Md rfl <| Ac (Z4u rfl rfl (vt rfl) (vk rfl)) rfl <| Md rfl <| Gd rfl (fun hq => Zp (A := rd (Z1 Z0y) x5.1) rfl rfl (vt rfl)) <| Gd rfl (fun hq => Z0t rfl rfl Z7z (Zg rfl hq)) <| Gd rfl (fun hq => Z4u rfl rfl (Zg rfl hq) (vk rfl)) <| Ac (Z4o rfl rfl (vt rfl) (vt rfl)) rfl <| Md rfl <| Gd rfl (fun hq => Zp (A := rd (Z0 .i64) x7.2) rfl rfl (vt rfl)) <| Gd rfl (fun hq => Z4u rfl rfl (Zg rfl hq) (vk rfl)) <| Ac (Z4o rfl rfl (vt rfl) (vt rfl)) rfl <| Nl <| Cq rfl h (fun h => ?_) (fun h => ?_)
 ·refine SR <| Ab rfl <| Nl <| rt ?_
  cases h; exact Zf Tryz.results66 rfl (Za rfl)
 ·refine sk <| sq ?_
  obtain ⟨x8, hx8, x9, hx9, h⟩ := bs2 h
  refine Rg <| Md rfl <| Ac (Z0k rfl rfl Z7z (vt rfl) (vk rfl) hx8) rfl <| Lp1 Zfk rfl <| Ac (opb (⟨0, (9 : BitVec 64)⟩ : Wide) Z3p rfl Z74 (pc Z9c (vku (9 : BitVec 64) rfl) <| pn rfl)) rfl <| Ac (Z20 (ps := [(0, .tmp 41)]) (x := (Vector.set (Vector.replicate 24 Z0j) 0 (⟨0, (9 : BitVec 64)⟩ : Wide) (by decide))) rfl rfl rfl (by kernel_rfl) Z4r ⟨_, _, Lens.idx 24 Zd 0 (by decide), _, by kernel_rfl, (vt rfl), rfl⟩) rfl <| Cl [40, 42] (Zx3 _ _ _ hx9) e64 rfl <| Cv rfl (Zs 7 rfl rfl Zai) fun g10 => Zj Zq0 7 rfl <| Nl <| sq ?_
  obtain ⟨x11, hx11, x12, hx12, h⟩ := bs2 h
  refine Rg <| Md rfl <| Ac (Z0k rfl rfl Z7z (vt rfl) (vk rfl) hx11) rfl <| Lp1 Zfk rfl <| Ac (Z20 (ps := []) (x := (Vector.replicate 24 Z0j)) rfl rfl rfl (by kernel_rfl) Z4r rfl) rfl <| Cl [46, 47] (Zxz _ _ _ hx12) e62 rfl <| Md rfl <| Gd rfl (fun hq => Z2t lEnd_3 rfl rfl Zs3 (vt rfl)) <| Gd rfl (fun hq => Z29 rfl rfl ty4 (Zg rfl hq) (i := 7) rfl) <| Ac (Z21 rfl rfl (vt rfl) (vt rfl)) rfl <| Md rfl <| Gd rfl (fun hq => Z2t lEnd_0 rfl rfl Zs1 (vt rfl)) <| Gd rfl (fun hq => Z29 rfl rfl Zq (Zg rfl hq) (i := 7) rfl) <| Gd rfl (fun hq => Z1r rfl rfl (Zg rfl hq) (vk rfl)) <| Ac (Z21 rfl rfl (vt rfl) (vt rfl)) rfl <| Md rfl <| Gd rfl (fun hq => Z2t lEnd_1 rfl rfl Zud (vt rfl)) <| Gd rfl (fun hq => Z29 rfl rfl Zq (Zg rfl hq) (i := 7) rfl) <| Gd rfl (fun hq => Z1r rfl rfl (Zg rfl hq) (vk rfl)) <| Ac (Z21 rfl rfl (vt rfl) (vt rfl)) rfl <| Md rfl <| Gd rfl (fun hq => Z2t lEnd_4 rfl rfl Ztr (vt rfl)) <| Gd rfl (fun hq => Z2u rfl rfl Zdl (Zg rfl hq) (vk rfl) rfl) <| Gd rfl (fun hq => Z2t lWide_1 rfl rfl Z7r (Zg rfl hq)) <| Gd rfl (fun hq => Z29 rfl rfl Z2p (Zg rfl hq) (i := 7) rfl) <| Gd rfl (fun hq => Zx6 rfl rfl (Zg rfl hq) (vku (4 : BitVec 64) rfl)) <| Ac (Z21 rfl rfl (vt rfl) (vt rfl)) rfl <| As rfl <| Nl <| rt ?_
  cases h; exact Zf Tryz.results66 rfl (Za rfl)
def Zd5 (s1 : (List Switch)) (x2 : (Switch → Option Bool)) : Nat → Nat → Option Int
 | 0, i3 => some (-1)
 | m4 + 1, i3 => (lget s1 (i3 : Int)).bind fun x5 => (x2 x5).bind fun x6 => (bif x6 then some (i3 : Int) else (Zd5 s1 x2 m4) (i3 + 1))
def Zj5 (s1 : (List Switch)) (x2 : (Switch → Option Bool)) : Option Int :=
 Zd5 s1 x2 ((s1.length : Int) : Int).toNat 0
theorem Ybz : Q2 Tryz.prog 190 (rd (Z1 Z0d)) (fn1 Tryz.prog Z0d Z5) (rd (Z0 .i64)) Zj5 := fun s1 x2 r h => I0 Tryz.func190 rfl Tryz.ntmps190 rfl fun w H => by
 unfold Zj5 at h
 refine SR <| Ak rfl <| Nl <| sq <| SR <| Md rfl <| Ac (Z0t rfl rfl Z87 (vt rfl)) rfl <| Mk rfl <| Nl <| bk <| LG (d := []) (ν := Nat × Nat) (fun (m4, i3) => (Cnt (s1.length : Int) i3 m4 ∧ Zd5 s1 x2 m4 i3 = some r, m4, [(0, rd (Z1 Z0d) s1), (1, fn1 Tryz.prog Z0d Z5 x2), (7, rd (Z0 .i64) (s1.length : Int)), (8, rd (Z0 .i64) (i3 : Int))], [])) (((s1.length : Int) : Int).toNat, 0) ⟨Cnt.start _, h⟩ (FX rfl) ?_
 rintro ⟨m4, i3⟩ ⟨hsf1, h⟩
 dsimp only at hsf1 h ⊢
 cases m4 with
 | zero =>
  unfold Zd5 at h
  refine SR <| Ac (Zi rfl rfl (vt rfl) (vt rfl)) rfl <| Nl <| sq <| Cn rfl (fun hc => absurd (of_decide_eq_true hc) hsf1.zero) (fun hc => ?_)
  refine xt <| SR <| Ak rfl <| Nl <| rt ?_
  cases h; exact Zf Tryz.results190 rfl (Za rfl)
 | succ m4 =>
  unfold Zd5 at h
  refine SR <| Ac (Zi rfl rfl (vt rfl) (vt rfl)) rfl <| Nl <| sq <| Cn rfl (fun hc => ?_) (fun hc => absurd hsf1.succ (of_decide_eq_false hc))
  have hlti3 := of_decide_eq_true hc
  refine sk <| sq <| bk <| SR <| Md rfl <| As rfl <| Nl <| sq ?_
  obtain ⟨x5, hx5, x6, hx6, h⟩ := bs2 h
  refine Rg <| Ac (Zp (A := fn1 Tryz.prog Z0d Z5 x2) rfl rfl (vt rfl)) rfl <| Md rfl <| Md rfl <| Ac (Z0k rfl rfl Z87 (vt rfl) (vt rfl) hx5) rfl <| Lp1 Z5s rfl <| Ac (Z88 hx6 rfl rfl (vt rfl) (vt rfl)) rfl <| Nl <| Cq rfl h (fun h => ?_) (fun h => ?_)
  ·refine SR <| Md rfl <| As rfl <| Nl <| rt ?_
   cases h; exact Zf Tryz.results190 rfl (Za rfl)
  ·refine sk <| Rg <| Ac (Z0u (t := 7) rfl rfl (vt rfl) (vk rfl) (vt rfl) hlti3) rfl <| Md rfl <| Nl ?_
   exact ⟨(_, _), Nat.lt_succ_self _, ⟨hsf1.next, h⟩, FX rfl⟩
def Zpa (s1 : (List Switch)) (x2 : (Switch → Option Bool)) : Option Bool :=
 (Zj5 s1 x2).bind fun x3 => some (decide (x3 ≥ 0))
theorem Yig : Q2 Tryz.prog 121 (rd (Z1 Z0d)) (fn1 Tryz.prog Z0d Z5) (rd Z5) Zpa := fun s1 x2 r h => I0 Tryz.func121 rfl Tryz.ntmps121 rfl fun w H => by
 unfold Zpa at h
 refine SR <| Ab rfl <| Nl <| sq ?_
 obtain ⟨x3, hx3, h⟩ := Z8 h
 refine Rg <| Md rfl <| Ac (Zp (A := fn1 Tryz.prog Z0d Z5 x2) rfl rfl (vt rfl)) rfl <| Cl [5, 6] (Ybz _ _ _ hx3) Yfd rfl <| Ac (Z3z rfl rfl (vt rfl) (vk rfl)) rfl <| As rfl <| Nl <| rt ?_
 cases h; exact Zf Tryz.results121 rfl (Za rfl)
def Ze6 (s1 : (List Flow)) (x2 : (Flow → Option Bool)) : Nat → Nat → Option Int
 | 0, i3 => some (-1)
 | m4 + 1, i3 => (lget s1 (i3 : Int)).bind fun x5 => (x2 x5).bind fun x6 => (bif x6 then some (i3 : Int) else (Ze6 s1 x2 m4) (i3 + 1))
def Zki (s1 : (List Flow)) (x2 : (Flow → Option Bool)) : Option Int :=
 Ze6 s1 x2 ((s1.length : Int) : Int).toNat 0
theorem Ylw : Q2 Tryz.prog 198 (rd (Z1 Z16)) (fn1 Tryz.prog Z16 Z5) (rd (Z0 .i64)) Zki := fun s1 x2 r h => I0 Tryz.func198 rfl Tryz.ntmps198 rfl fun w H => by
 unfold Zki at h
 refine SR <| Ak rfl <| Nl <| sq <| SR <| Md rfl <| Ac (Z0t rfl rfl Z5p (vt rfl)) rfl <| Mk rfl <| Nl <| bk <| LG (d := []) (ν := Nat × Nat) (fun (m4, i3) => (Cnt (s1.length : Int) i3 m4 ∧ Ze6 s1 x2 m4 i3 = some r, m4, [(0, rd (Z1 Z16) s1), (1, fn1 Tryz.prog Z16 Z5 x2), (7, rd (Z0 .i64) (s1.length : Int)), (8, rd (Z0 .i64) (i3 : Int))], [])) (((s1.length : Int) : Int).toNat, 0) ⟨Cnt.start _, h⟩ (FX rfl) ?_
 rintro ⟨m4, i3⟩ ⟨hsf1, h⟩
 dsimp only at hsf1 h ⊢
 cases m4 with
 | zero =>
  unfold Ze6 at h
  refine SR <| Ac (Zi rfl rfl (vt rfl) (vt rfl)) rfl <| Nl <| sq <| Cn rfl (fun hc => absurd (of_decide_eq_true hc) hsf1.zero) (fun hc => ?_)
  refine xt <| SR <| Ak rfl <| Nl <| rt ?_
  cases h; exact Zf Tryz.results198 rfl (Za rfl)
 | succ m4 =>
  unfold Ze6 at h
  refine SR <| Ac (Zi rfl rfl (vt rfl) (vt rfl)) rfl <| Nl <| sq <| Cn rfl (fun hc => ?_) (fun hc => absurd hsf1.succ (of_decide_eq_false hc))
  have hlti3 := of_decide_eq_true hc
  refine sk <| sq <| bk <| SR <| Md rfl <| As rfl <| Nl <| sq ?_
  obtain ⟨x5, hx5, x6, hx6, h⟩ := bs2 h
  refine Rg <| Ac (Zp (A := fn1 Tryz.prog Z16 Z5 x2) rfl rfl (vt rfl)) rfl <| Md rfl <| Md rfl <| Ac (Z0k rfl rfl Z5p (vt rfl) (vt rfl) hx5) rfl <| Lp1 Z9m rfl <| Ac (Z88 hx6 rfl rfl (vt rfl) (vt rfl)) rfl <| Nl <| Cq rfl h (fun h => ?_) (fun h => ?_)
  ·refine SR <| Md rfl <| As rfl <| Nl <| rt ?_
   cases h; exact Zf Tryz.results198 rfl (Za rfl)
  ·refine sk <| Rg <| Ac (Z0u (t := 7) rfl rfl (vt rfl) (vk rfl) (vt rfl) hlti3) rfl <| Md rfl <| Nl ?_
   exact ⟨(_, _), Nat.lt_succ_self _, ⟨hsf1.next, h⟩, FX rfl⟩
def Zjq (s1 : (List Flow)) (x2 : (Flow → Option Bool)) : Option Bool :=
 (Zki s1 x2).bind fun x3 => some (decide (x3 ≥ 0))
theorem Yh8 : Q2 Tryz.prog 132 (rd (Z1 Z16)) (fn1 Tryz.prog Z16 Z5) (rd Z5) Zjq := fun s1 x2 r h => I0 Tryz.func132 rfl Tryz.ntmps132 rfl fun w H => by
 unfold Zjq at h
 refine SR <| Ab rfl <| Nl <| sq ?_
 obtain ⟨x3, hx3, h⟩ := Z8 h
 refine Rg <| Md rfl <| Ac (Zp (A := fn1 Tryz.prog Z16 Z5 x2) rfl rfl (vt rfl)) rfl <| Cl [5, 6] (Ylw _ _ _ hx3) Y95 rfl <| Ac (Z3z rfl rfl (vt rfl) (vk rfl)) rfl <| As rfl <| Nl <| rt ?_
 cases h; exact Zf Tryz.results132 rfl (Za rfl)
end Go.Proofs.YtknpgojdkobgjaaGreat.W
set_option maxRecDepth 4000
namespace Go.Proofs.YtknpgojdkobgjaaGreat.W
open Go Go.Wb
theorem Y4l : Ent Tryz.prog 165 := Ent.mk Tryz.func165 rfl rfl
theorem Y6l : Ent Tryz.prog 256 := Ent.mk Tryz.func256 rfl rfl
theorem Ycz : Ent Tryz.prog 257 := Ent.mk Tryz.func257 rfl rfl
theorem Y6b : Ent Tryz.prog 199 := Ent.mk Tryz.func199 rfl rfl
theorem Yhm : Ent Tryz.prog 134 := Ent.mk Tryz.func134 rfl rfl
theorem Yn1 : Ent Tryz.prog 132 := Ent.mk Tryz.func132 rfl rfl
theorem Yla : Ent Tryz.prog 133 := Ent.mk Tryz.func133 rfl rfl
def Ziv (s1 : (List Inst)) (x2 : (Inst → Option Bool)) : Option Bool :=
 (Zgz s1 x2).bind fun x3 => some (decide (x3 ≥ 0))
theorem Yni : Q2 Tryz.prog 256 (rd (Z1 Z1e)) (fn1 Tryz.prog Z1e Z5) (rd Z5) Ziv := fun s1 x2 r h => I0 Tryz.func256 rfl Tryz.ntmps256 rfl fun w H => by
 unfold Ziv at h
 refine SR <| Ab rfl <| Nl <| sq ?_
 obtain ⟨x3, hx3, h⟩ := Z8 h
 refine Rg <| Md rfl <| Ac (Zp (A := fn1 Tryz.prog Z1e Z5 x2) rfl rfl (vt rfl)) rfl <| Cl [5, 6] (Zvo _ _ _ hx3) Zx5 rfl <| Ac (Z3z rfl rfl (vt rfl) (vk rfl)) rfl <| As rfl <| Nl <| rt ?_
 cases h; exact Zf Tryz.results256 rfl (Za rfl)
def Zmx (l1 : (List Action)) : Option Bool :=
 some (decide ((l1.length : Int) ≤ 12))
theorem Y13 : Q1 Tryz.prog 165 (rd (Z1 Z9)) (rd Z5) Zmx := fun l1 r h => I0 Tryz.func165 rfl Tryz.ntmps165 rfl fun w H => by
 unfold Zmx at h
 refine SR <| Ab rfl <| Nl <| SR <| Md rfl <| Ac (Z0t rfl rfl Z13 (vt rfl)) rfl <| Ac (Z76 rfl rfl (vt rfl) (vk rfl)) rfl <| As rfl <| Nl <| rt ?_
 cases h; exact Zf Tryz.results165 rfl (Za rfl)
def Zod (i1 : Inst) : Option Bool :=
 (Zmx i1.Acts).bind fun x3 => some (!x3)
theorem Yd3 : Q1 Tryz.prog 257 (rd Z1e) (rd Z5) Zod := fun i1 r h => I0 Tryz.func257 rfl Tryz.ntmps257 rfl fun w H => by
 unfold Zod at h
 refine SR <| Cv rfl (Zn 2 rfl rfl (vt rfl)) fun g2 => Ab rfl <| Nl <| sq ?_
 obtain ⟨x3, hx3, h⟩ := Z8 h
 refine Rg <| Zh lInst_4 Zb2 rfl <| Ld Z3d 2 rfl <| Cl [4] (Y13 _ _ hx3) Y4l rfl <| Ac (Z0z rfl rfl (vt rfl)) rfl <| As rfl <| Nl <| rt ?_
 cases h; exact Zf Tryz.results257 rfl (Za rfl)
def Zi3 (l1 : (List Inst)) : Option Bool :=
 (opt (decide ((l1.length : Int) ≤ 8)) (Ziv l1 Zod)).bind fun x2 => some ((decide ((l1.length : Int) ≤ 8)) && (!x2))
theorem Ygv : Q1 Tryz.prog 199 (rd (Z1 Z1e)) (rd Z5) Zi3 := fun l1 r h => I0 Tryz.func199 rfl Tryz.ntmps199 rfl fun w H => by
 unfold Zi3 at h
 refine SR <| Ab rfl <| Nl <| sq ?_
 obtain ⟨x2, hx2, h⟩ := Z8 h
 refine Rg <| Md rfl <| Ac (Z0t rfl rfl Zck (vt rfl)) rfl <| Ac (Z76 rfl rfl (vt rfl) (vk rfl)) rfl <| Md rfl <| Gd rfl (fun hq => Zp (A := rd (Z1 Z1e) l1) rfl rfl (vt rfl)) <| Gd rfl (fun hq => Z14 (xs := [.tmp 7, .func 257]) (Yni _ _ _ (Z3t hx2 hq)) Y6l rfl rfl ⟨Zg rfl hq, vf1 Ycz Yd3, trivial⟩) <| Gd rfl (fun hq => Z0z rfl rfl (Zg rfl hq)) <| Ac (Z21 rfl rfl (vt rfl) (vt rfl)) rfl <| As rfl <| Nl <| rt ?_
 cases h; exact Zf Tryz.results199 rfl (Za rfl)
def Zji (x1 : Flow) : Option Bool :=
 (opt (decide ((x1.Match.length : Int) ≤ 30)) (Zi3 x1.Insts)).bind fun x3 => some ((decide ((x1.Match.length : Int) ≤ 30)) && x3)
theorem Ymi : Q1 Tryz.prog 134 (rd Z16) (rd Z5) Zji := fun x1 r h => I0 Tryz.func134 rfl Tryz.ntmps134 rfl fun w H => by
 unfold Zji at h
 refine SR <| Cv rfl (Zn 2 rfl rfl (vt rfl)) fun g2 => Ab rfl <| Nl <| sq ?_
 obtain ⟨x3, hx3, h⟩ := Z8 h
 refine Rg <| Zh Zrv Zxu rfl <| Ld Zzq 2 rfl <| Ac (Z0t rfl rfl Zu5 (vt rfl)) rfl <| Ac (Z76 rfl rfl (vt rfl) (vk rfl)) rfl <| Md rfl <| Gd rfl (fun hq => Z2t lFlow_6 rfl rfl Zp0 (vt rfl)) <| Gd rfl (fun hq => Z29 rfl rfl Zot (Zg rfl hq) (i := 2) rfl) <| Gd rfl (fun hq => Z14 (xs := [.tmp 9]) (Ygv _ _ (Z3t hx3 hq)) Y6b rfl rfl ⟨Zg rfl hq, trivial⟩) <| Ac (Z21 rfl rfl (vt rfl) (vt rfl)) rfl <| As rfl <| Nl <| rt ?_
 cases h; exact Zf Tryz.results134 rfl (Za rfl)
def Zkq (x1 : Flow) : Option Bool :=
 (Zji x1).bind fun x3 => some (!x3)
theorem Ybg : Q1 Tryz.prog 133 (rd Z16) (rd Z5) Zkq := fun x1 r h => I0 Tryz.func133 rfl Tryz.ntmps133 rfl fun w H => by
 unfold Zkq at h
 refine SR <| Cv rfl (Zn 2 rfl rfl (vt rfl)) fun g2 => Ab rfl <| Nl <| sq ?_
 obtain ⟨x3, hx3, h⟩ := Z8 h
 refine Rg <| Ld Z9m 2 rfl <| Cl [3] (Ymi _ _ hx3) Yhm rfl <| Ac (Z0z rfl rfl (vt rfl)) rfl <| As rfl <| Nl <| rt ?_
 cases h; exact Zf Tryz.results133 rfl (Za rfl)
def Zky (l1 : (List Flow)) (m2 : Int) : Option Bool :=
 (opt (decide ((l1.length : Int) ≤ m2)) (Zjq l1 Zkq)).bind fun x3 => some ((decide ((l1.length : Int) ≤ m2)) && (!x3))
theorem Yfm : Q2 Tryz.prog 74 (rd (Z1 Z16)) (rd (Z0 .i64)) (rd Z5) Zky := fun l1 m2 r h => I0 Tryz.func74 rfl Tryz.ntmps74 rfl fun w H => by
 unfold Zky at h
 refine SR <| Ab rfl <| Nl <| sq ?_
 obtain ⟨x3, hx3, h⟩ := Z8 h
 refine Rg <| Md rfl <| Ac (Z0t rfl rfl Z5p (vt rfl)) rfl <| Md rfl <| Ac (Z76 rfl rfl (vt rfl) (vt rfl)) rfl <| Md rfl <| Gd rfl (fun hq => Zp (A := rd (Z1 Z16) l1) rfl rfl (vt rfl)) <| Gd rfl (fun hq => Z14 (xs := [.tmp 10, .func 133]) (Yh8 _ _ _ (Z3t hx3 hq)) Yn1 rfl rfl ⟨Zg rfl hq, vf1 Yla Ybg, trivial⟩) <| Gd rfl (fun hq => Z0z rfl rfl (Zg rfl hq)) <| Ac (Z21 rfl rfl (vt rfl) (vt rfl)) rfl <| As rfl <| Nl <| rt ?_
 cases h; exact Zf Tryz.results74 rfl (Za rfl)
def Ziz (s1 : (List Bucket)) (x2 : (Bucket → Option Bool)) : Option Bool :=
 (Zhr s1 x2).bind fun x3 => some (decide (x3 ≥ 0))
theorem Yg7 : Q2 Tryz.prog 163 (rd (Z1 Z1y)) (fn1 Tryz.prog Z1y Z5) (rd Z5) Ziz := fun s1 x2 r h => I0 Tryz.func163 rfl Tryz.ntmps163 rfl fun w H => by
 unfold Ziz at h
 refine SR <| Ab rfl <| Nl <| sq ?_
 obtain ⟨x3, hx3, h⟩ := Z8 h
 refine Rg <| Md rfl <| Ac (Zp (A := fn1 Tryz.prog Z1y Z5 x2) rfl rfl (vt rfl)) rfl <| Cl [5, 6] (Zv7 _ _ _ hx3) Zzw rfl <| Ac (Z3z rfl rfl (vt rfl) (vk rfl)) rfl <| As rfl <| Nl <| rt ?_
 cases h; exact Zf Tryz.results163 rfl (Za rfl)
def Zn8 (x1 : Bucket) : Option Bool :=
 (Zmx x1.Acts).bind fun x3 => some (!x3)
theorem Y8j : Q1 Tryz.prog 164 (rd Z1y) (rd Z5) Zn8 := fun x1 r h => I0 Tryz.func164 rfl Tryz.ntmps164 rfl fun w H => by
 unfold Zn8 at h
 refine SR <| Cv rfl (Zn 2 rfl rfl (vt rfl)) fun g2 => Ab rfl <| Nl <| sq ?_
 obtain ⟨x3, hx3, h⟩ := Z8 h
 refine Rg <| Zh Zd2 Zhs rfl <| Ld Z3d 2 rfl <| Cl [4] (Y13 _ _ hx3) Y4l rfl <| Ac (Z0z rfl rfl (vt rfl)) rfl <| As rfl <| Nl <| rt ?_
 cases h; exact Zf Tryz.results164 rfl (Za rfl)
end Go.Proofs.YtknpgojdkobgjaaGreat.W
set_option maxRecDepth 4000
namespace Go.Proofs.YtknpgojdkobgjaaGreat.W
open Go Go.Wb
theorem Ylt : Ent Tryz.prog 163 := Ent.mk Tryz.func163 rfl rfl
theorem Yo2 : Ent Tryz.prog 164 := Ent.mk Tryz.func164 rfl rfl
theorem Yi6 : Ent Tryz.prog 100 := Ent.mk Tryz.func100 rfl rfl
theorem e99 : Ent Tryz.prog 99 := Ent.mk Tryz.func99 rfl rfl
theorem e98 : Ent Tryz.prog 98 := Ent.mk Tryz.func98 rfl rfl
theorem e40 : Ent Tryz.prog 40 := Ent.mk Tryz.func40 rfl rfl
theorem e74 : Ent Tryz.prog 74 := Ent.mk Tryz.func74 rfl rfl
theorem Ynm : Ent Tryz.prog 251 := Ent.mk Tryz.func251 rfl rfl
theorem Y3i : Ent Tryz.prog 191 := Ent.mk Tryz.func191 rfl rfl
theorem e21 : Ent Tryz.prog 21 := Ent.mk Tryz.func21 rfl rfl
theorem Ykq : Ent Tryz.prog 123 := Ent.mk Tryz.func123 rfl rfl
def Zik (l1 : (List Bucket)) (m2 : Int) : Option Bool :=
 (opt (decide ((l1.length : Int) ≤ m2)) (Ziz l1 Zn8)).bind fun x3 => some ((decide ((l1.length : Int) ≤ m2)) && (!x3))
theorem Ygf : Q2 Tryz.prog 100 (rd (Z1 Z1y)) (rd (Z0 .i64)) (rd Z5) Zik := fun l1 m2 r h => I0 Tryz.func100 rfl Tryz.ntmps100 rfl fun w H => by
 unfold Zik at h
 refine SR <| Ab rfl <| Nl <| sq ?_
 obtain ⟨x3, hx3, h⟩ := Z8 h
 refine Rg <| Md rfl <| Ac (Z0t rfl rfl Z5w (vt rfl)) rfl <| Md rfl <| Ac (Z76 rfl rfl (vt rfl) (vt rfl)) rfl <| Md rfl <| Gd rfl (fun hq => Zp (A := rd (Z1 Z1y) l1) rfl rfl (vt rfl)) <| Gd rfl (fun hq => Z14 (xs := [.tmp 10, .func 164]) (Yg7 _ _ _ (Z3t hx3 hq)) Ylt rfl rfl ⟨Zg rfl hq, vf1 Yo2 Y8j, trivial⟩) <| Gd rfl (fun hq => Z0z rfl rfl (Zg rfl hq)) <| Ac (Z21 rfl rfl (vt rfl) (vt rfl)) rfl <| As rfl <| Nl <| rt ?_
 cases h; exact Zf Tryz.results100 rfl (Za rfl)
def Zh8 (x1 : Group) (x2 : Int) : Option Bool :=
 (Zik x1.Buckets x2).bind fun x4 => some (!x4)
theorem Ye9 : Q2 Tryz.prog 99 (rd Zz) (rp (Z0 .i64)) (rd Z5) Zh8 := fun x1 x2 r h => I0 Tryz.func99 rfl Tryz.ntmps99 rfl fun w H => by
 unfold Zh8 at h
 refine SR <| Cv rfl (Zn 3 rfl rfl (vt rfl)) fun g3 => Ab rfl <| Nl <| sq ?_
 obtain ⟨x4, hx4, h⟩ := Z8 h
 refine Rg <| Zh Z80 Z8p rfl <| Ld Z8l 3 rfl <| Lp1 Zq rfl <| Cl [5, 6] (Ygf _ _ _ hx4) Yi6 rfl <| Ac (Z0z rfl rfl (vt rfl)) rfl <| As rfl <| Nl <| rt ?_
 cases h; exact Zf Tryz.results99 rfl (Za rfl)
def Zkz (s1 : (List Group)) (x2 : (Group → Option Bool)) : Option Bool :=
 (Ze7 s1 x2).bind fun x3 => some (decide (x3 ≥ 0))
theorem Ym1 : Q2 Tryz.prog 98 (rd (Z1 Zz)) (fn1 Tryz.prog Zz Z5) (rd Z5) Zkz := fun s1 x2 r h => I0 Tryz.func98 rfl Tryz.ntmps98 rfl fun w H => by
 unfold Zkz at h
 refine SR <| Ab rfl <| Nl <| sq ?_
 obtain ⟨x3, hx3, h⟩ := Z8 h
 refine Rg <| Md rfl <| Ac (Zp (A := fn1 Tryz.prog Zz Z5 x2) rfl rfl (vt rfl)) rfl <| Cl [5, 6] (Zsq _ _ _ hx3) Zug rfl <| Ac (Z3z rfl rfl (vt rfl) (vk rfl)) rfl <| As rfl <| Nl <| rt ?_
 cases h; exact Zf Tryz.results98 rfl (Za rfl)
def Zjh (l1 : (List Group)) (m2 : Int) (b3 : Int) : Option Bool :=
 (opt (decide ((l1.length : Int) ≤ m2)) (Zkz l1 (fun x => Zh8 x b3))).bind fun x5 => some ((decide ((l1.length : Int) ≤ m2)) && (!x5))
theorem Ynu : Q3 Tryz.prog 40 (rd (Z1 Zz)) (rd (Z0 .i64)) (rd (Z0 .i64)) (rd Z5) Zjh := fun l1 m2 b3 r h => I0 Tryz.func40 rfl Tryz.ntmps40 rfl fun w H => by
 unfold Zjh at h
 refine SR <| Cv rfl (Zn 6 rfl rfl (vt rfl)) fun g4 => Ab rfl <| Nl <| sq <| AW.freezeB 5 6 rfl rfl rfl ?_
 obtain ⟨x5, hx5, h⟩ := Z8 h
 refine Rg <| Md rfl <| Ac (Z0t rfl rfl Z5g (vt rfl)) rfl <| Md rfl <| Ac (Z76 rfl rfl (vt rfl) (vt rfl)) rfl <| Md rfl <| Gd rfl (fun hq => Zp (A := rd (Z1 Zz) l1) rfl rfl (vt rfl)) <| Gd rfl (fun hq => Z7n (cs := [.tmp 5]) (CAs := [rp (Z0 .i64) b3]) (fun x => Zh8 x b3) rfl rfl e99 ⟨vt rfl, trivial⟩ (fun x y h => Ye9 _ _ y h)) <| Gd rfl (fun hq => Z14 (xs := [.tmp 12, .tmp 13]) (Ym1 _ _ _ (Z3t hx5 hq)) e98 rfl rfl ⟨Zg rfl hq, Zg rfl hq, trivial⟩) <| Gd rfl (fun hq => Z0z rfl rfl (Zg rfl hq)) <| Ac (Z21 rfl rfl (vt rfl) (vt rfl)) rfl <| As rfl <| Nl <| rt ?_
 cases h; exact Zf Tryz.results40 rfl (Za rfl)
def Zc2 (s1 : Switch) (m2 : Int) : (List (List Flow)) → Nat → Option Bool
 | [], i4 => (Zjh s1.Groups 9 3).bind fun x6 => some x6
 | x7 :: l5, i4 => (Zky x7 m2).bind fun x8 => (bif (!x8) then some false else (Zc2 s1 m2 l5) (i4 + 1))
def Zph (s1 : Switch) (m2 : Int) : Option Bool :=
 Zc2 s1 m2 (Vector.toList s1.Tables) 0
theorem Yj7 : Q2 Tryz.prog 21 (rd Z0d) (rd (Z0 .i64)) (rd Z5) Zph := fun s1 m2 r h => I0 Tryz.func21 rfl Tryz.ntmps21 rfl fun w H => by
 unfold Zph at h
 refine SR <| Cv rfl (Zn 3 rfl rfl (vt rfl)) fun g3 => Ab rfl <| Nl <| sq <| SR <| Zh Zbd Ze2 rfl <| Ld Y4g 3 rfl <| Mk rfl <| Nl <| bk <| LG (d := []) (ν := (List (List Flow)) × Nat) (fun (l5, i4) => (Sfx (Vector.toList s1.Tables) i4 l5 ∧ Zc2 s1 m2 l5 i4 = some r, l5.length, [(1, rd (Z0 .i64) m2), (2, Z7 g3 (Lens.id Z0d)), (8, rd (Z3 4 (Z1 Z16)) s1.Tables), (9, rd (Z0 .i64) (i4 : Int))], [(3, Zc g3 26 Z0d s1)])) ((Vector.toList s1.Tables), 0) ⟨Sfx.start _, h⟩ (FX rfl) ?_
 rintro ⟨l5, i4⟩ ⟨hsf1, h⟩
 dsimp only at hsf1 h ⊢
 cases l5 with
 | nil =>
  unfold Zc2 at h
  refine SR <| Ac (Zi rfl rfl (vt rfl) (vk rfl)) rfl <| Nl <| sq <| Cn rfl (fun hc => absurd (of_decide_eq_true hc) (hsf1.niln (by simp))) (fun hc => ?_)
  refine xt <| sq ?_
  obtain ⟨x6, hx6, h⟩ := Z8 h
  refine Rg <| Zh Zim Zm8 rfl <| Ld Zes 3 rfl <| Ac (Z14 (xs := [.tmp 18, .const (Value.int IntKind.i64 9), .const (Value.int IntKind.i64 3)]) (Ynu _ _ _ _ hx6) e40 rfl rfl ⟨vt rfl, vk rfl, vk rfl, trivial⟩) rfl <| As rfl <| Nl <| rt ?_
  cases h; exact Zf Tryz.results21 rfl (Za rfl)
 | cons x7 l5 =>
  unfold Zc2 at h
  refine SR <| Ac (Zi rfl rfl (vt rfl) (vk rfl)) rfl <| Nl <| sq <| Cn rfl (fun hc => ?_) (fun hc => absurd (hsf1.consn (by simp)) (of_decide_eq_false hc))
  have hlti4 := of_decide_eq_true hc
  refine sk <| sq <| bk <| SR <| Ac (Z97 rfl rfl Zec Z5u (vt rfl) (vt rfl) hsf1.lget) rfl <| As rfl <| Nl <| sq ?_
  obtain ⟨x8, hx8, h⟩ := Z8 h
  refine Rg <| Md rfl <| Md rfl <| Cl [12, 13] (Yfm _ _ _ hx8) e74 rfl <| Ac (Z0z rfl rfl (vt rfl)) rfl <| Nl <| Cq rfl h (fun h => ?_) (fun h => ?_)
  ·refine SR <| Ab rfl <| Nl <| rt ?_
   cases h; exact Zf Tryz.results21 rfl (Za rfl)
  ·refine sk <| Rg <| Ac (Z7a rfl rfl (vt rfl) (vk rfl) rfl hlti4) rfl <| Md rfl <| Nl ?_
   exact ⟨(_, _), Nat.lt_succ_self _, ⟨hsf1.next, h⟩, FX rfl⟩
def Zkl (x1 : Group) (x2 : Action) : Option Bool :=
 some (decide (x1.ID = x2.Group))
theorem Yhw : Q2 Tryz.prog 251 (rd Zz) (rp Z9) (rd Z5) Zkl := fun x1 x2 r h => I0 Tryz.func251 rfl Tryz.ntmps251 rfl fun w H => by
 unfold Zkl at h
 refine SR <| Cv rfl (Zn 3 rfl rfl (vt rfl)) fun g3 => Ab rfl <| Nl <| SR <| Zh Zns Zsn rfl <| Ld Zq 3 rfl <| Fp Zlw Zqn rfl <| Lp1 Zq rfl <| Ac (Z1r rfl rfl (vt rfl) (vt rfl)) rfl <| As rfl <| Nl <| rt ?_
 cases h; exact Zf Tryz.results251 rfl (Za rfl)
def Zcb (go1 : Nat → Int → Option Int) (i6 : Nat) (m3 : Int) (R_pl_ways : ((List Group) → (List Action) → Int → Option Int)) (l1 : (List Group)) : (List Bucket) → Nat → Int → Option Int
 | [], i14, n13 => go1 (i6 + 1) n13
 | x16 :: l15, i14, n13 => (bif (decide (n13 ≤ m3)) then (R_pl_ways l1 x16.Acts (IntKind.i64.wrap ((IntKind.i64.wrap (m3 - n13)) - 1))).bind fun x18 => (Zcb go1 i6 m3 R_pl_ways l1 l15) (i14 + 1) (IntKind.i64.wrap (n13 + (Z1f 1 x18))) else (Zcb go1 i6 m3 R_pl_ways l1 l15) (i14 + 1) n13)
def Z7x (m3 : Int) (l1 : (List Group)) (R_pl_ways : ((List Group) → (List Action) → Int → Option Int)) : (List Action) → Nat → Int → Option Int
 | [], i6, n5 => some n5
 | x8 :: l7, i6, n5 => (bif (decide (n5 > m3)) then some n5 else (bif (decide (x8.Kind = 0)) then (Z7x m3 l1 R_pl_ways l7) (i6 + 1) (IntKind.i64.wrap (n5 + 1)) else (bif (decide (x8.Kind = 22)) then (Ze7 l1 (fun x => Zkl x x8)).bind fun x10 => (bif (decide (x10 < 0)) then (Z7x m3 l1 R_pl_ways l7) (i6 + 1) n5 else (lget l1 x10).bind fun x11 => Zcb (Z7x m3 l1 R_pl_ways l7) i6 m3 R_pl_ways l1 x11.Buckets 0 n5) else (Z7x m3 l1 R_pl_ways l7) (i6 + 1) n5)))
def Zr9 (R_pl_ways : ((List Group) → (List Action) → Int → Option Int)) (l1 : (List Group)) (a2 : (List Action)) (m3 : Int) : Option Int :=
 Z7x m3 l1 R_pl_ways a2 0 0
theorem Y7l (R_pl_ways : ((List Group) → (List Action) → Int → Option Int)) (hR_pl_ways : ∀ (l1 : (List Group)) (a2 : (List Action)) (m3 : Int) (r : Int), R_pl_ways l1 a2 m3 = some r → PCon Tryz.prog 191 [rd (Z1 Zz) l1, rd (Z1 Z9) a2, rd (Z0 .i64) m3] (rd (Z0 .i64) r)) (l1 : (List Group)) (a2 : (List Action)) (m3 : Int) (r : Int) (h : Zr9 R_pl_ways l1 a2 m3 = some r) : PCon Tryz.prog 191 [rd (Z1 Zz) l1, rd (Z1 Z9) a2, rd (Z0 .i64) m3] (rd (Z0 .i64) r) := by
 refine PCon.of (Con.intro0 Tryz.func191 rfl Tryz.ntmps191 rfl fun w H => ?_)
 unfold Zr9 at h
 refine SR <| Ak rfl <| Nl <| SR <| Ak rfl <| Nl <| sq <| SR <| Md rfl <| Ac (Z0t rfl rfl Z13 (vt rfl)) rfl <| Mk rfl <| Nl <| bk <| LG (d := []) (ν := (List Action) × Nat × Int) (fun (l7, i6, n5) => (Sfx a2 i6 l7 ∧ Z7x m3 l1 R_pl_ways l7 i6 n5 = some r, l7.length, [(0, rd (Z1 Zz) l1), (2, rd (Z0 .i64) m3), (7, rd (Z0 .i64) n5), (13, rd (Z1 Z9) a2), (14, rd (Z0 .i64) (a2.length : Int)), (15, rd (Z0 .i64) (i6 : Int))], [])) (a2, 0, 0) ⟨Sfx.start _, h⟩ (FX rfl) ?_
 rintro ⟨l7, i6, n5⟩ ⟨hsf1, h⟩
 dsimp only at hsf1 h ⊢
 cases l7 with
 | nil =>
  unfold Z7x at h
  refine SR <| Ac (Zi rfl rfl (vt rfl) (vt rfl)) rfl <| Nl <| sq <| Cn rfl (fun hc => absurd (of_decide_eq_true hc) hsf1.nil) (fun hc => ?_)
  refine xt <| SR <| Md rfl <| As rfl <| Nl <| rt ?_
  cases h; exact Zf Tryz.results191 rfl (Za rfl)
 | cons x8 l7 =>
  unfold Z7x at h
  refine SR <| Ac (Zi rfl rfl (vt rfl) (vt rfl)) rfl <| Nl <| sq <| Cn rfl (fun hc => ?_) (fun hc => absurd hsf1.cons (of_decide_eq_false hc))
  have hlti6 := of_decide_eq_true hc
  refine sk <| sq <| bk <| SR <| Ac (Z0k rfl rfl Z13 (vt rfl) (vt rfl) hsf1.lget) rfl <| Lp1 Z12 rfl <| Cv rfl (Zs 10 rfl rfl Z8f) fun g9 => Zj Z12 10 rfl <| Nl <| sq <| SR <| Md rfl <| Md rfl <| Ac (Z3i rfl rfl (vt rfl) (vt rfl)) rfl <| Nl <| Cq rfl h (fun h => ?_) (fun h => ?_)
  ·refine SR <| Md rfl <| As rfl <| Nl <| rt ?_
   cases h; exact Zf Tryz.results191 rfl (Za rfl)
  ·refine sk <| SR <| Zh lAction_0 Z8j rfl <| Ld Zq 10 rfl <| Nl <| bk <| SR <| Ac (Z1r rfl rfl (vt rfl) (vk rfl)) rfl <| As rfl <| Nl <| Cq rfl h (fun h => ?_) (fun h => ?_)
   ·refine Rg <| Md rfl <| Ac (Z0o rfl rfl (vt rfl) (vk rfl)) rfl <| As rfl <| Nl <| Rg <| Ac (Z0u (t := 14) rfl rfl (vt rfl) (vk rfl) (vt rfl) hlti6) rfl <| Md rfl <| Nl ?_
    exact ⟨(_, _, _), Nat.lt_succ_self _, ⟨hsf1.next, h⟩, FX rfl⟩
   ·refine SR <| Ac (Z1r rfl rfl (vt rfl) (vk rfl)) rfl <| As rfl <| Nl <| Cq rfl h (fun h => ?_) (fun h => ?_)
    ·refine sq <| AW.freezeB 9 10 rfl rfl rfl ?_
     obtain ⟨x10, hx10, h⟩ := Z8 h
     refine Rg <| Md rfl <| Ac (Z7n (cs := [.tmp 9]) (CAs := [rp Z9 x8]) (fun x => Zkl x x8) rfl rfl Ynm ⟨vt rfl, trivial⟩ (fun x y h => Yhw _ _ y h)) rfl <| Cl [31, 32] (Zsq _ _ _ hx10) Zug rfl <| As rfl <| Nl <| sq <| SR <| Md rfl <| Ac (Zi rfl rfl (vt rfl) (vk rfl)) rfl <| Nl <| Cq rfl h (fun h => ?_) (fun h => ?_)
     ·refine xt <| Rg <| Ac (Z0u (t := 14) rfl rfl (vt rfl) (vk rfl) (vt rfl) hlti6) rfl <| Md rfl <| Nl ?_
      exact ⟨(_, _, _), Nat.lt_succ_self _, ⟨hsf1.next, h⟩, FX rfl⟩
     ·refine sk <| sq ?_
      obtain ⟨x11, hx11, h⟩ := Z8 h
      refine Rg <| Md rfl <| Md rfl <| Ac (Z0k rfl rfl Z5g (vt rfl) (vt rfl) hx11) rfl <| Fp Z80 Z8p rfl <| Lp1 Z8l rfl <| Ac (Z0t rfl rfl Z5w (vt rfl)) rfl <| Mk rfl <| Nl <| bk <| LG (d := []) (ν := (List Bucket) × Nat × Int) (fun (l15, i14, n13) => (Sfx x11.Buckets i14 l15 ∧ Zcb (Z7x m3 l1 R_pl_ways l7) i6 m3 R_pl_ways l1 l15 i14 n13 = some r, l15.length, [(0, rd (Z1 Zz) l1), (2, rd (Z0 .i64) m3), (7, rd (Z0 .i64) n13), (13, rd (Z1 Z9) a2), (14, rd (Z0 .i64) (a2.length : Int)), (15, rd (Z0 .i64) (i6 : Int)), (40, rd (Z1 Z1y) x11.Buckets), (41, rd (Z0 .i64) (x11.Buckets.length : Int)), (42, rd (Z0 .i64) (i14 : Int))], [])) (x11.Buckets, 0, n5) ⟨Sfx.start _, h⟩ (FX rfl) ?_
      rintro ⟨l15, i14, n13⟩ ⟨hsf2, h⟩
      dsimp only at hsf2 h ⊢
      cases l15 with
      | nil =>
       unfold Zcb at h
       refine SR <| Ac (Zi rfl rfl (vt rfl) (vt rfl)) rfl <| Nl <| sq <| Cn rfl (fun hc => absurd (of_decide_eq_true hc) hsf2.nil) (fun hc => ?_)
       refine xt <| Rg <| Ac (Z0u (t := 14) rfl rfl (vt rfl) (vk rfl) (vt rfl) hlti6) rfl <| Md rfl <| Nl ?_
       exact ⟨(_, _, _), Nat.lt_succ_self _, ⟨hsf1.next, h⟩, FX rfl⟩
      | cons x16 l15 =>
       unfold Zcb at h
       refine SR <| Ac (Zi rfl rfl (vt rfl) (vt rfl)) rfl <| Nl <| sq <| Cn rfl (fun hc => ?_) (fun hc => absurd hsf2.cons (of_decide_eq_false hc))
       have hlti14 := of_decide_eq_true hc
       refine sk <| sq <| bk <| SR <| Ac (Z0k rfl rfl Z5w (vt rfl) (vt rfl) hsf2.lget) rfl <| Lp1 Zst rfl <| Cv rfl (Zs 13 rfl rfl Zv3) fun g17 => Zj Zst 13 rfl <| Nl <| SR <| Md rfl <| Md rfl <| Ac (Z76 rfl rfl (vt rfl) (vt rfl)) rfl <| Nl <| Cq rfl h (fun h => ?_) (fun h => ?_)
       ·obtain ⟨x18, hx18, h⟩ := Z8 h
        refine Rg <| Md rfl <| Md rfl <| Zh Zd2 Zhs rfl <| Ld Z3d 13 rfl <| Md rfl <| Md rfl <| Ac (Z0v rfl rfl (vt rfl) (vt rfl)) rfl <| Ac (Z0v rfl rfl (vt rfl) (vk rfl)) rfl <| Cl [50, 52, 56] (hR_pl_ways _ _ _ _ hx18) Y3i rfl <| Ac (Ze4 rfl rfl (vk rfl) (vt rfl)) rfl <| Ac (Z0o rfl rfl (vt rfl) (vt rfl)) rfl <| As rfl <| Nl <| Rg <| Ac (Z0u (t := 41) rfl rfl (vt rfl) (vk rfl) (vt rfl) hlti14) rfl <| Md rfl <| Nl ?_
        exact ⟨(_, _, _), Nat.lt_succ_self _, ⟨hsf2.next, h⟩, FX rfl⟩
       ·refine sk <| Rg <| Ac (Z0u (t := 41) rfl rfl (vt rfl) (vk rfl) (vt rfl) hlti14) rfl <| Md rfl <| Nl ?_
        exact ⟨(_, _, _), Nat.lt_succ_self _, ⟨hsf2.next, h⟩, FX rfl⟩
    ·refine sk <| Rg <| Ac (Z0u (t := 14) rfl rfl (vt rfl) (vk rfl) (vt rfl) hlti6) rfl <| Md rfl <| Nl ?_
     exact ⟨(_, _, _), Nat.lt_succ_self _, ⟨hsf1.next, h⟩, FX rfl⟩
def Zia : Nat → ((List Group) → (List Action) → Int → Option Int)
 | 0 => (fun _ _ _ => none)
 | n + 1 => (Zr9 (Zia n))
theorem Y1p : ∀ n : Nat, (∀ (l1 : (List Group)) (a2 : (List Action)) (m3 : Int) (r : Int), (Zia n) l1 a2 m3 = some r → PCon Tryz.prog 191 [rd (Z1 Zz) l1, rd (Z1 Z9) a2, rd (Z0 .i64) m3] (rd (Z0 .i64) r))
 | 0 => (by intros; rename_i h; cases h)
 | n + 1 => by
  have ih := Y1p n
  exact (Y7l (Zia n) ih)
def Zu2 (l1 : (List Group)) (a2 : (List Action)) (m3 : Int) : Option Int := (Zia Z0l) l1 a2 m3
theorem Yls : ∀ (l1 : (List Group)) (a2 : (List Action)) (m3 : Int) (r : Int), Zu2 l1 a2 m3 = some r → PCon Tryz.prog 191 [rd (Z1 Zz) l1, rd (Z1 Z9) a2, rd (Z0 .i64) m3] (rd (Z0 .i64) r) := Y1p Z0l
def Zag (go2 : Nat → Int → Option Bool) (i10 : Nat) (m9 : Int) (s1 : Switch) : (List Inst) → Nat → Int → Option Bool
 | [], i16, k15 => go2 (i10 + 1) (Z1f m9 k15)
 | x18 :: l17, i16, k15 => (Zu2 s1.Groups x18.Acts (IntKind.i64.wrap (40 - k15))).bind fun x20 => (Zag go2 i10 m9 s1 l17) (i16 + 1) (IntKind.i64.wrap (k15 + x20))
def Zay (go1 : Nat → Int → Option Bool) (i5 : Nat) (n4 : Int) (s1 : Switch) : (List Flow) → Nat → Int → Option Bool
 | [], i10, m9 => go1 (i5 + 1) (IntKind.i64.wrap (n4 + m9))
 | x12 :: l11, i10, m9 => Zag (Zay go1 i5 n4 s1 l11) i10 m9 s1 x12.Insts 0 0
def Z9i (s1 : Switch) : (List (List Flow)) → Nat → Int → Option Bool
 | [], i5, n4 => some (decide (n4 ≤ 40))
 | x7 :: l6, i5, n4 => Zay (Z9i s1 l6) i5 n4 s1 x7 0 0
def Zgw (s1 : Switch) : Option Bool :=
 Z9i s1 (Vector.toList s1.Tables) 0 0
theorem Y6z : Q1 Tryz.prog 123 (rd Z0d) (rd Z5) Zgw := fun s1 r h => I0 Tryz.func123 rfl Tryz.ntmps123 rfl fun w H => by
 unfold Zgw at h
 refine SR <| Cv rfl (Zn 2 rfl rfl (vt rfl)) fun g2 => Ab rfl <| Nl <| SR <| Ak rfl <| Nl <| sq <| SR <| Zh Zbd Ze2 rfl <| Ld Y4g 2 rfl <| Mk rfl <| Nl <| bk <| LG (d := []) (ν := (List (List Flow)) × Nat × Int) (fun (l6, i5, n4) => (Sfx (Vector.toList s1.Tables) i5 l6 ∧ Z9i s1 l6 i5 n4 = some r, l6.length, [(1, Z7 g2 (Lens.id Z0d)), (3, rd (Z0 .i64) n4), (13, rd (Z3 4 (Z1 Z16)) s1.Tables), (14, rd (Z0 .i64) (i5 : Int))], [(2, Zc g2 26 Z0d s1)])) ((Vector.toList s1.Tables), 0, 0) ⟨Sfx.start _, h⟩ (FX rfl) ?_
 rintro ⟨l6, i5, n4⟩ ⟨hsf1, h⟩
 dsimp only at hsf1 h ⊢
 cases l6 with
 | nil =>
  unfold Z9i at h
  refine SR <| Ac (Zi rfl rfl (vt rfl) (vk rfl)) rfl <| Nl <| sq <| Cn rfl (fun hc => absurd (of_decide_eq_true hc) (hsf1.niln (by simp))) (fun hc => ?_)
  refine xt <| SR <| Md rfl <| Ac (Z76 rfl rfl (vt rfl) (vk rfl)) rfl <| As rfl <| Nl <| rt ?_
  cases h; exact Zf Tryz.results123 rfl (Za rfl)
 | cons x7 l6 =>
  unfold Z9i at h
  refine SR <| Ac (Zi rfl rfl (vt rfl) (vk rfl)) rfl <| Nl <| sq <| Cn rfl (fun hc => ?_) (fun hc => absurd (hsf1.consn (by simp)) (of_decide_eq_false hc))
  have hlti5 := of_decide_eq_true hc
  refine sk <| sq <| bk <| SR <| Ac (Z97 rfl rfl Zec Z5u (vt rfl) (vt rfl) hsf1.lget) rfl <| As rfl <| Nl <| SR <| Ak rfl <| Nl <| sq <| SR <| Md rfl <| Ac (Z0t rfl rfl Z5p (vt rfl)) rfl <| Mk rfl <| Nl <| bk <| LG (d := []) (ν := (List Flow) × Nat × Int) (fun (l11, i10, m9) => (Sfx x7 i10 l11 ∧ Zay (Z9i s1 l6) i5 n4 s1 l11 i10 m9 = some r, l11.length, [(1, Z7 g2 (Lens.id Z0d)), (3, rd (Z0 .i64) n4), (6, rd (Z0 .i64) m9), (13, rd (Z3 4 (Z1 Z16)) s1.Tables), (14, rd (Z0 .i64) (i5 : Int)), (17, rd (Z1 Z16) x7), (18, rd (Z0 .i64) (x7.length : Int)), (19, rd (Z0 .i64) (i10 : Int))], [(2, Zc g2 26 Z0d s1)])) (x7, 0, 0) ⟨Sfx.start _, h⟩ (FX rfl) ?_
  rintro ⟨l11, i10, m9⟩ ⟨hsf2, h⟩
  dsimp only at hsf2 h ⊢
  cases l11 with
  | nil =>
   unfold Zay at h
   refine SR <| Ac (Zi rfl rfl (vt rfl) (vt rfl)) rfl <| Nl <| sq <| Cn rfl (fun hc => absurd (of_decide_eq_true hc) hsf2.nil) (fun hc => ?_)
   refine xt <| Rg <| Md rfl <| Md rfl <| Ac (Z0o rfl rfl (vt rfl) (vt rfl)) rfl <| As rfl <| Nl <| Rg <| Ac (Z7a rfl rfl (vt rfl) (vk rfl) rfl hlti5) rfl <| Md rfl <| Nl ?_
   exact ⟨(_, _, _), Nat.lt_succ_self _, ⟨hsf1.next, h⟩, FX rfl⟩
  | cons x12 l11 =>
   unfold Zay at h
   refine SR <| Ac (Zi rfl rfl (vt rfl) (vt rfl)) rfl <| Nl <| sq <| Cn rfl (fun hc => ?_) (fun hc => absurd hsf2.cons (of_decide_eq_false hc))
   have hlti10 := of_decide_eq_true hc
   refine sk <| sq <| bk <| SR <| Ac (Z0k rfl rfl Z5p (vt rfl) (vt rfl) hsf2.lget) rfl <| Lp1 Z9m rfl <| Cv rfl (Zs 9 rfl rfl Zmy) fun g13 => Zj Z9m 9 rfl <| Nl <| SR <| Ak rfl <| Nl <| sq <| SR <| Zh lFlow_6 Zp0 rfl <| Ld Zot 9 rfl <| Ac (Z0t rfl rfl Zck (vt rfl)) rfl <| Mk rfl <| Nl <| bk <| LG (d := []) (ν := (List Inst) × Nat × Int) (fun (l17, i16, k15) => (Sfx x12.Insts i16 l17 ∧ Zag (Zay (Z9i s1 l6) i5 n4 s1 l11) i10 m9 s1 l17 i16 k15 = some r, l17.length, [(1, Z7 g2 (Lens.id Z0d)), (3, rd (Z0 .i64) n4), (6, rd (Z0 .i64) m9), (9, rd (Z0 .i64) k15), (13, rd (Z3 4 (Z1 Z16)) s1.Tables), (14, rd (Z0 .i64) (i5 : Int)), (17, rd (Z1 Z16) x7), (18, rd (Z0 .i64) (x7.length : Int)), (19, rd (Z0 .i64) (i10 : Int)), (24, rd (Z1 Z1e) x12.Insts), (25, rd (Z0 .i64) (x12.Insts.length : Int)), (26, rd (Z0 .i64) (i16 : Int))], [(2, Zc g2 26 Z0d s1)])) (x12.Insts, 0, 0) ⟨Sfx.start _, h⟩ (FX rfl) ?_
   rintro ⟨l17, i16, k15⟩ ⟨hsf3, h⟩
   dsimp only at hsf3 h ⊢
   cases l17 with
   | nil =>
    unfold Zag at h
    refine SR <| Ac (Zi rfl rfl (vt rfl) (vt rfl)) rfl <| Nl <| sq <| Cn rfl (fun hc => absurd (of_decide_eq_true hc) hsf3.nil) (fun hc => ?_)
    refine xt <| Rg <| Md rfl <| Md rfl <| Ac (Ze4 rfl rfl (vt rfl) (vt rfl)) rfl <| As rfl <| Nl <| Rg <| Ac (Z0u (t := 18) rfl rfl (vt rfl) (vk rfl) (vt rfl) hlti10) rfl <| Md rfl <| Nl ?_
    exact ⟨(_, _, _), Nat.lt_succ_self _, ⟨hsf2.next, h⟩, FX rfl⟩
   | cons x18 l17 =>
    unfold Zag at h
    refine SR <| Ac (Zi rfl rfl (vt rfl) (vt rfl)) rfl <| Nl <| sq <| Cn rfl (fun hc => ?_) (fun hc => absurd hsf3.cons (of_decide_eq_false hc))
    have hlti16 := of_decide_eq_true hc
    refine sk <| sq <| bk <| SR <| Ac (Z0k rfl rfl Zck (vt rfl) (vt rfl) hsf3.lget) rfl <| Lp1 Z40 rfl <| Cv rfl (Zs 12 rfl rfl Z4z) fun g19 => Zj Z40 12 rfl <| Nl ?_
    obtain ⟨x20, hx20, h⟩ := Z8 h
    refine Rg <| Md rfl <| Zh Zim Zm8 rfl <| Ld Zes 2 rfl <| Zh lInst_4 Zb2 rfl <| Ld Z3d 12 rfl <| Md rfl <| Ac (Z0v rfl rfl (vk rfl) (vt rfl)) rfl <| Cl [32, 34, 36] (Yls _ _ _ _ hx20) Y3i rfl <| Ac (Z0o rfl rfl (vt rfl) (vt rfl)) rfl <| As rfl <| Nl <| Rg <| Ac (Z0u (t := 25) rfl rfl (vt rfl) (vk rfl) (vt rfl) hlti16) rfl <| Md rfl <| Nl ?_
    exact ⟨(_, _, _), Nat.lt_succ_self _, ⟨hsf3.next, h⟩, FX rfl⟩
def Zix (s1 : Switch) : Option Bool :=
 (Zph s1 3).bind fun x3 => (opt (!(!x3)) (Zgw s1)).bind fun x4 => some ((!x3) || (!x4))
theorem Y64 : Q1 Tryz.prog 122 (rd Z0d) (rd Z5) Zix := fun s1 r h => I0 Tryz.func122 rfl Tryz.ntmps122 rfl fun w H => by
 unfold Zix at h
 refine SR <| Cv rfl (Zn 2 rfl rfl (vt rfl)) fun g2 => Ab rfl <| Nl <| sq ?_
 obtain ⟨x3, hx3, x4, hx4, h⟩ := bs2 h
 refine Rg <| Ld Z5s 2 rfl <| Ac (Z14 (xs := [.tmp 3, .const (Value.int IntKind.i64 3)]) (Yj7 _ _ _ hx3) e21 rfl rfl ⟨vt rfl, vk rfl, trivial⟩) rfl <| Ac (Z0z rfl rfl (vt rfl)) rfl <| Md rfl <| Gd rfl (fun hq => Z29 rfl rfl Z5s (vt rfl) (i := 2) rfl) <| Gd rfl (fun hq => Z14 (xs := [.tmp 7]) (Y6z _ _ (Z9a hx4 hq)) Ykq rfl rfl ⟨Zg rfl hq, trivial⟩) <| Gd rfl (fun hq => Z0z rfl rfl (Zg rfl hq)) <| Ac (Z4o rfl rfl (vt rfl) (vt rfl)) rfl <| As rfl <| Nl <| rt ?_
 cases h; exact Zf Tryz.results122 rfl (Za rfl)
end Go.Proofs.YtknpgojdkobgjaaGreat.W
set_option maxRecDepth 4000
namespace Go.Proofs.YtknpgojdkobgjaaGreat.W
open Go Go.Wb
theorem Y84 : Ent Tryz.prog 121 := Ent.mk Tryz.func121 rfl rfl
theorem Y87 : Ent Tryz.prog 122 := Ent.mk Tryz.func122 rfl rfl
theorem Yho : Ent Tryz.prog 156 := Ent.mk Tryz.func156 rfl rfl
theorem e88 : Ent Tryz.prog 88 := Ent.mk Tryz.func88 rfl rfl
theorem Y1s : Ent Tryz.prog 239 := Ent.mk Tryz.func239 rfl rfl
theorem Y7d : Ent Tryz.prog 286 := Ent.mk Tryz.func286 rfl rfl
theorem Ylg : Ent Tryz.prog 178 := Ent.mk Tryz.func178 rfl rfl
def Zk2 (n1 : Net) (x2 : Env) (m3 : Int) : Option Bool :=
 (bif ((((decide ((n1.Switches.length : Int) > 3)) || (decide ((n1.Links.length : Int) > 8))) || (decide ((x2.Down.length : Int) > 20))) || (decide (m3 > 300))) then some false else (Zpa n1.Switches Zix).bind fun x6 => some (!x6))
theorem Yep : Q3 Tryz.prog 67 (rd Z26) (rd Z0q) (rd (Z0 .i64)) (rd Z5) Zk2 := fun n1 x2 m3 r h => I0 Tryz.func67 rfl Tryz.ntmps67 rfl fun w H => by
 unfold Zk2 at h
 refine SR <| Cv rfl (Zn 4 rfl rfl (vt rfl)) fun g4 => Cv rfl (Zn 5 rfl rfl (vt rfl)) fun g5 => Ab rfl <| Nl <| sq <| SR <| Zh lNet_0 Zcz rfl <| Ld Zcr 4 rfl <| Ac (Z0t rfl rfl Z87 (vt rfl)) rfl <| Ac (Z3i rfl rfl (vt rfl) (vk rfl)) rfl <| Md rfl <| Gd rfl (fun hq => Z2t lNet_1 rfl rfl Zox (vt rfl)) <| Gd rfl (fun hq => Z29 rfl rfl Zny (Zg rfl hq) (i := 4) rfl) <| Gd rfl (fun hq => Z0t rfl rfl Zg5 (Zg rfl hq)) <| Gd rfl (fun hq => Z3i rfl rfl (Zg rfl hq) (vk rfl)) <| Ac (Z4o rfl rfl (vt rfl) (vt rfl)) rfl <| Md rfl <| Gd rfl (fun hq => Z2t Zsc rfl rfl Zzb (vt rfl)) <| Gd rfl (fun hq => Z29 rfl rfl Y34 (Zg rfl hq) (i := 5) rfl) <| Gd rfl (fun hq => Z0t rfl rfl Z15 (Zg rfl hq)) <| Gd rfl (fun hq => Z3i rfl rfl (Zg rfl hq) (vk rfl)) <| Ac (Z4o rfl rfl (vt rfl) (vt rfl)) rfl <| Md rfl <| Gd rfl (fun hq => Zp (A := rd (Z0 .i64) m3) rfl rfl (vt rfl)) <| Gd rfl (fun hq => Z3i rfl rfl (Zg rfl hq) (vk rfl)) <| Ac (Z4o rfl rfl (vt rfl) (vt rfl)) rfl <| Nl <| Cq rfl h (fun h => ?_) (fun h => ?_)
 ·refine SR <| Ab rfl <| Nl <| rt ?_
  cases h; exact Zf Tryz.results67 rfl (Za rfl)
 ·refine sk <| sq ?_
  obtain ⟨x6, hx6, h⟩ := Z8 h
  refine Rg <| Zh lNet_0 Zcz rfl <| Ld Zcr 4 rfl <| Ac (Z14 (xs := [.tmp 28, .func 122]) (Yig _ _ _ hx6) Y84 rfl rfl ⟨vt rfl, vf1 Y87 Y64, trivial⟩) rfl <| Ac (Z0z rfl rfl (vt rfl)) rfl <| As rfl <| Nl <| rt ?_
  cases h; exact Zf Tryz.results67 rfl (Za rfl)
def Zpb (n1 : Int) : Option Int :=
 some (Z3q (Z1f n1 0) 8)
theorem Y7b : Q1 Tryz.prog 93 (rd (Z0 .i64)) (rd (Z0 .i64)) Zpb := fun n1 r h => I0 Tryz.func93 rfl Tryz.ntmps93 rfl fun w H => by
 unfold Zpb at h
 refine SR <| Ak rfl <| Nl <| SR <| Md rfl <| Ac (Ze4 rfl rfl (vt rfl) (vk rfl)) rfl <| Ac (Zj0 rfl rfl (vt rfl) (vk rfl)) rfl <| As rfl <| Nl <| rt ?_
 cases h; exact Zf Tryz.results93 rfl (Za rfl)
def Zaj (sg : Type) (x3 : (List Flow)) (x4 : Z09) (y1 : (sg → Int → Option (Lp sg))) : (List Int) → Nat → (Lp sg) → Option (Lp sg)
 | [], i8, s7 => some s7
 | x10 :: l9, i8, s7 => (lget x3 x10).bind fun x11 => (Zfd x11).bind fun x12 => (Zav x12 x4).bind fun x13 => (bif (!x13) then (Zaj sg x3 x4 y1 l9) (i8 + 1) s7 else (yc y1 s7 x10).bind fun s14 => (bif (!(Lp.isGo s14)) then some s14 else (Zaj sg x3 x4 y1 l9) (i8 + 1) s14))
def Zcn (sg : Type) (y1 : (sg → Int → Option (Lp sg))) (s2 : (Lp sg)) (x3 : (List Flow)) (x4 : Z09) : Option (Lp sg) :=
 (Zfw x3).bind fun x5 => Zaj sg x3 x4 y1 x5 0 s2
theorem Y9u (sg : Type) (y1 : (sg → Int → Option (Lp sg))) (L : Lp sg → Zu) (s2 : (Lp sg)) (x3 : (List Flow)) (x4 : Z09) (r : (Lp sg)) (h : Zcn sg y1 s2 x3 x4 = some r) : Con Tryz.prog 156 [ydA Tryz.prog (Z0 .i64) y1 L, rp (Z1 Z16) x3, rp (Z3 24 Zd) x4] (L s2) (fun _ : Unit => top) (fun _ => L r) := by
 refine Con.intro Tryz.func156 rfl Tryz.ntmps156 rfl fun w H X => ?_
 unfold Zcn at h
 refine AW.scope <| sq <| AW.label <| sq ?_
 obtain ⟨x5, hx5, h⟩ := Z8 h
 refine Rg <| Lp1 Z5u rfl <| Cl [6] (Y0o _ _ hx5) Y3c rfl <| Ac (Z0t rfl rfl Z15 (vt rfl)) rfl <| Mk rfl <| Nl <| bk <| LG (d := []) (ν := (List Int) × Nat × (Lp sg)) (fun (l9, i8, s7) => (Sfx x5 i8 l9 ∧ Zaj sg x3 x4 y1 l9 i8 s7 = some r, l9.length, [(0, ydA Tryz.prog (Z0 .i64) y1 L), (1, rp (Z1 Z16) x3), (2, rp (Z3 24 Zd) x4), (7, rd (Z1 (Z0 .i64)) x5), (8, rd (Z0 .i64) (x5.length : Int)), (9, rd (Z0 .i64) (i8 : Int))], [(0, L s7)])) (x5, 0, s2) ⟨Sfx.start _, h⟩ (FX rfl) ?_
 rintro ⟨l9, i8, s7⟩ ⟨hsf1, h⟩
 dsimp only at hsf1 h ⊢
 cases l9 with
 | nil =>
  unfold Zaj at h
  refine SR <| Ac (Zi rfl rfl (vt rfl) (vt rfl)) rfl <| Nl <| sq <| Cn rfl (fun hc => absurd (of_decide_eq_true hc) hsf1.nil) (fun hc => ?_)
  refine xt ?_
  cases h; exact Z1k (i := 0) Tryz.results156 rfl rfl
 | cons x10 l9 =>
  unfold Zaj at h
  refine SR <| Ac (Zi rfl rfl (vt rfl) (vt rfl)) rfl <| Nl <| sq <| Cn rfl (fun hc => ?_) (fun hc => absurd hsf1.cons (of_decide_eq_false hc))
  have hlti8 := of_decide_eq_true hc
  refine sk <| sq <| bk <| SR <| Ac (Z0k rfl rfl Z15 (vt rfl) (vt rfl) hsf1.lget) rfl <| Lp1 Zq rfl <| As rfl <| Nl <| sq <| sq ?_
  obtain ⟨x11, hx11, x12, hx12, x13, hx13, h⟩ := bs3 h
  refine AR Zw (by kernel_rfl) <| SLp Z5u rfl <| SMd rfl <| Sd (lo [13, 14] [] rfl fun S hs hr => Z0k rfl rfl Z5p (vh hs 13 rfl rfl) (vh hs 14 rfl rfl) hx11) <| SLp Z9m rfl <| SCl [16] (Y1i _ _ hx12) Zw8 rfl <| SLp Z0g rfl <| SCl [17, 18] (Zt1 _ _ _ hx13) e50 rfl <| Sd (lo [19] [] rfl fun S hs hr => Z0z rfl rfl (vh hs 19 rfl rfl)) <| Sn <| Cq rfl h (fun h => ?_) (fun h => ?_)
  ·refine xt <| Rg <| Ac (Z0u (t := 8) rfl rfl (vt rfl) (vk rfl) (vt rfl) hlti8) rfl <| Md rfl <| Nl ?_
   exact ⟨(_, _, _), Nat.lt_succ_self _, ⟨hsf1.next, h⟩, FX rfl⟩
  ·refine sk <| sq ?_
   obtain ⟨s14, hs14, h⟩ := Z8 h
   refine Rg <| Ac (Zp (A := ydA Tryz.prog (Z0 .i64) y1 L) rfl rfl (vt rfl)) rfl <| Md rfl <| Ac (Zlb 0 hs14 rfl rfl (vt rfl) (vt rfl) rfl) rfl <| Ac (Z0z rfl rfl (vt rfl)) rfl <| Nl <| Cq rfl h (fun h => ?_) (fun h => ?_)
   ·refine xt ?_
    cases h; exact Z1k (i := 0) Tryz.results156 rfl rfl
   ·refine sk <| Rg <| Ac (Z0u (t := 8) rfl rfl (vt rfl) (vk rfl) (vt rfl) hlti8) rfl <| Md rfl <| Nl ?_
    exact ⟨(_, _, _), Nat.lt_succ_self _, ⟨hsf1.next, h⟩, FX rfl⟩
def Zom (t1 : (List Flow)) (x2 : Z09) : Option (Itr Int) :=
 some (Itr.mk fun σ y s => Zcn σ y s t1 x2)
theorem Yhv : Q2 Tryz.prog 88 (rd (Z1 Z16)) (rd (Z3 24 Zd)) (Z4p Tryz.prog (Z0 .i64)) Zom := fun t1 x2 r h => I0 Tryz.func88 rfl Tryz.ntmps88 rfl fun w H => by
 unfold Zom at h
 refine SR <| Cv rfl (Zn 3 rfl rfl (vt rfl)) fun g3 => Cv rfl (Zn 4 rfl rfl (vt rfl)) fun g4 => Ac (Zy (A := Zo .nilFunc) rfl rfl vc) rfl <| Nl <| sq <| AW.freezeB 2 3 rfl rfl rfl <| AW.freezeB 3 4 rfl rfl rfl <| Rg <| Ac (Zrw (Itr.mk fun σ y s => Zcn σ y s t1 x2) (cs := [.tmp 2, .tmp 3]) (CAs := [rp (Z1 Z16) t1, rp (Z3 24 Zd) x2]) rfl rfl Yho ⟨vt rfl, vt rfl, trivial⟩ (fun σ y L s r h => Y9u σ y L s t1 x2 r h)) rfl <| Ac (Zy (A := Z4p Tryz.prog (Z0 .i64) (Itr.mk fun σ y s => Zcn σ y s t1 x2)) rfl rfl (vt rfl)) rfl <| Nl <| rt ?_
 cases h; exact Zf Tryz.results88 rfl (Za rfl)
def Zk3 (b7 : Int) (b8 : Bool) (x10 : Int) : Option (Lp (Int × Bool)) :=
 some (.out .ret (x10, true))
def Zkg (t1 : (List Flow)) (x2 : Z09) : Option (Int × Bool) :=
 (Zom t1 x2).bind fun x6 => (Itr.run x6 (Int × Bool) (fun s x => Zk3 s.1 s.2 x) (.go (0, false))).bind fun z9 => Zoa z9 (fun s11 => some (0, false)) (fun c s11 => bif Zbb c then some (s11.1, s11.2) else none)
theorem Ym0 : Q2 Tryz.prog 34 (rd (Z1 Z16)) (rd (Z3 24 Zd)) (fun r => Z1b (rd (Z0 .i64) r.1) (rd Z5 r.2)) Zkg := fun t1 x2 r h => I0 Tryz.func34 rfl Tryz.ntmps34 rfl fun w H => by
 unfold Zkg at h
 refine SR <| Cv rfl (Zn 4 rfl rfl (vt rfl)) fun g3 => Cv rfl (Zs 5 rfl rfl zr3) fun g4 => Cv rfl (Zs 6 rfl rfl zr4) fun g5 => Nl <| sq <| sq ?_
 obtain ⟨x6, hx6, h⟩ := Z8 h
 refine Rg <| Md rfl <| Ld Z0g 4 rfl <| Cl [7, 8] (Yhv _ _ _ hx6) e88 rfl <| Nl <| bk ?_
 obtain ⟨z9, hz9, h⟩ := Z8 h
 refine AW.fit (d := []) (L := [(4, Z7 g4 (Lens.id (Z0 .i64))), (5, Z7 g5 (Lens.id Z5)), (9, Z4p Tryz.prog (Z0 .i64) x6)]) (M := [(5, Zc g4 3 (Z0 .i64) 0), (6, Zc g5 4 Z5 false)]) (FX rfl) ?_
 refine AW.rangeFunc (σ := Int × Bool) (fun x => [rd (Z0 .i64) x]) (fun s x => Zk3 s.1 s.2 x) (fun s => Z2x ((fun s => [(5, Zc g4 3 (Z0 .i64) s.1), (6, Zc g5 4 Z5 s.2)]) s)) (fun _ s => Z2x ((fun s => [(5, Zc g4 3 (Z0 .i64) s.1), (6, Zc g5 4 Z5 s.2)]) s)) [(4, Z7 g4 (Lens.id (Z0 .i64))), (5, Z7 g5 (Lens.id Z5))] (fun s x10 S1 => Fit S1 [] [(4, Z7 g4 (Lens.id (Z0 .i64))), (5, Z7 g5 (Lens.id Z5)), (6, rd (Z0 .i64) x10)] [(5, Zc g4 3 (Z0 .i64) s.1), (6, Zc g5 4 Z5 s.2)]) 3001 (s0 := (0, false)) (sE := z9) rfl (vt rfl) ⟨rfl, inferInstance, rfl, inferInstance, trivial⟩ rfl (fun _ => rfl) (by intro p hp; have hp : p ∈ [10] := hp; rw [List.mem_singleton.1 hp]; show 10 < 12; decide) ?ha1 ?hb1 (fun Lf => ⟨top, _, _, Lf, _, _, hz9, rfl, rfl, rfl, rfl⟩) ?he1
 case ha1 =>
  rintro ⟨b7, b8⟩ x10 r hF l w H X
  refine Rg <| As rfl <| Nl ?_
  exact ⟨rfl, FX rfl⟩
 case hb1 =>
  rintro ⟨b7, b8⟩ x10 r h S1 hfit l w H X
  refine AW.fit (d := []) (L := [(4, Z7 g4 (Lens.id (Z0 .i64))), (5, Z7 g5 (Lens.id Z5)), (6, rd (Z0 .i64) x10)]) (M := [(5, Zc g4 3 (Z0 .i64) b7), (6, Zc g5 4 Z5 b8)]) hfit <| AW.bodyT ?_
  change Zk3 b7 b8 x10 = some r at h
  unfold Zk3 at h
  refine bk <| SR <| Md rfl <| Zj Zq 5 rfl <| Ac (Z5c rfl rfl ty4 (vt rfl) (i := 6) rfl vb) rfl <| Nl <| rt ?_
  obtain rfl := si h
  exact ⟨_, (x10, true), Turn.refl, rfl, ⟨rfl, rfl, trivial⟩⟩
 case he1 =>
  intro D
  cases z9 with
  | go s11 =>
   change _ = some r at h
   refine SR <| Ac (Z5c rfl rfl Zq (vt rfl) (i := 5) rfl (vk rfl)) rfl <| Ac (Z5c rfl rfl ty4 (vt rfl) (i := 6) rfl vb) rfl <| Nl <| rt ?_
   cases h; exact ⟨rfl, 3001, _, rfl, Z1m Tryz.results34 rfl (Z01 rfl (i := 5) rfl Zq) (Z01 rfl (i := 6) rfl ty4)⟩
  | out c s11 =>
   change (bif Zbb c then _ else _) = some r at h
   cases hc : Zbb c with
   | true =>
    rw [hc] at h
    have hc := Zvu hc
    subst hc
    change _ = some r at h
    refine rt ?_
    cases h; exact ⟨rfl, 3001, _, rfl, Z1m Tryz.results34 rfl (Z01 rfl (i := 5) rfl Zq) (Z01 rfl (i := 6) rfl ty4)⟩
   | false =>
    rw [hc] at h
    cases h
def Zjz (a1 : Action) : Option Int :=
 (bif (decide (a1.Port = 4294967293)) then some a1.Max else some 0)
theorem Ygu : Q1 Tryz.prog 286 (rd Z9) (rd (Z0 .i64)) Zjz := fun a1 r h => I0 Tryz.func286 rfl Tryz.ntmps286 rfl fun w H => by
 unfold Zjz at h
 refine SR <| Cv rfl (Zn 2 rfl rfl (vt rfl)) fun g2 => Ak rfl <| Nl <| sq <| SR <| Zh lAction_1 Znx rfl <| Ld Zq 2 rfl <| Ac (Z1r rfl rfl (vt rfl) (vk rfl)) rfl <| Nl <| Cq rfl h (fun h => ?_) (fun h => ?_)
 ·refine SR <| Zh Zri Y5h rfl <| Ld Zq 2 rfl <| As rfl <| Nl <| rt ?_
  cases h; exact Zf Tryz.results286 rfl (Za rfl)
 ·refine sk <| SR <| Ak rfl <| Nl <| rt ?_
  cases h; exact Zf Tryz.results286 rfl (Za rfl)
def Zak (x5 : (Group × Bool)) (R_exec_run_do : (Z0m → (List Action) → Option Z0m)) (x1 : Z0m) : (List Int) → Nat → (List Out) → Env → (List Group) → Z09 → Int → Option Z0m
 | [], i21, l15, b17, b18, b19, b20 => some (⟨b17, b18, l15, b19, (IntKind.i64.wrap (b20 - 1))⟩ : Z0m)
 | x23 :: l22, i21, l15, b17, b18, b19, b20 => (lget x5.1.Buckets x23).bind fun x24 => (Zby [] x24.Acts).bind fun x25 => (Z7d x25).bind fun x26 => (R_exec_run_do (⟨b17, b18, l15, b19, b20⟩ : Z0m) x26).bind fun b27 => (Zak x5 R_exec_run_do x1 l22) (i21 + 1) b27.out b27.Env b27.groups x1.header b27.depth
def Zdp (R_exec_run_do : (Z0m → (List Action) → Option Z0m)) (R_exec_run_group : (Z0m → Int → Option Z0m)) (x1 : Z0m) (i4 : Int) : Option Z0m :=
 (Zcf x1.groups i4).bind fun x5 => (bif ((!x5.2) || (decide (x1.depth ≥ 8))) then some (⟨x1.Env, x1.groups, x1.out, x1.header, x1.depth⟩ : Z0m) else (Zfs x1.Env x5.1).bind fun x8 => Zak x5 R_exec_run_do x1 x8 0 x1.out x1.Env x1.groups x1.header (IntKind.i64.wrap (x1.depth + 1)))
theorem Yfy (R_exec_run_do : (Z0m → (List Action) → Option Z0m)) (hR_exec_run_do : ∀ (g2 gT : Nat) (x1 : Z0m) (a4 : (List Action)) (r : Z0m), R_exec_run_do x1 a4 = some r → Con Tryz.prog 239 [Z7 g2 (Lens.id Z1h), rd (Z1 Z9) a4] (Zx g2 gT Z1h (fun v => (⟨x1.Env, x1.groups, v, x1.header, x1.depth⟩ : exec_run_o2)) 71 Z0r x1.out) (fun _ : Unit => top) (fun _ => Zx g2 gT Z1h (fun v => (⟨r.Env, r.groups, v, r.header, r.depth⟩ : exec_run_o2)) 71 Z0r r.out)) (R_exec_run_group : (Z0m → Int → Option Z0m)) (hR_exec_run_group : ∀ (g2 gT : Nat) (x1 : Z0m) (i4 : Int) (r : Z0m), R_exec_run_group x1 i4 = some r → Con Tryz.prog 178 [Z7 g2 (Lens.id Z1h), rd (Z0 .i64) i4] (Zx g2 gT Z1h (fun v => (⟨x1.Env, x1.groups, v, x1.header, x1.depth⟩ : exec_run_o2)) 71 Z0r x1.out) (fun _ : Unit => top) (fun _ => Zx g2 gT Z1h (fun v => (⟨r.Env, r.groups, v, r.header, r.depth⟩ : exec_run_o2)) 71 Z0r r.out)) (g2 gT : Nat) (x1 : Z0m) (i4 : Int) (r : Z0m) (h : Zdp R_exec_run_do R_exec_run_group x1 i4 = some r) : Con Tryz.prog 178 [Z7 g2 (Lens.id Z1h), rd (Z0 .i64) i4] (Zx g2 gT Z1h (fun v => (⟨x1.Env, x1.groups, v, x1.header, x1.depth⟩ : exec_run_o2)) 71 Z0r x1.out) (fun _ : Unit => top) (fun _ => Zx g2 gT Z1h (fun v => (⟨r.Env, r.groups, v, r.header, r.depth⟩ : exec_run_o2)) 71 Z0r r.out) := by
 refine Con.intro Tryz.func178 rfl Tryz.ntmps178 rfl fun w H X => ?_
 unfold Zdp at h
 refine AW.unboxF 0 2002 (by decide) rfl rfl fun v3 => sq ?_
 obtain ⟨x5, hx5, h⟩ := Z8 h
 refine Rg <| Mp rfl <| Nc rfl <| Zh lexec_run_o2_1 Y67 rfl <| Ld Zes 0 rfl <| Md rfl <| Cl [13, 14] (Zr1 _ _ _ hx5) Zq2 rfl <| Mt2 rfl <| Ac (Z1n rfl rfl (vt rfl)) rfl <| Ac (Z1l rfl rfl (vt rfl)) rfl <| Cv rfl (Zs 5 rfl rfl Zbq) fun g6 => Zj Z5h 5 rfl <| As rfl <| Nl <| sq <| SR <| Md rfl <| Ac (Z0z rfl rfl (vt rfl)) rfl <| Md rfl <| Gd rfl (fun hq => Zp (A := Z7 g2 (Lens.id Z1h)) rfl rfl (vt rfl)) <| Gd rfl (fun hq => Zmi rfl rfl (Zg rfl hq)) <| Gd rfl (fun hq => Z2t Zgv rfl rfl Zja (Zg rfl hq)) <| Gd rfl (fun hq => Z29 rfl rfl Zq (Zg rfl hq) (i := 0) rfl) <| Gd rfl (fun hq => Z3z rfl rfl (Zg rfl hq) (vk rfl)) <| Ac (Z4o rfl rfl (vt rfl) (vt rfl)) rfl <| Nl <| Cq rfl h (fun h => ?_) (fun h => ?_)
 ·refine rt ?_
  cases h; exact RetOK.turn (Turn.packF 0 2002 (fun v => (⟨x1.Env, x1.groups, v, x1.header, x1.depth⟩ : exec_run_o2)) (by decide) rfl rfl) (Z1k (i := 0) Tryz.results178 rfl rfl)
 ·refine sk <| SR <| Mp rfl <| Nc rfl <| Zh lexec_run_o2_3 Zhx rfl <| Ld Z0g 0 rfl <| Cv rfl (Zs 7 rfl rfl Z4r) fun g7 => Zj Z0g 7 rfl <| Nl <| SR <| Mp rfl <| Nc rfl <| Zh Zgv Zja rfl <| Ld Zq 0 rfl <| Ac (Z0o rfl rfl (vt rfl) (vk rfl)) rfl <| Nc rfl <| Zh Zgv Zja rfl <| Zj Zq 0 rfl <| Nl <| sq <| sq ?_
  obtain ⟨x8, hx8, h⟩ := Z8 h
  refine AR Zw (by kernel_rfl) <| SMp rfl <| SNc rfl <| Zv lexec_run_o2_0 Yjk rfl <| Zm Z4x 0 rfl <| Zm Z5h 5 rfl <| SCl [41, 42] (Zwo _ _ _ hx8) Y3m rfl <| Sd (lo [43] [] rfl fun S hs hr => Z0t rfl rfl Z15 (vh hs 43 rfl rfl)) <| Sd (lo [] [] rfl fun S hs hr => Zp (A := rd (Z0 .i64) 0) rfl rfl (vk rfl)) <| Sn <| bk <| LG (d := []) (ν := (List Int) × Nat × (List Out) × Env × (List Group) × Z09 × Int × Value) (fun (l22, i21, l15, b17, b18, b19, b20, v16) => (Sfx x8 i21 l22 ∧ Zak x5 R_exec_run_do x1 l22 i21 l15 b17 b18 b19 b20 = some r, l22.length, [(0, Z7 g2 (Lens.id Z1h)), (4, Z7 g6 (Lens.id Zz)), (6, Z7 g7 (Lens.id (Z3 24 Zd))), (43, rd (Z1 (Z0 .i64)) x8), (44, rd (Z0 .i64) (x8.length : Int)), (45, rd (Z0 .i64) (i21 : Int))], [(0, Zc g2 gT Z1h (⟨b17, b18, v16, b19, b20⟩ : exec_run_o2)), (5, Zc g6 164 Zz x5.1), (7, Zc g7 44 (Z3 24 Zd) x1.header), (2002, Zb v16 71 Z0r l15)])) (x8, 0, x1.out, x1.Env, x1.groups, x1.header, (IntKind.i64.wrap (x1.depth + 1)), v3) ⟨Sfx.start _, h⟩ (FX rfl) ?_
  rintro ⟨l22, i21, l15, b17, b18, b19, b20, v16⟩ ⟨hsf1, h⟩
  dsimp only at hsf1 h ⊢
  cases l22 with
  | nil =>
   unfold Zak at h
   refine SR <| Ac (Zi rfl rfl (vt rfl) (vt rfl)) rfl <| Nl <| sq <| Cn rfl (fun hc => absurd (of_decide_eq_true hc) hsf1.nil) (fun hc => ?_)
   refine xt <| Rg <| Mp rfl <| Nc rfl <| Zh Zgv Zja rfl <| Ld Zq 0 rfl <| Ac (Z0v rfl rfl (vt rfl) (vk rfl)) rfl <| Nc rfl <| Zh Zgv Zja rfl <| Zj Zq 0 rfl <| Nl ?_
   cases h; exact RetOK.turn (Turn.packF 0 2002 (fun v => (⟨b17, b18, v, b19, (IntKind.i64.wrap (b20 - 1))⟩ : exec_run_o2)) (by decide) rfl rfl) (Z1k (i := 0) Tryz.results178 rfl rfl)
  | cons x23 l22 =>
   unfold Zak at h
   refine SR <| Ac (Zi rfl rfl (vt rfl) (vt rfl)) rfl <| Nl <| sq <| Cn rfl (fun hc => ?_) (fun hc => absurd hsf1.cons (of_decide_eq_false hc))
   have hlti21 := of_decide_eq_true hc
   refine sk <| sq <| bk <| SR <| Ac (Z0k rfl rfl Z15 (vt rfl) (vt rfl) hsf1.lget) rfl <| Lp1 Zq rfl <| As rfl <| Nl <| sq ?_
   obtain ⟨x24, hx24, x25, hx25, x26, hx26, b27, hb27, h⟩ := bs4 h
   refine Rg <| Mp rfl <| Zh Z80 Z8p rfl <| Ld Z8l 5 rfl <| Md rfl <| Ac (Z0k rfl rfl Z5w (vt rfl) (vt rfl) hx24) rfl <| Fp Zd2 Zhs rfl <| Lp1 Z3d rfl <| Ac (Z14 (xs := [.const (Value.slice none 0 0), .tmp 55]) (Zon _ _ _ hx25) Zpl rfl rfl ⟨Z1i, vt rfl, trivial⟩) rfl <| Cl [56] (Zm6 _ _ hx26) Zov rfl <| AOps.packF 0 2002 (fun v => (⟨b17, b18, v, b19, b20⟩ : exec_run_o2)) (by decide) rfl rfl <| Cv rfl (Z10 0 (xs := [.tmp 49, .tmp 57]) (hR_exec_run_do _ _ _ _ _ hb27) Y1s rfl rfl ⟨vt rfl, vt rfl, trivial⟩ rfl) fun _u => AOps.unboxF 0 2002 (by decide) rfl rfl fun v28 => Nl <| Rg <| Mp rfl <| Ld Z0g 7 rfl <| Nc rfl <| Zh lexec_run_o2_3 Zhx rfl <| Zj Z0g 0 rfl <| Nl <| Rg <| Ac (Z0u (t := 44) rfl rfl (vt rfl) (vk rfl) (vt rfl) hlti21) rfl <| Md rfl <| Nl ?_
   exact ⟨(_, _, _, _, _, _, _, _), Nat.lt_succ_self _, ⟨hsf1.next, h⟩, FX rfl⟩
def Z89 (R_exec_run_group : (Z0m → Int → Option Z0m)) : (List Action) → Nat → (List Out) → Env → (List Group) → Z09 → Int → Option Z0m
 | [], i17, l11, b13, b14, b15, b16 => some (⟨b13, b14, l11, b15, b16⟩ : Z0m)
 | x19 :: l18, i17, l11, b13, b14, b15, b16 => (bif (decide (x19.Kind = 0)) then (Zjz x19).bind fun x21 => (Z18 l11 [(⟨x19.Port, x21, b15⟩ : Out)]).bind fun l22 => (Z89 R_exec_run_group l18) (i17 + 1) l22 b13 b14 b15 b16 else (bif (decide (x19.Kind = 22)) then (R_exec_run_group (⟨b13, b14, l11, b15, b16⟩ : Z0m) x19.Group).bind fun b24 => (Z89 R_exec_run_group l18) (i17 + 1) b24.out b24.Env b24.groups b24.header b24.depth else (Zgm x19).bind fun x26 => (Zdz x26 b15).bind fun x27 => (Z89 R_exec_run_group l18) (i17 + 1) l11 b13 b14 x27 b16))
def Zcg (R_exec_run_do : (Z0m → (List Action) → Option Z0m)) (R_exec_run_group : (Z0m → Int → Option Z0m)) (x1 : Z0m) (a4 : (List Action)) : Option Z0m :=
 Z89 R_exec_run_group a4 0 x1.out x1.Env x1.groups x1.header x1.depth
theorem Y9z (R_exec_run_do : (Z0m → (List Action) → Option Z0m)) (hR_exec_run_do : ∀ (g2 gT : Nat) (x1 : Z0m) (a4 : (List Action)) (r : Z0m), R_exec_run_do x1 a4 = some r → Con Tryz.prog 239 [Z7 g2 (Lens.id Z1h), rd (Z1 Z9) a4] (Zx g2 gT Z1h (fun v => (⟨x1.Env, x1.groups, v, x1.header, x1.depth⟩ : exec_run_o2)) 71 Z0r x1.out) (fun _ : Unit => top) (fun _ => Zx g2 gT Z1h (fun v => (⟨r.Env, r.groups, v, r.header, r.depth⟩ : exec_run_o2)) 71 Z0r r.out)) (R_exec_run_group : (Z0m → Int → Option Z0m)) (hR_exec_run_group : ∀ (g2 gT : Nat) (x1 : Z0m) (i4 : Int) (r : Z0m), R_exec_run_group x1 i4 = some r → Con Tryz.prog 178 [Z7 g2 (Lens.id Z1h), rd (Z0 .i64) i4] (Zx g2 gT Z1h (fun v => (⟨x1.Env, x1.groups, v, x1.header, x1.depth⟩ : exec_run_o2)) 71 Z0r x1.out) (fun _ : Unit => top) (fun _ => Zx g2 gT Z1h (fun v => (⟨r.Env, r.groups, v, r.header, r.depth⟩ : exec_run_o2)) 71 Z0r r.out)) (g2 gT : Nat) (x1 : Z0m) (a4 : (List Action)) (r : Z0m) (h : Zcg R_exec_run_do R_exec_run_group x1 a4 = some r) : Con Tryz.prog 239 [Z7 g2 (Lens.id Z1h), rd (Z1 Z9) a4] (Zx g2 gT Z1h (fun v => (⟨x1.Env, x1.groups, v, x1.header, x1.depth⟩ : exec_run_o2)) 71 Z0r x1.out) (fun _ : Unit => top) (fun _ => Zx g2 gT Z1h (fun v => (⟨r.Env, r.groups, v, r.header, r.depth⟩ : exec_run_o2)) 71 Z0r r.out) := by
 refine Con.intro Tryz.func239 rfl Tryz.ntmps239 rfl fun w H X => ?_
 unfold Zcg at h
 refine AW.unboxF 0 2002 (by decide) rfl rfl fun v3 => SR <| Md rfl <| Ac (Z0t rfl rfl Z13 (vt rfl)) rfl <| Mk rfl <| Nl <| bk <| LG (d := []) (ν := (List Action) × Nat × (List Out) × Env × (List Group) × Z09 × Int × Value) (fun (l18, i17, l11, b13, b14, b15, b16, v12) => (Sfx a4 i17 l18 ∧ Z89 R_exec_run_group l18 i17 l11 b13 b14 b15 b16 = some r, l18.length, [(0, Z7 g2 (Lens.id Z1h)), (6, rd (Z1 Z9) a4), (7, rd (Z0 .i64) (a4.length : Int)), (8, rd (Z0 .i64) (i17 : Int))], [(0, Zc g2 gT Z1h (⟨b13, b14, v12, b15, b16⟩ : exec_run_o2)), (2002, Zb v12 71 Z0r l11)])) (a4, 0, x1.out, x1.Env, x1.groups, x1.header, x1.depth, v3) ⟨Sfx.start _, h⟩ (FX rfl) ?_
 rintro ⟨l18, i17, l11, b13, b14, b15, b16, v12⟩ ⟨hsf1, h⟩
 dsimp only at hsf1 h ⊢
 cases l18 with
 | nil =>
  unfold Z89 at h
  refine SR <| Ac (Zi rfl rfl (vt rfl) (vt rfl)) rfl <| Nl <| sq <| Cn rfl (fun hc => absurd (of_decide_eq_true hc) hsf1.nil) (fun hc => ?_)
  refine xt ?_
  cases h; exact RetOK.turn (Turn.packF 0 2002 (fun v => (⟨b13, b14, v, b15, b16⟩ : exec_run_o2)) (by decide) rfl rfl) (Z1k (i := 0) Tryz.results239 rfl rfl)
 | cons x19 l18 =>
  unfold Z89 at h
  refine SR <| Ac (Zi rfl rfl (vt rfl) (vt rfl)) rfl <| Nl <| sq <| Cn rfl (fun hc => ?_) (fun hc => absurd hsf1.cons (of_decide_eq_false hc))
  have hlti17 := of_decide_eq_true hc
  refine sk <| sq <| bk <| SR <| Ac (Z0k rfl rfl Z13 (vt rfl) (vt rfl) hsf1.lget) rfl <| Lp1 Z12 rfl <| Cv rfl (Zs 6 rfl rfl Z8f) fun g20 => Zj Z12 6 rfl <| Nl <| SR <| Zh lAction_0 Z8j rfl <| Ld Zq 6 rfl <| Nl <| bk <| SR <| Ac (Z1r rfl rfl (vt rfl) (vk rfl)) rfl <| As rfl <| Nl <| Cq rfl h (fun h => ?_) (fun h => ?_)
  ·obtain ⟨x21, hx21, l22, hl22, h⟩ := bs2 h
   refine AR Zw (by kernel_rfl) <| SMp rfl <| SMp rfl <| SNc rfl <| Zv Zkt Zqr rfl <| Sd (lo [29] [0] rfl fun S hs hr => Z3e v12 rfl rfl Zh0 (vh hs 29 rfl rfl) (i := 0) ((hr 0 rfl).trans rfl) rfl) <| Zv lAction_1 Znx rfl <| Zm Zq 6 rfl <| Zm Z12 6 rfl <| SCl [33] (Ygu _ _ hx21) Y7d rfl <| SMp rfl <| SNc rfl <| Zv lexec_run_o2_3 Zhx rfl <| Zm Z0g 0 rfl <| Sd (lo [32, 34, 38] [] rfl fun S hs hr => opb (⟨x19.Port, x21, b15⟩ : Out) Zq9 rfl Ylc (pc Yf3 (vh hs 32 rfl rfl) <| pc Yj9 (vh hs 34 rfl rfl) <| pc Ydk (vh hs 38 rfl rfl) <| pn rfl)) <| Sd (lo [39] [] rfl fun S hs hr => osl Zqj Zq9 rfl (vh hs 39 rfl rfl)) <| Sd (Z1q (us := [(41, Z2j 71 Z0r l22)]) (ur := [(2002, emp)]) [30, 40] [2002] rfl fun S hs hr => Z92 2002 hl22 rfl rfl rfl Zup (vh hs 30 rfl rfl) ((hr 2002 rfl).trans rfl) (vh hs 40 rfl rfl)) <| SNc rfl <| Zv Zkt Zqr rfl <| Sd (Z1q (us := [(41, top)]) (ur := [(0, Zx g2 gT Z1h (fun v => ((Lens.comp (Lens.id Z1h) Zkt)).set (⟨b13, b14, v12, b15, b16⟩ : exec_run_o2) v) 71 Z0r l22)]) [43, 41] [0] rfl fun S hs hr => Zb9 rfl rfl Zh0 (vh hs 43 rfl rfl) ((hr 0 rfl).trans rfl) ((hs 41 rfl).trans rfl)) <| Sn <| AW.unboxF 0 2002 (by decide) rfl rfl fun v23 => Rg <| Ac (Z0u (t := 7) rfl rfl (vt rfl) (vk rfl) (vt rfl) hlti17) rfl <| Md rfl <| Nl ?_
   exact ⟨(_, _, _, _, _, _, _, _), Nat.lt_succ_self _, ⟨hsf1.next, h⟩, FX rfl⟩
  ·refine SR <| Ac (Z1r rfl rfl (vt rfl) (vk rfl)) rfl <| As rfl <| Nl <| Cq rfl h (fun h => ?_) (fun h => ?_)
   ·obtain ⟨b24, hb24, h⟩ := Z8 h
    refine Rg <| Mp rfl <| Zh Zlw Zqn rfl <| Ld Zq 6 rfl <| AOps.packF 0 2002 (fun v => (⟨b13, b14, v, b15, b16⟩ : exec_run_o2)) (by decide) rfl rfl <| Cv rfl (Z10 0 (xs := [.tmp 46, .tmp 48]) (hR_exec_run_group _ _ _ _ _ hb24) Ylg rfl rfl ⟨vt rfl, vt rfl, trivial⟩ rfl) fun _u => AOps.unboxF 0 2002 (by decide) rfl rfl fun v25 => Nl <| Rg <| Ac (Z0u (t := 7) rfl rfl (vt rfl) (vk rfl) (vt rfl) hlti17) rfl <| Md rfl <| Nl ?_
    exact ⟨(_, _, _, _, _, _, _, _), Nat.lt_succ_self _, ⟨hsf1.next, h⟩, FX rfl⟩
   ·obtain ⟨x26, hx26, x27, hx27, h⟩ := bs2 h
    refine AR Zw (by kernel_rfl) <| SMp rfl <| Zm Z12 6 rfl <| SCl [15] (Y4a _ _ hx26) Y3u rfl <| SMp rfl <| SNc rfl <| Zv lexec_run_o2_3 Zhx rfl <| Zm Z0g 0 rfl <| SCl [16, 20] (Zq6 _ _ _ hx27) Zu6 rfl <| SNc rfl <| Zv lexec_run_o2_3 Zhx rfl <| SSt Z0g 0 rfl <| Sn <| Rg <| Ac (Z0u (t := 7) rfl rfl (vt rfl) (vk rfl) (vt rfl) hlti17) rfl <| Md rfl <| Nl ?_
    exact ⟨(_, _, _, _, _, _, _, _), Nat.lt_succ_self _, ⟨hsf1.next, h⟩, FX rfl⟩
def Z30 : Nat → (Z0m → (List Action) → Option Z0m) × (Z0m → Int → Option Z0m)
 | 0 => ((fun _ _ => none), (fun _ _ => none))
 | n + 1 => ((Zcg (Z30 n).1 (Z30 n).2), (Zdp (Z30 n).1 (Z30 n).2))
theorem Zxl : ∀ n : Nat, (∀ (g2 gT : Nat) (x1 : Z0m) (a4 : (List Action)) (r : Z0m), (Z30 n).1 x1 a4 = some r → Con Tryz.prog 239 [Z7 g2 (Lens.id Z1h), rd (Z1 Z9) a4] (Zx g2 gT Z1h (fun v => (⟨x1.Env, x1.groups, v, x1.header, x1.depth⟩ : exec_run_o2)) 71 Z0r x1.out) (fun _ : Unit => top) (fun _ => Zx g2 gT Z1h (fun v => (⟨r.Env, r.groups, v, r.header, r.depth⟩ : exec_run_o2)) 71 Z0r r.out)) ∧ (∀ (g2 gT : Nat) (x1 : Z0m) (i4 : Int) (r : Z0m), (Z30 n).2 x1 i4 = some r → Con Tryz.prog 178 [Z7 g2 (Lens.id Z1h), rd (Z0 .i64) i4] (Zx g2 gT Z1h (fun v => (⟨x1.Env, x1.groups, v, x1.header, x1.depth⟩ : exec_run_o2)) 71 Z0r x1.out) (fun _ : Unit => top) (fun _ => Zx g2 gT Z1h (fun v => (⟨r.Env, r.groups, v, r.header, r.depth⟩ : exec_run_o2)) 71 Z0r r.out))
 | 0 => ⟨(by intros; rename_i h; cases h), (by intros; rename_i h; cases h)⟩
 | n + 1 => by
  have ih := Zxl n
  exact ⟨(Y9z (Z30 n).1 ih.1 (Z30 n).2 ih.2), (Yfy (Z30 n).1 ih.1 (Z30 n).2 ih.2)⟩
def Zrd (x1 : Z0m) (a4 : (List Action)) : Option Z0m := (Z30 Z0l).1 x1 a4
theorem Ykd : ∀ (g2 gT : Nat) (x1 : Z0m) (a4 : (List Action)) (r : Z0m), Zrd x1 a4 = some r → Con Tryz.prog 239 [Z7 g2 (Lens.id Z1h), rd (Z1 Z9) a4] (Zx g2 gT Z1h (fun v => (⟨x1.Env, x1.groups, v, x1.header, x1.depth⟩ : exec_run_o2)) 71 Z0r x1.out) (fun _ : Unit => top) (fun _ => Zx g2 gT Z1h (fun v => (⟨r.Env, r.groups, v, r.header, r.depth⟩ : exec_run_o2)) 71 Z0r r.out) := (Zxl Z0l).1
def Zg7 (l1 : (List Group)) (x2 : Env) (a3 : (List Action)) (x4 : Z09) : Option ((List Out) × Z09) :=
 (Zrd (⟨x2, l1, [], x4, 0⟩ : Z0m) a3).bind fun b9 => some (b9.out, b9.header)
theorem Yja : Q4 Tryz.prog 212 (rd (Z1 Zz)) (rd Z0q) (rd (Z1 Z9)) (rd (Z3 24 Zd)) (fun r => Z1b (rd (Z1 Z0r) r.1) (rd (Z3 24 Zd) r.2)) Zg7 := fun l1 x2 a3 x4 r h => I0 Tryz.func212 rfl Tryz.ntmps212 rfl fun w H => by
 unfold Zg7 at h
 refine SR <| Cv rfl (Zn 6 rfl rfl (vt rfl)) fun g5 => Cv rfl (Zn 8 rfl rfl (vt rfl)) fun g6 => Ac (Zy (A := rd (Z1 Z0r) []) rfl rfl Z1i) rfl <| Cv rfl (Zs 10 rfl rfl Z4r) fun g7 => Nl <| sq <| AW.newnil 2322 71 Z0r <| Rg <| Ld Z4x 6 rfl <| Md rfl <| Ld Z0g 8 rfl <| Ac (opb (⟨x2, l1, (.slice none 0 0), x4, 0⟩ : exec_run_o2) Ybi rfl Ydh (pc Ycr (vt rfl) <| pc Ybf (vt rfl) <| pc Y8p (vt rfl) <| pn rfl)) rfl <| Cv rfl (Zn 16 rfl rfl (vt rfl)) fun g8 => Ac (Zy (A := Z7 g8 (Lens.id Z1h)) rfl rfl (vt rfl)) rfl <| Nl <| sq ?_
 obtain ⟨b9, hb9, h⟩ := Z8 h
 refine Rg <| Mp rfl <| Md rfl <| AOps.packF 16 2322 (fun v => (⟨x2, l1, v, x4, 0⟩ : exec_run_o2)) (by decide) rfl rfl <| Cv rfl (Z10 16 (xs := [.tmp 16, .tmp 17]) (Ykd _ _ _ _ _ hb9) Y1s rfl rfl ⟨vt rfl, vt rfl, trivial⟩ rfl) fun _u => AOps.unboxF 16 2322 (by decide) rfl rfl fun v10 => Nl <| sq <| AR Zw (by kernel_rfl) <| SMp rfl <| SNc rfl <| Zv Zkt Zqr rfl <| Sd (lo [21] [16] rfl fun S hs hr => Z3e v10 rfl rfl Zh0 (vh hs 21 rfl rfl) (i := 16) ((hr 16 rfl).trans rfl) rfl) <| SMp rfl <| SNc rfl <| Zv lexec_run_o2_3 Zhx rfl <| Zm Z0g 16 rfl <| Sd (lo [22] [] rfl fun S hs hr => Zy (A := Zo v10) rfl rfl (vh hs 22 rfl rfl)) <| SSt Z0g 10 rfl <| Sn <| AW.freezes [8, 22] 2322 rfl ⟨rfl, rfl, trivial⟩ rfl <| rt ?_
 cases h; exact Z1m Tryz.results212 rfl (Za rfl) (Z01 rfl (i := 10) rfl Z0g)
end Go.Proofs.YtknpgojdkobgjaaGreat.W
set_option maxRecDepth 4000
namespace Go.Proofs.YtknpgojdkobgjaaGreat.W
open Go Go.Wb
theorem Yeq : Ent Tryz.prog 212 := Ent.mk Tryz.func212 rfl rfl
theorem Y4m : Ent Tryz.prog 148 := Ent.mk Tryz.func148 rfl rfl
theorem e34 : Ent Tryz.prog 34 := Ent.mk Tryz.func34 rfl rfl
theorem Yi3 : Ent Tryz.prog 147 := Ent.mk Tryz.func147 rfl rfl
theorem e86 : Ent Tryz.prog 86 := Ent.mk Tryz.func86 rfl rfl
theorem e29 : Ent Tryz.prog 29 := Ent.mk Tryz.func29 rfl rfl
theorem Y7v : Ent Tryz.prog 161 := Ent.mk Tryz.func161 rfl rfl
theorem e92 : Ent Tryz.prog 92 := Ent.mk Tryz.func92 rfl rfl
theorem e93 : Ent Tryz.prog 93 := Ent.mk Tryz.func93 rfl rfl
theorem e67 : Ent Tryz.prog 67 := Ent.mk Tryz.func67 rfl rfl
theorem e37 : Ent Tryz.prog 37 := Ent.mk Tryz.func37 rfl rfl
theorem e69 : Ent Tryz.prog 69 := Ent.mk Tryz.func69 rfl rfl
def Zb0 (p1 : Z2k) (l5 : (List Action)) : Option Z2k :=
 (Zg7 p1.Switch.Groups p1.env l5 p1.header).bind fun x6 => (Z18 p1.out x6.1).bind fun l8 => some (⟨p1.Switch, p1.env, x6.2, p1.set, l8, p1.path⟩ : Z2k)
theorem Y1r (g2 gT : Nat) (p1 : Z2k) (l5 : (List Action)) (r : Z2k) (h : Zb0 p1 l5 = some r) : Con Tryz.prog 148 [Z7 g2 (Lens.id Z1u), rd (Z1 Z9) l5] (Z5k (fun v2 => Zx g2 gT Z1u (fun v => (⟨p1.Switch, p1.env, p1.header, p1.set, v, v2⟩ : sem_packet_o4_5)) 71 Z0r p1.out) 51 Z43 p1.path) (fun _ : Unit => top) (fun _ => Z5k (fun v2 => Zx g2 gT Z1u (fun v => (⟨r.Switch, r.env, r.header, r.set, v, v2⟩ : sem_packet_o4_5)) 71 Z0r r.out) 51 Z43 r.path) := by
 refine Con.intro Tryz.func148 rfl Tryz.ntmps148 rfl fun w H X => ?_
 unfold Zb0 at h
 refine AW.unboxS 0 2005 (by decide) rfl rfl fun v4 => AW.unboxF 0 2004 (by decide) rfl rfl fun v3 => sq ?_
 obtain ⟨x6, hx6, h⟩ := Z8 h
 refine AR Zw (by kernel_rfl) <| SMp rfl <| SNc rfl <| Zv lsem_packet_o4_5_0 Zqt rfl <| Zv Zim Zm8 rfl <| Zm Zes 0 rfl <| SMp rfl <| SNc rfl <| Zv lsem_packet_o4_5_1 Y74 rfl <| Zm Z4x 0 rfl <| SMd rfl <| SMp rfl <| SNc rfl <| Zv lsem_packet_o4_5_2 Zj1 rfl <| Zm Z0g 0 rfl <| SCl [11, 15, 16, 20] (Yja _ _ _ _ _ hx6) Yeq rfl <| Sd (lo [21] [] rfl fun S hs hr => Zp (A := Z1b (rd (Z1 Z0r) x6.1) (rd (Z3 24 Zd) x6.2)) rfl rfl (vh hs 21 rfl rfl)) <| Sd (lo [6] [] rfl fun S hs hr => Z1n rfl rfl (vh hs 6 rfl rfl)) <| Sd (lo [6] [] rfl fun S hs hr => Z1l rfl rfl (vh hs 6 rfl rfl)) <| Sd (Z1q (us := [(5, Z46 44 (Z3 24 Zd) (Vector.replicate 24 Z0j))]) (ur := []) [] [] rfl fun S hs hr => Zdb rfl rfl rfl Z4r) <| SAs rfl <| Sd (Z1q (us := [(5, Z46 44 (Z3 24 Zd) x6.2)]) (ur := []) [5, 23] [] rfl fun S hs hr => Zey rfl rfl Z0g ((hs 5 rfl).trans rfl) (vh hs 23 rfl rfl)) <| Sn <| AW.unpackP 5 6 rfl rfl fun g7 => ?_
 obtain ⟨l8, hl8, h⟩ := Z8 h
 refine AW.endT <| AR Zw (by kernel_rfl) <| SMp rfl <| SMp rfl <| SMp rfl <| SNc rfl <| Zv Zir Zsd rfl <| Sd (lo [28] [0] rfl fun S hs hr => Z3e v3 rfl rfl Zh0 (vh hs 28 rfl rfl) (i := 0) ((hr 0 rfl).trans rfl) rfl) <| SMd rfl <| Sd (Z1q (us := [(31, Z2j 71 Z0r l8)]) (ur := [(2004, emp)]) [29, 30] [2004] rfl fun S hs hr => Z92 2004 hl8 rfl rfl rfl Zup (vh hs 29 rfl rfl) ((hr 2004 rfl).trans rfl) (vh hs 30 rfl rfl)) <| Zm Z0g 6 rfl <| SNc rfl <| Zv Zir Zsd rfl <| Sd (Z1q (us := [(31, top)]) (ur := [(0, Zx g2 gT Z1u (fun v => ((Lens.comp (Lens.id Z1u) Zir)).set (⟨p1.Switch, p1.env, p1.header, p1.set, v3, v4⟩ : sem_packet_o4_5) v) 71 Z0r l8)]) [34, 31] [0] rfl fun S hs hr => Zb9 rfl rfl Zh0 (vh hs 34 rfl rfl) ((hr 0 rfl).trans rfl) ((hs 31 rfl).trans rfl)) <| SNc rfl <| Zv lsem_packet_o4_5_2 Zj1 rfl <| Sd (Z45 [36, 32] [0] rfl fun S hs hr => Y9h rfl rfl Z0g (vh hs 36 rfl rfl) (i := 0) ((hr 0 rfl).trans rfl) (vh hs 32 rfl rfl)) <| Sn <| EndT.unboxF 0 2004 (by decide) rfl rfl fun v9 => EndT.done ?_
 cases h; exact RetOK.turn (Turn.packF 0 2004 (fun v => (⟨p1.Switch, p1.env, x6.2, p1.set, v, v4⟩ : sem_packet_o4_5)) (by decide) rfl rfl) (RetOK.turn (Turn.packS 0 2005 (fun v2 => Zx g2 gT Z1u (fun v => (⟨p1.Switch, p1.env, x6.2, p1.set, v, v2⟩ : sem_packet_o4_5)) 71 Z0r l8) (by decide) rfl rfl) (Z1k (i := 0) Tryz.results148 rfl rfl))
def Zcd (l6 : (List Inst)) (a5 : Int) (l7 : (List Out)) (l9 : (List Place)) (b23 : Switch) (b24 : Env) (b25 : Z09) (b26 : (List Action)) : Option (Int × Bool × Z2k) :=
 (Z69 l6 1).bind fun x27 => some (x27.1.Table, ((x27.2 && (decide (x27.1.Table > a5))) && (decide (x27.1.Table < 4))), (⟨b23, b24, b25, b26, l7, l9⟩ : Z2k))
def Zht (l6 : (List Inst)) (a5 : Int) (l7 : (List Out)) (l9 : (List Place)) (b19 : Switch) (b20 : Env) (b21 : Z09) (b22 : (List Action)) : Option (Int × Bool × Z2k) :=
 (Z69 l6 2).bind fun x29 => (bif x29.2 then (Z9j).bind fun x31 => (Z73 x31 1 x29.1.Value x29.1.Mask).bind fun x32 => (Zdz x32 b21).bind fun x33 => Zcd l6 a5 l7 l9 b19 b20 x33 b22 else Zcd l6 a5 l7 l9 b19 b20 b21 b22)
def Zhv (l6 : (List Inst)) (a5 : Int) (l7 : (List Out)) (l9 : (List Place)) (b15 : Switch) (b16 : Env) (b17 : Z09) (b18 : (List Action)) : Option (Int × Bool × Z2k) :=
 (Z69 l6 3).bind fun x34 => (bif x34.2 then (Zby b18 x34.1.Acts).bind fun x36 => Zht l6 a5 l7 l9 b15 b16 b17 x36 else Zht l6 a5 l7 l9 b15 b16 b17 b18)
def Zhe (l6 : (List Inst)) (a5 : Int) (l7 : (List Out)) (l9 : (List Place)) (b11 : Switch) (b12 : Env) (b13 : Z09) (b14 : (List Action)) : Option (Int × Bool × Z2k) :=
 (Z69 l6 5).bind fun x37 => (bif x37.2 then Zhv l6 a5 l7 l9 b11 b12 b13 [] else Zhv l6 a5 l7 l9 b11 b12 b13 b14)
def Zf3 (p1 : Z2k) (a5 : Int) (l6 : (List Inst)) : Option (Int × Bool × Z2k) :=
 (Z69 l6 4).bind fun x39 => (bif x39.2 then (Zb0 (⟨p1.Switch, p1.env, p1.header, p1.set, p1.out, p1.path⟩ : Z2k) x39.1.Acts).bind fun b41 => Zhe l6 a5 b41.out b41.path b41.Switch b41.env b41.header b41.set else Zhe l6 a5 p1.out p1.path p1.Switch p1.env p1.header p1.set)
theorem Y6e (g2 gT : Nat) (p1 : Z2k) (a5 : Int) (l6 : (List Inst)) (r : (Int × Bool × Z2k)) (h : Zf3 p1 a5 l6 = some r) : Con Tryz.prog 147 [Z7 g2 (Lens.id Z1u), rd (Z0 .i64) a5, rd (Z1 Z1e) l6] (Z5k (fun v2 => Zx g2 gT Z1u (fun v => (⟨p1.Switch, p1.env, p1.header, p1.set, v, v2⟩ : sem_packet_o4_5)) 71 Z0r p1.out) 51 Z43 p1.path) (fun _ : Unit => Z1b (rd (Z0 .i64) r.1) (rd Z5 r.2.1)) (fun _ => Z5k (fun v2 => Zx g2 gT Z1u (fun v => (⟨r.2.2.Switch, r.2.2.env, r.2.2.header, r.2.2.set, v, v2⟩ : sem_packet_o4_5)) 71 Z0r r.2.2.out) 51 Z43 r.2.2.path) := by
 refine Con.intro Tryz.func147 rfl Tryz.ntmps147 rfl fun w H X => ?_
 unfold Zf3 at h
 refine AW.unboxS 0 2005 (by decide) rfl rfl fun v4 => AW.unboxF 0 2004 (by decide) rfl rfl fun v3 => SR <| Ak rfl <| Ab rfl <| Nl ?_
 refine JN (d := []) (ν := (List Out) × (List Place) × Switch × Env × Z09 × (List Action) × Value × Value) (fun (l7, l9, b11, b12, b13, b14, v8, v10) => (Zhe l6 a5 l7 l9 b11 b12 b13 b14 = some r, [(0, Z7 g2 (Lens.id Z1u)), (1, rd (Z0 .i64) a5), (2, rd (Z1 Z1e) l6)], [(0, Zc g2 gT Z1u (⟨b11, b12, b13, b14, v8, v10⟩ : sem_packet_o4_5)), (2004, Zb v8 71 Z0r l7), (2005, Zb v10 51 Z43 l9)])) ?hx1 ?hy1
 case hy1 =>
  rintro ⟨l7, l9, b11, b12, b13, b14, v8, v10⟩ h
  dsimp only at h ⊢
  unfold Zhe at h
  refine JN (d := []) (ν := Switch × Env × Z09 × (List Action)) (fun (b15, b16, b17, b18) => (Zhv l6 a5 l7 l9 b15 b16 b17 b18 = some r, [(0, Z7 g2 (Lens.id Z1u)), (1, rd (Z0 .i64) a5), (2, rd (Z1 Z1e) l6)], [(0, Zc g2 gT Z1u (⟨b15, b16, b17, b18, v8, v10⟩ : sem_packet_o4_5)), (2004, Zb v8 71 Z0r l7), (2005, Zb v10 51 Z43 l9)])) ?hx2 ?hy2
  case hy2 =>
   rintro ⟨b15, b16, b17, b18⟩ h
   dsimp only at h ⊢
   unfold Zhv at h
   refine JN (d := []) (ν := Switch × Env × Z09 × (List Action)) (fun (b19, b20, b21, b22) => (Zht l6 a5 l7 l9 b19 b20 b21 b22 = some r, [(0, Z7 g2 (Lens.id Z1u)), (1, rd (Z0 .i64) a5), (2, rd (Z1 Z1e) l6)], [(0, Zc g2 gT Z1u (⟨b19, b20, b21, b22, v8, v10⟩ : sem_packet_o4_5)), (2004, Zb v8 71 Z0r l7), (2005, Zb v10 51 Z43 l9)])) ?hx3 ?hy3
   case hy3 =>
    rintro ⟨b19, b20, b21, b22⟩ h
    dsimp only at h ⊢
    unfold Zht at h
    refine JN (d := []) (ν := Switch × Env × Z09 × (List Action)) (fun (b23, b24, b25, b26) => (Zcd l6 a5 l7 l9 b23 b24 b25 b26 = some r, [(1, rd (Z0 .i64) a5), (2, rd (Z1 Z1e) l6)], [(0, Zc g2 gT Z1u (⟨b23, b24, b25, b26, v8, v10⟩ : sem_packet_o4_5)), (2004, Zb v8 71 Z0r l7), (2005, Zb v10 51 Z43 l9)])) ?hx4 ?hy4
    case hy4 =>
     rintro ⟨b23, b24, b25, b26⟩ h
     dsimp only at h ⊢
     unfold Zcd at h
     refine sq ?_
     obtain ⟨x27, hx27, h⟩ := Z8 h
     refine Rg <| Md rfl <| Ac (Z14 (xs := [.tmp 74, .const (Value.int IntKind.i64 1)]) (Z91 _ _ _ hx27) Z8i rfl rfl ⟨vt rfl, vk rfl, trivial⟩) rfl <| Mt2 rfl <| Ac (Z1n rfl rfl (vt rfl)) rfl <| Ac (Z1l rfl rfl (vt rfl)) rfl <| Cv rfl (Zs 17 rfl rfl Z4z) fun g28 => Zj Z40 17 rfl <| As rfl <| Nl <| sq <| AR Zw (by kernel_rfl) <| Zv Zep Zf0 rfl <| Zm Zq 17 rfl <| SMd rfl <| SMd rfl <| Sd (lg [16, 81] [] rfl fun hq S hs hr => Z2t Zep rfl rfl Zf0 (vh hs 16 rfl rfl)) <| Sd (lg [82, 81] [17] rfl fun hq S hs hr => Z29 rfl rfl Zq (Zg ((hs 82 rfl).trans rfl) hq) (i := 17) ((hr 17 rfl).trans rfl)) <| Sd (lg [1, 81] [] rfl fun hq S hs hr => Zp (A := rd (Z0 .i64) a5) rfl rfl (vh hs 1 rfl rfl)) <| Sd (lg [83, 84, 81] [] rfl fun hq S hs hr => Z3i rfl rfl (Zg ((hs 83 rfl).trans rfl) hq) (Zg ((hs 84 rfl).trans rfl) hq)) <| Sd (lo [85, 81] [] rfl fun S hs hr => Z21 rfl rfl (vh hs 81 rfl rfl) (vh hs 85 rfl rfl)) <| SMd rfl <| Sd (lg [16, 87] [] rfl fun hq S hs hr => Z2t Zep rfl rfl Zf0 (vh hs 16 rfl rfl)) <| Sd (lg [88, 87] [17] rfl fun hq S hs hr => Z29 rfl rfl Zq (Zg ((hs 88 rfl).trans rfl) hq) (i := 17) ((hr 17 rfl).trans rfl)) <| Sd (lg [89, 87] [] rfl fun hq S hs hr => Zi rfl rfl (Zg ((hs 89 rfl).trans rfl) hq) (vk rfl)) <| Sd (lo [90, 87] [] rfl fun S hs hr => Z21 rfl rfl (vh hs 87 rfl rfl) (vh hs 90 rfl rfl)) <| SAs rfl <| SAs rfl <| Sn <| rt ?_
     cases h; exact RetOK.turn (Turn.packF 0 2004 (fun v => (⟨b23, b24, b25, b26, v, v10⟩ : sem_packet_o4_5)) (by decide) rfl rfl) (RetOK.turn (Turn.packS 0 2005 (fun v2 => Zx g2 gT Z1u (fun v => (⟨b23, b24, b25, b26, v, v2⟩ : sem_packet_o4_5)) 71 Z0r l7) (by decide) rfl rfl) (Y7k (i := 0) Tryz.results147 rfl (Za rfl) (Za rfl) rfl))
    case hx4 =>
     refine sq ?_
     obtain ⟨x29, hx29, h⟩ := Z8 h
     refine Rg <| Md rfl <| Ac (Z14 (xs := [.tmp 54, .const (Value.int IntKind.i64 2)]) (Z91 _ _ _ hx29) Z8i rfl rfl ⟨vt rfl, vk rfl, trivial⟩) rfl <| Mt2 rfl <| Ac (Z1n rfl rfl (vt rfl)) rfl <| Ac (Z1l rfl rfl (vt rfl)) rfl <| Cv rfl (Zs 15 rfl rfl Z4z) fun g30 => Zj Z40 15 rfl <| As rfl <| Nl <| SR <| Md rfl <| Nl <| Cq rfl h (fun h => ?_) (fun h => ?_)
     ·obtain ⟨x31, hx31, x32, hx32, x33, hx33, h⟩ := bs3 h
      refine AR Zw (by kernel_rfl) <| SMp rfl <| SCl [] (Zoo _ hx31) e77 rfl <| Zv Ztl Zy4 rfl <| Zm Z02 15 rfl <| Zv Zu4 Y0z rfl <| Zm Z02 15 rfl <| Sd (lo [60, 62, 64] [] rfl fun S hs hr => Z14 (xs := [.tmp 60, .const (Value.int IntKind.i64 1), .tmp 62, .tmp 64]) (Zei _ _ _ _ _ hx32) Zdd rfl rfl ⟨vt ((hs 60 rfl).trans rfl), vk rfl, vt ((hs 62 rfl).trans rfl), vt ((hs 64 rfl).trans rfl), trivial⟩) <| SMp rfl <| SNc rfl <| Zv lsem_packet_o4_5_2 Zj1 rfl <| Zm Z0g 0 rfl <| SCl [65, 69] (Zq6 _ _ _ hx33) Zu6 rfl <| SNc rfl <| Zv lsem_packet_o4_5_2 Zj1 rfl <| SSt Z0g 0 rfl <| Sn ?_
      exact ⟨(_, _, _, _), h, FX rfl⟩
     ·refine sk ?_
      exact ⟨(_, _, _, _), h, FX rfl⟩
   case hx3 =>
    refine sq ?_
    obtain ⟨x34, hx34, h⟩ := Z8 h
    refine Rg <| Md rfl <| Ac (Z14 (xs := [.tmp 38, .const (Value.int IntKind.i64 3)]) (Z91 _ _ _ hx34) Z8i rfl rfl ⟨vt rfl, vk rfl, trivial⟩) rfl <| Mt2 rfl <| Ac (Z1n rfl rfl (vt rfl)) rfl <| Ac (Z1l rfl rfl (vt rfl)) rfl <| Cv rfl (Zs 13 rfl rfl Z4z) fun g35 => Zj Z40 13 rfl <| As rfl <| Nl <| SR <| Md rfl <| Nl <| Cq rfl h (fun h => ?_) (fun h => ?_)
    ·obtain ⟨x36, hx36, h⟩ := Z8 h
     refine AR Zw (by kernel_rfl) <| SMp rfl <| SMp rfl <| SNc rfl <| Zv Zl4 Znh rfl <| Zm Z3d 0 rfl <| Zv lInst_4 Zb2 rfl <| Zm Z3d 13 rfl <| SCl [47, 49] (Zon _ _ _ hx36) Zpl rfl <| SNc rfl <| Zv Zl4 Znh rfl <| SSt Z3d 0 rfl <| Sn ?_
     exact ⟨(_, _, _, _), h, FX rfl⟩
    ·refine sk ?_
     exact ⟨(_, _, _, _), h, FX rfl⟩
  case hx2 =>
   refine sq ?_
   obtain ⟨x37, hx37, h⟩ := Z8 h
   refine Rg <| Md rfl <| Ac (Z14 (xs := [.tmp 29, .const (Value.int IntKind.i64 5)]) (Z91 _ _ _ hx37) Z8i rfl rfl ⟨vt rfl, vk rfl, trivial⟩) rfl <| Mt2 rfl <| Ac (Z1n rfl rfl (vt rfl)) rfl <| Ac (Z1l rfl rfl (vt rfl)) rfl <| Cv rfl (Zs 11 rfl rfl Z4z) fun g38 => Zj Z40 11 rfl <| As rfl <| Nl <| SR <| Md rfl <| Nl <| Cq rfl h (fun h => ?_) (fun h => ?_)
   ·refine Rg <| Mp rfl <| Nc rfl <| Zh Zl4 Znh rfl <| Ac (Z5c rfl rfl Z3d (vt rfl) (i := 0) rfl Z1i) rfl <| Nl ?_
    exact ⟨(_, _, _, _), h, FX rfl⟩
   ·refine sk ?_
    exact ⟨(_, _, _, _), h, FX rfl⟩
 case hx1 =>
  refine sq ?_
  obtain ⟨x39, hx39, h⟩ := Z8 h
  refine Rg <| Md rfl <| Ac (Z14 (xs := [.tmp 19, .const (Value.int IntKind.i64 4)]) (Z91 _ _ _ hx39) Z8i rfl rfl ⟨vt rfl, vk rfl, trivial⟩) rfl <| Mt2 rfl <| Ac (Z1n rfl rfl (vt rfl)) rfl <| Ac (Z1l rfl rfl (vt rfl)) rfl <| Cv rfl (Zs 9 rfl rfl Z4z) fun g40 => Zj Z40 9 rfl <| As rfl <| Nl <| SR <| Md rfl <| Nl <| Cq rfl h (fun h => ?_) (fun h => ?_)
  ·obtain ⟨b41, hb41, h⟩ := Z8 h
   refine Rg <| Mp rfl <| Zh lInst_4 Zb2 rfl <| Ld Z3d 9 rfl <| AOps.packF 0 2004 (fun v => (⟨p1.Switch, p1.env, p1.header, p1.set, v, v4⟩ : sem_packet_o4_5)) (by decide) rfl rfl <| AOps.packS 0 2005 (fun v2 => Zx g2 gT Z1u (fun v => (⟨p1.Switch, p1.env, p1.header, p1.set, v, v2⟩ : sem_packet_o4_5)) 71 Z0r p1.out) (by decide) rfl rfl <| Cv rfl (Z10 0 (xs := [.tmp 24, .tmp 26]) (Y1r _ _ _ _ _ hb41) Y4m rfl rfl ⟨vt rfl, vt rfl, trivial⟩ rfl) fun _u => AOps.unboxS 0 2005 (by decide) rfl rfl fun v43 => AOps.unboxF 0 2004 (by decide) rfl rfl fun v42 => Nl ?_
   exact ⟨(_, _, _, _, _, _, _, _), h, FX rfl⟩
  ·refine sk ?_
   exact ⟨(_, _, _, _, _, _, _, _), h, FX rfl⟩
def Zdv : Nat → (List Out) → (List Place) → Switch → Env → Z09 → (List Action) → Int → Option Z2k
 | 0, _, _, _, _, _, _, _ => none
 | m23 + 1, l14, l16, b18, b19, b20, b21, a22 => (chk 4 a22).bind fun j24 => (Zkg (Vector.get b18.Tables j24) b20).bind fun x25 => (bif (!x25.2) then (Z18 l16 [(⟨a22, (-1)⟩ : Place)]).bind fun l26 => some (⟨b18, b19, b20, b21, l14, l26⟩ : Z2k) else (Z18 l16 [(⟨a22, x25.1⟩ : Place)]).bind fun l28 => (chk 4 a22).bind fun j30 => (lget (Vector.get b18.Tables j30) x25.1).bind fun x31 => (Zf3 (⟨b18, b19, b20, b21, l14, l28⟩ : Z2k) a22 x31.Insts).bind fun b32 => (bif (!b32.2.1) then (Z7d b32.2.2.set).bind fun x35 => (Zb0 (⟨b32.2.2.Switch, b32.2.2.env, b32.2.2.header, b32.2.2.set, b32.2.2.out, b32.2.2.path⟩ : Z2k) x35).bind fun b36 => some (⟨b36.Switch, b36.env, b36.header, b36.set, b36.out, b36.path⟩ : Z2k) else (Zdv m23) b32.2.2.out b32.2.2.path b32.2.2.Switch b32.2.2.env b32.2.2.header b32.2.2.set b32.1))
def Zmh (p1 : Z2k) : Option Z2k :=
 Zdv Z0l p1.out p1.path p1.Switch p1.env p1.header p1.set 0
theorem Ye1 (g2 gT : Nat) (p1 : Z2k) (r : Z2k) (h : Zmh p1 = some r) : Con Tryz.prog 86 [Z7 g2 (Lens.id Z1u)] (Z5k (fun v2 => Zx g2 gT Z1u (fun v => (⟨p1.Switch, p1.env, p1.header, p1.set, v, v2⟩ : sem_packet_o4_5)) 71 Z0r p1.out) 51 Z43 p1.path) (fun _ : Unit => top) (fun _ => Z5k (fun v2 => Zx g2 gT Z1u (fun v => (⟨r.Switch, r.env, r.header, r.set, v, v2⟩ : sem_packet_o4_5)) 71 Z0r r.out) 51 Z43 r.path) := by
 refine Con.intro Tryz.func86 rfl Tryz.ntmps86 rfl fun w H X => ?_
 unfold Zmh at h
 refine AW.unboxS 0 2005 (by decide) rfl rfl fun v4 => AW.unboxF 0 2004 (by decide) rfl rfl fun v3 => AW.scope <| SR <| Ak rfl <| Nl <| sq <| AW.label <| bk <| LG (d := []) (ν := Nat × (List Out) × (List Place) × Switch × Env × Z09 × (List Action) × Int × Value × Value) (fun (m23, l14, l16, b18, b19, b20, b21, a22, v15, v17) => (True ∧ Zdv m23 l14 l16 b18 b19 b20 b21 a22 = some r, m23, [(0, Z7 g2 (Lens.id Z1u)), (2, rd (Z0 .i64) a22)], [(0, Zc g2 gT Z1u (⟨b18, b19, b20, b21, v15, v17⟩ : sem_packet_o4_5)), (2004, Zb v15 71 Z0r l14), (2005, Zb v17 51 Z43 l16)])) (Z0l, p1.out, p1.path, p1.Switch, p1.env, p1.header, p1.set, 0, v3, v4) ⟨trivial, h⟩ (FX rfl) ?_
 rintro ⟨m23, l14, l16, b18, b19, b20, b21, a22, v15, v17⟩ ⟨hsf1, h⟩
 dsimp only at h ⊢
 cases m23 with
 | zero => cases h
 | succ m23 =>
  unfold Zdv at h
  refine bk <| sq ?_
  obtain ⟨j24, hj24, x25, hx25, h⟩ := bs2 h
  refine AR Zw (by kernel_rfl) <| SMp rfl <| SMd rfl <| SNc rfl <| Zv lsem_packet_o4_5_0 Zqt rfl <| Zv Zbd Ze2 rfl <| Sd (lo [12, 9] [] rfl fun S hs hr => Z2u rfl rfl Zec (vh hs 12 rfl rfl) (vh hs 9 rfl rfl) hj24) <| Zm Z5u 0 rfl <| SMp rfl <| SNc rfl <| Zv lsem_packet_o4_5_2 Zj1 rfl <| Zm Z0g 0 rfl <| SCl [14, 18] (Ym0 _ _ _ hx25) e34 rfl <| Sd (lo [19] [] rfl fun S hs hr => Zp (A := Z1b (rd (Z0 .i64) x25.1) (rd Z5 x25.2)) rfl rfl (vh hs 19 rfl rfl)) <| Sd (lo [7] [] rfl fun S hs hr => Z1n rfl rfl (vh hs 7 rfl rfl)) <| Sd (lo [7] [] rfl fun S hs hr => Z1l rfl rfl (vh hs 7 rfl rfl)) <| SAs rfl <| SAs rfl <| Sn <| sq <| SR <| Md rfl <| Ac (Z0z rfl rfl (vt rfl)) rfl <| Nl <| Cq rfl h (fun h => ?_) (fun h => ?_)
  ·refine sq ?_
   obtain ⟨l26, hl26, h⟩ := Z8 h
   refine Rg <| Mp rfl <| Mp rfl <| Nc rfl <| Zh Zip Zpc rfl <| Ac (Z3e v17 rfl rfl Zm3 (vt rfl) (i := 0) rfl rfl) rfl <| Md rfl <| Ac (opb (⟨a22, (-1)⟩ : Place) Zoj rfl Y4b (pc Y2d (vt rfl) <| pc Zzu (vk rfl) <| pn rfl)) rfl <| Ac (osl Zze Zoj rfl (vt rfl)) rfl <| Cv rfl (Z44 2005 hl26 rfl rfl Y0s (vt rfl) rfl (vt rfl)) fun v27 => Nc rfl <| Zh Zip Zpc rfl <| Ac (Z5c rfl rfl Zm3 (vt rfl) (i := 0) rfl (Zo3 (i := 2005) rfl rfl)) rfl <| Nl <| xt ?_
   cases h; exact RetOK.turn (Turn.packF 0 2004 (fun v => (⟨b18, b19, b20, b21, v, v27⟩ : sem_packet_o4_5)) (by decide) rfl rfl) (RetOK.turn (Turn.packS 0 2005 (fun v2 => Zx g2 gT Z1u (fun v => (⟨b18, b19, b20, b21, v, v2⟩ : sem_packet_o4_5)) 71 Z0r l14) (by decide) rfl rfl) (Z1k (i := 0) Tryz.results86 rfl rfl))
  ·refine sk <| sq ?_
   obtain ⟨l28, hl28, h⟩ := Z8 h
   refine Rg <| Mp rfl <| Mp rfl <| Nc rfl <| Zh Zip Zpc rfl <| Ac (Z3e v17 rfl rfl Zm3 (vt rfl) (i := 0) rfl rfl) rfl <| Md rfl <| Md rfl <| Ac (opb (⟨a22, x25.1⟩ : Place) Zoj rfl Y4b (pc Y2d (vt rfl) <| pc Zzu (vt rfl) <| pn rfl)) rfl <| Ac (osl Zze Zoj rfl (vt rfl)) rfl <| Cv rfl (Z44 2005 hl28 rfl rfl Y0s (vt rfl) rfl (vt rfl)) fun v29 => Nc rfl <| Zh Zip Zpc rfl <| Ac (Z5c rfl rfl Zm3 (vt rfl) (i := 0) rfl (Zo3 (i := 2005) rfl rfl)) rfl <| Nl <| sq ?_
   obtain ⟨j30, hj30, x31, hx31, b32, hb32, h⟩ := bs3 h
   refine Rg <| Mp rfl <| Md rfl <| Mp rfl <| Md rfl <| Nc rfl <| Zh lsem_packet_o4_5_0 Zqt rfl <| Zh Zbd Ze2 rfl <| Ac (Z2u rfl rfl Zec (vt rfl) (vt rfl) hj30) rfl <| Ld Z5u 0 rfl <| Md rfl <| Ac (Z0k rfl rfl Z5p (vt rfl) (vt rfl) hx31) rfl <| Fp lFlow_6 Zp0 rfl <| Lp1 Zot rfl <| AOps.packF 0 2004 (fun v => (⟨b18, b19, b20, b21, v, v29⟩ : sem_packet_o4_5)) (by decide) rfl rfl <| AOps.packS 0 2005 (fun v2 => Zx g2 gT Z1u (fun v => (⟨b18, b19, b20, b21, v, v2⟩ : sem_packet_o4_5)) 71 Z0r l14) (by decide) rfl rfl <| Cv rfl (Z10 0 (xs := [.tmp 48, .tmp 49, .tmp 60]) (Y6e _ _ _ _ _ _ hb32) Yi3 rfl rfl ⟨vt rfl, vt rfl, vt rfl, trivial⟩ rfl) fun _u => AOps.unboxS 0 2005 (by decide) rfl rfl fun v34 => AOps.unboxF 0 2004 (by decide) rfl rfl fun v33 => Mt2 rfl <| Ac (Z1n rfl rfl (vt rfl)) rfl <| Ac (Z1l rfl rfl (vt rfl)) rfl <| As rfl <| As rfl <| Nl <| sq <| SR <| Md rfl <| Ac (Z0z rfl rfl (vt rfl)) rfl <| Nl <| Cq rfl h (fun h => ?_) (fun h => ?_)
   ·refine sq ?_
    obtain ⟨x35, hx35, b36, hb36, h⟩ := bs2 h
    refine Rg <| Mp rfl <| Mp rfl <| Nc rfl <| Zh Zl4 Znh rfl <| Ld Z3d 0 rfl <| Cl [70] (Zm6 _ _ hx35) Zov rfl <| AOps.packF 0 2004 (fun v => (⟨b32.2.2.Switch, b32.2.2.env, b32.2.2.header, b32.2.2.set, v, v34⟩ : sem_packet_o4_5)) (by decide) rfl rfl <| AOps.packS 0 2005 (fun v2 => Zx g2 gT Z1u (fun v => (⟨b32.2.2.Switch, b32.2.2.env, b32.2.2.header, b32.2.2.set, v, v2⟩ : sem_packet_o4_5)) 71 Z0r b32.2.2.out) (by decide) rfl rfl <| Cv rfl (Z10 0 (xs := [.tmp 66, .tmp 71]) (Y1r _ _ _ _ _ hb36) Y4m rfl rfl ⟨vt rfl, vt rfl, trivial⟩ rfl) fun _u => AOps.unboxS 0 2005 (by decide) rfl rfl fun v38 => AOps.unboxF 0 2004 (by decide) rfl rfl fun v37 => Nl <| xt ?_
    cases h; exact RetOK.turn (Turn.packF 0 2004 (fun v => (⟨b36.Switch, b36.env, b36.header, b36.set, v, v38⟩ : sem_packet_o4_5)) (by decide) rfl rfl) (RetOK.turn (Turn.packS 0 2005 (fun v2 => Zx g2 gT Z1u (fun v => (⟨b36.Switch, b36.env, b36.header, b36.set, v, v2⟩ : sem_packet_o4_5)) 71 Z0r b36.out) (by decide) rfl rfl) (Z1k (i := 0) Tryz.results86 rfl rfl))
   ·refine sk <| Rg <| Md rfl <| As rfl <| Nl ?_
    exact ⟨(_, _, _, _, _, _, _, _, _, _), Nat.lt_succ_self _, ⟨trivial, h⟩, FX rfl⟩
def Zko (s1 : Switch) (x2 : Env) (x3 : Z09) : Option (List Out) :=
 (Zmh (⟨s1, x2, x3, [], [], []⟩ : Z2k)).bind fun b8 => some b8.out
theorem Ybs : Q3 Tryz.prog 29 (rd Z0d) (rd Z0q) (rd (Z3 24 Zd)) (rd (Z1 Z0r)) Zko := fun s1 x2 x3 r h => I0 Tryz.func29 rfl Tryz.ntmps29 rfl fun w H => by
 unfold Zko at h
 refine SR <| Cv rfl (Zn 4 rfl rfl (vt rfl)) fun g4 => Cv rfl (Zn 5 rfl rfl (vt rfl)) fun g5 => Cv rfl (Zn 6 rfl rfl (vt rfl)) fun g6 => Ac (Zy (A := rd (Z1 Z0r) []) rfl rfl Z1i) rfl <| Nl <| sq <| AW.newnil 2264 71 Z0r <| AW.newnil 2265 51 Z43 <| Rg <| Ld Z5s 4 rfl <| Ld Z4x 5 rfl <| Ld Z0g 6 rfl <| Ac (opb (⟨s1, x2, x3, [], (.slice none 0 0), (.slice none 0 0)⟩ : sem_packet_o4_5) Y6p rfl Y9m (pc Y97 (vt rfl) <| pc Yg9 (vt rfl) <| pc Ykw (vt rfl) <| pn rfl)) rfl <| Cv rfl (Zn 13 rfl rfl (vt rfl)) fun g7 => Ac (Zy (A := Z7 g7 (Lens.id Z1u)) rfl rfl (vt rfl)) rfl <| Nl <| sq ?_
 obtain ⟨b8, hb8, h⟩ := Z8 h
 refine Rg <| Mp rfl <| AOps.packF 13 2264 (fun v => (⟨s1, x2, x3, [], v, (.slice none 0 0)⟩ : sem_packet_o4_5)) (by decide) rfl rfl <| AOps.packS 13 2265 (fun v2 => Zx g7 144 Z1u (fun v => (⟨s1, x2, x3, [], v, v2⟩ : sem_packet_o4_5)) 71 Z0r []) (by decide) rfl rfl <| Cv rfl (Z10 13 (xs := [.tmp 13]) (Ye1 _ _ _ _ hb8) e86 rfl rfl ⟨vt rfl, trivial⟩ rfl) fun _u => AOps.unboxS 13 2265 (by decide) rfl rfl fun v10 => AOps.unboxF 13 2264 (by decide) rfl rfl fun v9 => Nl <| SR <| Mp rfl <| Nc rfl <| Zh Zir Zsd rfl <| Ac (Z3e v9 rfl rfl Zh0 (vt rfl) (i := 13) rfl rfl) rfl <| Aw rfl <| Nl <| AW.freezes [6, 18] 2264 rfl ⟨rfl, rfl, trivial⟩ rfl <| rt ?_
 cases h; exact Zf Tryz.results29 rfl (Za rfl)
def Zl6 (x1 : Z09) (x2 : Int) (x3 : Wide) : Option Z09 :=
 (bif ((decide (x2 ≥ 0)) && (decide (x2 < 24))) then (chk 24 x2).bind fun j7 => some (Vector.set x1 j7.1 x3 j7.2) else some x1)
theorem Y8t : Q3 Tryz.prog 161 (rd (Z3 24 Zd)) (rd (Z0 .i64)) (rd Zd) (rd (Z3 24 Zd)) Zl6 := fun x1 x2 x3 r h => I0 Tryz.func161 rfl Tryz.ntmps161 rfl fun w H => by
 unfold Zl6 at h
 refine SR <| Cv rfl (Zn 4 rfl rfl (vt rfl)) fun g4 => Cv rfl (Zn 6 rfl rfl (vt rfl)) fun g5 => Cv rfl (Zs 7 rfl rfl Z4r) fun g6 => Nl <| sq <| SR <| Md rfl <| Ac (Z3z rfl rfl (vt rfl) (vk rfl)) rfl <| Md rfl <| Gd rfl (fun hq => Zp (A := rd (Z0 .i64) x2) rfl rfl (vt rfl)) <| Gd rfl (fun hq => Zi rfl rfl (Zg rfl hq) (vk rfl)) <| Ac (Z21 rfl rfl (vt rfl) (vt rfl)) rfl <| Nl <| Cq rfl h (fun h => ?_) (fun h => ?_)
 ·obtain ⟨j7, hj7, h⟩ := Z8 h
  refine Rg <| Md rfl <| Ld Z02 6 rfl <| Ac (Z2u rfl rfl Zdl (vt rfl) (vt rfl) hj7) rfl <| Zj Z02 4 rfl <| Nl <| SR <| Ld Z0g 4 rfl <| Zj Z0g 7 rfl <| Nl <| rt ?_
  cases h; exact Zf Tryz.results161 rfl (Z01 rfl (i := 7) rfl Z0g)
 ·refine sk <| SR <| Ld Z0g 4 rfl <| Zj Z0g 7 rfl <| Nl <| rt ?_
  cases h; exact Zf Tryz.results161 rfl (Z01 rfl (i := 7) rfl Z0g)
def Za9 (a4 : Int) (R_trace_trip_on : (Z2g → Int → Z09 → Int → Option Z2g)) (l6 : Int) : (List Out) → Nat → (List End) → Net → Env → Option Z2g
 | [], i20, l16, b18, b19 => some (⟨b18, b19, l16⟩ : Z2g)
 | x22 :: l21, i20, l16, b18, b19 => (Zh6 b18 a4 x22.Port).bind fun x24 => (bif (!x24.2.2) then (Z18 l16 [(⟨a4, x22.Port, x22.Max, true, x22.Header⟩ : End)]).bind fun l25 => (Za9 a4 R_trace_trip_on l6 l21) (i20 + 1) l25 b18 b19 else (Zl6 x22.Header 0 (⟨0, (BitVec.ofInt 64 x24.2.1)⟩ : Wide)).bind fun x27 => (R_trace_trip_on (⟨b18, b19, l16⟩ : Z2g) x24.1 x27 (IntKind.i64.wrap (l6 - 1))).bind fun b28 => (Za9 a4 R_trace_trip_on l6 l21) (i20 + 1) b28.ends b28.Net b28.env)
def Zi8 (R_trace_trip_on : (Z2g → Int → Z09 → Int → Option Z2g)) (t1 : Z2g) (a4 : Int) (x5 : Z09) (l6 : Int) : Option Z2g :=
 (bif (decide (l6 = 0)) then (Z18 t1.ends [(⟨a4, 0, 0, false, x5⟩ : End)]).bind fun l8 => some (⟨t1.Net, t1.env, l8⟩ : Z2g) else (lget t1.Net.Switches a4).bind fun x10 => (Zko x10 t1.env x5).bind fun x11 => Za9 a4 R_trace_trip_on l6 x11 0 t1.ends t1.Net t1.env)
theorem Yf6 (R_trace_trip_on : (Z2g → Int → Z09 → Int → Option Z2g)) (hR_trace_trip_on : ∀ (g2 gT : Nat) (t1 : Z2g) (a4 : Int) (x5 : Z09) (l6 : Int) (r : Z2g), R_trace_trip_on t1 a4 x5 l6 = some r → Con Tryz.prog 92 [Z7 g2 (Lens.id Z2h), rd (Z0 .i64) a4, rd (Z3 24 Zd) x5, rd (Z0 .i64) l6] (Zx g2 gT Z2h (fun v => (⟨t1.Net, t1.env, v⟩ : trace_trip_o2)) 69 Z1d t1.ends) (fun _ : Unit => top) (fun _ => Zx g2 gT Z2h (fun v => (⟨r.Net, r.env, v⟩ : trace_trip_o2)) 69 Z1d r.ends)) (g2 gT : Nat) (t1 : Z2g) (a4 : Int) (x5 : Z09) (l6 : Int) (r : Z2g) (h : Zi8 R_trace_trip_on t1 a4 x5 l6 = some r) : Con Tryz.prog 92 [Z7 g2 (Lens.id Z2h), rd (Z0 .i64) a4, rd (Z3 24 Zd) x5, rd (Z0 .i64) l6] (Zx g2 gT Z2h (fun v => (⟨t1.Net, t1.env, v⟩ : trace_trip_o2)) 69 Z1d t1.ends) (fun _ : Unit => top) (fun _ => Zx g2 gT Z2h (fun v => (⟨r.Net, r.env, v⟩ : trace_trip_o2)) 69 Z1d r.ends) := by
 refine Con.intro Tryz.func92 rfl Tryz.ntmps92 rfl fun w H X => ?_
 unfold Zi8 at h
 refine AW.unboxF 0 2002 (by decide) rfl rfl fun v3 => SR <| Cv rfl (Zn 7 rfl rfl (vt rfl)) fun g7 => Nl <| AW.scope <| sq <| SR <| Md rfl <| Ac (Z1r rfl rfl (vt rfl) (vk rfl)) rfl <| Nl <| Cq rfl h (fun h => ?_) (fun h => ?_)
 ·refine sq ?_
  obtain ⟨l8, hl8, h⟩ := Z8 h
  refine AR Zw (by kernel_rfl) <| SMp rfl <| SMp rfl <| SNc rfl <| Zv Z9e Zh5 rfl <| Sd (lo [18] [0] rfl fun S hs hr => Z3e v3 rfl rfl Zgd (vh hs 18 rfl rfl) (i := 0) ((hr 0 rfl).trans rfl) rfl) <| SMd rfl <| Zm Z0g 7 rfl <| Sd (lo [20, 21] [] rfl fun S hs hr => opb (⟨a4, 0, 0, false, x5⟩ : End) Zai rfl Zrj (pc Ztt (vh hs 20 rfl rfl) <| pc Zsu (vh hs 21 rfl rfl) <| pn rfl)) <| Sd (lo [22] [] rfl fun S hs hr => osl Z4q Zai rfl (vh hs 22 rfl rfl)) <| Sd (Z1q (us := [(24, Z2j 69 Z1d l8)]) (ur := [(2002, emp)]) [19, 23] [2002] rfl fun S hs hr => Z92 2002 hl8 rfl rfl rfl Zqm (vh hs 19 rfl rfl) ((hr 2002 rfl).trans rfl) (vh hs 23 rfl rfl)) <| SNc rfl <| Zv Z9e Zh5 rfl <| Sd (Z1q (us := [(24, top)]) (ur := [(0, Zx g2 gT Z2h (fun v => ((Lens.comp (Lens.id Z2h) Z9e)).set (⟨t1.Net, t1.env, v3⟩ : trace_trip_o2) v) 69 Z1d l8)]) [26, 24] [0] rfl fun S hs hr => Zb9 rfl rfl Zgd (vh hs 26 rfl rfl) ((hr 0 rfl).trans rfl) ((hs 24 rfl).trans rfl)) <| Sn <| AW.unboxF 0 2002 (by decide) rfl rfl fun v9 => rt ?_
  cases h; exact RetOK.turn (Turn.packF 0 2002 (fun v => (⟨t1.Net, t1.env, v⟩ : trace_trip_o2)) (by decide) rfl rfl) (Z1k (i := 0) Tryz.results92 rfl rfl)
 ·refine sk <| sq <| AW.label <| sq ?_
  obtain ⟨x10, hx10, x11, hx11, h⟩ := bs2 h
  refine AR Zw (by kernel_rfl) <| SMp rfl <| SNc rfl <| Zv ltrace_trip_o2_0 Zse rfl <| Zv lNet_0 Zcz rfl <| Zm Zcr 0 rfl <| SMd rfl <| Sd (lo [31, 32] [] rfl fun S hs hr => Z0k rfl rfl Z87 (vh hs 31 rfl rfl) (vh hs 32 rfl rfl) hx10) <| SLp Z5s rfl <| SMp rfl <| SNc rfl <| Zv ltrace_trip_o2_1 Yi2 rfl <| Zm Z4x 0 rfl <| Zm Z0g 7 rfl <| SCl [34, 38, 39] (Ybs _ _ _ _ hx11) e29 rfl <| Sd (lo [40] [] rfl fun S hs hr => Z0t rfl rfl Zqj (vh hs 40 rfl rfl)) <| Sd (lo [] [] rfl fun S hs hr => Zp (A := rd (Z0 .i64) 0) rfl rfl (vk rfl)) <| Sn <| bk <| LG (d := []) (ν := (List Out) × Nat × (List End) × Net × Env × Value) (fun (l21, i20, l16, b18, b19, v17) => (Sfx x11 i20 l21 ∧ Za9 a4 R_trace_trip_on l6 l21 i20 l16 b18 b19 = some r, l21.length, [(0, Z7 g2 (Lens.id Z2h)), (1, rd (Z0 .i64) a4), (3, rd (Z0 .i64) l6), (40, rd (Z1 Z0r) x11), (41, rd (Z0 .i64) (x11.length : Int)), (42, rd (Z0 .i64) (i20 : Int))], [(0, Zc g2 gT Z2h (⟨b18, b19, v17⟩ : trace_trip_o2)), (2002, Zb v17 69 Z1d l16)])) (x11, 0, t1.ends, t1.Net, t1.env, v3) ⟨Sfx.start _, h⟩ (FX rfl) ?_
  rintro ⟨l21, i20, l16, b18, b19, v17⟩ ⟨hsf1, h⟩
  dsimp only at hsf1 h ⊢
  cases l21 with
  | nil =>
   unfold Za9 at h
   refine SR <| Ac (Zi rfl rfl (vt rfl) (vt rfl)) rfl <| Nl <| sq <| Cn rfl (fun hc => absurd (of_decide_eq_true hc) hsf1.nil) (fun hc => ?_)
   refine xt ?_
   cases h; exact RetOK.turn (Turn.packF 0 2002 (fun v => (⟨b18, b19, v⟩ : trace_trip_o2)) (by decide) rfl rfl) (Z1k (i := 0) Tryz.results92 rfl rfl)
  | cons x22 l21 =>
   unfold Za9 at h
   refine SR <| Ac (Zi rfl rfl (vt rfl) (vt rfl)) rfl <| Nl <| sq <| Cn rfl (fun hc => ?_) (fun hc => absurd hsf1.cons (of_decide_eq_false hc))
   have hlti20 := of_decide_eq_true hc
   refine sk <| sq <| bk <| SR <| Ac (Z0k rfl rfl Zqj (vt rfl) (vt rfl) hsf1.lget) rfl <| Lp1 Zzm rfl <| Cv rfl (Zs 10 rfl rfl Zq9) fun g23 => Zj Zzm 10 rfl <| Nl <| sq ?_
   obtain ⟨x24, hx24, h⟩ := Z8 h
   refine AR Zw (by kernel_rfl) <| SMp rfl <| SNc rfl <| Zv ltrace_trip_o2_0 Zse rfl <| Zm Z6q 0 rfl <| SMd rfl <| Zv lOut_0 Zzt rfl <| Zm Zq 10 rfl <| SCl [50, 51, 53] (Zyj _ _ _ _ hx24) e72 rfl <| Sd (lo [54] [] rfl fun S hs hr => Zp (A := Z3n (rd (Z0 .i64) x24.1) (rd (Z0 .i64) x24.2.1) (rd Z5 x24.2.2)) rfl rfl (vh hs 54 rfl rfl)) <| Sd (lo [46] [] rfl fun S hs hr => Zgs rfl rfl (vh hs 46 rfl rfl)) <| Sd (lo [46] [] rfl fun S hs hr => Zhf rfl rfl (vh hs 46 rfl rfl)) <| Sd (lo [46] [] rfl fun S hs hr => Zfq rfl rfl (vh hs 46 rfl rfl)) <| SAs rfl <| SAs rfl <| SAs rfl <| Sn <| sq <| SR <| Md rfl <| Ac (Z0z rfl rfl (vt rfl)) rfl <| Nl <| Cq rfl h (fun h => ?_) (fun h => ?_)
   ·refine sq ?_
    obtain ⟨l25, hl25, h⟩ := Z8 h
    refine AR Zw (by kernel_rfl) <| SMp rfl <| SMp rfl <| SNc rfl <| Zv Z9e Zh5 rfl <| Sd (lo [63] [0] rfl fun S hs hr => Z3e v17 rfl rfl Zgd (vh hs 63 rfl rfl) (i := 0) ((hr 0 rfl).trans rfl) rfl) <| SMd rfl <| Zv lOut_0 Zzt rfl <| Zm Zq 10 rfl <| Zv lOut_1 Yme rfl <| Zm Zq 10 rfl <| Zv lOut_2 Y4h rfl <| Zm Z0g 10 rfl <| Sd (lo [65, 67, 69, 71] [] rfl fun S hs hr => opb (⟨a4, x22.Port, x22.Max, true, x22.Header⟩ : End) Zai rfl Zrj (pc Ztt (vh hs 65 rfl rfl) <| pc Y36 (vh hs 67 rfl rfl) <| pc Zyg (vh hs 69 rfl rfl) <| pc Y39 vb <| pc Zsu (vh hs 71 rfl rfl) <| pn rfl)) <| Sd (lo [72] [] rfl fun S hs hr => osl Z4q Zai rfl (vh hs 72 rfl rfl)) <| Sd (Z1q (us := [(74, Z2j 69 Z1d l25)]) (ur := [(2002, emp)]) [64, 73] [2002] rfl fun S hs hr => Z92 2002 hl25 rfl rfl rfl Zqm (vh hs 64 rfl rfl) ((hr 2002 rfl).trans rfl) (vh hs 73 rfl rfl)) <| SNc rfl <| Zv Z9e Zh5 rfl <| Sd (Z1q (us := [(74, top)]) (ur := [(0, Zx g2 gT Z2h (fun v => ((Lens.comp (Lens.id Z2h) Z9e)).set (⟨b18, b19, v17⟩ : trace_trip_o2) v) 69 Z1d l25)]) [76, 74] [0] rfl fun S hs hr => Zb9 rfl rfl Zgd (vh hs 76 rfl rfl) ((hr 0 rfl).trans rfl) ((hs 74 rfl).trans rfl)) <| Sn <| AW.unboxF 0 2002 (by decide) rfl rfl fun v26 => xt <| Rg <| Ac (Z0u (t := 41) rfl rfl (vt rfl) (vk rfl) (vt rfl) hlti20) rfl <| Md rfl <| Nl ?_
    exact ⟨(_, _, _, _, _, _), Nat.lt_succ_self _, ⟨hsf1.next, h⟩, FX rfl⟩
   ·refine sk ?_
    obtain ⟨x27, hx27, b28, hb28, h⟩ := bs2 h
    refine Rg <| Mp rfl <| Md rfl <| Zh lOut_2 Y4h rfl <| Ld Z0g 10 rfl <| Md rfl <| Ac (Z8n rfl rfl us3 Y1v (vt rfl)) rfl <| Ac (opb (⟨0, (BitVec.ofInt 64 x24.2.1)⟩ : Wide) Z3p rfl Z74 (pc Z9c (vt rfl) <| pn rfl)) rfl <| Ac (Z14 (xs := [.tmp 80, .const (Value.int IntKind.i64 0), .tmp 83]) (Y8t _ _ _ _ hx27) Y7v rfl rfl ⟨vt rfl, vk rfl, vt rfl, trivial⟩) rfl <| Md rfl <| Ac (Z0v rfl rfl (vt rfl) (vk rfl)) rfl <| AOps.packF 0 2002 (fun v => (⟨b18, b19, v⟩ : trace_trip_o2)) (by decide) rfl rfl <| Cv rfl (Z10 0 (xs := [.tmp 77, .tmp 78, .tmp 84, .tmp 86]) (hR_trace_trip_on _ _ _ _ _ _ _ hb28) e92 rfl rfl ⟨vt rfl, vt rfl, vt rfl, vt rfl, trivial⟩ rfl) fun _u => AOps.unboxF 0 2002 (by decide) rfl rfl fun v29 => Nl <| Rg <| Ac (Z0u (t := 41) rfl rfl (vt rfl) (vk rfl) (vt rfl) hlti20) rfl <| Md rfl <| Nl ?_
    exact ⟨(_, _, _, _, _, _), Nat.lt_succ_self _, ⟨hsf1.next, h⟩, FX rfl⟩
def Zcv : Nat → (Z2g → Int → Z09 → Int → Option Z2g)
 | 0 => (fun _ _ _ _ => none)
 | n + 1 => (Zi8 (Zcv n))
theorem Y4f : ∀ n : Nat, (∀ (g2 gT : Nat) (t1 : Z2g) (a4 : Int) (x5 : Z09) (l6 : Int) (r : Z2g), (Zcv n) t1 a4 x5 l6 = some r → Con Tryz.prog 92 [Z7 g2 (Lens.id Z2h), rd (Z0 .i64) a4, rd (Z3 24 Zd) x5, rd (Z0 .i64) l6] (Zx g2 gT Z2h (fun v => (⟨t1.Net, t1.env, v⟩ : trace_trip_o2)) 69 Z1d t1.ends) (fun _ : Unit => top) (fun _ => Zx g2 gT Z2h (fun v => (⟨r.Net, r.env, v⟩ : trace_trip_o2)) 69 Z1d r.ends))
 | 0 => (by intros; rename_i h; cases h)
 | n + 1 => by
  have ih := Y4f n
  exact (Yf6 (Zcv n) ih)
def Zuc (t1 : Z2g) (a4 : Int) (x5 : Z09) (l6 : Int) : Option Z2g := (Zcv Z0l) t1 a4 x5 l6
theorem Ygw : ∀ (g2 gT : Nat) (t1 : Z2g) (a4 : Int) (x5 : Z09) (l6 : Int) (r : Z2g), Zuc t1 a4 x5 l6 = some r → Con Tryz.prog 92 [Z7 g2 (Lens.id Z2h), rd (Z0 .i64) a4, rd (Z3 24 Zd) x5, rd (Z0 .i64) l6] (Zx g2 gT Z2h (fun v => (⟨t1.Net, t1.env, v⟩ : trace_trip_o2)) 69 Z1d t1.ends) (fun _ : Unit => top) (fun _ => Zx g2 gT Z2h (fun v => (⟨r.Net, r.env, v⟩ : trace_trip_o2)) 69 Z1d r.ends) := Y4f Z0l
def Zcw (n1 : Net) (x2 : Env) (a3 : Int) (x4 : Z09) (m5 : Int) : Option (List End) :=
 (bif ((decide (a3 ≥ 0)) && (decide (a3 < (n1.Switches.length : Int)))) then (Zpb m5).bind fun x10 => (Zuc (⟨n1, x2, []⟩ : Z2g) a3 x4 x10).bind fun b11 => some b11.ends else some [])
theorem Y7u : Q5 Tryz.prog 37 (rd Z26) (rd Z0q) (rd (Z0 .i64)) (rd (Z3 24 Zd)) (rd (Z0 .i64)) (rd (Z1 Z1d)) Zcw := fun n1 x2 a3 x4 m5 r h => I0 Tryz.func37 rfl Tryz.ntmps37 rfl fun w H => by
 unfold Zcw at h
 refine SR <| Cv rfl (Zn 6 rfl rfl (vt rfl)) fun g6 => Cv rfl (Zn 7 rfl rfl (vt rfl)) fun g7 => Cv rfl (Zn 9 rfl rfl (vt rfl)) fun g8 => Ac (Zy (A := rd (Z1 Z1d) []) rfl rfl Z1i) rfl <| Nl <| sq <| AW.newnil 2322 69 Z1d <| Rg <| Ld Z6q 6 rfl <| Ld Z4x 7 rfl <| Ac (opb (⟨n1, x2, (.slice none 0 0)⟩ : trace_trip_o2) Yf0 rfl Yhs (pc Yf5 (vt rfl) <| pc Yc2 (vt rfl) <| pn rfl)) rfl <| Cv rfl (Zn 16 rfl rfl (vt rfl)) fun g9 => Ac (Zy (A := Z7 g9 (Lens.id Z2h)) rfl rfl (vt rfl)) rfl <| Nl <| sq <| SR <| Md rfl <| Ac (Z3z rfl rfl (vt rfl) (vk rfl)) rfl <| Md rfl <| Gd rfl (fun hq => Zp (A := rd (Z0 .i64) a3) rfl rfl (vt rfl)) <| Gd rfl (fun hq => Zp (A := Z7 g9 (Lens.id Z2h)) rfl rfl (vt rfl)) <| Gd rfl (fun hq => Zmi rfl rfl (Zg rfl hq)) <| Gd rfl (fun hq => Z2t ltrace_trip_o2_0 rfl rfl Zse (Zg rfl hq)) <| Gd rfl (fun hq => Z2t lNet_0 rfl rfl Zcz (Zg rfl hq)) <| Gd rfl (fun hq => Z29 rfl rfl Zcr (Zg rfl hq) (i := 16) rfl) <| Gd rfl (fun hq => Z0t rfl rfl Z87 (Zg rfl hq)) <| Gd rfl (fun hq => Zi rfl rfl (Zg rfl hq) (Zg rfl hq)) <| Ac (Z21 rfl rfl (vt rfl) (vt rfl)) rfl <| Nl <| Cq rfl h (fun h => ?_) (fun h => ?_)
 ·refine AW.packF 16 2322 (fun v => (⟨n1, x2, v⟩ : trace_trip_o2)) (by decide) rfl rfl ?_
  obtain ⟨x10, hx10, b11, hb11, h⟩ := bs2 h
  refine AR Zw (by kernel_rfl) <| SMp rfl <| SMd rfl <| Zm Z0g 9 rfl <| SMd rfl <| SCl [31] (Y7b _ _ hx10) e93 rfl <| Sd (Z1q (us := [(33, top)]) (ur := [(16, Zx g9 156 Z2h (fun v => (⟨b11.Net, b11.env, v⟩ : trace_trip_o2)) 69 Z1d b11.ends)]) [28, 29, 30, 32] [16] rfl fun S hs hr => Zs6 16 (xs := [.tmp 28, .tmp 29, .tmp 30, .tmp 32]) (Ygw _ _ _ _ _ _ _ hb11) e92 rfl rfl ⟨vt ((hs 28 rfl).trans rfl), vt ((hs 29 rfl).trans rfl), vt ((hs 30 rfl).trans rfl), vt ((hs 32 rfl).trans rfl), trivial⟩ ((hr 16 rfl).trans rfl)) <| Sn <| AW.unboxF 16 2322 (by decide) rfl rfl fun v12 => SR <| Mp rfl <| Nc rfl <| Zh Z9e Zh5 rfl <| Ac (Z3e v12 rfl rfl Zgd (vt rfl) (i := 16) rfl rfl) rfl <| Aw rfl <| Nl <| AW.freezes [10, 37] 2322 rfl ⟨rfl, rfl, trivial⟩ rfl <| rt ?_
  cases h; exact Zf Tryz.results37 rfl (Za rfl)
 ·refine sk <| SR <| Mp rfl <| Nc rfl <| Zh Z9e Zh5 rfl <| Ac (Z3e (.slice none 0 0) rfl rfl Zgd (vt rfl) (i := 16) rfl rfl) rfl <| Aw rfl <| Nl <| AW.freezes [10, 37] 2322 rfl ⟨rfl, rfl, trivial⟩ rfl <| rt ?_
  cases h; exact Zf Tryz.results37 rfl (Za rfl)
def Zfu (a1 : (List End)) (b2 : (List End)) : Nat → Int → Option Bool
 | 0, _ => none
 | m5 + 1, i4 => (bif (decide (i4 < (a1.length : Int))) then (lget a1 i4).bind fun x6 => (lget b2 i4).bind fun x7 => (opt (!(decide (x6.At ≠ x7.At))) (lget a1 i4)).bind fun x8 => (opt (!(decide (x6.At ≠ x7.At))) (lget b2 i4)).bind fun x9 => (opt (!((decide (x6.At ≠ x7.At)) || (decide (x8.Port ≠ x9.Port)))) (lget a1 i4)).bind fun x10 => (opt (!((decide (x6.At ≠ x7.At)) || (decide (x8.Port ≠ x9.Port)))) (lget b2 i4)).bind fun x11 => (opt (!(((decide (x6.At ≠ x7.At)) || (decide (x8.Port ≠ x9.Port))) || (decide (x10.Max ≠ x11.Max)))) (lget a1 i4)).bind fun x12 => (opt (!(((decide (x6.At ≠ x7.At)) || (decide (x8.Port ≠ x9.Port))) || (decide (x10.Max ≠ x11.Max)))) (lget b2 i4)).bind fun x13 => (opt (!((((decide (x6.At ≠ x7.At)) || (decide (x8.Port ≠ x9.Port))) || (decide (x10.Max ≠ x11.Max))) || (!(x12.Left == x13.Left)))) (lget a1 i4)).bind fun x14 => (opt (!((((decide (x6.At ≠ x7.At)) || (decide (x8.Port ≠ x9.Port))) || (decide (x10.Max ≠ x11.Max))) || (!(x12.Left == x13.Left)))) (lget b2 i4)).bind fun x15 => (bif (((((decide (x6.At ≠ x7.At)) || (decide (x8.Port ≠ x9.Port))) || (decide (x10.Max ≠ x11.Max))) || (!(x12.Left == x13.Left))) || (decide (x14.Header ≠ x15.Header))) then some false else (Zfu a1 b2 m5) (IntKind.i64.wrap (i4 + 1))) else some true)
def Zid (a1 : (List End)) (b2 : (List End)) : Option Bool :=
 (bif (decide ((a1.length : Int) ≠ (b2.length : Int))) then some false else Zfu a1 b2 ((((a1.length : Int) : Int) - 0).toNat + 1) 0)
theorem Yc4 : Q2 Tryz.prog 69 (rd (Z1 Z1d)) (rd (Z1 Z1d)) (rd Z5) Zid := fun a1 b2 r h => I0 Tryz.func69 rfl Tryz.ntmps69 rfl fun w H => by
 unfold Zid at h
 refine SR <| Ab rfl <| Nl <| sq <| SR <| Md rfl <| Ac (Z0t rfl rfl Z4q (vt rfl)) rfl <| Md rfl <| Ac (Z0t rfl rfl Z4q (vt rfl)) rfl <| Ac (Z4u rfl rfl (vt rfl) (vt rfl)) rfl <| Nl <| Cq rfl h (fun h => ?_) (fun h => ?_)
 ·refine SR <| Ab rfl <| Nl <| rt ?_
  cases h; exact Zf Tryz.results69 rfl (Za rfl)
 ·refine sk <| sq <| SR <| Ak rfl <| Nl <| bk <| LG (d := []) (ν := Nat × Int) (fun (m5, i4) => (True ∧ Zfu a1 b2 m5 i4 = some r, m5, [(0, rd (Z1 Z1d) a1), (1, rd (Z1 Z1d) b2), (5, rd (Z0 .i64) i4)], [])) (((((a1.length : Int) : Int) - 0).toNat + 1), 0) ⟨trivial, h⟩ (FX rfl) ?_
  rintro ⟨m5, i4⟩ ⟨hsf1, h⟩
  dsimp only at h ⊢
  cases m5 with
  | zero => cases h
  | succ m5 =>
   unfold Zfu at h
   refine sq <| SR <| Md rfl <| Md rfl <| Ac (Z0t rfl rfl Z4q (vt rfl)) rfl <| Ac (Zi rfl rfl (vt rfl) (vt rfl)) rfl <| Nl <| Cq rfl h (fun h => ?_) (fun h => ?_)
   ·refine sk <| sq <| bk <| sq ?_
    obtain ⟨x6, hx6, x7, hx7, x8, hx8, x9, hx9, h⟩ := bs4 h
    obtain ⟨x10, hx10, x11, hx11, x12, hx12, x13, hx13, h⟩ := bs4 h
    obtain ⟨x14, hx14, x15, hx15, h⟩ := bs2 h
    refine AR Zw (by kernel_rfl) <| SMd rfl <| SMd rfl <| Sd (lo [17, 18] [] rfl fun S hs hr => Z0k rfl rfl Z4q (vh hs 17 rfl rfl) (vh hs 18 rfl rfl) hx6) <| SFp lEnd_0 Zs1 rfl <| SLp Zq rfl <| SMd rfl <| SMd rfl <| Sd (lo [22, 23] [] rfl fun S hs hr => Z0k rfl rfl Z4q (vh hs 22 rfl rfl) (vh hs 23 rfl rfl) hx7) <| SFp lEnd_0 Zs1 rfl <| SLp Zq rfl <| Sd (lo [21, 26] [] rfl fun S hs hr => Z4u rfl rfl (vh hs 21 rfl rfl) (vh hs 26 rfl rfl)) <| SMd rfl <| Sd (lg [0, 28] [] rfl fun hq S hs hr => Zp (A := rd (Z1 Z1d) a1) rfl rfl (vh hs 0 rfl rfl)) <| Sd (lg [5, 28] [] rfl fun hq S hs hr => Zp (A := rd (Z0 .i64) i4) rfl rfl (vh hs 5 rfl rfl)) <| Sd (lg [29, 30, 28] [] rfl fun hq S hs hr => Z0k rfl rfl Z4q (Zg ((hs 29 rfl).trans rfl) hq) (Zg ((hs 30 rfl).trans rfl) hq) (Z9a hx8 hq)) <| Sd (lg [31, 28] [] rfl fun hq S hs hr => Z66 lEnd_1 rfl rfl Zud (Zg ((hs 31 rfl).trans rfl) hq)) <| Sd (lg [32, 28] [] rfl fun hq S hs hr => Z68 rfl rfl Zq (Zg ((hs 32 rfl).trans rfl) hq)) <| Sd (lg [1, 28] [] rfl fun hq S hs hr => Zp (A := rd (Z1 Z1d) b2) rfl rfl (vh hs 1 rfl rfl)) <| Sd (lg [5, 28] [] rfl fun hq S hs hr => Zp (A := rd (Z0 .i64) i4) rfl rfl (vh hs 5 rfl rfl)) <| Sd (lg [34, 35, 28] [] rfl fun hq S hs hr => Z0k rfl rfl Z4q (Zg ((hs 34 rfl).trans rfl) hq) (Zg ((hs 35 rfl).trans rfl) hq) (Z9a hx9 hq)) <| Sd (lg [36, 28] [] rfl fun hq S hs hr => Z66 lEnd_1 rfl rfl Zud (Zg ((hs 36 rfl).trans rfl) hq)) <| Sd (lg [37, 28] [] rfl fun hq S hs hr => Z68 rfl rfl Zq (Zg ((hs 37 rfl).trans rfl) hq)) <| Sd (lg [33, 38, 28] [] rfl fun hq S hs hr => Z4u rfl rfl (Zg ((hs 33 rfl).trans rfl) hq) (Zg ((hs 38 rfl).trans rfl) hq)) <| Sd (lo [39, 28] [] rfl fun S hs hr => Z4o rfl rfl (vh hs 28 rfl rfl) (vh hs 39 rfl rfl)) <| SMd rfl <| Sd (lg [0, 41] [] rfl fun hq S hs hr => Zp (A := rd (Z1 Z1d) a1) rfl rfl (vh hs 0 rfl rfl)) <| Sd (lg [5, 41] [] rfl fun hq S hs hr => Zp (A := rd (Z0 .i64) i4) rfl rfl (vh hs 5 rfl rfl)) <| Sd (lg [42, 43, 41] [] rfl fun hq S hs hr => Z0k rfl rfl Z4q (Zg ((hs 42 rfl).trans rfl) hq) (Zg ((hs 43 rfl).trans rfl) hq) (Z9a hx10 hq)) <| Sd (lg [44, 41] [] rfl fun hq S hs hr => Z66 lEnd_2 rfl rfl Y1z (Zg ((hs 44 rfl).trans rfl) hq)) <| Sd (lg [45, 41] [] rfl fun hq S hs hr => Z68 rfl rfl Zq (Zg ((hs 45 rfl).trans rfl) hq)) <| Sd (lg [1, 41] [] rfl fun hq S hs hr => Zp (A := rd (Z1 Z1d) b2) rfl rfl (vh hs 1 rfl rfl)) <| Sd (lg [5, 41] [] rfl fun hq S hs hr => Zp (A := rd (Z0 .i64) i4) rfl rfl (vh hs 5 rfl rfl)) <| Sd (lg [47, 48, 41] [] rfl fun hq S hs hr => Z0k rfl rfl Z4q (Zg ((hs 47 rfl).trans rfl) hq) (Zg ((hs 48 rfl).trans rfl) hq) (Z9a hx11 hq)) <| Sd (lg [49, 41] [] rfl fun hq S hs hr => Z66 lEnd_2 rfl rfl Y1z (Zg ((hs 49 rfl).trans rfl) hq)) <| Sd (lg [50, 41] [] rfl fun hq S hs hr => Z68 rfl rfl Zq (Zg ((hs 50 rfl).trans rfl) hq)) <| Sd (lg [46, 51, 41] [] rfl fun hq S hs hr => Z4u rfl rfl (Zg ((hs 46 rfl).trans rfl) hq) (Zg ((hs 51 rfl).trans rfl) hq)) <| Sd (lo [52, 41] [] rfl fun S hs hr => Z4o rfl rfl (vh hs 41 rfl rfl) (vh hs 52 rfl rfl)) <| SMd rfl <| Sd (lg [0, 54] [] rfl fun hq S hs hr => Zp (A := rd (Z1 Z1d) a1) rfl rfl (vh hs 0 rfl rfl)) <| Sd (lg [5, 54] [] rfl fun hq S hs hr => Zp (A := rd (Z0 .i64) i4) rfl rfl (vh hs 5 rfl rfl)) <| Sd (lg [55, 56, 54] [] rfl fun hq S hs hr => Z0k rfl rfl Z4q (Zg ((hs 55 rfl).trans rfl) hq) (Zg ((hs 56 rfl).trans rfl) hq) (Z9a hx12 hq)) <| Sd (lg [57, 54] [] rfl fun hq S hs hr => Z66 lEnd_3 rfl rfl Zs3 (Zg ((hs 57 rfl).trans rfl) hq)) <| Sd (lg [58, 54] [] rfl fun hq S hs hr => Z68 rfl rfl ty4 (Zg ((hs 58 rfl).trans rfl) hq)) <| Sd (lg [1, 54] [] rfl fun hq S hs hr => Zp (A := rd (Z1 Z1d) b2) rfl rfl (vh hs 1 rfl rfl)) <| Sd (lg [5, 54] [] rfl fun hq S hs hr => Zp (A := rd (Z0 .i64) i4) rfl rfl (vh hs 5 rfl rfl)) <| Sd (lg [60, 61, 54] [] rfl fun hq S hs hr => Z0k rfl rfl Z4q (Zg ((hs 60 rfl).trans rfl) hq) (Zg ((hs 61 rfl).trans rfl) hq) (Z9a hx13 hq)) <| Sd (lg [62, 54] [] rfl fun hq S hs hr => Z66 lEnd_3 rfl rfl Zs3 (Zg ((hs 62 rfl).trans rfl) hq)) <| Sd (lg [63, 54] [] rfl fun hq S hs hr => Z68 rfl rfl ty4 (Zg ((hs 63 rfl).trans rfl) hq)) <| Sd (lg [59, 64, 54] [] rfl fun hq S hs hr => Ykr rfl rfl un4 (Zg ((hs 59 rfl).trans rfl) hq) (Zg ((hs 64 rfl).trans rfl) hq)) <| Sd (lo [65, 54] [] rfl fun S hs hr => Z4o rfl rfl (vh hs 54 rfl rfl) (vh hs 65 rfl rfl)) <| SMd rfl <| Sd (lg [0, 67] [] rfl fun hq S hs hr => Zp (A := rd (Z1 Z1d) a1) rfl rfl (vh hs 0 rfl rfl)) <| Sd (lg [5, 67] [] rfl fun hq S hs hr => Zp (A := rd (Z0 .i64) i4) rfl rfl (vh hs 5 rfl rfl)) <| Sd (lg [68, 69, 67] [] rfl fun hq S hs hr => Z0k rfl rfl Z4q (Zg ((hs 68 rfl).trans rfl) hq) (Zg ((hs 69 rfl).trans rfl) hq) (Z9a hx14 hq)) <| Sd (lg [70, 67] [] rfl fun hq S hs hr => Z66 lEnd_4 rfl rfl Ztr (Zg ((hs 70 rfl).trans rfl) hq)) <| Sd (lg [71, 67] [] rfl fun hq S hs hr => Z68 rfl rfl Z0g (Zg ((hs 71 rfl).trans rfl) hq)) <| Sd (lg [1, 67] [] rfl fun hq S hs hr => Zp (A := rd (Z1 Z1d) b2) rfl rfl (vh hs 1 rfl rfl)) <| Sd (lg [5, 67] [] rfl fun hq S hs hr => Zp (A := rd (Z0 .i64) i4) rfl rfl (vh hs 5 rfl rfl)) <| Sd (lg [73, 74, 67] [] rfl fun hq S hs hr => Z0k rfl rfl Z4q (Zg ((hs 73 rfl).trans rfl) hq) (Zg ((hs 74 rfl).trans rfl) hq) (Z9a hx15 hq)) <| Sd (lg [75, 67] [] rfl fun hq S hs hr => Z66 lEnd_4 rfl rfl Ztr (Zg ((hs 75 rfl).trans rfl) hq)) <| Sd (lg [76, 67] [] rfl fun hq S hs hr => Z68 rfl rfl Z0g (Zg ((hs 76 rfl).trans rfl) hq)) <| Sd (lg [72, 77, 67] [] rfl fun hq S hs hr => Ydt rfl rfl Y9y (by decide) rfl Yha (Zg ((hs 72 rfl).trans rfl) hq) (Zg ((hs 77 rfl).trans rfl) hq)) <| Sd (lo [78, 67] [] rfl fun S hs hr => Z4o rfl rfl (vh hs 67 rfl rfl) (vh hs 78 rfl rfl)) <| Sn ?_
    refine Cq rfl h (fun h => ?_) (fun h => ?_)
    ·refine SR <| Ab rfl <| Nl <| rt ?_
     cases h; exact Zf Tryz.results69 rfl (Za rfl)
    ·refine sk <| Rg <| Md rfl <| Ac (Z0o rfl rfl (vt rfl) (vk rfl)) rfl <| As rfl <| Nl ?_
     exact ⟨(_, _), Nat.lt_succ_self _, ⟨trivial, h⟩, FX rfl⟩
   ·refine xt <| SR <| Ab rfl <| Nl <| rt ?_
    cases h; exact Zf Tryz.results69 rfl (Za rfl)
def Z8q (x4 : Zl) (x7 : Z09) (n1 : Net) (x2 : Env) (a3 : Int) (x5 : Int) : (List Ray) → Nat → (List End) → Option Bool
 | [], i20, l18 => (Zav x4 x7).bind fun x22 => (bif (!x22) then (opt (decide ((l18.length : Int) = 0)) (Zdk)).bind fun x23 => some ((decide ((l18.length : Int) = 0)) && x23) else (Zcw n1 x2 a3 x7 (Z3q x5 3)).bind fun x24 => (Zid l18 x24).bind fun x25 => (opt x25 (Zdk)).bind fun x26 => some (x25 && x26))
 | x27 :: l21, i20, l18 => (Zgi x27 x7).bind fun x29 => (bif x29 then (Zf1 x27 x7).bind fun x30 => (Z18 l18 [x30]).bind fun l31 => (Z8q x4 x7 n1 x2 a3 x5 l21) (i20 + 1) l31 else (Z8q x4 x7 n1 x2 a3 x5 l21) (i20 + 1) l18)
def Zje (n1 : Net) (x2 : Env) (a3 : Int) (x4 : Zl) (x5 : Int) (m6 : Int) (x7 : Z09) : Option Bool :=
 (Zk2 n1 x2 m6).bind fun x12 => (bif (!x12) then (Zdk).bind fun x13 => some x13 else (Zct n1 x2 a3 x4 (Z3q x5 3) m6).bind fun x14 => (bif (decide (x14.2 ≠ 0)) then (opt ((decide (x14.2 = 5)) && (decide ((x14.1.length : Int) = 0))) (Zdk)).bind fun x15 => some (((decide (x14.2 = 5)) && (decide ((x14.1.length : Int) = 0))) && x15) else Z8q x4 x7 n1 x2 a3 x5 x14.1 0 []))
theorem Ydv (n1 : Net) (x2 : Env) (a3 : Int) (x4 : Zl) (x5 : Int) (m6 : Int) (x7 : Z09) (r : Bool) (h : Zje n1 x2 a3 x4 x5 m6 x7 = some r) : PCon Tryz.prog 18 [rd Z26 n1, rd Z0q x2, rd (Z0 .i64) a3, rd (Z3 24 Z4) x4, rd (Z0 .i64) x5, rd (Z0 .i64) m6, rd (Z3 24 Zd) x7] (rd Z5 r) := by
 refine PCon.of (Con.intro0 Tryz.func18 rfl Tryz.ntmps18 rfl fun w H => ?_)
 unfold Zje at h
 refine SR <| Cv rfl (Zn 8 rfl rfl (vt rfl)) fun g8 => Cv rfl (Zn 9 rfl rfl (vt rfl)) fun g9 => Cv rfl (Zn 11 rfl rfl (vt rfl)) fun g10 => Cv rfl (Zn 14 rfl rfl (vt rfl)) fun g11 => Ab rfl <| Nl <| sq <| sq ?_
 obtain ⟨x12, hx12, h⟩ := Z8 h
 refine Rg <| Ld Z6q 8 rfl <| Ld Z4x 9 rfl <| Md rfl <| Cl [20, 21, 22] (Yep _ _ _ _ hx12) e67 rfl <| Ac (Z0z rfl rfl (vt rfl)) rfl <| Nl <| Cq rfl h (fun h => ?_) (fun h => ?_)
 ·refine sq ?_
  obtain ⟨x13, hx13, h⟩ := Z8 h
  refine Rg <| Cl [] (Zly _ hx13) e66 rfl <| As rfl <| Nl <| rt ?_
  cases h; exact Zf Tryz.results18 rfl (Za rfl)
 ·refine sk <| sq ?_
  obtain ⟨x14, hx14, h⟩ := Z8 h
  refine Rg <| Ld Z6q 8 rfl <| Ld Z4x 9 rfl <| Md rfl <| Ld Z00 11 rfl <| Md rfl <| Ac (Zj0 rfl rfl (vt rfl) (vk rfl)) rfl <| Md rfl <| Cl [27, 28, 29, 30, 32, 33] (Zts _ _ _ _ _ _ _ hx14) e68 rfl <| Mt2 rfl <| Ac (Z1n rfl rfl (vt rfl)) rfl <| Ac (Z1l rfl rfl (vt rfl)) rfl <| As rfl <| As rfl <| Nl <| sq <| SR <| Md rfl <| Ac (Z4u rfl rfl (vt rfl) (vk rfl)) rfl <| Nl <| Cq rfl h (fun h => ?_) (fun h => ?_)
  ·refine sq ?_
   obtain ⟨x15, hx15, h⟩ := Z8 h
   refine Rg <| Md rfl <| Ac (Z1r rfl rfl (vt rfl) (vk rfl)) rfl <| Md rfl <| Gd rfl (fun hq => Zp (A := rd (Z1 Z0y) x14.1) rfl rfl (vt rfl)) <| Gd rfl (fun hq => Z0t rfl rfl Z7z (Zg rfl hq)) <| Gd rfl (fun hq => Z1r rfl rfl (Zg rfl hq) (vk rfl)) <| Ac (Z21 rfl rfl (vt rfl) (vt rfl)) rfl <| Md rfl <| Gd rfl (fun hq => Z14 (xs := []) (Zly _ (Z3t hx15 hq)) e66 rfl rfl trivial) <| Ac (Z21 rfl rfl (vt rfl) (vt rfl)) rfl <| As rfl <| Nl <| rt ?_
   cases h; exact Zf Tryz.results18 rfl (Za rfl)
  ·refine sk <| sq <| AW.newnil 1001 69 Z1d <| Rg <| Ac (Zy rfl rfl vc) rfl <| Nl <| sq <| SR <| Md rfl <| Ac (Z0t rfl rfl Z7z (vt rfl)) rfl <| Mk rfl <| Nl <| bk <| LG (d := []) (ν := (List Ray) × Nat × (List End) × Value) (fun (l21, i20, l18, v19) => (Sfx x14.1 i20 l21 ∧ Z8q x4 x7 n1 x2 a3 x5 l21 i20 l18 = some r, l21.length, [(2, rd (Z0 .i64) a3), (4, rd (Z0 .i64) x5), (7, Z7 g8 (Lens.id Z26)), (8, Z7 g9 (Lens.id Z0q)), (10, Z7 g10 (Lens.id (Z3 24 Z4))), (13, Z7 g11 (Lens.id (Z3 24 Zd))), (17, Zo v19), (49, rd (Z1 Z0y) x14.1), (50, rd (Z0 .i64) (x14.1.length : Int)), (51, rd (Z0 .i64) (i20 : Int))], [(8, Zc g8 67 Z26 n1), (9, Zc g9 39 Z0q x2), (11, Zc g10 87 (Z3 24 Z4) x4), (14, Zc g11 44 (Z3 24 Zd) x7), (1001, Zb v19 69 Z1d l18)])) (x14.1, 0, [], (.slice none 0 0)) ⟨Sfx.start _, h⟩ (FX rfl) ?_
   rintro ⟨l21, i20, l18, v19⟩ ⟨hsf1, h⟩
   dsimp only at hsf1 h ⊢
   cases l21 with
   | nil =>
    unfold Z8q at h
    refine SR <| Ac (Zi rfl rfl (vt rfl) (vt rfl)) rfl <| Nl <| sq <| Cn rfl (fun hc => absurd (of_decide_eq_true hc) hsf1.nil) (fun hc => ?_)
    refine xt <| sq <| sq ?_
    obtain ⟨x22, hx22, h⟩ := Z8 h
    refine Rg <| Ld Z00 11 rfl <| Ld Z0g 14 rfl <| Cl [65, 66] (Zt1 _ _ _ hx22) e50 rfl <| Ac (Z0z rfl rfl (vt rfl)) rfl <| Nl <| Cq rfl h (fun h => ?_) (fun h => ?_)
    ·refine sq ?_
     obtain ⟨x23, hx23, h⟩ := Z8 h
     refine Rg <| Mw rfl <| Ac (Z6o 1001 rfl rfl Z4q (vt rfl) rfl) rfl <| Ac (Z1r rfl rfl (vt rfl) (vk rfl)) rfl <| Md rfl <| Gd rfl (fun hq => Z14 (xs := []) (Zly _ (Z3t hx23 hq)) e66 rfl rfl trivial) <| Ac (Z21 rfl rfl (vt rfl) (vt rfl)) rfl <| As rfl <| Nl <| rt ?_
     cases h; exact Zf Tryz.results18 rfl (Za rfl)
    ·refine sk <| sq ?_
     obtain ⟨x24, hx24, x25, hx25, x26, hx26, h⟩ := bs3 h
     refine Rg <| Mw rfl <| Ld Z6q 8 rfl <| Ld Z4x 9 rfl <| Md rfl <| Ld Z0g 14 rfl <| Md rfl <| Ac (Zj0 rfl rfl (vt rfl) (vk rfl)) rfl <| Cl [76, 77, 78, 79, 81] (Y7u _ _ _ _ _ _ hx24) e37 rfl <| Ac (Zm7 (xs := [.tmp 75, .tmp 82]) 1001 (Yc4 _ _ _ hx25) e69 rfl rfl ⟨vL rfl rfl, vB (vt rfl), trivial⟩) rfl <| Md rfl <| Gd rfl (fun hq => Z14 (xs := []) (Zly _ (Z3t hx26 hq)) e66 rfl rfl trivial) <| Ac (Z21 rfl rfl (vt rfl) (vt rfl)) rfl <| As rfl <| Nl <| rt ?_
     cases h; exact Zf Tryz.results18 rfl (Za rfl)
   | cons x27 l21 =>
    unfold Z8q at h
    refine SR <| Ac (Zi rfl rfl (vt rfl) (vt rfl)) rfl <| Nl <| sq <| Cn rfl (fun hc => ?_) (fun hc => absurd hsf1.cons (of_decide_eq_false hc))
    have hlti20 := of_decide_eq_true hc
    refine sk <| sq <| bk <| SR <| Ac (Z0k rfl rfl Z7z (vt rfl) (vt rfl) hsf1.lget) rfl <| Lp1 Zfk rfl <| Cv rfl (Zs 20 rfl rfl Zlr) fun g28 => Zj Zfk 20 rfl <| Nl <| sq ?_
    obtain ⟨x29, hx29, h⟩ := Z8 h
    refine Rg <| Ld Zfk 20 rfl <| Ld Z0g 14 rfl <| Cl [55, 56] (Zxz _ _ _ hx29) e62 rfl <| Nl <| Cq rfl h (fun h => ?_) (fun h => ?_)
    ·obtain ⟨x30, hx30, l31, hl31, h⟩ := bs2 h
     refine Rg <| Mw rfl <| Ld Zfk 20 rfl <| Ld Z0g 14 rfl <| Cl [59, 60] (Zx3 _ _ _ hx30) e64 rfl <| Ac (osl Z4q Zai rfl (vt rfl)) rfl <| Cv rfl (Z44 1001 hl31 rfl rfl Zqm (vt rfl) rfl (vt rfl)) fun v32 => Aw rfl <| Nl <| Rg <| Ac (Z0u (t := 50) rfl rfl (vt rfl) (vk rfl) (vt rfl) hlti20) rfl <| Md rfl <| Nl ?_
     exact ⟨(_, _, _, _), Nat.lt_succ_self _, ⟨hsf1.next, h⟩, FX rfl⟩
    ·refine sk <| Rg <| Ac (Z0u (t := 50) rfl rfl (vt rfl) (vk rfl) (vt rfl) hlti20) rfl <| Md rfl <| Nl ?_
     exact ⟨(_, _, _, _), Nat.lt_succ_self _, ⟨hsf1.next, h⟩, FX rfl⟩
end Go.Proofs.YtknpgojdkobgjaaGreat.W
set_option maxRecDepth 4000
namespace Go.Proofs.YtknpgojdkobgjaaGreat.W
open Go Go.Wb
end Go.Proofs.YtknpgojdkobgjaaGreat.W
