/- A part of the proof. -/
import Derived.Test.YtknpgojdkobgjaaGreatG1
set_option linter.unusedVariables false
set_option maxRecDepth 4000
set_option linter.unusedSimpArgs false
namespace Go.Proofs.YtknpgojdkobgjaaGreat.W
open Go Go.Wb
theorem Yim : Ent Tryz.prog 252 := Ent.mk Tryz.func252 rfl rfl
theorem e54 : Ent Tryz.prog 54 := Ent.mk Tryz.func54 rfl rfl
theorem Yi5 : Ent Tryz.prog 192 := Ent.mk Tryz.func192 rfl rfl
theorem Yap : Ent Tryz.prog 338 := Ent.mk Tryz.func338 rfl rfl
theorem Y6t : Ent Tryz.prog 326 := Ent.mk Tryz.func326 rfl rfl
theorem Yo2 : Ent Tryz.prog 325 := Ent.mk Tryz.func325 rfl rfl
theorem Zyd : Ent Tryz.prog 231 := Ent.mk Tryz.func231 rfl rfl
def Ze7 (x1 : Flat) (m2 : Int) : Nat → Nat → (List (List Zk)) → Option ((List (List Zk)) × Int)
 | 0, i8, l6 => some (l6, 0)
 | m9 + 1, i8, l6 => (Zgj x1 (i8 : Int) m2).bind fun x10 => (bif (decide (x10.2 ≠ 0)) then some ([], x10.2) else (Z1a l6 [x10.1]).bind fun l11 => (Ze7 x1 m2 m9) (i8 + 1) l11)
def Zkn (x1 : Flat) (m2 : Int) : Option ((List (List Zk)) × Int) :=
 Ze7 x1 m2 ((x1.Rules.length : Int) : Int).toNat 0 []
theorem Yed : Q2 Tryz.prog 192 (rd Z5n) (rd (Z0 .i64)) (fun r => Z1d (rd (Z1 (Z1 (Z3 24 Z4))) r.1) (rd (Z0 .i64) r.2)) Zkn := fun x1 m2 r h => I0 Tryz.func192 rfl Tryz.ntmps192 rfl fun w H => by
 unfold Zkn at h
 refine SR <| Cv rfl (Zm 3 rfl rfl (vt rfl)) fun g3 => Ac (Zy (A := rd (Z1 (Z1 (Z3 24 Z4))) []) rfl rfl Z1h) rfl <| Ak rfl <| Nl <| sq <| AW.newnil 1001 229 (Z1 (Z3 24 Z4)) <| Rg <| Ac (Zy rfl rfl vc) rfl <| Nl <| sq <| SR <| Zf lFlat_0 Ziy rfl <| Ld Zin 3 rfl <| Ac (Z0t rfl rfl Z4x (vt rfl)) rfl <| Mk rfl <| Nl <| bk <| LG (d := []) (ν := Nat × Nat × (List (List Zk)) × Value) (fun (m9, i8, l6, v7) => (Cnt (x1.Rules.length : Int) i8 m9 ∧ Ze7 x1 m2 m9 i8 l6 = some r, m9, [(1, rd (Z0 .i64) m2), (2, Z7 g3 (Lens.id Z5n)), (6, Zn v7), (12, rd (Z0 .i64) (x1.Rules.length : Int)), (13, rd (Z0 .i64) (i8 : Int))], [(3, Zc g3 73 Z5n x1), (1001, Zb v7 229 (Z1 (Z3 24 Z4)) l6)])) (((x1.Rules.length : Int) : Int).toNat, 0, [], (.slice none 0 0)) ⟨Cnt.start _, h⟩ (FX rfl) ?_
 rintro ⟨m9, i8, l6, v7⟩ ⟨hsf1, h⟩
 dsimp only at hsf1 h ⊢
 cases m9 with
 | zero =>
  unfold Ze7 at h
  refine SR <| Ac (Zi rfl rfl (vt rfl) (vt rfl)) rfl <| Nl <| sq <| Cn rfl (fun hc => absurd (of_decide_eq_true hc) hsf1.zero) (fun hc => ?_)
  refine xt <| SR <| Mw rfl <| Aw rfl <| Ak rfl <| Nl <| AW.freezes [4, 6, 31] 1001 rfl ⟨rfl, rfl, rfl, trivial⟩ rfl <| rt ?_
  cases h; exact Z1k Tryz.results192 rfl (Za rfl) (Za rfl)
 | succ m9 =>
  unfold Ze7 at h
  refine SR <| Ac (Zi rfl rfl (vt rfl) (vt rfl)) rfl <| Nl <| sq <| Cn rfl (fun hc => ?_) (fun hc => absurd hsf1.succ (of_decide_eq_false hc))
  have hlti8 := of_decide_eq_true hc
  refine sk <| sq <| bk <| SR <| Md rfl <| As rfl <| Nl <| sq ?_
  obtain ⟨x10, hx10, h⟩ := Z8 h
  refine Rg <| Ld Zbp 3 rfl <| Md rfl <| Md rfl <| Cl [17, 18, 19] (Ynl _ _ _ _ hx10) Yim rfl <| Mt2 rfl <| Ac (Z1m rfl rfl (vt rfl)) rfl <| Ac (Z1l rfl rfl (vt rfl)) rfl <| As rfl <| As rfl <| Nl <| sq <| SR <| Md rfl <| Ac (Z6y rfl rfl (vt rfl) (vk rfl)) rfl <| Nl <| Cq rfl h (fun h => ?_) (fun h => ?_)
  ·refine SR <| Md rfl <| Ac (Zy (A := rd (Z1 (Z1 (Z3 24 Z4))) []) rfl rfl Z1h) rfl <| As rfl <| Nl <| rt ?_
   cases h; exact Z1k Tryz.results192 rfl (Za rfl) (Za rfl)
  ·refine sk ?_
   obtain ⟨l11, hl11, h⟩ := Z8 h
   refine Rg <| Mw rfl <| Md rfl <| Ac (osl Zt7 Ync rfl (vt rfl)) rfl <| Cv rfl (Z4e 1001 hl11 rfl rfl Ydi (vt rfl) rfl (vt rfl)) fun v12 => Aw rfl <| Nl <| Rg <| Ac (Z0s (t := 12) rfl rfl (vt rfl) (vk rfl) (vt rfl) hlti8) rfl <| Md rfl <| Nl ?_
   exact ⟨(_, _, _, _), Nat.lt_succ_self _, ⟨hsf1.next, h⟩, FX rfl⟩
def Zdb (m2 : Int) : (List Switch) → Nat → (List spread_table) → Option ((List spread_table) × Int)
 | [], i8, l6 => some (l6, 0)
 | x10 :: l9, i8, l6 => (Zj4 x10 m2).bind fun x12 => (bif (decide (x12.2 ≠ 0)) then some ([], 5) else (Zkn x12.1 m2).bind fun x14 => (bif (decide (x14.2 ≠ 0)) then some ([], 5) else (Z1a l6 [(⟨x12.1, x14.1⟩ : spread_table)]).bind fun l15 => (Zdb m2 l9) (i8 + 1) l15))
def Zmu (n1 : Net) (m2 : Int) : Option ((List spread_table) × Int) :=
 Zdb m2 n1.Switches 0 []
theorem Yle : Q2 Tryz.prog 124 (rd Z28) (rd (Z0 .i64)) (fun r => Z1d (rd (Z1 Z2i) r.1) (rd (Z0 .i64) r.2)) Zmu := fun n1 m2 r h => I0 Tryz.func124 rfl Tryz.ntmps124 rfl fun w H => by
 unfold Zmu at h
 refine SR <| Cv rfl (Zm 3 rfl rfl (vt rfl)) fun g3 => Ac (Zy (A := rd (Z1 Z2i) []) rfl rfl Z1h) rfl <| Ak rfl <| Nl <| sq <| AW.newnil 1001 252 Z2i <| Rg <| Ac (Zy rfl rfl vc) rfl <| Nl <| sq <| SR <| Zf lNet_0 Zes rfl <| Ld Zcz 3 rfl <| Ac (Z0t rfl rfl Z8i (vt rfl)) rfl <| Mk rfl <| Nl <| bk <| LG (d := []) (ν := (List Switch) × Nat × (List spread_table) × Value) (fun (l9, i8, l6, v7) => (Sfx n1.Switches i8 l9 ∧ Zdb m2 l9 i8 l6 = some r, l9.length, [(1, rd (Z0 .i64) m2), (6, Zn v7), (13, rd (Z1 Z0b) n1.Switches), (14, rd (Z0 .i64) (n1.Switches.length : Int)), (15, rd (Z0 .i64) (i8 : Int))], [(1001, Zb v7 252 Z2i l6)])) (n1.Switches, 0, [], (.slice none 0 0)) ⟨Sfx.start _, h⟩ (FX rfl) ?_
 rintro ⟨l9, i8, l6, v7⟩ ⟨hsf1, h⟩
 dsimp only at hsf1 h ⊢
 cases l9 with
 | nil =>
  unfold Zdb at h
  refine SR <| Ac (Zi rfl rfl (vt rfl) (vt rfl)) rfl <| Nl <| sq <| Cn rfl (fun hc => absurd (of_decide_eq_true hc) hsf1.nil) (fun hc => ?_)
  refine xt <| SR <| Mw rfl <| Aw rfl <| Ak rfl <| Nl <| AW.freezes [4, 6, 42] 1001 rfl ⟨rfl, rfl, rfl, trivial⟩ rfl <| rt ?_
  cases h; exact Z1k Tryz.results124 rfl (Za rfl) (Za rfl)
 | cons x10 l9 =>
  unfold Zdb at h
  refine SR <| Ac (Zi rfl rfl (vt rfl) (vt rfl)) rfl <| Nl <| sq <| Cn rfl (fun hc => ?_) (fun hc => absurd hsf1.cons (of_decide_eq_false hc))
  have hlti8 := of_decide_eq_true hc
  refine sk <| sq <| bk <| SR <| Ac (Z0w rfl rfl Z8i (vt rfl) (vt rfl) hsf1.lget) rfl <| Lp1 Z5f rfl <| Cv rfl (Zp 9 rfl rfl Zi9) fun g11 => Zh Z5f 9 rfl <| Nl <| sq ?_
  obtain ⟨x12, hx12, h⟩ := Z8 h
  refine Rg <| Ld Z5f 9 rfl <| Md rfl <| Cl [20, 21] (Yay _ _ _ hx12) e54 rfl <| Mt2 rfl <| Ac (Z1m rfl rfl (vt rfl)) rfl <| Ac (Z1l rfl rfl (vt rfl)) rfl <| Cv rfl (Zp 10 rfl rfl Zmc) fun g13 => Zh Zbp 10 rfl <| As rfl <| Nl <| sq <| SR <| Md rfl <| Ac (Z6y rfl rfl (vt rfl) (vk rfl)) rfl <| Nl <| Cq rfl h (fun h => ?_) (fun h => ?_)
  ·refine SR <| Ac (Zy (A := rd (Z1 Z2i) []) rfl rfl Z1h) rfl <| Ak rfl <| Nl <| rt ?_
   cases h; exact Z1k Tryz.results124 rfl (Za rfl) (Za rfl)
  ·refine sk <| sq ?_
   obtain ⟨x14, hx14, h⟩ := Z8 h
   refine Rg <| Ld Zbp 10 rfl <| Md rfl <| Cl [28, 29] (Yed _ _ _ hx14) Yi5 rfl <| Ac (Zu (A := Z1d (rd (Z1 (Z1 (Z3 24 Z4))) x14.1) (rd (Z0 .i64) x14.2)) rfl rfl (vt rfl)) rfl <| Ac (Z1m rfl rfl (vt rfl)) rfl <| Ac (Z1l rfl rfl (vt rfl)) rfl <| As rfl <| As rfl <| Nl <| sq <| SR <| Md rfl <| Ac (Z6y rfl rfl (vt rfl) (vk rfl)) rfl <| Nl <| Cq rfl h (fun h => ?_) (fun h => ?_)
   ·refine SR <| Ac (Zy (A := rd (Z1 Z2i) []) rfl rfl Z1h) rfl <| Ak rfl <| Nl <| rt ?_
    cases h; exact Z1k Tryz.results124 rfl (Za rfl) (Za rfl)
   ·refine sk ?_
    obtain ⟨l15, hl15, h⟩ := Z8 h
    refine Rg <| Mw rfl <| Ld Zbp 10 rfl <| Md rfl <| Ac (opb (⟨x12.1, x14.1⟩ : spread_table) Zse rfl Ydx (pc Yjh (vt rfl) <| pc Ym3 (vt rfl) <| pn rfl)) rfl <| Ac (osl Zw0 Zse rfl (vt rfl)) rfl <| Cv rfl (Z4e 1001 hl15 rfl rfl Yhg (vt rfl) rfl (vt rfl)) fun v16 => Aw rfl <| Nl <| Rg <| Ac (Z0s (t := 14) rfl rfl (vt rfl) (vk rfl) (vt rfl) hlti8) rfl <| Md rfl <| Nl ?_
    exact ⟨(_, _, _, _), Nat.lt_succ_self _, ⟨hsf1.next, h⟩, FX rfl⟩
def Zhq (b1 : spread_beam) (x2 : Zk) : Option (spread_beam × Bool) :=
 (Zfx b1.got x2).bind fun x6 => (bif (!x6.2) then some ((⟨(Vector.replicate 24 zTern), (Vector.replicate 24 zTern)⟩ : spread_beam), false) else (Z7y x6.1 b1.cube).bind fun x8 => some ({ b1 with cube := x8.1 }, x8.2))
theorem Ym7 : Q2 Tryz.prog 193 (rd Z2u) (rd (Z3 24 Z4)) (fun r => Z1d (rd Z2u r.1) (rd Z5 r.2)) Zhq := fun b1 x2 r h => I0 Tryz.func193 rfl Tryz.ntmps193 rfl fun w H => by
 unfold Zhq at h
 refine SR <| Cv rfl (Zm 3 rfl rfl (vt rfl)) fun g3 => Cv rfl (Zm 4 rfl rfl (vt rfl)) fun g4 => Cv rfl (Zp 5 rfl rfl Zdp) fun g5 => Ab rfl <| Nl <| sq ?_
 obtain ⟨x6, hx6, h⟩ := Z8 h
 refine Rg <| Zf lspread_beam_1 Zf0 rfl <| Ld Z0f 3 rfl <| Ld Z00 4 rfl <| Cl [10, 11] (Zwm _ _ _ hx6) Y4j rfl <| Mt2 rfl <| Ac (Z1m rfl rfl (vt rfl)) rfl <| Ac (Z1l rfl rfl (vt rfl)) rfl <| Cv rfl (Zp 7 rfl rfl Z2c) fun g7 => Zh Z00 7 rfl <| As rfl <| Nl <| sq <| SR <| Md rfl <| Ac (Z0x rfl rfl (vt rfl)) rfl <| Nl <| Cq rfl h (fun h => ?_) (fun h => ?_)
 ·refine SR <| Ac (opb (⟨(Vector.replicate 24 zTern), (Vector.replicate 24 zTern)⟩ : spread_beam) Zdp rfl Ztu (pn rfl)) rfl <| Zh Z6h 5 rfl <| Ab rfl <| Nl <| rt ?_
  cases h; exact Z1k Tryz.results193 rfl (Z01 rfl (i := 5) rfl Z6h) (Za rfl)
 ·refine sk <| sq ?_
  obtain ⟨x8, hx8, h⟩ := Z8 h
  refine Rg <| Ld Z00 7 rfl <| Zf lspread_beam_0 Zk3 rfl <| Ld Z00 3 rfl <| Cl [19, 21] (Zol _ _ _ hx8) Zms rfl <| Mt2 rfl <| Ac (Z1m rfl rfl (vt rfl)) rfl <| Ac (Z1l rfl rfl (vt rfl)) rfl <| Zf lspread_beam_0 Zk3 rfl <| Zh Z00 3 rfl <| As rfl <| Nl <| SR <| Ld Z6h 3 rfl <| Md rfl <| Zh Z6h 5 rfl <| As rfl <| Nl <| rt ?_
  cases h; exact Z1k Tryz.results193 rfl (Z01 rfl (i := 5) rfl Z6h) (Za rfl)
def Zca (x1 : Env) (n2 : Int) : Option Int :=
 (bif (decide (n2 < 1)) then some 0 else (Za1 x1.Turn n2).bind fun q4 => (bif (decide (q4 < 0)) then some (IntKind.i64.wrap (q4 + n2)) else some q4))
theorem Ydd : Q2 Tryz.prog 284 (rd Z0q) (rd (Z0 .i64)) (rd (Z0 .i64)) Zca := fun x1 n2 r h => I0 Tryz.func284 rfl Tryz.ntmps284 rfl fun w H => by
 unfold Zca at h
 refine SR <| Cv rfl (Zm 3 rfl rfl (vt rfl)) fun g3 => Ak rfl <| Nl <| sq <| SR <| Md rfl <| Ac (Zi rfl rfl (vt rfl) (vk rfl)) rfl <| Nl <| Cq rfl h (fun h => ?_) (fun h => ?_)
 ·refine SR <| Ak rfl <| Nl <| rt ?_
  cases h; exact Zg Tryz.results284 rfl (Za rfl)
 ·refine sk <| sq ?_
  obtain ⟨q4, hq4, h⟩ := Z8 h
  refine Rg <| Zf Y4v Ymb rfl <| Ld Zo 3 rfl <| Md rfl <| Ac (Y0u rfl rfl (vt rfl) (vt rfl) hq4) rfl <| As rfl <| Nl <| sq <| SR <| Md rfl <| Ac (Zi rfl rfl (vt rfl) (vk rfl)) rfl <| Nl <| Cq rfl h (fun h => ?_) (fun h => ?_)
  ·refine Rg <| Md rfl <| Md rfl <| Ac (Z0o rfl rfl (vt rfl) (vt rfl)) rfl <| As rfl <| Nl <| SR <| Md rfl <| As rfl <| Nl <| rt ?_
   cases h; exact Zg Tryz.results284 rfl (Za rfl)
  ·refine sk <| SR <| Md rfl <| As rfl <| Nl <| rt ?_
   cases h; exact Zg Tryz.results284 rfl (Za rfl)
def Zj5 (s1 : (List Int)) (x2 : Int) : Option Bool :=
 (Zhu s1 x2).bind fun x3 => some (decide (x3 ≥ 0))
theorem Ymm : Q2 Tryz.prog 338 (rd (Z1 (Z0 .i64))) (rd (Z0 .i64)) (rd Z5) Zj5 := fun s1 x2 r h => I0 Tryz.func338 rfl Tryz.ntmps338 rfl fun w H => by
 unfold Zj5 at h
 refine SR <| Ab rfl <| Nl <| sq ?_
 obtain ⟨x3, hx3, h⟩ := Z8 h
 refine Rg <| Md rfl <| Md rfl <| Cl [5, 6] (Y1o _ _ _ hx3) Y3v rfl <| Ac (Z3r rfl rfl (vt rfl) (vk rfl)) rfl <| As rfl <| Nl <| rt ?_
 cases h; exact Zg Tryz.results338 rfl (Za rfl)
def Zjj (x1 : Env) (p2 : Int) : Option Bool :=
 (Zj5 x1.Down p2).bind fun x4 => some (!x4)
theorem Yit : Q2 Tryz.prog 326 (rd Z0q) (rd (Z0 .i64)) (rd Z5) Zjj := fun x1 p2 r h => I0 Tryz.func326 rfl Tryz.ntmps326 rfl fun w H => by
 unfold Zjj at h
 refine SR <| Cv rfl (Zm 3 rfl rfl (vt rfl)) fun g3 => Ab rfl <| Nl <| sq ?_
 obtain ⟨x4, hx4, h⟩ := Z8 h
 refine Rg <| Zf Zrk Y01 rfl <| Ld Y4m 3 rfl <| Md rfl <| Cl [6, 7] (Ymm _ _ _ hx4) Yap rfl <| Ac (Z0x rfl rfl (vt rfl)) rfl <| As rfl <| Nl <| rt ?_
 cases h; exact Zg Tryz.results326 rfl (Za rfl)
def Zf4 (x1 : Bucket) (x2 : env_world) : Option Bool :=
 (Zjj x2.Env x1.Watch).bind fun x4 => some x4
theorem Yk1 : Q2 Tryz.prog 325 (rd Z1y) (rp Zbz) (rd Z5) Zf4 := fun x1 x2 r h => I0 Tryz.func325 rfl Tryz.ntmps325 rfl fun w H => by
 unfold Zf4 at h
 refine SR <| Cv rfl (Zm 3 rfl rfl (vt rfl)) fun g3 => Ab rfl <| Nl <| sq ?_
 obtain ⟨x4, hx4, h⟩ := Z8 h
 refine Rg <| Fp lenv_world_0 Zzw rfl <| Lp1 Z4n rfl <| Zf Y0x Ycs rfl <| Ld Zo 3 rfl <| Cl [5, 7] (Yit _ _ _ hx4) Y6t rfl <| As rfl <| Nl <| rt ?_
 cases h; exact Zg Tryz.results325 rfl (Za rfl)
def Zej (s1 : (List Bucket)) (x2 : (Bucket → Option Bool)) : Nat → Nat → Option Int
 | 0, i3 => some (-1)
 | m4 + 1, i3 => (lget s1 (i3 : Int)).bind fun x5 => (x2 x5).bind fun x6 => (bif x6 then some (i3 : Int) else (Zej s1 x2 m4) (i3 + 1))
def Zgl (s1 : (List Bucket)) (x2 : (Bucket → Option Bool)) : Option Int :=
 Zej s1 x2 ((s1.length : Int) : Int).toNat 0
theorem Zv3 : Q2 Tryz.prog 231 (rd (Z1 Z1y)) (fn1 Tryz.prog Z1y Z5) (rd (Z0 .i64)) Zgl := fun s1 x2 r h => I0 Tryz.func231 rfl Tryz.ntmps231 rfl fun w H => by
 unfold Zgl at h
 refine SR <| Ak rfl <| Nl <| sq <| SR <| Md rfl <| Ac (Z0t rfl rfl Z5g (vt rfl)) rfl <| Mk rfl <| Nl <| bk <| LG (d := []) (ν := Nat × Nat) (fun (m4, i3) => (Cnt (s1.length : Int) i3 m4 ∧ Zej s1 x2 m4 i3 = some r, m4, [(0, rd (Z1 Z1y) s1), (1, fn1 Tryz.prog Z1y Z5 x2), (7, rd (Z0 .i64) (s1.length : Int)), (8, rd (Z0 .i64) (i3 : Int))], [])) (((s1.length : Int) : Int).toNat, 0) ⟨Cnt.start _, h⟩ (FX rfl) ?_
 rintro ⟨m4, i3⟩ ⟨hsf1, h⟩
 dsimp only at hsf1 h ⊢
 cases m4 with
 | zero =>
  unfold Zej at h
  refine SR <| Ac (Zi rfl rfl (vt rfl) (vt rfl)) rfl <| Nl <| sq <| Cn rfl (fun hc => absurd (of_decide_eq_true hc) hsf1.zero) (fun hc => ?_)
  refine xt <| SR <| Ak rfl <| Nl <| rt ?_
  cases h; exact Zg Tryz.results231 rfl (Za rfl)
 | succ m4 =>
  unfold Zej at h
  refine SR <| Ac (Zi rfl rfl (vt rfl) (vt rfl)) rfl <| Nl <| sq <| Cn rfl (fun hc => ?_) (fun hc => absurd hsf1.succ (of_decide_eq_false hc))
  have hlti3 := of_decide_eq_true hc
  refine sk <| sq <| bk <| SR <| Md rfl <| As rfl <| Nl <| sq ?_
  obtain ⟨x5, hx5, x6, hx6, h⟩ := bs2 h
  refine Rg <| Ac (Zu (A := fn1 Tryz.prog Z1y Z5 x2) rfl rfl (vt rfl)) rfl <| Md rfl <| Md rfl <| Ac (Z0w rfl rfl Z5g (vt rfl) (vt rfl) hx5) rfl <| Lp1 Ztv rfl <| Ac (Z8b hx6 rfl rfl (vt rfl) (vt rfl)) rfl <| Nl <| Cq rfl h (fun h => ?_) (fun h => ?_)
  ·refine SR <| Md rfl <| As rfl <| Nl <| rt ?_
   cases h; exact Zg Tryz.results231 rfl (Za rfl)
  ·refine sk <| Rg <| Ac (Z0s (t := 7) rfl rfl (vt rfl) (vk rfl) (vt rfl) hlti3) rfl <| Md rfl <| Nl ?_
   exact ⟨(_, _), Nat.lt_succ_self _, ⟨hsf1.next, h⟩, FX rfl⟩
def Znv (w1 : env_world) : Option Int :=
 (Zgl w1.Group.Buckets (fun x => Zf4 x w1)).bind fun x3 => some x3
theorem Y99 : Q1 Tryz.prog 285 (rd Zbz) (rd (Z0 .i64)) Znv := fun w1 r h => I0 Tryz.func285 rfl Tryz.ntmps285 rfl fun w H => by
 unfold Znv at h
 refine SR <| Cv rfl (Zm 2 rfl rfl (vt rfl)) fun g2 => Ak rfl <| Nl <| sq <| AW.freezeB 1 2 rfl rfl rfl ?_
 obtain ⟨x3, hx3, h⟩ := Z8 h
 refine Rg <| Fp lenv_world_1 Zie rfl <| Fp Z7p Z8g rfl <| Lp1 Z90 rfl <| Ac (Z7v (cs := [.tmp 1]) (CAs := [rp Zbz w1]) (fun x => Zf4 x w1) rfl rfl Yo2 ⟨vt rfl, trivial⟩ (fun x y h => Yk1 _ _ y h)) rfl <| Cl [5, 6] (Zv3 _ _ _ hx3) Zyd rfl <| As rfl <| Nl <| rt ?_
 cases h; exact Zg Tryz.results285 rfl (Za rfl)
end Go.Proofs.YtknpgojdkobgjaaGreat.W
set_option maxRecDepth 4000
namespace Go.Proofs.YtknpgojdkobgjaaGreat.W
open Go Go.Wb
theorem Yeq : Ent Tryz.prog 284 := Ent.mk Tryz.func284 rfl rfl
theorem Ylj : Ent Tryz.prog 285 := Ent.mk Tryz.func285 rfl rfl
theorem Yg4 : Ent Tryz.prog 300 := Ent.mk Tryz.func300 rfl rfl
theorem Y0b : Ent Tryz.prog 238 := Ent.mk Tryz.func238 rfl rfl
theorem Y2a : Ent Tryz.prog 255 := Ent.mk Tryz.func255 rfl rfl
theorem Yc6 : Ent Tryz.prog 131 := Ent.mk Tryz.func131 rfl rfl
theorem Ymt : Ent Tryz.prog 130 := Ent.mk Tryz.func130 rfl rfl
theorem Ycu : Ent Tryz.prog 129 := Ent.mk Tryz.func129 rfl rfl
def Za9 : Nat → Nat → (List Int) → Option (List Int)
 | 0, i10, l8 => some l8
 | m11 + 1, i10, l8 => (Z1a l8 [(i10 : Int)]).bind fun l12 => (Za9 m11) (i10 + 1) l12
def Zgo (x1 : Env) (x2 : Group) : Option (List Int) :=
 (bif (decide (((((⟨x1, x2⟩ : env_world).Group).Buckets).length : Int) = 0)) then some [] else (bif (decide ((((⟨x1, x2⟩ : env_world).Group).Kind) = 0)) then Za9 (((((⟨x1, x2⟩ : env_world).Group).Buckets).length : Int) : Int).toNat 0 [] else (bif (decide ((((⟨x1, x2⟩ : env_world).Group).Kind) = 1)) then (Zca ((⟨x1, x2⟩ : env_world).Env) ((((⟨x1, x2⟩ : env_world).Group).Buckets).length : Int)).bind fun x14 => some [x14] else (bif (decide ((((⟨x1, x2⟩ : env_world).Group).Kind) = 2)) then some [0] else (bif (decide ((((⟨x1, x2⟩ : env_world).Group).Kind) = 3)) then (Znv (⟨x1, x2⟩ : env_world)).bind fun x15 => (bif (decide (x15 ≥ 0)) then some [x15] else some []) else some [])))))
theorem Zvm : Q2 Tryz.prog 238 (rd Z0q) (rd Zz) (rd (Z1 (Z0 .i64))) Zgo := fun x1 x2 r h => I0 Tryz.func238 rfl Tryz.ntmps238 rfl fun w H => by
 unfold Zgo at h
 refine SR <| Cv rfl (Zm 3 rfl rfl (vt rfl)) fun g3 => Cv rfl (Zm 4 rfl rfl (vt rfl)) fun g4 => Ac (Zy (A := rd (Z1 (Z0 .i64)) []) rfl rfl Z1h) rfl <| Nl <| SR <| Ld Z4n 3 rfl <| Ld Z5e 4 rfl <| Ac (opb (⟨x1, x2⟩ : env_world) Y0i rfl Y9c (pc Yh5 (vt rfl) <| pc Ygf (vt rfl) <| pn rfl)) rfl <| Cv rfl (Zp 6 rfl rfl Y0i) fun g5 => Zh Zx3 6 rfl <| Nl <| sq <| SR <| Zf lenv_world_1 Zie rfl <| Zf Z7p Z8g rfl <| Ld Z90 6 rfl <| Ac (Z0t rfl rfl Z5g (vt rfl)) rfl <| Ac (Z21 rfl rfl (vt rfl) (vk rfl)) rfl <| Nl <| Cq rfl h (fun h => ?_) (fun h => ?_)
 ·refine SR <| Ac (Zy (A := rd (Z1 (Z0 .i64)) []) rfl rfl Z1h) rfl <| Nl <| rt ?_
  cases h; exact Zg Tryz.results238 rfl (Za rfl)
 ·refine sk <| sq <| SR <| Zf lenv_world_1 Zie rfl <| Zf Zwf Y9v rfl <| Ld Zo 6 rfl <| Nl <| bk <| SR <| Ac (Z21 rfl rfl (vt rfl) (vk rfl)) rfl <| As rfl <| Nl <| Cq rfl h (fun h => ?_) (fun h => ?_)
  ·refine sq <| AW.newnil 1001 3 (Z0 .i64) <| Rg <| Ac (Zy rfl rfl vc) rfl <| Nl <| sq <| SR <| Zf lenv_world_1 Zie rfl <| Zf Z7p Z8g rfl <| Ld Z90 6 rfl <| Ac (Z0t rfl rfl Z5g (vt rfl)) rfl <| Mk rfl <| Nl <| bk <| LG (d := []) (ν := Nat × Nat × (List Int) × Value) (fun (m11, i10, l8, v9) => (Cnt ((((⟨x1, x2⟩ : env_world).Group).Buckets).length : Int) i10 m11 ∧ Za9 m11 i10 l8 = some r, m11, [(6, Zn v9), (25, rd (Z0 .i64) ((((⟨x1, x2⟩ : env_world).Group).Buckets).length : Int)), (26, rd (Z0 .i64) (i10 : Int))], [(1001, Zb v9 3 (Z0 .i64) l8)])) ((((((⟨x1, x2⟩ : env_world).Group).Buckets).length : Int) : Int).toNat, 0, [], (.slice none 0 0)) ⟨Cnt.start _, h⟩ (FX rfl) ?_
   rintro ⟨m11, i10, l8, v9⟩ ⟨hsf1, h⟩
   dsimp only at hsf1 h ⊢
   cases m11 with
   | zero =>
    unfold Za9 at h
    refine SR <| Ac (Zi rfl rfl (vt rfl) (vt rfl)) rfl <| Nl <| sq <| Cn rfl (fun hc => absurd (of_decide_eq_true hc) hsf1.zero) (fun hc => ?_)
    refine xt <| SR <| Mw rfl <| Aw rfl <| Nl <| AW.freezes [4, 6, 34] 1001 rfl ⟨rfl, rfl, rfl, trivial⟩ rfl <| rt ?_
    cases h; exact Zg Tryz.results238 rfl (Za rfl)
   | succ m11 =>
    unfold Za9 at h
    refine SR <| Ac (Zi rfl rfl (vt rfl) (vt rfl)) rfl <| Nl <| sq <| Cn rfl (fun hc => ?_) (fun hc => absurd hsf1.succ (of_decide_eq_false hc))
    have hlti10 := of_decide_eq_true hc
    refine sk <| sq <| bk <| SR <| Md rfl <| As rfl <| Nl ?_
    obtain ⟨l12, hl12, h⟩ := Z8 h
    refine Rg <| Mw rfl <| Md rfl <| Ac (osl Z14 zr3 rfl (vt rfl)) rfl <| Cv rfl (Z4e 1001 hl12 rfl rfl Znc (vt rfl) rfl (vt rfl)) fun v13 => Aw rfl <| Nl <| Rg <| Ac (Z0s (t := 25) rfl rfl (vt rfl) (vk rfl) (vt rfl) hlti10) rfl <| Md rfl <| Nl ?_
    exact ⟨(_, _, _, _), Nat.lt_succ_self _, ⟨hsf1.next, h⟩, FX rfl⟩
  ·refine SR <| Ac (Z21 rfl rfl (vt rfl) (vk rfl)) rfl <| As rfl <| Nl <| Cq rfl h (fun h => ?_) (fun h => ?_)
   ·refine sq ?_
    obtain ⟨x14, hx14, h⟩ := Z8 h
    refine Rg <| Zf lenv_world_0 Zzw rfl <| Ld Z4n 6 rfl <| Zf lenv_world_1 Zie rfl <| Zf Z7p Z8g rfl <| Ld Z90 6 rfl <| Ac (Z0t rfl rfl Z5g (vt rfl)) rfl <| Cl [38, 42] (Ydd _ _ _ hx14) Yeq rfl <| Ac (osl Z14 zr3 rfl (vt rfl)) rfl <| As rfl <| Nl <| rt ?_
    cases h; exact Zg Tryz.results238 rfl (Za rfl)
   ·refine SR <| Ac (Z21 rfl rfl (vt rfl) (vk rfl)) rfl <| As rfl <| Nl <| Cq rfl h (fun h => ?_) (fun h => ?_)
    ·refine SR <| Ac (osl Z14 zr3 rfl (vk rfl)) rfl <| As rfl <| Nl <| rt ?_
     cases h; exact Zg Tryz.results238 rfl (Za rfl)
    ·refine SR <| Ac (Z21 rfl rfl (vt rfl) (vk rfl)) rfl <| As rfl <| Nl <| Cq rfl h (fun h => ?_) (fun h => ?_)
     ·refine sq ?_
      obtain ⟨x15, hx15, h⟩ := Z8 h
      refine Rg <| Ld Zx3 6 rfl <| Cl [50] (Y99 _ _ hx15) Ylj rfl <| As rfl <| Nl <| SR <| Md rfl <| Ac (Z3r rfl rfl (vt rfl) (vk rfl)) rfl <| Nl <| Cq rfl h (fun h => ?_) (fun h => ?_)
      ·refine SR <| Md rfl <| Ac (osl Z14 zr3 rfl (vt rfl)) rfl <| As rfl <| Nl <| rt ?_
       cases h; exact Zg Tryz.results238 rfl (Za rfl)
      ·refine sk <| SR <| Ac (Zy (A := rd (Z1 (Z0 .i64)) []) rfl rfl Z1h) rfl <| Nl <| rt ?_
       cases h; exact Zg Tryz.results238 rfl (Za rfl)
     ·refine sk <| SR <| Ac (Zy (A := rd (Z1 (Z0 .i64)) []) rfl rfl Z1h) rfl <| Nl <| rt ?_
      cases h; exact Zg Tryz.results238 rfl (Za rfl)
def Z9r (R_norm_world_group : (norm_world → Int → Zk → Option (List Atom))) (w1 : norm_world) : (List Atom) → Nat → (List Atom) → Option (List Atom)
 | [], i8, l6 => some l6
 | x10 :: l9, i8, l6 => (bif x10.Group then (R_norm_world_group w1 x10.Port x10.Rewrite).bind fun x12 => (Z1a l6 x12).bind fun l13 => (Z9r R_norm_world_group w1 l9) (i8 + 1) l13 else (Zd1 x10.Rewrite).bind fun x15 => (Z1a l6 [{ x10 with Rewrite := x15 }]).bind fun l16 => (Z9r R_norm_world_group w1 l9) (i8 + 1) l16)
def Zdt (R_norm_world_list : (norm_world → (List Atom) → Option (List Atom))) (R_norm_world_group : (norm_world → Int → Zk → Option (List Atom))) (w1 : norm_world) (a2 : (List Atom)) : Option (List Atom) :=
 Z9r R_norm_world_group w1 a2 0 []
theorem Y6p (R_norm_world_list : (norm_world → (List Atom) → Option (List Atom))) (hR_norm_world_list : ∀ (w1 : norm_world) (a2 : (List Atom)) (r : (List Atom)), R_norm_world_list w1 a2 = some r → PCon Tryz.prog 255 [rd Z45 w1, rd (Z1 Z0a) a2] (rd (Z1 Z0a) r)) (R_norm_world_group : (norm_world → Int → Zk → Option (List Atom))) (hR_norm_world_group : ∀ (w1 : norm_world) (i2 : Int) (x3 : Zk) (r : (List Atom)), R_norm_world_group w1 i2 x3 = some r → PCon Tryz.prog 300 [rd Z45 w1, rd (Z0 .i64) i2, rd (Z3 24 Z4) x3] (rd (Z1 Z0a) r)) (w1 : norm_world) (a2 : (List Atom)) (r : (List Atom)) (h : Zdt R_norm_world_list R_norm_world_group w1 a2 = some r) : PCon Tryz.prog 255 [rd Z45 w1, rd (Z1 Z0a) a2] (rd (Z1 Z0a) r) := by
 refine PCon.of (Con.intro0 Tryz.func255 rfl Tryz.ntmps255 rfl fun w H => ?_)
 unfold Zdt at h
 refine SR <| Cv rfl (Zm 3 rfl rfl (vt rfl)) fun g3 => Ac (Zy (A := rd (Z1 Z0a) []) rfl rfl Z1h) rfl <| Nl <| sq <| AW.newnil 1001 126 Z0a <| Rg <| Ac (Zy rfl rfl vc) rfl <| Nl <| sq <| SR <| Md rfl <| Ac (Z0t rfl rfl Z7n (vt rfl)) rfl <| Mk rfl <| Nl <| bk <| LG (d := []) (ν := (List Atom) × Nat × (List Atom) × Value) (fun (l9, i8, l6, v7) => (Sfx a2 i8 l9 ∧ Z9r R_norm_world_group w1 l9 i8 l6 = some r, l9.length, [(2, Z7 g3 (Lens.id Z45)), (5, Zn v7), (8, rd (Z1 Z0a) a2), (9, rd (Z0 .i64) (a2.length : Int)), (10, rd (Z0 .i64) (i8 : Int))], [(3, Zc g3 307 Z45 w1), (1001, Zb v7 126 Z0a l6)])) (a2, 0, [], (.slice none 0 0)) ⟨Sfx.start _, h⟩ (FX rfl) ?_
 rintro ⟨l9, i8, l6, v7⟩ ⟨hsf1, h⟩
 dsimp only at hsf1 h ⊢
 cases l9 with
 | nil =>
  unfold Z9r at h
  refine SR <| Ac (Zi rfl rfl (vt rfl) (vt rfl)) rfl <| Nl <| sq <| Cn rfl (fun hc => absurd (of_decide_eq_true hc) hsf1.nil) (fun hc => ?_)
  refine xt <| SR <| Mw rfl <| Aw rfl <| Nl <| AW.freezes [4, 5, 33] 1001 rfl ⟨rfl, rfl, rfl, trivial⟩ rfl <| rt ?_
  cases h; exact Zg Tryz.results255 rfl (Za rfl)
 | cons x10 l9 =>
  unfold Z9r at h
  refine SR <| Ac (Zi rfl rfl (vt rfl) (vt rfl)) rfl <| Nl <| sq <| Cn rfl (fun hc => ?_) (fun hc => absurd hsf1.cons (of_decide_eq_false hc))
  have hlti8 := of_decide_eq_true hc
  refine sk <| sq <| bk <| SR <| Ac (Z0w rfl rfl Z7n (vt rfl) (vt rfl) hsf1.lget) rfl <| Lp1 Zd2 rfl <| Cv rfl (Zp 8 rfl rfl Zd6) fun g11 => Zh Zd2 8 rfl <| Nl <| sq <| SR <| Zf Zua Zwg rfl <| Ld ty4 8 rfl <| Nl <| Cq rfl h (fun h => ?_) (fun h => ?_)
  ·refine sq ?_
   obtain ⟨x12, hx12, l13, hl13, h⟩ := bs2 h
   refine Rg <| Mw rfl <| Ld Zxm 3 rfl <| Zf Zfh Zjt rfl <| Ld Zo 8 rfl <| Zf lAtom_0 Zn1 rfl <| Ld Z0f 8 rfl <| Cl [17, 19, 21] (hR_norm_world_group _ _ _ _ hx12) Yg4 rfl <| Cv rfl (Z4e 1001 hl13 rfl rfl Zgw (vt rfl) rfl (vt rfl)) fun v14 => Aw rfl <| Nl <| xt <| Rg <| Ac (Z0s (t := 9) rfl rfl (vt rfl) (vk rfl) (vt rfl) hlti8) rfl <| Md rfl <| Nl ?_
   exact ⟨(_, _, _, _), Nat.lt_succ_self _, ⟨hsf1.next, h⟩, FX rfl⟩
  ·refine sk <| sq ?_
   obtain ⟨x15, hx15, h⟩ := Z8 h
   refine Rg <| Zf lAtom_0 Zn1 rfl <| Ld Z0f 8 rfl <| Cl [25] (Zqw _ _ hx15) Zqd rfl <| Zf lAtom_0 Zn1 rfl <| Zh Z0f 8 rfl <| Nl ?_
   obtain ⟨l16, hl16, h⟩ := Z8 h
   refine Rg <| Mw rfl <| Ld Zd2 8 rfl <| Ac (osl Z7n Zd6 rfl (vt rfl)) rfl <| Cv rfl (Z4e 1001 hl16 rfl rfl Zgw (vt rfl) rfl (vt rfl)) fun v17 => Aw rfl <| Nl <| Rg <| Ac (Z0s (t := 9) rfl rfl (vt rfl) (vk rfl) (vt rfl) hlti8) rfl <| Md rfl <| Nl ?_
   exact ⟨(_, _, _, _), Nat.lt_succ_self _, ⟨hsf1.next, h⟩, FX rfl⟩
def Zc4 (x6 : (Group × Bool)) (x3 : Zk) (R_norm_world_list : (norm_world → (List Atom) → Option (List Atom))) (w1 : norm_world) : (List Int) → Nat → (List Atom) → Option (List Atom)
 | [], i13, l11 => some l11
 | x15 :: l14, i13, l11 => (lget x6.1.Buckets x15).bind fun x16 => (Zbl [] x16.Acts).bind fun x17 => (Z79 x17).bind fun x18 => (Zfq x18 x3).bind fun x19 => (R_norm_world_list { w1 with depth := (IntKind.i64.wrap (w1.depth + 1)) } x19.1).bind fun x21 => (Z1a l11 x21).bind fun l22 => (Zc4 x6 x3 R_norm_world_list w1 l14) (i13 + 1) l22
def Zer (R_norm_world_list : (norm_world → (List Atom) → Option (List Atom))) (R_norm_world_group : (norm_world → Int → Zk → Option (List Atom))) (w1 : norm_world) (i2 : Int) (x3 : Zk) : Option (List Atom) :=
 (Zeg w1.groups i2).bind fun x6 => (bif ((!x6.2) || (decide (w1.depth ≥ 8))) then some [] else (Zgo ({ w1 with depth := (IntKind.i64.wrap (w1.depth + 1)) }.Env) x6.1).bind fun x8 => Zc4 x6 x3 R_norm_world_list w1 x8 0 [])
theorem Yhm (R_norm_world_list : (norm_world → (List Atom) → Option (List Atom))) (hR_norm_world_list : ∀ (w1 : norm_world) (a2 : (List Atom)) (r : (List Atom)), R_norm_world_list w1 a2 = some r → PCon Tryz.prog 255 [rd Z45 w1, rd (Z1 Z0a) a2] (rd (Z1 Z0a) r)) (R_norm_world_group : (norm_world → Int → Zk → Option (List Atom))) (hR_norm_world_group : ∀ (w1 : norm_world) (i2 : Int) (x3 : Zk) (r : (List Atom)), R_norm_world_group w1 i2 x3 = some r → PCon Tryz.prog 300 [rd Z45 w1, rd (Z0 .i64) i2, rd (Z3 24 Z4) x3] (rd (Z1 Z0a) r)) (w1 : norm_world) (i2 : Int) (x3 : Zk) (r : (List Atom)) (h : Zer R_norm_world_list R_norm_world_group w1 i2 x3 = some r) : PCon Tryz.prog 300 [rd Z45 w1, rd (Z0 .i64) i2, rd (Z3 24 Z4) x3] (rd (Z1 Z0a) r) := by
 refine PCon.of (Con.intro0 Tryz.func300 rfl Tryz.ntmps300 rfl fun w H => ?_)
 unfold Zer at h
 refine SR <| Cv rfl (Zm 4 rfl rfl (vt rfl)) fun g4 => Cv rfl (Zm 6 rfl rfl (vt rfl)) fun g5 => Ac (Zy (A := rd (Z1 Z0a) []) rfl rfl Z1h) rfl <| Nl <| sq ?_
 obtain ⟨x6, hx6, h⟩ := Z8 h
 refine Rg <| Zf lnorm_world_1 Y8n rfl <| Ld Zcn 4 rfl <| Md rfl <| Cl [16, 17] (Ztq _ _ _ hx6) Zqr rfl <| Mt2 rfl <| Ac (Z1m rfl rfl (vt rfl)) rfl <| Ac (Z1l rfl rfl (vt rfl)) rfl <| Cv rfl (Zp 8 rfl rfl Zc1) fun g7 => Zh Z5e 8 rfl <| As rfl <| Nl <| sq <| SR <| Md rfl <| Ac (Z0x rfl rfl (vt rfl)) rfl <| Md rfl <| Gd rfl (fun hq => Z2p Zox rfl rfl Zpz (vt rfl)) <| Gd rfl (fun hq => Z1x rfl rfl Zo (Zs rfl hq) (i := 4) rfl) <| Gd rfl (fun hq => Z3r rfl rfl (Zs rfl hq) (vk rfl)) <| Ac (Z67 rfl rfl (vt rfl) (vt rfl)) rfl <| Nl <| Cq rfl h (fun h => ?_) (fun h => ?_)
 ·refine SR <| Ac (Zy (A := rd (Z1 Z0a) []) rfl rfl Z1h) rfl <| Nl <| rt ?_
  cases h; exact Zg Tryz.results300 rfl (Za rfl)
 ·refine sk <| SR <| Zf Zox Zpz rfl <| Ld Zo 4 rfl <| Ac (Z0o rfl rfl (vt rfl) (vk rfl)) rfl <| Zf Zox Zpz rfl <| Zh Zo 4 rfl <| Nl <| sq <| AW.newnil 1001 126 Z0a <| Rg <| Ac (Zy rfl rfl vc) rfl <| Nl <| sq <| sq ?_
  obtain ⟨x8, hx8, h⟩ := Z8 h
  refine Rg <| Zf lnorm_world_0 Ygz rfl <| Ld Z4n 4 rfl <| Ld Z5e 8 rfl <| Cl [33, 34] (Zvm _ _ _ hx8) Y0b rfl <| Ac (Z0t rfl rfl Z14 (vt rfl)) rfl <| Mk rfl <| Nl <| bk <| LG (d := []) (ν := (List Int) × Nat × (List Atom) × Value) (fun (l14, i13, l11, v12) => (Sfx x8 i13 l14 ∧ Zc4 x6 x3 R_norm_world_list w1 l14 i13 l11 = some r, l14.length, [(3, Z7 g4 (Lens.id Z45)), (5, Z7 g5 (Lens.id (Z3 24 Z4))), (7, Z7 g7 (Lens.id Zz)), (9, Zn v12), (35, rd (Z1 (Z0 .i64)) x8), (36, rd (Z0 .i64) (x8.length : Int)), (37, rd (Z0 .i64) (i13 : Int))], [(4, Zc g4 307 Z45 { w1 with depth := (IntKind.i64.wrap (w1.depth + 1)) }), (6, Zc g5 101 (Z3 24 Z4) x3), (8, Zc g7 164 Zz x6.1), (1001, Zb v12 126 Z0a l11)])) (x8, 0, [], (.slice none 0 0)) ⟨Sfx.start _, h⟩ (FX rfl) ?_
  rintro ⟨l14, i13, l11, v12⟩ ⟨hsf1, h⟩
  dsimp only at hsf1 h ⊢
  cases l14 with
  | nil =>
   unfold Zc4 at h
   refine SR <| Ac (Zi rfl rfl (vt rfl) (vt rfl)) rfl <| Nl <| sq <| Cn rfl (fun hc => absurd (of_decide_eq_true hc) hsf1.nil) (fun hc => ?_)
   refine xt <| SR <| Mw rfl <| Aw rfl <| Nl <| AW.freezes [6, 9, 60] 1001 rfl ⟨rfl, rfl, rfl, trivial⟩ rfl <| rt ?_
   cases h; exact Zg Tryz.results300 rfl (Za rfl)
  | cons x15 l14 =>
   unfold Zc4 at h
   refine SR <| Ac (Zi rfl rfl (vt rfl) (vt rfl)) rfl <| Nl <| sq <| Cn rfl (fun hc => ?_) (fun hc => absurd hsf1.cons (of_decide_eq_false hc))
   have hlti13 := of_decide_eq_true hc
   refine sk <| sq <| bk <| SR <| Ac (Z0w rfl rfl Z14 (vt rfl) (vt rfl) hsf1.lget) rfl <| Lp1 Zo rfl <| As rfl <| Nl <| sq ?_
   obtain ⟨x16, hx16, x17, hx17, x18, hx18, x19, hx19, h⟩ := bs4 h
   refine AR Zw (by kernel_rfl) <| Zv Z7p Z8g rfl <| Zl Z90 8 rfl <| SMd rfl <| Sd (lo [43, 44] [] rfl fun S hs hr => Z0w rfl rfl Z5g (vh hs 43 rfl rfl) (vh hs 44 rfl rfl) hx16) <| SFp Zcm Zge rfl <| SLp Z3o rfl <| Sd (lo [47] [] rfl fun S hs hr => Z13 (xs := [.const (Value.slice none 0 0), .tmp 47]) (Zmq _ _ _ hx17) Zmz rfl rfl ⟨Z1h, vt ((hs 47 rfl).trans rfl), trivial⟩) <| SCl [48] (Zn6 _ _ hx18) Zp7 rfl <| Zl Z0f 6 rfl <| SCl [49, 50] (Y22 _ _ _ hx19) Zul rfl <| Sd (lo [51] [] rfl fun S hs hr => Zu (A := Z1d (rd (Z1 Z0a) x19.1) (rd (Z3 24 Z4) x19.2)) rfl rfl (vh hs 51 rfl rfl)) <| Sd (lo [41] [] rfl fun S hs hr => Z1m rfl rfl (vh hs 41 rfl rfl)) <| Sd (lo [41] [] rfl fun S hs hr => Z1l rfl rfl (vh hs 41 rfl rfl)) <| Sd (Z1o (us := [(13, Z43 101 (Z3 24 Z4) (Vector.replicate 24 zTern))]) (ur := []) [] [] rfl fun S hs hr => Zcv rfl rfl rfl Z77) <| SAs rfl <| Sd (Z1o (us := [(13, Z43 101 (Z3 24 Z4) x19.2)]) (ur := []) [13, 53] [] rfl fun S hs hr => Zcj rfl rfl Z0f ((hs 13 rfl).trans rfl) (vh hs 53 rfl rfl)) <| Sn <| AW.unpackP 13 14 rfl rfl fun g20 => ?_
   obtain ⟨x21, hx21, l22, hl22, h⟩ := bs2 h
   refine Rg <| Mw rfl <| Ld Zxm 4 rfl <| Md rfl <| Cl [55, 56] (hR_norm_world_list _ _ _ hx21) Y2a rfl <| Cv rfl (Z4e 1001 hl22 rfl rfl Zgw (vt rfl) rfl (vt rfl)) fun v23 => Aw rfl <| Nl <| Rg <| Ac (Z0s (t := 36) rfl rfl (vt rfl) (vk rfl) (vt rfl) hlti13) rfl <| Md rfl <| Nl ?_
   exact ⟨(_, _, _, _), Nat.lt_succ_self _, ⟨hsf1.next, h⟩, FX rfl⟩
def Z33 : Nat → (norm_world → (List Atom) → Option (List Atom)) × (norm_world → Int → Zk → Option (List Atom))
 | 0 => ((fun _ _ => none), (fun _ _ _ => none))
 | n + 1 => ((Zdt (Z33 n).1 (Z33 n).2), (Zer (Z33 n).1 (Z33 n).2))
theorem Y4q : ∀ n : Nat, (∀ (w1 : norm_world) (a2 : (List Atom)) (r : (List Atom)), (Z33 n).1 w1 a2 = some r → PCon Tryz.prog 255 [rd Z45 w1, rd (Z1 Z0a) a2] (rd (Z1 Z0a) r)) ∧ (∀ (w1 : norm_world) (i2 : Int) (x3 : Zk) (r : (List Atom)), (Z33 n).2 w1 i2 x3 = some r → PCon Tryz.prog 300 [rd Z45 w1, rd (Z0 .i64) i2, rd (Z3 24 Z4) x3] (rd (Z1 Z0a) r))
 | 0 => ⟨(by intros; rename_i h; cases h), (by intros; rename_i h; cases h)⟩
 | n + 1 => by
  have ih := Y4q n
  exact ⟨(Y6p (Z33 n).1 ih.1 (Z33 n).2 ih.2), (Yhm (Z33 n).1 ih.1 (Z33 n).2 ih.2)⟩
def Zu7 (w1 : norm_world) (a2 : (List Atom)) : Option (List Atom) := (Z33 Z0k).1 w1 a2
theorem Yd9 : ∀ (w1 : norm_world) (a2 : (List Atom)) (r : (List Atom)), Zu7 w1 a2 = some r → PCon Tryz.prog 255 [rd Z45 w1, rd (Z1 Z0a) a2] (rd (Z1 Z0a) r) := (Y4q Z0k).1
def Zh0 (l1 : (List Group)) (x2 : Env) (a3 : (List Atom)) : Option (List Atom) :=
 (Zu7 (⟨x2, l1, 0⟩ : norm_world) a3).bind fun x5 => some x5
theorem Yj3 : Q3 Tryz.prog 195 (rd (Z1 Zz)) (rd Z0q) (rd (Z1 Z0a)) (rd (Z1 Z0a)) Zh0 := fun l1 x2 a3 r h => I0 Tryz.func195 rfl Tryz.ntmps195 rfl fun w H => by
 unfold Zh0 at h
 refine SR <| Cv rfl (Zm 5 rfl rfl (vt rfl)) fun g4 => Ac (Zy (A := rd (Z1 Z0a) []) rfl rfl Z1h) rfl <| Nl <| sq ?_
 obtain ⟨x5, hx5, h⟩ := Z8 h
 refine Rg <| Ld Z4n 5 rfl <| Md rfl <| Ac (opb (⟨x2, l1, 0⟩ : norm_world) Yjz rfl Yg9 (pc Yno (vt rfl) <| pc Ykh (vt rfl) <| pn rfl)) rfl <| Md rfl <| Cl [9, 10] (Yd9 _ _ _ hx5) Y2a rfl <| As rfl <| Nl <| rt ?_
 cases h; exact Zg Tryz.results195 rfl (Za rfl)
def Zj8 (b1 : spread_beam) (x2 : Zk) : Option spread_beam :=
 (Zhk b1.got x2).bind fun x6 => some (⟨b1.cube, x6⟩ : spread_beam)
theorem Ymr : Q2 Tryz.prog 253 (rd Z2u) (rd (Z3 24 Z4)) (rd Z2u) Zj8 := fun b1 x2 r h => I0 Tryz.func253 rfl Tryz.ntmps253 rfl fun w H => by
 unfold Zj8 at h
 refine SR <| Cv rfl (Zm 3 rfl rfl (vt rfl)) fun g3 => Cv rfl (Zm 4 rfl rfl (vt rfl)) fun g4 => Cv rfl (Zp 5 rfl rfl Zdp) fun g5 => Nl <| sq ?_
 obtain ⟨x6, hx6, h⟩ := Z8 h
 refine AR Zw (by kernel_rfl) <| Zv lspread_beam_0 Zk3 rfl <| Zl Z00 3 rfl <| Zv lspread_beam_1 Zf0 rfl <| Zl Z0f 3 rfl <| Zl Z0f 4 rfl <| SCl [8, 9] (Y5h _ _ _ hx6) Y16 rfl <| Sd (lo [6, 10] [] rfl fun S hs hr => opb (⟨b1.cube, x6⟩ : spread_beam) Zdp rfl Ztu (pc Y0p (vh hs 6 rfl rfl) <| pc Y2x (vh hs 10 rfl rfl) <| pn rfl)) <| SSt Z6h 5 rfl <| Sn <| rt ?_
 cases h; exact Zg Tryz.results253 rfl (Z01 rfl (i := 5) rfl Z6h)
def Zno (n1 : Net) (a2 : Int) : Option Bool :=
 some ((decide (a2 ≥ 0)) && (decide (a2 < (n1.Switches.length : Int))))
theorem Yce : Q2 Tryz.prog 131 (rd Z28) (rd (Z0 .i64)) (rd Z5) Zno := fun n1 a2 r h => I0 Tryz.func131 rfl Tryz.ntmps131 rfl fun w H => by
 unfold Zno at h
 refine SR <| Cv rfl (Zm 3 rfl rfl (vt rfl)) fun g3 => Ab rfl <| Nl <| SR <| Md rfl <| Ac (Z3r rfl rfl (vt rfl) (vk rfl)) rfl <| Md rfl <| Gd rfl (fun hq => Zu (A := rd (Z0 .i64) a2) rfl rfl (vt rfl)) <| Gd rfl (fun hq => Z2p lNet_0 rfl rfl Zes (vt rfl)) <| Gd rfl (fun hq => Z1x rfl rfl Zcz (Zs rfl hq) (i := 3) rfl) <| Gd rfl (fun hq => Z0t rfl rfl Z8i (Zs rfl hq)) <| Gd rfl (fun hq => Zi rfl rfl (Zs rfl hq) (Zs rfl hq)) <| Ac (Z26 rfl rfl (vt rfl) (vt rfl)) rfl <| As rfl <| Nl <| rt ?_
 cases h; exact Zg Tryz.results131 rfl (Za rfl)
def Zh9 (l1 : Link) (x2 : Int) (x3 : Int) (x4 : Net) : Option Bool :=
 (opt ((decide (l1.From = x2)) && (decide (l1.Out = x3))) (Zno x4 l1.To)).bind fun x6 => some (((decide (l1.From = x2)) && (decide (l1.Out = x3))) && x6)
theorem Ymu : Q4 Tryz.prog 130 (rd Z36) (rp (Z0 .i64)) (rp (Z0 .i64)) (rp Z28) (rd Z5) Zh9 := fun l1 x2 x3 x4 r h => I0 Tryz.func130 rfl Tryz.ntmps130 rfl fun w H => by
 unfold Zh9 at h
 refine SR <| Cv rfl (Zm 5 rfl rfl (vt rfl)) fun g5 => Ab rfl <| Nl <| sq ?_
 obtain ⟨x6, hx6, h⟩ := Z8 h
 refine Rg <| Zf lLink_0 Y5z rfl <| Ld Zo 5 rfl <| Lp1 Zo rfl <| Ac (Z21 rfl rfl (vt rfl) (vt rfl)) rfl <| Md rfl <| Gd rfl (fun hq => Z2p lLink_1 rfl rfl Ym2 (vt rfl)) <| Gd rfl (fun hq => Z1x rfl rfl Zo (Zs rfl hq) (i := 5) rfl) <| Gd rfl (fun hq => Zfa rfl rfl Zo (vt rfl)) <| Gd rfl (fun hq => Z21 rfl rfl (Zs rfl hq) (Zs rfl hq)) <| Ac (Z26 rfl rfl (vt rfl) (vt rfl)) rfl <| Md rfl <| Gd rfl (fun hq => Zfa rfl rfl Z65 (vt rfl)) <| Gd rfl (fun hq => Z2p lLink_2 rfl rfl Y2h (vt rfl)) <| Gd rfl (fun hq => Z1x rfl rfl Zo (Zs rfl hq) (i := 5) rfl) <| Gd rfl (fun hq => Z13 (xs := [.tmp 17, .tmp 19]) (Yce _ _ _ (Z4m hx6 hq)) Yc6 rfl rfl ⟨Zs rfl hq, Zs rfl hq, trivial⟩) <| Ac (Z26 rfl rfl (vt rfl) (vt rfl)) rfl <| As rfl <| Nl <| rt ?_
 cases h; exact Zg Tryz.results130 rfl (Za rfl)
def Zea (s1 : (List Link)) (x2 : (Link → Option Bool)) : Nat → Nat → Option Int
 | 0, i3 => some (-1)
 | m4 + 1, i3 => (lget s1 (i3 : Int)).bind fun x5 => (x2 x5).bind fun x6 => (bif x6 then some (i3 : Int) else (Zea s1 x2 m4) (i3 + 1))
def Zkt (s1 : (List Link)) (x2 : (Link → Option Bool)) : Option Int :=
 Zea s1 x2 ((s1.length : Int) : Int).toNat 0
theorem Yki : Q2 Tryz.prog 129 (rd (Z1 Z36)) (fn1 Tryz.prog Z36 Z5) (rd (Z0 .i64)) Zkt := fun s1 x2 r h => I0 Tryz.func129 rfl Tryz.ntmps129 rfl fun w H => by
 unfold Zkt at h
 refine SR <| Ak rfl <| Nl <| sq <| SR <| Md rfl <| Ac (Z0t rfl rfl Zhp (vt rfl)) rfl <| Mk rfl <| Nl <| bk <| LG (d := []) (ν := Nat × Nat) (fun (m4, i3) => (Cnt (s1.length : Int) i3 m4 ∧ Zea s1 x2 m4 i3 = some r, m4, [(0, rd (Z1 Z36) s1), (1, fn1 Tryz.prog Z36 Z5 x2), (7, rd (Z0 .i64) (s1.length : Int)), (8, rd (Z0 .i64) (i3 : Int))], [])) (((s1.length : Int) : Int).toNat, 0) ⟨Cnt.start _, h⟩ (FX rfl) ?_
 rintro ⟨m4, i3⟩ ⟨hsf1, h⟩
 dsimp only at hsf1 h ⊢
 cases m4 with
 | zero =>
  unfold Zea at h
  refine SR <| Ac (Zi rfl rfl (vt rfl) (vt rfl)) rfl <| Nl <| sq <| Cn rfl (fun hc => absurd (of_decide_eq_true hc) hsf1.zero) (fun hc => ?_)
  refine xt <| SR <| Ak rfl <| Nl <| rt ?_
  cases h; exact Zg Tryz.results129 rfl (Za rfl)
 | succ m4 =>
  unfold Zea at h
  refine SR <| Ac (Zi rfl rfl (vt rfl) (vt rfl)) rfl <| Nl <| sq <| Cn rfl (fun hc => ?_) (fun hc => absurd hsf1.succ (of_decide_eq_false hc))
  have hlti3 := of_decide_eq_true hc
  refine sk <| sq <| bk <| SR <| Md rfl <| As rfl <| Nl <| sq ?_
  obtain ⟨x5, hx5, x6, hx6, h⟩ := bs2 h
  refine Rg <| Ac (Zu (A := fn1 Tryz.prog Z36 Z5 x2) rfl rfl (vt rfl)) rfl <| Md rfl <| Md rfl <| Ac (Z0w rfl rfl Zhp (vt rfl) (vt rfl) hx5) rfl <| Lp1 Yn5 rfl <| Ac (Z8b hx6 rfl rfl (vt rfl) (vt rfl)) rfl <| Nl <| Cq rfl h (fun h => ?_) (fun h => ?_)
  ·refine SR <| Md rfl <| As rfl <| Nl <| rt ?_
   cases h; exact Zg Tryz.results129 rfl (Za rfl)
  ·refine sk <| Rg <| Ac (Z0s (t := 7) rfl rfl (vt rfl) (vk rfl) (vt rfl) hlti3) rfl <| Md rfl <| Nl ?_
   exact ⟨(_, _), Nat.lt_succ_self _, ⟨hsf1.next, h⟩, FX rfl⟩
def Zcd (n1 : Net) (a2 : Int) (p3 : Int) : Option (Int × Int × Bool) :=
 (Zkt n1.Links (fun x => Zh9 x a2 p3 n1)).bind fun x7 => (bif (decide (x7 < 0)) then some (0, 0, false) else (lget n1.Links x7).bind fun x8 => (lget n1.Links x7).bind fun x9 => some (x8.To, x9.In, true))
theorem Zty : Q3 Tryz.prog 72 (rd Z28) (rd (Z0 .i64)) (rd (Z0 .i64)) (fun r => Z3f (rd (Z0 .i64) r.1) (rd (Z0 .i64) r.2.1) (rd Z5 r.2.2)) Zcd := fun n1 a2 p3 r h => I0 Tryz.func72 rfl Tryz.ntmps72 rfl fun w H => by
 unfold Zcd at h
 refine SR <| Cv rfl (Zm 4 rfl rfl (vt rfl)) fun g4 => Cv rfl (Zm 5 rfl rfl (vt rfl)) fun g5 => Cv rfl (Zm 6 rfl rfl (vt rfl)) fun g6 => Ak rfl <| Ak rfl <| Ab rfl <| Nl <| sq <| AW.freezeB 4 5 rfl rfl rfl <| AW.freezeB 5 6 rfl rfl rfl <| AW.freezeB 3 4 rfl rfl rfl ?_
 obtain ⟨x7, hx7, h⟩ := Z8 h
 refine Rg <| Fp lNet_1 Zoz rfl <| Lp1 Zo3 rfl <| Ac (Z7v (cs := [.tmp 4, .tmp 5, .tmp 3]) (CAs := [rp (Z0 .i64) a2, rp (Z0 .i64) p3, rp Z28 n1]) (fun x => Zh9 x a2 p3 n1) rfl rfl Ymt ⟨vt rfl, vt rfl, vt rfl, trivial⟩ (fun x y h => Ymu _ _ _ _ y h)) rfl <| Cl [11, 12] (Yki _ _ _ hx7) Ycu rfl <| As rfl <| Nl <| sq <| SR <| Md rfl <| Ac (Zi rfl rfl (vt rfl) (vk rfl)) rfl <| Nl <| Cq rfl h (fun h => ?_) (fun h => ?_)
 ·refine SR <| Ak rfl <| Ak rfl <| Ab rfl <| Nl <| rt ?_
  cases h; exact Zfm Tryz.results72 rfl (Za rfl) (Za rfl) (Za rfl)
 ·refine sk <| sq ?_
  obtain ⟨x8, hx8, x9, hx9, h⟩ := bs2 h
  refine AR Zw (by kernel_rfl) <| SFp lNet_1 Zoz rfl <| SLp Zo3 rfl <| SMd rfl <| Sd (lo [17, 18] [] rfl fun S hs hr => Z0w rfl rfl Zhp (vh hs 17 rfl rfl) (vh hs 18 rfl rfl) hx8) <| SFp lLink_2 Y2h rfl <| SLp Zo rfl <| SFp lNet_1 Zoz rfl <| SLp Zo3 rfl <| SMd rfl <| Sd (lo [23, 24] [] rfl fun S hs hr => Z0w rfl rfl Zhp (vh hs 23 rfl rfl) (vh hs 24 rfl rfl) hx9) <| SFp lLink_3 Y91 rfl <| SLp Zo rfl <| SAs rfl <| SAs rfl <| Sd (lo [] [] rfl fun S hs hr => Zy (A := rd Z5 true) rfl rfl vb) <| Sn <| rt ?_
  cases h; exact Zfm Tryz.results72 rfl (Za rfl) (Za rfl) (Za rfl)
end Go.Proofs.YtknpgojdkobgjaaGreat.W
set_option maxRecDepth 4000
namespace Go.Proofs.YtknpgojdkobgjaaGreat.W
open Go Go.Wb
theorem Y6r : Ent Tryz.prog 193 := Ent.mk Tryz.func193 rfl rfl
theorem Ydh : Ent Tryz.prog 195 := Ent.mk Tryz.func195 rfl rfl
theorem Yn2 : Ent Tryz.prog 194 := Ent.mk Tryz.func194 rfl rfl
theorem Ye8 : Ent Tryz.prog 253 := Ent.mk Tryz.func253 rfl rfl
theorem e72 : Ent Tryz.prog 72 := Ent.mk Tryz.func72 rfl rfl
theorem Y4g : Ent Tryz.prog 125 := Ent.mk Tryz.func125 rfl rfl
theorem Yie : Ent Tryz.prog 124 := Ent.mk Tryz.func124 rfl rfl
theorem Zvv : Ent Tryz.prog 120 := Ent.mk Tryz.func120 rfl rfl
theorem e68 : Ent Tryz.prog 68 := Ent.mk Tryz.func68 rfl rfl
theorem e64 : Ent Tryz.prog 64 := Ent.mk Tryz.func64 rfl rfl
theorem e62 : Ent Tryz.prog 62 := Ent.mk Tryz.func62 rfl rfl
theorem e66 : Ent Tryz.prog 66 := Ent.mk Tryz.func66 rfl rfl
theorem Ycr : Ent Tryz.prog 190 := Ent.mk Tryz.func190 rfl rfl
theorem Yem : Ent Tryz.prog 198 := Ent.mk Tryz.func198 rfl rfl
def Zaq (go1 : Nat → (List Ray) → Net → Env → (List spread_table) → Int → Option Z0d) (i24 : Nat) (b5 : spread_beam) (x10 : spread_table) (R_spread_sun_out : (Z0d → Int → spread_beam → (List Atom) → Int → Option Z0d)) (a4 : Int) (x6 : Int) : (List Zk) → Nat → (List Ray) → Net → Env → (List spread_table) → Int → Option Z0d
 | [], i39, l33, b35, b36, b37, b38 => go1 (i24 + 1) l33 b35 b36 b37 b38
 | x41 :: l40, i39, l33, b35, b36, b37, b38 => (bif (decide ((l33.length : Int) > b38)) then some (⟨b35, b36, b37, b38, l33⟩ : Z0d) else (Zhq b5 x41).bind fun x43 => (bif (!x43.2) then (Zaq go1 i24 b5 x10 R_spread_sun_out a4 x6 l40) (i39 + 1) l33 b35 b36 b37 b38 else (lget x10.Flat.Rules (i24 : Int)).bind fun x45 => (Zh0 x10.Flat.Groups b36 x45.Atoms).bind fun x46 => (R_spread_sun_out (⟨b35, b36, b37, b38, l33⟩ : Z0d) a4 x43.1 x46 x6).bind fun b47 => (Zaq go1 i24 b5 x10 R_spread_sun_out a4 x6 l40) (i39 + 1) b47.rays b47.Net b47.env b47.tables b47.most))
def Z96 (b5 : spread_beam) (x10 : spread_table) (R_spread_sun_out : (Z0d → Int → spread_beam → (List Atom) → Int → Option Z0d)) (a4 : Int) (x6 : Int) : (List (List Zk)) → Nat → (List Ray) → Net → Env → (List spread_table) → Int → Option Z0d
 | [], i24, l18, b20, b21, b22, b23 => some (⟨b20, b21, b22, b23, l18⟩ : Z0d)
 | x26 :: l25, i24, l18, b20, b21, b22, b23 => Zaq (Z96 b5 x10 R_spread_sun_out a4 x6 l25) i24 b5 x10 R_spread_sun_out a4 x6 x26 0 l18 b20 b21 b22 b23
def Zko (R_spread_sun_on : (Z0d → Int → spread_beam → Int → Option Z0d)) (R_spread_sun_out : (Z0d → Int → spread_beam → (List Atom) → Int → Option Z0d)) (s1 : Z0d) (a4 : Int) (b5 : spread_beam) (x6 : Int) : Option Z0d :=
 (bif (decide (x6 = 0)) then (Z1a s1.rays [(⟨a4, 0, 0, false, b5.cube, b5.got⟩ : Ray)]).bind fun l8 => some (⟨s1.Net, s1.env, s1.tables, s1.most, l8⟩ : Z0d) else (lget s1.tables a4).bind fun x10 => Z96 b5 x10 R_spread_sun_out a4 x6 x10.cubes 0 s1.rays s1.Net s1.env s1.tables s1.most)
theorem Ymk (R_spread_sun_on : (Z0d → Int → spread_beam → Int → Option Z0d)) (hR_spread_sun_on : ∀ (g2 gT : Nat) (s1 : Z0d) (a4 : Int) (b5 : spread_beam) (x6 : Int) (r : Z0d), R_spread_sun_on s1 a4 b5 x6 = some r → Con Tryz.prog 125 [Z7 g2 (Lens.id Z17), rd (Z0 .i64) a4, rd Z2u b5, rd (Z0 .i64) x6] (Zx g2 gT Z17 (fun v => (⟨s1.Net, s1.env, s1.tables, s1.most, v⟩ : spread_sun_o4)) 103 Z0z s1.rays) (fun _ : Unit => top) (fun _ => Zx g2 gT Z17 (fun v => (⟨r.Net, r.env, r.tables, r.most, v⟩ : spread_sun_o4)) 103 Z0z r.rays)) (R_spread_sun_out : (Z0d → Int → spread_beam → (List Atom) → Int → Option Z0d)) (hR_spread_sun_out : ∀ (g2 gT : Nat) (s1 : Z0d) (a4 : Int) (b5 : spread_beam) (l6 : (List Atom)) (x7 : Int) (r : Z0d), R_spread_sun_out s1 a4 b5 l6 x7 = some r → Con Tryz.prog 194 [Z7 g2 (Lens.id Z17), rd (Z0 .i64) a4, rd Z2u b5, rd (Z1 Z0a) l6, rd (Z0 .i64) x7] (Zx g2 gT Z17 (fun v => (⟨s1.Net, s1.env, s1.tables, s1.most, v⟩ : spread_sun_o4)) 103 Z0z s1.rays) (fun _ : Unit => top) (fun _ => Zx g2 gT Z17 (fun v => (⟨r.Net, r.env, r.tables, r.most, v⟩ : spread_sun_o4)) 103 Z0z r.rays)) (g2 gT : Nat) (s1 : Z0d) (a4 : Int) (b5 : spread_beam) (x6 : Int) (r : Z0d) (h : Zko R_spread_sun_on R_spread_sun_out s1 a4 b5 x6 = some r) : Con Tryz.prog 125 [Z7 g2 (Lens.id Z17), rd (Z0 .i64) a4, rd Z2u b5, rd (Z0 .i64) x6] (Zx g2 gT Z17 (fun v => (⟨s1.Net, s1.env, s1.tables, s1.most, v⟩ : spread_sun_o4)) 103 Z0z s1.rays) (fun _ : Unit => top) (fun _ => Zx g2 gT Z17 (fun v => (⟨r.Net, r.env, r.tables, r.most, v⟩ : spread_sun_o4)) 103 Z0z r.rays) := by
 refine Con.intro Tryz.func125 rfl Tryz.ntmps125 rfl fun w H X => ?_
 unfold Zko at h
 refine AW.unboxF 0 2004 (by decide) rfl rfl fun v3 => SR <| Cv rfl (Zm 7 rfl rfl (vt rfl)) fun g7 => Nl <| sq <| SR <| Md rfl <| Ac (Z21 rfl rfl (vt rfl) (vk rfl)) rfl <| Nl <| Cq rfl h (fun h => ?_) (fun h => ?_)
 ·refine sq ?_
  obtain ⟨l8, hl8, h⟩ := Z8 h
  refine AR Zw (by kernel_rfl) <| SMp rfl <| SMp rfl <| SNc rfl <| Zv Z7w Zbb rfl <| Sd (lo [20] [0] rfl fun S hs hr => Z3m v3 rfl rfl Zah (vh hs 20 rfl rfl) (i := 0) ((hr 0 rfl).trans rfl) rfl) <| SMd rfl <| Zv lspread_beam_0 Zk3 rfl <| Zl Z00 7 rfl <| Zv lspread_beam_1 Zf0 rfl <| Zl Z0f 7 rfl <| Sd (lo [22, 24, 26] [] rfl fun S hs hr => opb (⟨a4, 0, 0, false, b5.cube, b5.got⟩ : Ray) Zlo rfl Y1s (pc Y3r (vh hs 22 rfl rfl) <| pc Zw7 (vh hs 24 rfl rfl) <| pc Y3b (vh hs 26 rfl rfl) <| pn rfl)) <| Sd (lo [27] [] rfl fun S hs hr => osl Z88 Zlo rfl (vh hs 27 rfl rfl)) <| Sd (Z1o (us := [(29, Z2n 103 Z0z l8)]) (ur := [(2004, emp)]) [21, 28] [2004] rfl fun S hs hr => Z8p 2004 hl8 rfl rfl rfl Zwi (vh hs 21 rfl rfl) ((hr 2004 rfl).trans rfl) (vh hs 28 rfl rfl)) <| SNc rfl <| Zv Z7w Zbb rfl <| Sd (Z1o (us := [(29, top)]) (ur := [(0, Zx g2 gT Z17 (fun v => ((Lens.comp (Lens.id Z17) Z7w)).set (⟨s1.Net, s1.env, s1.tables, s1.most, v3⟩ : spread_sun_o4) v) 103 Z0z l8)]) [31, 29] [0] rfl fun S hs hr => Zbm rfl rfl Zah (vh hs 31 rfl rfl) ((hr 0 rfl).trans rfl) ((hs 29 rfl).trans rfl)) <| Sn <| AW.unboxF 0 2004 (by decide) rfl rfl fun v9 => rt ?_
  cases h; exact RetOK.turn (Turn.packF 0 2004 (fun v => (⟨s1.Net, s1.env, s1.tables, s1.most, v⟩ : spread_sun_o4)) (by decide) rfl rfl) (Z1j (i := 0) Tryz.results125 rfl rfl)
 ·refine sk <| sq ?_
  obtain ⟨x10, hx10, h⟩ := Z8 h
  refine Rg <| Mp rfl <| Nc rfl <| Zf lspread_sun_o4_2 Ycx rfl <| Ld Yey 0 rfl <| Md rfl <| Ac (Z0w rfl rfl Zw0 (vt rfl) (vt rfl) hx10) rfl <| Lp1 Y3i rfl <| Cv rfl (Zp 9 rfl rfl Zse) fun g11 => Zh Y3i 9 rfl <| Nl <| SR <| Zf lspread_table_1 Ybk rfl <| Ld Ynd 9 rfl <| Ac (Z0t rfl rfl Zt7 (vt rfl)) rfl <| Mk rfl <| Nl <| bk <| LG (d := []) (ν := (List (List Zk)) × Nat × (List Ray) × Net × Env × (List spread_table) × Int × Value) (fun (l25, i24, l18, b20, b21, b22, b23, v19) => (Sfx x10.cubes i24 l25 ∧ Z96 b5 x10 R_spread_sun_out a4 x6 l25 i24 l18 b20 b21 b22 b23 = some r, l25.length, [(0, Z7 g2 (Lens.id Z17)), (1, rd (Z0 .i64) a4), (3, rd (Z0 .i64) x6), (6, Z7 g7 (Lens.id Z2u)), (8, Z7 g11 (Lens.id Z2i)), (40, rd (Z1 (Z1 (Z3 24 Z4))) x10.cubes), (41, rd (Z0 .i64) (x10.cubes.length : Int)), (42, rd (Z0 .i64) (i24 : Int))], [(0, Zc g2 gT Z17 (⟨b20, b21, b22, b23, v19⟩ : spread_sun_o4)), (7, Zc g7 189 Z2u b5), (9, Zc g11 252 Z2i x10), (2004, Zb v19 103 Z0z l18)])) (x10.cubes, 0, s1.rays, s1.Net, s1.env, s1.tables, s1.most, v3) ⟨Sfx.start _, h⟩ (FX rfl) ?_
  rintro ⟨l25, i24, l18, b20, b21, b22, b23, v19⟩ ⟨hsf1, h⟩
  dsimp only at hsf1 h ⊢
  cases l25 with
  | nil =>
   unfold Z96 at h
   refine SR <| Ac (Zi rfl rfl (vt rfl) (vt rfl)) rfl <| Nl <| sq <| Cn rfl (fun hc => absurd (of_decide_eq_true hc) hsf1.nil) (fun hc => ?_)
   refine xt ?_
   cases h; exact RetOK.turn (Turn.packF 0 2004 (fun v => (⟨b20, b21, b22, b23, v⟩ : spread_sun_o4)) (by decide) rfl rfl) (Z1j (i := 0) Tryz.results125 rfl rfl)
  | cons x26 l25 =>
   unfold Z96 at h
   refine SR <| Ac (Zi rfl rfl (vt rfl) (vt rfl)) rfl <| Nl <| sq <| Cn rfl (fun hc => ?_) (fun hc => absurd hsf1.cons (of_decide_eq_false hc))
   have hlti24 := of_decide_eq_true hc
   refine sk <| sq <| bk <| SR <| Md rfl <| Ac (Z0w rfl rfl Zt7 (vt rfl) (vt rfl) hsf1.lget) rfl <| Lp1 Zor rfl <| As rfl <| As rfl <| Nl <| AW.scope <| sq <| AW.label <| SR <| Md rfl <| Ac (Z0t rfl rfl Z7j (vt rfl)) rfl <| Mk rfl <| Nl <| bk <| LG (d := []) (ν := (List Zk) × Nat × (List Ray) × Net × Env × (List spread_table) × Int × Value) (fun (l40, i39, l33, b35, b36, b37, b38, v34) => (Sfx x26 i39 l40 ∧ Zaq (Z96 b5 x10 R_spread_sun_out a4 x6 l25) i24 b5 x10 R_spread_sun_out a4 x6 l40 i39 l33 b35 b36 b37 b38 = some r, l40.length, [(0, Z7 g2 (Lens.id Z17)), (1, rd (Z0 .i64) a4), (3, rd (Z0 .i64) x6), (6, Z7 g7 (Lens.id Z2u)), (8, Z7 g11 (Lens.id Z2i)), (9, rd (Z0 .i64) (i24 : Int)), (40, rd (Z1 (Z1 (Z3 24 Z4))) x10.cubes), (41, rd (Z0 .i64) (x10.cubes.length : Int)), (42, rd (Z0 .i64) (i24 : Int)), (47, rd (Z1 (Z3 24 Z4)) x26), (48, rd (Z0 .i64) (x26.length : Int)), (49, rd (Z0 .i64) (i39 : Int))], [(0, Zc g2 gT Z17 (⟨b35, b36, b37, b38, v34⟩ : spread_sun_o4)), (7, Zc g7 189 Z2u b5), (9, Zc g11 252 Z2i x10), (2004, Zb v34 103 Z0z l33)])) (x26, 0, l18, b20, b21, b22, b23, v19) ⟨Sfx.start _, h⟩ (FX rfl) ?_
   rintro ⟨l40, i39, l33, b35, b36, b37, b38, v34⟩ ⟨hsf2, h⟩
   dsimp only at hsf2 h ⊢
   cases l40 with
   | nil =>
    unfold Zaq at h
    refine SR <| Ac (Zi rfl rfl (vt rfl) (vt rfl)) rfl <| Nl <| sq <| Cn rfl (fun hc => absurd (of_decide_eq_true hc) hsf2.nil) (fun hc => ?_)
    refine xt <| Rg <| Ac (Z0s (t := 41) rfl rfl (vt rfl) (vk rfl) (vt rfl) hlti24) rfl <| Md rfl <| Nl ?_
    exact ⟨(_, _, _, _, _, _, _, _), Nat.lt_succ_self _, ⟨hsf1.next, h⟩, FX rfl⟩
   | cons x41 l40 =>
    unfold Zaq at h
    refine SR <| Ac (Zi rfl rfl (vt rfl) (vt rfl)) rfl <| Nl <| sq <| Cn rfl (fun hc => ?_) (fun hc => absurd hsf2.cons (of_decide_eq_false hc))
    have hlti39 := of_decide_eq_true hc
    refine sk <| sq <| bk <| SR <| Ac (Z0w rfl rfl Z7j (vt rfl) (vt rfl) hsf2.lget) rfl <| Lp1 Z00 rfl <| Cv rfl (Zp 13 rfl rfl Z2c) fun g42 => Zh Z00 13 rfl <| Nl <| sq <| sq <| AR Zw (by kernel_rfl) <| SMp rfl <| SNc rfl <| Zv Z7w Zbb rfl <| Sd (lo [55] [0] rfl fun S hs hr => Z3m v34 rfl rfl Zah (vh hs 55 rfl rfl) (i := 0) ((hr 0 rfl).trans rfl) rfl) <| Sd (lo [56] [2004] rfl fun S hs hr => Z7a 2004 rfl rfl Z88 (vh hs 56 rfl rfl) ((hr 2004 rfl).trans rfl)) <| SMp rfl <| SNc rfl <| Zv lspread_sun_o4_3 Zx1 rfl <| Zl Zo 0 rfl <| Sd (lo [57, 61] [] rfl fun S hs hr => Z3e rfl rfl (vh hs 57 rfl rfl) (vh hs 61 rfl rfl)) <| Sn <| Cq rfl h (fun h => ?_) (fun h => ?_)
    ·refine rt ?_
     cases h; exact RetOK.turn (Turn.packF 0 2004 (fun v => (⟨b35, b36, b37, b38, v⟩ : spread_sun_o4)) (by decide) rfl rfl) (Z1j (i := 0) Tryz.results125 rfl rfl)
    ·refine sk <| sq ?_
     obtain ⟨x43, hx43, h⟩ := Z8 h
     refine Rg <| Ld Z6h 7 rfl <| Ld Z00 13 rfl <| Cl [64, 65] (Ym7 _ _ _ hx43) Y6r rfl <| Mt2 rfl <| Ac (Z1m rfl rfl (vt rfl)) rfl <| Ac (Z1l rfl rfl (vt rfl)) rfl <| Cv rfl (Zp 14 rfl rfl Zdp) fun g44 => Zh Z6h 14 rfl <| As rfl <| Nl <| sq <| SR <| Md rfl <| Ac (Z0x rfl rfl (vt rfl)) rfl <| Nl <| Cq rfl h (fun h => ?_) (fun h => ?_)
     ·refine xt <| Rg <| Ac (Z0s (t := 48) rfl rfl (vt rfl) (vk rfl) (vt rfl) hlti39) rfl <| Md rfl <| Nl ?_
      exact ⟨(_, _, _, _, _, _, _, _), Nat.lt_succ_self _, ⟨hsf2.next, h⟩, FX rfl⟩
     ·refine sk <| AW.packF 0 2004 (fun v => (⟨b35, b36, b37, b38, v⟩ : spread_sun_o4)) (by decide) rfl rfl ?_
      obtain ⟨x45, hx45, x46, hx46, b47, hb47, h⟩ := bs3 h
      refine AR Zw (by kernel_rfl) <| SMp rfl <| SMd rfl <| Zl Z6h 14 rfl <| Zv lspread_table_0 Zyf rfl <| Zv lFlat_1 Y9i rfl <| Zl Zcn 9 rfl <| SMp rfl <| SNc rfl <| Zv lspread_sun_o4_1 Y6g rfl <| Sd (lo [79] [0] rfl fun S hs hr => Y6u rfl rfl Z4n (vh hs 79 rfl rfl) (i := 0) ((hr 0 rfl).trans rfl) (fun _ => rfl)) <| Zv lspread_table_0 Zyf rfl <| Zv lFlat_0 Ziy rfl <| Zl Zin 9 rfl <| SMd rfl <| Sd (lo [83, 84] [] rfl fun S hs hr => Z0w rfl rfl Z4x (vh hs 83 rfl rfl) (vh hs 84 rfl rfl) hx45) <| SFp lRule_1 Zry rfl <| SLp Zc5 rfl <| SCl [76, 80, 87] (Yj3 _ _ _ _ hx46) Ydh rfl <| SMd rfl <| Sd (Z1o (us := [(90, top)]) (ur := [(0, Zx g2 gT Z17 (fun v => (⟨b47.Net, b47.env, b47.tables, b47.most, v⟩ : spread_sun_o4)) 103 Z0z b47.rays)]) [71, 72, 73, 88, 89] [0] rfl fun S hs hr => Zrq 0 (xs := [.tmp 71, .tmp 72, .tmp 73, .tmp 88, .tmp 89]) (hR_spread_sun_out _ _ _ _ _ _ _ _ hb47) Yn2 rfl rfl ⟨vt ((hs 71 rfl).trans rfl), vt ((hs 72 rfl).trans rfl), vt ((hs 73 rfl).trans rfl), vt ((hs 88 rfl).trans rfl), vt ((hs 89 rfl).trans rfl), trivial⟩ ((hr 0 rfl).trans rfl)) <| Sn <| AW.unboxF 0 2004 (by decide) rfl rfl fun v48 => Rg <| Ac (Z0s (t := 48) rfl rfl (vt rfl) (vk rfl) (vt rfl) hlti39) rfl <| Md rfl <| Nl ?_
      exact ⟨(_, _, _, _, _, _, _, _), Nat.lt_succ_self _, ⟨hsf2.next, h⟩, FX rfl⟩
def Zap (b5 : spread_beam) (a4 : Int) (R_spread_sun_on : (Z0d → Int → spread_beam → Int → Option Z0d)) (x7 : Int) : (List Atom) → Nat → (List Ray) → Net → Env → (List spread_table) → Int → Option Z0d
 | [], i21, l15, b17, b18, b19, b20 => some (⟨b17, b18, b19, b20, l15⟩ : Z0d)
 | x23 :: l22, i21, l15, b17, b18, b19, b20 => (bif (decide ((l15.length : Int) > b20)) then some (⟨b17, b18, b19, b20, l15⟩ : Z0d) else (Zj8 b5 x23.Rewrite).bind fun x25 => (Zcd b17 a4 x23.Port).bind fun x27 => (bif (!x27.2.2) then (Z1a l15 [(⟨a4, x23.Port, x23.Max, true, x25.cube, x25.got⟩ : Ray)]).bind fun l28 => (Zap b5 a4 R_spread_sun_on x7 l22) (i21 + 1) l28 b17 b18 b19 b20 else (Z81 128).bind fun x30 => (Z6p x25.got 0 (⟨0, (BitVec.ofInt 64 x27.2.1)⟩ : Wide) x30).bind fun x31 => (R_spread_sun_on (⟨b17, b18, b19, b20, l15⟩ : Z0d) x27.1 { x25 with got := x31 } (IntKind.i64.wrap (x7 - 1))).bind fun b32 => (Zap b5 a4 R_spread_sun_on x7 l22) (i21 + 1) b32.rays b32.Net b32.env b32.tables b32.most))
def Zpv (R_spread_sun_on : (Z0d → Int → spread_beam → Int → Option Z0d)) (R_spread_sun_out : (Z0d → Int → spread_beam → (List Atom) → Int → Option Z0d)) (s1 : Z0d) (a4 : Int) (b5 : spread_beam) (l6 : (List Atom)) (x7 : Int) : Option Z0d :=
 Zap b5 a4 R_spread_sun_on x7 l6 0 s1.rays s1.Net s1.env s1.tables s1.most
theorem Y7i (R_spread_sun_on : (Z0d → Int → spread_beam → Int → Option Z0d)) (hR_spread_sun_on : ∀ (g2 gT : Nat) (s1 : Z0d) (a4 : Int) (b5 : spread_beam) (x6 : Int) (r : Z0d), R_spread_sun_on s1 a4 b5 x6 = some r → Con Tryz.prog 125 [Z7 g2 (Lens.id Z17), rd (Z0 .i64) a4, rd Z2u b5, rd (Z0 .i64) x6] (Zx g2 gT Z17 (fun v => (⟨s1.Net, s1.env, s1.tables, s1.most, v⟩ : spread_sun_o4)) 103 Z0z s1.rays) (fun _ : Unit => top) (fun _ => Zx g2 gT Z17 (fun v => (⟨r.Net, r.env, r.tables, r.most, v⟩ : spread_sun_o4)) 103 Z0z r.rays)) (R_spread_sun_out : (Z0d → Int → spread_beam → (List Atom) → Int → Option Z0d)) (hR_spread_sun_out : ∀ (g2 gT : Nat) (s1 : Z0d) (a4 : Int) (b5 : spread_beam) (l6 : (List Atom)) (x7 : Int) (r : Z0d), R_spread_sun_out s1 a4 b5 l6 x7 = some r → Con Tryz.prog 194 [Z7 g2 (Lens.id Z17), rd (Z0 .i64) a4, rd Z2u b5, rd (Z1 Z0a) l6, rd (Z0 .i64) x7] (Zx g2 gT Z17 (fun v => (⟨s1.Net, s1.env, s1.tables, s1.most, v⟩ : spread_sun_o4)) 103 Z0z s1.rays) (fun _ : Unit => top) (fun _ => Zx g2 gT Z17 (fun v => (⟨r.Net, r.env, r.tables, r.most, v⟩ : spread_sun_o4)) 103 Z0z r.rays)) (g2 gT : Nat) (s1 : Z0d) (a4 : Int) (b5 : spread_beam) (l6 : (List Atom)) (x7 : Int) (r : Z0d) (h : Zpv R_spread_sun_on R_spread_sun_out s1 a4 b5 l6 x7 = some r) : Con Tryz.prog 194 [Z7 g2 (Lens.id Z17), rd (Z0 .i64) a4, rd Z2u b5, rd (Z1 Z0a) l6, rd (Z0 .i64) x7] (Zx g2 gT Z17 (fun v => (⟨s1.Net, s1.env, s1.tables, s1.most, v⟩ : spread_sun_o4)) 103 Z0z s1.rays) (fun _ : Unit => top) (fun _ => Zx g2 gT Z17 (fun v => (⟨r.Net, r.env, r.tables, r.most, v⟩ : spread_sun_o4)) 103 Z0z r.rays) := by
 refine Con.intro Tryz.func194 rfl Tryz.ntmps194 rfl fun w H X => ?_
 unfold Zpv at h
 refine AW.unboxF 0 2004 (by decide) rfl rfl fun v3 => SR <| Cv rfl (Zm 8 rfl rfl (vt rfl)) fun g8 => Nl <| SR <| Md rfl <| Ac (Z0t rfl rfl Z7n (vt rfl)) rfl <| Mk rfl <| Nl <| bk <| LG (d := []) (ν := (List Atom) × Nat × (List Ray) × Net × Env × (List spread_table) × Int × Value) (fun (l22, i21, l15, b17, b18, b19, b20, v16) => (Sfx l6 i21 l22 ∧ Zap b5 a4 R_spread_sun_on x7 l22 i21 l15 b17 b18 b19 b20 = some r, l22.length, [(0, Z7 g2 (Lens.id Z17)), (1, rd (Z0 .i64) a4), (4, rd (Z0 .i64) x7), (7, Z7 g8 (Lens.id Z2u)), (16, rd (Z1 Z0a) l6), (17, rd (Z0 .i64) (l6.length : Int)), (18, rd (Z0 .i64) (i21 : Int))], [(0, Zc g2 gT Z17 (⟨b17, b18, b19, b20, v16⟩ : spread_sun_o4)), (8, Zc g8 189 Z2u b5), (2004, Zb v16 103 Z0z l15)])) (l6, 0, s1.rays, s1.Net, s1.env, s1.tables, s1.most, v3) ⟨Sfx.start _, h⟩ (FX rfl) ?_
 rintro ⟨l22, i21, l15, b17, b18, b19, b20, v16⟩ ⟨hsf1, h⟩
 dsimp only at hsf1 h ⊢
 cases l22 with
 | nil =>
  unfold Zap at h
  refine SR <| Ac (Zi rfl rfl (vt rfl) (vt rfl)) rfl <| Nl <| sq <| Cn rfl (fun hc => absurd (of_decide_eq_true hc) hsf1.nil) (fun hc => ?_)
  refine xt ?_
  cases h; exact RetOK.turn (Turn.packF 0 2004 (fun v => (⟨b17, b18, b19, b20, v⟩ : spread_sun_o4)) (by decide) rfl rfl) (Z1j (i := 0) Tryz.results194 rfl rfl)
 | cons x23 l22 =>
  unfold Zap at h
  refine SR <| Ac (Zi rfl rfl (vt rfl) (vt rfl)) rfl <| Nl <| sq <| Cn rfl (fun hc => ?_) (fun hc => absurd hsf1.cons (of_decide_eq_false hc))
  have hlti21 := of_decide_eq_true hc
  refine sk <| sq <| bk <| SR <| Ac (Z0w rfl rfl Z7n (vt rfl) (vt rfl) hsf1.lget) rfl <| Lp1 Zd2 rfl <| Cv rfl (Zp 12 rfl rfl Zd6) fun g24 => Zh Zd2 12 rfl <| Nl <| sq <| sq <| AR Zw (by kernel_rfl) <| SMp rfl <| SNc rfl <| Zv Z7w Zbb rfl <| Sd (lo [24] [0] rfl fun S hs hr => Z3m v16 rfl rfl Zah (vh hs 24 rfl rfl) (i := 0) ((hr 0 rfl).trans rfl) rfl) <| Sd (lo [25] [2004] rfl fun S hs hr => Z7a 2004 rfl rfl Z88 (vh hs 25 rfl rfl) ((hr 2004 rfl).trans rfl)) <| SMp rfl <| SNc rfl <| Zv lspread_sun_o4_3 Zx1 rfl <| Zl Zo 0 rfl <| Sd (lo [26, 30] [] rfl fun S hs hr => Z3e rfl rfl (vh hs 26 rfl rfl) (vh hs 30 rfl rfl)) <| Sn <| Cq rfl h (fun h => ?_) (fun h => ?_)
  ·refine rt ?_
   cases h; exact RetOK.turn (Turn.packF 0 2004 (fun v => (⟨b17, b18, b19, b20, v⟩ : spread_sun_o4)) (by decide) rfl rfl) (Z1j (i := 0) Tryz.results194 rfl rfl)
  ·refine sk <| sq ?_
   obtain ⟨x25, hx25, h⟩ := Z8 h
   refine Rg <| Ld Z6h 8 rfl <| Zf lAtom_0 Zn1 rfl <| Ld Z0f 12 rfl <| Cl [32, 34] (Ymr _ _ _ hx25) Ye8 rfl <| Cv rfl (Zp 13 rfl rfl Zdp) fun g26 => Zh Z6h 13 rfl <| Nl <| sq ?_
   obtain ⟨x27, hx27, h⟩ := Z8 h
   refine AR Zw (by kernel_rfl) <| SMp rfl <| SNc rfl <| Zv lspread_sun_o4_0 Yal rfl <| Zl Z65 0 rfl <| SMd rfl <| Zv Zfh Zjt rfl <| Zl Zo 12 rfl <| SCl [40, 41, 43] (Zty _ _ _ _ hx27) e72 rfl <| Sd (lo [44] [] rfl fun S hs hr => Zu (A := Z3f (rd (Z0 .i64) x27.1) (rd (Z0 .i64) x27.2.1) (rd Z5 x27.2.2)) rfl rfl (vh hs 44 rfl rfl)) <| Sd (lo [36] [] rfl fun S hs hr => Zd7 rfl rfl (vh hs 36 rfl rfl)) <| Sd (lo [36] [] rfl fun S hs hr => Zeh rfl rfl (vh hs 36 rfl rfl)) <| Sd (lo [36] [] rfl fun S hs hr => Zcs rfl rfl (vh hs 36 rfl rfl)) <| SAs rfl <| SAs rfl <| SAs rfl <| Sn <| sq <| SR <| Md rfl <| Ac (Z0x rfl rfl (vt rfl)) rfl <| Nl <| Cq rfl h (fun h => ?_) (fun h => ?_)
   ·refine sq ?_
    obtain ⟨l28, hl28, h⟩ := Z8 h
    refine AR Zw (by kernel_rfl) <| SMp rfl <| SMp rfl <| SNc rfl <| Zv Z7w Zbb rfl <| Sd (lo [53] [0] rfl fun S hs hr => Z3m v16 rfl rfl Zah (vh hs 53 rfl rfl) (i := 0) ((hr 0 rfl).trans rfl) rfl) <| SMd rfl <| Zv Zfh Zjt rfl <| Zl Zo 12 rfl <| Zv Zsv Y1q rfl <| Zl Zo 12 rfl <| Zv lspread_beam_0 Zk3 rfl <| Zl Z00 13 rfl <| Zv lspread_beam_1 Zf0 rfl <| Zl Z0f 13 rfl <| Sd (lo [55, 57, 59, 61, 63] [] rfl fun S hs hr => opb (⟨a4, x23.Port, x23.Max, true, x25.cube, x25.got⟩ : Ray) Zlo rfl Y1s (pc Y3r (vh hs 55 rfl rfl) <| pc Y6e (vh hs 57 rfl rfl) <| pc Yng (vh hs 59 rfl rfl) <| pc Y7j vb <| pc Zw7 (vh hs 61 rfl rfl) <| pc Y3b (vh hs 63 rfl rfl) <| pn rfl)) <| Sd (lo [64] [] rfl fun S hs hr => osl Z88 Zlo rfl (vh hs 64 rfl rfl)) <| Sd (Z1o (us := [(66, Z2n 103 Z0z l28)]) (ur := [(2004, emp)]) [54, 65] [2004] rfl fun S hs hr => Z8p 2004 hl28 rfl rfl rfl Zwi (vh hs 54 rfl rfl) ((hr 2004 rfl).trans rfl) (vh hs 65 rfl rfl)) <| SNc rfl <| Zv Z7w Zbb rfl <| Sd (Z1o (us := [(66, top)]) (ur := [(0, Zx g2 gT Z17 (fun v => ((Lens.comp (Lens.id Z17) Z7w)).set (⟨b17, b18, b19, b20, v16⟩ : spread_sun_o4) v) 103 Z0z l28)]) [68, 66] [0] rfl fun S hs hr => Zbm rfl rfl Zah (vh hs 68 rfl rfl) ((hr 0 rfl).trans rfl) ((hs 66 rfl).trans rfl)) <| Sn <| AW.unboxF 0 2004 (by decide) rfl rfl fun v29 => xt <| Rg <| Ac (Z0s (t := 17) rfl rfl (vt rfl) (vk rfl) (vt rfl) hlti21) rfl <| Md rfl <| Nl ?_
    exact ⟨(_, _, _, _, _, _, _, _), Nat.lt_succ_self _, ⟨hsf1.next, h⟩, FX rfl⟩
   ·refine sk <| sq ?_
    obtain ⟨x30, hx30, x31, hx31, h⟩ := bs2 h
    refine AR Zw (by kernel_rfl) <| Zv lspread_beam_1 Zf0 rfl <| Zl Z0f 13 rfl <| SMd rfl <| Sd (lo [71] [] rfl fun S hs hr => Z8r rfl rfl us3 Zzt (vh hs 71 rfl rfl)) <| Sd (lo [72] [] rfl fun S hs hr => opb (⟨0, (BitVec.ofInt 64 x27.2.1)⟩ : Wide) Z3q rfl Z7h (pc Z9k (vh hs 72 rfl rfl) <| pn rfl)) <| Sd (lo [] [] rfl fun S hs hr => Z13 (xs := [.const (Value.int IntKind.i64 128)]) (Znq _ _ hx30) Zou rfl rfl ⟨vk rfl, trivial⟩) <| Sd (lo [70, 73, 74] [] rfl fun S hs hr => Z13 (xs := [.tmp 70, .const (Value.int IntKind.i64 0), .tmp 73, .tmp 74]) (Zcu _ _ _ _ _ hx31) Zdj rfl rfl ⟨vt ((hs 70 rfl).trans rfl), vk rfl, vt ((hs 73 rfl).trans rfl), vt ((hs 74 rfl).trans rfl), trivial⟩) <| Zv lspread_beam_1 Zf0 rfl <| SSt Z0f 13 rfl <| Sn ?_
    obtain ⟨b32, hb32, h⟩ := Z8 h
    refine Rg <| Mp rfl <| Md rfl <| Ld Z6h 13 rfl <| Md rfl <| Ac (Z0u rfl rfl (vt rfl) (vk rfl)) rfl <| AOps.packF 0 2004 (fun v => (⟨b17, b18, b19, b20, v⟩ : spread_sun_o4)) (by decide) rfl rfl <| Cv rfl (Z10 0 (xs := [.tmp 77, .tmp 78, .tmp 79, .tmp 81]) (hR_spread_sun_on _ _ _ _ _ _ _ hb32) Y4g rfl rfl ⟨vt rfl, vt rfl, vt rfl, vt rfl, trivial⟩ rfl) fun _u => AOps.unboxF 0 2004 (by decide) rfl rfl fun v33 => Nl <| Rg <| Ac (Z0s (t := 17) rfl rfl (vt rfl) (vk rfl) (vt rfl) hlti21) rfl <| Md rfl <| Nl ?_
    exact ⟨(_, _, _, _, _, _, _, _), Nat.lt_succ_self _, ⟨hsf1.next, h⟩, FX rfl⟩
def Z5v : Nat → (Z0d → Int → spread_beam → Int → Option Z0d) × (Z0d → Int → spread_beam → (List Atom) → Int → Option Z0d)
 | 0 => ((fun _ _ _ _ => none), (fun _ _ _ _ _ => none))
 | n + 1 => ((Zko (Z5v n).1 (Z5v n).2), (Zpv (Z5v n).1 (Z5v n).2))
theorem Y0o : ∀ n : Nat, (∀ (g2 gT : Nat) (s1 : Z0d) (a4 : Int) (b5 : spread_beam) (x6 : Int) (r : Z0d), (Z5v n).1 s1 a4 b5 x6 = some r → Con Tryz.prog 125 [Z7 g2 (Lens.id Z17), rd (Z0 .i64) a4, rd Z2u b5, rd (Z0 .i64) x6] (Zx g2 gT Z17 (fun v => (⟨s1.Net, s1.env, s1.tables, s1.most, v⟩ : spread_sun_o4)) 103 Z0z s1.rays) (fun _ : Unit => top) (fun _ => Zx g2 gT Z17 (fun v => (⟨r.Net, r.env, r.tables, r.most, v⟩ : spread_sun_o4)) 103 Z0z r.rays)) ∧ (∀ (g2 gT : Nat) (s1 : Z0d) (a4 : Int) (b5 : spread_beam) (l6 : (List Atom)) (x7 : Int) (r : Z0d), (Z5v n).2 s1 a4 b5 l6 x7 = some r → Con Tryz.prog 194 [Z7 g2 (Lens.id Z17), rd (Z0 .i64) a4, rd Z2u b5, rd (Z1 Z0a) l6, rd (Z0 .i64) x7] (Zx g2 gT Z17 (fun v => (⟨s1.Net, s1.env, s1.tables, s1.most, v⟩ : spread_sun_o4)) 103 Z0z s1.rays) (fun _ : Unit => top) (fun _ => Zx g2 gT Z17 (fun v => (⟨r.Net, r.env, r.tables, r.most, v⟩ : spread_sun_o4)) 103 Z0z r.rays))
 | 0 => ⟨(by intros; rename_i h; cases h), (by intros; rename_i h; cases h)⟩
 | n + 1 => by
  have ih := Y0o n
  exact ⟨(Ymk (Z5v n).1 ih.1 (Z5v n).2 ih.2), (Y7i (Z5v n).1 ih.1 (Z5v n).2 ih.2)⟩
def Zva (s1 : Z0d) (a4 : Int) (b5 : spread_beam) (x6 : Int) : Option Z0d := (Z5v Z0k).1 s1 a4 b5 x6
theorem Y7n : ∀ (g2 gT : Nat) (s1 : Z0d) (a4 : Int) (b5 : spread_beam) (x6 : Int) (r : Z0d), Zva s1 a4 b5 x6 = some r → Con Tryz.prog 125 [Z7 g2 (Lens.id Z17), rd (Z0 .i64) a4, rd Z2u b5, rd (Z0 .i64) x6] (Zx g2 gT Z17 (fun v => (⟨s1.Net, s1.env, s1.tables, s1.most, v⟩ : spread_sun_o4)) 103 Z0z s1.rays) (fun _ : Unit => top) (fun _ => Zx g2 gT Z17 (fun v => (⟨r.Net, r.env, r.tables, r.most, v⟩ : spread_sun_o4)) 103 Z0z r.rays) := (Y0o Z0k).1
def Zel (n1 : Net) (x2 : Env) (a3 : Int) (x4 : Zk) (x5 : Int) (m6 : Int) : Option ((List Ray) × Int) :=
 (bif ((decide (a3 < 0)) || (decide (a3 ≥ (n1.Switches.length : Int)))) then some ([], 0) else (Zmu n1 m6).bind fun x10 => (bif (decide (x10.2 ≠ 0)) then some ([], x10.2) else (Zbd x4).bind fun x12 => (Z94).bind fun x13 => (Zva (⟨n1, x2, x10.1, m6, []⟩ : Z0d) a3 (⟨x12, x13⟩ : spread_beam) (Z3a (Z1f x5 0) 8)).bind fun b14 => (bif (decide ((b14.rays.length : Int) > m6)) then some ([], 5) else some (b14.rays, 0))))
theorem Zt9 : Q6 Tryz.prog 68 (rd Z28) (rd Z0q) (rd (Z0 .i64)) (rd (Z3 24 Z4)) (rd (Z0 .i64)) (rd (Z0 .i64)) (fun r => Z1d (rd (Z1 Z0z) r.1) (rd (Z0 .i64) r.2)) Zel := fun n1 x2 a3 x4 x5 m6 r h => I0 Tryz.func68 rfl Tryz.ntmps68 rfl fun w H => by
 unfold Zel at h
 refine SR <| Cv rfl (Zm 7 rfl rfl (vt rfl)) fun g7 => Cv rfl (Zm 8 rfl rfl (vt rfl)) fun g8 => Cv rfl (Zm 10 rfl rfl (vt rfl)) fun g9 => Ac (Zy (A := rd (Z1 Z0z) []) rfl rfl Z1h) rfl <| Ak rfl <| Nl <| sq <| SR <| Md rfl <| Ac (Zi rfl rfl (vt rfl) (vk rfl)) rfl <| Md rfl <| Gd rfl (fun hq => Zu (A := rd (Z0 .i64) a3) rfl rfl (vt rfl)) <| Gd rfl (fun hq => Z2p lNet_0 rfl rfl Zes (vt rfl)) <| Gd rfl (fun hq => Z1x rfl rfl Zcz (Zs rfl hq) (i := 7) rfl) <| Gd rfl (fun hq => Z0t rfl rfl Z8i (Zs rfl hq)) <| Gd rfl (fun hq => Z3r rfl rfl (Zs rfl hq) (Zs rfl hq)) <| Ac (Z67 rfl rfl (vt rfl) (vt rfl)) rfl <| Nl <| Cq rfl h (fun h => ?_) (fun h => ?_)
 ·refine SR <| Ac (Zy (A := rd (Z1 Z0z) []) rfl rfl Z1h) rfl <| Ak rfl <| Nl <| rt ?_
  cases h; exact Z1k Tryz.results68 rfl (Za rfl) (Za rfl)
 ·refine sk <| sq ?_
  obtain ⟨x10, hx10, h⟩ := Z8 h
  refine Rg <| Ld Z65 7 rfl <| Md rfl <| Cl [27, 28] (Yle _ _ _ hx10) Yie rfl <| Mt2 rfl <| Ac (Z1m rfl rfl (vt rfl)) rfl <| Ac (Z1l rfl rfl (vt rfl)) rfl <| As rfl <| As rfl <| Nl <| sq <| SR <| Md rfl <| Ac (Z6y rfl rfl (vt rfl) (vk rfl)) rfl <| Nl <| Cq rfl h (fun h => ?_) (fun h => ?_)
  ·refine SR <| Md rfl <| Ac (Zy (A := rd (Z1 Z0z) []) rfl rfl Z1h) rfl <| As rfl <| Nl <| rt ?_
   cases h; exact Z1k Tryz.results68 rfl (Za rfl) (Za rfl)
  ·refine sk <| sq <| AW.newnil 2824 103 Z0z <| Rg <| Ld Z65 7 rfl <| Ld Z4n 8 rfl <| Md rfl <| Md rfl <| Ac (opb (⟨n1, x2, x10.1, m6, (.slice none 0 0)⟩ : spread_sun_o4) Yd1 rfl Ybf (pc Yip (vt rfl) <| pc Yic (vt rfl) <| pc Y8o (vt rfl) <| pc Yf8 (vt rfl) <| pn rfl)) rfl <| Cv rfl (Zm 41 rfl rfl (vt rfl)) fun g11 => Ac (Zy (A := Z7 g11 (Lens.id Z17)) rfl rfl (vt rfl)) rfl <| Nl <| sq ?_
   obtain ⟨x12, hx12, x13, hx13, b14, hb14, h⟩ := bs3 h
   refine Rg <| Mp rfl <| Md rfl <| Ld Z00 10 rfl <| Cl [43] (Zn5 _ _ hx12) Zos rfl <| Cl [] (Zo5 _ hx13) e77 rfl <| Ac (opb (⟨x12, x13⟩ : spread_beam) Zdp rfl Ztu (pc Y0p (vt rfl) <| pc Y2x (vt rfl) <| pn rfl)) rfl <| Md rfl <| Ac (Zcg rfl rfl (vt rfl) (vk rfl)) rfl <| Ac (Zl2 rfl rfl (vt rfl) (vk rfl)) rfl <| AOps.packF 41 2824 (fun v => (⟨n1, x2, x10.1, m6, v⟩ : spread_sun_o4)) (by decide) rfl rfl <| Cv rfl (Z10 41 (xs := [.tmp 41, .tmp 42, .tmp 46, .tmp 49]) (Y7n _ _ _ _ _ _ _ hb14) Y4g rfl rfl ⟨vt rfl, vt rfl, vt rfl, vt rfl, trivial⟩ rfl) fun _u => AOps.unboxF 41 2824 (by decide) rfl rfl fun v15 => Nl <| sq <| SR <| Mp rfl <| Nc rfl <| Zf Z7w Zbb rfl <| Ac (Z3m v15 rfl rfl Zah (vt rfl) (i := 41) rfl rfl) rfl <| Ac (Z7a 2824 rfl rfl Z88 (vt rfl) rfl) rfl <| Md rfl <| Ac (Z3e rfl rfl (vt rfl) (vt rfl)) rfl <| Nl <| Cq rfl h (fun h => ?_) (fun h => ?_)
   ·refine SR <| Ac (Zy (A := rd (Z1 Z0z) []) rfl rfl Z1h) rfl <| Ak rfl <| Nl <| rt ?_
    cases h; exact Z1k Tryz.results68 rfl (Za rfl) (Za rfl)
   ·refine sk <| SR <| Mp rfl <| Nc rfl <| Zf Z7w Zbb rfl <| Ac (Z3m v15 rfl rfl Zah (vt rfl) (i := 41) rfl rfl) rfl <| Aw rfl <| Ak rfl <| Nl <| AW.freezes [12, 54, 61] 2824 rfl ⟨rfl, rfl, rfl, trivial⟩ rfl <| rt ?_
    cases h; exact Z1k Tryz.results68 rfl (Za rfl) (Za rfl)
def Zjk : Option Bool :=
 (Zpt 3).bind fun x1 => (Zpt 5).bind fun x2 => (Zb5).bind fun x4 => (Zel (⟨[x1, x2], [(⟨0, 3, 1, 4⟩ : Link)]⟩ : Net) (⟨0, []⟩ : Env) 0 x4 4 100).bind fun x5 => (Zb5).bind fun x6 => (Zel (⟨[x1, x2], [(⟨0, 3, 1, 4⟩ : Link)]⟩ : Net) (⟨0, []⟩ : Env) 0 x6 4 0).bind fun x7 => (bif (((decide (x5.2 ≠ 0)) || (decide ((x5.1.length : Int) ≠ 1))) || (decide (x7.2 ≠ 5))) then some false else (lget x5.1 0).bind fun x8 => (Zfn x8 (Vector.set (Vector.replicate 24 Z0j) 0 (⟨0, (9 : BitVec 64)⟩ : Wide) (by decide))).bind fun x9 => (lget x5.1 0).bind fun x11 => (Ztj x11 (Vector.replicate 24 Z0j)).bind fun x12 => some ((((x12 && x9.Left) && (decide (x9.At = 1))) && (decide (x9.Port = 5))) && (decide (((Vector.get x9.Header (⟨0, by decide⟩ : _root_.Fin 24)).Lo) = (4 : BitVec 64)))))
theorem Y5e : Q0 Tryz.prog 66 (rd Z5) Zjk := fun r h => I0 Tryz.func66 rfl Tryz.ntmps66 rfl fun w H => by
 unfold Zjk at h
 refine SR <| Ab rfl <| Nl <| sq ?_
 obtain ⟨x1, hx1, x2, hx2, h⟩ := bs2 h
 refine Rg <| Ac (Z13 (xs := [.const (Value.int IntKind.i64 3)]) (Zvh _ _ hx1) Zvv rfl rfl ⟨vk rfl, trivial⟩) rfl <| Ac (Z13 (xs := [.const (Value.int IntKind.i64 5)]) (Zvh _ _ hx2) Zvv rfl rfl ⟨vk rfl, trivial⟩) rfl <| Ac (Zn3 (ps := [(0, .tmp 7), (1, .tmp 8)]) (l := [x1, x2]) rfl rfl Z8i Zi9 rfl rfl ⟨_, _, Lens.idx 2 Z0b 0 (by decide), _, rfl, (vt rfl), _, _, Lens.idx 2 Z0b 1 (by decide), _, rfl, (vt rfl), rfl⟩ rfl) rfl <| Ac (opb (⟨0, 3, 1, 4⟩ : Link) Y4d rfl Yk9 (pc Yjf (vk rfl) <| pc Ymx (vk rfl) <| pc Ynb (vk rfl) <| pc Yfy (vk rfl) <| pn rfl)) rfl <| Ac (osl Zhp Y4d rfl (vt rfl)) rfl <| Ac (opb (⟨[x1, x2], [(⟨0, 3, 1, 4⟩ : Link)]⟩ : Net) Y0t rfl Yn3 (pc Yfa (vt rfl) <| pc Ygp (vt rfl) <| pn rfl)) rfl <| Cv rfl (Zp 2 rfl rfl Y0t) fun g3 => Zh Z65 2 rfl <| Nl <| sq ?_
 obtain ⟨x4, hx4, x5, hx5, h⟩ := bs2 h
 refine AR Zw (by kernel_rfl) <| Zl Z65 2 rfl <| Sd (lo [] [] rfl fun S hs hr => opb (⟨0, []⟩ : Env) Y0h rfl Y1m (pn rfl)) <| SCl [] (Zp1 _ hx4) e73 rfl <| Sd (lo [14, 15, 16] [] rfl fun S hs hr => Z13 (xs := [.tmp 14, .tmp 15, .const (Value.int IntKind.i64 0), .tmp 16, .const (Value.int IntKind.i64 4), .const (Value.int IntKind.i64 100)]) (Zt9 _ _ _ _ _ _ _ hx5) e68 rfl rfl ⟨vt ((hs 14 rfl).trans rfl), vt ((hs 15 rfl).trans rfl), vk rfl, vt ((hs 16 rfl).trans rfl), vk rfl, vk rfl, trivial⟩) <| Sd (lo [17] [] rfl fun S hs hr => Zu (A := Z1d (rd (Z1 Z0z) x5.1) (rd (Z0 .i64) x5.2)) rfl rfl (vh hs 17 rfl rfl)) <| Sd (lo [13] [] rfl fun S hs hr => Z1m rfl rfl (vh hs 13 rfl rfl)) <| Sd (lo [13] [] rfl fun S hs hr => Z1l rfl rfl (vh hs 13 rfl rfl)) <| SAs rfl <| SAs rfl <| Sn <| sq ?_
 obtain ⟨x6, hx6, x7, hx7, h⟩ := bs2 h
 refine AR Zw (by kernel_rfl) <| Zl Z65 2 rfl <| Sd (lo [] [] rfl fun S hs hr => opb (⟨0, []⟩ : Env) Y0h rfl Y1m (pn rfl)) <| SCl [] (Zp1 _ hx6) e73 rfl <| Sd (lo [21, 22, 23] [] rfl fun S hs hr => Z13 (xs := [.tmp 21, .tmp 22, .const (Value.int IntKind.i64 0), .tmp 23, .const (Value.int IntKind.i64 4), .const (Value.int IntKind.i64 0)]) (Zt9 _ _ _ _ _ _ _ hx7) e68 rfl rfl ⟨vt ((hs 21 rfl).trans rfl), vt ((hs 22 rfl).trans rfl), vk rfl, vt ((hs 23 rfl).trans rfl), vk rfl, vk rfl, trivial⟩) <| Sd (lo [24] [] rfl fun S hs hr => Zu (A := Z1d (rd (Z1 Z0z) x7.1) (rd (Z0 .i64) x7.2)) rfl rfl (vh hs 24 rfl rfl)) <| Sd (lo [20] [] rfl fun S hs hr => Z1m rfl rfl (vh hs 20 rfl rfl)) <| Sd (lo [20] [] rfl fun S hs hr => Z1l rfl rfl (vh hs 20 rfl rfl)) <| SAs rfl <| SAs rfl <| Sn <| sq <| SR <| Md rfl <| Ac (Z6y rfl rfl (vt rfl) (vk rfl)) rfl <| Md rfl <| Gd rfl (fun hq => Zu (A := rd (Z1 Z0z) x5.1) rfl rfl (vt rfl)) <| Gd rfl (fun hq => Z0t rfl rfl Z88 (Zs rfl hq)) <| Gd rfl (fun hq => Z6y rfl rfl (Zs rfl hq) (vk rfl)) <| Ac (Z67 rfl rfl (vt rfl) (vt rfl)) rfl <| Md rfl <| Gd rfl (fun hq => Zu (A := rd (Z0 .i64) x7.2) rfl rfl (vt rfl)) <| Gd rfl (fun hq => Z6y rfl rfl (Zs rfl hq) (vk rfl)) <| Ac (Z67 rfl rfl (vt rfl) (vt rfl)) rfl <| Nl <| Cq rfl h (fun h => ?_) (fun h => ?_)
 ·refine SR <| Ab rfl <| Nl <| rt ?_
  cases h; exact Zg Tryz.results66 rfl (Za rfl)
 ·refine sk <| sq ?_
  obtain ⟨x8, hx8, x9, hx9, h⟩ := bs2 h
  refine Rg <| Md rfl <| Ac (Z0w rfl rfl Z88 (vt rfl) (vk rfl) hx8) rfl <| Lp1 Ziq rfl <| Ac (opb (⟨0, (9 : BitVec 64)⟩ : Wide) Z3q rfl Z7h (pc Z9k (vku (9 : BitVec 64) rfl) <| pn rfl)) rfl <| Ac (Z20 (ps := [(0, .tmp 41)]) (x := (Vector.set (Vector.replicate 24 Z0j) 0 (⟨0, (9 : BitVec 64)⟩ : Wide) (by decide))) rfl rfl rfl (by kernel_rfl) Z4k ⟨_, _, Lens.idx 24 Zd 0 (by decide), _, by kernel_rfl, (vt rfl), rfl⟩) rfl <| Cl [40, 42] (Y0j _ _ _ hx9) e64 rfl <| Cv rfl (Zp 7 rfl rfl Ze3) fun g10 => Zh Zh3 7 rfl <| Nl <| sq ?_
  obtain ⟨x11, hx11, x12, hx12, h⟩ := bs2 h
  refine Rg <| Md rfl <| Ac (Z0w rfl rfl Z88 (vt rfl) (vk rfl) hx11) rfl <| Lp1 Ziq rfl <| Ac (Z20 (ps := []) (x := (Vector.replicate 24 Z0j)) rfl rfl rfl (by kernel_rfl) Z4k rfl) rfl <| Cl [46, 47] (Yc3 _ _ _ hx12) e62 rfl <| Md rfl <| Gd rfl (fun hq => Z2p lEnd_3 rfl rfl Yau (vt rfl)) <| Gd rfl (fun hq => Z1x rfl rfl ty4 (Zs rfl hq) (i := 7) rfl) <| Ac (Z26 rfl rfl (vt rfl) (vt rfl)) rfl <| Md rfl <| Gd rfl (fun hq => Z2p lEnd_0 rfl rfl Yhe (vt rfl)) <| Gd rfl (fun hq => Z1x rfl rfl Zo (Zs rfl hq) (i := 7) rfl) <| Gd rfl (fun hq => Z21 rfl rfl (Zs rfl hq) (vk rfl)) <| Ac (Z26 rfl rfl (vt rfl) (vt rfl)) rfl <| Md rfl <| Gd rfl (fun hq => Z2p lEnd_1 rfl rfl Yco (vt rfl)) <| Gd rfl (fun hq => Z1x rfl rfl Zo (Zs rfl hq) (i := 7) rfl) <| Gd rfl (fun hq => Z21 rfl rfl (Zs rfl hq) (vk rfl)) <| Ac (Z26 rfl rfl (vt rfl) (vt rfl)) rfl <| Md rfl <| Gd rfl (fun hq => Z2p lEnd_4 rfl rfl Yo8 (vt rfl)) <| Gd rfl (fun hq => Z2q rfl rfl Ze2 (Zs rfl hq) (vk rfl) rfl) <| Gd rfl (fun hq => Z2p lWide_1 rfl rfl Z82 (Zs rfl hq)) <| Gd rfl (fun hq => Z1x rfl rfl Z2o (Zs rfl hq) (i := 7) rfl) <| Gd rfl (fun hq => Zz7 rfl rfl (Zs rfl hq) (vku (4 : BitVec 64) rfl)) <| Ac (Z26 rfl rfl (vt rfl) (vt rfl)) rfl <| As rfl <| Nl <| rt ?_
  cases h; exact Zg Tryz.results66 rfl (Za rfl)
def Ze5 (s1 : (List Switch)) (x2 : (Switch → Option Bool)) : Nat → Nat → Option Int
 | 0, i3 => some (-1)
 | m4 + 1, i3 => (lget s1 (i3 : Int)).bind fun x5 => (x2 x5).bind fun x6 => (bif x6 then some (i3 : Int) else (Ze5 s1 x2 m4) (i3 + 1))
def Zjl (s1 : (List Switch)) (x2 : (Switch → Option Bool)) : Option Int :=
 Ze5 s1 x2 ((s1.length : Int) : Int).toNat 0
theorem Yav : Q2 Tryz.prog 190 (rd (Z1 Z0b)) (fn1 Tryz.prog Z0b Z5) (rd (Z0 .i64)) Zjl := fun s1 x2 r h => I0 Tryz.func190 rfl Tryz.ntmps190 rfl fun w H => by
 unfold Zjl at h
 refine SR <| Ak rfl <| Nl <| sq <| SR <| Md rfl <| Ac (Z0t rfl rfl Z8i (vt rfl)) rfl <| Mk rfl <| Nl <| bk <| LG (d := []) (ν := Nat × Nat) (fun (m4, i3) => (Cnt (s1.length : Int) i3 m4 ∧ Ze5 s1 x2 m4 i3 = some r, m4, [(0, rd (Z1 Z0b) s1), (1, fn1 Tryz.prog Z0b Z5 x2), (7, rd (Z0 .i64) (s1.length : Int)), (8, rd (Z0 .i64) (i3 : Int))], [])) (((s1.length : Int) : Int).toNat, 0) ⟨Cnt.start _, h⟩ (FX rfl) ?_
 rintro ⟨m4, i3⟩ ⟨hsf1, h⟩
 dsimp only at hsf1 h ⊢
 cases m4 with
 | zero =>
  unfold Ze5 at h
  refine SR <| Ac (Zi rfl rfl (vt rfl) (vt rfl)) rfl <| Nl <| sq <| Cn rfl (fun hc => absurd (of_decide_eq_true hc) hsf1.zero) (fun hc => ?_)
  refine xt <| SR <| Ak rfl <| Nl <| rt ?_
  cases h; exact Zg Tryz.results190 rfl (Za rfl)
 | succ m4 =>
  unfold Ze5 at h
  refine SR <| Ac (Zi rfl rfl (vt rfl) (vt rfl)) rfl <| Nl <| sq <| Cn rfl (fun hc => ?_) (fun hc => absurd hsf1.succ (of_decide_eq_false hc))
  have hlti3 := of_decide_eq_true hc
  refine sk <| sq <| bk <| SR <| Md rfl <| As rfl <| Nl <| sq ?_
  obtain ⟨x5, hx5, x6, hx6, h⟩ := bs2 h
  refine Rg <| Ac (Zu (A := fn1 Tryz.prog Z0b Z5 x2) rfl rfl (vt rfl)) rfl <| Md rfl <| Md rfl <| Ac (Z0w rfl rfl Z8i (vt rfl) (vt rfl) hx5) rfl <| Lp1 Z5f rfl <| Ac (Z8b hx6 rfl rfl (vt rfl) (vt rfl)) rfl <| Nl <| Cq rfl h (fun h => ?_) (fun h => ?_)
  ·refine SR <| Md rfl <| As rfl <| Nl <| rt ?_
   cases h; exact Zg Tryz.results190 rfl (Za rfl)
  ·refine sk <| Rg <| Ac (Z0s (t := 7) rfl rfl (vt rfl) (vk rfl) (vt rfl) hlti3) rfl <| Md rfl <| Nl ?_
   exact ⟨(_, _), Nat.lt_succ_self _, ⟨hsf1.next, h⟩, FX rfl⟩
def Zm0 (s1 : (List Switch)) (x2 : (Switch → Option Bool)) : Option Bool :=
 (Zjl s1 x2).bind fun x3 => some (decide (x3 ≥ 0))
theorem Yek : Q2 Tryz.prog 121 (rd (Z1 Z0b)) (fn1 Tryz.prog Z0b Z5) (rd Z5) Zm0 := fun s1 x2 r h => I0 Tryz.func121 rfl Tryz.ntmps121 rfl fun w H => by
 unfold Zm0 at h
 refine SR <| Ab rfl <| Nl <| sq ?_
 obtain ⟨x3, hx3, h⟩ := Z8 h
 refine Rg <| Md rfl <| Ac (Zu (A := fn1 Tryz.prog Z0b Z5 x2) rfl rfl (vt rfl)) rfl <| Cl [5, 6] (Yav _ _ _ hx3) Ycr rfl <| Ac (Z3r rfl rfl (vt rfl) (vk rfl)) rfl <| As rfl <| Nl <| rt ?_
 cases h; exact Zg Tryz.results121 rfl (Za rfl)
def Zed (s1 : (List Flow)) (x2 : (Flow → Option Bool)) : Nat → Nat → Option Int
 | 0, i3 => some (-1)
 | m4 + 1, i3 => (lget s1 (i3 : Int)).bind fun x5 => (x2 x5).bind fun x6 => (bif x6 then some (i3 : Int) else (Zed s1 x2 m4) (i3 + 1))
def Zje (s1 : (List Flow)) (x2 : (Flow → Option Bool)) : Option Int :=
 Zed s1 x2 ((s1.length : Int) : Int).toNat 0
theorem Yfe : Q2 Tryz.prog 198 (rd (Z1 Z16)) (fn1 Tryz.prog Z16 Z5) (rd (Z0 .i64)) Zje := fun s1 x2 r h => I0 Tryz.func198 rfl Tryz.ntmps198 rfl fun w H => by
 unfold Zje at h
 refine SR <| Ak rfl <| Nl <| sq <| SR <| Md rfl <| Ac (Z0t rfl rfl Z5d (vt rfl)) rfl <| Mk rfl <| Nl <| bk <| LG (d := []) (ν := Nat × Nat) (fun (m4, i3) => (Cnt (s1.length : Int) i3 m4 ∧ Zed s1 x2 m4 i3 = some r, m4, [(0, rd (Z1 Z16) s1), (1, fn1 Tryz.prog Z16 Z5 x2), (7, rd (Z0 .i64) (s1.length : Int)), (8, rd (Z0 .i64) (i3 : Int))], [])) (((s1.length : Int) : Int).toNat, 0) ⟨Cnt.start _, h⟩ (FX rfl) ?_
 rintro ⟨m4, i3⟩ ⟨hsf1, h⟩
 dsimp only at hsf1 h ⊢
 cases m4 with
 | zero =>
  unfold Zed at h
  refine SR <| Ac (Zi rfl rfl (vt rfl) (vt rfl)) rfl <| Nl <| sq <| Cn rfl (fun hc => absurd (of_decide_eq_true hc) hsf1.zero) (fun hc => ?_)
  refine xt <| SR <| Ak rfl <| Nl <| rt ?_
  cases h; exact Zg Tryz.results198 rfl (Za rfl)
 | succ m4 =>
  unfold Zed at h
  refine SR <| Ac (Zi rfl rfl (vt rfl) (vt rfl)) rfl <| Nl <| sq <| Cn rfl (fun hc => ?_) (fun hc => absurd hsf1.succ (of_decide_eq_false hc))
  have hlti3 := of_decide_eq_true hc
  refine sk <| sq <| bk <| SR <| Md rfl <| As rfl <| Nl <| sq ?_
  obtain ⟨x5, hx5, x6, hx6, h⟩ := bs2 h
  refine Rg <| Ac (Zu (A := fn1 Tryz.prog Z16 Z5 x2) rfl rfl (vt rfl)) rfl <| Md rfl <| Md rfl <| Ac (Z0w rfl rfl Z5d (vt rfl) (vt rfl) hx5) rfl <| Lp1 Z9w rfl <| Ac (Z8b hx6 rfl rfl (vt rfl) (vt rfl)) rfl <| Nl <| Cq rfl h (fun h => ?_) (fun h => ?_)
  ·refine SR <| Md rfl <| As rfl <| Nl <| rt ?_
   cases h; exact Zg Tryz.results198 rfl (Za rfl)
  ·refine sk <| Rg <| Ac (Z0s (t := 7) rfl rfl (vt rfl) (vk rfl) (vt rfl) hlti3) rfl <| Md rfl <| Nl ?_
   exact ⟨(_, _), Nat.lt_succ_self _, ⟨hsf1.next, h⟩, FX rfl⟩
def Zkp (s1 : (List Flow)) (x2 : (Flow → Option Bool)) : Option Bool :=
 (Zje s1 x2).bind fun x3 => some (decide (x3 ≥ 0))
theorem Yko : Q2 Tryz.prog 132 (rd (Z1 Z16)) (fn1 Tryz.prog Z16 Z5) (rd Z5) Zkp := fun s1 x2 r h => I0 Tryz.func132 rfl Tryz.ntmps132 rfl fun w H => by
 unfold Zkp at h
 refine SR <| Ab rfl <| Nl <| sq ?_
 obtain ⟨x3, hx3, h⟩ := Z8 h
 refine Rg <| Md rfl <| Ac (Zu (A := fn1 Tryz.prog Z16 Z5 x2) rfl rfl (vt rfl)) rfl <| Cl [5, 6] (Yfe _ _ _ hx3) Yem rfl <| Ac (Z3r rfl rfl (vt rfl) (vk rfl)) rfl <| As rfl <| Nl <| rt ?_
 cases h; exact Zg Tryz.results132 rfl (Za rfl)
end Go.Proofs.YtknpgojdkobgjaaGreat.W
set_option maxRecDepth 4000
namespace Go.Proofs.YtknpgojdkobgjaaGreat.W
open Go Go.Wb
theorem Y0v : Ent Tryz.prog 165 := Ent.mk Tryz.func165 rfl rfl
theorem Yer : Ent Tryz.prog 256 := Ent.mk Tryz.func256 rfl rfl
theorem Yf1 : Ent Tryz.prog 257 := Ent.mk Tryz.func257 rfl rfl
theorem Y82 : Ent Tryz.prog 199 := Ent.mk Tryz.func199 rfl rfl
theorem Ya2 : Ent Tryz.prog 134 := Ent.mk Tryz.func134 rfl rfl
theorem Y9k : Ent Tryz.prog 132 := Ent.mk Tryz.func132 rfl rfl
theorem Yfx : Ent Tryz.prog 133 := Ent.mk Tryz.func133 rfl rfl
def Zik (s1 : (List Inst)) (x2 : (Inst → Option Bool)) : Option Bool :=
 (Zfz s1 x2).bind fun x3 => some (decide (x3 ≥ 0))
theorem Y7o : Q2 Tryz.prog 256 (rd (Z1 Z1e)) (fn1 Tryz.prog Z1e Z5) (rd Z5) Zik := fun s1 x2 r h => I0 Tryz.func256 rfl Tryz.ntmps256 rfl fun w H => by
 unfold Zik at h
 refine SR <| Ab rfl <| Nl <| sq ?_
 obtain ⟨x3, hx3, h⟩ := Z8 h
 refine Rg <| Md rfl <| Ac (Zu (A := fn1 Tryz.prog Z1e Z5 x2) rfl rfl (vt rfl)) rfl <| Cl [5, 6] (Y0m _ _ _ hx3) Zxp rfl <| Ac (Z3r rfl rfl (vt rfl) (vk rfl)) rfl <| As rfl <| Nl <| rt ?_
 cases h; exact Zg Tryz.results256 rfl (Za rfl)
def Zmj (l1 : (List Action)) : Option Bool :=
 some (decide ((l1.length : Int) ≤ 12))
theorem Zxx : Q1 Tryz.prog 165 (rd (Z1 Z9)) (rd Z5) Zmj := fun l1 r h => I0 Tryz.func165 rfl Tryz.ntmps165 rfl fun w H => by
 unfold Zmj at h
 refine SR <| Ab rfl <| Nl <| SR <| Md rfl <| Ac (Z0t rfl rfl Z15 (vt rfl)) rfl <| Ac (Z7d rfl rfl (vt rfl) (vk rfl)) rfl <| As rfl <| Nl <| rt ?_
 cases h; exact Zg Tryz.results165 rfl (Za rfl)
def Zmw (i1 : Inst) : Option Bool :=
 (Zmj i1.Acts).bind fun x3 => some (!x3)
theorem Yi6 : Q1 Tryz.prog 257 (rd Z1e) (rd Z5) Zmw := fun i1 r h => I0 Tryz.func257 rfl Tryz.ntmps257 rfl fun w H => by
 unfold Zmw at h
 refine SR <| Cv rfl (Zm 2 rfl rfl (vt rfl)) fun g2 => Ab rfl <| Nl <| sq ?_
 obtain ⟨x3, hx3, h⟩ := Z8 h
 refine Rg <| Zf lInst_4 Za5 rfl <| Ld Z3o 2 rfl <| Cl [4] (Zxx _ _ hx3) Y0v rfl <| Ac (Z0x rfl rfl (vt rfl)) rfl <| As rfl <| Nl <| rt ?_
 cases h; exact Zg Tryz.results257 rfl (Za rfl)
def Zit (l1 : (List Inst)) : Option Bool :=
 (opt (decide ((l1.length : Int) ≤ 8)) (Zik l1 Zmw)).bind fun x2 => some ((decide ((l1.length : Int) ≤ 8)) && (!x2))
theorem Yjv : Q1 Tryz.prog 199 (rd (Z1 Z1e)) (rd Z5) Zit := fun l1 r h => I0 Tryz.func199 rfl Tryz.ntmps199 rfl fun w H => by
 unfold Zit at h
 refine SR <| Ab rfl <| Nl <| sq ?_
 obtain ⟨x2, hx2, h⟩ := Z8 h
 refine Rg <| Md rfl <| Ac (Z0t rfl rfl Zew (vt rfl)) rfl <| Ac (Z7d rfl rfl (vt rfl) (vk rfl)) rfl <| Md rfl <| Gd rfl (fun hq => Zu (A := rd (Z1 Z1e) l1) rfl rfl (vt rfl)) <| Gd rfl (fun hq => Z13 (xs := [.tmp 7, .func 257]) (Y7o _ _ _ (Z4m hx2 hq)) Yer rfl rfl ⟨Zs rfl hq, vf1 Yf1 Yi6, trivial⟩) <| Gd rfl (fun hq => Z0x rfl rfl (Zs rfl hq)) <| Ac (Z26 rfl rfl (vt rfl) (vt rfl)) rfl <| As rfl <| Nl <| rt ?_
 cases h; exact Zg Tryz.results199 rfl (Za rfl)
def Zip (x1 : Flow) : Option Bool :=
 (opt (decide ((x1.Match.length : Int) ≤ 30)) (Zit x1.Insts)).bind fun x3 => some ((decide ((x1.Match.length : Int) ≤ 30)) && x3)
theorem Y62 : Q1 Tryz.prog 134 (rd Z16) (rd Z5) Zip := fun x1 r h => I0 Tryz.func134 rfl Tryz.ntmps134 rfl fun w H => by
 unfold Zip at h
 refine SR <| Cv rfl (Zm 2 rfl rfl (vt rfl)) fun g2 => Ab rfl <| Nl <| sq ?_
 obtain ⟨x3, hx3, h⟩ := Z8 h
 refine Rg <| Zf Zrb Y1e rfl <| Ld Zys 2 rfl <| Ac (Z0t rfl rfl Zqm (vt rfl)) rfl <| Ac (Z7d rfl rfl (vt rfl) (vk rfl)) rfl <| Md rfl <| Gd rfl (fun hq => Z2p lFlow_6 rfl rfl Zly (vt rfl)) <| Gd rfl (fun hq => Z1x rfl rfl Znu (Zs rfl hq) (i := 2) rfl) <| Gd rfl (fun hq => Z13 (xs := [.tmp 9]) (Yjv _ _ (Z4m hx3 hq)) Y82 rfl rfl ⟨Zs rfl hq, trivial⟩) <| Ac (Z26 rfl rfl (vt rfl) (vt rfl)) rfl <| As rfl <| Nl <| rt ?_
 cases h; exact Zg Tryz.results134 rfl (Za rfl)
def Zkk (x1 : Flow) : Option Bool :=
 (Zip x1).bind fun x3 => some (!x3)
theorem Yhw : Q1 Tryz.prog 133 (rd Z16) (rd Z5) Zkk := fun x1 r h => I0 Tryz.func133 rfl Tryz.ntmps133 rfl fun w H => by
 unfold Zkk at h
 refine SR <| Cv rfl (Zm 2 rfl rfl (vt rfl)) fun g2 => Ab rfl <| Nl <| sq ?_
 obtain ⟨x3, hx3, h⟩ := Z8 h
 refine Rg <| Ld Z9w 2 rfl <| Cl [3] (Y62 _ _ hx3) Ya2 rfl <| Ac (Z0x rfl rfl (vt rfl)) rfl <| As rfl <| Nl <| rt ?_
 cases h; exact Zg Tryz.results133 rfl (Za rfl)
def Zl3 (l1 : (List Flow)) (m2 : Int) : Option Bool :=
 (opt (decide ((l1.length : Int) ≤ m2)) (Zkp l1 Zkk)).bind fun x3 => some ((decide ((l1.length : Int) ≤ m2)) && (!x3))
theorem Y86 : Q2 Tryz.prog 74 (rd (Z1 Z16)) (rd (Z0 .i64)) (rd Z5) Zl3 := fun l1 m2 r h => I0 Tryz.func74 rfl Tryz.ntmps74 rfl fun w H => by
 unfold Zl3 at h
 refine SR <| Ab rfl <| Nl <| sq ?_
 obtain ⟨x3, hx3, h⟩ := Z8 h
 refine Rg <| Md rfl <| Ac (Z0t rfl rfl Z5d (vt rfl)) rfl <| Md rfl <| Ac (Z7d rfl rfl (vt rfl) (vt rfl)) rfl <| Md rfl <| Gd rfl (fun hq => Zu (A := rd (Z1 Z16) l1) rfl rfl (vt rfl)) <| Gd rfl (fun hq => Z13 (xs := [.tmp 10, .func 133]) (Yko _ _ _ (Z4m hx3 hq)) Y9k rfl rfl ⟨Zs rfl hq, vf1 Yfx Yhw, trivial⟩) <| Gd rfl (fun hq => Z0x rfl rfl (Zs rfl hq)) <| Ac (Z26 rfl rfl (vt rfl) (vt rfl)) rfl <| As rfl <| Nl <| rt ?_
 cases h; exact Zg Tryz.results74 rfl (Za rfl)
def Zia (s1 : (List Bucket)) (x2 : (Bucket → Option Bool)) : Option Bool :=
 (Zgl s1 x2).bind fun x3 => some (decide (x3 ≥ 0))
theorem Ynp : Q2 Tryz.prog 163 (rd (Z1 Z1y)) (fn1 Tryz.prog Z1y Z5) (rd Z5) Zia := fun s1 x2 r h => I0 Tryz.func163 rfl Tryz.ntmps163 rfl fun w H => by
 unfold Zia at h
 refine SR <| Ab rfl <| Nl <| sq ?_
 obtain ⟨x3, hx3, h⟩ := Z8 h
 refine Rg <| Md rfl <| Ac (Zu (A := fn1 Tryz.prog Z1y Z5 x2) rfl rfl (vt rfl)) rfl <| Cl [5, 6] (Zv3 _ _ _ hx3) Zyd rfl <| Ac (Z3r rfl rfl (vt rfl) (vk rfl)) rfl <| As rfl <| Nl <| rt ?_
 cases h; exact Zg Tryz.results163 rfl (Za rfl)
def Zpu (x1 : Bucket) : Option Bool :=
 (Zmj x1.Acts).bind fun x3 => some (!x3)
theorem Ykr : Q1 Tryz.prog 164 (rd Z1y) (rd Z5) Zpu := fun x1 r h => I0 Tryz.func164 rfl Tryz.ntmps164 rfl fun w H => by
 unfold Zpu at h
 refine SR <| Cv rfl (Zm 2 rfl rfl (vt rfl)) fun g2 => Ab rfl <| Nl <| sq ?_
 obtain ⟨x3, hx3, h⟩ := Z8 h
 refine Rg <| Zf Zcm Zge rfl <| Ld Z3o 2 rfl <| Cl [4] (Zxx _ _ hx3) Y0v rfl <| Ac (Z0x rfl rfl (vt rfl)) rfl <| As rfl <| Nl <| rt ?_
 cases h; exact Zg Tryz.results164 rfl (Za rfl)
end Go.Proofs.YtknpgojdkobgjaaGreat.W
set_option maxRecDepth 4000
namespace Go.Proofs.YtknpgojdkobgjaaGreat.W
open Go Go.Wb
theorem Y84 : Ent Tryz.prog 163 := Ent.mk Tryz.func163 rfl rfl
theorem Yba : Ent Tryz.prog 164 := Ent.mk Tryz.func164 rfl rfl
theorem Ynq : Ent Tryz.prog 100 := Ent.mk Tryz.func100 rfl rfl
theorem e99 : Ent Tryz.prog 99 := Ent.mk Tryz.func99 rfl rfl
theorem e98 : Ent Tryz.prog 98 := Ent.mk Tryz.func98 rfl rfl
theorem e40 : Ent Tryz.prog 40 := Ent.mk Tryz.func40 rfl rfl
theorem e74 : Ent Tryz.prog 74 := Ent.mk Tryz.func74 rfl rfl
theorem Yaf : Ent Tryz.prog 251 := Ent.mk Tryz.func251 rfl rfl
theorem Zv5 : Ent Tryz.prog 191 := Ent.mk Tryz.func191 rfl rfl
theorem e21 : Ent Tryz.prog 21 := Ent.mk Tryz.func21 rfl rfl
theorem Yo6 : Ent Tryz.prog 123 := Ent.mk Tryz.func123 rfl rfl
def Zi3 (l1 : (List Bucket)) (m2 : Int) : Option Bool :=
 (opt (decide ((l1.length : Int) ≤ m2)) (Zia l1 Zpu)).bind fun x3 => some ((decide ((l1.length : Int) ≤ m2)) && (!x3))
theorem Ybo : Q2 Tryz.prog 100 (rd (Z1 Z1y)) (rd (Z0 .i64)) (rd Z5) Zi3 := fun l1 m2 r h => I0 Tryz.func100 rfl Tryz.ntmps100 rfl fun w H => by
 unfold Zi3 at h
 refine SR <| Ab rfl <| Nl <| sq ?_
 obtain ⟨x3, hx3, h⟩ := Z8 h
 refine Rg <| Md rfl <| Ac (Z0t rfl rfl Z5g (vt rfl)) rfl <| Md rfl <| Ac (Z7d rfl rfl (vt rfl) (vt rfl)) rfl <| Md rfl <| Gd rfl (fun hq => Zu (A := rd (Z1 Z1y) l1) rfl rfl (vt rfl)) <| Gd rfl (fun hq => Z13 (xs := [.tmp 10, .func 164]) (Ynp _ _ _ (Z4m hx3 hq)) Y84 rfl rfl ⟨Zs rfl hq, vf1 Yba Ykr, trivial⟩) <| Gd rfl (fun hq => Z0x rfl rfl (Zs rfl hq)) <| Ac (Z26 rfl rfl (vt rfl) (vt rfl)) rfl <| As rfl <| Nl <| rt ?_
 cases h; exact Zg Tryz.results100 rfl (Za rfl)
def Zfg (x1 : Group) (x2 : Int) : Option Bool :=
 (Zi3 x1.Buckets x2).bind fun x4 => some (!x4)
theorem Yad : Q2 Tryz.prog 99 (rd Zz) (rp (Z0 .i64)) (rd Z5) Zfg := fun x1 x2 r h => I0 Tryz.func99 rfl Tryz.ntmps99 rfl fun w H => by
 unfold Zfg at h
 refine SR <| Cv rfl (Zm 3 rfl rfl (vt rfl)) fun g3 => Ab rfl <| Nl <| sq ?_
 obtain ⟨x4, hx4, h⟩ := Z8 h
 refine Rg <| Zf Z7p Z8g rfl <| Ld Z90 3 rfl <| Lp1 Zo rfl <| Cl [5, 6] (Ybo _ _ _ hx4) Ynq rfl <| Ac (Z0x rfl rfl (vt rfl)) rfl <| As rfl <| Nl <| rt ?_
 cases h; exact Zg Tryz.results99 rfl (Za rfl)
def Zl5 (s1 : (List Group)) (x2 : (Group → Option Bool)) : Option Bool :=
 (Zdu s1 x2).bind fun x3 => some (decide (x3 ≥ 0))
theorem Y8r : Q2 Tryz.prog 98 (rd (Z1 Zz)) (fn1 Tryz.prog Zz Z5) (rd Z5) Zl5 := fun s1 x2 r h => I0 Tryz.func98 rfl Tryz.ntmps98 rfl fun w H => by
 unfold Zl5 at h
 refine SR <| Ab rfl <| Nl <| sq ?_
 obtain ⟨x3, hx3, h⟩ := Z8 h
 refine Rg <| Md rfl <| Ac (Zu (A := fn1 Tryz.prog Zz Z5 x2) rfl rfl (vt rfl)) rfl <| Cl [5, 6] (Zqx _ _ _ hx3) Zpw rfl <| Ac (Z3r rfl rfl (vt rfl) (vk rfl)) rfl <| As rfl <| Nl <| rt ?_
 cases h; exact Zg Tryz.results98 rfl (Za rfl)
def Zln (l1 : (List Group)) (m2 : Int) (b3 : Int) : Option Bool :=
 (opt (decide ((l1.length : Int) ≤ m2)) (Zl5 l1 (fun x => Zfg x b3))).bind fun x5 => some ((decide ((l1.length : Int) ≤ m2)) && (!x5))
theorem Yg0 : Q3 Tryz.prog 40 (rd (Z1 Zz)) (rd (Z0 .i64)) (rd (Z0 .i64)) (rd Z5) Zln := fun l1 m2 b3 r h => I0 Tryz.func40 rfl Tryz.ntmps40 rfl fun w H => by
 unfold Zln at h
 refine SR <| Cv rfl (Zm 6 rfl rfl (vt rfl)) fun g4 => Ab rfl <| Nl <| sq <| AW.freezeB 5 6 rfl rfl rfl ?_
 obtain ⟨x5, hx5, h⟩ := Z8 h
 refine Rg <| Md rfl <| Ac (Z0t rfl rfl Z5s (vt rfl)) rfl <| Md rfl <| Ac (Z7d rfl rfl (vt rfl) (vt rfl)) rfl <| Md rfl <| Gd rfl (fun hq => Zu (A := rd (Z1 Zz) l1) rfl rfl (vt rfl)) <| Gd rfl (fun hq => Z7v (cs := [.tmp 5]) (CAs := [rp (Z0 .i64) b3]) (fun x => Zfg x b3) rfl rfl e99 ⟨vt rfl, trivial⟩ (fun x y h => Yad _ _ y h)) <| Gd rfl (fun hq => Z13 (xs := [.tmp 12, .tmp 13]) (Y8r _ _ _ (Z4m hx5 hq)) e98 rfl rfl ⟨Zs rfl hq, Zs rfl hq, trivial⟩) <| Gd rfl (fun hq => Z0x rfl rfl (Zs rfl hq)) <| Ac (Z26 rfl rfl (vt rfl) (vt rfl)) rfl <| As rfl <| Nl <| rt ?_
 cases h; exact Zg Tryz.results40 rfl (Za rfl)
def Zc7 (s1 : Switch) (m2 : Int) : (List (List Flow)) → Nat → Option Bool
 | [], i4 => (Zln s1.Groups 9 3).bind fun x6 => some x6
 | x7 :: l5, i4 => (Zl3 x7 m2).bind fun x8 => (bif (!x8) then some false else (Zc7 s1 m2 l5) (i4 + 1))
def Zoh (s1 : Switch) (m2 : Int) : Option Bool :=
 Zc7 s1 m2 (Vector.toList s1.Tables) 0
theorem Yc0 : Q2 Tryz.prog 21 (rd Z0b) (rd (Z0 .i64)) (rd Z5) Zoh := fun s1 m2 r h => I0 Tryz.func21 rfl Tryz.ntmps21 rfl fun w H => by
 unfold Zoh at h
 refine SR <| Cv rfl (Zm 3 rfl rfl (vt rfl)) fun g3 => Ab rfl <| Nl <| sq <| SR <| Zf Zan Zdh rfl <| Ld Y3u 3 rfl <| Mk rfl <| Nl <| bk <| LG (d := []) (ν := (List (List Flow)) × Nat) (fun (l5, i4) => (Sfx (Vector.toList s1.Tables) i4 l5 ∧ Zc7 s1 m2 l5 i4 = some r, l5.length, [(1, rd (Z0 .i64) m2), (2, Z7 g3 (Lens.id Z0b)), (8, rd (Z3 4 (Z1 Z16)) s1.Tables), (9, rd (Z0 .i64) (i4 : Int))], [(3, Zc g3 26 Z0b s1)])) ((Vector.toList s1.Tables), 0) ⟨Sfx.start _, h⟩ (FX rfl) ?_
 rintro ⟨l5, i4⟩ ⟨hsf1, h⟩
 dsimp only at hsf1 h ⊢
 cases l5 with
 | nil =>
  unfold Zc7 at h
  refine SR <| Ac (Zi rfl rfl (vt rfl) (vk rfl)) rfl <| Nl <| sq <| Cn rfl (fun hc => absurd (of_decide_eq_true hc) (hsf1.niln (by simp))) (fun hc => ?_)
  refine xt <| sq ?_
  obtain ⟨x6, hx6, h⟩ := Z8 h
  refine Rg <| Zf Ziz Zph rfl <| Ld Zcn 3 rfl <| Ac (Z13 (xs := [.tmp 18, .const (Value.int IntKind.i64 9), .const (Value.int IntKind.i64 3)]) (Yg0 _ _ _ _ hx6) e40 rfl rfl ⟨vt rfl, vk rfl, vk rfl, trivial⟩) rfl <| As rfl <| Nl <| rt ?_
  cases h; exact Zg Tryz.results21 rfl (Za rfl)
 | cons x7 l5 =>
  unfold Zc7 at h
  refine SR <| Ac (Zi rfl rfl (vt rfl) (vk rfl)) rfl <| Nl <| sq <| Cn rfl (fun hc => ?_) (fun hc => absurd (hsf1.consn (by simp)) (of_decide_eq_false hc))
  have hlti4 := of_decide_eq_true hc
  refine sk <| sq <| bk <| SR <| Ac (Za3 rfl rfl Zcw Z5k (vt rfl) (vt rfl) hsf1.lget) rfl <| As rfl <| Nl <| sq ?_
  obtain ⟨x8, hx8, h⟩ := Z8 h
  refine Rg <| Md rfl <| Md rfl <| Cl [12, 13] (Y86 _ _ _ hx8) e74 rfl <| Ac (Z0x rfl rfl (vt rfl)) rfl <| Nl <| Cq rfl h (fun h => ?_) (fun h => ?_)
  ·refine SR <| Ab rfl <| Nl <| rt ?_
   cases h; exact Zg Tryz.results21 rfl (Za rfl)
  ·refine sk <| Rg <| Ac (Z6r rfl rfl (vt rfl) (vk rfl) rfl hlti4) rfl <| Md rfl <| Nl ?_
   exact ⟨(_, _), Nat.lt_succ_self _, ⟨hsf1.next, h⟩, FX rfl⟩
def Zj7 (x1 : Group) (x2 : Action) : Option Bool :=
 some (decide (x1.ID = x2.Group))
theorem Yiy : Q2 Tryz.prog 251 (rd Zz) (rp Z9) (rd Z5) Zj7 := fun x1 x2 r h => I0 Tryz.func251 rfl Tryz.ntmps251 rfl fun w H => by
 unfold Zj7 at h
 refine SR <| Cv rfl (Zm 3 rfl rfl (vt rfl)) fun g3 => Ab rfl <| Nl <| SR <| Zf Znk Zs5 rfl <| Ld Zo 3 rfl <| Fp Zn8 Zsx rfl <| Lp1 Zo rfl <| Ac (Z21 rfl rfl (vt rfl) (vt rfl)) rfl <| As rfl <| Nl <| rt ?_
 cases h; exact Zg Tryz.results251 rfl (Za rfl)
def Zag (go1 : Nat → Int → Option Int) (i6 : Nat) (m3 : Int) (R_pl_ways : ((List Group) → (List Action) → Int → Option Int)) (l1 : (List Group)) : (List Bucket) → Nat → Int → Option Int
 | [], i14, n13 => go1 (i6 + 1) n13
 | x16 :: l15, i14, n13 => (bif (decide (n13 ≤ m3)) then (R_pl_ways l1 x16.Acts (IntKind.i64.wrap ((IntKind.i64.wrap (m3 - n13)) - 1))).bind fun x18 => (Zag go1 i6 m3 R_pl_ways l1 l15) (i14 + 1) (IntKind.i64.wrap (n13 + (Z1f 1 x18))) else (Zag go1 i6 m3 R_pl_ways l1 l15) (i14 + 1) n13)
def Z83 (m3 : Int) (l1 : (List Group)) (R_pl_ways : ((List Group) → (List Action) → Int → Option Int)) : (List Action) → Nat → Int → Option Int
 | [], i6, n5 => some n5
 | x8 :: l7, i6, n5 => (bif (decide (n5 > m3)) then some n5 else (bif (decide (x8.Kind = 0)) then (Z83 m3 l1 R_pl_ways l7) (i6 + 1) (IntKind.i64.wrap (n5 + 1)) else (bif (decide (x8.Kind = 22)) then (Zdu l1 (fun x => Zj7 x x8)).bind fun x10 => (bif (decide (x10 < 0)) then (Z83 m3 l1 R_pl_ways l7) (i6 + 1) n5 else (lget l1 x10).bind fun x11 => Zag (Z83 m3 l1 R_pl_ways l7) i6 m3 R_pl_ways l1 x11.Buckets 0 n5) else (Z83 m3 l1 R_pl_ways l7) (i6 + 1) n5)))
def Zq6 (R_pl_ways : ((List Group) → (List Action) → Int → Option Int)) (l1 : (List Group)) (a2 : (List Action)) (m3 : Int) : Option Int :=
 Z83 m3 l1 R_pl_ways a2 0 0
theorem Yk2 (R_pl_ways : ((List Group) → (List Action) → Int → Option Int)) (hR_pl_ways : ∀ (l1 : (List Group)) (a2 : (List Action)) (m3 : Int) (r : Int), R_pl_ways l1 a2 m3 = some r → PCon Tryz.prog 191 [rd (Z1 Zz) l1, rd (Z1 Z9) a2, rd (Z0 .i64) m3] (rd (Z0 .i64) r)) (l1 : (List Group)) (a2 : (List Action)) (m3 : Int) (r : Int) (h : Zq6 R_pl_ways l1 a2 m3 = some r) : PCon Tryz.prog 191 [rd (Z1 Zz) l1, rd (Z1 Z9) a2, rd (Z0 .i64) m3] (rd (Z0 .i64) r) := by
 refine PCon.of (Con.intro0 Tryz.func191 rfl Tryz.ntmps191 rfl fun w H => ?_)
 unfold Zq6 at h
 refine SR <| Ak rfl <| Nl <| SR <| Ak rfl <| Nl <| sq <| SR <| Md rfl <| Ac (Z0t rfl rfl Z15 (vt rfl)) rfl <| Mk rfl <| Nl <| bk <| LG (d := []) (ν := (List Action) × Nat × Int) (fun (l7, i6, n5) => (Sfx a2 i6 l7 ∧ Z83 m3 l1 R_pl_ways l7 i6 n5 = some r, l7.length, [(0, rd (Z1 Zz) l1), (2, rd (Z0 .i64) m3), (7, rd (Z0 .i64) n5), (13, rd (Z1 Z9) a2), (14, rd (Z0 .i64) (a2.length : Int)), (15, rd (Z0 .i64) (i6 : Int))], [])) (a2, 0, 0) ⟨Sfx.start _, h⟩ (FX rfl) ?_
 rintro ⟨l7, i6, n5⟩ ⟨hsf1, h⟩
 dsimp only at hsf1 h ⊢
 cases l7 with
 | nil =>
  unfold Z83 at h
  refine SR <| Ac (Zi rfl rfl (vt rfl) (vt rfl)) rfl <| Nl <| sq <| Cn rfl (fun hc => absurd (of_decide_eq_true hc) hsf1.nil) (fun hc => ?_)
  refine xt <| SR <| Md rfl <| As rfl <| Nl <| rt ?_
  cases h; exact Zg Tryz.results191 rfl (Za rfl)
 | cons x8 l7 =>
  unfold Z83 at h
  refine SR <| Ac (Zi rfl rfl (vt rfl) (vt rfl)) rfl <| Nl <| sq <| Cn rfl (fun hc => ?_) (fun hc => absurd hsf1.cons (of_decide_eq_false hc))
  have hlti6 := of_decide_eq_true hc
  refine sk <| sq <| bk <| SR <| Ac (Z0w rfl rfl Z15 (vt rfl) (vt rfl) hsf1.lget) rfl <| Lp1 Z11 rfl <| Cv rfl (Zp 10 rfl rfl Z85) fun g9 => Zh Z11 10 rfl <| Nl <| sq <| SR <| Md rfl <| Md rfl <| Ac (Z3e rfl rfl (vt rfl) (vt rfl)) rfl <| Nl <| Cq rfl h (fun h => ?_) (fun h => ?_)
  ·refine SR <| Md rfl <| As rfl <| Nl <| rt ?_
   cases h; exact Zg Tryz.results191 rfl (Za rfl)
  ·refine sk <| SR <| Zf lAction_0 Z8w rfl <| Ld Zo 10 rfl <| Nl <| bk <| SR <| Ac (Z21 rfl rfl (vt rfl) (vk rfl)) rfl <| As rfl <| Nl <| Cq rfl h (fun h => ?_) (fun h => ?_)
   ·refine Rg <| Md rfl <| Ac (Z0o rfl rfl (vt rfl) (vk rfl)) rfl <| As rfl <| Nl <| Rg <| Ac (Z0s (t := 14) rfl rfl (vt rfl) (vk rfl) (vt rfl) hlti6) rfl <| Md rfl <| Nl ?_
    exact ⟨(_, _, _), Nat.lt_succ_self _, ⟨hsf1.next, h⟩, FX rfl⟩
   ·refine SR <| Ac (Z21 rfl rfl (vt rfl) (vk rfl)) rfl <| As rfl <| Nl <| Cq rfl h (fun h => ?_) (fun h => ?_)
    ·refine sq <| AW.freezeB 9 10 rfl rfl rfl ?_
     obtain ⟨x10, hx10, h⟩ := Z8 h
     refine Rg <| Md rfl <| Ac (Z7v (cs := [.tmp 9]) (CAs := [rp Z9 x8]) (fun x => Zj7 x x8) rfl rfl Yaf ⟨vt rfl, trivial⟩ (fun x y h => Yiy _ _ y h)) rfl <| Cl [31, 32] (Zqx _ _ _ hx10) Zpw rfl <| As rfl <| Nl <| sq <| SR <| Md rfl <| Ac (Zi rfl rfl (vt rfl) (vk rfl)) rfl <| Nl <| Cq rfl h (fun h => ?_) (fun h => ?_)
     ·refine xt <| Rg <| Ac (Z0s (t := 14) rfl rfl (vt rfl) (vk rfl) (vt rfl) hlti6) rfl <| Md rfl <| Nl ?_
      exact ⟨(_, _, _), Nat.lt_succ_self _, ⟨hsf1.next, h⟩, FX rfl⟩
     ·refine sk <| sq ?_
      obtain ⟨x11, hx11, h⟩ := Z8 h
      refine Rg <| Md rfl <| Md rfl <| Ac (Z0w rfl rfl Z5s (vt rfl) (vt rfl) hx11) rfl <| Fp Z7p Z8g rfl <| Lp1 Z90 rfl <| Ac (Z0t rfl rfl Z5g (vt rfl)) rfl <| Mk rfl <| Nl <| bk <| LG (d := []) (ν := (List Bucket) × Nat × Int) (fun (l15, i14, n13) => (Sfx x11.Buckets i14 l15 ∧ Zag (Z83 m3 l1 R_pl_ways l7) i6 m3 R_pl_ways l1 l15 i14 n13 = some r, l15.length, [(0, rd (Z1 Zz) l1), (2, rd (Z0 .i64) m3), (7, rd (Z0 .i64) n13), (13, rd (Z1 Z9) a2), (14, rd (Z0 .i64) (a2.length : Int)), (15, rd (Z0 .i64) (i6 : Int)), (40, rd (Z1 Z1y) x11.Buckets), (41, rd (Z0 .i64) (x11.Buckets.length : Int)), (42, rd (Z0 .i64) (i14 : Int))], [])) (x11.Buckets, 0, n5) ⟨Sfx.start _, h⟩ (FX rfl) ?_
      rintro ⟨l15, i14, n13⟩ ⟨hsf2, h⟩
      dsimp only at hsf2 h ⊢
      cases l15 with
      | nil =>
       unfold Zag at h
       refine SR <| Ac (Zi rfl rfl (vt rfl) (vt rfl)) rfl <| Nl <| sq <| Cn rfl (fun hc => absurd (of_decide_eq_true hc) hsf2.nil) (fun hc => ?_)
       refine xt <| Rg <| Ac (Z0s (t := 14) rfl rfl (vt rfl) (vk rfl) (vt rfl) hlti6) rfl <| Md rfl <| Nl ?_
       exact ⟨(_, _, _), Nat.lt_succ_self _, ⟨hsf1.next, h⟩, FX rfl⟩
      | cons x16 l15 =>
       unfold Zag at h
       refine SR <| Ac (Zi rfl rfl (vt rfl) (vt rfl)) rfl <| Nl <| sq <| Cn rfl (fun hc => ?_) (fun hc => absurd hsf2.cons (of_decide_eq_false hc))
       have hlti14 := of_decide_eq_true hc
       refine sk <| sq <| bk <| SR <| Ac (Z0w rfl rfl Z5g (vt rfl) (vt rfl) hsf2.lget) rfl <| Lp1 Ztv rfl <| Cv rfl (Zp 13 rfl rfl Y27) fun g17 => Zh Ztv 13 rfl <| Nl <| SR <| Md rfl <| Md rfl <| Ac (Z7d rfl rfl (vt rfl) (vt rfl)) rfl <| Nl <| Cq rfl h (fun h => ?_) (fun h => ?_)
       ·obtain ⟨x18, hx18, h⟩ := Z8 h
        refine Rg <| Md rfl <| Md rfl <| Zf Zcm Zge rfl <| Ld Z3o 13 rfl <| Md rfl <| Md rfl <| Ac (Z0u rfl rfl (vt rfl) (vt rfl)) rfl <| Ac (Z0u rfl rfl (vt rfl) (vk rfl)) rfl <| Cl [50, 52, 56] (hR_pl_ways _ _ _ _ hx18) Zv5 rfl <| Ac (Zcg rfl rfl (vk rfl) (vt rfl)) rfl <| Ac (Z0o rfl rfl (vt rfl) (vt rfl)) rfl <| As rfl <| Nl <| Rg <| Ac (Z0s (t := 41) rfl rfl (vt rfl) (vk rfl) (vt rfl) hlti14) rfl <| Md rfl <| Nl ?_
        exact ⟨(_, _, _), Nat.lt_succ_self _, ⟨hsf2.next, h⟩, FX rfl⟩
       ·refine sk <| Rg <| Ac (Z0s (t := 41) rfl rfl (vt rfl) (vk rfl) (vt rfl) hlti14) rfl <| Md rfl <| Nl ?_
        exact ⟨(_, _, _), Nat.lt_succ_self _, ⟨hsf2.next, h⟩, FX rfl⟩
    ·refine sk <| Rg <| Ac (Z0s (t := 14) rfl rfl (vt rfl) (vk rfl) (vt rfl) hlti6) rfl <| Md rfl <| Nl ?_
     exact ⟨(_, _, _), Nat.lt_succ_self _, ⟨hsf1.next, h⟩, FX rfl⟩
def Zkq : Nat → ((List Group) → (List Action) → Int → Option Int)
 | 0 => (fun _ _ _ => none)
 | n + 1 => (Zq6 (Zkq n))
theorem Zvz : ∀ n : Nat, (∀ (l1 : (List Group)) (a2 : (List Action)) (m3 : Int) (r : Int), (Zkq n) l1 a2 m3 = some r → PCon Tryz.prog 191 [rd (Z1 Zz) l1, rd (Z1 Z9) a2, rd (Z0 .i64) m3] (rd (Z0 .i64) r))
 | 0 => (by intros; rename_i h; cases h)
 | n + 1 => by
  have ih := Zvz n
  exact (Yk2 (Zkq n) ih)
def Zt6 (l1 : (List Group)) (a2 : (List Action)) (m3 : Int) : Option Int := (Zkq Z0k) l1 a2 m3
theorem Yc5 : ∀ (l1 : (List Group)) (a2 : (List Action)) (m3 : Int) (r : Int), Zt6 l1 a2 m3 = some r → PCon Tryz.prog 191 [rd (Z1 Zz) l1, rd (Z1 Z9) a2, rd (Z0 .i64) m3] (rd (Z0 .i64) r) := Zvz Z0k
def Zbn (go2 : Nat → Int → Option Bool) (i10 : Nat) (m9 : Int) (s1 : Switch) : (List Inst) → Nat → Int → Option Bool
 | [], i16, k15 => go2 (i10 + 1) (Z1f m9 k15)
 | x18 :: l17, i16, k15 => (Zt6 s1.Groups x18.Acts (IntKind.i64.wrap (40 - k15))).bind fun x20 => (Zbn go2 i10 m9 s1 l17) (i16 + 1) (IntKind.i64.wrap (k15 + x20))
def Zbg (go1 : Nat → Int → Option Bool) (i5 : Nat) (n4 : Int) (s1 : Switch) : (List Flow) → Nat → Int → Option Bool
 | [], i10, m9 => go1 (i5 + 1) (IntKind.i64.wrap (n4 + m9))
 | x12 :: l11, i10, m9 => Zbn (Zbg go1 i5 n4 s1 l11) i10 m9 s1 x12.Insts 0 0
def Z9e (s1 : Switch) : (List (List Flow)) → Nat → Int → Option Bool
 | [], i5, n4 => some (decide (n4 ≤ 40))
 | x7 :: l6, i5, n4 => Zbg (Z9e s1 l6) i5 n4 s1 x7 0 0
def Zg7 (s1 : Switch) : Option Bool :=
 Z9e s1 (Vector.toList s1.Tables) 0 0
theorem Yi9 : Q1 Tryz.prog 123 (rd Z0b) (rd Z5) Zg7 := fun s1 r h => I0 Tryz.func123 rfl Tryz.ntmps123 rfl fun w H => by
 unfold Zg7 at h
 refine SR <| Cv rfl (Zm 2 rfl rfl (vt rfl)) fun g2 => Ab rfl <| Nl <| SR <| Ak rfl <| Nl <| sq <| SR <| Zf Zan Zdh rfl <| Ld Y3u 2 rfl <| Mk rfl <| Nl <| bk <| LG (d := []) (ν := (List (List Flow)) × Nat × Int) (fun (l6, i5, n4) => (Sfx (Vector.toList s1.Tables) i5 l6 ∧ Z9e s1 l6 i5 n4 = some r, l6.length, [(1, Z7 g2 (Lens.id Z0b)), (3, rd (Z0 .i64) n4), (13, rd (Z3 4 (Z1 Z16)) s1.Tables), (14, rd (Z0 .i64) (i5 : Int))], [(2, Zc g2 26 Z0b s1)])) ((Vector.toList s1.Tables), 0, 0) ⟨Sfx.start _, h⟩ (FX rfl) ?_
 rintro ⟨l6, i5, n4⟩ ⟨hsf1, h⟩
 dsimp only at hsf1 h ⊢
 cases l6 with
 | nil =>
  unfold Z9e at h
  refine SR <| Ac (Zi rfl rfl (vt rfl) (vk rfl)) rfl <| Nl <| sq <| Cn rfl (fun hc => absurd (of_decide_eq_true hc) (hsf1.niln (by simp))) (fun hc => ?_)
  refine xt <| SR <| Md rfl <| Ac (Z7d rfl rfl (vt rfl) (vk rfl)) rfl <| As rfl <| Nl <| rt ?_
  cases h; exact Zg Tryz.results123 rfl (Za rfl)
 | cons x7 l6 =>
  unfold Z9e at h
  refine SR <| Ac (Zi rfl rfl (vt rfl) (vk rfl)) rfl <| Nl <| sq <| Cn rfl (fun hc => ?_) (fun hc => absurd (hsf1.consn (by simp)) (of_decide_eq_false hc))
  have hlti5 := of_decide_eq_true hc
  refine sk <| sq <| bk <| SR <| Ac (Za3 rfl rfl Zcw Z5k (vt rfl) (vt rfl) hsf1.lget) rfl <| As rfl <| Nl <| SR <| Ak rfl <| Nl <| sq <| SR <| Md rfl <| Ac (Z0t rfl rfl Z5d (vt rfl)) rfl <| Mk rfl <| Nl <| bk <| LG (d := []) (ν := (List Flow) × Nat × Int) (fun (l11, i10, m9) => (Sfx x7 i10 l11 ∧ Zbg (Z9e s1 l6) i5 n4 s1 l11 i10 m9 = some r, l11.length, [(1, Z7 g2 (Lens.id Z0b)), (3, rd (Z0 .i64) n4), (6, rd (Z0 .i64) m9), (13, rd (Z3 4 (Z1 Z16)) s1.Tables), (14, rd (Z0 .i64) (i5 : Int)), (17, rd (Z1 Z16) x7), (18, rd (Z0 .i64) (x7.length : Int)), (19, rd (Z0 .i64) (i10 : Int))], [(2, Zc g2 26 Z0b s1)])) (x7, 0, 0) ⟨Sfx.start _, h⟩ (FX rfl) ?_
  rintro ⟨l11, i10, m9⟩ ⟨hsf2, h⟩
  dsimp only at hsf2 h ⊢
  cases l11 with
  | nil =>
   unfold Zbg at h
   refine SR <| Ac (Zi rfl rfl (vt rfl) (vt rfl)) rfl <| Nl <| sq <| Cn rfl (fun hc => absurd (of_decide_eq_true hc) hsf2.nil) (fun hc => ?_)
   refine xt <| Rg <| Md rfl <| Md rfl <| Ac (Z0o rfl rfl (vt rfl) (vt rfl)) rfl <| As rfl <| Nl <| Rg <| Ac (Z6r rfl rfl (vt rfl) (vk rfl) rfl hlti5) rfl <| Md rfl <| Nl ?_
   exact ⟨(_, _, _), Nat.lt_succ_self _, ⟨hsf1.next, h⟩, FX rfl⟩
  | cons x12 l11 =>
   unfold Zbg at h
   refine SR <| Ac (Zi rfl rfl (vt rfl) (vt rfl)) rfl <| Nl <| sq <| Cn rfl (fun hc => ?_) (fun hc => absurd hsf2.cons (of_decide_eq_false hc))
   have hlti10 := of_decide_eq_true hc
   refine sk <| sq <| bk <| SR <| Ac (Z0w rfl rfl Z5d (vt rfl) (vt rfl) hsf2.lget) rfl <| Lp1 Z9w rfl <| Cv rfl (Zp 9 rfl rfl Zma) fun g13 => Zh Z9w 9 rfl <| Nl <| SR <| Ak rfl <| Nl <| sq <| SR <| Zf lFlow_6 Zly rfl <| Ld Znu 9 rfl <| Ac (Z0t rfl rfl Zew (vt rfl)) rfl <| Mk rfl <| Nl <| bk <| LG (d := []) (ν := (List Inst) × Nat × Int) (fun (l17, i16, k15) => (Sfx x12.Insts i16 l17 ∧ Zbn (Zbg (Z9e s1 l6) i5 n4 s1 l11) i10 m9 s1 l17 i16 k15 = some r, l17.length, [(1, Z7 g2 (Lens.id Z0b)), (3, rd (Z0 .i64) n4), (6, rd (Z0 .i64) m9), (9, rd (Z0 .i64) k15), (13, rd (Z3 4 (Z1 Z16)) s1.Tables), (14, rd (Z0 .i64) (i5 : Int)), (17, rd (Z1 Z16) x7), (18, rd (Z0 .i64) (x7.length : Int)), (19, rd (Z0 .i64) (i10 : Int)), (24, rd (Z1 Z1e) x12.Insts), (25, rd (Z0 .i64) (x12.Insts.length : Int)), (26, rd (Z0 .i64) (i16 : Int))], [(2, Zc g2 26 Z0b s1)])) (x12.Insts, 0, 0) ⟨Sfx.start _, h⟩ (FX rfl) ?_
   rintro ⟨l17, i16, k15⟩ ⟨hsf3, h⟩
   dsimp only at hsf3 h ⊢
   cases l17 with
   | nil =>
    unfold Zbn at h
    refine SR <| Ac (Zi rfl rfl (vt rfl) (vt rfl)) rfl <| Nl <| sq <| Cn rfl (fun hc => absurd (of_decide_eq_true hc) hsf3.nil) (fun hc => ?_)
    refine xt <| Rg <| Md rfl <| Md rfl <| Ac (Zcg rfl rfl (vt rfl) (vt rfl)) rfl <| As rfl <| Nl <| Rg <| Ac (Z0s (t := 18) rfl rfl (vt rfl) (vk rfl) (vt rfl) hlti10) rfl <| Md rfl <| Nl ?_
    exact ⟨(_, _, _), Nat.lt_succ_self _, ⟨hsf2.next, h⟩, FX rfl⟩
   | cons x18 l17 =>
    unfold Zbn at h
    refine SR <| Ac (Zi rfl rfl (vt rfl) (vt rfl)) rfl <| Nl <| sq <| Cn rfl (fun hc => ?_) (fun hc => absurd hsf3.cons (of_decide_eq_false hc))
    have hlti16 := of_decide_eq_true hc
    refine sk <| sq <| bk <| SR <| Ac (Z0w rfl rfl Zew (vt rfl) (vt rfl) hsf3.lget) rfl <| Lp1 Z3z rfl <| Cv rfl (Zp 12 rfl rfl Z52) fun g19 => Zh Z3z 12 rfl <| Nl ?_
    obtain ⟨x20, hx20, h⟩ := Z8 h
    refine Rg <| Md rfl <| Zf Ziz Zph rfl <| Ld Zcn 2 rfl <| Zf lInst_4 Za5 rfl <| Ld Z3o 12 rfl <| Md rfl <| Ac (Z0u rfl rfl (vk rfl) (vt rfl)) rfl <| Cl [32, 34, 36] (Yc5 _ _ _ _ hx20) Zv5 rfl <| Ac (Z0o rfl rfl (vt rfl) (vt rfl)) rfl <| As rfl <| Nl <| Rg <| Ac (Z0s (t := 25) rfl rfl (vt rfl) (vk rfl) (vt rfl) hlti16) rfl <| Md rfl <| Nl ?_
    exact ⟨(_, _, _), Nat.lt_succ_self _, ⟨hsf3.next, h⟩, FX rfl⟩
def Zil (s1 : Switch) : Option Bool :=
 (Zoh s1 3).bind fun x3 => (opt (!(!x3)) (Zg7 s1)).bind fun x4 => some ((!x3) || (!x4))
theorem Ynj : Q1 Tryz.prog 122 (rd Z0b) (rd Z5) Zil := fun s1 r h => I0 Tryz.func122 rfl Tryz.ntmps122 rfl fun w H => by
 unfold Zil at h
 refine SR <| Cv rfl (Zm 2 rfl rfl (vt rfl)) fun g2 => Ab rfl <| Nl <| sq ?_
 obtain ⟨x3, hx3, x4, hx4, h⟩ := bs2 h
 refine Rg <| Ld Z5f 2 rfl <| Ac (Z13 (xs := [.tmp 3, .const (Value.int IntKind.i64 3)]) (Yc0 _ _ _ hx3) e21 rfl rfl ⟨vt rfl, vk rfl, trivial⟩) rfl <| Ac (Z0x rfl rfl (vt rfl)) rfl <| Md rfl <| Gd rfl (fun hq => Z1x rfl rfl Z5f (vt rfl) (i := 2) rfl) <| Gd rfl (fun hq => Z13 (xs := [.tmp 7]) (Yi9 _ _ (Zpd hx4 hq)) Yo6 rfl rfl ⟨Zs rfl hq, trivial⟩) <| Gd rfl (fun hq => Z0x rfl rfl (Zs rfl hq)) <| Ac (Z67 rfl rfl (vt rfl) (vt rfl)) rfl <| As rfl <| Nl <| rt ?_
 cases h; exact Zg Tryz.results122 rfl (Za rfl)
end Go.Proofs.YtknpgojdkobgjaaGreat.W
set_option maxRecDepth 4000
namespace Go.Proofs.YtknpgojdkobgjaaGreat.W
open Go Go.Wb
theorem Y90 : Ent Tryz.prog 121 := Ent.mk Tryz.func121 rfl rfl
theorem Y8v : Ent Tryz.prog 122 := Ent.mk Tryz.func122 rfl rfl
theorem Ygn : Ent Tryz.prog 156 := Ent.mk Tryz.func156 rfl rfl
theorem e88 : Ent Tryz.prog 88 := Ent.mk Tryz.func88 rfl rfl
theorem Zxd : Ent Tryz.prog 239 := Ent.mk Tryz.func239 rfl rfl
theorem Ybt : Ent Tryz.prog 286 := Ent.mk Tryz.func286 rfl rfl
theorem Yl5 : Ent Tryz.prog 178 := Ent.mk Tryz.func178 rfl rfl
def Zi0 (n1 : Net) (x2 : Env) (m3 : Int) : Option Bool :=
 (bif ((((decide ((n1.Switches.length : Int) > 3)) || (decide ((n1.Links.length : Int) > 8))) || (decide ((x2.Down.length : Int) > 20))) || (decide (m3 > 300))) then some false else (Zm0 n1.Switches Zil).bind fun x6 => some (!x6))
theorem Yaw : Q3 Tryz.prog 67 (rd Z28) (rd Z0q) (rd (Z0 .i64)) (rd Z5) Zi0 := fun n1 x2 m3 r h => I0 Tryz.func67 rfl Tryz.ntmps67 rfl fun w H => by
 unfold Zi0 at h
 refine SR <| Cv rfl (Zm 4 rfl rfl (vt rfl)) fun g4 => Cv rfl (Zm 5 rfl rfl (vt rfl)) fun g5 => Ab rfl <| Nl <| sq <| SR <| Zf lNet_0 Zes rfl <| Ld Zcz 4 rfl <| Ac (Z0t rfl rfl Z8i (vt rfl)) rfl <| Ac (Z3e rfl rfl (vt rfl) (vk rfl)) rfl <| Md rfl <| Gd rfl (fun hq => Z2p lNet_1 rfl rfl Zoz (vt rfl)) <| Gd rfl (fun hq => Z1x rfl rfl Zo3 (Zs rfl hq) (i := 4) rfl) <| Gd rfl (fun hq => Z0t rfl rfl Zhp (Zs rfl hq)) <| Gd rfl (fun hq => Z3e rfl rfl (Zs rfl hq) (vk rfl)) <| Ac (Z67 rfl rfl (vt rfl) (vt rfl)) rfl <| Md rfl <| Gd rfl (fun hq => Z2p Zrk rfl rfl Y01 (vt rfl)) <| Gd rfl (fun hq => Z1x rfl rfl Y4m (Zs rfl hq) (i := 5) rfl) <| Gd rfl (fun hq => Z0t rfl rfl Z14 (Zs rfl hq)) <| Gd rfl (fun hq => Z3e rfl rfl (Zs rfl hq) (vk rfl)) <| Ac (Z67 rfl rfl (vt rfl) (vt rfl)) rfl <| Md rfl <| Gd rfl (fun hq => Zu (A := rd (Z0 .i64) m3) rfl rfl (vt rfl)) <| Gd rfl (fun hq => Z3e rfl rfl (Zs rfl hq) (vk rfl)) <| Ac (Z67 rfl rfl (vt rfl) (vt rfl)) rfl <| Nl <| Cq rfl h (fun h => ?_) (fun h => ?_)
 ·refine SR <| Ab rfl <| Nl <| rt ?_
  cases h; exact Zg Tryz.results67 rfl (Za rfl)
 ·refine sk <| sq ?_
  obtain ⟨x6, hx6, h⟩ := Z8 h
  refine Rg <| Zf lNet_0 Zes rfl <| Ld Zcz 4 rfl <| Ac (Z13 (xs := [.tmp 28, .func 122]) (Yek _ _ _ hx6) Y90 rfl rfl ⟨vt rfl, vf1 Y8v Ynj, trivial⟩) rfl <| Ac (Z0x rfl rfl (vt rfl)) rfl <| As rfl <| Nl <| rt ?_
  cases h; exact Zg Tryz.results67 rfl (Za rfl)
def Zm4 (n1 : Int) : Option Int :=
 some (Z3a (Z1f n1 0) 8)
theorem Ydt : Q1 Tryz.prog 93 (rd (Z0 .i64)) (rd (Z0 .i64)) Zm4 := fun n1 r h => I0 Tryz.func93 rfl Tryz.ntmps93 rfl fun w H => by
 unfold Zm4 at h
 refine SR <| Ak rfl <| Nl <| SR <| Md rfl <| Ac (Zcg rfl rfl (vt rfl) (vk rfl)) rfl <| Ac (Zl2 rfl rfl (vt rfl) (vk rfl)) rfl <| As rfl <| Nl <| rt ?_
 cases h; exact Zg Tryz.results93 rfl (Za rfl)
def Zax (sg : Type) (x3 : (List Flow)) (x4 : Z0e) (y1 : (sg → Int → Option (Lp sg))) : (List Int) → Nat → (Lp sg) → Option (Lp sg)
 | [], i8, s7 => some s7
 | x10 :: l9, i8, s7 => (lget x3 x10).bind fun x11 => (Zg6 x11).bind fun x12 => (Zek x12 x4).bind fun x13 => (bif (!x13) then (Zax sg x3 x4 y1 l9) (i8 + 1) s7 else (yc y1 s7 x10).bind fun s14 => (bif (!(Lp.isGo s14)) then some s14 else (Zax sg x3 x4 y1 l9) (i8 + 1) s14))
def Zdd (sg : Type) (y1 : (sg → Int → Option (Lp sg))) (s2 : (Lp sg)) (x3 : (List Flow)) (x4 : Z0e) : Option (Lp sg) :=
 (Zf9 x3).bind fun x5 => Zax sg x3 x4 y1 x5 0 s2
theorem Yfb (sg : Type) (y1 : (sg → Int → Option (Lp sg))) (L : Lp sg → Zt) (s2 : (Lp sg)) (x3 : (List Flow)) (x4 : Z0e) (r : (Lp sg)) (h : Zdd sg y1 s2 x3 x4 = some r) : Con Tryz.prog 156 [ydA Tryz.prog (Z0 .i64) y1 L, rp (Z1 Z16) x3, rp (Z3 24 Zd) x4] (L s2) (fun _ : Unit => top) (fun _ => L r) := by
 refine Con.intro Tryz.func156 rfl Tryz.ntmps156 rfl fun w H X => ?_
 unfold Zdd at h
 refine AW.scope <| sq <| AW.label <| sq ?_
 obtain ⟨x5, hx5, h⟩ := Z8 h
 refine Rg <| Lp1 Z5k rfl <| Cl [6] (Zvk _ _ hx5) Zut rfl <| Ac (Z0t rfl rfl Z14 (vt rfl)) rfl <| Mk rfl <| Nl <| bk <| LG (d := []) (ν := (List Int) × Nat × (Lp sg)) (fun (l9, i8, s7) => (Sfx x5 i8 l9 ∧ Zax sg x3 x4 y1 l9 i8 s7 = some r, l9.length, [(0, ydA Tryz.prog (Z0 .i64) y1 L), (1, rp (Z1 Z16) x3), (2, rp (Z3 24 Zd) x4), (7, rd (Z1 (Z0 .i64)) x5), (8, rd (Z0 .i64) (x5.length : Int)), (9, rd (Z0 .i64) (i8 : Int))], [(0, L s7)])) (x5, 0, s2) ⟨Sfx.start _, h⟩ (FX rfl) ?_
 rintro ⟨l9, i8, s7⟩ ⟨hsf1, h⟩
 dsimp only at hsf1 h ⊢
 cases l9 with
 | nil =>
  unfold Zax at h
  refine SR <| Ac (Zi rfl rfl (vt rfl) (vt rfl)) rfl <| Nl <| sq <| Cn rfl (fun hc => absurd (of_decide_eq_true hc) hsf1.nil) (fun hc => ?_)
  refine xt ?_
  cases h; exact Z1j (i := 0) Tryz.results156 rfl rfl
 | cons x10 l9 =>
  unfold Zax at h
  refine SR <| Ac (Zi rfl rfl (vt rfl) (vt rfl)) rfl <| Nl <| sq <| Cn rfl (fun hc => ?_) (fun hc => absurd hsf1.cons (of_decide_eq_false hc))
  have hlti8 := of_decide_eq_true hc
  refine sk <| sq <| bk <| SR <| Ac (Z0w rfl rfl Z14 (vt rfl) (vt rfl) hsf1.lget) rfl <| Lp1 Zo rfl <| As rfl <| Nl <| sq <| sq ?_
  obtain ⟨x11, hx11, x12, hx12, x13, hx13, h⟩ := bs3 h
  refine AR Zw (by kernel_rfl) <| SLp Z5k rfl <| SMd rfl <| Sd (lo [13, 14] [] rfl fun S hs hr => Z0w rfl rfl Z5d (vh hs 13 rfl rfl) (vh hs 14 rfl rfl) hx11) <| SLp Z9w rfl <| SCl [16] (Zy7 _ _ hx12) Y23 rfl <| SLp Z0i rfl <| SCl [17, 18] (Zqc _ _ _ hx13) e50 rfl <| Sd (lo [19] [] rfl fun S hs hr => Z0x rfl rfl (vh hs 19 rfl rfl)) <| Sn <| Cq rfl h (fun h => ?_) (fun h => ?_)
  ·refine xt <| Rg <| Ac (Z0s (t := 8) rfl rfl (vt rfl) (vk rfl) (vt rfl) hlti8) rfl <| Md rfl <| Nl ?_
   exact ⟨(_, _, _), Nat.lt_succ_self _, ⟨hsf1.next, h⟩, FX rfl⟩
  ·refine sk <| sq ?_
   obtain ⟨s14, hs14, h⟩ := Z8 h
   refine Rg <| Ac (Zu (A := ydA Tryz.prog (Z0 .i64) y1 L) rfl rfl (vt rfl)) rfl <| Md rfl <| Ac (Zl4 0 hs14 rfl rfl (vt rfl) (vt rfl) rfl) rfl <| Ac (Z0x rfl rfl (vt rfl)) rfl <| Nl <| Cq rfl h (fun h => ?_) (fun h => ?_)
   ·refine xt ?_
    cases h; exact Z1j (i := 0) Tryz.results156 rfl rfl
   ·refine sk <| Rg <| Ac (Z0s (t := 8) rfl rfl (vt rfl) (vk rfl) (vt rfl) hlti8) rfl <| Md rfl <| Nl ?_
    exact ⟨(_, _, _), Nat.lt_succ_self _, ⟨hsf1.next, h⟩, FX rfl⟩
def Zml (t1 : (List Flow)) (x2 : Z0e) : Option (Itr Int) :=
 some (Itr.mk fun σ y s => Zdd σ y s t1 x2)
theorem Y7g : Q2 Tryz.prog 88 (rd (Z1 Z16)) (rd (Z3 24 Zd)) (Z4u Tryz.prog (Z0 .i64)) Zml := fun t1 x2 r h => I0 Tryz.func88 rfl Tryz.ntmps88 rfl fun w H => by
 unfold Zml at h
 refine SR <| Cv rfl (Zm 3 rfl rfl (vt rfl)) fun g3 => Cv rfl (Zm 4 rfl rfl (vt rfl)) fun g4 => Ac (Zy (A := Zn .nilFunc) rfl rfl vc) rfl <| Nl <| sq <| AW.freezeB 2 3 rfl rfl rfl <| AW.freezeB 3 4 rfl rfl rfl <| Rg <| Ac (Zre (Itr.mk fun σ y s => Zdd σ y s t1 x2) (cs := [.tmp 2, .tmp 3]) (CAs := [rp (Z1 Z16) t1, rp (Z3 24 Zd) x2]) rfl rfl Ygn ⟨vt rfl, vt rfl, trivial⟩ (fun σ y L s r h => Yfb σ y L s t1 x2 r h)) rfl <| Ac (Zy (A := Z4u Tryz.prog (Z0 .i64) (Itr.mk fun σ y s => Zdd σ y s t1 x2)) rfl rfl (vt rfl)) rfl <| Nl <| rt ?_
 cases h; exact Zg Tryz.results88 rfl (Za rfl)
def Zkx (b7 : Int) (b8 : Bool) (x10 : Int) : Option (Lp (Int × Bool)) :=
 some (.out .ret (x10, true))
def Zkh (t1 : (List Flow)) (x2 : Z0e) : Option (Int × Bool) :=
 (Zml t1 x2).bind fun x6 => (Itr.run x6 (Int × Bool) (fun s x => Zkx s.1 s.2 x) (.go (0, false))).bind fun z9 => Zn9 z9 (fun s11 => some (0, false)) (fun c s11 => bif Zab c then some (s11.1, s11.2) else none)
theorem Yk8 : Q2 Tryz.prog 34 (rd (Z1 Z16)) (rd (Z3 24 Zd)) (fun r => Z1d (rd (Z0 .i64) r.1) (rd Z5 r.2)) Zkh := fun t1 x2 r h => I0 Tryz.func34 rfl Tryz.ntmps34 rfl fun w H => by
 unfold Zkh at h
 refine SR <| Cv rfl (Zm 4 rfl rfl (vt rfl)) fun g3 => Cv rfl (Zp 5 rfl rfl zr3) fun g4 => Cv rfl (Zp 6 rfl rfl zr4) fun g5 => Nl <| sq <| sq ?_
 obtain ⟨x6, hx6, h⟩ := Z8 h
 refine Rg <| Md rfl <| Ld Z0i 4 rfl <| Cl [7, 8] (Y7g _ _ _ hx6) e88 rfl <| Nl <| bk ?_
 obtain ⟨z9, hz9, h⟩ := Z8 h
 refine AW.fit (d := []) (L := [(4, Z7 g4 (Lens.id (Z0 .i64))), (5, Z7 g5 (Lens.id Z5)), (9, Z4u Tryz.prog (Z0 .i64) x6)]) (M := [(5, Zc g4 3 (Z0 .i64) 0), (6, Zc g5 4 Z5 false)]) (FX rfl) ?_
 refine AW.rangeFunc (σ := Int × Bool) (fun x => [rd (Z0 .i64) x]) (fun s x => Zkx s.1 s.2 x) (fun s => Z2x ((fun s => [(5, Zc g4 3 (Z0 .i64) s.1), (6, Zc g5 4 Z5 s.2)]) s)) (fun _ s => Z2x ((fun s => [(5, Zc g4 3 (Z0 .i64) s.1), (6, Zc g5 4 Z5 s.2)]) s)) [(4, Z7 g4 (Lens.id (Z0 .i64))), (5, Z7 g5 (Lens.id Z5))] (fun s x10 S1 => Fit S1 [] [(4, Z7 g4 (Lens.id (Z0 .i64))), (5, Z7 g5 (Lens.id Z5)), (6, rd (Z0 .i64) x10)] [(5, Zc g4 3 (Z0 .i64) s.1), (6, Zc g5 4 Z5 s.2)]) 3001 (s0 := (0, false)) (sE := z9) rfl (vt rfl) ⟨rfl, inferInstance, rfl, inferInstance, trivial⟩ rfl (fun _ => rfl) (by intro p hp; have hp : p ∈ [10] := hp; rw [List.mem_singleton.1 hp]; show 10 < 12; decide) ?ha1 ?hb1 (fun Lf => ⟨top, _, _, Lf, _, _, hz9, rfl, rfl, rfl, rfl⟩) ?he1
 case ha1 =>
  rintro ⟨b7, b8⟩ x10 r hF l w H X
  refine Rg <| As rfl <| Nl ?_
  exact ⟨rfl, FX rfl⟩
 case hb1 =>
  rintro ⟨b7, b8⟩ x10 r h S1 hfit l w H X
  refine AW.fit (d := []) (L := [(4, Z7 g4 (Lens.id (Z0 .i64))), (5, Z7 g5 (Lens.id Z5)), (6, rd (Z0 .i64) x10)]) (M := [(5, Zc g4 3 (Z0 .i64) b7), (6, Zc g5 4 Z5 b8)]) hfit <| AW.bodyT ?_
  change Zkx b7 b8 x10 = some r at h
  unfold Zkx at h
  refine bk <| SR <| Md rfl <| Zh Zo 5 rfl <| Ac (Z4y rfl rfl ty4 (vt rfl) (i := 6) rfl vb) rfl <| Nl <| rt ?_
  obtain rfl := si h
  exact ⟨_, (x10, true), Turn.refl, rfl, ⟨rfl, rfl, trivial⟩⟩
 case he1 =>
  intro D
  cases z9 with
  | go s11 =>
   change _ = some r at h
   refine SR <| Ac (Z4y rfl rfl Zo (vt rfl) (i := 5) rfl (vk rfl)) rfl <| Ac (Z4y rfl rfl ty4 (vt rfl) (i := 6) rfl vb) rfl <| Nl <| rt ?_
   cases h; exact ⟨rfl, 3001, _, rfl, Z1k Tryz.results34 rfl (Z01 rfl (i := 5) rfl Zo) (Z01 rfl (i := 6) rfl ty4)⟩
  | out c s11 =>
   change (bif Zab c then _ else _) = some r at h
   cases hc : Zab c with
   | true =>
    rw [hc] at h
    have hc := Y35 hc
    subst hc
    change _ = some r at h
    refine rt ?_
    cases h; exact ⟨rfl, 3001, _, rfl, Z1k Tryz.results34 rfl (Z01 rfl (i := 5) rfl Zo) (Z01 rfl (i := 6) rfl ty4)⟩
   | false =>
    rw [hc] at h
    cases h
def Zkf (a1 : Action) : Option Int :=
 (bif (decide (a1.Port = 4294967293)) then some a1.Max else some 0)
theorem Ykp : Q1 Tryz.prog 286 (rd Z9) (rd (Z0 .i64)) Zkf := fun a1 r h => I0 Tryz.func286 rfl Tryz.ntmps286 rfl fun w H => by
 unfold Zkf at h
 refine SR <| Cv rfl (Zm 2 rfl rfl (vt rfl)) fun g2 => Ak rfl <| Nl <| sq <| SR <| Zf lAction_1 Zon rfl <| Ld Zo 2 rfl <| Ac (Z21 rfl rfl (vt rfl) (vk rfl)) rfl <| Nl <| Cq rfl h (fun h => ?_) (fun h => ?_)
 ·refine SR <| Zf Zt4 Y3h rfl <| Ld Zo 2 rfl <| As rfl <| Nl <| rt ?_
  cases h; exact Zg Tryz.results286 rfl (Za rfl)
 ·refine sk <| SR <| Ak rfl <| Nl <| rt ?_
  cases h; exact Zg Tryz.results286 rfl (Za rfl)
def Za6 (x5 : (Group × Bool)) (R_exec_run_do : (Z0l → (List Action) → Option Z0l)) (x1 : Z0l) : (List Int) → Nat → (List Out) → Env → (List Group) → Z0e → Int → Option Z0l
 | [], i21, l15, b17, b18, b19, b20 => some (⟨b17, b18, l15, b19, (IntKind.i64.wrap (b20 - 1))⟩ : Z0l)
 | x23 :: l22, i21, l15, b17, b18, b19, b20 => (lget x5.1.Buckets x23).bind fun x24 => (Zbl [] x24.Acts).bind fun x25 => (Z79 x25).bind fun x26 => (R_exec_run_do (⟨b17, b18, l15, b19, b20⟩ : Z0l) x26).bind fun b27 => (Za6 x5 R_exec_run_do x1 l22) (i21 + 1) b27.out b27.Env b27.groups x1.header b27.depth
def Zdm (R_exec_run_do : (Z0l → (List Action) → Option Z0l)) (R_exec_run_group : (Z0l → Int → Option Z0l)) (x1 : Z0l) (i4 : Int) : Option Z0l :=
 (Zeg x1.groups i4).bind fun x5 => (bif ((!x5.2) || (decide (x1.depth ≥ 8))) then some (⟨x1.Env, x1.groups, x1.out, x1.header, x1.depth⟩ : Z0l) else (Zgo x1.Env x5.1).bind fun x8 => Za6 x5 R_exec_run_do x1 x8 0 x1.out x1.Env x1.groups x1.header (IntKind.i64.wrap (x1.depth + 1)))
theorem Y6o (R_exec_run_do : (Z0l → (List Action) → Option Z0l)) (hR_exec_run_do : ∀ (g2 gT : Nat) (x1 : Z0l) (a4 : (List Action)) (r : Z0l), R_exec_run_do x1 a4 = some r → Con Tryz.prog 239 [Z7 g2 (Lens.id Z1g), rd (Z1 Z9) a4] (Zx g2 gT Z1g (fun v => (⟨x1.Env, x1.groups, v, x1.header, x1.depth⟩ : exec_run_o2)) 71 Z0r x1.out) (fun _ : Unit => top) (fun _ => Zx g2 gT Z1g (fun v => (⟨r.Env, r.groups, v, r.header, r.depth⟩ : exec_run_o2)) 71 Z0r r.out)) (R_exec_run_group : (Z0l → Int → Option Z0l)) (hR_exec_run_group : ∀ (g2 gT : Nat) (x1 : Z0l) (i4 : Int) (r : Z0l), R_exec_run_group x1 i4 = some r → Con Tryz.prog 178 [Z7 g2 (Lens.id Z1g), rd (Z0 .i64) i4] (Zx g2 gT Z1g (fun v => (⟨x1.Env, x1.groups, v, x1.header, x1.depth⟩ : exec_run_o2)) 71 Z0r x1.out) (fun _ : Unit => top) (fun _ => Zx g2 gT Z1g (fun v => (⟨r.Env, r.groups, v, r.header, r.depth⟩ : exec_run_o2)) 71 Z0r r.out)) (g2 gT : Nat) (x1 : Z0l) (i4 : Int) (r : Z0l) (h : Zdm R_exec_run_do R_exec_run_group x1 i4 = some r) : Con Tryz.prog 178 [Z7 g2 (Lens.id Z1g), rd (Z0 .i64) i4] (Zx g2 gT Z1g (fun v => (⟨x1.Env, x1.groups, v, x1.header, x1.depth⟩ : exec_run_o2)) 71 Z0r x1.out) (fun _ : Unit => top) (fun _ => Zx g2 gT Z1g (fun v => (⟨r.Env, r.groups, v, r.header, r.depth⟩ : exec_run_o2)) 71 Z0r r.out) := by
 refine Con.intro Tryz.func178 rfl Tryz.ntmps178 rfl fun w H X => ?_
 unfold Zdm at h
 refine AW.unboxF 0 2002 (by decide) rfl rfl fun v3 => sq ?_
 obtain ⟨x5, hx5, h⟩ := Z8 h
 refine Rg <| Mp rfl <| Nc rfl <| Zf lexec_run_o2_1 Yhd rfl <| Ld Zcn 0 rfl <| Md rfl <| Cl [13, 14] (Ztq _ _ _ hx5) Zqr rfl <| Mt2 rfl <| Ac (Z1m rfl rfl (vt rfl)) rfl <| Ac (Z1l rfl rfl (vt rfl)) rfl <| Cv rfl (Zp 5 rfl rfl Zc1) fun g6 => Zh Z5e 5 rfl <| As rfl <| Nl <| sq <| SR <| Md rfl <| Ac (Z0x rfl rfl (vt rfl)) rfl <| Md rfl <| Gd rfl (fun hq => Zu (A := Z7 g2 (Lens.id Z1g)) rfl rfl (vt rfl)) <| Gd rfl (fun hq => Zo1 rfl rfl (Zs rfl hq)) <| Gd rfl (fun hq => Z2p Zg4 rfl rfl Zim (Zs rfl hq)) <| Gd rfl (fun hq => Z1x rfl rfl Zo (Zs rfl hq) (i := 0) rfl) <| Gd rfl (fun hq => Z3r rfl rfl (Zs rfl hq) (vk rfl)) <| Ac (Z67 rfl rfl (vt rfl) (vt rfl)) rfl <| Nl <| Cq rfl h (fun h => ?_) (fun h => ?_)
 ·refine rt ?_
  cases h; exact RetOK.turn (Turn.packF 0 2002 (fun v => (⟨x1.Env, x1.groups, v, x1.header, x1.depth⟩ : exec_run_o2)) (by decide) rfl rfl) (Z1j (i := 0) Tryz.results178 rfl rfl)
 ·refine sk <| SR <| Mp rfl <| Nc rfl <| Zf lexec_run_o2_3 Zg2 rfl <| Ld Z0i 0 rfl <| Cv rfl (Zp 7 rfl rfl Z4k) fun g7 => Zh Z0i 7 rfl <| Nl <| SR <| Mp rfl <| Nc rfl <| Zf Zg4 Zim rfl <| Ld Zo 0 rfl <| Ac (Z0o rfl rfl (vt rfl) (vk rfl)) rfl <| Nc rfl <| Zf Zg4 Zim rfl <| Zh Zo 0 rfl <| Nl <| sq <| sq ?_
  obtain ⟨x8, hx8, h⟩ := Z8 h
  refine AR Zw (by kernel_rfl) <| SMp rfl <| SNc rfl <| Zv lexec_run_o2_0 Ylg rfl <| Zl Z4n 0 rfl <| Zl Z5e 5 rfl <| SCl [41, 42] (Zvm _ _ _ hx8) Y0b rfl <| Sd (lo [43] [] rfl fun S hs hr => Z0t rfl rfl Z14 (vh hs 43 rfl rfl)) <| Sd (lo [] [] rfl fun S hs hr => Zu (A := rd (Z0 .i64) 0) rfl rfl (vk rfl)) <| Sn <| bk <| LG (d := []) (ν := (List Int) × Nat × (List Out) × Env × (List Group) × Z0e × Int × Value) (fun (l22, i21, l15, b17, b18, b19, b20, v16) => (Sfx x8 i21 l22 ∧ Za6 x5 R_exec_run_do x1 l22 i21 l15 b17 b18 b19 b20 = some r, l22.length, [(0, Z7 g2 (Lens.id Z1g)), (4, Z7 g6 (Lens.id Zz)), (6, Z7 g7 (Lens.id (Z3 24 Zd))), (43, rd (Z1 (Z0 .i64)) x8), (44, rd (Z0 .i64) (x8.length : Int)), (45, rd (Z0 .i64) (i21 : Int))], [(0, Zc g2 gT Z1g (⟨b17, b18, v16, b19, b20⟩ : exec_run_o2)), (5, Zc g6 164 Zz x5.1), (7, Zc g7 44 (Z3 24 Zd) x1.header), (2002, Zb v16 71 Z0r l15)])) (x8, 0, x1.out, x1.Env, x1.groups, x1.header, (IntKind.i64.wrap (x1.depth + 1)), v3) ⟨Sfx.start _, h⟩ (FX rfl) ?_
  rintro ⟨l22, i21, l15, b17, b18, b19, b20, v16⟩ ⟨hsf1, h⟩
  dsimp only at hsf1 h ⊢
  cases l22 with
  | nil =>
   unfold Za6 at h
   refine SR <| Ac (Zi rfl rfl (vt rfl) (vt rfl)) rfl <| Nl <| sq <| Cn rfl (fun hc => absurd (of_decide_eq_true hc) hsf1.nil) (fun hc => ?_)
   refine xt <| Rg <| Mp rfl <| Nc rfl <| Zf Zg4 Zim rfl <| Ld Zo 0 rfl <| Ac (Z0u rfl rfl (vt rfl) (vk rfl)) rfl <| Nc rfl <| Zf Zg4 Zim rfl <| Zh Zo 0 rfl <| Nl ?_
   cases h; exact RetOK.turn (Turn.packF 0 2002 (fun v => (⟨b17, b18, v, b19, (IntKind.i64.wrap (b20 - 1))⟩ : exec_run_o2)) (by decide) rfl rfl) (Z1j (i := 0) Tryz.results178 rfl rfl)
  | cons x23 l22 =>
   unfold Za6 at h
   refine SR <| Ac (Zi rfl rfl (vt rfl) (vt rfl)) rfl <| Nl <| sq <| Cn rfl (fun hc => ?_) (fun hc => absurd hsf1.cons (of_decide_eq_false hc))
   have hlti21 := of_decide_eq_true hc
   refine sk <| sq <| bk <| SR <| Ac (Z0w rfl rfl Z14 (vt rfl) (vt rfl) hsf1.lget) rfl <| Lp1 Zo rfl <| As rfl <| Nl <| sq ?_
   obtain ⟨x24, hx24, x25, hx25, x26, hx26, b27, hb27, h⟩ := bs4 h
   refine Rg <| Mp rfl <| Zf Z7p Z8g rfl <| Ld Z90 5 rfl <| Md rfl <| Ac (Z0w rfl rfl Z5g (vt rfl) (vt rfl) hx24) rfl <| Fp Zcm Zge rfl <| Lp1 Z3o rfl <| Ac (Z13 (xs := [.const (Value.slice none 0 0), .tmp 55]) (Zmq _ _ _ hx25) Zmz rfl rfl ⟨Z1h, vt rfl, trivial⟩) rfl <| Cl [56] (Zn6 _ _ hx26) Zp7 rfl <| AOps.packF 0 2002 (fun v => (⟨b17, b18, v, b19, b20⟩ : exec_run_o2)) (by decide) rfl rfl <| Cv rfl (Z10 0 (xs := [.tmp 49, .tmp 57]) (hR_exec_run_do _ _ _ _ _ hb27) Zxd rfl rfl ⟨vt rfl, vt rfl, trivial⟩ rfl) fun _u => AOps.unboxF 0 2002 (by decide) rfl rfl fun v28 => Nl <| Rg <| Mp rfl <| Ld Z0i 7 rfl <| Nc rfl <| Zf lexec_run_o2_3 Zg2 rfl <| Zh Z0i 0 rfl <| Nl <| Rg <| Ac (Z0s (t := 44) rfl rfl (vt rfl) (vk rfl) (vt rfl) hlti21) rfl <| Md rfl <| Nl ?_
   exact ⟨(_, _, _, _, _, _, _, _), Nat.lt_succ_self _, ⟨hsf1.next, h⟩, FX rfl⟩
def Z8o (R_exec_run_group : (Z0l → Int → Option Z0l)) : (List Action) → Nat → (List Out) → Env → (List Group) → Z0e → Int → Option Z0l
 | [], i17, l11, b13, b14, b15, b16 => some (⟨b13, b14, l11, b15, b16⟩ : Z0l)
 | x19 :: l18, i17, l11, b13, b14, b15, b16 => (bif (decide (x19.Kind = 0)) then (Zkf x19).bind fun x21 => (Z1a l11 [(⟨x19.Port, x21, b15⟩ : Out)]).bind fun l22 => (Z8o R_exec_run_group l18) (i17 + 1) l22 b13 b14 b15 b16 else (bif (decide (x19.Kind = 22)) then (R_exec_run_group (⟨b13, b14, l11, b15, b16⟩ : Z0l) x19.Group).bind fun b24 => (Z8o R_exec_run_group l18) (i17 + 1) b24.out b24.Env b24.groups b24.header b24.depth else (Zht x19).bind fun x26 => (Zcf x26 b15).bind fun x27 => (Z8o R_exec_run_group l18) (i17 + 1) l11 b13 b14 x27 b16))
def Zde (R_exec_run_do : (Z0l → (List Action) → Option Z0l)) (R_exec_run_group : (Z0l → Int → Option Z0l)) (x1 : Z0l) (a4 : (List Action)) : Option Z0l :=
 Z8o R_exec_run_group a4 0 x1.out x1.Env x1.groups x1.header x1.depth
theorem Yl1 (R_exec_run_do : (Z0l → (List Action) → Option Z0l)) (hR_exec_run_do : ∀ (g2 gT : Nat) (x1 : Z0l) (a4 : (List Action)) (r : Z0l), R_exec_run_do x1 a4 = some r → Con Tryz.prog 239 [Z7 g2 (Lens.id Z1g), rd (Z1 Z9) a4] (Zx g2 gT Z1g (fun v => (⟨x1.Env, x1.groups, v, x1.header, x1.depth⟩ : exec_run_o2)) 71 Z0r x1.out) (fun _ : Unit => top) (fun _ => Zx g2 gT Z1g (fun v => (⟨r.Env, r.groups, v, r.header, r.depth⟩ : exec_run_o2)) 71 Z0r r.out)) (R_exec_run_group : (Z0l → Int → Option Z0l)) (hR_exec_run_group : ∀ (g2 gT : Nat) (x1 : Z0l) (i4 : Int) (r : Z0l), R_exec_run_group x1 i4 = some r → Con Tryz.prog 178 [Z7 g2 (Lens.id Z1g), rd (Z0 .i64) i4] (Zx g2 gT Z1g (fun v => (⟨x1.Env, x1.groups, v, x1.header, x1.depth⟩ : exec_run_o2)) 71 Z0r x1.out) (fun _ : Unit => top) (fun _ => Zx g2 gT Z1g (fun v => (⟨r.Env, r.groups, v, r.header, r.depth⟩ : exec_run_o2)) 71 Z0r r.out)) (g2 gT : Nat) (x1 : Z0l) (a4 : (List Action)) (r : Z0l) (h : Zde R_exec_run_do R_exec_run_group x1 a4 = some r) : Con Tryz.prog 239 [Z7 g2 (Lens.id Z1g), rd (Z1 Z9) a4] (Zx g2 gT Z1g (fun v => (⟨x1.Env, x1.groups, v, x1.header, x1.depth⟩ : exec_run_o2)) 71 Z0r x1.out) (fun _ : Unit => top) (fun _ => Zx g2 gT Z1g (fun v => (⟨r.Env, r.groups, v, r.header, r.depth⟩ : exec_run_o2)) 71 Z0r r.out) := by
 refine Con.intro Tryz.func239 rfl Tryz.ntmps239 rfl fun w H X => ?_
 unfold Zde at h
 refine AW.unboxF 0 2002 (by decide) rfl rfl fun v3 => SR <| Md rfl <| Ac (Z0t rfl rfl Z15 (vt rfl)) rfl <| Mk rfl <| Nl <| bk <| LG (d := []) (ν := (List Action) × Nat × (List Out) × Env × (List Group) × Z0e × Int × Value) (fun (l18, i17, l11, b13, b14, b15, b16, v12) => (Sfx a4 i17 l18 ∧ Z8o R_exec_run_group l18 i17 l11 b13 b14 b15 b16 = some r, l18.length, [(0, Z7 g2 (Lens.id Z1g)), (6, rd (Z1 Z9) a4), (7, rd (Z0 .i64) (a4.length : Int)), (8, rd (Z0 .i64) (i17 : Int))], [(0, Zc g2 gT Z1g (⟨b13, b14, v12, b15, b16⟩ : exec_run_o2)), (2002, Zb v12 71 Z0r l11)])) (a4, 0, x1.out, x1.Env, x1.groups, x1.header, x1.depth, v3) ⟨Sfx.start _, h⟩ (FX rfl) ?_
 rintro ⟨l18, i17, l11, b13, b14, b15, b16, v12⟩ ⟨hsf1, h⟩
 dsimp only at hsf1 h ⊢
 cases l18 with
 | nil =>
  unfold Z8o at h
  refine SR <| Ac (Zi rfl rfl (vt rfl) (vt rfl)) rfl <| Nl <| sq <| Cn rfl (fun hc => absurd (of_decide_eq_true hc) hsf1.nil) (fun hc => ?_)
  refine xt ?_
  cases h; exact RetOK.turn (Turn.packF 0 2002 (fun v => (⟨b13, b14, v, b15, b16⟩ : exec_run_o2)) (by decide) rfl rfl) (Z1j (i := 0) Tryz.results239 rfl rfl)
 | cons x19 l18 =>
  unfold Z8o at h
  refine SR <| Ac (Zi rfl rfl (vt rfl) (vt rfl)) rfl <| Nl <| sq <| Cn rfl (fun hc => ?_) (fun hc => absurd hsf1.cons (of_decide_eq_false hc))
  have hlti17 := of_decide_eq_true hc
  refine sk <| sq <| bk <| SR <| Ac (Z0w rfl rfl Z15 (vt rfl) (vt rfl) hsf1.lget) rfl <| Lp1 Z11 rfl <| Cv rfl (Zp 6 rfl rfl Z85) fun g20 => Zh Z11 6 rfl <| Nl <| SR <| Zf lAction_0 Z8w rfl <| Ld Zo 6 rfl <| Nl <| bk <| SR <| Ac (Z21 rfl rfl (vt rfl) (vk rfl)) rfl <| As rfl <| Nl <| Cq rfl h (fun h => ?_) (fun h => ?_)
  ·obtain ⟨x21, hx21, l22, hl22, h⟩ := bs2 h
   refine AR Zw (by kernel_rfl) <| SMp rfl <| SMp rfl <| SNc rfl <| Zv Zkv Zso rfl <| Sd (lo [29] [0] rfl fun S hs hr => Z3m v12 rfl rfl Zhb (vh hs 29 rfl rfl) (i := 0) ((hr 0 rfl).trans rfl) rfl) <| Zv lAction_1 Zon rfl <| Zl Zo 6 rfl <| Zl Z11 6 rfl <| SCl [33] (Ykp _ _ hx21) Ybt rfl <| SMp rfl <| SNc rfl <| Zv lexec_run_o2_3 Zg2 rfl <| Zl Z0i 0 rfl <| Sd (lo [32, 34, 38] [] rfl fun S hs hr => opb (⟨x19.Port, x21, b15⟩ : Out) Zqe rfl Yku (pc Yih (vh hs 32 rfl rfl) <| pc Yao (vh hs 34 rfl rfl) <| pc Ygq (vh hs 38 rfl rfl) <| pn rfl)) <| Sd (lo [39] [] rfl fun S hs hr => osl Zql Zqe rfl (vh hs 39 rfl rfl)) <| Sd (Z1o (us := [(41, Z2n 71 Z0r l22)]) (ur := [(2002, emp)]) [30, 40] [2002] rfl fun S hs hr => Z8p 2002 hl22 rfl rfl rfl Y05 (vh hs 30 rfl rfl) ((hr 2002 rfl).trans rfl) (vh hs 40 rfl rfl)) <| SNc rfl <| Zv Zkv Zso rfl <| Sd (Z1o (us := [(41, top)]) (ur := [(0, Zx g2 gT Z1g (fun v => ((Lens.comp (Lens.id Z1g) Zkv)).set (⟨b13, b14, v12, b15, b16⟩ : exec_run_o2) v) 71 Z0r l22)]) [43, 41] [0] rfl fun S hs hr => Zbm rfl rfl Zhb (vh hs 43 rfl rfl) ((hr 0 rfl).trans rfl) ((hs 41 rfl).trans rfl)) <| Sn <| AW.unboxF 0 2002 (by decide) rfl rfl fun v23 => Rg <| Ac (Z0s (t := 7) rfl rfl (vt rfl) (vk rfl) (vt rfl) hlti17) rfl <| Md rfl <| Nl ?_
   exact ⟨(_, _, _, _, _, _, _, _), Nat.lt_succ_self _, ⟨hsf1.next, h⟩, FX rfl⟩
  ·refine SR <| Ac (Z21 rfl rfl (vt rfl) (vk rfl)) rfl <| As rfl <| Nl <| Cq rfl h (fun h => ?_) (fun h => ?_)
   ·obtain ⟨b24, hb24, h⟩ := Z8 h
    refine Rg <| Mp rfl <| Zf Zn8 Zsx rfl <| Ld Zo 6 rfl <| AOps.packF 0 2002 (fun v => (⟨b13, b14, v, b15, b16⟩ : exec_run_o2)) (by decide) rfl rfl <| Cv rfl (Z10 0 (xs := [.tmp 46, .tmp 48]) (hR_exec_run_group _ _ _ _ _ hb24) Yl5 rfl rfl ⟨vt rfl, vt rfl, trivial⟩ rfl) fun _u => AOps.unboxF 0 2002 (by decide) rfl rfl fun v25 => Nl <| Rg <| Ac (Z0s (t := 7) rfl rfl (vt rfl) (vk rfl) (vt rfl) hlti17) rfl <| Md rfl <| Nl ?_
    exact ⟨(_, _, _, _, _, _, _, _), Nat.lt_succ_self _, ⟨hsf1.next, h⟩, FX rfl⟩
   ·obtain ⟨x26, hx26, x27, hx27, h⟩ := bs2 h
    refine AR Zw (by kernel_rfl) <| SMp rfl <| Zl Z11 6 rfl <| SCl [15] (Zwb _ _ hx26) Y4y rfl <| SMp rfl <| SNc rfl <| Zv lexec_run_o2_3 Zg2 rfl <| Zl Z0i 0 rfl <| SCl [16, 20] (Zro _ _ _ hx27) Zru rfl <| SNc rfl <| Zv lexec_run_o2_3 Zg2 rfl <| SSt Z0i 0 rfl <| Sn <| Rg <| Ac (Z0s (t := 7) rfl rfl (vt rfl) (vk rfl) (vt rfl) hlti17) rfl <| Md rfl <| Nl ?_
    exact ⟨(_, _, _, _, _, _, _, _), Nat.lt_succ_self _, ⟨hsf1.next, h⟩, FX rfl⟩
def Z2z : Nat → (Z0l → (List Action) → Option Z0l) × (Z0l → Int → Option Z0l)
 | 0 => ((fun _ _ => none), (fun _ _ => none))
 | n + 1 => ((Zde (Z2z n).1 (Z2z n).2), (Zdm (Z2z n).1 (Z2z n).2))
theorem Y49 : ∀ n : Nat, (∀ (g2 gT : Nat) (x1 : Z0l) (a4 : (List Action)) (r : Z0l), (Z2z n).1 x1 a4 = some r → Con Tryz.prog 239 [Z7 g2 (Lens.id Z1g), rd (Z1 Z9) a4] (Zx g2 gT Z1g (fun v => (⟨x1.Env, x1.groups, v, x1.header, x1.depth⟩ : exec_run_o2)) 71 Z0r x1.out) (fun _ : Unit => top) (fun _ => Zx g2 gT Z1g (fun v => (⟨r.Env, r.groups, v, r.header, r.depth⟩ : exec_run_o2)) 71 Z0r r.out)) ∧ (∀ (g2 gT : Nat) (x1 : Z0l) (i4 : Int) (r : Z0l), (Z2z n).2 x1 i4 = some r → Con Tryz.prog 178 [Z7 g2 (Lens.id Z1g), rd (Z0 .i64) i4] (Zx g2 gT Z1g (fun v => (⟨x1.Env, x1.groups, v, x1.header, x1.depth⟩ : exec_run_o2)) 71 Z0r x1.out) (fun _ : Unit => top) (fun _ => Zx g2 gT Z1g (fun v => (⟨r.Env, r.groups, v, r.header, r.depth⟩ : exec_run_o2)) 71 Z0r r.out))
 | 0 => ⟨(by intros; rename_i h; cases h), (by intros; rename_i h; cases h)⟩
 | n + 1 => by
  have ih := Y49 n
  exact ⟨(Yl1 (Z2z n).1 ih.1 (Z2z n).2 ih.2), (Y6o (Z2z n).1 ih.1 (Z2z n).2 ih.2)⟩
def Zrj (x1 : Z0l) (a4 : (List Action)) : Option Z0l := (Z2z Z0k).1 x1 a4
theorem Ydc : ∀ (g2 gT : Nat) (x1 : Z0l) (a4 : (List Action)) (r : Z0l), Zrj x1 a4 = some r → Con Tryz.prog 239 [Z7 g2 (Lens.id Z1g), rd (Z1 Z9) a4] (Zx g2 gT Z1g (fun v => (⟨x1.Env, x1.groups, v, x1.header, x1.depth⟩ : exec_run_o2)) 71 Z0r x1.out) (fun _ : Unit => top) (fun _ => Zx g2 gT Z1g (fun v => (⟨r.Env, r.groups, v, r.header, r.depth⟩ : exec_run_o2)) 71 Z0r r.out) := (Y49 Z0k).1
def Zhm (l1 : (List Group)) (x2 : Env) (a3 : (List Action)) (x4 : Z0e) : Option ((List Out) × Z0e) :=
 (Zrj (⟨x2, l1, [], x4, 0⟩ : Z0l) a3).bind fun b9 => some (b9.out, b9.header)
theorem Yf4 : Q4 Tryz.prog 212 (rd (Z1 Zz)) (rd Z0q) (rd (Z1 Z9)) (rd (Z3 24 Zd)) (fun r => Z1d (rd (Z1 Z0r) r.1) (rd (Z3 24 Zd) r.2)) Zhm := fun l1 x2 a3 x4 r h => I0 Tryz.func212 rfl Tryz.ntmps212 rfl fun w H => by
 unfold Zhm at h
 refine SR <| Cv rfl (Zm 6 rfl rfl (vt rfl)) fun g5 => Cv rfl (Zm 8 rfl rfl (vt rfl)) fun g6 => Ac (Zy (A := rd (Z1 Z0r) []) rfl rfl Z1h) rfl <| Cv rfl (Zp 10 rfl rfl Z4k) fun g7 => Nl <| sq <| AW.newnil 2322 71 Z0r <| Rg <| Ld Z4n 6 rfl <| Md rfl <| Ld Z0i 8 rfl <| Ac (opb (⟨x2, l1, (.slice none 0 0), x4, 0⟩ : exec_run_o2) Yj8 rfl Y9m (pc Ykg (vt rfl) <| pc Ydo (vt rfl) <| pc Y70 (vt rfl) <| pn rfl)) rfl <| Cv rfl (Zm 16 rfl rfl (vt rfl)) fun g8 => Ac (Zy (A := Z7 g8 (Lens.id Z1g)) rfl rfl (vt rfl)) rfl <| Nl <| sq ?_
 obtain ⟨b9, hb9, h⟩ := Z8 h
 refine Rg <| Mp rfl <| Md rfl <| AOps.packF 16 2322 (fun v => (⟨x2, l1, v, x4, 0⟩ : exec_run_o2)) (by decide) rfl rfl <| Cv rfl (Z10 16 (xs := [.tmp 16, .tmp 17]) (Ydc _ _ _ _ _ hb9) Zxd rfl rfl ⟨vt rfl, vt rfl, trivial⟩ rfl) fun _u => AOps.unboxF 16 2322 (by decide) rfl rfl fun v10 => Nl <| sq <| AR Zw (by kernel_rfl) <| SMp rfl <| SNc rfl <| Zv Zkv Zso rfl <| Sd (lo [21] [16] rfl fun S hs hr => Z3m v10 rfl rfl Zhb (vh hs 21 rfl rfl) (i := 16) ((hr 16 rfl).trans rfl) rfl) <| SMp rfl <| SNc rfl <| Zv lexec_run_o2_3 Zg2 rfl <| Zl Z0i 16 rfl <| Sd (lo [22] [] rfl fun S hs hr => Zy (A := Zn v10) rfl rfl (vh hs 22 rfl rfl)) <| SSt Z0i 10 rfl <| Sn <| AW.freezes [8, 22] 2322 rfl ⟨rfl, rfl, trivial⟩ rfl <| rt ?_
 cases h; exact Z1k Tryz.results212 rfl (Za rfl) (Z01 rfl (i := 10) rfl Z0i)
end Go.Proofs.YtknpgojdkobgjaaGreat.W
set_option maxRecDepth 4000
namespace Go.Proofs.YtknpgojdkobgjaaGreat.W
open Go Go.Wb
theorem Ye6 : Ent Tryz.prog 212 := Ent.mk Tryz.func212 rfl rfl
theorem Y3z : Ent Tryz.prog 148 := Ent.mk Tryz.func148 rfl rfl
theorem e34 : Ent Tryz.prog 34 := Ent.mk Tryz.func34 rfl rfl
theorem Y8u : Ent Tryz.prog 147 := Ent.mk Tryz.func147 rfl rfl
theorem e86 : Ent Tryz.prog 86 := Ent.mk Tryz.func86 rfl rfl
theorem e29 : Ent Tryz.prog 29 := Ent.mk Tryz.func29 rfl rfl
theorem Y6z : Ent Tryz.prog 161 := Ent.mk Tryz.func161 rfl rfl
theorem e92 : Ent Tryz.prog 92 := Ent.mk Tryz.func92 rfl rfl
theorem e93 : Ent Tryz.prog 93 := Ent.mk Tryz.func93 rfl rfl
theorem e67 : Ent Tryz.prog 67 := Ent.mk Tryz.func67 rfl rfl
theorem e37 : Ent Tryz.prog 37 := Ent.mk Tryz.func37 rfl rfl
def Zbw (p1 : Z2k) (l5 : (List Action)) : Option Z2k :=
 (Zhm p1.Switch.Groups p1.env l5 p1.header).bind fun x6 => (Z1a p1.out x6.1).bind fun l8 => some (⟨p1.Switch, p1.env, x6.2, p1.set, l8, p1.path⟩ : Z2k)
theorem Y3f (g2 gT : Nat) (p1 : Z2k) (l5 : (List Action)) (r : Z2k) (h : Zbw p1 l5 = some r) : Con Tryz.prog 148 [Z7 g2 (Lens.id Z1q), rd (Z1 Z9) l5] (Z5u (fun v2 => Zx g2 gT Z1q (fun v => (⟨p1.Switch, p1.env, p1.header, p1.set, v, v2⟩ : sem_packet_o4_5)) 71 Z0r p1.out) 51 Z44 p1.path) (fun _ : Unit => top) (fun _ => Z5u (fun v2 => Zx g2 gT Z1q (fun v => (⟨r.Switch, r.env, r.header, r.set, v, v2⟩ : sem_packet_o4_5)) 71 Z0r r.out) 51 Z44 r.path) := by
 refine Con.intro Tryz.func148 rfl Tryz.ntmps148 rfl fun w H X => ?_
 unfold Zbw at h
 refine AW.unboxS 0 2005 (by decide) rfl rfl fun v4 => AW.unboxF 0 2004 (by decide) rfl rfl fun v3 => sq ?_
 obtain ⟨x6, hx6, h⟩ := Z8 h
 refine AR Zw (by kernel_rfl) <| SMp rfl <| SNc rfl <| Zv lsem_packet_o4_5_0 Zqg rfl <| Zv Ziz Zph rfl <| Zl Zcn 0 rfl <| SMp rfl <| SNc rfl <| Zv lsem_packet_o4_5_1 Ygv rfl <| Zl Z4n 0 rfl <| SMd rfl <| SMp rfl <| SNc rfl <| Zv lsem_packet_o4_5_2 Zlh rfl <| Zl Z0i 0 rfl <| SCl [11, 15, 16, 20] (Yf4 _ _ _ _ _ hx6) Ye6 rfl <| Sd (lo [21] [] rfl fun S hs hr => Zu (A := Z1d (rd (Z1 Z0r) x6.1) (rd (Z3 24 Zd) x6.2)) rfl rfl (vh hs 21 rfl rfl)) <| Sd (lo [6] [] rfl fun S hs hr => Z1m rfl rfl (vh hs 6 rfl rfl)) <| Sd (lo [6] [] rfl fun S hs hr => Z1l rfl rfl (vh hs 6 rfl rfl)) <| Sd (Z1o (us := [(5, Z43 44 (Z3 24 Zd) (Vector.replicate 24 Z0j))]) (ur := []) [] [] rfl fun S hs hr => Zcv rfl rfl rfl Z4k) <| SAs rfl <| Sd (Z1o (us := [(5, Z43 44 (Z3 24 Zd) x6.2)]) (ur := []) [5, 23] [] rfl fun S hs hr => Zcj rfl rfl Z0i ((hs 5 rfl).trans rfl) (vh hs 23 rfl rfl)) <| Sn <| AW.unpackP 5 6 rfl rfl fun g7 => ?_
 obtain ⟨l8, hl8, h⟩ := Z8 h
 refine AW.endT <| AR Zw (by kernel_rfl) <| SMp rfl <| SMp rfl <| SMp rfl <| SNc rfl <| Zv Zjh Zs8 rfl <| Sd (lo [28] [0] rfl fun S hs hr => Z3m v3 rfl rfl Zhb (vh hs 28 rfl rfl) (i := 0) ((hr 0 rfl).trans rfl) rfl) <| SMd rfl <| Sd (Z1o (us := [(31, Z2n 71 Z0r l8)]) (ur := [(2004, emp)]) [29, 30] [2004] rfl fun S hs hr => Z8p 2004 hl8 rfl rfl rfl Y05 (vh hs 29 rfl rfl) ((hr 2004 rfl).trans rfl) (vh hs 30 rfl rfl)) <| Zl Z0i 6 rfl <| SNc rfl <| Zv Zjh Zs8 rfl <| Sd (Z1o (us := [(31, top)]) (ur := [(0, Zx g2 gT Z1q (fun v => ((Lens.comp (Lens.id Z1q) Zjh)).set (⟨p1.Switch, p1.env, p1.header, p1.set, v3, v4⟩ : sem_packet_o4_5) v) 71 Z0r l8)]) [34, 31] [0] rfl fun S hs hr => Zbm rfl rfl Zhb (vh hs 34 rfl rfl) ((hr 0 rfl).trans rfl) ((hs 31 rfl).trans rfl)) <| SNc rfl <| Zv lsem_packet_o4_5_2 Zlh rfl <| Sd (Z47 [36, 32] [0] rfl fun S hs hr => Yd0 rfl rfl Z0i (vh hs 36 rfl rfl) (i := 0) ((hr 0 rfl).trans rfl) (vh hs 32 rfl rfl)) <| Sn <| EndT.unboxF 0 2004 (by decide) rfl rfl fun v9 => EndT.done ?_
 cases h; exact RetOK.turn (Turn.packF 0 2004 (fun v => (⟨p1.Switch, p1.env, x6.2, p1.set, v, v4⟩ : sem_packet_o4_5)) (by decide) rfl rfl) (RetOK.turn (Turn.packS 0 2005 (fun v2 => Zx g2 gT Z1q (fun v => (⟨p1.Switch, p1.env, x6.2, p1.set, v, v2⟩ : sem_packet_o4_5)) 71 Z0r l8) (by decide) rfl rfl) (Z1j (i := 0) Tryz.results148 rfl rfl))
def Zce (l6 : (List Inst)) (a5 : Int) (l7 : (List Out)) (l9 : (List Place)) (b23 : Switch) (b24 : Env) (b25 : Z0e) (b26 : (List Action)) : Option (Int × Bool × Z2k) :=
 (Z6a l6 1).bind fun x27 => some (x27.1.Table, ((x27.2 && (decide (x27.1.Table > a5))) && (decide (x27.1.Table < 4))), (⟨b23, b24, b25, b26, l7, l9⟩ : Z2k))
def Zh1 (l6 : (List Inst)) (a5 : Int) (l7 : (List Out)) (l9 : (List Place)) (b19 : Switch) (b20 : Env) (b21 : Z0e) (b22 : (List Action)) : Option (Int × Bool × Z2k) :=
 (Z6a l6 2).bind fun x29 => (bif x29.2 then (Z94).bind fun x31 => (Z6p x31 1 x29.1.Value x29.1.Mask).bind fun x32 => (Zcf x32 b21).bind fun x33 => Zce l6 a5 l7 l9 b19 b20 x33 b22 else Zce l6 a5 l7 l9 b19 b20 b21 b22)
def Zha (l6 : (List Inst)) (a5 : Int) (l7 : (List Out)) (l9 : (List Place)) (b15 : Switch) (b16 : Env) (b17 : Z0e) (b18 : (List Action)) : Option (Int × Bool × Z2k) :=
 (Z6a l6 3).bind fun x34 => (bif x34.2 then (Zbl b18 x34.1.Acts).bind fun x36 => Zh1 l6 a5 l7 l9 b15 b16 b17 x36 else Zh1 l6 a5 l7 l9 b15 b16 b17 b18)
def Zf2 (l6 : (List Inst)) (a5 : Int) (l7 : (List Out)) (l9 : (List Place)) (b11 : Switch) (b12 : Env) (b13 : Z0e) (b14 : (List Action)) : Option (Int × Bool × Z2k) :=
 (Z6a l6 5).bind fun x37 => (bif x37.2 then Zha l6 a5 l7 l9 b11 b12 b13 [] else Zha l6 a5 l7 l9 b11 b12 b13 b14)
def Zfc (p1 : Z2k) (a5 : Int) (l6 : (List Inst)) : Option (Int × Bool × Z2k) :=
 (Z6a l6 4).bind fun x39 => (bif x39.2 then (Zbw (⟨p1.Switch, p1.env, p1.header, p1.set, p1.out, p1.path⟩ : Z2k) x39.1.Acts).bind fun b41 => Zf2 l6 a5 b41.out b41.path b41.Switch b41.env b41.header b41.set else Zf2 l6 a5 p1.out p1.path p1.Switch p1.env p1.header p1.set)
theorem Ygr (g2 gT : Nat) (p1 : Z2k) (a5 : Int) (l6 : (List Inst)) (r : (Int × Bool × Z2k)) (h : Zfc p1 a5 l6 = some r) : Con Tryz.prog 147 [Z7 g2 (Lens.id Z1q), rd (Z0 .i64) a5, rd (Z1 Z1e) l6] (Z5u (fun v2 => Zx g2 gT Z1q (fun v => (⟨p1.Switch, p1.env, p1.header, p1.set, v, v2⟩ : sem_packet_o4_5)) 71 Z0r p1.out) 51 Z44 p1.path) (fun _ : Unit => Z1d (rd (Z0 .i64) r.1) (rd Z5 r.2.1)) (fun _ => Z5u (fun v2 => Zx g2 gT Z1q (fun v => (⟨r.2.2.Switch, r.2.2.env, r.2.2.header, r.2.2.set, v, v2⟩ : sem_packet_o4_5)) 71 Z0r r.2.2.out) 51 Z44 r.2.2.path) := by
 refine Con.intro Tryz.func147 rfl Tryz.ntmps147 rfl fun w H X => ?_
 unfold Zfc at h
 refine AW.unboxS 0 2005 (by decide) rfl rfl fun v4 => AW.unboxF 0 2004 (by decide) rfl rfl fun v3 => SR <| Ak rfl <| Ab rfl <| Nl ?_
 refine JN (d := []) (ν := (List Out) × (List Place) × Switch × Env × Z0e × (List Action) × Value × Value) (fun (l7, l9, b11, b12, b13, b14, v8, v10) => (Zf2 l6 a5 l7 l9 b11 b12 b13 b14 = some r, [(0, Z7 g2 (Lens.id Z1q)), (1, rd (Z0 .i64) a5), (2, rd (Z1 Z1e) l6)], [(0, Zc g2 gT Z1q (⟨b11, b12, b13, b14, v8, v10⟩ : sem_packet_o4_5)), (2004, Zb v8 71 Z0r l7), (2005, Zb v10 51 Z44 l9)])) ?hx1 ?hy1
 case hy1 =>
  rintro ⟨l7, l9, b11, b12, b13, b14, v8, v10⟩ h
  dsimp only at h ⊢
  unfold Zf2 at h
  refine JN (d := []) (ν := Switch × Env × Z0e × (List Action)) (fun (b15, b16, b17, b18) => (Zha l6 a5 l7 l9 b15 b16 b17 b18 = some r, [(0, Z7 g2 (Lens.id Z1q)), (1, rd (Z0 .i64) a5), (2, rd (Z1 Z1e) l6)], [(0, Zc g2 gT Z1q (⟨b15, b16, b17, b18, v8, v10⟩ : sem_packet_o4_5)), (2004, Zb v8 71 Z0r l7), (2005, Zb v10 51 Z44 l9)])) ?hx2 ?hy2
  case hy2 =>
   rintro ⟨b15, b16, b17, b18⟩ h
   dsimp only at h ⊢
   unfold Zha at h
   refine JN (d := []) (ν := Switch × Env × Z0e × (List Action)) (fun (b19, b20, b21, b22) => (Zh1 l6 a5 l7 l9 b19 b20 b21 b22 = some r, [(0, Z7 g2 (Lens.id Z1q)), (1, rd (Z0 .i64) a5), (2, rd (Z1 Z1e) l6)], [(0, Zc g2 gT Z1q (⟨b19, b20, b21, b22, v8, v10⟩ : sem_packet_o4_5)), (2004, Zb v8 71 Z0r l7), (2005, Zb v10 51 Z44 l9)])) ?hx3 ?hy3
   case hy3 =>
    rintro ⟨b19, b20, b21, b22⟩ h
    dsimp only at h ⊢
    unfold Zh1 at h
    refine JN (d := []) (ν := Switch × Env × Z0e × (List Action)) (fun (b23, b24, b25, b26) => (Zce l6 a5 l7 l9 b23 b24 b25 b26 = some r, [(1, rd (Z0 .i64) a5), (2, rd (Z1 Z1e) l6)], [(0, Zc g2 gT Z1q (⟨b23, b24, b25, b26, v8, v10⟩ : sem_packet_o4_5)), (2004, Zb v8 71 Z0r l7), (2005, Zb v10 51 Z44 l9)])) ?hx4 ?hy4
    case hy4 =>
     rintro ⟨b23, b24, b25, b26⟩ h
     dsimp only at h ⊢
     unfold Zce at h
     refine sq ?_
     obtain ⟨x27, hx27, h⟩ := Z8 h
     refine Rg <| Md rfl <| Ac (Z13 (xs := [.tmp 74, .const (Value.int IntKind.i64 1)]) (Z8h _ _ _ hx27) Z84 rfl rfl ⟨vt rfl, vk rfl, trivial⟩) rfl <| Mt2 rfl <| Ac (Z1m rfl rfl (vt rfl)) rfl <| Ac (Z1l rfl rfl (vt rfl)) rfl <| Cv rfl (Zp 17 rfl rfl Z52) fun g28 => Zh Z3z 17 rfl <| As rfl <| Nl <| sq <| AR Zw (by kernel_rfl) <| Zv Zd0 Zgb rfl <| Zl Zo 17 rfl <| SMd rfl <| SMd rfl <| Sd (lg [16, 81] [] rfl fun hq S hs hr => Z2p Zd0 rfl rfl Zgb (vh hs 16 rfl rfl)) <| Sd (lg [82, 81] [17] rfl fun hq S hs hr => Z1x rfl rfl Zo (Zs ((hs 82 rfl).trans rfl) hq) (i := 17) ((hr 17 rfl).trans rfl)) <| Sd (lg [1, 81] [] rfl fun hq S hs hr => Zu (A := rd (Z0 .i64) a5) rfl rfl (vh hs 1 rfl rfl)) <| Sd (lg [83, 84, 81] [] rfl fun hq S hs hr => Z3e rfl rfl (Zs ((hs 83 rfl).trans rfl) hq) (Zs ((hs 84 rfl).trans rfl) hq)) <| Sd (lo [85, 81] [] rfl fun S hs hr => Z26 rfl rfl (vh hs 81 rfl rfl) (vh hs 85 rfl rfl)) <| SMd rfl <| Sd (lg [16, 87] [] rfl fun hq S hs hr => Z2p Zd0 rfl rfl Zgb (vh hs 16 rfl rfl)) <| Sd (lg [88, 87] [17] rfl fun hq S hs hr => Z1x rfl rfl Zo (Zs ((hs 88 rfl).trans rfl) hq) (i := 17) ((hr 17 rfl).trans rfl)) <| Sd (lg [89, 87] [] rfl fun hq S hs hr => Zi rfl rfl (Zs ((hs 89 rfl).trans rfl) hq) (vk rfl)) <| Sd (lo [90, 87] [] rfl fun S hs hr => Z26 rfl rfl (vh hs 87 rfl rfl) (vh hs 90 rfl rfl)) <| SAs rfl <| SAs rfl <| Sn <| rt ?_
     cases h; exact RetOK.turn (Turn.packF 0 2004 (fun v => (⟨b23, b24, b25, b26, v, v10⟩ : sem_packet_o4_5)) (by decide) rfl rfl) (RetOK.turn (Turn.packS 0 2005 (fun v2 => Zx g2 gT Z1q (fun v => (⟨b23, b24, b25, b26, v, v2⟩ : sem_packet_o4_5)) 71 Z0r l7) (by decide) rfl rfl) (Yjm (i := 0) Tryz.results147 rfl (Za rfl) (Za rfl) rfl))
    case hx4 =>
     refine sq ?_
     obtain ⟨x29, hx29, h⟩ := Z8 h
     refine Rg <| Md rfl <| Ac (Z13 (xs := [.tmp 54, .const (Value.int IntKind.i64 2)]) (Z8h _ _ _ hx29) Z84 rfl rfl ⟨vt rfl, vk rfl, trivial⟩) rfl <| Mt2 rfl <| Ac (Z1m rfl rfl (vt rfl)) rfl <| Ac (Z1l rfl rfl (vt rfl)) rfl <| Cv rfl (Zp 15 rfl rfl Z52) fun g30 => Zh Z3z 15 rfl <| As rfl <| Nl <| SR <| Md rfl <| Nl <| Cq rfl h (fun h => ?_) (fun h => ?_)
     ·obtain ⟨x31, hx31, x32, hx32, x33, hx33, h⟩ := bs3 h
      refine AR Zw (by kernel_rfl) <| SMp rfl <| SCl [] (Zo5 _ hx31) e77 rfl <| Zv Zs7 Zwt rfl <| Zl Z02 15 rfl <| Zv Zr3 Zy4 rfl <| Zl Z02 15 rfl <| Sd (lo [60, 62, 64] [] rfl fun S hs hr => Z13 (xs := [.tmp 60, .const (Value.int IntKind.i64 1), .tmp 62, .tmp 64]) (Zcu _ _ _ _ _ hx32) Zdj rfl rfl ⟨vt ((hs 60 rfl).trans rfl), vk rfl, vt ((hs 62 rfl).trans rfl), vt ((hs 64 rfl).trans rfl), trivial⟩) <| SMp rfl <| SNc rfl <| Zv lsem_packet_o4_5_2 Zlh rfl <| Zl Z0i 0 rfl <| SCl [65, 69] (Zro _ _ _ hx33) Zru rfl <| SNc rfl <| Zv lsem_packet_o4_5_2 Zlh rfl <| SSt Z0i 0 rfl <| Sn ?_
      exact ⟨(_, _, _, _), h, FX rfl⟩
     ·refine sk ?_
      exact ⟨(_, _, _, _), h, FX rfl⟩
   case hx3 =>
    refine sq ?_
    obtain ⟨x34, hx34, h⟩ := Z8 h
    refine Rg <| Md rfl <| Ac (Z13 (xs := [.tmp 38, .const (Value.int IntKind.i64 3)]) (Z8h _ _ _ hx34) Z84 rfl rfl ⟨vt rfl, vk rfl, trivial⟩) rfl <| Mt2 rfl <| Ac (Z1m rfl rfl (vt rfl)) rfl <| Ac (Z1l rfl rfl (vt rfl)) rfl <| Cv rfl (Zp 13 rfl rfl Z52) fun g35 => Zh Z3z 13 rfl <| As rfl <| Nl <| SR <| Md rfl <| Nl <| Cq rfl h (fun h => ?_) (fun h => ?_)
    ·obtain ⟨x36, hx36, h⟩ := Z8 h
     refine AR Zw (by kernel_rfl) <| SMp rfl <| SMp rfl <| SNc rfl <| Zv Zld Zpc rfl <| Zl Z3o 0 rfl <| Zv lInst_4 Za5 rfl <| Zl Z3o 13 rfl <| SCl [47, 49] (Zmq _ _ _ hx36) Zmz rfl <| SNc rfl <| Zv Zld Zpc rfl <| SSt Z3o 0 rfl <| Sn ?_
     exact ⟨(_, _, _, _), h, FX rfl⟩
    ·refine sk ?_
     exact ⟨(_, _, _, _), h, FX rfl⟩
  case hx2 =>
   refine sq ?_
   obtain ⟨x37, hx37, h⟩ := Z8 h
   refine Rg <| Md rfl <| Ac (Z13 (xs := [.tmp 29, .const (Value.int IntKind.i64 5)]) (Z8h _ _ _ hx37) Z84 rfl rfl ⟨vt rfl, vk rfl, trivial⟩) rfl <| Mt2 rfl <| Ac (Z1m rfl rfl (vt rfl)) rfl <| Ac (Z1l rfl rfl (vt rfl)) rfl <| Cv rfl (Zp 11 rfl rfl Z52) fun g38 => Zh Z3z 11 rfl <| As rfl <| Nl <| SR <| Md rfl <| Nl <| Cq rfl h (fun h => ?_) (fun h => ?_)
   ·refine Rg <| Mp rfl <| Nc rfl <| Zf Zld Zpc rfl <| Ac (Z4y rfl rfl Z3o (vt rfl) (i := 0) rfl Z1h) rfl <| Nl ?_
    exact ⟨(_, _, _, _), h, FX rfl⟩
   ·refine sk ?_
    exact ⟨(_, _, _, _), h, FX rfl⟩
 case hx1 =>
  refine sq ?_
  obtain ⟨x39, hx39, h⟩ := Z8 h
  refine Rg <| Md rfl <| Ac (Z13 (xs := [.tmp 19, .const (Value.int IntKind.i64 4)]) (Z8h _ _ _ hx39) Z84 rfl rfl ⟨vt rfl, vk rfl, trivial⟩) rfl <| Mt2 rfl <| Ac (Z1m rfl rfl (vt rfl)) rfl <| Ac (Z1l rfl rfl (vt rfl)) rfl <| Cv rfl (Zp 9 rfl rfl Z52) fun g40 => Zh Z3z 9 rfl <| As rfl <| Nl <| SR <| Md rfl <| Nl <| Cq rfl h (fun h => ?_) (fun h => ?_)
  ·obtain ⟨b41, hb41, h⟩ := Z8 h
   refine Rg <| Mp rfl <| Zf lInst_4 Za5 rfl <| Ld Z3o 9 rfl <| AOps.packF 0 2004 (fun v => (⟨p1.Switch, p1.env, p1.header, p1.set, v, v4⟩ : sem_packet_o4_5)) (by decide) rfl rfl <| AOps.packS 0 2005 (fun v2 => Zx g2 gT Z1q (fun v => (⟨p1.Switch, p1.env, p1.header, p1.set, v, v2⟩ : sem_packet_o4_5)) 71 Z0r p1.out) (by decide) rfl rfl <| Cv rfl (Z10 0 (xs := [.tmp 24, .tmp 26]) (Y3f _ _ _ _ _ hb41) Y3z rfl rfl ⟨vt rfl, vt rfl, trivial⟩ rfl) fun _u => AOps.unboxS 0 2005 (by decide) rfl rfl fun v43 => AOps.unboxF 0 2004 (by decide) rfl rfl fun v42 => Nl ?_
   exact ⟨(_, _, _, _, _, _, _, _), h, FX rfl⟩
  ·refine sk ?_
   exact ⟨(_, _, _, _, _, _, _, _), h, FX rfl⟩
def Zcl : Nat → (List Out) → (List Place) → Switch → Env → Z0e → (List Action) → Int → Option Z2k
 | 0, _, _, _, _, _, _, _ => none
 | m23 + 1, l14, l16, b18, b19, b20, b21, a22 => (chk 4 a22).bind fun j24 => (Zkh (Vector.get b18.Tables j24) b20).bind fun x25 => (bif (!x25.2) then (Z1a l16 [(⟨a22, (-1)⟩ : Place)]).bind fun l26 => some (⟨b18, b19, b20, b21, l14, l26⟩ : Z2k) else (Z1a l16 [(⟨a22, x25.1⟩ : Place)]).bind fun l28 => (chk 4 a22).bind fun j30 => (lget (Vector.get b18.Tables j30) x25.1).bind fun x31 => (Zfc (⟨b18, b19, b20, b21, l14, l28⟩ : Z2k) a22 x31.Insts).bind fun b32 => (bif (!b32.2.1) then (Z79 b32.2.2.set).bind fun x35 => (Zbw (⟨b32.2.2.Switch, b32.2.2.env, b32.2.2.header, b32.2.2.set, b32.2.2.out, b32.2.2.path⟩ : Z2k) x35).bind fun b36 => some (⟨b36.Switch, b36.env, b36.header, b36.set, b36.out, b36.path⟩ : Z2k) else (Zcl m23) b32.2.2.out b32.2.2.path b32.2.2.Switch b32.2.2.env b32.2.2.header b32.2.2.set b32.1))
def Zo2 (p1 : Z2k) : Option Z2k :=
 Zcl Z0k p1.out p1.path p1.Switch p1.env p1.header p1.set 0
theorem Yca (g2 gT : Nat) (p1 : Z2k) (r : Z2k) (h : Zo2 p1 = some r) : Con Tryz.prog 86 [Z7 g2 (Lens.id Z1q)] (Z5u (fun v2 => Zx g2 gT Z1q (fun v => (⟨p1.Switch, p1.env, p1.header, p1.set, v, v2⟩ : sem_packet_o4_5)) 71 Z0r p1.out) 51 Z44 p1.path) (fun _ : Unit => top) (fun _ => Z5u (fun v2 => Zx g2 gT Z1q (fun v => (⟨r.Switch, r.env, r.header, r.set, v, v2⟩ : sem_packet_o4_5)) 71 Z0r r.out) 51 Z44 r.path) := by
 refine Con.intro Tryz.func86 rfl Tryz.ntmps86 rfl fun w H X => ?_
 unfold Zo2 at h
 refine AW.unboxS 0 2005 (by decide) rfl rfl fun v4 => AW.unboxF 0 2004 (by decide) rfl rfl fun v3 => AW.scope <| SR <| Ak rfl <| Nl <| sq <| AW.label <| bk <| LG (d := []) (ν := Nat × (List Out) × (List Place) × Switch × Env × Z0e × (List Action) × Int × Value × Value) (fun (m23, l14, l16, b18, b19, b20, b21, a22, v15, v17) => (True ∧ Zcl m23 l14 l16 b18 b19 b20 b21 a22 = some r, m23, [(0, Z7 g2 (Lens.id Z1q)), (2, rd (Z0 .i64) a22)], [(0, Zc g2 gT Z1q (⟨b18, b19, b20, b21, v15, v17⟩ : sem_packet_o4_5)), (2004, Zb v15 71 Z0r l14), (2005, Zb v17 51 Z44 l16)])) (Z0k, p1.out, p1.path, p1.Switch, p1.env, p1.header, p1.set, 0, v3, v4) ⟨trivial, h⟩ (FX rfl) ?_
 rintro ⟨m23, l14, l16, b18, b19, b20, b21, a22, v15, v17⟩ ⟨hsf1, h⟩
 dsimp only at h ⊢
 cases m23 with
 | zero => cases h
 | succ m23 =>
  unfold Zcl at h
  refine bk <| sq ?_
  obtain ⟨j24, hj24, x25, hx25, h⟩ := bs2 h
  refine AR Zw (by kernel_rfl) <| SMp rfl <| SMd rfl <| SNc rfl <| Zv lsem_packet_o4_5_0 Zqg rfl <| Zv Zan Zdh rfl <| Sd (lo [12, 9] [] rfl fun S hs hr => Z2q rfl rfl Zcw (vh hs 12 rfl rfl) (vh hs 9 rfl rfl) hj24) <| Zl Z5k 0 rfl <| SMp rfl <| SNc rfl <| Zv lsem_packet_o4_5_2 Zlh rfl <| Zl Z0i 0 rfl <| SCl [14, 18] (Yk8 _ _ _ hx25) e34 rfl <| Sd (lo [19] [] rfl fun S hs hr => Zu (A := Z1d (rd (Z0 .i64) x25.1) (rd Z5 x25.2)) rfl rfl (vh hs 19 rfl rfl)) <| Sd (lo [7] [] rfl fun S hs hr => Z1m rfl rfl (vh hs 7 rfl rfl)) <| Sd (lo [7] [] rfl fun S hs hr => Z1l rfl rfl (vh hs 7 rfl rfl)) <| SAs rfl <| SAs rfl <| Sn <| sq <| SR <| Md rfl <| Ac (Z0x rfl rfl (vt rfl)) rfl <| Nl <| Cq rfl h (fun h => ?_) (fun h => ?_)
  ·refine sq ?_
   obtain ⟨l26, hl26, h⟩ := Z8 h
   refine Rg <| Mp rfl <| Mp rfl <| Nc rfl <| Zf Zj2 Znm rfl <| Ac (Z3m v17 rfl rfl Zpb (vt rfl) (i := 0) rfl rfl) rfl <| Md rfl <| Ac (opb (⟨a22, (-1)⟩ : Place) Zo4 rfl Zwn (pc Zvg (vt rfl) <| pc Y51 (vk rfl) <| pn rfl)) rfl <| Ac (osl Y2w Zo4 rfl (vt rfl)) rfl <| Cv rfl (Z4e 2005 hl26 rfl rfl Zzi (vt rfl) rfl (vt rfl)) fun v27 => Nc rfl <| Zf Zj2 Znm rfl <| Ac (Z4y rfl rfl Zpb (vt rfl) (i := 0) rfl (Zmx (i := 2005) rfl rfl)) rfl <| Nl <| xt ?_
   cases h; exact RetOK.turn (Turn.packF 0 2004 (fun v => (⟨b18, b19, b20, b21, v, v27⟩ : sem_packet_o4_5)) (by decide) rfl rfl) (RetOK.turn (Turn.packS 0 2005 (fun v2 => Zx g2 gT Z1q (fun v => (⟨b18, b19, b20, b21, v, v2⟩ : sem_packet_o4_5)) 71 Z0r l14) (by decide) rfl rfl) (Z1j (i := 0) Tryz.results86 rfl rfl))
  ·refine sk <| sq ?_
   obtain ⟨l28, hl28, h⟩ := Z8 h
   refine Rg <| Mp rfl <| Mp rfl <| Nc rfl <| Zf Zj2 Znm rfl <| Ac (Z3m v17 rfl rfl Zpb (vt rfl) (i := 0) rfl rfl) rfl <| Md rfl <| Md rfl <| Ac (opb (⟨a22, x25.1⟩ : Place) Zo4 rfl Zwn (pc Zvg (vt rfl) <| pc Y51 (vt rfl) <| pn rfl)) rfl <| Ac (osl Y2w Zo4 rfl (vt rfl)) rfl <| Cv rfl (Z4e 2005 hl28 rfl rfl Zzi (vt rfl) rfl (vt rfl)) fun v29 => Nc rfl <| Zf Zj2 Znm rfl <| Ac (Z4y rfl rfl Zpb (vt rfl) (i := 0) rfl (Zmx (i := 2005) rfl rfl)) rfl <| Nl <| sq ?_
   obtain ⟨j30, hj30, x31, hx31, b32, hb32, h⟩ := bs3 h
   refine Rg <| Mp rfl <| Md rfl <| Mp rfl <| Md rfl <| Nc rfl <| Zf lsem_packet_o4_5_0 Zqg rfl <| Zf Zan Zdh rfl <| Ac (Z2q rfl rfl Zcw (vt rfl) (vt rfl) hj30) rfl <| Ld Z5k 0 rfl <| Md rfl <| Ac (Z0w rfl rfl Z5d (vt rfl) (vt rfl) hx31) rfl <| Fp lFlow_6 Zly rfl <| Lp1 Znu rfl <| AOps.packF 0 2004 (fun v => (⟨b18, b19, b20, b21, v, v29⟩ : sem_packet_o4_5)) (by decide) rfl rfl <| AOps.packS 0 2005 (fun v2 => Zx g2 gT Z1q (fun v => (⟨b18, b19, b20, b21, v, v2⟩ : sem_packet_o4_5)) 71 Z0r l14) (by decide) rfl rfl <| Cv rfl (Z10 0 (xs := [.tmp 48, .tmp 49, .tmp 60]) (Ygr _ _ _ _ _ _ hb32) Y8u rfl rfl ⟨vt rfl, vt rfl, vt rfl, trivial⟩ rfl) fun _u => AOps.unboxS 0 2005 (by decide) rfl rfl fun v34 => AOps.unboxF 0 2004 (by decide) rfl rfl fun v33 => Mt2 rfl <| Ac (Z1m rfl rfl (vt rfl)) rfl <| Ac (Z1l rfl rfl (vt rfl)) rfl <| As rfl <| As rfl <| Nl <| sq <| SR <| Md rfl <| Ac (Z0x rfl rfl (vt rfl)) rfl <| Nl <| Cq rfl h (fun h => ?_) (fun h => ?_)
   ·refine sq ?_
    obtain ⟨x35, hx35, b36, hb36, h⟩ := bs2 h
    refine Rg <| Mp rfl <| Mp rfl <| Nc rfl <| Zf Zld Zpc rfl <| Ld Z3o 0 rfl <| Cl [70] (Zn6 _ _ hx35) Zp7 rfl <| AOps.packF 0 2004 (fun v => (⟨b32.2.2.Switch, b32.2.2.env, b32.2.2.header, b32.2.2.set, v, v34⟩ : sem_packet_o4_5)) (by decide) rfl rfl <| AOps.packS 0 2005 (fun v2 => Zx g2 gT Z1q (fun v => (⟨b32.2.2.Switch, b32.2.2.env, b32.2.2.header, b32.2.2.set, v, v2⟩ : sem_packet_o4_5)) 71 Z0r b32.2.2.out) (by decide) rfl rfl <| Cv rfl (Z10 0 (xs := [.tmp 66, .tmp 71]) (Y3f _ _ _ _ _ hb36) Y3z rfl rfl ⟨vt rfl, vt rfl, trivial⟩ rfl) fun _u => AOps.unboxS 0 2005 (by decide) rfl rfl fun v38 => AOps.unboxF 0 2004 (by decide) rfl rfl fun v37 => Nl <| xt ?_
    cases h; exact RetOK.turn (Turn.packF 0 2004 (fun v => (⟨b36.Switch, b36.env, b36.header, b36.set, v, v38⟩ : sem_packet_o4_5)) (by decide) rfl rfl) (RetOK.turn (Turn.packS 0 2005 (fun v2 => Zx g2 gT Z1q (fun v => (⟨b36.Switch, b36.env, b36.header, b36.set, v, v2⟩ : sem_packet_o4_5)) 71 Z0r b36.out) (by decide) rfl rfl) (Z1j (i := 0) Tryz.results86 rfl rfl))
   ·refine sk <| Rg <| Md rfl <| As rfl <| Nl ?_
    exact ⟨(_, _, _, _, _, _, _, _, _, _), Nat.lt_succ_self _, ⟨trivial, h⟩, FX rfl⟩
def Zlm (s1 : Switch) (x2 : Env) (x3 : Z0e) : Option (List Out) :=
 (Zo2 (⟨s1, x2, x3, [], [], []⟩ : Z2k)).bind fun b8 => some b8.out
theorem Yhk : Q3 Tryz.prog 29 (rd Z0b) (rd Z0q) (rd (Z3 24 Zd)) (rd (Z1 Z0r)) Zlm := fun s1 x2 x3 r h => I0 Tryz.func29 rfl Tryz.ntmps29 rfl fun w H => by
 unfold Zlm at h
 refine SR <| Cv rfl (Zm 4 rfl rfl (vt rfl)) fun g4 => Cv rfl (Zm 5 rfl rfl (vt rfl)) fun g5 => Cv rfl (Zm 6 rfl rfl (vt rfl)) fun g6 => Ac (Zy (A := rd (Z1 Z0r) []) rfl rfl Z1h) rfl <| Nl <| sq <| AW.newnil 2264 71 Z0r <| AW.newnil 2265 51 Z44 <| Rg <| Ld Z5f 4 rfl <| Ld Z4n 5 rfl <| Ld Z0i 6 rfl <| Ac (opb (⟨s1, x2, x3, [], (.slice none 0 0), (.slice none 0 0)⟩ : sem_packet_o4_5) Yck rfl Y9b (pc Yfh (vt rfl) <| pc Ynu (vt rfl) <| pc Ynt (vt rfl) <| pn rfl)) rfl <| Cv rfl (Zm 13 rfl rfl (vt rfl)) fun g7 => Ac (Zy (A := Z7 g7 (Lens.id Z1q)) rfl rfl (vt rfl)) rfl <| Nl <| sq ?_
 obtain ⟨b8, hb8, h⟩ := Z8 h
 refine Rg <| Mp rfl <| AOps.packF 13 2264 (fun v => (⟨s1, x2, x3, [], v, (.slice none 0 0)⟩ : sem_packet_o4_5)) (by decide) rfl rfl <| AOps.packS 13 2265 (fun v2 => Zx g7 144 Z1q (fun v => (⟨s1, x2, x3, [], v, v2⟩ : sem_packet_o4_5)) 71 Z0r []) (by decide) rfl rfl <| Cv rfl (Z10 13 (xs := [.tmp 13]) (Yca _ _ _ _ hb8) e86 rfl rfl ⟨vt rfl, trivial⟩ rfl) fun _u => AOps.unboxS 13 2265 (by decide) rfl rfl fun v10 => AOps.unboxF 13 2264 (by decide) rfl rfl fun v9 => Nl <| SR <| Mp rfl <| Nc rfl <| Zf Zjh Zs8 rfl <| Ac (Z3m v9 rfl rfl Zhb (vt rfl) (i := 13) rfl rfl) rfl <| Aw rfl <| Nl <| AW.freezes [6, 18] 2264 rfl ⟨rfl, rfl, trivial⟩ rfl <| rt ?_
 cases h; exact Zg Tryz.results29 rfl (Za rfl)
def Zii (x1 : Z0e) (x2 : Int) (x3 : Wide) : Option Z0e :=
 (bif ((decide (x2 ≥ 0)) && (decide (x2 < 24))) then (chk 24 x2).bind fun j7 => some (Vector.set x1 j7.1 x3 j7.2) else some x1)
theorem Ydb : Q3 Tryz.prog 161 (rd (Z3 24 Zd)) (rd (Z0 .i64)) (rd Zd) (rd (Z3 24 Zd)) Zii := fun x1 x2 x3 r h => I0 Tryz.func161 rfl Tryz.ntmps161 rfl fun w H => by
 unfold Zii at h
 refine SR <| Cv rfl (Zm 4 rfl rfl (vt rfl)) fun g4 => Cv rfl (Zm 6 rfl rfl (vt rfl)) fun g5 => Cv rfl (Zp 7 rfl rfl Z4k) fun g6 => Nl <| sq <| SR <| Md rfl <| Ac (Z3r rfl rfl (vt rfl) (vk rfl)) rfl <| Md rfl <| Gd rfl (fun hq => Zu (A := rd (Z0 .i64) x2) rfl rfl (vt rfl)) <| Gd rfl (fun hq => Zi rfl rfl (Zs rfl hq) (vk rfl)) <| Ac (Z26 rfl rfl (vt rfl) (vt rfl)) rfl <| Nl <| Cq rfl h (fun h => ?_) (fun h => ?_)
 ·obtain ⟨j7, hj7, h⟩ := Z8 h
  refine Rg <| Md rfl <| Ld Z02 6 rfl <| Ac (Z2q rfl rfl Ze2 (vt rfl) (vt rfl) hj7) rfl <| Zh Z02 4 rfl <| Nl <| SR <| Ld Z0i 4 rfl <| Zh Z0i 7 rfl <| Nl <| rt ?_
  cases h; exact Zg Tryz.results161 rfl (Z01 rfl (i := 7) rfl Z0i)
 ·refine sk <| SR <| Ld Z0i 4 rfl <| Zh Z0i 7 rfl <| Nl <| rt ?_
  cases h; exact Zg Tryz.results161 rfl (Z01 rfl (i := 7) rfl Z0i)
def Z9m (a4 : Int) (R_trace_trip_on : (Z2g → Int → Z0e → Int → Option Z2g)) (l6 : Int) : (List Out) → Nat → (List End) → Net → Env → Option Z2g
 | [], i20, l16, b18, b19 => some (⟨b18, b19, l16⟩ : Z2g)
 | x22 :: l21, i20, l16, b18, b19 => (Zcd b18 a4 x22.Port).bind fun x24 => (bif (!x24.2.2) then (Z1a l16 [(⟨a4, x22.Port, x22.Max, true, x22.Header⟩ : End)]).bind fun l25 => (Z9m a4 R_trace_trip_on l6 l21) (i20 + 1) l25 b18 b19 else (Zii x22.Header 0 (⟨0, (BitVec.ofInt 64 x24.2.1)⟩ : Wide)).bind fun x27 => (R_trace_trip_on (⟨b18, b19, l16⟩ : Z2g) x24.1 x27 (IntKind.i64.wrap (l6 - 1))).bind fun b28 => (Z9m a4 R_trace_trip_on l6 l21) (i20 + 1) b28.ends b28.Net b28.env)
def Zla (R_trace_trip_on : (Z2g → Int → Z0e → Int → Option Z2g)) (t1 : Z2g) (a4 : Int) (x5 : Z0e) (l6 : Int) : Option Z2g :=
 (bif (decide (l6 = 0)) then (Z1a t1.ends [(⟨a4, 0, 0, false, x5⟩ : End)]).bind fun l8 => some (⟨t1.Net, t1.env, l8⟩ : Z2g) else (lget t1.Net.Switches a4).bind fun x10 => (Zlm x10 t1.env x5).bind fun x11 => Z9m a4 R_trace_trip_on l6 x11 0 t1.ends t1.Net t1.env)
theorem Y6k (R_trace_trip_on : (Z2g → Int → Z0e → Int → Option Z2g)) (hR_trace_trip_on : ∀ (g2 gT : Nat) (t1 : Z2g) (a4 : Int) (x5 : Z0e) (l6 : Int) (r : Z2g), R_trace_trip_on t1 a4 x5 l6 = some r → Con Tryz.prog 92 [Z7 g2 (Lens.id Z2m), rd (Z0 .i64) a4, rd (Z3 24 Zd) x5, rd (Z0 .i64) l6] (Zx g2 gT Z2m (fun v => (⟨t1.Net, t1.env, v⟩ : trace_trip_o2)) 69 Z1v t1.ends) (fun _ : Unit => top) (fun _ => Zx g2 gT Z2m (fun v => (⟨r.Net, r.env, v⟩ : trace_trip_o2)) 69 Z1v r.ends)) (g2 gT : Nat) (t1 : Z2g) (a4 : Int) (x5 : Z0e) (l6 : Int) (r : Z2g) (h : Zla R_trace_trip_on t1 a4 x5 l6 = some r) : Con Tryz.prog 92 [Z7 g2 (Lens.id Z2m), rd (Z0 .i64) a4, rd (Z3 24 Zd) x5, rd (Z0 .i64) l6] (Zx g2 gT Z2m (fun v => (⟨t1.Net, t1.env, v⟩ : trace_trip_o2)) 69 Z1v t1.ends) (fun _ : Unit => top) (fun _ => Zx g2 gT Z2m (fun v => (⟨r.Net, r.env, v⟩ : trace_trip_o2)) 69 Z1v r.ends) := by
 refine Con.intro Tryz.func92 rfl Tryz.ntmps92 rfl fun w H X => ?_
 unfold Zla at h
 refine AW.unboxF 0 2002 (by decide) rfl rfl fun v3 => SR <| Cv rfl (Zm 7 rfl rfl (vt rfl)) fun g7 => Nl <| AW.scope <| sq <| SR <| Md rfl <| Ac (Z21 rfl rfl (vt rfl) (vk rfl)) rfl <| Nl <| Cq rfl h (fun h => ?_) (fun h => ?_)
 ·refine sq ?_
  obtain ⟨l8, hl8, h⟩ := Z8 h
  refine AR Zw (by kernel_rfl) <| SMp rfl <| SMp rfl <| SNc rfl <| Zv Z91 Zgk rfl <| Sd (lo [18] [0] rfl fun S hs hr => Z3m v3 rfl rfl Zfd (vh hs 18 rfl rfl) (i := 0) ((hr 0 rfl).trans rfl) rfl) <| SMd rfl <| Zl Z0i 7 rfl <| Sd (lo [20, 21] [] rfl fun S hs hr => opb (⟨a4, 0, 0, false, x5⟩ : End) Ze3 rfl Ztg (pc Zqt (vh hs 20 rfl rfl) <| pc Zq8 (vh hs 21 rfl rfl) <| pn rfl)) <| Sd (lo [22] [] rfl fun S hs hr => osl Znw Ze3 rfl (vh hs 22 rfl rfl)) <| Sd (Z1o (us := [(24, Z2n 69 Z1v l8)]) (ur := [(2002, emp)]) [19, 23] [2002] rfl fun S hs hr => Z8p 2002 hl8 rfl rfl rfl Zwv (vh hs 19 rfl rfl) ((hr 2002 rfl).trans rfl) (vh hs 23 rfl rfl)) <| SNc rfl <| Zv Z91 Zgk rfl <| Sd (Z1o (us := [(24, top)]) (ur := [(0, Zx g2 gT Z2m (fun v => ((Lens.comp (Lens.id Z2m) Z91)).set (⟨t1.Net, t1.env, v3⟩ : trace_trip_o2) v) 69 Z1v l8)]) [26, 24] [0] rfl fun S hs hr => Zbm rfl rfl Zfd (vh hs 26 rfl rfl) ((hr 0 rfl).trans rfl) ((hs 24 rfl).trans rfl)) <| Sn <| AW.unboxF 0 2002 (by decide) rfl rfl fun v9 => rt ?_
  cases h; exact RetOK.turn (Turn.packF 0 2002 (fun v => (⟨t1.Net, t1.env, v⟩ : trace_trip_o2)) (by decide) rfl rfl) (Z1j (i := 0) Tryz.results92 rfl rfl)
 ·refine sk <| sq <| AW.label <| sq ?_
  obtain ⟨x10, hx10, x11, hx11, h⟩ := bs2 h
  refine AR Zw (by kernel_rfl) <| SMp rfl <| SNc rfl <| Zv ltrace_trip_o2_0 Zs9 rfl <| Zv lNet_0 Zes rfl <| Zl Zcz 0 rfl <| SMd rfl <| Sd (lo [31, 32] [] rfl fun S hs hr => Z0w rfl rfl Z8i (vh hs 31 rfl rfl) (vh hs 32 rfl rfl) hx10) <| SLp Z5f rfl <| SMp rfl <| SNc rfl <| Zv ltrace_trip_o2_1 Y7e rfl <| Zl Z4n 0 rfl <| Zl Z0i 7 rfl <| SCl [34, 38, 39] (Yhk _ _ _ _ hx11) e29 rfl <| Sd (lo [40] [] rfl fun S hs hr => Z0t rfl rfl Zql (vh hs 40 rfl rfl)) <| Sd (lo [] [] rfl fun S hs hr => Zu (A := rd (Z0 .i64) 0) rfl rfl (vk rfl)) <| Sn <| bk <| LG (d := []) (ν := (List Out) × Nat × (List End) × Net × Env × Value) (fun (l21, i20, l16, b18, b19, v17) => (Sfx x11 i20 l21 ∧ Z9m a4 R_trace_trip_on l6 l21 i20 l16 b18 b19 = some r, l21.length, [(0, Z7 g2 (Lens.id Z2m)), (1, rd (Z0 .i64) a4), (3, rd (Z0 .i64) l6), (40, rd (Z1 Z0r) x11), (41, rd (Z0 .i64) (x11.length : Int)), (42, rd (Z0 .i64) (i20 : Int))], [(0, Zc g2 gT Z2m (⟨b18, b19, v17⟩ : trace_trip_o2)), (2002, Zb v17 69 Z1v l16)])) (x11, 0, t1.ends, t1.Net, t1.env, v3) ⟨Sfx.start _, h⟩ (FX rfl) ?_
  rintro ⟨l21, i20, l16, b18, b19, v17⟩ ⟨hsf1, h⟩
  dsimp only at hsf1 h ⊢
  cases l21 with
  | nil =>
   unfold Z9m at h
   refine SR <| Ac (Zi rfl rfl (vt rfl) (vt rfl)) rfl <| Nl <| sq <| Cn rfl (fun hc => absurd (of_decide_eq_true hc) hsf1.nil) (fun hc => ?_)
   refine xt ?_
   cases h; exact RetOK.turn (Turn.packF 0 2002 (fun v => (⟨b18, b19, v⟩ : trace_trip_o2)) (by decide) rfl rfl) (Z1j (i := 0) Tryz.results92 rfl rfl)
  | cons x22 l21 =>
   unfold Z9m at h
   refine SR <| Ac (Zi rfl rfl (vt rfl) (vt rfl)) rfl <| Nl <| sq <| Cn rfl (fun hc => ?_) (fun hc => absurd hsf1.cons (of_decide_eq_false hc))
   have hlti20 := of_decide_eq_true hc
   refine sk <| sq <| bk <| SR <| Ac (Z0w rfl rfl Zql (vt rfl) (vt rfl) hsf1.lget) rfl <| Lp1 Y5n rfl <| Cv rfl (Zp 10 rfl rfl Zqe) fun g23 => Zh Y5n 10 rfl <| Nl <| sq ?_
   obtain ⟨x24, hx24, h⟩ := Z8 h
   refine AR Zw (by kernel_rfl) <| SMp rfl <| SNc rfl <| Zv ltrace_trip_o2_0 Zs9 rfl <| Zl Z65 0 rfl <| SMd rfl <| Zv lOut_0 Zz5 rfl <| Zl Zo 10 rfl <| SCl [50, 51, 53] (Zty _ _ _ _ hx24) e72 rfl <| Sd (lo [54] [] rfl fun S hs hr => Zu (A := Z3f (rd (Z0 .i64) x24.1) (rd (Z0 .i64) x24.2.1) (rd Z5 x24.2.2)) rfl rfl (vh hs 54 rfl rfl)) <| Sd (lo [46] [] rfl fun S hs hr => Zd7 rfl rfl (vh hs 46 rfl rfl)) <| Sd (lo [46] [] rfl fun S hs hr => Zeh rfl rfl (vh hs 46 rfl rfl)) <| Sd (lo [46] [] rfl fun S hs hr => Zcs rfl rfl (vh hs 46 rfl rfl)) <| SAs rfl <| SAs rfl <| SAs rfl <| Sn <| sq <| SR <| Md rfl <| Ac (Z0x rfl rfl (vt rfl)) rfl <| Nl <| Cq rfl h (fun h => ?_) (fun h => ?_)
   ·refine sq ?_
    obtain ⟨l25, hl25, h⟩ := Z8 h
    refine AR Zw (by kernel_rfl) <| SMp rfl <| SMp rfl <| SNc rfl <| Zv Z91 Zgk rfl <| Sd (lo [63] [0] rfl fun S hs hr => Z3m v17 rfl rfl Zfd (vh hs 63 rfl rfl) (i := 0) ((hr 0 rfl).trans rfl) rfl) <| SMd rfl <| Zv lOut_0 Zz5 rfl <| Zl Zo 10 rfl <| Zv lOut_1 Yn9 rfl <| Zl Zo 10 rfl <| Zv lOut_2 Y5s rfl <| Zl Z0i 10 rfl <| Sd (lo [65, 67, 69, 71] [] rfl fun S hs hr => opb (⟨a4, x22.Port, x22.Max, true, x22.Header⟩ : End) Ze3 rfl Ztg (pc Zqt (vh hs 65 rfl rfl) <| pc Zyr (vh hs 67 rfl rfl) <| pc Zy0 (vh hs 69 rfl rfl) <| pc Zv9 vb <| pc Zq8 (vh hs 71 rfl rfl) <| pn rfl)) <| Sd (lo [72] [] rfl fun S hs hr => osl Znw Ze3 rfl (vh hs 72 rfl rfl)) <| Sd (Z1o (us := [(74, Z2n 69 Z1v l25)]) (ur := [(2002, emp)]) [64, 73] [2002] rfl fun S hs hr => Z8p 2002 hl25 rfl rfl rfl Zwv (vh hs 64 rfl rfl) ((hr 2002 rfl).trans rfl) (vh hs 73 rfl rfl)) <| SNc rfl <| Zv Z91 Zgk rfl <| Sd (Z1o (us := [(74, top)]) (ur := [(0, Zx g2 gT Z2m (fun v => ((Lens.comp (Lens.id Z2m) Z91)).set (⟨b18, b19, v17⟩ : trace_trip_o2) v) 69 Z1v l25)]) [76, 74] [0] rfl fun S hs hr => Zbm rfl rfl Zfd (vh hs 76 rfl rfl) ((hr 0 rfl).trans rfl) ((hs 74 rfl).trans rfl)) <| Sn <| AW.unboxF 0 2002 (by decide) rfl rfl fun v26 => xt <| Rg <| Ac (Z0s (t := 41) rfl rfl (vt rfl) (vk rfl) (vt rfl) hlti20) rfl <| Md rfl <| Nl ?_
    exact ⟨(_, _, _, _, _, _), Nat.lt_succ_self _, ⟨hsf1.next, h⟩, FX rfl⟩
   ·refine sk ?_
    obtain ⟨x27, hx27, b28, hb28, h⟩ := bs2 h
    refine Rg <| Mp rfl <| Md rfl <| Zf lOut_2 Y5s rfl <| Ld Z0i 10 rfl <| Md rfl <| Ac (Z8r rfl rfl us3 Zzt (vt rfl)) rfl <| Ac (opb (⟨0, (BitVec.ofInt 64 x24.2.1)⟩ : Wide) Z3q rfl Z7h (pc Z9k (vt rfl) <| pn rfl)) rfl <| Ac (Z13 (xs := [.tmp 80, .const (Value.int IntKind.i64 0), .tmp 83]) (Ydb _ _ _ _ hx27) Y6z rfl rfl ⟨vt rfl, vk rfl, vt rfl, trivial⟩) rfl <| Md rfl <| Ac (Z0u rfl rfl (vt rfl) (vk rfl)) rfl <| AOps.packF 0 2002 (fun v => (⟨b18, b19, v⟩ : trace_trip_o2)) (by decide) rfl rfl <| Cv rfl (Z10 0 (xs := [.tmp 77, .tmp 78, .tmp 84, .tmp 86]) (hR_trace_trip_on _ _ _ _ _ _ _ hb28) e92 rfl rfl ⟨vt rfl, vt rfl, vt rfl, vt rfl, trivial⟩ rfl) fun _u => AOps.unboxF 0 2002 (by decide) rfl rfl fun v29 => Nl <| Rg <| Ac (Z0s (t := 41) rfl rfl (vt rfl) (vk rfl) (vt rfl) hlti20) rfl <| Md rfl <| Nl ?_
    exact ⟨(_, _, _, _, _, _), Nat.lt_succ_self _, ⟨hsf1.next, h⟩, FX rfl⟩
def Zdi : Nat → (Z2g → Int → Z0e → Int → Option Z2g)
 | 0 => (fun _ _ _ _ => none)
 | n + 1 => (Zla (Zdi n))
theorem Y2p : ∀ n : Nat, (∀ (g2 gT : Nat) (t1 : Z2g) (a4 : Int) (x5 : Z0e) (l6 : Int) (r : Z2g), (Zdi n) t1 a4 x5 l6 = some r → Con Tryz.prog 92 [Z7 g2 (Lens.id Z2m), rd (Z0 .i64) a4, rd (Z3 24 Zd) x5, rd (Z0 .i64) l6] (Zx g2 gT Z2m (fun v => (⟨t1.Net, t1.env, v⟩ : trace_trip_o2)) 69 Z1v t1.ends) (fun _ : Unit => top) (fun _ => Zx g2 gT Z2m (fun v => (⟨r.Net, r.env, v⟩ : trace_trip_o2)) 69 Z1v r.ends))
 | 0 => (by intros; rename_i h; cases h)
 | n + 1 => by
  have ih := Y2p n
  exact (Y6k (Zdi n) ih)
def Zr5 (t1 : Z2g) (a4 : Int) (x5 : Z0e) (l6 : Int) : Option Z2g := (Zdi Z0k) t1 a4 x5 l6
theorem Yen : ∀ (g2 gT : Nat) (t1 : Z2g) (a4 : Int) (x5 : Z0e) (l6 : Int) (r : Z2g), Zr5 t1 a4 x5 l6 = some r → Con Tryz.prog 92 [Z7 g2 (Lens.id Z2m), rd (Z0 .i64) a4, rd (Z3 24 Zd) x5, rd (Z0 .i64) l6] (Zx g2 gT Z2m (fun v => (⟨t1.Net, t1.env, v⟩ : trace_trip_o2)) 69 Z1v t1.ends) (fun _ : Unit => top) (fun _ => Zx g2 gT Z2m (fun v => (⟨r.Net, r.env, v⟩ : trace_trip_o2)) 69 Z1v r.ends) := Y2p Z0k
def Zgu (n1 : Net) (x2 : Env) (a3 : Int) (x4 : Z0e) (m5 : Int) : Option (List End) :=
 (bif ((decide (a3 ≥ 0)) && (decide (a3 < (n1.Switches.length : Int)))) then (Zm4 m5).bind fun x10 => (Zr5 (⟨n1, x2, []⟩ : Z2g) a3 x4 x10).bind fun b11 => some b11.ends else some [])
theorem Y8q : Q5 Tryz.prog 37 (rd Z28) (rd Z0q) (rd (Z0 .i64)) (rd (Z3 24 Zd)) (rd (Z0 .i64)) (rd (Z1 Z1v)) Zgu := fun n1 x2 a3 x4 m5 r h => I0 Tryz.func37 rfl Tryz.ntmps37 rfl fun w H => by
 unfold Zgu at h
 refine SR <| Cv rfl (Zm 6 rfl rfl (vt rfl)) fun g6 => Cv rfl (Zm 7 rfl rfl (vt rfl)) fun g7 => Cv rfl (Zm 9 rfl rfl (vt rfl)) fun g8 => Ac (Zy (A := rd (Z1 Z1v) []) rfl rfl Z1h) rfl <| Nl <| sq <| AW.newnil 2322 69 Z1v <| Rg <| Ld Z65 6 rfl <| Ld Z4n 7 rfl <| Ac (opb (⟨n1, x2, (.slice none 0 0)⟩ : trace_trip_o2) Yf5 rfl Yd6 (pc Y8k (vt rfl) <| pc Ygx (vt rfl) <| pn rfl)) rfl <| Cv rfl (Zm 16 rfl rfl (vt rfl)) fun g9 => Ac (Zy (A := Z7 g9 (Lens.id Z2m)) rfl rfl (vt rfl)) rfl <| Nl <| sq <| SR <| Md rfl <| Ac (Z3r rfl rfl (vt rfl) (vk rfl)) rfl <| Md rfl <| Gd rfl (fun hq => Zu (A := rd (Z0 .i64) a3) rfl rfl (vt rfl)) <| Gd rfl (fun hq => Zu (A := Z7 g9 (Lens.id Z2m)) rfl rfl (vt rfl)) <| Gd rfl (fun hq => Zo1 rfl rfl (Zs rfl hq)) <| Gd rfl (fun hq => Z2p ltrace_trip_o2_0 rfl rfl Zs9 (Zs rfl hq)) <| Gd rfl (fun hq => Z2p lNet_0 rfl rfl Zes (Zs rfl hq)) <| Gd rfl (fun hq => Z1x rfl rfl Zcz (Zs rfl hq) (i := 16) rfl) <| Gd rfl (fun hq => Z0t rfl rfl Z8i (Zs rfl hq)) <| Gd rfl (fun hq => Zi rfl rfl (Zs rfl hq) (Zs rfl hq)) <| Ac (Z26 rfl rfl (vt rfl) (vt rfl)) rfl <| Nl <| Cq rfl h (fun h => ?_) (fun h => ?_)
 ·refine AW.packF 16 2322 (fun v => (⟨n1, x2, v⟩ : trace_trip_o2)) (by decide) rfl rfl ?_
  obtain ⟨x10, hx10, b11, hb11, h⟩ := bs2 h
  refine AR Zw (by kernel_rfl) <| SMp rfl <| SMd rfl <| Zl Z0i 9 rfl <| SMd rfl <| SCl [31] (Ydt _ _ hx10) e93 rfl <| Sd (Z1o (us := [(33, top)]) (ur := [(16, Zx g9 156 Z2m (fun v => (⟨b11.Net, b11.env, v⟩ : trace_trip_o2)) 69 Z1v b11.ends)]) [28, 29, 30, 32] [16] rfl fun S hs hr => Zrq 16 (xs := [.tmp 28, .tmp 29, .tmp 30, .tmp 32]) (Yen _ _ _ _ _ _ _ hb11) e92 rfl rfl ⟨vt ((hs 28 rfl).trans rfl), vt ((hs 29 rfl).trans rfl), vt ((hs 30 rfl).trans rfl), vt ((hs 32 rfl).trans rfl), trivial⟩ ((hr 16 rfl).trans rfl)) <| Sn <| AW.unboxF 16 2322 (by decide) rfl rfl fun v12 => SR <| Mp rfl <| Nc rfl <| Zf Z91 Zgk rfl <| Ac (Z3m v12 rfl rfl Zfd (vt rfl) (i := 16) rfl rfl) rfl <| Aw rfl <| Nl <| AW.freezes [10, 37] 2322 rfl ⟨rfl, rfl, trivial⟩ rfl <| rt ?_
  cases h; exact Zg Tryz.results37 rfl (Za rfl)
 ·refine sk <| SR <| Mp rfl <| Nc rfl <| Zf Z91 Zgk rfl <| Ac (Z3m (.slice none 0 0) rfl rfl Zfd (vt rfl) (i := 16) rfl rfl) rfl <| Aw rfl <| Nl <| AW.freezes [10, 37] 2322 rfl ⟨rfl, rfl, trivial⟩ rfl <| rt ?_
  cases h; exact Zg Tryz.results37 rfl (Za rfl)
end Go.Proofs.YtknpgojdkobgjaaGreat.W
set_option maxRecDepth 4000
namespace Go.Proofs.YtknpgojdkobgjaaGreat.W
open Go Go.Wb
theorem Yaz : Ent Tryz.prog 128 := Ent.mk Tryz.func128 rfl rfl
theorem e71 : Ent Tryz.prog 71 := Ent.mk Tryz.func71 rfl rfl
def Zee (s1 : (List End)) (x2 : End) : Nat → Nat → Option Int
 | 0, i4 => some (-1)
 | m5 + 1, i4 => (lget s1 (i4 : Int)).bind fun x6 => (bif (decide (x2 = x6)) then some (i4 : Int) else (Zee s1 x2 m5) (i4 + 1))
def Zmy (s1 : (List End)) (x2 : End) : Option Int :=
 Zee s1 x2 ((s1.length : Int) : Int).toNat 0
theorem Ye5 : Q2 Tryz.prog 128 (rd (Z1 Z1v)) (rd Z1v) (rd (Z0 .i64)) Zmy := fun s1 x2 r h => I0 Tryz.func128 rfl Tryz.ntmps128 rfl fun w H => by
 unfold Zmy at h
 refine SR <| Cv rfl (Zm 4 rfl rfl (vt rfl)) fun g3 => Ak rfl <| Nl <| sq <| SR <| Md rfl <| Ac (Z0t rfl rfl Znw (vt rfl)) rfl <| Mk rfl <| Nl <| bk <| LG (d := []) (ν := Nat × Nat) (fun (m5, i4) => (Cnt (s1.length : Int) i4 m5 ∧ Zee s1 x2 m5 i4 = some r, m5, [(0, rd (Z1 Z1v) s1), (3, Z7 g3 (Lens.id Z1v)), (7, rd (Z0 .i64) (s1.length : Int)), (8, rd (Z0 .i64) (i4 : Int))], [(4, Zc g3 69 Z1v x2)])) (((s1.length : Int) : Int).toNat, 0) ⟨Cnt.start _, h⟩ (FX rfl) ?_
 rintro ⟨m5, i4⟩ ⟨hsf1, h⟩
 dsimp only at hsf1 h ⊢
 cases m5 with
 | zero =>
  unfold Zee at h
  refine SR <| Ac (Zi rfl rfl (vt rfl) (vt rfl)) rfl <| Nl <| sq <| Cn rfl (fun hc => absurd (of_decide_eq_true hc) hsf1.zero) (fun hc => ?_)
  refine xt <| SR <| Ak rfl <| Nl <| rt ?_
  cases h; exact Zg Tryz.results128 rfl (Za rfl)
 | succ m5 =>
  unfold Zee at h
  refine SR <| Ac (Zi rfl rfl (vt rfl) (vt rfl)) rfl <| Nl <| sq <| Cn rfl (fun hc => ?_) (fun hc => absurd hsf1.succ (of_decide_eq_false hc))
  have hlti4 := of_decide_eq_true hc
  refine sk <| sq <| bk <| SR <| Md rfl <| As rfl <| Nl <| sq ?_
  obtain ⟨x6, hx6, h⟩ := Z8 h
  refine AR Zw (by kernel_rfl) <| Zl Zh3 4 rfl <| SMd rfl <| SMd rfl <| Sd (lo [12, 13] [] rfl fun S hs hr => Z0w rfl rfl Znw (vh hs 12 rfl rfl) (vh hs 13 rfl rfl) hx6) <| SLp Zh3 rfl <| Sd (lo [11, 15] [] rfl fun S hs hr => Zv4 rfl rfl Yhr (by decide) rfl Y7f (vh hs 11 rfl rfl) (vh hs 15 rfl rfl)) <| Sn <| Cq rfl h (fun h => ?_) (fun h => ?_)
  ·refine SR <| Md rfl <| As rfl <| Nl <| rt ?_
   cases h; exact Zg Tryz.results128 rfl (Za rfl)
  ·refine sk <| Rg <| Ac (Z0s (t := 7) rfl rfl (vt rfl) (vk rfl) (vt rfl) hlti4) rfl <| Md rfl <| Nl ?_
   exact ⟨(_, _), Nat.lt_succ_self _, ⟨hsf1.next, h⟩, FX rfl⟩
def Zif (s1 : (List End)) (x2 : End) : Option Bool :=
 (Zmy s1 x2).bind fun x4 => some (decide (x4 ≥ 0))
theorem Yiu : Q2 Tryz.prog 71 (rd (Z1 Z1v)) (rd Z1v) (rd Z5) Zif := fun s1 x2 r h => I0 Tryz.func71 rfl Tryz.ntmps71 rfl fun w H => by
 unfold Zif at h
 refine SR <| Cv rfl (Zm 4 rfl rfl (vt rfl)) fun g3 => Ab rfl <| Nl <| sq ?_
 obtain ⟨x4, hx4, h⟩ := Z8 h
 refine Rg <| Md rfl <| Ld Zh3 4 rfl <| Cl [5, 6] (Ye5 _ _ _ hx4) Yaz rfl <| Ac (Z3r rfl rfl (vt rfl) (vk rfl)) rfl <| As rfl <| Nl <| rt ?_
 cases h; exact Zg Tryz.results71 rfl (Za rfl)
def Zau (x4 : Zk) (n1 : Net) (x2 : Env) (a3 : Int) (x5 : Int) : (List Ray) → Nat → Option Bool
 | [], i13 => (Zjk).bind fun x15 => some x15
 | x16 :: l14, i13 => (Zfj x16.Cube).bind fun x18 => (Zek x4 x18).bind fun x20 => (opt (!(!x20)) (Zgu n1 x2 a3 x18 (Z3a x5 3))).bind fun x21 => (opt (!(!x20)) (Zfn x16 x18)).bind fun x22 => (opt (!(!x20)) (Zif x21 x22)).bind fun x23 => (bif ((!x20) || (!x23)) then some false else (Zcd n1 x16.At x16.Port).bind fun x24 => (bif (x16.Left && x24.2.2) then some false else (Zau x4 n1 x2 a3 x5 l14) (i13 + 1)))
def Zlg (n1 : Net) (x2 : Env) (a3 : Int) (x4 : Zk) (x5 : Int) (m6 : Int) : Option Bool :=
 (Zi0 n1 x2 m6).bind fun x10 => (bif (!x10) then (Zjk).bind fun x11 => some x11 else (Zel n1 x2 a3 x4 (Z3a x5 3) m6).bind fun x12 => Zau x4 n1 x2 a3 x5 x12.1 0)
theorem Yj1 : Q6 Tryz.prog 19 (rd Z28) (rd Z0q) (rd (Z0 .i64)) (rd (Z3 24 Z4)) (rd (Z0 .i64)) (rd (Z0 .i64)) (rd Z5) Zlg := fun n1 x2 a3 x4 x5 m6 r h => I0 Tryz.func19 rfl Tryz.ntmps19 rfl fun w H => by
 unfold Zlg at h
 refine SR <| Cv rfl (Zm 7 rfl rfl (vt rfl)) fun g7 => Cv rfl (Zm 8 rfl rfl (vt rfl)) fun g8 => Cv rfl (Zm 10 rfl rfl (vt rfl)) fun g9 => Ab rfl <| Nl <| sq <| sq ?_
 obtain ⟨x10, hx10, h⟩ := Z8 h
 refine Rg <| Ld Z65 7 rfl <| Ld Z4n 8 rfl <| Md rfl <| Cl [21, 22, 23] (Yaw _ _ _ _ hx10) e67 rfl <| Ac (Z0x rfl rfl (vt rfl)) rfl <| Nl <| Cq rfl h (fun h => ?_) (fun h => ?_)
 ·refine sq ?_
  obtain ⟨x11, hx11, h⟩ := Z8 h
  refine Rg <| Cl [] (Y5e _ hx11) e66 rfl <| As rfl <| Nl <| rt ?_
  cases h; exact Zg Tryz.results19 rfl (Za rfl)
 ·refine sk <| sq ?_
  obtain ⟨x12, hx12, h⟩ := Z8 h
  refine Rg <| Ld Z65 7 rfl <| Ld Z4n 8 rfl <| Md rfl <| Ld Z00 10 rfl <| Md rfl <| Ac (Zl2 rfl rfl (vt rfl) (vk rfl)) rfl <| Md rfl <| Cl [28, 29, 30, 31, 33, 34] (Zt9 _ _ _ _ _ _ _ hx12) e68 rfl <| Mt2 rfl <| Ac (Z1m rfl rfl (vt rfl)) rfl <| Ac (Z1l rfl rfl (vt rfl)) rfl <| As rfl <| As rfl <| Nl <| sq <| SR <| Md rfl <| Ac (Z0t rfl rfl Z88 (vt rfl)) rfl <| Mk rfl <| Nl <| bk <| LG (d := []) (ν := (List Ray) × Nat) (fun (l14, i13) => (Sfx x12.1 i13 l14 ∧ Zau x4 n1 x2 a3 x5 l14 i13 = some r, l14.length, [(2, rd (Z0 .i64) a3), (4, rd (Z0 .i64) x5), (6, Z7 g7 (Lens.id Z28)), (7, Z7 g8 (Lens.id Z0q)), (9, Z7 g9 (Lens.id (Z3 24 Z4))), (38, rd (Z1 Z0z) x12.1), (39, rd (Z0 .i64) (x12.1.length : Int)), (40, rd (Z0 .i64) (i13 : Int))], [(7, Zc g7 67 Z28 n1), (8, Zc g8 39 Z0q x2), (10, Zc g9 87 (Z3 24 Z4) x4)])) (x12.1, 0) ⟨Sfx.start _, h⟩ (FX rfl) ?_
  rintro ⟨l14, i13⟩ ⟨hsf1, h⟩
  dsimp only at hsf1 h ⊢
  cases l14 with
  | nil =>
   unfold Zau at h
   refine SR <| Ac (Zi rfl rfl (vt rfl) (vt rfl)) rfl <| Nl <| sq <| Cn rfl (fun hc => absurd (of_decide_eq_true hc) hsf1.nil) (fun hc => ?_)
   refine xt <| sq ?_
   obtain ⟨x15, hx15, h⟩ := Z8 h
   refine Rg <| Cl [] (Y5e _ hx15) e66 rfl <| As rfl <| Nl <| rt ?_
   cases h; exact Zg Tryz.results19 rfl (Za rfl)
  | cons x16 l14 =>
   unfold Zau at h
   refine SR <| Ac (Zi rfl rfl (vt rfl) (vt rfl)) rfl <| Nl <| sq <| Cn rfl (fun hc => ?_) (fun hc => absurd hsf1.cons (of_decide_eq_false hc))
   have hlti13 := of_decide_eq_true hc
   refine sk <| sq <| bk <| SR <| Ac (Z0w rfl rfl Z88 (vt rfl) (vt rfl) hsf1.lget) rfl <| Lp1 Ziq rfl <| Cv rfl (Zp 17 rfl rfl Zlo) fun g17 => Zh Ziq 17 rfl <| Nl <| sq ?_
   obtain ⟨x18, hx18, h⟩ := Z8 h
   refine Rg <| Zf lRay_4 Y4n rfl <| Ld Z00 17 rfl <| Cl [45] (Zwp _ _ hx18) e70 rfl <| Cv rfl (Zp 18 rfl rfl Z4k) fun g19 => Zh Z0i 18 rfl <| Nl <| sq <| sq ?_
   obtain ⟨x20, hx20, x21, hx21, x22, hx22, x23, hx23, h⟩ := bs4 h
   refine AR Zw (by kernel_rfl) <| Zl Z00 10 rfl <| Zl Z0i 18 rfl <| SCl [47, 48] (Zqc _ _ _ hx20) e50 rfl <| Sd (lo [49] [] rfl fun S hs hr => Z0x rfl rfl (vh hs 49 rfl rfl)) <| SMd rfl <| Sd (lg [6, 51] [7] rfl fun hq S hs hr => Z1x rfl rfl Z65 (vh hs 6 rfl rfl) (i := 7) ((hr 7 rfl).trans rfl)) <| Sd (lg [7, 51] [8] rfl fun hq S hs hr => Z1x rfl rfl Z4n (vh hs 7 rfl rfl) (i := 8) ((hr 8 rfl).trans rfl)) <| Sd (lg [2, 51] [] rfl fun hq S hs hr => Zu (A := rd (Z0 .i64) a3) rfl rfl (vh hs 2 rfl rfl)) <| Sd (lg [17, 51] [18] rfl fun hq S hs hr => Z1x rfl rfl Z0i (vh hs 17 rfl rfl) (i := 18) ((hr 18 rfl).trans rfl)) <| Sd (lg [4, 51] [] rfl fun hq S hs hr => Zu (A := rd (Z0 .i64) x5) rfl rfl (vh hs 4 rfl rfl)) <| Sd (lg [56, 51] [] rfl fun hq S hs hr => Zl2 rfl rfl (Zs ((hs 56 rfl).trans rfl) hq) (vk rfl)) <| Sd (lg [52, 53, 54, 55, 57, 51] [] rfl fun hq S hs hr => Z13 (xs := [.tmp 52, .tmp 53, .tmp 54, .tmp 55, .tmp 57]) (Y8q _ _ _ _ _ _ (Zpd hx21 hq)) e37 rfl rfl ⟨Zs ((hs 52 rfl).trans rfl) hq, Zs ((hs 53 rfl).trans rfl) hq, Zs ((hs 54 rfl).trans rfl) hq, Zs ((hs 55 rfl).trans rfl) hq, Zs ((hs 57 rfl).trans rfl) hq, trivial⟩) <| Sd (lg [16, 51] [17] rfl fun hq S hs hr => Z1x rfl rfl Ziq (vh hs 16 rfl rfl) (i := 17) ((hr 17 rfl).trans rfl)) <| Sd (lg [17, 51] [18] rfl fun hq S hs hr => Z1x rfl rfl Z0i (vh hs 17 rfl rfl) (i := 18) ((hr 18 rfl).trans rfl)) <| Sd (lg [59, 60, 51] [] rfl fun hq S hs hr => Z13 (xs := [.tmp 59, .tmp 60]) (Y0j _ _ _ (Zpd hx22 hq)) e64 rfl rfl ⟨Zs ((hs 59 rfl).trans rfl) hq, Zs ((hs 60 rfl).trans rfl) hq, trivial⟩) <| Sd (lg [58, 61, 51] [] rfl fun hq S hs hr => Z13 (xs := [.tmp 58, .tmp 61]) (Yiu _ _ _ (Zpd hx23 hq)) e71 rfl rfl ⟨Zs ((hs 58 rfl).trans rfl) hq, Zs ((hs 61 rfl).trans rfl) hq, trivial⟩) <| Sd (lg [62, 51] [] rfl fun hq S hs hr => Z0x rfl rfl (Zs ((hs 62 rfl).trans rfl) hq)) <| Sd (lo [63, 51] [] rfl fun S hs hr => Z67 rfl rfl (vh hs 51 rfl rfl) (vh hs 63 rfl rfl)) <| Sn <| Cq rfl h (fun h => ?_) (fun h => ?_)
   ·refine SR <| Ab rfl <| Nl <| rt ?_
    cases h; exact Zg Tryz.results19 rfl (Za rfl)
   ·refine sk <| sq ?_
    obtain ⟨x24, hx24, h⟩ := Z8 h
    refine Rg <| Ld Z65 7 rfl <| Zf lRay_0 Y0z rfl <| Ld Zo 17 rfl <| Zf lRay_1 Zza rfl <| Ld Zo 17 rfl <| Cl [66, 68, 70] (Zty _ _ _ _ hx24) e72 rfl <| Ac (Zu (A := Z3f (rd (Z0 .i64) x24.1) (rd (Z0 .i64) x24.2.1) (rd Z5 x24.2.2)) rfl rfl (vt rfl)) rfl <| Ac (Zd7 rfl rfl (vt rfl)) rfl <| Ac (Zeh rfl rfl (vt rfl)) rfl <| Ac (Zcs rfl rfl (vt rfl)) rfl <| As rfl <| As rfl <| As rfl <| Nl <| SR <| Zf lRay_3 Zuy rfl <| Ld ty4 17 rfl <| Md rfl <| Gd rfl (fun hq => Zu (A := rd Z5 x24.2.2) rfl rfl (vt rfl)) <| Ac (Z26 rfl rfl (vt rfl) (vt rfl)) rfl <| Nl <| Cq rfl h (fun h => ?_) (fun h => ?_)
    ·refine SR <| Ab rfl <| Nl <| rt ?_
     cases h; exact Zg Tryz.results19 rfl (Za rfl)
    ·refine sk <| Rg <| Ac (Z0s (t := 39) rfl rfl (vt rfl) (vk rfl) (vt rfl) hlti13) rfl <| Md rfl <| Nl ?_
     exact ⟨(_, _), Nat.lt_succ_self _, ⟨hsf1.next, h⟩, FX rfl⟩
end Go.Proofs.YtknpgojdkobgjaaGreat.W
