/- A part of the proof. -/
import Derived.Test.YtknpgojdkobgjaaGreatG1
set_option linter.unusedVariables false
set_option maxRecDepth 4000
set_option linter.unusedSimpArgs false
namespace Go.Proofs.YtknpgojdkobgjaaGreat.W
open Go Go.Wb
theorem Zze : Ent Tryz.prog 339 := Ent.mk Tryz.func339 rfl rfl
theorem Y07 : Ent Tryz.prog 340 := Ent.mk Tryz.func340 rfl rfl
theorem Y0w : Ent Tryz.prog 329 := Ent.mk Tryz.func329 rfl rfl
theorem Zzf : Ent Tryz.prog 291 := Ent.mk Tryz.func291 rfl rfl
theorem Zpn : Ent Tryz.prog 292 := Ent.mk Tryz.func292 rfl rfl
theorem Zy5 : Ent Tryz.prog 245 := Ent.mk Tryz.func245 rfl rfl
theorem Zub : Ent Tryz.prog 182 := Ent.mk Tryz.func182 rfl rfl
theorem Zuz : Ent Tryz.prog 183 := Ent.mk Tryz.func183 rfl rfl
theorem Zq2 : Ent Tryz.prog 114 := Ent.mk Tryz.func114 rfl rfl
theorem Zot : Ent Tryz.prog 115 := Ent.mk Tryz.func115 rfl rfl
def Z59 (s2 : (List Bucket)) (x3 : (Bucket → Bucket → Option Bool)) : (List Bucket) → Nat → Option Bool
 | [], i4 => some true
 | x6 :: l5, i4 => (lget s2 (i4 : Int)).bind fun x8 => (x3 x6 x8).bind fun x10 => (bif (!x10) then some false else (Z59 s2 x3 l5) (i4 + 1))
def Za8 (s1 : (List Bucket)) (s2 : (List Bucket)) (x3 : (Bucket → Bucket → Option Bool)) : Option Bool :=
 (bif (decide ((s1.length : Int) ≠ (s2.length : Int))) then some false else Z59 s2 x3 s1 0)
theorem Zy6 : Q3 Tryz.prog 291 (rd (Z1 Z0c)) (rd (Z1 Z0c)) (fn2 Tryz.prog Z0c Z0c Z6) (rd Z6) Za8 := fun s1 s2 x3 r h => I0 Tryz.func291 rfl Tryz.ntmps291 rfl fun w H => by
 unfold Za8 at h
 refine SR <| Ab rfl <| Nl <| sq <| SR <| Md rfl <| Ac (Z0a rfl rfl Z1p (vt rfl)) rfl <| Md rfl <| Ac (Z0a rfl rfl Z1p (vt rfl)) rfl <| Ac (Z24 rfl rfl (vt rfl) (vt rfl)) rfl <| Nl <| Cq rfl h (fun h => ?_) (fun h => ?_)
 ·refine SR <| Ab rfl <| Nl <| rt ?_
  cases h; exact Zc Tryz.results291 rfl (Zb rfl)
 ·refine sk <| sq <| SR <| Md rfl <| Ac (Z0a rfl rfl Z1p (vt rfl)) rfl <| Mk rfl <| Nl <| bk <| LG (d := []) (ν := (List Bucket) × Nat) (fun (l5, i4) => (Sfx s1 i4 l5 ∧ Z59 s2 x3 l5 i4 = some r, l5.length, [(1, rd (Z1 Z0c) s2), (2, fn2 Tryz.prog Z0c Z0c Z6 x3), (15, rd (Z1 Z0c) s1), (16, rd (Z0 .i64) (s1.length : Int)), (17, rd (Z0 .i64) (i4 : Int))], [])) (s1, 0) ⟨Sfx.start _, h⟩ (FX rfl) ?_
  rintro ⟨l5, i4⟩ ⟨hsf1, h⟩
  dsimp only at hsf1 h ⊢
  cases l5 with
  | nil =>
   unfold Z59 at h
   refine SR <| Ac (Zl rfl rfl (vt rfl) (vt rfl)) rfl <| Nl <| sq <| Cn rfl (fun hc => absurd (of_decide_eq_true hc) hsf1.nil) (fun hc => ?_)
   refine xt <| SR <| Ab rfl <| Nl <| rt ?_
   cases h; exact Zc Tryz.results291 rfl (Zb rfl)
  | cons x6 l5 =>
   unfold Z59 at h
   refine SR <| Ac (Zl rfl rfl (vt rfl) (vt rfl)) rfl <| Nl <| sq <| Cn rfl (fun hc => ?_) (fun hc => absurd hsf1.cons (of_decide_eq_false hc))
   have hlti4 := of_decide_eq_true hc
   refine sk <| sq <| bk <| SR <| Md rfl <| Ac (Z04 rfl rfl Z1p (vt rfl) (vt rfl) hsf1.lget) rfl <| Lp1 Z61 rfl <| Cv rfl (Zn 9 rfl rfl Zh6) fun g7 => As rfl <| Zg Z61 9 rfl <| Nl <| sq ?_
   obtain ⟨x8, hx8, h⟩ := Z9 h
   refine Rg <| Md rfl <| Md rfl <| Ac (Z04 rfl rfl Z1p (vt rfl) (vt rfl) hx8) rfl <| Lp1 Z61 rfl <| Cv rfl (Zn 10 rfl rfl Zh6) fun g9 => Zg Z61 10 rfl <| Nl <| sq ?_
   obtain ⟨x10, hx10, h⟩ := Z9 h
   refine Rg <| Ac (Zh (A := fn2 Tryz.prog Z0c Z0c Z6 x3) rfl rfl (vt rfl)) rfl <| Ld Z61 9 rfl <| Ld Z61 10 rfl <| Ac (Z3c hx10 rfl rfl (vt rfl) (vt rfl) (vt rfl)) rfl <| Ac (Z0m rfl rfl (vt rfl)) rfl <| Nl <| Cq rfl h (fun h => ?_) (fun h => ?_)
   ·refine SR <| Ab rfl <| Nl <| rt ?_
    cases h; exact Zc Tryz.results291 rfl (Zb rfl)
   ·refine sk <| Rg <| Ac (Z0y (t := 16) rfl rfl (vt rfl) (vk rfl) (vt rfl) hlti4) rfl <| Md rfl <| Nl ?_
    exact ⟨(_, _), Nat.lt_succ_self _, ⟨hsf1.next, h⟩, FX rfl⟩
def Z5e (s2 : (List Action)) (x3 : (Action → Action → Option Bool)) : (List Action) → Nat → Option Bool
 | [], i4 => some true
 | x6 :: l5, i4 => (lget s2 (i4 : Int)).bind fun x8 => (x3 x6 x8).bind fun x10 => (bif (!x10) then some false else (Z5e s2 x3 l5) (i4 + 1))
def Z9c (s1 : (List Action)) (s2 : (List Action)) (x3 : (Action → Action → Option Bool)) : Option Bool :=
 (bif (decide ((s1.length : Int) ≠ (s2.length : Int))) then some false else Z5e s2 x3 s1 0)
theorem Zq8 : Q3 Tryz.prog 339 (rd (Z1 Z8)) (rd (Z1 Z8)) (fn2 Tryz.prog Z8 Z8 Z6) (rd Z6) Z9c := fun s1 s2 x3 r h => I0 Tryz.func339 rfl Tryz.ntmps339 rfl fun w H => by
 unfold Z9c at h
 refine SR <| Ab rfl <| Nl <| sq <| SR <| Md rfl <| Ac (Z0a rfl rfl Z0g (vt rfl)) rfl <| Md rfl <| Ac (Z0a rfl rfl Z0g (vt rfl)) rfl <| Ac (Z24 rfl rfl (vt rfl) (vt rfl)) rfl <| Nl <| Cq rfl h (fun h => ?_) (fun h => ?_)
 ·refine SR <| Ab rfl <| Nl <| rt ?_
  cases h; exact Zc Tryz.results339 rfl (Zb rfl)
 ·refine sk <| sq <| SR <| Md rfl <| Ac (Z0a rfl rfl Z0g (vt rfl)) rfl <| Mk rfl <| Nl <| bk <| LG (d := []) (ν := (List Action) × Nat) (fun (l5, i4) => (Sfx s1 i4 l5 ∧ Z5e s2 x3 l5 i4 = some r, l5.length, [(1, rd (Z1 Z8) s2), (2, fn2 Tryz.prog Z8 Z8 Z6 x3), (15, rd (Z1 Z8) s1), (16, rd (Z0 .i64) (s1.length : Int)), (17, rd (Z0 .i64) (i4 : Int))], [])) (s1, 0) ⟨Sfx.start _, h⟩ (FX rfl) ?_
  rintro ⟨l5, i4⟩ ⟨hsf1, h⟩
  dsimp only at hsf1 h ⊢
  cases l5 with
  | nil =>
   unfold Z5e at h
   refine SR <| Ac (Zl rfl rfl (vt rfl) (vt rfl)) rfl <| Nl <| sq <| Cn rfl (fun hc => absurd (of_decide_eq_true hc) hsf1.nil) (fun hc => ?_)
   refine xt <| SR <| Ab rfl <| Nl <| rt ?_
   cases h; exact Zc Tryz.results339 rfl (Zb rfl)
  | cons x6 l5 =>
   unfold Z5e at h
   refine SR <| Ac (Zl rfl rfl (vt rfl) (vt rfl)) rfl <| Nl <| sq <| Cn rfl (fun hc => ?_) (fun hc => absurd hsf1.cons (of_decide_eq_false hc))
   have hlti4 := of_decide_eq_true hc
   refine sk <| sq <| bk <| SR <| Md rfl <| Ac (Z04 rfl rfl Z0g (vt rfl) (vt rfl) hsf1.lget) rfl <| Lp1 Z0f rfl <| Cv rfl (Zn 9 rfl rfl Z47) fun g7 => As rfl <| Zg Z0f 9 rfl <| Nl <| sq ?_
   obtain ⟨x8, hx8, h⟩ := Z9 h
   refine Rg <| Md rfl <| Md rfl <| Ac (Z04 rfl rfl Z0g (vt rfl) (vt rfl) hx8) rfl <| Lp1 Z0f rfl <| Cv rfl (Zn 10 rfl rfl Z47) fun g9 => Zg Z0f 10 rfl <| Nl <| sq ?_
   obtain ⟨x10, hx10, h⟩ := Z9 h
   refine Rg <| Ac (Zh (A := fn2 Tryz.prog Z8 Z8 Z6 x3) rfl rfl (vt rfl)) rfl <| Ld Z0f 9 rfl <| Ld Z0f 10 rfl <| Ac (Z3c hx10 rfl rfl (vt rfl) (vt rfl) (vt rfl)) rfl <| Ac (Z0m rfl rfl (vt rfl)) rfl <| Nl <| Cq rfl h (fun h => ?_) (fun h => ?_)
   ·refine SR <| Ab rfl <| Nl <| rt ?_
    cases h; exact Zc Tryz.results339 rfl (Zb rfl)
   ·refine sk <| Rg <| Ac (Z0y (t := 16) rfl rfl (vt rfl) (vk rfl) (vt rfl) hlti4) rfl <| Md rfl <| Nl ?_
    exact ⟨(_, _), Nat.lt_succ_self _, ⟨hsf1.next, h⟩, FX rfl⟩
def Zc2 (a1 : Action) (b2 : Action) : Option Bool :=
 some (decide (a1 = b2))
theorem Zsn : Q2 Tryz.prog 340 (rd Z8) (rd Z8) (rd Z6) Zc2 := fun a1 b2 r h => I0 Tryz.func340 rfl Tryz.ntmps340 rfl fun w H => by
 unfold Zc2 at h
 refine SR <| Cv rfl (Zs 3 rfl rfl (vt rfl)) fun g3 => Cv rfl (Zs 4 rfl rfl (vt rfl)) fun g4 => Ab rfl <| Nl <| SR <| Ld Z0f 3 rfl <| Ld Z0f 4 rfl <| Ac (Z7h rfl rfl Zyd (by decide) rfl Zw1 (vt rfl) (vt rfl)) rfl <| As rfl <| Nl <| rt ?_
 cases h; exact Zc Tryz.results340 rfl (Zb rfl)
def Z8s (a1 : (List Action)) (b2 : (List Action)) : Option Bool :=
 (Z9c a1 b2 Zc2).bind fun x3 => some x3
theorem Zvw : Q2 Tryz.prog 329 (rd (Z1 Z8)) (rd (Z1 Z8)) (rd Z6) Z8s := fun a1 b2 r h => I0 Tryz.func329 rfl Tryz.ntmps329 rfl fun w H => by
 unfold Z8s at h
 refine SR <| Ab rfl <| Nl <| sq ?_
 obtain ⟨x3, hx3, h⟩ := Z9 h
 refine Rg <| Md rfl <| Md rfl <| Ac (Z0k (xs := [.tmp 5, .tmp 6, .func 340]) (Zq8 _ _ _ _ hx3) Zze rfl rfl ⟨vt rfl, vt rfl, vf2 Y07 Zsn, trivial⟩) rfl <| As rfl <| Nl <| rt ?_
 cases h; exact Zc Tryz.results329 rfl (Zb rfl)
def Z79 (a1 : Bucket) (b2 : Bucket) : Option Bool :=
 (opt (((decide (a1.Weight = b2.Weight)) && (decide (a1.Watch = b2.Watch))) && (decide (a1.WatchGroup = b2.WatchGroup))) (Z8s a1.Acts b2.Acts)).bind fun x5 => some ((((decide (a1.Weight = b2.Weight)) && (decide (a1.Watch = b2.Watch))) && (decide (a1.WatchGroup = b2.WatchGroup))) && x5)
theorem Zvq : Q2 Tryz.prog 292 (rd Z0c) (rd Z0c) (rd Z6) Z79 := fun a1 b2 r h => I0 Tryz.func292 rfl Tryz.ntmps292 rfl fun w H => by
 unfold Z79 at h
 refine SR <| Cv rfl (Zs 3 rfl rfl (vt rfl)) fun g3 => Cv rfl (Zs 4 rfl rfl (vt rfl)) fun g4 => Ab rfl <| Nl <| sq ?_
 obtain ⟨x5, hx5, h⟩ := Z9 h
 refine Rg <| Zt Z9n Zcq rfl <| Ld Zm 3 rfl <| Zt Z9n Zcq rfl <| Ld Zm 4 rfl <| Ac (Z0z rfl rfl (vt rfl) (vt rfl)) rfl <| Md rfl <| Gd rfl (fun hq => Z0l Zbh rfl rfl Zdf (vt rfl)) <| Gd rfl (fun hq => Z0d rfl rfl Zm (Z5 rfl hq) (i := 3) rfl) <| Gd rfl (fun hq => Z0l Zbh rfl rfl Zdf (vt rfl)) <| Gd rfl (fun hq => Z0d rfl rfl Zm (Z5 rfl hq) (i := 4) rfl) <| Gd rfl (fun hq => Z0z rfl rfl (Z5 rfl hq) (Z5 rfl hq)) <| Ac (Z0p rfl rfl (vt rfl) (vt rfl)) rfl <| Md rfl <| Gd rfl (fun hq => Z0l Za5 rfl rfl Zf7 (vt rfl)) <| Gd rfl (fun hq => Z0d rfl rfl Zm (Z5 rfl hq) (i := 3) rfl) <| Gd rfl (fun hq => Z0l Za5 rfl rfl Zf7 (vt rfl)) <| Gd rfl (fun hq => Z0d rfl rfl Zm (Z5 rfl hq) (i := 4) rfl) <| Gd rfl (fun hq => Z0z rfl rfl (Z5 rfl hq) (Z5 rfl hq)) <| Ac (Z0p rfl rfl (vt rfl) (vt rfl)) rfl <| Md rfl <| Gd rfl (fun hq => Z0l Z5t rfl rfl Z6a (vt rfl)) <| Gd rfl (fun hq => Z0d rfl rfl Z30 (Z5 rfl hq) (i := 3) rfl) <| Gd rfl (fun hq => Z0l Z5t rfl rfl Z6a (vt rfl)) <| Gd rfl (fun hq => Z0d rfl rfl Z30 (Z5 rfl hq) (i := 4) rfl) <| Gd rfl (fun hq => Z0k (xs := [.tmp 26, .tmp 28]) (Zvw _ _ _ (Z1h hx5 hq)) Y0w rfl rfl ⟨Z5 rfl hq, Z5 rfl hq, trivial⟩) <| Ac (Z0p rfl rfl (vt rfl) (vt rfl)) rfl <| As rfl <| Nl <| rt ?_
 cases h; exact Zc Tryz.results292 rfl (Zb rfl)
def Z92 (a1 : (List Bucket)) (b2 : (List Bucket)) : Option Bool :=
 (Za8 a1 b2 Z79).bind fun x3 => some x3
theorem Zx0 : Q2 Tryz.prog 245 (rd (Z1 Z0c)) (rd (Z1 Z0c)) (rd Z6) Z92 := fun a1 b2 r h => I0 Tryz.func245 rfl Tryz.ntmps245 rfl fun w H => by
 unfold Z92 at h
 refine SR <| Ab rfl <| Nl <| sq ?_
 obtain ⟨x3, hx3, h⟩ := Z9 h
 refine Rg <| Md rfl <| Md rfl <| Ac (Z0k (xs := [.tmp 5, .tmp 6, .func 292]) (Zy6 _ _ _ _ hx3) Zzf rfl rfl ⟨vt rfl, vt rfl, vf2 Zpn Zvq, trivial⟩) rfl <| As rfl <| Nl <| rt ?_
 cases h; exact Zc Tryz.results245 rfl (Zb rfl)
def Z7k (a1 : Group) (b2 : Group) : Option Bool :=
 (opt ((decide (a1.ID = b2.ID)) && (decide (a1.Kind = b2.Kind))) (Z92 a1.Buckets b2.Buckets)).bind fun x5 => some (((decide (a1.ID = b2.ID)) && (decide (a1.Kind = b2.Kind))) && x5)
theorem Zrm : Q2 Tryz.prog 183 (rd Zz) (rd Zz) (rd Z6) Z7k := fun a1 b2 r h => I0 Tryz.func183 rfl Tryz.ntmps183 rfl fun w H => by
 unfold Z7k at h
 refine SR <| Cv rfl (Zs 3 rfl rfl (vt rfl)) fun g3 => Cv rfl (Zs 4 rfl rfl (vt rfl)) fun g4 => Ab rfl <| Nl <| sq ?_
 obtain ⟨x5, hx5, h⟩ := Z9 h
 refine Rg <| Zt Z5x Z8k rfl <| Ld Zm 3 rfl <| Zt Z5x Z8k rfl <| Ld Zm 4 rfl <| Ac (Z0z rfl rfl (vt rfl) (vt rfl)) rfl <| Md rfl <| Gd rfl (fun hq => Z0l Z8o rfl rfl Zdw (vt rfl)) <| Gd rfl (fun hq => Z0d rfl rfl Zm (Z5 rfl hq) (i := 3) rfl) <| Gd rfl (fun hq => Z0l Z8o rfl rfl Zdw (vt rfl)) <| Gd rfl (fun hq => Z0d rfl rfl Zm (Z5 rfl hq) (i := 4) rfl) <| Gd rfl (fun hq => Z0z rfl rfl (Z5 rfl hq) (Z5 rfl hq)) <| Ac (Z0p rfl rfl (vt rfl) (vt rfl)) rfl <| Md rfl <| Gd rfl (fun hq => Z0l Z5r rfl rfl Z5z (vt rfl)) <| Gd rfl (fun hq => Z0d rfl rfl Z6r (Z5 rfl hq) (i := 3) rfl) <| Gd rfl (fun hq => Z0l Z5r rfl rfl Z5z (vt rfl)) <| Gd rfl (fun hq => Z0d rfl rfl Z6r (Z5 rfl hq) (i := 4) rfl) <| Gd rfl (fun hq => Z0k (xs := [.tmp 19, .tmp 21]) (Zx0 _ _ _ (Z1h hx5 hq)) Zy5 rfl rfl ⟨Z5 rfl hq, Z5 rfl hq, trivial⟩) <| Ac (Z0p rfl rfl (vt rfl) (vt rfl)) rfl <| As rfl <| Nl <| rt ?_
 cases h; exact Zc Tryz.results183 rfl (Zb rfl)
def Z9j (a1 : (List Group)) (b2 : (List Group)) : Option Bool :=
 (Zag a1 b2 Z7k).bind fun x3 => some x3
theorem Zvr : Q2 Tryz.prog 115 (rd (Z1 Zz)) (rd (Z1 Zz)) (rd Z6) Z9j := fun a1 b2 r h => I0 Tryz.func115 rfl Tryz.ntmps115 rfl fun w H => by
 unfold Z9j at h
 refine SR <| Ab rfl <| Nl <| sq ?_
 obtain ⟨x3, hx3, h⟩ := Z9 h
 refine Rg <| Md rfl <| Md rfl <| Ac (Z0k (xs := [.tmp 5, .tmp 6, .func 183]) (Zqp _ _ _ _ hx3) Zub rfl rfl ⟨vt rfl, vt rfl, vf2 Zuz Zrm, trivial⟩) rfl <| As rfl <| Nl <| rt ?_
 cases h; exact Zc Tryz.results115 rfl (Zb rfl)
def Z5l (a1 : Flat) (b2 : Flat) : Option Bool :=
 (Z8t a1.Rules b2.Rules Z7p).bind fun x5 => (opt x5 (Z9j a1.Groups b2.Groups)).bind fun x6 => some (x5 && x6)
theorem Zbn : Q2 Tryz.prog 56 (rd Z2o) (rd Z2o) (rd Z6) Z5l := fun a1 b2 r h => I0 Tryz.func56 rfl Tryz.ntmps56 rfl fun w H => by
 unfold Z5l at h
 refine SR <| Cv rfl (Zs 3 rfl rfl (vt rfl)) fun g3 => Cv rfl (Zs 4 rfl rfl (vt rfl)) fun g4 => Ab rfl <| Nl <| sq ?_
 obtain ⟨x5, hx5, x6, hx6, h⟩ := bs2 h
 refine Rg <| Zt lFlat_0 Z3d rfl <| Ld Z39 3 rfl <| Zt lFlat_0 Z3d rfl <| Ld Z39 4 rfl <| Ac (Z0k (xs := [.tmp 6, .tmp 8, .func 114]) (Zzx _ _ _ _ hx5) e81 rfl rfl ⟨vt rfl, vt rfl, vf2 Zq2 Zs7, trivial⟩) rfl <| Md rfl <| Gd rfl (fun hq => Z0l lFlat_1 rfl rfl Z8e (vt rfl)) <| Gd rfl (fun hq => Z0d rfl rfl Z6l (Z5 rfl hq) (i := 3) rfl) <| Gd rfl (fun hq => Z0l lFlat_1 rfl rfl Z8e (vt rfl)) <| Gd rfl (fun hq => Z0d rfl rfl Z6l (Z5 rfl hq) (i := 4) rfl) <| Gd rfl (fun hq => Z0k (xs := [.tmp 12, .tmp 14]) (Zvr _ _ _ (Z1h hx6 hq)) Zot rfl rfl ⟨Z5 rfl hq, Z5 rfl hq, trivial⟩) <| Ac (Z0p rfl rfl (vt rfl) (vt rfl)) rfl <| As rfl <| Nl <| rt ?_
 cases h; exact Zc Tryz.results56 rfl (Zb rfl)
end Go.Proofs.YtknpgojdkobgjaaGreat.W
set_option maxRecDepth 4000
namespace Go.Proofs.YtknpgojdkobgjaaGreat.W
open Go Go.Wb
theorem e54 : Ent Tryz.prog 54 := Ent.mk Tryz.func54 rfl rfl
theorem e58 : Ent Tryz.prog 58 := Ent.mk Tryz.func58 rfl rfl
theorem e56 : Ent Tryz.prog 56 := Ent.mk Tryz.func56 rfl rfl
def Z9o : Option Bool :=
 (Zd4 { { (⟨(Vector.replicate 4 []), []⟩ : Switch) with Tables := (Vector.set ((⟨(Vector.replicate 4 []), []⟩ : Switch).Tables) (⟨0, by decide⟩ : _root_.Fin 4).1 [(⟨0, 0, 0, 0, 0, [], [(⟨1, 3, Z02, Z02, []⟩ : Inst)]⟩ : Flow)] (⟨0, by decide⟩ : _root_.Fin 4).2) } with Tables := (Vector.set ({ (⟨(Vector.replicate 4 []), []⟩ : Switch) with Tables := (Vector.set ((⟨(Vector.replicate 4 []), []⟩ : Switch).Tables) (⟨0, by decide⟩ : _root_.Fin 4).1 [(⟨0, 0, 0, 0, 0, [], [(⟨1, 3, Z02, Z02, []⟩ : Inst)]⟩ : Flow)] (⟨0, by decide⟩ : _root_.Fin 4).2) }.Tables) (⟨3, by decide⟩ : _root_.Fin 4).1 [(⟨0, 1, 0, 0, 0, [], [(⟨4, 0, Z02, Z02, [(⟨0, 9, 0, 0, 0, Z4b⟩ : Action)]⟩ : Inst)]⟩ : Flow), (⟨0, 2, 0, 0, 0, [], []⟩ : Flow)] (⟨3, by decide⟩ : _root_.Fin 4).2) } 100).bind fun x2 => (Zd4 { { (⟨(Vector.replicate 4 []), []⟩ : Switch) with Tables := (Vector.set ((⟨(Vector.replicate 4 []), []⟩ : Switch).Tables) (⟨0, by decide⟩ : _root_.Fin 4).1 [(⟨0, 0, 0, 0, 0, [], [(⟨1, 3, Z02, Z02, []⟩ : Inst)]⟩ : Flow)] (⟨0, by decide⟩ : _root_.Fin 4).2) } with Tables := (Vector.set ({ (⟨(Vector.replicate 4 []), []⟩ : Switch) with Tables := (Vector.set ((⟨(Vector.replicate 4 []), []⟩ : Switch).Tables) (⟨0, by decide⟩ : _root_.Fin 4).1 [(⟨0, 0, 0, 0, 0, [], [(⟨1, 3, Z02, Z02, []⟩ : Inst)]⟩ : Flow)] (⟨0, by decide⟩ : _root_.Fin 4).2) }.Tables) (⟨3, by decide⟩ : _root_.Fin 4).1 [(⟨0, 1, 0, 0, 0, [], [(⟨4, 0, Z02, Z02, [(⟨0, 9, 0, 0, 0, Z4b⟩ : Action)]⟩ : Inst)]⟩ : Flow), (⟨0, 2, 0, 0, 0, [], []⟩ : Flow)] (⟨3, by decide⟩ : _root_.Fin 4).2) } 0).bind fun x4 => (opt ((decide (x2.2 = 0)) && (decide ((x2.1.Rules.length : Int) = 1))) (lget x2.1.Rules 0)).bind fun x6 => (opt ((((decide (x2.2 = 0)) && (decide ((x2.1.Rules.length : Int) = 1))) && (decide ((x6.Atoms.length : Int) = 0))) && (decide (x4.2 = 5))) (Zhi { { (⟨(Vector.replicate 4 []), []⟩ : Switch) with Tables := (Vector.set ((⟨(Vector.replicate 4 []), []⟩ : Switch).Tables) (⟨0, by decide⟩ : _root_.Fin 4).1 [(⟨0, 0, 0, 0, 0, [], [(⟨1, 3, Z02, Z02, []⟩ : Inst)]⟩ : Flow)] (⟨0, by decide⟩ : _root_.Fin 4).2) } with Tables := (Vector.set ({ (⟨(Vector.replicate 4 []), []⟩ : Switch) with Tables := (Vector.set ((⟨(Vector.replicate 4 []), []⟩ : Switch).Tables) (⟨0, by decide⟩ : _root_.Fin 4).1 [(⟨0, 0, 0, 0, 0, [], [(⟨1, 3, Z02, Z02, []⟩ : Inst)]⟩ : Flow)] (⟨0, by decide⟩ : _root_.Fin 4).2) }.Tables) (⟨3, by decide⟩ : _root_.Fin 4).1 [(⟨0, 1, 0, 0, 0, [], [(⟨4, 0, Z02, Z02, [(⟨0, 9, 0, 0, 0, Z4b⟩ : Action)]⟩ : Inst)]⟩ : Flow), (⟨0, 2, 0, 0, 0, [], []⟩ : Flow)] (⟨3, by decide⟩ : _root_.Fin 4).2) })).bind fun x7 => (opt (((((decide (x2.2 = 0)) && (decide ((x2.1.Rules.length : Int) = 1))) && (decide ((x6.Atoms.length : Int) = 0))) && (decide (x4.2 = 5))) && (decide (x7 ≥ 1))) (Z5l x2.1 x2.1)).bind fun x8 => (opt ((((((decide (x2.2 = 0)) && (decide ((x2.1.Rules.length : Int) = 1))) && (decide ((x6.Atoms.length : Int) = 0))) && (decide (x4.2 = 5))) && (decide (x7 ≥ 1))) && x8) (Z5l x2.1 (⟨[], []⟩ : Flat))).bind fun x9 => some (((((((decide (x2.2 = 0)) && (decide ((x2.1.Rules.length : Int) = 1))) && (decide ((x6.Atoms.length : Int) = 0))) && (decide (x4.2 = 5))) && (decide (x7 ≥ 1))) && x8) && (!x9))
theorem Zl6 : Q0 Tryz.prog 53 (rd Z6) Z9o := fun r h => I0 Tryz.func53 rfl Tryz.ntmps53 rfl fun w H => by
 unfold Z9o at h
 refine SR <| Ab rfl <| Nl <| SR <| Ac (opb (⟨(Vector.replicate 4 []), []⟩ : Switch) Zlx rfl Zpv (pn rfl)) rfl <| Cv rfl (Zn 2 rfl rfl Zlx) fun g1 => Zg Z5u 2 rfl <| Nl <| SR <| Ac (opb (⟨1, 3, Z02, Z02, []⟩ : Inst) Z3i rfl Zhb (pc Zl4 (vk rfl) <| pc Zwe (vk rfl) <| pn rfl)) rfl <| Ac (osl Z9x Z3i rfl (vt rfl)) rfl <| Ac (opb (⟨0, 0, 0, 0, 0, [], [(⟨1, 3, Z02, Z02, []⟩ : Inst)]⟩ : Flow) Z6z rfl Zj1 (pc Zm9 (vt rfl) <| pn rfl)) rfl <| Ac (osl Z4w Z6z rfl (vt rfl)) rfl <| Zt Zba Zes rfl <| Ac (Z1u rfl rfl Ze2 (vt rfl) (vk rfl) rfl) rfl <| Zg Z4c 2 rfl <| Nl <| SR <| Ac (opb (⟨0, 9, 0, 0, 0, Z4b⟩ : Action) Z47 rfl Zoz (pc Zpc (vk rfl) <| pc Zx1 (vk rfl) <| pn rfl)) rfl <| Ac (osl Z0g Z47 rfl (vt rfl)) rfl <| Ac (opb (⟨4, 0, Z02, Z02, [(⟨0, 9, 0, 0, 0, Z4b⟩ : Action)]⟩ : Inst) Z3i rfl Zhb (pc Zl4 (vk rfl) <| pc Y1e (vt rfl) <| pn rfl)) rfl <| Ac (osl Z9x Z3i rfl (vt rfl)) rfl <| Ac (opb (⟨0, 1, 0, 0, 0, [], [(⟨4, 0, Z02, Z02, [(⟨0, 9, 0, 0, 0, Z4b⟩ : Action)]⟩ : Inst)]⟩ : Flow) Z6z rfl Zj1 (pc Zo4 (vk rfl) <| pc Zm9 (vt rfl) <| pn rfl)) rfl <| Ac (opb (⟨0, 2, 0, 0, 0, [], []⟩ : Flow) Z6z rfl Zj1 (pc Zo4 (vk rfl) <| pn rfl)) rfl <| Ac (Zce (ps := [(0, .tmp 17), (1, .tmp 18)]) (l := [(⟨0, 1, 0, 0, 0, [], [(⟨4, 0, Z02, Z02, [(⟨0, 9, 0, 0, 0, Z4b⟩ : Action)]⟩ : Inst)]⟩ : Flow), (⟨0, 2, 0, 0, 0, [], []⟩ : Flow)]) rfl rfl Z4w Z6z rfl rfl ⟨_, _, Lens.idx 2 Z23 0 (by decide), _, rfl, (vt rfl), _, _, Lens.idx 2 Z23 1 (by decide), _, rfl, (vt rfl), rfl⟩ rfl) rfl <| Zt Zba Zes rfl <| Ac (Z1u rfl rfl Ze2 (vt rfl) (vk rfl) rfl) rfl <| Zg Z4c 2 rfl <| Nl <| sq ?_
 obtain ⟨x2, hx2, h⟩ := Z9 h
 refine Rg <| Ld Z5u 2 rfl <| Ac (Z0k (xs := [.tmp 23, .const (Value.int IntKind.i64 100)]) (Zkd _ _ _ hx2) e54 rfl rfl ⟨vt rfl, vk rfl, trivial⟩) rfl <| Mt2 rfl <| Ac (Z20 rfl rfl (vt rfl)) rfl <| Ac (Z22 rfl rfl (vt rfl)) rfl <| Cv rfl (Zn 3 rfl rfl Z7r) fun g3 => Zg Z2p 3 rfl <| As rfl <| Nl <| sq ?_
 obtain ⟨x4, hx4, h⟩ := Z9 h
 refine Rg <| Ld Z5u 2 rfl <| Ac (Z0k (xs := [.tmp 28, .const (Value.int IntKind.i64 0)]) (Zkd _ _ _ hx4) e54 rfl rfl ⟨vt rfl, vk rfl, trivial⟩) rfl <| Mt2 rfl <| Ac (Z20 rfl rfl (vt rfl)) rfl <| Ac (Z22 rfl rfl (vt rfl)) rfl <| Cv rfl (Zn 5 rfl rfl Z7r) fun g5 => Zg Z2p 5 rfl <| As rfl <| Nl <| sq ?_
 obtain ⟨x6, hx6, x7, hx7, x8, hx8, x9, hx9, h⟩ := bs4 h
 refine Rg <| Md rfl <| Ac (Z0z rfl rfl (vt rfl) (vk rfl)) rfl <| Md rfl <| Gd rfl (fun hq => Z0l lFlat_0 rfl rfl Z3d (vt rfl)) <| Gd rfl (fun hq => Z0d rfl rfl Z39 (Z5 rfl hq) (i := 3) rfl) <| Gd rfl (fun hq => Z0a rfl rfl Z1a (Z5 rfl hq)) <| Gd rfl (fun hq => Z0z rfl rfl (Z5 rfl hq) (vk rfl)) <| Ac (Z0p rfl rfl (vt rfl) (vt rfl)) rfl <| Md rfl <| Gd rfl (fun hq => Z0l lFlat_0 rfl rfl Z3d (vt rfl)) <| Gd rfl (fun hq => Z0d rfl rfl Z39 (Z5 rfl hq) (i := 3) rfl) <| Gd rfl (fun hq => Z04 rfl rfl Z1a (Z5 rfl hq) (vk rfl) (Z1h hx6 hq)) <| Gd rfl (fun hq => Z1i lRule_1 rfl rfl Z5q (Z5 rfl hq)) <| Gd rfl (fun hq => Z1t rfl rfl Z3b (Z5 rfl hq)) <| Gd rfl (fun hq => Z0a rfl rfl Z1q (Z5 rfl hq)) <| Gd rfl (fun hq => Z0z rfl rfl (Z5 rfl hq) (vk rfl)) <| Ac (Z0p rfl rfl (vt rfl) (vt rfl)) rfl <| Md rfl <| Gd rfl (fun hq => Zh (A := rd (Z0 .i64) x4.2) rfl rfl (vt rfl)) <| Gd rfl (fun hq => Z0z rfl rfl (Z5 rfl hq) (vk rfl)) <| Ac (Z0p rfl rfl (vt rfl) (vt rfl)) rfl <| Md rfl <| Gd rfl (fun hq => Z0d rfl rfl Z5u (vt rfl) (i := 2) rfl) <| Gd rfl (fun hq => Z0k (xs := [.tmp 54]) (Zzt _ _ (Z1h hx7 hq)) e58 rfl rfl ⟨Z5 rfl hq, trivial⟩) <| Gd rfl (fun hq => Z4d rfl rfl (Z5 rfl hq) (vk rfl)) <| Ac (Z0p rfl rfl (vt rfl) (vt rfl)) rfl <| Md rfl <| Gd rfl (fun hq => Z0d rfl rfl Z2p (vt rfl) (i := 3) rfl) <| Gd rfl (fun hq => Z0d rfl rfl Z2p (vt rfl) (i := 3) rfl) <| Gd rfl (fun hq => Z0k (xs := [.tmp 59, .tmp 60]) (Zbn _ _ _ (Z1h hx8 hq)) e56 rfl rfl ⟨Z5 rfl hq, Z5 rfl hq, trivial⟩) <| Ac (Z0p rfl rfl (vt rfl) (vt rfl)) rfl <| Md rfl <| Gd rfl (fun hq => Z0d rfl rfl Z2p (vt rfl) (i := 3) rfl) <| Gd rfl (fun hq => opb (⟨[], []⟩ : Flat) Z7r rfl Zfx (pn rfl)) <| Gd rfl (fun hq => Z0k (xs := [.tmp 64, .tmp 65]) (Zbn _ _ _ (Z1h hx9 hq)) e56 rfl rfl ⟨Z5 rfl hq, Z5 rfl hq, trivial⟩) <| Gd rfl (fun hq => Z0m rfl rfl (Z5 rfl hq)) <| Ac (Z0p rfl rfl (vt rfl) (vt rfl)) rfl <| As rfl <| Nl <| rt ?_
 cases h; exact Zc Tryz.results53 rfl (Zb rfl)
end Go.Proofs.YtknpgojdkobgjaaGreat.W
set_option maxRecDepth 4000
namespace Go.Proofs.YtknpgojdkobgjaaGreat.W
open Go Go.Wb
theorem Zt1 : Ent Tryz.prog 330 := Ent.mk Tryz.func330 rfl rfl
theorem Zvt : Ent Tryz.prog 293 := Ent.mk Tryz.func293 rfl rfl
theorem Zqq : Ent Tryz.prog 246 := Ent.mk Tryz.func246 rfl rfl
theorem Zzo : Ent Tryz.prog 184 := Ent.mk Tryz.func184 rfl rfl
theorem Zt2 : Ent Tryz.prog 116 := Ent.mk Tryz.func116 rfl rfl
theorem e53 : Ent Tryz.prog 53 := Ent.mk Tryz.func53 rfl rfl
theorem e57 : Ent Tryz.prog 57 := Ent.mk Tryz.func57 rfl rfl
def Zeg (a1 : Oxm) (b2 : Oxm) : Option Bool :=
 some ((((decide (a1.Field = b2.Field)) && (a1.Masked == b2.Masked)) && (decide (a1.Value = b2.Value))) && (decide (a1.Mask = b2.Mask)))
theorem Zur : Q2 Tryz.prog 330 (rd Z12) (rd Z12) (rd Z6) Zeg := fun a1 b2 r h => I0 Tryz.func330 rfl Tryz.ntmps330 rfl fun w H => by
 unfold Zeg at h
 refine SR <| Cv rfl (Zs 3 rfl rfl (vt rfl)) fun g3 => Cv rfl (Zs 4 rfl rfl (vt rfl)) fun g4 => Ab rfl <| Nl <| SR <| Zt Z4p Z5w rfl <| Ld Zm 3 rfl <| Zt Z4p Z5w rfl <| Ld Zm 4 rfl <| Ac (Z0z rfl rfl (vt rfl) (vt rfl)) rfl <| Md rfl <| Gd rfl (fun hq => Z0l Zea rfl rfl Zfq (vt rfl)) <| Gd rfl (fun hq => Z0d rfl rfl ty4 (Z5 rfl hq) (i := 3) rfl) <| Gd rfl (fun hq => Z0l Zea rfl rfl Zfq (vt rfl)) <| Gd rfl (fun hq => Z0d rfl rfl ty4 (Z5 rfl hq) (i := 4) rfl) <| Gd rfl (fun hq => Zkx rfl rfl un4 (Z5 rfl hq) (Z5 rfl hq)) <| Ac (Z0p rfl rfl (vt rfl) (vt rfl)) rfl <| Md rfl <| Gd rfl (fun hq => Z0l Zb6 rfl rfl Ze5 (vt rfl)) <| Gd rfl (fun hq => Z0d rfl rfl Zw (Z5 rfl hq) (i := 3) rfl) <| Gd rfl (fun hq => Z0l Zb6 rfl rfl Ze5 (vt rfl)) <| Gd rfl (fun hq => Z0d rfl rfl Zw (Z5 rfl hq) (i := 4) rfl) <| Gd rfl (fun hq => Z7h rfl rfl Z87 (by decide) rfl Zof (Z5 rfl hq) (Z5 rfl hq)) <| Ac (Z0p rfl rfl (vt rfl) (vt rfl)) rfl <| Md rfl <| Gd rfl (fun hq => Z0l Zbw rfl rfl Zii (vt rfl)) <| Gd rfl (fun hq => Z0d rfl rfl Zw (Z5 rfl hq) (i := 3) rfl) <| Gd rfl (fun hq => Z0l Zbw rfl rfl Zii (vt rfl)) <| Gd rfl (fun hq => Z0d rfl rfl Zw (Z5 rfl hq) (i := 4) rfl) <| Gd rfl (fun hq => Z7h rfl rfl Z87 (by decide) rfl Zof (Z5 rfl hq) (Z5 rfl hq)) <| Ac (Z0p rfl rfl (vt rfl) (vt rfl)) rfl <| As rfl <| Nl <| rt ?_
 cases h; exact Zc Tryz.results330 rfl (Zb rfl)
def Z9r (a1 : Action) (b2 : Action) : Option Bool :=
 (opt (((((decide (a1.Kind = b2.Kind)) && (decide (a1.Port = b2.Port))) && (decide (a1.Max = b2.Max))) && (decide (a1.Group = b2.Group))) && (decide (a1.Ether = b2.Ether))) (Zeg a1.Oxm b2.Oxm)).bind fun x5 => some ((((((decide (a1.Kind = b2.Kind)) && (decide (a1.Port = b2.Port))) && (decide (a1.Max = b2.Max))) && (decide (a1.Group = b2.Group))) && (decide (a1.Ether = b2.Ether))) && x5)
theorem Y1d : Q2 Tryz.prog 293 (rd Z8) (rd Z8) (rd Z6) Z9r := fun a1 b2 r h => I0 Tryz.func293 rfl Tryz.ntmps293 rfl fun w H => by
 unfold Z9r at h
 refine SR <| Cv rfl (Zs 3 rfl rfl (vt rfl)) fun g3 => Cv rfl (Zs 4 rfl rfl (vt rfl)) fun g4 => Ab rfl <| Nl <| sq ?_
 obtain ⟨x5, hx5, h⟩ := Z9 h
 refine Rg <| Zt lAction_0 Z43 rfl <| Ld Zm 3 rfl <| Zt lAction_0 Z43 rfl <| Ld Zm 4 rfl <| Ac (Z0z rfl rfl (vt rfl) (vt rfl)) rfl <| Md rfl <| Gd rfl (fun hq => Z0l lAction_1 rfl rfl Zc6 (vt rfl)) <| Gd rfl (fun hq => Z0d rfl rfl Zm (Z5 rfl hq) (i := 3) rfl) <| Gd rfl (fun hq => Z0l lAction_1 rfl rfl Zc6 (vt rfl)) <| Gd rfl (fun hq => Z0d rfl rfl Zm (Z5 rfl hq) (i := 4) rfl) <| Gd rfl (fun hq => Z0z rfl rfl (Z5 rfl hq) (Z5 rfl hq)) <| Ac (Z0p rfl rfl (vt rfl) (vt rfl)) rfl <| Md rfl <| Gd rfl (fun hq => Z0l Zci rfl rfl Zj4 (vt rfl)) <| Gd rfl (fun hq => Z0d rfl rfl Zm (Z5 rfl hq) (i := 3) rfl) <| Gd rfl (fun hq => Z0l Zci rfl rfl Zj4 (vt rfl)) <| Gd rfl (fun hq => Z0d rfl rfl Zm (Z5 rfl hq) (i := 4) rfl) <| Gd rfl (fun hq => Z0z rfl rfl (Z5 rfl hq) (Z5 rfl hq)) <| Ac (Z0p rfl rfl (vt rfl) (vt rfl)) rfl <| Md rfl <| Gd rfl (fun hq => Z0l Zbu rfl rfl Zhj (vt rfl)) <| Gd rfl (fun hq => Z0d rfl rfl Zm (Z5 rfl hq) (i := 3) rfl) <| Gd rfl (fun hq => Z0l Zbu rfl rfl Zhj (vt rfl)) <| Gd rfl (fun hq => Z0d rfl rfl Zm (Z5 rfl hq) (i := 4) rfl) <| Gd rfl (fun hq => Z0z rfl rfl (Z5 rfl hq) (Z5 rfl hq)) <| Ac (Z0p rfl rfl (vt rfl) (vt rfl)) rfl <| Md rfl <| Gd rfl (fun hq => Z0l Zit rfl rfl Zla (vt rfl)) <| Gd rfl (fun hq => Z0d rfl rfl Zm (Z5 rfl hq) (i := 3) rfl) <| Gd rfl (fun hq => Z0l Zit rfl rfl Zla (vt rfl)) <| Gd rfl (fun hq => Z0d rfl rfl Zm (Z5 rfl hq) (i := 4) rfl) <| Gd rfl (fun hq => Z0z rfl rfl (Z5 rfl hq) (Z5 rfl hq)) <| Ac (Z0p rfl rfl (vt rfl) (vt rfl)) rfl <| Md rfl <| Gd rfl (fun hq => Z0l Z8f rfl rfl Z8u (vt rfl)) <| Gd rfl (fun hq => Z0d rfl rfl Z6n (Z5 rfl hq) (i := 3) rfl) <| Gd rfl (fun hq => Z0l Z8f rfl rfl Z8u (vt rfl)) <| Gd rfl (fun hq => Z0d rfl rfl Z6n (Z5 rfl hq) (i := 4) rfl) <| Gd rfl (fun hq => Z0k (xs := [.tmp 40, .tmp 42]) (Zur _ _ _ (Z1h hx5 hq)) Zt1 rfl rfl ⟨Z5 rfl hq, Z5 rfl hq, trivial⟩) <| Ac (Z0p rfl rfl (vt rfl) (vt rfl)) rfl <| As rfl <| Nl <| rt ?_
 cases h; exact Zc Tryz.results293 rfl (Zb rfl)
def Z7n (a1 : (List Action)) (b2 : (List Action)) : Nat → Int → Option Bool
 | 0, _ => none
 | m5 + 1, i4 => (bif (decide (i4 < (a1.length : Int))) then (lget a1 i4).bind fun x6 => (lget b2 i4).bind fun x7 => (Z9r x6 x7).bind fun x8 => (bif (!x8) then some false else (Z7n a1 b2 m5) (IntKind.i64.wrap (i4 + 1))) else some true)
def Z7t (a1 : (List Action)) (b2 : (List Action)) : Option Bool :=
 (bif (decide ((a1.length : Int) ≠ (b2.length : Int))) then some false else Z7n a1 b2 ((((a1.length : Int) : Int) - 0).toNat + 1) 0)
theorem Zxe : Q2 Tryz.prog 246 (rd (Z1 Z8)) (rd (Z1 Z8)) (rd Z6) Z7t := fun a1 b2 r h => I0 Tryz.func246 rfl Tryz.ntmps246 rfl fun w H => by
 unfold Z7t at h
 refine SR <| Ab rfl <| Nl <| sq <| SR <| Md rfl <| Ac (Z0a rfl rfl Z0g (vt rfl)) rfl <| Md rfl <| Ac (Z0a rfl rfl Z0g (vt rfl)) rfl <| Ac (Z24 rfl rfl (vt rfl) (vt rfl)) rfl <| Nl <| Cq rfl h (fun h => ?_) (fun h => ?_)
 ·refine SR <| Ab rfl <| Nl <| rt ?_
  cases h; exact Zc Tryz.results246 rfl (Zb rfl)
 ·refine sk <| sq <| SR <| Ak rfl <| Nl <| bk <| LG (d := []) (ν := Nat × Int) (fun (m5, i4) => (True ∧ Z7n a1 b2 m5 i4 = some r, m5, [(0, rd (Z1 Z8) a1), (1, rd (Z1 Z8) b2), (5, rd (Z0 .i64) i4)], [])) (((((a1.length : Int) : Int) - 0).toNat + 1), 0) ⟨trivial, h⟩ (FX rfl) ?_
  rintro ⟨m5, i4⟩ ⟨hsf1, h⟩
  dsimp only at h ⊢
  cases m5 with
  | zero => cases h
  | succ m5 =>
   unfold Z7n at h
   refine sq <| SR <| Md rfl <| Md rfl <| Ac (Z0a rfl rfl Z0g (vt rfl)) rfl <| Ac (Zl rfl rfl (vt rfl) (vt rfl)) rfl <| Nl <| Cq rfl h (fun h => ?_) (fun h => ?_)
   ·refine sk <| sq <| bk <| sq ?_
    obtain ⟨x6, hx6, x7, hx7, x8, hx8, h⟩ := bs3 h
    refine AR Z01 (by kernel_rfl) <| Zq rfl <| Zq rfl <| Sd (lo [17, 18] [] rfl fun S hs hr => Z04 rfl rfl Z0g (vh hs 17 rfl rfl) (vh hs 18 rfl rfl) hx6) <| SLp Z0f rfl <| Zq rfl <| Zq rfl <| Sd (lo [21, 22] [] rfl fun S hs hr => Z04 rfl rfl Z0g (vh hs 21 rfl rfl) (vh hs 22 rfl rfl) hx7) <| SLp Z0f rfl <| SCl [20, 24] (Y1d _ _ _ hx8) Zvt rfl <| Sd (lo [25] [] rfl fun S hs hr => Z0m rfl rfl (vh hs 25 rfl rfl)) <| Sn <| Cq rfl h (fun h => ?_) (fun h => ?_)
    ·refine SR <| Ab rfl <| Nl <| rt ?_
     cases h; exact Zc Tryz.results246 rfl (Zb rfl)
    ·refine sk <| Rg <| Md rfl <| Ac (Z09 rfl rfl (vt rfl) (vk rfl)) rfl <| As rfl <| Nl ?_
     exact ⟨(_, _), Nat.lt_succ_self _, ⟨trivial, h⟩, FX rfl⟩
   ·refine xt <| SR <| Ab rfl <| Nl <| rt ?_
    cases h; exact Zc Tryz.results246 rfl (Zb rfl)
def Z7a (a1 : (List Bucket)) (b2 : (List Bucket)) : Nat → Int → Option Bool
 | 0, _ => none
 | m5 + 1, i4 => (bif (decide (i4 < (a1.length : Int))) then (lget a1 i4).bind fun x6 => (lget b2 i4).bind fun x7 => (opt (!(decide (x6.Weight ≠ x7.Weight))) (lget a1 i4)).bind fun x8 => (opt (!(decide (x6.Weight ≠ x7.Weight))) (lget b2 i4)).bind fun x9 => (opt (!((decide (x6.Weight ≠ x7.Weight)) || (decide (x8.Watch ≠ x9.Watch)))) (lget a1 i4)).bind fun x10 => (opt (!((decide (x6.Weight ≠ x7.Weight)) || (decide (x8.Watch ≠ x9.Watch)))) (lget b2 i4)).bind fun x11 => (opt (!(((decide (x6.Weight ≠ x7.Weight)) || (decide (x8.Watch ≠ x9.Watch))) || (decide (x10.WatchGroup ≠ x11.WatchGroup)))) (lget a1 i4)).bind fun x12 => (opt (!(((decide (x6.Weight ≠ x7.Weight)) || (decide (x8.Watch ≠ x9.Watch))) || (decide (x10.WatchGroup ≠ x11.WatchGroup)))) (lget b2 i4)).bind fun x13 => (opt (!(((decide (x6.Weight ≠ x7.Weight)) || (decide (x8.Watch ≠ x9.Watch))) || (decide (x10.WatchGroup ≠ x11.WatchGroup)))) (Z7t x12.Acts x13.Acts)).bind fun x14 => (bif ((((decide (x6.Weight ≠ x7.Weight)) || (decide (x8.Watch ≠ x9.Watch))) || (decide (x10.WatchGroup ≠ x11.WatchGroup))) || (!x14)) then some false else (Z7a a1 b2 m5) (IntKind.i64.wrap (i4 + 1))) else some true)
def Z8i (a1 : (List Bucket)) (b2 : (List Bucket)) : Option Bool :=
 (bif (decide ((a1.length : Int) ≠ (b2.length : Int))) then some false else Z7a a1 b2 ((((a1.length : Int) : Int) - 0).toNat + 1) 0)
theorem Zol : Q2 Tryz.prog 184 (rd (Z1 Z0c)) (rd (Z1 Z0c)) (rd Z6) Z8i := fun a1 b2 r h => I0 Tryz.func184 rfl Tryz.ntmps184 rfl fun w H => by
 unfold Z8i at h
 refine SR <| Ab rfl <| Nl <| sq <| SR <| Md rfl <| Ac (Z0a rfl rfl Z1p (vt rfl)) rfl <| Md rfl <| Ac (Z0a rfl rfl Z1p (vt rfl)) rfl <| Ac (Z24 rfl rfl (vt rfl) (vt rfl)) rfl <| Nl <| Cq rfl h (fun h => ?_) (fun h => ?_)
 ·refine SR <| Ab rfl <| Nl <| rt ?_
  cases h; exact Zc Tryz.results184 rfl (Zb rfl)
 ·refine sk <| sq <| SR <| Ak rfl <| Nl <| bk <| LG (d := []) (ν := Nat × Int) (fun (m5, i4) => (True ∧ Z7a a1 b2 m5 i4 = some r, m5, [(0, rd (Z1 Z0c) a1), (1, rd (Z1 Z0c) b2), (5, rd (Z0 .i64) i4)], [])) (((((a1.length : Int) : Int) - 0).toNat + 1), 0) ⟨trivial, h⟩ (FX rfl) ?_
  rintro ⟨m5, i4⟩ ⟨hsf1, h⟩
  dsimp only at h ⊢
  cases m5 with
  | zero => cases h
  | succ m5 =>
   unfold Z7a at h
   refine sq <| SR <| Md rfl <| Md rfl <| Ac (Z0a rfl rfl Z1p (vt rfl)) rfl <| Ac (Zl rfl rfl (vt rfl) (vt rfl)) rfl <| Nl <| Cq rfl h (fun h => ?_) (fun h => ?_)
   ·refine sk <| sq <| bk <| sq ?_
    obtain ⟨x6, hx6, x7, hx7, x8, hx8, x9, hx9, h⟩ := bs4 h
    obtain ⟨x10, hx10, x11, hx11, x12, hx12, x13, hx13, h⟩ := bs4 h
    obtain ⟨x14, hx14, h⟩ := Z9 h
    refine AR Z01 (by kernel_rfl) <| Zq rfl <| Zq rfl <| Sd (lo [17, 18] [] rfl fun S hs hr => Z04 rfl rfl Z1p (vh hs 17 rfl rfl) (vh hs 18 rfl rfl) hx6) <| SFp Z9n Zcq rfl <| SLp Zm rfl <| Zq rfl <| Zq rfl <| Sd (lo [22, 23] [] rfl fun S hs hr => Z04 rfl rfl Z1p (vh hs 22 rfl rfl) (vh hs 23 rfl rfl) hx7) <| SFp Z9n Zcq rfl <| SLp Zm rfl <| Sd (lo [21, 26] [] rfl fun S hs hr => Z24 rfl rfl (vh hs 21 rfl rfl) (vh hs 26 rfl rfl)) <| Zq rfl <| Sd (lg [0, 28] [] rfl fun hq S hs hr => Zh (A := rd (Z1 Z0c) a1) rfl rfl (vh hs 0 rfl rfl)) <| Sd (lg [5, 28] [] rfl fun hq S hs hr => Zh (A := rd (Z0 .i64) i4) rfl rfl (vh hs 5 rfl rfl)) <| Sd (lg [29, 30, 28] [] rfl fun hq S hs hr => Z04 rfl rfl Z1p (Z5 ((hs 29 rfl).trans rfl) hq) (Z5 ((hs 30 rfl).trans rfl) hq) (Z1d hx8 hq)) <| Sd (lg [31, 28] [] rfl fun hq S hs hr => Z1i Zbh rfl rfl Zdf (Z5 ((hs 31 rfl).trans rfl) hq)) <| Sd (lg [32, 28] [] rfl fun hq S hs hr => Z1t rfl rfl Zm (Z5 ((hs 32 rfl).trans rfl) hq)) <| Sd (lg [1, 28] [] rfl fun hq S hs hr => Zh (A := rd (Z1 Z0c) b2) rfl rfl (vh hs 1 rfl rfl)) <| Sd (lg [5, 28] [] rfl fun hq S hs hr => Zh (A := rd (Z0 .i64) i4) rfl rfl (vh hs 5 rfl rfl)) <| Sd (lg [34, 35, 28] [] rfl fun hq S hs hr => Z04 rfl rfl Z1p (Z5 ((hs 34 rfl).trans rfl) hq) (Z5 ((hs 35 rfl).trans rfl) hq) (Z1d hx9 hq)) <| Sd (lg [36, 28] [] rfl fun hq S hs hr => Z1i Zbh rfl rfl Zdf (Z5 ((hs 36 rfl).trans rfl) hq)) <| Sd (lg [37, 28] [] rfl fun hq S hs hr => Z1t rfl rfl Zm (Z5 ((hs 37 rfl).trans rfl) hq)) <| Sd (lg [33, 38, 28] [] rfl fun hq S hs hr => Z24 rfl rfl (Z5 ((hs 33 rfl).trans rfl) hq) (Z5 ((hs 38 rfl).trans rfl) hq)) <| Sd (lo [39, 28] [] rfl fun S hs hr => Z2v rfl rfl (vh hs 28 rfl rfl) (vh hs 39 rfl rfl)) <| Zq rfl <| Sd (lg [0, 41] [] rfl fun hq S hs hr => Zh (A := rd (Z1 Z0c) a1) rfl rfl (vh hs 0 rfl rfl)) <| Sd (lg [5, 41] [] rfl fun hq S hs hr => Zh (A := rd (Z0 .i64) i4) rfl rfl (vh hs 5 rfl rfl)) <| Sd (lg [42, 43, 41] [] rfl fun hq S hs hr => Z04 rfl rfl Z1p (Z5 ((hs 42 rfl).trans rfl) hq) (Z5 ((hs 43 rfl).trans rfl) hq) (Z1d hx10 hq)) <| Sd (lg [44, 41] [] rfl fun hq S hs hr => Z1i Za5 rfl rfl Zf7 (Z5 ((hs 44 rfl).trans rfl) hq)) <| Sd (lg [45, 41] [] rfl fun hq S hs hr => Z1t rfl rfl Zm (Z5 ((hs 45 rfl).trans rfl) hq)) <| Sd (lg [1, 41] [] rfl fun hq S hs hr => Zh (A := rd (Z1 Z0c) b2) rfl rfl (vh hs 1 rfl rfl)) <| Sd (lg [5, 41] [] rfl fun hq S hs hr => Zh (A := rd (Z0 .i64) i4) rfl rfl (vh hs 5 rfl rfl)) <| Sd (lg [47, 48, 41] [] rfl fun hq S hs hr => Z04 rfl rfl Z1p (Z5 ((hs 47 rfl).trans rfl) hq) (Z5 ((hs 48 rfl).trans rfl) hq) (Z1d hx11 hq)) <| Sd (lg [49, 41] [] rfl fun hq S hs hr => Z1i Za5 rfl rfl Zf7 (Z5 ((hs 49 rfl).trans rfl) hq)) <| Sd (lg [50, 41] [] rfl fun hq S hs hr => Z1t rfl rfl Zm (Z5 ((hs 50 rfl).trans rfl) hq)) <| Sd (lg [46, 51, 41] [] rfl fun hq S hs hr => Z24 rfl rfl (Z5 ((hs 46 rfl).trans rfl) hq) (Z5 ((hs 51 rfl).trans rfl) hq)) <| Sd (lo [52, 41] [] rfl fun S hs hr => Z2v rfl rfl (vh hs 41 rfl rfl) (vh hs 52 rfl rfl)) <| Zq rfl <| Sd (lg [0, 54] [] rfl fun hq S hs hr => Zh (A := rd (Z1 Z0c) a1) rfl rfl (vh hs 0 rfl rfl)) <| Sd (lg [5, 54] [] rfl fun hq S hs hr => Zh (A := rd (Z0 .i64) i4) rfl rfl (vh hs 5 rfl rfl)) <| Sd (lg [55, 56, 54] [] rfl fun hq S hs hr => Z04 rfl rfl Z1p (Z5 ((hs 55 rfl).trans rfl) hq) (Z5 ((hs 56 rfl).trans rfl) hq) (Z1d hx12 hq)) <| Sd (lg [57, 54] [] rfl fun hq S hs hr => Z1i Z5t rfl rfl Z6a (Z5 ((hs 57 rfl).trans rfl) hq)) <| Sd (lg [58, 54] [] rfl fun hq S hs hr => Z1t rfl rfl Z30 (Z5 ((hs 58 rfl).trans rfl) hq)) <| Sd (lg [1, 54] [] rfl fun hq S hs hr => Zh (A := rd (Z1 Z0c) b2) rfl rfl (vh hs 1 rfl rfl)) <| Sd (lg [5, 54] [] rfl fun hq S hs hr => Zh (A := rd (Z0 .i64) i4) rfl rfl (vh hs 5 rfl rfl)) <| Sd (lg [60, 61, 54] [] rfl fun hq S hs hr => Z04 rfl rfl Z1p (Z5 ((hs 60 rfl).trans rfl) hq) (Z5 ((hs 61 rfl).trans rfl) hq) (Z1d hx13 hq)) <| Sd (lg [62, 54] [] rfl fun hq S hs hr => Z1i Z5t rfl rfl Z6a (Z5 ((hs 62 rfl).trans rfl) hq)) <| Sd (lg [63, 54] [] rfl fun hq S hs hr => Z1t rfl rfl Z30 (Z5 ((hs 63 rfl).trans rfl) hq)) <| Sd (lg [59, 64, 54] [] rfl fun hq S hs hr => Z0k (xs := [.tmp 59, .tmp 64]) (Zxe _ _ _ (Z1d hx14 hq)) Zqq rfl rfl ⟨Z5 ((hs 59 rfl).trans rfl) hq, Z5 ((hs 64 rfl).trans rfl) hq, trivial⟩) <| Sd (lg [65, 54] [] rfl fun hq S hs hr => Z0m rfl rfl (Z5 ((hs 65 rfl).trans rfl) hq)) <| Sd (lo [66, 54] [] rfl fun S hs hr => Z2v rfl rfl (vh hs 54 rfl rfl) (vh hs 66 rfl rfl)) <| Sn ?_
    refine Cq rfl h (fun h => ?_) (fun h => ?_)
    ·refine SR <| Ab rfl <| Nl <| rt ?_
     cases h; exact Zc Tryz.results184 rfl (Zb rfl)
    ·refine sk <| Rg <| Md rfl <| Ac (Z09 rfl rfl (vt rfl) (vk rfl)) rfl <| As rfl <| Nl ?_
     exact ⟨(_, _), Nat.lt_succ_self _, ⟨trivial, h⟩, FX rfl⟩
   ·refine xt <| SR <| Ab rfl <| Nl <| rt ?_
    cases h; exact Zc Tryz.results184 rfl (Zb rfl)
def Z7d (a1 : (List Group)) (b2 : (List Group)) : Nat → Int → Option Bool
 | 0, _ => none
 | m5 + 1, i4 => (bif (decide (i4 < (a1.length : Int))) then (lget a1 i4).bind fun x6 => (lget b2 i4).bind fun x7 => (opt (!(decide (x6.ID ≠ x7.ID))) (lget a1 i4)).bind fun x8 => (opt (!(decide (x6.ID ≠ x7.ID))) (lget b2 i4)).bind fun x9 => (opt (!((decide (x6.ID ≠ x7.ID)) || (decide (x8.Kind ≠ x9.Kind)))) (lget a1 i4)).bind fun x10 => (opt (!((decide (x6.ID ≠ x7.ID)) || (decide (x8.Kind ≠ x9.Kind)))) (lget b2 i4)).bind fun x11 => (opt (!((decide (x6.ID ≠ x7.ID)) || (decide (x8.Kind ≠ x9.Kind)))) (Z8i x10.Buckets x11.Buckets)).bind fun x12 => (bif (((decide (x6.ID ≠ x7.ID)) || (decide (x8.Kind ≠ x9.Kind))) || (!x12)) then some false else (Z7d a1 b2 m5) (IntKind.i64.wrap (i4 + 1))) else some true)
def Za1 (a1 : (List Group)) (b2 : (List Group)) : Option Bool :=
 (bif (decide ((a1.length : Int) ≠ (b2.length : Int))) then some false else Z7d a1 b2 ((((a1.length : Int) : Int) - 0).toNat + 1) 0)
theorem Zso : Q2 Tryz.prog 116 (rd (Z1 Zz)) (rd (Z1 Zz)) (rd Z6) Za1 := fun a1 b2 r h => I0 Tryz.func116 rfl Tryz.ntmps116 rfl fun w H => by
 unfold Za1 at h
 refine SR <| Ab rfl <| Nl <| sq <| SR <| Md rfl <| Ac (Z0a rfl rfl Z1c (vt rfl)) rfl <| Md rfl <| Ac (Z0a rfl rfl Z1c (vt rfl)) rfl <| Ac (Z24 rfl rfl (vt rfl) (vt rfl)) rfl <| Nl <| Cq rfl h (fun h => ?_) (fun h => ?_)
 ·refine SR <| Ab rfl <| Nl <| rt ?_
  cases h; exact Zc Tryz.results116 rfl (Zb rfl)
 ·refine sk <| sq <| SR <| Ak rfl <| Nl <| bk <| LG (d := []) (ν := Nat × Int) (fun (m5, i4) => (True ∧ Z7d a1 b2 m5 i4 = some r, m5, [(0, rd (Z1 Zz) a1), (1, rd (Z1 Zz) b2), (5, rd (Z0 .i64) i4)], [])) (((((a1.length : Int) : Int) - 0).toNat + 1), 0) ⟨trivial, h⟩ (FX rfl) ?_
  rintro ⟨m5, i4⟩ ⟨hsf1, h⟩
  dsimp only at h ⊢
  cases m5 with
  | zero => cases h
  | succ m5 =>
   unfold Z7d at h
   refine sq <| SR <| Md rfl <| Md rfl <| Ac (Z0a rfl rfl Z1c (vt rfl)) rfl <| Ac (Zl rfl rfl (vt rfl) (vt rfl)) rfl <| Nl <| Cq rfl h (fun h => ?_) (fun h => ?_)
   ·refine sk <| sq <| bk <| sq ?_
    obtain ⟨x6, hx6, x7, hx7, x8, hx8, x9, hx9, h⟩ := bs4 h
    obtain ⟨x10, hx10, x11, hx11, x12, hx12, h⟩ := bs3 h
    refine AR Z01 (by kernel_rfl) <| Zq rfl <| Zq rfl <| Sd (lo [17, 18] [] rfl fun S hs hr => Z04 rfl rfl Z1c (vh hs 17 rfl rfl) (vh hs 18 rfl rfl) hx6) <| SFp Z5x Z8k rfl <| SLp Zm rfl <| Zq rfl <| Zq rfl <| Sd (lo [22, 23] [] rfl fun S hs hr => Z04 rfl rfl Z1c (vh hs 22 rfl rfl) (vh hs 23 rfl rfl) hx7) <| SFp Z5x Z8k rfl <| SLp Zm rfl <| Sd (lo [21, 26] [] rfl fun S hs hr => Z24 rfl rfl (vh hs 21 rfl rfl) (vh hs 26 rfl rfl)) <| Zq rfl <| Sd (lg [0, 28] [] rfl fun hq S hs hr => Zh (A := rd (Z1 Zz) a1) rfl rfl (vh hs 0 rfl rfl)) <| Sd (lg [5, 28] [] rfl fun hq S hs hr => Zh (A := rd (Z0 .i64) i4) rfl rfl (vh hs 5 rfl rfl)) <| Sd (lg [29, 30, 28] [] rfl fun hq S hs hr => Z04 rfl rfl Z1c (Z5 ((hs 29 rfl).trans rfl) hq) (Z5 ((hs 30 rfl).trans rfl) hq) (Z1d hx8 hq)) <| Sd (lg [31, 28] [] rfl fun hq S hs hr => Z1i Z8o rfl rfl Zdw (Z5 ((hs 31 rfl).trans rfl) hq)) <| Sd (lg [32, 28] [] rfl fun hq S hs hr => Z1t rfl rfl Zm (Z5 ((hs 32 rfl).trans rfl) hq)) <| Sd (lg [1, 28] [] rfl fun hq S hs hr => Zh (A := rd (Z1 Zz) b2) rfl rfl (vh hs 1 rfl rfl)) <| Sd (lg [5, 28] [] rfl fun hq S hs hr => Zh (A := rd (Z0 .i64) i4) rfl rfl (vh hs 5 rfl rfl)) <| Sd (lg [34, 35, 28] [] rfl fun hq S hs hr => Z04 rfl rfl Z1c (Z5 ((hs 34 rfl).trans rfl) hq) (Z5 ((hs 35 rfl).trans rfl) hq) (Z1d hx9 hq)) <| Sd (lg [36, 28] [] rfl fun hq S hs hr => Z1i Z8o rfl rfl Zdw (Z5 ((hs 36 rfl).trans rfl) hq)) <| Sd (lg [37, 28] [] rfl fun hq S hs hr => Z1t rfl rfl Zm (Z5 ((hs 37 rfl).trans rfl) hq)) <| Sd (lg [33, 38, 28] [] rfl fun hq S hs hr => Z24 rfl rfl (Z5 ((hs 33 rfl).trans rfl) hq) (Z5 ((hs 38 rfl).trans rfl) hq)) <| Sd (lo [39, 28] [] rfl fun S hs hr => Z2v rfl rfl (vh hs 28 rfl rfl) (vh hs 39 rfl rfl)) <| Zq rfl <| Sd (lg [0, 41] [] rfl fun hq S hs hr => Zh (A := rd (Z1 Zz) a1) rfl rfl (vh hs 0 rfl rfl)) <| Sd (lg [5, 41] [] rfl fun hq S hs hr => Zh (A := rd (Z0 .i64) i4) rfl rfl (vh hs 5 rfl rfl)) <| Sd (lg [42, 43, 41] [] rfl fun hq S hs hr => Z04 rfl rfl Z1c (Z5 ((hs 42 rfl).trans rfl) hq) (Z5 ((hs 43 rfl).trans rfl) hq) (Z1d hx10 hq)) <| Sd (lg [44, 41] [] rfl fun hq S hs hr => Z1i Z5r rfl rfl Z5z (Z5 ((hs 44 rfl).trans rfl) hq)) <| Sd (lg [45, 41] [] rfl fun hq S hs hr => Z1t rfl rfl Z6r (Z5 ((hs 45 rfl).trans rfl) hq)) <| Sd (lg [1, 41] [] rfl fun hq S hs hr => Zh (A := rd (Z1 Zz) b2) rfl rfl (vh hs 1 rfl rfl)) <| Sd (lg [5, 41] [] rfl fun hq S hs hr => Zh (A := rd (Z0 .i64) i4) rfl rfl (vh hs 5 rfl rfl)) <| Sd (lg [47, 48, 41] [] rfl fun hq S hs hr => Z04 rfl rfl Z1c (Z5 ((hs 47 rfl).trans rfl) hq) (Z5 ((hs 48 rfl).trans rfl) hq) (Z1d hx11 hq)) <| Sd (lg [49, 41] [] rfl fun hq S hs hr => Z1i Z5r rfl rfl Z5z (Z5 ((hs 49 rfl).trans rfl) hq)) <| Sd (lg [50, 41] [] rfl fun hq S hs hr => Z1t rfl rfl Z6r (Z5 ((hs 50 rfl).trans rfl) hq)) <| Sd (lg [46, 51, 41] [] rfl fun hq S hs hr => Z0k (xs := [.tmp 46, .tmp 51]) (Zol _ _ _ (Z1d hx12 hq)) Zzo rfl rfl ⟨Z5 ((hs 46 rfl).trans rfl) hq, Z5 ((hs 51 rfl).trans rfl) hq, trivial⟩) <| Sd (lg [52, 41] [] rfl fun hq S hs hr => Z0m rfl rfl (Z5 ((hs 52 rfl).trans rfl) hq)) <| Sd (lo [53, 41] [] rfl fun S hs hr => Z2v rfl rfl (vh hs 41 rfl rfl) (vh hs 53 rfl rfl)) <| Sn ?_
    refine Cq rfl h (fun h => ?_) (fun h => ?_)
    ·refine SR <| Ab rfl <| Nl <| rt ?_
     cases h; exact Zc Tryz.results116 rfl (Zb rfl)
    ·refine sk <| Rg <| Md rfl <| Ac (Z09 rfl rfl (vt rfl) (vk rfl)) rfl <| As rfl <| Nl ?_
     exact ⟨(_, _), Nat.lt_succ_self _, ⟨trivial, h⟩, FX rfl⟩
   ·refine xt <| SR <| Ab rfl <| Nl <| rt ?_
    cases h; exact Zc Tryz.results116 rfl (Zb rfl)
def Z8c (a1 : Flat) (b2 : Flat) : Nat → Int → Option Bool
 | 0, _ => none
 | m8 + 1, i7 => (bif (decide (i7 < (a1.Rules.length : Int))) then (lget a1.Rules i7).bind fun x9 => (Z7c x9.Cube).bind fun x10 => (lget b2.Rules i7).bind fun x11 => (Z7c x11.Cube).bind fun x12 => (opt (!(decide (x10 ≠ x12))) (lget a1.Rules i7)).bind fun x13 => (opt (!(decide (x10 ≠ x12))) (lget b2.Rules i7)).bind fun x14 => (opt (!(decide (x10 ≠ x12))) (Z7y x13.Atoms x14.Atoms)).bind fun x15 => (bif ((decide (x10 ≠ x12)) || (!x15)) then some false else (Z8c a1 b2 m8) (IntKind.i64.wrap (i7 + 1))) else some true)
def Z9f (a1 : Flat) (b2 : Flat) : Option Bool :=
 (opt (!(decide ((a1.Rules.length : Int) ≠ (b2.Rules.length : Int)))) (Za1 a1.Groups b2.Groups)).bind fun x5 => (bif ((decide ((a1.Rules.length : Int) ≠ (b2.Rules.length : Int))) || (!x5)) then some false else Z8c a1 b2 ((((a1.Rules.length : Int) : Int) - 0).toNat + 1) 0)
theorem Ztb : Q2 Tryz.prog 57 (rd Z2o) (rd Z2o) (rd Z6) Z9f := fun a1 b2 r h => I0 Tryz.func57 rfl Tryz.ntmps57 rfl fun w H => by
 unfold Z9f at h
 refine SR <| Cv rfl (Zs 3 rfl rfl (vt rfl)) fun g3 => Cv rfl (Zs 4 rfl rfl (vt rfl)) fun g4 => Ab rfl <| Nl <| sq <| sq ?_
 obtain ⟨x5, hx5, h⟩ := Z9 h
 refine Rg <| Zt lFlat_0 Z3d rfl <| Ld Z39 3 rfl <| Ac (Z0a rfl rfl Z1a (vt rfl)) rfl <| Zt lFlat_0 Z3d rfl <| Ld Z39 4 rfl <| Ac (Z0a rfl rfl Z1a (vt rfl)) rfl <| Ac (Z24 rfl rfl (vt rfl) (vt rfl)) rfl <| Md rfl <| Gd rfl (fun hq => Z0l lFlat_1 rfl rfl Z8e (vt rfl)) <| Gd rfl (fun hq => Z0d rfl rfl Z6l (Z5 rfl hq) (i := 3) rfl) <| Gd rfl (fun hq => Z0l lFlat_1 rfl rfl Z8e (vt rfl)) <| Gd rfl (fun hq => Z0d rfl rfl Z6l (Z5 rfl hq) (i := 4) rfl) <| Gd rfl (fun hq => Z0k (xs := [.tmp 15, .tmp 17]) (Zso _ _ _ (Z1d hx5 hq)) Zt2 rfl rfl ⟨Z5 rfl hq, Z5 rfl hq, trivial⟩) <| Gd rfl (fun hq => Z0m rfl rfl (Z5 rfl hq)) <| Ac (Z2v rfl rfl (vt rfl) (vt rfl)) rfl <| Nl <| Cq rfl h (fun h => ?_) (fun h => ?_)
 ·refine SR <| Ab rfl <| Nl <| rt ?_
  cases h; exact Zc Tryz.results57 rfl (Zb rfl)
 ·refine sk <| sq <| SR <| Ak rfl <| Nl <| bk <| LG (d := []) (ν := Nat × Int) (fun (m8, i7) => (True ∧ Z8c a1 b2 m8 i7 = some r, m8, [(2, Zj g3 (Lens.id Z2o)), (3, Zj g4 (Lens.id Z2o)), (5, rd (Z0 .i64) i7)], [(3, Zk g3 73 Z2o a1), (4, Zk g4 73 Z2o b2)])) (((((a1.Rules.length : Int) : Int) - 0).toNat + 1), 0) ⟨trivial, h⟩ (FX rfl) ?_
  rintro ⟨m8, i7⟩ ⟨hsf1, h⟩
  dsimp only at h ⊢
  cases m8 with
  | zero => cases h
  | succ m8 =>
   unfold Z8c at h
   refine sq <| SR <| Md rfl <| Zt lFlat_0 Z3d rfl <| Ld Z39 3 rfl <| Ac (Z0a rfl rfl Z1a (vt rfl)) rfl <| Ac (Zl rfl rfl (vt rfl) (vt rfl)) rfl <| Nl <| Cq rfl h (fun h => ?_) (fun h => ?_)
   ·refine sk <| sq <| bk <| sq ?_
    obtain ⟨x9, hx9, x10, hx10, x11, hx11, x12, hx12, h⟩ := bs4 h
    obtain ⟨x13, hx13, x14, hx14, x15, hx15, h⟩ := bs3 h
    refine AR Z01 (by kernel_rfl) <| SFd lFlat_0 Z3d rfl <| Zu Z39 3 rfl <| Zq rfl <| Sd (lo [29, 30] [] rfl fun S hs hr => Z04 rfl rfl Z1a (vh hs 29 rfl rfl) (vh hs 30 rfl rfl) hx9) <| SFp lRule_0 Z6t rfl <| SLp Zy rfl <| SCl [33] (Zly _ _ hx10) e83 rfl <| SFd lFlat_0 Z3d rfl <| Zu Z39 4 rfl <| Zq rfl <| Sd (lo [36, 37] [] rfl fun S hs hr => Z04 rfl rfl Z1a (vh hs 36 rfl rfl) (vh hs 37 rfl rfl) hx11) <| SFp lRule_0 Z6t rfl <| SLp Zy rfl <| SCl [40] (Zly _ _ hx12) e83 rfl <| Sd (lo [34, 41] [] rfl fun S hs hr => Zkp rfl rfl Zn4 (by decide) rfl Zmt (vh hs 34 rfl rfl) (vh hs 41 rfl rfl)) <| Zq rfl <| Sd (lg [2, 43] [] rfl fun hq S hs hr => Z0l lFlat_0 rfl rfl Z3d (vh hs 2 rfl rfl)) <| Sd (lg [44, 43] [3] rfl fun hq S hs hr => Z0d rfl rfl Z39 (Z5 ((hs 44 rfl).trans rfl) hq) (i := 3) ((hr 3 rfl).trans rfl)) <| Sd (lg [5, 43] [] rfl fun hq S hs hr => Zh (A := rd (Z0 .i64) i7) rfl rfl (vh hs 5 rfl rfl)) <| Sd (lg [45, 46, 43] [] rfl fun hq S hs hr => Z04 rfl rfl Z1a (Z5 ((hs 45 rfl).trans rfl) hq) (Z5 ((hs 46 rfl).trans rfl) hq) (Z1d hx13 hq)) <| Sd (lg [47, 43] [] rfl fun hq S hs hr => Z1i lRule_1 rfl rfl Z5q (Z5 ((hs 47 rfl).trans rfl) hq)) <| Sd (lg [48, 43] [] rfl fun hq S hs hr => Z1t rfl rfl Z3b (Z5 ((hs 48 rfl).trans rfl) hq)) <| Sd (lg [3, 43] [] rfl fun hq S hs hr => Z0l lFlat_0 rfl rfl Z3d (vh hs 3 rfl rfl)) <| Sd (lg [50, 43] [4] rfl fun hq S hs hr => Z0d rfl rfl Z39 (Z5 ((hs 50 rfl).trans rfl) hq) (i := 4) ((hr 4 rfl).trans rfl)) <| Sd (lg [5, 43] [] rfl fun hq S hs hr => Zh (A := rd (Z0 .i64) i7) rfl rfl (vh hs 5 rfl rfl)) <| Sd (lg [51, 52, 43] [] rfl fun hq S hs hr => Z04 rfl rfl Z1a (Z5 ((hs 51 rfl).trans rfl) hq) (Z5 ((hs 52 rfl).trans rfl) hq) (Z1d hx14 hq)) <| Sd (lg [53, 43] [] rfl fun hq S hs hr => Z1i lRule_1 rfl rfl Z5q (Z5 ((hs 53 rfl).trans rfl) hq)) <| Sd (lg [54, 43] [] rfl fun hq S hs hr => Z1t rfl rfl Z3b (Z5 ((hs 54 rfl).trans rfl) hq)) <| Sd (lg [49, 55, 43] [] rfl fun hq S hs hr => Z0k (xs := [.tmp 49, .tmp 55]) (Zu4 _ _ _ (Z1d hx15 hq)) e84 rfl rfl ⟨Z5 ((hs 49 rfl).trans rfl) hq, Z5 ((hs 55 rfl).trans rfl) hq, trivial⟩) <| Sd (lg [56, 43] [] rfl fun hq S hs hr => Z0m rfl rfl (Z5 ((hs 56 rfl).trans rfl) hq)) <| Sd (lo [57, 43] [] rfl fun S hs hr => Z2v rfl rfl (vh hs 43 rfl rfl) (vh hs 57 rfl rfl)) <| Sn <| Cq rfl h (fun h => ?_) (fun h => ?_)
    ·refine SR <| Ab rfl <| Nl <| rt ?_
     cases h; exact Zc Tryz.results57 rfl (Zb rfl)
    ·refine sk <| Rg <| Md rfl <| Ac (Z09 rfl rfl (vt rfl) (vk rfl)) rfl <| As rfl <| Nl ?_
     exact ⟨(_, _), Nat.lt_succ_self _, ⟨trivial, h⟩, FX rfl⟩
   ·refine xt <| SR <| Ab rfl <| Nl <| rt ?_
    cases h; exact Zc Tryz.results57 rfl (Zb rfl)
end Go.Proofs.YtknpgojdkobgjaaGreat.W
set_option maxRecDepth 4000
namespace Go.Proofs.YtknpgojdkobgjaaGreat.W
open Go Go.Wb
theorem e48 : Ent Tryz.prog 48 := Ent.mk Tryz.func48 rfl rfl
theorem e97 : Ent Tryz.prog 97 := Ent.mk Tryz.func97 rfl rfl
theorem e95 : Ent Tryz.prog 95 := Ent.mk Tryz.func95 rfl rfl
theorem e96 : Ent Tryz.prog 96 := Ent.mk Tryz.func96 rfl rfl
theorem e39 : Ent Tryz.prog 39 := Ent.mk Tryz.func39 rfl rfl
def Z6u (s1 : (List Rule)) (x2 : (Rule → Option Bool)) : Nat → Nat → Option Int
 | 0, i3 => some (-1)
 | m4 + 1, i3 => (lget s1 (i3 : Int)).bind fun x5 => (x2 x5).bind fun x6 => (bif x6 then some (i3 : Int) else (Z6u s1 x2 m4) (i3 + 1))
def Z8x (s1 : (List Rule)) (x2 : (Rule → Option Bool)) : Option Int :=
 Z6u s1 x2 ((s1.length : Int) : Int).toNat 0
theorem Zqs : Q2 Tryz.prog 48 (rd (Z1 Zv)) (fn1 Tryz.prog Zv Z6) (rd (Z0 .i64)) Z8x := fun s1 x2 r h => I0 Tryz.func48 rfl Tryz.ntmps48 rfl fun w H => by
 unfold Z8x at h
 refine SR <| Ak rfl <| Nl <| sq <| SR <| Md rfl <| Ac (Z0a rfl rfl Z1a (vt rfl)) rfl <| Mk rfl <| Nl <| bk <| LG (d := []) (ν := Nat × Nat) (fun (m4, i3) => (Cnt (s1.length : Int) i3 m4 ∧ Z6u s1 x2 m4 i3 = some r, m4, [(0, rd (Z1 Zv) s1), (1, fn1 Tryz.prog Zv Z6 x2), (7, rd (Z0 .i64) (s1.length : Int)), (8, rd (Z0 .i64) (i3 : Int))], [])) (((s1.length : Int) : Int).toNat, 0) ⟨Cnt.start _, h⟩ (FX rfl) ?_
 rintro ⟨m4, i3⟩ ⟨hsf1, h⟩
 dsimp only at hsf1 h ⊢
 cases m4 with
 | zero =>
  unfold Z6u at h
  refine SR <| Ac (Zl rfl rfl (vt rfl) (vt rfl)) rfl <| Nl <| sq <| Cn rfl (fun hc => absurd (of_decide_eq_true hc) hsf1.zero) (fun hc => ?_)
  refine xt <| SR <| Ak rfl <| Nl <| rt ?_
  cases h; exact Zc Tryz.results48 rfl (Zb rfl)
 | succ m4 =>
  unfold Z6u at h
  refine SR <| Ac (Zl rfl rfl (vt rfl) (vt rfl)) rfl <| Nl <| sq <| Cn rfl (fun hc => ?_) (fun hc => absurd hsf1.succ (of_decide_eq_false hc))
  have hlti3 := of_decide_eq_true hc
  refine sk <| sq <| bk <| SR <| Md rfl <| As rfl <| Nl <| sq ?_
  obtain ⟨x5, hx5, x6, hx6, h⟩ := bs2 h
  refine Rg <| Ac (Zh (A := fn1 Tryz.prog Zv Z6 x2) rfl rfl (vt rfl)) rfl <| Md rfl <| Md rfl <| Ac (Z04 rfl rfl Z1a (vt rfl) (vt rfl) hx5) rfl <| Lp1 Z2t rfl <| Ac (Z5m hx6 rfl rfl (vt rfl) (vt rfl)) rfl <| Nl <| Cq rfl h (fun h => ?_) (fun h => ?_)
  ·refine SR <| Md rfl <| As rfl <| Nl <| rt ?_
   cases h; exact Zc Tryz.results48 rfl (Zb rfl)
  ·refine sk <| Rg <| Ac (Z0y (t := 7) rfl rfl (vt rfl) (vk rfl) (vt rfl) hlti3) rfl <| Md rfl <| Nl ?_
   exact ⟨(_, _), Nat.lt_succ_self _, ⟨hsf1.next, h⟩, FX rfl⟩
def Zai (s1 : (List Rule)) (x2 : (Rule → Option Bool)) : Option Bool :=
 (Z8x s1 x2).bind fun x3 => some (decide (x3 ≥ 0))
theorem Zyt : Q2 Tryz.prog 95 (rd (Z1 Zv)) (fn1 Tryz.prog Zv Z6) (rd Z6) Zai := fun s1 x2 r h => I0 Tryz.func95 rfl Tryz.ntmps95 rfl fun w H => by
 unfold Zai at h
 refine SR <| Ab rfl <| Nl <| sq ?_
 obtain ⟨x3, hx3, h⟩ := Z9 h
 refine Rg <| Md rfl <| Ac (Zh (A := fn1 Tryz.prog Zv Z6 x2) rfl rfl (vt rfl)) rfl <| Cl [5, 6] (Zqs _ _ _ hx3) e48 rfl <| Ac (Z4d rfl rfl (vt rfl) (vk rfl)) rfl <| As rfl <| Nl <| rt ?_
 cases h; exact Zc Tryz.results95 rfl (Zb rfl)
def Zfu (l1 : (List Atom)) : Option Bool :=
 some (decide ((l1.length : Int) ≤ 12))
theorem Zrt : Q1 Tryz.prog 97 (rd (Z1 Z03)) (rd Z6) Zfu := fun l1 r h => I0 Tryz.func97 rfl Tryz.ntmps97 rfl fun w H => by
 unfold Zfu at h
 refine SR <| Ab rfl <| Nl <| SR <| Md rfl <| Ac (Z0a rfl rfl Z1q (vt rfl)) rfl <| Ac (Z4s rfl rfl (vt rfl) (vk rfl)) rfl <| As rfl <| Nl <| rt ?_
 cases h; exact Zc Tryz.results97 rfl (Zb rfl)
def Zc7 (x1 : Rule) : Option Bool :=
 (Zfu x1.Atoms).bind fun x3 => some (!x3)
theorem Zqu : Q1 Tryz.prog 96 (rd Zv) (rd Z6) Zc7 := fun x1 r h => I0 Tryz.func96 rfl Tryz.ntmps96 rfl fun w H => by
 unfold Zc7 at h
 refine SR <| Cv rfl (Zs 2 rfl rfl (vt rfl)) fun g2 => Ab rfl <| Nl <| sq ?_
 obtain ⟨x3, hx3, h⟩ := Z9 h
 refine Rg <| Zt lRule_1 Z5q rfl <| Ld Z3b 2 rfl <| Cl [4] (Zrt _ _ hx3) e97 rfl <| Ac (Z0m rfl rfl (vt rfl)) rfl <| As rfl <| Nl <| rt ?_
 cases h; exact Zc Tryz.results96 rfl (Zb rfl)
def Z7o (l1 : (List Rule)) (m2 : Int) : Option Bool :=
 (opt (decide ((l1.length : Int) ≤ m2)) (Zai l1 Zc7)).bind fun x3 => some ((decide ((l1.length : Int) ≤ m2)) && (!x3))
theorem Zkl : Q2 Tryz.prog 39 (rd (Z1 Zv)) (rd (Z0 .i64)) (rd Z6) Z7o := fun l1 m2 r h => I0 Tryz.func39 rfl Tryz.ntmps39 rfl fun w H => by
 unfold Z7o at h
 refine SR <| Ab rfl <| Nl <| sq ?_
 obtain ⟨x3, hx3, h⟩ := Z9 h
 refine Rg <| Md rfl <| Ac (Z0a rfl rfl Z1a (vt rfl)) rfl <| Md rfl <| Ac (Z4s rfl rfl (vt rfl) (vt rfl)) rfl <| Md rfl <| Gd rfl (fun hq => Zh (A := rd (Z1 Zv) l1) rfl rfl (vt rfl)) <| Gd rfl (fun hq => Z0k (xs := [.tmp 10, .func 96]) (Zyt _ _ _ (Z1h hx3 hq)) e95 rfl rfl ⟨Z5 rfl hq, vf1 e96 Zqu, trivial⟩) <| Gd rfl (fun hq => Z0m rfl rfl (Z5 rfl hq)) <| Ac (Z0p rfl rfl (vt rfl) (vt rfl)) rfl <| As rfl <| Nl <| rt ?_
 cases h; exact Zc Tryz.results39 rfl (Zb rfl)
def Zap (a1 : Flat) (b2 : Flat) : Option Bool :=
 (Z7o a1.Rules 20).bind fun x5 => (opt (!(!x5)) (Z7o b2.Rules 20)).bind fun x6 => (opt (!((!x5) || (!x6))) (Z70 a1.Groups 9 6)).bind fun x7 => (opt (!(((!x5) || (!x6)) || (!x7))) (Z70 b2.Groups 9 6)).bind fun x8 => (bif ((((!x5) || (!x6)) || (!x7)) || (!x8)) then (Z9o).bind fun x9 => some x9 else (Z5l a1 b2).bind fun x10 => (Z9f a1 b2).bind fun x11 => (opt (x10 == x11) (Z5l a1 a1)).bind fun x12 => (opt ((x10 == x11) && x12) (Z9o)).bind fun x13 => some (((x10 == x11) && x12) && x13))
theorem Zvo : Q2 Tryz.prog 12 (rd Z2o) (rd Z2o) (rd Z6) Zap := fun a1 b2 r h => I0 Tryz.func12 rfl Tryz.ntmps12 rfl fun w H => by
 unfold Zap at h
 refine SR <| Cv rfl (Zs 3 rfl rfl (vt rfl)) fun g3 => Cv rfl (Zs 4 rfl rfl (vt rfl)) fun g4 => Ab rfl <| Nl <| sq <| sq ?_
 obtain ⟨x5, hx5, x6, hx6, x7, hx7, x8, hx8, h⟩ := bs4 h
 refine Rg <| Zt lFlat_0 Z3d rfl <| Ld Z39 3 rfl <| Ac (Z0k (xs := [.tmp 6, .const (Value.int IntKind.i64 20)]) (Zkl _ _ _ hx5) e39 rfl rfl ⟨vt rfl, vk rfl, trivial⟩) rfl <| Ac (Z0m rfl rfl (vt rfl)) rfl <| Md rfl <| Gd rfl (fun hq => Z0l lFlat_0 rfl rfl Z3d (vt rfl)) <| Gd rfl (fun hq => Z0d rfl rfl Z39 (Z5 rfl hq) (i := 4) rfl) <| Gd rfl (fun hq => Z0k (xs := [.tmp 11, .const (Value.int IntKind.i64 20)]) (Zkl _ _ _ (Z1d hx6 hq)) e39 rfl rfl ⟨Z5 rfl hq, vk rfl, trivial⟩) <| Gd rfl (fun hq => Z0m rfl rfl (Z5 rfl hq)) <| Ac (Z2v rfl rfl (vt rfl) (vt rfl)) rfl <| Md rfl <| Gd rfl (fun hq => Z0l lFlat_1 rfl rfl Z8e (vt rfl)) <| Gd rfl (fun hq => Z0d rfl rfl Z6l (Z5 rfl hq) (i := 3) rfl) <| Gd rfl (fun hq => Z0k (xs := [.tmp 17, .const (Value.int IntKind.i64 9), .const (Value.int IntKind.i64 6)]) (Zjd _ _ _ _ (Z1d hx7 hq)) e40 rfl rfl ⟨Z5 rfl hq, vk rfl, vk rfl, trivial⟩) <| Gd rfl (fun hq => Z0m rfl rfl (Z5 rfl hq)) <| Ac (Z2v rfl rfl (vt rfl) (vt rfl)) rfl <| Md rfl <| Gd rfl (fun hq => Z0l lFlat_1 rfl rfl Z8e (vt rfl)) <| Gd rfl (fun hq => Z0d rfl rfl Z6l (Z5 rfl hq) (i := 4) rfl) <| Gd rfl (fun hq => Z0k (xs := [.tmp 23, .const (Value.int IntKind.i64 9), .const (Value.int IntKind.i64 6)]) (Zjd _ _ _ _ (Z1d hx8 hq)) e40 rfl rfl ⟨Z5 rfl hq, vk rfl, vk rfl, trivial⟩) <| Gd rfl (fun hq => Z0m rfl rfl (Z5 rfl hq)) <| Ac (Z2v rfl rfl (vt rfl) (vt rfl)) rfl <| Nl <| Cq rfl h (fun h => ?_) (fun h => ?_)
 ·refine sq ?_
  obtain ⟨x9, hx9, h⟩ := Z9 h
  refine Rg <| Cl [] (Zl6 _ hx9) e53 rfl <| As rfl <| Nl <| rt ?_
  cases h; exact Zc Tryz.results12 rfl (Zb rfl)
 ·refine sk <| sq ?_
  obtain ⟨x10, hx10, x11, hx11, x12, hx12, x13, hx13, h⟩ := bs4 h
  refine AR Z01 (by kernel_rfl) <| Zu Z2p 3 rfl <| Zu Z2p 4 rfl <| SCl [28, 29] (Zbn _ _ _ hx10) e56 rfl <| Zu Z2p 3 rfl <| Zu Z2p 4 rfl <| SCl [31, 32] (Ztb _ _ _ hx11) e57 rfl <| Sd (lo [30, 33] [] rfl fun S hs hr => Zkx rfl rfl un4 (vh hs 30 rfl rfl) (vh hs 33 rfl rfl)) <| Zq rfl <| Sd (lg [2, 35] [3] rfl fun hq S hs hr => Z0d rfl rfl Z2p (vh hs 2 rfl rfl) (i := 3) ((hr 3 rfl).trans rfl)) <| Sd (lg [2, 35] [3] rfl fun hq S hs hr => Z0d rfl rfl Z2p (vh hs 2 rfl rfl) (i := 3) ((hr 3 rfl).trans rfl)) <| Sd (lg [36, 37, 35] [] rfl fun hq S hs hr => Z0k (xs := [.tmp 36, .tmp 37]) (Zbn _ _ _ (Z1h hx12 hq)) e56 rfl rfl ⟨Z5 ((hs 36 rfl).trans rfl) hq, Z5 ((hs 37 rfl).trans rfl) hq, trivial⟩) <| Sd (lo [38, 35] [] rfl fun S hs hr => Z0p rfl rfl (vh hs 35 rfl rfl) (vh hs 38 rfl rfl)) <| Zq rfl <| Sd (lg [40] [] rfl fun hq S hs hr => Z0k (xs := []) (Zl6 _ (Z1h hx13 hq)) e53 rfl rfl trivial) <| Sd (lo [41, 40] [] rfl fun S hs hr => Z0p rfl rfl (vh hs 40 rfl rfl) (vh hs 41 rfl rfl)) <| SAs rfl <| Sn <| rt ?_
  cases h; exact Zc Tryz.results12 rfl (Zb rfl)
end Go.Proofs.YtknpgojdkobgjaaGreat.W
set_option maxRecDepth 4000
namespace Go.Proofs.YtknpgojdkobgjaaGreat.W
open Go Go.Wb
end Go.Proofs.YtknpgojdkobgjaaGreat.W
set_option maxRecDepth 4000
namespace Go.Proofs.YtknpgojdkobgjaaGreat.W
open Go Go.Wb
end Go.Proofs.YtknpgojdkobgjaaGreat.W
set_option maxRecDepth 4000
namespace Go.Proofs.YtknpgojdkobgjaaGreat.W
open Go Go.Wb
end Go.Proofs.YtknpgojdkobgjaaGreat.W
set_option maxRecDepth 4000
namespace Go.Proofs.YtknpgojdkobgjaaGreat.W
open Go Go.Wb
end Go.Proofs.YtknpgojdkobgjaaGreat.W
