/- A part of the proof. -/
import Derived.Test.YtknpgojdkobgjaaGreatG0
set_option linter.unusedVariables false
set_option maxRecDepth 4000
set_option linter.unusedSimpArgs false
namespace Go.Proofs.YtknpgojdkobgjaaGreat.W
open Go Go.Wb
theorem Ye4 : Ent Tryz.prog 332 := Ent.mk Tryz.func332 rfl rfl
theorem Y3u : Ent Tryz.prog 287 := Ent.mk Tryz.func287 rfl rfl
theorem Y3o : Ent Tryz.prog 298 := Ent.mk Tryz.func298 rfl rfl
theorem Yd6 : Ent Tryz.prog 304 := Ent.mk Tryz.func304 rfl rfl
theorem Y9x : Ent Tryz.prog 303 := Ent.mk Tryz.func303 rfl rfl
theorem Y3w : Ent Tryz.prog 265 := Ent.mk Tryz.func265 rfl rfl
theorem Zpo : Ent Tryz.prog 221 := Ent.mk Tryz.func221 rfl rfl
def Zgg (i1 : Int) (x2 : Zl) (x3 : Zl) : Option Tern :=
 (chk 24 i1).bind fun j5 => (chk 24 i1).bind fun j6 => (Zjo (Vector.get x2 j5) (Vector.get x3 j6)).bind fun x7 => some x7
theorem Y6v : Q3 Tryz.prog 332 (rd (Z0 .i64)) (rp (Z3 24 Z4)) (rp (Z3 24 Z4)) (rd Z4) Zgg := fun i1 x2 x3 r h => I0 Tryz.func332 rfl Tryz.ntmps332 rfl fun w H => by
 unfold Zgg at h
 refine SR <| Cv rfl (Zs 5 rfl rfl Z2c) fun g4 => Nl <| sq ?_
 obtain ⟨j5, hj5, j6, hj6, x7, hx7, h⟩ := bs3 h
 refine AR Zw (by kernel_rfl) <| SMd rfl <| Sd (lo [1, 5] [] rfl fun S hs hr => Z7v rfl rfl Za3 (vh hs 1 rfl rfl) (vh hs 5 rfl rfl) hj5) <| SLp Z03 rfl <| SMd rfl <| Sd (lo [2, 8] [] rfl fun S hs hr => Z7v rfl rfl Za3 (vh hs 2 rfl rfl) (vh hs 8 rfl rfl) hj6) <| SLp Z03 rfl <| SCl [7, 10] (Zyp _ _ _ hx7) Y25 rfl <| SSt Z03 5 rfl <| Sn <| rt ?_
 cases h; exact Zf Tryz.results332 rfl (Z01 rfl (i := 5) rfl Z03)
def Zfm (a1 : Zl) (b2 : Zl) : Option Zl :=
 (Zfg (fun x => Zgg x a1 b2)).bind fun x6 => some x6
theorem Y2g : Q2 Tryz.prog 298 (rd (Z3 24 Z4)) (rd (Z3 24 Z4)) (rd (Z3 24 Z4)) Zfm := fun a1 b2 r h => I0 Tryz.func298 rfl Tryz.ntmps298 rfl fun w H => by
 unfold Zfm at h
 refine SR <| Cv rfl (Zn 3 rfl rfl (vt rfl)) fun g3 => Cv rfl (Zn 4 rfl rfl (vt rfl)) fun g4 => Cv rfl (Zs 5 rfl rfl Z75) fun g5 => Nl <| sq <| AW.freezeB 2 3 rfl rfl rfl <| AW.freezeB 3 4 rfl rfl rfl ?_
 obtain ⟨x6, hx6, h⟩ := Z8 h
 refine Rg <| Ac (Z7n (cs := [.tmp 2, .tmp 3]) (CAs := [rp (Z3 24 Z4) a1, rp (Z3 24 Z4) b2]) (fun x => Zgg x a1 b2) rfl rfl Ye4 ⟨vt rfl, vt rfl, trivial⟩ (fun x y h => Y6v _ _ _ y h)) rfl <| Cl [5] (Zwt _ _ hx6) Y4e rfl <| Zj Z0f 5 rfl <| Nl <| rt ?_
 cases h; exact Zf Tryz.results298 rfl (Z01 rfl (i := 5) rfl Z0f)
def Zen (t1 : Z6d) (b7 : Atom) : Option Z6d :=
 (Z18 t1.atoms [b7]).bind fun l8 => some (⟨t1.got, l8⟩ : Z6d)
def Zd6 (t1 : Z6d) (a4 : Action) : Option Z6d :=
 (bif (decide (a4.Kind = 0)) then (bif (decide (a4.Port = 4294967293)) then Zen t1 { { (⟨t1.got, false, 0, 0⟩ : Atom) with Port := a4.Port } with Max := a4.Max } else Zen t1 { (⟨t1.got, false, 0, 0⟩ : Atom) with Port := a4.Port }) else (bif (decide (a4.Kind = 22)) then Zen t1 { { (⟨t1.got, false, 0, 0⟩ : Atom) with Group := true } with Port := a4.Group } else (Zgm a4).bind fun x10 => (Zfm t1.got x10).bind fun x11 => some (⟨x11, t1.atoms⟩ : Z6d)))
theorem Y9k (g2 gT : Nat) (t1 : Z6d) (a4 : Action) (r : Z6d) (h : Zd6 t1 a4 = some r) : Con Tryz.prog 304 [Z7 g2 (Lens.id Z5v), rd Z9 a4] (Zx g2 gT Z5v (fun v => (⟨t1.got, v⟩ : atom_trace_o1)) 126 Z0c t1.atoms) (fun _ : Unit => top) (fun _ => Zx g2 gT Z5v (fun v => (⟨r.got, v⟩ : atom_trace_o1)) 126 Z0c r.atoms) := by
 refine Con.intro Tryz.func304 rfl Tryz.ntmps304 rfl fun w H X => ?_
 unfold Zd6 at h
 refine AW.unboxF 0 2001 (by decide) rfl rfl fun v3 => SR <| Cv rfl (Zn 4 rfl rfl (vt rfl)) fun g5 => Nl <| SR <| Mp rfl <| Nc rfl <| Zh latom_trace_o1_0 Zpk rfl <| Ld Z0f 0 rfl <| Ac (opb (⟨t1.got, false, 0, 0⟩ : Atom) Zde rfl Yli (pc Yb1 (vt rfl) <| pn rfl)) rfl <| Cv rfl (Zs 5 rfl rfl Zde) fun g6 => Zj Zds 5 rfl <| Nl ?_
 refine JN (d := []) (ν := Atom) (fun b7 => (Zen t1 b7 = some r, [(0, Z7 g2 (Lens.id Z5v)), (4, Z7 g6 (Lens.id Z0c))], [(0, Zc g2 gT Z5v (⟨t1.got, v3⟩ : atom_trace_o1)), (5, Zc g6 126 Z0c b7), (2001, Zb v3 126 Z0c t1.atoms)])) ?hx1 ?hy1
 case hy1 =>
  intro b7 h
  dsimp only at h ⊢
  unfold Zen at h
  obtain ⟨l8, hl8, h⟩ := Z8 h
  refine AW.endT <| AR Zw (by kernel_rfl) <| SMp rfl <| SMp rfl <| SNc rfl <| Zv Zi9 Zqq rfl <| Sd (lo [42] [0] rfl fun S hs hr => Z3e v3 rfl rfl Zrx (vh hs 42 rfl rfl) (i := 0) ((hr 0 rfl).trans rfl) rfl) <| Zm Zds 5 rfl <| Sd (lo [44] [] rfl fun S hs hr => osl Z7o Zde rfl (vh hs 44 rfl rfl)) <| Sd (Z1q (us := [(46, Z2j 126 Z0c l8)]) (ur := [(2001, emp)]) [43, 45] [2001] rfl fun S hs hr => Z92 2001 hl8 rfl rfl rfl Zfb (vh hs 43 rfl rfl) ((hr 2001 rfl).trans rfl) (vh hs 45 rfl rfl)) <| SNc rfl <| Zv Zi9 Zqq rfl <| Sd (Z1q (us := [(46, top)]) (ur := [(0, Zx g2 gT Z5v (fun v => ((Lens.comp (Lens.id Z5v) Zi9)).set (⟨t1.got, v3⟩ : atom_trace_o1) v) 126 Z0c l8)]) [48, 46] [0] rfl fun S hs hr => Zb9 rfl rfl Zrx (vh hs 48 rfl rfl) ((hr 0 rfl).trans rfl) ((hs 46 rfl).trans rfl)) <| Sn <| EndT.unboxF 0 2001 (by decide) rfl rfl fun v9 => EndT.done ?_
  cases h; exact RetOK.turn (Turn.packF 0 2001 (fun v => (⟨t1.got, v⟩ : atom_trace_o1)) (by decide) rfl rfl) (Z1k (i := 0) Tryz.results304 rfl rfl)
 case hx1 =>
  refine SR <| Zh lAction_0 Z8j rfl <| Ld Zq 4 rfl <| Nl <| bk <| SR <| Ac (Z1r rfl rfl (vt rfl) (vk rfl)) rfl <| As rfl <| Nl <| Cq rfl h (fun h => ?_) (fun h => ?_)
  ·refine SR <| Zh lAction_1 Znx rfl <| Ld Zq 4 rfl <| Zh Zh3 Zit rfl <| Zj Zq 5 rfl <| Nl <| SR <| Zh lAction_1 Znx rfl <| Ld Zq 4 rfl <| Ac (Z1r rfl rfl (vt rfl) (vk rfl)) rfl <| Nl <| Cq rfl h (fun h => ?_) (fun h => ?_)
   ·refine Rg <| Zh Zri Y5h rfl <| Ld Zq 4 rfl <| Zh Zpu Zxm rfl <| Zj Zq 5 rfl <| Nl ?_
    exact ⟨_, h, FX rfl⟩
   ·refine sk ?_
    exact ⟨_, h, FX rfl⟩
  ·refine SR <| Ac (Z1r rfl rfl (vt rfl) (vk rfl)) rfl <| As rfl <| Nl <| Cq rfl h (fun h => ?_) (fun h => ?_)
   ·refine AR Zw (by kernel_rfl) <| Zv Zlw Zqn rfl <| Zm Zq 4 rfl <| Zv Zt2 Y4d rfl <| Sd (Z45 [37] [5] rfl fun S hs hr => Z5c rfl rfl ty4 (vh hs 37 rfl rfl) (i := 5) ((hr 5 rfl).trans rfl) vb) <| Zv Zh3 Zit rfl <| SSt Zq 5 rfl <| Sn ?_
    exact ⟨_, h, FX rfl⟩
   ·refine sq ?_
    obtain ⟨x10, hx10, x11, hx11, h⟩ := bs2 h
    refine AR Zw (by kernel_rfl) <| SMp rfl <| SMp rfl <| SNc rfl <| Zv latom_trace_o1_0 Zpk rfl <| Zm Z0f 0 rfl <| Zm Z12 4 rfl <| SCl [17] (Y4a _ _ hx10) Y3u rfl <| SCl [16, 18] (Y2g _ _ _ hx11) Y3o rfl <| SNc rfl <| Zv latom_trace_o1_0 Zpk rfl <| SSt Z0f 0 rfl <| Sn <| rt ?_
    cases h; exact RetOK.turn (Turn.packF 0 2001 (fun v => (⟨x11, v⟩ : atom_trace_o1)) (by decide) rfl rfl) (Z1k (i := 0) Tryz.results304 rfl rfl)
def Zbf (sg : Type) (d2 : (sg → Action → Option sg)) : (List Action) → Nat → sg → Option sg
 | [], i6, s5 => some s5
 | x8 :: l7, i6, s5 => (d2 s5 x8).bind fun s10 => (Zbf sg d2 l7) (i6 + 1) s10
def Znj (l1 : (List Action)) (sg : Type) (d2 : (sg → Action → Option sg)) (s3 : sg) : Option sg :=
 Zbf sg d2 l1 0 s3
theorem Yir (l1 : (List Action)) (sg : Type) (d2 : (sg → Action → Option sg)) (L : sg → Zu) (s3 : sg) (r : sg) (h : Znj l1 sg d2 s3 = some r) : Con Tryz.prog 303 [rd (Z1 Z9) l1, stA Tryz.prog Z9 d2 L] (L s3) (fun _ : Unit => top) (fun _ => L r) := by
 refine Con.intro Tryz.func303 rfl Tryz.ntmps303 rfl fun w H X => ?_
 unfold Znj at h
 refine SR <| Md rfl <| Ac (Z0t rfl rfl Z13 (vt rfl)) rfl <| Mk rfl <| Nl <| bk <| LG (d := []) (ν := (List Action) × Nat × sg) (fun (l7, i6, s5) => (Sfx l1 i6 l7 ∧ Zbf sg d2 l7 i6 s5 = some r, l7.length, [(1, stA Tryz.prog Z9 d2 L), (6, rd (Z1 Z9) l1), (7, rd (Z0 .i64) (l1.length : Int)), (8, rd (Z0 .i64) (i6 : Int))], [(0, L s5)])) (l1, 0, s3) ⟨Sfx.start _, h⟩ (FX rfl) ?_
 rintro ⟨l7, i6, s5⟩ ⟨hsf1, h⟩
 dsimp only at hsf1 h ⊢
 cases l7 with
 | nil =>
  unfold Zbf at h
  refine SR <| Ac (Zi rfl rfl (vt rfl) (vt rfl)) rfl <| Nl <| sq <| Cn rfl (fun hc => absurd (of_decide_eq_true hc) hsf1.nil) (fun hc => ?_)
  refine xt ?_
  cases h; exact Z1k (i := 0) Tryz.results303 rfl rfl
 | cons x8 l7 =>
  unfold Zbf at h
  refine SR <| Ac (Zi rfl rfl (vt rfl) (vt rfl)) rfl <| Nl <| sq <| Cn rfl (fun hc => ?_) (fun hc => absurd hsf1.cons (of_decide_eq_false hc))
  have hlti6 := of_decide_eq_true hc
  refine sk <| sq <| bk <| SR <| Ac (Z0k rfl rfl Z13 (vt rfl) (vt rfl) hsf1.lget) rfl <| Lp1 Z12 rfl <| Cv rfl (Zs 6 rfl rfl Z8f) fun g9 => Zj Z12 6 rfl <| Nl ?_
  obtain ⟨s10, hs10, h⟩ := Z8 h
  refine Rg <| Ac (Zp (A := stA Tryz.prog Z9 d2 L) rfl rfl (vt rfl)) rfl <| Ld Z12 6 rfl <| Ac (Ylv 0 hs10 rfl rfl (vt rfl) (vt rfl) rfl) rfl <| Nl <| Rg <| Ac (Z0u (t := 7) rfl rfl (vt rfl) (vk rfl) (vt rfl) hlti6) rfl <| Md rfl <| Nl ?_
  exact ⟨(_, _, _), Nat.lt_succ_self _, ⟨hsf1.next, h⟩, FX rfl⟩
def Zhc (a1 : (List Action)) (x2 : Zl) : Option ((List Atom) × Zl) :=
 (Ze9 x2).bind fun x5 => (Znj a1 Z6d (fun s x => Zd6 s x) (⟨x5, []⟩ : Z6d)).bind fun b7 => some (b7.atoms, b7.got)
theorem Y0k : Q2 Tryz.prog 265 (rd (Z1 Z9)) (rd (Z3 24 Z4)) (fun r => Z1b (rd (Z1 Z0c) r.1) (rd (Z3 24 Z4) r.2)) Zhc := fun a1 x2 r h => I0 Tryz.func265 rfl Tryz.ntmps265 rfl fun w H => by
 unfold Zhc at h
 refine SR <| Cv rfl (Zn 4 rfl rfl (vt rfl)) fun g3 => Ac (Zy (A := rd (Z1 Z0c) []) rfl rfl Z1i) rfl <| Cv rfl (Zs 6 rfl rfl Z75) fun g4 => Nl <| sq <| AW.newnil 2221 126 Z0c ?_
 obtain ⟨x5, hx5, h⟩ := Z8 h
 refine Rg <| Ld Z0f 4 rfl <| Cl [7] (Zta _ _ hx5) Ztd rfl <| Ac (opb (⟨x5, (.slice none 0 0)⟩ : atom_trace_o1) Y8b rfl Ye2 (pc Ygd (vt rfl) <| pn rfl)) rfl <| Cv rfl (Zn 11 rfl rfl (vt rfl)) fun g6 => Ac (Zy (A := Z7 g6 (Lens.id Z5v)) rfl rfl (vt rfl)) rfl <| Nl <| sq ?_
 obtain ⟨b7, hb7, h⟩ := Z8 h
 refine Rg <| Md rfl <| Mp rfl <| Ac (Ymk (fs := [.tmp 12]) (cs := []) (FAs := [Z7 g6 (Lens.id Z5v)]) (CAs := []) (k := Z9) (fun s x => Zd6 s x) (fun (s : Z6d) => Zx g6 346 Z5v (fun v => (⟨s.got, v⟩ : atom_trace_o1)) 126 Z0c s.atoms) rfl rfl Yd6 ⟨vt rfl, trivial⟩ trivial (fun s x s2 h => Y9k _ _ s x s2 h)) rfl <| AOps.packF 11 2221 (fun v => (⟨x5, v⟩ : atom_trace_o1)) (by decide) rfl rfl <| Cv rfl (Z10 11 (xs := [.tmp 11, .tmp 13]) (Yir _ Z6d _ (fun (s : Z6d) => Zx g6 346 Z5v (fun v => (⟨s.got, v⟩ : atom_trace_o1)) 126 Z0c s.atoms) _ _ hb7) Y9x rfl rfl ⟨vt rfl, vt rfl, trivial⟩ rfl) fun _u => AOps.unboxF 11 2221 (by decide) rfl rfl fun v8 => Nl <| sq <| AR Zw (by kernel_rfl) <| SMp rfl <| SNc rfl <| Zv Zi9 Zqq rfl <| Sd (lo [17] [11] rfl fun S hs hr => Z3e v8 rfl rfl Zrx (vh hs 17 rfl rfl) (i := 11) ((hr 11 rfl).trans rfl) rfl) <| SMp rfl <| SNc rfl <| Zv latom_trace_o1_0 Zpk rfl <| Zm Z0f 11 rfl <| Sd (lo [18] [] rfl fun S hs hr => Zy (A := Zo v8) rfl rfl (vh hs 18 rfl rfl)) <| SSt Z0f 6 rfl <| Sn <| AW.freezes [4, 18] 2221 rfl ⟨rfl, rfl, trivial⟩ rfl <| rt ?_
 cases h; exact Z1m Tryz.results265 rfl (Za rfl) (Z01 rfl (i := 6) rfl Z0f)
def Zeu (w1 : walk_way) (l2 : (List Action)) : Option walk_way :=
 (Zhc l2 w1.got).bind fun x5 => (Z5b w1.atoms (w1.atoms.length : Int)).bind fun s7 => (Z18 s7 x5.1).bind fun l8 => some { { w1 with atoms := l8 } with got := x5.2 }
theorem Zzd : Q2 Tryz.prog 205 (rd Z1o) (rd (Z1 Z9)) (rd Z1o) Zeu := fun w1 l2 r h => I0 Tryz.func205 rfl Tryz.ntmps205 rfl fun w H => by
 unfold Zeu at h
 refine SR <| Cv rfl (Zn 3 rfl rfl (vt rfl)) fun g3 => Cv rfl (Zs 5 rfl rfl Zfz) fun g4 => Nl <| sq ?_
 obtain ⟨x5, hx5, h⟩ := Z8 h
 refine Rg <| Md rfl <| Zh lwalk_way_1 Zj9 rfl <| Ld Z0f 3 rfl <| Cl [8, 10] (Y0k _ _ _ hx5) Y3w rfl <| Mt2 rfl <| Ac (Z1n rfl rfl (vt rfl)) rfl <| Ac (Z1l rfl rfl (vt rfl)) rfl <| Cv rfl (Zs 7 rfl rfl Z75) fun g6 => As rfl <| Zj Z0f 7 rfl <| Nl <| sq ?_
 obtain ⟨s7, hs7, l8, hl8, h⟩ := bs2 h
 refine AR Zw (by kernel_rfl) <| Zv Zgc Zkr rfl <| Zm Zbs 3 rfl <| Zv Zgc Zkr rfl <| Zm Zbs 3 rfl <| Sd (lo [17] [] rfl fun S hs hr => Z0t rfl rfl Z7o (vh hs 17 rfl rfl)) <| Zv Zgc Zkr rfl <| Zm Zbs 3 rfl <| Sd (lo [20] [] rfl fun S hs hr => Z0t rfl rfl Z7o (vh hs 20 rfl rfl)) <| Sd (lo [15, 18, 21] [] rfl fun S hs hr => Yej hs7 rfl rfl Z7o (vh hs 15 rfl rfl) (vh hs 18 rfl rfl) (vh hs 21 rfl rfl)) <| SMd rfl <| Sd (lo [22, 23] [] rfl fun S hs hr => Y7p hl8 rfl rfl Zfb (vh hs 22 rfl rfl) (vh hs 23 rfl rfl)) <| Zm Z0f 7 rfl <| Zv Zgc Zkr rfl <| SSt Zbs 3 rfl <| Zv lwalk_way_1 Zj9 rfl <| SSt Z0f 3 rfl <| Sn <| SR <| Ld Z38 3 rfl <| Zj Z38 5 rfl <| Nl <| rt ?_
 cases h; exact Zf Tryz.results205 rfl (Z01 rfl (i := 5) rfl Z38)
def Zbp (a1 : Action) : Option aset_spot :=
 (bif (decide (a1.Kind = 25)) then some (⟨a1.Kind, a1.Oxm.Field⟩ : aset_spot) else some (⟨a1.Kind, 0⟩ : aset_spot))
theorem Zop : Q1 Tryz.prog 221 (rd Z9) (rd Z77) Zbp := fun a1 r h => I0 Tryz.func221 rfl Tryz.ntmps221 rfl fun w H => by
 unfold Zbp at h
 refine SR <| Cv rfl (Zn 2 rfl rfl (vt rfl)) fun g2 => Cv rfl (Zs 3 rfl rfl Zl8) fun g3 => Nl <| sq <| SR <| Zh lAction_0 Z8j rfl <| Ld Zq 2 rfl <| Ac (Z1r rfl rfl (vt rfl) (vk rfl)) rfl <| Nl <| Cq rfl h (fun h => ?_) (fun h => ?_)
 ·refine SR <| Zh lAction_0 Z8j rfl <| Ld Zq 2 rfl <| Zh Zml Zrs rfl <| Zh Zce Zh4 rfl <| Ld Zq 2 rfl <| Ac (opb (⟨a1.Kind, a1.Oxm.Field⟩ : aset_spot) Zl8 rfl Zx7 (pc Zxk (vt rfl) <| pc Yee (vt rfl) <| pn rfl)) rfl <| Zj Zi0 3 rfl <| Nl <| rt ?_
  cases h; exact Zf Tryz.results221 rfl (Z01 rfl (i := 3) rfl Zi0)
 ·refine sk <| SR <| Zh lAction_0 Z8j rfl <| Ld Zq 2 rfl <| Ac (opb (⟨a1.Kind, 0⟩ : aset_spot) Zl8 rfl Zx7 (pc Zxk (vt rfl) <| pn rfl)) rfl <| Zj Zi0 3 rfl <| Nl <| rt ?_
  cases h; exact Zf Tryz.results221 rfl (Z01 rfl (i := 3) rfl Zi0)
def Zeo (b1 : Action) (x2 : Action) : Option Bool :=
 (Zbp x2).bind fun x4 => (Zbp b1).bind fun x5 => some (decide (x4 = x5))
theorem Ykf : Q2 Tryz.prog 267 (rd Z9) (rp Z9) (rd Z5) Zeo := fun b1 x2 r h => I0 Tryz.func267 rfl Tryz.ntmps267 rfl fun w H => by
 unfold Zeo at h
 refine SR <| Cv rfl (Zn 3 rfl rfl (vt rfl)) fun g3 => Ab rfl <| Nl <| sq ?_
 obtain ⟨x4, hx4, x5, hx5, h⟩ := bs2 h
 refine AR Zw (by kernel_rfl) <| SLp Z12 rfl <| SCl [4] (Zop _ _ hx4) Zpo rfl <| Zm Z12 3 rfl <| SCl [6] (Zop _ _ hx5) Zpo rfl <| Sd (lo [5, 7] [] rfl fun S hs hr => Yhl rfl rfl Yaj (by decide) rfl Y98 (vh hs 5 rfl rfl) (vh hs 7 rfl rfl)) <| SAs rfl <| Sn <| rt ?_
 cases h; exact Zf Tryz.results267 rfl (Za rfl)
def Zcx (s1 : (List Action)) (x2 : (Action → Option Bool)) : Nat → Nat → Option Int
 | 0, i3 => some (-1)
 | m4 + 1, i3 => (lget s1 (i3 : Int)).bind fun x5 => (x2 x5).bind fun x6 => (bif x6 then some (i3 : Int) else (Zcx s1 x2 m4) (i3 + 1))
def Zdx (s1 : (List Action)) (x2 : (Action → Option Bool)) : Option Int :=
 Zcx s1 x2 ((s1.length : Int) : Int).toNat 0
theorem Zu7 : Q2 Tryz.prog 266 (rd (Z1 Z9)) (fn1 Tryz.prog Z9 Z5) (rd (Z0 .i64)) Zdx := fun s1 x2 r h => I0 Tryz.func266 rfl Tryz.ntmps266 rfl fun w H => by
 unfold Zdx at h
 refine SR <| Ak rfl <| Nl <| sq <| SR <| Md rfl <| Ac (Z0t rfl rfl Z13 (vt rfl)) rfl <| Mk rfl <| Nl <| bk <| LG (d := []) (ν := Nat × Nat) (fun (m4, i3) => (Cnt (s1.length : Int) i3 m4 ∧ Zcx s1 x2 m4 i3 = some r, m4, [(0, rd (Z1 Z9) s1), (1, fn1 Tryz.prog Z9 Z5 x2), (7, rd (Z0 .i64) (s1.length : Int)), (8, rd (Z0 .i64) (i3 : Int))], [])) (((s1.length : Int) : Int).toNat, 0) ⟨Cnt.start _, h⟩ (FX rfl) ?_
 rintro ⟨m4, i3⟩ ⟨hsf1, h⟩
 dsimp only at hsf1 h ⊢
 cases m4 with
 | zero =>
  unfold Zcx at h
  refine SR <| Ac (Zi rfl rfl (vt rfl) (vt rfl)) rfl <| Nl <| sq <| Cn rfl (fun hc => absurd (of_decide_eq_true hc) hsf1.zero) (fun hc => ?_)
  refine xt <| SR <| Ak rfl <| Nl <| rt ?_
  cases h; exact Zf Tryz.results266 rfl (Za rfl)
 | succ m4 =>
  unfold Zcx at h
  refine SR <| Ac (Zi rfl rfl (vt rfl) (vt rfl)) rfl <| Nl <| sq <| Cn rfl (fun hc => ?_) (fun hc => absurd hsf1.succ (of_decide_eq_false hc))
  have hlti3 := of_decide_eq_true hc
  refine sk <| sq <| bk <| SR <| Md rfl <| As rfl <| Nl <| sq ?_
  obtain ⟨x5, hx5, x6, hx6, h⟩ := bs2 h
  refine Rg <| Ac (Zp (A := fn1 Tryz.prog Z9 Z5 x2) rfl rfl (vt rfl)) rfl <| Md rfl <| Md rfl <| Ac (Z0k rfl rfl Z13 (vt rfl) (vt rfl) hx5) rfl <| Lp1 Z12 rfl <| Ac (Z88 hx6 rfl rfl (vt rfl) (vt rfl)) rfl <| Nl <| Cq rfl h (fun h => ?_) (fun h => ?_)
  ·refine SR <| Md rfl <| As rfl <| Nl <| rt ?_
   cases h; exact Zf Tryz.results266 rfl (Za rfl)
  ·refine sk <| Rg <| Ac (Z0u (t := 7) rfl rfl (vt rfl) (vk rfl) (vt rfl) hlti3) rfl <| Md rfl <| Nl ?_
   exact ⟨(_, _), Nat.lt_succ_self _, ⟨hsf1.next, h⟩, FX rfl⟩
end Go.Proofs.YtknpgojdkobgjaaGreat.W
set_option maxRecDepth 4000
namespace Go.Proofs.YtknpgojdkobgjaaGreat.W
open Go Go.Wb
theorem Yfz : Ent Tryz.prog 267 := Ent.mk Tryz.func267 rfl rfl
theorem Zqw : Ent Tryz.prog 266 := Ent.mk Tryz.func266 rfl rfl
theorem Y1q : Ent Tryz.prog 273 := Ent.mk Tryz.func273 rfl rfl
theorem Zt6 : Ent Tryz.prog 218 := Ent.mk Tryz.func218 rfl rfl
def Za6 : (List Action) → Nat → (List Action) → Option (List Action)
 | [], i9, l7 => some l7
 | x11 :: l10, i9, l7 => (Zdx l7 (fun x => Zeo x x11)).bind fun x13 => (bif (decide (x13 < 0)) then (Z18 l7 [x11]).bind fun l14 => (Za6 l10) (i9 + 1) l14 else (lget l7 x13).bind fun x16 => (Za6 l10) (i9 + 1) (List.set l7 x13.toNat x11))
def Zby (s1 : (List Action)) (l2 : (List Action)) : Option (List Action) :=
 (Z6w s1).bind fun x3 => Za6 l2 0 x3
theorem Zon : Q2 Tryz.prog 206 (rd (Z1 Z9)) (rd (Z1 Z9)) (rd (Z1 Z9)) Zby := fun s1 l2 r h => I0 Tryz.func206 rfl Tryz.ntmps206 rfl fun w H => by
 unfold Zby at h
 refine SR <| Ac (Zy (A := rd (Z1 Z9) []) rfl rfl Z1i) rfl <| Nl <| sq ?_
 obtain ⟨x3, hx3, h⟩ := Z8 h
 refine Rg <| Md rfl <| Cv rfl (Z10 1001 (xs := [.tmp 9]) (Zqp _ _ hx3) Zn6 rfl rfl ⟨vt rfl, trivial⟩ rfl) fun v4 => Aw rfl <| Nl <| sq <| SR <| Md rfl <| Ac (Z0t rfl rfl Z13 (vt rfl)) rfl <| Mk rfl <| Nl <| bk <| LG (d := []) (ν := (List Action) × Nat × (List Action) × Value) (fun (l10, i9, l7, v8) => (Sfx l2 i9 l10 ∧ Za6 l10 i9 l7 = some r, l10.length, [(5, Zo v8), (11, rd (Z1 Z9) l2), (12, rd (Z0 .i64) (l2.length : Int)), (13, rd (Z0 .i64) (i9 : Int))], [(1001, Zb v8 121 Z9 l7)])) (l2, 0, x3, v4) ⟨Sfx.start _, h⟩ (FX rfl) ?_
 rintro ⟨l10, i9, l7, v8⟩ ⟨hsf1, h⟩
 dsimp only at hsf1 h ⊢
 cases l10 with
 | nil =>
  unfold Za6 at h
  refine SR <| Ac (Zi rfl rfl (vt rfl) (vt rfl)) rfl <| Nl <| sq <| Cn rfl (fun hc => absurd (of_decide_eq_true hc) hsf1.nil) (fun hc => ?_)
  refine xt <| SR <| Mw rfl <| Aw rfl <| Nl <| AW.freezes [4, 5, 31] 1001 rfl ⟨rfl, rfl, rfl, trivial⟩ rfl <| rt ?_
  cases h; exact Zf Tryz.results206 rfl (Za rfl)
 | cons x11 l10 =>
  unfold Za6 at h
  refine SR <| Ac (Zi rfl rfl (vt rfl) (vt rfl)) rfl <| Nl <| sq <| Cn rfl (fun hc => ?_) (fun hc => absurd hsf1.cons (of_decide_eq_false hc))
  have hlti9 := of_decide_eq_true hc
  refine sk <| sq <| bk <| SR <| Ac (Z0k rfl rfl Z13 (vt rfl) (vt rfl) hsf1.lget) rfl <| Lp1 Z12 rfl <| Cv rfl (Zs 8 rfl rfl Z8f) fun g12 => Zj Z12 8 rfl <| Nl <| sq <| AW.freezeB 7 8 rfl rfl rfl ?_
  obtain ⟨x13, hx13, h⟩ := Z8 h
  refine Rg <| Mw rfl <| Ac (Z7n (cs := [.tmp 7]) (CAs := [rp Z9 x11]) (fun x => Zeo x x11) rfl rfl Yfz ⟨vt rfl, trivial⟩ (fun x y h => Ykf _ _ y h)) rfl <| Ac (Zm7 (xs := [.tmp 17, .tmp 18]) 1001 (Zu7 _ _ _ hx13) Zqw rfl rfl ⟨vL rfl rfl, vB (vt rfl), trivial⟩) rfl <| As rfl <| Nl <| SR <| Md rfl <| Ac (Zi rfl rfl (vt rfl) (vk rfl)) rfl <| Nl <| Cq rfl h (fun h => ?_) (fun h => ?_)
  ·obtain ⟨l14, hl14, h⟩ := Z8 h
   refine Rg <| Mw rfl <| Lp1 Z12 rfl <| Ac (osl Z13 Z8f rfl (vt rfl)) rfl <| Cv rfl (Z44 1001 hl14 rfl rfl Y2i (vt rfl) rfl (vt rfl)) fun v15 => Aw rfl <| Nl <| Rg <| Ac (Z0u (t := 12) rfl rfl (vt rfl) (vk rfl) (vt rfl) hlti9) rfl <| Md rfl <| Nl ?_
   exact ⟨(_, _, _, _), Nat.lt_succ_self _, ⟨hsf1.next, h⟩, FX rfl⟩
  ·obtain ⟨x16, hx16, h⟩ := Z8 h
   refine Rg <| Mw rfl <| Md rfl <| Lp1 Z12 rfl <| Ac (Z2n 1001 rfl rfl Z13 (vt rfl) rfl (vt rfl) hx16) rfl <| Ac (Z3w 1001 rfl rfl Z12 (vt rfl) rfl (Z0n hx16).2 (vt rfl)) rfl <| Nl <| Rg <| Ac (Z0u (t := 12) rfl rfl (vt rfl) (vk rfl) (vt rfl) hlti9) rfl <| Md rfl <| Nl ?_
   exact ⟨(_, _, _, _), Nat.lt_succ_self _, ⟨hsf1.next, h⟩, FX rfl⟩
def Zkj (s1 : (List Action)) (x2 : (Action → Option Bool)) : Option Bool :=
 (Zdx s1 x2).bind fun x3 => some (decide (x3 ≥ 0))
theorem Y9a : Q2 Tryz.prog 213 (rd (Z1 Z9)) (fn1 Tryz.prog Z9 Z5) (rd Z5) Zkj := fun s1 x2 r h => I0 Tryz.func213 rfl Tryz.ntmps213 rfl fun w H => by
 unfold Zkj at h
 refine SR <| Ab rfl <| Nl <| sq ?_
 obtain ⟨x3, hx3, h⟩ := Z8 h
 refine Rg <| Md rfl <| Ac (Zp (A := fn1 Tryz.prog Z9 Z5 x2) rfl rfl (vt rfl)) rfl <| Cl [5, 6] (Zu7 _ _ _ hx3) Zqw rfl <| Ac (Z3z rfl rfl (vt rfl) (vk rfl)) rfl <| As rfl <| Nl <| rt ?_
 cases h; exact Zf Tryz.results213 rfl (Za rfl)
def Zjf (a1 : Action) : Option Bool :=
 some (decide (a1.Kind = 22))
theorem Ymf : Q1 Tryz.prog 214 (rd Z9) (rd Z5) Zjf := fun a1 r h => I0 Tryz.func214 rfl Tryz.ntmps214 rfl fun w H => by
 unfold Zjf at h
 refine SR <| Cv rfl (Zn 2 rfl rfl (vt rfl)) fun g2 => Ab rfl <| Nl <| SR <| Zh lAction_0 Z8j rfl <| Ld Zq 2 rfl <| Ac (Z1r rfl rfl (vt rfl) (vk rfl)) rfl <| As rfl <| Nl <| rt ?_
 cases h; exact Zf Tryz.results214 rfl (Za rfl)
def Zed (s1 : (List Int)) (x2 : Int) : Nat → Nat → Option Int
 | 0, i3 => some (-1)
 | m4 + 1, i3 => (lget s1 (i3 : Int)).bind fun x5 => (bif (decide (x2 = x5)) then some (i3 : Int) else (Zed s1 x2 m4) (i3 + 1))
def Zga (s1 : (List Int)) (x2 : Int) : Option Int :=
 Zed s1 x2 ((s1.length : Int) : Int).toNat 0
theorem Y2l : Q2 Tryz.prog 273 (rd (Z1 (Z0 .i64))) (rd (Z0 .i64)) (rd (Z0 .i64)) Zga := fun s1 x2 r h => I0 Tryz.func273 rfl Tryz.ntmps273 rfl fun w H => by
 unfold Zga at h
 refine SR <| Ak rfl <| Nl <| sq <| SR <| Md rfl <| Ac (Z0t rfl rfl Z15 (vt rfl)) rfl <| Mk rfl <| Nl <| bk <| LG (d := []) (ν := Nat × Nat) (fun (m4, i3) => (Cnt (s1.length : Int) i3 m4 ∧ Zed s1 x2 m4 i3 = some r, m4, [(0, rd (Z1 (Z0 .i64)) s1), (1, rd (Z0 .i64) x2), (7, rd (Z0 .i64) (s1.length : Int)), (8, rd (Z0 .i64) (i3 : Int))], [])) (((s1.length : Int) : Int).toNat, 0) ⟨Cnt.start _, h⟩ (FX rfl) ?_
 rintro ⟨m4, i3⟩ ⟨hsf1, h⟩
 dsimp only at hsf1 h ⊢
 cases m4 with
 | zero =>
  unfold Zed at h
  refine SR <| Ac (Zi rfl rfl (vt rfl) (vt rfl)) rfl <| Nl <| sq <| Cn rfl (fun hc => absurd (of_decide_eq_true hc) hsf1.zero) (fun hc => ?_)
  refine xt <| SR <| Ak rfl <| Nl <| rt ?_
  cases h; exact Zf Tryz.results273 rfl (Za rfl)
 | succ m4 =>
  unfold Zed at h
  refine SR <| Ac (Zi rfl rfl (vt rfl) (vt rfl)) rfl <| Nl <| sq <| Cn rfl (fun hc => ?_) (fun hc => absurd hsf1.succ (of_decide_eq_false hc))
  have hlti3 := of_decide_eq_true hc
  refine sk <| sq <| bk <| SR <| Md rfl <| As rfl <| Nl <| sq ?_
  obtain ⟨x5, hx5, h⟩ := Z8 h
  refine Rg <| Md rfl <| Md rfl <| Md rfl <| Ac (Z0k rfl rfl Z15 (vt rfl) (vt rfl) hx5) rfl <| Lp1 Zq rfl <| Ac (Z1r rfl rfl (vt rfl) (vt rfl)) rfl <| Nl <| Cq rfl h (fun h => ?_) (fun h => ?_)
  ·refine SR <| Md rfl <| As rfl <| Nl <| rt ?_
   cases h; exact Zf Tryz.results273 rfl (Za rfl)
  ·refine sk <| Rg <| Ac (Z0u (t := 7) rfl rfl (vt rfl) (vk rfl) (vt rfl) hlti3) rfl <| Md rfl <| Nl ?_
   exact ⟨(_, _), Nat.lt_succ_self _, ⟨hsf1.next, h⟩, FX rfl⟩
def Zda (k1 : Int) : Option Int :=
 (Zga [18, 17, 25, 22, 0] k1).bind fun x2 => some x2
theorem Zr8 : Q1 Tryz.prog 218 (rd (Z0 .i64)) (rd (Z0 .i64)) Zda := fun k1 r h => I0 Tryz.func218 rfl Tryz.ntmps218 rfl fun w H => by
 unfold Zda at h
 refine SR <| Ak rfl <| Nl <| sq ?_
 obtain ⟨x2, hx2, h⟩ := Z8 h
 refine Rg <| Ac (Zmw (ps := [(0, .const (Value.int IntKind.i64 18)), (1, .const (Value.int IntKind.i64 17)), (2, .const (Value.int IntKind.i64 25)), (3, .const (Value.int IntKind.i64 22)), (4, .const (Value.int IntKind.i64 0))]) (l := [18, 17, 25, 22, 0]) rfl rfl Z15 zr3 rfl rfl ⟨_, _, Lens.idx 5 (Z0 .i64) 0 (by decide), _, rfl, (vk rfl), _, _, Lens.idx 5 (Z0 .i64) 1 (by decide), _, rfl, (vk rfl), _, _, Lens.idx 5 (Z0 .i64) 2 (by decide), _, rfl, (vk rfl), _, _, Lens.idx 5 (Z0 .i64) 3 (by decide), _, rfl, (vk rfl), _, _, Lens.idx 5 (Z0 .i64) 4 (by decide), _, rfl, (vk rfl), rfl⟩ rfl) rfl <| Md rfl <| Cl [3, 4] (Y2l _ _ _ hx2) Y1q rfl <| As rfl <| Nl <| rt ?_
 cases h; exact Zf Tryz.results218 rfl (Za rfl)
def Zb6 (a1 : Action) (x2 : Bool) : Option Bool :=
 (Zda a1.Kind).bind fun x4 => some ((decide (x4 < 0)) || (x2 && (decide (a1.Kind = 0))))
theorem Y7x : Q2 Tryz.prog 217 (rd Z9) (rp Z5) (rd Z5) Zb6 := fun a1 x2 r h => I0 Tryz.func217 rfl Tryz.ntmps217 rfl fun w H => by
 unfold Zb6 at h
 refine SR <| Cv rfl (Zn 3 rfl rfl (vt rfl)) fun g3 => Ab rfl <| Nl <| sq ?_
 obtain ⟨x4, hx4, h⟩ := Z8 h
 refine Rg <| Zh lAction_0 Z8j rfl <| Ld Zq 3 rfl <| Cl [5] (Zr8 _ _ hx4) Zt6 rfl <| Ac (Zi rfl rfl (vt rfl) (vk rfl)) rfl <| Md rfl <| Gd rfl (fun hq => Z68 rfl rfl ty4 (vt rfl)) <| AOps.consG (OpG.guardX rfl rfl rfl rfl rfl fun hq => Zp (A := rd Z5 x2) rfl rfl (Zg rfl hq)) <| AOps.consG (OpG.guardN rfl rfl rfl rfl rfl fun hq => Z2t lAction_0 rfl rfl Z8j (vt rfl)) <| AOps.consG (OpG.guardN rfl rfl rfl rfl rfl fun hq => Z29 rfl rfl Zq (Zg rfl hq) (i := 3) rfl) <| AOps.consG (OpG.guardN rfl rfl rfl rfl rfl fun hq => Z1r rfl rfl (Zg rfl hq) (vk rfl)) <| Gd rfl (fun hq => Z21 rfl rfl (vgx rfl hq) (vgw rfl hq)) <| Ac (Z4o rfl rfl (vt rfl) (vt rfl)) rfl <| As rfl <| Nl <| rt ?_
 cases h; exact Zf Tryz.results217 rfl (Za rfl)
def Zem (d3 : (Action → Option Bool)) : Nat → (List Action) → Int → Int → Option (List Action)
 | 0, _, _, _ => none
 | m11 + 1, l8, i9, j10 => (bif (decide (j10 < (l8.length : Int))) then (lget l8 j10).bind fun x12 => (d3 x12).bind fun x14 => (bif (!x14) then (lget l8 i9).bind fun x15 => (Zem d3 m11) (List.set l8 i9.toNat x12) (IntKind.i64.wrap (i9 + 1)) (IntKind.i64.wrap (j10 + 1)) else (Zem d3 m11) l8 i9 (IntKind.i64.wrap (j10 + 1))) else (Z7i l8 i9).bind fun s16 => (Z5b (List.take i9.toNat l8 ++ List.replicate (l8.length - i9.toNat) Zn7) i9).bind fun s17 => some s17)
def Zin (s1 : (List Action)) (d3 : (Action → Option Bool)) : Option (List Action) :=
 (Zdx s1 d3).bind fun x4 => (bif (decide (x4 = (-1))) then some s1 else Zem d3 ((((s1.length : Int) : Int) - (IntKind.i64.wrap (x4 + 1))).toNat + 1) s1 x4 (IntKind.i64.wrap (x4 + 1)))
theorem Yco (v2 : Value) (s1 : (List Action)) (d3 : (Action → Option Bool)) (r : (List Action)) (h : Zin s1 d3 = some r) : Con Tryz.prog 215 [Zo v2, fn1 Tryz.prog Z9 Z5 d3] (Zb v2 121 Z9 s1) (fun v => Zo v) (fun v => Zb v 121 Z9 r) := by
 refine Con.intro Tryz.func215 rfl Tryz.ntmps215 rfl fun w H X => ?_
 unfold Zin at h
 refine sq <| AW.newnil 1001 121 Z9 <| Rg <| Ac (Zy rfl rfl vc) rfl <| Nl <| sq ?_
 obtain ⟨x4, hx4, h⟩ := Z8 h
 refine Rg <| Mw rfl <| Ac (Zp (A := fn1 Tryz.prog Z9 Z5 d3) rfl rfl (vt rfl)) rfl <| Ac (Zm7 (xs := [.tmp 8, .tmp 9]) 0 (Zu7 _ _ _ hx4) Zqw rfl rfl ⟨vL rfl rfl, vB (vt rfl), trivial⟩) rfl <| As rfl <| Nl <| sq <| SR <| Md rfl <| Ac (Z1r rfl rfl (vt rfl) (vk rfl)) rfl <| Nl <| Cq rfl h (fun h => ?_) (fun h => ?_)
 ·refine SR <| Mw rfl <| Aw rfl <| Nl <| rt ?_
  cases h; exact Z6m (i := 0) Tryz.results215 rfl rfl rfl
 ·refine sk <| sq <| SR <| Md rfl <| Ac (Z0o rfl rfl (vt rfl) (vk rfl)) rfl <| As rfl <| Nl <| bk <| LG (d := []) (ν := Nat × (List Action) × Int × Int) (fun (m11, l8, i9, j10) => (True ∧ Zem d3 m11 l8 i9 j10 = some r, m11, [(0, Zo v2), (1, fn1 Tryz.prog Z9 Z5 d3), (5, rd (Z0 .i64) i9), (6, rd (Z0 .i64) j10)], [(0, Zb v2 121 Z9 l8)])) (((((s1.length : Int) : Int) - (IntKind.i64.wrap (x4 + 1))).toNat + 1), s1, x4, (IntKind.i64.wrap (x4 + 1))) ⟨trivial, h⟩ (FX rfl) ?_
  rintro ⟨m11, l8, i9, j10⟩ ⟨hsf1, h⟩
  dsimp only at h ⊢
  cases m11 with
  | zero => cases h
  | succ m11 =>
   unfold Zem at h
   refine sq <| SR <| Md rfl <| Mw rfl <| Ac (Z6o 0 rfl rfl Z13 (vt rfl) rfl) rfl <| Ac (Zi rfl rfl (vt rfl) (vt rfl)) rfl <| Nl <| Cq rfl h (fun h => ?_) (fun h => ?_)
   ·refine sk <| sq <| bk <| sq ?_
    obtain ⟨x12, hx12, h⟩ := Z8 h
    refine Rg <| Mw rfl <| Md rfl <| Ac (Z2n 0 rfl rfl Z13 (vt rfl) rfl (vt rfl) hx12) rfl <| Ac (Z1v 0 rfl rfl Z12 (vt rfl) rfl (Z0n hx12).2) rfl <| Cv rfl (Zs 8 rfl rfl Z8f) fun g13 => Zj Z12 8 rfl <| Nl <| sq ?_
    obtain ⟨x14, hx14, h⟩ := Z8 h
    refine Rg <| Ac (Zp (A := fn1 Tryz.prog Z9 Z5 d3) rfl rfl (vt rfl)) rfl <| Ld Z12 8 rfl <| Ac (Z88 hx14 rfl rfl (vt rfl) (vt rfl)) rfl <| Ac (Z0z rfl rfl (vt rfl)) rfl <| Nl <| Cq rfl h (fun h => ?_) (fun h => ?_)
    ·refine sq ?_
     obtain ⟨x15, hx15, h⟩ := Z8 h
     refine Rg <| Mw rfl <| Md rfl <| Ld Z12 8 rfl <| Ac (Z2n 0 rfl rfl Z13 (vt rfl) rfl (vt rfl) hx15) rfl <| Ac (Z3w 0 rfl rfl Z12 (vt rfl) rfl (Z0n hx15).2 (vt rfl)) rfl <| Nl <| Rg <| Md rfl <| Ac (Z0o rfl rfl (vt rfl) (vk rfl)) rfl <| As rfl <| Nl <| Rg <| Md rfl <| Ac (Z0o rfl rfl (vt rfl) (vk rfl)) rfl <| As rfl <| Nl ?_
     exact ⟨(_, _, _, _), Nat.lt_succ_self _, ⟨trivial, h⟩, FX rfl⟩
    ·refine sk <| Rg <| Md rfl <| Ac (Z0o rfl rfl (vt rfl) (vk rfl)) rfl <| As rfl <| Nl ?_
     exact ⟨(_, _, _, _), Nat.lt_succ_self _, ⟨trivial, h⟩, FX rfl⟩
   ·refine xt <| sq ?_
    obtain ⟨s16, hs16, h⟩ := Z8 h
    refine Rg <| Mw rfl <| Md rfl <| Ac (Yem 0 hs16 rfl rfl Z13 (vt rfl) rfl (vt rfl)) rfl <| Ac (Yfv 0 rfl rfl Z13 Z8f rfl (vt rfl) rfl (Zrb hs16).2.1) rfl <| Nl <| sq ?_
    obtain ⟨s17, hs17, h⟩ := Z8 h
    refine Rg <| Mw rfl <| Md rfl <| Cv rfl (Yiu 0 hs17 rfl rfl Z13 (vt rfl) rfl (vt rfl)) fun v18 => Aw rfl <| Nl <| rt ?_
    cases h; exact Z6m (i := 0) Tryz.results215 rfl rfl rfl
def Z8y (a3 : Int) (x5 : (Action → Action → Option Int)) (go1 : (List Action) → Int → Option (List Action)) (i9 : Int) : Nat → (List Action) → Int → Option (List Action)
 | 0, _, _ => none
 | m15 + 1, l13, j14 => (opt (decide (j14 > a3)) (lget l13 j14)).bind fun x16 => (opt (decide (j14 > a3)) (lget l13 (IntKind.i64.wrap (j14 - 1)))).bind fun x17 => (opt (decide (j14 > a3)) (x5 x16 x17)).bind fun x18 => (bif ((decide (j14 > a3)) && (decide (x18 < 0))) then (lget l13 (IntKind.i64.wrap (j14 - 1))).bind fun x19 => (lget l13 j14).bind fun x20 => (lget l13 j14).bind fun x21 => (lget (List.set l13 j14.toNat x19) (IntKind.i64.wrap (j14 - 1))).bind fun x22 => (Z8y a3 x5 go1 i9 m15) (List.set (List.set l13 j14.toNat x19) (IntKind.i64.wrap (j14 - 1)).toNat x20) (IntKind.i64.wrap (j14 - 1)) else go1 l13 (IntKind.i64.wrap (i9 + 1)))
def Z71 (b4 : Int) (a3 : Int) (x5 : (Action → Action → Option Int)) : Nat → (List Action) → Int → Option (List Action)
 | 0, _, _ => none
 | m10 + 1, l8, i9 => (bif (decide (i9 < b4)) then Z8y a3 x5 (Z71 b4 a3 x5 m10) i9 Z0l l8 i9 else some l8)
def Zc4 (d1 : (List Action)) (a3 : Int) (b4 : Int) (x5 : (Action → Action → Option Int)) : Option (List Action) :=
 Z71 b4 a3 x5 (((b4 : Int) - (IntKind.i64.wrap (a3 + 1))).toNat + 1) d1 (IntKind.i64.wrap (a3 + 1))
theorem Zvc (v2 : Value) (d1 : (List Action)) (a3 : Int) (b4 : Int) (x5 : (Action → Action → Option Int)) (r : (List Action)) (h : Zc4 d1 a3 b4 x5 = some r) : Con Tryz.prog 310 [Zo v2, rd (Z0 .i64) a3, rd (Z0 .i64) b4, fn2 Tryz.prog Z9 Z9 (Z0 .i64) x5] (Zb v2 121 Z9 d1) (fun _ : Unit => top) (fun _ => Zb v2 121 Z9 r) := by
 refine Con.intro Tryz.func310 rfl Tryz.ntmps310 rfl fun w H X => ?_
 unfold Zc4 at h
 refine SR <| Md rfl <| Ac (Z0o rfl rfl (vt rfl) (vk rfl)) rfl <| As rfl <| Nl <| bk <| LG (d := []) (ν := Nat × (List Action) × Int) (fun (m10, l8, i9) => (True ∧ Z71 b4 a3 x5 m10 l8 i9 = some r, m10, [(0, Zo v2), (1, rd (Z0 .i64) a3), (2, rd (Z0 .i64) b4), (3, fn2 Tryz.prog Z9 Z9 (Z0 .i64) x5), (8, rd (Z0 .i64) i9)], [(0, Zb v2 121 Z9 l8)])) ((((b4 : Int) - (IntKind.i64.wrap (a3 + 1))).toNat + 1), d1, (IntKind.i64.wrap (a3 + 1))) ⟨trivial, h⟩ (FX rfl) ?_
 rintro ⟨m10, l8, i9⟩ ⟨hsf1, h⟩
 dsimp only at h ⊢
 cases m10 with
 | zero => cases h
 | succ m10 =>
  unfold Z71 at h
  refine sq <| SR <| Md rfl <| Md rfl <| Ac (Zi rfl rfl (vt rfl) (vt rfl)) rfl <| Nl <| Cq rfl h (fun h => ?_) (fun h => ?_)
  ·refine sk <| sq <| bk <| SR <| Md rfl <| As rfl <| Nl <| bk <| LG (d := []) (ν := Nat × (List Action) × Int) (fun (m15, l13, j14) => (True ∧ Z8y a3 x5 (Z71 b4 a3 x5 m10) i9 m15 l13 j14 = some r, m15, [(0, Zo v2), (1, rd (Z0 .i64) a3), (2, rd (Z0 .i64) b4), (3, fn2 Tryz.prog Z9 Z9 (Z0 .i64) x5), (8, rd (Z0 .i64) i9), (9, rd (Z0 .i64) j14)], [(0, Zb v2 121 Z9 l13)])) (Z0l, l8, i9) ⟨trivial, h⟩ (FX rfl) ?_
   rintro ⟨m15, l13, j14⟩ ⟨hsf2, h⟩
   dsimp only at h ⊢
   cases m15 with
   | zero => cases h
   | succ m15 =>
    unfold Z8y at h
    refine sq <| sq ?_
    obtain ⟨x16, hx16, x17, hx17, x18, hx18, h⟩ := bs3 h
    refine AR Zw (by kernel_rfl) <| SMd rfl <| SMd rfl <| Sd (lo [18, 19] [] rfl fun S hs hr => Z3i rfl rfl (vh hs 18 rfl rfl) (vh hs 19 rfl rfl)) <| SMd rfl <| Sd (lg [3, 21] [] rfl fun hq S hs hr => Zp (A := fn2 Tryz.prog Z9 Z9 (Z0 .i64) x5) rfl rfl (vh hs 3 rfl rfl)) <| Sd (lg [0, 21] [] rfl fun hq S hs hr => Zp (A := Zo v2) rfl rfl (vh hs 0 rfl rfl)) <| Sd (lg [9, 21] [] rfl fun hq S hs hr => Zp (A := rd (Z0 .i64) j14) rfl rfl (vh hs 9 rfl rfl)) <| Sd (lg [23, 24, 21] [0] rfl fun hq S hs hr => Z2n 0 rfl rfl Z13 (Zg ((hs 23 rfl).trans rfl) hq) ((hr 0 rfl).trans rfl) (Zg ((hs 24 rfl).trans rfl) hq) (Z3t hx16 hq)) <| Sd (lg [25, 21] [0] rfl fun hq S hs hr => Z1v 0 rfl rfl Z12 (Zg ((hs 25 rfl).trans rfl) hq) ((hr 0 rfl).trans rfl) (Z0n (Z3t hx16 hq)).2) <| Sd (lg [0, 21] [] rfl fun hq S hs hr => Zp (A := Zo v2) rfl rfl (vh hs 0 rfl rfl)) <| Sd (lg [9, 21] [] rfl fun hq S hs hr => Zp (A := rd (Z0 .i64) j14) rfl rfl (vh hs 9 rfl rfl)) <| Sd (lg [28, 21] [] rfl fun hq S hs hr => Z0v rfl rfl (Zg ((hs 28 rfl).trans rfl) hq) (vk rfl)) <| Sd (lg [27, 29, 21] [0] rfl fun hq S hs hr => Z2n 0 rfl rfl Z13 (Zg ((hs 27 rfl).trans rfl) hq) ((hr 0 rfl).trans rfl) (Zg ((hs 29 rfl).trans rfl) hq) (Z3t hx17 hq)) <| Sd (lg [30, 21] [0] rfl fun hq S hs hr => Z1v 0 rfl rfl Z12 (Zg ((hs 30 rfl).trans rfl) hq) ((hr 0 rfl).trans rfl) (Z0n (Z3t hx17 hq)).2) <| Sd (lg [22, 26, 31, 21] [] rfl fun hq S hs hr => Zc3 (Z3t hx18 hq) rfl rfl (Zg ((hs 22 rfl).trans rfl) hq) (Zg ((hs 26 rfl).trans rfl) hq) (Zg ((hs 31 rfl).trans rfl) hq)) <| Sd (lg [32, 21] [] rfl fun hq S hs hr => Zi rfl rfl (Zg ((hs 32 rfl).trans rfl) hq) (vk rfl)) <| Sd (lo [33, 21] [] rfl fun S hs hr => Z21 rfl rfl (vh hs 21 rfl rfl) (vh hs 33 rfl rfl)) <| Sn <| Cq rfl h (fun h => ?_) (fun h => ?_)
    ·refine sk <| sq <| bk <| AW.vlen 0 rfl fun hvl0_266 => ?_
     obtain ⟨x19, hx19, x20, hx20, x21, hx21, x22, hx22, h⟩ := bs4 h
     refine AR Zw (by kernel_rfl) <| SMw rfl <| SMd rfl <| SMw rfl <| SMd rfl <| Sd (lo [40] [] rfl fun S hs hr => Z0v rfl rfl (vh hs 40 rfl rfl) (vk rfl)) <| SMw rfl <| SMd rfl <| Sd (lo [43] [] rfl fun S hs hr => Z0v rfl rfl (vh hs 43 rfl rfl) (vk rfl)) <| Sd (lo [42, 44] [] rfl fun S hs hr => Z24 (l := l13) hvl0_266 rfl rfl rfl Z13 (vh hs 42 rfl rfl) (vh hs 44 rfl rfl) hx19) <| Sd (lo [45] [0] rfl fun S hs hr => Z1v 0 rfl rfl Z12 (vh hs 45 rfl rfl) ((hr 0 rfl).trans rfl) (Z0n hx19).2) <| SMw rfl <| SMd rfl <| Sd (lo [47, 48] [] rfl fun S hs hr => Z24 (l := l13) hvl0_266 rfl rfl rfl Z13 (vh hs 47 rfl rfl) (vh hs 48 rfl rfl) hx20) <| Sd (lo [49] [0] rfl fun S hs hr => Z1v 0 rfl rfl Z12 (vh hs 49 rfl rfl) ((hr 0 rfl).trans rfl) (Z0n hx20).2) <| Sd (lo [37, 38] [] rfl fun S hs hr => Z24 (l := l13) hvl0_266 rfl rfl rfl Z13 (vh hs 37 rfl rfl) (vh hs 38 rfl rfl) hx21) <| Sd (Z45 [51, 46] [0] rfl fun S hs hr => Z3w 0 rfl rfl Z12 (vh hs 51 rfl rfl) ((hr 0 rfl).trans rfl) (Z0n hx21).2 (vh hs 46 rfl rfl)) <| Sd (lo [39, 41] [] rfl fun S hs hr => Z24 (l := (List.set l13 j14.toNat x19)) hvl0_266 (by simp) rfl rfl Z13 (vh hs 39 rfl rfl) (vh hs 41 rfl rfl) hx22) <| Sd (Z45 [52, 50] [0] rfl fun S hs hr => Z3w 0 rfl rfl Z12 (vh hs 52 rfl rfl) ((hr 0 rfl).trans rfl) (Z0n hx22).2 (vh hs 50 rfl rfl)) <| Sn <| Rg <| Md rfl <| Ac (Z0v rfl rfl (vt rfl) (vk rfl)) rfl <| As rfl <| Nl ?_
     exact ⟨(_, _, _), Nat.lt_succ_self _, ⟨trivial, h⟩, FX rfl⟩
    ·refine xt <| Rg <| Md rfl <| Ac (Z0o rfl rfl (vt rfl) (vk rfl)) rfl <| As rfl <| Nl ?_
     exact ⟨(_, _, _), Nat.lt_succ_self _, ⟨trivial, h⟩, FX rfl⟩
  ·refine xt ?_
   cases h; exact Z1k (i := 0) Tryz.results310 rfl rfl
def Zdg (n5 : Int) (b4 : Int) (a3 : Int) : Nat → (List Action) → Int → Option (List Action)
 | 0, _, _ => none
 | m11 + 1, l9, i10 => (bif (decide (i10 < n5)) then (lget l9 (IntKind.i64.wrap (b4 + i10))).bind fun x12 => (lget l9 (IntKind.i64.wrap (a3 + i10))).bind fun x13 => (lget l9 (IntKind.i64.wrap (a3 + i10))).bind fun x14 => (lget (List.set l9 (IntKind.i64.wrap (a3 + i10)).toNat x12) (IntKind.i64.wrap (b4 + i10))).bind fun x15 => (Zdg n5 b4 a3 m11) (List.set (List.set l9 (IntKind.i64.wrap (a3 + i10)).toNat x12) (IntKind.i64.wrap (b4 + i10)).toNat x13) (IntKind.i64.wrap (i10 + 1)) else some l9)
def Zdi (d1 : (List Action)) (a3 : Int) (b4 : Int) (n5 : Int) (x6 : (Action → Action → Option Int)) : Option (List Action) :=
 Zdg n5 b4 a3 (((n5 : Int) - 0).toNat + 1) d1 0
theorem Zt4 (v2 : Value) (d1 : (List Action)) (a3 : Int) (b4 : Int) (n5 : Int) (x6 : (Action → Action → Option Int)) (r : (List Action)) (h : Zdi d1 a3 b4 n5 x6 = some r) : Con Tryz.prog 343 [Zo v2, rd (Z0 .i64) a3, rd (Z0 .i64) b4, rd (Z0 .i64) n5, fn2 Tryz.prog Z9 Z9 (Z0 .i64) x6] (Zb v2 121 Z9 d1) (fun _ : Unit => top) (fun _ => Zb v2 121 Z9 r) := by
 refine Con.intro Tryz.func343 rfl Tryz.ntmps343 rfl fun w H X => ?_
 unfold Zdi at h
 refine SR <| Ak rfl <| Nl <| bk <| LG (d := []) (ν := Nat × (List Action) × Int) (fun (m11, l9, i10) => (True ∧ Zdg n5 b4 a3 m11 l9 i10 = some r, m11, [(0, Zo v2), (1, rd (Z0 .i64) a3), (2, rd (Z0 .i64) b4), (3, rd (Z0 .i64) n5), (10, rd (Z0 .i64) i10)], [(0, Zb v2 121 Z9 l9)])) ((((n5 : Int) - 0).toNat + 1), d1, 0) ⟨trivial, h⟩ (FX rfl) ?_
 rintro ⟨m11, l9, i10⟩ ⟨hsf1, h⟩
 dsimp only at h ⊢
 cases m11 with
 | zero => cases h
 | succ m11 =>
  unfold Zdg at h
  refine sq <| SR <| Md rfl <| Md rfl <| Ac (Zi rfl rfl (vt rfl) (vt rfl)) rfl <| Nl <| Cq rfl h (fun h => ?_) (fun h => ?_)
  ·refine sk <| sq <| bk <| AW.vlen 0 rfl fun hvl0_123 => ?_
   obtain ⟨x12, hx12, x13, hx13, x14, hx14, x15, hx15, h⟩ := bs4 h
   refine AR Zw (by kernel_rfl) <| SMw rfl <| SMd rfl <| SMd rfl <| Sd (lo [17, 18] [] rfl fun S hs hr => Z0o rfl rfl (vh hs 17 rfl rfl) (vh hs 18 rfl rfl)) <| SMw rfl <| SMd rfl <| SMd rfl <| Sd (lo [21, 22] [] rfl fun S hs hr => Z0o rfl rfl (vh hs 21 rfl rfl) (vh hs 22 rfl rfl)) <| SMw rfl <| SMd rfl <| SMd rfl <| Sd (lo [25, 26] [] rfl fun S hs hr => Z0o rfl rfl (vh hs 25 rfl rfl) (vh hs 26 rfl rfl)) <| Sd (lo [24, 27] [] rfl fun S hs hr => Z24 (l := l9) hvl0_123 rfl rfl rfl Z13 (vh hs 24 rfl rfl) (vh hs 27 rfl rfl) hx12) <| Sd (lo [28] [0] rfl fun S hs hr => Z1v 0 rfl rfl Z12 (vh hs 28 rfl rfl) ((hr 0 rfl).trans rfl) (Z0n hx12).2) <| SMw rfl <| SMd rfl <| SMd rfl <| Sd (lo [31, 32] [] rfl fun S hs hr => Z0o rfl rfl (vh hs 31 rfl rfl) (vh hs 32 rfl rfl)) <| Sd (lo [30, 33] [] rfl fun S hs hr => Z24 (l := l9) hvl0_123 rfl rfl rfl Z13 (vh hs 30 rfl rfl) (vh hs 33 rfl rfl) hx13) <| Sd (lo [34] [0] rfl fun S hs hr => Z1v 0 rfl rfl Z12 (vh hs 34 rfl rfl) ((hr 0 rfl).trans rfl) (Z0n hx13).2) <| Sd (lo [16, 19] [] rfl fun S hs hr => Z24 (l := l9) hvl0_123 rfl rfl rfl Z13 (vh hs 16 rfl rfl) (vh hs 19 rfl rfl) hx14) <| Sd (Z45 [36, 29] [0] rfl fun S hs hr => Z3w 0 rfl rfl Z12 (vh hs 36 rfl rfl) ((hr 0 rfl).trans rfl) (Z0n hx14).2 (vh hs 29 rfl rfl)) <| Sd (lo [20, 23] [] rfl fun S hs hr => Z24 (l := (List.set l9 (IntKind.i64.wrap (a3 + i10)).toNat x12)) hvl0_123 (by simp) rfl rfl Z13 (vh hs 20 rfl rfl) (vh hs 23 rfl rfl) hx15) <| Sd (Z45 [37, 35] [0] rfl fun S hs hr => Z3w 0 rfl rfl Z12 (vh hs 37 rfl rfl) ((hr 0 rfl).trans rfl) (Z0n hx15).2 (vh hs 35 rfl rfl)) <| Sn <| Rg <| Md rfl <| Ac (Z0o rfl rfl (vt rfl) (vk rfl)) rfl <| As rfl <| Nl ?_
   exact ⟨(_, _, _), Nat.lt_succ_self _, ⟨trivial, h⟩, FX rfl⟩
  ·refine xt ?_
   cases h; exact Z1k (i := 0) Tryz.results343 rfl rfl
end Go.Proofs.YtknpgojdkobgjaaGreat.W
set_option maxRecDepth 4000
namespace Go.Proofs.YtknpgojdkobgjaaGreat.W
open Go Go.Wb
theorem Zr3 : Ent Tryz.prog 343 := Ent.mk Tryz.func343 rfl rfl
theorem Zna : Ent Tryz.prog 311 := Ent.mk Tryz.func311 rfl rfl
theorem Ygg : Ent Tryz.prog 335 := Ent.mk Tryz.func335 rfl rfl
theorem Zyc : Ent Tryz.prog 310 := Ent.mk Tryz.func310 rfl rfl
theorem Ybu : Ent Tryz.prog 274 := Ent.mk Tryz.func274 rfl rfl
theorem Ygn : Ent Tryz.prog 213 := Ent.mk Tryz.func213 rfl rfl
theorem Y8h : Ent Tryz.prog 214 := Ent.mk Tryz.func214 rfl rfl
theorem Yan : Ent Tryz.prog 217 := Ent.mk Tryz.func217 rfl rfl
theorem Ycx : Ent Tryz.prog 215 := Ent.mk Tryz.func215 rfl rfl
theorem Yf2 : Ent Tryz.prog 219 := Ent.mk Tryz.func219 rfl rfl
theorem Ynf : Ent Tryz.prog 220 := Ent.mk Tryz.func220 rfl rfl
theorem Z8i : Ent Tryz.prog 204 := Ent.mk Tryz.func204 rfl rfl
theorem Zov : Ent Tryz.prog 149 := Ent.mk Tryz.func149 rfl rfl
theorem Y5o : Ent Tryz.prog 205 := Ent.mk Tryz.func205 rfl rfl
theorem Zpl : Ent Tryz.prog 206 := Ent.mk Tryz.func206 rfl rfl
theorem Zws : Ent Tryz.prog 208 := Ent.mk Tryz.func208 rfl rfl
def Zer (m4 : Int) (x6 : (Action → Action → Option Int)) : Nat → (List Action) → Int → Int → Option (List Action)
 | 0, _, _, _ => none
 | m13 + 1, l10, i11, j12 => (bif (decide (i11 ≠ j12)) then (bif (decide (i11 > j12)) then (Zdi l10 (IntKind.i64.wrap (m4 - i11)) m4 j12 x6).bind fun l14 => (Zer m4 x6 m13) l14 (IntKind.i64.wrap (i11 - j12)) j12 else (Zdi l10 (IntKind.i64.wrap (m4 - i11)) (IntKind.i64.wrap ((IntKind.i64.wrap (m4 + j12)) - i11)) i11 x6).bind fun l15 => (Zer m4 x6 m13) l15 i11 (IntKind.i64.wrap (j12 - i11))) else (Zdi l10 (IntKind.i64.wrap (m4 - i11)) m4 i11 x6).bind fun l16 => some l16)
def Zh9 (d1 : (List Action)) (a3 : Int) (m4 : Int) (b5 : Int) (x6 : (Action → Action → Option Int)) : Option (List Action) :=
 Zer m4 x6 Z0l d1 (IntKind.i64.wrap (m4 - a3)) (IntKind.i64.wrap (b5 - m4))
theorem Y9g (v2 : Value) (d1 : (List Action)) (a3 : Int) (m4 : Int) (b5 : Int) (x6 : (Action → Action → Option Int)) (r : (List Action)) (h : Zh9 d1 a3 m4 b5 x6 = some r) : Con Tryz.prog 335 [Zo v2, rd (Z0 .i64) a3, rd (Z0 .i64) m4, rd (Z0 .i64) b5, fn2 Tryz.prog Z9 Z9 (Z0 .i64) x6] (Zb v2 121 Z9 d1) (fun _ : Unit => top) (fun _ => Zb v2 121 Z9 r) := by
 refine Con.intro Tryz.func335 rfl Tryz.ntmps335 rfl fun w H X => ?_
 unfold Zh9 at h
 refine SR <| Md rfl <| Md rfl <| Ac (Z0v rfl rfl (vt rfl) (vt rfl)) rfl <| As rfl <| Nl <| SR <| Md rfl <| Md rfl <| Ac (Z0v rfl rfl (vt rfl) (vt rfl)) rfl <| As rfl <| Nl <| sq <| bk <| LG (d := []) (ν := Nat × (List Action) × Int × Int) (fun (m13, l10, i11, j12) => (True ∧ Zer m4 x6 m13 l10 i11 j12 = some r, m13, [(0, Zo v2), (2, rd (Z0 .i64) m4), (4, fn2 Tryz.prog Z9 Z9 (Z0 .i64) x6), (10, rd (Z0 .i64) i11), (11, rd (Z0 .i64) j12)], [(0, Zb v2 121 Z9 l10)])) (Z0l, d1, (IntKind.i64.wrap (m4 - a3)), (IntKind.i64.wrap (b5 - m4))) ⟨trivial, h⟩ (FX rfl) ?_
 rintro ⟨m13, l10, i11, j12⟩ ⟨hsf1, h⟩
 dsimp only at h ⊢
 cases m13 with
 | zero => cases h
 | succ m13 =>
  unfold Zer at h
  refine sq <| SR <| Md rfl <| Md rfl <| Ac (Z4u rfl rfl (vt rfl) (vt rfl)) rfl <| Nl <| Cq rfl h (fun h => ?_) (fun h => ?_)
  ·refine sk <| bk <| SR <| Md rfl <| Md rfl <| Ac (Z3i rfl rfl (vt rfl) (vt rfl)) rfl <| Nl <| Cq rfl h (fun h => ?_) (fun h => ?_)
   ·refine sq ?_
    obtain ⟨l14, hl14, h⟩ := Z8 h
    refine Rg <| Mw rfl <| Md rfl <| Md rfl <| Ac (Z0v rfl rfl (vt rfl) (vt rfl)) rfl <| Md rfl <| Md rfl <| Ac (Zp (A := fn2 Tryz.prog Z9 Z9 (Z0 .i64) x6) rfl rfl (vt rfl)) rfl <| Cv rfl (Z10 0 (xs := [.tmp 24, .tmp 27, .tmp 28, .tmp 29, .tmp 30]) (Zt4 _ _ _ _ _ _ _ hl14) Zr3 rfl rfl ⟨vt rfl, vt rfl, vt rfl, vt rfl, vt rfl, trivial⟩ rfl) fun _u => Nl <| Rg <| Md rfl <| Md rfl <| Ac (Z0v rfl rfl (vt rfl) (vt rfl)) rfl <| As rfl <| Nl ?_
    exact ⟨(_, _, _, _), Nat.lt_succ_self _, ⟨trivial, h⟩, FX rfl⟩
   ·refine sq ?_
    obtain ⟨l15, hl15, h⟩ := Z8 h
    refine Rg <| Mw rfl <| Md rfl <| Md rfl <| Ac (Z0v rfl rfl (vt rfl) (vt rfl)) rfl <| Md rfl <| Md rfl <| Ac (Z0o rfl rfl (vt rfl) (vt rfl)) rfl <| Md rfl <| Ac (Z0v rfl rfl (vt rfl) (vt rfl)) rfl <| Md rfl <| Ac (Zp (A := fn2 Tryz.prog Z9 Z9 (Z0 .i64) x6) rfl rfl (vt rfl)) rfl <| Cv rfl (Z10 0 (xs := [.tmp 35, .tmp 38, .tmp 43, .tmp 44, .tmp 45]) (Zt4 _ _ _ _ _ _ _ hl15) Zr3 rfl rfl ⟨vt rfl, vt rfl, vt rfl, vt rfl, vt rfl, trivial⟩ rfl) fun _u => Nl <| Rg <| Md rfl <| Md rfl <| Ac (Z0v rfl rfl (vt rfl) (vt rfl)) rfl <| As rfl <| Nl ?_
    exact ⟨(_, _, _, _), Nat.lt_succ_self _, ⟨trivial, h⟩, FX rfl⟩
  ·refine xt ?_
   obtain ⟨l16, hl16, h⟩ := Z8 h
   refine Rg <| Mw rfl <| Md rfl <| Md rfl <| Ac (Z0v rfl rfl (vt rfl) (vt rfl)) rfl <| Md rfl <| Md rfl <| Ac (Zp (A := fn2 Tryz.prog Z9 Z9 (Z0 .i64) x6) rfl rfl (vt rfl)) rfl <| Cv rfl (Z10 0 (xs := [.tmp 50, .tmp 53, .tmp 54, .tmp 55, .tmp 56]) (Zt4 _ _ _ _ _ _ _ hl16) Zr3 rfl rfl ⟨vt rfl, vt rfl, vt rfl, vt rfl, vt rfl, trivial⟩ rfl) fun _u => Nl ?_
   cases h; exact Z1k (i := 0) Tryz.results335 rfl rfl
def Z9b (i9 : Int) : Nat → (List Action) → Int → Option (List Action)
 | 0, _, _ => none
 | m20 + 1, l18, k19 => (bif (decide (k19 < (IntKind.i64.wrap (i9 - 1)))) then (lget l18 (IntKind.i64.wrap (k19 + 1))).bind fun x21 => (lget l18 k19).bind fun x22 => (lget l18 k19).bind fun x23 => (lget (List.set l18 k19.toNat x21) (IntKind.i64.wrap (k19 + 1))).bind fun x24 => (Z9b i9 m20) (List.set (List.set l18 k19.toNat x21) (IntKind.i64.wrap (k19 + 1)).toNat x22) (IntKind.i64.wrap (k19 + 1)) else some l18)
def Z98 (d1 : (List Action)) (a3 : Int) (x6 : (Action → Action → Option Int)) : Nat → Int → Int → Option (List Action)
 | 0, _, _ => none
 | m11 + 1, i9, j10 => (bif (decide (i9 < j10)) then (Z3a (BitVec.ofInt 64 (IntKind.i64.wrap (i9 + j10))) ((1 : BitVec 64).toNat : Int)).bind fun q12 => (lget d1 (IntKind.i64.wrap (q12.toNat : Int))).bind fun x13 => (lget d1 a3).bind fun x14 => (x6 x13 x14).bind fun x15 => (bif (decide (x15 < 0)) then (Z98 d1 a3 x6 m11) (IntKind.i64.wrap ((IntKind.i64.wrap (q12.toNat : Int)) + 1)) j10 else (Z98 d1 a3 x6 m11) i9 (IntKind.i64.wrap (q12.toNat : Int))) else Z9b i9 ((((IntKind.i64.wrap (i9 - 1)) : Int) - a3).toNat + 1) d1 a3)
def Z9u (i27 : Int) : Nat → (List Action) → Int → Option (List Action)
 | 0, _, _ => none
 | m38 + 1, l36, k37 => (bif (decide (k37 > i27)) then (lget l36 (IntKind.i64.wrap (k37 - 1))).bind fun x39 => (lget l36 k37).bind fun x40 => (lget l36 k37).bind fun x41 => (lget (List.set l36 k37.toNat x39) (IntKind.i64.wrap (k37 - 1))).bind fun x42 => (Z9u i27 m38) (List.set (List.set l36 k37.toNat x39) (IntKind.i64.wrap (k37 - 1)).toNat x40) (IntKind.i64.wrap (k37 - 1)) else some l36)
def Z9w (d1 : (List Action)) (m4 : Int) (x6 : (Action → Action → Option Int)) : Nat → Int → Int → Option (List Action)
 | 0, _, _ => none
 | m29 + 1, i27, j28 => (bif (decide (i27 < j28)) then (Z3a (BitVec.ofInt 64 (IntKind.i64.wrap (i27 + j28))) ((1 : BitVec 64).toNat : Int)).bind fun q30 => (lget d1 m4).bind fun x31 => (lget d1 (IntKind.i64.wrap (q30.toNat : Int))).bind fun x32 => (x6 x31 x32).bind fun x33 => (bif (!(decide (x33 < 0))) then (Z9w d1 m4 x6 m29) (IntKind.i64.wrap ((IntKind.i64.wrap (q30.toNat : Int)) + 1)) j28 else (Z9w d1 m4 x6 m29) i27 (IntKind.i64.wrap (q30.toNat : Int))) else Z9u i27 (((m4 : Int) - i27).toNat + 1) d1 m4)
def Zhh (q43 : (BitVec 64)) (m4 : Int) (s48 : Int) (b5 : Int) (R_slices_symMergeCmpFunc_Action : ((List Action) → Int → Int → Int → (Action → Action → Option Int) → Option (List Action))) (x6 : (Action → Action → Option Int)) (l56 : (List Action)) : Option (List Action) :=
 (bif ((decide ((IntKind.i64.wrap (q43.toNat : Int)) < (IntKind.i64.wrap ((IntKind.i64.wrap ((IntKind.i64.wrap (q43.toNat : Int)) + m4)) - s48)))) && (decide ((IntKind.i64.wrap ((IntKind.i64.wrap ((IntKind.i64.wrap (q43.toNat : Int)) + m4)) - s48)) < b5))) then (R_slices_symMergeCmpFunc_Action l56 (IntKind.i64.wrap (q43.toNat : Int)) (IntKind.i64.wrap ((IntKind.i64.wrap ((IntKind.i64.wrap (q43.toNat : Int)) + m4)) - s48)) b5 x6).bind fun l57 => some l57 else some l56)
def Zb1 (a3 : Int) (s48 : Int) (q43 : (BitVec 64)) (R_slices_symMergeCmpFunc_Action : ((List Action) → Int → Int → Int → (Action → Action → Option Int) → Option (List Action))) (x6 : (Action → Action → Option Int)) (m4 : Int) (b5 : Int) (l55 : (List Action)) : Option (List Action) :=
 (bif ((decide (a3 < s48)) && (decide (s48 < (IntKind.i64.wrap (q43.toNat : Int))))) then (R_slices_symMergeCmpFunc_Action l55 a3 s48 (IntKind.i64.wrap (q43.toNat : Int)) x6).bind fun l58 => Zhh q43 m4 s48 b5 R_slices_symMergeCmpFunc_Action x6 l58 else Zhh q43 m4 s48 b5 R_slices_symMergeCmpFunc_Action x6 l55)
def Zc5 (d1 : (List Action)) (q43 : (BitVec 64)) (m4 : Int) (x6 : (Action → Action → Option Int)) (a3 : Int) (R_slices_symMergeCmpFunc_Action : ((List Action) → Int → Int → Int → (Action → Action → Option Int) → Option (List Action))) (b5 : Int) : Nat → Int → Int → Option (List Action)
 | 0, _, _ => none
 | m50 + 1, s48, x49 => (bif (decide (s48 < x49)) then (Z3a (BitVec.ofInt 64 (IntKind.i64.wrap (s48 + x49))) ((1 : BitVec 64).toNat : Int)).bind fun q51 => (lget d1 (IntKind.i64.wrap ((IntKind.i64.wrap ((IntKind.i64.wrap ((IntKind.i64.wrap (q43.toNat : Int)) + m4)) - 1)) - (IntKind.i64.wrap (q51.toNat : Int))))).bind fun x52 => (lget d1 (IntKind.i64.wrap (q51.toNat : Int))).bind fun x53 => (x6 x52 x53).bind fun x54 => (bif (!(decide (x54 < 0))) then (Zc5 d1 q43 m4 x6 a3 R_slices_symMergeCmpFunc_Action b5 m50) (IntKind.i64.wrap ((IntKind.i64.wrap (q51.toNat : Int)) + 1)) x49 else (Zc5 d1 q43 m4 x6 a3 R_slices_symMergeCmpFunc_Action b5 m50) s48 (IntKind.i64.wrap (q51.toNat : Int))) else (bif ((decide (s48 < m4)) && (decide (m4 < (IntKind.i64.wrap ((IntKind.i64.wrap ((IntKind.i64.wrap (q43.toNat : Int)) + m4)) - s48))))) then (Zh9 d1 s48 m4 (IntKind.i64.wrap ((IntKind.i64.wrap ((IntKind.i64.wrap (q43.toNat : Int)) + m4)) - s48)) x6).bind fun l59 => Zb1 a3 s48 q43 R_slices_symMergeCmpFunc_Action x6 m4 b5 l59 else Zb1 a3 s48 q43 R_slices_symMergeCmpFunc_Action x6 m4 b5 d1))
def Zfy (d1 : (List Action)) (q43 : (BitVec 64)) (m4 : Int) (x6 : (Action → Action → Option Int)) (a3 : Int) (R_slices_symMergeCmpFunc_Action : ((List Action) → Int → Int → Int → (Action → Action → Option Int) → Option (List Action))) (b5 : Int) (s44 : Int) (x45 : Int) : Option (List Action) :=
 Zc5 d1 q43 m4 x6 a3 R_slices_symMergeCmpFunc_Action b5 (((x45 : Int) - s44).toNat + 1) s44 x45
def Zkv (R_slices_symMergeCmpFunc_Action : ((List Action) → Int → Int → Int → (Action → Action → Option Int) → Option (List Action))) (d1 : (List Action)) (a3 : Int) (m4 : Int) (b5 : Int) (x6 : (Action → Action → Option Int)) : Option (List Action) :=
 (bif (decide ((IntKind.i64.wrap (m4 - a3)) = 1)) then Z98 d1 a3 x6 (((b5 : Int) - m4).toNat + 1) m4 b5 else (bif (decide ((IntKind.i64.wrap (b5 - m4)) = 1)) then Z9w d1 m4 x6 (((m4 : Int) - a3).toNat + 1) a3 m4 else (Z3a (BitVec.ofInt 64 (IntKind.i64.wrap (a3 + b5))) ((1 : BitVec 64).toNat : Int)).bind fun q43 => (bif (decide (m4 > (IntKind.i64.wrap (q43.toNat : Int)))) then Zfy d1 q43 m4 x6 a3 R_slices_symMergeCmpFunc_Action b5 (IntKind.i64.wrap ((IntKind.i64.wrap ((IntKind.i64.wrap (q43.toNat : Int)) + m4)) - b5)) (IntKind.i64.wrap (q43.toNat : Int)) else Zfy d1 q43 m4 x6 a3 R_slices_symMergeCmpFunc_Action b5 a3 m4)))
theorem Yiz (R_slices_symMergeCmpFunc_Action : ((List Action) → Int → Int → Int → (Action → Action → Option Int) → Option (List Action))) (hR_slices_symMergeCmpFunc_Action : ∀ (v2 : Value) (d1 : (List Action)) (a3 : Int) (m4 : Int) (b5 : Int) (x6 : (Action → Action → Option Int)) (r : (List Action)), R_slices_symMergeCmpFunc_Action d1 a3 m4 b5 x6 = some r → Con Tryz.prog 311 [Zo v2, rd (Z0 .i64) a3, rd (Z0 .i64) m4, rd (Z0 .i64) b5, fn2 Tryz.prog Z9 Z9 (Z0 .i64) x6] (Zb v2 121 Z9 d1) (fun _ : Unit => top) (fun _ => Zb v2 121 Z9 r)) (v2 : Value) (d1 : (List Action)) (a3 : Int) (m4 : Int) (b5 : Int) (x6 : (Action → Action → Option Int)) (r : (List Action)) (h : Zkv R_slices_symMergeCmpFunc_Action d1 a3 m4 b5 x6 = some r) : Con Tryz.prog 311 [Zo v2, rd (Z0 .i64) a3, rd (Z0 .i64) m4, rd (Z0 .i64) b5, fn2 Tryz.prog Z9 Z9 (Z0 .i64) x6] (Zb v2 121 Z9 d1) (fun _ : Unit => top) (fun _ => Zb v2 121 Z9 r) := by
 refine Con.intro Tryz.func311 rfl Tryz.ntmps311 rfl fun w H X => ?_
 unfold Zkv at h
 refine sq <| SR <| Md rfl <| Md rfl <| Ac (Z0v rfl rfl (vt rfl) (vt rfl)) rfl <| Ac (Z1r rfl rfl (vt rfl) (vk rfl)) rfl <| Nl <| Cq rfl h (fun h => ?_) (fun h => ?_)
 ·refine SR <| Md rfl <| As rfl <| Nl <| SR <| Md rfl <| As rfl <| Nl <| sq <| bk <| LG (d := []) (ν := Nat × Int × Int) (fun (m11, i9, j10) => (True ∧ Z98 d1 a3 x6 m11 i9 j10 = some r, m11, [(0, Zo v2), (1, rd (Z0 .i64) a3), (4, fn2 Tryz.prog Z9 Z9 (Z0 .i64) x6), (10, rd (Z0 .i64) i9), (11, rd (Z0 .i64) j10)], [(0, Zb v2 121 Z9 d1)])) ((((b5 : Int) - m4).toNat + 1), m4, b5) ⟨trivial, h⟩ (FX rfl) ?_
  rintro ⟨m11, i9, j10⟩ ⟨hsf1, h⟩
  dsimp only at h ⊢
  cases m11 with
  | zero => cases h
  | succ m11 =>
   unfold Z98 at h
   refine sq <| SR <| Md rfl <| Md rfl <| Ac (Zi rfl rfl (vt rfl) (vt rfl)) rfl <| Nl <| Cq rfl h (fun h => ?_) (fun h => ?_)
   ·refine sk <| bk <| sq ?_
    obtain ⟨q12, hq12, h⟩ := Z8 h
    refine Rg <| Md rfl <| Md rfl <| Ac (Z0o rfl rfl (vt rfl) (vt rfl)) rfl <| Ac (Z8n rfl rfl us3 Zau (vt rfl)) rfl <| Ac (Z67 rfl rfl (vt rfl) (Z65 (vku (1 : BitVec 64) rfl)) hq12) rfl <| Ac (Z9y rfl rfl Zar un3 (vt rfl)) rfl <| As rfl <| Nl <| sq ?_
    obtain ⟨x13, hx13, x14, hx14, x15, hx15, h⟩ := bs3 h
    refine AR Zw (by kernel_rfl) <| Sd (lo [4] [] rfl fun S hs hr => Zp (A := fn2 Tryz.prog Z9 Z9 (Z0 .i64) x6) rfl rfl (vh hs 4 rfl rfl)) <| SMw rfl <| SMd rfl <| Sd (lo [41, 42] [0] rfl fun S hs hr => Z2n 0 rfl rfl Z13 (vh hs 41 rfl rfl) ((hr 0 rfl).trans rfl) (vh hs 42 rfl rfl) hx13) <| Sd (lo [43] [0] rfl fun S hs hr => Z1v 0 rfl rfl Z12 (vh hs 43 rfl rfl) ((hr 0 rfl).trans rfl) (Z0n hx13).2) <| SMw rfl <| SMd rfl <| Sd (lo [45, 46] [0] rfl fun S hs hr => Z2n 0 rfl rfl Z13 (vh hs 45 rfl rfl) ((hr 0 rfl).trans rfl) (vh hs 46 rfl rfl) hx14) <| Sd (lo [47] [0] rfl fun S hs hr => Z1v 0 rfl rfl Z12 (vh hs 47 rfl rfl) ((hr 0 rfl).trans rfl) (Z0n hx14).2) <| Sd (lo [40, 44, 48] [] rfl fun S hs hr => Zc3 hx15 rfl rfl (vh hs 40 rfl rfl) (vh hs 44 rfl rfl) (vh hs 48 rfl rfl)) <| Sd (lo [49] [] rfl fun S hs hr => Zi rfl rfl (vh hs 49 rfl rfl) (vk rfl)) <| Sn <| Cq rfl h (fun h => ?_) (fun h => ?_)
    ·refine Rg <| Md rfl <| Ac (Z0o rfl rfl (vt rfl) (vk rfl)) rfl <| As rfl <| Nl ?_
     exact ⟨(_, _, _), Nat.lt_succ_self _, ⟨trivial, h⟩, FX rfl⟩
    ·refine Rg <| Md rfl <| As rfl <| Nl ?_
     exact ⟨(_, _, _), Nat.lt_succ_self _, ⟨trivial, h⟩, FX rfl⟩
   ·refine xt <| sq <| SR <| Md rfl <| As rfl <| Nl <| bk <| LG (d := []) (ν := Nat × (List Action) × Int) (fun (m20, l18, k19) => (True ∧ Z9b i9 m20 l18 k19 = some r, m20, [(0, Zo v2), (10, rd (Z0 .i64) i9), (13, rd (Z0 .i64) k19)], [(0, Zb v2 121 Z9 l18)])) (((((IntKind.i64.wrap (i9 - 1)) : Int) - a3).toNat + 1), d1, a3) ⟨trivial, h⟩ (FX rfl) ?_
    rintro ⟨m20, l18, k19⟩ ⟨hsf2, h⟩
    dsimp only at h ⊢
    cases m20 with
    | zero => cases h
    | succ m20 =>
     unfold Z9b at h
     refine sq <| SR <| Md rfl <| Md rfl <| Ac (Z0v rfl rfl (vt rfl) (vk rfl)) rfl <| Ac (Zi rfl rfl (vt rfl) (vt rfl)) rfl <| Nl <| Cq rfl h (fun h => ?_) (fun h => ?_)
     ·refine sk <| sq <| bk <| AW.vlen 0 rfl fun hvl0_205 => ?_
      obtain ⟨x21, hx21, x22, hx22, x23, hx23, x24, hx24, h⟩ := bs4 h
      refine AR Zw (by kernel_rfl) <| SMw rfl <| SMd rfl <| SMw rfl <| SMd rfl <| Sd (lo [64] [] rfl fun S hs hr => Z0o rfl rfl (vh hs 64 rfl rfl) (vk rfl)) <| SMw rfl <| SMd rfl <| Sd (lo [67] [] rfl fun S hs hr => Z0o rfl rfl (vh hs 67 rfl rfl) (vk rfl)) <| Sd (lo [66, 68] [] rfl fun S hs hr => Z24 (l := l18) hvl0_205 rfl rfl rfl Z13 (vh hs 66 rfl rfl) (vh hs 68 rfl rfl) hx21) <| Sd (lo [69] [0] rfl fun S hs hr => Z1v 0 rfl rfl Z12 (vh hs 69 rfl rfl) ((hr 0 rfl).trans rfl) (Z0n hx21).2) <| SMw rfl <| SMd rfl <| Sd (lo [71, 72] [] rfl fun S hs hr => Z24 (l := l18) hvl0_205 rfl rfl rfl Z13 (vh hs 71 rfl rfl) (vh hs 72 rfl rfl) hx22) <| Sd (lo [73] [0] rfl fun S hs hr => Z1v 0 rfl rfl Z12 (vh hs 73 rfl rfl) ((hr 0 rfl).trans rfl) (Z0n hx22).2) <| Sd (lo [61, 62] [] rfl fun S hs hr => Z24 (l := l18) hvl0_205 rfl rfl rfl Z13 (vh hs 61 rfl rfl) (vh hs 62 rfl rfl) hx23) <| Sd (Z45 [75, 70] [0] rfl fun S hs hr => Z3w 0 rfl rfl Z12 (vh hs 75 rfl rfl) ((hr 0 rfl).trans rfl) (Z0n hx23).2 (vh hs 70 rfl rfl)) <| Sd (lo [63, 65] [] rfl fun S hs hr => Z24 (l := (List.set l18 k19.toNat x21)) hvl0_205 (by simp) rfl rfl Z13 (vh hs 63 rfl rfl) (vh hs 65 rfl rfl) hx24) <| Sd (Z45 [76, 74] [0] rfl fun S hs hr => Z3w 0 rfl rfl Z12 (vh hs 76 rfl rfl) ((hr 0 rfl).trans rfl) (Z0n hx24).2 (vh hs 74 rfl rfl)) <| Sn <| Rg <| Md rfl <| Ac (Z0o rfl rfl (vt rfl) (vk rfl)) rfl <| As rfl <| Nl ?_
      exact ⟨(_, _, _), Nat.lt_succ_self _, ⟨trivial, h⟩, FX rfl⟩
     ·refine xt <| rt ?_
      cases h; exact Z1k (i := 0) Tryz.results311 rfl rfl
 ·refine sk <| sq <| SR <| Md rfl <| Md rfl <| Ac (Z0v rfl rfl (vt rfl) (vt rfl)) rfl <| Ac (Z1r rfl rfl (vt rfl) (vk rfl)) rfl <| Nl <| Cq rfl h (fun h => ?_) (fun h => ?_)
  ·refine SR <| Md rfl <| As rfl <| Nl <| SR <| Md rfl <| As rfl <| Nl <| sq <| bk <| LG (d := []) (ν := Nat × Int × Int) (fun (m29, i27, j28) => (True ∧ Z9w d1 m4 x6 m29 i27 j28 = some r, m29, [(0, Zo v2), (2, rd (Z0 .i64) m4), (4, fn2 Tryz.prog Z9 Z9 (Z0 .i64) x6), (14, rd (Z0 .i64) i27), (15, rd (Z0 .i64) j28)], [(0, Zb v2 121 Z9 d1)])) ((((m4 : Int) - a3).toNat + 1), a3, m4) ⟨trivial, h⟩ (FX rfl) ?_
   rintro ⟨m29, i27, j28⟩ ⟨hsf3, h⟩
   dsimp only at h ⊢
   cases m29 with
   | zero => cases h
   | succ m29 =>
    unfold Z9w at h
    refine sq <| SR <| Md rfl <| Md rfl <| Ac (Zi rfl rfl (vt rfl) (vt rfl)) rfl <| Nl <| Cq rfl h (fun h => ?_) (fun h => ?_)
    ·refine sk <| bk <| sq ?_
     obtain ⟨q30, hq30, h⟩ := Z8 h
     refine Rg <| Md rfl <| Md rfl <| Ac (Z0o rfl rfl (vt rfl) (vt rfl)) rfl <| Ac (Z8n rfl rfl us3 Zau (vt rfl)) rfl <| Ac (Z67 rfl rfl (vt rfl) (Z65 (vku (1 : BitVec 64) rfl)) hq30) rfl <| Ac (Z9y rfl rfl Zar un3 (vt rfl)) rfl <| As rfl <| Nl <| sq ?_
     obtain ⟨x31, hx31, x32, hx32, x33, hx33, h⟩ := bs3 h
     refine AR Zw (by kernel_rfl) <| Sd (lo [4] [] rfl fun S hs hr => Zp (A := fn2 Tryz.prog Z9 Z9 (Z0 .i64) x6) rfl rfl (vh hs 4 rfl rfl)) <| SMw rfl <| SMd rfl <| Sd (lo [93, 94] [0] rfl fun S hs hr => Z2n 0 rfl rfl Z13 (vh hs 93 rfl rfl) ((hr 0 rfl).trans rfl) (vh hs 94 rfl rfl) hx31) <| Sd (lo [95] [0] rfl fun S hs hr => Z1v 0 rfl rfl Z12 (vh hs 95 rfl rfl) ((hr 0 rfl).trans rfl) (Z0n hx31).2) <| SMw rfl <| SMd rfl <| Sd (lo [97, 98] [0] rfl fun S hs hr => Z2n 0 rfl rfl Z13 (vh hs 97 rfl rfl) ((hr 0 rfl).trans rfl) (vh hs 98 rfl rfl) hx32) <| Sd (lo [99] [0] rfl fun S hs hr => Z1v 0 rfl rfl Z12 (vh hs 99 rfl rfl) ((hr 0 rfl).trans rfl) (Z0n hx32).2) <| Sd (lo [92, 96, 100] [] rfl fun S hs hr => Zc3 hx33 rfl rfl (vh hs 92 rfl rfl) (vh hs 96 rfl rfl) (vh hs 100 rfl rfl)) <| Sd (lo [101] [] rfl fun S hs hr => Zi rfl rfl (vh hs 101 rfl rfl) (vk rfl)) <| Sd (lo [102] [] rfl fun S hs hr => Z0z rfl rfl (vh hs 102 rfl rfl)) <| Sn <| Cq rfl h (fun h => ?_) (fun h => ?_)
     ·refine Rg <| Md rfl <| Ac (Z0o rfl rfl (vt rfl) (vk rfl)) rfl <| As rfl <| Nl ?_
      exact ⟨(_, _, _), Nat.lt_succ_self _, ⟨trivial, h⟩, FX rfl⟩
     ·refine Rg <| Md rfl <| As rfl <| Nl ?_
      exact ⟨(_, _, _), Nat.lt_succ_self _, ⟨trivial, h⟩, FX rfl⟩
    ·refine xt <| sq <| SR <| Md rfl <| As rfl <| Nl <| bk <| LG (d := []) (ν := Nat × (List Action) × Int) (fun (m38, l36, k37) => (True ∧ Z9u i27 m38 l36 k37 = some r, m38, [(0, Zo v2), (14, rd (Z0 .i64) i27), (17, rd (Z0 .i64) k37)], [(0, Zb v2 121 Z9 l36)])) ((((m4 : Int) - i27).toNat + 1), d1, m4) ⟨trivial, h⟩ (FX rfl) ?_
     rintro ⟨m38, l36, k37⟩ ⟨hsf4, h⟩
     dsimp only at h ⊢
     cases m38 with
     | zero => cases h
     | succ m38 =>
      unfold Z9u at h
      refine sq <| SR <| Md rfl <| Md rfl <| Ac (Z3i rfl rfl (vt rfl) (vt rfl)) rfl <| Nl <| Cq rfl h (fun h => ?_) (fun h => ?_)
      ·refine sk <| sq <| bk <| AW.vlen 0 rfl fun hvl0_446 => ?_
       obtain ⟨x39, hx39, x40, hx40, x41, hx41, x42, hx42, h⟩ := bs4 h
       refine AR Zw (by kernel_rfl) <| SMw rfl <| SMd rfl <| SMw rfl <| SMd rfl <| Sd (lo [116] [] rfl fun S hs hr => Z0v rfl rfl (vh hs 116 rfl rfl) (vk rfl)) <| SMw rfl <| SMd rfl <| Sd (lo [119] [] rfl fun S hs hr => Z0v rfl rfl (vh hs 119 rfl rfl) (vk rfl)) <| Sd (lo [118, 120] [] rfl fun S hs hr => Z24 (l := l36) hvl0_446 rfl rfl rfl Z13 (vh hs 118 rfl rfl) (vh hs 120 rfl rfl) hx39) <| Sd (lo [121] [0] rfl fun S hs hr => Z1v 0 rfl rfl Z12 (vh hs 121 rfl rfl) ((hr 0 rfl).trans rfl) (Z0n hx39).2) <| SMw rfl <| SMd rfl <| Sd (lo [123, 124] [] rfl fun S hs hr => Z24 (l := l36) hvl0_446 rfl rfl rfl Z13 (vh hs 123 rfl rfl) (vh hs 124 rfl rfl) hx40) <| Sd (lo [125] [0] rfl fun S hs hr => Z1v 0 rfl rfl Z12 (vh hs 125 rfl rfl) ((hr 0 rfl).trans rfl) (Z0n hx40).2) <| Sd (lo [113, 114] [] rfl fun S hs hr => Z24 (l := l36) hvl0_446 rfl rfl rfl Z13 (vh hs 113 rfl rfl) (vh hs 114 rfl rfl) hx41) <| Sd (Z45 [127, 122] [0] rfl fun S hs hr => Z3w 0 rfl rfl Z12 (vh hs 127 rfl rfl) ((hr 0 rfl).trans rfl) (Z0n hx41).2 (vh hs 122 rfl rfl)) <| Sd (lo [115, 117] [] rfl fun S hs hr => Z24 (l := (List.set l36 k37.toNat x39)) hvl0_446 (by simp) rfl rfl Z13 (vh hs 115 rfl rfl) (vh hs 117 rfl rfl) hx42) <| Sd (Z45 [128, 126] [0] rfl fun S hs hr => Z3w 0 rfl rfl Z12 (vh hs 128 rfl rfl) ((hr 0 rfl).trans rfl) (Z0n hx42).2 (vh hs 126 rfl rfl)) <| Sn <| Rg <| Md rfl <| Ac (Z0v rfl rfl (vt rfl) (vk rfl)) rfl <| As rfl <| Nl ?_
       exact ⟨(_, _, _), Nat.lt_succ_self _, ⟨trivial, h⟩, FX rfl⟩
      ·refine xt <| rt ?_
       cases h; exact Z1k (i := 0) Tryz.results311 rfl rfl
  ·refine sk <| sq ?_
   obtain ⟨q43, hq43, h⟩ := Z8 h
   refine Rg <| Md rfl <| Md rfl <| Ac (Z0o rfl rfl (vt rfl) (vt rfl)) rfl <| Ac (Z8n rfl rfl us3 Zau (vt rfl)) rfl <| Ac (Z67 rfl rfl (vt rfl) (Z65 (vku (1 : BitVec 64) rfl)) hq43) rfl <| Ac (Z9y rfl rfl Zar un3 (vt rfl)) rfl <| As rfl <| Nl <| SR <| Md rfl <| Md rfl <| Ac (Z0o rfl rfl (vt rfl) (vt rfl)) rfl <| As rfl <| Nl <| SR <| Ak rfl <| Ak rfl <| Nl ?_
   refine JN (d := []) (ν := Int × Int) (fun (s44, x45) => (Zfy d1 q43 m4 x6 a3 R_slices_symMergeCmpFunc_Action b5 s44 x45 = some r, [(0, Zo v2), (1, rd (Z0 .i64) a3), (2, rd (Z0 .i64) m4), (3, rd (Z0 .i64) b5), (4, fn2 Tryz.prog Z9 Z9 (Z0 .i64) x6), (18, rd (Z0 .i64) (IntKind.i64.wrap (q43.toNat : Int))), (19, rd (Z0 .i64) (IntKind.i64.wrap ((IntKind.i64.wrap (q43.toNat : Int)) + m4))), (20, rd (Z0 .i64) s44), (21, rd (Z0 .i64) x45)], [(0, Zb v2 121 Z9 d1)])) ?hx5 ?hy5
   case hy5 =>
    rintro ⟨s44, x45⟩ h
    dsimp only at h ⊢
    unfold Zfy at h
    refine SR <| Md rfl <| Ac (Z0v rfl rfl (vt rfl) (vk rfl)) rfl <| As rfl <| Nl <| sq <| bk <| LG (d := []) (ν := Nat × Int × Int) (fun (m50, s48, x49) => (True ∧ Zc5 d1 q43 m4 x6 a3 R_slices_symMergeCmpFunc_Action b5 m50 s48 x49 = some r, m50, [(0, Zo v2), (1, rd (Z0 .i64) a3), (2, rd (Z0 .i64) m4), (3, rd (Z0 .i64) b5), (4, fn2 Tryz.prog Z9 Z9 (Z0 .i64) x6), (18, rd (Z0 .i64) (IntKind.i64.wrap (q43.toNat : Int))), (19, rd (Z0 .i64) (IntKind.i64.wrap ((IntKind.i64.wrap (q43.toNat : Int)) + m4))), (20, rd (Z0 .i64) s48), (21, rd (Z0 .i64) x49), (22, rd (Z0 .i64) (IntKind.i64.wrap ((IntKind.i64.wrap ((IntKind.i64.wrap (q43.toNat : Int)) + m4)) - 1)))], [(0, Zb v2 121 Z9 d1)])) ((((x45 : Int) - s44).toNat + 1), s44, x45) ⟨trivial, h⟩ (FX rfl) ?_
    rintro ⟨m50, s48, x49⟩ ⟨hsf6, h⟩
    dsimp only at h ⊢
    cases m50 with
    | zero => cases h
    | succ m50 =>
     unfold Zc5 at h
     refine sq <| SR <| Md rfl <| Md rfl <| Ac (Zi rfl rfl (vt rfl) (vt rfl)) rfl <| Nl <| Cq rfl h (fun h => ?_) (fun h => ?_)
     ·refine sk <| bk <| sq ?_
      obtain ⟨q51, hq51, h⟩ := Z8 h
      refine Rg <| Md rfl <| Md rfl <| Ac (Z0o rfl rfl (vt rfl) (vt rfl)) rfl <| Ac (Z8n rfl rfl us3 Zau (vt rfl)) rfl <| Ac (Z67 rfl rfl (vt rfl) (Z65 (vku (1 : BitVec 64) rfl)) hq51) rfl <| Ac (Z9y rfl rfl Zar un3 (vt rfl)) rfl <| As rfl <| Nl <| sq ?_
      obtain ⟨x52, hx52, x53, hx53, x54, hx54, h⟩ := bs3 h
      refine AR Zw (by kernel_rfl) <| Sd (lo [4] [] rfl fun S hs hr => Zp (A := fn2 Tryz.prog Z9 Z9 (Z0 .i64) x6) rfl rfl (vh hs 4 rfl rfl)) <| SMw rfl <| SMd rfl <| SMd rfl <| Sd (lo [160, 161] [] rfl fun S hs hr => Z0v rfl rfl (vh hs 160 rfl rfl) (vh hs 161 rfl rfl)) <| Sd (lo [159, 162] [0] rfl fun S hs hr => Z2n 0 rfl rfl Z13 (vh hs 159 rfl rfl) ((hr 0 rfl).trans rfl) (vh hs 162 rfl rfl) hx52) <| Sd (lo [163] [0] rfl fun S hs hr => Z1v 0 rfl rfl Z12 (vh hs 163 rfl rfl) ((hr 0 rfl).trans rfl) (Z0n hx52).2) <| SMw rfl <| SMd rfl <| Sd (lo [165, 166] [0] rfl fun S hs hr => Z2n 0 rfl rfl Z13 (vh hs 165 rfl rfl) ((hr 0 rfl).trans rfl) (vh hs 166 rfl rfl) hx53) <| Sd (lo [167] [0] rfl fun S hs hr => Z1v 0 rfl rfl Z12 (vh hs 167 rfl rfl) ((hr 0 rfl).trans rfl) (Z0n hx53).2) <| Sd (lo [158, 164, 168] [] rfl fun S hs hr => Zc3 hx54 rfl rfl (vh hs 158 rfl rfl) (vh hs 164 rfl rfl) (vh hs 168 rfl rfl)) <| Sd (lo [169] [] rfl fun S hs hr => Zi rfl rfl (vh hs 169 rfl rfl) (vk rfl)) <| Sd (lo [170] [] rfl fun S hs hr => Z0z rfl rfl (vh hs 170 rfl rfl)) <| Sn <| Cq rfl h (fun h => ?_) (fun h => ?_)
      ·refine Rg <| Md rfl <| Ac (Z0o rfl rfl (vt rfl) (vk rfl)) rfl <| As rfl <| Nl ?_
       exact ⟨(_, _, _), Nat.lt_succ_self _, ⟨trivial, h⟩, FX rfl⟩
      ·refine Rg <| Md rfl <| As rfl <| Nl ?_
       exact ⟨(_, _, _), Nat.lt_succ_self _, ⟨trivial, h⟩, FX rfl⟩
     ·refine xt <| SR <| Md rfl <| Md rfl <| Ac (Z0v rfl rfl (vt rfl) (vt rfl)) rfl <| As rfl <| Nl ?_
      refine JN (d := []) (ν := (List Action)) (fun l55 => (Zb1 a3 s48 q43 R_slices_symMergeCmpFunc_Action x6 m4 b5 l55 = some r, [(0, Zo v2), (1, rd (Z0 .i64) a3), (3, rd (Z0 .i64) b5), (4, fn2 Tryz.prog Z9 Z9 (Z0 .i64) x6), (18, rd (Z0 .i64) (IntKind.i64.wrap (q43.toNat : Int))), (20, rd (Z0 .i64) s48), (24, rd (Z0 .i64) (IntKind.i64.wrap ((IntKind.i64.wrap ((IntKind.i64.wrap (q43.toNat : Int)) + m4)) - s48)))], [(0, Zb v2 121 Z9 l55)])) ?hx7 ?hy7
      case hy7 =>
       intro l55 h
       dsimp only at h ⊢
       unfold Zb1 at h
       refine JN (d := []) (ν := (List Action)) (fun l56 => (Zhh q43 m4 s48 b5 R_slices_symMergeCmpFunc_Action x6 l56 = some r, [(0, Zo v2), (3, rd (Z0 .i64) b5), (4, fn2 Tryz.prog Z9 Z9 (Z0 .i64) x6), (18, rd (Z0 .i64) (IntKind.i64.wrap (q43.toNat : Int))), (24, rd (Z0 .i64) (IntKind.i64.wrap ((IntKind.i64.wrap ((IntKind.i64.wrap (q43.toNat : Int)) + m4)) - s48)))], [(0, Zb v2 121 Z9 l56)])) ?hx8 ?hy8
       case hy8 =>
        intro l56 h
        dsimp only at h ⊢
        unfold Zhh at h
        refine SR <| Md rfl <| Md rfl <| Ac (Zi rfl rfl (vt rfl) (vt rfl)) rfl <| Md rfl <| Gd rfl (fun hq => Zp (A := rd (Z0 .i64) (IntKind.i64.wrap ((IntKind.i64.wrap ((IntKind.i64.wrap (q43.toNat : Int)) + m4)) - s48))) rfl rfl (vt rfl)) <| Gd rfl (fun hq => Zp (A := rd (Z0 .i64) b5) rfl rfl (vt rfl)) <| Gd rfl (fun hq => Zi rfl rfl (Zg rfl hq) (Zg rfl hq)) <| Ac (Z21 rfl rfl (vt rfl) (vt rfl)) rfl <| Nl <| Cq rfl h (fun h => ?_) (fun h => ?_)
        ·obtain ⟨l57, hl57, h⟩ := Z8 h
         refine Rg <| Mw rfl <| Md rfl <| Md rfl <| Md rfl <| Ac (Zp (A := fn2 Tryz.prog Z9 Z9 (Z0 .i64) x6) rfl rfl (vt rfl)) rfl <| Cv rfl (Z10 0 (xs := [.tmp 214, .tmp 215, .tmp 216, .tmp 217, .tmp 218]) (hR_slices_symMergeCmpFunc_Action _ _ _ _ _ _ _ hl57) Zna rfl rfl ⟨vt rfl, vt rfl, vt rfl, vt rfl, vt rfl, trivial⟩ rfl) fun _u => Nl ?_
         cases h; exact Z1k (i := 0) Tryz.results311 rfl rfl
        ·refine sk ?_
         cases h; exact Z1k (i := 0) Tryz.results311 rfl rfl
       case hx8 =>
        refine SR <| Md rfl <| Md rfl <| Ac (Zi rfl rfl (vt rfl) (vt rfl)) rfl <| Md rfl <| Gd rfl (fun hq => Zp (A := rd (Z0 .i64) s48) rfl rfl (vt rfl)) <| Gd rfl (fun hq => Zp (A := rd (Z0 .i64) (IntKind.i64.wrap (q43.toNat : Int))) rfl rfl (vt rfl)) <| Gd rfl (fun hq => Zi rfl rfl (Zg rfl hq) (Zg rfl hq)) <| Ac (Z21 rfl rfl (vt rfl) (vt rfl)) rfl <| Nl <| Cq rfl h (fun h => ?_) (fun h => ?_)
        ·obtain ⟨l58, hl58, h⟩ := Z8 h
         refine Rg <| Mw rfl <| Md rfl <| Md rfl <| Md rfl <| Ac (Zp (A := fn2 Tryz.prog Z9 Z9 (Z0 .i64) x6) rfl rfl (vt rfl)) rfl <| Cv rfl (Z10 0 (xs := [.tmp 200, .tmp 201, .tmp 202, .tmp 203, .tmp 204]) (hR_slices_symMergeCmpFunc_Action _ _ _ _ _ _ _ hl58) Zna rfl rfl ⟨vt rfl, vt rfl, vt rfl, vt rfl, vt rfl, trivial⟩ rfl) fun _u => Nl ?_
         exact ⟨_, h, FX rfl⟩
        ·refine sk ?_
         exact ⟨_, h, FX rfl⟩
      case hx7 =>
       refine SR <| Md rfl <| Md rfl <| Ac (Zi rfl rfl (vt rfl) (vt rfl)) rfl <| Md rfl <| Gd rfl (fun hq => Zp (A := rd (Z0 .i64) m4) rfl rfl (vt rfl)) <| Gd rfl (fun hq => Zp (A := rd (Z0 .i64) (IntKind.i64.wrap ((IntKind.i64.wrap ((IntKind.i64.wrap (q43.toNat : Int)) + m4)) - s48))) rfl rfl (vt rfl)) <| Gd rfl (fun hq => Zi rfl rfl (Zg rfl hq) (Zg rfl hq)) <| Ac (Z21 rfl rfl (vt rfl) (vt rfl)) rfl <| Nl <| Cq rfl h (fun h => ?_) (fun h => ?_)
       ·obtain ⟨l59, hl59, h⟩ := Z8 h
        refine Rg <| Mw rfl <| Md rfl <| Md rfl <| Md rfl <| Ac (Zp (A := fn2 Tryz.prog Z9 Z9 (Z0 .i64) x6) rfl rfl (vt rfl)) rfl <| Cv rfl (Z10 0 (xs := [.tmp 186, .tmp 187, .tmp 188, .tmp 189, .tmp 190]) (Y9g _ _ _ _ _ _ _ hl59) Ygg rfl rfl ⟨vt rfl, vt rfl, vt rfl, vt rfl, vt rfl, trivial⟩ rfl) fun _u => Nl ?_
        exact ⟨_, h, FX rfl⟩
       ·refine sk ?_
        exact ⟨_, h, FX rfl⟩
   case hx5 =>
    refine SR <| Md rfl <| Md rfl <| Ac (Z3i rfl rfl (vt rfl) (vt rfl)) rfl <| Nl <| Cq rfl h (fun h => ?_) (fun h => ?_)
    ·refine SR <| Md rfl <| Md rfl <| Ac (Z0v rfl rfl (vt rfl) (vt rfl)) rfl <| As rfl <| Nl <| Rg <| Md rfl <| As rfl <| Nl ?_
     exact ⟨(_, _), h, FX rfl⟩
    ·refine SR <| Md rfl <| As rfl <| Nl <| Rg <| Md rfl <| As rfl <| Nl ?_
     exact ⟨(_, _), h, FX rfl⟩
def Zf7 : Nat → ((List Action) → Int → Int → Int → (Action → Action → Option Int) → Option (List Action))
 | 0 => (fun _ _ _ _ _ => none)
 | n + 1 => (Zkv (Zf7 n))
theorem Zwb : ∀ n : Nat, (∀ (v2 : Value) (d1 : (List Action)) (a3 : Int) (m4 : Int) (b5 : Int) (x6 : (Action → Action → Option Int)) (r : (List Action)), (Zf7 n) d1 a3 m4 b5 x6 = some r → Con Tryz.prog 311 [Zo v2, rd (Z0 .i64) a3, rd (Z0 .i64) m4, rd (Z0 .i64) b5, fn2 Tryz.prog Z9 Z9 (Z0 .i64) x6] (Zb v2 121 Z9 d1) (fun _ : Unit => top) (fun _ => Zb v2 121 Z9 r))
 | 0 => (by intros; rename_i h; cases h)
 | n + 1 => by
  have ih := Zwb n
  exact (Yiz (Zf7 n) ih)
def Zpi (d1 : (List Action)) (a3 : Int) (m4 : Int) (b5 : Int) (x6 : (Action → Action → Option Int)) : Option (List Action) := (Zf7 Z0l) d1 a3 m4 b5 x6
theorem Zw6 : ∀ (v2 : Value) (d1 : (List Action)) (a3 : Int) (m4 : Int) (b5 : Int) (x6 : (Action → Action → Option Int)) (r : (List Action)), Zpi d1 a3 m4 b5 x6 = some r → Con Tryz.prog 311 [Zo v2, rd (Z0 .i64) a3, rd (Z0 .i64) m4, rd (Z0 .i64) b5, fn2 Tryz.prog Z9 Z9 (Z0 .i64) x6] (Zb v2 121 Z9 d1) (fun _ : Unit => top) (fun _ => Zb v2 121 Z9 r) := Zwb Z0l
def Zh2 (n3 : Int) (b17 : Int) (x4 : (Action → Action → Option Int)) (go2 : (List Action) → Int → Option (List Action)) : Nat → (List Action) → Int → Int → Option (List Action)
 | 0, _, _, _ => none
 | m25 + 1, l22, a23, b24 => (bif (decide (b24 ≤ n3)) then (Zpi l22 a23 (IntKind.i64.wrap (a23 + b17)) b24 x4).bind fun l26 => (Zh2 n3 b17 x4 go2 m25) l26 b24 (IntKind.i64.wrap (b24 + (IntKind.i64.wrap (2 * b17)))) else (bif (decide ((IntKind.i64.wrap (a23 + b17)) < n3)) then (Zpi l22 a23 (IntKind.i64.wrap (a23 + b17)) n3 x4).bind fun l27 => go2 l27 (IntKind.i64.wrap (b17 * 2)) else go2 l22 (IntKind.i64.wrap (b17 * 2))))
def Z8w (n3 : Int) (x4 : (Action → Action → Option Int)) : Nat → (List Action) → Int → Option (List Action)
 | 0, _, _ => none
 | m18 + 1, l16, b17 => (bif (decide (b17 < n3)) then Zh2 n3 b17 x4 (Z8w n3 x4 m18) (((n3 : Int) - (IntKind.i64.wrap (2 * b17))).toNat + 2) l16 0 (IntKind.i64.wrap (2 * b17)) else some l16)
def Zdo (n3 : Int) (x4 : (Action → Action → Option Int)) : Nat → (List Action) → Int → Int → Option (List Action)
 | 0, _, _, _ => none
 | m11 + 1, l8, a9, b10 => (bif (decide (b10 ≤ n3)) then (Zc4 l8 a9 b10 x4).bind fun l12 => (Zdo n3 x4 m11) l12 b10 (IntKind.i64.wrap (b10 + 20)) else (Zc4 l8 a9 n3 x4).bind fun l13 => Z8w n3 x4 (((n3 : Int) - 20).toNat + 1) l13 20)
def Zkh (d1 : (List Action)) (n3 : Int) (x4 : (Action → Action → Option Int)) : Option (List Action) :=
 Zdo n3 x4 (((n3 : Int) - 20).toNat + 2) d1 0 20
theorem Yjs (v2 : Value) (d1 : (List Action)) (n3 : Int) (x4 : (Action → Action → Option Int)) (r : (List Action)) (h : Zkh d1 n3 x4 = some r) : Con Tryz.prog 274 [Zo v2, rd (Z0 .i64) n3, fn2 Tryz.prog Z9 Z9 (Z0 .i64) x4] (Zb v2 121 Z9 d1) (fun _ : Unit => top) (fun _ => Zb v2 121 Z9 r) := by
 refine Con.intro Tryz.func274 rfl Tryz.ntmps274 rfl fun w H X => ?_
 unfold Zkh at h
 refine SR <| Ak rfl <| Nl <| SR <| Md rfl <| Ak rfl <| As rfl <| Nl <| sq <| bk <| LG (d := []) (ν := Nat × (List Action) × Int × Int) (fun (m11, l8, a9, b10) => (True ∧ Zdo n3 x4 m11 l8 a9 b10 = some r, m11, [(0, Zo v2), (1, rd (Z0 .i64) n3), (2, fn2 Tryz.prog Z9 Z9 (Z0 .i64) x4), (6, rd (Z0 .i64) 20), (7, rd (Z0 .i64) a9), (8, rd (Z0 .i64) b10)], [(0, Zb v2 121 Z9 l8)])) ((((n3 : Int) - 20).toNat + 2), d1, 0, 20) ⟨trivial, h⟩ (FX rfl) ?_
 rintro ⟨m11, l8, a9, b10⟩ ⟨hsf1, h⟩
 dsimp only at h ⊢
 cases m11 with
 | zero => cases h
 | succ m11 =>
  unfold Zdo at h
  refine sq <| SR <| Md rfl <| Md rfl <| Ac (Z76 rfl rfl (vt rfl) (vt rfl)) rfl <| Nl <| Cq rfl h (fun h => ?_) (fun h => ?_)
  ·refine sk <| bk <| sq ?_
   obtain ⟨l12, hl12, h⟩ := Z8 h
   refine Rg <| Mw rfl <| Md rfl <| Md rfl <| Ac (Zp (A := fn2 Tryz.prog Z9 Z9 (Z0 .i64) x4) rfl rfl (vt rfl)) rfl <| Cv rfl (Z10 0 (xs := [.tmp 14, .tmp 15, .tmp 16, .tmp 17]) (Zvc _ _ _ _ _ _ hl12) Zyc rfl rfl ⟨vt rfl, vt rfl, vt rfl, vt rfl, trivial⟩ rfl) fun _u => Nl <| SR <| Md rfl <| As rfl <| Nl <| Rg <| Md rfl <| Md rfl <| Ac (Z0o rfl rfl (vt rfl) (vt rfl)) rfl <| As rfl <| Nl ?_
   exact ⟨(_, _, _, _), Nat.lt_succ_self _, ⟨trivial, h⟩, FX rfl⟩
  ·refine xt <| sq ?_
   obtain ⟨l13, hl13, h⟩ := Z8 h
   refine Rg <| Mw rfl <| Md rfl <| Md rfl <| Ac (Zp (A := fn2 Tryz.prog Z9 Z9 (Z0 .i64) x4) rfl rfl (vt rfl)) rfl <| Cv rfl (Z10 0 (xs := [.tmp 23, .tmp 24, .tmp 25, .tmp 26]) (Zvc _ _ _ _ _ _ hl13) Zyc rfl rfl ⟨vt rfl, vt rfl, vt rfl, vt rfl, trivial⟩ rfl) fun _u => Nl <| bk <| LG (d := []) (ν := Nat × (List Action) × Int) (fun (m18, l16, b17) => (True ∧ Z8w n3 x4 m18 l16 b17 = some r, m18, [(0, Zo v2), (1, rd (Z0 .i64) n3), (2, fn2 Tryz.prog Z9 Z9 (Z0 .i64) x4), (6, rd (Z0 .i64) b17)], [(0, Zb v2 121 Z9 l16)])) ((((n3 : Int) - 20).toNat + 1), l13, 20) ⟨trivial, h⟩ (FX rfl) ?_
   rintro ⟨m18, l16, b17⟩ ⟨hsf2, h⟩
   dsimp only at h ⊢
   cases m18 with
   | zero => cases h
   | succ m18 =>
    unfold Z8w at h
    refine sq <| SR <| Md rfl <| Md rfl <| Ac (Zi rfl rfl (vt rfl) (vt rfl)) rfl <| Nl <| Cq rfl h (fun h => ?_) (fun h => ?_)
    ·refine sk <| bk <| SR <| Md rfl <| Ac (Zaz rfl rfl (vk rfl) (vt rfl)) rfl <| Ak rfl <| As rfl <| Nl <| sq <| bk <| LG (d := []) (ν := Nat × (List Action) × Int × Int) (fun (m25, l22, a23, b24) => (True ∧ Zh2 n3 b17 x4 (Z8w n3 x4 m18) m25 l22 a23 b24 = some r, m25, [(0, Zo v2), (1, rd (Z0 .i64) n3), (2, fn2 Tryz.prog Z9 Z9 (Z0 .i64) x4), (6, rd (Z0 .i64) b17), (7, rd (Z0 .i64) a23), (8, rd (Z0 .i64) b24)], [(0, Zb v2 121 Z9 l22)])) ((((n3 : Int) - (IntKind.i64.wrap (2 * b17))).toNat + 2), l16, 0, (IntKind.i64.wrap (2 * b17))) ⟨trivial, h⟩ (FX rfl) ?_
     rintro ⟨m25, l22, a23, b24⟩ ⟨hsf3, h⟩
     dsimp only at h ⊢
     cases m25 with
     | zero => cases h
     | succ m25 =>
      unfold Zh2 at h
      refine sq <| SR <| Md rfl <| Md rfl <| Ac (Z76 rfl rfl (vt rfl) (vt rfl)) rfl <| Nl <| Cq rfl h (fun h => ?_) (fun h => ?_)
      ·refine sk <| bk <| sq ?_
       obtain ⟨l26, hl26, h⟩ := Z8 h
       refine Rg <| Mw rfl <| Md rfl <| Md rfl <| Md rfl <| Ac (Z0o rfl rfl (vt rfl) (vt rfl)) rfl <| Md rfl <| Ac (Zp (A := fn2 Tryz.prog Z9 Z9 (Z0 .i64) x4) rfl rfl (vt rfl)) rfl <| Cv rfl (Z10 0 (xs := [.tmp 36, .tmp 37, .tmp 40, .tmp 41, .tmp 42]) (Zw6 _ _ _ _ _ _ _ hl26) Zna rfl rfl ⟨vt rfl, vt rfl, vt rfl, vt rfl, vt rfl, trivial⟩ rfl) fun _u => Nl <| SR <| Md rfl <| As rfl <| Nl <| Rg <| Md rfl <| Md rfl <| Ac (Zaz rfl rfl (vk rfl) (vt rfl)) rfl <| Ac (Z0o rfl rfl (vt rfl) (vt rfl)) rfl <| As rfl <| Nl ?_
       exact ⟨(_, _, _, _), Nat.lt_succ_self _, ⟨trivial, h⟩, FX rfl⟩
      ·refine xt <| sq <| SR <| Md rfl <| Md rfl <| Ac (Z0o rfl rfl (vt rfl) (vt rfl)) rfl <| As rfl <| Nl <| SR <| Md rfl <| Md rfl <| Ac (Zi rfl rfl (vt rfl) (vt rfl)) rfl <| Nl <| Cq rfl h (fun h => ?_) (fun h => ?_)
       ·obtain ⟨l27, hl27, h⟩ := Z8 h
        refine Rg <| Mw rfl <| Md rfl <| Md rfl <| Md rfl <| Ac (Zp (A := fn2 Tryz.prog Z9 Z9 (Z0 .i64) x4) rfl rfl (vt rfl)) rfl <| Cv rfl (Z10 0 (xs := [.tmp 55, .tmp 56, .tmp 57, .tmp 58, .tmp 59]) (Zw6 _ _ _ _ _ _ _ hl27) Zna rfl rfl ⟨vt rfl, vt rfl, vt rfl, vt rfl, vt rfl, trivial⟩ rfl) fun _u => Nl <| Rg <| Md rfl <| Ac (Zaz rfl rfl (vt rfl) (vk rfl)) rfl <| As rfl <| Nl ?_
        exact ⟨(_, _, _), Nat.lt_succ_self _, ⟨trivial, h⟩, FX rfl⟩
       ·refine sk <| Rg <| Md rfl <| Ac (Zaz rfl rfl (vt rfl) (vk rfl)) rfl <| As rfl <| Nl ?_
        exact ⟨(_, _, _), Nat.lt_succ_self _, ⟨trivial, h⟩, FX rfl⟩
    ·refine xt ?_
     cases h; exact Z1k (i := 0) Tryz.results274 rfl rfl
def Zdj (x1 : (List Action)) (x3 : (Action → Action → Option Int)) : Option (List Action) :=
 (Zkh x1 (x1.length : Int) x3).bind fun l4 => some l4
theorem Ybj (v2 : Value) (x1 : (List Action)) (x3 : (Action → Action → Option Int)) (r : (List Action)) (h : Zdj x1 x3 = some r) : Con Tryz.prog 219 [Zo v2, fn2 Tryz.prog Z9 Z9 (Z0 .i64) x3] (Zb v2 121 Z9 x1) (fun _ : Unit => top) (fun _ => Zb v2 121 Z9 r) := by
 refine Con.intro Tryz.func219 rfl Tryz.ntmps219 rfl fun w H X => ?_
 unfold Zdj at h
 obtain ⟨l4, hl4, h⟩ := Z8 h
 refine Rg <| Mw rfl <| Mw rfl <| Ac (Z6o 0 rfl rfl Z13 (vt rfl) rfl) rfl <| Ac (Zp (A := fn2 Tryz.prog Z9 Z9 (Z0 .i64) x3) rfl rfl (vt rfl)) rfl <| Cv rfl (Z10 0 (xs := [.tmp 4, .tmp 6, .tmp 7]) (Yjs _ _ _ _ _ hl4) Ybu rfl rfl ⟨vt rfl, vt rfl, vt rfl, trivial⟩ rfl) fun _u => Nl ?_
 cases h; exact Z1k (i := 0) Tryz.results219 rfl rfl
def Z8k (a1 : Action) (b2 : Action) : Option Int :=
 (Zbp a1).bind fun x5 => (Zbp b2).bind fun x6 => (Zda x5.kind).bind fun x9 => (Zda x6.kind).bind fun x10 => (bif (decide ((IntKind.i64.wrap (x9 - x10)) ≠ 0)) then some (IntKind.i64.wrap (x9 - x10)) else (bif (decide (x5.field < x6.field)) then some (-1) else (bif (decide (x5.field > x6.field)) then some 1 else some 0)))
theorem Yj0 : Q2 Tryz.prog 220 (rd Z9) (rd Z9) (rd (Z0 .i64)) Z8k := fun a1 b2 r h => I0 Tryz.func220 rfl Tryz.ntmps220 rfl fun w H => by
 unfold Z8k at h
 refine SR <| Cv rfl (Zn 3 rfl rfl (vt rfl)) fun g3 => Cv rfl (Zn 4 rfl rfl (vt rfl)) fun g4 => Ak rfl <| Nl <| sq ?_
 obtain ⟨x5, hx5, x6, hx6, h⟩ := bs2 h
 refine AR Zw (by kernel_rfl) <| Zm Z12 3 rfl <| SCl [8] (Zop _ _ hx5) Zpo rfl <| Zm Z12 4 rfl <| SCl [10] (Zop _ _ hx6) Zpo rfl <| Sd (Z1q (us := [(5, Z46 275 Z77 Zps)]) (ur := []) [] [] rfl fun S hs hr => Zdb rfl rfl rfl Zl8) <| Sd (Z1q (us := [(6, Z46 275 Z77 Zps)]) (ur := []) [] [] rfl fun S hs hr => Zdb rfl rfl rfl Zl8) <| Sd (Z1q (us := [(5, Z46 275 Z77 x5)]) (ur := []) [5, 9] [] rfl fun S hs hr => Zey rfl rfl Zi0 ((hs 5 rfl).trans rfl) (vh hs 9 rfl rfl)) <| Sd (Z1q (us := [(6, Z46 275 Z77 x6)]) (ur := []) [6, 11] [] rfl fun S hs hr => Zey rfl rfl Zi0 ((hs 6 rfl).trans rfl) (vh hs 11 rfl rfl)) <| Sn <| AW.unpackP 5 6 rfl rfl fun g7 => AW.unpackP 6 7 rfl rfl fun g8 => sq <| sq ?_
 obtain ⟨x9, hx9, x10, hx10, h⟩ := bs2 h
 refine AR Zw (by kernel_rfl) <| Zv laset_spot_0 Zxo rfl <| Zm Zq 6 rfl <| SCl [13] (Zr8 _ _ hx9) Zt6 rfl <| Zv laset_spot_0 Zxo rfl <| Zm Zq 7 rfl <| SCl [16] (Zr8 _ _ hx10) Zt6 rfl <| Sd (lo [14, 17] [] rfl fun S hs hr => Z0v rfl rfl (vh hs 14 rfl rfl) (vh hs 17 rfl rfl)) <| SAs rfl <| Sn <| SR <| Md rfl <| Ac (Z4u rfl rfl (vt rfl) (vk rfl)) rfl <| Nl <| Cq rfl h (fun h => ?_) (fun h => ?_)
 ·refine SR <| Md rfl <| As rfl <| Nl <| rt ?_
  cases h; exact Zf Tryz.results220 rfl (Za rfl)
 ·refine sk <| sq <| bk <| SR <| Zh laset_spot_1 Zou rfl <| Ld Zq 6 rfl <| Zh laset_spot_1 Zou rfl <| Ld Zq 7 rfl <| Ac (Zi rfl rfl (vt rfl) (vt rfl)) rfl <| As rfl <| Nl <| Cq rfl h (fun h => ?_) (fun h => ?_)
  ·refine SR <| Ak rfl <| Nl <| rt ?_
   cases h; exact Zf Tryz.results220 rfl (Za rfl)
  ·refine SR <| Zh laset_spot_1 Zou rfl <| Ld Zq 6 rfl <| Zh laset_spot_1 Zou rfl <| Ld Zq 7 rfl <| Ac (Z3i rfl rfl (vt rfl) (vt rfl)) rfl <| As rfl <| Nl <| Cq rfl h (fun h => ?_) (fun h => ?_)
   ·refine SR <| Ak rfl <| Nl <| rt ?_
    cases h; exact Zf Tryz.results220 rfl (Za rfl)
   ·refine sk <| SR <| Ak rfl <| Nl <| rt ?_
    cases h; exact Zf Tryz.results220 rfl (Za rfl)
def Z7d (s1 : (List Action)) : Option (List Action) :=
 (Zkj s1 Zjf).bind fun x2 => (Z6w s1).bind fun x4 => (Zin x4 (fun x => Zb6 x x2)).bind fun x6 => (Zdj x6 Z8k).bind fun l8 => some l8
theorem Zm6 : Q1 Tryz.prog 149 (rd (Z1 Z9)) (rd (Z1 Z9)) Z7d := fun s1 r h => I0 Tryz.func149 rfl Tryz.ntmps149 rfl fun w H => by
 unfold Z7d at h
 refine SR <| Ac (Zy (A := rd (Z1 Z9) []) rfl rfl Z1i) rfl <| Nl <| sq ?_
 obtain ⟨x2, hx2, h⟩ := Z8 h
 refine Rg <| Md rfl <| Ac (Z14 (xs := [.tmp 5, .func 214]) (Y9a _ _ _ hx2) Ygn rfl rfl ⟨vt rfl, vf1 Y8h Ymf, trivial⟩) rfl <| Cv rfl (Zs 4 rfl rfl zr4) fun g3 => Zj ty4 4 rfl <| Nl <| sq <| AW.freezeB 3 4 rfl rfl rfl ?_
 obtain ⟨x4, hx4, x6, hx6, h⟩ := bs2 h
 refine Rg <| Md rfl <| Cv rfl (Z10 1001 (xs := [.tmp 7]) (Zqp _ _ hx4) Zn6 rfl rfl ⟨vt rfl, trivial⟩ rfl) fun v5 => Ac (Z7n (cs := [.tmp 3]) (CAs := [rp Z5 x2]) (fun x => Zb6 x x2) rfl rfl Yan ⟨vt rfl, trivial⟩ (fun x y h => Y7x _ _ y h)) rfl <| Cv rfl (Z10 1001 (xs := [.tmp 8, .tmp 9]) (Yco _ _ _ _ hx6) Ycx rfl rfl ⟨vt rfl, vt rfl, trivial⟩ rfl) fun v7 => Aw rfl <| Nl <| sq ?_
 obtain ⟨l8, hl8, h⟩ := Z8 h
 refine Rg <| Mw rfl <| Cv rfl (Z10 1001 (xs := [.tmp 11, .func 220]) (Ybj _ _ _ _ hl8) Yf2 rfl rfl ⟨vt rfl, vf2 Ynf Yj0, trivial⟩ rfl) fun _u => Nl <| SR <| Mw rfl <| Aw rfl <| Nl <| AW.freezes [2, 4, 10, 11, 13] 1001 rfl ⟨rfl, rfl, rfl, rfl, rfl, trivial⟩ rfl <| rt ?_
 cases h; exact Zf Tryz.results149 rfl (Za rfl)
def Zff (l3 : (List Inst)) (a2 : Int) (b9 : walk_way) : Option (walk_way × Int × Bool) :=
 (Z69 l3 1).bind fun x10 => (bif ((x10.2 && (decide (x10.1.Table > a2))) && (decide (x10.1.Table < 4))) then some (b9, x10.1.Table, true) else (Z7d b9.set).bind fun x12 => (Zeu b9 x12).bind fun x13 => some (x13, 0, false))
def Zho (l3 : (List Inst)) (a2 : Int) (b8 : walk_way) : Option (walk_way × Int × Bool) :=
 (Z69 l3 2).bind fun x14 => (bif x14.2 then (Z73 b8.got 1 x14.1.Value x14.1.Mask).bind fun x16 => Zff l3 a2 { b8 with got := x16 } else Zff l3 a2 b8)
def Zfo (l3 : (List Inst)) (a2 : Int) (b7 : walk_way) : Option (walk_way × Int × Bool) :=
 (Z69 l3 3).bind fun x17 => (bif x17.2 then (Zby b7.set x17.1.Acts).bind fun x19 => Zho l3 a2 { b7 with set := x19 } else Zho l3 a2 b7)
def Zfj (l3 : (List Inst)) (a2 : Int) (b6 : walk_way) : Option (walk_way × Int × Bool) :=
 (Z69 l3 5).bind fun x20 => (bif x20.2 then Zfo l3 a2 { b6 with set := [] } else Zfo l3 a2 b6)
def Zj4 (w1 : walk_way) (a2 : Int) (l3 : (List Inst)) : Option (walk_way × Int × Bool) :=
 (Z69 l3 4).bind fun x22 => (bif x22.2 then (Zeu w1 x22.1.Acts).bind fun x24 => Zfj l3 a2 x24 else Zfj l3 a2 w1)
theorem Yk8 : Q3 Tryz.prog 137 (rd Z1o) (rd (Z0 .i64)) (rd (Z1 Z1e)) (fun r => Z3n (rd Z1o r.1) (rd (Z0 .i64) r.2.1) (rd Z5 r.2.2)) Zj4 := fun w1 a2 l3 r h => I0 Tryz.func137 rfl Tryz.ntmps137 rfl fun w H => by
 unfold Zj4 at h
 refine SR <| Cv rfl (Zn 4 rfl rfl (vt rfl)) fun g4 => Cv rfl (Zs 7 rfl rfl Zfz) fun g5 => Ak rfl <| Ab rfl <| Nl ?_
 refine JN (d := []) (ν := walk_way) (fun b6 => (Zfj l3 a2 b6 = some r, [(1, rd (Z0 .i64) a2), (2, rd (Z1 Z1e) l3), (3, Z7 g4 (Lens.id Z1o)), (6, Z7 g5 (Lens.id Z1o))], [(4, Zc g4 135 Z1o b6), (7, Zc g5 135 Z1o Zgk)])) ?hx1 ?hy1
 case hy1 =>
  intro b6 h
  dsimp only at h ⊢
  unfold Zfj at h
  refine JN (d := []) (ν := walk_way) (fun b7 => (Zfo l3 a2 b7 = some r, [(1, rd (Z0 .i64) a2), (2, rd (Z1 Z1e) l3), (3, Z7 g4 (Lens.id Z1o)), (6, Z7 g5 (Lens.id Z1o))], [(4, Zc g4 135 Z1o b7), (7, Zc g5 135 Z1o Zgk)])) ?hx2 ?hy2
  case hy2 =>
   intro b7 h
   dsimp only at h ⊢
   unfold Zfo at h
   refine JN (d := []) (ν := walk_way) (fun b8 => (Zho l3 a2 b8 = some r, [(1, rd (Z0 .i64) a2), (2, rd (Z1 Z1e) l3), (3, Z7 g4 (Lens.id Z1o)), (6, Z7 g5 (Lens.id Z1o))], [(4, Zc g4 135 Z1o b8), (7, Zc g5 135 Z1o Zgk)])) ?hx3 ?hy3
   case hy3 =>
    intro b8 h
    dsimp only at h ⊢
    unfold Zho at h
    refine JN (d := []) (ν := walk_way) (fun b9 => (Zff l3 a2 b9 = some r, [(1, rd (Z0 .i64) a2), (2, rd (Z1 Z1e) l3), (3, Z7 g4 (Lens.id Z1o)), (6, Z7 g5 (Lens.id Z1o))], [(4, Zc g4 135 Z1o b9), (7, Zc g5 135 Z1o Zgk)])) ?hx4 ?hy4
    case hy4 =>
     intro b9 h
     dsimp only at h ⊢
     unfold Zff at h
     refine sq ?_
     obtain ⟨x10, hx10, h⟩ := Z8 h
     refine Rg <| Md rfl <| Ac (Z14 (xs := [.tmp 63, .const (Value.int IntKind.i64 1)]) (Z91 _ _ _ hx10) Z8i rfl rfl ⟨vt rfl, vk rfl, trivial⟩) rfl <| Mt2 rfl <| Ac (Z1n rfl rfl (vt rfl)) rfl <| Ac (Z1l rfl rfl (vt rfl)) rfl <| Cv rfl (Zs 18 rfl rfl Z4z) fun g11 => Zj Z40 18 rfl <| As rfl <| Nl <| sq <| SR <| Md rfl <| Md rfl <| Gd rfl (fun hq => Z2t Zep rfl rfl Zf0 (vt rfl)) <| Gd rfl (fun hq => Z29 rfl rfl Zq (Zg rfl hq) (i := 18) rfl) <| Gd rfl (fun hq => Zp (A := rd (Z0 .i64) a2) rfl rfl (vt rfl)) <| Gd rfl (fun hq => Z3i rfl rfl (Zg rfl hq) (Zg rfl hq)) <| Ac (Z21 rfl rfl (vt rfl) (vt rfl)) rfl <| Md rfl <| Gd rfl (fun hq => Z2t Zep rfl rfl Zf0 (vt rfl)) <| Gd rfl (fun hq => Z29 rfl rfl Zq (Zg rfl hq) (i := 18) rfl) <| Gd rfl (fun hq => Zi rfl rfl (Zg rfl hq) (vk rfl)) <| Ac (Z21 rfl rfl (vt rfl) (vt rfl)) rfl <| Nl <| Cq rfl h (fun h => ?_) (fun h => ?_)
     ·refine sq <| AR Zw (by kernel_rfl) <| Zm Z38 4 rfl <| Zv Zep Zf0 rfl <| Zm Zq 18 rfl <| SSt Z38 7 rfl <| SAs rfl <| Sd (lo [] [] rfl fun S hs hr => Zy (A := rd Z5 true) rfl rfl vb) <| Sn <| rt ?_
      cases h; exact Zfe Tryz.results137 rfl (Z01 rfl (i := 7) rfl Z38) (Za rfl) (Za rfl)
     ·refine sk <| sq ?_
      obtain ⟨x12, hx12, x13, hx13, h⟩ := bs2 h
      refine AR Zw (by kernel_rfl) <| Zm Z38 4 rfl <| Zv Zlq Zmu rfl <| Zm Z3d 4 rfl <| SCl [84] (Zm6 _ _ hx12) Zov rfl <| SCl [82, 85] (Zzd _ _ _ hx13) Y5o rfl <| SSt Z38 7 rfl <| Sd (lo [] [] rfl fun S hs hr => Zy (A := rd (Z0 .i64) 0) rfl rfl (vk rfl)) <| Sd (lo [] [] rfl fun S hs hr => Zy (A := rd Z5 false) rfl rfl vb) <| Sn <| rt ?_
      cases h; exact Zfe Tryz.results137 rfl (Z01 rfl (i := 7) rfl Z38) (Za rfl) (Za rfl)
    case hx4 =>
     refine sq ?_
     obtain ⟨x14, hx14, h⟩ := Z8 h
     refine Rg <| Md rfl <| Ac (Z14 (xs := [.tmp 49, .const (Value.int IntKind.i64 2)]) (Z91 _ _ _ hx14) Z8i rfl rfl ⟨vt rfl, vk rfl, trivial⟩) rfl <| Mt2 rfl <| Ac (Z1n rfl rfl (vt rfl)) rfl <| Ac (Z1l rfl rfl (vt rfl)) rfl <| Cv rfl (Zs 16 rfl rfl Z4z) fun g15 => Zj Z40 16 rfl <| As rfl <| Nl <| SR <| Md rfl <| Nl <| Cq rfl h (fun h => ?_) (fun h => ?_)
     ·obtain ⟨x16, hx16, h⟩ := Z8 h
      refine Rg <| Zh lwalk_way_1 Zj9 rfl <| Ld Z0f 4 rfl <| Zh Ztl Zy4 rfl <| Ld Z02 16 rfl <| Zh Zu4 Y0z rfl <| Ld Z02 16 rfl <| Ac (Z14 (xs := [.tmp 55, .const (Value.int IntKind.i64 1), .tmp 57, .tmp 59]) (Zei _ _ _ _ _ hx16) Zdd rfl rfl ⟨vt rfl, vk rfl, vt rfl, vt rfl, trivial⟩) rfl <| Zh lwalk_way_1 Zj9 rfl <| Zj Z0f 4 rfl <| Nl ?_
      exact ⟨_, h, FX rfl⟩
     ·refine sk ?_
      exact ⟨_, h, FX rfl⟩
   case hx3 =>
    refine sq ?_
    obtain ⟨x17, hx17, h⟩ := Z8 h
    refine Rg <| Md rfl <| Ac (Z14 (xs := [.tmp 37, .const (Value.int IntKind.i64 3)]) (Z91 _ _ _ hx17) Z8i rfl rfl ⟨vt rfl, vk rfl, trivial⟩) rfl <| Mt2 rfl <| Ac (Z1n rfl rfl (vt rfl)) rfl <| Ac (Z1l rfl rfl (vt rfl)) rfl <| Cv rfl (Zs 14 rfl rfl Z4z) fun g18 => Zj Z40 14 rfl <| As rfl <| Nl <| SR <| Md rfl <| Nl <| Cq rfl h (fun h => ?_) (fun h => ?_)
    ·obtain ⟨x19, hx19, h⟩ := Z8 h
     refine Rg <| Zh Zlq Zmu rfl <| Ld Z3d 4 rfl <| Zh lInst_4 Zb2 rfl <| Ld Z3d 14 rfl <| Cl [43, 45] (Zon _ _ _ hx19) Zpl rfl <| Zh Zlq Zmu rfl <| Zj Z3d 4 rfl <| Nl ?_
     exact ⟨_, h, FX rfl⟩
    ·refine sk ?_
     exact ⟨_, h, FX rfl⟩
  case hx2 =>
   refine sq ?_
   obtain ⟨x20, hx20, h⟩ := Z8 h
   refine Rg <| Md rfl <| Ac (Z14 (xs := [.tmp 30, .const (Value.int IntKind.i64 5)]) (Z91 _ _ _ hx20) Z8i rfl rfl ⟨vt rfl, vk rfl, trivial⟩) rfl <| Mt2 rfl <| Ac (Z1n rfl rfl (vt rfl)) rfl <| Ac (Z1l rfl rfl (vt rfl)) rfl <| Cv rfl (Zs 12 rfl rfl Z4z) fun g21 => Zj Z40 12 rfl <| As rfl <| Nl <| SR <| Md rfl <| Nl <| Cq rfl h (fun h => ?_) (fun h => ?_)
   ·refine Rg <| Zh Zlq Zmu rfl <| Ac (Z5c rfl rfl Z3d (vt rfl) (i := 4) rfl Z1i) rfl <| Nl ?_
    exact ⟨_, h, FX rfl⟩
   ·refine sk ?_
    exact ⟨_, h, FX rfl⟩
 case hx1 =>
  refine sq ?_
  obtain ⟨x22, hx22, h⟩ := Z8 h
  refine Rg <| Md rfl <| Ac (Z14 (xs := [.tmp 20, .const (Value.int IntKind.i64 4)]) (Z91 _ _ _ hx22) Z8i rfl rfl ⟨vt rfl, vk rfl, trivial⟩) rfl <| Mt2 rfl <| Ac (Z1n rfl rfl (vt rfl)) rfl <| Ac (Z1l rfl rfl (vt rfl)) rfl <| Cv rfl (Zs 10 rfl rfl Z4z) fun g23 => Zj Z40 10 rfl <| As rfl <| Nl <| SR <| Md rfl <| Nl <| Cq rfl h (fun h => ?_) (fun h => ?_)
  ·obtain ⟨x24, hx24, h⟩ := Z8 h
   refine Rg <| Ld Z38 4 rfl <| Zh lInst_4 Zb2 rfl <| Ld Z3d 10 rfl <| Cl [25, 27] (Zzd _ _ _ hx24) Y5o rfl <| Zj Z38 4 rfl <| Nl ?_
   exact ⟨_, h, FX rfl⟩
  ·refine sk ?_
   exact ⟨_, h, FX rfl⟩
def Zd9 (s : List Atom) : Option (List Atom) := Z18 [] s
theorem Yll (s : List Atom) (r : List Atom) (h : Zd9 s = some r) : Con Tryz.prog 208 [rd (Z1 Z0c) s] emp (fun v => Zo v) (fun v => Zb v 126 Z0c r) := by
 refine Con.intro0 Tryz.func208 rfl Tryz.ntmps208 rfl fun w H => ?_
 unfold Zd9 at h
 refine AW.newnil 1001 126 Z0c <| SR <| Ac (Zy (A := Zo (.slice none 0 0)) rfl rfl vc) rfl <| Nl <| sq <| SR <| Md rfl <| Ct rfl (Zi2 rfl rfl Z7o (vt rfl)) ?_
 rintro _ ⟨b, hb, rfl⟩
 refine Nl <| Cn rfl (fun hc => ?_) (fun hc => ?_)
 ·obtain rfl := hb hc
  refine SR <| Ac (Zy (A := Zo (.slice none 0 0)) rfl rfl vc) rfl <| Nl <| rt ?_
  obtain rfl := (Zat h).2
  exact Z6m (i := 1001) Tryz.results208 rfl rfl rfl
 ·refine sk <| SR <| Cv rfl (Zg4 1002 (ps := []) (l := []) rfl rfl Z7o Zde rfl rfl rfl rfl) fun v1 => Md rfl <| Cv rfl (Z44 1002 h rfl rfl Zfb (vt rfl) rfl (vt rfl)) fun v2 => Aw rfl <| Nl <| rt ?_
  exact Z6m (i := 1002) Tryz.results208 rfl rfl rfl
theorem Y5s (s : List Atom) (r : List Atom) (h : Zd9 s = some r) : PCon Tryz.prog 208 [rd (Z1 Z0c) s] (rd (Z1 Z0c) r) := PCon.of_row (Yll s r h)
def Zgt (w1 : walk_way) : Option Rule :=
 (Zd9 w1.atoms).bind fun x4 => some (⟨w1.cube, x4⟩ : Rule)
theorem Zye : Q1 Tryz.prog 138 (rd Z1o) (rd Z0a) Zgt := fun w1 r h => I0 Tryz.func138 rfl Tryz.ntmps138 rfl fun w H => by
 unfold Zgt at h
 refine SR <| Cv rfl (Zn 2 rfl rfl (vt rfl)) fun g2 => Cv rfl (Zs 3 rfl rfl Zc1) fun g3 => Nl <| sq ?_
 obtain ⟨x4, hx4, h⟩ := Z8 h
 refine AR Zw (by kernel_rfl) <| Zv lwalk_way_0 Zsx rfl <| Zm Z00 2 rfl <| Zv Zgc Zkr rfl <| Zm Zbs 2 rfl <| SCl [6] (Y5s _ _ hx4) Zws rfl <| Sd (lo [4, 7] [] rfl fun S hs hr => opb (⟨w1.cube, x4⟩ : Rule) Zc1 rfl Y7h (pc Ykl (vh hs 4 rfl rfl) <| pc Ydf (vh hs 7 rfl rfl) <| pn rfl)) <| SSt Z9f 3 rfl <| Sn <| rt ?_
 cases h; exact Zf Tryz.results138 rfl (Z01 rfl (i := 3) rfl Z9f)
end Go.Proofs.YtknpgojdkobgjaaGreat.W
set_option maxRecDepth 4000
namespace Go.Proofs.YtknpgojdkobgjaaGreat.W
open Go Go.Wb
theorem Y3c : Ent Tryz.prog 135 := Ent.mk Tryz.func135 rfl rfl
theorem Y1f : Ent Tryz.prog 138 := Ent.mk Tryz.func138 rfl rfl
theorem Ybm : Ent Tryz.prog 136 := Ent.mk Tryz.func136 rfl rfl
theorem Yb0 : Ent Tryz.prog 137 := Ent.mk Tryz.func137 rfl rfl
theorem e76 : Ent Tryz.prog 76 := Ent.mk Tryz.func76 rfl rfl
theorem e75 : Ent Tryz.prog 75 := Ent.mk Tryz.func75 rfl rfl
theorem Y6y : Ent Tryz.prog 146 := Ent.mk Tryz.func146 rfl rfl
theorem e22 : Ent Tryz.prog 22 := Ent.mk Tryz.func22 rfl rfl
theorem e85 : Ent Tryz.prog 85 := Ent.mk Tryz.func85 rfl rfl
theorem Ye3 : Ent Tryz.prog 337 := Ent.mk Tryz.func337 rfl rfl
def Zl9 (sg : Type) (go1 : Nat → (Lp sg) → Option (Bool × Lp sg)) (i11 : Nat) (s22 : (Lp sg)) (o23 : Bool) : Option (Bool × Lp sg) :=
 (bif (!o23) then some (false, s22) else go1 (i11 + 1) s22)
def Z7c (sg : Type) (w5 : walk_way) (y1 : (sg → Rule → Option (Lp sg))) (a4 : Int) (s3 : Switch) (R_walk_search_table : ((Lp sg) → Switch → Int → walk_way → Option (Bool × Lp sg))) : (List Int) → Nat → (Lp sg) → Option (Bool × Lp sg)
 | [], i11, s10 => (Zgt w5).bind fun x13 => (yc y1 s10 x13).bind fun s14 => some ((Lp.isGo s14), s14)
 | x15 :: l12, i11, s10 => (chk 4 a4).bind fun j16 => (lget (Vector.get s3.Tables j16) x15).bind fun x17 => (Zjg w5 x17).bind fun x19 => (bif (!x19.2) then (Z7c sg w5 y1 a4 s3 R_walk_search_table l12) (i11 + 1) s10 else (Zj4 x19.1 a4 x17.Insts).bind fun x21 => (bif x21.2.2 then (R_walk_search_table s10 s3 x21.2.1 x21.1).bind fun b24 => Zl9 sg (Z7c sg w5 y1 a4 s3 R_walk_search_table l12) i11 b24.2 b24.1 else (Zgt x21.1).bind fun x25 => (yc y1 s10 x25).bind fun s26 => Zl9 sg (Z7c sg w5 y1 a4 s3 R_walk_search_table l12) i11 s26 (Lp.isGo s26)))
def Zk5 (sg : Type) (y1 : (sg → Rule → Option (Lp sg))) (R_walk_search_table : ((Lp sg) → Switch → Int → walk_way → Option (Bool × Lp sg))) (s2 : (Lp sg)) (s3 : Switch) (a4 : Int) (w5 : walk_way) : Option (Bool × Lp sg) :=
 (chk 4 a4).bind fun j7 => (Zfw (Vector.get s3.Tables j7)).bind fun x8 => Z7c sg w5 y1 a4 s3 R_walk_search_table x8 0 s2
theorem Y8z (sg : Type) (y1 : (sg → Rule → Option (Lp sg))) (L : Lp sg → Zu) (R_walk_search_table : ((Lp sg) → Switch → Int → walk_way → Option (Bool × Lp sg))) (hR_walk_search_table : ∀ (s2 : (Lp sg)) (s3 : Switch) (a4 : Int) (w5 : walk_way) (r : (Bool × Lp sg)), R_walk_search_table s2 s3 a4 w5 = some r → Con Tryz.prog 76 [rp (ksp Z0d (ydA Tryz.prog Z0a y1 L)) s3, rd (Z0 .i64) a4, rd Z1o w5] (L s2) (fun _ : Unit => rd Z5 r.1) (fun _ => L r.2)) (s2 : (Lp sg)) (s3 : Switch) (a4 : Int) (w5 : walk_way) (r : (Bool × Lp sg)) (h : Zk5 sg y1 R_walk_search_table s2 s3 a4 w5 = some r) : Con Tryz.prog 76 [rp (ksp Z0d (ydA Tryz.prog Z0a y1 L)) s3, rd (Z0 .i64) a4, rd Z1o w5] (L s2) (fun _ : Unit => rd Z5 r.1) (fun _ => L r.2) := by
 refine Con.intro Tryz.func76 rfl Tryz.ntmps76 rfl fun w H X => ?_
 unfold Zk5 at h
 refine SR <| Cv rfl (Zn 6 rfl rfl (vt rfl)) fun g6 => Ab rfl <| Nl <| AW.scope <| sq <| AW.label <| sq <| sq ?_
 obtain ⟨j7, hj7, x8, hx8, h⟩ := bs2 h
 refine Rg <| Mr rfl <| Md rfl <| Ac (Zmd rfl rfl (vt rfl)) rfl <| Ac (Z66 (Zt0 Z0d (ydA Tryz.prog Z0a y1 L)) rfl rfl (Zyh _) (vt rfl)) rfl <| Fp Zbd Ze2 rfl <| Ac (Z7v rfl rfl Zec (vt rfl) (vt rfl) hj7) rfl <| Lp1 Z5u rfl <| Cl [20] (Y0o _ _ hx8) Y3c rfl <| Ac (Z0t rfl rfl Z15 (vt rfl)) rfl <| Mk rfl <| Nl <| bk <| LG (d := []) (ν := (List Int) × Nat × (Lp sg)) (fun (l12, i11, s10) => (Sfx x8 i11 l12 ∧ Z7c sg w5 y1 a4 s3 R_walk_search_table l12 i11 s10 = some r, l12.length, [(0, rp (ksp Z0d (ydA Tryz.prog Z0a y1 L)) s3), (1, rd (Z0 .i64) a4), (5, Z7 g6 (Lens.id Z1o)), (21, rd (Z1 (Z0 .i64)) x8), (22, rd (Z0 .i64) (x8.length : Int)), (23, rd (Z0 .i64) (i11 : Int))], [(0, L s10), (6, Zc g6 135 Z1o w5)])) (x8, 0, s2) ⟨Sfx.start _, h⟩ (FX rfl) ?_
 rintro ⟨l12, i11, s10⟩ ⟨hsf1, h⟩
 dsimp only at hsf1 h ⊢
 cases l12 with
 | nil =>
  unfold Z7c at h
  refine SR <| Ac (Zi rfl rfl (vt rfl) (vt rfl)) rfl <| Nl <| sq <| Cn rfl (fun hc => absurd (of_decide_eq_true hc) hsf1.nil) (fun hc => ?_)
  refine xt <| sq ?_
  obtain ⟨x13, hx13, s14, hs14, h⟩ := bs2 h
  refine AR Zw (by kernel_rfl) <| Sd (lo [0] [] rfl fun S hs hr => Zp (A := rp (ksp Z0d (ydA Tryz.prog Z0a y1 L)) s3) rfl rfl (vh hs 0 rfl rfl)) <| Sd (lo [69] [] rfl fun S hs hr => Zmd rfl rfl (vh hs 69 rfl rfl)) <| Sd (lo [70] [] rfl fun S hs hr => Z66 (Zq4 Z0d (ydA Tryz.prog Z0a y1 L)) rfl rfl (Zyr _) (vh hs 70 rfl rfl)) <| Sd (lo [71] [] rfl fun S hs hr => Y05 (A := ydA Tryz.prog Z0a y1 L) rfl rfl rfl (Zys _) (vh hs 71 rfl rfl)) <| Zm Z38 6 rfl <| SCl [73] (Zye _ _ hx13) Y1f rfl <| Sd (Z1q (us := [(75, rd Z5 (Lp.isGo s14))]) (ur := [(0, L s14)]) [72, 74] [0] rfl fun S hs hr => Zlb 0 hs14 rfl rfl (vh hs 72 rfl rfl) (vh hs 74 rfl rfl) ((hr 0 rfl).trans rfl)) <| SAs rfl <| Sn <| rt ?_
  cases h; exact Zdh (i := 0) Tryz.results76 rfl (Za rfl) rfl
 | cons x15 l12 =>
  unfold Z7c at h
  refine SR <| Ac (Zi rfl rfl (vt rfl) (vt rfl)) rfl <| Nl <| sq <| Cn rfl (fun hc => ?_) (fun hc => absurd hsf1.cons (of_decide_eq_false hc))
  have hlti11 := of_decide_eq_true hc
  refine sk <| sq <| bk <| SR <| Ac (Z0k rfl rfl Z15 (vt rfl) (vt rfl) hsf1.lget) rfl <| Lp1 Zq rfl <| As rfl <| Nl <| sq ?_
  obtain ⟨j16, hj16, x17, hx17, h⟩ := bs2 h
  refine Rg <| Mr rfl <| Md rfl <| Ac (Zmd rfl rfl (vt rfl)) rfl <| Ac (Z66 (Zt0 Z0d (ydA Tryz.prog Z0a y1 L)) rfl rfl (Zyh _) (vt rfl)) rfl <| Fp Zbd Ze2 rfl <| Ac (Z7v rfl rfl Zec (vt rfl) (vt rfl) hj16) rfl <| Lp1 Z5u rfl <| Md rfl <| Ac (Z0k rfl rfl Z5p (vt rfl) (vt rfl) hx17) rfl <| Lp1 Z9m rfl <| Cv rfl (Zs 10 rfl rfl Zmy) fun g18 => Zj Z9m 10 rfl <| Nl <| sq ?_
  obtain ⟨x19, hx19, h⟩ := Z8 h
  refine Rg <| Ld Z38 6 rfl <| Ld Z9m 10 rfl <| Cl [38, 39] (Ymb _ _ _ hx19) Ybm rfl <| Mt2 rfl <| Ac (Z1n rfl rfl (vt rfl)) rfl <| Ac (Z1l rfl rfl (vt rfl)) rfl <| Cv rfl (Zs 11 rfl rfl Zfz) fun g20 => Zj Z38 11 rfl <| As rfl <| Nl <| sq <| SR <| Md rfl <| Ac (Z0z rfl rfl (vt rfl)) rfl <| Nl <| Cq rfl h (fun h => ?_) (fun h => ?_)
  ·refine xt <| Rg <| Ac (Z0u (t := 22) rfl rfl (vt rfl) (vk rfl) (vt rfl) hlti11) rfl <| Md rfl <| Nl ?_
   exact ⟨(_, _, _), Nat.lt_succ_self _, ⟨hsf1.next, h⟩, FX rfl⟩
  ·refine sk <| sq ?_
   obtain ⟨x21, hx21, h⟩ := Z8 h
   refine Rg <| Ld Z38 11 rfl <| Md rfl <| Zh lFlow_6 Zp0 rfl <| Ld Zot 10 rfl <| Cl [46, 47, 49] (Yk8 _ _ _ _ hx21) Yb0 rfl <| Ac (Zp (A := Z3n (rd Z1o x21.1) (rd (Z0 .i64) x21.2.1) (rd Z5 x21.2.2)) rfl rfl (vt rfl)) rfl <| Ac (Zgs rfl rfl (vt rfl)) rfl <| Ac (Zhf rfl rfl (vt rfl)) rfl <| Ac (Zfq rfl rfl (vt rfl)) rfl <| Zj Z38 11 rfl <| As rfl <| As rfl <| Nl ?_
   refine JN (d := []) (ν := (Lp sg) × Bool) (fun (s22, o23) => (Zl9 sg (Z7c sg w5 y1 a4 s3 R_walk_search_table l12) i11 s22 o23 = some r, [(0, rp (ksp Z0d (ydA Tryz.prog Z0a y1 L)) s3), (1, rd (Z0 .i64) a4), (5, Z7 g6 (Lens.id Z1o)), (11, rd Z5 o23), (21, rd (Z1 (Z0 .i64)) x8), (22, rd (Z0 .i64) (x8.length : Int)), (23, rd (Z0 .i64) (i11 : Int))], [(0, L s22), (6, Zc g6 135 Z1o w5)])) ?hx2 ?hy2
   case hy2 =>
    rintro ⟨s22, o23⟩ h
    dsimp only at h ⊢
    unfold Zl9 at h
    refine SR <| Md rfl <| Ac (Z0z rfl rfl (vt rfl)) rfl <| Nl <| Cq rfl h (fun h => ?_) (fun h => ?_)
    ·refine SR <| Ab rfl <| Nl <| rt ?_
     cases h; exact Zdh (i := 0) Tryz.results76 rfl (Za rfl) rfl
    ·refine sk <| Rg <| Ac (Z0u (t := 22) rfl rfl (vt rfl) (vk rfl) (vt rfl) hlti11) rfl <| Md rfl <| Nl ?_
     exact ⟨(_, _, _), Nat.lt_succ_self _, ⟨hsf1.next, h⟩, FX rfl⟩
   case hx2 =>
    refine SR <| Md rfl <| Nl <| Cq rfl h (fun h => ?_) (fun h => ?_)
    ·obtain ⟨b24, hb24, h⟩ := Z8 h
     refine Rg <| Mr rfl <| Md rfl <| Ld Z38 11 rfl <| Cv rfl (Z10 0 (xs := [.tmp 55, .tmp 56, .tmp 57]) (hR_walk_search_table _ _ _ _ _ hb24) e76 rfl rfl ⟨vt rfl, vt rfl, vt rfl, trivial⟩ rfl) fun _u => As rfl <| Nl ?_
     exact ⟨(_, _), h, FX rfl⟩
    ·obtain ⟨x25, hx25, s26, hs26, h⟩ := bs2 h
     refine AR Zw (by kernel_rfl) <| Sd (lo [0] [] rfl fun S hs hr => Zp (A := rp (ksp Z0d (ydA Tryz.prog Z0a y1 L)) s3) rfl rfl (vh hs 0 rfl rfl)) <| Sd (lo [59] [] rfl fun S hs hr => Zmd rfl rfl (vh hs 59 rfl rfl)) <| Sd (lo [60] [] rfl fun S hs hr => Z66 (Zq4 Z0d (ydA Tryz.prog Z0a y1 L)) rfl rfl (Zyr _) (vh hs 60 rfl rfl)) <| Sd (lo [61] [] rfl fun S hs hr => Y05 (A := ydA Tryz.prog Z0a y1 L) rfl rfl rfl (Zys _) (vh hs 61 rfl rfl)) <| Zm Z38 11 rfl <| SCl [63] (Zye _ _ hx25) Y1f rfl <| Sd (Z1q (us := [(65, rd Z5 (Lp.isGo s26))]) (ur := [(0, L s26)]) [62, 64] [0] rfl fun S hs hr => Zlb 0 hs26 rfl rfl (vh hs 62 rfl rfl) (vh hs 64 rfl rfl) ((hr 0 rfl).trans rfl)) <| SAs rfl <| Sn ?_
     exact ⟨(_, _), h, FX rfl⟩
def Zcm (sg : Type) (y1 : (sg → Rule → Option (Lp sg))) : Nat → ((Lp sg) → Switch → Int → walk_way → Option (Bool × Lp sg))
 | 0 => (fun _ _ _ _ => none)
 | n + 1 => Zk5 sg y1 (Zcm sg y1 n)
theorem Zwd (sg : Type) (y1 : (sg → Rule → Option (Lp sg))) (L : Lp sg → Zu) : ∀ n : Nat, (∀ (s2 : (Lp sg)) (s3 : Switch) (a4 : Int) (w5 : walk_way) (r : (Bool × Lp sg)), (Zcm sg y1 n) s2 s3 a4 w5 = some r → Con Tryz.prog 76 [rp (ksp Z0d (ydA Tryz.prog Z0a y1 L)) s3, rd (Z0 .i64) a4, rd Z1o w5] (L s2) (fun _ : Unit => rd Z5 r.1) (fun _ => L r.2))
 | 0 => (by intros; rename_i h; cases h)
 | n + 1 => Y8z sg y1 L (Zcm sg y1 n) (Zwd sg y1 L n)
def Zrc (sg : Type) (y1 : (sg → Rule → Option (Lp sg))) (s2 : (Lp sg)) (s3 : Switch) (a4 : Int) (w5 : walk_way) : Option (Bool × Lp sg) := Zcm sg y1 Z0l s2 s3 a4 w5
theorem Ykb (sg : Type) (y1 : (sg → Rule → Option (Lp sg))) (L : Lp sg → Zu) : ∀ (s2 : (Lp sg)) (s3 : Switch) (a4 : Int) (w5 : walk_way) (r : (Bool × Lp sg)), (Zrc sg y1) s2 s3 a4 w5 = some r → Con Tryz.prog 76 [rp (ksp Z0d (ydA Tryz.prog Z0a y1 L)) s3, rd (Z0 .i64) a4, rd Z1o w5] (L s2) (fun _ : Unit => rd Z5 r.1) (fun _ => L r.2) := Zwd sg y1 L Z0l
def Zci (sg : Type) (y1 : (sg → Rule → Option (Lp sg))) (s2 : (Lp sg)) (x3 : Switch) : Option (Lp sg) :=
 (Zbm).bind fun x5 => (Z9j).bind fun x6 => (Zrc sg y1 s2 x3 0 (⟨x5, x6, [], []⟩ : walk_way)).bind fun b7 => some b7.2
theorem Yh2 (sg : Type) (y1 : (sg → Rule → Option (Lp sg))) (L : Lp sg → Zu) (s2 : (Lp sg)) (x3 : Switch) (r : (Lp sg)) (h : Zci sg y1 s2 x3 = some r) : Con Tryz.prog 75 [ydA Tryz.prog Z0a y1 L, rp Z0d x3] (L s2) (fun _ : Unit => top) (fun _ => L r) := by
 refine Con.intro Tryz.func75 rfl Tryz.ntmps75 rfl fun w H X => ?_
 unfold Zci at h
 refine SR <| Lp1 Z5s rfl <| Ac (Zp (A := ydA Tryz.prog Z0a y1 L) rfl rfl (vt rfl)) rfl <| Ac (Yjj (x := x3) rfl rfl (by kernel_rfl) Y6k (by kernel_rfl) (by kernel_rfl) (vt rfl) rfl) rfl <| Ac (Y6g rfl rfl (vt rfl)) rfl <| Ac (Zy (A := rp (ksp Z0d (ydA Tryz.prog Z0a y1 L)) x3) rfl rfl (vt rfl)) rfl <| Nl ?_
 obtain ⟨x5, hx5, x6, hx6, b7, hb7, h⟩ := bs3 h
 refine Rg <| Mr rfl <| Cl [] (Zpq _ hx5) e73 rfl <| Cl [] (Zoo _ hx6) e77 rfl <| Ac (opb (⟨x5, x6, [], []⟩ : walk_way) Zfz rfl Y5k (pc Yen (vt rfl) <| pc Ymn (vt rfl) <| pn rfl)) rfl <| Cv rfl (Z10 0 (xs := [.tmp 8, .const (Value.int IntKind.i64 0), .tmp 11]) (Ykb sg y1 L _ _ _ _ _ hb7) e76 rfl rfl ⟨vt rfl, vk rfl, vt rfl, trivial⟩ rfl) fun _u => Nl ?_
 cases h; exact Z1k (i := 0) Tryz.results75 rfl rfl
def Znm (s1 : Switch) : Option (Itr Rule) :=
 some (Itr.mk fun σ y s => Zci σ y s s1)
theorem Ymo : Q1 Tryz.prog 22 (rd Z0d) (Z4p Tryz.prog Z0a) Znm := fun s1 r h => I0 Tryz.func22 rfl Tryz.ntmps22 rfl fun w H => by
 unfold Znm at h
 refine SR <| Cv rfl (Zn 2 rfl rfl (vt rfl)) fun g2 => Ac (Zy (A := Zo .nilFunc) rfl rfl vc) rfl <| Nl <| sq <| AW.freezeB 1 2 rfl rfl rfl <| Rg <| Ac (Zrw (Itr.mk fun σ y s => Zci σ y s s1) (cs := [.tmp 1]) (CAs := [rp Z0d s1]) rfl rfl e75 ⟨vt rfl, trivial⟩ (fun σ y L s r h => Yh2 σ y L s s1 r h)) rfl <| Ac (Zy (A := Z4p Tryz.prog Z0a (Itr.mk fun σ y s => Zci σ y s s1)) rfl rfl (vt rfl)) rfl <| Nl <| rt ?_
 cases h; exact Zf Tryz.results22 rfl (Za rfl)
def Zm2 (q : Itr Rule) : Option (List Rule) := Znz q
theorem Ynk (q : Itr Rule) (r : List Rule) (h : Zm2 q = some r) : Con Tryz.prog 146 [Zo (.slice none 0 0), Z4p Tryz.prog Z0a q] emp (fun v => Zo v) (fun v => Zb v 90 Z0a r) := by
 refine Con.intro0 Tryz.func146 rfl Tryz.ntmps146 rfl fun w H => ?_
 have h := Y8l h
 refine AW.newnil 1001 90 Z0a <| SR <| Cv rfl (Zn (k := kraw) 3 rfl rfl (vkr (vt rfl) rfl)) fun g => Ac (Zy (A := Zo (.slice none 0 0)) rfl rfl vc) rfl <| AOps.pack 3 1001 (by decide) rfl rfl <| Nl <| sq <| SR <| Ac (Zp (A := Z4p Tryz.prog Z0a q) rfl rfl (vt rfl)) rfl <| Nl <| bk <| AW.fit (d := []) (L := [(2, Z7 g (Lens.id kraw)), (6, Z4p Tryz.prog Z0a q)]) (M := [(3, Z9v g 32 90 Z0a [])]) ⟨rfl, ⟨rfl, rfl, trivial⟩, ⟨rfl, trivial⟩⟩ ?_
 refine AW.rangeFunc (fun x => [rd Z0a x]) Zii (fun s => Z2x [(3, Z9v g 32 90 Z0a s)]) (fun _ _ => Z2x []) [(2, Z7 g (Lens.id kraw))]
  (fun s x S1 => ∃ g5, Fit S1 [] [(2, Z7 g (Lens.id kraw)), (5, Z7 g5 (Lens.id Z0a))] [(3, Z9v g 32 90 Z0a s), (6, Zc g5 90 Z0a x)]) 1003 (s0 := []) (sE := .go r)
  rfl (vt rfl) ⟨rfl, inferInstance, trivial⟩ rfl (fun _ => rfl) (by intro p hp; have hp : p ∈ [7] := hp; rw [List.mem_singleton.1 hp]; show 7 < 13; decide) ?ha ?hb (fun Lf => ⟨top, _, _, Lf, _, _, h, rfl, rfl, rfl, rfl⟩) ?he
 case ha =>
  intro s x r' hF l w H X
  refine Rg <| Cv rfl (Zs 6 rfl rfl Zc1) fun g5 => Zj Z9f 6 rfl <| Nl ?_
  exact ⟨rfl, g5, rfl, ⟨rfl, rfl, trivial⟩, ⟨rfl, rfl, trivial⟩⟩
 case hb =>
  rintro s x r' hF S1 ⟨g5, hfit⟩ l w H X
  refine AW.fit hfit <| AW.bodyOf (M := fun s => [(3, Z9v g 32 90 Z0a s)]) (Mx := fun _ _ => []) ?_
  obtain ⟨m, hm, hF⟩ := Z8 hF
  cases hF
  refine bk <| AW.unbox 3 1001 (by decide) rfl rfl fun v => Rg <| Ac (Zx2 (i := 3) rfl rfl Zsr (vt rfl) rfl) rfl <| Ld Z9f 6 rfl <| Ac (Zmw (ps := [(0, .tmp 9)]) (l := [x]) rfl rfl Z59 Zc1 rfl rfl ⟨_, _, Lens.idx 1 Z0a 0 (by decide), _, rfl, vt rfl, rfl⟩ rfl) rfl <| Cv rfl (Z44 1001 hm rfl rfl Zul (vt rfl) rfl (vt rfl)) fun v2 => Ac (Z5c rfl rfl Zsr (vt rfl) (i := 3) rfl (Zo3 (i := 1001) rfl rfl)) rfl <| AOps.pack 3 1001 (by decide) rfl rfl <| Nl ?_
  exact ⟨_, rfl, rfl, trivial⟩
 case he =>
  intro D
  refine AW.unbox 3 1001 (by decide) rfl rfl fun v => SR <| Ac (Zx2 (i := 3) rfl rfl Zsr (vt rfl) rfl) rfl <| Aw rfl <| Nl <| rt ?_
  exact ⟨rfl, 1003, _, rfl, Z6m (i := 1001) Tryz.results146 rfl rfl rfl⟩
theorem Yfw (q : Itr Rule) (r : List Rule) (h : Zm2 q = some r) : PCon Tryz.prog 146 [Zo (.slice none 0 0), Z4p Tryz.prog Z0a q] (rd (Z1 Z0a) r) := PCon.of_row (Ynk q r h)
def Znw (s1 : (Itr Rule)) : Option (List Rule) :=
 (Zm2 s1).bind fun x2 => some x2
theorem Ygs : Q1 Tryz.prog 85 (Z4p Tryz.prog Z0a) (rd (Z1 Z0a)) Znw := fun s1 r h => I0 Tryz.func85 rfl Tryz.ntmps85 rfl fun w H => by
 unfold Znw at h
 refine SR <| Ac (Zy (A := rd (Z1 Z0a) []) rfl rfl Z1i) rfl <| Nl <| sq ?_
 obtain ⟨x2, hx2, h⟩ := Z8 h
 refine Rg <| Ac (Zp (A := Z4p Tryz.prog Z0a s1) rfl rfl (vt rfl)) rfl <| Ac (Z14 (xs := [.const (Value.slice none 0 0), .tmp 3]) (Yfw _ _ hx2) Y6y rfl rfl ⟨vc, vt rfl, trivial⟩) rfl <| As rfl <| Nl <| rt ?_
 cases h; exact Zf Tryz.results85 rfl (Za rfl)
def Zhu (s1 : Switch) : Option (List Rule) :=
 (Znm s1).bind fun x3 => (Znw x3).bind fun x4 => some x4
theorem Yn5 : Q1 Tryz.prog 25 (rd Z0d) (rd (Z1 Z0a)) Zhu := fun s1 r h => I0 Tryz.func25 rfl Tryz.ntmps25 rfl fun w H => by
 unfold Zhu at h
 refine SR <| Cv rfl (Zn 2 rfl rfl (vt rfl)) fun g2 => Ac (Zy (A := rd (Z1 Z0a) []) rfl rfl Z1i) rfl <| Nl <| sq ?_
 obtain ⟨x3, hx3, x4, hx4, h⟩ := bs2 h
 refine Rg <| Ld Z5s 2 rfl <| Cl [3] (Ymo _ _ hx3) e22 rfl <| Cl [4] (Ygs _ _ hx4) e85 rfl <| As rfl <| Nl <| rt ?_
 cases h; exact Zf Tryz.results25 rfl (Za rfl)
def Zjm (p1 : cover_purse) : Option (Bool × cover_purse) :=
 (bif p1.free then some (true, p1) else some ((decide (({ p1 with left := (IntKind.i64.wrap (p1.left - 1)) }.left) ≥ 0)), { p1 with left := (IntKind.i64.wrap (p1.left - 1)) }))
theorem Y7c (g2 gT : Nat) (p1 : cover_purse) (r : (Bool × cover_purse)) (h : Zjm p1 = some r) : Con Tryz.prog 278 [Z7 g2 (Lens.id Z6f)] (Zc g2 gT Z6f p1) (fun _ : Unit => rd Z5 r.1) (fun _ => Zc g2 gT Z6f r.2) := by
 refine Con.intro Tryz.func278 rfl Tryz.ntmps278 rfl fun w H X => ?_
 unfold Zjm at h
 refine SR <| Ab rfl <| Nl <| sq <| SR <| Mp rfl <| Nc rfl <| Zh lcover_purse_1 Yjo rfl <| Ld ty4 0 rfl <| Nl <| Cq rfl h (fun h => ?_) (fun h => ?_)
 ·refine SR <| Ab rfl <| Nl <| rt ?_
  cases h; exact Zdh (i := 0) Tryz.results278 rfl (Za rfl) rfl
 ·refine sk <| SR <| Mp rfl <| Nc rfl <| Zh lcover_purse_0 Ztp rfl <| Ld Zq 0 rfl <| Ac (Z0v rfl rfl (vt rfl) (vk rfl)) rfl <| Nc rfl <| Zh lcover_purse_0 Ztp rfl <| Zj Zq 0 rfl <| Nl <| SR <| Mp rfl <| Nc rfl <| Zh lcover_purse_0 Ztp rfl <| Ld Zq 0 rfl <| Ac (Z3z rfl rfl (vt rfl) (vk rfl)) rfl <| As rfl <| Nl <| rt ?_
  cases h; exact Zdh (i := 0) Tryz.results278 rfl (Za rfl) rfl
def Zlg (a1 : Tern) (b2 : Tern) : Option Bool :=
 (Z9t b2.Mask a1.Mask).bind fun x5 => (Zgr x5).bind fun x6 => (opt x6 (Zfa b2 a1.Value)).bind fun x7 => some (x6 && x7)
theorem Y6d : Q2 Tryz.prog 337 (rd Z4) (rd Z4) (rd Z5) Zlg := fun a1 b2 r h => I0 Tryz.func337 rfl Tryz.ntmps337 rfl fun w H => by
 unfold Zlg at h
 refine SR <| Cv rfl (Zn 3 rfl rfl (vt rfl)) fun g3 => Cv rfl (Zn 4 rfl rfl (vt rfl)) fun g4 => Ab rfl <| Nl <| sq ?_
 obtain ⟨x5, hx5, x6, hx6, x7, hx7, h⟩ := bs3 h
 refine Rg <| Zh lTern_1 Z3m rfl <| Ld Z02 4 rfl <| Zh lTern_1 Z3m rfl <| Ld Z02 3 rfl <| Cl [6, 8] (Zf9 _ _ _ hx5) Zg6 rfl <| Cl [9] (Zqv _ _ hx6) Zs0 rfl <| Md rfl <| Gd rfl (fun hq => Z29 rfl rfl Z03 (vt rfl) (i := 4) rfl) <| Gd rfl (fun hq => Z2t lTern_0 rfl rfl Z4f (vt rfl)) <| Gd rfl (fun hq => Z29 rfl rfl Z02 (Zg rfl hq) (i := 3) rfl) <| Gd rfl (fun hq => Z14 (xs := [.tmp 12, .tmp 14]) (Zsm _ _ _ (Z3t hx7 hq)) Zsa rfl rfl ⟨Zg rfl hq, Zg rfl hq, trivial⟩) <| Ac (Z21 rfl rfl (vt rfl) (vt rfl)) rfl <| As rfl <| Nl <| rt ?_
 cases h; exact Zf Tryz.results337 rfl (Za rfl)
def Zao (b2 : Zl) : (List Tern) → Nat → Option Bool
 | [], i5 => some true
 | x7 :: l6, i5 => (chk 24 (i5 : Int)).bind fun j9 => (Zlg x7 (Vector.get b2 j9)).bind fun x10 => (bif (!x10) then some false else (Zao b2 l6) (i5 + 1))
def Zkn (a1 : Zl) (b2 : Zl) : Option Bool :=
 Zao b2 (Vector.toList a1) 0
theorem Ym6 : Q2 Tryz.prog 316 (rd (Z3 24 Z4)) (rd (Z3 24 Z4)) (rd Z5) Zkn := fun a1 b2 r h => I0 Tryz.func316 rfl Tryz.ntmps316 rfl fun w H => by
 unfold Zkn at h
 refine SR <| Cv rfl (Zn 3 rfl rfl (vt rfl)) fun g3 => Cv rfl (Zn 4 rfl rfl (vt rfl)) fun g4 => Ab rfl <| Nl <| sq <| SR <| Ld Z00 3 rfl <| Mk rfl <| Nl <| bk <| LG (d := []) (ν := (List Tern) × Nat) (fun (l6, i5) => (Sfx (Vector.toList a1) i5 l6 ∧ Zao b2 l6 i5 = some r, l6.length, [(3, Z7 g4 (Lens.id (Z3 24 Z4))), (7, rd (Z3 24 Z4) a1), (8, rd (Z0 .i64) (i5 : Int))], [(4, Zc g4 87 (Z3 24 Z4) b2)])) ((Vector.toList a1), 0) ⟨Sfx.start _, h⟩ (FX rfl) ?_
 rintro ⟨l6, i5⟩ ⟨hsf1, h⟩
 dsimp only at hsf1 h ⊢
 cases l6 with
 | nil =>
  unfold Zao at h
  refine SR <| Ac (Zi rfl rfl (vt rfl) (vk rfl)) rfl <| Nl <| sq <| Cn rfl (fun hc => absurd (of_decide_eq_true hc) (hsf1.niln (by simp))) (fun hc => ?_)
  refine xt <| SR <| Ab rfl <| Nl <| rt ?_
  cases h; exact Zf Tryz.results316 rfl (Za rfl)
 | cons x7 l6 =>
  unfold Zao at h
  refine SR <| Ac (Zi rfl rfl (vt rfl) (vk rfl)) rfl <| Nl <| sq <| Cn rfl (fun hc => ?_) (fun hc => absurd (hsf1.consn (by simp)) (of_decide_eq_false hc))
  have hlti5 := of_decide_eq_true hc
  refine sk <| sq <| bk <| SR <| Md rfl <| Ac (Z97 rfl rfl Z4b Z03 (vt rfl) (vt rfl) hsf1.lget) rfl <| Cv rfl (Zs 7 rfl rfl Z2c) fun g8 => As rfl <| Zj Z03 7 rfl <| Nl <| sq ?_
  obtain ⟨j9, hj9, x10, hx10, h⟩ := bs2 h
  refine AR Zw (by kernel_rfl) <| Zm Z03 7 rfl <| SMd rfl <| Sd (lo [3, 13] [] rfl fun S hs hr => Z2u rfl rfl Z4b (vh hs 3 rfl rfl) (vh hs 13 rfl rfl) hj9) <| Zm Z03 4 rfl <| SCl [12, 15] (Y6d _ _ _ hx10) Ye3 rfl <| Sd (lo [16] [] rfl fun S hs hr => Z0z rfl rfl (vh hs 16 rfl rfl)) <| Sn <| Cq rfl h (fun h => ?_) (fun h => ?_)
  ·refine SR <| Ab rfl <| Nl <| rt ?_
   cases h; exact Zf Tryz.results316 rfl (Za rfl)
  ·refine sk <| Rg <| Ac (Z7a rfl rfl (vt rfl) (vk rfl) rfl hlti5) rfl <| Md rfl <| Nl ?_
   exact ⟨(_, _), Nat.lt_succ_self _, ⟨hsf1.next, h⟩, FX rfl⟩
end Go.Proofs.YtknpgojdkobgjaaGreat.W
set_option maxRecDepth 4000
namespace Go.Proofs.YtknpgojdkobgjaaGreat.W
open Go Go.Wb
theorem Ycq : Ent Tryz.prog 316 := Ent.mk Tryz.func316 rfl rfl
theorem Zz4 : Ent Tryz.prog 331 := Ent.mk Tryz.func331 rfl rfl
theorem Ylz : Ent Tryz.prog 294 := Ent.mk Tryz.func294 rfl rfl
theorem Zz7 : Ent Tryz.prog 319 := Ent.mk Tryz.func319 rfl rfl
theorem Y71 : Ent Tryz.prog 318 := Ent.mk Tryz.func318 rfl rfl
theorem Zv9 : Ent Tryz.prog 320 := Ent.mk Tryz.func320 rfl rfl
theorem Yfl : Ent Tryz.prog 317 := Ent.mk Tryz.func317 rfl rfl
def Z8o (x1 : Zl) : (List Zl) → Nat → Int → Option (Bool × Int)
 | [], i6, x5 => some (false, x5)
 | x8 :: l7, i6, x5 => (Z7q x1 x8).bind fun x10 => (bif (!x10.2) then (Z8o x1 l7) (i6 + 1) x5 else (Zkn x1 x8).bind fun x12 => (bif x12 then some (true, (i6 : Int)) else (bif (decide (x5 < 0)) then (Z8o x1 l7) (i6 + 1) (i6 : Int) else (Z8o x1 l7) (i6 + 1) x5)))
def Zoe (x1 : Zl) (l2 : (List Zl)) : Option (Bool × Int) :=
 Z8o x1 l2 0 (-1)
theorem Ykc : Q2 Tryz.prog 279 (rd (Z3 24 Z4)) (rd (Z1 (Z3 24 Z4))) (fun r => Z1b (rd Z5 r.1) (rd (Z0 .i64) r.2)) Zoe := fun x1 l2 r h => I0 Tryz.func279 rfl Tryz.ntmps279 rfl fun w H => by
 unfold Zoe at h
 refine SR <| Cv rfl (Zn 3 rfl rfl (vt rfl)) fun g3 => Ab rfl <| Ak rfl <| Nl <| SR <| Ak rfl <| Nl <| sq <| SR <| Md rfl <| Ac (Z0t rfl rfl Z7j (vt rfl)) rfl <| Mk rfl <| Nl <| bk <| LG (d := []) (ν := (List Zl) × Nat × Int) (fun (l7, i6, x5) => (Sfx l2 i6 l7 ∧ Z8o x1 l7 i6 x5 = some r, l7.length, [(2, Z7 g3 (Lens.id (Z3 24 Z4))), (6, rd (Z0 .i64) x5), (11, rd (Z1 (Z3 24 Z4)) l2), (12, rd (Z0 .i64) (l2.length : Int)), (13, rd (Z0 .i64) (i6 : Int))], [(3, Zc g3 87 (Z3 24 Z4) x1)])) (l2, 0, (-1)) ⟨Sfx.start _, h⟩ (FX rfl) ?_
 rintro ⟨l7, i6, x5⟩ ⟨hsf1, h⟩
 dsimp only at hsf1 h ⊢
 cases l7 with
 | nil =>
  unfold Z8o at h
  refine SR <| Ac (Zi rfl rfl (vt rfl) (vt rfl)) rfl <| Nl <| sq <| Cn rfl (fun hc => absurd (of_decide_eq_true hc) hsf1.nil) (fun hc => ?_)
  refine xt <| SR <| Md rfl <| Ab rfl <| As rfl <| Nl <| rt ?_
  cases h; exact Z1m Tryz.results279 rfl (Za rfl) (Za rfl)
 | cons x8 l7 =>
  unfold Z8o at h
  refine SR <| Ac (Zi rfl rfl (vt rfl) (vt rfl)) rfl <| Nl <| sq <| Cn rfl (fun hc => ?_) (fun hc => absurd hsf1.cons (of_decide_eq_false hc))
  have hlti6 := of_decide_eq_true hc
  refine sk <| sq <| bk <| SR <| Md rfl <| Ac (Z0k rfl rfl Z7j (vt rfl) (vt rfl) hsf1.lget) rfl <| Lp1 Z00 rfl <| Cv rfl (Zs 9 rfl rfl Z2a) fun g9 => As rfl <| Zj Z00 9 rfl <| Nl <| sq ?_
  obtain ⟨x10, hx10, h⟩ := Z8 h
  refine Rg <| Ld Z00 3 rfl <| Ld Z00 9 rfl <| Cl [19, 20] (Zo6 _ _ _ hx10) Zp1 rfl <| Mt2 rfl <| Ac (Z1n rfl rfl (vt rfl)) rfl <| Ac (Z1l rfl rfl (vt rfl)) rfl <| Cv rfl (Zs 10 rfl rfl Z2a) fun g11 => Zj Z00 10 rfl <| As rfl <| Nl <| bk <| SR <| Md rfl <| Ac (Z0z rfl rfl (vt rfl)) rfl <| As rfl <| Nl <| Cq rfl h (fun h => ?_) (fun h => ?_)
  ·refine sk <| Rg <| Ac (Z0u (t := 12) rfl rfl (vt rfl) (vk rfl) (vt rfl) hlti6) rfl <| Md rfl <| Nl ?_
   exact ⟨(_, _, _), Nat.lt_succ_self _, ⟨hsf1.next, h⟩, FX rfl⟩
  ·refine sq ?_
   obtain ⟨x12, hx12, h⟩ := Z8 h
   refine Rg <| Ld Z00 3 rfl <| Ld Z00 9 rfl <| Cl [28, 29] (Ym6 _ _ _ hx12) Ycq rfl <| As rfl <| Nl <| Cq rfl h (fun h => ?_) (fun h => ?_)
   ·refine SR <| Md rfl <| Ab rfl <| As rfl <| Nl <| rt ?_
    cases h; exact Z1m Tryz.results279 rfl (Za rfl) (Za rfl)
   ·refine SR <| Md rfl <| Ac (Zi rfl rfl (vt rfl) (vk rfl)) rfl <| As rfl <| Nl <| Cq rfl h (fun h => ?_) (fun h => ?_)
    ·refine Rg <| Md rfl <| As rfl <| Nl <| Rg <| Ac (Z0u (t := 12) rfl rfl (vt rfl) (vk rfl) (vt rfl) hlti6) rfl <| Md rfl <| Nl ?_
     exact ⟨(_, _, _), Nat.lt_succ_self _, ⟨hsf1.next, h⟩, FX rfl⟩
    ·refine sk <| Rg <| Ac (Z0u (t := 12) rfl rfl (vt rfl) (vk rfl) (vt rfl) hlti6) rfl <| Md rfl <| Nl ?_
     exact ⟨(_, _, _), Nat.lt_succ_self _, ⟨hsf1.next, h⟩, FX rfl⟩
def Z9r : (List Tern) → Nat → Z09 → Option Z09
 | [], i7, b6 => some b6
 | x9 :: l8, i7, b6 => (Z7e x9).bind fun x11 => (chk 24 (i7 : Int)).bind fun j12 => (Z9r l8) (i7 + 1) (Vector.set b6 j12.1 x11.Value j12.2)
def Zi6 (x1 : Zl) : Option Z09 :=
 Z9r (Vector.toList x1) 0 (Vector.replicate 24 Z0j)
theorem Ya2 : Q1 Tryz.prog 70 (rd (Z3 24 Z4)) (rd (Z3 24 Zd)) Zi6 := fun x1 r h => I0 Tryz.func70 rfl Tryz.ntmps70 rfl fun w H => by
 unfold Zi6 at h
 refine SR <| Cv rfl (Zn 2 rfl rfl (vt rfl)) fun g2 => Cv rfl (Zs 3 rfl rfl Z4r) fun g3 => Nl <| SR <| Cv rfl (Zs 4 rfl rfl Z4r) fun g4 => Nl <| sq <| SR <| Ld Z00 2 rfl <| Mk rfl <| Nl <| bk <| LG (d := []) (ν := (List Tern) × Nat × Z09) (fun (l8, i7, b6) => (Sfx (Vector.toList x1) i7 l8 ∧ Z9r l8 i7 b6 = some r, l8.length, [(2, Z7 g3 (Lens.id (Z3 24 Zd))), (3, Z7 g4 (Lens.id (Z3 24 Zd))), (6, rd (Z3 24 Z4) x1), (7, rd (Z0 .i64) (i7 : Int))], [(3, Zc g3 44 (Z3 24 Zd) (Vector.replicate 24 Z0j)), (4, Zc g4 44 (Z3 24 Zd) b6)])) ((Vector.toList x1), 0, (Vector.replicate 24 Z0j)) ⟨Sfx.start _, h⟩ (FX rfl) ?_
 rintro ⟨l8, i7, b6⟩ ⟨hsf1, h⟩
 dsimp only at hsf1 h ⊢
 cases l8 with
 | nil =>
  unfold Z9r at h
  refine SR <| Ac (Zi rfl rfl (vt rfl) (vk rfl)) rfl <| Nl <| sq <| Cn rfl (fun hc => absurd (of_decide_eq_true hc) (hsf1.niln (by simp))) (fun hc => ?_)
  refine xt <| SR <| Ld Z0g 4 rfl <| Zj Z0g 3 rfl <| Nl <| rt ?_
  cases h; exact Zf Tryz.results70 rfl (Z01 rfl (i := 3) rfl Z0g)
 | cons x9 l8 =>
  unfold Z9r at h
  refine SR <| Ac (Zi rfl rfl (vt rfl) (vk rfl)) rfl <| Nl <| sq <| Cn rfl (fun hc => ?_) (fun hc => absurd (hsf1.consn (by simp)) (of_decide_eq_false hc))
  have hlti7 := of_decide_eq_true hc
  refine sk <| sq <| bk <| SR <| Md rfl <| Ac (Z97 rfl rfl Z4b Z03 (vt rfl) (vt rfl) hsf1.lget) rfl <| Cv rfl (Zs 6 rfl rfl Z2c) fun g10 => As rfl <| Zj Z03 6 rfl <| Nl ?_
  obtain ⟨x11, hx11, j12, hj12, h⟩ := bs2 h
  refine Rg <| Md rfl <| Ld Z03 6 rfl <| Cl [12] (Z9z _ _ hx11) Za4 rfl <| Ac (Zzo lTern_0 rfl rfl Z4f Y5v Z02 rfl (vt rfl)) rfl <| Ac (Z2u rfl rfl Zdl (vt rfl) (vt rfl) hj12) rfl <| Zj Z02 4 rfl <| Nl <| Rg <| Ac (Z7a rfl rfl (vt rfl) (vk rfl) rfl hlti7) rfl <| Md rfl <| Nl ?_
  exact ⟨(_, _, _), Nat.lt_succ_self _, ⟨hsf1.next, h⟩, FX rfl⟩
def Zgq (x1 : (BitVec 64)) : Option Int :=
 (Z3a x1 ((1 : BitVec 64).toNat : Int)).bind fun q2 => (Z3a ((q2 &&& (6148914691236517205 : BitVec 64)) + (x1 &&& (6148914691236517205 : BitVec 64))) ((2 : BitVec 64).toNat : Int)).bind fun q3 => (Z3a ((q3 &&& (3689348814741910323 : BitVec 64)) + (((q2 &&& (6148914691236517205 : BitVec 64)) + (x1 &&& (6148914691236517205 : BitVec 64))) &&& (3689348814741910323 : BitVec 64))) ((4 : BitVec 64).toNat : Int)).bind fun q4 => (Z3a ((q4 + ((q3 &&& (3689348814741910323 : BitVec 64)) + (((q2 &&& (6148914691236517205 : BitVec 64)) + (x1 &&& (6148914691236517205 : BitVec 64))) &&& (3689348814741910323 : BitVec 64)))) &&& (1085102592571150095 : BitVec 64)) ((8 : BitVec 64).toNat : Int)).bind fun q5 => (Z3a (((q4 + ((q3 &&& (3689348814741910323 : BitVec 64)) + (((q2 &&& (6148914691236517205 : BitVec 64)) + (x1 &&& (6148914691236517205 : BitVec 64))) &&& (3689348814741910323 : BitVec 64)))) &&& (1085102592571150095 : BitVec 64)) + q5) ((16 : BitVec 64).toNat : Int)).bind fun q6 => (Z3a ((((q4 + ((q3 &&& (3689348814741910323 : BitVec 64)) + (((q2 &&& (6148914691236517205 : BitVec 64)) + (x1 &&& (6148914691236517205 : BitVec 64))) &&& (3689348814741910323 : BitVec 64)))) &&& (1085102592571150095 : BitVec 64)) + q5) + q6) ((32 : BitVec 64).toNat : Int)).bind fun q7 => some (Zsh .and .i64 (IntKind.i64.wrap ((((((q4 + ((q3 &&& (3689348814741910323 : BitVec 64)) + (((q2 &&& (6148914691236517205 : BitVec 64)) + (x1 &&& (6148914691236517205 : BitVec 64))) &&& (3689348814741910323 : BitVec 64)))) &&& (1085102592571150095 : BitVec 64)) + q5) + q6) + q7).toNat : Int)) 127)
theorem Zww : Q1 Tryz.prog 331 (rd Z0p) (rd (Z0 .i64)) Zgq := fun x1 r h => I0 Tryz.func331 rfl Tryz.ntmps331 rfl fun w H => by
 unfold Zgq at h
 refine SR <| Ak rfl <| Nl <| sq ?_
 obtain ⟨q2, hq2, h⟩ := Z8 h
 refine Rg <| Md rfl <| Ac (Z67 rfl rfl (vt rfl) (Z65 (vku (1 : BitVec 64) rfl)) hq2) rfl <| Ac (Zdc rfl rfl (vt rfl) (vku (6148914691236517205 : BitVec 64) rfl)) rfl <| Md rfl <| Ac (Zdc rfl rfl (vt rfl) (vku (6148914691236517205 : BitVec 64) rfl)) rfl <| Ac (Zhn rfl rfl (vt rfl) (vt rfl)) rfl <| As rfl <| Nl <| sq ?_
 obtain ⟨q3, hq3, h⟩ := Z8 h
 refine Rg <| Md rfl <| Ac (Z67 rfl rfl (vt rfl) (Z65 (vku (2 : BitVec 64) rfl)) hq3) rfl <| Ac (Zdc rfl rfl (vt rfl) (vku (3689348814741910323 : BitVec 64) rfl)) rfl <| Md rfl <| Ac (Zdc rfl rfl (vt rfl) (vku (3689348814741910323 : BitVec 64) rfl)) rfl <| Ac (Zhn rfl rfl (vt rfl) (vt rfl)) rfl <| As rfl <| Nl <| sq ?_
 obtain ⟨q4, hq4, h⟩ := Z8 h
 refine Rg <| Md rfl <| Ac (Z67 rfl rfl (vt rfl) (Z65 (vku (4 : BitVec 64) rfl)) hq4) rfl <| Md rfl <| Ac (Zhn rfl rfl (vt rfl) (vt rfl)) rfl <| Ac (Zdc rfl rfl (vt rfl) (vku (1085102592571150095 : BitVec 64) rfl)) rfl <| As rfl <| Nl <| sq ?_
 obtain ⟨q5, hq5, h⟩ := Z8 h
 refine Rg <| Md rfl <| Md rfl <| Ac (Z67 rfl rfl (vt rfl) (Z65 (vku (8 : BitVec 64) rfl)) hq5) rfl <| Ac (Zhn rfl rfl (vt rfl) (vt rfl)) rfl <| As rfl <| Nl <| sq ?_
 obtain ⟨q6, hq6, h⟩ := Z8 h
 refine Rg <| Md rfl <| Md rfl <| Ac (Z67 rfl rfl (vt rfl) (Z65 (vku (16 : BitVec 64) rfl)) hq6) rfl <| Ac (Zhn rfl rfl (vt rfl) (vt rfl)) rfl <| As rfl <| Nl <| sq ?_
 obtain ⟨q7, hq7, h⟩ := Z8 h
 refine Rg <| Md rfl <| Md rfl <| Ac (Z67 rfl rfl (vt rfl) (Z65 (vku (32 : BitVec 64) rfl)) hq7) rfl <| Ac (Zhn rfl rfl (vt rfl) (vt rfl)) rfl <| As rfl <| Nl <| SR <| Md rfl <| Ac (Z9y rfl rfl Yit un3 (vt rfl)) rfl <| Ac (Ya7 rfl rfl (vt rfl) (vk rfl)) rfl <| As rfl <| Nl <| rt ?_
 cases h; exact Zf Tryz.results331 rfl (Za rfl)
def Zl3 (a1 : Wide) : Option Int :=
 (Zgq a1.Hi).bind fun x3 => (Zgq a1.Lo).bind fun x4 => some (IntKind.i64.wrap (x3 + x4))
theorem Y78 : Q1 Tryz.prog 294 (rd Zd) (rd (Z0 .i64)) Zl3 := fun a1 r h => I0 Tryz.func294 rfl Tryz.ntmps294 rfl fun w H => by
 unfold Zl3 at h
 refine SR <| Cv rfl (Zn 2 rfl rfl (vt rfl)) fun g2 => Ak rfl <| Nl <| sq ?_
 obtain ⟨x3, hx3, x4, hx4, h⟩ := bs2 h
 refine AR Zw (by kernel_rfl) <| Zv lWide_0 Z8z rfl <| Zm Z2p 2 rfl <| SCl [4] (Zww _ _ hx3) Zz4 rfl <| Zv lWide_1 Z7r rfl <| Zm Z2p 2 rfl <| SCl [7] (Zww _ _ hx4) Zz4 rfl <| Sd (lo [5, 8] [] rfl fun S hs hr => Z0o rfl rfl (vh hs 5 rfl rfl) (vh hs 8 rfl rfl)) <| SAs rfl <| Sn <| rt ?_
 cases h; exact Zf Tryz.results294 rfl (Za rfl)
def Zfn (a1 : Wide) (i2 : Int) : Option Bool :=
 (Zb8 i2).bind fun x4 => (Zc0 a1 x4).bind fun x5 => (Zgr x5).bind fun x6 => some (!x6)
theorem Y50 : Q2 Tryz.prog 319 (rd Zd) (rd (Z0 .i64)) (rd Z5) Zfn := fun a1 i2 r h => I0 Tryz.func319 rfl Tryz.ntmps319 rfl fun w H => by
 unfold Zfn at h
 refine SR <| Cv rfl (Zn 3 rfl rfl (vt rfl)) fun g3 => Ab rfl <| Nl <| sq ?_
 obtain ⟨x4, hx4, x5, hx5, x6, hx6, h⟩ := bs3 h
 refine AR Zw (by kernel_rfl) <| Zm Z02 3 rfl <| SMd rfl <| SCl [6] (Zor _ _ hx4) Zpe rfl <| SCl [5, 7] (Zkc _ _ _ hx5) Zlj rfl <| SCl [8] (Zqv _ _ hx6) Zs0 rfl <| Sd (lo [9] [] rfl fun S hs hr => Z0z rfl rfl (vh hs 9 rfl rfl)) <| SAs rfl <| Sn <| rt ?_
 cases h; exact Zf Tryz.results319 rfl (Za rfl)
def Zb4 (x5 : Wide) : Nat → (List Int) → Int → Option (List Int)
 | 0, _, _ => none
 | m13 + 1, l10, i12 => (opt (decide (i12 ≥ 0)) (Zl3 x5)).bind fun x14 => (bif ((decide (i12 ≥ 0)) && (decide ((l10.length : Int) < x14))) then (Zfn x5 i12).bind fun x15 => (bif x15 then (Z18 l10 [i12]).bind fun l16 => (Zb4 x5 m13) l16 (IntKind.i64.wrap (i12 - 1)) else (Zb4 x5 m13) l10 (IntKind.i64.wrap (i12 - 1))) else some l10)
def Ziy (a1 : Tern) (b2 : Tern) : Option (List Int) :=
 (Z9t b2.Mask a1.Mask).bind fun x5 => Zb4 x5 Z0l [] 127
theorem Y8i : Q2 Tryz.prog 318 (rd Z4) (rd Z4) (rd (Z1 (Z0 .i64))) Ziy := fun a1 b2 r h => I0 Tryz.func318 rfl Tryz.ntmps318 rfl fun w H => by
 unfold Ziy at h
 refine SR <| Cv rfl (Zn 3 rfl rfl (vt rfl)) fun g3 => Cv rfl (Zn 4 rfl rfl (vt rfl)) fun g4 => Ac (Zy (A := rd (Z1 (Z0 .i64)) []) rfl rfl Z1i) rfl <| Nl <| sq ?_
 obtain ⟨x5, hx5, h⟩ := Z8 h
 refine Rg <| Zh lTern_1 Z3m rfl <| Ld Z02 4 rfl <| Zh lTern_1 Z3m rfl <| Ld Z02 3 rfl <| Cl [9, 11] (Zf9 _ _ _ hx5) Zg6 rfl <| Cv rfl (Zs 6 rfl rfl Z3p) fun g6 => Zj Z02 6 rfl <| Nl <| sq <| AW.newnil 1001 3 (Z0 .i64) <| Rg <| Ac (Zy rfl rfl vc) rfl <| Nl <| sq <| SR <| Ak rfl <| Nl <| bk <| LG (d := []) (ν := Nat × (List Int) × Int × Value) (fun (m13, l10, i12, v11) => (True ∧ Zb4 x5 m13 l10 i12 = some r, m13, [(5, Z7 g6 (Lens.id Zd)), (6, Zo v11), (7, rd (Z0 .i64) i12)], [(6, Zc g6 42 Zd x5), (1001, Zb v11 3 (Z0 .i64) l10)])) (Z0l, [], 127, (.slice none 0 0)) ⟨trivial, h⟩ (FX rfl) ?_
 rintro ⟨m13, l10, i12, v11⟩ ⟨hsf1, h⟩
 dsimp only at h ⊢
 cases m13 with
 | zero => cases h
 | succ m13 =>
  unfold Zb4 at h
  refine sq <| sq ?_
  obtain ⟨x14, hx14, h⟩ := Z8 h
  refine Rg <| Md rfl <| Ac (Z3z rfl rfl (vt rfl) (vk rfl)) rfl <| Md rfl <| Gd rfl (fun hq => Zp (A := Zo v11) rfl rfl (vt rfl)) <| Gd rfl (fun hq => Z6o 1001 rfl rfl Z15 (Zg rfl hq) rfl) <| Gd rfl (fun hq => Z29 rfl rfl Z02 (vt rfl) (i := 6) rfl) <| Gd rfl (fun hq => Z14 (xs := [.tmp 18]) (Y78 _ _ (Z3t hx14 hq)) Ylz rfl rfl ⟨Zg rfl hq, trivial⟩) <| Gd rfl (fun hq => Zi rfl rfl (Zg rfl hq) (Zg rfl hq)) <| Ac (Z21 rfl rfl (vt rfl) (vt rfl)) rfl <| Nl <| Cq rfl h (fun h => ?_) (fun h => ?_)
  ·refine sk <| sq <| bk <| sq ?_
   obtain ⟨x15, hx15, h⟩ := Z8 h
   refine Rg <| Ld Z02 6 rfl <| Md rfl <| Cl [24, 25] (Y50 _ _ _ hx15) Zz7 rfl <| Nl <| Cq rfl h (fun h => ?_) (fun h => ?_)
   ·obtain ⟨l16, hl16, h⟩ := Z8 h
    refine Rg <| Mw rfl <| Md rfl <| Ac (osl Z15 zr3 rfl (vt rfl)) rfl <| Cv rfl (Z44 1001 hl16 rfl rfl Zmk (vt rfl) rfl (vt rfl)) fun v17 => Aw rfl <| Nl <| Rg <| Md rfl <| Ac (Z0v rfl rfl (vt rfl) (vk rfl)) rfl <| As rfl <| Nl ?_
    exact ⟨(_, _, _, _), Nat.lt_succ_self _, ⟨trivial, h⟩, FX rfl⟩
   ·refine sk <| Rg <| Md rfl <| Ac (Z0v rfl rfl (vt rfl) (vk rfl)) rfl <| As rfl <| Nl ?_
    exact ⟨(_, _, _, _), Nat.lt_succ_self _, ⟨trivial, h⟩, FX rfl⟩
  ·refine xt <| SR <| Mw rfl <| Aw rfl <| Nl <| AW.freezes [4, 6, 31] 1001 rfl ⟨rfl, rfl, rfl, trivial⟩ rfl <| rt ?_
   cases h; exact Zf Tryz.results318 rfl (Za rfl)
def Zhy (t1 : Tern) (i2 : Int) (o3 : Bool) : Option Tern :=
 (Zb8 i2).bind fun x6 => (Z7e t1).bind fun x8 => (Z8s x8.Mask x6).bind fun x9 => (Z9t x8.Value x6).bind fun x10 => (bif o3 then (Z8s ({ { x8 with Mask := x9 } with Value := x10 }.Value) x6).bind fun x11 => some { { { x8 with Mask := x9 } with Value := x10 } with Value := x11 } else some { { x8 with Mask := x9 } with Value := x10 })
theorem Zyv : Q3 Tryz.prog 320 (rd Z4) (rd (Z0 .i64)) (rd Z5) (rd Z4) Zhy := fun t1 i2 o3 r h => I0 Tryz.func320 rfl Tryz.ntmps320 rfl fun w H => by
 unfold Zhy at h
 refine SR <| Cv rfl (Zn 4 rfl rfl (vt rfl)) fun g4 => Cv rfl (Zs 7 rfl rfl Z2c) fun g5 => Nl <| sq ?_
 obtain ⟨x6, hx6, h⟩ := Z8 h
 refine Rg <| Md rfl <| Cl [8] (Zor _ _ hx6) Zpe rfl <| Cv rfl (Zs 8 rfl rfl Z3p) fun g7 => Zj Z02 8 rfl <| Nl <| sq ?_
 obtain ⟨x8, hx8, h⟩ := Z8 h
 refine Rg <| Ld Z03 4 rfl <| Cl [10] (Z9z _ _ hx8) Za4 rfl <| Zj Z03 4 rfl <| Nl <| sq ?_
 obtain ⟨x9, hx9, x10, hx10, h⟩ := bs2 h
 refine AR Zw (by kernel_rfl) <| Zv lTern_1 Z3m rfl <| Zm Z02 4 rfl <| Zm Z02 8 rfl <| SCl [13, 14] (Zex _ _ _ hx9) Zcp rfl <| Zv lTern_0 Z4f rfl <| Zm Z02 4 rfl <| Zm Z02 8 rfl <| SCl [17, 18] (Zf9 _ _ _ hx10) Zg6 rfl <| Zv lTern_1 Z3m rfl <| SSt Z02 4 rfl <| Zv lTern_0 Z4f rfl <| SSt Z02 4 rfl <| Sn <| sq <| SR <| Md rfl <| Nl <| Cq rfl h (fun h => ?_) (fun h => ?_)
 ·obtain ⟨x11, hx11, h⟩ := Z8 h
  refine Rg <| Zh lTern_0 Z4f rfl <| Ld Z02 4 rfl <| Ld Z02 8 rfl <| Cl [24, 25] (Zex _ _ _ hx11) Zcp rfl <| Zh lTern_0 Z4f rfl <| Zj Z02 4 rfl <| Nl <| SR <| Ld Z03 4 rfl <| Zj Z03 7 rfl <| Nl <| rt ?_
  cases h; exact Zf Tryz.results320 rfl (Z01 rfl (i := 7) rfl Z03)
 ·refine sk <| SR <| Ld Z03 4 rfl <| Zj Z03 7 rfl <| Nl <| rt ?_
  cases h; exact Zf Tryz.results320 rfl (Z01 rfl (i := 7) rfl Z03)
def Zd4 (sg : Type) (go1 : Nat → Zl → (Lp sg) → Option (Lp sg)) (i14 : Nat) (x16 : Tern) (y1 : (sg → Zl → Option (Lp sg))) : (List Int) → Nat → Zl → (Lp sg) → Option (Lp sg)
 | [], i24, b22, s23 => go1 (i14 + 1) b22 s23
 | x26 :: l25, i24, b22, s23 => (Zfn x16.Value x26).bind fun x27 => (chk 24 (i14 : Int)).bind fun j29 => (Zhy (Vector.get b22 j29) x26 (!x27)).bind fun x30 => (chk 24 (i14 : Int)).bind fun j31 => (yc y1 s23 (Vector.set b22 j31.1 x30 j31.2)).bind fun s32 => (bif (!(Lp.isGo s32)) then some s32 else (chk 24 (i14 : Int)).bind fun j33 => (Zhy (Vector.get b22 j33) x26 x27).bind fun x34 => (chk 24 (i14 : Int)).bind fun j35 => (Zd4 sg go1 i14 x16 y1 l25) (i24 + 1) (Vector.set b22 j35.1 x34 j35.2) s32)
def Z9q (sg : Type) (y1 : (sg → Zl → Option (Lp sg))) : (List Tern) → Nat → Zl → (Lp sg) → Option (Lp sg)
 | [], i14, b12, s13 => some s13
 | x16 :: l15, i14, b12, s13 => (chk 24 (i14 : Int)).bind fun j18 => (Ziy (Vector.get b12 j18) x16).bind fun x19 => (bif (decide ((x19.length : Int) = 0)) then (Z9q sg y1 l15) (i14 + 1) b12 s13 else Zd4 sg (Z9q sg y1 l15) i14 x16 y1 x19 0 b12 s13)
def Zbr (sg : Type) (y1 : (sg → Zl → Option (Lp sg))) (s2 : (Lp sg)) (x3 : Zl) (x4 : Zl) : Option (Lp sg) :=
 (Zca x3).bind fun x5 => (Z7q x3 x4).bind fun x7 => (bif (!x7.2) then (yc y1 s2 x5).bind fun s9 => some s9 else Z9q sg y1 (Vector.toList x4) 0 x5 s2)
theorem Yl8 (sg : Type) (y1 : (sg → Zl → Option (Lp sg))) (L : Lp sg → Zu) (s2 : (Lp sg)) (x3 : Zl) (x4 : Zl) (r : (Lp sg)) (h : Zbr sg y1 s2 x3 x4 = some r) : Con Tryz.prog 317 [ydA Tryz.prog (Z3 24 Z4) y1 L, rp (Z3 24 Z4) x3, rp (Z3 24 Z4) x4] (L s2) (fun _ : Unit => top) (fun _ => L r) := by
 refine Con.intro Tryz.func317 rfl Tryz.ntmps317 rfl fun w H X => ?_
 unfold Zbr at h
 refine AW.scope <| sq ?_
 obtain ⟨x5, hx5, h⟩ := Z8 h
 refine Rg <| Lp1 Z00 rfl <| Cl [14] (Zo9 _ _ hx5) Zn2 rfl <| Cv rfl (Zs 5 rfl rfl Z2a) fun g6 => Zj Z00 5 rfl <| Nl <| sq <| sq ?_
 obtain ⟨x7, hx7, h⟩ := Z8 h
 refine Rg <| Lp1 Z00 rfl <| Lp1 Z00 rfl <| Cl [17, 18] (Zo6 _ _ _ hx7) Zp1 rfl <| Mt2 rfl <| Ac (Z1n rfl rfl (vt rfl)) rfl <| Ac (Z1l rfl rfl (vt rfl)) rfl <| Cv rfl (Zs 6 rfl rfl Z2a) fun g8 => Zj Z00 6 rfl <| As rfl <| Nl <| SR <| Md rfl <| Ac (Z0z rfl rfl (vt rfl)) rfl <| Nl <| Cq rfl h (fun h => ?_) (fun h => ?_)
 ·refine sq ?_
  obtain ⟨s9, hs9, h⟩ := Z8 h
  refine Rg <| Ac (Zp (A := ydA Tryz.prog (Z3 24 Z4) y1 L) rfl rfl (vt rfl)) rfl <| Ld Z00 5 rfl <| Ac (Zlb 0 hs9 rfl rfl (vt rfl) (vt rfl) rfl) rfl <| Nl <| rt ?_
  cases h; exact Z1k (i := 0) Tryz.results317 rfl rfl
 ·refine sk <| sq <| AW.label <| SR <| Lp1 Z00 rfl <| Mk rfl <| Nl <| bk <| LG (d := []) (ν := (List Tern) × Nat × Zl × (Lp sg)) (fun (l15, i14, b12, s13) => (Sfx (Vector.toList x4) i14 l15 ∧ Z9q sg y1 l15 i14 b12 s13 = some r, l15.length, [(0, ydA Tryz.prog (Z3 24 Z4) y1 L), (4, Z7 g6 (Lens.id (Z3 24 Z4))), (27, rd (Z3 24 Z4) x4), (28, rd (Z0 .i64) (i14 : Int))], [(0, L s13), (5, Zc g6 87 (Z3 24 Z4) b12)])) ((Vector.toList x4), 0, x5, s2) ⟨Sfx.start _, h⟩ (FX rfl) ?_
  rintro ⟨l15, i14, b12, s13⟩ ⟨hsf1, h⟩
  dsimp only at hsf1 h ⊢
  cases l15 with
  | nil =>
   unfold Z9q at h
   refine SR <| Ac (Zi rfl rfl (vt rfl) (vk rfl)) rfl <| Nl <| sq <| Cn rfl (fun hc => absurd (of_decide_eq_true hc) (hsf1.niln (by simp))) (fun hc => ?_)
   refine xt ?_
   cases h; exact Z1k (i := 0) Tryz.results317 rfl rfl
  | cons x16 l15 =>
   unfold Z9q at h
   refine SR <| Ac (Zi rfl rfl (vt rfl) (vk rfl)) rfl <| Nl <| sq <| Cn rfl (fun hc => ?_) (fun hc => absurd (hsf1.consn (by simp)) (of_decide_eq_false hc))
   have hlti14 := of_decide_eq_true hc
   refine sk <| sq <| bk <| SR <| Md rfl <| Ac (Z97 rfl rfl Z4b Z03 (vt rfl) (vt rfl) hsf1.lget) rfl <| Cv rfl (Zs 9 rfl rfl Z2c) fun g17 => As rfl <| Zj Z03 9 rfl <| Nl <| sq ?_
   obtain ⟨j18, hj18, x19, hx19, h⟩ := bs2 h
   refine AR Zw (by kernel_rfl) <| SMd rfl <| Sd (lo [4, 32] [] rfl fun S hs hr => Z2u rfl rfl Z4b (vh hs 4 rfl rfl) (vh hs 32 rfl rfl) hj18) <| Zm Z03 5 rfl <| Zm Z03 9 rfl <| SCl [34, 35] (Y8i _ _ _ hx19) Y71 rfl <| SAs rfl <| Sn <| sq <| SR <| Md rfl <| Ac (Z0t rfl rfl Z15 (vt rfl)) rfl <| Ac (Z1r rfl rfl (vt rfl) (vk rfl)) rfl <| Nl <| Cq rfl h (fun h => ?_) (fun h => ?_)
   ·refine xt <| Rg <| Ac (Z7a rfl rfl (vt rfl) (vk rfl) rfl hlti14) rfl <| Md rfl <| Nl ?_
    exact ⟨(_, _, _, _), Nat.lt_succ_self _, ⟨hsf1.next, h⟩, FX rfl⟩
   ·refine sk <| SR <| Md rfl <| Ac (Z0t rfl rfl Z15 (vt rfl)) rfl <| Mk rfl <| Nl <| bk <| LG (d := []) (ν := (List Int) × Nat × Zl × (Lp sg)) (fun (l25, i24, b22, s23) => (Sfx x19 i24 l25 ∧ Zd4 sg (Z9q sg y1 l15) i14 x16 y1 l25 i24 b22 s23 = some r, l25.length, [(0, ydA Tryz.prog (Z3 24 Z4) y1 L), (4, Z7 g6 (Lens.id (Z3 24 Z4))), (7, rd (Z0 .i64) (i14 : Int)), (8, Z7 g17 (Lens.id Z4)), (27, rd (Z3 24 Z4) x4), (28, rd (Z0 .i64) (i14 : Int)), (40, rd (Z1 (Z0 .i64)) x19), (41, rd (Z0 .i64) (x19.length : Int)), (42, rd (Z0 .i64) (i24 : Int))], [(0, L s23), (5, Zc g6 87 (Z3 24 Z4) b22), (9, Zc g17 85 Z4 x16)])) (x19, 0, b12, s13) ⟨Sfx.start _, h⟩ (FX rfl) ?_
    rintro ⟨l25, i24, b22, s23⟩ ⟨hsf2, h⟩
    dsimp only at hsf2 h ⊢
    cases l25 with
    | nil =>
     unfold Zd4 at h
     refine SR <| Ac (Zi rfl rfl (vt rfl) (vt rfl)) rfl <| Nl <| sq <| Cn rfl (fun hc => absurd (of_decide_eq_true hc) hsf2.nil) (fun hc => ?_)
     refine xt <| Rg <| Ac (Z7a rfl rfl (vt rfl) (vk rfl) rfl hlti14) rfl <| Md rfl <| Nl ?_
     exact ⟨(_, _, _, _), Nat.lt_succ_self _, ⟨hsf1.next, h⟩, FX rfl⟩
    | cons x26 l25 =>
     unfold Zd4 at h
     refine SR <| Ac (Zi rfl rfl (vt rfl) (vt rfl)) rfl <| Nl <| sq <| Cn rfl (fun hc => ?_) (fun hc => absurd hsf2.cons (of_decide_eq_false hc))
     have hlti24 := of_decide_eq_true hc
     refine sk <| sq <| bk <| SR <| Ac (Z0k rfl rfl Z15 (vt rfl) (vt rfl) hsf2.lget) rfl <| Lp1 Zq rfl <| As rfl <| Nl <| sq ?_
     obtain ⟨x27, hx27, h⟩ := Z8 h
     refine Rg <| Zh lTern_0 Z4f rfl <| Ld Z02 9 rfl <| Md rfl <| Cl [47, 48] (Y50 _ _ _ hx27) Zz7 rfl <| As rfl <| Nl <| SR <| Ld Z00 5 rfl <| Cv rfl (Zs 14 rfl rfl Z2a) fun g28 => Zj Z00 14 rfl <| Nl <| sq ?_
     obtain ⟨j29, hj29, x30, hx30, j31, hj31, h⟩ := bs3 h
     refine Rg <| Md rfl <| Md rfl <| Ac (Z2u rfl rfl Z4b (vt rfl) (vt rfl) hj29) rfl <| Ld Z03 5 rfl <| Md rfl <| Md rfl <| Ac (Z0z rfl rfl (vt rfl)) rfl <| Cl [54, 55, 57] (Zyv _ _ _ _ hx30) Zv9 rfl <| Ac (Z2u rfl rfl Z4b (vt rfl) (vt rfl) hj31) rfl <| Zj Z03 14 rfl <| Nl <| sq <| sq ?_
     obtain ⟨s32, hs32, h⟩ := Z8 h
     refine Rg <| Ac (Zp (A := ydA Tryz.prog (Z3 24 Z4) y1 L) rfl rfl (vt rfl)) rfl <| Ld Z00 14 rfl <| Ac (Zlb 0 hs32 rfl rfl (vt rfl) (vt rfl) rfl) rfl <| Ac (Z0z rfl rfl (vt rfl)) rfl <| Nl <| Cq rfl h (fun h => ?_) (fun h => ?_)
     ·refine xt ?_
      cases h; exact Z1k (i := 0) Tryz.results317 rfl rfl
     ·refine sk ?_
      obtain ⟨j33, hj33, x34, hx34, j35, hj35, h⟩ := bs3 h
      refine Rg <| Md rfl <| Md rfl <| Ac (Z2u rfl rfl Z4b (vt rfl) (vt rfl) hj33) rfl <| Ld Z03 5 rfl <| Md rfl <| Md rfl <| Cl [67, 68, 69] (Zyv _ _ _ _ hx34) Zv9 rfl <| Ac (Z2u rfl rfl Z4b (vt rfl) (vt rfl) hj35) rfl <| Zj Z03 5 rfl <| Nl <| Rg <| Ac (Z0u (t := 41) rfl rfl (vt rfl) (vk rfl) (vt rfl) hlti24) rfl <| Md rfl <| Nl ?_
      exact ⟨(_, _, _, _), Nat.lt_succ_self _, ⟨hsf2.next, h⟩, FX rfl⟩
def Zlo (a1 : Zl) (b2 : Zl) : Option (Itr Zl) :=
 some (Itr.mk fun σ y s => Zbr σ y s a1 b2)
theorem Y37 : Q2 Tryz.prog 280 (rd (Z3 24 Z4)) (rd (Z3 24 Z4)) (Z4p Tryz.prog (Z3 24 Z4)) Zlo := fun a1 b2 r h => I0 Tryz.func280 rfl Tryz.ntmps280 rfl fun w H => by
 unfold Zlo at h
 refine SR <| Cv rfl (Zn 3 rfl rfl (vt rfl)) fun g3 => Cv rfl (Zn 4 rfl rfl (vt rfl)) fun g4 => Ac (Zy (A := Zo .nilFunc) rfl rfl vc) rfl <| Nl <| sq <| AW.freezeB 2 3 rfl rfl rfl <| AW.freezeB 3 4 rfl rfl rfl <| Rg <| Ac (Zrw (Itr.mk fun σ y s => Zbr σ y s a1 b2) (cs := [.tmp 2, .tmp 3]) (CAs := [rp (Z3 24 Z4) a1, rp (Z3 24 Z4) b2]) rfl rfl Yfl ⟨vt rfl, vt rfl, trivial⟩ (fun σ y L s r h => Yl8 σ y L s a1 b2 r h)) rfl <| Ac (Zy (A := Z4p Tryz.prog (Z3 24 Z4) (Itr.mk fun σ y s => Zbr σ y s a1 b2)) rfl rfl (vt rfl)) rfl <| Nl <| rt ?_
 cases h; exact Zf Tryz.results280 rfl (Za rfl)
end Go.Proofs.YtknpgojdkobgjaaGreat.W
set_option maxRecDepth 4000
namespace Go.Proofs.YtknpgojdkobgjaaGreat.W
open Go Go.Wb
theorem Yik : Ent Tryz.prog 278 := Ent.mk Tryz.func278 rfl rfl
theorem Yay : Ent Tryz.prog 279 := Ent.mk Tryz.func279 rfl rfl
theorem e70 : Ent Tryz.prog 70 := Ent.mk Tryz.func70 rfl rfl
theorem Y08 : Ent Tryz.prog 280 := Ent.mk Tryz.func280 rfl rfl
theorem Zxx : Ent Tryz.prog 235 := Ent.mk Tryz.func235 rfl rfl
theorem Y82 : Ent Tryz.prog 240 := Ent.mk Tryz.func240 rfl rfl
theorem Yn6 : Ent Tryz.prog 179 := Ent.mk Tryz.func179 rfl rfl
theorem Yld : Ent Tryz.prog 170 := Ent.mk Tryz.func170 rfl rfl
theorem Yfs : Ent Tryz.prog 288 := Ent.mk Tryz.func288 rfl rfl
theorem Zug : Ent Tryz.prog 162 := Ent.mk Tryz.func162 rfl rfl
def Za5 (l4 : (List Zl)) (x10 : (Bool × Int)) (R_cover_look_at : (cover_look → Zl → (List Zl) → Option (Z09 × Bool × Bool × cover_look))) (b18 : cover_look) (b19 : Z09) (b20 : Bool) (b21 : Bool) (x23 : Zl) : Option (Lp (cover_look × Z09 × Bool × Bool)) :=
 (Z7i l4 (IntKind.i64.wrap (x10.2 + 1))).bind fun s25 => (R_cover_look_at b18 x23 s25).bind fun b26 => (bif (b26.2.1 || (!b26.2.2.1)) then some (.out (.exit 1) (b26.2.2.2, b26.1, b26.2.1, b26.2.2.1)) else some (.go (b26.2.2.2, b26.1, b26.2.1, b26.2.2.1)))
def Zjs (R_cover_look_at : (cover_look → Zl → (List Zl) → Option (Z09 × Bool × Bool × cover_look))) (s1 : cover_look) (x3 : Zl) (l4 : (List Zl)) : Option (Z09 × Bool × Bool × cover_look) :=
 (Zjm s1.purse).bind fun b9 => (bif (!b9.1) then some ((Vector.replicate 24 Z0j), false, false, { s1 with purse := b9.2 }) else (Zoe x3 l4).bind fun x10 => (bif x10.1 then some ((Vector.replicate 24 Z0j), false, true, { s1 with purse := b9.2 }) else (bif (decide (x10.2 < 0)) then (Zi6 x3).bind fun x12 => some (x12, true, true, { s1 with purse := b9.2 }) else (lget l4 x10.2).bind fun x16 => (Zlo x3 x16).bind fun x17 => (Itr.run x17 (cover_look × Z09 × Bool × Bool) (fun s x => Za5 l4 x10 R_cover_look_at s.1 s.2.1 s.2.2.1 s.2.2.2 x) (.go ({ s1 with purse := b9.2 }, (Vector.replicate 24 Z0j), false, true))).bind fun z22 => Zoa z22 (fun s27 => some (s27.2.1, s27.2.2.1, s27.2.2.2, s27.1)) (fun c s27 => bif Znk 1 c then some (s27.2.1, s27.2.2.1, s27.2.2.2, s27.1) else none))))
theorem Yn2 (R_cover_look_at : (cover_look → Zl → (List Zl) → Option (Z09 × Bool × Bool × cover_look))) (hR_cover_look_at : ∀ (g2 gT : Nat) (s1 : cover_look) (x3 : Zl) (l4 : (List Zl)) (r : (Z09 × Bool × Bool × cover_look)), R_cover_look_at s1 x3 l4 = some r → Con Tryz.prog 235 [Z7 g2 (Lens.id Z1z), rd (Z3 24 Z4) x3, rd (Z1 (Z3 24 Z4)) l4] (Zc g2 gT Z1z s1) (fun _ : Unit => Z3n (rd (Z3 24 Zd) r.1) (rd Z5 r.2.1) (rd Z5 r.2.2.1)) (fun _ => Zc g2 gT Z1z r.2.2.2)) (g2 gT : Nat) (s1 : cover_look) (x3 : Zl) (l4 : (List Zl)) (r : (Z09 × Bool × Bool × cover_look)) (h : Zjs R_cover_look_at s1 x3 l4 = some r) : Con Tryz.prog 235 [Z7 g2 (Lens.id Z1z), rd (Z3 24 Z4) x3, rd (Z1 (Z3 24 Z4)) l4] (Zc g2 gT Z1z s1) (fun _ : Unit => Z3n (rd (Z3 24 Zd) r.1) (rd Z5 r.2.1) (rd Z5 r.2.2.1)) (fun _ => Zc g2 gT Z1z r.2.2.2) := by
 refine Con.intro Tryz.func235 rfl Tryz.ntmps235 rfl fun w H X => ?_
 unfold Zjs at h
 refine SR <| Cv rfl (Zn 4 rfl rfl (vkp (vt rfl))) fun g5 => Cv rfl (Zn 5 rfl rfl (vt rfl)) fun g6 => Cv rfl (Zn 6 rfl rfl (vt rfl)) fun g7 => Cv rfl (Zs 7 rfl rfl Z4r) fun g8 => Ab rfl <| Ab rfl <| Nl <| AW.scope <| sq <| sq ?_
 obtain ⟨b9, hb9, h⟩ := Z8 h
 refine Rg <| Ac (Zd0 (A := Z7 g2 (Lens.id Z1z)) rfl rfl rfl (Y2z _) (vt rfl) (i := 4) rfl) rfl <| Nc rfl <| Zh lcover_look_0 Ya5 rfl <| Cv rfl (Z10 0 (xs := [.tmp 17]) (Y7c _ _ _ _ hb9) Yik rfl rfl ⟨vt rfl, trivial⟩ rfl) fun _u => AOps.told 0 (Zc g2 gT Z1z { s1 with purse := b9.2 }) rfl <| Ac (Z0z rfl rfl (vt rfl)) rfl <| Nl <| Cq rfl h (fun h => ?_) (fun h => ?_)
 ·refine SR <| Ac (Z20 (ps := []) (x := (Vector.replicate 24 Z0j)) rfl rfl rfl (by kernel_rfl) Z4r rfl) rfl <| Zj Z0g 7 rfl <| Ab rfl <| Ab rfl <| Nl <| rt ?_
  cases h; exact Zkx (i := 0) Tryz.results235 rfl (Z01 rfl (i := 7) rfl Z0g) (Za rfl) (Za rfl) rfl
 ·refine sk <| sq ?_
  obtain ⟨x10, hx10, h⟩ := Z8 h
  refine Rg <| Ld Z00 5 rfl <| Ld Zmf 6 rfl <| Cl [22, 23] (Ykc _ _ _ hx10) Yay rfl <| Mt2 rfl <| Ac (Z1n rfl rfl (vt rfl)) rfl <| Ac (Z1l rfl rfl (vt rfl)) rfl <| Cv rfl (Zs 11 rfl rfl zr3) fun g11 => As rfl <| Zj Zq 11 rfl <| Nl <| sq <| bk <| SR <| Md rfl <| As rfl <| Nl <| Cq rfl h (fun h => ?_) (fun h => ?_)
  ·refine SR <| Ac (Z20 (ps := []) (x := (Vector.replicate 24 Z0j)) rfl rfl rfl (by kernel_rfl) Z4r rfl) rfl <| Zj Z0g 7 rfl <| Ab rfl <| Ab rfl <| Nl <| rt ?_
   cases h; exact Zkx (i := 0) Tryz.results235 rfl (Z01 rfl (i := 7) rfl Z0g) (Za rfl) (Za rfl) rfl
  ·refine SR <| Ld Zq 11 rfl <| Ac (Zi rfl rfl (vt rfl) (vk rfl)) rfl <| As rfl <| Nl <| Cq rfl h (fun h => ?_) (fun h => ?_)
   ·refine sq ?_
    obtain ⟨x12, hx12, h⟩ := Z8 h
    refine Rg <| Ld Z00 5 rfl <| Cl [33] (Ya2 _ _ hx12) e70 rfl <| Zj Z0g 7 rfl <| Ab rfl <| Ab rfl <| Nl <| rt ?_
    cases h; exact Zkx (i := 0) Tryz.results235 rfl (Z01 rfl (i := 7) rfl Z0g) (Za rfl) (Za rfl) rfl
   ·refine sk <| SR <| Cv rfl (Zs 12 rfl rfl Z4r) fun g13 => Nl <| SR <| Cv rfl (Zs 13 rfl rfl zr4) fun g14 => Cv rfl (Zs 14 rfl rfl zr4) fun g15 => Ac (Z5c rfl rfl ty4 (vt rfl) (i := 13) rfl vb) rfl <| Ac (Z5c rfl rfl ty4 (vt rfl) (i := 14) rfl vb) rfl <| Nl <| sq <| AW.label <| sq <| sq ?_
    obtain ⟨x16, hx16, x17, hx17, h⟩ := bs2 h
    refine AR Zw (by kernel_rfl) <| Zm Z00 5 rfl <| Zm Zmf 6 rfl <| Zm Zq 11 rfl <| Sd (lo [36, 37] [] rfl fun S hs hr => Z0k rfl rfl Z7j (vh hs 36 rfl rfl) (vh hs 37 rfl rfl) hx16) <| SLp Z00 rfl <| SCl [35, 39] (Y37 _ _ _ hx17) Y08 rfl <| Sn <| bk ?_
    obtain ⟨z22, hz22, h⟩ := Z8 h
    refine AW.fit (d := []) (L := [(3, Z7 g5 (Lens.id (kas (Z7 g2 (Lens.id Z1z))))), (5, Z7 g7 (Lens.id (Z1 (Z3 24 Z4)))), (6, Z7 g8 (Lens.id (Z3 24 Zd))), (7, rd Z5 false), (8, rd Z5 false), (10, Z7 g11 (Lens.id (Z0 .i64))), (11, Z7 g13 (Lens.id (Z3 24 Zd))), (12, Z7 g14 (Lens.id Z5)), (13, Z7 g15 (Lens.id Z5)), (40, Z4p Tryz.prog (Z3 24 Z4) x17)]) (M := [(4, Zc g5 286 (kas (Z7 g2 (Lens.id Z1z))) ()), (0, Zc g2 gT Z1z { s1 with purse := b9.2 }), (6, Zc g7 229 (Z1 (Z3 24 Z4)) l4), (7, Zc g8 44 (Z3 24 Zd) (Vector.replicate 24 Z0j)), (11, Zc g11 3 (Z0 .i64) x10.2), (12, Zc g13 44 (Z3 24 Zd) (Vector.replicate 24 Z0j)), (13, Zc g14 4 Z5 false), (14, Zc g15 4 Z5 true)]) (FX rfl) ?_
    refine AW.rangeFunc (σ := cover_look × Z09 × Bool × Bool) (fun x => [rd (Z3 24 Z4) x]) (fun s x => Za5 l4 x10 R_cover_look_at s.1 s.2.1 s.2.2.1 s.2.2.2 x) (fun s => Z2x ((fun s => [(4, Zc g5 286 (kas (Z7 g2 (Lens.id Z1z))) ()), (0, Zc g2 gT Z1z s.1), (6, Zc g7 229 (Z1 (Z3 24 Z4)) l4), (7, Zc g8 44 (Z3 24 Zd) (Vector.replicate 24 Z0j)), (11, Zc g11 3 (Z0 .i64) x10.2), (12, Zc g13 44 (Z3 24 Zd) s.2.1), (13, Zc g14 4 Z5 s.2.2.1), (14, Zc g15 4 Z5 s.2.2.2)]) s)) (fun _ s => Z2x ((fun s => [(4, Zc g5 286 (kas (Z7 g2 (Lens.id Z1z))) ()), (0, Zc g2 gT Z1z s.1), (6, Zc g7 229 (Z1 (Z3 24 Z4)) l4), (7, Zc g8 44 (Z3 24 Zd) (Vector.replicate 24 Z0j)), (11, Zc g11 3 (Z0 .i64) x10.2), (12, Zc g13 44 (Z3 24 Zd) s.2.1), (13, Zc g14 4 Z5 s.2.2.1), (14, Zc g15 4 Z5 s.2.2.2)]) s)) [(3, Z7 g5 (Lens.id (kas (Z7 g2 (Lens.id Z1z))))), (5, Z7 g7 (Lens.id (Z1 (Z3 24 Z4)))), (6, Z7 g8 (Lens.id (Z3 24 Zd))), (7, rd Z5 false), (8, rd Z5 false), (10, Z7 g11 (Lens.id (Z0 .i64))), (11, Z7 g13 (Lens.id (Z3 24 Zd))), (12, Z7 g14 (Lens.id Z5)), (13, Z7 g15 (Lens.id Z5))] (fun s x23 S1 => ∃ (g24 : Nat), Fit S1 [] [(3, Z7 g5 (Lens.id (kas (Z7 g2 (Lens.id Z1z))))), (5, Z7 g7 (Lens.id (Z1 (Z3 24 Z4)))), (6, Z7 g8 (Lens.id (Z3 24 Zd))), (7, rd Z5 false), (8, rd Z5 false), (10, Z7 g11 (Lens.id (Z0 .i64))), (11, Z7 g13 (Lens.id (Z3 24 Zd))), (12, Z7 g14 (Lens.id Z5)), (13, Z7 g15 (Lens.id Z5)), (14, Z7 g24 (Lens.id (Z3 24 Z4)))] [(4, Zc g5 286 (kas (Z7 g2 (Lens.id Z1z))) ()), (0, Zc g2 gT Z1z s.1), (6, Zc g7 229 (Z1 (Z3 24 Z4)) l4), (7, Zc g8 44 (Z3 24 Zd) (Vector.replicate 24 Z0j)), (11, Zc g11 3 (Z0 .i64) x10.2), (12, Zc g13 44 (Z3 24 Zd) s.2.1), (13, Zc g14 4 Z5 s.2.2.1), (14, Zc g15 4 Z5 s.2.2.2), (15, Zc g24 87 (Z3 24 Z4) x23)]) 3001 (s0 := ({ s1 with purse := b9.2 }, (Vector.replicate 24 Z0j), false, true)) (sE := z22) rfl (vt rfl) ⟨rfl, inferInstance, rfl, inferInstance, rfl, inferInstance, rfl, inferInstance, rfl, inferInstance, rfl, inferInstance, rfl, inferInstance, rfl, inferInstance, rfl, inferInstance, trivial⟩ rfl (fun _ => rfl) (by intro p hp; have hp : p ∈ [41] := hp; rw [List.mem_singleton.1 hp]; show 41 < 61; decide) ?ha1 ?hb1 (fun Lf => ⟨top, _, _, Lf, _, _, hz22, rfl, rfl, rfl, rfl⟩) ?he1
    case ha1 =>
     rintro ⟨b18, b19, b20, b21⟩ x23 r hF l w H X
     refine Rg <| Cv rfl (Zs 15 rfl rfl Z2a) fun g24 => Zj Z00 15 rfl <| Nl ?_
     exact ⟨rfl, g24, FX rfl⟩
    case hb1 =>
     rintro ⟨b18, b19, b20, b21⟩ x23 r h S1 ⟨g24, hfit⟩ l w H X
     refine AW.fit (d := []) (L := [(3, Z7 g5 (Lens.id (kas (Z7 g2 (Lens.id Z1z))))), (5, Z7 g7 (Lens.id (Z1 (Z3 24 Z4)))), (6, Z7 g8 (Lens.id (Z3 24 Zd))), (7, rd Z5 false), (8, rd Z5 false), (10, Z7 g11 (Lens.id (Z0 .i64))), (11, Z7 g13 (Lens.id (Z3 24 Zd))), (12, Z7 g14 (Lens.id Z5)), (13, Z7 g15 (Lens.id Z5)), (14, Z7 g24 (Lens.id (Z3 24 Z4)))]) (M := [(4, Zc g5 286 (kas (Z7 g2 (Lens.id Z1z))) ()), (0, Zc g2 gT Z1z b18), (6, Zc g7 229 (Z1 (Z3 24 Z4)) l4), (7, Zc g8 44 (Z3 24 Zd) (Vector.replicate 24 Z0j)), (11, Zc g11 3 (Z0 .i64) x10.2), (12, Zc g13 44 (Z3 24 Zd) b19), (13, Zc g14 4 Z5 b20), (14, Zc g15 4 Z5 b21), (15, Zc g24 87 (Z3 24 Z4) x23)]) hfit <| AW.bodyT ?_
     change Za5 l4 x10 R_cover_look_at b18 b19 b20 b21 x23 = some r at h
     unfold Za5 at h
     refine bk <| sq ?_
     obtain ⟨s25, hs25, b26, hb26, h⟩ := bs2 h
     refine AR Zw (by kernel_rfl) <| Sd (lo [3] [4] rfl fun S hs hr => Zd0 (A := Z7 g2 (Lens.id Z1z)) rfl rfl rfl (Y2z _) (vh hs 3 rfl rfl) (i := 4) ((hr 4 rfl).trans rfl)) <| Zm Z00 15 rfl <| Zm Zmf 6 rfl <| Zm Zq 11 rfl <| Sd (lo [46] [] rfl fun S hs hr => Z0o rfl rfl (vh hs 46 rfl rfl) (vk rfl)) <| Sd (lo [45, 47] [] rfl fun S hs hr => Y1x hs25 rfl rfl Z7j (vh hs 45 rfl rfl) (vh hs 47 rfl rfl)) <| Sd (Z1q (us := [(49, Z3n (rd (Z3 24 Zd) b26.1) (rd Z5 b26.2.1) (rd Z5 b26.2.2.1))]) (ur := [(0, Zc g2 gT Z1z b26.2.2.2)]) [43, 44, 48] [0] rfl fun S hs hr => Zs6 0 (xs := [.tmp 43, .tmp 44, .tmp 48]) (hR_cover_look_at _ _ _ _ _ _ hb26) Zxx rfl rfl ⟨vt ((hs 43 rfl).trans rfl), vt ((hs 44 rfl).trans rfl), vt ((hs 48 rfl).trans rfl), trivial⟩ ((hr 0 rfl).trans rfl)) <| Sd (lo [49] [] rfl fun S hs hr => Zp (A := Z3n (rd (Z3 24 Zd) b26.1) (rd Z5 b26.2.1) (rd Z5 b26.2.2.1)) rfl rfl (vh hs 49 rfl rfl)) <| Sd (lo [42] [] rfl fun S hs hr => Zgs rfl rfl (vh hs 42 rfl rfl)) <| Sd (lo [42] [] rfl fun S hs hr => Zhf rfl rfl (vh hs 42 rfl rfl)) <| Sd (lo [42] [] rfl fun S hs hr => Zfq rfl rfl (vh hs 42 rfl rfl)) <| SSt Z0g 12 rfl <| SSt ty4 13 rfl <| SSt ty4 14 rfl <| Sn <| SR <| Ld ty4 13 rfl <| Md rfl <| Gd rfl (fun hq => Z29 rfl rfl ty4 (vt rfl) (i := 14) rfl) <| Gd rfl (fun hq => Z0z rfl rfl (Zg rfl hq)) <| Ac (Z4o rfl rfl (vt rfl) (vt rfl)) rfl <| Nl <| Cq rfl h (fun h => ?_) (fun h => ?_)
     ·refine xt ?_
      obtain rfl := si h
      exact ⟨_, (b26.2.2.2, b26.1, b26.2.1, b26.2.2.1), Turn.refl, rfl, ⟨rfl, rfl, rfl, rfl, rfl, rfl, rfl, rfl, trivial⟩⟩
     ·refine sk ?_
      obtain rfl := si h
      exact ⟨_, (b26.2.2.2, b26.1, b26.2.1, b26.2.2.1), Turn.refl, rfl, ⟨rfl, rfl, rfl, rfl, rfl, rfl, rfl, rfl, trivial⟩⟩
    case he1 =>
     intro D
     cases z22 with
     | go s27 =>
      change _ = some r at h
      refine sq <| AR Zw (by kernel_rfl) <| Zm Z0g 12 rfl <| Zm ty4 13 rfl <| Zm ty4 14 rfl <| SSt Z0g 7 rfl <| SAs rfl <| SAs rfl <| Sn <| rt ?_
      cases h; exact ⟨rfl, 3001, _, rfl, Zkx (i := 0) Tryz.results235 rfl (Z01 rfl (i := 7) rfl Z0g) (Za rfl) (Za rfl) rfl⟩
     | out c s27 =>
      change (bif Znk 1 c then _ else _) = some r at h
      cases hc : Znk 1 c with
      | true =>
       rw [hc] at h
       have hc := Yed hc
       subst hc
       change _ = some r at h
       refine xt <| sq <| AR Zw (by kernel_rfl) <| Zm Z0g 12 rfl <| Zm ty4 13 rfl <| Zm ty4 14 rfl <| SSt Z0g 7 rfl <| SAs rfl <| SAs rfl <| Sn <| rt ?_
       cases h; exact ⟨rfl, 3001, _, rfl, Zkx (i := 0) Tryz.results235 rfl (Z01 rfl (i := 7) rfl Z0g) (Za rfl) (Za rfl) rfl⟩
      | false =>
       rw [hc] at h
       cases h
def Z7w : Nat → (cover_look → Zl → (List Zl) → Option (Z09 × Bool × Bool × cover_look))
 | 0 => (fun _ _ _ => none)
 | n + 1 => (Zjs (Z7w n))
theorem Zwx : ∀ n : Nat, (∀ (g2 gT : Nat) (s1 : cover_look) (x3 : Zl) (l4 : (List Zl)) (r : (Z09 × Bool × Bool × cover_look)), (Z7w n) s1 x3 l4 = some r → Con Tryz.prog 235 [Z7 g2 (Lens.id Z1z), rd (Z3 24 Z4) x3, rd (Z1 (Z3 24 Z4)) l4] (Zc g2 gT Z1z s1) (fun _ : Unit => Z3n (rd (Z3 24 Zd) r.1) (rd Z5 r.2.1) (rd Z5 r.2.2.1)) (fun _ => Zc g2 gT Z1z r.2.2.2))
 | 0 => (by intros; rename_i h; cases h)
 | n + 1 => by
  have ih := Zwx n
  exact (Yn2 (Z7w n) ih)
def Zq8 (s1 : cover_look) (x3 : Zl) (l4 : (List Zl)) : Option (Z09 × Bool × Bool × cover_look) := (Z7w Z0l) s1 x3 l4
theorem Ybr : ∀ (g2 gT : Nat) (s1 : cover_look) (x3 : Zl) (l4 : (List Zl)) (r : (Z09 × Bool × Bool × cover_look)), Zq8 s1 x3 l4 = some r → Con Tryz.prog 235 [Z7 g2 (Lens.id Z1z), rd (Z3 24 Z4) x3, rd (Z1 (Z3 24 Z4)) l4] (Zc g2 gT Z1z s1) (fun _ : Unit => Z3n (rd (Z3 24 Zd) r.1) (rd Z5 r.2.1) (rd Z5 r.2.2.1)) (fun _ => Zc g2 gT Z1z r.2.2.2) := Zwx Z0l
def Ziq (x1 : Zl) (l2 : (List Zl)) (m3 : Int) : Option (Z09 × Bool × Int) :=
 (Zq8 (⟨(⟨(Z1f m3 0), (decide (m3 ≥ 1099511627776))⟩ : cover_purse)⟩ : cover_look) x1 l2).bind fun b7 => (bif (!b7.2.2.1) then some ((Vector.replicate 24 Z0j), false, 5) else some (b7.1, b7.2.1, 0))
theorem Yhx : Q3 Tryz.prog 170 (rd (Z3 24 Z4)) (rd (Z1 (Z3 24 Z4))) (rd (Z0 .i64)) (fun r => Z3n (rd (Z3 24 Zd) r.1) (rd Z5 r.2.1) (rd (Z0 .i64) r.2.2)) Ziq := fun x1 l2 m3 r h => I0 Tryz.func170 rfl Tryz.ntmps170 rfl fun w H => by
 unfold Ziq at h
 refine SR <| Cv rfl (Zn 4 rfl rfl (vt rfl)) fun g4 => Cv rfl (Zs 7 rfl rfl Z4r) fun g5 => Ab rfl <| Ak rfl <| Nl <| SR <| Md rfl <| Ac (Ze4 rfl rfl (vt rfl) (vk rfl)) rfl <| Md rfl <| Ac (Z3z rfl rfl (vt rfl) (vk rfl)) rfl <| Ac (opb (⟨(Z1f m3 0), (decide (m3 ≥ 1099511627776))⟩ : cover_purse) Yly rfl Yf4 (pc Ylp (vt rfl) <| pc Yk2 (vt rfl) <| pn rfl)) rfl <| Ac (opb (⟨(⟨(Z1f m3 0), (decide (m3 ≥ 1099511627776))⟩ : cover_purse)⟩ : cover_look) Ydi rfl Ydr (pc Y9d (vt rfl) <| pn rfl)) rfl <| Cv rfl (Zn 20 rfl rfl (vt rfl)) fun g6 => Ac (Zy (A := Z7 g6 (Lens.id Z1z)) rfl rfl (vt rfl)) rfl <| Nl <| sq ?_
 obtain ⟨b7, hb7, h⟩ := Z8 h
 refine Rg <| Mp rfl <| Ld Z00 4 rfl <| Md rfl <| Cv rfl (Z10 20 (xs := [.tmp 21, .tmp 22, .tmp 23]) (Ybr _ _ _ _ _ _ hb7) Zxx rfl rfl ⟨vt rfl, vt rfl, vt rfl, trivial⟩ rfl) fun _u => Ac (Zp (A := Z3n (rd (Z3 24 Zd) b7.1) (rd Z5 b7.2.1) (rd Z5 b7.2.2.1)) rfl rfl (vt rfl)) rfl <| Ac (Zgs rfl rfl (vt rfl)) rfl <| Ac (Zhf rfl rfl (vt rfl)) rfl <| Ac (Zfq rfl rfl (vt rfl)) rfl <| Cv rfl (Zs 11 rfl rfl Z4r) fun g8 => Zj Z0g 11 rfl <| As rfl <| As rfl <| Nl <| sq <| SR <| Md rfl <| Ac (Z0z rfl rfl (vt rfl)) rfl <| Nl <| Cq rfl h (fun h => ?_) (fun h => ?_)
 ·refine SR <| Ac (Z20 (ps := []) (x := (Vector.replicate 24 Z0j)) rfl rfl rfl (by kernel_rfl) Z4r rfl) rfl <| Zj Z0g 7 rfl <| Ab rfl <| Ak rfl <| Nl <| rt ?_
  cases h; exact Zfe Tryz.results170 rfl (Z01 rfl (i := 7) rfl Z0g) (Za rfl) (Za rfl)
 ·refine sk <| SR <| Ld Z0g 11 rfl <| Md rfl <| Zj Z0g 7 rfl <| As rfl <| Ak rfl <| Nl <| rt ?_
  cases h; exact Zfe Tryz.results170 rfl (Z01 rfl (i := 7) rfl Z0g) (Za rfl) (Za rfl)
def Zmv (s : List Rule) : Option (List Rule) := Z18 [] s
theorem Yax (s : List Rule) (r : List Rule) (h : Zmv s = some r) : Con Tryz.prog 240 [rd (Z1 Z0a) s] emp (fun v => Zo v) (fun v => Zb v 90 Z0a r) := by
 refine Con.intro0 Tryz.func240 rfl Tryz.ntmps240 rfl fun w H => ?_
 unfold Zmv at h
 refine AW.newnil 1001 90 Z0a <| SR <| Ac (Zy (A := Zo (.slice none 0 0)) rfl rfl vc) rfl <| Nl <| sq <| SR <| Md rfl <| Ct rfl (Zi2 rfl rfl Z59 (vt rfl)) ?_
 rintro _ ⟨b, hb, rfl⟩
 refine Nl <| Cn rfl (fun hc => ?_) (fun hc => ?_)
 ·obtain rfl := hb hc
  refine SR <| Ac (Zy (A := Zo (.slice none 0 0)) rfl rfl vc) rfl <| Nl <| rt ?_
  obtain rfl := (Zat h).2
  exact Z6m (i := 1001) Tryz.results240 rfl rfl rfl
 ·refine sk <| SR <| Cv rfl (Zg4 1002 (ps := []) (l := []) rfl rfl Z59 Zc1 rfl rfl rfl rfl) fun v1 => Md rfl <| Cv rfl (Z44 1002 h rfl rfl Zul (vt rfl) rfl (vt rfl)) fun v2 => Aw rfl <| Nl <| rt ?_
  exact Z6m (i := 1002) Tryz.results240 rfl rfl rfl
def Zb3 : Nat → Nat → (List Rule) → Option (List Rule)
 | 0, i6, l5 => some l5
 | m7 + 1, i6, l5 => (lget l5 (i6 : Int)).bind fun x8 => (Zd9 x8.Atoms).bind fun x9 => (lget l5 (i6 : Int)).bind fun x10 => (Zb3 m7) (i6 + 1) (List.set l5 (i6 : Int).toNat { x10 with Atoms := x9 })
def Zjj (l1 : (List Rule)) : Option (List Rule) :=
 (Zmv l1).bind fun x2 => Zb3 ((x2.length : Int) : Int).toNat 0 x2
theorem Y89 : Q1 Tryz.prog 179 (rd (Z1 Z0a)) (rd (Z1 Z0a)) Zjj := fun l1 r h => I0 Tryz.func179 rfl Tryz.ntmps179 rfl fun w H => by
 unfold Zjj at h
 refine SR <| Ac (Zy (A := rd (Z1 Z0a) []) rfl rfl Z1i) rfl <| Nl <| sq ?_
 obtain ⟨x2, hx2, h⟩ := Z8 h
 refine Rg <| Md rfl <| Cv rfl (Z10 1001 (xs := [.tmp 5]) (Yax _ _ hx2) Y82 rfl rfl ⟨vt rfl, trivial⟩ rfl) fun v3 => Aw rfl <| Nl <| sq <| SR <| Mw rfl <| Ac (Z6o 1001 rfl rfl Z59 (vt rfl) rfl) rfl <| Mk rfl <| Nl <| bk <| LG (d := []) (ν := Nat × Nat × (List Rule)) (fun (m7, i6, l5) => (Cnt (x2.length : Int) i6 m7 ∧ Zb3 m7 i6 l5 = some r, m7, [(3, Zo v3), (8, rd (Z0 .i64) (x2.length : Int)), (9, rd (Z0 .i64) (i6 : Int))], [(1001, Zb v3 90 Z0a l5)])) (((x2.length : Int) : Int).toNat, 0, x2) ⟨Cnt.start _, h⟩ (FX rfl) ?_
 rintro ⟨m7, i6, l5⟩ ⟨hsf1, h⟩
 dsimp only at hsf1 h ⊢
 cases m7 with
 | zero =>
  unfold Zb3 at h
  refine SR <| Ac (Zi rfl rfl (vt rfl) (vt rfl)) rfl <| Nl <| sq <| Cn rfl (fun hc => absurd (of_decide_eq_true hc) hsf1.zero) (fun hc => ?_)
  refine xt <| SR <| Mw rfl <| Aw rfl <| Nl <| AW.freezes [2, 3, 23] 1001 rfl ⟨rfl, rfl, rfl, trivial⟩ rfl <| rt ?_
  cases h; exact Zf Tryz.results179 rfl (Za rfl)
 | succ m7 =>
  unfold Zb3 at h
  refine SR <| Ac (Zi rfl rfl (vt rfl) (vt rfl)) rfl <| Nl <| sq <| Cn rfl (fun hc => ?_) (fun hc => absurd hsf1.succ (of_decide_eq_false hc))
  have hlti6 := of_decide_eq_true hc
  refine sk <| sq <| bk <| SR <| Md rfl <| As rfl <| Nl ?_
  obtain ⟨x8, hx8, x9, hx9, x10, hx10, h⟩ := bs3 h
  refine Rg <| Mw rfl <| Md rfl <| Mw rfl <| Md rfl <| Ac (Z2n 1001 rfl rfl Z59 (vt rfl) rfl (vt rfl) hx8) rfl <| Ac (Zhg lRule_1 rfl rfl Zs2 (vt rfl)) rfl <| Ac (Z1v 1001 rfl rfl Zbs (vt rfl) rfl (Z0n hx8).2) rfl <| Cl [18] (Y5s _ _ hx9) Zws rfl <| Ac (Z2n 1001 rfl rfl Z59 (vt rfl) rfl (vt rfl) hx10) rfl <| Ac (Zhg lRule_1 rfl rfl Zs2 (vt rfl)) rfl <| Ac (Z3w 1001 rfl rfl Zbs (vt rfl) rfl (Z0n hx10).2 (vt rfl)) rfl <| Nl <| Rg <| Ac (Z0u (t := 8) rfl rfl (vt rfl) (vk rfl) (vt rfl) hlti6) rfl <| Md rfl <| Nl ?_
  exact ⟨(_, _, _), Nat.lt_succ_self _, ⟨hsf1.next, h⟩, FX rfl⟩
def Z9n (m2 : Int) : (List Rule) → Nat → (List Rule) → (List Zl) → Option ((List Rule) × Int)
 | [], i11, l7, l9 => (Zjj l7).bind fun x13 => some (x13, 0)
 | x14 :: l12, i11, l7, l9 => (Ziq x14.Cube l9 m2).bind fun x16 => (bif (decide (x16.2.2 ≠ 0)) then some ([], x16.2.2) else (bif (!x16.2.1) then (Z9n m2 l12) (i11 + 1) l7 l9 else (Z18 l7 [x14]).bind fun l18 => (Z18 l9 [x14.Cube]).bind fun l20 => (Z9n m2 l12) (i11 + 1) l18 l20))
def Zo0 (l1 : (List Rule)) (m2 : Int) : Option ((List Rule) × Int) :=
 Z9n m2 l1 0 [] []
theorem Yjz : Q2 Tryz.prog 111 (rd (Z1 Z0a)) (rd (Z0 .i64)) (fun r => Z1b (rd (Z1 Z0a) r.1) (rd (Z0 .i64) r.2)) Zo0 := fun l1 m2 r h => I0 Tryz.func111 rfl Tryz.ntmps111 rfl fun w H => by
 unfold Zo0 at h
 refine SR <| Ac (Zy (A := rd (Z1 Z0a) []) rfl rfl Z1i) rfl <| Ak rfl <| Nl <| AW.scope <| sq <| AW.newnil 1001 90 Z0a <| Rg <| Ac (Zy rfl rfl vc) rfl <| Nl <| sq <| AW.newnil 1002 87 (Z3 24 Z4) <| Rg <| Ac (Zy rfl rfl vc) rfl <| Nl <| sq <| AW.label <| sq <| SR <| Md rfl <| Ac (Z0t rfl rfl Z59 (vt rfl)) rfl <| Mk rfl <| Nl <| bk <| LG (d := []) (ν := (List Rule) × Nat × (List Rule) × (List Zl) × Value × Value) (fun (l12, i11, l7, l9, v8, v10) => (Sfx l1 i11 l12 ∧ Z9n m2 l12 i11 l7 l9 = some r, l12.length, [(1, rd (Z0 .i64) m2), (6, Zo v8), (7, Zo v10), (13, rd (Z1 Z0a) l1), (14, rd (Z0 .i64) (l1.length : Int)), (15, rd (Z0 .i64) (i11 : Int))], [(1001, Zb v8 90 Z0a l7), (1002, Zb v10 87 (Z3 24 Z4) l9)])) (l1, 0, [], [], (.slice none 0 0), (.slice none 0 0)) ⟨Sfx.start _, h⟩ (FX rfl) ?_
 rintro ⟨l12, i11, l7, l9, v8, v10⟩ ⟨hsf1, h⟩
 dsimp only at hsf1 h ⊢
 cases l12 with
 | nil =>
  unfold Z9n at h
  refine SR <| Ac (Zi rfl rfl (vt rfl) (vt rfl)) rfl <| Nl <| sq <| Cn rfl (fun hc => absurd (of_decide_eq_true hc) hsf1.nil) (fun hc => ?_)
  refine xt <| sq <| AW.freezes [6] 1001 rfl ⟨rfl, trivial⟩ rfl ?_
  obtain ⟨x13, hx13, h⟩ := Z8 h
  refine Rg <| Md rfl <| Cl [45] (Y89 _ _ hx13) Yn6 rfl <| As rfl <| Ak rfl <| Nl <| rt ?_
  cases h; exact Z1m Tryz.results111 rfl (Za rfl) (Za rfl)
 | cons x14 l12 =>
  unfold Z9n at h
  refine SR <| Ac (Zi rfl rfl (vt rfl) (vt rfl)) rfl <| Nl <| sq <| Cn rfl (fun hc => ?_) (fun hc => absurd hsf1.cons (of_decide_eq_false hc))
  have hlti11 := of_decide_eq_true hc
  refine sk <| sq <| bk <| SR <| Ac (Z0k rfl rfl Z59 (vt rfl) (vt rfl) hsf1.lget) rfl <| Lp1 Z9f rfl <| Cv rfl (Zs 10 rfl rfl Zc1) fun g15 => Zj Z9f 10 rfl <| Nl <| sq ?_
  obtain ⟨x16, hx16, h⟩ := Z8 h
  refine Rg <| Zh lRule_0 Zpg rfl <| Ld Z00 10 rfl <| Mw rfl <| Md rfl <| Ac (Zm7 (xs := [.tmp 21, .tmp 22, .tmp 23]) 1002 (Yhx _ _ _ _ hx16) Yld rfl rfl ⟨vB (vt rfl), vL rfl rfl, vB (vt rfl), trivial⟩) rfl <| Ac (Zp (A := Z3n (rd (Z3 24 Zd) x16.1) (rd Z5 x16.2.1) (rd (Z0 .i64) x16.2.2)) rfl rfl (vt rfl)) rfl <| Ac (Zgs rfl rfl (vt rfl)) rfl <| Ac (Zhf rfl rfl (vt rfl)) rfl <| Ac (Zfq rfl rfl (vt rfl)) rfl <| Cv rfl (Zs 11 rfl rfl Z4r) fun g17 => Zj Z0g 11 rfl <| As rfl <| As rfl <| Nl <| sq <| bk <| SR <| Md rfl <| Ac (Z4u rfl rfl (vt rfl) (vk rfl)) rfl <| As rfl <| Nl <| Cq rfl h (fun h => ?_) (fun h => ?_)
  ·refine SR <| Md rfl <| Ac (Zy (A := rd (Z1 Z0a) []) rfl rfl Z1i) rfl <| As rfl <| Nl <| rt ?_
   cases h; exact Z1m Tryz.results111 rfl (Za rfl) (Za rfl)
  ·refine SR <| Md rfl <| Ac (Z0z rfl rfl (vt rfl)) rfl <| As rfl <| Nl <| Cq rfl h (fun h => ?_) (fun h => ?_)
   ·refine xt <| Rg <| Ac (Z0u (t := 14) rfl rfl (vt rfl) (vk rfl) (vt rfl) hlti11) rfl <| Md rfl <| Nl ?_
    exact ⟨(_, _, _, _, _, _), Nat.lt_succ_self _, ⟨hsf1.next, h⟩, FX rfl⟩
   ·refine sk ?_
    obtain ⟨l18, hl18, l20, hl20, h⟩ := bs2 h
    refine AR Zw (by kernel_rfl) <| SMw rfl <| Zm Z9f 10 rfl <| Sd (lo [36] [] rfl fun S hs hr => osl Z59 Zc1 rfl (vh hs 36 rfl rfl)) <| Sd (Z1q (us := [(38, Z2j 90 Z0a l18)]) (ur := [(1001, emp)]) [35, 37] [1001] rfl fun S hs hr => Z92 1001 hl18 rfl rfl rfl Zul (vh hs 35 rfl rfl) ((hr 1001 rfl).trans rfl) (vh hs 37 rfl rfl)) <| SMw rfl <| Zv lRule_0 Zpg rfl <| Zm Z00 10 rfl <| Sd (lo [41] [] rfl fun S hs hr => osl Z7j Z2a rfl (vh hs 41 rfl rfl)) <| Sd (Z1q (us := [(43, Z2j 87 (Z3 24 Z4) l20)]) (ur := [(1002, emp)]) [39, 42] [1002] rfl fun S hs hr => Z92 1002 hl20 rfl rfl rfl Zz9 (vh hs 39 rfl rfl) ((hr 1002 rfl).trans rfl) (vh hs 42 rfl rfl)) <| Sd (Z1q (us := [(38, top), (6, Z2j 90 Z0a l18)]) (ur := []) [38] [1003] rfl fun S hs hr => Y1u 1003 rfl rfl rfl rfl ((hs 38 rfl).trans rfl) ((hr 1003 rfl).trans rfl)) <| Sd (Z1q (us := [(43, top), (7, Z2j 87 (Z3 24 Z4) l20)]) (ur := []) [43] [1004] rfl fun S hs hr => Y1u 1004 rfl rfl rfl rfl ((hs 43 rfl).trans rfl) ((hr 1004 rfl).trans rfl)) <| Sn <| AW.unpackR 6 1001 rfl rfl fun v19 => AW.unpackR 7 1002 rfl rfl fun v21 => Rg <| Ac (Z0u (t := 14) rfl rfl (vt rfl) (vk rfl) (vt rfl) hlti11) rfl <| Md rfl <| Nl ?_
    exact ⟨(_, _, _, _, _, _), Nat.lt_succ_self _, ⟨hsf1.next, h⟩, FX rfl⟩
def Zif (x1 : Group) (x2 : Int) : Option Bool :=
 some (decide (x1.ID = x2))
theorem Y6a : Q2 Tryz.prog 288 (rd Zz) (rp (Z0 .i64)) (rd Z5) Zif := fun x1 x2 r h => I0 Tryz.func288 rfl Tryz.ntmps288 rfl fun w H => by
 unfold Zif at h
 refine SR <| Cv rfl (Zn 3 rfl rfl (vt rfl)) fun g3 => Ab rfl <| Nl <| SR <| Zh Zns Zsn rfl <| Ld Zq 3 rfl <| Lp1 Zq rfl <| Ac (Z1r rfl rfl (vt rfl) (vt rfl)) rfl <| As rfl <| Nl <| rt ?_
 cases h; exact Zf Tryz.results288 rfl (Za rfl)
def Zdr (s1 : (List Group)) (x2 : (Group → Option Bool)) : Nat → Nat → Option Int
 | 0, i3 => some (-1)
 | m4 + 1, i3 => (lget s1 (i3 : Int)).bind fun x5 => (x2 x5).bind fun x6 => (bif x6 then some (i3 : Int) else (Zdr s1 x2 m4) (i3 + 1))
def Ze7 (s1 : (List Group)) (x2 : (Group → Option Bool)) : Option Int :=
 Zdr s1 x2 ((s1.length : Int) : Int).toNat 0
theorem Zsq : Q2 Tryz.prog 162 (rd (Z1 Zz)) (fn1 Tryz.prog Zz Z5) (rd (Z0 .i64)) Ze7 := fun s1 x2 r h => I0 Tryz.func162 rfl Tryz.ntmps162 rfl fun w H => by
 unfold Ze7 at h
 refine SR <| Ak rfl <| Nl <| sq <| SR <| Md rfl <| Ac (Z0t rfl rfl Z5g (vt rfl)) rfl <| Mk rfl <| Nl <| bk <| LG (d := []) (ν := Nat × Nat) (fun (m4, i3) => (Cnt (s1.length : Int) i3 m4 ∧ Zdr s1 x2 m4 i3 = some r, m4, [(0, rd (Z1 Zz) s1), (1, fn1 Tryz.prog Zz Z5 x2), (7, rd (Z0 .i64) (s1.length : Int)), (8, rd (Z0 .i64) (i3 : Int))], [])) (((s1.length : Int) : Int).toNat, 0) ⟨Cnt.start _, h⟩ (FX rfl) ?_
 rintro ⟨m4, i3⟩ ⟨hsf1, h⟩
 dsimp only at hsf1 h ⊢
 cases m4 with
 | zero =>
  unfold Zdr at h
  refine SR <| Ac (Zi rfl rfl (vt rfl) (vt rfl)) rfl <| Nl <| sq <| Cn rfl (fun hc => absurd (of_decide_eq_true hc) hsf1.zero) (fun hc => ?_)
  refine xt <| SR <| Ak rfl <| Nl <| rt ?_
  cases h; exact Zf Tryz.results162 rfl (Za rfl)
 | succ m4 =>
  unfold Zdr at h
  refine SR <| Ac (Zi rfl rfl (vt rfl) (vt rfl)) rfl <| Nl <| sq <| Cn rfl (fun hc => ?_) (fun hc => absurd hsf1.succ (of_decide_eq_false hc))
  have hlti3 := of_decide_eq_true hc
  refine sk <| sq <| bk <| SR <| Md rfl <| As rfl <| Nl <| sq ?_
  obtain ⟨x5, hx5, x6, hx6, h⟩ := bs2 h
  refine Rg <| Ac (Zp (A := fn1 Tryz.prog Zz Z5 x2) rfl rfl (vt rfl)) rfl <| Md rfl <| Md rfl <| Ac (Z0k rfl rfl Z5g (vt rfl) (vt rfl) hx5) rfl <| Lp1 Z5h rfl <| Ac (Z88 hx6 rfl rfl (vt rfl) (vt rfl)) rfl <| Nl <| Cq rfl h (fun h => ?_) (fun h => ?_)
  ·refine SR <| Md rfl <| As rfl <| Nl <| rt ?_
   cases h; exact Zf Tryz.results162 rfl (Za rfl)
  ·refine sk <| Rg <| Ac (Z0u (t := 7) rfl rfl (vt rfl) (vk rfl) (vt rfl) hlti3) rfl <| Md rfl <| Nl ?_
   exact ⟨(_, _), Nat.lt_succ_self _, ⟨hsf1.next, h⟩, FX rfl⟩
def Znq (l1 : (List Group)) (i2 : Int) : Option Int :=
 (Ze7 l1 (fun x => Zif x i2)).bind fun x4 => some x4
theorem Ymp : Q2 Tryz.prog 241 (rd (Z1 Zz)) (rd (Z0 .i64)) (rd (Z0 .i64)) Znq := fun l1 i2 r h => I0 Tryz.func241 rfl Tryz.ntmps241 rfl fun w H => by
 unfold Znq at h
 refine SR <| Cv rfl (Zn 4 rfl rfl (vt rfl)) fun g3 => Ak rfl <| Nl <| sq <| AW.freezeB 3 4 rfl rfl rfl ?_
 obtain ⟨x4, hx4, h⟩ := Z8 h
 refine Rg <| Md rfl <| Ac (Z7n (cs := [.tmp 3]) (CAs := [rp (Z0 .i64) i2]) (fun x => Zif x i2) rfl rfl Yfs ⟨vt rfl, trivial⟩ (fun x y h => Y6a _ _ y h)) rfl <| Cl [5, 6] (Zsq _ _ _ hx4) Zug rfl <| As rfl <| Nl <| rt ?_
 cases h; exact Zf Tryz.results241 rfl (Za rfl)
def Zno (s : List Group) : Option (List Group) := Z18 [] s
theorem Yb7 (s : List Group) (r : List Group) (h : Zno s = some r) : Con Tryz.prog 289 [rd (Z1 Zz) s] emp (fun v => Zo v) (fun v => Zb v 164 Zz r) := by
 refine Con.intro0 Tryz.func289 rfl Tryz.ntmps289 rfl fun w H => ?_
 unfold Zno at h
 refine AW.newnil 1001 164 Zz <| SR <| Ac (Zy (A := Zo (.slice none 0 0)) rfl rfl vc) rfl <| Nl <| sq <| SR <| Md rfl <| Ct rfl (Zi2 rfl rfl Z5g (vt rfl)) ?_
 rintro _ ⟨b, hb, rfl⟩
 refine Nl <| Cn rfl (fun hc => ?_) (fun hc => ?_)
 ·obtain rfl := hb hc
  refine SR <| Ac (Zy (A := Zo (.slice none 0 0)) rfl rfl vc) rfl <| Nl <| rt ?_
  obtain rfl := (Zat h).2
  exact Z6m (i := 1001) Tryz.results289 rfl rfl rfl
 ·refine sk <| SR <| Cv rfl (Zg4 1002 (ps := []) (l := []) rfl rfl Z5g Zbq rfl rfl rfl rfl) fun v1 => Md rfl <| Cv rfl (Z44 1002 h rfl rfl Y3v (vt rfl) rfl (vt rfl)) fun v2 => Aw rfl <| Nl <| rt ?_
  exact Z6m (i := 1002) Tryz.results289 rfl rfl rfl
end Go.Proofs.YtknpgojdkobgjaaGreat.W
set_option maxRecDepth 4000
namespace Go.Proofs.YtknpgojdkobgjaaGreat.W
open Go Go.Wb
theorem Y8o : Ent Tryz.prog 328 := Ent.mk Tryz.func328 rfl rfl
theorem Yjt : Ent Tryz.prog 289 := Ent.mk Tryz.func289 rfl rfl
theorem Y7n : Ent Tryz.prog 290 := Ent.mk Tryz.func290 rfl rfl
theorem Yo1 : Ent Tryz.prog 241 := Ent.mk Tryz.func241 rfl rfl
theorem Yb5 : Ent Tryz.prog 242 := Ent.mk Tryz.func242 rfl rfl
theorem Zq2 : Ent Tryz.prog 180 := Ent.mk Tryz.func180 rfl rfl
theorem e25 : Ent Tryz.prog 25 := Ent.mk Tryz.func25 rfl rfl
theorem Y7w : Ent Tryz.prog 111 := Ent.mk Tryz.func111 rfl rfl
theorem Ybw : Ent Tryz.prog 112 := Ent.mk Tryz.func112 rfl rfl
theorem Zyd : Ent Tryz.prog 296 := Ent.mk Tryz.func296 rfl rfl
theorem Yhq : Ent Tryz.prog 297 := Ent.mk Tryz.func297 rfl rfl
def Zoc (s : List Bucket) : Option (List Bucket) := Z18 [] s
theorem Y7s (s : List Bucket) (r : List Bucket) (h : Zoc s = some r) : Con Tryz.prog 328 [rd (Z1 Z1y) s] emp (fun v => Zo v) (fun v => Zb v 226 Z1y r) := by
 refine Con.intro0 Tryz.func328 rfl Tryz.ntmps328 rfl fun w H => ?_
 unfold Zoc at h
 refine AW.newnil 1001 226 Z1y <| SR <| Ac (Zy (A := Zo (.slice none 0 0)) rfl rfl vc) rfl <| Nl <| sq <| SR <| Md rfl <| Ct rfl (Zi2 rfl rfl Z5w (vt rfl)) ?_
 rintro _ ⟨b, hb, rfl⟩
 refine Nl <| Cn rfl (fun hc => ?_) (fun hc => ?_)
 ·obtain rfl := hb hc
  refine SR <| Ac (Zy (A := Zo (.slice none 0 0)) rfl rfl vc) rfl <| Nl <| rt ?_
  obtain rfl := (Zat h).2
  exact Z6m (i := 1001) Tryz.results328 rfl rfl rfl
 ·refine sk <| SR <| Cv rfl (Zg4 1002 (ps := []) (l := []) rfl rfl Z5w Zv3 rfl rfl rfl rfl) fun v1 => Md rfl <| Cv rfl (Z44 1002 h rfl rfl Ylm (vt rfl) rfl (vt rfl)) fun v2 => Aw rfl <| Nl <| rt ?_
  exact Z6m (i := 1002) Tryz.results328 rfl rfl rfl
def Zbc : Nat → Nat → (List Bucket) → Option (List Bucket)
 | 0, i6, l5 => some l5
 | m7 + 1, i6, l5 => (lget l5 (i6 : Int)).bind fun x8 => (Z6w x8.Acts).bind fun x9 => (lget l5 (i6 : Int)).bind fun x10 => (Zbc m7) (i6 + 1) (List.set l5 (i6 : Int).toNat { x10 with Acts := x9 })
def Zlf (l1 : (List Bucket)) : Option (List Bucket) :=
 (Zoc l1).bind fun x2 => Zbc ((x2.length : Int) : Int).toNat 0 x2
theorem Yfe : Q1 Tryz.prog 290 (rd (Z1 Z1y)) (rd (Z1 Z1y)) Zlf := fun l1 r h => I0 Tryz.func290 rfl Tryz.ntmps290 rfl fun w H => by
 unfold Zlf at h
 refine SR <| Ac (Zy (A := rd (Z1 Z1y) []) rfl rfl Z1i) rfl <| Nl <| sq ?_
 obtain ⟨x2, hx2, h⟩ := Z8 h
 refine Rg <| Md rfl <| Cv rfl (Z10 1001 (xs := [.tmp 5]) (Y7s _ _ hx2) Y8o rfl rfl ⟨vt rfl, trivial⟩ rfl) fun v3 => Aw rfl <| Nl <| sq <| SR <| Mw rfl <| Ac (Z6o 1001 rfl rfl Z5w (vt rfl) rfl) rfl <| Mk rfl <| Nl <| bk <| LG (d := []) (ν := Nat × Nat × (List Bucket)) (fun (m7, i6, l5) => (Cnt (x2.length : Int) i6 m7 ∧ Zbc m7 i6 l5 = some r, m7, [(3, Zo v3), (8, rd (Z0 .i64) (x2.length : Int)), (9, rd (Z0 .i64) (i6 : Int))], [(1001, Zb v3 226 Z1y l5)])) (((x2.length : Int) : Int).toNat, 0, x2) ⟨Cnt.start _, h⟩ (FX rfl) ?_
 rintro ⟨m7, i6, l5⟩ ⟨hsf1, h⟩
 dsimp only at hsf1 h ⊢
 cases m7 with
 | zero =>
  unfold Zbc at h
  refine SR <| Ac (Zi rfl rfl (vt rfl) (vt rfl)) rfl <| Nl <| sq <| Cn rfl (fun hc => absurd (of_decide_eq_true hc) hsf1.zero) (fun hc => ?_)
  refine xt <| SR <| Mw rfl <| Aw rfl <| Nl <| AW.freezes [2, 3, 23] 1001 rfl ⟨rfl, rfl, rfl, trivial⟩ rfl <| rt ?_
  cases h; exact Zf Tryz.results290 rfl (Za rfl)
 | succ m7 =>
  unfold Zbc at h
  refine SR <| Ac (Zi rfl rfl (vt rfl) (vt rfl)) rfl <| Nl <| sq <| Cn rfl (fun hc => ?_) (fun hc => absurd hsf1.succ (of_decide_eq_false hc))
  have hlti6 := of_decide_eq_true hc
  refine sk <| sq <| bk <| SR <| Md rfl <| As rfl <| Nl ?_
  obtain ⟨x8, hx8, x9, hx9, x10, hx10, h⟩ := bs3 h
  refine Rg <| Mw rfl <| Md rfl <| Mw rfl <| Md rfl <| Ac (Z2n 1001 rfl rfl Z5w (vt rfl) rfl (vt rfl) hx8) rfl <| Ac (Zhg Zd2 rfl rfl Zhs (vt rfl)) rfl <| Ac (Z1v 1001 rfl rfl Z3d (vt rfl) rfl (Z0n hx8).2) rfl <| Cl [18] (Y0e _ _ hx9) Zn6 rfl <| Ac (Z2n 1001 rfl rfl Z5w (vt rfl) rfl (vt rfl) hx10) rfl <| Ac (Zhg Zd2 rfl rfl Zhs (vt rfl)) rfl <| Ac (Z3w 1001 rfl rfl Z3d (vt rfl) rfl (Z0n hx10).2 (vt rfl)) rfl <| Nl <| Rg <| Ac (Z0u (t := 8) rfl rfl (vt rfl) (vk rfl) (vt rfl) hlti6) rfl <| Md rfl <| Nl ?_
  exact ⟨(_, _, _), Nat.lt_succ_self _, ⟨hsf1.next, h⟩, FX rfl⟩
def Zea : Nat → Nat → (List Group) → Option (List Group)
 | 0, i6, l5 => some l5
 | m7 + 1, i6, l5 => (lget l5 (i6 : Int)).bind fun x8 => (Zlf x8.Buckets).bind fun x9 => (lget l5 (i6 : Int)).bind fun x10 => (Zea m7) (i6 + 1) (List.set l5 (i6 : Int).toNat { x10 with Buckets := x9 })
def Zjr (l1 : (List Group)) : Option (List Group) :=
 (Zno l1).bind fun x2 => Zea ((x2.length : Int) : Int).toNat 0 x2
theorem Yjy : Q1 Tryz.prog 242 (rd (Z1 Zz)) (rd (Z1 Zz)) Zjr := fun l1 r h => I0 Tryz.func242 rfl Tryz.ntmps242 rfl fun w H => by
 unfold Zjr at h
 refine SR <| Ac (Zy (A := rd (Z1 Zz) []) rfl rfl Z1i) rfl <| Nl <| sq ?_
 obtain ⟨x2, hx2, h⟩ := Z8 h
 refine Rg <| Md rfl <| Cv rfl (Z10 1001 (xs := [.tmp 5]) (Yb7 _ _ hx2) Yjt rfl rfl ⟨vt rfl, trivial⟩ rfl) fun v3 => Aw rfl <| Nl <| sq <| SR <| Mw rfl <| Ac (Z6o 1001 rfl rfl Z5g (vt rfl) rfl) rfl <| Mk rfl <| Nl <| bk <| LG (d := []) (ν := Nat × Nat × (List Group)) (fun (m7, i6, l5) => (Cnt (x2.length : Int) i6 m7 ∧ Zea m7 i6 l5 = some r, m7, [(3, Zo v3), (8, rd (Z0 .i64) (x2.length : Int)), (9, rd (Z0 .i64) (i6 : Int))], [(1001, Zb v3 164 Zz l5)])) (((x2.length : Int) : Int).toNat, 0, x2) ⟨Cnt.start _, h⟩ (FX rfl) ?_
 rintro ⟨m7, i6, l5⟩ ⟨hsf1, h⟩
 dsimp only at hsf1 h ⊢
 cases m7 with
 | zero =>
  unfold Zea at h
  refine SR <| Ac (Zi rfl rfl (vt rfl) (vt rfl)) rfl <| Nl <| sq <| Cn rfl (fun hc => absurd (of_decide_eq_true hc) hsf1.zero) (fun hc => ?_)
  refine xt <| SR <| Mw rfl <| Aw rfl <| Nl <| AW.freezes [2, 3, 23] 1001 rfl ⟨rfl, rfl, rfl, trivial⟩ rfl <| rt ?_
  cases h; exact Zf Tryz.results242 rfl (Za rfl)
 | succ m7 =>
  unfold Zea at h
  refine SR <| Ac (Zi rfl rfl (vt rfl) (vt rfl)) rfl <| Nl <| sq <| Cn rfl (fun hc => ?_) (fun hc => absurd hsf1.succ (of_decide_eq_false hc))
  have hlti6 := of_decide_eq_true hc
  refine sk <| sq <| bk <| SR <| Md rfl <| As rfl <| Nl ?_
  obtain ⟨x8, hx8, x9, hx9, x10, hx10, h⟩ := bs3 h
  refine Rg <| Mw rfl <| Md rfl <| Mw rfl <| Md rfl <| Ac (Z2n 1001 rfl rfl Z5g (vt rfl) rfl (vt rfl) hx8) rfl <| Ac (Zhg Z80 rfl rfl Z8p (vt rfl)) rfl <| Ac (Z1v 1001 rfl rfl Z8l (vt rfl) rfl (Z0n hx8).2) rfl <| Cl [18] (Yfe _ _ hx9) Y7n rfl <| Ac (Z2n 1001 rfl rfl Z5g (vt rfl) rfl (vt rfl) hx10) rfl <| Ac (Zhg Z80 rfl rfl Z8p (vt rfl)) rfl <| Ac (Z3w 1001 rfl rfl Z8l (vt rfl) rfl (Z0n hx10).2 (vt rfl)) rfl <| Nl <| Rg <| Ac (Z0u (t := 8) rfl rfl (vt rfl) (vk rfl) (vt rfl) hlti6) rfl <| Md rfl <| Nl ?_
  exact ⟨(_, _, _), Nat.lt_succ_self _, ⟨hsf1.next, h⟩, FX rfl⟩
def Zcf (l1 : (List Group)) (i2 : Int) : Option (Group × Bool) :=
 (Znq l1 i2).bind fun x4 => (bif (decide (x4 < 0)) then some ((⟨0, 0, []⟩ : Group), false) else (Zg3 l1 x4 (IntKind.i64.wrap (x4 + 1))).bind fun s5 => (Zjr s5).bind fun x6 => (lget x6 0).bind fun x7 => some (x7, true))
theorem Zr1 : Q2 Tryz.prog 180 (rd (Z1 Zz)) (rd (Z0 .i64)) (fun r => Z1b (rd Zz r.1) (rd Z5 r.2)) Zcf := fun l1 i2 r h => I0 Tryz.func180 rfl Tryz.ntmps180 rfl fun w H => by
 unfold Zcf at h
 refine SR <| Cv rfl (Zs 5 rfl rfl Zbq) fun g3 => Ab rfl <| Nl <| sq ?_
 obtain ⟨x4, hx4, h⟩ := Z8 h
 refine Rg <| Md rfl <| Md rfl <| Cl [7, 8] (Ymp _ _ _ hx4) Yo1 rfl <| As rfl <| Nl <| sq <| SR <| Md rfl <| Ac (Zi rfl rfl (vt rfl) (vk rfl)) rfl <| Nl <| Cq rfl h (fun h => ?_) (fun h => ?_)
 ·refine SR <| Ac (opb (⟨0, 0, []⟩ : Group) Zbq rfl Yhu (pn rfl)) rfl <| Zj Z5h 5 rfl <| Ab rfl <| Nl <| rt ?_
  cases h; exact Z1m Tryz.results180 rfl (Z01 rfl (i := 5) rfl Z5h) (Za rfl)
 ·refine sk <| sq ?_
  obtain ⟨s5, hs5, x6, hx6, x7, hx7, h⟩ := bs3 h
  refine Rg <| Md rfl <| Md rfl <| Md rfl <| Ac (Z0o rfl rfl (vt rfl) (vk rfl)) rfl <| Ac (Y8d hs5 rfl rfl Z5g (vt rfl) (vt rfl) (vt rfl)) rfl <| Cl [17] (Yjy _ _ hx6) Yb5 rfl <| Ac (Z0k rfl rfl Z5g (vt rfl) (vk rfl) hx7) rfl <| Lp1 Z5h rfl <| Zj Z5h 5 rfl <| Ab rfl <| Nl <| rt ?_
  cases h; exact Z1m Tryz.results180 rfl (Z01 rfl (i := 5) rfl Z5h) (Za rfl)
def Zc9 (l1 : (List Group)) : (List Group) → Nat → (List Group) → Option (List Group)
 | [], i6, l4 => some l4
 | x8 :: l7, i6, l4 => (Z7i l1 (i6 : Int)).bind fun s10 => (Zcf s10 x8.ID).bind fun x11 => (Z18 l4 [x11.1]).bind fun l13 => (Zc9 l1 l7) (i6 + 1) l13
def Zil (l1 : (List Group)) : Option (List Group) :=
 Zc9 l1 l1 0 []
theorem Y5y : Q1 Tryz.prog 112 (rd (Z1 Zz)) (rd (Z1 Zz)) Zil := fun l1 r h => I0 Tryz.func112 rfl Tryz.ntmps112 rfl fun w H => by
 unfold Zil at h
 refine SR <| Ac (Zy (A := rd (Z1 Zz) []) rfl rfl Z1i) rfl <| Nl <| sq <| AW.newnil 1001 164 Zz <| Rg <| Ac (Zy rfl rfl vc) rfl <| Nl <| sq <| SR <| Md rfl <| Ac (Z0t rfl rfl Z5g (vt rfl)) rfl <| Mk rfl <| Nl <| bk <| LG (d := []) (ν := (List Group) × Nat × (List Group) × Value) (fun (l7, i6, l4, v5) => (Sfx l1 i6 l7 ∧ Zc9 l1 l7 i6 l4 = some r, l7.length, [(0, rd (Z1 Zz) l1), (3, Zo v5), (8, rd (Z1 Zz) l1), (9, rd (Z0 .i64) (l1.length : Int)), (10, rd (Z0 .i64) (i6 : Int))], [(1001, Zb v5 164 Zz l4)])) (l1, 0, [], (.slice none 0 0)) ⟨Sfx.start _, h⟩ (FX rfl) ?_
 rintro ⟨l7, i6, l4, v5⟩ ⟨hsf1, h⟩
 dsimp only at hsf1 h ⊢
 cases l7 with
 | nil =>
  unfold Zc9 at h
  refine SR <| Ac (Zi rfl rfl (vt rfl) (vt rfl)) rfl <| Nl <| sq <| Cn rfl (fun hc => absurd (of_decide_eq_true hc) hsf1.nil) (fun hc => ?_)
  refine xt <| SR <| Mw rfl <| Aw rfl <| Nl <| AW.freezes [2, 3, 29] 1001 rfl ⟨rfl, rfl, rfl, trivial⟩ rfl <| rt ?_
  cases h; exact Zf Tryz.results112 rfl (Za rfl)
 | cons x8 l7 =>
  unfold Zc9 at h
  refine SR <| Ac (Zi rfl rfl (vt rfl) (vt rfl)) rfl <| Nl <| sq <| Cn rfl (fun hc => ?_) (fun hc => absurd hsf1.cons (of_decide_eq_false hc))
  have hlti6 := of_decide_eq_true hc
  refine sk <| sq <| bk <| SR <| Md rfl <| Ac (Z0k rfl rfl Z5g (vt rfl) (vt rfl) hsf1.lget) rfl <| Lp1 Z5h rfl <| Cv rfl (Zs 6 rfl rfl Zbq) fun g9 => As rfl <| Zj Z5h 6 rfl <| Nl <| sq ?_
  obtain ⟨s10, hs10, x11, hx11, h⟩ := bs2 h
  refine AR Zw (by kernel_rfl) <| SMd rfl <| SMd rfl <| Sd (lo [16, 17] [] rfl fun S hs hr => Y1x hs10 rfl rfl Z5g (vh hs 16 rfl rfl) (vh hs 17 rfl rfl)) <| Zv Zns Zsn rfl <| Zm Zq 6 rfl <| SCl [18, 20] (Zr1 _ _ _ hx11) Zq2 rfl <| Sd (lo [21] [] rfl fun S hs hr => Zp (A := Z1b (rd Zz x11.1) (rd Z5 x11.2)) rfl rfl (vh hs 21 rfl rfl)) <| Sd (lo [15] [] rfl fun S hs hr => Z1n rfl rfl (vh hs 15 rfl rfl)) <| Sd (lo [15] [] rfl fun S hs hr => Z1l rfl rfl (vh hs 15 rfl rfl)) <| Sd (Z1q (us := [(6, Z46 164 Zz Zpr)]) (ur := []) [] [] rfl fun S hs hr => Zdb rfl rfl rfl Zbq) <| Sd (Z1q (us := [(6, Z46 164 Zz x11.1)]) (ur := []) [6, 22] [] rfl fun S hs hr => Zey rfl rfl Z5h ((hs 6 rfl).trans rfl) (vh hs 22 rfl rfl)) <| SAs rfl <| Sn <| AW.unpackP 6 7 rfl rfl fun g12 => ?_
  obtain ⟨l13, hl13, h⟩ := Z8 h
  refine Rg <| Mw rfl <| Ld Z5h 7 rfl <| Ac (osl Z5g Zbq rfl (vt rfl)) rfl <| Cv rfl (Z44 1001 hl13 rfl rfl Y3v (vt rfl) rfl (vt rfl)) fun v14 => Aw rfl <| Nl <| Rg <| Ac (Z0u (t := 9) rfl rfl (vt rfl) (vk rfl) (vt rfl) hlti6) rfl <| Md rfl <| Nl ?_
  exact ⟨(_, _, _, _), Nat.lt_succ_self _, ⟨hsf1.next, h⟩, FX rfl⟩
def Zi1 (s1 : Switch) (m2 : Int) : Option (Flat × Int) :=
 (Zhu s1).bind fun x5 => (Zo0 x5 m2).bind fun x6 => (bif (decide (x6.2 ≠ 0)) then some ((⟨[], []⟩ : Flat), x6.2) else (Zil s1.Groups).bind fun x7 => some ((⟨x6.1, x7⟩ : Flat), 0))
theorem Ym7 : Q2 Tryz.prog 54 (rd Z0d) (rd (Z0 .i64)) (fun r => Z1b (rd Z5x r.1) (rd (Z0 .i64) r.2)) Zi1 := fun s1 m2 r h => I0 Tryz.func54 rfl Tryz.ntmps54 rfl fun w H => by
 unfold Zi1 at h
 refine SR <| Cv rfl (Zn 3 rfl rfl (vt rfl)) fun g3 => Cv rfl (Zs 5 rfl rfl Zoi) fun g4 => Ak rfl <| Nl <| sq ?_
 obtain ⟨x5, hx5, x6, hx6, h⟩ := bs2 h
 refine Rg <| Ld Z5s 3 rfl <| Cl [9] (Yn5 _ _ hx5) e25 rfl <| Md rfl <| Cl [10, 11] (Yjz _ _ _ hx6) Y7w rfl <| Mt2 rfl <| Ac (Z1n rfl rfl (vt rfl)) rfl <| Ac (Z1l rfl rfl (vt rfl)) rfl <| As rfl <| As rfl <| Nl <| sq <| SR <| Md rfl <| Ac (Z4u rfl rfl (vt rfl) (vk rfl)) rfl <| Nl <| Cq rfl h (fun h => ?_) (fun h => ?_)
 ·refine SR <| Ac (opb (⟨[], []⟩ : Flat) Zoi rfl Y2k (pn rfl)) rfl <| Md rfl <| Zj Zbx 5 rfl <| As rfl <| Nl <| rt ?_
  cases h; exact Z1m Tryz.results54 rfl (Z01 rfl (i := 5) rfl Zbx) (Za rfl)
 ·refine sk <| sq ?_
  obtain ⟨x7, hx7, h⟩ := Z8 h
  refine Rg <| Md rfl <| Zh Zim Zm8 rfl <| Ld Zes 3 rfl <| Cl [21] (Y5y _ _ hx7) Ybw rfl <| Ac (opb (⟨x6.1, x7⟩ : Flat) Zoi rfl Y2k (pc Y81 (vt rfl) <| pc Yai (vt rfl) <| pn rfl)) rfl <| Zj Zbx 5 rfl <| Ak rfl <| Nl <| rt ?_
  cases h; exact Z1m Tryz.results54 rfl (Z01 rfl (i := 5) rfl Zbx) (Za rfl)
def Zms (p1 : Z51) : Option (Bool × Z51) :=
 some ((decide ((p1.cubes.length : Int) > p1.most)), (⟨p1.cubes, p1.most⟩ : Z51))
theorem Zxs (g2 gT : Nat) (p1 : Z51) (r : (Bool × Z51)) (h : Zms p1 = some r) : Con Tryz.prog 296 [Z7 g2 (Lens.id Z1t)] (Zx g2 gT Z1t (fun v => (⟨v, p1.most⟩ : slice_heap_o0)) 87 (Z3 24 Z4) p1.cubes) (fun _ : Unit => rd Z5 r.1) (fun _ => Zx g2 gT Z1t (fun v => (⟨v, r.2.most⟩ : slice_heap_o0)) 87 (Z3 24 Z4) r.2.cubes) := by
 refine Con.intro Tryz.func296 rfl Tryz.ntmps296 rfl fun w H X => ?_
 unfold Zms at h
 refine AW.unboxF 0 2000 (by decide) rfl rfl fun v3 => SR <| Ab rfl <| Nl <| sq <| AR Zw (by kernel_rfl) <| SMp rfl <| SNc rfl <| Zv lslice_heap_o0_0 Zhw rfl <| Sd (lo [5] [0] rfl fun S hs hr => Z3e v3 rfl rfl Zhz (vh hs 5 rfl rfl) (i := 0) ((hr 0 rfl).trans rfl) rfl) <| Sd (lo [6] [2000] rfl fun S hs hr => Z6o 2000 rfl rfl Z7j (vh hs 6 rfl rfl) ((hr 2000 rfl).trans rfl)) <| SMp rfl <| SNc rfl <| Zv lslice_heap_o0_1 Yjx rfl <| Zm Zq 0 rfl <| Sd (lo [7, 11] [] rfl fun S hs hr => Z3i rfl rfl (vh hs 7 rfl rfl) (vh hs 11 rfl rfl)) <| SAs rfl <| Sn <| rt ?_
 cases h; exact RetOK.turn (Turn.packF 0 2000 (fun v => (⟨v, p1.most⟩ : slice_heap_o0)) (by decide) rfl rfl) (Zdh (i := 0) Tryz.results296 rfl (Za rfl) rfl)
def Z82 (l21 : (List Zl)) (b23 : Int) (x25 : Zl) : Option (Lp ((List Zl) × Int)) :=
 (Z18 l21 [x25]).bind fun l28 => (Zms (⟨l28, b23⟩ : Z51)).bind fun b30 => (bif b30.1 then some (.out .ret (b30.2.cubes, b30.2.most)) else some (.go (b30.2.cubes, b30.2.most)))
def Zbj (x4 : Zl) : (List Zl) → Nat → (List Zl) → Int → Option (Bool × Z51)
 | [], i16, l13, b15 => some (true, (⟨l13, b15⟩ : Z51))
 | x18 :: l17, i16, l13, b15 => (Zlo x18 x4).bind fun x20 => (Itr.run x20 ((List Zl) × Int) (fun s x => Z82 s.1 s.2 x) (.go (l13, b15))).bind fun z24 => Zoa z24 (fun s32 => (Zbj x4 l17) (i16 + 1) s32.1 s32.2) (fun c s32 => bif Zbb c then some (false, (⟨s32.1, s32.2⟩ : Z51)) else none)
def Zoy (p1 : Z51) (x4 : Zl) : Option (Bool × Z51) :=
 Zbj x4 p1.cubes 0 [] p1.most
theorem Y6t (g2 gT : Nat) (p1 : Z51) (x4 : Zl) (r : (Bool × Z51)) (h : Zoy p1 x4 = some r) : Con Tryz.prog 297 [Z7 g2 (Lens.id Z1t), rd (Z3 24 Z4) x4] (Zx g2 gT Z1t (fun v => (⟨v, p1.most⟩ : slice_heap_o0)) 87 (Z3 24 Z4) p1.cubes) (fun _ : Unit => rd Z5 r.1) (fun _ => Zx g2 gT Z1t (fun v => (⟨v, r.2.most⟩ : slice_heap_o0)) 87 (Z3 24 Z4) r.2.cubes) := by
 refine Con.intro Tryz.func297 rfl Tryz.ntmps297 rfl fun w H X => ?_
 unfold Zoy at h
 refine AW.unboxF 0 2000 (by decide) rfl rfl fun v3 => SR <| Cv rfl (Zn 3 rfl rfl (vkp (vt rfl))) fun g5 => Cv rfl (Zn 4 rfl rfl (vt rfl)) fun g6 => Cv rfl (Zs 5 rfl rfl zr4) fun g7 => Nl <| SR <| Ac (Zd0 (A := Z7 g2 (Lens.id Z1t)) rfl rfl rfl (Zle _) (vt rfl) (i := 3) rfl) rfl <| Nc rfl <| Zh lslice_heap_o0_0 Zhw rfl <| Ac (Z3e v3 rfl rfl Zhz (vt rfl) (i := 0) rfl rfl) rfl <| Aw rfl <| Nl <| SR <| Ac (Zd0 (A := Z7 g2 (Lens.id Z1t)) rfl rfl rfl (Zle _) (vt rfl) (i := 3) rfl) rfl <| Nc rfl <| Zh lslice_heap_o0_0 Zhw rfl <| AOps.rename 2000 1001 (by decide) rfl rfl <| AOps.newnil 2000 87 (Z3 24 Z4) <| Ac (Z5c rfl rfl Zhz (vt rfl) (i := 0) rfl (vkr vc rfl)) rfl <| Nl <| sq <| SR <| Mw rfl <| Ac (Z6o 1001 rfl rfl Z7j (vt rfl) rfl) rfl <| Mk rfl <| Nl <| bk <| AW.mark0 2990 rfl <| LGd (ν := (List Zl) × Nat × (List Zl) × Int × (List Nat) × Value) (fun (l17, i16, l13, b15, d12, v14) => (Sfx p1.cubes i16 l17 ∧ Zbj x4 l17 i16 l13 b15 = some r, l17.length, [(2, Z7 g5 (Lens.id (kas (Z7 g2 (Lens.id Z1t))))), (3, Z7 g6 (Lens.id (Z3 24 Z4))), (4, Z7 g7 (Lens.id Z5)), (16, Zo v3), (17, rd (Z0 .i64) (p1.cubes.length : Int)), (18, rd (Z0 .i64) (i16 : Int))], [(0, Zc g2 gT Z1t (⟨v14, b15⟩ : slice_heap_o0)), (3, Zc g5 336 (kas (Z7 g2 (Lens.id Z1t))) ()), (4, Zc g6 87 (Z3 24 Z4) x4), (5, Zc g7 4 Z5 false), (1001, Zb v3 87 (Z3 24 Z4) p1.cubes), (2000, Zb v14 87 (Z3 24 Z4) l13), (2990, Z2s d12)])) (fun (_, _, _, _, d12, _) => d12) (p1.cubes, 0, [], p1.most, [], (.slice none 0 0)) ⟨Sfx.start _, h⟩ (FX rfl) ?_
 rintro ⟨l17, i16, l13, b15, d12, v14⟩ ⟨hsf1, h⟩
 dsimp only at hsf1 h ⊢
 cases l17 with
 | nil =>
  unfold Zbj at h
  refine SR <| Ac (Zi rfl rfl (vt rfl) (vt rfl)) rfl <| Nl <| sq <| Cn rfl (fun hc => absurd (of_decide_eq_true hc) hsf1.nil) (fun hc => ?_)
  refine xt <| SR <| Ac (Z5c rfl rfl ty4 (vt rfl) (i := 5) rfl vb) rfl <| Nl <| rt ?_
  cases h; exact (Zr2 2990 _ _ rfl rfl (RetOK.turn (Turn.packF 0 2000 (fun v => (⟨v, b15⟩ : slice_heap_o0)) (by decide) rfl rfl) (Zdh (i := 0) Tryz.results297 rfl (Z01 rfl (i := 5) rfl ty4) rfl)))
 | cons x18 l17 =>
  unfold Zbj at h
  refine SR <| Ac (Zi rfl rfl (vt rfl) (vt rfl)) rfl <| Nl <| sq <| Cn rfl (fun hc => ?_) (fun hc => absurd hsf1.cons (of_decide_eq_false hc))
  have hlti16 := of_decide_eq_true hc
  refine sk <| sq <| bk <| SR <| Ac (Z2n 1001 rfl rfl Z7j (vt rfl) rfl (vt rfl) hsf1.lget) rfl <| Ac (Z1v 1001 rfl rfl Z00 (vt rfl) rfl (Z0n hsf1.lget).2) rfl <| Cv rfl (Zs 8 rfl rfl Z2a) fun g19 => Zj Z00 8 rfl <| Nl <| sq ?_
  obtain ⟨x20, hx20, h⟩ := Z8 h
  refine Rg <| Ld Z00 8 rfl <| Ld Z00 4 rfl <| Cl [22, 23] (Y37 _ _ _ hx20) Y08 rfl <| Nl <| bk ?_
  obtain ⟨z24, hz24, h⟩ := Z8 h
  refine AW.packF 0 2000 (fun v => (⟨v, b15⟩ : slice_heap_o0)) (by decide) rfl rfl <| AW.fit (d := d12) (L := [(2, Z7 g5 (Lens.id (kas (Z7 g2 (Lens.id Z1t))))), (3, Z7 g6 (Lens.id (Z3 24 Z4))), (4, Z7 g7 (Lens.id Z5)), (16, Zo v3), (17, rd (Z0 .i64) (p1.cubes.length : Int)), (18, rd (Z0 .i64) (i16 : Int)), (24, Z4p Tryz.prog (Z3 24 Z4) x20)]) (M := [(0, Zx g2 gT Z1t (fun v => (⟨v, b15⟩ : slice_heap_o0)) 87 (Z3 24 Z4) l13), (3, Zc g5 336 (kas (Z7 g2 (Lens.id Z1t))) ()), (4, Zc g6 87 (Z3 24 Z4) x4), (5, Zc g7 4 Z5 false), (1001, Zb v3 87 (Z3 24 Z4) p1.cubes), (2990, Z2s d12)]) (FX rfl) ?_
  refine AW.rangeFunc (σ := (List Zl) × Int) (fun x => [rd (Z3 24 Z4) x]) (fun s x => Z82 s.1 s.2 x) (fun s => Z2x ((fun s => [(0, Zx g2 gT Z1t (fun v => (⟨v, s.2⟩ : slice_heap_o0)) 87 (Z3 24 Z4) s.1), (3, Zc g5 336 (kas (Z7 g2 (Lens.id Z1t))) ()), (4, Zc g6 87 (Z3 24 Z4) x4), (5, Zc g7 4 Z5 false), (1001, Zb v3 87 (Z3 24 Z4) p1.cubes), (2990, Z2s d12)]) s)) (fun _ s => Z2x ((fun s => [(0, Zx g2 gT Z1t (fun v => (⟨v, s.2⟩ : slice_heap_o0)) 87 (Z3 24 Z4) s.1), (3, Zc g5 336 (kas (Z7 g2 (Lens.id Z1t))) ()), (4, Zc g6 87 (Z3 24 Z4) x4), (5, Zc g7 4 Z5 false), (1001, Zb v3 87 (Z3 24 Z4) p1.cubes), (2990, Z2s d12)]) s)) [(2, Z7 g5 (Lens.id (kas (Z7 g2 (Lens.id Z1t))))), (3, Z7 g6 (Lens.id (Z3 24 Z4))), (4, Z7 g7 (Lens.id Z5)), (16, Zo v3), (17, rd (Z0 .i64) (p1.cubes.length : Int)), (18, rd (Z0 .i64) (i16 : Int))] (fun s x25 S1 => ∃ (g26 : Nat), Fit S1 [] [(2, Z7 g5 (Lens.id (kas (Z7 g2 (Lens.id Z1t))))), (3, Z7 g6 (Lens.id (Z3 24 Z4))), (4, Z7 g7 (Lens.id Z5)), (8, Z7 g26 (Lens.id (Z3 24 Z4))), (16, Zo v3), (17, rd (Z0 .i64) (p1.cubes.length : Int)), (18, rd (Z0 .i64) (i16 : Int))] [(0, Zx g2 gT Z1t (fun v => (⟨v, s.2⟩ : slice_heap_o0)) 87 (Z3 24 Z4) s.1), (3, Zc g5 336 (kas (Z7 g2 (Lens.id Z1t))) ()), (4, Zc g6 87 (Z3 24 Z4) x4), (5, Zc g7 4 Z5 false), (1001, Zb v3 87 (Z3 24 Z4) p1.cubes), (2990, Z2s d12), (9, Zc g26 87 (Z3 24 Z4) x25)]) 3002 (s0 := (l13, b15)) (sE := z24) rfl (vt rfl) ⟨rfl, inferInstance, rfl, inferInstance, rfl, inferInstance, rfl, inferInstance, rfl, inferInstance, rfl, inferInstance, trivial⟩ rfl (fun _ => rfl) (by intro p hp; have hp : p ∈ [25] := hp; rw [List.mem_singleton.1 hp]; show 25 < 39; decide) ?ha2 ?hb2 (fun Lf => ⟨top, _, _, Lf, _, _, hz24, rfl, rfl, rfl, rfl⟩) ?he2
  case ha2 =>
   rintro ⟨l21, b23⟩ x25 r hF l w H X
   refine Rg <| Cv rfl (Zs 9 rfl rfl Z2a) fun g26 => Zj Z00 9 rfl <| Nl ?_
   exact ⟨rfl, g26, FX rfl⟩
  case hb2 =>
   rintro ⟨l21, b23⟩ x25 r h S1 ⟨g26, hfit⟩ l w H X
   refine AW.fit (d := []) (L := [(2, Z7 g5 (Lens.id (kas (Z7 g2 (Lens.id Z1t))))), (3, Z7 g6 (Lens.id (Z3 24 Z4))), (4, Z7 g7 (Lens.id Z5)), (8, Z7 g26 (Lens.id (Z3 24 Z4))), (16, Zo v3), (17, rd (Z0 .i64) (p1.cubes.length : Int)), (18, rd (Z0 .i64) (i16 : Int))]) (M := [(0, Zx g2 gT Z1t (fun v => (⟨v, b23⟩ : slice_heap_o0)) 87 (Z3 24 Z4) l21), (3, Zc g5 336 (kas (Z7 g2 (Lens.id Z1t))) ()), (4, Zc g6 87 (Z3 24 Z4) x4), (5, Zc g7 4 Z5 false), (1001, Zb v3 87 (Z3 24 Z4) p1.cubes), (2990, Z2s d12), (9, Zc g26 87 (Z3 24 Z4) x25)]) hfit <| AW.bodyT ?_
   change Z82 l21 b23 x25 = some r at h
   unfold Z82 at h
   refine AW.unboxF 0 2000 (by decide) rfl rfl fun v27 => bk <| sq ?_
   obtain ⟨l28, hl28, h⟩ := Z8 h
   refine AR Zw (by kernel_rfl) <| Sd (lo [2] [3] rfl fun S hs hr => Zd0 (A := Z7 g2 (Lens.id Z1t)) rfl rfl rfl (Zle _) (vh hs 2 rfl rfl) (i := 3) ((hr 3 rfl).trans rfl)) <| Sd (lo [2] [3] rfl fun S hs hr => Zd0 (A := Z7 g2 (Lens.id Z1t)) rfl rfl rfl (Zle _) (vh hs 2 rfl rfl) (i := 3) ((hr 3 rfl).trans rfl)) <| SNc rfl <| Zv lslice_heap_o0_0 Zhw rfl <| Sd (lo [29] [0] rfl fun S hs hr => Z3e v27 rfl rfl Zhz (vh hs 29 rfl rfl) (i := 0) ((hr 0 rfl).trans rfl) rfl) <| Zm Z00 9 rfl <| Sd (lo [31] [] rfl fun S hs hr => osl Z7j Z2a rfl (vh hs 31 rfl rfl)) <| Sd (Z1q (us := [(33, Z2j 87 (Z3 24 Z4) l28)]) (ur := [(2000, emp)]) [30, 32] [2000] rfl fun S hs hr => Z92 2000 hl28 rfl rfl rfl Zz9 (vh hs 30 rfl rfl) ((hr 2000 rfl).trans rfl) (vh hs 32 rfl rfl)) <| SNc rfl <| Zv lslice_heap_o0_0 Zhw rfl <| Sd (Z1q (us := [(33, top)]) (ur := [(0, Zx g2 gT Z1t (fun v => ((Lens.comp (Lens.id Z1t) lslice_heap_o0_0)).set (⟨v27, b23⟩ : slice_heap_o0) v) 87 (Z3 24 Z4) l28)]) [35, 33] [0] rfl fun S hs hr => Zb9 rfl rfl Zhz (vh hs 35 rfl rfl) ((hr 0 rfl).trans rfl) ((hs 33 rfl).trans rfl)) <| Sn <| AW.unboxF 0 2000 (by decide) rfl rfl fun v29 => sq ?_
   obtain ⟨b30, hb30, h⟩ := Z8 h
   refine Rg <| Ac (Zd0 (A := Z7 g2 (Lens.id Z1t)) rfl rfl rfl (Zle _) (vt rfl) (i := 3) rfl) rfl <| AOps.packF 0 2000 (fun v => (⟨v, b23⟩ : slice_heap_o0)) (by decide) rfl rfl <| Cv rfl (Z10 0 (xs := [.tmp 36]) (Zxs _ _ _ _ hb30) Zyd rfl rfl ⟨vt rfl, trivial⟩ rfl) fun _u => AOps.unboxF 0 2000 (by decide) rfl rfl fun v31 => Nl <| Cq rfl h (fun h => ?_) (fun h => ?_)
   ·refine SR <| Ac (Z5c rfl rfl ty4 (vt rfl) (i := 5) rfl vb) rfl <| Nl <| rt ?_
    obtain rfl := si h
    exact ⟨_, (b30.2.cubes, b30.2.most), (Turn.packF 0 2000 (fun v => (⟨v, b30.2.most⟩ : slice_heap_o0)) (by decide) rfl rfl), rfl, ⟨rfl, rfl, rfl, rfl, rfl, rfl, trivial⟩⟩
   ·refine sk ?_
    obtain rfl := si h
    exact ⟨_, (b30.2.cubes, b30.2.most), (Turn.packF 0 2000 (fun v => (⟨v, b30.2.most⟩ : slice_heap_o0)) (by decide) rfl rfl), rfl, ⟨rfl, rfl, rfl, rfl, rfl, rfl, trivial⟩⟩
  case he2 =>
   intro D
   cases z24 with
   | go s32 =>
    change _ = some r at h
    refine AW.marks 3002 2990 (by decide) rfl rfl <| AW.unboxF 0 2000 (by decide) rfl rfl fun v33 => Rg <| Ac (Z0u (t := 17) rfl rfl (vt rfl) (vk rfl) (vt rfl) hlti16) rfl <| Md rfl <| Nl ?_
    exact ⟨(_, _, _, _, _, _), Nat.lt_succ_self _, ⟨hsf1.next, h⟩, FX rfl⟩
   | out c s32 =>
    change (bif Zbb c then _ else _) = some r at h
    cases hc : Zbb c with
    | true =>
     rw [hc] at h
     have hc := Zvu hc
     subst hc
     change _ = some r at h
     refine AW.marks 3002 2990 (by decide) rfl rfl <| AW.unboxF 0 2000 (by decide) rfl rfl fun v34 => rt ?_
     cases h; exact (Zr2 2990 _ _ rfl rfl (RetOK.turn (Turn.packF 0 2000 (fun v => (⟨v, s32.2⟩ : slice_heap_o0)) (by decide) rfl rfl) (Zdh (i := 0) Tryz.results297 rfl (Z01 rfl (i := 5) rfl ty4) rfl)))
    | false =>
     rw [hc] at h
     cases h
def Z86 : (List Rule) → Nat → (List Zl) → Int → Option ((List Zl) × Int)
 | [], i18, l15, b17 => some (l15, 0)
 | x20 :: l19, i18, l15, b17 => (Zoy (⟨l15, b17⟩ : Z51) x20.Cube).bind fun b22 => (bif (!b22.1) then some ([], 5) else (Z86 l19) (i18 + 1) b22.2.cubes b22.2.most)
def Zf2 (x1 : Flat) (i2 : Int) (m3 : Int) : Option ((List Zl) × Int) :=
 (bif ((decide (i2 < 0)) || (decide (i2 ≥ (x1.Rules.length : Int)))) then some ([], 6) else (lget x1.Rules i2).bind fun x5 => (Zca x5.Cube).bind fun x6 => (Zms (⟨[x6], m3⟩ : Z51)).bind fun b9 => (bif b9.1 then some ([], 5) else (Z5b x1.Rules i2).bind fun s11 => Z86 s11 0 b9.2.cubes b9.2.most))
theorem Yae : Q3 Tryz.prog 252 (rd Z5x) (rd (Z0 .i64)) (rd (Z0 .i64)) (fun r => Z1b (rd (Z1 (Z3 24 Z4)) r.1) (rd (Z0 .i64) r.2)) Zf2 := fun x1 i2 m3 r h => I0 Tryz.func252 rfl Tryz.ntmps252 rfl fun w H => by
 unfold Zf2 at h
 refine SR <| Cv rfl (Zn 4 rfl rfl (vt rfl)) fun g4 => Ac (Zy (A := rd (Z1 (Z3 24 Z4)) []) rfl rfl Z1i) rfl <| Ak rfl <| Nl <| sq <| SR <| Md rfl <| Ac (Zi rfl rfl (vt rfl) (vk rfl)) rfl <| Md rfl <| Gd rfl (fun hq => Zp (A := rd (Z0 .i64) i2) rfl rfl (vt rfl)) <| Gd rfl (fun hq => Z2t lFlat_0 rfl rfl Zl5 (vt rfl)) <| Gd rfl (fun hq => Z29 rfl rfl Zi5 (Zg rfl hq) (i := 4) rfl) <| Gd rfl (fun hq => Z0t rfl rfl Z59 (Zg rfl hq)) <| Gd rfl (fun hq => Z3z rfl rfl (Zg rfl hq) (Zg rfl hq)) <| Ac (Z4o rfl rfl (vt rfl) (vt rfl)) rfl <| Nl <| Cq rfl h (fun h => ?_) (fun h => ?_)
 ·refine SR <| Ac (Zy (A := rd (Z1 (Z3 24 Z4)) []) rfl rfl Z1i) rfl <| Ak rfl <| Nl <| rt ?_
  cases h; exact Z1m Tryz.results252 rfl (Za rfl) (Za rfl)
 ·refine sk <| sq ?_
  obtain ⟨x5, hx5, x6, hx6, h⟩ := bs2 h
  refine Rg <| Zh lFlat_0 Zl5 rfl <| Ld Zi5 4 rfl <| Md rfl <| Ac (Z0k rfl rfl Z59 (vt rfl) (vt rfl) hx5) rfl <| Fp lRule_0 Zpg rfl <| Lp1 Z00 rfl <| Cl [25] (Zo9 _ _ hx6) Zn2 rfl <| Cv rfl (Zg4 1001 (ps := [(0, .tmp 26)]) (l := [x6]) rfl rfl Z7j Z2a rfl rfl ⟨_, _, Lens.idx 1 (Z3 24 Z4) 0 (by decide), _, rfl, (vt rfl), rfl⟩ rfl) fun v7 => Md rfl <| Ac (opb (⟨v7, m3⟩ : slice_heap_o0) Yfk rfl Yk6 (pc Yo5 (Zo3 (i := 1001) rfl rfl) <| pc Yi9 (vt rfl) <| pn rfl)) rfl <| AOps.rename 1001 2620 (by decide) rfl rfl <| Cv rfl (Zn 31 rfl rfl (vt rfl)) fun g8 => Ac (Zy (A := Z7 g8 (Lens.id Z1t)) rfl rfl (vt rfl)) rfl <| Nl <| sq <| sq ?_
  obtain ⟨b9, hb9, h⟩ := Z8 h
  refine Rg <| Mp rfl <| AOps.packF 31 2620 (fun v => (⟨v, m3⟩ : slice_heap_o0)) (by decide) rfl rfl <| Cv rfl (Z10 31 (xs := [.tmp 31]) (Zxs _ _ _ _ hb9) Zyd rfl rfl ⟨vt rfl, trivial⟩ rfl) fun _u => AOps.unboxF 31 2620 (by decide) rfl rfl fun v10 => Nl <| Cq rfl h (fun h => ?_) (fun h => ?_)
  ·refine SR <| Ac (Zy (A := rd (Z1 (Z3 24 Z4)) []) rfl rfl Z1i) rfl <| Ak rfl <| Nl <| rt ?_
   cases h; exact Z1m Tryz.results252 rfl (Za rfl) (Za rfl)
  ·refine sk <| sq <| sq ?_
   obtain ⟨s11, hs11, h⟩ := Z8 h
   refine Rg <| Zh lFlat_0 Zl5 rfl <| Ld Zi5 4 rfl <| Md rfl <| Ac (Yhp hs11 rfl rfl Z59 (vt rfl) (vt rfl)) rfl <| Ac (Z0t rfl rfl Z59 (vt rfl)) rfl <| Mk rfl <| Nl <| bk <| LG (d := []) (ν := (List Rule) × Nat × (List Zl) × Int × Value) (fun (l19, i18, l15, b17, v16) => (Sfx s11 i18 l19 ∧ Z86 l19 i18 l15 b17 = some r, l19.length, [(8, Z7 g8 (Lens.id Z1t)), (36, rd (Z1 Z0a) s11), (37, rd (Z0 .i64) (s11.length : Int)), (38, rd (Z0 .i64) (i18 : Int))], [(31, Zc g8 338 Z1t (⟨v16, b17⟩ : slice_heap_o0)), (2620, Zb v16 87 (Z3 24 Z4) l15)])) (s11, 0, b9.2.cubes, b9.2.most, v10) ⟨Sfx.start _, h⟩ (FX rfl) ?_
   rintro ⟨l19, i18, l15, b17, v16⟩ ⟨hsf1, h⟩
   dsimp only at hsf1 h ⊢
   cases l19 with
   | nil =>
    unfold Z86 at h
    refine SR <| Ac (Zi rfl rfl (vt rfl) (vt rfl)) rfl <| Nl <| sq <| Cn rfl (fun hc => absurd (of_decide_eq_true hc) hsf1.nil) (fun hc => ?_)
    refine xt <| SR <| Mp rfl <| Nc rfl <| Zh lslice_heap_o0_0 Zhw rfl <| Ac (Z3e v16 rfl rfl Zhz (vt rfl) (i := 31) rfl rfl) rfl <| Aw rfl <| Ak rfl <| Nl <| AW.freezes [6, 51] 2620 rfl ⟨rfl, rfl, trivial⟩ rfl <| rt ?_
    cases h; exact Z1m Tryz.results252 rfl (Za rfl) (Za rfl)
   | cons x20 l19 =>
    unfold Z86 at h
    refine SR <| Ac (Zi rfl rfl (vt rfl) (vt rfl)) rfl <| Nl <| sq <| Cn rfl (fun hc => ?_) (fun hc => absurd hsf1.cons (of_decide_eq_false hc))
    have hlti18 := of_decide_eq_true hc
    refine sk <| sq <| bk <| SR <| Ac (Z0k rfl rfl Z59 (vt rfl) (vt rfl) hsf1.lget) rfl <| Lp1 Z9f rfl <| Cv rfl (Zs 11 rfl rfl Zc1) fun g21 => Zj Z9f 11 rfl <| Nl <| sq ?_
    obtain ⟨b22, hb22, h⟩ := Z8 h
    refine Rg <| Mp rfl <| Zh lRule_0 Zpg rfl <| Ld Z00 11 rfl <| AOps.packF 31 2620 (fun v => (⟨v, b17⟩ : slice_heap_o0)) (by decide) rfl rfl <| Cv rfl (Z10 31 (xs := [.tmp 42, .tmp 44]) (Y6t _ _ _ _ _ hb22) Yhq rfl rfl ⟨vt rfl, vt rfl, trivial⟩ rfl) fun _u => AOps.unboxF 31 2620 (by decide) rfl rfl fun v23 => Ac (Z0z rfl rfl (vt rfl)) rfl <| Nl <| Cq rfl h (fun h => ?_) (fun h => ?_)
    ·refine SR <| Ac (Zy (A := rd (Z1 (Z3 24 Z4)) []) rfl rfl Z1i) rfl <| Ak rfl <| Nl <| rt ?_
     cases h; exact Z1m Tryz.results252 rfl (Za rfl) (Za rfl)
    ·refine sk <| Rg <| Ac (Z0u (t := 37) rfl rfl (vt rfl) (vk rfl) (vt rfl) hlti18) rfl <| Md rfl <| Nl ?_
     exact ⟨(_, _, _, _, _), Nat.lt_succ_self _, ⟨hsf1.next, h⟩, FX rfl⟩
end Go.Proofs.YtknpgojdkobgjaaGreat.W
