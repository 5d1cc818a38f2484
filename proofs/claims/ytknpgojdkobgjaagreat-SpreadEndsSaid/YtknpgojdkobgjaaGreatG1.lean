/- A part of the proof. -/
import Derived.Test.YtknpgojdkobgjaaGreatG0
set_option linter.unusedVariables false
set_option maxRecDepth 4000
set_option linter.unusedSimpArgs false
namespace Go.Proofs.YtknpgojdkobgjaaGreat.W
open Go Go.Wb
theorem Zr6 : Ent Tryz.prog 332 := Ent.mk Tryz.func332 rfl rfl
theorem Zw7 : Ent Tryz.prog 287 := Ent.mk Tryz.func287 rfl rfl
theorem Zoz : Ent Tryz.prog 298 := Ent.mk Tryz.func298 rfl rfl
theorem Zrd : Ent Tryz.prog 304 := Ent.mk Tryz.func304 rfl rfl
theorem Zw1 : Ent Tryz.prog 303 := Ent.mk Tryz.func303 rfl rfl
theorem Znz : Ent Tryz.prog 265 := Ent.mk Tryz.func265 rfl rfl
theorem Zcs : Ent Tryz.prog 221 := Ent.mk Tryz.func221 rfl rfl
def Zdr (i1 : Int) (x2 : Zg) (x3 : Zg) : Option Tern :=
 (chk 24 i1).bind fun j5 => (chk 24 i1).bind fun j6 => (Zd9 (Vector.get x2 j5) (Vector.get x3 j6)).bind fun x7 => some x7
theorem Zwz : Q3 Tryz.prog 332 (rd (Z0 .i64)) (rp (Z1 24 Z3)) (rp (Z1 24 Z3)) (rd Z3) Zdr := fun i1 x2 x3 r h => I0 Tryz.func332 rfl Tryz.ntmps332 rfl fun w H => by
 unfold Zdr at h
 refine SR <| Cv rfl (Zo 5 rfl rfl Z1g) fun g4 => Nl <| sq ?_
 obtain ⟨j5, hj5, j6, hj6, x7, hx7, h⟩ := bs3 h
 refine AR Zw (by kernel_rfl) <| Zs rfl <| Sd (lo [1, 5] [] rfl fun S hs hr => Z41 rfl rfl Z3h (vh hs 1 rfl rfl) (vh hs 5 rfl rfl) hj5) <| SLp Zz rfl <| Zs rfl <| Sd (lo [2, 8] [] rfl fun S hs hr => Z41 rfl rfl Z3h (vh hs 2 rfl rfl) (vh hs 8 rfl rfl) hj6) <| SLp Zz rfl <| SCl [7, 10] (Zju _ _ _ hx7) Zne rfl <| SSt Zz 5 rfl <| Sn <| rt ?_
 cases h; exact Zm Tryz.results332 rfl (Zx rfl (i := 5) rfl Zz)
def Zcu (a1 : Zg) (b2 : Zg) : Option Zg :=
 (Zds (fun x => Zdr x a1 b2)).bind fun x6 => some x6
theorem Zoq : Q2 Tryz.prog 298 (rd (Z1 24 Z3)) (rd (Z1 24 Z3)) (rd (Z1 24 Z3)) Zcu := fun a1 b2 r h => I0 Tryz.func298 rfl Tryz.ntmps298 rfl fun w H => by
 unfold Zcu at h
 refine SR <| Cv rfl (Zl 3 rfl rfl (vt rfl)) fun g3 => Cv rfl (Zl 4 rfl rfl (vt rfl)) fun g4 => Cv rfl (Zo 5 rfl rfl Z3m) fun g5 => Nl <| sq <| AW.freezeB 2 3 rfl rfl rfl <| AW.freezeB 3 4 rfl rfl rfl ?_
 obtain ⟨x6, hx6, h⟩ := Z9 h
 refine Rg <| Ac (Z4k (cs := [.tmp 2, .tmp 3]) (CAs := [rp (Z1 24 Z3) a1, rp (Z1 24 Z3) b2]) (fun x => Zdr x a1 b2) rfl rfl Zr6 ⟨vt rfl, vt rfl, trivial⟩ (fun x y h => Zwz _ _ _ y h)) rfl <| Cl [5] (Zmr _ _ hx6) Znn rfl <| Zi Z05 5 rfl <| Nl <| rt ?_
 cases h; exact Zm Tryz.results298 rfl (Zx rfl (i := 5) rfl Z05)
def Zax (t1 : Z3b) (b7 : Atom) : Option Z3b :=
 (Z1n t1.atoms [b7]).bind fun l8 => some (⟨t1.got, l8⟩ : Z3b)
def Zde (t1 : Z3b) (a4 : Action) : Option Z3b :=
 (bif (decide (a4.Kind = 0)) then (bif (decide (a4.Port = 4294967293)) then Zax t1 { { (⟨t1.got, false, 0, 0⟩ : Atom) with Port := a4.Port } with Max := a4.Max } else Zax t1 { (⟨t1.got, false, 0, 0⟩ : Atom) with Port := a4.Port }) else (bif (decide (a4.Kind = 22)) then Zax t1 { { (⟨t1.got, false, 0, 0⟩ : Atom) with Group := true } with Port := a4.Group } else (Zfq a4).bind fun x10 => (Zcu t1.got x10).bind fun x11 => some (⟨x11, t1.atoms⟩ : Z3b)))
theorem Ztv (g2 gT : Nat) (t1 : Z3b) (a4 : Action) (r : Z3b) (h : Zde t1 a4 = some r) : Con Tryz.prog 304 [Z7 g2 (Lens.id Z2z), rd Z8 a4] (Z0j g2 gT Z2z (fun v => (⟨t1.got, v⟩ : atom_trace_o1)) 126 Z04 t1.atoms) (fun _ : Unit => top) (fun _ => Z0j g2 gT Z2z (fun v => (⟨r.got, v⟩ : atom_trace_o1)) 126 Z04 r.atoms) := by
 refine Con.intro Tryz.func304 rfl Tryz.ntmps304 rfl fun w H X => ?_
 unfold Zde at h
 refine AW.unboxF 0 2001 (by decide) rfl rfl fun v3 => SR <| Cv rfl (Zl 4 rfl rfl (vt rfl)) fun g5 => Nl <| SR <| Mp rfl <| Nc rfl <| Zk latom_trace_o1_0 Ze8 rfl <| Ld Z05 0 rfl <| Ac (opb (⟨t1.got, false, 0, 0⟩ : Atom) Z6d rfl Zxt (pc Zra (vt rfl) <| pn rfl)) rfl <| Cv rfl (Zo 5 rfl rfl Z6d) fun g6 => Zi Z6c 5 rfl <| Nl ?_
 refine JN (d := []) (ν := Atom) (fun b7 => (Zax t1 b7 = some r, [(0, Z7 g2 (Lens.id Z2z)), (4, Z7 g6 (Lens.id Z04))], [(0, Zb g2 gT Z2z (⟨t1.got, v3⟩ : atom_trace_o1)), (5, Zb g6 126 Z04 b7), (2001, Za v3 126 Z04 t1.atoms)])) ?hx1 ?hy1
 case hy1 =>
  intro b7 h
  dsimp only at h ⊢
  unfold Zax at h
  obtain ⟨l8, hl8, h⟩ := Z9 h
  refine AW.endT <| AR Zw (by kernel_rfl) <| SMp rfl <| SMp rfl <| SNc rfl <| Zu Zak Zgg rfl <| Sd (lo [42] [0] rfl fun S hs hr => Z3k v3 rfl rfl Zh2 (vh hs 42 rfl rfl) (i := 0) ((hr 0 rfl).trans rfl) rfl) <| Zj Z6c 5 rfl <| Sd (lo [44] [] rfl fun S hs hr => osl Z3z Z6d rfl (vh hs 44 rfl rfl)) <| Sd (Z1o (us := [(46, Z28 126 Z04 l8)]) (ur := [(2001, emp)]) [43, 45] [2001] rfl fun S hs hr => Z7m 2001 hl8 rfl rfl rfl Z7d (vh hs 43 rfl rfl) ((hr 2001 rfl).trans rfl) (vh hs 45 rfl rfl)) <| SNc rfl <| Zu Zak Zgg rfl <| Sd (Z1o (us := [(46, top)]) (ur := [(0, Z0j g2 gT Z2z (fun v => ((Lens.comp (Lens.id Z2z) Zak)).set (⟨t1.got, v3⟩ : atom_trace_o1) v) 126 Z04 l8)]) [48, 46] [0] rfl fun S hs hr => Zbr rfl rfl Zh2 (vh hs 48 rfl rfl) ((hr 0 rfl).trans rfl) ((hs 46 rfl).trans rfl)) <| Sn <| EndT.unboxF 0 2001 (by decide) rfl rfl fun v9 => EndT.done ?_
  cases h; exact RetOK.turn (Turn.packF 0 2001 (fun v => (⟨t1.got, v⟩ : atom_trace_o1)) (by decide) rfl rfl) (Z1e (i := 0) Tryz.results304 rfl rfl)
 case hx1 =>
  refine SR <| Zk lAction_0 Z5i rfl <| Ld Zq 4 rfl <| Nl <| bk <| SR <| Ac (Z1m rfl rfl (vt rfl) (vk rfl)) rfl <| As rfl <| Nl <| Cq rfl h (fun h => ?_) (fun h => ?_)
  ·refine SR <| Zk lAction_1 Zl2 rfl <| Ld Zq 4 rfl <| Zk Z77 Za2 rfl <| Zi Zq 5 rfl <| Nl <| SR <| Zk lAction_1 Zl2 rfl <| Ld Zq 4 rfl <| Ac (Z1m rfl rfl (vt rfl) (vk rfl)) rfl <| Nl <| Cq rfl h (fun h => ?_) (fun h => ?_)
   ·refine Rg <| Zk Zn1 Zpm rfl <| Ld Zq 4 rfl <| Zk Zj2 Zll rfl <| Zi Zq 5 rfl <| Nl ?_
    exact ⟨_, h, FX rfl⟩
   ·refine sk ?_
    exact ⟨_, h, FX rfl⟩
  ·refine SR <| Ac (Z1m rfl rfl (vt rfl) (vk rfl)) rfl <| As rfl <| Nl <| Cq rfl h (fun h => ?_) (fun h => ?_)
   ·refine AR Zw (by kernel_rfl) <| Zu Znl Zr1 rfl <| Zj Zq 4 rfl <| Zu Zgv Zla rfl <| Sd (Z2m [37] [5] rfl fun S hs hr => Z44 rfl rfl ty4 (vh hs 37 rfl rfl) (i := 5) ((hr 5 rfl).trans rfl) vb) <| Zu Z77 Za2 rfl <| SSt Zq 5 rfl <| Sn ?_
    exact ⟨_, h, FX rfl⟩
   ·refine sq ?_
    obtain ⟨x10, hx10, x11, hx11, h⟩ := bs2 h
    refine AR Zw (by kernel_rfl) <| SMp rfl <| SMp rfl <| SNc rfl <| Zu latom_trace_o1_0 Ze8 rfl <| Zj Z05 0 rfl <| Zj Z0o 4 rfl <| SCl [17] (Zv3 _ _ hx10) Zw7 rfl <| SCl [16, 18] (Zoq _ _ _ hx11) Zoz rfl <| SNc rfl <| Zu latom_trace_o1_0 Ze8 rfl <| SSt Z05 0 rfl <| Sn <| rt ?_
    cases h; exact RetOK.turn (Turn.packF 0 2001 (fun v => (⟨x11, v⟩ : atom_trace_o1)) (by decide) rfl rfl) (Z1e (i := 0) Tryz.results304 rfl rfl)
def Zaq (sg : Type) (d2 : (sg → Action → Option sg)) : (List Action) → Nat → sg → Option sg
 | [], i6, s5 => some s5
 | x8 :: l7, i6, s5 => (d2 s5 x8).bind fun s10 => (Zaq sg d2 l7) (i6 + 1) s10
def Zhy (l1 : (List Action)) (sg : Type) (d2 : (sg → Action → Option sg)) (s3 : sg) : Option sg :=
 Zaq sg d2 l1 0 s3
theorem Zv4 (l1 : (List Action)) (sg : Type) (d2 : (sg → Action → Option sg)) (L : sg → Zp) (s3 : sg) (r : sg) (h : Zhy l1 sg d2 s3 = some r) : Con Tryz.prog 303 [rd (Z4 Z8) l1, stA Tryz.prog Z8 d2 L] (L s3) (fun _ : Unit => top) (fun _ => L r) := by
 refine Con.intro Tryz.func303 rfl Tryz.ntmps303 rfl fun w H X => ?_
 unfold Zhy at h
 refine SR <| Md rfl <| Ac (Z16 rfl rfl Z0p (vt rfl)) rfl <| Mk rfl <| Nl <| bk <| LG (d := []) (ν := (List Action) × Nat × sg) (fun (l7, i6, s5) => (Sfx l1 i6 l7 ∧ Zaq sg d2 l7 i6 s5 = some r, l7.length, [(1, stA Tryz.prog Z8 d2 L), (6, rd (Z4 Z8) l1), (7, rd (Z0 .i64) (l1.length : Int)), (8, rd (Z0 .i64) (i6 : Int))], [(0, L s5)])) (l1, 0, s3) ⟨Sfx.start _, h⟩ (FX rfl) ?_
 rintro ⟨l7, i6, s5⟩ ⟨hsf1, h⟩
 dsimp only at hsf1 h ⊢
 cases l7 with
 | nil =>
  unfold Zaq at h
  refine SR <| Ac (Zn rfl rfl (vt rfl) (vt rfl)) rfl <| Nl <| sq <| Cn rfl (fun hc => absurd (of_decide_eq_true hc) hsf1.nil) (fun hc => ?_)
  refine xt ?_
  cases h; exact Z1e (i := 0) Tryz.results303 rfl rfl
 | cons x8 l7 =>
  unfold Zaq at h
  refine SR <| Ac (Zn rfl rfl (vt rfl) (vt rfl)) rfl <| Nl <| sq <| Cn rfl (fun hc => ?_) (fun hc => absurd hsf1.cons (of_decide_eq_false hc))
  have hlti6 := of_decide_eq_true hc
  refine sk <| sq <| bk <| SR <| Ac (Z0z rfl rfl Z0p (vt rfl) (vt rfl) hsf1.lget) rfl <| Lp1 Z0o rfl <| Cv rfl (Zo 6 rfl rfl Z55) fun g9 => Zi Z0o 6 rfl <| Nl ?_
  obtain ⟨s10, hs10, h⟩ := Z9 h
  refine Rg <| Ac (Zt (A := stA Tryz.prog Z8 d2 L) rfl rfl (vt rfl)) rfl <| Ld Z0o 6 rfl <| Ac (Zs0 0 hs10 rfl rfl (vt rfl) (vt rfl) rfl) rfl <| Nl <| Rg <| Ac (Z12 (t := 7) rfl rfl (vt rfl) (vk rfl) (vt rfl) hlti6) rfl <| Md rfl <| Nl ?_
  exact ⟨(_, _, _), Nat.lt_succ_self _, ⟨hsf1.next, h⟩, FX rfl⟩
def Zel (a1 : (List Action)) (x2 : Zg) : Option ((List Atom) × Zg) :=
 (Z9u x2).bind fun x5 => (Zhy a1 Z3b (fun s x => Zde s x) (⟨x5, []⟩ : Z3b)).bind fun b7 => some (b7.atoms, b7.got)
theorem Zkq : Q2 Tryz.prog 265 (rd (Z4 Z8)) (rd (Z1 24 Z3)) (fun r => Z0w (rd (Z4 Z04) r.1) (rd (Z1 24 Z3) r.2)) Zel := fun a1 x2 r h => I0 Tryz.func265 rfl Tryz.ntmps265 rfl fun w H => by
 unfold Zel at h
 refine SR <| Cv rfl (Zl 4 rfl rfl (vt rfl)) fun g3 => Ac (Z00 (A := rd (Z4 Z04) []) rfl rfl Z13) rfl <| Cv rfl (Zo 6 rfl rfl Z3m) fun g4 => Nl <| sq <| AW.newnil 2221 126 Z04 ?_
 obtain ⟨x5, hx5, h⟩ := Z9 h
 refine Rg <| Ld Z05 4 rfl <| Cl [7] (Zex _ _ hx5) Zh0 rfl <| Ac (opb (⟨x5, (.slice none 0 0)⟩ : atom_trace_o1) Ztx rfl Y0v (pc Zzm (vt rfl) <| pn rfl)) rfl <| Cv rfl (Zl 11 rfl rfl (vt rfl)) fun g6 => Ac (Z00 (A := Z7 g6 (Lens.id Z2z)) rfl rfl (vt rfl)) rfl <| Nl <| sq ?_
 obtain ⟨b7, hb7, h⟩ := Z9 h
 refine Rg <| Md rfl <| Mp rfl <| Ac (Zz7 (fs := [.tmp 12]) (cs := []) (FAs := [Z7 g6 (Lens.id Z2z)]) (CAs := []) (k := Z8) (fun s x => Zde s x) (fun (s : Z3b) => Z0j g6 346 Z2z (fun v => (⟨s.got, v⟩ : atom_trace_o1)) 126 Z04 s.atoms) rfl rfl Zrd ⟨vt rfl, trivial⟩ trivial (fun s x s2 h => Ztv _ _ s x s2 h)) rfl <| AOps.packF 11 2221 (fun v => (⟨x5, v⟩ : atom_trace_o1)) (by decide) rfl rfl <| Cv rfl (Z0r 11 (xs := [.tmp 11, .tmp 13]) (Zv4 _ Z3b _ (fun (s : Z3b) => Z0j g6 346 Z2z (fun v => (⟨s.got, v⟩ : atom_trace_o1)) 126 Z04 s.atoms) _ _ hb7) Zw1 rfl rfl ⟨vt rfl, vt rfl, trivial⟩ rfl) fun _u => AOps.unboxF 11 2221 (by decide) rfl rfl fun v8 => Nl <| sq <| AR Zw (by kernel_rfl) <| SMp rfl <| SNc rfl <| Zu Zak Zgg rfl <| Sd (lo [17] [11] rfl fun S hs hr => Z3k v8 rfl rfl Zh2 (vh hs 17 rfl rfl) (i := 11) ((hr 11 rfl).trans rfl) rfl) <| SMp rfl <| SNc rfl <| Zu latom_trace_o1_0 Ze8 rfl <| Zj Z05 11 rfl <| Sd (lo [18] [] rfl fun S hs hr => Z00 (A := Zh v8) rfl rfl (vh hs 18 rfl rfl)) <| SSt Z05 6 rfl <| Sn <| AW.freezes [4, 18] 2221 rfl ⟨rfl, rfl, trivial⟩ rfl <| rt ?_
 cases h; exact Z0y Tryz.results265 rfl (Zc rfl) (Zx rfl (i := 6) rfl Z05)
def Zc5 (w1 : walk_way) (l2 : (List Action)) : Option walk_way :=
 (Zel l2 w1.got).bind fun x5 => (Z5m w1.atoms (w1.atoms.length : Int)).bind fun s7 => (Z1n s7 x5.1).bind fun l8 => some { { w1 with atoms := l8 } with got := x5.2 }
theorem Zjf : Q2 Tryz.prog 205 (rd Z0u) (rd (Z4 Z8)) (rd Z0u) Zc5 := fun w1 l2 r h => I0 Tryz.func205 rfl Tryz.ntmps205 rfl fun w H => by
 unfold Zc5 at h
 refine SR <| Cv rfl (Zl 3 rfl rfl (vt rfl)) fun g3 => Cv rfl (Zo 5 rfl rfl Z75) fun g4 => Nl <| sq ?_
 obtain ⟨x5, hx5, h⟩ := Z9 h
 refine Rg <| Md rfl <| Zk lwalk_way_1 Z9q rfl <| Ld Z05 3 rfl <| Cl [8, 10] (Zkq _ _ _ hx5) Znz rfl <| Mt2 rfl <| Ac (Z1b rfl rfl (vt rfl)) rfl <| Ac (Z1d rfl rfl (vt rfl)) rfl <| Cv rfl (Zo 7 rfl rfl Z3m) fun g6 => As rfl <| Zi Z05 7 rfl <| Nl <| sq ?_
 obtain ⟨s7, hs7, l8, hl8, h⟩ := bs2 h
 refine AR Zw (by kernel_rfl) <| Zu Z7x Z9i rfl <| Zj Z5w 3 rfl <| Zu Z7x Z9i rfl <| Zj Z5w 3 rfl <| Sd (lo [17] [] rfl fun S hs hr => Z16 rfl rfl Z3z (vh hs 17 rfl rfl)) <| Zu Z7x Z9i rfl <| Zj Z5w 3 rfl <| Sd (lo [20] [] rfl fun S hs hr => Z16 rfl rfl Z3z (vh hs 20 rfl rfl)) <| Sd (lo [15, 18, 21] [] rfl fun S hs hr => Y0e hs7 rfl rfl Z3z (vh hs 15 rfl rfl) (vh hs 18 rfl rfl) (vh hs 21 rfl rfl)) <| Zs rfl <| Sd (lo [22, 23] [] rfl fun S hs hr => Zue hl8 rfl rfl Z7d (vh hs 22 rfl rfl) (vh hs 23 rfl rfl)) <| Zj Z05 7 rfl <| Zu Z7x Z9i rfl <| SSt Z5w 3 rfl <| Zu lwalk_way_1 Z9q rfl <| SSt Z05 3 rfl <| Sn <| SR <| Ld Z24 3 rfl <| Zi Z24 5 rfl <| Nl <| rt ?_
 cases h; exact Zm Tryz.results205 rfl (Zx rfl (i := 5) rfl Z24)
def Z7r (a1 : Action) : Option aset_spot :=
 (bif (decide (a1.Kind = 25)) then some (⟨a1.Kind, a1.Oxm.Field⟩ : aset_spot) else some (⟨a1.Kind, 0⟩ : aset_spot))
theorem Zc8 : Q1 Tryz.prog 221 (rd Z8) (rd Z3j) Z7r := fun a1 r h => I0 Tryz.func221 rfl Tryz.ntmps221 rfl fun w H => by
 unfold Z7r at h
 refine SR <| Cv rfl (Zl 2 rfl rfl (vt rfl)) fun g2 => Cv rfl (Zo 3 rfl rfl Zav) fun g3 => Nl <| sq <| SR <| Zk lAction_0 Z5i rfl <| Ld Zq 2 rfl <| Ac (Z1m rfl rfl (vt rfl) (vk rfl)) rfl <| Nl <| Cq rfl h (fun h => ?_) (fun h => ?_)
 ·refine SR <| Zk lAction_0 Z5i rfl <| Ld Zq 2 rfl <| Zk Zdb Zgp rfl <| Zk Z6i Z6u rfl <| Ld Zq 2 rfl <| Ac (opb (⟨a1.Kind, a1.Oxm.Field⟩ : aset_spot) Zav rfl Zly (pc Zk2 (vt rfl) <| pc Y1l (vt rfl) <| pn rfl)) rfl <| Zi Z7c 3 rfl <| Nl <| rt ?_
  cases h; exact Zm Tryz.results221 rfl (Zx rfl (i := 3) rfl Z7c)
 ·refine sk <| SR <| Zk lAction_0 Z5i rfl <| Ld Zq 2 rfl <| Ac (opb (⟨a1.Kind, 0⟩ : aset_spot) Zav rfl Zly (pc Zk2 (vt rfl) <| pn rfl)) rfl <| Zi Z7c 3 rfl <| Nl <| rt ?_
  cases h; exact Zm Tryz.results221 rfl (Zx rfl (i := 3) rfl Z7c)
def Zbd (b1 : Action) (x2 : Action) : Option Bool :=
 (Z7r x2).bind fun x4 => (Z7r b1).bind fun x5 => some (decide (x4 = x5))
theorem Zzv : Q2 Tryz.prog 267 (rd Z8) (rp Z8) (rd Z6) Zbd := fun b1 x2 r h => I0 Tryz.func267 rfl Tryz.ntmps267 rfl fun w H => by
 unfold Zbd at h
 refine SR <| Cv rfl (Zl 3 rfl rfl (vt rfl)) fun g3 => Ab rfl <| Nl <| sq ?_
 obtain ⟨x4, hx4, x5, hx5, h⟩ := bs2 h
 refine AR Zw (by kernel_rfl) <| SLp Z0o rfl <| SCl [4] (Zc8 _ _ hx4) Zcs rfl <| Zj Z0o 3 rfl <| SCl [6] (Zc8 _ _ hx5) Zcs rfl <| Sd (lo [5, 7] [] rfl fun S hs hr => Zo1 rfl rfl Zz9 (by decide) rfl Zug (vh hs 5 rfl rfl) (vh hs 7 rfl rfl)) <| SAs rfl <| Sn <| rt ?_
 cases h; exact Zm Tryz.results267 rfl (Zc rfl)
def Z8r (s1 : (List Action)) (x2 : (Action → Option Bool)) : Nat → Nat → Option Int
 | 0, i3 => some (-1)
 | m4 + 1, i3 => (lget s1 (i3 : Int)).bind fun x5 => (x2 x5).bind fun x6 => (bif x6 then some (i3 : Int) else (Z8r s1 x2 m4) (i3 + 1))
def Zah (s1 : (List Action)) (x2 : (Action → Option Bool)) : Option Int :=
 Z8r s1 x2 ((s1.length : Int) : Int).toNat 0
theorem Zit : Q2 Tryz.prog 266 (rd (Z4 Z8)) (fn1 Tryz.prog Z8 Z6) (rd (Z0 .i64)) Zah := fun s1 x2 r h => I0 Tryz.func266 rfl Tryz.ntmps266 rfl fun w H => by
 unfold Zah at h
 refine SR <| Ak rfl <| Nl <| sq <| SR <| Md rfl <| Ac (Z16 rfl rfl Z0p (vt rfl)) rfl <| Mk rfl <| Nl <| bk <| LG (d := []) (ν := Nat × Nat) (fun (m4, i3) => (Cnt (s1.length : Int) i3 m4 ∧ Z8r s1 x2 m4 i3 = some r, m4, [(0, rd (Z4 Z8) s1), (1, fn1 Tryz.prog Z8 Z6 x2), (7, rd (Z0 .i64) (s1.length : Int)), (8, rd (Z0 .i64) (i3 : Int))], [])) (((s1.length : Int) : Int).toNat, 0) ⟨Cnt.start _, h⟩ (FX rfl) ?_
 rintro ⟨m4, i3⟩ ⟨hsf1, h⟩
 dsimp only at hsf1 h ⊢
 cases m4 with
 | zero =>
  unfold Z8r at h
  refine SR <| Ac (Zn rfl rfl (vt rfl) (vt rfl)) rfl <| Nl <| sq <| Cn rfl (fun hc => absurd (of_decide_eq_true hc) hsf1.zero) (fun hc => ?_)
  refine xt <| SR <| Ak rfl <| Nl <| rt ?_
  cases h; exact Zm Tryz.results266 rfl (Zc rfl)
 | succ m4 =>
  unfold Z8r at h
  refine SR <| Ac (Zn rfl rfl (vt rfl) (vt rfl)) rfl <| Nl <| sq <| Cn rfl (fun hc => ?_) (fun hc => absurd hsf1.succ (of_decide_eq_false hc))
  have hlti3 := of_decide_eq_true hc
  refine sk <| sq <| bk <| SR <| Md rfl <| As rfl <| Nl <| sq ?_
  obtain ⟨x5, hx5, x6, hx6, h⟩ := bs2 h
  refine Rg <| Ac (Zt (A := fn1 Tryz.prog Z8 Z6 x2) rfl rfl (vt rfl)) rfl <| Md rfl <| Md rfl <| Ac (Z0z rfl rfl Z0p (vt rfl) (vt rfl) hx5) rfl <| Lp1 Z0o rfl <| Ac (Z5r hx6 rfl rfl (vt rfl) (vt rfl)) rfl <| Nl <| Cq rfl h (fun h => ?_) (fun h => ?_)
  ·refine SR <| Md rfl <| As rfl <| Nl <| rt ?_
   cases h; exact Zm Tryz.results266 rfl (Zc rfl)
  ·refine sk <| Rg <| Ac (Z12 (t := 7) rfl rfl (vt rfl) (vk rfl) (vt rfl) hlti3) rfl <| Md rfl <| Nl ?_
   exact ⟨(_, _), Nat.lt_succ_self _, ⟨hsf1.next, h⟩, FX rfl⟩
end Go.Proofs.YtknpgojdkobgjaaGreat.W
set_option maxRecDepth 4000
namespace Go.Proofs.YtknpgojdkobgjaaGreat.W
open Go Go.Wb
theorem Zy9 : Ent Tryz.prog 267 := Ent.mk Tryz.func267 rfl rfl
theorem Zfs : Ent Tryz.prog 266 := Ent.mk Tryz.func266 rfl rfl
theorem Zkd : Ent Tryz.prog 273 := Ent.mk Tryz.func273 rfl rfl
theorem Zfc : Ent Tryz.prog 218 := Ent.mk Tryz.func218 rfl rfl
def Z6w : (List Action) → Nat → (List Action) → Option (List Action)
 | [], i9, l7 => some l7
 | x11 :: l10, i9, l7 => (Zah l7 (fun x => Zbd x x11)).bind fun x13 => (bif (decide (x13 < 0)) then (Z1n l7 [x11]).bind fun l14 => (Z6w l10) (i9 + 1) l14 else (lget l7 x13).bind fun x16 => (Z6w l10) (i9 + 1) (List.set l7 x13.toNat x11))
def Zdq (s1 : (List Action)) (l2 : (List Action)) : Option (List Action) :=
 (Z6a s1).bind fun x3 => Z6w l2 0 x3
theorem Zou : Q2 Tryz.prog 206 (rd (Z4 Z8)) (rd (Z4 Z8)) (rd (Z4 Z8)) Zdq := fun s1 l2 r h => I0 Tryz.func206 rfl Tryz.ntmps206 rfl fun w H => by
 unfold Zdq at h
 refine SR <| Ac (Z00 (A := rd (Z4 Z8) []) rfl rfl Z13) rfl <| Nl <| sq ?_
 obtain ⟨x3, hx3, h⟩ := Z9 h
 refine Rg <| Md rfl <| Cv rfl (Z0r 1001 (xs := [.tmp 9]) (Zj8 _ _ hx3) Zdd rfl rfl ⟨vt rfl, trivial⟩ rfl) fun v4 => Aw rfl <| Nl <| sq <| SR <| Md rfl <| Ac (Z16 rfl rfl Z0p (vt rfl)) rfl <| Mk rfl <| Nl <| bk <| LG (d := []) (ν := (List Action) × Nat × (List Action) × Value) (fun (l10, i9, l7, v8) => (Sfx l2 i9 l10 ∧ Z6w l10 i9 l7 = some r, l10.length, [(5, Zh v8), (11, rd (Z4 Z8) l2), (12, rd (Z0 .i64) (l2.length : Int)), (13, rd (Z0 .i64) (i9 : Int))], [(1001, Za v8 121 Z8 l7)])) (l2, 0, x3, v4) ⟨Sfx.start _, h⟩ (FX rfl) ?_
 rintro ⟨l10, i9, l7, v8⟩ ⟨hsf1, h⟩
 dsimp only at hsf1 h ⊢
 cases l10 with
 | nil =>
  unfold Z6w at h
  refine SR <| Ac (Zn rfl rfl (vt rfl) (vt rfl)) rfl <| Nl <| sq <| Cn rfl (fun hc => absurd (of_decide_eq_true hc) hsf1.nil) (fun hc => ?_)
  refine xt <| SR <| Mw rfl <| Aw rfl <| Nl <| AW.freezes [4, 5, 31] 1001 rfl ⟨rfl, rfl, rfl, trivial⟩ rfl <| rt ?_
  cases h; exact Zm Tryz.results206 rfl (Zc rfl)
 | cons x11 l10 =>
  unfold Z6w at h
  refine SR <| Ac (Zn rfl rfl (vt rfl) (vt rfl)) rfl <| Nl <| sq <| Cn rfl (fun hc => ?_) (fun hc => absurd hsf1.cons (of_decide_eq_false hc))
  have hlti9 := of_decide_eq_true hc
  refine sk <| sq <| bk <| SR <| Ac (Z0z rfl rfl Z0p (vt rfl) (vt rfl) hsf1.lget) rfl <| Lp1 Z0o rfl <| Cv rfl (Zo 8 rfl rfl Z55) fun g12 => Zi Z0o 8 rfl <| Nl <| sq <| AW.freezeB 7 8 rfl rfl rfl ?_
  obtain ⟨x13, hx13, h⟩ := Z9 h
  refine Rg <| Mw rfl <| Ac (Z4k (cs := [.tmp 7]) (CAs := [rp Z8 x11]) (fun x => Zbd x x11) rfl rfl Zy9 ⟨vt rfl, trivial⟩ (fun x y h => Zzv _ _ y h)) rfl <| Ac (Zfz (xs := [.tmp 17, .tmp 18]) 1001 (Zit _ _ _ hx13) Zfs rfl rfl ⟨vL rfl rfl, vB (vt rfl), trivial⟩) rfl <| As rfl <| Nl <| SR <| Md rfl <| Ac (Zn rfl rfl (vt rfl) (vk rfl)) rfl <| Nl <| Cq rfl h (fun h => ?_) (fun h => ?_)
  ·obtain ⟨l14, hl14, h⟩ := Z9 h
   refine Rg <| Mw rfl <| Lp1 Z0o rfl <| Ac (osl Z0p Z55 rfl (vt rfl)) rfl <| Cv rfl (Z2x 1001 hl14 rfl rfl Zp9 (vt rfl) rfl (vt rfl)) fun v15 => Aw rfl <| Nl <| Rg <| Ac (Z12 (t := 12) rfl rfl (vt rfl) (vk rfl) (vt rfl) hlti9) rfl <| Md rfl <| Nl ?_
   exact ⟨(_, _, _, _), Nat.lt_succ_self _, ⟨hsf1.next, h⟩, FX rfl⟩
  ·obtain ⟨x16, hx16, h⟩ := Z9 h
   refine Rg <| Mw rfl <| Md rfl <| Lp1 Z0o rfl <| Ac (Z1u 1001 rfl rfl Z0p (vt rfl) rfl (vt rfl) hx16) rfl <| Ac (Z2b 1001 rfl rfl Z0o (vt rfl) rfl (Z09 hx16).2 (vt rfl)) rfl <| Nl <| Rg <| Ac (Z12 (t := 12) rfl rfl (vt rfl) (vk rfl) (vt rfl) hlti9) rfl <| Md rfl <| Nl ?_
   exact ⟨(_, _, _, _), Nat.lt_succ_self _, ⟨hsf1.next, h⟩, FX rfl⟩
def Zik (s1 : (List Action)) (x2 : (Action → Option Bool)) : Option Bool :=
 (Zah s1 x2).bind fun x3 => some (decide (x3 ≥ 0))
theorem Zvc : Q2 Tryz.prog 213 (rd (Z4 Z8)) (fn1 Tryz.prog Z8 Z6) (rd Z6) Zik := fun s1 x2 r h => I0 Tryz.func213 rfl Tryz.ntmps213 rfl fun w H => by
 unfold Zik at h
 refine SR <| Ab rfl <| Nl <| sq ?_
 obtain ⟨x3, hx3, h⟩ := Z9 h
 refine Rg <| Md rfl <| Ac (Zt (A := fn1 Tryz.prog Z8 Z6 x2) rfl rfl (vt rfl)) rfl <| Cl [5, 6] (Zit _ _ _ hx3) Zfs rfl <| Ac (Z3l rfl rfl (vt rfl) (vk rfl)) rfl <| As rfl <| Nl <| rt ?_
 cases h; exact Zm Tryz.results213 rfl (Zc rfl)
def Zhq (a1 : Action) : Option Bool :=
 some (decide (a1.Kind = 22))
theorem Zrr : Q1 Tryz.prog 214 (rd Z8) (rd Z6) Zhq := fun a1 r h => I0 Tryz.func214 rfl Tryz.ntmps214 rfl fun w H => by
 unfold Zhq at h
 refine SR <| Cv rfl (Zl 2 rfl rfl (vt rfl)) fun g2 => Ab rfl <| Nl <| SR <| Zk lAction_0 Z5i rfl <| Ld Zq 2 rfl <| Ac (Z1m rfl rfl (vt rfl) (vk rfl)) rfl <| As rfl <| Nl <| rt ?_
 cases h; exact Zm Tryz.results214 rfl (Zc rfl)
def Z9y (s1 : (List Int)) (x2 : Int) : Nat → Nat → Option Int
 | 0, i3 => some (-1)
 | m4 + 1, i3 => (lget s1 (i3 : Int)).bind fun x5 => (bif (decide (x2 = x5)) then some (i3 : Int) else (Z9y s1 x2 m4) (i3 + 1))
def Zc0 (s1 : (List Int)) (x2 : Int) : Option Int :=
 Z9y s1 x2 ((s1.length : Int) : Int).toNat 0
theorem Zlw : Q2 Tryz.prog 273 (rd (Z4 (Z0 .i64))) (rd (Z0 .i64)) (rd (Z0 .i64)) Zc0 := fun s1 x2 r h => I0 Tryz.func273 rfl Tryz.ntmps273 rfl fun w H => by
 unfold Zc0 at h
 refine SR <| Ak rfl <| Nl <| sq <| SR <| Md rfl <| Ac (Z16 rfl rfl Z0q (vt rfl)) rfl <| Mk rfl <| Nl <| bk <| LG (d := []) (ν := Nat × Nat) (fun (m4, i3) => (Cnt (s1.length : Int) i3 m4 ∧ Z9y s1 x2 m4 i3 = some r, m4, [(0, rd (Z4 (Z0 .i64)) s1), (1, rd (Z0 .i64) x2), (7, rd (Z0 .i64) (s1.length : Int)), (8, rd (Z0 .i64) (i3 : Int))], [])) (((s1.length : Int) : Int).toNat, 0) ⟨Cnt.start _, h⟩ (FX rfl) ?_
 rintro ⟨m4, i3⟩ ⟨hsf1, h⟩
 dsimp only at hsf1 h ⊢
 cases m4 with
 | zero =>
  unfold Z9y at h
  refine SR <| Ac (Zn rfl rfl (vt rfl) (vt rfl)) rfl <| Nl <| sq <| Cn rfl (fun hc => absurd (of_decide_eq_true hc) hsf1.zero) (fun hc => ?_)
  refine xt <| SR <| Ak rfl <| Nl <| rt ?_
  cases h; exact Zm Tryz.results273 rfl (Zc rfl)
 | succ m4 =>
  unfold Z9y at h
  refine SR <| Ac (Zn rfl rfl (vt rfl) (vt rfl)) rfl <| Nl <| sq <| Cn rfl (fun hc => ?_) (fun hc => absurd hsf1.succ (of_decide_eq_false hc))
  have hlti3 := of_decide_eq_true hc
  refine sk <| sq <| bk <| SR <| Md rfl <| As rfl <| Nl <| sq ?_
  obtain ⟨x5, hx5, h⟩ := Z9 h
  refine Rg <| Md rfl <| Md rfl <| Md rfl <| Ac (Z0z rfl rfl Z0q (vt rfl) (vt rfl) hx5) rfl <| Lp1 Zq rfl <| Ac (Z1m rfl rfl (vt rfl) (vt rfl)) rfl <| Nl <| Cq rfl h (fun h => ?_) (fun h => ?_)
  ·refine SR <| Md rfl <| As rfl <| Nl <| rt ?_
   cases h; exact Zm Tryz.results273 rfl (Zc rfl)
  ·refine sk <| Rg <| Ac (Z12 (t := 7) rfl rfl (vt rfl) (vk rfl) (vt rfl) hlti3) rfl <| Md rfl <| Nl ?_
   exact ⟨(_, _), Nat.lt_succ_self _, ⟨hsf1.next, h⟩, FX rfl⟩
def Z9x (k1 : Int) : Option Int :=
 (Zc0 [18, 17, 25, 22, 0] k1).bind fun x2 => some x2
theorem Ziw : Q1 Tryz.prog 218 (rd (Z0 .i64)) (rd (Z0 .i64)) Z9x := fun k1 r h => I0 Tryz.func218 rfl Tryz.ntmps218 rfl fun w H => by
 unfold Z9x at h
 refine SR <| Ak rfl <| Nl <| sq ?_
 obtain ⟨x2, hx2, h⟩ := Z9 h
 refine Rg <| Ac (Zdl (ps := [(0, .const (Value.int IntKind.i64 18)), (1, .const (Value.int IntKind.i64 17)), (2, .const (Value.int IntKind.i64 25)), (3, .const (Value.int IntKind.i64 22)), (4, .const (Value.int IntKind.i64 0))]) (l := [18, 17, 25, 22, 0]) rfl rfl Z0q zr3 rfl rfl ⟨_, _, Lens.idx 5 (Z0 .i64) 0 (by decide), _, rfl, (vk rfl), _, _, Lens.idx 5 (Z0 .i64) 1 (by decide), _, rfl, (vk rfl), _, _, Lens.idx 5 (Z0 .i64) 2 (by decide), _, rfl, (vk rfl), _, _, Lens.idx 5 (Z0 .i64) 3 (by decide), _, rfl, (vk rfl), _, _, Lens.idx 5 (Z0 .i64) 4 (by decide), _, rfl, (vk rfl), rfl⟩ rfl) rfl <| Md rfl <| Cl [3, 4] (Zlw _ _ _ hx2) Zkd rfl <| As rfl <| Nl <| rt ?_
 cases h; exact Zm Tryz.results218 rfl (Zc rfl)
def Zcr (a1 : Action) (x2 : Bool) : Option Bool :=
 (Z9x a1.Kind).bind fun x4 => some ((decide (x4 < 0)) || (x2 && (decide (a1.Kind = 0))))
theorem Zun : Q2 Tryz.prog 217 (rd Z8) (rp Z6) (rd Z6) Zcr := fun a1 x2 r h => I0 Tryz.func217 rfl Tryz.ntmps217 rfl fun w H => by
 unfold Zcr at h
 refine SR <| Cv rfl (Zl 3 rfl rfl (vt rfl)) fun g3 => Ab rfl <| Nl <| sq ?_
 obtain ⟨x4, hx4, h⟩ := Z9 h
 refine Rg <| Zk lAction_0 Z5i rfl <| Ld Zq 3 rfl <| Cl [5] (Ziw _ _ hx4) Zfc rfl <| Ac (Zn rfl rfl (vt rfl) (vk rfl)) rfl <| Md rfl <| Gd rfl (fun hq => Z82 rfl rfl ty4 (vt rfl)) <| AOps.consG (OpG.guardX rfl rfl rfl rfl rfl fun hq => Zt (A := rd Z6 x2) rfl rfl (vgt rfl hq)) <| AOps.consG (OpG.guardN rfl rfl rfl rfl rfl fun hq => Z2n lAction_0 rfl rfl Z5i (vt rfl)) <| AOps.consG (OpG.guardN rfl rfl rfl rfl rfl fun hq => Z1p rfl rfl Zq (vgt rfl hq) (i := 3) rfl) <| AOps.consG (OpG.guardN rfl rfl rfl rfl rfl fun hq => Z1m rfl rfl (vgt rfl hq) (vk rfl)) <| Gd rfl (fun hq => Z22 rfl rfl (vgx rfl hq) (vgw rfl hq)) <| Ac (Z5p rfl rfl (vt rfl) (vt rfl)) rfl <| As rfl <| Nl <| rt ?_
 cases h; exact Zm Tryz.results217 rfl (Zc rfl)
def Z8l (d3 : (Action → Option Bool)) : Nat → (List Action) → Int → Int → Option (List Action)
 | 0, _, _, _ => none
 | m11 + 1, l8, i9, j10 => (bif (decide (j10 < (l8.length : Int))) then (lget l8 j10).bind fun x12 => (d3 x12).bind fun x14 => (bif (!x14) then (lget l8 i9).bind fun x15 => (Z8l d3 m11) (List.set l8 i9.toNat x12) (IntKind.i64.wrap (i9 + 1)) (IntKind.i64.wrap (j10 + 1)) else (Z8l d3 m11) l8 i9 (IntKind.i64.wrap (j10 + 1))) else (Z66 l8 i9).bind fun s16 => (Z5m (List.take i9.toNat l8 ++ List.replicate (l8.length - i9.toNat) Zhb) i9).bind fun s17 => some s17)
def Zio (s1 : (List Action)) (d3 : (Action → Option Bool)) : Option (List Action) :=
 (Zah s1 d3).bind fun x4 => (bif (decide (x4 = (-1))) then some s1 else Z8l d3 ((((s1.length : Int) : Int) - (IntKind.i64.wrap (x4 + 1))).toNat + 1) s1 x4 (IntKind.i64.wrap (x4 + 1)))
theorem Zwk (v2 : Value) (s1 : (List Action)) (d3 : (Action → Option Bool)) (r : (List Action)) (h : Zio s1 d3 = some r) : Con Tryz.prog 215 [Zh v2, fn1 Tryz.prog Z8 Z6 d3] (Za v2 121 Z8 s1) (fun v => Zh v) (fun v => Za v 121 Z8 r) := by
 refine Con.intro Tryz.func215 rfl Tryz.ntmps215 rfl fun w H X => ?_
 unfold Zio at h
 refine sq <| AW.newnil 1001 121 Z8 <| Rg <| Ac (Z00 rfl rfl vc) rfl <| Nl <| sq ?_
 obtain ⟨x4, hx4, h⟩ := Z9 h
 refine Rg <| Mw rfl <| Ac (Zt (A := fn1 Tryz.prog Z8 Z6 d3) rfl rfl (vt rfl)) rfl <| Ac (Zfz (xs := [.tmp 8, .tmp 9]) 0 (Zit _ _ _ hx4) Zfs rfl rfl ⟨vL rfl rfl, vB (vt rfl), trivial⟩) rfl <| As rfl <| Nl <| sq <| SR <| Md rfl <| Ac (Z1m rfl rfl (vt rfl) (vk rfl)) rfl <| Nl <| Cq rfl h (fun h => ?_) (fun h => ?_)
 ·refine SR <| Mw rfl <| Aw rfl <| Nl <| rt ?_
  cases h; exact Z38 (i := 0) Tryz.results215 rfl rfl rfl
 ·refine sk <| sq <| SR <| Md rfl <| Ac (Z0d rfl rfl (vt rfl) (vk rfl)) rfl <| As rfl <| Nl <| bk <| LG (d := []) (ν := Nat × (List Action) × Int × Int) (fun (m11, l8, i9, j10) => (True ∧ Z8l d3 m11 l8 i9 j10 = some r, m11, [(0, Zh v2), (1, fn1 Tryz.prog Z8 Z6 d3), (5, rd (Z0 .i64) i9), (6, rd (Z0 .i64) j10)], [(0, Za v2 121 Z8 l8)])) (((((s1.length : Int) : Int) - (IntKind.i64.wrap (x4 + 1))).toNat + 1), s1, x4, (IntKind.i64.wrap (x4 + 1))) ⟨trivial, h⟩ (FX rfl) ?_
  rintro ⟨m11, l8, i9, j10⟩ ⟨hsf1, h⟩
  dsimp only at h ⊢
  cases m11 with
  | zero => cases h
  | succ m11 =>
   unfold Z8l at h
   refine sq <| SR <| Md rfl <| Mw rfl <| Ac (Z3s 0 rfl rfl Z0p (vt rfl) rfl) rfl <| Ac (Zn rfl rfl (vt rfl) (vt rfl)) rfl <| Nl <| Cq rfl h (fun h => ?_) (fun h => ?_)
   ·refine sk <| sq <| bk <| sq ?_
    obtain ⟨x12, hx12, h⟩ := Z9 h
    refine Rg <| Mw rfl <| Md rfl <| Ac (Z1u 0 rfl rfl Z0p (vt rfl) rfl (vt rfl) hx12) rfl <| Ac (Z10 0 rfl rfl Z0o (vt rfl) rfl (Z09 hx12).2) rfl <| Cv rfl (Zo 8 rfl rfl Z55) fun g13 => Zi Z0o 8 rfl <| Nl <| sq ?_
    obtain ⟨x14, hx14, h⟩ := Z9 h
    refine Rg <| Ac (Zt (A := fn1 Tryz.prog Z8 Z6 d3) rfl rfl (vt rfl)) rfl <| Ld Z0o 8 rfl <| Ac (Z5r hx14 rfl rfl (vt rfl) (vt rfl)) rfl <| Ac (Z1a rfl rfl (vt rfl)) rfl <| Nl <| Cq rfl h (fun h => ?_) (fun h => ?_)
    ·refine sq ?_
     obtain ⟨x15, hx15, h⟩ := Z9 h
     refine Rg <| Mw rfl <| Md rfl <| Ld Z0o 8 rfl <| Ac (Z1u 0 rfl rfl Z0p (vt rfl) rfl (vt rfl) hx15) rfl <| Ac (Z2b 0 rfl rfl Z0o (vt rfl) rfl (Z09 hx15).2 (vt rfl)) rfl <| Nl <| Rg <| Md rfl <| Ac (Z0d rfl rfl (vt rfl) (vk rfl)) rfl <| As rfl <| Nl <| Rg <| Md rfl <| Ac (Z0d rfl rfl (vt rfl) (vk rfl)) rfl <| As rfl <| Nl ?_
     exact ⟨(_, _, _, _), Nat.lt_succ_self _, ⟨trivial, h⟩, FX rfl⟩
    ·refine sk <| Rg <| Md rfl <| Ac (Z0d rfl rfl (vt rfl) (vk rfl)) rfl <| As rfl <| Nl ?_
     exact ⟨(_, _, _, _), Nat.lt_succ_self _, ⟨trivial, h⟩, FX rfl⟩
   ·refine xt <| sq ?_
    obtain ⟨s16, hs16, h⟩ := Z9 h
    refine Rg <| Mw rfl <| Md rfl <| Ac (Zx6 0 hs16 rfl rfl Z0p (vt rfl) rfl (vt rfl)) rfl <| Ac (Zse 0 rfl rfl Z0p Z55 rfl (vt rfl) rfl (Zgo hs16).2.1) rfl <| Nl <| sq ?_
    obtain ⟨s17, hs17, h⟩ := Z9 h
    refine Rg <| Mw rfl <| Md rfl <| Cv rfl (Y2d 0 hs17 rfl rfl Z0p (vt rfl) rfl (vt rfl)) fun v18 => Aw rfl <| Nl <| rt ?_
    cases h; exact Z38 (i := 0) Tryz.results215 rfl rfl rfl
def Zc9 (a3 : Int) (x5 : (Action → Action → Option Int)) (go1 : (List Action) → Int → Option (List Action)) (i9 : Int) : Nat → (List Action) → Int → Option (List Action)
 | 0, _, _ => none
 | m15 + 1, l13, j14 => (opt (decide (j14 > a3)) (lget l13 j14)).bind fun x16 => (opt (decide (j14 > a3)) (lget l13 (IntKind.i64.wrap (j14 - 1)))).bind fun x17 => (opt (decide (j14 > a3)) (x5 x16 x17)).bind fun x18 => (bif ((decide (j14 > a3)) && (decide (x18 < 0))) then (lget l13 (IntKind.i64.wrap (j14 - 1))).bind fun x19 => (lget l13 j14).bind fun x20 => (lget l13 j14).bind fun x21 => (lget (List.set l13 j14.toNat x19) (IntKind.i64.wrap (j14 - 1))).bind fun x22 => (Zc9 a3 x5 go1 i9 m15) (List.set (List.set l13 j14.toNat x19) (IntKind.i64.wrap (j14 - 1)).toNat x20) (IntKind.i64.wrap (j14 - 1)) else go1 l13 (IntKind.i64.wrap (i9 + 1)))
def Z8t (b4 : Int) (a3 : Int) (x5 : (Action → Action → Option Int)) : Nat → (List Action) → Int → Option (List Action)
 | 0, _, _ => none
 | m10 + 1, l8, i9 => (bif (decide (i9 < b4)) then Zc9 a3 x5 (Z8t b4 a3 x5 m10) i9 Z27 l8 i9 else some l8)
def Zdk (d1 : (List Action)) (a3 : Int) (b4 : Int) (x5 : (Action → Action → Option Int)) : Option (List Action) :=
 Z8t b4 a3 x5 (((b4 : Int) - (IntKind.i64.wrap (a3 + 1))).toNat + 1) d1 (IntKind.i64.wrap (a3 + 1))
theorem Zko (v2 : Value) (d1 : (List Action)) (a3 : Int) (b4 : Int) (x5 : (Action → Action → Option Int)) (r : (List Action)) (h : Zdk d1 a3 b4 x5 = some r) : Con Tryz.prog 310 [Zh v2, rd (Z0 .i64) a3, rd (Z0 .i64) b4, fn2 Tryz.prog Z8 Z8 (Z0 .i64) x5] (Za v2 121 Z8 d1) (fun _ : Unit => top) (fun _ => Za v2 121 Z8 r) := by
 refine Con.intro Tryz.func310 rfl Tryz.ntmps310 rfl fun w H X => ?_
 unfold Zdk at h
 refine SR <| Md rfl <| Ac (Z0d rfl rfl (vt rfl) (vk rfl)) rfl <| As rfl <| Nl <| bk <| LG (d := []) (ν := Nat × (List Action) × Int) (fun (m10, l8, i9) => (True ∧ Z8t b4 a3 x5 m10 l8 i9 = some r, m10, [(0, Zh v2), (1, rd (Z0 .i64) a3), (2, rd (Z0 .i64) b4), (3, fn2 Tryz.prog Z8 Z8 (Z0 .i64) x5), (8, rd (Z0 .i64) i9)], [(0, Za v2 121 Z8 l8)])) ((((b4 : Int) - (IntKind.i64.wrap (a3 + 1))).toNat + 1), d1, (IntKind.i64.wrap (a3 + 1))) ⟨trivial, h⟩ (FX rfl) ?_
 rintro ⟨m10, l8, i9⟩ ⟨hsf1, h⟩
 dsimp only at h ⊢
 cases m10 with
 | zero => cases h
 | succ m10 =>
  unfold Z8t at h
  refine sq <| SR <| Md rfl <| Md rfl <| Ac (Zn rfl rfl (vt rfl) (vt rfl)) rfl <| Nl <| Cq rfl h (fun h => ?_) (fun h => ?_)
  ·refine sk <| sq <| bk <| SR <| Md rfl <| As rfl <| Nl <| bk <| LG (d := []) (ν := Nat × (List Action) × Int) (fun (m15, l13, j14) => (True ∧ Zc9 a3 x5 (Z8t b4 a3 x5 m10) i9 m15 l13 j14 = some r, m15, [(0, Zh v2), (1, rd (Z0 .i64) a3), (2, rd (Z0 .i64) b4), (3, fn2 Tryz.prog Z8 Z8 (Z0 .i64) x5), (8, rd (Z0 .i64) i9), (9, rd (Z0 .i64) j14)], [(0, Za v2 121 Z8 l13)])) (Z27, l8, i9) ⟨trivial, h⟩ (FX rfl) ?_
   rintro ⟨m15, l13, j14⟩ ⟨hsf2, h⟩
   dsimp only at h ⊢
   cases m15 with
   | zero => cases h
   | succ m15 =>
    unfold Zc9 at h
    refine sq <| sq ?_
    obtain ⟨x16, hx16, x17, hx17, x18, hx18, h⟩ := bs3 h
    refine AR Zw (by kernel_rfl) <| Zs rfl <| Zs rfl <| Sd (lo [18, 19] [] rfl fun S hs hr => Z2w rfl rfl (vh hs 18 rfl rfl) (vh hs 19 rfl rfl)) <| Zs rfl <| Sd (lg [3, 21] [] rfl fun hq S hs hr => Zt (A := fn2 Tryz.prog Z8 Z8 (Z0 .i64) x5) rfl rfl (vh hs 3 rfl rfl)) <| Sd (lg [0, 21] [] rfl fun hq S hs hr => Zt (A := Zh v2) rfl rfl (vh hs 0 rfl rfl)) <| Sd (lg [9, 21] [] rfl fun hq S hs hr => Zt (A := rd (Z0 .i64) j14) rfl rfl (vh hs 9 rfl rfl)) <| Sd (lg [23, 24, 21] [0] rfl fun hq S hs hr => Z1u 0 rfl rfl Z0p (vgt ((hs 23 rfl).trans rfl) hq) ((hr 0 rfl).trans rfl) (vgt ((hs 24 rfl).trans rfl) hq) (Z2s hx16 hq)) <| Sd (lg [25, 21] [0] rfl fun hq S hs hr => Z10 0 rfl rfl Z0o (vgt ((hs 25 rfl).trans rfl) hq) ((hr 0 rfl).trans rfl) (Z09 (Z2s hx16 hq)).2) <| Sd (lg [0, 21] [] rfl fun hq S hs hr => Zt (A := Zh v2) rfl rfl (vh hs 0 rfl rfl)) <| Sd (lg [9, 21] [] rfl fun hq S hs hr => Zt (A := rd (Z0 .i64) j14) rfl rfl (vh hs 9 rfl rfl)) <| Sd (lg [28, 21] [] rfl fun hq S hs hr => Z0i rfl rfl (vgt ((hs 28 rfl).trans rfl) hq) (vk rfl)) <| Sd (lg [27, 29, 21] [0] rfl fun hq S hs hr => Z1u 0 rfl rfl Z0p (vgt ((hs 27 rfl).trans rfl) hq) ((hr 0 rfl).trans rfl) (vgt ((hs 29 rfl).trans rfl) hq) (Z2s hx17 hq)) <| Sd (lg [30, 21] [0] rfl fun hq S hs hr => Z10 0 rfl rfl Z0o (vgt ((hs 30 rfl).trans rfl) hq) ((hr 0 rfl).trans rfl) (Z09 (Z2s hx17 hq)).2) <| Sd (lg [22, 26, 31, 21] [] rfl fun hq S hs hr => Z5e (Z2s hx18 hq) rfl rfl (vgt ((hs 22 rfl).trans rfl) hq) (vgt ((hs 26 rfl).trans rfl) hq) (vgt ((hs 31 rfl).trans rfl) hq)) <| Sd (lg [32, 21] [] rfl fun hq S hs hr => Zn rfl rfl (vgt ((hs 32 rfl).trans rfl) hq) (vk rfl)) <| Sd (lo [33, 21] [] rfl fun S hs hr => Z22 rfl rfl (vh hs 21 rfl rfl) (vh hs 33 rfl rfl)) <| Sn <| Cq rfl h (fun h => ?_) (fun h => ?_)
    ·refine sk <| sq <| bk <| AW.vlen 0 rfl fun hvl0_266 => ?_
     obtain ⟨x19, hx19, x20, hx20, x21, hx21, x22, hx22, h⟩ := bs4 h
     refine AR Zw (by kernel_rfl) <| SMw rfl <| Zs rfl <| SMw rfl <| Zs rfl <| Sd (lo [40] [] rfl fun S hs hr => Z0i rfl rfl (vh hs 40 rfl rfl) (vk rfl)) <| SMw rfl <| Zs rfl <| Sd (lo [43] [] rfl fun S hs hr => Z0i rfl rfl (vh hs 43 rfl rfl) (vk rfl)) <| Sd (lo [42, 44] [] rfl fun S hs hr => Z19 (l := l13) hvl0_266 rfl rfl rfl Z0p (vh hs 42 rfl rfl) (vh hs 44 rfl rfl) hx19) <| Sd (lo [45] [0] rfl fun S hs hr => Z10 0 rfl rfl Z0o (vh hs 45 rfl rfl) ((hr 0 rfl).trans rfl) (Z09 hx19).2) <| SMw rfl <| Zs rfl <| Sd (lo [47, 48] [] rfl fun S hs hr => Z19 (l := l13) hvl0_266 rfl rfl rfl Z0p (vh hs 47 rfl rfl) (vh hs 48 rfl rfl) hx20) <| Sd (lo [49] [0] rfl fun S hs hr => Z10 0 rfl rfl Z0o (vh hs 49 rfl rfl) ((hr 0 rfl).trans rfl) (Z09 hx20).2) <| Sd (lo [37, 38] [] rfl fun S hs hr => Z19 (l := l13) hvl0_266 rfl rfl rfl Z0p (vh hs 37 rfl rfl) (vh hs 38 rfl rfl) hx21) <| Sd (Z2m [51, 46] [0] rfl fun S hs hr => Z2b 0 rfl rfl Z0o (vh hs 51 rfl rfl) ((hr 0 rfl).trans rfl) (Z09 hx21).2 (vh hs 46 rfl rfl)) <| Sd (lo [39, 41] [] rfl fun S hs hr => Z19 (l := (List.set l13 j14.toNat x19)) hvl0_266 (by simp) rfl rfl Z0p (vh hs 39 rfl rfl) (vh hs 41 rfl rfl) hx22) <| Sd (Z2m [52, 50] [0] rfl fun S hs hr => Z2b 0 rfl rfl Z0o (vh hs 52 rfl rfl) ((hr 0 rfl).trans rfl) (Z09 hx22).2 (vh hs 50 rfl rfl)) <| Sn <| Rg <| Md rfl <| Ac (Z0i rfl rfl (vt rfl) (vk rfl)) rfl <| As rfl <| Nl ?_
     exact ⟨(_, _, _), Nat.lt_succ_self _, ⟨trivial, h⟩, FX rfl⟩
    ·refine xt <| Rg <| Md rfl <| Ac (Z0d rfl rfl (vt rfl) (vk rfl)) rfl <| As rfl <| Nl ?_
     exact ⟨(_, _, _), Nat.lt_succ_self _, ⟨trivial, h⟩, FX rfl⟩
  ·refine xt ?_
   cases h; exact Z1e (i := 0) Tryz.results310 rfl rfl
def Zc2 (n5 : Int) (b4 : Int) (a3 : Int) : Nat → (List Action) → Int → Option (List Action)
 | 0, _, _ => none
 | m11 + 1, l9, i10 => (bif (decide (i10 < n5)) then (lget l9 (IntKind.i64.wrap (b4 + i10))).bind fun x12 => (lget l9 (IntKind.i64.wrap (a3 + i10))).bind fun x13 => (lget l9 (IntKind.i64.wrap (a3 + i10))).bind fun x14 => (lget (List.set l9 (IntKind.i64.wrap (a3 + i10)).toNat x12) (IntKind.i64.wrap (b4 + i10))).bind fun x15 => (Zc2 n5 b4 a3 m11) (List.set (List.set l9 (IntKind.i64.wrap (a3 + i10)).toNat x12) (IntKind.i64.wrap (b4 + i10)).toNat x13) (IntKind.i64.wrap (i10 + 1)) else some l9)
def Z9j (d1 : (List Action)) (a3 : Int) (b4 : Int) (n5 : Int) (x6 : (Action → Action → Option Int)) : Option (List Action) :=
 Zc2 n5 b4 a3 (((n5 : Int) - 0).toNat + 1) d1 0
theorem Zey (v2 : Value) (d1 : (List Action)) (a3 : Int) (b4 : Int) (n5 : Int) (x6 : (Action → Action → Option Int)) (r : (List Action)) (h : Z9j d1 a3 b4 n5 x6 = some r) : Con Tryz.prog 343 [Zh v2, rd (Z0 .i64) a3, rd (Z0 .i64) b4, rd (Z0 .i64) n5, fn2 Tryz.prog Z8 Z8 (Z0 .i64) x6] (Za v2 121 Z8 d1) (fun _ : Unit => top) (fun _ => Za v2 121 Z8 r) := by
 refine Con.intro Tryz.func343 rfl Tryz.ntmps343 rfl fun w H X => ?_
 unfold Z9j at h
 refine SR <| Ak rfl <| Nl <| bk <| LG (d := []) (ν := Nat × (List Action) × Int) (fun (m11, l9, i10) => (True ∧ Zc2 n5 b4 a3 m11 l9 i10 = some r, m11, [(0, Zh v2), (1, rd (Z0 .i64) a3), (2, rd (Z0 .i64) b4), (3, rd (Z0 .i64) n5), (10, rd (Z0 .i64) i10)], [(0, Za v2 121 Z8 l9)])) ((((n5 : Int) - 0).toNat + 1), d1, 0) ⟨trivial, h⟩ (FX rfl) ?_
 rintro ⟨m11, l9, i10⟩ ⟨hsf1, h⟩
 dsimp only at h ⊢
 cases m11 with
 | zero => cases h
 | succ m11 =>
  unfold Zc2 at h
  refine sq <| SR <| Md rfl <| Md rfl <| Ac (Zn rfl rfl (vt rfl) (vt rfl)) rfl <| Nl <| Cq rfl h (fun h => ?_) (fun h => ?_)
  ·refine sk <| sq <| bk <| AW.vlen 0 rfl fun hvl0_123 => ?_
   obtain ⟨x12, hx12, x13, hx13, x14, hx14, x15, hx15, h⟩ := bs4 h
   refine AR Zw (by kernel_rfl) <| SMw rfl <| Zs rfl <| Zs rfl <| Sd (lo [17, 18] [] rfl fun S hs hr => Z0d rfl rfl (vh hs 17 rfl rfl) (vh hs 18 rfl rfl)) <| SMw rfl <| Zs rfl <| Zs rfl <| Sd (lo [21, 22] [] rfl fun S hs hr => Z0d rfl rfl (vh hs 21 rfl rfl) (vh hs 22 rfl rfl)) <| SMw rfl <| Zs rfl <| Zs rfl <| Sd (lo [25, 26] [] rfl fun S hs hr => Z0d rfl rfl (vh hs 25 rfl rfl) (vh hs 26 rfl rfl)) <| Sd (lo [24, 27] [] rfl fun S hs hr => Z19 (l := l9) hvl0_123 rfl rfl rfl Z0p (vh hs 24 rfl rfl) (vh hs 27 rfl rfl) hx12) <| Sd (lo [28] [0] rfl fun S hs hr => Z10 0 rfl rfl Z0o (vh hs 28 rfl rfl) ((hr 0 rfl).trans rfl) (Z09 hx12).2) <| SMw rfl <| Zs rfl <| Zs rfl <| Sd (lo [31, 32] [] rfl fun S hs hr => Z0d rfl rfl (vh hs 31 rfl rfl) (vh hs 32 rfl rfl)) <| Sd (lo [30, 33] [] rfl fun S hs hr => Z19 (l := l9) hvl0_123 rfl rfl rfl Z0p (vh hs 30 rfl rfl) (vh hs 33 rfl rfl) hx13) <| Sd (lo [34] [0] rfl fun S hs hr => Z10 0 rfl rfl Z0o (vh hs 34 rfl rfl) ((hr 0 rfl).trans rfl) (Z09 hx13).2) <| Sd (lo [16, 19] [] rfl fun S hs hr => Z19 (l := l9) hvl0_123 rfl rfl rfl Z0p (vh hs 16 rfl rfl) (vh hs 19 rfl rfl) hx14) <| Sd (Z2m [36, 29] [0] rfl fun S hs hr => Z2b 0 rfl rfl Z0o (vh hs 36 rfl rfl) ((hr 0 rfl).trans rfl) (Z09 hx14).2 (vh hs 29 rfl rfl)) <| Sd (lo [20, 23] [] rfl fun S hs hr => Z19 (l := (List.set l9 (IntKind.i64.wrap (a3 + i10)).toNat x12)) hvl0_123 (by simp) rfl rfl Z0p (vh hs 20 rfl rfl) (vh hs 23 rfl rfl) hx15) <| Sd (Z2m [37, 35] [0] rfl fun S hs hr => Z2b 0 rfl rfl Z0o (vh hs 37 rfl rfl) ((hr 0 rfl).trans rfl) (Z09 hx15).2 (vh hs 35 rfl rfl)) <| Sn <| Rg <| Md rfl <| Ac (Z0d rfl rfl (vt rfl) (vk rfl)) rfl <| As rfl <| Nl ?_
   exact ⟨(_, _, _), Nat.lt_succ_self _, ⟨trivial, h⟩, FX rfl⟩
  ·refine xt ?_
   cases h; exact Z1e (i := 0) Tryz.results343 rfl rfl
end Go.Proofs.YtknpgojdkobgjaaGreat.W
set_option maxRecDepth 4000
namespace Go.Proofs.YtknpgojdkobgjaaGreat.W
open Go Go.Wb
theorem Zgj : Ent Tryz.prog 343 := Ent.mk Tryz.func343 rfl rfl
theorem Zdx : Ent Tryz.prog 311 := Ent.mk Tryz.func311 rfl rfl
theorem Zz5 : Ent Tryz.prog 335 := Ent.mk Tryz.func335 rfl rfl
theorem Zpa : Ent Tryz.prog 310 := Ent.mk Tryz.func310 rfl rfl
theorem Zw3 : Ent Tryz.prog 274 := Ent.mk Tryz.func274 rfl rfl
theorem Zr2 : Ent Tryz.prog 213 := Ent.mk Tryz.func213 rfl rfl
theorem Zq0 : Ent Tryz.prog 214 := Ent.mk Tryz.func214 rfl rfl
theorem Zuf : Ent Tryz.prog 217 := Ent.mk Tryz.func217 rfl rfl
theorem Zxm : Ent Tryz.prog 215 := Ent.mk Tryz.func215 rfl rfl
theorem Zti : Ent Tryz.prog 219 := Ent.mk Tryz.func219 rfl rfl
theorem Zup : Ent Tryz.prog 220 := Ent.mk Tryz.func220 rfl rfl
theorem Zan : Ent Tryz.prog 204 := Ent.mk Tryz.func204 rfl rfl
theorem Zls : Ent Tryz.prog 149 := Ent.mk Tryz.func149 rfl rfl
theorem Zm2 : Ent Tryz.prog 205 := Ent.mk Tryz.func205 rfl rfl
theorem Znt : Ent Tryz.prog 206 := Ent.mk Tryz.func206 rfl rfl
theorem Zk9 : Ent Tryz.prog 208 := Ent.mk Tryz.func208 rfl rfl
def Z8j (m4 : Int) (x6 : (Action → Action → Option Int)) : Nat → (List Action) → Int → Int → Option (List Action)
 | 0, _, _, _ => none
 | m13 + 1, l10, i11, j12 => (bif (decide (i11 ≠ j12)) then (bif (decide (i11 > j12)) then (Z9j l10 (IntKind.i64.wrap (m4 - i11)) m4 j12 x6).bind fun l14 => (Z8j m4 x6 m13) l14 (IntKind.i64.wrap (i11 - j12)) j12 else (Z9j l10 (IntKind.i64.wrap (m4 - i11)) (IntKind.i64.wrap ((IntKind.i64.wrap (m4 + j12)) - i11)) i11 x6).bind fun l15 => (Z8j m4 x6 m13) l15 i11 (IntKind.i64.wrap (j12 - i11))) else (Z9j l10 (IntKind.i64.wrap (m4 - i11)) m4 i11 x6).bind fun l16 => some l16)
def Zho (d1 : (List Action)) (a3 : Int) (m4 : Int) (b5 : Int) (x6 : (Action → Action → Option Int)) : Option (List Action) :=
 Z8j m4 x6 Z27 d1 (IntKind.i64.wrap (m4 - a3)) (IntKind.i64.wrap (b5 - m4))
theorem Zq8 (v2 : Value) (d1 : (List Action)) (a3 : Int) (m4 : Int) (b5 : Int) (x6 : (Action → Action → Option Int)) (r : (List Action)) (h : Zho d1 a3 m4 b5 x6 = some r) : Con Tryz.prog 335 [Zh v2, rd (Z0 .i64) a3, rd (Z0 .i64) m4, rd (Z0 .i64) b5, fn2 Tryz.prog Z8 Z8 (Z0 .i64) x6] (Za v2 121 Z8 d1) (fun _ : Unit => top) (fun _ => Za v2 121 Z8 r) := by
 refine Con.intro Tryz.func335 rfl Tryz.ntmps335 rfl fun w H X => ?_
 unfold Zho at h
 refine SR <| Md rfl <| Md rfl <| Ac (Z0i rfl rfl (vt rfl) (vt rfl)) rfl <| As rfl <| Nl <| SR <| Md rfl <| Md rfl <| Ac (Z0i rfl rfl (vt rfl) (vt rfl)) rfl <| As rfl <| Nl <| sq <| bk <| LG (d := []) (ν := Nat × (List Action) × Int × Int) (fun (m13, l10, i11, j12) => (True ∧ Z8j m4 x6 m13 l10 i11 j12 = some r, m13, [(0, Zh v2), (2, rd (Z0 .i64) m4), (4, fn2 Tryz.prog Z8 Z8 (Z0 .i64) x6), (10, rd (Z0 .i64) i11), (11, rd (Z0 .i64) j12)], [(0, Za v2 121 Z8 l10)])) (Z27, d1, (IntKind.i64.wrap (m4 - a3)), (IntKind.i64.wrap (b5 - m4))) ⟨trivial, h⟩ (FX rfl) ?_
 rintro ⟨m13, l10, i11, j12⟩ ⟨hsf1, h⟩
 dsimp only at h ⊢
 cases m13 with
 | zero => cases h
 | succ m13 =>
  unfold Z8j at h
  refine sq <| SR <| Md rfl <| Md rfl <| Ac (Z3g rfl rfl (vt rfl) (vt rfl)) rfl <| Nl <| Cq rfl h (fun h => ?_) (fun h => ?_)
  ·refine sk <| bk <| SR <| Md rfl <| Md rfl <| Ac (Z2w rfl rfl (vt rfl) (vt rfl)) rfl <| Nl <| Cq rfl h (fun h => ?_) (fun h => ?_)
   ·refine sq ?_
    obtain ⟨l14, hl14, h⟩ := Z9 h
    refine Rg <| Mw rfl <| Md rfl <| Md rfl <| Ac (Z0i rfl rfl (vt rfl) (vt rfl)) rfl <| Md rfl <| Md rfl <| Ac (Zt (A := fn2 Tryz.prog Z8 Z8 (Z0 .i64) x6) rfl rfl (vt rfl)) rfl <| Cv rfl (Z0r 0 (xs := [.tmp 24, .tmp 27, .tmp 28, .tmp 29, .tmp 30]) (Zey _ _ _ _ _ _ _ hl14) Zgj rfl rfl ⟨vt rfl, vt rfl, vt rfl, vt rfl, vt rfl, trivial⟩ rfl) fun _u => Nl <| Rg <| Md rfl <| Md rfl <| Ac (Z0i rfl rfl (vt rfl) (vt rfl)) rfl <| As rfl <| Nl ?_
    exact ⟨(_, _, _, _), Nat.lt_succ_self _, ⟨trivial, h⟩, FX rfl⟩
   ·refine sq ?_
    obtain ⟨l15, hl15, h⟩ := Z9 h
    refine Rg <| Mw rfl <| Md rfl <| Md rfl <| Ac (Z0i rfl rfl (vt rfl) (vt rfl)) rfl <| Md rfl <| Md rfl <| Ac (Z0d rfl rfl (vt rfl) (vt rfl)) rfl <| Md rfl <| Ac (Z0i rfl rfl (vt rfl) (vt rfl)) rfl <| Md rfl <| Ac (Zt (A := fn2 Tryz.prog Z8 Z8 (Z0 .i64) x6) rfl rfl (vt rfl)) rfl <| Cv rfl (Z0r 0 (xs := [.tmp 35, .tmp 38, .tmp 43, .tmp 44, .tmp 45]) (Zey _ _ _ _ _ _ _ hl15) Zgj rfl rfl ⟨vt rfl, vt rfl, vt rfl, vt rfl, vt rfl, trivial⟩ rfl) fun _u => Nl <| Rg <| Md rfl <| Md rfl <| Ac (Z0i rfl rfl (vt rfl) (vt rfl)) rfl <| As rfl <| Nl ?_
    exact ⟨(_, _, _, _), Nat.lt_succ_self _, ⟨trivial, h⟩, FX rfl⟩
  ·refine xt ?_
   obtain ⟨l16, hl16, h⟩ := Z9 h
   refine Rg <| Mw rfl <| Md rfl <| Md rfl <| Ac (Z0i rfl rfl (vt rfl) (vt rfl)) rfl <| Md rfl <| Md rfl <| Ac (Zt (A := fn2 Tryz.prog Z8 Z8 (Z0 .i64) x6) rfl rfl (vt rfl)) rfl <| Cv rfl (Z0r 0 (xs := [.tmp 50, .tmp 53, .tmp 54, .tmp 55, .tmp 56]) (Zey _ _ _ _ _ _ _ hl16) Zgj rfl rfl ⟨vt rfl, vt rfl, vt rfl, vt rfl, vt rfl, trivial⟩ rfl) fun _u => Nl ?_
   cases h; exact Z1e (i := 0) Tryz.results335 rfl rfl
def Zcv (i9 : Int) : Nat → (List Action) → Int → Option (List Action)
 | 0, _, _ => none
 | m20 + 1, l18, k19 => (bif (decide (k19 < (IntKind.i64.wrap (i9 - 1)))) then (lget l18 (IntKind.i64.wrap (k19 + 1))).bind fun x21 => (lget l18 k19).bind fun x22 => (lget l18 k19).bind fun x23 => (lget (List.set l18 k19.toNat x21) (IntKind.i64.wrap (k19 + 1))).bind fun x24 => (Zcv i9 m20) (List.set (List.set l18 k19.toNat x21) (IntKind.i64.wrap (k19 + 1)).toNat x22) (IntKind.i64.wrap (k19 + 1)) else some l18)
def Z91 (d1 : (List Action)) (a3 : Int) (x6 : (Action → Action → Option Int)) : Nat → Int → Int → Option (List Action)
 | 0, _, _ => none
 | m11 + 1, i9, j10 => (bif (decide (i9 < j10)) then (Z2p (BitVec.ofInt 64 (IntKind.i64.wrap (i9 + j10))) ((1 : BitVec 64).toNat : Int)).bind fun q12 => (lget d1 (IntKind.i64.wrap (q12.toNat : Int))).bind fun x13 => (lget d1 a3).bind fun x14 => (x6 x13 x14).bind fun x15 => (bif (decide (x15 < 0)) then (Z91 d1 a3 x6 m11) (IntKind.i64.wrap ((IntKind.i64.wrap (q12.toNat : Int)) + 1)) j10 else (Z91 d1 a3 x6 m11) i9 (IntKind.i64.wrap (q12.toNat : Int))) else Zcv i9 ((((IntKind.i64.wrap (i9 - 1)) : Int) - a3).toNat + 1) d1 a3)
def Zd7 (i27 : Int) : Nat → (List Action) → Int → Option (List Action)
 | 0, _, _ => none
 | m38 + 1, l36, k37 => (bif (decide (k37 > i27)) then (lget l36 (IntKind.i64.wrap (k37 - 1))).bind fun x39 => (lget l36 k37).bind fun x40 => (lget l36 k37).bind fun x41 => (lget (List.set l36 k37.toNat x39) (IntKind.i64.wrap (k37 - 1))).bind fun x42 => (Zd7 i27 m38) (List.set (List.set l36 k37.toNat x39) (IntKind.i64.wrap (k37 - 1)).toNat x40) (IntKind.i64.wrap (k37 - 1)) else some l36)
def Za4 (d1 : (List Action)) (m4 : Int) (x6 : (Action → Action → Option Int)) : Nat → Int → Int → Option (List Action)
 | 0, _, _ => none
 | m29 + 1, i27, j28 => (bif (decide (i27 < j28)) then (Z2p (BitVec.ofInt 64 (IntKind.i64.wrap (i27 + j28))) ((1 : BitVec 64).toNat : Int)).bind fun q30 => (lget d1 m4).bind fun x31 => (lget d1 (IntKind.i64.wrap (q30.toNat : Int))).bind fun x32 => (x6 x31 x32).bind fun x33 => (bif (!(decide (x33 < 0))) then (Za4 d1 m4 x6 m29) (IntKind.i64.wrap ((IntKind.i64.wrap (q30.toNat : Int)) + 1)) j28 else (Za4 d1 m4 x6 m29) i27 (IntKind.i64.wrap (q30.toNat : Int))) else Zd7 i27 (((m4 : Int) - i27).toNat + 1) d1 m4)
def Zd2 (q43 : (BitVec 64)) (m4 : Int) (s48 : Int) (b5 : Int) (R_slices_symMergeCmpFunc_Action : ((List Action) → Int → Int → Int → (Action → Action → Option Int) → Option (List Action))) (x6 : (Action → Action → Option Int)) (l56 : (List Action)) : Option (List Action) :=
 (bif ((decide ((IntKind.i64.wrap (q43.toNat : Int)) < (IntKind.i64.wrap ((IntKind.i64.wrap ((IntKind.i64.wrap (q43.toNat : Int)) + m4)) - s48)))) && (decide ((IntKind.i64.wrap ((IntKind.i64.wrap ((IntKind.i64.wrap (q43.toNat : Int)) + m4)) - s48)) < b5))) then (R_slices_symMergeCmpFunc_Action l56 (IntKind.i64.wrap (q43.toNat : Int)) (IntKind.i64.wrap ((IntKind.i64.wrap ((IntKind.i64.wrap (q43.toNat : Int)) + m4)) - s48)) b5 x6).bind fun l57 => some l57 else some l56)
def Zdo (a3 : Int) (s48 : Int) (q43 : (BitVec 64)) (R_slices_symMergeCmpFunc_Action : ((List Action) → Int → Int → Int → (Action → Action → Option Int) → Option (List Action))) (x6 : (Action → Action → Option Int)) (m4 : Int) (b5 : Int) (l55 : (List Action)) : Option (List Action) :=
 (bif ((decide (a3 < s48)) && (decide (s48 < (IntKind.i64.wrap (q43.toNat : Int))))) then (R_slices_symMergeCmpFunc_Action l55 a3 s48 (IntKind.i64.wrap (q43.toNat : Int)) x6).bind fun l58 => Zd2 q43 m4 s48 b5 R_slices_symMergeCmpFunc_Action x6 l58 else Zd2 q43 m4 s48 b5 R_slices_symMergeCmpFunc_Action x6 l55)
def Z8p (d1 : (List Action)) (q43 : (BitVec 64)) (m4 : Int) (x6 : (Action → Action → Option Int)) (a3 : Int) (R_slices_symMergeCmpFunc_Action : ((List Action) → Int → Int → Int → (Action → Action → Option Int) → Option (List Action))) (b5 : Int) : Nat → Int → Int → Option (List Action)
 | 0, _, _ => none
 | m50 + 1, s48, x49 => (bif (decide (s48 < x49)) then (Z2p (BitVec.ofInt 64 (IntKind.i64.wrap (s48 + x49))) ((1 : BitVec 64).toNat : Int)).bind fun q51 => (lget d1 (IntKind.i64.wrap ((IntKind.i64.wrap ((IntKind.i64.wrap ((IntKind.i64.wrap (q43.toNat : Int)) + m4)) - 1)) - (IntKind.i64.wrap (q51.toNat : Int))))).bind fun x52 => (lget d1 (IntKind.i64.wrap (q51.toNat : Int))).bind fun x53 => (x6 x52 x53).bind fun x54 => (bif (!(decide (x54 < 0))) then (Z8p d1 q43 m4 x6 a3 R_slices_symMergeCmpFunc_Action b5 m50) (IntKind.i64.wrap ((IntKind.i64.wrap (q51.toNat : Int)) + 1)) x49 else (Z8p d1 q43 m4 x6 a3 R_slices_symMergeCmpFunc_Action b5 m50) s48 (IntKind.i64.wrap (q51.toNat : Int))) else (bif ((decide (s48 < m4)) && (decide (m4 < (IntKind.i64.wrap ((IntKind.i64.wrap ((IntKind.i64.wrap (q43.toNat : Int)) + m4)) - s48))))) then (Zho d1 s48 m4 (IntKind.i64.wrap ((IntKind.i64.wrap ((IntKind.i64.wrap (q43.toNat : Int)) + m4)) - s48)) x6).bind fun l59 => Zdo a3 s48 q43 R_slices_symMergeCmpFunc_Action x6 m4 b5 l59 else Zdo a3 s48 q43 R_slices_symMergeCmpFunc_Action x6 m4 b5 d1))
def Zcg (d1 : (List Action)) (q43 : (BitVec 64)) (m4 : Int) (x6 : (Action → Action → Option Int)) (a3 : Int) (R_slices_symMergeCmpFunc_Action : ((List Action) → Int → Int → Int → (Action → Action → Option Int) → Option (List Action))) (b5 : Int) (s44 : Int) (x45 : Int) : Option (List Action) :=
 Z8p d1 q43 m4 x6 a3 R_slices_symMergeCmpFunc_Action b5 (((x45 : Int) - s44).toNat + 1) s44 x45
def Zj5 (R_slices_symMergeCmpFunc_Action : ((List Action) → Int → Int → Int → (Action → Action → Option Int) → Option (List Action))) (d1 : (List Action)) (a3 : Int) (m4 : Int) (b5 : Int) (x6 : (Action → Action → Option Int)) : Option (List Action) :=
 (bif (decide ((IntKind.i64.wrap (m4 - a3)) = 1)) then Z91 d1 a3 x6 (((b5 : Int) - m4).toNat + 1) m4 b5 else (bif (decide ((IntKind.i64.wrap (b5 - m4)) = 1)) then Za4 d1 m4 x6 (((m4 : Int) - a3).toNat + 1) a3 m4 else (Z2p (BitVec.ofInt 64 (IntKind.i64.wrap (a3 + b5))) ((1 : BitVec 64).toNat : Int)).bind fun q43 => (bif (decide (m4 > (IntKind.i64.wrap (q43.toNat : Int)))) then Zcg d1 q43 m4 x6 a3 R_slices_symMergeCmpFunc_Action b5 (IntKind.i64.wrap ((IntKind.i64.wrap ((IntKind.i64.wrap (q43.toNat : Int)) + m4)) - b5)) (IntKind.i64.wrap (q43.toNat : Int)) else Zcg d1 q43 m4 x6 a3 R_slices_symMergeCmpFunc_Action b5 a3 m4)))
theorem Zw9 (R_slices_symMergeCmpFunc_Action : ((List Action) → Int → Int → Int → (Action → Action → Option Int) → Option (List Action))) (hR_slices_symMergeCmpFunc_Action : ∀ (v2 : Value) (d1 : (List Action)) (a3 : Int) (m4 : Int) (b5 : Int) (x6 : (Action → Action → Option Int)) (r : (List Action)), R_slices_symMergeCmpFunc_Action d1 a3 m4 b5 x6 = some r → Con Tryz.prog 311 [Zh v2, rd (Z0 .i64) a3, rd (Z0 .i64) m4, rd (Z0 .i64) b5, fn2 Tryz.prog Z8 Z8 (Z0 .i64) x6] (Za v2 121 Z8 d1) (fun _ : Unit => top) (fun _ => Za v2 121 Z8 r)) (v2 : Value) (d1 : (List Action)) (a3 : Int) (m4 : Int) (b5 : Int) (x6 : (Action → Action → Option Int)) (r : (List Action)) (h : Zj5 R_slices_symMergeCmpFunc_Action d1 a3 m4 b5 x6 = some r) : Con Tryz.prog 311 [Zh v2, rd (Z0 .i64) a3, rd (Z0 .i64) m4, rd (Z0 .i64) b5, fn2 Tryz.prog Z8 Z8 (Z0 .i64) x6] (Za v2 121 Z8 d1) (fun _ : Unit => top) (fun _ => Za v2 121 Z8 r) := by
 refine Con.intro Tryz.func311 rfl Tryz.ntmps311 rfl fun w H X => ?_
 unfold Zj5 at h
 refine sq <| SR <| Md rfl <| Md rfl <| Ac (Z0i rfl rfl (vt rfl) (vt rfl)) rfl <| Ac (Z1m rfl rfl (vt rfl) (vk rfl)) rfl <| Nl <| Cq rfl h (fun h => ?_) (fun h => ?_)
 ·refine SR <| Md rfl <| As rfl <| Nl <| SR <| Md rfl <| As rfl <| Nl <| sq <| bk <| LG (d := []) (ν := Nat × Int × Int) (fun (m11, i9, j10) => (True ∧ Z91 d1 a3 x6 m11 i9 j10 = some r, m11, [(0, Zh v2), (1, rd (Z0 .i64) a3), (4, fn2 Tryz.prog Z8 Z8 (Z0 .i64) x6), (10, rd (Z0 .i64) i9), (11, rd (Z0 .i64) j10)], [(0, Za v2 121 Z8 d1)])) ((((b5 : Int) - m4).toNat + 1), m4, b5) ⟨trivial, h⟩ (FX rfl) ?_
  rintro ⟨m11, i9, j10⟩ ⟨hsf1, h⟩
  dsimp only at h ⊢
  cases m11 with
  | zero => cases h
  | succ m11 =>
   unfold Z91 at h
   refine sq <| SR <| Md rfl <| Md rfl <| Ac (Zn rfl rfl (vt rfl) (vt rfl)) rfl <| Nl <| Cq rfl h (fun h => ?_) (fun h => ?_)
   ·refine sk <| bk <| sq ?_
    obtain ⟨q12, hq12, h⟩ := Z9 h
    refine Rg <| Md rfl <| Md rfl <| Ac (Z0d rfl rfl (vt rfl) (vt rfl)) rfl <| Ac (Z4o rfl rfl us3 Z57 (vt rfl)) rfl <| Ac (Z34 rfl rfl (vt rfl) (Z36 (vku (1 : BitVec 64) rfl)) hq12) rfl <| Ac (Z50 rfl rfl Z5o un3 (vt rfl)) rfl <| As rfl <| Nl <| sq ?_
    obtain ⟨x13, hx13, x14, hx14, x15, hx15, h⟩ := bs3 h
    refine AR Zw (by kernel_rfl) <| Sd (lo [4] [] rfl fun S hs hr => Zt (A := fn2 Tryz.prog Z8 Z8 (Z0 .i64) x6) rfl rfl (vh hs 4 rfl rfl)) <| SMw rfl <| Zs rfl <| Sd (lo [41, 42] [0] rfl fun S hs hr => Z1u 0 rfl rfl Z0p (vh hs 41 rfl rfl) ((hr 0 rfl).trans rfl) (vh hs 42 rfl rfl) hx13) <| Sd (lo [43] [0] rfl fun S hs hr => Z10 0 rfl rfl Z0o (vh hs 43 rfl rfl) ((hr 0 rfl).trans rfl) (Z09 hx13).2) <| SMw rfl <| Zs rfl <| Sd (lo [45, 46] [0] rfl fun S hs hr => Z1u 0 rfl rfl Z0p (vh hs 45 rfl rfl) ((hr 0 rfl).trans rfl) (vh hs 46 rfl rfl) hx14) <| Sd (lo [47] [0] rfl fun S hs hr => Z10 0 rfl rfl Z0o (vh hs 47 rfl rfl) ((hr 0 rfl).trans rfl) (Z09 hx14).2) <| Sd (lo [40, 44, 48] [] rfl fun S hs hr => Z5e hx15 rfl rfl (vh hs 40 rfl rfl) (vh hs 44 rfl rfl) (vh hs 48 rfl rfl)) <| Sd (lo [49] [] rfl fun S hs hr => Zn rfl rfl (vh hs 49 rfl rfl) (vk rfl)) <| Sn <| Cq rfl h (fun h => ?_) (fun h => ?_)
    ·refine Rg <| Md rfl <| Ac (Z0d rfl rfl (vt rfl) (vk rfl)) rfl <| As rfl <| Nl ?_
     exact ⟨(_, _, _), Nat.lt_succ_self _, ⟨trivial, h⟩, FX rfl⟩
    ·refine Rg <| Md rfl <| As rfl <| Nl ?_
     exact ⟨(_, _, _), Nat.lt_succ_self _, ⟨trivial, h⟩, FX rfl⟩
   ·refine xt <| sq <| SR <| Md rfl <| As rfl <| Nl <| bk <| LG (d := []) (ν := Nat × (List Action) × Int) (fun (m20, l18, k19) => (True ∧ Zcv i9 m20 l18 k19 = some r, m20, [(0, Zh v2), (10, rd (Z0 .i64) i9), (13, rd (Z0 .i64) k19)], [(0, Za v2 121 Z8 l18)])) (((((IntKind.i64.wrap (i9 - 1)) : Int) - a3).toNat + 1), d1, a3) ⟨trivial, h⟩ (FX rfl) ?_
    rintro ⟨m20, l18, k19⟩ ⟨hsf2, h⟩
    dsimp only at h ⊢
    cases m20 with
    | zero => cases h
    | succ m20 =>
     unfold Zcv at h
     refine sq <| SR <| Md rfl <| Md rfl <| Ac (Z0i rfl rfl (vt rfl) (vk rfl)) rfl <| Ac (Zn rfl rfl (vt rfl) (vt rfl)) rfl <| Nl <| Cq rfl h (fun h => ?_) (fun h => ?_)
     ·refine sk <| sq <| bk <| AW.vlen 0 rfl fun hvl0_205 => ?_
      obtain ⟨x21, hx21, x22, hx22, x23, hx23, x24, hx24, h⟩ := bs4 h
      refine AR Zw (by kernel_rfl) <| SMw rfl <| Zs rfl <| SMw rfl <| Zs rfl <| Sd (lo [64] [] rfl fun S hs hr => Z0d rfl rfl (vh hs 64 rfl rfl) (vk rfl)) <| SMw rfl <| Zs rfl <| Sd (lo [67] [] rfl fun S hs hr => Z0d rfl rfl (vh hs 67 rfl rfl) (vk rfl)) <| Sd (lo [66, 68] [] rfl fun S hs hr => Z19 (l := l18) hvl0_205 rfl rfl rfl Z0p (vh hs 66 rfl rfl) (vh hs 68 rfl rfl) hx21) <| Sd (lo [69] [0] rfl fun S hs hr => Z10 0 rfl rfl Z0o (vh hs 69 rfl rfl) ((hr 0 rfl).trans rfl) (Z09 hx21).2) <| SMw rfl <| Zs rfl <| Sd (lo [71, 72] [] rfl fun S hs hr => Z19 (l := l18) hvl0_205 rfl rfl rfl Z0p (vh hs 71 rfl rfl) (vh hs 72 rfl rfl) hx22) <| Sd (lo [73] [0] rfl fun S hs hr => Z10 0 rfl rfl Z0o (vh hs 73 rfl rfl) ((hr 0 rfl).trans rfl) (Z09 hx22).2) <| Sd (lo [61, 62] [] rfl fun S hs hr => Z19 (l := l18) hvl0_205 rfl rfl rfl Z0p (vh hs 61 rfl rfl) (vh hs 62 rfl rfl) hx23) <| Sd (Z2m [75, 70] [0] rfl fun S hs hr => Z2b 0 rfl rfl Z0o (vh hs 75 rfl rfl) ((hr 0 rfl).trans rfl) (Z09 hx23).2 (vh hs 70 rfl rfl)) <| Sd (lo [63, 65] [] rfl fun S hs hr => Z19 (l := (List.set l18 k19.toNat x21)) hvl0_205 (by simp) rfl rfl Z0p (vh hs 63 rfl rfl) (vh hs 65 rfl rfl) hx24) <| Sd (Z2m [76, 74] [0] rfl fun S hs hr => Z2b 0 rfl rfl Z0o (vh hs 76 rfl rfl) ((hr 0 rfl).trans rfl) (Z09 hx24).2 (vh hs 74 rfl rfl)) <| Sn <| Rg <| Md rfl <| Ac (Z0d rfl rfl (vt rfl) (vk rfl)) rfl <| As rfl <| Nl ?_
      exact ⟨(_, _, _), Nat.lt_succ_self _, ⟨trivial, h⟩, FX rfl⟩
     ·refine xt <| rt ?_
      cases h; exact Z1e (i := 0) Tryz.results311 rfl rfl
 ·refine sk <| sq <| SR <| Md rfl <| Md rfl <| Ac (Z0i rfl rfl (vt rfl) (vt rfl)) rfl <| Ac (Z1m rfl rfl (vt rfl) (vk rfl)) rfl <| Nl <| Cq rfl h (fun h => ?_) (fun h => ?_)
  ·refine SR <| Md rfl <| As rfl <| Nl <| SR <| Md rfl <| As rfl <| Nl <| sq <| bk <| LG (d := []) (ν := Nat × Int × Int) (fun (m29, i27, j28) => (True ∧ Za4 d1 m4 x6 m29 i27 j28 = some r, m29, [(0, Zh v2), (2, rd (Z0 .i64) m4), (4, fn2 Tryz.prog Z8 Z8 (Z0 .i64) x6), (14, rd (Z0 .i64) i27), (15, rd (Z0 .i64) j28)], [(0, Za v2 121 Z8 d1)])) ((((m4 : Int) - a3).toNat + 1), a3, m4) ⟨trivial, h⟩ (FX rfl) ?_
   rintro ⟨m29, i27, j28⟩ ⟨hsf3, h⟩
   dsimp only at h ⊢
   cases m29 with
   | zero => cases h
   | succ m29 =>
    unfold Za4 at h
    refine sq <| SR <| Md rfl <| Md rfl <| Ac (Zn rfl rfl (vt rfl) (vt rfl)) rfl <| Nl <| Cq rfl h (fun h => ?_) (fun h => ?_)
    ·refine sk <| bk <| sq ?_
     obtain ⟨q30, hq30, h⟩ := Z9 h
     refine Rg <| Md rfl <| Md rfl <| Ac (Z0d rfl rfl (vt rfl) (vt rfl)) rfl <| Ac (Z4o rfl rfl us3 Z57 (vt rfl)) rfl <| Ac (Z34 rfl rfl (vt rfl) (Z36 (vku (1 : BitVec 64) rfl)) hq30) rfl <| Ac (Z50 rfl rfl Z5o un3 (vt rfl)) rfl <| As rfl <| Nl <| sq ?_
     obtain ⟨x31, hx31, x32, hx32, x33, hx33, h⟩ := bs3 h
     refine AR Zw (by kernel_rfl) <| Sd (lo [4] [] rfl fun S hs hr => Zt (A := fn2 Tryz.prog Z8 Z8 (Z0 .i64) x6) rfl rfl (vh hs 4 rfl rfl)) <| SMw rfl <| Zs rfl <| Sd (lo [93, 94] [0] rfl fun S hs hr => Z1u 0 rfl rfl Z0p (vh hs 93 rfl rfl) ((hr 0 rfl).trans rfl) (vh hs 94 rfl rfl) hx31) <| Sd (lo [95] [0] rfl fun S hs hr => Z10 0 rfl rfl Z0o (vh hs 95 rfl rfl) ((hr 0 rfl).trans rfl) (Z09 hx31).2) <| SMw rfl <| Zs rfl <| Sd (lo [97, 98] [0] rfl fun S hs hr => Z1u 0 rfl rfl Z0p (vh hs 97 rfl rfl) ((hr 0 rfl).trans rfl) (vh hs 98 rfl rfl) hx32) <| Sd (lo [99] [0] rfl fun S hs hr => Z10 0 rfl rfl Z0o (vh hs 99 rfl rfl) ((hr 0 rfl).trans rfl) (Z09 hx32).2) <| Sd (lo [92, 96, 100] [] rfl fun S hs hr => Z5e hx33 rfl rfl (vh hs 92 rfl rfl) (vh hs 96 rfl rfl) (vh hs 100 rfl rfl)) <| Sd (lo [101] [] rfl fun S hs hr => Zn rfl rfl (vh hs 101 rfl rfl) (vk rfl)) <| Sd (lo [102] [] rfl fun S hs hr => Z1a rfl rfl (vh hs 102 rfl rfl)) <| Sn <| Cq rfl h (fun h => ?_) (fun h => ?_)
     ·refine Rg <| Md rfl <| Ac (Z0d rfl rfl (vt rfl) (vk rfl)) rfl <| As rfl <| Nl ?_
      exact ⟨(_, _, _), Nat.lt_succ_self _, ⟨trivial, h⟩, FX rfl⟩
     ·refine Rg <| Md rfl <| As rfl <| Nl ?_
      exact ⟨(_, _, _), Nat.lt_succ_self _, ⟨trivial, h⟩, FX rfl⟩
    ·refine xt <| sq <| SR <| Md rfl <| As rfl <| Nl <| bk <| LG (d := []) (ν := Nat × (List Action) × Int) (fun (m38, l36, k37) => (True ∧ Zd7 i27 m38 l36 k37 = some r, m38, [(0, Zh v2), (14, rd (Z0 .i64) i27), (17, rd (Z0 .i64) k37)], [(0, Za v2 121 Z8 l36)])) ((((m4 : Int) - i27).toNat + 1), d1, m4) ⟨trivial, h⟩ (FX rfl) ?_
     rintro ⟨m38, l36, k37⟩ ⟨hsf4, h⟩
     dsimp only at h ⊢
     cases m38 with
     | zero => cases h
     | succ m38 =>
      unfold Zd7 at h
      refine sq <| SR <| Md rfl <| Md rfl <| Ac (Z2w rfl rfl (vt rfl) (vt rfl)) rfl <| Nl <| Cq rfl h (fun h => ?_) (fun h => ?_)
      ·refine sk <| sq <| bk <| AW.vlen 0 rfl fun hvl0_446 => ?_
       obtain ⟨x39, hx39, x40, hx40, x41, hx41, x42, hx42, h⟩ := bs4 h
       refine AR Zw (by kernel_rfl) <| SMw rfl <| Zs rfl <| SMw rfl <| Zs rfl <| Sd (lo [116] [] rfl fun S hs hr => Z0i rfl rfl (vh hs 116 rfl rfl) (vk rfl)) <| SMw rfl <| Zs rfl <| Sd (lo [119] [] rfl fun S hs hr => Z0i rfl rfl (vh hs 119 rfl rfl) (vk rfl)) <| Sd (lo [118, 120] [] rfl fun S hs hr => Z19 (l := l36) hvl0_446 rfl rfl rfl Z0p (vh hs 118 rfl rfl) (vh hs 120 rfl rfl) hx39) <| Sd (lo [121] [0] rfl fun S hs hr => Z10 0 rfl rfl Z0o (vh hs 121 rfl rfl) ((hr 0 rfl).trans rfl) (Z09 hx39).2) <| SMw rfl <| Zs rfl <| Sd (lo [123, 124] [] rfl fun S hs hr => Z19 (l := l36) hvl0_446 rfl rfl rfl Z0p (vh hs 123 rfl rfl) (vh hs 124 rfl rfl) hx40) <| Sd (lo [125] [0] rfl fun S hs hr => Z10 0 rfl rfl Z0o (vh hs 125 rfl rfl) ((hr 0 rfl).trans rfl) (Z09 hx40).2) <| Sd (lo [113, 114] [] rfl fun S hs hr => Z19 (l := l36) hvl0_446 rfl rfl rfl Z0p (vh hs 113 rfl rfl) (vh hs 114 rfl rfl) hx41) <| Sd (Z2m [127, 122] [0] rfl fun S hs hr => Z2b 0 rfl rfl Z0o (vh hs 127 rfl rfl) ((hr 0 rfl).trans rfl) (Z09 hx41).2 (vh hs 122 rfl rfl)) <| Sd (lo [115, 117] [] rfl fun S hs hr => Z19 (l := (List.set l36 k37.toNat x39)) hvl0_446 (by simp) rfl rfl Z0p (vh hs 115 rfl rfl) (vh hs 117 rfl rfl) hx42) <| Sd (Z2m [128, 126] [0] rfl fun S hs hr => Z2b 0 rfl rfl Z0o (vh hs 128 rfl rfl) ((hr 0 rfl).trans rfl) (Z09 hx42).2 (vh hs 126 rfl rfl)) <| Sn <| Rg <| Md rfl <| Ac (Z0i rfl rfl (vt rfl) (vk rfl)) rfl <| As rfl <| Nl ?_
       exact ⟨(_, _, _), Nat.lt_succ_self _, ⟨trivial, h⟩, FX rfl⟩
      ·refine xt <| rt ?_
       cases h; exact Z1e (i := 0) Tryz.results311 rfl rfl
  ·refine sk <| sq ?_
   obtain ⟨q43, hq43, h⟩ := Z9 h
   refine Rg <| Md rfl <| Md rfl <| Ac (Z0d rfl rfl (vt rfl) (vt rfl)) rfl <| Ac (Z4o rfl rfl us3 Z57 (vt rfl)) rfl <| Ac (Z34 rfl rfl (vt rfl) (Z36 (vku (1 : BitVec 64) rfl)) hq43) rfl <| Ac (Z50 rfl rfl Z5o un3 (vt rfl)) rfl <| As rfl <| Nl <| SR <| Md rfl <| Md rfl <| Ac (Z0d rfl rfl (vt rfl) (vt rfl)) rfl <| As rfl <| Nl <| SR <| Ak rfl <| Ak rfl <| Nl ?_
   refine JN (d := []) (ν := Int × Int) (fun (s44, x45) => (Zcg d1 q43 m4 x6 a3 R_slices_symMergeCmpFunc_Action b5 s44 x45 = some r, [(0, Zh v2), (1, rd (Z0 .i64) a3), (2, rd (Z0 .i64) m4), (3, rd (Z0 .i64) b5), (4, fn2 Tryz.prog Z8 Z8 (Z0 .i64) x6), (18, rd (Z0 .i64) (IntKind.i64.wrap (q43.toNat : Int))), (19, rd (Z0 .i64) (IntKind.i64.wrap ((IntKind.i64.wrap (q43.toNat : Int)) + m4))), (20, rd (Z0 .i64) s44), (21, rd (Z0 .i64) x45)], [(0, Za v2 121 Z8 d1)])) ?hx5 ?hy5
   case hy5 =>
    rintro ⟨s44, x45⟩ h
    dsimp only at h ⊢
    unfold Zcg at h
    refine SR <| Md rfl <| Ac (Z0i rfl rfl (vt rfl) (vk rfl)) rfl <| As rfl <| Nl <| sq <| bk <| LG (d := []) (ν := Nat × Int × Int) (fun (m50, s48, x49) => (True ∧ Z8p d1 q43 m4 x6 a3 R_slices_symMergeCmpFunc_Action b5 m50 s48 x49 = some r, m50, [(0, Zh v2), (1, rd (Z0 .i64) a3), (2, rd (Z0 .i64) m4), (3, rd (Z0 .i64) b5), (4, fn2 Tryz.prog Z8 Z8 (Z0 .i64) x6), (18, rd (Z0 .i64) (IntKind.i64.wrap (q43.toNat : Int))), (19, rd (Z0 .i64) (IntKind.i64.wrap ((IntKind.i64.wrap (q43.toNat : Int)) + m4))), (20, rd (Z0 .i64) s48), (21, rd (Z0 .i64) x49), (22, rd (Z0 .i64) (IntKind.i64.wrap ((IntKind.i64.wrap ((IntKind.i64.wrap (q43.toNat : Int)) + m4)) - 1)))], [(0, Za v2 121 Z8 d1)])) ((((x45 : Int) - s44).toNat + 1), s44, x45) ⟨trivial, h⟩ (FX rfl) ?_
    rintro ⟨m50, s48, x49⟩ ⟨hsf6, h⟩
    dsimp only at h ⊢
    cases m50 with
    | zero => cases h
    | succ m50 =>
     unfold Z8p at h
     refine sq <| SR <| Md rfl <| Md rfl <| Ac (Zn rfl rfl (vt rfl) (vt rfl)) rfl <| Nl <| Cq rfl h (fun h => ?_) (fun h => ?_)
     ·refine sk <| bk <| sq ?_
      obtain ⟨q51, hq51, h⟩ := Z9 h
      refine Rg <| Md rfl <| Md rfl <| Ac (Z0d rfl rfl (vt rfl) (vt rfl)) rfl <| Ac (Z4o rfl rfl us3 Z57 (vt rfl)) rfl <| Ac (Z34 rfl rfl (vt rfl) (Z36 (vku (1 : BitVec 64) rfl)) hq51) rfl <| Ac (Z50 rfl rfl Z5o un3 (vt rfl)) rfl <| As rfl <| Nl <| sq ?_
      obtain ⟨x52, hx52, x53, hx53, x54, hx54, h⟩ := bs3 h
      refine AR Zw (by kernel_rfl) <| Sd (lo [4] [] rfl fun S hs hr => Zt (A := fn2 Tryz.prog Z8 Z8 (Z0 .i64) x6) rfl rfl (vh hs 4 rfl rfl)) <| SMw rfl <| Zs rfl <| Zs rfl <| Sd (lo [160, 161] [] rfl fun S hs hr => Z0i rfl rfl (vh hs 160 rfl rfl) (vh hs 161 rfl rfl)) <| Sd (lo [159, 162] [0] rfl fun S hs hr => Z1u 0 rfl rfl Z0p (vh hs 159 rfl rfl) ((hr 0 rfl).trans rfl) (vh hs 162 rfl rfl) hx52) <| Sd (lo [163] [0] rfl fun S hs hr => Z10 0 rfl rfl Z0o (vh hs 163 rfl rfl) ((hr 0 rfl).trans rfl) (Z09 hx52).2) <| SMw rfl <| Zs rfl <| Sd (lo [165, 166] [0] rfl fun S hs hr => Z1u 0 rfl rfl Z0p (vh hs 165 rfl rfl) ((hr 0 rfl).trans rfl) (vh hs 166 rfl rfl) hx53) <| Sd (lo [167] [0] rfl fun S hs hr => Z10 0 rfl rfl Z0o (vh hs 167 rfl rfl) ((hr 0 rfl).trans rfl) (Z09 hx53).2) <| Sd (lo [158, 164, 168] [] rfl fun S hs hr => Z5e hx54 rfl rfl (vh hs 158 rfl rfl) (vh hs 164 rfl rfl) (vh hs 168 rfl rfl)) <| Sd (lo [169] [] rfl fun S hs hr => Zn rfl rfl (vh hs 169 rfl rfl) (vk rfl)) <| Sd (lo [170] [] rfl fun S hs hr => Z1a rfl rfl (vh hs 170 rfl rfl)) <| Sn <| Cq rfl h (fun h => ?_) (fun h => ?_)
      ·refine Rg <| Md rfl <| Ac (Z0d rfl rfl (vt rfl) (vk rfl)) rfl <| As rfl <| Nl ?_
       exact ⟨(_, _, _), Nat.lt_succ_self _, ⟨trivial, h⟩, FX rfl⟩
      ·refine Rg <| Md rfl <| As rfl <| Nl ?_
       exact ⟨(_, _, _), Nat.lt_succ_self _, ⟨trivial, h⟩, FX rfl⟩
     ·refine xt <| SR <| Md rfl <| Md rfl <| Ac (Z0i rfl rfl (vt rfl) (vt rfl)) rfl <| As rfl <| Nl ?_
      refine JN (d := []) (ν := (List Action)) (fun l55 => (Zdo a3 s48 q43 R_slices_symMergeCmpFunc_Action x6 m4 b5 l55 = some r, [(0, Zh v2), (1, rd (Z0 .i64) a3), (3, rd (Z0 .i64) b5), (4, fn2 Tryz.prog Z8 Z8 (Z0 .i64) x6), (18, rd (Z0 .i64) (IntKind.i64.wrap (q43.toNat : Int))), (20, rd (Z0 .i64) s48), (24, rd (Z0 .i64) (IntKind.i64.wrap ((IntKind.i64.wrap ((IntKind.i64.wrap (q43.toNat : Int)) + m4)) - s48)))], [(0, Za v2 121 Z8 l55)])) ?hx7 ?hy7
      case hy7 =>
       intro l55 h
       dsimp only at h ⊢
       unfold Zdo at h
       refine JN (d := []) (ν := (List Action)) (fun l56 => (Zd2 q43 m4 s48 b5 R_slices_symMergeCmpFunc_Action x6 l56 = some r, [(0, Zh v2), (3, rd (Z0 .i64) b5), (4, fn2 Tryz.prog Z8 Z8 (Z0 .i64) x6), (18, rd (Z0 .i64) (IntKind.i64.wrap (q43.toNat : Int))), (24, rd (Z0 .i64) (IntKind.i64.wrap ((IntKind.i64.wrap ((IntKind.i64.wrap (q43.toNat : Int)) + m4)) - s48)))], [(0, Za v2 121 Z8 l56)])) ?hx8 ?hy8
       case hy8 =>
        intro l56 h
        dsimp only at h ⊢
        unfold Zd2 at h
        refine SR <| Md rfl <| Md rfl <| Ac (Zn rfl rfl (vt rfl) (vt rfl)) rfl <| Md rfl <| Gd rfl (fun hq => Zt (A := rd (Z0 .i64) (IntKind.i64.wrap ((IntKind.i64.wrap ((IntKind.i64.wrap (q43.toNat : Int)) + m4)) - s48))) rfl rfl (vt rfl)) <| Gd rfl (fun hq => Zt (A := rd (Z0 .i64) b5) rfl rfl (vt rfl)) <| Gd rfl (fun hq => Zn rfl rfl (vgt rfl hq) (vgt rfl hq)) <| Ac (Z22 rfl rfl (vt rfl) (vt rfl)) rfl <| Nl <| Cq rfl h (fun h => ?_) (fun h => ?_)
        ·obtain ⟨l57, hl57, h⟩ := Z9 h
         refine Rg <| Mw rfl <| Md rfl <| Md rfl <| Md rfl <| Ac (Zt (A := fn2 Tryz.prog Z8 Z8 (Z0 .i64) x6) rfl rfl (vt rfl)) rfl <| Cv rfl (Z0r 0 (xs := [.tmp 214, .tmp 215, .tmp 216, .tmp 217, .tmp 218]) (hR_slices_symMergeCmpFunc_Action _ _ _ _ _ _ _ hl57) Zdx rfl rfl ⟨vt rfl, vt rfl, vt rfl, vt rfl, vt rfl, trivial⟩ rfl) fun _u => Nl ?_
         cases h; exact Z1e (i := 0) Tryz.results311 rfl rfl
        ·refine sk ?_
         cases h; exact Z1e (i := 0) Tryz.results311 rfl rfl
       case hx8 =>
        refine SR <| Md rfl <| Md rfl <| Ac (Zn rfl rfl (vt rfl) (vt rfl)) rfl <| Md rfl <| Gd rfl (fun hq => Zt (A := rd (Z0 .i64) s48) rfl rfl (vt rfl)) <| Gd rfl (fun hq => Zt (A := rd (Z0 .i64) (IntKind.i64.wrap (q43.toNat : Int))) rfl rfl (vt rfl)) <| Gd rfl (fun hq => Zn rfl rfl (vgt rfl hq) (vgt rfl hq)) <| Ac (Z22 rfl rfl (vt rfl) (vt rfl)) rfl <| Nl <| Cq rfl h (fun h => ?_) (fun h => ?_)
        ·obtain ⟨l58, hl58, h⟩ := Z9 h
         refine Rg <| Mw rfl <| Md rfl <| Md rfl <| Md rfl <| Ac (Zt (A := fn2 Tryz.prog Z8 Z8 (Z0 .i64) x6) rfl rfl (vt rfl)) rfl <| Cv rfl (Z0r 0 (xs := [.tmp 200, .tmp 201, .tmp 202, .tmp 203, .tmp 204]) (hR_slices_symMergeCmpFunc_Action _ _ _ _ _ _ _ hl58) Zdx rfl rfl ⟨vt rfl, vt rfl, vt rfl, vt rfl, vt rfl, trivial⟩ rfl) fun _u => Nl ?_
         exact ⟨_, h, FX rfl⟩
        ·refine sk ?_
         exact ⟨_, h, FX rfl⟩
      case hx7 =>
       refine SR <| Md rfl <| Md rfl <| Ac (Zn rfl rfl (vt rfl) (vt rfl)) rfl <| Md rfl <| Gd rfl (fun hq => Zt (A := rd (Z0 .i64) m4) rfl rfl (vt rfl)) <| Gd rfl (fun hq => Zt (A := rd (Z0 .i64) (IntKind.i64.wrap ((IntKind.i64.wrap ((IntKind.i64.wrap (q43.toNat : Int)) + m4)) - s48))) rfl rfl (vt rfl)) <| Gd rfl (fun hq => Zn rfl rfl (vgt rfl hq) (vgt rfl hq)) <| Ac (Z22 rfl rfl (vt rfl) (vt rfl)) rfl <| Nl <| Cq rfl h (fun h => ?_) (fun h => ?_)
       ·obtain ⟨l59, hl59, h⟩ := Z9 h
        refine Rg <| Mw rfl <| Md rfl <| Md rfl <| Md rfl <| Ac (Zt (A := fn2 Tryz.prog Z8 Z8 (Z0 .i64) x6) rfl rfl (vt rfl)) rfl <| Cv rfl (Z0r 0 (xs := [.tmp 186, .tmp 187, .tmp 188, .tmp 189, .tmp 190]) (Zq8 _ _ _ _ _ _ _ hl59) Zz5 rfl rfl ⟨vt rfl, vt rfl, vt rfl, vt rfl, vt rfl, trivial⟩ rfl) fun _u => Nl ?_
        exact ⟨_, h, FX rfl⟩
       ·refine sk ?_
        exact ⟨_, h, FX rfl⟩
   case hx5 =>
    refine SR <| Md rfl <| Md rfl <| Ac (Z2w rfl rfl (vt rfl) (vt rfl)) rfl <| Nl <| Cq rfl h (fun h => ?_) (fun h => ?_)
    ·refine SR <| Md rfl <| Md rfl <| Ac (Z0i rfl rfl (vt rfl) (vt rfl)) rfl <| As rfl <| Nl <| Rg <| Md rfl <| As rfl <| Nl ?_
     exact ⟨(_, _), h, FX rfl⟩
    ·refine SR <| Md rfl <| As rfl <| Nl <| Rg <| Md rfl <| As rfl <| Nl ?_
     exact ⟨(_, _), h, FX rfl⟩
def Zby : Nat → ((List Action) → Int → Int → Int → (Action → Action → Option Int) → Option (List Action))
 | 0 => (fun _ _ _ _ _ => none)
 | n + 1 => (Zj5 (Zby n))
theorem Zkh : ∀ n : Nat, (∀ (v2 : Value) (d1 : (List Action)) (a3 : Int) (m4 : Int) (b5 : Int) (x6 : (Action → Action → Option Int)) (r : (List Action)), (Zby n) d1 a3 m4 b5 x6 = some r → Con Tryz.prog 311 [Zh v2, rd (Z0 .i64) a3, rd (Z0 .i64) m4, rd (Z0 .i64) b5, fn2 Tryz.prog Z8 Z8 (Z0 .i64) x6] (Za v2 121 Z8 d1) (fun _ : Unit => top) (fun _ => Za v2 121 Z8 r))
 | 0 => (by intros; rename_i h; cases h)
 | n + 1 => by
  have ih := Zkh n
  exact (Zw9 (Zby n) ih)
def Zid (d1 : (List Action)) (a3 : Int) (m4 : Int) (b5 : Int) (x6 : (Action → Action → Option Int)) : Option (List Action) := (Zby Z27) d1 a3 m4 b5 x6
theorem Zk6 : ∀ (v2 : Value) (d1 : (List Action)) (a3 : Int) (m4 : Int) (b5 : Int) (x6 : (Action → Action → Option Int)) (r : (List Action)), Zid d1 a3 m4 b5 x6 = some r → Con Tryz.prog 311 [Zh v2, rd (Z0 .i64) a3, rd (Z0 .i64) m4, rd (Z0 .i64) b5, fn2 Tryz.prog Z8 Z8 (Z0 .i64) x6] (Za v2 121 Z8 d1) (fun _ : Unit => top) (fun _ => Za v2 121 Z8 r) := Zkh Z27
def Zcx (n3 : Int) (b17 : Int) (x4 : (Action → Action → Option Int)) (go2 : (List Action) → Int → Option (List Action)) : Nat → (List Action) → Int → Int → Option (List Action)
 | 0, _, _, _ => none
 | m25 + 1, l22, a23, b24 => (bif (decide (b24 ≤ n3)) then (Zid l22 a23 (IntKind.i64.wrap (a23 + b17)) b24 x4).bind fun l26 => (Zcx n3 b17 x4 go2 m25) l26 b24 (IntKind.i64.wrap (b24 + (IntKind.i64.wrap (2 * b17)))) else (bif (decide ((IntKind.i64.wrap (a23 + b17)) < n3)) then (Zid l22 a23 (IntKind.i64.wrap (a23 + b17)) n3 x4).bind fun l27 => go2 l27 (IntKind.i64.wrap (b17 * 2)) else go2 l22 (IntKind.i64.wrap (b17 * 2))))
def Zaj (n3 : Int) (x4 : (Action → Action → Option Int)) : Nat → (List Action) → Int → Option (List Action)
 | 0, _, _ => none
 | m18 + 1, l16, b17 => (bif (decide (b17 < n3)) then Zcx n3 b17 x4 (Zaj n3 x4 m18) (((n3 : Int) - (IntKind.i64.wrap (2 * b17))).toNat + 2) l16 0 (IntKind.i64.wrap (2 * b17)) else some l16)
def Zcf (n3 : Int) (x4 : (Action → Action → Option Int)) : Nat → (List Action) → Int → Int → Option (List Action)
 | 0, _, _, _ => none
 | m11 + 1, l8, a9, b10 => (bif (decide (b10 ≤ n3)) then (Zdk l8 a9 b10 x4).bind fun l12 => (Zcf n3 x4 m11) l12 b10 (IntKind.i64.wrap (b10 + 20)) else (Zdk l8 a9 n3 x4).bind fun l13 => Zaj n3 x4 (((n3 : Int) - 20).toNat + 1) l13 20)
def Ziz (d1 : (List Action)) (n3 : Int) (x4 : (Action → Action → Option Int)) : Option (List Action) :=
 Zcf n3 x4 (((n3 : Int) - 20).toNat + 2) d1 0 20
theorem Zv0 (v2 : Value) (d1 : (List Action)) (n3 : Int) (x4 : (Action → Action → Option Int)) (r : (List Action)) (h : Ziz d1 n3 x4 = some r) : Con Tryz.prog 274 [Zh v2, rd (Z0 .i64) n3, fn2 Tryz.prog Z8 Z8 (Z0 .i64) x4] (Za v2 121 Z8 d1) (fun _ : Unit => top) (fun _ => Za v2 121 Z8 r) := by
 refine Con.intro Tryz.func274 rfl Tryz.ntmps274 rfl fun w H X => ?_
 unfold Ziz at h
 refine SR <| Ak rfl <| Nl <| SR <| Md rfl <| Ak rfl <| As rfl <| Nl <| sq <| bk <| LG (d := []) (ν := Nat × (List Action) × Int × Int) (fun (m11, l8, a9, b10) => (True ∧ Zcf n3 x4 m11 l8 a9 b10 = some r, m11, [(0, Zh v2), (1, rd (Z0 .i64) n3), (2, fn2 Tryz.prog Z8 Z8 (Z0 .i64) x4), (6, rd (Z0 .i64) 20), (7, rd (Z0 .i64) a9), (8, rd (Z0 .i64) b10)], [(0, Za v2 121 Z8 l8)])) ((((n3 : Int) - 20).toNat + 2), d1, 0, 20) ⟨trivial, h⟩ (FX rfl) ?_
 rintro ⟨m11, l8, a9, b10⟩ ⟨hsf1, h⟩
 dsimp only at h ⊢
 cases m11 with
 | zero => cases h
 | succ m11 =>
  unfold Zcf at h
  refine sq <| SR <| Md rfl <| Md rfl <| Ac (Zbw rfl rfl (vt rfl) (vt rfl)) rfl <| Nl <| Cq rfl h (fun h => ?_) (fun h => ?_)
  ·refine sk <| bk <| sq ?_
   obtain ⟨l12, hl12, h⟩ := Z9 h
   refine Rg <| Mw rfl <| Md rfl <| Md rfl <| Ac (Zt (A := fn2 Tryz.prog Z8 Z8 (Z0 .i64) x4) rfl rfl (vt rfl)) rfl <| Cv rfl (Z0r 0 (xs := [.tmp 14, .tmp 15, .tmp 16, .tmp 17]) (Zko _ _ _ _ _ _ hl12) Zpa rfl rfl ⟨vt rfl, vt rfl, vt rfl, vt rfl, trivial⟩ rfl) fun _u => Nl <| SR <| Md rfl <| As rfl <| Nl <| Rg <| Md rfl <| Md rfl <| Ac (Z0d rfl rfl (vt rfl) (vt rfl)) rfl <| As rfl <| Nl ?_
   exact ⟨(_, _, _, _), Nat.lt_succ_self _, ⟨trivial, h⟩, FX rfl⟩
  ·refine xt <| sq ?_
   obtain ⟨l13, hl13, h⟩ := Z9 h
   refine Rg <| Mw rfl <| Md rfl <| Md rfl <| Ac (Zt (A := fn2 Tryz.prog Z8 Z8 (Z0 .i64) x4) rfl rfl (vt rfl)) rfl <| Cv rfl (Z0r 0 (xs := [.tmp 23, .tmp 24, .tmp 25, .tmp 26]) (Zko _ _ _ _ _ _ hl13) Zpa rfl rfl ⟨vt rfl, vt rfl, vt rfl, vt rfl, trivial⟩ rfl) fun _u => Nl <| bk <| LG (d := []) (ν := Nat × (List Action) × Int) (fun (m18, l16, b17) => (True ∧ Zaj n3 x4 m18 l16 b17 = some r, m18, [(0, Zh v2), (1, rd (Z0 .i64) n3), (2, fn2 Tryz.prog Z8 Z8 (Z0 .i64) x4), (6, rd (Z0 .i64) b17)], [(0, Za v2 121 Z8 l16)])) ((((n3 : Int) - 20).toNat + 1), l13, 20) ⟨trivial, h⟩ (FX rfl) ?_
   rintro ⟨m18, l16, b17⟩ ⟨hsf2, h⟩
   dsimp only at h ⊢
   cases m18 with
   | zero => cases h
   | succ m18 =>
    unfold Zaj at h
    refine sq <| SR <| Md rfl <| Md rfl <| Ac (Zn rfl rfl (vt rfl) (vt rfl)) rfl <| Nl <| Cq rfl h (fun h => ?_) (fun h => ?_)
    ·refine sk <| bk <| SR <| Md rfl <| Ac (Z5c rfl rfl (vk rfl) (vt rfl)) rfl <| Ak rfl <| As rfl <| Nl <| sq <| bk <| LG (d := []) (ν := Nat × (List Action) × Int × Int) (fun (m25, l22, a23, b24) => (True ∧ Zcx n3 b17 x4 (Zaj n3 x4 m18) m25 l22 a23 b24 = some r, m25, [(0, Zh v2), (1, rd (Z0 .i64) n3), (2, fn2 Tryz.prog Z8 Z8 (Z0 .i64) x4), (6, rd (Z0 .i64) b17), (7, rd (Z0 .i64) a23), (8, rd (Z0 .i64) b24)], [(0, Za v2 121 Z8 l22)])) ((((n3 : Int) - (IntKind.i64.wrap (2 * b17))).toNat + 2), l16, 0, (IntKind.i64.wrap (2 * b17))) ⟨trivial, h⟩ (FX rfl) ?_
     rintro ⟨m25, l22, a23, b24⟩ ⟨hsf3, h⟩
     dsimp only at h ⊢
     cases m25 with
     | zero => cases h
     | succ m25 =>
      unfold Zcx at h
      refine sq <| SR <| Md rfl <| Md rfl <| Ac (Zbw rfl rfl (vt rfl) (vt rfl)) rfl <| Nl <| Cq rfl h (fun h => ?_) (fun h => ?_)
      ·refine sk <| bk <| sq ?_
       obtain ⟨l26, hl26, h⟩ := Z9 h
       refine Rg <| Mw rfl <| Md rfl <| Md rfl <| Md rfl <| Ac (Z0d rfl rfl (vt rfl) (vt rfl)) rfl <| Md rfl <| Ac (Zt (A := fn2 Tryz.prog Z8 Z8 (Z0 .i64) x4) rfl rfl (vt rfl)) rfl <| Cv rfl (Z0r 0 (xs := [.tmp 36, .tmp 37, .tmp 40, .tmp 41, .tmp 42]) (Zk6 _ _ _ _ _ _ _ hl26) Zdx rfl rfl ⟨vt rfl, vt rfl, vt rfl, vt rfl, vt rfl, trivial⟩ rfl) fun _u => Nl <| SR <| Md rfl <| As rfl <| Nl <| Rg <| Md rfl <| Md rfl <| Ac (Z5c rfl rfl (vk rfl) (vt rfl)) rfl <| Ac (Z0d rfl rfl (vt rfl) (vt rfl)) rfl <| As rfl <| Nl ?_
       exact ⟨(_, _, _, _), Nat.lt_succ_self _, ⟨trivial, h⟩, FX rfl⟩
      ·refine xt <| sq <| SR <| Md rfl <| Md rfl <| Ac (Z0d rfl rfl (vt rfl) (vt rfl)) rfl <| As rfl <| Nl <| SR <| Md rfl <| Md rfl <| Ac (Zn rfl rfl (vt rfl) (vt rfl)) rfl <| Nl <| Cq rfl h (fun h => ?_) (fun h => ?_)
       ·obtain ⟨l27, hl27, h⟩ := Z9 h
        refine Rg <| Mw rfl <| Md rfl <| Md rfl <| Md rfl <| Ac (Zt (A := fn2 Tryz.prog Z8 Z8 (Z0 .i64) x4) rfl rfl (vt rfl)) rfl <| Cv rfl (Z0r 0 (xs := [.tmp 55, .tmp 56, .tmp 57, .tmp 58, .tmp 59]) (Zk6 _ _ _ _ _ _ _ hl27) Zdx rfl rfl ⟨vt rfl, vt rfl, vt rfl, vt rfl, vt rfl, trivial⟩ rfl) fun _u => Nl <| Rg <| Md rfl <| Ac (Z5c rfl rfl (vt rfl) (vk rfl)) rfl <| As rfl <| Nl ?_
        exact ⟨(_, _, _), Nat.lt_succ_self _, ⟨trivial, h⟩, FX rfl⟩
       ·refine sk <| Rg <| Md rfl <| Ac (Z5c rfl rfl (vt rfl) (vk rfl)) rfl <| As rfl <| Nl ?_
        exact ⟨(_, _, _), Nat.lt_succ_self _, ⟨trivial, h⟩, FX rfl⟩
    ·refine xt ?_
     cases h; exact Z1e (i := 0) Tryz.results274 rfl rfl
def Zj7 (x1 : (List Action)) (x3 : (Action → Action → Option Int)) : Option (List Action) :=
 (Ziz x1 (x1.length : Int) x3).bind fun l4 => some l4
theorem Zzr (v2 : Value) (x1 : (List Action)) (x3 : (Action → Action → Option Int)) (r : (List Action)) (h : Zj7 x1 x3 = some r) : Con Tryz.prog 219 [Zh v2, fn2 Tryz.prog Z8 Z8 (Z0 .i64) x3] (Za v2 121 Z8 x1) (fun _ : Unit => top) (fun _ => Za v2 121 Z8 r) := by
 refine Con.intro Tryz.func219 rfl Tryz.ntmps219 rfl fun w H X => ?_
 unfold Zj7 at h
 obtain ⟨l4, hl4, h⟩ := Z9 h
 refine Rg <| Mw rfl <| Mw rfl <| Ac (Z3s 0 rfl rfl Z0p (vt rfl) rfl) rfl <| Ac (Zt (A := fn2 Tryz.prog Z8 Z8 (Z0 .i64) x3) rfl rfl (vt rfl)) rfl <| Cv rfl (Z0r 0 (xs := [.tmp 4, .tmp 6, .tmp 7]) (Zv0 _ _ _ _ _ hl4) Zw3 rfl rfl ⟨vt rfl, vt rfl, vt rfl, trivial⟩ rfl) fun _u => Nl ?_
 cases h; exact Z1e (i := 0) Tryz.results219 rfl rfl
def Zib (a1 : Action) (b2 : Action) : Option Int :=
 (Z7r a1).bind fun x5 => (Z7r b2).bind fun x6 => (Z9x x5.kind).bind fun x9 => (Z9x x6.kind).bind fun x10 => (bif (decide ((IntKind.i64.wrap (x9 - x10)) ≠ 0)) then some (IntKind.i64.wrap (x9 - x10)) else (bif (decide (x5.field < x6.field)) then some (-1) else (bif (decide (x5.field > x6.field)) then some 1 else some 0)))
theorem Ztr : Q2 Tryz.prog 220 (rd Z8) (rd Z8) (rd (Z0 .i64)) Zib := fun a1 b2 r h => I0 Tryz.func220 rfl Tryz.ntmps220 rfl fun w H => by
 unfold Zib at h
 refine SR <| Cv rfl (Zl 3 rfl rfl (vt rfl)) fun g3 => Cv rfl (Zl 4 rfl rfl (vt rfl)) fun g4 => Ak rfl <| Nl <| sq ?_
 obtain ⟨x5, hx5, x6, hx6, h⟩ := bs2 h
 refine AR Zw (by kernel_rfl) <| Zj Z0o 3 rfl <| SCl [8] (Zc8 _ _ hx5) Zcs rfl <| Zj Z0o 4 rfl <| SCl [10] (Zc8 _ _ hx6) Zcs rfl <| Sd (Z1o (us := [(5, Z2q 275 Z3j Zcb)]) (ur := []) [] [] rfl fun S hs hr => Z71 rfl rfl rfl Zav) <| Sd (Z1o (us := [(6, Z2q 275 Z3j Zcb)]) (ur := []) [] [] rfl fun S hs hr => Z71 rfl rfl rfl Zav) <| Sd (Z1o (us := [(5, Z2q 275 Z3j x5)]) (ur := []) [5, 9] [] rfl fun S hs hr => Z7t rfl rfl Z7c ((hs 5 rfl).trans rfl) (vh hs 9 rfl rfl)) <| Sd (Z1o (us := [(6, Z2q 275 Z3j x6)]) (ur := []) [6, 11] [] rfl fun S hs hr => Z7t rfl rfl Z7c ((hs 6 rfl).trans rfl) (vh hs 11 rfl rfl)) <| Sn <| AW.unpackP 5 6 rfl rfl fun g7 => AW.unpackP 6 7 rfl rfl fun g8 => sq <| sq ?_
 obtain ⟨x9, hx9, x10, hx10, h⟩ := bs2 h
 refine AR Zw (by kernel_rfl) <| Zu laset_spot_0 Zo7 rfl <| Zj Zq 6 rfl <| SCl [13] (Ziw _ _ hx9) Zfc rfl <| Zu laset_spot_0 Zo7 rfl <| Zj Zq 7 rfl <| SCl [16] (Ziw _ _ hx10) Zfc rfl <| Sd (lo [14, 17] [] rfl fun S hs hr => Z0i rfl rfl (vh hs 14 rfl rfl) (vh hs 17 rfl rfl)) <| SAs rfl <| Sn <| SR <| Md rfl <| Ac (Z3g rfl rfl (vt rfl) (vk rfl)) rfl <| Nl <| Cq rfl h (fun h => ?_) (fun h => ?_)
 ·refine SR <| Md rfl <| As rfl <| Nl <| rt ?_
  cases h; exact Zm Tryz.results220 rfl (Zc rfl)
 ·refine sk <| sq <| bk <| SR <| Zk laset_spot_1 Zdi rfl <| Ld Zq 6 rfl <| Zk laset_spot_1 Zdi rfl <| Ld Zq 7 rfl <| Ac (Zn rfl rfl (vt rfl) (vt rfl)) rfl <| As rfl <| Nl <| Cq rfl h (fun h => ?_) (fun h => ?_)
  ·refine SR <| Ak rfl <| Nl <| rt ?_
   cases h; exact Zm Tryz.results220 rfl (Zc rfl)
  ·refine SR <| Zk laset_spot_1 Zdi rfl <| Ld Zq 6 rfl <| Zk laset_spot_1 Zdi rfl <| Ld Zq 7 rfl <| Ac (Z2w rfl rfl (vt rfl) (vt rfl)) rfl <| As rfl <| Nl <| Cq rfl h (fun h => ?_) (fun h => ?_)
   ·refine SR <| Ak rfl <| Nl <| rt ?_
    cases h; exact Zm Tryz.results220 rfl (Zc rfl)
   ·refine sk <| SR <| Ak rfl <| Nl <| rt ?_
    cases h; exact Zm Tryz.results220 rfl (Zc rfl)
def Ze3 (s1 : (List Action)) : Option (List Action) :=
 (Zik s1 Zhq).bind fun x2 => (Z6a s1).bind fun x4 => (Zio x4 (fun x => Zcr x x2)).bind fun x6 => (Zj7 x6 Zib).bind fun l8 => some l8
theorem Zo2 : Q1 Tryz.prog 149 (rd (Z4 Z8)) (rd (Z4 Z8)) Ze3 := fun s1 r h => I0 Tryz.func149 rfl Tryz.ntmps149 rfl fun w H => by
 unfold Ze3 at h
 refine SR <| Ac (Z00 (A := rd (Z4 Z8) []) rfl rfl Z13) rfl <| Nl <| sq ?_
 obtain ⟨x2, hx2, h⟩ := Z9 h
 refine Rg <| Md rfl <| Ac (Z1c (xs := [.tmp 5, .func 214]) (Zvc _ _ _ hx2) Zr2 rfl rfl ⟨vt rfl, vf1 Zq0 Zrr, trivial⟩) rfl <| Cv rfl (Zo 4 rfl rfl zr4) fun g3 => Zi ty4 4 rfl <| Nl <| sq <| AW.freezeB 3 4 rfl rfl rfl ?_
 obtain ⟨x4, hx4, x6, hx6, h⟩ := bs2 h
 refine Rg <| Md rfl <| Cv rfl (Z0r 1001 (xs := [.tmp 7]) (Zj8 _ _ hx4) Zdd rfl rfl ⟨vt rfl, trivial⟩ rfl) fun v5 => Ac (Z4k (cs := [.tmp 3]) (CAs := [rp Z6 x2]) (fun x => Zcr x x2) rfl rfl Zuf ⟨vt rfl, trivial⟩ (fun x y h => Zun _ _ y h)) rfl <| Cv rfl (Z0r 1001 (xs := [.tmp 8, .tmp 9]) (Zwk _ _ _ _ hx6) Zxm rfl rfl ⟨vt rfl, vt rfl, trivial⟩ rfl) fun v7 => Aw rfl <| Nl <| sq ?_
 obtain ⟨l8, hl8, h⟩ := Z9 h
 refine Rg <| Mw rfl <| Cv rfl (Z0r 1001 (xs := [.tmp 11, .func 220]) (Zzr _ _ _ _ hl8) Zti rfl rfl ⟨vt rfl, vf2 Zup Ztr, trivial⟩ rfl) fun _u => Nl <| SR <| Mw rfl <| Aw rfl <| Nl <| AW.freezes [2, 4, 10, 11, 13] 1001 rfl ⟨rfl, rfl, rfl, rfl, rfl, trivial⟩ rfl <| rt ?_
 cases h; exact Zm Tryz.results149 rfl (Zc rfl)
def Zb7 (l3 : (List Inst)) (a2 : Int) (b9 : walk_way) : Option (walk_way × Int × Bool) :=
 (Z6n l3 1).bind fun x10 => (bif ((x10.2 && (decide (x10.1.Table > a2))) && (decide (x10.1.Table < 4))) then some (b9, x10.1.Table, true) else (Ze3 b9.set).bind fun x12 => (Zc5 b9 x12).bind fun x13 => some (x13, 0, false))
def Zbm (l3 : (List Inst)) (a2 : Int) (b8 : walk_way) : Option (walk_way × Int × Bool) :=
 (Z6n l3 2).bind fun x14 => (bif x14.2 then (Z5f b8.got 1 x14.1.Value x14.1.Mask).bind fun x16 => Zb7 l3 a2 { b8 with got := x16 } else Zb7 l3 a2 b8)
def Zeo (l3 : (List Inst)) (a2 : Int) (b7 : walk_way) : Option (walk_way × Int × Bool) :=
 (Z6n l3 3).bind fun x17 => (bif x17.2 then (Zdq b7.set x17.1.Acts).bind fun x19 => Zbm l3 a2 { b7 with set := x19 } else Zbm l3 a2 b7)
def Zbt (l3 : (List Inst)) (a2 : Int) (b6 : walk_way) : Option (walk_way × Int × Bool) :=
 (Z6n l3 5).bind fun x20 => (bif x20.2 then Zeo l3 a2 { b6 with set := [] } else Zeo l3 a2 b6)
def Zg8 (w1 : walk_way) (a2 : Int) (l3 : (List Inst)) : Option (walk_way × Int × Bool) :=
 (Z6n l3 4).bind fun x22 => (bif x22.2 then (Zc5 w1 x22.1.Acts).bind fun x24 => Zbt l3 a2 x24 else Zbt l3 a2 w1)
theorem Zxp : Q3 Tryz.prog 137 (rd Z0u) (rd (Z0 .i64)) (rd (Z4 Z1h)) (fun r => Z2c (rd Z0u r.1) (rd (Z0 .i64) r.2.1) (rd Z6 r.2.2)) Zg8 := fun w1 a2 l3 r h => I0 Tryz.func137 rfl Tryz.ntmps137 rfl fun w H => by
 unfold Zg8 at h
 refine SR <| Cv rfl (Zl 4 rfl rfl (vt rfl)) fun g4 => Cv rfl (Zo 7 rfl rfl Z75) fun g5 => Ak rfl <| Ab rfl <| Nl ?_
 refine JN (d := []) (ν := walk_way) (fun b6 => (Zbt l3 a2 b6 = some r, [(1, rd (Z0 .i64) a2), (2, rd (Z4 Z1h) l3), (3, Z7 g4 (Lens.id Z0u)), (6, Z7 g5 (Lens.id Z0u))], [(4, Zb g4 135 Z0u b6), (7, Zb g5 135 Z0u Z7a)])) ?hx1 ?hy1
 case hy1 =>
  intro b6 h
  dsimp only at h ⊢
  unfold Zbt at h
  refine JN (d := []) (ν := walk_way) (fun b7 => (Zeo l3 a2 b7 = some r, [(1, rd (Z0 .i64) a2), (2, rd (Z4 Z1h) l3), (3, Z7 g4 (Lens.id Z0u)), (6, Z7 g5 (Lens.id Z0u))], [(4, Zb g4 135 Z0u b7), (7, Zb g5 135 Z0u Z7a)])) ?hx2 ?hy2
  case hy2 =>
   intro b7 h
   dsimp only at h ⊢
   unfold Zeo at h
   refine JN (d := []) (ν := walk_way) (fun b8 => (Zbm l3 a2 b8 = some r, [(1, rd (Z0 .i64) a2), (2, rd (Z4 Z1h) l3), (3, Z7 g4 (Lens.id Z0u)), (6, Z7 g5 (Lens.id Z0u))], [(4, Zb g4 135 Z0u b8), (7, Zb g5 135 Z0u Z7a)])) ?hx3 ?hy3
   case hy3 =>
    intro b8 h
    dsimp only at h ⊢
    unfold Zbm at h
    refine JN (d := []) (ν := walk_way) (fun b9 => (Zb7 l3 a2 b9 = some r, [(1, rd (Z0 .i64) a2), (2, rd (Z4 Z1h) l3), (3, Z7 g4 (Lens.id Z0u)), (6, Z7 g5 (Lens.id Z0u))], [(4, Zb g4 135 Z0u b9), (7, Zb g5 135 Z0u Z7a)])) ?hx4 ?hy4
    case hy4 =>
     intro b9 h
     dsimp only at h ⊢
     unfold Zb7 at h
     refine sq ?_
     obtain ⟨x10, hx10, h⟩ := Z9 h
     refine Rg <| Md rfl <| Ac (Z1c (xs := [.tmp 63, .const (Value.int IntKind.i64 1)]) (Z99 _ _ _ hx10) Zan rfl rfl ⟨vt rfl, vk rfl, trivial⟩) rfl <| Mt2 rfl <| Ac (Z1b rfl rfl (vt rfl)) rfl <| Ac (Z1d rfl rfl (vt rfl)) rfl <| Cv rfl (Zo 18 rfl rfl Z45) fun g11 => Zi Z39 18 rfl <| As rfl <| Nl <| sq <| SR <| Md rfl <| Md rfl <| Gd rfl (fun hq => Z2n Ze5 rfl rfl Zi8 (vt rfl)) <| Gd rfl (fun hq => Z1p rfl rfl Zq (vgt rfl hq) (i := 18) rfl) <| Gd rfl (fun hq => Zt (A := rd (Z0 .i64) a2) rfl rfl (vt rfl)) <| Gd rfl (fun hq => Z2w rfl rfl (vgt rfl hq) (vgt rfl hq)) <| Ac (Z22 rfl rfl (vt rfl) (vt rfl)) rfl <| Md rfl <| Gd rfl (fun hq => Z2n Ze5 rfl rfl Zi8 (vt rfl)) <| Gd rfl (fun hq => Z1p rfl rfl Zq (vgt rfl hq) (i := 18) rfl) <| Gd rfl (fun hq => Zn rfl rfl (vgt rfl hq) (vk rfl)) <| Ac (Z22 rfl rfl (vt rfl) (vt rfl)) rfl <| Nl <| Cq rfl h (fun h => ?_) (fun h => ?_)
     ·refine sq <| AR Zw (by kernel_rfl) <| Zj Z24 4 rfl <| Zu Ze5 Zi8 rfl <| Zj Zq 18 rfl <| SSt Z24 7 rfl <| SAs rfl <| Sd (lo [] [] rfl fun S hs hr => Z00 (A := rd Z6 true) rfl rfl vb) <| Sn <| rt ?_
      cases h; exact Z79 Tryz.results137 rfl (Zx rfl (i := 7) rfl Z24) (Zc rfl) (Zc rfl)
     ·refine sk <| sq ?_
      obtain ⟨x12, hx12, x13, hx13, h⟩ := bs2 h
      refine AR Zw (by kernel_rfl) <| Zj Z24 4 rfl <| Zu Z8x Zb0 rfl <| Zj Z43 4 rfl <| SCl [84] (Zo2 _ _ hx12) Zls rfl <| SCl [82, 85] (Zjf _ _ _ hx13) Zm2 rfl <| SSt Z24 7 rfl <| Sd (lo [] [] rfl fun S hs hr => Z00 (A := rd (Z0 .i64) 0) rfl rfl (vk rfl)) <| Sd (lo [] [] rfl fun S hs hr => Z00 (A := rd Z6 false) rfl rfl vb) <| Sn <| rt ?_
      cases h; exact Z79 Tryz.results137 rfl (Zx rfl (i := 7) rfl Z24) (Zc rfl) (Zc rfl)
    case hx4 =>
     refine sq ?_
     obtain ⟨x14, hx14, h⟩ := Z9 h
     refine Rg <| Md rfl <| Ac (Z1c (xs := [.tmp 49, .const (Value.int IntKind.i64 2)]) (Z99 _ _ _ hx14) Zan rfl rfl ⟨vt rfl, vk rfl, trivial⟩) rfl <| Mt2 rfl <| Ac (Z1b rfl rfl (vt rfl)) rfl <| Ac (Z1d rfl rfl (vt rfl)) rfl <| Cv rfl (Zo 16 rfl rfl Z45) fun g15 => Zi Z39 16 rfl <| As rfl <| Nl <| SR <| Md rfl <| Nl <| Cq rfl h (fun h => ?_) (fun h => ?_)
     ·obtain ⟨x16, hx16, h⟩ := Z9 h
      refine Rg <| Zk lwalk_way_1 Z9q rfl <| Ld Z05 4 rfl <| Zk Zph Zq3 rfl <| Ld Zv 16 rfl <| Zk Zk7 Zt3 rfl <| Ld Zv 16 rfl <| Ac (Z1c (xs := [.tmp 55, .const (Value.int IntKind.i64 1), .tmp 57, .tmp 59]) (Z7o _ _ _ _ _ hx16) Z86 rfl rfl ⟨vt rfl, vk rfl, vt rfl, vt rfl, trivial⟩) rfl <| Zk lwalk_way_1 Z9q rfl <| Zi Z05 4 rfl <| Nl ?_
      exact ⟨_, h, FX rfl⟩
     ·refine sk ?_
      exact ⟨_, h, FX rfl⟩
   case hx3 =>
    refine sq ?_
    obtain ⟨x17, hx17, h⟩ := Z9 h
    refine Rg <| Md rfl <| Ac (Z1c (xs := [.tmp 37, .const (Value.int IntKind.i64 3)]) (Z99 _ _ _ hx17) Zan rfl rfl ⟨vt rfl, vk rfl, trivial⟩) rfl <| Mt2 rfl <| Ac (Z1b rfl rfl (vt rfl)) rfl <| Ac (Z1d rfl rfl (vt rfl)) rfl <| Cv rfl (Zo 14 rfl rfl Z45) fun g18 => Zi Z39 14 rfl <| As rfl <| Nl <| SR <| Md rfl <| Nl <| Cq rfl h (fun h => ?_) (fun h => ?_)
    ·obtain ⟨x19, hx19, h⟩ := Z9 h
     refine Rg <| Zk Z8x Zb0 rfl <| Ld Z43 4 rfl <| Zk lInst_4 Zer rfl <| Ld Z43 14 rfl <| Cl [43, 45] (Zou _ _ _ hx19) Znt rfl <| Zk Z8x Zb0 rfl <| Zi Z43 4 rfl <| Nl ?_
     exact ⟨_, h, FX rfl⟩
    ·refine sk ?_
     exact ⟨_, h, FX rfl⟩
  case hx2 =>
   refine sq ?_
   obtain ⟨x20, hx20, h⟩ := Z9 h
   refine Rg <| Md rfl <| Ac (Z1c (xs := [.tmp 30, .const (Value.int IntKind.i64 5)]) (Z99 _ _ _ hx20) Zan rfl rfl ⟨vt rfl, vk rfl, trivial⟩) rfl <| Mt2 rfl <| Ac (Z1b rfl rfl (vt rfl)) rfl <| Ac (Z1d rfl rfl (vt rfl)) rfl <| Cv rfl (Zo 12 rfl rfl Z45) fun g21 => Zi Z39 12 rfl <| As rfl <| Nl <| SR <| Md rfl <| Nl <| Cq rfl h (fun h => ?_) (fun h => ?_)
   ·refine Rg <| Zk Z8x Zb0 rfl <| Ac (Z44 rfl rfl Z43 (vt rfl) (i := 4) rfl Z13) rfl <| Nl ?_
    exact ⟨_, h, FX rfl⟩
   ·refine sk ?_
    exact ⟨_, h, FX rfl⟩
 case hx1 =>
  refine sq ?_
  obtain ⟨x22, hx22, h⟩ := Z9 h
  refine Rg <| Md rfl <| Ac (Z1c (xs := [.tmp 20, .const (Value.int IntKind.i64 4)]) (Z99 _ _ _ hx22) Zan rfl rfl ⟨vt rfl, vk rfl, trivial⟩) rfl <| Mt2 rfl <| Ac (Z1b rfl rfl (vt rfl)) rfl <| Ac (Z1d rfl rfl (vt rfl)) rfl <| Cv rfl (Zo 10 rfl rfl Z45) fun g23 => Zi Z39 10 rfl <| As rfl <| Nl <| SR <| Md rfl <| Nl <| Cq rfl h (fun h => ?_) (fun h => ?_)
  ·obtain ⟨x24, hx24, h⟩ := Z9 h
   refine Rg <| Ld Z24 4 rfl <| Zk lInst_4 Zer rfl <| Ld Z43 10 rfl <| Cl [25, 27] (Zjf _ _ _ hx24) Zm2 rfl <| Zi Z24 4 rfl <| Nl ?_
   exact ⟨_, h, FX rfl⟩
  ·refine sk ?_
   exact ⟨_, h, FX rfl⟩
def Za3 (s : List Atom) : Option (List Atom) := Z1n [] s
theorem Zud (s : List Atom) (r : List Atom) (h : Za3 s = some r) : Con Tryz.prog 208 [rd (Z4 Z04) s] emp (fun v => Zh v) (fun v => Za v 126 Z04 r) := by
 refine Con.intro0 Tryz.func208 rfl Tryz.ntmps208 rfl fun w H => ?_
 unfold Za3 at h
 refine AW.newnil 1001 126 Z04 <| SR <| Ac (Z00 (A := Zh (.slice none 0 0)) rfl rfl vc) rfl <| Nl <| sq <| SR <| Md rfl <| Ct rfl (Z8q rfl rfl Z3z (vt rfl)) ?_
 rintro _ ⟨b, hb, rfl⟩
 refine Nl <| Cn rfl (fun hc => ?_) (fun hc => ?_)
 ·obtain rfl := hb hc
  refine SR <| Ac (Z00 (A := Zh (.slice none 0 0)) rfl rfl vc) rfl <| Nl <| rt ?_
  obtain rfl := (Z5b h).2
  exact Z38 (i := 1001) Tryz.results208 rfl rfl rfl
 ·refine sk <| SR <| Cv rfl (Z81 1002 (ps := []) (l := []) rfl rfl Z3z Z6d rfl rfl rfl rfl) fun v1 => Md rfl <| Cv rfl (Z2x 1002 h rfl rfl Z7d (vt rfl) rfl (vt rfl)) fun v2 => Aw rfl <| Nl <| rt ?_
  exact Z38 (i := 1002) Tryz.results208 rfl rfl rfl
theorem Znu (s : List Atom) (r : List Atom) (h : Za3 s = some r) : PCon Tryz.prog 208 [rd (Z4 Z04) s] (rd (Z4 Z04) r) := PCon.of_row (Zud s r h)
def Ze0 (w1 : walk_way) : Option Rule :=
 (Za3 w1.atoms).bind fun x4 => some (⟨w1.cube, x4⟩ : Rule)
theorem Zlq : Q1 Tryz.prog 138 (rd Z0u) (rd Z02) Ze0 := fun w1 r h => I0 Tryz.func138 rfl Tryz.ntmps138 rfl fun w H => by
 unfold Ze0 at h
 refine SR <| Cv rfl (Zl 2 rfl rfl (vt rfl)) fun g2 => Cv rfl (Zo 3 rfl rfl Z5h) fun g3 => Nl <| sq ?_
 obtain ⟨x4, hx4, h⟩ := Z9 h
 refine AR Zw (by kernel_rfl) <| Zu lwalk_way_0 Zfl rfl <| Zj Zy 2 rfl <| Zu Z7x Z9i rfl <| Zj Z5w 2 rfl <| SCl [6] (Znu _ _ hx4) Zk9 rfl <| Sd (lo [4, 7] [] rfl fun S hs hr => opb (⟨w1.cube, x4⟩ : Rule) Z5h rfl Zty (pc Zpn (vh hs 4 rfl rfl) <| pc Y0w (vh hs 7 rfl rfl) <| pn rfl)) <| SSt Z4x 3 rfl <| Sn <| rt ?_
 cases h; exact Zm Tryz.results138 rfl (Zx rfl (i := 3) rfl Z4x)
end Go.Proofs.YtknpgojdkobgjaaGreat.W
set_option maxRecDepth 4000
namespace Go.Proofs.YtknpgojdkobgjaaGreat.W
open Go Go.Wb
theorem Zyu : Ent Tryz.prog 135 := Ent.mk Tryz.func135 rfl rfl
theorem Zlr : Ent Tryz.prog 138 := Ent.mk Tryz.func138 rfl rfl
theorem Zwa : Ent Tryz.prog 136 := Ent.mk Tryz.func136 rfl rfl
theorem Zy0 : Ent Tryz.prog 137 := Ent.mk Tryz.func137 rfl rfl
theorem e76 : Ent Tryz.prog 76 := Ent.mk Tryz.func76 rfl rfl
theorem e75 : Ent Tryz.prog 75 := Ent.mk Tryz.func75 rfl rfl
theorem Zyb : Ent Tryz.prog 146 := Ent.mk Tryz.func146 rfl rfl
theorem e22 : Ent Tryz.prog 22 := Ent.mk Tryz.func22 rfl rfl
theorem e85 : Ent Tryz.prog 85 := Ent.mk Tryz.func85 rfl rfl
theorem Zvj : Ent Tryz.prog 337 := Ent.mk Tryz.func337 rfl rfl
def Zbz (sg : Type) (go1 : Nat → (Lp sg) → Option (Bool × Lp sg)) (i11 : Nat) (s22 : (Lp sg)) (o23 : Bool) : Option (Bool × Lp sg) :=
 (bif (!o23) then some (false, s22) else go1 (i11 + 1) s22)
def Z5v (sg : Type) (w5 : walk_way) (y1 : (sg → Rule → Option (Lp sg))) (a4 : Int) (s3 : Switch) (R_walk_search_table : ((Lp sg) → Switch → Int → walk_way → Option (Bool × Lp sg))) : (List Int) → Nat → (Lp sg) → Option (Bool × Lp sg)
 | [], i11, s10 => (Ze0 w5).bind fun x13 => (yc y1 s10 x13).bind fun s14 => some ((Lp.isGo s14), s14)
 | x15 :: l12, i11, s10 => (chk 4 a4).bind fun j16 => (lget (Vector.get s3.Tables j16) x15).bind fun x17 => (Zi1 w5 x17).bind fun x19 => (bif (!x19.2) then (Z5v sg w5 y1 a4 s3 R_walk_search_table l12) (i11 + 1) s10 else (Zg8 x19.1 a4 x17.Insts).bind fun x21 => (bif x21.2.2 then (R_walk_search_table s10 s3 x21.2.1 x21.1).bind fun b24 => Zbz sg (Z5v sg w5 y1 a4 s3 R_walk_search_table l12) i11 b24.2 b24.1 else (Ze0 x21.1).bind fun x25 => (yc y1 s10 x25).bind fun s26 => Zbz sg (Z5v sg w5 y1 a4 s3 R_walk_search_table l12) i11 s26 (Lp.isGo s26)))
def Zg9 (sg : Type) (y1 : (sg → Rule → Option (Lp sg))) (R_walk_search_table : ((Lp sg) → Switch → Int → walk_way → Option (Bool × Lp sg))) (s2 : (Lp sg)) (s3 : Switch) (a4 : Int) (w5 : walk_way) : Option (Bool × Lp sg) :=
 (chk 4 a4).bind fun j7 => (Zfx (Vector.get s3.Tables j7)).bind fun x8 => Z5v sg w5 y1 a4 s3 R_walk_search_table x8 0 s2
theorem Zwc (sg : Type) (y1 : (sg → Rule → Option (Lp sg))) (L : Lp sg → Zp) (R_walk_search_table : ((Lp sg) → Switch → Int → walk_way → Option (Bool × Lp sg))) (hR_walk_search_table : ∀ (s2 : (Lp sg)) (s3 : Switch) (a4 : Int) (w5 : walk_way) (r : (Bool × Lp sg)), R_walk_search_table s2 s3 a4 w5 = some r → Con Tryz.prog 76 [rp (ksp Z0s (ydA Tryz.prog Z02 y1 L)) s3, rd (Z0 .i64) a4, rd Z0u w5] (L s2) (fun _ : Unit => rd Z6 r.1) (fun _ => L r.2)) (s2 : (Lp sg)) (s3 : Switch) (a4 : Int) (w5 : walk_way) (r : (Bool × Lp sg)) (h : Zg9 sg y1 R_walk_search_table s2 s3 a4 w5 = some r) : Con Tryz.prog 76 [rp (ksp Z0s (ydA Tryz.prog Z02 y1 L)) s3, rd (Z0 .i64) a4, rd Z0u w5] (L s2) (fun _ : Unit => rd Z6 r.1) (fun _ => L r.2) := by
 refine Con.intro Tryz.func76 rfl Tryz.ntmps76 rfl fun w H X => ?_
 unfold Zg9 at h
 refine SR <| Cv rfl (Zl 6 rfl rfl (vt rfl)) fun g6 => Ab rfl <| Nl <| AW.scope <| sq <| AW.label <| sq <| sq ?_
 obtain ⟨j7, hj7, x8, hx8, h⟩ := bs2 h
 refine Rg <| Mr rfl <| Md rfl <| Ac (Zbb rfl rfl (vt rfl)) rfl <| Ac (Z7h (Zfk Z0s (ydA Tryz.prog Z02 y1 L)) rfl rfl (Zlg _) (vt rfl)) rfl <| Fp Zcj Zhr rfl <| Ac (Z41 rfl rfl Zj0 (vt rfl) (vt rfl) hj7) rfl <| Lp1 Z4y rfl <| Cl [20] (Zq5 _ _ hx8) Zyu rfl <| Ac (Z16 rfl rfl Z0q (vt rfl)) rfl <| Mk rfl <| Nl <| bk <| LG (d := []) (ν := (List Int) × Nat × (Lp sg)) (fun (l12, i11, s10) => (Sfx x8 i11 l12 ∧ Z5v sg w5 y1 a4 s3 R_walk_search_table l12 i11 s10 = some r, l12.length, [(0, rp (ksp Z0s (ydA Tryz.prog Z02 y1 L)) s3), (1, rd (Z0 .i64) a4), (5, Z7 g6 (Lens.id Z0u)), (21, rd (Z4 (Z0 .i64)) x8), (22, rd (Z0 .i64) (x8.length : Int)), (23, rd (Z0 .i64) (i11 : Int))], [(0, L s10), (6, Zb g6 135 Z0u w5)])) (x8, 0, s2) ⟨Sfx.start _, h⟩ (FX rfl) ?_
 rintro ⟨l12, i11, s10⟩ ⟨hsf1, h⟩
 dsimp only at hsf1 h ⊢
 cases l12 with
 | nil =>
  unfold Z5v at h
  refine SR <| Ac (Zn rfl rfl (vt rfl) (vt rfl)) rfl <| Nl <| sq <| Cn rfl (fun hc => absurd (of_decide_eq_true hc) hsf1.nil) (fun hc => ?_)
  refine xt <| sq ?_
  obtain ⟨x13, hx13, s14, hs14, h⟩ := bs2 h
  refine AR Zw (by kernel_rfl) <| Sd (lo [0] [] rfl fun S hs hr => Zt (A := rp (ksp Z0s (ydA Tryz.prog Z02 y1 L)) s3) rfl rfl (vh hs 0 rfl rfl)) <| Sd (lo [69] [] rfl fun S hs hr => Zbb rfl rfl (vh hs 69 rfl rfl)) <| Sd (lo [70] [] rfl fun S hs hr => Z7h (Zg2 Z0s (ydA Tryz.prog Z02 y1 L)) rfl rfl (Zoc _) (vh hs 70 rfl rfl)) <| Sd (lo [71] [] rfl fun S hs hr => Zob (A := ydA Tryz.prog Z02 y1 L) rfl rfl rfl (Znr _) (vh hs 71 rfl rfl)) <| Zj Z24 6 rfl <| SCl [73] (Zlq _ _ hx13) Zlr rfl <| Sd (Z1o (us := [(75, rd Z6 (Lp.isGo s14))]) (ur := [(0, L s14)]) [72, 74] [0] rfl fun S hs hr => Zcm 0 hs14 rfl rfl (vh hs 72 rfl rfl) (vh hs 74 rfl rfl) ((hr 0 rfl).trans rfl)) <| SAs rfl <| Sn <| rt ?_
  cases h; exact Z64 (i := 0) Tryz.results76 rfl (Zc rfl) rfl
 | cons x15 l12 =>
  unfold Z5v at h
  refine SR <| Ac (Zn rfl rfl (vt rfl) (vt rfl)) rfl <| Nl <| sq <| Cn rfl (fun hc => ?_) (fun hc => absurd hsf1.cons (of_decide_eq_false hc))
  have hlti11 := of_decide_eq_true hc
  refine sk <| sq <| bk <| SR <| Ac (Z0z rfl rfl Z0q (vt rfl) (vt rfl) hsf1.lget) rfl <| Lp1 Zq rfl <| As rfl <| Nl <| sq ?_
  obtain ⟨j16, hj16, x17, hx17, h⟩ := bs2 h
  refine Rg <| Mr rfl <| Md rfl <| Ac (Zbb rfl rfl (vt rfl)) rfl <| Ac (Z7h (Zfk Z0s (ydA Tryz.prog Z02 y1 L)) rfl rfl (Zlg _) (vt rfl)) rfl <| Fp Zcj Zhr rfl <| Ac (Z41 rfl rfl Zj0 (vt rfl) (vt rfl) hj16) rfl <| Lp1 Z4y rfl <| Md rfl <| Ac (Z0z rfl rfl Z5u (vt rfl) (vt rfl) hx17) rfl <| Lp1 Zdw rfl <| Cv rfl (Zo 10 rfl rfl Zgc) fun g18 => Zi Zdw 10 rfl <| Nl <| sq ?_
  obtain ⟨x19, hx19, h⟩ := Z9 h
  refine Rg <| Ld Z24 6 rfl <| Ld Zdw 10 rfl <| Cl [38, 39] (Zxy _ _ _ hx19) Zwa rfl <| Mt2 rfl <| Ac (Z1b rfl rfl (vt rfl)) rfl <| Ac (Z1d rfl rfl (vt rfl)) rfl <| Cv rfl (Zo 11 rfl rfl Z75) fun g20 => Zi Z24 11 rfl <| As rfl <| Nl <| sq <| SR <| Md rfl <| Ac (Z1a rfl rfl (vt rfl)) rfl <| Nl <| Cq rfl h (fun h => ?_) (fun h => ?_)
  ·refine xt <| Rg <| Ac (Z12 (t := 22) rfl rfl (vt rfl) (vk rfl) (vt rfl) hlti11) rfl <| Md rfl <| Nl ?_
   exact ⟨(_, _, _), Nat.lt_succ_self _, ⟨hsf1.next, h⟩, FX rfl⟩
  ·refine sk <| sq ?_
   obtain ⟨x21, hx21, h⟩ := Z9 h
   refine Rg <| Ld Z24 11 rfl <| Md rfl <| Zk lFlow_6 Zqr rfl <| Ld Y0k 10 rfl <| Cl [46, 47, 49] (Zxp _ _ _ _ hx21) Zy0 rfl <| Ac (Zt (A := Z2c (rd Z0u x21.1) (rd (Z0 .i64) x21.2.1) (rd Z6 x21.2.2)) rfl rfl (vt rfl)) rfl <| Ac (Z9r rfl rfl (vt rfl)) rfl <| Ac (Za7 rfl rfl (vt rfl)) rfl <| Ac (Z8d rfl rfl (vt rfl)) rfl <| Zi Z24 11 rfl <| As rfl <| As rfl <| Nl ?_
   refine JN (d := []) (ν := (Lp sg) × Bool) (fun (s22, o23) => (Zbz sg (Z5v sg w5 y1 a4 s3 R_walk_search_table l12) i11 s22 o23 = some r, [(0, rp (ksp Z0s (ydA Tryz.prog Z02 y1 L)) s3), (1, rd (Z0 .i64) a4), (5, Z7 g6 (Lens.id Z0u)), (11, rd Z6 o23), (21, rd (Z4 (Z0 .i64)) x8), (22, rd (Z0 .i64) (x8.length : Int)), (23, rd (Z0 .i64) (i11 : Int))], [(0, L s22), (6, Zb g6 135 Z0u w5)])) ?hx2 ?hy2
   case hy2 =>
    rintro ⟨s22, o23⟩ h
    dsimp only at h ⊢
    unfold Zbz at h
    refine SR <| Md rfl <| Ac (Z1a rfl rfl (vt rfl)) rfl <| Nl <| Cq rfl h (fun h => ?_) (fun h => ?_)
    ·refine SR <| Ab rfl <| Nl <| rt ?_
     cases h; exact Z64 (i := 0) Tryz.results76 rfl (Zc rfl) rfl
    ·refine sk <| Rg <| Ac (Z12 (t := 22) rfl rfl (vt rfl) (vk rfl) (vt rfl) hlti11) rfl <| Md rfl <| Nl ?_
     exact ⟨(_, _, _), Nat.lt_succ_self _, ⟨hsf1.next, h⟩, FX rfl⟩
   case hx2 =>
    refine SR <| Md rfl <| Nl <| Cq rfl h (fun h => ?_) (fun h => ?_)
    ·obtain ⟨b24, hb24, h⟩ := Z9 h
     refine Rg <| Mr rfl <| Md rfl <| Ld Z24 11 rfl <| Cv rfl (Z0r 0 (xs := [.tmp 55, .tmp 56, .tmp 57]) (hR_walk_search_table _ _ _ _ _ hb24) e76 rfl rfl ⟨vt rfl, vt rfl, vt rfl, trivial⟩ rfl) fun _u => As rfl <| Nl ?_
     exact ⟨(_, _), h, FX rfl⟩
    ·obtain ⟨x25, hx25, s26, hs26, h⟩ := bs2 h
     refine AR Zw (by kernel_rfl) <| Sd (lo [0] [] rfl fun S hs hr => Zt (A := rp (ksp Z0s (ydA Tryz.prog Z02 y1 L)) s3) rfl rfl (vh hs 0 rfl rfl)) <| Sd (lo [59] [] rfl fun S hs hr => Zbb rfl rfl (vh hs 59 rfl rfl)) <| Sd (lo [60] [] rfl fun S hs hr => Z7h (Zg2 Z0s (ydA Tryz.prog Z02 y1 L)) rfl rfl (Zoc _) (vh hs 60 rfl rfl)) <| Sd (lo [61] [] rfl fun S hs hr => Zob (A := ydA Tryz.prog Z02 y1 L) rfl rfl rfl (Znr _) (vh hs 61 rfl rfl)) <| Zj Z24 11 rfl <| SCl [63] (Zlq _ _ hx25) Zlr rfl <| Sd (Z1o (us := [(65, rd Z6 (Lp.isGo s26))]) (ur := [(0, L s26)]) [62, 64] [0] rfl fun S hs hr => Zcm 0 hs26 rfl rfl (vh hs 62 rfl rfl) (vh hs 64 rfl rfl) ((hr 0 rfl).trans rfl)) <| SAs rfl <| Sn ?_
     exact ⟨(_, _), h, FX rfl⟩
def Zbn (sg : Type) (y1 : (sg → Rule → Option (Lp sg))) : Nat → ((Lp sg) → Switch → Int → walk_way → Option (Bool × Lp sg))
 | 0 => (fun _ _ _ _ => none)
 | n + 1 => Zg9 sg y1 (Zbn sg y1 n)
theorem Zmh (sg : Type) (y1 : (sg → Rule → Option (Lp sg))) (L : Lp sg → Zp) : ∀ n : Nat, (∀ (s2 : (Lp sg)) (s3 : Switch) (a4 : Int) (w5 : walk_way) (r : (Bool × Lp sg)), (Zbn sg y1 n) s2 s3 a4 w5 = some r → Con Tryz.prog 76 [rp (ksp Z0s (ydA Tryz.prog Z02 y1 L)) s3, rd (Z0 .i64) a4, rd Z0u w5] (L s2) (fun _ : Unit => rd Z6 r.1) (fun _ => L r.2))
 | 0 => (by intros; rename_i h; cases h)
 | n + 1 => Zwc sg y1 L (Zbn sg y1 n) (Zmh sg y1 L n)
def Zmp (sg : Type) (y1 : (sg → Rule → Option (Lp sg))) (s2 : (Lp sg)) (s3 : Switch) (a4 : Int) (w5 : walk_way) : Option (Bool × Lp sg) := Zbn sg y1 Z27 s2 s3 a4 w5
theorem Zvt (sg : Type) (y1 : (sg → Rule → Option (Lp sg))) (L : Lp sg → Zp) : ∀ (s2 : (Lp sg)) (s3 : Switch) (a4 : Int) (w5 : walk_way) (r : (Bool × Lp sg)), (Zmp sg y1) s2 s3 a4 w5 = some r → Con Tryz.prog 76 [rp (ksp Z0s (ydA Tryz.prog Z02 y1 L)) s3, rd (Z0 .i64) a4, rd Z0u w5] (L s2) (fun _ : Unit => rd Z6 r.1) (fun _ => L r.2) := Zmh sg y1 L Z27
def Zam (sg : Type) (y1 : (sg → Rule → Option (Lp sg))) (s2 : (Lp sg)) (x3 : Switch) : Option (Lp sg) :=
 (Z76).bind fun x5 => (Z89).bind fun x6 => (Zmp sg y1 s2 x3 0 (⟨x5, x6, [], []⟩ : walk_way)).bind fun b7 => some b7.2
theorem Zxj (sg : Type) (y1 : (sg → Rule → Option (Lp sg))) (L : Lp sg → Zp) (s2 : (Lp sg)) (x3 : Switch) (r : (Lp sg)) (h : Zam sg y1 s2 x3 = some r) : Con Tryz.prog 75 [ydA Tryz.prog Z02 y1 L, rp Z0s x3] (L s2) (fun _ : Unit => top) (fun _ => L r) := by
 refine Con.intro Tryz.func75 rfl Tryz.ntmps75 rfl fun w H X => ?_
 unfold Zam at h
 refine SR <| Lp1 Z46 rfl <| Ac (Zt (A := ydA Tryz.prog Z02 y1 L) rfl rfl (vt rfl)) rfl <| Ac (Zq9 (x := x3) rfl rfl (by kernel_rfl) Zr5 (by kernel_rfl) (by kernel_rfl) (vt rfl) rfl) rfl <| Ac (Zu8 rfl rfl (vt rfl)) rfl <| Ac (Z00 (A := rp (ksp Z0s (ydA Tryz.prog Z02 y1 L)) x3) rfl rfl (vt rfl)) rfl <| Nl ?_
 obtain ⟨x5, hx5, x6, hx6, b7, hb7, h⟩ := bs3 h
 refine Rg <| Mr rfl <| Cl [] (Zbh _ hx5) e73 rfl <| Cl [] (Zhv _ hx6) e77 rfl <| Ac (opb (⟨x5, x6, [], []⟩ : walk_way) Z75 rfl Zje (pc Zr0 (vt rfl) <| pc Y0h (vt rfl) <| pn rfl)) rfl <| Cv rfl (Z0r 0 (xs := [.tmp 8, .const (Value.int IntKind.i64 0), .tmp 11]) (Zvt sg y1 L _ _ _ _ _ hb7) e76 rfl rfl ⟨vt rfl, vk rfl, vt rfl, trivial⟩ rfl) fun _u => Nl ?_
 cases h; exact Z1e (i := 0) Tryz.results75 rfl rfl
def Zff (s1 : Switch) : Option (Itr Rule) :=
 some (Itr.mk fun σ y s => Zam σ y s s1)
theorem Zui : Q1 Tryz.prog 22 (rd Z0s) (Z33 Tryz.prog Z02) Zff := fun s1 r h => I0 Tryz.func22 rfl Tryz.ntmps22 rfl fun w H => by
 unfold Zff at h
 refine SR <| Cv rfl (Zl 2 rfl rfl (vt rfl)) fun g2 => Ac (Z00 (A := Zh .nilFunc) rfl rfl vc) rfl <| Nl <| sq <| AW.freezeB 1 2 rfl rfl rfl <| Rg <| Ac (Zkz (Itr.mk fun σ y s => Zam σ y s s1) (cs := [.tmp 1]) (CAs := [rp Z0s s1]) rfl rfl e75 ⟨vt rfl, trivial⟩ (fun σ y L s r h => Zxj σ y L s s1 r h)) rfl <| Ac (Z00 (A := Z33 Tryz.prog Z02 (Itr.mk fun σ y s => Zam σ y s s1)) rfl rfl (vt rfl)) rfl <| Nl <| rt ?_
 cases h; exact Zm Tryz.results22 rfl (Zc rfl)
def Zf6 (q : Itr Rule) : Option (List Rule) := Znk q
theorem Zpy (q : Itr Rule) (r : List Rule) (h : Zf6 q = some r) : Con Tryz.prog 146 [Zh (.slice none 0 0), Z33 Tryz.prog Z02 q] emp (fun v => Zh v) (fun v => Za v 90 Z02 r) := by
 refine Con.intro0 Tryz.func146 rfl Tryz.ntmps146 rfl fun w H => ?_
 have h := Y1v h
 refine AW.newnil 1001 90 Z02 <| SR <| Cv rfl (Zl (k := kraw) 3 rfl rfl (vkr (vt rfl) rfl)) fun g => Ac (Z00 (A := Zh (.slice none 0 0)) rfl rfl vc) rfl <| AOps.pack 3 1001 (by decide) rfl rfl <| Nl <| sq <| SR <| Ac (Zt (A := Z33 Tryz.prog Z02 q) rfl rfl (vt rfl)) rfl <| Nl <| bk <| AW.fit (d := []) (L := [(2, Z7 g (Lens.id kraw)), (6, Z33 Tryz.prog Z02 q)]) (M := [(3, Z4m g 32 90 Z02 [])]) ⟨rfl, ⟨rfl, rfl, trivial⟩, ⟨rfl, trivial⟩⟩ ?_
 refine AW.rangeFunc (fun x => [rd Z02 x]) Zhz (fun s => Z29 [(3, Z4m g 32 90 Z02 s)]) (fun _ _ => Z29 []) [(2, Z7 g (Lens.id kraw))]
  (fun s x S1 => ∃ g5, Fit S1 [] [(2, Z7 g (Lens.id kraw)), (5, Z7 g5 (Lens.id Z02))] [(3, Z4m g 32 90 Z02 s), (6, Zb g5 90 Z02 x)]) 1003 (s0 := []) (sE := .go r)
  rfl (vt rfl) ⟨rfl, inferInstance, trivial⟩ rfl (fun _ => rfl) (by intro p hp; have hp : p ∈ [7] := hp; rw [List.mem_singleton.1 hp]; show 7 < 13; decide) ?ha ?hb (fun Lf => ⟨top, _, _, Lf, _, _, h, rfl, rfl, rfl, rfl⟩) ?he
 case ha =>
  intro s x r' hF l w H X
  refine Rg <| Cv rfl (Zo 6 rfl rfl Z5h) fun g5 => Zi Z4x 6 rfl <| Nl ?_
  exact ⟨rfl, g5, rfl, ⟨rfl, rfl, trivial⟩, ⟨rfl, rfl, trivial⟩⟩
 case hb =>
  rintro s x r' hF S1 ⟨g5, hfit⟩ l w H X
  refine AW.fit hfit <| AW.bodyOf (M := fun s => [(3, Z4m g 32 90 Z02 s)]) (Mx := fun _ _ => []) ?_
  obtain ⟨m, hm, hF⟩ := Z9 hF
  cases hF
  refine bk <| AW.unbox 3 1001 (by decide) rfl rfl fun v => Rg <| Ac (Zlf (i := 3) rfl rfl Zhl (vt rfl) rfl) rfl <| Ld Z4x 6 rfl <| Ac (Zdl (ps := [(0, .tmp 9)]) (l := [x]) rfl rfl Z2u Z5h rfl rfl ⟨_, _, Lens.idx 1 Z02 0 (by decide), _, rfl, vt rfl, rfl⟩ rfl) rfl <| Cv rfl (Z2x 1001 hm rfl rfl Zgr (vt rfl) rfl (vt rfl)) fun v2 => Ac (Z44 rfl rfl Zhl (vt rfl) (i := 3) rfl (Zp1 (i := 1001) rfl rfl)) rfl <| AOps.pack 3 1001 (by decide) rfl rfl <| Nl ?_
  exact ⟨_, rfl, rfl, trivial⟩
 case he =>
  intro D
  refine AW.unbox 3 1001 (by decide) rfl rfl fun v => SR <| Ac (Zlf (i := 3) rfl rfl Zhl (vt rfl) rfl) rfl <| Aw rfl <| Nl <| rt ?_
  exact ⟨rfl, 1003, _, rfl, Z38 (i := 1001) Tryz.results146 rfl rfl rfl⟩
theorem Zz1 (q : Itr Rule) (r : List Rule) (h : Zf6 q = some r) : PCon Tryz.prog 146 [Zh (.slice none 0 0), Z33 Tryz.prog Z02 q] (rd (Z4 Z02) r) := PCon.of_row (Zpy q r h)
def Zgu (s1 : (Itr Rule)) : Option (List Rule) :=
 (Zf6 s1).bind fun x2 => some x2
theorem Zqw : Q1 Tryz.prog 85 (Z33 Tryz.prog Z02) (rd (Z4 Z02)) Zgu := fun s1 r h => I0 Tryz.func85 rfl Tryz.ntmps85 rfl fun w H => by
 unfold Zgu at h
 refine SR <| Ac (Z00 (A := rd (Z4 Z02) []) rfl rfl Z13) rfl <| Nl <| sq ?_
 obtain ⟨x2, hx2, h⟩ := Z9 h
 refine Rg <| Ac (Zt (A := Z33 Tryz.prog Z02 s1) rfl rfl (vt rfl)) rfl <| Ac (Z1c (xs := [.const (Value.slice none 0 0), .tmp 3]) (Zz1 _ _ hx2) Zyb rfl rfl ⟨vc, vt rfl, trivial⟩) rfl <| As rfl <| Nl <| rt ?_
 cases h; exact Zm Tryz.results85 rfl (Zc rfl)
def Zfg (s1 : Switch) : Option (List Rule) :=
 (Zff s1).bind fun x3 => (Zgu x3).bind fun x4 => some x4
theorem Zr8 : Q1 Tryz.prog 25 (rd Z0s) (rd (Z4 Z02)) Zfg := fun s1 r h => I0 Tryz.func25 rfl Tryz.ntmps25 rfl fun w H => by
 unfold Zfg at h
 refine SR <| Cv rfl (Zl 2 rfl rfl (vt rfl)) fun g2 => Ac (Z00 (A := rd (Z4 Z02) []) rfl rfl Z13) rfl <| Nl <| sq ?_
 obtain ⟨x3, hx3, x4, hx4, h⟩ := bs2 h
 refine Rg <| Ld Z46 2 rfl <| Cl [3] (Zui _ _ hx3) e22 rfl <| Cl [4] (Zqw _ _ hx4) e85 rfl <| As rfl <| Nl <| rt ?_
 cases h; exact Zm Tryz.results25 rfl (Zc rfl)
def Zic (p1 : cover_purse) : Option (Bool × cover_purse) :=
 (bif p1.free then some (true, p1) else some ((decide (({ p1 with left := (IntKind.i64.wrap (p1.left - 1)) }.left) ≥ 0)), { p1 with left := (IntKind.i64.wrap (p1.left - 1)) }))
theorem Y01 (g2 gT : Nat) (p1 : cover_purse) (r : (Bool × cover_purse)) (h : Zic p1 = some r) : Con Tryz.prog 278 [Z7 g2 (Lens.id Z3d)] (Zb g2 gT Z3d p1) (fun _ : Unit => rd Z6 r.1) (fun _ => Zb g2 gT Z3d r.2) := by
 refine Con.intro Tryz.func278 rfl Tryz.ntmps278 rfl fun w H X => ?_
 unfold Zic at h
 refine SR <| Ab rfl <| Nl <| sq <| SR <| Mp rfl <| Nc rfl <| Zk lcover_purse_1 Zrm rfl <| Ld ty4 0 rfl <| Nl <| Cq rfl h (fun h => ?_) (fun h => ?_)
 ·refine SR <| Ab rfl <| Nl <| rt ?_
  cases h; exact Z64 (i := 0) Tryz.results278 rfl (Zc rfl) rfl
 ·refine sk <| SR <| Mp rfl <| Nc rfl <| Zk lcover_purse_0 Zhh rfl <| Ld Zq 0 rfl <| Ac (Z0i rfl rfl (vt rfl) (vk rfl)) rfl <| Nc rfl <| Zk lcover_purse_0 Zhh rfl <| Zi Zq 0 rfl <| Nl <| SR <| Mp rfl <| Nc rfl <| Zk lcover_purse_0 Zhh rfl <| Ld Zq 0 rfl <| Ac (Z3l rfl rfl (vt rfl) (vk rfl)) rfl <| As rfl <| Nl <| rt ?_
  cases h; exact Z64 (i := 0) Tryz.results278 rfl (Zc rfl) rfl
def Zfh (a1 : Tern) (b2 : Tern) : Option Bool :=
 (Z4z b2.Mask a1.Mask).bind fun x5 => (Z94 x5).bind fun x6 => (opt x6 (Z7l b2 a1.Value)).bind fun x7 => some (x6 && x7)
theorem Zr7 : Q2 Tryz.prog 337 (rd Z3) (rd Z3) (rd Z6) Zfh := fun a1 b2 r h => I0 Tryz.func337 rfl Tryz.ntmps337 rfl fun w H => by
 unfold Zfh at h
 refine SR <| Cv rfl (Zl 3 rfl rfl (vt rfl)) fun g3 => Cv rfl (Zl 4 rfl rfl (vt rfl)) fun g4 => Ab rfl <| Nl <| sq ?_
 obtain ⟨x5, hx5, x6, hx6, x7, hx7, h⟩ := bs3 h
 refine Rg <| Zk lTern_1 Z1z rfl <| Ld Zv 4 rfl <| Zk lTern_1 Z1z rfl <| Ld Zv 3 rfl <| Cl [6, 8] (Z7q _ _ _ hx5) Z7j rfl <| Cl [9] (Zfi _ _ hx6) Zif rfl <| Md rfl <| Gd rfl (fun hq => Z1p rfl rfl Zz (vt rfl) (i := 4) rfl) <| Gd rfl (fun hq => Z2n lTern_0 rfl rfl Z2e (vt rfl)) <| Gd rfl (fun hq => Z1p rfl rfl Zv (vgt rfl hq) (i := 3) rfl) <| Gd rfl (fun hq => Z1c (xs := [.tmp 12, .tmp 14]) (Zhp _ _ _ (Z2s hx7 hq)) Zf3 rfl rfl ⟨vgt rfl hq, vgt rfl hq, trivial⟩) <| Ac (Z22 rfl rfl (vt rfl) (vt rfl)) rfl <| As rfl <| Nl <| rt ?_
 cases h; exact Zm Tryz.results337 rfl (Zc rfl)
def Z9g (b2 : Zg) : (List Tern) → Nat → Option Bool
 | [], i5 => some true
 | x7 :: l6, i5 => (chk 24 (i5 : Int)).bind fun j9 => (Zfh x7 (Vector.get b2 j9)).bind fun x10 => (bif (!x10) then some false else (Z9g b2 l6) (i5 + 1))
def Zhc (a1 : Zg) (b2 : Zg) : Option Bool :=
 Z9g b2 (Vector.toList a1) 0
theorem Zvu : Q2 Tryz.prog 316 (rd (Z1 24 Z3)) (rd (Z1 24 Z3)) (rd Z6) Zhc := fun a1 b2 r h => I0 Tryz.func316 rfl Tryz.ntmps316 rfl fun w H => by
 unfold Zhc at h
 refine SR <| Cv rfl (Zl 3 rfl rfl (vt rfl)) fun g3 => Cv rfl (Zl 4 rfl rfl (vt rfl)) fun g4 => Ab rfl <| Nl <| sq <| SR <| Ld Zy 3 rfl <| Mk rfl <| Nl <| bk <| LG (d := []) (ν := (List Tern) × Nat) (fun (l6, i5) => (Sfx (Vector.toList a1) i5 l6 ∧ Z9g b2 l6 i5 = some r, l6.length, [(3, Z7 g4 (Lens.id (Z1 24 Z3))), (7, rd (Z1 24 Z3) a1), (8, rd (Z0 .i64) (i5 : Int))], [(4, Zb g4 87 (Z1 24 Z3) b2)])) ((Vector.toList a1), 0) ⟨Sfx.start _, h⟩ (FX rfl) ?_
 rintro ⟨l6, i5⟩ ⟨hsf1, h⟩
 dsimp only at hsf1 h ⊢
 cases l6 with
 | nil =>
  unfold Z9g at h
  refine SR <| Ac (Zn rfl rfl (vt rfl) (vk rfl)) rfl <| Nl <| sq <| Cn rfl (fun hc => absurd (of_decide_eq_true hc) (hsf1.niln (by simp))) (fun hc => ?_)
  refine xt <| SR <| Ab rfl <| Nl <| rt ?_
  cases h; exact Zm Tryz.results316 rfl (Zc rfl)
 | cons x7 l6 =>
  unfold Z9g at h
  refine SR <| Ac (Zn rfl rfl (vt rfl) (vk rfl)) rfl <| Nl <| sq <| Cn rfl (fun hc => ?_) (fun hc => absurd (hsf1.consn (by simp)) (of_decide_eq_false hc))
  have hlti5 := of_decide_eq_true hc
  refine sk <| sq <| bk <| SR <| Md rfl <| Ac (Z6j rfl rfl Z2g Zz (vt rfl) (vt rfl) hsf1.lget) rfl <| Cv rfl (Zo 7 rfl rfl Z1g) fun g8 => As rfl <| Zi Zz 7 rfl <| Nl <| sq ?_
  obtain ⟨j9, hj9, x10, hx10, h⟩ := bs2 h
  refine AR Zw (by kernel_rfl) <| Zj Zz 7 rfl <| Zs rfl <| Sd (lo [3, 13] [] rfl fun S hs hr => Z1f rfl rfl Z2g (vh hs 3 rfl rfl) (vh hs 13 rfl rfl) hj9) <| Zj Zz 4 rfl <| SCl [12, 15] (Zr7 _ _ _ hx10) Zvj rfl <| Sd (lo [16] [] rfl fun S hs hr => Z1a rfl rfl (vh hs 16 rfl rfl)) <| Sn <| Cq rfl h (fun h => ?_) (fun h => ?_)
  ·refine SR <| Ab rfl <| Nl <| rt ?_
   cases h; exact Zm Tryz.results316 rfl (Zc rfl)
  ·refine sk <| Rg <| Ac (Z4d rfl rfl (vt rfl) (vk rfl) rfl hlti5) rfl <| Md rfl <| Nl ?_
   exact ⟨(_, _), Nat.lt_succ_self _, ⟨hsf1.next, h⟩, FX rfl⟩
end Go.Proofs.YtknpgojdkobgjaaGreat.W
set_option maxRecDepth 4000
namespace Go.Proofs.YtknpgojdkobgjaaGreat.W
open Go Go.Wb
theorem Zzu : Ent Tryz.prog 316 := Ent.mk Tryz.func316 rfl rfl
theorem Zm1 : Ent Tryz.prog 331 := Ent.mk Tryz.func331 rfl rfl
theorem Zvr : Ent Tryz.prog 294 := Ent.mk Tryz.func294 rfl rfl
theorem Zp0 : Ent Tryz.prog 319 := Ent.mk Tryz.func319 rfl rfl
theorem Y1c : Ent Tryz.prog 318 := Ent.mk Tryz.func318 rfl rfl
theorem Zoh : Ent Tryz.prog 320 := Ent.mk Tryz.func320 rfl rfl
theorem Zvw : Ent Tryz.prog 317 := Ent.mk Tryz.func317 rfl rfl
def Z60 (x1 : Zg) : (List Zg) → Nat → Int → Option (Bool × Int)
 | [], i6, x5 => some (false, x5)
 | x8 :: l7, i6, x5 => (Z6z x1 x8).bind fun x10 => (bif (!x10.2) then (Z60 x1 l7) (i6 + 1) x5 else (Zhc x1 x8).bind fun x12 => (bif x12 then some (true, (i6 : Int)) else (bif (decide (x5 < 0)) then (Z60 x1 l7) (i6 + 1) (i6 : Int) else (Z60 x1 l7) (i6 + 1) x5)))
def Zis (x1 : Zg) (l2 : (List Zg)) : Option (Bool × Int) :=
 Z60 x1 l2 0 (-1)
theorem Zza : Q2 Tryz.prog 279 (rd (Z1 24 Z3)) (rd (Z4 (Z1 24 Z3))) (fun r => Z0w (rd Z6 r.1) (rd (Z0 .i64) r.2)) Zis := fun x1 l2 r h => I0 Tryz.func279 rfl Tryz.ntmps279 rfl fun w H => by
 unfold Zis at h
 refine SR <| Cv rfl (Zl 3 rfl rfl (vt rfl)) fun g3 => Ab rfl <| Ak rfl <| Nl <| SR <| Ak rfl <| Nl <| sq <| SR <| Md rfl <| Ac (Z16 rfl rfl Z3o (vt rfl)) rfl <| Mk rfl <| Nl <| bk <| LG (d := []) (ν := (List Zg) × Nat × Int) (fun (l7, i6, x5) => (Sfx l2 i6 l7 ∧ Z60 x1 l7 i6 x5 = some r, l7.length, [(2, Z7 g3 (Lens.id (Z1 24 Z3))), (6, rd (Z0 .i64) x5), (11, rd (Z4 (Z1 24 Z3)) l2), (12, rd (Z0 .i64) (l2.length : Int)), (13, rd (Z0 .i64) (i6 : Int))], [(3, Zb g3 87 (Z1 24 Z3) x1)])) (l2, 0, (-1)) ⟨Sfx.start _, h⟩ (FX rfl) ?_
 rintro ⟨l7, i6, x5⟩ ⟨hsf1, h⟩
 dsimp only at hsf1 h ⊢
 cases l7 with
 | nil =>
  unfold Z60 at h
  refine SR <| Ac (Zn rfl rfl (vt rfl) (vt rfl)) rfl <| Nl <| sq <| Cn rfl (fun hc => absurd (of_decide_eq_true hc) hsf1.nil) (fun hc => ?_)
  refine xt <| SR <| Md rfl <| Ab rfl <| As rfl <| Nl <| rt ?_
  cases h; exact Z0y Tryz.results279 rfl (Zc rfl) (Zc rfl)
 | cons x8 l7 =>
  unfold Z60 at h
  refine SR <| Ac (Zn rfl rfl (vt rfl) (vt rfl)) rfl <| Nl <| sq <| Cn rfl (fun hc => ?_) (fun hc => absurd hsf1.cons (of_decide_eq_false hc))
  have hlti6 := of_decide_eq_true hc
  refine sk <| sq <| bk <| SR <| Md rfl <| Ac (Z0z rfl rfl Z3o (vt rfl) (vt rfl) hsf1.lget) rfl <| Lp1 Zy rfl <| Cv rfl (Zo 9 rfl rfl Z1k) fun g9 => As rfl <| Zi Zy 9 rfl <| Nl <| sq ?_
  obtain ⟨x10, hx10, h⟩ := Z9 h
  refine Rg <| Ld Zy 3 rfl <| Ld Zy 9 rfl <| Cl [19, 20] (Zd1 _ _ _ hx10) Zbk rfl <| Mt2 rfl <| Ac (Z1b rfl rfl (vt rfl)) rfl <| Ac (Z1d rfl rfl (vt rfl)) rfl <| Cv rfl (Zo 10 rfl rfl Z1k) fun g11 => Zi Zy 10 rfl <| As rfl <| Nl <| bk <| SR <| Md rfl <| Ac (Z1a rfl rfl (vt rfl)) rfl <| As rfl <| Nl <| Cq rfl h (fun h => ?_) (fun h => ?_)
  ·refine sk <| Rg <| Ac (Z12 (t := 12) rfl rfl (vt rfl) (vk rfl) (vt rfl) hlti6) rfl <| Md rfl <| Nl ?_
   exact ⟨(_, _, _), Nat.lt_succ_self _, ⟨hsf1.next, h⟩, FX rfl⟩
  ·refine sq ?_
   obtain ⟨x12, hx12, h⟩ := Z9 h
   refine Rg <| Ld Zy 3 rfl <| Ld Zy 9 rfl <| Cl [28, 29] (Zvu _ _ _ hx12) Zzu rfl <| As rfl <| Nl <| Cq rfl h (fun h => ?_) (fun h => ?_)
   ·refine SR <| Md rfl <| Ab rfl <| As rfl <| Nl <| rt ?_
    cases h; exact Z0y Tryz.results279 rfl (Zc rfl) (Zc rfl)
   ·refine SR <| Md rfl <| Ac (Zn rfl rfl (vt rfl) (vk rfl)) rfl <| As rfl <| Nl <| Cq rfl h (fun h => ?_) (fun h => ?_)
    ·refine Rg <| Md rfl <| As rfl <| Nl <| Rg <| Ac (Z12 (t := 12) rfl rfl (vt rfl) (vk rfl) (vt rfl) hlti6) rfl <| Md rfl <| Nl ?_
     exact ⟨(_, _, _), Nat.lt_succ_self _, ⟨hsf1.next, h⟩, FX rfl⟩
    ·refine sk <| Rg <| Ac (Z12 (t := 12) rfl rfl (vt rfl) (vk rfl) (vt rfl) hlti6) rfl <| Md rfl <| Nl ?_
     exact ⟨(_, _, _), Nat.lt_succ_self _, ⟨hsf1.next, h⟩, FX rfl⟩
def Zai : (List Tern) → Nat → Z0l → Option Z0l
 | [], i7, b6 => some b6
 | x9 :: l8, i7, b6 => (Z3y x9).bind fun x11 => (chk 24 (i7 : Int)).bind fun j12 => (Zai l8) (i7 + 1) (Vector.set b6 j12.1 x11.Value j12.2)
def Zht (x1 : Zg) : Option Z0l :=
 Zai (Vector.toList x1) 0 (Vector.replicate 24 Z0e)
theorem Zqp : Q1 Tryz.prog 70 (rd (Z1 24 Z3)) (rd (Z1 24 Ze)) Zht := fun x1 r h => I0 Tryz.func70 rfl Tryz.ntmps70 rfl fun w H => by
 unfold Zht at h
 refine SR <| Cv rfl (Zl 2 rfl rfl (vt rfl)) fun g2 => Cv rfl (Zo 3 rfl rfl Z37) fun g3 => Nl <| SR <| Cv rfl (Zo 4 rfl rfl Z37) fun g4 => Nl <| sq <| SR <| Ld Zy 2 rfl <| Mk rfl <| Nl <| bk <| LG (d := []) (ν := (List Tern) × Nat × Z0l) (fun (l8, i7, b6) => (Sfx (Vector.toList x1) i7 l8 ∧ Zai l8 i7 b6 = some r, l8.length, [(2, Z7 g3 (Lens.id (Z1 24 Ze))), (3, Z7 g4 (Lens.id (Z1 24 Ze))), (6, rd (Z1 24 Z3) x1), (7, rd (Z0 .i64) (i7 : Int))], [(3, Zb g3 44 (Z1 24 Ze) (Vector.replicate 24 Z0e)), (4, Zb g4 44 (Z1 24 Ze) b6)])) ((Vector.toList x1), 0, (Vector.replicate 24 Z0e)) ⟨Sfx.start _, h⟩ (FX rfl) ?_
 rintro ⟨l8, i7, b6⟩ ⟨hsf1, h⟩
 dsimp only at hsf1 h ⊢
 cases l8 with
 | nil =>
  unfold Zai at h
  refine SR <| Ac (Zn rfl rfl (vt rfl) (vk rfl)) rfl <| Nl <| sq <| Cn rfl (fun hc => absurd (of_decide_eq_true hc) (hsf1.niln (by simp))) (fun hc => ?_)
  refine xt <| SR <| Ld Z0v 4 rfl <| Zi Z0v 3 rfl <| Nl <| rt ?_
  cases h; exact Zm Tryz.results70 rfl (Zx rfl (i := 3) rfl Z0v)
 | cons x9 l8 =>
  unfold Zai at h
  refine SR <| Ac (Zn rfl rfl (vt rfl) (vk rfl)) rfl <| Nl <| sq <| Cn rfl (fun hc => ?_) (fun hc => absurd (hsf1.consn (by simp)) (of_decide_eq_false hc))
  have hlti7 := of_decide_eq_true hc
  refine sk <| sq <| bk <| SR <| Md rfl <| Ac (Z6j rfl rfl Z2g Zz (vt rfl) (vt rfl) hsf1.lget) rfl <| Cv rfl (Zo 6 rfl rfl Z1g) fun g10 => As rfl <| Zi Zz 6 rfl <| Nl ?_
  obtain ⟨x11, hx11, j12, hj12, h⟩ := bs2 h
  refine Rg <| Md rfl <| Ld Zz 6 rfl <| Cl [12] (Z4t _ _ hx11) Z4q rfl <| Ac (Zku lTern_0 rfl rfl Z2e Zqg Zv rfl (vt rfl)) rfl <| Ac (Z1f rfl rfl Z4u (vt rfl) (vt rfl) hj12) rfl <| Zi Zv 4 rfl <| Nl <| Rg <| Ac (Z4d rfl rfl (vt rfl) (vk rfl) rfl hlti7) rfl <| Md rfl <| Nl ?_
  exact ⟨(_, _, _), Nat.lt_succ_self _, ⟨hsf1.next, h⟩, FX rfl⟩
def Zb8 (x1 : (BitVec 64)) : Option Int :=
 (Z2p x1 ((1 : BitVec 64).toNat : Int)).bind fun q2 => (Z2p ((q2 &&& (6148914691236517205 : BitVec 64)) + (x1 &&& (6148914691236517205 : BitVec 64))) ((2 : BitVec 64).toNat : Int)).bind fun q3 => (Z2p ((q3 &&& (3689348814741910323 : BitVec 64)) + (((q2 &&& (6148914691236517205 : BitVec 64)) + (x1 &&& (6148914691236517205 : BitVec 64))) &&& (3689348814741910323 : BitVec 64))) ((4 : BitVec 64).toNat : Int)).bind fun q4 => (Z2p ((q4 + ((q3 &&& (3689348814741910323 : BitVec 64)) + (((q2 &&& (6148914691236517205 : BitVec 64)) + (x1 &&& (6148914691236517205 : BitVec 64))) &&& (3689348814741910323 : BitVec 64)))) &&& (1085102592571150095 : BitVec 64)) ((8 : BitVec 64).toNat : Int)).bind fun q5 => (Z2p (((q4 + ((q3 &&& (3689348814741910323 : BitVec 64)) + (((q2 &&& (6148914691236517205 : BitVec 64)) + (x1 &&& (6148914691236517205 : BitVec 64))) &&& (3689348814741910323 : BitVec 64)))) &&& (1085102592571150095 : BitVec 64)) + q5) ((16 : BitVec 64).toNat : Int)).bind fun q6 => (Z2p ((((q4 + ((q3 &&& (3689348814741910323 : BitVec 64)) + (((q2 &&& (6148914691236517205 : BitVec 64)) + (x1 &&& (6148914691236517205 : BitVec 64))) &&& (3689348814741910323 : BitVec 64)))) &&& (1085102592571150095 : BitVec 64)) + q5) + q6) ((32 : BitVec 64).toNat : Int)).bind fun q7 => some (Zo4 .and .i64 (IntKind.i64.wrap ((((((q4 + ((q3 &&& (3689348814741910323 : BitVec 64)) + (((q2 &&& (6148914691236517205 : BitVec 64)) + (x1 &&& (6148914691236517205 : BitVec 64))) &&& (3689348814741910323 : BitVec 64)))) &&& (1085102592571150095 : BitVec 64)) + q5) + q6) + q7).toNat : Int)) 127)
theorem Zkj : Q1 Tryz.prog 331 (rd Z0a) (rd (Z0 .i64)) Zb8 := fun x1 r h => I0 Tryz.func331 rfl Tryz.ntmps331 rfl fun w H => by
 unfold Zb8 at h
 refine SR <| Ak rfl <| Nl <| sq ?_
 obtain ⟨q2, hq2, h⟩ := Z9 h
 refine Rg <| Md rfl <| Ac (Z34 rfl rfl (vt rfl) (Z36 (vku (1 : BitVec 64) rfl)) hq2) rfl <| Ac (Z4v rfl rfl (vt rfl) (vku (6148914691236517205 : BitVec 64) rfl)) rfl <| Md rfl <| Ac (Z4v rfl rfl (vt rfl) (vku (6148914691236517205 : BitVec 64) rfl)) rfl <| Ac (Z72 rfl rfl (vt rfl) (vt rfl)) rfl <| As rfl <| Nl <| sq ?_
 obtain ⟨q3, hq3, h⟩ := Z9 h
 refine Rg <| Md rfl <| Ac (Z34 rfl rfl (vt rfl) (Z36 (vku (2 : BitVec 64) rfl)) hq3) rfl <| Ac (Z4v rfl rfl (vt rfl) (vku (3689348814741910323 : BitVec 64) rfl)) rfl <| Md rfl <| Ac (Z4v rfl rfl (vt rfl) (vku (3689348814741910323 : BitVec 64) rfl)) rfl <| Ac (Z72 rfl rfl (vt rfl) (vt rfl)) rfl <| As rfl <| Nl <| sq ?_
 obtain ⟨q4, hq4, h⟩ := Z9 h
 refine Rg <| Md rfl <| Ac (Z34 rfl rfl (vt rfl) (Z36 (vku (4 : BitVec 64) rfl)) hq4) rfl <| Md rfl <| Ac (Z72 rfl rfl (vt rfl) (vt rfl)) rfl <| Ac (Z4v rfl rfl (vt rfl) (vku (1085102592571150095 : BitVec 64) rfl)) rfl <| As rfl <| Nl <| sq ?_
 obtain ⟨q5, hq5, h⟩ := Z9 h
 refine Rg <| Md rfl <| Md rfl <| Ac (Z34 rfl rfl (vt rfl) (Z36 (vku (8 : BitVec 64) rfl)) hq5) rfl <| Ac (Z72 rfl rfl (vt rfl) (vt rfl)) rfl <| As rfl <| Nl <| sq ?_
 obtain ⟨q6, hq6, h⟩ := Z9 h
 refine Rg <| Md rfl <| Md rfl <| Ac (Z34 rfl rfl (vt rfl) (Z36 (vku (16 : BitVec 64) rfl)) hq6) rfl <| Ac (Z72 rfl rfl (vt rfl) (vt rfl)) rfl <| As rfl <| Nl <| sq ?_
 obtain ⟨q7, hq7, h⟩ := Z9 h
 refine Rg <| Md rfl <| Md rfl <| Ac (Z34 rfl rfl (vt rfl) (Z36 (vku (32 : BitVec 64) rfl)) hq7) rfl <| Ac (Z72 rfl rfl (vt rfl) (vt rfl)) rfl <| As rfl <| Nl <| SR <| Md rfl <| Ac (Z50 rfl rfl Zs8 un3 (vt rfl)) rfl <| Ac (Zxk rfl rfl (vt rfl) (vk rfl)) rfl <| As rfl <| Nl <| rt ?_
 cases h; exact Zm Tryz.results331 rfl (Zc rfl)
def Zih (a1 : Wide) : Option Int :=
 (Zb8 a1.Hi).bind fun x3 => (Zb8 a1.Lo).bind fun x4 => some (IntKind.i64.wrap (x3 + x4))
theorem Zqx : Q1 Tryz.prog 294 (rd Ze) (rd (Z0 .i64)) Zih := fun a1 r h => I0 Tryz.func294 rfl Tryz.ntmps294 rfl fun w H => by
 unfold Zih at h
 refine SR <| Cv rfl (Zl 2 rfl rfl (vt rfl)) fun g2 => Ak rfl <| Nl <| sq ?_
 obtain ⟨x3, hx3, x4, hx4, h⟩ := bs2 h
 refine AR Zw (by kernel_rfl) <| Zu lWide_0 Z2k rfl <| Zj Z0m 2 rfl <| SCl [4] (Zkj _ _ hx3) Zm1 rfl <| Zu lWide_1 Z2f rfl <| Zj Z0m 2 rfl <| SCl [7] (Zkj _ _ hx4) Zm1 rfl <| Sd (lo [5, 8] [] rfl fun S hs hr => Z0d rfl rfl (vh hs 5 rfl rfl) (vh hs 8 rfl rfl)) <| SAs rfl <| Sn <| rt ?_
 cases h; exact Zm Tryz.results294 rfl (Zc rfl)
def Zej (a1 : Wide) (i2 : Int) : Option Bool :=
 (Z80 i2).bind fun x4 => (Z5l a1 x4).bind fun x5 => (Z94 x5).bind fun x6 => some (!x6)
theorem Zm6 : Q2 Tryz.prog 319 (rd Ze) (rd (Z0 .i64)) (rd Z6) Zej := fun a1 i2 r h => I0 Tryz.func319 rfl Tryz.ntmps319 rfl fun w H => by
 unfold Zej at h
 refine SR <| Cv rfl (Zl 3 rfl rfl (vt rfl)) fun g3 => Ab rfl <| Nl <| sq ?_
 obtain ⟨x4, hx4, x5, hx5, x6, hx6, h⟩ := bs3 h
 refine AR Zw (by kernel_rfl) <| Zj Zv 3 rfl <| Zs rfl <| SCl [6] (Zc7 _ _ hx4) Ze2 rfl <| SCl [5, 7] (Z9a _ _ _ hx5) Z9v rfl <| SCl [8] (Zfi _ _ hx6) Zif rfl <| Sd (lo [9] [] rfl fun S hs hr => Z1a rfl rfl (vh hs 9 rfl rfl)) <| SAs rfl <| Sn <| rt ?_
 cases h; exact Zm Tryz.results319 rfl (Zc rfl)
def Z9c (x5 : Wide) : Nat → (List Int) → Int → Option (List Int)
 | 0, _, _ => none
 | m13 + 1, l10, i12 => (opt (decide (i12 ≥ 0)) (Zih x5)).bind fun x14 => (bif ((decide (i12 ≥ 0)) && (decide ((l10.length : Int) < x14))) then (Zej x5 i12).bind fun x15 => (bif x15 then (Z1n l10 [i12]).bind fun l16 => (Z9c x5 m13) l16 (IntKind.i64.wrap (i12 - 1)) else (Z9c x5 m13) l10 (IntKind.i64.wrap (i12 - 1))) else some l10)
def Zi5 (a1 : Tern) (b2 : Tern) : Option (List Int) :=
 (Z4z b2.Mask a1.Mask).bind fun x5 => Z9c x5 Z27 [] 127
theorem Y1e : Q2 Tryz.prog 318 (rd Z3) (rd Z3) (rd (Z4 (Z0 .i64))) Zi5 := fun a1 b2 r h => I0 Tryz.func318 rfl Tryz.ntmps318 rfl fun w H => by
 unfold Zi5 at h
 refine SR <| Cv rfl (Zl 3 rfl rfl (vt rfl)) fun g3 => Cv rfl (Zl 4 rfl rfl (vt rfl)) fun g4 => Ac (Z00 (A := rd (Z4 (Z0 .i64)) []) rfl rfl Z13) rfl <| Nl <| sq ?_
 obtain ⟨x5, hx5, h⟩ := Z9 h
 refine Rg <| Zk lTern_1 Z1z rfl <| Ld Zv 4 rfl <| Zk lTern_1 Z1z rfl <| Ld Zv 3 rfl <| Cl [9, 11] (Z7q _ _ _ hx5) Z7j rfl <| Cv rfl (Zo 6 rfl rfl Z1l) fun g6 => Zi Zv 6 rfl <| Nl <| sq <| AW.newnil 1001 3 (Z0 .i64) <| Rg <| Ac (Z00 rfl rfl vc) rfl <| Nl <| sq <| SR <| Ak rfl <| Nl <| bk <| LG (d := []) (ν := Nat × (List Int) × Int × Value) (fun (m13, l10, i12, v11) => (True ∧ Z9c x5 m13 l10 i12 = some r, m13, [(5, Z7 g6 (Lens.id Ze)), (6, Zh v11), (7, rd (Z0 .i64) i12)], [(6, Zb g6 42 Ze x5), (1001, Za v11 3 (Z0 .i64) l10)])) (Z27, [], 127, (.slice none 0 0)) ⟨trivial, h⟩ (FX rfl) ?_
 rintro ⟨m13, l10, i12, v11⟩ ⟨hsf1, h⟩
 dsimp only at h ⊢
 cases m13 with
 | zero => cases h
 | succ m13 =>
  unfold Z9c at h
  refine sq <| sq ?_
  obtain ⟨x14, hx14, h⟩ := Z9 h
  refine Rg <| Md rfl <| Ac (Z3l rfl rfl (vt rfl) (vk rfl)) rfl <| Md rfl <| Gd rfl (fun hq => Zt (A := Zh v11) rfl rfl (vt rfl)) <| Gd rfl (fun hq => Z3s 1001 rfl rfl Z0q (vgt rfl hq) rfl) <| Gd rfl (fun hq => Z1p rfl rfl Zv (vt rfl) (i := 6) rfl) <| Gd rfl (fun hq => Z1c (xs := [.tmp 18]) (Zqx _ _ (Z2s hx14 hq)) Zvr rfl rfl ⟨vgt rfl hq, trivial⟩) <| Gd rfl (fun hq => Zn rfl rfl (vgt rfl hq) (vgt rfl hq)) <| Ac (Z22 rfl rfl (vt rfl) (vt rfl)) rfl <| Nl <| Cq rfl h (fun h => ?_) (fun h => ?_)
  ·refine sk <| sq <| bk <| sq ?_
   obtain ⟨x15, hx15, h⟩ := Z9 h
   refine Rg <| Ld Zv 6 rfl <| Md rfl <| Cl [24, 25] (Zm6 _ _ _ hx15) Zp0 rfl <| Nl <| Cq rfl h (fun h => ?_) (fun h => ?_)
   ·obtain ⟨l16, hl16, h⟩ := Z9 h
    refine Rg <| Mw rfl <| Md rfl <| Ac (osl Z0q zr3 rfl (vt rfl)) rfl <| Cv rfl (Z2x 1001 hl16 rfl rfl Zct (vt rfl) rfl (vt rfl)) fun v17 => Aw rfl <| Nl <| Rg <| Md rfl <| Ac (Z0i rfl rfl (vt rfl) (vk rfl)) rfl <| As rfl <| Nl ?_
    exact ⟨(_, _, _, _), Nat.lt_succ_self _, ⟨trivial, h⟩, FX rfl⟩
   ·refine sk <| Rg <| Md rfl <| Ac (Z0i rfl rfl (vt rfl) (vk rfl)) rfl <| As rfl <| Nl ?_
    exact ⟨(_, _, _, _), Nat.lt_succ_self _, ⟨trivial, h⟩, FX rfl⟩
  ·refine xt <| SR <| Mw rfl <| Aw rfl <| Nl <| AW.freezes [4, 6, 31] 1001 rfl ⟨rfl, rfl, rfl, trivial⟩ rfl <| rt ?_
   cases h; exact Zm Tryz.results318 rfl (Zc rfl)
def Zdj (t1 : Tern) (i2 : Int) (o3 : Bool) : Option Tern :=
 (Z80 i2).bind fun x6 => (Z3y t1).bind fun x8 => (Z4f x8.Mask x6).bind fun x9 => (Z4z x8.Value x6).bind fun x10 => (bif o3 then (Z4f ({ { x8 with Mask := x9 } with Value := x10 }.Value) x6).bind fun x11 => some { { { x8 with Mask := x9 } with Value := x10 } with Value := x11 } else some { { x8 with Mask := x9 } with Value := x10 })
theorem Zl0 : Q3 Tryz.prog 320 (rd Z3) (rd (Z0 .i64)) (rd Z6) (rd Z3) Zdj := fun t1 i2 o3 r h => I0 Tryz.func320 rfl Tryz.ntmps320 rfl fun w H => by
 unfold Zdj at h
 refine SR <| Cv rfl (Zl 4 rfl rfl (vt rfl)) fun g4 => Cv rfl (Zo 7 rfl rfl Z1g) fun g5 => Nl <| sq ?_
 obtain ⟨x6, hx6, h⟩ := Z9 h
 refine Rg <| Md rfl <| Cl [8] (Zc7 _ _ hx6) Ze2 rfl <| Cv rfl (Zo 8 rfl rfl Z1l) fun g7 => Zi Zv 8 rfl <| Nl <| sq ?_
 obtain ⟨x8, hx8, h⟩ := Z9 h
 refine Rg <| Ld Zz 4 rfl <| Cl [10] (Z4t _ _ hx8) Z4q rfl <| Zi Zz 4 rfl <| Nl <| sq ?_
 obtain ⟨x9, hx9, x10, hx10, h⟩ := bs2 h
 refine AR Zw (by kernel_rfl) <| Zu lTern_1 Z1z rfl <| Zj Zv 4 rfl <| Zj Zv 8 rfl <| SCl [13, 14] (Z6k _ _ _ hx9) Z69 rfl <| Zu lTern_0 Z2e rfl <| Zj Zv 4 rfl <| Zj Zv 8 rfl <| SCl [17, 18] (Z7q _ _ _ hx10) Z7j rfl <| Zu lTern_1 Z1z rfl <| SSt Zv 4 rfl <| Zu lTern_0 Z2e rfl <| SSt Zv 4 rfl <| Sn <| sq <| SR <| Md rfl <| Nl <| Cq rfl h (fun h => ?_) (fun h => ?_)
 ·obtain ⟨x11, hx11, h⟩ := Z9 h
  refine Rg <| Zk lTern_0 Z2e rfl <| Ld Zv 4 rfl <| Ld Zv 8 rfl <| Cl [24, 25] (Z6k _ _ _ hx11) Z69 rfl <| Zk lTern_0 Z2e rfl <| Zi Zv 4 rfl <| Nl <| SR <| Ld Zz 4 rfl <| Zi Zz 7 rfl <| Nl <| rt ?_
  cases h; exact Zm Tryz.results320 rfl (Zx rfl (i := 7) rfl Zz)
 ·refine sk <| SR <| Ld Zz 4 rfl <| Zi Zz 7 rfl <| Nl <| rt ?_
  cases h; exact Zm Tryz.results320 rfl (Zx rfl (i := 7) rfl Zz)
def Z88 (sg : Type) (go1 : Nat → Zg → (Lp sg) → Option (Lp sg)) (i14 : Nat) (x16 : Tern) (y1 : (sg → Zg → Option (Lp sg))) : (List Int) → Nat → Zg → (Lp sg) → Option (Lp sg)
 | [], i24, b22, s23 => go1 (i14 + 1) b22 s23
 | x26 :: l25, i24, b22, s23 => (Zej x16.Value x26).bind fun x27 => (chk 24 (i14 : Int)).bind fun j29 => (Zdj (Vector.get b22 j29) x26 (!x27)).bind fun x30 => (chk 24 (i14 : Int)).bind fun j31 => (yc y1 s23 (Vector.set b22 j31.1 x30 j31.2)).bind fun s32 => (bif (!(Lp.isGo s32)) then some s32 else (chk 24 (i14 : Int)).bind fun j33 => (Zdj (Vector.get b22 j33) x26 x27).bind fun x34 => (chk 24 (i14 : Int)).bind fun j35 => (Z88 sg go1 i14 x16 y1 l25) (i24 + 1) (Vector.set b22 j35.1 x34 j35.2) s32)
def Z6q (sg : Type) (y1 : (sg → Zg → Option (Lp sg))) : (List Tern) → Nat → Zg → (Lp sg) → Option (Lp sg)
 | [], i14, b12, s13 => some s13
 | x16 :: l15, i14, b12, s13 => (chk 24 (i14 : Int)).bind fun j18 => (Zi5 (Vector.get b12 j18) x16).bind fun x19 => (bif (decide ((x19.length : Int) = 0)) then (Z6q sg y1 l15) (i14 + 1) b12 s13 else Z88 sg (Z6q sg y1 l15) i14 x16 y1 x19 0 b12 s13)
def Z8f (sg : Type) (y1 : (sg → Zg → Option (Lp sg))) (s2 : (Lp sg)) (x3 : Zg) (x4 : Zg) : Option (Lp sg) :=
 (Z85 x3).bind fun x5 => (Z6z x3 x4).bind fun x7 => (bif (!x7.2) then (yc y1 s2 x5).bind fun s9 => some s9 else Z6q sg y1 (Vector.toList x4) 0 x5 s2)
theorem Zx1 (sg : Type) (y1 : (sg → Zg → Option (Lp sg))) (L : Lp sg → Zp) (s2 : (Lp sg)) (x3 : Zg) (x4 : Zg) (r : (Lp sg)) (h : Z8f sg y1 s2 x3 x4 = some r) : Con Tryz.prog 317 [ydA Tryz.prog (Z1 24 Z3) y1 L, rp (Z1 24 Z3) x3, rp (Z1 24 Z3) x4] (L s2) (fun _ : Unit => top) (fun _ => L r) := by
 refine Con.intro Tryz.func317 rfl Tryz.ntmps317 rfl fun w H X => ?_
 unfold Z8f at h
 refine AW.scope <| sq ?_
 obtain ⟨x5, hx5, h⟩ := Z9 h
 refine Rg <| Lp1 Zy rfl <| Cl [14] (Zbf _ _ hx5) Zeh rfl <| Cv rfl (Zo 5 rfl rfl Z1k) fun g6 => Zi Zy 5 rfl <| Nl <| sq <| sq ?_
 obtain ⟨x7, hx7, h⟩ := Z9 h
 refine Rg <| Lp1 Zy rfl <| Lp1 Zy rfl <| Cl [17, 18] (Zd1 _ _ _ hx7) Zbk rfl <| Mt2 rfl <| Ac (Z1b rfl rfl (vt rfl)) rfl <| Ac (Z1d rfl rfl (vt rfl)) rfl <| Cv rfl (Zo 6 rfl rfl Z1k) fun g8 => Zi Zy 6 rfl <| As rfl <| Nl <| SR <| Md rfl <| Ac (Z1a rfl rfl (vt rfl)) rfl <| Nl <| Cq rfl h (fun h => ?_) (fun h => ?_)
 ·refine sq ?_
  obtain ⟨s9, hs9, h⟩ := Z9 h
  refine Rg <| Ac (Zt (A := ydA Tryz.prog (Z1 24 Z3) y1 L) rfl rfl (vt rfl)) rfl <| Ld Zy 5 rfl <| Ac (Zcm 0 hs9 rfl rfl (vt rfl) (vt rfl) rfl) rfl <| Nl <| rt ?_
  cases h; exact Z1e (i := 0) Tryz.results317 rfl rfl
 ·refine sk <| sq <| AW.label <| SR <| Lp1 Zy rfl <| Mk rfl <| Nl <| bk <| LG (d := []) (ν := (List Tern) × Nat × Zg × (Lp sg)) (fun (l15, i14, b12, s13) => (Sfx (Vector.toList x4) i14 l15 ∧ Z6q sg y1 l15 i14 b12 s13 = some r, l15.length, [(0, ydA Tryz.prog (Z1 24 Z3) y1 L), (4, Z7 g6 (Lens.id (Z1 24 Z3))), (27, rd (Z1 24 Z3) x4), (28, rd (Z0 .i64) (i14 : Int))], [(0, L s13), (5, Zb g6 87 (Z1 24 Z3) b12)])) ((Vector.toList x4), 0, x5, s2) ⟨Sfx.start _, h⟩ (FX rfl) ?_
  rintro ⟨l15, i14, b12, s13⟩ ⟨hsf1, h⟩
  dsimp only at hsf1 h ⊢
  cases l15 with
  | nil =>
   unfold Z6q at h
   refine SR <| Ac (Zn rfl rfl (vt rfl) (vk rfl)) rfl <| Nl <| sq <| Cn rfl (fun hc => absurd (of_decide_eq_true hc) (hsf1.niln (by simp))) (fun hc => ?_)
   refine xt ?_
   cases h; exact Z1e (i := 0) Tryz.results317 rfl rfl
  | cons x16 l15 =>
   unfold Z6q at h
   refine SR <| Ac (Zn rfl rfl (vt rfl) (vk rfl)) rfl <| Nl <| sq <| Cn rfl (fun hc => ?_) (fun hc => absurd (hsf1.consn (by simp)) (of_decide_eq_false hc))
   have hlti14 := of_decide_eq_true hc
   refine sk <| sq <| bk <| SR <| Md rfl <| Ac (Z6j rfl rfl Z2g Zz (vt rfl) (vt rfl) hsf1.lget) rfl <| Cv rfl (Zo 9 rfl rfl Z1g) fun g17 => As rfl <| Zi Zz 9 rfl <| Nl <| sq ?_
   obtain ⟨j18, hj18, x19, hx19, h⟩ := bs2 h
   refine AR Zw (by kernel_rfl) <| Zs rfl <| Sd (lo [4, 32] [] rfl fun S hs hr => Z1f rfl rfl Z2g (vh hs 4 rfl rfl) (vh hs 32 rfl rfl) hj18) <| Zj Zz 5 rfl <| Zj Zz 9 rfl <| SCl [34, 35] (Y1e _ _ _ hx19) Y1c rfl <| SAs rfl <| Sn <| sq <| SR <| Md rfl <| Ac (Z16 rfl rfl Z0q (vt rfl)) rfl <| Ac (Z1m rfl rfl (vt rfl) (vk rfl)) rfl <| Nl <| Cq rfl h (fun h => ?_) (fun h => ?_)
   ·refine xt <| Rg <| Ac (Z4d rfl rfl (vt rfl) (vk rfl) rfl hlti14) rfl <| Md rfl <| Nl ?_
    exact ⟨(_, _, _, _), Nat.lt_succ_self _, ⟨hsf1.next, h⟩, FX rfl⟩
   ·refine sk <| SR <| Md rfl <| Ac (Z16 rfl rfl Z0q (vt rfl)) rfl <| Mk rfl <| Nl <| bk <| LG (d := []) (ν := (List Int) × Nat × Zg × (Lp sg)) (fun (l25, i24, b22, s23) => (Sfx x19 i24 l25 ∧ Z88 sg (Z6q sg y1 l15) i14 x16 y1 l25 i24 b22 s23 = some r, l25.length, [(0, ydA Tryz.prog (Z1 24 Z3) y1 L), (4, Z7 g6 (Lens.id (Z1 24 Z3))), (7, rd (Z0 .i64) (i14 : Int)), (8, Z7 g17 (Lens.id Z3)), (27, rd (Z1 24 Z3) x4), (28, rd (Z0 .i64) (i14 : Int)), (40, rd (Z4 (Z0 .i64)) x19), (41, rd (Z0 .i64) (x19.length : Int)), (42, rd (Z0 .i64) (i24 : Int))], [(0, L s23), (5, Zb g6 87 (Z1 24 Z3) b22), (9, Zb g17 85 Z3 x16)])) (x19, 0, b12, s13) ⟨Sfx.start _, h⟩ (FX rfl) ?_
    rintro ⟨l25, i24, b22, s23⟩ ⟨hsf2, h⟩
    dsimp only at hsf2 h ⊢
    cases l25 with
    | nil =>
     unfold Z88 at h
     refine SR <| Ac (Zn rfl rfl (vt rfl) (vt rfl)) rfl <| Nl <| sq <| Cn rfl (fun hc => absurd (of_decide_eq_true hc) hsf2.nil) (fun hc => ?_)
     refine xt <| Rg <| Ac (Z4d rfl rfl (vt rfl) (vk rfl) rfl hlti14) rfl <| Md rfl <| Nl ?_
     exact ⟨(_, _, _, _), Nat.lt_succ_self _, ⟨hsf1.next, h⟩, FX rfl⟩
    | cons x26 l25 =>
     unfold Z88 at h
     refine SR <| Ac (Zn rfl rfl (vt rfl) (vt rfl)) rfl <| Nl <| sq <| Cn rfl (fun hc => ?_) (fun hc => absurd hsf2.cons (of_decide_eq_false hc))
     have hlti24 := of_decide_eq_true hc
     refine sk <| sq <| bk <| SR <| Ac (Z0z rfl rfl Z0q (vt rfl) (vt rfl) hsf2.lget) rfl <| Lp1 Zq rfl <| As rfl <| Nl <| sq ?_
     obtain ⟨x27, hx27, h⟩ := Z9 h
     refine Rg <| Zk lTern_0 Z2e rfl <| Ld Zv 9 rfl <| Md rfl <| Cl [47, 48] (Zm6 _ _ _ hx27) Zp0 rfl <| As rfl <| Nl <| SR <| Ld Zy 5 rfl <| Cv rfl (Zo 14 rfl rfl Z1k) fun g28 => Zi Zy 14 rfl <| Nl <| sq ?_
     obtain ⟨j29, hj29, x30, hx30, j31, hj31, h⟩ := bs3 h
     refine Rg <| Md rfl <| Md rfl <| Ac (Z1f rfl rfl Z2g (vt rfl) (vt rfl) hj29) rfl <| Ld Zz 5 rfl <| Md rfl <| Md rfl <| Ac (Z1a rfl rfl (vt rfl)) rfl <| Cl [54, 55, 57] (Zl0 _ _ _ _ hx30) Zoh rfl <| Ac (Z1f rfl rfl Z2g (vt rfl) (vt rfl) hj31) rfl <| Zi Zz 14 rfl <| Nl <| sq <| sq ?_
     obtain ⟨s32, hs32, h⟩ := Z9 h
     refine Rg <| Ac (Zt (A := ydA Tryz.prog (Z1 24 Z3) y1 L) rfl rfl (vt rfl)) rfl <| Ld Zy 14 rfl <| Ac (Zcm 0 hs32 rfl rfl (vt rfl) (vt rfl) rfl) rfl <| Ac (Z1a rfl rfl (vt rfl)) rfl <| Nl <| Cq rfl h (fun h => ?_) (fun h => ?_)
     ·refine xt ?_
      cases h; exact Z1e (i := 0) Tryz.results317 rfl rfl
     ·refine sk ?_
      obtain ⟨j33, hj33, x34, hx34, j35, hj35, h⟩ := bs3 h
      refine Rg <| Md rfl <| Md rfl <| Ac (Z1f rfl rfl Z2g (vt rfl) (vt rfl) hj33) rfl <| Ld Zz 5 rfl <| Md rfl <| Md rfl <| Cl [67, 68, 69] (Zl0 _ _ _ _ hx34) Zoh rfl <| Ac (Z1f rfl rfl Z2g (vt rfl) (vt rfl) hj35) rfl <| Zi Zz 5 rfl <| Nl <| Rg <| Ac (Z12 (t := 41) rfl rfl (vt rfl) (vk rfl) (vt rfl) hlti24) rfl <| Md rfl <| Nl ?_
      exact ⟨(_, _, _, _), Nat.lt_succ_self _, ⟨hsf2.next, h⟩, FX rfl⟩
def Zdv (a1 : Zg) (b2 : Zg) : Option (Itr Zg) :=
 some (Itr.mk fun σ y s => Z8f σ y s a1 b2)
theorem Znp : Q2 Tryz.prog 280 (rd (Z1 24 Z3)) (rd (Z1 24 Z3)) (Z33 Tryz.prog (Z1 24 Z3)) Zdv := fun a1 b2 r h => I0 Tryz.func280 rfl Tryz.ntmps280 rfl fun w H => by
 unfold Zdv at h
 refine SR <| Cv rfl (Zl 3 rfl rfl (vt rfl)) fun g3 => Cv rfl (Zl 4 rfl rfl (vt rfl)) fun g4 => Ac (Z00 (A := Zh .nilFunc) rfl rfl vc) rfl <| Nl <| sq <| AW.freezeB 2 3 rfl rfl rfl <| AW.freezeB 3 4 rfl rfl rfl <| Rg <| Ac (Zkz (Itr.mk fun σ y s => Z8f σ y s a1 b2) (cs := [.tmp 2, .tmp 3]) (CAs := [rp (Z1 24 Z3) a1, rp (Z1 24 Z3) b2]) rfl rfl Zvw ⟨vt rfl, vt rfl, trivial⟩ (fun σ y L s r h => Zx1 σ y L s a1 b2 r h)) rfl <| Ac (Z00 (A := Z33 Tryz.prog (Z1 24 Z3) (Itr.mk fun σ y s => Z8f σ y s a1 b2)) rfl rfl (vt rfl)) rfl <| Nl <| rt ?_
 cases h; exact Zm Tryz.results280 rfl (Zc rfl)
end Go.Proofs.YtknpgojdkobgjaaGreat.W
set_option maxRecDepth 4000
namespace Go.Proofs.YtknpgojdkobgjaaGreat.W
open Go Go.Wb
theorem Zww : Ent Tryz.prog 278 := Ent.mk Tryz.func278 rfl rfl
theorem Y18 : Ent Tryz.prog 279 := Ent.mk Tryz.func279 rfl rfl
theorem e70 : Ent Tryz.prog 70 := Ent.mk Tryz.func70 rfl rfl
theorem Zlb : Ent Tryz.prog 280 := Ent.mk Tryz.func280 rfl rfl
theorem Zml : Ent Tryz.prog 235 := Ent.mk Tryz.func235 rfl rfl
theorem Zwo : Ent Tryz.prog 240 := Ent.mk Tryz.func240 rfl rfl
theorem Zyk : Ent Tryz.prog 179 := Ent.mk Tryz.func179 rfl rfl
theorem Zsl : Ent Tryz.prog 170 := Ent.mk Tryz.func170 rfl rfl
theorem Y2t : Ent Tryz.prog 288 := Ent.mk Tryz.func288 rfl rfl
theorem Zrf : Ent Tryz.prog 162 := Ent.mk Tryz.func162 rfl rfl
def Zeu (l4 : (List Zg)) (x10 : (Bool × Int)) (R_cover_look_at : (cover_look → Zg → (List Zg) → Option (Z0l × Bool × Bool × cover_look))) (b18 : cover_look) (b19 : Z0l) (b20 : Bool) (b21 : Bool) (x23 : Zg) : Option (Lp (cover_look × Z0l × Bool × Bool)) :=
 (Z66 l4 (IntKind.i64.wrap (x10.2 + 1))).bind fun s25 => (R_cover_look_at b18 x23 s25).bind fun b26 => (bif (b26.2.1 || (!b26.2.2.1)) then some (.out (.exit 1) (b26.2.2.2, b26.1, b26.2.1, b26.2.2.1)) else some (.go (b26.2.2.2, b26.1, b26.2.1, b26.2.2.1)))
def Zgb (R_cover_look_at : (cover_look → Zg → (List Zg) → Option (Z0l × Bool × Bool × cover_look))) (s1 : cover_look) (x3 : Zg) (l4 : (List Zg)) : Option (Z0l × Bool × Bool × cover_look) :=
 (Zic s1.purse).bind fun b9 => (bif (!b9.1) then some ((Vector.replicate 24 Z0e), false, false, { s1 with purse := b9.2 }) else (Zis x3 l4).bind fun x10 => (bif x10.1 then some ((Vector.replicate 24 Z0e), false, true, { s1 with purse := b9.2 }) else (bif (decide (x10.2 < 0)) then (Zht x3).bind fun x12 => some (x12, true, true, { s1 with purse := b9.2 }) else (lget l4 x10.2).bind fun x16 => (Zdv x3 x16).bind fun x17 => (Itr.run x17 (cover_look × Z0l × Bool × Bool) (fun s x => Zeu l4 x10 R_cover_look_at s.1 s.2.1 s.2.2.1 s.2.2.2 x) (.go ({ s1 with purse := b9.2 }, (Vector.replicate 24 Z0e), false, true))).bind fun z22 => Zk3 z22 (fun s27 => some (s27.2.1, s27.2.2.1, s27.2.2.2, s27.1)) (fun c s27 => bif Zb2 1 c then some (s27.2.1, s27.2.2.1, s27.2.2.2, s27.1) else none))))
theorem Zx5 (R_cover_look_at : (cover_look → Zg → (List Zg) → Option (Z0l × Bool × Bool × cover_look))) (hR_cover_look_at : ∀ (g2 gT : Nat) (s1 : cover_look) (x3 : Zg) (l4 : (List Zg)) (r : (Z0l × Bool × Bool × cover_look)), R_cover_look_at s1 x3 l4 = some r → Con Tryz.prog 235 [Z7 g2 (Lens.id Z14), rd (Z1 24 Z3) x3, rd (Z4 (Z1 24 Z3)) l4] (Zb g2 gT Z14 s1) (fun _ : Unit => Z2c (rd (Z1 24 Ze) r.1) (rd Z6 r.2.1) (rd Z6 r.2.2.1)) (fun _ => Zb g2 gT Z14 r.2.2.2)) (g2 gT : Nat) (s1 : cover_look) (x3 : Zg) (l4 : (List Zg)) (r : (Z0l × Bool × Bool × cover_look)) (h : Zgb R_cover_look_at s1 x3 l4 = some r) : Con Tryz.prog 235 [Z7 g2 (Lens.id Z14), rd (Z1 24 Z3) x3, rd (Z4 (Z1 24 Z3)) l4] (Zb g2 gT Z14 s1) (fun _ : Unit => Z2c (rd (Z1 24 Ze) r.1) (rd Z6 r.2.1) (rd Z6 r.2.2.1)) (fun _ => Zb g2 gT Z14 r.2.2.2) := by
 refine Con.intro Tryz.func235 rfl Tryz.ntmps235 rfl fun w H X => ?_
 unfold Zgb at h
 refine SR <| Cv rfl (Zl 4 rfl rfl (vkp (vt rfl))) fun g5 => Cv rfl (Zl 5 rfl rfl (vt rfl)) fun g6 => Cv rfl (Zl 6 rfl rfl (vt rfl)) fun g7 => Cv rfl (Zo 7 rfl rfl Z37) fun g8 => Ab rfl <| Ab rfl <| Nl <| AW.scope <| sq <| sq ?_
 obtain ⟨b9, hb9, h⟩ := Z9 h
 refine Rg <| Ac (Z65 (A := Z7 g2 (Lens.id Z14)) rfl rfl rfl (Zpb _) (vt rfl) (i := 4) rfl) rfl <| Nc rfl <| Zk lcover_look_0 Zvg rfl <| Cv rfl (Z0r 0 (xs := [.tmp 17]) (Y01 _ _ _ _ hb9) Zww rfl rfl ⟨vt rfl, trivial⟩ rfl) fun _u => AOps.told 0 (Zb g2 gT Z14 { s1 with purse := b9.2 }) rfl <| Ac (Z1a rfl rfl (vt rfl)) rfl <| Nl <| Cq rfl h (fun h => ?_) (fun h => ?_)
 ·refine SR <| Ac (Z15 (ps := []) (x := (Vector.replicate 24 Z0e)) rfl rfl rfl (by kernel_rfl) Z37 rfl) rfl <| Zi Z0v 7 rfl <| Ab rfl <| Ab rfl <| Nl <| rt ?_
  cases h; exact Z92 (i := 0) Tryz.results235 rfl (Zx rfl (i := 7) rfl Z0v) (Zc rfl) (Zc rfl) rfl
 ·refine sk <| sq ?_
  obtain ⟨x10, hx10, h⟩ := Z9 h
  refine Rg <| Ld Zy 5 rfl <| Ld Zdt 6 rfl <| Cl [22, 23] (Zza _ _ _ hx10) Y18 rfl <| Mt2 rfl <| Ac (Z1b rfl rfl (vt rfl)) rfl <| Ac (Z1d rfl rfl (vt rfl)) rfl <| Cv rfl (Zo 11 rfl rfl zr3) fun g11 => As rfl <| Zi Zq 11 rfl <| Nl <| sq <| bk <| SR <| Md rfl <| As rfl <| Nl <| Cq rfl h (fun h => ?_) (fun h => ?_)
  ·refine SR <| Ac (Z15 (ps := []) (x := (Vector.replicate 24 Z0e)) rfl rfl rfl (by kernel_rfl) Z37 rfl) rfl <| Zi Z0v 7 rfl <| Ab rfl <| Ab rfl <| Nl <| rt ?_
   cases h; exact Z92 (i := 0) Tryz.results235 rfl (Zx rfl (i := 7) rfl Z0v) (Zc rfl) (Zc rfl) rfl
  ·refine SR <| Ld Zq 11 rfl <| Ac (Zn rfl rfl (vt rfl) (vk rfl)) rfl <| As rfl <| Nl <| Cq rfl h (fun h => ?_) (fun h => ?_)
   ·refine sq ?_
    obtain ⟨x12, hx12, h⟩ := Z9 h
    refine Rg <| Ld Zy 5 rfl <| Cl [33] (Zqp _ _ hx12) e70 rfl <| Zi Z0v 7 rfl <| Ab rfl <| Ab rfl <| Nl <| rt ?_
    cases h; exact Z92 (i := 0) Tryz.results235 rfl (Zx rfl (i := 7) rfl Z0v) (Zc rfl) (Zc rfl) rfl
   ·refine sk <| SR <| Cv rfl (Zo 12 rfl rfl Z37) fun g13 => Nl <| SR <| Cv rfl (Zo 13 rfl rfl zr4) fun g14 => Cv rfl (Zo 14 rfl rfl zr4) fun g15 => Ac (Z44 rfl rfl ty4 (vt rfl) (i := 13) rfl vb) rfl <| Ac (Z44 rfl rfl ty4 (vt rfl) (i := 14) rfl vb) rfl <| Nl <| sq <| AW.label <| sq <| sq ?_
    obtain ⟨x16, hx16, x17, hx17, h⟩ := bs2 h
    refine AR Zw (by kernel_rfl) <| Zj Zy 5 rfl <| Zj Zdt 6 rfl <| Zj Zq 11 rfl <| Sd (lo [36, 37] [] rfl fun S hs hr => Z0z rfl rfl Z3o (vh hs 36 rfl rfl) (vh hs 37 rfl rfl) hx16) <| SLp Zy rfl <| SCl [35, 39] (Znp _ _ _ hx17) Zlb rfl <| Sn <| bk ?_
    obtain ⟨z22, hz22, h⟩ := Z9 h
    refine AW.fit (d := []) (L := [(3, Z7 g5 (Lens.id (kas (Z7 g2 (Lens.id Z14))))), (5, Z7 g7 (Lens.id (Z4 (Z1 24 Z3)))), (6, Z7 g8 (Lens.id (Z1 24 Ze))), (7, rd Z6 false), (8, rd Z6 false), (10, Z7 g11 (Lens.id (Z0 .i64))), (11, Z7 g13 (Lens.id (Z1 24 Ze))), (12, Z7 g14 (Lens.id Z6)), (13, Z7 g15 (Lens.id Z6)), (40, Z33 Tryz.prog (Z1 24 Z3) x17)]) (M := [(4, Zb g5 286 (kas (Z7 g2 (Lens.id Z14))) ()), (0, Zb g2 gT Z14 { s1 with purse := b9.2 }), (6, Zb g7 229 (Z4 (Z1 24 Z3)) l4), (7, Zb g8 44 (Z1 24 Ze) (Vector.replicate 24 Z0e)), (11, Zb g11 3 (Z0 .i64) x10.2), (12, Zb g13 44 (Z1 24 Ze) (Vector.replicate 24 Z0e)), (13, Zb g14 4 Z6 false), (14, Zb g15 4 Z6 true)]) (FX rfl) ?_
    refine AW.rangeFunc (σ := cover_look × Z0l × Bool × Bool) (fun x => [rd (Z1 24 Z3) x]) (fun s x => Zeu l4 x10 R_cover_look_at s.1 s.2.1 s.2.2.1 s.2.2.2 x) (fun s => Z29 ((fun s => [(4, Zb g5 286 (kas (Z7 g2 (Lens.id Z14))) ()), (0, Zb g2 gT Z14 s.1), (6, Zb g7 229 (Z4 (Z1 24 Z3)) l4), (7, Zb g8 44 (Z1 24 Ze) (Vector.replicate 24 Z0e)), (11, Zb g11 3 (Z0 .i64) x10.2), (12, Zb g13 44 (Z1 24 Ze) s.2.1), (13, Zb g14 4 Z6 s.2.2.1), (14, Zb g15 4 Z6 s.2.2.2)]) s)) (fun _ s => Z29 ((fun s => [(4, Zb g5 286 (kas (Z7 g2 (Lens.id Z14))) ()), (0, Zb g2 gT Z14 s.1), (6, Zb g7 229 (Z4 (Z1 24 Z3)) l4), (7, Zb g8 44 (Z1 24 Ze) (Vector.replicate 24 Z0e)), (11, Zb g11 3 (Z0 .i64) x10.2), (12, Zb g13 44 (Z1 24 Ze) s.2.1), (13, Zb g14 4 Z6 s.2.2.1), (14, Zb g15 4 Z6 s.2.2.2)]) s)) [(3, Z7 g5 (Lens.id (kas (Z7 g2 (Lens.id Z14))))), (5, Z7 g7 (Lens.id (Z4 (Z1 24 Z3)))), (6, Z7 g8 (Lens.id (Z1 24 Ze))), (7, rd Z6 false), (8, rd Z6 false), (10, Z7 g11 (Lens.id (Z0 .i64))), (11, Z7 g13 (Lens.id (Z1 24 Ze))), (12, Z7 g14 (Lens.id Z6)), (13, Z7 g15 (Lens.id Z6))] (fun s x23 S1 => ∃ (g24 : Nat), Fit S1 [] [(3, Z7 g5 (Lens.id (kas (Z7 g2 (Lens.id Z14))))), (5, Z7 g7 (Lens.id (Z4 (Z1 24 Z3)))), (6, Z7 g8 (Lens.id (Z1 24 Ze))), (7, rd Z6 false), (8, rd Z6 false), (10, Z7 g11 (Lens.id (Z0 .i64))), (11, Z7 g13 (Lens.id (Z1 24 Ze))), (12, Z7 g14 (Lens.id Z6)), (13, Z7 g15 (Lens.id Z6)), (14, Z7 g24 (Lens.id (Z1 24 Z3)))] [(4, Zb g5 286 (kas (Z7 g2 (Lens.id Z14))) ()), (0, Zb g2 gT Z14 s.1), (6, Zb g7 229 (Z4 (Z1 24 Z3)) l4), (7, Zb g8 44 (Z1 24 Ze) (Vector.replicate 24 Z0e)), (11, Zb g11 3 (Z0 .i64) x10.2), (12, Zb g13 44 (Z1 24 Ze) s.2.1), (13, Zb g14 4 Z6 s.2.2.1), (14, Zb g15 4 Z6 s.2.2.2), (15, Zb g24 87 (Z1 24 Z3) x23)]) 3001 (s0 := ({ s1 with purse := b9.2 }, (Vector.replicate 24 Z0e), false, true)) (sE := z22) rfl (vt rfl) ⟨rfl, inferInstance, rfl, inferInstance, rfl, inferInstance, rfl, inferInstance, rfl, inferInstance, rfl, inferInstance, rfl, inferInstance, rfl, inferInstance, rfl, inferInstance, trivial⟩ rfl (fun _ => rfl) (by intro p hp; have hp : p ∈ [41] := hp; rw [List.mem_singleton.1 hp]; show 41 < 61; decide) ?ha1 ?hb1 (fun Lf => ⟨top, _, _, Lf, _, _, hz22, rfl, rfl, rfl, rfl⟩) ?he1
    case ha1 =>
     rintro ⟨b18, b19, b20, b21⟩ x23 r hF l w H X
     refine Rg <| Cv rfl (Zo 15 rfl rfl Z1k) fun g24 => Zi Zy 15 rfl <| Nl ?_
     exact ⟨rfl, g24, FX rfl⟩
    case hb1 =>
     rintro ⟨b18, b19, b20, b21⟩ x23 r h S1 ⟨g24, hfit⟩ l w H X
     refine AW.fit (d := []) (L := [(3, Z7 g5 (Lens.id (kas (Z7 g2 (Lens.id Z14))))), (5, Z7 g7 (Lens.id (Z4 (Z1 24 Z3)))), (6, Z7 g8 (Lens.id (Z1 24 Ze))), (7, rd Z6 false), (8, rd Z6 false), (10, Z7 g11 (Lens.id (Z0 .i64))), (11, Z7 g13 (Lens.id (Z1 24 Ze))), (12, Z7 g14 (Lens.id Z6)), (13, Z7 g15 (Lens.id Z6)), (14, Z7 g24 (Lens.id (Z1 24 Z3)))]) (M := [(4, Zb g5 286 (kas (Z7 g2 (Lens.id Z14))) ()), (0, Zb g2 gT Z14 b18), (6, Zb g7 229 (Z4 (Z1 24 Z3)) l4), (7, Zb g8 44 (Z1 24 Ze) (Vector.replicate 24 Z0e)), (11, Zb g11 3 (Z0 .i64) x10.2), (12, Zb g13 44 (Z1 24 Ze) b19), (13, Zb g14 4 Z6 b20), (14, Zb g15 4 Z6 b21), (15, Zb g24 87 (Z1 24 Z3) x23)]) hfit <| AW.bodyT ?_
     change Zeu l4 x10 R_cover_look_at b18 b19 b20 b21 x23 = some r at h
     unfold Zeu at h
     refine bk <| sq ?_
     obtain ⟨s25, hs25, b26, hb26, h⟩ := bs2 h
     refine AR Zw (by kernel_rfl) <| Sd (lo [3] [4] rfl fun S hs hr => Z65 (A := Z7 g2 (Lens.id Z14)) rfl rfl rfl (Zpb _) (vh hs 3 rfl rfl) (i := 4) ((hr 4 rfl).trans rfl)) <| Zj Zy 15 rfl <| Zj Zdt 6 rfl <| Zj Zq 11 rfl <| Sd (lo [46] [] rfl fun S hs hr => Z0d rfl rfl (vh hs 46 rfl rfl) (vk rfl)) <| Sd (lo [45, 47] [] rfl fun S hs hr => Zna hs25 rfl rfl Z3o (vh hs 45 rfl rfl) (vh hs 47 rfl rfl)) <| Sd (Z1o (us := [(49, Z2c (rd (Z1 24 Ze) b26.1) (rd Z6 b26.2.1) (rd Z6 b26.2.2.1))]) (ur := [(0, Zb g2 gT Z14 b26.2.2.2)]) [43, 44, 48] [0] rfl fun S hs hr => Znb 0 (xs := [.tmp 43, .tmp 44, .tmp 48]) (hR_cover_look_at _ _ _ _ _ _ hb26) Zml rfl rfl ⟨vt ((hs 43 rfl).trans rfl), vt ((hs 44 rfl).trans rfl), vt ((hs 48 rfl).trans rfl), trivial⟩ ((hr 0 rfl).trans rfl)) <| Sd (lo [49] [] rfl fun S hs hr => Zt (A := Z2c (rd (Z1 24 Ze) b26.1) (rd Z6 b26.2.1) (rd Z6 b26.2.2.1)) rfl rfl (vh hs 49 rfl rfl)) <| Sd (lo [42] [] rfl fun S hs hr => Z9r rfl rfl (vh hs 42 rfl rfl)) <| Sd (lo [42] [] rfl fun S hs hr => Za7 rfl rfl (vh hs 42 rfl rfl)) <| Sd (lo [42] [] rfl fun S hs hr => Z8d rfl rfl (vh hs 42 rfl rfl)) <| SSt Z0v 12 rfl <| SSt ty4 13 rfl <| SSt ty4 14 rfl <| Sn <| SR <| Ld ty4 13 rfl <| Md rfl <| Gd rfl (fun hq => Z1p rfl rfl ty4 (vt rfl) (i := 14) rfl) <| Gd rfl (fun hq => Z1a rfl rfl (vgt rfl hq)) <| Ac (Z5p rfl rfl (vt rfl) (vt rfl)) rfl <| Nl <| Cq rfl h (fun h => ?_) (fun h => ?_)
     ·refine xt ?_
      obtain rfl := si h
      exact ⟨_, (b26.2.2.2, b26.1, b26.2.1, b26.2.2.1), Turn.refl, rfl, ⟨rfl, rfl, rfl, rfl, rfl, rfl, rfl, rfl, trivial⟩⟩
     ·refine sk ?_
      obtain rfl := si h
      exact ⟨_, (b26.2.2.2, b26.1, b26.2.1, b26.2.2.1), Turn.refl, rfl, ⟨rfl, rfl, rfl, rfl, rfl, rfl, rfl, rfl, trivial⟩⟩
    case he1 =>
     intro D
     cases z22 with
     | go s27 =>
      change _ = some r at h
      refine sq <| AR Zw (by kernel_rfl) <| Zj Z0v 12 rfl <| Zj ty4 13 rfl <| Zj ty4 14 rfl <| SSt Z0v 7 rfl <| SAs rfl <| SAs rfl <| Sn <| rt ?_
      cases h; exact ⟨rfl, 3001, _, rfl, Z92 (i := 0) Tryz.results235 rfl (Zx rfl (i := 7) rfl Z0v) (Zc rfl) (Zc rfl) rfl⟩
     | out c s27 =>
      change (bif Zb2 1 c then _ else _) = some r at h
      cases hc : Zb2 1 c with
      | true =>
       rw [hc] at h
       have hc := Zu3 hc
       subst hc
       change _ = some r at h
       refine xt <| sq <| AR Zw (by kernel_rfl) <| Zj Z0v 12 rfl <| Zj ty4 13 rfl <| Zj ty4 14 rfl <| SSt Z0v 7 rfl <| SAs rfl <| SAs rfl <| Sn <| rt ?_
       cases h; exact ⟨rfl, 3001, _, rfl, Z92 (i := 0) Tryz.results235 rfl (Zx rfl (i := 7) rfl Z0v) (Zc rfl) (Zc rfl) rfl⟩
      | false =>
       rw [hc] at h
       cases h
def Zbg : Nat → (cover_look → Zg → (List Zg) → Option (Z0l × Bool × Bool × cover_look))
 | 0 => (fun _ _ _ => none)
 | n + 1 => (Zgb (Zbg n))
theorem Zox : ∀ n : Nat, (∀ (g2 gT : Nat) (s1 : cover_look) (x3 : Zg) (l4 : (List Zg)) (r : (Z0l × Bool × Bool × cover_look)), (Zbg n) s1 x3 l4 = some r → Con Tryz.prog 235 [Z7 g2 (Lens.id Z14), rd (Z1 24 Z3) x3, rd (Z4 (Z1 24 Z3)) l4] (Zb g2 gT Z14 s1) (fun _ : Unit => Z2c (rd (Z1 24 Ze) r.1) (rd Z6 r.2.1) (rd Z6 r.2.2.1)) (fun _ => Zb g2 gT Z14 r.2.2.2))
 | 0 => (by intros; rename_i h; cases h)
 | n + 1 => by
  have ih := Zox n
  exact (Zx5 (Zbg n) ih)
def Zoy (s1 : cover_look) (x3 : Zg) (l4 : (List Zg)) : Option (Z0l × Bool × Bool × cover_look) := (Zbg Z27) s1 x3 l4
theorem Zqq : ∀ (g2 gT : Nat) (s1 : cover_look) (x3 : Zg) (l4 : (List Zg)) (r : (Z0l × Bool × Bool × cover_look)), Zoy s1 x3 l4 = some r → Con Tryz.prog 235 [Z7 g2 (Lens.id Z14), rd (Z1 24 Z3) x3, rd (Z4 (Z1 24 Z3)) l4] (Zb g2 gT Z14 s1) (fun _ : Unit => Z2c (rd (Z1 24 Ze) r.1) (rd Z6 r.2.1) (rd Z6 r.2.2.1)) (fun _ => Zb g2 gT Z14 r.2.2.2) := Zox Z27
def Zgk (x1 : Zg) (l2 : (List Zg)) (m3 : Int) : Option (Z0l × Bool × Int) :=
 (Zoy (⟨(⟨(Z3i m3 0), (decide (m3 ≥ 1099511627776))⟩ : cover_purse)⟩ : cover_look) x1 l2).bind fun b7 => (bif (!b7.2.2.1) then some ((Vector.replicate 24 Z0e), false, 5) else some (b7.1, b7.2.1, 0))
theorem Zxo : Q3 Tryz.prog 170 (rd (Z1 24 Z3)) (rd (Z4 (Z1 24 Z3))) (rd (Z0 .i64)) (fun r => Z2c (rd (Z1 24 Ze) r.1) (rd Z6 r.2.1) (rd (Z0 .i64) r.2.2)) Zgk := fun x1 l2 m3 r h => I0 Tryz.func170 rfl Tryz.ntmps170 rfl fun w H => by
 unfold Zgk at h
 refine SR <| Cv rfl (Zl 4 rfl rfl (vt rfl)) fun g4 => Cv rfl (Zo 7 rfl rfl Z37) fun g5 => Ab rfl <| Ak rfl <| Nl <| SR <| Md rfl <| Ac (Ze9 rfl rfl (vt rfl) (vk rfl)) rfl <| Md rfl <| Ac (Z3l rfl rfl (vt rfl) (vk rfl)) rfl <| Ac (opb (⟨(Z3i m3 0), (decide (m3 ≥ 1099511627776))⟩ : cover_purse) Zu2 rfl Zss (pc Zt9 (vt rfl) <| pc Zyf (vt rfl) <| pn rfl)) rfl <| Ac (opb (⟨(⟨(Z3i m3 0), (decide (m3 ≥ 1099511627776))⟩ : cover_purse)⟩ : cover_look) Zqk rfl Y1n (pc Ztp (vt rfl) <| pn rfl)) rfl <| Cv rfl (Zl 20 rfl rfl (vt rfl)) fun g6 => Ac (Z00 (A := Z7 g6 (Lens.id Z14)) rfl rfl (vt rfl)) rfl <| Nl <| sq ?_
 obtain ⟨b7, hb7, h⟩ := Z9 h
 refine Rg <| Mp rfl <| Ld Zy 4 rfl <| Md rfl <| Cv rfl (Z0r 20 (xs := [.tmp 21, .tmp 22, .tmp 23]) (Zqq _ _ _ _ _ _ hb7) Zml rfl rfl ⟨vt rfl, vt rfl, vt rfl, trivial⟩ rfl) fun _u => Ac (Zt (A := Z2c (rd (Z1 24 Ze) b7.1) (rd Z6 b7.2.1) (rd Z6 b7.2.2.1)) rfl rfl (vt rfl)) rfl <| Ac (Z9r rfl rfl (vt rfl)) rfl <| Ac (Za7 rfl rfl (vt rfl)) rfl <| Ac (Z8d rfl rfl (vt rfl)) rfl <| Cv rfl (Zo 11 rfl rfl Z37) fun g8 => Zi Z0v 11 rfl <| As rfl <| As rfl <| Nl <| sq <| SR <| Md rfl <| Ac (Z1a rfl rfl (vt rfl)) rfl <| Nl <| Cq rfl h (fun h => ?_) (fun h => ?_)
 ·refine SR <| Ac (Z15 (ps := []) (x := (Vector.replicate 24 Z0e)) rfl rfl rfl (by kernel_rfl) Z37 rfl) rfl <| Zi Z0v 7 rfl <| Ab rfl <| Ak rfl <| Nl <| rt ?_
  cases h; exact Z79 Tryz.results170 rfl (Zx rfl (i := 7) rfl Z0v) (Zc rfl) (Zc rfl)
 ·refine sk <| SR <| Ld Z0v 11 rfl <| Md rfl <| Zi Z0v 7 rfl <| As rfl <| Ak rfl <| Nl <| rt ?_
  cases h; exact Z79 Tryz.results170 rfl (Zx rfl (i := 7) rfl Z0v) (Zc rfl) (Zc rfl)
def Zgh (s : List Rule) : Option (List Rule) := Z1n [] s
theorem Y1s (s : List Rule) (r : List Rule) (h : Zgh s = some r) : Con Tryz.prog 240 [rd (Z4 Z02) s] emp (fun v => Zh v) (fun v => Za v 90 Z02 r) := by
 refine Con.intro0 Tryz.func240 rfl Tryz.ntmps240 rfl fun w H => ?_
 unfold Zgh at h
 refine AW.newnil 1001 90 Z02 <| SR <| Ac (Z00 (A := Zh (.slice none 0 0)) rfl rfl vc) rfl <| Nl <| sq <| SR <| Md rfl <| Ct rfl (Z8q rfl rfl Z2u (vt rfl)) ?_
 rintro _ ⟨b, hb, rfl⟩
 refine Nl <| Cn rfl (fun hc => ?_) (fun hc => ?_)
 ·obtain rfl := hb hc
  refine SR <| Ac (Z00 (A := Zh (.slice none 0 0)) rfl rfl vc) rfl <| Nl <| rt ?_
  obtain rfl := (Z5b h).2
  exact Z38 (i := 1001) Tryz.results240 rfl rfl rfl
 ·refine sk <| SR <| Cv rfl (Z81 1002 (ps := []) (l := []) rfl rfl Z2u Z5h rfl rfl rfl rfl) fun v1 => Md rfl <| Cv rfl (Z2x 1002 h rfl rfl Zgr (vt rfl) rfl (vt rfl)) fun v2 => Aw rfl <| Nl <| rt ?_
  exact Z38 (i := 1002) Tryz.results240 rfl rfl rfl
def Z87 : Nat → Nat → (List Rule) → Option (List Rule)
 | 0, i6, l5 => some l5
 | m7 + 1, i6, l5 => (lget l5 (i6 : Int)).bind fun x8 => (Za3 x8.Atoms).bind fun x9 => (lget l5 (i6 : Int)).bind fun x10 => (Z87 m7) (i6 + 1) (List.set l5 (i6 : Int).toNat { x10 with Atoms := x9 })
def Zg4 (l1 : (List Rule)) : Option (List Rule) :=
 (Zgh l1).bind fun x2 => Z87 ((x2.length : Int) : Int).toNat 0 x2
theorem Zy7 : Q1 Tryz.prog 179 (rd (Z4 Z02)) (rd (Z4 Z02)) Zg4 := fun l1 r h => I0 Tryz.func179 rfl Tryz.ntmps179 rfl fun w H => by
 unfold Zg4 at h
 refine SR <| Ac (Z00 (A := rd (Z4 Z02) []) rfl rfl Z13) rfl <| Nl <| sq ?_
 obtain ⟨x2, hx2, h⟩ := Z9 h
 refine Rg <| Md rfl <| Cv rfl (Z0r 1001 (xs := [.tmp 5]) (Y1s _ _ hx2) Zwo rfl rfl ⟨vt rfl, trivial⟩ rfl) fun v3 => Aw rfl <| Nl <| sq <| SR <| Mw rfl <| Ac (Z3s 1001 rfl rfl Z2u (vt rfl) rfl) rfl <| Mk rfl <| Nl <| bk <| LG (d := []) (ν := Nat × Nat × (List Rule)) (fun (m7, i6, l5) => (Cnt (x2.length : Int) i6 m7 ∧ Z87 m7 i6 l5 = some r, m7, [(3, Zh v3), (8, rd (Z0 .i64) (x2.length : Int)), (9, rd (Z0 .i64) (i6 : Int))], [(1001, Za v3 90 Z02 l5)])) (((x2.length : Int) : Int).toNat, 0, x2) ⟨Cnt.start _, h⟩ (FX rfl) ?_
 rintro ⟨m7, i6, l5⟩ ⟨hsf1, h⟩
 dsimp only at hsf1 h ⊢
 cases m7 with
 | zero =>
  unfold Z87 at h
  refine SR <| Ac (Zn rfl rfl (vt rfl) (vt rfl)) rfl <| Nl <| sq <| Cn rfl (fun hc => absurd (of_decide_eq_true hc) hsf1.zero) (fun hc => ?_)
  refine xt <| SR <| Mw rfl <| Aw rfl <| Nl <| AW.freezes [2, 3, 23] 1001 rfl ⟨rfl, rfl, rfl, trivial⟩ rfl <| rt ?_
  cases h; exact Zm Tryz.results179 rfl (Zc rfl)
 | succ m7 =>
  unfold Z87 at h
  refine SR <| Ac (Zn rfl rfl (vt rfl) (vt rfl)) rfl <| Nl <| sq <| Cn rfl (fun hc => ?_) (fun hc => absurd hsf1.succ (of_decide_eq_false hc))
  have hlti6 := of_decide_eq_true hc
  refine sk <| sq <| bk <| SR <| Md rfl <| As rfl <| Nl ?_
  obtain ⟨x8, hx8, x9, hx9, x10, hx10, h⟩ := bs3 h
  refine Rg <| Mw rfl <| Md rfl <| Mw rfl <| Md rfl <| Ac (Z1u 1001 rfl rfl Z2u (vt rfl) rfl (vt rfl) hx8) rfl <| Ac (Z78 lRule_1 rfl rfl Zi0 (vt rfl)) rfl <| Ac (Z10 1001 rfl rfl Z5w (vt rfl) rfl (Z09 hx8).2) rfl <| Cl [18] (Znu _ _ hx9) Zk9 rfl <| Ac (Z1u 1001 rfl rfl Z2u (vt rfl) rfl (vt rfl) hx10) rfl <| Ac (Z78 lRule_1 rfl rfl Zi0 (vt rfl)) rfl <| Ac (Z2b 1001 rfl rfl Z5w (vt rfl) rfl (Z09 hx10).2 (vt rfl)) rfl <| Nl <| Rg <| Ac (Z12 (t := 8) rfl rfl (vt rfl) (vk rfl) (vt rfl) hlti6) rfl <| Md rfl <| Nl ?_
  exact ⟨(_, _, _), Nat.lt_succ_self _, ⟨hsf1.next, h⟩, FX rfl⟩
def Z7e (m2 : Int) : (List Rule) → Nat → (List Rule) → (List Zg) → Option ((List Rule) × Int)
 | [], i11, l7, l9 => (Zg4 l7).bind fun x13 => some (x13, 0)
 | x14 :: l12, i11, l7, l9 => (Zgk x14.Cube l9 m2).bind fun x16 => (bif (decide (x16.2.2 ≠ 0)) then some ([], x16.2.2) else (bif (!x16.2.1) then (Z7e m2 l12) (i11 + 1) l7 l9 else (Z1n l7 [x14]).bind fun l18 => (Z1n l9 [x14.Cube]).bind fun l20 => (Z7e m2 l12) (i11 + 1) l18 l20))
def Zhe (l1 : (List Rule)) (m2 : Int) : Option ((List Rule) × Int) :=
 Z7e m2 l1 0 [] []
theorem Zyw : Q2 Tryz.prog 111 (rd (Z4 Z02)) (rd (Z0 .i64)) (fun r => Z0w (rd (Z4 Z02) r.1) (rd (Z0 .i64) r.2)) Zhe := fun l1 m2 r h => I0 Tryz.func111 rfl Tryz.ntmps111 rfl fun w H => by
 unfold Zhe at h
 refine SR <| Ac (Z00 (A := rd (Z4 Z02) []) rfl rfl Z13) rfl <| Ak rfl <| Nl <| AW.scope <| sq <| AW.newnil 1001 90 Z02 <| Rg <| Ac (Z00 rfl rfl vc) rfl <| Nl <| sq <| AW.newnil 1002 87 (Z1 24 Z3) <| Rg <| Ac (Z00 rfl rfl vc) rfl <| Nl <| sq <| AW.label <| sq <| SR <| Md rfl <| Ac (Z16 rfl rfl Z2u (vt rfl)) rfl <| Mk rfl <| Nl <| bk <| LG (d := []) (ν := (List Rule) × Nat × (List Rule) × (List Zg) × Value × Value) (fun (l12, i11, l7, l9, v8, v10) => (Sfx l1 i11 l12 ∧ Z7e m2 l12 i11 l7 l9 = some r, l12.length, [(1, rd (Z0 .i64) m2), (6, Zh v8), (7, Zh v10), (13, rd (Z4 Z02) l1), (14, rd (Z0 .i64) (l1.length : Int)), (15, rd (Z0 .i64) (i11 : Int))], [(1001, Za v8 90 Z02 l7), (1002, Za v10 87 (Z1 24 Z3) l9)])) (l1, 0, [], [], (.slice none 0 0), (.slice none 0 0)) ⟨Sfx.start _, h⟩ (FX rfl) ?_
 rintro ⟨l12, i11, l7, l9, v8, v10⟩ ⟨hsf1, h⟩
 dsimp only at hsf1 h ⊢
 cases l12 with
 | nil =>
  unfold Z7e at h
  refine SR <| Ac (Zn rfl rfl (vt rfl) (vt rfl)) rfl <| Nl <| sq <| Cn rfl (fun hc => absurd (of_decide_eq_true hc) hsf1.nil) (fun hc => ?_)
  refine xt <| sq <| AW.freezes [6] 1001 rfl ⟨rfl, trivial⟩ rfl ?_
  obtain ⟨x13, hx13, h⟩ := Z9 h
  refine Rg <| Md rfl <| Cl [45] (Zy7 _ _ hx13) Zyk rfl <| As rfl <| Ak rfl <| Nl <| rt ?_
  cases h; exact Z0y Tryz.results111 rfl (Zc rfl) (Zc rfl)
 | cons x14 l12 =>
  unfold Z7e at h
  refine SR <| Ac (Zn rfl rfl (vt rfl) (vt rfl)) rfl <| Nl <| sq <| Cn rfl (fun hc => ?_) (fun hc => absurd hsf1.cons (of_decide_eq_false hc))
  have hlti11 := of_decide_eq_true hc
  refine sk <| sq <| bk <| SR <| Ac (Z0z rfl rfl Z2u (vt rfl) (vt rfl) hsf1.lget) rfl <| Lp1 Z4x rfl <| Cv rfl (Zo 10 rfl rfl Z5h) fun g15 => Zi Z4x 10 rfl <| Nl <| sq ?_
  obtain ⟨x16, hx16, h⟩ := Z9 h
  refine Rg <| Zk lRule_0 Zb6 rfl <| Ld Zy 10 rfl <| Mw rfl <| Md rfl <| Ac (Zfz (xs := [.tmp 21, .tmp 22, .tmp 23]) 1002 (Zxo _ _ _ _ hx16) Zsl rfl rfl ⟨vB (vt rfl), vL rfl rfl, vB (vt rfl), trivial⟩) rfl <| Ac (Zt (A := Z2c (rd (Z1 24 Ze) x16.1) (rd Z6 x16.2.1) (rd (Z0 .i64) x16.2.2)) rfl rfl (vt rfl)) rfl <| Ac (Z9r rfl rfl (vt rfl)) rfl <| Ac (Za7 rfl rfl (vt rfl)) rfl <| Ac (Z8d rfl rfl (vt rfl)) rfl <| Cv rfl (Zo 11 rfl rfl Z37) fun g17 => Zi Z0v 11 rfl <| As rfl <| As rfl <| Nl <| sq <| bk <| SR <| Md rfl <| Ac (Z3g rfl rfl (vt rfl) (vk rfl)) rfl <| As rfl <| Nl <| Cq rfl h (fun h => ?_) (fun h => ?_)
  ·refine SR <| Md rfl <| Ac (Z00 (A := rd (Z4 Z02) []) rfl rfl Z13) rfl <| As rfl <| Nl <| rt ?_
   cases h; exact Z0y Tryz.results111 rfl (Zc rfl) (Zc rfl)
  ·refine SR <| Md rfl <| Ac (Z1a rfl rfl (vt rfl)) rfl <| As rfl <| Nl <| Cq rfl h (fun h => ?_) (fun h => ?_)
   ·refine xt <| Rg <| Ac (Z12 (t := 14) rfl rfl (vt rfl) (vk rfl) (vt rfl) hlti11) rfl <| Md rfl <| Nl ?_
    exact ⟨(_, _, _, _, _, _), Nat.lt_succ_self _, ⟨hsf1.next, h⟩, FX rfl⟩
   ·refine sk ?_
    obtain ⟨l18, hl18, l20, hl20, h⟩ := bs2 h
    refine AR Zw (by kernel_rfl) <| SMw rfl <| Zj Z4x 10 rfl <| Sd (lo [36] [] rfl fun S hs hr => osl Z2u Z5h rfl (vh hs 36 rfl rfl)) <| Sd (Z1o (us := [(38, Z28 90 Z02 l18)]) (ur := [(1001, emp)]) [35, 37] [1001] rfl fun S hs hr => Z7m 1001 hl18 rfl rfl rfl Zgr (vh hs 35 rfl rfl) ((hr 1001 rfl).trans rfl) (vh hs 37 rfl rfl)) <| SMw rfl <| Zu lRule_0 Zb6 rfl <| Zj Zy 10 rfl <| Sd (lo [41] [] rfl fun S hs hr => osl Z3o Z1k rfl (vh hs 41 rfl rfl)) <| Sd (Z1o (us := [(43, Z28 87 (Z1 24 Z3) l20)]) (ur := [(1002, emp)]) [39, 42] [1002] rfl fun S hs hr => Z7m 1002 hl20 rfl rfl rfl Zoo (vh hs 39 rfl rfl) ((hr 1002 rfl).trans rfl) (vh hs 42 rfl rfl)) <| Sd (Z1o (us := [(38, top), (6, Z28 90 Z02 l18)]) (ur := []) [38] [1003] rfl fun S hs hr => Zlp 1003 rfl rfl rfl rfl ((hs 38 rfl).trans rfl) ((hr 1003 rfl).trans rfl)) <| Sd (Z1o (us := [(43, top), (7, Z28 87 (Z1 24 Z3) l20)]) (ur := []) [43] [1004] rfl fun S hs hr => Zlp 1004 rfl rfl rfl rfl ((hs 43 rfl).trans rfl) ((hr 1004 rfl).trans rfl)) <| Sn <| AW.unpackR 6 1001 rfl rfl fun v19 => AW.unpackR 7 1002 rfl rfl fun v21 => Rg <| Ac (Z12 (t := 14) rfl rfl (vt rfl) (vk rfl) (vt rfl) hlti11) rfl <| Md rfl <| Nl ?_
    exact ⟨(_, _, _, _, _, _), Nat.lt_succ_self _, ⟨hsf1.next, h⟩, FX rfl⟩
def Zbj (x1 : Group) (x2 : Int) : Option Bool :=
 some (decide (x1.ID = x2))
theorem Zs4 : Q2 Tryz.prog 288 (rd Z0b) (rp (Z0 .i64)) (rd Z6) Zbj := fun x1 x2 r h => I0 Tryz.func288 rfl Tryz.ntmps288 rfl fun w H => by
 unfold Zbj at h
 refine SR <| Cv rfl (Zl 3 rfl rfl (vt rfl)) fun g3 => Ab rfl <| Nl <| SR <| Zk Zez Zlo rfl <| Ld Zq 3 rfl <| Lp1 Zq rfl <| Ac (Z1m rfl rfl (vt rfl) (vt rfl)) rfl <| As rfl <| Nl <| rt ?_
 cases h; exact Zm Tryz.results288 rfl (Zc rfl)
def Z96 (s1 : (List Group)) (x2 : (Group → Option Bool)) : Nat → Nat → Option Int
 | 0, i3 => some (-1)
 | m4 + 1, i3 => (lget s1 (i3 : Int)).bind fun x5 => (x2 x5).bind fun x6 => (bif x6 then some (i3 : Int) else (Z96 s1 x2 m4) (i3 + 1))
def Zhk (s1 : (List Group)) (x2 : (Group → Option Bool)) : Option Int :=
 Z96 s1 x2 ((s1.length : Int) : Int).toNat 0
theorem Zvs : Q2 Tryz.prog 162 (rd (Z4 Z0b)) (fn1 Tryz.prog Z0b Z6) (rd (Z0 .i64)) Zhk := fun s1 x2 r h => I0 Tryz.func162 rfl Tryz.ntmps162 rfl fun w H => by
 unfold Zhk at h
 refine SR <| Ak rfl <| Nl <| sq <| SR <| Md rfl <| Ac (Z16 rfl rfl Z3a (vt rfl)) rfl <| Mk rfl <| Nl <| bk <| LG (d := []) (ν := Nat × Nat) (fun (m4, i3) => (Cnt (s1.length : Int) i3 m4 ∧ Z96 s1 x2 m4 i3 = some r, m4, [(0, rd (Z4 Z0b) s1), (1, fn1 Tryz.prog Z0b Z6 x2), (7, rd (Z0 .i64) (s1.length : Int)), (8, rd (Z0 .i64) (i3 : Int))], [])) (((s1.length : Int) : Int).toNat, 0) ⟨Cnt.start _, h⟩ (FX rfl) ?_
 rintro ⟨m4, i3⟩ ⟨hsf1, h⟩
 dsimp only at hsf1 h ⊢
 cases m4 with
 | zero =>
  unfold Z96 at h
  refine SR <| Ac (Zn rfl rfl (vt rfl) (vt rfl)) rfl <| Nl <| sq <| Cn rfl (fun hc => absurd (of_decide_eq_true hc) hsf1.zero) (fun hc => ?_)
  refine xt <| SR <| Ak rfl <| Nl <| rt ?_
  cases h; exact Zm Tryz.results162 rfl (Zc rfl)
 | succ m4 =>
  unfold Z96 at h
  refine SR <| Ac (Zn rfl rfl (vt rfl) (vt rfl)) rfl <| Nl <| sq <| Cn rfl (fun hc => ?_) (fun hc => absurd hsf1.succ (of_decide_eq_false hc))
  have hlti3 := of_decide_eq_true hc
  refine sk <| sq <| bk <| SR <| Md rfl <| As rfl <| Nl <| sq ?_
  obtain ⟨x5, hx5, x6, hx6, h⟩ := bs2 h
  refine Rg <| Ac (Zt (A := fn1 Tryz.prog Z0b Z6 x2) rfl rfl (vt rfl)) rfl <| Md rfl <| Md rfl <| Ac (Z0z rfl rfl Z3a (vt rfl) (vt rfl) hx5) rfl <| Lp1 Z3e rfl <| Ac (Z5r hx6 rfl rfl (vt rfl) (vt rfl)) rfl <| Nl <| Cq rfl h (fun h => ?_) (fun h => ?_)
  ·refine SR <| Md rfl <| As rfl <| Nl <| rt ?_
   cases h; exact Zm Tryz.results162 rfl (Zc rfl)
  ·refine sk <| Rg <| Ac (Z12 (t := 7) rfl rfl (vt rfl) (vk rfl) (vt rfl) hlti3) rfl <| Md rfl <| Nl ?_
   exact ⟨(_, _), Nat.lt_succ_self _, ⟨hsf1.next, h⟩, FX rfl⟩
def Zim (l1 : (List Group)) (i2 : Int) : Option Int :=
 (Zhk l1 (fun x => Zbj x i2)).bind fun x4 => some x4
theorem Y2h : Q2 Tryz.prog 241 (rd (Z4 Z0b)) (rd (Z0 .i64)) (rd (Z0 .i64)) Zim := fun l1 i2 r h => I0 Tryz.func241 rfl Tryz.ntmps241 rfl fun w H => by
 unfold Zim at h
 refine SR <| Cv rfl (Zl 4 rfl rfl (vt rfl)) fun g3 => Ak rfl <| Nl <| sq <| AW.freezeB 3 4 rfl rfl rfl ?_
 obtain ⟨x4, hx4, h⟩ := Z9 h
 refine Rg <| Md rfl <| Ac (Z4k (cs := [.tmp 3]) (CAs := [rp (Z0 .i64) i2]) (fun x => Zbj x i2) rfl rfl Y2t ⟨vt rfl, trivial⟩ (fun x y h => Zs4 _ _ y h)) rfl <| Cl [5, 6] (Zvs _ _ _ hx4) Zrf rfl <| As rfl <| Nl <| rt ?_
 cases h; exact Zm Tryz.results241 rfl (Zc rfl)
def Zgq (s : List Group) : Option (List Group) := Z1n [] s
theorem Zy1 (s : List Group) (r : List Group) (h : Zgq s = some r) : Con Tryz.prog 289 [rd (Z4 Z0b) s] emp (fun v => Zh v) (fun v => Za v 164 Z0b r) := by
 refine Con.intro0 Tryz.func289 rfl Tryz.ntmps289 rfl fun w H => ?_
 unfold Zgq at h
 refine AW.newnil 1001 164 Z0b <| SR <| Ac (Z00 (A := Zh (.slice none 0 0)) rfl rfl vc) rfl <| Nl <| sq <| SR <| Md rfl <| Ct rfl (Z8q rfl rfl Z3a (vt rfl)) ?_
 rintro _ ⟨b, hb, rfl⟩
 refine Nl <| Cn rfl (fun hc => ?_) (fun hc => ?_)
 ·obtain rfl := hb hc
  refine SR <| Ac (Z00 (A := Zh (.slice none 0 0)) rfl rfl vc) rfl <| Nl <| rt ?_
  obtain rfl := (Z5b h).2
  exact Z38 (i := 1001) Tryz.results289 rfl rfl rfl
 ·refine sk <| SR <| Cv rfl (Z81 1002 (ps := []) (l := []) rfl rfl Z3a Z67 rfl rfl rfl rfl) fun v1 => Md rfl <| Cv rfl (Z2x 1002 h rfl rfl Zmo (vt rfl) rfl (vt rfl)) fun v2 => Aw rfl <| Nl <| rt ?_
  exact Z38 (i := 1002) Tryz.results289 rfl rfl rfl
end Go.Proofs.YtknpgojdkobgjaaGreat.W
set_option maxRecDepth 4000
namespace Go.Proofs.YtknpgojdkobgjaaGreat.W
open Go Go.Wb
theorem Zqy : Ent Tryz.prog 328 := Ent.mk Tryz.func328 rfl rfl
theorem Y2u : Ent Tryz.prog 289 := Ent.mk Tryz.func289 rfl rfl
theorem Zul : Ent Tryz.prog 290 := Ent.mk Tryz.func290 rfl rfl
theorem Zqm : Ent Tryz.prog 241 := Ent.mk Tryz.func241 rfl rfl
theorem Y2l : Ent Tryz.prog 242 := Ent.mk Tryz.func242 rfl rfl
theorem Zny : Ent Tryz.prog 180 := Ent.mk Tryz.func180 rfl rfl
theorem e25 : Ent Tryz.prog 25 := Ent.mk Tryz.func25 rfl rfl
theorem Y2e : Ent Tryz.prog 111 := Ent.mk Tryz.func111 rfl rfl
theorem Zry : Ent Tryz.prog 112 := Ent.mk Tryz.func112 rfl rfl
theorem Zmk : Ent Tryz.prog 296 := Ent.mk Tryz.func296 rfl rfl
theorem Zys : Ent Tryz.prog 297 := Ent.mk Tryz.func297 rfl rfl
def Zfj (s : List Bucket) : Option (List Bucket) := Z1n [] s
theorem Y1o (s : List Bucket) (r : List Bucket) (h : Zfj s = some r) : Con Tryz.prog 328 [rd (Z4 Z1w) s] emp (fun v => Zh v) (fun v => Za v 226 Z1w r) := by
 refine Con.intro0 Tryz.func328 rfl Tryz.ntmps328 rfl fun w H => ?_
 unfold Zfj at h
 refine AW.newnil 1001 226 Z1w <| SR <| Ac (Z00 (A := Zh (.slice none 0 0)) rfl rfl vc) rfl <| Nl <| sq <| SR <| Md rfl <| Ct rfl (Z8q rfl rfl Z3x (vt rfl)) ?_
 rintro _ ⟨b, hb, rfl⟩
 refine Nl <| Cn rfl (fun hc => ?_) (fun hc => ?_)
 ·obtain rfl := hb hc
  refine SR <| Ac (Z00 (A := Zh (.slice none 0 0)) rfl rfl vc) rfl <| Nl <| rt ?_
  obtain rfl := (Z5b h).2
  exact Z38 (i := 1001) Tryz.results328 rfl rfl rfl
 ·refine sk <| SR <| Cv rfl (Z81 1002 (ps := []) (l := []) rfl rfl Z3x Y1z rfl rfl rfl rfl) fun v1 => Md rfl <| Cv rfl (Z2x 1002 h rfl rfl Zus (vt rfl) rfl (vt rfl)) fun v2 => Aw rfl <| Nl <| rt ?_
  exact Z38 (i := 1002) Tryz.results328 rfl rfl rfl
def Z8m : Nat → Nat → (List Bucket) → Option (List Bucket)
 | 0, i6, l5 => some l5
 | m7 + 1, i6, l5 => (lget l5 (i6 : Int)).bind fun x8 => (Z6a x8.Acts).bind fun x9 => (lget l5 (i6 : Int)).bind fun x10 => (Z8m m7) (i6 + 1) (List.set l5 (i6 : Int).toNat { x10 with Acts := x9 })
def Zi3 (l1 : (List Bucket)) : Option (List Bucket) :=
 (Zfj l1).bind fun x2 => Z8m ((x2.length : Int) : Int).toNat 0 x2
theorem Zrg : Q1 Tryz.prog 290 (rd (Z4 Z1w)) (rd (Z4 Z1w)) Zi3 := fun l1 r h => I0 Tryz.func290 rfl Tryz.ntmps290 rfl fun w H => by
 unfold Zi3 at h
 refine SR <| Ac (Z00 (A := rd (Z4 Z1w) []) rfl rfl Z13) rfl <| Nl <| sq ?_
 obtain ⟨x2, hx2, h⟩ := Z9 h
 refine Rg <| Md rfl <| Cv rfl (Z0r 1001 (xs := [.tmp 5]) (Y1o _ _ hx2) Zqy rfl rfl ⟨vt rfl, trivial⟩ rfl) fun v3 => Aw rfl <| Nl <| sq <| SR <| Mw rfl <| Ac (Z3s 1001 rfl rfl Z3x (vt rfl) rfl) rfl <| Mk rfl <| Nl <| bk <| LG (d := []) (ν := Nat × Nat × (List Bucket)) (fun (m7, i6, l5) => (Cnt (x2.length : Int) i6 m7 ∧ Z8m m7 i6 l5 = some r, m7, [(3, Zh v3), (8, rd (Z0 .i64) (x2.length : Int)), (9, rd (Z0 .i64) (i6 : Int))], [(1001, Za v3 226 Z1w l5)])) (((x2.length : Int) : Int).toNat, 0, x2) ⟨Cnt.start _, h⟩ (FX rfl) ?_
 rintro ⟨m7, i6, l5⟩ ⟨hsf1, h⟩
 dsimp only at hsf1 h ⊢
 cases m7 with
 | zero =>
  unfold Z8m at h
  refine SR <| Ac (Zn rfl rfl (vt rfl) (vt rfl)) rfl <| Nl <| sq <| Cn rfl (fun hc => absurd (of_decide_eq_true hc) hsf1.zero) (fun hc => ?_)
  refine xt <| SR <| Mw rfl <| Aw rfl <| Nl <| AW.freezes [2, 3, 23] 1001 rfl ⟨rfl, rfl, rfl, trivial⟩ rfl <| rt ?_
  cases h; exact Zm Tryz.results290 rfl (Zc rfl)
 | succ m7 =>
  unfold Z8m at h
  refine SR <| Ac (Zn rfl rfl (vt rfl) (vt rfl)) rfl <| Nl <| sq <| Cn rfl (fun hc => ?_) (fun hc => absurd hsf1.succ (of_decide_eq_false hc))
  have hlti6 := of_decide_eq_true hc
  refine sk <| sq <| bk <| SR <| Md rfl <| As rfl <| Nl ?_
  obtain ⟨x8, hx8, x9, hx9, x10, hx10, h⟩ := bs3 h
  refine Rg <| Mw rfl <| Md rfl <| Mw rfl <| Md rfl <| Ac (Z1u 1001 rfl rfl Z3x (vt rfl) rfl (vt rfl) hx8) rfl <| Ac (Z78 Zbv rfl rfl Zg5 (vt rfl)) rfl <| Ac (Z10 1001 rfl rfl Z43 (vt rfl) rfl (Z09 hx8).2) rfl <| Cl [18] (Zn6 _ _ hx9) Zdd rfl <| Ac (Z1u 1001 rfl rfl Z3x (vt rfl) rfl (vt rfl) hx10) rfl <| Ac (Z78 Zbv rfl rfl Zg5 (vt rfl)) rfl <| Ac (Z2b 1001 rfl rfl Z43 (vt rfl) rfl (Z09 hx10).2 (vt rfl)) rfl <| Nl <| Rg <| Ac (Z12 (t := 8) rfl rfl (vt rfl) (vk rfl) (vt rfl) hlti6) rfl <| Md rfl <| Nl ?_
  exact ⟨(_, _, _), Nat.lt_succ_self _, ⟨hsf1.next, h⟩, FX rfl⟩
def Z8y : Nat → Nat → (List Group) → Option (List Group)
 | 0, i6, l5 => some l5
 | m7 + 1, i6, l5 => (lget l5 (i6 : Int)).bind fun x8 => (Zi3 x8.Buckets).bind fun x9 => (lget l5 (i6 : Int)).bind fun x10 => (Z8y m7) (i6 + 1) (List.set l5 (i6 : Int).toNat { x10 with Buckets := x9 })
def Zh8 (l1 : (List Group)) : Option (List Group) :=
 (Zgq l1).bind fun x2 => Z8y ((x2.length : Int) : Int).toNat 0 x2
theorem Zvy : Q1 Tryz.prog 242 (rd (Z4 Z0b)) (rd (Z4 Z0b)) Zh8 := fun l1 r h => I0 Tryz.func242 rfl Tryz.ntmps242 rfl fun w H => by
 unfold Zh8 at h
 refine SR <| Ac (Z00 (A := rd (Z4 Z0b) []) rfl rfl Z13) rfl <| Nl <| sq ?_
 obtain ⟨x2, hx2, h⟩ := Z9 h
 refine Rg <| Md rfl <| Cv rfl (Z0r 1001 (xs := [.tmp 5]) (Zy1 _ _ hx2) Y2u rfl rfl ⟨vt rfl, trivial⟩ rfl) fun v3 => Aw rfl <| Nl <| sq <| SR <| Mw rfl <| Ac (Z3s 1001 rfl rfl Z3a (vt rfl) rfl) rfl <| Mk rfl <| Nl <| bk <| LG (d := []) (ν := Nat × Nat × (List Group)) (fun (m7, i6, l5) => (Cnt (x2.length : Int) i6 m7 ∧ Z8y m7 i6 l5 = some r, m7, [(3, Zh v3), (8, rd (Z0 .i64) (x2.length : Int)), (9, rd (Z0 .i64) (i6 : Int))], [(1001, Za v3 164 Z0b l5)])) (((x2.length : Int) : Int).toNat, 0, x2) ⟨Cnt.start _, h⟩ (FX rfl) ?_
 rintro ⟨m7, i6, l5⟩ ⟨hsf1, h⟩
 dsimp only at hsf1 h ⊢
 cases m7 with
 | zero =>
  unfold Z8y at h
  refine SR <| Ac (Zn rfl rfl (vt rfl) (vt rfl)) rfl <| Nl <| sq <| Cn rfl (fun hc => absurd (of_decide_eq_true hc) hsf1.zero) (fun hc => ?_)
  refine xt <| SR <| Mw rfl <| Aw rfl <| Nl <| AW.freezes [2, 3, 23] 1001 rfl ⟨rfl, rfl, rfl, trivial⟩ rfl <| rt ?_
  cases h; exact Zm Tryz.results242 rfl (Zc rfl)
 | succ m7 =>
  unfold Z8y at h
  refine SR <| Ac (Zn rfl rfl (vt rfl) (vt rfl)) rfl <| Nl <| sq <| Cn rfl (fun hc => ?_) (fun hc => absurd hsf1.succ (of_decide_eq_false hc))
  have hlti6 := of_decide_eq_true hc
  refine sk <| sq <| bk <| SR <| Md rfl <| As rfl <| Nl ?_
  obtain ⟨x8, hx8, x9, hx9, x10, hx10, h⟩ := bs3 h
  refine Rg <| Mw rfl <| Md rfl <| Mw rfl <| Md rfl <| Ac (Z1u 1001 rfl rfl Z3a (vt rfl) rfl (vt rfl) hx8) rfl <| Ac (Z78 Z53 rfl rfl Z6r (vt rfl)) rfl <| Ac (Z10 1001 rfl rfl Z6h (vt rfl) rfl (Z09 hx8).2) rfl <| Cl [18] (Zrg _ _ hx9) Zul rfl <| Ac (Z1u 1001 rfl rfl Z3a (vt rfl) rfl (vt rfl) hx10) rfl <| Ac (Z78 Z53 rfl rfl Z6r (vt rfl)) rfl <| Ac (Z2b 1001 rfl rfl Z6h (vt rfl) rfl (Z09 hx10).2 (vt rfl)) rfl <| Nl <| Rg <| Ac (Z12 (t := 8) rfl rfl (vt rfl) (vk rfl) (vt rfl) hlti6) rfl <| Md rfl <| Nl ?_
  exact ⟨(_, _, _), Nat.lt_succ_self _, ⟨hsf1.next, h⟩, FX rfl⟩
def Zec (l1 : (List Group)) (i2 : Int) : Option (Group × Bool) :=
 (Zim l1 i2).bind fun x4 => (bif (decide (x4 < 0)) then some ((⟨0, 0, []⟩ : Group), false) else (Zca l1 x4 (IntKind.i64.wrap (x4 + 1))).bind fun s5 => (Zh8 s5).bind fun x6 => (lget x6 0).bind fun x7 => some (x7, true))
theorem Zlu : Q2 Tryz.prog 180 (rd (Z4 Z0b)) (rd (Z0 .i64)) (fun r => Z0w (rd Z0b r.1) (rd Z6 r.2)) Zec := fun l1 i2 r h => I0 Tryz.func180 rfl Tryz.ntmps180 rfl fun w H => by
 unfold Zec at h
 refine SR <| Cv rfl (Zo 5 rfl rfl Z67) fun g3 => Ab rfl <| Nl <| sq ?_
 obtain ⟨x4, hx4, h⟩ := Z9 h
 refine Rg <| Md rfl <| Md rfl <| Cl [7, 8] (Y2h _ _ _ hx4) Zqm rfl <| As rfl <| Nl <| sq <| SR <| Md rfl <| Ac (Zn rfl rfl (vt rfl) (vk rfl)) rfl <| Nl <| Cq rfl h (fun h => ?_) (fun h => ?_)
 ·refine SR <| Ac (opb (⟨0, 0, []⟩ : Group) Z67 rfl Zvi (pn rfl)) rfl <| Zi Z3e 5 rfl <| Ab rfl <| Nl <| rt ?_
  cases h; exact Z0y Tryz.results180 rfl (Zx rfl (i := 5) rfl Z3e) (Zc rfl)
 ·refine sk <| sq ?_
  obtain ⟨s5, hs5, x6, hx6, x7, hx7, h⟩ := bs3 h
  refine Rg <| Md rfl <| Md rfl <| Md rfl <| Ac (Z0d rfl rfl (vt rfl) (vk rfl)) rfl <| Ac (Y24 hs5 rfl rfl Z3a (vt rfl) (vt rfl) (vt rfl)) rfl <| Cl [17] (Zvy _ _ hx6) Y2l rfl <| Ac (Z0z rfl rfl Z3a (vt rfl) (vk rfl) hx7) rfl <| Lp1 Z3e rfl <| Zi Z3e 5 rfl <| Ab rfl <| Nl <| rt ?_
  cases h; exact Z0y Tryz.results180 rfl (Zx rfl (i := 5) rfl Z3e) (Zc rfl)
def Z8z (l1 : (List Group)) : (List Group) → Nat → (List Group) → Option (List Group)
 | [], i6, l4 => some l4
 | x8 :: l7, i6, l4 => (Z66 l1 (i6 : Int)).bind fun s10 => (Zec s10 x8.ID).bind fun x11 => (Z1n l4 [x11.1]).bind fun l13 => (Z8z l1 l7) (i6 + 1) l13
def Zf1 (l1 : (List Group)) : Option (List Group) :=
 Z8z l1 l1 0 []
theorem Zv8 : Q1 Tryz.prog 112 (rd (Z4 Z0b)) (rd (Z4 Z0b)) Zf1 := fun l1 r h => I0 Tryz.func112 rfl Tryz.ntmps112 rfl fun w H => by
 unfold Zf1 at h
 refine SR <| Ac (Z00 (A := rd (Z4 Z0b) []) rfl rfl Z13) rfl <| Nl <| sq <| AW.newnil 1001 164 Z0b <| Rg <| Ac (Z00 rfl rfl vc) rfl <| Nl <| sq <| SR <| Md rfl <| Ac (Z16 rfl rfl Z3a (vt rfl)) rfl <| Mk rfl <| Nl <| bk <| LG (d := []) (ν := (List Group) × Nat × (List Group) × Value) (fun (l7, i6, l4, v5) => (Sfx l1 i6 l7 ∧ Z8z l1 l7 i6 l4 = some r, l7.length, [(0, rd (Z4 Z0b) l1), (3, Zh v5), (8, rd (Z4 Z0b) l1), (9, rd (Z0 .i64) (l1.length : Int)), (10, rd (Z0 .i64) (i6 : Int))], [(1001, Za v5 164 Z0b l4)])) (l1, 0, [], (.slice none 0 0)) ⟨Sfx.start _, h⟩ (FX rfl) ?_
 rintro ⟨l7, i6, l4, v5⟩ ⟨hsf1, h⟩
 dsimp only at hsf1 h ⊢
 cases l7 with
 | nil =>
  unfold Z8z at h
  refine SR <| Ac (Zn rfl rfl (vt rfl) (vt rfl)) rfl <| Nl <| sq <| Cn rfl (fun hc => absurd (of_decide_eq_true hc) hsf1.nil) (fun hc => ?_)
  refine xt <| SR <| Mw rfl <| Aw rfl <| Nl <| AW.freezes [2, 3, 29] 1001 rfl ⟨rfl, rfl, rfl, trivial⟩ rfl <| rt ?_
  cases h; exact Zm Tryz.results112 rfl (Zc rfl)
 | cons x8 l7 =>
  unfold Z8z at h
  refine SR <| Ac (Zn rfl rfl (vt rfl) (vt rfl)) rfl <| Nl <| sq <| Cn rfl (fun hc => ?_) (fun hc => absurd hsf1.cons (of_decide_eq_false hc))
  have hlti6 := of_decide_eq_true hc
  refine sk <| sq <| bk <| SR <| Md rfl <| Ac (Z0z rfl rfl Z3a (vt rfl) (vt rfl) hsf1.lget) rfl <| Lp1 Z3e rfl <| Cv rfl (Zo 6 rfl rfl Z67) fun g9 => As rfl <| Zi Z3e 6 rfl <| Nl <| sq ?_
  obtain ⟨s10, hs10, x11, hx11, h⟩ := bs2 h
  refine AR Zw (by kernel_rfl) <| Zs rfl <| Zs rfl <| Sd (lo [16, 17] [] rfl fun S hs hr => Zna hs10 rfl rfl Z3a (vh hs 16 rfl rfl) (vh hs 17 rfl rfl)) <| Zu Zez Zlo rfl <| Zj Zq 6 rfl <| SCl [18, 20] (Zlu _ _ _ hx11) Zny rfl <| Sd (lo [21] [] rfl fun S hs hr => Zt (A := Z0w (rd Z0b x11.1) (rd Z6 x11.2)) rfl rfl (vh hs 21 rfl rfl)) <| Sd (lo [15] [] rfl fun S hs hr => Z1b rfl rfl (vh hs 15 rfl rfl)) <| Sd (lo [15] [] rfl fun S hs hr => Z1d rfl rfl (vh hs 15 rfl rfl)) <| Sd (Z1o (us := [(6, Z2q 164 Z0b Zcp)]) (ur := []) [] [] rfl fun S hs hr => Z71 rfl rfl rfl Z67) <| Sd (Z1o (us := [(6, Z2q 164 Z0b x11.1)]) (ur := []) [6, 22] [] rfl fun S hs hr => Z7t rfl rfl Z3e ((hs 6 rfl).trans rfl) (vh hs 22 rfl rfl)) <| SAs rfl <| Sn <| AW.unpackP 6 7 rfl rfl fun g12 => ?_
  obtain ⟨l13, hl13, h⟩ := Z9 h
  refine Rg <| Mw rfl <| Ld Z3e 7 rfl <| Ac (osl Z3a Z67 rfl (vt rfl)) rfl <| Cv rfl (Z2x 1001 hl13 rfl rfl Zmo (vt rfl) rfl (vt rfl)) fun v14 => Aw rfl <| Nl <| Rg <| Ac (Z12 (t := 9) rfl rfl (vt rfl) (vk rfl) (vt rfl) hlti6) rfl <| Md rfl <| Nl ?_
  exact ⟨(_, _, _, _), Nat.lt_succ_self _, ⟨hsf1.next, h⟩, FX rfl⟩
def Zhf (s1 : Switch) (m2 : Int) : Option (Flat × Int) :=
 (Zfg s1).bind fun x5 => (Zhe x5 m2).bind fun x6 => (bif (decide (x6.2 ≠ 0)) then some ((⟨[], []⟩ : Flat), x6.2) else (Zf1 s1.Groups).bind fun x7 => some ((⟨x6.1, x7⟩ : Flat), 0))
theorem Zrq : Q2 Tryz.prog 54 (rd Z0s) (rd (Z0 .i64)) (fun r => Z0w (rd Z2y r.1) (rd (Z0 .i64) r.2)) Zhf := fun s1 m2 r h => I0 Tryz.func54 rfl Tryz.ntmps54 rfl fun w H => by
 unfold Zhf at h
 refine SR <| Cv rfl (Zl 3 rfl rfl (vt rfl)) fun g3 => Cv rfl (Zo 5 rfl rfl Zee) fun g4 => Ak rfl <| Nl <| sq ?_
 obtain ⟨x5, hx5, x6, hx6, h⟩ := bs2 h
 refine Rg <| Ld Z46 3 rfl <| Cl [9] (Zr8 _ _ hx5) e25 rfl <| Md rfl <| Cl [10, 11] (Zyw _ _ _ hx6) Y2e rfl <| Mt2 rfl <| Ac (Z1b rfl rfl (vt rfl)) rfl <| Ac (Z1d rfl rfl (vt rfl)) rfl <| As rfl <| As rfl <| Nl <| sq <| SR <| Md rfl <| Ac (Z3g rfl rfl (vt rfl) (vk rfl)) rfl <| Nl <| Cq rfl h (fun h => ?_) (fun h => ?_)
 ·refine SR <| Ac (opb (⟨[], []⟩ : Flat) Zee rfl Zjh (pn rfl)) rfl <| Md rfl <| Zi Z59 5 rfl <| As rfl <| Nl <| rt ?_
  cases h; exact Z0y Tryz.results54 rfl (Zx rfl (i := 5) rfl Z59) (Zc rfl)
 ·refine sk <| sq ?_
  obtain ⟨x7, hx7, h⟩ := Z9 h
  refine Rg <| Md rfl <| Zk Zno Zth rfl <| Ld Zhd 3 rfl <| Cl [21] (Zv8 _ _ hx7) Zry rfl <| Ac (opb (⟨x6.1, x7⟩ : Flat) Zee rfl Zjh (pc Y12 (vt rfl) <| pc Zyn (vt rfl) <| pn rfl)) rfl <| Zi Z59 5 rfl <| Ak rfl <| Nl <| rt ?_
  cases h; exact Z0y Tryz.results54 rfl (Zx rfl (i := 5) rfl Z59) (Zc rfl)
def Zbq (p1 : Z30) : Option (Bool × Z30) :=
 some ((decide ((p1.cubes.length : Int) > p1.most)), (⟨p1.cubes, p1.most⟩ : Z30))
theorem Zmu (g2 gT : Nat) (p1 : Z30) (r : (Bool × Z30)) (h : Zbq p1 = some r) : Con Tryz.prog 296 [Z7 g2 (Lens.id Z11)] (Z0j g2 gT Z11 (fun v => (⟨v, p1.most⟩ : slice_heap_o0)) 87 (Z1 24 Z3) p1.cubes) (fun _ : Unit => rd Z6 r.1) (fun _ => Z0j g2 gT Z11 (fun v => (⟨v, r.2.most⟩ : slice_heap_o0)) 87 (Z1 24 Z3) r.2.cubes) := by
 refine Con.intro Tryz.func296 rfl Tryz.ntmps296 rfl fun w H X => ?_
 unfold Zbq at h
 refine AW.unboxF 0 2000 (by decide) rfl rfl fun v3 => SR <| Ab rfl <| Nl <| sq <| AR Zw (by kernel_rfl) <| SMp rfl <| SNc rfl <| Zu lslice_heap_o0_0 Z74 rfl <| Sd (lo [5] [0] rfl fun S hs hr => Z3k v3 rfl rfl Z7z (vh hs 5 rfl rfl) (i := 0) ((hr 0 rfl).trans rfl) rfl) <| Sd (lo [6] [2000] rfl fun S hs hr => Z3s 2000 rfl rfl Z3o (vh hs 6 rfl rfl) ((hr 2000 rfl).trans rfl)) <| SMp rfl <| SNc rfl <| Zu lslice_heap_o0_1 Zw2 rfl <| Zj Zq 0 rfl <| Sd (lo [7, 11] [] rfl fun S hs hr => Z2w rfl rfl (vh hs 7 rfl rfl) (vh hs 11 rfl rfl)) <| SAs rfl <| Sn <| rt ?_
 cases h; exact RetOK.turn (Turn.packF 0 2000 (fun v => (⟨v, p1.most⟩ : slice_heap_o0)) (by decide) rfl rfl) (Z64 (i := 0) Tryz.results296 rfl (Zc rfl) rfl)
def Zci (l21 : (List Zg)) (b23 : Int) (x25 : Zg) : Option (Lp ((List Zg) × Int)) :=
 (Z1n l21 [x25]).bind fun l28 => (Zbq (⟨l28, b23⟩ : Z30)).bind fun b30 => (bif b30.1 then some (.out .ret (b30.2.cubes, b30.2.most)) else some (.go (b30.2.cubes, b30.2.most)))
def Z9s (x4 : Zg) : (List Zg) → Nat → (List Zg) → Int → Option (Bool × Z30)
 | [], i16, l13, b15 => some (true, (⟨l13, b15⟩ : Z30))
 | x18 :: l17, i16, l13, b15 => (Zdv x18 x4).bind fun x20 => (Itr.run x20 ((List Zg) × Int) (fun s x => Zci s.1 s.2 x) (.go (l13, b15))).bind fun z24 => Zk3 z24 (fun s32 => (Z9s x4 l17) (i16 + 1) s32.1 s32.2) (fun c s32 => bif Ze4 c then some (false, (⟨s32.1, s32.2⟩ : Z30)) else none)
def Zf0 (p1 : Z30) (x4 : Zg) : Option (Bool × Z30) :=
 Z9s x4 p1.cubes 0 [] p1.most
theorem Zyc (g2 gT : Nat) (p1 : Z30) (x4 : Zg) (r : (Bool × Z30)) (h : Zf0 p1 x4 = some r) : Con Tryz.prog 297 [Z7 g2 (Lens.id Z11), rd (Z1 24 Z3) x4] (Z0j g2 gT Z11 (fun v => (⟨v, p1.most⟩ : slice_heap_o0)) 87 (Z1 24 Z3) p1.cubes) (fun _ : Unit => rd Z6 r.1) (fun _ => Z0j g2 gT Z11 (fun v => (⟨v, r.2.most⟩ : slice_heap_o0)) 87 (Z1 24 Z3) r.2.cubes) := by
 refine Con.intro Tryz.func297 rfl Tryz.ntmps297 rfl fun w H X => ?_
 unfold Zf0 at h
 refine AW.unboxF 0 2000 (by decide) rfl rfl fun v3 => SR <| Cv rfl (Zl 3 rfl rfl (vkp (vt rfl))) fun g5 => Cv rfl (Zl 4 rfl rfl (vt rfl)) fun g6 => Cv rfl (Zo 5 rfl rfl zr4) fun g7 => Nl <| SR <| Ac (Z65 (A := Z7 g2 (Lens.id Z11)) rfl rfl rfl (Z97 _) (vt rfl) (i := 3) rfl) rfl <| Nc rfl <| Zk lslice_heap_o0_0 Z74 rfl <| Ac (Z3k v3 rfl rfl Z7z (vt rfl) (i := 0) rfl rfl) rfl <| Aw rfl <| Nl <| SR <| Ac (Z65 (A := Z7 g2 (Lens.id Z11)) rfl rfl rfl (Z97 _) (vt rfl) (i := 3) rfl) rfl <| Nc rfl <| Zk lslice_heap_o0_0 Z74 rfl <| AOps.rename 2000 1001 (by decide) rfl rfl <| AOps.newnil 2000 87 (Z1 24 Z3) <| Ac (Z44 rfl rfl Z7z (vt rfl) (i := 0) rfl (vkr vc rfl)) rfl <| Nl <| sq <| SR <| Mw rfl <| Ac (Z3s 1001 rfl rfl Z3o (vt rfl) rfl) rfl <| Mk rfl <| Nl <| bk <| AW.mark0 2990 rfl <| LGd (ν := (List Zg) × Nat × (List Zg) × Int × (List Nat) × Value) (fun (l17, i16, l13, b15, d12, v14) => (Sfx p1.cubes i16 l17 ∧ Z9s x4 l17 i16 l13 b15 = some r, l17.length, [(2, Z7 g5 (Lens.id (kas (Z7 g2 (Lens.id Z11))))), (3, Z7 g6 (Lens.id (Z1 24 Z3))), (4, Z7 g7 (Lens.id Z6)), (16, Zh v3), (17, rd (Z0 .i64) (p1.cubes.length : Int)), (18, rd (Z0 .i64) (i16 : Int))], [(0, Zb g2 gT Z11 (⟨v14, b15⟩ : slice_heap_o0)), (3, Zb g5 336 (kas (Z7 g2 (Lens.id Z11))) ()), (4, Zb g6 87 (Z1 24 Z3) x4), (5, Zb g7 4 Z6 false), (1001, Za v3 87 (Z1 24 Z3) p1.cubes), (2000, Za v14 87 (Z1 24 Z3) l13), (2990, Z1y d12)])) (fun (_, _, _, _, d12, _) => d12) (p1.cubes, 0, [], p1.most, [], (.slice none 0 0)) ⟨Sfx.start _, h⟩ (FX rfl) ?_
 rintro ⟨l17, i16, l13, b15, d12, v14⟩ ⟨hsf1, h⟩
 dsimp only at hsf1 h ⊢
 cases l17 with
 | nil =>
  unfold Z9s at h
  refine SR <| Ac (Zn rfl rfl (vt rfl) (vt rfl)) rfl <| Nl <| sq <| Cn rfl (fun hc => absurd (of_decide_eq_true hc) hsf1.nil) (fun hc => ?_)
  refine xt <| SR <| Ac (Z44 rfl rfl ty4 (vt rfl) (i := 5) rfl vb) rfl <| Nl <| rt ?_
  cases h; exact (Zg6 2990 _ _ rfl rfl (RetOK.turn (Turn.packF 0 2000 (fun v => (⟨v, b15⟩ : slice_heap_o0)) (by decide) rfl rfl) (Z64 (i := 0) Tryz.results297 rfl (Zx rfl (i := 5) rfl ty4) rfl)))
 | cons x18 l17 =>
  unfold Z9s at h
  refine SR <| Ac (Zn rfl rfl (vt rfl) (vt rfl)) rfl <| Nl <| sq <| Cn rfl (fun hc => ?_) (fun hc => absurd hsf1.cons (of_decide_eq_false hc))
  have hlti16 := of_decide_eq_true hc
  refine sk <| sq <| bk <| SR <| Ac (Z1u 1001 rfl rfl Z3o (vt rfl) rfl (vt rfl) hsf1.lget) rfl <| Ac (Z10 1001 rfl rfl Zy (vt rfl) rfl (Z09 hsf1.lget).2) rfl <| Cv rfl (Zo 8 rfl rfl Z1k) fun g19 => Zi Zy 8 rfl <| Nl <| sq ?_
  obtain ⟨x20, hx20, h⟩ := Z9 h
  refine Rg <| Ld Zy 8 rfl <| Ld Zy 4 rfl <| Cl [22, 23] (Znp _ _ _ hx20) Zlb rfl <| Nl <| bk ?_
  obtain ⟨z24, hz24, h⟩ := Z9 h
  refine AW.packF 0 2000 (fun v => (⟨v, b15⟩ : slice_heap_o0)) (by decide) rfl rfl <| AW.fit (d := d12) (L := [(2, Z7 g5 (Lens.id (kas (Z7 g2 (Lens.id Z11))))), (3, Z7 g6 (Lens.id (Z1 24 Z3))), (4, Z7 g7 (Lens.id Z6)), (16, Zh v3), (17, rd (Z0 .i64) (p1.cubes.length : Int)), (18, rd (Z0 .i64) (i16 : Int)), (24, Z33 Tryz.prog (Z1 24 Z3) x20)]) (M := [(0, Z0j g2 gT Z11 (fun v => (⟨v, b15⟩ : slice_heap_o0)) 87 (Z1 24 Z3) l13), (3, Zb g5 336 (kas (Z7 g2 (Lens.id Z11))) ()), (4, Zb g6 87 (Z1 24 Z3) x4), (5, Zb g7 4 Z6 false), (1001, Za v3 87 (Z1 24 Z3) p1.cubes), (2990, Z1y d12)]) (FX rfl) ?_
  refine AW.rangeFunc (σ := (List Zg) × Int) (fun x => [rd (Z1 24 Z3) x]) (fun s x => Zci s.1 s.2 x) (fun s => Z29 ((fun s => [(0, Z0j g2 gT Z11 (fun v => (⟨v, s.2⟩ : slice_heap_o0)) 87 (Z1 24 Z3) s.1), (3, Zb g5 336 (kas (Z7 g2 (Lens.id Z11))) ()), (4, Zb g6 87 (Z1 24 Z3) x4), (5, Zb g7 4 Z6 false), (1001, Za v3 87 (Z1 24 Z3) p1.cubes), (2990, Z1y d12)]) s)) (fun _ s => Z29 ((fun s => [(0, Z0j g2 gT Z11 (fun v => (⟨v, s.2⟩ : slice_heap_o0)) 87 (Z1 24 Z3) s.1), (3, Zb g5 336 (kas (Z7 g2 (Lens.id Z11))) ()), (4, Zb g6 87 (Z1 24 Z3) x4), (5, Zb g7 4 Z6 false), (1001, Za v3 87 (Z1 24 Z3) p1.cubes), (2990, Z1y d12)]) s)) [(2, Z7 g5 (Lens.id (kas (Z7 g2 (Lens.id Z11))))), (3, Z7 g6 (Lens.id (Z1 24 Z3))), (4, Z7 g7 (Lens.id Z6)), (16, Zh v3), (17, rd (Z0 .i64) (p1.cubes.length : Int)), (18, rd (Z0 .i64) (i16 : Int))] (fun s x25 S1 => ∃ (g26 : Nat), Fit S1 [] [(2, Z7 g5 (Lens.id (kas (Z7 g2 (Lens.id Z11))))), (3, Z7 g6 (Lens.id (Z1 24 Z3))), (4, Z7 g7 (Lens.id Z6)), (8, Z7 g26 (Lens.id (Z1 24 Z3))), (16, Zh v3), (17, rd (Z0 .i64) (p1.cubes.length : Int)), (18, rd (Z0 .i64) (i16 : Int))] [(0, Z0j g2 gT Z11 (fun v => (⟨v, s.2⟩ : slice_heap_o0)) 87 (Z1 24 Z3) s.1), (3, Zb g5 336 (kas (Z7 g2 (Lens.id Z11))) ()), (4, Zb g6 87 (Z1 24 Z3) x4), (5, Zb g7 4 Z6 false), (1001, Za v3 87 (Z1 24 Z3) p1.cubes), (2990, Z1y d12), (9, Zb g26 87 (Z1 24 Z3) x25)]) 3002 (s0 := (l13, b15)) (sE := z24) rfl (vt rfl) ⟨rfl, inferInstance, rfl, inferInstance, rfl, inferInstance, rfl, inferInstance, rfl, inferInstance, rfl, inferInstance, trivial⟩ rfl (fun _ => rfl) (by intro p hp; have hp : p ∈ [25] := hp; rw [List.mem_singleton.1 hp]; show 25 < 39; decide) ?ha2 ?hb2 (fun Lf => ⟨top, _, _, Lf, _, _, hz24, rfl, rfl, rfl, rfl⟩) ?he2
  case ha2 =>
   rintro ⟨l21, b23⟩ x25 r hF l w H X
   refine Rg <| Cv rfl (Zo 9 rfl rfl Z1k) fun g26 => Zi Zy 9 rfl <| Nl ?_
   exact ⟨rfl, g26, FX rfl⟩
  case hb2 =>
   rintro ⟨l21, b23⟩ x25 r h S1 ⟨g26, hfit⟩ l w H X
   refine AW.fit (d := []) (L := [(2, Z7 g5 (Lens.id (kas (Z7 g2 (Lens.id Z11))))), (3, Z7 g6 (Lens.id (Z1 24 Z3))), (4, Z7 g7 (Lens.id Z6)), (8, Z7 g26 (Lens.id (Z1 24 Z3))), (16, Zh v3), (17, rd (Z0 .i64) (p1.cubes.length : Int)), (18, rd (Z0 .i64) (i16 : Int))]) (M := [(0, Z0j g2 gT Z11 (fun v => (⟨v, b23⟩ : slice_heap_o0)) 87 (Z1 24 Z3) l21), (3, Zb g5 336 (kas (Z7 g2 (Lens.id Z11))) ()), (4, Zb g6 87 (Z1 24 Z3) x4), (5, Zb g7 4 Z6 false), (1001, Za v3 87 (Z1 24 Z3) p1.cubes), (2990, Z1y d12), (9, Zb g26 87 (Z1 24 Z3) x25)]) hfit <| AW.bodyT ?_
   change Zci l21 b23 x25 = some r at h
   unfold Zci at h
   refine AW.unboxF 0 2000 (by decide) rfl rfl fun v27 => bk <| sq ?_
   obtain ⟨l28, hl28, h⟩ := Z9 h
   refine AR Zw (by kernel_rfl) <| Sd (lo [2] [3] rfl fun S hs hr => Z65 (A := Z7 g2 (Lens.id Z11)) rfl rfl rfl (Z97 _) (vh hs 2 rfl rfl) (i := 3) ((hr 3 rfl).trans rfl)) <| Sd (lo [2] [3] rfl fun S hs hr => Z65 (A := Z7 g2 (Lens.id Z11)) rfl rfl rfl (Z97 _) (vh hs 2 rfl rfl) (i := 3) ((hr 3 rfl).trans rfl)) <| SNc rfl <| Zu lslice_heap_o0_0 Z74 rfl <| Sd (lo [29] [0] rfl fun S hs hr => Z3k v27 rfl rfl Z7z (vh hs 29 rfl rfl) (i := 0) ((hr 0 rfl).trans rfl) rfl) <| Zj Zy 9 rfl <| Sd (lo [31] [] rfl fun S hs hr => osl Z3o Z1k rfl (vh hs 31 rfl rfl)) <| Sd (Z1o (us := [(33, Z28 87 (Z1 24 Z3) l28)]) (ur := [(2000, emp)]) [30, 32] [2000] rfl fun S hs hr => Z7m 2000 hl28 rfl rfl rfl Zoo (vh hs 30 rfl rfl) ((hr 2000 rfl).trans rfl) (vh hs 32 rfl rfl)) <| SNc rfl <| Zu lslice_heap_o0_0 Z74 rfl <| Sd (Z1o (us := [(33, top)]) (ur := [(0, Z0j g2 gT Z11 (fun v => ((Lens.comp (Lens.id Z11) lslice_heap_o0_0)).set (⟨v27, b23⟩ : slice_heap_o0) v) 87 (Z1 24 Z3) l28)]) [35, 33] [0] rfl fun S hs hr => Zbr rfl rfl Z7z (vh hs 35 rfl rfl) ((hr 0 rfl).trans rfl) ((hs 33 rfl).trans rfl)) <| Sn <| AW.unboxF 0 2000 (by decide) rfl rfl fun v29 => sq ?_
   obtain ⟨b30, hb30, h⟩ := Z9 h
   refine Rg <| Ac (Z65 (A := Z7 g2 (Lens.id Z11)) rfl rfl rfl (Z97 _) (vt rfl) (i := 3) rfl) rfl <| AOps.packF 0 2000 (fun v => (⟨v, b23⟩ : slice_heap_o0)) (by decide) rfl rfl <| Cv rfl (Z0r 0 (xs := [.tmp 36]) (Zmu _ _ _ _ hb30) Zmk rfl rfl ⟨vt rfl, trivial⟩ rfl) fun _u => AOps.unboxF 0 2000 (by decide) rfl rfl fun v31 => Nl <| Cq rfl h (fun h => ?_) (fun h => ?_)
   ·refine SR <| Ac (Z44 rfl rfl ty4 (vt rfl) (i := 5) rfl vb) rfl <| Nl <| rt ?_
    obtain rfl := si h
    exact ⟨_, (b30.2.cubes, b30.2.most), (Turn.packF 0 2000 (fun v => (⟨v, b30.2.most⟩ : slice_heap_o0)) (by decide) rfl rfl), rfl, ⟨rfl, rfl, rfl, rfl, rfl, rfl, trivial⟩⟩
   ·refine sk ?_
    obtain rfl := si h
    exact ⟨_, (b30.2.cubes, b30.2.most), (Turn.packF 0 2000 (fun v => (⟨v, b30.2.most⟩ : slice_heap_o0)) (by decide) rfl rfl), rfl, ⟨rfl, rfl, rfl, rfl, rfl, rfl, trivial⟩⟩
  case he2 =>
   intro D
   cases z24 with
   | go s32 =>
    change _ = some r at h
    refine AW.marks 3002 2990 (by decide) rfl rfl <| AW.unboxF 0 2000 (by decide) rfl rfl fun v33 => Rg <| Ac (Z12 (t := 17) rfl rfl (vt rfl) (vk rfl) (vt rfl) hlti16) rfl <| Md rfl <| Nl ?_
    exact ⟨(_, _, _, _, _, _), Nat.lt_succ_self _, ⟨hsf1.next, h⟩, FX rfl⟩
   | out c s32 =>
    change (bif Ze4 c then _ else _) = some r at h
    cases hc : Ze4 c with
    | true =>
     rw [hc] at h
     have hc := Zv2 hc
     subst hc
     change _ = some r at h
     refine AW.marks 3002 2990 (by decide) rfl rfl <| AW.unboxF 0 2000 (by decide) rfl rfl fun v34 => rt ?_
     cases h; exact (Zg6 2990 _ _ rfl rfl (RetOK.turn (Turn.packF 0 2000 (fun v => (⟨v, s32.2⟩ : slice_heap_o0)) (by decide) rfl rfl) (Z64 (i := 0) Tryz.results297 rfl (Zx rfl (i := 5) rfl ty4) rfl)))
    | false =>
     rw [hc] at h
     cases h
def Zaf : (List Rule) → Nat → (List Zg) → Int → Option ((List Zg) × Int)
 | [], i18, l15, b17 => some (l15, 0)
 | x20 :: l19, i18, l15, b17 => (Zf0 (⟨l15, b17⟩ : Z30) x20.Cube).bind fun b22 => (bif (!b22.1) then some ([], 5) else (Zaf l19) (i18 + 1) b22.2.cubes b22.2.most)
def Zfo (x1 : Flat) (i2 : Int) (m3 : Int) : Option ((List Zg) × Int) :=
 (bif ((decide (i2 < 0)) || (decide (i2 ≥ (x1.Rules.length : Int)))) then some ([], 6) else (lget x1.Rules i2).bind fun x5 => (Z85 x5.Cube).bind fun x6 => (Zbq (⟨[x6], m3⟩ : Z30)).bind fun b9 => (bif b9.1 then some ([], 5) else (Z5m x1.Rules i2).bind fun s11 => Zaf s11 0 b9.2.cubes b9.2.most))
theorem Y0z : Q3 Tryz.prog 252 (rd Z2y) (rd (Z0 .i64)) (rd (Z0 .i64)) (fun r => Z0w (rd (Z4 (Z1 24 Z3)) r.1) (rd (Z0 .i64) r.2)) Zfo := fun x1 i2 m3 r h => I0 Tryz.func252 rfl Tryz.ntmps252 rfl fun w H => by
 unfold Zfo at h
 refine SR <| Cv rfl (Zl 4 rfl rfl (vt rfl)) fun g4 => Ac (Z00 (A := rd (Z4 (Z1 24 Z3)) []) rfl rfl Z13) rfl <| Ak rfl <| Nl <| sq <| SR <| Md rfl <| Ac (Zn rfl rfl (vt rfl) (vk rfl)) rfl <| Md rfl <| Gd rfl (fun hq => Zt (A := rd (Z0 .i64) i2) rfl rfl (vt rfl)) <| Gd rfl (fun hq => Z2n lFlat_0 rfl rfl Z9z (vt rfl)) <| Gd rfl (fun hq => Z1p rfl rfl Za0 (vgt rfl hq) (i := 4) rfl) <| Gd rfl (fun hq => Z16 rfl rfl Z2u (vgt rfl hq)) <| Gd rfl (fun hq => Z3l rfl rfl (vgt rfl hq) (vgt rfl hq)) <| Ac (Z5p rfl rfl (vt rfl) (vt rfl)) rfl <| Nl <| Cq rfl h (fun h => ?_) (fun h => ?_)
 ·refine SR <| Ac (Z00 (A := rd (Z4 (Z1 24 Z3)) []) rfl rfl Z13) rfl <| Ak rfl <| Nl <| rt ?_
  cases h; exact Z0y Tryz.results252 rfl (Zc rfl) (Zc rfl)
 ·refine sk <| sq ?_
  obtain ⟨x5, hx5, x6, hx6, h⟩ := bs2 h
  refine Rg <| Zk lFlat_0 Z9z rfl <| Ld Za0 4 rfl <| Md rfl <| Ac (Z0z rfl rfl Z2u (vt rfl) (vt rfl) hx5) rfl <| Fp lRule_0 Zb6 rfl <| Lp1 Zy rfl <| Cl [25] (Zbf _ _ hx6) Zeh rfl <| Cv rfl (Z81 1001 (ps := [(0, .tmp 26)]) (l := [x6]) rfl rfl Z3o Z1k rfl rfl ⟨_, _, Lens.idx 1 (Z1 24 Z3) 0 (by decide), _, rfl, (vt rfl), rfl⟩ rfl) fun v7 => Md rfl <| Ac (opb (⟨v7, m3⟩ : slice_heap_o0) Zzh rfl Zwi (pc Zz4 (Zp1 (i := 1001) rfl rfl) <| pc Zy6 (vt rfl) <| pn rfl)) rfl <| AOps.rename 1001 2620 (by decide) rfl rfl <| Cv rfl (Zl 31 rfl rfl (vt rfl)) fun g8 => Ac (Z00 (A := Z7 g8 (Lens.id Z11)) rfl rfl (vt rfl)) rfl <| Nl <| sq <| sq ?_
  obtain ⟨b9, hb9, h⟩ := Z9 h
  refine Rg <| Mp rfl <| AOps.packF 31 2620 (fun v => (⟨v, m3⟩ : slice_heap_o0)) (by decide) rfl rfl <| Cv rfl (Z0r 31 (xs := [.tmp 31]) (Zmu _ _ _ _ hb9) Zmk rfl rfl ⟨vt rfl, trivial⟩ rfl) fun _u => AOps.unboxF 31 2620 (by decide) rfl rfl fun v10 => Nl <| Cq rfl h (fun h => ?_) (fun h => ?_)
  ·refine SR <| Ac (Z00 (A := rd (Z4 (Z1 24 Z3)) []) rfl rfl Z13) rfl <| Ak rfl <| Nl <| rt ?_
   cases h; exact Z0y Tryz.results252 rfl (Zc rfl) (Zc rfl)
  ·refine sk <| sq <| sq ?_
   obtain ⟨s11, hs11, h⟩ := Z9 h
   refine Rg <| Zk lFlat_0 Z9z rfl <| Ld Za0 4 rfl <| Md rfl <| Ac (Zqh hs11 rfl rfl Z2u (vt rfl) (vt rfl)) rfl <| Ac (Z16 rfl rfl Z2u (vt rfl)) rfl <| Mk rfl <| Nl <| bk <| LG (d := []) (ν := (List Rule) × Nat × (List Zg) × Int × Value) (fun (l19, i18, l15, b17, v16) => (Sfx s11 i18 l19 ∧ Zaf l19 i18 l15 b17 = some r, l19.length, [(8, Z7 g8 (Lens.id Z11)), (36, rd (Z4 Z02) s11), (37, rd (Z0 .i64) (s11.length : Int)), (38, rd (Z0 .i64) (i18 : Int))], [(31, Zb g8 338 Z11 (⟨v16, b17⟩ : slice_heap_o0)), (2620, Za v16 87 (Z1 24 Z3) l15)])) (s11, 0, b9.2.cubes, b9.2.most, v10) ⟨Sfx.start _, h⟩ (FX rfl) ?_
   rintro ⟨l19, i18, l15, b17, v16⟩ ⟨hsf1, h⟩
   dsimp only at hsf1 h ⊢
   cases l19 with
   | nil =>
    unfold Zaf at h
    refine SR <| Ac (Zn rfl rfl (vt rfl) (vt rfl)) rfl <| Nl <| sq <| Cn rfl (fun hc => absurd (of_decide_eq_true hc) hsf1.nil) (fun hc => ?_)
    refine xt <| SR <| Mp rfl <| Nc rfl <| Zk lslice_heap_o0_0 Z74 rfl <| Ac (Z3k v16 rfl rfl Z7z (vt rfl) (i := 31) rfl rfl) rfl <| Aw rfl <| Ak rfl <| Nl <| AW.freezes [6, 51] 2620 rfl ⟨rfl, rfl, trivial⟩ rfl <| rt ?_
    cases h; exact Z0y Tryz.results252 rfl (Zc rfl) (Zc rfl)
   | cons x20 l19 =>
    unfold Zaf at h
    refine SR <| Ac (Zn rfl rfl (vt rfl) (vt rfl)) rfl <| Nl <| sq <| Cn rfl (fun hc => ?_) (fun hc => absurd hsf1.cons (of_decide_eq_false hc))
    have hlti18 := of_decide_eq_true hc
    refine sk <| sq <| bk <| SR <| Ac (Z0z rfl rfl Z2u (vt rfl) (vt rfl) hsf1.lget) rfl <| Lp1 Z4x rfl <| Cv rfl (Zo 11 rfl rfl Z5h) fun g21 => Zi Z4x 11 rfl <| Nl <| sq ?_
    obtain ⟨b22, hb22, h⟩ := Z9 h
    refine Rg <| Mp rfl <| Zk lRule_0 Zb6 rfl <| Ld Zy 11 rfl <| AOps.packF 31 2620 (fun v => (⟨v, b17⟩ : slice_heap_o0)) (by decide) rfl rfl <| Cv rfl (Z0r 31 (xs := [.tmp 42, .tmp 44]) (Zyc _ _ _ _ _ hb22) Zys rfl rfl ⟨vt rfl, vt rfl, trivial⟩ rfl) fun _u => AOps.unboxF 31 2620 (by decide) rfl rfl fun v23 => Ac (Z1a rfl rfl (vt rfl)) rfl <| Nl <| Cq rfl h (fun h => ?_) (fun h => ?_)
    ·refine SR <| Ac (Z00 (A := rd (Z4 (Z1 24 Z3)) []) rfl rfl Z13) rfl <| Ak rfl <| Nl <| rt ?_
     cases h; exact Z0y Tryz.results252 rfl (Zc rfl) (Zc rfl)
    ·refine sk <| Rg <| Ac (Z12 (t := 37) rfl rfl (vt rfl) (vk rfl) (vt rfl) hlti18) rfl <| Md rfl <| Nl ?_
     exact ⟨(_, _, _, _, _), Nat.lt_succ_self _, ⟨hsf1.next, h⟩, FX rfl⟩
end Go.Proofs.YtknpgojdkobgjaaGreat.W
