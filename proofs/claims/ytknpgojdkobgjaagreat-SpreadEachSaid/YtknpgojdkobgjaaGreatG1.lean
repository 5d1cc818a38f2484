/- A part of the proof. -/
import Derived.Test.YtknpgojdkobgjaaGreatG0
set_option linter.unusedVariables false
set_option maxRecDepth 4000
set_option linter.unusedSimpArgs false
namespace Go.Proofs.YtknpgojdkobgjaaGreat.W
open Go Go.Wb
theorem Yn7 : Ent Tryz.prog 332 := Ent.mk Tryz.func332 rfl rfl
theorem Y4y : Ent Tryz.prog 287 := Ent.mk Tryz.func287 rfl rfl
theorem Y16 : Ent Tryz.prog 298 := Ent.mk Tryz.func298 rfl rfl
theorem Yiz : Ent Tryz.prog 304 := Ent.mk Tryz.func304 rfl rfl
theorem Y89 : Ent Tryz.prog 303 := Ent.mk Tryz.func303 rfl rfl
theorem Zul : Ent Tryz.prog 265 := Ent.mk Tryz.func265 rfl rfl
theorem Znl : Ent Tryz.prog 221 := Ent.mk Tryz.func221 rfl rfl
def Zf5 (i1 : Int) (x2 : Zk) (x3 : Zk) : Option Tern :=
 (chk 24 i1).bind fun j5 => (chk 24 i1).bind fun j6 => (Zjn (Vector.get x2 j5) (Vector.get x3 j6)).bind fun x7 => some x7
theorem Ykv : Q3 Tryz.prog 332 (rd (Z0 .i64)) (rp (Z3 24 Z4)) (rp (Z3 24 Z4)) (rd Z4) Zf5 := fun i1 x2 x3 r h => I0 Tryz.func332 rfl Tryz.ntmps332 rfl fun w H => by
 unfold Zf5 at h
 refine SR <| Cv rfl (Zp 5 rfl rfl Z2b) fun g4 => Nl <| sq ?_
 obtain ⟨j5, hj5, j6, hj6, x7, hx7, h⟩ := bs3 h
 refine AR Zw (by kernel_rfl) <| SMd rfl <| Sd (lo [1, 5] [] rfl fun S hs hr => Z7l rfl rfl Za4 (vh hs 1 rfl rfl) (vh hs 5 rfl rfl) hj5) <| SLp Z03 rfl <| SMd rfl <| Sd (lo [2, 8] [] rfl fun S hs hr => Z7l rfl rfl Za4 (vh hs 2 rfl rfl) (vh hs 8 rfl rfl) hj6) <| SLp Z03 rfl <| SCl [7, 10] (Y5j _ _ _ hx7) Y10 rfl <| SSt Z03 5 rfl <| Sn <| rt ?_
 cases h; exact Zg Tryz.results332 rfl (Z01 rfl (i := 5) rfl Z03)
def Zhk (a1 : Zk) (b2 : Zk) : Option Zk :=
 (Zhr (fun x => Zf5 x a1 b2)).bind fun x6 => some x6
theorem Y5h : Q2 Tryz.prog 298 (rd (Z3 24 Z4)) (rd (Z3 24 Z4)) (rd (Z3 24 Z4)) Zhk := fun a1 b2 r h => I0 Tryz.func298 rfl Tryz.ntmps298 rfl fun w H => by
 unfold Zhk at h
 refine SR <| Cv rfl (Zm 3 rfl rfl (vt rfl)) fun g3 => Cv rfl (Zm 4 rfl rfl (vt rfl)) fun g4 => Cv rfl (Zp 5 rfl rfl Z77) fun g5 => Nl <| sq <| AW.freezeB 2 3 rfl rfl rfl <| AW.freezeB 3 4 rfl rfl rfl ?_
 obtain ⟨x6, hx6, h⟩ := Z8 h
 refine Rg <| Ac (Z7v (cs := [.tmp 2, .tmp 3]) (CAs := [rp (Z3 24 Z4) a1, rp (Z3 24 Z4) b2]) (fun x => Zf5 x a1 b2) rfl rfl Yn7 ⟨vt rfl, vt rfl, trivial⟩ (fun x y h => Ykv _ _ _ y h)) rfl <| Cl [5] (Zye _ _ hx6) Y0d rfl <| Zh Z0f 5 rfl <| Nl <| rt ?_
 cases h; exact Zg Tryz.results298 rfl (Z01 rfl (i := 5) rfl Z0f)
def Zdc (t1 : Z68) (b7 : Atom) : Option Z68 :=
 (Z1a t1.atoms [b7]).bind fun l8 => some (⟨t1.got, l8⟩ : Z68)
def Zdf (t1 : Z68) (a4 : Action) : Option Z68 :=
 (bif (decide (a4.Kind = 0)) then (bif (decide (a4.Port = 4294967293)) then Zdc t1 { { (⟨t1.got, false, 0, 0⟩ : Atom) with Port := a4.Port } with Max := a4.Max } else Zdc t1 { (⟨t1.got, false, 0, 0⟩ : Atom) with Port := a4.Port }) else (bif (decide (a4.Kind = 22)) then Zdc t1 { { (⟨t1.got, false, 0, 0⟩ : Atom) with Group := true } with Port := a4.Group } else (Zht a4).bind fun x10 => (Zhk t1.got x10).bind fun x11 => some (⟨x11, t1.atoms⟩ : Z68)))
theorem Ycy (g2 gT : Nat) (t1 : Z68) (a4 : Action) (r : Z68) (h : Zdf t1 a4 = some r) : Con Tryz.prog 304 [Z7 g2 (Lens.id Z5t), rd Z9 a4] (Zx g2 gT Z5t (fun v => (⟨t1.got, v⟩ : atom_trace_o1)) 126 Z0a t1.atoms) (fun _ : Unit => top) (fun _ => Zx g2 gT Z5t (fun v => (⟨r.got, v⟩ : atom_trace_o1)) 126 Z0a r.atoms) := by
 refine Con.intro Tryz.func304 rfl Tryz.ntmps304 rfl fun w H X => ?_
 unfold Zdf at h
 refine AW.unboxF 0 2001 (by decide) rfl rfl fun v3 => SR <| Cv rfl (Zm 4 rfl rfl (vt rfl)) fun g5 => Nl <| SR <| Mp rfl <| Nc rfl <| Zf latom_trace_o1_0 Zoy rfl <| Ld Z0f 0 rfl <| Ac (opb (⟨t1.got, false, 0, 0⟩ : Atom) Zd6 rfl Y8y (pc Yfo (vt rfl) <| pn rfl)) rfl <| Cv rfl (Zp 5 rfl rfl Zd6) fun g6 => Zh Zd2 5 rfl <| Nl ?_
 refine JN (d := []) (ν := Atom) (fun b7 => (Zdc t1 b7 = some r, [(0, Z7 g2 (Lens.id Z5t)), (4, Z7 g6 (Lens.id Z0a))], [(0, Zc g2 gT Z5t (⟨t1.got, v3⟩ : atom_trace_o1)), (5, Zc g6 126 Z0a b7), (2001, Zb v3 126 Z0a t1.atoms)])) ?hx1 ?hy1
 case hy1 =>
  intro b7 h
  dsimp only at h ⊢
  unfold Zdc at h
  obtain ⟨l8, hl8, h⟩ := Z8 h
  refine AW.endT <| AR Zw (by kernel_rfl) <| SMp rfl <| SMp rfl <| SNc rfl <| Zv Zj9 Zq2 rfl <| Sd (lo [42] [0] rfl fun S hs hr => Z3m v3 rfl rfl Zsp (vh hs 42 rfl rfl) (i := 0) ((hr 0 rfl).trans rfl) rfl) <| Zl Zd2 5 rfl <| Sd (lo [44] [] rfl fun S hs hr => osl Z7n Zd6 rfl (vh hs 44 rfl rfl)) <| Sd (Z1o (us := [(46, Z2n 126 Z0a l8)]) (ur := [(2001, emp)]) [43, 45] [2001] rfl fun S hs hr => Z8p 2001 hl8 rfl rfl rfl Zgw (vh hs 43 rfl rfl) ((hr 2001 rfl).trans rfl) (vh hs 45 rfl rfl)) <| SNc rfl <| Zv Zj9 Zq2 rfl <| Sd (Z1o (us := [(46, top)]) (ur := [(0, Zx g2 gT Z5t (fun v => ((Lens.comp (Lens.id Z5t) Zj9)).set (⟨t1.got, v3⟩ : atom_trace_o1) v) 126 Z0a l8)]) [48, 46] [0] rfl fun S hs hr => Zbm rfl rfl Zsp (vh hs 48 rfl rfl) ((hr 0 rfl).trans rfl) ((hs 46 rfl).trans rfl)) <| Sn <| EndT.unboxF 0 2001 (by decide) rfl rfl fun v9 => EndT.done ?_
  cases h; exact RetOK.turn (Turn.packF 0 2001 (fun v => (⟨t1.got, v⟩ : atom_trace_o1)) (by decide) rfl rfl) (Z1j (i := 0) Tryz.results304 rfl rfl)
 case hx1 =>
  refine SR <| Zf lAction_0 Z8w rfl <| Ld Zo 4 rfl <| Nl <| bk <| SR <| Ac (Z21 rfl rfl (vt rfl) (vk rfl)) rfl <| As rfl <| Nl <| Cq rfl h (fun h => ?_) (fun h => ?_)
  ·refine SR <| Zf lAction_1 Zon rfl <| Ld Zo 4 rfl <| Zf Zfh Zjt rfl <| Zh Zo 5 rfl <| Nl <| SR <| Zf lAction_1 Zon rfl <| Ld Zo 4 rfl <| Ac (Z21 rfl rfl (vt rfl) (vk rfl)) rfl <| Nl <| Cq rfl h (fun h => ?_) (fun h => ?_)
   ·refine Rg <| Zf Zt4 Y3h rfl <| Ld Zo 4 rfl <| Zf Zsv Y1q rfl <| Zh Zo 5 rfl <| Nl ?_
    exact ⟨_, h, FX rfl⟩
   ·refine sk ?_
    exact ⟨_, h, FX rfl⟩
  ·refine SR <| Ac (Z21 rfl rfl (vt rfl) (vk rfl)) rfl <| As rfl <| Nl <| Cq rfl h (fun h => ?_) (fun h => ?_)
   ·refine AR Zw (by kernel_rfl) <| Zv Zn8 Zsx rfl <| Zl Zo 4 rfl <| Zv Zua Zwg rfl <| Sd (Z47 [37] [5] rfl fun S hs hr => Z4y rfl rfl ty4 (vh hs 37 rfl rfl) (i := 5) ((hr 5 rfl).trans rfl) vb) <| Zv Zfh Zjt rfl <| SSt Zo 5 rfl <| Sn ?_
    exact ⟨_, h, FX rfl⟩
   ·refine sq ?_
    obtain ⟨x10, hx10, x11, hx11, h⟩ := bs2 h
    refine AR Zw (by kernel_rfl) <| SMp rfl <| SMp rfl <| SNc rfl <| Zv latom_trace_o1_0 Zoy rfl <| Zl Z0f 0 rfl <| Zl Z11 4 rfl <| SCl [17] (Zwb _ _ hx10) Y4y rfl <| SCl [16, 18] (Y5h _ _ _ hx11) Y16 rfl <| SNc rfl <| Zv latom_trace_o1_0 Zoy rfl <| SSt Z0f 0 rfl <| Sn <| rt ?_
    cases h; exact RetOK.turn (Turn.packF 0 2001 (fun v => (⟨x11, v⟩ : atom_trace_o1)) (by decide) rfl rfl) (Z1j (i := 0) Tryz.results304 rfl rfl)
def Zc0 (sg : Type) (d2 : (sg → Action → Option sg)) : (List Action) → Nat → sg → Option sg
 | [], i6, s5 => some s5
 | x8 :: l7, i6, s5 => (d2 s5 x8).bind fun s10 => (Zc0 sg d2 l7) (i6 + 1) s10
def Zo6 (l1 : (List Action)) (sg : Type) (d2 : (sg → Action → Option sg)) (s3 : sg) : Option sg :=
 Zc0 sg d2 l1 0 s3
theorem Ylr (l1 : (List Action)) (sg : Type) (d2 : (sg → Action → Option sg)) (L : sg → Zt) (s3 : sg) (r : sg) (h : Zo6 l1 sg d2 s3 = some r) : Con Tryz.prog 303 [rd (Z1 Z9) l1, stA Tryz.prog Z9 d2 L] (L s3) (fun _ : Unit => top) (fun _ => L r) := by
 refine Con.intro Tryz.func303 rfl Tryz.ntmps303 rfl fun w H X => ?_
 unfold Zo6 at h
 refine SR <| Md rfl <| Ac (Z0t rfl rfl Z15 (vt rfl)) rfl <| Mk rfl <| Nl <| bk <| LG (d := []) (ν := (List Action) × Nat × sg) (fun (l7, i6, s5) => (Sfx l1 i6 l7 ∧ Zc0 sg d2 l7 i6 s5 = some r, l7.length, [(1, stA Tryz.prog Z9 d2 L), (6, rd (Z1 Z9) l1), (7, rd (Z0 .i64) (l1.length : Int)), (8, rd (Z0 .i64) (i6 : Int))], [(0, L s5)])) (l1, 0, s3) ⟨Sfx.start _, h⟩ (FX rfl) ?_
 rintro ⟨l7, i6, s5⟩ ⟨hsf1, h⟩
 dsimp only at hsf1 h ⊢
 cases l7 with
 | nil =>
  unfold Zc0 at h
  refine SR <| Ac (Zi rfl rfl (vt rfl) (vt rfl)) rfl <| Nl <| sq <| Cn rfl (fun hc => absurd (of_decide_eq_true hc) hsf1.nil) (fun hc => ?_)
  refine xt ?_
  cases h; exact Z1j (i := 0) Tryz.results303 rfl rfl
 | cons x8 l7 =>
  unfold Zc0 at h
  refine SR <| Ac (Zi rfl rfl (vt rfl) (vt rfl)) rfl <| Nl <| sq <| Cn rfl (fun hc => ?_) (fun hc => absurd hsf1.cons (of_decide_eq_false hc))
  have hlti6 := of_decide_eq_true hc
  refine sk <| sq <| bk <| SR <| Ac (Z0w rfl rfl Z15 (vt rfl) (vt rfl) hsf1.lget) rfl <| Lp1 Z11 rfl <| Cv rfl (Zp 6 rfl rfl Z85) fun g9 => Zh Z11 6 rfl <| Nl ?_
  obtain ⟨s10, hs10, h⟩ := Z8 h
  refine Rg <| Ac (Zu (A := stA Tryz.prog Z9 d2 L) rfl rfl (vt rfl)) rfl <| Ld Z11 6 rfl <| Ac (Ybp 0 hs10 rfl rfl (vt rfl) (vt rfl) rfl) rfl <| Nl <| Rg <| Ac (Z0s (t := 7) rfl rfl (vt rfl) (vk rfl) (vt rfl) hlti6) rfl <| Md rfl <| Nl ?_
  exact ⟨(_, _, _), Nat.lt_succ_self _, ⟨hsf1.next, h⟩, FX rfl⟩
def Zfq (a1 : (List Action)) (x2 : Zk) : Option ((List Atom) × Zk) :=
 (Zd1 x2).bind fun x5 => (Zo6 a1 Z68 (fun s x => Zdf s x) (⟨x5, []⟩ : Z68)).bind fun b7 => some (b7.atoms, b7.got)
theorem Y22 : Q2 Tryz.prog 265 (rd (Z1 Z9)) (rd (Z3 24 Z4)) (fun r => Z1d (rd (Z1 Z0a) r.1) (rd (Z3 24 Z4) r.2)) Zfq := fun a1 x2 r h => I0 Tryz.func265 rfl Tryz.ntmps265 rfl fun w H => by
 unfold Zfq at h
 refine SR <| Cv rfl (Zm 4 rfl rfl (vt rfl)) fun g3 => Ac (Zy (A := rd (Z1 Z0a) []) rfl rfl Z1h) rfl <| Cv rfl (Zp 6 rfl rfl Z77) fun g4 => Nl <| sq <| AW.newnil 2221 126 Z0a ?_
 obtain ⟨x5, hx5, h⟩ := Z8 h
 refine Rg <| Ld Z0f 4 rfl <| Cl [7] (Zqw _ _ hx5) Zqd rfl <| Ac (opb (⟨x5, (.slice none 0 0)⟩ : atom_trace_o1) Yl7 rfl Yfd (pc Yfw (vt rfl) <| pn rfl)) rfl <| Cv rfl (Zm 11 rfl rfl (vt rfl)) fun g6 => Ac (Zy (A := Z7 g6 (Lens.id Z5t)) rfl rfl (vt rfl)) rfl <| Nl <| sq ?_
 obtain ⟨b7, hb7, h⟩ := Z8 h
 refine Rg <| Md rfl <| Mp rfl <| Ac (Yhn (fs := [.tmp 12]) (cs := []) (FAs := [Z7 g6 (Lens.id Z5t)]) (CAs := []) (k := Z9) (fun s x => Zdf s x) (fun (s : Z68) => Zx g6 346 Z5t (fun v => (⟨s.got, v⟩ : atom_trace_o1)) 126 Z0a s.atoms) rfl rfl Yiz ⟨vt rfl, trivial⟩ trivial (fun s x s2 h => Ycy _ _ s x s2 h)) rfl <| AOps.packF 11 2221 (fun v => (⟨x5, v⟩ : atom_trace_o1)) (by decide) rfl rfl <| Cv rfl (Z10 11 (xs := [.tmp 11, .tmp 13]) (Ylr _ Z68 _ (fun (s : Z68) => Zx g6 346 Z5t (fun v => (⟨s.got, v⟩ : atom_trace_o1)) 126 Z0a s.atoms) _ _ hb7) Y89 rfl rfl ⟨vt rfl, vt rfl, trivial⟩ rfl) fun _u => AOps.unboxF 11 2221 (by decide) rfl rfl fun v8 => Nl <| sq <| AR Zw (by kernel_rfl) <| SMp rfl <| SNc rfl <| Zv Zj9 Zq2 rfl <| Sd (lo [17] [11] rfl fun S hs hr => Z3m v8 rfl rfl Zsp (vh hs 17 rfl rfl) (i := 11) ((hr 11 rfl).trans rfl) rfl) <| SMp rfl <| SNc rfl <| Zv latom_trace_o1_0 Zoy rfl <| Zl Z0f 11 rfl <| Sd (lo [18] [] rfl fun S hs hr => Zy (A := Zn v8) rfl rfl (vh hs 18 rfl rfl)) <| SSt Z0f 6 rfl <| Sn <| AW.freezes [4, 18] 2221 rfl ⟨rfl, rfl, trivial⟩ rfl <| rt ?_
 cases h; exact Z1k Tryz.results265 rfl (Za rfl) (Z01 rfl (i := 6) rfl Z0f)
def Zds (w1 : walk_way) (l2 : (List Action)) : Option walk_way :=
 (Zfq l2 w1.got).bind fun x5 => (Z56 w1.atoms (w1.atoms.length : Int)).bind fun s7 => (Z1a s7 x5.1).bind fun l8 => some { { w1 with atoms := l8 } with got := x5.2 }
theorem Y4u : Q2 Tryz.prog 205 (rd Z1n) (rd (Z1 Z9)) (rd Z1n) Zds := fun w1 l2 r h => I0 Tryz.func205 rfl Tryz.ntmps205 rfl fun w H => by
 unfold Zds at h
 refine SR <| Cv rfl (Zm 3 rfl rfl (vt rfl)) fun g3 => Cv rfl (Zp 5 rfl rfl Zh6) fun g4 => Nl <| sq ?_
 obtain ⟨x5, hx5, h⟩ := Z8 h
 refine Rg <| Md rfl <| Zf lwalk_way_1 Ziw rfl <| Ld Z0f 3 rfl <| Cl [8, 10] (Y22 _ _ _ hx5) Zul rfl <| Mt2 rfl <| Ac (Z1m rfl rfl (vt rfl)) rfl <| Ac (Z1l rfl rfl (vt rfl)) rfl <| Cv rfl (Zp 7 rfl rfl Z77) fun g6 => As rfl <| Zh Z0f 7 rfl <| Nl <| sq ?_
 obtain ⟨s7, hs7, l8, hl8, h⟩ := bs2 h
 refine AR Zw (by kernel_rfl) <| Zv Zg5 Zkc rfl <| Zl Zc5 3 rfl <| Zv Zg5 Zkc rfl <| Zl Zc5 3 rfl <| Sd (lo [17] [] rfl fun S hs hr => Z0t rfl rfl Z7n (vh hs 17 rfl rfl)) <| Zv Zg5 Zkc rfl <| Zl Zc5 3 rfl <| Sd (lo [20] [] rfl fun S hs hr => Z0t rfl rfl Z7n (vh hs 20 rfl rfl)) <| Sd (lo [15, 18, 21] [] rfl fun S hs hr => Ymg hs7 rfl rfl Z7n (vh hs 15 rfl rfl) (vh hs 18 rfl rfl) (vh hs 21 rfl rfl)) <| SMd rfl <| Sd (lo [22, 23] [] rfl fun S hs hr => Ye4 hl8 rfl rfl Zgw (vh hs 22 rfl rfl) (vh hs 23 rfl rfl)) <| Zl Z0f 7 rfl <| Zv Zg5 Zkc rfl <| SSt Zc5 3 rfl <| Zv lwalk_way_1 Ziw rfl <| SSt Z0f 3 rfl <| Sn <| SR <| Ld Z35 3 rfl <| Zh Z35 5 rfl <| Nl <| rt ?_
 cases h; exact Zg Tryz.results205 rfl (Z01 rfl (i := 5) rfl Z35)
def Zb6 (a1 : Action) : Option aset_spot :=
 (bif (decide (a1.Kind = 25)) then some (⟨a1.Kind, a1.Oxm.Field⟩ : aset_spot) else some (⟨a1.Kind, 0⟩ : aset_spot))
theorem Znr : Q1 Tryz.prog 221 (rd Z9) (rd Z6s) Zb6 := fun a1 r h => I0 Tryz.func221 rfl Tryz.ntmps221 rfl fun w H => by
 unfold Zb6 at h
 refine SR <| Cv rfl (Zm 2 rfl rfl (vt rfl)) fun g2 => Cv rfl (Zp 3 rfl rfl Zk5) fun g3 => Nl <| sq <| SR <| Zf lAction_0 Z8w rfl <| Ld Zo 2 rfl <| Ac (Z21 rfl rfl (vt rfl) (vk rfl)) rfl <| Nl <| Cq rfl h (fun h => ?_) (fun h => ?_)
 ·refine SR <| Zf lAction_0 Z8w rfl <| Ld Zo 2 rfl <| Zf Zm5 Zsa rfl <| Zf Zeb Zf7 rfl <| Ld Zo 2 rfl <| Ac (opb (⟨a1.Kind, a1.Oxm.Field⟩ : aset_spot) Zk5 rfl Zvi (pc Zwq (vt rfl) <| pc Ydq (vt rfl) <| pn rfl)) rfl <| Zh Zh5 3 rfl <| Nl <| rt ?_
  cases h; exact Zg Tryz.results221 rfl (Z01 rfl (i := 3) rfl Zh5)
 ·refine sk <| SR <| Zf lAction_0 Z8w rfl <| Ld Zo 2 rfl <| Ac (opb (⟨a1.Kind, 0⟩ : aset_spot) Zk5 rfl Zvi (pc Zwq (vt rfl) <| pn rfl)) rfl <| Zh Zh5 3 rfl <| Nl <| rt ?_
  cases h; exact Zg Tryz.results221 rfl (Z01 rfl (i := 3) rfl Zh5)
def Zdn (b1 : Action) (x2 : Action) : Option Bool :=
 (Zb6 x2).bind fun x4 => (Zb6 b1).bind fun x5 => some (decide (x4 = x5))
theorem Yjq : Q2 Tryz.prog 267 (rd Z9) (rp Z9) (rd Z5) Zdn := fun b1 x2 r h => I0 Tryz.func267 rfl Tryz.ntmps267 rfl fun w H => by
 unfold Zdn at h
 refine SR <| Cv rfl (Zm 3 rfl rfl (vt rfl)) fun g3 => Ab rfl <| Nl <| sq ?_
 obtain ⟨x4, hx4, x5, hx5, h⟩ := bs2 h
 refine AR Zw (by kernel_rfl) <| SLp Z11 rfl <| SCl [4] (Znr _ _ hx4) Znl rfl <| Zl Z11 3 rfl <| SCl [6] (Znr _ _ hx5) Znl rfl <| Sd (lo [5, 7] [] rfl fun S hs hr => Zv4 rfl rfl Yi4 (by decide) rfl Yjw (vh hs 5 rfl rfl) (vh hs 7 rfl rfl)) <| SAs rfl <| Sn <| rt ?_
 cases h; exact Zg Tryz.results267 rfl (Za rfl)
def Zex (s1 : (List Action)) (x2 : (Action → Option Bool)) : Nat → Nat → Option Int
 | 0, i3 => some (-1)
 | m4 + 1, i3 => (lget s1 (i3 : Int)).bind fun x5 => (x2 x5).bind fun x6 => (bif x6 then some (i3 : Int) else (Zex s1 x2 m4) (i3 + 1))
def Ze8 (s1 : (List Action)) (x2 : (Action → Option Bool)) : Option Int :=
 Zex s1 x2 ((s1.length : Int) : Int).toNat 0
theorem Zsb : Q2 Tryz.prog 266 (rd (Z1 Z9)) (fn1 Tryz.prog Z9 Z5) (rd (Z0 .i64)) Ze8 := fun s1 x2 r h => I0 Tryz.func266 rfl Tryz.ntmps266 rfl fun w H => by
 unfold Ze8 at h
 refine SR <| Ak rfl <| Nl <| sq <| SR <| Md rfl <| Ac (Z0t rfl rfl Z15 (vt rfl)) rfl <| Mk rfl <| Nl <| bk <| LG (d := []) (ν := Nat × Nat) (fun (m4, i3) => (Cnt (s1.length : Int) i3 m4 ∧ Zex s1 x2 m4 i3 = some r, m4, [(0, rd (Z1 Z9) s1), (1, fn1 Tryz.prog Z9 Z5 x2), (7, rd (Z0 .i64) (s1.length : Int)), (8, rd (Z0 .i64) (i3 : Int))], [])) (((s1.length : Int) : Int).toNat, 0) ⟨Cnt.start _, h⟩ (FX rfl) ?_
 rintro ⟨m4, i3⟩ ⟨hsf1, h⟩
 dsimp only at hsf1 h ⊢
 cases m4 with
 | zero =>
  unfold Zex at h
  refine SR <| Ac (Zi rfl rfl (vt rfl) (vt rfl)) rfl <| Nl <| sq <| Cn rfl (fun hc => absurd (of_decide_eq_true hc) hsf1.zero) (fun hc => ?_)
  refine xt <| SR <| Ak rfl <| Nl <| rt ?_
  cases h; exact Zg Tryz.results266 rfl (Za rfl)
 | succ m4 =>
  unfold Zex at h
  refine SR <| Ac (Zi rfl rfl (vt rfl) (vt rfl)) rfl <| Nl <| sq <| Cn rfl (fun hc => ?_) (fun hc => absurd hsf1.succ (of_decide_eq_false hc))
  have hlti3 := of_decide_eq_true hc
  refine sk <| sq <| bk <| SR <| Md rfl <| As rfl <| Nl <| sq ?_
  obtain ⟨x5, hx5, x6, hx6, h⟩ := bs2 h
  refine Rg <| Ac (Zu (A := fn1 Tryz.prog Z9 Z5 x2) rfl rfl (vt rfl)) rfl <| Md rfl <| Md rfl <| Ac (Z0w rfl rfl Z15 (vt rfl) (vt rfl) hx5) rfl <| Lp1 Z11 rfl <| Ac (Z8b hx6 rfl rfl (vt rfl) (vt rfl)) rfl <| Nl <| Cq rfl h (fun h => ?_) (fun h => ?_)
  ·refine SR <| Md rfl <| As rfl <| Nl <| rt ?_
   cases h; exact Zg Tryz.results266 rfl (Za rfl)
  ·refine sk <| Rg <| Ac (Z0s (t := 7) rfl rfl (vt rfl) (vk rfl) (vt rfl) hlti3) rfl <| Md rfl <| Nl ?_
   exact ⟨(_, _), Nat.lt_succ_self _, ⟨hsf1.next, h⟩, FX rfl⟩
end Go.Proofs.YtknpgojdkobgjaaGreat.W
set_option maxRecDepth 4000
namespace Go.Proofs.YtknpgojdkobgjaaGreat.W
open Go Go.Wb
theorem Yfz : Ent Tryz.prog 267 := Ent.mk Tryz.func267 rfl rfl
theorem Zsm : Ent Tryz.prog 266 := Ent.mk Tryz.func266 rfl rfl
theorem Y3v : Ent Tryz.prog 273 := Ent.mk Tryz.func273 rfl rfl
theorem Zqn : Ent Tryz.prog 218 := Ent.mk Tryz.func218 rfl rfl
def Z9y : (List Action) → Nat → (List Action) → Option (List Action)
 | [], i9, l7 => some l7
 | x11 :: l10, i9, l7 => (Ze8 l7 (fun x => Zdn x x11)).bind fun x13 => (bif (decide (x13 < 0)) then (Z1a l7 [x11]).bind fun l14 => (Z9y l10) (i9 + 1) l14 else (lget l7 x13).bind fun x16 => (Z9y l10) (i9 + 1) (List.set l7 x13.toNat x11))
def Zbl (s1 : (List Action)) (l2 : (List Action)) : Option (List Action) :=
 (Z71 s1).bind fun x3 => Z9y l2 0 x3
theorem Zmq : Q2 Tryz.prog 206 (rd (Z1 Z9)) (rd (Z1 Z9)) (rd (Z1 Z9)) Zbl := fun s1 l2 r h => I0 Tryz.func206 rfl Tryz.ntmps206 rfl fun w H => by
 unfold Zbl at h
 refine SR <| Ac (Zy (A := rd (Z1 Z9) []) rfl rfl Z1h) rfl <| Nl <| sq ?_
 obtain ⟨x3, hx3, h⟩ := Z8 h
 refine Rg <| Md rfl <| Cv rfl (Z10 1001 (xs := [.tmp 9]) (Zs2 _ _ hx3) Zlt rfl rfl ⟨vt rfl, trivial⟩ rfl) fun v4 => Aw rfl <| Nl <| sq <| SR <| Md rfl <| Ac (Z0t rfl rfl Z15 (vt rfl)) rfl <| Mk rfl <| Nl <| bk <| LG (d := []) (ν := (List Action) × Nat × (List Action) × Value) (fun (l10, i9, l7, v8) => (Sfx l2 i9 l10 ∧ Z9y l10 i9 l7 = some r, l10.length, [(5, Zn v8), (11, rd (Z1 Z9) l2), (12, rd (Z0 .i64) (l2.length : Int)), (13, rd (Z0 .i64) (i9 : Int))], [(1001, Zb v8 121 Z9 l7)])) (l2, 0, x3, v4) ⟨Sfx.start _, h⟩ (FX rfl) ?_
 rintro ⟨l10, i9, l7, v8⟩ ⟨hsf1, h⟩
 dsimp only at hsf1 h ⊢
 cases l10 with
 | nil =>
  unfold Z9y at h
  refine SR <| Ac (Zi rfl rfl (vt rfl) (vt rfl)) rfl <| Nl <| sq <| Cn rfl (fun hc => absurd (of_decide_eq_true hc) hsf1.nil) (fun hc => ?_)
  refine xt <| SR <| Mw rfl <| Aw rfl <| Nl <| AW.freezes [4, 5, 31] 1001 rfl ⟨rfl, rfl, rfl, trivial⟩ rfl <| rt ?_
  cases h; exact Zg Tryz.results206 rfl (Za rfl)
 | cons x11 l10 =>
  unfold Z9y at h
  refine SR <| Ac (Zi rfl rfl (vt rfl) (vt rfl)) rfl <| Nl <| sq <| Cn rfl (fun hc => ?_) (fun hc => absurd hsf1.cons (of_decide_eq_false hc))
  have hlti9 := of_decide_eq_true hc
  refine sk <| sq <| bk <| SR <| Ac (Z0w rfl rfl Z15 (vt rfl) (vt rfl) hsf1.lget) rfl <| Lp1 Z11 rfl <| Cv rfl (Zp 8 rfl rfl Z85) fun g12 => Zh Z11 8 rfl <| Nl <| sq <| AW.freezeB 7 8 rfl rfl rfl ?_
  obtain ⟨x13, hx13, h⟩ := Z8 h
  refine Rg <| Mw rfl <| Ac (Z7v (cs := [.tmp 7]) (CAs := [rp Z9 x11]) (fun x => Zdn x x11) rfl rfl Yfz ⟨vt rfl, trivial⟩ (fun x y h => Yjq _ _ y h)) rfl <| Ac (Zrs (xs := [.tmp 17, .tmp 18]) 1001 (Zsb _ _ _ hx13) Zsm rfl rfl ⟨vL rfl rfl, vB (vt rfl), trivial⟩) rfl <| As rfl <| Nl <| SR <| Md rfl <| Ac (Zi rfl rfl (vt rfl) (vk rfl)) rfl <| Nl <| Cq rfl h (fun h => ?_) (fun h => ?_)
  ·obtain ⟨l14, hl14, h⟩ := Z8 h
   refine Rg <| Mw rfl <| Lp1 Z11 rfl <| Ac (osl Z15 Z85 rfl (vt rfl)) rfl <| Cv rfl (Z4e 1001 hl14 rfl rfl Y4e (vt rfl) rfl (vt rfl)) fun v15 => Aw rfl <| Nl <| Rg <| Ac (Z0s (t := 12) rfl rfl (vt rfl) (vk rfl) (vt rfl) hlti9) rfl <| Md rfl <| Nl ?_
   exact ⟨(_, _, _, _), Nat.lt_succ_self _, ⟨hsf1.next, h⟩, FX rfl⟩
  ·obtain ⟨x16, hx16, h⟩ := Z8 h
   refine Rg <| Mw rfl <| Md rfl <| Lp1 Z11 rfl <| Ac (Z2j 1001 rfl rfl Z15 (vt rfl) rfl (vt rfl) hx16) rfl <| Ac (Z3w 1001 rfl rfl Z11 (vt rfl) rfl (Z0m hx16).2 (vt rfl)) rfl <| Nl <| Rg <| Ac (Z0s (t := 12) rfl rfl (vt rfl) (vk rfl) (vt rfl) hlti9) rfl <| Md rfl <| Nl ?_
   exact ⟨(_, _, _, _), Nat.lt_succ_self _, ⟨hsf1.next, h⟩, FX rfl⟩
def Zij (s1 : (List Action)) (x2 : (Action → Option Bool)) : Option Bool :=
 (Ze8 s1 x2).bind fun x3 => some (decide (x3 ≥ 0))
theorem Yhx : Q2 Tryz.prog 213 (rd (Z1 Z9)) (fn1 Tryz.prog Z9 Z5) (rd Z5) Zij := fun s1 x2 r h => I0 Tryz.func213 rfl Tryz.ntmps213 rfl fun w H => by
 unfold Zij at h
 refine SR <| Ab rfl <| Nl <| sq ?_
 obtain ⟨x3, hx3, h⟩ := Z8 h
 refine Rg <| Md rfl <| Ac (Zu (A := fn1 Tryz.prog Z9 Z5 x2) rfl rfl (vt rfl)) rfl <| Cl [5, 6] (Zsb _ _ _ hx3) Zsm rfl <| Ac (Z3r rfl rfl (vt rfl) (vk rfl)) rfl <| As rfl <| Nl <| rt ?_
 cases h; exact Zg Tryz.results213 rfl (Za rfl)
def Zji (a1 : Action) : Option Bool :=
 some (decide (a1.Kind = 22))
theorem Y6v : Q1 Tryz.prog 214 (rd Z9) (rd Z5) Zji := fun a1 r h => I0 Tryz.func214 rfl Tryz.ntmps214 rfl fun w H => by
 unfold Zji at h
 refine SR <| Cv rfl (Zm 2 rfl rfl (vt rfl)) fun g2 => Ab rfl <| Nl <| SR <| Zf lAction_0 Z8w rfl <| Ld Zo 2 rfl <| Ac (Z21 rfl rfl (vt rfl) (vk rfl)) rfl <| As rfl <| Nl <| rt ?_
 cases h; exact Zg Tryz.results214 rfl (Za rfl)
def Zcy (s1 : (List Int)) (x2 : Int) : Nat → Nat → Option Int
 | 0, i3 => some (-1)
 | m4 + 1, i3 => (lget s1 (i3 : Int)).bind fun x5 => (bif (decide (x2 = x5)) then some (i3 : Int) else (Zcy s1 x2 m4) (i3 + 1))
def Zhu (s1 : (List Int)) (x2 : Int) : Option Int :=
 Zcy s1 x2 ((s1.length : Int) : Int).toNat 0
theorem Y1o : Q2 Tryz.prog 273 (rd (Z1 (Z0 .i64))) (rd (Z0 .i64)) (rd (Z0 .i64)) Zhu := fun s1 x2 r h => I0 Tryz.func273 rfl Tryz.ntmps273 rfl fun w H => by
 unfold Zhu at h
 refine SR <| Ak rfl <| Nl <| sq <| SR <| Md rfl <| Ac (Z0t rfl rfl Z14 (vt rfl)) rfl <| Mk rfl <| Nl <| bk <| LG (d := []) (ν := Nat × Nat) (fun (m4, i3) => (Cnt (s1.length : Int) i3 m4 ∧ Zcy s1 x2 m4 i3 = some r, m4, [(0, rd (Z1 (Z0 .i64)) s1), (1, rd (Z0 .i64) x2), (7, rd (Z0 .i64) (s1.length : Int)), (8, rd (Z0 .i64) (i3 : Int))], [])) (((s1.length : Int) : Int).toNat, 0) ⟨Cnt.start _, h⟩ (FX rfl) ?_
 rintro ⟨m4, i3⟩ ⟨hsf1, h⟩
 dsimp only at hsf1 h ⊢
 cases m4 with
 | zero =>
  unfold Zcy at h
  refine SR <| Ac (Zi rfl rfl (vt rfl) (vt rfl)) rfl <| Nl <| sq <| Cn rfl (fun hc => absurd (of_decide_eq_true hc) hsf1.zero) (fun hc => ?_)
  refine xt <| SR <| Ak rfl <| Nl <| rt ?_
  cases h; exact Zg Tryz.results273 rfl (Za rfl)
 | succ m4 =>
  unfold Zcy at h
  refine SR <| Ac (Zi rfl rfl (vt rfl) (vt rfl)) rfl <| Nl <| sq <| Cn rfl (fun hc => ?_) (fun hc => absurd hsf1.succ (of_decide_eq_false hc))
  have hlti3 := of_decide_eq_true hc
  refine sk <| sq <| bk <| SR <| Md rfl <| As rfl <| Nl <| sq ?_
  obtain ⟨x5, hx5, h⟩ := Z8 h
  refine Rg <| Md rfl <| Md rfl <| Md rfl <| Ac (Z0w rfl rfl Z14 (vt rfl) (vt rfl) hx5) rfl <| Lp1 Zo rfl <| Ac (Z21 rfl rfl (vt rfl) (vt rfl)) rfl <| Nl <| Cq rfl h (fun h => ?_) (fun h => ?_)
  ·refine SR <| Md rfl <| As rfl <| Nl <| rt ?_
   cases h; exact Zg Tryz.results273 rfl (Za rfl)
  ·refine sk <| Rg <| Ac (Z0s (t := 7) rfl rfl (vt rfl) (vk rfl) (vt rfl) hlti3) rfl <| Md rfl <| Nl ?_
   exact ⟨(_, _), Nat.lt_succ_self _, ⟨hsf1.next, h⟩, FX rfl⟩
def Zdq (k1 : Int) : Option Int :=
 (Zhu [18, 17, 25, 22, 0] k1).bind fun x2 => some x2
theorem Zss : Q1 Tryz.prog 218 (rd (Z0 .i64)) (rd (Z0 .i64)) Zdq := fun k1 r h => I0 Tryz.func218 rfl Tryz.ntmps218 rfl fun w H => by
 unfold Zdq at h
 refine SR <| Ak rfl <| Nl <| sq ?_
 obtain ⟨x2, hx2, h⟩ := Z8 h
 refine Rg <| Ac (Zn3 (ps := [(0, .const (Value.int IntKind.i64 18)), (1, .const (Value.int IntKind.i64 17)), (2, .const (Value.int IntKind.i64 25)), (3, .const (Value.int IntKind.i64 22)), (4, .const (Value.int IntKind.i64 0))]) (l := [18, 17, 25, 22, 0]) rfl rfl Z14 zr3 rfl rfl ⟨_, _, Lens.idx 5 (Z0 .i64) 0 (by decide), _, rfl, (vk rfl), _, _, Lens.idx 5 (Z0 .i64) 1 (by decide), _, rfl, (vk rfl), _, _, Lens.idx 5 (Z0 .i64) 2 (by decide), _, rfl, (vk rfl), _, _, Lens.idx 5 (Z0 .i64) 3 (by decide), _, rfl, (vk rfl), _, _, Lens.idx 5 (Z0 .i64) 4 (by decide), _, rfl, (vk rfl), rfl⟩ rfl) rfl <| Md rfl <| Cl [3, 4] (Y1o _ _ _ hx2) Y3v rfl <| As rfl <| Nl <| rt ?_
 cases h; exact Zg Tryz.results218 rfl (Za rfl)
def Zb4 (a1 : Action) (x2 : Bool) : Option Bool :=
 (Zdq a1.Kind).bind fun x4 => some ((decide (x4 < 0)) || (x2 && (decide (a1.Kind = 0))))
theorem Y79 : Q2 Tryz.prog 217 (rd Z9) (rp Z5) (rd Z5) Zb4 := fun a1 x2 r h => I0 Tryz.func217 rfl Tryz.ntmps217 rfl fun w H => by
 unfold Zb4 at h
 refine SR <| Cv rfl (Zm 3 rfl rfl (vt rfl)) fun g3 => Ab rfl <| Nl <| sq ?_
 obtain ⟨x4, hx4, h⟩ := Z8 h
 refine Rg <| Zf lAction_0 Z8w rfl <| Ld Zo 3 rfl <| Cl [5] (Zss _ _ hx4) Zqn rfl <| Ac (Zi rfl rfl (vt rfl) (vk rfl)) rfl <| Md rfl <| Gd rfl (fun hq => Zfa rfl rfl ty4 (vt rfl)) <| AOps.consG (OpG.guardX rfl rfl rfl rfl rfl fun hq => Zu (A := rd Z5 x2) rfl rfl (Zs rfl hq)) <| AOps.consG (OpG.guardN rfl rfl rfl rfl rfl fun hq => Z2p lAction_0 rfl rfl Z8w (vt rfl)) <| AOps.consG (OpG.guardN rfl rfl rfl rfl rfl fun hq => Z1x rfl rfl Zo (Zs rfl hq) (i := 3) rfl) <| AOps.consG (OpG.guardN rfl rfl rfl rfl rfl fun hq => Z21 rfl rfl (Zs rfl hq) (vk rfl)) <| Gd rfl (fun hq => Z26 rfl rfl (vgx rfl hq) (vgw rfl hq)) <| Ac (Z67 rfl rfl (vt rfl) (vt rfl)) rfl <| As rfl <| Nl <| rt ?_
 cases h; exact Zg Tryz.results217 rfl (Za rfl)
def Zec (d3 : (Action → Option Bool)) : Nat → (List Action) → Int → Int → Option (List Action)
 | 0, _, _, _ => none
 | m11 + 1, l8, i9, j10 => (bif (decide (j10 < (l8.length : Int))) then (lget l8 j10).bind fun x12 => (d3 x12).bind fun x14 => (bif (!x14) then (lget l8 i9).bind fun x15 => (Zec d3 m11) (List.set l8 i9.toNat x12) (IntKind.i64.wrap (i9 + 1)) (IntKind.i64.wrap (j10 + 1)) else (Zec d3 m11) l8 i9 (IntKind.i64.wrap (j10 + 1))) else (Z7k l8 i9).bind fun s16 => (Z56 (List.take i9.toNat l8 ++ List.replicate (l8.length - i9.toNat) Zm9) i9).bind fun s17 => some s17)
def Zic (s1 : (List Action)) (d3 : (Action → Option Bool)) : Option (List Action) :=
 (Ze8 s1 d3).bind fun x4 => (bif (decide (x4 = (-1))) then some s1 else Zec d3 ((((s1.length : Int) : Int) - (IntKind.i64.wrap (x4 + 1))).toNat + 1) s1 x4 (IntKind.i64.wrap (x4 + 1)))
theorem Yjy (v2 : Value) (s1 : (List Action)) (d3 : (Action → Option Bool)) (r : (List Action)) (h : Zic s1 d3 = some r) : Con Tryz.prog 215 [Zn v2, fn1 Tryz.prog Z9 Z5 d3] (Zb v2 121 Z9 s1) (fun v => Zn v) (fun v => Zb v 121 Z9 r) := by
 refine Con.intro Tryz.func215 rfl Tryz.ntmps215 rfl fun w H X => ?_
 unfold Zic at h
 refine sq <| AW.newnil 1001 121 Z9 <| Rg <| Ac (Zy rfl rfl vc) rfl <| Nl <| sq ?_
 obtain ⟨x4, hx4, h⟩ := Z8 h
 refine Rg <| Mw rfl <| Ac (Zu (A := fn1 Tryz.prog Z9 Z5 d3) rfl rfl (vt rfl)) rfl <| Ac (Zrs (xs := [.tmp 8, .tmp 9]) 0 (Zsb _ _ _ hx4) Zsm rfl rfl ⟨vL rfl rfl, vB (vt rfl), trivial⟩) rfl <| As rfl <| Nl <| sq <| SR <| Md rfl <| Ac (Z21 rfl rfl (vt rfl) (vk rfl)) rfl <| Nl <| Cq rfl h (fun h => ?_) (fun h => ?_)
 ·refine SR <| Mw rfl <| Aw rfl <| Nl <| rt ?_
  cases h; exact Z6k (i := 0) Tryz.results215 rfl rfl rfl
 ·refine sk <| sq <| SR <| Md rfl <| Ac (Z0o rfl rfl (vt rfl) (vk rfl)) rfl <| As rfl <| Nl <| bk <| LG (d := []) (ν := Nat × (List Action) × Int × Int) (fun (m11, l8, i9, j10) => (True ∧ Zec d3 m11 l8 i9 j10 = some r, m11, [(0, Zn v2), (1, fn1 Tryz.prog Z9 Z5 d3), (5, rd (Z0 .i64) i9), (6, rd (Z0 .i64) j10)], [(0, Zb v2 121 Z9 l8)])) (((((s1.length : Int) : Int) - (IntKind.i64.wrap (x4 + 1))).toNat + 1), s1, x4, (IntKind.i64.wrap (x4 + 1))) ⟨trivial, h⟩ (FX rfl) ?_
  rintro ⟨m11, l8, i9, j10⟩ ⟨hsf1, h⟩
  dsimp only at h ⊢
  cases m11 with
  | zero => cases h
  | succ m11 =>
   unfold Zec at h
   refine sq <| SR <| Md rfl <| Mw rfl <| Ac (Z7a 0 rfl rfl Z15 (vt rfl) rfl) rfl <| Ac (Zi rfl rfl (vt rfl) (vt rfl)) rfl <| Nl <| Cq rfl h (fun h => ?_) (fun h => ?_)
   ·refine sk <| sq <| bk <| sq ?_
    obtain ⟨x12, hx12, h⟩ := Z8 h
    refine Rg <| Mw rfl <| Md rfl <| Ac (Z2j 0 rfl rfl Z15 (vt rfl) rfl (vt rfl) hx12) rfl <| Ac (Z1t 0 rfl rfl Z11 (vt rfl) rfl (Z0m hx12).2) rfl <| Cv rfl (Zp 8 rfl rfl Z85) fun g13 => Zh Z11 8 rfl <| Nl <| sq ?_
    obtain ⟨x14, hx14, h⟩ := Z8 h
    refine Rg <| Ac (Zu (A := fn1 Tryz.prog Z9 Z5 d3) rfl rfl (vt rfl)) rfl <| Ld Z11 8 rfl <| Ac (Z8b hx14 rfl rfl (vt rfl) (vt rfl)) rfl <| Ac (Z0x rfl rfl (vt rfl)) rfl <| Nl <| Cq rfl h (fun h => ?_) (fun h => ?_)
    ·refine sq ?_
     obtain ⟨x15, hx15, h⟩ := Z8 h
     refine Rg <| Mw rfl <| Md rfl <| Ld Z11 8 rfl <| Ac (Z2j 0 rfl rfl Z15 (vt rfl) rfl (vt rfl) hx15) rfl <| Ac (Z3w 0 rfl rfl Z11 (vt rfl) rfl (Z0m hx15).2 (vt rfl)) rfl <| Nl <| Rg <| Md rfl <| Ac (Z0o rfl rfl (vt rfl) (vk rfl)) rfl <| As rfl <| Nl <| Rg <| Md rfl <| Ac (Z0o rfl rfl (vt rfl) (vk rfl)) rfl <| As rfl <| Nl ?_
     exact ⟨(_, _, _, _), Nat.lt_succ_self _, ⟨trivial, h⟩, FX rfl⟩
    ·refine sk <| Rg <| Md rfl <| Ac (Z0o rfl rfl (vt rfl) (vk rfl)) rfl <| As rfl <| Nl ?_
     exact ⟨(_, _, _, _), Nat.lt_succ_self _, ⟨trivial, h⟩, FX rfl⟩
   ·refine xt <| sq ?_
    obtain ⟨s16, hs16, h⟩ := Z8 h
    refine Rg <| Mw rfl <| Md rfl <| Ac (Y7a 0 hs16 rfl rfl Z15 (vt rfl) rfl (vt rfl)) rfl <| Ac (Ybu 0 rfl rfl Z15 Z85 rfl (vt rfl) rfl (Zqo hs16).2.1) rfl <| Nl <| sq ?_
    obtain ⟨s17, hs17, h⟩ := Z8 h
    refine Rg <| Mw rfl <| Md rfl <| Cv rfl (Ykb 0 hs17 rfl rfl Z15 (vt rfl) rfl (vt rfl)) fun v18 => Aw rfl <| Nl <| rt ?_
    cases h; exact Z6k (i := 0) Tryz.results215 rfl rfl rfl
def Z89 (a3 : Int) (x5 : (Action → Action → Option Int)) (go1 : (List Action) → Int → Option (List Action)) (i9 : Int) : Nat → (List Action) → Int → Option (List Action)
 | 0, _, _ => none
 | m15 + 1, l13, j14 => (opt (decide (j14 > a3)) (lget l13 j14)).bind fun x16 => (opt (decide (j14 > a3)) (lget l13 (IntKind.i64.wrap (j14 - 1)))).bind fun x17 => (opt (decide (j14 > a3)) (x5 x16 x17)).bind fun x18 => (bif ((decide (j14 > a3)) && (decide (x18 < 0))) then (lget l13 (IntKind.i64.wrap (j14 - 1))).bind fun x19 => (lget l13 j14).bind fun x20 => (lget l13 j14).bind fun x21 => (lget (List.set l13 j14.toNat x19) (IntKind.i64.wrap (j14 - 1))).bind fun x22 => (Z89 a3 x5 go1 i9 m15) (List.set (List.set l13 j14.toNat x19) (IntKind.i64.wrap (j14 - 1)).toNat x20) (IntKind.i64.wrap (j14 - 1)) else go1 l13 (IntKind.i64.wrap (i9 + 1)))
def Z6t (b4 : Int) (a3 : Int) (x5 : (Action → Action → Option Int)) : Nat → (List Action) → Int → Option (List Action)
 | 0, _, _ => none
 | m10 + 1, l8, i9 => (bif (decide (i9 < b4)) then Z89 a3 x5 (Z6t b4 a3 x5 m10) i9 Z0k l8 i9 else some l8)
def Zbs (d1 : (List Action)) (a3 : Int) (b4 : Int) (x5 : (Action → Action → Option Int)) : Option (List Action) :=
 Z6t b4 a3 x5 (((b4 : Int) - (IntKind.i64.wrap (a3 + 1))).toNat + 1) d1 (IntKind.i64.wrap (a3 + 1))
theorem Y2j (v2 : Value) (d1 : (List Action)) (a3 : Int) (b4 : Int) (x5 : (Action → Action → Option Int)) (r : (List Action)) (h : Zbs d1 a3 b4 x5 = some r) : Con Tryz.prog 310 [Zn v2, rd (Z0 .i64) a3, rd (Z0 .i64) b4, fn2 Tryz.prog Z9 Z9 (Z0 .i64) x5] (Zb v2 121 Z9 d1) (fun _ : Unit => top) (fun _ => Zb v2 121 Z9 r) := by
 refine Con.intro Tryz.func310 rfl Tryz.ntmps310 rfl fun w H X => ?_
 unfold Zbs at h
 refine SR <| Md rfl <| Ac (Z0o rfl rfl (vt rfl) (vk rfl)) rfl <| As rfl <| Nl <| bk <| LG (d := []) (ν := Nat × (List Action) × Int) (fun (m10, l8, i9) => (True ∧ Z6t b4 a3 x5 m10 l8 i9 = some r, m10, [(0, Zn v2), (1, rd (Z0 .i64) a3), (2, rd (Z0 .i64) b4), (3, fn2 Tryz.prog Z9 Z9 (Z0 .i64) x5), (8, rd (Z0 .i64) i9)], [(0, Zb v2 121 Z9 l8)])) ((((b4 : Int) - (IntKind.i64.wrap (a3 + 1))).toNat + 1), d1, (IntKind.i64.wrap (a3 + 1))) ⟨trivial, h⟩ (FX rfl) ?_
 rintro ⟨m10, l8, i9⟩ ⟨hsf1, h⟩
 dsimp only at h ⊢
 cases m10 with
 | zero => cases h
 | succ m10 =>
  unfold Z6t at h
  refine sq <| SR <| Md rfl <| Md rfl <| Ac (Zi rfl rfl (vt rfl) (vt rfl)) rfl <| Nl <| Cq rfl h (fun h => ?_) (fun h => ?_)
  ·refine sk <| sq <| bk <| SR <| Md rfl <| As rfl <| Nl <| bk <| LG (d := []) (ν := Nat × (List Action) × Int) (fun (m15, l13, j14) => (True ∧ Z89 a3 x5 (Z6t b4 a3 x5 m10) i9 m15 l13 j14 = some r, m15, [(0, Zn v2), (1, rd (Z0 .i64) a3), (2, rd (Z0 .i64) b4), (3, fn2 Tryz.prog Z9 Z9 (Z0 .i64) x5), (8, rd (Z0 .i64) i9), (9, rd (Z0 .i64) j14)], [(0, Zb v2 121 Z9 l13)])) (Z0k, l8, i9) ⟨trivial, h⟩ (FX rfl) ?_
   rintro ⟨m15, l13, j14⟩ ⟨hsf2, h⟩
   dsimp only at h ⊢
   cases m15 with
   | zero => cases h
   | succ m15 =>
    unfold Z89 at h
    refine sq <| sq ?_
    obtain ⟨x16, hx16, x17, hx17, x18, hx18, h⟩ := bs3 h
    refine AR Zw (by kernel_rfl) <| SMd rfl <| SMd rfl <| Sd (lo [18, 19] [] rfl fun S hs hr => Z3e rfl rfl (vh hs 18 rfl rfl) (vh hs 19 rfl rfl)) <| SMd rfl <| Sd (lg [3, 21] [] rfl fun hq S hs hr => Zu (A := fn2 Tryz.prog Z9 Z9 (Z0 .i64) x5) rfl rfl (vh hs 3 rfl rfl)) <| Sd (lg [0, 21] [] rfl fun hq S hs hr => Zu (A := Zn v2) rfl rfl (vh hs 0 rfl rfl)) <| Sd (lg [9, 21] [] rfl fun hq S hs hr => Zu (A := rd (Z0 .i64) j14) rfl rfl (vh hs 9 rfl rfl)) <| Sd (lg [23, 24, 21] [0] rfl fun hq S hs hr => Z2j 0 rfl rfl Z15 (Zs ((hs 23 rfl).trans rfl) hq) ((hr 0 rfl).trans rfl) (Zs ((hs 24 rfl).trans rfl) hq) (Z4m hx16 hq)) <| Sd (lg [25, 21] [0] rfl fun hq S hs hr => Z1t 0 rfl rfl Z11 (Zs ((hs 25 rfl).trans rfl) hq) ((hr 0 rfl).trans rfl) (Z0m (Z4m hx16 hq)).2) <| Sd (lg [0, 21] [] rfl fun hq S hs hr => Zu (A := Zn v2) rfl rfl (vh hs 0 rfl rfl)) <| Sd (lg [9, 21] [] rfl fun hq S hs hr => Zu (A := rd (Z0 .i64) j14) rfl rfl (vh hs 9 rfl rfl)) <| Sd (lg [28, 21] [] rfl fun hq S hs hr => Z0u rfl rfl (Zs ((hs 28 rfl).trans rfl) hq) (vk rfl)) <| Sd (lg [27, 29, 21] [0] rfl fun hq S hs hr => Z2j 0 rfl rfl Z15 (Zs ((hs 27 rfl).trans rfl) hq) ((hr 0 rfl).trans rfl) (Zs ((hs 29 rfl).trans rfl) hq) (Z4m hx17 hq)) <| Sd (lg [30, 21] [0] rfl fun hq S hs hr => Z1t 0 rfl rfl Z11 (Zs ((hs 30 rfl).trans rfl) hq) ((hr 0 rfl).trans rfl) (Z0m (Z4m hx17 hq)).2) <| Sd (lg [22, 26, 31, 21] [] rfl fun hq S hs hr => Zb8 (Z4m hx18 hq) rfl rfl (Zs ((hs 22 rfl).trans rfl) hq) (Zs ((hs 26 rfl).trans rfl) hq) (Zs ((hs 31 rfl).trans rfl) hq)) <| Sd (lg [32, 21] [] rfl fun hq S hs hr => Zi rfl rfl (Zs ((hs 32 rfl).trans rfl) hq) (vk rfl)) <| Sd (lo [33, 21] [] rfl fun S hs hr => Z26 rfl rfl (vh hs 21 rfl rfl) (vh hs 33 rfl rfl)) <| Sn <| Cq rfl h (fun h => ?_) (fun h => ?_)
    ·refine sk <| sq <| bk <| AW.vlen 0 rfl fun hvl0_266 => ?_
     obtain ⟨x19, hx19, x20, hx20, x21, hx21, x22, hx22, h⟩ := bs4 h
     refine AR Zw (by kernel_rfl) <| SMw rfl <| SMd rfl <| SMw rfl <| SMd rfl <| Sd (lo [40] [] rfl fun S hs hr => Z0u rfl rfl (vh hs 40 rfl rfl) (vk rfl)) <| SMw rfl <| SMd rfl <| Sd (lo [43] [] rfl fun S hs hr => Z0u rfl rfl (vh hs 43 rfl rfl) (vk rfl)) <| Sd (lo [42, 44] [] rfl fun S hs hr => Z24 (l := l13) hvl0_266 rfl rfl rfl Z15 (vh hs 42 rfl rfl) (vh hs 44 rfl rfl) hx19) <| Sd (lo [45] [0] rfl fun S hs hr => Z1t 0 rfl rfl Z11 (vh hs 45 rfl rfl) ((hr 0 rfl).trans rfl) (Z0m hx19).2) <| SMw rfl <| SMd rfl <| Sd (lo [47, 48] [] rfl fun S hs hr => Z24 (l := l13) hvl0_266 rfl rfl rfl Z15 (vh hs 47 rfl rfl) (vh hs 48 rfl rfl) hx20) <| Sd (lo [49] [0] rfl fun S hs hr => Z1t 0 rfl rfl Z11 (vh hs 49 rfl rfl) ((hr 0 rfl).trans rfl) (Z0m hx20).2) <| Sd (lo [37, 38] [] rfl fun S hs hr => Z24 (l := l13) hvl0_266 rfl rfl rfl Z15 (vh hs 37 rfl rfl) (vh hs 38 rfl rfl) hx21) <| Sd (Z47 [51, 46] [0] rfl fun S hs hr => Z3w 0 rfl rfl Z11 (vh hs 51 rfl rfl) ((hr 0 rfl).trans rfl) (Z0m hx21).2 (vh hs 46 rfl rfl)) <| Sd (lo [39, 41] [] rfl fun S hs hr => Z24 (l := (List.set l13 j14.toNat x19)) hvl0_266 (by simp) rfl rfl Z15 (vh hs 39 rfl rfl) (vh hs 41 rfl rfl) hx22) <| Sd (Z47 [52, 50] [0] rfl fun S hs hr => Z3w 0 rfl rfl Z11 (vh hs 52 rfl rfl) ((hr 0 rfl).trans rfl) (Z0m hx22).2 (vh hs 50 rfl rfl)) <| Sn <| Rg <| Md rfl <| Ac (Z0u rfl rfl (vt rfl) (vk rfl)) rfl <| As rfl <| Nl ?_
     exact ⟨(_, _, _), Nat.lt_succ_self _, ⟨trivial, h⟩, FX rfl⟩
    ·refine xt <| Rg <| Md rfl <| Ac (Z0o rfl rfl (vt rfl) (vk rfl)) rfl <| As rfl <| Nl ?_
     exact ⟨(_, _, _), Nat.lt_succ_self _, ⟨trivial, h⟩, FX rfl⟩
  ·refine xt ?_
   cases h; exact Z1j (i := 0) Tryz.results310 rfl rfl
def Zem (n5 : Int) (b4 : Int) (a3 : Int) : Nat → (List Action) → Int → Option (List Action)
 | 0, _, _ => none
 | m11 + 1, l9, i10 => (bif (decide (i10 < n5)) then (lget l9 (IntKind.i64.wrap (b4 + i10))).bind fun x12 => (lget l9 (IntKind.i64.wrap (a3 + i10))).bind fun x13 => (lget l9 (IntKind.i64.wrap (a3 + i10))).bind fun x14 => (lget (List.set l9 (IntKind.i64.wrap (a3 + i10)).toNat x12) (IntKind.i64.wrap (b4 + i10))).bind fun x15 => (Zem n5 b4 a3 m11) (List.set (List.set l9 (IntKind.i64.wrap (a3 + i10)).toNat x12) (IntKind.i64.wrap (b4 + i10)).toNat x13) (IntKind.i64.wrap (i10 + 1)) else some l9)
def Ze4 (d1 : (List Action)) (a3 : Int) (b4 : Int) (n5 : Int) (x6 : (Action → Action → Option Int)) : Option (List Action) :=
 Zem n5 b4 a3 (((n5 : Int) - 0).toNat + 1) d1 0
theorem Zsd (v2 : Value) (d1 : (List Action)) (a3 : Int) (b4 : Int) (n5 : Int) (x6 : (Action → Action → Option Int)) (r : (List Action)) (h : Ze4 d1 a3 b4 n5 x6 = some r) : Con Tryz.prog 343 [Zn v2, rd (Z0 .i64) a3, rd (Z0 .i64) b4, rd (Z0 .i64) n5, fn2 Tryz.prog Z9 Z9 (Z0 .i64) x6] (Zb v2 121 Z9 d1) (fun _ : Unit => top) (fun _ => Zb v2 121 Z9 r) := by
 refine Con.intro Tryz.func343 rfl Tryz.ntmps343 rfl fun w H X => ?_
 unfold Ze4 at h
 refine SR <| Ak rfl <| Nl <| bk <| LG (d := []) (ν := Nat × (List Action) × Int) (fun (m11, l9, i10) => (True ∧ Zem n5 b4 a3 m11 l9 i10 = some r, m11, [(0, Zn v2), (1, rd (Z0 .i64) a3), (2, rd (Z0 .i64) b4), (3, rd (Z0 .i64) n5), (10, rd (Z0 .i64) i10)], [(0, Zb v2 121 Z9 l9)])) ((((n5 : Int) - 0).toNat + 1), d1, 0) ⟨trivial, h⟩ (FX rfl) ?_
 rintro ⟨m11, l9, i10⟩ ⟨hsf1, h⟩
 dsimp only at h ⊢
 cases m11 with
 | zero => cases h
 | succ m11 =>
  unfold Zem at h
  refine sq <| SR <| Md rfl <| Md rfl <| Ac (Zi rfl rfl (vt rfl) (vt rfl)) rfl <| Nl <| Cq rfl h (fun h => ?_) (fun h => ?_)
  ·refine sk <| sq <| bk <| AW.vlen 0 rfl fun hvl0_123 => ?_
   obtain ⟨x12, hx12, x13, hx13, x14, hx14, x15, hx15, h⟩ := bs4 h
   refine AR Zw (by kernel_rfl) <| SMw rfl <| SMd rfl <| SMd rfl <| Sd (lo [17, 18] [] rfl fun S hs hr => Z0o rfl rfl (vh hs 17 rfl rfl) (vh hs 18 rfl rfl)) <| SMw rfl <| SMd rfl <| SMd rfl <| Sd (lo [21, 22] [] rfl fun S hs hr => Z0o rfl rfl (vh hs 21 rfl rfl) (vh hs 22 rfl rfl)) <| SMw rfl <| SMd rfl <| SMd rfl <| Sd (lo [25, 26] [] rfl fun S hs hr => Z0o rfl rfl (vh hs 25 rfl rfl) (vh hs 26 rfl rfl)) <| Sd (lo [24, 27] [] rfl fun S hs hr => Z24 (l := l9) hvl0_123 rfl rfl rfl Z15 (vh hs 24 rfl rfl) (vh hs 27 rfl rfl) hx12) <| Sd (lo [28] [0] rfl fun S hs hr => Z1t 0 rfl rfl Z11 (vh hs 28 rfl rfl) ((hr 0 rfl).trans rfl) (Z0m hx12).2) <| SMw rfl <| SMd rfl <| SMd rfl <| Sd (lo [31, 32] [] rfl fun S hs hr => Z0o rfl rfl (vh hs 31 rfl rfl) (vh hs 32 rfl rfl)) <| Sd (lo [30, 33] [] rfl fun S hs hr => Z24 (l := l9) hvl0_123 rfl rfl rfl Z15 (vh hs 30 rfl rfl) (vh hs 33 rfl rfl) hx13) <| Sd (lo [34] [0] rfl fun S hs hr => Z1t 0 rfl rfl Z11 (vh hs 34 rfl rfl) ((hr 0 rfl).trans rfl) (Z0m hx13).2) <| Sd (lo [16, 19] [] rfl fun S hs hr => Z24 (l := l9) hvl0_123 rfl rfl rfl Z15 (vh hs 16 rfl rfl) (vh hs 19 rfl rfl) hx14) <| Sd (Z47 [36, 29] [0] rfl fun S hs hr => Z3w 0 rfl rfl Z11 (vh hs 36 rfl rfl) ((hr 0 rfl).trans rfl) (Z0m hx14).2 (vh hs 29 rfl rfl)) <| Sd (lo [20, 23] [] rfl fun S hs hr => Z24 (l := (List.set l9 (IntKind.i64.wrap (a3 + i10)).toNat x12)) hvl0_123 (by simp) rfl rfl Z15 (vh hs 20 rfl rfl) (vh hs 23 rfl rfl) hx15) <| Sd (Z47 [37, 35] [0] rfl fun S hs hr => Z3w 0 rfl rfl Z11 (vh hs 37 rfl rfl) ((hr 0 rfl).trans rfl) (Z0m hx15).2 (vh hs 35 rfl rfl)) <| Sn <| Rg <| Md rfl <| Ac (Z0o rfl rfl (vt rfl) (vk rfl)) rfl <| As rfl <| Nl ?_
   exact ⟨(_, _, _), Nat.lt_succ_self _, ⟨trivial, h⟩, FX rfl⟩
  ·refine xt ?_
   cases h; exact Z1j (i := 0) Tryz.results343 rfl rfl
end Go.Proofs.YtknpgojdkobgjaaGreat.W
set_option maxRecDepth 4000
namespace Go.Proofs.YtknpgojdkobgjaaGreat.W
open Go Go.Wb
theorem Zt5 : Ent Tryz.prog 343 := Ent.mk Tryz.func343 rfl rfl
theorem Zpo : Ent Tryz.prog 311 := Ent.mk Tryz.func311 rfl rfl
theorem Yjr : Ent Tryz.prog 335 := Ent.mk Tryz.func335 rfl rfl
theorem Zw8 : Ent Tryz.prog 310 := Ent.mk Tryz.func310 rfl rfl
theorem Y9x : Ent Tryz.prog 274 := Ent.mk Tryz.func274 rfl rfl
theorem Y6j : Ent Tryz.prog 213 := Ent.mk Tryz.func213 rfl rfl
theorem Ya8 : Ent Tryz.prog 214 := Ent.mk Tryz.func214 rfl rfl
theorem Ynz : Ent Tryz.prog 217 := Ent.mk Tryz.func217 rfl rfl
theorem Ylb : Ent Tryz.prog 215 := Ent.mk Tryz.func215 rfl rfl
theorem Yd7 : Ent Tryz.prog 219 := Ent.mk Tryz.func219 rfl rfl
theorem Ydz : Ent Tryz.prog 220 := Ent.mk Tryz.func220 rfl rfl
theorem Z84 : Ent Tryz.prog 204 := Ent.mk Tryz.func204 rfl rfl
theorem Zp7 : Ent Tryz.prog 149 := Ent.mk Tryz.func149 rfl rfl
theorem Zym : Ent Tryz.prog 205 := Ent.mk Tryz.func205 rfl rfl
theorem Zmz : Ent Tryz.prog 206 := Ent.mk Tryz.func206 rfl rfl
theorem Y48 : Ent Tryz.prog 208 := Ent.mk Tryz.func208 rfl rfl
def Zci (m4 : Int) (x6 : (Action → Action → Option Int)) : Nat → (List Action) → Int → Int → Option (List Action)
 | 0, _, _, _ => none
 | m13 + 1, l10, i11, j12 => (bif (decide (i11 ≠ j12)) then (bif (decide (i11 > j12)) then (Ze4 l10 (IntKind.i64.wrap (m4 - i11)) m4 j12 x6).bind fun l14 => (Zci m4 x6 m13) l14 (IntKind.i64.wrap (i11 - j12)) j12 else (Ze4 l10 (IntKind.i64.wrap (m4 - i11)) (IntKind.i64.wrap ((IntKind.i64.wrap (m4 + j12)) - i11)) i11 x6).bind fun l15 => (Zci m4 x6 m13) l15 i11 (IntKind.i64.wrap (j12 - i11))) else (Ze4 l10 (IntKind.i64.wrap (m4 - i11)) m4 i11 x6).bind fun l16 => some l16)
def Zhg (d1 : (List Action)) (a3 : Int) (m4 : Int) (b5 : Int) (x6 : (Action → Action → Option Int)) : Option (List Action) :=
 Zci m4 x6 Z0k d1 (IntKind.i64.wrap (m4 - a3)) (IntKind.i64.wrap (b5 - m4))
theorem Ycz (v2 : Value) (d1 : (List Action)) (a3 : Int) (m4 : Int) (b5 : Int) (x6 : (Action → Action → Option Int)) (r : (List Action)) (h : Zhg d1 a3 m4 b5 x6 = some r) : Con Tryz.prog 335 [Zn v2, rd (Z0 .i64) a3, rd (Z0 .i64) m4, rd (Z0 .i64) b5, fn2 Tryz.prog Z9 Z9 (Z0 .i64) x6] (Zb v2 121 Z9 d1) (fun _ : Unit => top) (fun _ => Zb v2 121 Z9 r) := by
 refine Con.intro Tryz.func335 rfl Tryz.ntmps335 rfl fun w H X => ?_
 unfold Zhg at h
 refine SR <| Md rfl <| Md rfl <| Ac (Z0u rfl rfl (vt rfl) (vt rfl)) rfl <| As rfl <| Nl <| SR <| Md rfl <| Md rfl <| Ac (Z0u rfl rfl (vt rfl) (vt rfl)) rfl <| As rfl <| Nl <| sq <| bk <| LG (d := []) (ν := Nat × (List Action) × Int × Int) (fun (m13, l10, i11, j12) => (True ∧ Zci m4 x6 m13 l10 i11 j12 = some r, m13, [(0, Zn v2), (2, rd (Z0 .i64) m4), (4, fn2 Tryz.prog Z9 Z9 (Z0 .i64) x6), (10, rd (Z0 .i64) i11), (11, rd (Z0 .i64) j12)], [(0, Zb v2 121 Z9 l10)])) (Z0k, d1, (IntKind.i64.wrap (m4 - a3)), (IntKind.i64.wrap (b5 - m4))) ⟨trivial, h⟩ (FX rfl) ?_
 rintro ⟨m13, l10, i11, j12⟩ ⟨hsf1, h⟩
 dsimp only at h ⊢
 cases m13 with
 | zero => cases h
 | succ m13 =>
  unfold Zci at h
  refine sq <| SR <| Md rfl <| Md rfl <| Ac (Z6y rfl rfl (vt rfl) (vt rfl)) rfl <| Nl <| Cq rfl h (fun h => ?_) (fun h => ?_)
  ·refine sk <| bk <| SR <| Md rfl <| Md rfl <| Ac (Z3e rfl rfl (vt rfl) (vt rfl)) rfl <| Nl <| Cq rfl h (fun h => ?_) (fun h => ?_)
   ·refine sq ?_
    obtain ⟨l14, hl14, h⟩ := Z8 h
    refine Rg <| Mw rfl <| Md rfl <| Md rfl <| Ac (Z0u rfl rfl (vt rfl) (vt rfl)) rfl <| Md rfl <| Md rfl <| Ac (Zu (A := fn2 Tryz.prog Z9 Z9 (Z0 .i64) x6) rfl rfl (vt rfl)) rfl <| Cv rfl (Z10 0 (xs := [.tmp 24, .tmp 27, .tmp 28, .tmp 29, .tmp 30]) (Zsd _ _ _ _ _ _ _ hl14) Zt5 rfl rfl ⟨vt rfl, vt rfl, vt rfl, vt rfl, vt rfl, trivial⟩ rfl) fun _u => Nl <| Rg <| Md rfl <| Md rfl <| Ac (Z0u rfl rfl (vt rfl) (vt rfl)) rfl <| As rfl <| Nl ?_
    exact ⟨(_, _, _, _), Nat.lt_succ_self _, ⟨trivial, h⟩, FX rfl⟩
   ·refine sq ?_
    obtain ⟨l15, hl15, h⟩ := Z8 h
    refine Rg <| Mw rfl <| Md rfl <| Md rfl <| Ac (Z0u rfl rfl (vt rfl) (vt rfl)) rfl <| Md rfl <| Md rfl <| Ac (Z0o rfl rfl (vt rfl) (vt rfl)) rfl <| Md rfl <| Ac (Z0u rfl rfl (vt rfl) (vt rfl)) rfl <| Md rfl <| Ac (Zu (A := fn2 Tryz.prog Z9 Z9 (Z0 .i64) x6) rfl rfl (vt rfl)) rfl <| Cv rfl (Z10 0 (xs := [.tmp 35, .tmp 38, .tmp 43, .tmp 44, .tmp 45]) (Zsd _ _ _ _ _ _ _ hl15) Zt5 rfl rfl ⟨vt rfl, vt rfl, vt rfl, vt rfl, vt rfl, trivial⟩ rfl) fun _u => Nl <| Rg <| Md rfl <| Md rfl <| Ac (Z0u rfl rfl (vt rfl) (vt rfl)) rfl <| As rfl <| Nl ?_
    exact ⟨(_, _, _, _), Nat.lt_succ_self _, ⟨trivial, h⟩, FX rfl⟩
  ·refine xt ?_
   obtain ⟨l16, hl16, h⟩ := Z8 h
   refine Rg <| Mw rfl <| Md rfl <| Md rfl <| Ac (Z0u rfl rfl (vt rfl) (vt rfl)) rfl <| Md rfl <| Md rfl <| Ac (Zu (A := fn2 Tryz.prog Z9 Z9 (Z0 .i64) x6) rfl rfl (vt rfl)) rfl <| Cv rfl (Z10 0 (xs := [.tmp 50, .tmp 53, .tmp 54, .tmp 55, .tmp 56]) (Zsd _ _ _ _ _ _ _ hl16) Zt5 rfl rfl ⟨vt rfl, vt rfl, vt rfl, vt rfl, vt rfl, trivial⟩ rfl) fun _u => Nl ?_
   cases h; exact Z1j (i := 0) Tryz.results335 rfl rfl
def Z9n (i9 : Int) : Nat → (List Action) → Int → Option (List Action)
 | 0, _, _ => none
 | m20 + 1, l18, k19 => (bif (decide (k19 < (IntKind.i64.wrap (i9 - 1)))) then (lget l18 (IntKind.i64.wrap (k19 + 1))).bind fun x21 => (lget l18 k19).bind fun x22 => (lget l18 k19).bind fun x23 => (lget (List.set l18 k19.toNat x21) (IntKind.i64.wrap (k19 + 1))).bind fun x24 => (Z9n i9 m20) (List.set (List.set l18 k19.toNat x21) (IntKind.i64.wrap (k19 + 1)).toNat x22) (IntKind.i64.wrap (k19 + 1)) else some l18)
def Z9x (d1 : (List Action)) (a3 : Int) (x6 : (Action → Action → Option Int)) : Nat → Int → Int → Option (List Action)
 | 0, _, _ => none
 | m11 + 1, i9, j10 => (bif (decide (i9 < j10)) then (Z3i (BitVec.ofInt 64 (IntKind.i64.wrap (i9 + j10))) ((1 : BitVec 64).toNat : Int)).bind fun q12 => (lget d1 (IntKind.i64.wrap (q12.toNat : Int))).bind fun x13 => (lget d1 a3).bind fun x14 => (x6 x13 x14).bind fun x15 => (bif (decide (x15 < 0)) then (Z9x d1 a3 x6 m11) (IntKind.i64.wrap ((IntKind.i64.wrap (q12.toNat : Int)) + 1)) j10 else (Z9x d1 a3 x6 m11) i9 (IntKind.i64.wrap (q12.toNat : Int))) else Z9n i9 ((((IntKind.i64.wrap (i9 - 1)) : Int) - a3).toNat + 1) d1 a3)
def Z9g (i27 : Int) : Nat → (List Action) → Int → Option (List Action)
 | 0, _, _ => none
 | m38 + 1, l36, k37 => (bif (decide (k37 > i27)) then (lget l36 (IntKind.i64.wrap (k37 - 1))).bind fun x39 => (lget l36 k37).bind fun x40 => (lget l36 k37).bind fun x41 => (lget (List.set l36 k37.toNat x39) (IntKind.i64.wrap (k37 - 1))).bind fun x42 => (Z9g i27 m38) (List.set (List.set l36 k37.toNat x39) (IntKind.i64.wrap (k37 - 1)).toNat x40) (IntKind.i64.wrap (k37 - 1)) else some l36)
def Z9t (d1 : (List Action)) (m4 : Int) (x6 : (Action → Action → Option Int)) : Nat → Int → Int → Option (List Action)
 | 0, _, _ => none
 | m29 + 1, i27, j28 => (bif (decide (i27 < j28)) then (Z3i (BitVec.ofInt 64 (IntKind.i64.wrap (i27 + j28))) ((1 : BitVec 64).toNat : Int)).bind fun q30 => (lget d1 m4).bind fun x31 => (lget d1 (IntKind.i64.wrap (q30.toNat : Int))).bind fun x32 => (x6 x31 x32).bind fun x33 => (bif (!(decide (x33 < 0))) then (Z9t d1 m4 x6 m29) (IntKind.i64.wrap ((IntKind.i64.wrap (q30.toNat : Int)) + 1)) j28 else (Z9t d1 m4 x6 m29) i27 (IntKind.i64.wrap (q30.toNat : Int))) else Z9g i27 (((m4 : Int) - i27).toNat + 1) d1 m4)
def Zg3 (q43 : (BitVec 64)) (m4 : Int) (s48 : Int) (b5 : Int) (R_slices_symMergeCmpFunc_Action : ((List Action) → Int → Int → Int → (Action → Action → Option Int) → Option (List Action))) (x6 : (Action → Action → Option Int)) (l56 : (List Action)) : Option (List Action) :=
 (bif ((decide ((IntKind.i64.wrap (q43.toNat : Int)) < (IntKind.i64.wrap ((IntKind.i64.wrap ((IntKind.i64.wrap (q43.toNat : Int)) + m4)) - s48)))) && (decide ((IntKind.i64.wrap ((IntKind.i64.wrap ((IntKind.i64.wrap (q43.toNat : Int)) + m4)) - s48)) < b5))) then (R_slices_symMergeCmpFunc_Action l56 (IntKind.i64.wrap (q43.toNat : Int)) (IntKind.i64.wrap ((IntKind.i64.wrap ((IntKind.i64.wrap (q43.toNat : Int)) + m4)) - s48)) b5 x6).bind fun l57 => some l57 else some l56)
def Zbf (a3 : Int) (s48 : Int) (q43 : (BitVec 64)) (R_slices_symMergeCmpFunc_Action : ((List Action) → Int → Int → Int → (Action → Action → Option Int) → Option (List Action))) (x6 : (Action → Action → Option Int)) (m4 : Int) (b5 : Int) (l55 : (List Action)) : Option (List Action) :=
 (bif ((decide (a3 < s48)) && (decide (s48 < (IntKind.i64.wrap (q43.toNat : Int))))) then (R_slices_symMergeCmpFunc_Action l55 a3 s48 (IntKind.i64.wrap (q43.toNat : Int)) x6).bind fun l58 => Zg3 q43 m4 s48 b5 R_slices_symMergeCmpFunc_Action x6 l58 else Zg3 q43 m4 s48 b5 R_slices_symMergeCmpFunc_Action x6 l55)
def Zaj (d1 : (List Action)) (q43 : (BitVec 64)) (m4 : Int) (x6 : (Action → Action → Option Int)) (a3 : Int) (R_slices_symMergeCmpFunc_Action : ((List Action) → Int → Int → Int → (Action → Action → Option Int) → Option (List Action))) (b5 : Int) : Nat → Int → Int → Option (List Action)
 | 0, _, _ => none
 | m50 + 1, s48, x49 => (bif (decide (s48 < x49)) then (Z3i (BitVec.ofInt 64 (IntKind.i64.wrap (s48 + x49))) ((1 : BitVec 64).toNat : Int)).bind fun q51 => (lget d1 (IntKind.i64.wrap ((IntKind.i64.wrap ((IntKind.i64.wrap ((IntKind.i64.wrap (q43.toNat : Int)) + m4)) - 1)) - (IntKind.i64.wrap (q51.toNat : Int))))).bind fun x52 => (lget d1 (IntKind.i64.wrap (q51.toNat : Int))).bind fun x53 => (x6 x52 x53).bind fun x54 => (bif (!(decide (x54 < 0))) then (Zaj d1 q43 m4 x6 a3 R_slices_symMergeCmpFunc_Action b5 m50) (IntKind.i64.wrap ((IntKind.i64.wrap (q51.toNat : Int)) + 1)) x49 else (Zaj d1 q43 m4 x6 a3 R_slices_symMergeCmpFunc_Action b5 m50) s48 (IntKind.i64.wrap (q51.toNat : Int))) else (bif ((decide (s48 < m4)) && (decide (m4 < (IntKind.i64.wrap ((IntKind.i64.wrap ((IntKind.i64.wrap (q43.toNat : Int)) + m4)) - s48))))) then (Zhg d1 s48 m4 (IntKind.i64.wrap ((IntKind.i64.wrap ((IntKind.i64.wrap (q43.toNat : Int)) + m4)) - s48)) x6).bind fun l59 => Zbf a3 s48 q43 R_slices_symMergeCmpFunc_Action x6 m4 b5 l59 else Zbf a3 s48 q43 R_slices_symMergeCmpFunc_Action x6 m4 b5 d1))
def Zhx (d1 : (List Action)) (q43 : (BitVec 64)) (m4 : Int) (x6 : (Action → Action → Option Int)) (a3 : Int) (R_slices_symMergeCmpFunc_Action : ((List Action) → Int → Int → Int → (Action → Action → Option Int) → Option (List Action))) (b5 : Int) (s44 : Int) (x45 : Int) : Option (List Action) :=
 Zaj d1 q43 m4 x6 a3 R_slices_symMergeCmpFunc_Action b5 (((x45 : Int) - s44).toNat + 1) s44 x45
def Zjf (R_slices_symMergeCmpFunc_Action : ((List Action) → Int → Int → Int → (Action → Action → Option Int) → Option (List Action))) (d1 : (List Action)) (a3 : Int) (m4 : Int) (b5 : Int) (x6 : (Action → Action → Option Int)) : Option (List Action) :=
 (bif (decide ((IntKind.i64.wrap (m4 - a3)) = 1)) then Z9x d1 a3 x6 (((b5 : Int) - m4).toNat + 1) m4 b5 else (bif (decide ((IntKind.i64.wrap (b5 - m4)) = 1)) then Z9t d1 m4 x6 (((m4 : Int) - a3).toNat + 1) a3 m4 else (Z3i (BitVec.ofInt 64 (IntKind.i64.wrap (a3 + b5))) ((1 : BitVec 64).toNat : Int)).bind fun q43 => (bif (decide (m4 > (IntKind.i64.wrap (q43.toNat : Int)))) then Zhx d1 q43 m4 x6 a3 R_slices_symMergeCmpFunc_Action b5 (IntKind.i64.wrap ((IntKind.i64.wrap ((IntKind.i64.wrap (q43.toNat : Int)) + m4)) - b5)) (IntKind.i64.wrap (q43.toNat : Int)) else Zhx d1 q43 m4 x6 a3 R_slices_symMergeCmpFunc_Action b5 a3 m4)))
theorem Yls (R_slices_symMergeCmpFunc_Action : ((List Action) → Int → Int → Int → (Action → Action → Option Int) → Option (List Action))) (hR_slices_symMergeCmpFunc_Action : ∀ (v2 : Value) (d1 : (List Action)) (a3 : Int) (m4 : Int) (b5 : Int) (x6 : (Action → Action → Option Int)) (r : (List Action)), R_slices_symMergeCmpFunc_Action d1 a3 m4 b5 x6 = some r → Con Tryz.prog 311 [Zn v2, rd (Z0 .i64) a3, rd (Z0 .i64) m4, rd (Z0 .i64) b5, fn2 Tryz.prog Z9 Z9 (Z0 .i64) x6] (Zb v2 121 Z9 d1) (fun _ : Unit => top) (fun _ => Zb v2 121 Z9 r)) (v2 : Value) (d1 : (List Action)) (a3 : Int) (m4 : Int) (b5 : Int) (x6 : (Action → Action → Option Int)) (r : (List Action)) (h : Zjf R_slices_symMergeCmpFunc_Action d1 a3 m4 b5 x6 = some r) : Con Tryz.prog 311 [Zn v2, rd (Z0 .i64) a3, rd (Z0 .i64) m4, rd (Z0 .i64) b5, fn2 Tryz.prog Z9 Z9 (Z0 .i64) x6] (Zb v2 121 Z9 d1) (fun _ : Unit => top) (fun _ => Zb v2 121 Z9 r) := by
 refine Con.intro Tryz.func311 rfl Tryz.ntmps311 rfl fun w H X => ?_
 unfold Zjf at h
 refine sq <| SR <| Md rfl <| Md rfl <| Ac (Z0u rfl rfl (vt rfl) (vt rfl)) rfl <| Ac (Z21 rfl rfl (vt rfl) (vk rfl)) rfl <| Nl <| Cq rfl h (fun h => ?_) (fun h => ?_)
 ·refine SR <| Md rfl <| As rfl <| Nl <| SR <| Md rfl <| As rfl <| Nl <| sq <| bk <| LG (d := []) (ν := Nat × Int × Int) (fun (m11, i9, j10) => (True ∧ Z9x d1 a3 x6 m11 i9 j10 = some r, m11, [(0, Zn v2), (1, rd (Z0 .i64) a3), (4, fn2 Tryz.prog Z9 Z9 (Z0 .i64) x6), (10, rd (Z0 .i64) i9), (11, rd (Z0 .i64) j10)], [(0, Zb v2 121 Z9 d1)])) ((((b5 : Int) - m4).toNat + 1), m4, b5) ⟨trivial, h⟩ (FX rfl) ?_
  rintro ⟨m11, i9, j10⟩ ⟨hsf1, h⟩
  dsimp only at h ⊢
  cases m11 with
  | zero => cases h
  | succ m11 =>
   unfold Z9x at h
   refine sq <| SR <| Md rfl <| Md rfl <| Ac (Zi rfl rfl (vt rfl) (vt rfl)) rfl <| Nl <| Cq rfl h (fun h => ?_) (fun h => ?_)
   ·refine sk <| bk <| sq ?_
    obtain ⟨q12, hq12, h⟩ := Z8 h
    refine Rg <| Md rfl <| Md rfl <| Ac (Z0o rfl rfl (vt rfl) (vt rfl)) rfl <| Ac (Z8r rfl rfl us3 Zam (vt rfl)) rfl <| Ac (Z63 rfl rfl (vt rfl) (Z60 (vku (1 : BitVec 64) rfl)) hq12) rfl <| Ac (Z9h rfl rfl Zbu un3 (vt rfl)) rfl <| As rfl <| Nl <| sq ?_
    obtain ⟨x13, hx13, x14, hx14, x15, hx15, h⟩ := bs3 h
    refine AR Zw (by kernel_rfl) <| Sd (lo [4] [] rfl fun S hs hr => Zu (A := fn2 Tryz.prog Z9 Z9 (Z0 .i64) x6) rfl rfl (vh hs 4 rfl rfl)) <| SMw rfl <| SMd rfl <| Sd (lo [41, 42] [0] rfl fun S hs hr => Z2j 0 rfl rfl Z15 (vh hs 41 rfl rfl) ((hr 0 rfl).trans rfl) (vh hs 42 rfl rfl) hx13) <| Sd (lo [43] [0] rfl fun S hs hr => Z1t 0 rfl rfl Z11 (vh hs 43 rfl rfl) ((hr 0 rfl).trans rfl) (Z0m hx13).2) <| SMw rfl <| SMd rfl <| Sd (lo [45, 46] [0] rfl fun S hs hr => Z2j 0 rfl rfl Z15 (vh hs 45 rfl rfl) ((hr 0 rfl).trans rfl) (vh hs 46 rfl rfl) hx14) <| Sd (lo [47] [0] rfl fun S hs hr => Z1t 0 rfl rfl Z11 (vh hs 47 rfl rfl) ((hr 0 rfl).trans rfl) (Z0m hx14).2) <| Sd (lo [40, 44, 48] [] rfl fun S hs hr => Zb8 hx15 rfl rfl (vh hs 40 rfl rfl) (vh hs 44 rfl rfl) (vh hs 48 rfl rfl)) <| Sd (lo [49] [] rfl fun S hs hr => Zi rfl rfl (vh hs 49 rfl rfl) (vk rfl)) <| Sn <| Cq rfl h (fun h => ?_) (fun h => ?_)
    ·refine Rg <| Md rfl <| Ac (Z0o rfl rfl (vt rfl) (vk rfl)) rfl <| As rfl <| Nl ?_
     exact ⟨(_, _, _), Nat.lt_succ_self _, ⟨trivial, h⟩, FX rfl⟩
    ·refine Rg <| Md rfl <| As rfl <| Nl ?_
     exact ⟨(_, _, _), Nat.lt_succ_self _, ⟨trivial, h⟩, FX rfl⟩
   ·refine xt <| sq <| SR <| Md rfl <| As rfl <| Nl <| bk <| LG (d := []) (ν := Nat × (List Action) × Int) (fun (m20, l18, k19) => (True ∧ Z9n i9 m20 l18 k19 = some r, m20, [(0, Zn v2), (10, rd (Z0 .i64) i9), (13, rd (Z0 .i64) k19)], [(0, Zb v2 121 Z9 l18)])) (((((IntKind.i64.wrap (i9 - 1)) : Int) - a3).toNat + 1), d1, a3) ⟨trivial, h⟩ (FX rfl) ?_
    rintro ⟨m20, l18, k19⟩ ⟨hsf2, h⟩
    dsimp only at h ⊢
    cases m20 with
    | zero => cases h
    | succ m20 =>
     unfold Z9n at h
     refine sq <| SR <| Md rfl <| Md rfl <| Ac (Z0u rfl rfl (vt rfl) (vk rfl)) rfl <| Ac (Zi rfl rfl (vt rfl) (vt rfl)) rfl <| Nl <| Cq rfl h (fun h => ?_) (fun h => ?_)
     ·refine sk <| sq <| bk <| AW.vlen 0 rfl fun hvl0_205 => ?_
      obtain ⟨x21, hx21, x22, hx22, x23, hx23, x24, hx24, h⟩ := bs4 h
      refine AR Zw (by kernel_rfl) <| SMw rfl <| SMd rfl <| SMw rfl <| SMd rfl <| Sd (lo [64] [] rfl fun S hs hr => Z0o rfl rfl (vh hs 64 rfl rfl) (vk rfl)) <| SMw rfl <| SMd rfl <| Sd (lo [67] [] rfl fun S hs hr => Z0o rfl rfl (vh hs 67 rfl rfl) (vk rfl)) <| Sd (lo [66, 68] [] rfl fun S hs hr => Z24 (l := l18) hvl0_205 rfl rfl rfl Z15 (vh hs 66 rfl rfl) (vh hs 68 rfl rfl) hx21) <| Sd (lo [69] [0] rfl fun S hs hr => Z1t 0 rfl rfl Z11 (vh hs 69 rfl rfl) ((hr 0 rfl).trans rfl) (Z0m hx21).2) <| SMw rfl <| SMd rfl <| Sd (lo [71, 72] [] rfl fun S hs hr => Z24 (l := l18) hvl0_205 rfl rfl rfl Z15 (vh hs 71 rfl rfl) (vh hs 72 rfl rfl) hx22) <| Sd (lo [73] [0] rfl fun S hs hr => Z1t 0 rfl rfl Z11 (vh hs 73 rfl rfl) ((hr 0 rfl).trans rfl) (Z0m hx22).2) <| Sd (lo [61, 62] [] rfl fun S hs hr => Z24 (l := l18) hvl0_205 rfl rfl rfl Z15 (vh hs 61 rfl rfl) (vh hs 62 rfl rfl) hx23) <| Sd (Z47 [75, 70] [0] rfl fun S hs hr => Z3w 0 rfl rfl Z11 (vh hs 75 rfl rfl) ((hr 0 rfl).trans rfl) (Z0m hx23).2 (vh hs 70 rfl rfl)) <| Sd (lo [63, 65] [] rfl fun S hs hr => Z24 (l := (List.set l18 k19.toNat x21)) hvl0_205 (by simp) rfl rfl Z15 (vh hs 63 rfl rfl) (vh hs 65 rfl rfl) hx24) <| Sd (Z47 [76, 74] [0] rfl fun S hs hr => Z3w 0 rfl rfl Z11 (vh hs 76 rfl rfl) ((hr 0 rfl).trans rfl) (Z0m hx24).2 (vh hs 74 rfl rfl)) <| Sn <| Rg <| Md rfl <| Ac (Z0o rfl rfl (vt rfl) (vk rfl)) rfl <| As rfl <| Nl ?_
      exact ⟨(_, _, _), Nat.lt_succ_self _, ⟨trivial, h⟩, FX rfl⟩
     ·refine xt <| rt ?_
      cases h; exact Z1j (i := 0) Tryz.results311 rfl rfl
 ·refine sk <| sq <| SR <| Md rfl <| Md rfl <| Ac (Z0u rfl rfl (vt rfl) (vt rfl)) rfl <| Ac (Z21 rfl rfl (vt rfl) (vk rfl)) rfl <| Nl <| Cq rfl h (fun h => ?_) (fun h => ?_)
  ·refine SR <| Md rfl <| As rfl <| Nl <| SR <| Md rfl <| As rfl <| Nl <| sq <| bk <| LG (d := []) (ν := Nat × Int × Int) (fun (m29, i27, j28) => (True ∧ Z9t d1 m4 x6 m29 i27 j28 = some r, m29, [(0, Zn v2), (2, rd (Z0 .i64) m4), (4, fn2 Tryz.prog Z9 Z9 (Z0 .i64) x6), (14, rd (Z0 .i64) i27), (15, rd (Z0 .i64) j28)], [(0, Zb v2 121 Z9 d1)])) ((((m4 : Int) - a3).toNat + 1), a3, m4) ⟨trivial, h⟩ (FX rfl) ?_
   rintro ⟨m29, i27, j28⟩ ⟨hsf3, h⟩
   dsimp only at h ⊢
   cases m29 with
   | zero => cases h
   | succ m29 =>
    unfold Z9t at h
    refine sq <| SR <| Md rfl <| Md rfl <| Ac (Zi rfl rfl (vt rfl) (vt rfl)) rfl <| Nl <| Cq rfl h (fun h => ?_) (fun h => ?_)
    ·refine sk <| bk <| sq ?_
     obtain ⟨q30, hq30, h⟩ := Z8 h
     refine Rg <| Md rfl <| Md rfl <| Ac (Z0o rfl rfl (vt rfl) (vt rfl)) rfl <| Ac (Z8r rfl rfl us3 Zam (vt rfl)) rfl <| Ac (Z63 rfl rfl (vt rfl) (Z60 (vku (1 : BitVec 64) rfl)) hq30) rfl <| Ac (Z9h rfl rfl Zbu un3 (vt rfl)) rfl <| As rfl <| Nl <| sq ?_
     obtain ⟨x31, hx31, x32, hx32, x33, hx33, h⟩ := bs3 h
     refine AR Zw (by kernel_rfl) <| Sd (lo [4] [] rfl fun S hs hr => Zu (A := fn2 Tryz.prog Z9 Z9 (Z0 .i64) x6) rfl rfl (vh hs 4 rfl rfl)) <| SMw rfl <| SMd rfl <| Sd (lo [93, 94] [0] rfl fun S hs hr => Z2j 0 rfl rfl Z15 (vh hs 93 rfl rfl) ((hr 0 rfl).trans rfl) (vh hs 94 rfl rfl) hx31) <| Sd (lo [95] [0] rfl fun S hs hr => Z1t 0 rfl rfl Z11 (vh hs 95 rfl rfl) ((hr 0 rfl).trans rfl) (Z0m hx31).2) <| SMw rfl <| SMd rfl <| Sd (lo [97, 98] [0] rfl fun S hs hr => Z2j 0 rfl rfl Z15 (vh hs 97 rfl rfl) ((hr 0 rfl).trans rfl) (vh hs 98 rfl rfl) hx32) <| Sd (lo [99] [0] rfl fun S hs hr => Z1t 0 rfl rfl Z11 (vh hs 99 rfl rfl) ((hr 0 rfl).trans rfl) (Z0m hx32).2) <| Sd (lo [92, 96, 100] [] rfl fun S hs hr => Zb8 hx33 rfl rfl (vh hs 92 rfl rfl) (vh hs 96 rfl rfl) (vh hs 100 rfl rfl)) <| Sd (lo [101] [] rfl fun S hs hr => Zi rfl rfl (vh hs 101 rfl rfl) (vk rfl)) <| Sd (lo [102] [] rfl fun S hs hr => Z0x rfl rfl (vh hs 102 rfl rfl)) <| Sn <| Cq rfl h (fun h => ?_) (fun h => ?_)
     ·refine Rg <| Md rfl <| Ac (Z0o rfl rfl (vt rfl) (vk rfl)) rfl <| As rfl <| Nl ?_
      exact ⟨(_, _, _), Nat.lt_succ_self _, ⟨trivial, h⟩, FX rfl⟩
     ·refine Rg <| Md rfl <| As rfl <| Nl ?_
      exact ⟨(_, _, _), Nat.lt_succ_self _, ⟨trivial, h⟩, FX rfl⟩
    ·refine xt <| sq <| SR <| Md rfl <| As rfl <| Nl <| bk <| LG (d := []) (ν := Nat × (List Action) × Int) (fun (m38, l36, k37) => (True ∧ Z9g i27 m38 l36 k37 = some r, m38, [(0, Zn v2), (14, rd (Z0 .i64) i27), (17, rd (Z0 .i64) k37)], [(0, Zb v2 121 Z9 l36)])) ((((m4 : Int) - i27).toNat + 1), d1, m4) ⟨trivial, h⟩ (FX rfl) ?_
     rintro ⟨m38, l36, k37⟩ ⟨hsf4, h⟩
     dsimp only at h ⊢
     cases m38 with
     | zero => cases h
     | succ m38 =>
      unfold Z9g at h
      refine sq <| SR <| Md rfl <| Md rfl <| Ac (Z3e rfl rfl (vt rfl) (vt rfl)) rfl <| Nl <| Cq rfl h (fun h => ?_) (fun h => ?_)
      ·refine sk <| sq <| bk <| AW.vlen 0 rfl fun hvl0_446 => ?_
       obtain ⟨x39, hx39, x40, hx40, x41, hx41, x42, hx42, h⟩ := bs4 h
       refine AR Zw (by kernel_rfl) <| SMw rfl <| SMd rfl <| SMw rfl <| SMd rfl <| Sd (lo [116] [] rfl fun S hs hr => Z0u rfl rfl (vh hs 116 rfl rfl) (vk rfl)) <| SMw rfl <| SMd rfl <| Sd (lo [119] [] rfl fun S hs hr => Z0u rfl rfl (vh hs 119 rfl rfl) (vk rfl)) <| Sd (lo [118, 120] [] rfl fun S hs hr => Z24 (l := l36) hvl0_446 rfl rfl rfl Z15 (vh hs 118 rfl rfl) (vh hs 120 rfl rfl) hx39) <| Sd (lo [121] [0] rfl fun S hs hr => Z1t 0 rfl rfl Z11 (vh hs 121 rfl rfl) ((hr 0 rfl).trans rfl) (Z0m hx39).2) <| SMw rfl <| SMd rfl <| Sd (lo [123, 124] [] rfl fun S hs hr => Z24 (l := l36) hvl0_446 rfl rfl rfl Z15 (vh hs 123 rfl rfl) (vh hs 124 rfl rfl) hx40) <| Sd (lo [125] [0] rfl fun S hs hr => Z1t 0 rfl rfl Z11 (vh hs 125 rfl rfl) ((hr 0 rfl).trans rfl) (Z0m hx40).2) <| Sd (lo [113, 114] [] rfl fun S hs hr => Z24 (l := l36) hvl0_446 rfl rfl rfl Z15 (vh hs 113 rfl rfl) (vh hs 114 rfl rfl) hx41) <| Sd (Z47 [127, 122] [0] rfl fun S hs hr => Z3w 0 rfl rfl Z11 (vh hs 127 rfl rfl) ((hr 0 rfl).trans rfl) (Z0m hx41).2 (vh hs 122 rfl rfl)) <| Sd (lo [115, 117] [] rfl fun S hs hr => Z24 (l := (List.set l36 k37.toNat x39)) hvl0_446 (by simp) rfl rfl Z15 (vh hs 115 rfl rfl) (vh hs 117 rfl rfl) hx42) <| Sd (Z47 [128, 126] [0] rfl fun S hs hr => Z3w 0 rfl rfl Z11 (vh hs 128 rfl rfl) ((hr 0 rfl).trans rfl) (Z0m hx42).2 (vh hs 126 rfl rfl)) <| Sn <| Rg <| Md rfl <| Ac (Z0u rfl rfl (vt rfl) (vk rfl)) rfl <| As rfl <| Nl ?_
       exact ⟨(_, _, _), Nat.lt_succ_self _, ⟨trivial, h⟩, FX rfl⟩
      ·refine xt <| rt ?_
       cases h; exact Z1j (i := 0) Tryz.results311 rfl rfl
  ·refine sk <| sq ?_
   obtain ⟨q43, hq43, h⟩ := Z8 h
   refine Rg <| Md rfl <| Md rfl <| Ac (Z0o rfl rfl (vt rfl) (vt rfl)) rfl <| Ac (Z8r rfl rfl us3 Zam (vt rfl)) rfl <| Ac (Z63 rfl rfl (vt rfl) (Z60 (vku (1 : BitVec 64) rfl)) hq43) rfl <| Ac (Z9h rfl rfl Zbu un3 (vt rfl)) rfl <| As rfl <| Nl <| SR <| Md rfl <| Md rfl <| Ac (Z0o rfl rfl (vt rfl) (vt rfl)) rfl <| As rfl <| Nl <| SR <| Ak rfl <| Ak rfl <| Nl ?_
   refine JN (d := []) (ν := Int × Int) (fun (s44, x45) => (Zhx d1 q43 m4 x6 a3 R_slices_symMergeCmpFunc_Action b5 s44 x45 = some r, [(0, Zn v2), (1, rd (Z0 .i64) a3), (2, rd (Z0 .i64) m4), (3, rd (Z0 .i64) b5), (4, fn2 Tryz.prog Z9 Z9 (Z0 .i64) x6), (18, rd (Z0 .i64) (IntKind.i64.wrap (q43.toNat : Int))), (19, rd (Z0 .i64) (IntKind.i64.wrap ((IntKind.i64.wrap (q43.toNat : Int)) + m4))), (20, rd (Z0 .i64) s44), (21, rd (Z0 .i64) x45)], [(0, Zb v2 121 Z9 d1)])) ?hx5 ?hy5
   case hy5 =>
    rintro ⟨s44, x45⟩ h
    dsimp only at h ⊢
    unfold Zhx at h
    refine SR <| Md rfl <| Ac (Z0u rfl rfl (vt rfl) (vk rfl)) rfl <| As rfl <| Nl <| sq <| bk <| LG (d := []) (ν := Nat × Int × Int) (fun (m50, s48, x49) => (True ∧ Zaj d1 q43 m4 x6 a3 R_slices_symMergeCmpFunc_Action b5 m50 s48 x49 = some r, m50, [(0, Zn v2), (1, rd (Z0 .i64) a3), (2, rd (Z0 .i64) m4), (3, rd (Z0 .i64) b5), (4, fn2 Tryz.prog Z9 Z9 (Z0 .i64) x6), (18, rd (Z0 .i64) (IntKind.i64.wrap (q43.toNat : Int))), (19, rd (Z0 .i64) (IntKind.i64.wrap ((IntKind.i64.wrap (q43.toNat : Int)) + m4))), (20, rd (Z0 .i64) s48), (21, rd (Z0 .i64) x49), (22, rd (Z0 .i64) (IntKind.i64.wrap ((IntKind.i64.wrap ((IntKind.i64.wrap (q43.toNat : Int)) + m4)) - 1)))], [(0, Zb v2 121 Z9 d1)])) ((((x45 : Int) - s44).toNat + 1), s44, x45) ⟨trivial, h⟩ (FX rfl) ?_
    rintro ⟨m50, s48, x49⟩ ⟨hsf6, h⟩
    dsimp only at h ⊢
    cases m50 with
    | zero => cases h
    | succ m50 =>
     unfold Zaj at h
     refine sq <| SR <| Md rfl <| Md rfl <| Ac (Zi rfl rfl (vt rfl) (vt rfl)) rfl <| Nl <| Cq rfl h (fun h => ?_) (fun h => ?_)
     ·refine sk <| bk <| sq ?_
      obtain ⟨q51, hq51, h⟩ := Z8 h
      refine Rg <| Md rfl <| Md rfl <| Ac (Z0o rfl rfl (vt rfl) (vt rfl)) rfl <| Ac (Z8r rfl rfl us3 Zam (vt rfl)) rfl <| Ac (Z63 rfl rfl (vt rfl) (Z60 (vku (1 : BitVec 64) rfl)) hq51) rfl <| Ac (Z9h rfl rfl Zbu un3 (vt rfl)) rfl <| As rfl <| Nl <| sq ?_
      obtain ⟨x52, hx52, x53, hx53, x54, hx54, h⟩ := bs3 h
      refine AR Zw (by kernel_rfl) <| Sd (lo [4] [] rfl fun S hs hr => Zu (A := fn2 Tryz.prog Z9 Z9 (Z0 .i64) x6) rfl rfl (vh hs 4 rfl rfl)) <| SMw rfl <| SMd rfl <| SMd rfl <| Sd (lo [160, 161] [] rfl fun S hs hr => Z0u rfl rfl (vh hs 160 rfl rfl) (vh hs 161 rfl rfl)) <| Sd (lo [159, 162] [0] rfl fun S hs hr => Z2j 0 rfl rfl Z15 (vh hs 159 rfl rfl) ((hr 0 rfl).trans rfl) (vh hs 162 rfl rfl) hx52) <| Sd (lo [163] [0] rfl fun S hs hr => Z1t 0 rfl rfl Z11 (vh hs 163 rfl rfl) ((hr 0 rfl).trans rfl) (Z0m hx52).2) <| SMw rfl <| SMd rfl <| Sd (lo [165, 166] [0] rfl fun S hs hr => Z2j 0 rfl rfl Z15 (vh hs 165 rfl rfl) ((hr 0 rfl).trans rfl) (vh hs 166 rfl rfl) hx53) <| Sd (lo [167] [0] rfl fun S hs hr => Z1t 0 rfl rfl Z11 (vh hs 167 rfl rfl) ((hr 0 rfl).trans rfl) (Z0m hx53).2) <| Sd (lo [158, 164, 168] [] rfl fun S hs hr => Zb8 hx54 rfl rfl (vh hs 158 rfl rfl) (vh hs 164 rfl rfl) (vh hs 168 rfl rfl)) <| Sd (lo [169] [] rfl fun S hs hr => Zi rfl rfl (vh hs 169 rfl rfl) (vk rfl)) <| Sd (lo [170] [] rfl fun S hs hr => Z0x rfl rfl (vh hs 170 rfl rfl)) <| Sn <| Cq rfl h (fun h => ?_) (fun h => ?_)
      ·refine Rg <| Md rfl <| Ac (Z0o rfl rfl (vt rfl) (vk rfl)) rfl <| As rfl <| Nl ?_
       exact ⟨(_, _, _), Nat.lt_succ_self _, ⟨trivial, h⟩, FX rfl⟩
      ·refine Rg <| Md rfl <| As rfl <| Nl ?_
       exact ⟨(_, _, _), Nat.lt_succ_self _, ⟨trivial, h⟩, FX rfl⟩
     ·refine xt <| SR <| Md rfl <| Md rfl <| Ac (Z0u rfl rfl (vt rfl) (vt rfl)) rfl <| As rfl <| Nl ?_
      refine JN (d := []) (ν := (List Action)) (fun l55 => (Zbf a3 s48 q43 R_slices_symMergeCmpFunc_Action x6 m4 b5 l55 = some r, [(0, Zn v2), (1, rd (Z0 .i64) a3), (3, rd (Z0 .i64) b5), (4, fn2 Tryz.prog Z9 Z9 (Z0 .i64) x6), (18, rd (Z0 .i64) (IntKind.i64.wrap (q43.toNat : Int))), (20, rd (Z0 .i64) s48), (24, rd (Z0 .i64) (IntKind.i64.wrap ((IntKind.i64.wrap ((IntKind.i64.wrap (q43.toNat : Int)) + m4)) - s48)))], [(0, Zb v2 121 Z9 l55)])) ?hx7 ?hy7
      case hy7 =>
       intro l55 h
       dsimp only at h ⊢
       unfold Zbf at h
       refine JN (d := []) (ν := (List Action)) (fun l56 => (Zg3 q43 m4 s48 b5 R_slices_symMergeCmpFunc_Action x6 l56 = some r, [(0, Zn v2), (3, rd (Z0 .i64) b5), (4, fn2 Tryz.prog Z9 Z9 (Z0 .i64) x6), (18, rd (Z0 .i64) (IntKind.i64.wrap (q43.toNat : Int))), (24, rd (Z0 .i64) (IntKind.i64.wrap ((IntKind.i64.wrap ((IntKind.i64.wrap (q43.toNat : Int)) + m4)) - s48)))], [(0, Zb v2 121 Z9 l56)])) ?hx8 ?hy8
       case hy8 =>
        intro l56 h
        dsimp only at h ⊢
        unfold Zg3 at h
        refine SR <| Md rfl <| Md rfl <| Ac (Zi rfl rfl (vt rfl) (vt rfl)) rfl <| Md rfl <| Gd rfl (fun hq => Zu (A := rd (Z0 .i64) (IntKind.i64.wrap ((IntKind.i64.wrap ((IntKind.i64.wrap (q43.toNat : Int)) + m4)) - s48))) rfl rfl (vt rfl)) <| Gd rfl (fun hq => Zu (A := rd (Z0 .i64) b5) rfl rfl (vt rfl)) <| Gd rfl (fun hq => Zi rfl rfl (Zs rfl hq) (Zs rfl hq)) <| Ac (Z26 rfl rfl (vt rfl) (vt rfl)) rfl <| Nl <| Cq rfl h (fun h => ?_) (fun h => ?_)
        ·obtain ⟨l57, hl57, h⟩ := Z8 h
         refine Rg <| Mw rfl <| Md rfl <| Md rfl <| Md rfl <| Ac (Zu (A := fn2 Tryz.prog Z9 Z9 (Z0 .i64) x6) rfl rfl (vt rfl)) rfl <| Cv rfl (Z10 0 (xs := [.tmp 214, .tmp 215, .tmp 216, .tmp 217, .tmp 218]) (hR_slices_symMergeCmpFunc_Action _ _ _ _ _ _ _ hl57) Zpo rfl rfl ⟨vt rfl, vt rfl, vt rfl, vt rfl, vt rfl, trivial⟩ rfl) fun _u => Nl ?_
         cases h; exact Z1j (i := 0) Tryz.results311 rfl rfl
        ·refine sk ?_
         cases h; exact Z1j (i := 0) Tryz.results311 rfl rfl
       case hx8 =>
        refine SR <| Md rfl <| Md rfl <| Ac (Zi rfl rfl (vt rfl) (vt rfl)) rfl <| Md rfl <| Gd rfl (fun hq => Zu (A := rd (Z0 .i64) s48) rfl rfl (vt rfl)) <| Gd rfl (fun hq => Zu (A := rd (Z0 .i64) (IntKind.i64.wrap (q43.toNat : Int))) rfl rfl (vt rfl)) <| Gd rfl (fun hq => Zi rfl rfl (Zs rfl hq) (Zs rfl hq)) <| Ac (Z26 rfl rfl (vt rfl) (vt rfl)) rfl <| Nl <| Cq rfl h (fun h => ?_) (fun h => ?_)
        ·obtain ⟨l58, hl58, h⟩ := Z8 h
         refine Rg <| Mw rfl <| Md rfl <| Md rfl <| Md rfl <| Ac (Zu (A := fn2 Tryz.prog Z9 Z9 (Z0 .i64) x6) rfl rfl (vt rfl)) rfl <| Cv rfl (Z10 0 (xs := [.tmp 200, .tmp 201, .tmp 202, .tmp 203, .tmp 204]) (hR_slices_symMergeCmpFunc_Action _ _ _ _ _ _ _ hl58) Zpo rfl rfl ⟨vt rfl, vt rfl, vt rfl, vt rfl, vt rfl, trivial⟩ rfl) fun _u => Nl ?_
         exact ⟨_, h, FX rfl⟩
        ·refine sk ?_
         exact ⟨_, h, FX rfl⟩
      case hx7 =>
       refine SR <| Md rfl <| Md rfl <| Ac (Zi rfl rfl (vt rfl) (vt rfl)) rfl <| Md rfl <| Gd rfl (fun hq => Zu (A := rd (Z0 .i64) m4) rfl rfl (vt rfl)) <| Gd rfl (fun hq => Zu (A := rd (Z0 .i64) (IntKind.i64.wrap ((IntKind.i64.wrap ((IntKind.i64.wrap (q43.toNat : Int)) + m4)) - s48))) rfl rfl (vt rfl)) <| Gd rfl (fun hq => Zi rfl rfl (Zs rfl hq) (Zs rfl hq)) <| Ac (Z26 rfl rfl (vt rfl) (vt rfl)) rfl <| Nl <| Cq rfl h (fun h => ?_) (fun h => ?_)
       ·obtain ⟨l59, hl59, h⟩ := Z8 h
        refine Rg <| Mw rfl <| Md rfl <| Md rfl <| Md rfl <| Ac (Zu (A := fn2 Tryz.prog Z9 Z9 (Z0 .i64) x6) rfl rfl (vt rfl)) rfl <| Cv rfl (Z10 0 (xs := [.tmp 186, .tmp 187, .tmp 188, .tmp 189, .tmp 190]) (Ycz _ _ _ _ _ _ _ hl59) Yjr rfl rfl ⟨vt rfl, vt rfl, vt rfl, vt rfl, vt rfl, trivial⟩ rfl) fun _u => Nl ?_
        exact ⟨_, h, FX rfl⟩
       ·refine sk ?_
        exact ⟨_, h, FX rfl⟩
   case hx5 =>
    refine SR <| Md rfl <| Md rfl <| Ac (Z3e rfl rfl (vt rfl) (vt rfl)) rfl <| Nl <| Cq rfl h (fun h => ?_) (fun h => ?_)
    ·refine SR <| Md rfl <| Md rfl <| Ac (Z0u rfl rfl (vt rfl) (vt rfl)) rfl <| As rfl <| Nl <| Rg <| Md rfl <| As rfl <| Nl ?_
     exact ⟨(_, _), h, FX rfl⟩
    ·refine SR <| Md rfl <| As rfl <| Nl <| Rg <| Md rfl <| As rfl <| Nl ?_
     exact ⟨(_, _), h, FX rfl⟩
def Zh2 : Nat → ((List Action) → Int → Int → Int → (Action → Action → Option Int) → Option (List Action))
 | 0 => (fun _ _ _ _ _ => none)
 | n + 1 => (Zjf (Zh2 n))
theorem Zx7 : ∀ n : Nat, (∀ (v2 : Value) (d1 : (List Action)) (a3 : Int) (m4 : Int) (b5 : Int) (x6 : (Action → Action → Option Int)) (r : (List Action)), (Zh2 n) d1 a3 m4 b5 x6 = some r → Con Tryz.prog 311 [Zn v2, rd (Z0 .i64) a3, rd (Z0 .i64) m4, rd (Z0 .i64) b5, fn2 Tryz.prog Z9 Z9 (Z0 .i64) x6] (Zb v2 121 Z9 d1) (fun _ : Unit => top) (fun _ => Zb v2 121 Z9 r))
 | 0 => (by intros; rename_i h; cases h)
 | n + 1 => by
  have ih := Zx7 n
  exact (Yls (Zh2 n) ih)
def Zp3 (d1 : (List Action)) (a3 : Int) (m4 : Int) (b5 : Int) (x6 : (Action → Action → Option Int)) : Option (List Action) := (Zh2 Z0k) d1 a3 m4 b5 x6
theorem Zw3 : ∀ (v2 : Value) (d1 : (List Action)) (a3 : Int) (m4 : Int) (b5 : Int) (x6 : (Action → Action → Option Int)) (r : (List Action)), Zp3 d1 a3 m4 b5 x6 = some r → Con Tryz.prog 311 [Zn v2, rd (Z0 .i64) a3, rd (Z0 .i64) m4, rd (Z0 .i64) b5, fn2 Tryz.prog Z9 Z9 (Z0 .i64) x6] (Zb v2 121 Z9 d1) (fun _ : Unit => top) (fun _ => Zb v2 121 Z9 r) := Zx7 Z0k
def Zh4 (n3 : Int) (b17 : Int) (x4 : (Action → Action → Option Int)) (go2 : (List Action) → Int → Option (List Action)) : Nat → (List Action) → Int → Int → Option (List Action)
 | 0, _, _, _ => none
 | m25 + 1, l22, a23, b24 => (bif (decide (b24 ≤ n3)) then (Zp3 l22 a23 (IntKind.i64.wrap (a23 + b17)) b24 x4).bind fun l26 => (Zh4 n3 b17 x4 go2 m25) l26 b24 (IntKind.i64.wrap (b24 + (IntKind.i64.wrap (2 * b17)))) else (bif (decide ((IntKind.i64.wrap (a23 + b17)) < n3)) then (Zp3 l22 a23 (IntKind.i64.wrap (a23 + b17)) n3 x4).bind fun l27 => go2 l27 (IntKind.i64.wrap (b17 * 2)) else go2 l22 (IntKind.i64.wrap (b17 * 2))))
def Z8t (n3 : Int) (x4 : (Action → Action → Option Int)) : Nat → (List Action) → Int → Option (List Action)
 | 0, _, _ => none
 | m18 + 1, l16, b17 => (bif (decide (b17 < n3)) then Zh4 n3 b17 x4 (Z8t n3 x4 m18) (((n3 : Int) - (IntKind.i64.wrap (2 * b17))).toNat + 2) l16 0 (IntKind.i64.wrap (2 * b17)) else some l16)
def Zck (n3 : Int) (x4 : (Action → Action → Option Int)) : Nat → (List Action) → Int → Int → Option (List Action)
 | 0, _, _, _ => none
 | m11 + 1, l8, a9, b10 => (bif (decide (b10 ≤ n3)) then (Zbs l8 a9 b10 x4).bind fun l12 => (Zck n3 x4 m11) l12 b10 (IntKind.i64.wrap (b10 + 20)) else (Zbs l8 a9 n3 x4).bind fun l13 => Z8t n3 x4 (((n3 : Int) - 20).toNat + 1) l13 20)
def Zky (d1 : (List Action)) (n3 : Int) (x4 : (Action → Action → Option Int)) : Option (List Action) :=
 Zck n3 x4 (((n3 : Int) - 20).toNat + 2) d1 0 20
theorem Yex (v2 : Value) (d1 : (List Action)) (n3 : Int) (x4 : (Action → Action → Option Int)) (r : (List Action)) (h : Zky d1 n3 x4 = some r) : Con Tryz.prog 274 [Zn v2, rd (Z0 .i64) n3, fn2 Tryz.prog Z9 Z9 (Z0 .i64) x4] (Zb v2 121 Z9 d1) (fun _ : Unit => top) (fun _ => Zb v2 121 Z9 r) := by
 refine Con.intro Tryz.func274 rfl Tryz.ntmps274 rfl fun w H X => ?_
 unfold Zky at h
 refine SR <| Ak rfl <| Nl <| SR <| Md rfl <| Ak rfl <| As rfl <| Nl <| sq <| bk <| LG (d := []) (ν := Nat × (List Action) × Int × Int) (fun (m11, l8, a9, b10) => (True ∧ Zck n3 x4 m11 l8 a9 b10 = some r, m11, [(0, Zn v2), (1, rd (Z0 .i64) n3), (2, fn2 Tryz.prog Z9 Z9 (Z0 .i64) x4), (6, rd (Z0 .i64) 20), (7, rd (Z0 .i64) a9), (8, rd (Z0 .i64) b10)], [(0, Zb v2 121 Z9 l8)])) ((((n3 : Int) - 20).toNat + 2), d1, 0, 20) ⟨trivial, h⟩ (FX rfl) ?_
 rintro ⟨m11, l8, a9, b10⟩ ⟨hsf1, h⟩
 dsimp only at h ⊢
 cases m11 with
 | zero => cases h
 | succ m11 =>
  unfold Zck at h
  refine sq <| SR <| Md rfl <| Md rfl <| Ac (Z7d rfl rfl (vt rfl) (vt rfl)) rfl <| Nl <| Cq rfl h (fun h => ?_) (fun h => ?_)
  ·refine sk <| bk <| sq ?_
   obtain ⟨l12, hl12, h⟩ := Z8 h
   refine Rg <| Mw rfl <| Md rfl <| Md rfl <| Ac (Zu (A := fn2 Tryz.prog Z9 Z9 (Z0 .i64) x4) rfl rfl (vt rfl)) rfl <| Cv rfl (Z10 0 (xs := [.tmp 14, .tmp 15, .tmp 16, .tmp 17]) (Y2j _ _ _ _ _ _ hl12) Zw8 rfl rfl ⟨vt rfl, vt rfl, vt rfl, vt rfl, trivial⟩ rfl) fun _u => Nl <| SR <| Md rfl <| As rfl <| Nl <| Rg <| Md rfl <| Md rfl <| Ac (Z0o rfl rfl (vt rfl) (vt rfl)) rfl <| As rfl <| Nl ?_
   exact ⟨(_, _, _, _), Nat.lt_succ_self _, ⟨trivial, h⟩, FX rfl⟩
  ·refine xt <| sq ?_
   obtain ⟨l13, hl13, h⟩ := Z8 h
   refine Rg <| Mw rfl <| Md rfl <| Md rfl <| Ac (Zu (A := fn2 Tryz.prog Z9 Z9 (Z0 .i64) x4) rfl rfl (vt rfl)) rfl <| Cv rfl (Z10 0 (xs := [.tmp 23, .tmp 24, .tmp 25, .tmp 26]) (Y2j _ _ _ _ _ _ hl13) Zw8 rfl rfl ⟨vt rfl, vt rfl, vt rfl, vt rfl, trivial⟩ rfl) fun _u => Nl <| bk <| LG (d := []) (ν := Nat × (List Action) × Int) (fun (m18, l16, b17) => (True ∧ Z8t n3 x4 m18 l16 b17 = some r, m18, [(0, Zn v2), (1, rd (Z0 .i64) n3), (2, fn2 Tryz.prog Z9 Z9 (Z0 .i64) x4), (6, rd (Z0 .i64) b17)], [(0, Zb v2 121 Z9 l16)])) ((((n3 : Int) - 20).toNat + 1), l13, 20) ⟨trivial, h⟩ (FX rfl) ?_
   rintro ⟨m18, l16, b17⟩ ⟨hsf2, h⟩
   dsimp only at h ⊢
   cases m18 with
   | zero => cases h
   | succ m18 =>
    unfold Z8t at h
    refine sq <| SR <| Md rfl <| Md rfl <| Ac (Zi rfl rfl (vt rfl) (vt rfl)) rfl <| Nl <| Cq rfl h (fun h => ?_) (fun h => ?_)
    ·refine sk <| bk <| SR <| Md rfl <| Ac (Zb7 rfl rfl (vk rfl) (vt rfl)) rfl <| Ak rfl <| As rfl <| Nl <| sq <| bk <| LG (d := []) (ν := Nat × (List Action) × Int × Int) (fun (m25, l22, a23, b24) => (True ∧ Zh4 n3 b17 x4 (Z8t n3 x4 m18) m25 l22 a23 b24 = some r, m25, [(0, Zn v2), (1, rd (Z0 .i64) n3), (2, fn2 Tryz.prog Z9 Z9 (Z0 .i64) x4), (6, rd (Z0 .i64) b17), (7, rd (Z0 .i64) a23), (8, rd (Z0 .i64) b24)], [(0, Zb v2 121 Z9 l22)])) ((((n3 : Int) - (IntKind.i64.wrap (2 * b17))).toNat + 2), l16, 0, (IntKind.i64.wrap (2 * b17))) ⟨trivial, h⟩ (FX rfl) ?_
     rintro ⟨m25, l22, a23, b24⟩ ⟨hsf3, h⟩
     dsimp only at h ⊢
     cases m25 with
     | zero => cases h
     | succ m25 =>
      unfold Zh4 at h
      refine sq <| SR <| Md rfl <| Md rfl <| Ac (Z7d rfl rfl (vt rfl) (vt rfl)) rfl <| Nl <| Cq rfl h (fun h => ?_) (fun h => ?_)
      ·refine sk <| bk <| sq ?_
       obtain ⟨l26, hl26, h⟩ := Z8 h
       refine Rg <| Mw rfl <| Md rfl <| Md rfl <| Md rfl <| Ac (Z0o rfl rfl (vt rfl) (vt rfl)) rfl <| Md rfl <| Ac (Zu (A := fn2 Tryz.prog Z9 Z9 (Z0 .i64) x4) rfl rfl (vt rfl)) rfl <| Cv rfl (Z10 0 (xs := [.tmp 36, .tmp 37, .tmp 40, .tmp 41, .tmp 42]) (Zw3 _ _ _ _ _ _ _ hl26) Zpo rfl rfl ⟨vt rfl, vt rfl, vt rfl, vt rfl, vt rfl, trivial⟩ rfl) fun _u => Nl <| SR <| Md rfl <| As rfl <| Nl <| Rg <| Md rfl <| Md rfl <| Ac (Zb7 rfl rfl (vk rfl) (vt rfl)) rfl <| Ac (Z0o rfl rfl (vt rfl) (vt rfl)) rfl <| As rfl <| Nl ?_
       exact ⟨(_, _, _, _), Nat.lt_succ_self _, ⟨trivial, h⟩, FX rfl⟩
      ·refine xt <| sq <| SR <| Md rfl <| Md rfl <| Ac (Z0o rfl rfl (vt rfl) (vt rfl)) rfl <| As rfl <| Nl <| SR <| Md rfl <| Md rfl <| Ac (Zi rfl rfl (vt rfl) (vt rfl)) rfl <| Nl <| Cq rfl h (fun h => ?_) (fun h => ?_)
       ·obtain ⟨l27, hl27, h⟩ := Z8 h
        refine Rg <| Mw rfl <| Md rfl <| Md rfl <| Md rfl <| Ac (Zu (A := fn2 Tryz.prog Z9 Z9 (Z0 .i64) x4) rfl rfl (vt rfl)) rfl <| Cv rfl (Z10 0 (xs := [.tmp 55, .tmp 56, .tmp 57, .tmp 58, .tmp 59]) (Zw3 _ _ _ _ _ _ _ hl27) Zpo rfl rfl ⟨vt rfl, vt rfl, vt rfl, vt rfl, vt rfl, trivial⟩ rfl) fun _u => Nl <| Rg <| Md rfl <| Ac (Zb7 rfl rfl (vt rfl) (vk rfl)) rfl <| As rfl <| Nl ?_
        exact ⟨(_, _, _), Nat.lt_succ_self _, ⟨trivial, h⟩, FX rfl⟩
       ·refine sk <| Rg <| Md rfl <| Ac (Zb7 rfl rfl (vt rfl) (vk rfl)) rfl <| As rfl <| Nl ?_
        exact ⟨(_, _, _), Nat.lt_succ_self _, ⟨trivial, h⟩, FX rfl⟩
    ·refine xt ?_
     cases h; exact Z1j (i := 0) Tryz.results274 rfl rfl
def Zep (x1 : (List Action)) (x3 : (Action → Action → Option Int)) : Option (List Action) :=
 (Zky x1 (x1.length : Int) x3).bind fun l4 => some l4
theorem Ydw (v2 : Value) (x1 : (List Action)) (x3 : (Action → Action → Option Int)) (r : (List Action)) (h : Zep x1 x3 = some r) : Con Tryz.prog 219 [Zn v2, fn2 Tryz.prog Z9 Z9 (Z0 .i64) x3] (Zb v2 121 Z9 x1) (fun _ : Unit => top) (fun _ => Zb v2 121 Z9 r) := by
 refine Con.intro Tryz.func219 rfl Tryz.ntmps219 rfl fun w H X => ?_
 unfold Zep at h
 obtain ⟨l4, hl4, h⟩ := Z8 h
 refine Rg <| Mw rfl <| Mw rfl <| Ac (Z7a 0 rfl rfl Z15 (vt rfl) rfl) rfl <| Ac (Zu (A := fn2 Tryz.prog Z9 Z9 (Z0 .i64) x3) rfl rfl (vt rfl)) rfl <| Cv rfl (Z10 0 (xs := [.tmp 4, .tmp 6, .tmp 7]) (Yex _ _ _ _ _ hl4) Y9x rfl rfl ⟨vt rfl, vt rfl, vt rfl, trivial⟩ rfl) fun _u => Nl ?_
 cases h; exact Z1j (i := 0) Tryz.results219 rfl rfl
def Z8s (a1 : Action) (b2 : Action) : Option Int :=
 (Zb6 a1).bind fun x5 => (Zb6 b2).bind fun x6 => (Zdq x5.kind).bind fun x9 => (Zdq x6.kind).bind fun x10 => (bif (decide ((IntKind.i64.wrap (x9 - x10)) ≠ 0)) then some (IntKind.i64.wrap (x9 - x10)) else (bif (decide (x5.field < x6.field)) then some (-1) else (bif (decide (x5.field > x6.field)) then some 1 else some 0)))
theorem Y9z : Q2 Tryz.prog 220 (rd Z9) (rd Z9) (rd (Z0 .i64)) Z8s := fun a1 b2 r h => I0 Tryz.func220 rfl Tryz.ntmps220 rfl fun w H => by
 unfold Z8s at h
 refine SR <| Cv rfl (Zm 3 rfl rfl (vt rfl)) fun g3 => Cv rfl (Zm 4 rfl rfl (vt rfl)) fun g4 => Ak rfl <| Nl <| sq ?_
 obtain ⟨x5, hx5, x6, hx6, h⟩ := bs2 h
 refine AR Zw (by kernel_rfl) <| Zl Z11 3 rfl <| SCl [8] (Znr _ _ hx5) Znl rfl <| Zl Z11 4 rfl <| SCl [10] (Znr _ _ hx6) Znl rfl <| Sd (Z1o (us := [(5, Z43 275 Z6s Zov)]) (ur := []) [] [] rfl fun S hs hr => Zcv rfl rfl rfl Zk5) <| Sd (Z1o (us := [(6, Z43 275 Z6s Zov)]) (ur := []) [] [] rfl fun S hs hr => Zcv rfl rfl rfl Zk5) <| Sd (Z1o (us := [(5, Z43 275 Z6s x5)]) (ur := []) [5, 9] [] rfl fun S hs hr => Zcj rfl rfl Zh5 ((hs 5 rfl).trans rfl) (vh hs 9 rfl rfl)) <| Sd (Z1o (us := [(6, Z43 275 Z6s x6)]) (ur := []) [6, 11] [] rfl fun S hs hr => Zcj rfl rfl Zh5 ((hs 6 rfl).trans rfl) (vh hs 11 rfl rfl)) <| Sn <| AW.unpackP 5 6 rfl rfl fun g7 => AW.unpackP 6 7 rfl rfl fun g8 => sq <| sq ?_
 obtain ⟨x9, hx9, x10, hx10, h⟩ := bs2 h
 refine AR Zw (by kernel_rfl) <| Zv laset_spot_0 Y58 rfl <| Zl Zo 6 rfl <| SCl [13] (Zss _ _ hx9) Zqn rfl <| Zv laset_spot_0 Y58 rfl <| Zl Zo 7 rfl <| SCl [16] (Zss _ _ hx10) Zqn rfl <| Sd (lo [14, 17] [] rfl fun S hs hr => Z0u rfl rfl (vh hs 14 rfl rfl) (vh hs 17 rfl rfl)) <| SAs rfl <| Sn <| SR <| Md rfl <| Ac (Z6y rfl rfl (vt rfl) (vk rfl)) rfl <| Nl <| Cq rfl h (fun h => ?_) (fun h => ?_)
 ·refine SR <| Md rfl <| As rfl <| Nl <| rt ?_
  cases h; exact Zg Tryz.results220 rfl (Za rfl)
 ·refine sk <| sq <| bk <| SR <| Zf laset_spot_1 Zm7 rfl <| Ld Zo 6 rfl <| Zf laset_spot_1 Zm7 rfl <| Ld Zo 7 rfl <| Ac (Zi rfl rfl (vt rfl) (vt rfl)) rfl <| As rfl <| Nl <| Cq rfl h (fun h => ?_) (fun h => ?_)
  ·refine SR <| Ak rfl <| Nl <| rt ?_
   cases h; exact Zg Tryz.results220 rfl (Za rfl)
  ·refine SR <| Zf laset_spot_1 Zm7 rfl <| Ld Zo 6 rfl <| Zf laset_spot_1 Zm7 rfl <| Ld Zo 7 rfl <| Ac (Z3e rfl rfl (vt rfl) (vt rfl)) rfl <| As rfl <| Nl <| Cq rfl h (fun h => ?_) (fun h => ?_)
   ·refine SR <| Ak rfl <| Nl <| rt ?_
    cases h; exact Zg Tryz.results220 rfl (Za rfl)
   ·refine sk <| SR <| Ak rfl <| Nl <| rt ?_
    cases h; exact Zg Tryz.results220 rfl (Za rfl)
def Z79 (s1 : (List Action)) : Option (List Action) :=
 (Zij s1 Zji).bind fun x2 => (Z71 s1).bind fun x4 => (Zic x4 (fun x => Zb4 x x2)).bind fun x6 => (Zep x6 Z8s).bind fun l8 => some l8
theorem Zn6 : Q1 Tryz.prog 149 (rd (Z1 Z9)) (rd (Z1 Z9)) Z79 := fun s1 r h => I0 Tryz.func149 rfl Tryz.ntmps149 rfl fun w H => by
 unfold Z79 at h
 refine SR <| Ac (Zy (A := rd (Z1 Z9) []) rfl rfl Z1h) rfl <| Nl <| sq ?_
 obtain ⟨x2, hx2, h⟩ := Z8 h
 refine Rg <| Md rfl <| Ac (Z13 (xs := [.tmp 5, .func 214]) (Yhx _ _ _ hx2) Y6j rfl rfl ⟨vt rfl, vf1 Ya8 Y6v, trivial⟩) rfl <| Cv rfl (Zp 4 rfl rfl zr4) fun g3 => Zh ty4 4 rfl <| Nl <| sq <| AW.freezeB 3 4 rfl rfl rfl ?_
 obtain ⟨x4, hx4, x6, hx6, h⟩ := bs2 h
 refine Rg <| Md rfl <| Cv rfl (Z10 1001 (xs := [.tmp 7]) (Zs2 _ _ hx4) Zlt rfl rfl ⟨vt rfl, trivial⟩ rfl) fun v5 => Ac (Z7v (cs := [.tmp 3]) (CAs := [rp Z5 x2]) (fun x => Zb4 x x2) rfl rfl Ynz ⟨vt rfl, trivial⟩ (fun x y h => Y79 _ _ y h)) rfl <| Cv rfl (Z10 1001 (xs := [.tmp 8, .tmp 9]) (Yjy _ _ _ _ hx6) Ylb rfl rfl ⟨vt rfl, vt rfl, trivial⟩ rfl) fun v7 => Aw rfl <| Nl <| sq ?_
 obtain ⟨l8, hl8, h⟩ := Z8 h
 refine Rg <| Mw rfl <| Cv rfl (Z10 1001 (xs := [.tmp 11, .func 220]) (Ydw _ _ _ _ hl8) Yd7 rfl rfl ⟨vt rfl, vf2 Ydz Y9z, trivial⟩ rfl) fun _u => Nl <| SR <| Mw rfl <| Aw rfl <| Nl <| AW.freezes [2, 4, 10, 11, 13] 1001 rfl ⟨rfl, rfl, rfl, rfl, rfl, trivial⟩ rfl <| rt ?_
 cases h; exact Zg Tryz.results149 rfl (Za rfl)
def Zhy (l3 : (List Inst)) (a2 : Int) (b9 : walk_way) : Option (walk_way × Int × Bool) :=
 (Z6a l3 1).bind fun x10 => (bif ((x10.2 && (decide (x10.1.Table > a2))) && (decide (x10.1.Table < 4))) then some (b9, x10.1.Table, true) else (Z79 b9.set).bind fun x12 => (Zds b9 x12).bind fun x13 => some (x13, 0, false))
def Zgi (l3 : (List Inst)) (a2 : Int) (b8 : walk_way) : Option (walk_way × Int × Bool) :=
 (Z6a l3 2).bind fun x14 => (bif x14.2 then (Z6p b8.got 1 x14.1.Value x14.1.Mask).bind fun x16 => Zhy l3 a2 { b8 with got := x16 } else Zhy l3 a2 b8)
def Zho (l3 : (List Inst)) (a2 : Int) (b7 : walk_way) : Option (walk_way × Int × Bool) :=
 (Z6a l3 3).bind fun x17 => (bif x17.2 then (Zbl b7.set x17.1.Acts).bind fun x19 => Zgi l3 a2 { b7 with set := x19 } else Zgi l3 a2 b7)
def Zhv (l3 : (List Inst)) (a2 : Int) (b6 : walk_way) : Option (walk_way × Int × Bool) :=
 (Z6a l3 5).bind fun x20 => (bif x20.2 then Zho l3 a2 { b6 with set := [] } else Zho l3 a2 b6)
def Zli (w1 : walk_way) (a2 : Int) (l3 : (List Inst)) : Option (walk_way × Int × Bool) :=
 (Z6a l3 4).bind fun x22 => (bif x22.2 then (Zds w1 x22.1.Acts).bind fun x24 => Zhv l3 a2 x24 else Zhv l3 a2 w1)
theorem Yda : Q3 Tryz.prog 137 (rd Z1n) (rd (Z0 .i64)) (rd (Z1 Z1e)) (fun r => Z3f (rd Z1n r.1) (rd (Z0 .i64) r.2.1) (rd Z5 r.2.2)) Zli := fun w1 a2 l3 r h => I0 Tryz.func137 rfl Tryz.ntmps137 rfl fun w H => by
 unfold Zli at h
 refine SR <| Cv rfl (Zm 4 rfl rfl (vt rfl)) fun g4 => Cv rfl (Zp 7 rfl rfl Zh6) fun g5 => Ak rfl <| Ab rfl <| Nl ?_
 refine JN (d := []) (ν := walk_way) (fun b6 => (Zhv l3 a2 b6 = some r, [(1, rd (Z0 .i64) a2), (2, rd (Z1 Z1e) l3), (3, Z7 g4 (Lens.id Z1n)), (6, Z7 g5 (Lens.id Z1n))], [(4, Zc g4 135 Z1n b6), (7, Zc g5 135 Z1n Zfr)])) ?hx1 ?hy1
 case hy1 =>
  intro b6 h
  dsimp only at h ⊢
  unfold Zhv at h
  refine JN (d := []) (ν := walk_way) (fun b7 => (Zho l3 a2 b7 = some r, [(1, rd (Z0 .i64) a2), (2, rd (Z1 Z1e) l3), (3, Z7 g4 (Lens.id Z1n)), (6, Z7 g5 (Lens.id Z1n))], [(4, Zc g4 135 Z1n b7), (7, Zc g5 135 Z1n Zfr)])) ?hx2 ?hy2
  case hy2 =>
   intro b7 h
   dsimp only at h ⊢
   unfold Zho at h
   refine JN (d := []) (ν := walk_way) (fun b8 => (Zgi l3 a2 b8 = some r, [(1, rd (Z0 .i64) a2), (2, rd (Z1 Z1e) l3), (3, Z7 g4 (Lens.id Z1n)), (6, Z7 g5 (Lens.id Z1n))], [(4, Zc g4 135 Z1n b8), (7, Zc g5 135 Z1n Zfr)])) ?hx3 ?hy3
   case hy3 =>
    intro b8 h
    dsimp only at h ⊢
    unfold Zgi at h
    refine JN (d := []) (ν := walk_way) (fun b9 => (Zhy l3 a2 b9 = some r, [(1, rd (Z0 .i64) a2), (2, rd (Z1 Z1e) l3), (3, Z7 g4 (Lens.id Z1n)), (6, Z7 g5 (Lens.id Z1n))], [(4, Zc g4 135 Z1n b9), (7, Zc g5 135 Z1n Zfr)])) ?hx4 ?hy4
    case hy4 =>
     intro b9 h
     dsimp only at h ⊢
     unfold Zhy at h
     refine sq ?_
     obtain ⟨x10, hx10, h⟩ := Z8 h
     refine Rg <| Md rfl <| Ac (Z13 (xs := [.tmp 63, .const (Value.int IntKind.i64 1)]) (Z8h _ _ _ hx10) Z84 rfl rfl ⟨vt rfl, vk rfl, trivial⟩) rfl <| Mt2 rfl <| Ac (Z1m rfl rfl (vt rfl)) rfl <| Ac (Z1l rfl rfl (vt rfl)) rfl <| Cv rfl (Zp 18 rfl rfl Z52) fun g11 => Zh Z3z 18 rfl <| As rfl <| Nl <| sq <| SR <| Md rfl <| Md rfl <| Gd rfl (fun hq => Z2p Zd0 rfl rfl Zgb (vt rfl)) <| Gd rfl (fun hq => Z1x rfl rfl Zo (Zs rfl hq) (i := 18) rfl) <| Gd rfl (fun hq => Zu (A := rd (Z0 .i64) a2) rfl rfl (vt rfl)) <| Gd rfl (fun hq => Z3e rfl rfl (Zs rfl hq) (Zs rfl hq)) <| Ac (Z26 rfl rfl (vt rfl) (vt rfl)) rfl <| Md rfl <| Gd rfl (fun hq => Z2p Zd0 rfl rfl Zgb (vt rfl)) <| Gd rfl (fun hq => Z1x rfl rfl Zo (Zs rfl hq) (i := 18) rfl) <| Gd rfl (fun hq => Zi rfl rfl (Zs rfl hq) (vk rfl)) <| Ac (Z26 rfl rfl (vt rfl) (vt rfl)) rfl <| Nl <| Cq rfl h (fun h => ?_) (fun h => ?_)
     ·refine sq <| AR Zw (by kernel_rfl) <| Zl Z35 4 rfl <| Zv Zd0 Zgb rfl <| Zl Zo 18 rfl <| SSt Z35 7 rfl <| SAs rfl <| Sd (lo [] [] rfl fun S hs hr => Zy (A := rd Z5 true) rfl rfl vb) <| Sn <| rt ?_
      cases h; exact Zfm Tryz.results137 rfl (Z01 rfl (i := 7) rfl Z35) (Za rfl) (Za rfl)
     ·refine sk <| sq ?_
      obtain ⟨x12, hx12, x13, hx13, h⟩ := bs2 h
      refine AR Zw (by kernel_rfl) <| Zl Z35 4 rfl <| Zv Zjw Zme rfl <| Zl Z3o 4 rfl <| SCl [84] (Zn6 _ _ hx12) Zp7 rfl <| SCl [82, 85] (Y4u _ _ _ hx13) Zym rfl <| SSt Z35 7 rfl <| Sd (lo [] [] rfl fun S hs hr => Zy (A := rd (Z0 .i64) 0) rfl rfl (vk rfl)) <| Sd (lo [] [] rfl fun S hs hr => Zy (A := rd Z5 false) rfl rfl vb) <| Sn <| rt ?_
      cases h; exact Zfm Tryz.results137 rfl (Z01 rfl (i := 7) rfl Z35) (Za rfl) (Za rfl)
    case hx4 =>
     refine sq ?_
     obtain ⟨x14, hx14, h⟩ := Z8 h
     refine Rg <| Md rfl <| Ac (Z13 (xs := [.tmp 49, .const (Value.int IntKind.i64 2)]) (Z8h _ _ _ hx14) Z84 rfl rfl ⟨vt rfl, vk rfl, trivial⟩) rfl <| Mt2 rfl <| Ac (Z1m rfl rfl (vt rfl)) rfl <| Ac (Z1l rfl rfl (vt rfl)) rfl <| Cv rfl (Zp 16 rfl rfl Z52) fun g15 => Zh Z3z 16 rfl <| As rfl <| Nl <| SR <| Md rfl <| Nl <| Cq rfl h (fun h => ?_) (fun h => ?_)
     ·obtain ⟨x16, hx16, h⟩ := Z8 h
      refine Rg <| Zf lwalk_way_1 Ziw rfl <| Ld Z0f 4 rfl <| Zf Zs7 Zwt rfl <| Ld Z02 16 rfl <| Zf Zr3 Zy4 rfl <| Ld Z02 16 rfl <| Ac (Z13 (xs := [.tmp 55, .const (Value.int IntKind.i64 1), .tmp 57, .tmp 59]) (Zcu _ _ _ _ _ hx16) Zdj rfl rfl ⟨vt rfl, vk rfl, vt rfl, vt rfl, trivial⟩) rfl <| Zf lwalk_way_1 Ziw rfl <| Zh Z0f 4 rfl <| Nl ?_
      exact ⟨_, h, FX rfl⟩
     ·refine sk ?_
      exact ⟨_, h, FX rfl⟩
   case hx3 =>
    refine sq ?_
    obtain ⟨x17, hx17, h⟩ := Z8 h
    refine Rg <| Md rfl <| Ac (Z13 (xs := [.tmp 37, .const (Value.int IntKind.i64 3)]) (Z8h _ _ _ hx17) Z84 rfl rfl ⟨vt rfl, vk rfl, trivial⟩) rfl <| Mt2 rfl <| Ac (Z1m rfl rfl (vt rfl)) rfl <| Ac (Z1l rfl rfl (vt rfl)) rfl <| Cv rfl (Zp 14 rfl rfl Z52) fun g18 => Zh Z3z 14 rfl <| As rfl <| Nl <| SR <| Md rfl <| Nl <| Cq rfl h (fun h => ?_) (fun h => ?_)
    ·obtain ⟨x19, hx19, h⟩ := Z8 h
     refine Rg <| Zf Zjw Zme rfl <| Ld Z3o 4 rfl <| Zf lInst_4 Za5 rfl <| Ld Z3o 14 rfl <| Cl [43, 45] (Zmq _ _ _ hx19) Zmz rfl <| Zf Zjw Zme rfl <| Zh Z3o 4 rfl <| Nl ?_
     exact ⟨_, h, FX rfl⟩
    ·refine sk ?_
     exact ⟨_, h, FX rfl⟩
  case hx2 =>
   refine sq ?_
   obtain ⟨x20, hx20, h⟩ := Z8 h
   refine Rg <| Md rfl <| Ac (Z13 (xs := [.tmp 30, .const (Value.int IntKind.i64 5)]) (Z8h _ _ _ hx20) Z84 rfl rfl ⟨vt rfl, vk rfl, trivial⟩) rfl <| Mt2 rfl <| Ac (Z1m rfl rfl (vt rfl)) rfl <| Ac (Z1l rfl rfl (vt rfl)) rfl <| Cv rfl (Zp 12 rfl rfl Z52) fun g21 => Zh Z3z 12 rfl <| As rfl <| Nl <| SR <| Md rfl <| Nl <| Cq rfl h (fun h => ?_) (fun h => ?_)
   ·refine Rg <| Zf Zjw Zme rfl <| Ac (Z4y rfl rfl Z3o (vt rfl) (i := 4) rfl Z1h) rfl <| Nl ?_
    exact ⟨_, h, FX rfl⟩
   ·refine sk ?_
    exact ⟨_, h, FX rfl⟩
 case hx1 =>
  refine sq ?_
  obtain ⟨x22, hx22, h⟩ := Z8 h
  refine Rg <| Md rfl <| Ac (Z13 (xs := [.tmp 20, .const (Value.int IntKind.i64 4)]) (Z8h _ _ _ hx22) Z84 rfl rfl ⟨vt rfl, vk rfl, trivial⟩) rfl <| Mt2 rfl <| Ac (Z1m rfl rfl (vt rfl)) rfl <| Ac (Z1l rfl rfl (vt rfl)) rfl <| Cv rfl (Zp 10 rfl rfl Z52) fun g23 => Zh Z3z 10 rfl <| As rfl <| Nl <| SR <| Md rfl <| Nl <| Cq rfl h (fun h => ?_) (fun h => ?_)
  ·obtain ⟨x24, hx24, h⟩ := Z8 h
   refine Rg <| Ld Z35 4 rfl <| Zf lInst_4 Za5 rfl <| Ld Z3o 10 rfl <| Cl [25, 27] (Y4u _ _ _ hx24) Zym rfl <| Zh Z35 4 rfl <| Nl ?_
   exact ⟨_, h, FX rfl⟩
  ·refine sk ?_
   exact ⟨_, h, FX rfl⟩
def Zct (s : List Atom) : Option (List Atom) := Z1a [] s
theorem Y6b (s : List Atom) (r : List Atom) (h : Zct s = some r) : Con Tryz.prog 208 [rd (Z1 Z0a) s] emp (fun v => Zn v) (fun v => Zb v 126 Z0a r) := by
 refine Con.intro0 Tryz.func208 rfl Tryz.ntmps208 rfl fun w H => ?_
 unfold Zct at h
 refine AW.newnil 1001 126 Z0a <| SR <| Ac (Zy (A := Zn (.slice none 0 0)) rfl rfl vc) rfl <| Nl <| sq <| SR <| Md rfl <| Ct rfl (Zk7 rfl rfl Z7n (vt rfl)) ?_
 rintro _ ⟨b, hb, rfl⟩
 refine Nl <| Cn rfl (fun hc => ?_) (fun hc => ?_)
 ·obtain rfl := hb hc
  refine SR <| Ac (Zy (A := Zn (.slice none 0 0)) rfl rfl vc) rfl <| Nl <| rt ?_
  obtain rfl := (Zbo h).2
  exact Z6k (i := 1001) Tryz.results208 rfl rfl rfl
 ·refine sk <| SR <| Cv rfl (Zhn 1002 (ps := []) (l := []) rfl rfl Z7n Zd6 rfl rfl rfl rfl) fun v1 => Md rfl <| Cv rfl (Z4e 1002 h rfl rfl Zgw (vt rfl) rfl (vt rfl)) fun v2 => Aw rfl <| Nl <| rt ?_
  exact Z6k (i := 1002) Tryz.results208 rfl rfl rfl
theorem Y2e (s : List Atom) (r : List Atom) (h : Zct s = some r) : PCon Tryz.prog 208 [rd (Z1 Z0a) s] (rd (Z1 Z0a) r) := PCon.of_row (Y6b s r h)
def Zgn (w1 : walk_way) : Option Rule :=
 (Zct w1.atoms).bind fun x4 => some (⟨w1.cube, x4⟩ : Rule)
theorem Y5d : Q1 Tryz.prog 138 (rd Z1n) (rd Z09) Zgn := fun w1 r h => I0 Tryz.func138 rfl Tryz.ntmps138 rfl fun w H => by
 unfold Zgn at h
 refine SR <| Cv rfl (Zm 2 rfl rfl (vt rfl)) fun g2 => Cv rfl (Zp 3 rfl rfl Zc6) fun g3 => Nl <| sq ?_
 obtain ⟨x4, hx4, h⟩ := Z8 h
 refine AR Zw (by kernel_rfl) <| Zv lwalk_way_0 Zqf rfl <| Zl Z00 2 rfl <| Zv Zg5 Zkc rfl <| Zl Zc5 2 rfl <| SCl [6] (Y2e _ _ hx4) Y48 rfl <| Sd (lo [4, 7] [] rfl fun S hs hr => opb (⟨w1.cube, x4⟩ : Rule) Zc6 rfl Ye7 (pc Ybl (vh hs 4 rfl rfl) <| pc Ylt (vh hs 7 rfl rfl) <| pn rfl)) <| SSt Z9o 3 rfl <| Sn <| rt ?_
 cases h; exact Zg Tryz.results138 rfl (Z01 rfl (i := 3) rfl Z9o)
end Go.Proofs.YtknpgojdkobgjaaGreat.W
set_option maxRecDepth 4000
namespace Go.Proofs.YtknpgojdkobgjaaGreat.W
open Go Go.Wb
theorem Zut : Ent Tryz.prog 135 := Ent.mk Tryz.func135 rfl rfl
theorem Zwl : Ent Tryz.prog 138 := Ent.mk Tryz.func138 rfl rfl
theorem Ye9 : Ent Tryz.prog 136 := Ent.mk Tryz.func136 rfl rfl
theorem Ybb : Ent Tryz.prog 137 := Ent.mk Tryz.func137 rfl rfl
theorem e76 : Ent Tryz.prog 76 := Ent.mk Tryz.func76 rfl rfl
theorem e75 : Ent Tryz.prog 75 := Ent.mk Tryz.func75 rfl rfl
theorem Yhz : Ent Tryz.prog 146 := Ent.mk Tryz.func146 rfl rfl
theorem e22 : Ent Tryz.prog 22 := Ent.mk Tryz.func22 rfl rfl
theorem e85 : Ent Tryz.prog 85 := Ent.mk Tryz.func85 rfl rfl
theorem Ym5 : Ent Tryz.prog 337 := Ent.mk Tryz.func337 rfl rfl
def Zll (sg : Type) (go1 : Nat → (Lp sg) → Option (Bool × Lp sg)) (i11 : Nat) (s22 : (Lp sg)) (o23 : Bool) : Option (Bool × Lp sg) :=
 (bif (!o23) then some (false, s22) else go1 (i11 + 1) s22)
def Z7i (sg : Type) (w5 : walk_way) (y1 : (sg → Rule → Option (Lp sg))) (a4 : Int) (s3 : Switch) (R_walk_search_table : ((Lp sg) → Switch → Int → walk_way → Option (Bool × Lp sg))) : (List Int) → Nat → (Lp sg) → Option (Bool × Lp sg)
 | [], i11, s10 => (Zgn w5).bind fun x13 => (yc y1 s10 x13).bind fun s14 => some ((Lp.isGo s14), s14)
 | x15 :: l12, i11, s10 => (chk 4 a4).bind fun j16 => (lget (Vector.get s3.Tables j16) x15).bind fun x17 => (Zj0 w5 x17).bind fun x19 => (bif (!x19.2) then (Z7i sg w5 y1 a4 s3 R_walk_search_table l12) (i11 + 1) s10 else (Zli x19.1 a4 x17.Insts).bind fun x21 => (bif x21.2.2 then (R_walk_search_table s10 s3 x21.2.1 x21.1).bind fun b24 => Zll sg (Z7i sg w5 y1 a4 s3 R_walk_search_table l12) i11 b24.2 b24.1 else (Zgn x21.1).bind fun x25 => (yc y1 s10 x25).bind fun s26 => Zll sg (Z7i sg w5 y1 a4 s3 R_walk_search_table l12) i11 s26 (Lp.isGo s26)))
def Zih (sg : Type) (y1 : (sg → Rule → Option (Lp sg))) (R_walk_search_table : ((Lp sg) → Switch → Int → walk_way → Option (Bool × Lp sg))) (s2 : (Lp sg)) (s3 : Switch) (a4 : Int) (w5 : walk_way) : Option (Bool × Lp sg) :=
 (chk 4 a4).bind fun j7 => (Zf9 (Vector.get s3.Tables j7)).bind fun x8 => Z7i sg w5 y1 a4 s3 R_walk_search_table x8 0 s2
theorem Y7z (sg : Type) (y1 : (sg → Rule → Option (Lp sg))) (L : Lp sg → Zt) (R_walk_search_table : ((Lp sg) → Switch → Int → walk_way → Option (Bool × Lp sg))) (hR_walk_search_table : ∀ (s2 : (Lp sg)) (s3 : Switch) (a4 : Int) (w5 : walk_way) (r : (Bool × Lp sg)), R_walk_search_table s2 s3 a4 w5 = some r → Con Tryz.prog 76 [rp (ksp Z0b (ydA Tryz.prog Z09 y1 L)) s3, rd (Z0 .i64) a4, rd Z1n w5] (L s2) (fun _ : Unit => rd Z5 r.1) (fun _ => L r.2)) (s2 : (Lp sg)) (s3 : Switch) (a4 : Int) (w5 : walk_way) (r : (Bool × Lp sg)) (h : Zih sg y1 R_walk_search_table s2 s3 a4 w5 = some r) : Con Tryz.prog 76 [rp (ksp Z0b (ydA Tryz.prog Z09 y1 L)) s3, rd (Z0 .i64) a4, rd Z1n w5] (L s2) (fun _ : Unit => rd Z5 r.1) (fun _ => L r.2) := by
 refine Con.intro Tryz.func76 rfl Tryz.ntmps76 rfl fun w H X => ?_
 unfold Zih at h
 refine SR <| Cv rfl (Zm 6 rfl rfl (vt rfl)) fun g6 => Ab rfl <| Nl <| AW.scope <| sq <| AW.label <| sq <| sq ?_
 obtain ⟨j7, hj7, x8, hx8, h⟩ := bs2 h
 refine Rg <| Mr rfl <| Md rfl <| Ac (Zm1 rfl rfl (vt rfl)) rfl <| Ac (Zgt (Zqu Z0b (ydA Tryz.prog Z09 y1 L)) rfl rfl (Y55 _) (vt rfl)) rfl <| Fp Zan Zdh rfl <| Ac (Z7l rfl rfl Zcw (vt rfl) (vt rfl) hj7) rfl <| Lp1 Z5k rfl <| Cl [20] (Zvk _ _ hx8) Zut rfl <| Ac (Z0t rfl rfl Z14 (vt rfl)) rfl <| Mk rfl <| Nl <| bk <| LG (d := []) (ν := (List Int) × Nat × (Lp sg)) (fun (l12, i11, s10) => (Sfx x8 i11 l12 ∧ Z7i sg w5 y1 a4 s3 R_walk_search_table l12 i11 s10 = some r, l12.length, [(0, rp (ksp Z0b (ydA Tryz.prog Z09 y1 L)) s3), (1, rd (Z0 .i64) a4), (5, Z7 g6 (Lens.id Z1n)), (21, rd (Z1 (Z0 .i64)) x8), (22, rd (Z0 .i64) (x8.length : Int)), (23, rd (Z0 .i64) (i11 : Int))], [(0, L s10), (6, Zc g6 135 Z1n w5)])) (x8, 0, s2) ⟨Sfx.start _, h⟩ (FX rfl) ?_
 rintro ⟨l12, i11, s10⟩ ⟨hsf1, h⟩
 dsimp only at hsf1 h ⊢
 cases l12 with
 | nil =>
  unfold Z7i at h
  refine SR <| Ac (Zi rfl rfl (vt rfl) (vt rfl)) rfl <| Nl <| sq <| Cn rfl (fun hc => absurd (of_decide_eq_true hc) hsf1.nil) (fun hc => ?_)
  refine xt <| sq ?_
  obtain ⟨x13, hx13, s14, hs14, h⟩ := bs2 h
  refine AR Zw (by kernel_rfl) <| Sd (lo [0] [] rfl fun S hs hr => Zu (A := rp (ksp Z0b (ydA Tryz.prog Z09 y1 L)) s3) rfl rfl (vh hs 0 rfl rfl)) <| Sd (lo [69] [] rfl fun S hs hr => Zm1 rfl rfl (vh hs 69 rfl rfl)) <| Sd (lo [70] [] rfl fun S hs hr => Zgt (Zrw Z0b (ydA Tryz.prog Z09 y1 L)) rfl rfl (Y21 _) (vh hs 70 rfl rfl)) <| Sd (lo [71] [] rfl fun S hs hr => Zup (A := ydA Tryz.prog Z09 y1 L) rfl rfl rfl (Y30 _) (vh hs 71 rfl rfl)) <| Zl Z35 6 rfl <| SCl [73] (Y5d _ _ hx13) Zwl rfl <| Sd (Z1o (us := [(75, rd Z5 (Lp.isGo s14))]) (ur := [(0, L s14)]) [72, 74] [0] rfl fun S hs hr => Zl4 0 hs14 rfl rfl (vh hs 72 rfl rfl) (vh hs 74 rfl rfl) ((hr 0 rfl).trans rfl)) <| SAs rfl <| Sn <| rt ?_
  cases h; exact Zcq (i := 0) Tryz.results76 rfl (Za rfl) rfl
 | cons x15 l12 =>
  unfold Z7i at h
  refine SR <| Ac (Zi rfl rfl (vt rfl) (vt rfl)) rfl <| Nl <| sq <| Cn rfl (fun hc => ?_) (fun hc => absurd hsf1.cons (of_decide_eq_false hc))
  have hlti11 := of_decide_eq_true hc
  refine sk <| sq <| bk <| SR <| Ac (Z0w rfl rfl Z14 (vt rfl) (vt rfl) hsf1.lget) rfl <| Lp1 Zo rfl <| As rfl <| Nl <| sq ?_
  obtain ⟨j16, hj16, x17, hx17, h⟩ := bs2 h
  refine Rg <| Mr rfl <| Md rfl <| Ac (Zm1 rfl rfl (vt rfl)) rfl <| Ac (Zgt (Zqu Z0b (ydA Tryz.prog Z09 y1 L)) rfl rfl (Y55 _) (vt rfl)) rfl <| Fp Zan Zdh rfl <| Ac (Z7l rfl rfl Zcw (vt rfl) (vt rfl) hj16) rfl <| Lp1 Z5k rfl <| Md rfl <| Ac (Z0w rfl rfl Z5d (vt rfl) (vt rfl) hx17) rfl <| Lp1 Z9w rfl <| Cv rfl (Zp 10 rfl rfl Zma) fun g18 => Zh Z9w 10 rfl <| Nl <| sq ?_
  obtain ⟨x19, hx19, h⟩ := Z8 h
  refine Rg <| Ld Z35 6 rfl <| Ld Z9w 10 rfl <| Cl [38, 39] (Ybe _ _ _ hx19) Ye9 rfl <| Mt2 rfl <| Ac (Z1m rfl rfl (vt rfl)) rfl <| Ac (Z1l rfl rfl (vt rfl)) rfl <| Cv rfl (Zp 11 rfl rfl Zh6) fun g20 => Zh Z35 11 rfl <| As rfl <| Nl <| sq <| SR <| Md rfl <| Ac (Z0x rfl rfl (vt rfl)) rfl <| Nl <| Cq rfl h (fun h => ?_) (fun h => ?_)
  ·refine xt <| Rg <| Ac (Z0s (t := 22) rfl rfl (vt rfl) (vk rfl) (vt rfl) hlti11) rfl <| Md rfl <| Nl ?_
   exact ⟨(_, _, _), Nat.lt_succ_self _, ⟨hsf1.next, h⟩, FX rfl⟩
  ·refine sk <| sq ?_
   obtain ⟨x21, hx21, h⟩ := Z8 h
   refine Rg <| Ld Z35 11 rfl <| Md rfl <| Zf lFlow_6 Zly rfl <| Ld Znu 10 rfl <| Cl [46, 47, 49] (Yda _ _ _ _ hx21) Ybb rfl <| Ac (Zu (A := Z3f (rd Z1n x21.1) (rd (Z0 .i64) x21.2.1) (rd Z5 x21.2.2)) rfl rfl (vt rfl)) rfl <| Ac (Zd7 rfl rfl (vt rfl)) rfl <| Ac (Zeh rfl rfl (vt rfl)) rfl <| Ac (Zcs rfl rfl (vt rfl)) rfl <| Zh Z35 11 rfl <| As rfl <| As rfl <| Nl ?_
   refine JN (d := []) (ν := (Lp sg) × Bool) (fun (s22, o23) => (Zll sg (Z7i sg w5 y1 a4 s3 R_walk_search_table l12) i11 s22 o23 = some r, [(0, rp (ksp Z0b (ydA Tryz.prog Z09 y1 L)) s3), (1, rd (Z0 .i64) a4), (5, Z7 g6 (Lens.id Z1n)), (11, rd Z5 o23), (21, rd (Z1 (Z0 .i64)) x8), (22, rd (Z0 .i64) (x8.length : Int)), (23, rd (Z0 .i64) (i11 : Int))], [(0, L s22), (6, Zc g6 135 Z1n w5)])) ?hx2 ?hy2
   case hy2 =>
    rintro ⟨s22, o23⟩ h
    dsimp only at h ⊢
    unfold Zll at h
    refine SR <| Md rfl <| Ac (Z0x rfl rfl (vt rfl)) rfl <| Nl <| Cq rfl h (fun h => ?_) (fun h => ?_)
    ·refine SR <| Ab rfl <| Nl <| rt ?_
     cases h; exact Zcq (i := 0) Tryz.results76 rfl (Za rfl) rfl
    ·refine sk <| Rg <| Ac (Z0s (t := 22) rfl rfl (vt rfl) (vk rfl) (vt rfl) hlti11) rfl <| Md rfl <| Nl ?_
     exact ⟨(_, _, _), Nat.lt_succ_self _, ⟨hsf1.next, h⟩, FX rfl⟩
   case hx2 =>
    refine SR <| Md rfl <| Nl <| Cq rfl h (fun h => ?_) (fun h => ?_)
    ·obtain ⟨b24, hb24, h⟩ := Z8 h
     refine Rg <| Mr rfl <| Md rfl <| Ld Z35 11 rfl <| Cv rfl (Z10 0 (xs := [.tmp 55, .tmp 56, .tmp 57]) (hR_walk_search_table _ _ _ _ _ hb24) e76 rfl rfl ⟨vt rfl, vt rfl, vt rfl, trivial⟩ rfl) fun _u => As rfl <| Nl ?_
     exact ⟨(_, _), h, FX rfl⟩
    ·obtain ⟨x25, hx25, s26, hs26, h⟩ := bs2 h
     refine AR Zw (by kernel_rfl) <| Sd (lo [0] [] rfl fun S hs hr => Zu (A := rp (ksp Z0b (ydA Tryz.prog Z09 y1 L)) s3) rfl rfl (vh hs 0 rfl rfl)) <| Sd (lo [59] [] rfl fun S hs hr => Zm1 rfl rfl (vh hs 59 rfl rfl)) <| Sd (lo [60] [] rfl fun S hs hr => Zgt (Zrw Z0b (ydA Tryz.prog Z09 y1 L)) rfl rfl (Y21 _) (vh hs 60 rfl rfl)) <| Sd (lo [61] [] rfl fun S hs hr => Zup (A := ydA Tryz.prog Z09 y1 L) rfl rfl rfl (Y30 _) (vh hs 61 rfl rfl)) <| Zl Z35 11 rfl <| SCl [63] (Y5d _ _ hx25) Zwl rfl <| Sd (Z1o (us := [(65, rd Z5 (Lp.isGo s26))]) (ur := [(0, L s26)]) [62, 64] [0] rfl fun S hs hr => Zl4 0 hs26 rfl rfl (vh hs 62 rfl rfl) (vh hs 64 rfl rfl) ((hr 0 rfl).trans rfl)) <| SAs rfl <| Sn ?_
     exact ⟨(_, _), h, FX rfl⟩
def Zcx (sg : Type) (y1 : (sg → Rule → Option (Lp sg))) : Nat → ((Lp sg) → Switch → Int → walk_way → Option (Bool × Lp sg))
 | 0 => (fun _ _ _ _ => none)
 | n + 1 => Zih sg y1 (Zcx sg y1 n)
theorem Zur (sg : Type) (y1 : (sg → Rule → Option (Lp sg))) (L : Lp sg → Zt) : ∀ n : Nat, (∀ (s2 : (Lp sg)) (s3 : Switch) (a4 : Int) (w5 : walk_way) (r : (Bool × Lp sg)), (Zcx sg y1 n) s2 s3 a4 w5 = some r → Con Tryz.prog 76 [rp (ksp Z0b (ydA Tryz.prog Z09 y1 L)) s3, rd (Z0 .i64) a4, rd Z1n w5] (L s2) (fun _ : Unit => rd Z5 r.1) (fun _ => L r.2))
 | 0 => (by intros; rename_i h; cases h)
 | n + 1 => Y7z sg y1 L (Zcx sg y1 n) (Zur sg y1 L n)
def Zqy (sg : Type) (y1 : (sg → Rule → Option (Lp sg))) (s2 : (Lp sg)) (s3 : Switch) (a4 : Int) (w5 : walk_way) : Option (Bool × Lp sg) := Zcx sg y1 Z0k s2 s3 a4 w5
theorem Y96 (sg : Type) (y1 : (sg → Rule → Option (Lp sg))) (L : Lp sg → Zt) : ∀ (s2 : (Lp sg)) (s3 : Switch) (a4 : Int) (w5 : walk_way) (r : (Bool × Lp sg)), (Zqy sg y1) s2 s3 a4 w5 = some r → Con Tryz.prog 76 [rp (ksp Z0b (ydA Tryz.prog Z09 y1 L)) s3, rd (Z0 .i64) a4, rd Z1n w5] (L s2) (fun _ : Unit => rd Z5 r.1) (fun _ => L r.2) := Zur sg y1 L Z0k
def Zdk (sg : Type) (y1 : (sg → Rule → Option (Lp sg))) (s2 : (Lp sg)) (x3 : Switch) : Option (Lp sg) :=
 (Zb5).bind fun x5 => (Z94).bind fun x6 => (Zqy sg y1 s2 x3 0 (⟨x5, x6, [], []⟩ : walk_way)).bind fun b7 => some b7.2
theorem Y63 (sg : Type) (y1 : (sg → Rule → Option (Lp sg))) (L : Lp sg → Zt) (s2 : (Lp sg)) (x3 : Switch) (r : (Lp sg)) (h : Zdk sg y1 s2 x3 = some r) : Con Tryz.prog 75 [ydA Tryz.prog Z09 y1 L, rp Z0b x3] (L s2) (fun _ : Unit => top) (fun _ => L r) := by
 refine Con.intro Tryz.func75 rfl Tryz.ntmps75 rfl fun w H X => ?_
 unfold Zdk at h
 refine SR <| Lp1 Z5f rfl <| Ac (Zu (A := ydA Tryz.prog Z09 y1 L) rfl rfl (vt rfl)) rfl <| Ac (Yby (x := x3) rfl rfl (by kernel_rfl) Yej (by kernel_rfl) (by kernel_rfl) (vt rfl) rfl) rfl <| Ac (Yec rfl rfl (vt rfl)) rfl <| Ac (Zy (A := rp (ksp Z0b (ydA Tryz.prog Z09 y1 L)) x3) rfl rfl (vt rfl)) rfl <| Nl ?_
 obtain ⟨x5, hx5, x6, hx6, b7, hb7, h⟩ := bs3 h
 refine Rg <| Mr rfl <| Cl [] (Zp1 _ hx5) e73 rfl <| Cl [] (Zo5 _ hx6) e77 rfl <| Ac (opb (⟨x5, x6, [], []⟩ : walk_way) Zh6 rfl Zv1 (pc Yio (vt rfl) <| pc Yha (vt rfl) <| pn rfl)) rfl <| Cv rfl (Z10 0 (xs := [.tmp 8, .const (Value.int IntKind.i64 0), .tmp 11]) (Y96 sg y1 L _ _ _ _ _ hb7) e76 rfl rfl ⟨vt rfl, vk rfl, vt rfl, trivial⟩ rfl) fun _u => Nl ?_
 cases h; exact Z1j (i := 0) Tryz.results75 rfl rfl
def Zpm (s1 : Switch) : Option (Itr Rule) :=
 some (Itr.mk fun σ y s => Zdk σ y s s1)
theorem Y92 : Q1 Tryz.prog 22 (rd Z0b) (Z4u Tryz.prog Z09) Zpm := fun s1 r h => I0 Tryz.func22 rfl Tryz.ntmps22 rfl fun w H => by
 unfold Zpm at h
 refine SR <| Cv rfl (Zm 2 rfl rfl (vt rfl)) fun g2 => Ac (Zy (A := Zn .nilFunc) rfl rfl vc) rfl <| Nl <| sq <| AW.freezeB 1 2 rfl rfl rfl <| Rg <| Ac (Zre (Itr.mk fun σ y s => Zdk σ y s s1) (cs := [.tmp 1]) (CAs := [rp Z0b s1]) rfl rfl e75 ⟨vt rfl, trivial⟩ (fun σ y L s r h => Y63 σ y L s s1 r h)) rfl <| Ac (Zy (A := Z4u Tryz.prog Z09 (Itr.mk fun σ y s => Zdk σ y s s1)) rfl rfl (vt rfl)) rfl <| Nl <| rt ?_
 cases h; exact Zg Tryz.results22 rfl (Za rfl)
def Zpg (q : Itr Rule) : Option (List Rule) := Zm2 q
theorem Yft (q : Itr Rule) (r : List Rule) (h : Zpg q = some r) : Con Tryz.prog 146 [Zn (.slice none 0 0), Z4u Tryz.prog Z09 q] emp (fun v => Zn v) (fun v => Zb v 90 Z09 r) := by
 refine Con.intro0 Tryz.func146 rfl Tryz.ntmps146 rfl fun w H => ?_
 have h := Yo9 h
 refine AW.newnil 1001 90 Z09 <| SR <| Cv rfl (Zm (k := kraw) 3 rfl rfl (vkr (vt rfl) rfl)) fun g => Ac (Zy (A := Zn (.slice none 0 0)) rfl rfl vc) rfl <| AOps.pack 3 1001 (by decide) rfl rfl <| Nl <| sq <| SR <| Ac (Zu (A := Z4u Tryz.prog Z09 q) rfl rfl (vt rfl)) rfl <| Nl <| bk <| AW.fit (d := []) (L := [(2, Z7 g (Lens.id kraw)), (6, Z4u Tryz.prog Z09 q)]) (M := [(3, Z9p g 32 90 Z09 [])]) ⟨rfl, ⟨rfl, rfl, trivial⟩, ⟨rfl, trivial⟩⟩ ?_
 refine AW.rangeFunc (fun x => [rd Z09 x]) Zi8 (fun s => Z2x [(3, Z9p g 32 90 Z09 s)]) (fun _ _ => Z2x []) [(2, Z7 g (Lens.id kraw))]
  (fun s x S1 => ∃ g5, Fit S1 [] [(2, Z7 g (Lens.id kraw)), (5, Z7 g5 (Lens.id Z09))] [(3, Z9p g 32 90 Z09 s), (6, Zc g5 90 Z09 x)]) 1003 (s0 := []) (sE := .go r)
  rfl (vt rfl) ⟨rfl, inferInstance, trivial⟩ rfl (fun _ => rfl) (by intro p hp; have hp : p ∈ [7] := hp; rw [List.mem_singleton.1 hp]; show 7 < 13; decide) ?ha ?hb (fun Lf => ⟨top, _, _, Lf, _, _, h, rfl, rfl, rfl, rfl⟩) ?he
 case ha =>
  intro s x r' hF l w H X
  refine Rg <| Cv rfl (Zp 6 rfl rfl Zc6) fun g5 => Zh Z9o 6 rfl <| Nl ?_
  exact ⟨rfl, g5, rfl, ⟨rfl, rfl, trivial⟩, ⟨rfl, rfl, trivial⟩⟩
 case hb =>
  rintro s x r' hF S1 ⟨g5, hfit⟩ l w H X
  refine AW.fit hfit <| AW.bodyOf (M := fun s => [(3, Z9p g 32 90 Z09 s)]) (Mx := fun _ _ => []) ?_
  obtain ⟨m, hm, hF⟩ := Z8 hF
  cases hF
  refine bk <| AW.unbox 3 1001 (by decide) rfl rfl fun v => Rg <| Ac (Y0k (i := 3) rfl rfl Zuc (vt rfl) rfl) rfl <| Ld Z9o 6 rfl <| Ac (Zn3 (ps := [(0, .tmp 9)]) (l := [x]) rfl rfl Z4x Zc6 rfl rfl ⟨_, _, Lens.idx 1 Z09 0 (by decide), _, rfl, vt rfl, rfl⟩ rfl) rfl <| Cv rfl (Z4e 1001 hm rfl rfl Zs1 (vt rfl) rfl (vt rfl)) fun v2 => Ac (Z4y rfl rfl Zuc (vt rfl) (i := 3) rfl (Zmx (i := 1001) rfl rfl)) rfl <| AOps.pack 3 1001 (by decide) rfl rfl <| Nl ?_
  exact ⟨_, rfl, rfl, trivial⟩
 case he =>
  intro D
  refine AW.unbox 3 1001 (by decide) rfl rfl fun v => SR <| Ac (Y0k (i := 3) rfl rfl Zuc (vt rfl) rfl) rfl <| Aw rfl <| Nl <| rt ?_
  exact ⟨rfl, 1003, _, rfl, Z6k (i := 1001) Tryz.results146 rfl rfl rfl⟩
theorem Yeg (q : Itr Rule) (r : List Rule) (h : Zpg q = some r) : PCon Tryz.prog 146 [Zn (.slice none 0 0), Z4u Tryz.prog Z09 q] (rd (Z1 Z09) r) := PCon.of_row (Yft q r h)
def Zpf (s1 : (Itr Rule)) : Option (List Rule) :=
 (Zpg s1).bind fun x2 => some x2
theorem Yht : Q1 Tryz.prog 85 (Z4u Tryz.prog Z09) (rd (Z1 Z09)) Zpf := fun s1 r h => I0 Tryz.func85 rfl Tryz.ntmps85 rfl fun w H => by
 unfold Zpf at h
 refine SR <| Ac (Zy (A := rd (Z1 Z09) []) rfl rfl Z1h) rfl <| Nl <| sq ?_
 obtain ⟨x2, hx2, h⟩ := Z8 h
 refine Rg <| Ac (Zu (A := Z4u Tryz.prog Z09 s1) rfl rfl (vt rfl)) rfl <| Ac (Z13 (xs := [.const (Value.slice none 0 0), .tmp 3]) (Yeg _ _ hx2) Yhz rfl rfl ⟨vc, vt rfl, trivial⟩) rfl <| As rfl <| Nl <| rt ?_
 cases h; exact Zg Tryz.results85 rfl (Za rfl)
def Zfo (s1 : Switch) : Option (List Rule) :=
 (Zpm s1).bind fun x3 => (Zpf x3).bind fun x4 => some x4
theorem Yh8 : Q1 Tryz.prog 25 (rd Z0b) (rd (Z1 Z09)) Zfo := fun s1 r h => I0 Tryz.func25 rfl Tryz.ntmps25 rfl fun w H => by
 unfold Zfo at h
 refine SR <| Cv rfl (Zm 2 rfl rfl (vt rfl)) fun g2 => Ac (Zy (A := rd (Z1 Z09) []) rfl rfl Z1h) rfl <| Nl <| sq ?_
 obtain ⟨x3, hx3, x4, hx4, h⟩ := bs2 h
 refine Rg <| Ld Z5f 2 rfl <| Cl [3] (Y92 _ _ hx3) e22 rfl <| Cl [4] (Yht _ _ hx4) e85 rfl <| As rfl <| Nl <| rt ?_
 cases h; exact Zg Tryz.results25 rfl (Za rfl)
def Zib (p1 : cover_purse) : Option (Bool × cover_purse) :=
 (bif p1.free then some (true, p1) else some ((decide (({ p1 with left := (IntKind.i64.wrap (p1.left - 1)) }.left) ≥ 0)), { p1 with left := (IntKind.i64.wrap (p1.left - 1)) }))
theorem Yk3 (g2 gT : Nat) (p1 : cover_purse) (r : (Bool × cover_purse)) (h : Zib p1 = some r) : Con Tryz.prog 278 [Z7 g2 (Lens.id Z6d)] (Zc g2 gT Z6d p1) (fun _ : Unit => rd Z5 r.1) (fun _ => Zc g2 gT Z6d r.2) := by
 refine Con.intro Tryz.func278 rfl Tryz.ntmps278 rfl fun w H X => ?_
 unfold Zib at h
 refine SR <| Ab rfl <| Nl <| sq <| SR <| Mp rfl <| Nc rfl <| Zf lcover_purse_1 Yo3 rfl <| Ld ty4 0 rfl <| Nl <| Cq rfl h (fun h => ?_) (fun h => ?_)
 ·refine SR <| Ab rfl <| Nl <| rt ?_
  cases h; exact Zcq (i := 0) Tryz.results278 rfl (Za rfl) rfl
 ·refine sk <| SR <| Mp rfl <| Nc rfl <| Zf lcover_purse_0 Zq5 rfl <| Ld Zo 0 rfl <| Ac (Z0u rfl rfl (vt rfl) (vk rfl)) rfl <| Nc rfl <| Zf lcover_purse_0 Zq5 rfl <| Zh Zo 0 rfl <| Nl <| SR <| Mp rfl <| Nc rfl <| Zf lcover_purse_0 Zq5 rfl <| Ld Zo 0 rfl <| Ac (Z3r rfl rfl (vt rfl) (vk rfl)) rfl <| As rfl <| Nl <| rt ?_
  cases h; exact Zcq (i := 0) Tryz.results278 rfl (Za rfl) rfl
def Zjz (a1 : Tern) (b2 : Tern) : Option Bool :=
 (Z9f b2.Mask a1.Mask).bind fun x5 => (Zfp x5).bind fun x6 => (opt x6 (Zfl b2 a1.Value)).bind fun x7 => some (x6 && x7)
theorem Ynw : Q2 Tryz.prog 337 (rd Z4) (rd Z4) (rd Z5) Zjz := fun a1 b2 r h => I0 Tryz.func337 rfl Tryz.ntmps337 rfl fun w H => by
 unfold Zjz at h
 refine SR <| Cv rfl (Zm 3 rfl rfl (vt rfl)) fun g3 => Cv rfl (Zm 4 rfl rfl (vt rfl)) fun g4 => Ab rfl <| Nl <| sq ?_
 obtain ⟨x5, hx5, x6, hx6, x7, hx7, h⟩ := bs3 h
 refine Rg <| Zf lTern_1 Z3t rfl <| Ld Z02 4 rfl <| Zf lTern_1 Z3t rfl <| Ld Z02 3 rfl <| Cl [6, 8] (Zfu _ _ _ hx5) Zg0 rfl <| Cl [9] (Zu2 _ _ hx6) Zpx rfl <| Md rfl <| Gd rfl (fun hq => Z1x rfl rfl Z03 (vt rfl) (i := 4) rfl) <| Gd rfl (fun hq => Z2p lTern_0 rfl rfl Z4l (vt rfl)) <| Gd rfl (fun hq => Z1x rfl rfl Z02 (Zs rfl hq) (i := 3) rfl) <| Gd rfl (fun hq => Z13 (xs := [.tmp 12, .tmp 14]) (Zsi _ _ _ (Z4m hx7 hq)) Zrm rfl rfl ⟨Zs rfl hq, Zs rfl hq, trivial⟩) <| Ac (Z26 rfl rfl (vt rfl) (vt rfl)) rfl <| As rfl <| Nl <| rt ?_
 cases h; exact Zg Tryz.results337 rfl (Za rfl)
def Zar (b2 : Zk) : (List Tern) → Nat → Option Bool
 | [], i5 => some true
 | x7 :: l6, i5 => (chk 24 (i5 : Int)).bind fun j9 => (Zjz x7 (Vector.get b2 j9)).bind fun x10 => (bif (!x10) then some false else (Zar b2 l6) (i5 + 1))
def Zi5 (a1 : Zk) (b2 : Zk) : Option Bool :=
 Zar b2 (Vector.toList a1) 0
theorem Yjs : Q2 Tryz.prog 316 (rd (Z3 24 Z4)) (rd (Z3 24 Z4)) (rd Z5) Zi5 := fun a1 b2 r h => I0 Tryz.func316 rfl Tryz.ntmps316 rfl fun w H => by
 unfold Zi5 at h
 refine SR <| Cv rfl (Zm 3 rfl rfl (vt rfl)) fun g3 => Cv rfl (Zm 4 rfl rfl (vt rfl)) fun g4 => Ab rfl <| Nl <| sq <| SR <| Ld Z00 3 rfl <| Mk rfl <| Nl <| bk <| LG (d := []) (ν := (List Tern) × Nat) (fun (l6, i5) => (Sfx (Vector.toList a1) i5 l6 ∧ Zar b2 l6 i5 = some r, l6.length, [(3, Z7 g4 (Lens.id (Z3 24 Z4))), (7, rd (Z3 24 Z4) a1), (8, rd (Z0 .i64) (i5 : Int))], [(4, Zc g4 87 (Z3 24 Z4) b2)])) ((Vector.toList a1), 0) ⟨Sfx.start _, h⟩ (FX rfl) ?_
 rintro ⟨l6, i5⟩ ⟨hsf1, h⟩
 dsimp only at hsf1 h ⊢
 cases l6 with
 | nil =>
  unfold Zar at h
  refine SR <| Ac (Zi rfl rfl (vt rfl) (vk rfl)) rfl <| Nl <| sq <| Cn rfl (fun hc => absurd (of_decide_eq_true hc) (hsf1.niln (by simp))) (fun hc => ?_)
  refine xt <| SR <| Ab rfl <| Nl <| rt ?_
  cases h; exact Zg Tryz.results316 rfl (Za rfl)
 | cons x7 l6 =>
  unfold Zar at h
  refine SR <| Ac (Zi rfl rfl (vt rfl) (vk rfl)) rfl <| Nl <| sq <| Cn rfl (fun hc => ?_) (fun hc => absurd (hsf1.consn (by simp)) (of_decide_eq_false hc))
  have hlti5 := of_decide_eq_true hc
  refine sk <| sq <| bk <| SR <| Md rfl <| Ac (Za3 rfl rfl Z4a Z03 (vt rfl) (vt rfl) hsf1.lget) rfl <| Cv rfl (Zp 7 rfl rfl Z2b) fun g8 => As rfl <| Zh Z03 7 rfl <| Nl <| sq ?_
  obtain ⟨j9, hj9, x10, hx10, h⟩ := bs2 h
  refine AR Zw (by kernel_rfl) <| Zl Z03 7 rfl <| SMd rfl <| Sd (lo [3, 13] [] rfl fun S hs hr => Z2q rfl rfl Z4a (vh hs 3 rfl rfl) (vh hs 13 rfl rfl) hj9) <| Zl Z03 4 rfl <| SCl [12, 15] (Ynw _ _ _ hx10) Ym5 rfl <| Sd (lo [16] [] rfl fun S hs hr => Z0x rfl rfl (vh hs 16 rfl rfl)) <| Sn <| Cq rfl h (fun h => ?_) (fun h => ?_)
  ·refine SR <| Ab rfl <| Nl <| rt ?_
   cases h; exact Zg Tryz.results316 rfl (Za rfl)
  ·refine sk <| Rg <| Ac (Z6r rfl rfl (vt rfl) (vk rfl) rfl hlti5) rfl <| Md rfl <| Nl ?_
   exact ⟨(_, _), Nat.lt_succ_self _, ⟨hsf1.next, h⟩, FX rfl⟩
end Go.Proofs.YtknpgojdkobgjaaGreat.W
set_option maxRecDepth 4000
namespace Go.Proofs.YtknpgojdkobgjaaGreat.W
open Go Go.Wb
theorem Yk0 : Ent Tryz.prog 316 := Ent.mk Tryz.func316 rfl rfl
theorem Y1k : Ent Tryz.prog 331 := Ent.mk Tryz.func331 rfl rfl
theorem Yjj : Ent Tryz.prog 294 := Ent.mk Tryz.func294 rfl rfl
theorem Zzu : Ent Tryz.prog 319 := Ent.mk Tryz.func319 rfl rfl
theorem Yes : Ent Tryz.prog 318 := Ent.mk Tryz.func318 rfl rfl
theorem Zzs : Ent Tryz.prog 320 := Ent.mk Tryz.func320 rfl rfl
theorem Yct : Ent Tryz.prog 317 := Ent.mk Tryz.func317 rfl rfl
def Z87 (x1 : Zk) : (List Zk) → Nat → Int → Option (Bool × Int)
 | [], i6, x5 => some (false, x5)
 | x8 :: l7, i6, x5 => (Z7y x1 x8).bind fun x10 => (bif (!x10.2) then (Z87 x1 l7) (i6 + 1) x5 else (Zi5 x1 x8).bind fun x12 => (bif x12 then some (true, (i6 : Int)) else (bif (decide (x5 < 0)) then (Z87 x1 l7) (i6 + 1) (i6 : Int) else (Z87 x1 l7) (i6 + 1) x5)))
def Zpp (x1 : Zk) (l2 : (List Zk)) : Option (Bool × Int) :=
 Z87 x1 l2 0 (-1)
theorem Yh1 : Q2 Tryz.prog 279 (rd (Z3 24 Z4)) (rd (Z1 (Z3 24 Z4))) (fun r => Z1d (rd Z5 r.1) (rd (Z0 .i64) r.2)) Zpp := fun x1 l2 r h => I0 Tryz.func279 rfl Tryz.ntmps279 rfl fun w H => by
 unfold Zpp at h
 refine SR <| Cv rfl (Zm 3 rfl rfl (vt rfl)) fun g3 => Ab rfl <| Ak rfl <| Nl <| SR <| Ak rfl <| Nl <| sq <| SR <| Md rfl <| Ac (Z0t rfl rfl Z7j (vt rfl)) rfl <| Mk rfl <| Nl <| bk <| LG (d := []) (ν := (List Zk) × Nat × Int) (fun (l7, i6, x5) => (Sfx l2 i6 l7 ∧ Z87 x1 l7 i6 x5 = some r, l7.length, [(2, Z7 g3 (Lens.id (Z3 24 Z4))), (6, rd (Z0 .i64) x5), (11, rd (Z1 (Z3 24 Z4)) l2), (12, rd (Z0 .i64) (l2.length : Int)), (13, rd (Z0 .i64) (i6 : Int))], [(3, Zc g3 87 (Z3 24 Z4) x1)])) (l2, 0, (-1)) ⟨Sfx.start _, h⟩ (FX rfl) ?_
 rintro ⟨l7, i6, x5⟩ ⟨hsf1, h⟩
 dsimp only at hsf1 h ⊢
 cases l7 with
 | nil =>
  unfold Z87 at h
  refine SR <| Ac (Zi rfl rfl (vt rfl) (vt rfl)) rfl <| Nl <| sq <| Cn rfl (fun hc => absurd (of_decide_eq_true hc) hsf1.nil) (fun hc => ?_)
  refine xt <| SR <| Md rfl <| Ab rfl <| As rfl <| Nl <| rt ?_
  cases h; exact Z1k Tryz.results279 rfl (Za rfl) (Za rfl)
 | cons x8 l7 =>
  unfold Z87 at h
  refine SR <| Ac (Zi rfl rfl (vt rfl) (vt rfl)) rfl <| Nl <| sq <| Cn rfl (fun hc => ?_) (fun hc => absurd hsf1.cons (of_decide_eq_false hc))
  have hlti6 := of_decide_eq_true hc
  refine sk <| sq <| bk <| SR <| Md rfl <| Ac (Z0w rfl rfl Z7j (vt rfl) (vt rfl) hsf1.lget) rfl <| Lp1 Z00 rfl <| Cv rfl (Zp 9 rfl rfl Z2c) fun g9 => As rfl <| Zh Z00 9 rfl <| Nl <| sq ?_
  obtain ⟨x10, hx10, h⟩ := Z8 h
  refine Rg <| Ld Z00 3 rfl <| Ld Z00 9 rfl <| Cl [19, 20] (Zol _ _ _ hx10) Zms rfl <| Mt2 rfl <| Ac (Z1m rfl rfl (vt rfl)) rfl <| Ac (Z1l rfl rfl (vt rfl)) rfl <| Cv rfl (Zp 10 rfl rfl Z2c) fun g11 => Zh Z00 10 rfl <| As rfl <| Nl <| bk <| SR <| Md rfl <| Ac (Z0x rfl rfl (vt rfl)) rfl <| As rfl <| Nl <| Cq rfl h (fun h => ?_) (fun h => ?_)
  ·refine sk <| Rg <| Ac (Z0s (t := 12) rfl rfl (vt rfl) (vk rfl) (vt rfl) hlti6) rfl <| Md rfl <| Nl ?_
   exact ⟨(_, _, _), Nat.lt_succ_self _, ⟨hsf1.next, h⟩, FX rfl⟩
  ·refine sq ?_
   obtain ⟨x12, hx12, h⟩ := Z8 h
   refine Rg <| Ld Z00 3 rfl <| Ld Z00 9 rfl <| Cl [28, 29] (Yjs _ _ _ hx12) Yk0 rfl <| As rfl <| Nl <| Cq rfl h (fun h => ?_) (fun h => ?_)
   ·refine SR <| Md rfl <| Ab rfl <| As rfl <| Nl <| rt ?_
    cases h; exact Z1k Tryz.results279 rfl (Za rfl) (Za rfl)
   ·refine SR <| Md rfl <| Ac (Zi rfl rfl (vt rfl) (vk rfl)) rfl <| As rfl <| Nl <| Cq rfl h (fun h => ?_) (fun h => ?_)
    ·refine Rg <| Md rfl <| As rfl <| Nl <| Rg <| Ac (Z0s (t := 12) rfl rfl (vt rfl) (vk rfl) (vt rfl) hlti6) rfl <| Md rfl <| Nl ?_
     exact ⟨(_, _, _), Nat.lt_succ_self _, ⟨hsf1.next, h⟩, FX rfl⟩
    ·refine sk <| Rg <| Ac (Z0s (t := 12) rfl rfl (vt rfl) (vk rfl) (vt rfl) hlti6) rfl <| Md rfl <| Nl ?_
     exact ⟨(_, _, _), Nat.lt_succ_self _, ⟨hsf1.next, h⟩, FX rfl⟩
def Z9l : (List Tern) → Nat → Z0e → Option Z0e
 | [], i7, b6 => some b6
 | x9 :: l8, i7, b6 => (Z7b x9).bind fun x11 => (chk 24 (i7 : Int)).bind fun j12 => (Z9l l8) (i7 + 1) (Vector.set b6 j12.1 x11.Value j12.2)
def Zfj (x1 : Zk) : Option Z0e :=
 Z9l (Vector.toList x1) 0 (Vector.replicate 24 Z0j)
theorem Zwp : Q1 Tryz.prog 70 (rd (Z3 24 Z4)) (rd (Z3 24 Zd)) Zfj := fun x1 r h => I0 Tryz.func70 rfl Tryz.ntmps70 rfl fun w H => by
 unfold Zfj at h
 refine SR <| Cv rfl (Zm 2 rfl rfl (vt rfl)) fun g2 => Cv rfl (Zp 3 rfl rfl Z4k) fun g3 => Nl <| SR <| Cv rfl (Zp 4 rfl rfl Z4k) fun g4 => Nl <| sq <| SR <| Ld Z00 2 rfl <| Mk rfl <| Nl <| bk <| LG (d := []) (ν := (List Tern) × Nat × Z0e) (fun (l8, i7, b6) => (Sfx (Vector.toList x1) i7 l8 ∧ Z9l l8 i7 b6 = some r, l8.length, [(2, Z7 g3 (Lens.id (Z3 24 Zd))), (3, Z7 g4 (Lens.id (Z3 24 Zd))), (6, rd (Z3 24 Z4) x1), (7, rd (Z0 .i64) (i7 : Int))], [(3, Zc g3 44 (Z3 24 Zd) (Vector.replicate 24 Z0j)), (4, Zc g4 44 (Z3 24 Zd) b6)])) ((Vector.toList x1), 0, (Vector.replicate 24 Z0j)) ⟨Sfx.start _, h⟩ (FX rfl) ?_
 rintro ⟨l8, i7, b6⟩ ⟨hsf1, h⟩
 dsimp only at hsf1 h ⊢
 cases l8 with
 | nil =>
  unfold Z9l at h
  refine SR <| Ac (Zi rfl rfl (vt rfl) (vk rfl)) rfl <| Nl <| sq <| Cn rfl (fun hc => absurd (of_decide_eq_true hc) (hsf1.niln (by simp))) (fun hc => ?_)
  refine xt <| SR <| Ld Z0i 4 rfl <| Zh Z0i 3 rfl <| Nl <| rt ?_
  cases h; exact Zg Tryz.results70 rfl (Z01 rfl (i := 3) rfl Z0i)
 | cons x9 l8 =>
  unfold Z9l at h
  refine SR <| Ac (Zi rfl rfl (vt rfl) (vk rfl)) rfl <| Nl <| sq <| Cn rfl (fun hc => ?_) (fun hc => absurd (hsf1.consn (by simp)) (of_decide_eq_false hc))
  have hlti7 := of_decide_eq_true hc
  refine sk <| sq <| bk <| SR <| Md rfl <| Ac (Za3 rfl rfl Z4a Z03 (vt rfl) (vt rfl) hsf1.lget) rfl <| Cv rfl (Zp 6 rfl rfl Z2b) fun g10 => As rfl <| Zh Z03 6 rfl <| Nl ?_
  obtain ⟨x11, hx11, j12, hj12, h⟩ := bs2 h
  refine Rg <| Md rfl <| Ld Z03 6 rfl <| Cl [12] (Z9v _ _ hx11) Z92 rfl <| Ac (Zv0 lTern_0 rfl rfl Z4l Y7q Z02 rfl (vt rfl)) rfl <| Ac (Z2q rfl rfl Ze2 (vt rfl) (vt rfl) hj12) rfl <| Zh Z02 4 rfl <| Nl <| Rg <| Ac (Z6r rfl rfl (vt rfl) (vk rfl) rfl hlti7) rfl <| Md rfl <| Nl ?_
  exact ⟨(_, _, _), Nat.lt_succ_self _, ⟨hsf1.next, h⟩, FX rfl⟩
def Zhe (x1 : (BitVec 64)) : Option Int :=
 (Z3i x1 ((1 : BitVec 64).toNat : Int)).bind fun q2 => (Z3i ((q2 &&& (6148914691236517205 : BitVec 64)) + (x1 &&& (6148914691236517205 : BitVec 64))) ((2 : BitVec 64).toNat : Int)).bind fun q3 => (Z3i ((q3 &&& (3689348814741910323 : BitVec 64)) + (((q2 &&& (6148914691236517205 : BitVec 64)) + (x1 &&& (6148914691236517205 : BitVec 64))) &&& (3689348814741910323 : BitVec 64))) ((4 : BitVec 64).toNat : Int)).bind fun q4 => (Z3i ((q4 + ((q3 &&& (3689348814741910323 : BitVec 64)) + (((q2 &&& (6148914691236517205 : BitVec 64)) + (x1 &&& (6148914691236517205 : BitVec 64))) &&& (3689348814741910323 : BitVec 64)))) &&& (1085102592571150095 : BitVec 64)) ((8 : BitVec 64).toNat : Int)).bind fun q5 => (Z3i (((q4 + ((q3 &&& (3689348814741910323 : BitVec 64)) + (((q2 &&& (6148914691236517205 : BitVec 64)) + (x1 &&& (6148914691236517205 : BitVec 64))) &&& (3689348814741910323 : BitVec 64)))) &&& (1085102592571150095 : BitVec 64)) + q5) ((16 : BitVec 64).toNat : Int)).bind fun q6 => (Z3i ((((q4 + ((q3 &&& (3689348814741910323 : BitVec 64)) + (((q2 &&& (6148914691236517205 : BitVec 64)) + (x1 &&& (6148914691236517205 : BitVec 64))) &&& (3689348814741910323 : BitVec 64)))) &&& (1085102592571150095 : BitVec 64)) + q5) + q6) ((32 : BitVec 64).toNat : Int)).bind fun q7 => some (Ztf .and .i64 (IntKind.i64.wrap ((((((q4 + ((q3 &&& (3689348814741910323 : BitVec 64)) + (((q2 &&& (6148914691236517205 : BitVec 64)) + (x1 &&& (6148914691236517205 : BitVec 64))) &&& (3689348814741910323 : BitVec 64)))) &&& (1085102592571150095 : BitVec 64)) + q5) + q6) + q7).toNat : Int)) 127)
theorem Zzh : Q1 Tryz.prog 331 (rd Z0n) (rd (Z0 .i64)) Zhe := fun x1 r h => I0 Tryz.func331 rfl Tryz.ntmps331 rfl fun w H => by
 unfold Zhe at h
 refine SR <| Ak rfl <| Nl <| sq ?_
 obtain ⟨q2, hq2, h⟩ := Z8 h
 refine Rg <| Md rfl <| Ac (Z63 rfl rfl (vt rfl) (Z60 (vku (1 : BitVec 64) rfl)) hq2) rfl <| Ac (Zco rfl rfl (vt rfl) (vku (6148914691236517205 : BitVec 64) rfl)) rfl <| Md rfl <| Ac (Zco rfl rfl (vt rfl) (vku (6148914691236517205 : BitVec 64) rfl)) rfl <| Ac (Zhs rfl rfl (vt rfl) (vt rfl)) rfl <| As rfl <| Nl <| sq ?_
 obtain ⟨q3, hq3, h⟩ := Z8 h
 refine Rg <| Md rfl <| Ac (Z63 rfl rfl (vt rfl) (Z60 (vku (2 : BitVec 64) rfl)) hq3) rfl <| Ac (Zco rfl rfl (vt rfl) (vku (3689348814741910323 : BitVec 64) rfl)) rfl <| Md rfl <| Ac (Zco rfl rfl (vt rfl) (vku (3689348814741910323 : BitVec 64) rfl)) rfl <| Ac (Zhs rfl rfl (vt rfl) (vt rfl)) rfl <| As rfl <| Nl <| sq ?_
 obtain ⟨q4, hq4, h⟩ := Z8 h
 refine Rg <| Md rfl <| Ac (Z63 rfl rfl (vt rfl) (Z60 (vku (4 : BitVec 64) rfl)) hq4) rfl <| Md rfl <| Ac (Zhs rfl rfl (vt rfl) (vt rfl)) rfl <| Ac (Zco rfl rfl (vt rfl) (vku (1085102592571150095 : BitVec 64) rfl)) rfl <| As rfl <| Nl <| sq ?_
 obtain ⟨q5, hq5, h⟩ := Z8 h
 refine Rg <| Md rfl <| Md rfl <| Ac (Z63 rfl rfl (vt rfl) (Z60 (vku (8 : BitVec 64) rfl)) hq5) rfl <| Ac (Zhs rfl rfl (vt rfl) (vt rfl)) rfl <| As rfl <| Nl <| sq ?_
 obtain ⟨q6, hq6, h⟩ := Z8 h
 refine Rg <| Md rfl <| Md rfl <| Ac (Z63 rfl rfl (vt rfl) (Z60 (vku (16 : BitVec 64) rfl)) hq6) rfl <| Ac (Zhs rfl rfl (vt rfl) (vt rfl)) rfl <| As rfl <| Nl <| sq ?_
 obtain ⟨q7, hq7, h⟩ := Z8 h
 refine Rg <| Md rfl <| Md rfl <| Ac (Z63 rfl rfl (vt rfl) (Z60 (vku (32 : BitVec 64) rfl)) hq7) rfl <| Ac (Zhs rfl rfl (vt rfl) (vt rfl)) rfl <| As rfl <| Nl <| SR <| Md rfl <| Ac (Z9h rfl rfl Y72 un3 (vt rfl)) rfl <| Ac (Yiv rfl rfl (vt rfl) (vk rfl)) rfl <| As rfl <| Nl <| rt ?_
 cases h; exact Zg Tryz.results331 rfl (Za rfl)
def Zk0 (a1 : Wide) : Option Int :=
 (Zhe a1.Hi).bind fun x3 => (Zhe a1.Lo).bind fun x4 => some (IntKind.i64.wrap (x3 + x4))
theorem Yms : Q1 Tryz.prog 294 (rd Zd) (rd (Z0 .i64)) Zk0 := fun a1 r h => I0 Tryz.func294 rfl Tryz.ntmps294 rfl fun w H => by
 unfold Zk0 at h
 refine SR <| Cv rfl (Zm 2 rfl rfl (vt rfl)) fun g2 => Ak rfl <| Nl <| sq ?_
 obtain ⟨x3, hx3, x4, hx4, h⟩ := bs2 h
 refine AR Zw (by kernel_rfl) <| Zv lWide_0 Z8v rfl <| Zl Z2o 2 rfl <| SCl [4] (Zzh _ _ hx3) Y1k rfl <| Zv lWide_1 Z82 rfl <| Zl Z2o 2 rfl <| SCl [7] (Zzh _ _ hx4) Y1k rfl <| Sd (lo [5, 8] [] rfl fun S hs hr => Z0o rfl rfl (vh hs 5 rfl rfl) (vh hs 8 rfl rfl)) <| SAs rfl <| Sn <| rt ?_
 cases h; exact Zg Tryz.results294 rfl (Za rfl)
def Zhi (a1 : Wide) (i2 : Int) : Option Bool :=
 (Zbh i2).bind fun x4 => (Zbi a1 x4).bind fun x5 => (Zfp x5).bind fun x6 => some (!x6)
theorem Zvy : Q2 Tryz.prog 319 (rd Zd) (rd (Z0 .i64)) (rd Z5) Zhi := fun a1 i2 r h => I0 Tryz.func319 rfl Tryz.ntmps319 rfl fun w H => by
 unfold Zhi at h
 refine SR <| Cv rfl (Zm 3 rfl rfl (vt rfl)) fun g3 => Ab rfl <| Nl <| sq ?_
 obtain ⟨x4, hx4, x5, hx5, x6, hx6, h⟩ := bs3 h
 refine AR Zw (by kernel_rfl) <| Zl Z02 3 rfl <| SMd rfl <| SCl [6] (Zmf _ _ hx4) Znb rfl <| SCl [5, 7] (Zka _ _ _ hx5) Zk2 rfl <| SCl [8] (Zu2 _ _ hx6) Zpx rfl <| Sd (lo [9] [] rfl fun S hs hr => Z0x rfl rfl (vh hs 9 rfl rfl)) <| SAs rfl <| Sn <| rt ?_
 cases h; exact Zg Tryz.results319 rfl (Za rfl)
def Zbe (x5 : Wide) : Nat → (List Int) → Int → Option (List Int)
 | 0, _, _ => none
 | m13 + 1, l10, i12 => (opt (decide (i12 ≥ 0)) (Zk0 x5)).bind fun x14 => (bif ((decide (i12 ≥ 0)) && (decide ((l10.length : Int) < x14))) then (Zhi x5 i12).bind fun x15 => (bif x15 then (Z1a l10 [i12]).bind fun l16 => (Zbe x5 m13) l16 (IntKind.i64.wrap (i12 - 1)) else (Zbe x5 m13) l10 (IntKind.i64.wrap (i12 - 1))) else some l10)
def Zi2 (a1 : Tern) (b2 : Tern) : Option (List Int) :=
 (Z9f b2.Mask a1.Mask).bind fun x5 => Zbe x5 Z0k [] 127
theorem Y6f : Q2 Tryz.prog 318 (rd Z4) (rd Z4) (rd (Z1 (Z0 .i64))) Zi2 := fun a1 b2 r h => I0 Tryz.func318 rfl Tryz.ntmps318 rfl fun w H => by
 unfold Zi2 at h
 refine SR <| Cv rfl (Zm 3 rfl rfl (vt rfl)) fun g3 => Cv rfl (Zm 4 rfl rfl (vt rfl)) fun g4 => Ac (Zy (A := rd (Z1 (Z0 .i64)) []) rfl rfl Z1h) rfl <| Nl <| sq ?_
 obtain ⟨x5, hx5, h⟩ := Z8 h
 refine Rg <| Zf lTern_1 Z3t rfl <| Ld Z02 4 rfl <| Zf lTern_1 Z3t rfl <| Ld Z02 3 rfl <| Cl [9, 11] (Zfu _ _ _ hx5) Zg0 rfl <| Cv rfl (Zp 6 rfl rfl Z3q) fun g6 => Zh Z02 6 rfl <| Nl <| sq <| AW.newnil 1001 3 (Z0 .i64) <| Rg <| Ac (Zy rfl rfl vc) rfl <| Nl <| sq <| SR <| Ak rfl <| Nl <| bk <| LG (d := []) (ν := Nat × (List Int) × Int × Value) (fun (m13, l10, i12, v11) => (True ∧ Zbe x5 m13 l10 i12 = some r, m13, [(5, Z7 g6 (Lens.id Zd)), (6, Zn v11), (7, rd (Z0 .i64) i12)], [(6, Zc g6 42 Zd x5), (1001, Zb v11 3 (Z0 .i64) l10)])) (Z0k, [], 127, (.slice none 0 0)) ⟨trivial, h⟩ (FX rfl) ?_
 rintro ⟨m13, l10, i12, v11⟩ ⟨hsf1, h⟩
 dsimp only at h ⊢
 cases m13 with
 | zero => cases h
 | succ m13 =>
  unfold Zbe at h
  refine sq <| sq ?_
  obtain ⟨x14, hx14, h⟩ := Z8 h
  refine Rg <| Md rfl <| Ac (Z3r rfl rfl (vt rfl) (vk rfl)) rfl <| Md rfl <| Gd rfl (fun hq => Zu (A := Zn v11) rfl rfl (vt rfl)) <| Gd rfl (fun hq => Z7a 1001 rfl rfl Z14 (Zs rfl hq) rfl) <| Gd rfl (fun hq => Z1x rfl rfl Z02 (vt rfl) (i := 6) rfl) <| Gd rfl (fun hq => Z13 (xs := [.tmp 18]) (Yms _ _ (Z4m hx14 hq)) Yjj rfl rfl ⟨Zs rfl hq, trivial⟩) <| Gd rfl (fun hq => Zi rfl rfl (Zs rfl hq) (Zs rfl hq)) <| Ac (Z26 rfl rfl (vt rfl) (vt rfl)) rfl <| Nl <| Cq rfl h (fun h => ?_) (fun h => ?_)
  ·refine sk <| sq <| bk <| sq ?_
   obtain ⟨x15, hx15, h⟩ := Z8 h
   refine Rg <| Ld Z02 6 rfl <| Md rfl <| Cl [24, 25] (Zvy _ _ _ hx15) Zzu rfl <| Nl <| Cq rfl h (fun h => ?_) (fun h => ?_)
   ·obtain ⟨l16, hl16, h⟩ := Z8 h
    refine Rg <| Mw rfl <| Md rfl <| Ac (osl Z14 zr3 rfl (vt rfl)) rfl <| Cv rfl (Z4e 1001 hl16 rfl rfl Znc (vt rfl) rfl (vt rfl)) fun v17 => Aw rfl <| Nl <| Rg <| Md rfl <| Ac (Z0u rfl rfl (vt rfl) (vk rfl)) rfl <| As rfl <| Nl ?_
    exact ⟨(_, _, _, _), Nat.lt_succ_self _, ⟨trivial, h⟩, FX rfl⟩
   ·refine sk <| Rg <| Md rfl <| Ac (Z0u rfl rfl (vt rfl) (vk rfl)) rfl <| As rfl <| Nl ?_
    exact ⟨(_, _, _, _), Nat.lt_succ_self _, ⟨trivial, h⟩, FX rfl⟩
  ·refine xt <| SR <| Mw rfl <| Aw rfl <| Nl <| AW.freezes [4, 6, 31] 1001 rfl ⟨rfl, rfl, rfl, trivial⟩ rfl <| rt ?_
   cases h; exact Zg Tryz.results318 rfl (Za rfl)
def Zgr (t1 : Tern) (i2 : Int) (o3 : Bool) : Option Tern :=
 (Zbh i2).bind fun x6 => (Z7b t1).bind fun x8 => (Z8k x8.Mask x6).bind fun x9 => (Z9f x8.Value x6).bind fun x10 => (bif o3 then (Z8k ({ { x8 with Mask := x9 } with Value := x10 }.Value) x6).bind fun x11 => some { { { x8 with Mask := x9 } with Value := x10 } with Value := x11 } else some { { x8 with Mask := x9 } with Value := x10 })
theorem Y0q : Q3 Tryz.prog 320 (rd Z4) (rd (Z0 .i64)) (rd Z5) (rd Z4) Zgr := fun t1 i2 o3 r h => I0 Tryz.func320 rfl Tryz.ntmps320 rfl fun w H => by
 unfold Zgr at h
 refine SR <| Cv rfl (Zm 4 rfl rfl (vt rfl)) fun g4 => Cv rfl (Zp 7 rfl rfl Z2b) fun g5 => Nl <| sq ?_
 obtain ⟨x6, hx6, h⟩ := Z8 h
 refine Rg <| Md rfl <| Cl [8] (Zmf _ _ hx6) Znb rfl <| Cv rfl (Zp 8 rfl rfl Z3q) fun g7 => Zh Z02 8 rfl <| Nl <| sq ?_
 obtain ⟨x8, hx8, h⟩ := Z8 h
 refine Rg <| Ld Z03 4 rfl <| Cl [10] (Z9v _ _ hx8) Z92 rfl <| Zh Z03 4 rfl <| Nl <| sq ?_
 obtain ⟨x9, hx9, x10, hx10, h⟩ := bs2 h
 refine AR Zw (by kernel_rfl) <| Zv lTern_1 Z3t rfl <| Zl Z02 4 rfl <| Zl Z02 8 rfl <| SCl [13, 14] (Zdy _ _ _ hx9) Zdo rfl <| Zv lTern_0 Z4l rfl <| Zl Z02 4 rfl <| Zl Z02 8 rfl <| SCl [17, 18] (Zfu _ _ _ hx10) Zg0 rfl <| Zv lTern_1 Z3t rfl <| SSt Z02 4 rfl <| Zv lTern_0 Z4l rfl <| SSt Z02 4 rfl <| Sn <| sq <| SR <| Md rfl <| Nl <| Cq rfl h (fun h => ?_) (fun h => ?_)
 ·obtain ⟨x11, hx11, h⟩ := Z8 h
  refine Rg <| Zf lTern_0 Z4l rfl <| Ld Z02 4 rfl <| Ld Z02 8 rfl <| Cl [24, 25] (Zdy _ _ _ hx11) Zdo rfl <| Zf lTern_0 Z4l rfl <| Zh Z02 4 rfl <| Nl <| SR <| Ld Z03 4 rfl <| Zh Z03 7 rfl <| Nl <| rt ?_
  cases h; exact Zg Tryz.results320 rfl (Z01 rfl (i := 7) rfl Z03)
 ·refine sk <| SR <| Ld Z03 4 rfl <| Zh Z03 7 rfl <| Nl <| rt ?_
  cases h; exact Zg Tryz.results320 rfl (Z01 rfl (i := 7) rfl Z03)
def Zey (sg : Type) (go1 : Nat → Zk → (Lp sg) → Option (Lp sg)) (i14 : Nat) (x16 : Tern) (y1 : (sg → Zk → Option (Lp sg))) : (List Int) → Nat → Zk → (Lp sg) → Option (Lp sg)
 | [], i24, b22, s23 => go1 (i14 + 1) b22 s23
 | x26 :: l25, i24, b22, s23 => (Zhi x16.Value x26).bind fun x27 => (chk 24 (i14 : Int)).bind fun j29 => (Zgr (Vector.get b22 j29) x26 (!x27)).bind fun x30 => (chk 24 (i14 : Int)).bind fun j31 => (yc y1 s23 (Vector.set b22 j31.1 x30 j31.2)).bind fun s32 => (bif (!(Lp.isGo s32)) then some s32 else (chk 24 (i14 : Int)).bind fun j33 => (Zgr (Vector.get b22 j33) x26 x27).bind fun x34 => (chk 24 (i14 : Int)).bind fun j35 => (Zey sg go1 i14 x16 y1 l25) (i24 + 1) (Vector.set b22 j35.1 x34 j35.2) s32)
def Za0 (sg : Type) (y1 : (sg → Zk → Option (Lp sg))) : (List Tern) → Nat → Zk → (Lp sg) → Option (Lp sg)
 | [], i14, b12, s13 => some s13
 | x16 :: l15, i14, b12, s13 => (chk 24 (i14 : Int)).bind fun j18 => (Zi2 (Vector.get b12 j18) x16).bind fun x19 => (bif (decide ((x19.length : Int) = 0)) then (Za0 sg y1 l15) (i14 + 1) b12 s13 else Zey sg (Za0 sg y1 l15) i14 x16 y1 x19 0 b12 s13)
def Zaz (sg : Type) (y1 : (sg → Zk → Option (Lp sg))) (s2 : (Lp sg)) (x3 : Zk) (x4 : Zk) : Option (Lp sg) :=
 (Zbd x3).bind fun x5 => (Z7y x3 x4).bind fun x7 => (bif (!x7.2) then (yc y1 s2 x5).bind fun s9 => some s9 else Za0 sg y1 (Vector.toList x4) 0 x5 s2)
theorem Ym0 (sg : Type) (y1 : (sg → Zk → Option (Lp sg))) (L : Lp sg → Zt) (s2 : (Lp sg)) (x3 : Zk) (x4 : Zk) (r : (Lp sg)) (h : Zaz sg y1 s2 x3 x4 = some r) : Con Tryz.prog 317 [ydA Tryz.prog (Z3 24 Z4) y1 L, rp (Z3 24 Z4) x3, rp (Z3 24 Z4) x4] (L s2) (fun _ : Unit => top) (fun _ => L r) := by
 refine Con.intro Tryz.func317 rfl Tryz.ntmps317 rfl fun w H X => ?_
 unfold Zaz at h
 refine AW.scope <| sq ?_
 obtain ⟨x5, hx5, h⟩ := Z8 h
 refine Rg <| Lp1 Z00 rfl <| Cl [14] (Zn5 _ _ hx5) Zos rfl <| Cv rfl (Zp 5 rfl rfl Z2c) fun g6 => Zh Z00 5 rfl <| Nl <| sq <| sq ?_
 obtain ⟨x7, hx7, h⟩ := Z8 h
 refine Rg <| Lp1 Z00 rfl <| Lp1 Z00 rfl <| Cl [17, 18] (Zol _ _ _ hx7) Zms rfl <| Mt2 rfl <| Ac (Z1m rfl rfl (vt rfl)) rfl <| Ac (Z1l rfl rfl (vt rfl)) rfl <| Cv rfl (Zp 6 rfl rfl Z2c) fun g8 => Zh Z00 6 rfl <| As rfl <| Nl <| SR <| Md rfl <| Ac (Z0x rfl rfl (vt rfl)) rfl <| Nl <| Cq rfl h (fun h => ?_) (fun h => ?_)
 ·refine sq ?_
  obtain ⟨s9, hs9, h⟩ := Z8 h
  refine Rg <| Ac (Zu (A := ydA Tryz.prog (Z3 24 Z4) y1 L) rfl rfl (vt rfl)) rfl <| Ld Z00 5 rfl <| Ac (Zl4 0 hs9 rfl rfl (vt rfl) (vt rfl) rfl) rfl <| Nl <| rt ?_
  cases h; exact Z1j (i := 0) Tryz.results317 rfl rfl
 ·refine sk <| sq <| AW.label <| SR <| Lp1 Z00 rfl <| Mk rfl <| Nl <| bk <| LG (d := []) (ν := (List Tern) × Nat × Zk × (Lp sg)) (fun (l15, i14, b12, s13) => (Sfx (Vector.toList x4) i14 l15 ∧ Za0 sg y1 l15 i14 b12 s13 = some r, l15.length, [(0, ydA Tryz.prog (Z3 24 Z4) y1 L), (4, Z7 g6 (Lens.id (Z3 24 Z4))), (27, rd (Z3 24 Z4) x4), (28, rd (Z0 .i64) (i14 : Int))], [(0, L s13), (5, Zc g6 87 (Z3 24 Z4) b12)])) ((Vector.toList x4), 0, x5, s2) ⟨Sfx.start _, h⟩ (FX rfl) ?_
  rintro ⟨l15, i14, b12, s13⟩ ⟨hsf1, h⟩
  dsimp only at hsf1 h ⊢
  cases l15 with
  | nil =>
   unfold Za0 at h
   refine SR <| Ac (Zi rfl rfl (vt rfl) (vk rfl)) rfl <| Nl <| sq <| Cn rfl (fun hc => absurd (of_decide_eq_true hc) (hsf1.niln (by simp))) (fun hc => ?_)
   refine xt ?_
   cases h; exact Z1j (i := 0) Tryz.results317 rfl rfl
  | cons x16 l15 =>
   unfold Za0 at h
   refine SR <| Ac (Zi rfl rfl (vt rfl) (vk rfl)) rfl <| Nl <| sq <| Cn rfl (fun hc => ?_) (fun hc => absurd (hsf1.consn (by simp)) (of_decide_eq_false hc))
   have hlti14 := of_decide_eq_true hc
   refine sk <| sq <| bk <| SR <| Md rfl <| Ac (Za3 rfl rfl Z4a Z03 (vt rfl) (vt rfl) hsf1.lget) rfl <| Cv rfl (Zp 9 rfl rfl Z2b) fun g17 => As rfl <| Zh Z03 9 rfl <| Nl <| sq ?_
   obtain ⟨j18, hj18, x19, hx19, h⟩ := bs2 h
   refine AR Zw (by kernel_rfl) <| SMd rfl <| Sd (lo [4, 32] [] rfl fun S hs hr => Z2q rfl rfl Z4a (vh hs 4 rfl rfl) (vh hs 32 rfl rfl) hj18) <| Zl Z03 5 rfl <| Zl Z03 9 rfl <| SCl [34, 35] (Y6f _ _ _ hx19) Yes rfl <| SAs rfl <| Sn <| sq <| SR <| Md rfl <| Ac (Z0t rfl rfl Z14 (vt rfl)) rfl <| Ac (Z21 rfl rfl (vt rfl) (vk rfl)) rfl <| Nl <| Cq rfl h (fun h => ?_) (fun h => ?_)
   ·refine xt <| Rg <| Ac (Z6r rfl rfl (vt rfl) (vk rfl) rfl hlti14) rfl <| Md rfl <| Nl ?_
    exact ⟨(_, _, _, _), Nat.lt_succ_self _, ⟨hsf1.next, h⟩, FX rfl⟩
   ·refine sk <| SR <| Md rfl <| Ac (Z0t rfl rfl Z14 (vt rfl)) rfl <| Mk rfl <| Nl <| bk <| LG (d := []) (ν := (List Int) × Nat × Zk × (Lp sg)) (fun (l25, i24, b22, s23) => (Sfx x19 i24 l25 ∧ Zey sg (Za0 sg y1 l15) i14 x16 y1 l25 i24 b22 s23 = some r, l25.length, [(0, ydA Tryz.prog (Z3 24 Z4) y1 L), (4, Z7 g6 (Lens.id (Z3 24 Z4))), (7, rd (Z0 .i64) (i14 : Int)), (8, Z7 g17 (Lens.id Z4)), (27, rd (Z3 24 Z4) x4), (28, rd (Z0 .i64) (i14 : Int)), (40, rd (Z1 (Z0 .i64)) x19), (41, rd (Z0 .i64) (x19.length : Int)), (42, rd (Z0 .i64) (i24 : Int))], [(0, L s23), (5, Zc g6 87 (Z3 24 Z4) b22), (9, Zc g17 85 Z4 x16)])) (x19, 0, b12, s13) ⟨Sfx.start _, h⟩ (FX rfl) ?_
    rintro ⟨l25, i24, b22, s23⟩ ⟨hsf2, h⟩
    dsimp only at hsf2 h ⊢
    cases l25 with
    | nil =>
     unfold Zey at h
     refine SR <| Ac (Zi rfl rfl (vt rfl) (vt rfl)) rfl <| Nl <| sq <| Cn rfl (fun hc => absurd (of_decide_eq_true hc) hsf2.nil) (fun hc => ?_)
     refine xt <| Rg <| Ac (Z6r rfl rfl (vt rfl) (vk rfl) rfl hlti14) rfl <| Md rfl <| Nl ?_
     exact ⟨(_, _, _, _), Nat.lt_succ_self _, ⟨hsf1.next, h⟩, FX rfl⟩
    | cons x26 l25 =>
     unfold Zey at h
     refine SR <| Ac (Zi rfl rfl (vt rfl) (vt rfl)) rfl <| Nl <| sq <| Cn rfl (fun hc => ?_) (fun hc => absurd hsf2.cons (of_decide_eq_false hc))
     have hlti24 := of_decide_eq_true hc
     refine sk <| sq <| bk <| SR <| Ac (Z0w rfl rfl Z14 (vt rfl) (vt rfl) hsf2.lget) rfl <| Lp1 Zo rfl <| As rfl <| Nl <| sq ?_
     obtain ⟨x27, hx27, h⟩ := Z8 h
     refine Rg <| Zf lTern_0 Z4l rfl <| Ld Z02 9 rfl <| Md rfl <| Cl [47, 48] (Zvy _ _ _ hx27) Zzu rfl <| As rfl <| Nl <| SR <| Ld Z00 5 rfl <| Cv rfl (Zp 14 rfl rfl Z2c) fun g28 => Zh Z00 14 rfl <| Nl <| sq ?_
     obtain ⟨j29, hj29, x30, hx30, j31, hj31, h⟩ := bs3 h
     refine Rg <| Md rfl <| Md rfl <| Ac (Z2q rfl rfl Z4a (vt rfl) (vt rfl) hj29) rfl <| Ld Z03 5 rfl <| Md rfl <| Md rfl <| Ac (Z0x rfl rfl (vt rfl)) rfl <| Cl [54, 55, 57] (Y0q _ _ _ _ hx30) Zzs rfl <| Ac (Z2q rfl rfl Z4a (vt rfl) (vt rfl) hj31) rfl <| Zh Z03 14 rfl <| Nl <| sq <| sq ?_
     obtain ⟨s32, hs32, h⟩ := Z8 h
     refine Rg <| Ac (Zu (A := ydA Tryz.prog (Z3 24 Z4) y1 L) rfl rfl (vt rfl)) rfl <| Ld Z00 14 rfl <| Ac (Zl4 0 hs32 rfl rfl (vt rfl) (vt rfl) rfl) rfl <| Ac (Z0x rfl rfl (vt rfl)) rfl <| Nl <| Cq rfl h (fun h => ?_) (fun h => ?_)
     ·refine xt ?_
      cases h; exact Z1j (i := 0) Tryz.results317 rfl rfl
     ·refine sk ?_
      obtain ⟨j33, hj33, x34, hx34, j35, hj35, h⟩ := bs3 h
      refine Rg <| Md rfl <| Md rfl <| Ac (Z2q rfl rfl Z4a (vt rfl) (vt rfl) hj33) rfl <| Ld Z03 5 rfl <| Md rfl <| Md rfl <| Cl [67, 68, 69] (Y0q _ _ _ _ hx34) Zzs rfl <| Ac (Z2q rfl rfl Z4a (vt rfl) (vt rfl) hj35) rfl <| Zh Z03 5 rfl <| Nl <| Rg <| Ac (Z0s (t := 41) rfl rfl (vt rfl) (vk rfl) (vt rfl) hlti24) rfl <| Md rfl <| Nl ?_
      exact ⟨(_, _, _, _), Nat.lt_succ_self _, ⟨hsf2.next, h⟩, FX rfl⟩
def Zkl (a1 : Zk) (b2 : Zk) : Option (Itr Zk) :=
 some (Itr.mk fun σ y s => Zaz σ y s a1 b2)
theorem Y28 : Q2 Tryz.prog 280 (rd (Z3 24 Z4)) (rd (Z3 24 Z4)) (Z4u Tryz.prog (Z3 24 Z4)) Zkl := fun a1 b2 r h => I0 Tryz.func280 rfl Tryz.ntmps280 rfl fun w H => by
 unfold Zkl at h
 refine SR <| Cv rfl (Zm 3 rfl rfl (vt rfl)) fun g3 => Cv rfl (Zm 4 rfl rfl (vt rfl)) fun g4 => Ac (Zy (A := Zn .nilFunc) rfl rfl vc) rfl <| Nl <| sq <| AW.freezeB 2 3 rfl rfl rfl <| AW.freezeB 3 4 rfl rfl rfl <| Rg <| Ac (Zre (Itr.mk fun σ y s => Zaz σ y s a1 b2) (cs := [.tmp 2, .tmp 3]) (CAs := [rp (Z3 24 Z4) a1, rp (Z3 24 Z4) b2]) rfl rfl Yct ⟨vt rfl, vt rfl, trivial⟩ (fun σ y L s r h => Ym0 σ y L s a1 b2 r h)) rfl <| Ac (Zy (A := Z4u Tryz.prog (Z3 24 Z4) (Itr.mk fun σ y s => Zaz σ y s a1 b2)) rfl rfl (vt rfl)) rfl <| Nl <| rt ?_
 cases h; exact Zg Tryz.results280 rfl (Za rfl)
end Go.Proofs.YtknpgojdkobgjaaGreat.W
set_option maxRecDepth 4000
namespace Go.Proofs.YtknpgojdkobgjaaGreat.W
open Go Go.Wb
theorem Y8a : Ent Tryz.prog 278 := Ent.mk Tryz.func278 rfl rfl
theorem Yb8 : Ent Tryz.prog 279 := Ent.mk Tryz.func279 rfl rfl
theorem e70 : Ent Tryz.prog 70 := Ent.mk Tryz.func70 rfl rfl
theorem Zzy : Ent Tryz.prog 280 := Ent.mk Tryz.func280 rfl rfl
theorem Y3a : Ent Tryz.prog 235 := Ent.mk Tryz.func235 rfl rfl
theorem Y9a : Ent Tryz.prog 240 := Ent.mk Tryz.func240 rfl rfl
theorem Yc7 : Ent Tryz.prog 179 := Ent.mk Tryz.func179 rfl rfl
theorem Yf2 : Ent Tryz.prog 170 := Ent.mk Tryz.func170 rfl rfl
theorem Yll : Ent Tryz.prog 288 := Ent.mk Tryz.func288 rfl rfl
theorem Zpw : Ent Tryz.prog 162 := Ent.mk Tryz.func162 rfl rfl
def Z9u (l4 : (List Zk)) (x10 : (Bool × Int)) (R_cover_look_at : (cover_look → Zk → (List Zk) → Option (Z0e × Bool × Bool × cover_look))) (b18 : cover_look) (b19 : Z0e) (b20 : Bool) (b21 : Bool) (x23 : Zk) : Option (Lp (cover_look × Z0e × Bool × Bool)) :=
 (Z7k l4 (IntKind.i64.wrap (x10.2 + 1))).bind fun s25 => (R_cover_look_at b18 x23 s25).bind fun b26 => (bif (b26.2.1 || (!b26.2.2.1)) then some (.out (.exit 1) (b26.2.2.2, b26.1, b26.2.1, b26.2.2.1)) else some (.go (b26.2.2.2, b26.1, b26.2.1, b26.2.2.1)))
def Zlk (R_cover_look_at : (cover_look → Zk → (List Zk) → Option (Z0e × Bool × Bool × cover_look))) (s1 : cover_look) (x3 : Zk) (l4 : (List Zk)) : Option (Z0e × Bool × Bool × cover_look) :=
 (Zib s1.purse).bind fun b9 => (bif (!b9.1) then some ((Vector.replicate 24 Z0j), false, false, { s1 with purse := b9.2 }) else (Zpp x3 l4).bind fun x10 => (bif x10.1 then some ((Vector.replicate 24 Z0j), false, true, { s1 with purse := b9.2 }) else (bif (decide (x10.2 < 0)) then (Zfj x3).bind fun x12 => some (x12, true, true, { s1 with purse := b9.2 }) else (lget l4 x10.2).bind fun x16 => (Zkl x3 x16).bind fun x17 => (Itr.run x17 (cover_look × Z0e × Bool × Bool) (fun s x => Z9u l4 x10 R_cover_look_at s.1 s.2.1 s.2.2.1 s.2.2.2 x) (.go ({ s1 with purse := b9.2 }, (Vector.replicate 24 Z0j), false, true))).bind fun z22 => Zn9 z22 (fun s27 => some (s27.2.1, s27.2.2.1, s27.2.2.2, s27.1)) (fun c s27 => bif Zmk 1 c then some (s27.2.1, s27.2.2.1, s27.2.2.2, s27.1) else none))))
theorem Yl3 (R_cover_look_at : (cover_look → Zk → (List Zk) → Option (Z0e × Bool × Bool × cover_look))) (hR_cover_look_at : ∀ (g2 gT : Nat) (s1 : cover_look) (x3 : Zk) (l4 : (List Zk)) (r : (Z0e × Bool × Bool × cover_look)), R_cover_look_at s1 x3 l4 = some r → Con Tryz.prog 235 [Z7 g2 (Lens.id Z1z), rd (Z3 24 Z4) x3, rd (Z1 (Z3 24 Z4)) l4] (Zc g2 gT Z1z s1) (fun _ : Unit => Z3f (rd (Z3 24 Zd) r.1) (rd Z5 r.2.1) (rd Z5 r.2.2.1)) (fun _ => Zc g2 gT Z1z r.2.2.2)) (g2 gT : Nat) (s1 : cover_look) (x3 : Zk) (l4 : (List Zk)) (r : (Z0e × Bool × Bool × cover_look)) (h : Zlk R_cover_look_at s1 x3 l4 = some r) : Con Tryz.prog 235 [Z7 g2 (Lens.id Z1z), rd (Z3 24 Z4) x3, rd (Z1 (Z3 24 Z4)) l4] (Zc g2 gT Z1z s1) (fun _ : Unit => Z3f (rd (Z3 24 Zd) r.1) (rd Z5 r.2.1) (rd Z5 r.2.2.1)) (fun _ => Zc g2 gT Z1z r.2.2.2) := by
 refine Con.intro Tryz.func235 rfl Tryz.ntmps235 rfl fun w H X => ?_
 unfold Zlk at h
 refine SR <| Cv rfl (Zm 4 rfl rfl (vkp (vt rfl))) fun g5 => Cv rfl (Zm 5 rfl rfl (vt rfl)) fun g6 => Cv rfl (Zm 6 rfl rfl (vt rfl)) fun g7 => Cv rfl (Zp 7 rfl rfl Z4k) fun g8 => Ab rfl <| Ab rfl <| Nl <| AW.scope <| sq <| sq ?_
 obtain ⟨b9, hb9, h⟩ := Z8 h
 refine Rg <| Ac (Ze0 (A := Z7 g2 (Lens.id Z1z)) rfl rfl rfl (Zvl _) (vt rfl) (i := 4) rfl) rfl <| Nc rfl <| Zf lcover_look_0 Y5y rfl <| Cv rfl (Z10 0 (xs := [.tmp 17]) (Yk3 _ _ _ _ hb9) Y8a rfl rfl ⟨vt rfl, trivial⟩ rfl) fun _u => AOps.told 0 (Zc g2 gT Z1z { s1 with purse := b9.2 }) rfl <| Ac (Z0x rfl rfl (vt rfl)) rfl <| Nl <| Cq rfl h (fun h => ?_) (fun h => ?_)
 ·refine SR <| Ac (Z20 (ps := []) (x := (Vector.replicate 24 Z0j)) rfl rfl rfl (by kernel_rfl) Z4k rfl) rfl <| Zh Z0i 7 rfl <| Ab rfl <| Ab rfl <| Nl <| rt ?_
  cases h; exact Zix (i := 0) Tryz.results235 rfl (Z01 rfl (i := 7) rfl Z0i) (Za rfl) (Za rfl) rfl
 ·refine sk <| sq ?_
  obtain ⟨x10, hx10, h⟩ := Z8 h
  refine Rg <| Ld Z00 5 rfl <| Ld Zor 6 rfl <| Cl [22, 23] (Yh1 _ _ _ hx10) Yb8 rfl <| Mt2 rfl <| Ac (Z1m rfl rfl (vt rfl)) rfl <| Ac (Z1l rfl rfl (vt rfl)) rfl <| Cv rfl (Zp 11 rfl rfl zr3) fun g11 => As rfl <| Zh Zo 11 rfl <| Nl <| sq <| bk <| SR <| Md rfl <| As rfl <| Nl <| Cq rfl h (fun h => ?_) (fun h => ?_)
  ·refine SR <| Ac (Z20 (ps := []) (x := (Vector.replicate 24 Z0j)) rfl rfl rfl (by kernel_rfl) Z4k rfl) rfl <| Zh Z0i 7 rfl <| Ab rfl <| Ab rfl <| Nl <| rt ?_
   cases h; exact Zix (i := 0) Tryz.results235 rfl (Z01 rfl (i := 7) rfl Z0i) (Za rfl) (Za rfl) rfl
  ·refine SR <| Ld Zo 11 rfl <| Ac (Zi rfl rfl (vt rfl) (vk rfl)) rfl <| As rfl <| Nl <| Cq rfl h (fun h => ?_) (fun h => ?_)
   ·refine sq ?_
    obtain ⟨x12, hx12, h⟩ := Z8 h
    refine Rg <| Ld Z00 5 rfl <| Cl [33] (Zwp _ _ hx12) e70 rfl <| Zh Z0i 7 rfl <| Ab rfl <| Ab rfl <| Nl <| rt ?_
    cases h; exact Zix (i := 0) Tryz.results235 rfl (Z01 rfl (i := 7) rfl Z0i) (Za rfl) (Za rfl) rfl
   ·refine sk <| SR <| Cv rfl (Zp 12 rfl rfl Z4k) fun g13 => Nl <| SR <| Cv rfl (Zp 13 rfl rfl zr4) fun g14 => Cv rfl (Zp 14 rfl rfl zr4) fun g15 => Ac (Z4y rfl rfl ty4 (vt rfl) (i := 13) rfl vb) rfl <| Ac (Z4y rfl rfl ty4 (vt rfl) (i := 14) rfl vb) rfl <| Nl <| sq <| AW.label <| sq <| sq ?_
    obtain ⟨x16, hx16, x17, hx17, h⟩ := bs2 h
    refine AR Zw (by kernel_rfl) <| Zl Z00 5 rfl <| Zl Zor 6 rfl <| Zl Zo 11 rfl <| Sd (lo [36, 37] [] rfl fun S hs hr => Z0w rfl rfl Z7j (vh hs 36 rfl rfl) (vh hs 37 rfl rfl) hx16) <| SLp Z00 rfl <| SCl [35, 39] (Y28 _ _ _ hx17) Zzy rfl <| Sn <| bk ?_
    obtain ⟨z22, hz22, h⟩ := Z8 h
    refine AW.fit (d := []) (L := [(3, Z7 g5 (Lens.id (kas (Z7 g2 (Lens.id Z1z))))), (5, Z7 g7 (Lens.id (Z1 (Z3 24 Z4)))), (6, Z7 g8 (Lens.id (Z3 24 Zd))), (7, rd Z5 false), (8, rd Z5 false), (10, Z7 g11 (Lens.id (Z0 .i64))), (11, Z7 g13 (Lens.id (Z3 24 Zd))), (12, Z7 g14 (Lens.id Z5)), (13, Z7 g15 (Lens.id Z5)), (40, Z4u Tryz.prog (Z3 24 Z4) x17)]) (M := [(4, Zc g5 286 (kas (Z7 g2 (Lens.id Z1z))) ()), (0, Zc g2 gT Z1z { s1 with purse := b9.2 }), (6, Zc g7 229 (Z1 (Z3 24 Z4)) l4), (7, Zc g8 44 (Z3 24 Zd) (Vector.replicate 24 Z0j)), (11, Zc g11 3 (Z0 .i64) x10.2), (12, Zc g13 44 (Z3 24 Zd) (Vector.replicate 24 Z0j)), (13, Zc g14 4 Z5 false), (14, Zc g15 4 Z5 true)]) (FX rfl) ?_
    refine AW.rangeFunc (σ := cover_look × Z0e × Bool × Bool) (fun x => [rd (Z3 24 Z4) x]) (fun s x => Z9u l4 x10 R_cover_look_at s.1 s.2.1 s.2.2.1 s.2.2.2 x) (fun s => Z2x ((fun s => [(4, Zc g5 286 (kas (Z7 g2 (Lens.id Z1z))) ()), (0, Zc g2 gT Z1z s.1), (6, Zc g7 229 (Z1 (Z3 24 Z4)) l4), (7, Zc g8 44 (Z3 24 Zd) (Vector.replicate 24 Z0j)), (11, Zc g11 3 (Z0 .i64) x10.2), (12, Zc g13 44 (Z3 24 Zd) s.2.1), (13, Zc g14 4 Z5 s.2.2.1), (14, Zc g15 4 Z5 s.2.2.2)]) s)) (fun _ s => Z2x ((fun s => [(4, Zc g5 286 (kas (Z7 g2 (Lens.id Z1z))) ()), (0, Zc g2 gT Z1z s.1), (6, Zc g7 229 (Z1 (Z3 24 Z4)) l4), (7, Zc g8 44 (Z3 24 Zd) (Vector.replicate 24 Z0j)), (11, Zc g11 3 (Z0 .i64) x10.2), (12, Zc g13 44 (Z3 24 Zd) s.2.1), (13, Zc g14 4 Z5 s.2.2.1), (14, Zc g15 4 Z5 s.2.2.2)]) s)) [(3, Z7 g5 (Lens.id (kas (Z7 g2 (Lens.id Z1z))))), (5, Z7 g7 (Lens.id (Z1 (Z3 24 Z4)))), (6, Z7 g8 (Lens.id (Z3 24 Zd))), (7, rd Z5 false), (8, rd Z5 false), (10, Z7 g11 (Lens.id (Z0 .i64))), (11, Z7 g13 (Lens.id (Z3 24 Zd))), (12, Z7 g14 (Lens.id Z5)), (13, Z7 g15 (Lens.id Z5))] (fun s x23 S1 => ∃ (g24 : Nat), Fit S1 [] [(3, Z7 g5 (Lens.id (kas (Z7 g2 (Lens.id Z1z))))), (5, Z7 g7 (Lens.id (Z1 (Z3 24 Z4)))), (6, Z7 g8 (Lens.id (Z3 24 Zd))), (7, rd Z5 false), (8, rd Z5 false), (10, Z7 g11 (Lens.id (Z0 .i64))), (11, Z7 g13 (Lens.id (Z3 24 Zd))), (12, Z7 g14 (Lens.id Z5)), (13, Z7 g15 (Lens.id Z5)), (14, Z7 g24 (Lens.id (Z3 24 Z4)))] [(4, Zc g5 286 (kas (Z7 g2 (Lens.id Z1z))) ()), (0, Zc g2 gT Z1z s.1), (6, Zc g7 229 (Z1 (Z3 24 Z4)) l4), (7, Zc g8 44 (Z3 24 Zd) (Vector.replicate 24 Z0j)), (11, Zc g11 3 (Z0 .i64) x10.2), (12, Zc g13 44 (Z3 24 Zd) s.2.1), (13, Zc g14 4 Z5 s.2.2.1), (14, Zc g15 4 Z5 s.2.2.2), (15, Zc g24 87 (Z3 24 Z4) x23)]) 3001 (s0 := ({ s1 with purse := b9.2 }, (Vector.replicate 24 Z0j), false, true)) (sE := z22) rfl (vt rfl) ⟨rfl, inferInstance, rfl, inferInstance, rfl, inferInstance, rfl, inferInstance, rfl, inferInstance, rfl, inferInstance, rfl, inferInstance, rfl, inferInstance, rfl, inferInstance, trivial⟩ rfl (fun _ => rfl) (by intro p hp; have hp : p ∈ [41] := hp; rw [List.mem_singleton.1 hp]; show 41 < 61; decide) ?ha1 ?hb1 (fun Lf => ⟨top, _, _, Lf, _, _, hz22, rfl, rfl, rfl, rfl⟩) ?he1
    case ha1 =>
     rintro ⟨b18, b19, b20, b21⟩ x23 r hF l w H X
     refine Rg <| Cv rfl (Zp 15 rfl rfl Z2c) fun g24 => Zh Z00 15 rfl <| Nl ?_
     exact ⟨rfl, g24, FX rfl⟩
    case hb1 =>
     rintro ⟨b18, b19, b20, b21⟩ x23 r h S1 ⟨g24, hfit⟩ l w H X
     refine AW.fit (d := []) (L := [(3, Z7 g5 (Lens.id (kas (Z7 g2 (Lens.id Z1z))))), (5, Z7 g7 (Lens.id (Z1 (Z3 24 Z4)))), (6, Z7 g8 (Lens.id (Z3 24 Zd))), (7, rd Z5 false), (8, rd Z5 false), (10, Z7 g11 (Lens.id (Z0 .i64))), (11, Z7 g13 (Lens.id (Z3 24 Zd))), (12, Z7 g14 (Lens.id Z5)), (13, Z7 g15 (Lens.id Z5)), (14, Z7 g24 (Lens.id (Z3 24 Z4)))]) (M := [(4, Zc g5 286 (kas (Z7 g2 (Lens.id Z1z))) ()), (0, Zc g2 gT Z1z b18), (6, Zc g7 229 (Z1 (Z3 24 Z4)) l4), (7, Zc g8 44 (Z3 24 Zd) (Vector.replicate 24 Z0j)), (11, Zc g11 3 (Z0 .i64) x10.2), (12, Zc g13 44 (Z3 24 Zd) b19), (13, Zc g14 4 Z5 b20), (14, Zc g15 4 Z5 b21), (15, Zc g24 87 (Z3 24 Z4) x23)]) hfit <| AW.bodyT ?_
     change Z9u l4 x10 R_cover_look_at b18 b19 b20 b21 x23 = some r at h
     unfold Z9u at h
     refine bk <| sq ?_
     obtain ⟨s25, hs25, b26, hb26, h⟩ := bs2 h
     refine AR Zw (by kernel_rfl) <| Sd (lo [3] [4] rfl fun S hs hr => Ze0 (A := Z7 g2 (Lens.id Z1z)) rfl rfl rfl (Zvl _) (vh hs 3 rfl rfl) (i := 4) ((hr 4 rfl).trans rfl)) <| Zl Z00 15 rfl <| Zl Zor 6 rfl <| Zl Zo 11 rfl <| Sd (lo [46] [] rfl fun S hs hr => Z0o rfl rfl (vh hs 46 rfl rfl) (vk rfl)) <| Sd (lo [45, 47] [] rfl fun S hs hr => Y2g hs25 rfl rfl Z7j (vh hs 45 rfl rfl) (vh hs 47 rfl rfl)) <| Sd (Z1o (us := [(49, Z3f (rd (Z3 24 Zd) b26.1) (rd Z5 b26.2.1) (rd Z5 b26.2.2.1))]) (ur := [(0, Zc g2 gT Z1z b26.2.2.2)]) [43, 44, 48] [0] rfl fun S hs hr => Zrq 0 (xs := [.tmp 43, .tmp 44, .tmp 48]) (hR_cover_look_at _ _ _ _ _ _ hb26) Y3a rfl rfl ⟨vt ((hs 43 rfl).trans rfl), vt ((hs 44 rfl).trans rfl), vt ((hs 48 rfl).trans rfl), trivial⟩ ((hr 0 rfl).trans rfl)) <| Sd (lo [49] [] rfl fun S hs hr => Zu (A := Z3f (rd (Z3 24 Zd) b26.1) (rd Z5 b26.2.1) (rd Z5 b26.2.2.1)) rfl rfl (vh hs 49 rfl rfl)) <| Sd (lo [42] [] rfl fun S hs hr => Zd7 rfl rfl (vh hs 42 rfl rfl)) <| Sd (lo [42] [] rfl fun S hs hr => Zeh rfl rfl (vh hs 42 rfl rfl)) <| Sd (lo [42] [] rfl fun S hs hr => Zcs rfl rfl (vh hs 42 rfl rfl)) <| SSt Z0i 12 rfl <| SSt ty4 13 rfl <| SSt ty4 14 rfl <| Sn <| SR <| Ld ty4 13 rfl <| Md rfl <| Gd rfl (fun hq => Z1x rfl rfl ty4 (vt rfl) (i := 14) rfl) <| Gd rfl (fun hq => Z0x rfl rfl (Zs rfl hq)) <| Ac (Z67 rfl rfl (vt rfl) (vt rfl)) rfl <| Nl <| Cq rfl h (fun h => ?_) (fun h => ?_)
     ·refine xt ?_
      obtain rfl := si h
      exact ⟨_, (b26.2.2.2, b26.1, b26.2.1, b26.2.2.1), Turn.refl, rfl, ⟨rfl, rfl, rfl, rfl, rfl, rfl, rfl, rfl, trivial⟩⟩
     ·refine sk ?_
      obtain rfl := si h
      exact ⟨_, (b26.2.2.2, b26.1, b26.2.1, b26.2.2.1), Turn.refl, rfl, ⟨rfl, rfl, rfl, rfl, rfl, rfl, rfl, rfl, trivial⟩⟩
    case he1 =>
     intro D
     cases z22 with
     | go s27 =>
      change _ = some r at h
      refine sq <| AR Zw (by kernel_rfl) <| Zl Z0i 12 rfl <| Zl ty4 13 rfl <| Zl ty4 14 rfl <| SSt Z0i 7 rfl <| SAs rfl <| SAs rfl <| Sn <| rt ?_
      cases h; exact ⟨rfl, 3001, _, rfl, Zix (i := 0) Tryz.results235 rfl (Z01 rfl (i := 7) rfl Z0i) (Za rfl) (Za rfl) rfl⟩
     | out c s27 =>
      change (bif Zmk 1 c then _ else _) = some r at h
      cases hc : Zmk 1 c with
      | true =>
       rw [hc] at h
       have hc := Yn0 hc
       subst hc
       change _ = some r at h
       refine xt <| sq <| AR Zw (by kernel_rfl) <| Zl Z0i 12 rfl <| Zl ty4 13 rfl <| Zl ty4 14 rfl <| SSt Z0i 7 rfl <| SAs rfl <| SAs rfl <| Sn <| rt ?_
       cases h; exact ⟨rfl, 3001, _, rfl, Zix (i := 0) Tryz.results235 rfl (Z01 rfl (i := 7) rfl Z0i) (Za rfl) (Za rfl) rfl⟩
      | false =>
       rw [hc] at h
       cases h
def Z7s : Nat → (cover_look → Zk → (List Zk) → Option (Z0e × Bool × Bool × cover_look))
 | 0 => (fun _ _ _ => none)
 | n + 1 => (Zlk (Z7s n))
theorem Zww : ∀ n : Nat, (∀ (g2 gT : Nat) (s1 : cover_look) (x3 : Zk) (l4 : (List Zk)) (r : (Z0e × Bool × Bool × cover_look)), (Z7s n) s1 x3 l4 = some r → Con Tryz.prog 235 [Z7 g2 (Lens.id Z1z), rd (Z3 24 Z4) x3, rd (Z1 (Z3 24 Z4)) l4] (Zc g2 gT Z1z s1) (fun _ : Unit => Z3f (rd (Z3 24 Zd) r.1) (rd Z5 r.2.1) (rd Z5 r.2.2.1)) (fun _ => Zc g2 gT Z1z r.2.2.2))
 | 0 => (by intros; rename_i h; cases h)
 | n + 1 => by
  have ih := Zww n
  exact (Yl3 (Z7s n) ih)
def Zq7 (s1 : cover_look) (x3 : Zk) (l4 : (List Zk)) : Option (Z0e × Bool × Bool × cover_look) := (Z7s Z0k) s1 x3 l4
theorem Ymc : ∀ (g2 gT : Nat) (s1 : cover_look) (x3 : Zk) (l4 : (List Zk)) (r : (Z0e × Bool × Bool × cover_look)), Zq7 s1 x3 l4 = some r → Con Tryz.prog 235 [Z7 g2 (Lens.id Z1z), rd (Z3 24 Z4) x3, rd (Z1 (Z3 24 Z4)) l4] (Zc g2 gT Z1z s1) (fun _ : Unit => Z3f (rd (Z3 24 Zd) r.1) (rd Z5 r.2.1) (rd Z5 r.2.2.1)) (fun _ => Zc g2 gT Z1z r.2.2.2) := Zww Z0k
def Zjp (x1 : Zk) (l2 : (List Zk)) (m3 : Int) : Option (Z0e × Bool × Int) :=
 (Zq7 (⟨(⟨(Z1f m3 0), (decide (m3 ≥ 1099511627776))⟩ : cover_purse)⟩ : cover_look) x1 l2).bind fun b7 => (bif (!b7.2.2.1) then some ((Vector.replicate 24 Z0j), false, 5) else some (b7.1, b7.2.1, 0))
theorem Yii : Q3 Tryz.prog 170 (rd (Z3 24 Z4)) (rd (Z1 (Z3 24 Z4))) (rd (Z0 .i64)) (fun r => Z3f (rd (Z3 24 Zd) r.1) (rd Z5 r.2.1) (rd (Z0 .i64) r.2.2)) Zjp := fun x1 l2 m3 r h => I0 Tryz.func170 rfl Tryz.ntmps170 rfl fun w H => by
 unfold Zjp at h
 refine SR <| Cv rfl (Zm 4 rfl rfl (vt rfl)) fun g4 => Cv rfl (Zp 7 rfl rfl Z4k) fun g5 => Ab rfl <| Ak rfl <| Nl <| SR <| Md rfl <| Ac (Zcg rfl rfl (vt rfl) (vk rfl)) rfl <| Md rfl <| Ac (Z3r rfl rfl (vt rfl) (vk rfl)) rfl <| Ac (opb (⟨(Z1f m3 0), (decide (m3 ≥ 1099511627776))⟩ : cover_purse) Yab rfl Ych (pc Ymp (vt rfl) <| pc Y8p (vt rfl) <| pn rfl)) rfl <| Ac (opb (⟨(⟨(Z1f m3 0), (decide (m3 ≥ 1099511627776))⟩ : cover_purse)⟩ : cover_look) Yar rfl Yfg (pc Y7y (vt rfl) <| pn rfl)) rfl <| Cv rfl (Zm 20 rfl rfl (vt rfl)) fun g6 => Ac (Zy (A := Z7 g6 (Lens.id Z1z)) rfl rfl (vt rfl)) rfl <| Nl <| sq ?_
 obtain ⟨b7, hb7, h⟩ := Z8 h
 refine Rg <| Mp rfl <| Ld Z00 4 rfl <| Md rfl <| Cv rfl (Z10 20 (xs := [.tmp 21, .tmp 22, .tmp 23]) (Ymc _ _ _ _ _ _ hb7) Y3a rfl rfl ⟨vt rfl, vt rfl, vt rfl, trivial⟩ rfl) fun _u => Ac (Zu (A := Z3f (rd (Z3 24 Zd) b7.1) (rd Z5 b7.2.1) (rd Z5 b7.2.2.1)) rfl rfl (vt rfl)) rfl <| Ac (Zd7 rfl rfl (vt rfl)) rfl <| Ac (Zeh rfl rfl (vt rfl)) rfl <| Ac (Zcs rfl rfl (vt rfl)) rfl <| Cv rfl (Zp 11 rfl rfl Z4k) fun g8 => Zh Z0i 11 rfl <| As rfl <| As rfl <| Nl <| sq <| SR <| Md rfl <| Ac (Z0x rfl rfl (vt rfl)) rfl <| Nl <| Cq rfl h (fun h => ?_) (fun h => ?_)
 ·refine SR <| Ac (Z20 (ps := []) (x := (Vector.replicate 24 Z0j)) rfl rfl rfl (by kernel_rfl) Z4k rfl) rfl <| Zh Z0i 7 rfl <| Ab rfl <| Ak rfl <| Nl <| rt ?_
  cases h; exact Zfm Tryz.results170 rfl (Z01 rfl (i := 7) rfl Z0i) (Za rfl) (Za rfl)
 ·refine sk <| SR <| Ld Z0i 11 rfl <| Md rfl <| Zh Z0i 7 rfl <| As rfl <| Ak rfl <| Nl <| rt ?_
  cases h; exact Zfm Tryz.results170 rfl (Z01 rfl (i := 7) rfl Z0i) (Za rfl) (Za rfl)
def Zn0 (s : List Rule) : Option (List Rule) := Z1a [] s
theorem Ymy (s : List Rule) (r : List Rule) (h : Zn0 s = some r) : Con Tryz.prog 240 [rd (Z1 Z09) s] emp (fun v => Zn v) (fun v => Zb v 90 Z09 r) := by
 refine Con.intro0 Tryz.func240 rfl Tryz.ntmps240 rfl fun w H => ?_
 unfold Zn0 at h
 refine AW.newnil 1001 90 Z09 <| SR <| Ac (Zy (A := Zn (.slice none 0 0)) rfl rfl vc) rfl <| Nl <| sq <| SR <| Md rfl <| Ct rfl (Zk7 rfl rfl Z4x (vt rfl)) ?_
 rintro _ ⟨b, hb, rfl⟩
 refine Nl <| Cn rfl (fun hc => ?_) (fun hc => ?_)
 ·obtain rfl := hb hc
  refine SR <| Ac (Zy (A := Zn (.slice none 0 0)) rfl rfl vc) rfl <| Nl <| rt ?_
  obtain rfl := (Zbo h).2
  exact Z6k (i := 1001) Tryz.results240 rfl rfl rfl
 ·refine sk <| SR <| Cv rfl (Zhn 1002 (ps := []) (l := []) rfl rfl Z4x Zc6 rfl rfl rfl rfl) fun v1 => Md rfl <| Cv rfl (Z4e 1002 h rfl rfl Zs1 (vt rfl) rfl (vt rfl)) fun v2 => Aw rfl <| Nl <| rt ?_
  exact Z6k (i := 1002) Tryz.results240 rfl rfl rfl
def Zby : Nat → Nat → (List Rule) → Option (List Rule)
 | 0, i6, l5 => some l5
 | m7 + 1, i6, l5 => (lget l5 (i6 : Int)).bind fun x8 => (Zct x8.Atoms).bind fun x9 => (lget l5 (i6 : Int)).bind fun x10 => (Zby m7) (i6 + 1) (List.set l5 (i6 : Int).toNat { x10 with Atoms := x9 })
def Zi1 (l1 : (List Rule)) : Option (List Rule) :=
 (Zn0 l1).bind fun x2 => Zby ((x2.length : Int) : Int).toNat 0 x2
theorem Yi8 : Q1 Tryz.prog 179 (rd (Z1 Z09)) (rd (Z1 Z09)) Zi1 := fun l1 r h => I0 Tryz.func179 rfl Tryz.ntmps179 rfl fun w H => by
 unfold Zi1 at h
 refine SR <| Ac (Zy (A := rd (Z1 Z09) []) rfl rfl Z1h) rfl <| Nl <| sq ?_
 obtain ⟨x2, hx2, h⟩ := Z8 h
 refine Rg <| Md rfl <| Cv rfl (Z10 1001 (xs := [.tmp 5]) (Ymy _ _ hx2) Y9a rfl rfl ⟨vt rfl, trivial⟩ rfl) fun v3 => Aw rfl <| Nl <| sq <| SR <| Mw rfl <| Ac (Z7a 1001 rfl rfl Z4x (vt rfl) rfl) rfl <| Mk rfl <| Nl <| bk <| LG (d := []) (ν := Nat × Nat × (List Rule)) (fun (m7, i6, l5) => (Cnt (x2.length : Int) i6 m7 ∧ Zby m7 i6 l5 = some r, m7, [(3, Zn v3), (8, rd (Z0 .i64) (x2.length : Int)), (9, rd (Z0 .i64) (i6 : Int))], [(1001, Zb v3 90 Z09 l5)])) (((x2.length : Int) : Int).toNat, 0, x2) ⟨Cnt.start _, h⟩ (FX rfl) ?_
 rintro ⟨m7, i6, l5⟩ ⟨hsf1, h⟩
 dsimp only at hsf1 h ⊢
 cases m7 with
 | zero =>
  unfold Zby at h
  refine SR <| Ac (Zi rfl rfl (vt rfl) (vt rfl)) rfl <| Nl <| sq <| Cn rfl (fun hc => absurd (of_decide_eq_true hc) hsf1.zero) (fun hc => ?_)
  refine xt <| SR <| Mw rfl <| Aw rfl <| Nl <| AW.freezes [2, 3, 23] 1001 rfl ⟨rfl, rfl, rfl, trivial⟩ rfl <| rt ?_
  cases h; exact Zg Tryz.results179 rfl (Za rfl)
 | succ m7 =>
  unfold Zby at h
  refine SR <| Ac (Zi rfl rfl (vt rfl) (vt rfl)) rfl <| Nl <| sq <| Cn rfl (fun hc => ?_) (fun hc => absurd hsf1.succ (of_decide_eq_false hc))
  have hlti6 := of_decide_eq_true hc
  refine sk <| sq <| bk <| SR <| Md rfl <| As rfl <| Nl ?_
  obtain ⟨x8, hx8, x9, hx9, x10, hx10, h⟩ := bs3 h
  refine Rg <| Mw rfl <| Md rfl <| Mw rfl <| Md rfl <| Ac (Z2j 1001 rfl rfl Z4x (vt rfl) rfl (vt rfl) hx8) rfl <| Ac (Zez lRule_1 rfl rfl Zry (vt rfl)) rfl <| Ac (Z1t 1001 rfl rfl Zc5 (vt rfl) rfl (Z0m hx8).2) rfl <| Cl [18] (Y2e _ _ hx9) Y48 rfl <| Ac (Z2j 1001 rfl rfl Z4x (vt rfl) rfl (vt rfl) hx10) rfl <| Ac (Zez lRule_1 rfl rfl Zry (vt rfl)) rfl <| Ac (Z3w 1001 rfl rfl Zc5 (vt rfl) rfl (Z0m hx10).2 (vt rfl)) rfl <| Nl <| Rg <| Ac (Z0s (t := 8) rfl rfl (vt rfl) (vk rfl) (vt rfl) hlti6) rfl <| Md rfl <| Nl ?_
  exact ⟨(_, _, _), Nat.lt_succ_self _, ⟨hsf1.next, h⟩, FX rfl⟩
def Za2 (m2 : Int) : (List Rule) → Nat → (List Rule) → (List Zk) → Option ((List Rule) × Int)
 | [], i11, l7, l9 => (Zi1 l7).bind fun x13 => some (x13, 0)
 | x14 :: l12, i11, l7, l9 => (Zjp x14.Cube l9 m2).bind fun x16 => (bif (decide (x16.2.2 ≠ 0)) then some ([], x16.2.2) else (bif (!x16.2.1) then (Za2 m2 l12) (i11 + 1) l7 l9 else (Z1a l7 [x14]).bind fun l18 => (Z1a l9 [x14.Cube]).bind fun l20 => (Za2 m2 l12) (i11 + 1) l18 l20))
def Zng (l1 : (List Rule)) (m2 : Int) : Option ((List Rule) × Int) :=
 Za2 m2 l1 0 [] []
theorem Y7d : Q2 Tryz.prog 111 (rd (Z1 Z09)) (rd (Z0 .i64)) (fun r => Z1d (rd (Z1 Z09) r.1) (rd (Z0 .i64) r.2)) Zng := fun l1 m2 r h => I0 Tryz.func111 rfl Tryz.ntmps111 rfl fun w H => by
 unfold Zng at h
 refine SR <| Ac (Zy (A := rd (Z1 Z09) []) rfl rfl Z1h) rfl <| Ak rfl <| Nl <| AW.scope <| sq <| AW.newnil 1001 90 Z09 <| Rg <| Ac (Zy rfl rfl vc) rfl <| Nl <| sq <| AW.newnil 1002 87 (Z3 24 Z4) <| Rg <| Ac (Zy rfl rfl vc) rfl <| Nl <| sq <| AW.label <| sq <| SR <| Md rfl <| Ac (Z0t rfl rfl Z4x (vt rfl)) rfl <| Mk rfl <| Nl <| bk <| LG (d := []) (ν := (List Rule) × Nat × (List Rule) × (List Zk) × Value × Value) (fun (l12, i11, l7, l9, v8, v10) => (Sfx l1 i11 l12 ∧ Za2 m2 l12 i11 l7 l9 = some r, l12.length, [(1, rd (Z0 .i64) m2), (6, Zn v8), (7, Zn v10), (13, rd (Z1 Z09) l1), (14, rd (Z0 .i64) (l1.length : Int)), (15, rd (Z0 .i64) (i11 : Int))], [(1001, Zb v8 90 Z09 l7), (1002, Zb v10 87 (Z3 24 Z4) l9)])) (l1, 0, [], [], (.slice none 0 0), (.slice none 0 0)) ⟨Sfx.start _, h⟩ (FX rfl) ?_
 rintro ⟨l12, i11, l7, l9, v8, v10⟩ ⟨hsf1, h⟩
 dsimp only at hsf1 h ⊢
 cases l12 with
 | nil =>
  unfold Za2 at h
  refine SR <| Ac (Zi rfl rfl (vt rfl) (vt rfl)) rfl <| Nl <| sq <| Cn rfl (fun hc => absurd (of_decide_eq_true hc) hsf1.nil) (fun hc => ?_)
  refine xt <| sq <| AW.freezes [6] 1001 rfl ⟨rfl, trivial⟩ rfl ?_
  obtain ⟨x13, hx13, h⟩ := Z8 h
  refine Rg <| Md rfl <| Cl [45] (Yi8 _ _ hx13) Yc7 rfl <| As rfl <| Ak rfl <| Nl <| rt ?_
  cases h; exact Z1k Tryz.results111 rfl (Za rfl) (Za rfl)
 | cons x14 l12 =>
  unfold Za2 at h
  refine SR <| Ac (Zi rfl rfl (vt rfl) (vt rfl)) rfl <| Nl <| sq <| Cn rfl (fun hc => ?_) (fun hc => absurd hsf1.cons (of_decide_eq_false hc))
  have hlti11 := of_decide_eq_true hc
  refine sk <| sq <| bk <| SR <| Ac (Z0w rfl rfl Z4x (vt rfl) (vt rfl) hsf1.lget) rfl <| Lp1 Z9o rfl <| Cv rfl (Zp 10 rfl rfl Zc6) fun g15 => Zh Z9o 10 rfl <| Nl <| sq ?_
  obtain ⟨x16, hx16, h⟩ := Z8 h
  refine Rg <| Zf lRule_0 Zpl rfl <| Ld Z00 10 rfl <| Mw rfl <| Md rfl <| Ac (Zrs (xs := [.tmp 21, .tmp 22, .tmp 23]) 1002 (Yii _ _ _ _ hx16) Yf2 rfl rfl ⟨vB (vt rfl), vL rfl rfl, vB (vt rfl), trivial⟩) rfl <| Ac (Zu (A := Z3f (rd (Z3 24 Zd) x16.1) (rd Z5 x16.2.1) (rd (Z0 .i64) x16.2.2)) rfl rfl (vt rfl)) rfl <| Ac (Zd7 rfl rfl (vt rfl)) rfl <| Ac (Zeh rfl rfl (vt rfl)) rfl <| Ac (Zcs rfl rfl (vt rfl)) rfl <| Cv rfl (Zp 11 rfl rfl Z4k) fun g17 => Zh Z0i 11 rfl <| As rfl <| As rfl <| Nl <| sq <| bk <| SR <| Md rfl <| Ac (Z6y rfl rfl (vt rfl) (vk rfl)) rfl <| As rfl <| Nl <| Cq rfl h (fun h => ?_) (fun h => ?_)
  ·refine SR <| Md rfl <| Ac (Zy (A := rd (Z1 Z09) []) rfl rfl Z1h) rfl <| As rfl <| Nl <| rt ?_
   cases h; exact Z1k Tryz.results111 rfl (Za rfl) (Za rfl)
  ·refine SR <| Md rfl <| Ac (Z0x rfl rfl (vt rfl)) rfl <| As rfl <| Nl <| Cq rfl h (fun h => ?_) (fun h => ?_)
   ·refine xt <| Rg <| Ac (Z0s (t := 14) rfl rfl (vt rfl) (vk rfl) (vt rfl) hlti11) rfl <| Md rfl <| Nl ?_
    exact ⟨(_, _, _, _, _, _), Nat.lt_succ_self _, ⟨hsf1.next, h⟩, FX rfl⟩
   ·refine sk ?_
    obtain ⟨l18, hl18, l20, hl20, h⟩ := bs2 h
    refine AR Zw (by kernel_rfl) <| SMw rfl <| Zl Z9o 10 rfl <| Sd (lo [36] [] rfl fun S hs hr => osl Z4x Zc6 rfl (vh hs 36 rfl rfl)) <| Sd (Z1o (us := [(38, Z2n 90 Z09 l18)]) (ur := [(1001, emp)]) [35, 37] [1001] rfl fun S hs hr => Z8p 1001 hl18 rfl rfl rfl Zs1 (vh hs 35 rfl rfl) ((hr 1001 rfl).trans rfl) (vh hs 37 rfl rfl)) <| SMw rfl <| Zv lRule_0 Zpl rfl <| Zl Z00 10 rfl <| Sd (lo [41] [] rfl fun S hs hr => osl Z7j Z2c rfl (vh hs 41 rfl rfl)) <| Sd (Z1o (us := [(43, Z2n 87 (Z3 24 Z4) l20)]) (ur := [(1002, emp)]) [39, 42] [1002] rfl fun S hs hr => Z8p 1002 hl20 rfl rfl rfl Zyp (vh hs 39 rfl rfl) ((hr 1002 rfl).trans rfl) (vh hs 42 rfl rfl)) <| Sd (Z1o (us := [(38, top), (6, Z2n 90 Z09 l18)]) (ur := []) [38] [1003] rfl fun S hs hr => Y0f 1003 rfl rfl rfl rfl ((hs 38 rfl).trans rfl) ((hr 1003 rfl).trans rfl)) <| Sd (Z1o (us := [(43, top), (7, Z2n 87 (Z3 24 Z4) l20)]) (ur := []) [43] [1004] rfl fun S hs hr => Y0f 1004 rfl rfl rfl rfl ((hs 43 rfl).trans rfl) ((hr 1004 rfl).trans rfl)) <| Sn <| AW.unpackR 6 1001 rfl rfl fun v19 => AW.unpackR 7 1002 rfl rfl fun v21 => Rg <| Ac (Z0s (t := 14) rfl rfl (vt rfl) (vk rfl) (vt rfl) hlti11) rfl <| Md rfl <| Nl ?_
    exact ⟨(_, _, _, _, _, _), Nat.lt_succ_self _, ⟨hsf1.next, h⟩, FX rfl⟩
def Zl1 (x1 : Group) (x2 : Int) : Option Bool :=
 some (decide (x1.ID = x2))
theorem Yew : Q2 Tryz.prog 288 (rd Zz) (rp (Z0 .i64)) (rd Z5) Zl1 := fun x1 x2 r h => I0 Tryz.func288 rfl Tryz.ntmps288 rfl fun w H => by
 unfold Zl1 at h
 refine SR <| Cv rfl (Zm 3 rfl rfl (vt rfl)) fun g3 => Ab rfl <| Nl <| SR <| Zf Znk Zs5 rfl <| Ld Zo 3 rfl <| Lp1 Zo rfl <| Ac (Z21 rfl rfl (vt rfl) (vt rfl)) rfl <| As rfl <| Nl <| rt ?_
 cases h; exact Zg Tryz.results288 rfl (Za rfl)
def Zcp (s1 : (List Group)) (x2 : (Group → Option Bool)) : Nat → Nat → Option Int
 | 0, i3 => some (-1)
 | m4 + 1, i3 => (lget s1 (i3 : Int)).bind fun x5 => (x2 x5).bind fun x6 => (bif x6 then some (i3 : Int) else (Zcp s1 x2 m4) (i3 + 1))
def Zdu (s1 : (List Group)) (x2 : (Group → Option Bool)) : Option Int :=
 Zcp s1 x2 ((s1.length : Int) : Int).toNat 0
theorem Zqx : Q2 Tryz.prog 162 (rd (Z1 Zz)) (fn1 Tryz.prog Zz Z5) (rd (Z0 .i64)) Zdu := fun s1 x2 r h => I0 Tryz.func162 rfl Tryz.ntmps162 rfl fun w H => by
 unfold Zdu at h
 refine SR <| Ak rfl <| Nl <| sq <| SR <| Md rfl <| Ac (Z0t rfl rfl Z5s (vt rfl)) rfl <| Mk rfl <| Nl <| bk <| LG (d := []) (ν := Nat × Nat) (fun (m4, i3) => (Cnt (s1.length : Int) i3 m4 ∧ Zcp s1 x2 m4 i3 = some r, m4, [(0, rd (Z1 Zz) s1), (1, fn1 Tryz.prog Zz Z5 x2), (7, rd (Z0 .i64) (s1.length : Int)), (8, rd (Z0 .i64) (i3 : Int))], [])) (((s1.length : Int) : Int).toNat, 0) ⟨Cnt.start _, h⟩ (FX rfl) ?_
 rintro ⟨m4, i3⟩ ⟨hsf1, h⟩
 dsimp only at hsf1 h ⊢
 cases m4 with
 | zero =>
  unfold Zcp at h
  refine SR <| Ac (Zi rfl rfl (vt rfl) (vt rfl)) rfl <| Nl <| sq <| Cn rfl (fun hc => absurd (of_decide_eq_true hc) hsf1.zero) (fun hc => ?_)
  refine xt <| SR <| Ak rfl <| Nl <| rt ?_
  cases h; exact Zg Tryz.results162 rfl (Za rfl)
 | succ m4 =>
  unfold Zcp at h
  refine SR <| Ac (Zi rfl rfl (vt rfl) (vt rfl)) rfl <| Nl <| sq <| Cn rfl (fun hc => ?_) (fun hc => absurd hsf1.succ (of_decide_eq_false hc))
  have hlti3 := of_decide_eq_true hc
  refine sk <| sq <| bk <| SR <| Md rfl <| As rfl <| Nl <| sq ?_
  obtain ⟨x5, hx5, x6, hx6, h⟩ := bs2 h
  refine Rg <| Ac (Zu (A := fn1 Tryz.prog Zz Z5 x2) rfl rfl (vt rfl)) rfl <| Md rfl <| Md rfl <| Ac (Z0w rfl rfl Z5s (vt rfl) (vt rfl) hx5) rfl <| Lp1 Z5e rfl <| Ac (Z8b hx6 rfl rfl (vt rfl) (vt rfl)) rfl <| Nl <| Cq rfl h (fun h => ?_) (fun h => ?_)
  ·refine SR <| Md rfl <| As rfl <| Nl <| rt ?_
   cases h; exact Zg Tryz.results162 rfl (Za rfl)
  ·refine sk <| Rg <| Ac (Z0s (t := 7) rfl rfl (vt rfl) (vk rfl) (vt rfl) hlti3) rfl <| Md rfl <| Nl ?_
   exact ⟨(_, _), Nat.lt_succ_self _, ⟨hsf1.next, h⟩, FX rfl⟩
def Zny (l1 : (List Group)) (i2 : Int) : Option Int :=
 (Zdu l1 (fun x => Zl1 x i2)).bind fun x4 => some x4
theorem Ya6 : Q2 Tryz.prog 241 (rd (Z1 Zz)) (rd (Z0 .i64)) (rd (Z0 .i64)) Zny := fun l1 i2 r h => I0 Tryz.func241 rfl Tryz.ntmps241 rfl fun w H => by
 unfold Zny at h
 refine SR <| Cv rfl (Zm 4 rfl rfl (vt rfl)) fun g3 => Ak rfl <| Nl <| sq <| AW.freezeB 3 4 rfl rfl rfl ?_
 obtain ⟨x4, hx4, h⟩ := Z8 h
 refine Rg <| Md rfl <| Ac (Z7v (cs := [.tmp 3]) (CAs := [rp (Z0 .i64) i2]) (fun x => Zl1 x i2) rfl rfl Yll ⟨vt rfl, trivial⟩ (fun x y h => Yew _ _ y h)) rfl <| Cl [5, 6] (Zqx _ _ _ hx4) Zpw rfl <| As rfl <| Nl <| rt ?_
 cases h; exact Zg Tryz.results241 rfl (Za rfl)
def Zps (s : List Group) : Option (List Group) := Z1a [] s
theorem Yj7 (s : List Group) (r : List Group) (h : Zps s = some r) : Con Tryz.prog 289 [rd (Z1 Zz) s] emp (fun v => Zn v) (fun v => Zb v 164 Zz r) := by
 refine Con.intro0 Tryz.func289 rfl Tryz.ntmps289 rfl fun w H => ?_
 unfold Zps at h
 refine AW.newnil 1001 164 Zz <| SR <| Ac (Zy (A := Zn (.slice none 0 0)) rfl rfl vc) rfl <| Nl <| sq <| SR <| Md rfl <| Ct rfl (Zk7 rfl rfl Z5s (vt rfl)) ?_
 rintro _ ⟨b, hb, rfl⟩
 refine Nl <| Cn rfl (fun hc => ?_) (fun hc => ?_)
 ·obtain rfl := hb hc
  refine SR <| Ac (Zy (A := Zn (.slice none 0 0)) rfl rfl vc) rfl <| Nl <| rt ?_
  obtain rfl := (Zbo h).2
  exact Z6k (i := 1001) Tryz.results289 rfl rfl rfl
 ·refine sk <| SR <| Cv rfl (Zhn 1002 (ps := []) (l := []) rfl rfl Z5s Zc1 rfl rfl rfl rfl) fun v1 => Md rfl <| Cv rfl (Z4e 1002 h rfl rfl Zyl (vt rfl) rfl (vt rfl)) fun v2 => Aw rfl <| Nl <| rt ?_
  exact Z6k (i := 1002) Tryz.results289 rfl rfl rfl
end Go.Proofs.YtknpgojdkobgjaaGreat.W
set_option maxRecDepth 4000
namespace Go.Proofs.YtknpgojdkobgjaaGreat.W
open Go Go.Wb
theorem Yln : Ent Tryz.prog 328 := Ent.mk Tryz.func328 rfl rfl
theorem Y8i : Ent Tryz.prog 289 := Ent.mk Tryz.func289 rfl rfl
theorem Yh2 : Ent Tryz.prog 290 := Ent.mk Tryz.func290 rfl rfl
theorem Ymz : Ent Tryz.prog 241 := Ent.mk Tryz.func241 rfl rfl
theorem Ydu : Ent Tryz.prog 242 := Ent.mk Tryz.func242 rfl rfl
theorem Zqr : Ent Tryz.prog 180 := Ent.mk Tryz.func180 rfl rfl
theorem e25 : Ent Tryz.prog 25 := Ent.mk Tryz.func25 rfl rfl
theorem Yl8 : Ent Tryz.prog 111 := Ent.mk Tryz.func111 rfl rfl
theorem Yik : Ent Tryz.prog 112 := Ent.mk Tryz.func112 rfl rfl
theorem Zzo : Ent Tryz.prog 296 := Ent.mk Tryz.func296 rfl rfl
theorem Ykn : Ent Tryz.prog 297 := Ent.mk Tryz.func297 rfl rfl
def Znh (s : List Bucket) : Option (List Bucket) := Z1a [] s
theorem Ydg (s : List Bucket) (r : List Bucket) (h : Znh s = some r) : Con Tryz.prog 328 [rd (Z1 Z1y) s] emp (fun v => Zn v) (fun v => Zb v 226 Z1y r) := by
 refine Con.intro0 Tryz.func328 rfl Tryz.ntmps328 rfl fun w H => ?_
 unfold Znh at h
 refine AW.newnil 1001 226 Z1y <| SR <| Ac (Zy (A := Zn (.slice none 0 0)) rfl rfl vc) rfl <| Nl <| sq <| SR <| Md rfl <| Ct rfl (Zk7 rfl rfl Z5g (vt rfl)) ?_
 rintro _ ⟨b, hb, rfl⟩
 refine Nl <| Cn rfl (fun hc => ?_) (fun hc => ?_)
 ·obtain rfl := hb hc
  refine SR <| Ac (Zy (A := Zn (.slice none 0 0)) rfl rfl vc) rfl <| Nl <| rt ?_
  obtain rfl := (Zbo h).2
  exact Z6k (i := 1001) Tryz.results328 rfl rfl rfl
 ·refine sk <| SR <| Cv rfl (Zhn 1002 (ps := []) (l := []) rfl rfl Z5g Y27 rfl rfl rfl rfl) fun v1 => Md rfl <| Cv rfl (Z4e 1002 h rfl rfl Ynm (vt rfl) rfl (vt rfl)) fun v2 => Aw rfl <| Nl <| rt ?_
  exact Z6k (i := 1002) Tryz.results328 rfl rfl rfl
def Zb0 : Nat → Nat → (List Bucket) → Option (List Bucket)
 | 0, i6, l5 => some l5
 | m7 + 1, i6, l5 => (lget l5 (i6 : Int)).bind fun x8 => (Z71 x8.Acts).bind fun x9 => (lget l5 (i6 : Int)).bind fun x10 => (Zb0 m7) (i6 + 1) (List.set l5 (i6 : Int).toNat { x10 with Acts := x9 })
def Zi6 (l1 : (List Bucket)) : Option (List Bucket) :=
 (Znh l1).bind fun x2 => Zb0 ((x2.length : Int) : Int).toNat 0 x2
theorem Yjg : Q1 Tryz.prog 290 (rd (Z1 Z1y)) (rd (Z1 Z1y)) Zi6 := fun l1 r h => I0 Tryz.func290 rfl Tryz.ntmps290 rfl fun w H => by
 unfold Zi6 at h
 refine SR <| Ac (Zy (A := rd (Z1 Z1y) []) rfl rfl Z1h) rfl <| Nl <| sq ?_
 obtain ⟨x2, hx2, h⟩ := Z8 h
 refine Rg <| Md rfl <| Cv rfl (Z10 1001 (xs := [.tmp 5]) (Ydg _ _ hx2) Yln rfl rfl ⟨vt rfl, trivial⟩ rfl) fun v3 => Aw rfl <| Nl <| sq <| SR <| Mw rfl <| Ac (Z7a 1001 rfl rfl Z5g (vt rfl) rfl) rfl <| Mk rfl <| Nl <| bk <| LG (d := []) (ν := Nat × Nat × (List Bucket)) (fun (m7, i6, l5) => (Cnt (x2.length : Int) i6 m7 ∧ Zb0 m7 i6 l5 = some r, m7, [(3, Zn v3), (8, rd (Z0 .i64) (x2.length : Int)), (9, rd (Z0 .i64) (i6 : Int))], [(1001, Zb v3 226 Z1y l5)])) (((x2.length : Int) : Int).toNat, 0, x2) ⟨Cnt.start _, h⟩ (FX rfl) ?_
 rintro ⟨m7, i6, l5⟩ ⟨hsf1, h⟩
 dsimp only at hsf1 h ⊢
 cases m7 with
 | zero =>
  unfold Zb0 at h
  refine SR <| Ac (Zi rfl rfl (vt rfl) (vt rfl)) rfl <| Nl <| sq <| Cn rfl (fun hc => absurd (of_decide_eq_true hc) hsf1.zero) (fun hc => ?_)
  refine xt <| SR <| Mw rfl <| Aw rfl <| Nl <| AW.freezes [2, 3, 23] 1001 rfl ⟨rfl, rfl, rfl, trivial⟩ rfl <| rt ?_
  cases h; exact Zg Tryz.results290 rfl (Za rfl)
 | succ m7 =>
  unfold Zb0 at h
  refine SR <| Ac (Zi rfl rfl (vt rfl) (vt rfl)) rfl <| Nl <| sq <| Cn rfl (fun hc => ?_) (fun hc => absurd hsf1.succ (of_decide_eq_false hc))
  have hlti6 := of_decide_eq_true hc
  refine sk <| sq <| bk <| SR <| Md rfl <| As rfl <| Nl ?_
  obtain ⟨x8, hx8, x9, hx9, x10, hx10, h⟩ := bs3 h
  refine Rg <| Mw rfl <| Md rfl <| Mw rfl <| Md rfl <| Ac (Z2j 1001 rfl rfl Z5g (vt rfl) rfl (vt rfl) hx8) rfl <| Ac (Zez Zcm rfl rfl Zge (vt rfl)) rfl <| Ac (Z1t 1001 rfl rfl Z3o (vt rfl) rfl (Z0m hx8).2) rfl <| Cl [18] (Zxu _ _ hx9) Zlt rfl <| Ac (Z2j 1001 rfl rfl Z5g (vt rfl) rfl (vt rfl) hx10) rfl <| Ac (Zez Zcm rfl rfl Zge (vt rfl)) rfl <| Ac (Z3w 1001 rfl rfl Z3o (vt rfl) rfl (Z0m hx10).2 (vt rfl)) rfl <| Nl <| Rg <| Ac (Z0s (t := 8) rfl rfl (vt rfl) (vk rfl) (vt rfl) hlti6) rfl <| Md rfl <| Nl ?_
  exact ⟨(_, _, _), Nat.lt_succ_self _, ⟨hsf1.next, h⟩, FX rfl⟩
def Ze6 : Nat → Nat → (List Group) → Option (List Group)
 | 0, i6, l5 => some l5
 | m7 + 1, i6, l5 => (lget l5 (i6 : Int)).bind fun x8 => (Zi6 x8.Buckets).bind fun x9 => (lget l5 (i6 : Int)).bind fun x10 => (Ze6 m7) (i6 + 1) (List.set l5 (i6 : Int).toNat { x10 with Buckets := x9 })
def Zjy (l1 : (List Group)) : Option (List Group) :=
 (Zps l1).bind fun x2 => Ze6 ((x2.length : Int) : Int).toNat 0 x2
theorem Y9t : Q1 Tryz.prog 242 (rd (Z1 Zz)) (rd (Z1 Zz)) Zjy := fun l1 r h => I0 Tryz.func242 rfl Tryz.ntmps242 rfl fun w H => by
 unfold Zjy at h
 refine SR <| Ac (Zy (A := rd (Z1 Zz) []) rfl rfl Z1h) rfl <| Nl <| sq ?_
 obtain ⟨x2, hx2, h⟩ := Z8 h
 refine Rg <| Md rfl <| Cv rfl (Z10 1001 (xs := [.tmp 5]) (Yj7 _ _ hx2) Y8i rfl rfl ⟨vt rfl, trivial⟩ rfl) fun v3 => Aw rfl <| Nl <| sq <| SR <| Mw rfl <| Ac (Z7a 1001 rfl rfl Z5s (vt rfl) rfl) rfl <| Mk rfl <| Nl <| bk <| LG (d := []) (ν := Nat × Nat × (List Group)) (fun (m7, i6, l5) => (Cnt (x2.length : Int) i6 m7 ∧ Ze6 m7 i6 l5 = some r, m7, [(3, Zn v3), (8, rd (Z0 .i64) (x2.length : Int)), (9, rd (Z0 .i64) (i6 : Int))], [(1001, Zb v3 164 Zz l5)])) (((x2.length : Int) : Int).toNat, 0, x2) ⟨Cnt.start _, h⟩ (FX rfl) ?_
 rintro ⟨m7, i6, l5⟩ ⟨hsf1, h⟩
 dsimp only at hsf1 h ⊢
 cases m7 with
 | zero =>
  unfold Ze6 at h
  refine SR <| Ac (Zi rfl rfl (vt rfl) (vt rfl)) rfl <| Nl <| sq <| Cn rfl (fun hc => absurd (of_decide_eq_true hc) hsf1.zero) (fun hc => ?_)
  refine xt <| SR <| Mw rfl <| Aw rfl <| Nl <| AW.freezes [2, 3, 23] 1001 rfl ⟨rfl, rfl, rfl, trivial⟩ rfl <| rt ?_
  cases h; exact Zg Tryz.results242 rfl (Za rfl)
 | succ m7 =>
  unfold Ze6 at h
  refine SR <| Ac (Zi rfl rfl (vt rfl) (vt rfl)) rfl <| Nl <| sq <| Cn rfl (fun hc => ?_) (fun hc => absurd hsf1.succ (of_decide_eq_false hc))
  have hlti6 := of_decide_eq_true hc
  refine sk <| sq <| bk <| SR <| Md rfl <| As rfl <| Nl ?_
  obtain ⟨x8, hx8, x9, hx9, x10, hx10, h⟩ := bs3 h
  refine Rg <| Mw rfl <| Md rfl <| Mw rfl <| Md rfl <| Ac (Z2j 1001 rfl rfl Z5s (vt rfl) rfl (vt rfl) hx8) rfl <| Ac (Zez Z7p rfl rfl Z8g (vt rfl)) rfl <| Ac (Z1t 1001 rfl rfl Z90 (vt rfl) rfl (Z0m hx8).2) rfl <| Cl [18] (Yjg _ _ hx9) Yh2 rfl <| Ac (Z2j 1001 rfl rfl Z5s (vt rfl) rfl (vt rfl) hx10) rfl <| Ac (Zez Z7p rfl rfl Z8g (vt rfl)) rfl <| Ac (Z3w 1001 rfl rfl Z90 (vt rfl) rfl (Z0m hx10).2 (vt rfl)) rfl <| Nl <| Rg <| Ac (Z0s (t := 8) rfl rfl (vt rfl) (vk rfl) (vt rfl) hlti6) rfl <| Md rfl <| Nl ?_
  exact ⟨(_, _, _), Nat.lt_succ_self _, ⟨hsf1.next, h⟩, FX rfl⟩
def Zeg (l1 : (List Group)) (i2 : Int) : Option (Group × Bool) :=
 (Zny l1 i2).bind fun x4 => (bif (decide (x4 < 0)) then some ((⟨0, 0, []⟩ : Group), false) else (Zgs l1 x4 (IntKind.i64.wrap (x4 + 1))).bind fun s5 => (Zjy s5).bind fun x6 => (lget x6 0).bind fun x7 => some (x7, true))
theorem Ztq : Q2 Tryz.prog 180 (rd (Z1 Zz)) (rd (Z0 .i64)) (fun r => Z1d (rd Zz r.1) (rd Z5 r.2)) Zeg := fun l1 i2 r h => I0 Tryz.func180 rfl Tryz.ntmps180 rfl fun w H => by
 unfold Zeg at h
 refine SR <| Cv rfl (Zp 5 rfl rfl Zc1) fun g3 => Ab rfl <| Nl <| sq ?_
 obtain ⟨x4, hx4, h⟩ := Z8 h
 refine Rg <| Md rfl <| Md rfl <| Cl [7, 8] (Ya6 _ _ _ hx4) Ymz rfl <| As rfl <| Nl <| sq <| SR <| Md rfl <| Ac (Zi rfl rfl (vt rfl) (vk rfl)) rfl <| Nl <| Cq rfl h (fun h => ?_) (fun h => ?_)
 ·refine SR <| Ac (opb (⟨0, 0, []⟩ : Group) Zc1 rfl Yc1 (pn rfl)) rfl <| Zh Z5e 5 rfl <| Ab rfl <| Nl <| rt ?_
  cases h; exact Z1k Tryz.results180 rfl (Z01 rfl (i := 5) rfl Z5e) (Za rfl)
 ·refine sk <| sq ?_
  obtain ⟨s5, hs5, x6, hx6, x7, hx7, h⟩ := bs3 h
  refine Rg <| Md rfl <| Md rfl <| Md rfl <| Ac (Z0o rfl rfl (vt rfl) (vk rfl)) rfl <| Ac (Ybq hs5 rfl rfl Z5s (vt rfl) (vt rfl) (vt rfl)) rfl <| Cl [17] (Y9t _ _ hx6) Ydu rfl <| Ac (Z0w rfl rfl Z5s (vt rfl) (vk rfl) hx7) rfl <| Lp1 Z5e rfl <| Zh Z5e 5 rfl <| Ab rfl <| Nl <| rt ?_
  cases h; exact Z1k Tryz.results180 rfl (Z01 rfl (i := 5) rfl Z5e) (Za rfl)
def Zb2 (l1 : (List Group)) : (List Group) → Nat → (List Group) → Option (List Group)
 | [], i6, l4 => some l4
 | x8 :: l7, i6, l4 => (Z7k l1 (i6 : Int)).bind fun s10 => (Zeg s10 x8.ID).bind fun x11 => (Z1a l4 [x11.1]).bind fun l13 => (Zb2 l1 l7) (i6 + 1) l13
def Zl6 (l1 : (List Group)) : Option (List Group) :=
 Zb2 l1 l1 0 []
theorem Yia : Q1 Tryz.prog 112 (rd (Z1 Zz)) (rd (Z1 Zz)) Zl6 := fun l1 r h => I0 Tryz.func112 rfl Tryz.ntmps112 rfl fun w H => by
 unfold Zl6 at h
 refine SR <| Ac (Zy (A := rd (Z1 Zz) []) rfl rfl Z1h) rfl <| Nl <| sq <| AW.newnil 1001 164 Zz <| Rg <| Ac (Zy rfl rfl vc) rfl <| Nl <| sq <| SR <| Md rfl <| Ac (Z0t rfl rfl Z5s (vt rfl)) rfl <| Mk rfl <| Nl <| bk <| LG (d := []) (ν := (List Group) × Nat × (List Group) × Value) (fun (l7, i6, l4, v5) => (Sfx l1 i6 l7 ∧ Zb2 l1 l7 i6 l4 = some r, l7.length, [(0, rd (Z1 Zz) l1), (3, Zn v5), (8, rd (Z1 Zz) l1), (9, rd (Z0 .i64) (l1.length : Int)), (10, rd (Z0 .i64) (i6 : Int))], [(1001, Zb v5 164 Zz l4)])) (l1, 0, [], (.slice none 0 0)) ⟨Sfx.start _, h⟩ (FX rfl) ?_
 rintro ⟨l7, i6, l4, v5⟩ ⟨hsf1, h⟩
 dsimp only at hsf1 h ⊢
 cases l7 with
 | nil =>
  unfold Zb2 at h
  refine SR <| Ac (Zi rfl rfl (vt rfl) (vt rfl)) rfl <| Nl <| sq <| Cn rfl (fun hc => absurd (of_decide_eq_true hc) hsf1.nil) (fun hc => ?_)
  refine xt <| SR <| Mw rfl <| Aw rfl <| Nl <| AW.freezes [2, 3, 29] 1001 rfl ⟨rfl, rfl, rfl, trivial⟩ rfl <| rt ?_
  cases h; exact Zg Tryz.results112 rfl (Za rfl)
 | cons x8 l7 =>
  unfold Zb2 at h
  refine SR <| Ac (Zi rfl rfl (vt rfl) (vt rfl)) rfl <| Nl <| sq <| Cn rfl (fun hc => ?_) (fun hc => absurd hsf1.cons (of_decide_eq_false hc))
  have hlti6 := of_decide_eq_true hc
  refine sk <| sq <| bk <| SR <| Md rfl <| Ac (Z0w rfl rfl Z5s (vt rfl) (vt rfl) hsf1.lget) rfl <| Lp1 Z5e rfl <| Cv rfl (Zp 6 rfl rfl Zc1) fun g9 => As rfl <| Zh Z5e 6 rfl <| Nl <| sq ?_
  obtain ⟨s10, hs10, x11, hx11, h⟩ := bs2 h
  refine AR Zw (by kernel_rfl) <| SMd rfl <| SMd rfl <| Sd (lo [16, 17] [] rfl fun S hs hr => Y2g hs10 rfl rfl Z5s (vh hs 16 rfl rfl) (vh hs 17 rfl rfl)) <| Zv Znk Zs5 rfl <| Zl Zo 6 rfl <| SCl [18, 20] (Ztq _ _ _ hx11) Zqr rfl <| Sd (lo [21] [] rfl fun S hs hr => Zu (A := Z1d (rd Zz x11.1) (rd Z5 x11.2)) rfl rfl (vh hs 21 rfl rfl)) <| Sd (lo [15] [] rfl fun S hs hr => Z1m rfl rfl (vh hs 15 rfl rfl)) <| Sd (lo [15] [] rfl fun S hs hr => Z1l rfl rfl (vh hs 15 rfl rfl)) <| Sd (Z1o (us := [(6, Z43 164 Zz Zow)]) (ur := []) [] [] rfl fun S hs hr => Zcv rfl rfl rfl Zc1) <| Sd (Z1o (us := [(6, Z43 164 Zz x11.1)]) (ur := []) [6, 22] [] rfl fun S hs hr => Zcj rfl rfl Z5e ((hs 6 rfl).trans rfl) (vh hs 22 rfl rfl)) <| SAs rfl <| Sn <| AW.unpackP 6 7 rfl rfl fun g12 => ?_
  obtain ⟨l13, hl13, h⟩ := Z8 h
  refine Rg <| Mw rfl <| Ld Z5e 7 rfl <| Ac (osl Z5s Zc1 rfl (vt rfl)) rfl <| Cv rfl (Z4e 1001 hl13 rfl rfl Zyl (vt rfl) rfl (vt rfl)) fun v14 => Aw rfl <| Nl <| Rg <| Ac (Z0s (t := 9) rfl rfl (vt rfl) (vk rfl) (vt rfl) hlti6) rfl <| Md rfl <| Nl ?_
  exact ⟨(_, _, _, _), Nat.lt_succ_self _, ⟨hsf1.next, h⟩, FX rfl⟩
def Zj4 (s1 : Switch) (m2 : Int) : Option (Flat × Int) :=
 (Zfo s1).bind fun x5 => (Zng x5 m2).bind fun x6 => (bif (decide (x6.2 ≠ 0)) then some ((⟨[], []⟩ : Flat), x6.2) else (Zl6 s1.Groups).bind fun x7 => some ((⟨x6.1, x7⟩ : Flat), 0))
theorem Yay : Q2 Tryz.prog 54 (rd Z0b) (rd (Z0 .i64)) (fun r => Z1d (rd Z5n r.1) (rd (Z0 .i64) r.2)) Zj4 := fun s1 m2 r h => I0 Tryz.func54 rfl Tryz.ntmps54 rfl fun w H => by
 unfold Zj4 at h
 refine SR <| Cv rfl (Zm 3 rfl rfl (vt rfl)) fun g3 => Cv rfl (Zp 5 rfl rfl Zmc) fun g4 => Ak rfl <| Nl <| sq ?_
 obtain ⟨x5, hx5, x6, hx6, h⟩ := bs2 h
 refine Rg <| Ld Z5f 3 rfl <| Cl [9] (Yh8 _ _ hx5) e25 rfl <| Md rfl <| Cl [10, 11] (Y7d _ _ _ hx6) Yl8 rfl <| Mt2 rfl <| Ac (Z1m rfl rfl (vt rfl)) rfl <| Ac (Z1l rfl rfl (vt rfl)) rfl <| As rfl <| As rfl <| Nl <| sq <| SR <| Md rfl <| Ac (Z6y rfl rfl (vt rfl) (vk rfl)) rfl <| Nl <| Cq rfl h (fun h => ?_) (fun h => ?_)
 ·refine SR <| Ac (opb (⟨[], []⟩ : Flat) Zmc rfl Y04 (pn rfl)) rfl <| Md rfl <| Zh Zbp 5 rfl <| As rfl <| Nl <| rt ?_
  cases h; exact Z1k Tryz.results54 rfl (Z01 rfl (i := 5) rfl Zbp) (Za rfl)
 ·refine sk <| sq ?_
  obtain ⟨x7, hx7, h⟩ := Z8 h
  refine Rg <| Md rfl <| Zf Ziz Zph rfl <| Ld Zcn 3 rfl <| Cl [21] (Yia _ _ hx7) Yik rfl <| Ac (opb (⟨x6.1, x7⟩ : Flat) Zmc rfl Y04 (pc Ylx (vt rfl) <| pc Y61 (vt rfl) <| pn rfl)) rfl <| Zh Zbp 5 rfl <| Ak rfl <| Nl <| rt ?_
  cases h; exact Z1k Tryz.results54 rfl (Z01 rfl (i := 5) rfl Zbp) (Za rfl)
def Zlu (p1 : Z4w) : Option (Bool × Z4w) :=
 some ((decide ((p1.cubes.length : Int) > p1.most)), (⟨p1.cubes, p1.most⟩ : Z4w))
theorem Y5b (g2 gT : Nat) (p1 : Z4w) (r : (Bool × Z4w)) (h : Zlu p1 = some r) : Con Tryz.prog 296 [Z7 g2 (Lens.id Z1r)] (Zx g2 gT Z1r (fun v => (⟨v, p1.most⟩ : slice_heap_o0)) 87 (Z3 24 Z4) p1.cubes) (fun _ : Unit => rd Z5 r.1) (fun _ => Zx g2 gT Z1r (fun v => (⟨v, r.2.most⟩ : slice_heap_o0)) 87 (Z3 24 Z4) r.2.cubes) := by
 refine Con.intro Tryz.func296 rfl Tryz.ntmps296 rfl fun w H X => ?_
 unfold Zlu at h
 refine AW.unboxF 0 2000 (by decide) rfl rfl fun v3 => SR <| Ab rfl <| Nl <| sq <| AR Zw (by kernel_rfl) <| SMp rfl <| SNc rfl <| Zv lslice_heap_o0_0 Zgx rfl <| Sd (lo [5] [0] rfl fun S hs hr => Z3m v3 rfl rfl Zh8 (vh hs 5 rfl rfl) (i := 0) ((hr 0 rfl).trans rfl) rfl) <| Sd (lo [6] [2000] rfl fun S hs hr => Z7a 2000 rfl rfl Z7j (vh hs 6 rfl rfl) ((hr 2000 rfl).trans rfl)) <| SMp rfl <| SNc rfl <| Zv lslice_heap_o0_1 Y9y rfl <| Zl Zo 0 rfl <| Sd (lo [7, 11] [] rfl fun S hs hr => Z3e rfl rfl (vh hs 7 rfl rfl) (vh hs 11 rfl rfl)) <| SAs rfl <| Sn <| rt ?_
 cases h; exact RetOK.turn (Turn.packF 0 2000 (fun v => (⟨v, p1.most⟩ : slice_heap_o0)) (by decide) rfl rfl) (Zcq (i := 0) Tryz.results296 rfl (Za rfl) rfl)
def Z80 (l21 : (List Zk)) (b23 : Int) (x25 : Zk) : Option (Lp ((List Zk) × Int)) :=
 (Z1a l21 [x25]).bind fun l28 => (Zlu (⟨l28, b23⟩ : Z4w)).bind fun b30 => (bif b30.1 then some (.out .ret (b30.2.cubes, b30.2.most)) else some (.go (b30.2.cubes, b30.2.most)))
def Zbj (x4 : Zk) : (List Zk) → Nat → (List Zk) → Int → Option (Bool × Z4w)
 | [], i16, l13, b15 => some (true, (⟨l13, b15⟩ : Z4w))
 | x18 :: l17, i16, l13, b15 => (Zkl x18 x4).bind fun x20 => (Itr.run x20 ((List Zk) × Int) (fun s x => Z80 s.1 s.2 x) (.go (l13, b15))).bind fun z24 => Zn9 z24 (fun s32 => (Zbj x4 l17) (i16 + 1) s32.1 s32.2) (fun c s32 => bif Zab c then some (false, (⟨s32.1, s32.2⟩ : Z4w)) else none)
def Zp6 (p1 : Z4w) (x4 : Zk) : Option (Bool × Z4w) :=
 Zbj x4 p1.cubes 0 [] p1.most
theorem Ye1 (g2 gT : Nat) (p1 : Z4w) (x4 : Zk) (r : (Bool × Z4w)) (h : Zp6 p1 x4 = some r) : Con Tryz.prog 297 [Z7 g2 (Lens.id Z1r), rd (Z3 24 Z4) x4] (Zx g2 gT Z1r (fun v => (⟨v, p1.most⟩ : slice_heap_o0)) 87 (Z3 24 Z4) p1.cubes) (fun _ : Unit => rd Z5 r.1) (fun _ => Zx g2 gT Z1r (fun v => (⟨v, r.2.most⟩ : slice_heap_o0)) 87 (Z3 24 Z4) r.2.cubes) := by
 refine Con.intro Tryz.func297 rfl Tryz.ntmps297 rfl fun w H X => ?_
 unfold Zp6 at h
 refine AW.unboxF 0 2000 (by decide) rfl rfl fun v3 => SR <| Cv rfl (Zm 3 rfl rfl (vkp (vt rfl))) fun g5 => Cv rfl (Zm 4 rfl rfl (vt rfl)) fun g6 => Cv rfl (Zp 5 rfl rfl zr4) fun g7 => Nl <| SR <| Ac (Ze0 (A := Z7 g2 (Lens.id Z1r)) rfl rfl rfl (Ziv _) (vt rfl) (i := 3) rfl) rfl <| Nc rfl <| Zf lslice_heap_o0_0 Zgx rfl <| Ac (Z3m v3 rfl rfl Zh8 (vt rfl) (i := 0) rfl rfl) rfl <| Aw rfl <| Nl <| SR <| Ac (Ze0 (A := Z7 g2 (Lens.id Z1r)) rfl rfl rfl (Ziv _) (vt rfl) (i := 3) rfl) rfl <| Nc rfl <| Zf lslice_heap_o0_0 Zgx rfl <| AOps.rename 2000 1001 (by decide) rfl rfl <| AOps.newnil 2000 87 (Z3 24 Z4) <| Ac (Z4y rfl rfl Zh8 (vt rfl) (i := 0) rfl (vkr vc rfl)) rfl <| Nl <| sq <| SR <| Mw rfl <| Ac (Z7a 1001 rfl rfl Z7j (vt rfl) rfl) rfl <| Mk rfl <| Nl <| bk <| AW.mark0 2990 rfl <| LGd (ν := (List Zk) × Nat × (List Zk) × Int × (List Nat) × Value) (fun (l17, i16, l13, b15, d12, v14) => (Sfx p1.cubes i16 l17 ∧ Zbj x4 l17 i16 l13 b15 = some r, l17.length, [(2, Z7 g5 (Lens.id (kas (Z7 g2 (Lens.id Z1r))))), (3, Z7 g6 (Lens.id (Z3 24 Z4))), (4, Z7 g7 (Lens.id Z5)), (16, Zn v3), (17, rd (Z0 .i64) (p1.cubes.length : Int)), (18, rd (Z0 .i64) (i16 : Int))], [(0, Zc g2 gT Z1r (⟨v14, b15⟩ : slice_heap_o0)), (3, Zc g5 336 (kas (Z7 g2 (Lens.id Z1r))) ()), (4, Zc g6 87 (Z3 24 Z4) x4), (5, Zc g7 4 Z5 false), (1001, Zb v3 87 (Z3 24 Z4) p1.cubes), (2000, Zb v14 87 (Z3 24 Z4) l13), (2990, Z2r d12)])) (fun (_, _, _, _, d12, _) => d12) (p1.cubes, 0, [], p1.most, [], (.slice none 0 0)) ⟨Sfx.start _, h⟩ (FX rfl) ?_
 rintro ⟨l17, i16, l13, b15, d12, v14⟩ ⟨hsf1, h⟩
 dsimp only at hsf1 h ⊢
 cases l17 with
 | nil =>
  unfold Zbj at h
  refine SR <| Ac (Zi rfl rfl (vt rfl) (vt rfl)) rfl <| Nl <| sq <| Cn rfl (fun hc => absurd (of_decide_eq_true hc) hsf1.nil) (fun hc => ?_)
  refine xt <| SR <| Ac (Z4y rfl rfl ty4 (vt rfl) (i := 5) rfl vb) rfl <| Nl <| rt ?_
  cases h; exact (Zuf 2990 _ _ rfl rfl (RetOK.turn (Turn.packF 0 2000 (fun v => (⟨v, b15⟩ : slice_heap_o0)) (by decide) rfl rfl) (Zcq (i := 0) Tryz.results297 rfl (Z01 rfl (i := 5) rfl ty4) rfl)))
 | cons x18 l17 =>
  unfold Zbj at h
  refine SR <| Ac (Zi rfl rfl (vt rfl) (vt rfl)) rfl <| Nl <| sq <| Cn rfl (fun hc => ?_) (fun hc => absurd hsf1.cons (of_decide_eq_false hc))
  have hlti16 := of_decide_eq_true hc
  refine sk <| sq <| bk <| SR <| Ac (Z2j 1001 rfl rfl Z7j (vt rfl) rfl (vt rfl) hsf1.lget) rfl <| Ac (Z1t 1001 rfl rfl Z00 (vt rfl) rfl (Z0m hsf1.lget).2) rfl <| Cv rfl (Zp 8 rfl rfl Z2c) fun g19 => Zh Z00 8 rfl <| Nl <| sq ?_
  obtain ⟨x20, hx20, h⟩ := Z8 h
  refine Rg <| Ld Z00 8 rfl <| Ld Z00 4 rfl <| Cl [22, 23] (Y28 _ _ _ hx20) Zzy rfl <| Nl <| bk ?_
  obtain ⟨z24, hz24, h⟩ := Z8 h
  refine AW.packF 0 2000 (fun v => (⟨v, b15⟩ : slice_heap_o0)) (by decide) rfl rfl <| AW.fit (d := d12) (L := [(2, Z7 g5 (Lens.id (kas (Z7 g2 (Lens.id Z1r))))), (3, Z7 g6 (Lens.id (Z3 24 Z4))), (4, Z7 g7 (Lens.id Z5)), (16, Zn v3), (17, rd (Z0 .i64) (p1.cubes.length : Int)), (18, rd (Z0 .i64) (i16 : Int)), (24, Z4u Tryz.prog (Z3 24 Z4) x20)]) (M := [(0, Zx g2 gT Z1r (fun v => (⟨v, b15⟩ : slice_heap_o0)) 87 (Z3 24 Z4) l13), (3, Zc g5 336 (kas (Z7 g2 (Lens.id Z1r))) ()), (4, Zc g6 87 (Z3 24 Z4) x4), (5, Zc g7 4 Z5 false), (1001, Zb v3 87 (Z3 24 Z4) p1.cubes), (2990, Z2r d12)]) (FX rfl) ?_
  refine AW.rangeFunc (σ := (List Zk) × Int) (fun x => [rd (Z3 24 Z4) x]) (fun s x => Z80 s.1 s.2 x) (fun s => Z2x ((fun s => [(0, Zx g2 gT Z1r (fun v => (⟨v, s.2⟩ : slice_heap_o0)) 87 (Z3 24 Z4) s.1), (3, Zc g5 336 (kas (Z7 g2 (Lens.id Z1r))) ()), (4, Zc g6 87 (Z3 24 Z4) x4), (5, Zc g7 4 Z5 false), (1001, Zb v3 87 (Z3 24 Z4) p1.cubes), (2990, Z2r d12)]) s)) (fun _ s => Z2x ((fun s => [(0, Zx g2 gT Z1r (fun v => (⟨v, s.2⟩ : slice_heap_o0)) 87 (Z3 24 Z4) s.1), (3, Zc g5 336 (kas (Z7 g2 (Lens.id Z1r))) ()), (4, Zc g6 87 (Z3 24 Z4) x4), (5, Zc g7 4 Z5 false), (1001, Zb v3 87 (Z3 24 Z4) p1.cubes), (2990, Z2r d12)]) s)) [(2, Z7 g5 (Lens.id (kas (Z7 g2 (Lens.id Z1r))))), (3, Z7 g6 (Lens.id (Z3 24 Z4))), (4, Z7 g7 (Lens.id Z5)), (16, Zn v3), (17, rd (Z0 .i64) (p1.cubes.length : Int)), (18, rd (Z0 .i64) (i16 : Int))] (fun s x25 S1 => ∃ (g26 : Nat), Fit S1 [] [(2, Z7 g5 (Lens.id (kas (Z7 g2 (Lens.id Z1r))))), (3, Z7 g6 (Lens.id (Z3 24 Z4))), (4, Z7 g7 (Lens.id Z5)), (8, Z7 g26 (Lens.id (Z3 24 Z4))), (16, Zn v3), (17, rd (Z0 .i64) (p1.cubes.length : Int)), (18, rd (Z0 .i64) (i16 : Int))] [(0, Zx g2 gT Z1r (fun v => (⟨v, s.2⟩ : slice_heap_o0)) 87 (Z3 24 Z4) s.1), (3, Zc g5 336 (kas (Z7 g2 (Lens.id Z1r))) ()), (4, Zc g6 87 (Z3 24 Z4) x4), (5, Zc g7 4 Z5 false), (1001, Zb v3 87 (Z3 24 Z4) p1.cubes), (2990, Z2r d12), (9, Zc g26 87 (Z3 24 Z4) x25)]) 3002 (s0 := (l13, b15)) (sE := z24) rfl (vt rfl) ⟨rfl, inferInstance, rfl, inferInstance, rfl, inferInstance, rfl, inferInstance, rfl, inferInstance, rfl, inferInstance, trivial⟩ rfl (fun _ => rfl) (by intro p hp; have hp : p ∈ [25] := hp; rw [List.mem_singleton.1 hp]; show 25 < 39; decide) ?ha2 ?hb2 (fun Lf => ⟨top, _, _, Lf, _, _, hz24, rfl, rfl, rfl, rfl⟩) ?he2
  case ha2 =>
   rintro ⟨l21, b23⟩ x25 r hF l w H X
   refine Rg <| Cv rfl (Zp 9 rfl rfl Z2c) fun g26 => Zh Z00 9 rfl <| Nl ?_
   exact ⟨rfl, g26, FX rfl⟩
  case hb2 =>
   rintro ⟨l21, b23⟩ x25 r h S1 ⟨g26, hfit⟩ l w H X
   refine AW.fit (d := []) (L := [(2, Z7 g5 (Lens.id (kas (Z7 g2 (Lens.id Z1r))))), (3, Z7 g6 (Lens.id (Z3 24 Z4))), (4, Z7 g7 (Lens.id Z5)), (8, Z7 g26 (Lens.id (Z3 24 Z4))), (16, Zn v3), (17, rd (Z0 .i64) (p1.cubes.length : Int)), (18, rd (Z0 .i64) (i16 : Int))]) (M := [(0, Zx g2 gT Z1r (fun v => (⟨v, b23⟩ : slice_heap_o0)) 87 (Z3 24 Z4) l21), (3, Zc g5 336 (kas (Z7 g2 (Lens.id Z1r))) ()), (4, Zc g6 87 (Z3 24 Z4) x4), (5, Zc g7 4 Z5 false), (1001, Zb v3 87 (Z3 24 Z4) p1.cubes), (2990, Z2r d12), (9, Zc g26 87 (Z3 24 Z4) x25)]) hfit <| AW.bodyT ?_
   change Z80 l21 b23 x25 = some r at h
   unfold Z80 at h
   refine AW.unboxF 0 2000 (by decide) rfl rfl fun v27 => bk <| sq ?_
   obtain ⟨l28, hl28, h⟩ := Z8 h
   refine AR Zw (by kernel_rfl) <| Sd (lo [2] [3] rfl fun S hs hr => Ze0 (A := Z7 g2 (Lens.id Z1r)) rfl rfl rfl (Ziv _) (vh hs 2 rfl rfl) (i := 3) ((hr 3 rfl).trans rfl)) <| Sd (lo [2] [3] rfl fun S hs hr => Ze0 (A := Z7 g2 (Lens.id Z1r)) rfl rfl rfl (Ziv _) (vh hs 2 rfl rfl) (i := 3) ((hr 3 rfl).trans rfl)) <| SNc rfl <| Zv lslice_heap_o0_0 Zgx rfl <| Sd (lo [29] [0] rfl fun S hs hr => Z3m v27 rfl rfl Zh8 (vh hs 29 rfl rfl) (i := 0) ((hr 0 rfl).trans rfl) rfl) <| Zl Z00 9 rfl <| Sd (lo [31] [] rfl fun S hs hr => osl Z7j Z2c rfl (vh hs 31 rfl rfl)) <| Sd (Z1o (us := [(33, Z2n 87 (Z3 24 Z4) l28)]) (ur := [(2000, emp)]) [30, 32] [2000] rfl fun S hs hr => Z8p 2000 hl28 rfl rfl rfl Zyp (vh hs 30 rfl rfl) ((hr 2000 rfl).trans rfl) (vh hs 32 rfl rfl)) <| SNc rfl <| Zv lslice_heap_o0_0 Zgx rfl <| Sd (Z1o (us := [(33, top)]) (ur := [(0, Zx g2 gT Z1r (fun v => ((Lens.comp (Lens.id Z1r) lslice_heap_o0_0)).set (⟨v27, b23⟩ : slice_heap_o0) v) 87 (Z3 24 Z4) l28)]) [35, 33] [0] rfl fun S hs hr => Zbm rfl rfl Zh8 (vh hs 35 rfl rfl) ((hr 0 rfl).trans rfl) ((hs 33 rfl).trans rfl)) <| Sn <| AW.unboxF 0 2000 (by decide) rfl rfl fun v29 => sq ?_
   obtain ⟨b30, hb30, h⟩ := Z8 h
   refine Rg <| Ac (Ze0 (A := Z7 g2 (Lens.id Z1r)) rfl rfl rfl (Ziv _) (vt rfl) (i := 3) rfl) rfl <| AOps.packF 0 2000 (fun v => (⟨v, b23⟩ : slice_heap_o0)) (by decide) rfl rfl <| Cv rfl (Z10 0 (xs := [.tmp 36]) (Y5b _ _ _ _ hb30) Zzo rfl rfl ⟨vt rfl, trivial⟩ rfl) fun _u => AOps.unboxF 0 2000 (by decide) rfl rfl fun v31 => Nl <| Cq rfl h (fun h => ?_) (fun h => ?_)
   ·refine SR <| Ac (Z4y rfl rfl ty4 (vt rfl) (i := 5) rfl vb) rfl <| Nl <| rt ?_
    obtain rfl := si h
    exact ⟨_, (b30.2.cubes, b30.2.most), (Turn.packF 0 2000 (fun v => (⟨v, b30.2.most⟩ : slice_heap_o0)) (by decide) rfl rfl), rfl, ⟨rfl, rfl, rfl, rfl, rfl, rfl, trivial⟩⟩
   ·refine sk ?_
    obtain rfl := si h
    exact ⟨_, (b30.2.cubes, b30.2.most), (Turn.packF 0 2000 (fun v => (⟨v, b30.2.most⟩ : slice_heap_o0)) (by decide) rfl rfl), rfl, ⟨rfl, rfl, rfl, rfl, rfl, rfl, trivial⟩⟩
  case he2 =>
   intro D
   cases z24 with
   | go s32 =>
    change _ = some r at h
    refine AW.marks 3002 2990 (by decide) rfl rfl <| AW.unboxF 0 2000 (by decide) rfl rfl fun v33 => Rg <| Ac (Z0s (t := 17) rfl rfl (vt rfl) (vk rfl) (vt rfl) hlti16) rfl <| Md rfl <| Nl ?_
    exact ⟨(_, _, _, _, _, _), Nat.lt_succ_self _, ⟨hsf1.next, h⟩, FX rfl⟩
   | out c s32 =>
    change (bif Zab c then _ else _) = some r at h
    cases hc : Zab c with
    | true =>
     rw [hc] at h
     have hc := Y35 hc
     subst hc
     change _ = some r at h
     refine AW.marks 3002 2990 (by decide) rfl rfl <| AW.unboxF 0 2000 (by decide) rfl rfl fun v34 => rt ?_
     cases h; exact (Zuf 2990 _ _ rfl rfl (RetOK.turn (Turn.packF 0 2000 (fun v => (⟨v, s32.2⟩ : slice_heap_o0)) (by decide) rfl rfl) (Zcq (i := 0) Tryz.results297 rfl (Z01 rfl (i := 5) rfl ty4) rfl)))
    | false =>
     rw [hc] at h
     cases h
def Z8x : (List Rule) → Nat → (List Zk) → Int → Option ((List Zk) × Int)
 | [], i18, l15, b17 => some (l15, 0)
 | x20 :: l19, i18, l15, b17 => (Zp6 (⟨l15, b17⟩ : Z4w) x20.Cube).bind fun b22 => (bif (!b22.1) then some ([], 5) else (Z8x l19) (i18 + 1) b22.2.cubes b22.2.most)
def Zgj (x1 : Flat) (i2 : Int) (m3 : Int) : Option ((List Zk) × Int) :=
 (bif ((decide (i2 < 0)) || (decide (i2 ≥ (x1.Rules.length : Int)))) then some ([], 6) else (lget x1.Rules i2).bind fun x5 => (Zbd x5.Cube).bind fun x6 => (Zlu (⟨[x6], m3⟩ : Z4w)).bind fun b9 => (bif b9.1 then some ([], 5) else (Z56 x1.Rules i2).bind fun s11 => Z8x s11 0 b9.2.cubes b9.2.most))
theorem Ynl : Q3 Tryz.prog 252 (rd Z5n) (rd (Z0 .i64)) (rd (Z0 .i64)) (fun r => Z1d (rd (Z1 (Z3 24 Z4)) r.1) (rd (Z0 .i64) r.2)) Zgj := fun x1 i2 m3 r h => I0 Tryz.func252 rfl Tryz.ntmps252 rfl fun w H => by
 unfold Zgj at h
 refine SR <| Cv rfl (Zm 4 rfl rfl (vt rfl)) fun g4 => Ac (Zy (A := rd (Z1 (Z3 24 Z4)) []) rfl rfl Z1h) rfl <| Ak rfl <| Nl <| sq <| SR <| Md rfl <| Ac (Zi rfl rfl (vt rfl) (vk rfl)) rfl <| Md rfl <| Gd rfl (fun hq => Zu (A := rd (Z0 .i64) i2) rfl rfl (vt rfl)) <| Gd rfl (fun hq => Z2p lFlat_0 rfl rfl Ziy (vt rfl)) <| Gd rfl (fun hq => Z1x rfl rfl Zin (Zs rfl hq) (i := 4) rfl) <| Gd rfl (fun hq => Z0t rfl rfl Z4x (Zs rfl hq)) <| Gd rfl (fun hq => Z3r rfl rfl (Zs rfl hq) (Zs rfl hq)) <| Ac (Z67 rfl rfl (vt rfl) (vt rfl)) rfl <| Nl <| Cq rfl h (fun h => ?_) (fun h => ?_)
 ·refine SR <| Ac (Zy (A := rd (Z1 (Z3 24 Z4)) []) rfl rfl Z1h) rfl <| Ak rfl <| Nl <| rt ?_
  cases h; exact Z1k Tryz.results252 rfl (Za rfl) (Za rfl)
 ·refine sk <| sq ?_
  obtain ⟨x5, hx5, x6, hx6, h⟩ := bs2 h
  refine Rg <| Zf lFlat_0 Ziy rfl <| Ld Zin 4 rfl <| Md rfl <| Ac (Z0w rfl rfl Z4x (vt rfl) (vt rfl) hx5) rfl <| Fp lRule_0 Zpl rfl <| Lp1 Z00 rfl <| Cl [25] (Zn5 _ _ hx6) Zos rfl <| Cv rfl (Zhn 1001 (ps := [(0, .tmp 26)]) (l := [x6]) rfl rfl Z7j Z2c rfl rfl ⟨_, _, Lens.idx 1 (Z3 24 Z4) 0 (by decide), _, rfl, (vt rfl), rfl⟩ rfl) fun v7 => Md rfl <| Ac (opb (⟨v7, m3⟩ : slice_heap_o0) Yjc rfl Yac (pc Ycd (Zmx (i := 1001) rfl rfl) <| pc Y8e (vt rfl) <| pn rfl)) rfl <| AOps.rename 1001 2620 (by decide) rfl rfl <| Cv rfl (Zm 31 rfl rfl (vt rfl)) fun g8 => Ac (Zy (A := Z7 g8 (Lens.id Z1r)) rfl rfl (vt rfl)) rfl <| Nl <| sq <| sq ?_
  obtain ⟨b9, hb9, h⟩ := Z8 h
  refine Rg <| Mp rfl <| AOps.packF 31 2620 (fun v => (⟨v, m3⟩ : slice_heap_o0)) (by decide) rfl rfl <| Cv rfl (Z10 31 (xs := [.tmp 31]) (Y5b _ _ _ _ hb9) Zzo rfl rfl ⟨vt rfl, trivial⟩ rfl) fun _u => AOps.unboxF 31 2620 (by decide) rfl rfl fun v10 => Nl <| Cq rfl h (fun h => ?_) (fun h => ?_)
  ·refine SR <| Ac (Zy (A := rd (Z1 (Z3 24 Z4)) []) rfl rfl Z1h) rfl <| Ak rfl <| Nl <| rt ?_
   cases h; exact Z1k Tryz.results252 rfl (Za rfl) (Za rfl)
  ·refine sk <| sq <| sq ?_
   obtain ⟨s11, hs11, h⟩ := Z8 h
   refine Rg <| Zf lFlat_0 Ziy rfl <| Ld Zin 4 rfl <| Md rfl <| Ac (Y68 hs11 rfl rfl Z4x (vt rfl) (vt rfl)) rfl <| Ac (Z0t rfl rfl Z4x (vt rfl)) rfl <| Mk rfl <| Nl <| bk <| LG (d := []) (ν := (List Rule) × Nat × (List Zk) × Int × Value) (fun (l19, i18, l15, b17, v16) => (Sfx s11 i18 l19 ∧ Z8x l19 i18 l15 b17 = some r, l19.length, [(8, Z7 g8 (Lens.id Z1r)), (36, rd (Z1 Z09) s11), (37, rd (Z0 .i64) (s11.length : Int)), (38, rd (Z0 .i64) (i18 : Int))], [(31, Zc g8 338 Z1r (⟨v16, b17⟩ : slice_heap_o0)), (2620, Zb v16 87 (Z3 24 Z4) l15)])) (s11, 0, b9.2.cubes, b9.2.most, v10) ⟨Sfx.start _, h⟩ (FX rfl) ?_
   rintro ⟨l19, i18, l15, b17, v16⟩ ⟨hsf1, h⟩
   dsimp only at hsf1 h ⊢
   cases l19 with
   | nil =>
    unfold Z8x at h
    refine SR <| Ac (Zi rfl rfl (vt rfl) (vt rfl)) rfl <| Nl <| sq <| Cn rfl (fun hc => absurd (of_decide_eq_true hc) hsf1.nil) (fun hc => ?_)
    refine xt <| SR <| Mp rfl <| Nc rfl <| Zf lslice_heap_o0_0 Zgx rfl <| Ac (Z3m v16 rfl rfl Zh8 (vt rfl) (i := 31) rfl rfl) rfl <| Aw rfl <| Ak rfl <| Nl <| AW.freezes [6, 51] 2620 rfl ⟨rfl, rfl, trivial⟩ rfl <| rt ?_
    cases h; exact Z1k Tryz.results252 rfl (Za rfl) (Za rfl)
   | cons x20 l19 =>
    unfold Z8x at h
    refine SR <| Ac (Zi rfl rfl (vt rfl) (vt rfl)) rfl <| Nl <| sq <| Cn rfl (fun hc => ?_) (fun hc => absurd hsf1.cons (of_decide_eq_false hc))
    have hlti18 := of_decide_eq_true hc
    refine sk <| sq <| bk <| SR <| Ac (Z0w rfl rfl Z4x (vt rfl) (vt rfl) hsf1.lget) rfl <| Lp1 Z9o rfl <| Cv rfl (Zp 11 rfl rfl Zc6) fun g21 => Zh Z9o 11 rfl <| Nl <| sq ?_
    obtain ⟨b22, hb22, h⟩ := Z8 h
    refine Rg <| Mp rfl <| Zf lRule_0 Zpl rfl <| Ld Z00 11 rfl <| AOps.packF 31 2620 (fun v => (⟨v, b17⟩ : slice_heap_o0)) (by decide) rfl rfl <| Cv rfl (Z10 31 (xs := [.tmp 42, .tmp 44]) (Ye1 _ _ _ _ _ hb22) Ykn rfl rfl ⟨vt rfl, vt rfl, trivial⟩ rfl) fun _u => AOps.unboxF 31 2620 (by decide) rfl rfl fun v23 => Ac (Z0x rfl rfl (vt rfl)) rfl <| Nl <| Cq rfl h (fun h => ?_) (fun h => ?_)
    ·refine SR <| Ac (Zy (A := rd (Z1 (Z3 24 Z4)) []) rfl rfl Z1h) rfl <| Ak rfl <| Nl <| rt ?_
     cases h; exact Z1k Tryz.results252 rfl (Za rfl) (Za rfl)
    ·refine sk <| Rg <| Ac (Z0s (t := 37) rfl rfl (vt rfl) (vk rfl) (vt rfl) hlti18) rfl <| Md rfl <| Nl ?_
     exact ⟨(_, _, _, _, _), Nat.lt_succ_self _, ⟨hsf1.next, h⟩, FX rfl⟩
end Go.Proofs.YtknpgojdkobgjaaGreat.W
