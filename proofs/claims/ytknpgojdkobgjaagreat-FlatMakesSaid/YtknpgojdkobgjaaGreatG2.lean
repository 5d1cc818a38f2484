/- A part of the proof. -/
import Derived.Test.YtknpgojdkobgjaaGreatG1
set_option linter.unusedVariables false
set_option maxRecDepth 4000
set_option linter.unusedSimpArgs false
namespace Go.Proofs.YtknpgojdkobgjaaGreat.W
open Go Go.Wb
theorem Zj9 : Ent Tryz.prog 151 := Ent.mk Tryz.func151 rfl rfl
theorem e78 : Ent Tryz.prog 78 := Ent.mk Tryz.func78 rfl rfl
theorem Yca : Ent Tryz.prog 155 := Ent.mk Tryz.func155 rfl rfl
theorem Zxc : Ent Tryz.prog 211 := Ent.mk Tryz.func211 rfl rfl
theorem Yfp : Ent Tryz.prog 153 := Ent.mk Tryz.func153 rfl rfl
theorem e79 : Ent Tryz.prog 79 := Ent.mk Tryz.func79 rfl rfl
theorem e84 : Ent Tryz.prog 84 := Ent.mk Tryz.func84 rfl rfl
theorem e81 : Ent Tryz.prog 81 := Ent.mk Tryz.func81 rfl rfl
theorem e20 : Ent Tryz.prog 20 := Ent.mk Tryz.func20 rfl rfl
theorem e21 : Ent Tryz.prog 21 := Ent.mk Tryz.func21 rfl rfl
theorem e23 : Ent Tryz.prog 23 := Ent.mk Tryz.func23 rfl rfl
def Zg1 (x3 : Flow) (t2 : Int) (R_r33_walk : (Switch → Int → Z5 → Z5 → (List Atom) → (List Action) → Option (List Rule))) (s1 : Switch) (x4 : Z5) (l15 : (List Atom)) (s19 : (List Action)) (b20 : Z5) : Option (List Rule) :=
 (Z8e x3.Insts 1).bind fun x21 => (bif ((x21.2 && (decide (x21.1.Table > t2))) && (decide (x21.1.Table < 4))) then (R_r33_walk s1 x21.1.Table x4 b20 l15 s19).bind fun x23 => some x23 else (Zg7 s19).bind fun x24 => (Zbj x24 b20).bind fun x25 => (Z0y l15 x25.1).bind fun l27 => some [(⟨x4, l27⟩ : Rule)])
def Zes (x3 : Flow) (b17 : Z5) (t2 : Int) (R_r33_walk : (Switch → Int → Z5 → Z5 → (List Atom) → (List Action) → Option (List Rule))) (s1 : Switch) (x4 : Z5) (l15 : (List Atom)) (s19 : (List Action)) : Option (List Rule) :=
 (Z8e x3.Insts 2).bind fun x28 => (bif x28.2 then (Z7o b17 1 x28.1.Value x28.1.Mask).bind fun x30 => Zg1 x3 t2 R_r33_walk s1 x4 l15 s19 x30 else Zg1 x3 t2 R_r33_walk s1 x4 l15 s19 b17)
def Zel (x3 : Flow) (b17 : Z5) (t2 : Int) (R_r33_walk : (Switch → Int → Z5 → Z5 → (List Atom) → (List Action) → Option (List Rule))) (s1 : Switch) (x4 : Z5) (l15 : (List Atom)) (s18 : (List Action)) : Option (List Rule) :=
 (Z8e x3.Insts 3).bind fun x31 => (bif x31.2 then (Zlc s18 x31.1.Acts).bind fun x33 => Zes x3 b17 t2 R_r33_walk s1 x4 l15 x33 else Zes x3 b17 t2 R_r33_walk s1 x4 l15 s18)
def Ze8 (x3 : Flow) (t2 : Int) (R_r33_walk : (Switch → Int → Z5 → Z5 → (List Atom) → (List Action) → Option (List Rule))) (s1 : Switch) (x4 : Z5) (s7 : (List Action)) (l15 : (List Atom)) (b17 : Z5) : Option (List Rule) :=
 (Z8e x3.Insts 5).bind fun x34 => (bif x34.2 then Zel x3 b17 t2 R_r33_walk s1 x4 l15 [] else Zel x3 b17 t2 R_r33_walk s1 x4 l15 s7)
def Zfo (R_r33_walk : (Switch → Int → Z5 → Z5 → (List Atom) → (List Action) → Option (List Rule))) (R_r33_one : (Switch → Int → Flow → Z5 → Z5 → (List Atom) → (List Action) → Option (List Rule))) (s1 : Switch) (t2 : Int) (x3 : Flow) (x4 : Z5) (x5 : Z5) (a6 : (List Atom)) (s7 : (List Action)) : Option (List Rule) :=
 (Z0y [] a6).bind fun l13 => (Z8e x3.Insts 4).bind fun x36 => (bif x36.2 then (Zbj x36.1.Acts x5).bind fun x38 => (Z0y l13 x38.1).bind fun l40 => Ze8 x3 t2 R_r33_walk s1 x4 s7 l40 x38.2 else Ze8 x3 t2 R_r33_walk s1 x4 s7 l13 x5)
theorem Yhk (R_r33_walk : (Switch → Int → Z5 → Z5 → (List Atom) → (List Action) → Option (List Rule))) (hR_r33_walk : ∀ (s1 : Switch) (t2 : Int) (x3 : Z5) (x4 : Z5) (a5 : (List Atom)) (s6 : (List Action)) (r : (List Rule)), R_r33_walk s1 t2 x3 x4 a5 s6 = some r → PCon Tryz.prog 78 [rd Z0p s1, rd (Z0 .i64) t2, rd (Z1 24 Z2) x3, rd (Z1 24 Z2) x4, rd (Z3 Z05) a5, rd (Z3 Z8) s6] (rd (Z3 Zy) r)) (R_r33_one : (Switch → Int → Flow → Z5 → Z5 → (List Atom) → (List Action) → Option (List Rule))) (hR_r33_one : ∀ (s1 : Switch) (t2 : Int) (x3 : Flow) (x4 : Z5) (x5 : Z5) (a6 : (List Atom)) (s7 : (List Action)) (r : (List Rule)), R_r33_one s1 t2 x3 x4 x5 a6 s7 = some r → PCon Tryz.prog 143 [rd Z0p s1, rd (Z0 .i64) t2, rd Z0k x3, rd (Z1 24 Z2) x4, rd (Z1 24 Z2) x5, rd (Z3 Z05) a6, rd (Z3 Z8) s7] (rd (Z3 Zy) r)) (s1 : Switch) (t2 : Int) (x3 : Flow) (x4 : Z5) (x5 : Z5) (a6 : (List Atom)) (s7 : (List Action)) (r : (List Rule)) (h : Zfo R_r33_walk R_r33_one s1 t2 x3 x4 x5 a6 s7 = some r) : PCon Tryz.prog 143 [rd Z0p s1, rd (Z0 .i64) t2, rd Z0k x3, rd (Z1 24 Z2) x4, rd (Z1 24 Z2) x5, rd (Z3 Z05) a6, rd (Z3 Z8) s7] (rd (Z3 Zy) r) := by
 refine PCon.of (Con.intro0 Tryz.func143 rfl Tryz.ntmps143 rfl fun w H => ?_)
 unfold Zfo at h
 refine SR <| Cv rfl (Zn 8 rfl rfl (vt rfl)) fun g8 => Cv rfl (Zn 10 rfl rfl (vt rfl)) fun g9 => Cv rfl (Zn 11 rfl rfl (vt rfl)) fun g10 => Cv rfl (Zn 12 rfl rfl (vt rfl)) fun g11 => Ac (Z04 (A := rd (Z3 Zy) []) rfl rfl Z26) rfl <| Nl <| sq ?_
 obtain ⟨l13, hl13, h⟩ := Za h
 refine Rg <| Cv rfl (Z43 1001 (ps := []) (l := []) rfl rfl Z28 Z55 rfl rfl rfl rfl) fun v12 => Md rfl <| Cv rfl (Z29 1001 hl13 rfl rfl Z7u (vt rfl) rfl (vt rfl)) fun v14 => Aw rfl <| Nl ?_
 refine JN (d := []) (ν := (List Atom) × Z5 × Value) (fun (l15, b17, v16) => (Ze8 x3 t2 R_r33_walk s1 x4 s7 l15 b17 = some r, [(1, rd (Z0 .i64) t2), (5, Zj v16), (6, rd (Z3 Z8) s7), (7, Ze g8 (Lens.id Z0p)), (9, Ze g9 (Lens.id Z0k)), (10, Ze g10 (Lens.id (Z1 24 Z2))), (11, Ze g11 (Lens.id (Z1 24 Z2)))], [(8, Zf g8 26 Z0p s1), (10, Zf g9 61 Z0k x3), (11, Zf g10 87 (Z1 24 Z2) x4), (12, Zf g11 101 (Z1 24 Z2) b17), (1001, Zh v16 126 Z05 l15)])) ?hx1 ?hy1
 case hy1 =>
  rintro ⟨l15, b17, v16⟩ h
  dsimp only at h ⊢
  unfold Ze8 at h
  refine JN (d := []) (ν := (List Action)) (fun s18 => (Zel x3 b17 t2 R_r33_walk s1 x4 l15 s18 = some r, [(1, rd (Z0 .i64) t2), (5, Zj v16), (6, rd (Z3 Z8) s18), (7, Ze g8 (Lens.id Z0p)), (9, Ze g9 (Lens.id Z0k)), (10, Ze g10 (Lens.id (Z1 24 Z2))), (11, Ze g11 (Lens.id (Z1 24 Z2)))], [(8, Zf g8 26 Z0p s1), (10, Zf g9 61 Z0k x3), (11, Zf g10 87 (Z1 24 Z2) x4), (12, Zf g11 101 (Z1 24 Z2) b17), (1001, Zh v16 126 Z05 l15)])) ?hx2 ?hy2
  case hy2 =>
   intro s18 h
   dsimp only at h ⊢
   unfold Zel at h
   refine JN (d := []) (ν := (List Action)) (fun s19 => (Zes x3 b17 t2 R_r33_walk s1 x4 l15 s19 = some r, [(1, rd (Z0 .i64) t2), (5, Zj v16), (6, rd (Z3 Z8) s19), (7, Ze g8 (Lens.id Z0p)), (9, Ze g9 (Lens.id Z0k)), (10, Ze g10 (Lens.id (Z1 24 Z2))), (11, Ze g11 (Lens.id (Z1 24 Z2)))], [(8, Zf g8 26 Z0p s1), (10, Zf g9 61 Z0k x3), (11, Zf g10 87 (Z1 24 Z2) x4), (12, Zf g11 101 (Z1 24 Z2) b17), (1001, Zh v16 126 Z05 l15)])) ?hx3 ?hy3
   case hy3 =>
    intro s19 h
    dsimp only at h ⊢
    unfold Zes at h
    refine JN (d := []) (ν := Z5) (fun b20 => (Zg1 x3 t2 R_r33_walk s1 x4 l15 s19 b20 = some r, [(1, rd (Z0 .i64) t2), (5, Zj v16), (6, rd (Z3 Z8) s19), (7, Ze g8 (Lens.id Z0p)), (9, Ze g9 (Lens.id Z0k)), (10, Ze g10 (Lens.id (Z1 24 Z2))), (11, Ze g11 (Lens.id (Z1 24 Z2)))], [(8, Zf g8 26 Z0p s1), (10, Zf g9 61 Z0k x3), (11, Zf g10 87 (Z1 24 Z2) x4), (12, Zf g11 101 (Z1 24 Z2) b20), (1001, Zh v16 126 Z05 l15)])) ?hx4 ?hy4
    case hy4 =>
     intro b20 h
     dsimp only at h ⊢
     unfold Zg1 at h
     refine sq ?_
     obtain ⟨x21, hx21, h⟩ := Za h
     refine Rg <| Zt lFlow_6 Zcn rfl <| Ld Zde 10 rfl <| Ac (Z0b (xs := [.tmp 83, .const (Value.int IntKind.i64 1)]) (Zir _ _ _ hx21) Zj9 rfl rfl ⟨vt rfl, vk rfl, trivial⟩) rfl <| Mt2 rfl <| Ac (Z1j rfl rfl (vt rfl)) rfl <| Ac (Z1i rfl rfl (vt rfl)) rfl <| Cv rfl (Zo 26 rfl rfl Z3s) fun g22 => Zd Z32 26 rfl <| As rfl <| Nl <| sq <| SR <| Md rfl <| Md rfl <| Gd rfl (fun hq => Z0t lInst_1 rfl rfl Zdu (vt rfl)) <| Gd rfl (fun hq => Z0g rfl rfl Zq (Z6 rfl hq) (i := 26) rfl) <| Gd rfl (fun hq => Zk (A := rd (Z0 .i64) t2) rfl rfl (vt rfl)) <| Gd rfl (fun hq => Z3j rfl rfl (Z6 rfl hq) (Z6 rfl hq)) <| Ac (Z0o rfl rfl (vt rfl) (vt rfl)) rfl <| Md rfl <| Gd rfl (fun hq => Z0t lInst_1 rfl rfl Zdu (vt rfl)) <| Gd rfl (fun hq => Z0g rfl rfl Zq (Z6 rfl hq) (i := 26) rfl) <| Gd rfl (fun hq => Zl rfl rfl (Z6 rfl hq) (vk rfl)) <| Ac (Z0o rfl rfl (vt rfl) (vt rfl)) rfl <| Nl <| Cq rfl h (fun h => ?_) (fun h => ?_)
     ·refine sq <| AW.freezes [5] 1001 rfl ⟨rfl, trivial⟩ rfl ?_
      obtain ⟨x23, hx23, h⟩ := Za h
      refine Rg <| Ld Z3e 8 rfl <| Zt lInst_1 Zdu rfl <| Ld Zq 26 rfl <| Ld Zv 11 rfl <| Ld Z01 12 rfl <| Md rfl <| Md rfl <| Cl [99, 101, 102, 103, 104, 105] (hR_r33_walk _ _ _ _ _ _ _ hx23) e78 rfl <| As rfl <| Nl <| rt ?_
      cases h; exact Zc Tryz.results143 rfl (Z4 rfl)
     ·refine sk <| sq ?_
      obtain ⟨x24, hx24, x25, hx25, h⟩ := bs2 h
      refine AR Zz (by kernel_rfl) <| Zg rfl <| SCl [108] (Y2z _ _ hx24) Yca rfl <| Zu Z01 12 rfl <| SCl [109, 110] (Zth _ _ _ hx25) Zxc rfl <| Sd (lo [111] [] rfl fun S hs hr => Zk (A := Z1c (rd (Z3 Z05) x25.1) (rd (Z1 24 Z2) x25.2)) rfl rfl (vh hs 111 rfl rfl)) <| Sd (lo [107] [] rfl fun S hs hr => Z1j rfl rfl (vh hs 107 rfl rfl)) <| Sd (lo [107] [] rfl fun S hs hr => Z1i rfl rfl (vh hs 107 rfl rfl)) <| Sd (Z11 (us := [(28, Z1u 101 (Z1 24 Z2) (Vector.replicate 24 zTern))]) (ur := []) [] [] rfl fun S hs hr => Z4t rfl rfl rfl Z30) <| SAs rfl <| Sd (Z11 (us := [(28, Z1u 101 (Z1 24 Z2) x25.2)]) (ur := []) [28, 113] [] rfl fun S hs hr => Z54 rfl rfl Z01 ((hs 28 rfl).trans rfl) (vh hs 113 rfl rfl)) <| Sn <| AW.unpackP 28 29 rfl rfl fun g26 => sq ?_
      obtain ⟨l27, hl27, h⟩ := Za h
      refine AR Zz (by kernel_rfl) <| Zu Zv 11 rfl <| SMw rfl <| Zg rfl <| Sd (Z11 (us := [(117, rd (Z3 Z05) l27)]) (ur := [(1001, emp)]) [115, 116] [1001] rfl fun S hs hr => Yba 1001 rfl hl27 rfl rfl rfl Z7u (vh hs 115 rfl rfl) ((hr 1001 rfl).trans rfl) (vh hs 116 rfl rfl)) <| Sd (lo [114, 117] [] rfl fun S hs hr => opb (⟨x4, l27⟩ : Rule) Z4c rfl Zqo (pc Zq1 (vh hs 114 rfl rfl) <| pc Zpl (vh hs 117 rfl rfl) <| pn rfl)) <| Sd (lo [118] [] rfl fun S hs hr => osl Z1m Z4c rfl (vh hs 118 rfl rfl)) <| SAs rfl <| Sn <| rt ?_
      cases h; exact Zc Tryz.results143 rfl (Z4 rfl)
    case hx4 =>
     refine sq ?_
     obtain ⟨x28, hx28, h⟩ := Za h
     refine Rg <| Zt lFlow_6 Zcn rfl <| Ld Zde 10 rfl <| Ac (Z0b (xs := [.tmp 70, .const (Value.int IntKind.i64 2)]) (Zir _ _ _ hx28) Zj9 rfl rfl ⟨vt rfl, vk rfl, trivial⟩) rfl <| Mt2 rfl <| Ac (Z1j rfl rfl (vt rfl)) rfl <| Ac (Z1i rfl rfl (vt rfl)) rfl <| Cv rfl (Zo 24 rfl rfl Z3s) fun g29 => Zd Z32 24 rfl <| As rfl <| Nl <| SR <| Md rfl <| Nl <| Cq rfl h (fun h => ?_) (fun h => ?_)
     ·obtain ⟨x30, hx30, h⟩ := Za h
      refine Rg <| Ld Z01 12 rfl <| Zt Ztc Y1l rfl <| Ld Zs 24 rfl <| Zt Zqj Ztm rfl <| Ld Zs 24 rfl <| Ac (Z0b (xs := [.tmp 75, .const (Value.int IntKind.i64 1), .tmp 77, .tmp 79]) (Zk7 _ _ _ _ _ hx30) Zjx rfl rfl ⟨vt rfl, vk rfl, vt rfl, vt rfl, trivial⟩) rfl <| Zd Z01 12 rfl <| Nl ?_
      exact ⟨_, h, FX rfl⟩
     ·refine sk ?_
      exact ⟨_, h, FX rfl⟩
   case hx3 =>
    refine sq ?_
    obtain ⟨x31, hx31, h⟩ := Za h
    refine Rg <| Zt lFlow_6 Zcn rfl <| Ld Zde 10 rfl <| Ac (Z0b (xs := [.tmp 59, .const (Value.int IntKind.i64 3)]) (Zir _ _ _ hx31) Zj9 rfl rfl ⟨vt rfl, vk rfl, trivial⟩) rfl <| Mt2 rfl <| Ac (Z1j rfl rfl (vt rfl)) rfl <| Ac (Z1i rfl rfl (vt rfl)) rfl <| Cv rfl (Zo 22 rfl rfl Z3s) fun g32 => Zd Z32 22 rfl <| As rfl <| Nl <| SR <| Md rfl <| Nl <| Cq rfl h (fun h => ?_) (fun h => ?_)
    ·obtain ⟨x33, hx33, h⟩ := Za h
     refine Rg <| Md rfl <| Zt lInst_4 Zcy rfl <| Ld Z42 22 rfl <| Cl [64, 66] (Yjg _ _ _ hx33) Yfp rfl <| As rfl <| Nl ?_
     exact ⟨_, h, FX rfl⟩
    ·refine sk ?_
     exact ⟨_, h, FX rfl⟩
  case hx2 =>
   refine sq ?_
   obtain ⟨x34, hx34, h⟩ := Za h
   refine Rg <| Zt lFlow_6 Zcn rfl <| Ld Zde 10 rfl <| Ac (Z0b (xs := [.tmp 52, .const (Value.int IntKind.i64 5)]) (Zir _ _ _ hx34) Zj9 rfl rfl ⟨vt rfl, vk rfl, trivial⟩) rfl <| Mt2 rfl <| Ac (Z1j rfl rfl (vt rfl)) rfl <| Ac (Z1i rfl rfl (vt rfl)) rfl <| Cv rfl (Zo 20 rfl rfl Z3s) fun g35 => Zd Z32 20 rfl <| As rfl <| Nl <| SR <| Md rfl <| Nl <| Cq rfl h (fun h => ?_) (fun h => ?_)
   ·refine Rg <| Ac (Z04 (A := rd (Z3 Z8) []) rfl rfl Z26) rfl <| Nl ?_
    exact ⟨_, h, FX rfl⟩
   ·refine sk ?_
    exact ⟨_, h, FX rfl⟩
 case hx1 =>
  refine sq ?_
  obtain ⟨x36, hx36, h⟩ := Za h
  refine Rg <| Zt lFlow_6 Zcn rfl <| Ld Zde 10 rfl <| Ac (Z0b (xs := [.tmp 34, .const (Value.int IntKind.i64 4)]) (Zir _ _ _ hx36) Zj9 rfl rfl ⟨vt rfl, vk rfl, trivial⟩) rfl <| Mt2 rfl <| Ac (Z1j rfl rfl (vt rfl)) rfl <| Ac (Z1i rfl rfl (vt rfl)) rfl <| Cv rfl (Zo 16 rfl rfl Z3s) fun g37 => Zd Z32 16 rfl <| As rfl <| Nl <| SR <| Md rfl <| Nl <| Cq rfl h (fun h => ?_) (fun h => ?_)
  ·refine sq ?_
   obtain ⟨x38, hx38, h⟩ := Za h
   refine Rg <| Zt lInst_4 Zcy rfl <| Ld Z42 16 rfl <| Ld Z01 12 rfl <| Cl [41, 42] (Zth _ _ _ hx38) Zxc rfl <| Mt2 rfl <| Ac (Z1j rfl rfl (vt rfl)) rfl <| Ac (Z1i rfl rfl (vt rfl)) rfl <| Cv rfl (Zo 19 rfl rfl Z30) fun g39 => As rfl <| Zd Z01 19 rfl <| Nl ?_
   obtain ⟨l40, hl40, h⟩ := Za h
   refine AW.endT <| AR Zz (by kernel_rfl) <| SMw rfl <| Zg rfl <| Sd (Z11 (us := [(48, Z23 126 Z05 l40)]) (ur := [(1001, emp)]) [46, 47] [1001] rfl fun S hs hr => Z98 1001 hl40 rfl rfl rfl Z7u (vh hs 46 rfl rfl) ((hr 1001 rfl).trans rfl) (vh hs 47 rfl rfl)) <| Zu Z01 19 rfl <| Sd (Z11 (us := [(48, top), (5, Z23 126 Z05 l40)]) (ur := []) [48] [1002] rfl fun S hs hr => Zgp 1002 rfl rfl rfl rfl ((hs 48 rfl).trans rfl) ((hr 1002 rfl).trans rfl)) <| SSt Z01 12 rfl <| Sn <| EndT.unpackR 5 1001 rfl rfl fun v41 => EndT.done ?_
   exact ⟨(_, _, _), h, FX rfl⟩
  ·refine sk ?_
   exact ⟨(_, _, _), h, FX rfl⟩
def Z48 : Nat → (Switch → Int → Z5 → Z5 → (List Atom) → (List Action) → Option (List Rule)) × (Switch → Int → Flow → Z5 → Z5 → (List Atom) → (List Action) → Option (List Rule))
 | 0 => ((fun _ _ _ _ _ _ => none), (fun _ _ _ _ _ _ _ => none))
 | n + 1 => ((Zjc (Z48 n).1 (Z48 n).2), (Zfo (Z48 n).1 (Z48 n).2))
theorem Zwn : ∀ n : Nat, (∀ (s1 : Switch) (t2 : Int) (x3 : Z5) (x4 : Z5) (a5 : (List Atom)) (s6 : (List Action)) (r : (List Rule)), (Z48 n).1 s1 t2 x3 x4 a5 s6 = some r → PCon Tryz.prog 78 [rd Z0p s1, rd (Z0 .i64) t2, rd (Z1 24 Z2) x3, rd (Z1 24 Z2) x4, rd (Z3 Z05) a5, rd (Z3 Z8) s6] (rd (Z3 Zy) r)) ∧ (∀ (s1 : Switch) (t2 : Int) (x3 : Flow) (x4 : Z5) (x5 : Z5) (a6 : (List Atom)) (s7 : (List Action)) (r : (List Rule)), (Z48 n).2 s1 t2 x3 x4 x5 a6 s7 = some r → PCon Tryz.prog 143 [rd Z0p s1, rd (Z0 .i64) t2, rd Z0k x3, rd (Z1 24 Z2) x4, rd (Z1 24 Z2) x5, rd (Z3 Z05) a6, rd (Z3 Z8) s7] (rd (Z3 Zy) r))
 | 0 => ⟨(by intros; rename_i h; cases h), (by intros; rename_i h; cases h)⟩
 | n + 1 => by
  have ih := Zwn n
  exact ⟨(Yjh (Z48 n).1 ih.1 (Z48 n).2 ih.2), (Yhk (Z48 n).1 ih.1 (Z48 n).2 ih.2)⟩
def Zra (s1 : Switch) (t2 : Int) (x3 : Z5) (x4 : Z5) (a5 : (List Atom)) (s6 : (List Action)) : Option (List Rule) := (Z48 Z0w).1 s1 t2 x3 x4 a5 s6
theorem Yeg : ∀ (s1 : Switch) (t2 : Int) (x3 : Z5) (x4 : Z5) (a5 : (List Atom)) (s6 : (List Action)) (r : (List Rule)), Zra s1 t2 x3 x4 a5 s6 = some r → PCon Tryz.prog 78 [rd Z0p s1, rd (Z0 .i64) t2, rd (Z1 24 Z2) x3, rd (Z1 24 Z2) x4, rd (Z3 Z05) a5, rd (Z3 Z8) s6] (rd (Z3 Zy) r) := (Zwn Z0w).1
def Zc3 (s1 : Switch) : Option (List Rule) :=
 (Zov).bind fun x3 => (Z7r).bind fun x4 => (Zra s1 0 x3 x4 [] []).bind fun x5 => some x5
theorem Y03 : Q1 Tryz.prog 23 (rd Z0p) (rd (Z3 Zy)) Zc3 := fun s1 r h => I0 Tryz.func23 rfl Tryz.ntmps23 rfl fun w H => by
 unfold Zc3 at h
 refine SR <| Cv rfl (Zn 2 rfl rfl (vt rfl)) fun g2 => Ac (Z04 (A := rd (Z3 Zy) []) rfl rfl Z26) rfl <| Nl <| sq ?_
 obtain ⟨x3, hx3, x4, hx4, x5, hx5, h⟩ := bs3 h
 refine AR Zz (by kernel_rfl) <| Zu Z3e 2 rfl <| SCl [] (Y95 _ hx3) e79 rfl <| SCl [] (Zkr _ hx4) e80 rfl <| Sd (lo [3, 4, 5] [] rfl fun S hs hr => Z0b (xs := [.tmp 3, .const (Value.int IntKind.i64 0), .tmp 4, .tmp 5, .const (Value.slice none 0 0), .const (Value.slice none 0 0)]) (Yeg _ _ _ _ _ _ _ hx5) e78 rfl rfl ⟨vt ((hs 3 rfl).trans rfl), vk rfl, vt ((hs 4 rfl).trans rfl), vt ((hs 5 rfl).trans rfl), Z26, Z26, trivial⟩) <| SAs rfl <| Sn <| rt ?_
 cases h; exact Zc Tryz.results23 rfl (Z4 rfl)
def Za7 (s2 : (List Rule)) (x3 : (Rule → Rule → Option Bool)) : (List Rule) → Nat → Option Bool
 | [], i4 => some true
 | x6 :: l5, i4 => (lget s2 (i4 : Int)).bind fun x8 => (x3 x6 x8).bind fun x10 => (bif (!x10) then some false else (Za7 s2 x3 l5) (i4 + 1))
def Zih (s1 : (List Rule)) (s2 : (List Rule)) (x3 : (Rule → Rule → Option Bool)) : Option Bool :=
 (bif (decide ((s1.length : Int) ≠ (s2.length : Int))) then some false else Za7 s2 x3 s1 0)
theorem Y7n : Q3 Tryz.prog 81 (rd (Z3 Zy)) (rd (Z3 Zy)) (fn2 Tryz.prog Zy Zy Z7) (rd Z7) Zih := fun s1 s2 x3 r h => I0 Tryz.func81 rfl Tryz.ntmps81 rfl fun w H => by
 unfold Zih at h
 refine SR <| Ab rfl <| Nl <| sq <| SR <| Md rfl <| Ac (Z09 rfl rfl Z1m (vt rfl)) rfl <| Md rfl <| Ac (Z09 rfl rfl Z1m (vt rfl)) rfl <| Ac (Z2o rfl rfl (vt rfl) (vt rfl)) rfl <| Nl <| Cq rfl h (fun h => ?_) (fun h => ?_)
 ·refine SR <| Ab rfl <| Nl <| rt ?_
  cases h; exact Zc Tryz.results81 rfl (Z4 rfl)
 ·refine sk <| sq <| SR <| Md rfl <| Ac (Z09 rfl rfl Z1m (vt rfl)) rfl <| Mk rfl <| Nl <| bk <| LG (d := []) (ν := (List Rule) × Nat) (fun (l5, i4) => (Sfx s1 i4 l5 ∧ Za7 s2 x3 l5 i4 = some r, l5.length, [(1, rd (Z3 Zy) s2), (2, fn2 Tryz.prog Zy Zy Z7 x3), (15, rd (Z3 Zy) s1), (16, rd (Z0 .i64) (s1.length : Int)), (17, rd (Z0 .i64) (i4 : Int))], [])) (s1, 0) ⟨Sfx.start _, h⟩ (FX rfl) ?_
  rintro ⟨l5, i4⟩ ⟨hsf1, h⟩
  dsimp only at hsf1 h ⊢
  cases l5 with
  | nil =>
   unfold Za7 at h
   refine SR <| Ac (Zl rfl rfl (vt rfl) (vt rfl)) rfl <| Nl <| sq <| Cn rfl (fun hc => absurd (of_decide_eq_true hc) hsf1.nil) (fun hc => ?_)
   refine xt <| SR <| Ab rfl <| Nl <| rt ?_
   cases h; exact Zc Tryz.results81 rfl (Z4 rfl)
  | cons x6 l5 =>
   unfold Za7 at h
   refine SR <| Ac (Zl rfl rfl (vt rfl) (vt rfl)) rfl <| Nl <| sq <| Cn rfl (fun hc => ?_) (fun hc => absurd hsf1.cons (of_decide_eq_false hc))
   have hlti4 := of_decide_eq_true hc
   refine sk <| sq <| bk <| SR <| Md rfl <| Ac (Z03 rfl rfl Z1m (vt rfl) (vt rfl) hsf1.lget) rfl <| Lp1 Z4n rfl <| Cv rfl (Zo 9 rfl rfl Z4c) fun g7 => As rfl <| Zd Z4n 9 rfl <| Nl <| sq ?_
   obtain ⟨x8, hx8, h⟩ := Za h
   refine Rg <| Md rfl <| Md rfl <| Ac (Z03 rfl rfl Z1m (vt rfl) (vt rfl) hx8) rfl <| Lp1 Z4n rfl <| Cv rfl (Zo 10 rfl rfl Z4c) fun g9 => Zd Z4n 10 rfl <| Nl <| sq ?_
   obtain ⟨x10, hx10, h⟩ := Za h
   refine Rg <| Ac (Zk (A := fn2 Tryz.prog Zy Zy Z7 x3) rfl rfl (vt rfl)) rfl <| Ld Z4n 9 rfl <| Ld Z4n 10 rfl <| Ac (Z5f hx10 rfl rfl (vt rfl) (vt rfl) (vt rfl)) rfl <| Ac (Z0s rfl rfl (vt rfl)) rfl <| Nl <| Cq rfl h (fun h => ?_) (fun h => ?_)
   ·refine SR <| Ab rfl <| Nl <| rt ?_
    cases h; exact Zc Tryz.results81 rfl (Z4 rfl)
   ·refine sk <| Rg <| Ac (Z21 (t := 16) rfl rfl (vt rfl) (vk rfl) (vt rfl) hlti4) rfl <| Md rfl <| Nl ?_
    exact ⟨(_, _), Nat.lt_succ_self _, ⟨hsf1.next, h⟩, FX rfl⟩
def Zek (a1 : (List Atom)) (b2 : (List Atom)) : Nat → Int → Option Bool
 | 0, _ => none
 | m5 + 1, i4 => (bif (decide (i4 < (a1.length : Int))) then (lget a1 i4).bind fun x6 => (lget b2 i4).bind fun x7 => (opt (!(!(x6.Group == x7.Group))) (lget a1 i4)).bind fun x8 => (opt (!(!(x6.Group == x7.Group))) (lget b2 i4)).bind fun x9 => (opt (!((!(x6.Group == x7.Group)) || (decide (x8.Port ≠ x9.Port)))) (lget a1 i4)).bind fun x10 => (opt (!((!(x6.Group == x7.Group)) || (decide (x8.Port ≠ x9.Port)))) (lget b2 i4)).bind fun x11 => (opt (!(((!(x6.Group == x7.Group)) || (decide (x8.Port ≠ x9.Port))) || (decide (x10.Max ≠ x11.Max)))) (lget a1 i4)).bind fun x12 => (opt (!(((!(x6.Group == x7.Group)) || (decide (x8.Port ≠ x9.Port))) || (decide (x10.Max ≠ x11.Max)))) (Z69 x12.Rewrite)).bind fun x13 => (opt (!(((!(x6.Group == x7.Group)) || (decide (x8.Port ≠ x9.Port))) || (decide (x10.Max ≠ x11.Max)))) (lget b2 i4)).bind fun x14 => (opt (!(((!(x6.Group == x7.Group)) || (decide (x8.Port ≠ x9.Port))) || (decide (x10.Max ≠ x11.Max)))) (Z69 x14.Rewrite)).bind fun x15 => (bif ((((!(x6.Group == x7.Group)) || (decide (x8.Port ≠ x9.Port))) || (decide (x10.Max ≠ x11.Max))) || (decide (x13 ≠ x15))) then some false else (Zek a1 b2 m5) (IntKind.i64.wrap (i4 + 1))) else some true)
def Zfw (a1 : (List Atom)) (b2 : (List Atom)) : Option Bool :=
 (bif (decide ((a1.length : Int) ≠ (b2.length : Int))) then some false else Zek a1 b2 ((((a1.length : Int) : Int) - 0).toNat + 1) 0)
theorem Y2p : Q2 Tryz.prog 84 (rd (Z3 Z05)) (rd (Z3 Z05)) (rd Z7) Zfw := fun a1 b2 r h => I0 Tryz.func84 rfl Tryz.ntmps84 rfl fun w H => by
 unfold Zfw at h
 refine SR <| Ab rfl <| Nl <| sq <| SR <| Md rfl <| Ac (Z09 rfl rfl Z28 (vt rfl)) rfl <| Md rfl <| Ac (Z09 rfl rfl Z28 (vt rfl)) rfl <| Ac (Z2o rfl rfl (vt rfl) (vt rfl)) rfl <| Nl <| Cq rfl h (fun h => ?_) (fun h => ?_)
 ·refine SR <| Ab rfl <| Nl <| rt ?_
  cases h; exact Zc Tryz.results84 rfl (Z4 rfl)
 ·refine sk <| sq <| SR <| Ak rfl <| Nl <| bk <| LG (d := []) (ν := Nat × Int) (fun (m5, i4) => (True ∧ Zek a1 b2 m5 i4 = some r, m5, [(0, rd (Z3 Z05) a1), (1, rd (Z3 Z05) b2), (5, rd (Z0 .i64) i4)], [])) (((((a1.length : Int) : Int) - 0).toNat + 1), 0) ⟨trivial, h⟩ (FX rfl) ?_
  rintro ⟨m5, i4⟩ ⟨hsf1, h⟩
  dsimp only at h ⊢
  cases m5 with
  | zero => cases h
  | succ m5 =>
   unfold Zek at h
   refine sq <| SR <| Md rfl <| Md rfl <| Ac (Z09 rfl rfl Z28 (vt rfl)) rfl <| Ac (Zl rfl rfl (vt rfl) (vt rfl)) rfl <| Nl <| Cq rfl h (fun h => ?_) (fun h => ?_)
   ·refine sk <| sq <| bk <| sq ?_
    obtain ⟨x6, hx6, x7, hx7, x8, hx8, x9, hx9, h⟩ := bs4 h
    obtain ⟨x10, hx10, x11, hx11, x12, hx12, x13, hx13, h⟩ := bs4 h
    obtain ⟨x14, hx14, x15, hx15, h⟩ := bs2 h
    refine AR Zz (by kernel_rfl) <| Zg rfl <| Zg rfl <| Sd (lo [17, 18] [] rfl fun S hs hr => Z03 rfl rfl Z28 (vh hs 17 rfl rfl) (vh hs 18 rfl rfl) hx6) <| SFp lAtom_1 Zr3 rfl <| SLp ty4 rfl <| Zg rfl <| Zg rfl <| Sd (lo [22, 23] [] rfl fun S hs hr => Z03 rfl rfl Z28 (vh hs 22 rfl rfl) (vh hs 23 rfl rfl) hx7) <| SFp lAtom_1 Zr3 rfl <| SLp ty4 rfl <| Sd (lo [21, 26] [] rfl fun S hs hr => Yjl rfl rfl un4 (vh hs 21 rfl rfl) (vh hs 26 rfl rfl)) <| Zg rfl <| Sd (lg [0, 28] [] rfl fun hq S hs hr => Zk (A := rd (Z3 Z05) a1) rfl rfl (vh hs 0 rfl rfl)) <| Sd (lg [5, 28] [] rfl fun hq S hs hr => Zk (A := rd (Z0 .i64) i4) rfl rfl (vh hs 5 rfl rfl)) <| Sd (lg [29, 30, 28] [] rfl fun hq S hs hr => Z03 rfl rfl Z28 (Z6 ((hs 29 rfl).trans rfl) hq) (Z6 ((hs 30 rfl).trans rfl) hq) (Z2u hx8 hq)) <| Sd (lg [31, 28] [] rfl fun hq S hs hr => Z27 lAtom_2 rfl rfl Zix (Z6 ((hs 31 rfl).trans rfl) hq)) <| Sd (lg [32, 28] [] rfl fun hq S hs hr => Z2e rfl rfl Zq (Z6 ((hs 32 rfl).trans rfl) hq)) <| Sd (lg [1, 28] [] rfl fun hq S hs hr => Zk (A := rd (Z3 Z05) b2) rfl rfl (vh hs 1 rfl rfl)) <| Sd (lg [5, 28] [] rfl fun hq S hs hr => Zk (A := rd (Z0 .i64) i4) rfl rfl (vh hs 5 rfl rfl)) <| Sd (lg [34, 35, 28] [] rfl fun hq S hs hr => Z03 rfl rfl Z28 (Z6 ((hs 34 rfl).trans rfl) hq) (Z6 ((hs 35 rfl).trans rfl) hq) (Z2u hx9 hq)) <| Sd (lg [36, 28] [] rfl fun hq S hs hr => Z27 lAtom_2 rfl rfl Zix (Z6 ((hs 36 rfl).trans rfl) hq)) <| Sd (lg [37, 28] [] rfl fun hq S hs hr => Z2e rfl rfl Zq (Z6 ((hs 37 rfl).trans rfl) hq)) <| Sd (lg [33, 38, 28] [] rfl fun hq S hs hr => Z2o rfl rfl (Z6 ((hs 33 rfl).trans rfl) hq) (Z6 ((hs 38 rfl).trans rfl) hq)) <| Sd (lo [39, 28] [] rfl fun S hs hr => Z4g rfl rfl (vh hs 28 rfl rfl) (vh hs 39 rfl rfl)) <| Zg rfl <| Sd (lg [0, 41] [] rfl fun hq S hs hr => Zk (A := rd (Z3 Z05) a1) rfl rfl (vh hs 0 rfl rfl)) <| Sd (lg [5, 41] [] rfl fun hq S hs hr => Zk (A := rd (Z0 .i64) i4) rfl rfl (vh hs 5 rfl rfl)) <| Sd (lg [42, 43, 41] [] rfl fun hq S hs hr => Z03 rfl rfl Z28 (Z6 ((hs 42 rfl).trans rfl) hq) (Z6 ((hs 43 rfl).trans rfl) hq) (Z2u hx10 hq)) <| Sd (lg [44, 41] [] rfl fun hq S hs hr => Z27 Zky rfl rfl Zon (Z6 ((hs 44 rfl).trans rfl) hq)) <| Sd (lg [45, 41] [] rfl fun hq S hs hr => Z2e rfl rfl Zq (Z6 ((hs 45 rfl).trans rfl) hq)) <| Sd (lg [1, 41] [] rfl fun hq S hs hr => Zk (A := rd (Z3 Z05) b2) rfl rfl (vh hs 1 rfl rfl)) <| Sd (lg [5, 41] [] rfl fun hq S hs hr => Zk (A := rd (Z0 .i64) i4) rfl rfl (vh hs 5 rfl rfl)) <| Sd (lg [47, 48, 41] [] rfl fun hq S hs hr => Z03 rfl rfl Z28 (Z6 ((hs 47 rfl).trans rfl) hq) (Z6 ((hs 48 rfl).trans rfl) hq) (Z2u hx11 hq)) <| Sd (lg [49, 41] [] rfl fun hq S hs hr => Z27 Zky rfl rfl Zon (Z6 ((hs 49 rfl).trans rfl) hq)) <| Sd (lg [50, 41] [] rfl fun hq S hs hr => Z2e rfl rfl Zq (Z6 ((hs 50 rfl).trans rfl) hq)) <| Sd (lg [46, 51, 41] [] rfl fun hq S hs hr => Z2o rfl rfl (Z6 ((hs 46 rfl).trans rfl) hq) (Z6 ((hs 51 rfl).trans rfl) hq)) <| Sd (lo [52, 41] [] rfl fun S hs hr => Z4g rfl rfl (vh hs 41 rfl rfl) (vh hs 52 rfl rfl)) <| Zg rfl <| Sd (lg [0, 54] [] rfl fun hq S hs hr => Zk (A := rd (Z3 Z05) a1) rfl rfl (vh hs 0 rfl rfl)) <| Sd (lg [5, 54] [] rfl fun hq S hs hr => Zk (A := rd (Z0 .i64) i4) rfl rfl (vh hs 5 rfl rfl)) <| Sd (lg [55, 56, 54] [] rfl fun hq S hs hr => Z03 rfl rfl Z28 (Z6 ((hs 55 rfl).trans rfl) hq) (Z6 ((hs 56 rfl).trans rfl) hq) (Z2u hx12 hq)) <| Sd (lg [57, 54] [] rfl fun hq S hs hr => Z27 lAtom_0 rfl rfl Zfp (Z6 ((hs 57 rfl).trans rfl) hq)) <| Sd (lg [58, 54] [] rfl fun hq S hs hr => Z2e rfl rfl Z01 (Z6 ((hs 58 rfl).trans rfl) hq)) <| Sd (lg [59, 54] [] rfl fun hq S hs hr => Z0b (xs := [.tmp 59]) (Zi3 _ _ (Z2u hx13 hq)) Zj0 rfl rfl ⟨Z6 ((hs 59 rfl).trans rfl) hq, trivial⟩) <| Sd (lg [1, 54] [] rfl fun hq S hs hr => Zk (A := rd (Z3 Z05) b2) rfl rfl (vh hs 1 rfl rfl)) <| Sd (lg [5, 54] [] rfl fun hq S hs hr => Zk (A := rd (Z0 .i64) i4) rfl rfl (vh hs 5 rfl rfl)) <| Sd (lg [61, 62, 54] [] rfl fun hq S hs hr => Z03 rfl rfl Z28 (Z6 ((hs 61 rfl).trans rfl) hq) (Z6 ((hs 62 rfl).trans rfl) hq) (Z2u hx14 hq)) <| Sd (lg [63, 54] [] rfl fun hq S hs hr => Z27 lAtom_0 rfl rfl Zfp (Z6 ((hs 63 rfl).trans rfl) hq)) <| Sd (lg [64, 54] [] rfl fun hq S hs hr => Z2e rfl rfl Z01 (Z6 ((hs 64 rfl).trans rfl) hq)) <| Sd (lg [65, 54] [] rfl fun hq S hs hr => Z0b (xs := [.tmp 65]) (Zi3 _ _ (Z2u hx15 hq)) Zj0 rfl rfl ⟨Z6 ((hs 65 rfl).trans rfl) hq, trivial⟩) <| Sd (lg [60, 66, 54] [] rfl fun hq S hs hr => Zux rfl rfl Y2e (by decide) rfl Yj5 (Z6 ((hs 60 rfl).trans rfl) hq) (Z6 ((hs 66 rfl).trans rfl) hq)) <| Sd (lo [67, 54] [] rfl fun S hs hr => Z4g rfl rfl (vh hs 54 rfl rfl) (vh hs 67 rfl rfl)) <| Sn ?_
    refine Cq rfl h (fun h => ?_) (fun h => ?_)
    ·refine SR <| Ab rfl <| Nl <| rt ?_
     cases h; exact Zc Tryz.results84 rfl (Z4 rfl)
    ·refine sk <| Rg <| Md rfl <| Ac (Z02 rfl rfl (vt rfl) (vk rfl)) rfl <| As rfl <| Nl ?_
     exact ⟨(_, _), Nat.lt_succ_self _, ⟨trivial, h⟩, FX rfl⟩
   ·refine xt <| SR <| Ab rfl <| Nl <| rt ?_
    cases h; exact Zc Tryz.results84 rfl (Z4 rfl)
def Zg0 (l1 : (List Rule)) : Nat → (List Z5) → Int → Option (List Z5)
 | 0, _, _ => none
 | m9 + 1, l6, i8 => (bif (decide (i8 < (l1.length : Int))) then (lget l1 i8).bind fun x10 => (Z0y l6 [x10.Cube]).bind fun l11 => (Zg0 l1 m9) l11 (IntKind.i64.wrap (i8 + 1)) else some l6)
def Zbu (l1 : (List Rule)) : Option (List Z5) :=
 Zg0 l1 ((((l1.length : Int) : Int) - 0).toNat + 1) [] 0
theorem Y0p (l1 : (List Rule)) (r : (List Z5)) (h : Zbu l1 = some r) : Con Tryz.prog 172 [rd (Z3 Zy) l1] emp (fun v => Zj v) (fun v => Zh v 87 (Z1 24 Z2) r) := by
 refine Con.intro0 Tryz.func172 rfl Tryz.ntmps172 rfl fun w H => ?_
 unfold Zbu at h
 refine sq <| AW.newnil 1001 87 (Z1 24 Z2) <| Rg <| Ac (Z04 rfl rfl vc) rfl <| Nl <| SR <| Cv rfl (Z43 1002 (ps := []) (l := []) rfl rfl Z1v Z0n rfl rfl rfl rfl) fun v2 => Aw rfl <| Nl <| sq <| SR <| Ak rfl <| Nl <| bk <| LG (d := []) (ν := Nat × (List Z5) × Int × Value) (fun (m9, l6, i8, v7) => (True ∧ Zg0 l1 m9 l6 i8 = some r, m9, [(0, rd (Z3 Zy) l1), (3, Zj v7), (4, rd (Z0 .i64) i8)], [(1002, Zh v7 87 (Z1 24 Z2) l6)])) (((((l1.length : Int) : Int) - 0).toNat + 1), [], 0, v2) ⟨trivial, h⟩ (FX rfl) ?_
 rintro ⟨m9, l6, i8, v7⟩ ⟨hsf1, h⟩
 dsimp only at h ⊢
 cases m9 with
 | zero => cases h
 | succ m9 =>
  unfold Zg0 at h
  refine sq <| SR <| Md rfl <| Md rfl <| Ac (Z09 rfl rfl Z1m (vt rfl)) rfl <| Ac (Zl rfl rfl (vt rfl) (vt rfl)) rfl <| Nl <| Cq rfl h (fun h => ?_) (fun h => ?_)
  ·refine sk <| sq <| bk ?_
   obtain ⟨x10, hx10, l11, hl11, h⟩ := bs2 h
   refine Rg <| Mw rfl <| Md rfl <| Md rfl <| Ac (Z03 rfl rfl Z1m (vt rfl) (vt rfl) hx10) rfl <| Fp lRule_0 Z7e rfl <| Lp1 Zv rfl <| Ac (osl Z1v Z0n rfl (vt rfl)) rfl <| Cv rfl (Z29 1002 hl11 rfl rfl Zfk (vt rfl) rfl (vt rfl)) fun v12 => Aw rfl <| Nl <| Rg <| Md rfl <| Ac (Z02 rfl rfl (vt rfl) (vk rfl)) rfl <| As rfl <| Nl ?_
   exact ⟨(_, _, _, _), Nat.lt_succ_self _, ⟨trivial, h⟩, FX rfl⟩
  ·refine xt <| SR <| Mw rfl <| Aw rfl <| Nl <| rt ?_
   cases h; exact Z50 (i := 1002) Tryz.results172 rfl rfl rfl
theorem Y8s (l1 : (List Rule)) (r : (List Z5)) (h : Zbu l1 = some r) : PCon Tryz.prog 172 [rd (Z3 Zy) l1] (rd (Z3 (Z1 24 Z2)) r) := PCon.of_row (Y0p l1 r h)
end Go.Proofs.YtknpgojdkobgjaaGreat.W
set_option maxRecDepth 4000
namespace Go.Proofs.YtknpgojdkobgjaaGreat.W
open Go Go.Wb
theorem Zp7 : Ent Tryz.prog 323 := Ent.mk Tryz.func323 rfl rfl
theorem Yf8 : Ent Tryz.prog 295 := Ent.mk Tryz.func295 rfl rfl
theorem Y84 : Ent Tryz.prog 249 := Ent.mk Tryz.func249 rfl rfl
theorem Y68 : Ent Tryz.prog 250 := Ent.mk Tryz.func250 rfl rfl
theorem Zuo : Ent Tryz.prog 172 := Ent.mk Tryz.func172 rfl rfl
theorem Y7b : Ent Tryz.prog 186 := Ent.mk Tryz.func186 rfl rfl
theorem Y6w : Ent Tryz.prog 118 := Ent.mk Tryz.func118 rfl rfl
theorem e59 : Ent Tryz.prog 59 := Ent.mk Tryz.func59 rfl rfl
def Zd3 (l2 : (List Z5)) (x1 : Z5) : Nat → (List Z5) → Int → Option (List Z5)
 | 0, _, _ => none
 | m11 + 1, l8, i10 => (bif (decide (i10 < (l2.length : Int))) then (lget l2 i10).bind fun x12 => (Z78 x1 x12).bind fun x13 => (bif x13.2 then (lget l2 i10).bind fun x15 => (Z0y l8 [x15]).bind fun l16 => (Zd3 l2 x1 m11) l16 (IntKind.i64.wrap (i10 + 1)) else (Zd3 l2 x1 m11) l8 (IntKind.i64.wrap (i10 + 1))) else some l8)
def Zp3 (x1 : Z5) (l2 : (List Z5)) : Option (List Z5) :=
 Zd3 l2 x1 ((((l2.length : Int) : Int) - 0).toNat + 1) [] 0
theorem Y33 : Q2 Tryz.prog 249 (rd (Z1 24 Z2)) (rd (Z3 (Z1 24 Z2))) (rd (Z3 (Z1 24 Z2))) Zp3 := fun x1 l2 r h => I0 Tryz.func249 rfl Tryz.ntmps249 rfl fun w H => by
 unfold Zp3 at h
 refine SR <| Cv rfl (Zn 3 rfl rfl (vt rfl)) fun g3 => Ac (Z04 (A := rd (Z3 (Z1 24 Z2)) []) rfl rfl Z26) rfl <| Nl <| SR <| Cv rfl (Z43 1001 (ps := []) (l := []) rfl rfl Z1v Z0n rfl rfl rfl rfl) fun v4 => Aw rfl <| Nl <| sq <| SR <| Ak rfl <| Nl <| bk <| LG (d := []) (ν := Nat × (List Z5) × Int × Value) (fun (m11, l8, i10, v9) => (True ∧ Zd3 l2 x1 m11 l8 i10 = some r, m11, [(1, rd (Z3 (Z1 24 Z2)) l2), (2, Ze g3 (Lens.id (Z1 24 Z2))), (5, Zj v9), (6, rd (Z0 .i64) i10)], [(3, Zf g3 87 (Z1 24 Z2) x1), (1001, Zh v9 87 (Z1 24 Z2) l8)])) (((((l2.length : Int) : Int) - 0).toNat + 1), [], 0, v4) ⟨trivial, h⟩ (FX rfl) ?_
 rintro ⟨m11, l8, i10, v9⟩ ⟨hsf1, h⟩
 dsimp only at h ⊢
 cases m11 with
 | zero => cases h
 | succ m11 =>
  unfold Zd3 at h
  refine sq <| SR <| Md rfl <| Md rfl <| Ac (Z09 rfl rfl Z1v (vt rfl)) rfl <| Ac (Zl rfl rfl (vt rfl) (vt rfl)) rfl <| Nl <| Cq rfl h (fun h => ?_) (fun h => ?_)
  ·refine sk <| sq <| bk <| sq ?_
   obtain ⟨x12, hx12, x13, hx13, h⟩ := bs2 h
   refine AR Zz (by kernel_rfl) <| Zu Zv 3 rfl <| Zg rfl <| Zg rfl <| Sd (lo [18, 19] [] rfl fun S hs hr => Z03 rfl rfl Z1v (vh hs 18 rfl rfl) (vh hs 19 rfl rfl) hx12) <| SLp Zv rfl <| SCl [17, 21] (Zny _ _ _ hx13) Zll rfl <| Sd (lo [22] [] rfl fun S hs hr => Zk (A := Z1c (rd (Z1 24 Z2) x13.1) (rd Z7 x13.2)) rfl rfl (vh hs 22 rfl rfl)) <| Sd (lo [16] [] rfl fun S hs hr => Z1j rfl rfl (vh hs 16 rfl rfl)) <| Sd (lo [16] [] rfl fun S hs hr => Z1i rfl rfl (vh hs 16 rfl rfl)) <| Sd (Z11 (us := [(7, Z1u 87 (Z1 24 Z2) (Vector.replicate 24 zTern))]) (ur := []) [] [] rfl fun S hs hr => Z4t rfl rfl rfl Z0n) <| Sd (Z11 (us := [(7, Z1u 87 (Z1 24 Z2) x13.1)]) (ur := []) [7, 23] [] rfl fun S hs hr => Z54 rfl rfl Zv ((hs 7 rfl).trans rfl) (vh hs 23 rfl rfl)) <| SAs rfl <| Sn <| AW.unpackP 7 8 rfl rfl fun g14 => SR <| Md rfl <| Nl <| Cq rfl h (fun h => ?_) (fun h => ?_)
   ·obtain ⟨x15, hx15, l16, hl16, h⟩ := bs2 h
    refine Rg <| Mw rfl <| Md rfl <| Md rfl <| Ac (Z03 rfl rfl Z1v (vt rfl) (vt rfl) hx15) rfl <| Lp1 Zv rfl <| Ac (osl Z1v Z0n rfl (vt rfl)) rfl <| Cv rfl (Z29 1001 hl16 rfl rfl Zfk (vt rfl) rfl (vt rfl)) fun v17 => Aw rfl <| Nl <| Rg <| Md rfl <| Ac (Z02 rfl rfl (vt rfl) (vk rfl)) rfl <| As rfl <| Nl ?_
    exact ⟨(_, _, _, _), Nat.lt_succ_self _, ⟨trivial, h⟩, FX rfl⟩
   ·refine sk <| Rg <| Md rfl <| Ac (Z02 rfl rfl (vt rfl) (vk rfl)) rfl <| As rfl <| Nl ?_
    exact ⟨(_, _, _, _), Nat.lt_succ_self _, ⟨trivial, h⟩, FX rfl⟩
  ·refine xt <| SR <| Mw rfl <| Aw rfl <| Nl <| AW.freezes [4, 5, 33] 1001 rfl ⟨rfl, rfl, rfl, trivial⟩ rfl <| rt ?_
   cases h; exact Zc Tryz.results249 rfl (Z4 rfl)
def Z94 (a1 : Wide) (i2 : Int) : Option Bool :=
 (Z7j i2).bind fun x4 => (Z9h a1 x4).bind fun x5 => (Z90 x5).bind fun x6 => some (!x6)
theorem Zn1 : Q2 Tryz.prog 323 (rd Zp) (rd (Z0 .i64)) (rd Z7) Z94 := fun a1 i2 r h => I0 Tryz.func323 rfl Tryz.ntmps323 rfl fun w H => by
 unfold Z94 at h
 refine SR <| Cv rfl (Zn 3 rfl rfl (vt rfl)) fun g3 => Ab rfl <| Nl <| sq ?_
 obtain ⟨x4, hx4, x5, hx5, x6, hx6, h⟩ := bs3 h
 refine AR Zz (by kernel_rfl) <| Zu Zs 3 rfl <| Zg rfl <| SCl [6] (Zin _ _ hx4) Zhb rfl <| SCl [5, 7] (Zhm _ _ _ hx5) Zho rfl <| SCl [8] (Zo3 _ _ hx6) Znz rfl <| Sd (lo [9] [] rfl fun S hs hr => Z0s rfl rfl (vh hs 9 rfl rfl)) <| SAs rfl <| Sn <| rt ?_
 cases h; exact Zc Tryz.results323 rfl (Z4 rfl)
def Zbv (a1 : Wide) : Nat → Int → Int → Option Int
 | 0, _, _ => none
 | m7 + 1, n5, i6 => (bif (decide (i6 < 128)) then (Z94 a1 i6).bind fun x8 => (bif x8 then (Zbv a1 m7) (IntKind.i64.wrap (n5 + 1)) (IntKind.i64.wrap (i6 + 1)) else (Zbv a1 m7) n5 (IntKind.i64.wrap (i6 + 1))) else some n5)
def Zio (a1 : Wide) : Option Int :=
 Zbv a1 (((128 : Int) - 0).toNat + 1) 0 0
theorem Ydw : Q1 Tryz.prog 295 (rd Zp) (rd (Z0 .i64)) Zio := fun a1 r h => I0 Tryz.func295 rfl Tryz.ntmps295 rfl fun w H => by
 unfold Zio at h
 refine SR <| Cv rfl (Zn 2 rfl rfl (vt rfl)) fun g2 => Ak rfl <| Nl <| SR <| Ak rfl <| Nl <| sq <| SR <| Ak rfl <| Nl <| bk <| LG (d := []) (ν := Nat × Int × Int) (fun (m7, n5, i6) => (True ∧ Zbv a1 m7 n5 i6 = some r, m7, [(1, Ze g2 (Lens.id Zp)), (3, rd (Z0 .i64) n5), (4, rd (Z0 .i64) i6)], [(2, Zf g2 42 Zp a1)])) ((((128 : Int) - 0).toNat + 1), 0, 0) ⟨trivial, h⟩ (FX rfl) ?_
 rintro ⟨m7, n5, i6⟩ ⟨hsf1, h⟩
 dsimp only at h ⊢
 cases m7 with
 | zero => cases h
 | succ m7 =>
  unfold Zbv at h
  refine sq <| SR <| Md rfl <| Ac (Zl rfl rfl (vt rfl) (vk rfl)) rfl <| Nl <| Cq rfl h (fun h => ?_) (fun h => ?_)
  ·refine sk <| sq <| bk <| sq ?_
   obtain ⟨x8, hx8, h⟩ := Za h
   refine Rg <| Ld Zs 2 rfl <| Md rfl <| Cl [9, 10] (Zn1 _ _ _ hx8) Zp7 rfl <| Nl <| Cq rfl h (fun h => ?_) (fun h => ?_)
   ·refine Rg <| Md rfl <| Ac (Z02 rfl rfl (vt rfl) (vk rfl)) rfl <| As rfl <| Nl <| Rg <| Md rfl <| Ac (Z02 rfl rfl (vt rfl) (vk rfl)) rfl <| As rfl <| Nl ?_
    exact ⟨(_, _, _), Nat.lt_succ_self _, ⟨trivial, h⟩, FX rfl⟩
   ·refine sk <| Rg <| Md rfl <| Ac (Z02 rfl rfl (vt rfl) (vk rfl)) rfl <| As rfl <| Nl ?_
    exact ⟨(_, _, _), Nat.lt_succ_self _, ⟨trivial, h⟩, FX rfl⟩
  ·refine xt <| SR <| Md rfl <| As rfl <| Nl <| rt ?_
   cases h; exact Zc Tryz.results295 rfl (Z4 rfl)
def Zgh (x1 : Z5) : Nat → Int → Int → Option Int
 | 0, _, _ => none
 | m7 + 1, n5, x6 => (bif (decide (x6 < 24)) then (chk 24 x6).bind fun j8 => (Zio ((Vector.get x1 j8).Mask)).bind fun x9 => (Zgh x1 m7) (IntKind.i64.wrap (n5 + x9)) (IntKind.i64.wrap (x6 + 1)) else some n5)
def Zla (x1 : Z5) : Option Int :=
 Zgh x1 (((24 : Int) - 0).toNat + 1) 0 0
theorem Yhd : Q1 Tryz.prog 250 (rd (Z1 24 Z2)) (rd (Z0 .i64)) Zla := fun x1 r h => I0 Tryz.func250 rfl Tryz.ntmps250 rfl fun w H => by
 unfold Zla at h
 refine SR <| Cv rfl (Zn 2 rfl rfl (vt rfl)) fun g2 => Ak rfl <| Nl <| SR <| Ak rfl <| Nl <| sq <| SR <| Ak rfl <| Nl <| bk <| LG (d := []) (ν := Nat × Int × Int) (fun (m7, n5, x6) => (True ∧ Zgh x1 m7 n5 x6 = some r, m7, [(1, Ze g2 (Lens.id (Z1 24 Z2))), (3, rd (Z0 .i64) n5), (4, rd (Z0 .i64) x6)], [(2, Zf g2 87 (Z1 24 Z2) x1)])) ((((24 : Int) - 0).toNat + 1), 0, 0) ⟨trivial, h⟩ (FX rfl) ?_
 rintro ⟨m7, n5, x6⟩ ⟨hsf1, h⟩
 dsimp only at h ⊢
 cases m7 with
 | zero => cases h
 | succ m7 =>
  unfold Zgh at h
  refine sq <| SR <| Md rfl <| Ac (Zl rfl rfl (vt rfl) (vk rfl)) rfl <| Nl <| Cq rfl h (fun h => ?_) (fun h => ?_)
  ·refine sk <| sq <| bk ?_
   obtain ⟨j8, hj8, x9, hx9, h⟩ := bs2 h
   refine Rg <| Md rfl <| Md rfl <| Ac (Z0v rfl rfl Z1d (vt rfl) (vt rfl) hj8) rfl <| Zt lTern_1 Z1h rfl <| Ld Zs 2 rfl <| Cl [13] (Ydw _ _ hx9) Yf8 rfl <| Ac (Z02 rfl rfl (vt rfl) (vt rfl)) rfl <| As rfl <| Nl <| Rg <| Md rfl <| Ac (Z02 rfl rfl (vt rfl) (vk rfl)) rfl <| As rfl <| Nl ?_
   exact ⟨(_, _, _), Nat.lt_succ_self _, ⟨trivial, h⟩, FX rfl⟩
  ·refine xt <| SR <| Md rfl <| As rfl <| Nl <| rt ?_
   cases h; exact Zc Tryz.results250 rfl (Z4 rfl)
def Zgl (x4 : (List Z5)) : Nat → Int → Int → Option Int
 | 0, _, _ => none
 | m9 + 1, n7, i8 => (bif (decide (i8 < (x4.length : Int))) then (lget x4 i8).bind fun x10 => (Zla x10).bind fun x11 => (Zgl x4 m9) (Z46 (IntKind.i64.wrap (n7 * (Z1t x11 1))) 1099511627776) (IntKind.i64.wrap (i8 + 1)) else some n7)
def Zi2 (x1 : Z5) (l2 : (List Z5)) : Option Int :=
 (Zp3 x1 l2).bind fun x4 => Zgl x4 ((((x4.length : Int) : Int) - 0).toNat + 1) (Z46 (IntKind.i64.wrap ((x4.length : Int) + 1)) 1099511627776) 0
theorem Y6x : Q2 Tryz.prog 186 (rd (Z1 24 Z2)) (rd (Z3 (Z1 24 Z2))) (rd (Z0 .i64)) Zi2 := fun x1 l2 r h => I0 Tryz.func186 rfl Tryz.ntmps186 rfl fun w H => by
 unfold Zi2 at h
 refine SR <| Cv rfl (Zn 3 rfl rfl (vt rfl)) fun g3 => Ak rfl <| Nl <| sq ?_
 obtain ⟨x4, hx4, h⟩ := Za h
 refine Rg <| Ld Zv 3 rfl <| Md rfl <| Cl [8, 9] (Y33 _ _ _ hx4) Y84 rfl <| As rfl <| Nl <| SR <| Md rfl <| Ac (Z09 rfl rfl Z1v (vt rfl)) rfl <| Ac (Z02 rfl rfl (vt rfl) (vk rfl)) rfl <| Ac (Ziw rfl rfl (vt rfl) (vk rfl)) rfl <| As rfl <| Nl <| sq <| SR <| Ak rfl <| Nl <| bk <| LG (d := []) (ν := Nat × Int × Int) (fun (m9, n7, i8) => (True ∧ Zgl x4 m9 n7 i8 = some r, m9, [(5, rd (Z3 (Z1 24 Z2)) x4), (6, rd (Z0 .i64) n7), (7, rd (Z0 .i64) i8)], [])) (((((x4.length : Int) : Int) - 0).toNat + 1), (Z46 (IntKind.i64.wrap ((x4.length : Int) + 1)) 1099511627776), 0) ⟨trivial, h⟩ (FX rfl) ?_
 rintro ⟨m9, n7, i8⟩ ⟨hsf1, h⟩
 dsimp only at h ⊢
 cases m9 with
 | zero => cases h
 | succ m9 =>
  unfold Zgl at h
  refine sq <| SR <| Md rfl <| Md rfl <| Ac (Z09 rfl rfl Z1v (vt rfl)) rfl <| Ac (Zl rfl rfl (vt rfl) (vt rfl)) rfl <| Nl <| Cq rfl h (fun h => ?_) (fun h => ?_)
  ·refine sk <| sq <| bk ?_
   obtain ⟨x10, hx10, x11, hx11, h⟩ := bs2 h
   refine Rg <| Md rfl <| Md rfl <| Md rfl <| Ac (Z03 rfl rfl Z1v (vt rfl) (vt rfl) hx10) rfl <| Lp1 Zv rfl <| Cl [25] (Yhd _ _ hx11) Y68 rfl <| Ac (Z8y rfl rfl (vt rfl) (vk rfl)) rfl <| Ac (Z7i rfl rfl (vt rfl) (vt rfl)) rfl <| Ac (Ziw rfl rfl (vt rfl) (vk rfl)) rfl <| As rfl <| Nl <| Rg <| Md rfl <| Ac (Z02 rfl rfl (vt rfl) (vk rfl)) rfl <| As rfl <| Nl ?_
   exact ⟨(_, _, _), Nat.lt_succ_self _, ⟨trivial, h⟩, FX rfl⟩
  ·refine xt <| SR <| Md rfl <| As rfl <| Nl <| rt ?_
   cases h; exact Zc Tryz.results186 rfl (Z4 rfl)
def Zez (l1 : (List Rule)) : Nat → Int → Int → Option Int
 | 0, _, _ => none
 | m6 + 1, n4, i5 => (bif (decide (i5 < (l1.length : Int))) then (lget l1 i5).bind fun x7 => (Z4m l1 i5).bind fun s8 => (Zbu s8).bind fun x9 => (Zi2 x7.Cube x9).bind fun x10 => (Zez l1 m6) (Z1t n4 x10) (IntKind.i64.wrap (i5 + 1)) else some n4)
def Zkq (l1 : (List Rule)) : Option Int :=
 Zez l1 ((((l1.length : Int) : Int) - 0).toNat + 1) 0 0
theorem Ygs : Q1 Tryz.prog 118 (rd (Z3 Zy)) (rd (Z0 .i64)) Zkq := fun l1 r h => I0 Tryz.func118 rfl Tryz.ntmps118 rfl fun w H => by
 unfold Zkq at h
 refine SR <| Ak rfl <| Nl <| SR <| Ak rfl <| Nl <| sq <| SR <| Ak rfl <| Nl <| bk <| LG (d := []) (ν := Nat × Int × Int) (fun (m6, n4, i5) => (True ∧ Zez l1 m6 n4 i5 = some r, m6, [(0, rd (Z3 Zy) l1), (3, rd (Z0 .i64) n4), (4, rd (Z0 .i64) i5)], [])) (((((l1.length : Int) : Int) - 0).toNat + 1), 0, 0) ⟨trivial, h⟩ (FX rfl) ?_
 rintro ⟨m6, n4, i5⟩ ⟨hsf1, h⟩
 dsimp only at h ⊢
 cases m6 with
 | zero => cases h
 | succ m6 =>
  unfold Zez at h
  refine sq <| SR <| Md rfl <| Md rfl <| Ac (Z09 rfl rfl Z1m (vt rfl)) rfl <| Ac (Zl rfl rfl (vt rfl) (vt rfl)) rfl <| Nl <| Cq rfl h (fun h => ?_) (fun h => ?_)
  ·refine sk <| sq <| bk ?_
   obtain ⟨x7, hx7, s8, hs8, x9, hx9, x10, hx10, h⟩ := bs4 h
   refine AR Zz (by kernel_rfl) <| Zg rfl <| Zg rfl <| Zg rfl <| Sd (lo [12, 13] [] rfl fun S hs hr => Z03 rfl rfl Z1m (vh hs 12 rfl rfl) (vh hs 13 rfl rfl) hx7) <| SFp lRule_0 Z7e rfl <| SLp Zv rfl <| Zg rfl <| Zg rfl <| Sd (lo [17, 18] [] rfl fun S hs hr => Zyz hs8 rfl rfl Z1m (vh hs 17 rfl rfl) (vh hs 18 rfl rfl)) <| SCl [19] (Y8s _ _ hx9) Zuo rfl <| SCl [16, 20] (Y6x _ _ _ hx10) Y7b rfl <| Sd (lo [11, 21] [] rfl fun S hs hr => Z8y rfl rfl (vh hs 11 rfl rfl) (vh hs 21 rfl rfl)) <| SAs rfl <| Sn <| Rg <| Md rfl <| Ac (Z02 rfl rfl (vt rfl) (vk rfl)) rfl <| As rfl <| Nl ?_
   exact ⟨(_, _, _), Nat.lt_succ_self _, ⟨trivial, h⟩, FX rfl⟩
  ·refine xt <| SR <| Md rfl <| As rfl <| Nl <| rt ?_
   cases h; exact Zc Tryz.results118 rfl (Z4 rfl)
def Zd5 (s1 : Switch) : Option Int :=
 (Zc3 s1).bind fun x3 => (Zkq x3).bind fun x4 => some x4
theorem Y1z : Q1 Tryz.prog 59 (rd Z0p) (rd (Z0 .i64)) Zd5 := fun s1 r h => I0 Tryz.func59 rfl Tryz.ntmps59 rfl fun w H => by
 unfold Zd5 at h
 refine SR <| Cv rfl (Zn 2 rfl rfl (vt rfl)) fun g2 => Ak rfl <| Nl <| sq ?_
 obtain ⟨x3, hx3, x4, hx4, h⟩ := bs2 h
 refine Rg <| Ld Z3e 2 rfl <| Cl [3] (Y03 _ _ hx3) e23 rfl <| Cl [4] (Ygs _ _ hx4) Y6w rfl <| As rfl <| Nl <| rt ?_
 cases h; exact Zc Tryz.results59 rfl (Z4 rfl)
def Zni (s1 : Switch) (m2 : Int) : Option Bool :=
 (Zle s1 3).bind fun x4 => (opt ((x4 == true) && ((decide (m2 ≤ 1024)) == false)) (Zd5 s1)).bind fun x5 => some (x4 && ((decide (m2 ≤ 1024)) || (decide (x5 ≤ 4096))))
theorem Yho : Q2 Tryz.prog 52 (rd Z0p) (rd (Z0 .i64)) (rd Z7) Zni := fun s1 m2 r h => I0 Tryz.func52 rfl Tryz.ntmps52 rfl fun w H => by
 unfold Zni at h
 refine SR <| Cv rfl (Zn 3 rfl rfl (vt rfl)) fun g3 => Ab rfl <| Nl <| sq ?_
 obtain ⟨x4, hx4, x5, hx5, h⟩ := bs2 h
 refine Rg <| Ld Z3e 3 rfl <| Ac (Z0b (xs := [.tmp 5, .const (Value.int IntKind.i64 3)]) (Yeq _ _ _ hx4) e21 rfl rfl ⟨vt rfl, vk rfl, trivial⟩) rfl <| Md rfl <| Gd rfl (fun hq => Zk (A := rd (Z0 .i64) m2) rfl rfl (vt rfl)) <| Gd rfl (fun hq => Z64 rfl rfl (Z6 rfl hq) (vk rfl)) <| AOps.consG (OpG.guardX rfl rfl rfl rfl rfl fun hq => Zk (A := rd Z7 (decide (m2 ≤ 1024))) rfl rfl (Z6 rfl hq)) <| AOps.consG (OpG.guardN rfl rfl rfl rfl rfl fun hq => Z0g rfl rfl Z3e (vt rfl) (i := 3) rfl) <| AOps.consG (OpG.guardN rfl rfl rfl rfl rfl fun hq => Z0b (xs := [.tmp 11]) (Y1z _ _ (Yc5 hx5 hq)) e59 rfl rfl ⟨Z6 rfl hq, trivial⟩) <| AOps.consG (OpG.guardN rfl rfl rfl rfl rfl fun hq => Z64 rfl rfl (Z6 rfl hq) (vk rfl)) <| Gd rfl (fun hq => Z4g rfl rfl (vgx rfl hq) (vgw rfl hq)) <| Ac (Z0o rfl rfl (vt rfl) (vt rfl)) rfl <| As rfl <| Nl <| rt ?_
 cases h; exact Zc Tryz.results52 rfl (Z4 rfl)
def Zj7 (p1 : cover_purse) : Option (Bool × cover_purse) :=
 (bif p1.free then some (true, p1) else some ((decide (({ p1 with left := (IntKind.i64.wrap (p1.left - 1)) }.left) ≥ 0)), { p1 with left := (IntKind.i64.wrap (p1.left - 1)) }))
theorem Y2n (g2 gT : Nat) (p1 : cover_purse) (r : (Bool × cover_purse)) (h : Zj7 p1 = some r) : Con Tryz.prog 278 [Ze g2 (Lens.id Z5k)] (Zf g2 gT Z5k p1) (fun _ : Unit => rd Z7 r.1) (fun _ => Zf g2 gT Z5k r.2) := by
 refine Con.intro Tryz.func278 rfl Tryz.ntmps278 rfl fun w H X => ?_
 unfold Zj7 at h
 refine SR <| Ab rfl <| Nl <| sq <| SR <| Mp rfl <| Nc rfl <| Zt lcover_purse_1 Y3b rfl <| Ld ty4 0 rfl <| Nl <| Cq rfl h (fun h => ?_) (fun h => ?_)
 ·refine SR <| Ab rfl <| Nl <| rt ?_
  cases h; exact Zmi (i := 0) Tryz.results278 rfl (Z4 rfl) rfl
 ·refine sk <| SR <| Mp rfl <| Nc rfl <| Zt lcover_purse_0 Zry rfl <| Ld Zq 0 rfl <| Ac (Z0i rfl rfl (vt rfl) (vk rfl)) rfl <| Nc rfl <| Zt lcover_purse_0 Zry rfl <| Zd Zq 0 rfl <| Nl <| SR <| Mp rfl <| Nc rfl <| Zt lcover_purse_0 Zry rfl <| Ld Zq 0 rfl <| Ac (Z57 rfl rfl (vt rfl) (vk rfl)) rfl <| As rfl <| Nl <| rt ?_
  cases h; exact Zmi (i := 0) Tryz.results278 rfl (Z4 rfl) rfl
end Go.Proofs.YtknpgojdkobgjaaGreat.W
set_option maxRecDepth 4000
namespace Go.Proofs.YtknpgojdkobgjaaGreat.W
open Go Go.Wb
theorem Y8h : Ent Tryz.prog 337 := Ent.mk Tryz.func337 rfl rfl
theorem Ye1 : Ent Tryz.prog 316 := Ent.mk Tryz.func316 rfl rfl
theorem Zy8 : Ent Tryz.prog 331 := Ent.mk Tryz.func331 rfl rfl
theorem Zvj : Ent Tryz.prog 294 := Ent.mk Tryz.func294 rfl rfl
theorem Y21 : Ent Tryz.prog 319 := Ent.mk Tryz.func319 rfl rfl
def Zhk (a1 : Tern) (b2 : Tern) : Option Bool :=
 (Zal b2.Mask a1.Mask).bind fun x5 => (Zf3 x5).bind fun x6 => (opt x6 (Zha b2 a1.Value)).bind fun x7 => some (x6 && x7)
theorem Yj8 : Q2 Tryz.prog 337 (rd Z2) (rd Z2) (rd Z7) Zhk := fun a1 b2 r h => I0 Tryz.func337 rfl Tryz.ntmps337 rfl fun w H => by
 unfold Zhk at h
 refine SR <| Cv rfl (Zn 3 rfl rfl (vt rfl)) fun g3 => Cv rfl (Zn 4 rfl rfl (vt rfl)) fun g4 => Ab rfl <| Nl <| sq ?_
 obtain ⟨x5, hx5, x6, hx6, x7, hx7, h⟩ := bs3 h
 refine Rg <| Zt lTern_1 Z1h rfl <| Ld Zs 4 rfl <| Zt lTern_1 Z1h rfl <| Ld Zs 3 rfl <| Cl [6, 8] (Zh1 _ _ _ hx5) Zhi rfl <| Cl [9] (Zpd _ _ hx6) Zqt rfl <| Md rfl <| Gd rfl (fun hq => Z0g rfl rfl Zw (vt rfl) (i := 4) rfl) <| Gd rfl (fun hq => Z0t lTern_0 rfl rfl Z1y (vt rfl)) <| Gd rfl (fun hq => Z0g rfl rfl Zs (Z6 rfl hq) (i := 3) rfl) <| Gd rfl (fun hq => Z0b (xs := [.tmp 12, .tmp 14]) (Y00 _ _ _ (Z16 hx7 hq)) Y1w rfl rfl ⟨Z6 rfl hq, Z6 rfl hq, trivial⟩) <| Ac (Z0o rfl rfl (vt rfl) (vt rfl)) rfl <| As rfl <| Nl <| rt ?_
 cases h; exact Zc Tryz.results337 rfl (Z4 rfl)
def Za2 (b2 : Z5) : (List Tern) → Nat → Option Bool
 | [], i5 => some true
 | x7 :: l6, i5 => (chk 24 (i5 : Int)).bind fun j9 => (Zhk x7 (Vector.get b2 j9)).bind fun x10 => (bif (!x10) then some false else (Za2 b2 l6) (i5 + 1))
def Zk9 (a1 : Z5) (b2 : Z5) : Option Bool :=
 Za2 b2 (Vector.toList a1) 0
theorem Ycp : Q2 Tryz.prog 316 (rd (Z1 24 Z2)) (rd (Z1 24 Z2)) (rd Z7) Zk9 := fun a1 b2 r h => I0 Tryz.func316 rfl Tryz.ntmps316 rfl fun w H => by
 unfold Zk9 at h
 refine SR <| Cv rfl (Zn 3 rfl rfl (vt rfl)) fun g3 => Cv rfl (Zn 4 rfl rfl (vt rfl)) fun g4 => Ab rfl <| Nl <| sq <| SR <| Ld Zv 3 rfl <| Mk rfl <| Nl <| bk <| LG (d := []) (ν := (List Tern) × Nat) (fun (l6, i5) => (Sfx (Vector.toList a1) i5 l6 ∧ Za2 b2 l6 i5 = some r, l6.length, [(3, Ze g4 (Lens.id (Z1 24 Z2))), (7, rd (Z1 24 Z2) a1), (8, rd (Z0 .i64) (i5 : Int))], [(4, Zf g4 87 (Z1 24 Z2) b2)])) ((Vector.toList a1), 0) ⟨Sfx.start _, h⟩ (FX rfl) ?_
 rintro ⟨l6, i5⟩ ⟨hsf1, h⟩
 dsimp only at hsf1 h ⊢
 cases l6 with
 | nil =>
  unfold Za2 at h
  refine SR <| Ac (Zl rfl rfl (vt rfl) (vk rfl)) rfl <| Nl <| sq <| Cn rfl (fun hc => absurd (of_decide_eq_true hc) (hsf1.niln (by simp))) (fun hc => ?_)
  refine xt <| SR <| Ab rfl <| Nl <| rt ?_
  cases h; exact Zc Tryz.results316 rfl (Z4 rfl)
 | cons x7 l6 =>
  unfold Za2 at h
  refine SR <| Ac (Zl rfl rfl (vt rfl) (vk rfl)) rfl <| Nl <| sq <| Cn rfl (fun hc => ?_) (fun hc => absurd (hsf1.consn (by simp)) (of_decide_eq_false hc))
  have hlti5 := of_decide_eq_true hc
  refine sk <| sq <| bk <| SR <| Md rfl <| Ac (Zdd rfl rfl Z1d Zw (vt rfl) (vt rfl) hsf1.lget) rfl <| Cv rfl (Zo 7 rfl rfl Z17) fun g8 => As rfl <| Zd Zw 7 rfl <| Nl <| sq ?_
  obtain ⟨j9, hj9, x10, hx10, h⟩ := bs2 h
  refine AR Zz (by kernel_rfl) <| Zu Zw 7 rfl <| Zg rfl <| Sd (lo [3, 13] [] rfl fun S hs hr => Z0v rfl rfl Z1d (vh hs 3 rfl rfl) (vh hs 13 rfl rfl) hj9) <| Zu Zw 4 rfl <| SCl [12, 15] (Yj8 _ _ _ hx10) Y8h rfl <| Sd (lo [16] [] rfl fun S hs hr => Z0s rfl rfl (vh hs 16 rfl rfl)) <| Sn <| Cq rfl h (fun h => ?_) (fun h => ?_)
  ·refine SR <| Ab rfl <| Nl <| rt ?_
   cases h; exact Zc Tryz.results316 rfl (Z4 rfl)
  ·refine sk <| Rg <| Ac (Z70 rfl rfl (vt rfl) (vk rfl) rfl hlti5) rfl <| Md rfl <| Nl ?_
   exact ⟨(_, _), Nat.lt_succ_self _, ⟨hsf1.next, h⟩, FX rfl⟩
def Z7g (x1 : Z5) : (List Z5) → Nat → Int → Option (Bool × Int)
 | [], i6, x5 => some (false, x5)
 | x8 :: l7, i6, x5 => (Z7s x1 x8).bind fun x10 => (bif (!x10.2) then (Z7g x1 l7) (i6 + 1) x5 else (Zk9 x1 x8).bind fun x12 => (bif x12 then some (true, (i6 : Int)) else (bif (decide (x5 < 0)) then (Z7g x1 l7) (i6 + 1) (i6 : Int) else (Z7g x1 l7) (i6 + 1) x5)))
def Zlq (x1 : Z5) (l2 : (List Z5)) : Option (Bool × Int) :=
 Z7g x1 l2 0 (-1)
theorem Y71 : Q2 Tryz.prog 279 (rd (Z1 24 Z2)) (rd (Z3 (Z1 24 Z2))) (fun r => Z1c (rd Z7 r.1) (rd (Z0 .i64) r.2)) Zlq := fun x1 l2 r h => I0 Tryz.func279 rfl Tryz.ntmps279 rfl fun w H => by
 unfold Zlq at h
 refine SR <| Cv rfl (Zn 3 rfl rfl (vt rfl)) fun g3 => Ab rfl <| Ak rfl <| Nl <| SR <| Ak rfl <| Nl <| sq <| SR <| Md rfl <| Ac (Z09 rfl rfl Z1v (vt rfl)) rfl <| Mk rfl <| Nl <| bk <| LG (d := []) (ν := (List Z5) × Nat × Int) (fun (l7, i6, x5) => (Sfx l2 i6 l7 ∧ Z7g x1 l7 i6 x5 = some r, l7.length, [(2, Ze g3 (Lens.id (Z1 24 Z2))), (6, rd (Z0 .i64) x5), (11, rd (Z3 (Z1 24 Z2)) l2), (12, rd (Z0 .i64) (l2.length : Int)), (13, rd (Z0 .i64) (i6 : Int))], [(3, Zf g3 87 (Z1 24 Z2) x1)])) (l2, 0, (-1)) ⟨Sfx.start _, h⟩ (FX rfl) ?_
 rintro ⟨l7, i6, x5⟩ ⟨hsf1, h⟩
 dsimp only at hsf1 h ⊢
 cases l7 with
 | nil =>
  unfold Z7g at h
  refine SR <| Ac (Zl rfl rfl (vt rfl) (vt rfl)) rfl <| Nl <| sq <| Cn rfl (fun hc => absurd (of_decide_eq_true hc) hsf1.nil) (fun hc => ?_)
  refine xt <| SR <| Md rfl <| Ab rfl <| As rfl <| Nl <| rt ?_
  cases h; exact Z1x Tryz.results279 rfl (Z4 rfl) (Z4 rfl)
 | cons x8 l7 =>
  unfold Z7g at h
  refine SR <| Ac (Zl rfl rfl (vt rfl) (vt rfl)) rfl <| Nl <| sq <| Cn rfl (fun hc => ?_) (fun hc => absurd hsf1.cons (of_decide_eq_false hc))
  have hlti6 := of_decide_eq_true hc
  refine sk <| sq <| bk <| SR <| Md rfl <| Ac (Z03 rfl rfl Z1v (vt rfl) (vt rfl) hsf1.lget) rfl <| Lp1 Zv rfl <| Cv rfl (Zo 9 rfl rfl Z0n) fun g9 => As rfl <| Zd Zv 9 rfl <| Nl <| sq ?_
  obtain ⟨x10, hx10, h⟩ := Za h
  refine Rg <| Ld Zv 3 rfl <| Ld Zv 9 rfl <| Cl [19, 20] (Zot _ _ _ hx10) Zn9 rfl <| Mt2 rfl <| Ac (Z1j rfl rfl (vt rfl)) rfl <| Ac (Z1i rfl rfl (vt rfl)) rfl <| Cv rfl (Zo 10 rfl rfl Z0n) fun g11 => Zd Zv 10 rfl <| As rfl <| Nl <| bk <| SR <| Md rfl <| Ac (Z0s rfl rfl (vt rfl)) rfl <| As rfl <| Nl <| Cq rfl h (fun h => ?_) (fun h => ?_)
  ·refine sk <| Rg <| Ac (Z21 (t := 12) rfl rfl (vt rfl) (vk rfl) (vt rfl) hlti6) rfl <| Md rfl <| Nl ?_
   exact ⟨(_, _, _), Nat.lt_succ_self _, ⟨hsf1.next, h⟩, FX rfl⟩
  ·refine sq ?_
   obtain ⟨x12, hx12, h⟩ := Za h
   refine Rg <| Ld Zv 3 rfl <| Ld Zv 9 rfl <| Cl [28, 29] (Ycp _ _ _ hx12) Ye1 rfl <| As rfl <| Nl <| Cq rfl h (fun h => ?_) (fun h => ?_)
   ·refine SR <| Md rfl <| Ab rfl <| As rfl <| Nl <| rt ?_
    cases h; exact Z1x Tryz.results279 rfl (Z4 rfl) (Z4 rfl)
   ·refine SR <| Md rfl <| Ac (Zl rfl rfl (vt rfl) (vk rfl)) rfl <| As rfl <| Nl <| Cq rfl h (fun h => ?_) (fun h => ?_)
    ·refine Rg <| Md rfl <| As rfl <| Nl <| Rg <| Ac (Z21 (t := 12) rfl rfl (vt rfl) (vk rfl) (vt rfl) hlti6) rfl <| Md rfl <| Nl ?_
     exact ⟨(_, _, _), Nat.lt_succ_self _, ⟨hsf1.next, h⟩, FX rfl⟩
    ·refine sk <| Rg <| Ac (Z21 (t := 12) rfl rfl (vt rfl) (vk rfl) (vt rfl) hlti6) rfl <| Md rfl <| Nl ?_
     exact ⟨(_, _, _), Nat.lt_succ_self _, ⟨hsf1.next, h⟩, FX rfl⟩
def Z7k : (List Tern) → Nat → Z18 → Option Z18
 | [], i7, b6 => some b6
 | x9 :: l8, i7, b6 => (Z5x x9).bind fun x11 => (chk 24 (i7 : Int)).bind fun j12 => (Z7k l8) (i7 + 1) (Vector.set b6 j12.1 x11.Value j12.2)
def Zhv (x1 : Z5) : Option Z18 :=
 Z7k (Vector.toList x1) 0 (Vector.replicate 24 Z00)
theorem Ye6 : Q1 Tryz.prog 70 (rd (Z1 24 Z2)) (rd (Z1 24 Zp)) Zhv := fun x1 r h => I0 Tryz.func70 rfl Tryz.ntmps70 rfl fun w H => by
 unfold Zhv at h
 refine SR <| Cv rfl (Zn 2 rfl rfl (vt rfl)) fun g2 => Cv rfl (Zo 3 rfl rfl Z35) fun g3 => Nl <| SR <| Cv rfl (Zo 4 rfl rfl Z35) fun g4 => Nl <| sq <| SR <| Ld Zv 2 rfl <| Mk rfl <| Nl <| bk <| LG (d := []) (ν := (List Tern) × Nat × Z18) (fun (l8, i7, b6) => (Sfx (Vector.toList x1) i7 l8 ∧ Z7k l8 i7 b6 = some r, l8.length, [(2, Ze g3 (Lens.id (Z1 24 Zp))), (3, Ze g4 (Lens.id (Z1 24 Zp))), (6, rd (Z1 24 Z2) x1), (7, rd (Z0 .i64) (i7 : Int))], [(3, Zf g3 44 (Z1 24 Zp) (Vector.replicate 24 Z00)), (4, Zf g4 44 (Z1 24 Zp) b6)])) ((Vector.toList x1), 0, (Vector.replicate 24 Z00)) ⟨Sfx.start _, h⟩ (FX rfl) ?_
 rintro ⟨l8, i7, b6⟩ ⟨hsf1, h⟩
 dsimp only at hsf1 h ⊢
 cases l8 with
 | nil =>
  unfold Z7k at h
  refine SR <| Ac (Zl rfl rfl (vt rfl) (vk rfl)) rfl <| Nl <| sq <| Cn rfl (fun hc => absurd (of_decide_eq_true hc) (hsf1.niln (by simp))) (fun hc => ?_)
  refine xt <| SR <| Ld Z15 4 rfl <| Zd Z15 3 rfl <| Nl <| rt ?_
  cases h; exact Zc Tryz.results70 rfl (Zx rfl (i := 3) rfl Z15)
 | cons x9 l8 =>
  unfold Z7k at h
  refine SR <| Ac (Zl rfl rfl (vt rfl) (vk rfl)) rfl <| Nl <| sq <| Cn rfl (fun hc => ?_) (fun hc => absurd (hsf1.consn (by simp)) (of_decide_eq_false hc))
  have hlti7 := of_decide_eq_true hc
  refine sk <| sq <| bk <| SR <| Md rfl <| Ac (Zdd rfl rfl Z1d Zw (vt rfl) (vt rfl) hsf1.lget) rfl <| Cv rfl (Zo 6 rfl rfl Z17) fun g10 => As rfl <| Zd Zw 6 rfl <| Nl ?_
  obtain ⟨x11, hx11, j12, hj12, h⟩ := bs2 h
  refine Rg <| Md rfl <| Ld Zw 6 rfl <| Cl [12] (Z88 _ _ hx11) Z7l rfl <| Ac (Zsw lTern_0 rfl rfl Z1y Zxp Zs rfl (vt rfl)) rfl <| Ac (Z0v rfl rfl Y2d (vt rfl) (vt rfl) hj12) rfl <| Zd Zs 4 rfl <| Nl <| Rg <| Ac (Z70 rfl rfl (vt rfl) (vk rfl) rfl hlti7) rfl <| Md rfl <| Nl ?_
  exact ⟨(_, _, _), Nat.lt_succ_self _, ⟨hsf1.next, h⟩, FX rfl⟩
def Zdx (x1 : (BitVec 64)) : Option Int :=
 (Z36 x1 ((1 : BitVec 64).toNat : Int)).bind fun q2 => (Z36 ((q2 &&& (6148914691236517205 : BitVec 64)) + (x1 &&& (6148914691236517205 : BitVec 64))) ((2 : BitVec 64).toNat : Int)).bind fun q3 => (Z36 ((q3 &&& (3689348814741910323 : BitVec 64)) + (((q2 &&& (6148914691236517205 : BitVec 64)) + (x1 &&& (6148914691236517205 : BitVec 64))) &&& (3689348814741910323 : BitVec 64))) ((4 : BitVec 64).toNat : Int)).bind fun q4 => (Z36 ((q4 + ((q3 &&& (3689348814741910323 : BitVec 64)) + (((q2 &&& (6148914691236517205 : BitVec 64)) + (x1 &&& (6148914691236517205 : BitVec 64))) &&& (3689348814741910323 : BitVec 64)))) &&& (1085102592571150095 : BitVec 64)) ((8 : BitVec 64).toNat : Int)).bind fun q5 => (Z36 (((q4 + ((q3 &&& (3689348814741910323 : BitVec 64)) + (((q2 &&& (6148914691236517205 : BitVec 64)) + (x1 &&& (6148914691236517205 : BitVec 64))) &&& (3689348814741910323 : BitVec 64)))) &&& (1085102592571150095 : BitVec 64)) + q5) ((16 : BitVec 64).toNat : Int)).bind fun q6 => (Z36 ((((q4 + ((q3 &&& (3689348814741910323 : BitVec 64)) + (((q2 &&& (6148914691236517205 : BitVec 64)) + (x1 &&& (6148914691236517205 : BitVec 64))) &&& (3689348814741910323 : BitVec 64)))) &&& (1085102592571150095 : BitVec 64)) + q5) + q6) ((32 : BitVec 64).toNat : Int)).bind fun q7 => some (Zt0 .and .i64 (IntKind.i64.wrap ((((((q4 + ((q3 &&& (3689348814741910323 : BitVec 64)) + (((q2 &&& (6148914691236517205 : BitVec 64)) + (x1 &&& (6148914691236517205 : BitVec 64))) &&& (3689348814741910323 : BitVec 64)))) &&& (1085102592571150095 : BitVec 64)) + q5) + q6) + q7).toNat : Int)) 127)
theorem Y23 : Q1 Tryz.prog 331 (rd Z0j) (rd (Z0 .i64)) Zdx := fun x1 r h => I0 Tryz.func331 rfl Tryz.ntmps331 rfl fun w H => by
 unfold Zdx at h
 refine SR <| Ak rfl <| Nl <| sq ?_
 obtain ⟨q2, hq2, h⟩ := Za h
 refine Rg <| Md rfl <| Ac (Z59 rfl rfl (vt rfl) (Z4i (vku (1 : BitVec 64) rfl)) hq2) rfl <| Ac (Z80 rfl rfl (vt rfl) (vku (6148914691236517205 : BitVec 64) rfl)) rfl <| Md rfl <| Ac (Z80 rfl rfl (vt rfl) (vku (6148914691236517205 : BitVec 64) rfl)) rfl <| Ac (Zdi rfl rfl (vt rfl) (vt rfl)) rfl <| As rfl <| Nl <| sq ?_
 obtain ⟨q3, hq3, h⟩ := Za h
 refine Rg <| Md rfl <| Ac (Z59 rfl rfl (vt rfl) (Z4i (vku (2 : BitVec 64) rfl)) hq3) rfl <| Ac (Z80 rfl rfl (vt rfl) (vku (3689348814741910323 : BitVec 64) rfl)) rfl <| Md rfl <| Ac (Z80 rfl rfl (vt rfl) (vku (3689348814741910323 : BitVec 64) rfl)) rfl <| Ac (Zdi rfl rfl (vt rfl) (vt rfl)) rfl <| As rfl <| Nl <| sq ?_
 obtain ⟨q4, hq4, h⟩ := Za h
 refine Rg <| Md rfl <| Ac (Z59 rfl rfl (vt rfl) (Z4i (vku (4 : BitVec 64) rfl)) hq4) rfl <| Md rfl <| Ac (Zdi rfl rfl (vt rfl) (vt rfl)) rfl <| Ac (Z80 rfl rfl (vt rfl) (vku (1085102592571150095 : BitVec 64) rfl)) rfl <| As rfl <| Nl <| sq ?_
 obtain ⟨q5, hq5, h⟩ := Za h
 refine Rg <| Md rfl <| Md rfl <| Ac (Z59 rfl rfl (vt rfl) (Z4i (vku (8 : BitVec 64) rfl)) hq5) rfl <| Ac (Zdi rfl rfl (vt rfl) (vt rfl)) rfl <| As rfl <| Nl <| sq ?_
 obtain ⟨q6, hq6, h⟩ := Za h
 refine Rg <| Md rfl <| Md rfl <| Ac (Z59 rfl rfl (vt rfl) (Z4i (vku (16 : BitVec 64) rfl)) hq6) rfl <| Ac (Zdi rfl rfl (vt rfl) (vt rfl)) rfl <| As rfl <| Nl <| sq ?_
 obtain ⟨q7, hq7, h⟩ := Za h
 refine Rg <| Md rfl <| Md rfl <| Ac (Z59 rfl rfl (vt rfl) (Z4i (vku (32 : BitVec 64) rfl)) hq7) rfl <| Ac (Zdi rfl rfl (vt rfl) (vt rfl)) rfl <| As rfl <| Nl <| SR <| Md rfl <| Ac (Z8u rfl rfl Ybu un3 (vt rfl)) rfl <| Ac (Ydm rfl rfl (vt rfl) (vk rfl)) rfl <| As rfl <| Nl <| rt ?_
 cases h; exact Zc Tryz.results331 rfl (Z4 rfl)
def Zea (a1 : Wide) : Option Int :=
 (Zdx a1.Hi).bind fun x3 => (Zdx a1.Lo).bind fun x4 => some (IntKind.i64.wrap (x3 + x4))
theorem Ztz : Q1 Tryz.prog 294 (rd Zp) (rd (Z0 .i64)) Zea := fun a1 r h => I0 Tryz.func294 rfl Tryz.ntmps294 rfl fun w H => by
 unfold Zea at h
 refine SR <| Cv rfl (Zn 2 rfl rfl (vt rfl)) fun g2 => Ak rfl <| Nl <| sq ?_
 obtain ⟨x3, hx3, x4, hx4, h⟩ := bs2 h
 refine AR Zz (by kernel_rfl) <| SFd lWide_0 Z3v rfl <| Zu Z19 2 rfl <| SCl [4] (Y23 _ _ hx3) Zy8 rfl <| SFd lWide_1 Z3p rfl <| Zu Z19 2 rfl <| SCl [7] (Y23 _ _ hx4) Zy8 rfl <| Sd (lo [5, 8] [] rfl fun S hs hr => Z02 rfl rfl (vh hs 5 rfl rfl) (vh hs 8 rfl rfl)) <| SAs rfl <| Sn <| rt ?_
 cases h; exact Zc Tryz.results294 rfl (Z4 rfl)
def Ze9 (a1 : Wide) (i2 : Int) : Option Bool :=
 (Z9o i2).bind fun x4 => (Zax a1 x4).bind fun x5 => (Zf3 x5).bind fun x6 => some (!x6)
theorem Y1j : Q2 Tryz.prog 319 (rd Zp) (rd (Z0 .i64)) (rd Z7) Ze9 := fun a1 i2 r h => I0 Tryz.func319 rfl Tryz.ntmps319 rfl fun w H => by
 unfold Ze9 at h
 refine SR <| Cv rfl (Zn 3 rfl rfl (vt rfl)) fun g3 => Ab rfl <| Nl <| sq ?_
 obtain ⟨x4, hx4, x5, hx5, x6, hx6, h⟩ := bs3 h
 refine AR Zz (by kernel_rfl) <| Zu Zs 3 rfl <| Zg rfl <| SCl [6] (Zlu _ _ hx4) Zp6 rfl <| SCl [5, 7] (Zo1 _ _ _ hx5) Zlr rfl <| SCl [8] (Zpd _ _ hx6) Zqt rfl <| Sd (lo [9] [] rfl fun S hs hr => Z0s rfl rfl (vh hs 9 rfl rfl)) <| SAs rfl <| Sn <| rt ?_
 cases h; exact Zc Tryz.results319 rfl (Z4 rfl)
def Z9c (x5 : Wide) : Nat → (List Int) → Int → Option (List Int)
 | 0, _, _ => none
 | m13 + 1, l10, i12 => (opt (decide (i12 ≥ 0)) (Zea x5)).bind fun x14 => (bif ((decide (i12 ≥ 0)) && (decide ((l10.length : Int) < x14))) then (Ze9 x5 i12).bind fun x15 => (bif x15 then (Z0y l10 [i12]).bind fun l16 => (Z9c x5 m13) l16 (IntKind.i64.wrap (i12 - 1)) else (Z9c x5 m13) l10 (IntKind.i64.wrap (i12 - 1))) else some l10)
def Zgx (a1 : Tern) (b2 : Tern) : Option (List Int) :=
 (Zal b2.Mask a1.Mask).bind fun x5 => Z9c x5 Z0w [] 127
theorem Yc2 : Q2 Tryz.prog 318 (rd Z2) (rd Z2) (rd (Z3 (Z0 .i64))) Zgx := fun a1 b2 r h => I0 Tryz.func318 rfl Tryz.ntmps318 rfl fun w H => by
 unfold Zgx at h
 refine SR <| Cv rfl (Zn 3 rfl rfl (vt rfl)) fun g3 => Cv rfl (Zn 4 rfl rfl (vt rfl)) fun g4 => Ac (Z04 (A := rd (Z3 (Z0 .i64)) []) rfl rfl Z26) rfl <| Nl <| sq ?_
 obtain ⟨x5, hx5, h⟩ := Za h
 refine Rg <| Zt lTern_1 Z1h rfl <| Ld Zs 4 rfl <| Zt lTern_1 Z1h rfl <| Ld Zs 3 rfl <| Cl [9, 11] (Zh1 _ _ _ hx5) Zhi rfl <| Cv rfl (Zo 6 rfl rfl Z1n) fun g6 => Zd Zs 6 rfl <| Nl <| sq <| AW.newnil 1001 3 (Z0 .i64) <| Rg <| Ac (Z04 rfl rfl vc) rfl <| Nl <| sq <| SR <| Ak rfl <| Nl <| bk <| LG (d := []) (ν := Nat × (List Int) × Int × Value) (fun (m13, l10, i12, v11) => (True ∧ Z9c x5 m13 l10 i12 = some r, m13, [(5, Ze g6 (Lens.id Zp)), (6, Zj v11), (7, rd (Z0 .i64) i12)], [(6, Zf g6 42 Zp x5), (1001, Zh v11 3 (Z0 .i64) l10)])) (Z0w, [], 127, (.slice none 0 0)) ⟨trivial, h⟩ (FX rfl) ?_
 rintro ⟨m13, l10, i12, v11⟩ ⟨hsf1, h⟩
 dsimp only at h ⊢
 cases m13 with
 | zero => cases h
 | succ m13 =>
  unfold Z9c at h
  refine sq <| sq ?_
  obtain ⟨x14, hx14, h⟩ := Za h
  refine Rg <| Md rfl <| Ac (Z57 rfl rfl (vt rfl) (vk rfl)) rfl <| Md rfl <| Gd rfl (fun hq => Zk (A := Zj v11) rfl rfl (vt rfl)) <| Gd rfl (fun hq => Z5s 1001 rfl rfl Z0x (Z6 rfl hq) rfl) <| Gd rfl (fun hq => Z0g rfl rfl Zs (vt rfl) (i := 6) rfl) <| Gd rfl (fun hq => Z0b (xs := [.tmp 18]) (Ztz _ _ (Z16 hx14 hq)) Zvj rfl rfl ⟨Z6 rfl hq, trivial⟩) <| Gd rfl (fun hq => Zl rfl rfl (Z6 rfl hq) (Z6 rfl hq)) <| Ac (Z0o rfl rfl (vt rfl) (vt rfl)) rfl <| Nl <| Cq rfl h (fun h => ?_) (fun h => ?_)
  ·refine sk <| sq <| bk <| sq ?_
   obtain ⟨x15, hx15, h⟩ := Za h
   refine Rg <| Ld Zs 6 rfl <| Md rfl <| Cl [24, 25] (Y1j _ _ _ hx15) Y21 rfl <| Nl <| Cq rfl h (fun h => ?_) (fun h => ?_)
   ·obtain ⟨l16, hl16, h⟩ := Za h
    refine Rg <| Mw rfl <| Md rfl <| Ac (osl Z0x zr3 rfl (vt rfl)) rfl <| Cv rfl (Z29 1001 hl16 rfl rfl Zks (vt rfl) rfl (vt rfl)) fun v17 => Aw rfl <| Nl <| Rg <| Md rfl <| Ac (Z0i rfl rfl (vt rfl) (vk rfl)) rfl <| As rfl <| Nl ?_
    exact ⟨(_, _, _, _), Nat.lt_succ_self _, ⟨trivial, h⟩, FX rfl⟩
   ·refine sk <| Rg <| Md rfl <| Ac (Z0i rfl rfl (vt rfl) (vk rfl)) rfl <| As rfl <| Nl ?_
    exact ⟨(_, _, _, _), Nat.lt_succ_self _, ⟨trivial, h⟩, FX rfl⟩
  ·refine xt <| SR <| Mw rfl <| Aw rfl <| Nl <| AW.freezes [4, 6, 31] 1001 rfl ⟨rfl, rfl, rfl, trivial⟩ rfl <| rt ?_
   cases h; exact Zc Tryz.results318 rfl (Z4 rfl)
def Zdn (t1 : Tern) (i2 : Int) (o3 : Bool) : Option Tern :=
 (Z9o i2).bind fun x6 => (Z5x t1).bind fun x8 => (Z7t x8.Mask x6).bind fun x9 => (Zal x8.Value x6).bind fun x10 => (bif o3 then (Z7t ({ { x8 with Mask := x9 } with Value := x10 }.Value) x6).bind fun x11 => some { { { x8 with Mask := x9 } with Value := x10 } with Value := x11 } else some { { x8 with Mask := x9 } with Value := x10 })
theorem Zy5 : Q3 Tryz.prog 320 (rd Z2) (rd (Z0 .i64)) (rd Z7) (rd Z2) Zdn := fun t1 i2 o3 r h => I0 Tryz.func320 rfl Tryz.ntmps320 rfl fun w H => by
 unfold Zdn at h
 refine SR <| Cv rfl (Zn 4 rfl rfl (vt rfl)) fun g4 => Cv rfl (Zo 7 rfl rfl Z17) fun g5 => Nl <| sq ?_
 obtain ⟨x6, hx6, h⟩ := Za h
 refine Rg <| Md rfl <| Cl [8] (Zlu _ _ hx6) Zp6 rfl <| Cv rfl (Zo 8 rfl rfl Z1n) fun g7 => Zd Zs 8 rfl <| Nl <| sq ?_
 obtain ⟨x8, hx8, h⟩ := Za h
 refine Rg <| Ld Zw 4 rfl <| Cl [10] (Z88 _ _ hx8) Z7l rfl <| Zd Zw 4 rfl <| Nl <| sq ?_
 obtain ⟨x9, hx9, x10, hx10, h⟩ := bs2 h
 refine AR Zz (by kernel_rfl) <| SFd lTern_1 Z1h rfl <| Zu Zs 4 rfl <| Zu Zs 8 rfl <| SCl [13, 14] (Zf0 _ _ _ hx9) Zdv rfl <| SFd lTern_0 Z1y rfl <| Zu Zs 4 rfl <| Zu Zs 8 rfl <| SCl [17, 18] (Zh1 _ _ _ hx10) Zhi rfl <| SFd lTern_1 Z1h rfl <| SSt Zs 4 rfl <| SFd lTern_0 Z1y rfl <| SSt Zs 4 rfl <| Sn <| sq <| SR <| Md rfl <| Nl <| Cq rfl h (fun h => ?_) (fun h => ?_)
 ·obtain ⟨x11, hx11, h⟩ := Za h
  refine Rg <| Zt lTern_0 Z1y rfl <| Ld Zs 4 rfl <| Ld Zs 8 rfl <| Cl [24, 25] (Zf0 _ _ _ hx11) Zdv rfl <| Zt lTern_0 Z1y rfl <| Zd Zs 4 rfl <| Nl <| SR <| Ld Zw 4 rfl <| Zd Zw 7 rfl <| Nl <| rt ?_
  cases h; exact Zc Tryz.results320 rfl (Zx rfl (i := 7) rfl Zw)
 ·refine sk <| SR <| Ld Zw 4 rfl <| Zd Zw 7 rfl <| Nl <| rt ?_
  cases h; exact Zc Tryz.results320 rfl (Zx rfl (i := 7) rfl Zw)
end Go.Proofs.YtknpgojdkobgjaaGreat.W
set_option maxRecDepth 4000
namespace Go.Proofs.YtknpgojdkobgjaaGreat.W
open Go Go.Wb
theorem Y9e : Ent Tryz.prog 318 := Ent.mk Tryz.func318 rfl rfl
theorem Zz3 : Ent Tryz.prog 320 := Ent.mk Tryz.func320 rfl rfl
theorem Yha : Ent Tryz.prog 317 := Ent.mk Tryz.func317 rfl rfl
theorem Ych : Ent Tryz.prog 278 := Ent.mk Tryz.func278 rfl rfl
theorem Y3t : Ent Tryz.prog 279 := Ent.mk Tryz.func279 rfl rfl
theorem e70 : Ent Tryz.prog 70 := Ent.mk Tryz.func70 rfl rfl
theorem Y8z : Ent Tryz.prog 280 := Ent.mk Tryz.func280 rfl rfl
theorem Zw7 : Ent Tryz.prog 235 := Ent.mk Tryz.func235 rfl rfl
theorem Y7h : Ent Tryz.prog 240 := Ent.mk Tryz.func240 rfl rfl
theorem Ya0 : Ent Tryz.prog 179 := Ent.mk Tryz.func179 rfl rfl
theorem Y6b : Ent Tryz.prog 170 := Ent.mk Tryz.func170 rfl rfl
theorem Y38 : Ent Tryz.prog 288 := Ent.mk Tryz.func288 rfl rfl
def Zb0 (sg : Type) (go1 : Nat → Z5 → (Lp sg) → Option (Lp sg)) (i14 : Nat) (x16 : Tern) (y1 : (sg → Z5 → Option (Lp sg))) : (List Int) → Nat → Z5 → (Lp sg) → Option (Lp sg)
 | [], i24, b22, s23 => go1 (i14 + 1) b22 s23
 | x26 :: l25, i24, b22, s23 => (Ze9 x16.Value x26).bind fun x27 => (chk 24 (i14 : Int)).bind fun j29 => (Zdn (Vector.get b22 j29) x26 (!x27)).bind fun x30 => (chk 24 (i14 : Int)).bind fun j31 => (yc y1 s23 (Vector.set b22 j31.1 x30 j31.2)).bind fun s32 => (bif (!(Lp.isGo s32)) then some s32 else (chk 24 (i14 : Int)).bind fun j33 => (Zdn (Vector.get b22 j33) x26 x27).bind fun x34 => (chk 24 (i14 : Int)).bind fun j35 => (Zb0 sg go1 i14 x16 y1 l25) (i24 + 1) (Vector.set b22 j35.1 x34 j35.2) s32)
def Z8a (sg : Type) (y1 : (sg → Z5 → Option (Lp sg))) : (List Tern) → Nat → Z5 → (Lp sg) → Option (Lp sg)
 | [], i14, b12, s13 => some s13
 | x16 :: l15, i14, b12, s13 => (chk 24 (i14 : Int)).bind fun j18 => (Zgx (Vector.get b12 j18) x16).bind fun x19 => (bif (decide ((x19.length : Int) = 0)) then (Z8a sg y1 l15) (i14 + 1) b12 s13 else Zb0 sg (Z8a sg y1 l15) i14 x16 y1 x19 0 b12 s13)
def Z96 (sg : Type) (y1 : (sg → Z5 → Option (Lp sg))) (s2 : (Lp sg)) (x3 : Z5) (x4 : Z5) : Option (Lp sg) :=
 (Zae x3).bind fun x5 => (Z7s x3 x4).bind fun x7 => (bif (!x7.2) then (yc y1 s2 x5).bind fun s9 => some s9 else Z8a sg y1 (Vector.toList x4) 0 x5 s2)
theorem Yi9 (sg : Type) (y1 : (sg → Z5 → Option (Lp sg))) (L : Lp sg → Res) (s2 : (Lp sg)) (x3 : Z5) (x4 : Z5) (r : (Lp sg)) (h : Z96 sg y1 s2 x3 x4 = some r) : Con Tryz.prog 317 [ydA Tryz.prog (Z1 24 Z2) y1 L, rp (Z1 24 Z2) x3, rp (Z1 24 Z2) x4] (L s2) (fun _ : Unit => top) (fun _ => L r) := by
 refine Con.intro Tryz.func317 rfl Tryz.ntmps317 rfl fun w H X => ?_
 unfold Z96 at h
 refine AW.scope <| sq ?_
 obtain ⟨x5, hx5, h⟩ := Za h
 refine Rg <| Lp1 Zv rfl <| Cl [14] (Zoa _ _ hx5) Zmo rfl <| Cv rfl (Zo 5 rfl rfl Z0n) fun g6 => Zd Zv 5 rfl <| Nl <| sq <| sq ?_
 obtain ⟨x7, hx7, h⟩ := Za h
 refine Rg <| Lp1 Zv rfl <| Lp1 Zv rfl <| Cl [17, 18] (Zot _ _ _ hx7) Zn9 rfl <| Mt2 rfl <| Ac (Z1j rfl rfl (vt rfl)) rfl <| Ac (Z1i rfl rfl (vt rfl)) rfl <| Cv rfl (Zo 6 rfl rfl Z0n) fun g8 => Zd Zv 6 rfl <| As rfl <| Nl <| SR <| Md rfl <| Ac (Z0s rfl rfl (vt rfl)) rfl <| Nl <| Cq rfl h (fun h => ?_) (fun h => ?_)
 ·refine sq ?_
  obtain ⟨s9, hs9, h⟩ := Za h
  refine Rg <| Ac (Zk (A := ydA Tryz.prog (Z1 24 Z2) y1 L) rfl rfl (vt rfl)) rfl <| Ld Zv 5 rfl <| Ac (Zmt 0 hs9 rfl rfl (vt rfl) (vt rfl) rfl) rfl <| Nl <| rt ?_
  cases h; exact Z2q (i := 0) Tryz.results317 rfl rfl
 ·refine sk <| sq <| AW.label <| SR <| Lp1 Zv rfl <| Mk rfl <| Nl <| bk <| LG (d := []) (ν := (List Tern) × Nat × Z5 × (Lp sg)) (fun (l15, i14, b12, s13) => (Sfx (Vector.toList x4) i14 l15 ∧ Z8a sg y1 l15 i14 b12 s13 = some r, l15.length, [(0, ydA Tryz.prog (Z1 24 Z2) y1 L), (4, Ze g6 (Lens.id (Z1 24 Z2))), (27, rd (Z1 24 Z2) x4), (28, rd (Z0 .i64) (i14 : Int))], [(0, L s13), (5, Zf g6 87 (Z1 24 Z2) b12)])) ((Vector.toList x4), 0, x5, s2) ⟨Sfx.start _, h⟩ (FX rfl) ?_
  rintro ⟨l15, i14, b12, s13⟩ ⟨hsf1, h⟩
  dsimp only at hsf1 h ⊢
  cases l15 with
  | nil =>
   unfold Z8a at h
   refine SR <| Ac (Zl rfl rfl (vt rfl) (vk rfl)) rfl <| Nl <| sq <| Cn rfl (fun hc => absurd (of_decide_eq_true hc) (hsf1.niln (by simp))) (fun hc => ?_)
   refine xt ?_
   cases h; exact Z2q (i := 0) Tryz.results317 rfl rfl
  | cons x16 l15 =>
   unfold Z8a at h
   refine SR <| Ac (Zl rfl rfl (vt rfl) (vk rfl)) rfl <| Nl <| sq <| Cn rfl (fun hc => ?_) (fun hc => absurd (hsf1.consn (by simp)) (of_decide_eq_false hc))
   have hlti14 := of_decide_eq_true hc
   refine sk <| sq <| bk <| SR <| Md rfl <| Ac (Zdd rfl rfl Z1d Zw (vt rfl) (vt rfl) hsf1.lget) rfl <| Cv rfl (Zo 9 rfl rfl Z17) fun g17 => As rfl <| Zd Zw 9 rfl <| Nl <| sq ?_
   obtain ⟨j18, hj18, x19, hx19, h⟩ := bs2 h
   refine AR Zz (by kernel_rfl) <| Zg rfl <| Sd (lo [4, 32] [] rfl fun S hs hr => Z0v rfl rfl Z1d (vh hs 4 rfl rfl) (vh hs 32 rfl rfl) hj18) <| Zu Zw 5 rfl <| Zu Zw 9 rfl <| SCl [34, 35] (Yc2 _ _ _ hx19) Y9e rfl <| SAs rfl <| Sn <| sq <| SR <| Md rfl <| Ac (Z09 rfl rfl Z0x (vt rfl)) rfl <| Ac (Z0f rfl rfl (vt rfl) (vk rfl)) rfl <| Nl <| Cq rfl h (fun h => ?_) (fun h => ?_)
   ·refine xt <| Rg <| Ac (Z70 rfl rfl (vt rfl) (vk rfl) rfl hlti14) rfl <| Md rfl <| Nl ?_
    exact ⟨(_, _, _, _), Nat.lt_succ_self _, ⟨hsf1.next, h⟩, FX rfl⟩
   ·refine sk <| SR <| Md rfl <| Ac (Z09 rfl rfl Z0x (vt rfl)) rfl <| Mk rfl <| Nl <| bk <| LG (d := []) (ν := (List Int) × Nat × Z5 × (Lp sg)) (fun (l25, i24, b22, s23) => (Sfx x19 i24 l25 ∧ Zb0 sg (Z8a sg y1 l15) i14 x16 y1 l25 i24 b22 s23 = some r, l25.length, [(0, ydA Tryz.prog (Z1 24 Z2) y1 L), (4, Ze g6 (Lens.id (Z1 24 Z2))), (7, rd (Z0 .i64) (i14 : Int)), (8, Ze g17 (Lens.id Z2)), (27, rd (Z1 24 Z2) x4), (28, rd (Z0 .i64) (i14 : Int)), (40, rd (Z3 (Z0 .i64)) x19), (41, rd (Z0 .i64) (x19.length : Int)), (42, rd (Z0 .i64) (i24 : Int))], [(0, L s23), (5, Zf g6 87 (Z1 24 Z2) b22), (9, Zf g17 85 Z2 x16)])) (x19, 0, b12, s13) ⟨Sfx.start _, h⟩ (FX rfl) ?_
    rintro ⟨l25, i24, b22, s23⟩ ⟨hsf2, h⟩
    dsimp only at hsf2 h ⊢
    cases l25 with
    | nil =>
     unfold Zb0 at h
     refine SR <| Ac (Zl rfl rfl (vt rfl) (vt rfl)) rfl <| Nl <| sq <| Cn rfl (fun hc => absurd (of_decide_eq_true hc) hsf2.nil) (fun hc => ?_)
     refine xt <| Rg <| Ac (Z70 rfl rfl (vt rfl) (vk rfl) rfl hlti14) rfl <| Md rfl <| Nl ?_
     exact ⟨(_, _, _, _), Nat.lt_succ_self _, ⟨hsf1.next, h⟩, FX rfl⟩
    | cons x26 l25 =>
     unfold Zb0 at h
     refine SR <| Ac (Zl rfl rfl (vt rfl) (vt rfl)) rfl <| Nl <| sq <| Cn rfl (fun hc => ?_) (fun hc => absurd hsf2.cons (of_decide_eq_false hc))
     have hlti24 := of_decide_eq_true hc
     refine sk <| sq <| bk <| SR <| Ac (Z03 rfl rfl Z0x (vt rfl) (vt rfl) hsf2.lget) rfl <| Lp1 Zq rfl <| As rfl <| Nl <| sq ?_
     obtain ⟨x27, hx27, h⟩ := Za h
     refine Rg <| Zt lTern_0 Z1y rfl <| Ld Zs 9 rfl <| Md rfl <| Cl [47, 48] (Y1j _ _ _ hx27) Y21 rfl <| As rfl <| Nl <| SR <| Ld Zv 5 rfl <| Cv rfl (Zo 14 rfl rfl Z0n) fun g28 => Zd Zv 14 rfl <| Nl <| sq ?_
     obtain ⟨j29, hj29, x30, hx30, j31, hj31, h⟩ := bs3 h
     refine Rg <| Md rfl <| Md rfl <| Ac (Z0v rfl rfl Z1d (vt rfl) (vt rfl) hj29) rfl <| Ld Zw 5 rfl <| Md rfl <| Md rfl <| Ac (Z0s rfl rfl (vt rfl)) rfl <| Cl [54, 55, 57] (Zy5 _ _ _ _ hx30) Zz3 rfl <| Ac (Z0v rfl rfl Z1d (vt rfl) (vt rfl) hj31) rfl <| Zd Zw 14 rfl <| Nl <| sq <| sq ?_
     obtain ⟨s32, hs32, h⟩ := Za h
     refine Rg <| Ac (Zk (A := ydA Tryz.prog (Z1 24 Z2) y1 L) rfl rfl (vt rfl)) rfl <| Ld Zv 14 rfl <| Ac (Zmt 0 hs32 rfl rfl (vt rfl) (vt rfl) rfl) rfl <| Ac (Z0s rfl rfl (vt rfl)) rfl <| Nl <| Cq rfl h (fun h => ?_) (fun h => ?_)
     ·refine xt ?_
      cases h; exact Z2q (i := 0) Tryz.results317 rfl rfl
     ·refine sk ?_
      obtain ⟨j33, hj33, x34, hx34, j35, hj35, h⟩ := bs3 h
      refine Rg <| Md rfl <| Md rfl <| Ac (Z0v rfl rfl Z1d (vt rfl) (vt rfl) hj33) rfl <| Ld Zw 5 rfl <| Md rfl <| Md rfl <| Cl [67, 68, 69] (Zy5 _ _ _ _ hx34) Zz3 rfl <| Ac (Z0v rfl rfl Z1d (vt rfl) (vt rfl) hj35) rfl <| Zd Zw 5 rfl <| Nl <| Rg <| Ac (Z21 (t := 41) rfl rfl (vt rfl) (vk rfl) (vt rfl) hlti24) rfl <| Md rfl <| Nl ?_
      exact ⟨(_, _, _, _), Nat.lt_succ_self _, ⟨hsf2.next, h⟩, FX rfl⟩
def Zme (a1 : Z5) (b2 : Z5) : Option (Itr Z5) :=
 some (Itr.mk fun σ y s => Z96 σ y s a1 b2)
theorem Yg1 : Q2 Tryz.prog 280 (rd (Z1 24 Z2)) (rd (Z1 24 Z2)) (Z5m Tryz.prog (Z1 24 Z2)) Zme := fun a1 b2 r h => I0 Tryz.func280 rfl Tryz.ntmps280 rfl fun w H => by
 unfold Zme at h
 refine SR <| Cv rfl (Zn 3 rfl rfl (vt rfl)) fun g3 => Cv rfl (Zn 4 rfl rfl (vt rfl)) fun g4 => Ac (Z04 (A := Zj .nilFunc) rfl rfl vc) rfl <| Nl <| sq <| AW.freezeB 2 3 rfl rfl rfl <| AW.freezeB 3 4 rfl rfl rfl <| Rg <| Ac (Zye (Itr.mk fun σ y s => Z96 σ y s a1 b2) (cs := [.tmp 2, .tmp 3]) (CAs := [rp (Z1 24 Z2) a1, rp (Z1 24 Z2) b2]) rfl rfl Yha ⟨vt rfl, vt rfl, trivial⟩ (fun σ y L s r h => Yi9 σ y L s a1 b2 r h)) rfl <| Ac (Z04 (A := Z5m Tryz.prog (Z1 24 Z2) (Itr.mk fun σ y s => Z96 σ y s a1 b2)) rfl rfl (vt rfl)) rfl <| Nl <| rt ?_
 cases h; exact Zc Tryz.results280 rfl (Z4 rfl)
def Z7w (l4 : (List Z5)) (x10 : (Bool × Int)) (R_cover_look_at : (cover_look → Z5 → (List Z5) → Option (Z18 × Bool × Bool × cover_look))) (b18 : cover_look) (b19 : Z18) (b20 : Bool) (b21 : Bool) (x23 : Z5) : Option (Lp (cover_look × Z18 × Bool × Bool)) :=
 (Z5o l4 (IntKind.i64.wrap (x10.2 + 1))).bind fun s25 => (R_cover_look_at b18 x23 s25).bind fun b26 => (bif (b26.2.1 || (!b26.2.2.1)) then some (.out (.exit 1) (b26.2.2.2, b26.1, b26.2.1, b26.2.2.1)) else some (.go (b26.2.2.2, b26.1, b26.2.1, b26.2.2.1)))
def Zhy (R_cover_look_at : (cover_look → Z5 → (List Z5) → Option (Z18 × Bool × Bool × cover_look))) (s1 : cover_look) (x3 : Z5) (l4 : (List Z5)) : Option (Z18 × Bool × Bool × cover_look) :=
 (Zj7 s1.purse).bind fun b9 => (bif (!b9.1) then some ((Vector.replicate 24 Z00), false, false, { s1 with purse := b9.2 }) else (Zlq x3 l4).bind fun x10 => (bif x10.1 then some ((Vector.replicate 24 Z00), false, true, { s1 with purse := b9.2 }) else (bif (decide (x10.2 < 0)) then (Zhv x3).bind fun x12 => some (x12, true, true, { s1 with purse := b9.2 }) else (lget l4 x10.2).bind fun x16 => (Zme x3 x16).bind fun x17 => (Itr.run x17 (cover_look × Z18 × Bool × Bool) (fun s x => Z7w l4 x10 R_cover_look_at s.1 s.2.1 s.2.2.1 s.2.2.2 x) (.go ({ s1 with purse := b9.2 }, (Vector.replicate 24 Z00), false, true))).bind fun z22 => Yhx z22 (fun s27 => some (s27.2.1, s27.2.2.1, s27.2.2.2, s27.1)) (fun c s27 => bif Zo2 1 c then some (s27.2.1, s27.2.2.1, s27.2.2.2, s27.1) else none))))
theorem Y5v (R_cover_look_at : (cover_look → Z5 → (List Z5) → Option (Z18 × Bool × Bool × cover_look))) (hR_cover_look_at : ∀ (g2 gT : Nat) (s1 : cover_look) (x3 : Z5) (l4 : (List Z5)) (r : (Z18 × Bool × Bool × cover_look)), R_cover_look_at s1 x3 l4 = some r → Con Tryz.prog 235 [Ze g2 (Lens.id Z1s), rd (Z1 24 Z2) x3, rd (Z3 (Z1 24 Z2)) l4] (Zf g2 gT Z1s s1) (fun _ : Unit => Z2k (rd (Z1 24 Zp) r.1) (rd Z7 r.2.1) (rd Z7 r.2.2.1)) (fun _ => Zf g2 gT Z1s r.2.2.2)) (g2 gT : Nat) (s1 : cover_look) (x3 : Z5) (l4 : (List Z5)) (r : (Z18 × Bool × Bool × cover_look)) (h : Zhy R_cover_look_at s1 x3 l4 = some r) : Con Tryz.prog 235 [Ze g2 (Lens.id Z1s), rd (Z1 24 Z2) x3, rd (Z3 (Z1 24 Z2)) l4] (Zf g2 gT Z1s s1) (fun _ : Unit => Z2k (rd (Z1 24 Zp) r.1) (rd Z7 r.2.1) (rd Z7 r.2.2.1)) (fun _ => Zf g2 gT Z1s r.2.2.2) := by
 refine Con.intro Tryz.func235 rfl Tryz.ntmps235 rfl fun w H X => ?_
 unfold Zhy at h
 refine SR <| Cv rfl (Zn 4 rfl rfl (vkp (vt rfl))) fun g5 => Cv rfl (Zn 5 rfl rfl (vt rfl)) fun g6 => Cv rfl (Zn 6 rfl rfl (vt rfl)) fun g7 => Cv rfl (Zo 7 rfl rfl Z35) fun g8 => Ab rfl <| Ab rfl <| Nl <| AW.scope <| sq <| sq ?_
 obtain ⟨b9, hb9, h⟩ := Za h
 refine Rg <| Ac (Zz9 (A := Ze g2 (Lens.id Z1s)) rfl rfl rfl (Y0u _) (vt rfl) (i := 4) rfl) rfl <| Nc rfl <| Zt lcover_look_0 Yef rfl <| Cv rfl (Z1o 0 (xs := [.tmp 17]) (Y2n _ _ _ _ hb9) Ych rfl rfl ⟨vt rfl, trivial⟩ rfl) fun _u => AOps.told 0 (Zf g2 gT Z1s { s1 with purse := b9.2 }) rfl <| Ac (Z0s rfl rfl (vt rfl)) rfl <| Nl <| Cq rfl h (fun h => ?_) (fun h => ?_)
 ·refine SR <| Ac (Z13 (ps := []) (x := (Vector.replicate 24 Z00)) rfl rfl rfl (by kernel_rfl) Z35 rfl) rfl <| Zd Z15 7 rfl <| Ab rfl <| Ab rfl <| Nl <| rt ?_
  cases h; exact Zlb (i := 0) Tryz.results235 rfl (Zx rfl (i := 7) rfl Z15) (Z4 rfl) (Z4 rfl) rfl
 ·refine sk <| sq ?_
  obtain ⟨x10, hx10, h⟩ := Za h
  refine Rg <| Ld Zv 5 rfl <| Ld Zqa 6 rfl <| Cl [22, 23] (Y71 _ _ _ hx10) Y3t rfl <| Mt2 rfl <| Ac (Z1j rfl rfl (vt rfl)) rfl <| Ac (Z1i rfl rfl (vt rfl)) rfl <| Cv rfl (Zo 11 rfl rfl zr3) fun g11 => As rfl <| Zd Zq 11 rfl <| Nl <| sq <| bk <| SR <| Md rfl <| As rfl <| Nl <| Cq rfl h (fun h => ?_) (fun h => ?_)
  ·refine SR <| Ac (Z13 (ps := []) (x := (Vector.replicate 24 Z00)) rfl rfl rfl (by kernel_rfl) Z35 rfl) rfl <| Zd Z15 7 rfl <| Ab rfl <| Ab rfl <| Nl <| rt ?_
   cases h; exact Zlb (i := 0) Tryz.results235 rfl (Zx rfl (i := 7) rfl Z15) (Z4 rfl) (Z4 rfl) rfl
  ·refine SR <| Ld Zq 11 rfl <| Ac (Zl rfl rfl (vt rfl) (vk rfl)) rfl <| As rfl <| Nl <| Cq rfl h (fun h => ?_) (fun h => ?_)
   ·refine sq ?_
    obtain ⟨x12, hx12, h⟩ := Za h
    refine Rg <| Ld Zv 5 rfl <| Cl [33] (Ye6 _ _ hx12) e70 rfl <| Zd Z15 7 rfl <| Ab rfl <| Ab rfl <| Nl <| rt ?_
    cases h; exact Zlb (i := 0) Tryz.results235 rfl (Zx rfl (i := 7) rfl Z15) (Z4 rfl) (Z4 rfl) rfl
   ·refine sk <| SR <| Cv rfl (Zo 12 rfl rfl Z35) fun g13 => Nl <| SR <| Cv rfl (Zo 13 rfl rfl zr4) fun g14 => Cv rfl (Zo 14 rfl rfl zr4) fun g15 => Ac (Zbz rfl rfl ty4 (vt rfl) (i := 13) rfl vb) rfl <| Ac (Zbz rfl rfl ty4 (vt rfl) (i := 14) rfl vb) rfl <| Nl <| sq <| AW.label <| sq <| sq ?_
    obtain ⟨x16, hx16, x17, hx17, h⟩ := bs2 h
    refine AR Zz (by kernel_rfl) <| Zu Zv 5 rfl <| Zu Zqa 6 rfl <| Zu Zq 11 rfl <| Sd (lo [36, 37] [] rfl fun S hs hr => Z03 rfl rfl Z1v (vh hs 36 rfl rfl) (vh hs 37 rfl rfl) hx16) <| SLp Zv rfl <| SCl [35, 39] (Yg1 _ _ _ hx17) Y8z rfl <| Sn <| bk ?_
    obtain ⟨z22, hz22, h⟩ := Za h
    refine AW.fit (d := []) (L := [(3, Ze g5 (Lens.id (kas (Ze g2 (Lens.id Z1s))))), (5, Ze g7 (Lens.id (Z3 (Z1 24 Z2)))), (6, Ze g8 (Lens.id (Z1 24 Zp))), (7, rd Z7 false), (8, rd Z7 false), (10, Ze g11 (Lens.id (Z0 .i64))), (11, Ze g13 (Lens.id (Z1 24 Zp))), (12, Ze g14 (Lens.id Z7)), (13, Ze g15 (Lens.id Z7)), (40, Z5m Tryz.prog (Z1 24 Z2) x17)]) (M := [(4, Zf g5 286 (kas (Ze g2 (Lens.id Z1s))) ()), (0, Zf g2 gT Z1s { s1 with purse := b9.2 }), (6, Zf g7 229 (Z3 (Z1 24 Z2)) l4), (7, Zf g8 44 (Z1 24 Zp) (Vector.replicate 24 Z00)), (11, Zf g11 3 (Z0 .i64) x10.2), (12, Zf g13 44 (Z1 24 Zp) (Vector.replicate 24 Z00)), (13, Zf g14 4 Z7 false), (14, Zf g15 4 Z7 true)]) (FX rfl) ?_
    refine AW.rangeFunc (σ := cover_look × Z18 × Bool × Bool) (fun x => [rd (Z1 24 Z2) x]) (fun s x => Z7w l4 x10 R_cover_look_at s.1 s.2.1 s.2.2.1 s.2.2.2 x) (fun s => Z3u ((fun s => [(4, Zf g5 286 (kas (Ze g2 (Lens.id Z1s))) ()), (0, Zf g2 gT Z1s s.1), (6, Zf g7 229 (Z3 (Z1 24 Z2)) l4), (7, Zf g8 44 (Z1 24 Zp) (Vector.replicate 24 Z00)), (11, Zf g11 3 (Z0 .i64) x10.2), (12, Zf g13 44 (Z1 24 Zp) s.2.1), (13, Zf g14 4 Z7 s.2.2.1), (14, Zf g15 4 Z7 s.2.2.2)]) s)) (fun _ s => Z3u ((fun s => [(4, Zf g5 286 (kas (Ze g2 (Lens.id Z1s))) ()), (0, Zf g2 gT Z1s s.1), (6, Zf g7 229 (Z3 (Z1 24 Z2)) l4), (7, Zf g8 44 (Z1 24 Zp) (Vector.replicate 24 Z00)), (11, Zf g11 3 (Z0 .i64) x10.2), (12, Zf g13 44 (Z1 24 Zp) s.2.1), (13, Zf g14 4 Z7 s.2.2.1), (14, Zf g15 4 Z7 s.2.2.2)]) s)) [(3, Ze g5 (Lens.id (kas (Ze g2 (Lens.id Z1s))))), (5, Ze g7 (Lens.id (Z3 (Z1 24 Z2)))), (6, Ze g8 (Lens.id (Z1 24 Zp))), (7, rd Z7 false), (8, rd Z7 false), (10, Ze g11 (Lens.id (Z0 .i64))), (11, Ze g13 (Lens.id (Z1 24 Zp))), (12, Ze g14 (Lens.id Z7)), (13, Ze g15 (Lens.id Z7))] (fun s x23 S1 => ∃ (g24 : Nat), Fit S1 [] [(3, Ze g5 (Lens.id (kas (Ze g2 (Lens.id Z1s))))), (5, Ze g7 (Lens.id (Z3 (Z1 24 Z2)))), (6, Ze g8 (Lens.id (Z1 24 Zp))), (7, rd Z7 false), (8, rd Z7 false), (10, Ze g11 (Lens.id (Z0 .i64))), (11, Ze g13 (Lens.id (Z1 24 Zp))), (12, Ze g14 (Lens.id Z7)), (13, Ze g15 (Lens.id Z7)), (14, Ze g24 (Lens.id (Z1 24 Z2)))] [(4, Zf g5 286 (kas (Ze g2 (Lens.id Z1s))) ()), (0, Zf g2 gT Z1s s.1), (6, Zf g7 229 (Z3 (Z1 24 Z2)) l4), (7, Zf g8 44 (Z1 24 Zp) (Vector.replicate 24 Z00)), (11, Zf g11 3 (Z0 .i64) x10.2), (12, Zf g13 44 (Z1 24 Zp) s.2.1), (13, Zf g14 4 Z7 s.2.2.1), (14, Zf g15 4 Z7 s.2.2.2), (15, Zf g24 87 (Z1 24 Z2) x23)]) 3001 (s0 := ({ s1 with purse := b9.2 }, (Vector.replicate 24 Z00), false, true)) (sE := z22) rfl (vt rfl) ⟨rfl, inferInstance, rfl, inferInstance, rfl, inferInstance, rfl, inferInstance, rfl, inferInstance, rfl, inferInstance, rfl, inferInstance, rfl, inferInstance, rfl, inferInstance, trivial⟩ rfl (fun _ => rfl) (by intro p hp; have hp : p ∈ [41] := hp; rw [List.mem_singleton.1 hp]; show 41 < 61; decide) ?ha1 ?hb1 (fun Lf => ⟨top, _, _, Lf, _, _, hz22, rfl, rfl, rfl, rfl⟩) ?he1
    case ha1 =>
     rintro ⟨b18, b19, b20, b21⟩ x23 r hF l w H X
     refine Rg <| Cv rfl (Zo 15 rfl rfl Z0n) fun g24 => Zd Zv 15 rfl <| Nl ?_
     exact ⟨rfl, g24, FX rfl⟩
    case hb1 =>
     rintro ⟨b18, b19, b20, b21⟩ x23 r h S1 ⟨g24, hfit⟩ l w H X
     refine AW.fit (d := []) (L := [(3, Ze g5 (Lens.id (kas (Ze g2 (Lens.id Z1s))))), (5, Ze g7 (Lens.id (Z3 (Z1 24 Z2)))), (6, Ze g8 (Lens.id (Z1 24 Zp))), (7, rd Z7 false), (8, rd Z7 false), (10, Ze g11 (Lens.id (Z0 .i64))), (11, Ze g13 (Lens.id (Z1 24 Zp))), (12, Ze g14 (Lens.id Z7)), (13, Ze g15 (Lens.id Z7)), (14, Ze g24 (Lens.id (Z1 24 Z2)))]) (M := [(4, Zf g5 286 (kas (Ze g2 (Lens.id Z1s))) ()), (0, Zf g2 gT Z1s b18), (6, Zf g7 229 (Z3 (Z1 24 Z2)) l4), (7, Zf g8 44 (Z1 24 Zp) (Vector.replicate 24 Z00)), (11, Zf g11 3 (Z0 .i64) x10.2), (12, Zf g13 44 (Z1 24 Zp) b19), (13, Zf g14 4 Z7 b20), (14, Zf g15 4 Z7 b21), (15, Zf g24 87 (Z1 24 Z2) x23)]) hfit <| AW.bodyT ?_
     change Z7w l4 x10 R_cover_look_at b18 b19 b20 b21 x23 = some r at h
     unfold Z7w at h
     refine bk <| sq ?_
     obtain ⟨s25, hs25, b26, hb26, h⟩ := bs2 h
     refine AR Zz (by kernel_rfl) <| Sd (lo [3] [4] rfl fun S hs hr => Zz9 (A := Ze g2 (Lens.id Z1s)) rfl rfl rfl (Y0u _) (vh hs 3 rfl rfl) (i := 4) ((hr 4 rfl).trans rfl)) <| Zu Zv 15 rfl <| Zu Zqa 6 rfl <| Zu Zq 11 rfl <| Sd (lo [46] [] rfl fun S hs hr => Z02 rfl rfl (vh hs 46 rfl rfl) (vk rfl)) <| Sd (lo [45, 47] [] rfl fun S hs hr => Ztg hs25 rfl rfl Z1v (vh hs 45 rfl rfl) (vh hs 47 rfl rfl)) <| Sd (Z11 (us := [(49, Z2k (rd (Z1 24 Zp) b26.1) (rd Z7 b26.2.1) (rd Z7 b26.2.2.1))]) (ur := [(0, Zf g2 gT Z1s b26.2.2.2)]) [43, 44, 48] [0] rfl fun S hs hr => Yjv 0 (xs := [.tmp 43, .tmp 44, .tmp 48]) (hR_cover_look_at _ _ _ _ _ _ hb26) Zw7 rfl rfl ⟨vt ((hs 43 rfl).trans rfl), vt ((hs 44 rfl).trans rfl), vt ((hs 48 rfl).trans rfl), trivial⟩ ((hr 0 rfl).trans rfl)) <| Sd (lo [49] [] rfl fun S hs hr => Zk (A := Z2k (rd (Z1 24 Zp) b26.1) (rd Z7 b26.2.1) (rd Z7 b26.2.2.1)) rfl rfl (vh hs 49 rfl rfl)) <| Sd (lo [42] [] rfl fun S hs hr => Zcq rfl rfl (vh hs 42 rfl rfl)) <| Sd (lo [42] [] rfl fun S hs hr => Zcj rfl rfl (vh hs 42 rfl rfl)) <| Sd (lo [42] [] rfl fun S hs hr => Zbb rfl rfl (vh hs 42 rfl rfl)) <| SSt Z15 12 rfl <| SSt ty4 13 rfl <| SSt ty4 14 rfl <| Sn <| SR <| Ld ty4 13 rfl <| Md rfl <| Gd rfl (fun hq => Z0g rfl rfl ty4 (vt rfl) (i := 14) rfl) <| Gd rfl (fun hq => Z0s rfl rfl (Z6 rfl hq)) <| Ac (Z4g rfl rfl (vt rfl) (vt rfl)) rfl <| Nl <| Cq rfl h (fun h => ?_) (fun h => ?_)
     ·refine xt ?_
      obtain rfl := si h
      exact ⟨_, (b26.2.2.2, b26.1, b26.2.1, b26.2.2.1), Turn.refl, rfl, ⟨rfl, rfl, rfl, rfl, rfl, rfl, rfl, rfl, trivial⟩⟩
     ·refine sk ?_
      obtain rfl := si h
      exact ⟨_, (b26.2.2.2, b26.1, b26.2.1, b26.2.2.1), Turn.refl, rfl, ⟨rfl, rfl, rfl, rfl, rfl, rfl, rfl, rfl, trivial⟩⟩
    case he1 =>
     intro D
     cases z22 with
     | go s27 =>
      change _ = some r at h
      refine sq <| AR Zz (by kernel_rfl) <| Zu Z15 12 rfl <| Zu ty4 13 rfl <| Zu ty4 14 rfl <| SSt Z15 7 rfl <| SAs rfl <| SAs rfl <| Sn <| rt ?_
      cases h; exact ⟨rfl, 3001, _, rfl, Zlb (i := 0) Tryz.results235 rfl (Zx rfl (i := 7) rfl Z15) (Z4 rfl) (Z4 rfl) rfl⟩
     | out c s27 =>
      change (bif Zo2 1 c then _ else _) = some r at h
      cases hc : Zo2 1 c with
      | true =>
       rw [hc] at h
       have hc := Ygh hc
       subst hc
       change _ = some r at h
       refine xt <| sq <| AR Zz (by kernel_rfl) <| Zu Z15 12 rfl <| Zu ty4 13 rfl <| Zu ty4 14 rfl <| SSt Z15 7 rfl <| SAs rfl <| SAs rfl <| Sn <| rt ?_
       cases h; exact ⟨rfl, 3001, _, rfl, Zlb (i := 0) Tryz.results235 rfl (Zx rfl (i := 7) rfl Z15) (Z4 rfl) (Z4 rfl) rfl⟩
      | false =>
       rw [hc] at h
       cases h
def Z6i : Nat → (cover_look → Z5 → (List Z5) → Option (Z18 × Bool × Bool × cover_look))
 | 0 => (fun _ _ _ => none)
 | n + 1 => (Zhy (Z6i n))
theorem Zwu : ∀ n : Nat, (∀ (g2 gT : Nat) (s1 : cover_look) (x3 : Z5) (l4 : (List Z5)) (r : (Z18 × Bool × Bool × cover_look)), (Z6i n) s1 x3 l4 = some r → Con Tryz.prog 235 [Ze g2 (Lens.id Z1s), rd (Z1 24 Z2) x3, rd (Z3 (Z1 24 Z2)) l4] (Zf g2 gT Z1s s1) (fun _ : Unit => Z2k (rd (Z1 24 Zp) r.1) (rd Z7 r.2.1) (rd Z7 r.2.2.1)) (fun _ => Zf g2 gT Z1s r.2.2.2))
 | 0 => (by intros; rename_i h; cases h)
 | n + 1 => by
  have ih := Zwu n
  exact (Y5v (Z6i n) ih)
def Zsv (s1 : cover_look) (x3 : Z5) (l4 : (List Z5)) : Option (Z18 × Bool × Bool × cover_look) := (Z6i Z0w) s1 x3 l4
theorem Yb3 : ∀ (g2 gT : Nat) (s1 : cover_look) (x3 : Z5) (l4 : (List Z5)) (r : (Z18 × Bool × Bool × cover_look)), Zsv s1 x3 l4 = some r → Con Tryz.prog 235 [Ze g2 (Lens.id Z1s), rd (Z1 24 Z2) x3, rd (Z3 (Z1 24 Z2)) l4] (Zf g2 gT Z1s s1) (fun _ : Unit => Z2k (rd (Z1 24 Zp) r.1) (rd Z7 r.2.1) (rd Z7 r.2.2.1)) (fun _ => Zf g2 gT Z1s r.2.2.2) := Zwu Z0w
def Zie (x1 : Z5) (l2 : (List Z5)) (m3 : Int) : Option (Z18 × Bool × Int) :=
 (Zsv (⟨(⟨(Z1t m3 0), (decide (m3 ≥ 1099511627776))⟩ : cover_purse)⟩ : cover_look) x1 l2).bind fun b7 => (bif (!b7.2.2.1) then some ((Vector.replicate 24 Z00), false, 5) else some (b7.1, b7.2.1, 0))
theorem Y5e : Q3 Tryz.prog 170 (rd (Z1 24 Z2)) (rd (Z3 (Z1 24 Z2))) (rd (Z0 .i64)) (fun r => Z2k (rd (Z1 24 Zp) r.1) (rd Z7 r.2.1) (rd (Z0 .i64) r.2.2)) Zie := fun x1 l2 m3 r h => I0 Tryz.func170 rfl Tryz.ntmps170 rfl fun w H => by
 unfold Zie at h
 refine SR <| Cv rfl (Zn 4 rfl rfl (vt rfl)) fun g4 => Cv rfl (Zo 7 rfl rfl Z35) fun g5 => Ab rfl <| Ak rfl <| Nl <| SR <| Md rfl <| Ac (Z8y rfl rfl (vt rfl) (vk rfl)) rfl <| Md rfl <| Ac (Z57 rfl rfl (vt rfl) (vk rfl)) rfl <| Ac (opb (⟨(Z1t m3 0), (decide (m3 ≥ 1099511627776))⟩ : cover_purse) Ybo rfl Yav (pc Y42 (vt rfl) <| pc Ybk (vt rfl) <| pn rfl)) rfl <| Ac (opb (⟨(⟨(Z1t m3 0), (decide (m3 ≥ 1099511627776))⟩ : cover_purse)⟩ : cover_look) Ydu rfl Ydy (pc Yid (vt rfl) <| pn rfl)) rfl <| Cv rfl (Zn 20 rfl rfl (vt rfl)) fun g6 => Ac (Z04 (A := Ze g6 (Lens.id Z1s)) rfl rfl (vt rfl)) rfl <| Nl <| sq ?_
 obtain ⟨b7, hb7, h⟩ := Za h
 refine Rg <| Mp rfl <| Ld Zv 4 rfl <| Md rfl <| Cv rfl (Z1o 20 (xs := [.tmp 21, .tmp 22, .tmp 23]) (Yb3 _ _ _ _ _ _ hb7) Zw7 rfl rfl ⟨vt rfl, vt rfl, vt rfl, trivial⟩ rfl) fun _u => Ac (Zk (A := Z2k (rd (Z1 24 Zp) b7.1) (rd Z7 b7.2.1) (rd Z7 b7.2.2.1)) rfl rfl (vt rfl)) rfl <| Ac (Zcq rfl rfl (vt rfl)) rfl <| Ac (Zcj rfl rfl (vt rfl)) rfl <| Ac (Zbb rfl rfl (vt rfl)) rfl <| Cv rfl (Zo 11 rfl rfl Z35) fun g8 => Zd Z15 11 rfl <| As rfl <| As rfl <| Nl <| sq <| SR <| Md rfl <| Ac (Z0s rfl rfl (vt rfl)) rfl <| Nl <| Cq rfl h (fun h => ?_) (fun h => ?_)
 ·refine SR <| Ac (Z13 (ps := []) (x := (Vector.replicate 24 Z00)) rfl rfl rfl (by kernel_rfl) Z35 rfl) rfl <| Zd Z15 7 rfl <| Ab rfl <| Ak rfl <| Nl <| rt ?_
  cases h; exact Z6n Tryz.results170 rfl (Zx rfl (i := 7) rfl Z15) (Z4 rfl) (Z4 rfl)
 ·refine sk <| SR <| Ld Z15 11 rfl <| Md rfl <| Zd Z15 7 rfl <| As rfl <| Ak rfl <| Nl <| rt ?_
  cases h; exact Z6n Tryz.results170 rfl (Zx rfl (i := 7) rfl Z15) (Z4 rfl) (Z4 rfl)
def Zn2 (s : List Rule) : Option (List Rule) := Z0y [] s
theorem Yev (s : List Rule) (r : List Rule) (h : Zn2 s = some r) : Con Tryz.prog 240 [rd (Z3 Zy) s] emp (fun v => Zj v) (fun v => Zh v 90 Zy r) := by
 refine Con.intro0 Tryz.func240 rfl Tryz.ntmps240 rfl fun w H => ?_
 unfold Zn2 at h
 refine AW.newnil 1001 90 Zy <| SR <| Ac (Z04 (A := Zj (.slice none 0 0)) rfl rfl vc) rfl <| Nl <| sq <| SR <| Md rfl <| Ct rfl (Zl3 rfl rfl Z1m (vt rfl)) ?_
 rintro _ ⟨b, hb, rfl⟩
 refine Nl <| Cn rfl (fun hc => ?_) (fun hc => ?_)
 ·obtain rfl := hb hc
  refine SR <| Ac (Z04 (A := Zj (.slice none 0 0)) rfl rfl vc) rfl <| Nl <| rt ?_
  obtain rfl := (Z9v h).2
  exact Z50 (i := 1001) Tryz.results240 rfl rfl rfl
 ·refine sk <| SR <| Cv rfl (Z43 1002 (ps := []) (l := []) rfl rfl Z1m Z4c rfl rfl rfl rfl) fun v1 => Md rfl <| Cv rfl (Z29 1002 h rfl rfl Zeb (vt rfl) rfl (vt rfl)) fun v2 => Aw rfl <| Nl <| rt ?_
  exact Z50 (i := 1002) Tryz.results240 rfl rfl rfl
def Z9n : Nat → Nat → (List Rule) → Option (List Rule)
 | 0, i6, l5 => some l5
 | m7 + 1, i6, l5 => (lget l5 (i6 : Int)).bind fun x8 => (Zbr x8.Atoms).bind fun x9 => (lget l5 (i6 : Int)).bind fun x10 => (Z9n m7) (i6 + 1) (List.set l5 (i6 : Int).toNat { x10 with Atoms := x9 })
def Zgs (l1 : (List Rule)) : Option (List Rule) :=
 (Zn2 l1).bind fun x2 => Z9n ((x2.length : Int) : Int).toNat 0 x2
theorem Y55 : Q1 Tryz.prog 179 (rd (Z3 Zy)) (rd (Z3 Zy)) Zgs := fun l1 r h => I0 Tryz.func179 rfl Tryz.ntmps179 rfl fun w H => by
 unfold Zgs at h
 refine SR <| Ac (Z04 (A := rd (Z3 Zy) []) rfl rfl Z26) rfl <| Nl <| sq ?_
 obtain ⟨x2, hx2, h⟩ := Za h
 refine Rg <| Md rfl <| Cv rfl (Z1o 1001 (xs := [.tmp 5]) (Yev _ _ hx2) Y7h rfl rfl ⟨vt rfl, trivial⟩ rfl) fun v3 => Aw rfl <| Nl <| sq <| SR <| Mw rfl <| Ac (Z5s 1001 rfl rfl Z1m (vt rfl) rfl) rfl <| Mk rfl <| Nl <| bk <| LG (d := []) (ν := Nat × Nat × (List Rule)) (fun (m7, i6, l5) => (Cnt (x2.length : Int) i6 m7 ∧ Z9n m7 i6 l5 = some r, m7, [(3, Zj v3), (8, rd (Z0 .i64) (x2.length : Int)), (9, rd (Z0 .i64) (i6 : Int))], [(1001, Zh v3 90 Zy l5)])) (((x2.length : Int) : Int).toNat, 0, x2) ⟨Cnt.start _, h⟩ (FX rfl) ?_
 rintro ⟨m7, i6, l5⟩ ⟨hsf1, h⟩
 dsimp only at hsf1 h ⊢
 cases m7 with
 | zero =>
  unfold Z9n at h
  refine SR <| Ac (Zl rfl rfl (vt rfl) (vt rfl)) rfl <| Nl <| sq <| Cn rfl (fun hc => absurd (of_decide_eq_true hc) hsf1.zero) (fun hc => ?_)
  refine xt <| SR <| Mw rfl <| Aw rfl <| Nl <| AW.freezes [2, 3, 23] 1001 rfl ⟨rfl, rfl, rfl, trivial⟩ rfl <| rt ?_
  cases h; exact Zc Tryz.results179 rfl (Z4 rfl)
 | succ m7 =>
  unfold Z9n at h
  refine SR <| Ac (Zl rfl rfl (vt rfl) (vt rfl)) rfl <| Nl <| sq <| Cn rfl (fun hc => ?_) (fun hc => absurd hsf1.succ (of_decide_eq_false hc))
  have hlti6 := of_decide_eq_true hc
  refine sk <| sq <| bk <| SR <| Md rfl <| As rfl <| Nl ?_
  obtain ⟨x8, hx8, x9, hx9, x10, hx10, h⟩ := bs3 h
  refine Rg <| Mw rfl <| Md rfl <| Mw rfl <| Md rfl <| Ac (Z1r 1001 rfl rfl Z1m (vt rfl) rfl (vt rfl) hx8) rfl <| Ac (Zac lRule_1 rfl rfl Zc9 (vt rfl)) rfl <| Ac (Z1f 1001 rfl rfl Z5z (vt rfl) rfl (Z0e hx8).2) rfl <| Cl [18] (Zvr _ _ hx9) Zuj rfl <| Ac (Z1r 1001 rfl rfl Z1m (vt rfl) rfl (vt rfl) hx10) rfl <| Ac (Zac lRule_1 rfl rfl Zc9 (vt rfl)) rfl <| Ac (Z2d 1001 rfl rfl Z5z (vt rfl) rfl (Z0e hx10).2 (vt rfl)) rfl <| Nl <| Rg <| Ac (Z21 (t := 8) rfl rfl (vt rfl) (vk rfl) (vt rfl) hlti6) rfl <| Md rfl <| Nl ?_
  exact ⟨(_, _, _), Nat.lt_succ_self _, ⟨hsf1.next, h⟩, FX rfl⟩
def Z7n (m2 : Int) : (List Rule) → Nat → (List Rule) → (List Z5) → Option ((List Rule) × Int)
 | [], i11, l7, l9 => (Zgs l7).bind fun x13 => some (x13, 0)
 | x14 :: l12, i11, l7, l9 => (Zie x14.Cube l9 m2).bind fun x16 => (bif (decide (x16.2.2 ≠ 0)) then some ([], x16.2.2) else (bif (!x16.2.1) then (Z7n m2 l12) (i11 + 1) l7 l9 else (Z0y l7 [x14]).bind fun l18 => (Z0y l9 [x14.Cube]).bind fun l20 => (Z7n m2 l12) (i11 + 1) l18 l20))
def Zo4 (l1 : (List Rule)) (m2 : Int) : Option ((List Rule) × Int) :=
 Z7n m2 l1 0 [] []
theorem Y9h : Q2 Tryz.prog 111 (rd (Z3 Zy)) (rd (Z0 .i64)) (fun r => Z1c (rd (Z3 Zy) r.1) (rd (Z0 .i64) r.2)) Zo4 := fun l1 m2 r h => I0 Tryz.func111 rfl Tryz.ntmps111 rfl fun w H => by
 unfold Zo4 at h
 refine SR <| Ac (Z04 (A := rd (Z3 Zy) []) rfl rfl Z26) rfl <| Ak rfl <| Nl <| AW.scope <| sq <| AW.newnil 1001 90 Zy <| Rg <| Ac (Z04 rfl rfl vc) rfl <| Nl <| sq <| AW.newnil 1002 87 (Z1 24 Z2) <| Rg <| Ac (Z04 rfl rfl vc) rfl <| Nl <| sq <| AW.label <| sq <| SR <| Md rfl <| Ac (Z09 rfl rfl Z1m (vt rfl)) rfl <| Mk rfl <| Nl <| bk <| LG (d := []) (ν := (List Rule) × Nat × (List Rule) × (List Z5) × Value × Value) (fun (l12, i11, l7, l9, v8, v10) => (Sfx l1 i11 l12 ∧ Z7n m2 l12 i11 l7 l9 = some r, l12.length, [(1, rd (Z0 .i64) m2), (6, Zj v8), (7, Zj v10), (13, rd (Z3 Zy) l1), (14, rd (Z0 .i64) (l1.length : Int)), (15, rd (Z0 .i64) (i11 : Int))], [(1001, Zh v8 90 Zy l7), (1002, Zh v10 87 (Z1 24 Z2) l9)])) (l1, 0, [], [], (.slice none 0 0), (.slice none 0 0)) ⟨Sfx.start _, h⟩ (FX rfl) ?_
 rintro ⟨l12, i11, l7, l9, v8, v10⟩ ⟨hsf1, h⟩
 dsimp only at hsf1 h ⊢
 cases l12 with
 | nil =>
  unfold Z7n at h
  refine SR <| Ac (Zl rfl rfl (vt rfl) (vt rfl)) rfl <| Nl <| sq <| Cn rfl (fun hc => absurd (of_decide_eq_true hc) hsf1.nil) (fun hc => ?_)
  refine xt <| sq <| AW.freezes [6] 1001 rfl ⟨rfl, trivial⟩ rfl ?_
  obtain ⟨x13, hx13, h⟩ := Za h
  refine Rg <| Md rfl <| Cl [45] (Y55 _ _ hx13) Ya0 rfl <| As rfl <| Ak rfl <| Nl <| rt ?_
  cases h; exact Z1x Tryz.results111 rfl (Z4 rfl) (Z4 rfl)
 | cons x14 l12 =>
  unfold Z7n at h
  refine SR <| Ac (Zl rfl rfl (vt rfl) (vt rfl)) rfl <| Nl <| sq <| Cn rfl (fun hc => ?_) (fun hc => absurd hsf1.cons (of_decide_eq_false hc))
  have hlti11 := of_decide_eq_true hc
  refine sk <| sq <| bk <| SR <| Ac (Z03 rfl rfl Z1m (vt rfl) (vt rfl) hsf1.lget) rfl <| Lp1 Z4n rfl <| Cv rfl (Zo 10 rfl rfl Z4c) fun g15 => Zd Z4n 10 rfl <| Nl <| sq ?_
  obtain ⟨x16, hx16, h⟩ := Za h
  refine Rg <| Zt lRule_0 Z7e rfl <| Ld Zv 10 rfl <| Mw rfl <| Md rfl <| Ac (Zse (xs := [.tmp 21, .tmp 22, .tmp 23]) 1002 (Y5e _ _ _ _ hx16) Y6b rfl rfl ⟨vB (vt rfl), vL rfl rfl, vB (vt rfl), trivial⟩) rfl <| Ac (Zk (A := Z2k (rd (Z1 24 Zp) x16.1) (rd Z7 x16.2.1) (rd (Z0 .i64) x16.2.2)) rfl rfl (vt rfl)) rfl <| Ac (Zcq rfl rfl (vt rfl)) rfl <| Ac (Zcj rfl rfl (vt rfl)) rfl <| Ac (Zbb rfl rfl (vt rfl)) rfl <| Cv rfl (Zo 11 rfl rfl Z35) fun g17 => Zd Z15 11 rfl <| As rfl <| As rfl <| Nl <| sq <| bk <| SR <| Md rfl <| Ac (Z2o rfl rfl (vt rfl) (vk rfl)) rfl <| As rfl <| Nl <| Cq rfl h (fun h => ?_) (fun h => ?_)
  ·refine SR <| Md rfl <| Ac (Z04 (A := rd (Z3 Zy) []) rfl rfl Z26) rfl <| As rfl <| Nl <| rt ?_
   cases h; exact Z1x Tryz.results111 rfl (Z4 rfl) (Z4 rfl)
  ·refine SR <| Md rfl <| Ac (Z0s rfl rfl (vt rfl)) rfl <| As rfl <| Nl <| Cq rfl h (fun h => ?_) (fun h => ?_)
   ·refine xt <| Rg <| Ac (Z21 (t := 14) rfl rfl (vt rfl) (vk rfl) (vt rfl) hlti11) rfl <| Md rfl <| Nl ?_
    exact ⟨(_, _, _, _, _, _), Nat.lt_succ_self _, ⟨hsf1.next, h⟩, FX rfl⟩
   ·refine sk ?_
    obtain ⟨l18, hl18, l20, hl20, h⟩ := bs2 h
    refine AR Zz (by kernel_rfl) <| SMw rfl <| Zu Z4n 10 rfl <| Sd (lo [36] [] rfl fun S hs hr => osl Z1m Z4c rfl (vh hs 36 rfl rfl)) <| Sd (Z11 (us := [(38, Z23 90 Zy l18)]) (ur := [(1001, emp)]) [35, 37] [1001] rfl fun S hs hr => Z98 1001 hl18 rfl rfl rfl Zeb (vh hs 35 rfl rfl) ((hr 1001 rfl).trans rfl) (vh hs 37 rfl rfl)) <| SMw rfl <| SFd lRule_0 Z7e rfl <| Zu Zv 10 rfl <| Sd (lo [41] [] rfl fun S hs hr => osl Z1v Z0n rfl (vh hs 41 rfl rfl)) <| Sd (Z11 (us := [(43, Z23 87 (Z1 24 Z2) l20)]) (ur := [(1002, emp)]) [39, 42] [1002] rfl fun S hs hr => Z98 1002 hl20 rfl rfl rfl Zfk (vh hs 39 rfl rfl) ((hr 1002 rfl).trans rfl) (vh hs 42 rfl rfl)) <| Sd (Z11 (us := [(38, top), (6, Z23 90 Zy l18)]) (ur := []) [38] [1003] rfl fun S hs hr => Zgp 1003 rfl rfl rfl rfl ((hs 38 rfl).trans rfl) ((hr 1003 rfl).trans rfl)) <| Sd (Z11 (us := [(43, top), (7, Z23 87 (Z1 24 Z2) l20)]) (ur := []) [43] [1004] rfl fun S hs hr => Zgp 1004 rfl rfl rfl rfl ((hs 43 rfl).trans rfl) ((hr 1004 rfl).trans rfl)) <| Sn <| AW.unpackR 6 1001 rfl rfl fun v19 => AW.unpackR 7 1002 rfl rfl fun v21 => Rg <| Ac (Z21 (t := 14) rfl rfl (vt rfl) (vk rfl) (vt rfl) hlti11) rfl <| Md rfl <| Nl ?_
    exact ⟨(_, _, _, _, _, _), Nat.lt_succ_self _, ⟨hsf1.next, h⟩, FX rfl⟩
def Zlf (x1 : Group) (x2 : Int) : Option Bool :=
 some (decide (x1.ID = x2))
theorem Ybq : Q2 Tryz.prog 288 (rd Z0d) (rp (Z0 .i64)) (rd Z7) Zlf := fun x1 x2 r h => I0 Tryz.func288 rfl Tryz.ntmps288 rfl fun w H => by
 unfold Zlf at h
 refine SR <| Cv rfl (Zn 3 rfl rfl (vt rfl)) fun g3 => Ab rfl <| Nl <| SR <| Zt Zbt Zed rfl <| Ld Zq 3 rfl <| Lp1 Zq rfl <| Ac (Z0f rfl rfl (vt rfl) (vt rfl)) rfl <| As rfl <| Nl <| rt ?_
 cases h; exact Zc Tryz.results288 rfl (Z4 rfl)
def Zm8 (l1 : (List Group)) (i2 : Int) : Option Int :=
 (Zge l1 (fun x => Zlf x i2)).bind fun x4 => some x4
theorem Y6j : Q2 Tryz.prog 241 (rd (Z3 Z0d)) (rd (Z0 .i64)) (rd (Z0 .i64)) Zm8 := fun l1 i2 r h => I0 Tryz.func241 rfl Tryz.ntmps241 rfl fun w H => by
 unfold Zm8 at h
 refine SR <| Cv rfl (Zn 4 rfl rfl (vt rfl)) fun g3 => Ak rfl <| Nl <| sq <| AW.freezeB 3 4 rfl rfl rfl ?_
 obtain ⟨x4, hx4, h⟩ := Za h
 refine Rg <| Md rfl <| Ac (Zad (cs := [.tmp 3]) (CAs := [rp (Z0 .i64) i2]) (fun x => Zlf x i2) rfl rfl Y38 ⟨vt rfl, trivial⟩ (fun x y h => Ybq _ _ y h)) rfl <| Cl [5, 6] (Zvs _ _ _ hx4) Y0y rfl <| As rfl <| Nl <| rt ?_
 cases h; exact Zc Tryz.results241 rfl (Z4 rfl)
end Go.Proofs.YtknpgojdkobgjaaGreat.W
set_option maxRecDepth 4000
namespace Go.Proofs.YtknpgojdkobgjaaGreat.W
open Go Go.Wb
theorem Y9m : Ent Tryz.prog 328 := Ent.mk Tryz.func328 rfl rfl
theorem Yfr : Ent Tryz.prog 289 := Ent.mk Tryz.func289 rfl rfl
theorem Y5x : Ent Tryz.prog 290 := Ent.mk Tryz.func290 rfl rfl
theorem Yj2 : Ent Tryz.prog 241 := Ent.mk Tryz.func241 rfl rfl
theorem Yfg : Ent Tryz.prog 242 := Ent.mk Tryz.func242 rfl rfl
theorem Ybj : Ent Tryz.prog 180 := Ent.mk Tryz.func180 rfl rfl
theorem Y2u : Ent Tryz.prog 111 := Ent.mk Tryz.func111 rfl rfl
theorem Y5n : Ent Tryz.prog 112 := Ent.mk Tryz.func112 rfl rfl
def Zn3 (s : List Group) : Option (List Group) := Z0y [] s
theorem Ydr (s : List Group) (r : List Group) (h : Zn3 s = some r) : Con Tryz.prog 289 [rd (Z3 Z0d) s] emp (fun v => Zj v) (fun v => Zh v 164 Z0d r) := by
 refine Con.intro0 Tryz.func289 rfl Tryz.ntmps289 rfl fun w H => ?_
 unfold Zn3 at h
 refine AW.newnil 1001 164 Z0d <| SR <| Ac (Z04 (A := Zj (.slice none 0 0)) rfl rfl vc) rfl <| Nl <| sq <| SR <| Md rfl <| Ct rfl (Zl3 rfl rfl Z2a (vt rfl)) ?_
 rintro _ ⟨b, hb, rfl⟩
 refine Nl <| Cn rfl (fun hc => ?_) (fun hc => ?_)
 ·obtain rfl := hb hc
  refine SR <| Ac (Z04 (A := Zj (.slice none 0 0)) rfl rfl vc) rfl <| Nl <| rt ?_
  obtain rfl := (Z9v h).2
  exact Z50 (i := 1001) Tryz.results289 rfl rfl rfl
 ·refine sk <| SR <| Cv rfl (Z43 1002 (ps := []) (l := []) rfl rfl Z2a Z9t rfl rfl rfl rfl) fun v1 => Md rfl <| Cv rfl (Z29 1002 h rfl rfl Zyk (vt rfl) rfl (vt rfl)) fun v2 => Aw rfl <| Nl <| rt ?_
  exact Z50 (i := 1002) Tryz.results289 rfl rfl rfl
def Znv (s : List Bucket) : Option (List Bucket) := Z0y [] s
theorem Ye9 (s : List Bucket) (r : List Bucket) (h : Znv s = some r) : Con Tryz.prog 328 [rd (Z3 Z0l) s] emp (fun v => Zj v) (fun v => Zh v 226 Z0l r) := by
 refine Con.intro0 Tryz.func328 rfl Tryz.ntmps328 rfl fun w H => ?_
 unfold Znv at h
 refine AW.newnil 1001 226 Z0l <| SR <| Ac (Z04 (A := Zj (.slice none 0 0)) rfl rfl vc) rfl <| Nl <| sq <| SR <| Md rfl <| Ct rfl (Zl3 rfl rfl Z2s (vt rfl)) ?_
 rintro _ ⟨b, hb, rfl⟩
 refine Nl <| Cn rfl (fun hc => ?_) (fun hc => ?_)
 ·obtain rfl := hb hc
  refine SR <| Ac (Z04 (A := Zj (.slice none 0 0)) rfl rfl vc) rfl <| Nl <| rt ?_
  obtain rfl := (Z9v h).2
  exact Z50 (i := 1001) Tryz.results328 rfl rfl rfl
 ·refine sk <| SR <| Cv rfl (Z43 1002 (ps := []) (l := []) rfl rfl Z2s Zpo rfl rfl rfl rfl) fun v1 => Md rfl <| Cv rfl (Z29 1002 h rfl rfl Yaf (vt rfl) rfl (vt rfl)) fun v2 => Aw rfl <| Nl <| rt ?_
  exact Z50 (i := 1002) Tryz.results328 rfl rfl rfl
def Z9p : Nat → Nat → (List Bucket) → Option (List Bucket)
 | 0, i6, l5 => some l5
 | m7 + 1, i6, l5 => (lget l5 (i6 : Int)).bind fun x8 => (Z6g x8.Acts).bind fun x9 => (lget l5 (i6 : Int)).bind fun x10 => (Z9p m7) (i6 + 1) (List.set l5 (i6 : Int).toNat { x10 with Acts := x9 })
def Zjv (l1 : (List Bucket)) : Option (List Bucket) :=
 (Znv l1).bind fun x2 => Z9p ((x2.length : Int) : Int).toNat 0 x2
theorem Yhy : Q1 Tryz.prog 290 (rd (Z3 Z0l)) (rd (Z3 Z0l)) Zjv := fun l1 r h => I0 Tryz.func290 rfl Tryz.ntmps290 rfl fun w H => by
 unfold Zjv at h
 refine SR <| Ac (Z04 (A := rd (Z3 Z0l) []) rfl rfl Z26) rfl <| Nl <| sq ?_
 obtain ⟨x2, hx2, h⟩ := Za h
 refine Rg <| Md rfl <| Cv rfl (Z1o 1001 (xs := [.tmp 5]) (Ye9 _ _ hx2) Y9m rfl rfl ⟨vt rfl, trivial⟩ rfl) fun v3 => Aw rfl <| Nl <| sq <| SR <| Mw rfl <| Ac (Z5s 1001 rfl rfl Z2s (vt rfl) rfl) rfl <| Mk rfl <| Nl <| bk <| LG (d := []) (ν := Nat × Nat × (List Bucket)) (fun (m7, i6, l5) => (Cnt (x2.length : Int) i6 m7 ∧ Z9p m7 i6 l5 = some r, m7, [(3, Zj v3), (8, rd (Z0 .i64) (x2.length : Int)), (9, rd (Z0 .i64) (i6 : Int))], [(1001, Zh v3 226 Z0l l5)])) (((x2.length : Int) : Int).toNat, 0, x2) ⟨Cnt.start _, h⟩ (FX rfl) ?_
 rintro ⟨m7, i6, l5⟩ ⟨hsf1, h⟩
 dsimp only at hsf1 h ⊢
 cases m7 with
 | zero =>
  unfold Z9p at h
  refine SR <| Ac (Zl rfl rfl (vt rfl) (vt rfl)) rfl <| Nl <| sq <| Cn rfl (fun hc => absurd (of_decide_eq_true hc) hsf1.zero) (fun hc => ?_)
  refine xt <| SR <| Mw rfl <| Aw rfl <| Nl <| AW.freezes [2, 3, 23] 1001 rfl ⟨rfl, rfl, rfl, trivial⟩ rfl <| rt ?_
  cases h; exact Zc Tryz.results290 rfl (Z4 rfl)
 | succ m7 =>
  unfold Z9p at h
  refine SR <| Ac (Zl rfl rfl (vt rfl) (vt rfl)) rfl <| Nl <| sq <| Cn rfl (fun hc => ?_) (fun hc => absurd hsf1.succ (of_decide_eq_false hc))
  have hlti6 := of_decide_eq_true hc
  refine sk <| sq <| bk <| SR <| Md rfl <| As rfl <| Nl ?_
  obtain ⟨x8, hx8, x9, hx9, x10, hx10, h⟩ := bs3 h
  refine Rg <| Mw rfl <| Md rfl <| Mw rfl <| Md rfl <| Ac (Z1r 1001 rfl rfl Z2s (vt rfl) rfl (vt rfl) hx8) rfl <| Ac (Zac Z9l rfl rfl Zbf (vt rfl)) rfl <| Ac (Z1f 1001 rfl rfl Z42 (vt rfl) rfl (Z0e hx8).2) rfl <| Cl [18] (Zwm _ _ hx9) Zp5 rfl <| Ac (Z1r 1001 rfl rfl Z2s (vt rfl) rfl (vt rfl) hx10) rfl <| Ac (Zac Z9l rfl rfl Zbf (vt rfl)) rfl <| Ac (Z2d 1001 rfl rfl Z42 (vt rfl) rfl (Z0e hx10).2 (vt rfl)) rfl <| Nl <| Rg <| Ac (Z21 (t := 8) rfl rfl (vt rfl) (vk rfl) (vt rfl) hlti6) rfl <| Md rfl <| Nl ?_
  exact ⟨(_, _, _), Nat.lt_succ_self _, ⟨hsf1.next, h⟩, FX rfl⟩
def Zck : Nat → Nat → (List Group) → Option (List Group)
 | 0, i6, l5 => some l5
 | m7 + 1, i6, l5 => (lget l5 (i6 : Int)).bind fun x8 => (Zjv x8.Buckets).bind fun x9 => (lget l5 (i6 : Int)).bind fun x10 => (Zck m7) (i6 + 1) (List.set l5 (i6 : Int).toNat { x10 with Buckets := x9 })
def Zk1 (l1 : (List Group)) : Option (List Group) :=
 (Zn3 l1).bind fun x2 => Zck ((x2.length : Int) : Int).toNat 0 x2
theorem Y86 : Q1 Tryz.prog 242 (rd (Z3 Z0d)) (rd (Z3 Z0d)) Zk1 := fun l1 r h => I0 Tryz.func242 rfl Tryz.ntmps242 rfl fun w H => by
 unfold Zk1 at h
 refine SR <| Ac (Z04 (A := rd (Z3 Z0d) []) rfl rfl Z26) rfl <| Nl <| sq ?_
 obtain ⟨x2, hx2, h⟩ := Za h
 refine Rg <| Md rfl <| Cv rfl (Z1o 1001 (xs := [.tmp 5]) (Ydr _ _ hx2) Yfr rfl rfl ⟨vt rfl, trivial⟩ rfl) fun v3 => Aw rfl <| Nl <| sq <| SR <| Mw rfl <| Ac (Z5s 1001 rfl rfl Z2a (vt rfl) rfl) rfl <| Mk rfl <| Nl <| bk <| LG (d := []) (ν := Nat × Nat × (List Group)) (fun (m7, i6, l5) => (Cnt (x2.length : Int) i6 m7 ∧ Zck m7 i6 l5 = some r, m7, [(3, Zj v3), (8, rd (Z0 .i64) (x2.length : Int)), (9, rd (Z0 .i64) (i6 : Int))], [(1001, Zh v3 164 Z0d l5)])) (((x2.length : Int) : Int).toNat, 0, x2) ⟨Cnt.start _, h⟩ (FX rfl) ?_
 rintro ⟨m7, i6, l5⟩ ⟨hsf1, h⟩
 dsimp only at hsf1 h ⊢
 cases m7 with
 | zero =>
  unfold Zck at h
  refine SR <| Ac (Zl rfl rfl (vt rfl) (vt rfl)) rfl <| Nl <| sq <| Cn rfl (fun hc => absurd (of_decide_eq_true hc) hsf1.zero) (fun hc => ?_)
  refine xt <| SR <| Mw rfl <| Aw rfl <| Nl <| AW.freezes [2, 3, 23] 1001 rfl ⟨rfl, rfl, rfl, trivial⟩ rfl <| rt ?_
  cases h; exact Zc Tryz.results242 rfl (Z4 rfl)
 | succ m7 =>
  unfold Zck at h
  refine SR <| Ac (Zl rfl rfl (vt rfl) (vt rfl)) rfl <| Nl <| sq <| Cn rfl (fun hc => ?_) (fun hc => absurd hsf1.succ (of_decide_eq_false hc))
  have hlti6 := of_decide_eq_true hc
  refine sk <| sq <| bk <| SR <| Md rfl <| As rfl <| Nl ?_
  obtain ⟨x8, hx8, x9, hx9, x10, hx10, h⟩ := bs3 h
  refine Rg <| Mw rfl <| Md rfl <| Mw rfl <| Md rfl <| Ac (Z1r 1001 rfl rfl Z2a (vt rfl) rfl (vt rfl) hx8) rfl <| Ac (Zac Zaq rfl rfl Zau (vt rfl)) rfl <| Ac (Z1f 1001 rfl rfl Zc2 (vt rfl) rfl (Z0e hx8).2) rfl <| Cl [18] (Yhy _ _ hx9) Y5x rfl <| Ac (Z1r 1001 rfl rfl Z2a (vt rfl) rfl (vt rfl) hx10) rfl <| Ac (Zac Zaq rfl rfl Zau (vt rfl)) rfl <| Ac (Z2d 1001 rfl rfl Zc2 (vt rfl) rfl (Z0e hx10).2 (vt rfl)) rfl <| Nl <| Rg <| Ac (Z21 (t := 8) rfl rfl (vt rfl) (vk rfl) (vt rfl) hlti6) rfl <| Md rfl <| Nl ?_
  exact ⟨(_, _, _), Nat.lt_succ_self _, ⟨hsf1.next, h⟩, FX rfl⟩
def Zjg (l1 : (List Group)) (i2 : Int) : Option (Group × Bool) :=
 (Zm8 l1 i2).bind fun x4 => (bif (decide (x4 < 0)) then some ((⟨0, 0, []⟩ : Group), false) else (Zfq l1 x4 (IntKind.i64.wrap (x4 + 1))).bind fun s5 => (Zk1 s5).bind fun x6 => (lget x6 0).bind fun x7 => some (x7, true))
theorem Y64 : Q2 Tryz.prog 180 (rd (Z3 Z0d)) (rd (Z0 .i64)) (fun r => Z1c (rd Z0d r.1) (rd Z7 r.2)) Zjg := fun l1 i2 r h => I0 Tryz.func180 rfl Tryz.ntmps180 rfl fun w H => by
 unfold Zjg at h
 refine SR <| Cv rfl (Zo 5 rfl rfl Z9t) fun g3 => Ab rfl <| Nl <| sq ?_
 obtain ⟨x4, hx4, h⟩ := Za h
 refine Rg <| Md rfl <| Md rfl <| Cl [7, 8] (Y6j _ _ _ hx4) Yj2 rfl <| As rfl <| Nl <| sq <| SR <| Md rfl <| Ac (Zl rfl rfl (vt rfl) (vk rfl)) rfl <| Nl <| Cq rfl h (fun h => ?_) (fun h => ?_)
 ·refine SR <| Ac (opb (⟨0, 0, []⟩ : Group) Z9t rfl Ycl (pn rfl)) rfl <| Zd Z4p 5 rfl <| Ab rfl <| Nl <| rt ?_
  cases h; exact Z1x Tryz.results180 rfl (Zx rfl (i := 5) rfl Z4p) (Z4 rfl)
 ·refine sk <| sq ?_
  obtain ⟨s5, hs5, x6, hx6, x7, hx7, h⟩ := bs3 h
  refine Rg <| Md rfl <| Md rfl <| Md rfl <| Ac (Z02 rfl rfl (vt rfl) (vk rfl)) rfl <| Ac (Ydg hs5 rfl rfl Z2a (vt rfl) (vt rfl) (vt rfl)) rfl <| Cl [17] (Y86 _ _ hx6) Yfg rfl <| Ac (Z03 rfl rfl Z2a (vt rfl) (vk rfl) hx7) rfl <| Lp1 Z4p rfl <| Zd Z4p 5 rfl <| Ab rfl <| Nl <| rt ?_
  cases h; exact Z1x Tryz.results180 rfl (Zx rfl (i := 5) rfl Z4p) (Z4 rfl)
def Z9d (l1 : (List Group)) : (List Group) → Nat → (List Group) → Option (List Group)
 | [], i6, l4 => some l4
 | x8 :: l7, i6, l4 => (Z5o l1 (i6 : Int)).bind fun s10 => (Zjg s10 x8.ID).bind fun x11 => (Z0y l4 [x11.1]).bind fun l13 => (Z9d l1 l7) (i6 + 1) l13
def Zi4 (l1 : (List Group)) : Option (List Group) :=
 Z9d l1 l1 0 []
theorem Ybv : Q1 Tryz.prog 112 (rd (Z3 Z0d)) (rd (Z3 Z0d)) Zi4 := fun l1 r h => I0 Tryz.func112 rfl Tryz.ntmps112 rfl fun w H => by
 unfold Zi4 at h
 refine SR <| Ac (Z04 (A := rd (Z3 Z0d) []) rfl rfl Z26) rfl <| Nl <| sq <| AW.newnil 1001 164 Z0d <| Rg <| Ac (Z04 rfl rfl vc) rfl <| Nl <| sq <| SR <| Md rfl <| Ac (Z09 rfl rfl Z2a (vt rfl)) rfl <| Mk rfl <| Nl <| bk <| LG (d := []) (ν := (List Group) × Nat × (List Group) × Value) (fun (l7, i6, l4, v5) => (Sfx l1 i6 l7 ∧ Z9d l1 l7 i6 l4 = some r, l7.length, [(0, rd (Z3 Z0d) l1), (3, Zj v5), (8, rd (Z3 Z0d) l1), (9, rd (Z0 .i64) (l1.length : Int)), (10, rd (Z0 .i64) (i6 : Int))], [(1001, Zh v5 164 Z0d l4)])) (l1, 0, [], (.slice none 0 0)) ⟨Sfx.start _, h⟩ (FX rfl) ?_
 rintro ⟨l7, i6, l4, v5⟩ ⟨hsf1, h⟩
 dsimp only at hsf1 h ⊢
 cases l7 with
 | nil =>
  unfold Z9d at h
  refine SR <| Ac (Zl rfl rfl (vt rfl) (vt rfl)) rfl <| Nl <| sq <| Cn rfl (fun hc => absurd (of_decide_eq_true hc) hsf1.nil) (fun hc => ?_)
  refine xt <| SR <| Mw rfl <| Aw rfl <| Nl <| AW.freezes [2, 3, 29] 1001 rfl ⟨rfl, rfl, rfl, trivial⟩ rfl <| rt ?_
  cases h; exact Zc Tryz.results112 rfl (Z4 rfl)
 | cons x8 l7 =>
  unfold Z9d at h
  refine SR <| Ac (Zl rfl rfl (vt rfl) (vt rfl)) rfl <| Nl <| sq <| Cn rfl (fun hc => ?_) (fun hc => absurd hsf1.cons (of_decide_eq_false hc))
  have hlti6 := of_decide_eq_true hc
  refine sk <| sq <| bk <| SR <| Md rfl <| Ac (Z03 rfl rfl Z2a (vt rfl) (vt rfl) hsf1.lget) rfl <| Lp1 Z4p rfl <| Cv rfl (Zo 6 rfl rfl Z9t) fun g9 => As rfl <| Zd Z4p 6 rfl <| Nl <| sq ?_
  obtain ⟨s10, hs10, x11, hx11, h⟩ := bs2 h
  refine AR Zz (by kernel_rfl) <| Zg rfl <| Zg rfl <| Sd (lo [16, 17] [] rfl fun S hs hr => Ztg hs10 rfl rfl Z2a (vh hs 16 rfl rfl) (vh hs 17 rfl rfl)) <| SFd Zbt Zed rfl <| Zu Zq 6 rfl <| SCl [18, 20] (Y64 _ _ _ hx11) Ybj rfl <| Sd (lo [21] [] rfl fun S hs hr => Zk (A := Z1c (rd Z0d x11.1) (rd Z7 x11.2)) rfl rfl (vh hs 21 rfl rfl)) <| Sd (lo [15] [] rfl fun S hs hr => Z1j rfl rfl (vh hs 15 rfl rfl)) <| Sd (lo [15] [] rfl fun S hs hr => Z1i rfl rfl (vh hs 15 rfl rfl)) <| Sd (Z11 (us := [(6, Z1u 164 Z0d Zs0)]) (ur := []) [] [] rfl fun S hs hr => Z4t rfl rfl rfl Z9t) <| Sd (Z11 (us := [(6, Z1u 164 Z0d x11.1)]) (ur := []) [6, 22] [] rfl fun S hs hr => Z54 rfl rfl Z4p ((hs 6 rfl).trans rfl) (vh hs 22 rfl rfl)) <| SAs rfl <| Sn <| AW.unpackP 6 7 rfl rfl fun g12 => ?_
  obtain ⟨l13, hl13, h⟩ := Za h
  refine Rg <| Mw rfl <| Ld Z4p 7 rfl <| Ac (osl Z2a Z9t rfl (vt rfl)) rfl <| Cv rfl (Z29 1001 hl13 rfl rfl Zyk (vt rfl) rfl (vt rfl)) fun v14 => Aw rfl <| Nl <| Rg <| Ac (Z21 (t := 9) rfl rfl (vt rfl) (vk rfl) (vt rfl) hlti6) rfl <| Md rfl <| Nl ?_
  exact ⟨(_, _, _, _), Nat.lt_succ_self _, ⟨hsf1.next, h⟩, FX rfl⟩
def Zbk (s1 : Switch) (m2 : Int) : Option (Flat × Int) :=
 (Zch s1).bind fun x5 => (Zo4 x5 m2).bind fun x6 => (bif (decide (x6.2 ≠ 0)) then some ((⟨[], []⟩ : Flat), x6.2) else (Zi4 s1.Groups).bind fun x7 => some ((⟨x6.1, x7⟩ : Flat), 0))
theorem Zr6 : Q2 Tryz.prog 54 (rd Z0p) (rd (Z0 .i64)) (fun r => Z1c (rd Z4v r.1) (rd (Z0 .i64) r.2)) Zbk := fun s1 m2 r h => I0 Tryz.func54 rfl Tryz.ntmps54 rfl fun w H => by
 unfold Zbk at h
 refine SR <| Cv rfl (Zn 3 rfl rfl (vt rfl)) fun g3 => Cv rfl (Zo 5 rfl rfl Z68) fun g4 => Ak rfl <| Nl <| sq ?_
 obtain ⟨x5, hx5, x6, hx6, h⟩ := bs2 h
 refine Rg <| Ld Z3e 3 rfl <| Cl [9] (Zxz _ _ hx5) e25 rfl <| Md rfl <| Cl [10, 11] (Y9h _ _ _ hx6) Y2u rfl <| Mt2 rfl <| Ac (Z1j rfl rfl (vt rfl)) rfl <| Ac (Z1i rfl rfl (vt rfl)) rfl <| As rfl <| As rfl <| Nl <| sq <| SR <| Md rfl <| Ac (Z2o rfl rfl (vt rfl) (vk rfl)) rfl <| Nl <| Cq rfl h (fun h => ?_) (fun h => ?_)
 ·refine SR <| Ac (opb (⟨[], []⟩ : Flat) Z68 rfl Zk3 (pn rfl)) rfl <| Md rfl <| Zd Z3q 5 rfl <| As rfl <| Nl <| rt ?_
  cases h; exact Z1x Tryz.results54 rfl (Zx rfl (i := 5) rfl Z3q) (Z4 rfl)
 ·refine sk <| sq ?_
  obtain ⟨x7, hx7, h⟩ := Za h
  refine Rg <| Md rfl <| Zt Zp1 Zrv rfl <| Ld Zcf 3 rfl <| Cl [21] (Ybv _ _ hx7) Y5n rfl <| Ac (opb (⟨x6.1, x7⟩ : Flat) Z68 rfl Zk3 (pc Y0z (vt rfl) <| pc Y0x (vt rfl) <| pn rfl)) rfl <| Zd Z3q 5 rfl <| Ak rfl <| Nl <| rt ?_
  cases h; exact Z1x Tryz.results54 rfl (Zx rfl (i := 5) rfl Z3q) (Z4 rfl)
def Z9m : (List Rule) → Nat → (List Z5) → Option (List Z5)
 | [], i6, l5 => some l5
 | x8 :: l7, i6, l5 => (lget l5 (i6 : Int)).bind fun x10 => (Z9m l7) (i6 + 1) (List.set l5 (i6 : Int).toNat x8.Cube)
def Zhp (l1 : (List Rule)) : Option (List Z5) :=
 (omk (l1.length : Int)).bind fun u2 => Z9m l1 0 (List.replicate (l1.length : Int).toNat (Vector.replicate 24 zTern))
theorem Ygl : Q1 Tryz.prog 169 (rd (Z3 Zy)) (rd (Z3 (Z1 24 Z2))) Zhp := fun l1 r h => I0 Tryz.func169 rfl Tryz.ntmps169 rfl fun w H => by
 unfold Zhp at h
 refine SR <| Ac (Z04 (A := rd (Z3 (Z1 24 Z2)) []) rfl rfl Z26) rfl <| Nl <| sq ?_
 obtain ⟨u2, hu2, h⟩ := Za h
 refine Rg <| Md rfl <| Ac (Z09 rfl rfl Z1m (vt rfl)) rfl <| Cv rfl (Y8v 1001 hu2 rfl rfl Zfk Z0n (vt rfl) (vt rfl)) fun v3 => Aw rfl <| Nl <| sq <| SR <| Md rfl <| Ac (Z09 rfl rfl Z1m (vt rfl)) rfl <| Mk rfl <| Nl <| bk <| LG (d := []) (ν := (List Rule) × Nat × (List Z5)) (fun (l7, i6, l5) => (Sfx l1 i6 l7 ∧ Z9m l7 i6 l5 = some r, l7.length, [(3, Zj v3), (9, rd (Z3 Zy) l1), (10, rd (Z0 .i64) (l1.length : Int)), (11, rd (Z0 .i64) (i6 : Int))], [(1001, Zh v3 87 (Z1 24 Z2) l5)])) (l1, 0, (List.replicate (l1.length : Int).toNat (Vector.replicate 24 zTern))) ⟨Sfx.start _, h⟩ (FX rfl) ?_
 rintro ⟨l7, i6, l5⟩ ⟨hsf1, h⟩
 dsimp only at hsf1 h ⊢
 cases l7 with
 | nil =>
  unfold Z9m at h
  refine SR <| Ac (Zl rfl rfl (vt rfl) (vt rfl)) rfl <| Nl <| sq <| Cn rfl (fun hc => absurd (of_decide_eq_true hc) hsf1.nil) (fun hc => ?_)
  refine xt <| SR <| Mw rfl <| Aw rfl <| Nl <| AW.freezes [2, 3, 22] 1001 rfl ⟨rfl, rfl, rfl, trivial⟩ rfl <| rt ?_
  cases h; exact Zc Tryz.results169 rfl (Z4 rfl)
 | cons x8 l7 =>
  unfold Z9m at h
  refine SR <| Ac (Zl rfl rfl (vt rfl) (vt rfl)) rfl <| Nl <| sq <| Cn rfl (fun hc => ?_) (fun hc => absurd hsf1.cons (of_decide_eq_false hc))
  have hlti6 := of_decide_eq_true hc
  refine sk <| sq <| bk <| SR <| Md rfl <| Ac (Z03 rfl rfl Z1m (vt rfl) (vt rfl) hsf1.lget) rfl <| Lp1 Z4n rfl <| Cv rfl (Zo 6 rfl rfl Z4c) fun g9 => As rfl <| Zd Z4n 6 rfl <| Nl ?_
  obtain ⟨x10, hx10, h⟩ := Za h
  refine Rg <| Mw rfl <| Md rfl <| Zt lRule_0 Z7e rfl <| Ld Zv 6 rfl <| Ac (Z1r 1001 rfl rfl Z1v (vt rfl) rfl (vt rfl) hx10) rfl <| Ac (Z2d 1001 rfl rfl Zv (vt rfl) rfl (Z0e hx10).2 (vt rfl)) rfl <| Nl <| Rg <| Ac (Z21 (t := 10) rfl rfl (vt rfl) (vk rfl) (vt rfl) hlti6) rfl <| Md rfl <| Nl ?_
  exact ⟨(_, _, _), Nat.lt_succ_self _, ⟨hsf1.next, h⟩, FX rfl⟩
def Z8f (x1 : Z5) : (List Z5) → Nat → (List Z5) → Option (List Z5)
 | [], i8, l6 => some l6
 | x10 :: l9, i8, l6 => (Z7s x1 x10).bind fun x12 => (bif x12.2 then (Z0y l6 [x10]).bind fun l14 => (Z8f x1 l9) (i8 + 1) l14 else (Z8f x1 l9) (i8 + 1) l6)
def Zog (x1 : Z5) (l2 : (List Z5)) : Option (List Z5) :=
 Z8f x1 l2 0 []
theorem Y4c : Q2 Tryz.prog 247 (rd (Z1 24 Z2)) (rd (Z3 (Z1 24 Z2))) (rd (Z3 (Z1 24 Z2))) Zog := fun x1 l2 r h => I0 Tryz.func247 rfl Tryz.ntmps247 rfl fun w H => by
 unfold Zog at h
 refine SR <| Cv rfl (Zn 3 rfl rfl (vt rfl)) fun g3 => Ac (Z04 (A := rd (Z3 (Z1 24 Z2)) []) rfl rfl Z26) rfl <| Nl <| sq <| AW.newnil 1001 87 (Z1 24 Z2) <| Rg <| Ac (Z04 rfl rfl vc) rfl <| Nl <| sq <| SR <| Md rfl <| Ac (Z09 rfl rfl Z1v (vt rfl)) rfl <| Mk rfl <| Nl <| bk <| LG (d := []) (ν := (List Z5) × Nat × (List Z5) × Value) (fun (l9, i8, l6, v7) => (Sfx l2 i8 l9 ∧ Z8f x1 l9 i8 l6 = some r, l9.length, [(2, Ze g3 (Lens.id (Z1 24 Z2))), (5, Zj v7), (10, rd (Z3 (Z1 24 Z2)) l2), (11, rd (Z0 .i64) (l2.length : Int)), (12, rd (Z0 .i64) (i8 : Int))], [(3, Zf g3 87 (Z1 24 Z2) x1), (1001, Zh v7 87 (Z1 24 Z2) l6)])) (l2, 0, [], (.slice none 0 0)) ⟨Sfx.start _, h⟩ (FX rfl) ?_
 rintro ⟨l9, i8, l6, v7⟩ ⟨hsf1, h⟩
 dsimp only at hsf1 h ⊢
 cases l9 with
 | nil =>
  unfold Z8f at h
  refine SR <| Ac (Zl rfl rfl (vt rfl) (vt rfl)) rfl <| Nl <| sq <| Cn rfl (fun hc => absurd (of_decide_eq_true hc) hsf1.nil) (fun hc => ?_)
  refine xt <| SR <| Mw rfl <| Aw rfl <| Nl <| AW.freezes [4, 5, 28] 1001 rfl ⟨rfl, rfl, rfl, trivial⟩ rfl <| rt ?_
  cases h; exact Zc Tryz.results247 rfl (Z4 rfl)
 | cons x10 l9 =>
  unfold Z8f at h
  refine SR <| Ac (Zl rfl rfl (vt rfl) (vt rfl)) rfl <| Nl <| sq <| Cn rfl (fun hc => ?_) (fun hc => absurd hsf1.cons (of_decide_eq_false hc))
  have hlti8 := of_decide_eq_true hc
  refine sk <| sq <| bk <| SR <| Ac (Z03 rfl rfl Z1v (vt rfl) (vt rfl) hsf1.lget) rfl <| Lp1 Zv rfl <| Cv rfl (Zo 8 rfl rfl Z0n) fun g11 => Zd Zv 8 rfl <| Nl <| sq ?_
  obtain ⟨x12, hx12, h⟩ := Za h
  refine Rg <| Ld Zv 3 rfl <| Ld Zv 8 rfl <| Cl [17, 18] (Zot _ _ _ hx12) Zn9 rfl <| Mt2 rfl <| Ac (Z1j rfl rfl (vt rfl)) rfl <| Ac (Z1i rfl rfl (vt rfl)) rfl <| Cv rfl (Zo 9 rfl rfl Z0n) fun g13 => Zd Zv 9 rfl <| As rfl <| Nl <| SR <| Md rfl <| Nl <| Cq rfl h (fun h => ?_) (fun h => ?_)
  ·obtain ⟨l14, hl14, h⟩ := Za h
   refine Rg <| Mw rfl <| Ld Zv 8 rfl <| Ac (osl Z1v Z0n rfl (vt rfl)) rfl <| Cv rfl (Z29 1001 hl14 rfl rfl Zfk (vt rfl) rfl (vt rfl)) fun v15 => Aw rfl <| Nl <| Rg <| Ac (Z21 (t := 11) rfl rfl (vt rfl) (vk rfl) (vt rfl) hlti8) rfl <| Md rfl <| Nl ?_
   exact ⟨(_, _, _, _), Nat.lt_succ_self _, ⟨hsf1.next, h⟩, FX rfl⟩
  ·refine sk <| Rg <| Ac (Z21 (t := 11) rfl rfl (vt rfl) (vk rfl) (vt rfl) hlti8) rfl <| Md rfl <| Nl ?_
   exact ⟨(_, _, _, _), Nat.lt_succ_self _, ⟨hsf1.next, h⟩, FX rfl⟩
end Go.Proofs.YtknpgojdkobgjaaGreat.W
set_option maxRecDepth 4000
namespace Go.Proofs.YtknpgojdkobgjaaGreat.W
open Go Go.Wb
theorem Y7e : Ent Tryz.prog 247 := Ent.mk Tryz.func247 rfl rfl
theorem Yh2 : Ent Tryz.prog 248 := Ent.mk Tryz.func248 rfl rfl
theorem Yak : Ent Tryz.prog 169 := Ent.mk Tryz.func169 rfl rfl
theorem Ycn : Ent Tryz.prog 185 := Ent.mk Tryz.func185 rfl rfl
theorem Y2v : Ent Tryz.prog 117 := Ent.mk Tryz.func117 rfl rfl
theorem Y6f : Ent Tryz.prog 243 := Ent.mk Tryz.func243 rfl rfl
theorem Yi7 : Ent Tryz.prog 244 := Ent.mk Tryz.func244 rfl rfl
theorem Yh0 : Ent Tryz.prog 181 := Ent.mk Tryz.func181 rfl rfl
def Z83 : (List Tern) → Nat → Int → Option Int
 | [], i5, n4 => some n4
 | x7 :: l6, i5, n4 => (Zea x7.Mask).bind fun x9 => (Z83 l6) (i5 + 1) (IntKind.i64.wrap (n4 + x9))
def Ziz (x1 : Z5) : Option Int :=
 Z83 (Vector.toList x1) 0 0
theorem Yht : Q1 Tryz.prog 248 (rd (Z1 24 Z2)) (rd (Z0 .i64)) Ziz := fun x1 r h => I0 Tryz.func248 rfl Tryz.ntmps248 rfl fun w H => by
 unfold Ziz at h
 refine SR <| Cv rfl (Zn 2 rfl rfl (vt rfl)) fun g2 => Ak rfl <| Nl <| SR <| Ak rfl <| Nl <| sq <| SR <| Ld Zv 2 rfl <| Mk rfl <| Nl <| bk <| LG (d := []) (ν := (List Tern) × Nat × Int) (fun (l6, i5, n4) => (Sfx (Vector.toList x1) i5 l6 ∧ Z83 l6 i5 n4 = some r, l6.length, [(3, rd (Z0 .i64) n4), (6, rd (Z1 24 Z2) x1), (7, rd (Z0 .i64) (i5 : Int))], [])) ((Vector.toList x1), 0, 0) ⟨Sfx.start _, h⟩ (FX rfl) ?_
 rintro ⟨l6, i5, n4⟩ ⟨hsf1, h⟩
 dsimp only at hsf1 h ⊢
 cases l6 with
 | nil =>
  unfold Z83 at h
  refine SR <| Ac (Zl rfl rfl (vt rfl) (vk rfl)) rfl <| Nl <| sq <| Cn rfl (fun hc => absurd (of_decide_eq_true hc) (hsf1.niln (by simp))) (fun hc => ?_)
  refine xt <| SR <| Md rfl <| As rfl <| Nl <| rt ?_
  cases h; exact Zc Tryz.results248 rfl (Z4 rfl)
 | cons x7 l6 =>
  unfold Z83 at h
  refine SR <| Ac (Zl rfl rfl (vt rfl) (vk rfl)) rfl <| Nl <| sq <| Cn rfl (fun hc => ?_) (fun hc => absurd (hsf1.consn (by simp)) (of_decide_eq_false hc))
  have hlti5 := of_decide_eq_true hc
  refine sk <| sq <| bk <| SR <| Ac (Zdd rfl rfl Z1d Zw (vt rfl) (vt rfl) hsf1.lget) rfl <| Cv rfl (Zo 6 rfl rfl Z17) fun g8 => Zd Zw 6 rfl <| Nl ?_
  obtain ⟨x9, hx9, h⟩ := Za h
  refine Rg <| Md rfl <| Zt lTern_1 Z1h rfl <| Ld Zs 6 rfl <| Cl [12] (Ztz _ _ hx9) Zvj rfl <| Ac (Z02 rfl rfl (vt rfl) (vt rfl)) rfl <| As rfl <| Nl <| Rg <| Ac (Z70 rfl rfl (vt rfl) (vk rfl) rfl hlti5) rfl <| Md rfl <| Nl ?_
  exact ⟨(_, _, _), Nat.lt_succ_self _, ⟨hsf1.next, h⟩, FX rfl⟩
def Z9g : (List Z5) → Nat → Int → Option Int
 | [], i7, n6 => some n6
 | x9 :: l8, i7, n6 => (Ziz x9).bind fun x11 => (Z9g l8) (i7 + 1) (Z46 (IntKind.i64.wrap (n6 * (Z1t x11 1))) 1099511627776)
def Zja (x1 : Z5) (l2 : (List Z5)) : Option Int :=
 (Zog x1 l2).bind fun x4 => Z9g x4 0 (Z46 (IntKind.i64.wrap ((x4.length : Int) + 1)) 1099511627776)
theorem Ydh : Q2 Tryz.prog 185 (rd (Z1 24 Z2)) (rd (Z3 (Z1 24 Z2))) (rd (Z0 .i64)) Zja := fun x1 l2 r h => I0 Tryz.func185 rfl Tryz.ntmps185 rfl fun w H => by
 unfold Zja at h
 refine SR <| Cv rfl (Zn 3 rfl rfl (vt rfl)) fun g3 => Ak rfl <| Nl <| sq ?_
 obtain ⟨x4, hx4, h⟩ := Za h
 refine Rg <| Ld Zv 3 rfl <| Md rfl <| Cl [9, 10] (Y4c _ _ _ hx4) Y7e rfl <| As rfl <| Nl <| SR <| Md rfl <| Ac (Z09 rfl rfl Z1v (vt rfl)) rfl <| Ac (Z02 rfl rfl (vt rfl) (vk rfl)) rfl <| Ac (Ziw rfl rfl (vt rfl) (vk rfl)) rfl <| As rfl <| Nl <| sq <| SR <| Md rfl <| Ac (Z09 rfl rfl Z1v (vt rfl)) rfl <| Mk rfl <| Nl <| bk <| LG (d := []) (ν := (List Z5) × Nat × Int) (fun (l8, i7, n6) => (Sfx x4 i7 l8 ∧ Z9g l8 i7 n6 = some r, l8.length, [(6, rd (Z0 .i64) n6), (16, rd (Z3 (Z1 24 Z2)) x4), (17, rd (Z0 .i64) (x4.length : Int)), (18, rd (Z0 .i64) (i7 : Int))], [])) (x4, 0, (Z46 (IntKind.i64.wrap ((x4.length : Int) + 1)) 1099511627776)) ⟨Sfx.start _, h⟩ (FX rfl) ?_
 rintro ⟨l8, i7, n6⟩ ⟨hsf1, h⟩
 dsimp only at hsf1 h ⊢
 cases l8 with
 | nil =>
  unfold Z9g at h
  refine SR <| Ac (Zl rfl rfl (vt rfl) (vt rfl)) rfl <| Nl <| sq <| Cn rfl (fun hc => absurd (of_decide_eq_true hc) hsf1.nil) (fun hc => ?_)
  refine xt <| SR <| Md rfl <| As rfl <| Nl <| rt ?_
  cases h; exact Zc Tryz.results185 rfl (Z4 rfl)
 | cons x9 l8 =>
  unfold Z9g at h
  refine SR <| Ac (Zl rfl rfl (vt rfl) (vt rfl)) rfl <| Nl <| sq <| Cn rfl (fun hc => ?_) (fun hc => absurd hsf1.cons (of_decide_eq_false hc))
  have hlti7 := of_decide_eq_true hc
  refine sk <| sq <| bk <| SR <| Ac (Z03 rfl rfl Z1v (vt rfl) (vt rfl) hsf1.lget) rfl <| Lp1 Zv rfl <| Cv rfl (Zo 9 rfl rfl Z0n) fun g10 => Zd Zv 9 rfl <| Nl ?_
  obtain ⟨x11, hx11, h⟩ := Za h
  refine Rg <| Md rfl <| Ld Zv 9 rfl <| Cl [23] (Yht _ _ hx11) Yh2 rfl <| Ac (Z8y rfl rfl (vt rfl) (vk rfl)) rfl <| Ac (Z7i rfl rfl (vt rfl) (vt rfl)) rfl <| Ac (Ziw rfl rfl (vt rfl) (vk rfl)) rfl <| As rfl <| Nl <| Rg <| Ac (Z21 (t := 17) rfl rfl (vt rfl) (vk rfl) (vt rfl) hlti7) rfl <| Md rfl <| Nl ?_
  exact ⟨(_, _, _), Nat.lt_succ_self _, ⟨hsf1.next, h⟩, FX rfl⟩
def Zcg (x2 : (List Z5)) : (List Z5) → Nat → Int → Option Int
 | [], i5, n4 => some n4
 | x7 :: l6, i5, n4 => (Z4m x2 (i5 : Int)).bind fun s9 => (Zja x7 s9).bind fun x10 => (Zcg x2 l6) (i5 + 1) (Z1t n4 x10)
def Zjr (l1 : (List Rule)) : Option Int :=
 (Zhp l1).bind fun x2 => Zcg x2 x2 0 0
theorem Ybh : Q1 Tryz.prog 117 (rd (Z3 Zy)) (rd (Z0 .i64)) Zjr := fun l1 r h => I0 Tryz.func117 rfl Tryz.ntmps117 rfl fun w H => by
 unfold Zjr at h
 refine SR <| Ak rfl <| Nl <| sq ?_
 obtain ⟨x2, hx2, h⟩ := Za h
 refine Rg <| Md rfl <| Cl [7] (Ygl _ _ hx2) Yak rfl <| As rfl <| Nl <| SR <| Ak rfl <| Nl <| sq <| SR <| Md rfl <| Ac (Z09 rfl rfl Z1v (vt rfl)) rfl <| Mk rfl <| Nl <| bk <| LG (d := []) (ν := (List Z5) × Nat × Int) (fun (l6, i5, n4) => (Sfx x2 i5 l6 ∧ Zcg x2 l6 i5 n4 = some r, l6.length, [(3, rd (Z3 (Z1 24 Z2)) x2), (4, rd (Z0 .i64) n4), (9, rd (Z3 (Z1 24 Z2)) x2), (10, rd (Z0 .i64) (x2.length : Int)), (11, rd (Z0 .i64) (i5 : Int))], [])) (x2, 0, 0) ⟨Sfx.start _, h⟩ (FX rfl) ?_
 rintro ⟨l6, i5, n4⟩ ⟨hsf1, h⟩
 dsimp only at hsf1 h ⊢
 cases l6 with
 | nil =>
  unfold Zcg at h
  refine SR <| Ac (Zl rfl rfl (vt rfl) (vt rfl)) rfl <| Nl <| sq <| Cn rfl (fun hc => absurd (of_decide_eq_true hc) hsf1.nil) (fun hc => ?_)
  refine xt <| SR <| Md rfl <| As rfl <| Nl <| rt ?_
  cases h; exact Zc Tryz.results117 rfl (Z4 rfl)
 | cons x7 l6 =>
  unfold Zcg at h
  refine SR <| Ac (Zl rfl rfl (vt rfl) (vt rfl)) rfl <| Nl <| sq <| Cn rfl (fun hc => ?_) (fun hc => absurd hsf1.cons (of_decide_eq_false hc))
  have hlti5 := of_decide_eq_true hc
  refine sk <| sq <| bk <| SR <| Md rfl <| Ac (Z03 rfl rfl Z1v (vt rfl) (vt rfl) hsf1.lget) rfl <| Lp1 Zv rfl <| Cv rfl (Zo 7 rfl rfl Z0n) fun g8 => As rfl <| Zd Zv 7 rfl <| Nl ?_
  obtain ⟨s9, hs9, x10, hx10, h⟩ := bs2 h
  refine AR Zz (by kernel_rfl) <| Zg rfl <| Zu Zv 7 rfl <| Zg rfl <| Zg rfl <| Sd (lo [18, 19] [] rfl fun S hs hr => Zyz hs9 rfl rfl Z1v (vh hs 18 rfl rfl) (vh hs 19 rfl rfl)) <| SCl [17, 20] (Ydh _ _ _ hx10) Ycn rfl <| Sd (lo [16, 21] [] rfl fun S hs hr => Z8y rfl rfl (vh hs 16 rfl rfl) (vh hs 21 rfl rfl)) <| SAs rfl <| Sn <| Rg <| Ac (Z21 (t := 10) rfl rfl (vt rfl) (vk rfl) (vt rfl) hlti5) rfl <| Md rfl <| Nl ?_
  exact ⟨(_, _, _), Nat.lt_succ_self _, ⟨hsf1.next, h⟩, FX rfl⟩
def Zfx (s1 : Switch) : Option Int :=
 (Zch s1).bind fun x3 => (Zjr x3).bind fun x4 => some x4
theorem Zwv : Q1 Tryz.prog 58 (rd Z0p) (rd (Z0 .i64)) Zfx := fun s1 r h => I0 Tryz.func58 rfl Tryz.ntmps58 rfl fun w H => by
 unfold Zfx at h
 refine SR <| Cv rfl (Zn 2 rfl rfl (vt rfl)) fun g2 => Ak rfl <| Nl <| sq ?_
 obtain ⟨x3, hx3, x4, hx4, h⟩ := bs2 h
 refine Rg <| Ld Z3e 2 rfl <| Cl [3] (Zxz _ _ hx3) e25 rfl <| Cl [4] (Ybh _ _ hx4) Y2v rfl <| As rfl <| Nl <| rt ?_
 cases h; exact Zc Tryz.results58 rfl (Z4 rfl)
def Z9q (s2 : (List Atom)) (x3 : (Atom → Atom → Option Bool)) : (List Atom) → Nat → Option Bool
 | [], i4 => some true
 | x6 :: l5, i4 => (lget s2 (i4 : Int)).bind fun x8 => (x3 x6 x8).bind fun x10 => (bif (!x10) then some false else (Z9q s2 x3 l5) (i4 + 1))
def Zmc (s1 : (List Atom)) (s2 : (List Atom)) (x3 : (Atom → Atom → Option Bool)) : Option Bool :=
 (bif (decide ((s1.length : Int) ≠ (s2.length : Int))) then some false else Z9q s2 x3 s1 0)
theorem Yjs : Q3 Tryz.prog 243 (rd (Z3 Z05)) (rd (Z3 Z05)) (fn2 Tryz.prog Z05 Z05 Z7) (rd Z7) Zmc := fun s1 s2 x3 r h => I0 Tryz.func243 rfl Tryz.ntmps243 rfl fun w H => by
 unfold Zmc at h
 refine SR <| Ab rfl <| Nl <| sq <| SR <| Md rfl <| Ac (Z09 rfl rfl Z28 (vt rfl)) rfl <| Md rfl <| Ac (Z09 rfl rfl Z28 (vt rfl)) rfl <| Ac (Z2o rfl rfl (vt rfl) (vt rfl)) rfl <| Nl <| Cq rfl h (fun h => ?_) (fun h => ?_)
 ·refine SR <| Ab rfl <| Nl <| rt ?_
  cases h; exact Zc Tryz.results243 rfl (Z4 rfl)
 ·refine sk <| sq <| SR <| Md rfl <| Ac (Z09 rfl rfl Z28 (vt rfl)) rfl <| Mk rfl <| Nl <| bk <| LG (d := []) (ν := (List Atom) × Nat) (fun (l5, i4) => (Sfx s1 i4 l5 ∧ Z9q s2 x3 l5 i4 = some r, l5.length, [(1, rd (Z3 Z05) s2), (2, fn2 Tryz.prog Z05 Z05 Z7 x3), (15, rd (Z3 Z05) s1), (16, rd (Z0 .i64) (s1.length : Int)), (17, rd (Z0 .i64) (i4 : Int))], [])) (s1, 0) ⟨Sfx.start _, h⟩ (FX rfl) ?_
  rintro ⟨l5, i4⟩ ⟨hsf1, h⟩
  dsimp only at hsf1 h ⊢
  cases l5 with
  | nil =>
   unfold Z9q at h
   refine SR <| Ac (Zl rfl rfl (vt rfl) (vt rfl)) rfl <| Nl <| sq <| Cn rfl (fun hc => absurd (of_decide_eq_true hc) hsf1.nil) (fun hc => ?_)
   refine xt <| SR <| Ab rfl <| Nl <| rt ?_
   cases h; exact Zc Tryz.results243 rfl (Z4 rfl)
  | cons x6 l5 =>
   unfold Z9q at h
   refine SR <| Ac (Zl rfl rfl (vt rfl) (vt rfl)) rfl <| Nl <| sq <| Cn rfl (fun hc => ?_) (fun hc => absurd hsf1.cons (of_decide_eq_false hc))
   have hlti4 := of_decide_eq_true hc
   refine sk <| sq <| bk <| SR <| Md rfl <| Ac (Z03 rfl rfl Z28 (vt rfl) (vt rfl) hsf1.lget) rfl <| Lp1 Z5w rfl <| Cv rfl (Zo 9 rfl rfl Z55) fun g7 => As rfl <| Zd Z5w 9 rfl <| Nl <| sq ?_
   obtain ⟨x8, hx8, h⟩ := Za h
   refine Rg <| Md rfl <| Md rfl <| Ac (Z03 rfl rfl Z28 (vt rfl) (vt rfl) hx8) rfl <| Lp1 Z5w rfl <| Cv rfl (Zo 10 rfl rfl Z55) fun g9 => Zd Z5w 10 rfl <| Nl <| sq ?_
   obtain ⟨x10, hx10, h⟩ := Za h
   refine Rg <| Ac (Zk (A := fn2 Tryz.prog Z05 Z05 Z7 x3) rfl rfl (vt rfl)) rfl <| Ld Z5w 9 rfl <| Ld Z5w 10 rfl <| Ac (Z5f hx10 rfl rfl (vt rfl) (vt rfl) (vt rfl)) rfl <| Ac (Z0s rfl rfl (vt rfl)) rfl <| Nl <| Cq rfl h (fun h => ?_) (fun h => ?_)
   ·refine SR <| Ab rfl <| Nl <| rt ?_
    cases h; exact Zc Tryz.results243 rfl (Z4 rfl)
   ·refine sk <| Rg <| Ac (Z21 (t := 16) rfl rfl (vt rfl) (vk rfl) (vt rfl) hlti4) rfl <| Md rfl <| Nl ?_
    exact ⟨(_, _), Nat.lt_succ_self _, ⟨hsf1.next, h⟩, FX rfl⟩
def Zgj (a1 : Atom) (b2 : Atom) : Option Bool :=
 (Z99 a1.Rewrite).bind fun x5 => (Z99 b2.Rewrite).bind fun x6 => some (decide ({ a1 with Rewrite := x5 } = { b2 with Rewrite := x6 }))
theorem Y7t : Q2 Tryz.prog 244 (rd Z05) (rd Z05) (rd Z7) Zgj := fun a1 b2 r h => I0 Tryz.func244 rfl Tryz.ntmps244 rfl fun w H => by
 unfold Zgj at h
 refine SR <| Cv rfl (Zn 3 rfl rfl (vt rfl)) fun g3 => Cv rfl (Zn 4 rfl rfl (vt rfl)) fun g4 => Ab rfl <| Nl <| sq ?_
 obtain ⟨x5, hx5, x6, hx6, h⟩ := bs2 h
 refine AR Zz (by kernel_rfl) <| SFd lAtom_0 Zfp rfl <| Zu Z01 3 rfl <| SCl [6] (Znx _ _ hx5) Znj rfl <| SFd lAtom_0 Zfp rfl <| Zu Z01 4 rfl <| SCl [9] (Znx _ _ hx6) Znj rfl <| SFd lAtom_0 Zfp rfl <| SSt Z01 3 rfl <| SFd lAtom_0 Zfp rfl <| SSt Z01 4 rfl <| Sn <| SR <| Ld Z5w 3 rfl <| Ld Z5w 4 rfl <| Ac (Zgd rfl rfl Yit (by decide) rfl Y3q (vt rfl) (vt rfl)) rfl <| As rfl <| Nl <| rt ?_
 cases h; exact Zc Tryz.results244 rfl (Z4 rfl)
def Zjn (a1 : (List Atom)) (b2 : (List Atom)) : Option Bool :=
 (Zmc a1 b2 Zgj).bind fun x3 => some x3
theorem Yim : Q2 Tryz.prog 181 (rd (Z3 Z05)) (rd (Z3 Z05)) (rd Z7) Zjn := fun a1 b2 r h => I0 Tryz.func181 rfl Tryz.ntmps181 rfl fun w H => by
 unfold Zjn at h
 refine SR <| Ab rfl <| Nl <| sq ?_
 obtain ⟨x3, hx3, h⟩ := Za h
 refine Rg <| Md rfl <| Md rfl <| Ac (Z0b (xs := [.tmp 5, .tmp 6, .func 244]) (Yjs _ _ _ _ hx3) Y6f rfl rfl ⟨vt rfl, vt rfl, vf2 Yi7 Y7t, trivial⟩) rfl <| As rfl <| Nl <| rt ?_
 cases h; exact Zc Tryz.results181 rfl (Z4 rfl)
def Zg2 (a1 : Rule) (b2 : Rule) : Option Bool :=
 (Zae a1.Cube).bind fun x5 => (Zae b2.Cube).bind fun x6 => (opt (decide (x5 = x6)) (Zjn a1.Atoms b2.Atoms)).bind fun x7 => some ((decide (x5 = x6)) && x7)
theorem Y9d : Q2 Tryz.prog 114 (rd Zy) (rd Zy) (rd Z7) Zg2 := fun a1 b2 r h => I0 Tryz.func114 rfl Tryz.ntmps114 rfl fun w H => by
 unfold Zg2 at h
 refine SR <| Cv rfl (Zn 3 rfl rfl (vt rfl)) fun g3 => Cv rfl (Zn 4 rfl rfl (vt rfl)) fun g4 => Ab rfl <| Nl <| sq ?_
 obtain ⟨x5, hx5, x6, hx6, x7, hx7, h⟩ := bs3 h
 refine AR Zz (by kernel_rfl) <| SFd lRule_0 Z7e rfl <| Zu Zv 3 rfl <| SCl [6] (Zoa _ _ hx5) Zmo rfl <| SFd lRule_0 Z7e rfl <| Zu Zv 4 rfl <| SCl [9] (Zoa _ _ hx6) Zmo rfl <| Sd (lo [7, 10] [] rfl fun S hs hr => Zgd rfl rfl Zzh (by decide) rfl Zxu (vh hs 7 rfl rfl) (vh hs 10 rfl rfl)) <| Zg rfl <| Sd (lg [2, 12] [] rfl fun hq S hs hr => Z0t lRule_1 rfl rfl Zc9 (vh hs 2 rfl rfl)) <| Sd (lg [13, 12] [3] rfl fun hq S hs hr => Z0g rfl rfl Z5z (Z6 ((hs 13 rfl).trans rfl) hq) (i := 3) ((hr 3 rfl).trans rfl)) <| Sd (lg [3, 12] [] rfl fun hq S hs hr => Z0t lRule_1 rfl rfl Zc9 (vh hs 3 rfl rfl)) <| Sd (lg [15, 12] [4] rfl fun hq S hs hr => Z0g rfl rfl Z5z (Z6 ((hs 15 rfl).trans rfl) hq) (i := 4) ((hr 4 rfl).trans rfl)) <| Sd (lg [14, 16, 12] [] rfl fun hq S hs hr => Z0b (xs := [.tmp 14, .tmp 16]) (Yim _ _ _ (Z16 hx7 hq)) Yh0 rfl rfl ⟨Z6 ((hs 14 rfl).trans rfl) hq, Z6 ((hs 16 rfl).trans rfl) hq, trivial⟩) <| Sd (lo [17, 12] [] rfl fun S hs hr => Z0o rfl rfl (vh hs 12 rfl rfl) (vh hs 17 rfl rfl)) <| SAs rfl <| Sn <| rt ?_
 cases h; exact Zc Tryz.results114 rfl (Z4 rfl)
def Za5 (s2 : (List Group)) (x3 : (Group → Group → Option Bool)) : (List Group) → Nat → Option Bool
 | [], i4 => some true
 | x6 :: l5, i4 => (lget s2 (i4 : Int)).bind fun x8 => (x3 x6 x8).bind fun x10 => (bif (!x10) then some false else (Za5 s2 x3 l5) (i4 + 1))
def Zkk (s1 : (List Group)) (s2 : (List Group)) (x3 : (Group → Group → Option Bool)) : Option Bool :=
 (bif (decide ((s1.length : Int) ≠ (s2.length : Int))) then some false else Za5 s2 x3 s1 0)
theorem Y99 : Q3 Tryz.prog 182 (rd (Z3 Z0d)) (rd (Z3 Z0d)) (fn2 Tryz.prog Z0d Z0d Z7) (rd Z7) Zkk := fun s1 s2 x3 r h => I0 Tryz.func182 rfl Tryz.ntmps182 rfl fun w H => by
 unfold Zkk at h
 refine SR <| Ab rfl <| Nl <| sq <| SR <| Md rfl <| Ac (Z09 rfl rfl Z2a (vt rfl)) rfl <| Md rfl <| Ac (Z09 rfl rfl Z2a (vt rfl)) rfl <| Ac (Z2o rfl rfl (vt rfl) (vt rfl)) rfl <| Nl <| Cq rfl h (fun h => ?_) (fun h => ?_)
 ·refine SR <| Ab rfl <| Nl <| rt ?_
  cases h; exact Zc Tryz.results182 rfl (Z4 rfl)
 ·refine sk <| sq <| SR <| Md rfl <| Ac (Z09 rfl rfl Z2a (vt rfl)) rfl <| Mk rfl <| Nl <| bk <| LG (d := []) (ν := (List Group) × Nat) (fun (l5, i4) => (Sfx s1 i4 l5 ∧ Za5 s2 x3 l5 i4 = some r, l5.length, [(1, rd (Z3 Z0d) s2), (2, fn2 Tryz.prog Z0d Z0d Z7 x3), (15, rd (Z3 Z0d) s1), (16, rd (Z0 .i64) (s1.length : Int)), (17, rd (Z0 .i64) (i4 : Int))], [])) (s1, 0) ⟨Sfx.start _, h⟩ (FX rfl) ?_
  rintro ⟨l5, i4⟩ ⟨hsf1, h⟩
  dsimp only at hsf1 h ⊢
  cases l5 with
  | nil =>
   unfold Za5 at h
   refine SR <| Ac (Zl rfl rfl (vt rfl) (vt rfl)) rfl <| Nl <| sq <| Cn rfl (fun hc => absurd (of_decide_eq_true hc) hsf1.nil) (fun hc => ?_)
   refine xt <| SR <| Ab rfl <| Nl <| rt ?_
   cases h; exact Zc Tryz.results182 rfl (Z4 rfl)
  | cons x6 l5 =>
   unfold Za5 at h
   refine SR <| Ac (Zl rfl rfl (vt rfl) (vt rfl)) rfl <| Nl <| sq <| Cn rfl (fun hc => ?_) (fun hc => absurd hsf1.cons (of_decide_eq_false hc))
   have hlti4 := of_decide_eq_true hc
   refine sk <| sq <| bk <| SR <| Md rfl <| Ac (Z03 rfl rfl Z2a (vt rfl) (vt rfl) hsf1.lget) rfl <| Lp1 Z4p rfl <| Cv rfl (Zo 9 rfl rfl Z9t) fun g7 => As rfl <| Zd Z4p 9 rfl <| Nl <| sq ?_
   obtain ⟨x8, hx8, h⟩ := Za h
   refine Rg <| Md rfl <| Md rfl <| Ac (Z03 rfl rfl Z2a (vt rfl) (vt rfl) hx8) rfl <| Lp1 Z4p rfl <| Cv rfl (Zo 10 rfl rfl Z9t) fun g9 => Zd Z4p 10 rfl <| Nl <| sq ?_
   obtain ⟨x10, hx10, h⟩ := Za h
   refine Rg <| Ac (Zk (A := fn2 Tryz.prog Z0d Z0d Z7 x3) rfl rfl (vt rfl)) rfl <| Ld Z4p 9 rfl <| Ld Z4p 10 rfl <| Ac (Z5f hx10 rfl rfl (vt rfl) (vt rfl) (vt rfl)) rfl <| Ac (Z0s rfl rfl (vt rfl)) rfl <| Nl <| Cq rfl h (fun h => ?_) (fun h => ?_)
   ·refine SR <| Ab rfl <| Nl <| rt ?_
    cases h; exact Zc Tryz.results182 rfl (Z4 rfl)
   ·refine sk <| Rg <| Ac (Z21 (t := 16) rfl rfl (vt rfl) (vk rfl) (vt rfl) hlti4) rfl <| Md rfl <| Nl ?_
    exact ⟨(_, _), Nat.lt_succ_self _, ⟨hsf1.next, h⟩, FX rfl⟩
end Go.Proofs.YtknpgojdkobgjaaGreat.W
set_option maxRecDepth 4000
namespace Go.Proofs.YtknpgojdkobgjaaGreat.W
open Go Go.Wb
theorem Yjt : Ent Tryz.prog 339 := Ent.mk Tryz.func339 rfl rfl
theorem Y6m : Ent Tryz.prog 340 := Ent.mk Tryz.func340 rfl rfl
theorem Ycs : Ent Tryz.prog 329 := Ent.mk Tryz.func329 rfl rfl
theorem Yge : Ent Tryz.prog 291 := Ent.mk Tryz.func291 rfl rfl
theorem Y7k : Ent Tryz.prog 292 := Ent.mk Tryz.func292 rfl rfl
theorem Yiw : Ent Tryz.prog 245 := Ent.mk Tryz.func245 rfl rfl
theorem Ybe : Ent Tryz.prog 182 := Ent.mk Tryz.func182 rfl rfl
theorem Y4v : Ent Tryz.prog 183 := Ent.mk Tryz.func183 rfl rfl
theorem Ygn : Ent Tryz.prog 114 := Ent.mk Tryz.func114 rfl rfl
theorem Y82 : Ent Tryz.prog 115 := Ent.mk Tryz.func115 rfl rfl
def Z91 (s2 : (List Bucket)) (x3 : (Bucket → Bucket → Option Bool)) : (List Bucket) → Nat → Option Bool
 | [], i4 => some true
 | x6 :: l5, i4 => (lget s2 (i4 : Int)).bind fun x8 => (x3 x6 x8).bind fun x10 => (bif (!x10) then some false else (Z91 s2 x3 l5) (i4 + 1))
def Zgr (s1 : (List Bucket)) (s2 : (List Bucket)) (x3 : (Bucket → Bucket → Option Bool)) : Option Bool :=
 (bif (decide ((s1.length : Int) ≠ (s2.length : Int))) then some false else Z91 s2 x3 s1 0)
theorem Y30 : Q3 Tryz.prog 291 (rd (Z3 Z0l)) (rd (Z3 Z0l)) (fn2 Tryz.prog Z0l Z0l Z7) (rd Z7) Zgr := fun s1 s2 x3 r h => I0 Tryz.func291 rfl Tryz.ntmps291 rfl fun w H => by
 unfold Zgr at h
 refine SR <| Ab rfl <| Nl <| sq <| SR <| Md rfl <| Ac (Z09 rfl rfl Z2s (vt rfl)) rfl <| Md rfl <| Ac (Z09 rfl rfl Z2s (vt rfl)) rfl <| Ac (Z2o rfl rfl (vt rfl) (vt rfl)) rfl <| Nl <| Cq rfl h (fun h => ?_) (fun h => ?_)
 ·refine SR <| Ab rfl <| Nl <| rt ?_
  cases h; exact Zc Tryz.results291 rfl (Z4 rfl)
 ·refine sk <| sq <| SR <| Md rfl <| Ac (Z09 rfl rfl Z2s (vt rfl)) rfl <| Mk rfl <| Nl <| bk <| LG (d := []) (ν := (List Bucket) × Nat) (fun (l5, i4) => (Sfx s1 i4 l5 ∧ Z91 s2 x3 l5 i4 = some r, l5.length, [(1, rd (Z3 Z0l) s2), (2, fn2 Tryz.prog Z0l Z0l Z7 x3), (15, rd (Z3 Z0l) s1), (16, rd (Z0 .i64) (s1.length : Int)), (17, rd (Z0 .i64) (i4 : Int))], [])) (s1, 0) ⟨Sfx.start _, h⟩ (FX rfl) ?_
  rintro ⟨l5, i4⟩ ⟨hsf1, h⟩
  dsimp only at hsf1 h ⊢
  cases l5 with
  | nil =>
   unfold Z91 at h
   refine SR <| Ac (Zl rfl rfl (vt rfl) (vt rfl)) rfl <| Nl <| sq <| Cn rfl (fun hc => absurd (of_decide_eq_true hc) hsf1.nil) (fun hc => ?_)
   refine xt <| SR <| Ab rfl <| Nl <| rt ?_
   cases h; exact Zc Tryz.results291 rfl (Z4 rfl)
  | cons x6 l5 =>
   unfold Z91 at h
   refine SR <| Ac (Zl rfl rfl (vt rfl) (vt rfl)) rfl <| Nl <| sq <| Cn rfl (fun hc => ?_) (fun hc => absurd hsf1.cons (of_decide_eq_false hc))
   have hlti4 := of_decide_eq_true hc
   refine sk <| sq <| bk <| SR <| Md rfl <| Ac (Z03 rfl rfl Z2s (vt rfl) (vt rfl) hsf1.lget) rfl <| Lp1 Zbw rfl <| Cv rfl (Zo 9 rfl rfl Zpo) fun g7 => As rfl <| Zd Zbw 9 rfl <| Nl <| sq ?_
   obtain ⟨x8, hx8, h⟩ := Za h
   refine Rg <| Md rfl <| Md rfl <| Ac (Z03 rfl rfl Z2s (vt rfl) (vt rfl) hx8) rfl <| Lp1 Zbw rfl <| Cv rfl (Zo 10 rfl rfl Zpo) fun g9 => Zd Zbw 10 rfl <| Nl <| sq ?_
   obtain ⟨x10, hx10, h⟩ := Za h
   refine Rg <| Ac (Zk (A := fn2 Tryz.prog Z0l Z0l Z7 x3) rfl rfl (vt rfl)) rfl <| Ld Zbw 9 rfl <| Ld Zbw 10 rfl <| Ac (Z5f hx10 rfl rfl (vt rfl) (vt rfl) (vt rfl)) rfl <| Ac (Z0s rfl rfl (vt rfl)) rfl <| Nl <| Cq rfl h (fun h => ?_) (fun h => ?_)
   ·refine SR <| Ab rfl <| Nl <| rt ?_
    cases h; exact Zc Tryz.results291 rfl (Z4 rfl)
   ·refine sk <| Rg <| Ac (Z21 (t := 16) rfl rfl (vt rfl) (vk rfl) (vt rfl) hlti4) rfl <| Md rfl <| Nl ?_
    exact ⟨(_, _), Nat.lt_succ_self _, ⟨hsf1.next, h⟩, FX rfl⟩
def Zan (s2 : (List Action)) (x3 : (Action → Action → Option Bool)) : (List Action) → Nat → Option Bool
 | [], i4 => some true
 | x6 :: l5, i4 => (lget s2 (i4 : Int)).bind fun x8 => (x3 x6 x8).bind fun x10 => (bif (!x10) then some false else (Zan s2 x3 l5) (i4 + 1))
def Zhu (s1 : (List Action)) (s2 : (List Action)) (x3 : (Action → Action → Option Bool)) : Option Bool :=
 (bif (decide ((s1.length : Int) ≠ (s2.length : Int))) then some false else Zan s2 x3 s1 0)
theorem Yhp : Q3 Tryz.prog 339 (rd (Z3 Z8)) (rd (Z3 Z8)) (fn2 Tryz.prog Z8 Z8 Z7) (rd Z7) Zhu := fun s1 s2 x3 r h => I0 Tryz.func339 rfl Tryz.ntmps339 rfl fun w H => by
 unfold Zhu at h
 refine SR <| Ab rfl <| Nl <| sq <| SR <| Md rfl <| Ac (Z09 rfl rfl Z08 (vt rfl)) rfl <| Md rfl <| Ac (Z09 rfl rfl Z08 (vt rfl)) rfl <| Ac (Z2o rfl rfl (vt rfl) (vt rfl)) rfl <| Nl <| Cq rfl h (fun h => ?_) (fun h => ?_)
 ·refine SR <| Ab rfl <| Nl <| rt ?_
  cases h; exact Zc Tryz.results339 rfl (Z4 rfl)
 ·refine sk <| sq <| SR <| Md rfl <| Ac (Z09 rfl rfl Z08 (vt rfl)) rfl <| Mk rfl <| Nl <| bk <| LG (d := []) (ν := (List Action) × Nat) (fun (l5, i4) => (Sfx s1 i4 l5 ∧ Zan s2 x3 l5 i4 = some r, l5.length, [(1, rd (Z3 Z8) s2), (2, fn2 Tryz.prog Z8 Z8 Z7 x3), (15, rd (Z3 Z8) s1), (16, rd (Z0 .i64) (s1.length : Int)), (17, rd (Z0 .i64) (i4 : Int))], [])) (s1, 0) ⟨Sfx.start _, h⟩ (FX rfl) ?_
  rintro ⟨l5, i4⟩ ⟨hsf1, h⟩
  dsimp only at hsf1 h ⊢
  cases l5 with
  | nil =>
   unfold Zan at h
   refine SR <| Ac (Zl rfl rfl (vt rfl) (vt rfl)) rfl <| Nl <| sq <| Cn rfl (fun hc => absurd (of_decide_eq_true hc) hsf1.nil) (fun hc => ?_)
   refine xt <| SR <| Ab rfl <| Nl <| rt ?_
   cases h; exact Zc Tryz.results339 rfl (Z4 rfl)
  | cons x6 l5 =>
   unfold Zan at h
   refine SR <| Ac (Zl rfl rfl (vt rfl) (vt rfl)) rfl <| Nl <| sq <| Cn rfl (fun hc => ?_) (fun hc => absurd hsf1.cons (of_decide_eq_false hc))
   have hlti4 := of_decide_eq_true hc
   refine sk <| sq <| bk <| SR <| Md rfl <| Ac (Z03 rfl rfl Z08 (vt rfl) (vt rfl) hsf1.lget) rfl <| Lp1 Z0h rfl <| Cv rfl (Zo 9 rfl rfl Z4e) fun g7 => As rfl <| Zd Z0h 9 rfl <| Nl <| sq ?_
   obtain ⟨x8, hx8, h⟩ := Za h
   refine Rg <| Md rfl <| Md rfl <| Ac (Z03 rfl rfl Z08 (vt rfl) (vt rfl) hx8) rfl <| Lp1 Z0h rfl <| Cv rfl (Zo 10 rfl rfl Z4e) fun g9 => Zd Z0h 10 rfl <| Nl <| sq ?_
   obtain ⟨x10, hx10, h⟩ := Za h
   refine Rg <| Ac (Zk (A := fn2 Tryz.prog Z8 Z8 Z7 x3) rfl rfl (vt rfl)) rfl <| Ld Z0h 9 rfl <| Ld Z0h 10 rfl <| Ac (Z5f hx10 rfl rfl (vt rfl) (vt rfl) (vt rfl)) rfl <| Ac (Z0s rfl rfl (vt rfl)) rfl <| Nl <| Cq rfl h (fun h => ?_) (fun h => ?_)
   ·refine SR <| Ab rfl <| Nl <| rt ?_
    cases h; exact Zc Tryz.results339 rfl (Z4 rfl)
   ·refine sk <| Rg <| Ac (Z21 (t := 16) rfl rfl (vt rfl) (vk rfl) (vt rfl) hlti4) rfl <| Md rfl <| Nl ?_
    exact ⟨(_, _), Nat.lt_succ_self _, ⟨hsf1.next, h⟩, FX rfl⟩
def Zoo (a1 : Action) (b2 : Action) : Option Bool :=
 some (decide (a1 = b2))
theorem Y8x : Q2 Tryz.prog 340 (rd Z8) (rd Z8) (rd Z7) Zoo := fun a1 b2 r h => I0 Tryz.func340 rfl Tryz.ntmps340 rfl fun w H => by
 unfold Zoo at h
 refine SR <| Cv rfl (Zn 3 rfl rfl (vt rfl)) fun g3 => Cv rfl (Zn 4 rfl rfl (vt rfl)) fun g4 => Ab rfl <| Nl <| SR <| Ld Z0h 3 rfl <| Ld Z0h 4 rfl <| Ac (Zgd rfl rfl Yaj (by decide) rfl Yh1 (vt rfl) (vt rfl)) rfl <| As rfl <| Nl <| rt ?_
 cases h; exact Zc Tryz.results340 rfl (Z4 rfl)
def Zji (a1 : (List Action)) (b2 : (List Action)) : Option Bool :=
 (Zhu a1 b2 Zoo).bind fun x3 => some x3
theorem Y5f : Q2 Tryz.prog 329 (rd (Z3 Z8)) (rd (Z3 Z8)) (rd Z7) Zji := fun a1 b2 r h => I0 Tryz.func329 rfl Tryz.ntmps329 rfl fun w H => by
 unfold Zji at h
 refine SR <| Ab rfl <| Nl <| sq ?_
 obtain ⟨x3, hx3, h⟩ := Za h
 refine Rg <| Md rfl <| Md rfl <| Ac (Z0b (xs := [.tmp 5, .tmp 6, .func 340]) (Yhp _ _ _ _ hx3) Yjt rfl rfl ⟨vt rfl, vt rfl, vf2 Y6m Y8x, trivial⟩) rfl <| As rfl <| Nl <| rt ?_
 cases h; exact Zc Tryz.results329 rfl (Z4 rfl)
def Zfe (a1 : Bucket) (b2 : Bucket) : Option Bool :=
 (opt (((decide (a1.Weight = b2.Weight)) && (decide (a1.Watch = b2.Watch))) && (decide (a1.WatchGroup = b2.WatchGroup))) (Zji a1.Acts b2.Acts)).bind fun x5 => some ((((decide (a1.Weight = b2.Weight)) && (decide (a1.Watch = b2.Watch))) && (decide (a1.WatchGroup = b2.WatchGroup))) && x5)
theorem Y4h : Q2 Tryz.prog 292 (rd Z0l) (rd Z0l) (rd Z7) Zfe := fun a1 b2 r h => I0 Tryz.func292 rfl Tryz.ntmps292 rfl fun w H => by
 unfold Zfe at h
 refine SR <| Cv rfl (Zn 3 rfl rfl (vt rfl)) fun g3 => Cv rfl (Zn 4 rfl rfl (vt rfl)) fun g4 => Ab rfl <| Nl <| sq ?_
 obtain ⟨x5, hx5, h⟩ := Za h
 refine Rg <| Zt Zhl Zo8 rfl <| Ld Zq 3 rfl <| Zt Zhl Zo8 rfl <| Ld Zq 4 rfl <| Ac (Z0f rfl rfl (vt rfl) (vt rfl)) rfl <| Md rfl <| Gd rfl (fun hq => Z0t Zh5 rfl rfl Zlv (vt rfl)) <| Gd rfl (fun hq => Z0g rfl rfl Zq (Z6 rfl hq) (i := 3) rfl) <| Gd rfl (fun hq => Z0t Zh5 rfl rfl Zlv (vt rfl)) <| Gd rfl (fun hq => Z0g rfl rfl Zq (Z6 rfl hq) (i := 4) rfl) <| Gd rfl (fun hq => Z0f rfl rfl (Z6 rfl hq) (Z6 rfl hq)) <| Ac (Z0o rfl rfl (vt rfl) (vt rfl)) rfl <| Md rfl <| Gd rfl (fun hq => Z0t Zhc rfl rfl Znc (vt rfl)) <| Gd rfl (fun hq => Z0g rfl rfl Zq (Z6 rfl hq) (i := 3) rfl) <| Gd rfl (fun hq => Z0t Zhc rfl rfl Znc (vt rfl)) <| Gd rfl (fun hq => Z0g rfl rfl Zq (Z6 rfl hq) (i := 4) rfl) <| Gd rfl (fun hq => Z0f rfl rfl (Z6 rfl hq) (Z6 rfl hq)) <| Ac (Z0o rfl rfl (vt rfl) (vt rfl)) rfl <| Md rfl <| Gd rfl (fun hq => Z0t Z9l rfl rfl Zbf (vt rfl)) <| Gd rfl (fun hq => Z0g rfl rfl Z42 (Z6 rfl hq) (i := 3) rfl) <| Gd rfl (fun hq => Z0t Z9l rfl rfl Zbf (vt rfl)) <| Gd rfl (fun hq => Z0g rfl rfl Z42 (Z6 rfl hq) (i := 4) rfl) <| Gd rfl (fun hq => Z0b (xs := [.tmp 26, .tmp 28]) (Y5f _ _ _ (Z16 hx5 hq)) Ycs rfl rfl ⟨Z6 rfl hq, Z6 rfl hq, trivial⟩) <| Ac (Z0o rfl rfl (vt rfl) (vt rfl)) rfl <| As rfl <| Nl <| rt ?_
 cases h; exact Zc Tryz.results292 rfl (Z4 rfl)
def Zit (a1 : (List Bucket)) (b2 : (List Bucket)) : Option Bool :=
 (Zgr a1 b2 Zfe).bind fun x3 => some x3
theorem Yhu : Q2 Tryz.prog 245 (rd (Z3 Z0l)) (rd (Z3 Z0l)) (rd Z7) Zit := fun a1 b2 r h => I0 Tryz.func245 rfl Tryz.ntmps245 rfl fun w H => by
 unfold Zit at h
 refine SR <| Ab rfl <| Nl <| sq ?_
 obtain ⟨x3, hx3, h⟩ := Za h
 refine Rg <| Md rfl <| Md rfl <| Ac (Z0b (xs := [.tmp 5, .tmp 6, .func 292]) (Y30 _ _ _ _ hx3) Yge rfl rfl ⟨vt rfl, vt rfl, vf2 Y7k Y4h, trivial⟩) rfl <| As rfl <| Nl <| rt ?_
 cases h; exact Zc Tryz.results245 rfl (Z4 rfl)
def Zfi (a1 : Group) (b2 : Group) : Option Bool :=
 (opt ((decide (a1.ID = b2.ID)) && (decide (a1.Kind = b2.Kind))) (Zit a1.Buckets b2.Buckets)).bind fun x5 => some (((decide (a1.ID = b2.ID)) && (decide (a1.Kind = b2.Kind))) && x5)
theorem Y9l : Q2 Tryz.prog 183 (rd Z0d) (rd Z0d) (rd Z7) Zfi := fun a1 b2 r h => I0 Tryz.func183 rfl Tryz.ntmps183 rfl fun w H => by
 unfold Zfi at h
 refine SR <| Cv rfl (Zn 3 rfl rfl (vt rfl)) fun g3 => Cv rfl (Zn 4 rfl rfl (vt rfl)) fun g4 => Ab rfl <| Nl <| sq ?_
 obtain ⟨x5, hx5, h⟩ := Za h
 refine Rg <| Zt Zbt Zed rfl <| Ld Zq 3 rfl <| Zt Zbt Zed rfl <| Ld Zq 4 rfl <| Ac (Z0f rfl rfl (vt rfl) (vt rfl)) rfl <| Md rfl <| Gd rfl (fun hq => Z0t Zj5 rfl rfl Zod (vt rfl)) <| Gd rfl (fun hq => Z0g rfl rfl Zq (Z6 rfl hq) (i := 3) rfl) <| Gd rfl (fun hq => Z0t Zj5 rfl rfl Zod (vt rfl)) <| Gd rfl (fun hq => Z0g rfl rfl Zq (Z6 rfl hq) (i := 4) rfl) <| Gd rfl (fun hq => Z0f rfl rfl (Z6 rfl hq) (Z6 rfl hq)) <| Ac (Z0o rfl rfl (vt rfl) (vt rfl)) rfl <| Md rfl <| Gd rfl (fun hq => Z0t Zaq rfl rfl Zau (vt rfl)) <| Gd rfl (fun hq => Z0g rfl rfl Zc2 (Z6 rfl hq) (i := 3) rfl) <| Gd rfl (fun hq => Z0t Zaq rfl rfl Zau (vt rfl)) <| Gd rfl (fun hq => Z0g rfl rfl Zc2 (Z6 rfl hq) (i := 4) rfl) <| Gd rfl (fun hq => Z0b (xs := [.tmp 19, .tmp 21]) (Yhu _ _ _ (Z16 hx5 hq)) Yiw rfl rfl ⟨Z6 rfl hq, Z6 rfl hq, trivial⟩) <| Ac (Z0o rfl rfl (vt rfl) (vt rfl)) rfl <| As rfl <| Nl <| rt ?_
 cases h; exact Zc Tryz.results183 rfl (Z4 rfl)
def Zkm (a1 : (List Group)) (b2 : (List Group)) : Option Bool :=
 (Zkk a1 b2 Zfi).bind fun x3 => some x3
theorem Y9k : Q2 Tryz.prog 115 (rd (Z3 Z0d)) (rd (Z3 Z0d)) (rd Z7) Zkm := fun a1 b2 r h => I0 Tryz.func115 rfl Tryz.ntmps115 rfl fun w H => by
 unfold Zkm at h
 refine SR <| Ab rfl <| Nl <| sq ?_
 obtain ⟨x3, hx3, h⟩ := Za h
 refine Rg <| Md rfl <| Md rfl <| Ac (Z0b (xs := [.tmp 5, .tmp 6, .func 183]) (Y99 _ _ _ _ hx3) Ybe rfl rfl ⟨vt rfl, vt rfl, vf2 Y4v Y9l, trivial⟩) rfl <| As rfl <| Nl <| rt ?_
 cases h; exact Zc Tryz.results115 rfl (Z4 rfl)
def Zd6 (a1 : Flat) (b2 : Flat) : Option Bool :=
 (Zih a1.Rules b2.Rules Zg2).bind fun x5 => (opt x5 (Zkm a1.Groups b2.Groups)).bind fun x6 => some (x5 && x6)
theorem Zph : Q2 Tryz.prog 56 (rd Z4v) (rd Z4v) (rd Z7) Zd6 := fun a1 b2 r h => I0 Tryz.func56 rfl Tryz.ntmps56 rfl fun w H => by
 unfold Zd6 at h
 refine SR <| Cv rfl (Zn 3 rfl rfl (vt rfl)) fun g3 => Cv rfl (Zn 4 rfl rfl (vt rfl)) fun g4 => Ab rfl <| Nl <| sq ?_
 obtain ⟨x5, hx5, x6, hx6, h⟩ := bs2 h
 refine Rg <| Zt lFlat_0 Z6p rfl <| Ld Z6e 3 rfl <| Zt lFlat_0 Z6p rfl <| Ld Z6e 4 rfl <| Ac (Z0b (xs := [.tmp 6, .tmp 8, .func 114]) (Y7n _ _ _ _ hx5) e81 rfl rfl ⟨vt rfl, vt rfl, vf2 Ygn Y9d, trivial⟩) rfl <| Md rfl <| Gd rfl (fun hq => Z0t lFlat_1 rfl rfl Zn6 (vt rfl)) <| Gd rfl (fun hq => Z0g rfl rfl Zcf (Z6 rfl hq) (i := 3) rfl) <| Gd rfl (fun hq => Z0t lFlat_1 rfl rfl Zn6 (vt rfl)) <| Gd rfl (fun hq => Z0g rfl rfl Zcf (Z6 rfl hq) (i := 4) rfl) <| Gd rfl (fun hq => Z0b (xs := [.tmp 12, .tmp 14]) (Y9k _ _ _ (Z16 hx6 hq)) Y82 rfl rfl ⟨Z6 rfl hq, Z6 rfl hq, trivial⟩) <| Ac (Z0o rfl rfl (vt rfl) (vt rfl)) rfl <| As rfl <| Nl <| rt ?_
 cases h; exact Zc Tryz.results56 rfl (Z4 rfl)
end Go.Proofs.YtknpgojdkobgjaaGreat.W
set_option maxRecDepth 4000
namespace Go.Proofs.YtknpgojdkobgjaaGreat.W
open Go Go.Wb
theorem e54 : Ent Tryz.prog 54 := Ent.mk Tryz.func54 rfl rfl
theorem e58 : Ent Tryz.prog 58 := Ent.mk Tryz.func58 rfl rfl
theorem e56 : Ent Tryz.prog 56 := Ent.mk Tryz.func56 rfl rfl
theorem Ybt : Ent Tryz.prog 321 := Ent.mk Tryz.func321 rfl rfl
theorem Y3u : Ent Tryz.prog 322 := Ent.mk Tryz.func322 rfl rfl
theorem Zvv : Ent Tryz.prog 324 := Ent.mk Tryz.func324 rfl rfl
theorem Ye0 : Ent Tryz.prog 281 := Ent.mk Tryz.func281 rfl rfl
theorem Yat : Ent Tryz.prog 282 := Ent.mk Tryz.func282 rfl rfl
theorem Y5h : Ent Tryz.prog 283 := Ent.mk Tryz.func283 rfl rfl
theorem Zvn : Ent Tryz.prog 236 := Ent.mk Tryz.func236 rfl rfl
def Zkn : Option Bool :=
 (Zbk { { (⟨(Vector.replicate 4 []), []⟩ : Switch) with Tables := (Vector.set ((⟨(Vector.replicate 4 []), []⟩ : Switch).Tables) (⟨0, by decide⟩ : _root_.Fin 4).1 [(⟨0, 0, 0, 0, 0, [], [(⟨1, 3, Z00, Z00, []⟩ : Inst)]⟩ : Flow)] (⟨0, by decide⟩ : _root_.Fin 4).2) } with Tables := (Vector.set ({ (⟨(Vector.replicate 4 []), []⟩ : Switch) with Tables := (Vector.set ((⟨(Vector.replicate 4 []), []⟩ : Switch).Tables) (⟨0, by decide⟩ : _root_.Fin 4).1 [(⟨0, 0, 0, 0, 0, [], [(⟨1, 3, Z00, Z00, []⟩ : Inst)]⟩ : Flow)] (⟨0, by decide⟩ : _root_.Fin 4).2) }.Tables) (⟨3, by decide⟩ : _root_.Fin 4).1 [(⟨0, 1, 0, 0, 0, [], [(⟨4, 0, Z00, Z00, [(⟨0, 9, 0, 0, 0, Z3x⟩ : Action)]⟩ : Inst)]⟩ : Flow), (⟨0, 2, 0, 0, 0, [], []⟩ : Flow)] (⟨3, by decide⟩ : _root_.Fin 4).2) } 100).bind fun x2 => (Zbk { { (⟨(Vector.replicate 4 []), []⟩ : Switch) with Tables := (Vector.set ((⟨(Vector.replicate 4 []), []⟩ : Switch).Tables) (⟨0, by decide⟩ : _root_.Fin 4).1 [(⟨0, 0, 0, 0, 0, [], [(⟨1, 3, Z00, Z00, []⟩ : Inst)]⟩ : Flow)] (⟨0, by decide⟩ : _root_.Fin 4).2) } with Tables := (Vector.set ({ (⟨(Vector.replicate 4 []), []⟩ : Switch) with Tables := (Vector.set ((⟨(Vector.replicate 4 []), []⟩ : Switch).Tables) (⟨0, by decide⟩ : _root_.Fin 4).1 [(⟨0, 0, 0, 0, 0, [], [(⟨1, 3, Z00, Z00, []⟩ : Inst)]⟩ : Flow)] (⟨0, by decide⟩ : _root_.Fin 4).2) }.Tables) (⟨3, by decide⟩ : _root_.Fin 4).1 [(⟨0, 1, 0, 0, 0, [], [(⟨4, 0, Z00, Z00, [(⟨0, 9, 0, 0, 0, Z3x⟩ : Action)]⟩ : Inst)]⟩ : Flow), (⟨0, 2, 0, 0, 0, [], []⟩ : Flow)] (⟨3, by decide⟩ : _root_.Fin 4).2) } 0).bind fun x4 => (opt ((decide (x2.2 = 0)) && (decide ((x2.1.Rules.length : Int) = 1))) (lget x2.1.Rules 0)).bind fun x6 => (opt ((((decide (x2.2 = 0)) && (decide ((x2.1.Rules.length : Int) = 1))) && (decide ((x6.Atoms.length : Int) = 0))) && (decide (x4.2 = 5))) (Zfx { { (⟨(Vector.replicate 4 []), []⟩ : Switch) with Tables := (Vector.set ((⟨(Vector.replicate 4 []), []⟩ : Switch).Tables) (⟨0, by decide⟩ : _root_.Fin 4).1 [(⟨0, 0, 0, 0, 0, [], [(⟨1, 3, Z00, Z00, []⟩ : Inst)]⟩ : Flow)] (⟨0, by decide⟩ : _root_.Fin 4).2) } with Tables := (Vector.set ({ (⟨(Vector.replicate 4 []), []⟩ : Switch) with Tables := (Vector.set ((⟨(Vector.replicate 4 []), []⟩ : Switch).Tables) (⟨0, by decide⟩ : _root_.Fin 4).1 [(⟨0, 0, 0, 0, 0, [], [(⟨1, 3, Z00, Z00, []⟩ : Inst)]⟩ : Flow)] (⟨0, by decide⟩ : _root_.Fin 4).2) }.Tables) (⟨3, by decide⟩ : _root_.Fin 4).1 [(⟨0, 1, 0, 0, 0, [], [(⟨4, 0, Z00, Z00, [(⟨0, 9, 0, 0, 0, Z3x⟩ : Action)]⟩ : Inst)]⟩ : Flow), (⟨0, 2, 0, 0, 0, [], []⟩ : Flow)] (⟨3, by decide⟩ : _root_.Fin 4).2) })).bind fun x7 => (opt (((((decide (x2.2 = 0)) && (decide ((x2.1.Rules.length : Int) = 1))) && (decide ((x6.Atoms.length : Int) = 0))) && (decide (x4.2 = 5))) && (decide (x7 ≥ 1))) (Zd6 x2.1 x2.1)).bind fun x8 => (opt ((((((decide (x2.2 = 0)) && (decide ((x2.1.Rules.length : Int) = 1))) && (decide ((x6.Atoms.length : Int) = 0))) && (decide (x4.2 = 5))) && (decide (x7 ≥ 1))) && x8) (Zd6 x2.1 (⟨[], []⟩ : Flat))).bind fun x9 => some (((((((decide (x2.2 = 0)) && (decide ((x2.1.Rules.length : Int) = 1))) && (decide ((x6.Atoms.length : Int) = 0))) && (decide (x4.2 = 5))) && (decide (x7 ≥ 1))) && x8) && (!x9))
theorem Zzm : Q0 Tryz.prog 53 (rd Z7) Zkn := fun r h => I0 Tryz.func53 rfl Tryz.ntmps53 rfl fun w H => by
 unfold Zkn at h
 refine SR <| Ab rfl <| Nl <| SR <| Ac (opb (⟨(Vector.replicate 4 []), []⟩ : Switch) Zvz rfl Y6s (pn rfl)) rfl <| Cv rfl (Zo 2 rfl rfl Zvz) fun g1 => Zd Z3e 2 rfl <| Nl <| SR <| Ac (opb (⟨1, 3, Z00, Z00, []⟩ : Inst) Z3s rfl Zln (pc Zxt (vk rfl) <| pc Yja (vk rfl) <| pn rfl)) rfl <| Ac (osl Z8n Z3s rfl (vt rfl)) rfl <| Ac (opb (⟨0, 0, 0, 0, 0, [], [(⟨1, 3, Z00, Z00, []⟩ : Inst)]⟩ : Flow) Zce rfl Zr7 (pc Y0t (vt rfl) <| pn rfl)) rfl <| Ac (osl Z4r Zce rfl (vt rfl)) rfl <| Zt Z9a Zbc rfl <| Ac (Z0v rfl rfl Zco (vt rfl) (vk rfl) rfl) rfl <| Zd Z5n 2 rfl <| Nl <| SR <| Ac (opb (⟨0, 9, 0, 0, 0, Z3x⟩ : Action) Z4e rfl Zzd (pc Ygb (vk rfl) <| pc Yi2 (vk rfl) <| pn rfl)) rfl <| Ac (osl Z08 Z4e rfl (vt rfl)) rfl <| Ac (opb (⟨4, 0, Z00, Z00, [(⟨0, 9, 0, 0, 0, Z3x⟩ : Action)]⟩ : Inst) Z3s rfl Zln (pc Zxt (vk rfl) <| pc Yc4 (vt rfl) <| pn rfl)) rfl <| Ac (osl Z8n Z3s rfl (vt rfl)) rfl <| Ac (opb (⟨0, 1, 0, 0, 0, [], [(⟨4, 0, Z00, Z00, [(⟨0, 9, 0, 0, 0, Z3x⟩ : Action)]⟩ : Inst)]⟩ : Flow) Zce rfl Zr7 (pc Zwt (vk rfl) <| pc Y0t (vt rfl) <| pn rfl)) rfl <| Ac (opb (⟨0, 2, 0, 0, 0, [], []⟩ : Flow) Zce rfl Zr7 (pc Zwt (vk rfl) <| pn rfl)) rfl <| Ac (Zp0 (ps := [(0, .tmp 17), (1, .tmp 18)]) (l := [(⟨0, 1, 0, 0, 0, [], [(⟨4, 0, Z00, Z00, [(⟨0, 9, 0, 0, 0, Z3x⟩ : Action)]⟩ : Inst)]⟩ : Flow), (⟨0, 2, 0, 0, 0, [], []⟩ : Flow)]) rfl rfl Z4r Zce rfl rfl ⟨_, _, Lens.idx 2 Z0k 0 (by decide), _, rfl, (vt rfl), _, _, Lens.idx 2 Z0k 1 (by decide), _, rfl, (vt rfl), rfl⟩ rfl) rfl <| Zt Z9a Zbc rfl <| Ac (Z0v rfl rfl Zco (vt rfl) (vk rfl) rfl) rfl <| Zd Z5n 2 rfl <| Nl <| sq ?_
 obtain ⟨x2, hx2, h⟩ := Za h
 refine Rg <| Ld Z3e 2 rfl <| Ac (Z0b (xs := [.tmp 23, .const (Value.int IntKind.i64 100)]) (Zr6 _ _ _ hx2) e54 rfl rfl ⟨vt rfl, vk rfl, trivial⟩) rfl <| Mt2 rfl <| Ac (Z1j rfl rfl (vt rfl)) rfl <| Ac (Z1i rfl rfl (vt rfl)) rfl <| Cv rfl (Zo 3 rfl rfl Z68) fun g3 => Zd Z3q 3 rfl <| As rfl <| Nl <| sq ?_
 obtain ⟨x4, hx4, h⟩ := Za h
 refine Rg <| Ld Z3e 2 rfl <| Ac (Z0b (xs := [.tmp 28, .const (Value.int IntKind.i64 0)]) (Zr6 _ _ _ hx4) e54 rfl rfl ⟨vt rfl, vk rfl, trivial⟩) rfl <| Mt2 rfl <| Ac (Z1j rfl rfl (vt rfl)) rfl <| Ac (Z1i rfl rfl (vt rfl)) rfl <| Cv rfl (Zo 5 rfl rfl Z68) fun g5 => Zd Z3q 5 rfl <| As rfl <| Nl <| sq ?_
 obtain ⟨x6, hx6, x7, hx7, x8, hx8, x9, hx9, h⟩ := bs4 h
 refine Rg <| Md rfl <| Ac (Z0f rfl rfl (vt rfl) (vk rfl)) rfl <| Md rfl <| Gd rfl (fun hq => Z0t lFlat_0 rfl rfl Z6p (vt rfl)) <| Gd rfl (fun hq => Z0g rfl rfl Z6e (Z6 rfl hq) (i := 3) rfl) <| Gd rfl (fun hq => Z09 rfl rfl Z1m (Z6 rfl hq)) <| Gd rfl (fun hq => Z0f rfl rfl (Z6 rfl hq) (vk rfl)) <| Ac (Z0o rfl rfl (vt rfl) (vt rfl)) rfl <| Md rfl <| Gd rfl (fun hq => Z0t lFlat_0 rfl rfl Z6p (vt rfl)) <| Gd rfl (fun hq => Z0g rfl rfl Z6e (Z6 rfl hq) (i := 3) rfl) <| Gd rfl (fun hq => Z03 rfl rfl Z1m (Z6 rfl hq) (vk rfl) (Z16 hx6 hq)) <| Gd rfl (fun hq => Z27 lRule_1 rfl rfl Zc9 (Z6 rfl hq)) <| Gd rfl (fun hq => Z2e rfl rfl Z5z (Z6 rfl hq)) <| Gd rfl (fun hq => Z09 rfl rfl Z28 (Z6 rfl hq)) <| Gd rfl (fun hq => Z0f rfl rfl (Z6 rfl hq) (vk rfl)) <| Ac (Z0o rfl rfl (vt rfl) (vt rfl)) rfl <| Md rfl <| Gd rfl (fun hq => Zk (A := rd (Z0 .i64) x4.2) rfl rfl (vt rfl)) <| Gd rfl (fun hq => Z0f rfl rfl (Z6 rfl hq) (vk rfl)) <| Ac (Z0o rfl rfl (vt rfl) (vt rfl)) rfl <| Md rfl <| Gd rfl (fun hq => Z0g rfl rfl Z3e (vt rfl) (i := 2) rfl) <| Gd rfl (fun hq => Z0b (xs := [.tmp 54]) (Zwv _ _ (Z16 hx7 hq)) e58 rfl rfl ⟨Z6 rfl hq, trivial⟩) <| Gd rfl (fun hq => Z57 rfl rfl (Z6 rfl hq) (vk rfl)) <| Ac (Z0o rfl rfl (vt rfl) (vt rfl)) rfl <| Md rfl <| Gd rfl (fun hq => Z0g rfl rfl Z3q (vt rfl) (i := 3) rfl) <| Gd rfl (fun hq => Z0g rfl rfl Z3q (vt rfl) (i := 3) rfl) <| Gd rfl (fun hq => Z0b (xs := [.tmp 59, .tmp 60]) (Zph _ _ _ (Z16 hx8 hq)) e56 rfl rfl ⟨Z6 rfl hq, Z6 rfl hq, trivial⟩) <| Ac (Z0o rfl rfl (vt rfl) (vt rfl)) rfl <| Md rfl <| Gd rfl (fun hq => Z0g rfl rfl Z3q (vt rfl) (i := 3) rfl) <| Gd rfl (fun hq => opb (⟨[], []⟩ : Flat) Z68 rfl Zk3 (pn rfl)) <| Gd rfl (fun hq => Z0b (xs := [.tmp 64, .tmp 65]) (Zph _ _ _ (Z16 hx9 hq)) e56 rfl rfl ⟨Z6 rfl hq, Z6 rfl hq, trivial⟩) <| Gd rfl (fun hq => Z0s rfl rfl (Z6 rfl hq)) <| Ac (Z0o rfl rfl (vt rfl) (vt rfl)) rfl <| As rfl <| Nl <| rt ?_
 cases h; exact Zc Tryz.results53 rfl (Z4 rfl)
def Zkp (a1 : Tern) (b2 : Tern) : Option Bool :=
 (Zc0 b2.Mask a1.Mask).bind fun x5 => (Z90 x5).bind fun x6 => (opt x6 (Zkl a1.Value b2.Value)).bind fun x7 => (opt x6 (Z9h x7 b2.Mask)).bind fun x8 => (opt x6 (Z90 x8)).bind fun x9 => some (x6 && x9)
theorem Yea : Q2 Tryz.prog 321 (rd Z2) (rd Z2) (rd Z7) Zkp := fun a1 b2 r h => I0 Tryz.func321 rfl Tryz.ntmps321 rfl fun w H => by
 unfold Zkp at h
 refine SR <| Cv rfl (Zn 3 rfl rfl (vt rfl)) fun g3 => Cv rfl (Zn 4 rfl rfl (vt rfl)) fun g4 => Ab rfl <| Nl <| sq ?_
 obtain ⟨x5, hx5, x6, hx6, x7, hx7, x8, hx8, h⟩ := bs4 h
 obtain ⟨x9, hx9, h⟩ := Za h
 refine AR Zz (by kernel_rfl) <| SFd lTern_1 Z1h rfl <| Zu Zs 4 rfl <| SFd lTern_1 Z1h rfl <| Zu Zs 3 rfl <| SCl [6, 8] (Znb _ _ _ hx5) Zoq rfl <| SCl [9] (Zo3 _ _ hx6) Znz rfl <| Zg rfl <| Sd (lg [2, 11] [] rfl fun hq S hs hr => Z0t lTern_0 rfl rfl Z1y (vh hs 2 rfl rfl)) <| Sd (lg [12, 11] [3] rfl fun hq S hs hr => Z0g rfl rfl Zs (Z6 ((hs 12 rfl).trans rfl) hq) (i := 3) ((hr 3 rfl).trans rfl)) <| Sd (lg [3, 11] [] rfl fun hq S hs hr => Z0t lTern_0 rfl rfl Z1y (vh hs 3 rfl rfl)) <| Sd (lg [14, 11] [4] rfl fun hq S hs hr => Z0g rfl rfl Zs (Z6 ((hs 14 rfl).trans rfl) hq) (i := 4) ((hr 4 rfl).trans rfl)) <| Sd (lg [13, 15, 11] [] rfl fun hq S hs hr => Z0b (xs := [.tmp 13, .tmp 15]) (Zy3 _ _ _ (Z16 hx7 hq)) Zvl rfl rfl ⟨Z6 ((hs 13 rfl).trans rfl) hq, Z6 ((hs 15 rfl).trans rfl) hq, trivial⟩) <| Sd (lg [3, 11] [] rfl fun hq S hs hr => Z0t lTern_1 rfl rfl Z1h (vh hs 3 rfl rfl)) <| Sd (lg [17, 11] [4] rfl fun hq S hs hr => Z0g rfl rfl Zs (Z6 ((hs 17 rfl).trans rfl) hq) (i := 4) ((hr 4 rfl).trans rfl)) <| Sd (lg [16, 18, 11] [] rfl fun hq S hs hr => Z0b (xs := [.tmp 16, .tmp 18]) (Zhm _ _ _ (Z16 hx8 hq)) Zho rfl rfl ⟨Z6 ((hs 16 rfl).trans rfl) hq, Z6 ((hs 18 rfl).trans rfl) hq, trivial⟩) <| Sd (lg [19, 11] [] rfl fun hq S hs hr => Z0b (xs := [.tmp 19]) (Zo3 _ _ (Z16 hx9 hq)) Znz rfl rfl ⟨Z6 ((hs 19 rfl).trans rfl) hq, trivial⟩) <| Sd (lo [20, 11] [] rfl fun S hs hr => Z0o rfl rfl (vh hs 11 rfl rfl) (vh hs 20 rfl rfl)) <| SAs rfl <| Sn <| rt ?_
 cases h; exact Zc Tryz.results321 rfl (Z4 rfl)
def Zgc (a1 : Z5) (b2 : Z5) : Nat → Int → Option Bool
 | 0, _ => none
 | m7 + 1, x6 => (bif (decide (x6 < 24)) then (chk 24 x6).bind fun j8 => (chk 24 x6).bind fun j9 => (Zkp (Vector.get a1 j8) (Vector.get b2 j9)).bind fun x10 => (bif (!x10) then some false else (Zgc a1 b2 m7) (IntKind.i64.wrap (x6 + 1))) else some true)
def Zkd (a1 : Z5) (b2 : Z5) : Option Bool :=
 Zgc a1 b2 (((24 : Int) - 0).toNat + 1) 0
theorem Y40 : Q2 Tryz.prog 281 (rd (Z1 24 Z2)) (rd (Z1 24 Z2)) (rd Z7) Zkd := fun a1 b2 r h => I0 Tryz.func281 rfl Tryz.ntmps281 rfl fun w H => by
 unfold Zkd at h
 refine SR <| Cv rfl (Zn 3 rfl rfl (vt rfl)) fun g3 => Cv rfl (Zn 4 rfl rfl (vt rfl)) fun g4 => Ab rfl <| Nl <| sq <| SR <| Ak rfl <| Nl <| bk <| LG (d := []) (ν := Nat × Int) (fun (m7, x6) => (True ∧ Zgc a1 b2 m7 x6 = some r, m7, [(2, Ze g3 (Lens.id (Z1 24 Z2))), (3, Ze g4 (Lens.id (Z1 24 Z2))), (5, rd (Z0 .i64) x6)], [(3, Zf g3 87 (Z1 24 Z2) a1), (4, Zf g4 87 (Z1 24 Z2) b2)])) ((((24 : Int) - 0).toNat + 1), 0) ⟨trivial, h⟩ (FX rfl) ?_
 rintro ⟨m7, x6⟩ ⟨hsf1, h⟩
 dsimp only at h ⊢
 cases m7 with
 | zero => cases h
 | succ m7 =>
  unfold Zgc at h
  refine sq <| SR <| Md rfl <| Ac (Zl rfl rfl (vt rfl) (vk rfl)) rfl <| Nl <| Cq rfl h (fun h => ?_) (fun h => ?_)
  ·refine sk <| sq <| bk <| sq ?_
   obtain ⟨j8, hj8, j9, hj9, x10, hx10, h⟩ := bs3 h
   refine AR Zz (by kernel_rfl) <| Zg rfl <| Sd (lo [2, 10] [] rfl fun S hs hr => Z0v rfl rfl Z1d (vh hs 2 rfl rfl) (vh hs 10 rfl rfl) hj8) <| Zu Zw 3 rfl <| Zg rfl <| Sd (lo [3, 13] [] rfl fun S hs hr => Z0v rfl rfl Z1d (vh hs 3 rfl rfl) (vh hs 13 rfl rfl) hj9) <| Zu Zw 4 rfl <| SCl [12, 15] (Yea _ _ _ hx10) Ybt rfl <| Sd (lo [16] [] rfl fun S hs hr => Z0s rfl rfl (vh hs 16 rfl rfl)) <| Sn <| Cq rfl h (fun h => ?_) (fun h => ?_)
   ·refine SR <| Ab rfl <| Nl <| rt ?_
    cases h; exact Zc Tryz.results281 rfl (Z4 rfl)
   ·refine sk <| Rg <| Md rfl <| Ac (Z02 rfl rfl (vt rfl) (vk rfl)) rfl <| As rfl <| Nl ?_
    exact ⟨(_, _), Nat.lt_succ_self _, ⟨trivial, h⟩, FX rfl⟩
  ·refine xt <| SR <| Ab rfl <| Nl <| rt ?_
   cases h; exact Zc Tryz.results281 rfl (Z4 rfl)
def Zc8 (x1 : Z5) : Nat → Z18 → Int → Option Z18
 | 0, _, _ => none
 | m9 + 1, b7, x8 => (bif (decide (x8 < 24)) then (chk 24 x8).bind fun j10 => (Z6s (Vector.get x1 j10)).bind fun x11 => (chk 24 x8).bind fun j12 => (Zc8 x1 m9) (Vector.set b7 j12.1 x11.Value j12.2) (IntKind.i64.wrap (x8 + 1)) else some b7)
def Zgu (x1 : Z5) : Option Z18 :=
 Zc8 x1 (((24 : Int) - 0).toNat + 1) (Vector.replicate 24 Z00) 0
theorem Ybb : Q1 Tryz.prog 282 (rd (Z1 24 Z2)) (rd (Z1 24 Zp)) Zgu := fun x1 r h => I0 Tryz.func282 rfl Tryz.ntmps282 rfl fun w H => by
 unfold Zgu at h
 refine SR <| Cv rfl (Zn 2 rfl rfl (vt rfl)) fun g2 => Cv rfl (Zo 3 rfl rfl Z35) fun g3 => Nl <| SR <| Ac (Z13 (ps := []) (x := (Vector.replicate 24 Z00)) rfl rfl rfl (by kernel_rfl) Z35 rfl) rfl <| Cv rfl (Zo 4 rfl rfl Z35) fun g4 => Zd Z15 4 rfl <| Nl <| sq <| SR <| Ak rfl <| Nl <| bk <| LG (d := []) (ν := Nat × Z18 × Int) (fun (m9, b7, x8) => (True ∧ Zc8 x1 m9 b7 x8 = some r, m9, [(1, Ze g2 (Lens.id (Z1 24 Z2))), (2, Ze g3 (Lens.id (Z1 24 Zp))), (3, Ze g4 (Lens.id (Z1 24 Zp))), (4, rd (Z0 .i64) x8)], [(2, Zf g2 87 (Z1 24 Z2) x1), (3, Zf g3 44 (Z1 24 Zp) (Vector.replicate 24 Z00)), (4, Zf g4 44 (Z1 24 Zp) b7)])) ((((24 : Int) - 0).toNat + 1), (Vector.replicate 24 Z00), 0) ⟨trivial, h⟩ (FX rfl) ?_
 rintro ⟨m9, b7, x8⟩ ⟨hsf1, h⟩
 dsimp only at h ⊢
 cases m9 with
 | zero => cases h
 | succ m9 =>
  unfold Zc8 at h
  refine sq <| SR <| Md rfl <| Ac (Zl rfl rfl (vt rfl) (vk rfl)) rfl <| Nl <| Cq rfl h (fun h => ?_) (fun h => ?_)
  ·refine sk <| sq <| bk ?_
   obtain ⟨j10, hj10, x11, hx11, j12, hj12, h⟩ := bs3 h
   refine Rg <| Md rfl <| Md rfl <| Ac (Z0v rfl rfl Z1d (vt rfl) (vt rfl) hj10) rfl <| Ld Zw 2 rfl <| Cl [13] (Zbg _ _ hx11) Zba rfl <| Ac (Zsw lTern_0 rfl rfl Z1y Zxp Zs rfl (vt rfl)) rfl <| Ac (Z0v rfl rfl Y2d (vt rfl) (vt rfl) hj12) rfl <| Zd Zs 4 rfl <| Nl <| Rg <| Md rfl <| Ac (Z02 rfl rfl (vt rfl) (vk rfl)) rfl <| As rfl <| Nl ?_
   exact ⟨(_, _, _), Nat.lt_succ_self _, ⟨trivial, h⟩, FX rfl⟩
  ·refine xt <| SR <| Ld Z15 4 rfl <| Zd Z15 3 rfl <| Nl <| rt ?_
   cases h; exact Zc Tryz.results282 rfl (Zx rfl (i := 3) rfl Z15)
def Zag (b2 : Tern) (a1 : Tern) : Nat → (List Int) → Int → Option (List Int)
 | 0, _, _ => none
 | m12 + 1, l9, i11 => (bif (decide (i11 ≥ 0)) then (Z94 b2.Mask i11).bind fun x13 => (opt x13 (Z94 a1.Mask i11)).bind fun x14 => (bif (x13 && (!x14)) then (Z0y l9 [i11]).bind fun l15 => (Zag b2 a1 m12) l15 (IntKind.i64.wrap (i11 - 1)) else (Zag b2 a1 m12) l9 (IntKind.i64.wrap (i11 - 1))) else some l9)
def Zgy (a1 : Tern) (b2 : Tern) : Option (List Int) :=
 Zag b2 a1 (((127 : Int) - 0).toNat + 2) [] 127
theorem Ygd : Q2 Tryz.prog 322 (rd Z2) (rd Z2) (rd (Z3 (Z0 .i64))) Zgy := fun a1 b2 r h => I0 Tryz.func322 rfl Tryz.ntmps322 rfl fun w H => by
 unfold Zgy at h
 refine SR <| Cv rfl (Zn 3 rfl rfl (vt rfl)) fun g3 => Cv rfl (Zn 4 rfl rfl (vt rfl)) fun g4 => Ac (Z04 (A := rd (Z3 (Z0 .i64)) []) rfl rfl Z26) rfl <| Nl <| SR <| Cv rfl (Z43 1001 (ps := []) (l := []) rfl rfl Z0x zr3 rfl rfl rfl rfl) fun v5 => Aw rfl <| Nl <| sq <| SR <| Ak rfl <| Nl <| bk <| LG (d := []) (ν := Nat × (List Int) × Int × Value) (fun (m12, l9, i11, v10) => (True ∧ Zag b2 a1 m12 l9 i11 = some r, m12, [(2, Ze g3 (Lens.id Z2)), (3, Ze g4 (Lens.id Z2)), (5, Zj v10), (6, rd (Z0 .i64) i11)], [(3, Zf g3 85 Z2 a1), (4, Zf g4 85 Z2 b2), (1001, Zh v10 3 (Z0 .i64) l9)])) ((((127 : Int) - 0).toNat + 2), [], 127, v5) ⟨trivial, h⟩ (FX rfl) ?_
 rintro ⟨m12, l9, i11, v10⟩ ⟨hsf1, h⟩
 dsimp only at h ⊢
 cases m12 with
 | zero => cases h
 | succ m12 =>
  unfold Zag at h
  refine sq <| SR <| Md rfl <| Ac (Z57 rfl rfl (vt rfl) (vk rfl)) rfl <| Nl <| Cq rfl h (fun h => ?_) (fun h => ?_)
  ·refine sk <| sq <| bk <| sq ?_
   obtain ⟨x13, hx13, x14, hx14, h⟩ := bs2 h
   refine Rg <| Zt lTern_1 Z1h rfl <| Ld Zs 4 rfl <| Md rfl <| Cl [13, 14] (Zn1 _ _ _ hx13) Zp7 rfl <| Md rfl <| Gd rfl (fun hq => Z0t lTern_1 rfl rfl Z1h (vt rfl)) <| Gd rfl (fun hq => Z0g rfl rfl Zs (Z6 rfl hq) (i := 3) rfl) <| Gd rfl (fun hq => Zk (A := rd (Z0 .i64) i11) rfl rfl (vt rfl)) <| Gd rfl (fun hq => Z0b (xs := [.tmp 18, .tmp 19]) (Zn1 _ _ _ (Z16 hx14 hq)) Zp7 rfl rfl ⟨Z6 rfl hq, Z6 rfl hq, trivial⟩) <| Gd rfl (fun hq => Z0s rfl rfl (Z6 rfl hq)) <| Ac (Z0o rfl rfl (vt rfl) (vt rfl)) rfl <| Nl <| Cq rfl h (fun h => ?_) (fun h => ?_)
   ·obtain ⟨l15, hl15, h⟩ := Za h
    refine Rg <| Mw rfl <| Md rfl <| Ac (osl Z0x zr3 rfl (vt rfl)) rfl <| Cv rfl (Z29 1001 hl15 rfl rfl Zks (vt rfl) rfl (vt rfl)) fun v16 => Aw rfl <| Nl <| Rg <| Md rfl <| Ac (Z0i rfl rfl (vt rfl) (vk rfl)) rfl <| As rfl <| Nl ?_
    exact ⟨(_, _, _, _), Nat.lt_succ_self _, ⟨trivial, h⟩, FX rfl⟩
   ·refine sk <| Rg <| Md rfl <| Ac (Z0i rfl rfl (vt rfl) (vk rfl)) rfl <| As rfl <| Nl ?_
    exact ⟨(_, _, _, _), Nat.lt_succ_self _, ⟨trivial, h⟩, FX rfl⟩
  ·refine xt <| SR <| Mw rfl <| Aw rfl <| Nl <| AW.freezes [4, 5, 27] 1001 rfl ⟨rfl, rfl, rfl, trivial⟩ rfl <| rt ?_
   cases h; exact Zc Tryz.results322 rfl (Z4 rfl)
def Zg8 (t1 : Tern) (i2 : Int) (o3 : Bool) : Option Tern :=
 (Z6s t1).bind fun x6 => (Z7j i2).bind fun x7 => (Z7b x6.Mask x7).bind fun x9 => (Zc0 ({ x6 with Mask := x9 }.Value) x7).bind fun x10 => (bif o3 then (Z7b ({ { x6 with Mask := x9 } with Value := x10 }.Value) x7).bind fun x11 => some { { { x6 with Mask := x9 } with Value := x10 } with Value := x11 } else some { { x6 with Mask := x9 } with Value := x10 })
theorem Zyt : Q3 Tryz.prog 324 (rd Z2) (rd (Z0 .i64)) (rd Z7) (rd Z2) Zg8 := fun t1 i2 o3 r h => I0 Tryz.func324 rfl Tryz.ntmps324 rfl fun w H => by
 unfold Zg8 at h
 refine SR <| Cv rfl (Zn 4 rfl rfl (vt rfl)) fun g4 => Cv rfl (Zo 7 rfl rfl Z17) fun g5 => Nl <| sq ?_
 obtain ⟨x6, hx6, h⟩ := Za h
 refine Rg <| Ld Zw 4 rfl <| Cl [8] (Zbg _ _ hx6) Zba rfl <| Zd Zw 4 rfl <| Nl <| sq ?_
 obtain ⟨x7, hx7, h⟩ := Za h
 refine Rg <| Md rfl <| Cl [10] (Zin _ _ hx7) Zhb rfl <| Cv rfl (Zo 8 rfl rfl Z1n) fun g8 => Zd Zs 8 rfl <| Nl <| sq ?_
 obtain ⟨x9, hx9, h⟩ := Za h
 refine Rg <| Zt lTern_1 Z1h rfl <| Ld Zs 4 rfl <| Ld Zs 8 rfl <| Cl [13, 14] (Zb1 _ _ _ hx9) Zaw rfl <| Zt lTern_1 Z1h rfl <| Zd Zs 4 rfl <| Nl <| sq ?_
 obtain ⟨x10, hx10, h⟩ := Za h
 refine Rg <| Zt lTern_0 Z1y rfl <| Ld Zs 4 rfl <| Ld Zs 8 rfl <| Cl [18, 19] (Znb _ _ _ hx10) Zoq rfl <| Zt lTern_0 Z1y rfl <| Zd Zs 4 rfl <| Nl <| sq <| SR <| Md rfl <| Nl <| Cq rfl h (fun h => ?_) (fun h => ?_)
 ·obtain ⟨x11, hx11, h⟩ := Za h
  refine Rg <| Zt lTern_0 Z1y rfl <| Ld Zs 4 rfl <| Ld Zs 8 rfl <| Cl [24, 25] (Zb1 _ _ _ hx11) Zaw rfl <| Zt lTern_0 Z1y rfl <| Zd Zs 4 rfl <| Nl <| SR <| Ld Zw 4 rfl <| Zd Zw 7 rfl <| Nl <| rt ?_
  cases h; exact Zc Tryz.results324 rfl (Zx rfl (i := 7) rfl Zw)
 ·refine sk <| SR <| Ld Zw 4 rfl <| Zd Zw 7 rfl <| Nl <| rt ?_
  cases h; exact Zc Tryz.results324 rfl (Zx rfl (i := 7) rfl Zw)
def Zg4 (x21 : (List Int)) (x17 : Int) (b2 : Z5) (go1 : Z5 → (List Z5) → Int → Option (List Z5)) : Nat → Z5 → (List Z5) → Int → Option (List Z5)
 | 0, _, _, _ => none
 | m30 + 1, b26, l27, i29 => (bif (decide (i29 < (x21.length : Int))) then (chk 24 x17).bind fun j31 => (lget x21 i29).bind fun x32 => (Z94 ((Vector.get b2 j31).Value) x32).bind fun x33 => (chk 24 x17).bind fun j35 => (lget x21 i29).bind fun x36 => (Zg8 (Vector.get b26 j35) x36 (!x33)).bind fun x37 => (chk 24 x17).bind fun j38 => (Z0y l27 [(Vector.set b26 j38.1 x37 j38.2)]).bind fun l39 => (chk 24 x17).bind fun j41 => (lget x21 i29).bind fun x42 => (Zg8 (Vector.get b26 j41) x42 x33).bind fun x43 => (chk 24 x17).bind fun j44 => (Zg4 x21 x17 b2 go1 m30) (Vector.set b26 j44.1 x43 j44.2) l39 (IntKind.i64.wrap (i29 + 1)) else go1 b26 l27 (IntKind.i64.wrap (x17 + 1)))
def Z8x (a1 : Z5) (b2 : Z5) : Nat → Z5 → (List Z5) → Int → Option (List Z5)
 | 0, _, _, _ => none
 | m18 + 1, b14, l15, x17 => (bif (decide (x17 < 24)) then (chk 24 x17).bind fun j19 => (chk 24 x17).bind fun j20 => (Zgy (Vector.get a1 j19) (Vector.get b2 j20)).bind fun x21 => Zg4 x21 x17 b2 (Z8x a1 b2 m18) ((((x21.length : Int) : Int) - 0).toNat + 1) b14 l15 0 else some l15)
def Zj2 (a1 : Z5) (b2 : Z5) : Option (List Z5) :=
 (Zai a1).bind fun x5 => (Z78 a1 b2).bind fun x7 => (bif (!x7.2) then some [x5] else Z8x a1 b2 (((24 : Int) - 0).toNat + 1) x5 [] 0)
theorem Yg8 : Q2 Tryz.prog 283 (rd (Z1 24 Z2)) (rd (Z1 24 Z2)) (rd (Z3 (Z1 24 Z2))) Zj2 := fun a1 b2 r h => I0 Tryz.func283 rfl Tryz.ntmps283 rfl fun w H => by
 unfold Zj2 at h
 refine SR <| Cv rfl (Zn 3 rfl rfl (vt rfl)) fun g3 => Cv rfl (Zn 4 rfl rfl (vt rfl)) fun g4 => Ac (Z04 (A := rd (Z3 (Z1 24 Z2)) []) rfl rfl Z26) rfl <| Nl <| sq ?_
 obtain ⟨x5, hx5, h⟩ := Za h
 refine Rg <| Ld Zv 3 rfl <| Cl [14] (Zok _ _ hx5) e83 rfl <| Cv rfl (Zo 6 rfl rfl Z0n) fun g6 => Zd Zv 6 rfl <| Nl <| sq <| sq ?_
 obtain ⟨x7, hx7, h⟩ := Za h
 refine Rg <| Ld Zv 3 rfl <| Ld Zv 4 rfl <| Cl [17, 18] (Zny _ _ _ hx7) Zll rfl <| Mt2 rfl <| Ac (Z1j rfl rfl (vt rfl)) rfl <| Ac (Z1i rfl rfl (vt rfl)) rfl <| Cv rfl (Zo 7 rfl rfl Z0n) fun g8 => Zd Zv 7 rfl <| As rfl <| Nl <| SR <| Md rfl <| Ac (Z0s rfl rfl (vt rfl)) rfl <| Nl <| Cq rfl h (fun h => ?_) (fun h => ?_)
 ·refine SR <| Ld Zv 6 rfl <| Ac (osl Z1v Z0n rfl (vt rfl)) rfl <| As rfl <| Nl <| rt ?_
  cases h; exact Zc Tryz.results283 rfl (Z4 rfl)
 ·refine sk <| SR <| Cv rfl (Z43 1001 (ps := []) (l := []) rfl rfl Z1v Z0n rfl rfl rfl rfl) fun v9 => Aw rfl <| Nl <| sq <| SR <| Ak rfl <| Nl <| bk <| LG (d := []) (ν := Nat × Z5 × (List Z5) × Int × Value) (fun (m18, b14, l15, x17, v16) => (True ∧ Z8x a1 b2 m18 b14 l15 x17 = some r, m18, [(2, Ze g3 (Lens.id (Z1 24 Z2))), (3, Ze g4 (Lens.id (Z1 24 Z2))), (5, Ze g6 (Lens.id (Z1 24 Z2))), (8, Zj v16), (9, rd (Z0 .i64) x17)], [(3, Zf g3 87 (Z1 24 Z2) a1), (4, Zf g4 87 (Z1 24 Z2) b2), (6, Zf g6 87 (Z1 24 Z2) b14), (1001, Zh v16 87 (Z1 24 Z2) l15)])) ((((24 : Int) - 0).toNat + 1), x5, [], 0, v9) ⟨trivial, h⟩ (FX rfl) ?_
  rintro ⟨m18, b14, l15, x17, v16⟩ ⟨hsf1, h⟩
  dsimp only at h ⊢
  cases m18 with
  | zero => cases h
  | succ m18 =>
   unfold Z8x at h
   refine sq <| SR <| Md rfl <| Ac (Zl rfl rfl (vt rfl) (vk rfl)) rfl <| Nl <| Cq rfl h (fun h => ?_) (fun h => ?_)
   ·refine sk <| sq <| bk <| sq ?_
    obtain ⟨j19, hj19, j20, hj20, x21, hx21, h⟩ := bs3 h
    refine AR Zz (by kernel_rfl) <| Zg rfl <| Sd (lo [2, 31] [] rfl fun S hs hr => Z0v rfl rfl Z1d (vh hs 2 rfl rfl) (vh hs 31 rfl rfl) hj19) <| Zu Zw 3 rfl <| Zg rfl <| Sd (lo [3, 34] [] rfl fun S hs hr => Z0v rfl rfl Z1d (vh hs 3 rfl rfl) (vh hs 34 rfl rfl) hj20) <| Zu Zw 4 rfl <| SCl [33, 36] (Ygd _ _ _ hx21) Y3u rfl <| SAs rfl <| Sn <| SR <| Ak rfl <| Nl <| bk <| LG (d := []) (ν := Nat × Z5 × (List Z5) × Int × Value) (fun (m30, b26, l27, i29, v28) => (True ∧ Zg4 x21 x17 b2 (Z8x a1 b2 m18) m30 b26 l27 i29 = some r, m30, [(2, Ze g3 (Lens.id (Z1 24 Z2))), (3, Ze g4 (Lens.id (Z1 24 Z2))), (5, Ze g6 (Lens.id (Z1 24 Z2))), (8, Zj v28), (9, rd (Z0 .i64) x17), (10, rd (Z3 (Z0 .i64)) x21), (11, rd (Z0 .i64) i29)], [(3, Zf g3 87 (Z1 24 Z2) a1), (4, Zf g4 87 (Z1 24 Z2) b2), (6, Zf g6 87 (Z1 24 Z2) b26), (1001, Zh v28 87 (Z1 24 Z2) l27)])) (((((x21.length : Int) : Int) - 0).toNat + 1), b14, l15, 0, v16) ⟨trivial, h⟩ (FX rfl) ?_
    rintro ⟨m30, b26, l27, i29, v28⟩ ⟨hsf2, h⟩
    dsimp only at h ⊢
    cases m30 with
    | zero => cases h
    | succ m30 =>
     unfold Zg4 at h
     refine sq <| SR <| Md rfl <| Md rfl <| Ac (Z09 rfl rfl Z0x (vt rfl)) rfl <| Ac (Zl rfl rfl (vt rfl) (vt rfl)) rfl <| Nl <| Cq rfl h (fun h => ?_) (fun h => ?_)
     ·refine sk <| sq <| bk <| sq ?_
      obtain ⟨j31, hj31, x32, hx32, x33, hx33, h⟩ := bs3 h
      refine AR Zz (by kernel_rfl) <| Zg rfl <| Sd (lo [3, 44] [] rfl fun S hs hr => Z0v rfl rfl Z1d (vh hs 3 rfl rfl) (vh hs 44 rfl rfl) hj31) <| SFd lTern_0 Z1y rfl <| Zu Zs 4 rfl <| Zg rfl <| Zg rfl <| Sd (lo [48, 49] [] rfl fun S hs hr => Z03 rfl rfl Z0x (vh hs 48 rfl rfl) (vh hs 49 rfl rfl) hx32) <| SLp Zq rfl <| SCl [47, 51] (Zn1 _ _ _ hx33) Zp7 rfl <| SAs rfl <| Sn <| SR <| Ld Zv 6 rfl <| Cv rfl (Zo 14 rfl rfl Z0n) fun g34 => Zd Zv 14 rfl <| Nl <| sq ?_
      obtain ⟨j35, hj35, x36, hx36, x37, hx37, j38, hj38, h⟩ := bs4 h
      refine AR Zz (by kernel_rfl) <| Zg rfl <| Zg rfl <| Sd (lo [5, 55] [] rfl fun S hs hr => Z0v rfl rfl Z1d (vh hs 5 rfl rfl) (vh hs 55 rfl rfl) hj35) <| Zu Zw 6 rfl <| Zg rfl <| Zg rfl <| Sd (lo [58, 59] [] rfl fun S hs hr => Z03 rfl rfl Z0x (vh hs 58 rfl rfl) (vh hs 59 rfl rfl) hx36) <| SLp Zq rfl <| Zg rfl <| Sd (lo [62] [] rfl fun S hs hr => Z0s rfl rfl (vh hs 62 rfl rfl)) <| SCl [57, 61, 63] (Zyt _ _ _ _ hx37) Zvv rfl <| Sd (lo [13, 54] [] rfl fun S hs hr => Z0v rfl rfl Z1d (vh hs 13 rfl rfl) (vh hs 54 rfl rfl) hj38) <| SSt Zw 14 rfl <| Sn <| sq ?_
      obtain ⟨l39, hl39, h⟩ := Za h
      refine Rg <| Mw rfl <| Ld Zv 14 rfl <| Ac (osl Z1v Z0n rfl (vt rfl)) rfl <| Cv rfl (Z29 1001 hl39 rfl rfl Zfk (vt rfl) rfl (vt rfl)) fun v40 => Aw rfl <| Nl ?_
      obtain ⟨j41, hj41, x42, hx42, x43, hx43, j44, hj44, h⟩ := bs4 h
      refine AR Zz (by kernel_rfl) <| Zg rfl <| Zg rfl <| Sd (lo [5, 71] [] rfl fun S hs hr => Z0v rfl rfl Z1d (vh hs 5 rfl rfl) (vh hs 71 rfl rfl) hj41) <| Zu Zw 6 rfl <| Zg rfl <| Zg rfl <| Sd (lo [74, 75] [] rfl fun S hs hr => Z03 rfl rfl Z0x (vh hs 74 rfl rfl) (vh hs 75 rfl rfl) hx42) <| SLp Zq rfl <| Zg rfl <| SCl [73, 77, 78] (Zyt _ _ _ _ hx43) Zvv rfl <| Sd (lo [5, 70] [] rfl fun S hs hr => Z0v rfl rfl Z1d (vh hs 5 rfl rfl) (vh hs 70 rfl rfl) hj44) <| SSt Zw 6 rfl <| Sn <| Rg <| Md rfl <| Ac (Z02 rfl rfl (vt rfl) (vk rfl)) rfl <| As rfl <| Nl ?_
      exact ⟨(_, _, _, _, _), Nat.lt_succ_self _, ⟨trivial, h⟩, FX rfl⟩
     ·refine xt <| Rg <| Md rfl <| Ac (Z02 rfl rfl (vt rfl) (vk rfl)) rfl <| As rfl <| Nl ?_
      exact ⟨(_, _, _, _, _), Nat.lt_succ_self _, ⟨trivial, h⟩, FX rfl⟩
   ·refine xt <| SR <| Mw rfl <| Aw rfl <| Nl <| AW.freezes [4, 8, 81] 1001 rfl ⟨rfl, rfl, rfl, trivial⟩ rfl <| rt ?_
    cases h; exact Zc Tryz.results283 rfl (Z4 rfl)
def Zbo (x20 : (List Z5)) (l2 : (List Z5)) (x10 : Int) (R_r08_look : (Z5 → (List Z5) → Int → Bool → Option (Z18 × Bool × Int))) (x4 : Bool) : Nat → Int → Int → Option (Z18 × Bool × Int)
 | 0, _, _ => none
 | m25 + 1, l23, i24 => (bif (decide (i24 < (x20.length : Int))) then (lget x20 i24).bind fun x26 => (Z5o l2 (IntKind.i64.wrap (x10 + 1))).bind fun s27 => (R_r08_look x26 s27 l23 x4).bind fun x28 => (bif (x28.2.1 || (decide (x28.2.2 < 0))) then some (x28.1, x28.2.1, x28.2.2) else (Zbo x20 l2 x10 R_r08_look x4 m25) x28.2.2 (IntKind.i64.wrap (i24 + 1))) else some ((Vector.replicate 24 Z00), false, l23))
def Zbe (l2 : (List Z5)) (x1 : Z5) (l7 : Int) (R_r08_look : (Z5 → (List Z5) → Int → Bool → Option (Z18 × Bool × Int))) (x4 : Bool) : Nat → Int → Int → Option (Z18 × Bool × Int)
 | 0, _, _ => none
 | m12 + 1, x10, i11 => (bif (decide (i11 < (l2.length : Int))) then (lget l2 i11).bind fun x13 => (Zkd x1 x13).bind fun x14 => (bif x14 then some ((Vector.replicate 24 Z00), false, l7) else (lget l2 i11).bind fun x15 => (Z78 x1 x15).bind fun x16 => (bif (x16.2 && (decide (x10 < 0))) then (Zbe l2 x1 l7 R_r08_look x4 m12) i11 (IntKind.i64.wrap (i11 + 1)) else (Zbe l2 x1 l7 R_r08_look x4 m12) x10 (IntKind.i64.wrap (i11 + 1)))) else (bif (decide (x10 < 0)) then (Zgu x1).bind fun x18 => some (x18, true, l7) else (lget l2 x10).bind fun x19 => (Zj2 x1 x19).bind fun x20 => Zbo x20 l2 x10 R_r08_look x4 ((((x20.length : Int) : Int) - 0).toNat + 1) l7 0))
def Zab (l2 : (List Z5)) (x1 : Z5) (R_r08_look : (Z5 → (List Z5) → Int → Bool → Option (Z18 × Bool × Int))) (x4 : Bool) (l7 : Int) : Option (Z18 × Bool × Int) :=
 Zbe l2 x1 l7 R_r08_look x4 ((((l2.length : Int) : Int) - 0).toNat + 1) (-1) 0
def Zjp (R_r08_look : (Z5 → (List Z5) → Int → Bool → Option (Z18 × Bool × Int))) (x1 : Z5) (l2 : (List Z5)) (l3 : Int) (x4 : Bool) : Option (Z18 × Bool × Int) :=
 (bif ((!x4) && (decide (l3 < 1))) then some ((Vector.replicate 24 Z00), false, (-1)) else (bif (!x4) then Zab l2 x1 R_r08_look x4 (IntKind.i64.wrap (l3 - 1)) else Zab l2 x1 R_r08_look x4 l3))
theorem Yj6 (R_r08_look : (Z5 → (List Z5) → Int → Bool → Option (Z18 × Bool × Int))) (hR_r08_look : ∀ (x1 : Z5) (l2 : (List Z5)) (l3 : Int) (x4 : Bool) (r : (Z18 × Bool × Int)), R_r08_look x1 l2 l3 x4 = some r → PCon Tryz.prog 236 [rd (Z1 24 Z2) x1, rd (Z3 (Z1 24 Z2)) l2, rd (Z0 .i64) l3, rd Z7 x4] (Z2k (rd (Z1 24 Zp) r.1) (rd Z7 r.2.1) (rd (Z0 .i64) r.2.2))) (x1 : Z5) (l2 : (List Z5)) (l3 : Int) (x4 : Bool) (r : (Z18 × Bool × Int)) (h : Zjp R_r08_look x1 l2 l3 x4 = some r) : PCon Tryz.prog 236 [rd (Z1 24 Z2) x1, rd (Z3 (Z1 24 Z2)) l2, rd (Z0 .i64) l3, rd Z7 x4] (Z2k (rd (Z1 24 Zp) r.1) (rd Z7 r.2.1) (rd (Z0 .i64) r.2.2)) := by
 refine PCon.of (Con.intro0 Tryz.func236 rfl Tryz.ntmps236 rfl fun w H => ?_)
 unfold Zjp at h
 refine SR <| Cv rfl (Zn 5 rfl rfl (vt rfl)) fun g5 => Cv rfl (Zo 9 rfl rfl Z35) fun g6 => Ab rfl <| Ak rfl <| Nl <| sq <| SR <| Md rfl <| Ac (Z0s rfl rfl (vt rfl)) rfl <| Md rfl <| Gd rfl (fun hq => Zk (A := rd (Z0 .i64) l3) rfl rfl (vt rfl)) <| Gd rfl (fun hq => Zl rfl rfl (Z6 rfl hq) (vk rfl)) <| Ac (Z0o rfl rfl (vt rfl) (vt rfl)) rfl <| Nl <| Cq rfl h (fun h => ?_) (fun h => ?_)
 ·refine SR <| Ac (Z13 (ps := []) (x := (Vector.replicate 24 Z00)) rfl rfl rfl (by kernel_rfl) Z35 rfl) rfl <| Zd Z15 9 rfl <| Ab rfl <| Ak rfl <| Nl <| rt ?_
  cases h; exact Z6n Tryz.results236 rfl (Zx rfl (i := 9) rfl Z15) (Z4 rfl) (Z4 rfl)
 ·refine sk ?_
  refine JN (d := []) (ν := Int) (fun l7 => (Zab l2 x1 R_r08_look x4 l7 = some r, [(1, rd (Z3 (Z1 24 Z2)) l2), (2, rd (Z0 .i64) l7), (3, rd Z7 x4), (4, Ze g5 (Lens.id (Z1 24 Z2))), (8, Ze g6 (Lens.id (Z1 24 Zp)))], [(5, Zf g5 87 (Z1 24 Z2) x1), (9, Zf g6 44 (Z1 24 Zp) (Vector.replicate 24 Z00))])) ?hx1 ?hy1
  case hy1 =>
   intro l7 h
   dsimp only at h ⊢
   unfold Zab at h
   refine SR <| Ak rfl <| Nl <| sq <| SR <| Ak rfl <| Nl <| bk <| LG (d := []) (ν := Nat × Int × Int) (fun (m12, x10, i11) => (True ∧ Zbe l2 x1 l7 R_r08_look x4 m12 x10 i11 = some r, m12, [(1, rd (Z3 (Z1 24 Z2)) l2), (2, rd (Z0 .i64) l7), (3, rd Z7 x4), (4, Ze g5 (Lens.id (Z1 24 Z2))), (8, Ze g6 (Lens.id (Z1 24 Zp))), (11, rd (Z0 .i64) x10), (12, rd (Z0 .i64) i11)], [(5, Zf g5 87 (Z1 24 Z2) x1), (9, Zf g6 44 (Z1 24 Zp) (Vector.replicate 24 Z00))])) (((((l2.length : Int) : Int) - 0).toNat + 1), (-1), 0) ⟨trivial, h⟩ (FX rfl) ?_
   rintro ⟨m12, x10, i11⟩ ⟨hsf2, h⟩
   dsimp only at h ⊢
   cases m12 with
   | zero => cases h
   | succ m12 =>
    unfold Zbe at h
    refine sq <| SR <| Md rfl <| Md rfl <| Ac (Z09 rfl rfl Z1v (vt rfl)) rfl <| Ac (Zl rfl rfl (vt rfl) (vt rfl)) rfl <| Nl <| Cq rfl h (fun h => ?_) (fun h => ?_)
    ·refine sk <| sq <| bk <| sq <| sq ?_
     obtain ⟨x13, hx13, x14, hx14, h⟩ := bs2 h
     refine AR Zz (by kernel_rfl) <| Zu Zv 5 rfl <| Zg rfl <| Zg rfl <| Sd (lo [38, 39] [] rfl fun S hs hr => Z03 rfl rfl Z1v (vh hs 38 rfl rfl) (vh hs 39 rfl rfl) hx13) <| SLp Zv rfl <| SCl [37, 41] (Y40 _ _ _ hx14) Ye0 rfl <| Sn <| Cq rfl h (fun h => ?_) (fun h => ?_)
     ·refine SR <| Ac (Z13 (ps := []) (x := (Vector.replicate 24 Z00)) rfl rfl rfl (by kernel_rfl) Z35 rfl) rfl <| Md rfl <| Zd Z15 9 rfl <| Ab rfl <| As rfl <| Nl <| rt ?_
      cases h; exact Z6n Tryz.results236 rfl (Zx rfl (i := 9) rfl Z15) (Z4 rfl) (Z4 rfl)
     ·refine sk <| sq ?_
      obtain ⟨x15, hx15, x16, hx16, h⟩ := bs2 h
      refine AR Zz (by kernel_rfl) <| Zu Zv 5 rfl <| Zg rfl <| Zg rfl <| Sd (lo [47, 48] [] rfl fun S hs hr => Z03 rfl rfl Z1v (vh hs 47 rfl rfl) (vh hs 48 rfl rfl) hx15) <| SLp Zv rfl <| SCl [46, 50] (Zny _ _ _ hx16) Zll rfl <| Sd (lo [51] [] rfl fun S hs hr => Zk (A := Z1c (rd (Z1 24 Z2) x16.1) (rd Z7 x16.2)) rfl rfl (vh hs 51 rfl rfl)) <| Sd (lo [45] [] rfl fun S hs hr => Z1j rfl rfl (vh hs 45 rfl rfl)) <| Sd (lo [45] [] rfl fun S hs hr => Z1i rfl rfl (vh hs 45 rfl rfl)) <| Sd (Z11 (us := [(13, Z1u 87 (Z1 24 Z2) (Vector.replicate 24 zTern))]) (ur := []) [] [] rfl fun S hs hr => Z4t rfl rfl rfl Z0n) <| Sd (Z11 (us := [(13, Z1u 87 (Z1 24 Z2) x16.1)]) (ur := []) [13, 52] [] rfl fun S hs hr => Z54 rfl rfl Zv ((hs 13 rfl).trans rfl) (vh hs 52 rfl rfl)) <| SAs rfl <| Sn <| AW.unpackP 13 14 rfl rfl fun g17 => SR <| Md rfl <| Md rfl <| Gd rfl (fun hq => Zk (A := rd (Z0 .i64) x10) rfl rfl (vt rfl)) <| Gd rfl (fun hq => Zl rfl rfl (Z6 rfl hq) (vk rfl)) <| Ac (Z0o rfl rfl (vt rfl) (vt rfl)) rfl <| Nl <| Cq rfl h (fun h => ?_) (fun h => ?_)
      ·refine Rg <| Md rfl <| As rfl <| Nl <| Rg <| Md rfl <| Ac (Z02 rfl rfl (vt rfl) (vk rfl)) rfl <| As rfl <| Nl ?_
       exact ⟨(_, _, _), Nat.lt_succ_self _, ⟨trivial, h⟩, FX rfl⟩
      ·refine sk <| Rg <| Md rfl <| Ac (Z02 rfl rfl (vt rfl) (vk rfl)) rfl <| As rfl <| Nl ?_
       exact ⟨(_, _, _), Nat.lt_succ_self _, ⟨trivial, h⟩, FX rfl⟩
    ·refine xt <| sq <| SR <| Md rfl <| Ac (Zl rfl rfl (vt rfl) (vk rfl)) rfl <| Nl <| Cq rfl h (fun h => ?_) (fun h => ?_)
     ·refine sq ?_
      obtain ⟨x18, hx18, h⟩ := Za h
      refine Rg <| Ld Zv 5 rfl <| Cl [62] (Ybb _ _ hx18) Yat rfl <| Md rfl <| Zd Z15 9 rfl <| Ab rfl <| As rfl <| Nl <| rt ?_
      cases h; exact Z6n Tryz.results236 rfl (Zx rfl (i := 9) rfl Z15) (Z4 rfl) (Z4 rfl)
     ·refine sk <| sq ?_
      obtain ⟨x19, hx19, x20, hx20, h⟩ := bs2 h
      refine AR Zz (by kernel_rfl) <| Zu Zv 5 rfl <| Zg rfl <| Zg rfl <| Sd (lo [66, 67] [] rfl fun S hs hr => Z03 rfl rfl Z1v (vh hs 66 rfl rfl) (vh hs 67 rfl rfl) hx19) <| SLp Zv rfl <| SCl [65, 69] (Yg8 _ _ _ hx20) Y5h rfl <| SAs rfl <| Sn <| sq <| SR <| Ak rfl <| Nl <| bk <| LG (d := []) (ν := Nat × Int × Int) (fun (m25, l23, i24) => (True ∧ Zbo x20 l2 x10 R_r08_look x4 m25 l23 i24 = some r, m25, [(1, rd (Z3 (Z1 24 Z2)) l2), (2, rd (Z0 .i64) l23), (3, rd Z7 x4), (8, Ze g6 (Lens.id (Z1 24 Zp))), (11, rd (Z0 .i64) x10), (15, rd (Z3 (Z1 24 Z2)) x20), (16, rd (Z0 .i64) i24)], [(9, Zf g6 44 (Z1 24 Zp) (Vector.replicate 24 Z00))])) (((((x20.length : Int) : Int) - 0).toNat + 1), l7, 0) ⟨trivial, h⟩ (FX rfl) ?_
      rintro ⟨m25, l23, i24⟩ ⟨hsf3, h⟩
      dsimp only at h ⊢
      cases m25 with
      | zero => cases h
      | succ m25 =>
       unfold Zbo at h
       refine sq <| SR <| Md rfl <| Md rfl <| Ac (Z09 rfl rfl Z1v (vt rfl)) rfl <| Ac (Zl rfl rfl (vt rfl) (vt rfl)) rfl <| Nl <| Cq rfl h (fun h => ?_) (fun h => ?_)
       ·refine sk <| sq <| bk <| sq ?_
        obtain ⟨x26, hx26, s27, hs27, x28, hx28, h⟩ := bs3 h
        refine AR Zz (by kernel_rfl) <| Zg rfl <| Zg rfl <| Sd (lo [78, 79] [] rfl fun S hs hr => Z03 rfl rfl Z1v (vh hs 78 rfl rfl) (vh hs 79 rfl rfl) hx26) <| SLp Zv rfl <| Zg rfl <| Zg rfl <| Sd (lo [83] [] rfl fun S hs hr => Z02 rfl rfl (vh hs 83 rfl rfl) (vk rfl)) <| Sd (lo [82, 84] [] rfl fun S hs hr => Ztg hs27 rfl rfl Z1v (vh hs 82 rfl rfl) (vh hs 84 rfl rfl)) <| Zg rfl <| Zg rfl <| SCl [81, 85, 86, 87] (hR_r08_look _ _ _ _ _ hx28) Zvn rfl <| Sd (lo [88] [] rfl fun S hs hr => Zk (A := Z2k (rd (Z1 24 Zp) x28.1) (rd Z7 x28.2.1) (rd (Z0 .i64) x28.2.2)) rfl rfl (vh hs 88 rfl rfl)) <| Sd (lo [77] [] rfl fun S hs hr => Zcq rfl rfl (vh hs 77 rfl rfl)) <| Sd (lo [77] [] rfl fun S hs hr => Zcj rfl rfl (vh hs 77 rfl rfl)) <| Sd (lo [77] [] rfl fun S hs hr => Zbb rfl rfl (vh hs 77 rfl rfl)) <| Sd (Z11 (us := [(17, Z1u 44 (Z1 24 Zp) (Vector.replicate 24 Z00))]) (ur := []) [] [] rfl fun S hs hr => Z4t rfl rfl rfl Z35) <| Sd (Z11 (us := [(17, Z1u 44 (Z1 24 Zp) x28.1)]) (ur := []) [17, 89] [] rfl fun S hs hr => Z54 rfl rfl Z15 ((hs 17 rfl).trans rfl) (vh hs 89 rfl rfl)) <| SAs rfl <| SAs rfl <| Sn <| AW.unpackP 17 18 rfl rfl fun g29 => sq <| SR <| Md rfl <| Md rfl <| Gd rfl (fun hq => Zk (A := rd (Z0 .i64) x28.2.2) rfl rfl (vt rfl)) <| Gd rfl (fun hq => Zl rfl rfl (Z6 rfl hq) (vk rfl)) <| Ac (Z4g rfl rfl (vt rfl) (vt rfl)) rfl <| Nl <| Cq rfl h (fun h => ?_) (fun h => ?_)
        ·refine SR <| Ld Z15 18 rfl <| Md rfl <| Md rfl <| Zd Z15 9 rfl <| As rfl <| As rfl <| Nl <| rt ?_
         cases h; exact Z6n Tryz.results236 rfl (Zx rfl (i := 9) rfl Z15) (Z4 rfl) (Z4 rfl)
        ·refine sk <| Rg <| Md rfl <| As rfl <| Nl <| Rg <| Md rfl <| Ac (Z02 rfl rfl (vt rfl) (vk rfl)) rfl <| As rfl <| Nl ?_
         exact ⟨(_, _, _), Nat.lt_succ_self _, ⟨trivial, h⟩, FX rfl⟩
       ·refine xt <| SR <| Ac (Z13 (ps := []) (x := (Vector.replicate 24 Z00)) rfl rfl rfl (by kernel_rfl) Z35 rfl) rfl <| Md rfl <| Zd Z15 9 rfl <| Ab rfl <| As rfl <| Nl <| rt ?_
        cases h; exact Z6n Tryz.results236 rfl (Zx rfl (i := 9) rfl Z15) (Z4 rfl) (Z4 rfl)
  case hx1 =>
   refine SR <| Md rfl <| Ac (Z0s rfl rfl (vt rfl)) rfl <| Nl <| Cq rfl h (fun h => ?_) (fun h => ?_)
   ·refine Rg <| Md rfl <| Ac (Z0i rfl rfl (vt rfl) (vk rfl)) rfl <| As rfl <| Nl ?_
    exact ⟨_, h, FX rfl⟩
   ·refine sk ?_
    exact ⟨_, h, FX rfl⟩
def Z5p : Nat → (Z5 → (List Z5) → Int → Bool → Option (Z18 × Bool × Int))
 | 0 => (fun _ _ _ _ => none)
 | n + 1 => (Zjp (Z5p n))
theorem Zxx : ∀ n : Nat, (∀ (x1 : Z5) (l2 : (List Z5)) (l3 : Int) (x4 : Bool) (r : (Z18 × Bool × Int)), (Z5p n) x1 l2 l3 x4 = some r → PCon Tryz.prog 236 [rd (Z1 24 Z2) x1, rd (Z3 (Z1 24 Z2)) l2, rd (Z0 .i64) l3, rd Z7 x4] (Z2k (rd (Z1 24 Zp) r.1) (rd Z7 r.2.1) (rd (Z0 .i64) r.2.2)))
 | 0 => (by intros; rename_i h; cases h)
 | n + 1 => by
  have ih := Zxx n
  exact (Yj6 (Z5p n) ih)
def Zt8 (x1 : Z5) (l2 : (List Z5)) (l3 : Int) (x4 : Bool) : Option (Z18 × Bool × Int) := (Z5p Z0w) x1 l2 l3 x4
theorem Yb1 : ∀ (x1 : Z5) (l2 : (List Z5)) (l3 : Int) (x4 : Bool) (r : (Z18 × Bool × Int)), Zt8 x1 l2 l3 x4 = some r → PCon Tryz.prog 236 [rd (Z1 24 Z2) x1, rd (Z3 (Z1 24 Z2)) l2, rd (Z0 .i64) l3, rd Z7 x4] (Z2k (rd (Z1 24 Zp) r.1) (rd Z7 r.2.1) (rd (Z0 .i64) r.2.2)) := Zxx Z0w
def Zjw (x1 : Z5) (l2 : (List Z5)) (m3 : Int) : Option (Z18 × Bool × Int) :=
 (Zt8 x1 l2 (Z1t m3 0) (decide (m3 ≥ 1099511627776))).bind fun x6 => (bif (decide (x6.2.2 < 0)) then some ((Vector.replicate 24 Z00), false, 5) else some (x6.1, x6.2.1, 0))
theorem Y9b : Q3 Tryz.prog 171 (rd (Z1 24 Z2)) (rd (Z3 (Z1 24 Z2))) (rd (Z0 .i64)) (fun r => Z2k (rd (Z1 24 Zp) r.1) (rd Z7 r.2.1) (rd (Z0 .i64) r.2.2)) Zjw := fun x1 l2 m3 r h => I0 Tryz.func171 rfl Tryz.ntmps171 rfl fun w H => by
 unfold Zjw at h
 refine SR <| Cv rfl (Zn 4 rfl rfl (vt rfl)) fun g4 => Cv rfl (Zo 7 rfl rfl Z35) fun g5 => Ab rfl <| Ak rfl <| Nl <| SR <| Md rfl <| Ac (Z57 rfl rfl (vt rfl) (vk rfl)) rfl <| As rfl <| Nl <| sq ?_
 obtain ⟨x6, hx6, h⟩ := Za h
 refine Rg <| Ld Zv 4 rfl <| Md rfl <| Md rfl <| Ac (Z8y rfl rfl (vt rfl) (vk rfl)) rfl <| Md rfl <| Cl [16, 17, 19, 20] (Yb1 _ _ _ _ _ hx6) Zvn rfl <| Ac (Zk (A := Z2k (rd (Z1 24 Zp) x6.1) (rd Z7 x6.2.1) (rd (Z0 .i64) x6.2.2)) rfl rfl (vt rfl)) rfl <| Ac (Zcq rfl rfl (vt rfl)) rfl <| Ac (Zcj rfl rfl (vt rfl)) rfl <| Ac (Zbb rfl rfl (vt rfl)) rfl <| Cv rfl (Zo 11 rfl rfl Z35) fun g7 => Zd Z15 11 rfl <| As rfl <| As rfl <| Nl <| sq <| SR <| Md rfl <| Ac (Zl rfl rfl (vt rfl) (vk rfl)) rfl <| Nl <| Cq rfl h (fun h => ?_) (fun h => ?_)
 ·refine SR <| Ac (Z13 (ps := []) (x := (Vector.replicate 24 Z00)) rfl rfl rfl (by kernel_rfl) Z35 rfl) rfl <| Zd Z15 7 rfl <| Ab rfl <| Ak rfl <| Nl <| rt ?_
  cases h; exact Z6n Tryz.results171 rfl (Zx rfl (i := 7) rfl Z15) (Z4 rfl) (Z4 rfl)
 ·refine sk <| SR <| Ld Z15 11 rfl <| Md rfl <| Zd Z15 7 rfl <| As rfl <| Ak rfl <| Nl <| rt ?_
  cases h; exact Z6n Tryz.results171 rfl (Zx rfl (i := 7) rfl Z15) (Z4 rfl) (Z4 rfl)
end Go.Proofs.YtknpgojdkobgjaaGreat.W
