/- A part of the proof. -/
import Derived.Test.YtknpgojdkobgjaaGreatG1
set_option linter.unusedVariables false
set_option maxRecDepth 4000
set_option linter.unusedSimpArgs false
namespace Go.Proofs.YtknpgojdkobgjaaGreat.W
open Go Go.Wb
theorem Zkq : Ent Tryz.prog 151 := Ent.mk Tryz.func151 rfl rfl
theorem e78 : Ent Tryz.prog 78 := Ent.mk Tryz.func78 rfl rfl
theorem Ydr : Ent Tryz.prog 155 := Ent.mk Tryz.func155 rfl rfl
theorem Y50 : Ent Tryz.prog 211 := Ent.mk Tryz.func211 rfl rfl
theorem Yhw : Ent Tryz.prog 153 := Ent.mk Tryz.func153 rfl rfl
theorem e79 : Ent Tryz.prog 79 := Ent.mk Tryz.func79 rfl rfl
theorem e20 : Ent Tryz.prog 20 := Ent.mk Tryz.func20 rfl rfl
theorem e21 : Ent Tryz.prog 21 := Ent.mk Tryz.func21 rfl rfl
theorem e23 : Ent Tryz.prog 23 := Ent.mk Tryz.func23 rfl rfl
def Zh8 (x3 : Flow) (t2 : Int) (R_r33_walk : (Switch → Int → Z9 → Z9 → (List Atom) → (List Action) → Option (List Rule))) (s1 : Switch) (x4 : Z9) (l15 : (List Atom)) (s19 : (List Action)) (b20 : Z9) : Option (List Rule) :=
 (Z96 x3.Insts 1).bind fun x21 => (bif ((x21.2 && (decide (x21.1.Table > t2))) && (decide (x21.1.Table < 4))) then (R_r33_walk s1 x21.1.Table x4 b20 l15 s19).bind fun x23 => some x23 else (Zhp s19).bind fun x24 => (Zcb x24 b20).bind fun x25 => (Z0u l15 x25.1).bind fun l27 => some [(⟨x4, l27⟩ : Rule)])
def Zgt (x3 : Flow) (b17 : Z9) (t2 : Int) (R_r33_walk : (Switch → Int → Z9 → Z9 → (List Atom) → (List Action) → Option (List Rule))) (s1 : Switch) (x4 : Z9) (l15 : (List Atom)) (s19 : (List Action)) : Option (List Rule) :=
 (Z96 x3.Insts 2).bind fun x28 => (bif x28.2 then (Z9v b17 1 x28.1.Value x28.1.Mask).bind fun x30 => Zh8 x3 t2 R_r33_walk s1 x4 l15 s19 x30 else Zh8 x3 t2 R_r33_walk s1 x4 l15 s19 b17)
def Zhl (x3 : Flow) (b17 : Z9) (t2 : Int) (R_r33_walk : (Switch → Int → Z9 → Z9 → (List Atom) → (List Action) → Option (List Rule))) (s1 : Switch) (x4 : Z9) (l15 : (List Atom)) (s18 : (List Action)) : Option (List Rule) :=
 (Z96 x3.Insts 3).bind fun x31 => (bif x31.2 then (Zj0 s18 x31.1.Acts).bind fun x33 => Zgt x3 b17 t2 R_r33_walk s1 x4 l15 x33 else Zgt x3 b17 t2 R_r33_walk s1 x4 l15 s18)
def Zfj (x3 : Flow) (t2 : Int) (R_r33_walk : (Switch → Int → Z9 → Z9 → (List Atom) → (List Action) → Option (List Rule))) (s1 : Switch) (x4 : Z9) (s7 : (List Action)) (l15 : (List Atom)) (b17 : Z9) : Option (List Rule) :=
 (Z96 x3.Insts 5).bind fun x34 => (bif x34.2 then Zhl x3 b17 t2 R_r33_walk s1 x4 l15 [] else Zhl x3 b17 t2 R_r33_walk s1 x4 l15 s7)
def Zhs (R_r33_walk : (Switch → Int → Z9 → Z9 → (List Atom) → (List Action) → Option (List Rule))) (R_r33_one : (Switch → Int → Flow → Z9 → Z9 → (List Atom) → (List Action) → Option (List Rule))) (s1 : Switch) (t2 : Int) (x3 : Flow) (x4 : Z9) (x5 : Z9) (a6 : (List Atom)) (s7 : (List Action)) : Option (List Rule) :=
 (Z0u [] a6).bind fun l13 => (Z96 x3.Insts 4).bind fun x36 => (bif x36.2 then (Zcb x36.1.Acts x5).bind fun x38 => (Z0u l13 x38.1).bind fun l40 => Zfj x3 t2 R_r33_walk s1 x4 s7 l40 x38.2 else Zfj x3 t2 R_r33_walk s1 x4 s7 l13 x5)
theorem Y70 (R_r33_walk : (Switch → Int → Z9 → Z9 → (List Atom) → (List Action) → Option (List Rule))) (hR_r33_walk : ∀ (s1 : Switch) (t2 : Int) (x3 : Z9) (x4 : Z9) (a5 : (List Atom)) (s6 : (List Action)) (r : (List Rule)), R_r33_walk s1 t2 x3 x4 a5 s6 = some r → PCon Tryz.prog 78 [rd Z0i s1, rd (Z0 .i64) t2, rd (Z1 24 Z3) x3, rd (Z1 24 Z3) x4, rd (Z2 Z0b) a5, rd (Z2 Z8) s6] (rd (Z2 Z00) r)) (R_r33_one : (Switch → Int → Flow → Z9 → Z9 → (List Atom) → (List Action) → Option (List Rule))) (hR_r33_one : ∀ (s1 : Switch) (t2 : Int) (x3 : Flow) (x4 : Z9) (x5 : Z9) (a6 : (List Atom)) (s7 : (List Action)) (r : (List Rule)), R_r33_one s1 t2 x3 x4 x5 a6 s7 = some r → PCon Tryz.prog 143 [rd Z0i s1, rd (Z0 .i64) t2, rd Z0n x3, rd (Z1 24 Z3) x4, rd (Z1 24 Z3) x5, rd (Z2 Z0b) a6, rd (Z2 Z8) s7] (rd (Z2 Z00) r)) (s1 : Switch) (t2 : Int) (x3 : Flow) (x4 : Z9) (x5 : Z9) (a6 : (List Atom)) (s7 : (List Action)) (r : (List Rule)) (h : Zhs R_r33_walk R_r33_one s1 t2 x3 x4 x5 a6 s7 = some r) : PCon Tryz.prog 143 [rd Z0i s1, rd (Z0 .i64) t2, rd Z0n x3, rd (Z1 24 Z3) x4, rd (Z1 24 Z3) x5, rd (Z2 Z0b) a6, rd (Z2 Z8) s7] (rd (Z2 Z00) r) := by
 refine PCon.of (Con.intro0 Tryz.func143 rfl Tryz.ntmps143 rfl fun w H => ?_)
 unfold Zhs at h
 refine SR <| Cv rfl (Zl 8 rfl rfl (vt rfl)) fun g8 => Cv rfl (Zl 10 rfl rfl (vt rfl)) fun g9 => Cv rfl (Zl 11 rfl rfl (vt rfl)) fun g10 => Cv rfl (Zl 12 rfl rfl (vt rfl)) fun g11 => Ac (Zy (A := rd (Z2 Z00) []) rfl rfl Z1p) rfl <| Nl <| sq ?_
 obtain ⟨l13, hl13, h⟩ := Za h
 refine Rg <| Cv rfl (Z57 1001 (ps := []) (l := []) rfl rfl Z5r Z5f rfl rfl rfl rfl) fun v12 => Md rfl <| Cv rfl (Z2m 1001 hl13 rfl rfl Z8m (vt rfl) rfl (vt rfl)) fun v14 => Aw rfl <| Nl ?_
 refine JN (d := []) (ν := (List Atom) × Z9 × Value) (fun (l15, b17, v16) => (Zfj x3 t2 R_r33_walk s1 x4 s7 l15 b17 = some r, [(1, rd (Z0 .i64) t2), (5, Zi v16), (6, rd (Z2 Z8) s7), (7, Zb g8 (Lens.id Z0i)), (9, Zb g9 (Lens.id Z0n)), (10, Zb g10 (Lens.id (Z1 24 Z3))), (11, Zb g11 (Lens.id (Z1 24 Z3)))], [(8, Ze g8 26 Z0i s1), (10, Ze g9 61 Z0n x3), (11, Ze g10 87 (Z1 24 Z3) x4), (12, Ze g11 101 (Z1 24 Z3) b17), (1001, Zc v16 126 Z0b l15)])) ?hx1 ?hy1
 case hy1 =>
  rintro ⟨l15, b17, v16⟩ h
  dsimp only at h ⊢
  unfold Zfj at h
  refine JN (d := []) (ν := (List Action)) (fun s18 => (Zhl x3 b17 t2 R_r33_walk s1 x4 l15 s18 = some r, [(1, rd (Z0 .i64) t2), (5, Zi v16), (6, rd (Z2 Z8) s18), (7, Zb g8 (Lens.id Z0i)), (9, Zb g9 (Lens.id Z0n)), (10, Zb g10 (Lens.id (Z1 24 Z3))), (11, Zb g11 (Lens.id (Z1 24 Z3)))], [(8, Ze g8 26 Z0i s1), (10, Ze g9 61 Z0n x3), (11, Ze g10 87 (Z1 24 Z3) x4), (12, Ze g11 101 (Z1 24 Z3) b17), (1001, Zc v16 126 Z0b l15)])) ?hx2 ?hy2
  case hy2 =>
   intro s18 h
   dsimp only at h ⊢
   unfold Zhl at h
   refine JN (d := []) (ν := (List Action)) (fun s19 => (Zgt x3 b17 t2 R_r33_walk s1 x4 l15 s19 = some r, [(1, rd (Z0 .i64) t2), (5, Zi v16), (6, rd (Z2 Z8) s19), (7, Zb g8 (Lens.id Z0i)), (9, Zb g9 (Lens.id Z0n)), (10, Zb g10 (Lens.id (Z1 24 Z3))), (11, Zb g11 (Lens.id (Z1 24 Z3)))], [(8, Ze g8 26 Z0i s1), (10, Ze g9 61 Z0n x3), (11, Ze g10 87 (Z1 24 Z3) x4), (12, Ze g11 101 (Z1 24 Z3) b17), (1001, Zc v16 126 Z0b l15)])) ?hx3 ?hy3
   case hy3 =>
    intro s19 h
    dsimp only at h ⊢
    unfold Zgt at h
    refine JN (d := []) (ν := Z9) (fun b20 => (Zh8 x3 t2 R_r33_walk s1 x4 l15 s19 b20 = some r, [(1, rd (Z0 .i64) t2), (5, Zi v16), (6, rd (Z2 Z8) s19), (7, Zb g8 (Lens.id Z0i)), (9, Zb g9 (Lens.id Z0n)), (10, Zb g10 (Lens.id (Z1 24 Z3))), (11, Zb g11 (Lens.id (Z1 24 Z3)))], [(8, Ze g8 26 Z0i s1), (10, Ze g9 61 Z0n x3), (11, Ze g10 87 (Z1 24 Z3) x4), (12, Ze g11 101 (Z1 24 Z3) b20), (1001, Zc v16 126 Z0b l15)])) ?hx4 ?hy4
    case hy4 =>
     intro b20 h
     dsimp only at h ⊢
     unfold Zh8 at h
     refine sq ?_
     obtain ⟨x21, hx21, h⟩ := Za h
     refine Rg <| Zj Z9h Zbb rfl <| Ld Zbd 10 rfl <| Ac (Z0r (xs := [.tmp 83, .const (Value.int IntKind.i64 1)]) (Zkx _ _ _ hx21) Zkq rfl rfl ⟨vt rfl, vk rfl, trivial⟩) rfl <| Mt2 rfl <| Ac (Z1h rfl rfl (vt rfl)) rfl <| Ac (Z1f rfl rfl (vt rfl)) rfl <| Cv rfl (Zp 26 rfl rfl Z3t) fun g22 => Zh Z2k 26 rfl <| As rfl <| Nl <| sq <| SR <| Md rfl <| Md rfl <| Gd rfl (fun hq => Z3y Z7t rfl rfl Z8r (vt rfl)) <| Gd rfl (fun hq => Z29 rfl rfl Zt (Zo rfl hq) (i := 26) rfl) <| Gd rfl (fun hq => Zs (A := rd (Z0 .i64) t2) rfl rfl (vt rfl)) <| Gd rfl (fun hq => Z3i rfl rfl (Zo rfl hq) (Zo rfl hq)) <| Ac (Z1t rfl rfl (vt rfl) (vt rfl)) rfl <| Md rfl <| Gd rfl (fun hq => Z3y Z7t rfl rfl Z8r (vt rfl)) <| Gd rfl (fun hq => Z29 rfl rfl Zt (Zo rfl hq) (i := 26) rfl) <| Gd rfl (fun hq => Zn rfl rfl (Zo rfl hq) (vk rfl)) <| Ac (Z1t rfl rfl (vt rfl) (vt rfl)) rfl <| Nl <| Cq rfl h (fun h => ?_) (fun h => ?_)
     ·refine sq <| AW.freezes [5] 1001 rfl ⟨rfl, trivial⟩ rfl ?_
      obtain ⟨x23, hx23, h⟩ := Za h
      refine Rg <| Ld Z5t 8 rfl <| Zj Z7t Z8r rfl <| Ld Zt 26 rfl <| Ld Z01 11 rfl <| Ld Z02 12 rfl <| Md rfl <| Md rfl <| Cl [99, 101, 102, 103, 104, 105] (hR_r33_walk _ _ _ _ _ _ _ hx23) e78 rfl <| As rfl <| Nl <| rt ?_
      cases h; exact Zg Tryz.results143 rfl (Z4 rfl)
     ·refine sk <| sq ?_
      obtain ⟨x24, hx24, x25, hx25, h⟩ := bs2 h
      refine AR Zx (by kernel_rfl) <| Zq rfl <| SCl [108] (Y8z _ _ hx24) Ydr rfl <| Zk Z02 12 rfl <| SCl [109, 110] (Y0v _ _ _ hx25) Y50 rfl <| Sd (lo [111] [] rfl fun S hs hr => Zs (A := Z19 (rd (Z2 Z0b) x25.1) (rd (Z1 24 Z3) x25.2)) rfl rfl (vh hs 111 rfl rfl)) <| Sd (lo [107] [] rfl fun S hs hr => Z1h rfl rfl (vh hs 107 rfl rfl)) <| Sd (lo [107] [] rfl fun S hs hr => Z1f rfl rfl (vh hs 107 rfl rfl)) <| Sd (Z11 (us := [(28, Z2g 101 (Z1 24 Z3) (Vector.replicate 24 zTern))]) (ur := []) [] [] rfl fun S hs hr => Z6b rfl rfl rfl Z3f) <| SAs rfl <| Sd (Z11 (us := [(28, Z2g 101 (Z1 24 Z3) x25.2)]) (ur := []) [28, 113] [] rfl fun S hs hr => Z68 rfl rfl Z02 ((hs 28 rfl).trans rfl) (vh hs 113 rfl rfl)) <| Sn <| AW.unpackP 28 29 rfl rfl fun g26 => sq ?_
      obtain ⟨l27, hl27, h⟩ := Za h
      refine AR Zx (by kernel_rfl) <| Zk Z01 11 rfl <| SMw rfl <| Zq rfl <| Sd (Z11 (us := [(117, rd (Z2 Z0b) l27)]) (ur := [(1001, emp)]) [115, 116] [1001] rfl fun S hs hr => Yfx 1001 rfl hl27 rfl rfl rfl Z8m (vh hs 115 rfl rfl) ((hr 1001 rfl).trans rfl) (vh hs 116 rfl rfl)) <| Sd (lo [114, 117] [] rfl fun S hs hr => opb (⟨x4, l27⟩ : Rule) Z4n rfl Zj7 (pc Zmd (vh hs 114 rfl rfl) <| pc Zm5 (vh hs 117 rfl rfl) <| pn rfl)) <| Sd (lo [118] [] rfl fun S hs hr => osl Z30 Z4n rfl (vh hs 118 rfl rfl)) <| SAs rfl <| Sn <| rt ?_
      cases h; exact Zg Tryz.results143 rfl (Z4 rfl)
    case hx4 =>
     refine sq ?_
     obtain ⟨x28, hx28, h⟩ := Za h
     refine Rg <| Zj Z9h Zbb rfl <| Ld Zbd 10 rfl <| Ac (Z0r (xs := [.tmp 70, .const (Value.int IntKind.i64 2)]) (Zkx _ _ _ hx28) Zkq rfl rfl ⟨vt rfl, vk rfl, trivial⟩) rfl <| Mt2 rfl <| Ac (Z1h rfl rfl (vt rfl)) rfl <| Ac (Z1f rfl rfl (vt rfl)) rfl <| Cv rfl (Zp 24 rfl rfl Z3t) fun g29 => Zh Z2k 24 rfl <| As rfl <| Nl <| SR <| Md rfl <| Nl <| Cq rfl h (fun h => ?_) (fun h => ?_)
     ·obtain ⟨x30, hx30, h⟩ := Za h
      refine Rg <| Ld Z02 12 rfl <| Zj Zou Zu2 rfl <| Ld Zu 24 rfl <| Zj Zmm Zt5 rfl <| Ld Zu 24 rfl <| Ac (Z0r (xs := [.tmp 75, .const (Value.int IntKind.i64 1), .tmp 77, .tmp 79]) (Zjt _ _ _ _ _ hx30) Zlh rfl rfl ⟨vt rfl, vk rfl, vt rfl, vt rfl, trivial⟩) rfl <| Zh Z02 12 rfl <| Nl ?_
      exact ⟨_, h, FX rfl⟩
     ·refine sk ?_
      exact ⟨_, h, FX rfl⟩
   case hx3 =>
    refine sq ?_
    obtain ⟨x31, hx31, h⟩ := Za h
    refine Rg <| Zj Z9h Zbb rfl <| Ld Zbd 10 rfl <| Ac (Z0r (xs := [.tmp 59, .const (Value.int IntKind.i64 3)]) (Zkx _ _ _ hx31) Zkq rfl rfl ⟨vt rfl, vk rfl, trivial⟩) rfl <| Mt2 rfl <| Ac (Z1h rfl rfl (vt rfl)) rfl <| Ac (Z1f rfl rfl (vt rfl)) rfl <| Cv rfl (Zp 22 rfl rfl Z3t) fun g32 => Zh Z2k 22 rfl <| As rfl <| Nl <| SR <| Md rfl <| Nl <| Cq rfl h (fun h => ?_) (fun h => ?_)
    ·obtain ⟨x33, hx33, h⟩ := Za h
     refine Rg <| Md rfl <| Zj Z81 Z90 rfl <| Ld Z3q 22 rfl <| Cl [64, 66] (Ybc _ _ _ hx33) Yhw rfl <| As rfl <| Nl ?_
     exact ⟨_, h, FX rfl⟩
    ·refine sk ?_
     exact ⟨_, h, FX rfl⟩
  case hx2 =>
   refine sq ?_
   obtain ⟨x34, hx34, h⟩ := Za h
   refine Rg <| Zj Z9h Zbb rfl <| Ld Zbd 10 rfl <| Ac (Z0r (xs := [.tmp 52, .const (Value.int IntKind.i64 5)]) (Zkx _ _ _ hx34) Zkq rfl rfl ⟨vt rfl, vk rfl, trivial⟩) rfl <| Mt2 rfl <| Ac (Z1h rfl rfl (vt rfl)) rfl <| Ac (Z1f rfl rfl (vt rfl)) rfl <| Cv rfl (Zp 20 rfl rfl Z3t) fun g35 => Zh Z2k 20 rfl <| As rfl <| Nl <| SR <| Md rfl <| Nl <| Cq rfl h (fun h => ?_) (fun h => ?_)
   ·refine Rg <| Ac (Zy (A := rd (Z2 Z8) []) rfl rfl Z1p) rfl <| Nl ?_
    exact ⟨_, h, FX rfl⟩
   ·refine sk ?_
    exact ⟨_, h, FX rfl⟩
 case hx1 =>
  refine sq ?_
  obtain ⟨x36, hx36, h⟩ := Za h
  refine Rg <| Zj Z9h Zbb rfl <| Ld Zbd 10 rfl <| Ac (Z0r (xs := [.tmp 34, .const (Value.int IntKind.i64 4)]) (Zkx _ _ _ hx36) Zkq rfl rfl ⟨vt rfl, vk rfl, trivial⟩) rfl <| Mt2 rfl <| Ac (Z1h rfl rfl (vt rfl)) rfl <| Ac (Z1f rfl rfl (vt rfl)) rfl <| Cv rfl (Zp 16 rfl rfl Z3t) fun g37 => Zh Z2k 16 rfl <| As rfl <| Nl <| SR <| Md rfl <| Nl <| Cq rfl h (fun h => ?_) (fun h => ?_)
  ·refine sq ?_
   obtain ⟨x38, hx38, h⟩ := Za h
   refine Rg <| Zj Z81 Z90 rfl <| Ld Z3q 16 rfl <| Ld Z02 12 rfl <| Cl [41, 42] (Y0v _ _ _ hx38) Y50 rfl <| Mt2 rfl <| Ac (Z1h rfl rfl (vt rfl)) rfl <| Ac (Z1f rfl rfl (vt rfl)) rfl <| Cv rfl (Zp 19 rfl rfl Z3f) fun g39 => As rfl <| Zh Z02 19 rfl <| Nl ?_
   obtain ⟨l40, hl40, h⟩ := Za h
   refine AW.endT <| AR Zx (by kernel_rfl) <| SMw rfl <| Zq rfl <| Sd (Z11 (us := [(48, Z1v 126 Z0b l40)]) (ur := [(1001, emp)]) [46, 47] [1001] rfl fun S hs hr => Z78 1001 hl40 rfl rfl rfl Z8m (vh hs 46 rfl rfl) ((hr 1001 rfl).trans rfl) (vh hs 47 rfl rfl)) <| Zk Z02 19 rfl <| Sd (Z11 (us := [(48, top), (5, Z1v 126 Z0b l40)]) (ur := []) [48] [1002] rfl fun S hs hr => Ziu 1002 rfl rfl rfl rfl ((hs 48 rfl).trans rfl) ((hr 1002 rfl).trans rfl)) <| SSt Z02 12 rfl <| Sn <| EndT.unpackR 5 1001 rfl rfl fun v41 => EndT.done ?_
   exact ⟨(_, _, _), h, FX rfl⟩
  ·refine sk ?_
   exact ⟨(_, _, _), h, FX rfl⟩
def Z4c : Nat → (Switch → Int → Z9 → Z9 → (List Atom) → (List Action) → Option (List Rule)) × (Switch → Int → Flow → Z9 → Z9 → (List Atom) → (List Action) → Option (List Rule))
 | 0 => ((fun _ _ _ _ _ _ => none), (fun _ _ _ _ _ _ _ => none))
 | n + 1 => ((Zkb (Z4c n).1 (Z4c n).2), (Zhs (Z4c n).1 (Z4c n).2))
theorem Y4z : ∀ n : Nat, (∀ (s1 : Switch) (t2 : Int) (x3 : Z9) (x4 : Z9) (a5 : (List Atom)) (s6 : (List Action)) (r : (List Rule)), (Z4c n).1 s1 t2 x3 x4 a5 s6 = some r → PCon Tryz.prog 78 [rd Z0i s1, rd (Z0 .i64) t2, rd (Z1 24 Z3) x3, rd (Z1 24 Z3) x4, rd (Z2 Z0b) a5, rd (Z2 Z8) s6] (rd (Z2 Z00) r)) ∧ (∀ (s1 : Switch) (t2 : Int) (x3 : Flow) (x4 : Z9) (x5 : Z9) (a6 : (List Atom)) (s7 : (List Action)) (r : (List Rule)), (Z4c n).2 s1 t2 x3 x4 x5 a6 s7 = some r → PCon Tryz.prog 143 [rd Z0i s1, rd (Z0 .i64) t2, rd Z0n x3, rd (Z1 24 Z3) x4, rd (Z1 24 Z3) x5, rd (Z2 Z0b) a6, rd (Z2 Z8) s7] (rd (Z2 Z00) r))
 | 0 => ⟨(by intros; rename_i h; cases h), (by intros; rename_i h; cases h)⟩
 | n + 1 => by
  have ih := Y4z n
  exact ⟨(Y8u (Z4c n).1 ih.1 (Z4c n).2 ih.2), (Y70 (Z4c n).1 ih.1 (Z4c n).2 ih.2)⟩
def Zqj (s1 : Switch) (t2 : Int) (x3 : Z9) (x4 : Z9) (a5 : (List Atom)) (s6 : (List Action)) : Option (List Rule) := (Z4c Z0l).1 s1 t2 x3 x4 a5 s6
theorem Yh2 : ∀ (s1 : Switch) (t2 : Int) (x3 : Z9) (x4 : Z9) (a5 : (List Atom)) (s6 : (List Action)) (r : (List Rule)), Zqj s1 t2 x3 x4 a5 s6 = some r → PCon Tryz.prog 78 [rd Z0i s1, rd (Z0 .i64) t2, rd (Z1 24 Z3) x3, rd (Z1 24 Z3) x4, rd (Z2 Z0b) a5, rd (Z2 Z8) s6] (rd (Z2 Z00) r) := (Y4z Z0l).1
def Zgp (s1 : Switch) : Option (List Rule) :=
 (Zmn).bind fun x3 => (Z8p).bind fun x4 => (Zqj s1 0 x3 x4 [] []).bind fun x5 => some x5
theorem Yam : Q1 Tryz.prog 23 (rd Z0i) (rd (Z2 Z00)) Zgp := fun s1 r h => I0 Tryz.func23 rfl Tryz.ntmps23 rfl fun w H => by
 unfold Zgp at h
 refine SR <| Cv rfl (Zl 2 rfl rfl (vt rfl)) fun g2 => Ac (Zy (A := rd (Z2 Z00) []) rfl rfl Z1p) rfl <| Nl <| sq ?_
 obtain ⟨x3, hx3, x4, hx4, x5, hx5, h⟩ := bs3 h
 refine AR Zx (by kernel_rfl) <| Zk Z5t 2 rfl <| SCl [] (Y5i _ hx3) e79 rfl <| SCl [] (Zl4 _ hx4) e80 rfl <| Sd (lo [3, 4, 5] [] rfl fun S hs hr => Z0r (xs := [.tmp 3, .const (Value.int IntKind.i64 0), .tmp 4, .tmp 5, .const (Value.slice none 0 0), .const (Value.slice none 0 0)]) (Yh2 _ _ _ _ _ _ _ hx5) e78 rfl rfl ⟨vt ((hs 3 rfl).trans rfl), vk rfl, vt ((hs 4 rfl).trans rfl), vt ((hs 5 rfl).trans rfl), Z1p, Z1p, trivial⟩) <| SAs rfl <| Sn <| rt ?_
 cases h; exact Zg Tryz.results23 rfl (Z4 rfl)
def Zge (l1 : (List Rule)) : Nat → (List Z9) → Int → Option (List Z9)
 | 0, _, _ => none
 | m9 + 1, l6, i8 => (bif (decide (i8 < (l1.length : Int))) then (lget l1 i8).bind fun x10 => (Z0u l6 [x10.Cube]).bind fun l11 => (Zge l1 m9) l11 (IntKind.i64.wrap (i8 + 1)) else some l6)
def Zfu (l1 : (List Rule)) : Option (List Z9) :=
 Zge l1 ((((l1.length : Int) : Int) - 0).toNat + 1) [] 0
theorem Yf9 (l1 : (List Rule)) (r : (List Z9)) (h : Zfu l1 = some r) : Con Tryz.prog 172 [rd (Z2 Z00) l1] emp (fun v => Zi v) (fun v => Zc v 87 (Z1 24 Z3) r) := by
 refine Con.intro0 Tryz.func172 rfl Tryz.ntmps172 rfl fun w H => ?_
 unfold Zfu at h
 refine sq <| AW.newnil 1001 87 (Z1 24 Z3) <| Rg <| Ac (Zy rfl rfl vc) rfl <| Nl <| SR <| Cv rfl (Z57 1002 (ps := []) (l := []) rfl rfl Z4e Z13 rfl rfl rfl rfl) fun v2 => Aw rfl <| Nl <| sq <| SR <| Ak rfl <| Nl <| bk <| LG (d := []) (ν := Nat × (List Z9) × Int × Value) (fun (m9, l6, i8, v7) => (True ∧ Zge l1 m9 l6 i8 = some r, m9, [(0, rd (Z2 Z00) l1), (3, Zi v7), (4, rd (Z0 .i64) i8)], [(1002, Zc v7 87 (Z1 24 Z3) l6)])) (((((l1.length : Int) : Int) - 0).toNat + 1), [], 0, v2) ⟨trivial, h⟩ (FX rfl) ?_
 rintro ⟨m9, l6, i8, v7⟩ ⟨hsf1, h⟩
 dsimp only at h ⊢
 cases m9 with
 | zero => cases h
 | succ m9 =>
  unfold Zge at h
  refine sq <| SR <| Md rfl <| Md rfl <| Ac (Z0x rfl rfl Z30 (vt rfl)) rfl <| Ac (Zn rfl rfl (vt rfl) (vt rfl)) rfl <| Nl <| Cq rfl h (fun h => ?_) (fun h => ?_)
  ·refine sk <| sq <| bk ?_
   obtain ⟨x10, hx10, l11, hl11, h⟩ := bs2 h
   refine Rg <| Mw rfl <| Md rfl <| Md rfl <| Ac (Z0q rfl rfl Z30 (vt rfl) (vt rfl) hx10) rfl <| Fp lRule_0 Zfh rfl <| Lp1 Z01 rfl <| Ac (osl Z4e Z13 rfl (vt rfl)) rfl <| Cv rfl (Z2m 1002 hl11 rfl rfl Zp3 (vt rfl) rfl (vt rfl)) fun v12 => Aw rfl <| Nl <| Rg <| Md rfl <| Ac (Z06 rfl rfl (vt rfl) (vk rfl)) rfl <| As rfl <| Nl ?_
   exact ⟨(_, _, _, _), Nat.lt_succ_self _, ⟨trivial, h⟩, FX rfl⟩
  ·refine xt <| SR <| Mw rfl <| Aw rfl <| Nl <| rt ?_
   cases h; exact Z53 (i := 1002) Tryz.results172 rfl rfl rfl
theorem Yfp (l1 : (List Rule)) (r : (List Z9)) (h : Zfu l1 = some r) : PCon Tryz.prog 172 [rd (Z2 Z00) l1] (rd (Z2 (Z1 24 Z3)) r) := PCon.of_row (Yf9 l1 r h)
end Go.Proofs.YtknpgojdkobgjaaGreat.W
set_option maxRecDepth 4000
namespace Go.Proofs.YtknpgojdkobgjaaGreat.W
open Go Go.Wb
theorem Yi0 : Ent Tryz.prog 323 := Ent.mk Tryz.func323 rfl rfl
theorem Y5l : Ent Tryz.prog 295 := Ent.mk Tryz.func295 rfl rfl
theorem Yb5 : Ent Tryz.prog 249 := Ent.mk Tryz.func249 rfl rfl
theorem Ycs : Ent Tryz.prog 250 := Ent.mk Tryz.func250 rfl rfl
theorem Yef : Ent Tryz.prog 172 := Ent.mk Tryz.func172 rfl rfl
theorem Y8g : Ent Tryz.prog 186 := Ent.mk Tryz.func186 rfl rfl
theorem Yjm : Ent Tryz.prog 118 := Ent.mk Tryz.func118 rfl rfl
theorem e59 : Ent Tryz.prog 59 := Ent.mk Tryz.func59 rfl rfl
def Zdg (l2 : (List Z9)) (x1 : Z9) : Nat → (List Z9) → Int → Option (List Z9)
 | 0, _, _ => none
 | m11 + 1, l8, i10 => (bif (decide (i10 < (l2.length : Int))) then (lget l2 i10).bind fun x12 => (Zeq x1 x12).bind fun x13 => (bif x13.2 then (lget l2 i10).bind fun x15 => (Z0u l8 [x15]).bind fun l16 => (Zdg l2 x1 m11) l16 (IntKind.i64.wrap (i10 + 1)) else (Zdg l2 x1 m11) l8 (IntKind.i64.wrap (i10 + 1))) else some l8)
def Zp6 (x1 : Z9) (l2 : (List Z9)) : Option (List Z9) :=
 Zdg l2 x1 ((((l2.length : Int) : Int) - 0).toNat + 1) [] 0
theorem Yfh : Q2 Tryz.prog 249 (rd (Z1 24 Z3)) (rd (Z2 (Z1 24 Z3))) (rd (Z2 (Z1 24 Z3))) Zp6 := fun x1 l2 r h => I0 Tryz.func249 rfl Tryz.ntmps249 rfl fun w H => by
 unfold Zp6 at h
 refine SR <| Cv rfl (Zl 3 rfl rfl (vt rfl)) fun g3 => Ac (Zy (A := rd (Z2 (Z1 24 Z3)) []) rfl rfl Z1p) rfl <| Nl <| SR <| Cv rfl (Z57 1001 (ps := []) (l := []) rfl rfl Z4e Z13 rfl rfl rfl rfl) fun v4 => Aw rfl <| Nl <| sq <| SR <| Ak rfl <| Nl <| bk <| LG (d := []) (ν := Nat × (List Z9) × Int × Value) (fun (m11, l8, i10, v9) => (True ∧ Zdg l2 x1 m11 l8 i10 = some r, m11, [(1, rd (Z2 (Z1 24 Z3)) l2), (2, Zb g3 (Lens.id (Z1 24 Z3))), (5, Zi v9), (6, rd (Z0 .i64) i10)], [(3, Ze g3 87 (Z1 24 Z3) x1), (1001, Zc v9 87 (Z1 24 Z3) l8)])) (((((l2.length : Int) : Int) - 0).toNat + 1), [], 0, v4) ⟨trivial, h⟩ (FX rfl) ?_
 rintro ⟨m11, l8, i10, v9⟩ ⟨hsf1, h⟩
 dsimp only at h ⊢
 cases m11 with
 | zero => cases h
 | succ m11 =>
  unfold Zdg at h
  refine sq <| SR <| Md rfl <| Md rfl <| Ac (Z0x rfl rfl Z4e (vt rfl)) rfl <| Ac (Zn rfl rfl (vt rfl) (vt rfl)) rfl <| Nl <| Cq rfl h (fun h => ?_) (fun h => ?_)
  ·refine sk <| sq <| bk <| sq ?_
   obtain ⟨x12, hx12, x13, hx13, h⟩ := bs2 h
   refine AR Zx (by kernel_rfl) <| Zk Z01 3 rfl <| Zq rfl <| Zq rfl <| Sd (lo [18, 19] [] rfl fun S hs hr => Z0q rfl rfl Z4e (vh hs 18 rfl rfl) (vh hs 19 rfl rfl) hx12) <| SLp Z01 rfl <| SCl [17, 21] (Y0p _ _ _ hx13) Y0w rfl <| Sd (lo [22] [] rfl fun S hs hr => Zs (A := Z19 (rd (Z1 24 Z3) x13.1) (rd Z7 x13.2)) rfl rfl (vh hs 22 rfl rfl)) <| Sd (lo [16] [] rfl fun S hs hr => Z1h rfl rfl (vh hs 16 rfl rfl)) <| Sd (lo [16] [] rfl fun S hs hr => Z1f rfl rfl (vh hs 16 rfl rfl)) <| Sd (Z11 (us := [(7, Z2g 87 (Z1 24 Z3) (Vector.replicate 24 zTern))]) (ur := []) [] [] rfl fun S hs hr => Z6b rfl rfl rfl Z13) <| Sd (Z11 (us := [(7, Z2g 87 (Z1 24 Z3) x13.1)]) (ur := []) [7, 23] [] rfl fun S hs hr => Z68 rfl rfl Z01 ((hs 7 rfl).trans rfl) (vh hs 23 rfl rfl)) <| SAs rfl <| Sn <| AW.unpackP 7 8 rfl rfl fun g14 => SR <| Md rfl <| Nl <| Cq rfl h (fun h => ?_) (fun h => ?_)
   ·obtain ⟨x15, hx15, l16, hl16, h⟩ := bs2 h
    refine Rg <| Mw rfl <| Md rfl <| Md rfl <| Ac (Z0q rfl rfl Z4e (vt rfl) (vt rfl) hx15) rfl <| Lp1 Z01 rfl <| Ac (osl Z4e Z13 rfl (vt rfl)) rfl <| Cv rfl (Z2m 1001 hl16 rfl rfl Zp3 (vt rfl) rfl (vt rfl)) fun v17 => Aw rfl <| Nl <| Rg <| Md rfl <| Ac (Z06 rfl rfl (vt rfl) (vk rfl)) rfl <| As rfl <| Nl ?_
    exact ⟨(_, _, _, _), Nat.lt_succ_self _, ⟨trivial, h⟩, FX rfl⟩
   ·refine sk <| Rg <| Md rfl <| Ac (Z06 rfl rfl (vt rfl) (vk rfl)) rfl <| As rfl <| Nl ?_
    exact ⟨(_, _, _, _), Nat.lt_succ_self _, ⟨trivial, h⟩, FX rfl⟩
  ·refine xt <| SR <| Mw rfl <| Aw rfl <| Nl <| AW.freezes [4, 5, 33] 1001 rfl ⟨rfl, rfl, rfl, trivial⟩ rfl <| rt ?_
   cases h; exact Zg Tryz.results249 rfl (Z4 rfl)
def Zls (a1 : Wide) (i2 : Int) : Option Bool :=
 (Z9p i2).bind fun x4 => (Zcf a1 x4).bind fun x5 => (Zen x5).bind fun x6 => some (!x6)
theorem Yiw : Q2 Tryz.prog 323 (rd Zd) (rd (Z0 .i64)) (rd Z7) Zls := fun a1 i2 r h => I0 Tryz.func323 rfl Tryz.ntmps323 rfl fun w H => by
 unfold Zls at h
 refine SR <| Cv rfl (Zl 3 rfl rfl (vt rfl)) fun g3 => Ab rfl <| Nl <| sq ?_
 obtain ⟨x4, hx4, x5, hx5, x6, hx6, h⟩ := bs3 h
 refine AR Zx (by kernel_rfl) <| Zk Zu 3 rfl <| Zq rfl <| SCl [6] (Zo2 _ _ hx4) Znz rfl <| SCl [5, 7] (Zny _ _ _ hx5) Zpn rfl <| SCl [8] (Zxr _ _ hx6) Zv7 rfl <| Sd (lo [9] [] rfl fun S hs hr => Z15 rfl rfl (vh hs 9 rfl rfl)) <| SAs rfl <| Sn <| rt ?_
 cases h; exact Zg Tryz.results323 rfl (Z4 rfl)
def Zce (a1 : Wide) : Nat → Int → Int → Option Int
 | 0, _, _ => none
 | m7 + 1, n5, i6 => (bif (decide (i6 < 128)) then (Zls a1 i6).bind fun x8 => (bif x8 then (Zce a1 m7) (IntKind.i64.wrap (n5 + 1)) (IntKind.i64.wrap (i6 + 1)) else (Zce a1 m7) n5 (IntKind.i64.wrap (i6 + 1))) else some n5)
def Zj5 (a1 : Wide) : Option Int :=
 Zce a1 (((128 : Int) - 0).toNat + 1) 0 0
theorem Y79 : Q1 Tryz.prog 295 (rd Zd) (rd (Z0 .i64)) Zj5 := fun a1 r h => I0 Tryz.func295 rfl Tryz.ntmps295 rfl fun w H => by
 unfold Zj5 at h
 refine SR <| Cv rfl (Zl 2 rfl rfl (vt rfl)) fun g2 => Ak rfl <| Nl <| SR <| Ak rfl <| Nl <| sq <| SR <| Ak rfl <| Nl <| bk <| LG (d := []) (ν := Nat × Int × Int) (fun (m7, n5, i6) => (True ∧ Zce a1 m7 n5 i6 = some r, m7, [(1, Zb g2 (Lens.id Zd)), (3, rd (Z0 .i64) n5), (4, rd (Z0 .i64) i6)], [(2, Ze g2 42 Zd a1)])) ((((128 : Int) - 0).toNat + 1), 0, 0) ⟨trivial, h⟩ (FX rfl) ?_
 rintro ⟨m7, n5, i6⟩ ⟨hsf1, h⟩
 dsimp only at h ⊢
 cases m7 with
 | zero => cases h
 | succ m7 =>
  unfold Zce at h
  refine sq <| SR <| Md rfl <| Ac (Zn rfl rfl (vt rfl) (vk rfl)) rfl <| Nl <| Cq rfl h (fun h => ?_) (fun h => ?_)
  ·refine sk <| sq <| bk <| sq ?_
   obtain ⟨x8, hx8, h⟩ := Za h
   refine Rg <| Ld Zu 2 rfl <| Md rfl <| Cl [9, 10] (Yiw _ _ _ hx8) Yi0 rfl <| Nl <| Cq rfl h (fun h => ?_) (fun h => ?_)
   ·refine Rg <| Md rfl <| Ac (Z06 rfl rfl (vt rfl) (vk rfl)) rfl <| As rfl <| Nl <| Rg <| Md rfl <| Ac (Z06 rfl rfl (vt rfl) (vk rfl)) rfl <| As rfl <| Nl ?_
    exact ⟨(_, _, _), Nat.lt_succ_self _, ⟨trivial, h⟩, FX rfl⟩
   ·refine sk <| Rg <| Md rfl <| Ac (Z06 rfl rfl (vt rfl) (vk rfl)) rfl <| As rfl <| Nl ?_
    exact ⟨(_, _, _), Nat.lt_succ_self _, ⟨trivial, h⟩, FX rfl⟩
  ·refine xt <| SR <| Md rfl <| As rfl <| Nl <| rt ?_
   cases h; exact Zg Tryz.results295 rfl (Z4 rfl)
def Zgb (x1 : Z9) : Nat → Int → Int → Option Int
 | 0, _, _ => none
 | m7 + 1, n5, x6 => (bif (decide (x6 < 24)) then (chk 24 x6).bind fun j8 => (Zj5 ((Vector.get x1 j8).Mask)).bind fun x9 => (Zgb x1 m7) (IntKind.i64.wrap (n5 + x9)) (IntKind.i64.wrap (x6 + 1)) else some n5)
def Zis (x1 : Z9) : Option Int :=
 Zgb x1 (((24 : Int) - 0).toNat + 1) 0 0
theorem Ykl : Q1 Tryz.prog 250 (rd (Z1 24 Z3)) (rd (Z0 .i64)) Zis := fun x1 r h => I0 Tryz.func250 rfl Tryz.ntmps250 rfl fun w H => by
 unfold Zis at h
 refine SR <| Cv rfl (Zl 2 rfl rfl (vt rfl)) fun g2 => Ak rfl <| Nl <| SR <| Ak rfl <| Nl <| sq <| SR <| Ak rfl <| Nl <| bk <| LG (d := []) (ν := Nat × Int × Int) (fun (m7, n5, x6) => (True ∧ Zgb x1 m7 n5 x6 = some r, m7, [(1, Zb g2 (Lens.id (Z1 24 Z3))), (3, rd (Z0 .i64) n5), (4, rd (Z0 .i64) x6)], [(2, Ze g2 87 (Z1 24 Z3) x1)])) ((((24 : Int) - 0).toNat + 1), 0, 0) ⟨trivial, h⟩ (FX rfl) ?_
 rintro ⟨m7, n5, x6⟩ ⟨hsf1, h⟩
 dsimp only at h ⊢
 cases m7 with
 | zero => cases h
 | succ m7 =>
  unfold Zgb at h
  refine sq <| SR <| Md rfl <| Ac (Zn rfl rfl (vt rfl) (vk rfl)) rfl <| Nl <| Cq rfl h (fun h => ?_) (fun h => ?_)
  ·refine sk <| sq <| bk ?_
   obtain ⟨j8, hj8, x9, hx9, h⟩ := bs2 h
   refine Rg <| Md rfl <| Md rfl <| Ac (Z14 rfl rfl Z2h (vt rfl) (vt rfl) hj8) rfl <| Zj lTern_1 Z27 rfl <| Ld Zu 2 rfl <| Cl [13] (Y79 _ _ hx9) Y5l rfl <| Ac (Z06 rfl rfl (vt rfl) (vt rfl)) rfl <| As rfl <| Nl <| Rg <| Md rfl <| Ac (Z06 rfl rfl (vt rfl) (vk rfl)) rfl <| As rfl <| Nl ?_
   exact ⟨(_, _, _), Nat.lt_succ_self _, ⟨trivial, h⟩, FX rfl⟩
  ·refine xt <| SR <| Md rfl <| As rfl <| Nl <| rt ?_
   cases h; exact Zg Tryz.results250 rfl (Z4 rfl)
def Zhk (x4 : (List Z9)) : Nat → Int → Int → Option Int
 | 0, _, _ => none
 | m9 + 1, n7, i8 => (bif (decide (i8 < (x4.length : Int))) then (lget x4 i8).bind fun x10 => (Zis x10).bind fun x11 => (Zhk x4 m9) (Z5a (IntKind.i64.wrap (n7 * (Z22 x11 1))) 1099511627776) (IntKind.i64.wrap (i8 + 1)) else some n7)
def Zkt (x1 : Z9) (l2 : (List Z9)) : Option Int :=
 (Zp6 x1 l2).bind fun x4 => Zhk x4 ((((x4.length : Int) : Int) - 0).toNat + 1) (Z5a (IntKind.i64.wrap ((x4.length : Int) + 1)) 1099511627776) 0
theorem Yjz : Q2 Tryz.prog 186 (rd (Z1 24 Z3)) (rd (Z2 (Z1 24 Z3))) (rd (Z0 .i64)) Zkt := fun x1 l2 r h => I0 Tryz.func186 rfl Tryz.ntmps186 rfl fun w H => by
 unfold Zkt at h
 refine SR <| Cv rfl (Zl 3 rfl rfl (vt rfl)) fun g3 => Ak rfl <| Nl <| sq ?_
 obtain ⟨x4, hx4, h⟩ := Za h
 refine Rg <| Ld Z01 3 rfl <| Md rfl <| Cl [8, 9] (Yfh _ _ _ hx4) Yb5 rfl <| As rfl <| Nl <| SR <| Md rfl <| Ac (Z0x rfl rfl Z4e (vt rfl)) rfl <| Ac (Z06 rfl rfl (vt rfl) (vk rfl)) rfl <| Ac (Zq1 rfl rfl (vt rfl) (vk rfl)) rfl <| As rfl <| Nl <| sq <| SR <| Ak rfl <| Nl <| bk <| LG (d := []) (ν := Nat × Int × Int) (fun (m9, n7, i8) => (True ∧ Zhk x4 m9 n7 i8 = some r, m9, [(5, rd (Z2 (Z1 24 Z3)) x4), (6, rd (Z0 .i64) n7), (7, rd (Z0 .i64) i8)], [])) (((((x4.length : Int) : Int) - 0).toNat + 1), (Z5a (IntKind.i64.wrap ((x4.length : Int) + 1)) 1099511627776), 0) ⟨trivial, h⟩ (FX rfl) ?_
 rintro ⟨m9, n7, i8⟩ ⟨hsf1, h⟩
 dsimp only at h ⊢
 cases m9 with
 | zero => cases h
 | succ m9 =>
  unfold Zhk at h
  refine sq <| SR <| Md rfl <| Md rfl <| Ac (Z0x rfl rfl Z4e (vt rfl)) rfl <| Ac (Zn rfl rfl (vt rfl) (vt rfl)) rfl <| Nl <| Cq rfl h (fun h => ?_) (fun h => ?_)
  ·refine sk <| sq <| bk ?_
   obtain ⟨x10, hx10, x11, hx11, h⟩ := bs2 h
   refine Rg <| Md rfl <| Md rfl <| Md rfl <| Ac (Z0q rfl rfl Z4e (vt rfl) (vt rfl) hx10) rfl <| Lp1 Z01 rfl <| Cl [25] (Ykl _ _ hx11) Ycs rfl <| Ac (Zgm rfl rfl (vt rfl) (vk rfl)) rfl <| Ac (Z9z rfl rfl (vt rfl) (vt rfl)) rfl <| Ac (Zq1 rfl rfl (vt rfl) (vk rfl)) rfl <| As rfl <| Nl <| Rg <| Md rfl <| Ac (Z06 rfl rfl (vt rfl) (vk rfl)) rfl <| As rfl <| Nl ?_
   exact ⟨(_, _, _), Nat.lt_succ_self _, ⟨trivial, h⟩, FX rfl⟩
  ·refine xt <| SR <| Md rfl <| As rfl <| Nl <| rt ?_
   cases h; exact Zg Tryz.results186 rfl (Z4 rfl)
def Zev (l1 : (List Rule)) : Nat → Int → Int → Option Int
 | 0, _, _ => none
 | m6 + 1, n4, i5 => (bif (decide (i5 < (l1.length : Int))) then (lget l1 i5).bind fun x7 => (Z4y l1 i5).bind fun s8 => (Zfu s8).bind fun x9 => (Zkt x7.Cube x9).bind fun x10 => (Zev l1 m6) (Z22 n4 x10) (IntKind.i64.wrap (i5 + 1)) else some n4)
def Zju (l1 : (List Rule)) : Option Int :=
 Zev l1 ((((l1.length : Int) : Int) - 0).toNat + 1) 0 0
theorem Yke : Q1 Tryz.prog 118 (rd (Z2 Z00)) (rd (Z0 .i64)) Zju := fun l1 r h => I0 Tryz.func118 rfl Tryz.ntmps118 rfl fun w H => by
 unfold Zju at h
 refine SR <| Ak rfl <| Nl <| SR <| Ak rfl <| Nl <| sq <| SR <| Ak rfl <| Nl <| bk <| LG (d := []) (ν := Nat × Int × Int) (fun (m6, n4, i5) => (True ∧ Zev l1 m6 n4 i5 = some r, m6, [(0, rd (Z2 Z00) l1), (3, rd (Z0 .i64) n4), (4, rd (Z0 .i64) i5)], [])) (((((l1.length : Int) : Int) - 0).toNat + 1), 0, 0) ⟨trivial, h⟩ (FX rfl) ?_
 rintro ⟨m6, n4, i5⟩ ⟨hsf1, h⟩
 dsimp only at h ⊢
 cases m6 with
 | zero => cases h
 | succ m6 =>
  unfold Zev at h
  refine sq <| SR <| Md rfl <| Md rfl <| Ac (Z0x rfl rfl Z30 (vt rfl)) rfl <| Ac (Zn rfl rfl (vt rfl) (vt rfl)) rfl <| Nl <| Cq rfl h (fun h => ?_) (fun h => ?_)
  ·refine sk <| sq <| bk ?_
   obtain ⟨x7, hx7, s8, hs8, x9, hx9, x10, hx10, h⟩ := bs4 h
   refine AR Zx (by kernel_rfl) <| Zq rfl <| Zq rfl <| Zq rfl <| Sd (lo [12, 13] [] rfl fun S hs hr => Z0q rfl rfl Z30 (vh hs 12 rfl rfl) (vh hs 13 rfl rfl) hx7) <| SFp lRule_0 Zfh rfl <| SLp Z01 rfl <| Zq rfl <| Zq rfl <| Sd (lo [17, 18] [] rfl fun S hs hr => Yg3 hs8 rfl rfl Z30 (vh hs 17 rfl rfl) (vh hs 18 rfl rfl)) <| SCl [19] (Yfp _ _ hx9) Yef rfl <| SCl [16, 20] (Yjz _ _ _ hx10) Y8g rfl <| Sd (lo [11, 21] [] rfl fun S hs hr => Zgm rfl rfl (vh hs 11 rfl rfl) (vh hs 21 rfl rfl)) <| SAs rfl <| Sn <| Rg <| Md rfl <| Ac (Z06 rfl rfl (vt rfl) (vk rfl)) rfl <| As rfl <| Nl ?_
   exact ⟨(_, _, _), Nat.lt_succ_self _, ⟨trivial, h⟩, FX rfl⟩
  ·refine xt <| SR <| Md rfl <| As rfl <| Nl <| rt ?_
   cases h; exact Zg Tryz.results118 rfl (Z4 rfl)
def Zfb (s1 : Switch) : Option Int :=
 (Zgp s1).bind fun x3 => (Zju x3).bind fun x4 => some x4
theorem Ye8 : Q1 Tryz.prog 59 (rd Z0i) (rd (Z0 .i64)) Zfb := fun s1 r h => I0 Tryz.func59 rfl Tryz.ntmps59 rfl fun w H => by
 unfold Zfb at h
 refine SR <| Cv rfl (Zl 2 rfl rfl (vt rfl)) fun g2 => Ak rfl <| Nl <| sq ?_
 obtain ⟨x3, hx3, x4, hx4, h⟩ := bs2 h
 refine Rg <| Ld Z5t 2 rfl <| Cl [3] (Yam _ _ hx3) e23 rfl <| Cl [4] (Yke _ _ hx4) Yjm rfl <| As rfl <| Nl <| rt ?_
 cases h; exact Zg Tryz.results59 rfl (Z4 rfl)
def Zky (p1 : cover_purse) : Option (Bool × cover_purse) :=
 (bif p1.free then some (true, p1) else some ((decide (({ p1 with left := (IntKind.i64.wrap (p1.left - 1)) }.left) ≥ 0)), { p1 with left := (IntKind.i64.wrap (p1.left - 1)) }))
theorem Y8x (g2 gT : Nat) (p1 : cover_purse) (r : (Bool × cover_purse)) (h : Zky p1 = some r) : Con Tryz.prog 278 [Zb g2 (Lens.id Z6f)] (Ze g2 gT Z6f p1) (fun _ : Unit => rd Z7 r.1) (fun _ => Ze g2 gT Z6f r.2) := by
 refine Con.intro Tryz.func278 rfl Tryz.ntmps278 rfl fun w H X => ?_
 unfold Zky at h
 refine SR <| Ab rfl <| Nl <| sq <| SR <| Mp rfl <| Nc rfl <| Zj lcover_purse_1 Yd7 rfl <| Ld ty4 0 rfl <| Nl <| Cq rfl h (fun h => ?_) (fun h => ?_)
 ·refine SR <| Ab rfl <| Nl <| rt ?_
  cases h; exact Zm6 (i := 0) Tryz.results278 rfl (Z4 rfl) rfl
 ·refine sk <| SR <| Mp rfl <| Nc rfl <| Zj lcover_purse_0 Zqx rfl <| Ld Zt 0 rfl <| Ac (Z0p rfl rfl (vt rfl) (vk rfl)) rfl <| Nc rfl <| Zj lcover_purse_0 Zqx rfl <| Zh Zt 0 rfl <| Nl <| SR <| Mp rfl <| Nc rfl <| Zj lcover_purse_0 Zqx rfl <| Ld Zt 0 rfl <| Ac (Z4z rfl rfl (vt rfl) (vk rfl)) rfl <| As rfl <| Nl <| rt ?_
  cases h; exact Zm6 (i := 0) Tryz.results278 rfl (Z4 rfl) rfl
end Go.Proofs.YtknpgojdkobgjaaGreat.W
set_option maxRecDepth 4000
namespace Go.Proofs.YtknpgojdkobgjaaGreat.W
open Go Go.Wb
theorem Y7q : Ent Tryz.prog 337 := Ent.mk Tryz.func337 rfl rfl
theorem Y7p : Ent Tryz.prog 316 := Ent.mk Tryz.func316 rfl rfl
theorem Zym : Ent Tryz.prog 331 := Ent.mk Tryz.func331 rfl rfl
theorem Y8p : Ent Tryz.prog 294 := Ent.mk Tryz.func294 rfl rfl
theorem Y35 : Ent Tryz.prog 319 := Ent.mk Tryz.func319 rfl rfl
def Zi5 (a1 : Tern) (b2 : Tern) : Option Bool :=
 (Z9u b2.Mask a1.Mask).bind fun x5 => (Zhi x5).bind fun x6 => (opt x6 (Zg1 b2 a1.Value)).bind fun x7 => some (x6 && x7)
theorem Yc6 : Q2 Tryz.prog 337 (rd Z3) (rd Z3) (rd Z7) Zi5 := fun a1 b2 r h => I0 Tryz.func337 rfl Tryz.ntmps337 rfl fun w H => by
 unfold Zi5 at h
 refine SR <| Cv rfl (Zl 3 rfl rfl (vt rfl)) fun g3 => Cv rfl (Zl 4 rfl rfl (vt rfl)) fun g4 => Ab rfl <| Nl <| sq ?_
 obtain ⟨x5, hx5, x6, hx6, x7, hx7, h⟩ := bs3 h
 refine Rg <| Zj lTern_1 Z27 rfl <| Ld Zu 4 rfl <| Zj lTern_1 Z27 rfl <| Ld Zu 3 rfl <| Cl [6, 8] (Zfg _ _ _ hx5) Zhv rfl <| Cl [9] (Zty _ _ hx6) Ztc rfl <| Md rfl <| Gd rfl (fun hq => Z29 rfl rfl Zw (vt rfl) (i := 4) rfl) <| Gd rfl (fun hq => Z3y lTern_0 rfl rfl Z2n (vt rfl)) <| Gd rfl (fun hq => Z29 rfl rfl Zu (Zo rfl hq) (i := 3) rfl) <| Gd rfl (fun hq => Z0r (xs := [.tmp 12, .tmp 14]) (Zuk _ _ _ (Z28 hx7 hq)) Zrm rfl rfl ⟨Zo rfl hq, Zo rfl hq, trivial⟩) <| Ac (Z1t rfl rfl (vt rfl) (vt rfl)) rfl <| As rfl <| Nl <| rt ?_
 cases h; exact Zg Tryz.results337 rfl (Z4 rfl)
def Za9 (b2 : Z9) : (List Tern) → Nat → Option Bool
 | [], i5 => some true
 | x7 :: l6, i5 => (chk 24 (i5 : Int)).bind fun j9 => (Zi5 x7 (Vector.get b2 j9)).bind fun x10 => (bif (!x10) then some false else (Za9 b2 l6) (i5 + 1))
def Zi3 (a1 : Z9) (b2 : Z9) : Option Bool :=
 Za9 b2 (Vector.toList a1) 0
theorem Yit : Q2 Tryz.prog 316 (rd (Z1 24 Z3)) (rd (Z1 24 Z3)) (rd Z7) Zi3 := fun a1 b2 r h => I0 Tryz.func316 rfl Tryz.ntmps316 rfl fun w H => by
 unfold Zi3 at h
 refine SR <| Cv rfl (Zl 3 rfl rfl (vt rfl)) fun g3 => Cv rfl (Zl 4 rfl rfl (vt rfl)) fun g4 => Ab rfl <| Nl <| sq <| SR <| Ld Z01 3 rfl <| Mk rfl <| Nl <| bk <| LG (d := []) (ν := (List Tern) × Nat) (fun (l6, i5) => (Sfx (Vector.toList a1) i5 l6 ∧ Za9 b2 l6 i5 = some r, l6.length, [(3, Zb g4 (Lens.id (Z1 24 Z3))), (7, rd (Z1 24 Z3) a1), (8, rd (Z0 .i64) (i5 : Int))], [(4, Ze g4 87 (Z1 24 Z3) b2)])) ((Vector.toList a1), 0) ⟨Sfx.start _, h⟩ (FX rfl) ?_
 rintro ⟨l6, i5⟩ ⟨hsf1, h⟩
 dsimp only at hsf1 h ⊢
 cases l6 with
 | nil =>
  unfold Za9 at h
  refine SR <| Ac (Zn rfl rfl (vt rfl) (vk rfl)) rfl <| Nl <| sq <| Cn rfl (fun hc => absurd (of_decide_eq_true hc) (hsf1.niln (by simp))) (fun hc => ?_)
  refine xt <| SR <| Ab rfl <| Nl <| rt ?_
  cases h; exact Zg Tryz.results316 rfl (Z4 rfl)
 | cons x7 l6 =>
  unfold Za9 at h
  refine SR <| Ac (Zn rfl rfl (vt rfl) (vk rfl)) rfl <| Nl <| sq <| Cn rfl (fun hc => ?_) (fun hc => absurd (hsf1.consn (by simp)) (of_decide_eq_false hc))
  have hlti5 := of_decide_eq_true hc
  refine sk <| sq <| bk <| SR <| Md rfl <| Ac (Zb4 rfl rfl Z2h Zw (vt rfl) (vt rfl) hsf1.lget) rfl <| Cv rfl (Zp 7 rfl rfl Z1d) fun g8 => As rfl <| Zh Zw 7 rfl <| Nl <| sq ?_
  obtain ⟨j9, hj9, x10, hx10, h⟩ := bs2 h
  refine AR Zx (by kernel_rfl) <| Zk Zw 7 rfl <| Zq rfl <| Sd (lo [3, 13] [] rfl fun S hs hr => Z14 rfl rfl Z2h (vh hs 3 rfl rfl) (vh hs 13 rfl rfl) hj9) <| Zk Zw 4 rfl <| SCl [12, 15] (Yc6 _ _ _ hx10) Y7q rfl <| Sd (lo [16] [] rfl fun S hs hr => Z15 rfl rfl (vh hs 16 rfl rfl)) <| Sn <| Cq rfl h (fun h => ?_) (fun h => ?_)
  ·refine SR <| Ab rfl <| Nl <| rt ?_
   cases h; exact Zg Tryz.results316 rfl (Z4 rfl)
  ·refine sk <| Rg <| Ac (Z74 rfl rfl (vt rfl) (vk rfl) rfl hlti5) rfl <| Md rfl <| Nl ?_
   exact ⟨(_, _), Nat.lt_succ_self _, ⟨hsf1.next, h⟩, FX rfl⟩
def Z83 (x1 : Z9) : (List Z9) → Nat → Int → Option (Bool × Int)
 | [], i6, x5 => some (false, x5)
 | x8 :: l7, i6, x5 => (Za3 x1 x8).bind fun x10 => (bif (!x10.2) then (Z83 x1 l7) (i6 + 1) x5 else (Zi3 x1 x8).bind fun x12 => (bif x12 then some (true, (i6 : Int)) else (bif (decide (x5 < 0)) then (Z83 x1 l7) (i6 + 1) (i6 : Int) else (Z83 x1 l7) (i6 + 1) x5)))
def Zmu (x1 : Z9) (l2 : (List Z9)) : Option (Bool × Int) :=
 Z83 x1 l2 0 (-1)
theorem Y6x : Q2 Tryz.prog 279 (rd (Z1 24 Z3)) (rd (Z2 (Z1 24 Z3))) (fun r => Z19 (rd Z7 r.1) (rd (Z0 .i64) r.2)) Zmu := fun x1 l2 r h => I0 Tryz.func279 rfl Tryz.ntmps279 rfl fun w H => by
 unfold Zmu at h
 refine SR <| Cv rfl (Zl 3 rfl rfl (vt rfl)) fun g3 => Ab rfl <| Ak rfl <| Nl <| SR <| Ak rfl <| Nl <| sq <| SR <| Md rfl <| Ac (Z0x rfl rfl Z4e (vt rfl)) rfl <| Mk rfl <| Nl <| bk <| LG (d := []) (ν := (List Z9) × Nat × Int) (fun (l7, i6, x5) => (Sfx l2 i6 l7 ∧ Z83 x1 l7 i6 x5 = some r, l7.length, [(2, Zb g3 (Lens.id (Z1 24 Z3))), (6, rd (Z0 .i64) x5), (11, rd (Z2 (Z1 24 Z3)) l2), (12, rd (Z0 .i64) (l2.length : Int)), (13, rd (Z0 .i64) (i6 : Int))], [(3, Ze g3 87 (Z1 24 Z3) x1)])) (l2, 0, (-1)) ⟨Sfx.start _, h⟩ (FX rfl) ?_
 rintro ⟨l7, i6, x5⟩ ⟨hsf1, h⟩
 dsimp only at hsf1 h ⊢
 cases l7 with
 | nil =>
  unfold Z83 at h
  refine SR <| Ac (Zn rfl rfl (vt rfl) (vt rfl)) rfl <| Nl <| sq <| Cn rfl (fun hc => absurd (of_decide_eq_true hc) hsf1.nil) (fun hc => ?_)
  refine xt <| SR <| Md rfl <| Ab rfl <| As rfl <| Nl <| rt ?_
  cases h; exact Z25 Tryz.results279 rfl (Z4 rfl) (Z4 rfl)
 | cons x8 l7 =>
  unfold Z83 at h
  refine SR <| Ac (Zn rfl rfl (vt rfl) (vt rfl)) rfl <| Nl <| sq <| Cn rfl (fun hc => ?_) (fun hc => absurd hsf1.cons (of_decide_eq_false hc))
  have hlti6 := of_decide_eq_true hc
  refine sk <| sq <| bk <| SR <| Md rfl <| Ac (Z0q rfl rfl Z4e (vt rfl) (vt rfl) hsf1.lget) rfl <| Lp1 Z01 rfl <| Cv rfl (Zp 9 rfl rfl Z13) fun g9 => As rfl <| Zh Z01 9 rfl <| Nl <| sq ?_
  obtain ⟨x10, hx10, h⟩ := Za h
  refine Rg <| Ld Z01 3 rfl <| Ld Z01 9 rfl <| Cl [19, 20] (Zu8 _ _ _ hx10) Ztf rfl <| Mt2 rfl <| Ac (Z1h rfl rfl (vt rfl)) rfl <| Ac (Z1f rfl rfl (vt rfl)) rfl <| Cv rfl (Zp 10 rfl rfl Z13) fun g11 => Zh Z01 10 rfl <| As rfl <| Nl <| bk <| SR <| Md rfl <| Ac (Z15 rfl rfl (vt rfl)) rfl <| As rfl <| Nl <| Cq rfl h (fun h => ?_) (fun h => ?_)
  ·refine sk <| Rg <| Ac (Z23 (t := 12) rfl rfl (vt rfl) (vk rfl) (vt rfl) hlti6) rfl <| Md rfl <| Nl ?_
   exact ⟨(_, _, _), Nat.lt_succ_self _, ⟨hsf1.next, h⟩, FX rfl⟩
  ·refine sq ?_
   obtain ⟨x12, hx12, h⟩ := Za h
   refine Rg <| Ld Z01 3 rfl <| Ld Z01 9 rfl <| Cl [28, 29] (Yit _ _ _ hx12) Y7p rfl <| As rfl <| Nl <| Cq rfl h (fun h => ?_) (fun h => ?_)
   ·refine SR <| Md rfl <| Ab rfl <| As rfl <| Nl <| rt ?_
    cases h; exact Z25 Tryz.results279 rfl (Z4 rfl) (Z4 rfl)
   ·refine SR <| Md rfl <| Ac (Zn rfl rfl (vt rfl) (vk rfl)) rfl <| As rfl <| Nl <| Cq rfl h (fun h => ?_) (fun h => ?_)
    ·refine Rg <| Md rfl <| As rfl <| Nl <| Rg <| Ac (Z23 (t := 12) rfl rfl (vt rfl) (vk rfl) (vt rfl) hlti6) rfl <| Md rfl <| Nl ?_
     exact ⟨(_, _, _), Nat.lt_succ_self _, ⟨hsf1.next, h⟩, FX rfl⟩
    ·refine sk <| Rg <| Ac (Z23 (t := 12) rfl rfl (vt rfl) (vk rfl) (vt rfl) hlti6) rfl <| Md rfl <| Nl ?_
     exact ⟨(_, _, _), Nat.lt_succ_self _, ⟨hsf1.next, h⟩, FX rfl⟩
def Z8v : (List Tern) → Nat → Z0j → Option Z0j
 | [], i7, b6 => some b6
 | x9 :: l8, i7, b6 => (Z73 x9).bind fun x11 => (chk 24 (i7 : Int)).bind fun j12 => (Z8v l8) (i7 + 1) (Vector.set b6 j12.1 x11.Value j12.2)
def Zid (x1 : Z9) : Option Z0j :=
 Z8v (Vector.toList x1) 0 (Vector.replicate 24 Z09)
theorem Y5t : Q1 Tryz.prog 70 (rd (Z1 24 Z3)) (rd (Z1 24 Zd)) Zid := fun x1 r h => I0 Tryz.func70 rfl Tryz.ntmps70 rfl fun w H => by
 unfold Zid at h
 refine SR <| Cv rfl (Zl 2 rfl rfl (vt rfl)) fun g2 => Cv rfl (Zp 3 rfl rfl Z3n) fun g3 => Nl <| SR <| Cv rfl (Zp 4 rfl rfl Z3n) fun g4 => Nl <| sq <| SR <| Ld Z01 2 rfl <| Mk rfl <| Nl <| bk <| LG (d := []) (ν := (List Tern) × Nat × Z0j) (fun (l8, i7, b6) => (Sfx (Vector.toList x1) i7 l8 ∧ Z8v l8 i7 b6 = some r, l8.length, [(2, Zb g3 (Lens.id (Z1 24 Zd))), (3, Zb g4 (Lens.id (Z1 24 Zd))), (6, rd (Z1 24 Z3) x1), (7, rd (Z0 .i64) (i7 : Int))], [(3, Ze g3 44 (Z1 24 Zd) (Vector.replicate 24 Z09)), (4, Ze g4 44 (Z1 24 Zd) b6)])) ((Vector.toList x1), 0, (Vector.replicate 24 Z09)) ⟨Sfx.start _, h⟩ (FX rfl) ?_
 rintro ⟨l8, i7, b6⟩ ⟨hsf1, h⟩
 dsimp only at hsf1 h ⊢
 cases l8 with
 | nil =>
  unfold Z8v at h
  refine SR <| Ac (Zn rfl rfl (vt rfl) (vk rfl)) rfl <| Nl <| sq <| Cn rfl (fun hc => absurd (of_decide_eq_true hc) (hsf1.niln (by simp))) (fun hc => ?_)
  refine xt <| SR <| Ld Z0f 4 rfl <| Zh Z0f 3 rfl <| Nl <| rt ?_
  cases h; exact Zg Tryz.results70 rfl (Zz rfl (i := 3) rfl Z0f)
 | cons x9 l8 =>
  unfold Z8v at h
  refine SR <| Ac (Zn rfl rfl (vt rfl) (vk rfl)) rfl <| Nl <| sq <| Cn rfl (fun hc => ?_) (fun hc => absurd (hsf1.consn (by simp)) (of_decide_eq_false hc))
  have hlti7 := of_decide_eq_true hc
  refine sk <| sq <| bk <| SR <| Md rfl <| Ac (Zb4 rfl rfl Z2h Zw (vt rfl) (vt rfl) hsf1.lget) rfl <| Cv rfl (Zp 6 rfl rfl Z1d) fun g10 => As rfl <| Zh Zw 6 rfl <| Nl ?_
  obtain ⟨x11, hx11, j12, hj12, h⟩ := bs2 h
  refine Rg <| Md rfl <| Ld Zw 6 rfl <| Cl [12] (Z9g _ _ hx11) Z8t rfl <| Ac (Zwv lTern_0 rfl rfl Z2n Ybx Zu rfl (vt rfl)) rfl <| Ac (Z14 rfl rfl Zeu (vt rfl) (vt rfl) hj12) rfl <| Zh Zu 4 rfl <| Nl <| Rg <| Ac (Z74 rfl rfl (vt rfl) (vk rfl) rfl hlti7) rfl <| Md rfl <| Nl ?_
  exact ⟨(_, _, _), Nat.lt_succ_self _, ⟨hsf1.next, h⟩, FX rfl⟩
def Zgo (x1 : (BitVec 64)) : Option Int :=
 (Z3g x1 ((1 : BitVec 64).toNat : Int)).bind fun q2 => (Z3g ((q2 &&& (6148914691236517205 : BitVec 64)) + (x1 &&& (6148914691236517205 : BitVec 64))) ((2 : BitVec 64).toNat : Int)).bind fun q3 => (Z3g ((q3 &&& (3689348814741910323 : BitVec 64)) + (((q2 &&& (6148914691236517205 : BitVec 64)) + (x1 &&& (6148914691236517205 : BitVec 64))) &&& (3689348814741910323 : BitVec 64))) ((4 : BitVec 64).toNat : Int)).bind fun q4 => (Z3g ((q4 + ((q3 &&& (3689348814741910323 : BitVec 64)) + (((q2 &&& (6148914691236517205 : BitVec 64)) + (x1 &&& (6148914691236517205 : BitVec 64))) &&& (3689348814741910323 : BitVec 64)))) &&& (1085102592571150095 : BitVec 64)) ((8 : BitVec 64).toNat : Int)).bind fun q5 => (Z3g (((q4 + ((q3 &&& (3689348814741910323 : BitVec 64)) + (((q2 &&& (6148914691236517205 : BitVec 64)) + (x1 &&& (6148914691236517205 : BitVec 64))) &&& (3689348814741910323 : BitVec 64)))) &&& (1085102592571150095 : BitVec 64)) + q5) ((16 : BitVec 64).toNat : Int)).bind fun q6 => (Z3g ((((q4 + ((q3 &&& (3689348814741910323 : BitVec 64)) + (((q2 &&& (6148914691236517205 : BitVec 64)) + (x1 &&& (6148914691236517205 : BitVec 64))) &&& (3689348814741910323 : BitVec 64)))) &&& (1085102592571150095 : BitVec 64)) + q5) + q6) ((32 : BitVec 64).toNat : Int)).bind fun q7 => some (Zqq .and .i64 (IntKind.i64.wrap ((((((q4 + ((q3 &&& (3689348814741910323 : BitVec 64)) + (((q2 &&& (6148914691236517205 : BitVec 64)) + (x1 &&& (6148914691236517205 : BitVec 64))) &&& (3689348814741910323 : BitVec 64)))) &&& (1085102592571150095 : BitVec 64)) + q5) + q6) + q7).toNat : Int)) 127)
theorem Y4j : Q1 Tryz.prog 331 (rd Z0o) (rd (Z0 .i64)) Zgo := fun x1 r h => I0 Tryz.func331 rfl Tryz.ntmps331 rfl fun w H => by
 unfold Zgo at h
 refine SR <| Ak rfl <| Nl <| sq ?_
 obtain ⟨q2, hq2, h⟩ := Za h
 refine Rg <| Md rfl <| Ac (Z5p rfl rfl (vt rfl) (Z4o (vku (1 : BitVec 64) rfl)) hq2) rfl <| Ac (Z92 rfl rfl (vt rfl) (vku (6148914691236517205 : BitVec 64) rfl)) rfl <| Md rfl <| Ac (Z92 rfl rfl (vt rfl) (vku (6148914691236517205 : BitVec 64) rfl)) rfl <| Ac (Zfy rfl rfl (vt rfl) (vt rfl)) rfl <| As rfl <| Nl <| sq ?_
 obtain ⟨q3, hq3, h⟩ := Za h
 refine Rg <| Md rfl <| Ac (Z5p rfl rfl (vt rfl) (Z4o (vku (2 : BitVec 64) rfl)) hq3) rfl <| Ac (Z92 rfl rfl (vt rfl) (vku (3689348814741910323 : BitVec 64) rfl)) rfl <| Md rfl <| Ac (Z92 rfl rfl (vt rfl) (vku (3689348814741910323 : BitVec 64) rfl)) rfl <| Ac (Zfy rfl rfl (vt rfl) (vt rfl)) rfl <| As rfl <| Nl <| sq ?_
 obtain ⟨q4, hq4, h⟩ := Za h
 refine Rg <| Md rfl <| Ac (Z5p rfl rfl (vt rfl) (Z4o (vku (4 : BitVec 64) rfl)) hq4) rfl <| Md rfl <| Ac (Zfy rfl rfl (vt rfl) (vt rfl)) rfl <| Ac (Z92 rfl rfl (vt rfl) (vku (1085102592571150095 : BitVec 64) rfl)) rfl <| As rfl <| Nl <| sq ?_
 obtain ⟨q5, hq5, h⟩ := Za h
 refine Rg <| Md rfl <| Md rfl <| Ac (Z5p rfl rfl (vt rfl) (Z4o (vku (8 : BitVec 64) rfl)) hq5) rfl <| Ac (Zfy rfl rfl (vt rfl) (vt rfl)) rfl <| As rfl <| Nl <| sq ?_
 obtain ⟨q6, hq6, h⟩ := Za h
 refine Rg <| Md rfl <| Md rfl <| Ac (Z5p rfl rfl (vt rfl) (Z4o (vku (16 : BitVec 64) rfl)) hq6) rfl <| Ac (Zfy rfl rfl (vt rfl) (vt rfl)) rfl <| As rfl <| Nl <| sq ?_
 obtain ⟨q7, hq7, h⟩ := Za h
 refine Rg <| Md rfl <| Md rfl <| Ac (Z5p rfl rfl (vt rfl) (Z4o (vku (32 : BitVec 64) rfl)) hq7) rfl <| Ac (Zfy rfl rfl (vt rfl) (vt rfl)) rfl <| As rfl <| Nl <| SR <| Md rfl <| Ac (Z8x rfl rfl Yiu un3 (vt rfl)) rfl <| Ac (Yi9 rfl rfl (vt rfl) (vk rfl)) rfl <| As rfl <| Nl <| rt ?_
 cases h; exact Zg Tryz.results331 rfl (Z4 rfl)
def Zi6 (a1 : Wide) : Option Int :=
 (Zgo a1.Hi).bind fun x3 => (Zgo a1.Lo).bind fun x4 => some (IntKind.i64.wrap (x3 + x4))
theorem Ykk : Q1 Tryz.prog 294 (rd Zd) (rd (Z0 .i64)) Zi6 := fun a1 r h => I0 Tryz.func294 rfl Tryz.ntmps294 rfl fun w H => by
 unfold Zi6 at h
 refine SR <| Cv rfl (Zl 2 rfl rfl (vt rfl)) fun g2 => Ak rfl <| Nl <| sq ?_
 obtain ⟨x3, hx3, x4, hx4, h⟩ := bs2 h
 refine AR Zx (by kernel_rfl) <| SFd lWide_0 Z45 rfl <| Zk Z1g 2 rfl <| SCl [4] (Y4j _ _ hx3) Zym rfl <| SFd lWide_1 Z3z rfl <| Zk Z1g 2 rfl <| SCl [7] (Y4j _ _ hx4) Zym rfl <| Sd (lo [5, 8] [] rfl fun S hs hr => Z06 rfl rfl (vh hs 5 rfl rfl) (vh hs 8 rfl rfl)) <| SAs rfl <| Sn <| rt ?_
 cases h; exact Zg Tryz.results294 rfl (Z4 rfl)
def Zh5 (a1 : Wide) (i2 : Int) : Option Bool :=
 (Zb2 i2).bind fun x4 => (Zb0 a1 x4).bind fun x5 => (Zhi x5).bind fun x6 => some (!x6)
theorem Zzc : Q2 Tryz.prog 319 (rd Zd) (rd (Z0 .i64)) (rd Z7) Zh5 := fun a1 i2 r h => I0 Tryz.func319 rfl Tryz.ntmps319 rfl fun w H => by
 unfold Zh5 at h
 refine SR <| Cv rfl (Zl 3 rfl rfl (vt rfl)) fun g3 => Ab rfl <| Nl <| sq ?_
 obtain ⟨x4, hx4, x5, hx5, x6, hx6, h⟩ := bs3 h
 refine AR Zx (by kernel_rfl) <| Zk Zu 3 rfl <| Zq rfl <| SCl [6] (Zpg _ _ hx4) Zm1 rfl <| SCl [5, 7] (Zio _ _ _ hx5) Zlw rfl <| SCl [8] (Zty _ _ hx6) Ztc rfl <| Sd (lo [9] [] rfl fun S hs hr => Z15 rfl rfl (vh hs 9 rfl rfl)) <| SAs rfl <| Sn <| rt ?_
 cases h; exact Zg Tryz.results319 rfl (Z4 rfl)
def Zbu (x5 : Wide) : Nat → (List Int) → Int → Option (List Int)
 | 0, _, _ => none
 | m13 + 1, l10, i12 => (opt (decide (i12 ≥ 0)) (Zi6 x5)).bind fun x14 => (bif ((decide (i12 ≥ 0)) && (decide ((l10.length : Int) < x14))) then (Zh5 x5 i12).bind fun x15 => (bif x15 then (Z0u l10 [i12]).bind fun l16 => (Zbu x5 m13) l16 (IntKind.i64.wrap (i12 - 1)) else (Zbu x5 m13) l10 (IntKind.i64.wrap (i12 - 1))) else some l10)
def Zi9 (a1 : Tern) (b2 : Tern) : Option (List Int) :=
 (Z9u b2.Mask a1.Mask).bind fun x5 => Zbu x5 Z0l [] 127
theorem Ylf : Q2 Tryz.prog 318 (rd Z3) (rd Z3) (rd (Z2 (Z0 .i64))) Zi9 := fun a1 b2 r h => I0 Tryz.func318 rfl Tryz.ntmps318 rfl fun w H => by
 unfold Zi9 at h
 refine SR <| Cv rfl (Zl 3 rfl rfl (vt rfl)) fun g3 => Cv rfl (Zl 4 rfl rfl (vt rfl)) fun g4 => Ac (Zy (A := rd (Z2 (Z0 .i64)) []) rfl rfl Z1p) rfl <| Nl <| sq ?_
 obtain ⟨x5, hx5, h⟩ := Za h
 refine Rg <| Zj lTern_1 Z27 rfl <| Ld Zu 4 rfl <| Zj lTern_1 Z27 rfl <| Ld Zu 3 rfl <| Cl [9, 11] (Zfg _ _ _ hx5) Zhv rfl <| Cv rfl (Zp 6 rfl rfl Z1s) fun g6 => Zh Zu 6 rfl <| Nl <| sq <| AW.newnil 1001 3 (Z0 .i64) <| Rg <| Ac (Zy rfl rfl vc) rfl <| Nl <| sq <| SR <| Ak rfl <| Nl <| bk <| LG (d := []) (ν := Nat × (List Int) × Int × Value) (fun (m13, l10, i12, v11) => (True ∧ Zbu x5 m13 l10 i12 = some r, m13, [(5, Zb g6 (Lens.id Zd)), (6, Zi v11), (7, rd (Z0 .i64) i12)], [(6, Ze g6 42 Zd x5), (1001, Zc v11 3 (Z0 .i64) l10)])) (Z0l, [], 127, (.slice none 0 0)) ⟨trivial, h⟩ (FX rfl) ?_
 rintro ⟨m13, l10, i12, v11⟩ ⟨hsf1, h⟩
 dsimp only at h ⊢
 cases m13 with
 | zero => cases h
 | succ m13 =>
  unfold Zbu at h
  refine sq <| sq ?_
  obtain ⟨x14, hx14, h⟩ := Za h
  refine Rg <| Md rfl <| Ac (Z4z rfl rfl (vt rfl) (vk rfl)) rfl <| Md rfl <| Gd rfl (fun hq => Zs (A := Zi v11) rfl rfl (vt rfl)) <| Gd rfl (fun hq => Z6q 1001 rfl rfl Z0y (Zo rfl hq) rfl) <| Gd rfl (fun hq => Z29 rfl rfl Zu (vt rfl) (i := 6) rfl) <| Gd rfl (fun hq => Z0r (xs := [.tmp 18]) (Ykk _ _ (Z28 hx14 hq)) Y8p rfl rfl ⟨Zo rfl hq, trivial⟩) <| Gd rfl (fun hq => Zn rfl rfl (Zo rfl hq) (Zo rfl hq)) <| Ac (Z1t rfl rfl (vt rfl) (vt rfl)) rfl <| Nl <| Cq rfl h (fun h => ?_) (fun h => ?_)
  ·refine sk <| sq <| bk <| sq ?_
   obtain ⟨x15, hx15, h⟩ := Za h
   refine Rg <| Ld Zu 6 rfl <| Md rfl <| Cl [24, 25] (Zzc _ _ _ hx15) Y35 rfl <| Nl <| Cq rfl h (fun h => ?_) (fun h => ?_)
   ·obtain ⟨l16, hl16, h⟩ := Za h
    refine Rg <| Mw rfl <| Md rfl <| Ac (osl Z0y zr3 rfl (vt rfl)) rfl <| Cv rfl (Z2m 1001 hl16 rfl rfl Zlp (vt rfl) rfl (vt rfl)) fun v17 => Aw rfl <| Nl <| Rg <| Md rfl <| Ac (Z0p rfl rfl (vt rfl) (vk rfl)) rfl <| As rfl <| Nl ?_
    exact ⟨(_, _, _, _), Nat.lt_succ_self _, ⟨trivial, h⟩, FX rfl⟩
   ·refine sk <| Rg <| Md rfl <| Ac (Z0p rfl rfl (vt rfl) (vk rfl)) rfl <| As rfl <| Nl ?_
    exact ⟨(_, _, _, _), Nat.lt_succ_self _, ⟨trivial, h⟩, FX rfl⟩
  ·refine xt <| SR <| Mw rfl <| Aw rfl <| Nl <| AW.freezes [4, 6, 31] 1001 rfl ⟨rfl, rfl, rfl, trivial⟩ rfl <| rt ?_
   cases h; exact Zg Tryz.results318 rfl (Z4 rfl)
def Zhr (t1 : Tern) (i2 : Int) (o3 : Bool) : Option Tern :=
 (Zb2 i2).bind fun x6 => (Z73 t1).bind fun x8 => (Z87 x8.Mask x6).bind fun x9 => (Z9u x8.Value x6).bind fun x10 => (bif o3 then (Z87 ({ { x8 with Mask := x9 } with Value := x10 }.Value) x6).bind fun x11 => some { { { x8 with Mask := x9 } with Value := x10 } with Value := x11 } else some { { x8 with Mask := x9 } with Value := x10 })
theorem Y2s : Q3 Tryz.prog 320 (rd Z3) (rd (Z0 .i64)) (rd Z7) (rd Z3) Zhr := fun t1 i2 o3 r h => I0 Tryz.func320 rfl Tryz.ntmps320 rfl fun w H => by
 unfold Zhr at h
 refine SR <| Cv rfl (Zl 4 rfl rfl (vt rfl)) fun g4 => Cv rfl (Zp 7 rfl rfl Z1d) fun g5 => Nl <| sq ?_
 obtain ⟨x6, hx6, h⟩ := Za h
 refine Rg <| Md rfl <| Cl [8] (Zpg _ _ hx6) Zm1 rfl <| Cv rfl (Zp 8 rfl rfl Z1s) fun g7 => Zh Zu 8 rfl <| Nl <| sq ?_
 obtain ⟨x8, hx8, h⟩ := Za h
 refine Rg <| Ld Zw 4 rfl <| Cl [10] (Z9g _ _ hx8) Z8t rfl <| Zh Zw 4 rfl <| Nl <| sq ?_
 obtain ⟨x9, hx9, x10, hx10, h⟩ := bs2 h
 refine AR Zx (by kernel_rfl) <| SFd lTern_1 Z27 rfl <| Zk Zu 4 rfl <| Zk Zu 8 rfl <| SCl [13, 14] (Zd1 _ _ _ hx9) Zcg rfl <| SFd lTern_0 Z2n rfl <| Zk Zu 4 rfl <| Zk Zu 8 rfl <| SCl [17, 18] (Zfg _ _ _ hx10) Zhv rfl <| SFd lTern_1 Z27 rfl <| SSt Zu 4 rfl <| SFd lTern_0 Z2n rfl <| SSt Zu 4 rfl <| Sn <| sq <| SR <| Md rfl <| Nl <| Cq rfl h (fun h => ?_) (fun h => ?_)
 ·obtain ⟨x11, hx11, h⟩ := Za h
  refine Rg <| Zj lTern_0 Z2n rfl <| Ld Zu 4 rfl <| Ld Zu 8 rfl <| Cl [24, 25] (Zd1 _ _ _ hx11) Zcg rfl <| Zj lTern_0 Z2n rfl <| Zh Zu 4 rfl <| Nl <| SR <| Ld Zw 4 rfl <| Zh Zw 7 rfl <| Nl <| rt ?_
  cases h; exact Zg Tryz.results320 rfl (Zz rfl (i := 7) rfl Zw)
 ·refine sk <| SR <| Ld Zw 4 rfl <| Zh Zw 7 rfl <| Nl <| rt ?_
  cases h; exact Zg Tryz.results320 rfl (Zz rfl (i := 7) rfl Zw)
end Go.Proofs.YtknpgojdkobgjaaGreat.W
set_option maxRecDepth 4000
namespace Go.Proofs.YtknpgojdkobgjaaGreat.W
open Go Go.Wb
theorem Ygf : Ent Tryz.prog 318 := Ent.mk Tryz.func318 rfl rfl
theorem Y1y : Ent Tryz.prog 320 := Ent.mk Tryz.func320 rfl rfl
theorem Y5o : Ent Tryz.prog 317 := Ent.mk Tryz.func317 rfl rfl
theorem Y65 : Ent Tryz.prog 278 := Ent.mk Tryz.func278 rfl rfl
theorem Yca : Ent Tryz.prog 279 := Ent.mk Tryz.func279 rfl rfl
theorem e70 : Ent Tryz.prog 70 := Ent.mk Tryz.func70 rfl rfl
theorem Yj2 : Ent Tryz.prog 280 := Ent.mk Tryz.func280 rfl rfl
theorem Zzs : Ent Tryz.prog 235 := Ent.mk Tryz.func235 rfl rfl
theorem Yhc : Ent Tryz.prog 240 := Ent.mk Tryz.func240 rfl rfl
theorem Ybn : Ent Tryz.prog 179 := Ent.mk Tryz.func179 rfl rfl
theorem Y3i : Ent Tryz.prog 170 := Ent.mk Tryz.func170 rfl rfl
theorem Yh5 : Ent Tryz.prog 288 := Ent.mk Tryz.func288 rfl rfl
def Zef (sg : Type) (go1 : Nat → Z9 → (Lp sg) → Option (Lp sg)) (i14 : Nat) (x16 : Tern) (y1 : (sg → Z9 → Option (Lp sg))) : (List Int) → Nat → Z9 → (Lp sg) → Option (Lp sg)
 | [], i24, b22, s23 => go1 (i14 + 1) b22 s23
 | x26 :: l25, i24, b22, s23 => (Zh5 x16.Value x26).bind fun x27 => (chk 24 (i14 : Int)).bind fun j29 => (Zhr (Vector.get b22 j29) x26 (!x27)).bind fun x30 => (chk 24 (i14 : Int)).bind fun j31 => (yc y1 s23 (Vector.set b22 j31.1 x30 j31.2)).bind fun s32 => (bif (!(Lp.isGo s32)) then some s32 else (chk 24 (i14 : Int)).bind fun j33 => (Zhr (Vector.get b22 j33) x26 x27).bind fun x34 => (chk 24 (i14 : Int)).bind fun j35 => (Zef sg go1 i14 x16 y1 l25) (i24 + 1) (Vector.set b22 j35.1 x34 j35.2) s32)
def Z8w (sg : Type) (y1 : (sg → Z9 → Option (Lp sg))) : (List Tern) → Nat → Z9 → (Lp sg) → Option (Lp sg)
 | [], i14, b12, s13 => some s13
 | x16 :: l15, i14, b12, s13 => (chk 24 (i14 : Int)).bind fun j18 => (Zi9 (Vector.get b12 j18) x16).bind fun x19 => (bif (decide ((x19.length : Int) = 0)) then (Z8w sg y1 l15) (i14 + 1) b12 s13 else Zef sg (Z8w sg y1 l15) i14 x16 y1 x19 0 b12 s13)
def Zb7 (sg : Type) (y1 : (sg → Z9 → Option (Lp sg))) (s2 : (Lp sg)) (x3 : Z9) (x4 : Z9) : Option (Lp sg) :=
 (Zf8 x3).bind fun x5 => (Za3 x3 x4).bind fun x7 => (bif (!x7.2) then (yc y1 s2 x5).bind fun s9 => some s9 else Z8w sg y1 (Vector.toList x4) 0 x5 s2)
theorem Y77 (sg : Type) (y1 : (sg → Z9 → Option (Lp sg))) (L : Lp sg → Zv) (s2 : (Lp sg)) (x3 : Z9) (x4 : Z9) (r : (Lp sg)) (h : Zb7 sg y1 s2 x3 x4 = some r) : Con Tryz.prog 317 [ydA Tryz.prog (Z1 24 Z3) y1 L, rp (Z1 24 Z3) x3, rp (Z1 24 Z3) x4] (L s2) (fun _ : Unit => top) (fun _ => L r) := by
 refine Con.intro Tryz.func317 rfl Tryz.ntmps317 rfl fun w H X => ?_
 unfold Zb7 at h
 refine AW.scope <| sq ?_
 obtain ⟨x5, hx5, h⟩ := Za h
 refine Rg <| Lp1 Z01 rfl <| Cl [14] (Y3r _ _ hx5) Zzp rfl <| Cv rfl (Zp 5 rfl rfl Z13) fun g6 => Zh Z01 5 rfl <| Nl <| sq <| sq ?_
 obtain ⟨x7, hx7, h⟩ := Za h
 refine Rg <| Lp1 Z01 rfl <| Lp1 Z01 rfl <| Cl [17, 18] (Zu8 _ _ _ hx7) Ztf rfl <| Mt2 rfl <| Ac (Z1h rfl rfl (vt rfl)) rfl <| Ac (Z1f rfl rfl (vt rfl)) rfl <| Cv rfl (Zp 6 rfl rfl Z13) fun g8 => Zh Z01 6 rfl <| As rfl <| Nl <| SR <| Md rfl <| Ac (Z15 rfl rfl (vt rfl)) rfl <| Nl <| Cq rfl h (fun h => ?_) (fun h => ?_)
 ·refine sq ?_
  obtain ⟨s9, hs9, h⟩ := Za h
  refine Rg <| Ac (Zs (A := ydA Tryz.prog (Z1 24 Z3) y1 L) rfl rfl (vt rfl)) rfl <| Ld Z01 5 rfl <| Ac (Zkd 0 hs9 rfl rfl (vt rfl) (vt rfl) rfl) rfl <| Nl <| rt ?_
  cases h; exact Z20 (i := 0) Tryz.results317 rfl rfl
 ·refine sk <| sq <| AW.label <| SR <| Lp1 Z01 rfl <| Mk rfl <| Nl <| bk <| LG (d := []) (ν := (List Tern) × Nat × Z9 × (Lp sg)) (fun (l15, i14, b12, s13) => (Sfx (Vector.toList x4) i14 l15 ∧ Z8w sg y1 l15 i14 b12 s13 = some r, l15.length, [(0, ydA Tryz.prog (Z1 24 Z3) y1 L), (4, Zb g6 (Lens.id (Z1 24 Z3))), (27, rd (Z1 24 Z3) x4), (28, rd (Z0 .i64) (i14 : Int))], [(0, L s13), (5, Ze g6 87 (Z1 24 Z3) b12)])) ((Vector.toList x4), 0, x5, s2) ⟨Sfx.start _, h⟩ (FX rfl) ?_
  rintro ⟨l15, i14, b12, s13⟩ ⟨hsf1, h⟩
  dsimp only at hsf1 h ⊢
  cases l15 with
  | nil =>
   unfold Z8w at h
   refine SR <| Ac (Zn rfl rfl (vt rfl) (vk rfl)) rfl <| Nl <| sq <| Cn rfl (fun hc => absurd (of_decide_eq_true hc) (hsf1.niln (by simp))) (fun hc => ?_)
   refine xt ?_
   cases h; exact Z20 (i := 0) Tryz.results317 rfl rfl
  | cons x16 l15 =>
   unfold Z8w at h
   refine SR <| Ac (Zn rfl rfl (vt rfl) (vk rfl)) rfl <| Nl <| sq <| Cn rfl (fun hc => ?_) (fun hc => absurd (hsf1.consn (by simp)) (of_decide_eq_false hc))
   have hlti14 := of_decide_eq_true hc
   refine sk <| sq <| bk <| SR <| Md rfl <| Ac (Zb4 rfl rfl Z2h Zw (vt rfl) (vt rfl) hsf1.lget) rfl <| Cv rfl (Zp 9 rfl rfl Z1d) fun g17 => As rfl <| Zh Zw 9 rfl <| Nl <| sq ?_
   obtain ⟨j18, hj18, x19, hx19, h⟩ := bs2 h
   refine AR Zx (by kernel_rfl) <| Zq rfl <| Sd (lo [4, 32] [] rfl fun S hs hr => Z14 rfl rfl Z2h (vh hs 4 rfl rfl) (vh hs 32 rfl rfl) hj18) <| Zk Zw 5 rfl <| Zk Zw 9 rfl <| SCl [34, 35] (Ylf _ _ _ hx19) Ygf rfl <| SAs rfl <| Sn <| sq <| SR <| Md rfl <| Ac (Z0x rfl rfl Z0y (vt rfl)) rfl <| Ac (Z0m rfl rfl (vt rfl) (vk rfl)) rfl <| Nl <| Cq rfl h (fun h => ?_) (fun h => ?_)
   ·refine xt <| Rg <| Ac (Z74 rfl rfl (vt rfl) (vk rfl) rfl hlti14) rfl <| Md rfl <| Nl ?_
    exact ⟨(_, _, _, _), Nat.lt_succ_self _, ⟨hsf1.next, h⟩, FX rfl⟩
   ·refine sk <| SR <| Md rfl <| Ac (Z0x rfl rfl Z0y (vt rfl)) rfl <| Mk rfl <| Nl <| bk <| LG (d := []) (ν := (List Int) × Nat × Z9 × (Lp sg)) (fun (l25, i24, b22, s23) => (Sfx x19 i24 l25 ∧ Zef sg (Z8w sg y1 l15) i14 x16 y1 l25 i24 b22 s23 = some r, l25.length, [(0, ydA Tryz.prog (Z1 24 Z3) y1 L), (4, Zb g6 (Lens.id (Z1 24 Z3))), (7, rd (Z0 .i64) (i14 : Int)), (8, Zb g17 (Lens.id Z3)), (27, rd (Z1 24 Z3) x4), (28, rd (Z0 .i64) (i14 : Int)), (40, rd (Z2 (Z0 .i64)) x19), (41, rd (Z0 .i64) (x19.length : Int)), (42, rd (Z0 .i64) (i24 : Int))], [(0, L s23), (5, Ze g6 87 (Z1 24 Z3) b22), (9, Ze g17 85 Z3 x16)])) (x19, 0, b12, s13) ⟨Sfx.start _, h⟩ (FX rfl) ?_
    rintro ⟨l25, i24, b22, s23⟩ ⟨hsf2, h⟩
    dsimp only at hsf2 h ⊢
    cases l25 with
    | nil =>
     unfold Zef at h
     refine SR <| Ac (Zn rfl rfl (vt rfl) (vt rfl)) rfl <| Nl <| sq <| Cn rfl (fun hc => absurd (of_decide_eq_true hc) hsf2.nil) (fun hc => ?_)
     refine xt <| Rg <| Ac (Z74 rfl rfl (vt rfl) (vk rfl) rfl hlti14) rfl <| Md rfl <| Nl ?_
     exact ⟨(_, _, _, _), Nat.lt_succ_self _, ⟨hsf1.next, h⟩, FX rfl⟩
    | cons x26 l25 =>
     unfold Zef at h
     refine SR <| Ac (Zn rfl rfl (vt rfl) (vt rfl)) rfl <| Nl <| sq <| Cn rfl (fun hc => ?_) (fun hc => absurd hsf2.cons (of_decide_eq_false hc))
     have hlti24 := of_decide_eq_true hc
     refine sk <| sq <| bk <| SR <| Ac (Z0q rfl rfl Z0y (vt rfl) (vt rfl) hsf2.lget) rfl <| Lp1 Zt rfl <| As rfl <| Nl <| sq ?_
     obtain ⟨x27, hx27, h⟩ := Za h
     refine Rg <| Zj lTern_0 Z2n rfl <| Ld Zu 9 rfl <| Md rfl <| Cl [47, 48] (Zzc _ _ _ hx27) Y35 rfl <| As rfl <| Nl <| SR <| Ld Z01 5 rfl <| Cv rfl (Zp 14 rfl rfl Z13) fun g28 => Zh Z01 14 rfl <| Nl <| sq ?_
     obtain ⟨j29, hj29, x30, hx30, j31, hj31, h⟩ := bs3 h
     refine Rg <| Md rfl <| Md rfl <| Ac (Z14 rfl rfl Z2h (vt rfl) (vt rfl) hj29) rfl <| Ld Zw 5 rfl <| Md rfl <| Md rfl <| Ac (Z15 rfl rfl (vt rfl)) rfl <| Cl [54, 55, 57] (Y2s _ _ _ _ hx30) Y1y rfl <| Ac (Z14 rfl rfl Z2h (vt rfl) (vt rfl) hj31) rfl <| Zh Zw 14 rfl <| Nl <| sq <| sq ?_
     obtain ⟨s32, hs32, h⟩ := Za h
     refine Rg <| Ac (Zs (A := ydA Tryz.prog (Z1 24 Z3) y1 L) rfl rfl (vt rfl)) rfl <| Ld Z01 14 rfl <| Ac (Zkd 0 hs32 rfl rfl (vt rfl) (vt rfl) rfl) rfl <| Ac (Z15 rfl rfl (vt rfl)) rfl <| Nl <| Cq rfl h (fun h => ?_) (fun h => ?_)
     ·refine xt ?_
      cases h; exact Z20 (i := 0) Tryz.results317 rfl rfl
     ·refine sk ?_
      obtain ⟨j33, hj33, x34, hx34, j35, hj35, h⟩ := bs3 h
      refine Rg <| Md rfl <| Md rfl <| Ac (Z14 rfl rfl Z2h (vt rfl) (vt rfl) hj33) rfl <| Ld Zw 5 rfl <| Md rfl <| Md rfl <| Cl [67, 68, 69] (Y2s _ _ _ _ hx34) Y1y rfl <| Ac (Z14 rfl rfl Z2h (vt rfl) (vt rfl) hj35) rfl <| Zh Zw 5 rfl <| Nl <| Rg <| Ac (Z23 (t := 41) rfl rfl (vt rfl) (vk rfl) (vt rfl) hlti24) rfl <| Md rfl <| Nl ?_
      exact ⟨(_, _, _, _), Nat.lt_succ_self _, ⟨hsf2.next, h⟩, FX rfl⟩
def Zmp (a1 : Z9) (b2 : Z9) : Option (Itr Z9) :=
 some (Itr.mk fun σ y s => Zb7 σ y s a1 b2)
theorem Ygh : Q2 Tryz.prog 280 (rd (Z1 24 Z3)) (rd (Z1 24 Z3)) (Z4u Tryz.prog (Z1 24 Z3)) Zmp := fun a1 b2 r h => I0 Tryz.func280 rfl Tryz.ntmps280 rfl fun w H => by
 unfold Zmp at h
 refine SR <| Cv rfl (Zl 3 rfl rfl (vt rfl)) fun g3 => Cv rfl (Zl 4 rfl rfl (vt rfl)) fun g4 => Ac (Zy (A := Zi .nilFunc) rfl rfl vc) rfl <| Nl <| sq <| AW.freezeB 2 3 rfl rfl rfl <| AW.freezeB 3 4 rfl rfl rfl <| Rg <| Ac (Zqu (Itr.mk fun σ y s => Zb7 σ y s a1 b2) (cs := [.tmp 2, .tmp 3]) (CAs := [rp (Z1 24 Z3) a1, rp (Z1 24 Z3) b2]) rfl rfl Y5o ⟨vt rfl, vt rfl, trivial⟩ (fun σ y L s r h => Y77 σ y L s a1 b2 r h)) rfl <| Ac (Zy (A := Z4u Tryz.prog (Z1 24 Z3) (Itr.mk fun σ y s => Zb7 σ y s a1 b2)) rfl rfl (vt rfl)) rfl <| Nl <| rt ?_
 cases h; exact Zg Tryz.results280 rfl (Z4 rfl)
def Z8l (l4 : (List Z9)) (x10 : (Bool × Int)) (R_cover_look_at : (cover_look → Z9 → (List Z9) → Option (Z0j × Bool × Bool × cover_look))) (b18 : cover_look) (b19 : Z0j) (b20 : Bool) (b21 : Bool) (x23 : Z9) : Option (Lp (cover_look × Z0j × Bool × Bool)) :=
 (Z6r l4 (IntKind.i64.wrap (x10.2 + 1))).bind fun s25 => (R_cover_look_at b18 x23 s25).bind fun b26 => (bif (b26.2.1 || (!b26.2.2.1)) then some (.out (.exit 1) (b26.2.2.2, b26.1, b26.2.1, b26.2.2.1)) else some (.go (b26.2.2.2, b26.1, b26.2.1, b26.2.2.1)))
def Zly (R_cover_look_at : (cover_look → Z9 → (List Z9) → Option (Z0j × Bool × Bool × cover_look))) (s1 : cover_look) (x3 : Z9) (l4 : (List Z9)) : Option (Z0j × Bool × Bool × cover_look) :=
 (Zky s1.purse).bind fun b9 => (bif (!b9.1) then some ((Vector.replicate 24 Z09), false, false, { s1 with purse := b9.2 }) else (Zmu x3 l4).bind fun x10 => (bif x10.1 then some ((Vector.replicate 24 Z09), false, true, { s1 with purse := b9.2 }) else (bif (decide (x10.2 < 0)) then (Zid x3).bind fun x12 => some (x12, true, true, { s1 with purse := b9.2 }) else (lget l4 x10.2).bind fun x16 => (Zmp x3 x16).bind fun x17 => (Itr.run x17 (cover_look × Z0j × Bool × Bool) (fun s x => Z8l l4 x10 R_cover_look_at s.1 s.2.1 s.2.2.1 s.2.2.2 x) (.go ({ s1 with purse := b9.2 }, (Vector.replicate 24 Z09), false, true))).bind fun z22 => Zv1 z22 (fun s27 => some (s27.2.1, s27.2.2.1, s27.2.2.2, s27.1)) (fun c s27 => bif Zn5 1 c then some (s27.2.1, s27.2.2.1, s27.2.2.2, s27.1) else none))))
theorem Y5s (R_cover_look_at : (cover_look → Z9 → (List Z9) → Option (Z0j × Bool × Bool × cover_look))) (hR_cover_look_at : ∀ (g2 gT : Nat) (s1 : cover_look) (x3 : Z9) (l4 : (List Z9)) (r : (Z0j × Bool × Bool × cover_look)), R_cover_look_at s1 x3 l4 = some r → Con Tryz.prog 235 [Zb g2 (Lens.id Z24), rd (Z1 24 Z3) x3, rd (Z2 (Z1 24 Z3)) l4] (Ze g2 gT Z24 s1) (fun _ : Unit => Z3m (rd (Z1 24 Zd) r.1) (rd Z7 r.2.1) (rd Z7 r.2.2.1)) (fun _ => Ze g2 gT Z24 r.2.2.2)) (g2 gT : Nat) (s1 : cover_look) (x3 : Z9) (l4 : (List Z9)) (r : (Z0j × Bool × Bool × cover_look)) (h : Zly R_cover_look_at s1 x3 l4 = some r) : Con Tryz.prog 235 [Zb g2 (Lens.id Z24), rd (Z1 24 Z3) x3, rd (Z2 (Z1 24 Z3)) l4] (Ze g2 gT Z24 s1) (fun _ : Unit => Z3m (rd (Z1 24 Zd) r.1) (rd Z7 r.2.1) (rd Z7 r.2.2.1)) (fun _ => Ze g2 gT Z24 r.2.2.2) := by
 refine Con.intro Tryz.func235 rfl Tryz.ntmps235 rfl fun w H X => ?_
 unfold Zly at h
 refine SR <| Cv rfl (Zl 4 rfl rfl (vkp (vt rfl))) fun g5 => Cv rfl (Zl 5 rfl rfl (vt rfl)) fun g6 => Cv rfl (Zl 6 rfl rfl (vt rfl)) fun g7 => Cv rfl (Zp 7 rfl rfl Z3n) fun g8 => Ab rfl <| Ab rfl <| Nl <| AW.scope <| sq <| sq ?_
 obtain ⟨b9, hb9, h⟩ := Za h
 refine Rg <| Ac (Zxp (A := Zb g2 (Lens.id Z24)) rfl rfl rfl (Zwd _) (vt rfl) (i := 4) rfl) rfl <| Nc rfl <| Zj lcover_look_0 Y8e rfl <| Cv rfl (Z1b 0 (xs := [.tmp 17]) (Y8x _ _ _ _ hb9) Y65 rfl rfl ⟨vt rfl, trivial⟩ rfl) fun _u => AOps.told 0 (Ze g2 gT Z24 { s1 with purse := b9.2 }) rfl <| Ac (Z15 rfl rfl (vt rfl)) rfl <| Nl <| Cq rfl h (fun h => ?_) (fun h => ?_)
 ·refine SR <| Ac (Z1e (ps := []) (x := (Vector.replicate 24 Z09)) rfl rfl rfl (by kernel_rfl) Z3n rfl) rfl <| Zh Z0f 7 rfl <| Ab rfl <| Ab rfl <| Nl <| rt ?_
  cases h; exact Zi2 (i := 0) Tryz.results235 rfl (Zz rfl (i := 7) rfl Z0f) (Z4 rfl) (Z4 rfl) rfl
 ·refine sk <| sq ?_
  obtain ⟨x10, hx10, h⟩ := Za h
  refine Rg <| Ld Z01 5 rfl <| Ld Zrf 6 rfl <| Cl [22, 23] (Y6x _ _ _ hx10) Yca rfl <| Mt2 rfl <| Ac (Z1h rfl rfl (vt rfl)) rfl <| Ac (Z1f rfl rfl (vt rfl)) rfl <| Cv rfl (Zp 11 rfl rfl zr3) fun g11 => As rfl <| Zh Zt 11 rfl <| Nl <| sq <| bk <| SR <| Md rfl <| As rfl <| Nl <| Cq rfl h (fun h => ?_) (fun h => ?_)
  ·refine SR <| Ac (Z1e (ps := []) (x := (Vector.replicate 24 Z09)) rfl rfl rfl (by kernel_rfl) Z3n rfl) rfl <| Zh Z0f 7 rfl <| Ab rfl <| Ab rfl <| Nl <| rt ?_
   cases h; exact Zi2 (i := 0) Tryz.results235 rfl (Zz rfl (i := 7) rfl Z0f) (Z4 rfl) (Z4 rfl) rfl
  ·refine SR <| Ld Zt 11 rfl <| Ac (Zn rfl rfl (vt rfl) (vk rfl)) rfl <| As rfl <| Nl <| Cq rfl h (fun h => ?_) (fun h => ?_)
   ·refine sq ?_
    obtain ⟨x12, hx12, h⟩ := Za h
    refine Rg <| Ld Z01 5 rfl <| Cl [33] (Y5t _ _ hx12) e70 rfl <| Zh Z0f 7 rfl <| Ab rfl <| Ab rfl <| Nl <| rt ?_
    cases h; exact Zi2 (i := 0) Tryz.results235 rfl (Zz rfl (i := 7) rfl Z0f) (Z4 rfl) (Z4 rfl) rfl
   ·refine sk <| SR <| Cv rfl (Zp 12 rfl rfl Z3n) fun g13 => Nl <| SR <| Cv rfl (Zp 13 rfl rfl zr4) fun g14 => Cv rfl (Zp 14 rfl rfl zr4) fun g15 => Ac (Z5s rfl rfl ty4 (vt rfl) (i := 13) rfl vb) rfl <| Ac (Z5s rfl rfl ty4 (vt rfl) (i := 14) rfl vb) rfl <| Nl <| sq <| AW.label <| sq <| sq ?_
    obtain ⟨x16, hx16, x17, hx17, h⟩ := bs2 h
    refine AR Zx (by kernel_rfl) <| Zk Z01 5 rfl <| Zk Zrf 6 rfl <| Zk Zt 11 rfl <| Sd (lo [36, 37] [] rfl fun S hs hr => Z0q rfl rfl Z4e (vh hs 36 rfl rfl) (vh hs 37 rfl rfl) hx16) <| SLp Z01 rfl <| SCl [35, 39] (Ygh _ _ _ hx17) Yj2 rfl <| Sn <| bk ?_
    obtain ⟨z22, hz22, h⟩ := Za h
    refine AW.fit (d := []) (L := [(3, Zb g5 (Lens.id (kas (Zb g2 (Lens.id Z24))))), (5, Zb g7 (Lens.id (Z2 (Z1 24 Z3)))), (6, Zb g8 (Lens.id (Z1 24 Zd))), (7, rd Z7 false), (8, rd Z7 false), (10, Zb g11 (Lens.id (Z0 .i64))), (11, Zb g13 (Lens.id (Z1 24 Zd))), (12, Zb g14 (Lens.id Z7)), (13, Zb g15 (Lens.id Z7)), (40, Z4u Tryz.prog (Z1 24 Z3) x17)]) (M := [(4, Ze g5 286 (kas (Zb g2 (Lens.id Z24))) ()), (0, Ze g2 gT Z24 { s1 with purse := b9.2 }), (6, Ze g7 229 (Z2 (Z1 24 Z3)) l4), (7, Ze g8 44 (Z1 24 Zd) (Vector.replicate 24 Z09)), (11, Ze g11 3 (Z0 .i64) x10.2), (12, Ze g13 44 (Z1 24 Zd) (Vector.replicate 24 Z09)), (13, Ze g14 4 Z7 false), (14, Ze g15 4 Z7 true)]) (FX rfl) ?_
    refine AW.rangeFunc (σ := cover_look × Z0j × Bool × Bool) (fun x => [rd (Z1 24 Z3) x]) (fun s x => Z8l l4 x10 R_cover_look_at s.1 s.2.1 s.2.2.1 s.2.2.2 x) (fun s => Z3k ((fun s => [(4, Ze g5 286 (kas (Zb g2 (Lens.id Z24))) ()), (0, Ze g2 gT Z24 s.1), (6, Ze g7 229 (Z2 (Z1 24 Z3)) l4), (7, Ze g8 44 (Z1 24 Zd) (Vector.replicate 24 Z09)), (11, Ze g11 3 (Z0 .i64) x10.2), (12, Ze g13 44 (Z1 24 Zd) s.2.1), (13, Ze g14 4 Z7 s.2.2.1), (14, Ze g15 4 Z7 s.2.2.2)]) s)) (fun _ s => Z3k ((fun s => [(4, Ze g5 286 (kas (Zb g2 (Lens.id Z24))) ()), (0, Ze g2 gT Z24 s.1), (6, Ze g7 229 (Z2 (Z1 24 Z3)) l4), (7, Ze g8 44 (Z1 24 Zd) (Vector.replicate 24 Z09)), (11, Ze g11 3 (Z0 .i64) x10.2), (12, Ze g13 44 (Z1 24 Zd) s.2.1), (13, Ze g14 4 Z7 s.2.2.1), (14, Ze g15 4 Z7 s.2.2.2)]) s)) [(3, Zb g5 (Lens.id (kas (Zb g2 (Lens.id Z24))))), (5, Zb g7 (Lens.id (Z2 (Z1 24 Z3)))), (6, Zb g8 (Lens.id (Z1 24 Zd))), (7, rd Z7 false), (8, rd Z7 false), (10, Zb g11 (Lens.id (Z0 .i64))), (11, Zb g13 (Lens.id (Z1 24 Zd))), (12, Zb g14 (Lens.id Z7)), (13, Zb g15 (Lens.id Z7))] (fun s x23 S1 => ∃ (g24 : Nat), Fit S1 [] [(3, Zb g5 (Lens.id (kas (Zb g2 (Lens.id Z24))))), (5, Zb g7 (Lens.id (Z2 (Z1 24 Z3)))), (6, Zb g8 (Lens.id (Z1 24 Zd))), (7, rd Z7 false), (8, rd Z7 false), (10, Zb g11 (Lens.id (Z0 .i64))), (11, Zb g13 (Lens.id (Z1 24 Zd))), (12, Zb g14 (Lens.id Z7)), (13, Zb g15 (Lens.id Z7)), (14, Zb g24 (Lens.id (Z1 24 Z3)))] [(4, Ze g5 286 (kas (Zb g2 (Lens.id Z24))) ()), (0, Ze g2 gT Z24 s.1), (6, Ze g7 229 (Z2 (Z1 24 Z3)) l4), (7, Ze g8 44 (Z1 24 Zd) (Vector.replicate 24 Z09)), (11, Ze g11 3 (Z0 .i64) x10.2), (12, Ze g13 44 (Z1 24 Zd) s.2.1), (13, Ze g14 4 Z7 s.2.2.1), (14, Ze g15 4 Z7 s.2.2.2), (15, Ze g24 87 (Z1 24 Z3) x23)]) 3001 (s0 := ({ s1 with purse := b9.2 }, (Vector.replicate 24 Z09), false, true)) (sE := z22) rfl (vt rfl) ⟨rfl, inferInstance, rfl, inferInstance, rfl, inferInstance, rfl, inferInstance, rfl, inferInstance, rfl, inferInstance, rfl, inferInstance, rfl, inferInstance, rfl, inferInstance, trivial⟩ rfl (fun _ => rfl) (by intro p hp; have hp : p ∈ [41] := hp; rw [List.mem_singleton.1 hp]; show 41 < 61; decide) ?ha1 ?hb1 (fun Lf => ⟨top, _, _, Lf, _, _, hz22, rfl, rfl, rfl, rfl⟩) ?he1
    case ha1 =>
     rintro ⟨b18, b19, b20, b21⟩ x23 r hF l w H X
     refine Rg <| Cv rfl (Zp 15 rfl rfl Z13) fun g24 => Zh Z01 15 rfl <| Nl ?_
     exact ⟨rfl, g24, FX rfl⟩
    case hb1 =>
     rintro ⟨b18, b19, b20, b21⟩ x23 r h S1 ⟨g24, hfit⟩ l w H X
     refine AW.fit (d := []) (L := [(3, Zb g5 (Lens.id (kas (Zb g2 (Lens.id Z24))))), (5, Zb g7 (Lens.id (Z2 (Z1 24 Z3)))), (6, Zb g8 (Lens.id (Z1 24 Zd))), (7, rd Z7 false), (8, rd Z7 false), (10, Zb g11 (Lens.id (Z0 .i64))), (11, Zb g13 (Lens.id (Z1 24 Zd))), (12, Zb g14 (Lens.id Z7)), (13, Zb g15 (Lens.id Z7)), (14, Zb g24 (Lens.id (Z1 24 Z3)))]) (M := [(4, Ze g5 286 (kas (Zb g2 (Lens.id Z24))) ()), (0, Ze g2 gT Z24 b18), (6, Ze g7 229 (Z2 (Z1 24 Z3)) l4), (7, Ze g8 44 (Z1 24 Zd) (Vector.replicate 24 Z09)), (11, Ze g11 3 (Z0 .i64) x10.2), (12, Ze g13 44 (Z1 24 Zd) b19), (13, Ze g14 4 Z7 b20), (14, Ze g15 4 Z7 b21), (15, Ze g24 87 (Z1 24 Z3) x23)]) hfit <| AW.bodyT ?_
     change Z8l l4 x10 R_cover_look_at b18 b19 b20 b21 x23 = some r at h
     unfold Z8l at h
     refine bk <| sq ?_
     obtain ⟨s25, hs25, b26, hb26, h⟩ := bs2 h
     refine AR Zx (by kernel_rfl) <| Sd (lo [3] [4] rfl fun S hs hr => Zxp (A := Zb g2 (Lens.id Z24)) rfl rfl rfl (Zwd _) (vh hs 3 rfl rfl) (i := 4) ((hr 4 rfl).trans rfl)) <| Zk Z01 15 rfl <| Zk Zrf 6 rfl <| Zk Zt 11 rfl <| Sd (lo [46] [] rfl fun S hs hr => Z06 rfl rfl (vh hs 46 rfl rfl) (vk rfl)) <| Sd (lo [45, 47] [] rfl fun S hs hr => Y0k hs25 rfl rfl Z4e (vh hs 45 rfl rfl) (vh hs 47 rfl rfl)) <| Sd (Z11 (us := [(49, Z3m (rd (Z1 24 Zd) b26.1) (rd Z7 b26.2.1) (rd Z7 b26.2.2.1))]) (ur := [(0, Ze g2 gT Z24 b26.2.2.2)]) [43, 44, 48] [0] rfl fun S hs hr => Yde 0 (xs := [.tmp 43, .tmp 44, .tmp 48]) (hR_cover_look_at _ _ _ _ _ _ hb26) Zzs rfl rfl ⟨vt ((hs 43 rfl).trans rfl), vt ((hs 44 rfl).trans rfl), vt ((hs 48 rfl).trans rfl), trivial⟩ ((hr 0 rfl).trans rfl)) <| Sd (lo [49] [] rfl fun S hs hr => Zs (A := Z3m (rd (Z1 24 Zd) b26.1) (rd Z7 b26.2.1) (rd Z7 b26.2.2.1)) rfl rfl (vh hs 49 rfl rfl)) <| Sd (lo [42] [] rfl fun S hs hr => Zdy rfl rfl (vh hs 42 rfl rfl)) <| Sd (lo [42] [] rfl fun S hs hr => Zdn rfl rfl (vh hs 42 rfl rfl)) <| Sd (lo [42] [] rfl fun S hs hr => Zdu rfl rfl (vh hs 42 rfl rfl)) <| SSt Z0f 12 rfl <| SSt ty4 13 rfl <| SSt ty4 14 rfl <| Sn <| SR <| Ld ty4 13 rfl <| Md rfl <| Gd rfl (fun hq => Z29 rfl rfl ty4 (vt rfl) (i := 14) rfl) <| Gd rfl (fun hq => Z15 rfl rfl (Zo rfl hq)) <| Ac (Za0 rfl rfl (vt rfl) (vt rfl)) rfl <| Nl <| Cq rfl h (fun h => ?_) (fun h => ?_)
     ·refine xt ?_
      obtain rfl := si h
      exact ⟨_, (b26.2.2.2, b26.1, b26.2.1, b26.2.2.1), Turn.refl, rfl, ⟨rfl, rfl, rfl, rfl, rfl, rfl, rfl, rfl, trivial⟩⟩
     ·refine sk ?_
      obtain rfl := si h
      exact ⟨_, (b26.2.2.2, b26.1, b26.2.1, b26.2.2.1), Turn.refl, rfl, ⟨rfl, rfl, rfl, rfl, rfl, rfl, rfl, rfl, trivial⟩⟩
    case he1 =>
     intro D
     cases z22 with
     | go s27 =>
      change _ = some r at h
      refine sq <| AR Zx (by kernel_rfl) <| Zk Z0f 12 rfl <| Zk ty4 13 rfl <| Zk ty4 14 rfl <| SSt Z0f 7 rfl <| SAs rfl <| SAs rfl <| Sn <| rt ?_
      cases h; exact ⟨rfl, 3001, _, rfl, Zi2 (i := 0) Tryz.results235 rfl (Zz rfl (i := 7) rfl Z0f) (Z4 rfl) (Z4 rfl) rfl⟩
     | out c s27 =>
      change (bif Zn5 1 c then _ else _) = some r at h
      cases hc : Zn5 1 c with
      | true =>
       rw [hc] at h
       have hc := Yj0 hc
       subst hc
       change _ = some r at h
       refine xt <| sq <| AR Zx (by kernel_rfl) <| Zk Z0f 12 rfl <| Zk ty4 13 rfl <| Zk ty4 14 rfl <| SSt Z0f 7 rfl <| SAs rfl <| SAs rfl <| Sn <| rt ?_
       cases h; exact ⟨rfl, 3001, _, rfl, Zi2 (i := 0) Tryz.results235 rfl (Zz rfl (i := 7) rfl Z0f) (Z4 rfl) (Z4 rfl) rfl⟩
      | false =>
       rw [hc] at h
       cases h
def Z7a : Nat → (cover_look → Z9 → (List Z9) → Option (Z0j × Bool × Bool × cover_look))
 | 0 => (fun _ _ _ => none)
 | n + 1 => (Zly (Z7a n))
theorem Zxh : ∀ n : Nat, (∀ (g2 gT : Nat) (s1 : cover_look) (x3 : Z9) (l4 : (List Z9)) (r : (Z0j × Bool × Bool × cover_look)), (Z7a n) s1 x3 l4 = some r → Con Tryz.prog 235 [Zb g2 (Lens.id Z24), rd (Z1 24 Z3) x3, rd (Z2 (Z1 24 Z3)) l4] (Ze g2 gT Z24 s1) (fun _ : Unit => Z3m (rd (Z1 24 Zd) r.1) (rd Z7 r.2.1) (rd Z7 r.2.2.1)) (fun _ => Ze g2 gT Z24 r.2.2.2))
 | 0 => (by intros; rename_i h; cases h)
 | n + 1 => by
  have ih := Zxh n
  exact (Y5s (Z7a n) ih)
def Zre (s1 : cover_look) (x3 : Z9) (l4 : (List Z9)) : Option (Z0j × Bool × Bool × cover_look) := (Z7a Z0l) s1 x3 l4
theorem Yio : ∀ (g2 gT : Nat) (s1 : cover_look) (x3 : Z9) (l4 : (List Z9)) (r : (Z0j × Bool × Bool × cover_look)), Zre s1 x3 l4 = some r → Con Tryz.prog 235 [Zb g2 (Lens.id Z24), rd (Z1 24 Z3) x3, rd (Z2 (Z1 24 Z3)) l4] (Ze g2 gT Z24 s1) (fun _ : Unit => Z3m (rd (Z1 24 Zd) r.1) (rd Z7 r.2.1) (rd Z7 r.2.2.1)) (fun _ => Ze g2 gT Z24 r.2.2.2) := Zxh Z0l
def Zfz (x1 : Z9) (l2 : (List Z9)) (m3 : Int) : Option (Z0j × Bool × Int) :=
 (Zre (⟨(⟨(Z22 m3 0), (decide (m3 ≥ 1099511627776))⟩ : cover_purse)⟩ : cover_look) x1 l2).bind fun b7 => (bif (!b7.2.2.1) then some ((Vector.replicate 24 Z09), false, 5) else some (b7.1, b7.2.1, 0))
theorem Y20 : Q3 Tryz.prog 170 (rd (Z1 24 Z3)) (rd (Z2 (Z1 24 Z3))) (rd (Z0 .i64)) (fun r => Z3m (rd (Z1 24 Zd) r.1) (rd Z7 r.2.1) (rd (Z0 .i64) r.2.2)) Zfz := fun x1 l2 m3 r h => I0 Tryz.func170 rfl Tryz.ntmps170 rfl fun w H => by
 unfold Zfz at h
 refine SR <| Cv rfl (Zl 4 rfl rfl (vt rfl)) fun g4 => Cv rfl (Zp 7 rfl rfl Z3n) fun g5 => Ab rfl <| Ak rfl <| Nl <| SR <| Md rfl <| Ac (Zgm rfl rfl (vt rfl) (vk rfl)) rfl <| Md rfl <| Ac (Z4z rfl rfl (vt rfl) (vk rfl)) rfl <| Ac (opb (⟨(Z22 m3 0), (decide (m3 ≥ 1099511627776))⟩ : cover_purse) Y90 rfl Yfg (pc Yc7 (vt rfl) <| pc Yie (vt rfl) <| pn rfl)) rfl <| Ac (opb (⟨(⟨(Z22 m3 0), (decide (m3 ≥ 1099511627776))⟩ : cover_purse)⟩ : cover_look) Y9y rfl Yct (pc Yjt (vt rfl) <| pn rfl)) rfl <| Cv rfl (Zl 20 rfl rfl (vt rfl)) fun g6 => Ac (Zy (A := Zb g6 (Lens.id Z24)) rfl rfl (vt rfl)) rfl <| Nl <| sq ?_
 obtain ⟨b7, hb7, h⟩ := Za h
 refine Rg <| Mp rfl <| Ld Z01 4 rfl <| Md rfl <| Cv rfl (Z1b 20 (xs := [.tmp 21, .tmp 22, .tmp 23]) (Yio _ _ _ _ _ _ hb7) Zzs rfl rfl ⟨vt rfl, vt rfl, vt rfl, trivial⟩ rfl) fun _u => Ac (Zs (A := Z3m (rd (Z1 24 Zd) b7.1) (rd Z7 b7.2.1) (rd Z7 b7.2.2.1)) rfl rfl (vt rfl)) rfl <| Ac (Zdy rfl rfl (vt rfl)) rfl <| Ac (Zdn rfl rfl (vt rfl)) rfl <| Ac (Zdu rfl rfl (vt rfl)) rfl <| Cv rfl (Zp 11 rfl rfl Z3n) fun g8 => Zh Z0f 11 rfl <| As rfl <| As rfl <| Nl <| sq <| SR <| Md rfl <| Ac (Z15 rfl rfl (vt rfl)) rfl <| Nl <| Cq rfl h (fun h => ?_) (fun h => ?_)
 ·refine SR <| Ac (Z1e (ps := []) (x := (Vector.replicate 24 Z09)) rfl rfl rfl (by kernel_rfl) Z3n rfl) rfl <| Zh Z0f 7 rfl <| Ab rfl <| Ak rfl <| Nl <| rt ?_
  cases h; exact Zdc Tryz.results170 rfl (Zz rfl (i := 7) rfl Z0f) (Z4 rfl) (Z4 rfl)
 ·refine sk <| SR <| Ld Z0f 11 rfl <| Md rfl <| Zh Z0f 7 rfl <| As rfl <| Ak rfl <| Nl <| rt ?_
  cases h; exact Zdc Tryz.results170 rfl (Zz rfl (i := 7) rfl Z0f) (Z4 rfl) (Z4 rfl)
def Zow (s : List Rule) : Option (List Rule) := Z0u [] s
theorem Yfm (s : List Rule) (r : List Rule) (h : Zow s = some r) : Con Tryz.prog 240 [rd (Z2 Z00) s] emp (fun v => Zi v) (fun v => Zc v 90 Z00 r) := by
 refine Con.intro0 Tryz.func240 rfl Tryz.ntmps240 rfl fun w H => ?_
 unfold Zow at h
 refine AW.newnil 1001 90 Z00 <| SR <| Ac (Zy (A := Zi (.slice none 0 0)) rfl rfl vc) rfl <| Nl <| sq <| SR <| Md rfl <| Ct rfl (Zlj rfl rfl Z30 (vt rfl)) ?_
 rintro _ ⟨b, hb, rfl⟩
 refine Nl <| Cn rfl (fun hc => ?_) (fun hc => ?_)
 ·obtain rfl := hb hc
  refine SR <| Ac (Zy (A := Zi (.slice none 0 0)) rfl rfl vc) rfl <| Nl <| rt ?_
  obtain rfl := (Zbs h).2
  exact Z53 (i := 1001) Tryz.results240 rfl rfl rfl
 ·refine sk <| SR <| Cv rfl (Z57 1002 (ps := []) (l := []) rfl rfl Z30 Z4n rfl rfl rfl rfl) fun v1 => Md rfl <| Cv rfl (Z2m 1002 h rfl rfl Zj2 (vt rfl) rfl (vt rfl)) fun v2 => Aw rfl <| Nl <| rt ?_
  exact Z53 (i := 1002) Tryz.results240 rfl rfl rfl
def Zat : Nat → Nat → (List Rule) → Option (List Rule)
 | 0, i6, l5 => some l5
 | m7 + 1, i6, l5 => (lget l5 (i6 : Int)).bind fun x8 => (Zc0 x8.Atoms).bind fun x9 => (lget l5 (i6 : Int)).bind fun x10 => (Zat m7) (i6 + 1) (List.set l5 (i6 : Int).toNat { x10 with Atoms := x9 })
def Ziw (l1 : (List Rule)) : Option (List Rule) :=
 (Zow l1).bind fun x2 => Zat ((x2.length : Int) : Int).toNat 0 x2
theorem Y8i : Q1 Tryz.prog 179 (rd (Z2 Z00)) (rd (Z2 Z00)) Ziw := fun l1 r h => I0 Tryz.func179 rfl Tryz.ntmps179 rfl fun w H => by
 unfold Ziw at h
 refine SR <| Ac (Zy (A := rd (Z2 Z00) []) rfl rfl Z1p) rfl <| Nl <| sq ?_
 obtain ⟨x2, hx2, h⟩ := Za h
 refine Rg <| Md rfl <| Cv rfl (Z1b 1001 (xs := [.tmp 5]) (Yfm _ _ hx2) Yhc rfl rfl ⟨vt rfl, trivial⟩ rfl) fun v3 => Aw rfl <| Nl <| sq <| SR <| Mw rfl <| Ac (Z6q 1001 rfl rfl Z30 (vt rfl) rfl) rfl <| Mk rfl <| Nl <| bk <| LG (d := []) (ν := Nat × Nat × (List Rule)) (fun (m7, i6, l5) => (Cnt (x2.length : Int) i6 m7 ∧ Zat m7 i6 l5 = some r, m7, [(3, Zi v3), (8, rd (Z0 .i64) (x2.length : Int)), (9, rd (Z0 .i64) (i6 : Int))], [(1001, Zc v3 90 Z00 l5)])) (((x2.length : Int) : Int).toNat, 0, x2) ⟨Cnt.start _, h⟩ (FX rfl) ?_
 rintro ⟨m7, i6, l5⟩ ⟨hsf1, h⟩
 dsimp only at hsf1 h ⊢
 cases m7 with
 | zero =>
  unfold Zat at h
  refine SR <| Ac (Zn rfl rfl (vt rfl) (vt rfl)) rfl <| Nl <| sq <| Cn rfl (fun hc => absurd (of_decide_eq_true hc) hsf1.zero) (fun hc => ?_)
  refine xt <| SR <| Mw rfl <| Aw rfl <| Nl <| AW.freezes [2, 3, 23] 1001 rfl ⟨rfl, rfl, rfl, trivial⟩ rfl <| rt ?_
  cases h; exact Zg Tryz.results179 rfl (Z4 rfl)
 | succ m7 =>
  unfold Zat at h
  refine SR <| Ac (Zn rfl rfl (vt rfl) (vt rfl)) rfl <| Nl <| sq <| Cn rfl (fun hc => ?_) (fun hc => absurd hsf1.succ (of_decide_eq_false hc))
  have hlti6 := of_decide_eq_true hc
  refine sk <| sq <| bk <| SR <| Md rfl <| As rfl <| Nl ?_
  obtain ⟨x8, hx8, x9, hx9, x10, hx10, h⟩ := bs3 h
  refine Rg <| Mw rfl <| Md rfl <| Mw rfl <| Md rfl <| Ac (Z21 1001 rfl rfl Z30 (vt rfl) rfl (vt rfl) hx8) rfl <| Ac (Zbq lRule_1 rfl rfl Zr3 (vt rfl)) rfl <| Ac (Z1i 1001 rfl rfl Zaf (vt rfl) rfl (Z0e hx8).2) rfl <| Cl [18] (Zzd _ _ hx9) Zyy rfl <| Ac (Z21 1001 rfl rfl Z30 (vt rfl) rfl (vt rfl) hx10) rfl <| Ac (Zbq lRule_1 rfl rfl Zr3 (vt rfl)) rfl <| Ac (Z2o 1001 rfl rfl Zaf (vt rfl) rfl (Z0e hx10).2 (vt rfl)) rfl <| Nl <| Rg <| Ac (Z23 (t := 8) rfl rfl (vt rfl) (vk rfl) (vt rfl) hlti6) rfl <| Md rfl <| Nl ?_
  exact ⟨(_, _, _), Nat.lt_succ_self _, ⟨hsf1.next, h⟩, FX rfl⟩
def Z8u (m2 : Int) : (List Rule) → Nat → (List Rule) → (List Z9) → Option ((List Rule) × Int)
 | [], i11, l7, l9 => (Ziw l7).bind fun x13 => some (x13, 0)
 | x14 :: l12, i11, l7, l9 => (Zfz x14.Cube l9 m2).bind fun x16 => (bif (decide (x16.2.2 ≠ 0)) then some ([], x16.2.2) else (bif (!x16.2.1) then (Z8u m2 l12) (i11 + 1) l7 l9 else (Z0u l7 [x14]).bind fun l18 => (Z0u l9 [x14.Cube]).bind fun l20 => (Z8u m2 l12) (i11 + 1) l18 l20))
def Zon (l1 : (List Rule)) (m2 : Int) : Option ((List Rule) × Int) :=
 Z8u m2 l1 0 [] []
theorem Y8h : Q2 Tryz.prog 111 (rd (Z2 Z00)) (rd (Z0 .i64)) (fun r => Z19 (rd (Z2 Z00) r.1) (rd (Z0 .i64) r.2)) Zon := fun l1 m2 r h => I0 Tryz.func111 rfl Tryz.ntmps111 rfl fun w H => by
 unfold Zon at h
 refine SR <| Ac (Zy (A := rd (Z2 Z00) []) rfl rfl Z1p) rfl <| Ak rfl <| Nl <| AW.scope <| sq <| AW.newnil 1001 90 Z00 <| Rg <| Ac (Zy rfl rfl vc) rfl <| Nl <| sq <| AW.newnil 1002 87 (Z1 24 Z3) <| Rg <| Ac (Zy rfl rfl vc) rfl <| Nl <| sq <| AW.label <| sq <| SR <| Md rfl <| Ac (Z0x rfl rfl Z30 (vt rfl)) rfl <| Mk rfl <| Nl <| bk <| LG (d := []) (ν := (List Rule) × Nat × (List Rule) × (List Z9) × Value × Value) (fun (l12, i11, l7, l9, v8, v10) => (Sfx l1 i11 l12 ∧ Z8u m2 l12 i11 l7 l9 = some r, l12.length, [(1, rd (Z0 .i64) m2), (6, Zi v8), (7, Zi v10), (13, rd (Z2 Z00) l1), (14, rd (Z0 .i64) (l1.length : Int)), (15, rd (Z0 .i64) (i11 : Int))], [(1001, Zc v8 90 Z00 l7), (1002, Zc v10 87 (Z1 24 Z3) l9)])) (l1, 0, [], [], (.slice none 0 0), (.slice none 0 0)) ⟨Sfx.start _, h⟩ (FX rfl) ?_
 rintro ⟨l12, i11, l7, l9, v8, v10⟩ ⟨hsf1, h⟩
 dsimp only at hsf1 h ⊢
 cases l12 with
 | nil =>
  unfold Z8u at h
  refine SR <| Ac (Zn rfl rfl (vt rfl) (vt rfl)) rfl <| Nl <| sq <| Cn rfl (fun hc => absurd (of_decide_eq_true hc) hsf1.nil) (fun hc => ?_)
  refine xt <| sq <| AW.freezes [6] 1001 rfl ⟨rfl, trivial⟩ rfl ?_
  obtain ⟨x13, hx13, h⟩ := Za h
  refine Rg <| Md rfl <| Cl [45] (Y8i _ _ hx13) Ybn rfl <| As rfl <| Ak rfl <| Nl <| rt ?_
  cases h; exact Z25 Tryz.results111 rfl (Z4 rfl) (Z4 rfl)
 | cons x14 l12 =>
  unfold Z8u at h
  refine SR <| Ac (Zn rfl rfl (vt rfl) (vt rfl)) rfl <| Nl <| sq <| Cn rfl (fun hc => ?_) (fun hc => absurd hsf1.cons (of_decide_eq_false hc))
  have hlti11 := of_decide_eq_true hc
  refine sk <| sq <| bk <| SR <| Ac (Z0q rfl rfl Z30 (vt rfl) (vt rfl) hsf1.lget) rfl <| Lp1 Z8d rfl <| Cv rfl (Zp 10 rfl rfl Z4n) fun g15 => Zh Z8d 10 rfl <| Nl <| sq ?_
  obtain ⟨x16, hx16, h⟩ := Za h
  refine Rg <| Zj lRule_0 Zfh rfl <| Ld Z01 10 rfl <| Mw rfl <| Md rfl <| Ac (Zsy (xs := [.tmp 21, .tmp 22, .tmp 23]) 1002 (Y20 _ _ _ _ hx16) Y3i rfl rfl ⟨vB (vt rfl), vL rfl rfl, vB (vt rfl), trivial⟩) rfl <| Ac (Zs (A := Z3m (rd (Z1 24 Zd) x16.1) (rd Z7 x16.2.1) (rd (Z0 .i64) x16.2.2)) rfl rfl (vt rfl)) rfl <| Ac (Zdy rfl rfl (vt rfl)) rfl <| Ac (Zdn rfl rfl (vt rfl)) rfl <| Ac (Zdu rfl rfl (vt rfl)) rfl <| Cv rfl (Zp 11 rfl rfl Z3n) fun g17 => Zh Z0f 11 rfl <| As rfl <| As rfl <| Nl <| sq <| bk <| SR <| Md rfl <| Ac (Zbr rfl rfl (vt rfl) (vk rfl)) rfl <| As rfl <| Nl <| Cq rfl h (fun h => ?_) (fun h => ?_)
  ·refine SR <| Md rfl <| Ac (Zy (A := rd (Z2 Z00) []) rfl rfl Z1p) rfl <| As rfl <| Nl <| rt ?_
   cases h; exact Z25 Tryz.results111 rfl (Z4 rfl) (Z4 rfl)
  ·refine SR <| Md rfl <| Ac (Z15 rfl rfl (vt rfl)) rfl <| As rfl <| Nl <| Cq rfl h (fun h => ?_) (fun h => ?_)
   ·refine xt <| Rg <| Ac (Z23 (t := 14) rfl rfl (vt rfl) (vk rfl) (vt rfl) hlti11) rfl <| Md rfl <| Nl ?_
    exact ⟨(_, _, _, _, _, _), Nat.lt_succ_self _, ⟨hsf1.next, h⟩, FX rfl⟩
   ·refine sk ?_
    obtain ⟨l18, hl18, l20, hl20, h⟩ := bs2 h
    refine AR Zx (by kernel_rfl) <| SMw rfl <| Zk Z8d 10 rfl <| Sd (lo [36] [] rfl fun S hs hr => osl Z30 Z4n rfl (vh hs 36 rfl rfl)) <| Sd (Z11 (us := [(38, Z1v 90 Z00 l18)]) (ur := [(1001, emp)]) [35, 37] [1001] rfl fun S hs hr => Z78 1001 hl18 rfl rfl rfl Zj2 (vh hs 35 rfl rfl) ((hr 1001 rfl).trans rfl) (vh hs 37 rfl rfl)) <| SMw rfl <| SFd lRule_0 Zfh rfl <| Zk Z01 10 rfl <| Sd (lo [41] [] rfl fun S hs hr => osl Z4e Z13 rfl (vh hs 41 rfl rfl)) <| Sd (Z11 (us := [(43, Z1v 87 (Z1 24 Z3) l20)]) (ur := [(1002, emp)]) [39, 42] [1002] rfl fun S hs hr => Z78 1002 hl20 rfl rfl rfl Zp3 (vh hs 39 rfl rfl) ((hr 1002 rfl).trans rfl) (vh hs 42 rfl rfl)) <| Sd (Z11 (us := [(38, top), (6, Z1v 90 Z00 l18)]) (ur := []) [38] [1003] rfl fun S hs hr => Ziu 1003 rfl rfl rfl rfl ((hs 38 rfl).trans rfl) ((hr 1003 rfl).trans rfl)) <| Sd (Z11 (us := [(43, top), (7, Z1v 87 (Z1 24 Z3) l20)]) (ur := []) [43] [1004] rfl fun S hs hr => Ziu 1004 rfl rfl rfl rfl ((hs 43 rfl).trans rfl) ((hr 1004 rfl).trans rfl)) <| Sn <| AW.unpackR 6 1001 rfl rfl fun v19 => AW.unpackR 7 1002 rfl rfl fun v21 => Rg <| Ac (Z23 (t := 14) rfl rfl (vt rfl) (vk rfl) (vt rfl) hlti11) rfl <| Md rfl <| Nl ?_
    exact ⟨(_, _, _, _, _, _), Nat.lt_succ_self _, ⟨hsf1.next, h⟩, FX rfl⟩
def Zit (x1 : Group) (x2 : Int) : Option Bool :=
 some (decide (x1.ID = x2))
theorem Ygi : Q2 Tryz.prog 288 (rd Z0d) (rp (Z0 .i64)) (rd Z7) Zit := fun x1 x2 r h => I0 Tryz.func288 rfl Tryz.ntmps288 rfl fun w H => by
 unfold Zit at h
 refine SR <| Cv rfl (Zl 3 rfl rfl (vt rfl)) fun g3 => Ab rfl <| Nl <| SR <| Zj Zsx Y3l rfl <| Ld Zt 3 rfl <| Lp1 Zt rfl <| Ac (Z0m rfl rfl (vt rfl) (vt rfl)) rfl <| As rfl <| Nl <| rt ?_
 cases h; exact Zg Tryz.results288 rfl (Z4 rfl)
def Zns (l1 : (List Group)) (i2 : Int) : Option Int :=
 (Zh1 l1 (fun x => Zit x i2)).bind fun x4 => some x4
theorem Ymd : Q2 Tryz.prog 241 (rd (Z2 Z0d)) (rd (Z0 .i64)) (rd (Z0 .i64)) Zns := fun l1 i2 r h => I0 Tryz.func241 rfl Tryz.ntmps241 rfl fun w H => by
 unfold Zns at h
 refine SR <| Cv rfl (Zl 4 rfl rfl (vt rfl)) fun g3 => Ak rfl <| Nl <| sq <| AW.freezeB 3 4 rfl rfl rfl ?_
 obtain ⟨x4, hx4, h⟩ := Za h
 refine Rg <| Md rfl <| Ac (Z8k (cs := [.tmp 3]) (CAs := [rp (Z0 .i64) i2]) (fun x => Zit x i2) rfl rfl Yh5 ⟨vt rfl, trivial⟩ (fun x y h => Ygi _ _ y h)) rfl <| Cl [5, 6] (Y3j _ _ _ hx4) Y15 rfl <| As rfl <| Nl <| rt ?_
 cases h; exact Zg Tryz.results241 rfl (Z4 rfl)
end Go.Proofs.YtknpgojdkobgjaaGreat.W
set_option maxRecDepth 4000
namespace Go.Proofs.YtknpgojdkobgjaaGreat.W
open Go Go.Wb
theorem Yj4 : Ent Tryz.prog 328 := Ent.mk Tryz.func328 rfl rfl
theorem Y9l : Ent Tryz.prog 289 := Ent.mk Tryz.func289 rfl rfl
theorem Yem : Ent Tryz.prog 290 := Ent.mk Tryz.func290 rfl rfl
theorem Y7a : Ent Tryz.prog 241 := Ent.mk Tryz.func241 rfl rfl
theorem Yao : Ent Tryz.prog 242 := Ent.mk Tryz.func242 rfl rfl
theorem Zzk : Ent Tryz.prog 180 := Ent.mk Tryz.func180 rfl rfl
theorem Yll : Ent Tryz.prog 111 := Ent.mk Tryz.func111 rfl rfl
theorem Yky : Ent Tryz.prog 112 := Ent.mk Tryz.func112 rfl rfl
def Zog (s : List Group) : Option (List Group) := Z0u [] s
theorem Yia (s : List Group) (r : List Group) (h : Zog s = some r) : Con Tryz.prog 289 [rd (Z2 Z0d) s] emp (fun v => Zi v) (fun v => Zc v 164 Z0d r) := by
 refine Con.intro0 Tryz.func289 rfl Tryz.ntmps289 rfl fun w H => ?_
 unfold Zog at h
 refine AW.newnil 1001 164 Z0d <| SR <| Ac (Zy (A := Zi (.slice none 0 0)) rfl rfl vc) rfl <| Nl <| sq <| SR <| Md rfl <| Ct rfl (Zlj rfl rfl Z5y (vt rfl)) ?_
 rintro _ ⟨b, hb, rfl⟩
 refine Nl <| Cn rfl (fun hc => ?_) (fun hc => ?_)
 ·obtain rfl := hb hc
  refine SR <| Ac (Zy (A := Zi (.slice none 0 0)) rfl rfl vc) rfl <| Nl <| rt ?_
  obtain rfl := (Zbs h).2
  exact Z53 (i := 1001) Tryz.results289 rfl rfl rfl
 ·refine sk <| SR <| Cv rfl (Z57 1002 (ps := []) (l := []) rfl rfl Z5y Zck rfl rfl rfl rfl) fun v1 => Md rfl <| Cv rfl (Z2m 1002 h rfl rfl Y4d (vt rfl) rfl (vt rfl)) fun v2 => Aw rfl <| Nl <| rt ?_
  exact Z53 (i := 1002) Tryz.results289 rfl rfl rfl
def Zm4 (s : List Bucket) : Option (List Bucket) := Z0u [] s
theorem Y83 (s : List Bucket) (r : List Bucket) (h : Zm4 s = some r) : Con Tryz.prog 328 [rd (Z2 Z26) s] emp (fun v => Zi v) (fun v => Zc v 226 Z26 r) := by
 refine Con.intro0 Tryz.func328 rfl Tryz.ntmps328 rfl fun w H => ?_
 unfold Zm4 at h
 refine AW.newnil 1001 226 Z26 <| SR <| Ac (Zy (A := Zi (.slice none 0 0)) rfl rfl vc) rfl <| Nl <| sq <| SR <| Md rfl <| Ct rfl (Zlj rfl rfl Z72 (vt rfl)) ?_
 rintro _ ⟨b, hb, rfl⟩
 refine Nl <| Cn rfl (fun hc => ?_) (fun hc => ?_)
 ·obtain rfl := hb hc
  refine SR <| Ac (Zy (A := Zi (.slice none 0 0)) rfl rfl vc) rfl <| Nl <| rt ?_
  obtain rfl := (Zbs h).2
  exact Z53 (i := 1001) Tryz.results328 rfl rfl rfl
 ·refine sk <| SR <| Cv rfl (Z57 1002 (ps := []) (l := []) rfl rfl Z72 Ygd rfl rfl rfl rfl) fun v1 => Md rfl <| Cv rfl (Z2m 1002 h rfl rfl Yhk (vt rfl) rfl (vt rfl)) fun v2 => Aw rfl <| Nl <| rt ?_
  exact Z53 (i := 1002) Tryz.results328 rfl rfl rfl
def Za5 : Nat → Nat → (List Bucket) → Option (List Bucket)
 | 0, i6, l5 => some l5
 | m7 + 1, i6, l5 => (lget l5 (i6 : Int)).bind fun x8 => (Z6w x8.Acts).bind fun x9 => (lget l5 (i6 : Int)).bind fun x10 => (Za5 m7) (i6 + 1) (List.set l5 (i6 : Int).toNat { x10 with Acts := x9 })
def Zja (l1 : (List Bucket)) : Option (List Bucket) :=
 (Zm4 l1).bind fun x2 => Za5 ((x2.length : Int) : Int).toNat 0 x2
theorem Yje : Q1 Tryz.prog 290 (rd (Z2 Z26)) (rd (Z2 Z26)) Zja := fun l1 r h => I0 Tryz.func290 rfl Tryz.ntmps290 rfl fun w H => by
 unfold Zja at h
 refine SR <| Ac (Zy (A := rd (Z2 Z26) []) rfl rfl Z1p) rfl <| Nl <| sq ?_
 obtain ⟨x2, hx2, h⟩ := Za h
 refine Rg <| Md rfl <| Cv rfl (Z1b 1001 (xs := [.tmp 5]) (Y83 _ _ hx2) Yj4 rfl rfl ⟨vt rfl, trivial⟩ rfl) fun v3 => Aw rfl <| Nl <| sq <| SR <| Mw rfl <| Ac (Z6q 1001 rfl rfl Z72 (vt rfl) rfl) rfl <| Mk rfl <| Nl <| bk <| LG (d := []) (ν := Nat × Nat × (List Bucket)) (fun (m7, i6, l5) => (Cnt (x2.length : Int) i6 m7 ∧ Za5 m7 i6 l5 = some r, m7, [(3, Zi v3), (8, rd (Z0 .i64) (x2.length : Int)), (9, rd (Z0 .i64) (i6 : Int))], [(1001, Zc v3 226 Z26 l5)])) (((x2.length : Int) : Int).toNat, 0, x2) ⟨Cnt.start _, h⟩ (FX rfl) ?_
 rintro ⟨m7, i6, l5⟩ ⟨hsf1, h⟩
 dsimp only at hsf1 h ⊢
 cases m7 with
 | zero =>
  unfold Za5 at h
  refine SR <| Ac (Zn rfl rfl (vt rfl) (vt rfl)) rfl <| Nl <| sq <| Cn rfl (fun hc => absurd (of_decide_eq_true hc) hsf1.zero) (fun hc => ?_)
  refine xt <| SR <| Mw rfl <| Aw rfl <| Nl <| AW.freezes [2, 3, 23] 1001 rfl ⟨rfl, rfl, rfl, trivial⟩ rfl <| rt ?_
  cases h; exact Zg Tryz.results290 rfl (Z4 rfl)
 | succ m7 =>
  unfold Za5 at h
  refine SR <| Ac (Zn rfl rfl (vt rfl) (vt rfl)) rfl <| Nl <| sq <| Cn rfl (fun hc => ?_) (fun hc => absurd hsf1.succ (of_decide_eq_false hc))
  have hlti6 := of_decide_eq_true hc
  refine sk <| sq <| bk <| SR <| Md rfl <| As rfl <| Nl ?_
  obtain ⟨x8, hx8, x9, hx9, x10, hx10, h⟩ := bs3 h
  refine Rg <| Mw rfl <| Md rfl <| Mw rfl <| Md rfl <| Ac (Z21 1001 rfl rfl Z72 (vt rfl) rfl (vt rfl) hx8) rfl <| Ac (Zbq Zkp rfl rfl Zn1 (vt rfl)) rfl <| Ac (Z1i 1001 rfl rfl Z3q (vt rfl) rfl (Z0e hx8).2) rfl <| Cl [18] (Zyi _ _ hx9) Znp rfl <| Ac (Z21 1001 rfl rfl Z72 (vt rfl) rfl (vt rfl) hx10) rfl <| Ac (Zbq Zkp rfl rfl Zn1 (vt rfl)) rfl <| Ac (Z2o 1001 rfl rfl Z3q (vt rfl) rfl (Z0e hx10).2 (vt rfl)) rfl <| Nl <| Rg <| Ac (Z23 (t := 8) rfl rfl (vt rfl) (vk rfl) (vt rfl) hlti6) rfl <| Md rfl <| Nl ?_
  exact ⟨(_, _, _), Nat.lt_succ_self _, ⟨hsf1.next, h⟩, FX rfl⟩
def Zec : Nat → Nat → (List Group) → Option (List Group)
 | 0, i6, l5 => some l5
 | m7 + 1, i6, l5 => (lget l5 (i6 : Int)).bind fun x8 => (Zja x8.Buckets).bind fun x9 => (lget l5 (i6 : Int)).bind fun x10 => (Zec m7) (i6 + 1) (List.set l5 (i6 : Int).toNat { x10 with Buckets := x9 })
def Zli (l1 : (List Group)) : Option (List Group) :=
 (Zog l1).bind fun x2 => Zec ((x2.length : Int) : Int).toNat 0 x2
theorem Y8w : Q1 Tryz.prog 242 (rd (Z2 Z0d)) (rd (Z2 Z0d)) Zli := fun l1 r h => I0 Tryz.func242 rfl Tryz.ntmps242 rfl fun w H => by
 unfold Zli at h
 refine SR <| Ac (Zy (A := rd (Z2 Z0d) []) rfl rfl Z1p) rfl <| Nl <| sq ?_
 obtain ⟨x2, hx2, h⟩ := Za h
 refine Rg <| Md rfl <| Cv rfl (Z1b 1001 (xs := [.tmp 5]) (Yia _ _ hx2) Y9l rfl rfl ⟨vt rfl, trivial⟩ rfl) fun v3 => Aw rfl <| Nl <| sq <| SR <| Mw rfl <| Ac (Z6q 1001 rfl rfl Z5y (vt rfl) rfl) rfl <| Mk rfl <| Nl <| bk <| LG (d := []) (ν := Nat × Nat × (List Group)) (fun (m7, i6, l5) => (Cnt (x2.length : Int) i6 m7 ∧ Zec m7 i6 l5 = some r, m7, [(3, Zi v3), (8, rd (Z0 .i64) (x2.length : Int)), (9, rd (Z0 .i64) (i6 : Int))], [(1001, Zc v3 164 Z0d l5)])) (((x2.length : Int) : Int).toNat, 0, x2) ⟨Cnt.start _, h⟩ (FX rfl) ?_
 rintro ⟨m7, i6, l5⟩ ⟨hsf1, h⟩
 dsimp only at hsf1 h ⊢
 cases m7 with
 | zero =>
  unfold Zec at h
  refine SR <| Ac (Zn rfl rfl (vt rfl) (vt rfl)) rfl <| Nl <| sq <| Cn rfl (fun hc => absurd (of_decide_eq_true hc) hsf1.zero) (fun hc => ?_)
  refine xt <| SR <| Mw rfl <| Aw rfl <| Nl <| AW.freezes [2, 3, 23] 1001 rfl ⟨rfl, rfl, rfl, trivial⟩ rfl <| rt ?_
  cases h; exact Zg Tryz.results242 rfl (Z4 rfl)
 | succ m7 =>
  unfold Zec at h
  refine SR <| Ac (Zn rfl rfl (vt rfl) (vt rfl)) rfl <| Nl <| sq <| Cn rfl (fun hc => ?_) (fun hc => absurd hsf1.succ (of_decide_eq_false hc))
  have hlti6 := of_decide_eq_true hc
  refine sk <| sq <| bk <| SR <| Md rfl <| As rfl <| Nl ?_
  obtain ⟨x8, hx8, x9, hx9, x10, hx10, h⟩ := bs3 h
  refine Rg <| Mw rfl <| Md rfl <| Mw rfl <| Md rfl <| Ac (Z21 1001 rfl rfl Z5y (vt rfl) rfl (vt rfl) hx8) rfl <| Ac (Zbq Z99 rfl rfl Zb5 (vt rfl)) rfl <| Ac (Z1i 1001 rfl rfl Zbv (vt rfl) rfl (Z0e hx8).2) rfl <| Cl [18] (Yje _ _ hx9) Yem rfl <| Ac (Z21 1001 rfl rfl Z5y (vt rfl) rfl (vt rfl) hx10) rfl <| Ac (Zbq Z99 rfl rfl Zb5 (vt rfl)) rfl <| Ac (Z2o 1001 rfl rfl Zbv (vt rfl) rfl (Z0e hx10).2 (vt rfl)) rfl <| Nl <| Rg <| Ac (Z23 (t := 8) rfl rfl (vt rfl) (vk rfl) (vt rfl) hlti6) rfl <| Md rfl <| Nl ?_
  exact ⟨(_, _, _), Nat.lt_succ_self _, ⟨hsf1.next, h⟩, FX rfl⟩
def Zff (l1 : (List Group)) (i2 : Int) : Option (Group × Bool) :=
 (Zns l1 i2).bind fun x4 => (bif (decide (x4 < 0)) then some ((⟨0, 0, []⟩ : Group), false) else (Zgl l1 x4 (IntKind.i64.wrap (x4 + 1))).bind fun s5 => (Zli s5).bind fun x6 => (lget x6 0).bind fun x7 => some (x7, true))
theorem Y12 : Q2 Tryz.prog 180 (rd (Z2 Z0d)) (rd (Z0 .i64)) (fun r => Z19 (rd Z0d r.1) (rd Z7 r.2)) Zff := fun l1 i2 r h => I0 Tryz.func180 rfl Tryz.ntmps180 rfl fun w H => by
 unfold Zff at h
 refine SR <| Cv rfl (Zp 5 rfl rfl Zck) fun g3 => Ab rfl <| Nl <| sq ?_
 obtain ⟨x4, hx4, h⟩ := Za h
 refine Rg <| Md rfl <| Md rfl <| Cl [7, 8] (Ymd _ _ _ hx4) Y7a rfl <| As rfl <| Nl <| sq <| SR <| Md rfl <| Ac (Zn rfl rfl (vt rfl) (vk rfl)) rfl <| Nl <| Cq rfl h (fun h => ?_) (fun h => ?_)
 ·refine SR <| Ac (opb (⟨0, 0, []⟩ : Group) Zck rfl Yic (pn rfl)) rfl <| Zh Z6i 5 rfl <| Ab rfl <| Nl <| rt ?_
  cases h; exact Z25 Tryz.results180 rfl (Zz rfl (i := 5) rfl Z6i) (Z4 rfl)
 ·refine sk <| sq ?_
  obtain ⟨s5, hs5, x6, hx6, x7, hx7, h⟩ := bs3 h
  refine Rg <| Md rfl <| Md rfl <| Md rfl <| Ac (Z06 rfl rfl (vt rfl) (vk rfl)) rfl <| Ac (Ycq hs5 rfl rfl Z5y (vt rfl) (vt rfl) (vt rfl)) rfl <| Cl [17] (Y8w _ _ hx6) Yao rfl <| Ac (Z0q rfl rfl Z5y (vt rfl) (vk rfl) hx7) rfl <| Lp1 Z6i rfl <| Zh Z6i 5 rfl <| Ab rfl <| Nl <| rt ?_
  cases h; exact Z25 Tryz.results180 rfl (Zz rfl (i := 5) rfl Z6i) (Z4 rfl)
def Zaw (l1 : (List Group)) : (List Group) → Nat → (List Group) → Option (List Group)
 | [], i6, l4 => some l4
 | x8 :: l7, i6, l4 => (Z6r l1 (i6 : Int)).bind fun s10 => (Zff s10 x8.ID).bind fun x11 => (Z0u l4 [x11.1]).bind fun l13 => (Zaw l1 l7) (i6 + 1) l13
def Zjr (l1 : (List Group)) : Option (List Group) :=
 Zaw l1 l1 0 []
theorem Ymc : Q1 Tryz.prog 112 (rd (Z2 Z0d)) (rd (Z2 Z0d)) Zjr := fun l1 r h => I0 Tryz.func112 rfl Tryz.ntmps112 rfl fun w H => by
 unfold Zjr at h
 refine SR <| Ac (Zy (A := rd (Z2 Z0d) []) rfl rfl Z1p) rfl <| Nl <| sq <| AW.newnil 1001 164 Z0d <| Rg <| Ac (Zy rfl rfl vc) rfl <| Nl <| sq <| SR <| Md rfl <| Ac (Z0x rfl rfl Z5y (vt rfl)) rfl <| Mk rfl <| Nl <| bk <| LG (d := []) (ν := (List Group) × Nat × (List Group) × Value) (fun (l7, i6, l4, v5) => (Sfx l1 i6 l7 ∧ Zaw l1 l7 i6 l4 = some r, l7.length, [(0, rd (Z2 Z0d) l1), (3, Zi v5), (8, rd (Z2 Z0d) l1), (9, rd (Z0 .i64) (l1.length : Int)), (10, rd (Z0 .i64) (i6 : Int))], [(1001, Zc v5 164 Z0d l4)])) (l1, 0, [], (.slice none 0 0)) ⟨Sfx.start _, h⟩ (FX rfl) ?_
 rintro ⟨l7, i6, l4, v5⟩ ⟨hsf1, h⟩
 dsimp only at hsf1 h ⊢
 cases l7 with
 | nil =>
  unfold Zaw at h
  refine SR <| Ac (Zn rfl rfl (vt rfl) (vt rfl)) rfl <| Nl <| sq <| Cn rfl (fun hc => absurd (of_decide_eq_true hc) hsf1.nil) (fun hc => ?_)
  refine xt <| SR <| Mw rfl <| Aw rfl <| Nl <| AW.freezes [2, 3, 29] 1001 rfl ⟨rfl, rfl, rfl, trivial⟩ rfl <| rt ?_
  cases h; exact Zg Tryz.results112 rfl (Z4 rfl)
 | cons x8 l7 =>
  unfold Zaw at h
  refine SR <| Ac (Zn rfl rfl (vt rfl) (vt rfl)) rfl <| Nl <| sq <| Cn rfl (fun hc => ?_) (fun hc => absurd hsf1.cons (of_decide_eq_false hc))
  have hlti6 := of_decide_eq_true hc
  refine sk <| sq <| bk <| SR <| Md rfl <| Ac (Z0q rfl rfl Z5y (vt rfl) (vt rfl) hsf1.lget) rfl <| Lp1 Z6i rfl <| Cv rfl (Zp 6 rfl rfl Zck) fun g9 => As rfl <| Zh Z6i 6 rfl <| Nl <| sq ?_
  obtain ⟨s10, hs10, x11, hx11, h⟩ := bs2 h
  refine AR Zx (by kernel_rfl) <| Zq rfl <| Zq rfl <| Sd (lo [16, 17] [] rfl fun S hs hr => Y0k hs10 rfl rfl Z5y (vh hs 16 rfl rfl) (vh hs 17 rfl rfl)) <| SFd Zsx Y3l rfl <| Zk Zt 6 rfl <| SCl [18, 20] (Y12 _ _ _ hx11) Zzk rfl <| Sd (lo [21] [] rfl fun S hs hr => Zs (A := Z19 (rd Z0d x11.1) (rd Z7 x11.2)) rfl rfl (vh hs 21 rfl rfl)) <| Sd (lo [15] [] rfl fun S hs hr => Z1h rfl rfl (vh hs 15 rfl rfl)) <| Sd (lo [15] [] rfl fun S hs hr => Z1f rfl rfl (vh hs 15 rfl rfl)) <| Sd (Z11 (us := [(6, Z2g 164 Z0d Zph)]) (ur := []) [] [] rfl fun S hs hr => Z6b rfl rfl rfl Zck) <| Sd (Z11 (us := [(6, Z2g 164 Z0d x11.1)]) (ur := []) [6, 22] [] rfl fun S hs hr => Z68 rfl rfl Z6i ((hs 6 rfl).trans rfl) (vh hs 22 rfl rfl)) <| SAs rfl <| Sn <| AW.unpackP 6 7 rfl rfl fun g12 => ?_
  obtain ⟨l13, hl13, h⟩ := Za h
  refine Rg <| Mw rfl <| Ld Z6i 7 rfl <| Ac (osl Z5y Zck rfl (vt rfl)) rfl <| Cv rfl (Z2m 1001 hl13 rfl rfl Y4d (vt rfl) rfl (vt rfl)) fun v14 => Aw rfl <| Nl <| Rg <| Ac (Z23 (t := 9) rfl rfl (vt rfl) (vk rfl) (vt rfl) hlti6) rfl <| Md rfl <| Nl ?_
  exact ⟨(_, _, _, _), Nat.lt_succ_self _, ⟨hsf1.next, h⟩, FX rfl⟩
def Ziy (s1 : Switch) (m2 : Int) : Option (Flat × Int) :=
 (Zgq s1).bind fun x5 => (Zon x5 m2).bind fun x6 => (bif (decide (x6.2 ≠ 0)) then some ((⟨[], []⟩ : Flat), x6.2) else (Zjr s1.Groups).bind fun x7 => some ((⟨x6.1, x7⟩ : Flat), 0))
theorem Yla : Q2 Tryz.prog 54 (rd Z0i) (rd (Z0 .i64)) (fun r => Z19 (rd Z91 r.1) (rd (Z0 .i64) r.2)) Ziy := fun s1 m2 r h => I0 Tryz.func54 rfl Tryz.ntmps54 rfl fun w H => by
 unfold Ziy at h
 refine SR <| Cv rfl (Zl 3 rfl rfl (vt rfl)) fun g3 => Cv rfl (Zp 5 rfl rfl Zep) fun g4 => Ak rfl <| Nl <| sq ?_
 obtain ⟨x5, hx5, x6, hx6, h⟩ := bs2 h
 refine Rg <| Ld Z5t 3 rfl <| Cl [9] (Y6b _ _ hx5) e25 rfl <| Md rfl <| Cl [10, 11] (Y8h _ _ _ hx6) Yll rfl <| Mt2 rfl <| Ac (Z1h rfl rfl (vt rfl)) rfl <| Ac (Z1f rfl rfl (vt rfl)) rfl <| As rfl <| As rfl <| Nl <| sq <| SR <| Md rfl <| Ac (Zbr rfl rfl (vt rfl) (vk rfl)) rfl <| Nl <| Cq rfl h (fun h => ?_) (fun h => ?_)
 ·refine SR <| Ac (opb (⟨[], []⟩ : Flat) Zep rfl Zt2 (pn rfl)) rfl <| Md rfl <| Zh Z6y 5 rfl <| As rfl <| Nl <| rt ?_
  cases h; exact Z25 Tryz.results54 rfl (Zz rfl (i := 5) rfl Z6y) (Z4 rfl)
 ·refine sk <| sq ?_
  obtain ⟨x7, hx7, h⟩ := Za h
  refine Rg <| Md rfl <| Zj Zmy Zt7 rfl <| Ld Zh9 3 rfl <| Cl [21] (Ymc _ _ hx7) Yky rfl <| Ac (opb (⟨x6.1, x7⟩ : Flat) Zep rfl Zt2 (pc Y4u (vt rfl) <| pc Ykx (vt rfl) <| pn rfl)) rfl <| Zh Z6y 5 rfl <| Ak rfl <| Nl <| rt ?_
  cases h; exact Z25 Tryz.results54 rfl (Zz rfl (i := 5) rfl Z6y) (Z4 rfl)
def Zj4 : (List Rule) → Nat → (List Z9) → Option (List Z9)
 | [], i6, l5 => some l5
 | x8 :: l7, i6, l5 => (lget l5 (i6 : Int)).bind fun x10 => (Zj4 l7) (i6 + 1) (List.set l5 (i6 : Int).toNat x8.Cube)
def Zrl (l1 : (List Rule)) : Option (List Z9) :=
 (omk (l1.length : Int)).bind fun u2 => Zj4 l1 0 (List.replicate (l1.length : Int).toNat (Vector.replicate 24 zTern))
theorem Yjp : Q1 Tryz.prog 169 (rd (Z2 Z00)) (rd (Z2 (Z1 24 Z3))) Zrl := fun l1 r h => I0 Tryz.func169 rfl Tryz.ntmps169 rfl fun w H => by
 unfold Zrl at h
 refine SR <| Ac (Zy (A := rd (Z2 (Z1 24 Z3)) []) rfl rfl Z1p) rfl <| Nl <| sq ?_
 obtain ⟨u2, hu2, h⟩ := Za h
 refine Rg <| Md rfl <| Ac (Z0x rfl rfl Z30 (vt rfl)) rfl <| Cv rfl (Y5b 1001 hu2 rfl rfl Zp3 Z13 (vt rfl) (vt rfl)) fun v3 => Aw rfl <| Nl <| sq <| SR <| Md rfl <| Ac (Z0x rfl rfl Z30 (vt rfl)) rfl <| Mk rfl <| Nl <| bk <| LG (d := []) (ν := (List Rule) × Nat × (List Z9)) (fun (l7, i6, l5) => (Sfx l1 i6 l7 ∧ Zj4 l7 i6 l5 = some r, l7.length, [(3, Zi v3), (9, rd (Z2 Z00) l1), (10, rd (Z0 .i64) (l1.length : Int)), (11, rd (Z0 .i64) (i6 : Int))], [(1001, Zc v3 87 (Z1 24 Z3) l5)])) (l1, 0, (List.replicate (l1.length : Int).toNat (Vector.replicate 24 zTern))) ⟨Sfx.start _, h⟩ (FX rfl) ?_
 rintro ⟨l7, i6, l5⟩ ⟨hsf1, h⟩
 dsimp only at hsf1 h ⊢
 cases l7 with
 | nil =>
  unfold Zj4 at h
  refine SR <| Ac (Zn rfl rfl (vt rfl) (vt rfl)) rfl <| Nl <| sq <| Cn rfl (fun hc => absurd (of_decide_eq_true hc) hsf1.nil) (fun hc => ?_)
  refine xt <| SR <| Mw rfl <| Aw rfl <| Nl <| AW.freezes [2, 3, 22] 1001 rfl ⟨rfl, rfl, rfl, trivial⟩ rfl <| rt ?_
  cases h; exact Zg Tryz.results169 rfl (Z4 rfl)
 | cons x8 l7 =>
  unfold Zj4 at h
  refine SR <| Ac (Zn rfl rfl (vt rfl) (vt rfl)) rfl <| Nl <| sq <| Cn rfl (fun hc => ?_) (fun hc => absurd hsf1.cons (of_decide_eq_false hc))
  have hlti6 := of_decide_eq_true hc
  refine sk <| sq <| bk <| SR <| Md rfl <| Ac (Z0q rfl rfl Z30 (vt rfl) (vt rfl) hsf1.lget) rfl <| Lp1 Z8d rfl <| Cv rfl (Zp 6 rfl rfl Z4n) fun g9 => As rfl <| Zh Z8d 6 rfl <| Nl ?_
  obtain ⟨x10, hx10, h⟩ := Za h
  refine Rg <| Mw rfl <| Md rfl <| Zj lRule_0 Zfh rfl <| Ld Z01 6 rfl <| Ac (Z21 1001 rfl rfl Z4e (vt rfl) rfl (vt rfl) hx10) rfl <| Ac (Z2o 1001 rfl rfl Z01 (vt rfl) rfl (Z0e hx10).2 (vt rfl)) rfl <| Nl <| Rg <| Ac (Z23 (t := 10) rfl rfl (vt rfl) (vk rfl) (vt rfl) hlti6) rfl <| Md rfl <| Nl ?_
  exact ⟨(_, _, _), Nat.lt_succ_self _, ⟨hsf1.next, h⟩, FX rfl⟩
end Go.Proofs.YtknpgojdkobgjaaGreat.W
set_option maxRecDepth 4000
namespace Go.Proofs.YtknpgojdkobgjaaGreat.W
open Go Go.Wb
theorem Y78 : Ent Tryz.prog 169 := Ent.mk Tryz.func169 rfl rfl
end Go.Proofs.YtknpgojdkobgjaaGreat.W
set_option maxRecDepth 4000
namespace Go.Proofs.YtknpgojdkobgjaaGreat.W
open Go Go.Wb
end Go.Proofs.YtknpgojdkobgjaaGreat.W
set_option maxRecDepth 4000
namespace Go.Proofs.YtknpgojdkobgjaaGreat.W
open Go Go.Wb
theorem e54 : Ent Tryz.prog 54 := Ent.mk Tryz.func54 rfl rfl
end Go.Proofs.YtknpgojdkobgjaaGreat.W
set_option maxRecDepth 4000
namespace Go.Proofs.YtknpgojdkobgjaaGreat.W
open Go Go.Wb
end Go.Proofs.YtknpgojdkobgjaaGreat.W
set_option maxRecDepth 4000
namespace Go.Proofs.YtknpgojdkobgjaaGreat.W
open Go Go.Wb
theorem e48 : Ent Tryz.prog 48 := Ent.mk Tryz.func48 rfl rfl
def Ze9 (s1 : (List Rule)) (x2 : (Rule → Option Bool)) : Nat → Nat → Option Int
 | 0, i3 => some (-1)
 | m4 + 1, i3 => (lget s1 (i3 : Int)).bind fun x5 => (x2 x5).bind fun x6 => (bif x6 then some (i3 : Int) else (Ze9 s1 x2 m4) (i3 + 1))
def Zl1 (s1 : (List Rule)) (x2 : (Rule → Option Bool)) : Option Int :=
 Ze9 s1 x2 ((s1.length : Int) : Int).toNat 0
theorem Ya8 : Q2 Tryz.prog 48 (rd (Z2 Z00)) (fn1 Tryz.prog Z00 Z7) (rd (Z0 .i64)) Zl1 := fun s1 x2 r h => I0 Tryz.func48 rfl Tryz.ntmps48 rfl fun w H => by
 unfold Zl1 at h
 refine SR <| Ak rfl <| Nl <| sq <| SR <| Md rfl <| Ac (Z0x rfl rfl Z30 (vt rfl)) rfl <| Mk rfl <| Nl <| bk <| LG (d := []) (ν := Nat × Nat) (fun (m4, i3) => (Cnt (s1.length : Int) i3 m4 ∧ Ze9 s1 x2 m4 i3 = some r, m4, [(0, rd (Z2 Z00) s1), (1, fn1 Tryz.prog Z00 Z7 x2), (7, rd (Z0 .i64) (s1.length : Int)), (8, rd (Z0 .i64) (i3 : Int))], [])) (((s1.length : Int) : Int).toNat, 0) ⟨Cnt.start _, h⟩ (FX rfl) ?_
 rintro ⟨m4, i3⟩ ⟨hsf1, h⟩
 dsimp only at hsf1 h ⊢
 cases m4 with
 | zero =>
  unfold Ze9 at h
  refine SR <| Ac (Zn rfl rfl (vt rfl) (vt rfl)) rfl <| Nl <| sq <| Cn rfl (fun hc => absurd (of_decide_eq_true hc) hsf1.zero) (fun hc => ?_)
  refine xt <| SR <| Ak rfl <| Nl <| rt ?_
  cases h; exact Zg Tryz.results48 rfl (Z4 rfl)
 | succ m4 =>
  unfold Ze9 at h
  refine SR <| Ac (Zn rfl rfl (vt rfl) (vt rfl)) rfl <| Nl <| sq <| Cn rfl (fun hc => ?_) (fun hc => absurd hsf1.succ (of_decide_eq_false hc))
  have hlti3 := of_decide_eq_true hc
  refine sk <| sq <| bk <| SR <| Md rfl <| As rfl <| Nl <| sq ?_
  obtain ⟨x5, hx5, x6, hx6, h⟩ := bs2 h
  refine Rg <| Ac (Zs (A := fn1 Tryz.prog Z00 Z7 x2) rfl rfl (vt rfl)) rfl <| Md rfl <| Md rfl <| Ac (Z0q rfl rfl Z30 (vt rfl) (vt rfl) hx5) rfl <| Lp1 Z8d rfl <| Ac (Z94 hx6 rfl rfl (vt rfl) (vt rfl)) rfl <| Nl <| Cq rfl h (fun h => ?_) (fun h => ?_)
  ·refine SR <| Md rfl <| As rfl <| Nl <| rt ?_
   cases h; exact Zg Tryz.results48 rfl (Z4 rfl)
  ·refine sk <| Rg <| Ac (Z23 (t := 7) rfl rfl (vt rfl) (vk rfl) (vt rfl) hlti3) rfl <| Md rfl <| Nl ?_
   exact ⟨(_, _), Nat.lt_succ_self _, ⟨hsf1.next, h⟩, FX rfl⟩
def Zms (s1 : Switch) (m2 : Int) : Option Bool :=
 (Zkh s1 3).bind fun x4 => (opt ((x4 == true) && ((decide (m2 ≤ 1024)) == false)) (Zfb s1)).bind fun x5 => some (x4 && ((decide (m2 ≤ 1024)) || (decide (x5 ≤ 4096))))
theorem Yft : Q2 Tryz.prog 61 (rd Z0i) (rd (Z0 .i64)) (rd Z7) Zms := fun s1 m2 r h => I0 Tryz.func61 rfl Tryz.ntmps61 rfl fun w H => by
 unfold Zms at h
 refine SR <| Cv rfl (Zl 3 rfl rfl (vt rfl)) fun g3 => Ab rfl <| Nl <| sq ?_
 obtain ⟨x4, hx4, x5, hx5, h⟩ := bs2 h
 refine Rg <| Ld Z5t 3 rfl <| Ac (Z0r (xs := [.tmp 5, .const (Value.int IntKind.i64 3)]) (Ykj _ _ _ hx4) e21 rfl rfl ⟨vt rfl, vk rfl, trivial⟩) rfl <| Md rfl <| Gd rfl (fun hq => Zs (A := rd (Z0 .i64) m2) rfl rfl (vt rfl)) <| Gd rfl (fun hq => Z6k rfl rfl (Zo rfl hq) (vk rfl)) <| AOps.consG (OpG.guardX rfl rfl rfl rfl rfl fun hq => Zs (A := rd Z7 (decide (m2 ≤ 1024))) rfl rfl (Zo rfl hq)) <| AOps.consG (OpG.guardN rfl rfl rfl rfl rfl fun hq => Z29 rfl rfl Z5t (vt rfl) (i := 3) rfl) <| AOps.consG (OpG.guardN rfl rfl rfl rfl rfl fun hq => Z0r (xs := [.tmp 11]) (Ye8 _ _ (Y7i hx5 hq)) e59 rfl rfl ⟨Zo rfl hq, trivial⟩) <| AOps.consG (OpG.guardN rfl rfl rfl rfl rfl fun hq => Z6k rfl rfl (Zo rfl hq) (vk rfl)) <| Gd rfl (fun hq => Za0 rfl rfl (vgx rfl hq) (vgw rfl hq)) <| Ac (Z1t rfl rfl (vt rfl) (vt rfl)) rfl <| As rfl <| Nl <| rt ?_
 cases h; exact Zg Tryz.results61 rfl (Z4 rfl)
end Go.Proofs.YtknpgojdkobgjaaGreat.W
set_option maxRecDepth 4000
namespace Go.Proofs.YtknpgojdkobgjaaGreat.W
open Go Go.Wb
theorem e50 : Ent Tryz.prog 50 := Ent.mk Tryz.func50 rfl rfl
theorem Yjf : Ent Tryz.prog 166 := Ent.mk Tryz.func166 rfl rfl
theorem Ycj : Ent Tryz.prog 101 := Ent.mk Tryz.func101 rfl rfl
theorem Yh4 : Ent Tryz.prog 104 := Ent.mk Tryz.func104 rfl rfl
def Zbe (x2 : Z0j) : (List Tern) → Nat → Option Bool
 | [], i5 => some true
 | x7 :: l6, i5 => (chk 24 (i5 : Int)).bind fun j9 => (Zg1 x7 (Vector.get x2 j9)).bind fun x10 => (bif (!x10) then some false else (Zbe x2 l6) (i5 + 1))
def Zez (x1 : Z9) (x2 : Z0j) : Option Bool :=
 Zbe x2 (Vector.toList x1) 0
theorem Y37 : Q2 Tryz.prog 50 (rd (Z1 24 Z3)) (rd (Z1 24 Zd)) (rd Z7) Zez := fun x1 x2 r h => I0 Tryz.func50 rfl Tryz.ntmps50 rfl fun w H => by
 unfold Zez at h
 refine SR <| Cv rfl (Zl 3 rfl rfl (vt rfl)) fun g3 => Cv rfl (Zl 4 rfl rfl (vt rfl)) fun g4 => Ab rfl <| Nl <| sq <| SR <| Ld Z01 3 rfl <| Mk rfl <| Nl <| bk <| LG (d := []) (ν := (List Tern) × Nat) (fun (l6, i5) => (Sfx (Vector.toList x1) i5 l6 ∧ Zbe x2 l6 i5 = some r, l6.length, [(3, Zb g4 (Lens.id (Z1 24 Zd))), (7, rd (Z1 24 Z3) x1), (8, rd (Z0 .i64) (i5 : Int))], [(4, Ze g4 44 (Z1 24 Zd) x2)])) ((Vector.toList x1), 0) ⟨Sfx.start _, h⟩ (FX rfl) ?_
 rintro ⟨l6, i5⟩ ⟨hsf1, h⟩
 dsimp only at hsf1 h ⊢
 cases l6 with
 | nil =>
  unfold Zbe at h
  refine SR <| Ac (Zn rfl rfl (vt rfl) (vk rfl)) rfl <| Nl <| sq <| Cn rfl (fun hc => absurd (of_decide_eq_true hc) (hsf1.niln (by simp))) (fun hc => ?_)
  refine xt <| SR <| Ab rfl <| Nl <| rt ?_
  cases h; exact Zg Tryz.results50 rfl (Z4 rfl)
 | cons x7 l6 =>
  unfold Zbe at h
  refine SR <| Ac (Zn rfl rfl (vt rfl) (vk rfl)) rfl <| Nl <| sq <| Cn rfl (fun hc => ?_) (fun hc => absurd (hsf1.consn (by simp)) (of_decide_eq_false hc))
  have hlti5 := of_decide_eq_true hc
  refine sk <| sq <| bk <| SR <| Md rfl <| Ac (Zb4 rfl rfl Z2h Zw (vt rfl) (vt rfl) hsf1.lget) rfl <| Cv rfl (Zp 7 rfl rfl Z1d) fun g8 => As rfl <| Zh Zw 7 rfl <| Nl <| sq ?_
  obtain ⟨j9, hj9, x10, hx10, h⟩ := bs2 h
  refine AR Zx (by kernel_rfl) <| Zk Zw 7 rfl <| Zq rfl <| Sd (lo [3, 13] [] rfl fun S hs hr => Z14 rfl rfl Zeu (vh hs 3 rfl rfl) (vh hs 13 rfl rfl) hj9) <| Zk Zu 4 rfl <| SCl [12, 15] (Zuk _ _ _ hx10) Zrm rfl <| Sd (lo [16] [] rfl fun S hs hr => Z15 rfl rfl (vh hs 16 rfl rfl)) <| Sn <| Cq rfl h (fun h => ?_) (fun h => ?_)
  ·refine SR <| Ab rfl <| Nl <| rt ?_
   cases h; exact Zg Tryz.results50 rfl (Z4 rfl)
  ·refine sk <| Rg <| Ac (Z74 rfl rfl (vt rfl) (vk rfl) rfl hlti5) rfl <| Md rfl <| Nl ?_
   exact ⟨(_, _), Nat.lt_succ_self _, ⟨hsf1.next, h⟩, FX rfl⟩
def Zdr (x1 : Rule) (x2 : Z0j) : Option Bool :=
 (Zez x1.Cube x2).bind fun x4 => some x4
theorem Y7l : Q2 Tryz.prog 166 (rd Z00) (rp (Z1 24 Zd)) (rd Z7) Zdr := fun x1 x2 r h => I0 Tryz.func166 rfl Tryz.ntmps166 rfl fun w H => by
 unfold Zdr at h
 refine SR <| Cv rfl (Zl 3 rfl rfl (vt rfl)) fun g3 => Ab rfl <| Nl <| sq ?_
 obtain ⟨x4, hx4, h⟩ := Za h
 refine Rg <| Zj lRule_0 Zfh rfl <| Ld Z01 3 rfl <| Lp1 Z0f rfl <| Cl [5, 6] (Y37 _ _ _ hx4) e50 rfl <| As rfl <| Nl <| rt ?_
 cases h; exact Zg Tryz.results166 rfl (Z4 rfl)
def Zp5 (x1 : Z0j) : Option (Rule → Option Bool) :=
 some (fun x => Zdr x x1)
theorem Yis : Q1 Tryz.prog 101 (rd (Z1 24 Zd)) (fn1 Tryz.prog Z00 Z7) Zp5 := fun x1 r h => I0 Tryz.func101 rfl Tryz.ntmps101 rfl fun w H => by
 unfold Zp5 at h
 refine SR <| Cv rfl (Zl 2 rfl rfl (vt rfl)) fun g2 => Ac (Zy (A := Zi .nilFunc) rfl rfl vc) rfl <| Nl <| sq <| AW.freezeB 1 2 rfl rfl rfl <| Rg <| Ac (Z8k (cs := [.tmp 1]) (CAs := [rp (Z1 24 Zd) x1]) (fun x => Zdr x x1) rfl rfl Yjf ⟨vt rfl, trivial⟩ (fun x y h => Y7l _ _ y h)) rfl <| Ac (Zy (A := fn1 Tryz.prog Z00 Z7 (fun x => Zdr x x1)) rfl rfl (vt rfl)) rfl <| Nl <| rt ?_
 cases h; exact Zg Tryz.results101 rfl (Z4 rfl)
def Zdx (x1 : Flat) (x2 : Z0j) : Option (Int × Bool) :=
 (Zp5 x2).bind fun x5 => (Zl1 x1.Rules x5).bind fun x6 => some ((Z22 x6 0), (decide (x6 ≥ 0)))
theorem Zsv : Q2 Tryz.prog 42 (rd Z91) (rd (Z1 24 Zd)) (fun r => Z19 (rd (Z0 .i64) r.1) (rd Z7 r.2)) Zdx := fun x1 x2 r h => I0 Tryz.func42 rfl Tryz.ntmps42 rfl fun w H => by
 unfold Zdx at h
 refine SR <| Cv rfl (Zl 3 rfl rfl (vt rfl)) fun g3 => Cv rfl (Zl 4 rfl rfl (vt rfl)) fun g4 => Ak rfl <| Ab rfl <| Nl <| sq ?_
 obtain ⟨x5, hx5, x6, hx6, h⟩ := bs2 h
 refine AR Zx (by kernel_rfl) <| SFd lFlat_0 Zsu rfl <| Zk Zt6 3 rfl <| Zk Z0f 4 rfl <| SCl [9] (Yis _ _ hx5) Ycj rfl <| SCl [8, 10] (Ya8 _ _ _ hx6) e48 rfl <| SAs rfl <| Sn <| SR <| Md rfl <| Ac (Zgm rfl rfl (vt rfl) (vk rfl)) rfl <| Md rfl <| Ac (Z4z rfl rfl (vt rfl) (vk rfl)) rfl <| As rfl <| As rfl <| Nl <| rt ?_
 cases h; exact Z25 Tryz.results42 rfl (Z4 rfl) (Z4 rfl)
def Zqw (l1 : (List Rule)) (i2 : Int) (m3 : Int) : Option (Z0j × Bool × Int) :=
 (bif ((decide (i2 < 0)) || (decide (i2 ≥ (l1.length : Int)))) then some ((Vector.replicate 24 Z09), false, 6) else (Zrl l1).bind fun x5 => (lget x5 i2).bind fun x6 => (Z4y x5 i2).bind fun s7 => (Zfz x6 s7 m3).bind fun x8 => some (x8.1, x8.2.1, x8.2.2))
theorem Ykr : Q3 Tryz.prog 104 (rd (Z2 Z00)) (rd (Z0 .i64)) (rd (Z0 .i64)) (fun r => Z3m (rd (Z1 24 Zd) r.1) (rd Z7 r.2.1) (rd (Z0 .i64) r.2.2)) Zqw := fun l1 i2 m3 r h => I0 Tryz.func104 rfl Tryz.ntmps104 rfl fun w H => by
 unfold Zqw at h
 refine SR <| Cv rfl (Zp 7 rfl rfl Z3n) fun g4 => Ab rfl <| Ak rfl <| Nl <| sq <| SR <| Md rfl <| Ac (Zn rfl rfl (vt rfl) (vk rfl)) rfl <| Md rfl <| Gd rfl (fun hq => Zs (A := rd (Z0 .i64) i2) rfl rfl (vt rfl)) <| Gd rfl (fun hq => Zs (A := rd (Z2 Z00) l1) rfl rfl (vt rfl)) <| Gd rfl (fun hq => Z0x rfl rfl Z30 (Zo rfl hq)) <| Gd rfl (fun hq => Z4z rfl rfl (Zo rfl hq) (Zo rfl hq)) <| Ac (Za0 rfl rfl (vt rfl) (vt rfl)) rfl <| Nl <| Cq rfl h (fun h => ?_) (fun h => ?_)
 ·refine SR <| Ac (Z1e (ps := []) (x := (Vector.replicate 24 Z09)) rfl rfl rfl (by kernel_rfl) Z3n rfl) rfl <| Zh Z0f 7 rfl <| Ab rfl <| Ak rfl <| Nl <| rt ?_
  cases h; exact Zdc Tryz.results104 rfl (Zz rfl (i := 7) rfl Z0f) (Z4 rfl) (Z4 rfl)
 ·refine sk <| sq ?_
  obtain ⟨x5, hx5, h⟩ := Za h
  refine Rg <| Md rfl <| Cl [19] (Yjp _ _ hx5) Y78 rfl <| As rfl <| Nl <| sq ?_
  obtain ⟨x6, hx6, s7, hs7, x8, hx8, h⟩ := bs3 h
  refine AR Zx (by kernel_rfl) <| Zq rfl <| Zq rfl <| Sd (lo [21, 22] [] rfl fun S hs hr => Z0q rfl rfl Z4e (vh hs 21 rfl rfl) (vh hs 22 rfl rfl) hx6) <| SLp Z01 rfl <| Zq rfl <| Zq rfl <| Zq rfl <| Sd (lo [25, 26, 27] [] rfl fun S hs hr => Y40 hs7 rfl rfl Z4e (vh hs 25 rfl rfl) (vh hs 26 rfl rfl) (vh hs 27 rfl rfl)) <| Zq rfl <| Sd (lo [24, 28, 29] [] rfl fun S hs hr => Z0r (xs := [.tmp 24, .tmp 28, .tmp 29]) (Y20 _ _ _ _ hx8) Y3i rfl rfl ⟨vt ((hs 24 rfl).trans rfl), Yhj (vh hs 28 rfl rfl), vt ((hs 29 rfl).trans rfl), trivial⟩) <| Sd (lo [30] [] rfl fun S hs hr => Zdy rfl rfl (vh hs 30 rfl rfl)) <| Sd (lo [30] [] rfl fun S hs hr => Zdn rfl rfl (vh hs 30 rfl rfl)) <| Sd (lo [30] [] rfl fun S hs hr => Zdu rfl rfl (vh hs 30 rfl rfl)) <| SSt Z0f 7 rfl <| SAs rfl <| SAs rfl <| Sn <| rt ?_
  cases h; exact Zdc Tryz.results104 rfl (Zz rfl (i := 7) rfl Z0f) (Z4 rfl) (Z4 rfl)
def Zun (x1 : Flat) (i2 : Int) (m3 : Int) : Option (Z0j × Bool × Int) :=
 (Zqw x1.Rules i2 m3).bind fun x6 => some (x6.1, x6.2.1, x6.2.2)
theorem Ymi : Q3 Tryz.prog 46 (rd Z91) (rd (Z0 .i64)) (rd (Z0 .i64)) (fun r => Z3m (rd (Z1 24 Zd) r.1) (rd Z7 r.2.1) (rd (Z0 .i64) r.2.2)) Zun := fun x1 i2 m3 r h => I0 Tryz.func46 rfl Tryz.ntmps46 rfl fun w H => by
 unfold Zun at h
 refine SR <| Cv rfl (Zl 4 rfl rfl (vt rfl)) fun g4 => Cv rfl (Zp 7 rfl rfl Z3n) fun g5 => Ab rfl <| Ak rfl <| Nl <| sq ?_
 obtain ⟨x6, hx6, h⟩ := Za h
 refine Rg <| Zj lFlat_0 Zsu rfl <| Ld Zt6 4 rfl <| Md rfl <| Md rfl <| Cl [10, 11, 12] (Ykr _ _ _ _ hx6) Yh4 rfl <| Ac (Zdy rfl rfl (vt rfl)) rfl <| Ac (Zdn rfl rfl (vt rfl)) rfl <| Ac (Zdu rfl rfl (vt rfl)) rfl <| Zh Z0f 7 rfl <| As rfl <| As rfl <| Nl <| rt ?_
 cases h; exact Zdc Tryz.results46 rfl (Zz rfl (i := 7) rfl Z0f) (Z4 rfl) (Z4 rfl)
def Zax : (List Tern) → Nat → Z0j → Option Z0j
 | [], i8, b7 => some b7
 | x10 :: l9, i8, b7 => (chk 24 (i8 : Int)).bind fun j12 => (Z9u (Vector.get b7 j12) x10.Mask).bind fun x13 => (Zb0 x10.Value x10.Mask).bind fun x14 => (Z87 x13 x14).bind fun x15 => (chk 24 (i8 : Int)).bind fun j16 => (Zax l9) (i8 + 1) (Vector.set b7 j16.1 x15 j16.2)
def Zc2 (x1 : Z9) (x2 : Z0j) : Option Z0j :=
 Zax (Vector.toList x1) 0 x2
theorem Zsq : Q2 Tryz.prog 109 (rd (Z1 24 Z3)) (rd (Z1 24 Zd)) (rd (Z1 24 Zd)) Zc2 := fun x1 x2 r h => I0 Tryz.func109 rfl Tryz.ntmps109 rfl fun w H => by
 unfold Zc2 at h
 refine SR <| Cv rfl (Zl 3 rfl rfl (vt rfl)) fun g3 => Cv rfl (Zl 4 rfl rfl (vt rfl)) fun g4 => Cv rfl (Zp 5 rfl rfl Z3n) fun g5 => Nl <| sq <| SR <| Ld Z02 3 rfl <| Mk rfl <| Nl <| bk <| LG (d := []) (ν := (List Tern) × Nat × Z0j) (fun (l9, i8, b7) => (Sfx (Vector.toList x1) i8 l9 ∧ Zax l9 i8 b7 = some r, l9.length, [(3, Zb g4 (Lens.id (Z1 24 Zd))), (4, Zb g5 (Lens.id (Z1 24 Zd))), (7, rd (Z1 24 Z3) x1), (8, rd (Z0 .i64) (i8 : Int))], [(4, Ze g4 44 (Z1 24 Zd) b7), (5, Ze g5 44 (Z1 24 Zd) (Vector.replicate 24 Z09))])) ((Vector.toList x1), 0, x2) ⟨Sfx.start _, h⟩ (FX rfl) ?_
 rintro ⟨l9, i8, b7⟩ ⟨hsf1, h⟩
 dsimp only at hsf1 h ⊢
 cases l9 with
 | nil =>
  unfold Zax at h
  refine SR <| Ac (Zn rfl rfl (vt rfl) (vk rfl)) rfl <| Nl <| sq <| Cn rfl (fun hc => absurd (of_decide_eq_true hc) (hsf1.niln (by simp))) (fun hc => ?_)
  refine xt <| SR <| Ld Z0f 4 rfl <| Zh Z0f 5 rfl <| Nl <| rt ?_
  cases h; exact Zg Tryz.results109 rfl (Zz rfl (i := 5) rfl Z0f)
 | cons x10 l9 =>
  unfold Zax at h
  refine SR <| Ac (Zn rfl rfl (vt rfl) (vk rfl)) rfl <| Nl <| sq <| Cn rfl (fun hc => ?_) (fun hc => absurd (hsf1.consn (by simp)) (of_decide_eq_false hc))
  have hlti8 := of_decide_eq_true hc
  refine sk <| sq <| bk <| SR <| Md rfl <| Ac (Zb4 rfl rfl Z40 Zw (vt rfl) (vt rfl) hsf1.lget) rfl <| Cv rfl (Zp 7 rfl rfl Z1d) fun g11 => As rfl <| Zh Zw 7 rfl <| Nl ?_
  obtain ⟨j12, hj12, x13, hx13, x14, hx14, x15, hx15, h⟩ := bs4 h
  obtain ⟨j16, hj16, h⟩ := Za h
  refine AR Zx (by kernel_rfl) <| Zq rfl <| Zq rfl <| Sd (lo [3, 13] [] rfl fun S hs hr => Z14 rfl rfl Zeu (vh hs 3 rfl rfl) (vh hs 13 rfl rfl) hj12) <| Zk Zu 4 rfl <| SFd lTern_1 Z27 rfl <| Zk Zu 7 rfl <| SCl [15, 17] (Zfg _ _ _ hx13) Zhv rfl <| SFd lTern_0 Z2n rfl <| Zk Zu 7 rfl <| SFd lTern_1 Z27 rfl <| Zk Zu 7 rfl <| SCl [20, 22] (Zio _ _ _ hx14) Zlw rfl <| SCl [18, 23] (Zd1 _ _ _ hx15) Zcg rfl <| Sd (lo [3, 12] [] rfl fun S hs hr => Z14 rfl rfl Zeu (vh hs 3 rfl rfl) (vh hs 12 rfl rfl) hj16) <| SSt Zu 4 rfl <| Sn <| Rg <| Ac (Z74 rfl rfl (vt rfl) (vk rfl) rfl hlti8) rfl <| Md rfl <| Nl ?_
  exact ⟨(_, _, _), Nat.lt_succ_self _, ⟨hsf1.next, h⟩, FX rfl⟩
def Zch (x1 : Env) (n2 : Int) : Option Int :=
 (bif (decide (n2 < 1)) then some 0 else (Z8q x1.Turn n2).bind fun q4 => (bif (decide (q4 < 0)) then some (IntKind.i64.wrap (q4 + n2)) else some q4))
theorem Ykz : Q2 Tryz.prog 284 (rd Z1m) (rd (Z0 .i64)) (rd (Z0 .i64)) Zch := fun x1 n2 r h => I0 Tryz.func284 rfl Tryz.ntmps284 rfl fun w H => by
 unfold Zch at h
 refine SR <| Cv rfl (Zl 3 rfl rfl (vt rfl)) fun g3 => Ak rfl <| Nl <| sq <| SR <| Md rfl <| Ac (Zn rfl rfl (vt rfl) (vk rfl)) rfl <| Nl <| Cq rfl h (fun h => ?_) (fun h => ?_)
 ·refine SR <| Ak rfl <| Nl <| rt ?_
  cases h; exact Zg Tryz.results284 rfl (Z4 rfl)
 ·refine sk <| sq ?_
  obtain ⟨q4, hq4, h⟩ := Za h
  refine Rg <| Zj Zw5 Y8d rfl <| Ld Zt 3 rfl <| Md rfl <| Ac (Zx0 rfl rfl (vt rfl) (vt rfl) hq4) rfl <| As rfl <| Nl <| sq <| SR <| Md rfl <| Ac (Zn rfl rfl (vt rfl) (vk rfl)) rfl <| Nl <| Cq rfl h (fun h => ?_) (fun h => ?_)
  ·refine Rg <| Md rfl <| Md rfl <| Ac (Z06 rfl rfl (vt rfl) (vt rfl)) rfl <| As rfl <| Nl <| SR <| Md rfl <| As rfl <| Nl <| rt ?_
   cases h; exact Zg Tryz.results284 rfl (Z4 rfl)
  ·refine sk <| SR <| Md rfl <| As rfl <| Nl <| rt ?_
   cases h; exact Zg Tryz.results284 rfl (Z4 rfl)
def Zia (s1 : (List Int)) (x2 : Int) : Option Bool :=
 (Zfn s1 x2).bind fun x3 => some (decide (x3 ≥ 0))
theorem Yi5 : Q2 Tryz.prog 338 (rd (Z2 (Z0 .i64))) (rd (Z0 .i64)) (rd Z7) Zia := fun s1 x2 r h => I0 Tryz.func338 rfl Tryz.ntmps338 rfl fun w H => by
 unfold Zia at h
 refine SR <| Ab rfl <| Nl <| sq ?_
 obtain ⟨x3, hx3, h⟩ := Za h
 refine Rg <| Md rfl <| Md rfl <| Cl [5, 6] (Y23 _ _ _ hx3) Y46 rfl <| Ac (Z4z rfl rfl (vt rfl) (vk rfl)) rfl <| As rfl <| Nl <| rt ?_
 cases h; exact Zg Tryz.results338 rfl (Z4 rfl)
end Go.Proofs.YtknpgojdkobgjaaGreat.W
set_option maxRecDepth 4000
namespace Go.Proofs.YtknpgojdkobgjaaGreat.W
open Go Go.Wb
theorem Yap : Ent Tryz.prog 338 := Ent.mk Tryz.func338 rfl rfl
theorem Yhf : Ent Tryz.prog 326 := Ent.mk Tryz.func326 rfl rfl
theorem Ylr : Ent Tryz.prog 325 := Ent.mk Tryz.func325 rfl rfl
theorem Y60 : Ent Tryz.prog 284 := Ent.mk Tryz.func284 rfl rfl
theorem Yjd : Ent Tryz.prog 285 := Ent.mk Tryz.func285 rfl rfl
theorem Ygc : Ent Tryz.prog 238 := Ent.mk Tryz.func238 rfl rfl
theorem Y2a : Ent Tryz.prog 239 := Ent.mk Tryz.func239 rfl rfl
theorem Y7b : Ent Tryz.prog 286 := Ent.mk Tryz.func286 rfl rfl
theorem Y4o : Ent Tryz.prog 178 := Ent.mk Tryz.func178 rfl rfl
theorem Zqg : Ent Tryz.prog 109 := Ent.mk Tryz.func109 rfl rfl
theorem Yjc : Ent Tryz.prog 110 := Ent.mk Tryz.func110 rfl rfl
def Zil (x1 : Env) (p2 : Int) : Option Bool :=
 (Zia x1.Down p2).bind fun x4 => some (!x4)
theorem Y86 : Q2 Tryz.prog 326 (rd Z1m) (rd (Z0 .i64)) (rd Z7) Zil := fun x1 p2 r h => I0 Tryz.func326 rfl Tryz.ntmps326 rfl fun w H => by
 unfold Zil at h
 refine SR <| Cv rfl (Zl 3 rfl rfl (vt rfl)) fun g3 => Ab rfl <| Nl <| sq ?_
 obtain ⟨x4, hx4, h⟩ := Za h
 refine Rg <| Zj Zru Y3o rfl <| Ld Y17 3 rfl <| Md rfl <| Cl [6, 7] (Yi5 _ _ _ hx4) Yap rfl <| Ac (Z15 rfl rfl (vt rfl)) rfl <| As rfl <| Nl <| rt ?_
 cases h; exact Zg Tryz.results326 rfl (Z4 rfl)
def Zgw (x1 : Bucket) (x2 : env_world) : Option Bool :=
 (Zil x2.Env x1.Watch).bind fun x4 => some x4
theorem Ymj : Q2 Tryz.prog 325 (rd Z26) (rp Zaa) (rd Z7) Zgw := fun x1 x2 r h => I0 Tryz.func325 rfl Tryz.ntmps325 rfl fun w H => by
 unfold Zgw at h
 refine SR <| Cv rfl (Zl 3 rfl rfl (vt rfl)) fun g3 => Ab rfl <| Nl <| sq ?_
 obtain ⟨x4, hx4, h⟩ := Za h
 refine Rg <| Fp lenv_world_0 Y21 rfl <| Lp1 Z6h rfl <| Zj Zzt Yan rfl <| Ld Zt 3 rfl <| Cl [5, 7] (Y86 _ _ _ hx4) Yhf rfl <| As rfl <| Nl <| rt ?_
 cases h; exact Zg Tryz.results325 rfl (Z4 rfl)
def Zo0 (w1 : env_world) : Option Int :=
 (Zgc w1.Group.Buckets (fun x => Zgw x w1)).bind fun x3 => some x3
theorem Ydn : Q1 Tryz.prog 285 (rd Zaa) (rd (Z0 .i64)) Zo0 := fun w1 r h => I0 Tryz.func285 rfl Tryz.ntmps285 rfl fun w H => by
 unfold Zo0 at h
 refine SR <| Cv rfl (Zl 2 rfl rfl (vt rfl)) fun g2 => Ak rfl <| Nl <| sq <| AW.freezeB 1 2 rfl rfl rfl ?_
 obtain ⟨x3, hx3, h⟩ := Za h
 refine Rg <| Fp lenv_world_1 Zlo rfl <| Fp Z99 Zb5 rfl <| Lp1 Zbv rfl <| Ac (Z8k (cs := [.tmp 1]) (CAs := [rp Zaa w1]) (fun x => Zgw x w1) rfl rfl Ylr ⟨vt rfl, trivial⟩ (fun x y h => Ymj _ _ y h)) rfl <| Cl [5, 6] (Y4e _ _ _ hx3) Zw9 rfl <| As rfl <| Nl <| rt ?_
 cases h; exact Zg Tryz.results285 rfl (Z4 rfl)
def Zbw : Nat → Nat → (List Int) → Option (List Int)
 | 0, i10, l8 => some l8
 | m11 + 1, i10, l8 => (Z0u l8 [(i10 : Int)]).bind fun l12 => (Zbw m11) (i10 + 1) l12
def Zl8 (x1 : Env) (x2 : Group) : Option (List Int) :=
 (bif (decide (((((⟨x1, x2⟩ : env_world).Group).Buckets).length : Int) = 0)) then some [] else (bif (decide ((((⟨x1, x2⟩ : env_world).Group).Kind) = 0)) then Zbw (((((⟨x1, x2⟩ : env_world).Group).Buckets).length : Int) : Int).toNat 0 [] else (bif (decide ((((⟨x1, x2⟩ : env_world).Group).Kind) = 1)) then (Zch ((⟨x1, x2⟩ : env_world).Env) ((((⟨x1, x2⟩ : env_world).Group).Buckets).length : Int)).bind fun x14 => some [x14] else (bif (decide ((((⟨x1, x2⟩ : env_world).Group).Kind) = 2)) then some [0] else (bif (decide ((((⟨x1, x2⟩ : env_world).Group).Kind) = 3)) then (Zo0 (⟨x1, x2⟩ : env_world)).bind fun x15 => (bif (decide (x15 ≥ 0)) then some [x15] else some []) else some [])))))
theorem Yly : Q2 Tryz.prog 238 (rd Z1m) (rd Z0d) (rd (Z2 (Z0 .i64))) Zl8 := fun x1 x2 r h => I0 Tryz.func238 rfl Tryz.ntmps238 rfl fun w H => by
 unfold Zl8 at h
 refine SR <| Cv rfl (Zl 3 rfl rfl (vt rfl)) fun g3 => Cv rfl (Zl 4 rfl rfl (vt rfl)) fun g4 => Ac (Zy (A := rd (Z2 (Z0 .i64)) []) rfl rfl Z1p) rfl <| Nl <| SR <| Ld Z6h 3 rfl <| Ld Z6i 4 rfl <| Ac (opb (⟨x1, x2⟩ : env_world) Zvl rfl Yb1 (pc Y94 (vt rfl) <| pc Yfd (vt rfl) <| pn rfl)) rfl <| Cv rfl (Zp 6 rfl rfl Zvl) fun g5 => Zh Y22 6 rfl <| Nl <| sq <| SR <| Zj lenv_world_1 Zlo rfl <| Zj Z99 Zb5 rfl <| Ld Zbv 6 rfl <| Ac (Z0x rfl rfl Z72 (vt rfl)) rfl <| Ac (Z0m rfl rfl (vt rfl) (vk rfl)) rfl <| Nl <| Cq rfl h (fun h => ?_) (fun h => ?_)
 ·refine SR <| Ac (Zy (A := rd (Z2 (Z0 .i64)) []) rfl rfl Z1p) rfl <| Nl <| rt ?_
  cases h; exact Zg Tryz.results238 rfl (Z4 rfl)
 ·refine sk <| sq <| SR <| Zj lenv_world_1 Zlo rfl <| Zj Y3x Ybe rfl <| Ld Zt 6 rfl <| Nl <| bk <| SR <| Ac (Z0m rfl rfl (vt rfl) (vk rfl)) rfl <| As rfl <| Nl <| Cq rfl h (fun h => ?_) (fun h => ?_)
  ·refine sq <| AW.newnil 1001 3 (Z0 .i64) <| Rg <| Ac (Zy rfl rfl vc) rfl <| Nl <| sq <| SR <| Zj lenv_world_1 Zlo rfl <| Zj Z99 Zb5 rfl <| Ld Zbv 6 rfl <| Ac (Z0x rfl rfl Z72 (vt rfl)) rfl <| Mk rfl <| Nl <| bk <| LG (d := []) (ν := Nat × Nat × (List Int) × Value) (fun (m11, i10, l8, v9) => (Cnt ((((⟨x1, x2⟩ : env_world).Group).Buckets).length : Int) i10 m11 ∧ Zbw m11 i10 l8 = some r, m11, [(6, Zi v9), (25, rd (Z0 .i64) ((((⟨x1, x2⟩ : env_world).Group).Buckets).length : Int)), (26, rd (Z0 .i64) (i10 : Int))], [(1001, Zc v9 3 (Z0 .i64) l8)])) ((((((⟨x1, x2⟩ : env_world).Group).Buckets).length : Int) : Int).toNat, 0, [], (.slice none 0 0)) ⟨Cnt.start _, h⟩ (FX rfl) ?_
   rintro ⟨m11, i10, l8, v9⟩ ⟨hsf1, h⟩
   dsimp only at hsf1 h ⊢
   cases m11 with
   | zero =>
    unfold Zbw at h
    refine SR <| Ac (Zn rfl rfl (vt rfl) (vt rfl)) rfl <| Nl <| sq <| Cn rfl (fun hc => absurd (of_decide_eq_true hc) hsf1.zero) (fun hc => ?_)
    refine xt <| SR <| Mw rfl <| Aw rfl <| Nl <| AW.freezes [4, 6, 34] 1001 rfl ⟨rfl, rfl, rfl, trivial⟩ rfl <| rt ?_
    cases h; exact Zg Tryz.results238 rfl (Z4 rfl)
   | succ m11 =>
    unfold Zbw at h
    refine SR <| Ac (Zn rfl rfl (vt rfl) (vt rfl)) rfl <| Nl <| sq <| Cn rfl (fun hc => ?_) (fun hc => absurd hsf1.succ (of_decide_eq_false hc))
    have hlti10 := of_decide_eq_true hc
    refine sk <| sq <| bk <| SR <| Md rfl <| As rfl <| Nl ?_
    obtain ⟨l12, hl12, h⟩ := Za h
    refine Rg <| Mw rfl <| Md rfl <| Ac (osl Z0y zr3 rfl (vt rfl)) rfl <| Cv rfl (Z2m 1001 hl12 rfl rfl Zlp (vt rfl) rfl (vt rfl)) fun v13 => Aw rfl <| Nl <| Rg <| Ac (Z23 (t := 25) rfl rfl (vt rfl) (vk rfl) (vt rfl) hlti10) rfl <| Md rfl <| Nl ?_
    exact ⟨(_, _, _, _), Nat.lt_succ_self _, ⟨hsf1.next, h⟩, FX rfl⟩
  ·refine SR <| Ac (Z0m rfl rfl (vt rfl) (vk rfl)) rfl <| As rfl <| Nl <| Cq rfl h (fun h => ?_) (fun h => ?_)
   ·refine sq ?_
    obtain ⟨x14, hx14, h⟩ := Za h
    refine Rg <| Zj lenv_world_0 Y21 rfl <| Ld Z6h 6 rfl <| Zj lenv_world_1 Zlo rfl <| Zj Z99 Zb5 rfl <| Ld Zbv 6 rfl <| Ac (Z0x rfl rfl Z72 (vt rfl)) rfl <| Cl [38, 42] (Ykz _ _ _ hx14) Y60 rfl <| Ac (osl Z0y zr3 rfl (vt rfl)) rfl <| As rfl <| Nl <| rt ?_
    cases h; exact Zg Tryz.results238 rfl (Z4 rfl)
   ·refine SR <| Ac (Z0m rfl rfl (vt rfl) (vk rfl)) rfl <| As rfl <| Nl <| Cq rfl h (fun h => ?_) (fun h => ?_)
    ·refine SR <| Ac (osl Z0y zr3 rfl (vk rfl)) rfl <| As rfl <| Nl <| rt ?_
     cases h; exact Zg Tryz.results238 rfl (Z4 rfl)
    ·refine SR <| Ac (Z0m rfl rfl (vt rfl) (vk rfl)) rfl <| As rfl <| Nl <| Cq rfl h (fun h => ?_) (fun h => ?_)
     ·refine sq ?_
      obtain ⟨x15, hx15, h⟩ := Za h
      refine Rg <| Ld Y22 6 rfl <| Cl [50] (Ydn _ _ hx15) Yjd rfl <| As rfl <| Nl <| SR <| Md rfl <| Ac (Z4z rfl rfl (vt rfl) (vk rfl)) rfl <| Nl <| Cq rfl h (fun h => ?_) (fun h => ?_)
      ·refine SR <| Md rfl <| Ac (osl Z0y zr3 rfl (vt rfl)) rfl <| As rfl <| Nl <| rt ?_
       cases h; exact Zg Tryz.results238 rfl (Z4 rfl)
      ·refine sk <| SR <| Ac (Zy (A := rd (Z2 (Z0 .i64)) []) rfl rfl Z1p) rfl <| Nl <| rt ?_
       cases h; exact Zg Tryz.results238 rfl (Z4 rfl)
     ·refine sk <| SR <| Ac (Zy (A := rd (Z2 (Z0 .i64)) []) rfl rfl Z1p) rfl <| Nl <| rt ?_
      cases h; exact Zg Tryz.results238 rfl (Z4 rfl)
def Zkz (a1 : Action) : Option Int :=
 (bif (decide (a1.Port = 4294967293)) then some a1.Max else some 0)
theorem Ylu : Q1 Tryz.prog 286 (rd Z8) (rd (Z0 .i64)) Zkz := fun a1 r h => I0 Tryz.func286 rfl Tryz.ntmps286 rfl fun w H => by
 unfold Zkz at h
 refine SR <| Cv rfl (Zl 2 rfl rfl (vt rfl)) fun g2 => Ak rfl <| Nl <| sq <| SR <| Zj Zhw Zjb rfl <| Ld Zt 2 rfl <| Ac (Z0m rfl rfl (vt rfl) (vk rfl)) rfl <| Nl <| Cq rfl h (fun h => ?_) (fun h => ?_)
 ·refine SR <| Zj Zob Zr8 rfl <| Ld Zt 2 rfl <| As rfl <| Nl <| rt ?_
  cases h; exact Zg Tryz.results286 rfl (Z4 rfl)
 ·refine sk <| SR <| Ak rfl <| Nl <| rt ?_
  cases h; exact Zg Tryz.results286 rfl (Z4 rfl)
def Zar (x5 : (Group × Bool)) (R_exec_run_do : (Z0g → (List Action) → Option Z0g)) (x1 : Z0g) : (List Int) → Nat → (List Out) → Env → (List Group) → Z0j → Int → Option Z0g
 | [], i21, l15, b17, b18, b19, b20 => some (⟨b17, b18, l15, b19, (IntKind.i64.wrap (b20 - 1))⟩ : Z0g)
 | x23 :: l22, i21, l15, b17, b18, b19, b20 => (lget x5.1.Buckets x23).bind fun x24 => (Zcl [] x24.Acts).bind fun x25 => (Z79 x25).bind fun x26 => (R_exec_run_do (⟨b17, b18, l15, b19, b20⟩ : Z0g) x26).bind fun b27 => (Zar x5 R_exec_run_do x1 l22) (i21 + 1) b27.out b27.Env b27.groups x1.header b27.depth
def Zcd (R_exec_run_do : (Z0g → (List Action) → Option Z0g)) (R_exec_run_group : (Z0g → Int → Option Z0g)) (x1 : Z0g) (i4 : Int) : Option Z0g :=
 (Zff x1.groups i4).bind fun x5 => (bif ((!x5.2) || (decide (x1.depth ≥ 8))) then some (⟨x1.Env, x1.groups, x1.out, x1.header, x1.depth⟩ : Z0g) else (Zl8 x1.Env x5.1).bind fun x8 => Zar x5 R_exec_run_do x1 x8 0 x1.out x1.Env x1.groups x1.header (IntKind.i64.wrap (x1.depth + 1)))
theorem Y5x (R_exec_run_do : (Z0g → (List Action) → Option Z0g)) (hR_exec_run_do : ∀ (g2 gT : Nat) (x1 : Z0g) (a4 : (List Action)) (r : Z0g), R_exec_run_do x1 a4 = some r → Con Tryz.prog 239 [Zb g2 (Lens.id Z18), rd (Z2 Z8) a4] (Z0t g2 gT Z18 (fun v => (⟨x1.Env, x1.groups, v, x1.header, x1.depth⟩ : exec_run_o2)) 71 Z08 x1.out) (fun _ : Unit => top) (fun _ => Z0t g2 gT Z18 (fun v => (⟨r.Env, r.groups, v, r.header, r.depth⟩ : exec_run_o2)) 71 Z08 r.out)) (R_exec_run_group : (Z0g → Int → Option Z0g)) (hR_exec_run_group : ∀ (g2 gT : Nat) (x1 : Z0g) (i4 : Int) (r : Z0g), R_exec_run_group x1 i4 = some r → Con Tryz.prog 178 [Zb g2 (Lens.id Z18), rd (Z0 .i64) i4] (Z0t g2 gT Z18 (fun v => (⟨x1.Env, x1.groups, v, x1.header, x1.depth⟩ : exec_run_o2)) 71 Z08 x1.out) (fun _ : Unit => top) (fun _ => Z0t g2 gT Z18 (fun v => (⟨r.Env, r.groups, v, r.header, r.depth⟩ : exec_run_o2)) 71 Z08 r.out)) (g2 gT : Nat) (x1 : Z0g) (i4 : Int) (r : Z0g) (h : Zcd R_exec_run_do R_exec_run_group x1 i4 = some r) : Con Tryz.prog 178 [Zb g2 (Lens.id Z18), rd (Z0 .i64) i4] (Z0t g2 gT Z18 (fun v => (⟨x1.Env, x1.groups, v, x1.header, x1.depth⟩ : exec_run_o2)) 71 Z08 x1.out) (fun _ : Unit => top) (fun _ => Z0t g2 gT Z18 (fun v => (⟨r.Env, r.groups, v, r.header, r.depth⟩ : exec_run_o2)) 71 Z08 r.out) := by
 refine Con.intro Tryz.func178 rfl Tryz.ntmps178 rfl fun w H X => ?_
 unfold Zcd at h
 refine AW.unboxF 0 2002 (by decide) rfl rfl fun v3 => sq ?_
 obtain ⟨x5, hx5, h⟩ := Za h
 refine Rg <| Mp rfl <| Nc rfl <| Zj lexec_run_o2_1 Ygj rfl <| Ld Zh9 0 rfl <| Md rfl <| Cl [13, 14] (Y12 _ _ _ hx5) Zzk rfl <| Mt2 rfl <| Ac (Z1h rfl rfl (vt rfl)) rfl <| Ac (Z1f rfl rfl (vt rfl)) rfl <| Cv rfl (Zp 5 rfl rfl Zck) fun g6 => Zh Z6i 5 rfl <| As rfl <| Nl <| sq <| SR <| Md rfl <| Ac (Z15 rfl rfl (vt rfl)) rfl <| Md rfl <| Gd rfl (fun hq => Zs (A := Zb g2 (Lens.id Z18)) rfl rfl (vt rfl)) <| Gd rfl (fun hq => Zqr rfl rfl (Zo rfl hq)) <| Gd rfl (fun hq => Z3y Zhf rfl rfl Zk8 (Zo rfl hq)) <| Gd rfl (fun hq => Z29 rfl rfl Zt (Zo rfl hq) (i := 0) rfl) <| Gd rfl (fun hq => Z4z rfl rfl (Zo rfl hq) (vk rfl)) <| Ac (Za0 rfl rfl (vt rfl) (vt rfl)) rfl <| Nl <| Cq rfl h (fun h => ?_) (fun h => ?_)
 ·refine rt ?_
  cases h; exact RetOK.turn (Turn.packF 0 2002 (fun v => (⟨x1.Env, x1.groups, v, x1.header, x1.depth⟩ : exec_run_o2)) (by decide) rfl rfl) (Z20 (i := 0) Tryz.results178 rfl rfl)
 ·refine sk <| SR <| Mp rfl <| Nc rfl <| Zj lexec_run_o2_3 Zfv rfl <| Ld Z0f 0 rfl <| Cv rfl (Zp 7 rfl rfl Z3n) fun g7 => Zh Z0f 7 rfl <| Nl <| SR <| Mp rfl <| Nc rfl <| Zj Zhf Zk8 rfl <| Ld Zt 0 rfl <| Ac (Z06 rfl rfl (vt rfl) (vk rfl)) rfl <| Nc rfl <| Zj Zhf Zk8 rfl <| Zh Zt 0 rfl <| Nl <| sq <| sq ?_
  obtain ⟨x8, hx8, h⟩ := Za h
  refine AR Zx (by kernel_rfl) <| SMp rfl <| SNc rfl <| SFd lexec_run_o2_0 Yjv rfl <| Zk Z6h 0 rfl <| Zk Z6i 5 rfl <| SCl [41, 42] (Yly _ _ _ hx8) Ygc rfl <| Sd (lo [43] [] rfl fun S hs hr => Z0x rfl rfl Z0y (vh hs 43 rfl rfl)) <| Sd (lo [] [] rfl fun S hs hr => Zs (A := rd (Z0 .i64) 0) rfl rfl (vk rfl)) <| Sn <| bk <| LG (d := []) (ν := (List Int) × Nat × (List Out) × Env × (List Group) × Z0j × Int × Value) (fun (l22, i21, l15, b17, b18, b19, b20, v16) => (Sfx x8 i21 l22 ∧ Zar x5 R_exec_run_do x1 l22 i21 l15 b17 b18 b19 b20 = some r, l22.length, [(0, Zb g2 (Lens.id Z18)), (4, Zb g6 (Lens.id Z0d)), (6, Zb g7 (Lens.id (Z1 24 Zd))), (43, rd (Z2 (Z0 .i64)) x8), (44, rd (Z0 .i64) (x8.length : Int)), (45, rd (Z0 .i64) (i21 : Int))], [(0, Ze g2 gT Z18 (⟨b17, b18, v16, b19, b20⟩ : exec_run_o2)), (5, Ze g6 164 Z0d x5.1), (7, Ze g7 44 (Z1 24 Zd) x1.header), (2002, Zc v16 71 Z08 l15)])) (x8, 0, x1.out, x1.Env, x1.groups, x1.header, (IntKind.i64.wrap (x1.depth + 1)), v3) ⟨Sfx.start _, h⟩ (FX rfl) ?_
  rintro ⟨l22, i21, l15, b17, b18, b19, b20, v16⟩ ⟨hsf1, h⟩
  dsimp only at hsf1 h ⊢
  cases l22 with
  | nil =>
   unfold Zar at h
   refine SR <| Ac (Zn rfl rfl (vt rfl) (vt rfl)) rfl <| Nl <| sq <| Cn rfl (fun hc => absurd (of_decide_eq_true hc) hsf1.nil) (fun hc => ?_)
   refine xt <| Rg <| Mp rfl <| Nc rfl <| Zj Zhf Zk8 rfl <| Ld Zt 0 rfl <| Ac (Z0p rfl rfl (vt rfl) (vk rfl)) rfl <| Nc rfl <| Zj Zhf Zk8 rfl <| Zh Zt 0 rfl <| Nl ?_
   cases h; exact RetOK.turn (Turn.packF 0 2002 (fun v => (⟨b17, b18, v, b19, (IntKind.i64.wrap (b20 - 1))⟩ : exec_run_o2)) (by decide) rfl rfl) (Z20 (i := 0) Tryz.results178 rfl rfl)
  | cons x23 l22 =>
   unfold Zar at h
   refine SR <| Ac (Zn rfl rfl (vt rfl) (vt rfl)) rfl <| Nl <| sq <| Cn rfl (fun hc => ?_) (fun hc => absurd hsf1.cons (of_decide_eq_false hc))
   have hlti21 := of_decide_eq_true hc
   refine sk <| sq <| bk <| SR <| Ac (Z0q rfl rfl Z0y (vt rfl) (vt rfl) hsf1.lget) rfl <| Lp1 Zt rfl <| As rfl <| Nl <| sq ?_
   obtain ⟨x24, hx24, x25, hx25, x26, hx26, b27, hb27, h⟩ := bs4 h
   refine Rg <| Mp rfl <| Zj Z99 Zb5 rfl <| Ld Zbv 5 rfl <| Md rfl <| Ac (Z0q rfl rfl Z72 (vt rfl) (vt rfl) hx24) rfl <| Fp Zkp Zn1 rfl <| Lp1 Z3q rfl <| Ac (Z0r (xs := [.const (Value.slice none 0 0), .tmp 55]) (Zue _ _ _ hx25) Zt8 rfl rfl ⟨Z1p, vt rfl, trivial⟩) rfl <| Cl [56] (Zsm _ _ hx26) Zsi rfl <| AOps.packF 0 2002 (fun v => (⟨b17, b18, v, b19, b20⟩ : exec_run_o2)) (by decide) rfl rfl <| Cv rfl (Z1b 0 (xs := [.tmp 49, .tmp 57]) (hR_exec_run_do _ _ _ _ _ hb27) Y2a rfl rfl ⟨vt rfl, vt rfl, trivial⟩ rfl) fun _u => AOps.unboxF 0 2002 (by decide) rfl rfl fun v28 => Nl <| Rg <| Mp rfl <| Ld Z0f 7 rfl <| Nc rfl <| Zj lexec_run_o2_3 Zfv rfl <| Zh Z0f 0 rfl <| Nl <| Rg <| Ac (Z23 (t := 44) rfl rfl (vt rfl) (vk rfl) (vt rfl) hlti21) rfl <| Md rfl <| Nl ?_
   exact ⟨(_, _, _, _, _, _, _, _), Nat.lt_succ_self _, ⟨hsf1.next, h⟩, FX rfl⟩
def Z7q (R_exec_run_group : (Z0g → Int → Option Z0g)) : (List Action) → Nat → (List Out) → Env → (List Group) → Z0j → Int → Option Z0g
 | [], i17, l11, b13, b14, b15, b16 => some (⟨b13, b14, l11, b15, b16⟩ : Z0g)
 | x19 :: l18, i17, l11, b13, b14, b15, b16 => (bif (decide (x19.Kind = 0)) then (Zkz x19).bind fun x21 => (Z0u l11 [(⟨x19.Port, x21, b15⟩ : Out)]).bind fun l22 => (Z7q R_exec_run_group l18) (i17 + 1) l22 b13 b14 b15 b16 else (bif (decide (x19.Kind = 22)) then (R_exec_run_group (⟨b13, b14, l11, b15, b16⟩ : Z0g) x19.Group).bind fun b24 => (Z7q R_exec_run_group l18) (i17 + 1) b24.out b24.Env b24.groups b24.header b24.depth else (Zfm x19).bind fun x26 => (Zc2 x26 b15).bind fun x27 => (Z7q R_exec_run_group l18) (i17 + 1) l11 b13 b14 x27 b16))
def Ze5 (R_exec_run_do : (Z0g → (List Action) → Option Z0g)) (R_exec_run_group : (Z0g → Int → Option Z0g)) (x1 : Z0g) (a4 : (List Action)) : Option Z0g :=
 Z7q R_exec_run_group a4 0 x1.out x1.Env x1.groups x1.header x1.depth
theorem Yet (R_exec_run_do : (Z0g → (List Action) → Option Z0g)) (hR_exec_run_do : ∀ (g2 gT : Nat) (x1 : Z0g) (a4 : (List Action)) (r : Z0g), R_exec_run_do x1 a4 = some r → Con Tryz.prog 239 [Zb g2 (Lens.id Z18), rd (Z2 Z8) a4] (Z0t g2 gT Z18 (fun v => (⟨x1.Env, x1.groups, v, x1.header, x1.depth⟩ : exec_run_o2)) 71 Z08 x1.out) (fun _ : Unit => top) (fun _ => Z0t g2 gT Z18 (fun v => (⟨r.Env, r.groups, v, r.header, r.depth⟩ : exec_run_o2)) 71 Z08 r.out)) (R_exec_run_group : (Z0g → Int → Option Z0g)) (hR_exec_run_group : ∀ (g2 gT : Nat) (x1 : Z0g) (i4 : Int) (r : Z0g), R_exec_run_group x1 i4 = some r → Con Tryz.prog 178 [Zb g2 (Lens.id Z18), rd (Z0 .i64) i4] (Z0t g2 gT Z18 (fun v => (⟨x1.Env, x1.groups, v, x1.header, x1.depth⟩ : exec_run_o2)) 71 Z08 x1.out) (fun _ : Unit => top) (fun _ => Z0t g2 gT Z18 (fun v => (⟨r.Env, r.groups, v, r.header, r.depth⟩ : exec_run_o2)) 71 Z08 r.out)) (g2 gT : Nat) (x1 : Z0g) (a4 : (List Action)) (r : Z0g) (h : Ze5 R_exec_run_do R_exec_run_group x1 a4 = some r) : Con Tryz.prog 239 [Zb g2 (Lens.id Z18), rd (Z2 Z8) a4] (Z0t g2 gT Z18 (fun v => (⟨x1.Env, x1.groups, v, x1.header, x1.depth⟩ : exec_run_o2)) 71 Z08 x1.out) (fun _ : Unit => top) (fun _ => Z0t g2 gT Z18 (fun v => (⟨r.Env, r.groups, v, r.header, r.depth⟩ : exec_run_o2)) 71 Z08 r.out) := by
 refine Con.intro Tryz.func239 rfl Tryz.ntmps239 rfl fun w H X => ?_
 unfold Ze5 at h
 refine AW.unboxF 0 2002 (by decide) rfl rfl fun v3 => SR <| Md rfl <| Ac (Z0x rfl rfl Z0c (vt rfl)) rfl <| Mk rfl <| Nl <| bk <| LG (d := []) (ν := (List Action) × Nat × (List Out) × Env × (List Group) × Z0j × Int × Value) (fun (l18, i17, l11, b13, b14, b15, b16, v12) => (Sfx a4 i17 l18 ∧ Z7q R_exec_run_group l18 i17 l11 b13 b14 b15 b16 = some r, l18.length, [(0, Zb g2 (Lens.id Z18)), (6, rd (Z2 Z8) a4), (7, rd (Z0 .i64) (a4.length : Int)), (8, rd (Z0 .i64) (i17 : Int))], [(0, Ze g2 gT Z18 (⟨b13, b14, v12, b15, b16⟩ : exec_run_o2)), (2002, Zc v12 71 Z08 l11)])) (a4, 0, x1.out, x1.Env, x1.groups, x1.header, x1.depth, v3) ⟨Sfx.start _, h⟩ (FX rfl) ?_
 rintro ⟨l18, i17, l11, b13, b14, b15, b16, v12⟩ ⟨hsf1, h⟩
 dsimp only at hsf1 h ⊢
 cases l18 with
 | nil =>
  unfold Z7q at h
  refine SR <| Ac (Zn rfl rfl (vt rfl) (vt rfl)) rfl <| Nl <| sq <| Cn rfl (fun hc => absurd (of_decide_eq_true hc) hsf1.nil) (fun hc => ?_)
  refine xt ?_
  cases h; exact RetOK.turn (Turn.packF 0 2002 (fun v => (⟨b13, b14, v, b15, b16⟩ : exec_run_o2)) (by decide) rfl rfl) (Z20 (i := 0) Tryz.results239 rfl rfl)
 | cons x19 l18 =>
  unfold Z7q at h
  refine SR <| Ac (Zn rfl rfl (vt rfl) (vt rfl)) rfl <| Nl <| sq <| Cn rfl (fun hc => ?_) (fun hc => absurd hsf1.cons (of_decide_eq_false hc))
  have hlti17 := of_decide_eq_true hc
  refine sk <| sq <| bk <| SR <| Ac (Z0q rfl rfl Z0c (vt rfl) (vt rfl) hsf1.lget) rfl <| Lp1 Z0s rfl <| Cv rfl (Zp 6 rfl rfl Z5v) fun g20 => Zh Z0s 6 rfl <| Nl <| SR <| Zj Z51 Z58 rfl <| Ld Zt 6 rfl <| Nl <| bk <| SR <| Ac (Z0m rfl rfl (vt rfl) (vk rfl)) rfl <| As rfl <| Nl <| Cq rfl h (fun h => ?_) (fun h => ?_)
  ·obtain ⟨x21, hx21, l22, hl22, h⟩ := bs2 h
   refine AR Zx (by kernel_rfl) <| SMp rfl <| SMp rfl <| SNc rfl <| SFd Zgx Zpi rfl <| Sd (lo [29] [0] rfl fun S hs hr => Z6s v12 rfl rfl Z6z (vh hs 29 rfl rfl) (i := 0) ((hr 0 rfl).trans rfl) rfl) <| SFd Zhw Zjb rfl <| Zk Zt 6 rfl <| Zk Z0s 6 rfl <| SCl [33] (Ylu _ _ hx21) Y7b rfl <| SMp rfl <| SNc rfl <| SFd lexec_run_o2_3 Zfv rfl <| Zk Z0f 0 rfl <| Sd (lo [32, 34, 38] [] rfl fun S hs hr => opb (⟨x19.Port, x21, b15⟩ : Out) Zm9 rfl Zx5 (pc Y0j (vh hs 32 rfl rfl) <| pc Zzr (vh hs 34 rfl rfl) <| pc Y02 (vh hs 38 rfl rfl) <| pn rfl)) <| Sd (lo [39] [] rfl fun S hs hr => osl Zbp Zm9 rfl (vh hs 39 rfl rfl)) <| Sd (Z11 (us := [(41, Z1v 71 Z08 l22)]) (ur := [(2002, emp)]) [30, 40] [2002] rfl fun S hs hr => Z78 2002 hl22 rfl rfl rfl Zov (vh hs 30 rfl rfl) ((hr 2002 rfl).trans rfl) (vh hs 40 rfl rfl)) <| SNc rfl <| SFd Zgx Zpi rfl <| Sd (Z11 (us := [(41, top)]) (ur := [(0, Z0t g2 gT Z18 (fun v => ((Lens.comp (Lens.id Z18) Zgx)).set (⟨b13, b14, v12, b15, b16⟩ : exec_run_o2) v) 71 Z08 l22)]) [43, 41] [0] rfl fun S hs hr => Zmv rfl rfl Z6z (vh hs 43 rfl rfl) ((hr 0 rfl).trans rfl) ((hs 41 rfl).trans rfl)) <| Sn <| AW.unboxF 0 2002 (by decide) rfl rfl fun v23 => Rg <| Ac (Z23 (t := 7) rfl rfl (vt rfl) (vk rfl) (vt rfl) hlti17) rfl <| Md rfl <| Nl ?_
   exact ⟨(_, _, _, _, _, _, _, _), Nat.lt_succ_self _, ⟨hsf1.next, h⟩, FX rfl⟩
  ·refine SR <| Ac (Z0m rfl rfl (vt rfl) (vk rfl)) rfl <| As rfl <| Nl <| Cq rfl h (fun h => ?_) (fun h => ?_)
   ·obtain ⟨b24, hb24, h⟩ := Za h
    refine Rg <| Mp rfl <| Zj Zpk Zr5 rfl <| Ld Zt 6 rfl <| AOps.packF 0 2002 (fun v => (⟨b13, b14, v, b15, b16⟩ : exec_run_o2)) (by decide) rfl rfl <| Cv rfl (Z1b 0 (xs := [.tmp 46, .tmp 48]) (hR_exec_run_group _ _ _ _ _ hb24) Y4o rfl rfl ⟨vt rfl, vt rfl, trivial⟩ rfl) fun _u => AOps.unboxF 0 2002 (by decide) rfl rfl fun v25 => Nl <| Rg <| Ac (Z23 (t := 7) rfl rfl (vt rfl) (vk rfl) (vt rfl) hlti17) rfl <| Md rfl <| Nl ?_
    exact ⟨(_, _, _, _, _, _, _, _), Nat.lt_succ_self _, ⟨hsf1.next, h⟩, FX rfl⟩
   ·obtain ⟨x26, hx26, x27, hx27, h⟩ := bs2 h
    refine AR Zx (by kernel_rfl) <| SMp rfl <| Zk Z0s 6 rfl <| SCl [15] (Zxx _ _ hx26) Zyf rfl <| SMp rfl <| SNc rfl <| SFd lexec_run_o2_3 Zfv rfl <| Zk Z0f 0 rfl <| SCl [16, 20] (Zsq _ _ _ hx27) Zqg rfl <| SNc rfl <| SFd lexec_run_o2_3 Zfv rfl <| SSt Z0f 0 rfl <| Sn <| Rg <| Ac (Z23 (t := 7) rfl rfl (vt rfl) (vk rfl) (vt rfl) hlti17) rfl <| Md rfl <| Nl ?_
    exact ⟨(_, _, _, _, _, _, _, _), Nat.lt_succ_self _, ⟨hsf1.next, h⟩, FX rfl⟩
def Z2y : Nat → (Z0g → (List Action) → Option Z0g) × (Z0g → Int → Option Z0g)
 | 0 => ((fun _ _ => none), (fun _ _ => none))
 | n + 1 => ((Ze5 (Z2y n).1 (Z2y n).2), (Zcd (Z2y n).1 (Z2y n).2))
theorem Zqc : ∀ n : Nat, (∀ (g2 gT : Nat) (x1 : Z0g) (a4 : (List Action)) (r : Z0g), (Z2y n).1 x1 a4 = some r → Con Tryz.prog 239 [Zb g2 (Lens.id Z18), rd (Z2 Z8) a4] (Z0t g2 gT Z18 (fun v => (⟨x1.Env, x1.groups, v, x1.header, x1.depth⟩ : exec_run_o2)) 71 Z08 x1.out) (fun _ : Unit => top) (fun _ => Z0t g2 gT Z18 (fun v => (⟨r.Env, r.groups, v, r.header, r.depth⟩ : exec_run_o2)) 71 Z08 r.out)) ∧ (∀ (g2 gT : Nat) (x1 : Z0g) (i4 : Int) (r : Z0g), (Z2y n).2 x1 i4 = some r → Con Tryz.prog 178 [Zb g2 (Lens.id Z18), rd (Z0 .i64) i4] (Z0t g2 gT Z18 (fun v => (⟨x1.Env, x1.groups, v, x1.header, x1.depth⟩ : exec_run_o2)) 71 Z08 x1.out) (fun _ : Unit => top) (fun _ => Z0t g2 gT Z18 (fun v => (⟨r.Env, r.groups, v, r.header, r.depth⟩ : exec_run_o2)) 71 Z08 r.out))
 | 0 => ⟨(by intros; rename_i h; cases h), (by intros; rename_i h; cases h)⟩
 | n + 1 => by
  have ih := Zqc n
  exact ⟨(Yet (Z2y n).1 ih.1 (Z2y n).2 ih.2), (Y5x (Z2y n).1 ih.1 (Z2y n).2 ih.2)⟩
def Ztu (x1 : Z0g) (a4 : (List Action)) : Option Z0g := (Z2y Z0l).1 x1 a4
theorem Ygb : ∀ (g2 gT : Nat) (x1 : Z0g) (a4 : (List Action)) (r : Z0g), Ztu x1 a4 = some r → Con Tryz.prog 239 [Zb g2 (Lens.id Z18), rd (Z2 Z8) a4] (Z0t g2 gT Z18 (fun v => (⟨x1.Env, x1.groups, v, x1.header, x1.depth⟩ : exec_run_o2)) 71 Z08 x1.out) (fun _ : Unit => top) (fun _ => Z0t g2 gT Z18 (fun v => (⟨r.Env, r.groups, v, r.header, r.depth⟩ : exec_run_o2)) 71 Z08 r.out) := (Zqc Z0l).1
def Zsz (x1 : Z0g) (i4 : Int) : Option Z0g := (Z2y Z0l).2 x1 i4
theorem Y5j : ∀ (g2 gT : Nat) (x1 : Z0g) (i4 : Int) (r : Z0g), Zsz x1 i4 = some r → Con Tryz.prog 178 [Zb g2 (Lens.id Z18), rd (Z0 .i64) i4] (Z0t g2 gT Z18 (fun v => (⟨x1.Env, x1.groups, v, x1.header, x1.depth⟩ : exec_run_o2)) 71 Z08 x1.out) (fun _ : Unit => top) (fun _ => Z0t g2 gT Z18 (fun v => (⟨r.Env, r.groups, v, r.header, r.depth⟩ : exec_run_o2)) 71 Z08 r.out) := (Zqc Z0l).2
def Zko (l1 : (List Group)) (x2 : Env) (i3 : Int) (x4 : Z0j) : Option (List Out) :=
 (Zsz (⟨x2, l1, [], x4, 0⟩ : Z0g) i3).bind fun b8 => some b8.out
theorem Y9d : Q4 Tryz.prog 110 (rd (Z2 Z0d)) (rd Z1m) (rd (Z0 .i64)) (rd (Z1 24 Zd)) (rd (Z2 Z08)) Zko := fun l1 x2 i3 x4 r h => I0 Tryz.func110 rfl Tryz.ntmps110 rfl fun w H => by
 unfold Zko at h
 refine SR <| Cv rfl (Zl 6 rfl rfl (vt rfl)) fun g5 => Cv rfl (Zl 8 rfl rfl (vt rfl)) fun g6 => Ac (Zy (A := rd (Z2 Z08) []) rfl rfl Z1p) rfl <| Nl <| sq <| AW.newnil 2302 71 Z08 <| Rg <| Ld Z6h 6 rfl <| Md rfl <| Ld Z0f 8 rfl <| Ac (opb (⟨x2, l1, (.slice none 0 0), x4, 0⟩ : exec_run_o2) Zvs rfl Zxt (pc Zw6 (vt rfl) <| pc Y3m (vt rfl) <| pc Zw8 (vt rfl) <| pn rfl)) rfl <| Cv rfl (Zl 15 rfl rfl (vt rfl)) fun g7 => Ac (Zy (A := Zb g7 (Lens.id Z18)) rfl rfl (vt rfl)) rfl <| Nl <| sq ?_
 obtain ⟨b8, hb8, h⟩ := Za h
 refine Rg <| Mp rfl <| Md rfl <| AOps.packF 15 2302 (fun v => (⟨x2, l1, v, x4, 0⟩ : exec_run_o2)) (by decide) rfl rfl <| Cv rfl (Z1b 15 (xs := [.tmp 15, .tmp 16]) (Y5j _ _ _ _ _ hb8) Y4o rfl rfl ⟨vt rfl, vt rfl, trivial⟩ rfl) fun _u => AOps.unboxF 15 2302 (by decide) rfl rfl fun v9 => Nl <| SR <| Mp rfl <| Nc rfl <| Zj Zgx Zpi rfl <| Ac (Z6s v9 rfl rfl Z6z (vt rfl) (i := 15) rfl rfl) rfl <| Aw rfl <| Nl <| AW.freezes [8, 21] 2302 rfl ⟨rfl, rfl, trivial⟩ rfl <| rt ?_
 cases h; exact Zg Tryz.results110 rfl (Z4 rfl)
def Zg5 (x1 : Atom) (x2 : Z0j) (x3 : (List Out)) (x6 : (List Group)) (x7 : Env) : Option (List Out) :=
 (Zc2 x1.Rewrite x2).bind fun x9 => (bif x1.Group then (Zko x6 x7 x1.Port x9).bind fun x11 => (Z0u x3 x11).bind fun l12 => some l12 else (Z0u x3 [(⟨x1.Port, x1.Max, x9⟩ : Out)]).bind fun l14 => some l14)
theorem Yd1 (g4 gT : Nat) (x1 : Atom) (x2 : Z0j) (x3 : (List Out)) (x6 : (List Group)) (x7 : Env) (r : (List Out)) (h : Zg5 x1 x2 x3 x6 x7 = some r) : Con Tryz.prog 108 [rd Z0b x1, rp (Z1 24 Zd) x2, Zb g4 (Lens.id kraw), rp (Z2 Z0d) x6, rp Z1m x7] (Z0t g4 gT kraw (fun v => v) 71 Z08 x3) (fun _ : Unit => top) (fun _ => Z0t g4 gT kraw (fun v => v) 71 Z08 r) := by
 refine Con.intro Tryz.func108 rfl Tryz.ntmps108 rfl fun w H X => ?_
 unfold Zg5 at h
 refine AW.unboxF 0 2019 (by decide) rfl rfl fun v5 => SR <| Cv rfl (Zl 6 rfl rfl (vt rfl)) fun g8 => Nl <| sq ?_
 obtain ⟨x9, hx9, h⟩ := Za h
 refine Rg <| Zj lAtom_0 Y82 rfl <| Ld Z02 6 rfl <| Lp1 Z0f rfl <| Cl [8, 9] (Zsq _ _ _ hx9) Zqg rfl <| Cv rfl (Zp 7 rfl rfl Z3n) fun g10 => Zh Z0f 7 rfl <| Nl <| sq <| SR <| Zj lAtom_1 Y1q rfl <| Ld ty4 6 rfl <| Nl <| Cq rfl h (fun h => ?_) (fun h => ?_)
 ·refine sq ?_
  obtain ⟨x11, hx11, l12, hl12, h⟩ := bs2 h
  refine AR Zx (by kernel_rfl) <| Sd (lo [2] [0] rfl fun S hs hr => Z6s v5 rfl rfl Z6z (vh hs 2 rfl rfl) (i := 0) ((hr 0 rfl).trans rfl) rfl) <| SLp Zh9 rfl <| SLp Z6h rfl <| SFd lAtom_2 Zjn rfl <| Zk Zt 6 rfl <| Zk Z0f 7 rfl <| SCl [14, 15, 17, 18] (Y9d _ _ _ _ _ hx11) Yjc rfl <| Sd (Z11 (us := [(20, Z1v 71 Z08 l12)]) (ur := [(2019, emp)]) [13, 19] [2019] rfl fun S hs hr => Z78 2019 hl12 rfl rfl rfl Zov (vh hs 13 rfl rfl) ((hr 2019 rfl).trans rfl) (vh hs 19 rfl rfl)) <| Sd (Z11 (us := [(20, top)]) (ur := [(0, Z0t g4 gT kraw (fun v => ((Lens.id kraw)).set v5 v) 71 Z08 l12)]) [2, 20] [0] rfl fun S hs hr => Zmv rfl rfl Z6z (vh hs 2 rfl rfl) ((hr 0 rfl).trans rfl) ((hs 20 rfl).trans rfl)) <| Sn <| AW.unboxF 0 2019 (by decide) rfl rfl fun v13 => rt ?_
  cases h; exact RetOK.turn (Turn.packF 0 2019 (fun v => v) (by decide) rfl rfl) (Z20 (i := 0) Tryz.results108 rfl rfl)
 ·refine sk ?_
  obtain ⟨l14, hl14, h⟩ := Za h
  refine Rg <| Ac (Z6s v5 rfl rfl Z6z (vt rfl) (i := 0) rfl rfl) rfl <| Zj lAtom_2 Zjn rfl <| Ld Zt 6 rfl <| Zj Znw Ztw rfl <| Ld Zt 6 rfl <| Ld Z0f 7 rfl <| Ac (opb (⟨x1.Port, x1.Max, x9⟩ : Out) Zm9 rfl Zx5 (pc Y0j (vt rfl) <| pc Zzr (vt rfl) <| pc Y02 (vt rfl) <| pn rfl)) rfl <| Ac (osl Zbp Zm9 rfl (vt rfl)) rfl <| Cv rfl (Z2m 2019 hl14 rfl rfl Zov (vt rfl) rfl (vt rfl)) fun v15 => Ac (Z5s rfl rfl Z6z (vt rfl) (i := 0) rfl (Zoq (i := 2019) rfl rfl)) rfl <| Nl ?_
  cases h; exact RetOK.turn (Turn.packF 0 2019 (fun v => v) (by decide) rfl rfl) (Z20 (i := 0) Tryz.results108 rfl rfl)
end Go.Proofs.YtknpgojdkobgjaaGreat.W
set_option maxRecDepth 4000
namespace Go.Proofs.YtknpgojdkobgjaaGreat.W
open Go Go.Wb
theorem Ykd : Ent Tryz.prog 108 := Ent.mk Tryz.func108 rfl rfl
theorem Yhy : Ent Tryz.prog 107 := Ent.mk Tryz.func107 rfl rfl
theorem e42 : Ent Tryz.prog 42 := Ent.mk Tryz.func42 rfl rfl
theorem e51 : Ent Tryz.prog 51 := Ent.mk Tryz.func51 rfl rfl
theorem e46 : Ent Tryz.prog 46 := Ent.mk Tryz.func46 rfl rfl
theorem e44 : Ent Tryz.prog 44 := Ent.mk Tryz.func44 rfl rfl
theorem e61 : Ent Tryz.prog 61 := Ent.mk Tryz.func61 rfl rfl
theorem e41 : Ent Tryz.prog 41 := Ent.mk Tryz.func41 rfl rfl
theorem Ydb : Ent Tryz.prog 156 := Ent.mk Tryz.func156 rfl rfl
theorem e88 : Ent Tryz.prog 88 := Ent.mk Tryz.func88 rfl rfl
def Zan (sg : Type) (d2 : (sg → Atom → Option sg)) : (List Atom) → Nat → sg → Option sg
 | [], i6, s5 => some s5
 | x8 :: l7, i6, s5 => (d2 s5 x8).bind fun s10 => (Zan sg d2 l7) (i6 + 1) s10
def Zoo (l1 : (List Atom)) (sg : Type) (d2 : (sg → Atom → Option sg)) (s3 : sg) : Option sg :=
 Zan sg d2 l1 0 s3
theorem Yho (l1 : (List Atom)) (sg : Type) (d2 : (sg → Atom → Option sg)) (L : sg → Zv) (s3 : sg) (r : sg) (h : Zoo l1 sg d2 s3 = some r) : Con Tryz.prog 107 [rd (Z2 Z0b) l1, stA Tryz.prog Z0b d2 L] (L s3) (fun _ : Unit => top) (fun _ => L r) := by
 refine Con.intro Tryz.func107 rfl Tryz.ntmps107 rfl fun w H X => ?_
 unfold Zoo at h
 refine SR <| Md rfl <| Ac (Z0x rfl rfl Z5r (vt rfl)) rfl <| Mk rfl <| Nl <| bk <| LG (d := []) (ν := (List Atom) × Nat × sg) (fun (l7, i6, s5) => (Sfx l1 i6 l7 ∧ Zan sg d2 l7 i6 s5 = some r, l7.length, [(1, stA Tryz.prog Z0b d2 L), (6, rd (Z2 Z0b) l1), (7, rd (Z0 .i64) (l1.length : Int)), (8, rd (Z0 .i64) (i6 : Int))], [(0, L s5)])) (l1, 0, s3) ⟨Sfx.start _, h⟩ (FX rfl) ?_
 rintro ⟨l7, i6, s5⟩ ⟨hsf1, h⟩
 dsimp only at hsf1 h ⊢
 cases l7 with
 | nil =>
  unfold Zan at h
  refine SR <| Ac (Zn rfl rfl (vt rfl) (vt rfl)) rfl <| Nl <| sq <| Cn rfl (fun hc => absurd (of_decide_eq_true hc) hsf1.nil) (fun hc => ?_)
  refine xt ?_
  cases h; exact Z20 (i := 0) Tryz.results107 rfl rfl
 | cons x8 l7 =>
  unfold Zan at h
  refine SR <| Ac (Zn rfl rfl (vt rfl) (vt rfl)) rfl <| Nl <| sq <| Cn rfl (fun hc => ?_) (fun hc => absurd hsf1.cons (of_decide_eq_false hc))
  have hlti6 := of_decide_eq_true hc
  refine sk <| sq <| bk <| SR <| Ac (Z0q rfl rfl Z5r (vt rfl) (vt rfl) hsf1.lget) rfl <| Lp1 Zcc rfl <| Cv rfl (Zp 6 rfl rfl Z5f) fun g9 => Zh Zcc 6 rfl <| Nl ?_
  obtain ⟨s10, hs10, h⟩ := Za h
  refine Rg <| Ac (Zs (A := stA Tryz.prog Z0b d2 L) rfl rfl (vt rfl)) rfl <| Ld Zcc 6 rfl <| Ac (Y09 0 hs10 rfl rfl (vt rfl) (vt rfl) rfl) rfl <| Nl <| Rg <| Ac (Z23 (t := 7) rfl rfl (vt rfl) (vk rfl) (vt rfl) hlti6) rfl <| Md rfl <| Nl ?_
  exact ⟨(_, _, _), Nat.lt_succ_self _, ⟨hsf1.next, h⟩, FX rfl⟩
def Zlf (l1 : (List Group)) (x2 : Env) (a3 : (List Atom)) (x4 : Z0j) : Option (List Out) :=
 (Zoo a3 (List Out) (fun s x => Zg5 x x4 s l1 x2) []).bind fun b9 => some b9
theorem Yfb : Q4 Tryz.prog 51 (rd (Z2 Z0d)) (rd Z1m) (rd (Z2 Z0b)) (rd (Z1 24 Zd)) (rd (Z2 Z08)) Zlf := fun l1 x2 a3 x4 r h => I0 Tryz.func51 rfl Tryz.ntmps51 rfl fun w H => by
 unfold Zlf at h
 refine SR <| Cv rfl (Zl 5 rfl rfl (vt rfl)) fun g5 => Cv rfl (Zl 6 rfl rfl (vt rfl)) fun g6 => Cv rfl (Zl 8 rfl rfl (vt rfl)) fun g7 => Ac (Zy (A := rd (Z2 Z08) []) rfl rfl Z1p) rfl <| Nl <| sq <| AW.newnil 2219 71 Z08 <| Rg <| Cv rfl (Zp 10 rfl rfl Yki) fun g8 => Nl <| sq <| AW.freezeB 7 8 rfl rfl rfl <| AW.freezeB 4 5 rfl rfl rfl <| AW.freezeB 5 6 rfl rfl rfl ?_
 obtain ⟨b9, hb9, h⟩ := Za h
 refine Rg <| Md rfl <| Ac (Y1s (fs := []) (cs := [.tmp 7, .tmp 9, .tmp 4, .tmp 5]) (FAs := []) (CAs := [rp (Z1 24 Zd) x4, Zb g8 (Lens.id kraw), rp (Z2 Z0d) l1, rp Z1m x2]) (k := Z0b) (fun s x => Zg5 x x4 s l1 x2) (fun (s : (List Out)) => Z0t g8 46 kraw (fun v => v) 71 Z08 s) rfl rfl Ykd trivial ⟨vt rfl, vt rfl, vt rfl, vt rfl, trivial⟩ (fun s x s2 h => Yd1 _ _ x x4 s l1 x2 s2 h)) rfl <| AOps.packF 10 2219 (fun v => v) (by decide) rfl rfl <| Cv rfl (Z1b 10 (xs := [.tmp 10, .tmp 11]) (Yho _ (List Out) _ (fun (s : (List Out)) => Z0t g8 46 kraw (fun v => v) 71 Z08 s) _ _ hb9) Yhy rfl rfl ⟨vt rfl, vt rfl, trivial⟩ rfl) fun _u => AOps.unboxF 10 2219 (by decide) rfl rfl fun v10 => Nl <| SR <| Ac (Z6s v10 rfl rfl Z6z (vt rfl) (i := 10) rfl rfl) rfl <| Aw rfl <| Nl <| AW.freezes [8, 13] 2219 rfl ⟨rfl, rfl, trivial⟩ rfl <| rt ?_
 cases h; exact Zg Tryz.results51 rfl (Z4 rfl)
def Zgz (x1 : Flat) (x2 : Env) (x3 : Z0j) : Option (List Out) :=
 (Zdx x1 x3).bind fun x7 => (bif (!x7.2) then some [] else (lget x1.Rules x7.1).bind fun x8 => (Zlf x1.Groups x2 x8.Atoms x3).bind fun x9 => some x9)
theorem Y0g : Q3 Tryz.prog 44 (rd Z91) (rd Z1m) (rd (Z1 24 Zd)) (rd (Z2 Z08)) Zgz := fun x1 x2 x3 r h => I0 Tryz.func44 rfl Tryz.ntmps44 rfl fun w H => by
 unfold Zgz at h
 refine SR <| Cv rfl (Zl 4 rfl rfl (vt rfl)) fun g4 => Cv rfl (Zl 5 rfl rfl (vt rfl)) fun g5 => Cv rfl (Zl 6 rfl rfl (vt rfl)) fun g6 => Ac (Zy (A := rd (Z2 Z08) []) rfl rfl Z1p) rfl <| Nl <| sq ?_
 obtain ⟨x7, hx7, h⟩ := Za h
 refine Rg <| Ld Z6y 4 rfl <| Ld Z0f 6 rfl <| Cl [10, 11] (Zsv _ _ _ hx7) e42 rfl <| Mt2 rfl <| Ac (Z1h rfl rfl (vt rfl)) rfl <| Ac (Z1f rfl rfl (vt rfl)) rfl <| As rfl <| As rfl <| Nl <| sq <| SR <| Md rfl <| Ac (Z15 rfl rfl (vt rfl)) rfl <| Nl <| Cq rfl h (fun h => ?_) (fun h => ?_)
 ·refine SR <| Ac (Zy (A := rd (Z2 Z08) []) rfl rfl Z1p) rfl <| Nl <| rt ?_
  cases h; exact Zg Tryz.results44 rfl (Z4 rfl)
 ·refine sk <| sq ?_
  obtain ⟨x8, hx8, x9, hx9, h⟩ := bs2 h
  refine AR Zx (by kernel_rfl) <| SFd lFlat_1 Ygk rfl <| Zk Zh9 4 rfl <| Zk Z6h 5 rfl <| SFd lFlat_0 Zsu rfl <| Zk Zt6 4 rfl <| Zq rfl <| Sd (lo [21, 22] [] rfl fun S hs hr => Z0q rfl rfl Z30 (vh hs 21 rfl rfl) (vh hs 22 rfl rfl) hx8) <| SFp lRule_1 Zr3 rfl <| SLp Zaf rfl <| Zk Z0f 6 rfl <| SCl [18, 19, 25, 26] (Yfb _ _ _ _ _ hx9) e51 rfl <| SAs rfl <| Sn <| rt ?_
  cases h; exact Zg Tryz.results44 rfl (Z4 rfl)
def Zeo : Option Bool :=
 (Zdx (⟨[(⟨(Vector.set (Vector.replicate 24 zTern) 0 (⟨Z09, (⟨0, (1 : BitVec 64)⟩ : Wide)⟩ : Tern) (by decide)), [(⟨(Vector.replicate 24 zTern), false, 4, 0⟩ : Atom)]⟩ : Rule), (⟨(Vector.replicate 24 zTern), []⟩ : Rule)], []⟩ : Flat) (Vector.set (Vector.replicate 24 Z09) 0 (⟨0, (1 : BitVec 64)⟩ : Wide) (by decide))).bind fun x2 => (Zun (⟨[(⟨(Vector.set (Vector.replicate 24 zTern) 0 (⟨Z09, (⟨0, (1 : BitVec 64)⟩ : Wide)⟩ : Tern) (by decide)), [(⟨(Vector.replicate 24 zTern), false, 4, 0⟩ : Atom)]⟩ : Rule), (⟨(Vector.replicate 24 zTern), []⟩ : Rule)], []⟩ : Flat) 1 9).bind fun x3 => (opt ((decide (x2.1 = 1)) && x2.2) (Zgz (⟨[(⟨(Vector.set (Vector.replicate 24 zTern) 0 (⟨Z09, (⟨0, (1 : BitVec 64)⟩ : Wide)⟩ : Tern) (by decide)), [(⟨(Vector.replicate 24 zTern), false, 4, 0⟩ : Atom)]⟩ : Rule), (⟨(Vector.replicate 24 zTern), []⟩ : Rule)], []⟩ : Flat) (⟨0, []⟩ : Env) (Vector.replicate 24 Z09))).bind fun x5 => some ((((((decide (x2.1 = 1)) && x2.2) && (decide ((x5.length : Int) = 1))) && x3.2.1) && (decide (x3.2.2 = 0))) && (decide (((Vector.get x3.1 (⟨0, by decide⟩ : _root_.Fin 24)).Lo) = (1 : BitVec 64))))
theorem Zuf : Q0 Tryz.prog 41 (rd Z7) Zeo := fun r h => I0 Tryz.func41 rfl Tryz.ntmps41 rfl fun w H => by
 unfold Zeo at h
 refine SR <| Ab rfl <| Nl <| SR <| Ac (opb (⟨0, (1 : BitVec 64)⟩ : Wide) Z1s rfl Z3o (pc Z6d (vku (1 : BitVec 64) rfl) <| pn rfl)) rfl <| Ac (opb (⟨Z09, (⟨0, (1 : BitVec 64)⟩ : Wide)⟩ : Tern) Z1d rfl Z3v (pc Z4k (vt rfl) <| pn rfl)) rfl <| Ac (Z1e (ps := [(0, .tmp 8)]) (x := (Vector.set (Vector.replicate 24 zTern) 0 (⟨Z09, (⟨0, (1 : BitVec 64)⟩ : Wide)⟩ : Tern) (by decide))) rfl rfl rfl (by kernel_rfl) Z13 ⟨_, _, Lens.idx 24 Z3 0 (by decide), _, by kernel_rfl, (vt rfl), rfl⟩) rfl <| Ac (opb (⟨(Vector.replicate 24 zTern), false, 4, 0⟩ : Atom) Z5f rfl Zom (pc Zqb (vk rfl) <| pn rfl)) rfl <| Ac (osl Z5r Z5f rfl (vt rfl)) rfl <| Ac (opb (⟨(Vector.set (Vector.replicate 24 zTern) 0 (⟨Z09, (⟨0, (1 : BitVec 64)⟩ : Wide)⟩ : Tern) (by decide)), [(⟨(Vector.replicate 24 zTern), false, 4, 0⟩ : Atom)]⟩ : Rule) Z4n rfl Zj7 (pc Zmd (vt rfl) <| pc Zm5 (vt rfl) <| pn rfl)) rfl <| Ac (opb (⟨(Vector.replicate 24 zTern), []⟩ : Rule) Z4n rfl Zj7 (pn rfl)) rfl <| Ac (Zpw (ps := [(0, .tmp 12), (1, .tmp 13)]) (l := [(⟨(Vector.set (Vector.replicate 24 zTern) 0 (⟨Z09, (⟨0, (1 : BitVec 64)⟩ : Wide)⟩ : Tern) (by decide)), [(⟨(Vector.replicate 24 zTern), false, 4, 0⟩ : Atom)]⟩ : Rule), (⟨(Vector.replicate 24 zTern), []⟩ : Rule)]) rfl rfl Z30 Z4n rfl rfl ⟨_, _, Lens.idx 2 Z00 0 (by decide), _, rfl, (vt rfl), _, _, Lens.idx 2 Z00 1 (by decide), _, rfl, (vt rfl), rfl⟩ rfl) rfl <| Ac (opb (⟨[(⟨(Vector.set (Vector.replicate 24 zTern) 0 (⟨Z09, (⟨0, (1 : BitVec 64)⟩ : Wide)⟩ : Tern) (by decide)), [(⟨(Vector.replicate 24 zTern), false, 4, 0⟩ : Atom)]⟩ : Rule), (⟨(Vector.replicate 24 zTern), []⟩ : Rule)], []⟩ : Flat) Zep rfl Zt2 (pc Y4u (vt rfl) <| pn rfl)) rfl <| Cv rfl (Zp 2 rfl rfl Zep) fun g1 => Zh Z6y 2 rfl <| Nl <| sq ?_
 obtain ⟨x2, hx2, h⟩ := Za h
 refine Rg <| Ld Z6y 2 rfl <| Ac (opb (⟨0, (1 : BitVec 64)⟩ : Wide) Z1s rfl Z3o (pc Z6d (vku (1 : BitVec 64) rfl) <| pn rfl)) rfl <| Ac (Z1e (ps := [(0, .tmp 18)]) (x := (Vector.set (Vector.replicate 24 Z09) 0 (⟨0, (1 : BitVec 64)⟩ : Wide) (by decide))) rfl rfl rfl (by kernel_rfl) Z3n ⟨_, _, Lens.idx 24 Zd 0 (by decide), _, by kernel_rfl, (vt rfl), rfl⟩) rfl <| Cl [17, 19] (Zsv _ _ _ hx2) e42 rfl <| Mt2 rfl <| Ac (Z1h rfl rfl (vt rfl)) rfl <| Ac (Z1f rfl rfl (vt rfl)) rfl <| As rfl <| As rfl <| Nl <| sq ?_
 obtain ⟨x3, hx3, h⟩ := Za h
 refine Rg <| Ld Z6y 2 rfl <| Ac (Z0r (xs := [.tmp 24, .const (Value.int IntKind.i64 1), .const (Value.int IntKind.i64 9)]) (Ymi _ _ _ _ hx3) e46 rfl rfl ⟨vt rfl, vk rfl, vk rfl, trivial⟩) rfl <| Ac (Zs (A := Z3m (rd (Z1 24 Zd) x3.1) (rd Z7 x3.2.1) (rd (Z0 .i64) x3.2.2)) rfl rfl (vt rfl)) rfl <| Ac (Zdy rfl rfl (vt rfl)) rfl <| Ac (Zdn rfl rfl (vt rfl)) rfl <| Ac (Zdu rfl rfl (vt rfl)) rfl <| Cv rfl (Zp 5 rfl rfl Z3n) fun g4 => Zh Z0f 5 rfl <| As rfl <| As rfl <| Nl <| sq ?_
 obtain ⟨x5, hx5, h⟩ := Za h
 refine Rg <| Md rfl <| Ac (Z0m rfl rfl (vt rfl) (vk rfl)) rfl <| Md rfl <| Gd rfl (fun hq => Zs (A := rd Z7 x2.2) rfl rfl (vt rfl)) <| Ac (Z1t rfl rfl (vt rfl) (vt rfl)) rfl <| Md rfl <| Gd rfl (fun hq => Z29 rfl rfl Z6y (vt rfl) (i := 2) rfl) <| Gd rfl (fun hq => opb (⟨0, []⟩ : Env) Ylh rfl Y96 (pn rfl)) <| Gd rfl (fun hq => Z1e (ps := []) (x := (Vector.replicate 24 Z09)) rfl rfl rfl (by kernel_rfl) Z3n rfl) <| Gd rfl (fun hq => Z0r (xs := [.tmp 35, .tmp 36, .tmp 37]) (Y0g _ _ _ _ (Z28 hx5 hq)) e44 rfl rfl ⟨Zo rfl hq, Zo rfl hq, Zo rfl hq, trivial⟩) <| Gd rfl (fun hq => Z0x rfl rfl Zbp (Zo rfl hq)) <| Gd rfl (fun hq => Z0m rfl rfl (Zo rfl hq) (vk rfl)) <| Ac (Z1t rfl rfl (vt rfl) (vt rfl)) rfl <| Md rfl <| Gd rfl (fun hq => Zs (A := rd Z7 x3.2.1) rfl rfl (vt rfl)) <| Ac (Z1t rfl rfl (vt rfl) (vt rfl)) rfl <| Md rfl <| Gd rfl (fun hq => Zs (A := rd (Z0 .i64) x3.2.2) rfl rfl (vt rfl)) <| Gd rfl (fun hq => Z0m rfl rfl (Zo rfl hq) (vk rfl)) <| Ac (Z1t rfl rfl (vt rfl) (vt rfl)) rfl <| Md rfl <| Gd rfl (fun hq => Z14 rfl rfl Zeu (vt rfl) (vk rfl) rfl) <| Gd rfl (fun hq => Z3y lWide_1 rfl rfl Z3z (Zo rfl hq)) <| Gd rfl (fun hq => Z29 rfl rfl Z1g (Zo rfl hq) (i := 5) rfl) <| Gd rfl (fun hq => Znj rfl rfl (Zo rfl hq) (vku (1 : BitVec 64) rfl)) <| Ac (Z1t rfl rfl (vt rfl) (vt rfl)) rfl <| As rfl <| Nl <| rt ?_
 cases h; exact Zg Tryz.results41 rfl (Z4 rfl)
def Zaj (sg : Type) (x3 : (List Flow)) (x4 : Z0j) (y1 : (sg → Int → Option (Lp sg))) : (List Int) → Nat → (Lp sg) → Option (Lp sg)
 | [], i8, s7 => some s7
 | x10 :: l9, i8, s7 => (lget x3 x10).bind fun x11 => (Zgr x11).bind fun x12 => (Zez x12 x4).bind fun x13 => (bif (!x13) then (Zaj sg x3 x4 y1 l9) (i8 + 1) s7 else (yc y1 s7 x10).bind fun s14 => (bif (!(Lp.isGo s14)) then some s14 else (Zaj sg x3 x4 y1 l9) (i8 + 1) s14))
def Zct (sg : Type) (y1 : (sg → Int → Option (Lp sg))) (s2 : (Lp sg)) (x3 : (List Flow)) (x4 : Z0j) : Option (Lp sg) :=
 (Zgv x3).bind fun x5 => Zaj sg x3 x4 y1 x5 0 s2
theorem Yf1 (sg : Type) (y1 : (sg → Int → Option (Lp sg))) (L : Lp sg → Zv) (s2 : (Lp sg)) (x3 : (List Flow)) (x4 : Z0j) (r : (Lp sg)) (h : Zct sg y1 s2 x3 x4 = some r) : Con Tryz.prog 156 [ydA Tryz.prog (Z0 .i64) y1 L, rp (Z2 Z0n) x3, rp (Z1 24 Zd) x4] (L s2) (fun _ : Unit => top) (fun _ => L r) := by
 refine Con.intro Tryz.func156 rfl Tryz.ntmps156 rfl fun w H X => ?_
 unfold Zct at h
 refine AW.scope <| sq <| AW.label <| sq ?_
 obtain ⟨x5, hx5, h⟩ := Za h
 refine Rg <| Lp1 Z5c rfl <| Cl [6] (Y4k _ _ hx5) Y4y rfl <| Ac (Z0x rfl rfl Z0y (vt rfl)) rfl <| Mk rfl <| Nl <| bk <| LG (d := []) (ν := (List Int) × Nat × (Lp sg)) (fun (l9, i8, s7) => (Sfx x5 i8 l9 ∧ Zaj sg x3 x4 y1 l9 i8 s7 = some r, l9.length, [(0, ydA Tryz.prog (Z0 .i64) y1 L), (1, rp (Z2 Z0n) x3), (2, rp (Z1 24 Zd) x4), (7, rd (Z2 (Z0 .i64)) x5), (8, rd (Z0 .i64) (x5.length : Int)), (9, rd (Z0 .i64) (i8 : Int))], [(0, L s7)])) (x5, 0, s2) ⟨Sfx.start _, h⟩ (FX rfl) ?_
 rintro ⟨l9, i8, s7⟩ ⟨hsf1, h⟩
 dsimp only at hsf1 h ⊢
 cases l9 with
 | nil =>
  unfold Zaj at h
  refine SR <| Ac (Zn rfl rfl (vt rfl) (vt rfl)) rfl <| Nl <| sq <| Cn rfl (fun hc => absurd (of_decide_eq_true hc) hsf1.nil) (fun hc => ?_)
  refine xt ?_
  cases h; exact Z20 (i := 0) Tryz.results156 rfl rfl
 | cons x10 l9 =>
  unfold Zaj at h
  refine SR <| Ac (Zn rfl rfl (vt rfl) (vt rfl)) rfl <| Nl <| sq <| Cn rfl (fun hc => ?_) (fun hc => absurd hsf1.cons (of_decide_eq_false hc))
  have hlti8 := of_decide_eq_true hc
  refine sk <| sq <| bk <| SR <| Ac (Z0q rfl rfl Z0y (vt rfl) (vt rfl) hsf1.lget) rfl <| Lp1 Zt rfl <| As rfl <| Nl <| sq <| sq ?_
  obtain ⟨x11, hx11, x12, hx12, x13, hx13, h⟩ := bs3 h
  refine AR Zx (by kernel_rfl) <| SLp Z5c rfl <| Zq rfl <| Sd (lo [13, 14] [] rfl fun S hs hr => Z0q rfl rfl Z4q (vh hs 13 rfl rfl) (vh hs 14 rfl rfl) hx11) <| SLp Z76 rfl <| SCl [16] (Zw2 _ _ hx12) Y1h rfl <| SLp Z0f rfl <| SCl [17, 18] (Y37 _ _ _ hx13) e50 rfl <| Sd (lo [19] [] rfl fun S hs hr => Z15 rfl rfl (vh hs 19 rfl rfl)) <| Sn <| Cq rfl h (fun h => ?_) (fun h => ?_)
  ·refine xt <| Rg <| Ac (Z23 (t := 8) rfl rfl (vt rfl) (vk rfl) (vt rfl) hlti8) rfl <| Md rfl <| Nl ?_
   exact ⟨(_, _, _), Nat.lt_succ_self _, ⟨hsf1.next, h⟩, FX rfl⟩
  ·refine sk <| sq ?_
   obtain ⟨s14, hs14, h⟩ := Za h
   refine Rg <| Ac (Zs (A := ydA Tryz.prog (Z0 .i64) y1 L) rfl rfl (vt rfl)) rfl <| Md rfl <| Ac (Zkd 0 hs14 rfl rfl (vt rfl) (vt rfl) rfl) rfl <| Ac (Z15 rfl rfl (vt rfl)) rfl <| Nl <| Cq rfl h (fun h => ?_) (fun h => ?_)
   ·refine xt ?_
    cases h; exact Z20 (i := 0) Tryz.results156 rfl rfl
   ·refine sk <| Rg <| Ac (Z23 (t := 8) rfl rfl (vt rfl) (vk rfl) (vt rfl) hlti8) rfl <| Md rfl <| Nl ?_
    exact ⟨(_, _, _), Nat.lt_succ_self _, ⟨hsf1.next, h⟩, FX rfl⟩
def Znm (t1 : (List Flow)) (x2 : Z0j) : Option (Itr Int) :=
 some (Itr.mk fun σ y s => Zct σ y s t1 x2)
theorem Yl1 : Q2 Tryz.prog 88 (rd (Z2 Z0n)) (rd (Z1 24 Zd)) (Z4u Tryz.prog (Z0 .i64)) Znm := fun t1 x2 r h => I0 Tryz.func88 rfl Tryz.ntmps88 rfl fun w H => by
 unfold Znm at h
 refine SR <| Cv rfl (Zl 3 rfl rfl (vt rfl)) fun g3 => Cv rfl (Zl 4 rfl rfl (vt rfl)) fun g4 => Ac (Zy (A := Zi .nilFunc) rfl rfl vc) rfl <| Nl <| sq <| AW.freezeB 2 3 rfl rfl rfl <| AW.freezeB 3 4 rfl rfl rfl <| Rg <| Ac (Zqu (Itr.mk fun σ y s => Zct σ y s t1 x2) (cs := [.tmp 2, .tmp 3]) (CAs := [rp (Z2 Z0n) t1, rp (Z1 24 Zd) x2]) rfl rfl Ydb ⟨vt rfl, vt rfl, trivial⟩ (fun σ y L s r h => Yf1 σ y L s t1 x2 r h)) rfl <| Ac (Zy (A := Z4u Tryz.prog (Z0 .i64) (Itr.mk fun σ y s => Zct σ y s t1 x2)) rfl rfl (vt rfl)) rfl <| Nl <| rt ?_
 cases h; exact Zg Tryz.results88 rfl (Z4 rfl)
def Zig (b7 : Int) (b8 : Bool) (x10 : Int) : Option (Lp (Int × Bool)) :=
 some (.out .ret (x10, true))
def Zik (t1 : (List Flow)) (x2 : Z0j) : Option (Int × Bool) :=
 (Znm t1 x2).bind fun x6 => (Itr.run x6 (Int × Bool) (fun s x => Zig s.1 s.2 x) (.go (0, false))).bind fun z9 => Zv1 z9 (fun s11 => some (0, false)) (fun c s11 => bif Zpb c then some (s11.1, s11.2) else none)
theorem Yey : Q2 Tryz.prog 34 (rd (Z2 Z0n)) (rd (Z1 24 Zd)) (fun r => Z19 (rd (Z0 .i64) r.1) (rd Z7 r.2)) Zik := fun t1 x2 r h => I0 Tryz.func34 rfl Tryz.ntmps34 rfl fun w H => by
 unfold Zik at h
 refine SR <| Cv rfl (Zl 4 rfl rfl (vt rfl)) fun g3 => Cv rfl (Zp 5 rfl rfl zr3) fun g4 => Cv rfl (Zp 6 rfl rfl zr4) fun g5 => Nl <| sq <| sq ?_
 obtain ⟨x6, hx6, h⟩ := Za h
 refine Rg <| Md rfl <| Ld Z0f 4 rfl <| Cl [7, 8] (Yl1 _ _ _ hx6) e88 rfl <| Nl <| bk ?_
 obtain ⟨z9, hz9, h⟩ := Za h
 refine AW.fit (d := []) (L := [(4, Zb g4 (Lens.id (Z0 .i64))), (5, Zb g5 (Lens.id Z7)), (9, Z4u Tryz.prog (Z0 .i64) x6)]) (M := [(5, Ze g4 3 (Z0 .i64) 0), (6, Ze g5 4 Z7 false)]) (FX rfl) ?_
 refine AW.rangeFunc (σ := Int × Bool) (fun x => [rd (Z0 .i64) x]) (fun s x => Zig s.1 s.2 x) (fun s => Z3k ((fun s => [(5, Ze g4 3 (Z0 .i64) s.1), (6, Ze g5 4 Z7 s.2)]) s)) (fun _ s => Z3k ((fun s => [(5, Ze g4 3 (Z0 .i64) s.1), (6, Ze g5 4 Z7 s.2)]) s)) [(4, Zb g4 (Lens.id (Z0 .i64))), (5, Zb g5 (Lens.id Z7))] (fun s x10 S1 => Fit S1 [] [(4, Zb g4 (Lens.id (Z0 .i64))), (5, Zb g5 (Lens.id Z7)), (6, rd (Z0 .i64) x10)] [(5, Ze g4 3 (Z0 .i64) s.1), (6, Ze g5 4 Z7 s.2)]) 3001 (s0 := (0, false)) (sE := z9) rfl (vt rfl) ⟨rfl, inferInstance, rfl, inferInstance, trivial⟩ rfl (fun _ => rfl) (by intro p hp; have hp : p ∈ [10] := hp; rw [List.mem_singleton.1 hp]; show 10 < 12; decide) ?ha1 ?hb1 (fun Lf => ⟨top, _, _, Lf, _, _, hz9, rfl, rfl, rfl, rfl⟩) ?he1
 case ha1 =>
  rintro ⟨b7, b8⟩ x10 r hF l w H X
  refine Rg <| As rfl <| Nl ?_
  exact ⟨rfl, FX rfl⟩
 case hb1 =>
  rintro ⟨b7, b8⟩ x10 r h S1 hfit l w H X
  refine AW.fit (d := []) (L := [(4, Zb g4 (Lens.id (Z0 .i64))), (5, Zb g5 (Lens.id Z7)), (6, rd (Z0 .i64) x10)]) (M := [(5, Ze g4 3 (Z0 .i64) b7), (6, Ze g5 4 Z7 b8)]) hfit <| AW.bodyT ?_
  change Zig b7 b8 x10 = some r at h
  unfold Zig at h
  refine bk <| SR <| Md rfl <| Zh Zt 5 rfl <| Ac (Z5s rfl rfl ty4 (vt rfl) (i := 6) rfl vb) rfl <| Nl <| rt ?_
  obtain rfl := si h
  exact ⟨_, (x10, true), Turn.refl, rfl, ⟨rfl, rfl, trivial⟩⟩
 case he1 =>
  intro D
  cases z9 with
  | go s11 =>
   change _ = some r at h
   refine SR <| Ac (Z5s rfl rfl Zt (vt rfl) (i := 5) rfl (vk rfl)) rfl <| Ac (Z5s rfl rfl ty4 (vt rfl) (i := 6) rfl vb) rfl <| Nl <| rt ?_
   cases h; exact ⟨rfl, 3001, _, rfl, Z25 Tryz.results34 rfl (Zz rfl (i := 5) rfl Zt) (Zz rfl (i := 6) rfl ty4)⟩
  | out c s11 =>
   change (bif Zpb c then _ else _) = some r at h
   cases hc : Zpb c with
   | true =>
    rw [hc] at h
    have hc := Y8m hc
    subst hc
    change _ = some r at h
    refine rt ?_
    cases h; exact ⟨rfl, 3001, _, rfl, Z25 Tryz.results34 rfl (Zz rfl (i := 5) rfl Zt) (Zz rfl (i := 6) rfl ty4)⟩
   | false =>
    rw [hc] at h
    cases h
def Zg3 (l1 : (List Group)) (x2 : Env) (a3 : (List Action)) (x4 : Z0j) : Option ((List Out) × Z0j) :=
 (Ztu (⟨x2, l1, [], x4, 0⟩ : Z0g) a3).bind fun b9 => some (b9.out, b9.header)
theorem Ybk : Q4 Tryz.prog 212 (rd (Z2 Z0d)) (rd Z1m) (rd (Z2 Z8)) (rd (Z1 24 Zd)) (fun r => Z19 (rd (Z2 Z08) r.1) (rd (Z1 24 Zd) r.2)) Zg3 := fun l1 x2 a3 x4 r h => I0 Tryz.func212 rfl Tryz.ntmps212 rfl fun w H => by
 unfold Zg3 at h
 refine SR <| Cv rfl (Zl 6 rfl rfl (vt rfl)) fun g5 => Cv rfl (Zl 8 rfl rfl (vt rfl)) fun g6 => Ac (Zy (A := rd (Z2 Z08) []) rfl rfl Z1p) rfl <| Cv rfl (Zp 10 rfl rfl Z3n) fun g7 => Nl <| sq <| AW.newnil 2322 71 Z08 <| Rg <| Ld Z6h 6 rfl <| Md rfl <| Ld Z0f 8 rfl <| Ac (opb (⟨x2, l1, (.slice none 0 0), x4, 0⟩ : exec_run_o2) Zvs rfl Zxt (pc Zw6 (vt rfl) <| pc Y3m (vt rfl) <| pc Zw8 (vt rfl) <| pn rfl)) rfl <| Cv rfl (Zl 16 rfl rfl (vt rfl)) fun g8 => Ac (Zy (A := Zb g8 (Lens.id Z18)) rfl rfl (vt rfl)) rfl <| Nl <| sq ?_
 obtain ⟨b9, hb9, h⟩ := Za h
 refine Rg <| Mp rfl <| Md rfl <| AOps.packF 16 2322 (fun v => (⟨x2, l1, v, x4, 0⟩ : exec_run_o2)) (by decide) rfl rfl <| Cv rfl (Z1b 16 (xs := [.tmp 16, .tmp 17]) (Ygb _ _ _ _ _ hb9) Y2a rfl rfl ⟨vt rfl, vt rfl, trivial⟩ rfl) fun _u => AOps.unboxF 16 2322 (by decide) rfl rfl fun v10 => Nl <| sq <| AR Zx (by kernel_rfl) <| SMp rfl <| SNc rfl <| SFd Zgx Zpi rfl <| Sd (lo [21] [16] rfl fun S hs hr => Z6s v10 rfl rfl Z6z (vh hs 21 rfl rfl) (i := 16) ((hr 16 rfl).trans rfl) rfl) <| SMp rfl <| SNc rfl <| SFd lexec_run_o2_3 Zfv rfl <| Zk Z0f 16 rfl <| Sd (lo [22] [] rfl fun S hs hr => Zy (A := Zi v10) rfl rfl (vh hs 22 rfl rfl)) <| SSt Z0f 10 rfl <| Sn <| AW.freezes [8, 22] 2322 rfl ⟨rfl, rfl, trivial⟩ rfl <| rt ?_
 cases h; exact Z25 Tryz.results212 rfl (Z4 rfl) (Zz rfl (i := 10) rfl Z0f)
end Go.Proofs.YtknpgojdkobgjaaGreat.W
set_option maxRecDepth 4000
namespace Go.Proofs.YtknpgojdkobgjaaGreat.W
open Go Go.Wb
theorem Y8a : Ent Tryz.prog 212 := Ent.mk Tryz.func212 rfl rfl
theorem Y4f : Ent Tryz.prog 148 := Ent.mk Tryz.func148 rfl rfl
theorem e34 : Ent Tryz.prog 34 := Ent.mk Tryz.func34 rfl rfl
theorem Y7u : Ent Tryz.prog 147 := Ent.mk Tryz.func147 rfl rfl
theorem e86 : Ent Tryz.prog 86 := Ent.mk Tryz.func86 rfl rfl
theorem e94 : Ent Tryz.prog 94 := Ent.mk Tryz.func94 rfl rfl
theorem e29 : Ent Tryz.prog 29 := Ent.mk Tryz.func29 rfl rfl
theorem e38 : Ent Tryz.prog 38 := Ent.mk Tryz.func38 rfl rfl
def Zba (p1 : Z2t) (l5 : (List Action)) : Option Z2t :=
 (Zg3 p1.Switch.Groups p1.env l5 p1.header).bind fun x6 => (Z0u p1.out x6.1).bind fun l8 => some (⟨p1.Switch, p1.env, x6.2, p1.set, l8, p1.path⟩ : Z2t)
theorem Zvy (g2 gT : Nat) (p1 : Z2t) (l5 : (List Action)) (r : Z2t) (h : Zba p1 l5 = some r) : Con Tryz.prog 148 [Zb g2 (Lens.id Z1x), rd (Z2 Z8) l5] (Z5g (fun v2 => Z0t g2 gT Z1x (fun v => (⟨p1.Switch, p1.env, p1.header, p1.set, v, v2⟩ : sem_packet_o4_5)) 71 Z08 p1.out) 51 Z46 p1.path) (fun _ : Unit => top) (fun _ => Z5g (fun v2 => Z0t g2 gT Z1x (fun v => (⟨r.Switch, r.env, r.header, r.set, v, v2⟩ : sem_packet_o4_5)) 71 Z08 r.out) 51 Z46 r.path) := by
 refine Con.intro Tryz.func148 rfl Tryz.ntmps148 rfl fun w H X => ?_
 unfold Zba at h
 refine AW.unboxS 0 2005 (by decide) rfl rfl fun v4 => AW.unboxF 0 2004 (by decide) rfl rfl fun v3 => sq ?_
 obtain ⟨x6, hx6, h⟩ := Za h
 refine AR Zx (by kernel_rfl) <| SMp rfl <| SNc rfl <| SFd lsem_packet_o4_5_0 Zsc rfl <| SFd Zmy Zt7 rfl <| Zk Zh9 0 rfl <| SMp rfl <| SNc rfl <| SFd lsem_packet_o4_5_1 Ym1 rfl <| Zk Z6h 0 rfl <| Zq rfl <| SMp rfl <| SNc rfl <| SFd lsem_packet_o4_5_2 Ziz rfl <| Zk Z0f 0 rfl <| SCl [11, 15, 16, 20] (Ybk _ _ _ _ _ hx6) Y8a rfl <| Sd (lo [21] [] rfl fun S hs hr => Zs (A := Z19 (rd (Z2 Z08) x6.1) (rd (Z1 24 Zd) x6.2)) rfl rfl (vh hs 21 rfl rfl)) <| Sd (lo [6] [] rfl fun S hs hr => Z1h rfl rfl (vh hs 6 rfl rfl)) <| Sd (lo [6] [] rfl fun S hs hr => Z1f rfl rfl (vh hs 6 rfl rfl)) <| Sd (Z11 (us := [(5, Z2g 44 (Z1 24 Zd) (Vector.replicate 24 Z09))]) (ur := []) [] [] rfl fun S hs hr => Z6b rfl rfl rfl Z3n) <| SAs rfl <| Sd (Z11 (us := [(5, Z2g 44 (Z1 24 Zd) x6.2)]) (ur := []) [5, 23] [] rfl fun S hs hr => Z68 rfl rfl Z0f ((hs 5 rfl).trans rfl) (vh hs 23 rfl rfl)) <| Sn <| AW.unpackP 5 6 rfl rfl fun g7 => ?_
 obtain ⟨l8, hl8, h⟩ := Za h
 refine AW.endT <| AR Zx (by kernel_rfl) <| SMp rfl <| SMp rfl <| SMp rfl <| SNc rfl <| SFd Zic Zr0 rfl <| Sd (lo [28] [0] rfl fun S hs hr => Z6s v3 rfl rfl Z6z (vh hs 28 rfl rfl) (i := 0) ((hr 0 rfl).trans rfl) rfl) <| Zq rfl <| Sd (Z11 (us := [(31, Z1v 71 Z08 l8)]) (ur := [(2004, emp)]) [29, 30] [2004] rfl fun S hs hr => Z78 2004 hl8 rfl rfl rfl Zov (vh hs 29 rfl rfl) ((hr 2004 rfl).trans rfl) (vh hs 30 rfl rfl)) <| Zk Z0f 6 rfl <| SNc rfl <| SFd Zic Zr0 rfl <| Sd (Z11 (us := [(31, top)]) (ur := [(0, Z0t g2 gT Z1x (fun v => ((Lens.comp (Lens.id Z1x) Zic)).set (⟨p1.Switch, p1.env, p1.header, p1.set, v3, v4⟩ : sem_packet_o4_5) v) 71 Z08 l8)]) [34, 31] [0] rfl fun S hs hr => Zmv rfl rfl Z6z (vh hs 34 rfl rfl) ((hr 0 rfl).trans rfl) ((hs 31 rfl).trans rfl)) <| SNc rfl <| SFd lsem_packet_o4_5_2 Ziz rfl <| Sd (Z44 [36, 32] [0] rfl fun S hs hr => Y6r rfl rfl Z0f (vh hs 36 rfl rfl) (i := 0) ((hr 0 rfl).trans rfl) (vh hs 32 rfl rfl)) <| Sn <| EndT.unboxF 0 2004 (by decide) rfl rfl fun v9 => EndT.done ?_
 cases h; exact RetOK.turn (Turn.packF 0 2004 (fun v => (⟨p1.Switch, p1.env, x6.2, p1.set, v, v4⟩ : sem_packet_o4_5)) (by decide) rfl rfl) (RetOK.turn (Turn.packS 0 2005 (fun v2 => Z0t g2 gT Z1x (fun v => (⟨p1.Switch, p1.env, x6.2, p1.set, v, v2⟩ : sem_packet_o4_5)) 71 Z08 l8) (by decide) rfl rfl) (Z20 (i := 0) Tryz.results148 rfl rfl))
def Zd8 (l6 : (List Inst)) (a5 : Int) (l7 : (List Out)) (l9 : (List Place)) (b23 : Switch) (b24 : Env) (b25 : Z0j) (b26 : (List Action)) : Option (Int × Bool × Z2t) :=
 (Z62 l6 1).bind fun x27 => some (x27.1.Table, ((x27.2 && (decide (x27.1.Table > a5))) && (decide (x27.1.Table < 4))), (⟨b23, b24, b25, b26, l7, l9⟩ : Z2t))
def Zf6 (l6 : (List Inst)) (a5 : Int) (l7 : (List Out)) (l9 : (List Place)) (b19 : Switch) (b20 : Env) (b21 : Z0j) (b22 : (List Action)) : Option (Int × Bool × Z2t) :=
 (Z62 l6 2).bind fun x29 => (bif x29.2 then (Za4).bind fun x31 => (Z8f x31 1 x29.1.Value x29.1.Mask).bind fun x32 => (Zc2 x32 b21).bind fun x33 => Zd8 l6 a5 l7 l9 b19 b20 x33 b22 else Zd8 l6 a5 l7 l9 b19 b20 b21 b22)
def Zgu (l6 : (List Inst)) (a5 : Int) (l7 : (List Out)) (l9 : (List Place)) (b15 : Switch) (b16 : Env) (b17 : Z0j) (b18 : (List Action)) : Option (Int × Bool × Z2t) :=
 (Z62 l6 3).bind fun x34 => (bif x34.2 then (Zcl b18 x34.1.Acts).bind fun x36 => Zf6 l6 a5 l7 l9 b15 b16 b17 x36 else Zf6 l6 a5 l7 l9 b15 b16 b17 b18)
def Zh3 (l6 : (List Inst)) (a5 : Int) (l7 : (List Out)) (l9 : (List Place)) (b11 : Switch) (b12 : Env) (b13 : Z0j) (b14 : (List Action)) : Option (Int × Bool × Z2t) :=
 (Z62 l6 5).bind fun x37 => (bif x37.2 then Zgu l6 a5 l7 l9 b11 b12 b13 [] else Zgu l6 a5 l7 l9 b11 b12 b13 b14)
def Zf3 (p1 : Z2t) (a5 : Int) (l6 : (List Inst)) : Option (Int × Bool × Z2t) :=
 (Z62 l6 4).bind fun x39 => (bif x39.2 then (Zba (⟨p1.Switch, p1.env, p1.header, p1.set, p1.out, p1.path⟩ : Z2t) x39.1.Acts).bind fun b41 => Zh3 l6 a5 b41.out b41.path b41.Switch b41.env b41.header b41.set else Zh3 l6 a5 p1.out p1.path p1.Switch p1.env p1.header p1.set)
theorem Yg1 (g2 gT : Nat) (p1 : Z2t) (a5 : Int) (l6 : (List Inst)) (r : (Int × Bool × Z2t)) (h : Zf3 p1 a5 l6 = some r) : Con Tryz.prog 147 [Zb g2 (Lens.id Z1x), rd (Z0 .i64) a5, rd (Z2 Z1a) l6] (Z5g (fun v2 => Z0t g2 gT Z1x (fun v => (⟨p1.Switch, p1.env, p1.header, p1.set, v, v2⟩ : sem_packet_o4_5)) 71 Z08 p1.out) 51 Z46 p1.path) (fun _ : Unit => Z19 (rd (Z0 .i64) r.1) (rd Z7 r.2.1)) (fun _ => Z5g (fun v2 => Z0t g2 gT Z1x (fun v => (⟨r.2.2.Switch, r.2.2.env, r.2.2.header, r.2.2.set, v, v2⟩ : sem_packet_o4_5)) 71 Z08 r.2.2.out) 51 Z46 r.2.2.path) := by
 refine Con.intro Tryz.func147 rfl Tryz.ntmps147 rfl fun w H X => ?_
 unfold Zf3 at h
 refine AW.unboxS 0 2005 (by decide) rfl rfl fun v4 => AW.unboxF 0 2004 (by decide) rfl rfl fun v3 => SR <| Ak rfl <| Ab rfl <| Nl ?_
 refine JN (d := []) (ν := (List Out) × (List Place) × Switch × Env × Z0j × (List Action) × Value × Value) (fun (l7, l9, b11, b12, b13, b14, v8, v10) => (Zh3 l6 a5 l7 l9 b11 b12 b13 b14 = some r, [(0, Zb g2 (Lens.id Z1x)), (1, rd (Z0 .i64) a5), (2, rd (Z2 Z1a) l6)], [(0, Ze g2 gT Z1x (⟨b11, b12, b13, b14, v8, v10⟩ : sem_packet_o4_5)), (2004, Zc v8 71 Z08 l7), (2005, Zc v10 51 Z46 l9)])) ?hx1 ?hy1
 case hy1 =>
  rintro ⟨l7, l9, b11, b12, b13, b14, v8, v10⟩ h
  dsimp only at h ⊢
  unfold Zh3 at h
  refine JN (d := []) (ν := Switch × Env × Z0j × (List Action)) (fun (b15, b16, b17, b18) => (Zgu l6 a5 l7 l9 b15 b16 b17 b18 = some r, [(0, Zb g2 (Lens.id Z1x)), (1, rd (Z0 .i64) a5), (2, rd (Z2 Z1a) l6)], [(0, Ze g2 gT Z1x (⟨b15, b16, b17, b18, v8, v10⟩ : sem_packet_o4_5)), (2004, Zc v8 71 Z08 l7), (2005, Zc v10 51 Z46 l9)])) ?hx2 ?hy2
  case hy2 =>
   rintro ⟨b15, b16, b17, b18⟩ h
   dsimp only at h ⊢
   unfold Zgu at h
   refine JN (d := []) (ν := Switch × Env × Z0j × (List Action)) (fun (b19, b20, b21, b22) => (Zf6 l6 a5 l7 l9 b19 b20 b21 b22 = some r, [(0, Zb g2 (Lens.id Z1x)), (1, rd (Z0 .i64) a5), (2, rd (Z2 Z1a) l6)], [(0, Ze g2 gT Z1x (⟨b19, b20, b21, b22, v8, v10⟩ : sem_packet_o4_5)), (2004, Zc v8 71 Z08 l7), (2005, Zc v10 51 Z46 l9)])) ?hx3 ?hy3
   case hy3 =>
    rintro ⟨b19, b20, b21, b22⟩ h
    dsimp only at h ⊢
    unfold Zf6 at h
    refine JN (d := []) (ν := Switch × Env × Z0j × (List Action)) (fun (b23, b24, b25, b26) => (Zd8 l6 a5 l7 l9 b23 b24 b25 b26 = some r, [(1, rd (Z0 .i64) a5), (2, rd (Z2 Z1a) l6)], [(0, Ze g2 gT Z1x (⟨b23, b24, b25, b26, v8, v10⟩ : sem_packet_o4_5)), (2004, Zc v8 71 Z08 l7), (2005, Zc v10 51 Z46 l9)])) ?hx4 ?hy4
    case hy4 =>
     rintro ⟨b23, b24, b25, b26⟩ h
     dsimp only at h ⊢
     unfold Zd8 at h
     refine sq ?_
     obtain ⟨x27, hx27, h⟩ := Za h
     refine Rg <| Md rfl <| Ac (Z0r (xs := [.tmp 74, .const (Value.int IntKind.i64 1)]) (Z7s _ _ _ hx27) Z7v rfl rfl ⟨vt rfl, vk rfl, trivial⟩) rfl <| Mt2 rfl <| Ac (Z1h rfl rfl (vt rfl)) rfl <| Ac (Z1f rfl rfl (vt rfl)) rfl <| Cv rfl (Zp 17 rfl rfl Z3t) fun g28 => Zh Z2k 17 rfl <| As rfl <| Nl <| sq <| AR Zx (by kernel_rfl) <| SFd Z7t Z8r rfl <| Zk Zt 17 rfl <| Zq rfl <| Zq rfl <| Sd (lg [16, 81] [] rfl fun hq S hs hr => Z3y Z7t rfl rfl Z8r (vh hs 16 rfl rfl)) <| Sd (lg [82, 81] [17] rfl fun hq S hs hr => Z29 rfl rfl Zt (Zo ((hs 82 rfl).trans rfl) hq) (i := 17) ((hr 17 rfl).trans rfl)) <| Sd (lg [1, 81] [] rfl fun hq S hs hr => Zs (A := rd (Z0 .i64) a5) rfl rfl (vh hs 1 rfl rfl)) <| Sd (lg [83, 84, 81] [] rfl fun hq S hs hr => Z3i rfl rfl (Zo ((hs 83 rfl).trans rfl) hq) (Zo ((hs 84 rfl).trans rfl) hq)) <| Sd (lo [85, 81] [] rfl fun S hs hr => Z1t rfl rfl (vh hs 81 rfl rfl) (vh hs 85 rfl rfl)) <| Zq rfl <| Sd (lg [16, 87] [] rfl fun hq S hs hr => Z3y Z7t rfl rfl Z8r (vh hs 16 rfl rfl)) <| Sd (lg [88, 87] [17] rfl fun hq S hs hr => Z29 rfl rfl Zt (Zo ((hs 88 rfl).trans rfl) hq) (i := 17) ((hr 17 rfl).trans rfl)) <| Sd (lg [89, 87] [] rfl fun hq S hs hr => Zn rfl rfl (Zo ((hs 89 rfl).trans rfl) hq) (vk rfl)) <| Sd (lo [90, 87] [] rfl fun S hs hr => Z1t rfl rfl (vh hs 87 rfl rfl) (vh hs 90 rfl rfl)) <| SAs rfl <| SAs rfl <| Sn <| rt ?_
     cases h; exact RetOK.turn (Turn.packF 0 2004 (fun v => (⟨b23, b24, b25, b26, v, v10⟩ : sem_packet_o4_5)) (by decide) rfl rfl) (RetOK.turn (Turn.packS 0 2005 (fun v2 => Z0t g2 gT Z1x (fun v => (⟨b23, b24, b25, b26, v, v2⟩ : sem_packet_o4_5)) 71 Z08 l7) (by decide) rfl rfl) (Yc8 (i := 0) Tryz.results147 rfl (Z4 rfl) (Z4 rfl) rfl))
    case hx4 =>
     refine sq ?_
     obtain ⟨x29, hx29, h⟩ := Za h
     refine Rg <| Md rfl <| Ac (Z0r (xs := [.tmp 54, .const (Value.int IntKind.i64 2)]) (Z7s _ _ _ hx29) Z7v rfl rfl ⟨vt rfl, vk rfl, trivial⟩) rfl <| Mt2 rfl <| Ac (Z1h rfl rfl (vt rfl)) rfl <| Ac (Z1f rfl rfl (vt rfl)) rfl <| Cv rfl (Zp 15 rfl rfl Z3t) fun g30 => Zh Z2k 15 rfl <| As rfl <| Nl <| SR <| Md rfl <| Nl <| Cq rfl h (fun h => ?_) (fun h => ?_)
     ·obtain ⟨x31, hx31, x32, hx32, x33, hx33, h⟩ := bs3 h
      refine AR Zx (by kernel_rfl) <| SMp rfl <| SCl [] (Zsk _ hx31) e77 rfl <| SFd Zou Zu2 rfl <| Zk Zu 15 rfl <| SFd Zmm Zt5 rfl <| Zk Zu 15 rfl <| Sd (lo [60, 62, 64] [] rfl fun S hs hr => Z0r (xs := [.tmp 60, .const (Value.int IntKind.i64 1), .tmp 62, .tmp 64]) (Zek _ _ _ _ _ hx32) Zhh rfl rfl ⟨vt ((hs 60 rfl).trans rfl), vk rfl, vt ((hs 62 rfl).trans rfl), vt ((hs 64 rfl).trans rfl), trivial⟩) <| SMp rfl <| SNc rfl <| SFd lsem_packet_o4_5_2 Ziz rfl <| Zk Z0f 0 rfl <| SCl [65, 69] (Zsq _ _ _ hx33) Zqg rfl <| SNc rfl <| SFd lsem_packet_o4_5_2 Ziz rfl <| SSt Z0f 0 rfl <| Sn ?_
      exact ⟨(_, _, _, _), h, FX rfl⟩
     ·refine sk ?_
      exact ⟨(_, _, _, _), h, FX rfl⟩
   case hx3 =>
    refine sq ?_
    obtain ⟨x34, hx34, h⟩ := Za h
    refine Rg <| Md rfl <| Ac (Z0r (xs := [.tmp 38, .const (Value.int IntKind.i64 3)]) (Z7s _ _ _ hx34) Z7v rfl rfl ⟨vt rfl, vk rfl, trivial⟩) rfl <| Mt2 rfl <| Ac (Z1h rfl rfl (vt rfl)) rfl <| Ac (Z1f rfl rfl (vt rfl)) rfl <| Cv rfl (Zp 13 rfl rfl Z3t) fun g35 => Zh Z2k 13 rfl <| As rfl <| Nl <| SR <| Md rfl <| Nl <| Cq rfl h (fun h => ?_) (fun h => ?_)
    ·obtain ⟨x36, hx36, h⟩ := Za h
     refine AR Zx (by kernel_rfl) <| SMp rfl <| SMp rfl <| SNc rfl <| SFd Zjl Zpo rfl <| Zk Z3q 0 rfl <| SFd Z81 Z90 rfl <| Zk Z3q 13 rfl <| SCl [47, 49] (Zue _ _ _ hx36) Zt8 rfl <| SNc rfl <| SFd Zjl Zpo rfl <| SSt Z3q 0 rfl <| Sn ?_
     exact ⟨(_, _, _, _), h, FX rfl⟩
    ·refine sk ?_
     exact ⟨(_, _, _, _), h, FX rfl⟩
  case hx2 =>
   refine sq ?_
   obtain ⟨x37, hx37, h⟩ := Za h
   refine Rg <| Md rfl <| Ac (Z0r (xs := [.tmp 29, .const (Value.int IntKind.i64 5)]) (Z7s _ _ _ hx37) Z7v rfl rfl ⟨vt rfl, vk rfl, trivial⟩) rfl <| Mt2 rfl <| Ac (Z1h rfl rfl (vt rfl)) rfl <| Ac (Z1f rfl rfl (vt rfl)) rfl <| Cv rfl (Zp 11 rfl rfl Z3t) fun g38 => Zh Z2k 11 rfl <| As rfl <| Nl <| SR <| Md rfl <| Nl <| Cq rfl h (fun h => ?_) (fun h => ?_)
   ·refine Rg <| Mp rfl <| Nc rfl <| Zj Zjl Zpo rfl <| Ac (Z5s rfl rfl Z3q (vt rfl) (i := 0) rfl Z1p) rfl <| Nl ?_
    exact ⟨(_, _, _, _), h, FX rfl⟩
   ·refine sk ?_
    exact ⟨(_, _, _, _), h, FX rfl⟩
 case hx1 =>
  refine sq ?_
  obtain ⟨x39, hx39, h⟩ := Za h
  refine Rg <| Md rfl <| Ac (Z0r (xs := [.tmp 19, .const (Value.int IntKind.i64 4)]) (Z7s _ _ _ hx39) Z7v rfl rfl ⟨vt rfl, vk rfl, trivial⟩) rfl <| Mt2 rfl <| Ac (Z1h rfl rfl (vt rfl)) rfl <| Ac (Z1f rfl rfl (vt rfl)) rfl <| Cv rfl (Zp 9 rfl rfl Z3t) fun g40 => Zh Z2k 9 rfl <| As rfl <| Nl <| SR <| Md rfl <| Nl <| Cq rfl h (fun h => ?_) (fun h => ?_)
  ·obtain ⟨b41, hb41, h⟩ := Za h
   refine Rg <| Mp rfl <| Zj Z81 Z90 rfl <| Ld Z3q 9 rfl <| AOps.packF 0 2004 (fun v => (⟨p1.Switch, p1.env, p1.header, p1.set, v, v4⟩ : sem_packet_o4_5)) (by decide) rfl rfl <| AOps.packS 0 2005 (fun v2 => Z0t g2 gT Z1x (fun v => (⟨p1.Switch, p1.env, p1.header, p1.set, v, v2⟩ : sem_packet_o4_5)) 71 Z08 p1.out) (by decide) rfl rfl <| Cv rfl (Z1b 0 (xs := [.tmp 24, .tmp 26]) (Zvy _ _ _ _ _ hb41) Y4f rfl rfl ⟨vt rfl, vt rfl, trivial⟩ rfl) fun _u => AOps.unboxS 0 2005 (by decide) rfl rfl fun v43 => AOps.unboxF 0 2004 (by decide) rfl rfl fun v42 => Nl ?_
   exact ⟨(_, _, _, _, _, _, _, _), h, FX rfl⟩
  ·refine sk ?_
   exact ⟨(_, _, _, _, _, _, _, _), h, FX rfl⟩
def Zcq : Nat → (List Out) → (List Place) → Switch → Env → Z0j → (List Action) → Int → Option Z2t
 | 0, _, _, _, _, _, _, _ => none
 | m23 + 1, l14, l16, b18, b19, b20, b21, a22 => (chk 4 a22).bind fun j24 => (Zik (Vector.get b18.Tables j24) b20).bind fun x25 => (bif (!x25.2) then (Z0u l16 [(⟨a22, (-1)⟩ : Place)]).bind fun l26 => some (⟨b18, b19, b20, b21, l14, l26⟩ : Z2t) else (Z0u l16 [(⟨a22, x25.1⟩ : Place)]).bind fun l28 => (chk 4 a22).bind fun j30 => (lget (Vector.get b18.Tables j30) x25.1).bind fun x31 => (Zf3 (⟨b18, b19, b20, b21, l14, l28⟩ : Z2t) a22 x31.Insts).bind fun b32 => (bif (!b32.2.1) then (Z79 b32.2.2.set).bind fun x35 => (Zba (⟨b32.2.2.Switch, b32.2.2.env, b32.2.2.header, b32.2.2.set, b32.2.2.out, b32.2.2.path⟩ : Z2t) x35).bind fun b36 => some (⟨b36.Switch, b36.env, b36.header, b36.set, b36.out, b36.path⟩ : Z2t) else (Zcq m23) b32.2.2.out b32.2.2.path b32.2.2.Switch b32.2.2.env b32.2.2.header b32.2.2.set b32.1))
def Znq (p1 : Z2t) : Option Z2t :=
 Zcq Z0l p1.out p1.path p1.Switch p1.env p1.header p1.set 0
theorem Ykn (g2 gT : Nat) (p1 : Z2t) (r : Z2t) (h : Znq p1 = some r) : Con Tryz.prog 86 [Zb g2 (Lens.id Z1x)] (Z5g (fun v2 => Z0t g2 gT Z1x (fun v => (⟨p1.Switch, p1.env, p1.header, p1.set, v, v2⟩ : sem_packet_o4_5)) 71 Z08 p1.out) 51 Z46 p1.path) (fun _ : Unit => top) (fun _ => Z5g (fun v2 => Z0t g2 gT Z1x (fun v => (⟨r.Switch, r.env, r.header, r.set, v, v2⟩ : sem_packet_o4_5)) 71 Z08 r.out) 51 Z46 r.path) := by
 refine Con.intro Tryz.func86 rfl Tryz.ntmps86 rfl fun w H X => ?_
 unfold Znq at h
 refine AW.unboxS 0 2005 (by decide) rfl rfl fun v4 => AW.unboxF 0 2004 (by decide) rfl rfl fun v3 => AW.scope <| SR <| Ak rfl <| Nl <| sq <| AW.label <| bk <| LG (d := []) (ν := Nat × (List Out) × (List Place) × Switch × Env × Z0j × (List Action) × Int × Value × Value) (fun (m23, l14, l16, b18, b19, b20, b21, a22, v15, v17) => (True ∧ Zcq m23 l14 l16 b18 b19 b20 b21 a22 = some r, m23, [(0, Zb g2 (Lens.id Z1x)), (2, rd (Z0 .i64) a22)], [(0, Ze g2 gT Z1x (⟨b18, b19, b20, b21, v15, v17⟩ : sem_packet_o4_5)), (2004, Zc v15 71 Z08 l14), (2005, Zc v17 51 Z46 l16)])) (Z0l, p1.out, p1.path, p1.Switch, p1.env, p1.header, p1.set, 0, v3, v4) ⟨trivial, h⟩ (FX rfl) ?_
 rintro ⟨m23, l14, l16, b18, b19, b20, b21, a22, v15, v17⟩ ⟨hsf1, h⟩
 dsimp only at h ⊢
 cases m23 with
 | zero => cases h
 | succ m23 =>
  unfold Zcq at h
  refine bk <| sq ?_
  obtain ⟨j24, hj24, x25, hx25, h⟩ := bs2 h
  refine AR Zx (by kernel_rfl) <| SMp rfl <| Zq rfl <| SNc rfl <| SFd lsem_packet_o4_5_0 Zsc rfl <| SFd Zav Zeh rfl <| Sd (lo [12, 9] [] rfl fun S hs hr => Z14 rfl rfl Zc1 (vh hs 12 rfl rfl) (vh hs 9 rfl rfl) hj24) <| Zk Z5c 0 rfl <| SMp rfl <| SNc rfl <| SFd lsem_packet_o4_5_2 Ziz rfl <| Zk Z0f 0 rfl <| SCl [14, 18] (Yey _ _ _ hx25) e34 rfl <| Sd (lo [19] [] rfl fun S hs hr => Zs (A := Z19 (rd (Z0 .i64) x25.1) (rd Z7 x25.2)) rfl rfl (vh hs 19 rfl rfl)) <| Sd (lo [7] [] rfl fun S hs hr => Z1h rfl rfl (vh hs 7 rfl rfl)) <| Sd (lo [7] [] rfl fun S hs hr => Z1f rfl rfl (vh hs 7 rfl rfl)) <| SAs rfl <| SAs rfl <| Sn <| sq <| SR <| Md rfl <| Ac (Z15 rfl rfl (vt rfl)) rfl <| Nl <| Cq rfl h (fun h => ?_) (fun h => ?_)
  ·refine sq ?_
   obtain ⟨l26, hl26, h⟩ := Za h
   refine Rg <| Mp rfl <| Mp rfl <| Nc rfl <| Zj Zhx Zpd rfl <| Ac (Z6s v17 rfl rfl Zp8 (vt rfl) (i := 0) rfl rfl) rfl <| Md rfl <| Ac (opb (⟨a22, (-1)⟩ : Place) Zo8 rfl Zzw (pc Zyw (vt rfl) <| pc Zwk (vk rfl) <| pn rfl)) rfl <| Ac (osl Zzh Zo8 rfl (vt rfl)) rfl <| Cv rfl (Z2m 2005 hl26 rfl rfl Y3p (vt rfl) rfl (vt rfl)) fun v27 => Nc rfl <| Zj Zhx Zpd rfl <| Ac (Z5s rfl rfl Zp8 (vt rfl) (i := 0) rfl (Zoq (i := 2005) rfl rfl)) rfl <| Nl <| xt ?_
   cases h; exact RetOK.turn (Turn.packF 0 2004 (fun v => (⟨b18, b19, b20, b21, v, v27⟩ : sem_packet_o4_5)) (by decide) rfl rfl) (RetOK.turn (Turn.packS 0 2005 (fun v2 => Z0t g2 gT Z1x (fun v => (⟨b18, b19, b20, b21, v, v2⟩ : sem_packet_o4_5)) 71 Z08 l14) (by decide) rfl rfl) (Z20 (i := 0) Tryz.results86 rfl rfl))
  ·refine sk <| sq ?_
   obtain ⟨l28, hl28, h⟩ := Za h
   refine Rg <| Mp rfl <| Mp rfl <| Nc rfl <| Zj Zhx Zpd rfl <| Ac (Z6s v17 rfl rfl Zp8 (vt rfl) (i := 0) rfl rfl) rfl <| Md rfl <| Md rfl <| Ac (opb (⟨a22, x25.1⟩ : Place) Zo8 rfl Zzw (pc Zyw (vt rfl) <| pc Zwk (vt rfl) <| pn rfl)) rfl <| Ac (osl Zzh Zo8 rfl (vt rfl)) rfl <| Cv rfl (Z2m 2005 hl28 rfl rfl Y3p (vt rfl) rfl (vt rfl)) fun v29 => Nc rfl <| Zj Zhx Zpd rfl <| Ac (Z5s rfl rfl Zp8 (vt rfl) (i := 0) rfl (Zoq (i := 2005) rfl rfl)) rfl <| Nl <| sq ?_
   obtain ⟨j30, hj30, x31, hx31, b32, hb32, h⟩ := bs3 h
   refine Rg <| Mp rfl <| Md rfl <| Mp rfl <| Md rfl <| Nc rfl <| Zj lsem_packet_o4_5_0 Zsc rfl <| Zj Zav Zeh rfl <| Ac (Z14 rfl rfl Zc1 (vt rfl) (vt rfl) hj30) rfl <| Ld Z5c 0 rfl <| Md rfl <| Ac (Z0q rfl rfl Z4q (vt rfl) (vt rfl) hx31) rfl <| Fp Z9h Zbb rfl <| Lp1 Zbd rfl <| AOps.packF 0 2004 (fun v => (⟨b18, b19, b20, b21, v, v29⟩ : sem_packet_o4_5)) (by decide) rfl rfl <| AOps.packS 0 2005 (fun v2 => Z0t g2 gT Z1x (fun v => (⟨b18, b19, b20, b21, v, v2⟩ : sem_packet_o4_5)) 71 Z08 l14) (by decide) rfl rfl <| Cv rfl (Z1b 0 (xs := [.tmp 48, .tmp 49, .tmp 60]) (Yg1 _ _ _ _ _ _ hb32) Y7u rfl rfl ⟨vt rfl, vt rfl, vt rfl, trivial⟩ rfl) fun _u => AOps.unboxS 0 2005 (by decide) rfl rfl fun v34 => AOps.unboxF 0 2004 (by decide) rfl rfl fun v33 => Mt2 rfl <| Ac (Z1h rfl rfl (vt rfl)) rfl <| Ac (Z1f rfl rfl (vt rfl)) rfl <| As rfl <| As rfl <| Nl <| sq <| SR <| Md rfl <| Ac (Z15 rfl rfl (vt rfl)) rfl <| Nl <| Cq rfl h (fun h => ?_) (fun h => ?_)
   ·refine sq ?_
    obtain ⟨x35, hx35, b36, hb36, h⟩ := bs2 h
    refine Rg <| Mp rfl <| Mp rfl <| Nc rfl <| Zj Zjl Zpo rfl <| Ld Z3q 0 rfl <| Cl [70] (Zsm _ _ hx35) Zsi rfl <| AOps.packF 0 2004 (fun v => (⟨b32.2.2.Switch, b32.2.2.env, b32.2.2.header, b32.2.2.set, v, v34⟩ : sem_packet_o4_5)) (by decide) rfl rfl <| AOps.packS 0 2005 (fun v2 => Z0t g2 gT Z1x (fun v => (⟨b32.2.2.Switch, b32.2.2.env, b32.2.2.header, b32.2.2.set, v, v2⟩ : sem_packet_o4_5)) 71 Z08 b32.2.2.out) (by decide) rfl rfl <| Cv rfl (Z1b 0 (xs := [.tmp 66, .tmp 71]) (Zvy _ _ _ _ _ hb36) Y4f rfl rfl ⟨vt rfl, vt rfl, trivial⟩ rfl) fun _u => AOps.unboxS 0 2005 (by decide) rfl rfl fun v38 => AOps.unboxF 0 2004 (by decide) rfl rfl fun v37 => Nl <| xt ?_
    cases h; exact RetOK.turn (Turn.packF 0 2004 (fun v => (⟨b36.Switch, b36.env, b36.header, b36.set, v, v38⟩ : sem_packet_o4_5)) (by decide) rfl rfl) (RetOK.turn (Turn.packS 0 2005 (fun v2 => Z0t g2 gT Z1x (fun v => (⟨b36.Switch, b36.env, b36.header, b36.set, v, v2⟩ : sem_packet_o4_5)) 71 Z08 b36.out) (by decide) rfl rfl) (Z20 (i := 0) Tryz.results86 rfl rfl))
   ·refine sk <| Rg <| Md rfl <| As rfl <| Nl ?_
    exact ⟨(_, _, _, _, _, _, _, _, _, _), Nat.lt_succ_self _, ⟨trivial, h⟩, FX rfl⟩
def Zi1 (s1 : Switch) (x2 : Env) (x3 : Z0j) : Option (List Out) :=
 (Znq (⟨s1, x2, x3, [], [], []⟩ : Z2t)).bind fun b8 => some b8.out
theorem Yaj : Q3 Tryz.prog 29 (rd Z0i) (rd Z1m) (rd (Z1 24 Zd)) (rd (Z2 Z08)) Zi1 := fun s1 x2 x3 r h => I0 Tryz.func29 rfl Tryz.ntmps29 rfl fun w H => by
 unfold Zi1 at h
 refine SR <| Cv rfl (Zl 4 rfl rfl (vt rfl)) fun g4 => Cv rfl (Zl 5 rfl rfl (vt rfl)) fun g5 => Cv rfl (Zl 6 rfl rfl (vt rfl)) fun g6 => Ac (Zy (A := rd (Z2 Z08) []) rfl rfl Z1p) rfl <| Nl <| sq <| AW.newnil 2264 71 Z08 <| AW.newnil 2265 51 Z46 <| Rg <| Ld Z5t 4 rfl <| Ld Z6h 5 rfl <| Ld Z0f 6 rfl <| Ac (opb (⟨s1, x2, x3, [], (.slice none 0 0), (.slice none 0 0)⟩ : sem_packet_o4_5) Yal rfl Ygg (pc Ydu (vt rfl) <| pc Ylt (vt rfl) <| pc Ya0 (vt rfl) <| pn rfl)) rfl <| Cv rfl (Zl 13 rfl rfl (vt rfl)) fun g7 => Ac (Zy (A := Zb g7 (Lens.id Z1x)) rfl rfl (vt rfl)) rfl <| Nl <| sq ?_
 obtain ⟨b8, hb8, h⟩ := Za h
 refine Rg <| Mp rfl <| AOps.packF 13 2264 (fun v => (⟨s1, x2, x3, [], v, (.slice none 0 0)⟩ : sem_packet_o4_5)) (by decide) rfl rfl <| AOps.packS 13 2265 (fun v2 => Z0t g7 144 Z1x (fun v => (⟨s1, x2, x3, [], v, v2⟩ : sem_packet_o4_5)) 71 Z08 []) (by decide) rfl rfl <| Cv rfl (Z1b 13 (xs := [.tmp 13]) (Ykn _ _ _ _ hb8) e86 rfl rfl ⟨vt rfl, trivial⟩ rfl) fun _u => AOps.unboxS 13 2265 (by decide) rfl rfl fun v10 => AOps.unboxF 13 2264 (by decide) rfl rfl fun v9 => Nl <| SR <| Mp rfl <| Nc rfl <| Zj Zic Zr0 rfl <| Ac (Z6s v9 rfl rfl Z6z (vt rfl) (i := 13) rfl rfl) rfl <| Aw rfl <| Nl <| AW.freezes [6, 18] 2264 rfl ⟨rfl, rfl, trivial⟩ rfl <| rt ?_
 cases h; exact Zg Tryz.results29 rfl (Z4 rfl)
def Zab (s1 : (List Out)) (s2 : (List Out)) : Nat → Nat → Option Bool
 | 0, i3 => some true
 | m4 + 1, i3 => (lget s1 (i3 : Int)).bind fun x5 => (lget s2 (i3 : Int)).bind fun x6 => (bif (decide (x5 ≠ x6)) then some false else (Zab s1 s2 m4) (i3 + 1))
def Znt (s1 : (List Out)) (s2 : (List Out)) : Option Bool :=
 (bif (decide ((s1.length : Int) ≠ (s2.length : Int))) then some false else Zab s1 s2 ((s1.length : Int) : Int).toNat 0)
theorem Yf6 : Q2 Tryz.prog 94 (rd (Z2 Z08)) (rd (Z2 Z08)) (rd Z7) Znt := fun s1 s2 r h => I0 Tryz.func94 rfl Tryz.ntmps94 rfl fun w H => by
 unfold Znt at h
 refine SR <| Ab rfl <| Nl <| sq <| SR <| Md rfl <| Ac (Z0x rfl rfl Zbp (vt rfl)) rfl <| Md rfl <| Ac (Z0x rfl rfl Zbp (vt rfl)) rfl <| Ac (Zbr rfl rfl (vt rfl) (vt rfl)) rfl <| Nl <| Cq rfl h (fun h => ?_) (fun h => ?_)
 ·refine SR <| Ab rfl <| Nl <| rt ?_
  cases h; exact Zg Tryz.results94 rfl (Z4 rfl)
 ·refine sk <| sq <| SR <| Md rfl <| Ac (Z0x rfl rfl Zbp (vt rfl)) rfl <| Mk rfl <| Nl <| bk <| LG (d := []) (ν := Nat × Nat) (fun (m4, i3) => (Cnt (s1.length : Int) i3 m4 ∧ Zab s1 s2 m4 i3 = some r, m4, [(0, rd (Z2 Z08) s1), (1, rd (Z2 Z08) s2), (12, rd (Z0 .i64) (s1.length : Int)), (13, rd (Z0 .i64) (i3 : Int))], [])) (((s1.length : Int) : Int).toNat, 0) ⟨Cnt.start _, h⟩ (FX rfl) ?_
  rintro ⟨m4, i3⟩ ⟨hsf1, h⟩
  dsimp only at hsf1 h ⊢
  cases m4 with
  | zero =>
   unfold Zab at h
   refine SR <| Ac (Zn rfl rfl (vt rfl) (vt rfl)) rfl <| Nl <| sq <| Cn rfl (fun hc => absurd (of_decide_eq_true hc) hsf1.zero) (fun hc => ?_)
   refine xt <| SR <| Ab rfl <| Nl <| rt ?_
   cases h; exact Zg Tryz.results94 rfl (Z4 rfl)
  | succ m4 =>
   unfold Zab at h
   refine SR <| Ac (Zn rfl rfl (vt rfl) (vt rfl)) rfl <| Nl <| sq <| Cn rfl (fun hc => ?_) (fun hc => absurd hsf1.succ (of_decide_eq_false hc))
   have hlti3 := of_decide_eq_true hc
   refine sk <| sq <| bk <| SR <| Md rfl <| As rfl <| Nl <| sq ?_
   obtain ⟨x5, hx5, x6, hx6, h⟩ := bs2 h
   refine AR Zx (by kernel_rfl) <| Zq rfl <| Zq rfl <| Sd (lo [16, 17] [] rfl fun S hs hr => Z0q rfl rfl Zbp (vh hs 16 rfl rfl) (vh hs 17 rfl rfl) hx5) <| SLp Y1i rfl <| Zq rfl <| Zq rfl <| Sd (lo [20, 21] [] rfl fun S hs hr => Z0q rfl rfl Zbp (vh hs 20 rfl rfl) (vh hs 21 rfl rfl) hx6) <| SLp Y1i rfl <| Sd (lo [19, 23] [] rfl fun S hs hr => Yj1 rfl rfl Ybp (by decide) rfl Y8n (vh hs 19 rfl rfl) (vh hs 23 rfl rfl)) <| Sn <| Cq rfl h (fun h => ?_) (fun h => ?_)
   ·refine SR <| Ab rfl <| Nl <| rt ?_
    cases h; exact Zg Tryz.results94 rfl (Z4 rfl)
   ·refine sk <| Rg <| Ac (Z23 (t := 12) rfl rfl (vt rfl) (vk rfl) (vt rfl) hlti3) rfl <| Md rfl <| Nl ?_
    exact ⟨(_, _), Nat.lt_succ_self _, ⟨hsf1.next, h⟩, FX rfl⟩
def Zif (a1 : (List Out)) (b2 : (List Out)) : Option Bool :=
 (Znt a1 b2).bind fun x3 => some x3
theorem Yhz : Q2 Tryz.prog 38 (rd (Z2 Z08)) (rd (Z2 Z08)) (rd Z7) Zif := fun a1 b2 r h => I0 Tryz.func38 rfl Tryz.ntmps38 rfl fun w H => by
 unfold Zif at h
 refine SR <| Ab rfl <| Nl <| sq ?_
 obtain ⟨x3, hx3, h⟩ := Za h
 refine Rg <| Md rfl <| Md rfl <| Cl [5, 6] (Yf6 _ _ _ hx3) e94 rfl <| As rfl <| Nl <| rt ?_
 cases h; exact Zg Tryz.results38 rfl (Z4 rfl)
def Zht (s1 : Switch) (m2 : Int) (x3 : Env) (x4 : Z0j) : Option Bool :=
 (Zms s1 m2).bind fun x8 => (bif ((!x8) || (decide ((x3.Down.length : Int) > 20))) then (Zeo).bind fun x9 => some x9 else (Ziy s1 m2).bind fun x10 => (bif (decide (x10.2 ≠ 0)) then (Zeo).bind fun x12 => some x12 else (Zdx x10.1 x4).bind fun x13 => (opt x13.2 (Zgz x10.1 x3 x4)).bind fun x14 => (opt x13.2 (Zi1 s1 x3 x4)).bind fun x15 => (opt x13.2 (Zif x14 x15)).bind fun x16 => (opt (x13.2 && x16) (Zeo)).bind fun x17 => some ((x13.2 && x16) && x17)))
theorem Yl5 : Q4 Tryz.prog 17 (rd Z0i) (rd (Z0 .i64)) (rd Z1m) (rd (Z1 24 Zd)) (rd Z7) Zht := fun s1 m2 x3 x4 r h => I0 Tryz.func17 rfl Tryz.ntmps17 rfl fun w H => by
 unfold Zht at h
 refine SR <| Cv rfl (Zl 5 rfl rfl (vt rfl)) fun g5 => Cv rfl (Zl 7 rfl rfl (vt rfl)) fun g6 => Cv rfl (Zl 8 rfl rfl (vt rfl)) fun g7 => Ab rfl <| Nl <| sq <| sq ?_
 obtain ⟨x8, hx8, h⟩ := Za h
 refine Rg <| Ld Z5t 5 rfl <| Md rfl <| Cl [13, 14] (Yft _ _ _ hx8) e61 rfl <| Ac (Z15 rfl rfl (vt rfl)) rfl <| Md rfl <| Gd rfl (fun hq => Z3y Zru rfl rfl Y3o (vt rfl)) <| Gd rfl (fun hq => Z29 rfl rfl Y17 (Zo rfl hq) (i := 7) rfl) <| Gd rfl (fun hq => Z0x rfl rfl Z0y (Zo rfl hq)) <| Gd rfl (fun hq => Z3i rfl rfl (Zo rfl hq) (vk rfl)) <| Ac (Za0 rfl rfl (vt rfl) (vt rfl)) rfl <| Nl <| Cq rfl h (fun h => ?_) (fun h => ?_)
 ·refine sq ?_
  obtain ⟨x9, hx9, h⟩ := Za h
  refine Rg <| Cl [] (Zuf _ hx9) e41 rfl <| As rfl <| Nl <| rt ?_
  cases h; exact Zg Tryz.results17 rfl (Z4 rfl)
 ·refine sk <| sq ?_
  obtain ⟨x10, hx10, h⟩ := Za h
  refine Rg <| Ld Z5t 5 rfl <| Md rfl <| Cl [25, 26] (Yla _ _ _ hx10) e54 rfl <| Mt2 rfl <| Ac (Z1h rfl rfl (vt rfl)) rfl <| Ac (Z1f rfl rfl (vt rfl)) rfl <| Cv rfl (Zp 10 rfl rfl Zep) fun g11 => Zh Z6y 10 rfl <| As rfl <| Nl <| sq <| SR <| Md rfl <| Ac (Zbr rfl rfl (vt rfl) (vk rfl)) rfl <| Nl <| Cq rfl h (fun h => ?_) (fun h => ?_)
  ·refine sq ?_
   obtain ⟨x12, hx12, h⟩ := Za h
   refine Rg <| Cl [] (Zuf _ hx12) e41 rfl <| As rfl <| Nl <| rt ?_
   cases h; exact Zg Tryz.results17 rfl (Z4 rfl)
  ·refine sk <| sq ?_
   obtain ⟨x13, hx13, h⟩ := Za h
   refine Rg <| Ld Z6y 10 rfl <| Ld Z0f 8 rfl <| Cl [34, 35] (Zsv _ _ _ hx13) e42 rfl <| Mt2 rfl <| Ac (Z1h rfl rfl (vt rfl)) rfl <| Ac (Z1f rfl rfl (vt rfl)) rfl <| As rfl <| As rfl <| Nl <| sq ?_
   obtain ⟨x14, hx14, x15, hx15, x16, hx16, x17, hx17, h⟩ := bs4 h
   refine AR Zx (by kernel_rfl) <| Zq rfl <| Zq rfl <| Sd (lg [9, 40] [10] rfl fun hq S hs hr => Z29 rfl rfl Z6y (vh hs 9 rfl rfl) (i := 10) ((hr 10 rfl).trans rfl)) <| Sd (lg [6, 40] [7] rfl fun hq S hs hr => Z29 rfl rfl Z6h (vh hs 6 rfl rfl) (i := 7) ((hr 7 rfl).trans rfl)) <| Sd (lg [7, 40] [8] rfl fun hq S hs hr => Z29 rfl rfl Z0f (vh hs 7 rfl rfl) (i := 8) ((hr 8 rfl).trans rfl)) <| Sd (lg [41, 42, 43, 40] [] rfl fun hq S hs hr => Z0r (xs := [.tmp 41, .tmp 42, .tmp 43]) (Y0g _ _ _ _ (Z28 hx14 hq)) e44 rfl rfl ⟨Zo ((hs 41 rfl).trans rfl) hq, Zo ((hs 42 rfl).trans rfl) hq, Zo ((hs 43 rfl).trans rfl) hq, trivial⟩) <| Sd (lg [4, 40] [5] rfl fun hq S hs hr => Z29 rfl rfl Z5t (vh hs 4 rfl rfl) (i := 5) ((hr 5 rfl).trans rfl)) <| Sd (lg [6, 40] [7] rfl fun hq S hs hr => Z29 rfl rfl Z6h (vh hs 6 rfl rfl) (i := 7) ((hr 7 rfl).trans rfl)) <| Sd (lg [7, 40] [8] rfl fun hq S hs hr => Z29 rfl rfl Z0f (vh hs 7 rfl rfl) (i := 8) ((hr 8 rfl).trans rfl)) <| Sd (lg [45, 46, 47, 40] [] rfl fun hq S hs hr => Z0r (xs := [.tmp 45, .tmp 46, .tmp 47]) (Yaj _ _ _ _ (Z28 hx15 hq)) e29 rfl rfl ⟨Zo ((hs 45 rfl).trans rfl) hq, Zo ((hs 46 rfl).trans rfl) hq, Zo ((hs 47 rfl).trans rfl) hq, trivial⟩) <| Sd (lg [44, 48, 40] [] rfl fun hq S hs hr => Z0r (xs := [.tmp 44, .tmp 48]) (Yhz _ _ _ (Z28 hx16 hq)) e38 rfl rfl ⟨Zo ((hs 44 rfl).trans rfl) hq, Zo ((hs 48 rfl).trans rfl) hq, trivial⟩) <| Sd (lo [49, 40] [] rfl fun S hs hr => Z1t rfl rfl (vh hs 40 rfl rfl) (vh hs 49 rfl rfl)) <| Zq rfl <| Sd (lg [51] [] rfl fun hq S hs hr => Z0r (xs := []) (Zuf _ (Z28 hx17 hq)) e41 rfl rfl trivial) <| Sd (lo [52, 51] [] rfl fun S hs hr => Z1t rfl rfl (vh hs 51 rfl rfl) (vh hs 52 rfl rfl)) <| SAs rfl <| Sn <| rt ?_
   cases h; exact Zg Tryz.results17 rfl (Z4 rfl)
end Go.Proofs.YtknpgojdkobgjaaGreat.W
