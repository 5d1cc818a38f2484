/- A part of the proof. -/
import Derived.Test.YtknpgojdkobgjaaGreatG2
set_option linter.unusedVariables false
set_option maxRecDepth 4000
set_option linter.unusedSimpArgs false
namespace Go.Proofs.YtknpgojdkobgjaaGreat.W
open Go Go.Wb
theorem Y1d : Ent Tryz.prog 318 := Ent.mk Tryz.func318 rfl rfl
theorem Ztf : Ent Tryz.prog 320 := Ent.mk Tryz.func320 rfl rfl
theorem Yai : Ent Tryz.prog 317 := Ent.mk Tryz.func317 rfl rfl
theorem Y5p : Ent Tryz.prog 278 := Ent.mk Tryz.func278 rfl rfl
theorem Y8a : Ent Tryz.prog 279 := Ent.mk Tryz.func279 rfl rfl
theorem e70 : Ent Tryz.prog 70 := Ent.mk Tryz.func70 rfl rfl
theorem Ye5 : Ent Tryz.prog 280 := Ent.mk Tryz.func280 rfl rfl
theorem Zxp : Ent Tryz.prog 235 := Ent.mk Tryz.func235 rfl rfl
theorem Yar : Ent Tryz.prog 240 := Ent.mk Tryz.func240 rfl rfl
theorem Y3a : Ent Tryz.prog 179 := Ent.mk Tryz.func179 rfl rfl
theorem Y7v : Ent Tryz.prog 170 := Ent.mk Tryz.func170 rfl rfl
theorem Y7b : Ent Tryz.prog 288 := Ent.mk Tryz.func288 rfl rfl
def Z88 (sg : Type) (go1 : Nat → (Vector Tern 24) → (Lp sg) → Option (Lp sg)) (i14 : Nat) (x16 : Tern) (yield1 : (sg → (Vector Tern 24) → Option (Lp sg))) : (List Int) → Nat → (Vector Tern 24) → (Lp sg) → Option (Lp sg)
 | [], i24, b22, s23 => go1 (i14 + 1) b22 s23
 | x26 :: l25, i24, b22, s23 => (Zd0 x16.Value x26).bind fun x27 => (chk 24 (i14 : Int)).bind fun j29 => (Zf7 (Vector.get b22 j29) x26 (!x27)).bind fun x30 => (chk 24 (i14 : Int)).bind fun j31 => (yc yield1 s23 (Vector.set b22 j31.1 x30 j31.2)).bind fun s32 => (bif (!(Lp.isGo s32)) then some s32 else (chk 24 (i14 : Int)).bind fun j33 => (Zf7 (Vector.get b22 j33) x26 x27).bind fun x34 => (chk 24 (i14 : Int)).bind fun j35 => (Z88 sg go1 i14 x16 yield1 l25) (i24 + 1) (Vector.set b22 j35.1 x34 j35.2) s32)
def Z7c (sg : Type) (yield1 : (sg → (Vector Tern 24) → Option (Lp sg))) : (List Tern) → Nat → (Vector Tern 24) → (Lp sg) → Option (Lp sg)
 | [], i14, b12, s13 => some s13
 | x16 :: l15, i14, b12, s13 => (chk 24 (i14 : Int)).bind fun j18 => (Zg7 (Vector.get b12 j18) x16).bind fun x19 => (bif (decide ((x19.length : Int) = 0)) then (Z7c sg yield1 l15) (i14 + 1) b12 s13 else Z88 sg (Z7c sg yield1 l15) i14 x16 yield1 x19 0 b12 s13)
def Z9x (sg : Type) (yield1 : (sg → (Vector Tern 24) → Option (Lp sg))) (s2 : (Lp sg)) (cp3 : (Vector Tern 24)) (cp4 : (Vector Tern 24)) : Option (Lp sg) :=
 (Z9y cp3).bind fun x5 => (Z8i cp3 cp4).bind fun x7 => (bif (!x7.2) then (yc yield1 s2 x5).bind fun s9 => some s9 else Z7c sg yield1 (Vector.toList cp4) 0 x5 s2)
theorem Yam (sg : Type) (yield1 : (sg → (Vector Tern 24) → Option (Lp sg))) (L : Lp sg → Res) (s2 : (Lp sg)) (cp3 : (Vector Tern 24)) (cp4 : (Vector Tern 24)) (r : (Lp sg)) (h : Z9x sg yield1 s2 cp3 cp4 = some r) : Con Tryz.prog 317 [ydA Tryz.prog (Z2 24 Z3) yield1 L, rp (Z2 24 Z3) cp3, rp (Z2 24 Z3) cp4] (L s2) (fun _ : Unit => top) (fun _ => L r) := by
 refine Con.intro Tryz.func317 rfl Tryz.ntmps317 rfl fun w H X => ?_
 unfold Z9x at h
 refine AW.scope <| AW.seq ?_
 obtain ⟨x5, hx5, h⟩ := Z1 h
 refine Rg <| Lp1 Zz rfl <| Cl [14] (Zl7 _ _ hx5) Zn8 rfl <| Ct rfl (Zm 5 rfl rfl Z0v) ?_
 rintro _ ⟨g6, rfl⟩
 refine Zh Zz 5 rfl <| Nl <| AW.seq <| AW.seq ?_
 obtain ⟨x7, hx7, h⟩ := Z1 h
 refine Rg <| Lp1 Zz rfl <| Lp1 Zz rfl <| Cl [17, 18] (Zkf _ _ _ hx7) Zk4 rfl <| Mt2 rfl <| Ac (Z1p rfl rfl (vt rfl)) rfl <| Ac (Z1q rfl rfl (vt rfl)) rfl <| Ct rfl (Zm 6 rfl rfl Z0v) ?_
 rintro _ ⟨g8, rfl⟩
 refine Zh Zz 6 rfl <| As rfl <| Nl <| SR <| Md rfl <| Ac (Z13 rfl rfl (vt rfl)) rfl <| Nl <| Cn rfl (fun hc => ?_) (fun hc => ?_)
 ·have h := Ze hc h
  refine AW.seq ?_
  obtain ⟨s9, hs9, h⟩ := Z1 h
  refine Rg <| Ac (Zs (A := ydA Tryz.prog (Z2 24 Z3) yield1 L) rfl rfl (vt rfl)) rfl <| Ld Zz 5 rfl <| Ac (Zlz 0 hs9 rfl rfl (vt rfl) (vt rfl) rfl) rfl <| Nl <| AW.ret ?_
  obtain rfl := si h
  exact Z2n (i := 0) Tryz.results317 rfl rfl
 ·have h := Zf hc h
  refine AW.skip <| AW.seq <| AW.label <| SR <| Lp1 Zz rfl <| Mk rfl <| Nl <| AW.block <| AW.loopG (d := []) (ν := (List Tern) × Nat × (Vector Tern 24) × (Lp sg)) (fun n => Sfx (Vector.toList cp4) n.2.1 n.1 ∧ Z7c sg yield1 n.1 n.2.1 n.2.2.1 n.2.2.2 = some r) (fun n => n.1.length) (fun n => [(0, ydA Tryz.prog (Z2 24 Z3) yield1 L), (4, Z7 g6 (Lens.id (Z2 24 Z3))), (27, rd (Z2 24 Z3) cp4), (28, rd (Z0 .i64) (n.2.1 : Int))]) (fun n => [(0, L n.2.2.2), (5, Z9 g6 87 (Z2 24 Z3) n.2.2.1)]) ((Vector.toList cp4), 0, x5, s2) ⟨Sfx.start _, h⟩ ⟨rfl, ⟨rfl, rfl, rfl, rfl, trivial⟩, ⟨rfl, rfl, trivial⟩⟩ ?_
  rintro ⟨l15, i14, b12, s13⟩ ⟨hsf1, h⟩
  change Sfx (Vector.toList cp4) i14 l15 at hsf1
  change Z7c sg yield1 l15 i14 b12 s13 = some r at h
  change AW _ _ _ ⟨Zw [(0, ydA Tryz.prog (Z2 24 Z3) yield1 L), (4, Z7 g6 (Lens.id (Z2 24 Z3))), (27, rd (Z2 24 Z3) cp4), (28, rd (Z0 .i64) (i14 : Int))], Zx [(0, L s13), (5, Z9 g6 87 (Z2 24 Z3) b12)], _⟩
  cases l15 with
  | nil =>
   unfold Z7c at h
   refine SR <| Ac (Zl rfl rfl (vt rfl) (vk rfl)) rfl <| Nl <| AW.seq <| Cn rfl (fun hc => absurd (of_decide_eq_true hc) (hsf1.niln (by simp))) (fun hc => ?_)
   refine AW.exit ?_
   obtain rfl := si h
   exact Z2n (i := 0) Tryz.results317 rfl rfl
  | cons x16 l15 =>
   unfold Z7c at h
   generalize hgo1 : Z7c sg yield1 l15 = go1 at h
   refine SR <| Ac (Zl rfl rfl (vt rfl) (vk rfl)) rfl <| Nl <| AW.seq <| Cn rfl (fun hc => ?_) (fun hc => absurd (hsf1.consn (by simp)) (of_decide_eq_false hc))
   have hlti14 := of_decide_eq_true hc
   refine AW.skip <| AW.seq <| AW.block <| SR <| Md rfl <| Ac (Zcj rfl rfl Z20 Z00 (vt rfl) (vt rfl) hsf1.lget) rfl <| Ct rfl (Zm 9 rfl rfl Z16) ?_
   rintro _ ⟨g17, rfl⟩
   refine As rfl <| Zh Z00 9 rfl <| Nl <| AW.seq ?_
   obtain ⟨j18, hj18, h⟩ := Z1 h
   obtain ⟨x19, hx19, h⟩ := Z1 h
   refine AW.regionAny [⟨[7], [32], [], []⟩, ⟨[4, 32], [33], [], []⟩, ⟨[33], [34], [5], []⟩, ⟨[8], [35], [9], []⟩, ⟨[34, 35], [36], [], []⟩, ⟨[36], [9], [], []⟩] Z06 (by kernel_rfl) <| Zu rfl <| Sc (lo [4, 32] [] rfl fun S hs hr => Z15 rfl rfl Z20 (vh hs 4 rfl rfl) (vh hs 32 rfl rfl) hj18) rfl <| Zq Z00 5 rfl <| Zq Z00 9 rfl <| SCl [34, 35] (Yfc _ _ _ hx19) Y1d rfl <| SAs rfl <| AW.seq <| SR <| Md rfl <| Ac (Z0j rfl rfl Z10 (vt rfl)) rfl <| Ac (Z0i rfl rfl (vt rfl) (vk rfl)) rfl <| Nl <| Cn rfl (fun hc => ?_) (fun hc => ?_)
   ·have h := Ze hc h
    refine AW.exit <| Rg <| Ac (Z7g rfl rfl (vt rfl) (vk rfl) rfl hlti14) rfl <| Md rfl <| Nl ?_
    subst hgo1
    exact ⟨(l15, i14 + 1, b12, s13), Nat.lt_succ_self _, ⟨hsf1.next, h⟩, ⟨rfl, ⟨rfl, rfl, rfl, rfl, trivial⟩, ⟨rfl, rfl, trivial⟩⟩⟩
   ·have h := Zf hc h
    refine AW.skip <| SR <| Md rfl <| Ac (Z0j rfl rfl Z10 (vt rfl)) rfl <| Mk rfl <| Nl <| AW.block <| AW.loopG (d := []) (ν := (List Int) × Nat × (Vector Tern 24) × (Lp sg)) (fun n => Sfx x19 n.2.1 n.1 ∧ Z88 sg go1 i14 x16 yield1 n.1 n.2.1 n.2.2.1 n.2.2.2 = some r) (fun n => n.1.length) (fun n => [(0, ydA Tryz.prog (Z2 24 Z3) yield1 L), (4, Z7 g6 (Lens.id (Z2 24 Z3))), (7, rd (Z0 .i64) (i14 : Int)), (8, Z7 g17 (Lens.id Z3)), (27, rd (Z2 24 Z3) cp4), (28, rd (Z0 .i64) (i14 : Int)), (40, rd (Z4 (Z0 .i64)) x19), (41, rd (Z0 .i64) (x19.length : Int)), (42, rd (Z0 .i64) (n.2.1 : Int))]) (fun n => [(0, L n.2.2.2), (5, Z9 g6 87 (Z2 24 Z3) n.2.2.1), (9, Z9 g17 85 Z3 x16)]) (x19, 0, b12, s13) ⟨Sfx.start _, h⟩ ⟨rfl, ⟨rfl, rfl, rfl, rfl, rfl, rfl, rfl, rfl, rfl, trivial⟩, ⟨rfl, rfl, rfl, trivial⟩⟩ ?_
    rintro ⟨l25, i24, b22, s23⟩ ⟨hsf2, h⟩
    change Sfx x19 i24 l25 at hsf2
    change Z88 sg go1 i14 x16 yield1 l25 i24 b22 s23 = some r at h
    change AW _ _ _ ⟨Zw [(0, ydA Tryz.prog (Z2 24 Z3) yield1 L), (4, Z7 g6 (Lens.id (Z2 24 Z3))), (7, rd (Z0 .i64) (i14 : Int)), (8, Z7 g17 (Lens.id Z3)), (27, rd (Z2 24 Z3) cp4), (28, rd (Z0 .i64) (i14 : Int)), (40, rd (Z4 (Z0 .i64)) x19), (41, rd (Z0 .i64) (x19.length : Int)), (42, rd (Z0 .i64) (i24 : Int))], Zx [(0, L s23), (5, Z9 g6 87 (Z2 24 Z3) b22), (9, Z9 g17 85 Z3 x16)], _⟩
    cases l25 with
    | nil =>
     unfold Z88 at h
     refine SR <| Ac (Zl rfl rfl (vt rfl) (vt rfl)) rfl <| Nl <| AW.seq <| Cn rfl (fun hc => absurd (of_decide_eq_true hc) hsf2.nil) (fun hc => ?_)
     refine AW.exit <| Rg <| Ac (Z7g rfl rfl (vt rfl) (vk rfl) rfl hlti14) rfl <| Md rfl <| Nl ?_
     subst hgo1
     exact ⟨(l15, i14 + 1, b22, s23), Nat.lt_succ_self _, ⟨hsf1.next, h⟩, ⟨rfl, ⟨rfl, rfl, rfl, rfl, trivial⟩, ⟨rfl, rfl, trivial⟩⟩⟩
    | cons x26 l25 =>
     unfold Z88 at h
     generalize hgo2 : Z88 sg go1 i14 x16 yield1 l25 = go2 at h
     refine SR <| Ac (Zl rfl rfl (vt rfl) (vt rfl)) rfl <| Nl <| AW.seq <| Cn rfl (fun hc => ?_) (fun hc => absurd hsf2.cons (of_decide_eq_false hc))
     have hlti24 := of_decide_eq_true hc
     refine AW.skip <| AW.seq <| AW.block <| SR <| Ac (Z0l rfl rfl Z10 (vt rfl) (vt rfl) hsf2.lget) rfl <| Lp1 Zv rfl <| As rfl <| Nl <| AW.seq ?_
     obtain ⟨x27, hx27, h⟩ := Z1 h
     refine Rg <| Zp Z1a Z2f rfl <| Ld Zt 9 rfl <| Md rfl <| Cl [47, 48] (Zyi _ _ _ hx27) Zxz rfl <| As rfl <| Nl <| SR <| Ld Zz 5 rfl <| Ct rfl (Zm 14 rfl rfl Z0v) ?_
     rintro _ ⟨g28, rfl⟩
     refine Zh Zz 14 rfl <| Nl <| AW.seq ?_
     obtain ⟨j29, hj29, h⟩ := Z1 h
     obtain ⟨x30, hx30, h⟩ := Z1 h
     obtain ⟨j31, hj31, h⟩ := Z1 h
     refine Rg <| Md rfl <| Md rfl <| Ac (Z15 rfl rfl Z20 (vt rfl) (vt rfl) hj29) rfl <| Ld Z00 5 rfl <| Md rfl <| Md rfl <| Ac (Z13 rfl rfl (vt rfl)) rfl <| Cl [54, 55, 57] (Zwx _ _ _ _ hx30) Ztf rfl <| Ac (Z15 rfl rfl Z20 (vt rfl) (vt rfl) hj31) rfl <| Zh Z00 14 rfl <| Nl <| AW.seq <| AW.seq ?_
     obtain ⟨s32, hs32, h⟩ := Z1 h
     refine Rg <| Ac (Zs (A := ydA Tryz.prog (Z2 24 Z3) yield1 L) rfl rfl (vt rfl)) rfl <| Ld Zz 14 rfl <| Ac (Zlz 0 hs32 rfl rfl (vt rfl) (vt rfl) rfl) rfl <| Ac (Z13 rfl rfl (vt rfl)) rfl <| Nl <| Cn rfl (fun hc => ?_) (fun hc => ?_)
     ·have h := Ze hc h
      refine AW.exit ?_
      obtain rfl := si h
      exact Z2n (i := 0) Tryz.results317 rfl rfl
     ·have h := Zf hc h
      refine AW.skip ?_
      obtain ⟨j33, hj33, h⟩ := Z1 h
      obtain ⟨x34, hx34, h⟩ := Z1 h
      obtain ⟨j35, hj35, h⟩ := Z1 h
      refine Rg <| Md rfl <| Md rfl <| Ac (Z15 rfl rfl Z20 (vt rfl) (vt rfl) hj33) rfl <| Ld Z00 5 rfl <| Md rfl <| Md rfl <| Cl [67, 68, 69] (Zwx _ _ _ _ hx34) Ztf rfl <| Ac (Z15 rfl rfl Z20 (vt rfl) (vt rfl) hj35) rfl <| Zh Z00 5 rfl <| Nl <| Rg <| Ac (Z1t (t := 41) rfl rfl (vt rfl) (vk rfl) (vt rfl) hlti24) rfl <| Md rfl <| Nl ?_
      subst hgo2
      exact ⟨(l25, i24 + 1, (Vector.set b22 j35.1 x34 j35.2), s32), Nat.lt_succ_self _, ⟨hsf2.next, h⟩, ⟨rfl, ⟨rfl, rfl, rfl, rfl, rfl, rfl, rfl, rfl, rfl, trivial⟩, ⟨rfl, rfl, rfl, trivial⟩⟩⟩
def Zkb (a1 : (Vector Tern 24)) (b2 : (Vector Tern 24)) : Option (Itr (Vector Tern 24)) :=
 some (Itr.mk fun σ y s => Z9x σ y s a1 b2)
theorem Yab (a1 : (Vector Tern 24)) (b2 : (Vector Tern 24)) (r : (Itr (Vector Tern 24))) (h : Zkb a1 b2 = some r) : PCon Tryz.prog 280 [rd (Z2 24 Z3) a1, rd (Z2 24 Z3) b2] (Z58 Tryz.prog (Z2 24 Z3) r) := by
 refine PCon.of (Con.intro0 Tryz.func280 rfl Tryz.ntmps280 rfl fun w H => ?_)
 unfold Zkb at h
 refine SR <| Ct rfl (Zo 3 rfl rfl (vt rfl)) ?_
 rintro _ ⟨g3, rfl⟩
 refine Ct rfl (Zo 4 rfl rfl (vt rfl)) ?_
 rintro _ ⟨g4, rfl⟩
 refine Ac (Z07 (A := Zc .nilFunc) rfl rfl vc) rfl <| Nl <| AW.seq <| AW.freezeB 2 3 rfl rfl rfl <| AW.freezeB 3 4 rfl rfl rfl <| Rg <| Ac (Zxb (Itr.mk fun σ y s => Z9x σ y s a1 b2) (cs := [.tmp 2, .tmp 3]) (CAs := [rp (Z2 24 Z3) a1, rp (Z2 24 Z3) b2]) rfl rfl Yai ⟨vt rfl, vt rfl, trivial⟩ (fun σ y L s r h => Yam σ y L s a1 b2 r h)) rfl <| Ac (Z07 (A := Z58 Tryz.prog (Z2 24 Z3) (Itr.mk fun σ y s => Z9x σ y s a1 b2)) rfl rfl (vt rfl)) rfl <| Nl <| AW.ret ?_
 obtain rfl := si h
 exact Zg Tryz.results280 rfl (Z6 rfl)
def Z8q (l4 : (List (Vector Tern 24))) (x10 : (Bool × Int)) (R_cover_look_at : (cover_look → (Vector Tern 24) → (List (Vector Tern 24)) → Option ((Vector Wide 24) × Bool × Bool × cover_look))) (b18 : cover_look) (b19 : (Vector Wide 24)) (b20 : Bool) (b21 : Bool) (x23 : (Vector Tern 24)) : Option (Lp (cover_look × (Vector Wide 24) × Bool × Bool)) :=
 (Z5c l4 (IntKind.i64.wrap (x10.2 + 1))).bind fun s25 => (R_cover_look_at b18 x23 s25).bind fun b26 => (bif (b26.2.1 || (!b26.2.2.1)) then some (.out (.exit 1) (b26.2.2.2, b26.1, b26.2.1, b26.2.2.1)) else some (.go (b26.2.2.2, b26.1, b26.2.1, b26.2.2.1)))
def Zjc (R_cover_look_at : (cover_look → (Vector Tern 24) → (List (Vector Tern 24)) → Option ((Vector Wide 24) × Bool × Bool × cover_look))) (s1 : cover_look) (cu3 : (Vector Tern 24)) (l4 : (List (Vector Tern 24))) : Option ((Vector Wide 24) × Bool × Bool × cover_look) :=
 (Zjw s1.purse).bind fun b9 => (bif (!b9.1) then some ((Vector.replicate 24 Z05), false, false, { s1 with purse := b9.2 }) else (Zly cu3 l4).bind fun x10 => (bif x10.1 then some ((Vector.replicate 24 Z05), false, true, { s1 with purse := b9.2 }) else (bif (decide (x10.2 < 0)) then (Zi0 cu3).bind fun x12 => some (x12, true, true, { s1 with purse := b9.2 }) else (lget l4 x10.2).bind fun e16 => (Zkb cu3 e16).bind fun x17 => (Itr.run x17 (cover_look × (Vector Wide 24) × Bool × Bool) (fun s x => Z8q l4 x10 R_cover_look_at s.1 s.2.1 s.2.2.1 s.2.2.2 x) (.go ({ s1 with purse := b9.2 }, (Vector.replicate 24 Z05), false, true))).bind fun z22 => Yao z22 (fun s27 => some (s27.2.1, s27.2.2.1, s27.2.2.2, s27.1)) (fun c s27 => bif Zmr 1 c then some (s27.2.1, s27.2.2.1, s27.2.2.2, s27.1) else none))))
theorem Y1z (R_cover_look_at : (cover_look → (Vector Tern 24) → (List (Vector Tern 24)) → Option ((Vector Wide 24) × Bool × Bool × cover_look))) (hR_cover_look_at : ∀ (g2 gT : Nat) (s1 : cover_look) (cu3 : (Vector Tern 24)) (l4 : (List (Vector Tern 24))) (r : ((Vector Wide 24) × Bool × Bool × cover_look)), R_cover_look_at s1 cu3 l4 = some r → Con Tryz.prog 235 [Z7 g2 (Lens.id Z1r), rd (Z2 24 Z3) cu3, rd (Z4 (Z2 24 Z3)) l4] (Z9 g2 gT Z1r s1) (fun _ : Unit => Z3n (rd (Z2 24 Zn) r.1) (rd Z8 r.2.1) (rd Z8 r.2.2.1)) (fun _ => Z9 g2 gT Z1r r.2.2.2)) (g2 gT : Nat) (s1 : cover_look) (cu3 : (Vector Tern 24)) (l4 : (List (Vector Tern 24))) (r : ((Vector Wide 24) × Bool × Bool × cover_look)) (h : Zjc R_cover_look_at s1 cu3 l4 = some r) : Con Tryz.prog 235 [Z7 g2 (Lens.id Z1r), rd (Z2 24 Z3) cu3, rd (Z4 (Z2 24 Z3)) l4] (Z9 g2 gT Z1r s1) (fun _ : Unit => Z3n (rd (Z2 24 Zn) r.1) (rd Z8 r.2.1) (rd Z8 r.2.2.1)) (fun _ => Z9 g2 gT Z1r r.2.2.2) := by
 refine Con.intro Tryz.func235 rfl Tryz.ntmps235 rfl fun w H X => ?_
 unfold Zjc at h
 refine SR <| Ct rfl (Zo 4 rfl rfl (vkp (vt rfl))) ?_
 rintro _ ⟨g5, rfl⟩
 refine Ct rfl (Zo 5 rfl rfl (vt rfl)) ?_
 rintro _ ⟨g6, rfl⟩
 refine Ct rfl (Zo 6 rfl rfl (vt rfl)) ?_
 rintro _ ⟨g7, rfl⟩
 refine Ct rfl (Zm 7 rfl rfl Z6u) ?_
 rintro _ ⟨g8, rfl⟩
 refine Ab rfl <| Ab rfl <| Nl <| AW.scope <| AW.seq <| AW.seq ?_
 obtain ⟨b9, hb9, h⟩ := Z1 h
 refine Rg <| Ac (Zsv (A := Z7 g2 (Lens.id Z1r)) rfl rfl rfl (Zvu _) (vt rfl) (i := 4) rfl) rfl <| Nc rfl <| Zp Zpc Y57 rfl <| Ct rfl (Z1k 0 (xs := [.tmp 17]) (Ycm _ _ _ _ hb9) Y5p rfl rfl ⟨vt rfl, trivial⟩ rfl) ?_
 rintro _ ⟨_u, rfl⟩
 refine AOps.told 0 (Z9 g2 gT Z1r { s1 with purse := b9.2 }) rfl <| Ac (Z13 rfl rfl (vt rfl)) rfl <| Nl <| Cn rfl (fun hc => ?_) (fun hc => ?_)
 ·have h := Ze hc h
  refine SR <| Ac (Z01 (ps := []) (x := (Vector.replicate 24 Z05)) rfl rfl rfl (by kernel_rfl) Z6u rfl) rfl <| Zh Z2w 7 rfl <| Ab rfl <| Ab rfl <| Nl <| AW.ret ?_
  obtain rfl := si h
  exact Zjh (i := 0) Tryz.results235 rfl (Z04 rfl (i := 7) rfl Z2w) (Z6 rfl) (Z6 rfl) rfl
 ·have h := Zf hc h
  refine AW.skip <| AW.seq ?_
  obtain ⟨x10, hx10, h⟩ := Z1 h
  refine Rg <| Ld Zz 5 rfl <| Ld Znm 6 rfl <| Cl [22, 23] (Yad _ _ _ hx10) Y8a rfl <| Mt2 rfl <| Ac (Z1p rfl rfl (vt rfl)) rfl <| Ac (Z1q rfl rfl (vt rfl)) rfl <| Ct rfl (Zm 11 rfl rfl zr3) ?_
  rintro _ ⟨g11, rfl⟩
  refine As rfl <| Zh Zv 11 rfl <| Nl <| AW.seq <| AW.block <| SR <| Md rfl <| As rfl <| Nl <| Cn rfl (fun hc => ?_) (fun hc => ?_)
  ·have h := Ze hc h
   refine SR <| Ac (Z01 (ps := []) (x := (Vector.replicate 24 Z05)) rfl rfl rfl (by kernel_rfl) Z6u rfl) rfl <| Zh Z2w 7 rfl <| Ab rfl <| Ab rfl <| Nl <| AW.ret ?_
   obtain rfl := si h
   exact Zjh (i := 0) Tryz.results235 rfl (Z04 rfl (i := 7) rfl Z2w) (Z6 rfl) (Z6 rfl) rfl
  ·have h := Zf hc h
   refine SR <| Ld Zv 11 rfl <| Ac (Zl rfl rfl (vt rfl) (vk rfl)) rfl <| As rfl <| Nl <| Cn rfl (fun hc => ?_) (fun hc => ?_)
   ·have h := Ze hc h
    refine AW.seq ?_
    obtain ⟨x12, hx12, h⟩ := Z1 h
    refine Rg <| Ld Zz 5 rfl <| Cl [33] (Y70 _ _ hx12) e70 rfl <| Zh Z2w 7 rfl <| Ab rfl <| Ab rfl <| Nl <| AW.ret ?_
    obtain rfl := si h
    exact Zjh (i := 0) Tryz.results235 rfl (Z04 rfl (i := 7) rfl Z2w) (Z6 rfl) (Z6 rfl) rfl
   ·have h := Zf hc h
    refine AW.skip <| SR <| Ct rfl (Zm 12 rfl rfl Z6u) ?_
    rintro _ ⟨g13, rfl⟩
    refine Nl <| SR <| Ct rfl (Zm 13 rfl rfl zr4) ?_
    rintro _ ⟨g14, rfl⟩
    refine Ct rfl (Zm 14 rfl rfl zr4) ?_
    rintro _ ⟨g15, rfl⟩
    refine Ac (Zct rfl rfl ty4 (vt rfl) (i := 13) rfl vb) rfl <| Ac (Zct rfl rfl ty4 (vt rfl) (i := 14) rfl vb) rfl <| Nl <| AW.seq <| AW.label <| AW.seq <| AW.seq ?_
    obtain ⟨e16, he16, h⟩ := Z1 h
    obtain ⟨x17, hx17, h⟩ := Z1 h
    refine AW.regionAny [⟨[4], [35], [5], []⟩, ⟨[5], [36], [6], []⟩, ⟨[10], [37], [11], []⟩, ⟨[36, 37], [38], [], []⟩, ⟨[38], [39], [], []⟩, ⟨[35, 39], [40], [], []⟩] Z06 (by kernel_rfl) <| Zq Zz 5 rfl <| Zq Znm 6 rfl <| Zq Zv 11 rfl <| Sc (lo [36, 37] [] rfl fun S hs hr => Z0l rfl rfl Z2h (vh hs 36 rfl rfl) (vh hs 37 rfl rfl) he16) rfl <| SLp Zz rfl <| SCl [35, 39] (Yab _ _ _ hx17) Ye5 rfl <| AW.block ?_
    obtain ⟨z22, hz22, h⟩ := Z1 h
    refine AW.fit (d := []) (L := [(3, Z7 g5 (Lens.id (kas (Z7 g2 (Lens.id Z1r))))), (5, Z7 g7 (Lens.id (Z4 (Z2 24 Z3)))), (6, Z7 g8 (Lens.id (Z2 24 Zn))), (7, rd Z8 false), (8, rd Z8 false), (10, Z7 g11 (Lens.id (Z0 .i64))), (11, Z7 g13 (Lens.id (Z2 24 Zn))), (12, Z7 g14 (Lens.id Z8)), (13, Z7 g15 (Lens.id Z8)), (40, Z58 Tryz.prog (Z2 24 Z3) x17)]) (M := [(4, Z9 g5 286 (kas (Z7 g2 (Lens.id Z1r))) ()), (0, Z9 g2 gT Z1r { s1 with purse := b9.2 }), (6, Z9 g7 229 (Z4 (Z2 24 Z3)) l4), (7, Z9 g8 44 (Z2 24 Zn) (Vector.replicate 24 Z05)), (11, Z9 g11 3 (Z0 .i64) x10.2), (12, Z9 g13 44 (Z2 24 Zn) (Vector.replicate 24 Z05)), (13, Z9 g14 4 Z8 false), (14, Z9 g15 4 Z8 true)]) ⟨rfl, ⟨rfl, rfl, rfl, rfl, rfl, rfl, rfl, rfl, rfl, rfl, trivial⟩, ⟨rfl, rfl, rfl, rfl, rfl, rfl, rfl, rfl, trivial⟩⟩ ?_
    refine AW.rangeFunc (σ := cover_look × (Vector Wide 24) × Bool × Bool) (fun x => [rd (Z2 24 Z3) x]) (fun s x => Z8q l4 x10 R_cover_look_at s.1 s.2.1 s.2.2.1 s.2.2.2 x) (fun s => Zx ((fun s => [(4, Z9 g5 286 (kas (Z7 g2 (Lens.id Z1r))) ()), (0, Z9 g2 gT Z1r s.1), (6, Z9 g7 229 (Z4 (Z2 24 Z3)) l4), (7, Z9 g8 44 (Z2 24 Zn) (Vector.replicate 24 Z05)), (11, Z9 g11 3 (Z0 .i64) x10.2), (12, Z9 g13 44 (Z2 24 Zn) s.2.1), (13, Z9 g14 4 Z8 s.2.2.1), (14, Z9 g15 4 Z8 s.2.2.2)]) s)) (fun _ s => Zx ((fun s => [(4, Z9 g5 286 (kas (Z7 g2 (Lens.id Z1r))) ()), (0, Z9 g2 gT Z1r s.1), (6, Z9 g7 229 (Z4 (Z2 24 Z3)) l4), (7, Z9 g8 44 (Z2 24 Zn) (Vector.replicate 24 Z05)), (11, Z9 g11 3 (Z0 .i64) x10.2), (12, Z9 g13 44 (Z2 24 Zn) s.2.1), (13, Z9 g14 4 Z8 s.2.2.1), (14, Z9 g15 4 Z8 s.2.2.2)]) s)) [(3, Z7 g5 (Lens.id (kas (Z7 g2 (Lens.id Z1r))))), (5, Z7 g7 (Lens.id (Z4 (Z2 24 Z3)))), (6, Z7 g8 (Lens.id (Z2 24 Zn))), (7, rd Z8 false), (8, rd Z8 false), (10, Z7 g11 (Lens.id (Z0 .i64))), (11, Z7 g13 (Lens.id (Z2 24 Zn))), (12, Z7 g14 (Lens.id Z8)), (13, Z7 g15 (Lens.id Z8))] (fun s x23 S1 => ∃ (g24 : Nat), Fit S1 [] [(3, Z7 g5 (Lens.id (kas (Z7 g2 (Lens.id Z1r))))), (5, Z7 g7 (Lens.id (Z4 (Z2 24 Z3)))), (6, Z7 g8 (Lens.id (Z2 24 Zn))), (7, rd Z8 false), (8, rd Z8 false), (10, Z7 g11 (Lens.id (Z0 .i64))), (11, Z7 g13 (Lens.id (Z2 24 Zn))), (12, Z7 g14 (Lens.id Z8)), (13, Z7 g15 (Lens.id Z8)), (14, Z7 g24 (Lens.id (Z2 24 Z3)))] [(4, Z9 g5 286 (kas (Z7 g2 (Lens.id Z1r))) ()), (0, Z9 g2 gT Z1r s.1), (6, Z9 g7 229 (Z4 (Z2 24 Z3)) l4), (7, Z9 g8 44 (Z2 24 Zn) (Vector.replicate 24 Z05)), (11, Z9 g11 3 (Z0 .i64) x10.2), (12, Z9 g13 44 (Z2 24 Zn) s.2.1), (13, Z9 g14 4 Z8 s.2.2.1), (14, Z9 g15 4 Z8 s.2.2.2), (15, Z9 g24 87 (Z2 24 Z3) x23)]) 3001 (s0 := ({ s1 with purse := b9.2 }, (Vector.replicate 24 Z05), false, true)) (sE := z22) rfl (vt rfl) ⟨rfl, inferInstance, rfl, inferInstance, rfl, inferInstance, rfl, inferInstance, rfl, inferInstance, rfl, inferInstance, rfl, inferInstance, rfl, inferInstance, rfl, inferInstance, trivial⟩ rfl (fun _ => rfl) (by intro p hp; have hp : p ∈ [41] := hp; rw [List.mem_singleton.1 hp]; show 41 < 61; decide) ?ha1 ?hb1 (fun Lf => ⟨top, _, _, Lf, _, _, hz22, rfl, rfl, rfl, rfl⟩) ?he1
    case ha1 =>
     rintro ⟨b18, b19, b20, b21⟩ x23 r hF l w H X
     refine Rg <| Ct rfl (Zm 15 rfl rfl Z0v) ?_
     rintro _ ⟨g24, rfl⟩
     refine Zh Zz 15 rfl <| Nl ?_
     exact ⟨rfl, g24, rfl, ⟨rfl, rfl, rfl, rfl, rfl, rfl, rfl, rfl, rfl, rfl, trivial⟩, ⟨rfl, rfl, rfl, rfl, rfl, rfl, rfl, rfl, rfl, trivial⟩⟩
    case hb1 =>
     rintro ⟨b18, b19, b20, b21⟩ x23 r h S1 ⟨g24, hfit⟩ l w H X
     refine AW.fit (d := []) (L := [(3, Z7 g5 (Lens.id (kas (Z7 g2 (Lens.id Z1r))))), (5, Z7 g7 (Lens.id (Z4 (Z2 24 Z3)))), (6, Z7 g8 (Lens.id (Z2 24 Zn))), (7, rd Z8 false), (8, rd Z8 false), (10, Z7 g11 (Lens.id (Z0 .i64))), (11, Z7 g13 (Lens.id (Z2 24 Zn))), (12, Z7 g14 (Lens.id Z8)), (13, Z7 g15 (Lens.id Z8)), (14, Z7 g24 (Lens.id (Z2 24 Z3)))]) (M := [(4, Z9 g5 286 (kas (Z7 g2 (Lens.id Z1r))) ()), (0, Z9 g2 gT Z1r b18), (6, Z9 g7 229 (Z4 (Z2 24 Z3)) l4), (7, Z9 g8 44 (Z2 24 Zn) (Vector.replicate 24 Z05)), (11, Z9 g11 3 (Z0 .i64) x10.2), (12, Z9 g13 44 (Z2 24 Zn) b19), (13, Z9 g14 4 Z8 b20), (14, Z9 g15 4 Z8 b21), (15, Z9 g24 87 (Z2 24 Z3) x23)]) hfit <| AW.bodyT ?_
     change Z8q l4 x10 R_cover_look_at b18 b19 b20 b21 x23 = some r at h
     unfold Z8q at h
     refine AW.block <| AW.seq ?_
     obtain ⟨s25, hs25, h⟩ := Z1 h
     obtain ⟨b26, hb26, h⟩ := Z1 h
     refine AW.regionAny [⟨[3], [43], [4], []⟩, ⟨[14], [44], [15], []⟩, ⟨[5], [45], [6], []⟩, ⟨[10], [46], [11], []⟩, ⟨[46], [47], [], []⟩, ⟨[45, 47], [48], [], []⟩, ⟨[43, 44, 48], [49], [0], [0]⟩, ⟨[49], [42], [], []⟩, ⟨[42], [50], [], []⟩, ⟨[42], [51], [], []⟩, ⟨[42], [52], [], []⟩, ⟨[11, 50], [], [12], [12]⟩, ⟨[12, 51], [], [13], [13]⟩, ⟨[13, 52], [], [14], [14]⟩] Z06 (by kernel_rfl) <| Sc (lo [3] [4] rfl fun S hs hr => Zsv (A := Z7 g2 (Lens.id Z1r)) rfl rfl rfl (Zvu _) (vh hs 3 rfl rfl) (i := 4) ((hr 4 rfl).trans rfl)) rfl <| Zq Zz 15 rfl <| Zq Znm 6 rfl <| Zq Zv 11 rfl <| Sc (lo [46] [] rfl fun S hs hr => Z08 rfl rfl (vh hs 46 rfl rfl) (vk rfl)) rfl <| Sc (lo [45, 47] [] rfl fun S hs hr => Zub hs25 rfl rfl Z2h (vh hs 45 rfl rfl) (vh hs 47 rfl rfl)) rfl <| Sc (Z1b (us := [(49, Z3n (rd (Z2 24 Zn) b26.1) (rd Z8 b26.2.1) (rd Z8 b26.2.2.1))]) (ur := [(0, Z9 g2 gT Z1r b26.2.2.2)]) [43, 44, 48] [0] rfl fun S hs hr => Y9v 0 (xs := [.tmp 43, .tmp 44, .tmp 48]) (hR_cover_look_at _ _ _ _ _ _ hb26) Zxp rfl rfl ⟨vt ((hs 43 rfl).trans rfl), vt ((hs 44 rfl).trans rfl), vt ((hs 48 rfl).trans rfl), trivial⟩ ((hr 0 rfl).trans rfl)) rfl <| Sc (lo [49] [] rfl fun S hs hr => Zs (A := Z3n (rd (Z2 24 Zn) b26.1) (rd Z8 b26.2.1) (rd Z8 b26.2.2.1)) rfl rfl (vh hs 49 rfl rfl)) rfl <| Sc (lo [42] [] rfl fun S hs hr => Zmu rfl rfl (vh hs 42 rfl rfl)) rfl <| Sc (lo [42] [] rfl fun S hs hr => Zmi rfl rfl (vh hs 42 rfl rfl)) rfl <| Sc (lo [42] [] rfl fun S hs hr => Zk6 rfl rfl (vh hs 42 rfl rfl)) rfl <| SSt Z2w 12 rfl <| SSt ty4 13 rfl <| SSt ty4 14 rfl <| SR <| Ld ty4 13 rfl <| Md rfl <| Gd rfl (fun hq => Z14 rfl rfl ty4 (vt rfl) (i := 14) rfl) <| Gd rfl (fun hq => Z13 rfl rfl (Zj rfl hq)) <| Ac (Zek rfl rfl (vt rfl) (vt rfl)) rfl <| Nl <| Cn rfl (fun hc => ?_) (fun hc => ?_)
     ·have h := Ze hc h
      refine AW.exit ?_
      obtain rfl := si h
      exact ⟨_, (b26.2.2.2, b26.1, b26.2.1, b26.2.2.1), Turn.refl, rfl, ⟨rfl, rfl, rfl, rfl, rfl, rfl, rfl, rfl, trivial⟩⟩
     ·have h := Zf hc h
      refine AW.skip ?_
      obtain rfl := si h
      exact ⟨_, (b26.2.2.2, b26.1, b26.2.1, b26.2.2.1), Turn.refl, rfl, ⟨rfl, rfl, rfl, rfl, rfl, rfl, rfl, rfl, trivial⟩⟩
    case he1 =>
     intro D
     cases z22 with
     | go s27 =>
      change _ = some r at h
      refine AW.seq <| AW.regionAny [⟨[11], [58], [12], []⟩, ⟨[12], [59], [13], []⟩, ⟨[13], [60], [14], []⟩, ⟨[6, 58], [], [7], [7]⟩, ⟨[59], [7], [], []⟩, ⟨[60], [8], [], []⟩] Z06 (by kernel_rfl) <| Zq Z2w 12 rfl <| Zq ty4 13 rfl <| Zq ty4 14 rfl <| SSt Z2w 7 rfl <| SAs rfl <| SAs rfl <| AW.ret ?_
      obtain rfl := si h
      exact ⟨rfl, 3001, rfl, Zjh (i := 0) Tryz.results235 rfl (Z04 rfl (i := 7) rfl Z2w) (Z6 rfl) (Z6 rfl) rfl⟩
     | out c s27 =>
      change (bif Zmr 1 c then _ else _) = some r at h
      cases hc : Zmr 1 c with
      | true =>
       rw [hc] at h
       have hc := Yb3 hc
       subst hc
       change _ = some r at h
       refine AW.exit <| AW.seq <| AW.regionAny [⟨[11], [58], [12], []⟩, ⟨[12], [59], [13], []⟩, ⟨[13], [60], [14], []⟩, ⟨[6, 58], [], [7], [7]⟩, ⟨[59], [7], [], []⟩, ⟨[60], [8], [], []⟩] Z06 (by kernel_rfl) <| Zq Z2w 12 rfl <| Zq ty4 13 rfl <| Zq ty4 14 rfl <| SSt Z2w 7 rfl <| SAs rfl <| SAs rfl <| AW.ret ?_
       obtain rfl := si h
       exact ⟨rfl, 3001, rfl, Zjh (i := 0) Tryz.results235 rfl (Z04 rfl (i := 7) rfl Z2w) (Z6 rfl) (Z6 rfl) rfl⟩
      | false =>
       rw [hc] at h
       cases h
def Z6b : Nat → (cover_look → (Vector Tern 24) → (List (Vector Tern 24)) → Option ((Vector Wide 24) × Bool × Bool × cover_look))
 | 0 => (fun _ _ _ => none)
 | n + 1 => (Zjc (Z6b n))
theorem Zvf : ∀ n : Nat, (∀ (g2 gT : Nat) (s1 : cover_look) (cu3 : (Vector Tern 24)) (l4 : (List (Vector Tern 24))) (r : ((Vector Wide 24) × Bool × Bool × cover_look)), (Z6b n) s1 cu3 l4 = some r → Con Tryz.prog 235 [Z7 g2 (Lens.id Z1r), rd (Z2 24 Z3) cu3, rd (Z4 (Z2 24 Z3)) l4] (Z9 g2 gT Z1r s1) (fun _ : Unit => Z3n (rd (Z2 24 Zn) r.1) (rd Z8 r.2.1) (rd Z8 r.2.2.1)) (fun _ => Z9 g2 gT Z1r r.2.2.2))
 | 0 => (by intros; rename_i h; cases h)
 | n + 1 => by
  have ih := Zvf n
  exact (Y1z (Z6b n) ih)
def Zpj (s1 : cover_look) (cu3 : (Vector Tern 24)) (l4 : (List (Vector Tern 24))) : Option ((Vector Wide 24) × Bool × Bool × cover_look) := (Z6b Z0x) s1 cu3 l4
theorem Ybg : ∀ (g2 gT : Nat) (s1 : cover_look) (cu3 : (Vector Tern 24)) (l4 : (List (Vector Tern 24))) (r : ((Vector Wide 24) × Bool × Bool × cover_look)), Zpj s1 cu3 l4 = some r → Con Tryz.prog 235 [Z7 g2 (Lens.id Z1r), rd (Z2 24 Z3) cu3, rd (Z4 (Z2 24 Z3)) l4] (Z9 g2 gT Z1r s1) (fun _ : Unit => Z3n (rd (Z2 24 Zn) r.1) (rd Z8 r.2.1) (rd Z8 r.2.2.1)) (fun _ => Z9 g2 gT Z1r r.2.2.2) := Zvf Z0x
def Zjl (cu1 : (Vector Tern 24)) (l2 : (List (Vector Tern 24))) (most3 : Int) : Option ((Vector Wide 24) × Bool × Int) :=
 (Zpj (⟨(⟨(Z1i most3 0), (decide (most3 ≥ 1099511627776))⟩ : cover_purse)⟩ : cover_look) cu1 l2).bind fun b7 => (bif (!b7.2.2.1) then some ((Vector.replicate 24 Z05), false, 5) else some (b7.1, b7.2.1, 0))
theorem Yer (cu1 : (Vector Tern 24)) (l2 : (List (Vector Tern 24))) (most3 : Int) (r : ((Vector Wide 24) × Bool × Int)) (h : Zjl cu1 l2 most3 = some r) : PCon Tryz.prog 170 [rd (Z2 24 Z3) cu1, rd (Z4 (Z2 24 Z3)) l2, rd (Z0 .i64) most3] (Z3n (rd (Z2 24 Zn) r.1) (rd Z8 r.2.1) (rd (Z0 .i64) r.2.2)) := by
 refine PCon.of (Con.intro0 Tryz.func170 rfl Tryz.ntmps170 rfl fun w H => ?_)
 unfold Zjl at h
 refine SR <| Ct rfl (Zo 4 rfl rfl (vt rfl)) ?_
 rintro _ ⟨g4, rfl⟩
 refine Ct rfl (Zm 7 rfl rfl Z6u) ?_
 rintro _ ⟨g5, rfl⟩
 refine Ab rfl <| Ak rfl <| Nl <| SR <| Md rfl <| Ac (Zbg rfl rfl (vt rfl) (vk rfl)) rfl <| Md rfl <| Ac (Z5q rfl rfl (vt rfl) (vk rfl)) rfl <| Ac (Z01 (ps := [(0, .tmp 14), (1, .tmp 16)]) (x := (⟨(Z1i most3 0), (decide (most3 ≥ 1099511627776))⟩ : cover_purse)) rfl rfl rfl (by kernel_rfl) Y3e ⟨_, _, Zj7, _, by kernel_rfl, (vt rfl), _, _, Zqu, _, by kernel_rfl, (vt rfl), rfl⟩) rfl <| Ac (Z01 (ps := [(0, .tmp 17)]) (x := (⟨(⟨(Z1i most3 0), (decide (most3 ≥ 1099511627776))⟩ : cover_purse)⟩ : cover_look)) rfl rfl rfl (by kernel_rfl) Ycn ⟨_, _, Zpc, _, by kernel_rfl, (vt rfl), rfl⟩) rfl <| Ct rfl (Zo 20 rfl rfl (vt rfl)) ?_
 rintro _ ⟨g6, rfl⟩
 refine Ac (Z07 (A := Z7 g6 (Lens.id Z1r)) rfl rfl (vt rfl)) rfl <| Nl <| AW.seq ?_
 obtain ⟨b7, hb7, h⟩ := Z1 h
 refine Rg <| Mp rfl <| Ld Zz 4 rfl <| Md rfl <| Ct rfl (Z1k 20 (xs := [.tmp 21, .tmp 22, .tmp 23]) (Ybg _ _ _ _ _ _ hb7) Zxp rfl rfl ⟨vt rfl, vt rfl, vt rfl, trivial⟩ rfl) ?_
 rintro _ ⟨_u, rfl⟩
 refine Ac (Zs (A := Z3n (rd (Z2 24 Zn) b7.1) (rd Z8 b7.2.1) (rd Z8 b7.2.2.1)) rfl rfl (vt rfl)) rfl <| Ac (Zmu rfl rfl (vt rfl)) rfl <| Ac (Zmi rfl rfl (vt rfl)) rfl <| Ac (Zk6 rfl rfl (vt rfl)) rfl <| Ct rfl (Zm 11 rfl rfl Z6u) ?_
 rintro _ ⟨g8, rfl⟩
 refine Zh Z2w 11 rfl <| As rfl <| As rfl <| Nl <| AW.seq <| SR <| Md rfl <| Ac (Z13 rfl rfl (vt rfl)) rfl <| Nl <| Cn rfl (fun hc => ?_) (fun hc => ?_)
 ·have h := Ze hc h
  refine SR <| Ac (Z01 (ps := []) (x := (Vector.replicate 24 Z05)) rfl rfl rfl (by kernel_rfl) Z6u rfl) rfl <| Zh Z2w 7 rfl <| Ab rfl <| Ak rfl <| Nl <| AW.ret ?_
  obtain rfl := si h
  exact Zna Tryz.results170 rfl (Z04 rfl (i := 7) rfl Z2w) (Z6 rfl) (Z6 rfl)
 ·have h := Zf hc h
  refine AW.skip <| SR <| Ld Z2w 11 rfl <| Md rfl <| Zh Z2w 7 rfl <| As rfl <| Ak rfl <| Nl <| AW.ret ?_
  obtain rfl := si h
  exact Zna Tryz.results170 rfl (Z04 rfl (i := 7) rfl Z2w) (Z6 rfl) (Z6 rfl)
def Zl3 (s : List Rule) : Option (List Rule) := Z0w [] s
theorem Y1o (s : List Rule) (r : List Rule) (h : Zl3 s = some r) : Con Tryz.prog 240 [rd (Z4 Zy) s] emp (fun v => Zc v) (fun v => Za v 90 Zy r) := by
 refine Con.intro0 Tryz.func240 rfl Tryz.ntmps240 rfl fun w H => ?_
 unfold Zl3 at h
 refine AW.newnil 1001 90 Zy <| SR <| Ac (Z07 (A := Zc (.slice none 0 0)) rfl rfl vc) rfl <| Nl <| AW.seq <| SR <| Md rfl <| Ct rfl (Zjg rfl rfl Z26 (vt rfl)) ?_
 rintro _ ⟨b, hb, rfl⟩
 refine Nl <| Cn rfl (fun hc => ?_) (fun hc => ?_)
 ·obtain rfl := hb hc
  refine SR <| Ac (Z07 (A := Zc (.slice none 0 0)) rfl rfl vc) rfl <| Nl <| AW.ret ?_
  obtain rfl := (Zar h).2
  exact Z4k (i := 1001) Tryz.results240 rfl rfl rfl
 ·refine AW.skip <| SR <| Ct rfl (Z4c 1002 (ps := []) (l := []) rfl rfl Z26 Z4i rfl rfl rfl rfl) ?_
  rintro _ ⟨v1, rfl⟩
  refine Md rfl <| Ct rfl (Z2l 1002 h rfl rfl Zii (vt rfl) rfl (vt rfl)) ?_
  rintro _ ⟨v2, rfl⟩
  refine Aw rfl <| Nl <| AW.ret ?_
  exact Z4k (i := 1002) Tryz.results240 rfl rfl rfl
def Z6y : Nat → Nat → (List Rule) → Option (List Rule)
 | 0, i6, l5 => some l5
 | m7 + 1, i6, l5 => (lget l5 (i6 : Int)).bind fun e8 => (Zc9 e8.Atoms).bind fun x9 => (lget l5 (i6 : Int)).bind fun e10 => (Z6y m7) (i6 + 1) (List.set l5 (i6 : Int).toNat { e10 with Atoms := x9 })
def Zhg (l1 : (List Rule)) : Option (List Rule) :=
 (Zl3 l1).bind fun x2 => Z6y ((x2.length : Int) : Int).toNat 0 x2
theorem Yae (l1 : (List Rule)) (r : (List Rule)) (h : Zhg l1 = some r) : PCon Tryz.prog 179 [rd (Z4 Zy) l1] (rd (Z4 Zy) r) := by
 refine PCon.of (Con.intro0 Tryz.func179 rfl Tryz.ntmps179 rfl fun w H => ?_)
 unfold Zhg at h
 refine SR <| Ac (Z07 (A := rd (Z4 Zy) []) rfl rfl Z27) rfl <| Nl <| AW.seq ?_
 obtain ⟨x2, hx2, h⟩ := Z1 h
 refine Rg <| Md rfl <| Ct rfl (Z1k 1001 (xs := [.tmp 5]) (Y1o _ _ hx2) Yar rfl rfl ⟨vt rfl, trivial⟩ rfl) ?_
 rintro _ ⟨v3, rfl⟩
 refine Aw rfl <| Nl <| AW.seq <| SR <| Mw rfl <| Ac (Z5h 1001 rfl rfl Z26 (vt rfl) rfl) rfl <| Mk rfl <| Nl <| AW.block <| AW.loopG (d := []) (ν := Nat × Nat × (List Rule)) (fun n => Cnt (x2.length : Int) n.2.1 n.1 ∧ Z6y n.1 n.2.1 n.2.2 = some r) (fun n => n.1) (fun n => [(3, Zc v3), (8, rd (Z0 .i64) (x2.length : Int)), (9, rd (Z0 .i64) (n.2.1 : Int))]) (fun n => [(1001, Za v3 90 Zy n.2.2)]) (((x2.length : Int) : Int).toNat, 0, x2) ⟨Cnt.start _, h⟩ ⟨rfl, ⟨rfl, rfl, rfl, trivial⟩, ⟨rfl, trivial⟩⟩ ?_
 rintro ⟨m7, i6, l5⟩ ⟨hsf1, h⟩
 change Cnt (x2.length : Int) i6 m7 at hsf1
 change Z6y m7 i6 l5 = some r at h
 change AW _ _ _ ⟨Zw [(3, Zc v3), (8, rd (Z0 .i64) (x2.length : Int)), (9, rd (Z0 .i64) (i6 : Int))], Zx [(1001, Za v3 90 Zy l5)], _⟩
 cases m7 with
 | zero =>
  unfold Z6y at h
  refine SR <| Ac (Zl rfl rfl (vt rfl) (vt rfl)) rfl <| Nl <| AW.seq <| Cn rfl (fun hc => absurd (of_decide_eq_true hc) hsf1.zero) (fun hc => ?_)
  refine AW.exit <| SR <| Mw rfl <| Aw rfl <| Nl <| AW.freezes [2, 3, 23] 1001 rfl ⟨rfl, rfl, rfl, trivial⟩ rfl <| AW.ret ?_
  obtain rfl := si h
  exact Zg Tryz.results179 rfl (Z6 rfl)
 | succ m7 =>
  unfold Z6y at h
  generalize hgo1 : Z6y m7 = go1 at h
  refine SR <| Ac (Zl rfl rfl (vt rfl) (vt rfl)) rfl <| Nl <| AW.seq <| Cn rfl (fun hc => ?_) (fun hc => absurd hsf1.succ (of_decide_eq_false hc))
  have hlti6 := of_decide_eq_true hc
  refine AW.skip <| AW.seq <| AW.block <| SR <| Md rfl <| As rfl <| Nl ?_
  obtain ⟨e8, he8, h⟩ := Z1 h
  obtain ⟨x9, hx9, h⟩ := Z1 h
  obtain ⟨e10, he10, h⟩ := Z1 h
  refine Rg <| Mw rfl <| Md rfl <| Mw rfl <| Md rfl <| Ac (Z1o 1001 rfl rfl Z26 (vt rfl) rfl (vt rfl) he8) rfl <| Ac (Zah Z7q rfl rfl Zg3 (vt rfl)) rfl <| Ac (Z1d 1001 rfl rfl Z79 (vt rfl) rfl (Z0g he8).2) rfl <| Cl [18] (Zuc _ _ hx9) Zwg rfl <| Ac (Z1o 1001 rfl rfl Z26 (vt rfl) rfl (vt rfl) he10) rfl <| Ac (Zah Z7q rfl rfl Zg3 (vt rfl)) rfl <| Ac (Z28 1001 rfl rfl Z79 (vt rfl) rfl (Z0g he10).2 (vt rfl)) rfl <| Nl <| Rg <| Ac (Z1t (t := 8) rfl rfl (vt rfl) (vk rfl) (vt rfl) hlti6) rfl <| Md rfl <| Nl ?_
  subst hgo1
  exact ⟨(m7, i6 + 1, (List.set l5 (i6 : Int).toNat { e10 with Atoms := x9 })), Nat.lt_succ_self _, ⟨hsf1.next, h⟩, ⟨rfl, ⟨rfl, rfl, rfl, trivial⟩, ⟨rfl, trivial⟩⟩⟩
def Z60 (most2 : Int) : (List Rule) → Nat → (List Rule) → (List (Vector Tern 24)) → Option ((List Rule) × Int)
 | [], i11, l7, l9 => (Zhg l7).bind fun x13 => some (x13, 0)
 | x14 :: l12, i11, l7, l9 => (Zjl x14.Cube l9 most2).bind fun x16 => (bif (decide (x16.2.2 ≠ 0)) then some ([], x16.2.2) else (bif (!x16.2.1) then (Z60 most2 l12) (i11 + 1) l7 l9 else (Z0w l7 [x14]).bind fun l18 => (Z0w l9 [x14.Cube]).bind fun l20 => (Z60 most2 l12) (i11 + 1) l18 l20))
def Zkj (l1 : (List Rule)) (most2 : Int) : Option ((List Rule) × Int) :=
 Z60 most2 l1 0 [] []
theorem Y00 (l1 : (List Rule)) (most2 : Int) (r : ((List Rule) × Int)) (h : Zkj l1 most2 = some r) : PCon Tryz.prog 111 [rd (Z4 Zy) l1, rd (Z0 .i64) most2] (Z1e (rd (Z4 Zy) r.1) (rd (Z0 .i64) r.2)) := by
 refine PCon.of (Con.intro0 Tryz.func111 rfl Tryz.ntmps111 rfl fun w H => ?_)
 unfold Zkj at h
 refine SR <| Ac (Z07 (A := rd (Z4 Zy) []) rfl rfl Z27) rfl <| Ak rfl <| Nl <| AW.scope <| AW.seq <| AW.newnil 1001 90 Zy <| Rg <| Ac (Z07 rfl rfl vc) rfl <| Nl <| AW.seq <| AW.newnil 1002 87 (Z2 24 Z3) <| Rg <| Ac (Z07 rfl rfl vc) rfl <| Nl <| AW.seq <| AW.label <| AW.seq <| SR <| Md rfl <| Ac (Z0j rfl rfl Z26 (vt rfl)) rfl <| Mk rfl <| Nl <| AW.block <| AW.loopG (d := []) (ν := (List Rule) × Nat × (List Rule) × (List (Vector Tern 24)) × Value × Value) (fun n => Sfx l1 n.2.1 n.1 ∧ Z60 most2 n.1 n.2.1 n.2.2.1 n.2.2.2.1 = some r) (fun n => n.1.length) (fun n => [(1, rd (Z0 .i64) most2), (6, Zc n.2.2.2.2.1), (7, Zc n.2.2.2.2.2), (13, rd (Z4 Zy) l1), (14, rd (Z0 .i64) (l1.length : Int)), (15, rd (Z0 .i64) (n.2.1 : Int))]) (fun n => [(1001, Za n.2.2.2.2.1 90 Zy n.2.2.1), (1002, Za n.2.2.2.2.2 87 (Z2 24 Z3) n.2.2.2.1)]) (l1, 0, [], [], (.slice none 0 0), (.slice none 0 0)) ⟨Sfx.start _, h⟩ ⟨rfl, ⟨rfl, rfl, rfl, rfl, rfl, rfl, trivial⟩, ⟨rfl, rfl, trivial⟩⟩ ?_
 rintro ⟨l12, i11, l7, l9, v8, v10⟩ ⟨hsf1, h⟩
 change Sfx l1 i11 l12 at hsf1
 change Z60 most2 l12 i11 l7 l9 = some r at h
 change AW _ _ _ ⟨Zw [(1, rd (Z0 .i64) most2), (6, Zc v8), (7, Zc v10), (13, rd (Z4 Zy) l1), (14, rd (Z0 .i64) (l1.length : Int)), (15, rd (Z0 .i64) (i11 : Int))], Zx [(1001, Za v8 90 Zy l7), (1002, Za v10 87 (Z2 24 Z3) l9)], _⟩
 cases l12 with
 | nil =>
  unfold Z60 at h
  refine SR <| Ac (Zl rfl rfl (vt rfl) (vt rfl)) rfl <| Nl <| AW.seq <| Cn rfl (fun hc => absurd (of_decide_eq_true hc) hsf1.nil) (fun hc => ?_)
  refine AW.exit <| AW.seq <| AW.freezes [6] 1001 rfl ⟨rfl, trivial⟩ rfl ?_
  obtain ⟨x13, hx13, h⟩ := Z1 h
  refine Rg <| Md rfl <| Cl [45] (Yae _ _ hx13) Y3a rfl <| As rfl <| Ak rfl <| Nl <| AW.ret ?_
  obtain rfl := si h
  exact Z23 Tryz.results111 rfl (Z6 rfl) (Z6 rfl)
 | cons x14 l12 =>
  unfold Z60 at h
  generalize hgo1 : Z60 most2 l12 = go1 at h
  refine SR <| Ac (Zl rfl rfl (vt rfl) (vt rfl)) rfl <| Nl <| AW.seq <| Cn rfl (fun hc => ?_) (fun hc => absurd hsf1.cons (of_decide_eq_false hc))
  have hlti11 := of_decide_eq_true hc
  refine AW.skip <| AW.seq <| AW.block <| SR <| Ac (Z0l rfl rfl Z26 (vt rfl) (vt rfl) hsf1.lget) rfl <| Lp1 Z4g rfl <| Ct rfl (Zm 10 rfl rfl Z4i) ?_
  rintro _ ⟨g15, rfl⟩
  refine Zh Z4g 10 rfl <| Nl <| AW.seq ?_
  obtain ⟨x16, hx16, h⟩ := Z1 h
  refine Rg <| Zp Z65 Zbj rfl <| Ld Zz 10 rfl <| Mw rfl <| Md rfl <| Ac (Zrc (xs := [.tmp 21, .tmp 22, .tmp 23]) 1002 (Yer _ _ _ _ hx16) Y7v rfl rfl ⟨vB (vt rfl), vL rfl rfl, vB (vt rfl), trivial⟩) rfl <| Ac (Zs (A := Z3n (rd (Z2 24 Zn) x16.1) (rd Z8 x16.2.1) (rd (Z0 .i64) x16.2.2)) rfl rfl (vt rfl)) rfl <| Ac (Zmu rfl rfl (vt rfl)) rfl <| Ac (Zmi rfl rfl (vt rfl)) rfl <| Ac (Zk6 rfl rfl (vt rfl)) rfl <| Ct rfl (Zm 11 rfl rfl Z6u) ?_
  rintro _ ⟨g17, rfl⟩
  refine Zh Z2w 11 rfl <| As rfl <| As rfl <| Nl <| AW.seq <| AW.block <| SR <| Md rfl <| Ac (Z5l rfl rfl (vt rfl) (vk rfl)) rfl <| As rfl <| Nl <| Cn rfl (fun hc => ?_) (fun hc => ?_)
  ·have h := Ze hc h
   refine SR <| Md rfl <| Ac (Z07 (A := rd (Z4 Zy) []) rfl rfl Z27) rfl <| As rfl <| Nl <| AW.ret ?_
   obtain rfl := si h
   exact Z23 Tryz.results111 rfl (Z6 rfl) (Z6 rfl)
  ·have h := Zf hc h
   refine SR <| Md rfl <| Ac (Z13 rfl rfl (vt rfl)) rfl <| As rfl <| Nl <| Cn rfl (fun hc => ?_) (fun hc => ?_)
   ·have h := Ze hc h
    refine AW.exit <| Rg <| Ac (Z1t (t := 14) rfl rfl (vt rfl) (vk rfl) (vt rfl) hlti11) rfl <| Md rfl <| Nl ?_
    subst hgo1
    exact ⟨(l12, i11 + 1, l7, l9, v8, v10), Nat.lt_succ_self _, ⟨hsf1.next, h⟩, ⟨rfl, ⟨rfl, rfl, rfl, rfl, rfl, rfl, trivial⟩, ⟨rfl, rfl, trivial⟩⟩⟩
   ·have h := Zf hc h
    refine AW.skip ?_
    obtain ⟨l18, hl18, h⟩ := Z1 h
    obtain ⟨l20, hl20, h⟩ := Z1 h
    refine AW.regionAny [⟨[6], [35], [], []⟩, ⟨[9], [36], [10], []⟩, ⟨[36], [37], [], []⟩, ⟨[35, 37], [38], [1001], [1001]⟩, ⟨[7], [39], [], []⟩, ⟨[9], [40], [], []⟩, ⟨[40], [41], [10], []⟩, ⟨[41], [42], [], []⟩, ⟨[39, 42], [43], [1002], [1002]⟩, ⟨[38], [38, 6], [1003], []⟩, ⟨[43], [43, 7], [1004], []⟩] Z06 (by kernel_rfl) <| SMw rfl <| Zq Z4g 10 rfl <| Sc (lo [36] [] rfl fun S hs hr => Z2o (ps := [(0, .tmp 36)]) (l := [x14]) rfl rfl Z26 Z4i rfl rfl ⟨_, _, Lens.idx 1 Zy 0 (by decide), _, rfl, (vh hs 36 rfl rfl), rfl⟩ rfl) rfl <| Sc (Z1b (us := [(38, Z1u 90 Zy l18)]) (ur := [(1001, emp)]) [35, 37] [1001] rfl fun S hs hr => Za4 1001 hl18 rfl rfl rfl Zii (vh hs 35 rfl rfl) ((hr 1001 rfl).trans rfl) (vh hs 37 rfl rfl)) rfl <| SMw rfl <| SFd Z65 Zbj rfl <| Zq Zz 10 rfl <| Sc (lo [41] [] rfl fun S hs hr => Z2o (ps := [(0, .tmp 41)]) (l := [x14.Cube]) rfl rfl Z2h Z0v rfl rfl ⟨_, _, Lens.idx 1 (Z2 24 Z3) 0 (by decide), _, rfl, (vh hs 41 rfl rfl), rfl⟩ rfl) rfl <| Sc (Z1b (us := [(43, Z1u 87 (Z2 24 Z3) l20)]) (ur := [(1002, emp)]) [39, 42] [1002] rfl fun S hs hr => Za4 1002 hl20 rfl rfl rfl Zfx (vh hs 39 rfl rfl) ((hr 1002 rfl).trans rfl) (vh hs 42 rfl rfl)) rfl <| Sc (Z1b (us := [(38, top), (6, Z1u 90 Zy l18)]) (ur := []) [38] [1003] rfl fun S hs hr => Zjr 1003 rfl rfl rfl rfl ((hs 38 rfl).trans rfl) ((hr 1003 rfl).trans rfl)) rfl <| Sc (Z1b (us := [(43, top), (7, Z1u 87 (Z2 24 Z3) l20)]) (ur := []) [43] [1004] rfl fun S hs hr => Zjr 1004 rfl rfl rfl rfl ((hs 43 rfl).trans rfl) ((hr 1004 rfl).trans rfl)) rfl <| AW.unpackR 6 1001 rfl rfl fun v19 => AW.unpackR 7 1002 rfl rfl fun v21 => Rg <| Ac (Z1t (t := 14) rfl rfl (vt rfl) (vk rfl) (vt rfl) hlti11) rfl <| Md rfl <| Nl ?_
    subst hgo1
    exact ⟨(l12, i11 + 1, l18, l20, v19, v21), Nat.lt_succ_self _, ⟨hsf1.next, h⟩, ⟨rfl, ⟨rfl, rfl, rfl, rfl, rfl, rfl, trivial⟩, ⟨rfl, rfl, trivial⟩⟩⟩
def Zjj (g1 : Group) (cp2 : Int) : Option Bool :=
 some (decide (g1.ID = cp2))
theorem Y5l (g1 : Group) (cp2 : Int) (r : Bool) (h : Zjj g1 cp2 = some r) : PCon Tryz.prog 288 [rd Z0e g1, rp (Z0 .i64) cp2] (rd Z8 r) := by
 refine PCon.of (Con.intro0 Tryz.func288 rfl Tryz.ntmps288 rfl fun w H => ?_)
 unfold Zjj at h
 refine SR <| Ct rfl (Zo 3 rfl rfl (vt rfl)) ?_
 rintro _ ⟨g3, rfl⟩
 refine Ab rfl <| Nl <| SR <| Zp Zft Zmo rfl <| Ld Zv 3 rfl <| Lp1 Zv rfl <| Ac (Z0i rfl rfl (vt rfl) (vt rfl)) rfl <| As rfl <| Nl <| AW.ret ?_
 obtain rfl := si h
 exact Zg Tryz.results288 rfl (Z6 rfl)
def Zmp (l1 : (List Group)) (id2 : Int) : Option Int :=
 (Zdd l1 (fun x => Zjj x id2)).bind fun x4 => some x4
theorem Y4f (l1 : (List Group)) (id2 : Int) (r : Int) (h : Zmp l1 id2 = some r) : PCon Tryz.prog 241 [rd (Z4 Z0e) l1, rd (Z0 .i64) id2] (rd (Z0 .i64) r) := by
 refine PCon.of (Con.intro0 Tryz.func241 rfl Tryz.ntmps241 rfl fun w H => ?_)
 unfold Zmp at h
 refine SR <| Ct rfl (Zo 4 rfl rfl (vt rfl)) ?_
 rintro _ ⟨g3, rfl⟩
 refine Ak rfl <| Nl <| AW.seq <| AW.freezeB 3 4 rfl rfl rfl ?_
 obtain ⟨x4, hx4, h⟩ := Z1 h
 refine Rg <| Md rfl <| Ac (Z9w (cs := [.tmp 3]) (CAs := [rp (Z0 .i64) id2]) (fun x => Zjj x id2) rfl rfl Y7b ⟨vt rfl, trivial⟩ (fun x y h => Y5l _ _ y h)) rfl <| Cl [5, 6] (Zsx _ _ _ hx4) Zwt rfl <| As rfl <| Nl <| AW.ret ?_
 obtain rfl := si h
 exact Zg Tryz.results241 rfl (Z6 rfl)
end Go.Proofs.YtknpgojdkobgjaaGreat.W
set_option maxRecDepth 4000
namespace Go.Proofs.YtknpgojdkobgjaaGreat.W
open Go Go.Wb
theorem Y6p : Ent Tryz.prog 328 := Ent.mk Tryz.func328 rfl rfl
theorem Y1w : Ent Tryz.prog 289 := Ent.mk Tryz.func289 rfl rfl
theorem Yc9 : Ent Tryz.prog 290 := Ent.mk Tryz.func290 rfl rfl
theorem Yb0 : Ent Tryz.prog 241 := Ent.mk Tryz.func241 rfl rfl
theorem Y4s : Ent Tryz.prog 242 := Ent.mk Tryz.func242 rfl rfl
theorem Ya0 : Ent Tryz.prog 180 := Ent.mk Tryz.func180 rfl rfl
theorem Y9a : Ent Tryz.prog 111 := Ent.mk Tryz.func111 rfl rfl
theorem Y8g : Ent Tryz.prog 112 := Ent.mk Tryz.func112 rfl rfl
def Zm8 (s : List Group) : Option (List Group) := Z0w [] s
theorem Y23 (s : List Group) (r : List Group) (h : Zm8 s = some r) : Con Tryz.prog 289 [rd (Z4 Z0e) s] emp (fun v => Zc v) (fun v => Za v 164 Z0e r) := by
 refine Con.intro0 Tryz.func289 rfl Tryz.ntmps289 rfl fun w H => ?_
 unfold Zm8 at h
 refine AW.newnil 1001 164 Z0e <| SR <| Ac (Z07 (A := Zc (.slice none 0 0)) rfl rfl vc) rfl <| Nl <| AW.seq <| SR <| Md rfl <| Ct rfl (Zjg rfl rfl Z3a (vt rfl)) ?_
 rintro _ ⟨b, hb, rfl⟩
 refine Nl <| Cn rfl (fun hc => ?_) (fun hc => ?_)
 ·obtain rfl := hb hc
  refine SR <| Ac (Z07 (A := Zc (.slice none 0 0)) rfl rfl vc) rfl <| Nl <| AW.ret ?_
  obtain rfl := (Zar h).2
  exact Z4k (i := 1001) Tryz.results289 rfl rfl rfl
 ·refine AW.skip <| SR <| Ct rfl (Z4c 1002 (ps := []) (l := []) rfl rfl Z3a Za1 rfl rfl rfl rfl) ?_
  rintro _ ⟨v1, rfl⟩
  refine Md rfl <| Ct rfl (Z2l 1002 h rfl rfl Zt1 (vt rfl) rfl (vt rfl)) ?_
  rintro _ ⟨v2, rfl⟩
  refine Aw rfl <| Nl <| AW.ret ?_
  exact Z4k (i := 1002) Tryz.results289 rfl rfl rfl
def Zm1 (s : List Bucket) : Option (List Bucket) := Z0w [] s
theorem Y40 (s : List Bucket) (r : List Bucket) (h : Zm1 s = some r) : Con Tryz.prog 328 [rd (Z4 Z0t) s] emp (fun v => Zc v) (fun v => Za v 226 Z0t r) := by
 refine Con.intro0 Tryz.func328 rfl Tryz.ntmps328 rfl fun w H => ?_
 unfold Zm1 at h
 refine AW.newnil 1001 226 Z0t <| SR <| Ac (Z07 (A := Zc (.slice none 0 0)) rfl rfl vc) rfl <| Nl <| AW.seq <| SR <| Md rfl <| Ct rfl (Zjg rfl rfl Z53 (vt rfl)) ?_
 rintro _ ⟨b, hb, rfl⟩
 refine Nl <| Cn rfl (fun hc => ?_) (fun hc => ?_)
 ·obtain rfl := hb hc
  refine SR <| Ac (Z07 (A := Zc (.slice none 0 0)) rfl rfl vc) rfl <| Nl <| AW.ret ?_
  obtain rfl := (Zar h).2
  exact Z4k (i := 1001) Tryz.results328 rfl rfl rfl
 ·refine AW.skip <| SR <| Ct rfl (Z4c 1002 (ps := []) (l := []) rfl rfl Z53 Zpy rfl rfl rfl rfl) ?_
  rintro _ ⟨v1, rfl⟩
  refine Md rfl <| Ct rfl (Z2l 1002 h rfl rfl Y7l (vt rfl) rfl (vt rfl)) ?_
  rintro _ ⟨v2, rfl⟩
  refine Aw rfl <| Nl <| AW.ret ?_
  exact Z4k (i := 1002) Tryz.results328 rfl rfl rfl
def Z7j : Nat → Nat → (List Bucket) → Option (List Bucket)
 | 0, i6, l5 => some l5
 | m7 + 1, i6, l5 => (lget l5 (i6 : Int)).bind fun e8 => (Z63 e8.Acts).bind fun x9 => (lget l5 (i6 : Int)).bind fun e10 => (Z7j m7) (i6 + 1) (List.set l5 (i6 : Int).toNat { e10 with Acts := x9 })
def Zfs (l1 : (List Bucket)) : Option (List Bucket) :=
 (Zm1 l1).bind fun x2 => Z7j ((x2.length : Int) : Int).toNat 0 x2
theorem Y97 (l1 : (List Bucket)) (r : (List Bucket)) (h : Zfs l1 = some r) : PCon Tryz.prog 290 [rd (Z4 Z0t) l1] (rd (Z4 Z0t) r) := by
 refine PCon.of (Con.intro0 Tryz.func290 rfl Tryz.ntmps290 rfl fun w H => ?_)
 unfold Zfs at h
 refine SR <| Ac (Z07 (A := rd (Z4 Z0t) []) rfl rfl Z27) rfl <| Nl <| AW.seq ?_
 obtain ⟨x2, hx2, h⟩ := Z1 h
 refine Rg <| Md rfl <| Ct rfl (Z1k 1001 (xs := [.tmp 5]) (Y40 _ _ hx2) Y6p rfl rfl ⟨vt rfl, trivial⟩ rfl) ?_
 rintro _ ⟨v3, rfl⟩
 refine Aw rfl <| Nl <| AW.seq <| SR <| Mw rfl <| Ac (Z5h 1001 rfl rfl Z53 (vt rfl) rfl) rfl <| Mk rfl <| Nl <| AW.block <| AW.loopG (d := []) (ν := Nat × Nat × (List Bucket)) (fun n => Cnt (x2.length : Int) n.2.1 n.1 ∧ Z7j n.1 n.2.1 n.2.2 = some r) (fun n => n.1) (fun n => [(3, Zc v3), (8, rd (Z0 .i64) (x2.length : Int)), (9, rd (Z0 .i64) (n.2.1 : Int))]) (fun n => [(1001, Za v3 226 Z0t n.2.2)]) (((x2.length : Int) : Int).toNat, 0, x2) ⟨Cnt.start _, h⟩ ⟨rfl, ⟨rfl, rfl, rfl, trivial⟩, ⟨rfl, trivial⟩⟩ ?_
 rintro ⟨m7, i6, l5⟩ ⟨hsf1, h⟩
 change Cnt (x2.length : Int) i6 m7 at hsf1
 change Z7j m7 i6 l5 = some r at h
 change AW _ _ _ ⟨Zw [(3, Zc v3), (8, rd (Z0 .i64) (x2.length : Int)), (9, rd (Z0 .i64) (i6 : Int))], Zx [(1001, Za v3 226 Z0t l5)], _⟩
 cases m7 with
 | zero =>
  unfold Z7j at h
  refine SR <| Ac (Zl rfl rfl (vt rfl) (vt rfl)) rfl <| Nl <| AW.seq <| Cn rfl (fun hc => absurd (of_decide_eq_true hc) hsf1.zero) (fun hc => ?_)
  refine AW.exit <| SR <| Mw rfl <| Aw rfl <| Nl <| AW.freezes [2, 3, 23] 1001 rfl ⟨rfl, rfl, rfl, trivial⟩ rfl <| AW.ret ?_
  obtain rfl := si h
  exact Zg Tryz.results290 rfl (Z6 rfl)
 | succ m7 =>
  unfold Z7j at h
  generalize hgo1 : Z7j m7 = go1 at h
  refine SR <| Ac (Zl rfl rfl (vt rfl) (vt rfl)) rfl <| Nl <| AW.seq <| Cn rfl (fun hc => ?_) (fun hc => absurd hsf1.succ (of_decide_eq_false hc))
  have hlti6 := of_decide_eq_true hc
  refine AW.skip <| AW.seq <| AW.block <| SR <| Md rfl <| As rfl <| Nl ?_
  obtain ⟨e8, he8, h⟩ := Z1 h
  obtain ⟨x9, hx9, h⟩ := Z1 h
  obtain ⟨e10, he10, h⟩ := Z1 h
  refine Rg <| Mw rfl <| Md rfl <| Mw rfl <| Md rfl <| Ac (Z1o 1001 rfl rfl Z53 (vt rfl) rfl (vt rfl) he8) rfl <| Ac (Zah Zew rfl rfl Zid (vt rfl)) rfl <| Ac (Z1d 1001 rfl rfl Z4b (vt rfl) rfl (Z0g he8).2) rfl <| Cl [18] (Zu2 _ _ hx9) Zmq rfl <| Ac (Z1o 1001 rfl rfl Z53 (vt rfl) rfl (vt rfl) he10) rfl <| Ac (Zah Zew rfl rfl Zid (vt rfl)) rfl <| Ac (Z28 1001 rfl rfl Z4b (vt rfl) rfl (Z0g he10).2 (vt rfl)) rfl <| Nl <| Rg <| Ac (Z1t (t := 8) rfl rfl (vt rfl) (vk rfl) (vt rfl) hlti6) rfl <| Md rfl <| Nl ?_
  subst hgo1
  exact ⟨(m7, i6 + 1, (List.set l5 (i6 : Int).toNat { e10 with Acts := x9 })), Nat.lt_succ_self _, ⟨hsf1.next, h⟩, ⟨rfl, ⟨rfl, rfl, rfl, trivial⟩, ⟨rfl, trivial⟩⟩⟩
def Z7p : Nat → Nat → (List Group) → Option (List Group)
 | 0, i6, l5 => some l5
 | m7 + 1, i6, l5 => (lget l5 (i6 : Int)).bind fun e8 => (Zfs e8.Buckets).bind fun x9 => (lget l5 (i6 : Int)).bind fun e10 => (Z7p m7) (i6 + 1) (List.set l5 (i6 : Int).toNat { e10 with Buckets := x9 })
def Zfo (l1 : (List Group)) : Option (List Group) :=
 (Zm8 l1).bind fun x2 => Z7p ((x2.length : Int) : Int).toNat 0 x2
theorem Y86 (l1 : (List Group)) (r : (List Group)) (h : Zfo l1 = some r) : PCon Tryz.prog 242 [rd (Z4 Z0e) l1] (rd (Z4 Z0e) r) := by
 refine PCon.of (Con.intro0 Tryz.func242 rfl Tryz.ntmps242 rfl fun w H => ?_)
 unfold Zfo at h
 refine SR <| Ac (Z07 (A := rd (Z4 Z0e) []) rfl rfl Z27) rfl <| Nl <| AW.seq ?_
 obtain ⟨x2, hx2, h⟩ := Z1 h
 refine Rg <| Md rfl <| Ct rfl (Z1k 1001 (xs := [.tmp 5]) (Y23 _ _ hx2) Y1w rfl rfl ⟨vt rfl, trivial⟩ rfl) ?_
 rintro _ ⟨v3, rfl⟩
 refine Aw rfl <| Nl <| AW.seq <| SR <| Mw rfl <| Ac (Z5h 1001 rfl rfl Z3a (vt rfl) rfl) rfl <| Mk rfl <| Nl <| AW.block <| AW.loopG (d := []) (ν := Nat × Nat × (List Group)) (fun n => Cnt (x2.length : Int) n.2.1 n.1 ∧ Z7p n.1 n.2.1 n.2.2 = some r) (fun n => n.1) (fun n => [(3, Zc v3), (8, rd (Z0 .i64) (x2.length : Int)), (9, rd (Z0 .i64) (n.2.1 : Int))]) (fun n => [(1001, Za v3 164 Z0e n.2.2)]) (((x2.length : Int) : Int).toNat, 0, x2) ⟨Cnt.start _, h⟩ ⟨rfl, ⟨rfl, rfl, rfl, trivial⟩, ⟨rfl, trivial⟩⟩ ?_
 rintro ⟨m7, i6, l5⟩ ⟨hsf1, h⟩
 change Cnt (x2.length : Int) i6 m7 at hsf1
 change Z7p m7 i6 l5 = some r at h
 change AW _ _ _ ⟨Zw [(3, Zc v3), (8, rd (Z0 .i64) (x2.length : Int)), (9, rd (Z0 .i64) (i6 : Int))], Zx [(1001, Za v3 164 Z0e l5)], _⟩
 cases m7 with
 | zero =>
  unfold Z7p at h
  refine SR <| Ac (Zl rfl rfl (vt rfl) (vt rfl)) rfl <| Nl <| AW.seq <| Cn rfl (fun hc => absurd (of_decide_eq_true hc) hsf1.zero) (fun hc => ?_)
  refine AW.exit <| SR <| Mw rfl <| Aw rfl <| Nl <| AW.freezes [2, 3, 23] 1001 rfl ⟨rfl, rfl, rfl, trivial⟩ rfl <| AW.ret ?_
  obtain rfl := si h
  exact Zg Tryz.results242 rfl (Z6 rfl)
 | succ m7 =>
  unfold Z7p at h
  generalize hgo1 : Z7p m7 = go1 at h
  refine SR <| Ac (Zl rfl rfl (vt rfl) (vt rfl)) rfl <| Nl <| AW.seq <| Cn rfl (fun hc => ?_) (fun hc => absurd hsf1.succ (of_decide_eq_false hc))
  have hlti6 := of_decide_eq_true hc
  refine AW.skip <| AW.seq <| AW.block <| SR <| Md rfl <| As rfl <| Nl ?_
  obtain ⟨e8, he8, h⟩ := Z1 h
  obtain ⟨x9, hx9, h⟩ := Z1 h
  obtain ⟨e10, he10, h⟩ := Z1 h
  refine Rg <| Mw rfl <| Md rfl <| Mw rfl <| Md rfl <| Ac (Z1o 1001 rfl rfl Z3a (vt rfl) rfl (vt rfl) he8) rfl <| Ac (Zah Zcw rfl rfl Zgt (vt rfl)) rfl <| Ac (Z1d 1001 rfl rfl Zgg (vt rfl) rfl (Z0g he8).2) rfl <| Cl [18] (Y97 _ _ hx9) Yc9 rfl <| Ac (Z1o 1001 rfl rfl Z3a (vt rfl) rfl (vt rfl) he10) rfl <| Ac (Zah Zcw rfl rfl Zgt (vt rfl)) rfl <| Ac (Z28 1001 rfl rfl Zgg (vt rfl) rfl (Z0g he10).2 (vt rfl)) rfl <| Nl <| Rg <| Ac (Z1t (t := 8) rfl rfl (vt rfl) (vk rfl) (vt rfl) hlti6) rfl <| Md rfl <| Nl ?_
  subst hgo1
  exact ⟨(m7, i6 + 1, (List.set l5 (i6 : Int).toNat { e10 with Buckets := x9 })), Nat.lt_succ_self _, ⟨hsf1.next, h⟩, ⟨rfl, ⟨rfl, rfl, rfl, trivial⟩, ⟨rfl, trivial⟩⟩⟩
def Zg2 (l1 : (List Group)) (id2 : Int) : Option (Group × Bool) :=
 (Zmp l1 id2).bind fun x4 => (bif (decide (x4 < 0)) then some ((⟨0, 0, []⟩ : Group), false) else (Zdp l1 x4 (IntKind.i64.wrap (x4 + 1))).bind fun s5 => (Zfo s5).bind fun x6 => (lget x6 0).bind fun e7 => some (e7, true))
theorem Ydr (l1 : (List Group)) (id2 : Int) (r : (Group × Bool)) (h : Zg2 l1 id2 = some r) : PCon Tryz.prog 180 [rd (Z4 Z0e) l1, rd (Z0 .i64) id2] (Z1e (rd Z0e r.1) (rd Z8 r.2)) := by
 refine PCon.of (Con.intro0 Tryz.func180 rfl Tryz.ntmps180 rfl fun w H => ?_)
 unfold Zg2 at h
 refine SR <| Ct rfl (Zm 5 rfl rfl Za1) ?_
 rintro _ ⟨g3, rfl⟩
 refine Ab rfl <| Nl <| AW.seq ?_
 obtain ⟨x4, hx4, h⟩ := Z1 h
 refine Rg <| Md rfl <| Md rfl <| Cl [7, 8] (Y4f _ _ _ hx4) Yb0 rfl <| As rfl <| Nl <| AW.seq <| SR <| Md rfl <| Ac (Zl rfl rfl (vt rfl) (vk rfl)) rfl <| Nl <| Cn rfl (fun hc => ?_) (fun hc => ?_)
 ·have h := Ze hc h
  refine SR <| Ac (Z01 (ps := []) (x := (⟨0, 0, []⟩ : Group)) rfl rfl rfl (by kernel_rfl) Za1 rfl) rfl <| Zh Z40 5 rfl <| Ab rfl <| Nl <| AW.ret ?_
  obtain rfl := si h
  exact Z23 Tryz.results180 rfl (Z04 rfl (i := 5) rfl Z40) (Z6 rfl)
 ·have h := Zf hc h
  refine AW.skip <| AW.seq ?_
  obtain ⟨s5, hs5, h⟩ := Z1 h
  obtain ⟨x6, hx6, h⟩ := Z1 h
  obtain ⟨e7, he7, h⟩ := Z1 h
  refine Rg <| Md rfl <| Md rfl <| Md rfl <| Ac (Z08 rfl rfl (vt rfl) (vk rfl)) rfl <| Ac (Y32 hs5 rfl rfl Z3a (vt rfl) (vt rfl) (vt rfl)) rfl <| Cl [17] (Y86 _ _ hx6) Y4s rfl <| Ac (Z0l rfl rfl Z3a (vt rfl) (vk rfl) he7) rfl <| Lp1 Z40 rfl <| Zh Z40 5 rfl <| Ab rfl <| Nl <| AW.ret ?_
  obtain rfl := si h
  exact Z23 Tryz.results180 rfl (Z04 rfl (i := 5) rfl Z40) (Z6 rfl)
def Z78 (l1 : (List Group)) : (List Group) → Nat → (List Group) → Option (List Group)
 | [], i6, l4 => some l4
 | x8 :: l7, i6, l4 => (Z5c l1 (i6 : Int)).bind fun s10 => (Zg2 s10 x8.ID).bind fun x11 => (Z0w l4 [x11.1]).bind fun l13 => (Z78 l1 l7) (i6 + 1) l13
def Zhz (l1 : (List Group)) : Option (List Group) :=
 Z78 l1 l1 0 []
theorem Y9q (l1 : (List Group)) (r : (List Group)) (h : Zhz l1 = some r) : PCon Tryz.prog 112 [rd (Z4 Z0e) l1] (rd (Z4 Z0e) r) := by
 refine PCon.of (Con.intro0 Tryz.func112 rfl Tryz.ntmps112 rfl fun w H => ?_)
 unfold Zhz at h
 refine SR <| Ac (Z07 (A := rd (Z4 Z0e) []) rfl rfl Z27) rfl <| Nl <| AW.seq <| AW.newnil 1001 164 Z0e <| Rg <| Ac (Z07 rfl rfl vc) rfl <| Nl <| AW.seq <| SR <| Md rfl <| Ac (Z0j rfl rfl Z3a (vt rfl)) rfl <| Mk rfl <| Nl <| AW.block <| AW.loopG (d := []) (ν := (List Group) × Nat × (List Group) × Value) (fun n => Sfx l1 n.2.1 n.1 ∧ Z78 l1 n.1 n.2.1 n.2.2.1 = some r) (fun n => n.1.length) (fun n => [(0, rd (Z4 Z0e) l1), (3, Zc n.2.2.2), (8, rd (Z4 Z0e) l1), (9, rd (Z0 .i64) (l1.length : Int)), (10, rd (Z0 .i64) (n.2.1 : Int))]) (fun n => [(1001, Za n.2.2.2 164 Z0e n.2.2.1)]) (l1, 0, [], (.slice none 0 0)) ⟨Sfx.start _, h⟩ ⟨rfl, ⟨rfl, rfl, rfl, rfl, rfl, trivial⟩, ⟨rfl, trivial⟩⟩ ?_
 rintro ⟨l7, i6, l4, v5⟩ ⟨hsf1, h⟩
 change Sfx l1 i6 l7 at hsf1
 change Z78 l1 l7 i6 l4 = some r at h
 change AW _ _ _ ⟨Zw [(0, rd (Z4 Z0e) l1), (3, Zc v5), (8, rd (Z4 Z0e) l1), (9, rd (Z0 .i64) (l1.length : Int)), (10, rd (Z0 .i64) (i6 : Int))], Zx [(1001, Za v5 164 Z0e l4)], _⟩
 cases l7 with
 | nil =>
  unfold Z78 at h
  refine SR <| Ac (Zl rfl rfl (vt rfl) (vt rfl)) rfl <| Nl <| AW.seq <| Cn rfl (fun hc => absurd (of_decide_eq_true hc) hsf1.nil) (fun hc => ?_)
  refine AW.exit <| SR <| Mw rfl <| Aw rfl <| Nl <| AW.freezes [2, 3, 29] 1001 rfl ⟨rfl, rfl, rfl, trivial⟩ rfl <| AW.ret ?_
  obtain rfl := si h
  exact Zg Tryz.results112 rfl (Z6 rfl)
 | cons x8 l7 =>
  unfold Z78 at h
  generalize hgo1 : Z78 l1 l7 = go1 at h
  refine SR <| Ac (Zl rfl rfl (vt rfl) (vt rfl)) rfl <| Nl <| AW.seq <| Cn rfl (fun hc => ?_) (fun hc => absurd hsf1.cons (of_decide_eq_false hc))
  have hlti6 := of_decide_eq_true hc
  refine AW.skip <| AW.seq <| AW.block <| SR <| Md rfl <| Ac (Z0l rfl rfl Z3a (vt rfl) (vt rfl) hsf1.lget) rfl <| Lp1 Z40 rfl <| Ct rfl (Zm 6 rfl rfl Za1) ?_
  rintro _ ⟨g9, rfl⟩
  refine As rfl <| Zh Z40 6 rfl <| Nl <| AW.seq ?_
  obtain ⟨s10, hs10, h⟩ := Z1 h
  obtain ⟨x11, hx11, h⟩ := Z1 h
  refine AW.regionAny [⟨[0], [16], [], []⟩, ⟨[4], [17], [], []⟩, ⟨[16, 17], [18], [], []⟩, ⟨[5], [19], [], []⟩, ⟨[19], [20], [6], []⟩, ⟨[18, 20], [21], [], []⟩, ⟨[21], [15], [], []⟩, ⟨[15], [22], [], []⟩, ⟨[15], [23], [], []⟩, ⟨[], [6], [], []⟩, ⟨[6, 22], [6], [], []⟩, ⟨[23], [7], [], []⟩] Z06 (by kernel_rfl) <| Zu rfl <| Zu rfl <| Sc (lo [16, 17] [] rfl fun S hs hr => Zub hs10 rfl rfl Z3a (vh hs 16 rfl rfl) (vh hs 17 rfl rfl)) rfl <| SFd Zft Zmo rfl <| Zq Zv 6 rfl <| SCl [18, 20] (Ydr _ _ _ hx11) Ya0 rfl <| Sc (lo [21] [] rfl fun S hs hr => Zs (A := Z1e (rd Z0e x11.1) (rd Z8 x11.2)) rfl rfl (vh hs 21 rfl rfl)) rfl <| Sc (lo [15] [] rfl fun S hs hr => Z1p rfl rfl (vh hs 15 rfl rfl)) rfl <| Sc (lo [15] [] rfl fun S hs hr => Z1q rfl rfl (vh hs 15 rfl rfl)) rfl <| Sc (Z1b (us := [(6, Z25 164 Z0e Zpm)]) (ur := []) [] [] rfl fun S hs hr => Z5r rfl rfl rfl Za1) rfl <| Sc (Z1b (us := [(6, Z25 164 Z0e x11.1)]) (ur := []) [6, 22] [] rfl fun S hs hr => Z5n rfl rfl Z40 ((hs 6 rfl).trans rfl) (vh hs 22 rfl rfl)) rfl <| SAs rfl <| AW.unpackP 6 7 rfl rfl fun g12 => ?_
  obtain ⟨l13, hl13, h⟩ := Z1 h
  refine Rg <| Mw rfl <| Ld Z40 7 rfl <| Ac (Z2o (ps := [(0, .tmp 25)]) (l := [x11.1]) rfl rfl Z3a Za1 rfl rfl ⟨_, _, Lens.idx 1 Z0e 0 (by decide), _, rfl, (vt rfl), rfl⟩ rfl) rfl <| Ct rfl (Z2l 1001 hl13 rfl rfl Zt1 (vt rfl) rfl (vt rfl)) ?_
  rintro _ ⟨v14, rfl⟩
  refine Aw rfl <| Nl <| Rg <| Ac (Z1t (t := 9) rfl rfl (vt rfl) (vk rfl) (vt rfl) hlti6) rfl <| Md rfl <| Nl ?_
  subst hgo1
  exact ⟨(l7, i6 + 1, l13, v14), Nat.lt_succ_self _, ⟨hsf1.next, h⟩, ⟨rfl, ⟨rfl, rfl, rfl, rfl, rfl, trivial⟩, ⟨rfl, trivial⟩⟩⟩
def Zas (s1 : Switch) (most2 : Int) : Option (Flat × Int) :=
 (Zcd s1).bind fun x5 => (Zkj x5 most2).bind fun x6 => (bif (decide (x6.2 ≠ 0)) then some ((⟨[], []⟩ : Flat), x6.2) else (Zhz s1.Groups).bind fun x7 => some ((⟨x6.1, x7⟩ : Flat), 0))
theorem Zmt (s1 : Switch) (most2 : Int) (r : (Flat × Int)) (h : Zas s1 most2 = some r) : PCon Tryz.prog 54 [rd Z0h s1, rd (Z0 .i64) most2] (Z1e (rd Zaw r.1) (rd (Z0 .i64) r.2)) := by
 refine PCon.of (Con.intro0 Tryz.func54 rfl Tryz.ntmps54 rfl fun w H => ?_)
 unfold Zas at h
 refine SR <| Ct rfl (Zo 3 rfl rfl (vt rfl)) ?_
 rintro _ ⟨g3, rfl⟩
 refine Ct rfl (Zm 5 rfl rfl Zae) ?_
 rintro _ ⟨g4, rfl⟩
 refine Ak rfl <| Nl <| AW.seq ?_
 obtain ⟨x5, hx5, h⟩ := Z1 h
 obtain ⟨x6, hx6, h⟩ := Z1 h
 refine Rg <| Ld Z3m 3 rfl <| Cl [9] (Zyn _ _ hx5) e25 rfl <| Md rfl <| Cl [10, 11] (Y00 _ _ _ hx6) Y9a rfl <| Mt2 rfl <| Ac (Z1p rfl rfl (vt rfl)) rfl <| Ac (Z1q rfl rfl (vt rfl)) rfl <| As rfl <| As rfl <| Nl <| AW.seq <| SR <| Md rfl <| Ac (Z5l rfl rfl (vt rfl) (vk rfl)) rfl <| Nl <| Cn rfl (fun hc => ?_) (fun hc => ?_)
 ·have h := Ze hc h
  refine SR <| Ac (Z01 (ps := []) (x := (⟨[], []⟩ : Flat)) rfl rfl rfl (by kernel_rfl) Zae rfl) rfl <| Md rfl <| Zh Z54 5 rfl <| As rfl <| Nl <| AW.ret ?_
  obtain rfl := si h
  exact Z23 Tryz.results54 rfl (Z04 rfl (i := 5) rfl Z54) (Z6 rfl)
 ·have h := Zf hc h
  refine AW.skip <| AW.seq ?_
  obtain ⟨x7, hx7, h⟩ := Z1 h
  refine Rg <| Md rfl <| Zp Zr1 Ztc rfl <| Ld Zh2 3 rfl <| Cl [21] (Y9q _ _ hx7) Y8g rfl <| Ac (Z01 (ps := [(0, .tmp 19), (1, .tmp 22)]) (x := (⟨x6.1, x7⟩ : Flat)) rfl rfl rfl (by kernel_rfl) Zae ⟨_, _, Zce, _, by kernel_rfl, (vt rfl), _, _, Zix, _, by kernel_rfl, (vt rfl), rfl⟩) rfl <| Zh Z54 5 rfl <| Ak rfl <| Nl <| AW.ret ?_
  obtain rfl := si h
  exact Z23 Tryz.results54 rfl (Z04 rfl (i := 5) rfl Z54) (Z6 rfl)
def Zbk : (List Rule) → Nat → (List (Vector Tern 24)) → Option (List (Vector Tern 24))
 | [], i6, l5 => some l5
 | x8 :: l7, i6, l5 => (lget l5 (i6 : Int)).bind fun e10 => (Zbk l7) (i6 + 1) (List.set l5 (i6 : Int).toNat x8.Cube)
def Zos (l1 : (List Rule)) : Option (List (Vector Tern 24)) :=
 (omk (l1.length : Int)).bind fun u2 => Zbk l1 0 (List.replicate (l1.length : Int).toNat (Vector.replicate 24 zTern))
theorem Y60 (l1 : (List Rule)) (r : (List (Vector Tern 24))) (h : Zos l1 = some r) : PCon Tryz.prog 169 [rd (Z4 Zy) l1] (rd (Z4 (Z2 24 Z3)) r) := by
 refine PCon.of (Con.intro0 Tryz.func169 rfl Tryz.ntmps169 rfl fun w H => ?_)
 unfold Zos at h
 refine SR <| Ac (Z07 (A := rd (Z4 (Z2 24 Z3)) []) rfl rfl Z27) rfl <| Nl <| AW.seq ?_
 obtain ⟨u2, hu2, h⟩ := Z1 h
 refine Rg <| Md rfl <| Ac (Z0j rfl rfl Z26 (vt rfl)) rfl <| Ct rfl (Y7n 1001 hu2 rfl rfl Zfx Z0v (vt rfl) (vt rfl)) ?_
 rintro _ ⟨v3, rfl⟩
 refine Aw rfl <| Nl <| AW.seq <| SR <| Md rfl <| Ac (Z0j rfl rfl Z26 (vt rfl)) rfl <| Mk rfl <| Nl <| AW.block <| AW.loopG (d := []) (ν := (List Rule) × Nat × (List (Vector Tern 24))) (fun n => Sfx l1 n.2.1 n.1 ∧ Zbk n.1 n.2.1 n.2.2 = some r) (fun n => n.1.length) (fun n => [(3, Zc v3), (9, rd (Z4 Zy) l1), (10, rd (Z0 .i64) (l1.length : Int)), (11, rd (Z0 .i64) (n.2.1 : Int))]) (fun n => [(1001, Za v3 87 (Z2 24 Z3) n.2.2)]) (l1, 0, (List.replicate (l1.length : Int).toNat (Vector.replicate 24 zTern))) ⟨Sfx.start _, h⟩ ⟨rfl, ⟨rfl, rfl, rfl, rfl, trivial⟩, ⟨rfl, trivial⟩⟩ ?_
 rintro ⟨l7, i6, l5⟩ ⟨hsf1, h⟩
 change Sfx l1 i6 l7 at hsf1
 change Zbk l7 i6 l5 = some r at h
 change AW _ _ _ ⟨Zw [(3, Zc v3), (9, rd (Z4 Zy) l1), (10, rd (Z0 .i64) (l1.length : Int)), (11, rd (Z0 .i64) (i6 : Int))], Zx [(1001, Za v3 87 (Z2 24 Z3) l5)], _⟩
 cases l7 with
 | nil =>
  unfold Zbk at h
  refine SR <| Ac (Zl rfl rfl (vt rfl) (vt rfl)) rfl <| Nl <| AW.seq <| Cn rfl (fun hc => absurd (of_decide_eq_true hc) hsf1.nil) (fun hc => ?_)
  refine AW.exit <| SR <| Mw rfl <| Aw rfl <| Nl <| AW.freezes [2, 3, 22] 1001 rfl ⟨rfl, rfl, rfl, trivial⟩ rfl <| AW.ret ?_
  obtain rfl := si h
  exact Zg Tryz.results169 rfl (Z6 rfl)
 | cons x8 l7 =>
  unfold Zbk at h
  generalize hgo1 : Zbk l7 = go1 at h
  refine SR <| Ac (Zl rfl rfl (vt rfl) (vt rfl)) rfl <| Nl <| AW.seq <| Cn rfl (fun hc => ?_) (fun hc => absurd hsf1.cons (of_decide_eq_false hc))
  have hlti6 := of_decide_eq_true hc
  refine AW.skip <| AW.seq <| AW.block <| SR <| Md rfl <| Ac (Z0l rfl rfl Z26 (vt rfl) (vt rfl) hsf1.lget) rfl <| Lp1 Z4g rfl <| Ct rfl (Zm 6 rfl rfl Z4i) ?_
  rintro _ ⟨g9, rfl⟩
  refine As rfl <| Zh Z4g 6 rfl <| Nl ?_
  obtain ⟨e10, he10, h⟩ := Z1 h
  refine Rg <| Mw rfl <| Md rfl <| Zp Z65 Zbj rfl <| Ld Zz 6 rfl <| Ac (Z1o 1001 rfl rfl Z2h (vt rfl) rfl (vt rfl) he10) rfl <| Ac (Z28 1001 rfl rfl Zz (vt rfl) rfl (Z0g he10).2 (vt rfl)) rfl <| Nl <| Rg <| Ac (Z1t (t := 10) rfl rfl (vt rfl) (vk rfl) (vt rfl) hlti6) rfl <| Md rfl <| Nl ?_
  subst hgo1
  exact ⟨(l7, i6 + 1, (List.set l5 (i6 : Int).toNat x8.Cube)), Nat.lt_succ_self _, ⟨hsf1.next, h⟩, ⟨rfl, ⟨rfl, rfl, rfl, rfl, trivial⟩, ⟨rfl, trivial⟩⟩⟩
def Zan (cu1 : (Vector Tern 24)) : (List (Vector Tern 24)) → Nat → (List (Vector Tern 24)) → Option (List (Vector Tern 24))
 | [], i8, l6 => some l6
 | x10 :: l9, i8, l6 => (Z8i cu1 x10).bind fun x12 => (bif x12.2 then (Z0w l6 [x10]).bind fun l14 => (Zan cu1 l9) (i8 + 1) l14 else (Zan cu1 l9) (i8 + 1) l6)
def Zni (cu1 : (Vector Tern 24)) (l2 : (List (Vector Tern 24))) : Option (List (Vector Tern 24)) :=
 Zan cu1 l2 0 []
theorem Ycv (cu1 : (Vector Tern 24)) (l2 : (List (Vector Tern 24))) (r : (List (Vector Tern 24))) (h : Zni cu1 l2 = some r) : PCon Tryz.prog 247 [rd (Z2 24 Z3) cu1, rd (Z4 (Z2 24 Z3)) l2] (rd (Z4 (Z2 24 Z3)) r) := by
 refine PCon.of (Con.intro0 Tryz.func247 rfl Tryz.ntmps247 rfl fun w H => ?_)
 unfold Zni at h
 refine SR <| Ct rfl (Zo 3 rfl rfl (vt rfl)) ?_
 rintro _ ⟨g3, rfl⟩
 refine Ac (Z07 (A := rd (Z4 (Z2 24 Z3)) []) rfl rfl Z27) rfl <| Nl <| AW.seq <| AW.newnil 1001 87 (Z2 24 Z3) <| Rg <| Ac (Z07 rfl rfl vc) rfl <| Nl <| AW.seq <| SR <| Md rfl <| Ac (Z0j rfl rfl Z2h (vt rfl)) rfl <| Mk rfl <| Nl <| AW.block <| AW.loopG (d := []) (ν := (List (Vector Tern 24)) × Nat × (List (Vector Tern 24)) × Value) (fun n => Sfx l2 n.2.1 n.1 ∧ Zan cu1 n.1 n.2.1 n.2.2.1 = some r) (fun n => n.1.length) (fun n => [(2, Z7 g3 (Lens.id (Z2 24 Z3))), (5, Zc n.2.2.2), (10, rd (Z4 (Z2 24 Z3)) l2), (11, rd (Z0 .i64) (l2.length : Int)), (12, rd (Z0 .i64) (n.2.1 : Int))]) (fun n => [(3, Z9 g3 87 (Z2 24 Z3) cu1), (1001, Za n.2.2.2 87 (Z2 24 Z3) n.2.2.1)]) (l2, 0, [], (.slice none 0 0)) ⟨Sfx.start _, h⟩ ⟨rfl, ⟨rfl, rfl, rfl, rfl, rfl, trivial⟩, ⟨rfl, rfl, trivial⟩⟩ ?_
 rintro ⟨l9, i8, l6, v7⟩ ⟨hsf1, h⟩
 change Sfx l2 i8 l9 at hsf1
 change Zan cu1 l9 i8 l6 = some r at h
 change AW _ _ _ ⟨Zw [(2, Z7 g3 (Lens.id (Z2 24 Z3))), (5, Zc v7), (10, rd (Z4 (Z2 24 Z3)) l2), (11, rd (Z0 .i64) (l2.length : Int)), (12, rd (Z0 .i64) (i8 : Int))], Zx [(3, Z9 g3 87 (Z2 24 Z3) cu1), (1001, Za v7 87 (Z2 24 Z3) l6)], _⟩
 cases l9 with
 | nil =>
  unfold Zan at h
  refine SR <| Ac (Zl rfl rfl (vt rfl) (vt rfl)) rfl <| Nl <| AW.seq <| Cn rfl (fun hc => absurd (of_decide_eq_true hc) hsf1.nil) (fun hc => ?_)
  refine AW.exit <| SR <| Mw rfl <| Aw rfl <| Nl <| AW.freezes [4, 5, 28] 1001 rfl ⟨rfl, rfl, rfl, trivial⟩ rfl <| AW.ret ?_
  obtain rfl := si h
  exact Zg Tryz.results247 rfl (Z6 rfl)
 | cons x10 l9 =>
  unfold Zan at h
  generalize hgo1 : Zan cu1 l9 = go1 at h
  refine SR <| Ac (Zl rfl rfl (vt rfl) (vt rfl)) rfl <| Nl <| AW.seq <| Cn rfl (fun hc => ?_) (fun hc => absurd hsf1.cons (of_decide_eq_false hc))
  have hlti8 := of_decide_eq_true hc
  refine AW.skip <| AW.seq <| AW.block <| SR <| Ac (Z0l rfl rfl Z2h (vt rfl) (vt rfl) hsf1.lget) rfl <| Lp1 Zz rfl <| Ct rfl (Zm 8 rfl rfl Z0v) ?_
  rintro _ ⟨g11, rfl⟩
  refine Zh Zz 8 rfl <| Nl <| AW.seq ?_
  obtain ⟨x12, hx12, h⟩ := Z1 h
  refine Rg <| Ld Zz 3 rfl <| Ld Zz 8 rfl <| Cl [17, 18] (Zkf _ _ _ hx12) Zk4 rfl <| Mt2 rfl <| Ac (Z1p rfl rfl (vt rfl)) rfl <| Ac (Z1q rfl rfl (vt rfl)) rfl <| Ct rfl (Zm 9 rfl rfl Z0v) ?_
  rintro _ ⟨g13, rfl⟩
  refine Zh Zz 9 rfl <| As rfl <| Nl <| SR <| Md rfl <| Nl <| Cn rfl (fun hc => ?_) (fun hc => ?_)
  ·have h := Ze hc h
   obtain ⟨l14, hl14, h⟩ := Z1 h
   refine Rg <| Mw rfl <| Ld Zz 8 rfl <| Ac (Z2o (ps := [(0, .tmp 24)]) (l := [x10]) rfl rfl Z2h Z0v rfl rfl ⟨_, _, Lens.idx 1 (Z2 24 Z3) 0 (by decide), _, rfl, (vt rfl), rfl⟩ rfl) rfl <| Ct rfl (Z2l 1001 hl14 rfl rfl Zfx (vt rfl) rfl (vt rfl)) ?_
   rintro _ ⟨v15, rfl⟩
   refine Aw rfl <| Nl <| Rg <| Ac (Z1t (t := 11) rfl rfl (vt rfl) (vk rfl) (vt rfl) hlti8) rfl <| Md rfl <| Nl ?_
   subst hgo1
   exact ⟨(l9, i8 + 1, l14, v15), Nat.lt_succ_self _, ⟨hsf1.next, h⟩, ⟨rfl, ⟨rfl, rfl, rfl, rfl, rfl, trivial⟩, ⟨rfl, rfl, trivial⟩⟩⟩
  ·have h := Zf hc h
   refine AW.skip <| Rg <| Ac (Z1t (t := 11) rfl rfl (vt rfl) (vk rfl) (vt rfl) hlti8) rfl <| Md rfl <| Nl ?_
   subst hgo1
   exact ⟨(l9, i8 + 1, l6, v7), Nat.lt_succ_self _, ⟨hsf1.next, h⟩, ⟨rfl, ⟨rfl, rfl, rfl, rfl, rfl, trivial⟩, ⟨rfl, rfl, trivial⟩⟩⟩
end Go.Proofs.YtknpgojdkobgjaaGreat.W
set_option maxRecDepth 4000
namespace Go.Proofs.YtknpgojdkobgjaaGreat.W
open Go Go.Wb
theorem Y55 : Ent Tryz.prog 247 := Ent.mk Tryz.func247 rfl rfl
theorem Y45 : Ent Tryz.prog 248 := Ent.mk Tryz.func248 rfl rfl
theorem Y8z : Ent Tryz.prog 169 := Ent.mk Tryz.func169 rfl rfl
theorem Y06 : Ent Tryz.prog 185 := Ent.mk Tryz.func185 rfl rfl
theorem Ybm : Ent Tryz.prog 117 := Ent.mk Tryz.func117 rfl rfl
theorem Yem : Ent Tryz.prog 243 := Ent.mk Tryz.func243 rfl rfl
theorem Ycz : Ent Tryz.prog 244 := Ent.mk Tryz.func244 rfl rfl
theorem Y66 : Ent Tryz.prog 181 := Ent.mk Tryz.func181 rfl rfl
def Zc7 : (List Tern) → Nat → Int → Option Int
 | [], i5, n4 => some n4
 | x7 :: l6, i5, n4 => (Zer x7.Mask).bind fun x9 => (Zc7 l6) (i5 + 1) (IntKind.i64.wrap (n4 + x9))
def Zny (cu1 : (Vector Tern 24)) : Option Int :=
 Zc7 (Vector.toList cu1) 0 0
theorem Y5k (cu1 : (Vector Tern 24)) (r : Int) (h : Zny cu1 = some r) : PCon Tryz.prog 248 [rd (Z2 24 Z3) cu1] (rd (Z0 .i64) r) := by
 refine PCon.of (Con.intro0 Tryz.func248 rfl Tryz.ntmps248 rfl fun w H => ?_)
 unfold Zny at h
 refine SR <| Ct rfl (Zo 2 rfl rfl (vt rfl)) ?_
 rintro _ ⟨g2, rfl⟩
 refine Ak rfl <| Nl <| SR <| Ak rfl <| Nl <| AW.seq <| SR <| Ld Zz 2 rfl <| Mk rfl <| Nl <| AW.block <| AW.loopG (d := []) (ν := (List Tern) × Nat × Int) (fun n => Sfx (Vector.toList cu1) n.2.1 n.1 ∧ Zc7 n.1 n.2.1 n.2.2 = some r) (fun n => n.1.length) (fun n => [(3, rd (Z0 .i64) n.2.2), (6, rd (Z2 24 Z3) cu1), (7, rd (Z0 .i64) (n.2.1 : Int))]) (fun n => []) ((Vector.toList cu1), 0, 0) ⟨Sfx.start _, h⟩ ⟨rfl, ⟨rfl, rfl, rfl, trivial⟩, trivial⟩ ?_
 rintro ⟨l6, i5, n4⟩ ⟨hsf1, h⟩
 change Sfx (Vector.toList cu1) i5 l6 at hsf1
 change Zc7 l6 i5 n4 = some r at h
 change AW _ _ _ ⟨Zw [(3, rd (Z0 .i64) n4), (6, rd (Z2 24 Z3) cu1), (7, rd (Z0 .i64) (i5 : Int))], Zx [], _⟩
 cases l6 with
 | nil =>
  unfold Zc7 at h
  refine SR <| Ac (Zl rfl rfl (vt rfl) (vk rfl)) rfl <| Nl <| AW.seq <| Cn rfl (fun hc => absurd (of_decide_eq_true hc) (hsf1.niln (by simp))) (fun hc => ?_)
  refine AW.exit <| SR <| Md rfl <| As rfl <| Nl <| AW.ret ?_
  obtain rfl := si h
  exact Zg Tryz.results248 rfl (Z6 rfl)
 | cons x7 l6 =>
  unfold Zc7 at h
  generalize hgo1 : Zc7 l6 = go1 at h
  refine SR <| Ac (Zl rfl rfl (vt rfl) (vk rfl)) rfl <| Nl <| AW.seq <| Cn rfl (fun hc => ?_) (fun hc => absurd (hsf1.consn (by simp)) (of_decide_eq_false hc))
  have hlti5 := of_decide_eq_true hc
  refine AW.skip <| AW.seq <| AW.block <| SR <| Ac (Zcj rfl rfl Z20 Z00 (vt rfl) (vt rfl) hsf1.lget) rfl <| Ct rfl (Zm 6 rfl rfl Z16) ?_
  rintro _ ⟨g8, rfl⟩
  refine Zh Z00 6 rfl <| Nl ?_
  obtain ⟨x9, hx9, h⟩ := Z1 h
  refine Rg <| Md rfl <| Zp Z0z Z1y rfl <| Ld Zt 6 rfl <| Cl [12] (Zwv _ _ hx9) Zx3 rfl <| Ac (Z08 rfl rfl (vt rfl) (vt rfl)) rfl <| As rfl <| Nl <| Rg <| Ac (Z7g rfl rfl (vt rfl) (vk rfl) rfl hlti5) rfl <| Md rfl <| Nl ?_
  subst hgo1
  exact ⟨(l6, i5 + 1, (IntKind.i64.wrap (n4 + x9))), Nat.lt_succ_self _, ⟨hsf1.next, h⟩, ⟨rfl, ⟨rfl, rfl, rfl, trivial⟩, trivial⟩⟩
def Zcq : (List (Vector Tern 24)) → Nat → Int → Option Int
 | [], i7, n6 => some n6
 | x9 :: l8, i7, n6 => (Zny x9).bind fun x11 => (Zcq l8) (i7 + 1) (Z39 (IntKind.i64.wrap (n6 * (Z1i x11 1))) 1099511627776)
def Zqd (cu1 : (Vector Tern 24)) (l2 : (List (Vector Tern 24))) : Option Int :=
 (Zni cu1 l2).bind fun x4 => Zcq x4 0 (Z39 (IntKind.i64.wrap ((x4.length : Int) + 1)) 1099511627776)
theorem Y50 (cu1 : (Vector Tern 24)) (l2 : (List (Vector Tern 24))) (r : Int) (h : Zqd cu1 l2 = some r) : PCon Tryz.prog 185 [rd (Z2 24 Z3) cu1, rd (Z4 (Z2 24 Z3)) l2] (rd (Z0 .i64) r) := by
 refine PCon.of (Con.intro0 Tryz.func185 rfl Tryz.ntmps185 rfl fun w H => ?_)
 unfold Zqd at h
 refine SR <| Ct rfl (Zo 3 rfl rfl (vt rfl)) ?_
 rintro _ ⟨g3, rfl⟩
 refine Ak rfl <| Nl <| AW.seq ?_
 obtain ⟨x4, hx4, h⟩ := Z1 h
 refine Rg <| Ld Zz 3 rfl <| Md rfl <| Cl [9, 10] (Ycv _ _ _ hx4) Y55 rfl <| As rfl <| Nl <| SR <| Md rfl <| Ac (Z0j rfl rfl Z2h (vt rfl)) rfl <| Ac (Z08 rfl rfl (vt rfl) (vk rfl)) rfl <| Ac (Zhw rfl rfl (vt rfl) (vk rfl)) rfl <| As rfl <| Nl <| AW.seq <| SR <| Md rfl <| Ac (Z0j rfl rfl Z2h (vt rfl)) rfl <| Mk rfl <| Nl <| AW.block <| AW.loopG (d := []) (ν := (List (Vector Tern 24)) × Nat × Int) (fun n => Sfx x4 n.2.1 n.1 ∧ Zcq n.1 n.2.1 n.2.2 = some r) (fun n => n.1.length) (fun n => [(6, rd (Z0 .i64) n.2.2), (16, rd (Z4 (Z2 24 Z3)) x4), (17, rd (Z0 .i64) (x4.length : Int)), (18, rd (Z0 .i64) (n.2.1 : Int))]) (fun n => []) (x4, 0, (Z39 (IntKind.i64.wrap ((x4.length : Int) + 1)) 1099511627776)) ⟨Sfx.start _, h⟩ ⟨rfl, ⟨rfl, rfl, rfl, rfl, trivial⟩, trivial⟩ ?_
 rintro ⟨l8, i7, n6⟩ ⟨hsf1, h⟩
 change Sfx x4 i7 l8 at hsf1
 change Zcq l8 i7 n6 = some r at h
 change AW _ _ _ ⟨Zw [(6, rd (Z0 .i64) n6), (16, rd (Z4 (Z2 24 Z3)) x4), (17, rd (Z0 .i64) (x4.length : Int)), (18, rd (Z0 .i64) (i7 : Int))], Zx [], _⟩
 cases l8 with
 | nil =>
  unfold Zcq at h
  refine SR <| Ac (Zl rfl rfl (vt rfl) (vt rfl)) rfl <| Nl <| AW.seq <| Cn rfl (fun hc => absurd (of_decide_eq_true hc) hsf1.nil) (fun hc => ?_)
  refine AW.exit <| SR <| Md rfl <| As rfl <| Nl <| AW.ret ?_
  obtain rfl := si h
  exact Zg Tryz.results185 rfl (Z6 rfl)
 | cons x9 l8 =>
  unfold Zcq at h
  generalize hgo1 : Zcq l8 = go1 at h
  refine SR <| Ac (Zl rfl rfl (vt rfl) (vt rfl)) rfl <| Nl <| AW.seq <| Cn rfl (fun hc => ?_) (fun hc => absurd hsf1.cons (of_decide_eq_false hc))
  have hlti7 := of_decide_eq_true hc
  refine AW.skip <| AW.seq <| AW.block <| SR <| Ac (Z0l rfl rfl Z2h (vt rfl) (vt rfl) hsf1.lget) rfl <| Lp1 Zz rfl <| Ct rfl (Zm 9 rfl rfl Z0v) ?_
  rintro _ ⟨g10, rfl⟩
  refine Zh Zz 9 rfl <| Nl ?_
  obtain ⟨x11, hx11, h⟩ := Z1 h
  refine Rg <| Md rfl <| Ld Zz 9 rfl <| Cl [23] (Y5k _ _ hx11) Y45 rfl <| Ac (Zbg rfl rfl (vt rfl) (vk rfl)) rfl <| Ac (Z7h rfl rfl (vt rfl) (vt rfl)) rfl <| Ac (Zhw rfl rfl (vt rfl) (vk rfl)) rfl <| As rfl <| Nl <| Rg <| Ac (Z1t (t := 17) rfl rfl (vt rfl) (vk rfl) (vt rfl) hlti7) rfl <| Md rfl <| Nl ?_
  subst hgo1
  exact ⟨(l8, i7 + 1, (Z39 (IntKind.i64.wrap (n6 * (Z1i x11 1))) 1099511627776)), Nat.lt_succ_self _, ⟨hsf1.next, h⟩, ⟨rfl, ⟨rfl, rfl, rfl, rfl, trivial⟩, trivial⟩⟩
def Zbx (x2 : (List (Vector Tern 24))) : (List (Vector Tern 24)) → Nat → Int → Option Int
 | [], i5, n4 => some n4
 | x7 :: l6, i5, n4 => (Z4a x2 (i5 : Int)).bind fun s9 => (Zqd x7 s9).bind fun x10 => (Zbx x2 l6) (i5 + 1) (Z1i n4 x10)
def Zqr (l1 : (List Rule)) : Option Int :=
 (Zos l1).bind fun x2 => Zbx x2 x2 0 0
theorem Yf7 (l1 : (List Rule)) (r : Int) (h : Zqr l1 = some r) : PCon Tryz.prog 117 [rd (Z4 Zy) l1] (rd (Z0 .i64) r) := by
 refine PCon.of (Con.intro0 Tryz.func117 rfl Tryz.ntmps117 rfl fun w H => ?_)
 unfold Zqr at h
 refine SR <| Ak rfl <| Nl <| AW.seq ?_
 obtain ⟨x2, hx2, h⟩ := Z1 h
 refine Rg <| Md rfl <| Cl [7] (Y60 _ _ hx2) Y8z rfl <| As rfl <| Nl <| SR <| Ak rfl <| Nl <| AW.seq <| SR <| Md rfl <| Ac (Z0j rfl rfl Z2h (vt rfl)) rfl <| Mk rfl <| Nl <| AW.block <| AW.loopG (d := []) (ν := (List (Vector Tern 24)) × Nat × Int) (fun n => Sfx x2 n.2.1 n.1 ∧ Zbx x2 n.1 n.2.1 n.2.2 = some r) (fun n => n.1.length) (fun n => [(3, rd (Z4 (Z2 24 Z3)) x2), (4, rd (Z0 .i64) n.2.2), (9, rd (Z4 (Z2 24 Z3)) x2), (10, rd (Z0 .i64) (x2.length : Int)), (11, rd (Z0 .i64) (n.2.1 : Int))]) (fun n => []) (x2, 0, 0) ⟨Sfx.start _, h⟩ ⟨rfl, ⟨rfl, rfl, rfl, rfl, rfl, trivial⟩, trivial⟩ ?_
 rintro ⟨l6, i5, n4⟩ ⟨hsf1, h⟩
 change Sfx x2 i5 l6 at hsf1
 change Zbx x2 l6 i5 n4 = some r at h
 change AW _ _ _ ⟨Zw [(3, rd (Z4 (Z2 24 Z3)) x2), (4, rd (Z0 .i64) n4), (9, rd (Z4 (Z2 24 Z3)) x2), (10, rd (Z0 .i64) (x2.length : Int)), (11, rd (Z0 .i64) (i5 : Int))], Zx [], _⟩
 cases l6 with
 | nil =>
  unfold Zbx at h
  refine SR <| Ac (Zl rfl rfl (vt rfl) (vt rfl)) rfl <| Nl <| AW.seq <| Cn rfl (fun hc => absurd (of_decide_eq_true hc) hsf1.nil) (fun hc => ?_)
  refine AW.exit <| SR <| Md rfl <| As rfl <| Nl <| AW.ret ?_
  obtain rfl := si h
  exact Zg Tryz.results117 rfl (Z6 rfl)
 | cons x7 l6 =>
  unfold Zbx at h
  generalize hgo1 : Zbx x2 l6 = go1 at h
  refine SR <| Ac (Zl rfl rfl (vt rfl) (vt rfl)) rfl <| Nl <| AW.seq <| Cn rfl (fun hc => ?_) (fun hc => absurd hsf1.cons (of_decide_eq_false hc))
  have hlti5 := of_decide_eq_true hc
  refine AW.skip <| AW.seq <| AW.block <| SR <| Md rfl <| Ac (Z0l rfl rfl Z2h (vt rfl) (vt rfl) hsf1.lget) rfl <| Lp1 Zz rfl <| Ct rfl (Zm 7 rfl rfl Z0v) ?_
  rintro _ ⟨g8, rfl⟩
  refine As rfl <| Zh Zz 7 rfl <| Nl ?_
  obtain ⟨s9, hs9, h⟩ := Z1 h
  obtain ⟨x10, hx10, h⟩ := Z1 h
  refine AW.regionAny [⟨[4], [16], [], []⟩, ⟨[6], [17], [7], []⟩, ⟨[3], [18], [], []⟩, ⟨[5], [19], [], []⟩, ⟨[18, 19], [20], [], []⟩, ⟨[17, 20], [21], [], []⟩, ⟨[16, 21], [22], [], []⟩, ⟨[22], [4], [], []⟩] Z06 (by kernel_rfl) <| Zu rfl <| Zq Zz 7 rfl <| Zu rfl <| Zu rfl <| Sc (lo [18, 19] [] rfl fun S hs hr => Zxg hs9 rfl rfl Z2h (vh hs 18 rfl rfl) (vh hs 19 rfl rfl)) rfl <| SCl [17, 20] (Y50 _ _ _ hx10) Y06 rfl <| Sc (lo [16, 21] [] rfl fun S hs hr => Zbg rfl rfl (vh hs 16 rfl rfl) (vh hs 21 rfl rfl)) rfl <| SAs rfl <| Rg <| Ac (Z1t (t := 10) rfl rfl (vt rfl) (vk rfl) (vt rfl) hlti5) rfl <| Md rfl <| Nl ?_
  subst hgo1
  exact ⟨(l6, i5 + 1, (Z1i n4 x10)), Nat.lt_succ_self _, ⟨hsf1.next, h⟩, ⟨rfl, ⟨rfl, rfl, rfl, rfl, rfl, trivial⟩, trivial⟩⟩
def Zqx (s1 : Switch) : Option Int :=
 (Zcd s1).bind fun x3 => (Zqr x3).bind fun x4 => some x4
theorem Y3c (s1 : Switch) (r : Int) (h : Zqx s1 = some r) : PCon Tryz.prog 58 [rd Z0h s1] (rd (Z0 .i64) r) := by
 refine PCon.of (Con.intro0 Tryz.func58 rfl Tryz.ntmps58 rfl fun w H => ?_)
 unfold Zqx at h
 refine SR <| Ct rfl (Zo 2 rfl rfl (vt rfl)) ?_
 rintro _ ⟨g2, rfl⟩
 refine Ak rfl <| Nl <| AW.seq ?_
 obtain ⟨x3, hx3, h⟩ := Z1 h
 obtain ⟨x4, hx4, h⟩ := Z1 h
 refine Rg <| Ld Z3m 2 rfl <| Cl [3] (Zyn _ _ hx3) e25 rfl <| Cl [4] (Yf7 _ _ hx4) Ybm rfl <| As rfl <| Nl <| AW.ret ?_
 obtain rfl := si h
 exact Zg Tryz.results58 rfl (Z6 rfl)
def Z7d (s22 : (List Atom)) (eq3 : (Atom → Atom → Option Bool)) : (List Atom) → Nat → Option Bool
 | [], i4 => some true
 | x6 :: l5, i4 => (lget s22 (i4 : Int)).bind fun e8 => (eq3 x6 e8).bind fun x10 => (bif (!x10) then some false else (Z7d s22 eq3 l5) (i4 + 1))
def Zmf (s11 : (List Atom)) (s22 : (List Atom)) (eq3 : (Atom → Atom → Option Bool)) : Option Bool :=
 (bif (decide ((s11.length : Int) ≠ (s22.length : Int))) then some false else Z7d s22 eq3 s11 0)
theorem Yac (s11 : (List Atom)) (s22 : (List Atom)) (eq3 : (Atom → Atom → Option Bool)) (r : Bool) (h : Zmf s11 s22 eq3 = some r) : PCon Tryz.prog 243 [rd (Z4 Z03) s11, rd (Z4 Z03) s22, fn2 Tryz.prog Z03 Z03 Z8 eq3] (rd Z8 r) := by
 refine PCon.of (Con.intro0 Tryz.func243 rfl Tryz.ntmps243 rfl fun w H => ?_)
 unfold Zmf at h
 refine SR <| Ab rfl <| Nl <| AW.seq <| SR <| Md rfl <| Ac (Z0j rfl rfl Z3t (vt rfl)) rfl <| Md rfl <| Ac (Z0j rfl rfl Z3t (vt rfl)) rfl <| Ac (Z5l rfl rfl (vt rfl) (vt rfl)) rfl <| Nl <| Cn rfl (fun hc => ?_) (fun hc => ?_)
 ·have h := Ze hc h
  refine SR <| Ab rfl <| Nl <| AW.ret ?_
  obtain rfl := si h
  exact Zg Tryz.results243 rfl (Z6 rfl)
 ·have h := Zf hc h
  refine AW.skip <| AW.seq <| SR <| Md rfl <| Ac (Z0j rfl rfl Z3t (vt rfl)) rfl <| Mk rfl <| Nl <| AW.block <| AW.loopG (d := []) (ν := (List Atom) × Nat) (fun n => Sfx s11 n.2 n.1 ∧ Z7d s22 eq3 n.1 n.2 = some r) (fun n => n.1.length) (fun n => [(1, rd (Z4 Z03) s22), (2, fn2 Tryz.prog Z03 Z03 Z8 eq3), (15, rd (Z4 Z03) s11), (16, rd (Z0 .i64) (s11.length : Int)), (17, rd (Z0 .i64) (n.2 : Int))]) (fun n => []) (s11, 0) ⟨Sfx.start _, h⟩ ⟨rfl, ⟨rfl, rfl, rfl, rfl, rfl, trivial⟩, trivial⟩ ?_
  rintro ⟨l5, i4⟩ ⟨hsf1, h⟩
  change Sfx s11 i4 l5 at hsf1
  change Z7d s22 eq3 l5 i4 = some r at h
  change AW _ _ _ ⟨Zw [(1, rd (Z4 Z03) s22), (2, fn2 Tryz.prog Z03 Z03 Z8 eq3), (15, rd (Z4 Z03) s11), (16, rd (Z0 .i64) (s11.length : Int)), (17, rd (Z0 .i64) (i4 : Int))], Zx [], _⟩
  cases l5 with
  | nil =>
   unfold Z7d at h
   refine SR <| Ac (Zl rfl rfl (vt rfl) (vt rfl)) rfl <| Nl <| AW.seq <| Cn rfl (fun hc => absurd (of_decide_eq_true hc) hsf1.nil) (fun hc => ?_)
   refine AW.exit <| SR <| Ab rfl <| Nl <| AW.ret ?_
   obtain rfl := si h
   exact Zg Tryz.results243 rfl (Z6 rfl)
  | cons x6 l5 =>
   unfold Z7d at h
   generalize hgo1 : Z7d s22 eq3 l5 = go1 at h
   refine SR <| Ac (Zl rfl rfl (vt rfl) (vt rfl)) rfl <| Nl <| AW.seq <| Cn rfl (fun hc => ?_) (fun hc => absurd hsf1.cons (of_decide_eq_false hc))
   have hlti4 := of_decide_eq_true hc
   refine AW.skip <| AW.seq <| AW.block <| SR <| Md rfl <| Ac (Z0l rfl rfl Z3t (vt rfl) (vt rfl) hsf1.lget) rfl <| Lp1 Z5t rfl <| Ct rfl (Zm 9 rfl rfl Z4o) ?_
   rintro _ ⟨g7, rfl⟩
   refine As rfl <| Zh Z5t 9 rfl <| Nl <| AW.seq ?_
   obtain ⟨e8, he8, h⟩ := Z1 h
   refine Rg <| Md rfl <| Md rfl <| Ac (Z0l rfl rfl Z3t (vt rfl) (vt rfl) he8) rfl <| Lp1 Z5t rfl <| Ct rfl (Zm 10 rfl rfl Z4o) ?_
   rintro _ ⟨g9, rfl⟩
   refine Zh Z5t 10 rfl <| Nl <| AW.seq ?_
   obtain ⟨x10, hx10, h⟩ := Z1 h
   refine Rg <| Ac (Zs (A := fn2 Tryz.prog Z03 Z03 Z8 eq3) rfl rfl (vt rfl)) rfl <| Ld Z5t 9 rfl <| Ld Z5t 10 rfl <| Ac (Z57 hx10 rfl rfl (vt rfl) (vt rfl) (vt rfl)) rfl <| Ac (Z13 rfl rfl (vt rfl)) rfl <| Nl <| Cn rfl (fun hc => ?_) (fun hc => ?_)
   ·have h := Ze hc h
    refine SR <| Ab rfl <| Nl <| AW.ret ?_
    obtain rfl := si h
    exact Zg Tryz.results243 rfl (Z6 rfl)
   ·have h := Zf hc h
    refine AW.skip <| Rg <| Ac (Z1t (t := 16) rfl rfl (vt rfl) (vk rfl) (vt rfl) hlti4) rfl <| Md rfl <| Nl ?_
    subst hgo1
    exact ⟨(l5, i4 + 1), Nat.lt_succ_self _, ⟨hsf1.next, h⟩, ⟨rfl, ⟨rfl, rfl, rfl, rfl, rfl, trivial⟩, trivial⟩⟩
def Zfl (a1 : Atom) (b2 : Atom) : Option Bool :=
 (Zau a1.Rewrite).bind fun x5 => (Zau b2.Rewrite).bind fun x6 => some (decide ({ a1 with Rewrite := x5 } = { b2 with Rewrite := x6 }))
theorem Yfi (a1 : Atom) (b2 : Atom) (r : Bool) (h : Zfl a1 b2 = some r) : PCon Tryz.prog 244 [rd Z03 a1, rd Z03 b2] (rd Z8 r) := by
 refine PCon.of (Con.intro0 Tryz.func244 rfl Tryz.ntmps244 rfl fun w H => ?_)
 unfold Zfl at h
 refine SR <| Ct rfl (Zo 3 rfl rfl (vt rfl)) ?_
 rintro _ ⟨g3, rfl⟩
 refine Ct rfl (Zo 4 rfl rfl (vt rfl)) ?_
 rintro _ ⟨g4, rfl⟩
 refine Ab rfl <| Nl <| AW.seq ?_
 obtain ⟨x5, hx5, h⟩ := Z1 h
 obtain ⟨x6, hx6, h⟩ := Z1 h
 refine AW.regionAny [⟨[2], [5], [], []⟩, ⟨[5], [6], [3], []⟩, ⟨[6], [7], [], []⟩, ⟨[3], [8], [], []⟩, ⟨[8], [9], [4], []⟩, ⟨[9], [10], [], []⟩, ⟨[2], [11], [], []⟩, ⟨[11, 7], [], [3], [3]⟩, ⟨[3], [12], [], []⟩, ⟨[12, 10], [], [4], [4]⟩] Z06 (by kernel_rfl) <| SFd Za9 Zla rfl <| Zq Z02 3 rfl <| SCl [6] (Zkh _ _ hx5) Zn1 rfl <| SFd Za9 Zla rfl <| Zq Z02 4 rfl <| SCl [9] (Zkh _ _ hx6) Zn1 rfl <| SFd Za9 Zla rfl <| SSt Z02 3 rfl <| SFd Za9 Zla rfl <| SSt Z02 4 rfl <| SR <| Ld Z5t 3 rfl <| Ld Z5t 4 rfl <| Ac (Zlt rfl rfl Y7c (by decide) rfl Y2c (vt rfl) (vt rfl)) rfl <| As rfl <| Nl <| AW.ret ?_
 obtain rfl := si h
 exact Zg Tryz.results244 rfl (Z6 rfl)
def Zhe (a1 : (List Atom)) (b2 : (List Atom)) : Option Bool :=
 (Zmf a1 b2 Zfl).bind fun x3 => some x3
theorem Yd2 (a1 : (List Atom)) (b2 : (List Atom)) (r : Bool) (h : Zhe a1 b2 = some r) : PCon Tryz.prog 181 [rd (Z4 Z03) a1, rd (Z4 Z03) b2] (rd Z8 r) := by
 refine PCon.of (Con.intro0 Tryz.func181 rfl Tryz.ntmps181 rfl fun w H => ?_)
 unfold Zhe at h
 refine SR <| Ab rfl <| Nl <| AW.seq ?_
 obtain ⟨x3, hx3, h⟩ := Z1 h
 refine Rg <| Md rfl <| Md rfl <| Ac (Z0k (xs := [.tmp 5, .tmp 6, .func 244]) (Yac _ _ _ _ hx3) Yem rfl rfl ⟨vt rfl, vt rfl, vf2 Ycz Yfi, trivial⟩) rfl <| As rfl <| Nl <| AW.ret ?_
 obtain rfl := si h
 exact Zg Tryz.results181 rfl (Z6 rfl)
def Zeq (a1 : Rule) (b2 : Rule) : Option Bool :=
 (Z9y a1.Cube).bind fun x5 => (Z9y b2.Cube).bind fun x6 => (opt (decide (x5 = x6)) (Zhe a1.Atoms b2.Atoms)).bind fun x7 => some ((decide (x5 = x6)) && x7)
theorem Y4l (a1 : Rule) (b2 : Rule) (r : Bool) (h : Zeq a1 b2 = some r) : PCon Tryz.prog 114 [rd Zy a1, rd Zy b2] (rd Z8 r) := by
 refine PCon.of (Con.intro0 Tryz.func114 rfl Tryz.ntmps114 rfl fun w H => ?_)
 unfold Zeq at h
 refine SR <| Ct rfl (Zo 3 rfl rfl (vt rfl)) ?_
 rintro _ ⟨g3, rfl⟩
 refine Ct rfl (Zo 4 rfl rfl (vt rfl)) ?_
 rintro _ ⟨g4, rfl⟩
 refine Ab rfl <| Nl <| AW.seq ?_
 obtain ⟨x5, hx5, h⟩ := Z1 h
 obtain ⟨x6, hx6, h⟩ := Z1 h
 obtain ⟨x7, hx7, h⟩ := Z1 h
 refine AW.regionAny [⟨[2], [5], [], []⟩, ⟨[5], [6], [3], []⟩, ⟨[6], [7], [], []⟩, ⟨[3], [8], [], []⟩, ⟨[8], [9], [4], []⟩, ⟨[9], [10], [], []⟩, ⟨[7, 10], [11], [], []⟩, ⟨[11], [12], [], []⟩, ⟨[2, 12], [13], [], []⟩, ⟨[13, 12], [14], [3], []⟩, ⟨[3, 12], [15], [], []⟩, ⟨[15, 12], [16], [4], []⟩, ⟨[14, 16, 12], [17], [], []⟩, ⟨[17, 12], [18], [], []⟩, ⟨[18], [4], [], []⟩] Z06 (by kernel_rfl) <| SFd Z65 Zbj rfl <| Zq Zz 3 rfl <| SCl [6] (Zl7 _ _ hx5) Zn8 rfl <| SFd Z65 Zbj rfl <| Zq Zz 4 rfl <| SCl [9] (Zl7 _ _ hx6) Zn8 rfl <| Sc (lo [7, 10] [] rfl fun S hs hr => Zlt rfl rfl Y47 (by decide) rfl Ycx (vh hs 7 rfl rfl) (vh hs 10 rfl rfl)) rfl <| Zu rfl <| Sc (lg [2, 12] [] rfl fun hq S hs hr => Z1w Z7q rfl rfl Zg3 (vh hs 2 rfl rfl)) rfl <| Sc (lg [13, 12] [3] rfl fun hq S hs hr => Z14 rfl rfl Z79 (Zj ((hs 13 rfl).trans rfl) hq) (i := 3) ((hr 3 rfl).trans rfl)) rfl <| Sc (lg [3, 12] [] rfl fun hq S hs hr => Z1w Z7q rfl rfl Zg3 (vh hs 3 rfl rfl)) rfl <| Sc (lg [15, 12] [4] rfl fun hq S hs hr => Z14 rfl rfl Z79 (Zj ((hs 15 rfl).trans rfl) hq) (i := 4) ((hr 4 rfl).trans rfl)) rfl <| Sc (lg [14, 16, 12] [] rfl fun hq S hs hr => Z0k (xs := [.tmp 14, .tmp 16]) (Yd2 _ _ _ (Z1g hx7 hq)) Y66 rfl rfl ⟨Zj ((hs 14 rfl).trans rfl) hq, Zj ((hs 16 rfl).trans rfl) hq, trivial⟩) rfl <| Sc (lo [17, 12] [] rfl fun S hs hr => Z11 rfl rfl (vh hs 12 rfl rfl) (vh hs 17 rfl rfl)) rfl <| SAs rfl <| AW.ret ?_
 obtain rfl := si h
 exact Zg Tryz.results114 rfl (Z6 rfl)
def Z6x (s22 : (List Group)) (eq3 : (Group → Group → Option Bool)) : (List Group) → Nat → Option Bool
 | [], i4 => some true
 | x6 :: l5, i4 => (lget s22 (i4 : Int)).bind fun e8 => (eq3 x6 e8).bind fun x10 => (bif (!x10) then some false else (Z6x s22 eq3 l5) (i4 + 1))
def Zfw (s11 : (List Group)) (s22 : (List Group)) (eq3 : (Group → Group → Option Bool)) : Option Bool :=
 (bif (decide ((s11.length : Int) ≠ (s22.length : Int))) then some false else Z6x s22 eq3 s11 0)
theorem Y56 (s11 : (List Group)) (s22 : (List Group)) (eq3 : (Group → Group → Option Bool)) (r : Bool) (h : Zfw s11 s22 eq3 = some r) : PCon Tryz.prog 182 [rd (Z4 Z0e) s11, rd (Z4 Z0e) s22, fn2 Tryz.prog Z0e Z0e Z8 eq3] (rd Z8 r) := by
 refine PCon.of (Con.intro0 Tryz.func182 rfl Tryz.ntmps182 rfl fun w H => ?_)
 unfold Zfw at h
 refine SR <| Ab rfl <| Nl <| AW.seq <| SR <| Md rfl <| Ac (Z0j rfl rfl Z3a (vt rfl)) rfl <| Md rfl <| Ac (Z0j rfl rfl Z3a (vt rfl)) rfl <| Ac (Z5l rfl rfl (vt rfl) (vt rfl)) rfl <| Nl <| Cn rfl (fun hc => ?_) (fun hc => ?_)
 ·have h := Ze hc h
  refine SR <| Ab rfl <| Nl <| AW.ret ?_
  obtain rfl := si h
  exact Zg Tryz.results182 rfl (Z6 rfl)
 ·have h := Zf hc h
  refine AW.skip <| AW.seq <| SR <| Md rfl <| Ac (Z0j rfl rfl Z3a (vt rfl)) rfl <| Mk rfl <| Nl <| AW.block <| AW.loopG (d := []) (ν := (List Group) × Nat) (fun n => Sfx s11 n.2 n.1 ∧ Z6x s22 eq3 n.1 n.2 = some r) (fun n => n.1.length) (fun n => [(1, rd (Z4 Z0e) s22), (2, fn2 Tryz.prog Z0e Z0e Z8 eq3), (15, rd (Z4 Z0e) s11), (16, rd (Z0 .i64) (s11.length : Int)), (17, rd (Z0 .i64) (n.2 : Int))]) (fun n => []) (s11, 0) ⟨Sfx.start _, h⟩ ⟨rfl, ⟨rfl, rfl, rfl, rfl, rfl, trivial⟩, trivial⟩ ?_
  rintro ⟨l5, i4⟩ ⟨hsf1, h⟩
  change Sfx s11 i4 l5 at hsf1
  change Z6x s22 eq3 l5 i4 = some r at h
  change AW _ _ _ ⟨Zw [(1, rd (Z4 Z0e) s22), (2, fn2 Tryz.prog Z0e Z0e Z8 eq3), (15, rd (Z4 Z0e) s11), (16, rd (Z0 .i64) (s11.length : Int)), (17, rd (Z0 .i64) (i4 : Int))], Zx [], _⟩
  cases l5 with
  | nil =>
   unfold Z6x at h
   refine SR <| Ac (Zl rfl rfl (vt rfl) (vt rfl)) rfl <| Nl <| AW.seq <| Cn rfl (fun hc => absurd (of_decide_eq_true hc) hsf1.nil) (fun hc => ?_)
   refine AW.exit <| SR <| Ab rfl <| Nl <| AW.ret ?_
   obtain rfl := si h
   exact Zg Tryz.results182 rfl (Z6 rfl)
  | cons x6 l5 =>
   unfold Z6x at h
   generalize hgo1 : Z6x s22 eq3 l5 = go1 at h
   refine SR <| Ac (Zl rfl rfl (vt rfl) (vt rfl)) rfl <| Nl <| AW.seq <| Cn rfl (fun hc => ?_) (fun hc => absurd hsf1.cons (of_decide_eq_false hc))
   have hlti4 := of_decide_eq_true hc
   refine AW.skip <| AW.seq <| AW.block <| SR <| Md rfl <| Ac (Z0l rfl rfl Z3a (vt rfl) (vt rfl) hsf1.lget) rfl <| Lp1 Z40 rfl <| Ct rfl (Zm 9 rfl rfl Za1) ?_
   rintro _ ⟨g7, rfl⟩
   refine As rfl <| Zh Z40 9 rfl <| Nl <| AW.seq ?_
   obtain ⟨e8, he8, h⟩ := Z1 h
   refine Rg <| Md rfl <| Md rfl <| Ac (Z0l rfl rfl Z3a (vt rfl) (vt rfl) he8) rfl <| Lp1 Z40 rfl <| Ct rfl (Zm 10 rfl rfl Za1) ?_
   rintro _ ⟨g9, rfl⟩
   refine Zh Z40 10 rfl <| Nl <| AW.seq ?_
   obtain ⟨x10, hx10, h⟩ := Z1 h
   refine Rg <| Ac (Zs (A := fn2 Tryz.prog Z0e Z0e Z8 eq3) rfl rfl (vt rfl)) rfl <| Ld Z40 9 rfl <| Ld Z40 10 rfl <| Ac (Z57 hx10 rfl rfl (vt rfl) (vt rfl) (vt rfl)) rfl <| Ac (Z13 rfl rfl (vt rfl)) rfl <| Nl <| Cn rfl (fun hc => ?_) (fun hc => ?_)
   ·have h := Ze hc h
    refine SR <| Ab rfl <| Nl <| AW.ret ?_
    obtain rfl := si h
    exact Zg Tryz.results182 rfl (Z6 rfl)
   ·have h := Zf hc h
    refine AW.skip <| Rg <| Ac (Z1t (t := 16) rfl rfl (vt rfl) (vk rfl) (vt rfl) hlti4) rfl <| Md rfl <| Nl ?_
    subst hgo1
    exact ⟨(l5, i4 + 1), Nat.lt_succ_self _, ⟨hsf1.next, h⟩, ⟨rfl, ⟨rfl, rfl, rfl, rfl, rfl, trivial⟩, trivial⟩⟩
end Go.Proofs.YtknpgojdkobgjaaGreat.W
set_option maxRecDepth 4000
namespace Go.Proofs.YtknpgojdkobgjaaGreat.W
open Go Go.Wb
theorem Y3r : Ent Tryz.prog 339 := Ent.mk Tryz.func339 rfl rfl
theorem Y7q : Ent Tryz.prog 340 := Ent.mk Tryz.func340 rfl rfl
theorem Y2y : Ent Tryz.prog 329 := Ent.mk Tryz.func329 rfl rfl
theorem Y81 : Ent Tryz.prog 291 := Ent.mk Tryz.func291 rfl rfl
theorem Y6j : Ent Tryz.prog 292 := Ent.mk Tryz.func292 rfl rfl
theorem Yfg : Ent Tryz.prog 245 := Ent.mk Tryz.func245 rfl rfl
theorem Y5m : Ent Tryz.prog 182 := Ent.mk Tryz.func182 rfl rfl
theorem Yeu : Ent Tryz.prog 183 := Ent.mk Tryz.func183 rfl rfl
theorem Y6y : Ent Tryz.prog 114 := Ent.mk Tryz.func114 rfl rfl
theorem Y69 : Ent Tryz.prog 115 := Ent.mk Tryz.func115 rfl rfl
def Z6k (s22 : (List Bucket)) (eq3 : (Bucket → Bucket → Option Bool)) : (List Bucket) → Nat → Option Bool
 | [], i4 => some true
 | x6 :: l5, i4 => (lget s22 (i4 : Int)).bind fun e8 => (eq3 x6 e8).bind fun x10 => (bif (!x10) then some false else (Z6k s22 eq3 l5) (i4 + 1))
def Zhy (s11 : (List Bucket)) (s22 : (List Bucket)) (eq3 : (Bucket → Bucket → Option Bool)) : Option Bool :=
 (bif (decide ((s11.length : Int) ≠ (s22.length : Int))) then some false else Z6k s22 eq3 s11 0)
theorem Y36 (s11 : (List Bucket)) (s22 : (List Bucket)) (eq3 : (Bucket → Bucket → Option Bool)) (r : Bool) (h : Zhy s11 s22 eq3 = some r) : PCon Tryz.prog 291 [rd (Z4 Z0t) s11, rd (Z4 Z0t) s22, fn2 Tryz.prog Z0t Z0t Z8 eq3] (rd Z8 r) := by
 refine PCon.of (Con.intro0 Tryz.func291 rfl Tryz.ntmps291 rfl fun w H => ?_)
 unfold Zhy at h
 refine SR <| Ab rfl <| Nl <| AW.seq <| SR <| Md rfl <| Ac (Z0j rfl rfl Z53 (vt rfl)) rfl <| Md rfl <| Ac (Z0j rfl rfl Z53 (vt rfl)) rfl <| Ac (Z5l rfl rfl (vt rfl) (vt rfl)) rfl <| Nl <| Cn rfl (fun hc => ?_) (fun hc => ?_)
 ·have h := Ze hc h
  refine SR <| Ab rfl <| Nl <| AW.ret ?_
  obtain rfl := si h
  exact Zg Tryz.results291 rfl (Z6 rfl)
 ·have h := Zf hc h
  refine AW.skip <| AW.seq <| SR <| Md rfl <| Ac (Z0j rfl rfl Z53 (vt rfl)) rfl <| Mk rfl <| Nl <| AW.block <| AW.loopG (d := []) (ν := (List Bucket) × Nat) (fun n => Sfx s11 n.2 n.1 ∧ Z6k s22 eq3 n.1 n.2 = some r) (fun n => n.1.length) (fun n => [(1, rd (Z4 Z0t) s22), (2, fn2 Tryz.prog Z0t Z0t Z8 eq3), (15, rd (Z4 Z0t) s11), (16, rd (Z0 .i64) (s11.length : Int)), (17, rd (Z0 .i64) (n.2 : Int))]) (fun n => []) (s11, 0) ⟨Sfx.start _, h⟩ ⟨rfl, ⟨rfl, rfl, rfl, rfl, rfl, trivial⟩, trivial⟩ ?_
  rintro ⟨l5, i4⟩ ⟨hsf1, h⟩
  change Sfx s11 i4 l5 at hsf1
  change Z6k s22 eq3 l5 i4 = some r at h
  change AW _ _ _ ⟨Zw [(1, rd (Z4 Z0t) s22), (2, fn2 Tryz.prog Z0t Z0t Z8 eq3), (15, rd (Z4 Z0t) s11), (16, rd (Z0 .i64) (s11.length : Int)), (17, rd (Z0 .i64) (i4 : Int))], Zx [], _⟩
  cases l5 with
  | nil =>
   unfold Z6k at h
   refine SR <| Ac (Zl rfl rfl (vt rfl) (vt rfl)) rfl <| Nl <| AW.seq <| Cn rfl (fun hc => absurd (of_decide_eq_true hc) hsf1.nil) (fun hc => ?_)
   refine AW.exit <| SR <| Ab rfl <| Nl <| AW.ret ?_
   obtain rfl := si h
   exact Zg Tryz.results291 rfl (Z6 rfl)
  | cons x6 l5 =>
   unfold Z6k at h
   generalize hgo1 : Z6k s22 eq3 l5 = go1 at h
   refine SR <| Ac (Zl rfl rfl (vt rfl) (vt rfl)) rfl <| Nl <| AW.seq <| Cn rfl (fun hc => ?_) (fun hc => absurd hsf1.cons (of_decide_eq_false hc))
   have hlti4 := of_decide_eq_true hc
   refine AW.skip <| AW.seq <| AW.block <| SR <| Md rfl <| Ac (Z0l rfl rfl Z53 (vt rfl) (vt rfl) hsf1.lget) rfl <| Lp1 Zc0 rfl <| Ct rfl (Zm 9 rfl rfl Zpy) ?_
   rintro _ ⟨g7, rfl⟩
   refine As rfl <| Zh Zc0 9 rfl <| Nl <| AW.seq ?_
   obtain ⟨e8, he8, h⟩ := Z1 h
   refine Rg <| Md rfl <| Md rfl <| Ac (Z0l rfl rfl Z53 (vt rfl) (vt rfl) he8) rfl <| Lp1 Zc0 rfl <| Ct rfl (Zm 10 rfl rfl Zpy) ?_
   rintro _ ⟨g9, rfl⟩
   refine Zh Zc0 10 rfl <| Nl <| AW.seq ?_
   obtain ⟨x10, hx10, h⟩ := Z1 h
   refine Rg <| Ac (Zs (A := fn2 Tryz.prog Z0t Z0t Z8 eq3) rfl rfl (vt rfl)) rfl <| Ld Zc0 9 rfl <| Ld Zc0 10 rfl <| Ac (Z57 hx10 rfl rfl (vt rfl) (vt rfl) (vt rfl)) rfl <| Ac (Z13 rfl rfl (vt rfl)) rfl <| Nl <| Cn rfl (fun hc => ?_) (fun hc => ?_)
   ·have h := Ze hc h
    refine SR <| Ab rfl <| Nl <| AW.ret ?_
    obtain rfl := si h
    exact Zg Tryz.results291 rfl (Z6 rfl)
   ·have h := Zf hc h
    refine AW.skip <| Rg <| Ac (Z1t (t := 16) rfl rfl (vt rfl) (vk rfl) (vt rfl) hlti4) rfl <| Md rfl <| Nl ?_
    subst hgo1
    exact ⟨(l5, i4 + 1), Nat.lt_succ_self _, ⟨hsf1.next, h⟩, ⟨rfl, ⟨rfl, rfl, rfl, rfl, rfl, trivial⟩, trivial⟩⟩
def Z6m (s22 : (List Action)) (eq3 : (Action → Action → Option Bool)) : (List Action) → Nat → Option Bool
 | [], i4 => some true
 | x6 :: l5, i4 => (lget s22 (i4 : Int)).bind fun e8 => (eq3 x6 e8).bind fun x10 => (bif (!x10) then some false else (Z6m s22 eq3 l5) (i4 + 1))
def Zj0 (s11 : (List Action)) (s22 : (List Action)) (eq3 : (Action → Action → Option Bool)) : Option Bool :=
 (bif (decide ((s11.length : Int) ≠ (s22.length : Int))) then some false else Z6m s22 eq3 s11 0)
theorem Y6u (s11 : (List Action)) (s22 : (List Action)) (eq3 : (Action → Action → Option Bool)) (r : Bool) (h : Zj0 s11 s22 eq3 = some r) : PCon Tryz.prog 339 [rd (Z4 Z5) s11, rd (Z4 Z5) s22, fn2 Tryz.prog Z5 Z5 Z8 eq3] (rd Z8 r) := by
 refine PCon.of (Con.intro0 Tryz.func339 rfl Tryz.ntmps339 rfl fun w H => ?_)
 unfold Zj0 at h
 refine SR <| Ab rfl <| Nl <| AW.seq <| SR <| Md rfl <| Ac (Z0j rfl rfl Z0b (vt rfl)) rfl <| Md rfl <| Ac (Z0j rfl rfl Z0b (vt rfl)) rfl <| Ac (Z5l rfl rfl (vt rfl) (vt rfl)) rfl <| Nl <| Cn rfl (fun hc => ?_) (fun hc => ?_)
 ·have h := Ze hc h
  refine SR <| Ab rfl <| Nl <| AW.ret ?_
  obtain rfl := si h
  exact Zg Tryz.results339 rfl (Z6 rfl)
 ·have h := Zf hc h
  refine AW.skip <| AW.seq <| SR <| Md rfl <| Ac (Z0j rfl rfl Z0b (vt rfl)) rfl <| Mk rfl <| Nl <| AW.block <| AW.loopG (d := []) (ν := (List Action) × Nat) (fun n => Sfx s11 n.2 n.1 ∧ Z6m s22 eq3 n.1 n.2 = some r) (fun n => n.1.length) (fun n => [(1, rd (Z4 Z5) s22), (2, fn2 Tryz.prog Z5 Z5 Z8 eq3), (15, rd (Z4 Z5) s11), (16, rd (Z0 .i64) (s11.length : Int)), (17, rd (Z0 .i64) (n.2 : Int))]) (fun n => []) (s11, 0) ⟨Sfx.start _, h⟩ ⟨rfl, ⟨rfl, rfl, rfl, rfl, rfl, trivial⟩, trivial⟩ ?_
  rintro ⟨l5, i4⟩ ⟨hsf1, h⟩
  change Sfx s11 i4 l5 at hsf1
  change Z6m s22 eq3 l5 i4 = some r at h
  change AW _ _ _ ⟨Zw [(1, rd (Z4 Z5) s22), (2, fn2 Tryz.prog Z5 Z5 Z8 eq3), (15, rd (Z4 Z5) s11), (16, rd (Z0 .i64) (s11.length : Int)), (17, rd (Z0 .i64) (i4 : Int))], Zx [], _⟩
  cases l5 with
  | nil =>
   unfold Z6m at h
   refine SR <| Ac (Zl rfl rfl (vt rfl) (vt rfl)) rfl <| Nl <| AW.seq <| Cn rfl (fun hc => absurd (of_decide_eq_true hc) hsf1.nil) (fun hc => ?_)
   refine AW.exit <| SR <| Ab rfl <| Nl <| AW.ret ?_
   obtain rfl := si h
   exact Zg Tryz.results339 rfl (Z6 rfl)
  | cons x6 l5 =>
   unfold Z6m at h
   generalize hgo1 : Z6m s22 eq3 l5 = go1 at h
   refine SR <| Ac (Zl rfl rfl (vt rfl) (vt rfl)) rfl <| Nl <| AW.seq <| Cn rfl (fun hc => ?_) (fun hc => absurd hsf1.cons (of_decide_eq_false hc))
   have hlti4 := of_decide_eq_true hc
   refine AW.skip <| AW.seq <| AW.block <| SR <| Md rfl <| Ac (Z0l rfl rfl Z0b (vt rfl) (vt rfl) hsf1.lget) rfl <| Lp1 Z0m rfl <| Ct rfl (Zm 9 rfl rfl Z3v) ?_
   rintro _ ⟨g7, rfl⟩
   refine As rfl <| Zh Z0m 9 rfl <| Nl <| AW.seq ?_
   obtain ⟨e8, he8, h⟩ := Z1 h
   refine Rg <| Md rfl <| Md rfl <| Ac (Z0l rfl rfl Z0b (vt rfl) (vt rfl) he8) rfl <| Lp1 Z0m rfl <| Ct rfl (Zm 10 rfl rfl Z3v) ?_
   rintro _ ⟨g9, rfl⟩
   refine Zh Z0m 10 rfl <| Nl <| AW.seq ?_
   obtain ⟨x10, hx10, h⟩ := Z1 h
   refine Rg <| Ac (Zs (A := fn2 Tryz.prog Z5 Z5 Z8 eq3) rfl rfl (vt rfl)) rfl <| Ld Z0m 9 rfl <| Ld Z0m 10 rfl <| Ac (Z57 hx10 rfl rfl (vt rfl) (vt rfl) (vt rfl)) rfl <| Ac (Z13 rfl rfl (vt rfl)) rfl <| Nl <| Cn rfl (fun hc => ?_) (fun hc => ?_)
   ·have h := Ze hc h
    refine SR <| Ab rfl <| Nl <| AW.ret ?_
    obtain rfl := si h
    exact Zg Tryz.results339 rfl (Z6 rfl)
   ·have h := Zf hc h
    refine AW.skip <| Rg <| Ac (Z1t (t := 16) rfl rfl (vt rfl) (vk rfl) (vt rfl) hlti4) rfl <| Md rfl <| Nl ?_
    subst hgo1
    exact ⟨(l5, i4 + 1), Nat.lt_succ_self _, ⟨hsf1.next, h⟩, ⟨rfl, ⟨rfl, rfl, rfl, rfl, rfl, trivial⟩, trivial⟩⟩
def Zms (a1 : Action) (b2 : Action) : Option Bool :=
 some (decide (a1 = b2))
theorem Y1a (a1 : Action) (b2 : Action) (r : Bool) (h : Zms a1 b2 = some r) : PCon Tryz.prog 340 [rd Z5 a1, rd Z5 b2] (rd Z8 r) := by
 refine PCon.of (Con.intro0 Tryz.func340 rfl Tryz.ntmps340 rfl fun w H => ?_)
 unfold Zms at h
 refine SR <| Ct rfl (Zo 3 rfl rfl (vt rfl)) ?_
 rintro _ ⟨g3, rfl⟩
 refine Ct rfl (Zo 4 rfl rfl (vt rfl)) ?_
 rintro _ ⟨g4, rfl⟩
 refine Ab rfl <| Nl <| SR <| Ld Z0m 3 rfl <| Ld Z0m 4 rfl <| Ac (Zlt rfl rfl Y4j (by decide) rfl Zzz (vt rfl) (vt rfl)) rfl <| As rfl <| Nl <| AW.ret ?_
 obtain rfl := si h
 exact Zg Tryz.results340 rfl (Z6 rfl)
def Ziv (a1 : (List Action)) (b2 : (List Action)) : Option Bool :=
 (Zj0 a1 b2 Zms).bind fun x3 => some x3
theorem Y4z (a1 : (List Action)) (b2 : (List Action)) (r : Bool) (h : Ziv a1 b2 = some r) : PCon Tryz.prog 329 [rd (Z4 Z5) a1, rd (Z4 Z5) b2] (rd Z8 r) := by
 refine PCon.of (Con.intro0 Tryz.func329 rfl Tryz.ntmps329 rfl fun w H => ?_)
 unfold Ziv at h
 refine SR <| Ab rfl <| Nl <| AW.seq ?_
 obtain ⟨x3, hx3, h⟩ := Z1 h
 refine Rg <| Md rfl <| Md rfl <| Ac (Z0k (xs := [.tmp 5, .tmp 6, .func 340]) (Y6u _ _ _ _ hx3) Y3r rfl rfl ⟨vt rfl, vt rfl, vf2 Y7q Y1a, trivial⟩) rfl <| As rfl <| Nl <| AW.ret ?_
 obtain rfl := si h
 exact Zg Tryz.results329 rfl (Z6 rfl)
def Zcu (a1 : Bucket) (b2 : Bucket) : Option Bool :=
 (opt (((decide (a1.Weight = b2.Weight)) && (decide (a1.Watch = b2.Watch))) && (decide (a1.WatchGroup = b2.WatchGroup))) (Ziv a1.Acts b2.Acts)).bind fun x5 => some ((((decide (a1.Weight = b2.Weight)) && (decide (a1.Watch = b2.Watch))) && (decide (a1.WatchGroup = b2.WatchGroup))) && x5)
theorem Y63 (a1 : Bucket) (b2 : Bucket) (r : Bool) (h : Zcu a1 b2 = some r) : PCon Tryz.prog 292 [rd Z0t a1, rd Z0t b2] (rd Z8 r) := by
 refine PCon.of (Con.intro0 Tryz.func292 rfl Tryz.ntmps292 rfl fun w H => ?_)
 unfold Zcu at h
 refine SR <| Ct rfl (Zo 3 rfl rfl (vt rfl)) ?_
 rintro _ ⟨g3, rfl⟩
 refine Ct rfl (Zo 4 rfl rfl (vt rfl)) ?_
 rintro _ ⟨g4, rfl⟩
 refine Ab rfl <| Nl <| AW.seq ?_
 obtain ⟨x5, hx5, h⟩ := Z1 h
 refine Rg <| Zp Znd Zwh rfl <| Ld Zv 3 rfl <| Zp Znd Zwh rfl <| Ld Zv 4 rfl <| Ac (Z0i rfl rfl (vt rfl) (vt rfl)) rfl <| Md rfl <| Gd rfl (fun hq => Z1w Zqk rfl rfl Zy2 (vt rfl)) <| Gd rfl (fun hq => Z14 rfl rfl Zv (Zj rfl hq) (i := 3) rfl) <| Gd rfl (fun hq => Z1w Zqk rfl rfl Zy2 (vt rfl)) <| Gd rfl (fun hq => Z14 rfl rfl Zv (Zj rfl hq) (i := 4) rfl) <| Gd rfl (fun hq => Z0i rfl rfl (Zj rfl hq) (Zj rfl hq)) <| Ac (Z11 rfl rfl (vt rfl) (vt rfl)) rfl <| Md rfl <| Gd rfl (fun hq => Z1w Zp7 rfl rfl Zys (vt rfl)) <| Gd rfl (fun hq => Z14 rfl rfl Zv (Zj rfl hq) (i := 3) rfl) <| Gd rfl (fun hq => Z1w Zp7 rfl rfl Zys (vt rfl)) <| Gd rfl (fun hq => Z14 rfl rfl Zv (Zj rfl hq) (i := 4) rfl) <| Gd rfl (fun hq => Z0i rfl rfl (Zj rfl hq) (Zj rfl hq)) <| Ac (Z11 rfl rfl (vt rfl) (vt rfl)) rfl <| Md rfl <| Gd rfl (fun hq => Z1w Zew rfl rfl Zid (vt rfl)) <| Gd rfl (fun hq => Z14 rfl rfl Z4b (Zj rfl hq) (i := 3) rfl) <| Gd rfl (fun hq => Z1w Zew rfl rfl Zid (vt rfl)) <| Gd rfl (fun hq => Z14 rfl rfl Z4b (Zj rfl hq) (i := 4) rfl) <| Gd rfl (fun hq => Z0k (xs := [.tmp 26, .tmp 28]) (Y4z _ _ _ (Z1g hx5 hq)) Y2y rfl rfl ⟨Zj rfl hq, Zj rfl hq, trivial⟩) <| Ac (Z11 rfl rfl (vt rfl) (vt rfl)) rfl <| As rfl <| Nl <| AW.ret ?_
 obtain rfl := si h
 exact Zg Tryz.results292 rfl (Z6 rfl)
def Zfu (a1 : (List Bucket)) (b2 : (List Bucket)) : Option Bool :=
 (Zhy a1 b2 Zcu).bind fun x3 => some x3
theorem Y3z (a1 : (List Bucket)) (b2 : (List Bucket)) (r : Bool) (h : Zfu a1 b2 = some r) : PCon Tryz.prog 245 [rd (Z4 Z0t) a1, rd (Z4 Z0t) b2] (rd Z8 r) := by
 refine PCon.of (Con.intro0 Tryz.func245 rfl Tryz.ntmps245 rfl fun w H => ?_)
 unfold Zfu at h
 refine SR <| Ab rfl <| Nl <| AW.seq ?_
 obtain ⟨x3, hx3, h⟩ := Z1 h
 refine Rg <| Md rfl <| Md rfl <| Ac (Z0k (xs := [.tmp 5, .tmp 6, .func 292]) (Y36 _ _ _ _ hx3) Y81 rfl rfl ⟨vt rfl, vt rfl, vf2 Y6j Y63, trivial⟩) rfl <| As rfl <| Nl <| AW.ret ?_
 obtain rfl := si h
 exact Zg Tryz.results245 rfl (Z6 rfl)
def Zex (a1 : Group) (b2 : Group) : Option Bool :=
 (opt ((decide (a1.ID = b2.ID)) && (decide (a1.Kind = b2.Kind))) (Zfu a1.Buckets b2.Buckets)).bind fun x5 => some (((decide (a1.ID = b2.ID)) && (decide (a1.Kind = b2.Kind))) && x5)
theorem Y29 (a1 : Group) (b2 : Group) (r : Bool) (h : Zex a1 b2 = some r) : PCon Tryz.prog 183 [rd Z0e a1, rd Z0e b2] (rd Z8 r) := by
 refine PCon.of (Con.intro0 Tryz.func183 rfl Tryz.ntmps183 rfl fun w H => ?_)
 unfold Zex at h
 refine SR <| Ct rfl (Zo 3 rfl rfl (vt rfl)) ?_
 rintro _ ⟨g3, rfl⟩
 refine Ct rfl (Zo 4 rfl rfl (vt rfl)) ?_
 rintro _ ⟨g4, rfl⟩
 refine Ab rfl <| Nl <| AW.seq ?_
 obtain ⟨x5, hx5, h⟩ := Z1 h
 refine Rg <| Zp Zft Zmo rfl <| Ld Zv 3 rfl <| Zp Zft Zmo rfl <| Ld Zv 4 rfl <| Ac (Z0i rfl rfl (vt rfl) (vt rfl)) rfl <| Md rfl <| Gd rfl (fun hq => Z1w Zr6 rfl rfl Zxh (vt rfl)) <| Gd rfl (fun hq => Z14 rfl rfl Zv (Zj rfl hq) (i := 3) rfl) <| Gd rfl (fun hq => Z1w Zr6 rfl rfl Zxh (vt rfl)) <| Gd rfl (fun hq => Z14 rfl rfl Zv (Zj rfl hq) (i := 4) rfl) <| Gd rfl (fun hq => Z0i rfl rfl (Zj rfl hq) (Zj rfl hq)) <| Ac (Z11 rfl rfl (vt rfl) (vt rfl)) rfl <| Md rfl <| Gd rfl (fun hq => Z1w Zcw rfl rfl Zgt (vt rfl)) <| Gd rfl (fun hq => Z14 rfl rfl Zgg (Zj rfl hq) (i := 3) rfl) <| Gd rfl (fun hq => Z1w Zcw rfl rfl Zgt (vt rfl)) <| Gd rfl (fun hq => Z14 rfl rfl Zgg (Zj rfl hq) (i := 4) rfl) <| Gd rfl (fun hq => Z0k (xs := [.tmp 19, .tmp 21]) (Y3z _ _ _ (Z1g hx5 hq)) Yfg rfl rfl ⟨Zj rfl hq, Zj rfl hq, trivial⟩) <| Ac (Z11 rfl rfl (vt rfl) (vt rfl)) rfl <| As rfl <| Nl <| AW.ret ?_
 obtain rfl := si h
 exact Zg Tryz.results183 rfl (Z6 rfl)
def Zjy (a1 : (List Group)) (b2 : (List Group)) : Option Bool :=
 (Zfw a1 b2 Zex).bind fun x3 => some x3
theorem Y8q (a1 : (List Group)) (b2 : (List Group)) (r : Bool) (h : Zjy a1 b2 = some r) : PCon Tryz.prog 115 [rd (Z4 Z0e) a1, rd (Z4 Z0e) b2] (rd Z8 r) := by
 refine PCon.of (Con.intro0 Tryz.func115 rfl Tryz.ntmps115 rfl fun w H => ?_)
 unfold Zjy at h
 refine SR <| Ab rfl <| Nl <| AW.seq ?_
 obtain ⟨x3, hx3, h⟩ := Z1 h
 refine Rg <| Md rfl <| Md rfl <| Ac (Z0k (xs := [.tmp 5, .tmp 6, .func 183]) (Y56 _ _ _ _ hx3) Y5m rfl rfl ⟨vt rfl, vt rfl, vf2 Yeu Y29, trivial⟩) rfl <| As rfl <| Nl <| AW.ret ?_
 obtain rfl := si h
 exact Zg Tryz.results115 rfl (Z6 rfl)
def Zbp (a1 : Flat) (b2 : Flat) : Option Bool :=
 (Zi6 a1.Rules b2.Rules Zeq).bind fun x5 => (opt x5 (Zjy a1.Groups b2.Groups)).bind fun x6 => some (x5 && x6)
theorem Zr2 (a1 : Flat) (b2 : Flat) (r : Bool) (h : Zbp a1 b2 = some r) : PCon Tryz.prog 56 [rd Zaw a1, rd Zaw b2] (rd Z8 r) := by
 refine PCon.of (Con.intro0 Tryz.func56 rfl Tryz.ntmps56 rfl fun w H => ?_)
 unfold Zbp at h
 refine SR <| Ct rfl (Zo 3 rfl rfl (vt rfl)) ?_
 rintro _ ⟨g3, rfl⟩
 refine Ct rfl (Zo 4 rfl rfl (vt rfl)) ?_
 rintro _ ⟨g4, rfl⟩
 refine Ab rfl <| Nl <| AW.seq ?_
 obtain ⟨x5, hx5, h⟩ := Z1 h
 obtain ⟨x6, hx6, h⟩ := Z1 h
 refine Rg <| Zp Zce Zgn rfl <| Ld Zjv 3 rfl <| Zp Zce Zgn rfl <| Ld Zjv 4 rfl <| Ac (Z0k (xs := [.tmp 6, .tmp 8, .func 114]) (Y0g _ _ _ _ hx5) e81 rfl rfl ⟨vt rfl, vt rfl, vf2 Y6y Y4l, trivial⟩) rfl <| Md rfl <| Gd rfl (fun hq => Z1w Zix rfl rfl Zoi (vt rfl)) <| Gd rfl (fun hq => Z14 rfl rfl Zh2 (Zj rfl hq) (i := 3) rfl) <| Gd rfl (fun hq => Z1w Zix rfl rfl Zoi (vt rfl)) <| Gd rfl (fun hq => Z14 rfl rfl Zh2 (Zj rfl hq) (i := 4) rfl) <| Gd rfl (fun hq => Z0k (xs := [.tmp 12, .tmp 14]) (Y8q _ _ _ (Z1g hx6 hq)) Y69 rfl rfl ⟨Zj rfl hq, Zj rfl hq, trivial⟩) <| Ac (Z11 rfl rfl (vt rfl) (vt rfl)) rfl <| As rfl <| Nl <| AW.ret ?_
 obtain rfl := si h
 exact Zg Tryz.results56 rfl (Z6 rfl)
end Go.Proofs.YtknpgojdkobgjaaGreat.W
set_option maxRecDepth 4000
namespace Go.Proofs.YtknpgojdkobgjaaGreat.W
open Go Go.Wb
theorem e54 : Ent Tryz.prog 54 := Ent.mk Tryz.func54 rfl rfl
theorem e58 : Ent Tryz.prog 58 := Ent.mk Tryz.func58 rfl rfl
theorem e56 : Ent Tryz.prog 56 := Ent.mk Tryz.func56 rfl rfl
def Zec : Option Bool :=
 (Zas { { (⟨(Vector.replicate 4 []), []⟩ : Switch) with Tables := (Vector.set ((⟨(Vector.replicate 4 []), []⟩ : Switch).Tables) (⟨0, by decide⟩ : _root_.Fin 4).1 [(⟨0, 0, 0, 0, 0, [], [(⟨1, 3, Z05, Z05, []⟩ : Inst)]⟩ : Flow)] (⟨0, by decide⟩ : _root_.Fin 4).2) } with Tables := (Vector.set ({ (⟨(Vector.replicate 4 []), []⟩ : Switch) with Tables := (Vector.set ((⟨(Vector.replicate 4 []), []⟩ : Switch).Tables) (⟨0, by decide⟩ : _root_.Fin 4).1 [(⟨0, 0, 0, 0, 0, [], [(⟨1, 3, Z05, Z05, []⟩ : Inst)]⟩ : Flow)] (⟨0, by decide⟩ : _root_.Fin 4).2) }.Tables) (⟨3, by decide⟩ : _root_.Fin 4).1 [(⟨0, 1, 0, 0, 0, [], [(⟨4, 0, Z05, Z05, [(⟨0, 9, 0, 0, 0, Z36⟩ : Action)]⟩ : Inst)]⟩ : Flow), (⟨0, 2, 0, 0, 0, [], []⟩ : Flow)] (⟨3, by decide⟩ : _root_.Fin 4).2) } 100).bind fun x2 => (Zas { { (⟨(Vector.replicate 4 []), []⟩ : Switch) with Tables := (Vector.set ((⟨(Vector.replicate 4 []), []⟩ : Switch).Tables) (⟨0, by decide⟩ : _root_.Fin 4).1 [(⟨0, 0, 0, 0, 0, [], [(⟨1, 3, Z05, Z05, []⟩ : Inst)]⟩ : Flow)] (⟨0, by decide⟩ : _root_.Fin 4).2) } with Tables := (Vector.set ({ (⟨(Vector.replicate 4 []), []⟩ : Switch) with Tables := (Vector.set ((⟨(Vector.replicate 4 []), []⟩ : Switch).Tables) (⟨0, by decide⟩ : _root_.Fin 4).1 [(⟨0, 0, 0, 0, 0, [], [(⟨1, 3, Z05, Z05, []⟩ : Inst)]⟩ : Flow)] (⟨0, by decide⟩ : _root_.Fin 4).2) }.Tables) (⟨3, by decide⟩ : _root_.Fin 4).1 [(⟨0, 1, 0, 0, 0, [], [(⟨4, 0, Z05, Z05, [(⟨0, 9, 0, 0, 0, Z36⟩ : Action)]⟩ : Inst)]⟩ : Flow), (⟨0, 2, 0, 0, 0, [], []⟩ : Flow)] (⟨3, by decide⟩ : _root_.Fin 4).2) } 0).bind fun x4 => (opt ((decide (x2.2 = 0)) && (decide ((x2.1.Rules.length : Int) = 1))) (lget x2.1.Rules 0)).bind fun e6 => (opt ((((decide (x2.2 = 0)) && (decide ((x2.1.Rules.length : Int) = 1))) && (decide ((e6.Atoms.length : Int) = 0))) && (decide (x4.2 = 5))) (Zqx { { (⟨(Vector.replicate 4 []), []⟩ : Switch) with Tables := (Vector.set ((⟨(Vector.replicate 4 []), []⟩ : Switch).Tables) (⟨0, by decide⟩ : _root_.Fin 4).1 [(⟨0, 0, 0, 0, 0, [], [(⟨1, 3, Z05, Z05, []⟩ : Inst)]⟩ : Flow)] (⟨0, by decide⟩ : _root_.Fin 4).2) } with Tables := (Vector.set ({ (⟨(Vector.replicate 4 []), []⟩ : Switch) with Tables := (Vector.set ((⟨(Vector.replicate 4 []), []⟩ : Switch).Tables) (⟨0, by decide⟩ : _root_.Fin 4).1 [(⟨0, 0, 0, 0, 0, [], [(⟨1, 3, Z05, Z05, []⟩ : Inst)]⟩ : Flow)] (⟨0, by decide⟩ : _root_.Fin 4).2) }.Tables) (⟨3, by decide⟩ : _root_.Fin 4).1 [(⟨0, 1, 0, 0, 0, [], [(⟨4, 0, Z05, Z05, [(⟨0, 9, 0, 0, 0, Z36⟩ : Action)]⟩ : Inst)]⟩ : Flow), (⟨0, 2, 0, 0, 0, [], []⟩ : Flow)] (⟨3, by decide⟩ : _root_.Fin 4).2) })).bind fun x7 => (opt (((((decide (x2.2 = 0)) && (decide ((x2.1.Rules.length : Int) = 1))) && (decide ((e6.Atoms.length : Int) = 0))) && (decide (x4.2 = 5))) && (decide (x7 ≥ 1))) (Zbp x2.1 x2.1)).bind fun x8 => (opt ((((((decide (x2.2 = 0)) && (decide ((x2.1.Rules.length : Int) = 1))) && (decide ((e6.Atoms.length : Int) = 0))) && (decide (x4.2 = 5))) && (decide (x7 ≥ 1))) && x8) (Zbp x2.1 (⟨[], []⟩ : Flat))).bind fun x9 => some (((((((decide (x2.2 = 0)) && (decide ((x2.1.Rules.length : Int) = 1))) && (decide ((e6.Atoms.length : Int) = 0))) && (decide (x4.2 = 5))) && (decide (x7 ≥ 1))) && x8) && (!x9))
theorem Zp2 (r : Bool) (h : Zec = some r) : PCon Tryz.prog 53 [] (rd Z8 r) := by
 refine PCon.of (Con.intro0 Tryz.func53 rfl Tryz.ntmps53 rfl fun w H => ?_)
 unfold Zec at h
 refine SR <| Ab rfl <| Nl <| SR <| Ac (Z01 (ps := []) (x := (⟨(Vector.replicate 4 []), []⟩ : Switch)) rfl rfl rfl (by kernel_rfl) Zsw rfl) rfl <| Ct rfl (Zm 2 rfl rfl Zsw) ?_
 rintro _ ⟨g1, rfl⟩
 refine Zh Z3m 2 rfl <| Nl <| SR <| Ac (Z01 (ps := [(0, .const (Value.int IntKind.i64 1)), (1, .const (Value.int IntKind.i64 3))]) (x := (⟨1, 3, Z05, Z05, []⟩ : Inst)) rfl rfl rfl (by kernel_rfl) Z3e ⟨_, _, Zhb, _, by kernel_rfl, (vk rfl), _, _, Zak, _, by kernel_rfl, (vk rfl), rfl⟩) rfl <| Ac (Z2o (ps := [(0, .tmp 7)]) (l := [(⟨1, 3, Z05, Z05, []⟩ : Inst)]) rfl rfl Z7w Z3e rfl rfl ⟨_, _, Lens.idx 1 Z0u 0 (by decide), _, rfl, (vt rfl), rfl⟩ rfl) rfl <| Ac (Z01 (ps := [(6, .tmp 8)]) (x := (⟨0, 0, 0, 0, 0, [], [(⟨1, 3, Z05, Z05, []⟩ : Inst)]⟩ : Flow)) rfl rfl rfl (by kernel_rfl) Zca ⟨_, _, Z6p, _, by kernel_rfl, (vt rfl), rfl⟩) rfl <| Ac (Z2o (ps := [(0, .tmp 9)]) (l := [(⟨0, 0, 0, 0, 0, [], [(⟨1, 3, Z05, Z05, []⟩ : Inst)]⟩ : Flow)]) rfl rfl Z44 Zca rfl rfl ⟨_, _, Lens.idx 1 Z0d 0 (by decide), _, rfl, (vt rfl), rfl⟩ rfl) rfl <| Zp Za6 Zbo rfl <| Ac (Z15 rfl rfl Zb0 (vt rfl) (vk rfl) rfl) rfl <| Zh Z59 2 rfl <| Nl <| SR <| Ac (Z01 (ps := [(0, .const (Value.int IntKind.i64 0)), (1, .const (Value.int IntKind.i64 9))]) (x := (⟨0, 9, 0, 0, 0, Z36⟩ : Action)) rfl rfl rfl (by kernel_rfl) Z3v ⟨_, _, Z45, _, by kernel_rfl, (vk rfl), _, _, Zgk, _, by kernel_rfl, (vk rfl), rfl⟩) rfl <| Ac (Z2o (ps := [(0, .tmp 13)]) (l := [(⟨0, 9, 0, 0, 0, Z36⟩ : Action)]) rfl rfl Z0b Z3v rfl rfl ⟨_, _, Lens.idx 1 Z5 0 (by decide), _, rfl, (vt rfl), rfl⟩ rfl) rfl <| Ac (Z01 (ps := [(0, .const (Value.int IntKind.i64 4)), (4, .tmp 14)]) (x := (⟨4, 0, Z05, Z05, [(⟨0, 9, 0, 0, 0, Z36⟩ : Action)]⟩ : Inst)) rfl rfl rfl (by kernel_rfl) Z3e ⟨_, _, Zhb, _, by kernel_rfl, (vk rfl), _, _, Z8l, _, by kernel_rfl, (vt rfl), rfl⟩) rfl <| Ac (Z2o (ps := [(0, .tmp 15)]) (l := [(⟨4, 0, Z05, Z05, [(⟨0, 9, 0, 0, 0, Z36⟩ : Action)]⟩ : Inst)]) rfl rfl Z7w Z3e rfl rfl ⟨_, _, Lens.idx 1 Z0u 0 (by decide), _, rfl, (vt rfl), rfl⟩ rfl) rfl <| Ac (Z01 (ps := [(1, .const (Value.int IntKind.i64 1)), (6, .tmp 16)]) (x := (⟨0, 1, 0, 0, 0, [], [(⟨4, 0, Z05, Z05, [(⟨0, 9, 0, 0, 0, Z36⟩ : Action)]⟩ : Inst)]⟩ : Flow)) rfl rfl rfl (by kernel_rfl) Zca ⟨_, _, Z8w, _, by kernel_rfl, (vk rfl), _, _, Z6p, _, by kernel_rfl, (vt rfl), rfl⟩) rfl <| Ac (Z01 (ps := [(1, .const (Value.int IntKind.i64 2))]) (x := (⟨0, 2, 0, 0, 0, [], []⟩ : Flow)) rfl rfl rfl (by kernel_rfl) Zca ⟨_, _, Z8w, _, by kernel_rfl, (vk rfl), rfl⟩) rfl <| Ac (Z2o (ps := [(0, .tmp 17), (1, .tmp 18)]) (l := [(⟨0, 1, 0, 0, 0, [], [(⟨4, 0, Z05, Z05, [(⟨0, 9, 0, 0, 0, Z36⟩ : Action)]⟩ : Inst)]⟩ : Flow), (⟨0, 2, 0, 0, 0, [], []⟩ : Flow)]) rfl rfl Z44 Zca rfl rfl ⟨_, _, Lens.idx 2 Z0d 0 (by decide), _, rfl, (vt rfl), _, _, Lens.idx 2 Z0d 1 (by decide), _, rfl, (vt rfl), rfl⟩ rfl) rfl <| Zp Za6 Zbo rfl <| Ac (Z15 rfl rfl Zb0 (vt rfl) (vk rfl) rfl) rfl <| Zh Z59 2 rfl <| Nl <| AW.seq ?_
 obtain ⟨x2, hx2, h⟩ := Z1 h
 refine Rg <| Ld Z3m 2 rfl <| Ac (Z0k (xs := [.tmp 23, .const (Value.int IntKind.i64 100)]) (Zmt _ _ _ hx2) e54 rfl rfl ⟨vt rfl, vk rfl, trivial⟩) rfl <| Mt2 rfl <| Ac (Z1p rfl rfl (vt rfl)) rfl <| Ac (Z1q rfl rfl (vt rfl)) rfl <| Ct rfl (Zm 3 rfl rfl Zae) ?_
 rintro _ ⟨g3, rfl⟩
 refine Zh Z54 3 rfl <| As rfl <| Nl <| AW.seq ?_
 obtain ⟨x4, hx4, h⟩ := Z1 h
 refine Rg <| Ld Z3m 2 rfl <| Ac (Z0k (xs := [.tmp 28, .const (Value.int IntKind.i64 0)]) (Zmt _ _ _ hx4) e54 rfl rfl ⟨vt rfl, vk rfl, trivial⟩) rfl <| Mt2 rfl <| Ac (Z1p rfl rfl (vt rfl)) rfl <| Ac (Z1q rfl rfl (vt rfl)) rfl <| Ct rfl (Zm 5 rfl rfl Zae) ?_
 rintro _ ⟨g5, rfl⟩
 refine Zh Z54 5 rfl <| As rfl <| Nl <| AW.seq ?_
 obtain ⟨e6, he6, h⟩ := Z1 h
 obtain ⟨x7, hx7, h⟩ := Z1 h
 obtain ⟨x8, hx8, h⟩ := Z1 h
 obtain ⟨x9, hx9, h⟩ := Z1 h
 refine Rg <| Md rfl <| Ac (Z0i rfl rfl (vt rfl) (vk rfl)) rfl <| Md rfl <| Gd rfl (fun hq => Z1w Zce rfl rfl Zgn (vt rfl)) <| Gd rfl (fun hq => Z14 rfl rfl Zjv (Zj rfl hq) (i := 3) rfl) <| Gd rfl (fun hq => Z0j rfl rfl Z26 (Zj rfl hq)) <| Gd rfl (fun hq => Z0i rfl rfl (Zj rfl hq) (vk rfl)) <| Ac (Z11 rfl rfl (vt rfl) (vt rfl)) rfl <| Md rfl <| Gd rfl (fun hq => Z1w Zce rfl rfl Zgn (vt rfl)) <| Gd rfl (fun hq => Z14 rfl rfl Zjv (Zj rfl hq) (i := 3) rfl) <| Gd rfl (fun hq => Z0l rfl rfl Z26 (Zj rfl hq) (vk rfl) (Z1g he6 hq)) <| Gd rfl (fun hq => Z6f Z7q rfl rfl Zg3 (Zj rfl hq)) <| Gd rfl (fun hq => Z9f rfl rfl Z79 (Zj rfl hq)) <| Gd rfl (fun hq => Z0j rfl rfl Z3t (Zj rfl hq)) <| Gd rfl (fun hq => Z0i rfl rfl (Zj rfl hq) (vk rfl)) <| Ac (Z11 rfl rfl (vt rfl) (vt rfl)) rfl <| Md rfl <| Gd rfl (fun hq => Zs (A := rd (Z0 .i64) x4.2) rfl rfl (vt rfl)) <| Gd rfl (fun hq => Z0i rfl rfl (Zj rfl hq) (vk rfl)) <| Ac (Z11 rfl rfl (vt rfl) (vt rfl)) rfl <| Md rfl <| Gd rfl (fun hq => Z14 rfl rfl Z3m (vt rfl) (i := 2) rfl) <| Gd rfl (fun hq => Z0k (xs := [.tmp 54]) (Y3c _ _ (Z1g hx7 hq)) e58 rfl rfl ⟨Zj rfl hq, trivial⟩) <| Gd rfl (fun hq => Z5q rfl rfl (Zj rfl hq) (vk rfl)) <| Ac (Z11 rfl rfl (vt rfl) (vt rfl)) rfl <| Md rfl <| Gd rfl (fun hq => Z14 rfl rfl Z54 (vt rfl) (i := 3) rfl) <| Gd rfl (fun hq => Z14 rfl rfl Z54 (vt rfl) (i := 3) rfl) <| Gd rfl (fun hq => Z0k (xs := [.tmp 59, .tmp 60]) (Zr2 _ _ _ (Z1g hx8 hq)) e56 rfl rfl ⟨Zj rfl hq, Zj rfl hq, trivial⟩) <| Ac (Z11 rfl rfl (vt rfl) (vt rfl)) rfl <| Md rfl <| Gd rfl (fun hq => Z14 rfl rfl Z54 (vt rfl) (i := 3) rfl) <| Gd rfl (fun hq => Z01 (ps := []) (x := (⟨[], []⟩ : Flat)) rfl rfl rfl (by kernel_rfl) Zae rfl) <| Gd rfl (fun hq => Z0k (xs := [.tmp 64, .tmp 65]) (Zr2 _ _ _ (Z1g hx9 hq)) e56 rfl rfl ⟨Zj rfl hq, Zj rfl hq, trivial⟩) <| Gd rfl (fun hq => Z13 rfl rfl (Zj rfl hq)) <| Ac (Z11 rfl rfl (vt rfl) (vt rfl)) rfl <| As rfl <| Nl <| AW.ret ?_
 obtain rfl := si h
 exact Zg Tryz.results53 rfl (Z6 rfl)
end Go.Proofs.YtknpgojdkobgjaaGreat.W
set_option maxRecDepth 4000
namespace Go.Proofs.YtknpgojdkobgjaaGreat.W
open Go Go.Wb
theorem e52 : Ent Tryz.prog 52 := Ent.mk Tryz.func52 rfl rfl
theorem e53 : Ent Tryz.prog 53 := Ent.mk Tryz.func53 rfl rfl
end Go.Proofs.YtknpgojdkobgjaaGreat.W
set_option maxRecDepth 4000
namespace Go.Proofs.YtknpgojdkobgjaaGreat.W
open Go Go.Wb
theorem e39 : Ent Tryz.prog 39 := Ent.mk Tryz.func39 rfl rfl
def Zei (s1 : Switch) (most2 : Int) (more3 : Int) : Option Bool :=
 (Zme s1 (IntKind.i64.wrap ((IntKind.i64.wrap most2) + (IntKind.i64.wrap more3)))).bind fun x5 => (bif (!x5) then (Zec).bind fun x6 => some x6 else (Zas s1 (IntKind.i64.wrap most2)).bind fun x7 => (bif (decide (x7.2 ≠ 0)) then (opt ((decide (x7.2 = 5)) && (decide ((IntKind.i64.wrap ((x7.1.Rules.length : Int) + (x7.1.Groups.length : Int))) = 0))) (Zec)).bind fun x9 => some (((decide (x7.2 = 5)) && (decide ((IntKind.i64.wrap ((x7.1.Rules.length : Int) + (x7.1.Groups.length : Int))) = 0))) && x9) else (Zas s1 (IntKind.i64.wrap ((IntKind.i64.wrap most2) + (IntKind.i64.wrap more3)))).bind fun x10 => (opt (decide (x10.2 = 0)) (Zbp x7.1 x10.1)).bind fun x12 => (opt ((decide (x10.2 = 0)) && x12) (Zec)).bind fun x13 => some (((decide (x10.2 = 0)) && x12) && x13)))
theorem Yde (s1 : Switch) (most2 : Int) (more3 : Int) (r : Bool) (h : Zei s1 most2 more3 = some r) : PCon Tryz.prog 13 [rd Z0h s1, rd (Z0 .u16) most2, rd (Z0 .u16) more3] (rd Z8 r) := by
 refine PCon.of (Con.intro0 Tryz.func13 rfl Tryz.ntmps13 rfl fun w H => ?_)
 unfold Zei at h
 refine SR <| Ct rfl (Zo 4 rfl rfl (vt rfl)) ?_
 rintro _ ⟨g4, rfl⟩
 refine Ab rfl <| Nl <| AW.seq <| AW.seq ?_
 obtain ⟨x5, hx5, h⟩ := Z1 h
 refine Rg <| Ld Z3m 4 rfl <| Md rfl <| Ac (Zfz rfl rfl Zj9 un3 (vt rfl)) rfl <| Md rfl <| Ac (Zfz rfl rfl Zj9 un3 (vt rfl)) rfl <| Ac (Z08 rfl rfl (vt rfl) (vt rfl)) rfl <| Cl [11, 16] (Ydf _ _ _ hx5) e52 rfl <| Ac (Z13 rfl rfl (vt rfl)) rfl <| Nl <| Cn rfl (fun hc => ?_) (fun hc => ?_)
 ·have h := Ze hc h
  refine AW.seq ?_
  obtain ⟨x6, hx6, h⟩ := Z1 h
  refine Rg <| Cl [] (Zp2 _ hx6) e53 rfl <| As rfl <| Nl <| AW.ret ?_
  obtain rfl := si h
  exact Zg Tryz.results13 rfl (Z6 rfl)
 ·have h := Zf hc h
  refine AW.skip <| AW.seq ?_
  obtain ⟨x7, hx7, h⟩ := Z1 h
  refine Rg <| Ld Z3m 4 rfl <| Md rfl <| Ac (Zfz rfl rfl Zj9 un3 (vt rfl)) rfl <| Cl [21, 23] (Zmt _ _ _ hx7) e54 rfl <| Mt2 rfl <| Ac (Z1p rfl rfl (vt rfl)) rfl <| Ac (Z1q rfl rfl (vt rfl)) rfl <| Ct rfl (Zm 8 rfl rfl Zae) ?_
  rintro _ ⟨g8, rfl⟩
  refine Zh Z54 8 rfl <| As rfl <| Nl <| AW.seq <| SR <| Md rfl <| Ac (Z5l rfl rfl (vt rfl) (vk rfl)) rfl <| Nl <| Cn rfl (fun hc => ?_) (fun hc => ?_)
  ·have h := Ze hc h
   refine AW.seq ?_
   obtain ⟨x9, hx9, h⟩ := Z1 h
   refine Rg <| Md rfl <| Ac (Z0i rfl rfl (vt rfl) (vk rfl)) rfl <| Md rfl <| Gd rfl (fun hq => Z1w Zce rfl rfl Zgn (vt rfl)) <| Gd rfl (fun hq => Z14 rfl rfl Zjv (Zj rfl hq) (i := 8) rfl) <| Gd rfl (fun hq => Z0j rfl rfl Z26 (Zj rfl hq)) <| Gd rfl (fun hq => Z1w Zix rfl rfl Zoi (vt rfl)) <| Gd rfl (fun hq => Z14 rfl rfl Zh2 (Zj rfl hq) (i := 8) rfl) <| Gd rfl (fun hq => Z0j rfl rfl Z3a (Zj rfl hq)) <| Gd rfl (fun hq => Z08 rfl rfl (Zj rfl hq) (Zj rfl hq)) <| Gd rfl (fun hq => Z0i rfl rfl (Zj rfl hq) (vk rfl)) <| Ac (Z11 rfl rfl (vt rfl) (vt rfl)) rfl <| Md rfl <| Gd rfl (fun hq => Z0k (xs := []) (Zp2 _ (Z1g hx9 hq)) e53 rfl rfl trivial) <| Ac (Z11 rfl rfl (vt rfl) (vt rfl)) rfl <| As rfl <| Nl <| AW.ret ?_
   obtain rfl := si h
   exact Zg Tryz.results13 rfl (Z6 rfl)
  ·have h := Zf hc h
   refine AW.skip <| AW.seq ?_
   obtain ⟨x10, hx10, h⟩ := Z1 h
   refine Rg <| Ld Z3m 4 rfl <| Md rfl <| Ac (Zfz rfl rfl Zj9 un3 (vt rfl)) rfl <| Md rfl <| Ac (Zfz rfl rfl Zj9 un3 (vt rfl)) rfl <| Ac (Z08 rfl rfl (vt rfl) (vt rfl)) rfl <| Cl [45, 50] (Zmt _ _ _ hx10) e54 rfl <| Mt2 rfl <| Ac (Z1p rfl rfl (vt rfl)) rfl <| Ac (Z1q rfl rfl (vt rfl)) rfl <| Ct rfl (Zm 10 rfl rfl Zae) ?_
   rintro _ ⟨g11, rfl⟩
   refine Zh Z54 10 rfl <| As rfl <| Nl <| AW.seq ?_
   obtain ⟨x12, hx12, h⟩ := Z1 h
   obtain ⟨x13, hx13, h⟩ := Z1 h
   refine Rg <| Md rfl <| Ac (Z0i rfl rfl (vt rfl) (vk rfl)) rfl <| Md rfl <| Gd rfl (fun hq => Z14 rfl rfl Z54 (vt rfl) (i := 8) rfl) <| Gd rfl (fun hq => Z14 rfl rfl Z54 (vt rfl) (i := 10) rfl) <| Gd rfl (fun hq => Z0k (xs := [.tmp 57, .tmp 58]) (Zr2 _ _ _ (Z1g hx12 hq)) e56 rfl rfl ⟨Zj rfl hq, Zj rfl hq, trivial⟩) <| Ac (Z11 rfl rfl (vt rfl) (vt rfl)) rfl <| Md rfl <| Gd rfl (fun hq => Z0k (xs := []) (Zp2 _ (Z1g hx13 hq)) e53 rfl rfl trivial) <| Ac (Z11 rfl rfl (vt rfl) (vt rfl)) rfl <| As rfl <| Nl <| AW.ret ?_
   obtain rfl := si h
   exact Zg Tryz.results13 rfl (Z6 rfl)
end Go.Proofs.YtknpgojdkobgjaaGreat.W
set_option maxRecDepth 4000
namespace Go.Proofs.YtknpgojdkobgjaaGreat.W
open Go Go.Wb
end Go.Proofs.YtknpgojdkobgjaaGreat.W
set_option maxRecDepth 4000
namespace Go.Proofs.YtknpgojdkobgjaaGreat.W
open Go Go.Wb
end Go.Proofs.YtknpgojdkobgjaaGreat.W
set_option maxRecDepth 4000
namespace Go.Proofs.YtknpgojdkobgjaaGreat.W
open Go Go.Wb
theorem e42 : Ent Tryz.prog 42 := Ent.mk Tryz.func42 rfl rfl
theorem e41 : Ent Tryz.prog 41 := Ent.mk Tryz.func41 rfl rfl
end Go.Proofs.YtknpgojdkobgjaaGreat.W
set_option maxRecDepth 4000
namespace Go.Proofs.YtknpgojdkobgjaaGreat.W
open Go Go.Wb
end Go.Proofs.YtknpgojdkobgjaaGreat.W
