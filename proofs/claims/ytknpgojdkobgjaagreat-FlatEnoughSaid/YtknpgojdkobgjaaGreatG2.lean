/- A part of the proof. -/
import Derived.Test.YtknpgojdkobgjaaGreatG1
set_option linter.unusedVariables false
set_option maxRecDepth 4000
set_option linter.unusedSimpArgs false
namespace Go.Proofs.YtknpgojdkobgjaaGreat.W
open Go Go.Wb
theorem Zws : Ent Tryz.prog 318 := Ent.mk Tryz.func318 rfl rfl
theorem Zu1 : Ent Tryz.prog 320 := Ent.mk Tryz.func320 rfl rfl
theorem Y5e : Ent Tryz.prog 317 := Ent.mk Tryz.func317 rfl rfl
theorem Y4y : Ent Tryz.prog 278 := Ent.mk Tryz.func278 rfl rfl
theorem Zy9 : Ent Tryz.prog 279 := Ent.mk Tryz.func279 rfl rfl
theorem e70 : Ent Tryz.prog 70 := Ent.mk Tryz.func70 rfl rfl
theorem Y5n : Ent Tryz.prog 280 := Ent.mk Tryz.func280 rfl rfl
theorem Zo6 : Ent Tryz.prog 235 := Ent.mk Tryz.func235 rfl rfl
theorem Y0f : Ent Tryz.prog 240 := Ent.mk Tryz.func240 rfl rfl
theorem Zzo : Ent Tryz.prog 179 := Ent.mk Tryz.func179 rfl rfl
theorem Zxf : Ent Tryz.prog 170 := Ent.mk Tryz.func170 rfl rfl
theorem Zxq : Ent Tryz.prog 288 := Ent.mk Tryz.func288 rfl rfl
def Z7s (sg : Type) (go1 : Nat → (Vector Tern 24) → (Lp sg) → Option (Lp sg)) (i14 : Nat) (x16 : Tern) (yield1 : (sg → (Vector Tern 24) → Option (Lp sg))) : (List Int) → Nat → (Vector Tern 24) → (Lp sg) → Option (Lp sg)
 | [], i24, b22, s23 => go1 (i14 + 1) b22 s23
 | x26 :: l25, i24, b22, s23 => (Zd0 x16.Value x26).bind fun x27 => (chk 24 (i14 : Int)).bind fun j29 => (Zc7 (Vector.get b22 j29) x26 (!x27)).bind fun x30 => (chk 24 (i14 : Int)).bind fun j31 => (yc yield1 s23 (Vector.set b22 j31.1 x30 j31.2)).bind fun s32 => (bif (!(Lp.isGo s32)) then some s32 else (chk 24 (i14 : Int)).bind fun j33 => (Zc7 (Vector.get b22 j33) x26 x27).bind fun x34 => (chk 24 (i14 : Int)).bind fun j35 => (Z7s sg go1 i14 x16 yield1 l25) (i24 + 1) (Vector.set b22 j35.1 x34 j35.2) s32)
def Z6o (sg : Type) (yield1 : (sg → (Vector Tern 24) → Option (Lp sg))) : (List Tern) → Nat → (Vector Tern 24) → (Lp sg) → Option (Lp sg)
 | [], i14, b12, s13 => some s13
 | x16 :: l15, i14, b12, s13 => (chk 24 (i14 : Int)).bind fun j18 => (Zgf (Vector.get b12 j18) x16).bind fun x19 => (bif (decide ((x19.length : Int) = 0)) then (Z6o sg yield1 l15) (i14 + 1) b12 s13 else Z7s sg (Z6o sg yield1 l15) i14 x16 yield1 x19 0 b12 s13)
def Z97 (sg : Type) (yield1 : (sg → (Vector Tern 24) → Option (Lp sg))) (s2 : (Lp sg)) (cp3 : (Vector Tern 24)) (cp4 : (Vector Tern 24)) : Option (Lp sg) :=
 (Z92 cp3).bind fun x5 => (Z7b cp3 cp4).bind fun x7 => (bif (!x7.2) then (yc yield1 s2 x5).bind fun s9 => some s9 else Z6o sg yield1 (Vector.toList cp4) 0 x5 s2)
theorem Y65 (sg : Type) (yield1 : (sg → (Vector Tern 24) → Option (Lp sg))) (L : Lp sg → Zp) (s2 : (Lp sg)) (cp3 : (Vector Tern 24)) (cp4 : (Vector Tern 24)) (r : (Lp sg)) (h : Z97 sg yield1 s2 cp3 cp4 = some r) : Con Tryz.prog 317 [ydA Tryz.prog (Z3 24 Z4) yield1 L, rp (Z3 24 Z4) cp3, rp (Z3 24 Z4) cp4] (L s2) (fun _ : Unit => top) (fun _ => L r) := by
 refine Con.intro Tryz.func317 rfl Tryz.ntmps317 rfl fun w H X => ?_
 unfold Z97 at h
 refine AW.scope <| AW.seq ?_
 obtain ⟨x5, hx5, h⟩ := Z1 h
 refine Rg <| Lp1 Z01 rfl <| Cl [14] (Zh2 _ _ hx5) Zhj rfl <| Ct rfl (Zo 5 rfl rfl Z1j) ?_
 rintro _ ⟨g6, rfl⟩
 refine Zh Z01 5 rfl <| Nl <| AW.seq <| AW.seq ?_
 obtain ⟨x7, hx7, h⟩ := Z1 h
 refine Rg <| Lp1 Z01 rfl <| Lp1 Z01 rfl <| Cl [17, 18] (Zii _ _ _ hx7) Zja rfl <| Mt2 rfl <| Ac (Z28 rfl rfl (vt rfl)) rfl <| Ac (Z25 rfl rfl (vt rfl)) rfl <| Ct rfl (Zo 6 rfl rfl Z1j) ?_
 rintro _ ⟨g8, rfl⟩
 refine Zh Z01 6 rfl <| As rfl <| Nl <| SR <| Md rfl <| Ac (Z0x rfl rfl (vt rfl)) rfl <| Nl <| Cn rfl (fun hc => ?_) (fun hc => ?_)
 ·have h := Zj hc h
  refine AW.seq ?_
  obtain ⟨s9, hs9, h⟩ := Z1 h
  refine Rg <| Ac (Zq (A := ydA Tryz.prog (Z3 24 Z4) yield1 L) rfl rfl (vt rfl)) rfl <| Ld Z01 5 rfl <| Ac (Zia 0 hs9 rfl rfl (vt rfl) (vt rfl) rfl) rfl <| Nl <| AW.ret ?_
  obtain rfl := si h
  exact Z1t (i := 0) Tryz.results317 rfl rfl
 ·have h := Zk hc h
  refine AW.skip <| AW.seq <| AW.label <| SR <| Lp1 Z01 rfl <| Mk rfl <| Nl <| AW.block <| AW.loopG (d := []) (ν := (List Tern) × Nat × (Vector Tern 24) × (Lp sg)) (fun n => Sfx (Vector.toList cp4) n.2.1 n.1 ∧ Z6o sg yield1 n.1 n.2.1 n.2.2.1 n.2.2.2 = some r) (fun n => n.1.length) (fun n => [(0, ydA Tryz.prog (Z3 24 Z4) yield1 L), (4, Zb g6 (Lens.id (Z3 24 Z4))), (27, rd (Z3 24 Z4) cp4), (28, rd (Z0 .i64) (n.2.1 : Int))]) (fun n => [(0, L n.2.2.2), (5, Zd g6 87 (Z3 24 Z4) n.2.2.1)]) ((Vector.toList cp4), 0, x5, s2) ⟨Sfx.start _, h⟩ ⟨rfl, ⟨rfl, rfl, rfl, rfl, trivial⟩, ⟨rfl, rfl, trivial⟩⟩ ?_
  rintro ⟨l15, i14, b12, s13⟩ ⟨hsf1, h⟩
  change Sfx (Vector.toList cp4) i14 l15 at hsf1
  change Z6o sg yield1 l15 i14 b12 s13 = some r at h
  change AW _ _ _ ⟨Zw [(0, ydA Tryz.prog (Z3 24 Z4) yield1 L), (4, Zb g6 (Lens.id (Z3 24 Z4))), (27, rd (Z3 24 Z4) cp4), (28, rd (Z0 .i64) (i14 : Int))], Zx [(0, L s13), (5, Zd g6 87 (Z3 24 Z4) b12)], _⟩
  cases l15 with
  | nil =>
   unfold Z6o at h
   refine SR <| Ac (Zi rfl rfl (vt rfl) (vk rfl)) rfl <| Nl <| AW.seq <| Cn rfl (fun hc => absurd (of_decide_eq_true hc) (hsf1.niln (by simp))) (fun hc => ?_)
   refine AW.exit ?_
   obtain rfl := si h
   exact Z1t (i := 0) Tryz.results317 rfl rfl
  | cons x16 l15 =>
   unfold Z6o at h
   generalize hgo1 : Z6o sg yield1 l15 = go1 at h
   refine SR <| Ac (Zi rfl rfl (vt rfl) (vk rfl)) rfl <| Nl <| AW.seq <| Cn rfl (fun hc => ?_) (fun hc => absurd (hsf1.consn (by simp)) (of_decide_eq_false hc))
   have hlti14 := of_decide_eq_true hc
   refine AW.skip <| AW.seq <| AW.block <| SR <| Md rfl <| Ac (Z8i rfl rfl Z2j Zz (vt rfl) (vt rfl) hsf1.lget) rfl <| Ct rfl (Zo 9 rfl rfl Z1k) ?_
   rintro _ ⟨g17, rfl⟩
   refine As rfl <| Zh Zz 9 rfl <| Nl <| AW.seq ?_
   obtain ⟨j18, hj18, h⟩ := Z1 h
   obtain ⟨x19, hx19, h⟩ := Z1 h
   refine AW.regionAny [⟨[7], [32], [], []⟩, ⟨[4, 32], [33], [], []⟩, ⟨[33], [34], [5], []⟩, ⟨[8], [35], [9], []⟩, ⟨[34, 35], [36], [], []⟩, ⟨[36], [9], [], []⟩] Z05 (by kernel_rfl) <| SMd rfl <| Sc (lo [4, 32] [] rfl fun S hs hr => Z2o rfl rfl Z2j (vh hs 4 rfl rfl) (vh hs 32 rfl rfl) hj18) rfl <| SLd Zz 5 rfl <| SLd Zz 9 rfl <| SCl [34, 35] (Y7h _ _ _ hx19) Zws rfl <| SAs rfl <| AW.seq <| SR <| Md rfl <| Ac (Z0k rfl rfl Z14 (vt rfl)) rfl <| Ac (Z1l rfl rfl (vt rfl) (vk rfl)) rfl <| Nl <| Cn rfl (fun hc => ?_) (fun hc => ?_)
   ·have h := Zj hc h
    refine AW.exit <| Rg <| Ac (Z5q rfl rfl (vt rfl) (vk rfl) rfl hlti14) rfl <| Md rfl <| Nl ?_
    subst hgo1
    exact ⟨(l15, i14 + 1, b12, s13), Nat.lt_succ_self _, ⟨hsf1.next, h⟩, ⟨rfl, ⟨rfl, rfl, rfl, rfl, trivial⟩, ⟨rfl, rfl, trivial⟩⟩⟩
   ·have h := Zk hc h
    refine AW.skip <| SR <| Md rfl <| Ac (Z0k rfl rfl Z14 (vt rfl)) rfl <| Mk rfl <| Nl <| AW.block <| AW.loopG (d := []) (ν := (List Int) × Nat × (Vector Tern 24) × (Lp sg)) (fun n => Sfx x19 n.2.1 n.1 ∧ Z7s sg go1 i14 x16 yield1 n.1 n.2.1 n.2.2.1 n.2.2.2 = some r) (fun n => n.1.length) (fun n => [(0, ydA Tryz.prog (Z3 24 Z4) yield1 L), (4, Zb g6 (Lens.id (Z3 24 Z4))), (7, rd (Z0 .i64) (i14 : Int)), (8, Zb g17 (Lens.id Z4)), (27, rd (Z3 24 Z4) cp4), (28, rd (Z0 .i64) (i14 : Int)), (40, rd (Z2 (Z0 .i64)) x19), (41, rd (Z0 .i64) (x19.length : Int)), (42, rd (Z0 .i64) (n.2.1 : Int))]) (fun n => [(0, L n.2.2.2), (5, Zd g6 87 (Z3 24 Z4) n.2.2.1), (9, Zd g17 85 Z4 x16)]) (x19, 0, b12, s13) ⟨Sfx.start _, h⟩ ⟨rfl, ⟨rfl, rfl, rfl, rfl, rfl, rfl, rfl, rfl, rfl, trivial⟩, ⟨rfl, rfl, rfl, trivial⟩⟩ ?_
    rintro ⟨l25, i24, b22, s23⟩ ⟨hsf2, h⟩
    change Sfx x19 i24 l25 at hsf2
    change Z7s sg go1 i14 x16 yield1 l25 i24 b22 s23 = some r at h
    change AW _ _ _ ⟨Zw [(0, ydA Tryz.prog (Z3 24 Z4) yield1 L), (4, Zb g6 (Lens.id (Z3 24 Z4))), (7, rd (Z0 .i64) (i14 : Int)), (8, Zb g17 (Lens.id Z4)), (27, rd (Z3 24 Z4) cp4), (28, rd (Z0 .i64) (i14 : Int)), (40, rd (Z2 (Z0 .i64)) x19), (41, rd (Z0 .i64) (x19.length : Int)), (42, rd (Z0 .i64) (i24 : Int))], Zx [(0, L s23), (5, Zd g6 87 (Z3 24 Z4) b22), (9, Zd g17 85 Z4 x16)], _⟩
    cases l25 with
    | nil =>
     unfold Z7s at h
     refine SR <| Ac (Zi rfl rfl (vt rfl) (vt rfl)) rfl <| Nl <| AW.seq <| Cn rfl (fun hc => absurd (of_decide_eq_true hc) hsf2.nil) (fun hc => ?_)
     refine AW.exit <| Rg <| Ac (Z5q rfl rfl (vt rfl) (vk rfl) rfl hlti14) rfl <| Md rfl <| Nl ?_
     subst hgo1
     exact ⟨(l15, i14 + 1, b22, s23), Nat.lt_succ_self _, ⟨hsf1.next, h⟩, ⟨rfl, ⟨rfl, rfl, rfl, rfl, trivial⟩, ⟨rfl, rfl, trivial⟩⟩⟩
    | cons x26 l25 =>
     unfold Z7s at h
     generalize hgo2 : Z7s sg go1 i14 x16 yield1 l25 = go2 at h
     refine SR <| Ac (Zi rfl rfl (vt rfl) (vt rfl)) rfl <| Nl <| AW.seq <| Cn rfl (fun hc => ?_) (fun hc => absurd hsf2.cons (of_decide_eq_false hc))
     have hlti24 := of_decide_eq_true hc
     refine AW.skip <| AW.seq <| AW.block <| SR <| Ac (Z10 rfl rfl Z14 (vt rfl) (vt rfl) hsf2.lget) rfl <| Lp1 Zu rfl <| As rfl <| Nl <| AW.seq ?_
     obtain ⟨x27, hx27, h⟩ := Z1 h
     refine Rg <| Zt Z1p Z38 rfl <| Ld Z00 9 rfl <| Md rfl <| Cl [47, 48] (Zr3 _ _ _ hx27) Zuv rfl <| As rfl <| Nl <| SR <| Ld Z01 5 rfl <| Ct rfl (Zo 14 rfl rfl Z1j) ?_
     rintro _ ⟨g28, rfl⟩
     refine Zh Z01 14 rfl <| Nl <| AW.seq ?_
     obtain ⟨j29, hj29, h⟩ := Z1 h
     obtain ⟨x30, hx30, h⟩ := Z1 h
     obtain ⟨j31, hj31, h⟩ := Z1 h
     refine Rg <| Md rfl <| Md rfl <| Ac (Z2o rfl rfl Z2j (vt rfl) (vt rfl) hj29) rfl <| Ld Zz 5 rfl <| Md rfl <| Md rfl <| Ac (Z0x rfl rfl (vt rfl)) rfl <| Cl [54, 55, 57] (Zou _ _ _ _ hx30) Zu1 rfl <| Ac (Z2o rfl rfl Z2j (vt rfl) (vt rfl) hj31) rfl <| Zh Zz 14 rfl <| Nl <| AW.seq <| AW.seq ?_
     obtain ⟨s32, hs32, h⟩ := Z1 h
     refine Rg <| Ac (Zq (A := ydA Tryz.prog (Z3 24 Z4) yield1 L) rfl rfl (vt rfl)) rfl <| Ld Z01 14 rfl <| Ac (Zia 0 hs32 rfl rfl (vt rfl) (vt rfl) rfl) rfl <| Ac (Z0x rfl rfl (vt rfl)) rfl <| Nl <| Cn rfl (fun hc => ?_) (fun hc => ?_)
     ·have h := Zj hc h
      refine AW.exit ?_
      obtain rfl := si h
      exact Z1t (i := 0) Tryz.results317 rfl rfl
     ·have h := Zk hc h
      refine AW.skip ?_
      obtain ⟨j33, hj33, h⟩ := Z1 h
      obtain ⟨x34, hx34, h⟩ := Z1 h
      obtain ⟨j35, hj35, h⟩ := Z1 h
      refine Rg <| Md rfl <| Md rfl <| Ac (Z2o rfl rfl Z2j (vt rfl) (vt rfl) hj33) rfl <| Ld Zz 5 rfl <| Md rfl <| Md rfl <| Cl [67, 68, 69] (Zou _ _ _ _ hx34) Zu1 rfl <| Ac (Z2o rfl rfl Z2j (vt rfl) (vt rfl) hj35) rfl <| Zh Zz 5 rfl <| Nl <| Rg <| Ac (Z17 (t := 41) rfl rfl (vt rfl) (vk rfl) (vt rfl) hlti24) rfl <| Md rfl <| Nl ?_
      subst hgo2
      exact ⟨(l25, i24 + 1, (Vector.set b22 j35.1 x34 j35.2), s32), Nat.lt_succ_self _, ⟨hsf2.next, h⟩, ⟨rfl, ⟨rfl, rfl, rfl, rfl, rfl, rfl, rfl, rfl, rfl, trivial⟩, ⟨rfl, rfl, rfl, trivial⟩⟩⟩
def Zgy (a1 : (Vector Tern 24)) (b2 : (Vector Tern 24)) : Option (Itr (Vector Tern 24)) :=
 some (Itr.mk fun σ y s => Z97 σ y s a1 b2)
theorem Y6k (a1 : (Vector Tern 24)) (b2 : (Vector Tern 24)) (r : (Itr (Vector Tern 24))) (h : Zgy a1 b2 = some r) : PCon Tryz.prog 280 [rd (Z3 24 Z4) a1, rd (Z3 24 Z4) b2] (Z4e Tryz.prog (Z3 24 Z4) r) := by
 refine PCon.of (Con.intro0 Tryz.func280 rfl Tryz.ntmps280 rfl fun w H => ?_)
 unfold Zgy at h
 refine SR <| Ct rfl (Zs 3 rfl rfl (vt rfl)) ?_
 rintro _ ⟨g3, rfl⟩
 refine Ct rfl (Zs 4 rfl rfl (vt rfl)) ?_
 rintro _ ⟨g4, rfl⟩
 refine Ac (Z0j (A := Za .nilFunc) rfl rfl vc) rfl <| Nl <| AW.seq <| AW.freezeB 2 3 rfl rfl rfl <| AW.freezeB 3 4 rfl rfl rfl <| Rg <| Ac (Zrz (Itr.mk fun σ y s => Z97 σ y s a1 b2) (cs := [.tmp 2, .tmp 3]) (CAs := [rp (Z3 24 Z4) a1, rp (Z3 24 Z4) b2]) rfl rfl Y5e ⟨vt rfl, vt rfl, trivial⟩ (fun σ y L s r h => Y65 σ y L s a1 b2 r h)) rfl <| Ac (Z0j (A := Z4e Tryz.prog (Z3 24 Z4) (Itr.mk fun σ y s => Z97 σ y s a1 b2)) rfl rfl (vt rfl)) rfl <| Nl <| AW.ret ?_
 obtain rfl := si h
 exact Zg Tryz.results280 rfl (Zf rfl)
def Z7r (l4 : (List (Vector Tern 24))) (x10 : (Bool × Int)) (R_cover_look_at : (cover_look → (Vector Tern 24) → (List (Vector Tern 24)) → Option ((Vector Wide 24) × Bool × Bool × cover_look))) (b18 : cover_look) (b19 : (Vector Wide 24)) (b20 : Bool) (b21 : Bool) (x23 : (Vector Tern 24)) : Option (Lp (cover_look × (Vector Wide 24) × Bool × Bool)) :=
 (Z58 l4 (IntKind.i64.wrap (x10.2 + 1))).bind fun s25 => (R_cover_look_at b18 x23 s25).bind fun b26 => (bif (b26.2.1 || (!b26.2.2.1)) then some (.out (.exit 1) (b26.2.2.2, b26.1, b26.2.1, b26.2.2.1)) else some (.go (b26.2.2.2, b26.1, b26.2.1, b26.2.2.1)))
def Zdr (R_cover_look_at : (cover_look → (Vector Tern 24) → (List (Vector Tern 24)) → Option ((Vector Wide 24) × Bool × Bool × cover_look))) (s1 : cover_look) (cu3 : (Vector Tern 24)) (l4 : (List (Vector Tern 24))) : Option ((Vector Wide 24) × Bool × Bool × cover_look) :=
 (Zfk s1.purse).bind fun b9 => (bif (!b9.1) then some ((Vector.replicate 24 Zy), false, false, { s1 with purse := b9.2 }) else (Zit cu3 l4).bind fun x10 => (bif x10.1 then some ((Vector.replicate 24 Zy), false, true, { s1 with purse := b9.2 }) else (bif (decide (x10.2 < 0)) then (Zfd cu3).bind fun x12 => some (x12, true, true, { s1 with purse := b9.2 }) else (lget l4 x10.2).bind fun e16 => (Zgy cu3 e16).bind fun x17 => (Itr.run x17 (cover_look × (Vector Wide 24) × Bool × Bool) (fun s x => Z7r l4 x10 R_cover_look_at s.1 s.2.1 s.2.2.1 s.2.2.2 x) (.go ({ s1 with purse := b9.2 }, (Vector.replicate 24 Zy), false, true))).bind fun z22 => Zx9 z22 (fun s27 => some (s27.2.1, s27.2.2.1, s27.2.2.2, s27.1)) (fun c s27 => bif Zjb 1 c then some (s27.2.1, s27.2.2.1, s27.2.2.2, s27.1) else none))))
theorem Y6j (R_cover_look_at : (cover_look → (Vector Tern 24) → (List (Vector Tern 24)) → Option ((Vector Wide 24) × Bool × Bool × cover_look))) (hR_cover_look_at : ∀ (g2 gT : Nat) (s1 : cover_look) (cu3 : (Vector Tern 24)) (l4 : (List (Vector Tern 24))) (r : ((Vector Wide 24) × Bool × Bool × cover_look)), R_cover_look_at s1 cu3 l4 = some r → Con Tryz.prog 235 [Zb g2 (Lens.id Z15), rd (Z3 24 Z4) cu3, rd (Z2 (Z3 24 Z4)) l4] (Zd g2 gT Z15 s1) (fun _ : Unit => Z2w (rd (Z3 24 Zn) r.1) (rd Z6 r.2.1) (rd Z6 r.2.2.1)) (fun _ => Zd g2 gT Z15 r.2.2.2)) (g2 gT : Nat) (s1 : cover_look) (cu3 : (Vector Tern 24)) (l4 : (List (Vector Tern 24))) (r : ((Vector Wide 24) × Bool × Bool × cover_look)) (h : Zdr R_cover_look_at s1 cu3 l4 = some r) : Con Tryz.prog 235 [Zb g2 (Lens.id Z15), rd (Z3 24 Z4) cu3, rd (Z2 (Z3 24 Z4)) l4] (Zd g2 gT Z15 s1) (fun _ : Unit => Z2w (rd (Z3 24 Zn) r.1) (rd Z6 r.2.1) (rd Z6 r.2.2.1)) (fun _ => Zd g2 gT Z15 r.2.2.2) := by
 refine Con.intro Tryz.func235 rfl Tryz.ntmps235 rfl fun w H X => ?_
 unfold Zdr at h
 refine SR <| Ct rfl (Zs 4 rfl rfl (vkp (vt rfl))) ?_
 rintro _ ⟨g5, rfl⟩
 refine Ct rfl (Zs 5 rfl rfl (vt rfl)) ?_
 rintro _ ⟨g6, rfl⟩
 refine Ct rfl (Zs 6 rfl rfl (vt rfl)) ?_
 rintro _ ⟨g7, rfl⟩
 refine Ct rfl (Zo 7 rfl rfl Z6u) ?_
 rintro _ ⟨g8, rfl⟩
 refine Ab rfl <| Ab rfl <| Nl <| AW.scope <| AW.seq <| AW.seq ?_
 obtain ⟨b9, hb9, h⟩ := Z1 h
 refine Rg <| Ac (Zrb (A := Zb g2 (Lens.id Z15)) rfl rfl rfl (Zqo _) (vt rfl) (i := 4) rfl) rfl <| Nc rfl <| Zt Zm4 Y0w rfl <| Ct rfl (Z12 0 (xs := [.tmp 17]) (Y5z _ _ _ _ hb9) Y4y rfl rfl ⟨vt rfl, trivial⟩ rfl) ?_
 rintro _ ⟨_u, rfl⟩
 refine AOps.told 0 (Zd g2 gT Z15 { s1 with purse := b9.2 }) rfl <| Ac (Z0x rfl rfl (vt rfl)) rfl <| Nl <| Cn rfl (fun hc => ?_) (fun hc => ?_)
 ·have h := Zj hc h
  refine SR <| Ac (Z03 (ps := []) (x := (Vector.replicate 24 Zy)) rfl rfl rfl (by kernel_rfl) Z6u rfl) rfl <| Zh Z24 7 rfl <| Ab rfl <| Ab rfl <| Nl <| AW.ret ?_
  obtain rfl := si h
  exact Zen (i := 0) Tryz.results235 rfl (Z04 rfl (i := 7) rfl Z24) (Zf rfl) (Zf rfl) rfl
 ·have h := Zk hc h
  refine AW.skip <| AW.seq ?_
  obtain ⟨x10, hx10, h⟩ := Z1 h
  refine Rg <| Ld Z01 5 rfl <| Ld Zll 6 rfl <| Cl [22, 23] (Zzp _ _ _ hx10) Zy9 rfl <| Mt2 rfl <| Ac (Z28 rfl rfl (vt rfl)) rfl <| Ac (Z25 rfl rfl (vt rfl)) rfl <| Ct rfl (Zo 11 rfl rfl zr3) ?_
  rintro _ ⟨g11, rfl⟩
  refine As rfl <| Zh Zu 11 rfl <| Nl <| AW.seq <| AW.block <| SR <| Md rfl <| As rfl <| Nl <| Cn rfl (fun hc => ?_) (fun hc => ?_)
  ·have h := Zj hc h
   refine SR <| Ac (Z03 (ps := []) (x := (Vector.replicate 24 Zy)) rfl rfl rfl (by kernel_rfl) Z6u rfl) rfl <| Zh Z24 7 rfl <| Ab rfl <| Ab rfl <| Nl <| AW.ret ?_
   obtain rfl := si h
   exact Zen (i := 0) Tryz.results235 rfl (Z04 rfl (i := 7) rfl Z24) (Zf rfl) (Zf rfl) rfl
  ·have h := Zk hc h
   refine SR <| Ld Zu 11 rfl <| Ac (Zi rfl rfl (vt rfl) (vk rfl)) rfl <| As rfl <| Nl <| Cn rfl (fun hc => ?_) (fun hc => ?_)
   ·have h := Zj hc h
    refine AW.seq ?_
    obtain ⟨x12, hx12, h⟩ := Z1 h
    refine Rg <| Ld Z01 5 rfl <| Cl [33] (Y41 _ _ hx12) e70 rfl <| Zh Z24 7 rfl <| Ab rfl <| Ab rfl <| Nl <| AW.ret ?_
    obtain rfl := si h
    exact Zen (i := 0) Tryz.results235 rfl (Z04 rfl (i := 7) rfl Z24) (Zf rfl) (Zf rfl) rfl
   ·have h := Zk hc h
    refine AW.skip <| SR <| Ct rfl (Zo 12 rfl rfl Z6u) ?_
    rintro _ ⟨g13, rfl⟩
    refine Nl <| SR <| Ct rfl (Zo 13 rfl rfl zr4) ?_
    rintro _ ⟨g14, rfl⟩
    refine Ct rfl (Zo 14 rfl rfl zr4) ?_
    rintro _ ⟨g15, rfl⟩
    refine Ac (Zaq rfl rfl ty4 (vt rfl) (i := 13) rfl vb) rfl <| Ac (Zaq rfl rfl ty4 (vt rfl) (i := 14) rfl vb) rfl <| Nl <| AW.seq <| AW.label <| AW.seq <| AW.seq ?_
    obtain ⟨e16, he16, h⟩ := Z1 h
    obtain ⟨x17, hx17, h⟩ := Z1 h
    refine AW.regionAny [⟨[4], [35], [5], []⟩, ⟨[5], [36], [6], []⟩, ⟨[10], [37], [11], []⟩, ⟨[36, 37], [38], [], []⟩, ⟨[38], [39], [], []⟩, ⟨[35, 39], [40], [], []⟩] Z05 (by kernel_rfl) <| SLd Z01 5 rfl <| SLd Zll 6 rfl <| SLd Zu 11 rfl <| Sc (lo [36, 37] [] rfl fun S hs hr => Z10 rfl rfl Z3s (vh hs 36 rfl rfl) (vh hs 37 rfl rfl) he16) rfl <| SLp Z01 rfl <| SCl [35, 39] (Y6k _ _ _ hx17) Y5n rfl <| AW.block ?_
    obtain ⟨z22, hz22, h⟩ := Z1 h
    refine AW.fit (d := []) (L := [(3, Zb g5 (Lens.id (kas (Zb g2 (Lens.id Z15))))), (5, Zb g7 (Lens.id (Z2 (Z3 24 Z4)))), (6, Zb g8 (Lens.id (Z3 24 Zn))), (7, rd Z6 false), (8, rd Z6 false), (10, Zb g11 (Lens.id (Z0 .i64))), (11, Zb g13 (Lens.id (Z3 24 Zn))), (12, Zb g14 (Lens.id Z6)), (13, Zb g15 (Lens.id Z6)), (40, Z4e Tryz.prog (Z3 24 Z4) x17)]) (M := [(4, Zd g5 286 (kas (Zb g2 (Lens.id Z15))) ()), (0, Zd g2 gT Z15 { s1 with purse := b9.2 }), (6, Zd g7 229 (Z2 (Z3 24 Z4)) l4), (7, Zd g8 44 (Z3 24 Zn) (Vector.replicate 24 Zy)), (11, Zd g11 3 (Z0 .i64) x10.2), (12, Zd g13 44 (Z3 24 Zn) (Vector.replicate 24 Zy)), (13, Zd g14 4 Z6 false), (14, Zd g15 4 Z6 true)]) ⟨rfl, ⟨rfl, rfl, rfl, rfl, rfl, rfl, rfl, rfl, rfl, rfl, trivial⟩, ⟨rfl, rfl, rfl, rfl, rfl, rfl, rfl, rfl, trivial⟩⟩ ?_
    refine AW.rangeFunc (σ := cover_look × (Vector Wide 24) × Bool × Bool) (fun x => [rd (Z3 24 Z4) x]) (fun s x => Z7r l4 x10 R_cover_look_at s.1 s.2.1 s.2.2.1 s.2.2.2 x) (fun s => Zx ((fun s => [(4, Zd g5 286 (kas (Zb g2 (Lens.id Z15))) ()), (0, Zd g2 gT Z15 s.1), (6, Zd g7 229 (Z2 (Z3 24 Z4)) l4), (7, Zd g8 44 (Z3 24 Zn) (Vector.replicate 24 Zy)), (11, Zd g11 3 (Z0 .i64) x10.2), (12, Zd g13 44 (Z3 24 Zn) s.2.1), (13, Zd g14 4 Z6 s.2.2.1), (14, Zd g15 4 Z6 s.2.2.2)]) s)) (fun _ s => Zx ((fun s => [(4, Zd g5 286 (kas (Zb g2 (Lens.id Z15))) ()), (0, Zd g2 gT Z15 s.1), (6, Zd g7 229 (Z2 (Z3 24 Z4)) l4), (7, Zd g8 44 (Z3 24 Zn) (Vector.replicate 24 Zy)), (11, Zd g11 3 (Z0 .i64) x10.2), (12, Zd g13 44 (Z3 24 Zn) s.2.1), (13, Zd g14 4 Z6 s.2.2.1), (14, Zd g15 4 Z6 s.2.2.2)]) s)) [(3, Zb g5 (Lens.id (kas (Zb g2 (Lens.id Z15))))), (5, Zb g7 (Lens.id (Z2 (Z3 24 Z4)))), (6, Zb g8 (Lens.id (Z3 24 Zn))), (7, rd Z6 false), (8, rd Z6 false), (10, Zb g11 (Lens.id (Z0 .i64))), (11, Zb g13 (Lens.id (Z3 24 Zn))), (12, Zb g14 (Lens.id Z6)), (13, Zb g15 (Lens.id Z6))] (fun s x23 S1 => ∃ (g24 : Nat), Fit S1 [] [(3, Zb g5 (Lens.id (kas (Zb g2 (Lens.id Z15))))), (5, Zb g7 (Lens.id (Z2 (Z3 24 Z4)))), (6, Zb g8 (Lens.id (Z3 24 Zn))), (7, rd Z6 false), (8, rd Z6 false), (10, Zb g11 (Lens.id (Z0 .i64))), (11, Zb g13 (Lens.id (Z3 24 Zn))), (12, Zb g14 (Lens.id Z6)), (13, Zb g15 (Lens.id Z6)), (14, Zb g24 (Lens.id (Z3 24 Z4)))] [(4, Zd g5 286 (kas (Zb g2 (Lens.id Z15))) ()), (0, Zd g2 gT Z15 s.1), (6, Zd g7 229 (Z2 (Z3 24 Z4)) l4), (7, Zd g8 44 (Z3 24 Zn) (Vector.replicate 24 Zy)), (11, Zd g11 3 (Z0 .i64) x10.2), (12, Zd g13 44 (Z3 24 Zn) s.2.1), (13, Zd g14 4 Z6 s.2.2.1), (14, Zd g15 4 Z6 s.2.2.2), (15, Zd g24 87 (Z3 24 Z4) x23)]) 3001 (s0 := ({ s1 with purse := b9.2 }, (Vector.replicate 24 Zy), false, true)) (sE := z22) rfl (vt rfl) ⟨rfl, inferInstance, rfl, inferInstance, rfl, inferInstance, rfl, inferInstance, rfl, inferInstance, rfl, inferInstance, rfl, inferInstance, rfl, inferInstance, rfl, inferInstance, trivial⟩ rfl (fun _ => rfl) (by intro p hp; have hp : p ∈ [41] := hp; rw [List.mem_singleton.1 hp]; show 41 < 61; decide) ?ha1 ?hb1 (fun Lf => ⟨top, _, _, Lf, _, _, hz22, rfl, rfl, rfl, rfl⟩) ?he1
    case ha1 =>
     rintro ⟨b18, b19, b20, b21⟩ x23 r hF l w H X
     refine Rg <| Ct rfl (Zo 15 rfl rfl Z1j) ?_
     rintro _ ⟨g24, rfl⟩
     refine Zh Z01 15 rfl <| Nl ?_
     exact ⟨rfl, g24, rfl, ⟨rfl, rfl, rfl, rfl, rfl, rfl, rfl, rfl, rfl, rfl, trivial⟩, ⟨rfl, rfl, rfl, rfl, rfl, rfl, rfl, rfl, rfl, trivial⟩⟩
    case hb1 =>
     rintro ⟨b18, b19, b20, b21⟩ x23 r h S1 ⟨g24, hfit⟩ l w H X
     refine AW.fit (d := []) (L := [(3, Zb g5 (Lens.id (kas (Zb g2 (Lens.id Z15))))), (5, Zb g7 (Lens.id (Z2 (Z3 24 Z4)))), (6, Zb g8 (Lens.id (Z3 24 Zn))), (7, rd Z6 false), (8, rd Z6 false), (10, Zb g11 (Lens.id (Z0 .i64))), (11, Zb g13 (Lens.id (Z3 24 Zn))), (12, Zb g14 (Lens.id Z6)), (13, Zb g15 (Lens.id Z6)), (14, Zb g24 (Lens.id (Z3 24 Z4)))]) (M := [(4, Zd g5 286 (kas (Zb g2 (Lens.id Z15))) ()), (0, Zd g2 gT Z15 b18), (6, Zd g7 229 (Z2 (Z3 24 Z4)) l4), (7, Zd g8 44 (Z3 24 Zn) (Vector.replicate 24 Zy)), (11, Zd g11 3 (Z0 .i64) x10.2), (12, Zd g13 44 (Z3 24 Zn) b19), (13, Zd g14 4 Z6 b20), (14, Zd g15 4 Z6 b21), (15, Zd g24 87 (Z3 24 Z4) x23)]) hfit <| AW.bodyT ?_
     change Z7r l4 x10 R_cover_look_at b18 b19 b20 b21 x23 = some r at h
     unfold Z7r at h
     refine AW.block <| AW.seq ?_
     obtain ⟨s25, hs25, h⟩ := Z1 h
     obtain ⟨b26, hb26, h⟩ := Z1 h
     refine AW.regionAny [⟨[3], [43], [4], []⟩, ⟨[14], [44], [15], []⟩, ⟨[5], [45], [6], []⟩, ⟨[10], [46], [11], []⟩, ⟨[46], [47], [], []⟩, ⟨[45, 47], [48], [], []⟩, ⟨[43, 44, 48], [49], [0], [0]⟩, ⟨[49], [42], [], []⟩, ⟨[42], [50], [], []⟩, ⟨[42], [51], [], []⟩, ⟨[42], [52], [], []⟩, ⟨[11, 50], [], [12], [12]⟩, ⟨[12, 51], [], [13], [13]⟩, ⟨[13, 52], [], [14], [14]⟩] Z05 (by kernel_rfl) <| Sc (lo [3] [4] rfl fun S hs hr => Zrb (A := Zb g2 (Lens.id Z15)) rfl rfl rfl (Zqo _) (vh hs 3 rfl rfl) (i := 4) ((hr 4 rfl).trans rfl)) rfl <| SLd Z01 15 rfl <| SLd Zll 6 rfl <| SLd Zu 11 rfl <| Sc (lo [46] [] rfl fun S hs hr => Z0e rfl rfl (vh hs 46 rfl rfl) (vk rfl)) rfl <| Sc (lo [45, 47] [] rfl fun S hs hr => Zuo hs25 rfl rfl Z3s (vh hs 45 rfl rfl) (vh hs 47 rfl rfl)) rfl <| Sc (Z2e (us := [(49, Z2w (rd (Z3 24 Zn) b26.1) (rd Z6 b26.2.1) (rd Z6 b26.2.2.1))]) (ur := [(0, Zd g2 gT Z15 b26.2.2.2)]) [43, 44, 48] [0] rfl fun S hs hr => Y00 0 (xs := [.tmp 43, .tmp 44, .tmp 48]) (hR_cover_look_at _ _ _ _ _ _ hb26) Zo6 rfl rfl ⟨vt ((hs 43 rfl).trans rfl), vt ((hs 44 rfl).trans rfl), vt ((hs 48 rfl).trans rfl), trivial⟩ ((hr 0 rfl).trans rfl)) rfl <| Sc (lo [49] [] rfl fun S hs hr => Zq (A := Z2w (rd (Z3 24 Zn) b26.1) (rd Z6 b26.2.1) (rd Z6 b26.2.2.1)) rfl rfl (vh hs 49 rfl rfl)) rfl <| Sc (lo [42] [] rfl fun S hs hr => Zir rfl rfl (vh hs 42 rfl rfl)) rfl <| Sc (lo [42] [] rfl fun S hs hr => Ziv rfl rfl (vh hs 42 rfl rfl)) rfl <| Sc (lo [42] [] rfl fun S hs hr => Zic rfl rfl (vh hs 42 rfl rfl)) rfl <| SSt Z24 12 rfl <| SSt ty4 13 rfl <| SSt ty4 14 rfl <| SR <| Ld ty4 13 rfl <| Md rfl <| Gd rfl (fun hq => Z11 rfl rfl ty4 (vt rfl) (i := 14) rfl) <| Gd rfl (fun hq => Z0x rfl rfl (Zm rfl hq)) <| Ac (Zj9 rfl rfl (vt rfl) (vt rfl)) rfl <| Nl <| Cn rfl (fun hc => ?_) (fun hc => ?_)
     ·have h := Zj hc h
      refine AW.exit ?_
      obtain rfl := si h
      exact ⟨_, (b26.2.2.2, b26.1, b26.2.1, b26.2.2.1), Turn.refl, rfl, ⟨rfl, rfl, rfl, rfl, rfl, rfl, rfl, rfl, trivial⟩⟩
     ·have h := Zk hc h
      refine AW.skip ?_
      obtain rfl := si h
      exact ⟨_, (b26.2.2.2, b26.1, b26.2.1, b26.2.2.1), Turn.refl, rfl, ⟨rfl, rfl, rfl, rfl, rfl, rfl, rfl, rfl, trivial⟩⟩
    case he1 =>
     intro D
     cases z22 with
     | go s27 =>
      change _ = some r at h
      refine AW.seq <| AW.regionAny [⟨[11], [58], [12], []⟩, ⟨[12], [59], [13], []⟩, ⟨[13], [60], [14], []⟩, ⟨[6, 58], [], [7], [7]⟩, ⟨[59], [7], [], []⟩, ⟨[60], [8], [], []⟩] Z05 (by kernel_rfl) <| SLd Z24 12 rfl <| SLd ty4 13 rfl <| SLd ty4 14 rfl <| SSt Z24 7 rfl <| SAs rfl <| SAs rfl <| AW.ret ?_
      obtain rfl := si h
      exact ⟨rfl, 3001, rfl, Zen (i := 0) Tryz.results235 rfl (Z04 rfl (i := 7) rfl Z24) (Zf rfl) (Zf rfl) rfl⟩
     | out c s27 =>
      change (bif Zjb 1 c then _ else _) = some r at h
      cases hc : Zjb 1 c with
      | true =>
       rw [hc] at h
       have hc := Zzu hc
       subst hc
       change _ = some r at h
       refine AW.exit <| AW.seq <| AW.regionAny [⟨[11], [58], [12], []⟩, ⟨[12], [59], [13], []⟩, ⟨[13], [60], [14], []⟩, ⟨[6, 58], [], [7], [7]⟩, ⟨[59], [7], [], []⟩, ⟨[60], [8], [], []⟩] Z05 (by kernel_rfl) <| SLd Z24 12 rfl <| SLd ty4 13 rfl <| SLd ty4 14 rfl <| SSt Z24 7 rfl <| SAs rfl <| SAs rfl <| AW.ret ?_
       obtain rfl := si h
       exact ⟨rfl, 3001, rfl, Zen (i := 0) Tryz.results235 rfl (Z04 rfl (i := 7) rfl Z24) (Zf rfl) (Zf rfl) rfl⟩
      | false =>
       rw [hc] at h
       cases h
def Z5w : Nat → (cover_look → (Vector Tern 24) → (List (Vector Tern 24)) → Option ((Vector Wide 24) × Bool × Bool × cover_look))
 | 0 => (fun _ _ _ => none)
 | n + 1 => (Zdr (Z5w n))
theorem Zqs : ∀ n : Nat, (∀ (g2 gT : Nat) (s1 : cover_look) (cu3 : (Vector Tern 24)) (l4 : (List (Vector Tern 24))) (r : ((Vector Wide 24) × Bool × Bool × cover_look)), (Z5w n) s1 cu3 l4 = some r → Con Tryz.prog 235 [Zb g2 (Lens.id Z15), rd (Z3 24 Z4) cu3, rd (Z2 (Z3 24 Z4)) l4] (Zd g2 gT Z15 s1) (fun _ : Unit => Z2w (rd (Z3 24 Zn) r.1) (rd Z6 r.2.1) (rd Z6 r.2.2.1)) (fun _ => Zd g2 gT Z15 r.2.2.2))
 | 0 => (by intros; rename_i h; cases h)
 | n + 1 => by
  have ih := Zqs n
  exact (Y6j (Z5w n) ih)
def Zni (s1 : cover_look) (cu3 : (Vector Tern 24)) (l4 : (List (Vector Tern 24))) : Option ((Vector Wide 24) × Bool × Bool × cover_look) := (Z5w Z18) s1 cu3 l4
theorem Zzl : ∀ (g2 gT : Nat) (s1 : cover_look) (cu3 : (Vector Tern 24)) (l4 : (List (Vector Tern 24))) (r : ((Vector Wide 24) × Bool × Bool × cover_look)), Zni s1 cu3 l4 = some r → Con Tryz.prog 235 [Zb g2 (Lens.id Z15), rd (Z3 24 Z4) cu3, rd (Z2 (Z3 24 Z4)) l4] (Zd g2 gT Z15 s1) (fun _ : Unit => Z2w (rd (Z3 24 Zn) r.1) (rd Z6 r.2.1) (rd Z6 r.2.2.1)) (fun _ => Zd g2 gT Z15 r.2.2.2) := Zqs Z18
def Zfx (cu1 : (Vector Tern 24)) (l2 : (List (Vector Tern 24))) (most3 : Int) : Option ((Vector Wide 24) × Bool × Int) :=
 (Zni (⟨(⟨(Z19 most3 0), (decide (most3 ≥ 1099511627776))⟩ : cover_purse)⟩ : cover_look) cu1 l2).bind fun b7 => (bif (!b7.2.2.1) then some ((Vector.replicate 24 Zy), false, 5) else some (b7.1, b7.2.1, 0))
theorem Y8x (cu1 : (Vector Tern 24)) (l2 : (List (Vector Tern 24))) (most3 : Int) (r : ((Vector Wide 24) × Bool × Int)) (h : Zfx cu1 l2 most3 = some r) : PCon Tryz.prog 170 [rd (Z3 24 Z4) cu1, rd (Z2 (Z3 24 Z4)) l2, rd (Z0 .i64) most3] (Z2w (rd (Z3 24 Zn) r.1) (rd Z6 r.2.1) (rd (Z0 .i64) r.2.2)) := by
 refine PCon.of (Con.intro0 Tryz.func170 rfl Tryz.ntmps170 rfl fun w H => ?_)
 unfold Zfx at h
 refine SR <| Ct rfl (Zs 4 rfl rfl (vt rfl)) ?_
 rintro _ ⟨g4, rfl⟩
 refine Ct rfl (Zo 7 rfl rfl Z6u) ?_
 rintro _ ⟨g5, rfl⟩
 refine Ab rfl <| Ak rfl <| Nl <| SR <| Md rfl <| Ac (Ze7 rfl rfl (vt rfl) (vk rfl)) rfl <| Md rfl <| Ac (Z4n rfl rfl (vt rfl) (vk rfl)) rfl <| Ac (Z03 (ps := [(0, .tmp 14), (1, .tmp 16)]) (x := (⟨(Z19 most3 0), (decide (most3 ≥ 1099511627776))⟩ : cover_purse)) rfl rfl rfl (by kernel_rfl) Y5m ⟨_, _, Zep, _, by kernel_rfl, (vt rfl), _, _, Zjp, _, by kernel_rfl, (vt rfl), rfl⟩) rfl <| Ac (Z03 (ps := [(0, .tmp 17)]) (x := (⟨(⟨(Z19 most3 0), (decide (most3 ≥ 1099511627776))⟩ : cover_purse)⟩ : cover_look)) rfl rfl rfl (by kernel_rfl) Zxa ⟨_, _, Zm4, _, by kernel_rfl, (vt rfl), rfl⟩) rfl <| Ct rfl (Zs 20 rfl rfl (vt rfl)) ?_
 rintro _ ⟨g6, rfl⟩
 refine Ac (Z0j (A := Zb g6 (Lens.id Z15)) rfl rfl (vt rfl)) rfl <| Nl <| AW.seq ?_
 obtain ⟨b7, hb7, h⟩ := Z1 h
 refine Rg <| Mp rfl <| Ld Z01 4 rfl <| Md rfl <| Ct rfl (Z12 20 (xs := [.tmp 21, .tmp 22, .tmp 23]) (Zzl _ _ _ _ _ _ hb7) Zo6 rfl rfl ⟨vt rfl, vt rfl, vt rfl, trivial⟩ rfl) ?_
 rintro _ ⟨_u, rfl⟩
 refine Ac (Zq (A := Z2w (rd (Z3 24 Zn) b7.1) (rd Z6 b7.2.1) (rd Z6 b7.2.2.1)) rfl rfl (vt rfl)) rfl <| Ac (Zir rfl rfl (vt rfl)) rfl <| Ac (Ziv rfl rfl (vt rfl)) rfl <| Ac (Zic rfl rfl (vt rfl)) rfl <| Ct rfl (Zo 11 rfl rfl Z6u) ?_
 rintro _ ⟨g8, rfl⟩
 refine Zh Z24 11 rfl <| As rfl <| As rfl <| Nl <| AW.seq <| SR <| Md rfl <| Ac (Z0x rfl rfl (vt rfl)) rfl <| Nl <| Cn rfl (fun hc => ?_) (fun hc => ?_)
 ·have h := Zj hc h
  refine SR <| Ac (Z03 (ps := []) (x := (Vector.replicate 24 Zy)) rfl rfl rfl (by kernel_rfl) Z6u rfl) rfl <| Zh Z24 7 rfl <| Ab rfl <| Ak rfl <| Nl <| AW.ret ?_
  obtain rfl := si h
  exact Zi2 Tryz.results170 rfl (Z04 rfl (i := 7) rfl Z24) (Zf rfl) (Zf rfl)
 ·have h := Zk hc h
  refine AW.skip <| SR <| Ld Z24 11 rfl <| Md rfl <| Zh Z24 7 rfl <| As rfl <| Ak rfl <| Nl <| AW.ret ?_
  obtain rfl := si h
  exact Zi2 Tryz.results170 rfl (Z04 rfl (i := 7) rfl Z24) (Zf rfl) (Zf rfl)
def Ziu (s : List Rule) : Option (List Rule) := Z1o [] s
theorem Zz2 (s : List Rule) (r : List Rule) (h : Ziu s = some r) : Con Tryz.prog 240 [rd (Z2 Zv) s] emp (fun v => Za v) (fun v => Z9 v 90 Zv r) := by
 refine Con.intro0 Tryz.func240 rfl Tryz.ntmps240 rfl fun w H => ?_
 unfold Ziu at h
 refine AW.newnil 1001 90 Zv <| SR <| Ac (Z0j (A := Za (.slice none 0 0)) rfl rfl vc) rfl <| Nl <| AW.seq <| SR <| Md rfl <| Ct rfl (Zdx rfl rfl Z2f (vt rfl)) ?_
 rintro _ ⟨b, hb, rfl⟩
 refine Nl <| Cn rfl (fun hc => ?_) (fun hc => ?_)
 ·obtain rfl := hb hc
  refine SR <| Ac (Z0j (A := Za (.slice none 0 0)) rfl rfl vc) rfl <| Nl <| AW.ret ?_
  obtain rfl := (Z8f h).2
  exact Z4g (i := 1001) Tryz.results240 rfl rfl rfl
 ·refine AW.skip <| SR <| Ct rfl (Zf1 1002 (ps := []) (l := []) rfl rfl Z2f Z6q rfl rfl rfl rfl) ?_
  rintro _ ⟨v1, rfl⟩
  refine Md rfl <| Ct rfl (Z5t 1002 h rfl rfl Zmp (vt rfl) rfl (vt rfl)) ?_
  rintro _ ⟨v2, rfl⟩
  refine Aw rfl <| Nl <| AW.ret ?_
  exact Z4g (i := 1002) Tryz.results240 rfl rfl rfl
def Z6n : Nat → Nat → (List Rule) → Option (List Rule)
 | 0, i6, l5 => some l5
 | m7 + 1, i6, l5 => (lget l5 (i6 : Int)).bind fun e8 => (Z9q e8.Atoms).bind fun x9 => (lget l5 (i6 : Int)).bind fun e10 => (Z6n m7) (i6 + 1) (List.set l5 (i6 : Int).toNat { e10 with Atoms := x9 })
def Zec (l1 : (List Rule)) : Option (List Rule) :=
 (Ziu l1).bind fun x2 => Z6n ((x2.length : Int) : Int).toNat 0 x2
theorem Y90 (l1 : (List Rule)) (r : (List Rule)) (h : Zec l1 = some r) : PCon Tryz.prog 179 [rd (Z2 Zv) l1] (rd (Z2 Zv) r) := by
 refine PCon.of (Con.intro0 Tryz.func179 rfl Tryz.ntmps179 rfl fun w H => ?_)
 unfold Zec at h
 refine SR <| Ac (Z0j (A := rd (Z2 Zv) []) rfl rfl Z3h) rfl <| Nl <| AW.seq ?_
 obtain ⟨x2, hx2, h⟩ := Z1 h
 refine Rg <| Md rfl <| Ct rfl (Z12 1001 (xs := [.tmp 5]) (Zz2 _ _ hx2) Y0f rfl rfl ⟨vt rfl, trivial⟩ rfl) ?_
 rintro _ ⟨v3, rfl⟩
 refine Aw rfl <| Nl <| AW.seq <| SR <| Mw rfl <| Ac (Zae 1001 rfl rfl Z2f (vt rfl) rfl) rfl <| Mk rfl <| Nl <| AW.block <| AW.loopG (d := []) (ν := Nat × Nat × (List Rule)) (fun n => Cnt (x2.length : Int) n.2.1 n.1 ∧ Z6n n.1 n.2.1 n.2.2 = some r) (fun n => n.1) (fun n => [(3, Za v3), (8, rd (Z0 .i64) (x2.length : Int)), (9, rd (Z0 .i64) (n.2.1 : Int))]) (fun n => [(1001, Z9 v3 90 Zv n.2.2)]) (((x2.length : Int) : Int).toNat, 0, x2) ⟨Cnt.start _, h⟩ ⟨rfl, ⟨rfl, rfl, rfl, trivial⟩, ⟨rfl, trivial⟩⟩ ?_
 rintro ⟨m7, i6, l5⟩ ⟨hsf1, h⟩
 change Cnt (x2.length : Int) i6 m7 at hsf1
 change Z6n m7 i6 l5 = some r at h
 change AW _ _ _ ⟨Zw [(3, Za v3), (8, rd (Z0 .i64) (x2.length : Int)), (9, rd (Z0 .i64) (i6 : Int))], Zx [(1001, Z9 v3 90 Zv l5)], _⟩
 cases m7 with
 | zero =>
  unfold Z6n at h
  refine SR <| Ac (Zi rfl rfl (vt rfl) (vt rfl)) rfl <| Nl <| AW.seq <| Cn rfl (fun hc => absurd (of_decide_eq_true hc) hsf1.zero) (fun hc => ?_)
  refine AW.exit <| SR <| Mw rfl <| Aw rfl <| Nl <| AW.freezes [2, 3, 23] 1001 rfl ⟨rfl, rfl, rfl, trivial⟩ rfl <| AW.ret ?_
  obtain rfl := si h
  exact Zg Tryz.results179 rfl (Zf rfl)
 | succ m7 =>
  unfold Z6n at h
  generalize hgo1 : Z6n m7 = go1 at h
  refine SR <| Ac (Zi rfl rfl (vt rfl) (vt rfl)) rfl <| Nl <| AW.seq <| Cn rfl (fun hc => ?_) (fun hc => absurd hsf1.succ (of_decide_eq_false hc))
  have hlti6 := of_decide_eq_true hc
  refine AW.skip <| AW.seq <| AW.block <| SR <| Md rfl <| As rfl <| Nl ?_
  obtain ⟨e8, he8, h⟩ := Z1 h
  obtain ⟨x9, hx9, h⟩ := Z1 h
  obtain ⟨e10, he10, h⟩ := Z1 h
  refine Rg <| Mw rfl <| Md rfl <| Mw rfl <| Md rfl <| Ac (Z1q 1001 rfl rfl Z2f (vt rfl) rfl (vt rfl) he8) rfl <| Ac (Zcn Z9s rfl rfl Zeo (vt rfl)) rfl <| Ac (Z13 1001 rfl rfl Z63 (vt rfl) rfl (Z06 he8).2) rfl <| Cl [18] (Zuk _ _ hx9) Zsk rfl <| Ac (Z1q 1001 rfl rfl Z2f (vt rfl) rfl (vt rfl) he10) rfl <| Ac (Zcn Z9s rfl rfl Zeo (vt rfl)) rfl <| Ac (Z2d 1001 rfl rfl Z63 (vt rfl) rfl (Z06 he10).2 (vt rfl)) rfl <| Nl <| Rg <| Ac (Z17 (t := 8) rfl rfl (vt rfl) (vk rfl) (vt rfl) hlti6) rfl <| Md rfl <| Nl ?_
  subst hgo1
  exact ⟨(m7, i6 + 1, (List.set l5 (i6 : Int).toNat { e10 with Atoms := x9 })), Nat.lt_succ_self _, ⟨hsf1.next, h⟩, ⟨rfl, ⟨rfl, rfl, rfl, trivial⟩, ⟨rfl, trivial⟩⟩⟩
def Z5z (most2 : Int) : (List Rule) → Nat → (List Rule) → (List (Vector Tern 24)) → Option ((List Rule) × Int)
 | [], i11, l7, l9 => (Zec l7).bind fun x13 => some (x13, 0)
 | x14 :: l12, i11, l7, l9 => (Zfx x14.Cube l9 most2).bind fun x16 => (bif (decide (x16.2.2 ≠ 0)) then some ([], x16.2.2) else (bif (!x16.2.1) then (Z5z most2 l12) (i11 + 1) l7 l9 else (Z1o l7 [x14]).bind fun l18 => (Z1o l9 [x14.Cube]).bind fun l20 => (Z5z most2 l12) (i11 + 1) l18 l20))
def Zi0 (l1 : (List Rule)) (most2 : Int) : Option ((List Rule) × Int) :=
 Z5z most2 l1 0 [] []
theorem Y08 (l1 : (List Rule)) (most2 : Int) (r : ((List Rule) × Int)) (h : Zi0 l1 most2 = some r) : PCon Tryz.prog 111 [rd (Z2 Zv) l1, rd (Z0 .i64) most2] (Z1d (rd (Z2 Zv) r.1) (rd (Z0 .i64) r.2)) := by
 refine PCon.of (Con.intro0 Tryz.func111 rfl Tryz.ntmps111 rfl fun w H => ?_)
 unfold Zi0 at h
 refine SR <| Ac (Z0j (A := rd (Z2 Zv) []) rfl rfl Z3h) rfl <| Ak rfl <| Nl <| AW.scope <| AW.seq <| AW.newnil 1001 90 Zv <| Rg <| Ac (Z0j rfl rfl vc) rfl <| Nl <| AW.seq <| AW.newnil 1002 87 (Z3 24 Z4) <| Rg <| Ac (Z0j rfl rfl vc) rfl <| Nl <| AW.seq <| AW.label <| AW.seq <| SR <| Md rfl <| Ac (Z0k rfl rfl Z2f (vt rfl)) rfl <| Mk rfl <| Nl <| AW.block <| AW.loopG (d := []) (ν := (List Rule) × Nat × (List Rule) × (List (Vector Tern 24)) × Value × Value) (fun n => Sfx l1 n.2.1 n.1 ∧ Z5z most2 n.1 n.2.1 n.2.2.1 n.2.2.2.1 = some r) (fun n => n.1.length) (fun n => [(1, rd (Z0 .i64) most2), (6, Za n.2.2.2.2.1), (7, Za n.2.2.2.2.2), (13, rd (Z2 Zv) l1), (14, rd (Z0 .i64) (l1.length : Int)), (15, rd (Z0 .i64) (n.2.1 : Int))]) (fun n => [(1001, Z9 n.2.2.2.2.1 90 Zv n.2.2.1), (1002, Z9 n.2.2.2.2.2 87 (Z3 24 Z4) n.2.2.2.1)]) (l1, 0, [], [], (.slice none 0 0), (.slice none 0 0)) ⟨Sfx.start _, h⟩ ⟨rfl, ⟨rfl, rfl, rfl, rfl, rfl, rfl, trivial⟩, ⟨rfl, rfl, trivial⟩⟩ ?_
 rintro ⟨l12, i11, l7, l9, v8, v10⟩ ⟨hsf1, h⟩
 change Sfx l1 i11 l12 at hsf1
 change Z5z most2 l12 i11 l7 l9 = some r at h
 change AW _ _ _ ⟨Zw [(1, rd (Z0 .i64) most2), (6, Za v8), (7, Za v10), (13, rd (Z2 Zv) l1), (14, rd (Z0 .i64) (l1.length : Int)), (15, rd (Z0 .i64) (i11 : Int))], Zx [(1001, Z9 v8 90 Zv l7), (1002, Z9 v10 87 (Z3 24 Z4) l9)], _⟩
 cases l12 with
 | nil =>
  unfold Z5z at h
  refine SR <| Ac (Zi rfl rfl (vt rfl) (vt rfl)) rfl <| Nl <| AW.seq <| Cn rfl (fun hc => absurd (of_decide_eq_true hc) hsf1.nil) (fun hc => ?_)
  refine AW.exit <| AW.seq <| AW.freezes [6] 1001 rfl ⟨rfl, trivial⟩ rfl ?_
  obtain ⟨x13, hx13, h⟩ := Z1 h
  refine Rg <| Md rfl <| Cl [45] (Y90 _ _ hx13) Zzo rfl <| As rfl <| Ak rfl <| Nl <| AW.ret ?_
  obtain rfl := si h
  exact Z2b Tryz.results111 rfl (Zf rfl) (Zf rfl)
 | cons x14 l12 =>
  unfold Z5z at h
  generalize hgo1 : Z5z most2 l12 = go1 at h
  refine SR <| Ac (Zi rfl rfl (vt rfl) (vt rfl)) rfl <| Nl <| AW.seq <| Cn rfl (fun hc => ?_) (fun hc => absurd hsf1.cons (of_decide_eq_false hc))
  have hlti11 := of_decide_eq_true hc
  refine AW.skip <| AW.seq <| AW.block <| SR <| Ac (Z10 rfl rfl Z2f (vt rfl) (vt rfl) hsf1.lget) rfl <| Lp1 Z3u rfl <| Ct rfl (Zo 10 rfl rfl Z6q) ?_
  rintro _ ⟨g15, rfl⟩
  refine Zh Z3u 10 rfl <| Nl <| AW.seq ?_
  obtain ⟨x16, hx16, h⟩ := Z1 h
  refine Rg <| Zt Z98 Zfm rfl <| Ld Z01 10 rfl <| Mw rfl <| Md rfl <| Ac (Zkx (xs := [.tmp 21, .tmp 22, .tmp 23]) 1002 (Y8x _ _ _ _ hx16) Zxf rfl rfl ⟨vB (vt rfl), vL rfl rfl, vB (vt rfl), trivial⟩) rfl <| Ac (Zq (A := Z2w (rd (Z3 24 Zn) x16.1) (rd Z6 x16.2.1) (rd (Z0 .i64) x16.2.2)) rfl rfl (vt rfl)) rfl <| Ac (Zir rfl rfl (vt rfl)) rfl <| Ac (Ziv rfl rfl (vt rfl)) rfl <| Ac (Zic rfl rfl (vt rfl)) rfl <| Ct rfl (Zo 11 rfl rfl Z6u) ?_
  rintro _ ⟨g17, rfl⟩
  refine Zh Z24 11 rfl <| As rfl <| As rfl <| Nl <| AW.seq <| AW.block <| SR <| Md rfl <| Ac (Z74 rfl rfl (vt rfl) (vk rfl)) rfl <| As rfl <| Nl <| Cn rfl (fun hc => ?_) (fun hc => ?_)
  ·have h := Zj hc h
   refine SR <| Md rfl <| Ac (Z0j (A := rd (Z2 Zv) []) rfl rfl Z3h) rfl <| As rfl <| Nl <| AW.ret ?_
   obtain rfl := si h
   exact Z2b Tryz.results111 rfl (Zf rfl) (Zf rfl)
  ·have h := Zk hc h
   refine SR <| Md rfl <| Ac (Z0x rfl rfl (vt rfl)) rfl <| As rfl <| Nl <| Cn rfl (fun hc => ?_) (fun hc => ?_)
   ·have h := Zj hc h
    refine AW.exit <| Rg <| Ac (Z17 (t := 14) rfl rfl (vt rfl) (vk rfl) (vt rfl) hlti11) rfl <| Md rfl <| Nl ?_
    subst hgo1
    exact ⟨(l12, i11 + 1, l7, l9, v8, v10), Nat.lt_succ_self _, ⟨hsf1.next, h⟩, ⟨rfl, ⟨rfl, rfl, rfl, rfl, rfl, rfl, trivial⟩, ⟨rfl, rfl, trivial⟩⟩⟩
   ·have h := Zk hc h
    refine AW.skip ?_
    obtain ⟨l18, hl18, h⟩ := Z1 h
    obtain ⟨l20, hl20, h⟩ := Z1 h
    refine AW.regionAny [⟨[6], [35], [], []⟩, ⟨[9], [36], [10], []⟩, ⟨[36], [37], [], []⟩, ⟨[35, 37], [38], [1001], [1001]⟩, ⟨[7], [39], [], []⟩, ⟨[9], [40], [], []⟩, ⟨[40], [41], [10], []⟩, ⟨[41], [42], [], []⟩, ⟨[39, 42], [43], [1002], [1002]⟩, ⟨[38], [38, 6], [1003], []⟩, ⟨[43], [43, 7], [1004], []⟩] Z05 (by kernel_rfl) <| SMw rfl <| SLd Z3u 10 rfl <| Sc (lo [36] [] rfl fun S hs hr => Z3k (ps := [(0, .tmp 36)]) (l := [x14]) rfl rfl Z2f Z6q rfl rfl ⟨_, _, Lens.idx 1 Zv 0 (by decide), _, rfl, (vh hs 36 rfl rfl), rfl⟩ rfl) rfl <| Sc (Z2e (us := [(38, Z2r 90 Zv l18)]) (ur := [(1001, emp)]) [35, 37] [1001] rfl fun S hs hr => Zlb 1001 hl18 rfl rfl rfl Zmp (vh hs 35 rfl rfl) ((hr 1001 rfl).trans rfl) (vh hs 37 rfl rfl)) rfl <| SMw rfl <| SFd Z98 Zfm rfl <| SLd Z01 10 rfl <| Sc (lo [41] [] rfl fun S hs hr => Z3k (ps := [(0, .tmp 41)]) (l := [x14.Cube]) rfl rfl Z3s Z1j rfl rfl ⟨_, _, Lens.idx 1 (Z3 24 Z4) 0 (by decide), _, rfl, (vh hs 41 rfl rfl), rfl⟩ rfl) rfl <| Sc (Z2e (us := [(43, Z2r 87 (Z3 24 Z4) l20)]) (ur := [(1002, emp)]) [39, 42] [1002] rfl fun S hs hr => Zlb 1002 hl20 rfl rfl rfl Zlr (vh hs 39 rfl rfl) ((hr 1002 rfl).trans rfl) (vh hs 42 rfl rfl)) rfl <| Sc (Z2e (us := [(38, top), (6, Z2r 90 Zv l18)]) (ur := []) [38] [1003] rfl fun S hs hr => Zt6 1003 rfl rfl rfl rfl ((hs 38 rfl).trans rfl) ((hr 1003 rfl).trans rfl)) rfl <| Sc (Z2e (us := [(43, top), (7, Z2r 87 (Z3 24 Z4) l20)]) (ur := []) [43] [1004] rfl fun S hs hr => Zt6 1004 rfl rfl rfl rfl ((hs 43 rfl).trans rfl) ((hr 1004 rfl).trans rfl)) rfl <| AW.unpackR 6 1001 rfl rfl fun v19 => AW.unpackR 7 1002 rfl rfl fun v21 => Rg <| Ac (Z17 (t := 14) rfl rfl (vt rfl) (vk rfl) (vt rfl) hlti11) rfl <| Md rfl <| Nl ?_
    subst hgo1
    exact ⟨(l12, i11 + 1, l18, l20, v19, v21), Nat.lt_succ_self _, ⟨hsf1.next, h⟩, ⟨rfl, ⟨rfl, rfl, rfl, rfl, rfl, rfl, trivial⟩, ⟨rfl, rfl, trivial⟩⟩⟩
def Zf8 (g1 : Group) (cp2 : Int) : Option Bool :=
 some (decide (g1.ID = cp2))
theorem Y16 (g1 : Group) (cp2 : Int) (r : Bool) (h : Zf8 g1 cp2 = some r) : PCon Tryz.prog 288 [rd Z02 g1, rp (Z0 .i64) cp2] (rd Z6 r) := by
 refine PCon.of (Con.intro0 Tryz.func288 rfl Tryz.ntmps288 rfl fun w H => ?_)
 unfold Zf8 at h
 refine SR <| Ct rfl (Zs 3 rfl rfl (vt rfl)) ?_
 rintro _ ⟨g3, rfl⟩
 refine Ab rfl <| Nl <| SR <| Zt Zds Zh9 rfl <| Ld Zu 3 rfl <| Lp1 Zu rfl <| Ac (Z1l rfl rfl (vt rfl) (vt rfl)) rfl <| As rfl <| Nl <| AW.ret ?_
 obtain rfl := si h
 exact Zg Tryz.results288 rfl (Zf rfl)
def Zhl (l1 : (List Group)) (id2 : Int) : Option Int :=
 (Zda l1 (fun x => Zf8 x id2)).bind fun x4 => some x4
theorem Y7p (l1 : (List Group)) (id2 : Int) (r : Int) (h : Zhl l1 id2 = some r) : PCon Tryz.prog 241 [rd (Z2 Z02) l1, rd (Z0 .i64) id2] (rd (Z0 .i64) r) := by
 refine PCon.of (Con.intro0 Tryz.func241 rfl Tryz.ntmps241 rfl fun w H => ?_)
 unfold Zhl at h
 refine SR <| Ct rfl (Zs 4 rfl rfl (vt rfl)) ?_
 rintro _ ⟨g3, rfl⟩
 refine Ak rfl <| Nl <| AW.seq <| AW.freezeB 3 4 rfl rfl rfl ?_
 obtain ⟨x4, hx4, h⟩ := Z1 h
 refine Rg <| Md rfl <| Ac (Z8w (cs := [.tmp 3]) (CAs := [rp (Z0 .i64) id2]) (fun x => Zf8 x id2) rfl rfl Zxq ⟨vt rfl, trivial⟩ (fun x y h => Y16 _ _ y h)) rfl <| Cl [5, 6] (Zu8 _ _ _ hx4) Ztu rfl <| As rfl <| Nl <| AW.ret ?_
 obtain rfl := si h
 exact Zg Tryz.results241 rfl (Zf rfl)
end Go.Proofs.YtknpgojdkobgjaaGreat.W
set_option maxRecDepth 4000
namespace Go.Proofs.YtknpgojdkobgjaaGreat.W
open Go Go.Wb
theorem Y58 : Ent Tryz.prog 328 := Ent.mk Tryz.func328 rfl rfl
theorem Y36 : Ent Tryz.prog 289 := Ent.mk Tryz.func289 rfl rfl
theorem Zw0 : Ent Tryz.prog 290 := Ent.mk Tryz.func290 rfl rfl
theorem Y6d : Ent Tryz.prog 241 := Ent.mk Tryz.func241 rfl rfl
theorem Y7l : Ent Tryz.prog 242 := Ent.mk Tryz.func242 rfl rfl
theorem Zy1 : Ent Tryz.prog 180 := Ent.mk Tryz.func180 rfl rfl
theorem Y5c : Ent Tryz.prog 111 := Ent.mk Tryz.func111 rfl rfl
theorem Zvi : Ent Tryz.prog 112 := Ent.mk Tryz.func112 rfl rfl
def Zjj (s : List Group) : Option (List Group) := Z1o [] s
theorem Y4o (s : List Group) (r : List Group) (h : Zjj s = some r) : Con Tryz.prog 289 [rd (Z2 Z02) s] emp (fun v => Za v) (fun v => Z9 v 164 Z02 r) := by
 refine Con.intro0 Tryz.func289 rfl Tryz.ntmps289 rfl fun w H => ?_
 unfold Zjj at h
 refine AW.newnil 1001 164 Z02 <| SR <| Ac (Z0j (A := Za (.slice none 0 0)) rfl rfl vc) rfl <| Nl <| AW.seq <| SR <| Md rfl <| Ct rfl (Zdx rfl rfl Z2n (vt rfl)) ?_
 rintro _ ⟨b, hb, rfl⟩
 refine Nl <| Cn rfl (fun hc => ?_) (fun hc => ?_)
 ·obtain rfl := hb hc
  refine SR <| Ac (Z0j (A := Za (.slice none 0 0)) rfl rfl vc) rfl <| Nl <| AW.ret ?_
  obtain rfl := (Z8f h).2
  exact Z4g (i := 1001) Tryz.results289 rfl rfl rfl
 ·refine AW.skip <| SR <| Ct rfl (Zf1 1002 (ps := []) (l := []) rfl rfl Z2n Z89 rfl rfl rfl rfl) ?_
  rintro _ ⟨v1, rfl⟩
  refine Md rfl <| Ct rfl (Z5t 1002 h rfl rfl Zoe (vt rfl) rfl (vt rfl)) ?_
  rintro _ ⟨v2, rfl⟩
  refine Aw rfl <| Nl <| AW.ret ?_
  exact Z4g (i := 1002) Tryz.results289 rfl rfl rfl
def Zgl (s : List Bucket) : Option (List Bucket) := Z1o [] s
theorem Zvl (s : List Bucket) (r : List Bucket) (h : Zgl s = some r) : Con Tryz.prog 328 [rd (Z2 Z0f) s] emp (fun v => Za v) (fun v => Z9 v 226 Z0f r) := by
 refine Con.intro0 Tryz.func328 rfl Tryz.ntmps328 rfl fun w H => ?_
 unfold Zgl at h
 refine AW.newnil 1001 226 Z0f <| SR <| Ac (Z0j (A := Za (.slice none 0 0)) rfl rfl vc) rfl <| Nl <| AW.seq <| SR <| Md rfl <| Ct rfl (Zdx rfl rfl Z4d (vt rfl)) ?_
 rintro _ ⟨b, hb, rfl⟩
 refine Nl <| Cn rfl (fun hc => ?_) (fun hc => ?_)
 ·obtain rfl := hb hc
  refine SR <| Ac (Z0j (A := Za (.slice none 0 0)) rfl rfl vc) rfl <| Nl <| AW.ret ?_
  obtain rfl := (Z8f h).2
  exact Z4g (i := 1001) Tryz.results328 rfl rfl rfl
 ·refine AW.skip <| SR <| Ct rfl (Zf1 1002 (ps := []) (l := []) rfl rfl Z4d Zn8 rfl rfl rfl rfl) ?_
  rintro _ ⟨v1, rfl⟩
  refine Md rfl <| Ct rfl (Z5t 1002 h rfl rfl Zyr (vt rfl) rfl (vt rfl)) ?_
  rintro _ ⟨v2, rfl⟩
  refine Aw rfl <| Nl <| AW.ret ?_
  exact Z4g (i := 1002) Tryz.results328 rfl rfl rfl
def Z65 : Nat → Nat → (List Bucket) → Option (List Bucket)
 | 0, i6, l5 => some l5
 | m7 + 1, i6, l5 => (lget l5 (i6 : Int)).bind fun e8 => (Z5v e8.Acts).bind fun x9 => (lget l5 (i6 : Int)).bind fun e10 => (Z65 m7) (i6 + 1) (List.set l5 (i6 : Int).toNat { e10 with Acts := x9 })
def Zfc (l1 : (List Bucket)) : Option (List Bucket) :=
 (Zgl l1).bind fun x2 => Z65 ((x2.length : Int) : Int).toNat 0 x2
theorem Y6e (l1 : (List Bucket)) (r : (List Bucket)) (h : Zfc l1 = some r) : PCon Tryz.prog 290 [rd (Z2 Z0f) l1] (rd (Z2 Z0f) r) := by
 refine PCon.of (Con.intro0 Tryz.func290 rfl Tryz.ntmps290 rfl fun w H => ?_)
 unfold Zfc at h
 refine SR <| Ac (Z0j (A := rd (Z2 Z0f) []) rfl rfl Z3h) rfl <| Nl <| AW.seq ?_
 obtain ⟨x2, hx2, h⟩ := Z1 h
 refine Rg <| Md rfl <| Ct rfl (Z12 1001 (xs := [.tmp 5]) (Zvl _ _ hx2) Y58 rfl rfl ⟨vt rfl, trivial⟩ rfl) ?_
 rintro _ ⟨v3, rfl⟩
 refine Aw rfl <| Nl <| AW.seq <| SR <| Mw rfl <| Ac (Zae 1001 rfl rfl Z4d (vt rfl) rfl) rfl <| Mk rfl <| Nl <| AW.block <| AW.loopG (d := []) (ν := Nat × Nat × (List Bucket)) (fun n => Cnt (x2.length : Int) n.2.1 n.1 ∧ Z65 n.1 n.2.1 n.2.2 = some r) (fun n => n.1) (fun n => [(3, Za v3), (8, rd (Z0 .i64) (x2.length : Int)), (9, rd (Z0 .i64) (n.2.1 : Int))]) (fun n => [(1001, Z9 v3 226 Z0f n.2.2)]) (((x2.length : Int) : Int).toNat, 0, x2) ⟨Cnt.start _, h⟩ ⟨rfl, ⟨rfl, rfl, rfl, trivial⟩, ⟨rfl, trivial⟩⟩ ?_
 rintro ⟨m7, i6, l5⟩ ⟨hsf1, h⟩
 change Cnt (x2.length : Int) i6 m7 at hsf1
 change Z65 m7 i6 l5 = some r at h
 change AW _ _ _ ⟨Zw [(3, Za v3), (8, rd (Z0 .i64) (x2.length : Int)), (9, rd (Z0 .i64) (i6 : Int))], Zx [(1001, Z9 v3 226 Z0f l5)], _⟩
 cases m7 with
 | zero =>
  unfold Z65 at h
  refine SR <| Ac (Zi rfl rfl (vt rfl) (vt rfl)) rfl <| Nl <| AW.seq <| Cn rfl (fun hc => absurd (of_decide_eq_true hc) hsf1.zero) (fun hc => ?_)
  refine AW.exit <| SR <| Mw rfl <| Aw rfl <| Nl <| AW.freezes [2, 3, 23] 1001 rfl ⟨rfl, rfl, rfl, trivial⟩ rfl <| AW.ret ?_
  obtain rfl := si h
  exact Zg Tryz.results290 rfl (Zf rfl)
 | succ m7 =>
  unfold Z65 at h
  generalize hgo1 : Z65 m7 = go1 at h
  refine SR <| Ac (Zi rfl rfl (vt rfl) (vt rfl)) rfl <| Nl <| AW.seq <| Cn rfl (fun hc => ?_) (fun hc => absurd hsf1.succ (of_decide_eq_false hc))
  have hlti6 := of_decide_eq_true hc
  refine AW.skip <| AW.seq <| AW.block <| SR <| Md rfl <| As rfl <| Nl ?_
  obtain ⟨e8, he8, h⟩ := Z1 h
  obtain ⟨x9, hx9, h⟩ := Z1 h
  obtain ⟨e10, he10, h⟩ := Z1 h
  refine Rg <| Mw rfl <| Md rfl <| Mw rfl <| Md rfl <| Ac (Z1q 1001 rfl rfl Z4d (vt rfl) rfl (vt rfl) he8) rfl <| Ac (Zcn Zb1 rfl rfl Zdu (vt rfl)) rfl <| Ac (Z13 1001 rfl rfl Z49 (vt rfl) rfl (Z06 he8).2) rfl <| Cl [18] (Zr9 _ _ hx9) Zjd rfl <| Ac (Z1q 1001 rfl rfl Z4d (vt rfl) rfl (vt rfl) he10) rfl <| Ac (Zcn Zb1 rfl rfl Zdu (vt rfl)) rfl <| Ac (Z2d 1001 rfl rfl Z49 (vt rfl) rfl (Z06 he10).2 (vt rfl)) rfl <| Nl <| Rg <| Ac (Z17 (t := 8) rfl rfl (vt rfl) (vk rfl) (vt rfl) hlti6) rfl <| Md rfl <| Nl ?_
  subst hgo1
  exact ⟨(m7, i6 + 1, (List.set l5 (i6 : Int).toNat { e10 with Acts := x9 })), Nat.lt_succ_self _, ⟨hsf1.next, h⟩, ⟨rfl, ⟨rfl, rfl, rfl, trivial⟩, ⟨rfl, trivial⟩⟩⟩
def Z7i : Nat → Nat → (List Group) → Option (List Group)
 | 0, i6, l5 => some l5
 | m7 + 1, i6, l5 => (lget l5 (i6 : Int)).bind fun e8 => (Zfc e8.Buckets).bind fun x9 => (lget l5 (i6 : Int)).bind fun e10 => (Z7i m7) (i6 + 1) (List.set l5 (i6 : Int).toNat { e10 with Buckets := x9 })
def Zf5 (l1 : (List Group)) : Option (List Group) :=
 (Zjj l1).bind fun x2 => Z7i ((x2.length : Int) : Int).toNat 0 x2
theorem Y0n (l1 : (List Group)) (r : (List Group)) (h : Zf5 l1 = some r) : PCon Tryz.prog 242 [rd (Z2 Z02) l1] (rd (Z2 Z02) r) := by
 refine PCon.of (Con.intro0 Tryz.func242 rfl Tryz.ntmps242 rfl fun w H => ?_)
 unfold Zf5 at h
 refine SR <| Ac (Z0j (A := rd (Z2 Z02) []) rfl rfl Z3h) rfl <| Nl <| AW.seq ?_
 obtain ⟨x2, hx2, h⟩ := Z1 h
 refine Rg <| Md rfl <| Ct rfl (Z12 1001 (xs := [.tmp 5]) (Y4o _ _ hx2) Y36 rfl rfl ⟨vt rfl, trivial⟩ rfl) ?_
 rintro _ ⟨v3, rfl⟩
 refine Aw rfl <| Nl <| AW.seq <| SR <| Mw rfl <| Ac (Zae 1001 rfl rfl Z2n (vt rfl) rfl) rfl <| Mk rfl <| Nl <| AW.block <| AW.loopG (d := []) (ν := Nat × Nat × (List Group)) (fun n => Cnt (x2.length : Int) n.2.1 n.1 ∧ Z7i n.1 n.2.1 n.2.2 = some r) (fun n => n.1) (fun n => [(3, Za v3), (8, rd (Z0 .i64) (x2.length : Int)), (9, rd (Z0 .i64) (n.2.1 : Int))]) (fun n => [(1001, Z9 v3 164 Z02 n.2.2)]) (((x2.length : Int) : Int).toNat, 0, x2) ⟨Cnt.start _, h⟩ ⟨rfl, ⟨rfl, rfl, rfl, trivial⟩, ⟨rfl, trivial⟩⟩ ?_
 rintro ⟨m7, i6, l5⟩ ⟨hsf1, h⟩
 change Cnt (x2.length : Int) i6 m7 at hsf1
 change Z7i m7 i6 l5 = some r at h
 change AW _ _ _ ⟨Zw [(3, Za v3), (8, rd (Z0 .i64) (x2.length : Int)), (9, rd (Z0 .i64) (i6 : Int))], Zx [(1001, Z9 v3 164 Z02 l5)], _⟩
 cases m7 with
 | zero =>
  unfold Z7i at h
  refine SR <| Ac (Zi rfl rfl (vt rfl) (vt rfl)) rfl <| Nl <| AW.seq <| Cn rfl (fun hc => absurd (of_decide_eq_true hc) hsf1.zero) (fun hc => ?_)
  refine AW.exit <| SR <| Mw rfl <| Aw rfl <| Nl <| AW.freezes [2, 3, 23] 1001 rfl ⟨rfl, rfl, rfl, trivial⟩ rfl <| AW.ret ?_
  obtain rfl := si h
  exact Zg Tryz.results242 rfl (Zf rfl)
 | succ m7 =>
  unfold Z7i at h
  generalize hgo1 : Z7i m7 = go1 at h
  refine SR <| Ac (Zi rfl rfl (vt rfl) (vt rfl)) rfl <| Nl <| AW.seq <| Cn rfl (fun hc => ?_) (fun hc => absurd hsf1.succ (of_decide_eq_false hc))
  have hlti6 := of_decide_eq_true hc
  refine AW.skip <| AW.seq <| AW.block <| SR <| Md rfl <| As rfl <| Nl ?_
  obtain ⟨e8, he8, h⟩ := Z1 h
  obtain ⟨x9, hx9, h⟩ := Z1 h
  obtain ⟨e10, he10, h⟩ := Z1 h
  refine Rg <| Mw rfl <| Md rfl <| Mw rfl <| Md rfl <| Ac (Z1q 1001 rfl rfl Z2n (vt rfl) rfl (vt rfl) he8) rfl <| Ac (Zcn Zcb rfl rfl Zek (vt rfl)) rfl <| Ac (Z13 1001 rfl rfl Zel (vt rfl) rfl (Z06 he8).2) rfl <| Cl [18] (Y6e _ _ hx9) Zw0 rfl <| Ac (Z1q 1001 rfl rfl Z2n (vt rfl) rfl (vt rfl) he10) rfl <| Ac (Zcn Zcb rfl rfl Zek (vt rfl)) rfl <| Ac (Z2d 1001 rfl rfl Zel (vt rfl) rfl (Z06 he10).2 (vt rfl)) rfl <| Nl <| Rg <| Ac (Z17 (t := 8) rfl rfl (vt rfl) (vk rfl) (vt rfl) hlti6) rfl <| Md rfl <| Nl ?_
  subst hgo1
  exact ⟨(m7, i6 + 1, (List.set l5 (i6 : Int).toNat { e10 with Buckets := x9 })), Nat.lt_succ_self _, ⟨hsf1.next, h⟩, ⟨rfl, ⟨rfl, rfl, rfl, trivial⟩, ⟨rfl, trivial⟩⟩⟩
def Zeh (l1 : (List Group)) (id2 : Int) : Option (Group × Bool) :=
 (Zhl l1 id2).bind fun x4 => (bif (decide (x4 < 0)) then some ((⟨0, 0, []⟩ : Group), false) else (Zb9 l1 x4 (IntKind.i64.wrap (x4 + 1))).bind fun s5 => (Zf5 s5).bind fun x6 => (lget x6 0).bind fun e7 => some (e7, true))
theorem Y2x (l1 : (List Group)) (id2 : Int) (r : (Group × Bool)) (h : Zeh l1 id2 = some r) : PCon Tryz.prog 180 [rd (Z2 Z02) l1, rd (Z0 .i64) id2] (Z1d (rd Z02 r.1) (rd Z6 r.2)) := by
 refine PCon.of (Con.intro0 Tryz.func180 rfl Tryz.ntmps180 rfl fun w H => ?_)
 unfold Zeh at h
 refine SR <| Ct rfl (Zo 5 rfl rfl Z89) ?_
 rintro _ ⟨g3, rfl⟩
 refine Ab rfl <| Nl <| AW.seq ?_
 obtain ⟨x4, hx4, h⟩ := Z1 h
 refine Rg <| Md rfl <| Md rfl <| Cl [7, 8] (Y7p _ _ _ hx4) Y6d rfl <| As rfl <| Nl <| AW.seq <| SR <| Md rfl <| Ac (Zi rfl rfl (vt rfl) (vk rfl)) rfl <| Nl <| Cn rfl (fun hc => ?_) (fun hc => ?_)
 ·have h := Zj hc h
  refine SR <| Ac (Z03 (ps := []) (x := (⟨0, 0, []⟩ : Group)) rfl rfl rfl (by kernel_rfl) Z89 rfl) rfl <| Zh Z3e 5 rfl <| Ab rfl <| Nl <| AW.ret ?_
  obtain rfl := si h
  exact Z2b Tryz.results180 rfl (Z04 rfl (i := 5) rfl Z3e) (Zf rfl)
 ·have h := Zk hc h
  refine AW.skip <| AW.seq ?_
  obtain ⟨s5, hs5, h⟩ := Z1 h
  obtain ⟨x6, hx6, h⟩ := Z1 h
  obtain ⟨e7, he7, h⟩ := Z1 h
  refine Rg <| Md rfl <| Md rfl <| Md rfl <| Ac (Z0e rfl rfl (vt rfl) (vk rfl)) rfl <| Ac (Y3j hs5 rfl rfl Z2n (vt rfl) (vt rfl) (vt rfl)) rfl <| Cl [17] (Y0n _ _ hx6) Y7l rfl <| Ac (Z10 rfl rfl Z2n (vt rfl) (vk rfl) he7) rfl <| Lp1 Z3e rfl <| Zh Z3e 5 rfl <| Ab rfl <| Nl <| AW.ret ?_
  obtain rfl := si h
  exact Z2b Tryz.results180 rfl (Z04 rfl (i := 5) rfl Z3e) (Zf rfl)
def Z64 (l1 : (List Group)) : (List Group) → Nat → (List Group) → Option (List Group)
 | [], i6, l4 => some l4
 | x8 :: l7, i6, l4 => (Z58 l1 (i6 : Int)).bind fun s10 => (Zeh s10 x8.ID).bind fun x11 => (Z1o l4 [x11.1]).bind fun l13 => (Z64 l1 l7) (i6 + 1) l13
def Zf2 (l1 : (List Group)) : Option (List Group) :=
 Z64 l1 l1 0 []
theorem Y4z (l1 : (List Group)) (r : (List Group)) (h : Zf2 l1 = some r) : PCon Tryz.prog 112 [rd (Z2 Z02) l1] (rd (Z2 Z02) r) := by
 refine PCon.of (Con.intro0 Tryz.func112 rfl Tryz.ntmps112 rfl fun w H => ?_)
 unfold Zf2 at h
 refine SR <| Ac (Z0j (A := rd (Z2 Z02) []) rfl rfl Z3h) rfl <| Nl <| AW.seq <| AW.newnil 1001 164 Z02 <| Rg <| Ac (Z0j rfl rfl vc) rfl <| Nl <| AW.seq <| SR <| Md rfl <| Ac (Z0k rfl rfl Z2n (vt rfl)) rfl <| Mk rfl <| Nl <| AW.block <| AW.loopG (d := []) (ν := (List Group) × Nat × (List Group) × Value) (fun n => Sfx l1 n.2.1 n.1 ∧ Z64 l1 n.1 n.2.1 n.2.2.1 = some r) (fun n => n.1.length) (fun n => [(0, rd (Z2 Z02) l1), (3, Za n.2.2.2), (8, rd (Z2 Z02) l1), (9, rd (Z0 .i64) (l1.length : Int)), (10, rd (Z0 .i64) (n.2.1 : Int))]) (fun n => [(1001, Z9 n.2.2.2 164 Z02 n.2.2.1)]) (l1, 0, [], (.slice none 0 0)) ⟨Sfx.start _, h⟩ ⟨rfl, ⟨rfl, rfl, rfl, rfl, rfl, trivial⟩, ⟨rfl, trivial⟩⟩ ?_
 rintro ⟨l7, i6, l4, v5⟩ ⟨hsf1, h⟩
 change Sfx l1 i6 l7 at hsf1
 change Z64 l1 l7 i6 l4 = some r at h
 change AW _ _ _ ⟨Zw [(0, rd (Z2 Z02) l1), (3, Za v5), (8, rd (Z2 Z02) l1), (9, rd (Z0 .i64) (l1.length : Int)), (10, rd (Z0 .i64) (i6 : Int))], Zx [(1001, Z9 v5 164 Z02 l4)], _⟩
 cases l7 with
 | nil =>
  unfold Z64 at h
  refine SR <| Ac (Zi rfl rfl (vt rfl) (vt rfl)) rfl <| Nl <| AW.seq <| Cn rfl (fun hc => absurd (of_decide_eq_true hc) hsf1.nil) (fun hc => ?_)
  refine AW.exit <| SR <| Mw rfl <| Aw rfl <| Nl <| AW.freezes [2, 3, 29] 1001 rfl ⟨rfl, rfl, rfl, trivial⟩ rfl <| AW.ret ?_
  obtain rfl := si h
  exact Zg Tryz.results112 rfl (Zf rfl)
 | cons x8 l7 =>
  unfold Z64 at h
  generalize hgo1 : Z64 l1 l7 = go1 at h
  refine SR <| Ac (Zi rfl rfl (vt rfl) (vt rfl)) rfl <| Nl <| AW.seq <| Cn rfl (fun hc => ?_) (fun hc => absurd hsf1.cons (of_decide_eq_false hc))
  have hlti6 := of_decide_eq_true hc
  refine AW.skip <| AW.seq <| AW.block <| SR <| Md rfl <| Ac (Z10 rfl rfl Z2n (vt rfl) (vt rfl) hsf1.lget) rfl <| Lp1 Z3e rfl <| Ct rfl (Zo 6 rfl rfl Z89) ?_
  rintro _ ⟨g9, rfl⟩
  refine As rfl <| Zh Z3e 6 rfl <| Nl <| AW.seq ?_
  obtain ⟨s10, hs10, h⟩ := Z1 h
  obtain ⟨x11, hx11, h⟩ := Z1 h
  refine AW.regionAny [⟨[0], [16], [], []⟩, ⟨[4], [17], [], []⟩, ⟨[16, 17], [18], [], []⟩, ⟨[5], [19], [], []⟩, ⟨[19], [20], [6], []⟩, ⟨[18, 20], [21], [], []⟩, ⟨[21], [15], [], []⟩, ⟨[15], [22], [], []⟩, ⟨[15], [23], [], []⟩, ⟨[], [6], [], []⟩, ⟨[6, 22], [6], [], []⟩, ⟨[23], [7], [], []⟩] Z05 (by kernel_rfl) <| SMd rfl <| SMd rfl <| Sc (lo [16, 17] [] rfl fun S hs hr => Zuo hs10 rfl rfl Z2n (vh hs 16 rfl rfl) (vh hs 17 rfl rfl)) rfl <| SFd Zds Zh9 rfl <| SLd Zu 6 rfl <| SCl [18, 20] (Y2x _ _ _ hx11) Zy1 rfl <| Sc (lo [21] [] rfl fun S hs hr => Zq (A := Z1d (rd Z02 x11.1) (rd Z6 x11.2)) rfl rfl (vh hs 21 rfl rfl)) rfl <| Sc (lo [15] [] rfl fun S hs hr => Z28 rfl rfl (vh hs 15 rfl rfl)) rfl <| Sc (lo [15] [] rfl fun S hs hr => Z25 rfl rfl (vh hs 15 rfl rfl)) rfl <| Sc (Z2e (us := [(6, Z37 164 Z02 Zjs)]) (ur := []) [] [] rfl fun S hs hr => Zcg rfl rfl rfl Z89) rfl <| Sc (Z2e (us := [(6, Z37 164 Z02 x11.1)]) (ur := []) [6, 22] [] rfl fun S hs hr => Zb5 rfl rfl Z3e ((hs 6 rfl).trans rfl) (vh hs 22 rfl rfl)) rfl <| SAs rfl <| AW.unpackP 6 7 rfl rfl fun g12 => ?_
  obtain ⟨l13, hl13, h⟩ := Z1 h
  refine Rg <| Mw rfl <| Ld Z3e 7 rfl <| Ac (Z3k (ps := [(0, .tmp 25)]) (l := [x11.1]) rfl rfl Z2n Z89 rfl rfl ⟨_, _, Lens.idx 1 Z02 0 (by decide), _, rfl, (vt rfl), rfl⟩ rfl) rfl <| Ct rfl (Z5t 1001 hl13 rfl rfl Zoe (vt rfl) rfl (vt rfl)) ?_
  rintro _ ⟨v14, rfl⟩
  refine Aw rfl <| Nl <| Rg <| Ac (Z17 (t := 9) rfl rfl (vt rfl) (vk rfl) (vt rfl) hlti6) rfl <| Md rfl <| Nl ?_
  subst hgo1
  exact ⟨(l7, i6 + 1, l13, v14), Nat.lt_succ_self _, ⟨hsf1.next, h⟩, ⟨rfl, ⟨rfl, rfl, rfl, rfl, rfl, trivial⟩, ⟨rfl, trivial⟩⟩⟩
def Zal (s1 : Switch) (most2 : Int) : Option (Flat × Int) :=
 (Zah s1).bind fun x5 => (Zi0 x5 most2).bind fun x6 => (bif (decide (x6.2 ≠ 0)) then some ((⟨[], []⟩ : Flat), x6.2) else (Zf2 s1.Groups).bind fun x7 => some ((⟨x6.1, x7⟩ : Flat), 0))
theorem Zko (s1 : Switch) (most2 : Int) (r : (Flat × Int)) (h : Zal s1 most2 = some r) : PCon Tryz.prog 54 [rd Z0v s1, rd (Z0 .i64) most2] (Z1d (rd Z5c r.1) (rd (Z0 .i64) r.2)) := by
 refine PCon.of (Con.intro0 Tryz.func54 rfl Tryz.ntmps54 rfl fun w H => ?_)
 unfold Zal at h
 refine SR <| Ct rfl (Zs 3 rfl rfl (vt rfl)) ?_
 rintro _ ⟨g3, rfl⟩
 refine Ct rfl (Zo 5 rfl rfl Za5) ?_
 rintro _ ⟨g4, rfl⟩
 refine Ak rfl <| Nl <| AW.seq ?_
 obtain ⟨x5, hx5, h⟩ := Z1 h
 obtain ⟨x6, hx6, h⟩ := Z1 h
 refine Rg <| Ld Z48 3 rfl <| Cl [9] (Zr2 _ _ hx5) e25 rfl <| Md rfl <| Cl [10, 11] (Y08 _ _ _ hx6) Y5c rfl <| Mt2 rfl <| Ac (Z28 rfl rfl (vt rfl)) rfl <| Ac (Z25 rfl rfl (vt rfl)) rfl <| As rfl <| As rfl <| Nl <| AW.seq <| SR <| Md rfl <| Ac (Z74 rfl rfl (vt rfl) (vk rfl)) rfl <| Nl <| Cn rfl (fun hc => ?_) (fun hc => ?_)
 ·have h := Zj hc h
  refine SR <| Ac (Z03 (ps := []) (x := (⟨[], []⟩ : Flat)) rfl rfl rfl (by kernel_rfl) Za5 rfl) rfl <| Md rfl <| Zh Z6f 5 rfl <| As rfl <| Nl <| AW.ret ?_
  obtain rfl := si h
  exact Z2b Tryz.results54 rfl (Z04 rfl (i := 5) rfl Z6f) (Zf rfl)
 ·have h := Zk hc h
  refine AW.skip <| AW.seq ?_
  obtain ⟨x7, hx7, h⟩ := Z1 h
  refine Rg <| Md rfl <| Zt Zke Zsw rfl <| Ld Zhi 3 rfl <| Cl [21] (Y4z _ _ hx7) Zvi rfl <| Ac (Z03 (ps := [(0, .tmp 19), (1, .tmp 22)]) (x := (⟨x6.1, x7⟩ : Flat)) rfl rfl rfl (by kernel_rfl) Za5 ⟨_, _, Z95, _, by kernel_rfl, (vt rfl), _, _, Zhv, _, by kernel_rfl, (vt rfl), rfl⟩) rfl <| Zh Z6f 5 rfl <| Ak rfl <| Nl <| AW.ret ?_
  obtain rfl := si h
  exact Z2b Tryz.results54 rfl (Z04 rfl (i := 5) rfl Z6f) (Zf rfl)
def Z6y : (List Rule) → Nat → (List (Vector Tern 24)) → Option (List (Vector Tern 24))
 | [], i6, l5 => some l5
 | x8 :: l7, i6, l5 => (lget l5 (i6 : Int)).bind fun e10 => (Z6y l7) (i6 + 1) (List.set l5 (i6 : Int).toNat x8.Cube)
def Zfy (l1 : (List Rule)) : Option (List (Vector Tern 24)) :=
 (omk (l1.length : Int)).bind fun u2 => Z6y l1 0 (List.replicate (l1.length : Int).toNat (Vector.replicate 24 Z0h))
theorem Zzt (l1 : (List Rule)) (r : (List (Vector Tern 24))) (h : Zfy l1 = some r) : PCon Tryz.prog 169 [rd (Z2 Zv) l1] (rd (Z2 (Z3 24 Z4)) r) := by
 refine PCon.of (Con.intro0 Tryz.func169 rfl Tryz.ntmps169 rfl fun w H => ?_)
 unfold Zfy at h
 refine SR <| Ac (Z0j (A := rd (Z2 (Z3 24 Z4)) []) rfl rfl Z3h) rfl <| Nl <| AW.seq ?_
 obtain ⟨u2, hu2, h⟩ := Z1 h
 refine Rg <| Md rfl <| Ac (Z0k rfl rfl Z2f (vt rfl)) rfl <| Ct rfl (Y18 1001 hu2 rfl rfl Zlr Z1j (vt rfl) (vt rfl)) ?_
 rintro _ ⟨v3, rfl⟩
 refine Aw rfl <| Nl <| AW.seq <| SR <| Md rfl <| Ac (Z0k rfl rfl Z2f (vt rfl)) rfl <| Mk rfl <| Nl <| AW.block <| AW.loopG (d := []) (ν := (List Rule) × Nat × (List (Vector Tern 24))) (fun n => Sfx l1 n.2.1 n.1 ∧ Z6y n.1 n.2.1 n.2.2 = some r) (fun n => n.1.length) (fun n => [(3, Za v3), (9, rd (Z2 Zv) l1), (10, rd (Z0 .i64) (l1.length : Int)), (11, rd (Z0 .i64) (n.2.1 : Int))]) (fun n => [(1001, Z9 v3 87 (Z3 24 Z4) n.2.2)]) (l1, 0, (List.replicate (l1.length : Int).toNat (Vector.replicate 24 Z0h))) ⟨Sfx.start _, h⟩ ⟨rfl, ⟨rfl, rfl, rfl, rfl, trivial⟩, ⟨rfl, trivial⟩⟩ ?_
 rintro ⟨l7, i6, l5⟩ ⟨hsf1, h⟩
 change Sfx l1 i6 l7 at hsf1
 change Z6y l7 i6 l5 = some r at h
 change AW _ _ _ ⟨Zw [(3, Za v3), (9, rd (Z2 Zv) l1), (10, rd (Z0 .i64) (l1.length : Int)), (11, rd (Z0 .i64) (i6 : Int))], Zx [(1001, Z9 v3 87 (Z3 24 Z4) l5)], _⟩
 cases l7 with
 | nil =>
  unfold Z6y at h
  refine SR <| Ac (Zi rfl rfl (vt rfl) (vt rfl)) rfl <| Nl <| AW.seq <| Cn rfl (fun hc => absurd (of_decide_eq_true hc) hsf1.nil) (fun hc => ?_)
  refine AW.exit <| SR <| Mw rfl <| Aw rfl <| Nl <| AW.freezes [2, 3, 22] 1001 rfl ⟨rfl, rfl, rfl, trivial⟩ rfl <| AW.ret ?_
  obtain rfl := si h
  exact Zg Tryz.results169 rfl (Zf rfl)
 | cons x8 l7 =>
  unfold Z6y at h
  generalize hgo1 : Z6y l7 = go1 at h
  refine SR <| Ac (Zi rfl rfl (vt rfl) (vt rfl)) rfl <| Nl <| AW.seq <| Cn rfl (fun hc => ?_) (fun hc => absurd hsf1.cons (of_decide_eq_false hc))
  have hlti6 := of_decide_eq_true hc
  refine AW.skip <| AW.seq <| AW.block <| SR <| Md rfl <| Ac (Z10 rfl rfl Z2f (vt rfl) (vt rfl) hsf1.lget) rfl <| Lp1 Z3u rfl <| Ct rfl (Zo 6 rfl rfl Z6q) ?_
  rintro _ ⟨g9, rfl⟩
  refine As rfl <| Zh Z3u 6 rfl <| Nl ?_
  obtain ⟨e10, he10, h⟩ := Z1 h
  refine Rg <| Mw rfl <| Md rfl <| Zt Z98 Zfm rfl <| Ld Z01 6 rfl <| Ac (Z1q 1001 rfl rfl Z3s (vt rfl) rfl (vt rfl) he10) rfl <| Ac (Z2d 1001 rfl rfl Z01 (vt rfl) rfl (Z06 he10).2 (vt rfl)) rfl <| Nl <| Rg <| Ac (Z17 (t := 10) rfl rfl (vt rfl) (vk rfl) (vt rfl) hlti6) rfl <| Md rfl <| Nl ?_
  subst hgo1
  exact ⟨(l7, i6 + 1, (List.set l5 (i6 : Int).toNat x8.Cube)), Nat.lt_succ_self _, ⟨hsf1.next, h⟩, ⟨rfl, ⟨rfl, rfl, rfl, rfl, trivial⟩, ⟨rfl, trivial⟩⟩⟩
def Z5h (cu1 : (Vector Tern 24)) : (List (Vector Tern 24)) → Nat → (List (Vector Tern 24)) → Option (List (Vector Tern 24))
 | [], i8, l6 => some l6
 | x10 :: l9, i8, l6 => (Z7b cu1 x10).bind fun x12 => (bif x12.2 then (Z1o l6 [x10]).bind fun l14 => (Z5h cu1 l9) (i8 + 1) l14 else (Z5h cu1 l9) (i8 + 1) l6)
def Zgn (cu1 : (Vector Tern 24)) (l2 : (List (Vector Tern 24))) : Option (List (Vector Tern 24)) :=
 Z5h cu1 l2 0 []
theorem Zwc (cu1 : (Vector Tern 24)) (l2 : (List (Vector Tern 24))) (r : (List (Vector Tern 24))) (h : Zgn cu1 l2 = some r) : PCon Tryz.prog 247 [rd (Z3 24 Z4) cu1, rd (Z2 (Z3 24 Z4)) l2] (rd (Z2 (Z3 24 Z4)) r) := by
 refine PCon.of (Con.intro0 Tryz.func247 rfl Tryz.ntmps247 rfl fun w H => ?_)
 unfold Zgn at h
 refine SR <| Ct rfl (Zs 3 rfl rfl (vt rfl)) ?_
 rintro _ ⟨g3, rfl⟩
 refine Ac (Z0j (A := rd (Z2 (Z3 24 Z4)) []) rfl rfl Z3h) rfl <| Nl <| AW.seq <| AW.newnil 1001 87 (Z3 24 Z4) <| Rg <| Ac (Z0j rfl rfl vc) rfl <| Nl <| AW.seq <| SR <| Md rfl <| Ac (Z0k rfl rfl Z3s (vt rfl)) rfl <| Mk rfl <| Nl <| AW.block <| AW.loopG (d := []) (ν := (List (Vector Tern 24)) × Nat × (List (Vector Tern 24)) × Value) (fun n => Sfx l2 n.2.1 n.1 ∧ Z5h cu1 n.1 n.2.1 n.2.2.1 = some r) (fun n => n.1.length) (fun n => [(2, Zb g3 (Lens.id (Z3 24 Z4))), (5, Za n.2.2.2), (10, rd (Z2 (Z3 24 Z4)) l2), (11, rd (Z0 .i64) (l2.length : Int)), (12, rd (Z0 .i64) (n.2.1 : Int))]) (fun n => [(3, Zd g3 87 (Z3 24 Z4) cu1), (1001, Z9 n.2.2.2 87 (Z3 24 Z4) n.2.2.1)]) (l2, 0, [], (.slice none 0 0)) ⟨Sfx.start _, h⟩ ⟨rfl, ⟨rfl, rfl, rfl, rfl, rfl, trivial⟩, ⟨rfl, rfl, trivial⟩⟩ ?_
 rintro ⟨l9, i8, l6, v7⟩ ⟨hsf1, h⟩
 change Sfx l2 i8 l9 at hsf1
 change Z5h cu1 l9 i8 l6 = some r at h
 change AW _ _ _ ⟨Zw [(2, Zb g3 (Lens.id (Z3 24 Z4))), (5, Za v7), (10, rd (Z2 (Z3 24 Z4)) l2), (11, rd (Z0 .i64) (l2.length : Int)), (12, rd (Z0 .i64) (i8 : Int))], Zx [(3, Zd g3 87 (Z3 24 Z4) cu1), (1001, Z9 v7 87 (Z3 24 Z4) l6)], _⟩
 cases l9 with
 | nil =>
  unfold Z5h at h
  refine SR <| Ac (Zi rfl rfl (vt rfl) (vt rfl)) rfl <| Nl <| AW.seq <| Cn rfl (fun hc => absurd (of_decide_eq_true hc) hsf1.nil) (fun hc => ?_)
  refine AW.exit <| SR <| Mw rfl <| Aw rfl <| Nl <| AW.freezes [4, 5, 28] 1001 rfl ⟨rfl, rfl, rfl, trivial⟩ rfl <| AW.ret ?_
  obtain rfl := si h
  exact Zg Tryz.results247 rfl (Zf rfl)
 | cons x10 l9 =>
  unfold Z5h at h
  generalize hgo1 : Z5h cu1 l9 = go1 at h
  refine SR <| Ac (Zi rfl rfl (vt rfl) (vt rfl)) rfl <| Nl <| AW.seq <| Cn rfl (fun hc => ?_) (fun hc => absurd hsf1.cons (of_decide_eq_false hc))
  have hlti8 := of_decide_eq_true hc
  refine AW.skip <| AW.seq <| AW.block <| SR <| Ac (Z10 rfl rfl Z3s (vt rfl) (vt rfl) hsf1.lget) rfl <| Lp1 Z01 rfl <| Ct rfl (Zo 8 rfl rfl Z1j) ?_
  rintro _ ⟨g11, rfl⟩
  refine Zh Z01 8 rfl <| Nl <| AW.seq ?_
  obtain ⟨x12, hx12, h⟩ := Z1 h
  refine Rg <| Ld Z01 3 rfl <| Ld Z01 8 rfl <| Cl [17, 18] (Zii _ _ _ hx12) Zja rfl <| Mt2 rfl <| Ac (Z28 rfl rfl (vt rfl)) rfl <| Ac (Z25 rfl rfl (vt rfl)) rfl <| Ct rfl (Zo 9 rfl rfl Z1j) ?_
  rintro _ ⟨g13, rfl⟩
  refine Zh Z01 9 rfl <| As rfl <| Nl <| SR <| Md rfl <| Nl <| Cn rfl (fun hc => ?_) (fun hc => ?_)
  ·have h := Zj hc h
   obtain ⟨l14, hl14, h⟩ := Z1 h
   refine Rg <| Mw rfl <| Ld Z01 8 rfl <| Ac (Z3k (ps := [(0, .tmp 24)]) (l := [x10]) rfl rfl Z3s Z1j rfl rfl ⟨_, _, Lens.idx 1 (Z3 24 Z4) 0 (by decide), _, rfl, (vt rfl), rfl⟩ rfl) rfl <| Ct rfl (Z5t 1001 hl14 rfl rfl Zlr (vt rfl) rfl (vt rfl)) ?_
   rintro _ ⟨v15, rfl⟩
   refine Aw rfl <| Nl <| Rg <| Ac (Z17 (t := 11) rfl rfl (vt rfl) (vk rfl) (vt rfl) hlti8) rfl <| Md rfl <| Nl ?_
   subst hgo1
   exact ⟨(l9, i8 + 1, l14, v15), Nat.lt_succ_self _, ⟨hsf1.next, h⟩, ⟨rfl, ⟨rfl, rfl, rfl, rfl, rfl, trivial⟩, ⟨rfl, rfl, trivial⟩⟩⟩
  ·have h := Zk hc h
   refine AW.skip <| Rg <| Ac (Z17 (t := 11) rfl rfl (vt rfl) (vk rfl) (vt rfl) hlti8) rfl <| Md rfl <| Nl ?_
   subst hgo1
   exact ⟨(l9, i8 + 1, l6, v7), Nat.lt_succ_self _, ⟨hsf1.next, h⟩, ⟨rfl, ⟨rfl, rfl, rfl, rfl, rfl, trivial⟩, ⟨rfl, rfl, trivial⟩⟩⟩
end Go.Proofs.YtknpgojdkobgjaaGreat.W
set_option maxRecDepth 4000
namespace Go.Proofs.YtknpgojdkobgjaaGreat.W
open Go Go.Wb
theorem Zxn : Ent Tryz.prog 247 := Ent.mk Tryz.func247 rfl rfl
theorem Zve : Ent Tryz.prog 248 := Ent.mk Tryz.func248 rfl rfl
theorem Zyz : Ent Tryz.prog 169 := Ent.mk Tryz.func169 rfl rfl
theorem Zvd : Ent Tryz.prog 185 := Ent.mk Tryz.func185 rfl rfl
theorem Y4i : Ent Tryz.prog 117 := Ent.mk Tryz.func117 rfl rfl
theorem Zzg : Ent Tryz.prog 243 := Ent.mk Tryz.func243 rfl rfl
theorem Zyb : Ent Tryz.prog 244 := Ent.mk Tryz.func244 rfl rfl
theorem Y8m : Ent Tryz.prog 181 := Ent.mk Tryz.func181 rfl rfl
def Z5m : (List Tern) → Nat → Int → Option Int
 | [], i5, n4 => some n4
 | x7 :: l6, i5, n4 => (Zbn x7.Mask).bind fun x9 => (Z5m l6) (i5 + 1) (IntKind.i64.wrap (n4 + x9))
def Zdi (cu1 : (Vector Tern 24)) : Option Int :=
 Z5m (Vector.toList cu1) 0 0
theorem Y1l (cu1 : (Vector Tern 24)) (r : Int) (h : Zdi cu1 = some r) : PCon Tryz.prog 248 [rd (Z3 24 Z4) cu1] (rd (Z0 .i64) r) := by
 refine PCon.of (Con.intro0 Tryz.func248 rfl Tryz.ntmps248 rfl fun w H => ?_)
 unfold Zdi at h
 refine SR <| Ct rfl (Zs 2 rfl rfl (vt rfl)) ?_
 rintro _ ⟨g2, rfl⟩
 refine Ak rfl <| Nl <| SR <| Ak rfl <| Nl <| AW.seq <| SR <| Ld Z01 2 rfl <| Mk rfl <| Nl <| AW.block <| AW.loopG (d := []) (ν := (List Tern) × Nat × Int) (fun n => Sfx (Vector.toList cu1) n.2.1 n.1 ∧ Z5m n.1 n.2.1 n.2.2 = some r) (fun n => n.1.length) (fun n => [(3, rd (Z0 .i64) n.2.2), (6, rd (Z3 24 Z4) cu1), (7, rd (Z0 .i64) (n.2.1 : Int))]) (fun n => []) ((Vector.toList cu1), 0, 0) ⟨Sfx.start _, h⟩ ⟨rfl, ⟨rfl, rfl, rfl, trivial⟩, trivial⟩ ?_
 rintro ⟨l6, i5, n4⟩ ⟨hsf1, h⟩
 change Sfx (Vector.toList cu1) i5 l6 at hsf1
 change Z5m l6 i5 n4 = some r at h
 change AW _ _ _ ⟨Zw [(3, rd (Z0 .i64) n4), (6, rd (Z3 24 Z4) cu1), (7, rd (Z0 .i64) (i5 : Int))], Zx [], _⟩
 cases l6 with
 | nil =>
  unfold Z5m at h
  refine SR <| Ac (Zi rfl rfl (vt rfl) (vk rfl)) rfl <| Nl <| AW.seq <| Cn rfl (fun hc => absurd (of_decide_eq_true hc) (hsf1.niln (by simp))) (fun hc => ?_)
  refine AW.exit <| SR <| Md rfl <| As rfl <| Nl <| AW.ret ?_
  obtain rfl := si h
  exact Zg Tryz.results248 rfl (Zf rfl)
 | cons x7 l6 =>
  unfold Z5m at h
  generalize hgo1 : Z5m l6 = go1 at h
  refine SR <| Ac (Zi rfl rfl (vt rfl) (vk rfl)) rfl <| Nl <| AW.seq <| Cn rfl (fun hc => ?_) (fun hc => absurd (hsf1.consn (by simp)) (of_decide_eq_false hc))
  have hlti5 := of_decide_eq_true hc
  refine AW.skip <| AW.seq <| AW.block <| SR <| Ac (Z8i rfl rfl Z2j Zz (vt rfl) (vt rfl) hsf1.lget) rfl <| Ct rfl (Zo 6 rfl rfl Z1k) ?_
  rintro _ ⟨g8, rfl⟩
  refine Zh Zz 6 rfl <| Nl ?_
  obtain ⟨x9, hx9, h⟩ := Z1 h
  refine Rg <| Md rfl <| Zt Z1g Z2h rfl <| Ld Z00 6 rfl <| Cl [12] (Zu4 _ _ hx9) Zry rfl <| Ac (Z0e rfl rfl (vt rfl) (vt rfl)) rfl <| As rfl <| Nl <| Rg <| Ac (Z5q rfl rfl (vt rfl) (vk rfl) rfl hlti5) rfl <| Md rfl <| Nl ?_
  subst hgo1
  exact ⟨(l6, i5 + 1, (IntKind.i64.wrap (n4 + x9))), Nat.lt_succ_self _, ⟨hsf1.next, h⟩, ⟨rfl, ⟨rfl, rfl, rfl, trivial⟩, trivial⟩⟩
def Z6s : (List (Vector Tern 24)) → Nat → Int → Option Int
 | [], i7, n6 => some n6
 | x9 :: l8, i7, n6 => (Zdi x9).bind fun x11 => (Z6s l8) (i7 + 1) (Z32 (IntKind.i64.wrap (n6 * (Z19 x11 1))) 1099511627776)
def Zdm (cu1 : (Vector Tern 24)) (l2 : (List (Vector Tern 24))) : Option Int :=
 (Zgn cu1 l2).bind fun x4 => Z6s x4 0 (Z32 (IntKind.i64.wrap ((x4.length : Int) + 1)) 1099511627776)
theorem Y0z (cu1 : (Vector Tern 24)) (l2 : (List (Vector Tern 24))) (r : Int) (h : Zdm cu1 l2 = some r) : PCon Tryz.prog 185 [rd (Z3 24 Z4) cu1, rd (Z2 (Z3 24 Z4)) l2] (rd (Z0 .i64) r) := by
 refine PCon.of (Con.intro0 Tryz.func185 rfl Tryz.ntmps185 rfl fun w H => ?_)
 unfold Zdm at h
 refine SR <| Ct rfl (Zs 3 rfl rfl (vt rfl)) ?_
 rintro _ ⟨g3, rfl⟩
 refine Ak rfl <| Nl <| AW.seq ?_
 obtain ⟨x4, hx4, h⟩ := Z1 h
 refine Rg <| Ld Z01 3 rfl <| Md rfl <| Cl [9, 10] (Zwc _ _ _ hx4) Zxn rfl <| As rfl <| Nl <| SR <| Md rfl <| Ac (Z0k rfl rfl Z3s (vt rfl)) rfl <| Ac (Z0e rfl rfl (vt rfl) (vk rfl)) rfl <| Ac (Zj2 rfl rfl (vt rfl) (vk rfl)) rfl <| As rfl <| Nl <| AW.seq <| SR <| Md rfl <| Ac (Z0k rfl rfl Z3s (vt rfl)) rfl <| Mk rfl <| Nl <| AW.block <| AW.loopG (d := []) (ν := (List (Vector Tern 24)) × Nat × Int) (fun n => Sfx x4 n.2.1 n.1 ∧ Z6s n.1 n.2.1 n.2.2 = some r) (fun n => n.1.length) (fun n => [(6, rd (Z0 .i64) n.2.2), (16, rd (Z2 (Z3 24 Z4)) x4), (17, rd (Z0 .i64) (x4.length : Int)), (18, rd (Z0 .i64) (n.2.1 : Int))]) (fun n => []) (x4, 0, (Z32 (IntKind.i64.wrap ((x4.length : Int) + 1)) 1099511627776)) ⟨Sfx.start _, h⟩ ⟨rfl, ⟨rfl, rfl, rfl, rfl, trivial⟩, trivial⟩ ?_
 rintro ⟨l8, i7, n6⟩ ⟨hsf1, h⟩
 change Sfx x4 i7 l8 at hsf1
 change Z6s l8 i7 n6 = some r at h
 change AW _ _ _ ⟨Zw [(6, rd (Z0 .i64) n6), (16, rd (Z2 (Z3 24 Z4)) x4), (17, rd (Z0 .i64) (x4.length : Int)), (18, rd (Z0 .i64) (i7 : Int))], Zx [], _⟩
 cases l8 with
 | nil =>
  unfold Z6s at h
  refine SR <| Ac (Zi rfl rfl (vt rfl) (vt rfl)) rfl <| Nl <| AW.seq <| Cn rfl (fun hc => absurd (of_decide_eq_true hc) hsf1.nil) (fun hc => ?_)
  refine AW.exit <| SR <| Md rfl <| As rfl <| Nl <| AW.ret ?_
  obtain rfl := si h
  exact Zg Tryz.results185 rfl (Zf rfl)
 | cons x9 l8 =>
  unfold Z6s at h
  generalize hgo1 : Z6s l8 = go1 at h
  refine SR <| Ac (Zi rfl rfl (vt rfl) (vt rfl)) rfl <| Nl <| AW.seq <| Cn rfl (fun hc => ?_) (fun hc => absurd hsf1.cons (of_decide_eq_false hc))
  have hlti7 := of_decide_eq_true hc
  refine AW.skip <| AW.seq <| AW.block <| SR <| Ac (Z10 rfl rfl Z3s (vt rfl) (vt rfl) hsf1.lget) rfl <| Lp1 Z01 rfl <| Ct rfl (Zo 9 rfl rfl Z1j) ?_
  rintro _ ⟨g10, rfl⟩
  refine Zh Z01 9 rfl <| Nl ?_
  obtain ⟨x11, hx11, h⟩ := Z1 h
  refine Rg <| Md rfl <| Ld Z01 9 rfl <| Cl [23] (Y1l _ _ hx11) Zve rfl <| Ac (Ze7 rfl rfl (vt rfl) (vk rfl)) rfl <| Ac (Z6d rfl rfl (vt rfl) (vt rfl)) rfl <| Ac (Zj2 rfl rfl (vt rfl) (vk rfl)) rfl <| As rfl <| Nl <| Rg <| Ac (Z17 (t := 17) rfl rfl (vt rfl) (vk rfl) (vt rfl) hlti7) rfl <| Md rfl <| Nl ?_
  subst hgo1
  exact ⟨(l8, i7 + 1, (Z32 (IntKind.i64.wrap (n6 * (Z19 x11 1))) 1099511627776)), Nat.lt_succ_self _, ⟨hsf1.next, h⟩, ⟨rfl, ⟨rfl, rfl, rfl, rfl, trivial⟩, trivial⟩⟩
def Z84 (x2 : (List (Vector Tern 24))) : (List (Vector Tern 24)) → Nat → Int → Option Int
 | [], i5, n4 => some n4
 | x7 :: l6, i5, n4 => (Z3v x2 (i5 : Int)).bind fun s9 => (Zdm x7 s9).bind fun x10 => (Z84 x2 l6) (i5 + 1) (Z19 n4 x10)
def Zfi (l1 : (List Rule)) : Option Int :=
 (Zfy l1).bind fun x2 => Z84 x2 x2 0 0
theorem Zwr (l1 : (List Rule)) (r : Int) (h : Zfi l1 = some r) : PCon Tryz.prog 117 [rd (Z2 Zv) l1] (rd (Z0 .i64) r) := by
 refine PCon.of (Con.intro0 Tryz.func117 rfl Tryz.ntmps117 rfl fun w H => ?_)
 unfold Zfi at h
 refine SR <| Ak rfl <| Nl <| AW.seq ?_
 obtain ⟨x2, hx2, h⟩ := Z1 h
 refine Rg <| Md rfl <| Cl [7] (Zzt _ _ hx2) Zyz rfl <| As rfl <| Nl <| SR <| Ak rfl <| Nl <| AW.seq <| SR <| Md rfl <| Ac (Z0k rfl rfl Z3s (vt rfl)) rfl <| Mk rfl <| Nl <| AW.block <| AW.loopG (d := []) (ν := (List (Vector Tern 24)) × Nat × Int) (fun n => Sfx x2 n.2.1 n.1 ∧ Z84 x2 n.1 n.2.1 n.2.2 = some r) (fun n => n.1.length) (fun n => [(3, rd (Z2 (Z3 24 Z4)) x2), (4, rd (Z0 .i64) n.2.2), (9, rd (Z2 (Z3 24 Z4)) x2), (10, rd (Z0 .i64) (x2.length : Int)), (11, rd (Z0 .i64) (n.2.1 : Int))]) (fun n => []) (x2, 0, 0) ⟨Sfx.start _, h⟩ ⟨rfl, ⟨rfl, rfl, rfl, rfl, rfl, trivial⟩, trivial⟩ ?_
 rintro ⟨l6, i5, n4⟩ ⟨hsf1, h⟩
 change Sfx x2 i5 l6 at hsf1
 change Z84 x2 l6 i5 n4 = some r at h
 change AW _ _ _ ⟨Zw [(3, rd (Z2 (Z3 24 Z4)) x2), (4, rd (Z0 .i64) n4), (9, rd (Z2 (Z3 24 Z4)) x2), (10, rd (Z0 .i64) (x2.length : Int)), (11, rd (Z0 .i64) (i5 : Int))], Zx [], _⟩
 cases l6 with
 | nil =>
  unfold Z84 at h
  refine SR <| Ac (Zi rfl rfl (vt rfl) (vt rfl)) rfl <| Nl <| AW.seq <| Cn rfl (fun hc => absurd (of_decide_eq_true hc) hsf1.nil) (fun hc => ?_)
  refine AW.exit <| SR <| Md rfl <| As rfl <| Nl <| AW.ret ?_
  obtain rfl := si h
  exact Zg Tryz.results117 rfl (Zf rfl)
 | cons x7 l6 =>
  unfold Z84 at h
  generalize hgo1 : Z84 x2 l6 = go1 at h
  refine SR <| Ac (Zi rfl rfl (vt rfl) (vt rfl)) rfl <| Nl <| AW.seq <| Cn rfl (fun hc => ?_) (fun hc => absurd hsf1.cons (of_decide_eq_false hc))
  have hlti5 := of_decide_eq_true hc
  refine AW.skip <| AW.seq <| AW.block <| SR <| Md rfl <| Ac (Z10 rfl rfl Z3s (vt rfl) (vt rfl) hsf1.lget) rfl <| Lp1 Z01 rfl <| Ct rfl (Zo 7 rfl rfl Z1j) ?_
  rintro _ ⟨g8, rfl⟩
  refine As rfl <| Zh Z01 7 rfl <| Nl ?_
  obtain ⟨s9, hs9, h⟩ := Z1 h
  obtain ⟨x10, hx10, h⟩ := Z1 h
  refine AW.regionAny [⟨[4], [16], [], []⟩, ⟨[6], [17], [7], []⟩, ⟨[3], [18], [], []⟩, ⟨[5], [19], [], []⟩, ⟨[18, 19], [20], [], []⟩, ⟨[17, 20], [21], [], []⟩, ⟨[16, 21], [22], [], []⟩, ⟨[22], [4], [], []⟩] Z05 (by kernel_rfl) <| SMd rfl <| SLd Z01 7 rfl <| SMd rfl <| SMd rfl <| Sc (lo [18, 19] [] rfl fun S hs hr => Zxi hs9 rfl rfl Z3s (vh hs 18 rfl rfl) (vh hs 19 rfl rfl)) rfl <| SCl [17, 20] (Y0z _ _ _ hx10) Zvd rfl <| Sc (lo [16, 21] [] rfl fun S hs hr => Ze7 rfl rfl (vh hs 16 rfl rfl) (vh hs 21 rfl rfl)) rfl <| SAs rfl <| Rg <| Ac (Z17 (t := 10) rfl rfl (vt rfl) (vk rfl) (vt rfl) hlti5) rfl <| Md rfl <| Nl ?_
  subst hgo1
  exact ⟨(l6, i5 + 1, (Z19 n4 x10)), Nat.lt_succ_self _, ⟨hsf1.next, h⟩, ⟨rfl, ⟨rfl, rfl, rfl, rfl, rfl, trivial⟩, trivial⟩⟩
def Zan (s1 : Switch) : Option Int :=
 (Zah s1).bind fun x3 => (Zfi x3).bind fun x4 => some x4
theorem Zlc (s1 : Switch) (r : Int) (h : Zan s1 = some r) : PCon Tryz.prog 58 [rd Z0v s1] (rd (Z0 .i64) r) := by
 refine PCon.of (Con.intro0 Tryz.func58 rfl Tryz.ntmps58 rfl fun w H => ?_)
 unfold Zan at h
 refine SR <| Ct rfl (Zs 2 rfl rfl (vt rfl)) ?_
 rintro _ ⟨g2, rfl⟩
 refine Ak rfl <| Nl <| AW.seq ?_
 obtain ⟨x3, hx3, h⟩ := Z1 h
 obtain ⟨x4, hx4, h⟩ := Z1 h
 refine Rg <| Ld Z48 2 rfl <| Cl [3] (Zr2 _ _ hx3) e25 rfl <| Cl [4] (Zwr _ _ hx4) Y4i rfl <| As rfl <| Nl <| AW.ret ?_
 obtain rfl := si h
 exact Zg Tryz.results58 rfl (Zf rfl)
def Z9b (s22 : (List Atom)) (eq3 : (Atom → Atom → Option Bool)) : (List Atom) → Nat → Option Bool
 | [], i4 => some true
 | x6 :: l5, i4 => (lget s22 (i4 : Int)).bind fun e8 => (eq3 x6 e8).bind fun x10 => (bif (!x10) then some false else (Z9b s22 eq3 l5) (i4 + 1))
def Zkz (s11 : (List Atom)) (s22 : (List Atom)) (eq3 : (Atom → Atom → Option Bool)) : Option Bool :=
 (bif (decide ((s11.length : Int) ≠ (s22.length : Int))) then some false else Z9b s22 eq3 s11 0)
theorem Zz4 (s11 : (List Atom)) (s22 : (List Atom)) (eq3 : (Atom → Atom → Option Bool)) (r : Bool) (h : Zkz s11 s22 eq3 = some r) : PCon Tryz.prog 243 [rd (Z2 Z0a) s11, rd (Z2 Z0a) s22, Zl Tryz.prog Z0a Z0a Z6 eq3] (rd Z6 r) := by
 refine PCon.of (Con.intro0 Tryz.func243 rfl Tryz.ntmps243 rfl fun w H => ?_)
 unfold Zkz at h
 refine SR <| Ab rfl <| Nl <| AW.seq <| SR <| Md rfl <| Ac (Z0k rfl rfl Z4y (vt rfl)) rfl <| Md rfl <| Ac (Z0k rfl rfl Z4y (vt rfl)) rfl <| Ac (Z74 rfl rfl (vt rfl) (vt rfl)) rfl <| Nl <| Cn rfl (fun hc => ?_) (fun hc => ?_)
 ·have h := Zj hc h
  refine SR <| Ab rfl <| Nl <| AW.ret ?_
  obtain rfl := si h
  exact Zg Tryz.results243 rfl (Zf rfl)
 ·have h := Zk hc h
  refine AW.skip <| AW.seq <| SR <| Md rfl <| Ac (Z0k rfl rfl Z4y (vt rfl)) rfl <| Mk rfl <| Nl <| AW.block <| AW.loopG (d := []) (ν := (List Atom) × Nat) (fun n => Sfx s11 n.2 n.1 ∧ Z9b s22 eq3 n.1 n.2 = some r) (fun n => n.1.length) (fun n => [(1, rd (Z2 Z0a) s22), (2, Zl Tryz.prog Z0a Z0a Z6 eq3), (15, rd (Z2 Z0a) s11), (16, rd (Z0 .i64) (s11.length : Int)), (17, rd (Z0 .i64) (n.2 : Int))]) (fun n => []) (s11, 0) ⟨Sfx.start _, h⟩ ⟨rfl, ⟨rfl, rfl, rfl, rfl, rfl, trivial⟩, trivial⟩ ?_
  rintro ⟨l5, i4⟩ ⟨hsf1, h⟩
  change Sfx s11 i4 l5 at hsf1
  change Z9b s22 eq3 l5 i4 = some r at h
  change AW _ _ _ ⟨Zw [(1, rd (Z2 Z0a) s22), (2, Zl Tryz.prog Z0a Z0a Z6 eq3), (15, rd (Z2 Z0a) s11), (16, rd (Z0 .i64) (s11.length : Int)), (17, rd (Z0 .i64) (i4 : Int))], Zx [], _⟩
  cases l5 with
  | nil =>
   unfold Z9b at h
   refine SR <| Ac (Zi rfl rfl (vt rfl) (vt rfl)) rfl <| Nl <| AW.seq <| Cn rfl (fun hc => absurd (of_decide_eq_true hc) hsf1.nil) (fun hc => ?_)
   refine AW.exit <| SR <| Ab rfl <| Nl <| AW.ret ?_
   obtain rfl := si h
   exact Zg Tryz.results243 rfl (Zf rfl)
  | cons x6 l5 =>
   unfold Z9b at h
   generalize hgo1 : Z9b s22 eq3 l5 = go1 at h
   refine SR <| Ac (Zi rfl rfl (vt rfl) (vt rfl)) rfl <| Nl <| AW.seq <| Cn rfl (fun hc => ?_) (fun hc => absurd hsf1.cons (of_decide_eq_false hc))
   have hlti4 := of_decide_eq_true hc
   refine AW.skip <| AW.seq <| AW.block <| SR <| Md rfl <| Ac (Z10 rfl rfl Z4y (vt rfl) (vt rfl) hsf1.lget) rfl <| Lp1 Z69 rfl <| Ct rfl (Zo 9 rfl rfl Zdb) ?_
   rintro _ ⟨g7, rfl⟩
   refine As rfl <| Zh Z69 9 rfl <| Nl <| AW.seq ?_
   obtain ⟨e8, he8, h⟩ := Z1 h
   refine Rg <| Md rfl <| Md rfl <| Ac (Z10 rfl rfl Z4y (vt rfl) (vt rfl) he8) rfl <| Lp1 Z69 rfl <| Ct rfl (Zo 10 rfl rfl Zdb) ?_
   rintro _ ⟨g9, rfl⟩
   refine Zh Z69 10 rfl <| Nl <| AW.seq ?_
   obtain ⟨x10, hx10, h⟩ := Z1 h
   refine Rg <| Ac (Zq (A := Zl Tryz.prog Z0a Z0a Z6 eq3) rfl rfl (vt rfl)) rfl <| Ld Z69 9 rfl <| Ld Z69 10 rfl <| Ac (Z4i hx10 rfl rfl (vt rfl) (vt rfl) (vt rfl)) rfl <| Ac (Z0x rfl rfl (vt rfl)) rfl <| Nl <| Cn rfl (fun hc => ?_) (fun hc => ?_)
   ·have h := Zj hc h
    refine SR <| Ab rfl <| Nl <| AW.ret ?_
    obtain rfl := si h
    exact Zg Tryz.results243 rfl (Zf rfl)
   ·have h := Zk hc h
    refine AW.skip <| Rg <| Ac (Z17 (t := 16) rfl rfl (vt rfl) (vk rfl) (vt rfl) hlti4) rfl <| Md rfl <| Nl ?_
    subst hgo1
    exact ⟨(l5, i4 + 1), Nat.lt_succ_self _, ⟨hsf1.next, h⟩, ⟨rfl, ⟨rfl, rfl, rfl, rfl, rfl, trivial⟩, trivial⟩⟩
def Zlg (a1 : Atom) (b2 : Atom) : Option Bool :=
 (Z8o a1.Rewrite).bind fun x5 => (Z8o b2.Rewrite).bind fun x6 => some (decide ({ a1 with Rewrite := x5 } = { b2 with Rewrite := x6 }))
theorem Zyw (a1 : Atom) (b2 : Atom) (r : Bool) (h : Zlg a1 b2 = some r) : PCon Tryz.prog 244 [rd Z0a a1, rd Z0a b2] (rd Z6 r) := by
 refine PCon.of (Con.intro0 Tryz.func244 rfl Tryz.ntmps244 rfl fun w H => ?_)
 unfold Zlg at h
 refine SR <| Ct rfl (Zs 3 rfl rfl (vt rfl)) ?_
 rintro _ ⟨g3, rfl⟩
 refine Ct rfl (Zs 4 rfl rfl (vt rfl)) ?_
 rintro _ ⟨g4, rfl⟩
 refine Ab rfl <| Nl <| AW.seq ?_
 obtain ⟨x5, hx5, h⟩ := Z1 h
 obtain ⟨x6, hx6, h⟩ := Z1 h
 refine AW.regionAny [⟨[2], [5], [], []⟩, ⟨[5], [6], [3], []⟩, ⟨[6], [7], [], []⟩, ⟨[3], [8], [], []⟩, ⟨[8], [9], [4], []⟩, ⟨[9], [10], [], []⟩, ⟨[2], [11], [], []⟩, ⟨[11, 7], [], [3], [3]⟩, ⟨[3], [12], [], []⟩, ⟨[12, 10], [], [4], [4]⟩] Z05 (by kernel_rfl) <| SFd Zc0 Zhr rfl <| SLd Z0d 3 rfl <| SCl [6] (Zh6 _ _ hx5) Zgz rfl <| SFd Zc0 Zhr rfl <| SLd Z0d 4 rfl <| SCl [9] (Zh6 _ _ hx6) Zgz rfl <| SFd Zc0 Zhr rfl <| SSt Z0d 3 rfl <| SFd Zc0 Zhr rfl <| SSt Z0d 4 rfl <| SR <| Ld Z69 3 rfl <| Ld Z69 4 rfl <| Ac (Zha rfl rfl Zyt (by decide) rfl Y4b (vt rfl) (vt rfl)) rfl <| As rfl <| Nl <| AW.ret ?_
 obtain rfl := si h
 exact Zg Tryz.results244 rfl (Zf rfl)
def Zmt (a1 : (List Atom)) (b2 : (List Atom)) : Option Bool :=
 (Zkz a1 b2 Zlg).bind fun x3 => some x3
theorem Zy8 (a1 : (List Atom)) (b2 : (List Atom)) (r : Bool) (h : Zmt a1 b2 = some r) : PCon Tryz.prog 181 [rd (Z2 Z0a) a1, rd (Z2 Z0a) b2] (rd Z6 r) := by
 refine PCon.of (Con.intro0 Tryz.func181 rfl Tryz.ntmps181 rfl fun w H => ?_)
 unfold Zmt at h
 refine SR <| Ab rfl <| Nl <| AW.seq ?_
 obtain ⟨x3, hx3, h⟩ := Z1 h
 refine Rg <| Md rfl <| Md rfl <| Ac (Z0t (xs := [.tmp 5, .tmp 6, .func 244]) (Zz4 _ _ _ _ hx3) Zzg rfl rfl ⟨vt rfl, vt rfl, vf2 Zyb Zyw, trivial⟩) rfl <| As rfl <| Nl <| AW.ret ?_
 obtain rfl := si h
 exact Zg Tryz.results181 rfl (Zf rfl)
def Zjq (a1 : Rule) (b2 : Rule) : Option Bool :=
 (Z92 a1.Cube).bind fun x5 => (Z92 b2.Cube).bind fun x6 => (opt (decide (x5 = x6)) (Zmt a1.Atoms b2.Atoms)).bind fun x7 => some ((decide (x5 = x6)) && x7)
theorem Y63 (a1 : Rule) (b2 : Rule) (r : Bool) (h : Zjq a1 b2 = some r) : PCon Tryz.prog 114 [rd Zv a1, rd Zv b2] (rd Z6 r) := by
 refine PCon.of (Con.intro0 Tryz.func114 rfl Tryz.ntmps114 rfl fun w H => ?_)
 unfold Zjq at h
 refine SR <| Ct rfl (Zs 3 rfl rfl (vt rfl)) ?_
 rintro _ ⟨g3, rfl⟩
 refine Ct rfl (Zs 4 rfl rfl (vt rfl)) ?_
 rintro _ ⟨g4, rfl⟩
 refine Ab rfl <| Nl <| AW.seq ?_
 obtain ⟨x5, hx5, h⟩ := Z1 h
 obtain ⟨x6, hx6, h⟩ := Z1 h
 obtain ⟨x7, hx7, h⟩ := Z1 h
 refine AW.regionAny [⟨[2], [5], [], []⟩, ⟨[5], [6], [3], []⟩, ⟨[6], [7], [], []⟩, ⟨[3], [8], [], []⟩, ⟨[8], [9], [4], []⟩, ⟨[9], [10], [], []⟩, ⟨[7, 10], [11], [], []⟩, ⟨[11], [12], [], []⟩, ⟨[2, 12], [13], [], []⟩, ⟨[13, 12], [14], [3], []⟩, ⟨[3, 12], [15], [], []⟩, ⟨[15, 12], [16], [4], []⟩, ⟨[14, 16, 12], [17], [], []⟩, ⟨[17, 12], [18], [], []⟩, ⟨[18], [4], [], []⟩] Z05 (by kernel_rfl) <| SFd Z98 Zfm rfl <| SLd Z01 3 rfl <| SCl [6] (Zh2 _ _ hx5) Zhj rfl <| SFd Z98 Zfm rfl <| SLd Z01 4 rfl <| SCl [9] (Zh2 _ _ hx6) Zhj rfl <| Sc (lo [7, 10] [] rfl fun S hs hr => Zha rfl rfl Zzn (by decide) rfl Zx5 (vh hs 7 rfl rfl) (vh hs 10 rfl rfl)) rfl <| SMd rfl <| Sc (lg [2, 12] [] rfl fun hq S hs hr => Z1w Z9s rfl rfl Zeo (vh hs 2 rfl rfl)) rfl <| Sc (lg [13, 12] [3] rfl fun hq S hs hr => Z11 rfl rfl Z63 (Zm ((hs 13 rfl).trans rfl) hq) (i := 3) ((hr 3 rfl).trans rfl)) rfl <| Sc (lg [3, 12] [] rfl fun hq S hs hr => Z1w Z9s rfl rfl Zeo (vh hs 3 rfl rfl)) rfl <| Sc (lg [15, 12] [4] rfl fun hq S hs hr => Z11 rfl rfl Z63 (Zm ((hs 15 rfl).trans rfl) hq) (i := 4) ((hr 4 rfl).trans rfl)) rfl <| Sc (lg [14, 16, 12] [] rfl fun hq S hs hr => Z0t (xs := [.tmp 14, .tmp 16]) (Zy8 _ _ _ (Z1m hx7 hq)) Y8m rfl rfl ⟨Zm ((hs 14 rfl).trans rfl) hq, Zm ((hs 16 rfl).trans rfl) hq, trivial⟩) rfl <| Sc (lo [17, 12] [] rfl fun S hs hr => Z16 rfl rfl (vh hs 12 rfl rfl) (vh hs 17 rfl rfl)) rfl <| SAs rfl <| AW.ret ?_
 obtain rfl := si h
 exact Zg Tryz.results114 rfl (Zf rfl)
def Zam (s22 : (List Group)) (eq3 : (Group → Group → Option Bool)) : (List Group) → Nat → Option Bool
 | [], i4 => some true
 | x6 :: l5, i4 => (lget s22 (i4 : Int)).bind fun e8 => (eq3 x6 e8).bind fun x10 => (bif (!x10) then some false else (Zam s22 eq3 l5) (i4 + 1))
def Zk5 (s11 : (List Group)) (s22 : (List Group)) (eq3 : (Group → Group → Option Bool)) : Option Bool :=
 (bif (decide ((s11.length : Int) ≠ (s22.length : Int))) then some false else Zam s22 eq3 s11 0)
theorem Zxt (s11 : (List Group)) (s22 : (List Group)) (eq3 : (Group → Group → Option Bool)) (r : Bool) (h : Zk5 s11 s22 eq3 = some r) : PCon Tryz.prog 182 [rd (Z2 Z02) s11, rd (Z2 Z02) s22, Zl Tryz.prog Z02 Z02 Z6 eq3] (rd Z6 r) := by
 refine PCon.of (Con.intro0 Tryz.func182 rfl Tryz.ntmps182 rfl fun w H => ?_)
 unfold Zk5 at h
 refine SR <| Ab rfl <| Nl <| AW.seq <| SR <| Md rfl <| Ac (Z0k rfl rfl Z2n (vt rfl)) rfl <| Md rfl <| Ac (Z0k rfl rfl Z2n (vt rfl)) rfl <| Ac (Z74 rfl rfl (vt rfl) (vt rfl)) rfl <| Nl <| Cn rfl (fun hc => ?_) (fun hc => ?_)
 ·have h := Zj hc h
  refine SR <| Ab rfl <| Nl <| AW.ret ?_
  obtain rfl := si h
  exact Zg Tryz.results182 rfl (Zf rfl)
 ·have h := Zk hc h
  refine AW.skip <| AW.seq <| SR <| Md rfl <| Ac (Z0k rfl rfl Z2n (vt rfl)) rfl <| Mk rfl <| Nl <| AW.block <| AW.loopG (d := []) (ν := (List Group) × Nat) (fun n => Sfx s11 n.2 n.1 ∧ Zam s22 eq3 n.1 n.2 = some r) (fun n => n.1.length) (fun n => [(1, rd (Z2 Z02) s22), (2, Zl Tryz.prog Z02 Z02 Z6 eq3), (15, rd (Z2 Z02) s11), (16, rd (Z0 .i64) (s11.length : Int)), (17, rd (Z0 .i64) (n.2 : Int))]) (fun n => []) (s11, 0) ⟨Sfx.start _, h⟩ ⟨rfl, ⟨rfl, rfl, rfl, rfl, rfl, trivial⟩, trivial⟩ ?_
  rintro ⟨l5, i4⟩ ⟨hsf1, h⟩
  change Sfx s11 i4 l5 at hsf1
  change Zam s22 eq3 l5 i4 = some r at h
  change AW _ _ _ ⟨Zw [(1, rd (Z2 Z02) s22), (2, Zl Tryz.prog Z02 Z02 Z6 eq3), (15, rd (Z2 Z02) s11), (16, rd (Z0 .i64) (s11.length : Int)), (17, rd (Z0 .i64) (i4 : Int))], Zx [], _⟩
  cases l5 with
  | nil =>
   unfold Zam at h
   refine SR <| Ac (Zi rfl rfl (vt rfl) (vt rfl)) rfl <| Nl <| AW.seq <| Cn rfl (fun hc => absurd (of_decide_eq_true hc) hsf1.nil) (fun hc => ?_)
   refine AW.exit <| SR <| Ab rfl <| Nl <| AW.ret ?_
   obtain rfl := si h
   exact Zg Tryz.results182 rfl (Zf rfl)
  | cons x6 l5 =>
   unfold Zam at h
   generalize hgo1 : Zam s22 eq3 l5 = go1 at h
   refine SR <| Ac (Zi rfl rfl (vt rfl) (vt rfl)) rfl <| Nl <| AW.seq <| Cn rfl (fun hc => ?_) (fun hc => absurd hsf1.cons (of_decide_eq_false hc))
   have hlti4 := of_decide_eq_true hc
   refine AW.skip <| AW.seq <| AW.block <| SR <| Md rfl <| Ac (Z10 rfl rfl Z2n (vt rfl) (vt rfl) hsf1.lget) rfl <| Lp1 Z3e rfl <| Ct rfl (Zo 9 rfl rfl Z89) ?_
   rintro _ ⟨g7, rfl⟩
   refine As rfl <| Zh Z3e 9 rfl <| Nl <| AW.seq ?_
   obtain ⟨e8, he8, h⟩ := Z1 h
   refine Rg <| Md rfl <| Md rfl <| Ac (Z10 rfl rfl Z2n (vt rfl) (vt rfl) he8) rfl <| Lp1 Z3e rfl <| Ct rfl (Zo 10 rfl rfl Z89) ?_
   rintro _ ⟨g9, rfl⟩
   refine Zh Z3e 10 rfl <| Nl <| AW.seq ?_
   obtain ⟨x10, hx10, h⟩ := Z1 h
   refine Rg <| Ac (Zq (A := Zl Tryz.prog Z02 Z02 Z6 eq3) rfl rfl (vt rfl)) rfl <| Ld Z3e 9 rfl <| Ld Z3e 10 rfl <| Ac (Z4i hx10 rfl rfl (vt rfl) (vt rfl) (vt rfl)) rfl <| Ac (Z0x rfl rfl (vt rfl)) rfl <| Nl <| Cn rfl (fun hc => ?_) (fun hc => ?_)
   ·have h := Zj hc h
    refine SR <| Ab rfl <| Nl <| AW.ret ?_
    obtain rfl := si h
    exact Zg Tryz.results182 rfl (Zf rfl)
   ·have h := Zk hc h
    refine AW.skip <| Rg <| Ac (Z17 (t := 16) rfl rfl (vt rfl) (vk rfl) (vt rfl) hlti4) rfl <| Md rfl <| Nl ?_
    subst hgo1
    exact ⟨(l5, i4 + 1), Nat.lt_succ_self _, ⟨hsf1.next, h⟩, ⟨rfl, ⟨rfl, rfl, rfl, rfl, rfl, trivial⟩, trivial⟩⟩
end Go.Proofs.YtknpgojdkobgjaaGreat.W
set_option maxRecDepth 4000
namespace Go.Proofs.YtknpgojdkobgjaaGreat.W
open Go Go.Wb
theorem Y0m : Ent Tryz.prog 339 := Ent.mk Tryz.func339 rfl rfl
theorem Y6r : Ent Tryz.prog 340 := Ent.mk Tryz.func340 rfl rfl
theorem Y4u : Ent Tryz.prog 329 := Ent.mk Tryz.func329 rfl rfl
theorem Y5g : Ent Tryz.prog 291 := Ent.mk Tryz.func291 rfl rfl
theorem Zwb : Ent Tryz.prog 292 := Ent.mk Tryz.func292 rfl rfl
theorem Zxo : Ent Tryz.prog 245 := Ent.mk Tryz.func245 rfl rfl
theorem Zwe : Ent Tryz.prog 182 := Ent.mk Tryz.func182 rfl rfl
theorem Zv4 : Ent Tryz.prog 183 := Ent.mk Tryz.func183 rfl rfl
theorem Y3n : Ent Tryz.prog 114 := Ent.mk Tryz.func114 rfl rfl
theorem Zy5 : Ent Tryz.prog 115 := Ent.mk Tryz.func115 rfl rfl
def Za4 (s22 : (List Bucket)) (eq3 : (Bucket → Bucket → Option Bool)) : (List Bucket) → Nat → Option Bool
 | [], i4 => some true
 | x6 :: l5, i4 => (lget s22 (i4 : Int)).bind fun e8 => (eq3 x6 e8).bind fun x10 => (bif (!x10) then some false else (Za4 s22 eq3 l5) (i4 + 1))
def Zkf (s11 : (List Bucket)) (s22 : (List Bucket)) (eq3 : (Bucket → Bucket → Option Bool)) : Option Bool :=
 (bif (decide ((s11.length : Int) ≠ (s22.length : Int))) then some false else Za4 s22 eq3 s11 0)
theorem Y7b (s11 : (List Bucket)) (s22 : (List Bucket)) (eq3 : (Bucket → Bucket → Option Bool)) (r : Bool) (h : Zkf s11 s22 eq3 = some r) : PCon Tryz.prog 291 [rd (Z2 Z0f) s11, rd (Z2 Z0f) s22, Zl Tryz.prog Z0f Z0f Z6 eq3] (rd Z6 r) := by
 refine PCon.of (Con.intro0 Tryz.func291 rfl Tryz.ntmps291 rfl fun w H => ?_)
 unfold Zkf at h
 refine SR <| Ab rfl <| Nl <| AW.seq <| SR <| Md rfl <| Ac (Z0k rfl rfl Z4d (vt rfl)) rfl <| Md rfl <| Ac (Z0k rfl rfl Z4d (vt rfl)) rfl <| Ac (Z74 rfl rfl (vt rfl) (vt rfl)) rfl <| Nl <| Cn rfl (fun hc => ?_) (fun hc => ?_)
 ·have h := Zj hc h
  refine SR <| Ab rfl <| Nl <| AW.ret ?_
  obtain rfl := si h
  exact Zg Tryz.results291 rfl (Zf rfl)
 ·have h := Zk hc h
  refine AW.skip <| AW.seq <| SR <| Md rfl <| Ac (Z0k rfl rfl Z4d (vt rfl)) rfl <| Mk rfl <| Nl <| AW.block <| AW.loopG (d := []) (ν := (List Bucket) × Nat) (fun n => Sfx s11 n.2 n.1 ∧ Za4 s22 eq3 n.1 n.2 = some r) (fun n => n.1.length) (fun n => [(1, rd (Z2 Z0f) s22), (2, Zl Tryz.prog Z0f Z0f Z6 eq3), (15, rd (Z2 Z0f) s11), (16, rd (Z0 .i64) (s11.length : Int)), (17, rd (Z0 .i64) (n.2 : Int))]) (fun n => []) (s11, 0) ⟨Sfx.start _, h⟩ ⟨rfl, ⟨rfl, rfl, rfl, rfl, rfl, trivial⟩, trivial⟩ ?_
  rintro ⟨l5, i4⟩ ⟨hsf1, h⟩
  change Sfx s11 i4 l5 at hsf1
  change Za4 s22 eq3 l5 i4 = some r at h
  change AW _ _ _ ⟨Zw [(1, rd (Z2 Z0f) s22), (2, Zl Tryz.prog Z0f Z0f Z6 eq3), (15, rd (Z2 Z0f) s11), (16, rd (Z0 .i64) (s11.length : Int)), (17, rd (Z0 .i64) (i4 : Int))], Zx [], _⟩
  cases l5 with
  | nil =>
   unfold Za4 at h
   refine SR <| Ac (Zi rfl rfl (vt rfl) (vt rfl)) rfl <| Nl <| AW.seq <| Cn rfl (fun hc => absurd (of_decide_eq_true hc) hsf1.nil) (fun hc => ?_)
   refine AW.exit <| SR <| Ab rfl <| Nl <| AW.ret ?_
   obtain rfl := si h
   exact Zg Tryz.results291 rfl (Zf rfl)
  | cons x6 l5 =>
   unfold Za4 at h
   generalize hgo1 : Za4 s22 eq3 l5 = go1 at h
   refine SR <| Ac (Zi rfl rfl (vt rfl) (vt rfl)) rfl <| Nl <| AW.seq <| Cn rfl (fun hc => ?_) (fun hc => absurd hsf1.cons (of_decide_eq_false hc))
   have hlti4 := of_decide_eq_true hc
   refine AW.skip <| AW.seq <| AW.block <| SR <| Md rfl <| Ac (Z10 rfl rfl Z4d (vt rfl) (vt rfl) hsf1.lget) rfl <| Lp1 Z9e rfl <| Ct rfl (Zo 9 rfl rfl Zn8) ?_
   rintro _ ⟨g7, rfl⟩
   refine As rfl <| Zh Z9e 9 rfl <| Nl <| AW.seq ?_
   obtain ⟨e8, he8, h⟩ := Z1 h
   refine Rg <| Md rfl <| Md rfl <| Ac (Z10 rfl rfl Z4d (vt rfl) (vt rfl) he8) rfl <| Lp1 Z9e rfl <| Ct rfl (Zo 10 rfl rfl Zn8) ?_
   rintro _ ⟨g9, rfl⟩
   refine Zh Z9e 10 rfl <| Nl <| AW.seq ?_
   obtain ⟨x10, hx10, h⟩ := Z1 h
   refine Rg <| Ac (Zq (A := Zl Tryz.prog Z0f Z0f Z6 eq3) rfl rfl (vt rfl)) rfl <| Ld Z9e 9 rfl <| Ld Z9e 10 rfl <| Ac (Z4i hx10 rfl rfl (vt rfl) (vt rfl) (vt rfl)) rfl <| Ac (Z0x rfl rfl (vt rfl)) rfl <| Nl <| Cn rfl (fun hc => ?_) (fun hc => ?_)
   ·have h := Zj hc h
    refine SR <| Ab rfl <| Nl <| AW.ret ?_
    obtain rfl := si h
    exact Zg Tryz.results291 rfl (Zf rfl)
   ·have h := Zk hc h
    refine AW.skip <| Rg <| Ac (Z17 (t := 16) rfl rfl (vt rfl) (vk rfl) (vt rfl) hlti4) rfl <| Md rfl <| Nl ?_
    subst hgo1
    exact ⟨(l5, i4 + 1), Nat.lt_succ_self _, ⟨hsf1.next, h⟩, ⟨rfl, ⟨rfl, rfl, rfl, rfl, rfl, trivial⟩, trivial⟩⟩
def Zaj (s22 : (List Action)) (eq3 : (Action → Action → Option Bool)) : (List Action) → Nat → Option Bool
 | [], i4 => some true
 | x6 :: l5, i4 => (lget s22 (i4 : Int)).bind fun e8 => (eq3 x6 e8).bind fun x10 => (bif (!x10) then some false else (Zaj s22 eq3 l5) (i4 + 1))
def Zla (s11 : (List Action)) (s22 : (List Action)) (eq3 : (Action → Action → Option Bool)) : Option Bool :=
 (bif (decide ((s11.length : Int) ≠ (s22.length : Int))) then some false else Zaj s22 eq3 s11 0)
theorem Zzd (s11 : (List Action)) (s22 : (List Action)) (eq3 : (Action → Action → Option Bool)) (r : Bool) (h : Zla s11 s22 eq3 = some r) : PCon Tryz.prog 339 [rd (Z2 Z5) s11, rd (Z2 Z5) s22, Zl Tryz.prog Z5 Z5 Z6 eq3] (rd Z6 r) := by
 refine PCon.of (Con.intro0 Tryz.func339 rfl Tryz.ntmps339 rfl fun w H => ?_)
 unfold Zla at h
 refine SR <| Ab rfl <| Nl <| AW.seq <| SR <| Md rfl <| Ac (Z0k rfl rfl Z0n (vt rfl)) rfl <| Md rfl <| Ac (Z0k rfl rfl Z0n (vt rfl)) rfl <| Ac (Z74 rfl rfl (vt rfl) (vt rfl)) rfl <| Nl <| Cn rfl (fun hc => ?_) (fun hc => ?_)
 ·have h := Zj hc h
  refine SR <| Ab rfl <| Nl <| AW.ret ?_
  obtain rfl := si h
  exact Zg Tryz.results339 rfl (Zf rfl)
 ·have h := Zk hc h
  refine AW.skip <| AW.seq <| SR <| Md rfl <| Ac (Z0k rfl rfl Z0n (vt rfl)) rfl <| Mk rfl <| Nl <| AW.block <| AW.loopG (d := []) (ν := (List Action) × Nat) (fun n => Sfx s11 n.2 n.1 ∧ Zaj s22 eq3 n.1 n.2 = some r) (fun n => n.1.length) (fun n => [(1, rd (Z2 Z5) s22), (2, Zl Tryz.prog Z5 Z5 Z6 eq3), (15, rd (Z2 Z5) s11), (16, rd (Z0 .i64) (s11.length : Int)), (17, rd (Z0 .i64) (n.2 : Int))]) (fun n => []) (s11, 0) ⟨Sfx.start _, h⟩ ⟨rfl, ⟨rfl, rfl, rfl, rfl, rfl, trivial⟩, trivial⟩ ?_
  rintro ⟨l5, i4⟩ ⟨hsf1, h⟩
  change Sfx s11 i4 l5 at hsf1
  change Zaj s22 eq3 l5 i4 = some r at h
  change AW _ _ _ ⟨Zw [(1, rd (Z2 Z5) s22), (2, Zl Tryz.prog Z5 Z5 Z6 eq3), (15, rd (Z2 Z5) s11), (16, rd (Z0 .i64) (s11.length : Int)), (17, rd (Z0 .i64) (i4 : Int))], Zx [], _⟩
  cases l5 with
  | nil =>
   unfold Zaj at h
   refine SR <| Ac (Zi rfl rfl (vt rfl) (vt rfl)) rfl <| Nl <| AW.seq <| Cn rfl (fun hc => absurd (of_decide_eq_true hc) hsf1.nil) (fun hc => ?_)
   refine AW.exit <| SR <| Ab rfl <| Nl <| AW.ret ?_
   obtain rfl := si h
   exact Zg Tryz.results339 rfl (Zf rfl)
  | cons x6 l5 =>
   unfold Zaj at h
   generalize hgo1 : Zaj s22 eq3 l5 = go1 at h
   refine SR <| Ac (Zi rfl rfl (vt rfl) (vt rfl)) rfl <| Nl <| AW.seq <| Cn rfl (fun hc => ?_) (fun hc => absurd hsf1.cons (of_decide_eq_false hc))
   have hlti4 := of_decide_eq_true hc
   refine AW.skip <| AW.seq <| AW.block <| SR <| Md rfl <| Ac (Z10 rfl rfl Z0n (vt rfl) (vt rfl) hsf1.lget) rfl <| Lp1 Z0l rfl <| Ct rfl (Zo 9 rfl rfl Z72) ?_
   rintro _ ⟨g7, rfl⟩
   refine As rfl <| Zh Z0l 9 rfl <| Nl <| AW.seq ?_
   obtain ⟨e8, he8, h⟩ := Z1 h
   refine Rg <| Md rfl <| Md rfl <| Ac (Z10 rfl rfl Z0n (vt rfl) (vt rfl) he8) rfl <| Lp1 Z0l rfl <| Ct rfl (Zo 10 rfl rfl Z72) ?_
   rintro _ ⟨g9, rfl⟩
   refine Zh Z0l 10 rfl <| Nl <| AW.seq ?_
   obtain ⟨x10, hx10, h⟩ := Z1 h
   refine Rg <| Ac (Zq (A := Zl Tryz.prog Z5 Z5 Z6 eq3) rfl rfl (vt rfl)) rfl <| Ld Z0l 9 rfl <| Ld Z0l 10 rfl <| Ac (Z4i hx10 rfl rfl (vt rfl) (vt rfl) (vt rfl)) rfl <| Ac (Z0x rfl rfl (vt rfl)) rfl <| Nl <| Cn rfl (fun hc => ?_) (fun hc => ?_)
   ·have h := Zj hc h
    refine SR <| Ab rfl <| Nl <| AW.ret ?_
    obtain rfl := si h
    exact Zg Tryz.results339 rfl (Zf rfl)
   ·have h := Zk hc h
    refine AW.skip <| Rg <| Ac (Z17 (t := 16) rfl rfl (vt rfl) (vk rfl) (vt rfl) hlti4) rfl <| Md rfl <| Nl ?_
    subst hgo1
    exact ⟨(l5, i4 + 1), Nat.lt_succ_self _, ⟨hsf1.next, h⟩, ⟨rfl, ⟨rfl, rfl, rfl, rfl, rfl, trivial⟩, trivial⟩⟩
def Zjm (a1 : Action) (b2 : Action) : Option Bool :=
 some (decide (a1 = b2))
theorem Zz9 (a1 : Action) (b2 : Action) (r : Bool) (h : Zjm a1 b2 = some r) : PCon Tryz.prog 340 [rd Z5 a1, rd Z5 b2] (rd Z6 r) := by
 refine PCon.of (Con.intro0 Tryz.func340 rfl Tryz.ntmps340 rfl fun w H => ?_)
 unfold Zjm at h
 refine SR <| Ct rfl (Zs 3 rfl rfl (vt rfl)) ?_
 rintro _ ⟨g3, rfl⟩
 refine Ct rfl (Zs 4 rfl rfl (vt rfl)) ?_
 rintro _ ⟨g4, rfl⟩
 refine Ab rfl <| Nl <| SR <| Ld Z0l 3 rfl <| Ld Z0l 4 rfl <| Ac (Zha rfl rfl Y1e (by decide) rfl Y1t (vt rfl) (vt rfl)) rfl <| As rfl <| Nl <| AW.ret ?_
 obtain rfl := si h
 exact Zg Tryz.results340 rfl (Zf rfl)
def Zkn (a1 : (List Action)) (b2 : (List Action)) : Option Bool :=
 (Zla a1 b2 Zjm).bind fun x3 => some x3
theorem Y3u (a1 : (List Action)) (b2 : (List Action)) (r : Bool) (h : Zkn a1 b2 = some r) : PCon Tryz.prog 329 [rd (Z2 Z5) a1, rd (Z2 Z5) b2] (rd Z6 r) := by
 refine PCon.of (Con.intro0 Tryz.func329 rfl Tryz.ntmps329 rfl fun w H => ?_)
 unfold Zkn at h
 refine SR <| Ab rfl <| Nl <| AW.seq ?_
 obtain ⟨x3, hx3, h⟩ := Z1 h
 refine Rg <| Md rfl <| Md rfl <| Ac (Z0t (xs := [.tmp 5, .tmp 6, .func 340]) (Zzd _ _ _ _ hx3) Y0m rfl rfl ⟨vt rfl, vt rfl, vf2 Y6r Zz9, trivial⟩) rfl <| As rfl <| Nl <| AW.ret ?_
 obtain rfl := si h
 exact Zg Tryz.results329 rfl (Zf rfl)
def Zn9 (a1 : Bucket) (b2 : Bucket) : Option Bool :=
 (opt (((decide (a1.Weight = b2.Weight)) && (decide (a1.Watch = b2.Watch))) && (decide (a1.WatchGroup = b2.WatchGroup))) (Zkn a1.Acts b2.Acts)).bind fun x5 => some ((((decide (a1.Weight = b2.Weight)) && (decide (a1.Watch = b2.Watch))) && (decide (a1.WatchGroup = b2.WatchGroup))) && x5)
theorem Y2i (a1 : Bucket) (b2 : Bucket) (r : Bool) (h : Zn9 a1 b2 = some r) : PCon Tryz.prog 292 [rd Z0f a1, rd Z0f b2] (rd Z6 r) := by
 refine PCon.of (Con.intro0 Tryz.func292 rfl Tryz.ntmps292 rfl fun w H => ?_)
 unfold Zn9 at h
 refine SR <| Ct rfl (Zs 3 rfl rfl (vt rfl)) ?_
 rintro _ ⟨g3, rfl⟩
 refine Ct rfl (Zs 4 rfl rfl (vt rfl)) ?_
 rintro _ ⟨g4, rfl⟩
 refine Ab rfl <| Nl <| AW.seq ?_
 obtain ⟨x5, hx5, h⟩ := Z1 h
 refine Rg <| Zt Zjv Zun rfl <| Ld Zu 3 rfl <| Zt Zjv Zun rfl <| Ld Zu 4 rfl <| Ac (Z1l rfl rfl (vt rfl) (vt rfl)) rfl <| Md rfl <| Gd rfl (fun hq => Z1w Znm rfl rfl Zud (vt rfl)) <| Gd rfl (fun hq => Z11 rfl rfl Zu (Zm rfl hq) (i := 3) rfl) <| Gd rfl (fun hq => Z1w Znm rfl rfl Zud (vt rfl)) <| Gd rfl (fun hq => Z11 rfl rfl Zu (Zm rfl hq) (i := 4) rfl) <| Gd rfl (fun hq => Z1l rfl rfl (Zm rfl hq) (Zm rfl hq)) <| Ac (Z16 rfl rfl (vt rfl) (vt rfl)) rfl <| Md rfl <| Gd rfl (fun hq => Z1w Zk2 rfl rfl Ztx (vt rfl)) <| Gd rfl (fun hq => Z11 rfl rfl Zu (Zm rfl hq) (i := 3) rfl) <| Gd rfl (fun hq => Z1w Zk2 rfl rfl Ztx (vt rfl)) <| Gd rfl (fun hq => Z11 rfl rfl Zu (Zm rfl hq) (i := 4) rfl) <| Gd rfl (fun hq => Z1l rfl rfl (Zm rfl hq) (Zm rfl hq)) <| Ac (Z16 rfl rfl (vt rfl) (vt rfl)) rfl <| Md rfl <| Gd rfl (fun hq => Z1w Zb1 rfl rfl Zdu (vt rfl)) <| Gd rfl (fun hq => Z11 rfl rfl Z49 (Zm rfl hq) (i := 3) rfl) <| Gd rfl (fun hq => Z1w Zb1 rfl rfl Zdu (vt rfl)) <| Gd rfl (fun hq => Z11 rfl rfl Z49 (Zm rfl hq) (i := 4) rfl) <| Gd rfl (fun hq => Z0t (xs := [.tmp 26, .tmp 28]) (Y3u _ _ _ (Z1m hx5 hq)) Y4u rfl rfl ⟨Zm rfl hq, Zm rfl hq, trivial⟩) <| Ac (Z16 rfl rfl (vt rfl) (vt rfl)) rfl <| As rfl <| Nl <| AW.ret ?_
 obtain rfl := si h
 exact Zg Tryz.results292 rfl (Zf rfl)
def Znp (a1 : (List Bucket)) (b2 : (List Bucket)) : Option Bool :=
 (Zkf a1 b2 Zn9).bind fun x3 => some x3
theorem Y70 (a1 : (List Bucket)) (b2 : (List Bucket)) (r : Bool) (h : Znp a1 b2 = some r) : PCon Tryz.prog 245 [rd (Z2 Z0f) a1, rd (Z2 Z0f) b2] (rd Z6 r) := by
 refine PCon.of (Con.intro0 Tryz.func245 rfl Tryz.ntmps245 rfl fun w H => ?_)
 unfold Znp at h
 refine SR <| Ab rfl <| Nl <| AW.seq ?_
 obtain ⟨x3, hx3, h⟩ := Z1 h
 refine Rg <| Md rfl <| Md rfl <| Ac (Z0t (xs := [.tmp 5, .tmp 6, .func 292]) (Y7b _ _ _ _ hx3) Y5g rfl rfl ⟨vt rfl, vt rfl, vf2 Zwb Y2i, trivial⟩) rfl <| As rfl <| Nl <| AW.ret ?_
 obtain rfl := si h
 exact Zg Tryz.results245 rfl (Zf rfl)
def Znj (a1 : Group) (b2 : Group) : Option Bool :=
 (opt ((decide (a1.ID = b2.ID)) && (decide (a1.Kind = b2.Kind))) (Znp a1.Buckets b2.Buckets)).bind fun x5 => some (((decide (a1.ID = b2.ID)) && (decide (a1.Kind = b2.Kind))) && x5)
theorem Y0l (a1 : Group) (b2 : Group) (r : Bool) (h : Znj a1 b2 = some r) : PCon Tryz.prog 183 [rd Z02 a1, rd Z02 b2] (rd Z6 r) := by
 refine PCon.of (Con.intro0 Tryz.func183 rfl Tryz.ntmps183 rfl fun w H => ?_)
 unfold Znj at h
 refine SR <| Ct rfl (Zs 3 rfl rfl (vt rfl)) ?_
 rintro _ ⟨g3, rfl⟩
 refine Ct rfl (Zs 4 rfl rfl (vt rfl)) ?_
 rintro _ ⟨g4, rfl⟩
 refine Ab rfl <| Nl <| AW.seq ?_
 obtain ⟨x5, hx5, h⟩ := Z1 h
 refine Rg <| Zt Zds Zh9 rfl <| Ld Zu 3 rfl <| Zt Zds Zh9 rfl <| Ld Zu 4 rfl <| Ac (Z1l rfl rfl (vt rfl) (vt rfl)) rfl <| Md rfl <| Gd rfl (fun hq => Z1w Zl7 rfl rfl Ztn (vt rfl)) <| Gd rfl (fun hq => Z11 rfl rfl Zu (Zm rfl hq) (i := 3) rfl) <| Gd rfl (fun hq => Z1w Zl7 rfl rfl Ztn (vt rfl)) <| Gd rfl (fun hq => Z11 rfl rfl Zu (Zm rfl hq) (i := 4) rfl) <| Gd rfl (fun hq => Z1l rfl rfl (Zm rfl hq) (Zm rfl hq)) <| Ac (Z16 rfl rfl (vt rfl) (vt rfl)) rfl <| Md rfl <| Gd rfl (fun hq => Z1w Zcb rfl rfl Zek (vt rfl)) <| Gd rfl (fun hq => Z11 rfl rfl Zel (Zm rfl hq) (i := 3) rfl) <| Gd rfl (fun hq => Z1w Zcb rfl rfl Zek (vt rfl)) <| Gd rfl (fun hq => Z11 rfl rfl Zel (Zm rfl hq) (i := 4) rfl) <| Gd rfl (fun hq => Z0t (xs := [.tmp 19, .tmp 21]) (Y70 _ _ _ (Z1m hx5 hq)) Zxo rfl rfl ⟨Zm rfl hq, Zm rfl hq, trivial⟩) <| Ac (Z16 rfl rfl (vt rfl) (vt rfl)) rfl <| As rfl <| Nl <| AW.ret ?_
 obtain rfl := si h
 exact Zg Tryz.results183 rfl (Zf rfl)
def Zlm (a1 : (List Group)) (b2 : (List Group)) : Option Bool :=
 (Zk5 a1 b2 Znj).bind fun x3 => some x3
theorem Zv8 (a1 : (List Group)) (b2 : (List Group)) (r : Bool) (h : Zlm a1 b2 = some r) : PCon Tryz.prog 115 [rd (Z2 Z02) a1, rd (Z2 Z02) b2] (rd Z6 r) := by
 refine PCon.of (Con.intro0 Tryz.func115 rfl Tryz.ntmps115 rfl fun w H => ?_)
 unfold Zlm at h
 refine SR <| Ab rfl <| Nl <| AW.seq ?_
 obtain ⟨x3, hx3, h⟩ := Z1 h
 refine Rg <| Md rfl <| Md rfl <| Ac (Z0t (xs := [.tmp 5, .tmp 6, .func 183]) (Zxt _ _ _ _ hx3) Zwe rfl rfl ⟨vt rfl, vt rfl, vf2 Zv4 Y0l, trivial⟩) rfl <| As rfl <| Nl <| AW.ret ?_
 obtain rfl := si h
 exact Zg Tryz.results115 rfl (Zf rfl)
def Zhu (a1 : Flat) (b2 : Flat) : Option Bool :=
 (Zn7 a1.Rules b2.Rules Zjq).bind fun x5 => (opt x5 (Zlm a1.Groups b2.Groups)).bind fun x6 => some (x5 && x6)
theorem Zo5 (a1 : Flat) (b2 : Flat) (r : Bool) (h : Zhu a1 b2 = some r) : PCon Tryz.prog 56 [rd Z5c a1, rd Z5c b2] (rd Z6 r) := by
 refine PCon.of (Con.intro0 Tryz.func56 rfl Tryz.ntmps56 rfl fun w H => ?_)
 unfold Zhu at h
 refine SR <| Ct rfl (Zs 3 rfl rfl (vt rfl)) ?_
 rintro _ ⟨g3, rfl⟩
 refine Ct rfl (Zs 4 rfl rfl (vt rfl)) ?_
 rintro _ ⟨g4, rfl⟩
 refine Ab rfl <| Nl <| AW.seq ?_
 obtain ⟨x5, hx5, h⟩ := Z1 h
 obtain ⟨x6, hx6, h⟩ := Z1 h
 refine Rg <| Zt Z95 Zc3 rfl <| Ld Zbd 3 rfl <| Zt Z95 Zc3 rfl <| Ld Zbd 4 rfl <| Ac (Z0t (xs := [.tmp 6, .tmp 8, .func 114]) (Y4f _ _ _ _ hx5) e81 rfl rfl ⟨vt rfl, vt rfl, vf2 Y3n Y63, trivial⟩) rfl <| Md rfl <| Gd rfl (fun hq => Z1w Zhv rfl rfl Zp6 (vt rfl)) <| Gd rfl (fun hq => Z11 rfl rfl Zhi (Zm rfl hq) (i := 3) rfl) <| Gd rfl (fun hq => Z1w Zhv rfl rfl Zp6 (vt rfl)) <| Gd rfl (fun hq => Z11 rfl rfl Zhi (Zm rfl hq) (i := 4) rfl) <| Gd rfl (fun hq => Z0t (xs := [.tmp 12, .tmp 14]) (Zv8 _ _ _ (Z1m hx6 hq)) Zy5 rfl rfl ⟨Zm rfl hq, Zm rfl hq, trivial⟩) <| Ac (Z16 rfl rfl (vt rfl) (vt rfl)) rfl <| As rfl <| Nl <| AW.ret ?_
 obtain rfl := si h
 exact Zg Tryz.results56 rfl (Zf rfl)
end Go.Proofs.YtknpgojdkobgjaaGreat.W
set_option maxRecDepth 4000
namespace Go.Proofs.YtknpgojdkobgjaaGreat.W
open Go Go.Wb
theorem e54 : Ent Tryz.prog 54 := Ent.mk Tryz.func54 rfl rfl
theorem e58 : Ent Tryz.prog 58 := Ent.mk Tryz.func58 rfl rfl
theorem e56 : Ent Tryz.prog 56 := Ent.mk Tryz.func56 rfl rfl
def Zg8 : Option Bool :=
 (Zal { { (⟨(Vector.replicate 4 []), []⟩ : Switch) with Tables := (Vector.set ((⟨(Vector.replicate 4 []), []⟩ : Switch).Tables) (⟨0, by decide⟩ : _root_.Fin 4).1 [(⟨0, 0, 0, 0, 0, [], [(⟨1, 3, Zy, Zy, []⟩ : Inst)]⟩ : Flow)] (⟨0, by decide⟩ : _root_.Fin 4).2) } with Tables := (Vector.set ({ (⟨(Vector.replicate 4 []), []⟩ : Switch) with Tables := (Vector.set ((⟨(Vector.replicate 4 []), []⟩ : Switch).Tables) (⟨0, by decide⟩ : _root_.Fin 4).1 [(⟨0, 0, 0, 0, 0, [], [(⟨1, 3, Zy, Zy, []⟩ : Inst)]⟩ : Flow)] (⟨0, by decide⟩ : _root_.Fin 4).2) }.Tables) (⟨3, by decide⟩ : _root_.Fin 4).1 [(⟨0, 1, 0, 0, 0, [], [(⟨4, 0, Zy, Zy, [(⟨0, 9, 0, 0, 0, Z4r⟩ : Action)]⟩ : Inst)]⟩ : Flow), (⟨0, 2, 0, 0, 0, [], []⟩ : Flow)] (⟨3, by decide⟩ : _root_.Fin 4).2) } 100).bind fun x2 => (Zal { { (⟨(Vector.replicate 4 []), []⟩ : Switch) with Tables := (Vector.set ((⟨(Vector.replicate 4 []), []⟩ : Switch).Tables) (⟨0, by decide⟩ : _root_.Fin 4).1 [(⟨0, 0, 0, 0, 0, [], [(⟨1, 3, Zy, Zy, []⟩ : Inst)]⟩ : Flow)] (⟨0, by decide⟩ : _root_.Fin 4).2) } with Tables := (Vector.set ({ (⟨(Vector.replicate 4 []), []⟩ : Switch) with Tables := (Vector.set ((⟨(Vector.replicate 4 []), []⟩ : Switch).Tables) (⟨0, by decide⟩ : _root_.Fin 4).1 [(⟨0, 0, 0, 0, 0, [], [(⟨1, 3, Zy, Zy, []⟩ : Inst)]⟩ : Flow)] (⟨0, by decide⟩ : _root_.Fin 4).2) }.Tables) (⟨3, by decide⟩ : _root_.Fin 4).1 [(⟨0, 1, 0, 0, 0, [], [(⟨4, 0, Zy, Zy, [(⟨0, 9, 0, 0, 0, Z4r⟩ : Action)]⟩ : Inst)]⟩ : Flow), (⟨0, 2, 0, 0, 0, [], []⟩ : Flow)] (⟨3, by decide⟩ : _root_.Fin 4).2) } 0).bind fun x4 => (opt ((decide (x2.2 = 0)) && (decide ((x2.1.Rules.length : Int) = 1))) (lget x2.1.Rules 0)).bind fun e6 => (opt ((((decide (x2.2 = 0)) && (decide ((x2.1.Rules.length : Int) = 1))) && (decide ((e6.Atoms.length : Int) = 0))) && (decide (x4.2 = 5))) (Zan { { (⟨(Vector.replicate 4 []), []⟩ : Switch) with Tables := (Vector.set ((⟨(Vector.replicate 4 []), []⟩ : Switch).Tables) (⟨0, by decide⟩ : _root_.Fin 4).1 [(⟨0, 0, 0, 0, 0, [], [(⟨1, 3, Zy, Zy, []⟩ : Inst)]⟩ : Flow)] (⟨0, by decide⟩ : _root_.Fin 4).2) } with Tables := (Vector.set ({ (⟨(Vector.replicate 4 []), []⟩ : Switch) with Tables := (Vector.set ((⟨(Vector.replicate 4 []), []⟩ : Switch).Tables) (⟨0, by decide⟩ : _root_.Fin 4).1 [(⟨0, 0, 0, 0, 0, [], [(⟨1, 3, Zy, Zy, []⟩ : Inst)]⟩ : Flow)] (⟨0, by decide⟩ : _root_.Fin 4).2) }.Tables) (⟨3, by decide⟩ : _root_.Fin 4).1 [(⟨0, 1, 0, 0, 0, [], [(⟨4, 0, Zy, Zy, [(⟨0, 9, 0, 0, 0, Z4r⟩ : Action)]⟩ : Inst)]⟩ : Flow), (⟨0, 2, 0, 0, 0, [], []⟩ : Flow)] (⟨3, by decide⟩ : _root_.Fin 4).2) })).bind fun x7 => (opt (((((decide (x2.2 = 0)) && (decide ((x2.1.Rules.length : Int) = 1))) && (decide ((e6.Atoms.length : Int) = 0))) && (decide (x4.2 = 5))) && (decide (x7 ≥ 1))) (Zhu x2.1 x2.1)).bind fun x8 => (opt ((((((decide (x2.2 = 0)) && (decide ((x2.1.Rules.length : Int) = 1))) && (decide ((e6.Atoms.length : Int) = 0))) && (decide (x4.2 = 5))) && (decide (x7 ≥ 1))) && x8) (Zhu x2.1 (⟨[], []⟩ : Flat))).bind fun x9 => some (((((((decide (x2.2 = 0)) && (decide ((x2.1.Rules.length : Int) = 1))) && (decide ((e6.Atoms.length : Int) = 0))) && (decide (x4.2 = 5))) && (decide (x7 ≥ 1))) && x8) && (!x9))
theorem Zu3 (r : Bool) (h : Zg8 = some r) : PCon Tryz.prog 53 [] (rd Z6 r) := by
 refine PCon.of (Con.intro0 Tryz.func53 rfl Tryz.ntmps53 rfl fun w H => ?_)
 unfold Zg8 at h
 refine SR <| Ab rfl <| Nl <| SR <| Ac (Z03 (ps := []) (x := (⟨(Vector.replicate 4 []), []⟩ : Switch)) rfl rfl rfl (by kernel_rfl) Znu rfl) rfl <| Ct rfl (Zo 2 rfl rfl Znu) ?_
 rintro _ ⟨g1, rfl⟩
 refine Zh Z48 2 rfl <| Nl <| SR <| Ac (Z03 (ps := [(0, .const (Value.int IntKind.i64 1)), (1, .const (Value.int IntKind.i64 3))]) (x := (⟨1, 3, Zy, Zy, []⟩ : Inst)) rfl rfl rfl (by kernel_rfl) Z4s ⟨_, _, Zgv, _, by kernel_rfl, (vk rfl), _, _, Zdq, _, by kernel_rfl, (vk rfl), rfl⟩) rfl <| Ac (Z3k (ps := [(0, .tmp 7)]) (l := [(⟨1, 3, Zy, Zy, []⟩ : Inst)]) rfl rfl Zbv Z4s rfl rfl ⟨_, _, Lens.idx 1 Z0s 0 (by decide), _, rfl, (vt rfl), rfl⟩ rfl) rfl <| Ac (Z03 (ps := [(6, .tmp 8)]) (x := (⟨0, 0, 0, 0, 0, [], [(⟨1, 3, Zy, Zy, []⟩ : Inst)]⟩ : Flow)) rfl rfl rfl (by kernel_rfl) Zd1 ⟨_, _, Zdo, _, by kernel_rfl, (vt rfl), rfl⟩) rfl <| Ac (Z3k (ps := [(0, .tmp 9)]) (l := [(⟨0, 0, 0, 0, 0, [], [(⟨1, 3, Zy, Zy, []⟩ : Inst)]⟩ : Flow)]) rfl rfl Z47 Zd1 rfl rfl ⟨_, _, Lens.idx 1 Z0o 0 (by decide), _, rfl, (vt rfl), rfl⟩ rfl) rfl <| Zt Zak Zbu rfl <| Ac (Z2o rfl rfl Zd6 (vt rfl) (vk rfl) rfl) rfl <| Zh Z54 2 rfl <| Nl <| SR <| Ac (Z03 (ps := [(0, .const (Value.int IntKind.i64 0)), (1, .const (Value.int IntKind.i64 9))]) (x := (⟨0, 9, 0, 0, 0, Z4r⟩ : Action)) rfl rfl rfl (by kernel_rfl) Z72 ⟨_, _, Z6a, _, by kernel_rfl, (vk rfl), _, _, Zgj, _, by kernel_rfl, (vk rfl), rfl⟩) rfl <| Ac (Z3k (ps := [(0, .tmp 13)]) (l := [(⟨0, 9, 0, 0, 0, Z4r⟩ : Action)]) rfl rfl Z0n Z72 rfl rfl ⟨_, _, Lens.idx 1 Z5 0 (by decide), _, rfl, (vt rfl), rfl⟩ rfl) rfl <| Ac (Z03 (ps := [(0, .const (Value.int IntKind.i64 4)), (4, .tmp 14)]) (x := (⟨4, 0, Zy, Zy, [(⟨0, 9, 0, 0, 0, Z4r⟩ : Action)]⟩ : Inst)) rfl rfl rfl (by kernel_rfl) Z4s ⟨_, _, Zgv, _, by kernel_rfl, (vk rfl), _, _, Z9i, _, by kernel_rfl, (vt rfl), rfl⟩) rfl <| Ac (Z3k (ps := [(0, .tmp 15)]) (l := [(⟨4, 0, Zy, Zy, [(⟨0, 9, 0, 0, 0, Z4r⟩ : Action)]⟩ : Inst)]) rfl rfl Zbv Z4s rfl rfl ⟨_, _, Lens.idx 1 Z0s 0 (by decide), _, rfl, (vt rfl), rfl⟩ rfl) rfl <| Ac (Z03 (ps := [(1, .const (Value.int IntKind.i64 1)), (6, .tmp 16)]) (x := (⟨0, 1, 0, 0, 0, [], [(⟨4, 0, Zy, Zy, [(⟨0, 9, 0, 0, 0, Z4r⟩ : Action)]⟩ : Inst)]⟩ : Flow)) rfl rfl rfl (by kernel_rfl) Zd1 ⟨_, _, Z9r, _, by kernel_rfl, (vk rfl), _, _, Zdo, _, by kernel_rfl, (vt rfl), rfl⟩) rfl <| Ac (Z03 (ps := [(1, .const (Value.int IntKind.i64 2))]) (x := (⟨0, 2, 0, 0, 0, [], []⟩ : Flow)) rfl rfl rfl (by kernel_rfl) Zd1 ⟨_, _, Z9r, _, by kernel_rfl, (vk rfl), rfl⟩) rfl <| Ac (Z3k (ps := [(0, .tmp 17), (1, .tmp 18)]) (l := [(⟨0, 1, 0, 0, 0, [], [(⟨4, 0, Zy, Zy, [(⟨0, 9, 0, 0, 0, Z4r⟩ : Action)]⟩ : Inst)]⟩ : Flow), (⟨0, 2, 0, 0, 0, [], []⟩ : Flow)]) rfl rfl Z47 Zd1 rfl rfl ⟨_, _, Lens.idx 2 Z0o 0 (by decide), _, rfl, (vt rfl), _, _, Lens.idx 2 Z0o 1 (by decide), _, rfl, (vt rfl), rfl⟩ rfl) rfl <| Zt Zak Zbu rfl <| Ac (Z2o rfl rfl Zd6 (vt rfl) (vk rfl) rfl) rfl <| Zh Z54 2 rfl <| Nl <| AW.seq ?_
 obtain ⟨x2, hx2, h⟩ := Z1 h
 refine Rg <| Ld Z48 2 rfl <| Ac (Z0t (xs := [.tmp 23, .const (Value.int IntKind.i64 100)]) (Zko _ _ _ hx2) e54 rfl rfl ⟨vt rfl, vk rfl, trivial⟩) rfl <| Mt2 rfl <| Ac (Z28 rfl rfl (vt rfl)) rfl <| Ac (Z25 rfl rfl (vt rfl)) rfl <| Ct rfl (Zo 3 rfl rfl Za5) ?_
 rintro _ ⟨g3, rfl⟩
 refine Zh Z6f 3 rfl <| As rfl <| Nl <| AW.seq ?_
 obtain ⟨x4, hx4, h⟩ := Z1 h
 refine Rg <| Ld Z48 2 rfl <| Ac (Z0t (xs := [.tmp 28, .const (Value.int IntKind.i64 0)]) (Zko _ _ _ hx4) e54 rfl rfl ⟨vt rfl, vk rfl, trivial⟩) rfl <| Mt2 rfl <| Ac (Z28 rfl rfl (vt rfl)) rfl <| Ac (Z25 rfl rfl (vt rfl)) rfl <| Ct rfl (Zo 5 rfl rfl Za5) ?_
 rintro _ ⟨g5, rfl⟩
 refine Zh Z6f 5 rfl <| As rfl <| Nl <| AW.seq ?_
 obtain ⟨e6, he6, h⟩ := Z1 h
 obtain ⟨x7, hx7, h⟩ := Z1 h
 obtain ⟨x8, hx8, h⟩ := Z1 h
 obtain ⟨x9, hx9, h⟩ := Z1 h
 refine Rg <| Md rfl <| Ac (Z1l rfl rfl (vt rfl) (vk rfl)) rfl <| Md rfl <| Gd rfl (fun hq => Z1w Z95 rfl rfl Zc3 (vt rfl)) <| Gd rfl (fun hq => Z11 rfl rfl Zbd (Zm rfl hq) (i := 3) rfl) <| Gd rfl (fun hq => Z0k rfl rfl Z2f (Zm rfl hq)) <| Gd rfl (fun hq => Z1l rfl rfl (Zm rfl hq) (vk rfl)) <| Ac (Z16 rfl rfl (vt rfl) (vt rfl)) rfl <| Md rfl <| Gd rfl (fun hq => Z1w Z95 rfl rfl Zc3 (vt rfl)) <| Gd rfl (fun hq => Z11 rfl rfl Zbd (Zm rfl hq) (i := 3) rfl) <| Gd rfl (fun hq => Z10 rfl rfl Z2f (Zm rfl hq) (vk rfl) (Z1m he6 hq)) <| Gd rfl (fun hq => Zad Z9s rfl rfl Zeo (Zm rfl hq)) <| Gd rfl (fun hq => Zfr rfl rfl Z63 (Zm rfl hq)) <| Gd rfl (fun hq => Z0k rfl rfl Z4y (Zm rfl hq)) <| Gd rfl (fun hq => Z1l rfl rfl (Zm rfl hq) (vk rfl)) <| Ac (Z16 rfl rfl (vt rfl) (vt rfl)) rfl <| Md rfl <| Gd rfl (fun hq => Zq (A := rd (Z0 .i64) x4.2) rfl rfl (vt rfl)) <| Gd rfl (fun hq => Z1l rfl rfl (Zm rfl hq) (vk rfl)) <| Ac (Z16 rfl rfl (vt rfl) (vt rfl)) rfl <| Md rfl <| Gd rfl (fun hq => Z11 rfl rfl Z48 (vt rfl) (i := 2) rfl) <| Gd rfl (fun hq => Z0t (xs := [.tmp 54]) (Zlc _ _ (Z1m hx7 hq)) e58 rfl rfl ⟨Zm rfl hq, trivial⟩) <| Gd rfl (fun hq => Z4n rfl rfl (Zm rfl hq) (vk rfl)) <| Ac (Z16 rfl rfl (vt rfl) (vt rfl)) rfl <| Md rfl <| Gd rfl (fun hq => Z11 rfl rfl Z6f (vt rfl) (i := 3) rfl) <| Gd rfl (fun hq => Z11 rfl rfl Z6f (vt rfl) (i := 3) rfl) <| Gd rfl (fun hq => Z0t (xs := [.tmp 59, .tmp 60]) (Zo5 _ _ _ (Z1m hx8 hq)) e56 rfl rfl ⟨Zm rfl hq, Zm rfl hq, trivial⟩) <| Ac (Z16 rfl rfl (vt rfl) (vt rfl)) rfl <| Md rfl <| Gd rfl (fun hq => Z11 rfl rfl Z6f (vt rfl) (i := 3) rfl) <| Gd rfl (fun hq => Z03 (ps := []) (x := (⟨[], []⟩ : Flat)) rfl rfl rfl (by kernel_rfl) Za5 rfl) <| Gd rfl (fun hq => Z0t (xs := [.tmp 64, .tmp 65]) (Zo5 _ _ _ (Z1m hx9 hq)) e56 rfl rfl ⟨Zm rfl hq, Zm rfl hq, trivial⟩) <| Gd rfl (fun hq => Z0x rfl rfl (Zm rfl hq)) <| Ac (Z16 rfl rfl (vt rfl) (vt rfl)) rfl <| As rfl <| Nl <| AW.ret ?_
 obtain rfl := si h
 exact Zg Tryz.results53 rfl (Zf rfl)
end Go.Proofs.YtknpgojdkobgjaaGreat.W
set_option maxRecDepth 4000
namespace Go.Proofs.YtknpgojdkobgjaaGreat.W
open Go Go.Wb
theorem e52 : Ent Tryz.prog 52 := Ent.mk Tryz.func52 rfl rfl
theorem e53 : Ent Tryz.prog 53 := Ent.mk Tryz.func53 rfl rfl
end Go.Proofs.YtknpgojdkobgjaaGreat.W
set_option maxRecDepth 4000
namespace Go.Proofs.YtknpgojdkobgjaaGreat.W
open Go Go.Wb
theorem e39 : Ent Tryz.prog 39 := Ent.mk Tryz.func39 rfl rfl
def Zbk (s1 : Switch) (more2 : Int) : Option Bool :=
 (Zhm s1 3).bind fun x4 => (opt (!(!x4)) (Zan s1)).bind fun x5 => (bif ((!x4) || (decide (x5 > 4096))) then (Zg8).bind fun x6 => some x6 else (Zan s1).bind fun x7 => (Zal s1 (IntKind.i64.wrap (x7 + (IntKind.i64.wrap more2)))).bind fun x8 => (opt ((decide (x8.2 = 0)) && (decide ((x8.1.Rules.length : Int) ≥ 1))) (Zh4 s1)).bind fun x10 => (opt (((decide (x8.2 = 0)) && (decide ((x8.1.Rules.length : Int) ≥ 1))) && (decide ((x8.1.Rules.length : Int) ≤ x10))) (Zg8)).bind fun x11 => some ((((decide (x8.2 = 0)) && (decide ((x8.1.Rules.length : Int) ≥ 1))) && (decide ((x8.1.Rules.length : Int) ≤ x10))) && x11))
theorem Y75 (s1 : Switch) (more2 : Int) (r : Bool) (h : Zbk s1 more2 = some r) : PCon Tryz.prog 14 [rd Z0v s1, rd (Z0 .u16) more2] (rd Z6 r) := by
 refine PCon.of (Con.intro0 Tryz.func14 rfl Tryz.ntmps14 rfl fun w H => ?_)
 unfold Zbk at h
 refine SR <| Ct rfl (Zs 3 rfl rfl (vt rfl)) ?_
 rintro _ ⟨g3, rfl⟩
 refine Ab rfl <| Nl <| AW.seq <| AW.seq ?_
 obtain ⟨x4, hx4, h⟩ := Z1 h
 obtain ⟨x5, hx5, h⟩ := Z1 h
 refine Rg <| Ld Z48 3 rfl <| Ac (Z0t (xs := [.tmp 7, .const (Value.int IntKind.i64 3)]) (Y1u _ _ _ hx4) e21 rfl rfl ⟨vt rfl, vk rfl, trivial⟩) rfl <| Ac (Z0x rfl rfl (vt rfl)) rfl <| Md rfl <| Gd rfl (fun hq => Z11 rfl rfl Z48 (vt rfl) (i := 3) rfl) <| Gd rfl (fun hq => Z0t (xs := [.tmp 11]) (Zlc _ _ (Y6f hx5 hq)) e58 rfl rfl ⟨Zm rfl hq, trivial⟩) <| Gd rfl (fun hq => Z4f rfl rfl (Zm rfl hq) (vk rfl)) <| Ac (Zj9 rfl rfl (vt rfl) (vt rfl)) rfl <| Nl <| Cn rfl (fun hc => ?_) (fun hc => ?_)
 ·have h := Zj hc h
  refine AW.seq ?_
  obtain ⟨x6, hx6, h⟩ := Z1 h
  refine Rg <| Cl [] (Zu3 _ hx6) e53 rfl <| As rfl <| Nl <| AW.ret ?_
  obtain rfl := si h
  exact Zg Tryz.results14 rfl (Zf rfl)
 ·have h := Zk hc h
  refine AW.skip <| AW.seq ?_
  obtain ⟨x7, hx7, h⟩ := Z1 h
  obtain ⟨x8, hx8, h⟩ := Z1 h
  refine AW.regionAny [⟨[2], [17], [3], []⟩, ⟨[2], [18], [3], []⟩, ⟨[18], [19], [], []⟩, ⟨[1], [20], [], []⟩, ⟨[20], [21], [], []⟩, ⟨[19, 21], [22], [], []⟩, ⟨[17, 22], [23], [], []⟩, ⟨[23], [16], [], []⟩, ⟨[16], [24], [], []⟩, ⟨[16], [25], [], []⟩, ⟨[], [5], [], []⟩, ⟨[5, 24], [5], [], []⟩, ⟨[25], [6], [], []⟩] Z05 (by kernel_rfl) <| SLd Z48 3 rfl <| SLd Z48 3 rfl <| SCl [18] (Zlc _ _ hx7) e58 rfl <| SMd rfl <| Sc (lo [20] [] rfl fun S hs hr => Y4e rfl rfl Y2o un3 (vh hs 20 rfl rfl)) rfl <| Sc (lo [19, 21] [] rfl fun S hs hr => Z0e rfl rfl (vh hs 19 rfl rfl) (vh hs 21 rfl rfl)) rfl <| SCl [17, 22] (Zko _ _ _ hx8) e54 rfl <| Sc (lo [23] [] rfl fun S hs hr => Zq (A := Z1d (rd Z5c x8.1) (rd (Z0 .i64) x8.2)) rfl rfl (vh hs 23 rfl rfl)) rfl <| Sc (lo [16] [] rfl fun S hs hr => Z28 rfl rfl (vh hs 16 rfl rfl)) rfl <| Sc (lo [16] [] rfl fun S hs hr => Z25 rfl rfl (vh hs 16 rfl rfl)) rfl <| Sc (Z2e (us := [(5, Z37 73 Z5c Zms)]) (ur := []) [] [] rfl fun S hs hr => Zcg rfl rfl rfl Za5) rfl <| Sc (Z2e (us := [(5, Z37 73 Z5c x8.1)]) (ur := []) [5, 24] [] rfl fun S hs hr => Zb5 rfl rfl Z6f ((hs 5 rfl).trans rfl) (vh hs 24 rfl rfl)) rfl <| SAs rfl <| AW.unpackP 5 6 rfl rfl fun g9 => AW.seq ?_
  obtain ⟨x10, hx10, h⟩ := Z1 h
  obtain ⟨x11, hx11, h⟩ := Z1 h
  refine AW.regionAny [⟨[6], [26], [], []⟩, ⟨[26], [27], [], []⟩, ⟨[27], [28], [], []⟩, ⟨[5, 28], [29], [], []⟩, ⟨[29, 28], [30], [6], []⟩, ⟨[30, 28], [31], [], []⟩, ⟨[31, 28], [32], [], []⟩, ⟨[32, 28], [33], [], []⟩, ⟨[33], [34], [], []⟩, ⟨[5, 34], [35], [], []⟩, ⟨[35, 34], [36], [6], []⟩, ⟨[36, 34], [37], [], []⟩, ⟨[2, 34], [38], [3], []⟩, ⟨[38, 34], [39], [], []⟩, ⟨[37, 39, 34], [40], [], []⟩, ⟨[40, 34], [41], [], []⟩, ⟨[41], [42], [], []⟩, ⟨[42], [43], [], []⟩, ⟨[43, 42], [44], [], []⟩, ⟨[44], [4], [], []⟩] Z05 (by kernel_rfl) <| SMd rfl <| Sc (lo [26] [] rfl fun S hs hr => Z1l rfl rfl (vh hs 26 rfl rfl) (vk rfl)) rfl <| SMd rfl <| Sc (lg [5, 28] [] rfl fun hq S hs hr => Z1w Z95 rfl rfl Zc3 (vh hs 5 rfl rfl)) rfl <| Sc (lg [29, 28] [6] rfl fun hq S hs hr => Z11 rfl rfl Zbd (Zm ((hs 29 rfl).trans rfl) hq) (i := 6) ((hr 6 rfl).trans rfl)) rfl <| Sc (lg [30, 28] [] rfl fun hq S hs hr => Z0k rfl rfl Z2f (Zm ((hs 30 rfl).trans rfl) hq)) rfl <| Sc (lg [31, 28] [] rfl fun hq S hs hr => Z4n rfl rfl (Zm ((hs 31 rfl).trans rfl) hq) (vk rfl)) rfl <| Sc (lo [32, 28] [] rfl fun S hs hr => Z16 rfl rfl (vh hs 28 rfl rfl) (vh hs 32 rfl rfl)) rfl <| SMd rfl <| Sc (lg [5, 34] [] rfl fun hq S hs hr => Z1w Z95 rfl rfl Zc3 (vh hs 5 rfl rfl)) rfl <| Sc (lg [35, 34] [6] rfl fun hq S hs hr => Z11 rfl rfl Zbd (Zm ((hs 35 rfl).trans rfl) hq) (i := 6) ((hr 6 rfl).trans rfl)) rfl <| Sc (lg [36, 34] [] rfl fun hq S hs hr => Z0k rfl rfl Z2f (Zm ((hs 36 rfl).trans rfl) hq)) rfl <| Sc (lg [2, 34] [3] rfl fun hq S hs hr => Z11 rfl rfl Z48 (vh hs 2 rfl rfl) (i := 3) ((hr 3 rfl).trans rfl)) rfl <| Sc (lg [38, 34] [] rfl fun hq S hs hr => Z0t (xs := [.tmp 38]) (Y0t _ _ (Z1m hx10 hq)) e60 rfl rfl ⟨Zm ((hs 38 rfl).trans rfl) hq, trivial⟩) rfl <| Sc (lg [37, 39, 34] [] rfl fun hq S hs hr => Z5y rfl rfl (Zm ((hs 37 rfl).trans rfl) hq) (Zm ((hs 39 rfl).trans rfl) hq)) rfl <| Sc (lo [40, 34] [] rfl fun S hs hr => Z16 rfl rfl (vh hs 34 rfl rfl) (vh hs 40 rfl rfl)) rfl <| SMd rfl <| Sc (lg [42] [] rfl fun hq S hs hr => Z0t (xs := []) (Zu3 _ (Z1m hx11 hq)) e53 rfl rfl trivial) rfl <| Sc (lo [43, 42] [] rfl fun S hs hr => Z16 rfl rfl (vh hs 42 rfl rfl) (vh hs 43 rfl rfl)) rfl <| SAs rfl <| AW.ret ?_
  obtain rfl := si h
  exact Zg Tryz.results14 rfl (Zf rfl)
end Go.Proofs.YtknpgojdkobgjaaGreat.W
set_option maxRecDepth 4000
namespace Go.Proofs.YtknpgojdkobgjaaGreat.W
open Go Go.Wb
end Go.Proofs.YtknpgojdkobgjaaGreat.W
set_option maxRecDepth 4000
namespace Go.Proofs.YtknpgojdkobgjaaGreat.W
open Go Go.Wb
end Go.Proofs.YtknpgojdkobgjaaGreat.W
set_option maxRecDepth 4000
namespace Go.Proofs.YtknpgojdkobgjaaGreat.W
open Go Go.Wb
theorem e42 : Ent Tryz.prog 42 := Ent.mk Tryz.func42 rfl rfl
theorem e41 : Ent Tryz.prog 41 := Ent.mk Tryz.func41 rfl rfl
end Go.Proofs.YtknpgojdkobgjaaGreat.W
set_option maxRecDepth 4000
namespace Go.Proofs.YtknpgojdkobgjaaGreat.W
open Go Go.Wb
end Go.Proofs.YtknpgojdkobgjaaGreat.W
