/- A part of the proof. -/
import Derived.Test.YtknpgojdkobgjaaGreatG2
set_option linter.unusedVariables false
set_option maxRecDepth 4000
set_option linter.unusedSimpArgs false
namespace Go.Proofs.YtknpgojdkobgjaaGreat.W
open Go Go.Wb
theorem Y5k : Ent Tryz.prog 328 := Ent.mk Tryz.func328 rfl rfl
theorem Y7y : Ent Tryz.prog 289 := Ent.mk Tryz.func289 rfl rfl
theorem Ydq : Ent Tryz.prog 290 := Ent.mk Tryz.func290 rfl rfl
theorem Yba : Ent Tryz.prog 241 := Ent.mk Tryz.func241 rfl rfl
theorem Y1o : Ent Tryz.prog 242 := Ent.mk Tryz.func242 rfl rfl
theorem Zw4 : Ent Tryz.prog 180 := Ent.mk Tryz.func180 rfl rfl
theorem Yaj : Ent Tryz.prog 111 := Ent.mk Tryz.func111 rfl rfl
theorem Y83 : Ent Tryz.prog 112 := Ent.mk Tryz.func112 rfl rfl
def Zlr (s : List Group) : Option (List Group) := Z0u [] s
theorem Yd5 (s : List Group) (r : List Group) (h : Zlr s = some r) : Con Tryz.prog 289 [rd (Z4 Z0d) s] emp (fun v => Ze v) (fun v => Zb v 164 Z0d r) := by
 refine Con.intro0 Tryz.func289 rfl Tryz.ntmps289 rfl fun w H => ?_
 unfold Zlr at h
 refine AW.newnil 1001 164 Z0d <| SR <| Ac (Z02 (A := Ze (.slice none 0 0)) rfl rfl vc) rfl <| Nl <| AW.seq <| SR <| Md rfl <| Ct rfl (Zj1 rfl rfl Z52 (vt rfl)) ?_
 rintro _ ⟨b, hb, rfl⟩
 refine Nl <| Cn rfl (fun hc => ?_) (fun hc => ?_)
 ·obtain rfl := hb hc
  refine SR <| Ac (Z02 (A := Ze (.slice none 0 0)) rfl rfl vc) rfl <| Nl <| AW.ret ?_
  obtain rfl := (Za2 h).2
  exact Z4n (i := 1001) Tryz.results289 rfl rfl rfl
 ·refine AW.skip <| SR <| Ct rfl (Z4q 1002 (ps := []) (l := []) rfl rfl Z52 Zcf rfl rfl rfl rfl) ?_
  rintro _ ⟨v1, rfl⟩
  refine Md rfl <| Ct rfl (Z2m 1002 h rfl rfl Y0m (vt rfl) rfl (vt rfl)) ?_
  rintro _ ⟨v2, rfl⟩
  refine Aw rfl <| Nl <| AW.ret ?_
  exact Z4n (i := 1002) Tryz.results289 rfl rfl rfl
def Zlv (s : List Bucket) : Option (List Bucket) := Z0u [] s
theorem Y26 (s : List Bucket) (r : List Bucket) (h : Zlv s = some r) : Con Tryz.prog 328 [rd (Z4 Z1o) s] emp (fun v => Ze v) (fun v => Zb v 226 Z1o r) := by
 refine Con.intro0 Tryz.func328 rfl Tryz.ntmps328 rfl fun w H => ?_
 unfold Zlv at h
 refine AW.newnil 1001 226 Z1o <| SR <| Ac (Z02 (A := Ze (.slice none 0 0)) rfl rfl vc) rfl <| Nl <| AW.seq <| SR <| Md rfl <| Ct rfl (Zj1 rfl rfl Z5n (vt rfl)) ?_
 rintro _ ⟨b, hb, rfl⟩
 refine Nl <| Cn rfl (fun hc => ?_) (fun hc => ?_)
 ·obtain rfl := hb hc
  refine SR <| Ac (Z02 (A := Ze (.slice none 0 0)) rfl rfl vc) rfl <| Nl <| AW.ret ?_
  obtain rfl := (Za2 h).2
  exact Z4n (i := 1001) Tryz.results328 rfl rfl rfl
 ·refine AW.skip <| SR <| Ct rfl (Z4q 1002 (ps := []) (l := []) rfl rfl Z5n Ydh rfl rfl rfl rfl) ?_
  rintro _ ⟨v1, rfl⟩
  refine Md rfl <| Ct rfl (Z2m 1002 h rfl rfl Y1x (vt rfl) rfl (vt rfl)) ?_
  rintro _ ⟨v2, rfl⟩
  refine Aw rfl <| Nl <| AW.ret ?_
  exact Z4n (i := 1002) Tryz.results328 rfl rfl rfl
def Z7i : Nat → Nat → (List Bucket) → Option (List Bucket)
 | 0, i6, l5 => some l5
 | m7 + 1, i6, l5 => (lget l5 (i6 : Int)).bind fun e8 => (Z6l e8.Acts).bind fun x9 => (lget l5 (i6 : Int)).bind fun e10 => (Z7i m7) (i6 + 1) (List.set l5 (i6 : Int).toNat { e10 with Acts := x9 })
def Zjx (l1 : (List Bucket)) : Option (List Bucket) :=
 (Zlv l1).bind fun x2 => Z7i ((x2.length : Int) : Int).toNat 0 x2
theorem Y6h (l1 : (List Bucket)) (r : (List Bucket)) (h : Zjx l1 = some r) : PCon Tryz.prog 290 [rd (Z4 Z1o) l1] (rd (Z4 Z1o) r) := by
 refine PCon.of (Con.intro0 Tryz.func290 rfl Tryz.ntmps290 rfl fun w H => ?_)
 unfold Zjx at h
 refine SR <| Ac (Z02 (A := rd (Z4 Z1o) []) rfl rfl Z1u) rfl <| Nl <| AW.seq ?_
 obtain ⟨x2, hx2, h⟩ := Z1 h
 refine Rg <| Md rfl <| Ct rfl (Z1f 1001 (xs := [.tmp 5]) (Y26 _ _ hx2) Y5k rfl rfl ⟨vt rfl, trivial⟩ rfl) ?_
 rintro _ ⟨v3, rfl⟩
 refine Aw rfl <| Nl <| AW.seq <| SR <| Mw rfl <| Ac (Z5q 1001 rfl rfl Z5n (vt rfl) rfl) rfl <| Mk rfl <| Nl <| AW.block <| AW.loopG (d := []) (ν := Nat × Nat × (List Bucket)) (fun n => Cnt (x2.length : Int) n.2.1 n.1 ∧ Z7i n.1 n.2.1 n.2.2 = some r) (fun n => n.1) (fun n => [(3, Ze v3), (8, rd (Z0 .i64) (x2.length : Int)), (9, rd (Z0 .i64) (n.2.1 : Int))]) (fun n => [(1001, Zb v3 226 Z1o n.2.2)]) (((x2.length : Int) : Int).toNat, 0, x2) ⟨Cnt.start _, h⟩ (FX rfl) ?_
 rintro ⟨m7, i6, l5⟩ ⟨hsf1, h⟩
 change Cnt (x2.length : Int) i6 m7 at hsf1
 change Z7i m7 i6 l5 = some r at h
 change AW _ _ _ ⟨Zw [(3, Ze v3), (8, rd (Z0 .i64) (x2.length : Int)), (9, rd (Z0 .i64) (i6 : Int))], Zx [(1001, Zb v3 226 Z1o l5)], _⟩
 cases m7 with
 | zero =>
  unfold Z7i at h
  refine SR <| Ac (Zp rfl rfl (vt rfl) (vt rfl)) rfl <| Nl <| AW.seq <| Cn rfl (fun hc => absurd (of_decide_eq_true hc) hsf1.zero) (fun hc => ?_)
  refine AW.exit <| SR <| Mw rfl <| Aw rfl <| Nl <| AW.freezes [2, 3, 23] 1001 rfl ⟨rfl, rfl, rfl, trivial⟩ rfl <| AW.ret ?_
  obtain rfl := si h
  exact Zi Tryz.results290 rfl (Z8 rfl)
 | succ m7 =>
  unfold Z7i at h
  generalize hgo1 : Z7i m7 = go1 at h
  refine SR <| Ac (Zp rfl rfl (vt rfl) (vt rfl)) rfl <| Nl <| AW.seq <| Cn rfl (fun hc => ?_) (fun hc => absurd hsf1.succ (of_decide_eq_false hc))
  have hlti6 := of_decide_eq_true hc
  refine AW.skip <| AW.seq <| AW.block <| SR <| Md rfl <| As rfl <| Nl ?_
  obtain ⟨e8, he8, h⟩ := Z1 h
  obtain ⟨x9, hx9, h⟩ := Z1 h
  obtain ⟨e10, he10, h⟩ := Z1 h
  refine Rg <| Mw rfl <| Md rfl <| Mw rfl <| Md rfl <| Ac (Z1q 1001 rfl rfl Z5n (vt rfl) rfl (vt rfl) he8) rfl <| Ac (Zae Zi0 rfl rfl Zn1 (vt rfl)) rfl <| Ac (Z1g 1001 rfl rfl Z4j (vt rfl) rfl (Z0g he8).2) rfl <| Cl [18] (Zy2 _ _ hx9) Zme rfl <| Ac (Z1q 1001 rfl rfl Z5n (vt rfl) rfl (vt rfl) he10) rfl <| Ac (Zae Zi0 rfl rfl Zn1 (vt rfl)) rfl <| Ac (Z2h 1001 rfl rfl Z4j (vt rfl) rfl (Z0g he10).2 (vt rfl)) rfl <| Nl <| Rg <| Ac (Z22 (t := 8) rfl rfl (vt rfl) (vk rfl) (vt rfl) hlti6) rfl <| Md rfl <| Nl ?_
  subst hgo1
  exact ⟨(m7, i6 + 1, (List.set l5 (i6 : Int).toNat { e10 with Acts := x9 })), Nat.lt_succ_self _, ⟨hsf1.next, h⟩, FX rfl⟩
def Z8j : Nat → Nat → (List Group) → Option (List Group)
 | 0, i6, l5 => some l5
 | m7 + 1, i6, l5 => (lget l5 (i6 : Int)).bind fun e8 => (Zjx e8.Buckets).bind fun x9 => (lget l5 (i6 : Int)).bind fun e10 => (Z8j m7) (i6 + 1) (List.set l5 (i6 : Int).toNat { e10 with Buckets := x9 })
def Zk7 (l1 : (List Group)) : Option (List Group) :=
 (Zlr l1).bind fun x2 => Z8j ((x2.length : Int) : Int).toNat 0 x2
theorem Y24 (l1 : (List Group)) (r : (List Group)) (h : Zk7 l1 = some r) : PCon Tryz.prog 242 [rd (Z4 Z0d) l1] (rd (Z4 Z0d) r) := by
 refine PCon.of (Con.intro0 Tryz.func242 rfl Tryz.ntmps242 rfl fun w H => ?_)
 unfold Zk7 at h
 refine SR <| Ac (Z02 (A := rd (Z4 Z0d) []) rfl rfl Z1u) rfl <| Nl <| AW.seq ?_
 obtain ⟨x2, hx2, h⟩ := Z1 h
 refine Rg <| Md rfl <| Ct rfl (Z1f 1001 (xs := [.tmp 5]) (Yd5 _ _ hx2) Y7y rfl rfl ⟨vt rfl, trivial⟩ rfl) ?_
 rintro _ ⟨v3, rfl⟩
 refine Aw rfl <| Nl <| AW.seq <| SR <| Mw rfl <| Ac (Z5q 1001 rfl rfl Z52 (vt rfl) rfl) rfl <| Mk rfl <| Nl <| AW.block <| AW.loopG (d := []) (ν := Nat × Nat × (List Group)) (fun n => Cnt (x2.length : Int) n.2.1 n.1 ∧ Z8j n.1 n.2.1 n.2.2 = some r) (fun n => n.1) (fun n => [(3, Ze v3), (8, rd (Z0 .i64) (x2.length : Int)), (9, rd (Z0 .i64) (n.2.1 : Int))]) (fun n => [(1001, Zb v3 164 Z0d n.2.2)]) (((x2.length : Int) : Int).toNat, 0, x2) ⟨Cnt.start _, h⟩ (FX rfl) ?_
 rintro ⟨m7, i6, l5⟩ ⟨hsf1, h⟩
 change Cnt (x2.length : Int) i6 m7 at hsf1
 change Z8j m7 i6 l5 = some r at h
 change AW _ _ _ ⟨Zw [(3, Ze v3), (8, rd (Z0 .i64) (x2.length : Int)), (9, rd (Z0 .i64) (i6 : Int))], Zx [(1001, Zb v3 164 Z0d l5)], _⟩
 cases m7 with
 | zero =>
  unfold Z8j at h
  refine SR <| Ac (Zp rfl rfl (vt rfl) (vt rfl)) rfl <| Nl <| AW.seq <| Cn rfl (fun hc => absurd (of_decide_eq_true hc) hsf1.zero) (fun hc => ?_)
  refine AW.exit <| SR <| Mw rfl <| Aw rfl <| Nl <| AW.freezes [2, 3, 23] 1001 rfl ⟨rfl, rfl, rfl, trivial⟩ rfl <| AW.ret ?_
  obtain rfl := si h
  exact Zi Tryz.results242 rfl (Z8 rfl)
 | succ m7 =>
  unfold Z8j at h
  generalize hgo1 : Z8j m7 = go1 at h
  refine SR <| Ac (Zp rfl rfl (vt rfl) (vt rfl)) rfl <| Nl <| AW.seq <| Cn rfl (fun hc => ?_) (fun hc => absurd hsf1.succ (of_decide_eq_false hc))
  have hlti6 := of_decide_eq_true hc
  refine AW.skip <| AW.seq <| AW.block <| SR <| Md rfl <| As rfl <| Nl ?_
  obtain ⟨e8, he8, h⟩ := Z1 h
  obtain ⟨x9, hx9, h⟩ := Z1 h
  obtain ⟨e10, he10, h⟩ := Z1 h
  refine Rg <| Mw rfl <| Md rfl <| Mw rfl <| Md rfl <| Ac (Z1q 1001 rfl rfl Z52 (vt rfl) rfl (vt rfl) he8) rfl <| Ac (Zae Z9g rfl rfl Za7 (vt rfl)) rfl <| Ac (Z1g 1001 rfl rfl Zaa (vt rfl) rfl (Z0g he8).2) rfl <| Cl [18] (Y6h _ _ hx9) Ydq rfl <| Ac (Z1q 1001 rfl rfl Z52 (vt rfl) rfl (vt rfl) he10) rfl <| Ac (Zae Z9g rfl rfl Za7 (vt rfl)) rfl <| Ac (Z2h 1001 rfl rfl Zaa (vt rfl) rfl (Z0g he10).2 (vt rfl)) rfl <| Nl <| Rg <| Ac (Z22 (t := 8) rfl rfl (vt rfl) (vk rfl) (vt rfl) hlti6) rfl <| Md rfl <| Nl ?_
  subst hgo1
  exact ⟨(m7, i6 + 1, (List.set l5 (i6 : Int).toNat { e10 with Buckets := x9 })), Nat.lt_succ_self _, ⟨hsf1.next, h⟩, FX rfl⟩
def Zfv (l1 : (List Group)) (id2 : Int) : Option (Group × Bool) :=
 (Zkg l1 id2).bind fun x4 => (bif (decide (x4 < 0)) then some ((⟨0, 0, []⟩ : Group), false) else (Zff l1 x4 (IntKind.i64.wrap (x4 + 1))).bind fun s5 => (Zk7 s5).bind fun x6 => (lget x6 0).bind fun e7 => some (e7, true))
theorem Zvx (l1 : (List Group)) (id2 : Int) (r : (Group × Bool)) (h : Zfv l1 id2 = some r) : PCon Tryz.prog 180 [rd (Z4 Z0d) l1, rd (Z0 .i64) id2] (Z1h (rd Z0d r.1) (rd Zc r.2)) := by
 refine PCon.of (Con.intro0 Tryz.func180 rfl Tryz.ntmps180 rfl fun w H => ?_)
 unfold Zfv at h
 refine SR <| Ct rfl (Zq 5 rfl rfl Zcf) ?_
 rintro _ ⟨g3, rfl⟩
 refine Ab rfl <| Nl <| AW.seq ?_
 obtain ⟨x4, hx4, h⟩ := Z1 h
 refine Rg <| Md rfl <| Md rfl <| Cl [7, 8] (Y33 _ _ _ hx4) Yba rfl <| As rfl <| Nl <| AW.seq <| SR <| Md rfl <| Ac (Zp rfl rfl (vt rfl) (vk rfl)) rfl <| Nl <| Cn rfl (fun hc => ?_) (fun hc => ?_)
 ·have h := Zf hc h
  refine SR <| Ac (Z00 (ps := []) (x := (⟨0, 0, []⟩ : Group)) rfl rfl rfl (by kernel_rfl) Zcf rfl) rfl <| Zj Z57 5 rfl <| Ab rfl <| Nl <| AW.ret ?_
  obtain rfl := si h
  exact Z25 Tryz.results180 rfl (Z01 rfl (i := 5) rfl Z57) (Z8 rfl)
 ·have h := Zg hc h
  refine AW.skip <| AW.seq ?_
  obtain ⟨s5, hs5, h⟩ := Z1 h
  obtain ⟨x6, hx6, h⟩ := Z1 h
  obtain ⟨e7, he7, h⟩ := Z1 h
  refine Rg <| Md rfl <| Md rfl <| Md rfl <| Ac (Z08 rfl rfl (vt rfl) (vk rfl)) rfl <| Ac (Ybw hs5 rfl rfl Z52 (vt rfl) (vt rfl) (vt rfl)) rfl <| Cl [17] (Y24 _ _ hx6) Y1o rfl <| Ac (Z0r rfl rfl Z52 (vt rfl) (vk rfl) he7) rfl <| Lp1 Z57 rfl <| Zj Z57 5 rfl <| Ab rfl <| Nl <| AW.ret ?_
  obtain rfl := si h
  exact Z25 Tryz.results180 rfl (Z01 rfl (i := 5) rfl Z57) (Z8 rfl)
def Z6s (l1 : (List Group)) : (List Group) → Nat → (List Group) → Option (List Group)
 | [], i6, l4 => some l4
 | x8 :: l7, i6, l4 => (Z5g l1 (i6 : Int)).bind fun s10 => (Zfv s10 x8.ID).bind fun x11 => (Z0u l4 [x11.1]).bind fun l13 => (Z6s l1 l7) (i6 + 1) l13
def Zjc (l1 : (List Group)) : Option (List Group) :=
 Z6s l1 l1 0 []
theorem Yey (l1 : (List Group)) (r : (List Group)) (h : Zjc l1 = some r) : PCon Tryz.prog 112 [rd (Z4 Z0d) l1] (rd (Z4 Z0d) r) := by
 refine PCon.of (Con.intro0 Tryz.func112 rfl Tryz.ntmps112 rfl fun w H => ?_)
 unfold Zjc at h
 refine SR <| Ac (Z02 (A := rd (Z4 Z0d) []) rfl rfl Z1u) rfl <| Nl <| AW.seq <| AW.newnil 1001 164 Z0d <| Rg <| Ac (Z02 rfl rfl vc) rfl <| Nl <| AW.seq <| SR <| Md rfl <| Ac (Z0x rfl rfl Z52 (vt rfl)) rfl <| Mk rfl <| Nl <| AW.block <| AW.loopG (d := []) (ν := (List Group) × Nat × (List Group) × Value) (fun n => Sfx l1 n.2.1 n.1 ∧ Z6s l1 n.1 n.2.1 n.2.2.1 = some r) (fun n => n.1.length) (fun n => [(0, rd (Z4 Z0d) l1), (3, Ze n.2.2.2), (8, rd (Z4 Z0d) l1), (9, rd (Z0 .i64) (l1.length : Int)), (10, rd (Z0 .i64) (n.2.1 : Int))]) (fun n => [(1001, Zb n.2.2.2 164 Z0d n.2.2.1)]) (l1, 0, [], (.slice none 0 0)) ⟨Sfx.start _, h⟩ (FX rfl) ?_
 rintro ⟨l7, i6, l4, v5⟩ ⟨hsf1, h⟩
 change Sfx l1 i6 l7 at hsf1
 change Z6s l1 l7 i6 l4 = some r at h
 change AW _ _ _ ⟨Zw [(0, rd (Z4 Z0d) l1), (3, Ze v5), (8, rd (Z4 Z0d) l1), (9, rd (Z0 .i64) (l1.length : Int)), (10, rd (Z0 .i64) (i6 : Int))], Zx [(1001, Zb v5 164 Z0d l4)], _⟩
 cases l7 with
 | nil =>
  unfold Z6s at h
  refine SR <| Ac (Zp rfl rfl (vt rfl) (vt rfl)) rfl <| Nl <| AW.seq <| Cn rfl (fun hc => absurd (of_decide_eq_true hc) hsf1.nil) (fun hc => ?_)
  refine AW.exit <| SR <| Mw rfl <| Aw rfl <| Nl <| AW.freezes [2, 3, 29] 1001 rfl ⟨rfl, rfl, rfl, trivial⟩ rfl <| AW.ret ?_
  obtain rfl := si h
  exact Zi Tryz.results112 rfl (Z8 rfl)
 | cons x8 l7 =>
  unfold Z6s at h
  generalize hgo1 : Z6s l1 l7 = go1 at h
  refine SR <| Ac (Zp rfl rfl (vt rfl) (vt rfl)) rfl <| Nl <| AW.seq <| Cn rfl (fun hc => ?_) (fun hc => absurd hsf1.cons (of_decide_eq_false hc))
  have hlti6 := of_decide_eq_true hc
  refine AW.skip <| AW.seq <| AW.block <| SR <| Md rfl <| Ac (Z0r rfl rfl Z52 (vt rfl) (vt rfl) hsf1.lget) rfl <| Lp1 Z57 rfl <| Ct rfl (Zq 6 rfl rfl Zcf) ?_
  rintro _ ⟨g9, rfl⟩
  refine As rfl <| Zj Z57 6 rfl <| Nl <| AW.seq ?_
  obtain ⟨s10, hs10, h⟩ := Z1 h
  obtain ⟨x11, hx11, h⟩ := Z1 h
  refine AW.regionAny [⟨[0], [16], [], []⟩, ⟨[4], [17], [], []⟩, ⟨[16, 17], [18], [], []⟩, ⟨[5], [19], [], []⟩, ⟨[19], [20], [6], []⟩, ⟨[18, 20], [21], [], []⟩, ⟨[21], [15], [], []⟩, ⟨[15], [22], [], []⟩, ⟨[15], [23], [], []⟩, ⟨[], [6], [], []⟩, ⟨[6, 22], [6], [], []⟩, ⟨[23], [7], [], []⟩] Z05 (by kernel_rfl) <| Zu rfl <| Zu rfl <| Sc (lo [16, 17] [] rfl fun S hs hr => Zwo hs10 rfl rfl Z52 (vh hs 16 rfl rfl) (vh hs 17 rfl rfl)) rfl <| SFd Zre Zsw rfl <| Zo ty3 6 rfl <| SCl [18, 20] (Zvx _ _ _ hx11) Zw4 rfl <| Sc (lo [21] [] rfl fun S hs hr => Zt (A := Z1h (rd Z0d x11.1) (rd Zc x11.2)) rfl rfl (vh hs 21 rfl rfl)) rfl <| Sc (lo [15] [] rfl fun S hs hr => Z1s rfl rfl (vh hs 15 rfl rfl)) rfl <| Sc (lo [15] [] rfl fun S hs hr => Z1t rfl rfl (vh hs 15 rfl rfl)) rfl <| Sc (Z16 (us := [(6, Z2e 164 Z0d Zkx)]) (ur := []) [] [] rfl fun S hs hr => Z5w rfl rfl rfl Zcf) rfl <| Sc (Z16 (us := [(6, Z2e 164 Z0d x11.1)]) (ur := []) [6, 22] [] rfl fun S hs hr => Z5r rfl rfl Z57 ((hs 6 rfl).trans rfl) (vh hs 22 rfl rfl)) rfl <| SAs rfl <| AW.unpackP 6 7 rfl rfl fun g12 => ?_
  obtain ⟨l13, hl13, h⟩ := Z1 h
  refine Rg <| Mw rfl <| Ld Z57 7 rfl <| Ac (Z2g (ps := [(0, .tmp 25)]) (l := [x11.1]) rfl rfl Z52 Zcf rfl rfl ⟨_, _, Lens.idx 1 Z0d 0 (by decide), _, rfl, (vt rfl), rfl⟩ rfl) rfl <| Ct rfl (Z2m 1001 hl13 rfl rfl Y0m (vt rfl) rfl (vt rfl)) ?_
  rintro _ ⟨v14, rfl⟩
  refine Aw rfl <| Nl <| Rg <| Ac (Z22 (t := 9) rfl rfl (vt rfl) (vk rfl) (vt rfl) hlti6) rfl <| Md rfl <| Nl ?_
  subst hgo1
  exact ⟨(l7, i6 + 1, l13, v14), Nat.lt_succ_self _, ⟨hsf1.next, h⟩, FX rfl⟩
def Zid (s1 : Switch) (most2 : Int) : Option (Flat × Int) :=
 (Zdd s1).bind fun x5 => (Zkk x5 most2).bind fun x6 => (bif (decide (x6.2 ≠ 0)) then some ((⟨[], []⟩ : Flat), x6.2) else (Zjc s1.Groups).bind fun x7 => some ((⟨x6.1, x7⟩ : Flat), 0))
theorem Y29 (s1 : Switch) (most2 : Int) (r : (Flat × Int)) (h : Zid s1 most2 = some r) : PCon Tryz.prog 54 [rd Z0h s1, rd (Z0 .i64) most2] (Z1h (rd Z5f r.1) (rd (Z0 .i64) r.2)) := by
 refine PCon.of (Con.intro0 Tryz.func54 rfl Tryz.ntmps54 rfl fun w H => ?_)
 unfold Zid at h
 refine SR <| Ct rfl (Zn 3 rfl rfl (vt rfl)) ?_
 rintro _ ⟨g3, rfl⟩
 refine Ct rfl (Zq 5 rfl rfl Zer) ?_
 rintro _ ⟨g4, rfl⟩
 refine Ak rfl <| Nl <| AW.seq ?_
 obtain ⟨x5, hx5, h⟩ := Z1 h
 obtain ⟨x6, hx6, h⟩ := Z1 h
 refine Rg <| Ld Z5z 3 rfl <| Cl [9] (Y8s _ _ hx5) e25 rfl <| Md rfl <| Cl [10, 11] (Y34 _ _ _ hx6) Yaj rfl <| Mt2 rfl <| Ac (Z1s rfl rfl (vt rfl)) rfl <| Ac (Z1t rfl rfl (vt rfl)) rfl <| As rfl <| As rfl <| Nl <| AW.seq <| SR <| Md rfl <| Ac (Z8m rfl rfl (vt rfl) (vk rfl)) rfl <| Nl <| Cn rfl (fun hc => ?_) (fun hc => ?_)
 ·have h := Zf hc h
  refine SR <| Ac (Z00 (ps := []) (x := (⟨[], []⟩ : Flat)) rfl rfl rfl (by kernel_rfl) Zer rfl) rfl <| Md rfl <| Zj Z5t 5 rfl <| As rfl <| Nl <| AW.ret ?_
  obtain rfl := si h
  exact Z25 Tryz.results54 rfl (Z01 rfl (i := 5) rfl Z5t) (Z8 rfl)
 ·have h := Zg hc h
  refine AW.skip <| AW.seq ?_
  obtain ⟨x7, hx7, h⟩ := Z1 h
  refine Rg <| Md rfl <| Zl Zqn Zu3 rfl <| Ld Zk5 3 rfl <| Cl [21] (Yey _ _ hx7) Y83 rfl <| Ac (Z00 (ps := [(0, .tmp 19), (1, .tmp 22)]) (x := (⟨x6.1, x7⟩ : Flat)) rfl rfl rfl (by kernel_rfl) Zer ⟨_, _, Zd3, _, by kernel_rfl, (vt rfl), _, _, Zro, _, by kernel_rfl, (vt rfl), rfl⟩) rfl <| Zj Z5t 5 rfl <| Ak rfl <| Nl <| AW.ret ?_
  obtain rfl := si h
  exact Z25 Tryz.results54 rfl (Z01 rfl (i := 5) rfl Z5t) (Z8 rfl)
def Z6w : (List Rule) → Nat → (List Z5) → Option (List Z5)
 | [], i6, l5 => some l5
 | x8 :: l7, i6, l5 => (lget l5 (i6 : Int)).bind fun e10 => (Z6w l7) (i6 + 1) (List.set l5 (i6 : Int).toNat x8.Cube)
def Zj3 (l1 : (List Rule)) : Option (List Z5) :=
 (omk (l1.length : Int)).bind fun u2 => Z6w l1 0 (List.replicate (l1.length : Int).toNat (Vector.replicate 24 zTern))
theorem Y5g (l1 : (List Rule)) (r : (List Z5)) (h : Zj3 l1 = some r) : PCon Tryz.prog 169 [rd (Z4 Zy) l1] (rd (Z4 (Z2 24 Z3)) r) := by
 refine PCon.of (Con.intro0 Tryz.func169 rfl Tryz.ntmps169 rfl fun w H => ?_)
 unfold Zj3 at h
 refine SR <| Ac (Z02 (A := rd (Z4 (Z2 24 Z3)) []) rfl rfl Z1u) rfl <| Nl <| AW.seq ?_
 obtain ⟨u2, hu2, h⟩ := Z1 h
 refine Rg <| Md rfl <| Ac (Z0x rfl rfl Z2p (vt rfl)) rfl <| Ct rfl (Y38 1001 hu2 rfl rfl Zli Z15 (vt rfl) (vt rfl)) ?_
 rintro _ ⟨v3, rfl⟩
 refine Aw rfl <| Nl <| AW.seq <| SR <| Md rfl <| Ac (Z0x rfl rfl Z2p (vt rfl)) rfl <| Mk rfl <| Nl <| AW.block <| AW.loopG (d := []) (ν := (List Rule) × Nat × (List Z5)) (fun n => Sfx l1 n.2.1 n.1 ∧ Z6w n.1 n.2.1 n.2.2 = some r) (fun n => n.1.length) (fun n => [(3, Ze v3), (9, rd (Z4 Zy) l1), (10, rd (Z0 .i64) (l1.length : Int)), (11, rd (Z0 .i64) (n.2.1 : Int))]) (fun n => [(1001, Zb v3 87 (Z2 24 Z3) n.2.2)]) (l1, 0, (List.replicate (l1.length : Int).toNat (Vector.replicate 24 zTern))) ⟨Sfx.start _, h⟩ (FX rfl) ?_
 rintro ⟨l7, i6, l5⟩ ⟨hsf1, h⟩
 change Sfx l1 i6 l7 at hsf1
 change Z6w l7 i6 l5 = some r at h
 change AW _ _ _ ⟨Zw [(3, Ze v3), (9, rd (Z4 Zy) l1), (10, rd (Z0 .i64) (l1.length : Int)), (11, rd (Z0 .i64) (i6 : Int))], Zx [(1001, Zb v3 87 (Z2 24 Z3) l5)], _⟩
 cases l7 with
 | nil =>
  unfold Z6w at h
  refine SR <| Ac (Zp rfl rfl (vt rfl) (vt rfl)) rfl <| Nl <| AW.seq <| Cn rfl (fun hc => absurd (of_decide_eq_true hc) hsf1.nil) (fun hc => ?_)
  refine AW.exit <| SR <| Mw rfl <| Aw rfl <| Nl <| AW.freezes [2, 3, 22] 1001 rfl ⟨rfl, rfl, rfl, trivial⟩ rfl <| AW.ret ?_
  obtain rfl := si h
  exact Zi Tryz.results169 rfl (Z8 rfl)
 | cons x8 l7 =>
  unfold Z6w at h
  generalize hgo1 : Z6w l7 = go1 at h
  refine SR <| Ac (Zp rfl rfl (vt rfl) (vt rfl)) rfl <| Nl <| AW.seq <| Cn rfl (fun hc => ?_) (fun hc => absurd hsf1.cons (of_decide_eq_false hc))
  have hlti6 := of_decide_eq_true hc
  refine AW.skip <| AW.seq <| AW.block <| SR <| Md rfl <| Ac (Z0r rfl rfl Z2p (vt rfl) (vt rfl) hsf1.lget) rfl <| Lp1 Z7h rfl <| Ct rfl (Zq 6 rfl rfl Z48) ?_
  rintro _ ⟨g9, rfl⟩
  refine As rfl <| Zj Z7h 6 rfl <| Nl ?_
  obtain ⟨e10, he10, h⟩ := Z1 h
  refine Rg <| Mw rfl <| Md rfl <| Zl Z6b Zfh rfl <| Ld Z03 6 rfl <| Ac (Z1q 1001 rfl rfl Z3u (vt rfl) rfl (vt rfl) he10) rfl <| Ac (Z2h 1001 rfl rfl Z03 (vt rfl) rfl (Z0g he10).2 (vt rfl)) rfl <| Nl <| Rg <| Ac (Z22 (t := 10) rfl rfl (vt rfl) (vk rfl) (vt rfl) hlti6) rfl <| Md rfl <| Nl ?_
  subst hgo1
  exact ⟨(l7, i6 + 1, (List.set l5 (i6 : Int).toNat x8.Cube)), Nat.lt_succ_self _, ⟨hsf1.next, h⟩, FX rfl⟩
end Go.Proofs.YtknpgojdkobgjaaGreat.W
set_option maxRecDepth 4000
namespace Go.Proofs.YtknpgojdkobgjaaGreat.W
open Go Go.Wb
theorem Ye3 : Ent Tryz.prog 169 := Ent.mk Tryz.func169 rfl rfl
end Go.Proofs.YtknpgojdkobgjaaGreat.W
set_option maxRecDepth 4000
namespace Go.Proofs.YtknpgojdkobgjaaGreat.W
open Go Go.Wb
end Go.Proofs.YtknpgojdkobgjaaGreat.W
set_option maxRecDepth 4000
namespace Go.Proofs.YtknpgojdkobgjaaGreat.W
open Go Go.Wb
theorem e54 : Ent Tryz.prog 54 := Ent.mk Tryz.func54 rfl rfl
end Go.Proofs.YtknpgojdkobgjaaGreat.W
set_option maxRecDepth 4000
namespace Go.Proofs.YtknpgojdkobgjaaGreat.W
open Go Go.Wb
theorem e52 : Ent Tryz.prog 52 := Ent.mk Tryz.func52 rfl rfl
theorem e53 : Ent Tryz.prog 53 := Ent.mk Tryz.func53 rfl rfl
end Go.Proofs.YtknpgojdkobgjaaGreat.W
set_option maxRecDepth 4000
namespace Go.Proofs.YtknpgojdkobgjaaGreat.W
open Go Go.Wb
theorem e48 : Ent Tryz.prog 48 := Ent.mk Tryz.func48 rfl rfl
theorem e39 : Ent Tryz.prog 39 := Ent.mk Tryz.func39 rfl rfl
def Z8x (s1 : (List Rule)) (f2 : (Rule → Option Bool)) : Nat → Nat → Option Int
 | 0, i3 => some (-1)
 | m4 + 1, i3 => (lget s1 (i3 : Int)).bind fun e5 => (f2 e5).bind fun x6 => (bif x6 then some (i3 : Int) else (Z8x s1 f2 m4) (i3 + 1))
def Zgg (s1 : (List Rule)) (f2 : (Rule → Option Bool)) : Option Int :=
 Z8x s1 f2 ((s1.length : Int) : Int).toNat 0
theorem Yel (s1 : (List Rule)) (f2 : (Rule → Option Bool)) (r : Int) (h : Zgg s1 f2 = some r) : PCon Tryz.prog 48 [rd (Z4 Zy) s1, fn1 Tryz.prog Zy Zc f2] (rd (Z0 .i64) r) := by
 refine PCon.of (Con.intro0 Tryz.func48 rfl Tryz.ntmps48 rfl fun w H => ?_)
 unfold Zgg at h
 refine SR <| Ak rfl <| Nl <| AW.seq <| SR <| Md rfl <| Ac (Z0x rfl rfl Z2p (vt rfl)) rfl <| Mk rfl <| Nl <| AW.block <| AW.loopG (d := []) (ν := Nat × Nat) (fun n => Cnt (s1.length : Int) n.2 n.1 ∧ Z8x s1 f2 n.1 n.2 = some r) (fun n => n.1) (fun n => [(0, rd (Z4 Zy) s1), (1, fn1 Tryz.prog Zy Zc f2), (7, rd (Z0 .i64) (s1.length : Int)), (8, rd (Z0 .i64) (n.2 : Int))]) (fun n => []) (((s1.length : Int) : Int).toNat, 0) ⟨Cnt.start _, h⟩ (FX rfl) ?_
 rintro ⟨m4, i3⟩ ⟨hsf1, h⟩
 change Cnt (s1.length : Int) i3 m4 at hsf1
 change Z8x s1 f2 m4 i3 = some r at h
 change AW _ _ _ ⟨Zw [(0, rd (Z4 Zy) s1), (1, fn1 Tryz.prog Zy Zc f2), (7, rd (Z0 .i64) (s1.length : Int)), (8, rd (Z0 .i64) (i3 : Int))], Zx [], _⟩
 cases m4 with
 | zero =>
  unfold Z8x at h
  refine SR <| Ac (Zp rfl rfl (vt rfl) (vt rfl)) rfl <| Nl <| AW.seq <| Cn rfl (fun hc => absurd (of_decide_eq_true hc) hsf1.zero) (fun hc => ?_)
  refine AW.exit <| SR <| Ak rfl <| Nl <| AW.ret ?_
  obtain rfl := si h
  exact Zi Tryz.results48 rfl (Z8 rfl)
 | succ m4 =>
  unfold Z8x at h
  generalize hgo1 : Z8x s1 f2 m4 = go1 at h
  refine SR <| Ac (Zp rfl rfl (vt rfl) (vt rfl)) rfl <| Nl <| AW.seq <| Cn rfl (fun hc => ?_) (fun hc => absurd hsf1.succ (of_decide_eq_false hc))
  have hlti3 := of_decide_eq_true hc
  refine AW.skip <| AW.seq <| AW.block <| SR <| Md rfl <| As rfl <| Nl <| AW.seq ?_
  obtain ⟨e5, he5, h⟩ := Z1 h
  obtain ⟨x6, hx6, h⟩ := Z1 h
  refine Rg <| Ac (Zt (A := fn1 Tryz.prog Zy Zc f2) rfl rfl (vt rfl)) rfl <| Md rfl <| Md rfl <| Ac (Z0r rfl rfl Z2p (vt rfl) (vt rfl) he5) rfl <| Lp1 Z7h rfl <| Ac (Z9e hx6 rfl rfl (vt rfl) (vt rfl)) rfl <| Nl <| Cn rfl (fun hc => ?_) (fun hc => ?_)
  ·have h := Zf hc h
   refine SR <| Md rfl <| As rfl <| Nl <| AW.ret ?_
   obtain rfl := si h
   exact Zi Tryz.results48 rfl (Z8 rfl)
  ·have h := Zg hc h
   refine AW.skip <| Rg <| Ac (Z22 (t := 7) rfl rfl (vt rfl) (vk rfl) (vt rfl) hlti3) rfl <| Md rfl <| Nl ?_
   subst hgo1
   exact ⟨(m4, i3 + 1), Nat.lt_succ_self _, ⟨hsf1.next, h⟩, FX rfl⟩
def Zno (s1 : Switch) (most2 : Int) : Option Bool :=
 (Zk3 s1 3).bind fun x4 => (opt ((x4 == true) && ((decide (most2 ≤ 1024)) == false)) (Zdi s1)).bind fun x5 => some (x4 && ((decide (most2 ≤ 1024)) || (decide (x5 ≤ 4096))))
theorem Yc4 (s1 : Switch) (most2 : Int) (r : Bool) (h : Zno s1 most2 = some r) : PCon Tryz.prog 61 [rd Z0h s1, rd (Z0 .i64) most2] (rd Zc r) := by
 refine PCon.of (Con.intro0 Tryz.func61 rfl Tryz.ntmps61 rfl fun w H => ?_)
 unfold Zno at h
 refine SR <| Ct rfl (Zn 3 rfl rfl (vt rfl)) ?_
 rintro _ ⟨g3, rfl⟩
 refine Ab rfl <| Nl <| AW.seq ?_
 obtain ⟨x4, hx4, h⟩ := Z1 h
 obtain ⟨x5, hx5, h⟩ := Z1 h
 refine Rg <| Ld Z5z 3 rfl <| Ac (Z11 (xs := [.tmp 5, .const (Value.int IntKind.i64 3)]) (Ycg _ _ _ hx4) e21 rfl rfl ⟨vt rfl, vk rfl, trivial⟩) rfl <| Md rfl <| Gd rfl (fun hq => Zt (A := rd (Z0 .i64) most2) rfl rfl (vt rfl)) <| Gd rfl (fun hq => Z62 rfl rfl (Zs rfl hq) (vk rfl)) <| AOps.consG (OpG.guardX rfl rfl rfl rfl rfl fun hq => Zt (A := rd Zc (decide (most2 ≤ 1024))) rfl rfl (Zs rfl hq)) <| AOps.consG (OpG.guardN rfl rfl rfl rfl rfl fun hq => Z37 rfl rfl Z5z (vt rfl) (i := 3) rfl) <| AOps.consG (OpG.guardN rfl rfl rfl rfl rfl fun hq => Z11 (xs := [.tmp 11]) (Yc1 _ _ (Yeu hx5 hq)) e59 rfl rfl ⟨Zs rfl hq, trivial⟩) <| AOps.consG (OpG.guardN rfl rfl rfl rfl rfl fun hq => Z62 rfl rfl (Zs rfl hq) (vk rfl)) <| Gd rfl (fun hq => Z68 rfl rfl (vgx rfl hq) (vgw rfl hq)) <| Ac (Z1w rfl rfl (vt rfl) (vt rfl)) rfl <| As rfl <| Nl <| AW.ret ?_
 obtain rfl := si h
 exact Zi Tryz.results61 rfl (Z8 rfl)
end Go.Proofs.YtknpgojdkobgjaaGreat.W
set_option maxRecDepth 4000
namespace Go.Proofs.YtknpgojdkobgjaaGreat.W
open Go Go.Wb
theorem e50 : Ent Tryz.prog 50 := Ent.mk Tryz.func50 rfl rfl
theorem Y2g : Ent Tryz.prog 166 := Ent.mk Tryz.func166 rfl rfl
theorem Y9o : Ent Tryz.prog 101 := Ent.mk Tryz.func101 rfl rfl
theorem Y3i : Ent Tryz.prog 104 := Ent.mk Tryz.func104 rfl rfl
def Z78 (h2 : Z0l) : (List Tern) → Nat → Option Bool
 | [], i5 => some true
 | x7 :: l6, i5 => (chk 24 (i5 : Int)).bind fun j9 => (Zf6 x7 (Vector.get h2 j9)).bind fun x10 => (bif (!x10) then some false else (Z78 h2 l6) (i5 + 1))
def Zgf (cu1 : Z5) (h2 : Z0l) : Option Bool :=
 Z78 h2 (Vector.toList cu1) 0
theorem Yfx (cu1 : Z5) (h2 : Z0l) (r : Bool) (h : Zgf cu1 h2 = some r) : PCon Tryz.prog 50 [rd (Z2 24 Z3) cu1, rd (Z2 24 Zh) h2] (rd Zc r) := by
 refine PCon.of (Con.intro0 Tryz.func50 rfl Tryz.ntmps50 rfl fun w H => ?_)
 unfold Zgf at h
 refine SR <| Ct rfl (Zn 3 rfl rfl (vt rfl)) ?_
 rintro _ ⟨g3, rfl⟩
 refine Ct rfl (Zn 4 rfl rfl (vt rfl)) ?_
 rintro _ ⟨g4, rfl⟩
 refine Ab rfl <| Nl <| AW.seq <| SR <| Ld Z03 3 rfl <| Mk rfl <| Nl <| AW.block <| AW.loopG (d := []) (ν := (List Tern) × Nat) (fun n => Sfx (Vector.toList cu1) n.2 n.1 ∧ Z78 h2 n.1 n.2 = some r) (fun n => n.1.length) (fun n => [(3, Z7 g4 (Lens.id (Z2 24 Zh))), (7, rd (Z2 24 Z3) cu1), (8, rd (Z0 .i64) (n.2 : Int))]) (fun n => [(4, Z9 g4 44 (Z2 24 Zh) h2)]) ((Vector.toList cu1), 0) ⟨Sfx.start _, h⟩ (FX rfl) ?_
 rintro ⟨l6, i5⟩ ⟨hsf1, h⟩
 change Sfx (Vector.toList cu1) i5 l6 at hsf1
 change Z78 h2 l6 i5 = some r at h
 change AW _ _ _ ⟨Zw [(3, Z7 g4 (Lens.id (Z2 24 Zh))), (7, rd (Z2 24 Z3) cu1), (8, rd (Z0 .i64) (i5 : Int))], Zx [(4, Z9 g4 44 (Z2 24 Zh) h2)], _⟩
 cases l6 with
 | nil =>
  unfold Z78 at h
  refine SR <| Ac (Zp rfl rfl (vt rfl) (vk rfl)) rfl <| Nl <| AW.seq <| Cn rfl (fun hc => absurd (of_decide_eq_true hc) (hsf1.niln (by simp))) (fun hc => ?_)
  refine AW.exit <| SR <| Ab rfl <| Nl <| AW.ret ?_
  obtain rfl := si h
  exact Zi Tryz.results50 rfl (Z8 rfl)
 | cons x7 l6 =>
  unfold Z78 at h
  generalize hgo1 : Z78 h2 l6 = go1 at h
  refine SR <| Ac (Zp rfl rfl (vt rfl) (vk rfl)) rfl <| Nl <| AW.seq <| Cn rfl (fun hc => ?_) (fun hc => absurd (hsf1.consn (by simp)) (of_decide_eq_false hc))
  have hlti5 := of_decide_eq_true hc
  refine AW.skip <| AW.seq <| AW.block <| SR <| Md rfl <| Ac (Zb3 rfl rfl Z2a Zz (vt rfl) (vt rfl) hsf1.lget) rfl <| Ct rfl (Zq 7 rfl rfl Z1a) ?_
  rintro _ ⟨g8, rfl⟩
  refine As rfl <| Zj Zz 7 rfl <| Nl <| AW.seq ?_
  obtain ⟨j9, hj9, h⟩ := Z1 h
  obtain ⟨x10, hx10, h⟩ := Z1 h
  refine AW.regionAny [⟨[6], [12], [7], []⟩, ⟨[5], [13], [], []⟩, ⟨[3, 13], [14], [], []⟩, ⟨[14], [15], [4], []⟩, ⟨[12, 15], [16], [], []⟩, ⟨[16], [17], [], []⟩] Z05 (by kernel_rfl) <| Zo Zz 7 rfl <| Zu rfl <| Sc (lo [3, 13] [] rfl fun S hs hr => Z1b rfl rfl Zk9 (vh hs 3 rfl rfl) (vh hs 13 rfl rfl) hj9) rfl <| Zo Zv 4 rfl <| SCl [12, 15] (Znv _ _ _ hx10) Zom rfl <| Sc (lo [16] [] rfl fun S hs hr => Z19 rfl rfl (vh hs 16 rfl rfl)) rfl <| Cn rfl (fun hc => ?_) (fun hc => ?_)
  ·have h := Zf hc h
   refine SR <| Ab rfl <| Nl <| AW.ret ?_
   obtain rfl := si h
   exact Zi Tryz.results50 rfl (Z8 rfl)
  ·have h := Zg hc h
   refine AW.skip <| Rg <| Ac (Z6k rfl rfl (vt rfl) (vk rfl) rfl hlti5) rfl <| Md rfl <| Nl ?_
   subst hgo1
   exact ⟨(l6, i5 + 1), Nat.lt_succ_self _, ⟨hsf1.next, h⟩, FX rfl⟩
def Zc6 (r1 : Rule) (cp2 : Z0l) : Option Bool :=
 (Zgf r1.Cube cp2).bind fun x4 => some x4
theorem Y58 (r1 : Rule) (cp2 : Z0l) (r : Bool) (h : Zc6 r1 cp2 = some r) : PCon Tryz.prog 166 [rd Zy r1, rp (Z2 24 Zh) cp2] (rd Zc r) := by
 refine PCon.of (Con.intro0 Tryz.func166 rfl Tryz.ntmps166 rfl fun w H => ?_)
 unfold Zc6 at h
 refine SR <| Ct rfl (Zn 3 rfl rfl (vt rfl)) ?_
 rintro _ ⟨g3, rfl⟩
 refine Ab rfl <| Nl <| AW.seq ?_
 obtain ⟨x4, hx4, h⟩ := Z1 h
 refine Rg <| Zl Z6b Zfh rfl <| Ld Z03 3 rfl <| Lp1 Z0w rfl <| Cl [5, 6] (Yfx _ _ _ hx4) e50 rfl <| As rfl <| Nl <| AW.ret ?_
 obtain rfl := si h
 exact Zi Tryz.results166 rfl (Z8 rfl)
def Zm2 (h1 : Z0l) : Option (Rule → Option Bool) :=
 some (fun x => Zc6 x h1)
theorem Yce (h1 : Z0l) (r : (Rule → Option Bool)) (h : Zm2 h1 = some r) : PCon Tryz.prog 101 [rd (Z2 24 Zh) h1] (fn1 Tryz.prog Zy Zc r) := by
 refine PCon.of (Con.intro0 Tryz.func101 rfl Tryz.ntmps101 rfl fun w H => ?_)
 unfold Zm2 at h
 refine SR <| Ct rfl (Zn 2 rfl rfl (vt rfl)) ?_
 rintro _ ⟨g2, rfl⟩
 refine Ac (Z02 (A := Ze .nilFunc) rfl rfl vc) rfl <| Nl <| AW.seq <| AW.freezeB 1 2 rfl rfl rfl <| Rg <| Ac (Z79 (cs := [.tmp 1]) (CAs := [rp (Z2 24 Zh) h1]) (fun x => Zc6 x h1) rfl rfl Y2g ⟨vt rfl, trivial⟩ (fun x y h => Y58 _ _ y h)) rfl <| Ac (Z02 (A := fn1 Tryz.prog Zy Zc (fun x => Zc6 x h1)) rfl rfl (vt rfl)) rfl <| Nl <| AW.ret ?_
 obtain rfl := si h
 exact Zi Tryz.results101 rfl (Z8 rfl)
def Zcr (f1 : Flat) (h2 : Z0l) : Option (Int × Bool) :=
 (Zm2 h2).bind fun x5 => (Zgg f1.Rules x5).bind fun x6 => some ((Z1r x6 0), (decide (x6 ≥ 0)))
theorem Znq (f1 : Flat) (h2 : Z0l) (r : (Int × Bool)) (h : Zcr f1 h2 = some r) : PCon Tryz.prog 42 [rd Z5f f1, rd (Z2 24 Zh) h2] (Z1h (rd (Z0 .i64) r.1) (rd Zc r.2)) := by
 refine PCon.of (Con.intro0 Tryz.func42 rfl Tryz.ntmps42 rfl fun w H => ?_)
 unfold Zcr at h
 refine SR <| Ct rfl (Zn 3 rfl rfl (vt rfl)) ?_
 rintro _ ⟨g3, rfl⟩
 refine Ct rfl (Zn 4 rfl rfl (vt rfl)) ?_
 rintro _ ⟨g4, rfl⟩
 refine Ak rfl <| Ab rfl <| Nl <| AW.seq ?_
 obtain ⟨x5, hx5, h⟩ := Z1 h
 obtain ⟨x6, hx6, h⟩ := Z1 h
 refine AW.regionAny [⟨[2], [7], [], []⟩, ⟨[7], [8], [3], []⟩, ⟨[3], [9], [4], []⟩, ⟨[9], [10], [], []⟩, ⟨[8, 10], [11], [], []⟩, ⟨[11], [6], [], []⟩] Z05 (by kernel_rfl) <| SFd Zd3 Znk rfl <| Zo Zne 3 rfl <| Zo Z0w 4 rfl <| SCl [9] (Yce _ _ hx5) Y9o rfl <| SCl [8, 10] (Yel _ _ _ hx6) e48 rfl <| SAs rfl <| SR <| Md rfl <| Ac (Zgb rfl rfl (vt rfl) (vk rfl)) rfl <| Md rfl <| Ac (Z4e rfl rfl (vt rfl) (vk rfl)) rfl <| As rfl <| As rfl <| Nl <| AW.ret ?_
 obtain rfl := si h
 exact Z25 Tryz.results42 rfl (Z8 rfl) (Z8 rfl)
def Zgu (l1 : (List Rule)) (i2 : Int) (most3 : Int) : Option (Z0l × Bool × Int) :=
 (bif ((decide (i2 < 0)) || (decide (i2 ≥ (l1.length : Int)))) then some ((Vector.replicate 24 Z0a), false, 6) else (Zj3 l1).bind fun x5 => (lget x5 i2).bind fun e6 => (Z4g x5 i2).bind fun s7 => (Zgc e6 s7 most3).bind fun x8 => some (x8.1, x8.2.1, x8.2.2))
theorem Y9v (l1 : (List Rule)) (i2 : Int) (most3 : Int) (r : (Z0l × Bool × Int)) (h : Zgu l1 i2 most3 = some r) : PCon Tryz.prog 104 [rd (Z4 Zy) l1, rd (Z0 .i64) i2, rd (Z0 .i64) most3] (Z39 (rd (Z2 24 Zh) r.1) (rd Zc r.2.1) (rd (Z0 .i64) r.2.2)) := by
 refine PCon.of (Con.intro0 Tryz.func104 rfl Tryz.ntmps104 rfl fun w H => ?_)
 unfold Zgu at h
 refine SR <| Ct rfl (Zq 7 rfl rfl Z3m) ?_
 rintro _ ⟨g4, rfl⟩
 refine Ab rfl <| Ak rfl <| Nl <| AW.seq <| SR <| Md rfl <| Ac (Zp rfl rfl (vt rfl) (vk rfl)) rfl <| Md rfl <| Gd rfl (fun hq => Zt (A := rd (Z0 .i64) i2) rfl rfl (vt rfl)) <| Gd rfl (fun hq => Zt (A := rd (Z4 Zy) l1) rfl rfl (vt rfl)) <| Gd rfl (fun hq => Z0x rfl rfl Z2p (Zs rfl hq)) <| Gd rfl (fun hq => Z4e rfl rfl (Zs rfl hq) (Zs rfl hq)) <| Ac (Z68 rfl rfl (vt rfl) (vt rfl)) rfl <| Nl <| Cn rfl (fun hc => ?_) (fun hc => ?_)
 ·have h := Zf hc h
  refine SR <| Ac (Z00 (ps := []) (x := (Vector.replicate 24 Z0a)) rfl rfl rfl (by kernel_rfl) Z3m rfl) rfl <| Zj Z0w 7 rfl <| Ab rfl <| Ak rfl <| Nl <| AW.ret ?_
  obtain rfl := si h
  exact Zch Tryz.results104 rfl (Z01 rfl (i := 7) rfl Z0w) (Z8 rfl) (Z8 rfl)
 ·have h := Zg hc h
  refine AW.skip <| AW.seq ?_
  obtain ⟨x5, hx5, h⟩ := Z1 h
  refine Rg <| Md rfl <| Cl [19] (Y5g _ _ hx5) Ye3 rfl <| As rfl <| Nl <| AW.seq ?_
  obtain ⟨e6, he6, h⟩ := Z1 h
  obtain ⟨s7, hs7, h⟩ := Z1 h
  obtain ⟨x8, hx8, h⟩ := Z1 h
  refine AW.regionAny [⟨[9], [21], [], []⟩, ⟨[1], [22], [], []⟩, ⟨[21, 22], [23], [], []⟩, ⟨[23], [24], [], []⟩, ⟨[9], [25], [], []⟩, ⟨[1], [26], [], []⟩, ⟨[1], [27], [], []⟩, ⟨[25, 26, 27], [28], [], []⟩, ⟨[2], [29], [], []⟩, ⟨[24, 28, 29], [30], [], []⟩, ⟨[30], [31], [], []⟩, ⟨[30], [32], [], []⟩, ⟨[30], [33], [], []⟩, ⟨[6, 31], [], [7], [7]⟩, ⟨[32], [7], [], []⟩, ⟨[33], [8], [], []⟩] Z05 (by kernel_rfl) <| Zu rfl <| Zu rfl <| Sc (lo [21, 22] [] rfl fun S hs hr => Z0r rfl rfl Z3u (vh hs 21 rfl rfl) (vh hs 22 rfl rfl) he6) rfl <| SLp Z03 rfl <| Zu rfl <| Zu rfl <| Zu rfl <| Sc (lo [25, 26, 27] [] rfl fun S hs hr => Zum hs7 rfl rfl Z3u (vh hs 25 rfl rfl) (vh hs 26 rfl rfl) (vh hs 27 rfl rfl)) rfl <| Zu rfl <| Sc (lo [24, 28, 29] [] rfl fun S hs hr => Z11 (xs := [.tmp 24, .tmp 28, .tmp 29]) (Zyb _ _ _ _ hx8) Ztg rfl rfl ⟨vt ((hs 24 rfl).trans rfl), Y4i (vh hs 28 rfl rfl), vt ((hs 29 rfl).trans rfl), trivial⟩) rfl <| Sc (lo [30] [] rfl fun S hs hr => Zbd rfl rfl (vh hs 30 rfl rfl)) rfl <| Sc (lo [30] [] rfl fun S hs hr => Zb9 rfl rfl (vh hs 30 rfl rfl)) rfl <| Sc (lo [30] [] rfl fun S hs hr => Zag rfl rfl (vh hs 30 rfl rfl)) rfl <| SSt Z0w 7 rfl <| SAs rfl <| SAs rfl <| AW.ret ?_
  obtain rfl := si h
  exact Zch Tryz.results104 rfl (Z01 rfl (i := 7) rfl Z0w) (Z8 rfl) (Z8 rfl)
def Zi3 (f1 : Flat) (i2 : Int) (most3 : Int) : Option (Z0l × Bool × Int) :=
 (Zgu f1.Rules i2 most3).bind fun x6 => some (x6.1, x6.2.1, x6.2.2)
theorem Ztd (f1 : Flat) (i2 : Int) (most3 : Int) (r : (Z0l × Bool × Int)) (h : Zi3 f1 i2 most3 = some r) : PCon Tryz.prog 46 [rd Z5f f1, rd (Z0 .i64) i2, rd (Z0 .i64) most3] (Z39 (rd (Z2 24 Zh) r.1) (rd Zc r.2.1) (rd (Z0 .i64) r.2.2)) := by
 refine PCon.of (Con.intro0 Tryz.func46 rfl Tryz.ntmps46 rfl fun w H => ?_)
 unfold Zi3 at h
 refine SR <| Ct rfl (Zn 4 rfl rfl (vt rfl)) ?_
 rintro _ ⟨g4, rfl⟩
 refine Ct rfl (Zq 7 rfl rfl Z3m) ?_
 rintro _ ⟨g5, rfl⟩
 refine Ab rfl <| Ak rfl <| Nl <| AW.seq ?_
 obtain ⟨x6, hx6, h⟩ := Z1 h
 refine Rg <| Zl Zd3 Znk rfl <| Ld Zne 4 rfl <| Md rfl <| Md rfl <| Cl [10, 11, 12] (Y9v _ _ _ _ hx6) Y3i rfl <| Ac (Zbd rfl rfl (vt rfl)) rfl <| Ac (Zb9 rfl rfl (vt rfl)) rfl <| Ac (Zag rfl rfl (vt rfl)) rfl <| Zj Z0w 7 rfl <| As rfl <| As rfl <| Nl <| AW.ret ?_
 obtain rfl := si h
 exact Zch Tryz.results46 rfl (Z01 rfl (i := 7) rfl Z0w) (Z8 rfl) (Z8 rfl)
def Zc0 : (List Tern) → Nat → Z0l → Option Z0l
 | [], i8, b7 => some b7
 | x10 :: l9, i8, b7 => (chk 24 (i8 : Int)).bind fun j12 => (Z9k (Vector.get b7 j12) x10.Mask).bind fun x13 => (Zam x10.Value x10.Mask).bind fun x14 => (Z6z x13 x14).bind fun x15 => (chk 24 (i8 : Int)).bind fun j16 => (Zc0 l9) (i8 + 1) (Vector.set b7 j16.1 x15 j16.2)
def Zmf (r1 : Z5) (h2 : Z0l) : Option Z0l :=
 Zc0 (Vector.toList r1) 0 h2
theorem Zxr (r1 : Z5) (h2 : Z0l) (r : Z0l) (h : Zmf r1 h2 = some r) : PCon Tryz.prog 109 [rd (Z2 24 Z3) r1, rd (Z2 24 Zh) h2] (rd (Z2 24 Zh) r) := by
 refine PCon.of (Con.intro0 Tryz.func109 rfl Tryz.ntmps109 rfl fun w H => ?_)
 unfold Zmf at h
 refine SR <| Ct rfl (Zn 3 rfl rfl (vt rfl)) ?_
 rintro _ ⟨g3, rfl⟩
 refine Ct rfl (Zn 4 rfl rfl (vt rfl)) ?_
 rintro _ ⟨g4, rfl⟩
 refine Ct rfl (Zq 5 rfl rfl Z3m) ?_
 rintro _ ⟨g5, rfl⟩
 refine Nl <| AW.seq <| SR <| Ld Z04 3 rfl <| Mk rfl <| Nl <| AW.block <| AW.loopG (d := []) (ν := (List Tern) × Nat × Z0l) (fun n => Sfx (Vector.toList r1) n.2.1 n.1 ∧ Zc0 n.1 n.2.1 n.2.2 = some r) (fun n => n.1.length) (fun n => [(3, Z7 g4 (Lens.id (Z2 24 Zh))), (4, Z7 g5 (Lens.id (Z2 24 Zh))), (7, rd (Z2 24 Z3) r1), (8, rd (Z0 .i64) (n.2.1 : Int))]) (fun n => [(4, Z9 g4 44 (Z2 24 Zh) n.2.2), (5, Z9 g5 44 (Z2 24 Zh) (Vector.replicate 24 Z0a))]) ((Vector.toList r1), 0, h2) ⟨Sfx.start _, h⟩ (FX rfl) ?_
 rintro ⟨l9, i8, b7⟩ ⟨hsf1, h⟩
 change Sfx (Vector.toList r1) i8 l9 at hsf1
 change Zc0 l9 i8 b7 = some r at h
 change AW _ _ _ ⟨Zw [(3, Z7 g4 (Lens.id (Z2 24 Zh))), (4, Z7 g5 (Lens.id (Z2 24 Zh))), (7, rd (Z2 24 Z3) r1), (8, rd (Z0 .i64) (i8 : Int))], Zx [(4, Z9 g4 44 (Z2 24 Zh) b7), (5, Z9 g5 44 (Z2 24 Zh) (Vector.replicate 24 Z0a))], _⟩
 cases l9 with
 | nil =>
  unfold Zc0 at h
  refine SR <| Ac (Zp rfl rfl (vt rfl) (vk rfl)) rfl <| Nl <| AW.seq <| Cn rfl (fun hc => absurd (of_decide_eq_true hc) (hsf1.niln (by simp))) (fun hc => ?_)
  refine AW.exit <| SR <| Ld Z0w 4 rfl <| Zj Z0w 5 rfl <| Nl <| AW.ret ?_
  obtain rfl := si h
  exact Zi Tryz.results109 rfl (Z01 rfl (i := 5) rfl Z0w)
 | cons x10 l9 =>
  unfold Zc0 at h
  generalize hgo1 : Zc0 l9 = go1 at h
  refine SR <| Ac (Zp rfl rfl (vt rfl) (vk rfl)) rfl <| Nl <| AW.seq <| Cn rfl (fun hc => ?_) (fun hc => absurd (hsf1.consn (by simp)) (of_decide_eq_false hc))
  have hlti8 := of_decide_eq_true hc
  refine AW.skip <| AW.seq <| AW.block <| SR <| Md rfl <| Ac (Zb3 rfl rfl Z3g Zz (vt rfl) (vt rfl) hsf1.lget) rfl <| Ct rfl (Zq 7 rfl rfl Z1a) ?_
  rintro _ ⟨g11, rfl⟩
  refine As rfl <| Zj Zz 7 rfl <| Nl ?_
  obtain ⟨j12, hj12, h⟩ := Z1 h
  obtain ⟨x13, hx13, h⟩ := Z1 h
  obtain ⟨x14, hx14, h⟩ := Z1 h
  obtain ⟨x15, hx15, h⟩ := Z1 h
  obtain ⟨j16, hj16, h⟩ := Z1 h
  refine AW.regionAny [⟨[5], [12], [], []⟩, ⟨[5], [13], [], []⟩, ⟨[3, 13], [14], [], []⟩, ⟨[14], [15], [4], []⟩, ⟨[6], [16], [], []⟩, ⟨[16], [17], [7], []⟩, ⟨[15, 17], [18], [], []⟩, ⟨[6], [19], [], []⟩, ⟨[19], [20], [7], []⟩, ⟨[6], [21], [], []⟩, ⟨[21], [22], [7], []⟩, ⟨[20, 22], [23], [], []⟩, ⟨[18, 23], [24], [], []⟩, ⟨[3, 12], [25], [], []⟩, ⟨[25, 24], [], [4], [4]⟩] Z05 (by kernel_rfl) <| Zu rfl <| Zu rfl <| Sc (lo [3, 13] [] rfl fun S hs hr => Z1b rfl rfl Zk9 (vh hs 3 rfl rfl) (vh hs 13 rfl rfl) hj12) rfl <| Zo Zv 4 rfl <| SFd Z0v Z1x rfl <| Zo Zv 7 rfl <| SCl [15, 17] (Zds _ _ _ hx13) Zfq rfl <| SFd Z1c Z2i rfl <| Zo Zv 7 rfl <| SFd Z0v Z1x rfl <| Zo Zv 7 rfl <| SCl [20, 22] (Zh1 _ _ _ hx14) Zhi rfl <| SCl [18, 23] (Zbi _ _ _ hx15) Zcy rfl <| Sc (lo [3, 12] [] rfl fun S hs hr => Z1b rfl rfl Zk9 (vh hs 3 rfl rfl) (vh hs 12 rfl rfl) hj16) rfl <| SSt Zv 4 rfl <| Rg <| Ac (Z6k rfl rfl (vt rfl) (vk rfl) rfl hlti8) rfl <| Md rfl <| Nl ?_
  subst hgo1
  exact ⟨(l9, i8 + 1, (Vector.set b7 j16.1 x15 j16.2)), Nat.lt_succ_self _, ⟨hsf1.next, h⟩, FX rfl⟩
def Zqg (e1 : Env) (n2 : Int) : Option Int :=
 (bif (decide (n2 < 1)) then some 0 else (Zb1 e1.Turn n2).bind fun q4 => (bif (decide (q4 < 0)) then some (IntKind.i64.wrap (q4 + n2)) else some q4))
theorem Y32 (e1 : Env) (n2 : Int) (r : Int) (h : Zqg e1 n2 = some r) : PCon Tryz.prog 284 [rd Z2z e1, rd (Z0 .i64) n2] (rd (Z0 .i64) r) := by
 refine PCon.of (Con.intro0 Tryz.func284 rfl Tryz.ntmps284 rfl fun w H => ?_)
 unfold Zqg at h
 refine SR <| Ct rfl (Zn 3 rfl rfl (vt rfl)) ?_
 rintro _ ⟨g3, rfl⟩
 refine Ak rfl <| Nl <| AW.seq <| SR <| Md rfl <| Ac (Zp rfl rfl (vt rfl) (vk rfl)) rfl <| Nl <| Cn rfl (fun hc => ?_) (fun hc => ?_)
 ·have h := Zf hc h
  refine SR <| Ak rfl <| Nl <| AW.ret ?_
  obtain rfl := si h
  exact Zi Tryz.results284 rfl (Z8 rfl)
 ·have h := Zg hc h
  refine AW.skip <| AW.seq ?_
  obtain ⟨q4, hq4, h⟩ := Z1 h
  refine Rg <| Zl Ztj Y2b rfl <| Ld ty3 3 rfl <| Md rfl <| Ac (Zt3 rfl rfl (vt rfl) (vt rfl) hq4) rfl <| As rfl <| Nl <| AW.seq <| SR <| Md rfl <| Ac (Zp rfl rfl (vt rfl) (vk rfl)) rfl <| Nl <| Cn rfl (fun hc => ?_) (fun hc => ?_)
  ·have h := Zf hc h
   refine Rg <| Md rfl <| Md rfl <| Ac (Z08 rfl rfl (vt rfl) (vt rfl)) rfl <| As rfl <| Nl <| SR <| Md rfl <| As rfl <| Nl <| AW.ret ?_
   obtain rfl := si h
   exact Zi Tryz.results284 rfl (Z8 rfl)
  ·have h := Zg hc h
   refine AW.skip <| SR <| Md rfl <| As rfl <| Nl <| AW.ret ?_
   obtain rfl := si h
   exact Zi Tryz.results284 rfl (Z8 rfl)
def Zpi (s1 : (List Int)) (v2 : Int) : Option Bool :=
 (Ze3 s1 v2).bind fun x3 => some (decide (x3 ≥ 0))
theorem Y7f (s1 : (List Int)) (v2 : Int) (r : Bool) (h : Zpi s1 v2 = some r) : PCon Tryz.prog 338 [rd (Z4 (Z0 .i64)) s1, rd (Z0 .i64) v2] (rd Zc r) := by
 refine PCon.of (Con.intro0 Tryz.func338 rfl Tryz.ntmps338 rfl fun w H => ?_)
 unfold Zpi at h
 refine SR <| Ab rfl <| Nl <| AW.seq ?_
 obtain ⟨x3, hx3, h⟩ := Z1 h
 refine Rg <| Md rfl <| Md rfl <| Cl [5, 6] (Zty _ _ _ hx3) Zvr rfl <| Ac (Z4e rfl rfl (vt rfl) (vk rfl)) rfl <| As rfl <| Nl <| AW.ret ?_
 obtain rfl := si h
 exact Zi Tryz.results338 rfl (Z8 rfl)
end Go.Proofs.YtknpgojdkobgjaaGreat.W
set_option maxRecDepth 4000
namespace Go.Proofs.YtknpgojdkobgjaaGreat.W
open Go Go.Wb
theorem Y5i : Ent Tryz.prog 338 := Ent.mk Tryz.func338 rfl rfl
theorem Yfp : Ent Tryz.prog 326 := Ent.mk Tryz.func326 rfl rfl
theorem Yc3 : Ent Tryz.prog 325 := Ent.mk Tryz.func325 rfl rfl
theorem Y4n : Ent Tryz.prog 284 := Ent.mk Tryz.func284 rfl rfl
theorem Yco : Ent Tryz.prog 285 := Ent.mk Tryz.func285 rfl rfl
theorem Y30 : Ent Tryz.prog 238 := Ent.mk Tryz.func238 rfl rfl
theorem Yb3 : Ent Tryz.prog 239 := Ent.mk Tryz.func239 rfl rfl
theorem Y88 : Ent Tryz.prog 286 := Ent.mk Tryz.func286 rfl rfl
theorem Zyn : Ent Tryz.prog 178 := Ent.mk Tryz.func178 rfl rfl
theorem Zsz : Ent Tryz.prog 109 := Ent.mk Tryz.func109 rfl rfl
theorem Y7b : Ent Tryz.prog 110 := Ent.mk Tryz.func110 rfl rfl
def Zrv (e1 : Env) (port2 : Int) : Option Bool :=
 (Zpi e1.Down port2).bind fun x4 => some (!x4)
theorem Y9g (e1 : Env) (port2 : Int) (r : Bool) (h : Zrv e1 port2 = some r) : PCon Tryz.prog 326 [rd Z2z e1, rd (Z0 .i64) port2] (rd Zc r) := by
 refine PCon.of (Con.intro0 Tryz.func326 rfl Tryz.ntmps326 rfl fun w H => ?_)
 unfold Zrv at h
 refine SR <| Ct rfl (Zn 3 rfl rfl (vt rfl)) ?_
 rintro _ ⟨g3, rfl⟩
 refine Ab rfl <| Nl <| AW.seq ?_
 obtain ⟨x4, hx4, h⟩ := Z1 h
 refine Rg <| Zl Zuu Y66 rfl <| Ld Y9i 3 rfl <| Md rfl <| Cl [6, 7] (Y7f _ _ _ hx4) Y5i rfl <| Ac (Z19 rfl rfl (vt rfl)) rfl <| As rfl <| Nl <| AW.ret ?_
 obtain rfl := si h
 exact Zi Tryz.results326 rfl (Z8 rfl)
def Zlh (x1 : Bucket) (cp2 : env_world) : Option Bool :=
 (Zrv cp2.Env x1.Watch).bind fun x4 => some x4
theorem Y20 (x1 : Bucket) (cp2 : env_world) (r : Bool) (h : Zlh x1 cp2 = some r) : PCon Tryz.prog 325 [rd Z1o x1, rp Zaq cp2] (rd Zc r) := by
 refine PCon.of (Con.intro0 Tryz.func325 rfl Tryz.ntmps325 rfl fun w H => ?_)
 unfold Zlh at h
 refine SR <| Ct rfl (Zn 3 rfl rfl (vt rfl)) ?_
 rintro _ ⟨g3, rfl⟩
 refine Ab rfl <| Nl <| AW.seq ?_
 obtain ⟨x4, hx4, h⟩ := Z1 h
 refine Rg <| Fp Zl2 Zya rfl <| Lp1 Zbs rfl <| Zl Zzy Y36 rfl <| Ld ty3 3 rfl <| Cl [5, 7] (Y9g _ _ _ hx4) Yfp rfl <| As rfl <| Nl <| AW.ret ?_
 obtain rfl := si h
 exact Zi Tryz.results325 rfl (Z8 rfl)
def Zpg (w1 : env_world) : Option Int :=
 (Zej w1.Group.Buckets (fun x => Zlh x w1)).bind fun x3 => some x3
theorem Yfr (w1 : env_world) (r : Int) (h : Zpg w1 = some r) : PCon Tryz.prog 285 [rd Zaq w1] (rd (Z0 .i64) r) := by
 refine PCon.of (Con.intro0 Tryz.func285 rfl Tryz.ntmps285 rfl fun w H => ?_)
 unfold Zpg at h
 refine SR <| Ct rfl (Zn 2 rfl rfl (vt rfl)) ?_
 rintro _ ⟨g2, rfl⟩
 refine Ak rfl <| Nl <| AW.seq <| AW.freezeB 1 2 rfl rfl rfl ?_
 obtain ⟨x3, hx3, h⟩ := Z1 h
 refine Rg <| Fp Zck Zhe rfl <| Fp Z9g Za7 rfl <| Lp1 Zaa rfl <| Ac (Z79 (cs := [.tmp 1]) (CAs := [rp Zaq w1]) (fun x => Zlh x w1) rfl rfl Yc3 ⟨vt rfl, trivial⟩ (fun x y h => Y20 _ _ y h)) rfl <| Cl [5, 6] (Zy6 _ _ _ hx3) Y17 rfl <| As rfl <| Nl <| AW.ret ?_
 obtain rfl := si h
 exact Zi Tryz.results285 rfl (Z8 rfl)
def Zbp : Nat → Nat → (List Int) → Option (List Int)
 | 0, i10, l8 => some l8
 | m11 + 1, i10, l8 => (Z0u l8 [(i10 : Int)]).bind fun l12 => (Zbp m11) (i10 + 1) l12
def Zp1 (e1 : Env) (g2 : Group) : Option (List Int) :=
 (bif (decide (((((⟨e1, g2⟩ : env_world).Group).Buckets).length : Int) = 0)) then some [] else (bif (decide ((((⟨e1, g2⟩ : env_world).Group).Kind) = 0)) then Zbp (((((⟨e1, g2⟩ : env_world).Group).Buckets).length : Int) : Int).toNat 0 [] else (bif (decide ((((⟨e1, g2⟩ : env_world).Group).Kind) = 1)) then (Zqg ((⟨e1, g2⟩ : env_world).Env) ((((⟨e1, g2⟩ : env_world).Group).Buckets).length : Int)).bind fun x14 => some [x14] else (bif (decide ((((⟨e1, g2⟩ : env_world).Group).Kind) = 2)) then some [0] else (bif (decide ((((⟨e1, g2⟩ : env_world).Group).Kind) = 3)) then (Zpg (⟨e1, g2⟩ : env_world)).bind fun x15 => (bif (decide (x15 ≥ 0)) then some [x15] else some []) else some [])))))
theorem Yes (e1 : Env) (g2 : Group) (r : (List Int)) (h : Zp1 e1 g2 = some r) : PCon Tryz.prog 238 [rd Z2z e1, rd Z0d g2] (rd (Z4 (Z0 .i64)) r) := by
 refine PCon.of (Con.intro0 Tryz.func238 rfl Tryz.ntmps238 rfl fun w H => ?_)
 unfold Zp1 at h
 refine SR <| Ct rfl (Zn 3 rfl rfl (vt rfl)) ?_
 rintro _ ⟨g3, rfl⟩
 refine Ct rfl (Zn 4 rfl rfl (vt rfl)) ?_
 rintro _ ⟨g4, rfl⟩
 refine Ac (Z02 (A := rd (Z4 (Z0 .i64)) []) rfl rfl Z1u) rfl <| Nl <| SR <| Ld Zbs 3 rfl <| Ld Z57 4 rfl <| Ac (Z00 (ps := [(0, .tmp 9), (1, .tmp 10)]) (x := (⟨e1, g2⟩ : env_world)) rfl rfl rfl (by kernel_rfl) Zvz ⟨_, _, Zl2, _, by kernel_rfl, (vt rfl), _, _, Zck, _, by kernel_rfl, (vt rfl), rfl⟩) rfl <| Ct rfl (Zq 6 rfl rfl Zvz) ?_
 rintro _ ⟨g5, rfl⟩
 refine Zj Zue 6 rfl <| Nl <| AW.seq <| SR <| Zl Zck Zhe rfl <| Zl Z9g Za7 rfl <| Ld Zaa 6 rfl <| Ac (Z0x rfl rfl Z5n (vt rfl)) rfl <| Ac (Z0i rfl rfl (vt rfl) (vk rfl)) rfl <| Nl <| Cn rfl (fun hc => ?_) (fun hc => ?_)
 ·have h := Zf hc h
  refine SR <| Ac (Z02 (A := rd (Z4 (Z0 .i64)) []) rfl rfl Z1u) rfl <| Nl <| AW.ret ?_
  obtain rfl := si h
  exact Zi Tryz.results238 rfl (Z8 rfl)
 ·have h := Zg hc h
  refine AW.skip <| AW.seq <| SR <| Zl Zck Zhe rfl <| Zl Zxb Ydp rfl <| Ld ty3 6 rfl <| Nl <| AW.block <| SR <| Ac (Z0i rfl rfl (vt rfl) (vk rfl)) rfl <| As rfl <| Nl <| Cn rfl (fun hc => ?_) (fun hc => ?_)
  ·have h := Zf hc h
   refine AW.seq <| AW.newnil 1001 3 (Z0 .i64) <| Rg <| Ac (Z02 rfl rfl vc) rfl <| Nl <| AW.seq <| SR <| Zl Zck Zhe rfl <| Zl Z9g Za7 rfl <| Ld Zaa 6 rfl <| Ac (Z0x rfl rfl Z5n (vt rfl)) rfl <| Mk rfl <| Nl <| AW.block <| AW.loopG (d := []) (ν := Nat × Nat × (List Int) × Value) (fun n => Cnt ((((⟨e1, g2⟩ : env_world).Group).Buckets).length : Int) n.2.1 n.1 ∧ Zbp n.1 n.2.1 n.2.2.1 = some r) (fun n => n.1) (fun n => [(6, Ze n.2.2.2), (25, rd (Z0 .i64) ((((⟨e1, g2⟩ : env_world).Group).Buckets).length : Int)), (26, rd (Z0 .i64) (n.2.1 : Int))]) (fun n => [(1001, Zb n.2.2.2 3 (Z0 .i64) n.2.2.1)]) ((((((⟨e1, g2⟩ : env_world).Group).Buckets).length : Int) : Int).toNat, 0, [], (.slice none 0 0)) ⟨Cnt.start _, h⟩ (FX rfl) ?_
   rintro ⟨m11, i10, l8, v9⟩ ⟨hsf1, h⟩
   change Cnt ((((⟨e1, g2⟩ : env_world).Group).Buckets).length : Int) i10 m11 at hsf1
   change Zbp m11 i10 l8 = some r at h
   change AW _ _ _ ⟨Zw [(6, Ze v9), (25, rd (Z0 .i64) ((((⟨e1, g2⟩ : env_world).Group).Buckets).length : Int)), (26, rd (Z0 .i64) (i10 : Int))], Zx [(1001, Zb v9 3 (Z0 .i64) l8)], _⟩
   cases m11 with
   | zero =>
    unfold Zbp at h
    refine SR <| Ac (Zp rfl rfl (vt rfl) (vt rfl)) rfl <| Nl <| AW.seq <| Cn rfl (fun hc => absurd (of_decide_eq_true hc) hsf1.zero) (fun hc => ?_)
    refine AW.exit <| SR <| Mw rfl <| Aw rfl <| Nl <| AW.freezes [4, 6, 34] 1001 rfl ⟨rfl, rfl, rfl, trivial⟩ rfl <| AW.ret ?_
    obtain rfl := si h
    exact Zi Tryz.results238 rfl (Z8 rfl)
   | succ m11 =>
    unfold Zbp at h
    generalize hgo1 : Zbp m11 = go1 at h
    refine SR <| Ac (Zp rfl rfl (vt rfl) (vt rfl)) rfl <| Nl <| AW.seq <| Cn rfl (fun hc => ?_) (fun hc => absurd hsf1.succ (of_decide_eq_false hc))
    have hlti10 := of_decide_eq_true hc
    refine AW.skip <| AW.seq <| AW.block <| SR <| Md rfl <| As rfl <| Nl ?_
    obtain ⟨l12, hl12, h⟩ := Z1 h
    refine Rg <| Mw rfl <| Md rfl <| Ac (Z2g (ps := [(0, .tmp 30)]) (l := [(i10 : Int)]) rfl rfl Z0t zr3 rfl rfl ⟨_, _, Lens.idx 1 (Z0 .i64) 0 (by decide), _, rfl, (vt rfl), rfl⟩ rfl) rfl <| Ct rfl (Z2m 1001 hl12 rfl rfl Zix (vt rfl) rfl (vt rfl)) ?_
    rintro _ ⟨v13, rfl⟩
    refine Aw rfl <| Nl <| Rg <| Ac (Z22 (t := 25) rfl rfl (vt rfl) (vk rfl) (vt rfl) hlti10) rfl <| Md rfl <| Nl ?_
    subst hgo1
    exact ⟨(m11, i10 + 1, l12, v13), Nat.lt_succ_self _, ⟨hsf1.next, h⟩, FX rfl⟩
  ·have h := Zg hc h
   refine SR <| Ac (Z0i rfl rfl (vt rfl) (vk rfl)) rfl <| As rfl <| Nl <| Cn rfl (fun hc => ?_) (fun hc => ?_)
   ·have h := Zf hc h
    refine AW.seq ?_
    obtain ⟨x14, hx14, h⟩ := Z1 h
    refine Rg <| Zl Zl2 Zya rfl <| Ld Zbs 6 rfl <| Zl Zck Zhe rfl <| Zl Z9g Za7 rfl <| Ld Zaa 6 rfl <| Ac (Z0x rfl rfl Z5n (vt rfl)) rfl <| Cl [38, 42] (Y32 _ _ _ hx14) Y4n rfl <| Ac (Z2g (ps := [(0, .tmp 43)]) (l := [x14]) rfl rfl Z0t zr3 rfl rfl ⟨_, _, Lens.idx 1 (Z0 .i64) 0 (by decide), _, rfl, (vt rfl), rfl⟩ rfl) rfl <| As rfl <| Nl <| AW.ret ?_
    obtain rfl := si h
    exact Zi Tryz.results238 rfl (Z8 rfl)
   ·have h := Zg hc h
    refine SR <| Ac (Z0i rfl rfl (vt rfl) (vk rfl)) rfl <| As rfl <| Nl <| Cn rfl (fun hc => ?_) (fun hc => ?_)
    ·have h := Zf hc h
     refine SR <| Ac (Z2g (ps := [(0, .const (Value.int IntKind.i64 0))]) (l := [0]) rfl rfl Z0t zr3 rfl rfl ⟨_, _, Lens.idx 1 (Z0 .i64) 0 (by decide), _, rfl, (vk rfl), rfl⟩ rfl) rfl <| As rfl <| Nl <| AW.ret ?_
     obtain rfl := si h
     exact Zi Tryz.results238 rfl (Z8 rfl)
    ·have h := Zg hc h
     refine SR <| Ac (Z0i rfl rfl (vt rfl) (vk rfl)) rfl <| As rfl <| Nl <| Cn rfl (fun hc => ?_) (fun hc => ?_)
     ·have h := Zf hc h
      refine AW.seq ?_
      obtain ⟨x15, hx15, h⟩ := Z1 h
      refine Rg <| Ld Zue 6 rfl <| Cl [50] (Yfr _ _ hx15) Yco rfl <| As rfl <| Nl <| SR <| Md rfl <| Ac (Z4e rfl rfl (vt rfl) (vk rfl)) rfl <| Nl <| Cn rfl (fun hc => ?_) (fun hc => ?_)
      ·have h := Zf hc h
       refine SR <| Md rfl <| Ac (Z2g (ps := [(0, .tmp 54)]) (l := [x15]) rfl rfl Z0t zr3 rfl rfl ⟨_, _, Lens.idx 1 (Z0 .i64) 0 (by decide), _, rfl, (vt rfl), rfl⟩ rfl) rfl <| As rfl <| Nl <| AW.ret ?_
       obtain rfl := si h
       exact Zi Tryz.results238 rfl (Z8 rfl)
      ·have h := Zg hc h
       refine AW.skip <| SR <| Ac (Z02 (A := rd (Z4 (Z0 .i64)) []) rfl rfl Z1u) rfl <| Nl <| AW.ret ?_
       obtain rfl := si h
       exact Zi Tryz.results238 rfl (Z8 rfl)
     ·have h := Zg hc h
      refine AW.skip <| SR <| Ac (Z02 (A := rd (Z4 (Z0 .i64)) []) rfl rfl Z1u) rfl <| Nl <| AW.ret ?_
      obtain rfl := si h
      exact Zi Tryz.results238 rfl (Z8 rfl)
def Zo5 (a1 : Action) : Option Int :=
 (bif (decide (a1.Port = 4294967293)) then some a1.Max else some 0)
theorem Ygn (a1 : Action) (r : Int) (h : Zo5 a1 = some r) : PCon Tryz.prog 286 [rd Z6 a1] (rd (Z0 .i64) r) := by
 refine PCon.of (Con.intro0 Tryz.func286 rfl Tryz.ntmps286 rfl fun w H => ?_)
 unfold Zo5 at h
 refine SR <| Ct rfl (Zn 2 rfl rfl (vt rfl)) ?_
 rintro _ ⟨g2, rfl⟩
 refine Ak rfl <| Nl <| AW.seq <| SR <| Zl Zf2 Zh2 rfl <| Ld ty3 2 rfl <| Ac (Z0i rfl rfl (vt rfl) (vk rfl)) rfl <| Nl <| Cn rfl (fun hc => ?_) (fun hc => ?_)
 ·have h := Zf hc h
  refine SR <| Zl Zma Zo1 rfl <| Ld ty3 2 rfl <| As rfl <| Nl <| AW.ret ?_
  obtain rfl := si h
  exact Zi Tryz.results286 rfl (Z8 rfl)
 ·have h := Zg hc h
  refine AW.skip <| SR <| Ak rfl <| Nl <| AW.ret ?_
  obtain rfl := si h
  exact Zi Tryz.results286 rfl (Z8 rfl)
def Zbx (x5 : (Group × Bool)) (R_exec_run_do : (Z0p → (List Action) → Option Z0p)) (r1 : Z0p) : (List Int) → Nat → (List Out) → Env → (List Group) → Z0l → Int → Option Z0p
 | [], i21, l15, b17, b18, b19, b20 => some (⟨b17, b18, l15, b19, (IntKind.i64.wrap (b20 - 1))⟩ : Z0p)
 | x23 :: l22, i21, l15, b17, b18, b19, b20 => (lget x5.1.Buckets x23).bind fun e24 => (Zg0 [] e24.Acts).bind fun x25 => (Zcz x25).bind fun x26 => (R_exec_run_do (⟨b17, b18, l15, b19, b20⟩ : Z0p) x26).bind fun b27 => (Zbx x5 R_exec_run_do r1 l22) (i21 + 1) b27.out b27.Env b27.groups r1.header b27.depth
def Zqx (R_exec_run_do : (Z0p → (List Action) → Option Z0p)) (R_exec_run_group : (Z0p → Int → Option Z0p)) (r1 : Z0p) (id4 : Int) : Option Z0p :=
 (Zfv r1.groups id4).bind fun x5 => (bif ((!x5.2) || (decide (r1.depth ≥ 8))) then some (⟨r1.Env, r1.groups, r1.out, r1.header, r1.depth⟩ : Z0p) else (Zp1 r1.Env x5.1).bind fun x8 => Zbx x5 R_exec_run_do r1 x8 0 r1.out r1.Env r1.groups r1.header (IntKind.i64.wrap (r1.depth + 1)))
theorem Y55 (R_exec_run_do : (Z0p → (List Action) → Option Z0p)) (hR_exec_run_do : ∀ (g2 gT : Nat) (r1 : Z0p) (acts4 : (List Action)) (r : Z0p), R_exec_run_do r1 acts4 = some r → Con Tryz.prog 239 [Z7 g2 (Lens.id Z17), rd (Z4 Z6) acts4] (Z1k g2 gT Z17 (fun v => (⟨r1.Env, r1.groups, v, r1.header, r1.depth⟩ : exec_run_o2)) 71 Z14 r1.out) (fun _ : Unit => top) (fun _ => Z1k g2 gT Z17 (fun v => (⟨r.Env, r.groups, v, r.header, r.depth⟩ : exec_run_o2)) 71 Z14 r.out)) (R_exec_run_group : (Z0p → Int → Option Z0p)) (hR_exec_run_group : ∀ (g2 gT : Nat) (r1 : Z0p) (id4 : Int) (r : Z0p), R_exec_run_group r1 id4 = some r → Con Tryz.prog 178 [Z7 g2 (Lens.id Z17), rd (Z0 .i64) id4] (Z1k g2 gT Z17 (fun v => (⟨r1.Env, r1.groups, v, r1.header, r1.depth⟩ : exec_run_o2)) 71 Z14 r1.out) (fun _ : Unit => top) (fun _ => Z1k g2 gT Z17 (fun v => (⟨r.Env, r.groups, v, r.header, r.depth⟩ : exec_run_o2)) 71 Z14 r.out)) (g2 gT : Nat) (r1 : Z0p) (id4 : Int) (r : Z0p) (h : Zqx R_exec_run_do R_exec_run_group r1 id4 = some r) : Con Tryz.prog 178 [Z7 g2 (Lens.id Z17), rd (Z0 .i64) id4] (Z1k g2 gT Z17 (fun v => (⟨r1.Env, r1.groups, v, r1.header, r1.depth⟩ : exec_run_o2)) 71 Z14 r1.out) (fun _ : Unit => top) (fun _ => Z1k g2 gT Z17 (fun v => (⟨r.Env, r.groups, v, r.header, r.depth⟩ : exec_run_o2)) 71 Z14 r.out) := by
 refine Con.intro Tryz.func178 rfl Tryz.ntmps178 rfl fun w H X => ?_
 unfold Zqx at h
 refine AW.unboxF 0 2002 (by decide) rfl rfl fun v3 => AW.seq ?_
 obtain ⟨x5, hx5, h⟩ := Z1 h
 refine Rg <| Mp rfl <| Nc rfl <| Zl Zps Y91 rfl <| Ld Zk5 0 rfl <| Md rfl <| Cl [13, 14] (Zvx _ _ _ hx5) Zw4 rfl <| Mt2 rfl <| Ac (Z1s rfl rfl (vt rfl)) rfl <| Ac (Z1t rfl rfl (vt rfl)) rfl <| Ct rfl (Zq 5 rfl rfl Zcf) ?_
 rintro _ ⟨g6, rfl⟩
 refine Zj Z57 5 rfl <| As rfl <| Nl <| AW.seq <| SR <| Md rfl <| Ac (Z19 rfl rfl (vt rfl)) rfl <| Md rfl <| Gd rfl (fun hq => Zt (A := Z7 g2 (Lens.id Z17)) rfl rfl (vt rfl)) <| Gd rfl (fun hq => Zok rfl rfl (Zs rfl hq)) <| Gd rfl (fun hq => Z40 Ze9 rfl rfl Zk2 (Zs rfl hq)) <| Gd rfl (fun hq => Z37 rfl rfl ty3 (Zs rfl hq) (i := 0) rfl) <| Gd rfl (fun hq => Z4e rfl rfl (Zs rfl hq) (vk rfl)) <| Ac (Z68 rfl rfl (vt rfl) (vt rfl)) rfl <| Nl <| Cn rfl (fun hc => ?_) (fun hc => ?_)
 ·have h := Zf hc h
  refine AW.ret ?_
  obtain rfl := si h
  exact RetOK.turn (Turn.packF 0 2002 (fun v => (⟨r1.Env, r1.groups, v, r1.header, r1.depth⟩ : exec_run_o2)) (by decide) rfl rfl) (Z27 (i := 0) Tryz.results178 rfl rfl)
 ·have h := Zg hc h
  refine AW.skip <| SR <| Mp rfl <| Nc rfl <| Zl Zbk Zjd rfl <| Ld Z0w 0 rfl <| Ct rfl (Zq 7 rfl rfl Z3m) ?_
  rintro _ ⟨g7, rfl⟩
  refine Zj Z0w 7 rfl <| Nl <| SR <| Mp rfl <| Nc rfl <| Zl Ze9 Zk2 rfl <| Ld ty3 0 rfl <| Ac (Z08 rfl rfl (vt rfl) (vk rfl)) rfl <| Nc rfl <| Zl Ze9 Zk2 rfl <| Zj ty3 0 rfl <| Nl <| AW.seq <| AW.seq ?_
  obtain ⟨x8, hx8, h⟩ := Z1 h
  refine AW.regionAny [⟨[0], [38], [], []⟩, ⟨[38], [39], [], []⟩, ⟨[39], [40], [], []⟩, ⟨[40], [41], [0], []⟩, ⟨[4], [42], [5], []⟩, ⟨[41, 42], [43], [], []⟩, ⟨[43], [44], [], []⟩, ⟨[], [45], [], []⟩] Z05 (by kernel_rfl) <| SMp rfl <| SNc rfl <| SFd Zqr Yf1 rfl <| Zo Zbs 0 rfl <| Zo Z57 5 rfl <| SCl [41, 42] (Yes _ _ _ hx8) Y30 rfl <| Sc (lo [43] [] rfl fun S hs hr => Z0x rfl rfl Z0t (vh hs 43 rfl rfl)) rfl <| Sc (lo [] [] rfl fun S hs hr => Zt (A := rd (Z0 .i64) 0) rfl rfl (vk rfl)) rfl <| AW.block <| AW.loopG (d := []) (ν := (List Int) × Nat × (List Out) × Env × (List Group) × Z0l × Int × Value) (fun n => Sfx x8 n.2.1 n.1 ∧ Zbx x5 R_exec_run_do r1 n.1 n.2.1 n.2.2.1 n.2.2.2.1 n.2.2.2.2.1 n.2.2.2.2.2.1 n.2.2.2.2.2.2.1 = some r) (fun n => n.1.length) (fun n => [(0, Z7 g2 (Lens.id Z17)), (4, Z7 g6 (Lens.id Z0d)), (6, Z7 g7 (Lens.id (Z2 24 Zh))), (43, rd (Z4 (Z0 .i64)) x8), (44, rd (Z0 .i64) (x8.length : Int)), (45, rd (Z0 .i64) (n.2.1 : Int))]) (fun n => [(0, Z9 g2 gT Z17 (⟨n.2.2.2.1, n.2.2.2.2.1, n.2.2.2.2.2.2.2, n.2.2.2.2.2.1, n.2.2.2.2.2.2.1⟩ : exec_run_o2)), (5, Z9 g6 164 Z0d x5.1), (7, Z9 g7 44 (Z2 24 Zh) r1.header), (2002, Zb n.2.2.2.2.2.2.2 71 Z14 n.2.2.1)]) (x8, 0, r1.out, r1.Env, r1.groups, r1.header, (IntKind.i64.wrap (r1.depth + 1)), v3) ⟨Sfx.start _, h⟩ (FX rfl) ?_
  rintro ⟨l22, i21, l15, b17, b18, b19, b20, v16⟩ ⟨hsf1, h⟩
  change Sfx x8 i21 l22 at hsf1
  change Zbx x5 R_exec_run_do r1 l22 i21 l15 b17 b18 b19 b20 = some r at h
  change AW _ _ _ ⟨Zw [(0, Z7 g2 (Lens.id Z17)), (4, Z7 g6 (Lens.id Z0d)), (6, Z7 g7 (Lens.id (Z2 24 Zh))), (43, rd (Z4 (Z0 .i64)) x8), (44, rd (Z0 .i64) (x8.length : Int)), (45, rd (Z0 .i64) (i21 : Int))], Zx [(0, Z9 g2 gT Z17 (⟨b17, b18, v16, b19, b20⟩ : exec_run_o2)), (5, Z9 g6 164 Z0d x5.1), (7, Z9 g7 44 (Z2 24 Zh) r1.header), (2002, Zb v16 71 Z14 l15)], _⟩
  cases l22 with
  | nil =>
   unfold Zbx at h
   refine SR <| Ac (Zp rfl rfl (vt rfl) (vt rfl)) rfl <| Nl <| AW.seq <| Cn rfl (fun hc => absurd (of_decide_eq_true hc) hsf1.nil) (fun hc => ?_)
   refine AW.exit <| Rg <| Mp rfl <| Nc rfl <| Zl Ze9 Zk2 rfl <| Ld ty3 0 rfl <| Ac (Z0j rfl rfl (vt rfl) (vk rfl)) rfl <| Nc rfl <| Zl Ze9 Zk2 rfl <| Zj ty3 0 rfl <| Nl ?_
   obtain rfl := si h
   exact RetOK.turn (Turn.packF 0 2002 (fun v => (⟨b17, b18, v, b19, (IntKind.i64.wrap (b20 - 1))⟩ : exec_run_o2)) (by decide) rfl rfl) (Z27 (i := 0) Tryz.results178 rfl rfl)
  | cons x23 l22 =>
   unfold Zbx at h
   generalize hgo1 : Zbx x5 R_exec_run_do r1 l22 = go1 at h
   refine SR <| Ac (Zp rfl rfl (vt rfl) (vt rfl)) rfl <| Nl <| AW.seq <| Cn rfl (fun hc => ?_) (fun hc => absurd hsf1.cons (of_decide_eq_false hc))
   have hlti21 := of_decide_eq_true hc
   refine AW.skip <| AW.seq <| AW.block <| SR <| Ac (Z0r rfl rfl Z0t (vt rfl) (vt rfl) hsf1.lget) rfl <| Lp1 ty3 rfl <| As rfl <| Nl <| AW.seq ?_
   obtain ⟨e24, he24, h⟩ := Z1 h
   obtain ⟨x25, hx25, h⟩ := Z1 h
   obtain ⟨x26, hx26, h⟩ := Z1 h
   obtain ⟨b27, hb27, h⟩ := Z1 h
   refine Rg <| Mp rfl <| Zl Z9g Za7 rfl <| Ld Zaa 5 rfl <| Md rfl <| Ac (Z0r rfl rfl Z5n (vt rfl) (vt rfl) he24) rfl <| Fp Zi0 Zn1 rfl <| Lp1 Z4j rfl <| Ac (Z11 (xs := [.const (Value.slice none 0 0), .tmp 55]) (Ztv _ _ _ hx25) Y1k rfl rfl ⟨Z1u, vt rfl, trivial⟩) rfl <| Cl [56] (Zsg _ _ hx26) Zzx rfl <| AOps.packF 0 2002 (fun v => (⟨b17, b18, v, b19, b20⟩ : exec_run_o2)) (by decide) rfl rfl <| Ct rfl (Z1f 0 (xs := [.tmp 49, .tmp 57]) (hR_exec_run_do _ _ _ _ _ hb27) Yb3 rfl rfl ⟨vt rfl, vt rfl, trivial⟩ rfl) ?_
   rintro _ ⟨_u, rfl⟩
   refine AOps.unboxF 0 2002 (by decide) rfl rfl fun v28 => Nl <| Rg <| Mp rfl <| Ld Z0w 7 rfl <| Nc rfl <| Zl Zbk Zjd rfl <| Zj Z0w 0 rfl <| Nl <| Rg <| Ac (Z22 (t := 44) rfl rfl (vt rfl) (vk rfl) (vt rfl) hlti21) rfl <| Md rfl <| Nl ?_
   subst hgo1
   exact ⟨(l22, i21 + 1, b27.out, b27.Env, b27.groups, r1.header, b27.depth, v28), Nat.lt_succ_self _, ⟨hsf1.next, h⟩, FX rfl⟩
def Z9l (R_exec_run_group : (Z0p → Int → Option Z0p)) : (List Action) → Nat → (List Out) → Env → (List Group) → Z0l → Int → Option Z0p
 | [], i17, l11, b13, b14, b15, b16 => some (⟨b13, b14, l11, b15, b16⟩ : Z0p)
 | x19 :: l18, i17, l11, b13, b14, b15, b16 => (bif (decide (x19.Kind = 0)) then (Zo5 x19).bind fun x21 => (Z0u l11 [(⟨x19.Port, x21, b15⟩ : Out)]).bind fun l22 => (Z9l R_exec_run_group l18) (i17 + 1) l22 b13 b14 b15 b16 else (bif (decide (x19.Kind = 22)) then (R_exec_run_group (⟨b13, b14, l11, b15, b16⟩ : Z0p) x19.Group).bind fun b24 => (Z9l R_exec_run_group l18) (i17 + 1) b24.out b24.Env b24.groups b24.header b24.depth else (Zek x19).bind fun x26 => (Zmf x26 b15).bind fun x27 => (Z9l R_exec_run_group l18) (i17 + 1) l11 b13 b14 x27 b16))
def Zp6 (R_exec_run_do : (Z0p → (List Action) → Option Z0p)) (R_exec_run_group : (Z0p → Int → Option Z0p)) (r1 : Z0p) (acts4 : (List Action)) : Option Z0p :=
 Z9l R_exec_run_group acts4 0 r1.out r1.Env r1.groups r1.header r1.depth
theorem Y8d (R_exec_run_do : (Z0p → (List Action) → Option Z0p)) (hR_exec_run_do : ∀ (g2 gT : Nat) (r1 : Z0p) (acts4 : (List Action)) (r : Z0p), R_exec_run_do r1 acts4 = some r → Con Tryz.prog 239 [Z7 g2 (Lens.id Z17), rd (Z4 Z6) acts4] (Z1k g2 gT Z17 (fun v => (⟨r1.Env, r1.groups, v, r1.header, r1.depth⟩ : exec_run_o2)) 71 Z14 r1.out) (fun _ : Unit => top) (fun _ => Z1k g2 gT Z17 (fun v => (⟨r.Env, r.groups, v, r.header, r.depth⟩ : exec_run_o2)) 71 Z14 r.out)) (R_exec_run_group : (Z0p → Int → Option Z0p)) (hR_exec_run_group : ∀ (g2 gT : Nat) (r1 : Z0p) (id4 : Int) (r : Z0p), R_exec_run_group r1 id4 = some r → Con Tryz.prog 178 [Z7 g2 (Lens.id Z17), rd (Z0 .i64) id4] (Z1k g2 gT Z17 (fun v => (⟨r1.Env, r1.groups, v, r1.header, r1.depth⟩ : exec_run_o2)) 71 Z14 r1.out) (fun _ : Unit => top) (fun _ => Z1k g2 gT Z17 (fun v => (⟨r.Env, r.groups, v, r.header, r.depth⟩ : exec_run_o2)) 71 Z14 r.out)) (g2 gT : Nat) (r1 : Z0p) (acts4 : (List Action)) (r : Z0p) (h : Zp6 R_exec_run_do R_exec_run_group r1 acts4 = some r) : Con Tryz.prog 239 [Z7 g2 (Lens.id Z17), rd (Z4 Z6) acts4] (Z1k g2 gT Z17 (fun v => (⟨r1.Env, r1.groups, v, r1.header, r1.depth⟩ : exec_run_o2)) 71 Z14 r1.out) (fun _ : Unit => top) (fun _ => Z1k g2 gT Z17 (fun v => (⟨r.Env, r.groups, v, r.header, r.depth⟩ : exec_run_o2)) 71 Z14 r.out) := by
 refine Con.intro Tryz.func239 rfl Tryz.ntmps239 rfl fun w H X => ?_
 unfold Zp6 at h
 refine AW.unboxF 0 2002 (by decide) rfl rfl fun v3 => SR <| Md rfl <| Ac (Z0x rfl rfl Z0e (vt rfl)) rfl <| Mk rfl <| Nl <| AW.block <| AW.loopG (d := []) (ν := (List Action) × Nat × (List Out) × Env × (List Group) × Z0l × Int × Value) (fun n => Sfx acts4 n.2.1 n.1 ∧ Z9l R_exec_run_group n.1 n.2.1 n.2.2.1 n.2.2.2.1 n.2.2.2.2.1 n.2.2.2.2.2.1 n.2.2.2.2.2.2.1 = some r) (fun n => n.1.length) (fun n => [(0, Z7 g2 (Lens.id Z17)), (6, rd (Z4 Z6) acts4), (7, rd (Z0 .i64) (acts4.length : Int)), (8, rd (Z0 .i64) (n.2.1 : Int))]) (fun n => [(0, Z9 g2 gT Z17 (⟨n.2.2.2.1, n.2.2.2.2.1, n.2.2.2.2.2.2.2, n.2.2.2.2.2.1, n.2.2.2.2.2.2.1⟩ : exec_run_o2)), (2002, Zb n.2.2.2.2.2.2.2 71 Z14 n.2.2.1)]) (acts4, 0, r1.out, r1.Env, r1.groups, r1.header, r1.depth, v3) ⟨Sfx.start _, h⟩ (FX rfl) ?_
 rintro ⟨l18, i17, l11, b13, b14, b15, b16, v12⟩ ⟨hsf1, h⟩
 change Sfx acts4 i17 l18 at hsf1
 change Z9l R_exec_run_group l18 i17 l11 b13 b14 b15 b16 = some r at h
 change AW _ _ _ ⟨Zw [(0, Z7 g2 (Lens.id Z17)), (6, rd (Z4 Z6) acts4), (7, rd (Z0 .i64) (acts4.length : Int)), (8, rd (Z0 .i64) (i17 : Int))], Zx [(0, Z9 g2 gT Z17 (⟨b13, b14, v12, b15, b16⟩ : exec_run_o2)), (2002, Zb v12 71 Z14 l11)], _⟩
 cases l18 with
 | nil =>
  unfold Z9l at h
  refine SR <| Ac (Zp rfl rfl (vt rfl) (vt rfl)) rfl <| Nl <| AW.seq <| Cn rfl (fun hc => absurd (of_decide_eq_true hc) hsf1.nil) (fun hc => ?_)
  refine AW.exit ?_
  obtain rfl := si h
  exact RetOK.turn (Turn.packF 0 2002 (fun v => (⟨b13, b14, v, b15, b16⟩ : exec_run_o2)) (by decide) rfl rfl) (Z27 (i := 0) Tryz.results239 rfl rfl)
 | cons x19 l18 =>
  unfold Z9l at h
  generalize hgo1 : Z9l R_exec_run_group l18 = go1 at h
  refine SR <| Ac (Zp rfl rfl (vt rfl) (vt rfl)) rfl <| Nl <| AW.seq <| Cn rfl (fun hc => ?_) (fun hc => absurd hsf1.cons (of_decide_eq_false hc))
  have hlti17 := of_decide_eq_true hc
  refine AW.skip <| AW.seq <| AW.block <| SR <| Ac (Z0r rfl rfl Z0e (vt rfl) (vt rfl) hsf1.lget) rfl <| Lp1 Z0n rfl <| Ct rfl (Zq 6 rfl rfl Z51) ?_
  rintro _ ⟨g20, rfl⟩
  refine Zj Z0n 6 rfl <| Nl <| SR <| Zl Z4d Z4s rfl <| Ld ty3 6 rfl <| Nl <| AW.block <| SR <| Ac (Z0i rfl rfl (vt rfl) (vk rfl)) rfl <| As rfl <| Nl <| Cn rfl (fun hc => ?_) (fun hc => ?_)
  ·have h := Zf hc h
   obtain ⟨x21, hx21, h⟩ := Z1 h
   obtain ⟨l22, hl22, h⟩ := Z1 h
   refine AW.regionAny [⟨[0], [26], [], []⟩, ⟨[0], [27], [], []⟩, ⟨[27], [28], [], []⟩, ⟨[28], [29], [], []⟩, ⟨[29], [30], [0], []⟩, ⟨[5], [31], [], []⟩, ⟨[31], [32], [6], []⟩, ⟨[5], [33], [6], []⟩, ⟨[33], [34], [], []⟩, ⟨[0], [35], [], []⟩, ⟨[35], [36], [], []⟩, ⟨[36], [37], [], []⟩, ⟨[37], [38], [0], []⟩, ⟨[32, 34, 38], [39], [], []⟩, ⟨[39], [40], [], []⟩, ⟨[30, 40], [41], [2002], [2002]⟩, ⟨[26], [42], [], []⟩, ⟨[42], [43], [], []⟩, ⟨[43, 41], [41], [0], [0]⟩] Z05 (by kernel_rfl) <| SMp rfl <| SMp rfl <| SNc rfl <| SFd Zhd Zs2 rfl <| Sc (lo [29] [0] rfl fun S hs hr => Zd2 v12 rfl rfl Zaf (vh hs 29 rfl rfl) (i := 0) ((hr 0 rfl).trans rfl) rfl) rfl <| SFd Zf2 Zh2 rfl <| Zo ty3 6 rfl <| Zo Z0n 6 rfl <| SCl [33] (Ygn _ _ hx21) Y88 rfl <| SMp rfl <| SNc rfl <| SFd Zbk Zjd rfl <| Zo Z0w 0 rfl <| Sc (lo [32, 34, 38] [] rfl fun S hs hr => Z00 (ps := [(0, .tmp 32), (1, .tmp 34), (2, .tmp 38)]) (x := (⟨x19.Port, x21, b15⟩ : Out)) rfl rfl rfl (by kernel_rfl) Zmt ⟨_, _, Zv1, _, by kernel_rfl, (vh hs 32 rfl rfl), _, _, Y14, _, by kernel_rfl, (vh hs 34 rfl rfl), _, _, Zxe, _, by kernel_rfl, (vh hs 38 rfl rfl), rfl⟩) rfl <| Sc (lo [39] [] rfl fun S hs hr => Z2g (ps := [(0, .tmp 39)]) (l := [(⟨x19.Port, x21, b15⟩ : Out)]) rfl rfl Znp Zmt rfl rfl ⟨_, _, Lens.idx 1 Z14 0 (by decide), _, rfl, (vh hs 39 rfl rfl), rfl⟩ rfl) rfl <| Sc (Z16 (us := [(41, Z1p 71 Z14 l22)]) (ur := [(2002, emp)]) [30, 40] [2002] rfl fun S hs hr => Z7a 2002 hl22 rfl rfl rfl Zrd (vh hs 30 rfl rfl) ((hr 2002 rfl).trans rfl) (vh hs 40 rfl rfl)) rfl <| SNc rfl <| SFd Zhd Zs2 rfl <| Sc (Z16 (us := [(41, top)]) (ur := [(0, Z1k g2 gT Z17 (fun v => ((Lens.comp (Lens.id Z17) Zhd)).set (⟨b13, b14, v12, b15, b16⟩ : exec_run_o2) v) 71 Z14 l22)]) [43, 41] [0] rfl fun S hs hr => Zs4 rfl rfl Zaf (vh hs 43 rfl rfl) ((hr 0 rfl).trans rfl) ((hs 41 rfl).trans rfl)) rfl <| AW.unboxF 0 2002 (by decide) rfl rfl fun v23 => Rg <| Ac (Z22 (t := 7) rfl rfl (vt rfl) (vk rfl) (vt rfl) hlti17) rfl <| Md rfl <| Nl ?_
   subst hgo1
   exact ⟨(l18, i17 + 1, l22, b13, b14, b15, b16, v23), Nat.lt_succ_self _, ⟨hsf1.next, h⟩, FX rfl⟩
  ·have h := Zg hc h
   refine SR <| Ac (Z0i rfl rfl (vt rfl) (vk rfl)) rfl <| As rfl <| Nl <| Cn rfl (fun hc => ?_) (fun hc => ?_)
   ·have h := Zf hc h
    obtain ⟨b24, hb24, h⟩ := Z1 h
    refine Rg <| Mp rfl <| Zl Zm3 Zp0 rfl <| Ld ty3 6 rfl <| AOps.packF 0 2002 (fun v => (⟨b13, b14, v, b15, b16⟩ : exec_run_o2)) (by decide) rfl rfl <| Ct rfl (Z1f 0 (xs := [.tmp 46, .tmp 48]) (hR_exec_run_group _ _ _ _ _ hb24) Zyn rfl rfl ⟨vt rfl, vt rfl, trivial⟩ rfl) ?_
    rintro _ ⟨_u, rfl⟩
    refine AOps.unboxF 0 2002 (by decide) rfl rfl fun v25 => Nl <| Rg <| Ac (Z22 (t := 7) rfl rfl (vt rfl) (vk rfl) (vt rfl) hlti17) rfl <| Md rfl <| Nl ?_
    subst hgo1
    exact ⟨(l18, i17 + 1, b24.out, b24.Env, b24.groups, b24.header, b24.depth, v25), Nat.lt_succ_self _, ⟨hsf1.next, h⟩, FX rfl⟩
   ·have h := Zg hc h
    obtain ⟨x26, hx26, h⟩ := Z1 h
    obtain ⟨x27, hx27, h⟩ := Z1 h
    refine AW.regionAny [⟨[0], [14], [], []⟩, ⟨[5], [15], [6], []⟩, ⟨[15], [16], [], []⟩, ⟨[0], [17], [], []⟩, ⟨[17], [18], [], []⟩, ⟨[18], [19], [], []⟩, ⟨[19], [20], [0], []⟩, ⟨[16, 20], [21], [], []⟩, ⟨[14], [22], [], []⟩, ⟨[22], [23], [], []⟩, ⟨[23, 21], [], [0], [0]⟩] Z05 (by kernel_rfl) <| SMp rfl <| Zo Z0n 6 rfl <| SCl [15] (Zxv _ _ hx26) Zsu rfl <| SMp rfl <| SNc rfl <| SFd Zbk Zjd rfl <| Zo Z0w 0 rfl <| SCl [16, 20] (Zxr _ _ _ hx27) Zsz rfl <| SNc rfl <| SFd Zbk Zjd rfl <| SSt Z0w 0 rfl <| Rg <| Ac (Z22 (t := 7) rfl rfl (vt rfl) (vk rfl) (vt rfl) hlti17) rfl <| Md rfl <| Nl ?_
    subst hgo1
    exact ⟨(l18, i17 + 1, l11, b13, b14, x27, b16, v12), Nat.lt_succ_self _, ⟨hsf1.next, h⟩, FX rfl⟩
def Z63 : Nat → (Z0p → (List Action) → Option Z0p) × (Z0p → Int → Option Z0p)
 | 0 => ((fun _ _ => none), (fun _ _ => none))
 | n + 1 => ((Zp6 (Z63 n).1 (Z63 n).2), (Zqx (Z63 n).1 (Z63 n).2))
theorem Y1i : ∀ n : Nat, (∀ (g2 gT : Nat) (r1 : Z0p) (acts4 : (List Action)) (r : Z0p), (Z63 n).1 r1 acts4 = some r → Con Tryz.prog 239 [Z7 g2 (Lens.id Z17), rd (Z4 Z6) acts4] (Z1k g2 gT Z17 (fun v => (⟨r1.Env, r1.groups, v, r1.header, r1.depth⟩ : exec_run_o2)) 71 Z14 r1.out) (fun _ : Unit => top) (fun _ => Z1k g2 gT Z17 (fun v => (⟨r.Env, r.groups, v, r.header, r.depth⟩ : exec_run_o2)) 71 Z14 r.out)) ∧ (∀ (g2 gT : Nat) (r1 : Z0p) (id4 : Int) (r : Z0p), (Z63 n).2 r1 id4 = some r → Con Tryz.prog 178 [Z7 g2 (Lens.id Z17), rd (Z0 .i64) id4] (Z1k g2 gT Z17 (fun v => (⟨r1.Env, r1.groups, v, r1.header, r1.depth⟩ : exec_run_o2)) 71 Z14 r1.out) (fun _ : Unit => top) (fun _ => Z1k g2 gT Z17 (fun v => (⟨r.Env, r.groups, v, r.header, r.depth⟩ : exec_run_o2)) 71 Z14 r.out))
 | 0 => ⟨(by intros; rename_i h; cases h), (by intros; rename_i h; cases h)⟩
 | n + 1 => by
  have ih := Y1i n
  exact ⟨(Y8d (Z63 n).1 ih.1 (Z63 n).2 ih.2), (Y55 (Z63 n).1 ih.1 (Z63 n).2 ih.2)⟩
def Zx2 (r1 : Z0p) (id4 : Int) : Option Z0p := (Z63 Z0y).2 r1 id4
theorem Yd4 : ∀ (g2 gT : Nat) (r1 : Z0p) (id4 : Int) (r : Z0p), Zx2 r1 id4 = some r → Con Tryz.prog 178 [Z7 g2 (Lens.id Z17), rd (Z0 .i64) id4] (Z1k g2 gT Z17 (fun v => (⟨r1.Env, r1.groups, v, r1.header, r1.depth⟩ : exec_run_o2)) 71 Z14 r1.out) (fun _ : Unit => top) (fun _ => Z1k g2 gT Z17 (fun v => (⟨r.Env, r.groups, v, r.header, r.depth⟩ : exec_run_o2)) 71 Z14 r.out) := (Y1i Z0y).2
def Zop (l1 : (List Group)) (e2 : Env) (id3 : Int) (h4 : Z0l) : Option (List Out) :=
 (Zx2 (⟨e2, l1, [], h4, 0⟩ : Z0p) id3).bind fun b8 => some b8.out
theorem Yeq (l1 : (List Group)) (e2 : Env) (id3 : Int) (h4 : Z0l) (r : (List Out)) (h : Zop l1 e2 id3 h4 = some r) : PCon Tryz.prog 110 [rd (Z4 Z0d) l1, rd Z2z e2, rd (Z0 .i64) id3, rd (Z2 24 Zh) h4] (rd (Z4 Z14) r) := by
 refine PCon.of (Con.intro0 Tryz.func110 rfl Tryz.ntmps110 rfl fun w H => ?_)
 unfold Zop at h
 refine SR <| Ct rfl (Zn 6 rfl rfl (vt rfl)) ?_
 rintro _ ⟨g5, rfl⟩
 refine Ct rfl (Zn 8 rfl rfl (vt rfl)) ?_
 rintro _ ⟨g6, rfl⟩
 refine Ac (Z02 (A := rd (Z4 Z14) []) rfl rfl Z1u) rfl <| Nl <| AW.seq <| AW.newnil 2302 71 Z14 <| Rg <| Ld Zbs 6 rfl <| Md rfl <| Ld Z0w 8 rfl <| Ac (Z00 (ps := [(0, .tmp 10), (1, .tmp 11), (3, .tmp 12)]) (x := (⟨e2, l1, (.slice none 0 0), h4, 0⟩ : exec_run_o2)) rfl rfl rfl (by kernel_rfl) Y7x ⟨_, _, Zqr, _, by kernel_rfl, (vt rfl), _, _, Zps, _, by kernel_rfl, (vt rfl), _, _, Zbk, _, by kernel_rfl, (vt rfl), rfl⟩) rfl <| Ct rfl (Zn 15 rfl rfl (vt rfl)) ?_
 rintro _ ⟨g7, rfl⟩
 refine Ac (Z02 (A := Z7 g7 (Lens.id Z17)) rfl rfl (vt rfl)) rfl <| Nl <| AW.seq ?_
 obtain ⟨b8, hb8, h⟩ := Z1 h
 refine Rg <| Mp rfl <| Md rfl <| AOps.packF 15 2302 (fun v => (⟨e2, l1, v, h4, 0⟩ : exec_run_o2)) (by decide) rfl rfl <| Ct rfl (Z1f 15 (xs := [.tmp 15, .tmp 16]) (Yd4 _ _ _ _ _ hb8) Zyn rfl rfl ⟨vt rfl, vt rfl, trivial⟩ rfl) ?_
 rintro _ ⟨_u, rfl⟩
 refine AOps.unboxF 15 2302 (by decide) rfl rfl fun v9 => Nl <| SR <| Mp rfl <| Nc rfl <| Zl Zhd Zs2 rfl <| Ac (Zd2 v9 rfl rfl Zaf (vt rfl) (i := 15) rfl rfl) rfl <| Aw rfl <| Nl <| AW.freezes [8, 21] 2302 rfl ⟨rfl, rfl, trivial⟩ rfl <| AW.ret ?_
 obtain rfl := si h
 exact Zi Tryz.results110 rfl (Z8 rfl)
def Znh (x1 : Atom) (cp2 : Z0l) (cu3 : (List Out)) (cp6 : (List Group)) (cp7 : Env) : Option (List Out) :=
 (Zmf x1.Rewrite cp2).bind fun x9 => (bif x1.Group then (Zop cp6 cp7 x1.Port x9).bind fun x11 => (Z0u cu3 x11).bind fun l12 => some l12 else (Z0u cu3 [(⟨x1.Port, x1.Max, x9⟩ : Out)]).bind fun l14 => some l14)
theorem Ydu (g4 gT : Nat) (x1 : Atom) (cp2 : Z0l) (cu3 : (List Out)) (cp6 : (List Group)) (cp7 : Env) (r : (List Out)) (h : Znh x1 cp2 cu3 cp6 cp7 = some r) : Con Tryz.prog 108 [rd Z06 x1, rp (Z2 24 Zh) cp2, Z7 g4 (Lens.id kraw), rp (Z4 Z0d) cp6, rp Z2z cp7] (Z1k g4 gT kraw (fun v => v) 71 Z14 cu3) (fun _ : Unit => top) (fun _ => Z1k g4 gT kraw (fun v => v) 71 Z14 r) := by
 refine Con.intro Tryz.func108 rfl Tryz.ntmps108 rfl fun w H X => ?_
 unfold Znh at h
 refine AW.unboxF 0 2019 (by decide) rfl rfl fun v5 => SR <| Ct rfl (Zn 6 rfl rfl (vt rfl)) ?_
 rintro _ ⟨g8, rfl⟩
 refine Nl <| AW.seq ?_
 obtain ⟨x9, hx9, h⟩ := Z1 h
 refine Rg <| Zl Zj0 Y9y rfl <| Ld Z04 6 rfl <| Lp1 Z0w rfl <| Cl [8, 9] (Zxr _ _ _ hx9) Zsz rfl <| Ct rfl (Zq 7 rfl rfl Z3m) ?_
 rintro _ ⟨g10, rfl⟩
 refine Zj Z0w 7 rfl <| Nl <| AW.seq <| SR <| Zl Zmr Zun rfl <| Ld ty4 6 rfl <| Nl <| Cn rfl (fun hc => ?_) (fun hc => ?_)
 ·have h := Zf hc h
  refine AW.seq ?_
  obtain ⟨x11, hx11, h⟩ := Z1 h
  obtain ⟨l12, hl12, h⟩ := Z1 h
  refine AW.regionAny [⟨[2], [13], [0], []⟩, ⟨[3], [14], [], []⟩, ⟨[4], [15], [], []⟩, ⟨[5], [16], [], []⟩, ⟨[16], [17], [6], []⟩, ⟨[6], [18], [7], []⟩, ⟨[14, 15, 17, 18], [19], [], []⟩, ⟨[13, 19], [20], [2019], [2019]⟩, ⟨[2, 20], [20], [0], [0]⟩] Z05 (by kernel_rfl) <| Sc (lo [2] [0] rfl fun S hs hr => Zd2 v5 rfl rfl Zaf (vh hs 2 rfl rfl) (i := 0) ((hr 0 rfl).trans rfl) rfl) rfl <| SLp Zk5 rfl <| SLp Zbs rfl <| SFd Z84 Zih rfl <| Zo ty3 6 rfl <| Zo Z0w 7 rfl <| SCl [14, 15, 17, 18] (Yeq _ _ _ _ _ hx11) Y7b rfl <| Sc (Z16 (us := [(20, Z1p 71 Z14 l12)]) (ur := [(2019, emp)]) [13, 19] [2019] rfl fun S hs hr => Z7a 2019 hl12 rfl rfl rfl Zrd (vh hs 13 rfl rfl) ((hr 2019 rfl).trans rfl) (vh hs 19 rfl rfl)) rfl <| Sc (Z16 (us := [(20, top)]) (ur := [(0, Z1k g4 gT kraw (fun v => ((Lens.id kraw)).set v5 v) 71 Z14 l12)]) [2, 20] [0] rfl fun S hs hr => Zs4 rfl rfl Zaf (vh hs 2 rfl rfl) ((hr 0 rfl).trans rfl) ((hs 20 rfl).trans rfl)) rfl <| AW.unboxF 0 2019 (by decide) rfl rfl fun v13 => AW.ret ?_
  obtain rfl := si h
  exact RetOK.turn (Turn.packF 0 2019 (fun v => v) (by decide) rfl rfl) (Z27 (i := 0) Tryz.results108 rfl rfl)
 ·have h := Zg hc h
  refine AW.skip ?_
  obtain ⟨l14, hl14, h⟩ := Z1 h
  refine Rg <| Ac (Zd2 v5 rfl rfl Zaf (vt rfl) (i := 0) rfl rfl) rfl <| Zl Z84 Zih rfl <| Ld ty3 6 rfl <| Zl Zm4 Zr3 rfl <| Ld ty3 6 rfl <| Ld Z0w 7 rfl <| Ac (Z00 (ps := [(0, .tmp 23), (1, .tmp 25), (2, .tmp 26)]) (x := (⟨x1.Port, x1.Max, x9⟩ : Out)) rfl rfl rfl (by kernel_rfl) Zmt ⟨_, _, Zv1, _, by kernel_rfl, (vt rfl), _, _, Y14, _, by kernel_rfl, (vt rfl), _, _, Zxe, _, by kernel_rfl, (vt rfl), rfl⟩) rfl <| Ac (Z2g (ps := [(0, .tmp 27)]) (l := [(⟨x1.Port, x1.Max, x9⟩ : Out)]) rfl rfl Znp Zmt rfl rfl ⟨_, _, Lens.idx 1 Z14 0 (by decide), _, rfl, (vt rfl), rfl⟩ rfl) rfl <| Ct rfl (Z2m 2019 hl14 rfl rfl Zrd (vt rfl) rfl (vt rfl)) ?_
  rintro _ ⟨v15, rfl⟩
  refine Ac (Zan rfl rfl Zaf (vt rfl) (i := 0) rfl (Zt7 (i := 2019) rfl rfl)) rfl <| Nl ?_
  obtain rfl := si h
  exact RetOK.turn (Turn.packF 0 2019 (fun v => v) (by decide) rfl rfl) (Z27 (i := 0) Tryz.results108 rfl rfl)
end Go.Proofs.YtknpgojdkobgjaaGreat.W
set_option maxRecDepth 4000
namespace Go.Proofs.YtknpgojdkobgjaaGreat.W
open Go Go.Wb
theorem Y7h : Ent Tryz.prog 108 := Ent.mk Tryz.func108 rfl rfl
theorem Yg4 : Ent Tryz.prog 107 := Ent.mk Tryz.func107 rfl rfl
theorem e42 : Ent Tryz.prog 42 := Ent.mk Tryz.func42 rfl rfl
theorem e51 : Ent Tryz.prog 51 := Ent.mk Tryz.func51 rfl rfl
theorem e46 : Ent Tryz.prog 46 := Ent.mk Tryz.func46 rfl rfl
theorem e44 : Ent Tryz.prog 44 := Ent.mk Tryz.func44 rfl rfl
theorem e61 : Ent Tryz.prog 61 := Ent.mk Tryz.func61 rfl rfl
theorem e41 : Ent Tryz.prog 41 := Ent.mk Tryz.func41 rfl rfl
def Zd5 (sg : Type) (do2 : (sg → Atom → Option sg)) : (List Atom) → Nat → sg → Option sg
 | [], i6, s5 => some s5
 | x8 :: l7, i6, s5 => (do2 s5 x8).bind fun s10 => (Zd5 sg do2 l7) (i6 + 1) s10
def Zrw (l1 : (List Atom)) (sg : Type) (do2 : (sg → Atom → Option sg)) (s3 : sg) : Option sg :=
 Zd5 sg do2 l1 0 s3
theorem Y5t (l1 : (List Atom)) (sg : Type) (do2 : (sg → Atom → Option sg)) (L : sg → Res) (s3 : sg) (r : sg) (h : Zrw l1 sg do2 s3 = some r) : Con Tryz.prog 107 [rd (Z4 Z06) l1, stA Tryz.prog Z06 do2 L] (L s3) (fun _ : Unit => top) (fun _ => L r) := by
 refine Con.intro Tryz.func107 rfl Tryz.ntmps107 rfl fun w H X => ?_
 unfold Zrw at h
 refine SR <| Md rfl <| Ac (Z0x rfl rfl Z54 (vt rfl)) rfl <| Mk rfl <| Nl <| AW.block <| AW.loopG (d := []) (ν := (List Atom) × Nat × sg) (fun n => Sfx l1 n.2.1 n.1 ∧ Zd5 sg do2 n.1 n.2.1 n.2.2 = some r) (fun n => n.1.length) (fun n => [(1, stA Tryz.prog Z06 do2 L), (6, rd (Z4 Z06) l1), (7, rd (Z0 .i64) (l1.length : Int)), (8, rd (Z0 .i64) (n.2.1 : Int))]) (fun n => [(0, L n.2.2)]) (l1, 0, s3) ⟨Sfx.start _, h⟩ (FX rfl) ?_
 rintro ⟨l7, i6, s5⟩ ⟨hsf1, h⟩
 change Sfx l1 i6 l7 at hsf1
 change Zd5 sg do2 l7 i6 s5 = some r at h
 change AW _ _ _ ⟨Zw [(1, stA Tryz.prog Z06 do2 L), (6, rd (Z4 Z06) l1), (7, rd (Z0 .i64) (l1.length : Int)), (8, rd (Z0 .i64) (i6 : Int))], Zx [(0, L s5)], _⟩
 cases l7 with
 | nil =>
  unfold Zd5 at h
  refine SR <| Ac (Zp rfl rfl (vt rfl) (vt rfl)) rfl <| Nl <| AW.seq <| Cn rfl (fun hc => absurd (of_decide_eq_true hc) hsf1.nil) (fun hc => ?_)
  refine AW.exit ?_
  obtain rfl := si h
  exact Z27 (i := 0) Tryz.results107 rfl rfl
 | cons x8 l7 =>
  unfold Zd5 at h
  generalize hgo1 : Zd5 sg do2 l7 = go1 at h
  refine SR <| Ac (Zp rfl rfl (vt rfl) (vt rfl)) rfl <| Nl <| AW.seq <| Cn rfl (fun hc => ?_) (fun hc => absurd hsf1.cons (of_decide_eq_false hc))
  have hlti6 := of_decide_eq_true hc
  refine AW.skip <| AW.seq <| AW.block <| SR <| Ac (Z0r rfl rfl Z54 (vt rfl) (vt rfl) hsf1.lget) rfl <| Lp1 Zc5 rfl <| Ct rfl (Zq 6 rfl rfl Z4o) ?_
  rintro _ ⟨g9, rfl⟩
  refine Zj Zc5 6 rfl <| Nl ?_
  obtain ⟨s10, hs10, h⟩ := Z1 h
  refine Rg <| Ac (Zt (A := stA Tryz.prog Z06 do2 L) rfl rfl (vt rfl)) rfl <| Ld Zc5 6 rfl <| Ac (Zwu 0 hs10 rfl rfl (vt rfl) (vt rfl) rfl) rfl <| Nl <| Rg <| Ac (Z22 (t := 7) rfl rfl (vt rfl) (vk rfl) (vt rfl) hlti6) rfl <| Md rfl <| Nl ?_
  subst hgo1
  exact ⟨(l7, i6 + 1, s10), Nat.lt_succ_self _, ⟨hsf1.next, h⟩, FX rfl⟩
def Zo3 (l1 : (List Group)) (e2 : Env) (a3 : (List Atom)) (h4 : Z0l) : Option (List Out) :=
 (Zrw a3 (List Out) (fun s x => Znh x h4 s l1 e2) []).bind fun b9 => some b9
theorem Y1m (l1 : (List Group)) (e2 : Env) (a3 : (List Atom)) (h4 : Z0l) (r : (List Out)) (h : Zo3 l1 e2 a3 h4 = some r) : PCon Tryz.prog 51 [rd (Z4 Z0d) l1, rd Z2z e2, rd (Z4 Z06) a3, rd (Z2 24 Zh) h4] (rd (Z4 Z14) r) := by
 refine PCon.of (Con.intro0 Tryz.func51 rfl Tryz.ntmps51 rfl fun w H => ?_)
 unfold Zo3 at h
 refine SR <| Ct rfl (Zn 5 rfl rfl (vt rfl)) ?_
 rintro _ ⟨g5, rfl⟩
 refine Ct rfl (Zn 6 rfl rfl (vt rfl)) ?_
 rintro _ ⟨g6, rfl⟩
 refine Ct rfl (Zn 8 rfl rfl (vt rfl)) ?_
 rintro _ ⟨g7, rfl⟩
 refine Ac (Z02 (A := rd (Z4 Z14) []) rfl rfl Z1u) rfl <| Nl <| AW.seq <| AW.newnil 2219 71 Z14 <| Rg <| Ct rfl (Zq 10 rfl rfl Y87) ?_
 rintro _ ⟨g8, rfl⟩
 refine Nl <| AW.seq <| AW.freezeB 7 8 rfl rfl rfl <| AW.freezeB 4 5 rfl rfl rfl <| AW.freezeB 5 6 rfl rfl rfl ?_
 obtain ⟨b9, hb9, h⟩ := Z1 h
 refine Rg <| Md rfl <| Ac (Zwk (fs := []) (cs := [.tmp 7, .tmp 9, .tmp 4, .tmp 5]) (FAs := []) (CAs := [rp (Z2 24 Zh) h4, Z7 g8 (Lens.id kraw), rp (Z4 Z0d) l1, rp Z2z e2]) (k := Z06) (fun s x => Znh x h4 s l1 e2) (fun (s : (List Out)) => Z1k g8 46 kraw (fun v => v) 71 Z14 s) rfl rfl Y7h trivial ⟨vt rfl, vt rfl, vt rfl, vt rfl, trivial⟩ (fun s x s2 h => Ydu _ _ x h4 s l1 e2 s2 h)) rfl <| AOps.packF 10 2219 (fun v => v) (by decide) rfl rfl <| Ct rfl (Z1f 10 (xs := [.tmp 10, .tmp 11]) (Y5t _ (List Out) _ (fun (s : (List Out)) => Z1k g8 46 kraw (fun v => v) 71 Z14 s) _ _ hb9) Yg4 rfl rfl ⟨vt rfl, vt rfl, trivial⟩ rfl) ?_
 rintro _ ⟨_u, rfl⟩
 refine AOps.unboxF 10 2219 (by decide) rfl rfl fun v10 => Nl <| SR <| Ac (Zd2 v10 rfl rfl Zaf (vt rfl) (i := 10) rfl rfl) rfl <| Aw rfl <| Nl <| AW.freezes [8, 13] 2219 rfl ⟨rfl, rfl, trivial⟩ rfl <| AW.ret ?_
 obtain rfl := si h
 exact Zi Tryz.results51 rfl (Z8 rfl)
def Zoa (f1 : Flat) (e2 : Env) (h3 : Z0l) : Option (List Out) :=
 (Zcr f1 h3).bind fun x7 => (bif (!x7.2) then some [] else (lget f1.Rules x7.1).bind fun e8 => (Zo3 f1.Groups e2 e8.Atoms h3).bind fun x9 => some x9)
theorem Yd0 (f1 : Flat) (e2 : Env) (h3 : Z0l) (r : (List Out)) (h : Zoa f1 e2 h3 = some r) : PCon Tryz.prog 44 [rd Z5f f1, rd Z2z e2, rd (Z2 24 Zh) h3] (rd (Z4 Z14) r) := by
 refine PCon.of (Con.intro0 Tryz.func44 rfl Tryz.ntmps44 rfl fun w H => ?_)
 unfold Zoa at h
 refine SR <| Ct rfl (Zn 4 rfl rfl (vt rfl)) ?_
 rintro _ ⟨g4, rfl⟩
 refine Ct rfl (Zn 5 rfl rfl (vt rfl)) ?_
 rintro _ ⟨g5, rfl⟩
 refine Ct rfl (Zn 6 rfl rfl (vt rfl)) ?_
 rintro _ ⟨g6, rfl⟩
 refine Ac (Z02 (A := rd (Z4 Z14) []) rfl rfl Z1u) rfl <| Nl <| AW.seq ?_
 obtain ⟨x7, hx7, h⟩ := Z1 h
 refine Rg <| Ld Z5t 4 rfl <| Ld Z0w 6 rfl <| Cl [10, 11] (Znq _ _ _ hx7) e42 rfl <| Mt2 rfl <| Ac (Z1s rfl rfl (vt rfl)) rfl <| Ac (Z1t rfl rfl (vt rfl)) rfl <| As rfl <| As rfl <| Nl <| AW.seq <| SR <| Md rfl <| Ac (Z19 rfl rfl (vt rfl)) rfl <| Nl <| Cn rfl (fun hc => ?_) (fun hc => ?_)
 ·have h := Zf hc h
  refine SR <| Ac (Z02 (A := rd (Z4 Z14) []) rfl rfl Z1u) rfl <| Nl <| AW.ret ?_
  obtain rfl := si h
  exact Zi Tryz.results44 rfl (Z8 rfl)
 ·have h := Zg hc h
  refine AW.skip <| AW.seq ?_
  obtain ⟨e8, he8, h⟩ := Z1 h
  obtain ⟨x9, hx9, h⟩ := Z1 h
  refine AW.regionAny [⟨[3], [17], [], []⟩, ⟨[17], [18], [4], []⟩, ⟨[4], [19], [5], []⟩, ⟨[3], [20], [], []⟩, ⟨[20], [21], [4], []⟩, ⟨[7], [22], [], []⟩, ⟨[21, 22], [23], [], []⟩, ⟨[23], [24], [], []⟩, ⟨[24], [25], [], []⟩, ⟨[5], [26], [6], []⟩, ⟨[18, 19, 25, 26], [27], [], []⟩, ⟨[27], [6], [], []⟩] Z05 (by kernel_rfl) <| SFd Zro Ye6 rfl <| Zo Zk5 4 rfl <| Zo Zbs 5 rfl <| SFd Zd3 Znk rfl <| Zo Zne 4 rfl <| Zu rfl <| Sc (lo [21, 22] [] rfl fun S hs hr => Z0r rfl rfl Z2p (vh hs 21 rfl rfl) (vh hs 22 rfl rfl) he8) rfl <| SFp Zad Zpf rfl <| SLp Zb5 rfl <| Zo Z0w 6 rfl <| SCl [18, 19, 25, 26] (Y1m _ _ _ _ _ hx9) e51 rfl <| SAs rfl <| AW.ret ?_
  obtain rfl := si h
  exact Zi Tryz.results44 rfl (Z8 rfl)
def Ze8 : Option Bool :=
 (Zcr (⟨[(⟨(Vector.set (Vector.replicate 24 zTern) 0 (⟨Z0a, (⟨0, (1 : BitVec 64)⟩ : Wide)⟩ : Tern) (by decide)), [(⟨(Vector.replicate 24 zTern), false, 4, 0⟩ : Atom)]⟩ : Rule), (⟨(Vector.replicate 24 zTern), []⟩ : Rule)], []⟩ : Flat) (Vector.set (Vector.replicate 24 Z0a) 0 (⟨0, (1 : BitVec 64)⟩ : Wide) (by decide))).bind fun x2 => (Zi3 (⟨[(⟨(Vector.set (Vector.replicate 24 zTern) 0 (⟨Z0a, (⟨0, (1 : BitVec 64)⟩ : Wide)⟩ : Tern) (by decide)), [(⟨(Vector.replicate 24 zTern), false, 4, 0⟩ : Atom)]⟩ : Rule), (⟨(Vector.replicate 24 zTern), []⟩ : Rule)], []⟩ : Flat) 1 9).bind fun x3 => (opt ((decide (x2.1 = 1)) && x2.2) (Zoa (⟨[(⟨(Vector.set (Vector.replicate 24 zTern) 0 (⟨Z0a, (⟨0, (1 : BitVec 64)⟩ : Wide)⟩ : Tern) (by decide)), [(⟨(Vector.replicate 24 zTern), false, 4, 0⟩ : Atom)]⟩ : Rule), (⟨(Vector.replicate 24 zTern), []⟩ : Rule)], []⟩ : Flat) (⟨0, []⟩ : Env) (Vector.replicate 24 Z0a))).bind fun x5 => some ((((((decide (x2.1 = 1)) && x2.2) && (decide ((x5.length : Int) = 1))) && x3.2.1) && (decide (x3.2.2 = 0))) && (decide (((Vector.get x3.1 (⟨0, by decide⟩ : _root_.Fin 24)).Lo) = (1 : BitVec 64))))
theorem Zoo (r : Bool) (h : Ze8 = some r) : PCon Tryz.prog 41 [] (rd Zc r) := by
 refine PCon.of (Con.intro0 Tryz.func41 rfl Tryz.ntmps41 rfl fun w H => ?_)
 unfold Ze8 at h
 refine SR <| Ab rfl <| Nl <| SR <| Ac (Z00 (ps := [(1, .const (Value.int IntKind.u64 1))]) (x := (⟨0, (1 : BitVec 64)⟩ : Wide)) rfl rfl rfl (by kernel_rfl) Z1l ⟨_, _, Z1y, _, by kernel_rfl, (vku (1 : BitVec 64) rfl), rfl⟩) rfl <| Ac (Z00 (ps := [(1, .tmp 7)]) (x := (⟨Z0a, (⟨0, (1 : BitVec 64)⟩ : Wide)⟩ : Tern)) rfl rfl rfl (by kernel_rfl) Z1a ⟨_, _, Z0v, _, by kernel_rfl, (vt rfl), rfl⟩) rfl <| Ac (Z00 (ps := [(0, .tmp 8)]) (x := (Vector.set (Vector.replicate 24 zTern) 0 (⟨Z0a, (⟨0, (1 : BitVec 64)⟩ : Wide)⟩ : Tern) (by decide))) rfl rfl rfl (by kernel_rfl) Z15 ⟨_, _, Lens.idx 24 Z3 0 (by decide), _, by kernel_rfl, (vt rfl), rfl⟩) rfl <| Ac (Z00 (ps := [(2, .const (Value.int IntKind.i64 4))]) (x := (⟨(Vector.replicate 24 zTern), false, 4, 0⟩ : Atom)) rfl rfl rfl (by kernel_rfl) Z4o ⟨_, _, Z84, _, by kernel_rfl, (vk rfl), rfl⟩) rfl <| Ac (Z2g (ps := [(0, .tmp 10)]) (l := [(⟨(Vector.replicate 24 zTern), false, 4, 0⟩ : Atom)]) rfl rfl Z54 Z4o rfl rfl ⟨_, _, Lens.idx 1 Z06 0 (by decide), _, rfl, (vt rfl), rfl⟩ rfl) rfl <| Ac (Z00 (ps := [(0, .tmp 9), (1, .tmp 11)]) (x := (⟨(Vector.set (Vector.replicate 24 zTern) 0 (⟨Z0a, (⟨0, (1 : BitVec 64)⟩ : Wide)⟩ : Tern) (by decide)), [(⟨(Vector.replicate 24 zTern), false, 4, 0⟩ : Atom)]⟩ : Rule)) rfl rfl rfl (by kernel_rfl) Z48 ⟨_, _, Z6b, _, by kernel_rfl, (vt rfl), _, _, Zad, _, by kernel_rfl, (vt rfl), rfl⟩) rfl <| Ac (Z00 (ps := []) (x := (⟨(Vector.replicate 24 zTern), []⟩ : Rule)) rfl rfl rfl (by kernel_rfl) Z48 rfl) rfl <| Ac (Z2g (ps := [(0, .tmp 12), (1, .tmp 13)]) (l := [(⟨(Vector.set (Vector.replicate 24 zTern) 0 (⟨Z0a, (⟨0, (1 : BitVec 64)⟩ : Wide)⟩ : Tern) (by decide)), [(⟨(Vector.replicate 24 zTern), false, 4, 0⟩ : Atom)]⟩ : Rule), (⟨(Vector.replicate 24 zTern), []⟩ : Rule)]) rfl rfl Z2p Z48 rfl rfl ⟨_, _, Lens.idx 2 Zy 0 (by decide), _, rfl, (vt rfl), _, _, Lens.idx 2 Zy 1 (by decide), _, rfl, (vt rfl), rfl⟩ rfl) rfl <| Ac (Z00 (ps := [(0, .tmp 14)]) (x := (⟨[(⟨(Vector.set (Vector.replicate 24 zTern) 0 (⟨Z0a, (⟨0, (1 : BitVec 64)⟩ : Wide)⟩ : Tern) (by decide)), [(⟨(Vector.replicate 24 zTern), false, 4, 0⟩ : Atom)]⟩ : Rule), (⟨(Vector.replicate 24 zTern), []⟩ : Rule)], []⟩ : Flat)) rfl rfl rfl (by kernel_rfl) Zer ⟨_, _, Zd3, _, by kernel_rfl, (vt rfl), rfl⟩) rfl <| Ct rfl (Zq 2 rfl rfl Zer) ?_
 rintro _ ⟨g1, rfl⟩
 refine Zj Z5t 2 rfl <| Nl <| AW.seq ?_
 obtain ⟨x2, hx2, h⟩ := Z1 h
 refine Rg <| Ld Z5t 2 rfl <| Ac (Z00 (ps := [(1, .const (Value.int IntKind.u64 1))]) (x := (⟨0, (1 : BitVec 64)⟩ : Wide)) rfl rfl rfl (by kernel_rfl) Z1l ⟨_, _, Z1y, _, by kernel_rfl, (vku (1 : BitVec 64) rfl), rfl⟩) rfl <| Ac (Z00 (ps := [(0, .tmp 18)]) (x := (Vector.set (Vector.replicate 24 Z0a) 0 (⟨0, (1 : BitVec 64)⟩ : Wide) (by decide))) rfl rfl rfl (by kernel_rfl) Z3m ⟨_, _, Lens.idx 24 Zh 0 (by decide), _, by kernel_rfl, (vt rfl), rfl⟩) rfl <| Cl [17, 19] (Znq _ _ _ hx2) e42 rfl <| Mt2 rfl <| Ac (Z1s rfl rfl (vt rfl)) rfl <| Ac (Z1t rfl rfl (vt rfl)) rfl <| As rfl <| As rfl <| Nl <| AW.seq ?_
 obtain ⟨x3, hx3, h⟩ := Z1 h
 refine Rg <| Ld Z5t 2 rfl <| Ac (Z11 (xs := [.tmp 24, .const (Value.int IntKind.i64 1), .const (Value.int IntKind.i64 9)]) (Ztd _ _ _ _ hx3) e46 rfl rfl ⟨vt rfl, vk rfl, vk rfl, trivial⟩) rfl <| Ac (Zt (A := Z39 (rd (Z2 24 Zh) x3.1) (rd Zc x3.2.1) (rd (Z0 .i64) x3.2.2)) rfl rfl (vt rfl)) rfl <| Ac (Zbd rfl rfl (vt rfl)) rfl <| Ac (Zb9 rfl rfl (vt rfl)) rfl <| Ac (Zag rfl rfl (vt rfl)) rfl <| Ct rfl (Zq 5 rfl rfl Z3m) ?_
 rintro _ ⟨g4, rfl⟩
 refine Zj Z0w 5 rfl <| As rfl <| As rfl <| Nl <| AW.seq ?_
 obtain ⟨x5, hx5, h⟩ := Z1 h
 refine Rg <| Md rfl <| Ac (Z0i rfl rfl (vt rfl) (vk rfl)) rfl <| Md rfl <| Gd rfl (fun hq => Zt (A := rd Zc x2.2) rfl rfl (vt rfl)) <| Ac (Z1w rfl rfl (vt rfl) (vt rfl)) rfl <| Md rfl <| Gd rfl (fun hq => Z37 rfl rfl Z5t (vt rfl) (i := 2) rfl) <| Gd rfl (fun hq => Z00 (ps := []) (x := (⟨0, []⟩ : Env)) rfl rfl rfl (by kernel_rfl) Ydb rfl) <| Gd rfl (fun hq => Z00 (ps := []) (x := (Vector.replicate 24 Z0a)) rfl rfl rfl (by kernel_rfl) Z3m rfl) <| Gd rfl (fun hq => Z11 (xs := [.tmp 35, .tmp 36, .tmp 37]) (Yd0 _ _ _ _ (Z2b hx5 hq)) e44 rfl rfl ⟨Zs rfl hq, Zs rfl hq, Zs rfl hq, trivial⟩) <| Gd rfl (fun hq => Z0x rfl rfl Znp (Zs rfl hq)) <| Gd rfl (fun hq => Z0i rfl rfl (Zs rfl hq) (vk rfl)) <| Ac (Z1w rfl rfl (vt rfl) (vt rfl)) rfl <| Md rfl <| Gd rfl (fun hq => Zt (A := rd Zc x3.2.1) rfl rfl (vt rfl)) <| Ac (Z1w rfl rfl (vt rfl) (vt rfl)) rfl <| Md rfl <| Gd rfl (fun hq => Zt (A := rd (Z0 .i64) x3.2.2) rfl rfl (vt rfl)) <| Gd rfl (fun hq => Z0i rfl rfl (Zs rfl hq) (vk rfl)) <| Ac (Z1w rfl rfl (vt rfl) (vt rfl)) rfl <| Md rfl <| Gd rfl (fun hq => Z1b rfl rfl Zk9 (vt rfl) (vk rfl) rfl) <| Gd rfl (fun hq => Z40 Z1y rfl rfl Z3j (Zs rfl hq)) <| Gd rfl (fun hq => Z37 rfl rfl Z1d (Zs rfl hq) (i := 5) rfl) <| Gd rfl (fun hq => Zmm rfl rfl (Zs rfl hq) (vku (1 : BitVec 64) rfl)) <| Ac (Z1w rfl rfl (vt rfl) (vt rfl)) rfl <| As rfl <| Nl <| AW.ret ?_
 obtain rfl := si h
 exact Zi Tryz.results41 rfl (Z8 rfl)
def Z7r (x6 : (Flat × Int)) (most2 : Int) : Nat → Nat → Option Bool
 | 0, i9 => (Ze8).bind fun x11 => some x11
 | m10 + 1, i9 => (Zi3 x6.1 (i9 : Int) most2).bind fun x12 => (Zcr x6.1 x12.1).bind fun x14 => (bif ((((!x12.2.1) || (decide (x12.2.2 ≠ 0))) || (!x14.2)) || (decide ((i9 : Int) ≠ x14.1))) then some false else (Z7r x6 most2 m10) (i9 + 1))
def Zeh (s1 : Switch) (most2 : Int) : Option Bool :=
 (Zno s1 most2).bind fun x4 => (bif (!x4) then (Ze8).bind fun x5 => some x5 else (Zid s1 most2).bind fun x6 => (bif (decide (x6.2 ≠ 0)) then (Ze8).bind fun x8 => some x8 else Z7r x6 most2 ((x6.1.Rules.length : Int) : Int).toNat 0))
theorem Y42 (s1 : Switch) (most2 : Int) (r : Bool) (h : Zeh s1 most2 = some r) : PCon Tryz.prog 15 [rd Z0h s1, rd (Z0 .i64) most2] (rd Zc r) := by
 refine PCon.of (Con.intro0 Tryz.func15 rfl Tryz.ntmps15 rfl fun w H => ?_)
 unfold Zeh at h
 refine SR <| Ct rfl (Zn 3 rfl rfl (vt rfl)) ?_
 rintro _ ⟨g3, rfl⟩
 refine Ab rfl <| Nl <| AW.seq <| AW.seq ?_
 obtain ⟨x4, hx4, h⟩ := Z1 h
 refine Rg <| Ld Z5z 3 rfl <| Md rfl <| Cl [13, 14] (Yc4 _ _ _ hx4) e61 rfl <| Ac (Z19 rfl rfl (vt rfl)) rfl <| Nl <| Cn rfl (fun hc => ?_) (fun hc => ?_)
 ·have h := Zf hc h
  refine AW.seq ?_
  obtain ⟨x5, hx5, h⟩ := Z1 h
  refine Rg <| Cl [] (Zoo _ hx5) e41 rfl <| As rfl <| Nl <| AW.ret ?_
  obtain rfl := si h
  exact Zi Tryz.results15 rfl (Z8 rfl)
 ·have h := Zg hc h
  refine AW.skip <| AW.seq ?_
  obtain ⟨x6, hx6, h⟩ := Z1 h
  refine Rg <| Ld Z5z 3 rfl <| Md rfl <| Cl [19, 20] (Y29 _ _ _ hx6) e54 rfl <| Mt2 rfl <| Ac (Z1s rfl rfl (vt rfl)) rfl <| Ac (Z1t rfl rfl (vt rfl)) rfl <| Ct rfl (Zq 6 rfl rfl Zer) ?_
  rintro _ ⟨g7, rfl⟩
  refine Zj Z5t 6 rfl <| As rfl <| Nl <| AW.seq <| SR <| Md rfl <| Ac (Z8m rfl rfl (vt rfl) (vk rfl)) rfl <| Nl <| Cn rfl (fun hc => ?_) (fun hc => ?_)
  ·have h := Zf hc h
   refine AW.seq ?_
   obtain ⟨x8, hx8, h⟩ := Z1 h
   refine Rg <| Cl [] (Zoo _ hx8) e41 rfl <| As rfl <| Nl <| AW.ret ?_
   obtain rfl := si h
   exact Zi Tryz.results15 rfl (Z8 rfl)
  ·have h := Zg hc h
   refine AW.skip <| AW.seq <| SR <| Zl Zd3 Znk rfl <| Ld Zne 6 rfl <| Ac (Z0x rfl rfl Z2p (vt rfl)) rfl <| Mk rfl <| Nl <| AW.block <| AW.loopG (d := []) (ν := Nat × Nat) (fun n => Cnt (x6.1.Rules.length : Int) n.2 n.1 ∧ Z7r x6 most2 n.1 n.2 = some r) (fun n => n.1) (fun n => [(1, rd (Z0 .i64) most2), (5, Z7 g7 (Lens.id Z5f)), (29, rd (Z0 .i64) (x6.1.Rules.length : Int)), (30, rd (Z0 .i64) (n.2 : Int))]) (fun n => [(6, Z9 g7 73 Z5f x6.1)]) (((x6.1.Rules.length : Int) : Int).toNat, 0) ⟨Cnt.start _, h⟩ (FX rfl) ?_
   rintro ⟨m10, i9⟩ ⟨hsf1, h⟩
   change Cnt (x6.1.Rules.length : Int) i9 m10 at hsf1
   change Z7r x6 most2 m10 i9 = some r at h
   change AW _ _ _ ⟨Zw [(1, rd (Z0 .i64) most2), (5, Z7 g7 (Lens.id Z5f)), (29, rd (Z0 .i64) (x6.1.Rules.length : Int)), (30, rd (Z0 .i64) (i9 : Int))], Zx [(6, Z9 g7 73 Z5f x6.1)], _⟩
   cases m10 with
   | zero =>
    unfold Z7r at h
    refine SR <| Ac (Zp rfl rfl (vt rfl) (vt rfl)) rfl <| Nl <| AW.seq <| Cn rfl (fun hc => absurd (of_decide_eq_true hc) hsf1.zero) (fun hc => ?_)
    refine AW.exit <| AW.seq ?_
    obtain ⟨x11, hx11, h⟩ := Z1 h
    refine Rg <| Cl [] (Zoo _ hx11) e41 rfl <| As rfl <| Nl <| AW.ret ?_
    obtain rfl := si h
    exact Zi Tryz.results15 rfl (Z8 rfl)
   | succ m10 =>
    unfold Z7r at h
    generalize hgo1 : Z7r x6 most2 m10 = go1 at h
    refine SR <| Ac (Zp rfl rfl (vt rfl) (vt rfl)) rfl <| Nl <| AW.seq <| Cn rfl (fun hc => ?_) (fun hc => absurd hsf1.succ (of_decide_eq_false hc))
    have hlti9 := of_decide_eq_true hc
    refine AW.skip <| AW.seq <| AW.block <| SR <| Md rfl <| As rfl <| Nl <| AW.seq ?_
    obtain ⟨x12, hx12, h⟩ := Z1 h
    refine Rg <| Ld Z5t 6 rfl <| Md rfl <| Md rfl <| Cl [34, 35, 36] (Ztd _ _ _ _ hx12) e46 rfl <| Ac (Zt (A := Z39 (rd (Z2 24 Zh) x12.1) (rd Zc x12.2.1) (rd (Z0 .i64) x12.2.2)) rfl rfl (vt rfl)) rfl <| Ac (Zbd rfl rfl (vt rfl)) rfl <| Ac (Zb9 rfl rfl (vt rfl)) rfl <| Ac (Zag rfl rfl (vt rfl)) rfl <| Ct rfl (Zq 9 rfl rfl Z3m) ?_
    rintro _ ⟨g13, rfl⟩
    refine Zj Z0w 9 rfl <| As rfl <| As rfl <| Nl <| AW.seq ?_
    obtain ⟨x14, hx14, h⟩ := Z1 h
    refine Rg <| Ld Z5t 6 rfl <| Ld Z0w 9 rfl <| Cl [42, 43] (Znq _ _ _ hx14) e42 rfl <| Mt2 rfl <| Ac (Z1s rfl rfl (vt rfl)) rfl <| Ac (Z1t rfl rfl (vt rfl)) rfl <| As rfl <| As rfl <| Nl <| SR <| Md rfl <| Ac (Z19 rfl rfl (vt rfl)) rfl <| Md rfl <| Gd rfl (fun hq => Zt (A := rd (Z0 .i64) x12.2.2) rfl rfl (vt rfl)) <| Gd rfl (fun hq => Z8m rfl rfl (Zs rfl hq) (vk rfl)) <| Ac (Z68 rfl rfl (vt rfl) (vt rfl)) rfl <| Md rfl <| Gd rfl (fun hq => Zt (A := rd Zc x14.2) rfl rfl (vt rfl)) <| Gd rfl (fun hq => Z19 rfl rfl (Zs rfl hq)) <| Ac (Z68 rfl rfl (vt rfl) (vt rfl)) rfl <| Md rfl <| Gd rfl (fun hq => Zt (A := rd (Z0 .i64) (i9 : Int)) rfl rfl (vt rfl)) <| Gd rfl (fun hq => Zt (A := rd (Z0 .i64) x14.1) rfl rfl (vt rfl)) <| Gd rfl (fun hq => Z8m rfl rfl (Zs rfl hq) (Zs rfl hq)) <| Ac (Z68 rfl rfl (vt rfl) (vt rfl)) rfl <| Nl <| Cn rfl (fun hc => ?_) (fun hc => ?_)
    ·have h := Zf hc h
     refine SR <| Ab rfl <| Nl <| AW.ret ?_
     obtain rfl := si h
     exact Zi Tryz.results15 rfl (Z8 rfl)
    ·have h := Zg hc h
     refine AW.skip <| Rg <| Ac (Z22 (t := 29) rfl rfl (vt rfl) (vk rfl) (vt rfl) hlti9) rfl <| Md rfl <| Nl ?_
     subst hgo1
     exact ⟨(m10, i9 + 1), Nat.lt_succ_self _, ⟨hsf1.next, h⟩, FX rfl⟩
end Go.Proofs.YtknpgojdkobgjaaGreat.W
set_option maxRecDepth 4000
namespace Go.Proofs.YtknpgojdkobgjaaGreat.W
open Go Go.Wb
end Go.Proofs.YtknpgojdkobgjaaGreat.W
