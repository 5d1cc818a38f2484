/- GaF1: a part of the proof. -/
import Derived.Test.YtokmmcflinnfiaaGaF0
set_option linter.unusedVariables false
set_option linter.unusedSimpArgs false
namespace Go.Proofs.Ytokmmcflinnfiaa.W
open Go Go.Wb
-- slices.Clone[[]weirbox/api.Group,weirbox/api.Group]
def F115 (s : List Group) : Option (List Group) := appd [] s
theorem c115o (s : List Group) (r : List Group) (h : F115 s = some r) : Con Try.prog 115 [rd (ksl kGroup) s] emp (fun v => raw v) (fun v => Row v 40 kGroup r) := by
  refine Con.intro0 Try.func115 rfl Try.ntmps115 rfl fun w H => ?_
  unfold F115 at h
  refine AW.newnil 1001 40 kGroup ?_
  refine AW.seq ?_
  refine AW.region ?_
  refine AOps.cons (op_assign (A := raw (.slice none 0 0)) rfl rfl vc) rfl ?_
  refine AOps.nil ?_
  refine AW.seq ?_
  refine AW.seq ?_
  refine AW.region ?_
  refine AOps.cons (op_move (A := rd (ksl kGroup) s) rfl rfl (vt rfl)) rfl ?_
  refine AOps.consT rfl (op_eqnil rfl rfl sl22 (vt rfl)) ?_
  rintro _ ⟨b, hb, rfl⟩
  refine AOps.nil ?_
  refine AW.cond (vt rfl) (fun hc => ?_) (fun hc => ?_)
  · obtain rfl := hb hc
    refine AW.seq ?_
    refine AW.region ?_
    refine AOps.cons (op_assign (A := raw (.slice none 0 0)) rfl rfl vc) rfl ?_
    refine AOps.nil ?_
    refine AW.ret ?_
    obtain rfl := (appd_of h).2
    exact ret1R (i := 1001) Try.results115 rfl rfl rfl
  · refine AW.skip ?_
    refine AW.seq ?_
    refine AW.region ?_
    refine AOps.consT rfl (op_buildSlice 1002 (ps := []) (l := []) rfl rfl sl22 zr40 rfl rfl rfl rfl) ?_
    rintro _ ⟨v1, rfl⟩
    refine AOps.cons (op_move (A := rd (ksl kGroup) s) rfl rfl (vt rfl)) rfl ?_
    refine AOps.consT rfl (op_append' 1002 h rfl rfl el22 (vt rfl) rfl (vt rfl)) ?_
    rintro _ ⟨v2, rfl⟩
    refine AOps.cons (op_assign (A := raw v2) rfl rfl (vt rfl)) rfl ?_
    refine AOps.nil ?_
    refine AW.ret ?_
    exact ret1R (i := 1002) Try.results115 rfl rfl rfl
theorem c115 (s : List Group) (r : List Group) (h : F115 s = some r) : PCon Try.prog 115 [rd (ksl kGroup) s] (rd (ksl kGroup) r) := PCon.of_row (c115o s r h)
-- weirbox/envs.of$1
def F116 (g1 : Group) (c2 : Int) : Option Bool :=
  some (decide (g1.Kind ≠ c2))
theorem c116 (g1 : Group) (c2 : Int) (r : Bool) (h : F116 g1 c2 = some r) : PCon Try.prog 116 [rd kGroup g1, rp (kint .i64) c2] (rd kbool r) := by
  refine PCon.of (Con.intro0 Try.func116 rfl Try.ntmps116 rfl fun w H => ?_)
  unfold F116 at h
  refine AW.seq ?_
  refine AW.region ?_
  refine AOps.consT rfl (op_box 3 rfl rfl (vt rfl)) ?_
  rintro _ ⟨g3, rfl⟩
  refine AOps.cons (op_assign (A := rd kbool false) rfl rfl vb) rfl ?_
  refine AOps.nil ?_
  refine AW.seq ?_
  refine AW.region ?_
  refine AOps.cons (op_field lGroup_1 rfl rfl fl40_1 (vt rfl)) rfl ?_
  refine AOps.cons (op_load rfl rfl ty3 (vt rfl) (i := 3) rfl) rfl ?_
  refine AOps.cons (op_loadp rfl rfl ty3 (vt rfl)) rfl ?_
  refine AOps.cons (op_neq rfl rfl (vt rfl) (vt rfl)) rfl ?_
  refine AOps.cons (op_assign (A := rd kbool (decide (g1.Kind ≠ c2))) rfl rfl (vt rfl)) rfl ?_
  refine AOps.nil ?_
  refine AW.ret ?_
  obtain rfl := Option.some.inj h
  exact ret1 Try.results116 rfl (out_tmp rfl)
-- slices.DeleteFunc[[]weirbox/api.Group,weirbox/api.Group]
def F114_l1 (del3 : (Group → Option Bool)) : Nat → (List Group) → Int → Int → Option (List Group)
  | 0, _, _, _ => none
  | m13 + 1, l9, i11, j12 => (bif (decide (j12 < (l9.length : Int))) then (lget l9 j12).bind fun e14 => (del3 e14).bind fun x16 => (bif (!x16) then (lget l9 i11).bind fun e17 => (F114_l1 del3 m13) (List.set l9 i11.toNat e14) (IntKind.i64.wrap (i11 + 1)) (IntKind.i64.wrap (j12 + 1)) else (F114_l1 del3 m13) l9 i11 (IntKind.i64.wrap (j12 + 1))) else (odrop l9 i11).bind fun s18 => (otake (List.take i11.toNat l9 ++ List.replicate (l9.length - i11.toNat) zGroup) i11).bind fun s19 => some s19)
def F114 (s1 : (List Group)) (del3 : (Group → Option Bool)) : Option (List Group) :=
  (F69 s1 del3).bind fun x4 => (bif (decide (x4 = (-1))) then some s1 else F114_l1 del3 ((((s1.length : Int) : Int) - (IntKind.i64.wrap (x4 + 1))).toNat + 1) s1 x4 (IntKind.i64.wrap (x4 + 1)))
theorem c114o (v2 : Value) (s1 : (List Group)) (del3 : (Group → Option Bool)) (r : (List Group)) (h : F114 s1 del3 = some r) : Con Try.prog 114 [raw v2, fn1 Try.prog kGroup kbool del3] (Row v2 40 kGroup s1) (fun v => raw v) (fun v => Row v 40 kGroup r) := by
  refine Con.intro Try.func114 rfl Try.ntmps114 rfl fun w H X => ?_
  unfold F114 at h
  refine AW.seq ?_
  refine AW.newnil 1001 40 kGroup ?_
  refine AW.region ?_
  refine AOps.cons (op_assign rfl rfl vc) rfl ?_
  refine AOps.nil ?_
  refine AW.seq ?_
  obtain ⟨x4, hx4, h⟩ := bsome h
  refine AW.region ?_
  refine AOps.cons (op_move (A := raw v2) rfl rfl (vt rfl)) rfl ?_
  refine AOps.cons (op_move (A := fn1 Try.prog kGroup kbool del3) rfl rfl (vt rfl)) rfl ?_
  refine AOps.cons (op_callB (xs := [.tmp 8, .tmp 9]) 0 (c69 _ _ _ hx4) (Ent.mk Try.func69 rfl rfl) rfl rfl ⟨vL rfl rfl, vB (vt rfl), trivial⟩) rfl ?_
  refine AOps.cons (op_assign (A := rd (kint .i64) x4) rfl rfl (vt rfl)) rfl ?_
  refine AOps.nil ?_
  refine AW.seq ?_
  refine AW.seq ?_
  refine AW.region ?_
  refine AOps.cons (op_move (A := rd (kint .i64) x4) rfl rfl (vt rfl)) rfl ?_
  refine AOps.cons (op_eql rfl rfl (vt rfl) (vk rfl)) rfl ?_
  refine AOps.nil ?_
  refine AW.cond (vt rfl) (fun hc => ?_) (fun hc => ?_)
  · have h := cond_t hc h
    refine AW.seq ?_
    refine AW.region ?_
    refine AOps.cons (op_move (A := raw v2) rfl rfl (vt rfl)) rfl ?_
    refine AOps.cons (op_assign (A := raw v2) rfl rfl (vt rfl)) rfl ?_
    refine AOps.nil ?_
    refine AW.ret ?_
    obtain rfl := Option.some.inj h
    exact ret1R (i := 0) Try.results114 rfl rfl rfl
  · have h := cond_f hc h
    refine AW.skip ?_
    refine AW.seq ?_
    refine AW.seq ?_
    refine AW.region ?_
    refine AOps.cons (op_move (A := rd (kint .i64) x4) rfl rfl (vt rfl)) rfl ?_
    refine AOps.cons (op_add rfl rfl (vt rfl) (vk rfl)) rfl ?_
    refine AOps.cons (op_assign (A := rd (kint .i64) (IntKind.i64.wrap (x4 + 1))) rfl rfl (vt rfl)) rfl ?_
    refine AOps.nil ?_
    refine AW.block ?_
    refine AW.loopG (d := []) (ν := Nat × (List Group) × Int × Int × Value) (fun n => True ∧ F114_l1 del3 n.1 n.2.1 n.2.2.1 n.2.2.2.1 = some r) (fun n => n.1) (fun n => [(0, raw n.2.2.2.2), (1, fn1 Try.prog kGroup kbool del3), (5, rd (kint .i64) n.2.2.1), (6, rd (kint .i64) n.2.2.2.1)]) (fun n => [(0, Row n.2.2.2.2 40 kGroup n.2.1)]) (((((s1.length : Int) : Int) - (IntKind.i64.wrap (x4 + 1))).toNat + 1), s1, x4, (IntKind.i64.wrap (x4 + 1)), v2) ⟨trivial, h⟩ ⟨rfl, ⟨rfl, rfl, rfl, rfl, trivial⟩, ⟨rfl, trivial⟩⟩ ?_
    rintro ⟨m13, l9, i11, j12, v10⟩ ⟨hsf1, h⟩
    change True at hsf1
    change F114_l1 del3 m13 l9 i11 j12 = some r at h
    change AW _ _ _ ⟨slots [(0, raw v10), (1, fn1 Try.prog kGroup kbool del3), (5, rd (kint .i64) i11), (6, rd (kint .i64) j12)], ress [(0, Row v10 40 kGroup l9)], _⟩
    cases m13 with
    | zero => cases h
    | succ m13 =>
      unfold F114_l1 at h
      generalize hgo1 : F114_l1 del3 m13 = go1 at h
      refine AW.seq ?_
      refine AW.seq ?_
      refine AW.region ?_
      refine AOps.cons (op_move (A := rd (kint .i64) j12) rfl rfl (vt rfl)) rfl ?_
      refine AOps.cons (op_move (A := raw v10) rfl rfl (vt rfl)) rfl ?_
      refine AOps.cons (op_leno 0 rfl rfl sl22 (vt rfl) rfl) rfl ?_
      refine AOps.cons (op_lss rfl rfl (vt rfl) (vt rfl)) rfl ?_
      refine AOps.nil ?_
      refine AW.cond (vt rfl) (fun hc => ?_) (fun hc => ?_)
      · have h := cond_t hc h
        refine AW.skip ?_
        refine AW.seq ?_
        refine AW.block ?_
        refine AW.seq ?_
        obtain ⟨e14, he14, h⟩ := bsome h
        refine AW.region ?_
        refine AOps.cons (op_move (A := raw v10) rfl rfl (vt rfl)) rfl ?_
        refine AOps.cons (op_move (A := rd (kint .i64) j12) rfl rfl (vt rfl)) rfl ?_
        refine AOps.cons (op_indexo' 0 rfl rfl sl22 (vt rfl) rfl (vt rfl) he14) rfl ?_
        refine AOps.cons (op_loado' 0 rfl rfl ty40 (vt rfl) rfl (lget_of he14).2) rfl ?_
        refine AOps.consT rfl (op_alloc 8 rfl rfl zr40) ?_
        rintro _ ⟨g15, rfl⟩
        refine AOps.cons (op_store rfl rfl ty40 (vt rfl) (i := 8) rfl (vt rfl)) rfl ?_
        refine AOps.nil ?_
        refine AW.seq ?_
        obtain ⟨x16, hx16, h⟩ := bsome h
        refine AW.region ?_
        refine AOps.cons (op_move (A := fn1 Try.prog kGroup kbool del3) rfl rfl (vt rfl)) rfl ?_
        refine AOps.cons (op_load rfl rfl ty40 (vt rfl) (i := 8) rfl) rfl ?_
        refine AOps.cons (op_call1 hx16 rfl rfl (vt rfl) (vt rfl)) rfl ?_
        refine AOps.cons (op_not rfl rfl (vt rfl)) rfl ?_
        refine AOps.nil ?_
        refine AW.cond (vt rfl) (fun hc => ?_) (fun hc => ?_)
        · have h := cond_t hc h
          refine AW.seq ?_
          obtain ⟨e17, he17, h⟩ := bsome h
          refine AW.region ?_
          refine AOps.cons (op_move (A := raw v10) rfl rfl (vt rfl)) rfl ?_
          refine AOps.cons (op_move (A := rd (kint .i64) i11) rfl rfl (vt rfl)) rfl ?_
          refine AOps.cons (op_load rfl rfl ty40 (vt rfl) (i := 8) rfl) rfl ?_
          refine AOps.cons (op_indexo' 0 rfl rfl sl22 (vt rfl) rfl (vt rfl) he17) rfl ?_
          refine AOps.cons (op_storeo' 0 rfl rfl ty40 (vt rfl) rfl (lget_of he17).2 (vt rfl)) rfl ?_
          refine AOps.nil ?_
          refine AW.region ?_
          refine AOps.cons (op_move (A := rd (kint .i64) i11) rfl rfl (vt rfl)) rfl ?_
          refine AOps.cons (op_add rfl rfl (vt rfl) (vk rfl)) rfl ?_
          refine AOps.cons (op_assign (A := rd (kint .i64) (IntKind.i64.wrap (i11 + 1))) rfl rfl (vt rfl)) rfl ?_
          refine AOps.nil ?_
          refine AW.region ?_
          refine AOps.cons (op_move (A := rd (kint .i64) j12) rfl rfl (vt rfl)) rfl ?_
          refine AOps.cons (op_add rfl rfl (vt rfl) (vk rfl)) rfl ?_
          refine AOps.cons (op_assign (A := rd (kint .i64) (IntKind.i64.wrap (j12 + 1))) rfl rfl (vt rfl)) rfl ?_
          refine AOps.nil ?_
          subst hgo1
          exact ⟨(m13, (List.set l9 i11.toNat e14), (IntKind.i64.wrap (i11 + 1)), (IntKind.i64.wrap (j12 + 1)), v10), Nat.lt_succ_self _, ⟨trivial, h⟩, ⟨rfl, ⟨rfl, rfl, rfl, rfl, trivial⟩, ⟨rfl, trivial⟩⟩⟩
        · have h := cond_f hc h
          refine AW.skip ?_
          refine AW.region ?_
          refine AOps.cons (op_move (A := rd (kint .i64) j12) rfl rfl (vt rfl)) rfl ?_
          refine AOps.cons (op_add rfl rfl (vt rfl) (vk rfl)) rfl ?_
          refine AOps.cons (op_assign (A := rd (kint .i64) (IntKind.i64.wrap (j12 + 1))) rfl rfl (vt rfl)) rfl ?_
          refine AOps.nil ?_
          subst hgo1
          exact ⟨(m13, l9, i11, (IntKind.i64.wrap (j12 + 1)), v10), Nat.lt_succ_self _, ⟨trivial, h⟩, ⟨rfl, ⟨rfl, rfl, rfl, rfl, trivial⟩, ⟨rfl, trivial⟩⟩⟩
      · have h := cond_f hc h
        refine AW.exit ?_
        refine AW.seq ?_
        obtain ⟨s18, hs18, h⟩ := bsome h
        refine AW.region ?_
        refine AOps.cons (op_move (A := raw v10) rfl rfl (vt rfl)) rfl ?_
        refine AOps.cons (op_move (A := rd (kint .i64) i11) rfl rfl (vt rfl)) rfl ?_
        refine AOps.cons (op_sliceo_l 0 hs18 rfl rfl sl22 (vt rfl) rfl (vt rfl)) rfl ?_
        refine AOps.cons (op_clearo 0 rfl rfl sl22 zr40 rfl (vt rfl) rfl (odrop_of hs18).2.1) rfl ?_
        refine AOps.nil ?_
        refine AW.seq ?_
        obtain ⟨s19, hs19, h⟩ := bsome h
        refine AW.region ?_
        refine AOps.cons (op_move (A := raw v10) rfl rfl (vt rfl)) rfl ?_
        refine AOps.cons (op_move (A := rd (kint .i64) i11) rfl rfl (vt rfl)) rfl ?_
        refine AOps.consT rfl (op_sliceo_h 0 hs19 rfl rfl sl22 (vt rfl) rfl (vt rfl)) ?_
        rintro _ ⟨v20, rfl⟩
        refine AOps.cons (op_assign (A := raw v20) rfl rfl (vt rfl)) rfl ?_
        refine AOps.nil ?_
        refine AW.ret ?_
        obtain rfl := Option.some.inj h
        exact ret1R (i := 0) Try.results114 rfl rfl rfl
-- weirbox/envs.of
def F72 (l1 : (List Group)) (kind2 : Int) : Option (List Group) :=
  (F115 l1).bind fun x4 => (F114 x4 (fun x => F116 x kind2)).bind fun x6 => some x6
theorem c72 (l1 : (List Group)) (kind2 : Int) (r : (List Group)) (h : F72 l1 kind2 = some r) : PCon Try.prog 72 [rd (ksl kGroup) l1, rd (kint .i64) kind2] (rd (ksl kGroup) r) := by
  refine PCon.of (Con.intro0 Try.func72 rfl Try.ntmps72 rfl fun w H => ?_)
  unfold F72 at h
  refine AW.seq ?_
  refine AW.region ?_
  refine AOps.consT rfl (op_box 4 rfl rfl (vt rfl)) ?_
  rintro _ ⟨g3, rfl⟩
  refine AOps.cons (op_assign (A := rd (ksl kGroup) []) rfl rfl vnil) rfl ?_
  refine AOps.nil ?_
  refine AW.seq ?_
  refine AW.freezeB 3 4 rfl rfl rfl ?_
  obtain ⟨x4, hx4, h⟩ := bsome h
  obtain ⟨x6, hx6, h⟩ := bsome h
  refine AW.region ?_
  refine AOps.cons (op_move (A := rd (ksl kGroup) l1) rfl rfl (vt rfl)) rfl ?_
  refine AOps.consT rfl (op_callR 1001 (xs := [.tmp 5]) (c115o _ _ hx4) (Ent.mk Try.func115 rfl rfl) rfl rfl ⟨vt rfl, trivial⟩ rfl) ?_
  rintro _ ⟨v5, rfl⟩
  refine AOps.cons (op_fn1 (cs := [.tmp 3]) (CAs := [rp (kint .i64) kind2]) (fun x => F116 x kind2) rfl rfl (Ent.mk Try.func116 rfl rfl) ⟨vt rfl, trivial⟩ (fun x y h => c116 _ _ y h)) rfl ?_
  refine AOps.consT rfl (op_callR 1001 (xs := [.tmp 6, .tmp 7]) (c114o _ _ _ _ hx6) (Ent.mk Try.func114 rfl rfl) rfl rfl ⟨vt rfl, vt rfl, trivial⟩ rfl) ?_
  rintro _ ⟨v7, rfl⟩
  refine AOps.cons (op_assign (A := raw v7) rfl rfl (vt rfl)) rfl ?_
  refine AOps.nil ?_
  refine AW.freezes [4, 8] 1001 rfl ⟨rfl, rfl, trivial⟩ rfl ?_
  refine AW.ret ?_
  obtain rfl := Option.some.inj h
  exact ret1 Try.results72 rfl (out_tmp rfl)
-- weirbox/envs.Ports
def F25_l2 : (List Bool) → Nat → (List Int) → Option (List Int)
  | [], i12, l10 => some l10
  | x14 :: l13, i12, l10 => (bif ((decide ((i12 : Int) > 0)) && x14) then (appd l10 [(i12 : Int)]).bind fun l15 => (F25_l2 l13) (i12 + 1) l15 else (F25_l2 l13) (i12 + 1) l10)
def F25_l3 (go1 : Nat → (Vector Bool 7) → Option (List Int)) (i6 : Nat) : (List Bucket) → Nat → (Vector Bool 7) → Option (List Int)
  | [], i21, b20 => go1 (i6 + 1) b20
  | x23 :: l22, i21, b20 => (omod (imax (imin x23.Watch 7) 0) 7).bind fun q25 => (chk 7 q25).bind fun j26 => (F25_l3 go1 i6 l22) (i21 + 1) (Vector.set b20 j26.1 true j26.2)
def F25_l1 : (List Group) → Nat → (Vector Bool 7) → Option (List Int)
  | [], i6, b5 => F25_l2 (Vector.toList b5) 0 []
  | x17 :: l7, i6, b5 => F25_l3 (F25_l1 l7) i6 x17.Buckets 0 b5
def F25 (l1 : (List Group)) : Option (List Int) :=
  (F72 l1 3).bind fun x3 => F25_l1 x3 0 (Vector.replicate 7 false)
theorem c25o (l1 : (List Group)) (r : (List Int)) (h : F25 l1 = some r) : Con Try.prog 25 [rd (ksl kGroup) l1] emp (fun v => raw v) (fun v => Row v 3 (kint .i64) r) := by
  refine Con.intro0 Try.func25 rfl Try.ntmps25 rfl fun w H => ?_
  unfold F25 at h
  refine AW.seq ?_
  refine AW.newnil 1001 3 (kint .i64) ?_
  refine AW.region ?_
  refine AOps.cons (op_assign rfl rfl vc) rfl ?_
  refine AOps.nil ?_
  refine AW.seq ?_
  refine AW.region ?_
  refine AOps.consT rfl (op_alloc 4 rfl rfl zr114) ?_
  rintro _ ⟨g2, rfl⟩
  refine AOps.nil ?_
  refine AW.seq ?_
  refine AW.seq ?_
  obtain ⟨x3, hx3, h⟩ := bsome h
  refine AW.region ?_
  refine AOps.cons (op_move (A := rd (ksl kGroup) l1) rfl rfl (vt rfl)) rfl ?_
  refine AOps.cons (op_call (xs := [.tmp 11, .const (Value.int IntKind.i64 3)]) (c72 _ _ _ hx3) (Ent.mk Try.func72 rfl rfl) rfl rfl ⟨vt rfl, vk rfl, trivial⟩) rfl ?_
  refine AOps.cons (op_len' rfl rfl sl22 (vt rfl)) rfl ?_
  refine AOps.cons (op_move (A := rd (kint .i64) 0) rfl rfl (vk rfl)) rfl ?_
  refine AOps.nil ?_
  refine AW.block ?_
  refine AW.loopG (d := []) (ν := (List Group) × Nat × (Vector Bool 7)) (fun n => Sfx x3 n.2.1 n.1 ∧ F25_l1 n.1 n.2.1 n.2.2 = some r) (fun n => n.1.length) (fun n => [(3, ptrL g2 (Lens.id (karr 7 kbool))), (12, rd (ksl kGroup) x3), (13, rd (kint .i64) (x3.length : Int)), (14, rd (kint .i64) (n.2.1 : Int))]) (fun n => [(4, Blk g2 114 (karr 7 kbool) n.2.2)]) (x3, 0, (Vector.replicate 7 false)) ⟨Sfx.start _, h⟩ ⟨rfl, ⟨rfl, rfl, rfl, rfl, trivial⟩, ⟨rfl, trivial⟩⟩ ?_
  rintro ⟨l7, i6, b5⟩ ⟨hsf1, h⟩
  change Sfx x3 i6 l7 at hsf1
  change F25_l1 l7 i6 b5 = some r at h
  change AW _ _ _ ⟨slots [(3, ptrL g2 (Lens.id (karr 7 kbool))), (12, rd (ksl kGroup) x3), (13, rd (kint .i64) (x3.length : Int)), (14, rd (kint .i64) (i6 : Int))], ress [(4, Blk g2 114 (karr 7 kbool) b5)], _⟩
  cases l7 with
  | nil =>
    unfold F25_l1 at h
    refine AW.seq ?_
    refine AW.region ?_
    refine AOps.cons (op_lss rfl rfl (vt rfl) (vt rfl)) rfl ?_
    refine AOps.nil ?_
    refine AW.seq ?_
    refine AW.cond (vt rfl) (fun hc => absurd (of_decide_eq_true hc) hsf1.nil) (fun hc => ?_)
    refine AW.exit ?_
    refine AW.seq ?_
    refine AW.newnil 1002 3 (kint .i64) ?_
    refine AW.region ?_
    refine AOps.cons (op_assign rfl rfl vc) rfl ?_
    refine AOps.nil ?_
    refine AW.seq ?_
    refine AW.seq ?_
    refine AW.region ?_
    refine AOps.cons (op_load rfl rfl ty114 (vt rfl) (i := 4) rfl) rfl ?_
    refine AOps.cons (op_move (A := rd (kint .i64) 0) rfl rfl (vk rfl)) rfl ?_
    refine AOps.nil ?_
    refine AW.block ?_
    refine AW.loopG (d := []) (ν := (List Bool) × Nat × (List Int) × Value) (fun n => Sfx (Vector.toList b5) n.2.1 n.1 ∧ F25_l2 n.1 n.2.1 n.2.2.1 = some r) (fun n => n.1.length) (fun n => [(8, raw n.2.2.2), (33, rd (karr 7 kbool) b5), (34, rd (kint .i64) (n.2.1 : Int))]) (fun n => [(1002, Row n.2.2.2 3 (kint .i64) n.2.2.1)]) ((Vector.toList b5), 0, [], (.slice none 0 0)) ⟨Sfx.start _, h⟩ ⟨rfl, ⟨rfl, rfl, rfl, trivial⟩, ⟨rfl, trivial⟩⟩ ?_
    rintro ⟨l13, i12, l10, v11⟩ ⟨hsf2, h⟩
    change Sfx (Vector.toList b5) i12 l13 at hsf2
    change F25_l2 l13 i12 l10 = some r at h
    change AW _ _ _ ⟨slots [(8, raw v11), (33, rd (karr 7 kbool) b5), (34, rd (kint .i64) (i12 : Int))], ress [(1002, Row v11 3 (kint .i64) l10)], _⟩
    cases l13 with
    | nil =>
      unfold F25_l2 at h
      refine AW.seq ?_
      refine AW.region ?_
      refine AOps.cons (op_lss rfl rfl (vt rfl) (vk rfl)) rfl ?_
      refine AOps.nil ?_
      refine AW.seq ?_
      refine AW.cond (vt rfl) (fun hc => absurd (of_decide_eq_true hc) (hsf2.niln (by simp))) (fun hc => ?_)
      refine AW.exit ?_
      refine AW.seq ?_
      refine AW.region ?_
      refine AOps.cons (op_move (A := raw v11) rfl rfl (vt rfl)) rfl ?_
      refine AOps.cons (op_assign (A := raw v11) rfl rfl (vt rfl)) rfl ?_
      refine AOps.nil ?_
      refine AW.ret ?_
      obtain rfl := Option.some.inj h
      exact ret1R (i := 1002) Try.results25 rfl rfl rfl
    | cons x14 l13 =>
      unfold F25_l2 at h
      generalize hgo2 : F25_l2 l13 = go2 at h
      refine AW.seq ?_
      refine AW.region ?_
      refine AOps.cons (op_lss rfl rfl (vt rfl) (vk rfl)) rfl ?_
      refine AOps.nil ?_
      refine AW.seq ?_
      refine AW.cond (vt rfl) (fun hc => ?_) (fun hc => absurd (hsf2.consn (by simp)) (of_decide_eq_false hc))
      have hlti12 := of_decide_eq_true hc
      refine AW.skip ?_
      refine AW.seq ?_
      refine AW.block ?_
      refine AW.seq ?_
      refine AW.region ?_
      refine AOps.cons (op_move (A := rd (kint .i64) (i12 : Int)) rfl rfl (vt rfl)) rfl ?_
      refine AOps.cons (op_indexv rfl rfl ar114 ty4 (vt rfl) (vt rfl) hsf2.lget) rfl ?_
      refine AOps.cons (op_assign (A := rd (kint .i64) (i12 : Int)) rfl rfl (vt rfl)) rfl ?_
      refine AOps.cons (op_assign (A := rd kbool x14) rfl rfl (vt rfl)) rfl ?_
      refine AOps.nil ?_
      refine AW.seq ?_
      refine AW.region ?_
      refine AOps.cons (op_move (A := rd (kint .i64) (i12 : Int)) rfl rfl (vt rfl)) rfl ?_
      refine AOps.cons (op_gtr rfl rfl (vt rfl) (vk rfl)) rfl ?_
      refine AOps.cons (op_move (A := rd kbool (decide ((i12 : Int) > 0))) rfl rfl (vt rfl)) rfl ?_
      refine AOps.consG (OpG.guard rfl rfl rfl rfl rfl fun hq => op_move (A := rd kbool x14) rfl rfl (vt rfl)) ?_
      refine AOps.cons (op_all rfl rfl (vt rfl) (vt rfl)) rfl ?_
      refine AOps.nil ?_
      refine AW.cond (vt rfl) (fun hc => ?_) (fun hc => ?_)
      · have h := cond_t hc h
        obtain ⟨l15, hl15, h⟩ := bsome h
        refine AW.region ?_
        refine AOps.cons (op_move (A := raw v11) rfl rfl (vt rfl)) rfl ?_
        refine AOps.cons (op_move (A := rd (kint .i64) (i12 : Int)) rfl rfl (vt rfl)) rfl ?_
        refine AOps.cons (op_buildSliceR (ps := [(0, .tmp 44)]) (l := [(i12 : Int)]) rfl rfl sl29 zr3 rfl rfl ⟨_, _, Lens.idx 1 (kint .i64) 0 (by decide), _, rfl, (vt rfl), rfl⟩ rfl) rfl ?_
        refine AOps.consT rfl (op_append' 1002 hl15 rfl rfl el29 (vt rfl) rfl (vt rfl)) ?_
        rintro _ ⟨v16, rfl⟩
        refine AOps.cons (op_assign (A := raw v16) rfl rfl (vt rfl)) rfl ?_
        refine AOps.nil ?_
        refine AW.region ?_
        refine AOps.cons (op_incrc rfl rfl (vt rfl) (vk rfl) rfl hlti12) rfl ?_
        refine AOps.cons (op_move (A := rd (kint .i64) ((i12 + 1 : Nat) : Int)) rfl rfl (vt rfl)) rfl ?_
        refine AOps.nil ?_
        subst hgo2
        exact ⟨(l13, i12 + 1, l15, v16), Nat.lt_succ_self _, ⟨hsf2.next, h⟩, ⟨rfl, ⟨rfl, rfl, rfl, trivial⟩, ⟨rfl, trivial⟩⟩⟩
      · have h := cond_f hc h
        refine AW.skip ?_
        refine AW.region ?_
        refine AOps.cons (op_incrc rfl rfl (vt rfl) (vk rfl) rfl hlti12) rfl ?_
        refine AOps.cons (op_move (A := rd (kint .i64) ((i12 + 1 : Nat) : Int)) rfl rfl (vt rfl)) rfl ?_
        refine AOps.nil ?_
        subst hgo2
        exact ⟨(l13, i12 + 1, l10, v11), Nat.lt_succ_self _, ⟨hsf2.next, h⟩, ⟨rfl, ⟨rfl, rfl, rfl, trivial⟩, ⟨rfl, trivial⟩⟩⟩
  | cons x17 l7 =>
    unfold F25_l1 at h
    generalize hgo1 : F25_l1 l7 = go1 at h
    refine AW.seq ?_
    refine AW.region ?_
    refine AOps.cons (op_lss rfl rfl (vt rfl) (vt rfl)) rfl ?_
    refine AOps.nil ?_
    refine AW.seq ?_
    refine AW.cond (vt rfl) (fun hc => ?_) (fun hc => absurd hsf1.cons (of_decide_eq_false hc))
    have hlti6 := of_decide_eq_true hc
    refine AW.skip ?_
    refine AW.seq ?_
    refine AW.block ?_
    refine AW.seq ?_
    refine AW.region ?_
    refine AOps.cons (op_indexs' rfl rfl sl22 (vt rfl) (vt rfl) hsf1.lget) rfl ?_
    refine AOps.cons (op_loadp rfl rfl ty40 (vt rfl)) rfl ?_
    refine AOps.consT rfl (op_alloc 6 rfl rfl zr40) ?_
    rintro _ ⟨g18, rfl⟩
    refine AOps.cons (op_store rfl rfl ty40 (vt rfl) (i := 6) rfl (vt rfl)) rfl ?_
    refine AOps.nil ?_
    refine AW.seq ?_
    refine AW.region ?_
    refine AOps.cons (op_field lGroup_2 rfl rfl fl40_2 (vt rfl)) rfl ?_
    refine AOps.cons (op_load rfl rfl ty38 (vt rfl) (i := 6) rfl) rfl ?_
    refine AOps.cons (op_len' rfl rfl sl38 (vt rfl)) rfl ?_
    refine AOps.cons (op_move (A := rd (kint .i64) 0) rfl rfl (vk rfl)) rfl ?_
    refine AOps.nil ?_
    refine AW.block ?_
    refine AW.loopG (d := []) (ν := (List Bucket) × Nat × (Vector Bool 7)) (fun n => Sfx x17.Buckets n.2.1 n.1 ∧ F25_l3 go1 i6 n.1 n.2.1 n.2.2 = some r) (fun n => n.1.length) (fun n => [(3, ptrL g2 (Lens.id (karr 7 kbool))), (12, rd (ksl kGroup) x3), (13, rd (kint .i64) (x3.length : Int)), (14, rd (kint .i64) (i6 : Int)), (19, rd (ksl kBucket) x17.Buckets), (20, rd (kint .i64) (x17.Buckets.length : Int)), (21, rd (kint .i64) (n.2.1 : Int))]) (fun n => [(4, Blk g2 114 (karr 7 kbool) n.2.2)]) (x17.Buckets, 0, b5) ⟨Sfx.start _, h⟩ ⟨rfl, ⟨rfl, rfl, rfl, rfl, rfl, rfl, rfl, trivial⟩, ⟨rfl, trivial⟩⟩ ?_
    rintro ⟨l22, i21, b20⟩ ⟨hsf3, h⟩
    change Sfx x17.Buckets i21 l22 at hsf3
    change F25_l3 go1 i6 l22 i21 b20 = some r at h
    change AW _ _ _ ⟨slots [(3, ptrL g2 (Lens.id (karr 7 kbool))), (12, rd (ksl kGroup) x3), (13, rd (kint .i64) (x3.length : Int)), (14, rd (kint .i64) (i6 : Int)), (19, rd (ksl kBucket) x17.Buckets), (20, rd (kint .i64) (x17.Buckets.length : Int)), (21, rd (kint .i64) (i21 : Int))], ress [(4, Blk g2 114 (karr 7 kbool) b20)], _⟩
    cases l22 with
    | nil =>
      unfold F25_l3 at h
      refine AW.seq ?_
      refine AW.region ?_
      refine AOps.cons (op_lss rfl rfl (vt rfl) (vt rfl)) rfl ?_
      refine AOps.nil ?_
      refine AW.seq ?_
      refine AW.cond (vt rfl) (fun hc => absurd (of_decide_eq_true hc) hsf3.nil) (fun hc => ?_)
      refine AW.exit ?_
      refine AW.region ?_
      refine AOps.cons (op_incr (t := 13) rfl rfl (vt rfl) (vk rfl) (vt rfl) hlti6) rfl ?_
      refine AOps.cons (op_move (A := rd (kint .i64) ((i6 + 1 : Nat) : Int)) rfl rfl (vt rfl)) rfl ?_
      refine AOps.nil ?_
      subst hgo1
      exact ⟨(l7, i6 + 1, b20), Nat.lt_succ_self _, ⟨hsf1.next, h⟩, ⟨rfl, ⟨rfl, rfl, rfl, rfl, trivial⟩, ⟨rfl, trivial⟩⟩⟩
    | cons x23 l22 =>
      unfold F25_l3 at h
      generalize hgo3 : F25_l3 go1 i6 l22 = go3 at h
      refine AW.seq ?_
      refine AW.region ?_
      refine AOps.cons (op_lss rfl rfl (vt rfl) (vt rfl)) rfl ?_
      refine AOps.nil ?_
      refine AW.seq ?_
      refine AW.cond (vt rfl) (fun hc => ?_) (fun hc => absurd hsf3.cons (of_decide_eq_false hc))
      have hlti21 := of_decide_eq_true hc
      refine AW.skip ?_
      refine AW.seq ?_
      refine AW.block ?_
      refine AW.seq ?_
      refine AW.region ?_
      refine AOps.cons (op_indexs' rfl rfl sl38 (vt rfl) (vt rfl) hsf3.lget) rfl ?_
      refine AOps.cons (op_loadp rfl rfl ty104 (vt rfl)) rfl ?_
      refine AOps.consT rfl (op_alloc 8 rfl rfl zr104) ?_
      rintro _ ⟨g24, rfl⟩
      refine AOps.cons (op_store rfl rfl ty104 (vt rfl) (i := 8) rfl (vt rfl)) rfl ?_
      refine AOps.nil ?_
      obtain ⟨q25, hq25, h⟩ := bsome h
      obtain ⟨j26, hj26, h⟩ := bsome h
      refine AW.region ?_
      refine AOps.cons (op_field lBucket_1 rfl rfl fl104_1 (vt rfl)) rfl ?_
      refine AOps.cons (op_load rfl rfl ty3 (vt rfl) (i := 8) rfl) rfl ?_
      refine AOps.cons (op_min rfl rfl (vt rfl) (vk rfl)) rfl ?_
      refine AOps.cons (op_max rfl rfl (vt rfl) (vk rfl)) rfl ?_
      refine AOps.cons (op_rem rfl rfl (vt rfl) (vk rfl) hq25) rfl ?_
      refine AOps.cons (op_index' rfl rfl ar114 (vt rfl) (vt rfl) hj26) rfl ?_
      refine AOps.cons (op_store rfl rfl ty4 (vt rfl) (i := 4) rfl vb) rfl ?_
      refine AOps.nil ?_
      refine AW.region ?_
      refine AOps.cons (op_incr (t := 20) rfl rfl (vt rfl) (vk rfl) (vt rfl) hlti21) rfl ?_
      refine AOps.cons (op_move (A := rd (kint .i64) ((i21 + 1 : Nat) : Int)) rfl rfl (vt rfl)) rfl ?_
      refine AOps.nil ?_
      subst hgo3
      exact ⟨(l22, i21 + 1, (Vector.set b20 j26.1 true j26.2)), Nat.lt_succ_self _, ⟨hsf3.next, h⟩, ⟨rfl, ⟨rfl, rfl, rfl, rfl, rfl, rfl, rfl, trivial⟩, ⟨rfl, trivial⟩⟩⟩
theorem c25 (l1 : (List Group)) (r : (List Int)) (h : F25 l1 = some r) : PCon Try.prog 25 [rd (ksl kGroup) l1] (rd (ksl (kint .i64)) r) := PCon.of_row (c25o l1 r h)
-- weirbox/envs.common
def F73_l1 : Nat → Int → Int → Option Int
  | 0, _, _ => none
  | m7 + 1, a5, b6 => (bif (decide (b6 > 0)) then (omod a5 b6).bind fun q8 => (F73_l1 m7) b6 q8 else some a5)
def F73 (a1 : Int) (b2 : Int) : Option Int :=
  F73_l1 (((b2 : Int) - 0).toNat + 1) a1 b2
theorem c73 (a1 : Int) (b2 : Int) (r : Int) (h : F73 a1 b2 = some r) : PCon Try.prog 73 [rd (kint .i64) a1, rd (kint .i64) b2] (rd (kint .i64) r) := by
  refine PCon.of (Con.intro0 Try.func73 rfl Try.ntmps73 rfl fun w H => ?_)
  unfold F73 at h
  refine AW.seq ?_
  refine AW.region ?_
  refine AOps.cons (op_assign (A := rd (kint .i64) 0) rfl rfl (vk rfl)) rfl ?_
  refine AOps.nil ?_
  refine AW.seq ?_
  refine AW.block ?_
  refine AW.loopG (d := []) (ν := Nat × Int × Int) (fun n => True ∧ F73_l1 n.1 n.2.1 n.2.2 = some r) (fun n => n.1) (fun n => [(0, rd (kint .i64) n.2.1), (1, rd (kint .i64) n.2.2)]) (fun n => []) ((((b2 : Int) - 0).toNat + 1), a1, b2) ⟨trivial, h⟩ ⟨rfl, ⟨rfl, rfl, trivial⟩, trivial⟩ ?_
  rintro ⟨m7, a5, b6⟩ ⟨hsf1, h⟩
  change True at hsf1
  change F73_l1 m7 a5 b6 = some r at h
  change AW _ _ _ ⟨slots [(0, rd (kint .i64) a5), (1, rd (kint .i64) b6)], ress [], _⟩
  cases m7 with
  | zero => cases h
  | succ m7 =>
    unfold F73_l1 at h
    generalize hgo1 : F73_l1 m7 = go1 at h
    refine AW.seq ?_
    refine AW.seq ?_
    refine AW.region ?_
    refine AOps.cons (op_move (A := rd (kint .i64) b6) rfl rfl (vt rfl)) rfl ?_
    refine AOps.cons (op_gtr rfl rfl (vt rfl) (vk rfl)) rfl ?_
    refine AOps.nil ?_
    refine AW.cond (vt rfl) (fun hc => ?_) (fun hc => ?_)
    · have h := cond_t hc h
      refine AW.skip ?_
      refine AW.block ?_
      obtain ⟨q8, hq8, h⟩ := bsome h
      refine AW.regionAny [⟨[1], [7], [], []⟩, ⟨[0], [8], [], []⟩, ⟨[1], [9], [], []⟩, ⟨[8, 9], [10], [], []⟩, ⟨[7], [0], [], []⟩, ⟨[10], [1], [], []⟩] mixed (by kernel_rfl) ?_
      refine SeqA.cons (loc [1] [] rfl rfl fun S hs hr => op_move (A := rd (kint .i64) b6) rfl rfl (vt ((hs 1 rfl).trans rfl))) ⟨rfl, rfl, rfl, rfl⟩ ?_
      refine SeqA.cons (loc [0] [] rfl rfl fun S hs hr => op_move (A := rd (kint .i64) a5) rfl rfl (vt ((hs 0 rfl).trans rfl))) ⟨rfl, rfl, rfl, rfl⟩ ?_
      refine SeqA.cons (loc [1] [] rfl rfl fun S hs hr => op_move (A := rd (kint .i64) b6) rfl rfl (vt ((hs 1 rfl).trans rfl))) ⟨rfl, rfl, rfl, rfl⟩ ?_
      refine SeqA.cons (loc [8, 9] [] rfl rfl fun S hs hr => op_rem rfl rfl (vt ((hs 8 rfl).trans rfl)) (vt ((hs 9 rfl).trans rfl)) hq8) ⟨rfl, rfl, rfl, rfl⟩ ?_
      refine SeqA.cons (loc [7] [] rfl rfl fun S hs hr => op_assign (A := rd (kint .i64) b6) rfl rfl (vt ((hs 7 rfl).trans rfl))) ⟨rfl, rfl, rfl, rfl⟩ ?_
      refine SeqA.cons (loc [10] [] rfl rfl fun S hs hr => op_assign (A := rd (kint .i64) q8) rfl rfl (vt ((hs 10 rfl).trans rfl))) ⟨rfl, rfl, rfl, rfl⟩ ?_
      subst hgo1
      exact ⟨(m7, b6, q8), Nat.lt_succ_self _, ⟨trivial, h⟩, ⟨rfl, ⟨rfl, rfl, trivial⟩, trivial⟩⟩
    · have h := cond_f hc h
      refine AW.exit ?_
      refine AW.seq ?_
      refine AW.region ?_
      refine AOps.cons (op_move (A := rd (kint .i64) a5) rfl rfl (vt rfl)) rfl ?_
      refine AOps.cons (op_assign (A := rd (kint .i64) a5) rfl rfl (vt rfl)) rfl ?_
      refine AOps.nil ?_
      refine AW.ret ?_
      obtain rfl := Option.some.inj h
      exact ret1 Try.results73 rfl (out_tmp rfl)
-- weirbox/envs.Turns
def F27_l1 : (List Group) → Nat → Int → Option Int
  | [], i5, n4 => some n4
  | x7 :: l6, i5, n4 => (bif ((decide ((x7.Buckets.length : Int) ≥ 1)) && (decide ((x7.Buckets.length : Int) ≤ 4))) then (F73 n4 (x7.Buckets.length : Int)).bind fun x9 => (oquo .i64 n4 x9).bind fun q10 => (F27_l1 l6) (i5 + 1) (IntKind.i64.wrap (q10 * (x7.Buckets.length : Int))) else (F27_l1 l6) (i5 + 1) n4)
def F27 (l1 : (List Group)) : Option Int :=
  (F72 l1 1).bind fun x2 => F27_l1 x2 0 1
theorem c27 (l1 : (List Group)) (r : Int) (h : F27 l1 = some r) : PCon Try.prog 27 [rd (ksl kGroup) l1] (rd (kint .i64) r) := by
  refine PCon.of (Con.intro0 Try.func27 rfl Try.ntmps27 rfl fun w H => ?_)
  unfold F27 at h
  refine AW.seq ?_
  refine AW.region ?_
  refine AOps.cons (op_assign (A := rd (kint .i64) 0) rfl rfl (vk rfl)) rfl ?_
  refine AOps.nil ?_
  refine AW.seq ?_
  refine AW.region ?_
  refine AOps.cons (op_assign (A := rd (kint .i64) 1) rfl rfl (vk rfl)) rfl ?_
  refine AOps.nil ?_
  refine AW.seq ?_
  refine AW.seq ?_
  obtain ⟨x2, hx2, h⟩ := bsome h
  refine AW.region ?_
  refine AOps.cons (op_move (A := rd (ksl kGroup) l1) rfl rfl (vt rfl)) rfl ?_
  refine AOps.cons (op_call (xs := [.tmp 7, .const (Value.int IntKind.i64 1)]) (c72 _ _ _ hx2) (Ent.mk Try.func72 rfl rfl) rfl rfl ⟨vt rfl, vk rfl, trivial⟩) rfl ?_
  refine AOps.cons (op_len' rfl rfl sl22 (vt rfl)) rfl ?_
  refine AOps.cons (op_move (A := rd (kint .i64) 0) rfl rfl (vk rfl)) rfl ?_
  refine AOps.nil ?_
  refine AW.block ?_
  refine AW.loopG (d := []) (ν := (List Group) × Nat × Int) (fun n => Sfx x2 n.2.1 n.1 ∧ F27_l1 n.1 n.2.1 n.2.2 = some r) (fun n => n.1.length) (fun n => [(3, rd (kint .i64) n.2.2), (8, rd (ksl kGroup) x2), (9, rd (kint .i64) (x2.length : Int)), (10, rd (kint .i64) (n.2.1 : Int))]) (fun n => []) (x2, 0, 1) ⟨Sfx.start _, h⟩ ⟨rfl, ⟨rfl, rfl, rfl, rfl, trivial⟩, trivial⟩ ?_
  rintro ⟨l6, i5, n4⟩ ⟨hsf1, h⟩
  change Sfx x2 i5 l6 at hsf1
  change F27_l1 l6 i5 n4 = some r at h
  change AW _ _ _ ⟨slots [(3, rd (kint .i64) n4), (8, rd (ksl kGroup) x2), (9, rd (kint .i64) (x2.length : Int)), (10, rd (kint .i64) (i5 : Int))], ress [], _⟩
  cases l6 with
  | nil =>
    unfold F27_l1 at h
    refine AW.seq ?_
    refine AW.region ?_
    refine AOps.cons (op_lss rfl rfl (vt rfl) (vt rfl)) rfl ?_
    refine AOps.nil ?_
    refine AW.seq ?_
    refine AW.cond (vt rfl) (fun hc => absurd (of_decide_eq_true hc) hsf1.nil) (fun hc => ?_)
    refine AW.exit ?_
    refine AW.seq ?_
    refine AW.region ?_
    refine AOps.cons (op_move (A := rd (kint .i64) n4) rfl rfl (vt rfl)) rfl ?_
    refine AOps.cons (op_assign (A := rd (kint .i64) n4) rfl rfl (vt rfl)) rfl ?_
    refine AOps.nil ?_
    refine AW.ret ?_
    obtain rfl := Option.some.inj h
    exact ret1 Try.results27 rfl (out_tmp rfl)
  | cons x7 l6 =>
    unfold F27_l1 at h
    generalize hgo1 : F27_l1 l6 = go1 at h
    refine AW.seq ?_
    refine AW.region ?_
    refine AOps.cons (op_lss rfl rfl (vt rfl) (vt rfl)) rfl ?_
    refine AOps.nil ?_
    refine AW.seq ?_
    refine AW.cond (vt rfl) (fun hc => ?_) (fun hc => absurd hsf1.cons (of_decide_eq_false hc))
    have hlti5 := of_decide_eq_true hc
    refine AW.skip ?_
    refine AW.seq ?_
    refine AW.block ?_
    refine AW.seq ?_
    refine AW.region ?_
    refine AOps.cons (op_indexs' rfl rfl sl22 (vt rfl) (vt rfl) hsf1.lget) rfl ?_
    refine AOps.cons (op_loadp rfl rfl ty40 (vt rfl)) rfl ?_
    refine AOps.consT rfl (op_alloc 6 rfl rfl zr40) ?_
    rintro _ ⟨g8, rfl⟩
    refine AOps.cons (op_store rfl rfl ty40 (vt rfl) (i := 6) rfl (vt rfl)) rfl ?_
    refine AOps.nil ?_
    refine AW.seq ?_
    refine AW.region ?_
    refine AOps.cons (op_field lGroup_2 rfl rfl fl40_2 (vt rfl)) rfl ?_
    refine AOps.cons (op_load rfl rfl ty38 (vt rfl) (i := 6) rfl) rfl ?_
    refine AOps.cons (op_len' rfl rfl sl38 (vt rfl)) rfl ?_
    refine AOps.cons (op_assign (A := rd (kint .i64) (x7.Buckets.length : Int)) rfl rfl (vt rfl)) rfl ?_
    refine AOps.nil ?_
    refine AW.seq ?_
    refine AW.region ?_
    refine AOps.cons (op_move (A := rd (kint .i64) (x7.Buckets.length : Int)) rfl rfl (vt rfl)) rfl ?_
    refine AOps.cons (op_geq rfl rfl (vt rfl) (vk rfl)) rfl ?_
    refine AOps.cons (op_move (A := rd kbool (decide ((x7.Buckets.length : Int) ≥ 1))) rfl rfl (vt rfl)) rfl ?_
    refine AOps.consG (OpG.guard rfl rfl rfl rfl rfl fun hq => op_move (A := rd (kint .i64) (x7.Buckets.length : Int)) rfl rfl (vt rfl)) ?_
    refine AOps.consG (OpG.guard rfl rfl rfl rfl rfl fun hq => op_leq rfl rfl (vgt rfl hq) (vk rfl)) ?_
    refine AOps.cons (op_all rfl rfl (vt rfl) (vt rfl)) rfl ?_
    refine AOps.nil ?_
    refine AW.cond (vt rfl) (fun hc => ?_) (fun hc => ?_)
    · have h := cond_t hc h
      obtain ⟨x9, hx9, h⟩ := bsome h
      obtain ⟨q10, hq10, h⟩ := bsome h
      refine AW.region ?_
      refine AOps.cons (op_move (A := rd (kint .i64) n4) rfl rfl (vt rfl)) rfl ?_
      refine AOps.cons (op_move (A := rd (kint .i64) n4) rfl rfl (vt rfl)) rfl ?_
      refine AOps.cons (op_move (A := rd (kint .i64) (x7.Buckets.length : Int)) rfl rfl (vt rfl)) rfl ?_
      refine AOps.cons (op_call (xs := [.tmp 24, .tmp 25]) (c73 _ _ _ hx9) (Ent.mk Try.func73 rfl rfl) rfl rfl ⟨vt rfl, vt rfl, trivial⟩) rfl ?_
      refine AOps.cons (op_quo rfl rfl (vt rfl) (vt rfl) hq10) rfl ?_
      refine AOps.cons (op_move (A := rd (kint .i64) (x7.Buckets.length : Int)) rfl rfl (vt rfl)) rfl ?_
      refine AOps.cons (op_mul rfl rfl (vt rfl) (vt rfl)) rfl ?_
      refine AOps.cons (op_assign (A := rd (kint .i64) (IntKind.i64.wrap (q10 * (x7.Buckets.length : Int)))) rfl rfl (vt rfl)) rfl ?_
      refine AOps.nil ?_
      refine AW.region ?_
      refine AOps.cons (op_incr (t := 9) rfl rfl (vt rfl) (vk rfl) (vt rfl) hlti5) rfl ?_
      refine AOps.cons (op_move (A := rd (kint .i64) ((i5 + 1 : Nat) : Int)) rfl rfl (vt rfl)) rfl ?_
      refine AOps.nil ?_
      subst hgo1
      exact ⟨(l6, i5 + 1, (IntKind.i64.wrap (q10 * (x7.Buckets.length : Int)))), Nat.lt_succ_self _, ⟨hsf1.next, h⟩, ⟨rfl, ⟨rfl, rfl, rfl, rfl, trivial⟩, trivial⟩⟩
    · have h := cond_f hc h
      refine AW.skip ?_
      refine AW.region ?_
      refine AOps.cons (op_incr (t := 9) rfl rfl (vt rfl) (vk rfl) (vt rfl) hlti5) rfl ?_
      refine AOps.cons (op_move (A := rd (kint .i64) ((i5 + 1 : Nat) : Int)) rfl rfl (vt rfl)) rfl ?_
      refine AOps.nil ?_
      subst hgo1
      exact ⟨(l6, i5 + 1, n4), Nat.lt_succ_self _, ⟨hsf1.next, h⟩, ⟨rfl, ⟨rfl, rfl, rfl, rfl, trivial⟩, trivial⟩⟩
-- weirbox/envs.down
def F71_l1 (n2 : Int) : (List Int) → Nat → (List Int) → Option (List Int)
  | [], i7, l5 => some l5
  | x9 :: l8, i7, l5 => (oshr .i64 n2 (i7 : Int)).bind fun q10 => (bif (decide ((ibits .and .i64 q10 1) = 1)) then (appd l5 [x9]).bind fun l11 => (F71_l1 n2 l8) (i7 + 1) l11 else (F71_l1 n2 l8) (i7 + 1) l5)
def F71 (ports1 : (List Int)) (n2 : Int) : Option (List Int) :=
  F71_l1 n2 ports1 0 []
theorem c71 (ports1 : (List Int)) (n2 : Int) (r : (List Int)) (h : F71 ports1 n2 = some r) : PCon Try.prog 71 [rd (ksl (kint .i64)) ports1, rd (kint .i64) n2] (rd (ksl (kint .i64)) r) := by
  refine PCon.of (Con.intro0 Try.func71 rfl Try.ntmps71 rfl fun w H => ?_)
  unfold F71 at h
  refine AW.seq ?_
  refine AW.region ?_
  refine AOps.cons (op_assign (A := rd (ksl (kint .i64)) []) rfl rfl vnil) rfl ?_
  refine AOps.nil ?_
  refine AW.seq ?_
  refine AW.newnil 1001 3 (kint .i64) ?_
  refine AW.region ?_
  refine AOps.cons (op_assign rfl rfl vc) rfl ?_
  refine AOps.nil ?_
  refine AW.seq ?_
  refine AW.seq ?_
  refine AW.region ?_
  refine AOps.cons (op_move (A := rd (ksl (kint .i64)) ports1) rfl rfl (vt rfl)) rfl ?_
  refine AOps.cons (op_len' rfl rfl sl29 (vt rfl)) rfl ?_
  refine AOps.cons (op_move (A := rd (kint .i64) 0) rfl rfl (vk rfl)) rfl ?_
  refine AOps.nil ?_
  refine AW.block ?_
  refine AW.loopG (d := []) (ν := (List Int) × Nat × (List Int) × Value) (fun n => Sfx ports1 n.2.1 n.1 ∧ F71_l1 n2 n.1 n.2.1 n.2.2.1 = some r) (fun n => n.1.length) (fun n => [(1, rd (kint .i64) n2), (5, raw n.2.2.2), (8, rd (ksl (kint .i64)) ports1), (9, rd (kint .i64) (ports1.length : Int)), (10, rd (kint .i64) (n.2.1 : Int))]) (fun n => [(1001, Row n.2.2.2 3 (kint .i64) n.2.2.1)]) (ports1, 0, [], (.slice none 0 0)) ⟨Sfx.start _, h⟩ ⟨rfl, ⟨rfl, rfl, rfl, rfl, rfl, trivial⟩, ⟨rfl, trivial⟩⟩ ?_
  rintro ⟨l8, i7, l5, v6⟩ ⟨hsf1, h⟩
  change Sfx ports1 i7 l8 at hsf1
  change F71_l1 n2 l8 i7 l5 = some r at h
  change AW _ _ _ ⟨slots [(1, rd (kint .i64) n2), (5, raw v6), (8, rd (ksl (kint .i64)) ports1), (9, rd (kint .i64) (ports1.length : Int)), (10, rd (kint .i64) (i7 : Int))], ress [(1001, Row v6 3 (kint .i64) l5)], _⟩
  cases l8 with
  | nil =>
    unfold F71_l1 at h
    refine AW.seq ?_
    refine AW.region ?_
    refine AOps.cons (op_lss rfl rfl (vt rfl) (vt rfl)) rfl ?_
    refine AOps.nil ?_
    refine AW.seq ?_
    refine AW.cond (vt rfl) (fun hc => absurd (of_decide_eq_true hc) hsf1.nil) (fun hc => ?_)
    refine AW.exit ?_
    refine AW.seq ?_
    refine AW.region ?_
    refine AOps.cons (op_move (A := raw v6) rfl rfl (vt rfl)) rfl ?_
    refine AOps.cons (op_assign (A := raw v6) rfl rfl (vt rfl)) rfl ?_
    refine AOps.nil ?_
    refine AW.freezes [4, 5, 25] 1001 rfl ⟨rfl, rfl, rfl, trivial⟩ rfl ?_
    refine AW.ret ?_
    obtain rfl := Option.some.inj h
    exact ret1 Try.results71 rfl (out_tmp rfl)
  | cons x9 l8 =>
    unfold F71_l1 at h
    generalize hgo1 : F71_l1 n2 l8 = go1 at h
    refine AW.seq ?_
    refine AW.region ?_
    refine AOps.cons (op_lss rfl rfl (vt rfl) (vt rfl)) rfl ?_
    refine AOps.nil ?_
    refine AW.seq ?_
    refine AW.cond (vt rfl) (fun hc => ?_) (fun hc => absurd hsf1.cons (of_decide_eq_false hc))
    have hlti7 := of_decide_eq_true hc
    refine AW.skip ?_
    refine AW.seq ?_
    refine AW.block ?_
    refine AW.seq ?_
    refine AW.region ?_
    refine AOps.cons (op_move (A := rd (kint .i64) (i7 : Int)) rfl rfl (vt rfl)) rfl ?_
    refine AOps.cons (op_indexs' rfl rfl sl29 (vt rfl) (vt rfl) hsf1.lget) rfl ?_
    refine AOps.cons (op_loadp rfl rfl ty3 (vt rfl)) rfl ?_
    refine AOps.cons (op_assign (A := rd (kint .i64) (i7 : Int)) rfl rfl (vt rfl)) rfl ?_
    refine AOps.cons (op_assign (A := rd (kint .i64) x9) rfl rfl (vt rfl)) rfl ?_
    refine AOps.nil ?_
    refine AW.seq ?_
    obtain ⟨q10, hq10, h⟩ := bsome h
    refine AW.region ?_
    refine AOps.cons (op_move (A := rd (kint .i64) n2) rfl rfl (vt rfl)) rfl ?_
    refine AOps.cons (op_move (A := rd (kint .i64) (i7 : Int)) rfl rfl (vt rfl)) rfl ?_
    refine AOps.cons (op_shr rfl rfl (vt rfl) (vt rfl) hq10) rfl ?_
    refine AOps.cons (op_iand rfl rfl (vt rfl) (vk rfl)) rfl ?_
    refine AOps.cons (op_eql rfl rfl (vt rfl) (vk rfl)) rfl ?_
    refine AOps.nil ?_
    refine AW.cond (vt rfl) (fun hc => ?_) (fun hc => ?_)
    · have h := cond_t hc h
      obtain ⟨l11, hl11, h⟩ := bsome h
      refine AW.region ?_
      refine AOps.cons (op_move (A := raw v6) rfl rfl (vt rfl)) rfl ?_
      refine AOps.cons (op_move (A := rd (kint .i64) x9) rfl rfl (vt rfl)) rfl ?_
      refine AOps.cons (op_buildSliceR (ps := [(0, .tmp 21)]) (l := [x9]) rfl rfl sl29 zr3 rfl rfl ⟨_, _, Lens.idx 1 (kint .i64) 0 (by decide), _, rfl, (vt rfl), rfl⟩ rfl) rfl ?_
      refine AOps.consT rfl (op_append' 1001 hl11 rfl rfl el29 (vt rfl) rfl (vt rfl)) ?_
      rintro _ ⟨v12, rfl⟩
      refine AOps.cons (op_assign (A := raw v12) rfl rfl (vt rfl)) rfl ?_
      refine AOps.nil ?_
      refine AW.region ?_
      refine AOps.cons (op_incr (t := 9) rfl rfl (vt rfl) (vk rfl) (vt rfl) hlti7) rfl ?_
      refine AOps.cons (op_move (A := rd (kint .i64) ((i7 + 1 : Nat) : Int)) rfl rfl (vt rfl)) rfl ?_
      refine AOps.nil ?_
      subst hgo1
      exact ⟨(l8, i7 + 1, l11, v12), Nat.lt_succ_self _, ⟨hsf1.next, h⟩, ⟨rfl, ⟨rfl, rfl, rfl, rfl, rfl, trivial⟩, ⟨rfl, trivial⟩⟩⟩
    · have h := cond_f hc h
      refine AW.skip ?_
      refine AW.region ?_
      refine AOps.cons (op_incr (t := 9) rfl rfl (vt rfl) (vk rfl) (vt rfl) hlti7) rfl ?_
      refine AOps.cons (op_move (A := rd (kint .i64) ((i7 + 1 : Nat) : Int)) rfl rfl (vt rfl)) rfl ?_
      refine AOps.nil ?_
      subst hgo1
      exact ⟨(l8, i7 + 1, l5, v6), Nat.lt_succ_self _, ⟨hsf1.next, h⟩, ⟨rfl, ⟨rfl, rfl, rfl, rfl, rfl, trivial⟩, ⟨rfl, trivial⟩⟩⟩
-- weirbox/envs.Of$1
def F70_l2 (sg : Type) (go1 : Nat → (Lp sg) → Option (Lp sg)) (i8 : Nat) (x4 : (List Int)) (yield1 : (sg → Env → Option (Lp sg))) : Nat → Nat → (Lp sg) → Option (Lp sg)
  | 0, i13, s12 => go1 (i8 + 1) s12
  | m14 + 1, i13, s12 => (F71 x4 (i13 : Int)).bind fun x15 => (yc yield1 s12 (⟨(i8 : Int), x15⟩ : Env)).bind fun s16 => (bif (!(Lp.isGo s16)) then some s16 else (F70_l2 sg go1 i8 x4 yield1 m14) (i13 + 1) s16)
def F70_l1 (sg : Type) (x4 : (List Int)) (yield1 : (sg → Env → Option (Lp sg))) : Nat → Nat → (Lp sg) → Option (Lp sg)
  | 0, i8, s7 => some s7
  | m9 + 1, i8, s7 => (oshl .i64 1 (x4.length : Int)).bind fun q10 => F70_l2 sg (F70_l1 sg x4 yield1 m9) i8 x4 yield1 (q10 : Int).toNat 0 s7
def F70 (sg : Type) (yield1 : (sg → Env → Option (Lp sg))) (s2 : (Lp sg)) (c3 : (List Group)) : Option (Lp sg) :=
  (F25 c3).bind fun x4 => (F27 c3).bind fun x5 => F70_l1 sg x4 yield1 (x5 : Int).toNat 0 s2
theorem c70 (sg : Type) (yield1 : (sg → Env → Option (Lp sg))) (L : Lp sg → Res) (s2 : (Lp sg)) (c3 : (List Group)) (r : (Lp sg)) (h : F70 sg yield1 s2 c3 = some r) : Con Try.prog 70 [ydA Try.prog kEnv yield1 L, rp (ksl kGroup) c3] (L s2) (fun _ : Unit => top) (fun _ => L r) := by
  refine Con.intro Try.func70 rfl Try.ntmps70 rfl fun w H X => ?_
  unfold F70 at h
  refine AW.scope ?_
  refine AW.seq ?_
  obtain ⟨x4, hx4, h⟩ := bsome h
  refine AW.region ?_
  refine AOps.cons (op_loadp rfl rfl ty22 (vt rfl)) rfl ?_
  refine AOps.cons (op_call (xs := [.tmp 6]) (c25 _ _ hx4) (Ent.mk Try.func25 rfl rfl) rfl rfl ⟨vt rfl, trivial⟩) rfl ?_
  refine AOps.cons (op_assign (A := rd (ksl (kint .i64)) x4) rfl rfl (vt rfl)) rfl ?_
  refine AOps.nil ?_
  refine AW.seq ?_
  refine AW.label ?_
  refine AW.seq ?_
  obtain ⟨x5, hx5, h⟩ := bsome h
  refine AW.region ?_
  refine AOps.cons (op_loadp rfl rfl ty22 (vt rfl)) rfl ?_
  refine AOps.cons (op_call (xs := [.tmp 8]) (c27 _ _ hx5) (Ent.mk Try.func27 rfl rfl) rfl rfl ⟨vt rfl, trivial⟩) rfl ?_
  refine AOps.cons (op_move (A := rd (kint .i64) 0) rfl rfl (vk rfl)) rfl ?_
  refine AOps.nil ?_
  refine AW.block ?_
  refine AW.loopG (d := []) (ν := Nat × Nat × (Lp sg)) (fun n => Cnt x5 n.2.1 n.1 ∧ F70_l1 sg x4 yield1 n.1 n.2.1 n.2.2 = some r) (fun n => n.1) (fun n => [(0, ydA Try.prog kEnv yield1 L), (3, rd (ksl (kint .i64)) x4), (9, rd (kint .i64) x5), (10, rd (kint .i64) (n.2.1 : Int))]) (fun n => [(0, L n.2.2)]) ((x5 : Int).toNat, 0, s2) ⟨Cnt.start _, h⟩ ⟨rfl, ⟨rfl, rfl, rfl, rfl, trivial⟩, ⟨rfl, trivial⟩⟩ ?_
  rintro ⟨m9, i8, s7⟩ ⟨hsf1, h⟩
  change Cnt x5 i8 m9 at hsf1
  change F70_l1 sg x4 yield1 m9 i8 s7 = some r at h
  change AW _ _ _ ⟨slots [(0, ydA Try.prog kEnv yield1 L), (3, rd (ksl (kint .i64)) x4), (9, rd (kint .i64) x5), (10, rd (kint .i64) (i8 : Int))], ress [(0, L s7)], _⟩
  cases m9 with
  | zero =>
    unfold F70_l1 at h
    refine AW.seq ?_
    refine AW.region ?_
    refine AOps.cons (op_lss rfl rfl (vt rfl) (vt rfl)) rfl ?_
    refine AOps.nil ?_
    refine AW.seq ?_
    refine AW.cond (vt rfl) (fun hc => absurd (of_decide_eq_true hc) hsf1.zero) (fun hc => ?_)
    refine AW.exit ?_
    obtain rfl := Option.some.inj h
    exact ret0Y (i := 0) Try.results70 rfl rfl
  | succ m9 =>
    unfold F70_l1 at h
    generalize hgo1 : F70_l1 sg x4 yield1 m9 = go1 at h
    refine AW.seq ?_
    refine AW.region ?_
    refine AOps.cons (op_lss rfl rfl (vt rfl) (vt rfl)) rfl ?_
    refine AOps.nil ?_
    refine AW.seq ?_
    refine AW.cond (vt rfl) (fun hc => ?_) (fun hc => absurd hsf1.succ (of_decide_eq_false hc))
    have hlti8 := of_decide_eq_true hc
    refine AW.skip ?_
    refine AW.seq ?_
    refine AW.block ?_
    refine AW.seq ?_
    refine AW.region ?_
    refine AOps.cons (op_move (A := rd (kint .i64) (i8 : Int)) rfl rfl (vt rfl)) rfl ?_
    refine AOps.cons (op_assign (A := rd (kint .i64) (i8 : Int)) rfl rfl (vt rfl)) rfl ?_
    refine AOps.nil ?_
    refine AW.seq ?_
    obtain ⟨q10, hq10, h⟩ := bsome h
    refine AW.region ?_
    refine AOps.cons (op_move (A := rd (ksl (kint .i64)) x4) rfl rfl (vt rfl)) rfl ?_
    refine AOps.cons (op_len' rfl rfl sl29 (vt rfl)) rfl ?_
    refine AOps.cons (op_shl rfl rfl (vk rfl) (vt rfl) hq10) rfl ?_
    refine AOps.cons (op_move (A := rd (kint .i64) 0) rfl rfl (vk rfl)) rfl ?_
    refine AOps.nil ?_
    refine AW.block ?_
    refine AW.loopG (d := []) (ν := Nat × Nat × (Lp sg)) (fun n => Cnt q10 n.2.1 n.1 ∧ F70_l2 sg go1 i8 x4 yield1 n.1 n.2.1 n.2.2 = some r) (fun n => n.1) (fun n => [(0, ydA Try.prog kEnv yield1 L), (3, rd (ksl (kint .i64)) x4), (4, rd (kint .i64) (i8 : Int)), (9, rd (kint .i64) x5), (10, rd (kint .i64) (i8 : Int)), (15, rd (kint .i64) q10), (16, rd (kint .i64) (n.2.1 : Int))]) (fun n => [(0, L n.2.2)]) ((q10 : Int).toNat, 0, s7) ⟨Cnt.start _, h⟩ ⟨rfl, ⟨rfl, rfl, rfl, rfl, rfl, rfl, rfl, trivial⟩, ⟨rfl, trivial⟩⟩ ?_
    rintro ⟨m14, i13, s12⟩ ⟨hsf2, h⟩
    change Cnt q10 i13 m14 at hsf2
    change F70_l2 sg go1 i8 x4 yield1 m14 i13 s12 = some r at h
    change AW _ _ _ ⟨slots [(0, ydA Try.prog kEnv yield1 L), (3, rd (ksl (kint .i64)) x4), (4, rd (kint .i64) (i8 : Int)), (9, rd (kint .i64) x5), (10, rd (kint .i64) (i8 : Int)), (15, rd (kint .i64) q10), (16, rd (kint .i64) (i13 : Int))], ress [(0, L s12)], _⟩
    cases m14 with
    | zero =>
      unfold F70_l2 at h
      refine AW.seq ?_
      refine AW.region ?_
      refine AOps.cons (op_lss rfl rfl (vt rfl) (vt rfl)) rfl ?_
      refine AOps.nil ?_
      refine AW.seq ?_
      refine AW.cond (vt rfl) (fun hc => absurd (of_decide_eq_true hc) hsf2.zero) (fun hc => ?_)
      refine AW.exit ?_
      refine AW.region ?_
      refine AOps.cons (op_incr (t := 9) rfl rfl (vt rfl) (vk rfl) (vt rfl) hlti8) rfl ?_
      refine AOps.cons (op_move (A := rd (kint .i64) ((i8 + 1 : Nat) : Int)) rfl rfl (vt rfl)) rfl ?_
      refine AOps.nil ?_
      subst hgo1
      exact ⟨(m9, i8 + 1, s12), Nat.lt_succ_self _, ⟨hsf1.next, h⟩, ⟨rfl, ⟨rfl, rfl, rfl, rfl, trivial⟩, ⟨rfl, trivial⟩⟩⟩
    | succ m14 =>
      unfold F70_l2 at h
      generalize hgo2 : F70_l2 sg go1 i8 x4 yield1 m14 = go2 at h
      refine AW.seq ?_
      refine AW.region ?_
      refine AOps.cons (op_lss rfl rfl (vt rfl) (vt rfl)) rfl ?_
      refine AOps.nil ?_
      refine AW.seq ?_
      refine AW.cond (vt rfl) (fun hc => ?_) (fun hc => absurd hsf2.succ (of_decide_eq_false hc))
      have hlti13 := of_decide_eq_true hc
      refine AW.skip ?_
      refine AW.seq ?_
      refine AW.block ?_
      refine AW.seq ?_
      refine AW.region ?_
      refine AOps.cons (op_move (A := rd (kint .i64) (i13 : Int)) rfl rfl (vt rfl)) rfl ?_
      refine AOps.cons (op_assign (A := rd (kint .i64) (i13 : Int)) rfl rfl (vt rfl)) rfl ?_
      refine AOps.nil ?_
      refine AW.seq ?_
      obtain ⟨x15, hx15, h⟩ := bsome h
      obtain ⟨s16, hs16, h⟩ := bsome h
      refine AW.region ?_
      refine AOps.cons (op_move (A := ydA Try.prog kEnv yield1 L) rfl rfl (vt rfl)) rfl ?_
      refine AOps.cons (op_move (A := rd (kint .i64) (i8 : Int)) rfl rfl (vt rfl)) rfl ?_
      refine AOps.cons (op_move (A := rd (ksl (kint .i64)) x4) rfl rfl (vt rfl)) rfl ?_
      refine AOps.cons (op_move (A := rd (kint .i64) (i13 : Int)) rfl rfl (vt rfl)) rfl ?_
      refine AOps.cons (op_call (xs := [.tmp 21, .tmp 22]) (c71 _ _ _ hx15) (Ent.mk Try.func71 rfl rfl) rfl rfl ⟨vt rfl, vt rfl, trivial⟩) rfl ?_
      refine AOps.cons (op_build (ps := [(0, .tmp 20), (1, .tmp 23)]) (x := (⟨(i8 : Int), x15⟩ : Env)) rfl rfl rfl (by kernel_rfl) zr31 ⟨_, _, lEnv_0, _, by kernel_rfl, (vt rfl), _, _, lEnv_1, _, by kernel_rfl, (vt rfl), rfl⟩) rfl ?_
      refine AOps.cons (op_yield 0 hs16 rfl rfl (vt rfl) (vt rfl) rfl) rfl ?_
      refine AOps.cons (op_not rfl rfl (vt rfl)) rfl ?_
      refine AOps.nil ?_
      refine AW.cond (vt rfl) (fun hc => ?_) (fun hc => ?_)
      · have h := cond_t hc h
        refine AW.exit ?_
        obtain rfl := Option.some.inj h
        exact ret0Y (i := 0) Try.results70 rfl rfl
      · have h := cond_f hc h
        refine AW.skip ?_
        refine AW.region ?_
        refine AOps.cons (op_incr (t := 15) rfl rfl (vt rfl) (vk rfl) (vt rfl) hlti13) rfl ?_
        refine AOps.cons (op_move (A := rd (kint .i64) ((i13 + 1 : Nat) : Int)) rfl rfl (vt rfl)) rfl ?_
        refine AOps.nil ?_
        subst hgo2
        exact ⟨(m14, i13 + 1, s16), Nat.lt_succ_self _, ⟨hsf2.next, h⟩, ⟨rfl, ⟨rfl, rfl, rfl, rfl, rfl, rfl, rfl, trivial⟩, ⟨rfl, trivial⟩⟩⟩
end Go.Proofs.Ytokmmcflinnfiaa.W
