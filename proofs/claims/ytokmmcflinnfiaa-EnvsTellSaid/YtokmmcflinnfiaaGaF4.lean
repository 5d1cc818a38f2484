/- GaF4: a part of the proof. -/
import Derived.Test.YtokmmcflinnfiaaGaF3
set_option linter.unusedVariables false
set_option linter.unusedSimpArgs false
namespace Go.Proofs.Ytokmmcflinnfiaa.W
open Go Go.Wb
-- weirbox/weirboxlaw40.EnvsTell$1
def F21 (g1 : Group) : Option Bool :=
  some (decide ((g1.Buckets.length : Int) > 40))
theorem c21 (g1 : Group) (r : Bool) (h : F21 g1 = some r) : PCon Try.prog 21 [rd kGroup g1] (rd kbool r) := by
  refine PCon.of (Con.intro0 Try.func21 rfl Try.ntmps21 rfl fun w H => ?_)
  unfold F21 at h
  refine AW.seq ?_
  refine AW.region ?_
  refine AOps.consT rfl (op_box 2 rfl rfl (vt rfl)) ?_
  rintro _ ⟨g2, rfl⟩
  refine AOps.cons (op_assign (A := rd kbool false) rfl rfl vb) rfl ?_
  refine AOps.nil ?_
  refine AW.seq ?_
  refine AW.region ?_
  refine AOps.cons (op_field lGroup_2 rfl rfl fl40_2 (vt rfl)) rfl ?_
  refine AOps.cons (op_load rfl rfl ty38 (vt rfl) (i := 2) rfl) rfl ?_
  refine AOps.cons (op_len' rfl rfl sl38 (vt rfl)) rfl ?_
  refine AOps.cons (op_gtr rfl rfl (vt rfl) (vk rfl)) rfl ?_
  refine AOps.cons (op_assign (A := rd kbool (decide ((g1.Buckets.length : Int) > 40))) rfl rfl (vt rfl)) rfl ?_
  refine AOps.nil ?_
  refine AW.ret ?_
  obtain rfl := Option.some.inj h
  exact ret1 Try.results21 rfl (out_tmp rfl)
-- weirbox/weirboxref40.Ports
def F26_l3 (l1 : (List Group)) (i13 : Int) (p8 : Int) (go2 : Bool → Int → Option (List Int)) : Nat → Bool → Int → Option (List Int)
  | 0, _, _ => none
  | m19 + 1, found17, j18 => (lget l1 i13).bind fun e20 => (bif (decide (j18 < (e20.Buckets.length : Int))) then (opt (!found17) (lget l1 i13)).bind fun e21 => (opt ((found17 == false) && ((decide (e21.Kind = 3)) == true)) (lget l1 i13)).bind fun e22 => (opt ((found17 == false) && ((decide (e21.Kind = 3)) == true)) (lget e22.Buckets j18)).bind fun e23 => (F26_l3 l1 i13 p8 go2 m19) (found17 || ((decide (e21.Kind = 3)) && (decide (e23.Watch = p8)))) (IntKind.i64.wrap (j18 + 1)) else go2 found17 (IntKind.i64.wrap (i13 + 1)))
def F26_l2 (l1 : (List Group)) (p8 : Int) (l6 : (List Int)) (go1 : (List Int) → Int → Option (List Int)) : Nat → Bool → Int → Option (List Int)
  | 0, _, _ => none
  | m14 + 1, found12, i13 => (bif (decide (i13 < (l1.length : Int))) then F26_l3 l1 i13 p8 (F26_l2 l1 p8 l6 go1 m14) fuel0 found12 0 else (bif found12 then (appd l6 [p8]).bind fun l24 => go1 l24 (IntKind.i64.wrap (p8 + 1)) else go1 l6 (IntKind.i64.wrap (p8 + 1))))
def F26_l1 (l1 : (List Group)) : Nat → (List Int) → Int → Option (List Int)
  | 0, _, _ => none
  | m9 + 1, l6, p8 => (bif (decide (p8 ≤ 6)) then F26_l2 l1 p8 l6 (F26_l1 l1 m9) ((((l1.length : Int) : Int) - 0).toNat + 1) false 0 else some l6)
def F26 (l1 : (List Group)) : Option (List Int) :=
  F26_l1 l1 (((6 : Int) - 1).toNat + 2) [] 1
theorem c26 (l1 : (List Group)) (r : (List Int)) (h : F26 l1 = some r) : PCon Try.prog 26 [rd (ksl kGroup) l1] (rd (ksl (kint .i64)) r) := by
  refine PCon.of (Con.intro0 Try.func26 rfl Try.ntmps26 rfl fun w H => ?_)
  unfold F26 at h
  refine AW.seq ?_
  refine AW.region ?_
  refine AOps.cons (op_assign (A := rd (ksl (kint .i64)) []) rfl rfl vnil) rfl ?_
  refine AOps.nil ?_
  refine AW.seq ?_
  refine AW.region ?_
  refine AOps.consT rfl (op_buildSlice 1001 (ps := []) (l := []) rfl rfl sl29 zr3 rfl rfl rfl rfl) ?_
  rintro _ ⟨v2, rfl⟩
  refine AOps.cons (op_assign (A := raw v2) rfl rfl (vt rfl)) rfl ?_
  refine AOps.nil ?_
  refine AW.seq ?_
  refine AW.seq ?_
  refine AW.region ?_
  refine AOps.cons (op_assign (A := rd (kint .i64) 1) rfl rfl (vk rfl)) rfl ?_
  refine AOps.nil ?_
  refine AW.block ?_
  refine AW.loopG (d := []) (ν := Nat × (List Int) × Int × Value) (fun n => True ∧ F26_l1 l1 n.1 n.2.1 n.2.2.1 = some r) (fun n => n.1) (fun n => [(0, rd (ksl kGroup) l1), (3, raw n.2.2.2), (4, rd (kint .i64) n.2.2.1)]) (fun n => [(1001, Row n.2.2.2 3 (kint .i64) n.2.1)]) ((((6 : Int) - 1).toNat + 2), [], 1, v2) ⟨trivial, h⟩ ⟨rfl, ⟨rfl, rfl, rfl, trivial⟩, ⟨rfl, trivial⟩⟩ ?_
  rintro ⟨m9, l6, p8, v7⟩ ⟨hsf1, h⟩
  change True at hsf1
  change F26_l1 l1 m9 l6 p8 = some r at h
  change AW _ _ _ ⟨slots [(0, rd (ksl kGroup) l1), (3, raw v7), (4, rd (kint .i64) p8)], ress [(1001, Row v7 3 (kint .i64) l6)], _⟩
  cases m9 with
  | zero => cases h
  | succ m9 =>
    unfold F26_l1 at h
    generalize hgo1 : F26_l1 l1 m9 = go1 at h
    refine AW.seq ?_
    refine AW.seq ?_
    refine AW.region ?_
    refine AOps.cons (op_move (A := rd (kint .i64) p8) rfl rfl (vt rfl)) rfl ?_
    refine AOps.cons (op_leq rfl rfl (vt rfl) (vk rfl)) rfl ?_
    refine AOps.nil ?_
    refine AW.cond (vt rfl) (fun hc => ?_) (fun hc => ?_)
    · have h := cond_t hc h
      refine AW.skip ?_
      refine AW.seq ?_
      refine AW.block ?_
      refine AW.seq ?_
      refine AW.region ?_
      refine AOps.cons (op_assign (A := rd kbool false) rfl rfl vb) rfl ?_
      refine AOps.nil ?_
      refine AW.seq ?_
      refine AW.seq ?_
      refine AW.region ?_
      refine AOps.cons (op_assign (A := rd (kint .i64) 0) rfl rfl (vk rfl)) rfl ?_
      refine AOps.nil ?_
      refine AW.block ?_
      refine AW.loopG (d := []) (ν := Nat × Bool × Int) (fun n => True ∧ F26_l2 l1 p8 l6 go1 n.1 n.2.1 n.2.2 = some r) (fun n => n.1) (fun n => [(0, rd (ksl kGroup) l1), (3, raw v7), (4, rd (kint .i64) p8), (5, rd kbool n.2.1), (6, rd (kint .i64) n.2.2)]) (fun n => [(1001, Row v7 3 (kint .i64) l6)]) (((((l1.length : Int) : Int) - 0).toNat + 1), false, 0) ⟨trivial, h⟩ ⟨rfl, ⟨rfl, rfl, rfl, rfl, rfl, trivial⟩, ⟨rfl, trivial⟩⟩ ?_
      rintro ⟨m14, found12, i13⟩ ⟨hsf2, h⟩
      change True at hsf2
      change F26_l2 l1 p8 l6 go1 m14 found12 i13 = some r at h
      change AW _ _ _ ⟨slots [(0, rd (ksl kGroup) l1), (3, raw v7), (4, rd (kint .i64) p8), (5, rd kbool found12), (6, rd (kint .i64) i13)], ress [(1001, Row v7 3 (kint .i64) l6)], _⟩
      cases m14 with
      | zero => cases h
      | succ m14 =>
        unfold F26_l2 at h
        generalize hgo2 : F26_l2 l1 p8 l6 go1 m14 = go2 at h
        refine AW.seq ?_
        refine AW.seq ?_
        refine AW.region ?_
        refine AOps.cons (op_move (A := rd (kint .i64) i13) rfl rfl (vt rfl)) rfl ?_
        refine AOps.cons (op_move (A := rd (ksl kGroup) l1) rfl rfl (vt rfl)) rfl ?_
        refine AOps.cons (op_len' rfl rfl sl22 (vt rfl)) rfl ?_
        refine AOps.cons (op_lss rfl rfl (vt rfl) (vt rfl)) rfl ?_
        refine AOps.nil ?_
        refine AW.cond (vt rfl) (fun hc => ?_) (fun hc => ?_)
        · have h := cond_t hc h
          refine AW.skip ?_
          refine AW.seq ?_
          refine AW.block ?_
          refine AW.seq ?_
          refine AW.region ?_
          refine AOps.cons (op_assign (A := rd (kint .i64) 0) rfl rfl (vk rfl)) rfl ?_
          refine AOps.nil ?_
          refine AW.block ?_
          refine AW.loopG (d := []) (ν := Nat × Bool × Int) (fun n => True ∧ F26_l3 l1 i13 p8 go2 n.1 n.2.1 n.2.2 = some r) (fun n => n.1) (fun n => [(0, rd (ksl kGroup) l1), (3, raw v7), (4, rd (kint .i64) p8), (5, rd kbool n.2.1), (6, rd (kint .i64) i13), (7, rd (kint .i64) n.2.2)]) (fun n => [(1001, Row v7 3 (kint .i64) l6)]) (fuel0, found12, 0) ⟨trivial, h⟩ ⟨rfl, ⟨rfl, rfl, rfl, rfl, rfl, rfl, trivial⟩, ⟨rfl, trivial⟩⟩ ?_
          rintro ⟨m19, found17, j18⟩ ⟨hsf3, h⟩
          change True at hsf3
          change F26_l3 l1 i13 p8 go2 m19 found17 j18 = some r at h
          change AW _ _ _ ⟨slots [(0, rd (ksl kGroup) l1), (3, raw v7), (4, rd (kint .i64) p8), (5, rd kbool found17), (6, rd (kint .i64) i13), (7, rd (kint .i64) j18)], ress [(1001, Row v7 3 (kint .i64) l6)], _⟩
          cases m19 with
          | zero => cases h
          | succ m19 =>
            unfold F26_l3 at h
            generalize hgo3 : F26_l3 l1 i13 p8 go2 m19 = go3 at h
            refine AW.seq ?_
            refine AW.seq ?_
            obtain ⟨e20, he20, h⟩ := bsome h
            refine AW.region ?_
            refine AOps.cons (op_move (A := rd (kint .i64) j18) rfl rfl (vt rfl)) rfl ?_
            refine AOps.cons (op_move (A := rd (ksl kGroup) l1) rfl rfl (vt rfl)) rfl ?_
            refine AOps.cons (op_move (A := rd (kint .i64) i13) rfl rfl (vt rfl)) rfl ?_
            refine AOps.cons (op_indexs' rfl rfl sl22 (vt rfl) (vt rfl) he20) rfl ?_
            refine AOps.cons (op_fieldp lGroup_2 rfl rfl fl40_2 (vt rfl)) rfl ?_
            refine AOps.cons (op_loadp rfl rfl ty38 (vt rfl)) rfl ?_
            refine AOps.cons (op_len' rfl rfl sl38 (vt rfl)) rfl ?_
            refine AOps.cons (op_lss rfl rfl (vt rfl) (vt rfl)) rfl ?_
            refine AOps.nil ?_
            refine AW.cond (vt rfl) (fun hc => ?_) (fun hc => ?_)
            · have h := cond_t hc h
              refine AW.skip ?_
              refine AW.seq ?_
              refine AW.block ?_
              obtain ⟨e21, he21, h⟩ := bsome h
              obtain ⟨e22, he22, h⟩ := bsome h
              obtain ⟨e23, he23, h⟩ := bsome h
              refine AW.region ?_
              refine AOps.cons (op_move (A := rd kbool found17) rfl rfl (vt rfl)) rfl ?_
              refine AOps.cons (op_move (A := rd kbool found17) rfl rfl (vt rfl)) rfl ?_
              refine AOps.consG (OpG.guard rfl rfl rfl rfl rfl fun hq => op_move (A := rd (ksl kGroup) l1) rfl rfl (vt rfl)) ?_
              refine AOps.consG (OpG.guard rfl rfl rfl rfl rfl fun hq => op_move (A := rd (kint .i64) i13) rfl rfl (vt rfl)) ?_
              refine AOps.consG (OpG.guard rfl rfl rfl rfl rfl fun hq => op_indexs' rfl rfl sl22 (vgt rfl hq) (vgt rfl hq) (opt_f he21 hq)) ?_
              refine AOps.consG (OpG.guard rfl rfl rfl rfl rfl fun hq => op_fieldp lGroup_1 rfl rfl fl40_1 (vgt rfl hq)) ?_
              refine AOps.consG (OpG.guard rfl rfl rfl rfl rfl fun hq => op_loadp rfl rfl ty3 (vgt rfl hq)) ?_
              refine AOps.consG (OpG.guard rfl rfl rfl rfl rfl fun hq => op_eql rfl rfl (vgt rfl hq) (vk rfl)) ?_
              refine AOps.consG (OpG.guardX rfl rfl rfl rfl rfl fun hq => op_move (A := rd kbool (decide (e21.Kind = 3))) rfl rfl (vgt rfl hq)) ?_
              refine AOps.consG (OpG.guardN rfl rfl rfl rfl rfl fun hq => op_move (A := rd (ksl kGroup) l1) rfl rfl (vt rfl)) ?_
              refine AOps.consG (OpG.guardN rfl rfl rfl rfl rfl fun hq => op_move (A := rd (kint .i64) i13) rfl rfl (vt rfl)) ?_
              refine AOps.consG (OpG.guardN rfl rfl rfl rfl rfl fun hq => op_indexs' rfl rfl sl22 (vgt rfl hq) (vgt rfl hq) (opt_g he22 hq)) ?_
              refine AOps.consG (OpG.guardN rfl rfl rfl rfl rfl fun hq => op_fieldp lGroup_2 rfl rfl fl40_2 (vgt rfl hq)) ?_
              refine AOps.consG (OpG.guardN rfl rfl rfl rfl rfl fun hq => op_loadp rfl rfl ty38 (vgt rfl hq)) ?_
              refine AOps.consG (OpG.guardN rfl rfl rfl rfl rfl fun hq => op_move (A := rd (kint .i64) j18) rfl rfl (vt rfl)) ?_
              refine AOps.consG (OpG.guardN rfl rfl rfl rfl rfl fun hq => op_indexs' rfl rfl sl38 (vgt rfl hq) (vgt rfl hq) (opt_g he23 hq)) ?_
              refine AOps.consG (OpG.guardN rfl rfl rfl rfl rfl fun hq => op_fieldp lBucket_1 rfl rfl fl104_1 (vgt rfl hq)) ?_
              refine AOps.consG (OpG.guardN rfl rfl rfl rfl rfl fun hq => op_loadp rfl rfl ty3 (vgt rfl hq)) ?_
              refine AOps.consG (OpG.guardN rfl rfl rfl rfl rfl fun hq => op_move (A := rd (kint .i64) p8) rfl rfl (vt rfl)) ?_
              refine AOps.consG (OpG.guardN rfl rfl rfl rfl rfl fun hq => op_eql rfl rfl (vgt rfl hq) (vgt rfl hq)) ?_
              refine AOps.consG (OpG.guard rfl rfl rfl rfl rfl fun hq => op_all rfl rfl (vgx rfl hq) (vgw rfl hq)) ?_
              refine AOps.cons (op_any rfl rfl (vt rfl) (vt rfl)) rfl ?_
              refine AOps.cons (op_assign (A := rd kbool (found17 || ((decide (e21.Kind = 3)) && (decide (e23.Watch = p8))))) rfl rfl (vt rfl)) rfl ?_
              refine AOps.nil ?_
              refine AW.region ?_
              refine AOps.cons (op_move (A := rd (kint .i64) j18) rfl rfl (vt rfl)) rfl ?_
              refine AOps.cons (op_add rfl rfl (vt rfl) (vk rfl)) rfl ?_
              refine AOps.cons (op_assign (A := rd (kint .i64) (IntKind.i64.wrap (j18 + 1))) rfl rfl (vt rfl)) rfl ?_
              refine AOps.nil ?_
              subst hgo3
              exact ⟨(m19, (found17 || ((decide (e21.Kind = 3)) && (decide (e23.Watch = p8)))), (IntKind.i64.wrap (j18 + 1))), Nat.lt_succ_self _, ⟨trivial, h⟩, ⟨rfl, ⟨rfl, rfl, rfl, rfl, rfl, rfl, trivial⟩, ⟨rfl, trivial⟩⟩⟩
            · have h := cond_f hc h
              refine AW.exit ?_
              refine AW.region ?_
              refine AOps.cons (op_move (A := rd (kint .i64) i13) rfl rfl (vt rfl)) rfl ?_
              refine AOps.cons (op_add rfl rfl (vt rfl) (vk rfl)) rfl ?_
              refine AOps.cons (op_assign (A := rd (kint .i64) (IntKind.i64.wrap (i13 + 1))) rfl rfl (vt rfl)) rfl ?_
              refine AOps.nil ?_
              subst hgo2
              exact ⟨(m14, found17, (IntKind.i64.wrap (i13 + 1))), Nat.lt_succ_self _, ⟨trivial, h⟩, ⟨rfl, ⟨rfl, rfl, rfl, rfl, rfl, trivial⟩, ⟨rfl, trivial⟩⟩⟩
        · have h := cond_f hc h
          refine AW.exit ?_
          refine AW.seq ?_
          refine AW.region ?_
          refine AOps.cons (op_move (A := rd kbool found12) rfl rfl (vt rfl)) rfl ?_
          refine AOps.nil ?_
          refine AW.cond (vt rfl) (fun hc => ?_) (fun hc => ?_)
          · have h := cond_t hc h
            obtain ⟨l24, hl24, h⟩ := bsome h
            refine AW.region ?_
            refine AOps.cons (op_move (A := raw v7) rfl rfl (vt rfl)) rfl ?_
            refine AOps.cons (op_move (A := rd (kint .i64) p8) rfl rfl (vt rfl)) rfl ?_
            refine AOps.cons (op_buildSliceR (ps := [(0, .tmp 53)]) (l := [p8]) rfl rfl sl29 zr3 rfl rfl ⟨_, _, Lens.idx 1 (kint .i64) 0 (by decide), _, rfl, (vt rfl), rfl⟩ rfl) rfl ?_
            refine AOps.consT rfl (op_append' 1001 hl24 rfl rfl el29 (vt rfl) rfl (vt rfl)) ?_
            rintro _ ⟨v25, rfl⟩
            refine AOps.cons (op_assign (A := raw v25) rfl rfl (vt rfl)) rfl ?_
            refine AOps.nil ?_
            refine AW.region ?_
            refine AOps.cons (op_move (A := rd (kint .i64) p8) rfl rfl (vt rfl)) rfl ?_
            refine AOps.cons (op_add rfl rfl (vt rfl) (vk rfl)) rfl ?_
            refine AOps.cons (op_assign (A := rd (kint .i64) (IntKind.i64.wrap (p8 + 1))) rfl rfl (vt rfl)) rfl ?_
            refine AOps.nil ?_
            subst hgo1
            exact ⟨(m9, l24, (IntKind.i64.wrap (p8 + 1)), v25), Nat.lt_succ_self _, ⟨trivial, h⟩, ⟨rfl, ⟨rfl, rfl, rfl, trivial⟩, ⟨rfl, trivial⟩⟩⟩
          · have h := cond_f hc h
            refine AW.skip ?_
            refine AW.region ?_
            refine AOps.cons (op_move (A := rd (kint .i64) p8) rfl rfl (vt rfl)) rfl ?_
            refine AOps.cons (op_add rfl rfl (vt rfl) (vk rfl)) rfl ?_
            refine AOps.cons (op_assign (A := rd (kint .i64) (IntKind.i64.wrap (p8 + 1))) rfl rfl (vt rfl)) rfl ?_
            refine AOps.nil ?_
            subst hgo1
            exact ⟨(m9, l6, (IntKind.i64.wrap (p8 + 1)), v7), Nat.lt_succ_self _, ⟨trivial, h⟩, ⟨rfl, ⟨rfl, rfl, rfl, trivial⟩, ⟨rfl, trivial⟩⟩⟩
    · have h := cond_f hc h
      refine AW.exit ?_
      refine AW.seq ?_
      refine AW.region ?_
      refine AOps.cons (op_move (A := raw v7) rfl rfl (vt rfl)) rfl ?_
      refine AOps.cons (op_assign (A := raw v7) rfl rfl (vt rfl)) rfl ?_
      refine AOps.nil ?_
      refine AW.freezes [2, 3, 56] 1001 rfl ⟨rfl, rfl, rfl, trivial⟩ rfl ?_
      refine AW.ret ?_
      obtain rfl := Option.some.inj h
      exact ret1 Try.results26 rfl (out_tmp rfl)
-- weirbox/weirboxref40.goes
def F74_l1 (l1 : (List Group)) (n2 : Int) : Nat → Int → Option Bool
  | 0, _ => none
  | m5 + 1, i4 => (bif (decide (i4 < (l1.length : Int))) then (lget l1 i4).bind fun e6 => (lget l1 i4).bind fun e7 => (opt (((decide (e7.Kind = 1)) && (decide ((e6.Buckets.length : Int) ≥ 1))) && (decide ((e6.Buckets.length : Int) ≤ 4))) (omod n2 (e6.Buckets.length : Int))).bind fun q8 => (bif ((((decide (e7.Kind = 1)) && (decide ((e6.Buckets.length : Int) ≥ 1))) && (decide ((e6.Buckets.length : Int) ≤ 4))) && (decide (q8 ≠ 0))) then some false else (F74_l1 l1 n2 m5) (IntKind.i64.wrap (i4 + 1))) else some true)
def F74 (l1 : (List Group)) (n2 : Int) : Option Bool :=
  F74_l1 l1 n2 ((((l1.length : Int) : Int) - 0).toNat + 1) 0
theorem c74 (l1 : (List Group)) (n2 : Int) (r : Bool) (h : F74 l1 n2 = some r) : PCon Try.prog 74 [rd (ksl kGroup) l1, rd (kint .i64) n2] (rd kbool r) := by
  refine PCon.of (Con.intro0 Try.func74 rfl Try.ntmps74 rfl fun w H => ?_)
  unfold F74 at h
  refine AW.seq ?_
  refine AW.region ?_
  refine AOps.cons (op_assign (A := rd kbool false) rfl rfl vb) rfl ?_
  refine AOps.nil ?_
  refine AW.seq ?_
  refine AW.seq ?_
  refine AW.region ?_
  refine AOps.cons (op_assign (A := rd (kint .i64) 0) rfl rfl (vk rfl)) rfl ?_
  refine AOps.nil ?_
  refine AW.block ?_
  refine AW.loopG (d := []) (ν := Nat × Int) (fun n => True ∧ F74_l1 l1 n2 n.1 n.2 = some r) (fun n => n.1) (fun n => [(0, rd (ksl kGroup) l1), (1, rd (kint .i64) n2), (5, rd (kint .i64) n.2)]) (fun n => []) (((((l1.length : Int) : Int) - 0).toNat + 1), 0) ⟨trivial, h⟩ ⟨rfl, ⟨rfl, rfl, rfl, trivial⟩, trivial⟩ ?_
  rintro ⟨m5, i4⟩ ⟨hsf1, h⟩
  change True at hsf1
  change F74_l1 l1 n2 m5 i4 = some r at h
  change AW _ _ _ ⟨slots [(0, rd (ksl kGroup) l1), (1, rd (kint .i64) n2), (5, rd (kint .i64) i4)], ress [], _⟩
  cases m5 with
  | zero => cases h
  | succ m5 =>
    unfold F74_l1 at h
    generalize hgo1 : F74_l1 l1 n2 m5 = go1 at h
    refine AW.seq ?_
    refine AW.seq ?_
    refine AW.region ?_
    refine AOps.cons (op_move (A := rd (kint .i64) i4) rfl rfl (vt rfl)) rfl ?_
    refine AOps.cons (op_move (A := rd (ksl kGroup) l1) rfl rfl (vt rfl)) rfl ?_
    refine AOps.cons (op_len' rfl rfl sl22 (vt rfl)) rfl ?_
    refine AOps.cons (op_lss rfl rfl (vt rfl) (vt rfl)) rfl ?_
    refine AOps.nil ?_
    refine AW.cond (vt rfl) (fun hc => ?_) (fun hc => ?_)
    · have h := cond_t hc h
      refine AW.skip ?_
      refine AW.seq ?_
      refine AW.block ?_
      refine AW.seq ?_
      obtain ⟨e6, he6, h⟩ := bsome h
      refine AW.region ?_
      refine AOps.cons (op_move (A := rd (ksl kGroup) l1) rfl rfl (vt rfl)) rfl ?_
      refine AOps.cons (op_move (A := rd (kint .i64) i4) rfl rfl (vt rfl)) rfl ?_
      refine AOps.cons (op_indexs' rfl rfl sl22 (vt rfl) (vt rfl) he6) rfl ?_
      refine AOps.cons (op_fieldp lGroup_2 rfl rfl fl40_2 (vt rfl)) rfl ?_
      refine AOps.cons (op_loadp rfl rfl ty38 (vt rfl)) rfl ?_
      refine AOps.cons (op_len' rfl rfl sl38 (vt rfl)) rfl ?_
      refine AOps.cons (op_assign (A := rd (kint .i64) (e6.Buckets.length : Int)) rfl rfl (vt rfl)) rfl ?_
      refine AOps.nil ?_
      refine AW.seq ?_
      obtain ⟨e7, he7, h⟩ := bsome h
      obtain ⟨q8, hq8, h⟩ := bsome h
      refine AW.region ?_
      refine AOps.cons (op_move (A := rd (ksl kGroup) l1) rfl rfl (vt rfl)) rfl ?_
      refine AOps.cons (op_move (A := rd (kint .i64) i4) rfl rfl (vt rfl)) rfl ?_
      refine AOps.cons (op_indexs' rfl rfl sl22 (vt rfl) (vt rfl) he7) rfl ?_
      refine AOps.cons (op_fieldp lGroup_1 rfl rfl fl40_1 (vt rfl)) rfl ?_
      refine AOps.cons (op_loadp rfl rfl ty3 (vt rfl)) rfl ?_
      refine AOps.cons (op_eql rfl rfl (vt rfl) (vk rfl)) rfl ?_
      refine AOps.cons (op_move (A := rd kbool (decide (e7.Kind = 1))) rfl rfl (vt rfl)) rfl ?_
      refine AOps.consG (OpG.guard rfl rfl rfl rfl rfl fun hq => op_move (A := rd (kint .i64) (e6.Buckets.length : Int)) rfl rfl (vt rfl)) ?_
      refine AOps.consG (OpG.guard rfl rfl rfl rfl rfl fun hq => op_geq rfl rfl (vgt rfl hq) (vk rfl)) ?_
      refine AOps.cons (op_all rfl rfl (vt rfl) (vt rfl)) rfl ?_
      refine AOps.cons (op_move (A := rd kbool ((decide (e7.Kind = 1)) && (decide ((e6.Buckets.length : Int) ≥ 1)))) rfl rfl (vt rfl)) rfl ?_
      refine AOps.consG (OpG.guard rfl rfl rfl rfl rfl fun hq => op_move (A := rd (kint .i64) (e6.Buckets.length : Int)) rfl rfl (vt rfl)) ?_
      refine AOps.consG (OpG.guard rfl rfl rfl rfl rfl fun hq => op_leq rfl rfl (vgt rfl hq) (vk rfl)) ?_
      refine AOps.cons (op_all rfl rfl (vt rfl) (vt rfl)) rfl ?_
      refine AOps.cons (op_move (A := rd kbool (((decide (e7.Kind = 1)) && (decide ((e6.Buckets.length : Int) ≥ 1))) && (decide ((e6.Buckets.length : Int) ≤ 4)))) rfl rfl (vt rfl)) rfl ?_
      refine AOps.consG (OpG.guard rfl rfl rfl rfl rfl fun hq => op_move (A := rd (kint .i64) n2) rfl rfl (vt rfl)) ?_
      refine AOps.consG (OpG.guard rfl rfl rfl rfl rfl fun hq => op_move (A := rd (kint .i64) (e6.Buckets.length : Int)) rfl rfl (vt rfl)) ?_
      refine AOps.consG (OpG.guard rfl rfl rfl rfl rfl fun hq => op_rem rfl rfl (vgt rfl hq) (vgt rfl hq) (opt_t hq8 hq)) ?_
      refine AOps.consG (OpG.guard rfl rfl rfl rfl rfl fun hq => op_neq rfl rfl (vgt rfl hq) (vk rfl)) ?_
      refine AOps.cons (op_all rfl rfl (vt rfl) (vt rfl)) rfl ?_
      refine AOps.nil ?_
      refine AW.cond (vt rfl) (fun hc => ?_) (fun hc => ?_)
      · have h := cond_t hc h
        refine AW.seq ?_
        refine AW.region ?_
        refine AOps.cons (op_assign (A := rd kbool false) rfl rfl vb) rfl ?_
        refine AOps.nil ?_
        refine AW.ret ?_
        obtain rfl := Option.some.inj h
        exact ret1 Try.results74 rfl (out_tmp rfl)
      · have h := cond_f hc h
        refine AW.skip ?_
        refine AW.region ?_
        refine AOps.cons (op_move (A := rd (kint .i64) i4) rfl rfl (vt rfl)) rfl ?_
        refine AOps.cons (op_add rfl rfl (vt rfl) (vk rfl)) rfl ?_
        refine AOps.cons (op_assign (A := rd (kint .i64) (IntKind.i64.wrap (i4 + 1))) rfl rfl (vt rfl)) rfl ?_
        refine AOps.nil ?_
        subst hgo1
        exact ⟨(m5, (IntKind.i64.wrap (i4 + 1))), Nat.lt_succ_self _, ⟨trivial, h⟩, ⟨rfl, ⟨rfl, rfl, rfl, trivial⟩, trivial⟩⟩
    · have h := cond_f hc h
      refine AW.exit ?_
      refine AW.seq ?_
      refine AW.region ?_
      refine AOps.cons (op_assign (A := rd kbool true) rfl rfl vb) rfl ?_
      refine AOps.nil ?_
      refine AW.ret ?_
      obtain rfl := Option.some.inj h
      exact ret1 Try.results74 rfl (out_tmp rfl)
-- weirbox/weirboxref40.Turns
def F28_l1 (l1 : (List Group)) : Nat → Int → Option Int
  | 0, _ => none
  | m4 + 1, n3 => (F74 l1 n3).bind fun x5 => (bif (!x5) then (F28_l1 l1 m4) (IntKind.i64.wrap (n3 + 1)) else some n3)
def F28 (l1 : (List Group)) : Option Int :=
  F28_l1 l1 fuel0 1
theorem c28 (l1 : (List Group)) (r : Int) (h : F28 l1 = some r) : PCon Try.prog 28 [rd (ksl kGroup) l1] (rd (kint .i64) r) := by
  refine PCon.of (Con.intro0 Try.func28 rfl Try.ntmps28 rfl fun w H => ?_)
  unfold F28 at h
  refine AW.seq ?_
  refine AW.region ?_
  refine AOps.cons (op_assign (A := rd (kint .i64) 0) rfl rfl (vk rfl)) rfl ?_
  refine AOps.nil ?_
  refine AW.seq ?_
  refine AW.region ?_
  refine AOps.cons (op_assign (A := rd (kint .i64) 1) rfl rfl (vk rfl)) rfl ?_
  refine AOps.nil ?_
  refine AW.seq ?_
  refine AW.block ?_
  refine AW.loopG (d := []) (ν := Nat × Int) (fun n => True ∧ F28_l1 l1 n.1 n.2 = some r) (fun n => n.1) (fun n => [(0, rd (ksl kGroup) l1), (3, rd (kint .i64) n.2)]) (fun n => []) (fuel0, 1) ⟨trivial, h⟩ ⟨rfl, ⟨rfl, rfl, trivial⟩, trivial⟩ ?_
  rintro ⟨m4, n3⟩ ⟨hsf1, h⟩
  change True at hsf1
  change F28_l1 l1 m4 n3 = some r at h
  change AW _ _ _ ⟨slots [(0, rd (ksl kGroup) l1), (3, rd (kint .i64) n3)], ress [], _⟩
  cases m4 with
  | zero => cases h
  | succ m4 =>
    unfold F28_l1 at h
    generalize hgo1 : F28_l1 l1 m4 = go1 at h
    refine AW.seq ?_
    refine AW.seq ?_
    obtain ⟨x5, hx5, h⟩ := bsome h
    refine AW.region ?_
    refine AOps.cons (op_move (A := rd (ksl kGroup) l1) rfl rfl (vt rfl)) rfl ?_
    refine AOps.cons (op_move (A := rd (kint .i64) n3) rfl rfl (vt rfl)) rfl ?_
    refine AOps.cons (op_call (xs := [.tmp 4, .tmp 5]) (c74 _ _ _ hx5) (Ent.mk Try.func74 rfl rfl) rfl rfl ⟨vt rfl, vt rfl, trivial⟩) rfl ?_
    refine AOps.cons (op_not rfl rfl (vt rfl)) rfl ?_
    refine AOps.nil ?_
    refine AW.cond (vt rfl) (fun hc => ?_) (fun hc => ?_)
    · have h := cond_t hc h
      refine AW.skip ?_
      refine AW.block ?_
      refine AW.region ?_
      refine AOps.cons (op_move (A := rd (kint .i64) n3) rfl rfl (vt rfl)) rfl ?_
      refine AOps.cons (op_add rfl rfl (vt rfl) (vk rfl)) rfl ?_
      refine AOps.cons (op_assign (A := rd (kint .i64) (IntKind.i64.wrap (n3 + 1))) rfl rfl (vt rfl)) rfl ?_
      refine AOps.nil ?_
      subst hgo1
      exact ⟨(m4, (IntKind.i64.wrap (n3 + 1))), Nat.lt_succ_self _, ⟨trivial, h⟩, ⟨rfl, ⟨rfl, rfl, trivial⟩, trivial⟩⟩
    · have h := cond_f hc h
      refine AW.exit ?_
      refine AW.seq ?_
      refine AW.region ?_
      refine AOps.cons (op_move (A := rd (kint .i64) n3) rfl rfl (vt rfl)) rfl ?_
      refine AOps.cons (op_assign (A := rd (kint .i64) n3) rfl rfl (vt rfl)) rfl ?_
      refine AOps.nil ?_
      refine AW.ret ?_
      obtain rfl := Option.some.inj h
      exact ret1 Try.results28 rfl (out_tmp rfl)
-- weirbox/weirboxref40.List
def F23_l3 (x3 : (List Int)) (n17 : Int) (l15 : (List Env)) (turn9 : Int) (go2 : (List Env) → Int → Option (List Env)) : Nat → (List Int) → Int → Option (List Env)
  | 0, _, _ => none
  | m27 + 1, l24, i26 => (bif (decide (i26 < (x3.length : Int))) then (oshr .i64 n17 ((BitVec.ofInt 64 i26).toNat : Int)).bind fun q28 => (omod q28 2).bind fun q29 => (bif (decide (q29 = 1)) then (lget x3 i26).bind fun e30 => (appd l24 [e30]).bind fun l31 => (F23_l3 x3 n17 l15 turn9 go2 m27) l31 (IntKind.i64.wrap (i26 + 1)) else (F23_l3 x3 n17 l15 turn9 go2 m27) l24 (IntKind.i64.wrap (i26 + 1))) else (appd l15 [(⟨turn9, l24⟩ : Env)]).bind fun l33 => go2 l33 (IntKind.i64.wrap (n17 + 1)))
def F23_l2 (x3 : (List Int)) (turn9 : Int) (go1 : (List Env) → Int → Option (List Env)) : Nat → (List Env) → Int → Option (List Env)
  | 0, _, _ => none
  | m18 + 1, l15, n17 => (oshl .i64 1 ((BitVec.ofInt 64 (x3.length : Int)).toNat : Int)).bind fun q19 => (bif (decide (n17 < q19)) then F23_l3 x3 n17 l15 turn9 (F23_l2 x3 turn9 go1 m18) ((((x3.length : Int) : Int) - 0).toNat + 1) [] 0 else go1 l15 (IntKind.i64.wrap (turn9 + 1)))
def F23_l1 (l1 : (List Group)) (x3 : (List Int)) : Nat → (List Env) → Int → Option (List Env)
  | 0, _, _ => none
  | m10 + 1, l7, turn9 => (F28 l1).bind fun x11 => (bif (decide (turn9 < x11)) then F23_l2 x3 turn9 (F23_l1 l1 x3 m10) fuel0 l7 0 else some l7)
def F23 (l1 : (List Group)) : Option (List Env) :=
  (F26 l1).bind fun x3 => F23_l1 l1 x3 fuel0 [] 0
theorem c23 (l1 : (List Group)) (r : (List Env)) (h : F23 l1 = some r) : PCon Try.prog 23 [rd (ksl kGroup) l1] (rd (ksl kEnv) r) := by
  refine PCon.of (Con.intro0 Try.func23 rfl Try.ntmps23 rfl fun w H => ?_)
  unfold F23 at h
  refine AW.seq ?_
  refine AW.region ?_
  refine AOps.cons (op_assign (A := rd (ksl kEnv) []) rfl rfl vnil) rfl ?_
  refine AOps.nil ?_
  refine AW.seq ?_
  refine AW.region ?_
  refine AOps.consT rfl (op_buildSlice 1001 (ps := []) (l := []) rfl rfl sl26 zr31 rfl rfl rfl rfl) ?_
  rintro _ ⟨v2, rfl⟩
  refine AOps.cons (op_assign (A := raw v2) rfl rfl (vt rfl)) rfl ?_
  refine AOps.nil ?_
  refine AW.seq ?_
  obtain ⟨x3, hx3, h⟩ := bsome h
  refine AW.region ?_
  refine AOps.cons (op_move (A := rd (ksl kGroup) l1) rfl rfl (vt rfl)) rfl ?_
  refine AOps.cons (op_call (xs := [.tmp 10]) (c26 _ _ hx3) (Ent.mk Try.func26 rfl rfl) rfl rfl ⟨vt rfl, trivial⟩) rfl ?_
  refine AOps.cons (op_assign (A := rd (ksl (kint .i64)) x3) rfl rfl (vt rfl)) rfl ?_
  refine AOps.nil ?_
  refine AW.seq ?_
  refine AW.seq ?_
  refine AW.region ?_
  refine AOps.cons (op_assign (A := rd (kint .i64) 0) rfl rfl (vk rfl)) rfl ?_
  refine AOps.nil ?_
  refine AW.block ?_
  refine AW.loopG (d := []) (ν := Nat × (List Env) × Int × Value) (fun n => True ∧ F23_l1 l1 x3 n.1 n.2.1 n.2.2.1 = some r) (fun n => n.1) (fun n => [(0, rd (ksl kGroup) l1), (3, raw n.2.2.2), (4, rd (ksl (kint .i64)) x3), (5, rd (kint .i64) n.2.2.1)]) (fun n => [(1001, Row n.2.2.2 31 kEnv n.2.1)]) (fuel0, [], 0, v2) ⟨trivial, h⟩ ⟨rfl, ⟨rfl, rfl, rfl, rfl, trivial⟩, ⟨rfl, trivial⟩⟩ ?_
  rintro ⟨m10, l7, turn9, v8⟩ ⟨hsf1, h⟩
  change True at hsf1
  change F23_l1 l1 x3 m10 l7 turn9 = some r at h
  change AW _ _ _ ⟨slots [(0, rd (ksl kGroup) l1), (3, raw v8), (4, rd (ksl (kint .i64)) x3), (5, rd (kint .i64) turn9)], ress [(1001, Row v8 31 kEnv l7)], _⟩
  cases m10 with
  | zero => cases h
  | succ m10 =>
    unfold F23_l1 at h
    generalize hgo1 : F23_l1 l1 x3 m10 = go1 at h
    refine AW.seq ?_
    refine AW.seq ?_
    obtain ⟨x11, hx11, h⟩ := bsome h
    refine AW.region ?_
    refine AOps.cons (op_move (A := rd (kint .i64) turn9) rfl rfl (vt rfl)) rfl ?_
    refine AOps.cons (op_move (A := rd (ksl kGroup) l1) rfl rfl (vt rfl)) rfl ?_
    refine AOps.cons (op_call (xs := [.tmp 13]) (c28 _ _ hx11) (Ent.mk Try.func28 rfl rfl) rfl rfl ⟨vt rfl, trivial⟩) rfl ?_
    refine AOps.cons (op_lss rfl rfl (vt rfl) (vt rfl)) rfl ?_
    refine AOps.nil ?_
    refine AW.cond (vt rfl) (fun hc => ?_) (fun hc => ?_)
    · have h := cond_t hc h
      refine AW.skip ?_
      refine AW.seq ?_
      refine AW.block ?_
      refine AW.seq ?_
      refine AW.region ?_
      refine AOps.cons (op_assign (A := rd (kint .i64) 0) rfl rfl (vk rfl)) rfl ?_
      refine AOps.nil ?_
      refine AW.block ?_
      refine AW.loopG (d := []) (ν := Nat × (List Env) × Int × Value) (fun n => True ∧ F23_l2 x3 turn9 go1 n.1 n.2.1 n.2.2.1 = some r) (fun n => n.1) (fun n => [(0, rd (ksl kGroup) l1), (3, raw n.2.2.2), (4, rd (ksl (kint .i64)) x3), (5, rd (kint .i64) turn9), (6, rd (kint .i64) n.2.2.1)]) (fun n => [(1001, Row n.2.2.2 31 kEnv n.2.1)]) (fuel0, l7, 0, v8) ⟨trivial, h⟩ ⟨rfl, ⟨rfl, rfl, rfl, rfl, rfl, trivial⟩, ⟨rfl, trivial⟩⟩ ?_
      rintro ⟨m18, l15, n17, v16⟩ ⟨hsf2, h⟩
      change True at hsf2
      change F23_l2 x3 turn9 go1 m18 l15 n17 = some r at h
      change AW _ _ _ ⟨slots [(0, rd (ksl kGroup) l1), (3, raw v16), (4, rd (ksl (kint .i64)) x3), (5, rd (kint .i64) turn9), (6, rd (kint .i64) n17)], ress [(1001, Row v16 31 kEnv l15)], _⟩
      cases m18 with
      | zero => cases h
      | succ m18 =>
        unfold F23_l2 at h
        generalize hgo2 : F23_l2 x3 turn9 go1 m18 = go2 at h
        refine AW.seq ?_
        refine AW.seq ?_
        obtain ⟨q19, hq19, h⟩ := bsome h
        refine AW.region ?_
        refine AOps.cons (op_move (A := rd (kint .i64) n17) rfl rfl (vt rfl)) rfl ?_
        refine AOps.cons (op_move (A := rd (ksl (kint .i64)) x3) rfl rfl (vt rfl)) rfl ?_
        refine AOps.cons (op_len' rfl rfl sl29 (vt rfl)) rfl ?_
        refine AOps.cons (op_convu rfl rfl us3 un113 (vt rfl)) rfl ?_
        refine AOps.cons (op_shl rfl rfl (vk rfl) (vu64 (vt rfl)) hq19) rfl ?_
        refine AOps.cons (op_lss rfl rfl (vt rfl) (vt rfl)) rfl ?_
        refine AOps.nil ?_
        refine AW.cond (vt rfl) (fun hc => ?_) (fun hc => ?_)
        · have h := cond_t hc h
          refine AW.skip ?_
          refine AW.seq ?_
          refine AW.block ?_
          refine AW.seq ?_
          refine AW.newnil 2161 3 (kint .i64) ?_
          refine AW.region ?_
          refine AOps.cons (op_move (A := rd (kint .i64) turn9) rfl rfl (vt rfl)) rfl ?_
          refine AOps.cons (op_build (ps := [(0, .tmp 26)]) (x := (⟨turn9, (.slice none 0 0)⟩ : Env_o1)) rfl rfl rfl (by kernel_rfl) zrv31_1 ⟨_, _, lEnv_o1_0, _, by kernel_rfl, (vt rfl), rfl⟩) rfl ?_
          refine AOps.consT rfl (op_alloc 8 rfl rfl zrv31_1) ?_
          rintro _ ⟨g20, rfl⟩
          refine AOps.cons (op_store rfl rfl tyv31_1 (vt rfl) (i := 8) rfl (vt rfl)) rfl ?_
          refine AOps.nil ?_
          refine AW.seq ?_
          refine AW.seq ?_
          refine AW.region ?_
          refine AOps.cons (op_assign (A := rd (kint .i64) 0) rfl rfl (vk rfl)) rfl ?_
          refine AOps.nil ?_
          refine AW.block ?_
          refine AW.loopG (d := []) (ν := Nat × (List Int) × Int × Value) (fun n => True ∧ F23_l3 x3 n17 l15 turn9 go2 n.1 n.2.1 n.2.2.1 = some r) (fun n => n.1) (fun n => [(0, rd (ksl kGroup) l1), (3, raw v16), (4, rd (ksl (kint .i64)) x3), (5, rd (kint .i64) turn9), (6, rd (kint .i64) n17), (7, ptrL g20 (Lens.id kEnv_o1)), (8, rd (kint .i64) n.2.2.1)]) (fun n => [(8, Blk g20 31 kEnv_o1 (⟨turn9, n.2.2.2⟩ : Env_o1)), (1001, Row v16 31 kEnv l15), (2161, Row n.2.2.2 3 (kint .i64) n.2.1)]) (((((x3.length : Int) : Int) - 0).toNat + 1), [], 0, (.slice none 0 0)) ⟨trivial, h⟩ ⟨rfl, ⟨rfl, rfl, rfl, rfl, rfl, rfl, rfl, trivial⟩, ⟨rfl, rfl, rfl, trivial⟩⟩ ?_
          rintro ⟨m27, l24, i26, v25⟩ ⟨hsf3, h⟩
          change True at hsf3
          change F23_l3 x3 n17 l15 turn9 go2 m27 l24 i26 = some r at h
          change AW _ _ _ ⟨slots [(0, rd (ksl kGroup) l1), (3, raw v16), (4, rd (ksl (kint .i64)) x3), (5, rd (kint .i64) turn9), (6, rd (kint .i64) n17), (7, ptrL g20 (Lens.id kEnv_o1)), (8, rd (kint .i64) i26)], ress [(8, Blk g20 31 kEnv_o1 (⟨turn9, v25⟩ : Env_o1)), (1001, Row v16 31 kEnv l15), (2161, Row v25 3 (kint .i64) l24)], _⟩
          cases m27 with
          | zero => cases h
          | succ m27 =>
            unfold F23_l3 at h
            generalize hgo3 : F23_l3 x3 n17 l15 turn9 go2 m27 = go3 at h
            refine AW.seq ?_
            refine AW.seq ?_
            refine AW.region ?_
            refine AOps.cons (op_move (A := rd (kint .i64) i26) rfl rfl (vt rfl)) rfl ?_
            refine AOps.cons (op_move (A := rd (ksl (kint .i64)) x3) rfl rfl (vt rfl)) rfl ?_
            refine AOps.cons (op_len' rfl rfl sl29 (vt rfl)) rfl ?_
            refine AOps.cons (op_lss rfl rfl (vt rfl) (vt rfl)) rfl ?_
            refine AOps.nil ?_
            refine AW.cond (vt rfl) (fun hc => ?_) (fun hc => ?_)
            · have h := cond_t hc h
              refine AW.skip ?_
              refine AW.seq ?_
              refine AW.block ?_
              refine AW.seq ?_
              obtain ⟨q28, hq28, h⟩ := bsome h
              obtain ⟨q29, hq29, h⟩ := bsome h
              refine AW.region ?_
              refine AOps.cons (op_move (A := rd (kint .i64) n17) rfl rfl (vt rfl)) rfl ?_
              refine AOps.cons (op_move (A := rd (kint .i64) i26) rfl rfl (vt rfl)) rfl ?_
              refine AOps.cons (op_convu rfl rfl us3 un113 (vt rfl)) rfl ?_
              refine AOps.cons (op_shr rfl rfl (vt rfl) (vu64 (vt rfl)) hq28) rfl ?_
              refine AOps.cons (op_rem rfl rfl (vt rfl) (vk rfl) hq29) rfl ?_
              refine AOps.cons (op_eql rfl rfl (vt rfl) (vk rfl)) rfl ?_
              refine AOps.nil ?_
              refine AW.cond (vt rfl) (fun hc => ?_) (fun hc => ?_)
              · have h := cond_t hc h
                obtain ⟨e30, he30, h⟩ := bsome h
                obtain ⟨l31, hl31, h⟩ := bsome h
                refine AW.regionAny [⟨[7], [40], [], []⟩, ⟨[40], [41], [8], []⟩, ⟨[4], [42], [], []⟩, ⟨[8], [43], [], []⟩, ⟨[42, 43], [44], [], []⟩, ⟨[44], [45], [], []⟩, ⟨[45], [46], [], []⟩, ⟨[41, 46], [47], [2161], [2161]⟩, ⟨[7], [48], [], []⟩, ⟨[48, 47], [47], [8], [8]⟩] mixed (by kernel_rfl) ?_
                refine SeqA.cons (loc [7] [] rfl rfl fun S hs hr => op_field lEnv_o1_1 rfl rfl flv31_1_1 (vt ((hs 7 rfl).trans rfl))) ⟨rfl, rfl, rfl, rfl⟩ ?_
                refine SeqA.cons (loc [40] [8] rfl rfl fun S hs hr => op_loadv v25 rfl rfl tyr29 (vt ((hs 40 rfl).trans rfl)) (i := 8) ((hr 8 rfl).trans rfl) rfl) ⟨rfl, rfl, rfl, rfl⟩ ?_
                refine SeqA.cons (loc [4] [] rfl rfl fun S hs hr => op_move (A := rd (ksl (kint .i64)) x3) rfl rfl (vt ((hs 4 rfl).trans rfl))) ⟨rfl, rfl, rfl, rfl⟩ ?_
                refine SeqA.cons (loc [8] [] rfl rfl fun S hs hr => op_move (A := rd (kint .i64) i26) rfl rfl (vt ((hs 8 rfl).trans rfl))) ⟨rfl, rfl, rfl, rfl⟩ ?_
                refine SeqA.cons (loc [42, 43] [] rfl rfl fun S hs hr => op_indexs' rfl rfl sl29 (vt ((hs 42 rfl).trans rfl)) (vt ((hs 43 rfl).trans rfl)) he30) ⟨rfl, rfl, rfl, rfl⟩ ?_
                refine SeqA.cons (loc [44] [] rfl rfl fun S hs hr => op_loadp rfl rfl ty3 (vt ((hs 44 rfl).trans rfl))) ⟨rfl, rfl, rfl, rfl⟩ ?_
                refine SeqA.cons (loc [45] [] rfl rfl fun S hs hr => op_buildSliceR (ps := [(0, .tmp 45)]) (l := [e30]) rfl rfl sl29 zr3 rfl rfl ⟨_, _, Lens.idx 1 (kint .i64) 0 (by decide), _, rfl, (vt ((hs 45 rfl).trans rfl)), rfl⟩ rfl) ⟨rfl, rfl, rfl, rfl⟩ ?_
                refine SeqA.cons (locs (us := [(47, ownR 3 (kint .i64) l31)]) (ur := [(2161, emp)]) [41, 46] [2161] rfl fun S hs hr => op_appendO 2161 hl31 rfl rfl rfl el29 (vt ((hs 41 rfl).trans rfl)) ((hr 2161 rfl).trans rfl) (vt ((hs 46 rfl).trans rfl))) ⟨rfl, rfl, rfl, rfl⟩ ?_
                refine SeqA.cons (loc [7] [] rfl rfl fun S hs hr => op_field lEnv_o1_1 rfl rfl flv31_1_1 (vt ((hs 7 rfl).trans rfl))) ⟨rfl, rfl, rfl, rfl⟩ ?_
                refine SeqA.cons (locs (us := [(47, top)]) (ur := [(8, BoxF g20 31 kEnv_o1 (fun v => ((Lens.comp (Lens.id kEnv_o1) lEnv_o1_1)).set (⟨turn9, v25⟩ : Env_o1) v) 3 (kint .i64) l31)]) [48, 47] [8] rfl fun S hs hr => op_storeR rfl rfl tyr29 (vt ((hs 48 rfl).trans rfl)) ((hr 8 rfl).trans rfl) ((hs 47 rfl).trans rfl)) ⟨rfl, rfl, rfl, rfl⟩ ?_
                refine AW.unboxF 8 2161 (by decide) rfl rfl fun v32 => ?_
                refine AW.region ?_
                refine AOps.cons (op_move (A := rd (kint .i64) i26) rfl rfl (vt rfl)) rfl ?_
                refine AOps.cons (op_add rfl rfl (vt rfl) (vk rfl)) rfl ?_
                refine AOps.cons (op_assign (A := rd (kint .i64) (IntKind.i64.wrap (i26 + 1))) rfl rfl (vt rfl)) rfl ?_
                refine AOps.nil ?_
                subst hgo3
                exact ⟨(m27, l31, (IntKind.i64.wrap (i26 + 1)), v32), Nat.lt_succ_self _, ⟨trivial, h⟩, ⟨rfl, ⟨rfl, rfl, rfl, rfl, rfl, rfl, rfl, trivial⟩, ⟨rfl, rfl, rfl, trivial⟩⟩⟩
              · have h := cond_f hc h
                refine AW.skip ?_
                refine AW.region ?_
                refine AOps.cons (op_move (A := rd (kint .i64) i26) rfl rfl (vt rfl)) rfl ?_
                refine AOps.cons (op_add rfl rfl (vt rfl) (vk rfl)) rfl ?_
                refine AOps.cons (op_assign (A := rd (kint .i64) (IntKind.i64.wrap (i26 + 1))) rfl rfl (vt rfl)) rfl ?_
                refine AOps.nil ?_
                subst hgo3
                exact ⟨(m27, l24, (IntKind.i64.wrap (i26 + 1)), v25), Nat.lt_succ_self _, ⟨trivial, h⟩, ⟨rfl, ⟨rfl, rfl, rfl, rfl, rfl, rfl, rfl, trivial⟩, ⟨rfl, rfl, rfl, trivial⟩⟩⟩
            · have h := cond_f hc h
              refine AW.exit ?_
              refine AW.freezeF 8 2161 kEnv (⟨turn9, l24⟩ : Env) rfl (by decide) rfl rfl (cvEnv_o1 _ _) ?_
              obtain ⟨l33, hl33, h⟩ := bsome h
              refine AW.region ?_
              refine AOps.cons (op_move (A := raw v16) rfl rfl (vt rfl)) rfl ?_
              refine AOps.cons (op_load (L := (Lens.id kEnv)) rfl rfl ty31 (vt rfl) (i := 8) rfl) rfl ?_
              refine AOps.cons (op_buildSliceR (ps := [(0, .tmp 50)]) (l := [(⟨turn9, l24⟩ : Env)]) rfl rfl sl26 zr31 rfl rfl ⟨_, _, Lens.idx 1 kEnv 0 (by decide), _, rfl, (vt rfl), rfl⟩ rfl) rfl ?_
              refine AOps.consT rfl (op_append' 1001 hl33 rfl rfl el26 (vt rfl) rfl (vt rfl)) ?_
              rintro _ ⟨v34, rfl⟩
              refine AOps.cons (op_assign (A := raw v34) rfl rfl (vt rfl)) rfl ?_
              refine AOps.nil ?_
              refine AW.region ?_
              refine AOps.cons (op_move (A := rd (kint .i64) n17) rfl rfl (vt rfl)) rfl ?_
              refine AOps.cons (op_add rfl rfl (vt rfl) (vk rfl)) rfl ?_
              refine AOps.cons (op_assign (A := rd (kint .i64) (IntKind.i64.wrap (n17 + 1))) rfl rfl (vt rfl)) rfl ?_
              refine AOps.nil ?_
              subst hgo2
              exact ⟨(m18, l33, (IntKind.i64.wrap (n17 + 1)), v34), Nat.lt_succ_self _, ⟨trivial, h⟩, ⟨rfl, ⟨rfl, rfl, rfl, rfl, rfl, trivial⟩, ⟨rfl, trivial⟩⟩⟩
        · have h := cond_f hc h
          refine AW.exit ?_
          refine AW.region ?_
          refine AOps.cons (op_move (A := rd (kint .i64) turn9) rfl rfl (vt rfl)) rfl ?_
          refine AOps.cons (op_add rfl rfl (vt rfl) (vk rfl)) rfl ?_
          refine AOps.cons (op_assign (A := rd (kint .i64) (IntKind.i64.wrap (turn9 + 1))) rfl rfl (vt rfl)) rfl ?_
          refine AOps.nil ?_
          subst hgo1
          exact ⟨(m10, l15, (IntKind.i64.wrap (turn9 + 1)), v16), Nat.lt_succ_self _, ⟨trivial, h⟩, ⟨rfl, ⟨rfl, rfl, rfl, rfl, trivial⟩, ⟨rfl, trivial⟩⟩⟩
    · have h := cond_f hc h
      refine AW.exit ?_
      refine AW.seq ?_
      refine AW.region ?_
      refine AOps.cons (op_move (A := raw v8) rfl rfl (vt rfl)) rfl ?_
      refine AOps.cons (op_assign (A := raw v8) rfl rfl (vt rfl)) rfl ?_
      refine AOps.nil ?_
      refine AW.freezes [2, 3, 53] 1001 rfl ⟨rfl, rfl, rfl, trivial⟩ rfl ?_
      refine AW.ret ?_
      obtain rfl := Option.some.inj h
      exact ret1 Try.results23 rfl (out_tmp rfl)
-- weirbox/weirboxref29.Which
def F75 (e1 : Env) (n2 : Int) : Option Int :=
  (bif (decide (n2 < 1)) then some 0 else (omod e1.Turn n2).bind fun q4 => (bif (decide (q4 < 0)) then some (IntKind.i64.wrap (q4 + n2)) else some q4))
theorem c75 (e1 : Env) (n2 : Int) (r : Int) (h : F75 e1 n2 = some r) : PCon Try.prog 75 [rd kEnv e1, rd (kint .i64) n2] (rd (kint .i64) r) := by
  refine PCon.of (Con.intro0 Try.func75 rfl Try.ntmps75 rfl fun w H => ?_)
  unfold F75 at h
  refine AW.seq ?_
  refine AW.region ?_
  refine AOps.consT rfl (op_box 3 rfl rfl (vt rfl)) ?_
  rintro _ ⟨g3, rfl⟩
  refine AOps.cons (op_assign (A := rd (kint .i64) 0) rfl rfl (vk rfl)) rfl ?_
  refine AOps.nil ?_
  refine AW.seq ?_
  refine AW.seq ?_
  refine AW.region ?_
  refine AOps.cons (op_move (A := rd (kint .i64) n2) rfl rfl (vt rfl)) rfl ?_
  refine AOps.cons (op_lss rfl rfl (vt rfl) (vk rfl)) rfl ?_
  refine AOps.nil ?_
  refine AW.cond (vt rfl) (fun hc => ?_) (fun hc => ?_)
  · have h := cond_t hc h
    refine AW.seq ?_
    refine AW.region ?_
    refine AOps.cons (op_assign (A := rd (kint .i64) 0) rfl rfl (vk rfl)) rfl ?_
    refine AOps.nil ?_
    refine AW.ret ?_
    obtain rfl := Option.some.inj h
    exact ret1 Try.results75 rfl (out_tmp rfl)
  · have h := cond_f hc h
    refine AW.skip ?_
    refine AW.seq ?_
    obtain ⟨q4, hq4, h⟩ := bsome h
    refine AW.region ?_
    refine AOps.cons (op_field lEnv_0 rfl rfl fl31_0 (vt rfl)) rfl ?_
    refine AOps.cons (op_load rfl rfl ty3 (vt rfl) (i := 3) rfl) rfl ?_
    refine AOps.cons (op_move (A := rd (kint .i64) n2) rfl rfl (vt rfl)) rfl ?_
    refine AOps.cons (op_rem rfl rfl (vt rfl) (vt rfl) hq4) rfl ?_
    refine AOps.cons (op_assign (A := rd (kint .i64) q4) rfl rfl (vt rfl)) rfl ?_
    refine AOps.nil ?_
    refine AW.seq ?_
    refine AW.seq ?_
    refine AW.region ?_
    refine AOps.cons (op_move (A := rd (kint .i64) q4) rfl rfl (vt rfl)) rfl ?_
    refine AOps.cons (op_lss rfl rfl (vt rfl) (vk rfl)) rfl ?_
    refine AOps.nil ?_
    refine AW.cond (vt rfl) (fun hc => ?_) (fun hc => ?_)
    · have h := cond_t hc h
      refine AW.region ?_
      refine AOps.cons (op_move (A := rd (kint .i64) q4) rfl rfl (vt rfl)) rfl ?_
      refine AOps.cons (op_move (A := rd (kint .i64) n2) rfl rfl (vt rfl)) rfl ?_
      refine AOps.cons (op_add rfl rfl (vt rfl) (vt rfl)) rfl ?_
      refine AOps.cons (op_assign (A := rd (kint .i64) (IntKind.i64.wrap (q4 + n2))) rfl rfl (vt rfl)) rfl ?_
      refine AOps.nil ?_
      refine AW.seq ?_
      refine AW.region ?_
      refine AOps.cons (op_move (A := rd (kint .i64) (IntKind.i64.wrap (q4 + n2))) rfl rfl (vt rfl)) rfl ?_
      refine AOps.cons (op_assign (A := rd (kint .i64) (IntKind.i64.wrap (q4 + n2))) rfl rfl (vt rfl)) rfl ?_
      refine AOps.nil ?_
      refine AW.ret ?_
      obtain rfl := Option.some.inj h
      exact ret1 Try.results75 rfl (out_tmp rfl)
    · have h := cond_f hc h
      refine AW.skip ?_
      refine AW.seq ?_
      refine AW.region ?_
      refine AOps.cons (op_move (A := rd (kint .i64) q4) rfl rfl (vt rfl)) rfl ?_
      refine AOps.cons (op_assign (A := rd (kint .i64) q4) rfl rfl (vt rfl)) rfl ?_
      refine AOps.nil ?_
      refine AW.ret ?_
      obtain rfl := Option.some.inj h
      exact ret1 Try.results75 rfl (out_tmp rfl)
-- weirbox/weirboxref29.Up
def F76_l1 (e1 : Env) (port2 : Int) : Nat → Int → Option Bool
  | 0, _ => none
  | m6 + 1, i5 => (bif (decide (i5 < (e1.Down.length : Int))) then (lget e1.Down i5).bind fun e7 => (bif (decide (e7 = port2)) then some false else (F76_l1 e1 port2 m6) (IntKind.i64.wrap (i5 + 1))) else some true)
def F76 (e1 : Env) (port2 : Int) : Option Bool :=
  F76_l1 e1 port2 ((((e1.Down.length : Int) : Int) - 0).toNat + 1) 0
theorem c76 (e1 : Env) (port2 : Int) (r : Bool) (h : F76 e1 port2 = some r) : PCon Try.prog 76 [rd kEnv e1, rd (kint .i64) port2] (rd kbool r) := by
  refine PCon.of (Con.intro0 Try.func76 rfl Try.ntmps76 rfl fun w H => ?_)
  unfold F76 at h
  refine AW.seq ?_
  refine AW.region ?_
  refine AOps.consT rfl (op_box 3 rfl rfl (vt rfl)) ?_
  rintro _ ⟨g3, rfl⟩
  refine AOps.cons (op_assign (A := rd kbool false) rfl rfl vb) rfl ?_
  refine AOps.nil ?_
  refine AW.seq ?_
  refine AW.seq ?_
  refine AW.region ?_
  refine AOps.cons (op_assign (A := rd (kint .i64) 0) rfl rfl (vk rfl)) rfl ?_
  refine AOps.nil ?_
  refine AW.block ?_
  refine AW.loopG (d := []) (ν := Nat × Int) (fun n => True ∧ F76_l1 e1 port2 n.1 n.2 = some r) (fun n => n.1) (fun n => [(1, rd (kint .i64) port2), (2, ptrL g3 (Lens.id kEnv)), (5, rd (kint .i64) n.2)]) (fun n => [(3, Blk g3 31 kEnv e1)]) (((((e1.Down.length : Int) : Int) - 0).toNat + 1), 0) ⟨trivial, h⟩ ⟨rfl, ⟨rfl, rfl, rfl, trivial⟩, ⟨rfl, trivial⟩⟩ ?_
  rintro ⟨m6, i5⟩ ⟨hsf1, h⟩
  change True at hsf1
  change F76_l1 e1 port2 m6 i5 = some r at h
  change AW _ _ _ ⟨slots [(1, rd (kint .i64) port2), (2, ptrL g3 (Lens.id kEnv)), (5, rd (kint .i64) i5)], ress [(3, Blk g3 31 kEnv e1)], _⟩
  cases m6 with
  | zero => cases h
  | succ m6 =>
    unfold F76_l1 at h
    generalize hgo1 : F76_l1 e1 port2 m6 = go1 at h
    refine AW.seq ?_
    refine AW.seq ?_
    refine AW.region ?_
    refine AOps.cons (op_move (A := rd (kint .i64) i5) rfl rfl (vt rfl)) rfl ?_
    refine AOps.cons (op_field lEnv_1 rfl rfl fl31_1 (vt rfl)) rfl ?_
    refine AOps.cons (op_load rfl rfl ty29 (vt rfl) (i := 3) rfl) rfl ?_
    refine AOps.cons (op_len' rfl rfl sl29 (vt rfl)) rfl ?_
    refine AOps.cons (op_lss rfl rfl (vt rfl) (vt rfl)) rfl ?_
    refine AOps.nil ?_
    refine AW.cond (vt rfl) (fun hc => ?_) (fun hc => ?_)
    · have h := cond_t hc h
      refine AW.skip ?_
      refine AW.seq ?_
      refine AW.block ?_
      refine AW.seq ?_
      obtain ⟨e7, he7, h⟩ := bsome h
      refine AW.region ?_
      refine AOps.cons (op_field lEnv_1 rfl rfl fl31_1 (vt rfl)) rfl ?_
      refine AOps.cons (op_load rfl rfl ty29 (vt rfl) (i := 3) rfl) rfl ?_
      refine AOps.cons (op_move (A := rd (kint .i64) i5) rfl rfl (vt rfl)) rfl ?_
      refine AOps.cons (op_indexs' rfl rfl sl29 (vt rfl) (vt rfl) he7) rfl ?_
      refine AOps.cons (op_loadp rfl rfl ty3 (vt rfl)) rfl ?_
      refine AOps.cons (op_move (A := rd (kint .i64) port2) rfl rfl (vt rfl)) rfl ?_
      refine AOps.cons (op_eql rfl rfl (vt rfl) (vt rfl)) rfl ?_
      refine AOps.nil ?_
      refine AW.cond (vt rfl) (fun hc => ?_) (fun hc => ?_)
      · have h := cond_t hc h
        refine AW.seq ?_
        refine AW.region ?_
        refine AOps.cons (op_assign (A := rd kbool false) rfl rfl vb) rfl ?_
        refine AOps.nil ?_
        refine AW.ret ?_
        obtain rfl := Option.some.inj h
        exact ret1 Try.results76 rfl (out_tmp rfl)
      · have h := cond_f hc h
        refine AW.skip ?_
        refine AW.region ?_
        refine AOps.cons (op_move (A := rd (kint .i64) i5) rfl rfl (vt rfl)) rfl ?_
        refine AOps.cons (op_add rfl rfl (vt rfl) (vk rfl)) rfl ?_
        refine AOps.cons (op_assign (A := rd (kint .i64) (IntKind.i64.wrap (i5 + 1))) rfl rfl (vt rfl)) rfl ?_
        refine AOps.nil ?_
        subst hgo1
        exact ⟨(m6, (IntKind.i64.wrap (i5 + 1))), Nat.lt_succ_self _, ⟨trivial, h⟩, ⟨rfl, ⟨rfl, rfl, rfl, trivial⟩, ⟨rfl, trivial⟩⟩⟩
    · have h := cond_f hc h
      refine AW.exit ?_
      refine AW.seq ?_
      refine AW.region ?_
      refine AOps.cons (op_assign (A := rd kbool true) rfl rfl vb) rfl ?_
      refine AOps.nil ?_
      refine AW.ret ?_
      obtain rfl := Option.some.inj h
      exact ret1 Try.results76 rfl (out_tmp rfl)
-- weirbox/weirboxref40.Fold
def F29_l1 (x8 : (List Int)) (e1 : Env) (x6 : Int) : Nat → (List Int) → Int → Option Env
  | 0, _, _ => none
  | m15 + 1, l12, i14 => (bif (decide (i14 < (x8.length : Int))) then (lget x8 i14).bind fun e16 => (F76 e1 e16).bind fun x17 => (bif (!x17) then (lget x8 i14).bind fun e18 => (appd l12 [e18]).bind fun l19 => (F29_l1 x8 e1 x6 m15) l19 (IntKind.i64.wrap (i14 + 1)) else (F29_l1 x8 e1 x6 m15) l12 (IntKind.i64.wrap (i14 + 1))) else some (⟨x6, l12⟩ : Env))
def F29 (e1 : Env) (l2 : (List Group)) : Option Env :=
  (F28 l2).bind fun x5 => (F75 e1 x5).bind fun x6 => (F26 l2).bind fun x8 => F29_l1 x8 e1 x6 ((((x8.length : Int) : Int) - 0).toNat + 1) [] 0
theorem c29 (e1 : Env) (l2 : (List Group)) (r : Env) (h : F29 e1 l2 = some r) : PCon Try.prog 29 [rd kEnv e1, rd (ksl kGroup) l2] (rd kEnv r) := by
  refine PCon.of (Con.intro0 Try.func29 rfl Try.ntmps29 rfl fun w H => ?_)
  unfold F29 at h
  refine AW.seq ?_
  refine AW.region ?_
  refine AOps.consT rfl (op_box 3 rfl rfl (vt rfl)) ?_
  rintro _ ⟨g3, rfl⟩
  refine AOps.consT rfl (op_alloc 5 rfl rfl zr31) ?_
  rintro _ ⟨g4, rfl⟩
  refine AOps.nil ?_
  refine AW.seq ?_
  refine AW.newnil 2121 3 (kint .i64) ?_
  obtain ⟨x5, hx5, h⟩ := bsome h
  obtain ⟨x6, hx6, h⟩ := bsome h
  refine AW.regionAny [⟨[2], [8], [3], []⟩, ⟨[1], [9], [], []⟩, ⟨[9], [10], [], []⟩, ⟨[8, 10], [11], [], []⟩, ⟨[11], [12], [], []⟩, ⟨[], [5], [], []⟩, ⟨[5, 12], [5], [], []⟩] mixed (by kernel_rfl) ?_
  refine SeqA.cons (loc [2] [3] rfl rfl fun S hs hr => op_load rfl rfl ty31 (vt ((hs 2 rfl).trans rfl)) (i := 3) ((hr 3 rfl).trans rfl)) ⟨rfl, rfl, rfl, rfl⟩ ?_
  refine SeqA.cons (loc [1] [] rfl rfl fun S hs hr => op_move (A := rd (ksl kGroup) l2) rfl rfl (vt ((hs 1 rfl).trans rfl))) ⟨rfl, rfl, rfl, rfl⟩ ?_
  refine SeqA.cons (loc [9] [] rfl rfl fun S hs hr => op_call (xs := [.tmp 9]) (c28 _ _ hx5) (Ent.mk Try.func28 rfl rfl) rfl rfl ⟨vt ((hs 9 rfl).trans rfl), trivial⟩) ⟨rfl, rfl, rfl, rfl⟩ ?_
  refine SeqA.cons (loc [8, 10] [] rfl rfl fun S hs hr => op_call (xs := [.tmp 8, .tmp 10]) (c75 _ _ _ hx6) (Ent.mk Try.func75 rfl rfl) rfl rfl ⟨vt ((hs 8 rfl).trans rfl), vt ((hs 10 rfl).trans rfl), trivial⟩) ⟨rfl, rfl, rfl, rfl⟩ ?_
  refine SeqA.cons (loc [11] [] rfl rfl fun S hs hr => op_build (ps := [(0, .tmp 11)]) (x := (⟨x6, (.slice none 0 0)⟩ : Env_o1)) rfl rfl rfl (by kernel_rfl) zrv31_1 ⟨_, _, lEnv_o1_0, _, by kernel_rfl, (vt ((hs 11 rfl).trans rfl)), rfl⟩) ⟨rfl, rfl, rfl, rfl⟩ ?_
  refine SeqA.cons (locs (us := [(5, ownP 31 kEnv_o1 zEnv_o1)]) (ur := []) [] [] rfl fun S hs hr => op_allocO rfl rfl rfl zrv31_1) ⟨rfl, rfl, rfl, rfl⟩ ?_
  refine SeqA.cons (locs (us := [(5, ownP 31 kEnv_o1 (⟨x6, (.slice none 0 0)⟩ : Env_o1))]) (ur := []) [5, 12] [] rfl fun S hs hr => op_storeO rfl rfl tyv31_1 ((hs 5 rfl).trans rfl) (vt ((hs 12 rfl).trans rfl))) ⟨rfl, rfl, rfl, rfl⟩ ?_
  refine AW.unpackP 5 6 rfl rfl fun g7 => ?_
  refine AW.seq ?_
  obtain ⟨x8, hx8, h⟩ := bsome h
  refine AW.region ?_
  refine AOps.cons (op_move (A := rd (ksl kGroup) l2) rfl rfl (vt rfl)) rfl ?_
  refine AOps.cons (op_call (xs := [.tmp 13]) (c26 _ _ hx8) (Ent.mk Try.func26 rfl rfl) rfl rfl ⟨vt rfl, trivial⟩) rfl ?_
  refine AOps.cons (op_assign (A := rd (ksl (kint .i64)) x8) rfl rfl (vt rfl)) rfl ?_
  refine AOps.nil ?_
  refine AW.seq ?_
  refine AW.seq ?_
  refine AW.region ?_
  refine AOps.cons (op_assign (A := rd (kint .i64) 0) rfl rfl (vk rfl)) rfl ?_
  refine AOps.nil ?_
  refine AW.block ?_
  refine AW.loopG (d := []) (ν := Nat × (List Int) × Int × Value) (fun n => True ∧ F29_l1 x8 e1 x6 n.1 n.2.1 n.2.2.1 = some r) (fun n => n.1) (fun n => [(2, ptrL g3 (Lens.id kEnv)), (4, ptrL g4 (Lens.id kEnv)), (5, ptrL g7 (Lens.id kEnv_o1)), (6, rd (ksl (kint .i64)) x8), (7, rd (kint .i64) n.2.2.1)]) (fun n => [(3, Blk g3 31 kEnv e1), (5, Blk g4 31 kEnv zEnv), (6, Blk g7 31 kEnv_o1 (⟨x6, n.2.2.2⟩ : Env_o1)), (2121, Row n.2.2.2 3 (kint .i64) n.2.1)]) (((((x8.length : Int) : Int) - 0).toNat + 1), [], 0, (.slice none 0 0)) ⟨trivial, h⟩ ⟨rfl, ⟨rfl, rfl, rfl, rfl, rfl, trivial⟩, ⟨rfl, rfl, rfl, rfl, trivial⟩⟩ ?_
  rintro ⟨m15, l12, i14, v13⟩ ⟨hsf1, h⟩
  change True at hsf1
  change F29_l1 x8 e1 x6 m15 l12 i14 = some r at h
  change AW _ _ _ ⟨slots [(2, ptrL g3 (Lens.id kEnv)), (4, ptrL g4 (Lens.id kEnv)), (5, ptrL g7 (Lens.id kEnv_o1)), (6, rd (ksl (kint .i64)) x8), (7, rd (kint .i64) i14)], ress [(3, Blk g3 31 kEnv e1), (5, Blk g4 31 kEnv zEnv), (6, Blk g7 31 kEnv_o1 (⟨x6, v13⟩ : Env_o1)), (2121, Row v13 3 (kint .i64) l12)], _⟩
  cases m15 with
  | zero => cases h
  | succ m15 =>
    unfold F29_l1 at h
    generalize hgo1 : F29_l1 x8 e1 x6 m15 = go1 at h
    refine AW.seq ?_
    refine AW.seq ?_
    refine AW.region ?_
    refine AOps.cons (op_move (A := rd (kint .i64) i14) rfl rfl (vt rfl)) rfl ?_
    refine AOps.cons (op_move (A := rd (ksl (kint .i64)) x8) rfl rfl (vt rfl)) rfl ?_
    refine AOps.cons (op_len' rfl rfl sl29 (vt rfl)) rfl ?_
    refine AOps.cons (op_lss rfl rfl (vt rfl) (vt rfl)) rfl ?_
    refine AOps.nil ?_
    refine AW.cond (vt rfl) (fun hc => ?_) (fun hc => ?_)
    · have h := cond_t hc h
      refine AW.skip ?_
      refine AW.seq ?_
      refine AW.block ?_
      refine AW.seq ?_
      obtain ⟨e16, he16, h⟩ := bsome h
      obtain ⟨x17, hx17, h⟩ := bsome h
      refine AW.regionAny [⟨[2], [21], [3], []⟩, ⟨[6], [22], [], []⟩, ⟨[7], [23], [], []⟩, ⟨[22, 23], [24], [], []⟩, ⟨[24], [25], [], []⟩, ⟨[21, 25], [26], [], []⟩, ⟨[26], [27], [], []⟩] mixed (by kernel_rfl) ?_
      refine SeqA.cons (loc [2] [3] rfl rfl fun S hs hr => op_load rfl rfl ty31 (vt ((hs 2 rfl).trans rfl)) (i := 3) ((hr 3 rfl).trans rfl)) ⟨rfl, rfl, rfl, rfl⟩ ?_
      refine SeqA.cons (loc [6] [] rfl rfl fun S hs hr => op_move (A := rd (ksl (kint .i64)) x8) rfl rfl (vt ((hs 6 rfl).trans rfl))) ⟨rfl, rfl, rfl, rfl⟩ ?_
      refine SeqA.cons (loc [7] [] rfl rfl fun S hs hr => op_move (A := rd (kint .i64) i14) rfl rfl (vt ((hs 7 rfl).trans rfl))) ⟨rfl, rfl, rfl, rfl⟩ ?_
      refine SeqA.cons (loc [22, 23] [] rfl rfl fun S hs hr => op_indexs' rfl rfl sl29 (vt ((hs 22 rfl).trans rfl)) (vt ((hs 23 rfl).trans rfl)) he16) ⟨rfl, rfl, rfl, rfl⟩ ?_
      refine SeqA.cons (loc [24] [] rfl rfl fun S hs hr => op_loadp rfl rfl ty3 (vt ((hs 24 rfl).trans rfl))) ⟨rfl, rfl, rfl, rfl⟩ ?_
      refine SeqA.cons (loc [21, 25] [] rfl rfl fun S hs hr => op_call (xs := [.tmp 21, .tmp 25]) (c76 _ _ _ hx17) (Ent.mk Try.func76 rfl rfl) rfl rfl ⟨vt ((hs 21 rfl).trans rfl), vt ((hs 25 rfl).trans rfl), trivial⟩) ⟨rfl, rfl, rfl, rfl⟩ ?_
      refine SeqA.cons (loc [26] [] rfl rfl fun S hs hr => op_not rfl rfl (vt ((hs 26 rfl).trans rfl))) ⟨rfl, rfl, rfl, rfl⟩ ?_
      refine AW.cond (vt rfl) (fun hc => ?_) (fun hc => ?_)
      · have h := cond_t hc h
        obtain ⟨e18, he18, h⟩ := bsome h
        obtain ⟨l19, hl19, h⟩ := bsome h
        refine AW.regionAny [⟨[5], [28], [], []⟩, ⟨[28], [29], [6], []⟩, ⟨[6], [30], [], []⟩, ⟨[7], [31], [], []⟩, ⟨[30, 31], [32], [], []⟩, ⟨[32], [33], [], []⟩, ⟨[33], [34], [], []⟩, ⟨[29, 34], [35], [2121], [2121]⟩, ⟨[5], [36], [], []⟩, ⟨[36, 35], [35], [6], [6]⟩] mixed (by kernel_rfl) ?_
        refine SeqA.cons (loc [5] [] rfl rfl fun S hs hr => op_field lEnv_o1_1 rfl rfl flv31_1_1 (vt ((hs 5 rfl).trans rfl))) ⟨rfl, rfl, rfl, rfl⟩ ?_
        refine SeqA.cons (loc [28] [6] rfl rfl fun S hs hr => op_loadv v13 rfl rfl tyr29 (vt ((hs 28 rfl).trans rfl)) (i := 6) ((hr 6 rfl).trans rfl) rfl) ⟨rfl, rfl, rfl, rfl⟩ ?_
        refine SeqA.cons (loc [6] [] rfl rfl fun S hs hr => op_move (A := rd (ksl (kint .i64)) x8) rfl rfl (vt ((hs 6 rfl).trans rfl))) ⟨rfl, rfl, rfl, rfl⟩ ?_
        refine SeqA.cons (loc [7] [] rfl rfl fun S hs hr => op_move (A := rd (kint .i64) i14) rfl rfl (vt ((hs 7 rfl).trans rfl))) ⟨rfl, rfl, rfl, rfl⟩ ?_
        refine SeqA.cons (loc [30, 31] [] rfl rfl fun S hs hr => op_indexs' rfl rfl sl29 (vt ((hs 30 rfl).trans rfl)) (vt ((hs 31 rfl).trans rfl)) he18) ⟨rfl, rfl, rfl, rfl⟩ ?_
        refine SeqA.cons (loc [32] [] rfl rfl fun S hs hr => op_loadp rfl rfl ty3 (vt ((hs 32 rfl).trans rfl))) ⟨rfl, rfl, rfl, rfl⟩ ?_
        refine SeqA.cons (loc [33] [] rfl rfl fun S hs hr => op_buildSliceR (ps := [(0, .tmp 33)]) (l := [e18]) rfl rfl sl29 zr3 rfl rfl ⟨_, _, Lens.idx 1 (kint .i64) 0 (by decide), _, rfl, (vt ((hs 33 rfl).trans rfl)), rfl⟩ rfl) ⟨rfl, rfl, rfl, rfl⟩ ?_
        refine SeqA.cons (locs (us := [(35, ownR 3 (kint .i64) l19)]) (ur := [(2121, emp)]) [29, 34] [2121] rfl fun S hs hr => op_appendO 2121 hl19 rfl rfl rfl el29 (vt ((hs 29 rfl).trans rfl)) ((hr 2121 rfl).trans rfl) (vt ((hs 34 rfl).trans rfl))) ⟨rfl, rfl, rfl, rfl⟩ ?_
        refine SeqA.cons (loc [5] [] rfl rfl fun S hs hr => op_field lEnv_o1_1 rfl rfl flv31_1_1 (vt ((hs 5 rfl).trans rfl))) ⟨rfl, rfl, rfl, rfl⟩ ?_
        refine SeqA.cons (locs (us := [(35, top)]) (ur := [(6, BoxF g7 31 kEnv_o1 (fun v => ((Lens.comp (Lens.id kEnv_o1) lEnv_o1_1)).set (⟨x6, v13⟩ : Env_o1) v) 3 (kint .i64) l19)]) [36, 35] [6] rfl fun S hs hr => op_storeR rfl rfl tyr29 (vt ((hs 36 rfl).trans rfl)) ((hr 6 rfl).trans rfl) ((hs 35 rfl).trans rfl)) ⟨rfl, rfl, rfl, rfl⟩ ?_
        refine AW.unboxF 6 2121 (by decide) rfl rfl fun v20 => ?_
        refine AW.region ?_
        refine AOps.cons (op_move (A := rd (kint .i64) i14) rfl rfl (vt rfl)) rfl ?_
        refine AOps.cons (op_add rfl rfl (vt rfl) (vk rfl)) rfl ?_
        refine AOps.cons (op_assign (A := rd (kint .i64) (IntKind.i64.wrap (i14 + 1))) rfl rfl (vt rfl)) rfl ?_
        refine AOps.nil ?_
        subst hgo1
        exact ⟨(m15, l19, (IntKind.i64.wrap (i14 + 1)), v20), Nat.lt_succ_self _, ⟨trivial, h⟩, ⟨rfl, ⟨rfl, rfl, rfl, rfl, rfl, trivial⟩, ⟨rfl, rfl, rfl, rfl, trivial⟩⟩⟩
      · have h := cond_f hc h
        refine AW.skip ?_
        refine AW.region ?_
        refine AOps.cons (op_move (A := rd (kint .i64) i14) rfl rfl (vt rfl)) rfl ?_
        refine AOps.cons (op_add rfl rfl (vt rfl) (vk rfl)) rfl ?_
        refine AOps.cons (op_assign (A := rd (kint .i64) (IntKind.i64.wrap (i14 + 1))) rfl rfl (vt rfl)) rfl ?_
        refine AOps.nil ?_
        subst hgo1
        exact ⟨(m15, l12, (IntKind.i64.wrap (i14 + 1)), v13), Nat.lt_succ_self _, ⟨trivial, h⟩, ⟨rfl, ⟨rfl, rfl, rfl, rfl, rfl, trivial⟩, ⟨rfl, rfl, rfl, rfl, trivial⟩⟩⟩
    · have h := cond_f hc h
      refine AW.exit ?_
      refine AW.seq ?_
      refine AW.freezeF 6 2121 kEnv (⟨x6, l12⟩ : Env) rfl (by decide) rfl rfl (cvEnv_o1 _ _) ?_
      refine AW.region ?_
      refine AOps.cons (op_load (L := (Lens.id kEnv)) rfl rfl ty31 (vt rfl) (i := 6) rfl) rfl ?_
      refine AOps.cons (op_store rfl rfl ty31 (vt rfl) (i := 5) rfl (vt rfl)) rfl ?_
      refine AOps.nil ?_
      refine AW.ret ?_
      obtain rfl := Option.some.inj h
      exact ret1 Try.results29 rfl (out_cell rfl (i := 5) rfl ty31)
-- slices.EqualFunc[[]weirbox/api.Env,[]weirbox/api.Env,weirbox/api.Env,weirbox/api.Env]
def F30_l1 (s22 : (List Env)) (eq3 : (Env → Env → Option Bool)) : (List Env) → Nat → Option Bool
  | [], i4 => some true
  | x6 :: l5, i4 => (lget s22 (i4 : Int)).bind fun e8 => (eq3 x6 e8).bind fun x10 => (bif (!x10) then some false else (F30_l1 s22 eq3 l5) (i4 + 1))
def F30 (s11 : (List Env)) (s22 : (List Env)) (eq3 : (Env → Env → Option Bool)) : Option Bool :=
  (bif (decide ((s11.length : Int) ≠ (s22.length : Int))) then some false else F30_l1 s22 eq3 s11 0)
theorem c30 (s11 : (List Env)) (s22 : (List Env)) (eq3 : (Env → Env → Option Bool)) (r : Bool) (h : F30 s11 s22 eq3 = some r) : PCon Try.prog 30 [rd (ksl kEnv) s11, rd (ksl kEnv) s22, fn2 Try.prog kEnv kEnv kbool eq3] (rd kbool r) := by
  refine PCon.of (Con.intro0 Try.func30 rfl Try.ntmps30 rfl fun w H => ?_)
  unfold F30 at h
  refine AW.seq ?_
  refine AW.region ?_
  refine AOps.cons (op_assign (A := rd kbool false) rfl rfl vb) rfl ?_
  refine AOps.nil ?_
  refine AW.seq ?_
  refine AW.seq ?_
  refine AW.region ?_
  refine AOps.cons (op_move (A := rd (ksl kEnv) s11) rfl rfl (vt rfl)) rfl ?_
  refine AOps.cons (op_len' rfl rfl sl26 (vt rfl)) rfl ?_
  refine AOps.cons (op_move (A := rd (ksl kEnv) s22) rfl rfl (vt rfl)) rfl ?_
  refine AOps.cons (op_len' rfl rfl sl26 (vt rfl)) rfl ?_
  refine AOps.cons (op_neq rfl rfl (vt rfl) (vt rfl)) rfl ?_
  refine AOps.nil ?_
  refine AW.cond (vt rfl) (fun hc => ?_) (fun hc => ?_)
  · have h := cond_t hc h
    refine AW.seq ?_
    refine AW.region ?_
    refine AOps.cons (op_assign (A := rd kbool false) rfl rfl vb) rfl ?_
    refine AOps.nil ?_
    refine AW.ret ?_
    obtain rfl := Option.some.inj h
    exact ret1 Try.results30 rfl (out_tmp rfl)
  · have h := cond_f hc h
    refine AW.skip ?_
    refine AW.seq ?_
    refine AW.seq ?_
    refine AW.region ?_
    refine AOps.cons (op_move (A := rd (ksl kEnv) s11) rfl rfl (vt rfl)) rfl ?_
    refine AOps.cons (op_len' rfl rfl sl26 (vt rfl)) rfl ?_
    refine AOps.cons (op_move (A := rd (kint .i64) 0) rfl rfl (vk rfl)) rfl ?_
    refine AOps.nil ?_
    refine AW.block ?_
    refine AW.loopG (d := []) (ν := (List Env) × Nat) (fun n => Sfx s11 n.2 n.1 ∧ F30_l1 s22 eq3 n.1 n.2 = some r) (fun n => n.1.length) (fun n => [(1, rd (ksl kEnv) s22), (2, fn2 Try.prog kEnv kEnv kbool eq3), (15, rd (ksl kEnv) s11), (16, rd (kint .i64) (s11.length : Int)), (17, rd (kint .i64) (n.2 : Int))]) (fun n => []) (s11, 0) ⟨Sfx.start _, h⟩ ⟨rfl, ⟨rfl, rfl, rfl, rfl, rfl, trivial⟩, trivial⟩ ?_
    rintro ⟨l5, i4⟩ ⟨hsf1, h⟩
    change Sfx s11 i4 l5 at hsf1
    change F30_l1 s22 eq3 l5 i4 = some r at h
    change AW _ _ _ ⟨slots [(1, rd (ksl kEnv) s22), (2, fn2 Try.prog kEnv kEnv kbool eq3), (15, rd (ksl kEnv) s11), (16, rd (kint .i64) (s11.length : Int)), (17, rd (kint .i64) (i4 : Int))], ress [], _⟩
    cases l5 with
    | nil =>
      unfold F30_l1 at h
      refine AW.seq ?_
      refine AW.region ?_
      refine AOps.cons (op_lss rfl rfl (vt rfl) (vt rfl)) rfl ?_
      refine AOps.nil ?_
      refine AW.seq ?_
      refine AW.cond (vt rfl) (fun hc => absurd (of_decide_eq_true hc) hsf1.nil) (fun hc => ?_)
      refine AW.exit ?_
      refine AW.seq ?_
      refine AW.region ?_
      refine AOps.cons (op_assign (A := rd kbool true) rfl rfl vb) rfl ?_
      refine AOps.nil ?_
      refine AW.ret ?_
      obtain rfl := Option.some.inj h
      exact ret1 Try.results30 rfl (out_tmp rfl)
    | cons x6 l5 =>
      unfold F30_l1 at h
      generalize hgo1 : F30_l1 s22 eq3 l5 = go1 at h
      refine AW.seq ?_
      refine AW.region ?_
      refine AOps.cons (op_lss rfl rfl (vt rfl) (vt rfl)) rfl ?_
      refine AOps.nil ?_
      refine AW.seq ?_
      refine AW.cond (vt rfl) (fun hc => ?_) (fun hc => absurd hsf1.cons (of_decide_eq_false hc))
      have hlti4 := of_decide_eq_true hc
      refine AW.skip ?_
      refine AW.seq ?_
      refine AW.block ?_
      refine AW.seq ?_
      refine AW.region ?_
      refine AOps.cons (op_move (A := rd (kint .i64) (i4 : Int)) rfl rfl (vt rfl)) rfl ?_
      refine AOps.cons (op_indexs' rfl rfl sl26 (vt rfl) (vt rfl) hsf1.lget) rfl ?_
      refine AOps.cons (op_loadp rfl rfl ty31 (vt rfl)) rfl ?_
      refine AOps.consT rfl (op_alloc 9 rfl rfl zr31) ?_
      rintro _ ⟨g7, rfl⟩
      refine AOps.cons (op_assign (A := rd (kint .i64) (i4 : Int)) rfl rfl (vt rfl)) rfl ?_
      refine AOps.cons (op_store rfl rfl ty31 (vt rfl) (i := 9) rfl (vt rfl)) rfl ?_
      refine AOps.nil ?_
      refine AW.seq ?_
      obtain ⟨e8, he8, h⟩ := bsome h
      refine AW.region ?_
      refine AOps.cons (op_move (A := rd (ksl kEnv) s22) rfl rfl (vt rfl)) rfl ?_
      refine AOps.cons (op_move (A := rd (kint .i64) (i4 : Int)) rfl rfl (vt rfl)) rfl ?_
      refine AOps.cons (op_indexs' rfl rfl sl26 (vt rfl) (vt rfl) he8) rfl ?_
      refine AOps.cons (op_loadp rfl rfl ty31 (vt rfl)) rfl ?_
      refine AOps.consT rfl (op_alloc 10 rfl rfl zr31) ?_
      rintro _ ⟨g9, rfl⟩
      refine AOps.cons (op_store rfl rfl ty31 (vt rfl) (i := 10) rfl (vt rfl)) rfl ?_
      refine AOps.nil ?_
      refine AW.seq ?_
      obtain ⟨x10, hx10, h⟩ := bsome h
      refine AW.region ?_
      refine AOps.cons (op_move (A := fn2 Try.prog kEnv kEnv kbool eq3) rfl rfl (vt rfl)) rfl ?_
      refine AOps.cons (op_load rfl rfl ty31 (vt rfl) (i := 9) rfl) rfl ?_
      refine AOps.cons (op_load rfl rfl ty31 (vt rfl) (i := 10) rfl) rfl ?_
      refine AOps.cons (op_call2 hx10 rfl rfl (vt rfl) (vt rfl) (vt rfl)) rfl ?_
      refine AOps.cons (op_not rfl rfl (vt rfl)) rfl ?_
      refine AOps.nil ?_
      refine AW.cond (vt rfl) (fun hc => ?_) (fun hc => ?_)
      · have h := cond_t hc h
        refine AW.seq ?_
        refine AW.region ?_
        refine AOps.cons (op_assign (A := rd kbool false) rfl rfl vb) rfl ?_
        refine AOps.nil ?_
        refine AW.ret ?_
        obtain rfl := Option.some.inj h
        exact ret1 Try.results30 rfl (out_tmp rfl)
      · have h := cond_f hc h
        refine AW.skip ?_
        refine AW.region ?_
        refine AOps.cons (op_incr (t := 16) rfl rfl (vt rfl) (vk rfl) (vt rfl) hlti4) rfl ?_
        refine AOps.cons (op_move (A := rd (kint .i64) ((i4 + 1 : Nat) : Int)) rfl rfl (vt rfl)) rfl ?_
        refine AOps.nil ?_
        subst hgo1
        exact ⟨(l5, i4 + 1), Nat.lt_succ_self _, ⟨hsf1.next, h⟩, ⟨rfl, ⟨rfl, rfl, rfl, rfl, rfl, trivial⟩, trivial⟩⟩
end Go.Proofs.Ytokmmcflinnfiaa.W
