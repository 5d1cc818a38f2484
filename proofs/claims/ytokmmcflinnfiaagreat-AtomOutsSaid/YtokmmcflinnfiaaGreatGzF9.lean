/- GzF9: a part of the proof. -/
import Derived.Test.YtokmmcflinnfiaaGreatGzF8
set_option linter.unusedVariables false
set_option maxRecDepth 4000
set_option linter.unusedSimpArgs false
namespace Go.Proofs.YtokmmcflinnfiaaGreat.W
open Go Go.Wb
-- weirbox/weirboxref28.fields
def F106_l3 (at11 : Int) (l1 : (List Action)) (i8 : Int) (go1 : (List Action) → Int → Option (List Action)) : Nat → (List Action) → Int → Option (List Action)
  | 0, _, _ => none
  | m21 + 1, l19, j20 => (bif (decide (j20 > at11)) then (lget l19 (IntKind.i64.wrap (j20 - 1))).bind fun e22 => (lget l19 j20).bind fun e23 => (F106_l3 at11 l1 i8 go1 m21) (List.set l19 j20.toNat e22) (IntKind.i64.wrap (j20 - 1)) else (lget l1 i8).bind fun e24 => (lget l19 at11).bind fun e25 => go1 (List.set l19 at11.toNat e24) (IntKind.i64.wrap (i8 + 1)))
def F106_l2 (l6 : (List Action)) (l1 : (List Action)) (i8 : Int) (go1 : (List Action) → Int → Option (List Action)) : Nat → Int → Option (List Action)
  | 0, _ => none
  | m12 + 1, at11 => (opt (decide (at11 > 0)) (lget l6 (IntKind.i64.wrap (at11 - 1)))).bind fun e13 => (opt (decide (at11 > 0)) (lget l1 i8)).bind fun e14 => (bif ((decide (at11 > 0)) && (decide (e13.Oxm.Field > e14.Oxm.Field))) then (F106_l2 l6 l1 i8 go1 m12) (IntKind.i64.wrap (at11 - 1)) else (appd l6 [(⟨0, 0, 0, 0, 0, zOxm⟩ : Action)]).bind fun l15 => F106_l3 at11 l1 i8 go1 ((((IntKind.i64.wrap ((l15.length : Int) - 1)) : Int) - at11).toNat + 1) l15 (IntKind.i64.wrap ((l15.length : Int) - 1)))
def F106_l1 (l1 : (List Action)) : Nat → (List Action) → Int → Option (List Action)
  | 0, _, _ => none
  | m9 + 1, l6, i8 => (bif (decide (i8 < (l1.length : Int))) then F106_l2 l6 l1 i8 (F106_l1 l1 m9) fuel0 (l6.length : Int) else some l6)
def F106 (l1 : (List Action)) : Option (List Action) :=
  F106_l1 l1 ((((l1.length : Int) : Int) - 0).toNat + 1) [] 0
theorem c106 (l1 : (List Action)) (r : (List Action)) (h : F106 l1 = some r) : PCon Tryz.prog 106 [rd (ksl kAction) l1] (rd (ksl kAction) r) := by
  refine PCon.of (Con.intro0 Tryz.func106 rfl Tryz.ntmps106 rfl fun w H => ?_)
  unfold F106 at h
  refine AW.seq ?_
  refine AW.region ?_
  refine AOps.cons (op_assign (A := rd (ksl kAction) []) rfl rfl vnil) rfl ?_
  refine AOps.nil ?_
  refine AW.seq ?_
  refine AW.region ?_
  refine AOps.consT rfl (op_buildSlice 1001 (ps := []) (l := []) rfl rfl sl26 zr62 rfl rfl rfl rfl) ?_
  rintro _ ⟨v2, rfl⟩
  refine AOps.cons (op_assign (A := raw v2) rfl rfl (vt rfl)) rfl ?_
  refine AOps.nil ?_
  refine AW.seq ?_
  refine AW.seq ?_
  refine AW.region ?_
  refine AOps.cons (op_assign (A := rd (kint .i64) 0) rfl rfl (vk rfl)) rfl ?_
  refine AOps.nil ?_
  refine AW.block ?_
  refine AW.loopG (d := []) (ν := Nat × (List Action) × Int × Value) (fun n => True ∧ F106_l1 l1 n.1 n.2.1 n.2.2.1 = some r) (fun n => n.1) (fun n => [(0, rd (ksl kAction) l1), (3, raw n.2.2.2), (4, rd (kint .i64) n.2.2.1)]) (fun n => [(1001, Row n.2.2.2 62 kAction n.2.1)]) (((((l1.length : Int) : Int) - 0).toNat + 1), [], 0, v2) ⟨trivial, h⟩ ⟨rfl, ⟨rfl, rfl, rfl, trivial⟩, ⟨rfl, trivial⟩⟩ ?_
  rintro ⟨m9, l6, i8, v7⟩ ⟨hsf1, h⟩
  change True at hsf1
  change F106_l1 l1 m9 l6 i8 = some r at h
  change AW _ _ _ ⟨slots [(0, rd (ksl kAction) l1), (3, raw v7), (4, rd (kint .i64) i8)], ress [(1001, Row v7 62 kAction l6)], _⟩
  cases m9 with
  | zero => cases h
  | succ m9 =>
    unfold F106_l1 at h
    generalize hgo1 : F106_l1 l1 m9 = go1 at h
    refine AW.seq ?_
    refine AW.seq ?_
    refine AW.region ?_
    refine AOps.cons (op_move (A := rd (kint .i64) i8) rfl rfl (vt rfl)) rfl ?_
    refine AOps.cons (op_move (A := rd (ksl kAction) l1) rfl rfl (vt rfl)) rfl ?_
    refine AOps.cons (op_len' rfl rfl sl26 (vt rfl)) rfl ?_
    refine AOps.cons (op_lss rfl rfl (vt rfl) (vt rfl)) rfl ?_
    refine AOps.nil ?_
    refine AW.cond (vt rfl) (fun hc => ?_) (fun hc => ?_)
    · have h := cond_t hc h
      refine AW.skip ?_
      refine AW.seq ?_
      refine AW.block ?_
      refine AW.seq ?_
      refine AW.region ?_
      refine AOps.cons (op_move (A := raw v7) rfl rfl (vt rfl)) rfl ?_
      refine AOps.cons (op_leno 1001 rfl rfl sl26 (vt rfl) rfl) rfl ?_
      refine AOps.cons (op_assign (A := rd (kint .i64) (l6.length : Int)) rfl rfl (vt rfl)) rfl ?_
      refine AOps.nil ?_
      refine AW.seq ?_
      refine AW.block ?_
      refine AW.loopG (d := []) (ν := Nat × Int) (fun n => True ∧ F106_l2 l6 l1 i8 go1 n.1 n.2 = some r) (fun n => n.1) (fun n => [(0, rd (ksl kAction) l1), (3, raw v7), (4, rd (kint .i64) i8), (5, rd (kint .i64) n.2)]) (fun n => [(1001, Row v7 62 kAction l6)]) (fuel0, (l6.length : Int)) ⟨trivial, h⟩ ⟨rfl, ⟨rfl, rfl, rfl, rfl, trivial⟩, ⟨rfl, trivial⟩⟩ ?_
      rintro ⟨m12, at11⟩ ⟨hsf2, h⟩
      change True at hsf2
      change F106_l2 l6 l1 i8 go1 m12 at11 = some r at h
      change AW _ _ _ ⟨slots [(0, rd (ksl kAction) l1), (3, raw v7), (4, rd (kint .i64) i8), (5, rd (kint .i64) at11)], ress [(1001, Row v7 62 kAction l6)], _⟩
      cases m12 with
      | zero => cases h
      | succ m12 =>
        unfold F106_l2 at h
        generalize hgo2 : F106_l2 l6 l1 i8 go1 m12 = go2 at h
        refine AW.seq ?_
        refine AW.seq ?_
        obtain ⟨e13, he13, h⟩ := bsome h
        obtain ⟨e14, he14, h⟩ := bsome h
        refine AW.regionAny [⟨[5], [16], [], []⟩, ⟨[16], [17], [], []⟩, ⟨[17], [18], [], []⟩, ⟨[3, 18], [19], [], []⟩, ⟨[5, 18], [20], [], []⟩, ⟨[20, 18], [21], [], []⟩, ⟨[19, 21, 18], [22], [1001], []⟩, ⟨[22, 18], [23], [], []⟩, ⟨[23, 18], [24], [], []⟩, ⟨[24, 18], [25], [1001], []⟩, ⟨[0, 18], [26], [], []⟩, ⟨[4, 18], [27], [], []⟩, ⟨[26, 27, 18], [28], [], []⟩, ⟨[28, 18], [29], [], []⟩, ⟨[29, 18], [30], [], []⟩, ⟨[30, 18], [31], [], []⟩, ⟨[25, 31, 18], [32], [], []⟩, ⟨[32, 18], [33], [], []⟩] mixed (by kernel_rfl) ?_
        refine SeqA.cons (loc [5] [] rfl rfl fun S hs hr => op_move (A := rd (kint .i64) at11) rfl rfl (vt ((hs 5 rfl).trans rfl))) ⟨rfl, rfl, rfl, rfl⟩ ?_
        refine SeqA.cons (loc [16] [] rfl rfl fun S hs hr => op_gtr rfl rfl (vt ((hs 16 rfl).trans rfl)) (vk rfl)) ⟨rfl, rfl, rfl, rfl⟩ ?_
        refine SeqA.cons (loc [17] [] rfl rfl fun S hs hr => op_move (A := rd kbool (decide (at11 > 0))) rfl rfl (vt ((hs 17 rfl).trans rfl))) ⟨rfl, rfl, rfl, rfl⟩ ?_
        refine SeqA.cons (locg [3, 18] [] rfl rfl rfl rfl rfl rfl rfl fun hq S hs hr => op_move (A := raw v7) rfl rfl (vt ((hs 3 rfl).trans rfl))) ⟨rfl, rfl, rfl, rfl⟩ ?_
        refine SeqA.cons (locg [5, 18] [] rfl rfl rfl rfl rfl rfl rfl fun hq S hs hr => op_move (A := rd (kint .i64) at11) rfl rfl (vt ((hs 5 rfl).trans rfl))) ⟨rfl, rfl, rfl, rfl⟩ ?_
        refine SeqA.cons (locg [20, 18] [] rfl rfl rfl rfl rfl rfl rfl fun hq S hs hr => op_sub rfl rfl (vgt ((hs 20 rfl).trans rfl) hq) (vk rfl)) ⟨rfl, rfl, rfl, rfl⟩ ?_
        refine SeqA.cons (locg [19, 21, 18] [1001] rfl rfl rfl rfl rfl rfl rfl fun hq S hs hr => op_indexo' 1001 rfl rfl sl26 (vgt ((hs 19 rfl).trans rfl) hq) ((hr 1001 rfl).trans rfl) (vgt ((hs 21 rfl).trans rfl) hq) (opt_t he13 hq)) ⟨rfl, rfl, rfl, rfl⟩ ?_
        refine SeqA.cons (locg [22, 18] [] rfl rfl rfl rfl rfl rfl rfl fun hq S hs hr => op_fieldo lAction_5 rfl rfl fl62_5 (vgt ((hs 22 rfl).trans rfl) hq)) ⟨rfl, rfl, rfl, rfl⟩ ?_
        refine SeqA.cons (locg [23, 18] [] rfl rfl rfl rfl rfl rfl rfl fun hq S hs hr => op_fieldo lOxm_0 rfl rfl fl60_0 (vgt ((hs 23 rfl).trans rfl) hq)) ⟨rfl, rfl, rfl, rfl⟩ ?_
        refine SeqA.cons (locg [24, 18] [1001] rfl rfl rfl rfl rfl rfl rfl fun hq S hs hr => op_loado' 1001 rfl rfl ty3 (vgt ((hs 24 rfl).trans rfl) hq) ((hr 1001 rfl).trans rfl) (lget_of (opt_t he13 hq)).2) ⟨rfl, rfl, rfl, rfl⟩ ?_
        refine SeqA.cons (locg [0, 18] [] rfl rfl rfl rfl rfl rfl rfl fun hq S hs hr => op_move (A := rd (ksl kAction) l1) rfl rfl (vt ((hs 0 rfl).trans rfl))) ⟨rfl, rfl, rfl, rfl⟩ ?_
        refine SeqA.cons (locg [4, 18] [] rfl rfl rfl rfl rfl rfl rfl fun hq S hs hr => op_move (A := rd (kint .i64) i8) rfl rfl (vt ((hs 4 rfl).trans rfl))) ⟨rfl, rfl, rfl, rfl⟩ ?_
        refine SeqA.cons (locg [26, 27, 18] [] rfl rfl rfl rfl rfl rfl rfl fun hq S hs hr => op_indexs' rfl rfl sl26 (vgt ((hs 26 rfl).trans rfl) hq) (vgt ((hs 27 rfl).trans rfl) hq) (opt_t he14 hq)) ⟨rfl, rfl, rfl, rfl⟩ ?_
        refine SeqA.cons (locg [28, 18] [] rfl rfl rfl rfl rfl rfl rfl fun hq S hs hr => op_fieldp lAction_5 rfl rfl fl62_5 (vgt ((hs 28 rfl).trans rfl) hq)) ⟨rfl, rfl, rfl, rfl⟩ ?_
        refine SeqA.cons (locg [29, 18] [] rfl rfl rfl rfl rfl rfl rfl fun hq S hs hr => op_fieldp lOxm_0 rfl rfl fl60_0 (vgt ((hs 29 rfl).trans rfl) hq)) ⟨rfl, rfl, rfl, rfl⟩ ?_
        refine SeqA.cons (locg [30, 18] [] rfl rfl rfl rfl rfl rfl rfl fun hq S hs hr => op_loadp rfl rfl ty3 (vgt ((hs 30 rfl).trans rfl) hq)) ⟨rfl, rfl, rfl, rfl⟩ ?_
        refine SeqA.cons (locg [25, 31, 18] [] rfl rfl rfl rfl rfl rfl rfl fun hq S hs hr => op_gtr rfl rfl (vgt ((hs 25 rfl).trans rfl) hq) (vgt ((hs 31 rfl).trans rfl) hq)) ⟨rfl, rfl, rfl, rfl⟩ ?_
        refine SeqA.cons (loc [32, 18] [] rfl rfl fun S hs hr => op_all rfl rfl (vt ((hs 18 rfl).trans rfl)) (vt ((hs 32 rfl).trans rfl))) ⟨rfl, rfl, rfl, rfl⟩ ?_
        refine AW.cond (vt rfl) (fun hc => ?_) (fun hc => ?_)
        · have h := cond_t hc h
          refine AW.skip ?_
          refine AW.block ?_
          refine AW.region ?_
          refine AOps.cons (op_move (A := rd (kint .i64) at11) rfl rfl (vt rfl)) rfl ?_
          refine AOps.cons (op_sub rfl rfl (vt rfl) (vk rfl)) rfl ?_
          refine AOps.cons (op_assign (A := rd (kint .i64) (IntKind.i64.wrap (at11 - 1))) rfl rfl (vt rfl)) rfl ?_
          refine AOps.nil ?_
          subst hgo2
          exact ⟨(m12, (IntKind.i64.wrap (at11 - 1))), Nat.lt_succ_self _, ⟨trivial, h⟩, ⟨rfl, ⟨rfl, rfl, rfl, rfl, trivial⟩, ⟨rfl, trivial⟩⟩⟩
        · have h := cond_f hc h
          refine AW.exit ?_
          refine AW.seq ?_
          obtain ⟨l15, hl15, h⟩ := bsome h
          refine AW.region ?_
          refine AOps.cons (op_move (A := raw v7) rfl rfl (vt rfl)) rfl ?_
          refine AOps.cons (op_build (ps := []) (x := (⟨0, 0, 0, 0, 0, zOxm⟩ : Action)) rfl rfl rfl (by kernel_rfl) zr62 rfl) rfl ?_
          refine AOps.cons (op_buildSliceR (ps := [(0, .tmp 37)]) (l := [(⟨0, 0, 0, 0, 0, zOxm⟩ : Action)]) rfl rfl sl26 zr62 rfl rfl ⟨_, _, Lens.idx 1 kAction 0 (by decide), _, rfl, (vt rfl), rfl⟩ rfl) rfl ?_
          refine AOps.consT rfl (op_append' 1001 hl15 rfl rfl el26 (vt rfl) rfl (vt rfl)) ?_
          rintro _ ⟨v16, rfl⟩
          refine AOps.cons (op_assign (A := raw v16) rfl rfl (vt rfl)) rfl ?_
          refine AOps.nil ?_
          refine AW.seq ?_
          refine AW.seq ?_
          refine AW.region ?_
          refine AOps.cons (op_move (A := raw v16) rfl rfl (vt rfl)) rfl ?_
          refine AOps.cons (op_leno 1001 rfl rfl sl26 (vt rfl) rfl) rfl ?_
          refine AOps.cons (op_sub rfl rfl (vt rfl) (vk rfl)) rfl ?_
          refine AOps.cons (op_assign (A := rd (kint .i64) (IntKind.i64.wrap ((l15.length : Int) - 1))) rfl rfl (vt rfl)) rfl ?_
          refine AOps.nil ?_
          refine AW.block ?_
          refine AW.loopG (d := []) (ν := Nat × (List Action) × Int) (fun n => True ∧ F106_l3 at11 l1 i8 go1 n.1 n.2.1 n.2.2 = some r) (fun n => n.1) (fun n => [(0, rd (ksl kAction) l1), (3, raw v16), (4, rd (kint .i64) i8), (5, rd (kint .i64) at11), (6, rd (kint .i64) n.2.2)]) (fun n => [(1001, Row v16 62 kAction n.2.1)]) (((((IntKind.i64.wrap ((l15.length : Int) - 1)) : Int) - at11).toNat + 1), l15, (IntKind.i64.wrap ((l15.length : Int) - 1))) ⟨trivial, h⟩ ⟨rfl, ⟨rfl, rfl, rfl, rfl, rfl, trivial⟩, ⟨rfl, trivial⟩⟩ ?_
          rintro ⟨m21, l19, j20⟩ ⟨hsf3, h⟩
          change True at hsf3
          change F106_l3 at11 l1 i8 go1 m21 l19 j20 = some r at h
          change AW _ _ _ ⟨slots [(0, rd (ksl kAction) l1), (3, raw v16), (4, rd (kint .i64) i8), (5, rd (kint .i64) at11), (6, rd (kint .i64) j20)], ress [(1001, Row v16 62 kAction l19)], _⟩
          cases m21 with
          | zero => cases h
          | succ m21 =>
            unfold F106_l3 at h
            generalize hgo3 : F106_l3 at11 l1 i8 go1 m21 = go3 at h
            refine AW.seq ?_
            refine AW.seq ?_
            refine AW.region ?_
            refine AOps.cons (op_move (A := rd (kint .i64) j20) rfl rfl (vt rfl)) rfl ?_
            refine AOps.cons (op_move (A := rd (kint .i64) at11) rfl rfl (vt rfl)) rfl ?_
            refine AOps.cons (op_gtr rfl rfl (vt rfl) (vt rfl)) rfl ?_
            refine AOps.nil ?_
            refine AW.cond (vt rfl) (fun hc => ?_) (fun hc => ?_)
            · have h := cond_t hc h
              refine AW.skip ?_
              refine AW.seq ?_
              refine AW.block ?_
              obtain ⟨e22, he22, h⟩ := bsome h
              obtain ⟨e23, he23, h⟩ := bsome h
              refine AW.region ?_
              refine AOps.cons (op_move (A := raw v16) rfl rfl (vt rfl)) rfl ?_
              refine AOps.cons (op_move (A := rd (kint .i64) j20) rfl rfl (vt rfl)) rfl ?_
              refine AOps.cons (op_move (A := raw v16) rfl rfl (vt rfl)) rfl ?_
              refine AOps.cons (op_move (A := rd (kint .i64) j20) rfl rfl (vt rfl)) rfl ?_
              refine AOps.cons (op_sub rfl rfl (vt rfl) (vk rfl)) rfl ?_
              refine AOps.cons (op_indexo' 1001 rfl rfl sl26 (vt rfl) rfl (vt rfl) he22) rfl ?_
              refine AOps.cons (op_loado' 1001 rfl rfl ty62 (vt rfl) rfl (lget_of he22).2) rfl ?_
              refine AOps.cons (op_indexo' 1001 rfl rfl sl26 (vt rfl) rfl (vt rfl) he23) rfl ?_
              refine AOps.cons (op_storeo' 1001 rfl rfl ty62 (vt rfl) rfl (lget_of he23).2 (vt rfl)) rfl ?_
              refine AOps.nil ?_
              refine AW.region ?_
              refine AOps.cons (op_move (A := rd (kint .i64) j20) rfl rfl (vt rfl)) rfl ?_
              refine AOps.cons (op_sub rfl rfl (vt rfl) (vk rfl)) rfl ?_
              refine AOps.cons (op_assign (A := rd (kint .i64) (IntKind.i64.wrap (j20 - 1))) rfl rfl (vt rfl)) rfl ?_
              refine AOps.nil ?_
              subst hgo3
              exact ⟨(m21, (List.set l19 j20.toNat e22), (IntKind.i64.wrap (j20 - 1))), Nat.lt_succ_self _, ⟨trivial, h⟩, ⟨rfl, ⟨rfl, rfl, rfl, rfl, rfl, trivial⟩, ⟨rfl, trivial⟩⟩⟩
            · have h := cond_f hc h
              refine AW.exit ?_
              obtain ⟨e24, he24, h⟩ := bsome h
              obtain ⟨e25, he25, h⟩ := bsome h
              refine AW.region ?_
              refine AOps.cons (op_move (A := raw v16) rfl rfl (vt rfl)) rfl ?_
              refine AOps.cons (op_move (A := rd (kint .i64) at11) rfl rfl (vt rfl)) rfl ?_
              refine AOps.cons (op_move (A := rd (ksl kAction) l1) rfl rfl (vt rfl)) rfl ?_
              refine AOps.cons (op_move (A := rd (kint .i64) i8) rfl rfl (vt rfl)) rfl ?_
              refine AOps.cons (op_indexs' rfl rfl sl26 (vt rfl) (vt rfl) he24) rfl ?_
              refine AOps.cons (op_loadp rfl rfl ty62 (vt rfl)) rfl ?_
              refine AOps.cons (op_indexo' 1001 rfl rfl sl26 (vt rfl) rfl (vt rfl) he25) rfl ?_
              refine AOps.cons (op_storeo' 1001 rfl rfl ty62 (vt rfl) rfl (lget_of he25).2 (vt rfl)) rfl ?_
              refine AOps.nil ?_
              refine AW.region ?_
              refine AOps.cons (op_move (A := rd (kint .i64) i8) rfl rfl (vt rfl)) rfl ?_
              refine AOps.cons (op_add rfl rfl (vt rfl) (vk rfl)) rfl ?_
              refine AOps.cons (op_assign (A := rd (kint .i64) (IntKind.i64.wrap (i8 + 1))) rfl rfl (vt rfl)) rfl ?_
              refine AOps.nil ?_
              subst hgo1
              exact ⟨(m9, (List.set l19 at11.toNat e24), (IntKind.i64.wrap (i8 + 1)), v16), Nat.lt_succ_self _, ⟨trivial, h⟩, ⟨rfl, ⟨rfl, rfl, rfl, trivial⟩, ⟨rfl, trivial⟩⟩⟩
    · have h := cond_f hc h
      refine AW.exit ?_
      refine AW.seq ?_
      refine AW.region ?_
      refine AOps.cons (op_move (A := raw v7) rfl rfl (vt rfl)) rfl ?_
      refine AOps.cons (op_assign (A := raw v7) rfl rfl (vt rfl)) rfl ?_
      refine AOps.nil ?_
      refine AW.freezes [2, 3, 63] 1001 rfl ⟨rfl, rfl, rfl, trivial⟩ rfl ?_
      refine AW.ret ?_
      obtain rfl := Option.some.inj h
      exact ret1 Tryz.results106 rfl (out_tmp rfl)
-- weirbox/weirboxref28.List
def F59 (set1 : (List Action)) : Option (List Action) :=
  (F105 set1 18).bind fun x2 => (F105 set1 17).bind fun x4 => (appd x2 x4).bind fun l5 => (F105 set1 25).bind fun x7 => (F106 x7).bind fun x8 => (appd l5 x8).bind fun l9 => (F105 set1 22).bind fun x11 => (bif (decide ((x11.length : Int) > 0)) then (appd l9 x11).bind fun l12 => some l12 else (F105 set1 0).bind fun x14 => (appd l9 x14).bind fun l15 => some l15)
theorem c59 (set1 : (List Action)) (r : (List Action)) (h : F59 set1 = some r) : PCon Tryz.prog 59 [rd (ksl kAction) set1] (rd (ksl kAction) r) := by
  refine PCon.of (Con.intro0 Tryz.func59 rfl Tryz.ntmps59 rfl fun w H => ?_)
  unfold F59 at h
  refine AW.seq ?_
  refine AW.region ?_
  refine AOps.cons (op_assign (A := rd (ksl kAction) []) rfl rfl vnil) rfl ?_
  refine AOps.nil ?_
  refine AW.seq ?_
  obtain ⟨x2, hx2, h⟩ := bsome h
  obtain ⟨x4, hx4, h⟩ := bsome h
  obtain ⟨l5, hl5, h⟩ := bsome h
  refine AW.region ?_
  refine AOps.cons (op_move (A := rd (ksl kAction) set1) rfl rfl (vt rfl)) rfl ?_
  refine AOps.consT rfl (op_callR 1001 (xs := [.tmp 5, .const (Value.int IntKind.i64 18)]) (c105o _ _ _ hx2) (Ent.mk Tryz.func105 rfl rfl) rfl rfl ⟨vt rfl, vk rfl, trivial⟩ rfl) ?_
  rintro _ ⟨v3, rfl⟩
  refine AOps.cons (op_move (A := rd (ksl kAction) set1) rfl rfl (vt rfl)) rfl ?_
  refine AOps.cons (op_call (xs := [.tmp 7, .const (Value.int IntKind.i64 17)]) (c105 _ _ _ hx4) (Ent.mk Tryz.func105 rfl rfl) rfl rfl ⟨vt rfl, vk rfl, trivial⟩) rfl ?_
  refine AOps.consT rfl (op_append' 1001 hl5 rfl rfl el26 (vt rfl) rfl (vt rfl)) ?_
  rintro _ ⟨v6, rfl⟩
  refine AOps.cons (op_assign (A := raw v6) rfl rfl (vt rfl)) rfl ?_
  refine AOps.nil ?_
  refine AW.seq ?_
  obtain ⟨x7, hx7, h⟩ := bsome h
  obtain ⟨x8, hx8, h⟩ := bsome h
  obtain ⟨l9, hl9, h⟩ := bsome h
  refine AW.region ?_
  refine AOps.cons (op_move (A := raw v6) rfl rfl (vt rfl)) rfl ?_
  refine AOps.cons (op_move (A := rd (ksl kAction) set1) rfl rfl (vt rfl)) rfl ?_
  refine AOps.cons (op_call (xs := [.tmp 11, .const (Value.int IntKind.i64 25)]) (c105 _ _ _ hx7) (Ent.mk Tryz.func105 rfl rfl) rfl rfl ⟨vt rfl, vk rfl, trivial⟩) rfl ?_
  refine AOps.cons (op_call (xs := [.tmp 12]) (c106 _ _ hx8) (Ent.mk Tryz.func106 rfl rfl) rfl rfl ⟨vt rfl, trivial⟩) rfl ?_
  refine AOps.consT rfl (op_append' 1001 hl9 rfl rfl el26 (vt rfl) rfl (vt rfl)) ?_
  rintro _ ⟨v10, rfl⟩
  refine AOps.cons (op_assign (A := raw v10) rfl rfl (vt rfl)) rfl ?_
  refine AOps.nil ?_
  refine AW.seq ?_
  refine AW.seq ?_
  obtain ⟨x11, hx11, h⟩ := bsome h
  refine AW.region ?_
  refine AOps.cons (op_move (A := rd (ksl kAction) set1) rfl rfl (vt rfl)) rfl ?_
  refine AOps.cons (op_call (xs := [.tmp 15, .const (Value.int IntKind.i64 22)]) (c105 _ _ _ hx11) (Ent.mk Tryz.func105 rfl rfl) rfl rfl ⟨vt rfl, vk rfl, trivial⟩) rfl ?_
  refine AOps.cons (op_assign (A := rd (ksl kAction) x11) rfl rfl (vt rfl)) rfl ?_
  refine AOps.nil ?_
  refine AW.seq ?_
  refine AW.region ?_
  refine AOps.cons (op_move (A := rd (ksl kAction) x11) rfl rfl (vt rfl)) rfl ?_
  refine AOps.cons (op_len' rfl rfl sl26 (vt rfl)) rfl ?_
  refine AOps.cons (op_gtr rfl rfl (vt rfl) (vk rfl)) rfl ?_
  refine AOps.nil ?_
  refine AW.cond (vt rfl) (fun hc => ?_) (fun hc => ?_)
  · have h := cond_t hc h
    refine AW.seq ?_
    obtain ⟨l12, hl12, h⟩ := bsome h
    refine AW.region ?_
    refine AOps.cons (op_move (A := raw v10) rfl rfl (vt rfl)) rfl ?_
    refine AOps.cons (op_move (A := rd (ksl kAction) x11) rfl rfl (vt rfl)) rfl ?_
    refine AOps.consT rfl (op_append' 1001 hl12 rfl rfl el26 (vt rfl) rfl (vt rfl)) ?_
    rintro _ ⟨v13, rfl⟩
    refine AOps.cons (op_assign (A := raw v13) rfl rfl (vt rfl)) rfl ?_
    refine AOps.nil ?_
    refine AW.freezes [2, 22] 1001 rfl ⟨rfl, rfl, trivial⟩ rfl ?_
    refine AW.ret ?_
    obtain rfl := Option.some.inj h
    exact ret1 Tryz.results59 rfl (out_tmp rfl)
  · have h := cond_f hc h
    refine AW.skip ?_
    refine AW.seq ?_
    obtain ⟨x14, hx14, h⟩ := bsome h
    obtain ⟨l15, hl15, h⟩ := bsome h
    refine AW.region ?_
    refine AOps.cons (op_move (A := raw v10) rfl rfl (vt rfl)) rfl ?_
    refine AOps.cons (op_move (A := rd (ksl kAction) set1) rfl rfl (vt rfl)) rfl ?_
    refine AOps.cons (op_call (xs := [.tmp 24, .const (Value.int IntKind.i64 0)]) (c105 _ _ _ hx14) (Ent.mk Tryz.func105 rfl rfl) rfl rfl ⟨vt rfl, vk rfl, trivial⟩) rfl ?_
    refine AOps.consT rfl (op_append' 1001 hl15 rfl rfl el26 (vt rfl) rfl (vt rfl)) ?_
    rintro _ ⟨v16, rfl⟩
    refine AOps.cons (op_assign (A := raw v16) rfl rfl (vt rfl)) rfl ?_
    refine AOps.nil ?_
    refine AW.freezes [2, 26] 1001 rfl ⟨rfl, rfl, trivial⟩ rfl ?_
    refine AW.ret ?_
    obtain rfl := Option.some.inj h
    exact ret1 Tryz.results59 rfl (out_tmp rfl)
-- weirbox/weirboxref03.Right
def F118 (f1 : Int) : Option Bool :=
  some ((decide (f1 ≥ 0)) && (decide (f1 < 24)))
theorem c118 (f1 : Int) (r : Bool) (h : F118 f1 = some r) : PCon Tryz.prog 118 [rd (kint .i64) f1] (rd kbool r) := by
  refine PCon.of (Con.intro0 Tryz.func118 rfl Tryz.ntmps118 rfl fun w H => ?_)
  unfold F118 at h
  refine AW.seq ?_
  refine AW.region ?_
  refine AOps.cons (op_assign (A := rd kbool false) rfl rfl vb) rfl ?_
  refine AOps.nil ?_
  refine AW.seq ?_
  refine AW.region ?_
  refine AOps.cons (op_move (A := rd (kint .i64) f1) rfl rfl (vt rfl)) rfl ?_
  refine AOps.cons (op_geq rfl rfl (vt rfl) (vk rfl)) rfl ?_
  refine AOps.cons (op_move (A := rd kbool (decide (f1 ≥ 0))) rfl rfl (vt rfl)) rfl ?_
  refine AOps.consG (OpG.guard rfl rfl rfl rfl rfl fun hq => op_move (A := rd (kint .i64) f1) rfl rfl (vt rfl)) ?_
  refine AOps.consG (OpG.guard rfl rfl rfl rfl rfl fun hq => op_lss rfl rfl (vgt rfl hq) (vk rfl)) ?_
  refine AOps.cons (op_all rfl rfl (vt rfl) (vt rfl)) rfl ?_
  refine AOps.cons (op_assign (A := rd kbool ((decide (f1 ≥ 0)) && (decide (f1 < 24)))) rfl rfl (vt rfl)) rfl ?_
  refine AOps.nil ?_
  refine AW.ret ?_
  obtain rfl := Option.some.inj h
  exact ret1 Tryz.results118 rfl (out_tmp rfl)
-- weirbox/weirboxref03.upper
def F135 (f1 : Int) : Option (ByteArray × Int × Int × Bool) :=
  (bif (decide (f1 = 12)) then some ({ data := #[116, 99, 112, 95, 115, 114, 99] }, 13, 16, false) else (bif (decide (f1 = 13)) then some ({ data := #[116, 99, 112, 95, 100, 115, 116] }, 14, 16, false) else (bif (decide (f1 = 14)) then some ({ data := #[117, 100, 112, 95, 115, 114, 99] }, 15, 16, false) else (bif (decide (f1 = 15)) then some ({ data := #[117, 100, 112, 95, 100, 115, 116] }, 16, 16, false) else (bif (decide (f1 = 16)) then some ({ data := #[105, 99, 109, 112, 118, 52, 95, 116, 121, 112, 101] }, 19, 8, false) else (bif (decide (f1 = 17)) then some ({ data := #[105, 99, 109, 112, 118, 52, 95, 99, 111, 100, 101] }, 20, 8, false) else (bif (decide (f1 = 18)) then some ({ data := #[97, 114, 112, 95, 111, 112] }, 21, 16, false) else (bif (decide (f1 = 19)) then some ({ data := #[97, 114, 112, 95, 115, 112, 97] }, 22, 32, true) else (bif (decide (f1 = 20)) then some ({ data := #[97, 114, 112, 95, 116, 112, 97] }, 23, 32, true) else (bif (decide (f1 = 21)) then some ({ data := #[105, 112, 118, 54, 95, 115, 114, 99] }, 26, 128, true) else (bif (decide (f1 = 22)) then some ({ data := #[105, 112, 118, 54, 95, 100, 115, 116] }, 27, 128, true) else (bif (decide (f1 = 23)) then some ({ data := #[109, 112, 108, 115, 95, 108, 97, 98, 101, 108] }, 34, 20, false) else some ({ data := #[] }, (-1), 0, false)))))))))))))
theorem c135 (f1 : Int) (r : (ByteArray × Int × Int × Bool)) (h : F135 f1 = some r) : PCon Tryz.prog 135 [rd (kint .i64) f1] (tup4 (rd kstr r.1) (rd (kint .i64) r.2.1) (rd (kint .i64) r.2.2.1) (rd kbool r.2.2.2)) := by
  refine PCon.of (Con.intro0 Tryz.func135 rfl Tryz.ntmps135 rfl fun w H => ?_)
  unfold F135 at h
  refine AW.seq ?_
  refine AW.region ?_
  refine AOps.cons (op_assign (A := rd kstr { data := #[] }) rfl rfl (vs (by decide))) rfl ?_
  refine AOps.cons (op_assign (A := rd (kint .i64) 0) rfl rfl (vk rfl)) rfl ?_
  refine AOps.cons (op_assign (A := rd (kint .i64) 0) rfl rfl (vk rfl)) rfl ?_
  refine AOps.cons (op_assign (A := rd kbool false) rfl rfl vb) rfl ?_
  refine AOps.nil ?_
  refine AW.seq ?_
  refine AW.seq ?_
  refine AW.region ?_
  refine AOps.cons (op_move (A := rd (kint .i64) f1) rfl rfl (vt rfl)) rfl ?_
  refine AOps.nil ?_
  refine AW.block ?_
  refine AW.seq ?_
  refine AW.region ?_
  refine AOps.cons (op_eql rfl rfl (vt rfl) (vk rfl)) rfl ?_
  refine AOps.cons (op_assign (A := rd kbool (decide (f1 = 12))) rfl rfl (vt rfl)) rfl ?_
  refine AOps.nil ?_
  refine AW.cond (vt rfl) (fun hc => ?_) (fun hc => ?_)
  · have h := cond_t hc h
    refine AW.seq ?_
    refine AW.region ?_
    refine AOps.cons (op_assign (A := rd kstr { data := #[116, 99, 112, 95, 115, 114, 99] }) rfl rfl (vs (by decide))) rfl ?_
    refine AOps.cons (op_assign (A := rd (kint .i64) 13) rfl rfl (vk rfl)) rfl ?_
    refine AOps.cons (op_assign (A := rd (kint .i64) 16) rfl rfl (vk rfl)) rfl ?_
    refine AOps.cons (op_assign (A := rd kbool false) rfl rfl vb) rfl ?_
    refine AOps.nil ?_
    refine AW.ret ?_
    obtain rfl := Option.some.inj h
    exact ret4 Tryz.results135 rfl (out_tmp rfl) (out_tmp rfl) (out_tmp rfl) (out_tmp rfl)
  · have h := cond_f hc h
    refine AW.seq ?_
    refine AW.region ?_
    refine AOps.cons (op_eql rfl rfl (vt rfl) (vk rfl)) rfl ?_
    refine AOps.cons (op_assign (A := rd kbool (decide (f1 = 13))) rfl rfl (vt rfl)) rfl ?_
    refine AOps.nil ?_
    refine AW.cond (vt rfl) (fun hc => ?_) (fun hc => ?_)
    · have h := cond_t hc h
      refine AW.seq ?_
      refine AW.region ?_
      refine AOps.cons (op_assign (A := rd kstr { data := #[116, 99, 112, 95, 100, 115, 116] }) rfl rfl (vs (by decide))) rfl ?_
      refine AOps.cons (op_assign (A := rd (kint .i64) 14) rfl rfl (vk rfl)) rfl ?_
      refine AOps.cons (op_assign (A := rd (kint .i64) 16) rfl rfl (vk rfl)) rfl ?_
      refine AOps.cons (op_assign (A := rd kbool false) rfl rfl vb) rfl ?_
      refine AOps.nil ?_
      refine AW.ret ?_
      obtain rfl := Option.some.inj h
      exact ret4 Tryz.results135 rfl (out_tmp rfl) (out_tmp rfl) (out_tmp rfl) (out_tmp rfl)
    · have h := cond_f hc h
      refine AW.seq ?_
      refine AW.region ?_
      refine AOps.cons (op_eql rfl rfl (vt rfl) (vk rfl)) rfl ?_
      refine AOps.cons (op_assign (A := rd kbool (decide (f1 = 14))) rfl rfl (vt rfl)) rfl ?_
      refine AOps.nil ?_
      refine AW.cond (vt rfl) (fun hc => ?_) (fun hc => ?_)
      · have h := cond_t hc h
        refine AW.seq ?_
        refine AW.region ?_
        refine AOps.cons (op_assign (A := rd kstr { data := #[117, 100, 112, 95, 115, 114, 99] }) rfl rfl (vs (by decide))) rfl ?_
        refine AOps.cons (op_assign (A := rd (kint .i64) 15) rfl rfl (vk rfl)) rfl ?_
        refine AOps.cons (op_assign (A := rd (kint .i64) 16) rfl rfl (vk rfl)) rfl ?_
        refine AOps.cons (op_assign (A := rd kbool false) rfl rfl vb) rfl ?_
        refine AOps.nil ?_
        refine AW.ret ?_
        obtain rfl := Option.some.inj h
        exact ret4 Tryz.results135 rfl (out_tmp rfl) (out_tmp rfl) (out_tmp rfl) (out_tmp rfl)
      · have h := cond_f hc h
        refine AW.seq ?_
        refine AW.region ?_
        refine AOps.cons (op_eql rfl rfl (vt rfl) (vk rfl)) rfl ?_
        refine AOps.cons (op_assign (A := rd kbool (decide (f1 = 15))) rfl rfl (vt rfl)) rfl ?_
        refine AOps.nil ?_
        refine AW.cond (vt rfl) (fun hc => ?_) (fun hc => ?_)
        · have h := cond_t hc h
          refine AW.seq ?_
          refine AW.region ?_
          refine AOps.cons (op_assign (A := rd kstr { data := #[117, 100, 112, 95, 100, 115, 116] }) rfl rfl (vs (by decide))) rfl ?_
          refine AOps.cons (op_assign (A := rd (kint .i64) 16) rfl rfl (vk rfl)) rfl ?_
          refine AOps.cons (op_assign (A := rd (kint .i64) 16) rfl rfl (vk rfl)) rfl ?_
          refine AOps.cons (op_assign (A := rd kbool false) rfl rfl vb) rfl ?_
          refine AOps.nil ?_
          refine AW.ret ?_
          obtain rfl := Option.some.inj h
          exact ret4 Tryz.results135 rfl (out_tmp rfl) (out_tmp rfl) (out_tmp rfl) (out_tmp rfl)
        · have h := cond_f hc h
          refine AW.seq ?_
          refine AW.region ?_
          refine AOps.cons (op_eql rfl rfl (vt rfl) (vk rfl)) rfl ?_
          refine AOps.cons (op_assign (A := rd kbool (decide (f1 = 16))) rfl rfl (vt rfl)) rfl ?_
          refine AOps.nil ?_
          refine AW.cond (vt rfl) (fun hc => ?_) (fun hc => ?_)
          · have h := cond_t hc h
            refine AW.seq ?_
            refine AW.region ?_
            refine AOps.cons (op_assign (A := rd kstr { data := #[105, 99, 109, 112, 118, 52, 95, 116, 121, 112, 101] }) rfl rfl (vs (by decide))) rfl ?_
            refine AOps.cons (op_assign (A := rd (kint .i64) 19) rfl rfl (vk rfl)) rfl ?_
            refine AOps.cons (op_assign (A := rd (kint .i64) 8) rfl rfl (vk rfl)) rfl ?_
            refine AOps.cons (op_assign (A := rd kbool false) rfl rfl vb) rfl ?_
            refine AOps.nil ?_
            refine AW.ret ?_
            obtain rfl := Option.some.inj h
            exact ret4 Tryz.results135 rfl (out_tmp rfl) (out_tmp rfl) (out_tmp rfl) (out_tmp rfl)
          · have h := cond_f hc h
            refine AW.seq ?_
            refine AW.region ?_
            refine AOps.cons (op_eql rfl rfl (vt rfl) (vk rfl)) rfl ?_
            refine AOps.cons (op_assign (A := rd kbool (decide (f1 = 17))) rfl rfl (vt rfl)) rfl ?_
            refine AOps.nil ?_
            refine AW.cond (vt rfl) (fun hc => ?_) (fun hc => ?_)
            · have h := cond_t hc h
              refine AW.seq ?_
              refine AW.region ?_
              refine AOps.cons (op_assign (A := rd kstr { data := #[105, 99, 109, 112, 118, 52, 95, 99, 111, 100, 101] }) rfl rfl (vs (by decide))) rfl ?_
              refine AOps.cons (op_assign (A := rd (kint .i64) 20) rfl rfl (vk rfl)) rfl ?_
              refine AOps.cons (op_assign (A := rd (kint .i64) 8) rfl rfl (vk rfl)) rfl ?_
              refine AOps.cons (op_assign (A := rd kbool false) rfl rfl vb) rfl ?_
              refine AOps.nil ?_
              refine AW.ret ?_
              obtain rfl := Option.some.inj h
              exact ret4 Tryz.results135 rfl (out_tmp rfl) (out_tmp rfl) (out_tmp rfl) (out_tmp rfl)
            · have h := cond_f hc h
              refine AW.seq ?_
              refine AW.region ?_
              refine AOps.cons (op_eql rfl rfl (vt rfl) (vk rfl)) rfl ?_
              refine AOps.cons (op_assign (A := rd kbool (decide (f1 = 18))) rfl rfl (vt rfl)) rfl ?_
              refine AOps.nil ?_
              refine AW.cond (vt rfl) (fun hc => ?_) (fun hc => ?_)
              · have h := cond_t hc h
                refine AW.seq ?_
                refine AW.region ?_
                refine AOps.cons (op_assign (A := rd kstr { data := #[97, 114, 112, 95, 111, 112] }) rfl rfl (vs (by decide))) rfl ?_
                refine AOps.cons (op_assign (A := rd (kint .i64) 21) rfl rfl (vk rfl)) rfl ?_
                refine AOps.cons (op_assign (A := rd (kint .i64) 16) rfl rfl (vk rfl)) rfl ?_
                refine AOps.cons (op_assign (A := rd kbool false) rfl rfl vb) rfl ?_
                refine AOps.nil ?_
                refine AW.ret ?_
                obtain rfl := Option.some.inj h
                exact ret4 Tryz.results135 rfl (out_tmp rfl) (out_tmp rfl) (out_tmp rfl) (out_tmp rfl)
              · have h := cond_f hc h
                refine AW.seq ?_
                refine AW.region ?_
                refine AOps.cons (op_eql rfl rfl (vt rfl) (vk rfl)) rfl ?_
                refine AOps.cons (op_assign (A := rd kbool (decide (f1 = 19))) rfl rfl (vt rfl)) rfl ?_
                refine AOps.nil ?_
                refine AW.cond (vt rfl) (fun hc => ?_) (fun hc => ?_)
                · have h := cond_t hc h
                  refine AW.seq ?_
                  refine AW.region ?_
                  refine AOps.cons (op_assign (A := rd kstr { data := #[97, 114, 112, 95, 115, 112, 97] }) rfl rfl (vs (by decide))) rfl ?_
                  refine AOps.cons (op_assign (A := rd (kint .i64) 22) rfl rfl (vk rfl)) rfl ?_
                  refine AOps.cons (op_assign (A := rd (kint .i64) 32) rfl rfl (vk rfl)) rfl ?_
                  refine AOps.cons (op_assign (A := rd kbool true) rfl rfl vb) rfl ?_
                  refine AOps.nil ?_
                  refine AW.ret ?_
                  obtain rfl := Option.some.inj h
                  exact ret4 Tryz.results135 rfl (out_tmp rfl) (out_tmp rfl) (out_tmp rfl) (out_tmp rfl)
                · have h := cond_f hc h
                  refine AW.seq ?_
                  refine AW.region ?_
                  refine AOps.cons (op_eql rfl rfl (vt rfl) (vk rfl)) rfl ?_
                  refine AOps.cons (op_assign (A := rd kbool (decide (f1 = 20))) rfl rfl (vt rfl)) rfl ?_
                  refine AOps.nil ?_
                  refine AW.cond (vt rfl) (fun hc => ?_) (fun hc => ?_)
                  · have h := cond_t hc h
                    refine AW.seq ?_
                    refine AW.region ?_
                    refine AOps.cons (op_assign (A := rd kstr { data := #[97, 114, 112, 95, 116, 112, 97] }) rfl rfl (vs (by decide))) rfl ?_
                    refine AOps.cons (op_assign (A := rd (kint .i64) 23) rfl rfl (vk rfl)) rfl ?_
                    refine AOps.cons (op_assign (A := rd (kint .i64) 32) rfl rfl (vk rfl)) rfl ?_
                    refine AOps.cons (op_assign (A := rd kbool true) rfl rfl vb) rfl ?_
                    refine AOps.nil ?_
                    refine AW.ret ?_
                    obtain rfl := Option.some.inj h
                    exact ret4 Tryz.results135 rfl (out_tmp rfl) (out_tmp rfl) (out_tmp rfl) (out_tmp rfl)
                  · have h := cond_f hc h
                    refine AW.seq ?_
                    refine AW.region ?_
                    refine AOps.cons (op_eql rfl rfl (vt rfl) (vk rfl)) rfl ?_
                    refine AOps.cons (op_assign (A := rd kbool (decide (f1 = 21))) rfl rfl (vt rfl)) rfl ?_
                    refine AOps.nil ?_
                    refine AW.cond (vt rfl) (fun hc => ?_) (fun hc => ?_)
                    · have h := cond_t hc h
                      refine AW.seq ?_
                      refine AW.region ?_
                      refine AOps.cons (op_assign (A := rd kstr { data := #[105, 112, 118, 54, 95, 115, 114, 99] }) rfl rfl (vs (by decide))) rfl ?_
                      refine AOps.cons (op_assign (A := rd (kint .i64) 26) rfl rfl (vk rfl)) rfl ?_
                      refine AOps.cons (op_assign (A := rd (kint .i64) 128) rfl rfl (vk rfl)) rfl ?_
                      refine AOps.cons (op_assign (A := rd kbool true) rfl rfl vb) rfl ?_
                      refine AOps.nil ?_
                      refine AW.ret ?_
                      obtain rfl := Option.some.inj h
                      exact ret4 Tryz.results135 rfl (out_tmp rfl) (out_tmp rfl) (out_tmp rfl) (out_tmp rfl)
                    · have h := cond_f hc h
                      refine AW.seq ?_
                      refine AW.region ?_
                      refine AOps.cons (op_eql rfl rfl (vt rfl) (vk rfl)) rfl ?_
                      refine AOps.cons (op_assign (A := rd kbool (decide (f1 = 22))) rfl rfl (vt rfl)) rfl ?_
                      refine AOps.nil ?_
                      refine AW.cond (vt rfl) (fun hc => ?_) (fun hc => ?_)
                      · have h := cond_t hc h
                        refine AW.seq ?_
                        refine AW.region ?_
                        refine AOps.cons (op_assign (A := rd kstr { data := #[105, 112, 118, 54, 95, 100, 115, 116] }) rfl rfl (vs (by decide))) rfl ?_
                        refine AOps.cons (op_assign (A := rd (kint .i64) 27) rfl rfl (vk rfl)) rfl ?_
                        refine AOps.cons (op_assign (A := rd (kint .i64) 128) rfl rfl (vk rfl)) rfl ?_
                        refine AOps.cons (op_assign (A := rd kbool true) rfl rfl vb) rfl ?_
                        refine AOps.nil ?_
                        refine AW.ret ?_
                        obtain rfl := Option.some.inj h
                        exact ret4 Tryz.results135 rfl (out_tmp rfl) (out_tmp rfl) (out_tmp rfl) (out_tmp rfl)
                      · have h := cond_f hc h
                        refine AW.seq ?_
                        refine AW.region ?_
                        refine AOps.cons (op_eql rfl rfl (vt rfl) (vk rfl)) rfl ?_
                        refine AOps.cons (op_assign (A := rd kbool (decide (f1 = 23))) rfl rfl (vt rfl)) rfl ?_
                        refine AOps.nil ?_
                        refine AW.cond (vt rfl) (fun hc => ?_) (fun hc => ?_)
                        · have h := cond_t hc h
                          refine AW.seq ?_
                          refine AW.region ?_
                          refine AOps.cons (op_assign (A := rd kstr { data := #[109, 112, 108, 115, 95, 108, 97, 98, 101, 108] }) rfl rfl (vs (by decide))) rfl ?_
                          refine AOps.cons (op_assign (A := rd (kint .i64) 34) rfl rfl (vk rfl)) rfl ?_
                          refine AOps.cons (op_assign (A := rd (kint .i64) 20) rfl rfl (vk rfl)) rfl ?_
                          refine AOps.cons (op_assign (A := rd kbool false) rfl rfl vb) rfl ?_
                          refine AOps.nil ?_
                          refine AW.ret ?_
                          obtain rfl := Option.some.inj h
                          exact ret4 Tryz.results135 rfl (out_tmp rfl) (out_tmp rfl) (out_tmp rfl) (out_tmp rfl)
                        · have h := cond_f hc h
                          refine AW.skip ?_
                          refine AW.seq ?_
                          refine AW.region ?_
                          refine AOps.cons (op_assign (A := rd kstr { data := #[] }) rfl rfl (vs (by decide))) rfl ?_
                          refine AOps.cons (op_assign (A := rd (kint .i64) (-1)) rfl rfl (vk rfl)) rfl ?_
                          refine AOps.cons (op_assign (A := rd (kint .i64) 0) rfl rfl (vk rfl)) rfl ?_
                          refine AOps.cons (op_assign (A := rd kbool false) rfl rfl vb) rfl ?_
                          refine AOps.nil ?_
                          refine AW.ret ?_
                          obtain rfl := Option.some.inj h
                          exact ret4 Tryz.results135 rfl (out_tmp rfl) (out_tmp rfl) (out_tmp rfl) (out_tmp rfl)
-- weirbox/weirboxref03.row
def F129 (f1 : Int) : Option (ByteArray × Int × Int × Bool) :=
  (bif (decide (f1 = 0)) then some ({ data := #[105, 110, 95, 112, 111, 114, 116] }, 0, 32, false) else (bif (decide (f1 = 1)) then some ({ data := #[109, 101, 116, 97, 100, 97, 116, 97] }, 2, 64, true) else (bif (decide (f1 = 2)) then some ({ data := #[101, 116, 104, 95, 100, 115, 116] }, 3, 48, true) else (bif (decide (f1 = 3)) then some ({ data := #[101, 116, 104, 95, 115, 114, 99] }, 4, 48, true) else (bif (decide (f1 = 4)) then some ({ data := #[101, 116, 104, 95, 116, 121, 112, 101] }, 5, 16, false) else (bif (decide (f1 = 5)) then some ({ data := #[118, 108, 97, 110, 95, 118, 105, 100] }, 6, 13, true) else (bif (decide (f1 = 6)) then some ({ data := #[118, 108, 97, 110, 95, 112, 99, 112] }, 7, 3, false) else (bif (decide (f1 = 7)) then some ({ data := #[105, 112, 95, 100, 115, 99, 112] }, 8, 6, false) else (bif (decide (f1 = 8)) then some ({ data := #[105, 112, 95, 101, 99, 110] }, 9, 2, false) else (bif (decide (f1 = 9)) then some ({ data := #[105, 112, 95, 112, 114, 111, 116, 111] }, 10, 8, false) else (bif (decide (f1 = 10)) then some ({ data := #[105, 112, 118, 52, 95, 115, 114, 99] }, 11, 32, true) else (bif (decide (f1 = 11)) then some ({ data := #[105, 112, 118, 52, 95, 100, 115, 116] }, 12, 32, true) else (F135 f1).bind fun x2 => some (x2.1, x2.2.1, x2.2.2.1, x2.2.2.2)))))))))))))
theorem c129 (f1 : Int) (r : (ByteArray × Int × Int × Bool)) (h : F129 f1 = some r) : PCon Tryz.prog 129 [rd (kint .i64) f1] (tup4 (rd kstr r.1) (rd (kint .i64) r.2.1) (rd (kint .i64) r.2.2.1) (rd kbool r.2.2.2)) := by
  refine PCon.of (Con.intro0 Tryz.func129 rfl Tryz.ntmps129 rfl fun w H => ?_)
  unfold F129 at h
  refine AW.seq ?_
  refine AW.region ?_
  refine AOps.cons (op_assign (A := rd kstr { data := #[] }) rfl rfl (vs (by decide))) rfl ?_
  refine AOps.cons (op_assign (A := rd (kint .i64) 0) rfl rfl (vk rfl)) rfl ?_
  refine AOps.cons (op_assign (A := rd (kint .i64) 0) rfl rfl (vk rfl)) rfl ?_
  refine AOps.cons (op_assign (A := rd kbool false) rfl rfl vb) rfl ?_
  refine AOps.nil ?_
  refine AW.seq ?_
  refine AW.seq ?_
  refine AW.region ?_
  refine AOps.cons (op_move (A := rd (kint .i64) f1) rfl rfl (vt rfl)) rfl ?_
  refine AOps.nil ?_
  refine AW.block ?_
  refine AW.seq ?_
  refine AW.region ?_
  refine AOps.cons (op_eql rfl rfl (vt rfl) (vk rfl)) rfl ?_
  refine AOps.cons (op_assign (A := rd kbool (decide (f1 = 0))) rfl rfl (vt rfl)) rfl ?_
  refine AOps.nil ?_
  refine AW.cond (vt rfl) (fun hc => ?_) (fun hc => ?_)
  · have h := cond_t hc h
    refine AW.seq ?_
    refine AW.region ?_
    refine AOps.cons (op_assign (A := rd kstr { data := #[105, 110, 95, 112, 111, 114, 116] }) rfl rfl (vs (by decide))) rfl ?_
    refine AOps.cons (op_assign (A := rd (kint .i64) 0) rfl rfl (vk rfl)) rfl ?_
    refine AOps.cons (op_assign (A := rd (kint .i64) 32) rfl rfl (vk rfl)) rfl ?_
    refine AOps.cons (op_assign (A := rd kbool false) rfl rfl vb) rfl ?_
    refine AOps.nil ?_
    refine AW.ret ?_
    obtain rfl := Option.some.inj h
    exact ret4 Tryz.results129 rfl (out_tmp rfl) (out_tmp rfl) (out_tmp rfl) (out_tmp rfl)
  · have h := cond_f hc h
    refine AW.seq ?_
    refine AW.region ?_
    refine AOps.cons (op_eql rfl rfl (vt rfl) (vk rfl)) rfl ?_
    refine AOps.cons (op_assign (A := rd kbool (decide (f1 = 1))) rfl rfl (vt rfl)) rfl ?_
    refine AOps.nil ?_
    refine AW.cond (vt rfl) (fun hc => ?_) (fun hc => ?_)
    · have h := cond_t hc h
      refine AW.seq ?_
      refine AW.region ?_
      refine AOps.cons (op_assign (A := rd kstr { data := #[109, 101, 116, 97, 100, 97, 116, 97] }) rfl rfl (vs (by decide))) rfl ?_
      refine AOps.cons (op_assign (A := rd (kint .i64) 2) rfl rfl (vk rfl)) rfl ?_
      refine AOps.cons (op_assign (A := rd (kint .i64) 64) rfl rfl (vk rfl)) rfl ?_
      refine AOps.cons (op_assign (A := rd kbool true) rfl rfl vb) rfl ?_
      refine AOps.nil ?_
      refine AW.ret ?_
      obtain rfl := Option.some.inj h
      exact ret4 Tryz.results129 rfl (out_tmp rfl) (out_tmp rfl) (out_tmp rfl) (out_tmp rfl)
    · have h := cond_f hc h
      refine AW.seq ?_
      refine AW.region ?_
      refine AOps.cons (op_eql rfl rfl (vt rfl) (vk rfl)) rfl ?_
      refine AOps.cons (op_assign (A := rd kbool (decide (f1 = 2))) rfl rfl (vt rfl)) rfl ?_
      refine AOps.nil ?_
      refine AW.cond (vt rfl) (fun hc => ?_) (fun hc => ?_)
      · have h := cond_t hc h
        refine AW.seq ?_
        refine AW.region ?_
        refine AOps.cons (op_assign (A := rd kstr { data := #[101, 116, 104, 95, 100, 115, 116] }) rfl rfl (vs (by decide))) rfl ?_
        refine AOps.cons (op_assign (A := rd (kint .i64) 3) rfl rfl (vk rfl)) rfl ?_
        refine AOps.cons (op_assign (A := rd (kint .i64) 48) rfl rfl (vk rfl)) rfl ?_
        refine AOps.cons (op_assign (A := rd kbool true) rfl rfl vb) rfl ?_
        refine AOps.nil ?_
        refine AW.ret ?_
        obtain rfl := Option.some.inj h
        exact ret4 Tryz.results129 rfl (out_tmp rfl) (out_tmp rfl) (out_tmp rfl) (out_tmp rfl)
      · have h := cond_f hc h
        refine AW.seq ?_
        refine AW.region ?_
        refine AOps.cons (op_eql rfl rfl (vt rfl) (vk rfl)) rfl ?_
        refine AOps.cons (op_assign (A := rd kbool (decide (f1 = 3))) rfl rfl (vt rfl)) rfl ?_
        refine AOps.nil ?_
        refine AW.cond (vt rfl) (fun hc => ?_) (fun hc => ?_)
        · have h := cond_t hc h
          refine AW.seq ?_
          refine AW.region ?_
          refine AOps.cons (op_assign (A := rd kstr { data := #[101, 116, 104, 95, 115, 114, 99] }) rfl rfl (vs (by decide))) rfl ?_
          refine AOps.cons (op_assign (A := rd (kint .i64) 4) rfl rfl (vk rfl)) rfl ?_
          refine AOps.cons (op_assign (A := rd (kint .i64) 48) rfl rfl (vk rfl)) rfl ?_
          refine AOps.cons (op_assign (A := rd kbool true) rfl rfl vb) rfl ?_
          refine AOps.nil ?_
          refine AW.ret ?_
          obtain rfl := Option.some.inj h
          exact ret4 Tryz.results129 rfl (out_tmp rfl) (out_tmp rfl) (out_tmp rfl) (out_tmp rfl)
        · have h := cond_f hc h
          refine AW.seq ?_
          refine AW.region ?_
          refine AOps.cons (op_eql rfl rfl (vt rfl) (vk rfl)) rfl ?_
          refine AOps.cons (op_assign (A := rd kbool (decide (f1 = 4))) rfl rfl (vt rfl)) rfl ?_
          refine AOps.nil ?_
          refine AW.cond (vt rfl) (fun hc => ?_) (fun hc => ?_)
          · have h := cond_t hc h
            refine AW.seq ?_
            refine AW.region ?_
            refine AOps.cons (op_assign (A := rd kstr { data := #[101, 116, 104, 95, 116, 121, 112, 101] }) rfl rfl (vs (by decide))) rfl ?_
            refine AOps.cons (op_assign (A := rd (kint .i64) 5) rfl rfl (vk rfl)) rfl ?_
            refine AOps.cons (op_assign (A := rd (kint .i64) 16) rfl rfl (vk rfl)) rfl ?_
            refine AOps.cons (op_assign (A := rd kbool false) rfl rfl vb) rfl ?_
            refine AOps.nil ?_
            refine AW.ret ?_
            obtain rfl := Option.some.inj h
            exact ret4 Tryz.results129 rfl (out_tmp rfl) (out_tmp rfl) (out_tmp rfl) (out_tmp rfl)
          · have h := cond_f hc h
            refine AW.seq ?_
            refine AW.region ?_
            refine AOps.cons (op_eql rfl rfl (vt rfl) (vk rfl)) rfl ?_
            refine AOps.cons (op_assign (A := rd kbool (decide (f1 = 5))) rfl rfl (vt rfl)) rfl ?_
            refine AOps.nil ?_
            refine AW.cond (vt rfl) (fun hc => ?_) (fun hc => ?_)
            · have h := cond_t hc h
              refine AW.seq ?_
              refine AW.region ?_
              refine AOps.cons (op_assign (A := rd kstr { data := #[118, 108, 97, 110, 95, 118, 105, 100] }) rfl rfl (vs (by decide))) rfl ?_
              refine AOps.cons (op_assign (A := rd (kint .i64) 6) rfl rfl (vk rfl)) rfl ?_
              refine AOps.cons (op_assign (A := rd (kint .i64) 13) rfl rfl (vk rfl)) rfl ?_
              refine AOps.cons (op_assign (A := rd kbool true) rfl rfl vb) rfl ?_
              refine AOps.nil ?_
              refine AW.ret ?_
              obtain rfl := Option.some.inj h
              exact ret4 Tryz.results129 rfl (out_tmp rfl) (out_tmp rfl) (out_tmp rfl) (out_tmp rfl)
            · have h := cond_f hc h
              refine AW.seq ?_
              refine AW.region ?_
              refine AOps.cons (op_eql rfl rfl (vt rfl) (vk rfl)) rfl ?_
              refine AOps.cons (op_assign (A := rd kbool (decide (f1 = 6))) rfl rfl (vt rfl)) rfl ?_
              refine AOps.nil ?_
              refine AW.cond (vt rfl) (fun hc => ?_) (fun hc => ?_)
              · have h := cond_t hc h
                refine AW.seq ?_
                refine AW.region ?_
                refine AOps.cons (op_assign (A := rd kstr { data := #[118, 108, 97, 110, 95, 112, 99, 112] }) rfl rfl (vs (by decide))) rfl ?_
                refine AOps.cons (op_assign (A := rd (kint .i64) 7) rfl rfl (vk rfl)) rfl ?_
                refine AOps.cons (op_assign (A := rd (kint .i64) 3) rfl rfl (vk rfl)) rfl ?_
                refine AOps.cons (op_assign (A := rd kbool false) rfl rfl vb) rfl ?_
                refine AOps.nil ?_
                refine AW.ret ?_
                obtain rfl := Option.some.inj h
                exact ret4 Tryz.results129 rfl (out_tmp rfl) (out_tmp rfl) (out_tmp rfl) (out_tmp rfl)
              · have h := cond_f hc h
                refine AW.seq ?_
                refine AW.region ?_
                refine AOps.cons (op_eql rfl rfl (vt rfl) (vk rfl)) rfl ?_
                refine AOps.cons (op_assign (A := rd kbool (decide (f1 = 7))) rfl rfl (vt rfl)) rfl ?_
                refine AOps.nil ?_
                refine AW.cond (vt rfl) (fun hc => ?_) (fun hc => ?_)
                · have h := cond_t hc h
                  refine AW.seq ?_
                  refine AW.region ?_
                  refine AOps.cons (op_assign (A := rd kstr { data := #[105, 112, 95, 100, 115, 99, 112] }) rfl rfl (vs (by decide))) rfl ?_
                  refine AOps.cons (op_assign (A := rd (kint .i64) 8) rfl rfl (vk rfl)) rfl ?_
                  refine AOps.cons (op_assign (A := rd (kint .i64) 6) rfl rfl (vk rfl)) rfl ?_
                  refine AOps.cons (op_assign (A := rd kbool false) rfl rfl vb) rfl ?_
                  refine AOps.nil ?_
                  refine AW.ret ?_
                  obtain rfl := Option.some.inj h
                  exact ret4 Tryz.results129 rfl (out_tmp rfl) (out_tmp rfl) (out_tmp rfl) (out_tmp rfl)
                · have h := cond_f hc h
                  refine AW.seq ?_
                  refine AW.region ?_
                  refine AOps.cons (op_eql rfl rfl (vt rfl) (vk rfl)) rfl ?_
                  refine AOps.cons (op_assign (A := rd kbool (decide (f1 = 8))) rfl rfl (vt rfl)) rfl ?_
                  refine AOps.nil ?_
                  refine AW.cond (vt rfl) (fun hc => ?_) (fun hc => ?_)
                  · have h := cond_t hc h
                    refine AW.seq ?_
                    refine AW.region ?_
                    refine AOps.cons (op_assign (A := rd kstr { data := #[105, 112, 95, 101, 99, 110] }) rfl rfl (vs (by decide))) rfl ?_
                    refine AOps.cons (op_assign (A := rd (kint .i64) 9) rfl rfl (vk rfl)) rfl ?_
                    refine AOps.cons (op_assign (A := rd (kint .i64) 2) rfl rfl (vk rfl)) rfl ?_
                    refine AOps.cons (op_assign (A := rd kbool false) rfl rfl vb) rfl ?_
                    refine AOps.nil ?_
                    refine AW.ret ?_
                    obtain rfl := Option.some.inj h
                    exact ret4 Tryz.results129 rfl (out_tmp rfl) (out_tmp rfl) (out_tmp rfl) (out_tmp rfl)
                  · have h := cond_f hc h
                    refine AW.seq ?_
                    refine AW.region ?_
                    refine AOps.cons (op_eql rfl rfl (vt rfl) (vk rfl)) rfl ?_
                    refine AOps.cons (op_assign (A := rd kbool (decide (f1 = 9))) rfl rfl (vt rfl)) rfl ?_
                    refine AOps.nil ?_
                    refine AW.cond (vt rfl) (fun hc => ?_) (fun hc => ?_)
                    · have h := cond_t hc h
                      refine AW.seq ?_
                      refine AW.region ?_
                      refine AOps.cons (op_assign (A := rd kstr { data := #[105, 112, 95, 112, 114, 111, 116, 111] }) rfl rfl (vs (by decide))) rfl ?_
                      refine AOps.cons (op_assign (A := rd (kint .i64) 10) rfl rfl (vk rfl)) rfl ?_
                      refine AOps.cons (op_assign (A := rd (kint .i64) 8) rfl rfl (vk rfl)) rfl ?_
                      refine AOps.cons (op_assign (A := rd kbool false) rfl rfl vb) rfl ?_
                      refine AOps.nil ?_
                      refine AW.ret ?_
                      obtain rfl := Option.some.inj h
                      exact ret4 Tryz.results129 rfl (out_tmp rfl) (out_tmp rfl) (out_tmp rfl) (out_tmp rfl)
                    · have h := cond_f hc h
                      refine AW.seq ?_
                      refine AW.region ?_
                      refine AOps.cons (op_eql rfl rfl (vt rfl) (vk rfl)) rfl ?_
                      refine AOps.cons (op_assign (A := rd kbool (decide (f1 = 10))) rfl rfl (vt rfl)) rfl ?_
                      refine AOps.nil ?_
                      refine AW.cond (vt rfl) (fun hc => ?_) (fun hc => ?_)
                      · have h := cond_t hc h
                        refine AW.seq ?_
                        refine AW.region ?_
                        refine AOps.cons (op_assign (A := rd kstr { data := #[105, 112, 118, 52, 95, 115, 114, 99] }) rfl rfl (vs (by decide))) rfl ?_
                        refine AOps.cons (op_assign (A := rd (kint .i64) 11) rfl rfl (vk rfl)) rfl ?_
                        refine AOps.cons (op_assign (A := rd (kint .i64) 32) rfl rfl (vk rfl)) rfl ?_
                        refine AOps.cons (op_assign (A := rd kbool true) rfl rfl vb) rfl ?_
                        refine AOps.nil ?_
                        refine AW.ret ?_
                        obtain rfl := Option.some.inj h
                        exact ret4 Tryz.results129 rfl (out_tmp rfl) (out_tmp rfl) (out_tmp rfl) (out_tmp rfl)
                      · have h := cond_f hc h
                        refine AW.seq ?_
                        refine AW.region ?_
                        refine AOps.cons (op_eql rfl rfl (vt rfl) (vk rfl)) rfl ?_
                        refine AOps.cons (op_assign (A := rd kbool (decide (f1 = 11))) rfl rfl (vt rfl)) rfl ?_
                        refine AOps.nil ?_
                        refine AW.cond (vt rfl) (fun hc => ?_) (fun hc => ?_)
                        · have h := cond_t hc h
                          refine AW.seq ?_
                          refine AW.region ?_
                          refine AOps.cons (op_assign (A := rd kstr { data := #[105, 112, 118, 52, 95, 100, 115, 116] }) rfl rfl (vs (by decide))) rfl ?_
                          refine AOps.cons (op_assign (A := rd (kint .i64) 12) rfl rfl (vk rfl)) rfl ?_
                          refine AOps.cons (op_assign (A := rd (kint .i64) 32) rfl rfl (vk rfl)) rfl ?_
                          refine AOps.cons (op_assign (A := rd kbool true) rfl rfl vb) rfl ?_
                          refine AOps.nil ?_
                          refine AW.ret ?_
                          obtain rfl := Option.some.inj h
                          exact ret4 Tryz.results129 rfl (out_tmp rfl) (out_tmp rfl) (out_tmp rfl) (out_tmp rfl)
                        · have h := cond_f hc h
                          refine AW.skip ?_
                          refine AW.seq ?_
                          obtain ⟨x2, hx2, h⟩ := bsome h
                          refine AW.region ?_
                          refine AOps.cons (op_move (A := rd (kint .i64) f1) rfl rfl (vt rfl)) rfl ?_
                          refine AOps.cons (op_call (xs := [.tmp 31]) (c135 _ _ hx2) (Ent.mk Tryz.func135 rfl rfl) rfl rfl ⟨vt rfl, trivial⟩) rfl ?_
                          refine AOps.cons (op_ext4_0 rfl rfl (vt rfl)) rfl ?_
                          refine AOps.cons (op_ext4_1 rfl rfl (vt rfl)) rfl ?_
                          refine AOps.cons (op_ext4_2 rfl rfl (vt rfl)) rfl ?_
                          refine AOps.cons (op_ext4_3 rfl rfl (vt rfl)) rfl ?_
                          refine AOps.cons (op_assign (A := rd kstr x2.1) rfl rfl (vt rfl)) rfl ?_
                          refine AOps.cons (op_assign (A := rd (kint .i64) x2.2.1) rfl rfl (vt rfl)) rfl ?_
                          refine AOps.cons (op_assign (A := rd (kint .i64) x2.2.2.1) rfl rfl (vt rfl)) rfl ?_
                          refine AOps.cons (op_assign (A := rd kbool x2.2.2.2) rfl rfl (vt rfl)) rfl ?_
                          refine AOps.nil ?_
                          refine AW.ret ?_
                          obtain rfl := Option.some.inj h
                          exact ret4 Tryz.results129 rfl (out_tmp rfl) (out_tmp rfl) (out_tmp rfl) (out_tmp rfl)
-- weirbox/weirboxref03.Bits
def F119 (f1 : Int) : Option Int :=
  (F129 f1).bind fun x2 => some x2.2.2.1
theorem c119 (f1 : Int) (r : Int) (h : F119 f1 = some r) : PCon Tryz.prog 119 [rd (kint .i64) f1] (rd (kint .i64) r) := by
  refine PCon.of (Con.intro0 Tryz.func119 rfl Tryz.ntmps119 rfl fun w H => ?_)
  unfold F119 at h
  refine AW.seq ?_
  refine AW.region ?_
  refine AOps.cons (op_assign (A := rd (kint .i64) 0) rfl rfl (vk rfl)) rfl ?_
  refine AOps.nil ?_
  refine AW.seq ?_
  obtain ⟨x2, hx2, h⟩ := bsome h
  refine AW.region ?_
  refine AOps.cons (op_move (A := rd (kint .i64) f1) rfl rfl (vt rfl)) rfl ?_
  refine AOps.cons (op_call (xs := [.tmp 8]) (c129 _ _ hx2) (Ent.mk Tryz.func129 rfl rfl) rfl rfl ⟨vt rfl, trivial⟩) rfl ?_
  refine AOps.cons (op_move (A := tup4 (rd kstr x2.1) (rd (kint .i64) x2.2.1) (rd (kint .i64) x2.2.2.1) (rd kbool x2.2.2.2)) rfl rfl (vt rfl)) rfl ?_
  refine AOps.cons (op_ext4_0 rfl rfl (vt rfl)) rfl ?_
  refine AOps.cons (op_ext4_1 rfl rfl (vt rfl)) rfl ?_
  refine AOps.cons (op_ext4_2 rfl rfl (vt rfl)) rfl ?_
  refine AOps.cons (op_ext4_3 rfl rfl (vt rfl)) rfl ?_
  refine AOps.cons (op_assign (A := rd kstr x2.1) rfl rfl (vt rfl)) rfl ?_
  refine AOps.cons (op_assign (A := rd (kint .i64) x2.2.1) rfl rfl (vt rfl)) rfl ?_
  refine AOps.cons (op_assign (A := rd (kint .i64) x2.2.2.1) rfl rfl (vt rfl)) rfl ?_
  refine AOps.cons (op_assign (A := rd kbool x2.2.2.2) rfl rfl (vt rfl)) rfl ?_
  refine AOps.nil ?_
  refine AW.seq ?_
  refine AW.region ?_
  refine AOps.cons (op_move (A := rd (kint .i64) x2.2.2.1) rfl rfl (vt rfl)) rfl ?_
  refine AOps.cons (op_assign (A := rd (kint .i64) x2.2.2.1) rfl rfl (vt rfl)) rfl ?_
  refine AOps.nil ?_
  refine AW.ret ?_
  obtain rfl := Option.some.inj h
  exact ret1 Tryz.results119 rfl (out_tmp rfl)
-- weirbox/weirboxref02.Bit
def F85 (i1 : Int) : Option Wide :=
  (bif ((decide (i1 < 0)) || (decide (i1 > 127))) then some (⟨0, 0⟩ : Wide) else (bif (decide (i1 < 64)) then (oushl (1 : BitVec 64) ((BitVec.ofInt 64 i1).toNat : Int)).bind fun q3 => some (⟨0, q3⟩ : Wide) else (oushl (1 : BitVec 64) ((BitVec.ofInt 64 (IntKind.i64.wrap (i1 - 64))).toNat : Int)).bind fun q4 => some (⟨q4, 0⟩ : Wide)))
theorem c85 (i1 : Int) (r : Wide) (h : F85 i1 = some r) : PCon Tryz.prog 85 [rd (kint .i64) i1] (rd kWide r) := by
  refine PCon.of (Con.intro0 Tryz.func85 rfl Tryz.ntmps85 rfl fun w H => ?_)
  unfold F85 at h
  refine AW.seq ?_
  refine AW.region ?_
  refine AOps.consT rfl (op_alloc 3 rfl rfl zr29) ?_
  rintro _ ⟨g2, rfl⟩
  refine AOps.nil ?_
  refine AW.seq ?_
  refine AW.block ?_
  refine AW.seq ?_
  refine AW.region ?_
  refine AOps.cons (op_move (A := rd (kint .i64) i1) rfl rfl (vt rfl)) rfl ?_
  refine AOps.cons (op_lss rfl rfl (vt rfl) (vk rfl)) rfl ?_
  refine AOps.cons (op_move (A := rd kbool (decide (i1 < 0))) rfl rfl (vt rfl)) rfl ?_
  refine AOps.consG (OpG.guard rfl rfl rfl rfl rfl fun hq => op_move (A := rd (kint .i64) i1) rfl rfl (vt rfl)) ?_
  refine AOps.consG (OpG.guard rfl rfl rfl rfl rfl fun hq => op_gtr rfl rfl (vgt rfl hq) (vk rfl)) ?_
  refine AOps.cons (op_any rfl rfl (vt rfl) (vt rfl)) rfl ?_
  refine AOps.cons (op_assign (A := rd kbool ((decide (i1 < 0)) || (decide (i1 > 127)))) rfl rfl (vt rfl)) rfl ?_
  refine AOps.nil ?_
  refine AW.cond (vt rfl) (fun hc => ?_) (fun hc => ?_)
  · have h := cond_t hc h
    refine AW.seq ?_
    refine AW.region ?_
    refine AOps.cons (op_build (ps := []) (x := (⟨0, 0⟩ : Wide)) rfl rfl rfl (by kernel_rfl) zr29 rfl) rfl ?_
    refine AOps.cons (op_store rfl rfl ty29 (vt rfl) (i := 3) rfl (vt rfl)) rfl ?_
    refine AOps.nil ?_
    refine AW.ret ?_
    obtain rfl := Option.some.inj h
    exact ret1 Tryz.results85 rfl (out_cell rfl (i := 3) rfl ty29)
  · have h := cond_f hc h
    refine AW.seq ?_
    refine AW.region ?_
    refine AOps.cons (op_move (A := rd (kint .i64) i1) rfl rfl (vt rfl)) rfl ?_
    refine AOps.cons (op_lss rfl rfl (vt rfl) (vk rfl)) rfl ?_
    refine AOps.cons (op_assign (A := rd kbool (decide (i1 < 64))) rfl rfl (vt rfl)) rfl ?_
    refine AOps.nil ?_
    refine AW.cond (vt rfl) (fun hc => ?_) (fun hc => ?_)
    · have h := cond_t hc h
      refine AW.seq ?_
      obtain ⟨q3, hq3, h⟩ := bsome h
      refine AW.region ?_
      refine AOps.cons (op_move (A := rd (kint .i64) i1) rfl rfl (vt rfl)) rfl ?_
      refine AOps.cons (op_convu rfl rfl us3 un143 (vt rfl)) rfl ?_
      refine AOps.cons (op_ushl rfl rfl (vku (1 : BitVec 64) rfl) (vu64 (vt rfl)) hq3) rfl ?_
      refine AOps.cons (op_build (ps := [(1, .tmp 16)]) (x := (⟨0, q3⟩ : Wide)) rfl rfl rfl (by kernel_rfl) zr29 ⟨_, _, lWide_1, _, by kernel_rfl, (vt rfl), rfl⟩) rfl ?_
      refine AOps.cons (op_store rfl rfl ty29 (vt rfl) (i := 3) rfl (vt rfl)) rfl ?_
      refine AOps.nil ?_
      refine AW.ret ?_
      obtain rfl := Option.some.inj h
      exact ret1 Tryz.results85 rfl (out_cell rfl (i := 3) rfl ty29)
    · have h := cond_f hc h
      refine AW.skip ?_
      refine AW.seq ?_
      obtain ⟨q4, hq4, h⟩ := bsome h
      refine AW.region ?_
      refine AOps.cons (op_move (A := rd (kint .i64) i1) rfl rfl (vt rfl)) rfl ?_
      refine AOps.cons (op_sub rfl rfl (vt rfl) (vk rfl)) rfl ?_
      refine AOps.cons (op_convu rfl rfl us3 un143 (vt rfl)) rfl ?_
      refine AOps.cons (op_ushl rfl rfl (vku (1 : BitVec 64) rfl) (vu64 (vt rfl)) hq4) rfl ?_
      refine AOps.cons (op_build (ps := [(0, .tmp 21)]) (x := (⟨q4, 0⟩ : Wide)) rfl rfl rfl (by kernel_rfl) zr29 ⟨_, _, lWide_0, _, by kernel_rfl, (vt rfl), rfl⟩) rfl ?_
      refine AOps.cons (op_store rfl rfl ty29 (vt rfl) (i := 3) rfl (vt rfl)) rfl ?_
      refine AOps.nil ?_
      refine AW.ret ?_
      obtain rfl := Option.some.inj h
      exact ret1 Tryz.results85 rfl (out_cell rfl (i := 3) rfl ty29)
-- weirbox/weirboxref02.Or
def F75 (a1 : Wide) (b2 : Wide) : Option Wide :=
  some (⟨(a1.Hi ||| b2.Hi), (a1.Lo ||| b2.Lo)⟩ : Wide)
theorem c75 (a1 : Wide) (b2 : Wide) (r : Wide) (h : F75 a1 b2 = some r) : PCon Tryz.prog 75 [rd kWide a1, rd kWide b2] (rd kWide r) := by
  refine PCon.of (Con.intro0 Tryz.func75 rfl Tryz.ntmps75 rfl fun w H => ?_)
  unfold F75 at h
  refine AW.seq ?_
  refine AW.region ?_
  refine AOps.consT rfl (op_box 3 rfl rfl (vt rfl)) ?_
  rintro _ ⟨g3, rfl⟩
  refine AOps.consT rfl (op_box 4 rfl rfl (vt rfl)) ?_
  rintro _ ⟨g4, rfl⟩
  refine AOps.consT rfl (op_alloc 5 rfl rfl zr29) ?_
  rintro _ ⟨g5, rfl⟩
  refine AOps.nil ?_
  refine AW.seq ?_
  refine AW.region ?_
  refine AOps.cons (op_field lWide_0 rfl rfl fl29_0 (vt rfl)) rfl ?_
  refine AOps.cons (op_load rfl rfl ty27 (vt rfl) (i := 3) rfl) rfl ?_
  refine AOps.cons (op_field lWide_0 rfl rfl fl29_0 (vt rfl)) rfl ?_
  refine AOps.cons (op_load rfl rfl ty27 (vt rfl) (i := 4) rfl) rfl ?_
  refine AOps.cons (op_or rfl rfl (vt rfl) (vt rfl)) rfl ?_
  refine AOps.cons (op_field lWide_1 rfl rfl fl29_1 (vt rfl)) rfl ?_
  refine AOps.cons (op_load rfl rfl ty27 (vt rfl) (i := 3) rfl) rfl ?_
  refine AOps.cons (op_field lWide_1 rfl rfl fl29_1 (vt rfl)) rfl ?_
  refine AOps.cons (op_load rfl rfl ty27 (vt rfl) (i := 4) rfl) rfl ?_
  refine AOps.cons (op_or rfl rfl (vt rfl) (vt rfl)) rfl ?_
  refine AOps.cons (op_build (ps := [(0, .tmp 9), (1, .tmp 14)]) (x := (⟨(a1.Hi ||| b2.Hi), (a1.Lo ||| b2.Lo)⟩ : Wide)) rfl rfl rfl (by kernel_rfl) zr29 ⟨_, _, lWide_0, _, by kernel_rfl, (vt rfl), _, _, lWide_1, _, by kernel_rfl, (vt rfl), rfl⟩) rfl ?_
  refine AOps.cons (op_store rfl rfl ty29 (vt rfl) (i := 5) rfl (vt rfl)) rfl ?_
  refine AOps.nil ?_
  refine AW.ret ?_
  obtain rfl := Option.some.inj h
  exact ret1 Tryz.results75 rfl (out_cell rfl (i := 5) rfl ty29)
-- weirbox/weirboxref02.Low
def F86_l1 (n1 : Int) : Nat → Wide → Int → Option Wide
  | 0, _, _ => none
  | m8 + 1, b6, i7 => (bif ((decide (i7 < n1)) && (decide (i7 < 128))) then (F85 i7).bind fun x9 => (F75 b6 x9).bind fun x10 => (F86_l1 n1 m8) x10 (IntKind.i64.wrap (i7 + 1)) else some b6)
def F86 (n1 : Int) : Option Wide :=
  F86_l1 n1 fuel0 (⟨0, 0⟩ : Wide) 0
theorem c86 (n1 : Int) (r : Wide) (h : F86 n1 = some r) : PCon Tryz.prog 86 [rd (kint .i64) n1] (rd kWide r) := by
  refine PCon.of (Con.intro0 Tryz.func86 rfl Tryz.ntmps86 rfl fun w H => ?_)
  unfold F86 at h
  refine AW.seq ?_
  refine AW.region ?_
  refine AOps.consT rfl (op_alloc 3 rfl rfl zr29) ?_
  rintro _ ⟨g2, rfl⟩
  refine AOps.nil ?_
  refine AW.seq ?_
  refine AW.region ?_
  refine AOps.cons (op_build (ps := []) (x := (⟨0, 0⟩ : Wide)) rfl rfl rfl (by kernel_rfl) zr29 rfl) rfl ?_
  refine AOps.consT rfl (op_alloc 4 rfl rfl zr29) ?_
  rintro _ ⟨g3, rfl⟩
  refine AOps.cons (op_store rfl rfl ty29 (vt rfl) (i := 4) rfl (vt rfl)) rfl ?_
  refine AOps.nil ?_
  refine AW.seq ?_
  refine AW.seq ?_
  refine AW.region ?_
  refine AOps.cons (op_assign (A := rd (kint .i64) 0) rfl rfl (vk rfl)) rfl ?_
  refine AOps.nil ?_
  refine AW.block ?_
  refine AW.loopG (d := []) (ν := Nat × Wide × Int) (fun n => True ∧ F86_l1 n1 n.1 n.2.1 n.2.2 = some r) (fun n => n.1) (fun n => [(0, rd (kint .i64) n1), (2, ptrL g2 (Lens.id kWide)), (3, ptrL g3 (Lens.id kWide)), (4, rd (kint .i64) n.2.2)]) (fun n => [(3, Blk g2 29 kWide zWide), (4, Blk g3 29 kWide n.2.1)]) (fuel0, (⟨0, 0⟩ : Wide), 0) ⟨trivial, h⟩ ⟨rfl, ⟨rfl, rfl, rfl, rfl, trivial⟩, ⟨rfl, rfl, trivial⟩⟩ ?_
  rintro ⟨m8, b6, i7⟩ ⟨hsf1, h⟩
  change True at hsf1
  change F86_l1 n1 m8 b6 i7 = some r at h
  change AW _ _ _ ⟨slots [(0, rd (kint .i64) n1), (2, ptrL g2 (Lens.id kWide)), (3, ptrL g3 (Lens.id kWide)), (4, rd (kint .i64) i7)], ress [(3, Blk g2 29 kWide zWide), (4, Blk g3 29 kWide b6)], _⟩
  cases m8 with
  | zero => cases h
  | succ m8 =>
    unfold F86_l1 at h
    generalize hgo1 : F86_l1 n1 m8 = go1 at h
    refine AW.seq ?_
    refine AW.seq ?_
    refine AW.region ?_
    refine AOps.cons (op_move (A := rd (kint .i64) i7) rfl rfl (vt rfl)) rfl ?_
    refine AOps.cons (op_move (A := rd (kint .i64) n1) rfl rfl (vt rfl)) rfl ?_
    refine AOps.cons (op_lss rfl rfl (vt rfl) (vt rfl)) rfl ?_
    refine AOps.cons (op_move (A := rd kbool (decide (i7 < n1))) rfl rfl (vt rfl)) rfl ?_
    refine AOps.consG (OpG.guard rfl rfl rfl rfl rfl fun hq => op_move (A := rd (kint .i64) i7) rfl rfl (vt rfl)) ?_
    refine AOps.consG (OpG.guard rfl rfl rfl rfl rfl fun hq => op_lss rfl rfl (vgt rfl hq) (vk rfl)) ?_
    refine AOps.cons (op_all rfl rfl (vt rfl) (vt rfl)) rfl ?_
    refine AOps.nil ?_
    refine AW.cond (vt rfl) (fun hc => ?_) (fun hc => ?_)
    · have h := cond_t hc h
      refine AW.skip ?_
      refine AW.seq ?_
      refine AW.block ?_
      obtain ⟨x9, hx9, h⟩ := bsome h
      obtain ⟨x10, hx10, h⟩ := bsome h
      refine AW.regionAny [⟨[3], [15], [4], []⟩, ⟨[4], [16], [], []⟩, ⟨[16], [17], [], []⟩, ⟨[15, 17], [18], [], []⟩, ⟨[3, 18], [], [4], [4]⟩] mixed (by kernel_rfl) ?_
      refine SeqA.cons (loc [3] [4] rfl rfl fun S hs hr => op_load rfl rfl ty29 (vt ((hs 3 rfl).trans rfl)) (i := 4) ((hr 4 rfl).trans rfl)) ⟨rfl, rfl, rfl, rfl⟩ ?_
      refine SeqA.cons (loc [4] [] rfl rfl fun S hs hr => op_move (A := rd (kint .i64) i7) rfl rfl (vt ((hs 4 rfl).trans rfl))) ⟨rfl, rfl, rfl, rfl⟩ ?_
      refine SeqA.cons (loc [16] [] rfl rfl fun S hs hr => op_call (xs := [.tmp 16]) (c85 _ _ hx9) (Ent.mk Tryz.func85 rfl rfl) rfl rfl ⟨vt ((hs 16 rfl).trans rfl), trivial⟩) ⟨rfl, rfl, rfl, rfl⟩ ?_
      refine SeqA.cons (loc [15, 17] [] rfl rfl fun S hs hr => op_call (xs := [.tmp 15, .tmp 17]) (c75 _ _ _ hx10) (Ent.mk Tryz.func75 rfl rfl) rfl rfl ⟨vt ((hs 15 rfl).trans rfl), vt ((hs 17 rfl).trans rfl), trivial⟩) ⟨rfl, rfl, rfl, rfl⟩ ?_
      refine SeqA.cons (locr [3, 18] [4] rfl fun S hs hr => op_store rfl rfl ty29 (vt ((hs 3 rfl).trans rfl)) (i := 4) ((hr 4 rfl).trans rfl) (vt ((hs 18 rfl).trans rfl))) ⟨rfl, rfl, rfl, rfl⟩ ?_
      refine AW.region ?_
      refine AOps.cons (op_move (A := rd (kint .i64) i7) rfl rfl (vt rfl)) rfl ?_
      refine AOps.cons (op_add rfl rfl (vt rfl) (vk rfl)) rfl ?_
      refine AOps.cons (op_assign (A := rd (kint .i64) (IntKind.i64.wrap (i7 + 1))) rfl rfl (vt rfl)) rfl ?_
      refine AOps.nil ?_
      subst hgo1
      exact ⟨(m8, x10, (IntKind.i64.wrap (i7 + 1))), Nat.lt_succ_self _, ⟨trivial, h⟩, ⟨rfl, ⟨rfl, rfl, rfl, rfl, trivial⟩, ⟨rfl, rfl, trivial⟩⟩⟩
    · have h := cond_f hc h
      refine AW.exit ?_
      refine AW.seq ?_
      refine AW.region ?_
      refine AOps.cons (op_load rfl rfl ty29 (vt rfl) (i := 4) rfl) rfl ?_
      refine AOps.cons (op_store rfl rfl ty29 (vt rfl) (i := 3) rfl (vt rfl)) rfl ?_
      refine AOps.nil ?_
      refine AW.ret ?_
      obtain rfl := Option.some.inj h
      exact ret1 Tryz.results86 rfl (out_cell rfl (i := 3) rfl ty29)
end Go.Proofs.YtokmmcflinnfiaaGreat.W
